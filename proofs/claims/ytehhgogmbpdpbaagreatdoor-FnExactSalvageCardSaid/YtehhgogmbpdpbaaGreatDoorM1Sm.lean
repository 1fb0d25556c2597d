/-
  Sets of texts in a map. No program is named here.
-/
import Derived.Test.YtehhgogmbpdpbaaGreatDoorM1Wag
import Derived.Test.YtehhgogmbpdpbaaGreatDoorM1Be
import Derived.StringKeys
namespace Go.Proofs.YtehhgogmbpdpbaaGreatDoor
open Go.RowKit Go.Maps Go.ChangeMaps Go.MapKept Go.WideMaps
set_option linter.unusedVariables false

/-- Block b is a set: it holds just the texts of l, each once in l. -/
def SSet (P : Program) (k e : TypeId) (w : World) (b : Nat) (l : List ByteArray) : Prop :=
  l.Nodup ∧ ∃ D : DataW Unit, w.ownsMap P k (plainElem P e) b l.length D ∧ Maps.size D = l.length ∧ ∀ i : ByteArray, has D (.string i.data.toList) = l.contains i ∧ D.atKey (.string i.data.toList) (.lit (.bool false)) = .lit (.bool (l.contains i))
section
variable {P : Program} {k e : TypeId} {w w' : World} {b : Nat} {l : List ByteArray}
theorem SSet.made (w : World) : SSet P k e (w.alloc (.map #[] 0)) w.heap.size [] :=
  ⟨List.nodup_nil, .map [], World.ownsMap_made w P k _, rfl, fun i => ⟨rfl, by simp [DataW.atKey]⟩⟩
theorem SSet.lt (h : SSet P k e w b l) : b < w.heap.size := by obtain ⟨_, D, h, _⟩ := h; exact h.lt
theorem SSet.same (h : SSet P k e w b l) (hk : w'.heap[b]? = w.heap[b]?) : SSet P k e w' b l := by
  obtain ⟨h0, D, ⟨es, clock, hb, F, hs, hD⟩, h2⟩ := h
  exact ⟨h0, D, ⟨es, clock, hk.trans hb, F, hs, hD⟩, h2⟩
theorem SSet.up (h : SSet P k e w b l) (u : Up w w') : SSet P k e w' b l := h.same (u.block b h.lt)
theorem SSet.drew (h : SSet P k e w b l) : SSet P k e w.drew b l := h
theorem SSet.ne (h : SSet P k e w b l) {g : Nat} {t : TypeId} {C : Array Value} (hk : Bk w g t C) : g ≠ b := by
  rintro rfl
  obtain ⟨_, D, ⟨es, clock, hb, _⟩, _⟩ := h
  unfold Bk at hk
  rw [hk] at hb
  cases hb
theorem SSet.but {g : Nat} (h : SSet P k e w b l) (u : But g w w') (hg : b ≠ g) : SSet P k e w' b l := h.same (u.block b hg)
theorem SSet.look {t : TypeId} (h : SSet P k e w b l) (hk : P.underlying k = some .string) (ht : P.underlying t = some (.map k e)) (he : P.underlying e = some .bool) (hz : (zeroValue e).run P w = .ok (.bool false) w) {i : ByteArray} (hi : i.size ≤ maxLen) :
    (Instr.lookup t (.map (some b)) (.string i) false).run P w = .ok (.bool (l.contains i)) w := by
  obtain ⟨_, D, ho, _, hf⟩ := h
  obtain ⟨v, ps, hrun, hv⟩ := ho.lookup (string_keyed hk) ht hz (plainElem_bool he false) (keyOf_string_mk hk hi)
  obtain ⟨x, rfl, hx⟩ := plainElem_bool_inv he hv
  rw [(hf i).2] at hx
  simp only [Prod.mk.injEq, DataW.lit.injEq, Lit.bool.injEq] at hx
  rw [hrun, hx.1]
theorem SSet.add {t : TypeId} (h : SSet P k e w b l) (hk : P.underlying k = some .string) (ht : P.underlying t = some (.map k e)) (he : P.underlying e = some .bool) (hn : l.length < maxLen) {i : ByteArray} (hi : i.size ≤ maxLen) (hni : l.contains i = false) :
    ∃ w', (Instr.mapUpdate t (.map (some b)) (.string i) (.bool true)).run P w = .ok () w' ∧ SSet P k e w' b (l ++ [i]) ∧ But b w w' := by
  obtain ⟨h0, D, ho, hs, hf⟩ := h
  have hm := ho.isMap
  have hT := ho.tidy (string_keyed hk)
  obtain ⟨w', hrun, ho', hg⟩ := ho.store (string_keyed hk) ht hn (keyOf_string_mk hk hi) (plainElem_bool he true)
  refine ⟨w', hrun, ⟨?_, _, by rw [List.length_append]; exact ho', ?_, fun j => ?_⟩, but_of_turned hg⟩
  · refine List.nodup_append.2 ⟨h0, by simp, ?_⟩
    rintro a ha c hc rfl
    obtain rfl : a = i := by simpa using hc
    simp at hni
    exact hni ha
  · rw [size_put hT, (hf i).1, hni, hs, List.length_append]
    rfl
  · by_cases e : j = i
    · subst e
      have hc : (l ++ [j]).contains j = true := by simp
      rw [hc, atKey_put_same hm (by simp [WideAt.IsKeyLit])]
      exact ⟨has_put_same hm (by simp [WideAt.IsKeyLit]) _, rfl⟩
    · have hc : (l ++ [i]).contains j = l.contains j := by
        rw [Bool.eq_iff_iff]
        simp [e]
      have hne : (Lit.string j.data.toList) ≠ .string i.data.toList := fun h => by
        injection h with h
        exact e (ByteArray.ext (Array.toList_inj.1 h))
      rw [hc, has_put_other hne, atKey_put_other hne]
      exact hf j
end
end Go.Proofs.YtehhgogmbpdpbaaGreatDoor
