/-
  Salvaged records: put to their places, or taken once and sorted (plain; for Salvage).
-/
import Derived.Test.YtehhgogmbpdpbaaGreatDoorM1Xe
import Derived.Test.YtehhgogmbpdpbaaGreatDoorM1Be
namespace Go.Proofs.YtehhgogmbpdpbaaGreatDoor
open Go.RowKit
set_option linter.unusedVariables false
set_option linter.unusedSimpArgs false

def putRec (l : List TRecord) (r : TRecord) : List TRecord :=
  match l with
  | [] => [r]
  | a :: l => if bytesLt a.1 r.1 = true then a :: putRec l r else if a.1 = r.1 then a :: l else r :: a :: l
def putRecs (l rs : List TRecord) : List TRecord := rs.foldl putRec l
def addRec (l : List TRecord) (r : TRecord) : List TRecord := if (l.map (·.1)).contains r.1 = true then l else l ++ [r]
def firsts (l rs : List TRecord) : List TRecord := rs.foldl addRec l
def Asc (l : List TRecord) : Prop := l.Pairwise (fun a b => bytesLt a.1 b.1 = true)
theorem putRec_mem : ∀ {l : List TRecord} {r : TRecord}, Asc l → ∀ x, x ∈ putRec l r ↔ x ∈ l ∨ (x = r ∧ ∀ a ∈ l, a.1 ≠ r.1)
  | [], r, _, x => by simp [putRec]
  | a :: l, r, h, x => by
    obtain ⟨h1, h2⟩ := List.pairwise_cons.1 h
    have ih := putRec_mem (r := r) h2 x
    unfold putRec
    rcases lo_bytes.three a.1 r.1 with ⟨e1, _, e3, _⟩ | ⟨e1, e2, _, _⟩ | ⟨e1, e2, e3, _⟩
    · rw [if_pos e1, List.mem_cons, ih, List.mem_cons]
      constructor
      · rintro (h | h | ⟨h, k⟩)
        · exact .inl (.inl h)
        · exact .inl (.inr h)
        · exact .inr ⟨h, fun b hb => by
            rcases List.mem_cons.1 hb with rfl | hb
            · exact e3
            · exact k b hb⟩
      · rintro ((h | h) | ⟨h, k⟩)
        · exact .inl h
        · exact .inr (.inl h)
        · exact .inr (.inr ⟨h, fun b hb => k b (List.mem_cons_of_mem _ hb)⟩)
    · rw [if_neg (by rw [e2]; decide), if_pos e1]
      constructor
      · exact fun h => .inl h
      · rintro (h | ⟨_, k⟩)
        · exact h
        · exact absurd e1 (k a (List.mem_cons_self ..))
    · rw [if_neg (by rw [e1]; decide), if_neg e3, List.mem_cons]
      constructor
      · rintro (h | h)
        · refine .inr ⟨h, fun b hb => ?_⟩
          rcases List.mem_cons.1 hb with rfl | hb
          · exact e3
          · intro e
            have := lo_bytes.tr _ _ _ e2 (h1 b hb)
            rw [e, lo_bytes.irr] at this
            cases this
        · exact .inl h
      · rintro (h | ⟨h, _⟩)
        · exact .inr h
        · exact .inl h
theorem putRec_asc : ∀ {l : List TRecord} {r : TRecord}, Asc l → Asc (putRec l r)
  | [], r, _ => by simp [putRec, Asc]
  | a :: l, r, h => by
    obtain ⟨h1, h2⟩ := List.pairwise_cons.1 h
    have ih := putRec_asc (r := r) h2
    have hm := putRec_mem (r := r) h2
    unfold putRec
    rcases lo_bytes.three a.1 r.1 with ⟨e1, _, e3, _⟩ | ⟨e1, e2, _, _⟩ | ⟨e1, e2, e3, _⟩
    · rw [if_pos e1]
      refine List.pairwise_cons.2 ⟨fun b hb => ?_, ih⟩
      rcases (hm b).1 hb with hb | ⟨rfl, _⟩
      · exact h1 b hb
      · exact e1
    · rw [if_neg (by rw [e2]; decide), if_pos e1]; exact h
    · rw [if_neg (by rw [e1]; decide), if_neg e3]
      refine List.pairwise_cons.2 ⟨fun b hb => ?_, h⟩
      rcases List.mem_cons.1 hb with rfl | hb
      · exact e2
      · exact lo_bytes.tr _ _ _ e2 (h1 b hb)
theorem key_in {l : List TRecord} {k : ByteArray} : (l.map (·.1)).contains k = true ↔ ∃ a ∈ l, a.1 = k := by
  rw [List.contains_iff_mem, List.mem_map]
theorem addRec_mem (l : List TRecord) (r x : TRecord) : x ∈ addRec l r ↔ x ∈ l ∨ (x = r ∧ ∀ a ∈ l, a.1 ≠ r.1) := by
  unfold addRec
  by_cases h : (l.map (·.1)).contains r.1 = true
  · rw [if_pos h]
    obtain ⟨a, ha, e⟩ := key_in.1 h
    exact ⟨fun h => .inl h, fun hh => hh.elim id (fun k => absurd e (k.2 a ha))⟩
  · rw [if_neg h, List.mem_append, List.mem_singleton]
    constructor
    · rintro (k | k)
      · exact .inl k
      · exact .inr ⟨k, fun a ha e => h (key_in.2 ⟨a, ha, e⟩)⟩
    · rintro (k | ⟨k, _⟩)
      · exact .inl k
      · exact .inr k
theorem addRec_nd {l : List TRecord} (h : (l.map (·.1)).Nodup) (r : TRecord) : ((addRec l r).map (·.1)).Nodup := by
  unfold addRec
  by_cases hc : (l.map (·.1)).contains r.1 = true
  · rw [if_pos hc]; exact h
  · rw [if_neg hc, List.map_append]
    refine List.nodup_append.2 ⟨h, by simp, ?_⟩
    rintro a ha b hb rfl
    have hb' : a = r.1 := by simpa using hb
    rw [hb'] at ha
    exact hc (List.contains_iff_mem.2 ha)
theorem addRec_len (l : List TRecord) (r : TRecord) : (addRec l r).length ≤ l.length + 1 := by
  unfold addRec
  split
  · omega
  · simp
theorem firsts_len : ∀ (rs l : List TRecord), (firsts l rs).length ≤ l.length + rs.length
  | [], l => by simp [firsts]
  | r :: rs, l => by
    have h1 := firsts_len rs (addRec l r)
    have h2 := addRec_len l r
    show (firsts (addRec l r) rs).length ≤ _
    simp only [List.length_cons]
    omega
theorem putRec_len (l : List TRecord) (r : TRecord) : (putRec l r).length ≤ l.length + 1 := by
  induction l with
  | nil => simp [putRec]
  | cons a l ih =>
    unfold putRec
    split
    · simp only [List.length_cons]; omega
    · split <;> simp
theorem putRecs_len : ∀ (rs l : List TRecord), (putRecs l rs).length ≤ l.length + rs.length
  | [], l => by simp [putRecs]
  | r :: rs, l => by
    have h1 := putRecs_len rs (putRec l r)
    have h2 := putRec_len l r
    show (putRecs (putRec l r) rs).length ≤ _
    simp only [List.length_cons]
    omega
theorem firsts_nd : ∀ (rs l : List TRecord), (l.map (·.1)).Nodup → ((firsts l rs).map (·.1)).Nodup
  | [], l, h => h
  | r :: rs, l, h => firsts_nd rs _ (addRec_nd h r)
theorem puts_same : ∀ (rs l m : List TRecord), Asc l → (∀ x, x ∈ l ↔ x ∈ m) → Asc (putRecs l rs) ∧ ∀ x, x ∈ putRecs l rs ↔ x ∈ firsts m rs
  | [], l, m, h, hm => ⟨h, hm⟩
  | r :: rs, l, m, h, hm => puts_same rs (putRec l r) (addRec m r) (putRec_asc h) fun x => by
    rw [putRec_mem h, addRec_mem, hm x]
    have e : (∀ a ∈ l, a.1 ≠ r.1) ↔ (∀ a ∈ m, a.1 ≠ r.1) := ⟨fun k a ha => k a ((hm a).2 ha), fun k a ha => k a ((hm a).1 ha)⟩
    rw [e]
theorem asc_eq : ∀ (l m : List TRecord), Asc l → Asc m → (∀ x, x ∈ l ↔ x ∈ m) → l = m
  | [], [], _, _, _ => rfl
  | [], b :: m, _, _, h => by have := (h b).2 (by simp); simp at this
  | a :: l, [], _, _, h => by have := (h a).1 (by simp); simp at this
  | a :: l, b :: m, hl, hm, h => by
    obtain ⟨l1, l2⟩ := List.pairwise_cons.1 hl
    obtain ⟨m1, m2⟩ := List.pairwise_cons.1 hm
    have no : ∀ c : TRecord, ¬ bytesLt c.1 c.1 = true := fun c hc => by rw [lo_bytes.irr] at hc; cases hc
    have e : a = b := by
      rcases List.mem_cons.1 ((h a).1 (by simp)) with e | ha
      · exact e
      · rcases List.mem_cons.1 ((h b).2 (by simp)) with e | hb
        · exact e.symm
        · exact absurd (lo_bytes.tr _ _ _ (m1 a ha) (l1 b hb)) (no b)
    subst e
    rw [asc_eq l m l2 m2 fun x => ?_]
    constructor
    · intro hx
      rcases List.mem_cons.1 ((h x).1 (by simp [hx])) with e | hx'
      · exact absurd (l1 x hx) (by rw [e]; exact no a)
      · exact hx'
    · intro hx
      rcases List.mem_cons.1 ((h x).2 (by simp [hx])) with e | hx'
      · exact absurd (m1 x hx) (by rw [e]; exact no a)
      · exact hx'
/-- Records taken once and sorted are the records put to their places. -/
theorem sort_firsts {rs l : List TRecord} (hp : l.Perm (firsts [] rs)) (hs : l.Pairwise (fun a b => bytesLt b.1 a.1 = false)) : l = putRecs [] rs := by
  obtain ⟨h1, h2⟩ := puts_same rs [] [] List.Pairwise.nil (fun x => Iff.rfl)
  have hn : (l.map (·.1)).Nodup := (hp.map (·.1)).nodup_iff.2 (firsts_nd rs [] List.nodup_nil)
  have hn' : l.Pairwise (fun a b => a.1 ≠ b.1) := List.pairwise_map.1 hn
  have ha : Asc l := by
    refine (hs.and hn').imp ?_
    rintro a b ⟨k1, k2⟩
    rcases lo_bytes.three a.1 b.1 with ⟨e1, _⟩ | ⟨e1, _⟩ | ⟨_, e2, _⟩
    · exact e1
    · exact absurd e1 k2
    · rw [k1] at e2; cases e2
  exact asc_eq _ _ ha h1 fun x => (hp.mem_iff).trans (h2 x).symm
/-- The records of a page that may be salvaged, up to the k-th. -/
def leafTo (p : TPage) (k : Nat) : List TRecord := if p.1 = true ∧ pageB p = true then recsTo p k else []
def leafRecs (p : TPage) : List TRecord := leafTo p p.2.1.length
def rawTo (x : List TSlot) (i : Nat) : List TRecord := (x.take i).flatMap (fun s => leafRecs s.2)
def salvB (x : TBtree) : List TRecord := if x.2.length ≤ 64 then putRecs [] (rawTo x.2 x.2.length) else []
def salvC (x : TBtree) : Int := if x.2.length ≤ 64 then 0 else 1
theorem rawTo_succ {x : List TSlot} {i : Nat} (h : i < x.length) : rawTo x (i + 1) = rawTo x i ++ leafRecs x[i].2 := by
  unfold rawTo
  rw [List.take_succ_eq_append_getElem h, List.flatMap_append]
  simp
theorem leafTo_len (p : TPage) {k : Nat} (hk : k ≤ p.2.1.length) : (leafTo p k).length ≤ 6 := by
  unfold leafTo
  split
  · rename_i h
    rw [recsTo_len]
    have := page_len h.2
    omega
  · exact Nat.zero_le _
theorem rawTo_len (x : List TSlot) : ∀ {i : Nat}, i ≤ x.length → (rawTo x i).length ≤ 6 * i
  | 0, _ => by simp [rawTo]
  | i + 1, h => by
    have h1 := rawTo_len x (i := i) (by omega)
    have h2 : (leafRecs x[i].2).length ≤ 6 := leafTo_len _ (Nat.le_refl _)
    rw [rawTo_succ (by omega), List.length_append]
    omega
theorem salv_len (x : TBtree) : (salvB x).length ≤ 384 := by
  unfold salvB
  split
  · rename_i h
    have h1 := putRecs_len (rawTo x.2 x.2.length) []
    have h2 := rawTo_len x.2 (Nat.le_refl _)
    simp only [List.length_nil] at h1
    omega
  · exact Nat.zero_le _
theorem putRecs_snoc (l rs : List TRecord) (r : TRecord) : putRecs l (rs ++ [r]) = putRec (putRecs l rs) r := by unfold putRecs; rw [List.foldl_append]; rfl
theorem firsts_snoc (l rs : List TRecord) (r : TRecord) : firsts l (rs ++ [r]) = addRec (firsts l rs) r := by unfold firsts; rw [List.foldl_append]; rfl
end Go.Proofs.YtehhgogmbpdpbaaGreatDoor
