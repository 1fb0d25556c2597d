/-
  TopOk: the program's and the reference's compute one function of a superblock.
  Rising numbers within bounds: rising, allWithin, l00Rises.
  slices.Grow and slices.Concat at seats; small questions about seats.
  CacheOk: the program's and the reference's compute one function of a cache.
  Ids put to their places, once: the reference's way and the program's way (sort, compact), in plain words.
  The pages that an inspection reaches, in order (plain; for Reached).
  What an inspection keeps at each page (plain; for FaultsOf and Reached).
  FreeSlots: the program's and the reference's compute one function of a cache.
  The reference's ids put to their places: l00Put, l18Note.
-/
import Derived.Test.YtpjcgglhlmifdaaGreatDoorM1K
import Derived.Test.YtpjcgglhlmifdaaGreatDoorM1J
import Derived.Test.YtpjcgglhlmifdaaGreatDoorM1Le
import Derived.Deep.RegionHeld3
import Derived.Test.YtpjcgglhlmifdaaGreatDoorM1E
import Derived.Test.YtpjcgglhlmifdaaGreatDoorM1A
import Derived.Test.YtpjcgglhlmifdaaGreatDoorM1G
import Derived.Lib.AppendZeros
import Derived.Lib.SlicesCompact
import Derived.Test.YtpjcgglhlmifdaaGreatDoorM1Bpg
namespace Go.Proofs.YtpjcgglhlmifdaaGreatDoor
open Go.RowKit
set_option linter.unusedVariables false
set_option linter.unusedSimpArgs false

end Go.Proofs.YtpjcgglhlmifdaaGreatDoor

namespace Go.Proofs.YtpjcgglhlmifdaaGreatDoor
open Go.RowKit
set_option linter.unusedVariables false
set_option linter.unusedSimpArgs false

end Go.Proofs.YtpjcgglhlmifdaaGreatDoor

namespace Go.Proofs.YtpjcgglhlmifdaaGreatDoor
open Go.RowKit
set_option linter.unusedVariables false
set_option linter.unusedSimpArgs false

end Go.Proofs.YtpjcgglhlmifdaaGreatDoor

namespace Go.Proofs.YtpjcgglhlmifdaaGreatDoor
open Go.RowKit
set_option linter.unusedVariables false
set_option linter.unusedSimpArgs false

end Go.Proofs.YtpjcgglhlmifdaaGreatDoor

namespace Go.Proofs.YtpjcgglhlmifdaaGreatDoor
open Go.RowKit
set_option linter.unusedVariables false
set_option linter.unusedSimpArgs false

def putI (l : List Int) (n : Int) : List Int :=
  match l with
  | [] => [n]
  | a :: l => if a < n then a :: putI l n else if a = n then a :: l else n :: a :: l
def putsI (l ids : List Int) : List Int := ids.foldl putI l

theorem putI_below : ∀ (l : List Int) (n : Int), (∀ a ∈ l, a < n) → putI l n = l ++ [n]
  | [], _, _ => rfl
  | a :: l, n, h => by
    rw [putI, if_pos (h a (by simp)), putI_below l n (fun b hb => h b (by simp [hb]))]
    rfl
theorem putI_at : ∀ (l : List Int) (n a : Int) (r : List Int), (∀ b ∈ l, b < n) → ¬ a < n → putI (l ++ a :: r) n = l ++ (if n < a then [n] else []) ++ a :: r
  | [], n, a, r, _, h => by
    show putI (a :: r) n = _
    rw [putI, if_neg h]
    by_cases e : a = n
    · rw [if_pos e, if_neg (by omega)]; rfl
    · rw [if_neg e, if_pos (by omega)]; rfl
  | b :: l, n, a, r, hl, h => by
    show putI (b :: (l ++ a :: r)) n = _
    rw [putI, if_pos (hl b (by simp)), putI_at l n a r (fun c hc => hl c (by simp [hc])) h]
    rfl
theorem putI_mem (l : List Int) (n x : Int) : x ∈ putI l n ↔ x ∈ l ∨ x = n := by
  induction l with
  | nil => simp [putI]
  | cons a l ih =>
    rw [putI]
    split
    · simp only [List.mem_cons, ih]
      constructor
      · rintro (h | h | h) <;> simp [h]
      · rintro ((h | h) | h) <;> simp [h]
    · split
      · rename_i h1 h2
        subst h2
        simp only [List.mem_cons]
        constructor
        · exact fun h => .inl h
        · rintro (h | h)
          · exact h
          · exact .inl h
      · simp only [List.mem_cons]
        constructor
        · rintro (h | h | h) <;> simp [h]
        · rintro ((h | h) | h) <;> simp [h]
theorem putI_sorted (l : List Int) (n : Int) (h : l.Pairwise (· < ·)) : (putI l n).Pairwise (· < ·) := by
  induction l with
  | nil => simp [putI]
  | cons a l ih =>
    obtain ⟨h1, h2⟩ := List.pairwise_cons.1 h
    rw [putI]
    split
    · rename_i ha
      refine List.pairwise_cons.2 ⟨fun b hb => ?_, ih h2⟩
      rcases (putI_mem l n b).1 hb with hb | rfl
      · exact h1 b hb
      · exact ha
    · split
      · exact h
      · refine List.pairwise_cons.2 ⟨fun b hb => ?_, h⟩
        rcases List.mem_cons.1 hb with rfl | hb
        · omega
        · have := h1 b hb
          omega
theorem putsI_mem : ∀ (ids l : List Int) (x : Int), x ∈ putsI l ids ↔ x ∈ l ∨ x ∈ ids
  | [], l, x => by simp [putsI]
  | n :: ids, l, x => by
    show x ∈ putsI (putI l n) ids ↔ _
    rw [putsI_mem ids, putI_mem]
    simp only [List.mem_cons]
    constructor
    · rintro ((h | h) | h) <;> simp [h]
    · rintro (h | h | h) <;> simp [h]
theorem putsI_sorted : ∀ (ids l : List Int), l.Pairwise (· < ·) → (putsI l ids).Pairwise (· < ·)
  | [], _, h => h
  | n :: ids, l, h => putsI_sorted ids (putI l n) (putI_sorted l n h)
theorem sorted_eq : ∀ (l m : List Int), l.Pairwise (· < ·) → m.Pairwise (· < ·) → (∀ x, x ∈ l ↔ x ∈ m) → l = m
  | [], [], _, _, _ => rfl
  | [], b :: m, _, _, h => by have := (h b).2 (by simp); simp at this
  | a :: l, [], _, _, h => by have := (h a).1 (by simp); simp at this
  | a :: l, b :: m, hl, hm, h => by
    obtain ⟨l1, l2⟩ := List.pairwise_cons.1 hl
    obtain ⟨m1, m2⟩ := List.pairwise_cons.1 hm
    have e : a = b := by
      rcases List.mem_cons.1 ((h a).1 (by simp)) with e | ha
      · exact e
      · rcases List.mem_cons.1 ((h b).2 (by simp)) with e | hb
        · exact e.symm
        · have := m1 a ha
          have := l1 b hb
          omega
    subst e
    rw [sorted_eq l m l2 m2 fun x => ?_]
    constructor
    · intro hx
      rcases List.mem_cons.1 ((h x).1 (by simp [hx])) with e | hx'
      · have := l1 x hx
        omega
      · exact hx'
    · intro hx
      rcases List.mem_cons.1 ((h x).2 (by simp [hx])) with e | hx'
      · have := m1 x hx
        omega
      · exact hx'
end Go.Proofs.YtpjcgglhlmifdaaGreatDoor

namespace Go.Proofs.YtpjcgglhlmifdaaGreatDoor
open Go.RowKit
set_option linter.unusedVariables false
set_option linter.unusedSimpArgs false

theorem ids_sorted : ∀ {l : List TSlot}, SlotsP l → (l.map (·.1)).Pairwise (· < ·)
  | l, h => by
    rw [List.pairwise_iff_getElem]
    intro i j hi hj hij
    simp only [List.length_map] at hi hj
    rw [List.getElem_map, List.getElem_map]
    exact slots_lt h i j hj hij
theorem pgAt_mem {x : TBtree} (hs : SlotsP x.2) {id : Int} : (∃ p, pgAt x id = some p) ↔ id ∈ x.2.map (·.1) := by
  constructor
  · rintro ⟨p, hp⟩
    obtain ⟨i, hi, e⟩ := pgAt_some hp
    exact List.mem_map.2 ⟨x.2[i], List.getElem_mem hi, by rw [e]⟩
  · intro h
    obtain ⟨t, ht, rfl⟩ := List.mem_map.1 h
    obtain ⟨i, hi, rfl⟩ := List.getElem_of_mem ht
    exact ⟨_, pgAt_at hs hi⟩
/-- The numbers met, put to their places, are the slots' numbers that were met. -/
theorem reached_eq {x : TBtree} (hs : SlotsP x.2) {met : List Int} (hm : MetOk x met) : (x.2.map (·.1)).filter (fun i => met.contains i) = putsI [] met := by
  refine sorted_eq _ _ ((ids_sorted hs).filter _) (putsI_sorted met [] List.Pairwise.nil) fun i => ?_
  rw [putsI_mem, List.mem_filter, List.contains_iff_mem]
  constructor
  · rintro ⟨_, h⟩; exact .inr h
  · rintro (h | h)
    · cases h
    · exact ⟨(pgAt_mem hs).1 (hm.2 i h), h⟩
theorem putsI_contains (met : List Int) (i : Int) : (putsI [] met).contains i = met.contains i := by
  rw [Bool.eq_iff_iff, List.contains_iff_mem, List.contains_iff_mem, putsI_mem]
  simp
theorem putsI_snoc (met : List Int) (i : Int) : putsI [] (met ++ [i]) = putI (putsI [] met) i := by
  unfold putsI
  rw [List.foldl_append]
  rfl
end Go.Proofs.YtpjcgglhlmifdaaGreatDoor

namespace Go.Proofs.YtpjcgglhlmifdaaGreatDoor
open Go.RowKit
set_option linter.unusedVariables false
set_option linter.unusedSimpArgs false

/-- Pages met once, depths from one on, at most nine faults a page. -/
def InsOk (x : TBtree) (s : TInsp) : Prop := MetOk x s.1 ∧ (∀ d, s.2.1 = some d → 1 ≤ d) ∧ s.2.2.length ≤ 9 * s.1.length
/-- What is done for kid k of a page. -/
def kidF (x : TBtree) (n far : Nat) (lo hi : ByteArray) (p : TPage) (k : Nat) (t : TInsp) : TInsp := match pgAt x (p.2.2.2.getD k 0) with
  | none => tellF t 2 (p.2.2.2.getD k 0)
  | some _ => visitB x n (p.2.2.2.getD k 0) (far + 1) (lowK p lo k) (highK p hi k) t
theorem kidF_none {x : TBtree} {n far : Nat} {lo hi : ByteArray} {p : TPage} {k : Nat} (hk : k < p.2.2.2.length) (h : pgAt x p.2.2.2[k] = none) (t : TInsp) : kidF x n far lo hi p k t = tellF t 2 p.2.2.2[k] := by
  have e : p.2.2.2.getD k 0 = p.2.2.2[k] := by simp [List.getD, List.getElem?_eq_getElem hk]
  unfold kidF
  rw [e, h]
theorem kidF_some {x : TBtree} {n far : Nat} {lo hi : ByteArray} {p q : TPage} {k : Nat} (hk : k < p.2.2.2.length) (h : pgAt x p.2.2.2[k] = some q) (t : TInsp) : kidF x n far lo hi p k t = visitB x n p.2.2.2[k] (far + 1) (lowK p lo k) (highK p hi k) t := by
  have e : p.2.2.2.getD k 0 = p.2.2.2[k] := by simp [List.getD, List.getElem?_eq_getElem hk]
  unfold kidF
  rw [e, h]
theorem kidF_insp {x : TBtree} (hs : SlotsP x.2) (n far : Nat) (lo hi : ByteArray) (p : TPage) (k : Nat) (t : TInsp) : Insp x 1 t (kidF x n far lo hi p k t) := by
  unfold kidF
  cases pgAt x (p.2.2.2.getD k 0) with
  | none => exact insp_tell x t 2 _
  | some _ => exact visit_insp hs n _ (far + 1) _ _ t (by omega)
theorem visitB_twice {x : TBtree} {id : Int} {s : TInsp} (hc : s.1.contains id = true) (n far : Nat) (lo hi : ByteArray) : visitB x n id far lo hi s = tellF s 3 id := by
  cases n with
  | zero => rfl
  | succ n => unfold visitB; rw [if_pos hc]
theorem visitB_in {x : TBtree} {n : Nat} {id : Int} {far : Nat} {lo hi : ByteArray} {s : TInsp} {p : TPage} (hp : pgAt x id = some p) (hc : s.1.contains id = false) : visitB x (n + 1) id far lo hi s = kidsI (kidF x n far lo hi p) p.2.2.2.length (pageF id far lo hi p s) := by
  rw [visitB, hp]
  dsimp only
  rw [if_neg (by rw [hc]; decide)]
  rfl
theorem InsOk.len {x : TBtree} {s : TInsp} (hs : SlotsP x.2) (h : InsOk x s) : s.2.2.length ≤ 576 := by
  have h1 := metOk_len h.1
  have h2 := slots_len hs
  have := h.2.2
  omega
/-- After k kids of a page. -/
theorem page_insp {x : TBtree} (hs : SlotsP x.2) {id : Int} {far n : Nat} {lo hi : ByteArray} {s : TInsp} {p : TPage} (hf : 1 ≤ far) (h : InsOk x s) (hp : pgAt x id = some p) (hc : s.1.contains id = false) {k : Nat} (hk : k ≤ 6) :
    InsOk x (kidsI (kidF x n far lo hi p) k (pageF id far lo hi p s)) ∧ s.1 ++ [id] <+: (kidsI (kidF x n far lo hi p) k (pageF id far lo hi p s)).1 := by
  obtain ⟨a1, a2, a3⟩ := pageF_met id far lo hi p s
  have hm : MetOk x (pageF id far lo hi p s).1 := by rw [a1]; exact metOk_snoc h.1 hp hc
  obtain ⟨q1, q2, q3, q4⟩ := kidsI_insp (x := x) (kidF_insp hs n far lo hi p) k (pageF id far lo hi p s) hm (a3 h.2.1 hf)
  have h3 := h.2.2
  rw [a1] at q2
  rw [a1, List.length_append, List.length_singleton] at q4
  exact ⟨⟨q1, q3, by omega⟩, q2⟩
theorem orderF_len (id : Int) (lo hi : ByteArray) (p : TPage) (s : TInsp) : (orderF id lo hi p s).1 = s.1 ∧ (orderF id lo hi p s).2.1 = s.2.1 ∧ (orderF id lo hi p s).2.2.length ≤ s.2.2.length + 1 := by
  unfold orderF
  split
  · obtain ⟨a, b, c⟩ := tellF_met s 4 id
    exact ⟨a, b, by rw [c]; exact Nat.le_refl _⟩
  · exact ⟨rfl, rfl, Nat.le_succ _⟩
theorem leafF_fork {id : Int} {far : Nat} {p : TPage} (hl : p.1 = false) (s : TInsp) : leafF id far p s = s := by unfold leafF; rw [if_neg (by rw [hl]; decide)]
theorem leafF_same {id : Int} {far : Nat} {p : TPage} (hl : p.1 = true) {s : TInsp} (h : (deepF s far).2.1 = some far) : leafF id far p s = deepF s far := by unfold leafF; rw [if_pos hl, if_pos h]
theorem leafF_deep {id : Int} {far : Nat} {p : TPage} (hl : p.1 = true) {s : TInsp} (h : (deepF s far).2.1 ≠ some far) : leafF id far p s = tellF (deepF s far) 5 id := by unfold leafF; rw [if_pos hl, if_neg h]
theorem deepF_none {s : TInsp} (h : s.2.1 = none) (far : Nat) : deepF s far = (s.1, some far, s.2.2) := by unfold deepF; rw [h]
theorem deepF_some {s : TInsp} {d : Nat} (h : s.2.1 = some d) (far : Nat) : deepF s far = s := by unfold deepF; rw [h]
theorem fewF_yes {id : Int} {far : Nat} {p : TPage} (h : far ≠ 1 ∧ fillOf p < 3) (s : TInsp) : fewF id far p s = tellF s 6 id := if_pos h
theorem fewF_no {id : Int} {far : Nat} {p : TPage} (h : ¬ (far ≠ 1 ∧ fillOf p < 3)) (s : TInsp) : fewF id far p s = s := if_neg h
theorem orderF_yes {id : Int} {lo hi : ByteArray} {p : TPage} (h : p.2.1.any (badKey lo hi) = true) (s : TInsp) : orderF id lo hi p s = tellF s 4 id := if_pos h
theorem orderF_no {id : Int} {lo hi : ByteArray} {p : TPage} (h : p.2.1.any (badKey lo hi) = false) (s : TInsp) : orderF id lo hi p s = s := if_neg (by rw [h]; decide)
theorem keyB_ne : keyB ⟨#[]⟩ = false := by
  unfold keyB placeOf
  rw [if_neg (fun h => by have h1 := h.1; have e : (ByteArray.mk #[]).size = 0 := rfl; omega)]
  rfl
theorem page_keyN {p : TPage} (h : pageB p = true) (k : Nat) (hk : k < p.2.1.length) : p.2.1[k] ≠ ⟨#[]⟩ := fun he => by
  unfold pageB at h
  simp only [Bool.and_eq_true] at h
  have h1 : KeysP p.2.1 := of_decide_eq_true h.1
  have h2 := (h1 k hk).1
  rw [he, keyB_ne] at h2
  cases h2
/-- A page with kids is a fork: a key between any two kids, none is empty. -/
theorem kid_keys {p : TPage} (h : pageB p = true) (hk : 0 < p.2.2.2.length) : p.1 = false ∧ p.2.2.2.length = p.2.1.length + 1 ∧ p.2.2.2.length ≤ 6 ∧ (∀ k (hk : k < p.2.2.2.length), 1 ≤ p.2.2.2[k] ∧ p.2.2.2[k] ≤ 64) ∧ ∀ k (hk : k < p.2.1.length), p.2.1[k] ≠ ⟨#[]⟩ := by
  have hf : p.1 = false := by
    cases hl : p.1
    · rfl
    · have h' := h
      unfold pageB at h'
      simp only [Bool.and_eq_true] at h'
      have h2 := h'.2
      rw [if_pos hl] at h2
      simp only [leafB, Bool.and_eq_true, decide_eq_true_eq] at h2
      have := h2.2
      omega
  have h1 := fork_lens h hf
  have h' := h
  unfold pageB at h'
  simp only [Bool.and_eq_true] at h'
  have h2 := h'.2
  rw [if_neg (by rw [hf]; decide)] at h2
  simp only [forkB, Bool.and_eq_true] at h2
  have h3 := inB_t.1 h2.1.1.1
  refine ⟨hf, by omega, by omega, fun k hk => ?_, page_keyN h⟩
  cases hb : inB p.2.2.2[k] 1 64
  · rw [kid_t hk hb] at h2; exact absurd h2.2 (by decide)
  · exact inB_t.1 hb
theorem fill_leaf {p : TPage} (h : p.1 = true) : fillOf p = p.2.1.length := by unfold fillOf; rw [if_pos h]
theorem fill_fork {p : TPage} (h : p.1 = false) : fillOf p = p.2.2.2.length := by unfold fillOf; rw [if_neg (by rw [h]; decide)]
theorem lt_empty (k : ByteArray) : bytesLt k ⟨#[]⟩ = false := by
  unfold bytesLt
  have e : (ByteArray.mk #[]).toList = [] := by simp [ByteArray.toList_eq]
  rw [e]
  cases k.toList <;> rfl
end Go.Proofs.YtpjcgglhlmifdaaGreatDoor

namespace Go.Proofs.YtpjcgglhlmifdaaGreatDoor
open Go.RowKit
set_option linter.unusedVariables false
set_option linter.unusedSimpArgs false

theorem cinfo_I : (Tryz.prog.info? 2).map (fun i => (i.zero, i.size, i.bytes)) = some (some (.int .i64 0), 1, 8) := by kernel_rfl
end Go.Proofs.YtpjcgglhlmifdaaGreatDoor

namespace Go.Proofs.YtpjcgglhlmifdaaGreatDoor
open Go.RowKit
set_option linter.unusedVariables false
set_option linter.unusedSimpArgs false

/-- What l00Put has laid ahead of place k. -/
def PutInv (l : List Int) (n : Int) (dn : Bool) (O : List Int) (k : Nat) : Prop := if dn = true then O ++ l.drop k = putI l n else O = l.take k ∧ ∀ a ∈ l.take k, a < n
theorem putInv_t {l : List Int} {n : Int} {O : List Int} {k : Nat} (hk : k < l.length) (h : PutInv l n true O k) : PutInv l n true (O ++ [l[k]]) (k + 1) := by
  have h' : O ++ l.drop k = putI l n := h
  show (O ++ [l[k]]) ++ l.drop (k + 1) = putI l n
  rw [← h', List.drop_eq_getElem_cons hk]
  simp
theorem putInv_lt {l : List Int} {n : Int} {O : List Int} {k : Nat} (hk : k < l.length) (h : PutInv l n false O k) (hn : l[k] < n) : PutInv l n false (O ++ [l[k]]) (k + 1) := by
  have h' : O = l.take k ∧ ∀ a ∈ l.take k, a < n := h
  have e := List.take_succ_eq_append_getElem hk
  refine ⟨by rw [h'.1, e], fun a ha => ?_⟩
  rw [e] at ha
  rcases List.mem_append.1 ha with ha | ha
  · exact h'.2 a ha
  · rw [List.mem_singleton.1 ha]; exact hn
theorem putInv_ge {l : List Int} {n : Int} {O : List Int} {k : Nat} (hk : k < l.length) (h : PutInv l n false O k) (hn : ¬ l[k] < n) : PutInv l n true ((O ++ if n < l[k] then [n] else []) ++ [l[k]]) (k + 1) := by
  have h' : O = l.take k ∧ ∀ a ∈ l.take k, a < n := h
  show (O ++ if n < l[k] then [n] else []) ++ [l[k]] ++ l.drop (k + 1) = putI l n
  have e : l = l.take k ++ l[k] :: l.drop (k + 1) := by rw [← List.drop_eq_getElem_cons hk, List.take_append_drop]
  have e2 : putI l n = putI (l.take k ++ l[k] :: l.drop (k + 1)) n := by rw [← e]
  rw [e2, putI_at _ _ _ _ h'.2 hn, h'.1]
  simp
theorem putInv_end {l : List Int} {n : Int} {O : List Int} (h : PutInv l n false O l.length) : putI l n = O ++ [n] := by
  have h' : O = l.take l.length ∧ ∀ a ∈ l.take l.length, a < n := h
  rw [List.take_length] at h'
  rw [putI_below _ _ h'.2, h'.1]
theorem putInv_done {l : List Int} {n : Int} {O : List Int} (h : PutInv l n true O l.length) : putI l n = O := by
  have h' : O ++ l.drop l.length = putI l n := h
  rw [← h']; simp
--@begin f{spec.l00Put}
set_option maxRecDepth 100000 in
set_option maxHeartbeats 8000000 in
theorem c_l00Put (l : List Int) (n : Int) (A : Option Addr) (c : Nat) (w : World) (h : SRW shI w A c l) (hn : I64 n) (hl : l.length ≤ 2097152) : Calls Tryz.prog 150 #[.slice A l.length c, .int .i64 n] w (ToL shI (putI l n) w) := by
  obtain ⟨i0, hi0, hz0, hz1, hz2⟩ := info_parts cinfo_I
  have so0 : SO shI (w.alloc (.cells #[] 2)) w.heap.size (w.alloc (.cells #[] 2)).heap.size (some ⟨w.heap.size, 0, none⟩) 0 ([] : List Int) [] := ⟨Nat.le_refl _, Nat.zero_le _, .inl ⟨rfl, rfl, rfl⟩⟩
  have uu0 : Up w (w.alloc (.cells #[] 2)) := (Up.refl w).alloc _
  go_enter Tryz.func150, Tryz.ntmps150
  go_wp2_with fail
  go_loopw [7, 6, 5] (fun i q out wr => ∃ (k : Nat) (dn : Bool) (O : List Int) (D : Option Addr) (d : Nat) (bl : List Nat), k ≤ l.length ∧ i = .int .i64 k ∧ q = .bool dn ∧ out = .slice D O.length d ∧ O.length ≤ k + 1 ∧ Hid (PutInv l n dn O k) ∧ SO shI wr w.heap.size wr.heap.size D d O bl ∧ bl.Nodup ∧ Up w wr) (fun i _ _ _ => l.length - (intOf i).toNat)
  case atStart => exact ⟨0, false, [], some ⟨w.heap.size, 0, none⟩, 0, [], Nat.zero_le _, rfl, rfl, rfl, by simp, Lib.hid ⟨rfl, by simp⟩, so0, by simp, uu0⟩
  case round =>
    obtain ⟨k, dn, O, D, d, bl, hk, rfl, rfl, rfl, hOk, HI, so, nd, hu⟩ := hrel
    have srr := h.up good_I hu
    by_cases hlt : k < l.length
    · obtain ⟨g, off, rfl, _, _, hc, he1, he2⟩ := srr.at_I hlt
      have hi64 : I64 l[k] := ⟨he1, he2⟩
      have P1 := Lib.hid (fun (h : PutInv l n true O k) => putInv_t hlt h)
      have P2 := Lib.hid (fun (h : PutInv l n false O k) (hn : l[k] < n) => putInv_lt hlt h hn)
      have P3 := Lib.hid (fun (h : PutInv l n false O k) (hn : ¬ l[k] < n) => putInv_ge hlt h hn)
      have HA := Lib.hid (fun W (u : Up w W) => (h.up good_I u).at_I hlt)
      obtain ⟨z, hz⟩ : ∃ z, z = l[k] := ⟨_, rfl⟩
      rw [← hz] at hc hi64 P1 P2 P3 HA
      clear he1 he2 hz srr
      cases dn
      · by_cases hlt2 : z < n
        · have kq1 := Bk.new wr 2 #[.int .i64 z]
          have uq1 := (Up.refl wr).alloc (.cells #[.int .i64 z] 2)
          have ho1 : shI.own (wr.alloc (.cells #[.int .i64 z] 2)) w.heap.size (wr.alloc (.cells #[.int .i64 z] 2)).heap.size [.int .i64 z] z [] := ⟨⟨rfl, hi64.1, hi64.2⟩, rfl⟩
          have hlo1 := hu.size
          have hx11 : ((O).length + 1) * i0.bytes ≤ 140737488355328 := by rw [hz2]; first | omega | (simp; omega)
          have hx21 : (O).length + 1 ≤ maxLen := by unfold maxLen; first | omega | (simp; omega)
          go_wp2_with (at_builtin
                       refine wpList_app good_I rfl _ _ _ _ 2 rfl i0 _ Tryz.underlying44 hi0 hz0 hz1 (by rfl) (lo := w.heap.size) (xs := O) (ys := [z]) (bs := [[]]) (news := [.int .i64 z]) rfl rfl (so.up good_I uq1) (by simpa using nd) (Src.box (t := 2) Tryz.underlying44 kq1 (by simp [Value.oneCell']) (by rw [hz1]; rfl)) (Rowed.one good_I ho1) (by simp; omega) hx11 hx21 ?_
                       intro D1 d1 bl1 w1 hap1
                       obtain ⟨so1, nd1, mem1, on1⟩ := hap1
                       have hu1 := (hu.trans uq1).only on1 (fun y hy => (so.in_ good_I y hy).1))
          go_roundw
          case rel => exact ⟨k + 1, false, _, D1, d1, bl1, by omega, by go_num, rfl, by simp, by simp; omega, Lib.hid (P2.out HI.out hlt2), so1, nd1, hu1⟩
          case measure => simp [intOf]; omega
        · have HJ := P3.out HI.out hlt2
          have hOl : O.length ≤ k := by rw [HI.out.1, List.length_take]; omega
          by_cases hgt : n < z
          · rw [if_pos hgt] at HJ
            have kq1 := Bk.new wr 2 #[.int .i64 n]
            have uq1 := (Up.refl wr).alloc (.cells #[.int .i64 n] 2)
            have ho1 : shI.own (wr.alloc (.cells #[.int .i64 n] 2)) w.heap.size (wr.alloc (.cells #[.int .i64 n] 2)).heap.size [.int .i64 n] n [] := ⟨⟨rfl, hn.1, hn.2⟩, rfl⟩
            have hlo1 := hu.size
            have hx11 : ((O).length + 1) * i0.bytes ≤ 140737488355328 := by rw [hz2]; first | omega | (simp; omega)
            have hx21 : (O).length + 1 ≤ maxLen := by unfold maxLen; first | omega | (simp; omega)
            go_wp2_with (first
              | (at_builtin
                 refine wpList_app good_I rfl _ _ _ _ 2 rfl i0 _ Tryz.underlying44 hi0 hz0 hz1 (by rfl) (lo := w.heap.size) (xs := O) (ys := [n]) (bs := [[]]) (news := [.int .i64 n]) rfl rfl (so.up good_I uq1) (by simpa using nd) (Src.box (t := 2) Tryz.underlying44 kq1 (by simp [Value.oneCell']) (by rw [hz1]; rfl)) (Rowed.one good_I ho1) (by simp; omega) hx11 hx21 ?_
                 intro D1 d1 bl1 w1 hap1
                 obtain ⟨so1, nd1, mem1, on1⟩ := hap1
                 have hu1 := (hu.trans uq1).only on1 (fun y hy => (so.in_ good_I y hy).1)
                 have kq2 := Bk.new w1 2 #[.int .i64 z]
                 have uq2 := (Up.refl w1).alloc (.cells #[.int .i64 z] 2)
                 have ho2 : shI.own (w1.alloc (.cells #[.int .i64 z] 2)) w.heap.size (w1.alloc (.cells #[.int .i64 z] 2)).heap.size [.int .i64 z] z [] := ⟨⟨rfl, hi64.1, hi64.2⟩, rfl⟩
                 have hlo2 := hu1.size
                 have hx12 : (((O ++ [n])).length + 1) * i0.bytes ≤ 140737488355328 := by rw [hz2]; first | omega | (simp; omega)
                 have hx22 : ((O ++ [n])).length + 1 ≤ maxLen := by unfold maxLen; first | omega | (simp; omega)
                 have hll1 : (O ++ [n]).length = O.length + 1 := by simp
                 obtain ⟨g9, off9, e9, _, _, hc9, _⟩ := HA.out w1 hu1
                 injection e9 with e9
                 injection e9 with e9a e9b
                 subst e9a e9b)
              | (at_builtin
                 refine wpList_app good_I rfl _ _ _ _ 2 rfl i0 _ Tryz.underlying44 hi0 hz0 hz1 (by rfl) (lo := w.heap.size) (xs := (O ++ [n])) (ys := [z]) (bs := [[]]) (news := [.int .i64 z]) (by rw [hll1]; rfl) rfl (so1.up good_I uq2) (by simpa using nd1) (Src.box (t := 2) Tryz.underlying44 kq2 (by simp [Value.oneCell']) (by rw [hz1]; rfl)) (Rowed.one good_I ho2) (by simp; omega) hx12 hx22 ?_
                 intro D2 d2 bl2 w2 hap2
                 obtain ⟨so2, nd2, mem2, on2⟩ := hap2
                 have hu2 := (hu1.trans uq2).only on2 (fun y hy => (so1.in_ good_I y hy).1)))
            go_roundw
            case rel => exact ⟨k + 1, true, _, D2, d2, bl2, by omega, by go_num, rfl, by simp, by simp; omega, Lib.hid HJ, so2, nd2, hu2⟩
            case measure => simp [intOf]; omega
          · rw [if_neg hgt, List.append_nil] at HJ
            have kq1 := Bk.new wr 2 #[.int .i64 z]
            have uq1 := (Up.refl wr).alloc (.cells #[.int .i64 z] 2)
            have ho1 : shI.own (wr.alloc (.cells #[.int .i64 z] 2)) w.heap.size (wr.alloc (.cells #[.int .i64 z] 2)).heap.size [.int .i64 z] z [] := ⟨⟨rfl, hi64.1, hi64.2⟩, rfl⟩
            have hlo1 := hu.size
            have hx11 : ((O).length + 1) * i0.bytes ≤ 140737488355328 := by rw [hz2]; first | omega | (simp; omega)
            have hx21 : (O).length + 1 ≤ maxLen := by unfold maxLen; first | omega | (simp; omega)
            go_wp2_with (at_builtin
                         refine wpList_app good_I rfl _ _ _ _ 2 rfl i0 _ Tryz.underlying44 hi0 hz0 hz1 (by rfl) (lo := w.heap.size) (xs := O) (ys := [z]) (bs := [[]]) (news := [.int .i64 z]) rfl rfl (so.up good_I uq1) (by simpa using nd) (Src.box (t := 2) Tryz.underlying44 kq1 (by simp [Value.oneCell']) (by rw [hz1]; rfl)) (Rowed.one good_I ho1) (by simp; omega) hx11 hx21 ?_
                         intro D1 d1 bl1 w1 hap1
                         obtain ⟨so1, nd1, mem1, on1⟩ := hap1
                         have hu1 := (hu.trans uq1).only on1 (fun y hy => (so.in_ good_I y hy).1))
            go_roundw
            case rel => exact ⟨k + 1, true, _, D1, d1, bl1, by omega, by go_num, rfl, by simp, by simp; omega, Lib.hid (HJ), so1, nd1, hu1⟩
            case measure => simp [intOf]; omega
      · have kq1 := Bk.new wr 2 #[.int .i64 z]
        have uq1 := (Up.refl wr).alloc (.cells #[.int .i64 z] 2)
        have ho1 : shI.own (wr.alloc (.cells #[.int .i64 z] 2)) w.heap.size (wr.alloc (.cells #[.int .i64 z] 2)).heap.size [.int .i64 z] z [] := ⟨⟨rfl, hi64.1, hi64.2⟩, rfl⟩
        have hlo1 := hu.size
        have hx11 : ((O).length + 1) * i0.bytes ≤ 140737488355328 := by rw [hz2]; first | omega | (simp; omega)
        have hx21 : (O).length + 1 ≤ maxLen := by unfold maxLen; first | omega | (simp; omega)
        go_wp2_with (at_builtin
                     refine wpList_app good_I rfl _ _ _ _ 2 rfl i0 _ Tryz.underlying44 hi0 hz0 hz1 (by rfl) (lo := w.heap.size) (xs := O) (ys := [z]) (bs := [[]]) (news := [.int .i64 z]) rfl rfl (so.up good_I uq1) (by simpa using nd) (Src.box (t := 2) Tryz.underlying44 kq1 (by simp [Value.oneCell']) (by rw [hz1]; rfl)) (Rowed.one good_I ho1) (by simp; omega) hx11 hx21 ?_
                     intro D1 d1 bl1 w1 hap1
                     obtain ⟨so1, nd1, mem1, on1⟩ := hap1
                     have hu1 := (hu.trans uq1).only on1 (fun y hy => (so.in_ good_I y hy).1))
        go_roundw
        case rel => exact ⟨k + 1, true, _, D1, d1, bl1, by omega, by go_num, rfl, by simp, by simp; omega, Lib.hid (P1.out HI.out), so1, nd1, hu1⟩
        case measure => simp [intOf]; omega
    · obtain rfl : k = l.length := by omega
      cases dn
      · have HE := Lib.hid (putInv_end HI.out)
        have kq1 := Bk.new wr 2 #[.int .i64 n]
        have uq1 := (Up.refl wr).alloc (.cells #[.int .i64 n] 2)
        have ho1 : shI.own (wr.alloc (.cells #[.int .i64 n] 2)) w.heap.size (wr.alloc (.cells #[.int .i64 n] 2)).heap.size [.int .i64 n] n [] := ⟨⟨rfl, hn.1, hn.2⟩, rfl⟩
        have hlo1 := hu.size
        have hx11 : ((O).length + 1) * i0.bytes ≤ 140737488355328 := by rw [hz2]; first | omega | (simp; omega)
        have hx21 : (O).length + 1 ≤ maxLen := by unfold maxLen; first | omega | (simp; omega)
        go_wp2_with (at_builtin
                     refine wpList_app good_I rfl _ _ _ _ 2 rfl i0 _ Tryz.underlying44 hi0 hz0 hz1 (by rfl) (lo := w.heap.size) (xs := O) (ys := [n]) (bs := [[]]) (news := [.int .i64 n]) rfl rfl (so.up good_I uq1) (by simpa using nd) (Src.box (t := 2) Tryz.underlying44 kq1 (by simp [Value.oneCell']) (by rw [hz1]; rfl)) (Rowed.one good_I ho1) (by simp; omega) hx11 hx21 ?_
                     intro D1 d1 bl1 w1 hap1
                     obtain ⟨so1, nd1, mem1, on1⟩ := hap1
                     have hu1 := (hu.trans uq1).only on1 (fun y hy => (so.in_ good_I y hy).1))
        go_ret
        rw [HE.out]
        exact ⟨D1, d1, bl1, by simp, so1, nd1, hu1⟩
      · have HE := Lib.hid (putInv_done HI.out)
        go_wp2_with fail
        go_ret
        rw [HE.out]
        exact ⟨D, d, bl, rfl, so, nd, hu⟩
    --@end
end Go.Proofs.YtpjcgglhlmifdaaGreatDoor
