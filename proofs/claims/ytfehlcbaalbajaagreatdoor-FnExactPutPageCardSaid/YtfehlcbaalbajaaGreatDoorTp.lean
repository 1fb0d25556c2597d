/-
  The changes of a tree, in plain Lean: put, kill, drop; a right tree stays right.
-/
import Derived.Test.YtfehlcbaalbajaaGreatDoorGn
namespace Go.Proofs.YtfehlcbaalbajaaGreatDoor
open Go.RowKit
set_option linter.unusedVariables false
set_option linter.unusedSimpArgs false

abbrev TLoc : Type := ByteArray × List ByteArray
theorem treeP_iff {x : TTree} : TreeP x ↔ x.length ≤ 120 ∧ (∀ n ∈ x, nodeB n = true) ∧ x.Pairwise (fun a b => locLt (locOf a) (locOf b) = true) := by
  constructor
  · intro h
    refine ⟨h.1, fun n hn => ?_, List.pairwise_iff_getElem.2 fun i j hi hj hij => sorted_lt h hij hj⟩
    obtain ⟨i, hi, rfl⟩ := List.getElem_of_mem hn
    exact (h.2 i hi).1
  · rintro ⟨h1, h2, h3⟩
    exact ⟨h1, fun i hi => ⟨h2 _ (List.getElem_mem _), fun h0 => List.pairwise_iff_getElem.1 h3 (i - 1) i (by omega) hi (by omega)⟩⟩
theorem placeB_small {s : ByteArray} {xs : List ByteArray} (h : placeB s xs = true) : Small xs := fun i hi => by
  simp only [placeB, Bool.and_eq_true] at h
  have hs : SubsP xs := of_decide_eq_true h.2
  have := hs.2 i hi
  simp only [subB, Bool.and_eq_true, decide_eq_true_eq] at this
  omega
theorem nodeB_small {n : TNode} (h : nodeB n = true) : Small n.2.1 := by
  simp only [nodeB, Bool.and_eq_true] at h
  exact placeB_small h.1
theorem treeP_small {x : TTree} (h : TreeP x) : ∀ i (hi : i < x.length), Small x[i].2.1 := fun i hi => nodeB_small (h.2 i hi).1
theorem treeP_nil : TreeP [] := ⟨by simp, fun i h => absurd h (by simp)⟩

theorem lt_take (x : TTree) (l : TLoc) : ∀ n ∈ x.take (posN x l), locLt (locOf n) l = true := fun n hn => by
  unfold posN at hn
  rw [tw_take] at hn
  obtain ⟨i, hi, rfl⟩ := List.getElem_of_mem hn
  obtain ⟨h', hp⟩ := tw_all _ x i hi
  rw [tw_at _ x i hi h']
  exact hp
theorem ge_at (x : TTree) (l : TLoc) (h : posN x l < x.length) : locLt (locOf x[posN x l]) l = false := tw_stop _ x h
theorem has_at {x : TTree} {l : TLoc} (h : hasN x l = true) : ∃ hp : posN x l < x.length, locOf x[posN x l] = l := by
  unfold hasN at h
  by_cases hp : posN x l < x.length
  · rw [dif_pos hp] at h
    exact ⟨hp, of_decide_eq_true h⟩
  · rw [dif_neg hp] at h; cases h
theorem hasnt_at {x : TTree} {l : TLoc} (h : hasN x l = false) (hp : posN x l < x.length) : locOf x[posN x l] ≠ l := by
  unfold hasN at h
  rw [dif_pos hp] at h
  exact of_decide_eq_false h
/-- Where the elements behind a place begin. -/
def nextN (x : TTree) (l : TLoc) : Nat := if hasN x l = true then posN x l + 1 else posN x l
theorem gt_drop {x : TTree} (hx : TreeP x) (l : TLoc) : ∀ n ∈ x.drop (nextN x l), locLt l (locOf n) = true := fun n hn => by
  obtain ⟨j, hj, rfl⟩ := List.getElem_of_mem hn
  rw [List.getElem_drop]
  have hj' : nextN x l + j < x.length := by simp at hj; omega
  cases hh : hasN x l
  · have hnx : nextN x l = posN x l := by unfold nextN; rw [hh]; rfl
    have hp : posN x l < x.length := by omega
    have h1 := ge_at x l hp
    have h2 := hasnt_at hh hp
    have h3 : locLt l (locOf x[posN x l]) = true := by
      cases e : locLt l (locOf x[posN x l])
      · exact absurd (lo_loc.tri _ _ h1 e) h2
      · rfl
    rcases Nat.eq_zero_or_pos j with rfl | hjp
    · simpa only [hnx, Nat.add_zero] using h3
    · exact lo_loc.tr _ _ _ h3 (sorted_lt hx (by omega) hj')
  · obtain ⟨hp, he⟩ := has_at hh
    have hnx : nextN x l = posN x l + 1 := by unfold nextN; rw [hh]; rfl
    have := sorted_lt hx (a := posN x l) (b := nextN x l + j) (by omega) hj'
    rwa [he] at this

def putT (x : TTree) (l : TLoc) (v : ByteArray) : TTree := x.take (posN x l) ++ (l.1, l.2, v) :: x.drop (nextN x l)
theorem nextN_le {x : TTree} {l : TLoc} : posN x l ≤ nextN x l ∧ nextN x l ≤ posN x l + 1 := by unfold nextN; split <;> omega
theorem putT_len {x : TTree} {l : TLoc} {v : ByteArray} : (putT x l v).length = if hasN x l = true then x.length else x.length + 1 := by
  have := posN_le x l
  unfold putT nextN
  by_cases h : hasN x l = true
  · obtain ⟨hp, _⟩ := has_at h
    simp only [if_pos h, List.length_append, List.length_take, List.length_cons, List.length_drop]
    omega
  · simp only [if_neg h, List.length_append, List.length_take, List.length_cons, List.length_drop]
    omega
theorem putT_has {x : TTree} {l : TLoc} {v : ByteArray} (h : hasN x l = true) : ∃ hp : posN x l < x.length, putT x l v = x.set (posN x l) (x[posN x l].1, x[posN x l].2.1, v) := by
  obtain ⟨hp, he⟩ := has_at h
  refine ⟨hp, ?_⟩
  have e1 : x[posN x l].1 = l.1 := congrArg Prod.fst he
  have e2 : x[posN x l].2.1 = l.2 := congrArg Prod.snd he
  rw [e1, e2, List.set_eq_take_append_cons_drop, if_pos hp]
  unfold putT nextN
  rw [if_pos h]
theorem putT_hasnt {x : TTree} {l : TLoc} {v : ByteArray} (h : hasN x l = false) : putT x l v = x.take (posN x l) ++ (l.1, l.2, v) :: x.drop (posN x l) := by
  unfold putT nextN
  rw [h]
  rfl
theorem putT_P {x : TTree} {l : TLoc} {v : ByteArray} (hx : TreeP x) (hp : placeB l.1 l.2 = true) (hv : v.size ≤ 64) (hr : hasN x l = true ∨ x.length < 120) : TreeP (putT x l v) := by
  obtain ⟨h1, h2, h3⟩ := treeP_iff.1 hx
  refine treeP_iff.2 ⟨?_, fun n hn => ?_, ?_⟩
  · rw [putT_len]
    split
    · exact h1
    · rcases hr with h | h
      · contradiction
      · omega
  · rcases List.mem_append.1 hn with hn | hn
    · exact h2 n (List.mem_of_mem_take hn)
    · rcases List.mem_cons.1 hn with rfl | hn
      · simp only [nodeB, Bool.and_eq_true, decide_eq_true_eq]
        exact ⟨hp, hv⟩
      · exact h2 n (List.mem_of_mem_drop hn)
  · refine List.pairwise_append.2 ⟨h3.sublist (List.take_sublist _ _), List.pairwise_cons.2 ⟨fun n hn => gt_drop hx l n hn, h3.sublist (List.drop_sublist _ _)⟩, fun a ha b hb => ?_⟩
    have ha' := lt_take x l a ha
    rcases List.mem_cons.1 hb with rfl | hb
    · exact ha'
    · exact lo_loc.tr _ _ _ ha' (gt_drop hx l b hb)

/-- Whether subs begin with others. -/
def begB (xs ys : List ByteArray) : Bool := decide (ys.length ≤ xs.length ∧ xs.take ys.length = ys)
def atB (n : TNode) (l : TLoc) : Bool := decide (n.1 = l.1) && begB n.2.1 l.2
def killT (x : TTree) (l : TLoc) : TTree := x.filter fun n => !atB n l
theorem sub_P {x y : TTree} (hx : TreeP x) (h : y.Sublist x) : TreeP y := by
  obtain ⟨h1, h2, h3⟩ := treeP_iff.1 hx
  exact treeP_iff.2 ⟨Nat.le_trans h.length_le h1, fun n hn => h2 n (h.mem hn), h3.sublist h⟩
theorem killT_P {x : TTree} {l : TLoc} (hx : TreeP x) : TreeP (killT x l) := sub_P hx List.filter_sublist
def dropT (x : TTree) (l : TLoc) : TTree := if hasN x l = true then x.take (posN x l) ++ x.drop (posN x l + 1) else x
theorem dropT_P {x : TTree} {l : TLoc} (hx : TreeP x) : TreeP (dropT x l) := by
  unfold dropT
  split
  · rw [← List.eraseIdx_eq_take_drop_succ]
    exact sub_P hx (List.eraseIdx_sublist _ _)
  · exact hx
/-- PutNode of what is right: the code, and the tree. -/
def putC (x : TTree) (l : TLoc) : Int := if hasN x l = false ∧ 120 ≤ x.length then 4 else 0
theorem putC_ok {x : TTree} {l : TLoc} (h : putC x l = 0) : hasN x l = true ∨ x.length < 120 := by
  unfold putC at h
  by_cases h1 : hasN x l = false ∧ 120 ≤ x.length
  · rw [if_pos h1] at h; cases h
  · cases e : hasN x l
    · exact .inr (by rw [e] at h1; simp at h1; omega)
    · exact .inl rfl
def putR (x : TTree) (l : TLoc) (v : ByteArray) : TTree := if putC x l = 0 then putT x l v else []
end Go.Proofs.YtfehlcbaalbajaaGreatDoor
