/-
  The faults and the reached pages, slot by slot (plain); bounds.
-/
import Derived.Test.YtpjcgglhlmifdaaGreatDoorM1Tog
namespace Go.Proofs.YtpjcgglhlmifdaaGreatDoor
open Go.RowKit
set_option linter.unusedVariables false
set_option linter.unusedSimpArgs false

def lostTo (x : TBtree) (met : List Int) (k : Nat) : List TFault := ((x.2.take k).filter (fun t => !met.contains t.1)).map (fun t => (7, t.1))
theorem lostTo_all (x : TBtree) (met : List Int) : lostTo x met x.2.length = lostB x met := by unfold lostTo lostB; rw [List.take_length]
theorem lostTo_zero (x : TBtree) (met : List Int) : lostTo x met 0 = [] := rfl
theorem lostTo_yes {x : TBtree} {met : List Int} {k : Nat} (h : k < x.2.length) (hc : met.contains x.2[k].1 = true) : lostTo x met (k + 1) = lostTo x met k := by
  unfold lostTo
  rw [List.take_succ_eq_append_getElem h, List.filter_append, List.filter_cons_of_neg (by rw [hc]; decide)]
  simp
theorem lostTo_no {x : TBtree} {met : List Int} {k : Nat} (h : k < x.2.length) (hc : met.contains x.2[k].1 = false) : lostTo x met (k + 1) = lostTo x met k ++ [(7, x.2[k].1)] := by
  unfold lostTo
  rw [List.take_succ_eq_append_getElem h, List.filter_append, List.filter_cons_of_pos (by rw [hc]; decide)]
  simp
theorem lostTo_len (x : TBtree) (met : List Int) (k : Nat) : (lostTo x met k).length ≤ x.2.length := by
  unfold lostTo
  rw [List.length_map]
  have h1 := List.length_filter_le (fun t => !met.contains t.1) (x.2.take k)
  rw [List.length_take] at h1
  omega
def lookTo (x : TBtree) (k : Nat) : TInsp := ((lookB x).1, (lookB x).2.1, (lookB x).2.2 ++ lostTo x (lookB x).1 k)
theorem lookTo_zero (x : TBtree) : lookTo x 0 = lookB x := by unfold lookTo; rw [lostTo_zero, List.append_nil]
theorem lookTo_yes {x : TBtree} {k : Nat} (h : k < x.2.length) (hc : (lookB x).1.contains x.2[k].1 = true) : lookTo x (k + 1) = lookTo x k := by unfold lookTo; rw [lostTo_yes h hc]
theorem lookTo_no {x : TBtree} {k : Nat} (h : k < x.2.length) (hc : (lookB x).1.contains x.2[k].1 = false) : lookTo x (k + 1) = tellF (lookTo x k) 7 x.2[k].1 := by unfold lookTo tellF; rw [lostTo_no h hc, List.append_assoc]
theorem lookTo_len {x : TBtree} (hs : SlotsP x.2) (k : Nat) : (lookTo x k).2.2.length ≤ 700 := by
  show ((lookB x).2.2 ++ lostTo x (lookB x).1 k).length ≤ 700
  rw [List.length_append]
  have h1 := (look_faults hs).2
  have h2 := lostTo_len x (lookB x).1 k
  have h3 := slots_len hs
  omega
theorem look_none {x : TBtree} (h : pgAt x x.1 = none) : lookB x = tellF ([], none, []) 1 x.1 := by unfold lookB; rw [h]; rfl
theorem look_some {x : TBtree} {p : TPage} (h : pgAt x x.1 = some p) : lookB x = visitB x 64 x.1 1 ⟨#[]⟩ ⟨#[]⟩ ([], none, []) := by unfold lookB; rw [h]
def faultC (x : TBtree) : Int := if slotsB x.2 = true then 0 else 1
theorem faults_yes {x : TBtree} (h : slotsB x.2 = true) : faultsB x = (lookTo x x.2.length).2.2 := by unfold faultsB lookTo; rw [if_pos h, lostTo_all]
theorem faults_no {x : TBtree} (h : slotsB x.2 = false) : faultsB x = [] := by unfold faultsB; rw [if_neg (by rw [h]; decide)]
theorem faultC_yes {x : TBtree} (h : slotsB x.2 = true) : faultC x = 0 := if_pos h
theorem faultC_no {x : TBtree} (h : slotsB x.2 = false) : faultC x = 1 := if_neg (by rw [h]; decide)
def reachTo (x : TBtree) (k : Nat) : List Int := ((x.2.take k).map (·.1)).filter (fun i => (lookB x).1.contains i)
theorem reachTo_yes {x : TBtree} {k : Nat} (h : k < x.2.length) (hc : (lookB x).1.contains x.2[k].1 = true) : reachTo x (k + 1) = reachTo x k ++ [x.2[k].1] := by
  unfold reachTo
  have h2 := List.contains_iff_mem.1 hc
  rw [List.take_succ_eq_append_getElem h, List.map_append, List.filter_append]
  congr 1
  simp [h2]
theorem reachTo_no {x : TBtree} {k : Nat} (h : k < x.2.length) (hc : (lookB x).1.contains x.2[k].1 = false) : reachTo x (k + 1) = reachTo x k := by
  unfold reachTo
  have h2 : x.2[k].1 ∉ (lookB x).1 := fun hm => by rw [List.contains_iff_mem.2 hm] at hc; cases hc
  rw [List.take_succ_eq_append_getElem h, List.map_append, List.filter_append]
  simp [h2]
theorem reachTo_len (x : TBtree) (k : Nat) : (reachTo x k).length ≤ x.2.length := by
  unfold reachTo
  have h1 := List.length_filter_le (fun i => (lookB x).1.contains i) ((x.2.take k).map (·.1))
  rw [List.length_map, List.length_take] at h1
  omega
theorem reached_yes {x : TBtree} (h : slotsB x.2 = true) : reachedB x = reachTo x x.2.length := by unfold reachedB reachTo; rw [if_pos h, List.take_length]
theorem reached_no {x : TBtree} (h : slotsB x.2 = false) : reachedB x = [] := by unfold reachedB; rw [if_neg (by rw [h]; decide)]
theorem slotsP_of {l : List TSlot} (h : slotsB l = true) : SlotsP l := by
  cases hs : decide (SlotsP l)
  · rw [slotsB_f (of_decide_eq_false hs)] at h; cases h
  · exact of_decide_eq_true hs
theorem faults_len (x : TBtree) : (faultsB x).length ≤ 700 := by
  cases hb : slotsB x.2
  · rw [faults_no hb]; exact Nat.zero_le _
  · rw [faults_yes hb]; exact lookTo_len (slotsP_of hb) _
theorem reached_len (x : TBtree) : (reachedB x).length ≤ 64 := by
  cases hb : slotsB x.2
  · rw [reached_no hb]; exact Nat.zero_le _
  · rw [reached_yes hb]
    have h1 := reachTo_len x x.2.length
    have h2 := slots_len (slotsP_of hb)
    omega
end Go.Proofs.YtpjcgglhlmifdaaGreatDoor
