/-
  The tree of a list of records (plain; for BtTree and TreeIn).
-/
import Derived.Test.YtpjcgglhlmifdaaGreatDoorM3Wdg
import Derived.Test.YtpjcgglhlmifdaaGreatDoorM3Pv
namespace Go.Proofs.YtpjcgglhlmifdaaGreatDoor
open Go.RowKit
set_option linter.unusedVariables false
set_option linter.unusedSimpArgs false

def nodeOf (r : TRecord) : TNode := match placeOf r.1 with
  | some p => (p.1, p.2, r.2)
  | none => (⟨#[]⟩, [], r.2)
def recTree (l : List TRecord) : TTree := if l.length ≤ 120 then l.map nodeOf else []
def recTreeC (l : List TRecord) : Int := if l.length ≤ 120 then 0 else 4
def btTree (x : TBtree) : TTree := if btreeB x = true then recTree (gatherB x 64 x.1) else []
def btTreeC (x : TBtree) : Int := if btreeB x = true then recTreeC (gatherB x 64 x.1) else 1
theorem place_lens {k : ByteArray} {p : ByteArray × List ByteArray} (h : placeOf k = some p) : p.1.size ≤ 8 ∧ p.2.length ≤ 4 := by
  unfold placeOf at h
  split at h
  · rename_i hc
    rw [Option.map_eq_some_iff] at h
    obtain ⟨l, h3, rfl⟩ := h
    have h6 := subsP_of (getSubs_some h3).1
    exact ⟨(nameB_size hc.2).2, h6.1⟩
  · cases h
/-- A record of a page: its key is one, its value is short. -/
def RecOk (r : TRecord) : Prop := keyB r.1 = true ∧ r.2.size ≤ 64
theorem recs_ok {p : TPage} (h : pageB p = true) : ∀ r ∈ recsTo p p.2.2.1.length, RecOk r := fun r hr => by
  unfold recsTo at hr
  obtain ⟨j, hj, rfl⟩ := List.mem_map.1 hr
  have hj' : j < p.2.2.1.length := by simpa using hj
  cases hl : p.1
  · have := fork_vals h hl; omega
  · obtain ⟨h1, h2, _⟩ := page_vals h hl
    have hk : j < p.2.1.length := by omega
    have e1 : p.2.1.getD j ⟨#[]⟩ = p.2.1[j] := by simp [List.getD, List.getElem?_eq_getElem hk]
    have e2 : p.2.2.1.getD j ⟨#[]⟩ = p.2.2.1[j] := by simp [List.getD, List.getElem?_eq_getElem hj']
    refine ⟨?_, ?_⟩
    · show keyB (p.2.1.getD j ⟨#[]⟩) = true
      rw [e1]
      exact (page_keys h j hk).1
    · show (p.2.2.1.getD j ⟨#[]⟩).size ≤ 64
      rw [e2]
      exact h2 j hj'
theorem gather_ok {x : TBtree} (hs : SlotsP x.2) : ∀ (n : Nat) (id : Int), ∀ r ∈ gatherB x n id, RecOk r
  | 0, _, r, hr => by simp [gatherB] at hr
  | n + 1, id, r, hr => by
    unfold gatherB at hr
    cases hp : pgAt x id with
    | none => rw [hp] at hr; simp at hr
    | some p =>
      rw [hp] at hr
      rcases List.mem_append.1 hr with h | h
      · exact recs_ok (pgAt_ok hs hp) r h
      · unfold kidsG at h
        obtain ⟨k, _, hk⟩ := List.mem_flatMap.1 h
        exact gather_ok hs n _ r hk
theorem recOk_key {r : TRecord} (h : RecOk r) : r.1.size ≤ 1048576 := Nat.le_trans (keyB_size h.1) (by decide)
theorem nodeOf_some {r : TRecord} {p : ByteArray × List ByteArray} (h : placeOf r.1 = some p) : nodeOf r = (p.1, p.2, r.2) := by unfold nodeOf; rw [h]
theorem nodeOf_len (r : TRecord) : (nodeOf r).2.1.length ≤ 4 := by
  unfold nodeOf
  cases h : placeOf r.1 with
  | none => exact Nat.zero_le _
  | some p => exact (place_lens h).2
theorem cnt_nodesOf (l : List TRecord) : (mkL mmNode).cnt (l.map nodeOf) ≤ 6 * l.length := by
  show ((l.map nodeOf).map mmNode.cnt).sum ≤ 6 * l.length
  induction l with
  | nil => simp
  | cons r l ih =>
    have e1 : mmNode.cnt (nodeOf r) = 1 + (((nodeOf r).2.1.map mkS.cnt).sum + 1) := rfl
    have e3 : ((nodeOf r).2.1.map mkS.cnt).sum = (nodeOf r).2.1.length := by
      generalize (nodeOf r).2.1 = l
      induction l with
      | nil => rfl
      | cons a l ih => simp only [List.map_cons, List.sum_cons, List.length_cons, ih]; show 1 + l.length = _; omega
    have e4 := nodeOf_len r
    simp only [List.map_cons, List.sum_cons, List.length_cons]
    omega
theorem cbg_BtTree (x : TBtree) (hn : shBtree.sz x ≤ 1048576) : (1 : Int) + (mmTTree.cnt (btTree x) : Nat) ≤ 1000000000 := by
  have h : mmTTree.cnt (btTree x) ≤ 720 := by
    show (mkL mmNode).cnt (btTree x) ≤ 720
    unfold btTree recTree
    split
    · split
      · have := cnt_nodesOf (gatherB x 64 x.1); omega
      · exact Nat.zero_le _
    · exact Nat.zero_le _
  omega
end Go.Proofs.YtpjcgglhlmifdaaGreatDoor
