/-
  Redo: plain, and the reference's side.
-/
import Derived.Test.YtanjmolgpkffoaaGreatDoorM2G
import Derived.Test.YtanjmolgpkffoaaGreatDoorM2H
import Derived.Test.YtanjmolgpkffoaaGreatDoorM2Pn
import Derived.Deep.RegionHeld3
import Derived.Test.YtanjmolgpkffoaaGreatDoorM2Km
import Derived.Test.YtanjmolgpkffoaaGreatDoorM2Iq
import Derived.Deep.DeepCutAuto
namespace Go.Proofs.YtanjmolgpkffoaaGreatDoor
open Go.RowKit
set_option linter.unusedVariables false
set_option linter.unusedSimpArgs false

def imL (i : TImage) : TLoc := (i.1, i.2.1)
def valR (x : TTree) (l : TLoc) : ByteArray := if hasN x l = true then valN x l else ⟨#[]⟩
/-- The tree stands as the image says of the time before. -/
def matchB (x : TTree) (i : TImage) : Bool := decide (hasN x (imL i) = i.2.2.1) && decide (valR x (imL i) = i.2.2.2.1)
def missB (x : TTree) (l : List TImage) : Bool := l.any fun i => !matchB x i
def dropI (x : TTree) (i : TImage) : TTree := if i.2.2.2.2.1 = true then x else dropT x (imL i)
def dropAll (x : TTree) (l : List TImage) : TTree := l.foldl dropI x
def putAll : TTree → List TImage → TTree × Int
  | y, [] => (y, 0)
  | y, i :: l => if i.2.2.2.2.1 = true then (if putC y (imL i) = 0 then putAll (putT y (imL i) i.2.2.2.2.2) l else ([], putC y (imL i))) else putAll y l
def redo (x : TTree) (l : List TImage) : TTree × Int :=
  if treeB x = true ∧ imagesB l = true then (if missB x l = true then ([], 5) else putAll (dropAll x l) l) else ([], 1)
theorem dropI_P {x : TTree} {i : TImage} (h : TreeP x) : TreeP (dropI x i) := by
  unfold dropI
  split
  · exact h
  · exact dropT_P h
theorem dropAll_P : ∀ (l : List TImage) {x : TTree}, TreeP x → TreeP (dropAll x l)
  | [], _, h => h
  | i :: l, _, h => dropAll_P l (dropI_P h)
theorem dropAll_succ (x : TTree) (l : List TImage) {k : Nat} (h : k < l.length) : dropAll x (l.take (k + 1)) = dropI (dropAll x (l.take k)) l[k] := by
  rw [List.take_succ_eq_append_getElem h]
  unfold dropAll
  rw [List.foldl_append]
  rfl
theorem putAll_P : ∀ (l : List TImage) (y : TTree), TreeP y → (∀ i ∈ l, placeB i.1 i.2.1 = true ∧ i.2.2.2.2.2.size ≤ 64) → TreeP (putAll y l).1
  | [], y, h, _ => h
  | i :: l, y, h, hi => by
    have h1 := hi i (List.mem_cons_self ..)
    have h2 : ∀ j ∈ l, placeB j.1 j.2.1 = true ∧ j.2.2.2.2.2.size ≤ 64 := fun j hj => hi j (List.mem_cons_of_mem _ hj)
    unfold putAll
    by_cases ha : i.2.2.2.2.1 = true
    · rw [if_pos ha]
      by_cases hc : putC y (imL i) = 0
      · rw [if_pos hc]; exact putAll_P l _ (putT_P h h1.1 h1.2 (putC_ok hc)) h2
      · rw [if_neg hc]; exact treeP_nil
    · rw [if_neg ha]; exact putAll_P l y h h2
theorem img_place {i : TImage} (h : imgB i = true) : placeB i.1 i.2.1 = true ∧ i.2.2.2.2.2.size ≤ 64 := by
  simp only [imgB, Bool.and_eq_true, Bool.not_eq_true', Bool.or_eq_false_iff, decide_eq_false_iff_not] at h
  constructor
  · simp_all
  · omega
theorem redo_P (x : TTree) (l : List TImage) : TreeP (redo x l).1 := by
  unfold redo
  split
  · rename_i h
    split
    · exact treeP_nil
    · have hp : ImagesP l := of_decide_eq_true h.2
      exact putAll_P l _ (dropAll_P l (of_decide_eq_true h.1)) fun i hi => by
        obtain ⟨j, hj, rfl⟩ := List.getElem_of_mem hi
        exact img_place (hp.2 j hj).1
  · exact treeP_nil
theorem redo_miss {x : TTree} {l : List TImage} {k : Nat} (h : k < l.length) (hm : matchB x l[k] = false) (ht : treeB x = true) (hi : imagesB l = true) : redo x l = ([], 5) := by
  unfold redo
  rw [if_pos ⟨ht, hi⟩, if_pos]
  unfold missB
  rw [List.any_eq_true]
  exact ⟨l[k], List.getElem_mem h, by rw [hm]; rfl⟩
theorem redo_hit {x : TTree} {l : List TImage} (hm : ∀ k (h : k < l.length), matchB x l[k] = true) (ht : treeB x = true) (hi : imagesB l = true) : redo x l = putAll (dropAll x l) l := by
  unfold redo
  rw [if_pos ⟨ht, hi⟩, if_neg]
  unfold missB
  rw [List.any_eq_true]
  rintro ⟨i, hi, hb⟩
  obtain ⟨j, hj, rfl⟩ := List.getElem_of_mem hi
  rw [hm j hj] at hb
  simp at hb
theorem putAll_skip {y : TTree} {l : List TImage} {k : Nat} (h : k < l.length) (ha : l[k].2.2.2.2.1 = false) : putAll y (l.drop k) = putAll y (l.drop (k + 1)) := by
  rw [List.drop_eq_getElem_cons h]
  conv => lhs; unfold putAll
  rw [if_neg (by rw [ha]; simp)]
theorem putAll_step {y : TTree} {l : List TImage} {k : Nat} (h : k < l.length) (ha : l[k].2.2.2.2.1 = true) (hc : putC y (imL l[k]) = 0) : putAll y (l.drop k) = putAll (putT y (imL l[k]) l[k].2.2.2.2.2) (l.drop (k + 1)) := by
  rw [List.drop_eq_getElem_cons h]
  conv => lhs; unfold putAll
  rw [if_pos ha, if_pos hc]
theorem putAll_stop {y : TTree} {l : List TImage} {k : Nat} (h : k < l.length) (ha : l[k].2.2.2.2.1 = true) (hc : ¬ putC y (imL l[k]) = 0) : putAll y (l.drop k) = ([], putC y (imL l[k])) := by
  rw [List.drop_eq_getElem_cons h]
  unfold putAll
  rw [if_pos ha, if_neg hc]
set_option maxRecDepth 100000 in
set_option maxHeartbeats 8000000 in
/-- The place is not there: the tree itself. -/
theorem c_l19DropN (x : TTree) (A0 : Option Addr) (c0 : Nat) (s : ByteArray) (ys : List ByteArray) (B : Option Addr) (d : Nat) (w : World) (b00 : SRW shNode w A0 c0 x) (k : SRW shS w B d ys) (hb : hasN x (s, ys) = false) :
    Calls Tryz.prog 82 #[.agg #[.slice A0 x.length c0], .string s, .slice B ys.length d] w (RetV (.agg #[.slice A0 x.length c0]) w) := by
  have hvv : AV shTree w (.agg #[.slice A0 x.length c0]) x := ⟨_, rfl, mkTree b00⟩
  have ka0 : Bk ((w.alloc (.cells #[.slice A0 x.length c0] 32)).alloc (.cells #[.slice none 0 0] 32)) w.heap.size 32 #[.slice A0 x.length c0] := (Bk.new _ _ _).alloc _
  have kr0 : Bk ((w.alloc (.cells #[.slice A0 x.length c0] 32)).alloc (.cells #[.slice none 0 0] 32)) (w.heap.size + 1) 32 #[.slice none 0 0] := by simpa using Bk.new (w.alloc (.cells #[.slice A0 x.length c0] 32)) 32 #[.slice none 0 0]
  have uu0 : Up w ((w.alloc (.cells #[.slice A0 x.length c0] 32)).alloc (.cells #[.slice none 0 0] 32)) := ((Up.refl w).alloc _).alloc _
  have ga0 := ka0.cell 0
  have ca := fun W (hW : Up w W) => c_l03At x _ s ys B d W (hvv.up good_Tree hW) (k.up good_S hW)
  have hp := posN_le x (s, ys)
  have hxc := b00.1
  have hcm := b00.2.1
  have hcm' := hcm
  unfold maxLen at hcm'
  have hlen := b00.len_le
  rw [hb] at ca
  have CA := Lib.hid ca
  clear ca
  generalize posN x (s, ys) = p at *
  go_enter Tryz.func82, Tryz.ntmps82
  go_wp2_with fail
  refine (CA.out _ uu0).mono ?_
  rintro e w1 ⟨rfl, u1⟩
  have ga1 : w1.cell? ⟨w.heap.size, 0, none⟩ = some (.slice A0 x.length c0) := (ka0.up u1).cell 0
  have kr1 := kr0.up u1
  have gr1 := kr1.cell 0
  have fr1 := kr1.frozen 0
  go_wp2_with fail
  refine bodyPost_ret (v := .agg #[.slice A0 x.length c0]) (by simp [results, Tryz.results82, go_sem, gr1]) rfl ?_
  exact ⟨rfl, (uu0.trans u1).setCell (by simp) _⟩
set_option maxRecDepth 100000 in
set_option maxHeartbeats 8000000 in
/-- The place is there: a new tree without it. -/
theorem c_l19DropY (x : TTree) (A0 : Option Addr) (c0 : Nat) (s : ByteArray) (ys : List ByteArray) (B : Option Addr) (d : Nat) (w : World) (b00 : SRW shNode w A0 c0 x) (k : SRW shS w B d ys) (hx : x.length ≤ 1000000) (hl : ∀ i (h : i < x.length), x[i].2.1.length ≤ 1048576) (hb : hasN x (s, ys) = true) :
    Calls Tryz.prog 82 #[.agg #[.slice A0 x.length c0], .string s, .slice B ys.length d] w (ToV shTree (dropT x (s, ys)) w) := by
  obtain ⟨i0, hi0, hz0, hz1, hz2⟩ := info_parts cinfo_Node
  have hvv : AV shTree w (.agg #[.slice A0 x.length c0]) x := ⟨_, rfl, mkTree b00⟩
  have ka0 : Bk ((w.alloc (.cells #[.slice A0 x.length c0] 32)).alloc (.cells #[.slice none 0 0] 32)) w.heap.size 32 #[.slice A0 x.length c0] := (Bk.new _ _ _).alloc _
  have kr0 : Bk ((w.alloc (.cells #[.slice A0 x.length c0] 32)).alloc (.cells #[.slice none 0 0] 32)) (w.heap.size + 1) 32 #[.slice none 0 0] := by simpa using Bk.new (w.alloc (.cells #[.slice A0 x.length c0] 32)) 32 #[.slice none 0 0]
  have uu0 : Up w ((w.alloc (.cells #[.slice A0 x.length c0] 32)).alloc (.cells #[.slice none 0 0] 32)) := ((Up.refl w).alloc _).alloc _
  have ga0 := ka0.cell 0
  have ca := fun W (hW : Up w W) => c_l03At x _ s ys B d W (hvv.up good_Tree hW) (k.up good_S hW)
  have hp := posN_le x (s, ys)
  have hxc := b00.1
  have hcm := b00.2.1
  have hcm' := hcm
  unfold maxLen at hcm'
  have hlen := b00.len_le
  have hd : dropT x (s, ys) = x.take (posN x (s, ys)) ++ x.drop (posN x (s, ys) + 1) := by unfold dropT; rw [if_pos hb]
  have HR : Hid (dropT x (s, ys) = x.take (posN x (s, ys)) ++ x.drop (posN x (s, ys) + 1)) := hd
  have hmul1 : (x.length + 2) * i0.bytes ≤ 140737488355328 := by rw [hz2]; omega
  rw [hb] at ca
  obtain ⟨hq, _⟩ := has_at hb
  have CA := Lib.hid ca
  clear ca hb hd
  generalize posN x (s, ys) = p at *
  obtain ⟨X1, hX1⟩ : ∃ X1, X1 = x.take p := ⟨_, rfl⟩
  obtain ⟨X2, hX2⟩ : ∃ X2, X2 = x.drop (p + 1) := ⟨_, rfl⟩
  have hl1 : X1.length = p := by rw [hX1, List.length_take]; omega
  have hl2 : X2.length = x.length - (p + 1) := by rw [hX2, List.length_drop]
  have S1 : ∀ W, Up w W → SRW (shRef w shNode) W A0 c0 X1 := fun W hW => by rw [hX1]; exact (b00.take hp).ref hW
  have S2 : ∀ g off, A0 = some ⟨g, off, none⟩ → ∀ W, Up w W → SRW (shRef w shNode) W (some ⟨g, off + (p + 1) * 3, none⟩) (c0 - (p + 1)) X2 := fun g off hA W hW => by
    subst hA
    rw [hX2]; exact (b00.dropN (by omega)).ref hW
  have S3 : X2.length = 0 → ∀ (A2 : Option Addr) (c2 : Nat), c2 ≤ maxLen → ∀ W, Up w W → SRW (shRef w shNode) W A2 c2 X2 := fun h0 A2 c2 hc W _ => by rw [List.eq_nil_of_length_eq_zero h0]; exact SR.dropAll hc
  have HL2 : Hid (∀ i (h : i < (X1 ++ X2).length), (X1 ++ X2)[i].2.1.length ≤ 1048576) := fun i hi => by
    have hm := List.getElem_mem hi
    generalize (X1 ++ X2)[i] = n at hm
    rcases List.mem_append.1 hm with hm | hm
    · rw [hX1] at hm
      obtain ⟨j, hj, rfl⟩ := List.getElem_of_mem (List.mem_of_mem_take hm)
      exact hl j hj
    · rw [hX2] at hm
      obtain ⟨j, hj, rfl⟩ := List.getElem_of_mem (List.mem_of_mem_drop hm)
      exact hl j hj
  rw [← hX1, ← hX2] at HR
  obtain ⟨L, hL⟩ : ∃ L, L = X1 ++ X2 := ⟨_, rfl⟩
  rw [← hL] at HR HL2
  have hLl : L.length = p + (x.length - (p + 1)) := by rw [hL, List.length_append]; omega
  have HLL := Lib.hid hL
  have HLN := Lib.hid hLl
  clear hX1 hX2 hl
  have hb1 : X1.length * i0.bytes ≤ 140737488355328 := Nat.le_trans (Nat.mul_le_mul_right _ (by omega)) hmul1
  have hb3 : (X1.length + X2.length) * i0.bytes ≤ 140737488355328 := Nat.le_trans (Nat.mul_le_mul_right _ (by omega)) hmul1
  have hm3 : X1.length + X2.length ≤ maxLen := by unfold maxLen; omega
  have htl : L.length ≤ 1000000 := by omega
  clear hL hLl
  have gR := good_Ref (w0 := w) good_Node
  have hpi : ¬ (x.length : Int) < (p : Int) := by omega
  have hpj : ¬ (x.length : Int) < (p : Int) + 1 := by omega
  have hps : (p : Int) + 1 ≤ (x.length : Int) := by omega
  have hpt : (p : Int) ≤ (x.length : Int) := by omega
  have hpc : (p : Int) ≤ (c0 : Int) := by omega
  have hp0 : (0 : Int) ≤ (p : Int) := by omega
  have hp1 : (0 : Int) ≤ (p : Int) + 1 := by omega
  have hwr : IntKind.i64.wrap ((p : Int) + 1) = (p : Int) + 1 := IntWalk.i64_in _ (by omega)
  obtain ⟨g, off, rfl, hgo⟩ := b00.2.2 (by omega)
  clear hgo
  by_cases hcq : c0 = p + 1
  · subst hcq
    have hpc2 : (p : Int) ≤ (p : Int) + 1 := by omega
    have hpc3 : ¬ ((p : Int) + 1 < (p : Int)) := by omega
    have hz2 : X2.length = 0 := by omega
    have HLM : Hid (L.length = p) := by unfold Hid; rw [HLN.out]; omega
    go_enter Tryz.func82, Tryz.ntmps82
    go_wp2_with fail
    refine (CA.out _ uu0).mono ?_
    rintro e w1 ⟨rfl, u1⟩
    have ka1 := ka0.up u1
    have kr1 := kr0.up u1
    have ga1 : w1.cell? ⟨w.heap.size, 0, none⟩ = some (.slice (some ⟨g, off, none⟩) x.length (p + 1)) := ka1.cell 0
    have uu1 : Up w (w1.drew.alloc (.cells #[] 91)) := ((uu0.trans u1).drew).alloc _
    have hw1 : w.heap.size + 2 ≤ w1.heap.size := by have := u1.size; simp at this; omega
    go_wp2_with fail
    go_region_held3 (fun W => W.cell? ⟨w.heap.size, 0, none⟩ = some (.slice (some ⟨g, off, none⟩) x.length (p + 1)))
      (first | exact ka1.drew.cell 0 | exact (ka1.drew.alloc _).cell 0 | exact ka2.cell 0 | exact ka4.cell 0 | exact ka5.cell 0 | exact (ka5.far (p := ⟨w.heap.size + 1, 0, none⟩) (Nat.ne_of_lt (Nat.lt_succ_self _)) _).cell 0)
      (first
        | (go_at_call 72
           refine co.mono ?_
           rintro e w5 ⟨D4, d4, bl4, rfl, o4, nd4, u5⟩
           have ka5 := ka4.up u5
           have kr5 := kr4.up u5
           have gr5 : w5.cell? ⟨w.heap.size + 1, 0, none⟩ = some (.slice none 0 0) := kr5.cell 0
           have fr5 : w5.frozen? ⟨w.heap.size + 1, 0, none⟩ = false := kr5.frozen 0)
        | (refine step_app_new (good_Ref (w0 := w) good_Node) flat_Ref rfl _ _ _ 91 rfl i0 _ Tryz.underlying30 hi0 hz0 hz1 (by rfl) rfl (by rw [hl1]; rfl) (S1 _ uu1) hb1 ?_
           intro D1 d1 bl1 w2 so1 nd1 u2
           have hin1 : ∀ y ∈ bl1, w.heap.size + 3 ≤ y := fun y hy => by have := (so1.in_ gR y hy).1; simp at this; omega
           have so1' := so1.wide gR (lo' := w.heap.size) (by simp; omega) (Nat.le_refl _)
           have ka2 := ((ka1.drew).alloc (.cells #[] 91)).up u2
           have kr2 := ((kr1.drew).alloc (.cells #[] 91)).up u2
           have uu2 := uu1.trans u2
           obtain ⟨news, hsrc, hrw⟩ := (S3 (by omega) (some ⟨g, off, none⟩) 0 (Nat.zero_le _) w2 uu2).src (lo := w.heap.size) (hi := w2.heap.size) gR flat_Ref (e' := 91) (tx := 30) Tryz.underlying30 (n := i0.size) hz1
           have nd1' : (bl1 ++ (List.replicate X2.length ([] : List Nat)).flatten).Nodup := by simpa using nd1)
        | (refine step_app (good_Ref (w0 := w) good_Node) rfl _ _ _ _ 91 rfl i0 _ Tryz.underlying30 hi0 hz0 hz1 (by rfl) (lo := w.heap.size) (xs := X1) (ys := X2) (bl := bl1) (bs := List.replicate X2.length []) (news := news) (by rw [hl1]; rfl) (by rw [hz2]; rfl) so1' nd1' hsrc hrw uu2.size hb3 hm3 ?_
           intro D3 d3 bl3 w4 hap
           obtain ⟨so3, nd3, mem3, on3⟩ := hap
           have ka4 := ka2.only on3 (fun hm => by have := hin1 _ hm; omega)
           have kr4 := kr2.only on3 (fun hm => by have := hin1 _ hm; omega)
           have uu4 : Up w w4 := Up.only uu2 on3 (fun y hy => by have := hin1 _ hy; omega)
           have sr4 := SR.unref good_Node (so3.rep gR) uu4
           rw [← HLL.out] at sr4
           have co := c_l03Own L D3 d3 w4 sr4 htl HL2.out
           rw [HLM.out] at co))
    have hw4 := uu4.size
    have hk4 := kr4.lt
    go_wp2_with fail
    have z4 := (o4.set good_Node (w.heap.size + 1) 0 [.slice D4 L.length d4] (by omega)).wide good_Node (lo' := w.heap.size) (by omega) (Nat.le_refl _)
    refine bodyPost_ret (v := .agg #[.slice D4 L.length d4]) (by simp [results, Tryz.results82, go_sem, gr5]) rfl ?_
    rw [HR.out]
    exact ⟨[.slice D4 L.length d4], bl4, rfl, mkOTree z4, nd4, (uu4.trans u5).setCell (by simp) _⟩
  · have hs2 := S2 g off rfl
    go_enter Tryz.func82, Tryz.ntmps82
    go_wp2_with fail
    refine (CA.out _ uu0).mono ?_
    rintro e w1 ⟨rfl, u1⟩
    have ka1 := ka0.up u1
    have kr1 := kr0.up u1
    have ga1 : w1.cell? ⟨w.heap.size, 0, none⟩ = some (.slice (some ⟨g, off, none⟩) x.length c0) := ka1.cell 0
    have uu1 : Up w (w1.drew.alloc (.cells #[] 91)) := ((uu0.trans u1).drew).alloc _
    have hw1 : w.heap.size + 2 ≤ w1.heap.size := by have := u1.size; simp at this; omega
    go_wp2_with fail
    go_region_held3 (fun W => W.cell? ⟨w.heap.size, 0, none⟩ = some (.slice (some ⟨g, off, none⟩) x.length c0))
      (first | exact ka1.drew.cell 0 | exact (ka1.drew.alloc _).cell 0 | exact ka2.cell 0 | exact ka4.cell 0 | exact ka5.cell 0 | exact (ka5.far (p := ⟨w.heap.size + 1, 0, none⟩) (Nat.ne_of_lt (Nat.lt_succ_self _)) _).cell 0)
      (first
        | (go_at_call 72
           refine co.mono ?_
           rintro e w5 ⟨D4, d4, bl4, rfl, o4, nd4, u5⟩
           have ka5 := ka4.up u5
           have kr5 := kr4.up u5
           have gr5 : w5.cell? ⟨w.heap.size + 1, 0, none⟩ = some (.slice none 0 0) := kr5.cell 0
           have fr5 : w5.frozen? ⟨w.heap.size + 1, 0, none⟩ = false := kr5.frozen 0)
        | (refine step_app_new (good_Ref (w0 := w) good_Node) flat_Ref rfl _ _ _ 91 rfl i0 _ Tryz.underlying30 hi0 hz0 hz1 (by rfl) rfl (by rw [hl1]; rfl) (S1 _ uu1) hb1 ?_
           intro D1 d1 bl1 w2 so1 nd1 u2
           have hin1 : ∀ y ∈ bl1, w.heap.size + 3 ≤ y := fun y hy => by have := (so1.in_ gR y hy).1; simp at this; omega
           have so1' := so1.wide gR (lo' := w.heap.size) (by simp; omega) (Nat.le_refl _)
           have ka2 := ((ka1.drew).alloc (.cells #[] 91)).up u2
           have kr2 := ((kr1.drew).alloc (.cells #[] 91)).up u2
           have uu2 := uu1.trans u2
           obtain ⟨news, hsrc, hrw⟩ := (hs2 w2 uu2).src (lo := w.heap.size) (hi := w2.heap.size) gR flat_Ref (e' := 91) (tx := 30) Tryz.underlying30 (n := i0.size) hz1
           have nd1' : (bl1 ++ (List.replicate X2.length ([] : List Nat)).flatten).Nodup := by simpa using nd1)
        | (refine step_app (good_Ref (w0 := w) good_Node) rfl _ _ _ _ 91 rfl i0 _ Tryz.underlying30 hi0 hz0 hz1 (by rfl) (lo := w.heap.size) (xs := X1) (ys := X2) (bl := bl1) (bs := List.replicate X2.length []) (news := news) (by rw [hl1]; rfl) (by rw [hl2]; rfl) so1' nd1' hsrc hrw uu2.size hb3 hm3 ?_
           intro D3 d3 bl3 w4 hap
           obtain ⟨so3, nd3, mem3, on3⟩ := hap
           have ka4 := ka2.only on3 (fun hm => by have := hin1 _ hm; omega)
           have kr4 := kr2.only on3 (fun hm => by have := hin1 _ hm; omega)
           have uu4 : Up w w4 := Up.only uu2 on3 (fun y hy => by have := hin1 _ hy; omega)
           have sr4 := SR.unref good_Node (so3.rep gR) uu4
           rw [← HLL.out] at sr4
           have co := c_l03Own L D3 d3 w4 sr4 htl HL2.out
           rw [HLN.out] at co))
    have hw4 := uu4.size
    have hk4 := kr4.lt
    go_wp2_with fail
    have z4 := (o4.set good_Node (w.heap.size + 1) 0 [.slice D4 L.length d4] (by omega)).wide good_Node (lo' := w.heap.size) (by omega) (Nat.le_refl _)
    refine bodyPost_ret (v := .agg #[.slice D4 L.length d4]) (by simp [results, Tryz.results82, go_sem, gr5]) rfl ?_
    rw [HR.out]
    exact ⟨[.slice D4 L.length d4], bl4, rfl, mkOTree z4, nd4, (uu4.trans u5).setCell (by simp) _⟩
theorem sum_mem {α : Type} (f : α → Nat) : ∀ (l : List α) (j : Nat) (h : j < l.length), f l[j] ≤ (l.map f).sum
  | a :: l, 0, _ => by simp
  | a :: l, j + 1, h => by
    have := sum_mem f l j (by simpa using h)
    simp only [List.map_cons, List.sum_cons, List.getElem_cons_succ]
    omega
theorem img_sz {l : List TImage} (hl : (shL shImage).sz l ≤ 1048576) {j : Nat} (h : j < l.length) : l[j].1.size ≤ 1048576 ∧ (shL shS).sz l[j].2.1 ≤ 1048576 := by
  have h1 := sum_mem shImage.sz l j h
  have h2 : (shL shImage).sz l = l.length + (l.map shImage.sz).sum := rfl
  have h3 : shImage.sz l[j] = l[j].1.size + ((shL shS).sz l[j].2.1 + (0 + (l[j].2.2.2.1.size + (0 + l[j].2.2.2.2.2.size)))) := rfl
  omega
theorem getV_eq {x : TTree} {l : TLoc} (hx : TreeP x) (hp : placeB l.1 l.2 = true) : getV x l = .tuple #[.string (valR x l), .bool (hasN x l)] := by
  unfold getV valR
  rw [treeB_t hx]
  cases hb : hasN x l <;> simp [hp]
/-- A result that reads in memory younger than the call, with a code beside it. -/
def RpN {α : Type} (s : Sh α) (x : α) (n : Int) (w : World) (e : Ending) (w' : World) : Prop := ∃ cs, e = .returned (.tuple #[.agg cs.toArray, .int .i64 n]) ∧ s.rep w' w.heap.size w'.heap.size cs x ∧ Up w w'
theorem ToR.rpN {α : Type} {s : Sh α} (hg : Good s) {x : α} {n : Int} {w w' : World} {e : Ending} (h : ToR s x n w e w') : RpN s x n w e w' := by
  obtain ⟨cs, bl, he, ho, _, hu⟩ := h
  exact ⟨cs, he, hg.own_rep ho, hu⟩
theorem RpN.rp {α : Type} {s : Sh α} (hg : Good s) {x : α} {n : Int} {w w' : World} {e : Ending} (h : RpN s x n w e w') : RpR s x n w e w' := by
  obtain ⟨cs, he, ho, hu⟩ := h
  exact ⟨cs, he, hg.wide ho (Nat.zero_le _) (Nat.le_refl _), hu⟩
set_option maxRecDepth 100000 in
set_option maxHeartbeats 8000000 in
theorem cs_RedoN (v : Value) (x : TTree) (B : Option Addr) (d : Nat) (l : List TImage) (w : World) (h : AV shTree w v x) (hn : shTree.sz x ≤ 1048576) (k : SRW shImage w B d l) (hl : (shL shImage).sz l ≤ 1048576) :
    Calls Tryz.prog 39 #[v, .slice B l.length d] w (RpN shTree (redo x l).1 (redo x l).2 w) := by
  have hvv := h
  obtain ⟨cs, rfl, h⟩ := h
  obtain ⟨A0, c0, rfl, b00⟩ := openTree h
  clear h
  have hlen := k.len_le
  obtain ⟨W0, hW0⟩ : ∃ W0, W0 = ((w.alloc (.cells #[.slice A0 x.length c0] 32)).alloc (.cells #[.slice none 0 0] 32)) := ⟨_, rfl⟩
  have u0 : Up w W0 := by rw [hW0]; exact ((Up.refl w).alloc _).alloc _
  have ka0 : Bk W0 w.heap.size 32 #[.slice A0 x.length c0] := by rw [hW0]; exact (Bk.new _ _ _).alloc _
  have kr0 : Bk W0 (w.heap.size + 1) 32 #[.slice none 0 0] := by rw [hW0]; simpa using Bk.new (w.alloc (.cells #[.slice A0 x.length c0] 32)) 32 #[.slice none 0 0]
  have hs0 : W0.heap.size = w.heap.size + 2 := by rw [hW0]; simp
  have ct := fun W (hW : Up w W) => c_specTreeOk _ x W (hvv.up good_Tree hW) hn
  have ci := fun W (hW : Up w W) => c_specImagesOk l B d W (k.up good_Image hW)
  have CI := Lib.hid ci
  cases ht : treeB x
  · have HD : Hid (redo x l = ([], 1)) := by unfold Hid redo; rw [if_neg (by rw [ht]; simp)]
    rw [ht] at ct
    have CT := Lib.hid ct
    clear ct ht ci
    go_enter Tryz.func39, Tryz.ntmps39
    go_wp2_with fail
    rw [← hW0]
    refine (CT.out _ u0).mono ?_
    rintro e w1 ⟨rfl, u1⟩
    have kr1 := kr0.up u1
    have gr1 := kr1.cell 0
    have fr1 := kr1.frozen 0
    clear hW0
    go_wp2_with fail
    refine bodyPost_ret (v := .tuple #[.agg #[.slice none 0 0], .int .i64 1]) (by simp [results, Tryz.results39, go_sem, gr1]) rfl ?_
    rw [HD.out]
    exact ToR.rpN good_Tree (zeroTree _ _ _ ((u0.trans u1).setCell (by simp) _))
  rw [ht] at ct
  have CT := Lib.hid ct
  clear ct
  cases hi : imagesB l
  · have HD : Hid (redo x l = ([], 1)) := by unfold Hid redo; rw [if_neg (by rw [hi]; simp)]
    rw [hi] at CI
    clear ht ci hi
    go_enter Tryz.func39, Tryz.ntmps39
    go_wp2_with fail
    rw [← hW0]
    refine (CT.out _ u0).mono ?_
    rintro e w1 ⟨rfl, u1⟩
    have kr1 := kr0.up u1
    go_wp2_with fail
    refine (CI.out _ (u0.trans u1)).mono ?_
    rintro e w2 ⟨rfl, u2⟩
    have kr2 := kr1.up u2
    have gr2 := kr2.cell 0
    have fr2 := kr2.frozen 0
    clear hW0
    go_wp2_with fail
    refine bodyPost_ret (v := .tuple #[.agg #[.slice none 0 0], .int .i64 1]) (by simp [results, Tryz.results39, go_sem, gr2]) rfl ?_
    rw [HD.out]
    exact ToR.rpN good_Tree (zeroTree _ _ _ (((u0.trans u1).trans u2).setCell (by simp) _))
  have hTP := treeP_of ht
  have hIP : ImagesP l := of_decide_eq_true hi
  have HTP := Lib.hid hTP
  have HIP := Lib.hid hIP
  have co := fun W (hW : Up w W) => c_l03Own x A0 c0 W (b00.up good_Node hW) (by have := hTP.1; omega) (treeP_subs hTP)
  have CO := Lib.hid co
  have HMI : Hid (∀ q (hq : q < l.length), matchB x l[q] = false → redo x l = ([], 5)) := fun q hq hm => redo_miss hq hm ht hi
  have HHI : Hid ((∀ q (hq : q < l.length), matchB x l[q] = true) → redo x l = putAll (dropAll x l) l) := fun hm => redo_hit hm ht hi
  rw [hi] at CI
  have HSZ := Lib.hid hl
  clear co ht hi hTP hIP ci hl
  go_enter Tryz.func39, Tryz.ntmps39
  go_wp2_with fail
  rw [← hW0]
  refine (CT.out _ u0).mono ?_
  rintro e w1 ⟨rfl, u1⟩
  go_wp2_with fail
  refine (CI.out _ (u0.trans u1)).mono ?_
  rintro e w2 ⟨rfl, u2⟩
  have uu2 := (Up.trans u1 u2)
  clear hW0
  go_wp2_with fail
  go_loopw [6] (fun i wr => ∃ (j : Nat), j ≤ l.length ∧ i = .int .i64 j ∧ Hid (∀ q (hq : q < l.length), q < j → matchB x l[q] = true) ∧ Up W0 wr) (fun i _ => l.length - (intOf i).toNat)
  case atStart => exact ⟨0, Nat.zero_le _, rfl, fun q hq h => absurd h (by omega), uu2⟩
  case round =>
    obtain ⟨j, hj, rfl, HM, hu⟩ := hrel
    have uw := u0.trans hu
    have ka := ka0.up hu
    have kr := kr0.up hu
    have ga : wr.cell? ⟨w.heap.size, 0, none⟩ = some (.slice A0 x.length c0) := ka.cell 0
    by_cases hlt : j < l.length
    · obtain ⟨g, off, A2, c2, rfl, _, hgl, hc0, hc1, hc2, hc3, hc4, hc5, b0, b1, b3, b5, _⟩ := atImage k hlt
      have S0 : wr.cell? ⟨w.heap.size, 0, none⟩ = some (.slice A0 x.length c0) ∧ wr.cell? ⟨g, off + j * 6, none⟩ = some (.string l[j].1) ∧ wr.cell? ⟨g, off + j * 6 + 1, none⟩ = some (.slice A2 l[j].2.1.length c2) ∧ wr.cell? ⟨g, off + j * 6 + 2, none⟩ = some (.bool l[j].2.2.1) ∧ wr.cell? ⟨g, off + j * 6 + 3, none⟩ = some (.string l[j].2.2.2.1) :=
        ⟨ga, (uw.cell (cell_lt hc0)).trans hc0, (uw.cell (cell_lt hc1)).trans hc1, (uw.cell (cell_lt hc2)).trans hc2, (uw.cell (cell_lt hc3)).trans hc3⟩
      have HS0 := Lib.hid S0
      have hsz := img_sz HSZ.out hlt
      have hpl := (img_place (HIP.out.2 j hlt).1).1
      have cg : ∀ W, Up wr W → Calls Tryz.prog 13 #[.agg #[.slice A0 x.length c0], .string l[j].1, .slice A2 l[j].2.1.length c2] W (RetV (.tuple #[.string (valR x (imL l[j])), .bool (hasN x (imL l[j]))]) W) := fun W hW => by
        have := cs_GetNode _ x l[j].1 A2 c2 l[j].2.1 W (hvv.up good_Tree (uw.trans hW)) hn b0 hsz.1 (b1.up good_S (uw.trans hW)) hsz.2
        rw [show (l[j].1, l[j].2.1) = imL l[j] from rfl, getV_eq HTP.out hpl] at this
        exact this
      have hmd : matchB x l[j] = (decide (hasN x (imL l[j]) = l[j].2.2.1) && decide (valR x (imL l[j]) = l[j].2.2.2.1)) := rfl
      have HMJ := Lib.hid (HMI.out j hlt)
      obtain ⟨m, hm⟩ : ∃ m, m = matchB x l[j] := ⟨_, rfl⟩
      rw [← hm] at hmd
      have HMM := Lib.hid hm
      generalize hasN x (imL l[j]) = hb at *
      generalize valR x (imL l[j]) = hv at *
      generalize l[j].2.2.1 = had at *
      generalize l[j].2.2.2.1 = old at *
      generalize l[j].1 = nm at *
      have CG := Lib.hid cg
      clear cg hsz hpl S0 hc0 hc1 hc2 hc3 hc4 hc5 hm ga
      go_wp2_with fail
      go_region_held3 (fun W => W.cell? ⟨w.heap.size, 0, none⟩ = some (.slice A0 x.length c0) ∧ W.cell? ⟨g, off + j * 6, none⟩ = some (.string nm) ∧ W.cell? ⟨g, off + j * 6 + 1, none⟩ = some (.slice A2 l[j].2.1.length c2) ∧ W.cell? ⟨g, off + j * 6 + 2, none⟩ = some (.bool had) ∧ W.cell? ⟨g, off + j * 6 + 3, none⟩ = some (.string old))
        (first | exact up5 (Up.refl wr).drew HS0.out | exact up5 v3 HS0.out)
        (first
          | (go_at_call 13
             refine (CG.out _ ((Up.refl wr).drew)).mono ?_
             rintro e w3 ⟨rfl, u3⟩
             have v3 : Up wr w3 := (Up.refl wr).drew.trans u3))
      obtain ⟨_, _, _, g2, g3⟩ := up5 v3 HS0.out
      have kr3 := kr.up v3
      have gr3 := kr3.cell 0
      have fr3 := kr3.frozen 0
      by_cases hq : hb = had ∧ hv = old
      · obtain ⟨rfl, rfl⟩ := hq
        have HMT : Hid (∀ q (hq : q < l.length), q < j + 1 → matchB x l[q] = true) := fun q hq h => by
          by_cases e : q = j
          · subst e; rw [← HMM.out, hmd]; simp
          · exact HM.out q hq (by omega)
        clear hmd HMM HMJ
        go_wp2_with fail
        go_roundw
        case rel => exact ⟨j + 1, by omega, by go_num, HMT, hu.trans v3⟩
        case measure => simp [intOf]; omega
      · have hmf : m = false := by rw [hmd]; simp only [Bool.and_eq_false_iff, decide_eq_false_iff_not]; exact Decidable.not_and_iff_or_not.1 hq
        have HD : Hid (redo x l = ([], 5)) := HMJ.out (HMM.out ▸ hmf)
        clear HMJ HMM hmd hmf
        by_cases hq1 : hb = had
        · subst hq1
          have hq2 : ¬ hv = old := fun e => hq ⟨rfl, e⟩
          have hq3 : (hv.toList == old.toList) = false := by rw [str_beq]; simp [hq2]
          clear hq
          go_wp2_with fail
          refine bodyPost_ret (v := .tuple #[.agg #[.slice none 0 0], .int .i64 5]) (by simp [results, Tryz.results39, go_sem, gr3]) rfl ?_
          rw [HD.out]
          exact ToR.rpN good_Tree (zeroTree _ _ _ ((uw.trans v3).setCell (by simp) _))
        · have hq3 : (hb == had) = false := by simpa using hq1
          have hq4 : (hb != had) = true := by simpa using hq1
          clear hq
          go_wp2_with fail
          refine bodyPost_ret (v := .tuple #[.agg #[.slice none 0 0], .int .i64 5]) (by simp [results, Tryz.results39, go_sem, gr3]) rfl ?_
          rw [HD.out]
          exact ToR.rpN good_Tree (zeroTree _ _ _ ((uw.trans v3).setCell (by simp) _))
    · have HH : Hid (redo x l = putAll (dropAll x l) l) := HHI.out fun q hq => HM.out q hq (by omega)
      clear HMI HHI CT CI HM
      go_wp2_with fail
      refine (CO.out _ uw).mono ?_
      rintro e w4 ⟨D2, d2, bl2, rfl, o2, nd2, u4⟩
      have kr4 := (kr.up u4).alloc (.cells #[.slice D2 x.length d2] 32)
      have uu4 := (uw.trans u4).alloc (.cells #[.slice D2 x.length d2] 32)
      have ko4 : Bk (w4.alloc (.cells #[.slice D2 x.length d2] 32)) w4.heap.size 32 #[.slice D2 x.length d2] := Bk.new _ _ _
      have hwr : w.heap.size + 2 ≤ wr.heap.size := by have := hu.size; omega
      have hw4 : w.heap.size + 2 ≤ w4.heap.size := by have := u4.size; omega
      have h4a : Up w4 (w4.alloc (.cells #[.slice D2 x.length d2] 32)) := (Up.refl w4).alloc _
      have hsr4 : SR shNode (w4.alloc (.cells #[.slice D2 x.length d2] 32)) (w.heap.size + 2) w4.heap.size D2 d2 x := ((o2.rep good_Node).wide good_Node hwr (Nat.le_refl _)).keep good_Node (h4a.keeps (Nat.le_refl _))
      clear kr hu uw uu2 u1 u2 hwr
      go_wp2_with fail
      go_loopw [10] (fun i wr => ∃ (j : Nat) (y : TTree) (A : Option Addr) (c lo hi : Nat), j ≤ l.length ∧ i = .int .i64 j ∧ Bk wr w4.heap.size 32 #[.slice A y.length c] ∧ Bk wr (w.heap.size + 1) 32 #[.slice none 0 0] ∧ SR shNode wr lo hi A c y ∧ Up w wr ∧ Hid (TreeP y) ∧ Hid (y = dropAll x (l.take j)) ∧ w.heap.size + 2 ≤ lo ∧ (hi ≤ w4.heap.size ∨ w4.heap.size < lo) ∧ hi ≤ wr.heap.size) (fun i _ => l.length - (intOf i).toNat)
      case atStart => exact ⟨0, x, D2, d2, w.heap.size + 2, w4.heap.size, Nat.zero_le _, rfl, ko4, kr4, hsr4, uu4, HTP, by rfl, Nat.le_refl _, .inl (Nat.le_refl _), by simp⟩
      case round =>
        obtain ⟨j, y, A, c, lo, hi, hj, rfl, ko, kr, sr, hu, HP, HC, hlo, hb, hhi⟩ := hrel
        have go0 : wr.cell? ⟨w4.heap.size, 0, none⟩ = some (.slice A y.length c) := ko.cell 0
        have hol := ko.lt
        by_cases hlt : j < l.length
        · obtain ⟨g, off, A2, c2, rfl, _, hgl, hc0, hc1, hc2, hc3, hc4, hc5, b0, b1, b3, b5, _⟩ := atImage k hlt
          have q0 := (hu.cell (cell_lt hc0)).trans hc0
          have q1 := (hu.cell (cell_lt hc1)).trans hc1
          have q4 := (hu.cell (cell_lt hc4)).trans hc4
          have HDS : Hid (dropAll x (l.take (j + 1)) = dropI y l[j]) := by unfold Hid; rw [dropAll_succ x l hlt, ← HC.out]
          cases hha : l[j].2.2.2.2.1
          · rw [hha] at q4
            have hdi : dropI y l[j] = dropT y (imL l[j]) := by unfold dropI; rw [if_neg (by rw [hha]; simp)]
            cases hbn : hasN y (imL l[j])
            · have HDN : Hid (dropAll x (l.take (j + 1)) = y) := by unfold Hid; rw [HDS.out, hdi]; unfold dropT; rw [if_neg (by rw [hbn]; simp)]
              have cn : ∀ W, Up wr W → Calls Tryz.prog 82 #[.agg #[.slice A y.length c], .string l[j].1, .slice A2 l[j].2.1.length c2] W (RetV (.agg #[.slice A y.length c]) W) := fun W hW => c_l19DropN y A c l[j].1 l[j].2.1 A2 c2 W (SR.up good_Node (sr.wide good_Node (Nat.zero_le _) hhi) hW) (b1.up good_S (hu.trans hW)) hbn
              have CN := Lib.hid cn
              clear cn hbn hdi HDS hha hc0 hc1 hc2 hc3 hc4 hc5
              go_wp2_with fail
              go_region_law
                (first
                  | (go_simp
                     go_at_call 82
                     (with_reducible refine (CN.out _ (Up.refl wr).drew).mono ?_)
                     rintro e w5 ⟨rfl, u5⟩
                     have ko5 := ko.drew.up u5
                     have g5 := ko5.cell 0
                     have f5 := ko5.frozen 0))
              all_goals
                have v5 : Up wr w5 := (Up.refl wr).drew.trans u5
                have hbut := But.set w5 w4.heap.size 0 (.slice A y.length c)
                have hsz5 := v5.size
                have kr5 := (kr.up v5).far (p := ⟨w4.heap.size, 0, none⟩) (by simp; omega) (.slice A y.length c)
                go_wp2_with fail
                go_roundw
                case rel => exact ⟨j + 1, y, A, c, lo, hi, by omega, by go_num, by simpa using ko5.set 0 (.slice A y.length c), kr5, (sr.keep good_Node (v5.keeps hhi)).keep good_Node (fun b h1 h2 => hbut.block b (by omega)), (hu.trans v5).setCell (by simp; omega) _, HP, HDN.out.symm, hlo, hb, by rw [hbut.size]; omega⟩
                case measure => simp [intOf]; omega
            · have HDY : Hid (dropAll x (l.take (j + 1)) = dropT y (imL l[j])) := by unfold Hid; rw [HDS.out, hdi]
              have HPY : Hid (TreeP (dropT y (imL l[j]))) := dropT_P HP.out
              have cy : ∀ W, Up wr W → Calls Tryz.prog 82 #[.agg #[.slice A y.length c], .string l[j].1, .slice A2 l[j].2.1.length c2] W (ToV shTree (dropT y (imL l[j])) W) := fun W hW => c_l19DropY y A c l[j].1 l[j].2.1 A2 c2 W (SR.up good_Node (sr.wide good_Node (Nat.zero_le _) hhi) hW) (b1.up good_S (hu.trans hW)) (by have := HP.out.1; omega) (treeP_subs HP.out) hbn
              generalize dropT y (imL l[j]) = R at *
              have CY := Lib.hid cy
              clear cy hbn hdi HDS hha hc0 hc1 hc2 hc3 hc4 hc5
              go_wp2_with fail
              go_region_law
                (first
                  | (go_simp
                     go_at_call 82
                     (with_reducible refine (CY.out _ (Up.refl wr).drew).mono ?_)
                     rintro e w5 ⟨cs5, bl5, rfl, o5, nd5, u5⟩
                     obtain ⟨D5, d5, _, rfl, rfl, so5⟩ := openOTree o5
                     have ko5 := ko.drew.up u5
                     have g5 := ko5.cell 0
                     have f5 := ko5.frozen 0))
              all_goals
                have v5 : Up wr w5 := (Up.refl wr).drew.trans u5
                have hbut := But.set w5 w4.heap.size 0 (.slice D5 R.length d5)
                have hsz5 := v5.size
                have kr5 := (kr.up v5).far (p := ⟨w4.heap.size, 0, none⟩) (by simp; omega) (.slice D5 R.length d5)
                have hwz : w.heap.size + 2 ≤ wr.heap.size := by omega
                have sr5 : SR shNode w5 wr.heap.size w5.heap.size D5 d5 R := so5.rep good_Node
                go_wp2_with fail
                go_roundw
                case rel => exact ⟨j + 1, R, D5, d5, wr.heap.size, w5.heap.size, by omega, by go_num, by simpa using ko5.set 0 (.slice D5 R.length d5), kr5, sr5.keep good_Node (fun b h1 h2 => hbut.block b (by omega)), (hu.trans v5).setCell (by simp; omega) _, HPY, HDY.out.symm, hwz, .inr hol, by rw [hbut.size]; omega⟩
                case measure => simp [intOf]; omega
          · rw [hha] at q4
            have HDT : Hid (dropAll x (l.take (j + 1)) = y) := by unfold Hid; rw [HDS.out]; unfold dropI; rw [if_pos hha]
            clear HDS hha hc0 hc1 hc2 hc3 hc4 hc5
            go_wp2_with fail
            go_roundw
            case rel => exact ⟨j + 1, y, A, c, lo, hi, by omega, by go_num, ko, kr, sr, hu, HP, HDT.out.symm, hlo, hb, hhi⟩
            case measure => simp [intOf]; omega
        · have HY : Hid (redo x l = putAll y l) := by unfold Hid; rw [HH.out, HC.out, List.take_of_length_le (by omega)]
          clear HH HC
          go_wp2_with fail
          go_loopw [11] (fun i wr => ∃ (j : Nat) (y : TTree) (A : Option Addr) (c lo hi : Nat), j ≤ l.length ∧ i = .int .i64 j ∧ Bk wr w4.heap.size 32 #[.slice A y.length c] ∧ Bk wr (w.heap.size + 1) 32 #[.slice none 0 0] ∧ SR shNode wr lo hi A c y ∧ Up w wr ∧ Hid (TreeP y) ∧ Hid (redo x l = putAll y (l.drop j)) ∧ w.heap.size + 2 ≤ lo ∧ (hi ≤ w4.heap.size ∨ w4.heap.size < lo) ∧ hi ≤ wr.heap.size) (fun i _ => l.length - (intOf i).toNat)
          case atStart => exact ⟨0, y, A, c, lo, hi, Nat.zero_le _, rfl, ko, kr, sr, hu, HP, by rw [List.drop_zero]; exact HY, hlo, hb, hhi⟩
          case round =>
            clear go0 hol HY hb hhi hlo HP hu sr kr ko
            obtain ⟨j, y, A, c, lo, hi, hj, rfl, ko, kr, sr, hu, HP, HC, hlo, hb, hhi⟩ := hrel
            have go0 : wr.cell? ⟨w4.heap.size, 0, none⟩ = some (.slice A y.length c) := ko.cell 0
            have hol := ko.lt
            by_cases hlt : j < l.length
            · obtain ⟨g, off, A2, c2, rfl, _, hgl, hc0, hc1, hc2, hc3, hc4, hc5, b0, b1, b3, b5, _⟩ := atImage k hlt
              have q4 := (hu.cell (cell_lt hc4)).trans hc4
              cases hha : l[j].2.2.2.2.1
              · rw [hha] at q4
                have HDT : Hid (redo x l = putAll y (l.drop (j + 1))) := by unfold Hid; rw [HC.out, putAll_skip hlt hha]
                clear HC hha hc0 hc1 hc2 hc3 hc4 hc5
                go_wp2_with fail
                go_roundw
                case rel => exact ⟨j + 1, y, A, c, lo, hi, by omega, by go_num, ko, kr, sr, hu, HP, HDT, hlo, hb, hhi⟩
                case measure => simp [intOf]; omega
              · rw [hha] at q4
                have S0 : wr.cell? ⟨w4.heap.size, 0, none⟩ = some (.slice A y.length c) ∧ wr.cell? ⟨g, off + j * 6, none⟩ = some (.string l[j].1) ∧ wr.cell? ⟨g, off + j * 6 + 1, none⟩ = some (.slice A2 l[j].2.1.length c2) ∧ wr.cell? ⟨g, off + j * 6 + 4, none⟩ = some (.bool true) ∧ wr.cell? ⟨g, off + j * 6 + 5, none⟩ = some (.string l[j].2.2.2.2.2) :=
                  ⟨go0, (hu.cell (cell_lt hc0)).trans hc0, (hu.cell (cell_lt hc1)).trans hc1, q4, (hu.cell (cell_lt hc5)).trans hc5⟩
                have HS0 := Lib.hid S0
                have hpl := img_place (HIP.out.2 j hlt).1
                have hsz := img_sz HSZ.out hlt
                have hyl : l[j].2.1.length ≤ 1048576 := by
                  have h2 : (shL shS).sz l[j].2.1 = l[j].2.1.length + (l[j].2.1.map shS.sz).sum := rfl
                  omega
                have cp : ∀ W, Up wr W → Calls Tryz.prog 76 #[.agg #[.slice A y.length c], .string l[j].1, .slice A2 l[j].2.1.length c2, .string l[j].2.2.2.2.2] W (ToR shTree (putR y (imL l[j]) l[j].2.2.2.2.2) (putC y (imL l[j])) W) := fun W hW =>
                  c_l03Put y _ l[j].1 l[j].2.1 A2 c2 l[j].2.2.2.2.2 W (AV.up good_Tree ⟨_, rfl, mkTree (sr.wide good_Node (Nat.zero_le _) hhi)⟩ hW) (b1.up good_S (hu.trans hW)) b0 b5 (by have := HP.out.1; omega) (treeP_subs HP.out) hyl
                have hcase : (¬ putC y (imL l[j]) = 0 ∧ redo x l = ([], putC y (imL l[j]))) ∨ (putC y (imL l[j]) = 0 ∧ redo x l = putAll (putR y (imL l[j]) l[j].2.2.2.2.2) (l.drop (j + 1)) ∧ TreeP (putR y (imL l[j]) l[j].2.2.2.2.2)) := by
                  rw [HC.out]
                  by_cases hz : putC y (imL l[j]) = 0
                  · right
                    refine ⟨hz, ?_, ?_⟩
                    · rw [putAll_step hlt hha hz]; unfold putR; rw [if_pos hz]
                    · unfold putR; rw [if_pos hz]; exact putT_P HP.out hpl.1 hpl.2 (putC_ok hz)
                  · left
                    exact ⟨hz, putAll_stop hlt hha hz⟩
                generalize putC y (imL l[j]) = q at *
                generalize putR y (imL l[j]) l[j].2.2.2.2.2 = R at *
                have CP := Lib.hid cp
                have HCA := Lib.hid hcase
                clear cp hcase S0 hc0 hc1 hc2 hc3 hc4 hc5 hha hpl hsz hyl HC go0
                go_upto_region 19 with fail
                go_cut [12, 13] (fun s12 s13 wx => ∃ (g8 : Nat) (D : Option Addr) (d lo8 hi8 : Nat), s12 = .pointer (some ⟨g8, 0, none⟩) ∧ s13 = .int .i64 q ∧ Bk wx g8 32 #[.slice D R.length d] ∧ SR shNode wx lo8 hi8 D d R ∧ Up wr wx ∧ wr.heap.size ≤ g8 ∧ g8 < wx.heap.size ∧ wr.heap.size ≤ lo8 ∧ hi8 ≤ wx.heap.size)
                case first =>
                  go_region_held3 (fun W => W.cell? ⟨w4.heap.size, 0, none⟩ = some (.slice A y.length c) ∧ W.cell? ⟨g, off + j * 6, none⟩ = some (.string l[j].1) ∧ W.cell? ⟨g, off + j * 6 + 1, none⟩ = some (.slice A2 l[j].2.1.length c2) ∧ W.cell? ⟨g, off + j * 6 + 4, none⟩ = some (.bool true) ∧ W.cell? ⟨g, off + j * 6 + 5, none⟩ = some (.string l[j].2.2.2.2.2))
                    (first | exact up5 (Up.refl wr) HS0.out | exact up5 (Up.refl wr).drew HS0.out | exact up5 ((Up.refl wr).drew.alloc _) HS0.out | exact up5 v5 HS0.out | exact up5 (v5.alloc _) HS0.out | exact up5 (v5.setCell (Nat.le_refl _) _) HS0.out)
                    (first
                      | (go_at_call 76
                         refine (CP.out _ (by first | exact (Up.refl wr).drew | exact (Up.refl wr).drew.alloc _)).mono ?_
                         rintro e w5 ⟨cs5, bl5, rfl, o5, nd5, u5⟩
                         obtain ⟨D5, d5, _, rfl, rfl, so5⟩ := openOTree o5
                         have v5 : Up wr w5 := Up.trans (by first | exact (Up.refl wr).drew | exact (Up.refl wr).drew.alloc _) u5
                         first
                           | (have kx5 : Bk w5 wr.heap.size 32 #[.slice none 0 0] := Bk.up (Bk.new wr.drew 32 #[.slice none 0 0]) u5
                              have gx5 : w5.cell? ⟨wr.heap.size, 0, none⟩ = some (.slice none 0 0) := kx5.cell 0
                              have fx5 : w5.frozen? ⟨wr.heap.size, 0, none⟩ = false := kx5.frozen 0)
                           | skip))
                  all_goals go_wp2_with fail
                  all_goals go_meet
                  all_goals first
                    | exact ⟨w5.heap.size, D5, d5, _, _, rfl, rfl, Bk.new _ _ _, (so5.rep good_Node).keep good_Node (((Up.refl w5).alloc _).keeps (Nat.le_refl _)), v5.alloc _, v5.size, by simp, Nat.le_refl _, by simp⟩
                    | exact ⟨wr.heap.size, D5, d5, _, _, rfl, rfl, by simpa using kx5.set 0 _, (so5.rep good_Node).keep good_Node (fun b hb1 _ => (But.set w5 wr.heap.size 0 _).block b (by (try simp at hb1); omega)), v5.setCell (Nat.le_refl _) _, Nat.le_refl _, by simpa [World.setCell] using kx5.lt, by simp, by simp [World.setCell]⟩
                obtain ⟨g8, D8, d8, lo8, hi8, rfl, rfl, k8, sr8, u8, hg8, hg8b, hlo8, hhi8⟩ := hcut
                have ko8 := ko.up u8
                have kr8 := kr.up u8
                have go8 := ko8.cell 0
                have fo8 := ko8.frozen 0
                have gr8 := kr8.cell 0
                have fr8 := kr8.frozen 0
                have g8c : wc.cell? ⟨g8, 0, none⟩ = some (.slice D8 R.length d8) := k8.cell 0
                rcases HCA.out with ⟨hq, hres⟩ | ⟨rfl, hres, hPR⟩
                · have hqb : (q != 0) = true := by simpa using hq
                  have HRES := Lib.hid hres
                  clear hres hq HCA
                  go_wp2_with fail
                  refine bodyPost_ret (v := .tuple #[.agg #[.slice none 0 0], .int .i64 q]) (by simp [results, Tryz.results39, go_sem, gr8]) rfl ?_
                  rw [HRES.out]
                  exact ToR.rpN good_Tree (zeroTree _ _ _ ((hu.trans u8).setCell (by simp) _))
                · have HRES : Hid (redo x l = putAll R (l.drop (j + 1))) := hres
                  have HPR : Hid (TreeP R) := hPR
                  clear hres HCA hPR
                  have hbut := But.set wc w4.heap.size 0 (.slice D8 R.length d8)
                  have hsz8 := u8.size
                  have kr9 := kr8.far (p := ⟨w4.heap.size, 0, none⟩) (by simp; omega) (.slice D8 R.length d8)
                  go_wp2_with fail
                  go_roundw
                  case rel => exact ⟨j + 1, R, D8, d8, lo8, hi8, by omega, by go_num, by simpa using ko8.set 0 (.slice D8 R.length d8), kr9, sr8.keep good_Node (fun b h1 h2 => hbut.block b (by omega)), (hu.trans u8).setCell (by simp; omega) _, HPR, HRES, by omega, .inr (by omega), by rw [hbut.size]; omega⟩
                  case measure => simp [intOf]; omega
            · have HRES : Hid (redo x l = (y, 0)) := by unfold Hid; rw [HC.out, List.drop_eq_nil_of_le (by omega)]; rfl
              have gr := kr.cell 0
              have fr := kr.frozen 0
              have hbut := But.set wr (w.heap.size + 1) 0 (.slice A y.length c)
              clear HC
              go_wp2_with fail
              refine bodyPost_ret (v := .tuple #[.agg #[.slice A y.length c], .int .i64 0]) (by simp [results, Tryz.results39, go_sem, gr]) rfl ?_
              rw [HRES.out]
              exact ⟨[.slice A y.length c], rfl, mkTree ((sr.keep good_Node (fun b h1 h2 => hbut.block b (by omega))).wide good_Node (by omega) (by rw [hbut.size]; exact hhi)), hu.setCell (by simp) _⟩
theorem cs_Redo (v : Value) (x : TTree) (B : Option Addr) (d : Nat) (l : List TImage) (w : World) (h : AV shTree w v x) (hn : shTree.sz x ≤ 1048576) (k : SRW shImage w B d l) (hl : (shL shImage).sz l ≤ 1048576) :
    Calls Tryz.prog 39 #[v, .slice B l.length d] w (RpR shTree (redo x l).1 (redo x l).2 w) := (cs_RedoN v x B d l w h hn k hl).mono fun _ _ h => h.rp good_Tree
end Go.Proofs.YtanjmolgpkffoaaGreatDoor
