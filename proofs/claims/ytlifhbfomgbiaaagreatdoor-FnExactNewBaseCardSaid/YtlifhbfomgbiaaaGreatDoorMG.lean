/-
  Contracts of functions that compare slices.
  GetNode: both sides' contracts.
  Rows as lists of cells: an owned slice opened into its cells, and made of them. No program is named here.
  slices.Insert of one node, wherever there is room or not.
  Contracts of slices.Clone at flat elements.
-/
import Derived.Test.YtlifhbfomgbiaaaGreatDoorRows
import Derived.Test.YtlifhbfomgbiaaaGreatDoorME
import Derived.Test.YtlifhbfomgbiaaaGreatDoorMA
import Derived.StillTailTactics
import Derived.Test.YtlifhbfomgbiaaaGreatDoorMF
import Derived.BigQuiet
import Derived.Deep.QuietTactic
import Derived.Shelf.Spec.SlicesInsert
import Derived.Lib.AppendZerosOnto
import Derived.Lib.Overlaps
import Derived.OwnWalk
namespace Go.Proofs.YtlifhbfomgbiaaaGreatDoor
open Go.RowKit
set_option linter.unusedSimpArgs false
set_option linter.unusedVariables false

theorem neq_Seat (a0 b0 : Int) (a1 b1 : Int) (W : World) : (binOp .neq 87 (.agg #[.int .i64 a0, .int .i64 a1]) (.agg #[.int .i64 b0, .int .i64 b1])).run Tryz.prog W = .ok (.bool (decide (¬ ((a0, a1) = (b0, b1))))) W := by
  have u_int64 := Tryz.underlying2
  have i_int64 := Tryz.isAgg2
  have s_int64 := Tryz.sizeOf2
  have hS : Tryz.prog.underlying 87 = some (.struct (Tryz.prog.fieldsOf 87)) := by kernel_rfl
  have hp : Tryz.prog.stoodInHeld 87 = false := by kernel_rfl
  rw [run_neq_struct, show (10000 : Nat) = 9999 + 1 from rfl, run_equalIn_agg W 9999 87 _ _ hS hp]
  simp only [Program.fieldsOf, Tryz.underlying87]
  go_simp
  by_cases h0 : a0 = b0 <;> by_cases h1 : a1 = b1 <;> simp [h0, h1, str_inj]
theorem guard_Seat : Tryz.prog.eqGuardType Tryz.prog.depth 87 = false := by kernel_rfl

theorem neq_Put (a0 b0 : Int) (a1 b1 : ByteArray) (W : World) : (binOp .neq 213 (.agg #[.int .i64 a0, .string a1]) (.agg #[.int .i64 b0, .string b1])).run Tryz.prog W = .ok (.bool (decide (¬ ((a0, a1) = (b0, b1))))) W := by
  have u_int64 := Tryz.underlying2
  have i_int64 := Tryz.isAgg2
  have s_int64 := Tryz.sizeOf2
  have u_string := Tryz.underlying9
  have i_string := Tryz.isAgg9
  have s_string := Tryz.sizeOf9
  have hS : Tryz.prog.underlying 213 = some (.struct (Tryz.prog.fieldsOf 213)) := by kernel_rfl
  have hp : Tryz.prog.stoodInHeld 213 = false := by kernel_rfl
  rw [run_neq_struct, show (10000 : Nat) = 9999 + 1 from rfl, run_equalIn_agg W 9999 213 _ _ hS hp]
  simp only [Program.fieldsOf, Tryz.underlying213]
  go_simp
  by_cases h0 : a0 = b0 <;> by_cases h1 : a1 = b1 <;> simp [h0, h1, str_inj]
theorem guard_Put : Tryz.prog.eqGuardType Tryz.prog.depth 213 = false := by kernel_rfl






set_option maxRecDepth 100000 in
set_option maxHeartbeats 1000000 in
theorem c_slEqSeat (xs ys : List TSeat) (A B : Option Addr) (c d : Nat) (w : World) (h : SRW shSeat w A c xs) (k : SRW shSeat w B d ys) :
    Calls Tryz.prog 189 #[.slice A xs.length c, .slice B ys.length d] w (EqP (xs = ys) w) := by
  have hlen := h.len_le
  have klen := k.len_le
  by_cases hl : xs.length = ys.length
  · have hb : ((xs.length : Int) != (ys.length : Int)) = false := by simp [hl]
    have HL := Lib.hid hl; clear hl
    go_enter Tryz.func189, Tryz.ntmps189
    go_wp2
    go_loopw [13] (fun i wr => ∃ k : Nat, k ≤ xs.length ∧ i = .int .i64 k ∧ Hid (xs.take k = ys.take k) ∧ Up w wr) (fun i _ => xs.length - (intOf i).toNat)
    case atStart => exact ⟨0, Nat.zero_le _, rfl, rfl, Up.refl _⟩
    case round =>
      obtain ⟨j, hj, rfl, HT, hu⟩ := hrel
      by_cases hlt : j < xs.length
      · have hlt' : j < ys.length := by rw [← HL.out]; exact hlt
        obtain ⟨g, off, rfl, _, _, hc0, hc1, b0, b1, _⟩ := atSeat (h.up good_Seat hu) hlt
        obtain ⟨g', off', rfl, _, _, hd0, hd1, f0, f1, _⟩ := atSeat (k.up good_Seat hu) hlt'
        have hgd := guard_Seat
        by_cases he : xs[j] = ys[j]
        · have hx : ∀ W : World, (binOp .neq 87 (.agg #[.int .i64 xs[j].1, .int .i64 xs[j].2]) (.agg #[.int .i64 ys[j].1, .int .i64 ys[j].2])).run Tryz.prog W = .ok (.bool false) W := fun W => by rw [neq_Seat]; simp [he]
          have HE := Lib.hid he; clear he
          go_wp2
          go_quiet (fail)
          go_wp2
          go_roundw
          case rel => exact ⟨j + 1, by omega, by go_num, take_snoc_eq HT.out hlt hlt' HE.out, hu.drewN _⟩
          case measure => simp [intOf]; omega
        · have hx : ∀ W : World, (binOp .neq 87 (.agg #[.int .i64 xs[j].1, .int .i64 xs[j].2]) (.agg #[.int .i64 ys[j].1, .int .i64 ys[j].2])).run Tryz.prog W = .ok (.bool true) W := fun W => by rw [neq_Seat]; simp [he]
          have HE := Lib.hid (ne_of_at hlt hlt' he); clear he
          go_wp2
          go_quiet (fail)
          go_wp2
          go_ret
          exact EqP.f HE.out (hu.drewN _)
      · have HE := Lib.hid (take_all_eq HT.out (by omega) (by rw [← HL.out]; omega))
        go_wp2
        go_ret
        exact EqP.t HE.out hu
  · have hb : ((xs.length : Int) != (ys.length : Int)) = true := by rw [bne_iff_ne]; omega
    have HE := Lib.hid (ne_of_len hl); clear hl
    go_enter Tryz.func189, Tryz.ntmps189
    go_wp2
    go_ret
    exact EqP.f HE.out (Up.refl _)

end Go.Proofs.YtlifhbfomgbiaaaGreatDoor

namespace Go.Proofs.YtlifhbfomgbiaaaGreatDoor
open Go.RowKit
set_option linter.unusedVariables false
set_option linter.unusedSimpArgs false

def valN (x : TTree) (l : ByteArray × List ByteArray) : ByteArray := if h : posN x l < x.length then x[posN x l].2.2 else ⟨#[]⟩
def getV (x : TTree) (l : ByteArray × List ByteArray) : Value := if treeB x = true ∧ placeB l.1 l.2 = true ∧ hasN x l = true then .tuple #[.string (valN x l), .bool true] else .tuple #[.string ⟨#[]⟩, .bool false]
theorem hasN_lt {x : TTree} {l : ByteArray × List ByteArray} (h : hasN x l = true) : ∃ hp : posN x l < x.length, valN x l = x[posN x l].2.2 := by
  unfold hasN at h
  by_cases hp : posN x l < x.length
  · exact ⟨hp, by unfold valN; rw [dif_pos hp]⟩
  · rw [dif_neg hp] at h; cases h
theorem treeP_of {x : TTree} (h : treeB x = true) : TreeP x := of_decide_eq_true h
theorem hasN_at {x : TTree} {l : ByteArray × List ByteArray} {k : Nat} (hp : posN x l = k) (h : k < x.length) : hasN x l = decide (locOf x[k] = l) := by
  unfold hasN
  rw [dif_pos (by rw [hp]; exact h)]
  simp only [hp]
theorem hasN_end {x : TTree} {l : ByteArray × List ByteArray} {k : Nat} (hp : posN x l = k) (h : ¬ k < x.length) : hasN x l = false := by
  unfold hasN
  rw [dif_neg (by rw [hp]; exact h)]
end Go.Proofs.YtlifhbfomgbiaaaGreatDoor

namespace Go.Proofs.YtlifhbfomgbiaaaGreatDoor
open Go.RowKit
set_option linter.unusedVariables false
set_option linter.unusedSimpArgs false

section
variable {α : Type} {s : Sh α} {w w' : World} {lo hi lo' hi' : Nat} {news olds : List Value} {xs ys : List α} {bs bls : List (List Nat)}
theorem Rowed.nil : Rowed s w lo hi [] ([] : List α) [] := ⟨rfl, by simp, fun i h => absurd h (by simp)⟩
theorem Rowed.append {n1 n2 : List Value} {y1 y2 : List α} {b1 b2 : List (List Nat)} (h1 : Rowed s w lo hi n1 y1 b1) (h2 : Rowed s w lo hi n2 y2 b2) : Rowed s w lo hi (n1 ++ n2) (y1 ++ y2) (b1 ++ b2) := by
  obtain ⟨l1, m1, e1⟩ := h1
  obtain ⟨l2, m2, e2⟩ := h2
  refine ⟨by simp [l1, l2], by simp [m1, m2, Nat.add_mul], fun i hi => ?_⟩
  by_cases hk : i < y1.length
  · obtain ⟨cs, b, a1, a2, a3, a4⟩ := e1 i hk
    refine ⟨cs, b, by rw [List.getElem?_append_left (by omega)]; exact a1, a2, fun j hj => ?_, by rw [List.getElem_append_left hk]; exact a4⟩
    have := Nat.mul_le_mul_right s.size (Nat.succ_le_of_lt hk)
    rw [Nat.succ_mul] at this
    rw [List.getElem?_append_left (by omega)]
    exact a3 j hj
  · have hk' : i - y1.length < y2.length := by simp at hi; omega
    obtain ⟨cs, b, a1, a2, a3, a4⟩ := e2 _ hk'
    refine ⟨cs, b, by rw [List.getElem?_append_right (by omega), l1]; exact a1, a2, fun j hj => ?_, by rw [List.getElem_append_right (by omega)]; exact a4⟩
    have hks : i * s.size = y1.length * s.size + (i - y1.length) * s.size := by rw [← Nat.add_mul]; congr 1; omega
    rw [List.getElem?_append_right (by omega), m1, show i * s.size + j - y1.length * s.size = (i - y1.length) * s.size + j by omega]
    exact a3 j hj
theorem Rowed.take (h : Rowed s w lo hi news ys bs) {k : Nat} (hk : k ≤ ys.length) : Rowed s w lo hi (news.take (k * s.size)) (ys.take k) (bs.take k) := by
  obtain ⟨l, m, e⟩ := h
  have hm := Nat.mul_le_mul_right s.size hk
  refine ⟨by simp [l], by rw [List.length_take, m, List.length_take, Nat.min_eq_left hk]; omega, fun i hi => ?_⟩
  have hi' : i < k ∧ i < ys.length := by rw [List.length_take] at hi; omega
  obtain ⟨cs, b, a1, a2, a3, a4⟩ := e i hi'.2
  refine ⟨cs, b, by rw [List.getElem?_take_of_lt hi'.1]; exact a1, a2, fun j hj => ?_, by simpa using a4⟩
  have := Nat.mul_le_mul_right s.size (Nat.succ_le_of_lt hi'.1)
  rw [Nat.succ_mul] at this
  rw [List.getElem?_take_of_lt (by omega)]
  exact a3 j hj
theorem Rowed.drop (h : Rowed s w lo hi news ys bs) (k : Nat) : Rowed s w lo hi (news.drop (k * s.size)) (ys.drop k) (bs.drop k) := by
  obtain ⟨l, m, e⟩ := h
  refine ⟨by simp [l], by simp [m, Nat.sub_mul], fun i hi => ?_⟩
  have hi' : k + i < ys.length := by simp at hi; omega
  obtain ⟨cs, b, a1, a2, a3, a4⟩ := e (k + i) hi'
  refine ⟨cs, b, by rw [List.getElem?_drop]; exact a1, a2, fun j hj => ?_, by simpa using a4⟩
  rw [List.getElem?_drop, ← a3 j hj, Nat.add_mul]
  congr 1
  omega
theorem Rowed.keep (hg : Good s) (h : Rowed s w lo hi news ys bs) (k : ∀ y ∈ bs.flatten, w'.heap[y]? = w.heap[y]?) : Rowed s w' lo hi news ys bs := by
  refine ⟨h.1, h.2.1, fun i hi => ?_⟩
  obtain ⟨cs, b, a1, a2, a3, a4⟩ := h.2.2 i hi
  exact ⟨cs, b, a1, a2, a3, hg.own_keep a4 fun y hy => k y (List.mem_flatten.2 ⟨b, List.mem_of_getElem? a1, hy⟩)⟩
theorem Rowed.wide (hg : Good s) (h : Rowed s w lo hi news ys bs) (k : lo' ≤ lo) (l : hi ≤ hi') : Rowed s w lo' hi' news ys bs := by
  refine ⟨h.1, h.2.1, fun i hi => ?_⟩
  obtain ⟨cs, b, a1, a2, a3, a4⟩ := h.2.2 i hi
  exact ⟨cs, b, a1, a2, a3, hg.own_wide a4 k l⟩
theorem Rowed.in_ (hg : Good s) (h : Rowed s w lo hi news ys bs) : ∀ y ∈ bs.flatten, lo ≤ y ∧ y < hi := fun y hy => by
  obtain ⟨l, hl, hyl⟩ := List.mem_flatten.1 hy
  obtain ⟨q, hq, rfl⟩ := List.getElem_of_mem hl
  obtain ⟨cs, b, e1, _, _, e4⟩ := h.2.2 q (by rw [← h.1]; exact hq)
  rw [List.getElem?_eq_getElem hq] at e1
  injection e1 with e1
  subst e1
  exact hg.own_in e4 y hyl
/-- An owned slice, opened into its cells. -/
theorem SO.row {A : Option Addr} {c : Nat} {bl : List Nat} (h : SO s w lo hi A c xs bl) : (xs = [] ∧ bl = [] ∧ c = 0) ∨ ∃ (g off : Nat) (C : Array Value) (tid : TypeId) (bls : List (List Nat)) (olds : List Value), A = some ⟨g, off, none⟩ ∧ lo ≤ g ∧ g < hi ∧ Bk w g tid C ∧ off + c * s.size ≤ C.size ∧ bl = g :: bls.flatten ∧
    Rowed s w lo hi olds xs bls ∧ ∀ j, j < olds.length → C[off + j]? = olds[j]? := by
  rcases h.2.2 with h0 | ⟨g, off, C, tid, bls, rfl, h1, h2, hh, hcap, rfl, hbl, h3⟩
  · exact .inl h0
  · refine .inr ⟨g, off, C, tid, bls, (C.toList.drop off).take (xs.length * s.size), rfl, h1, h2, hh, hcap, rfl, ⟨hbl, ?_, fun k hk => ?_⟩, fun j hj => ?_⟩
    · have := Nat.le_trans (Nat.add_le_add_left (Nat.mul_le_mul_right s.size h.1) off) hcap
      simp
      omega
    · obtain ⟨cs, b, e1, e2, e3, e4⟩ := h3 k hk
      refine ⟨cs, b, e1, e2, fun j hj => ?_, e4⟩
      have := Nat.mul_le_mul_right s.size (Nat.succ_le_of_lt hk)
      rw [Nat.succ_mul] at this
      rw [List.getElem?_take_of_lt (by omega), List.getElem?_drop, ← e3 j hj]
      simp
    · simp at hj
      rw [List.getElem?_take_of_lt (by omega), List.getElem?_drop]
      simp
/-- .. and made of them. -/
theorem SO.of_row {g off c : Nat} {C : Array Value} {tid : TypeId} (h1 : lo ≤ g) (h2 : g < hi) (hb : Bk w g tid C) (hcap : off + c * s.size ≤ C.size) (hl : xs.length ≤ c) (hc : c ≤ maxLen) (hr : Rowed s w lo hi olds xs bls) (ho : ∀ j, j < olds.length → C[off + j]? = olds[j]?) :
    SO s w lo hi (some ⟨g, off, none⟩) c xs (g :: bls.flatten) := by
  refine ⟨hl, hc, .inr ⟨g, off, C, tid, bls, rfl, h1, h2, hb, hcap, rfl, hr.1, fun i hi => ?_⟩⟩
  obtain ⟨cs, b, e1, e2, e3, e4⟩ := hr.2.2 i hi
  refine ⟨cs, b, e1, e2, fun j hj => ?_, e4⟩
  have := Nat.mul_le_mul_right s.size (Nat.succ_le_of_lt hi)
  rw [Nat.succ_mul] at this
  rw [ho _ (by rw [hr.2.1]; omega)]
  exact e3 j hj
end
/-- A slice of an owned one, for reading: its elements from a on, b - a of them. -/
theorem SR.sub {α : Type} {s : Sh α} {w : World} {lo hi g off : Nat} {c : Nat} {xs : List α} (h : SR s w lo hi (some ⟨g, off, none⟩) c xs) {a b d : Nat} (hab : a ≤ b) (hb : b ≤ xs.length) (hd : b - a ≤ d) (hd' : d ≤ maxLen) :
    SR s w lo hi (some ⟨g, off + a * s.size, none⟩) d ((xs.take b).drop a) := by
  refine ⟨by simp; omega, hd', fun hp => ?_⟩
  have hp' : a < b := by simp at hp; omega
  obtain ⟨g', off', hA, h1, h2, h3⟩ := h.2.2 (by omega)
  simp only [Option.some.injEq, Addr.mk.injEq, and_true] at hA
  obtain ⟨rfl, rfl⟩ := hA
  refine ⟨g, off + a * s.size, rfl, h1, h2, fun i hi => ?_⟩
  have hi' : a + i < xs.length := by simp at hi; omega
  obtain ⟨cs, ⟨hc, he⟩, hr⟩ := h3 (a + i) hi'
  refine ⟨cs, ⟨hc, fun j hj => ?_⟩, by simpa using hr⟩
  rw [← he j hj, Nat.add_mul]
  congr 2
  omega
end Go.Proofs.YtlifhbfomgbiaaaGreatDoor

namespace Go.Proofs.YtlifhbfomgbiaaaGreatDoor
open Go.RowKit
set_option linter.unusedVariables false
set_option linter.unusedSimpArgs false

def rowP {α : Type} (s : Sh α) (w : World) (lo : Nat) (xs : List α) (bl b : List Nat) (D : Option Addr) (d : Nat) (bl' : List Nat) (w' : World) : Prop :=
  SO s w' lo w'.heap.size D d xs bl' ∧ bl'.Nodup ∧ (∀ y ∈ bl', y ∈ bl ++ b ∨ w.heap.size ≤ y) ∧ Only bl w w'
/-- What a call leaves that hands back a row made of an owned one (and of what b owns). -/
def RowR {α : Type} (s : Sh α) (w : World) (lo : Nat) (xs : List α) (bl b : List Nat) (e : Ending) (w' : World) : Prop :=
  ∃ D d bl', e = .returned (.slice D xs.length d) ∧ rowP s w lo xs bl b D d bl' w'
theorem RowR.mk {α : Type} {s : Sh α} {w : World} {lo : Nat} {xs : List α} {bl b : List Nat} {w' : World} {D : Option Addr} {d n : Nat} (bl' : List Nat) (hn : xs.length = n) (h : rowP s w lo xs bl b D d bl' w') : RowR s w lo xs bl b (.returned (.slice D n d)) w' := ⟨D, d, bl', by rw [hn], h⟩
theorem ins_nodup {g : Nat} {bls : List (List Nat)} {b : List Nat} (i : Nat) (nd : ((g :: bls.flatten) ++ b).Nodup) : (g :: (bls.take i ++ b :: bls.drop i).flatten).Nodup := by
  have hp : ((g :: bls.flatten) ++ b).Perm (g :: (bls.take i ++ b :: bls.drop i).flatten) := by
    rw [List.cons_append]
    refine List.Perm.cons _ ?_
    rw [List.flatten_append, List.flatten_cons]
    conv => lhs; rw [← List.take_append_drop i bls, List.flatten_append, List.append_assoc]
    exact List.Perm.append_left _ List.perm_append_comm
  exact hp.nodup_iff.1 nd
theorem ins_mem {g : Nat} {bls : List (List Nat)} {b : List Nat} (i : Nat) : ∀ y ∈ (g :: (bls.take i ++ b :: bls.drop i).flatten), y ∈ (g :: bls.flatten) ++ b := by
  intro y hy
  rcases List.mem_cons.1 hy with rfl | hy
  · simp
  · rw [List.flatten_append, List.flatten_cons] at hy
    have e : bls.flatten = (bls.take i).flatten ++ (bls.drop i).flatten := by rw [← List.flatten_append, List.take_append_drop]
    rw [List.cons_append, e]
    simp only [List.mem_append, List.mem_cons] at hy ⊢
    rcases hy with h | h | h <;> simp [h]
theorem run_copy_cellsN {P : Program} (z : Nat) (w : World) (dT sT ty elem : TypeId) (b o dLen dCap : Nat) (a : Addr) (sLen sCap : Nat) (cs : List Value) (n : Nat)
    (hu : P.underlying dT = some (.slice elem)) (hs : (P.info? elem).map (·.size) = some z) (hn : Nat.min sLen dLen = n) (hcl : cs.length = n * z)
    (hsrc : ∀ j v, cs[j]? = some v → w.cell? (a.add j) = some v) (hc : ∀ j, j < cs.length → (w.cell? ⟨b, o + j, none⟩).isSome = true) (hf : ∀ j, j < cs.length → w.frozen? ⟨b, o + j, none⟩ = false) (h1 : ∀ v ∈ cs, v.oneCell' = true) :
    (Builtin.copy_ #[dT, sT] ty #[.slice (some ⟨b, o, none⟩) dLen dCap, .slice (some a) sLen sCap]).run P w = .ok (goInt n) (setCells w b o cs) := by
  have hl := run_loadCells_list (P := P) w a cs hsrc
  have hst := run_storeCells_cells (P := P) b o cs 0 w (by simpa using hc) (by simpa using hf) h1
  rw [setCells_eq] at hst
  rw [hcl] at hl
  cases hq : P.info? elem with
  | none => simp [hq] at hs
  | some i =>
    have hi : i.size = z := by simpa [hq] using hs
    simp [Builtin.copy_, run_underlying hu, Builtin.lenOf, Builtin.firstCells, sizeOf, typeInfo, hq, hi, hn, hl, hst]
theorem addr_add (g off j : Nat) : (⟨g, off, none⟩ : Addr).add j = ⟨g, off + j, none⟩ := by unfold Addr.add; split <;> simp_all
/-- The cells of a row with one element put in. -/
theorem ins_cells {C C' : Array Value} {off i z n : Nat} {olds cs : List Value} (hol : olds.length = n * z) (hcs : cs.length = z) (hi : i ≤ n) (hC : ∀ j, j < olds.length → C[off + j]? = olds[j]?)
    (h1 : ∀ j, j < i * z → C'[off + j]? = C[off + j]?) (h2 : ∀ j, j < z → C'[off + (i * z + j)]? = cs[j]?) (h3 : ∀ j, j < n * z - i * z → C'[off + ((i + 1) * z + j)]? = (olds.drop (i * z))[j]?) :
    ∀ j, j < (olds.take (i * z) ++ (cs ++ olds.drop (i * z))).length → C'[off + j]? = (olds.take (i * z) ++ (cs ++ olds.drop (i * z)))[j]? := by
  intro j hj
  have hiz := Nat.mul_le_mul_right z hi
  have htl : (olds.take (i * z)).length = i * z := by rw [List.length_take]; omega
  simp only [List.length_append, htl, hcs, List.length_drop, hol] at hj
  have hs1 : (i + 1) * z = i * z + z := Nat.succ_mul i z
  by_cases ha : j < i * z
  · rw [h1 j ha, hC j (by omega), List.getElem?_append_left (by omega), List.getElem?_take_of_lt ha]
  · rw [List.getElem?_append_right (by omega), htl]
    by_cases hb : j < i * z + z
    · have e := h2 (j - i * z) (by omega)
      rw [show off + (i * z + (j - i * z)) = off + j by omega] at e
      rw [e, List.getElem?_append_left (by omega)]
    · have e := h3 (j - (i + 1) * z) (by omega)
      rw [show off + ((i + 1) * z + (j - (i + 1) * z)) = off + j by omega] at e
      rw [e, List.getElem?_append_right (by omega), hcs]
      congr 1
      omega

end Go.Proofs.YtlifhbfomgbiaaaGreatDoor

namespace Go.Proofs.YtlifhbfomgbiaaaGreatDoor
open Go.RowKit
set_option linter.unusedVariables false
set_option linter.unusedSimpArgs false
theorem flat_Put : Flat shPut := flat_P flat_I flat_S

theorem cinfo_StringS : (Tryz.prog.info? 9).map (fun i => (i.zero, i.size, i.bytes)) = some (some (.string ⟨#[]⟩), 1, 16) := by kernel_rfl
set_option maxRecDepth 100000 in
set_option maxHeartbeats 1000000 in
theorem c_CloneStringS (xs : List ByteArray) (A : Option Addr) (c : Nat) (w : World) (h : SRW shS w A c xs) (hn : xs.length ≤ 1048576) :
    Calls Tryz.prog 170 #[.slice A xs.length c] w (ToL shS xs w) := by
  obtain ⟨i0, hi0, hz0, hz1, hz2⟩ := info_parts cinfo_StringS
  cases A with
  | none =>
    obtain rfl : xs = [] := by
      rcases Nat.eq_zero_or_pos xs.length with h0 | hp
      · exact List.eq_nil_of_length_eq_zero h0
      · obtain ⟨g, off, hA, _⟩ := h.2.2 hp; cases hA
    have he : ∀ W : World, (binOp .eql 22 (.slice none 0 c) (.slice none 0 0)).run Tryz.prog W = .ok (.bool true) W := fun _ => rfl
    go_enter Tryz.func170, Tryz.ntmps170
    go_wp2_with fail

    go_ret
    exact ⟨none, 0, [], rfl, SO.nil _ _ _, by simp, Up.refl _⟩
  | some ad =>
    have he : ∀ W : World, (binOp .eql 22 (.slice (some ad) xs.length c) (.slice none 0 0)).run Tryz.prog W = .ok (.bool false) W := fun _ => rfl
    go_enter Tryz.func170, Tryz.ntmps170
    go_wp2_with (first
      | (at_builtin
         refine wpList_app_new good_S flat_S rfl _ _ _ 9 rfl i0 _ Tryz.underlying22 hi0 hz0 hz1 (by rfl) rfl rfl (h.up good_S ((Up.refl w).alloc _)) (by rw [hz2]; omega) ?_
         intro D d bl w1 hso hnd hu))
    go_ret
    exact ⟨D, d, bl, rfl, hso.wide good_S (by simp) (Nat.le_refl _), hnd, ((Up.refl w).alloc _).trans hu⟩

end Go.Proofs.YtlifhbfomgbiaaaGreatDoor
