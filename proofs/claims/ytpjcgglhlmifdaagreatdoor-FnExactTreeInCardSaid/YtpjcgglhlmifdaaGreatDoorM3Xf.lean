/-
  BtTree: both sides; the tree of a list of records.
-/
import Derived.Test.YtpjcgglhlmifdaaGreatDoorM3Xe
import Derived.Test.YtpjcgglhlmifdaaGreatDoorM3Rng
import Derived.Test.YtpjcgglhlmifdaaGreatDoorM3H
import Derived.Test.YtpjcgglhlmifdaaGreatDoorM3G
namespace Go.Proofs.YtpjcgglhlmifdaaGreatDoor
open Go.RowKit
set_option linter.unusedVariables false
set_option linter.unusedSimpArgs false

/-- Block g holds the nodes of the first k records, all it owns from lo on; of w nothing else has turned. -/
def TreeR (w : World) (g lo : Nat) (l : List TRecord) (k : Nat) (wr : World) : Prop :=
  ∃ D d bl, Bk wr g 39 #[.slice D k d] ∧ SO shNode wr lo wr.heap.size D d ((l.take k).map nodeOf) bl ∧ bl.Nodup ∧ Only [g] w wr
theorem nodeOf_key {r : TRecord} {p : ByteArray × List ByteArray} (h : placeOf r.1 = some p) (hr : RecOk r) : p.1.size ≤ maxLen ∧ r.2.size ≤ maxLen := by
  have h1 := (place_lens h).1
  have h2 := hr.2
  unfold maxLen
  exact ⟨by omega, by omega⟩
theorem take_node {l : List TRecord} {k : Nat} (h : k < l.length) : (l.take (k + 1)).map nodeOf = (l.take k).map nodeOf ++ [nodeOf l[k]] := by
  rw [List.take_succ_eq_append_getElem h, List.map_append]; rfl
theorem take_node_len {l : List TRecord} {k : Nat} (h : k ≤ l.length) : ((l.take k).map nodeOf).length = k := by rw [List.length_map, List.length_take]; omega
theorem Only.one {w w1 w2 : World} {g : Nat} {bl : List Nat} (h : Only [g] w w1) (k : Only bl w1 w2) (hb : ∀ y ∈ bl, w.heap.size ≤ y) : Only [g] w w2 :=
  ⟨k.os.trans h.os, k.tape.trans h.tape, k.output.trans h.output, Nat.le_trans h.size k.size, fun i hi hn => (k.block i (Nat.lt_of_lt_of_le hi h.size) (fun hm => by have := hb i hm; omega)).trans (h.block i hi hn)⟩
set_option maxRecDepth 100000 in
set_option maxHeartbeats 8000000 in
theorem c_treeOf (l : List TRecord) (A : Option Addr) (c : Nat) (w : World) (h : SRW shRecord w A c l) (hz : ∀ r ∈ l, RecOk r) (htab : Tab w) (hm : MaxL w) : Calls Tryz.prog 59 #[.slice A l.length c] w (ToR shTree (recTree l) (recTreeC l) w) := by
  obtain ⟨i0, hi0, hz0, hz1, hz2⟩ := info_parts cinfo_Node
  have hlen := h.len_le
  by_cases h120 : l.length ≤ 120
  · have HR : Hid (recTree l = l.map nodeOf) := Lib.hid (if_pos h120)
    have HC : Hid (recTreeC l = 0) := Lib.hid (if_pos h120)
    have hq : ¬ (120 : Int) < (l.length : Int) := by omega
    have uu : Up w ((w.alloc (.cells #[.slice none 0 0] 39)).alloc (.cells #[.slice none 0 0] 39)) := ((Up.refl w).alloc _).alloc _
    have k1 : Bk ((w.alloc (.cells #[.slice none 0 0] 39)).alloc (.cells #[.slice none 0 0] 39)) w.heap.size 39 #[.slice none 0 0] := (Bk.new w _ _).alloc _
    have k2 : Bk ((w.alloc (.cells #[.slice none 0 0] 39)).alloc (.cells #[.slice none 0 0] 39)) (w.heap.size + 1) 39 #[.slice none 0 0] := by
      simpa using Bk.new (w.alloc (.cells #[.slice none 0 0] 39)) 39 #[.slice none 0 0]
    have zz : ((w.alloc (.cells #[.slice none 0 0] 39)).alloc (.cells #[.slice none 0 0] 39)).heap.size = w.heap.size + 2 := by simp
    have HZ := Lib.hid hz
    clear hz
    go_enter Tryz.func59, Tryz.ntmps59
    go_wp2_with fail
    generalize ((w.alloc (.cells #[.slice none 0 0] 39)).alloc (.cells #[.slice none 0 0] 39)) = W2 at uu k1 k2 zz ⊢
    go_loopw [17] (fun i wr => ∃ k : Nat, k ≤ l.length ∧ i = .int .i64 k ∧ Hid (TreeR W2 (w.heap.size + 1) (w.heap.size + 2) l k wr)) (fun i _ => l.length - (intOf i).toNat)
    case atStart => exact ⟨0, Nat.zero_le _, rfl, Lib.hid ⟨none, 0, [], k2, SO.nil _ _ _, List.nodup_nil, Only.refl _ _⟩⟩
    case round =>
      obtain ⟨k, hk, rfl, HT⟩ := hrel
      by_cases hlt : k < l.length
      · obtain ⟨D, d, bl, kT, so, nd, on⟩ := HT.out
        have sr : SRW shRecord wr A c l := (SR.keep good_Record h (fun y _ hy => (on.block y (Nat.lt_of_lt_of_le hy uu.size) (by simp; omega)).trans (uu.block y hy))).wide good_Record (Nat.le_refl _) (Nat.le_trans uu.size on.size)
        obtain ⟨ga, oa, rfl, _, _, hc0, hc1, z0, z1, _⟩ := atRecord sr hlt
        have hok := HZ.out l[k] (List.getElem_mem hlt)
        have HTN := Lib.hid (take_node hlt)
        have htk := take_node_len hk
        have hzr := on.size
        obtain ⟨X, hX⟩ : ∃ X, X = (l.take k).map nodeOf := ⟨_, rfl⟩
        rw [← hX] at so htk HTN
        clear hX
        obtain ⟨p, hp⟩ : ∃ p, placeOf l[k].1 = some p := by
          have := hok.1
          unfold keyB at this
          exact Option.isSome_iff_exists.1 this
        have hnd := nodeOf_key hp hok
        have HN := Lib.hid (nodeOf_some hp)
        have ub : Up wr (wr.alloc (.cells #[.string l[k].1, .string l[k].2] 101)) := (Up.refl _).alloc _
        have kr := Bk.new wr 101 #[.string l[k].1, .string l[k].2]
        have uw : Up w wr := uu.only on (fun y hy => by obtain rfl := List.mem_singleton.1 hy; omega)
        have CK := Lib.hid (c_KeyPlaceO l[k].1 _ (recOk_key hok) (tab_up htab (uw.trans ub)) (maxL_up hm (uw.trans ub)))
        rw [hp] at CK
        have gr0 : World.cell? _ ⟨wr.heap.size, 0, none⟩ = some (.string l[k].1) := kr.cell 0
        have HTK := Lib.hid htk
        clear hok hp HT sr
        go_wp2_with fail
        refine CK.out.mono ?_
        rintro e w1 ⟨u1, E, e1, rfl, be, sub, ndb⟩
        have u01 := ub.trans u1
        have kT1 := kT.up u01
        have kr1 := kr.up u1
        have gr1 : w1.cell? ⟨wr.heap.size, 1, none⟩ = some (.string l[k].2) := kr1.cell 1
        have gT1 : w1.cell? ⟨w.heap.size + 1, 0, none⟩ = some (.slice D k d) := kT1.cell 0
        have kq := Bk.new w1 165 #[.string p.1, .slice E p.2.length e1, .string l[k].2]
        have uq : Up w1 (w1.alloc (.cells #[.string p.1, .slice E p.2.length e1, .string l[k].2] 165)) := (Up.refl _).alloc _
        have so1 := so.up good_Node (u01.trans uq)
        have hin := so.in_ good_Node
        have hinb := sub.in_ good_S
        have hz1r := u01.size
        have hlo : w.heap.size + 2 ≤ (w1.alloc (.cells #[.string p.1, .slice E p.2.length e1, .string l[k].2] 165)).heap.size := by have := uq.size; omega
        have ho : shNode.own (w1.alloc (.cells #[.string p.1, .slice E p.2.length e1, .string l[k].2] 165)) (w.heap.size + 2) (w1.alloc (.cells #[.string p.1, .slice E p.2.length e1, .string l[k].2] 165)).heap.size [.string p.1, .slice E p.2.length e1, .string l[k].2] (p.1, p.2, l[k].2) be :=
          mkONode (x := (p.1, p.2, l[k].2)) hnd.1 ((sub.up good_S uq).wide good_S (by have := ub.size; omega) (Nat.le_refl _)) hnd.2
        have hnb : (bl ++ [be].flatten).Nodup := by
          simpa using nodup_two (m := (wr.alloc (.cells #[.string l[k].1, .string l[k].2] 101)).heap.size) nd ndb (fun y hy => by have := (hin y hy).2; have := ub.size; omega) (fun y hy => (hinb y hy).1)
        have hx1 : (X.length + 1) * i0.bytes ≤ 140737488355328 := by rw [hz2, htk]; omega
        have hx2 : X.length + 1 ≤ maxLen := by unfold maxLen; omega
        have gT2 : (w1.alloc (.cells #[.string p.1, .slice E p.2.length e1, .string l[k].2] 165)).cell? ⟨w.heap.size + 1, 0, none⟩ = some (.slice D k d) := (kT1.up uq).cell 0
        have hgb : w.heap.size + 1 ∉ bl := fun hm => by have := (hin _ hm).1; omega
        have onA : Only [w.heap.size + 1] W2 (w1.alloc (.cells #[.string p.1, .slice E p.2.length e1, .string l[k].2] 165)) := on.up (u01.trans uq)
        clear kT1 sub htk
        go_wp2_with (first
          | (at_builtin
             refine wpList_app good_Node rfl _ _ _ _ 165 rfl i0 _ Tryz.underlying37 hi0 hz0 hz1 (by rfl) (lo := w.heap.size + 2) (xs := X) (ys := [(p.1, p.2, l[k].2)]) (bl := bl) (bs := [be]) (news := [.string p.1, .slice E p.2.length e1, .string l[k].2]) (by rw [HTK.out]; rfl) rfl so1 hnb (Src.box (t := 165) Tryz.underlying37 kq (by simp [Value.oneCell']) (by rw [hz1]; rfl)) (Rowed.one good_Node ho) hlo hx1 hx2 ?_
             intro D9 d9 bl9 w9 hap
             obtain ⟨so9, nd9, mem9, on9⟩ := hap
             have kT9 := ((kT.up u01).up uq).only on9 hgb
             have gT9 : w9.cell? ⟨w.heap.size + 1, 0, none⟩ = some (.slice D k d) := kT9.cell 0
             have fT9 := kT9.frozen 0))
        have bt := But.set w9 (w.heap.size + 1) 0 (.slice D9 (X.length + 1) d9)
        have hb9 : ∀ y ∈ bl9, w.heap.size + 2 ≤ y := fun y hy => (so9.in_ good_Node y hy).1
        have HTF : Hid (TreeR W2 (w.heap.size + 1) (w.heap.size + 2) l (k + 1) (w9.setCell ⟨w.heap.size + 1, 0, none⟩ (.slice D9 (X.length + 1) d9))) := Lib.hid ⟨D9, d9, bl9, by have := kT9.set 0 (.slice D9 (X.length + 1) d9); rw [HTK.out] at this ⊢; exact this, by rw [HTN.out, HN.out]; exact so9.butD good_Node bt (fun hm => by have := hb9 _ hm; omega), nd9, (onA.one on9 (fun y hy => by have := (hin y hy).1; omega)).but bt (by simp)⟩
        go_roundw
        case rel => exact ⟨k + 1, by omega, by go_num, HTF⟩
        case measure => simp [intOf]; omega
      · obtain rfl : k = l.length := by omega
        obtain ⟨D, d, bl, kT, so, nd, on⟩ := HT.out
        rw [List.take_length] at so
        have k1r := k1.only on (fun hm => by have := List.mem_singleton.1 hm; omega)
        have gT : wr.cell? ⟨w.heap.size + 1, 0, none⟩ = some (.slice D l.length d) := kT.cell 0
        have g1 : wr.cell? ⟨w.heap.size, 0, none⟩ = some (.slice none 0 0) := k1r.cell 0
        have f1 := k1r.frozen 0
        have uw : Up w wr := uu.only on (fun y hy => by obtain rfl := List.mem_singleton.1 hy; omega)
        have bt := But.set wr w.heap.size 0 (.slice D l.length d)
        have hin := so.in_ good_Node
        have so2 := so.butD good_Node bt (fun hm => by have := (hin _ hm).1; omega)
        have uwE := uw.but bt (Nat.le_refl _)
        clear HT
        go_wp2_with fail
        refine bodyPost_ret (v := .tuple #[.agg #[.slice D l.length d], .int .i64 0]) (by simp [results, Tryz.results59, go_sem, g1]) rfl ?_
        have hml : (l.map nodeOf).length = l.length := List.length_map _
        have so3 := mkOTree (so2.wide good_Node (lo' := w.heap.size) (by omega) (Nat.le_refl _))
        rw [hml] at so3
        exact toR_eq HR HC ⟨[.slice D l.length d], bl, rfl, so3, nd, uwE⟩
  · have HR : Hid (recTree l = []) := Lib.hid (if_neg h120)
    have HC : Hid (recTreeC l = 4) := Lib.hid (if_neg h120)
    have hq : (120 : Int) < (l.length : Int) := by omega
    have k1 := Bk.new w 39 #[.slice none 0 0]
    have uu : Up w (w.alloc (.cells #[.slice none 0 0] 39)) := (Up.refl w).alloc _
    have g1 := k1.cell 0
    have f1 := k1.frozen 0
    go_enter Tryz.func59, Tryz.ntmps59
    go_wp2_with fail
    refine bodyPost_ret (v := .tuple #[.agg #[.slice none 0 0], .int .i64 4]) (by simp [results, Tryz.results59, go_sem, g1]) rfl ?_
    exact toR_eq HR HC (zeroTree _ _ _ uu)
end Go.Proofs.YtpjcgglhlmifdaaGreatDoor
