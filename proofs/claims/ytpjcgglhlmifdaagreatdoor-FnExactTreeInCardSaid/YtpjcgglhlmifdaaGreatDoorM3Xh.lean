/-
  BtTree: both sides.
-/
import Derived.Test.YtpjcgglhlmifdaaGreatDoorM3Xf
import Derived.Test.YtpjcgglhlmifdaaGreatDoorM3Rh
import Derived.Test.YtpjcgglhlmifdaaGreatDoorM3Bg
import Derived.Deep.RegionLaw
import Derived.Deep.DeepCutAuto
namespace Go.Proofs.YtpjcgglhlmifdaaGreatDoor
open Go.RowKit
set_option linter.unusedVariables false
set_option linter.unusedSimpArgs false

theorem btTree_yes {x : TBtree} (h : btreeB x = true) : btTree x = recTree (gatherB x 64 x.1) := if_pos h
theorem btTree_no {x : TBtree} (h : btreeB x = false) : btTree x = [] := if_neg (by rw [h]; decide)
theorem btTreeC_yes {x : TBtree} (h : btreeB x = true) : btTreeC x = recTreeC (gatherB x 64 x.1) := if_pos h
theorem btTreeC_no {x : TBtree} (h : btreeB x = false) : btTreeC x = 1 := if_neg (by rw [h]; decide)
set_option maxRecDepth 100000 in
set_option maxHeartbeats 8000000 in
theorem c_l16Tree (v : Value) (y : TBtree) (w : World) (h : AV shBtree w v y) (hb : btreeB y = true) : Calls Tryz.prog 58 #[v] w (ToR shTree (btTree y) (btTreeC y) w) := by
  obtain ⟨i0, hi0, hz0, hz1, hz2⟩ := info_parts cinfo_Node
  have HBT := Lib.hid (btTree_yes hb)
  have HBC := Lib.hid (btTreeC_yes hb)
  obtain ⟨cs, rfl, h⟩ := h
  obtain ⟨A0, c0, rfl, br, b00⟩ := openBtree h
  clear h
  have hs := slots_of_btree hb
  have kT := (Bk.new w 30 #[.int .i64 y.1, .slice A0 y.2.length c0]).alloc (.cells #[.slice none 0 0] 39)
  have kr : Bk ((w.alloc (.cells #[.int .i64 y.1, .slice A0 y.2.length c0] 30)).alloc (.cells #[.slice none 0 0] 39)) (w.heap.size + 1) 39 #[.slice none 0 0] := by
    simpa using Bk.new (w.alloc (.cells #[.int .i64 y.1, .slice A0 y.2.length c0] 30)) 39 #[.slice none 0 0]
  have uu : Up w ((w.alloc (.cells #[.int .i64 y.1, .slice A0 y.2.length c0] 30)).alloc (.cells #[.slice none 0 0] 39)) := ((Up.refl w).alloc _).alloc _
  have CG := Lib.hid (c_gather hs 64 y.1 _ w.heap.size uu.size (mkBtree (x := y) br (SR.keep good_Slot b00 (uu.keeps (Nat.le_refl _)))) (stands_root hb) (gather_root hb) br)
  have HOK := Lib.hid (gather_ok hs 64 y.1)
  have h384 := gather_root hb
  have g0 : World.cell? _ ⟨w.heap.size, 0, none⟩ = some (.int .i64 y.1) := kT.cell 0
  have g1 : World.cell? _ ⟨w.heap.size, 1, none⟩ = some (.slice A0 y.2.length c0) := kT.cell 1
  generalize gatherB y 64 y.1 = L at CG HOK HBT HBC h384
  clear hs hb kT
  go_enter Tryz.func58, Tryz.ntmps58
  go_wp2_with fail
  refine CG.out.mono ?_
  rintro e w2 ⟨D0, d0, bl0, rfl, so0, nd0, u2⟩
  have kr2 := kr.up u2
  have U2 := uu.trans u2
  have srL : SRW shRecord w2 D0 d0 L := SR.of_own good_Record so0
  have z2 := U2.size
  clear CG g0 g1 so0 nd0
  by_cases h120 : L.length ≤ 120
  · have HR : Hid (btTree y = L.map nodeOf) := Lib.hid (HBT.out.trans (if_pos h120))
    have HC : Hid (btTreeC y = 0) := Lib.hid (HBC.out.trans (if_pos h120))
    have hq : ¬ (120 : Int) < (L.length : Int) := by omega
    obtain ⟨W3, hW3⟩ : ∃ W3, W3 = w2.alloc (.cells #[.slice none 0 0] 39) := ⟨_, rfl⟩
    have u3 : Up w2 W3 := by rw [hW3]; exact (Up.refl _).alloc _
    have k3 : Bk W3 w2.heap.size 39 #[.slice none 0 0] := by rw [hW3]; exact Bk.new _ _ _
    have z3 : W3.heap.size = w2.heap.size + 1 := by rw [hW3]; simp
    have kr3 := kr2.up u3
    go_upto_region 5 with fail
    rw [← hW3]
    clear hW3
    go_wp2_with fail
    go_loopw [6] (fun i wr => ∃ k : Nat, k ≤ L.length ∧ i = .int .i64 k ∧ Hid (TreeR W3 w2.heap.size (w2.heap.size + 1) L k wr)) (fun i _ => L.length - (intOf i).toNat)
    case atStart => exact ⟨0, Nat.zero_le _, rfl, Lib.hid ⟨none, 0, [], k3, SO.nil _ _ _, List.nodup_nil, Only.refl _ _⟩⟩
    case round =>
      obtain ⟨k, hk, rfl, HT⟩ := hrel
      by_cases hlt : k < L.length
      · obtain ⟨D, d, bl, kTr, so, nd, on⟩ := HT.out
        have hzr := on.size
        have sr : SRW shRecord wr D0 d0 L := SR.wide good_Record (SR.keep good_Record srL (fun y _ hy => (on.block y (by omega) (by simp; omega)).trans (u3.block y hy))) (Nat.le_refl _) (Nat.le_trans u3.size on.size)
        have hgaw := (atRecord srL hlt).elim fun ga h => h.elim fun oa h => (⟨ga, oa, h.1, h.2.2.1⟩ : ∃ g o, D0 = some ⟨g, o, none⟩ ∧ g < w2.heap.size)
        obtain ⟨ga, oa, hD0, _, hgl, hc0, hc1, z0, z1, _⟩ := atRecord sr hlt
        have hgaw2 : ga < w2.heap.size := by
          obtain ⟨g', o', e1, e2⟩ := hgaw
          rw [hD0] at e1
          injection e1 with e1
          injection e1 with e1 _
          omega
        subst hD0
        clear hgaw
        have hok := HOK.out L[k] (List.getElem_mem hlt)
        have HTN := Lib.hid (take_node hlt)
        have htk := take_node_len hk
        obtain ⟨X, hX⟩ : ∃ X, X = (L.take k).map nodeOf := ⟨_, rfl⟩
        rw [← hX] at so htk HTN
        clear hX
        obtain ⟨p, hp⟩ : ∃ p, placeOf L[k].1 = some p := by
          have := hok.1
          unfold keyB at this
          exact Option.isSome_iff_exists.1 this
        have hnd := nodeOf_key hp hok
        have HN := Lib.hid (nodeOf_some hp)
        have CK := Lib.hid (c_specKeyPlaceO L[k].1 wr (recOk_key hok))
        rw [hp] at CK
        have HTK := Lib.hid htk
        have hkii : (k : Int) < (L.length : Int) := by omega
        have hk0i : (0 : Int) ≤ (k : Int) := by omega
        clear hok hp HT sr
        go_wp2_with fail
        refine CK.out.mono ?_
        rintro e w5 ⟨u1, E, e1, rfl, be, sub, ndb⟩
        clear CK
        have kT1 := kTr.up u1
        have hc1' := (u1.cell (cell_lt hc1)).trans hc1
        have gT1 : w5.cell? ⟨w2.heap.size, 0, none⟩ = some (.slice D k d) := kT1.cell 0
        have gT1b : (w5.alloc (.cells #[.string p.1, .slice E p.2.length e1, .string L[k].2] 165)).cell? ⟨w2.heap.size, 0, none⟩ = some (.slice D k d) := (kT1.alloc _).cell 0
        obtain ⟨q9, hq9⟩ : ∃ q9, q9 = ((w5.alloc (.cells #[.string p.1, .slice E p.2.length e1, .string L[k].2] 165)).drew) := ⟨_, rfl⟩
        have kq : Bk q9 w5.heap.size 165 #[.string p.1, .slice E p.2.length e1, .string L[k].2] := by rw [hq9]; exact (Bk.new w5 _ _).drew
        have uq : Up w5 q9 := by rw [hq9]; exact ((Up.refl _).alloc _).drew
        have so1 := so.up good_Node (u1.trans uq)
        have hin := so.in_ good_Node
        have hinb := sub.in_ good_S
        have hz1r := u1.size
        have hlo : w2.heap.size + 1 ≤ q9.heap.size := by have := uq.size; omega
        have ho : shNode.own q9 (w2.heap.size + 1) q9.heap.size [.string p.1, .slice E p.2.length e1, .string L[k].2] (p.1, p.2, L[k].2) be :=
          mkONode (x := (p.1, p.2, L[k].2)) hnd.1 ((sub.up good_S uq).wide good_S (by omega) (Nat.le_refl _)) hnd.2
        have hnb : (bl ++ [be].flatten).Nodup := by
          simpa using nodup_two (m := wr.heap.size) nd ndb (fun y hy => (hin y hy).2) (fun y hy => (hinb y hy).1)
        have hx1 : (X.length + 1) * i0.bytes ≤ 140737488355328 := by rw [hz2, htk]; omega
        have hx2 : X.length + 1 ≤ maxLen := by unfold maxLen; omega
        have hgb : w2.heap.size ∉ bl := fun hm => by have := (hin _ hm).1; omega
        have onA : Only [w2.heap.size] W3 q9 := on.up (u1.trans uq)
        have kT9q := kT1.up uq
        have hgg : ga ≠ w2.heap.size := by omega
        clear kT1 sub htk
        go_wp2_with fail
        go_region_law (refine step_app good_Node rfl _ _ _ _ 165 rfl i0 _ Tryz.underlying37 hi0 hz0 hz1 (by rfl) (lo := w2.heap.size + 1) (xs := X) (ys := [(p.1, p.2, L[k].2)]) (bl := bl) (bs := [be]) (news := [.string p.1, .slice E p.2.length e1, .string L[k].2]) (by rw [HTK.out]; rfl) rfl (hq9 ▸ so1) hnb (Src.box (t := 165) Tryz.underlying37 (hq9 ▸ kq) (by simp [Value.oneCell']) (by rw [hz1]; rfl)) (Rowed.one good_Node (hq9 ▸ ho)) (hq9 ▸ hlo) hx1 hx2 ?_
                       intro D9 d9 bl9 w9 hap
                       obtain ⟨so9, nd9, mem9, on9⟩ := hap
                       rw [← hq9] at on9
                       have kT9 := kT9q.only on9 hgb
                       have gT9 : w9.cell? ⟨w2.heap.size, 0, none⟩ = some (.slice D k d) := kT9.cell 0
                       have fT9 := kT9.frozen 0)
        all_goals
          have bt := But.set w9 w2.heap.size 0 (.slice D9 (X.length + 1) d9)
          have hb9 : ∀ y ∈ bl9, w2.heap.size + 1 ≤ y := fun y hy => (so9.in_ good_Node y hy).1
          have HTF : Hid (TreeR W3 w2.heap.size (w2.heap.size + 1) L (k + 1) (w9.setCell ⟨w2.heap.size, 0, none⟩ (.slice D9 (X.length + 1) d9))) := Lib.hid ⟨D9, d9, bl9, by have := kT9.set 0 (.slice D9 (X.length + 1) d9); rw [HTK.out] at this ⊢; exact this, by rw [HTN.out, HN.out]; exact so9.butD good_Node bt (fun hm => by have := hb9 _ hm; omega), nd9, (onA.one on9 (fun y hy => by have := (hin y hy).1; omega)).but bt (by simp)⟩
          go_wp2_with fail
          go_roundw
          case rel => exact ⟨k + 1, by omega, by go_num, HTF⟩
          case measure => simp [intOf]; omega
      · obtain rfl : k = L.length := by omega
        obtain ⟨D, d, bl, kTr, so, nd, on⟩ := HT.out
        rw [List.take_length] at so
        have k1r := kr3.only on (fun hm => by have := List.mem_singleton.1 hm; have := kr2.lt; omega)
        have gT : wr.cell? ⟨w2.heap.size, 0, none⟩ = some (.slice D L.length d) := kTr.cell 0
        have g1 : wr.cell? ⟨w.heap.size + 1, 0, none⟩ = some (.slice none 0 0) := k1r.cell 0
        have f1 := k1r.frozen 0
        have uw : Up w wr := (U2.trans u3).only on (fun y hy => by obtain rfl := List.mem_singleton.1 hy; omega)
        have bt := But.set wr (w.heap.size + 1) 0 (.slice D L.length d)
        have hin := so.in_ good_Node
        have hk1 := kr2.lt
        have so2 := so.butD good_Node bt (fun hm => by have := (hin _ hm).1; omega)
        have uwE := uw.but bt (by omega)
        clear HT
        go_wp2_with fail
        refine bodyPost_ret (v := .tuple #[.agg #[.slice D L.length d], .int .i64 0]) (by simp [results, Tryz.results58, go_sem, g1]) rfl ?_
        have hml : (L.map nodeOf).length = L.length := List.length_map _
        have so3 := mkOTree (so2.wide good_Node (lo' := w.heap.size) (by omega) (Nat.le_refl _))
        rw [hml] at so3
        exact toR_eq HR HC ⟨[.slice D L.length d], bl, rfl, so3, nd, uwE⟩
  · have HR : Hid (btTree y = []) := Lib.hid (HBT.out.trans (if_neg h120))
    have HC : Hid (btTreeC y = 4) := Lib.hid (HBC.out.trans (if_neg h120))
    have hq : (120 : Int) < (L.length : Int) := by omega
    have g1 : w2.cell? ⟨w.heap.size + 1, 0, none⟩ = some (.slice none 0 0) := kr2.cell 0
    have f1 := kr2.frozen 0
    go_wp2_with fail
    refine bodyPost_ret (v := .tuple #[.agg #[.slice none 0 0], .int .i64 4]) (by simp [results, Tryz.results58, go_sem, g1]) rfl ?_
    exact toR_eq HR HC (zeroTree _ _ _ (U2.setCell (by simp) _))
set_option maxRecDepth 100000 in
set_option maxHeartbeats 8000000 in
theorem cs0_BtTree (v : Value) (y : TBtree) (w : World) (h : AV shBtree w v y) (hn : shBtree.sz y ≤ 1048576) : Calls Tryz.prog 19 #[v] w (ToR shTree (btTree y) (btTreeC y) w) := by
  have hv := h
  obtain ⟨cs, rfl, h⟩ := h
  obtain ⟨A0, c0, rfl, br, b00⟩ := openBtree h
  clear h
  have kT := (Bk.new w 30 #[.int .i64 y.1, .slice A0 y.2.length c0]).alloc (.cells #[.slice none 0 0] 39)
  have kr : Bk ((w.alloc (.cells #[.int .i64 y.1, .slice A0 y.2.length c0] 30)).alloc (.cells #[.slice none 0 0] 39)) (w.heap.size + 1) 39 #[.slice none 0 0] := by
    simpa using Bk.new (w.alloc (.cells #[.int .i64 y.1, .slice A0 y.2.length c0] 30)) 39 #[.slice none 0 0]
  have uu : Up w ((w.alloc (.cells #[.int .i64 y.1, .slice A0 y.2.length c0] 30)).alloc (.cells #[.slice none 0 0] 39)) := ((Up.refl w).alloc _).alloc _
  have CB := Lib.hid (cs_BtreeOk _ y _ (hv.up good_Btree uu) hn)
  have g0 : World.cell? _ ⟨w.heap.size, 0, none⟩ = some (.int .i64 y.1) := kT.cell 0
  have g1 : World.cell? _ ⟨w.heap.size, 1, none⟩ = some (.slice A0 y.2.length c0) := kT.cell 1
  go_enter Tryz.func19, Tryz.ntmps19
  go_wp2_with fail
  refine CB.out.mono ?_
  rintro e w1 ⟨rfl, u1⟩
  have U1 := uu.trans u1
  have kT1 := kT.up u1
  have kr1 := kr.up u1
  cases hb : btreeB y
  · have HR := Lib.hid (btTree_no hb)
    have HC := Lib.hid (btTreeC_no hb)
    have g2 : w1.cell? ⟨w.heap.size + 1, 0, none⟩ = some (.slice none 0 0) := kr1.cell 0
    have f2 := kr1.frozen 0
    clear hb CB g0 g1
    go_wp2_with fail
    refine bodyPost_ret (v := .tuple #[.agg #[.slice none 0 0], .int .i64 1]) (by simp [results, Tryz.results19, go_sem, g2]) rfl ?_
    exact toR_eq HR HC (zeroTree _ _ _ (U1.setCell (by simp) _))
  · have CT := Lib.hid (c_l16Tree _ y w1 (hv.up good_Btree U1) hb)
    have g0' : w1.cell? ⟨w.heap.size, 0, none⟩ = some (.int .i64 y.1) := kT1.cell 0
    have g1' : w1.cell? ⟨w.heap.size, 1, none⟩ = some (.slice A0 y.2.length c0) := kT1.cell 1
    clear hb CB g0 g1
    go_wp2_with fail
    refine CT.out.mono ?_
    rintro e w2 ⟨cs2, bl2, rfl, o2, nd2, u2⟩
    obtain ⟨D2, d2, bq, rfl, hbl, so2⟩ := openOTree o2
    have kr2 := kr1.up u2
    have g2 : w2.cell? ⟨w.heap.size + 1, 0, none⟩ = some (.slice none 0 0) := kr2.cell 0
    have f2 := kr2.frozen 0
    have bt := But.set w2 (w.heap.size + 1) 0 (.slice D2 (btTree y).length d2)
    have hk1 := kr1.lt
    have o3 := good_Tree.own_keep o2 (fun b hb => bt.block b (by have := (good_Tree.own_in o2 b hb).1; omega))
    have z1 := U1.size
    clear g0' g1' so2
    go_wp2_with fail
    refine bodyPost_ret (v := .tuple #[.agg #[.slice D2 (btTree y).length d2], .int .i64 (btTreeC y)]) (by simp [results, Tryz.results19, go_sem, g2]) rfl ?_
    exact ⟨_, bl2, rfl, good_Tree.own_wide o3 z1 (by rw [bt.size]; exact Nat.le_refl _), nd2, (U1.trans u2).but bt (by omega)⟩
theorem cs_BtTree (v : Value) (y : TBtree) (w : World) (h : AV shBtree w v y) (hn : shBtree.sz y ≤ 1048576) : Calls Tryz.prog 19 #[v] w (RpR shTree (btTree y) (btTreeC y) w) :=
  (cs0_BtTree v y w h hn).mono fun _ _ hh => hh.rp good_Tree
set_option maxRecDepth 100000 in
set_option maxHeartbeats 8000000 in
theorem ci_BtTree (v : Value) (y : TBtree) (w : World) (h : AV shBtree w v y) (hn : shBtree.sz y ≤ 1048576) (htab : Tab w) (hm : MaxL w) : Calls Tryz.prog 20 #[v] w (ToR shTree (btTree y) (btTreeC y) w) := by
  have hv := h
  obtain ⟨cs, rfl, h⟩ := h
  obtain ⟨A0, c0, rfl, br, b00⟩ := openBtree h
  clear h
  have kT := (Bk.new w 30 #[.int .i64 y.1, .slice A0 y.2.length c0]).alloc (.cells #[.slice none 0 0] 39)
  have kr : Bk ((w.alloc (.cells #[.int .i64 y.1, .slice A0 y.2.length c0] 30)).alloc (.cells #[.slice none 0 0] 39)) (w.heap.size + 1) 39 #[.slice none 0 0] := by
    simpa using Bk.new (w.alloc (.cells #[.int .i64 y.1, .slice A0 y.2.length c0] 30)) 39 #[.slice none 0 0]
  have uu : Up w ((w.alloc (.cells #[.int .i64 y.1, .slice A0 y.2.length c0] 30)).alloc (.cells #[.slice none 0 0] 39)) := ((Up.refl w).alloc _).alloc _
  have CB := Lib.hid (ci_BtreeOk _ y _ (hv.up good_Btree uu) hn (tab_up htab uu) (maxL_up hm uu))
  have g0 : World.cell? _ ⟨w.heap.size, 0, none⟩ = some (.int .i64 y.1) := kT.cell 0
  have g1 : World.cell? _ ⟨w.heap.size, 1, none⟩ = some (.slice A0 y.2.length c0) := kT.cell 1
  go_enter Tryz.func20, Tryz.ntmps20
  go_wp2_with fail
  refine CB.out.mono ?_
  rintro e w1 ⟨rfl, u1⟩
  have U1 := uu.trans u1
  have kT1 := kT.up u1
  have kr1 := kr.up u1
  cases hb : btreeB y
  · have HR := Lib.hid (btTree_no hb)
    have HC := Lib.hid (btTreeC_no hb)
    have g2 : w1.cell? ⟨w.heap.size + 1, 0, none⟩ = some (.slice none 0 0) := kr1.cell 0
    have f2 := kr1.frozen 0
    clear hb CB g0 g1
    go_wp2_with fail
    refine bodyPost_ret (v := .tuple #[.agg #[.slice none 0 0], .int .i64 1]) (by simp [results, Tryz.results20, go_sem, g2]) rfl ?_
    exact toR_eq HR HC (zeroTree _ _ _ (U1.setCell (by simp) _))
  · have CP := Lib.hid (c_pagesOf _ y w1 (hv.up good_Btree U1) (slots_of_btree hb) hn)
    have HA := Lib.hid (fun lo' hi tb W PR hhi => c_all (x := y) hb br (lo' := lo') (hi := hi) (tb := tb) (w := W) PR hhi)
    have HR := Lib.hid (btTree_yes hb)
    have HC := Lib.hid (btTreeC_yes hb)
    have HOK := Lib.hid (gather_ok (slots_of_btree hb) 64 y.1)
    have g0' : w1.cell? ⟨w.heap.size, 0, none⟩ = some (.int .i64 y.1) := kT1.cell 0
    have g1' : w1.cell? ⟨w.heap.size, 1, none⟩ = some (.slice A0 y.2.length c0) := kT1.cell 1
    generalize gatherB y 64 y.1 = L at HA HR HC HOK
    clear hb CB g0 g1
    go_wp2_with fail
    refine CP.out.mono ?_
    rintro e w2 ⟨tb, rfl, PR, u2⟩
    have CA := Lib.hid (HA.out _ _ _ _ PR (Nat.le_refl _))
    clear CP PR HA g0' g1'
    go_wp2_with fail
    refine CA.out.mono ?_
    rintro e w3 ⟨A, c, bl3, rfl, so3, nd3, u3⟩
    have U3 := (U1.trans u2).trans u3
    have CT := Lib.hid (c_treeOf L A c w3 (SR.of_own good_Record so3) HOK.out (tab_up htab U3) (maxL_up hm U3))
    rw [← HR.out, ← HC.out] at CT
    clear CA so3 nd3
    go_wp2_with fail
    refine CT.out.mono ?_
    rintro e w4 ⟨cs4, bl4, rfl, o4, nd4, u4⟩
    obtain ⟨D4, d4, bq, rfl, hbl, so4⟩ := openOTree o4
    have kr3 := (kr1.up u2).up u3
    have kr4 := kr3.up u4
    have g2 : w4.cell? ⟨w.heap.size + 1, 0, none⟩ = some (.slice none 0 0) := kr4.cell 0
    have f2 := kr4.frozen 0
    have bt := But.set w4 (w.heap.size + 1) 0 (.slice D4 (btTree y).length d4)
    have hk3 := kr3.lt
    have o5 := good_Tree.own_keep o4 (fun b hb => bt.block b (by have := (good_Tree.own_in o4 b hb).1; omega))
    have z3 := U3.size
    clear so4
    go_wp2_with fail
    refine bodyPost_ret (v := .tuple #[.agg #[.slice D4 (btTree y).length d4], .int .i64 (btTreeC y)]) (by simp [results, Tryz.results20, go_sem, g2]) rfl ?_
    exact ⟨_, bl4, rfl, good_Tree.own_wide o5 z3 (by rw [bt.size]; exact Nat.le_refl _), nd4, (U3.trans u4).but bt (by omega)⟩
end Go.Proofs.YtpjcgglhlmifdaaGreatDoor
