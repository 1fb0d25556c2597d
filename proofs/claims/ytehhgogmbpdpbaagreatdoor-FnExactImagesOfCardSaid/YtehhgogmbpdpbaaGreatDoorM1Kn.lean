/-
  DoChanges: the program's side.
-/
import Derived.Test.YtehhgogmbpdpbaaGreatDoorM1Km
namespace Go.Proofs.YtehhgogmbpdpbaaGreatDoor
open Go.RowKit
set_option linter.unusedVariables false
set_option linter.unusedSimpArgs false

theorem cnt_ChangeS (x : List TChange) (hn : (shL shChange).sz x ≤ 1048576) : (mkL mmChange).cnt x ≤ 4194304 := by
  have h2 : (shL shChange).sz x = x.length + (x.map shChange.sz).sum := rfl
  suffices hs : (x.map mmChange.cnt).sum ≤ 4 * (x.length + (x.map shChange.sz).sum) by
    show (x.map mmChange.cnt).sum ≤ _
    omega
  clear hn h2
  induction x with
  | nil => simp
  | cons n x ih =>
    have e1 : mmChange.cnt n = 1 + (1 + ((n.2.2.1.map mkS.cnt).sum + 1)) := rfl
    have e2 : shChange.sz n = 0 + (n.2.1.size + ((n.2.2.1.length + (n.2.2.1.map shS.sz).sum) + n.2.2.2.size)) := rfl
    have e3 : (n.2.2.1.map mkS.cnt).sum = n.2.2.1.length := by
      generalize n.2.2.1 = l
      induction l with
      | nil => rfl
      | cons a l ih => simp only [List.map_cons, List.sum_cons, List.length_cons, ih]; show 1 + l.length = _; omega
    simp only [List.map_cons, List.sum_cons, List.length_cons]
    omega
set_option maxRecDepth 100000 in
set_option maxHeartbeats 8000000 in
theorem ci_DoChanges (v : Value) (x : TTree) (B : Option Addr) (d : Nat) (l : List TChange) (w : World) (h : AV shTree w v x) (hn : shTree.sz x ≤ 1048576) (k : SRW shChange w B d l) (hl : (shL shChange).sz l ≤ 1048576) (htab : Tab w) :
    Calls Tryz.prog 37 #[v, .slice B l.length d] w (ToR shTree (doChanges x l).1 (doChanges x l).2 w) := by
  have hvv := h
  obtain ⟨cs, rfl, h⟩ := h
  obtain ⟨A0, c0, rfl, b00⟩ := openTree h
  clear h
  have hlen := k.len_le
  obtain ⟨W0, hW0⟩ : ∃ W0, W0 = ((w.alloc (.cells #[.slice A0 x.length c0] 33)).alloc (.cells #[.slice none 0 0] 33)) := ⟨_, rfl⟩
  have u0 : Up w W0 := by rw [hW0]; exact ((Up.refl w).alloc _).alloc _
  have ka0 : Bk W0 w.heap.size 33 #[.slice A0 x.length c0] := by rw [hW0]; exact (Bk.new _ _ _).alloc _
  have kr0 : Bk W0 (w.heap.size + 1) 33 #[.slice none 0 0] := by rw [hW0]; simpa using Bk.new (w.alloc (.cells #[.slice A0 x.length c0] 33)) 33 #[.slice none 0 0]
  have hs0 : W0.heap.size = w.heap.size + 2 := by rw [hW0]; simp
  have ct := fun W (hW : Up w W) => c_implTreeOk _ x W (hvv.up good_Tree hW) hn (tab_up htab hW)
  cases ht : treeB x
  · have HD : Hid (doChanges x l = ([], 1)) := by unfold Hid doChanges; rw [if_pos ht]
    rw [ht] at ct
    have CT := Lib.hid ct
    clear ct ht
    go_enter Tryz.func37, Tryz.ntmps37
    go_wp2_with fail
    rw [← hW0]
    refine (CT.out _ u0).mono ?_
    rintro e w1 ⟨rfl, u1⟩
    have kr1 := kr0.up u1
    have gr1 := kr1.cell 0
    have fr1 := kr1.frozen 0
    clear hW0
    go_wp2_with fail
    refine bodyPost_ret (v := .tuple #[.agg #[.slice none 0 0], .int .i64 1]) (by simp [results, Tryz.results37, go_sem, gr1]) rfl ?_
    rw [HD.out]
    exact zeroTree _ _ _ ((u0.trans u1).setCell (by simp) _)
  rw [ht] at ct
  have CT := Lib.hid ct
  clear ct
  by_cases h120 : 120 < l.length
  · have HD : Hid (doChanges x l = ([], 4)) := by unfold Hid doChanges; rw [if_neg (by rw [ht]; simp), if_pos h120]
    have hgt : (120 : Int) < (l.length : Int) := by omega
    go_enter Tryz.func37, Tryz.ntmps37
    go_wp2_with fail
    rw [← hW0]
    refine (CT.out _ u0).mono ?_
    rintro e w1 ⟨rfl, u1⟩
    have kr1 := kr0.up u1
    have gr1 := kr1.cell 0
    have fr1 := kr1.frozen 0
    clear hW0
    go_wp2_with fail
    refine bodyPost_ret (v := .tuple #[.agg #[.slice none 0 0], .int .i64 4]) (by simp [results, Tryz.results37, go_sem, gr1]) rfl ?_
    rw [HD.out]
    exact zeroTree _ _ _ ((u0.trans u1).setCell (by simp) _)
  · have HD : Hid (doChanges x l = chg x l) := by unfold Hid doChanges; rw [if_neg (by rw [ht]; simp), if_neg h120]
    have hTP := treeP_of ht
    have cc := fun W (hW : Up w W) => c_copyTree _ x W (hvv.up good_Tree hW) (by have := hTP.1; omega) (treeP_subs hTP)
    have CC := Lib.hid cc
    have HTP := Lib.hid hTP
    clear cc ht hTP
    go_enter Tryz.func37, Tryz.ntmps37
    go_wp2_with fail
    rw [← hW0]
    refine (CT.out _ u0).mono ?_
    rintro e w1 ⟨rfl, u1⟩
    have kr1 := kr0.up u1
    have ga1 : w1.cell? ⟨w.heap.size, 0, none⟩ = some (.slice A0 x.length c0) := (ka0.up u1).cell 0
    have uu1 := u0.trans u1
    have hk1 := kr1.lt
    clear hW0
    go_wp2_with fail
    refine (CC.out _ uu1).mono ?_
    rintro e w2 ⟨cs2, bl2, rfl, o2, nd2, u2⟩
    obtain ⟨D2, d2, _, rfl, rfl, o4⟩ := openOTree o2
    have u2a : Up w2 (w2.alloc (.cells #[.slice D2 x.length d2] 33)) := (Up.refl w2).alloc _
    have kr2 := (kr1.up u2).up u2a
    have hin2 := o4.in_ good_Node
    have hot : OT w1.heap.size (w2.alloc (.cells #[.slice D2 x.length d2] 33)) w2.heap.size x bl2 := ⟨D2, d2, Bk.new _ _ _, o4.up good_Node u2a, nd2, fun hm => by have := (hin2 _ hm).2; omega⟩
    have uu2 := (uu1.trans u2).trans u2a
    have hw1 : w.heap.size + 2 ≤ w1.heap.size := by have := u1.size; omega
    have hw2 : w1.heap.size ≤ w2.heap.size := u2.size
    go_wp2_with fail
    go_loopw [24] (fun i wr => ∃ (j : Nat) (y : TTree) (bl : List Nat), j ≤ l.length ∧ i = .int .i64 j ∧ OT w1.heap.size wr w2.heap.size y bl ∧ Bk wr (w.heap.size + 1) 33 #[.slice none 0 0] ∧ Up w wr ∧ w1.heap.size ≤ wr.heap.size ∧ Hid (TreeP y) ∧ Hid (chg x l = chg y (l.drop j))) (fun i _ => l.length - (intOf i).toNat)
    case atStart => exact ⟨0, x, bl2, Nat.zero_le _, rfl, hot, kr2, uu2, Nat.le_trans u2.size u2a.size, HTP, by rw [List.drop_zero]; rfl⟩
    case round =>
      obtain ⟨j, y, bl, hj, rfl, ot, kr, hu, hlw, HP, HC⟩ := hrel
      have hgl := ot.lt
      have hin := ot.in_
      by_cases hlt : j < l.length
      · obtain ⟨g, off, A2, c2, rfl, _, hgl, hc0, hc1, hc2, hc3, b0, b1, b2, b3, _⟩ := atChange k hlt
        have q0 := (hu.cell (cell_lt hc0)).trans hc0
        have q1 := (hu.cell (cell_lt hc1)).trans hc1
        have q2 := (hu.cell (cell_lt hc2)).trans hc2
        have q3 := (hu.cell (cell_lt hc3)).trans hc3
        have ac1 : ∀ W, Up wr W → AV shChange W (.agg #[.int .i64 l[j].1, .string l[j].2.1, .slice A2 l[j].2.2.1.length c2, .string l[j].2.2.2]) l[j] := fun W hW => AV.up good_Change ⟨_, rfl, mkChange (x := l[j]) b0 b1 b2 b3⟩ (hu.trans hW)
        have rc1 : ∀ W, Up wr W → shChange.rep W 0 w1.heap.size [.int .i64 l[j].1, .string l[j].2.1, .slice A2 l[j].2.2.1.length c2, .string l[j].2.2.2] l[j] := fun W hW =>
          good_Change.wide (good_Change.keep (mkChange (x := l[j]) b0 b1 b2 b3) ((hu.trans hW).keeps (Nat.le_refl _))) (Nat.le_refl _) (by omega)
        have cok := fun W (hW : Up wr W) => c_implChangeOk l[j] _ W (ac1 W hW)
        have kn := Bk.new wr 72 #[.int .i64 l[j].1, .string l[j].2.1, .slice A2 l[j].2.2.1.length c2, .string l[j].2.2.2]
        have ua : Up wr (wr.alloc (.cells #[.int .i64 l[j].1, .string l[j].2.1, .slice A2 l[j].2.2.1.length c2, .string l[j].2.2.2] 72)) := (Up.refl wr).alloc _
        have hws := hu.size
        cases hcb : changeB l[j]
        · have HRES : Hid (chg x l = ([], 1)) := by unfold Hid; rw [HC.out]; exact chg_bad hlt hcb
          rw [hcb] at cok
          have COK := Lib.hid cok
          clear cok hcb ac1 rc1
          go_wp2_with fail
          refine (COK.out _ ua).mono ?_
          rintro e w3 ⟨rfl, u3⟩
          have kr3 := (kr.up ua).up u3
          have gr3 := kr3.cell 0
          have fr3 := kr3.frozen 0
          go_wp2_with fail
          refine bodyPost_ret (v := .tuple #[.agg #[.slice none 0 0], .int .i64 1]) (by simp [results, Tryz.results37, go_sem, gr3]) rfl ?_
          rw [HD.out, HRES.out]
          exact zeroTree _ _ _ (((hu.trans ua).trans u3).setCell (by simp) _)
        · have cch := fun W (hW : Up wr W) => c_change w2.heap.size y bl w1.heap.size W (ot.up hW) (Nat.le_trans hlw hW.size) HP.out l[j] _ hcb (rc1 W hW) (tab_up htab (hu.trans hW))
          have HPN : Hid (TreeP (doK y l[j])) := doK_P HP.out hcb
          have hcase : (doC y l[j] = 0 ∧ chg x l = chg (doK y l[j]) (l.drop (j + 1))) ∨ (doC y l[j] = 4 ∧ chg x l = ([], 4)) := by
            rw [HC.out]
            rcases doC_cases y l[j] with hd | hd
            · exact .inl ⟨hd, chg_step hlt hcb hd⟩
            · refine .inr ⟨hd, ?_⟩
              rw [chg_stop hlt hcb (by rw [hd]; decide), hd]
          rw [hcb] at cok
          have COK := Lib.hid cok
          generalize doK y l[j] = Y at *
          generalize doC y l[j] = q at *
          have CCH := Lib.hid cch
          have OTH := Lib.hid ot
          clear cok hcb ac1 rc1 cch ot
          have hlow : ∀ z ∈ w2.heap.size :: bl, w1.heap.size ≤ z := fun z hz => by
            rcases List.mem_cons.1 hz with rfl | hz
            · exact hw2
            · exact (hin z hz).1
          rcases hcase with ⟨rfl, hres⟩ | ⟨rfl, hres⟩
          · have HRES := Lib.hid hres
            clear hres
            go_wp2_with fail
            refine (COK.out _ ua).mono ?_
            rintro e w3 ⟨rfl, u3⟩
            have kn3 := kn.up u3
            have n0 : w3.cell? ⟨wr.heap.size, 0, none⟩ = some (.int .i64 l[j].1) := kn3.cell 0
            have n1 : w3.cell? ⟨wr.heap.size, 1, none⟩ = some (.string l[j].2.1) := kn3.cell 1
            have n2 : w3.cell? ⟨wr.heap.size, 2, none⟩ = some (.slice A2 l[j].2.2.1.length c2) := kn3.cell 2
            have n3 : w3.cell? ⟨wr.heap.size, 3, none⟩ = some (.string l[j].2.2.2) := kn3.cell 3
            have ua3 := ua.trans u3
            go_wp2_with fail
            refine (CCH.out _ ua3).mono ?_
            rintro e w4 ⟨rfl, bl4, ot4, mem4, on4⟩
            have hu4 : Up w w4 := Up.only (hu.trans ua3) on4 (fun z hz => by have := hlow z hz; omega)
            have kr4 := (kr.up ua3).only on4 (fun hm => by have := hlow _ hm; omega)
            have hl4 : w1.heap.size ≤ w4.heap.size := Nat.le_trans hlw (Nat.le_trans ua3.size on4.size)
            go_wp2_with fail
            go_roundw
            case rel => exact ⟨j + 1, Y, bl4, by omega, by go_num, ot4, kr4, hu4, hl4, HPN, HRES⟩
            case measure => simp [intOf]; omega
          · have HRES := Lib.hid hres
            clear hres
            go_wp2_with fail
            refine (COK.out _ ua).mono ?_
            rintro e w3 ⟨rfl, u3⟩
            have kn3 := kn.up u3
            have n0 : w3.cell? ⟨wr.heap.size, 0, none⟩ = some (.int .i64 l[j].1) := kn3.cell 0
            have n1 : w3.cell? ⟨wr.heap.size, 1, none⟩ = some (.string l[j].2.1) := kn3.cell 1
            have n2 : w3.cell? ⟨wr.heap.size, 2, none⟩ = some (.slice A2 l[j].2.2.1.length c2) := kn3.cell 2
            have n3 : w3.cell? ⟨wr.heap.size, 3, none⟩ = some (.string l[j].2.2.2) := kn3.cell 3
            have ua3 := ua.trans u3
            go_wp2_with fail
            refine (CCH.out _ ua3).mono ?_
            rintro e w4 ⟨rfl, bl4, ot4, mem4, on4⟩
            have hu4 : Up w w4 := Up.only (hu.trans ua3) on4 (fun z hz => by have := hlow z hz; omega)
            have kr4 := (kr.up ua3).only on4 (fun hm => by have := hlow _ hm; omega)
            have gr4 := kr4.cell 0
            have fr4 := kr4.frozen 0
            go_wp2_with fail
            refine bodyPost_ret (v := .tuple #[.agg #[.slice none 0 0], .int .i64 4]) (by simp [results, Tryz.results37, go_sem, gr4]) rfl ?_
            rw [HD.out, HRES.out]
            exact zeroTree _ _ _ (hu4.setCell (by simp) _)
      · obtain rfl : j = l.length := by omega
        have HE : Hid (chg x l = (y, 0)) := by unfold Hid; rw [HC.out, List.drop_length]; rfl
        obtain ⟨A, c, hbk, so, nd, hg⟩ := ot
        have go4 := hbk.cell 0
        have gr4 := kr.cell 0
        have fr4 := kr.frozen 0
        have hws := hu.size
        go_wp2_with fail
        have z4 := (so.set good_Node (w.heap.size + 1) 0 [.slice A y.length c] (by omega)).wide good_Node (lo' := w.heap.size) (by omega) (Nat.le_refl _)
        refine bodyPost_ret (v := .tuple #[.agg #[.slice A y.length c], .int .i64 0]) (by simp [results, Tryz.results37, go_sem, gr4]) rfl ?_
        rw [HD.out, HE.out]
        exact ⟨[.slice A y.length c], _, rfl, mkOTree z4, nd, hu.setCell (by simp) _⟩
end Go.Proofs.YtehhgogmbpdpbaaGreatDoor
