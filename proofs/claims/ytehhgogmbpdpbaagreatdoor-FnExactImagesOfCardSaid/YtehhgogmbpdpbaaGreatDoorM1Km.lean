/-
  DoChanges: both sides' contracts.
-/
import Derived.Test.YtehhgogmbpdpbaaGreatDoorM1Kl
namespace Go.Proofs.YtehhgogmbpdpbaaGreatDoor
open Go.RowKit
set_option linter.unusedVariables false
set_option linter.unusedSimpArgs false

def chg : TTree → List TChange → TTree × Int
  | x, [] => (x, 0)
  | x, c :: l => if changeB c = false then ([], 1) else if doC x c = 0 then chg (doK x c) l else ([], doC x c)
theorem chg_P : ∀ (l : List TChange) (x : TTree), TreeP x → TreeP (chg x l).1
  | [], x, h => h
  | c :: l, x, h => by
    unfold chg
    by_cases hc : changeB c = false
    · rw [if_pos hc]; exact treeP_nil
    · rw [if_neg hc]
      by_cases hd : doC x c = 0
      · rw [if_pos hd]; exact chg_P l _ (doK_P h (by simpa using hc))
      · rw [if_neg hd]; exact treeP_nil
def doChanges (x : TTree) (l : List TChange) : TTree × Int := if treeB x = false then ([], 1) else if 120 < l.length then ([], 4) else chg x l
theorem doChanges_P (x : TTree) (l : List TChange) : TreeP (doChanges x l).1 := by
  unfold doChanges
  split
  · exact treeP_nil
  · rename_i h
    split
    · exact treeP_nil
    · exact chg_P l x (treeP_of (by simpa using h))
theorem chg_bad {x : TTree} {l : List TChange} {k : Nat} (h : k < l.length) (hc : changeB l[k] = false) : chg x (l.drop k) = ([], 1) := by
  rw [List.drop_eq_getElem_cons h]
  unfold chg
  rw [if_pos hc]
theorem chg_step {x : TTree} {l : List TChange} {k : Nat} (h : k < l.length) (hc : changeB l[k] = true) (hd : doC x l[k] = 0) : chg x (l.drop k) = chg (doK x l[k]) (l.drop (k + 1)) := by
  rw [List.drop_eq_getElem_cons h]
  conv => lhs; unfold chg
  rw [if_neg (by rw [hc]; simp), if_pos hd]
theorem chg_stop {x : TTree} {l : List TChange} {k : Nat} (h : k < l.length) (hc : changeB l[k] = true) (hd : ¬ doC x l[k] = 0) : chg x (l.drop k) = ([], doC x l[k]) := by
  rw [List.drop_eq_getElem_cons h]
  unfold chg
  rw [if_neg (by rw [hc]; simp), if_neg hd]
theorem up5 {w w' : World} (u : Up w w') {a b c d e : Addr} {x y z t s : Value} (h : w.cell? a = some x ∧ w.cell? b = some y ∧ w.cell? c = some z ∧ w.cell? d = some t ∧ w.cell? e = some s) : w'.cell? a = some x ∧ w'.cell? b = some y ∧ w'.cell? c = some z ∧ w'.cell? d = some t ∧ w'.cell? e = some s :=
  ⟨(u.cell (cell_lt h.1)).trans h.1, (u.cell (cell_lt h.2.1)).trans h.2.1, (u.cell (cell_lt h.2.2.1)).trans h.2.2.1, (u.cell (cell_lt h.2.2.2.1)).trans h.2.2.2.1, (u.cell (cell_lt h.2.2.2.2)).trans h.2.2.2.2⟩
set_option maxRecDepth 100000 in
set_option maxHeartbeats 8000000 in
theorem cs_DoChanges (v : Value) (x : TTree) (B : Option Addr) (d : Nat) (l : List TChange) (w : World) (h : AV shTree w v x) (hn : shTree.sz x ≤ 1048576) (k : SRW shChange w B d l) (hl : (shL shChange).sz l ≤ 1048576) :
    Calls Tryz.prog 33 #[v, .slice B l.length d] w (RpR shTree (doChanges x l).1 (doChanges x l).2 w) := by
  have hvv := h
  obtain ⟨cs, rfl, h⟩ := h
  obtain ⟨A0, c0, rfl, b00⟩ := openTree h
  clear h
  have hlen := k.len_le
  obtain ⟨W0, hW0⟩ : ∃ W0, W0 = ((w.alloc (.cells #[.slice A0 x.length c0] 33)).alloc (.cells #[.slice none 0 0] 33)) := ⟨_, rfl⟩
  have u0 : Up w W0 := by rw [hW0]; exact ((Up.refl w).alloc _).alloc _
  have ka0 : Bk W0 w.heap.size 33 #[.slice A0 x.length c0] := by rw [hW0]; exact (Bk.new _ _ _).alloc _
  have kr0 : Bk W0 (w.heap.size + 1) 33 #[.slice none 0 0] := by rw [hW0]; simpa using Bk.new (w.alloc (.cells #[.slice A0 x.length c0] 33)) 33 #[.slice none 0 0]
  have hs0 : W0.heap.size = w.heap.size + 2 := by rw [hW0]; simp
  have ct := fun W (hW : Up w W) => c_specTreeOk _ x W (hvv.up good_Tree hW) hn
  cases ht : treeB x
  · have HD : Hid (doChanges x l = ([], 1)) := by unfold Hid doChanges; rw [if_pos ht]
    rw [ht] at ct
    have CT := Lib.hid ct
    clear ct ht
    go_enter Tryz.func33, Tryz.ntmps33
    go_wp2_with fail
    rw [← hW0]
    refine (CT.out _ u0).mono ?_
    rintro e w1 ⟨rfl, u1⟩
    have kr1 := kr0.up u1
    have gr1 := kr1.cell 0
    have fr1 := kr1.frozen 0
    clear hW0
    go_wp2_with fail
    refine bodyPost_ret (v := .tuple #[.agg #[.slice none 0 0], .int .i64 1]) (by simp [results, Tryz.results33, go_sem, gr1]) rfl ?_
    rw [HD.out]
    exact ToR.rp good_Tree (zeroTree _ _ _ ((u0.trans u1).setCell (by simp) _))
  rw [ht] at ct
  have CT := Lib.hid ct
  clear ct
  by_cases h120 : 120 < l.length
  · have HD : Hid (doChanges x l = ([], 4)) := by unfold Hid doChanges; rw [if_neg (by rw [ht]; simp), if_pos h120]
    have hgt : (120 : Int) < (l.length : Int) := by omega
    go_enter Tryz.func33, Tryz.ntmps33
    go_wp2_with fail
    rw [← hW0]
    refine (CT.out _ u0).mono ?_
    rintro e w1 ⟨rfl, u1⟩
    have kr1 := kr0.up u1
    have gr1 := kr1.cell 0
    have fr1 := kr1.frozen 0
    clear hW0
    go_wp2_with fail
    refine bodyPost_ret (v := .tuple #[.agg #[.slice none 0 0], .int .i64 4]) (by simp [results, Tryz.results33, go_sem, gr1]) rfl ?_
    rw [HD.out]
    exact ToR.rp good_Tree (zeroTree _ _ _ ((u0.trans u1).setCell (by simp) _))
  · have HD : Hid (doChanges x l = chg x l) := by unfold Hid doChanges; rw [if_neg (by rw [ht]; simp), if_neg h120]
    have hTP := treeP_of ht
    have co := fun W (hW : Up w W) => c_l03Own x A0 c0 W (b00.up good_Node hW) (by have := hTP.1; omega) (treeP_subs hTP)
    have CO := Lib.hid co
    have HTP := Lib.hid hTP
    clear co ht hTP
    go_enter Tryz.func33, Tryz.ntmps33
    go_wp2_with fail
    rw [← hW0]
    refine (CT.out _ u0).mono ?_
    rintro e w1 ⟨rfl, u1⟩
    have kr1 := kr0.up u1
    have ga1 : w1.cell? ⟨w.heap.size, 0, none⟩ = some (.slice A0 x.length c0) := (ka0.up u1).cell 0
    have uu1 := u0.trans u1
    have hk1 := kr1.lt
    clear hW0
    go_wp2_with fail
    refine (CO.out _ uu1).mono ?_
    rintro e w2 ⟨D2, d2, bl2, rfl, o2, nd2, u2⟩
    have kr2 := (kr1.up u2).alloc (.cells #[.slice D2 x.length d2] 33)
    have uu2 := (uu1.trans u2).alloc (.cells #[.slice D2 x.length d2] 33)
    have ko2 : Bk (w2.alloc (.cells #[.slice D2 x.length d2] 33)) w2.heap.size 33 #[.slice D2 x.length d2] := Bk.new _ _ _
    have hw2 : w.heap.size + 2 ≤ w2.heap.size := by have := u1.size; have := u2.size; omega
    go_wp2_with fail
    have h2a : Up w2 (w2.alloc (.cells #[.slice D2 x.length d2] 33)) := (Up.refl w2).alloc _
    have hsr2 : SR shNode (w2.alloc (.cells #[.slice D2 x.length d2] 33)) (w.heap.size + 2) w2.heap.size D2 d2 x := ((o2.rep good_Node).wide good_Node (by have := u1.size; omega) (Nat.le_refl _)).keep good_Node (h2a.keeps (Nat.le_refl _))
    go_loopw [7] (fun i wr => ∃ (j : Nat) (y : TTree) (A : Option Addr) (c lo hi : Nat), j ≤ l.length ∧ i = .int .i64 j ∧ Bk wr w2.heap.size 33 #[.slice A y.length c] ∧ Bk wr (w.heap.size + 1) 33 #[.slice none 0 0] ∧ SR shNode wr lo hi A c y ∧ Up w wr ∧ Hid (TreeP y) ∧ Hid (chg x l = chg y (l.drop j)) ∧ w.heap.size + 2 ≤ lo ∧ (hi ≤ w2.heap.size ∨ w2.heap.size < lo) ∧ hi ≤ wr.heap.size) (fun i _ => l.length - (intOf i).toNat)
    case atStart => exact ⟨0, x, D2, d2, w.heap.size + 2, w2.heap.size, Nat.zero_le _, rfl, ko2, kr2, hsr2, uu2, HTP, by rw [List.drop_zero]; rfl, Nat.le_refl _, .inl (Nat.le_refl _), by simp⟩
    case round =>
      obtain ⟨j, y, A, c, lo, hi, hj, rfl, ko, kr, sr, hu, HP, HC, hlo, hb, hhi⟩ := hrel
      have go0 : wr.cell? ⟨w2.heap.size, 0, none⟩ = some (.slice A y.length c) := ko.cell 0
      have hol := ko.lt
      by_cases hlt : j < l.length
      · obtain ⟨g, off, A2, c2, rfl, _, hgl, hc0, hc1, hc2, hc3, b0, b1, b2, b3, _⟩ := atChange k hlt
        have S0 : wr.cell? ⟨w2.heap.size, 0, none⟩ = some (.slice A y.length c) ∧ wr.cell? ⟨g, off + j * 4, none⟩ = some (.int .i64 l[j].1) ∧ wr.cell? ⟨g, off + j * 4 + 1, none⟩ = some (.string l[j].2.1) ∧ wr.cell? ⟨g, off + j * 4 + 2, none⟩ = some (.slice A2 l[j].2.2.1.length c2) ∧ wr.cell? ⟨g, off + j * 4 + 3, none⟩ = some (.string l[j].2.2.2) :=
          ⟨go0, (hu.cell (cell_lt hc0)).trans hc0, (hu.cell (cell_lt hc1)).trans hc1, (hu.cell (cell_lt hc2)).trans hc2, (hu.cell (cell_lt hc3)).trans hc3⟩
        have HS0 := Lib.hid S0
        have at1 : ∀ W, Up wr W → AV shTree W (.agg #[.slice A y.length c]) y := fun W hW => AV.up good_Tree ⟨_, rfl, mkTree (sr.wide good_Node (Nat.zero_le _) hhi)⟩ hW
        have ac1 : ∀ W, Up wr W → AV shChange W (.agg #[.int .i64 l[j].1, .string l[j].2.1, .slice A2 l[j].2.2.1.length c2, .string l[j].2.2.2]) l[j] := fun W hW => AV.up good_Change ⟨_, rfl, mkChange (x := l[j]) b0 b1 b2 b3⟩ (hu.trans hW)
        have cd := fun W (hW : Up wr W) => c_specDoChange _ y _ l[j] W (at1 W hW) (treeP_sz HP.out) (ac1 W hW)
        have hcase : (¬ doChangeC y l[j] = 0 ∧ chg x l = ([], doChangeC y l[j])) ∨ (doChangeC y l[j] = 0 ∧ chg x l = chg (doChange y l[j]) (l.drop (j + 1))) := by
          rw [HC.out]
          have ht := treeB_t HP.out
          cases hcb : changeB l[j]
          · left
            rw [(doChange_no (x := y) (c := l[j]) (by simp [hcb])).2.out]
            exact ⟨by decide, chg_bad hlt hcb⟩
          · obtain ⟨h1, h2⟩ := doChange_yes (x := y) (c := l[j]) ⟨ht, hcb⟩
            rw [h1.out, h2.out]
            by_cases hd : doC y l[j] = 0
            · right
              refine ⟨hd, ?_⟩
              rw [chg_step hlt hcb hd]
              unfold doR
              rw [if_pos hd]
            · left
              exact ⟨hd, chg_stop hlt hcb hd⟩
        have HPR : Hid (TreeP (doChange y l[j])) := doChange_P
        generalize doChangeC y l[j] = q at *
        generalize doChange y l[j] = R at *
        have CD := Lib.hid cd
        clear cd at1 ac1 S0 hc0 hc1 hc2 hc3 go0
        rcases hcase with ⟨hq, hres⟩ | ⟨rfl, hres⟩
        · have HRES := Lib.hid hres
          have hqb : (q != 0) = true := by simpa using hq
          clear hres hq
          go_wp2_with fail
          go_region_held3 (fun W => W.cell? ⟨w2.heap.size, 0, none⟩ = some (.slice A y.length c) ∧ W.cell? ⟨g, off + j * 4, none⟩ = some (.int .i64 l[j].1) ∧ W.cell? ⟨g, off + j * 4 + 1, none⟩ = some (.string l[j].2.1) ∧ W.cell? ⟨g, off + j * 4 + 2, none⟩ = some (.slice A2 l[j].2.2.1.length c2) ∧ W.cell? ⟨g, off + j * 4 + 3, none⟩ = some (.string l[j].2.2.2))
            (first | exact up5 (Up.refl wr).drew HS0.out | exact up5 ((Up.refl wr).drew.alloc _) HS0.out | exact up5 uu3 HS0.out | exact up5 (uu3.alloc _) HS0.out | exact up5 (uu3.setCell (Nat.le_refl _) _) HS0.out)
            (first
              | (go_at_call 72
                 refine (CD.out _ (by first | exact (Up.refl wr).drew | exact (Up.refl wr).drew.alloc _)).mono ?_
                 rintro e w3 ⟨cs3, bl3, rfl, o3, nd3, u3⟩
                 obtain ⟨D3, d3, _, rfl, rfl, o4⟩ := openOTree o3
                 have uu3 : Up wr w3 := Up.trans (by first | exact (Up.refl wr).drew | exact (Up.refl wr).drew.alloc _) u3
                 first
                   | (have kx := Bk.up (Bk.new wr.drew 33 #[.slice none 0 0]) u3
                      have gx : w3.cell? ⟨wr.heap.size, 0, none⟩ = some (.slice none 0 0) := kx.cell 0
                      have fx : w3.frozen? ⟨wr.heap.size, 0, none⟩ = false := kx.frozen 0)
                   | skip))
          · have hx4 : Up w3 (w3.alloc (.cells #[.slice D3 R.length d3] 33)) := (Up.refl w3).alloc _
            have u4 : Up wr (w3.alloc (.cells #[.slice D3 R.length d3] 33)) := uu3.trans hx4
            have k8 : Bk (w3.alloc (.cells #[.slice D3 R.length d3] 33)) w3.heap.size 33 #[.slice D3 R.length d3] := Bk.new _ _ _
            have kr4 := (kr.up uu3).alloc (.cells #[.slice D3 R.length d3] 33)
            have ko4 := (ko.up uu3).alloc (.cells #[.slice D3 R.length d3] 33)
            have sr4 : SR shNode (w3.alloc (.cells #[.slice D3 R.length d3] 33)) wr.heap.size w3.heap.size D3 d3 R := ((o4.rep good_Node).wide good_Node (by simp) (Nat.le_refl _)).keep good_Node (hx4.keeps (Nat.le_refl _))
            have hh4 : w3.heap.size ≤ (w3.alloc (.cells #[.slice D3 R.length d3] 33)).heap.size := hx4.size
            have hws := hu.size
            have hl4 : w2.heap.size < wr.heap.size := hol
            obtain ⟨b8, hb8⟩ : ∃ b8, b8 = w3.heap.size := ⟨_, rfl⟩
            rw [← hb8] at k8 ⊢
            clear hb8
            generalize (w3.alloc (.cells #[.slice D3 R.length d3] 33)) = W4 at *
            have gr4 : W4.cell? ⟨w.heap.size + 1, 0, none⟩ = some (.slice none 0 0) := kr4.cell 0
            have fr4 := kr4.frozen 0
            have go4 : W4.cell? ⟨w2.heap.size, 0, none⟩ = some (.slice A y.length c) := ko4.cell 0
            have fo4 := ko4.frozen 0
            have g8 : W4.cell? ⟨b8, 0, none⟩ = some (.slice D3 R.length d3) := k8.cell 0
            clear o4 o3
            go_wp2_with fail
            refine bodyPost_ret (v := .tuple #[.agg #[.slice none 0 0], .int .i64 q]) (by simp [results, Tryz.results33, go_sem, gr4]) rfl ?_
            rw [HD.out, HRES.out]
            exact ToR.rp good_Tree (zeroTree _ _ _ ((hu.trans u4).setCell (by simp) _))
          · have u4 : Up wr (w3.setCell ⟨wr.heap.size, 0, none⟩ (.slice D3 R.length d3)) := uu3.setCell (Nat.le_refl _) _
            have k8 : Bk (w3.setCell ⟨wr.heap.size, 0, none⟩ (.slice D3 R.length d3)) wr.heap.size 33 #[.slice D3 R.length d3] := by simpa using kx.set 0 (.slice D3 R.length d3)
            have hkrl := kr.lt
            have kr4 := (kr.up uu3).far (p := ⟨wr.heap.size, 0, none⟩) (Nat.ne_of_lt hkrl) (.slice D3 R.length d3)
            have ko4 := (ko.up uu3).far (p := ⟨wr.heap.size, 0, none⟩) (Nat.ne_of_lt hol) (.slice D3 R.length d3)
            have hbut4 := But.set w3 wr.heap.size 0 (.slice D3 R.length d3)
            have sr4 : SR shNode (w3.setCell ⟨wr.heap.size, 0, none⟩ (.slice D3 R.length d3)) (wr.heap.size + 1) w3.heap.size D3 d3 R := ((o4.rep good_Node).wide good_Node (by simp) (Nat.le_refl _)).keep good_Node (fun b hb1 _ => hbut4.block b (by omega))
            have hh4 : w3.heap.size ≤ (w3.setCell ⟨wr.heap.size, 0, none⟩ (.slice D3 R.length d3)).heap.size := by rw [hbut4.size]; exact Nat.le_refl _
            have hws := hu.size
            have hl4 : w2.heap.size < wr.heap.size + 1 := by omega
            obtain ⟨b8, hb8⟩ : ∃ b8, b8 = wr.heap.size := ⟨_, rfl⟩
            clear hbut4 kx gx fx
            generalize (w3.setCell ⟨wr.heap.size, 0, none⟩ (.slice D3 R.length d3)) = W4 at *
            rw [← hb8] at k8 ⊢
            clear hb8
            have gr4 : W4.cell? ⟨w.heap.size + 1, 0, none⟩ = some (.slice none 0 0) := kr4.cell 0
            have fr4 := kr4.frozen 0
            have go4 : W4.cell? ⟨w2.heap.size, 0, none⟩ = some (.slice A y.length c) := ko4.cell 0
            have fo4 := ko4.frozen 0
            have g8 : W4.cell? ⟨b8, 0, none⟩ = some (.slice D3 R.length d3) := k8.cell 0
            clear o4 o3
            go_wp2_with fail
            refine bodyPost_ret (v := .tuple #[.agg #[.slice none 0 0], .int .i64 q]) (by simp [results, Tryz.results33, go_sem, gr4]) rfl ?_
            rw [HD.out, HRES.out]
            exact ToR.rp good_Tree (zeroTree _ _ _ ((hu.trans u4).setCell (by simp) _))
        · have HRES := Lib.hid hres
          clear hres
          go_wp2_with fail
          go_region_held3 (fun W => W.cell? ⟨w2.heap.size, 0, none⟩ = some (.slice A y.length c) ∧ W.cell? ⟨g, off + j * 4, none⟩ = some (.int .i64 l[j].1) ∧ W.cell? ⟨g, off + j * 4 + 1, none⟩ = some (.string l[j].2.1) ∧ W.cell? ⟨g, off + j * 4 + 2, none⟩ = some (.slice A2 l[j].2.2.1.length c2) ∧ W.cell? ⟨g, off + j * 4 + 3, none⟩ = some (.string l[j].2.2.2))
            (first | exact up5 (Up.refl wr).drew HS0.out | exact up5 ((Up.refl wr).drew.alloc _) HS0.out | exact up5 uu3 HS0.out | exact up5 (uu3.alloc _) HS0.out | exact up5 (uu3.setCell (Nat.le_refl _) _) HS0.out)
            (first
              | (go_at_call 72
                 refine (CD.out _ (by first | exact (Up.refl wr).drew | exact (Up.refl wr).drew.alloc _)).mono ?_
                 rintro e w3 ⟨cs3, bl3, rfl, o3, nd3, u3⟩
                 obtain ⟨D3, d3, _, rfl, rfl, o4⟩ := openOTree o3
                 have uu3 : Up wr w3 := Up.trans (by first | exact (Up.refl wr).drew | exact (Up.refl wr).drew.alloc _) u3
                 first
                   | (have kx := Bk.up (Bk.new wr.drew 33 #[.slice none 0 0]) u3
                      have gx : w3.cell? ⟨wr.heap.size, 0, none⟩ = some (.slice none 0 0) := kx.cell 0
                      have fx : w3.frozen? ⟨wr.heap.size, 0, none⟩ = false := kx.frozen 0)
                   | skip))
          · have hx4 : Up w3 (w3.alloc (.cells #[.slice D3 R.length d3] 33)) := (Up.refl w3).alloc _
            have u4 : Up wr (w3.alloc (.cells #[.slice D3 R.length d3] 33)) := uu3.trans hx4
            have k8 : Bk (w3.alloc (.cells #[.slice D3 R.length d3] 33)) w3.heap.size 33 #[.slice D3 R.length d3] := Bk.new _ _ _
            have kr4 := (kr.up uu3).alloc (.cells #[.slice D3 R.length d3] 33)
            have ko4 := (ko.up uu3).alloc (.cells #[.slice D3 R.length d3] 33)
            have sr4 : SR shNode (w3.alloc (.cells #[.slice D3 R.length d3] 33)) wr.heap.size w3.heap.size D3 d3 R := ((o4.rep good_Node).wide good_Node (by simp) (Nat.le_refl _)).keep good_Node (hx4.keeps (Nat.le_refl _))
            have hh4 : w3.heap.size ≤ (w3.alloc (.cells #[.slice D3 R.length d3] 33)).heap.size := hx4.size
            have hws := hu.size
            have hl4 : w2.heap.size < wr.heap.size := hol
            obtain ⟨b8, hb8⟩ : ∃ b8, b8 = w3.heap.size := ⟨_, rfl⟩
            rw [← hb8] at k8 ⊢
            clear hb8
            generalize (w3.alloc (.cells #[.slice D3 R.length d3] 33)) = W4 at *
            have gr4 : W4.cell? ⟨w.heap.size + 1, 0, none⟩ = some (.slice none 0 0) := kr4.cell 0
            have fr4 := kr4.frozen 0
            have go4 : W4.cell? ⟨w2.heap.size, 0, none⟩ = some (.slice A y.length c) := ko4.cell 0
            have fo4 := ko4.frozen 0
            have g8 : W4.cell? ⟨b8, 0, none⟩ = some (.slice D3 R.length d3) := k8.cell 0
            clear o4 o3
            go_wp2_with fail
            have hbut5 := But.set W4 w2.heap.size 0 (.slice D3 R.length d3)
            go_roundw
            case rel =>
              refine ⟨j + 1, R, D3, d3, wr.heap.size, w3.heap.size, by omega, by go_num, by simpa using ko4.set 0 (.slice D3 R.length d3), kr4.far (by simp; omega) _, sr4.keep good_Node (fun b hb1 hb2 => hbut5.block b (by omega)), (hu.trans u4).setCell (by simp; omega) _, HPR, HRES, by omega, .inr hl4, by rw [hbut5.size]; exact hh4⟩
            case measure => simp [intOf]; omega
          · have u4 : Up wr (w3.setCell ⟨wr.heap.size, 0, none⟩ (.slice D3 R.length d3)) := uu3.setCell (Nat.le_refl _) _
            have k8 : Bk (w3.setCell ⟨wr.heap.size, 0, none⟩ (.slice D3 R.length d3)) wr.heap.size 33 #[.slice D3 R.length d3] := by simpa using kx.set 0 (.slice D3 R.length d3)
            have hkrl := kr.lt
            have kr4 := (kr.up uu3).far (p := ⟨wr.heap.size, 0, none⟩) (Nat.ne_of_lt hkrl) (.slice D3 R.length d3)
            have ko4 := (ko.up uu3).far (p := ⟨wr.heap.size, 0, none⟩) (Nat.ne_of_lt hol) (.slice D3 R.length d3)
            have hbut4 := But.set w3 wr.heap.size 0 (.slice D3 R.length d3)
            have sr4 : SR shNode (w3.setCell ⟨wr.heap.size, 0, none⟩ (.slice D3 R.length d3)) (wr.heap.size + 1) w3.heap.size D3 d3 R := ((o4.rep good_Node).wide good_Node (by simp) (Nat.le_refl _)).keep good_Node (fun b hb1 _ => hbut4.block b (by omega))
            have hh4 : w3.heap.size ≤ (w3.setCell ⟨wr.heap.size, 0, none⟩ (.slice D3 R.length d3)).heap.size := by rw [hbut4.size]; exact Nat.le_refl _
            have hws := hu.size
            have hl4 : w2.heap.size < wr.heap.size + 1 := by omega
            obtain ⟨b8, hb8⟩ : ∃ b8, b8 = wr.heap.size := ⟨_, rfl⟩
            clear hbut4 kx gx fx
            generalize (w3.setCell ⟨wr.heap.size, 0, none⟩ (.slice D3 R.length d3)) = W4 at *
            rw [← hb8] at k8 ⊢
            clear hb8
            have gr4 : W4.cell? ⟨w.heap.size + 1, 0, none⟩ = some (.slice none 0 0) := kr4.cell 0
            have fr4 := kr4.frozen 0
            have go4 : W4.cell? ⟨w2.heap.size, 0, none⟩ = some (.slice A y.length c) := ko4.cell 0
            have fo4 := ko4.frozen 0
            have g8 : W4.cell? ⟨b8, 0, none⟩ = some (.slice D3 R.length d3) := k8.cell 0
            clear o4 o3
            go_wp2_with fail
            have hbut5 := But.set W4 w2.heap.size 0 (.slice D3 R.length d3)
            go_roundw
            case rel =>
              refine ⟨j + 1, R, D3, d3, (wr.heap.size + 1), w3.heap.size, by omega, by go_num, by simpa using ko4.set 0 (.slice D3 R.length d3), kr4.far (by simp; omega) _, sr4.keep good_Node (fun b hb1 hb2 => hbut5.block b (by omega)), (hu.trans u4).setCell (by simp; omega) _, HPR, HRES, by omega, .inr hl4, by rw [hbut5.size]; exact hh4⟩
            case measure => simp [intOf]; omega
      · obtain rfl : j = l.length := by omega
        have HE : Hid (chg x l = (y, 0)) := by unfold Hid; rw [HC.out, List.drop_length]; rfl
        have gr4 := kr.cell 0
        have fr4 := kr.frozen 0
        have hws := hu.size
        go_wp2_with fail
        have hbut5 := But.set wr (w.heap.size + 1) 0 (.slice A y.length c)
        refine bodyPost_ret (v := .tuple #[.agg #[.slice A y.length c], .int .i64 0]) (by simp [results, Tryz.results33, go_sem, gr4]) rfl ?_
        rw [HD.out, HE.out]
        exact ⟨[.slice A y.length c], rfl, mkTree ((sr.keep good_Node (fun b hb1 hb2 => hbut5.block b (by omega))).wide good_Node (Nat.zero_le _) (by rw [hbut5.size]; exact hhi)), hu.setCell (by simp) _⟩
end Go.Proofs.YtehhgogmbpdpbaaGreatDoor
