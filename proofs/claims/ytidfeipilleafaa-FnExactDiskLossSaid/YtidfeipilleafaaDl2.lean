/-
  DiskLoss: the reference's side.
-/
import Derived.Test.YtidfeipilleafaaDl
import Derived.Deep.RegionHeld3
namespace Go.Proofs.Ytidfeipilleafaa
open Go.RowKit
set_option linter.unusedVariables false
set_option linter.unusedSimpArgs false

theorem diskLenL {x : TDisk} (h : shDisk.sz x ≤ 1048576) : x.2.1.length ≤ 1048576 := by
  obtain ⟨x0, x1, x2⟩ := x
  have hs : shDisk.sz (x0, x1, x2) = 0 + ((x1.length + (x1.map shS.sz).sum) + (x2.length + (x2.map shPut.sz).sum)) := rfl
  dsimp only
  omega
set_option maxRecDepth 100000 in
set_option maxHeartbeats 8000000 in
theorem c_l17Loss (v : Value) (x : TDisk) (Ak : Option Addr) (ck : Nat) (ks : List Int) (torn : Int) (w : World) (h : AV shDisk w v x) (hn : shDisk.sz x ≤ 1048576) (hks : SRW shI w Ak ck ks) (ht : I64 torn) (hok : diskOk x = true) (hall : allIn ks 0 ((x.2.2.length : Int) - 1) = true) (htl : torn ≤ x.1) : Calls Try.prog 93 #[v, .slice Ak ks.length ck, .int .i64 torn] w (ToV shDisk (x.1, lossTo x.2.1 x.2.2 ks torn ks.length, []) w) := by
  obtain ⟨cs, rfl, h⟩ := h
  obtain ⟨A1, c1, A2, c2, rfl, b0, b1, b2⟩ := openDisk h
  clear h
  have hl1 : x.2.1.length ≤ 1048576 := diskLenL hn
  have hl2 := b2.len_le
  have hlk := hks.len_le
  obtain ⟨htL, htH⟩ := id ht
  obtain ⟨i1, hi1, hy0, hy1, hy2⟩ := info_parts cinfo_StringS
  have vv0 : Up w ((w.alloc (.cells #[.int .i64 x.1, .slice A1 x.2.1.length c1, .slice A2 x.2.2.length c2] 46)).alloc (.cells #[.int .i64 0, .slice none 0 0, .slice none 0 0] 46)) := ((Up.refl _).alloc _).alloc _
  have ja0 : Bk ((w.alloc (.cells #[.int .i64 x.1, .slice A1 x.2.1.length c1, .slice A2 x.2.2.length c2] 46)).alloc (.cells #[.int .i64 0, .slice none 0 0, .slice none 0 0] 46)) w.heap.size 46 #[.int .i64 x.1, .slice A1 x.2.1.length c1, .slice A2 x.2.2.length c2] := (Bk.new _ _ _).alloc _
  have jr0 : Bk ((w.alloc (.cells #[.int .i64 x.1, .slice A1 x.2.1.length c1, .slice A2 x.2.2.length c2] 46)).alloc (.cells #[.int .i64 0, .slice none 0 0, .slice none 0 0] 46)) (w.heap.size + 1) 46 #[.int .i64 0, .slice none 0 0, .slice none 0 0] := by simpa using (Bk.new (w.alloc (.cells #[.int .i64 x.1, .slice A1 x.2.1.length c1, .slice A2 x.2.2.length c2] 46)) 46 #[.int .i64 0, .slice none 0 0, .slice none 0 0])
  have jb2 : Bk ((((w.alloc (.cells #[.int .i64 x.1, .slice A1 x.2.1.length c1, .slice A2 x.2.2.length c2] 46)).alloc (.cells #[.int .i64 0, .slice none 0 0, .slice none 0 0] 46)).alloc (.cells #[.int .i64 0, .slice none 0 0, .slice none 0 0] 46)).alloc (.cells #[] 9)).drew (w.heap.size + 1 + 1) 46 #[.int .i64 0, .slice none 0 0, .slice none 0 0] := by simpa using ((Bk.new ((w.alloc (.cells #[.int .i64 x.1, .slice A1 x.2.1.length c1, .slice A2 x.2.2.length c2] 46)).alloc (.cells #[.int .i64 0, .slice none 0 0, .slice none 0 0] 46)) 46 #[.int .i64 0, .slice none 0 0, .slice none 0 0]).alloc (.cells #[] 9)).drew
  have jb3 : Bk ((((w.alloc (.cells #[.int .i64 x.1, .slice A1 x.2.1.length c1, .slice A2 x.2.2.length c2] 46)).alloc (.cells #[.int .i64 0, .slice none 0 0, .slice none 0 0] 46)).alloc (.cells #[] 9)).alloc (.cells #[.int .i64 0, .slice none 0 0, .slice none 0 0] 46)).drew (w.heap.size + 1 + 1 + 1) 46 #[.int .i64 0, .slice none 0 0, .slice none 0 0] := by simpa using (Bk.new (((w.alloc (.cells #[.int .i64 x.1, .slice A1 x.2.1.length c1, .slice A2 x.2.2.length c2] 46)).alloc (.cells #[.int .i64 0, .slice none 0 0, .slice none 0 0] 46)).alloc (.cells #[] 9)) 46 #[.int .i64 0, .slice none 0 0, .slice none 0 0]).drew
  go_enter Try.func93, Try.ntmps93
  go_wp2_with fail
  go_region_held3 (fun W => W.cell? ⟨w.heap.size, 0, none⟩ = some (.int .i64 x.1) ∧ W.cell? ⟨w.heap.size, 1, none⟩ = some (.slice A1 x.2.1.length c1) ∧ W.cell? ⟨w.heap.size, 2, none⟩ = some (.slice A2 x.2.2.length c2))
    (first | (refine cells3 (t := 46) ?_; repeat (first | with_reducible exact ja0 | with_reducible exact ka1 | with_reducible refine Bk.alloc ?_ _ | with_reducible refine Bk.drew ?_ | (with_reducible refine Bk.far ?_ (by dsimp only; omega) _))))
    (first
      | (refine step_app_new good_S flat_S rfl _ _ _ 9 rfl i1 _ Try.underlying25 hi1 hy0 hy1 (by rfl) (by rfl) (by rfl) (b1.up good_S (by repeat (first | with_reducible exact vv0 | with_reducible refine Up.alloc ?_ _ | with_reducible refine Up.drew ?_))) (by rw [hy2]; omega) ?_; intro D1 d1 bl1 w1 o1 nd1 u1
         have uu1 : Up w w1 := Up.trans (by repeat (first | with_reducible exact vv0 | with_reducible refine Up.alloc ?_ _ | with_reducible refine Up.drew ?_)) u1
         have ka1 : Bk w1 w.heap.size 46 #[.int .i64 x.1, .slice A1 x.2.1.length c1, .slice A2 x.2.2.length c2] := Bk.up (by repeat (first | with_reducible exact ja0 | with_reducible refine Bk.alloc ?_ _ | with_reducible refine Bk.drew ?_)) u1
         have kr1 : Bk w1 (w.heap.size + 1) 46 #[.int .i64 0, .slice none 0 0, .slice none 0 0] := Bk.up (by repeat (first | with_reducible exact jr0 | with_reducible refine Bk.alloc ?_ _ | with_reducible refine Bk.drew ?_)) u1
         first | ((with_reducible have kb1 := Bk.up jb2 u1); have gb0 : w1.cell? ⟨w.heap.size + 1 + 1, 0, none⟩ = some (.int .i64 0) := kb1.cell 0; have gb1 : w1.cell? ⟨w.heap.size + 1 + 1, 1, none⟩ = some (.slice none 0 0) := kb1.cell 1; have gb2 : w1.cell? ⟨w.heap.size + 1 + 1, 2, none⟩ = some (.slice none 0 0) := kb1.cell 2; have fb0 := kb1.frozen 0; have fb1 := kb1.frozen 1; have fb2 := kb1.frozen 2) | ((with_reducible have kb1 := Bk.up jb3 u1); have gb0 : w1.cell? ⟨w.heap.size + 1 + 1 + 1, 0, none⟩ = some (.int .i64 0) := kb1.cell 0; have gb1 : w1.cell? ⟨w.heap.size + 1 + 1 + 1, 1, none⟩ = some (.slice none 0 0) := kb1.cell 1; have gb2 : w1.cell? ⟨w.heap.size + 1 + 1 + 1, 2, none⟩ = some (.slice none 0 0) := kb1.cell 2; have fb0 := kb1.frozen 0; have fb1 := kb1.frozen 1; have fb2 := kb1.frozen 2) | skip))
  · have kA := ka1.alloc (.cells #[.int .i64 x.1, .slice D1 x.2.1.length d1, .slice none 0 0] 46)
    have kR := kr1.alloc (.cells #[.int .i64 x.1, .slice D1 x.2.1.length d1, .slice none 0 0] 46)
    have kB := Bk.new w1 46 #[.int .i64 x.1, .slice D1 x.2.1.length d1, .slice none 0 0]
    have uW := uu1.alloc (.cells #[.int .i64 x.1, .slice D1 x.2.1.length d1, .slice none 0 0] 46)
    have oS := (o1.wide good_S (lo' := w.heap.size + 1 + 1) (by simp) (Nat.le_refl _)).up good_S ((Up.refl w1).alloc (.cells #[.int .i64 x.1, .slice D1 x.2.1.length d1, .slice none 0 0] 46))
    have hBn : w1.heap.size ∉ bl1 := fun h => by have := (o1.in_ good_S _ h).2; omega
    have hBlo : w.heap.size + 1 < w1.heap.size := kr1.lt
    have uu := uW
    clear uW
    go_wp2_with fail
    go_loopw [8] (fun i wr => ∃ (k : Nat), k ≤ ks.length ∧ i = .int .i64 k ∧ Bk wr w.heap.size 46 #[.int .i64 x.1, .slice A1 x.2.1.length c1, .slice A2 x.2.2.length c2] ∧ Bk wr (w.heap.size + 1) 46 #[.int .i64 0, .slice none 0 0, .slice none 0 0] ∧ Bk wr (w1.heap.size) 46 #[.int .i64 x.1, .slice D1 x.2.1.length d1, .slice none 0 0] ∧ SO shS wr (w.heap.size + 1 + 1) wr.heap.size D1 d1 (lossTo x.2.1 x.2.2 ks torn k) bl1 ∧ Up w wr) (fun i _ => ks.length - (intOf i).toNat)
    case atStart => exact ⟨0, Nat.zero_le _, rfl, kA, kR, kB, oS, uu⟩
    case round =>
      clear uu oS kA kR kB
      obtain ⟨k, hk, rfl, kA, kr, kB, hs1, hu⟩ := hrel
      have hin1 := hs1.in_ good_S
      by_cases hlt : k < ks.length
      · obtain ⟨gk, offk, rfl, _, hgk, hck, _, _⟩ := (hks.up good_I hu).at_I hlt
        obtain ⟨j0, j1⟩ := allIn_at hall k hlt
        obtain ⟨j, hj⟩ : ∃ j : Nat, ks[k] = (j : Int) := ⟨ks[k].toNat, by omega⟩
        have hjl : j < x.2.2.length := by omega
        obtain ⟨g2, off2, rfl, _, hg2, hc0, hc1, q0, q1, _⟩ := atPut (b2.up good_Put hu) hjl
        obtain ⟨p0, p1⟩ := puts_in hok x.2.2[j] (List.getElem_mem hjl)
        obtain ⟨m, hm⟩ : ∃ m : Nat, x.2.2[j].1 = (m : Int) := ⟨x.2.2[j].1.toNat, by omega⟩
        have hmx : m < x.2.1.length := by omega
        have hmk : m < (lossTo x.2.1 x.2.2 ks torn k).length := by rw [lossTo_len]; exact hmx
        obtain ⟨s1, HS1⟩ : ∃ s, Hid (x.2.2[j].2 = s) := ⟨_, Lib.hid rfl⟩
        rw [HS1.out] at hc1 q1
        rw [hj] at hck
        rw [hm] at hc0
        have hj0 : (0 : Int) ≤ (j : Int) := by omega
        have hj1 : (j : Int) < (x.2.2.length : Int) := by omega
        have hm0 : (0 : Int) ≤ (m : Int) := by omega
        have hm1 : (m : Int) < (x.2.1.length : Int) := by omega
        have ca2 : wr.cell? ⟨w.heap.size, 2, none⟩ = some (.slice (some ⟨g2, off2, none⟩) x.2.2.length c2) := kA.cell 2
        have hwk : IntKind.i64.wrap ((ks.length : Int) - 1) = (ks.length : Int) - 1 := IntWalk.i64_in _ (by omega)
        obtain ⟨g, off, o, rfl, hgb, hg1, _, hg3, hgc, hgf, hset0⟩ := hs1.setS nd1 hmk
        have hBg : (w1.heap.size) ≠ g := fun e => hBn (e ▸ hgb)
        obtain ⟨g', off', hgo, _, _, hcs, _⟩ := (hs1.rep good_S).at_S hmk
        injection hgo with hgo
        injection hgo with hg' ho' _
        subst hg' ho'
        have hS0 : wr.cell? ⟨w.heap.size, 2, none⟩ = some (.slice (some ⟨g2, off2, none⟩) x.2.2.length c2) ∧ wr.cell? ⟨gk, offk + k, none⟩ = some (.int .i64 (j : Int)) ∧ wr.cell? ⟨g2, off2 + j * 2, none⟩ = some (.int .i64 (m : Int)) ∧ wr.cell? ⟨g2, off2 + j * 2 + 1, none⟩ = some (.string s1) := ⟨ca2, hck, hc0, hc1⟩
        have kP : Bk (wr.alloc (.cells #[.int .i64 (m : Int), .string s1] 142)).drew wr.heap.size 142 #[.int .i64 (m : Int), .string s1] := (Bk.new wr _ _).drew
        have uP : Up wr (wr.alloc (.cells #[.int .i64 (m : Int), .string s1] 142)).drew := ((Up.refl wr).alloc _).drew
        by_cases hq : k + 1 = ks.length ∧ 0 ≤ torn
        · clear hset0
          obtain ⟨t, rfl⟩ : ∃ t : Nat, torn = (t : Int) := ⟨torn.toNat, by omega⟩
          have hw1 : (x.2.2[j].2.size : Int) = x.1 := (disk_wide hok).2 _ (List.getElem_mem hjl)
          rw [HS1.out] at hw1
          obtain ⟨s2, HS2⟩ : ∃ s, Hid ((lossTo x.2.1 x.2.2 ks t k)[m] = s) := ⟨_, Lib.hid rfl⟩
          rw [HS2.out] at hcs
          have hw2 : ((lossTo x.2.1 x.2.2 ks t k)[m].size : Int) = x.1 := lossTo_wide hok hall htl k hk _ (List.getElem_mem hmk)
          rw [HS2.out] at hw2
          have hx := lossTo_stepT hlt hj hjl hm hmk hq.1
          rw [HS1.out, HS2.out] at hx
          have HX := Lib.hid hx
          clear hx
          have ht0 : (0 : Int) ≤ (t : Int) := by omega
          have ht1 : (t : Int) ≤ (s1.size : Int) := by omega
          have ht2 : (t : Int) ≤ (s2.size : Int) := by omega
          have HQ := Lib.hid hq.1
          have hq3 : (ks.length : Int) - 1 = (k : Int) := by have := hq.1; omega
          have hwk2 : IntKind.i64.wrap (k : Int) = (k : Int) := IntWalk.i64_in _ (by omega)
          clear hq
          have eb1 : World.cell? (wr.alloc (.cells #[.int .i64 (m : Int), .string s1] 142)).drew ⟨(w1.heap.size), 1, none⟩ = some (.slice (some ⟨g, off, none⟩) x.2.1.length d1) := (kB.up uP).cell 1
          have eb2 : World.cell? (wr.alloc (.cells #[.int .i64 (m : Int), .string s1] 142)).drew ⟨g, off + m, none⟩ = some (.string s2) := (uP.cell (p := ⟨g, off + m, none⟩) hg3).trans hcs
          go_wp2_with fail
          go_region_held3 (fun W => W.cell? ⟨w.heap.size, 2, none⟩ = some (.slice (some ⟨g2, off2, none⟩) x.2.2.length c2) ∧ W.cell? ⟨gk, offk + k, none⟩ = some (.int .i64 (j : Int)) ∧ W.cell? ⟨g2, off2 + j * 2, none⟩ = some (.int .i64 (m : Int)) ∧ W.cell? ⟨g2, off2 + j * 2 + 1, none⟩ = some (.string s1)) (first | exact cells4_up hS0 (Up.refl wr).drew | exact cells4_up hS0 ((Up.refl wr).drew.alloc _)) (first | fail)
          go_wp2_with fail
          generalize (wr.alloc (.cells #[.int .i64 (m : Int), .string s1] 142)).drew = WP at kP uP eb1 eb2 ⊢
          have ep0 : WP.cell? ⟨wr.heap.size, 0, none⟩ = some (.int .i64 (m : Int)) := kP.cell 0
          have ep1 : WP.cell? ⟨wr.heap.size, 1, none⟩ = some (.string s1) := kP.cell 1
          go_still_tail 12, (by kernel_rfl)
          change wpList _ _ _ _ _ WP.drew
          replace kP := kP.drew
          replace uP := uP.drew
          go_wp2_with (first | ((with_reducible show wpList _ _ _ ((⟨none, .store _ _ _, _, _, _, none⟩ : Oper) :: _) _ _); refine wpList_store1_bk (.string (cutB s1 s2 t)) kP rfl rfl (by kernel_rfl) rfl rfl (Nat.le_of_ble_eq_true rfl) ?_; intro W1 bt kP1; replace kP : Bk W1 wr.heap.size 142 #[.int .i64 (m : Int), .string (cutB s1 s2 t)] := kP1; clear kP1 eb1 eb2 ep0 ep1; replace uP := uP.but bt (Nat.le_refl _); clear bt; replace kA := kA.up uP; replace kr := kr.up uP; replace kB := kB.up uP; replace hs1 := hs1.up good_S uP; replace hu := hu.trans uP; obtain ⟨g', off', o2, hgo, _, _, _, _, hgc2, hgf2, hset⟩ := hs1.setS nd1 hmk; injection hgo with hgo; injection hgo with hg' ho' _; subst hg' ho'; have cb1 : World.cell? _ ⟨(w1.heap.size), 1, none⟩ = some (.slice (some ⟨g, off, none⟩) x.2.1.length d1) := kB.cell 1; have cp0 : World.cell? _ ⟨wr.heap.size, 0, none⟩ = some (.int .i64 (m : Int)) := kP.cell 0; have cp1 : World.cell? _ ⟨wr.heap.size, 1, none⟩ = some (.string (cutB s1 s2 t)) := kP.cell 1) | ((with_reducible show wpList _ _ _ ((⟨none, .store _ _ _, _, _, _, none⟩ : Oper) :: _) _ _); refine wpList_store1_cell (.string (cutB s1 s2 t)) hgc2 hgf2 rfl rfl (by kernel_rfl) rfl rfl ?_; intro W2 hW2; replace hW2 := Lib.hid hW2))
          have hWe := hW2.out
          subst hWe
          go_roundw
          case rel =>
            have hb := But.set W1 g (off + m) (.string (cutB s1 s2 t))
            have hso := hset ((cutB s1 s2 t)) (by have := cutB_size s1 s2 t (by omega) (by omega); rw [this]; exact q1)
            rw [← HX.out, ← hb.size] at hso
            exact ⟨k + 1, by omega, by go_num, kA.butM hb (by omega), kr.butM hb (by omega), kB.butM hb hBg, hso, hu.but hb (by omega)⟩
          case measure => simp [intOf]; omega
        · have hx := lossTo_step hlt hj hjl hm hmk hq
          rw [HS1.out] at hx
          have HX := Lib.hid hx
          clear hx hset0
          replace kA := kA.up uP
          replace kr := kr.up uP
          replace kB := kB.up uP
          replace hs1 := hs1.up good_S uP
          replace hu := hu.trans uP
          obtain ⟨g', off', o2, hgo, _, _, _, _, hgc2, hgf2, hset⟩ := hs1.setS nd1 hmk
          injection hgo with hgo
          injection hgo with hg' ho' _
          subst hg' ho'
          have cb1 : World.cell? _ ⟨(w1.heap.size), 1, none⟩ = some (.slice (some ⟨g, off, none⟩) x.2.1.length d1) := kB.cell 1
          have cp0 : World.cell? _ ⟨wr.heap.size, 0, none⟩ = some (.int .i64 (m : Int)) := kP.cell 0
          have cp1 : World.cell? _ ⟨wr.heap.size, 1, none⟩ = some (.string s1) := kP.cell 1
          by_cases hq1 : k + 1 = ks.length
          · have hq3 : (ks.length : Int) - 1 = (k : Int) := by omega
            have hwk2 : IntKind.i64.wrap (k : Int) = (k : Int) := IntWalk.i64_in _ (by omega)
            have hq4 : ¬ (0 : Int) ≤ torn := fun h => hq ⟨hq1, h⟩
            have HQ := Lib.hid hq1
            clear hq1 hq
            go_wp2_with fail
            go_region_held3 (fun W => W.cell? ⟨w.heap.size, 2, none⟩ = some (.slice (some ⟨g2, off2, none⟩) x.2.2.length c2) ∧ W.cell? ⟨gk, offk + k, none⟩ = some (.int .i64 (j : Int)) ∧ W.cell? ⟨g2, off2 + j * 2, none⟩ = some (.int .i64 (m : Int)) ∧ W.cell? ⟨g2, off2 + j * 2 + 1, none⟩ = some (.string s1)) (first | exact cells4_up hS0 (Up.refl wr).drew | exact cells4_up hS0 ((Up.refl wr).drew.alloc _)) (first | fail)
            go_wp2_with ((with_reducible show wpList _ _ _ ((⟨none, .store _ _ _, _, _, _, none⟩ : Oper) :: _) _ _); refine wpList_store1_cell (.string s1) hgc2 hgf2 rfl rfl (by kernel_rfl) rfl rfl ?_; intro W2 hW2; replace hW2 := Lib.hid hW2)
            have hWe := hW2.out
            subst hWe
            go_roundw
            case rel =>
              have hb := But.set (wr.alloc (.cells #[.int .i64 (m : Int), .string s1] 142)).drew g (off + m) (.string s1)
              have hso := hset (s1) (q1)
              rw [← HX.out, ← hb.size] at hso
              exact ⟨k + 1, by omega, by go_num, kA.butM hb (by omega), kr.butM hb (by omega), kB.butM hb hBg, hso, hu.but hb (by omega)⟩
            case measure => simp [intOf]; omega
          · have hq3 : ¬ (k : Int) = (ks.length : Int) - 1 := by omega
            clear hq1 hq
            go_wp2_with fail
            go_region_held3 (fun W => W.cell? ⟨w.heap.size, 2, none⟩ = some (.slice (some ⟨g2, off2, none⟩) x.2.2.length c2) ∧ W.cell? ⟨gk, offk + k, none⟩ = some (.int .i64 (j : Int)) ∧ W.cell? ⟨g2, off2 + j * 2, none⟩ = some (.int .i64 (m : Int)) ∧ W.cell? ⟨g2, off2 + j * 2 + 1, none⟩ = some (.string s1)) (first | exact cells4_up hS0 (Up.refl wr).drew | exact cells4_up hS0 ((Up.refl wr).drew.alloc _)) (first | fail)
            go_wp2_with ((with_reducible show wpList _ _ _ ((⟨none, .store _ _ _, _, _, _, none⟩ : Oper) :: _) _ _); refine wpList_store1_cell (.string s1) hgc2 hgf2 rfl rfl (by kernel_rfl) rfl rfl ?_; intro W2 hW2; replace hW2 := Lib.hid hW2)
            have hWe := hW2.out
            subst hWe
            go_roundw
            case rel =>
              have hb := But.set (wr.alloc (.cells #[.int .i64 (m : Int), .string s1] 142)).drew g (off + m) (.string s1)
              have hso := hset (s1) (q1)
              rw [← HX.out, ← hb.size] at hso
              exact ⟨k + 1, by omega, by go_num, kA.butM hb (by omega), kr.butM hb (by omega), kB.butM hb hBg, hso, hu.but hb (by omega)⟩
            case measure => simp [intOf]; omega
      · obtain rfl : k = ks.length := by omega
        go_wp2_with (first | (refine wpList_load_bk [.int .i64 x.1, .slice D1 x.2.1.length d1, .slice none 0 0] kB rfl Try.underlying46 rfl (by kernel_rfl) rfl ?_) | ((with_reducible show wpList _ _ _ ((⟨none, .store _ _ _, _, _, _, none⟩ : Oper) :: _) _ _); refine wpList_store_bk [.int .i64 x.1, .slice D1 x.2.1.length d1, .slice none 0 0] kr rfl rfl (by kernel_rfl) rfl (Nat.le_of_ble_eq_true rfl) ?_; intro Wr bt kr1; replace kr : Bk Wr (w.heap.size + 1) 46 #[.int .i64 x.1, .slice D1 x.2.1.length d1, .slice none 0 0] := kr1; clear kr1; replace hs1 := hs1.but good_S bt (by omega); replace hu := hu.but bt (by omega); clear bt))
        refine bodyPost_ret (results_bk kr _ _ Try.results93 rfl Try.underlying46 rfl (by kernel_rfl)) rfl ?_
        exact ⟨[.int .i64 x.1, .slice D1 x.2.1.length d1, .slice none 0 0], _, rfl, own_loss b0 (hs1.wide good_S (lo' := w.heap.size) (by omega) (Nat.le_refl _)), nd1, hu⟩
  · have kA := ka1.but (But.sets (g := w.heap.size + 1 + 1 + 1) [.int .i64 x.1, .slice D1 x.2.1.length d1, .slice none 0 0] w1 0) (by omega)
    have kR := kr1.but (But.sets (g := w.heap.size + 1 + 1 + 1) [.int .i64 x.1, .slice D1 x.2.1.length d1, .slice none 0 0] w1 0) (by omega)
    have kB : Bk (setCells w1 (w.heap.size + 1 + 1 + 1) 0 [.int .i64 x.1, .slice D1 x.2.1.length d1, .slice none 0 0]) (w.heap.size + 1 + 1 + 1) 46 #[.int .i64 x.1, .slice D1 x.2.1.length d1, .slice none 0 0] := Bk.sets [.int .i64 x.1, .slice D1 x.2.1.length d1, .slice none 0 0] kb1 0
    have uW := uu1.sets (g := w.heap.size + 1 + 1 + 1) (by omega) 0 [.int .i64 x.1, .slice D1 x.2.1.length d1, .slice none 0 0]
    have oS := (o1.set good_S (w.heap.size + 1 + 1 + 1) 0 [.int .i64 x.1, .slice D1 x.2.1.length d1, .slice none 0 0] (by simp)).wide good_S (lo' := w.heap.size + 1 + 1) (by simp) (Nat.le_refl _)
    have hBn : w.heap.size + 1 + 1 + 1 ∉ bl1 := fun h => by have := (o1.in_ good_S _ h).1; simp at this <;> omega
    have hBlo : w.heap.size + 1 < w.heap.size + 1 + 1 + 1 := by omega
    clear gb0 gb1 gb2 fb0 fb1 fb2
    have uu := uW
    clear uW
    go_wp2_with fail
    go_loopw [8] (fun i wr => ∃ (k : Nat), k ≤ ks.length ∧ i = .int .i64 k ∧ Bk wr w.heap.size 46 #[.int .i64 x.1, .slice A1 x.2.1.length c1, .slice A2 x.2.2.length c2] ∧ Bk wr (w.heap.size + 1) 46 #[.int .i64 0, .slice none 0 0, .slice none 0 0] ∧ Bk wr (w.heap.size + 1 + 1 + 1) 46 #[.int .i64 x.1, .slice D1 x.2.1.length d1, .slice none 0 0] ∧ SO shS wr (w.heap.size + 1 + 1) wr.heap.size D1 d1 (lossTo x.2.1 x.2.2 ks torn k) bl1 ∧ Up w wr) (fun i _ => ks.length - (intOf i).toNat)
    case atStart => exact ⟨0, Nat.zero_le _, rfl, kA, kR, kB, oS, uu⟩
    case round =>
      clear uu oS kA kR kB
      obtain ⟨k, hk, rfl, kA, kr, kB, hs1, hu⟩ := hrel
      have hin1 := hs1.in_ good_S
      by_cases hlt : k < ks.length
      · obtain ⟨gk, offk, rfl, _, hgk, hck, _, _⟩ := (hks.up good_I hu).at_I hlt
        obtain ⟨j0, j1⟩ := allIn_at hall k hlt
        obtain ⟨j, hj⟩ : ∃ j : Nat, ks[k] = (j : Int) := ⟨ks[k].toNat, by omega⟩
        have hjl : j < x.2.2.length := by omega
        obtain ⟨g2, off2, rfl, _, hg2, hc0, hc1, q0, q1, _⟩ := atPut (b2.up good_Put hu) hjl
        obtain ⟨p0, p1⟩ := puts_in hok x.2.2[j] (List.getElem_mem hjl)
        obtain ⟨m, hm⟩ : ∃ m : Nat, x.2.2[j].1 = (m : Int) := ⟨x.2.2[j].1.toNat, by omega⟩
        have hmx : m < x.2.1.length := by omega
        have hmk : m < (lossTo x.2.1 x.2.2 ks torn k).length := by rw [lossTo_len]; exact hmx
        obtain ⟨s1, HS1⟩ : ∃ s, Hid (x.2.2[j].2 = s) := ⟨_, Lib.hid rfl⟩
        rw [HS1.out] at hc1 q1
        rw [hj] at hck
        rw [hm] at hc0
        have hj0 : (0 : Int) ≤ (j : Int) := by omega
        have hj1 : (j : Int) < (x.2.2.length : Int) := by omega
        have hm0 : (0 : Int) ≤ (m : Int) := by omega
        have hm1 : (m : Int) < (x.2.1.length : Int) := by omega
        have ca2 : wr.cell? ⟨w.heap.size, 2, none⟩ = some (.slice (some ⟨g2, off2, none⟩) x.2.2.length c2) := kA.cell 2
        have hwk : IntKind.i64.wrap ((ks.length : Int) - 1) = (ks.length : Int) - 1 := IntWalk.i64_in _ (by omega)
        obtain ⟨g, off, o, rfl, hgb, hg1, _, hg3, hgc, hgf, hset0⟩ := hs1.setS nd1 hmk
        have hBg : (w.heap.size + 1 + 1 + 1) ≠ g := fun e => hBn (e ▸ hgb)
        obtain ⟨g', off', hgo, _, _, hcs, _⟩ := (hs1.rep good_S).at_S hmk
        injection hgo with hgo
        injection hgo with hg' ho' _
        subst hg' ho'
        have hS0 : wr.cell? ⟨w.heap.size, 2, none⟩ = some (.slice (some ⟨g2, off2, none⟩) x.2.2.length c2) ∧ wr.cell? ⟨gk, offk + k, none⟩ = some (.int .i64 (j : Int)) ∧ wr.cell? ⟨g2, off2 + j * 2, none⟩ = some (.int .i64 (m : Int)) ∧ wr.cell? ⟨g2, off2 + j * 2 + 1, none⟩ = some (.string s1) := ⟨ca2, hck, hc0, hc1⟩
        have kP : Bk (wr.alloc (.cells #[.int .i64 (m : Int), .string s1] 142)).drew wr.heap.size 142 #[.int .i64 (m : Int), .string s1] := (Bk.new wr _ _).drew
        have uP : Up wr (wr.alloc (.cells #[.int .i64 (m : Int), .string s1] 142)).drew := ((Up.refl wr).alloc _).drew
        by_cases hq : k + 1 = ks.length ∧ 0 ≤ torn
        · clear hset0
          obtain ⟨t, rfl⟩ : ∃ t : Nat, torn = (t : Int) := ⟨torn.toNat, by omega⟩
          have hw1 : (x.2.2[j].2.size : Int) = x.1 := (disk_wide hok).2 _ (List.getElem_mem hjl)
          rw [HS1.out] at hw1
          obtain ⟨s2, HS2⟩ : ∃ s, Hid ((lossTo x.2.1 x.2.2 ks t k)[m] = s) := ⟨_, Lib.hid rfl⟩
          rw [HS2.out] at hcs
          have hw2 : ((lossTo x.2.1 x.2.2 ks t k)[m].size : Int) = x.1 := lossTo_wide hok hall htl k hk _ (List.getElem_mem hmk)
          rw [HS2.out] at hw2
          have hx := lossTo_stepT hlt hj hjl hm hmk hq.1
          rw [HS1.out, HS2.out] at hx
          have HX := Lib.hid hx
          clear hx
          have ht0 : (0 : Int) ≤ (t : Int) := by omega
          have ht1 : (t : Int) ≤ (s1.size : Int) := by omega
          have ht2 : (t : Int) ≤ (s2.size : Int) := by omega
          have HQ := Lib.hid hq.1
          have hq3 : (ks.length : Int) - 1 = (k : Int) := by have := hq.1; omega
          have hwk2 : IntKind.i64.wrap (k : Int) = (k : Int) := IntWalk.i64_in _ (by omega)
          clear hq
          have eb1 : World.cell? (wr.alloc (.cells #[.int .i64 (m : Int), .string s1] 142)).drew ⟨(w.heap.size + 1 + 1 + 1), 1, none⟩ = some (.slice (some ⟨g, off, none⟩) x.2.1.length d1) := (kB.up uP).cell 1
          have eb2 : World.cell? (wr.alloc (.cells #[.int .i64 (m : Int), .string s1] 142)).drew ⟨g, off + m, none⟩ = some (.string s2) := (uP.cell (p := ⟨g, off + m, none⟩) hg3).trans hcs
          go_wp2_with fail
          go_region_held3 (fun W => W.cell? ⟨w.heap.size, 2, none⟩ = some (.slice (some ⟨g2, off2, none⟩) x.2.2.length c2) ∧ W.cell? ⟨gk, offk + k, none⟩ = some (.int .i64 (j : Int)) ∧ W.cell? ⟨g2, off2 + j * 2, none⟩ = some (.int .i64 (m : Int)) ∧ W.cell? ⟨g2, off2 + j * 2 + 1, none⟩ = some (.string s1)) (first | exact cells4_up hS0 (Up.refl wr).drew | exact cells4_up hS0 ((Up.refl wr).drew.alloc _)) (first | fail)
          go_wp2_with fail
          generalize (wr.alloc (.cells #[.int .i64 (m : Int), .string s1] 142)).drew = WP at kP uP eb1 eb2 ⊢
          have ep0 : WP.cell? ⟨wr.heap.size, 0, none⟩ = some (.int .i64 (m : Int)) := kP.cell 0
          have ep1 : WP.cell? ⟨wr.heap.size, 1, none⟩ = some (.string s1) := kP.cell 1
          go_still_tail 12, (by kernel_rfl)
          change wpList _ _ _ _ _ WP.drew
          replace kP := kP.drew
          replace uP := uP.drew
          go_wp2_with (first | ((with_reducible show wpList _ _ _ ((⟨none, .store _ _ _, _, _, _, none⟩ : Oper) :: _) _ _); refine wpList_store1_bk (.string (cutB s1 s2 t)) kP rfl rfl (by kernel_rfl) rfl rfl (Nat.le_of_ble_eq_true rfl) ?_; intro W1 bt kP1; replace kP : Bk W1 wr.heap.size 142 #[.int .i64 (m : Int), .string (cutB s1 s2 t)] := kP1; clear kP1 eb1 eb2 ep0 ep1; replace uP := uP.but bt (Nat.le_refl _); clear bt; replace kA := kA.up uP; replace kr := kr.up uP; replace kB := kB.up uP; replace hs1 := hs1.up good_S uP; replace hu := hu.trans uP; obtain ⟨g', off', o2, hgo, _, _, _, _, hgc2, hgf2, hset⟩ := hs1.setS nd1 hmk; injection hgo with hgo; injection hgo with hg' ho' _; subst hg' ho'; have cb1 : World.cell? _ ⟨(w.heap.size + 1 + 1 + 1), 1, none⟩ = some (.slice (some ⟨g, off, none⟩) x.2.1.length d1) := kB.cell 1; have cp0 : World.cell? _ ⟨wr.heap.size, 0, none⟩ = some (.int .i64 (m : Int)) := kP.cell 0; have cp1 : World.cell? _ ⟨wr.heap.size, 1, none⟩ = some (.string (cutB s1 s2 t)) := kP.cell 1) | ((with_reducible show wpList _ _ _ ((⟨none, .store _ _ _, _, _, _, none⟩ : Oper) :: _) _ _); refine wpList_store1_cell (.string (cutB s1 s2 t)) hgc2 hgf2 rfl rfl (by kernel_rfl) rfl rfl ?_; intro W2 hW2; replace hW2 := Lib.hid hW2))
          have hWe := hW2.out
          subst hWe
          go_roundw
          case rel =>
            have hb := But.set W1 g (off + m) (.string (cutB s1 s2 t))
            have hso := hset ((cutB s1 s2 t)) (by have := cutB_size s1 s2 t (by omega) (by omega); rw [this]; exact q1)
            rw [← HX.out, ← hb.size] at hso
            exact ⟨k + 1, by omega, by go_num, kA.butM hb (by omega), kr.butM hb (by omega), kB.butM hb hBg, hso, hu.but hb (by omega)⟩
          case measure => simp [intOf]; omega
        · have hx := lossTo_step hlt hj hjl hm hmk hq
          rw [HS1.out] at hx
          have HX := Lib.hid hx
          clear hx hset0
          replace kA := kA.up uP
          replace kr := kr.up uP
          replace kB := kB.up uP
          replace hs1 := hs1.up good_S uP
          replace hu := hu.trans uP
          obtain ⟨g', off', o2, hgo, _, _, _, _, hgc2, hgf2, hset⟩ := hs1.setS nd1 hmk
          injection hgo with hgo
          injection hgo with hg' ho' _
          subst hg' ho'
          have cb1 : World.cell? _ ⟨(w.heap.size + 1 + 1 + 1), 1, none⟩ = some (.slice (some ⟨g, off, none⟩) x.2.1.length d1) := kB.cell 1
          have cp0 : World.cell? _ ⟨wr.heap.size, 0, none⟩ = some (.int .i64 (m : Int)) := kP.cell 0
          have cp1 : World.cell? _ ⟨wr.heap.size, 1, none⟩ = some (.string s1) := kP.cell 1
          by_cases hq1 : k + 1 = ks.length
          · have hq3 : (ks.length : Int) - 1 = (k : Int) := by omega
            have hwk2 : IntKind.i64.wrap (k : Int) = (k : Int) := IntWalk.i64_in _ (by omega)
            have hq4 : ¬ (0 : Int) ≤ torn := fun h => hq ⟨hq1, h⟩
            have HQ := Lib.hid hq1
            clear hq1 hq
            go_wp2_with fail
            go_region_held3 (fun W => W.cell? ⟨w.heap.size, 2, none⟩ = some (.slice (some ⟨g2, off2, none⟩) x.2.2.length c2) ∧ W.cell? ⟨gk, offk + k, none⟩ = some (.int .i64 (j : Int)) ∧ W.cell? ⟨g2, off2 + j * 2, none⟩ = some (.int .i64 (m : Int)) ∧ W.cell? ⟨g2, off2 + j * 2 + 1, none⟩ = some (.string s1)) (first | exact cells4_up hS0 (Up.refl wr).drew | exact cells4_up hS0 ((Up.refl wr).drew.alloc _)) (first | fail)
            go_wp2_with ((with_reducible show wpList _ _ _ ((⟨none, .store _ _ _, _, _, _, none⟩ : Oper) :: _) _ _); refine wpList_store1_cell (.string s1) hgc2 hgf2 rfl rfl (by kernel_rfl) rfl rfl ?_; intro W2 hW2; replace hW2 := Lib.hid hW2)
            have hWe := hW2.out
            subst hWe
            go_roundw
            case rel =>
              have hb := But.set (wr.alloc (.cells #[.int .i64 (m : Int), .string s1] 142)).drew g (off + m) (.string s1)
              have hso := hset (s1) (q1)
              rw [← HX.out, ← hb.size] at hso
              exact ⟨k + 1, by omega, by go_num, kA.butM hb (by omega), kr.butM hb (by omega), kB.butM hb hBg, hso, hu.but hb (by omega)⟩
            case measure => simp [intOf]; omega
          · have hq3 : ¬ (k : Int) = (ks.length : Int) - 1 := by omega
            clear hq1 hq
            go_wp2_with fail
            go_region_held3 (fun W => W.cell? ⟨w.heap.size, 2, none⟩ = some (.slice (some ⟨g2, off2, none⟩) x.2.2.length c2) ∧ W.cell? ⟨gk, offk + k, none⟩ = some (.int .i64 (j : Int)) ∧ W.cell? ⟨g2, off2 + j * 2, none⟩ = some (.int .i64 (m : Int)) ∧ W.cell? ⟨g2, off2 + j * 2 + 1, none⟩ = some (.string s1)) (first | exact cells4_up hS0 (Up.refl wr).drew | exact cells4_up hS0 ((Up.refl wr).drew.alloc _)) (first | fail)
            go_wp2_with ((with_reducible show wpList _ _ _ ((⟨none, .store _ _ _, _, _, _, none⟩ : Oper) :: _) _ _); refine wpList_store1_cell (.string s1) hgc2 hgf2 rfl rfl (by kernel_rfl) rfl rfl ?_; intro W2 hW2; replace hW2 := Lib.hid hW2)
            have hWe := hW2.out
            subst hWe
            go_roundw
            case rel =>
              have hb := But.set (wr.alloc (.cells #[.int .i64 (m : Int), .string s1] 142)).drew g (off + m) (.string s1)
              have hso := hset (s1) (q1)
              rw [← HX.out, ← hb.size] at hso
              exact ⟨k + 1, by omega, by go_num, kA.butM hb (by omega), kr.butM hb (by omega), kB.butM hb hBg, hso, hu.but hb (by omega)⟩
            case measure => simp [intOf]; omega
      · obtain rfl : k = ks.length := by omega
        go_wp2_with (first | (refine wpList_load_bk [.int .i64 x.1, .slice D1 x.2.1.length d1, .slice none 0 0] kB rfl Try.underlying46 rfl (by kernel_rfl) rfl ?_) | ((with_reducible show wpList _ _ _ ((⟨none, .store _ _ _, _, _, _, none⟩ : Oper) :: _) _ _); refine wpList_store_bk [.int .i64 x.1, .slice D1 x.2.1.length d1, .slice none 0 0] kr rfl rfl (by kernel_rfl) rfl (Nat.le_of_ble_eq_true rfl) ?_; intro Wr bt kr1; replace kr : Bk Wr (w.heap.size + 1) 46 #[.int .i64 x.1, .slice D1 x.2.1.length d1, .slice none 0 0] := kr1; clear kr1; replace hs1 := hs1.but good_S bt (by omega); replace hu := hu.but bt (by omega); clear bt))
        refine bodyPost_ret (results_bk kr _ _ Try.results93 rfl Try.underlying46 rfl (by kernel_rfl)) rfl ?_
        exact ⟨[.int .i64 x.1, .slice D1 x.2.1.length d1, .slice none 0 0], _, rfl, own_loss b0 (hs1.wide good_S (lo' := w.heap.size) (by omega) (Nat.le_refl _)), nd1, hu⟩
  · have kA := ka1.but (But.sets (g := w.heap.size + 1 + 1) [.int .i64 x.1, .slice D1 x.2.1.length d1, .slice none 0 0] w1 0) (by omega)
    have kR := kr1.but (But.sets (g := w.heap.size + 1 + 1) [.int .i64 x.1, .slice D1 x.2.1.length d1, .slice none 0 0] w1 0) (by omega)
    have kB : Bk (setCells w1 (w.heap.size + 1 + 1) 0 [.int .i64 x.1, .slice D1 x.2.1.length d1, .slice none 0 0]) (w.heap.size + 1 + 1) 46 #[.int .i64 x.1, .slice D1 x.2.1.length d1, .slice none 0 0] := Bk.sets [.int .i64 x.1, .slice D1 x.2.1.length d1, .slice none 0 0] kb1 0
    have uW := uu1.sets (g := w.heap.size + 1 + 1) (by omega) 0 [.int .i64 x.1, .slice D1 x.2.1.length d1, .slice none 0 0]
    have oS := (o1.set good_S (w.heap.size + 1 + 1) 0 [.int .i64 x.1, .slice D1 x.2.1.length d1, .slice none 0 0] (by simp)).wide good_S (lo' := w.heap.size + 1 + 1) (by simp) (Nat.le_refl _)
    have hBn : w.heap.size + 1 + 1 ∉ bl1 := fun h => by have := (o1.in_ good_S _ h).1; simp at this <;> omega
    have hBlo : w.heap.size + 1 < w.heap.size + 1 + 1 := by omega
    clear gb0 gb1 gb2 fb0 fb1 fb2
    have uu := uW
    clear uW
    go_wp2_with fail
    go_loopw [8] (fun i wr => ∃ (k : Nat), k ≤ ks.length ∧ i = .int .i64 k ∧ Bk wr w.heap.size 46 #[.int .i64 x.1, .slice A1 x.2.1.length c1, .slice A2 x.2.2.length c2] ∧ Bk wr (w.heap.size + 1) 46 #[.int .i64 0, .slice none 0 0, .slice none 0 0] ∧ Bk wr (w.heap.size + 1 + 1) 46 #[.int .i64 x.1, .slice D1 x.2.1.length d1, .slice none 0 0] ∧ SO shS wr (w.heap.size + 1 + 1) wr.heap.size D1 d1 (lossTo x.2.1 x.2.2 ks torn k) bl1 ∧ Up w wr) (fun i _ => ks.length - (intOf i).toNat)
    case atStart => exact ⟨0, Nat.zero_le _, rfl, kA, kR, kB, oS, uu⟩
    case round =>
      clear uu oS kA kR kB
      obtain ⟨k, hk, rfl, kA, kr, kB, hs1, hu⟩ := hrel
      have hin1 := hs1.in_ good_S
      by_cases hlt : k < ks.length
      · obtain ⟨gk, offk, rfl, _, hgk, hck, _, _⟩ := (hks.up good_I hu).at_I hlt
        obtain ⟨j0, j1⟩ := allIn_at hall k hlt
        obtain ⟨j, hj⟩ : ∃ j : Nat, ks[k] = (j : Int) := ⟨ks[k].toNat, by omega⟩
        have hjl : j < x.2.2.length := by omega
        obtain ⟨g2, off2, rfl, _, hg2, hc0, hc1, q0, q1, _⟩ := atPut (b2.up good_Put hu) hjl
        obtain ⟨p0, p1⟩ := puts_in hok x.2.2[j] (List.getElem_mem hjl)
        obtain ⟨m, hm⟩ : ∃ m : Nat, x.2.2[j].1 = (m : Int) := ⟨x.2.2[j].1.toNat, by omega⟩
        have hmx : m < x.2.1.length := by omega
        have hmk : m < (lossTo x.2.1 x.2.2 ks torn k).length := by rw [lossTo_len]; exact hmx
        obtain ⟨s1, HS1⟩ : ∃ s, Hid (x.2.2[j].2 = s) := ⟨_, Lib.hid rfl⟩
        rw [HS1.out] at hc1 q1
        rw [hj] at hck
        rw [hm] at hc0
        have hj0 : (0 : Int) ≤ (j : Int) := by omega
        have hj1 : (j : Int) < (x.2.2.length : Int) := by omega
        have hm0 : (0 : Int) ≤ (m : Int) := by omega
        have hm1 : (m : Int) < (x.2.1.length : Int) := by omega
        have ca2 : wr.cell? ⟨w.heap.size, 2, none⟩ = some (.slice (some ⟨g2, off2, none⟩) x.2.2.length c2) := kA.cell 2
        have hwk : IntKind.i64.wrap ((ks.length : Int) - 1) = (ks.length : Int) - 1 := IntWalk.i64_in _ (by omega)
        obtain ⟨g, off, o, rfl, hgb, hg1, _, hg3, hgc, hgf, hset0⟩ := hs1.setS nd1 hmk
        have hBg : (w.heap.size + 1 + 1) ≠ g := fun e => hBn (e ▸ hgb)
        obtain ⟨g', off', hgo, _, _, hcs, _⟩ := (hs1.rep good_S).at_S hmk
        injection hgo with hgo
        injection hgo with hg' ho' _
        subst hg' ho'
        have hS0 : wr.cell? ⟨w.heap.size, 2, none⟩ = some (.slice (some ⟨g2, off2, none⟩) x.2.2.length c2) ∧ wr.cell? ⟨gk, offk + k, none⟩ = some (.int .i64 (j : Int)) ∧ wr.cell? ⟨g2, off2 + j * 2, none⟩ = some (.int .i64 (m : Int)) ∧ wr.cell? ⟨g2, off2 + j * 2 + 1, none⟩ = some (.string s1) := ⟨ca2, hck, hc0, hc1⟩
        have kP : Bk (wr.alloc (.cells #[.int .i64 (m : Int), .string s1] 142)).drew wr.heap.size 142 #[.int .i64 (m : Int), .string s1] := (Bk.new wr _ _).drew
        have uP : Up wr (wr.alloc (.cells #[.int .i64 (m : Int), .string s1] 142)).drew := ((Up.refl wr).alloc _).drew
        by_cases hq : k + 1 = ks.length ∧ 0 ≤ torn
        · clear hset0
          obtain ⟨t, rfl⟩ : ∃ t : Nat, torn = (t : Int) := ⟨torn.toNat, by omega⟩
          have hw1 : (x.2.2[j].2.size : Int) = x.1 := (disk_wide hok).2 _ (List.getElem_mem hjl)
          rw [HS1.out] at hw1
          obtain ⟨s2, HS2⟩ : ∃ s, Hid ((lossTo x.2.1 x.2.2 ks t k)[m] = s) := ⟨_, Lib.hid rfl⟩
          rw [HS2.out] at hcs
          have hw2 : ((lossTo x.2.1 x.2.2 ks t k)[m].size : Int) = x.1 := lossTo_wide hok hall htl k hk _ (List.getElem_mem hmk)
          rw [HS2.out] at hw2
          have hx := lossTo_stepT hlt hj hjl hm hmk hq.1
          rw [HS1.out, HS2.out] at hx
          have HX := Lib.hid hx
          clear hx
          have ht0 : (0 : Int) ≤ (t : Int) := by omega
          have ht1 : (t : Int) ≤ (s1.size : Int) := by omega
          have ht2 : (t : Int) ≤ (s2.size : Int) := by omega
          have HQ := Lib.hid hq.1
          have hq3 : (ks.length : Int) - 1 = (k : Int) := by have := hq.1; omega
          have hwk2 : IntKind.i64.wrap (k : Int) = (k : Int) := IntWalk.i64_in _ (by omega)
          clear hq
          have eb1 : World.cell? (wr.alloc (.cells #[.int .i64 (m : Int), .string s1] 142)).drew ⟨(w.heap.size + 1 + 1), 1, none⟩ = some (.slice (some ⟨g, off, none⟩) x.2.1.length d1) := (kB.up uP).cell 1
          have eb2 : World.cell? (wr.alloc (.cells #[.int .i64 (m : Int), .string s1] 142)).drew ⟨g, off + m, none⟩ = some (.string s2) := (uP.cell (p := ⟨g, off + m, none⟩) hg3).trans hcs
          go_wp2_with fail
          go_region_held3 (fun W => W.cell? ⟨w.heap.size, 2, none⟩ = some (.slice (some ⟨g2, off2, none⟩) x.2.2.length c2) ∧ W.cell? ⟨gk, offk + k, none⟩ = some (.int .i64 (j : Int)) ∧ W.cell? ⟨g2, off2 + j * 2, none⟩ = some (.int .i64 (m : Int)) ∧ W.cell? ⟨g2, off2 + j * 2 + 1, none⟩ = some (.string s1)) (first | exact cells4_up hS0 (Up.refl wr).drew | exact cells4_up hS0 ((Up.refl wr).drew.alloc _)) (first | fail)
          go_wp2_with fail
          generalize (wr.alloc (.cells #[.int .i64 (m : Int), .string s1] 142)).drew = WP at kP uP eb1 eb2 ⊢
          have ep0 : WP.cell? ⟨wr.heap.size, 0, none⟩ = some (.int .i64 (m : Int)) := kP.cell 0
          have ep1 : WP.cell? ⟨wr.heap.size, 1, none⟩ = some (.string s1) := kP.cell 1
          go_still_tail 12, (by kernel_rfl)
          change wpList _ _ _ _ _ WP.drew
          replace kP := kP.drew
          replace uP := uP.drew
          go_wp2_with (first | ((with_reducible show wpList _ _ _ ((⟨none, .store _ _ _, _, _, _, none⟩ : Oper) :: _) _ _); refine wpList_store1_bk (.string (cutB s1 s2 t)) kP rfl rfl (by kernel_rfl) rfl rfl (Nat.le_of_ble_eq_true rfl) ?_; intro W1 bt kP1; replace kP : Bk W1 wr.heap.size 142 #[.int .i64 (m : Int), .string (cutB s1 s2 t)] := kP1; clear kP1 eb1 eb2 ep0 ep1; replace uP := uP.but bt (Nat.le_refl _); clear bt; replace kA := kA.up uP; replace kr := kr.up uP; replace kB := kB.up uP; replace hs1 := hs1.up good_S uP; replace hu := hu.trans uP; obtain ⟨g', off', o2, hgo, _, _, _, _, hgc2, hgf2, hset⟩ := hs1.setS nd1 hmk; injection hgo with hgo; injection hgo with hg' ho' _; subst hg' ho'; have cb1 : World.cell? _ ⟨(w.heap.size + 1 + 1), 1, none⟩ = some (.slice (some ⟨g, off, none⟩) x.2.1.length d1) := kB.cell 1; have cp0 : World.cell? _ ⟨wr.heap.size, 0, none⟩ = some (.int .i64 (m : Int)) := kP.cell 0; have cp1 : World.cell? _ ⟨wr.heap.size, 1, none⟩ = some (.string (cutB s1 s2 t)) := kP.cell 1) | ((with_reducible show wpList _ _ _ ((⟨none, .store _ _ _, _, _, _, none⟩ : Oper) :: _) _ _); refine wpList_store1_cell (.string (cutB s1 s2 t)) hgc2 hgf2 rfl rfl (by kernel_rfl) rfl rfl ?_; intro W2 hW2; replace hW2 := Lib.hid hW2))
          have hWe := hW2.out
          subst hWe
          go_roundw
          case rel =>
            have hb := But.set W1 g (off + m) (.string (cutB s1 s2 t))
            have hso := hset ((cutB s1 s2 t)) (by have := cutB_size s1 s2 t (by omega) (by omega); rw [this]; exact q1)
            rw [← HX.out, ← hb.size] at hso
            exact ⟨k + 1, by omega, by go_num, kA.butM hb (by omega), kr.butM hb (by omega), kB.butM hb hBg, hso, hu.but hb (by omega)⟩
          case measure => simp [intOf]; omega
        · have hx := lossTo_step hlt hj hjl hm hmk hq
          rw [HS1.out] at hx
          have HX := Lib.hid hx
          clear hx hset0
          replace kA := kA.up uP
          replace kr := kr.up uP
          replace kB := kB.up uP
          replace hs1 := hs1.up good_S uP
          replace hu := hu.trans uP
          obtain ⟨g', off', o2, hgo, _, _, _, _, hgc2, hgf2, hset⟩ := hs1.setS nd1 hmk
          injection hgo with hgo
          injection hgo with hg' ho' _
          subst hg' ho'
          have cb1 : World.cell? _ ⟨(w.heap.size + 1 + 1), 1, none⟩ = some (.slice (some ⟨g, off, none⟩) x.2.1.length d1) := kB.cell 1
          have cp0 : World.cell? _ ⟨wr.heap.size, 0, none⟩ = some (.int .i64 (m : Int)) := kP.cell 0
          have cp1 : World.cell? _ ⟨wr.heap.size, 1, none⟩ = some (.string s1) := kP.cell 1
          by_cases hq1 : k + 1 = ks.length
          · have hq3 : (ks.length : Int) - 1 = (k : Int) := by omega
            have hwk2 : IntKind.i64.wrap (k : Int) = (k : Int) := IntWalk.i64_in _ (by omega)
            have hq4 : ¬ (0 : Int) ≤ torn := fun h => hq ⟨hq1, h⟩
            have HQ := Lib.hid hq1
            clear hq1 hq
            go_wp2_with fail
            go_region_held3 (fun W => W.cell? ⟨w.heap.size, 2, none⟩ = some (.slice (some ⟨g2, off2, none⟩) x.2.2.length c2) ∧ W.cell? ⟨gk, offk + k, none⟩ = some (.int .i64 (j : Int)) ∧ W.cell? ⟨g2, off2 + j * 2, none⟩ = some (.int .i64 (m : Int)) ∧ W.cell? ⟨g2, off2 + j * 2 + 1, none⟩ = some (.string s1)) (first | exact cells4_up hS0 (Up.refl wr).drew | exact cells4_up hS0 ((Up.refl wr).drew.alloc _)) (first | fail)
            go_wp2_with ((with_reducible show wpList _ _ _ ((⟨none, .store _ _ _, _, _, _, none⟩ : Oper) :: _) _ _); refine wpList_store1_cell (.string s1) hgc2 hgf2 rfl rfl (by kernel_rfl) rfl rfl ?_; intro W2 hW2; replace hW2 := Lib.hid hW2)
            have hWe := hW2.out
            subst hWe
            go_roundw
            case rel =>
              have hb := But.set (wr.alloc (.cells #[.int .i64 (m : Int), .string s1] 142)).drew g (off + m) (.string s1)
              have hso := hset (s1) (q1)
              rw [← HX.out, ← hb.size] at hso
              exact ⟨k + 1, by omega, by go_num, kA.butM hb (by omega), kr.butM hb (by omega), kB.butM hb hBg, hso, hu.but hb (by omega)⟩
            case measure => simp [intOf]; omega
          · have hq3 : ¬ (k : Int) = (ks.length : Int) - 1 := by omega
            clear hq1 hq
            go_wp2_with fail
            go_region_held3 (fun W => W.cell? ⟨w.heap.size, 2, none⟩ = some (.slice (some ⟨g2, off2, none⟩) x.2.2.length c2) ∧ W.cell? ⟨gk, offk + k, none⟩ = some (.int .i64 (j : Int)) ∧ W.cell? ⟨g2, off2 + j * 2, none⟩ = some (.int .i64 (m : Int)) ∧ W.cell? ⟨g2, off2 + j * 2 + 1, none⟩ = some (.string s1)) (first | exact cells4_up hS0 (Up.refl wr).drew | exact cells4_up hS0 ((Up.refl wr).drew.alloc _)) (first | fail)
            go_wp2_with ((with_reducible show wpList _ _ _ ((⟨none, .store _ _ _, _, _, _, none⟩ : Oper) :: _) _ _); refine wpList_store1_cell (.string s1) hgc2 hgf2 rfl rfl (by kernel_rfl) rfl rfl ?_; intro W2 hW2; replace hW2 := Lib.hid hW2)
            have hWe := hW2.out
            subst hWe
            go_roundw
            case rel =>
              have hb := But.set (wr.alloc (.cells #[.int .i64 (m : Int), .string s1] 142)).drew g (off + m) (.string s1)
              have hso := hset (s1) (q1)
              rw [← HX.out, ← hb.size] at hso
              exact ⟨k + 1, by omega, by go_num, kA.butM hb (by omega), kr.butM hb (by omega), kB.butM hb hBg, hso, hu.but hb (by omega)⟩
            case measure => simp [intOf]; omega
      · obtain rfl : k = ks.length := by omega
        go_wp2_with (first | (refine wpList_load_bk [.int .i64 x.1, .slice D1 x.2.1.length d1, .slice none 0 0] kB rfl Try.underlying46 rfl (by kernel_rfl) rfl ?_) | ((with_reducible show wpList _ _ _ ((⟨none, .store _ _ _, _, _, _, none⟩ : Oper) :: _) _ _); refine wpList_store_bk [.int .i64 x.1, .slice D1 x.2.1.length d1, .slice none 0 0] kr rfl rfl (by kernel_rfl) rfl (Nat.le_of_ble_eq_true rfl) ?_; intro Wr bt kr1; replace kr : Bk Wr (w.heap.size + 1) 46 #[.int .i64 x.1, .slice D1 x.2.1.length d1, .slice none 0 0] := kr1; clear kr1; replace hs1 := hs1.but good_S bt (by omega); replace hu := hu.but bt (by omega); clear bt))
        refine bodyPost_ret (results_bk kr _ _ Try.results93 rfl Try.underlying46 rfl (by kernel_rfl)) rfl ?_
        exact ⟨[.int .i64 x.1, .slice D1 x.2.1.length d1, .slice none 0 0], _, rfl, own_loss b0 (hs1.wide good_S (lo' := w.heap.size) (by omega) (Nat.le_refl _)), nd1, hu⟩
set_option maxRecDepth 100000 in
set_option maxHeartbeats 8000000 in
theorem cs0_DiskLoss (v : Value) (x : TDisk) (Ak : Option Addr) (ck : Nat) (ks : List Int) (torn : Int) (w : World) (h : AV shDisk w v x) (hn : shDisk.sz x ≤ 1048576) (hks : SRW shI w Ak ck ks) (hkn : (shL shI).sz ks ≤ 1048576) (ht : I64 torn) : Calls Try.prog 36 #[v, .slice Ak ks.length ck, .int .i64 torn] w (ToR shDisk (diskLoss x ks torn) (diskLossC x ks torn) w) := by
  have hv := h
  obtain ⟨cs, rfl, h⟩ := h
  obtain ⟨A1, c1, A2, c2, rfl, b0, b1, b2⟩ := openDisk h
  clear h
  have hl2 := b2.len_le
  have hlk := hks.len_le
  obtain ⟨b0l, b0h⟩ := id b0
  obtain ⟨htL, htH⟩ := id ht
  have uu : Up w ((w.alloc (.cells #[.int .i64 x.1, .slice A1 x.2.1.length c1, .slice A2 x.2.2.length c2] 46)).alloc (.cells #[.int .i64 0, .slice none 0 0, .slice none 0 0] 46)) := ((Up.refl _).alloc _).alloc _
  have kA : Bk ((w.alloc (.cells #[.int .i64 x.1, .slice A1 x.2.1.length c1, .slice A2 x.2.2.length c2] 46)).alloc (.cells #[.int .i64 0, .slice none 0 0, .slice none 0 0] 46)) w.heap.size 46 #[.int .i64 x.1, .slice A1 x.2.1.length c1, .slice A2 x.2.2.length c2] := (Bk.new _ _ _).alloc _
  have kr : Bk ((w.alloc (.cells #[.int .i64 x.1, .slice A1 x.2.1.length c1, .slice A2 x.2.2.length c2] 46)).alloc (.cells #[.int .i64 0, .slice none 0 0, .slice none 0 0] 46)) (w.heap.size + 1) 46 #[.int .i64 0, .slice none 0 0, .slice none 0 0] := by simpa using Bk.new (w.alloc (.cells #[.int .i64 x.1, .slice A1 x.2.1.length c1, .slice A2 x.2.2.length c2] 46)) 46 #[.int .i64 0, .slice none 0 0, .slice none 0 0]
  have zz : w.heap.size + 1 + 1 ≤ ((w.alloc (.cells #[.int .i64 x.1, .slice A1 x.2.1.length c1, .slice A2 x.2.2.length c2] 46)).alloc (.cells #[.int .i64 0, .slice none 0 0, .slice none 0 0] 46)).heap.size := by simp
  go_enter Try.func36, Try.ntmps36
  go_wp2_with (refine wpList_load_bk [.int .i64 x.1, .slice A1 x.2.1.length c1, .slice A2 x.2.2.length c2] kA rfl Try.underlying46 rfl (by kernel_rfl) rfl ?_)
  refine (cs_DiskOk _ x _ (hv.up good_Disk uu) hn).mono ?_
  rintro e w1 ⟨rfl, u⟩
  replace zz := Nat.le_trans zz u.size
  replace uu := uu.trans u
  replace kA := kA.up u
  replace kr := kr.up u
  clear u
  cases hok : diskOk x
  · have hd : Hid (diskLoss x ks torn = (0, [], [])) := by unfold Hid; simp [diskLoss, lossOk, hok]
    have hc : Hid (diskLossC x ks torn = 1) := by unfold Hid; simp [diskLossC, lossOk, hok]
    go_wp2_with (first | ((with_reducible show wpList _ _ _ ((⟨none, .store _ _ _, _, _, _, none⟩ : Oper) :: _) _ _); refine wpList_store_bk [.int .i64 0, .slice none 0 0, .slice none 0 0] kr rfl rfl (by kernel_rfl) rfl (Nat.le_of_ble_eq_true rfl) ?_; intro Wr bt kr1; replace kr : Bk Wr (w.heap.size + 1) 46 #[.int .i64 0, .slice none 0 0, .slice none 0 0] := kr1; clear kr1; replace uu := uu.but bt (by omega); clear bt))
    refine bodyPost_ret (results_bk2 kr _ _ _ Try.results36 rfl rfl Try.underlying46 rfl (by kernel_rfl)) rfl ?_
    exact toR_of hd hc (zeroR _ _ _ uu)
  · have ga2 : w1.cell? ⟨w.heap.size, 2, none⟩ = some (.slice A2 x.2.2.length c2) := kA.cell 2
    have hwl : IntKind.i64.wrap ((x.2.2.length : Int) - 1) = (x.2.2.length : Int) - 1 := IntWalk.i64_in _ (by omega)
    go_wp2_with fail
    refine (c_l00Rises ks Ak ck _ _ _ (hks.up good_I uu)).mono ?_
    rintro e w2 ⟨rfl, u⟩
    clear ga2
    replace zz := Nat.le_trans zz u.size
    replace uu := uu.trans u
    replace kA := kA.up u
    replace kr := kr.up u
    clear u
    cases qr : (risB ks && allIn ks 0 ((x.2.2.length : Int) - 1))
    · have hd : Hid (diskLoss x ks torn = (0, [], [])) := by unfold Hid; simp [diskLoss, lossOk, hok, qr]
      have hc : Hid (diskLossC x ks torn = 2) := by unfold Hid; simp [diskLossC, lossOk, hok, qr]
      go_wp2_with (first | (go_at_call 92; refine (in_any _ _ _ _).mono ?_; rintro e w' ⟨rfl, rfl⟩) | ((with_reducible show wpList _ _ _ ((⟨none, .store _ _ _, _, _, _, none⟩ : Oper) :: _) _ _); refine wpList_store_bk [.int .i64 0, .slice none 0 0, .slice none 0 0] kr rfl rfl (by kernel_rfl) rfl (Nat.le_of_ble_eq_true rfl) ?_; intro Wr bt kr1; replace kr : Bk Wr (w.heap.size + 1) 46 #[.int .i64 0, .slice none 0 0, .slice none 0 0] := kr1; clear kr1; replace uu := uu.but bt (by omega); clear bt))
      refine bodyPost_ret (results_bk2 kr _ _ _ Try.results36 rfl rfl Try.underlying46 rfl (by kernel_rfl)) rfl ?_
      exact toR_of hd hc (zeroR _ _ _ uu)
    · have hall : allIn ks 0 ((x.2.2.length : Int) - 1) = true := by simp at qr; exact qr.2
      have ga0 : w2.cell? ⟨w.heap.size, 0, none⟩ = some (.int .i64 x.1) := kA.cell 0
      cases hw : inB torn (-1) x.1
      · have hd : Hid (diskLoss x ks torn = (0, [], [])) := by unfold Hid; simp [diskLoss, lossOk, hok, qr, hw]
        have hc : Hid (diskLossC x ks torn = 2) := by unfold Hid; simp [diskLossC, lossOk, hok, qr, hw]
        go_wp2_with (first | (go_at_call 92; refine (in_any _ _ _ _).mono ?_; rintro e w' ⟨rfl, rfl⟩) | ((with_reducible show wpList _ _ _ ((⟨none, .store _ _ _, _, _, _, none⟩ : Oper) :: _) _ _); refine wpList_store_bk [.int .i64 0, .slice none 0 0, .slice none 0 0] kr rfl rfl (by kernel_rfl) rfl (Nat.le_of_ble_eq_true rfl) ?_; intro Wr bt kr1; replace kr : Bk Wr (w.heap.size + 1) 46 #[.int .i64 0, .slice none 0 0, .slice none 0 0] := kr1; clear kr1; replace uu := uu.but bt (by omega); clear bt))
        refine bodyPost_ret (results_bk2 kr _ _ _ Try.results36 rfl rfl Try.underlying46 rfl (by kernel_rfl)) rfl ?_
        exact toR_of hd hc (zeroR _ _ _ uu)
      · have htl : torn ≤ x.1 := (inB_t.1 hw).2
        have hd : Hid (diskLoss x ks torn = (x.1, lossTo x.2.1 x.2.2 ks torn ks.length, [])) := by unfold Hid; simp [diskLoss, lossOk, hok, qr, hw]
        have hc : Hid (diskLossC x ks torn = 0) := by unfold Hid; simp [diskLossC, lossOk, hok, qr, hw]
        go_wp2_with (first | (go_at_call 92; refine (in_any _ _ _ _).mono ?_; rintro e w' ⟨rfl, rfl⟩) | (refine wpList_load_bk [.int .i64 x.1, .slice A1 x.2.1.length c1, .slice A2 x.2.2.length c2] kA rfl Try.underlying46 rfl (by kernel_rfl) rfl ?_))
        refine (c_l17Loss _ x Ak ck ks torn _ (hv.up good_Disk uu) hn (hks.up good_I uu) ht hok hall htl).mono ?_
        rintro e w3 ⟨cs3, bl, rfl, so, nd, u⟩
        clear ga0
        obtain ⟨D1, d1, _, D2, d2, _, rfl, _, _⟩ := openODisk so
        replace so := good_Disk.own_wide so zz (Nat.le_refl _)
        replace zz := Nat.le_trans zz u.size
        replace uu := uu.trans u
        replace kA := kA.up u
        replace kr := kr.up u
        clear u
        go_wp2_with ((with_reducible show wpList _ _ _ ((⟨none, .store _ _ _, _, _, _, none⟩ : Oper) :: _) _ _); refine wpList_store_bk [.int .i64 x.1, .slice D1 (lossTo x.2.1 x.2.2 ks torn ks.length).length d1, .slice D2 ([] : List TPut).length d2] kr rfl rfl (by kernel_rfl) rfl (Nat.le_of_ble_eq_true rfl) ?_; intro Wr bt kr1; replace kr : Bk Wr (w.heap.size + 1) 46 #[.int .i64 x.1, .slice D1 (lossTo x.2.1 x.2.2 ks torn ks.length).length d1, .slice D2 ([] : List TPut).length d2] := kr1; clear kr1; replace so := own_but good_Disk so bt (by omega); replace uu := uu.but bt (by omega); clear bt)
        refine bodyPost_ret (results_bk2 kr _ _ _ Try.results36 rfl rfl Try.underlying46 rfl (by kernel_rfl)) rfl ?_
        rw [hd.out, hc.out]
        exact ⟨_, _, rfl, good_Disk.own_wide so (by omega) (Nat.le_refl _), nd, uu⟩
theorem cs_DiskLoss (v : Value) (x : TDisk) (Ak : Option Addr) (ck : Nat) (ks : List Int) (torn : Int) (w : World) (h : AV shDisk w v x) (hn : shDisk.sz x ≤ 1048576) (hks : SRW shI w Ak ck ks) (hkn : (shL shI).sz ks ≤ 1048576) (ht : I64 torn) : Calls Try.prog 36 #[v, .slice Ak ks.length ck, .int .i64 torn] w (RpR shDisk (diskLoss x ks torn) (diskLossC x ks torn) w) := (cs0_DiskLoss v x Ak ck ks torn w h hn hks hkn ht).mono fun _ _ h => h.rp good_Disk
theorem szI_len (xs : List Int) : (shL shI).sz xs = xs.length := by
  show xs.length + (xs.map (fun _ => 0)).sum = _
  rw [sum_const]
  omega
theorem cnt_Int64S (x : List Int) (hn : (shL shI).sz x ≤ 1048576) : (mkL mkI).cnt x ≤ 1048576 := by
  rw [szI_len] at hn
  show (x.map (fun _ => 1)).sum ≤ _
  rw [sum_const]
  omega
theorem cbg_DiskLoss (x : TDisk) (hn : shDisk.sz x ≤ 1048576) (ks : List Int) (hk : (shL shI).sz ks ≤ 1048576) (torn : Int) : (1 : Int) + (mmTDisk.cnt (diskLoss x ks torn) : Nat) ≤ 1000000000 := by
  have hl := diskLenL hn
  rw [cntDisk_eq]
  unfold diskLoss
  split
  · dsimp only
    rw [lossTo_len]
    simp only [List.length_nil]
    omega
  · decide
end Go.Proofs.Ytidfeipilleafaa
