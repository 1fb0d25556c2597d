/-
  A record put among others: the reference's l21Put.
-/
import Derived.Test.YtehhgogmbpdpbaaGreatDoorM1Sq
import Derived.Test.YtehhgogmbpdpbaaGreatDoorM1Rt
import Derived.Test.YtehhgogmbpdpbaaGreatDoorM1Pn
import Derived.Test.YtehhgogmbpdpbaaGreatDoorM1K
namespace Go.Proofs.YtehhgogmbpdpbaaGreatDoor
open Go.RowKit
set_option linter.unusedVariables false
set_option linter.unusedSimpArgs false

theorem cinfo_RecU : (Tryz.prog.info? 91).map (fun i => (i.zero, i.size, i.bytes)) = some (some (.agg #[.string ⟨#[]⟩, .string ⟨#[]⟩]), 2, 32) := by kernel_rfl
theorem flat_nilU (n : Nat) : (List.replicate n ([] : List Nat)).flatten = [] := by induction n <;> simp_all [List.replicate_succ]
theorem flat_Record : Flat shRecord := flat_P flat_S flat_S
/-- An owned slice with a base. -/
def PutPost (lo : Nat) (L : List TRecord) (w : World) (e : Ending) (w' : World) : Prop :=
  ∃ b D d bl, D = some b ∧ e = .returned (.slice D L.length d) ∧ SO shRecord w' lo w'.heap.size D d L bl ∧ bl.Nodup ∧ lo ≤ w'.heap.size ∧ Up w w'
theorem PutPost.mk {lo : Nat} {L : List TRecord} {w w' : World} {D : Option Addr} {d : Nat} {bl : List Nat} (hl : 0 < L.length) (so : SO shRecord w' lo w'.heap.size D d L bl) (nd : bl.Nodup) (h : lo ≤ w'.heap.size) (u : Up w w') : PutPost lo L w (.returned (.slice D L.length d)) w' := by
  obtain ⟨g, off, hD, _⟩ := (so.rep good_Record).2.2 hl
  exact ⟨_, D, d, bl, hD, rfl, so, nd, h, u⟩
theorem putRec_pos (l : List TRecord) (r : TRecord) : 0 < (putRec l r).length := by
  cases l with
  | nil => simp [putRec]
  | cons a l => unfold putRec; split <;> (try split) <;> simp
set_option maxRecDepth 100000 in
set_option maxHeartbeats 8000000 in
theorem c_l21Put (l : List TRecord) (r : TRecord) (a : Addr) (c lo : Nat) (bl : List Nat) (w : World) (so : SO shRecord w lo w.heap.size (some a) c l bl) (nd : bl.Nodup) (hlo : lo ≤ w.heap.size) (hl : l.length ≤ 1000) (hr1 : r.1.size ≤ maxLen) (hr2 : r.2.size ≤ maxLen) :
    Calls Tryz.prog 48 #[.slice (some a) l.length c, .agg #[.string r.1, .string r.2]] w (PutPost lo (putRec l r) w) := by
  obtain ⟨i0, hi0, hz0, hz1, hz2⟩ := info_parts cinfo_RecU
  have HP : Hid (∀ w' D d bl, SO shRecord w' lo w'.heap.size D d (putRec l r) bl → bl.Nodup → lo ≤ w'.heap.size → Up w w' → PutPost lo (putRec l r) w (.returned (.slice D (putRec l r).length d)) w') := Lib.hid (fun w' D d bl h1 h2 h3 h4 => PutPost.mk (putRec_pos l r) h1 h2 h3 h4)
  have HE := Lib.hid (fun (h : ∀ a ∈ l.take l.length, bytesLt a.1 r.1 = true) => putRec_end h)
  have HS := Lib.hid (fun (k : Nat) (hk : k < l.length) (h : ∀ a ∈ l.take k, bytesLt a.1 r.1 = true) (e : l[k].1 = r.1) => putRec_same hk h e)
  have HA := Lib.hid (fun (k : Nat) (hk : k < l.length) (h : ∀ a ∈ l.take k, bytesLt a.1 r.1 = true) (h2 : bytesLt l[k].1 r.1 = false) (e : ¬ l[k].1 = r.1) => putRec_at hk h h2 e)
  have HT := Lib.hid (fun (k : Nat) (hk : k < l.length) (h : ∀ a ∈ l.take k, bytesLt a.1 r.1 = true) (h2 : bytesLt l[k].1 r.1 = true) => take_lt hk h h2)
  obtain ⟨R, hR⟩ : ∃ R, R = putRec l r := ⟨_, rfl⟩
  rw [← hR] at HP HE HA HS ⊢
  clear hR
  obtain ⟨s1, s2⟩ := r
  dsimp only at hr1 hr2 HE HS HA HT ⊢
  have srl : SRW shRecord w (some a) c l := SR.wide good_Record (so.rep good_Record) (Nat.zero_le _) (Nat.le_refl _)
  have hcl := srl.1
  have hcm := srl.2.1
  have hin := so.in_ good_Record
  obtain ⟨W0, hW0⟩ : ∃ W0, W0 = w.alloc (.cells #[.string s1, .string s2] 91) := ⟨_, rfl⟩
  have u0 : Up w W0 := by rw [hW0]; exact (Up.refl _).alloc _
  have kr : Bk W0 w.heap.size 91 #[.string s1, .string s2] := by rw [hW0]; exact Bk.new _ _ _
  have zz : W0.heap.size = w.heap.size + 1 := by rw [hW0]; simp
  have SOH := Lib.hid (fun W (u : Up w W) => so.up good_Record u)
  have NDH := Lib.hid nd
  clear so nd
  go_enter Tryz.func48, Tryz.ntmps48
  go_upto_region 1 with fail
  rw [← hW0]
  clear hW0
  go_wp2_with fail
  go_loopw [5] (fun i wr => ∃ k : Nat, k ≤ l.length ∧ i = .int .i64 k ∧ Hid (∀ a ∈ l.take k, bytesLt a.1 s1 = true) ∧ Up W0 wr) (fun i _ => l.length - (intOf i).toNat)
  case atStart => exact ⟨0, Nat.zero_le _, rfl, Lib.hid (by simp), Up.refl _⟩
  case round =>
    obtain ⟨k, hk, rfl, HI, hu⟩ := hrel
    have uw := u0.trans hu
    have gr := fun t : UpT wr => cell_up t ((kr.up hu).cell 0)
    by_cases hlt : k < l.length
    · obtain ⟨g, off, hA, _, _, hc0, hc1, z1, z2, _⟩ := atRecord (srl.up good_Record uw) hlt
      injection hA with hA
      subst hA
      have gk := fun t : UpT wr => cell_up t hc0
      have d1 : decide ((k : Int) < l.length) = true := by simp; omega
      obtain ⟨⟨q1, q2⟩, hq⟩ : ∃ q, q = l[k] := ⟨_, rfl⟩
      have HA := Lib.hid (HA.out k hlt)
      have HS := Lib.hid (HS.out k hlt)
      have HT := Lib.hid (HT.out k hlt)
      rw [← hq] at hc0 hc1 gk HA HS HT
      clear hq z1 z2 hc1 hc0
      dsimp only at HA HS HT gk
      cases hb : bytesLt q1 s1
      · have hb' : Op.bytesLess q1.toList s1.toList = false := hb
        go_upto_region 2 with fail
        refine wp_region_up (by kernel_rfl) (by kernel_rfl) ?_
        repeat (go_big_quiet_step (fail))
        refine wpQuiet_nil ?_
        rintro w1' ⟨⟨w1x, u1⟩, rfl⟩
        have uw1 := uw.trans u1
        have hu1 := hu.trans u1
        have kr1 := kr.up hu1
        have gr1 := fun t : UpT w1' => cell_up t (kr1.cell 0)
        have gk1 := fun t : UpT w1' => cell_up t ((gk ⟨w1', u1⟩))
        by_cases he : q1 = s1
        · have HR := HS.out HI.out he
          go_upto_region 4 with fail
          refine wp_region_up (by kernel_rfl) (by kernel_rfl) ?_
          repeat (go_big_quiet_step (fail))
          refine wpQuiet_nil ?_
          rintro w2' ⟨⟨w2x, u2⟩, rfl⟩
          go_wp2_with fail
          go_ret
          have hh := HP.out w2' (some ⟨g, off, none⟩) c bl (by rw [HR]; exact SOH.out _ (uw1.trans u2)) NDH.out (Nat.le_trans hlo (uw1.trans u2).size) (uw1.trans u2)
          rw [HR] at hh ⊢
          exact hh
        · have HR := Lib.hid (HA.out HI.out hb he)
          have hne : (q1.toList == s1.toList) = false := by
            cases hq : (q1.toList == s1.toList)
            · rfl
            · exact absurd (lo_bytes.tri _ _ (by unfold bytesLt; rw [beq_iff_eq.1 hq]; exact lo_bytes.irr s1) (by unfold bytesLt; rw [beq_iff_eq.1 hq]; exact lo_bytes.irr s1)) he
          clear he
          go_upto_region 4 with fail
          refine wp_region_up (by kernel_rfl) (by kernel_rfl) ?_
          repeat (go_big_quiet_step (fail))
          refine wpQuiet_nil ?_
          rintro w2' ⟨⟨w2x, u2⟩, rfl⟩
          have kr2 := kr1.up u2
          have uw2 := uw1.trans u2
          obtain ⟨X1, hX1⟩ : ∃ X1, X1 = l.take k := ⟨_, rfl⟩
          obtain ⟨X2, hX2⟩ : ∃ X2, X2 = l.drop k := ⟨_, rfl⟩
          have HX1 := Lib.hid hX1
          have HX2 := Lib.hid hX2
          have HX : Hid (l.take k ++ [(s1, s2)] ++ l.drop k = X1 ++ [(s1, s2)] ++ X2) := Lib.hid (by rw [hX1, hX2])
          have hX2l : X2.length = l.length - k := by rw [hX2, List.length_drop]
          clear hX1 hX2
          have gr2 := kr2.cell 0
          have gr2b := kr2.cell 1
          have uE : Up w2' (w2'.alloc (.cells #[] 91)) := (Up.refl _).alloc _
          have hX1l : X1.length = k := by rw [HX1.out, List.length_take]; omega
          have sr1 : SRW shRecord (w2'.alloc (.cells #[] 91)) (some ⟨g, off, none⟩) c X1 := by rw [HX1.out]; exact SR.take ((srl.up good_Record uw2).up good_Record uE) (by omega)
          have hb1 : X1.length * i0.bytes ≤ 140737488355328 := by rw [hz2, hX1l]; omega
          have hb2 : (X1.length + 1) * i0.bytes ≤ 140737488355328 := by rw [hz2, hX1l]; omega
          have hb3 : ((X1 ++ [(s1, s2)]).length + X2.length) * i0.bytes ≤ 140737488355328 := by rw [hz2]; simp [hX1l]; omega
          have hm2 : X1.length + 1 ≤ maxLen := by unfold maxLen; omega
          have hm3 : (X1 ++ [(s1, s2)]).length + X2.length ≤ maxLen := by simp [hX1l]; unfold maxLen; omega
          have hXY : (X1 ++ [(s1, s2)]).length = k + 1 := by simp [hX1l]
          have hck : ¬ c = k := by omega
          go_wp2_with (first
            | (at_builtin
               refine wpList_app_new good_Record flat_Record rfl _ _ _ 91 rfl i0 _ Tryz.underlying48 hi0 hz0 hz1 (by rfl) rfl (by rw [hX1l]; rfl) sr1 hb1 ?_
               intro D1 d1' bl1 w3 so1 nd1 u3
               have hin1 : ∀ y ∈ bl1, w.heap.size + 1 ≤ y := fun y hy => by
                 have h1 := (so1.in_ good_Record y hy).1
                 have h2 := uw2.size
                 have h3 := (hu.trans (u1.trans u2)).size
                 simp at h1
                 omega
               have kr3 := (kr2.up uE).up u3
               have gr3 : w3.cell? ⟨w.heap.size, 0, none⟩ = some (.string s1) := kr3.cell 0
               have gr3b : w3.cell? ⟨w.heap.size, 1, none⟩ = some (.string s2) := kr3.cell 1
               have uw3 := (uw2.trans uE).trans u3
               have so1' := ((so1.up good_Record ((Up.refl w3).alloc (.cells #[.string s1, .string s2] 91))).wide good_Record (lo' := lo) (by have := uw2.size; simp; omega) (Nat.le_refl _))
               have kb3 := Bk.new w3 91 #[.string s1, .string s2]
               have uw4 := uw3.alloc (.cells #[.string s1, .string s2] 91)
               have ho : shRecord.own (w3.alloc (.cells #[.string s1, .string s2] 91)) lo (w3.alloc (.cells #[.string s1, .string s2] 91)).heap.size [.string s1, .string s2] (s1, s2) [] := mkORecord (x := (s1, s2)) hr1 hr2
               have nd1' : (bl1 ++ [([] : List Nat)].flatten).Nodup := by simpa using nd1)
            | (at_builtin
               refine wpList_app good_Record rfl _ _ _ _ 91 rfl i0 _ Tryz.underlying48 hi0 hz0 hz1 (by rfl) (lo := lo) (xs := X1) (ys := [(s1, s2)]) (bl := bl1) (bs := [[]]) (news := [.string s1, .string s2]) (by rw [hX1l]; rfl) rfl so1' nd1' (Src.box (t := 91) Tryz.underlying48 kb3 (by simp [Value.oneCell']) (by rw [hz1]; rfl)) (Rowed.one good_Record ho) (Nat.le_trans hlo uw4.size) hb2 hm2 ?_
               intro D2 d2 bl2 w5 hap
               obtain ⟨so2, nd2, mem2, on2⟩ := hap
               have hin2 : ∀ y ∈ bl2, w.heap.size + 1 ≤ y := fun y hy => by
                 rcases mem2 y hy with h | h
                 · exact hin1 y (by simpa using h)
                 · have := uw3.size; have := u3.size; have := uE.size; have := uw2.size; have := (hu.trans (u1.trans u2)).size; simp at h; omega
               have uw5 : Up w w5 := Up.only uw4 on2 (fun y hy => by have := hin1 y hy; omega)
               have sr3 : SRW shRecord w5 (some ⟨g, off + k * 2, none⟩) (c - k) X2 := by
                 rw [HX2.out]; exact (srl.up good_Record uw5).dropN (by omega)
               obtain ⟨news, hsrc, hrw⟩ := sr3.src (lo := lo) (hi := w5.heap.size) good_Record flat_Record (e' := 91) (tx := 48) Tryz.underlying48 (n := i0.size) hz1
               have nd2' : (bl2 ++ (List.replicate X2.length ([] : List Nat)).flatten).Nodup := by simpa [flat_nilU] using nd2)
            | (at_builtin
               refine wpList_app good_Record rfl _ _ _ _ 91 rfl i0 _ Tryz.underlying48 hi0 hz0 hz1 (by rfl) (lo := lo) (xs := X1 ++ [(s1, s2)]) (ys := X2) (bl := bl2) (bs := List.replicate X2.length []) (news := news) (by rw [hXY]; rfl) (by rw [hX2l]; rfl) so2 nd2' hsrc hrw (Nat.le_trans hlo uw5.size) hb3 hm3 ?_
               intro D3 d3 bl3 w6 hap3
               obtain ⟨so3, nd3, mem3, on3⟩ := hap3
               have uw6 : Up w w6 := Up.only uw5 on3 (fun y hy => by have := hin2 y hy; omega)))
          go_ret
          have hh := HP.out w6 D3 d3 bl3 (by rw [HR.out, HX.out]; exact so3) nd3 (Nat.le_trans hlo uw6.size) uw6
          rw [HR.out, HX.out] at hh
          rw [HR.out, HX.out]
          have key : ∀ n, n = (X1 ++ [(s1, s2)] ++ X2).length → PutPost lo (X1 ++ [(s1, s2)] ++ X2) w (.returned (.slice D3 n d3)) w6 := fun n hn => by rw [hn]; exact hh
          exact key _ (by simp [hX1l, hX2l] <;> omega)
      · have hb' : Op.bytesLess q1.toList s1.toList = true := hb
        go_upto_region 2 with fail
        refine wp_region_up (by kernel_rfl) (by kernel_rfl) ?_
        repeat (go_big_quiet_step (fail))
        refine wpQuiet_nil ?_
        rintro w1' ⟨⟨w1x, u1⟩, rfl⟩
        go_wp2_with fail
        go_roundw
        case rel => exact ⟨k + 1, by omega, by go_num, Lib.hid (HT.out HI.out hb), hu.trans u1⟩
        case measure => simp [intOf]; omega
    · obtain rfl : k = l.length := by omega
      have d1 : decide ((l.length : Int) < l.length) = false := by simp
      have HR := Lib.hid (HE.out HI.out)
      go_upto_region 2 with fail
      refine wp_region_up (by kernel_rfl) (by kernel_rfl) ?_
      repeat (go_big_quiet_step (fail))
      refine wpQuiet_nil ?_
      rintro w1' ⟨⟨w1x, u1⟩, rfl⟩
      have gr1 := fun t : UpT w1' => cell_up t ((kr.up (hu.trans u1)).cell 0)
      go_upto_region 4 with fail
      refine wp_region_up (by kernel_rfl) (by kernel_rfl) ?_
      repeat (go_big_quiet_step (fail))
      refine wpQuiet_nil ?_
      rintro w2' ⟨⟨w2x, u2⟩, rfl⟩
      have uw2 := (uw.trans u1).trans u2
      have kr2 := ((kr.up hu).up u1).up u2
      obtain ⟨X1, hX1⟩ : ∃ X1, X1 = l.take l.length := ⟨_, rfl⟩
      obtain ⟨X2, hX2⟩ : ∃ X2 : List TRecord, X2 = [] := ⟨_, rfl⟩
      have HX1 := Lib.hid hX1
      have HX : Hid (l ++ [(s1, s2)] = X1 ++ [(s1, s2)] ++ X2) := Lib.hid (by rw [hX1, hX2, List.take_length, List.append_nil])
      have hX2l : X2.length = 0 := by rw [hX2]; rfl
      have HX2 := Lib.hid hX2
      clear hX1 hX2

      have gr2 := kr2.cell 0
      have gr2b := kr2.cell 1
      have uE : Up w2' (w2'.alloc (.cells #[] 91)) := (Up.refl _).alloc _
      have hX1l : X1.length = l.length := by rw [HX1.out, List.length_take]; omega
      have sr1 : SRW shRecord (w2'.alloc (.cells #[] 91)) (some a) c X1 := by rw [HX1.out]; exact SR.take ((srl.up good_Record uw2).up good_Record uE) (by omega)
      have hb1 : X1.length * i0.bytes ≤ 140737488355328 := by rw [hz2, hX1l]; omega
      have hb2 : (X1.length + 1) * i0.bytes ≤ 140737488355328 := by rw [hz2, hX1l]; omega
      have hb3 : ((X1 ++ [(s1, s2)]).length + X2.length) * i0.bytes ≤ 140737488355328 := by rw [hz2]; simp [hX1l]; omega
      have hm2 : X1.length + 1 ≤ maxLen := by unfold maxLen; omega
      have hm3 : (X1 ++ [(s1, s2)]).length + X2.length ≤ maxLen := by simp [hX1l]; unfold maxLen; omega
      have hXY : (X1 ++ [(s1, s2)]).length = l.length + 1 := by simp [hX1l]
      by_cases hck : c = l.length
      · subst hck
        go_wp2_with (first
          | (at_builtin
             refine wpList_app_new good_Record flat_Record rfl _ _ _ 91 rfl i0 _ Tryz.underlying48 hi0 hz0 hz1 (by rfl) rfl (by rw [hX1l]; rfl) sr1 hb1 ?_
             intro D1 d1' bl1 w3 so1 nd1 u3
             have hin1 : ∀ y ∈ bl1, w.heap.size + 1 ≤ y := fun y hy => by
               have h1 := (so1.in_ good_Record y hy).1
               have h2 := uw2.size
               have h3 := (hu.trans (u1.trans u2)).size
               simp at h1
               omega
             have kr3 := (kr2.up uE).up u3
             have gr3 : w3.cell? ⟨w.heap.size, 0, none⟩ = some (.string s1) := kr3.cell 0
             have gr3b : w3.cell? ⟨w.heap.size, 1, none⟩ = some (.string s2) := kr3.cell 1
             have uw3 := (uw2.trans uE).trans u3
             have so1' := ((so1.up good_Record ((Up.refl w3).alloc (.cells #[.string s1, .string s2] 91))).wide good_Record (lo' := lo) (by have := uw2.size; simp; omega) (Nat.le_refl _))
             have kb3 := Bk.new w3 91 #[.string s1, .string s2]
             have uw4 := uw3.alloc (.cells #[.string s1, .string s2] 91)
             have ho : shRecord.own (w3.alloc (.cells #[.string s1, .string s2] 91)) lo (w3.alloc (.cells #[.string s1, .string s2] 91)).heap.size [.string s1, .string s2] (s1, s2) [] := mkORecord (x := (s1, s2)) hr1 hr2
             have nd1' : (bl1 ++ [([] : List Nat)].flatten).Nodup := by simpa using nd1)
          | (at_builtin
             refine wpList_app good_Record rfl _ _ _ _ 91 rfl i0 _ Tryz.underlying48 hi0 hz0 hz1 (by rfl) (lo := lo) (xs := X1) (ys := [(s1, s2)]) (bl := bl1) (bs := [[]]) (news := [.string s1, .string s2]) (by rw [hX1l]; rfl) rfl so1' nd1' (Src.box (t := 91) Tryz.underlying48 kb3 (by simp [Value.oneCell']) (by rw [hz1]; rfl)) (Rowed.one good_Record ho) (Nat.le_trans hlo uw4.size) hb2 hm2 ?_
             intro D2 d2 bl2 w5 hap
             obtain ⟨so2, nd2, mem2, on2⟩ := hap
             have hin2 : ∀ y ∈ bl2, w.heap.size + 1 ≤ y := fun y hy => by
               rcases mem2 y hy with h | h
               · exact hin1 y (by simpa using h)
               · have := uw3.size; have := u3.size; have := uE.size; have := uw2.size; have := (hu.trans (u1.trans u2)).size; simp at h; omega
             have uw5 : Up w w5 := Up.only uw4 on2 (fun y hy => by have := hin1 y hy; omega)
             have sr3 : SRW shRecord w5 (some a) (0) X2 := by
               rw [HX2.out]; exact SR.dropAll (Nat.zero_le _)
             obtain ⟨news, hsrc, hrw⟩ := sr3.src (lo := lo) (hi := w5.heap.size) good_Record flat_Record (e' := 91) (tx := 48) Tryz.underlying48 (n := i0.size) hz1
             have nd2' : (bl2 ++ (List.replicate X2.length ([] : List Nat)).flatten).Nodup := by simpa [flat_nilU] using nd2)
          | (at_builtin
             refine wpList_app good_Record rfl _ _ _ _ 91 rfl i0 _ Tryz.underlying48 hi0 hz0 hz1 (by rfl) (lo := lo) (xs := X1 ++ [(s1, s2)]) (ys := X2) (bl := bl2) (bs := List.replicate X2.length []) (news := news) (by rw [hXY]; rfl) (by rw [hX2l]; rfl) so2 nd2' hsrc hrw (Nat.le_trans hlo uw5.size) hb3 hm3 ?_
             intro D3 d3 bl3 w6 hap3
             obtain ⟨so3, nd3, mem3, on3⟩ := hap3
             have uw6 : Up w w6 := Up.only uw5 on3 (fun y hy => by have := hin2 y hy; omega)))
        go_ret
        have hh := HP.out w6 D3 d3 bl3 (by rw [HR.out, HX.out]; exact so3) nd3 (Nat.le_trans hlo uw6.size) uw6
        rw [HR.out, HX.out] at hh
        rw [HR.out, HX.out]
        have key : ∀ n, n = (X1 ++ [(s1, s2)] ++ X2).length → PutPost lo (X1 ++ [(s1, s2)] ++ X2) w (.returned (.slice D3 n d3)) w6 := fun n hn => by rw [hn]; exact hh
        exact key _ (by simp [hX1l, hX2l] <;> omega)
      · go_wp2_with (first
          | (at_builtin
             refine wpList_app_new good_Record flat_Record rfl _ _ _ 91 rfl i0 _ Tryz.underlying48 hi0 hz0 hz1 (by rfl) rfl (by rw [hX1l]; rfl) sr1 hb1 ?_
             intro D1 d1' bl1 w3 so1 nd1 u3
             have hin1 : ∀ y ∈ bl1, w.heap.size + 1 ≤ y := fun y hy => by
               have h1 := (so1.in_ good_Record y hy).1
               have h2 := uw2.size
               have h3 := (hu.trans (u1.trans u2)).size
               simp at h1
               omega
             have kr3 := (kr2.up uE).up u3
             have gr3 : w3.cell? ⟨w.heap.size, 0, none⟩ = some (.string s1) := kr3.cell 0
             have gr3b : w3.cell? ⟨w.heap.size, 1, none⟩ = some (.string s2) := kr3.cell 1
             have uw3 := (uw2.trans uE).trans u3
             have so1' := ((so1.up good_Record ((Up.refl w3).alloc (.cells #[.string s1, .string s2] 91))).wide good_Record (lo' := lo) (by have := uw2.size; simp; omega) (Nat.le_refl _))
             have kb3 := Bk.new w3 91 #[.string s1, .string s2]
             have uw4 := uw3.alloc (.cells #[.string s1, .string s2] 91)
             have ho : shRecord.own (w3.alloc (.cells #[.string s1, .string s2] 91)) lo (w3.alloc (.cells #[.string s1, .string s2] 91)).heap.size [.string s1, .string s2] (s1, s2) [] := mkORecord (x := (s1, s2)) hr1 hr2
             have nd1' : (bl1 ++ [([] : List Nat)].flatten).Nodup := by simpa using nd1)
          | (at_builtin
             refine wpList_app good_Record rfl _ _ _ _ 91 rfl i0 _ Tryz.underlying48 hi0 hz0 hz1 (by rfl) (lo := lo) (xs := X1) (ys := [(s1, s2)]) (bl := bl1) (bs := [[]]) (news := [.string s1, .string s2]) (by rw [hX1l]; rfl) rfl so1' nd1' (Src.box (t := 91) Tryz.underlying48 kb3 (by simp [Value.oneCell']) (by rw [hz1]; rfl)) (Rowed.one good_Record ho) (Nat.le_trans hlo uw4.size) hb2 hm2 ?_
             intro D2 d2 bl2 w5 hap
             obtain ⟨so2, nd2, mem2, on2⟩ := hap
             have hin2 : ∀ y ∈ bl2, w.heap.size + 1 ≤ y := fun y hy => by
               rcases mem2 y hy with h | h
               · exact hin1 y (by simpa using h)
               · have := uw3.size; have := u3.size; have := uE.size; have := uw2.size; have := (hu.trans (u1.trans u2)).size; simp at h; omega
             have uw5 : Up w w5 := Up.only uw4 on2 (fun y hy => by have := hin1 y hy; omega)
             have sr3 : SRW shRecord w5 (some (a.add (l.length * 2))) (c - l.length) X2 := by
               rw [HX2.out]; exact SR.dropAll (by omega)
             obtain ⟨news, hsrc, hrw⟩ := sr3.src (lo := lo) (hi := w5.heap.size) good_Record flat_Record (e' := 91) (tx := 48) Tryz.underlying48 (n := i0.size) hz1
             have nd2' : (bl2 ++ (List.replicate X2.length ([] : List Nat)).flatten).Nodup := by simpa [flat_nilU] using nd2)
          | (at_builtin
             refine wpList_app good_Record rfl _ _ _ _ 91 rfl i0 _ Tryz.underlying48 hi0 hz0 hz1 (by rfl) (lo := lo) (xs := X1 ++ [(s1, s2)]) (ys := X2) (bl := bl2) (bs := List.replicate X2.length []) (news := news) (by rw [hXY]; rfl) (by rw [hX2l]; rfl) so2 nd2' hsrc hrw (Nat.le_trans hlo uw5.size) hb3 hm3 ?_
             intro D3 d3 bl3 w6 hap3
             obtain ⟨so3, nd3, mem3, on3⟩ := hap3
             have uw6 : Up w w6 := Up.only uw5 on3 (fun y hy => by have := hin2 y hy; omega)))
        go_ret
        have hh := HP.out w6 D3 d3 bl3 (by rw [HR.out, HX.out]; exact so3) nd3 (Nat.le_trans hlo uw6.size) uw6
        rw [HR.out, HX.out] at hh
        rw [HR.out, HX.out]
        have key : ∀ n, n = (X1 ++ [(s1, s2)] ++ X2).length → PutPost lo (X1 ++ [(s1, s2)] ++ X2) w (.returned (.slice D3 n d3)) w6 := fun n hn => by rw [hn]; exact hh
        exact key _ (by simp [hX1l, hX2l] <;> omega)
end Go.Proofs.YtehhgogmbpdpbaaGreatDoor
