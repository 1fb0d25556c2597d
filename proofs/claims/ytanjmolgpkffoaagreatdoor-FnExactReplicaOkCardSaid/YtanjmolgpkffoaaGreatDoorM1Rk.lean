/-
  ReplicaOk: both sides' contracts.
-/
import Derived.Test.YtanjmolgpkffoaaGreatDoorM1Pk
import Derived.Test.YtanjmolgpkffoaaGreatDoorM1F
import Derived.BigQuiet
import Derived.Deep.QuietTactic
namespace Go.Proofs.YtanjmolgpkffoaaGreatDoor
open Go.RowKit
set_option linter.unusedVariables false
set_option linter.unusedSimpArgs false

def ReplicaP (x : TReplica) : Prop := treeB x.1 = true ∧ inB x.2.1 0 2000000000 = true ∧ x.2.2.length ≤ 8 ∧ ∀ i (h : i < x.2.2.length), parcelB x.2.2[i] = true ∧ x.2.1 + 1 < x.2.2[i].1 ∧ (0 < i → x.2.2[i - 1].1 < x.2.2[i].1)
instance (x : TReplica) : Decidable (ReplicaP x) := by unfold ReplicaP; infer_instance
def replicaB (x : TReplica) : Bool := decide (ReplicaP x)
theorem replicaB_t {x : TReplica} (h : ReplicaP x) : replicaB x = true := decide_eq_true h
theorem replicaB_f {x : TReplica} (h : ¬ ReplicaP x) : replicaB x = false := decide_eq_false h
def lastN (x1 : Int) (x2 : List TParcel) (k : Nat) : Int := if h : 0 < k ∧ k ≤ x2.length then (x2[k - 1]'(by omega)).1 else x1 + 1
set_option maxRecDepth 100000 in
set_option maxHeartbeats 8000000 in
theorem ci_ReplicaOk (v : Value) (x : TReplica) (w : World) (h : AV shReplica w v x) (hn : shReplica.sz x ≤ 1048576) (htab : Tab w) :
    Calls Tryz.prog 32 #[v] w (RetV (.bool (replicaB x)) w) := by
  obtain ⟨cs, rfl, h⟩ := h
  obtain ⟨A0, c0, A2, c2, rfl, b0, b1, b2⟩ := openReplica h
  obtain ⟨x0, x1, x2⟩ := x
  simp only at b0 b1 b2
  clear h
  have hn' : shReplica.sz (x0, x1, x2) = shTree.sz x0 + (0 + (shL shParcel).sz x2) := rfl
  have hn0 : shTree.sz x0 ≤ 1048576 := by omega
  have hn2 : (shL shParcel).sz x2 ≤ 1048576 := by omega
  clear hn hn'
  have hlen := b2.len_le
  have kT0 := Bk.new w 61 #[.slice A0 x0.length c0, .int .i64 x1, .slice A2 x2.length c2]
  have uu0 : Up w (w.alloc (.cells #[.slice A0 x0.length c0, .int .i64 x1, .slice A2 x2.length c2] 61)) := (Up.refl w).alloc _
  have ct := fun W (hW : Up w W) => c_implTreeOk (.agg #[.slice A0 x0.length c0]) x0 W (AV.up good_Tree ⟨_, rfl, mkTree b0⟩ hW) hn0 (tab_up htab hW)
  cases ht : treeB x0
  · have HE := Lib.hid (replicaB_f (x := (x0, x1, x2)) fun hh => by have := hh.1; simp only at this; rw [ht] at this; cases this)
    rw [ht] at ct
    have CT := Lib.hid ct
    clear ct ht
    go_enter Tryz.func32, Tryz.ntmps32
    go_wp2_with fail
    refine (CT.out _ uu0).mono ?_
    rintro e w1 ⟨rfl, u1⟩
    go_wp2_with fail
    go_ret
    exact ⟨by rw [HE.out]; first | done | rfl, uu0.trans u1⟩
  rw [ht] at ct
  have CT := Lib.hid ct
  clear ct
  cases hc : inB x1 0 2000000000
  · have HE := Lib.hid (replicaB_f (x := (x0, x1, x2)) fun hh => by have := hh.2.1; simp only at this; rw [hc] at this; cases this)
    clear ht
    go_enter Tryz.func32, Tryz.ntmps32
    go_wp2_with fail
    refine (CT.out _ uu0).mono ?_
    rintro e w1 ⟨rfl, u1⟩
    have g1 : w1.cell? ⟨w.heap.size, 1, none⟩ = some (.int .i64 x1) := (kT0.up u1).cell 1
    go_wp2_with fail
    refine (within_any _ _ _ _).mono ?_
    rintro e w' ⟨rfl, rfl⟩
    rw [hc]
    go_wp2_with fail
    go_ret
    exact ⟨by rw [HE.out]; first | done | rfl, uu0.trans u1⟩
  have hcb := inB_t.1 hc
  have HH := Lib.hid (show treeB x0 = true ∧ inB x1 0 2000000000 = true from ⟨ht, hc⟩)
  clear ht
  by_cases h8 : x2.length ≤ 8
  · go_enter Tryz.func32, Tryz.ntmps32
    go_wp2_with fail
    refine (CT.out _ uu0).mono ?_
    rintro e w1 ⟨rfl, u1⟩
    have kT1 := kT0.up u1
    have uu1 := uu0.trans u1
    have g1 : w1.cell? ⟨w.heap.size, 1, none⟩ = some (.int .i64 x1) := kT1.cell 1
    have g2 : w1.cell? ⟨w.heap.size, 2, none⟩ = some (.slice A2 x2.length c2) := kT1.cell 2
    go_wp2_with fail
    refine (within_any _ _ _ _).mono ?_
    rintro e w' ⟨rfl, rfl⟩
    rw [hc]
    clear hc
    go_wp2_with fail
    go_loopw [28, 3] (fun i l wr => ∃ k : Nat, k ≤ x2.length ∧ i = .int .i64 k ∧ l = .int .i64 (lastN x1 x2 k) ∧ x1 + 1 ≤ lastN x1 x2 k ∧ Hid (∀ i (h : i < x2.length), i < k → parcelB x2[i] = true ∧ x1 + 1 < x2[i].1 ∧ (0 < i → x2[i - 1].1 < x2[i].1)) ∧ Up w1 wr) (fun i _ _ => x2.length - (intOf i).toNat)
    case atStart => exact ⟨0, Nat.zero_le _, rfl, by first | rfl | simp [lastN], by simp [lastN], fun i h hi => absurd hi (by omega), Up.refl _⟩
    case round =>
      obtain ⟨k, hk, rfl, rfl, hle, HA, hu⟩ := hrel
      by_cases hlt : k < x2.length
      · obtain ⟨g, off, A3, c3, rfl, _, hgl, hp0, hp1, d0, d1, _⟩ := atParcel (b2.up good_Parcel (uu1.trans hu)) hlt
        have hnk := sz_le shParcel x2 hlt hn2
        have ci := fun W (hW : Up wr W) => ci_ParcelOk (.agg #[.int .i64 x2[k].1, .slice A3 x2[k].2.length c3]) x2[k] W (AV.up good_Parcel ⟨_, rfl, mkParcel (x := x2[k]) d0 d1⟩ hW) hnk (tab_up htab ((uu1.trans hu).trans hW))
        have kb := Bk.new wr 50 #[.int .i64 x2[k].1, .slice A3 x2[k].2.length c3]
        have uA : Up wr (wr.alloc (.cells #[.int .i64 x2[k].1, .slice A3 x2[k].2.length c3] 50)) := (Up.refl wr).alloc _
        have hl2 : lastN x1 x2 (k + 1) = x2[k].1 := by unfold lastN; rw [dif_pos (by omega)]; rfl
        have hl1 : 0 < k → lastN x1 x2 k = (x2[k - 1]'(by omega)).1 := fun h0 => by unfold lastN; rw [dif_pos (by omega)]
        have hl0 : k = 0 → lastN x1 x2 k = x1 + 1 := fun h0 => by unfold lastN; rw [dif_neg (by omega)]
        cases hi : parcelB x2[k]
        · have HE := Lib.hid (replicaB_f (x := (x0, x1, x2)) fun hh => by have := (hh.2.2.2 k hlt).1; simp only at this; rw [hi] at this; cases this)
          rw [hi] at ci
          have CI := Lib.hid ci
          clear ci hi hl0 hl1 hl2
          generalize lastN x1 x2 k = L at *
          go_wp2_with fail
          refine (CI.out _ uA).mono ?_
          rintro e w2 ⟨rfl, u2⟩
          go_wp2_with fail
          go_ret
          exact ⟨by rw [HE.out]; first | done | rfl, ((uu1.trans hu).trans uA).trans u2⟩
        · rw [hi] at ci
          have CI := Lib.hid ci
          clear ci
          by_cases hno : x2[k].1 ≤ lastN x1 x2 k
          · have HE := Lib.hid (replicaB_f (x := (x0, x1, x2)) fun hh => by
              have := hh.2.2.2 k hlt
              simp only at this
              rcases Nat.eq_zero_or_pos k with h0 | h0
              · have := hl0 h0; omega
              · have := hl1 h0; have := this ▸ hno; omega)
            clear hi hl0 hl1 hl2
            generalize lastN x1 x2 k = L at *
            go_wp2_with fail
            refine (CI.out _ uA).mono ?_
            rintro e w2 ⟨rfl, u2⟩
            have g0 : w2.cell? ⟨wr.heap.size, 0, none⟩ = some (.int .i64 x2[k].1) := (kb.up u2).cell 0
            go_wp2_with fail
            go_ret
            exact ⟨by rw [HE.out]; first | done | rfl, ((uu1.trans hu).trans uA).trans u2⟩
          · have HN : Hid (∀ i (h : i < x2.length), i < k + 1 → parcelB x2[i] = true ∧ x1 + 1 < x2[i].1 ∧ (0 < i → x2[i - 1].1 < x2[i].1)) := fun i h hi2 => by
              by_cases e : i = k
              · subst e
                refine ⟨hi, by omega, fun h0 => ?_⟩
                have := hl1 h0
                omega
              · exact HA.out i h (by omega)
            have HL := Lib.hid hl2
            have hle2 : x1 + 1 ≤ x2[k].1 := by omega
            clear hi hl0 hl1 hl2
            generalize lastN x1 x2 k = L at *
            go_wp2_with fail
            refine (CI.out _ uA).mono ?_
            rintro e w2 ⟨rfl, u2⟩
            have g0 : w2.cell? ⟨wr.heap.size, 0, none⟩ = some (.int .i64 x2[k].1) := (kb.up u2).cell 0
            go_wp2_with fail
            go_roundw
            case rel => exact ⟨k + 1, by omega, by go_num, by rw [HL.out], by rw [HL.out]; exact hle2, HN, (hu.trans uA).trans u2⟩
            case measure => simp [intOf]; omega
      · have HE := Lib.hid (replicaB_t (x := (x0, x1, x2)) ⟨HH.out.1, HH.out.2, h8, fun i h => HA.out i h (Nat.lt_of_lt_of_le h (Nat.le_of_not_lt hlt))⟩)
        generalize lastN x1 x2 k = L at *
        go_wp2_with fail
        go_ret
        exact ⟨by rw [HE.out]; first | done | rfl, uu1.trans hu⟩
  · have HE := Lib.hid (replicaB_f (x := (x0, x1, x2)) fun hh => h8 hh.2.2.1)
    have h8i : (8 : Int) < (x2.length : Int) := by omega
    go_enter Tryz.func32, Tryz.ntmps32
    go_wp2_with fail
    refine (CT.out _ uu0).mono ?_
    rintro e w1 ⟨rfl, u1⟩
    have kT1 := kT0.up u1
    have g1 : w1.cell? ⟨w.heap.size, 1, none⟩ = some (.int .i64 x1) := kT1.cell 1
    have g2 : w1.cell? ⟨w.heap.size, 2, none⟩ = some (.slice A2 x2.length c2) := kT1.cell 2
    go_wp2_with fail
    refine (within_any _ _ _ _).mono ?_
    rintro e w' ⟨rfl, rfl⟩
    rw [hc]
    go_wp2_with fail
    go_ret
    exact ⟨by rw [HE.out]; first | done | rfl, uu0.trans u1⟩
set_option maxRecDepth 100000 in
set_option maxHeartbeats 8000000 in
theorem cs_ReplicaOk (v : Value) (x : TReplica) (w : World) (h : AV shReplica w v x) (hn : shReplica.sz x ≤ 1048576) :
    Calls Tryz.prog 30 #[v] w (RetV (.bool (replicaB x)) w) := by
  obtain ⟨cs, rfl, h⟩ := h
  obtain ⟨A0, c0, A2, c2, rfl, b0, b1, b2⟩ := openReplica h
  obtain ⟨x0, x1, x2⟩ := x
  simp only at b0 b1 b2
  clear h
  have hn' : shReplica.sz (x0, x1, x2) = shTree.sz x0 + (0 + (shL shParcel).sz x2) := rfl
  have hn0 : shTree.sz x0 ≤ 1048576 := by omega
  have hn2 : (shL shParcel).sz x2 ≤ 1048576 := by omega
  clear hn hn'
  have hlen := b2.len_le
  have kT0 := Bk.new w 61 #[.slice A0 x0.length c0, .int .i64 x1, .slice A2 x2.length c2]
  have uu0 : Up w (w.alloc (.cells #[.slice A0 x0.length c0, .int .i64 x1, .slice A2 x2.length c2] 61)) := (Up.refl w).alloc _
  have ct := fun W (hW : Up w W) => c_specTreeOk (.agg #[.slice A0 x0.length c0]) x0 W (AV.up good_Tree ⟨_, rfl, mkTree b0⟩ hW) hn0
  cases ht : treeB x0
  · have HE := Lib.hid (replicaB_f (x := (x0, x1, x2)) fun hh => by have := hh.1; simp only at this; rw [ht] at this; cases this)
    rw [ht] at ct
    have CT := Lib.hid ct
    clear ct ht
    go_enter Tryz.func30, Tryz.ntmps30
    go_wp2_with fail
    refine (CT.out _ uu0).mono ?_
    rintro e w1 ⟨rfl, u1⟩
    go_wp2_with fail
    go_ret
    exact ⟨by rw [HE.out]; first | done | rfl, uu0.trans u1⟩
  rw [ht] at ct
  have CT := Lib.hid ct
  clear ct
  cases hc : inB x1 0 2000000000
  · have HE := Lib.hid (replicaB_f (x := (x0, x1, x2)) fun hh => by have := hh.2.1; simp only at this; rw [hc] at this; cases this)
    clear ht
    go_enter Tryz.func30, Tryz.ntmps30
    go_wp2_with fail
    refine (CT.out _ uu0).mono ?_
    rintro e w1 ⟨rfl, u1⟩
    have g1 : w1.cell? ⟨w.heap.size, 1, none⟩ = some (.int .i64 x1) := (kT0.up u1).cell 1
    go_wp2_with fail
    refine (in_any _ _ _ _).mono ?_
    rintro e w' ⟨rfl, rfl⟩
    rw [hc]
    go_wp2_with fail
    go_ret
    exact ⟨by rw [HE.out]; first | done | rfl, uu0.trans u1⟩
  have hcb := inB_t.1 hc
  have HH := Lib.hid (show treeB x0 = true ∧ inB x1 0 2000000000 = true from ⟨ht, hc⟩)
  clear ht
  by_cases h8 : x2.length ≤ 8
  · go_enter Tryz.func30, Tryz.ntmps30
    go_wp2_with fail
    refine (CT.out _ uu0).mono ?_
    rintro e w1 ⟨rfl, u1⟩
    have kT1 := kT0.up u1
    have uu1 := uu0.trans u1
    have g1 : w1.cell? ⟨w.heap.size, 1, none⟩ = some (.int .i64 x1) := kT1.cell 1
    have g2 : w1.cell? ⟨w.heap.size, 2, none⟩ = some (.slice A2 x2.length c2) := kT1.cell 2
    go_wp2_with fail
    refine (in_any _ _ _ _).mono ?_
    rintro e w' ⟨rfl, rfl⟩
    rw [hc]
    clear hc
    go_wp2_with fail
    go_loopw [3] (fun i wr => ∃ k : Nat, k ≤ x2.length ∧ i = .int .i64 k ∧ Hid (∀ i (h : i < x2.length), i < k → parcelB x2[i] = true ∧ x1 + 1 < x2[i].1 ∧ (0 < i → x2[i - 1].1 < x2[i].1)) ∧ Up w1 wr) (fun i _ => x2.length - (intOf i).toNat)
    case atStart => exact ⟨0, Nat.zero_le _, rfl, fun i h hi => absurd hi (by omega), Up.refl _⟩
    case round =>
      obtain ⟨k, hk, rfl, HA, hu⟩ := hrel
      have kT := kT1.up hu
      have q1 : wr.cell? ⟨w.heap.size, 1, none⟩ = some (.int .i64 x1) := kT.cell 1
      have q2 : wr.cell? ⟨w.heap.size, 2, none⟩ = some (.slice A2 x2.length c2) := kT.cell 2
      by_cases hlt : k < x2.length
      · obtain ⟨g, off, A3, c3, hA, _, hgl, hp0, hp1, d0, d1, _⟩ := atParcel (b2.up good_Parcel (uu1.trans hu)) hlt
        have hnk := sz_le shParcel x2 hlt hn2
        have ci := fun W (hW : Up wr W) => cs_ParcelOk (.agg #[.int .i64 x2[k].1, .slice A3 x2[k].2.length c3]) x2[k] W (AV.up good_Parcel ⟨_, rfl, mkParcel (x := x2[k]) d0 d1⟩ hW) hnk
        have hw1 : IntKind.i64.wrap (x1 + 1) = x1 + 1 := IntWalk.i64_in _ (by omega)
        have t0 := fun t : UpT wr => cell_up t hp0
        have t1 := fun t : UpT wr => cell_up t hp1
        have t2 := fun t : UpT wr => cell_up t q1
        have t3 := fun t : UpT wr => cell_up t q2
        cases hi : parcelB x2[k]
        · have HE := Lib.hid (replicaB_f (x := (x0, x1, x2)) fun hh => by have := (hh.2.2.2 k hlt).1; simp only at this; rw [hi] at this; cases this)
          rw [hi] at ci
          have CI := Lib.hid ci
          clear ci hi
          subst hA
          go_wp2_with fail
          refine wp_region_up (by kernel_rfl) (by kernel_rfl) ?_
          repeat (go_big_quiet_step ((go_at_call 25; exact up_call (CI.out _ (UpT.up _)) (UpT.up _))))
          refine wpQuiet_nil ?_
          rintro _ ⟨⟨w2, u2⟩, rfl⟩
          go_wp2_with fail
          go_ret
          exact ⟨by rw [HE.out]; first | done | rfl, (uu1.trans hu).trans u2⟩
        · rw [hi] at ci
          have CI := Lib.hid ci
          clear ci
          by_cases hno : x2[k].1 ≤ x1 + 1
          · have HE := Lib.hid (replicaB_f (x := (x0, x1, x2)) fun hh => by have := (hh.2.2.2 k hlt).2.1; simp only at this; omega)
            clear hi
            subst hA
            go_wp2_with fail
            refine wp_region_up (by kernel_rfl) (by kernel_rfl) ?_
            repeat (go_big_quiet_step ((go_at_call 25; exact up_call (CI.out _ (UpT.up _)) (UpT.up _))))
            refine wpQuiet_nil ?_
            rintro _ ⟨⟨w2, u2⟩, rfl⟩
            go_wp2_with fail
            go_ret
            exact ⟨by rw [HE.out]; first | done | rfl, (uu1.trans hu).trans u2⟩
          · have hno2 : decide (x2[k].1 ≤ x1 + 1) = false := decide_eq_false hno
            by_cases hk0 : k = 0
            · have HN : Hid (∀ i (h : i < x2.length), i < k + 1 → parcelB x2[i] = true ∧ x1 + 1 < x2[i].1 ∧ (0 < i → x2[i - 1].1 < x2[i].1)) := fun i h hi2 => by
                obtain rfl : i = k := (by omega)
                exact ⟨hi, by omega, fun h0 => absurd h0 (by omega)⟩
              clear hi hno
              subst hk0 hA
              simp only [Nat.zero_mul, Nat.add_zero] at hp0 hp1 t0 t1
              go_wp2_with fail
              refine wp_region_up (by kernel_rfl) (by kernel_rfl) ?_
              repeat (go_big_quiet_step ((go_at_call 25; exact up_call (CI.out _ (UpT.up _)) (UpT.up _))))
              refine wpQuiet_nil ?_
              rintro _ ⟨⟨w2, u2⟩, rfl⟩
              go_wp2_with fail
              go_roundw
              case rel => exact ⟨0 + 1, by omega, rfl, HN, hu.trans u2⟩
              case measure => simp [intOf]; omega
            · obtain ⟨p, rfl⟩ : ∃ p, k = p + 1 := ⟨k - 1, by omega⟩
              have hlp : p < x2.length := by omega
              obtain ⟨g', off', A4, c4, hA', _, _, hr0, hr1, _, _, _⟩ := atParcel (b2.up good_Parcel (uu1.trans hu)) hlp
              subst hA
              simp only [Option.some.injEq, Addr.mk.injEq, and_true] at hA'
              obtain ⟨rfl, rfl⟩ := hA'
              have t5 := fun t : UpT wr => cell_up t hr0
              have hsub : IntKind.i64.wrap ((p : Int) + 1 - 1) = (p : Int) := by rw [IntWalk.i64_in _ (by omega)]; omega
              by_cases hpn : x2[p + 1].1 ≤ x2[p].1
              · have HE := Lib.hid (replicaB_f (x := (x0, x1, x2)) fun hh => by have := (hh.2.2.2 (p + 1) hlt).2.2 (by omega); simp only [Nat.add_sub_cancel] at this; omega)
                clear hi hno
                go_wp2_with fail
                refine wp_region_up (by kernel_rfl) (by kernel_rfl) ?_
                repeat (go_big_quiet_step ((go_at_call 25; exact up_call (CI.out _ (UpT.up _)) (UpT.up _))))
                refine wpQuiet_nil ?_
                rintro _ ⟨⟨w2, u2⟩, rfl⟩
                go_wp2_with fail
                go_ret
                exact ⟨by rw [HE.out]; first | done | rfl, (uu1.trans hu).trans u2⟩
              · have HN : Hid (∀ i (h : i < x2.length), i < p + 1 + 1 → parcelB x2[i] = true ∧ x1 + 1 < x2[i].1 ∧ (0 < i → x2[i - 1].1 < x2[i].1)) := fun i h hi2 => by
                  by_cases e : i = p + 1
                  · subst e
                    exact ⟨hi, by omega, fun _ => by simp only [Nat.add_sub_cancel]; omega⟩
                  · exact HA.out i h (by omega)
                have hpn2 : decide (x2[p + 1].1 ≤ x2[p].1) = false := decide_eq_false hpn
                clear hi hno
                go_wp2_with fail
                refine wp_region_up (by kernel_rfl) (by kernel_rfl) ?_
                repeat (go_big_quiet_step ((go_at_call 25; exact up_call (CI.out _ (UpT.up _)) (UpT.up _))))
                refine wpQuiet_nil ?_
                rintro _ ⟨⟨w2, u2⟩, rfl⟩
                go_wp2_with fail
                go_roundw
                case rel => exact ⟨p + 1 + 1, by omega, by go_num, HN, hu.trans u2⟩
                case measure => simp [intOf]; omega
      · have HE := Lib.hid (replicaB_t (x := (x0, x1, x2)) ⟨HH.out.1, HH.out.2, h8, fun i h => HA.out i h (Nat.lt_of_lt_of_le h (Nat.le_of_not_lt hlt))⟩)
        go_wp2_with fail
        go_ret
        exact ⟨by rw [HE.out]; first | done | rfl, uu1.trans hu⟩
  · have HE := Lib.hid (replicaB_f (x := (x0, x1, x2)) fun hh => h8 hh.2.2.1)
    have h8i : (8 : Int) < (x2.length : Int) := by omega
    go_enter Tryz.func30, Tryz.ntmps30
    go_wp2_with fail
    refine (CT.out _ uu0).mono ?_
    rintro e w1 ⟨rfl, u1⟩
    have kT1 := kT0.up u1
    have g1 : w1.cell? ⟨w.heap.size, 1, none⟩ = some (.int .i64 x1) := kT1.cell 1
    have g2 : w1.cell? ⟨w.heap.size, 2, none⟩ = some (.slice A2 x2.length c2) := kT1.cell 2
    go_wp2_with fail
    refine (in_any _ _ _ _).mono ?_
    rintro e w' ⟨rfl, rfl⟩
    rw [hc]
    go_wp2_with fail
    go_ret
    exact ⟨by rw [HE.out]; first | done | rfl, uu0.trans u1⟩
end Go.Proofs.YtanjmolgpkffoaaGreatDoor
