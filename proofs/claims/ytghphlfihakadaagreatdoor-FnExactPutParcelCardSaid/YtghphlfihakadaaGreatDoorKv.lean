/-
  The reference's PutImages.
-/
import Derived.Test.YtghphlfihakadaaGreatDoorKu
import Derived.Test.YtghphlfihakadaaGreatDoorR8
import Derived.Test.YtghphlfihakadaaGreatDoorIq
import Derived.Test.YtghphlfihakadaaGreatDoorKz
namespace Go.Proofs.YtghphlfihakadaaGreatDoor
open Go.RowKit
set_option linter.unusedVariables false
set_option linter.unusedSimpArgs false

theorem ba_nil_app (s : ByteArray) : (⟨#[]⟩ : ByteArray) ++ s = s := by apply ba_ext; simp [ByteArray.data_append]
theorem row8_conv (w : World) (s : ByteArray) (hs : s.size ≤ 1048576) : ∃ (c : Nat) (W' : World), (convert 9 85 (.string s)).run Tryz.prog w = .ok (.slice (some ⟨w.heap.size, 0, none⟩) s.size c) W' ∧ Up w W' ∧ Row8 w.heap.size W' (some ⟨w.heap.size, 0, none⟩) c s.data.toList :=
  ⟨_, _, Lib.run_convert_string_bytes w 9 85 5 s (u := .string) Tryz.underlying9 Tryz.underlying85 Tryz.underlying5, bw_up w _ s, row8_new w s hs⟩
set_option maxRecDepth 100000 in
set_option maxHeartbeats 16000000 in
theorem c_specPutImages (xs : List TImage) (A : Option Addr) (c : Nat) (w : World) (h : SRW shImage w A c xs) (hn : (shL shImage).sz xs ≤ 1048576) :
    Calls Tryz.prog 14 #[.slice A xs.length c] w (RetV (.string (bs (imagesL xs))) w) := by
  cases hb : imagesB xs
  · have HE : Hid (bs (imagesL xs) = ⟨#[]⟩) := by unfold Hid imagesL; rw [if_neg (by rw [hb]; simp)]; rfl
    go_enter Tryz.func14, Tryz.ntmps14
    go_wp2_with fail
    refine (c_specImagesOk xs A c _ h).mono ?_
    rintro e w1 ⟨rfl, u1⟩
    rw [hb]
    go_wp2_with fail
    go_ret
    exact ⟨by rw [HE.out]; first | done | rfl, u1⟩
  · have HE : Hid (bs (imagesL xs) = bs (leL xs.length 1 ++ xs.flatMap imageL)) := by unfold Hid imagesL; rw [if_pos hb]
    have HP0 : ImagesP xs := of_decide_eq_true hb
    have HP : Hid (ImagesP xs) := HP0
    clear HP0
    have hlen := h.len_le
    have h240 := HP.out.1
    go_enter Tryz.func14, Tryz.ntmps14
    go_wp2_with fail
    refine (c_specImagesOk xs A c _ h).mono ?_
    rintro e w1 ⟨rfl, u1⟩
    rw [hb]
    clear hn hb
    have cb := fun W => c_l15Byte xs.length W (by omega)
    have CB := Lib.hid cb
    have hkz : (bs [UInt8.ofNat xs.length]).size = 1 := by rw [bs_size]; rfl
    have HK0 : Hid ((bs [UInt8.ofNat xs.length]).data.toList = leL xs.length 1) := rfl
    generalize bs [UInt8.ofNat xs.length] = K0 at *
    clear cb
    go_wp2_with fail
    refine (CB.out _).mono ?_
    rintro e w2 ⟨rfl, u2⟩
    obtain ⟨c2, w3, hcv, u3, r3⟩ := row8_conv w2 K0 (by omega)
    have uu3 := (u1.trans u2).trans u3
    rw [hkz] at hcv
    obtain ⟨L0, hL0⟩ : ∃ L0, L0 = K0.data.toList := ⟨_, rfl⟩
    have hl0 : L0.length = 1 := by rw [hL0, slen]; exact hkz
    have HL0 : Hid (L0 = leL xs.length 1 ++ (xs.take 0).flatMap imageL) := by unfold Hid; rw [hL0, HK0.out]; simp
    rw [← hL0] at r3
    have hlo2 := (u1.trans u2).size
    clear hL0 HK0 hkz
    go_wp2_with fail
    go_loopw [3, 4] (fun b i wr => ∃ (k : Nat) (D : Option Addr) (d : Nat) (L : List UInt8), k ≤ xs.length ∧ i = .int .i64 k ∧ b = .slice D L.length d ∧ Hid (L = leL xs.length 1 ++ (xs.take k).flatMap imageL) ∧ Row8 w2.heap.size wr D d L ∧ Below w2.heap.size w2 wr) (fun _ i _ => xs.length - (intOf i).toNat)
    case atStart => exact ⟨0, _, c2, L0, Nat.zero_le _, rfl, by rw [hl0], HL0, r3, u3⟩
    case round =>
      obtain ⟨k, D, d, L, hk, rfl, rfl, HL, row, hb2⟩ := hrel
      have hu : Up w wr := (u1.trans u2).trans hb2
      have hsw := hb2.size
      by_cases hlt : k < xs.length
      · have hsz := img_sizes (HP.out.2 k hlt).1
        have hl1 := imgs_len (xs := xs.take k) (fun x hx => imgs_all HP.out x (List.mem_of_mem_take hx))
        rw [List.length_take] at hl1
        have hll := leL_len 1 xs.length
        have hLl : L.length ≤ 100000 := by rw [HL.out, List.length_append]; omega
        have hsn := imgs_snoc xs hlt
        have HS : Hid (L ++ imageL xs[k] = leL xs.length 1 ++ (xs.take (k + 1)).flatMap imageL) := by unfold Hid; rw [hsn, HL.out, List.append_assoc]
        obtain ⟨g, off, A2, c2, rfl, _, hgl, hc0, hc1, hc2, hc3, hc4, hc5, b0, b1, b3, b5, _⟩ := atImage (h.up good_Image hu) hlt
        obtain ⟨⟨x0, x1, x2, x3, x4, x5⟩, hxk⟩ : ∃ q, q = xs[k] := ⟨_, rfl⟩
        rw [← hxk] at HS hsz hc0 hc1 hc2 hc3 hc4 hc5 b0 b1 b3 b5
        clear hxk hsn hl1 hll HL
        dsimp only at hsz hc0 hc1 hc2 hc3 hc4 hc5 b0 b1 b3 b5
        obtain ⟨h3, h5⟩ := hsz
        have hkl : (bs (keyOfL x0 x1)).size ≤ 237 := by rw [bs_size]; exact keyOfL_len x0 x1
        have z3 := shortS x3
        have z5 := shortS x5
        have zk := shortS (bs (keyOfL x0 x1))
        have c3 := fun W => c_l19Text x3 W (by omega)
        have c5 := fun W => c_l19Text x5 W (by omega)
        have cks := fun W => c_l19Text (bs (keyOfL x0 x1)) W (by omega)
        have ck := fun W (u : Up wr W) => c_specKeyOf x0 x1 A2 c2 W b0 (b1.up good_S u)
        have cf := fun (n : Nat) (hn : n ≤ 3) W => c_l15Byte n W (by omega)
        have k0 := Bk.new wr 87 #[.string x0, .slice A2 x1.length c2, .bool x2, .string x3, .bool x4, .string x5]
        have uu0 : Up wr (wr.alloc (.cells #[.string x0, .slice A2 x1.length c2, .bool x2, .string x3, .bool x4, .string x5] 87)) := (Up.refl wr).alloc _
        have e0 : (ByteArray.mk #[]).size = 0 := rfl
        cases x2 <;> cases x4
        · have HI : Hid (imageL (x0, x1, false, x3, false, x5) = (bs (shortL (bs (keyOfL x0 x1))) ++ bs [UInt8.ofNat 0] ++ (⟨#[]⟩ : ByteArray)).data.toList) := by
            unfold Hid imageL
            show (bs (shortL (bs (keyOfL x0 x1))) ++ leS 0 1 ++ (⟨#[]⟩ : ByteArray)).data.toList = _
            rw [leS_one]; first | done | rfl
          have hzb : (bs [UInt8.ofNat 0]).size = 1 := by rw [bs_size]; rfl
          have CF := Lib.hid (cf 0 (by omega))
          have CK := Lib.hid ck
          have CS := Lib.hid cks
          have C3 := Lib.hid c3
          have C5 := Lib.hid c5
          clear cf ck cks c3 c5
          generalize bs (shortL (bs (keyOfL x0 x1))) = SK at *
          generalize bs (keyOfL x0 x1) = KK at *
          generalize bs (shortL x3) = S3 at *
          generalize bs (shortL x5) = S5 at *
          generalize bs [UInt8.ofNat 0] = FF at *
          have gk : ¬ 9223372036854775807 < SK.size + FF.size := by omega
          have htz : (⟨#[]⟩ : ByteArray).size ≤ 140 := by omega
          have gl : ¬ 9223372036854775807 < (SK ++ FF).size + (⟨#[]⟩ : ByteArray).size := by rw [ByteArray.size_append]; omega
          have hall : L.length + (SK ++ FF ++ (⟨#[]⟩ : ByteArray)).size ≤ 1073741824 := by rw [ByteArray.size_append, ByteArray.size_append]; omega
          clear z3 z5 zk hkl hzb htz e0
          go_wp2_with fail
          refine (CK.out _ uu0).mono ?_
          rintro e v1 ⟨rfl, u11⟩
          have k1 := k0.up u11
          have uu1 := uu0.trans u11
          have g1_0 : v1.cell? ⟨wr.heap.size, 0, none⟩ = some (.string x0) := k1.cell 0
          have g1_1 : v1.cell? ⟨wr.heap.size, 1, none⟩ = some (.slice A2 x1.length c2) := k1.cell 1
          have g1_2 : v1.cell? ⟨wr.heap.size, 2, none⟩ = some (.bool _) := k1.cell 2
          have g1_3 : v1.cell? ⟨wr.heap.size, 3, none⟩ = some (.string x3) := k1.cell 3
          have g1_4 : v1.cell? ⟨wr.heap.size, 4, none⟩ = some (.bool _) := k1.cell 4
          have g1_5 : v1.cell? ⟨wr.heap.size, 5, none⟩ = some (.string x5) := k1.cell 5
          go_wp2_with fail
          refine (CS.out _).mono ?_
          rintro e v2 ⟨rfl, u12⟩
          have k2 := k1.up u12
          have uu2 := uu1.trans u12
          have g2_0 : v2.cell? ⟨wr.heap.size, 0, none⟩ = some (.string x0) := k2.cell 0
          have g2_1 : v2.cell? ⟨wr.heap.size, 1, none⟩ = some (.slice A2 x1.length c2) := k2.cell 1
          have g2_2 : v2.cell? ⟨wr.heap.size, 2, none⟩ = some (.bool _) := k2.cell 2
          have g2_3 : v2.cell? ⟨wr.heap.size, 3, none⟩ = some (.string x3) := k2.cell 3
          have g2_4 : v2.cell? ⟨wr.heap.size, 4, none⟩ = some (.bool _) := k2.cell 4
          have g2_5 : v2.cell? ⟨wr.heap.size, 5, none⟩ = some (.string x5) := k2.cell 5
          clear g1_0 g1_1 g1_2 g1_3 g1_4 g1_5
          go_wp2_with fail
          refine (CF.out _).mono ?_
          rintro e v3 ⟨rfl, u13⟩
          have k3 := k2.up u13
          have uu3 := uu2.trans u13
          have g3_0 : v3.cell? ⟨wr.heap.size, 0, none⟩ = some (.string x0) := k3.cell 0
          have g3_1 : v3.cell? ⟨wr.heap.size, 1, none⟩ = some (.slice A2 x1.length c2) := k3.cell 1
          have g3_2 : v3.cell? ⟨wr.heap.size, 2, none⟩ = some (.bool _) := k3.cell 2
          have g3_3 : v3.cell? ⟨wr.heap.size, 3, none⟩ = some (.string x3) := k3.cell 3
          have g3_4 : v3.cell? ⟨wr.heap.size, 4, none⟩ = some (.bool _) := k3.cell 4
          have g3_5 : v3.cell? ⟨wr.heap.size, 5, none⟩ = some (.string x5) := k3.cell 5
          clear g2_0 g2_1 g2_2 g2_3 g2_4 g2_5
          have hbe : Below w2.heap.size w2 v3 := hb2.trans (Below.mono uu3 hsw)
          have hse := hbe.size
          have rw8 := row.up uu3
          go_wp2_with (first | (at_builtin; refine wpList_app8 rfl _ _ rfl rfl rfl rw8 hse hall ?_; intro D9 d9 w9 r9 be9))
          go_roundw
          case rel => exact ⟨k + 1, D9, d9, L ++ (SK ++ FF ++ (⟨#[]⟩ : ByteArray)).data.toList, by omega, by go_num, by rw [List.length_append, slen]; first | done | (simp [ByteArray.size_append, show (ByteArray.mk #[]).size = 0 from rfl]; done) | (congr 1; simp only [ByteArray.size_append, show (ByteArray.mk #[]).size = 0 from rfl]; omega), by unfold Hid; rw [← HI.out]; exact HS.out, r9, hbe.trans be9⟩
          case measure => simp [intOf]; omega
        · have HI : Hid (imageL (x0, x1, false, x3, true, x5) = (bs (shortL (bs (keyOfL x0 x1))) ++ bs [UInt8.ofNat 2] ++ ((⟨#[]⟩ : ByteArray) ++ bs (shortL x5))).data.toList) := by
            unfold Hid imageL
            show (bs (shortL (bs (keyOfL x0 x1))) ++ leS 2 1 ++ ((⟨#[]⟩ : ByteArray) ++ bs (shortL x5))).data.toList = _
            rw [leS_one]; first | done | rfl
          have hzb : (bs [UInt8.ofNat 2]).size = 1 := by rw [bs_size]; rfl
          have CF := Lib.hid (cf 2 (by omega))
          have CK := Lib.hid ck
          have CS := Lib.hid cks
          have C3 := Lib.hid c3
          have C5 := Lib.hid c5
          clear cf ck cks c3 c5
          generalize bs (shortL (bs (keyOfL x0 x1))) = SK at *
          generalize bs (keyOfL x0 x1) = KK at *
          generalize bs (shortL x3) = S3 at *
          generalize bs (shortL x5) = S5 at *
          generalize bs [UInt8.ofNat 2] = FF at *
          have g35 : ¬ 9223372036854775807 < (⟨#[]⟩ : ByteArray).size + S5.size := by omega
          have gk : ¬ 9223372036854775807 < SK.size + FF.size := by omega
          have htz : ((⟨#[]⟩ : ByteArray) ++ S5).size ≤ 140 := by rw [ByteArray.size_append]; omega
          have gl : ¬ 9223372036854775807 < (SK ++ FF).size + ((⟨#[]⟩ : ByteArray) ++ S5).size := by rw [ByteArray.size_append]; omega
          have hall : L.length + (SK ++ FF ++ ((⟨#[]⟩ : ByteArray) ++ S5)).size ≤ 1073741824 := by rw [ByteArray.size_append, ByteArray.size_append]; omega
          clear z3 z5 zk hkl hzb htz e0
          go_wp2_with fail
          refine (C5.out _).mono ?_
          rintro e v1 ⟨rfl, u11⟩
          have k1 := k0.up u11
          have uu1 := uu0.trans u11
          have g1_0 : v1.cell? ⟨wr.heap.size, 0, none⟩ = some (.string x0) := k1.cell 0
          have g1_1 : v1.cell? ⟨wr.heap.size, 1, none⟩ = some (.slice A2 x1.length c2) := k1.cell 1
          have g1_2 : v1.cell? ⟨wr.heap.size, 2, none⟩ = some (.bool _) := k1.cell 2
          have g1_3 : v1.cell? ⟨wr.heap.size, 3, none⟩ = some (.string x3) := k1.cell 3
          have g1_4 : v1.cell? ⟨wr.heap.size, 4, none⟩ = some (.bool _) := k1.cell 4
          have g1_5 : v1.cell? ⟨wr.heap.size, 5, none⟩ = some (.string x5) := k1.cell 5
          go_wp2_with fail
          refine (CK.out _ uu1).mono ?_
          rintro e v2 ⟨rfl, u12⟩
          have k2 := k1.up u12
          have uu2 := uu1.trans u12
          have g2_0 : v2.cell? ⟨wr.heap.size, 0, none⟩ = some (.string x0) := k2.cell 0
          have g2_1 : v2.cell? ⟨wr.heap.size, 1, none⟩ = some (.slice A2 x1.length c2) := k2.cell 1
          have g2_2 : v2.cell? ⟨wr.heap.size, 2, none⟩ = some (.bool _) := k2.cell 2
          have g2_3 : v2.cell? ⟨wr.heap.size, 3, none⟩ = some (.string x3) := k2.cell 3
          have g2_4 : v2.cell? ⟨wr.heap.size, 4, none⟩ = some (.bool _) := k2.cell 4
          have g2_5 : v2.cell? ⟨wr.heap.size, 5, none⟩ = some (.string x5) := k2.cell 5
          clear g1_0 g1_1 g1_2 g1_3 g1_4 g1_5
          go_wp2_with fail
          refine (CS.out _).mono ?_
          rintro e v3 ⟨rfl, u13⟩
          have k3 := k2.up u13
          have uu3 := uu2.trans u13
          have g3_0 : v3.cell? ⟨wr.heap.size, 0, none⟩ = some (.string x0) := k3.cell 0
          have g3_1 : v3.cell? ⟨wr.heap.size, 1, none⟩ = some (.slice A2 x1.length c2) := k3.cell 1
          have g3_2 : v3.cell? ⟨wr.heap.size, 2, none⟩ = some (.bool _) := k3.cell 2
          have g3_3 : v3.cell? ⟨wr.heap.size, 3, none⟩ = some (.string x3) := k3.cell 3
          have g3_4 : v3.cell? ⟨wr.heap.size, 4, none⟩ = some (.bool _) := k3.cell 4
          have g3_5 : v3.cell? ⟨wr.heap.size, 5, none⟩ = some (.string x5) := k3.cell 5
          clear g2_0 g2_1 g2_2 g2_3 g2_4 g2_5
          go_wp2_with fail
          refine (CF.out _).mono ?_
          rintro e v4 ⟨rfl, u14⟩
          have k4 := k3.up u14
          have uu4 := uu3.trans u14
          have g4_0 : v4.cell? ⟨wr.heap.size, 0, none⟩ = some (.string x0) := k4.cell 0
          have g4_1 : v4.cell? ⟨wr.heap.size, 1, none⟩ = some (.slice A2 x1.length c2) := k4.cell 1
          have g4_2 : v4.cell? ⟨wr.heap.size, 2, none⟩ = some (.bool _) := k4.cell 2
          have g4_3 : v4.cell? ⟨wr.heap.size, 3, none⟩ = some (.string x3) := k4.cell 3
          have g4_4 : v4.cell? ⟨wr.heap.size, 4, none⟩ = some (.bool _) := k4.cell 4
          have g4_5 : v4.cell? ⟨wr.heap.size, 5, none⟩ = some (.string x5) := k4.cell 5
          clear g3_0 g3_1 g3_2 g3_3 g3_4 g3_5
          have hbe : Below w2.heap.size w2 v4 := hb2.trans (Below.mono uu4 hsw)
          have hse := hbe.size
          have rw8 := row.up uu4
          go_wp2_with (first | (at_builtin; refine wpList_app8 rfl _ _ rfl rfl rfl rw8 hse hall ?_; intro D9 d9 w9 r9 be9))
          go_roundw
          case rel => exact ⟨k + 1, D9, d9, L ++ (SK ++ FF ++ ((⟨#[]⟩ : ByteArray) ++ S5)).data.toList, by omega, by go_num, by rw [List.length_append, slen]; first | done | (simp [ByteArray.size_append, show (ByteArray.mk #[]).size = 0 from rfl]; done) | (congr 1; simp only [ByteArray.size_append, show (ByteArray.mk #[]).size = 0 from rfl]; omega), by unfold Hid; rw [← HI.out]; exact HS.out, r9, hbe.trans be9⟩
          case measure => simp [intOf]; omega
        · have HI : Hid (imageL (x0, x1, true, x3, false, x5) = (bs (shortL (bs (keyOfL x0 x1))) ++ bs [UInt8.ofNat 1] ++ bs (shortL x3)).data.toList) := by
            unfold Hid imageL
            show (bs (shortL (bs (keyOfL x0 x1))) ++ leS 1 1 ++ ((⟨#[]⟩ : ByteArray) ++ bs (shortL x3))).data.toList = _
            rw [leS_one]; rw [ba_nil_app]
          have hzb : (bs [UInt8.ofNat 1]).size = 1 := by rw [bs_size]; rfl
          have CF := Lib.hid (cf 1 (by omega))
          have CK := Lib.hid ck
          have CS := Lib.hid cks
          have C3 := Lib.hid c3
          have C5 := Lib.hid c5
          clear cf ck cks c3 c5
          generalize bs (shortL (bs (keyOfL x0 x1))) = SK at *
          generalize bs (keyOfL x0 x1) = KK at *
          generalize bs (shortL x3) = S3 at *
          generalize bs (shortL x5) = S5 at *
          generalize bs [UInt8.ofNat 1] = FF at *
          have gk : ¬ 9223372036854775807 < SK.size + FF.size := by omega
          have htz : S3.size ≤ 140 := by omega
          have gl : ¬ 9223372036854775807 < (SK ++ FF).size + S3.size := by rw [ByteArray.size_append]; omega
          have hall : L.length + (SK ++ FF ++ S3).size ≤ 1073741824 := by rw [ByteArray.size_append, ByteArray.size_append]; omega
          clear z3 z5 zk hkl hzb htz e0
          go_wp2_with fail
          refine (C3.out _).mono ?_
          rintro e v1 ⟨rfl, u11⟩
          have k1 := k0.up u11
          have uu1 := uu0.trans u11
          have g1_0 : v1.cell? ⟨wr.heap.size, 0, none⟩ = some (.string x0) := k1.cell 0
          have g1_1 : v1.cell? ⟨wr.heap.size, 1, none⟩ = some (.slice A2 x1.length c2) := k1.cell 1
          have g1_2 : v1.cell? ⟨wr.heap.size, 2, none⟩ = some (.bool _) := k1.cell 2
          have g1_3 : v1.cell? ⟨wr.heap.size, 3, none⟩ = some (.string x3) := k1.cell 3
          have g1_4 : v1.cell? ⟨wr.heap.size, 4, none⟩ = some (.bool _) := k1.cell 4
          have g1_5 : v1.cell? ⟨wr.heap.size, 5, none⟩ = some (.string x5) := k1.cell 5
          go_wp2_with fail
          refine (CK.out _ uu1).mono ?_
          rintro e v2 ⟨rfl, u12⟩
          have k2 := k1.up u12
          have uu2 := uu1.trans u12
          have g2_0 : v2.cell? ⟨wr.heap.size, 0, none⟩ = some (.string x0) := k2.cell 0
          have g2_1 : v2.cell? ⟨wr.heap.size, 1, none⟩ = some (.slice A2 x1.length c2) := k2.cell 1
          have g2_2 : v2.cell? ⟨wr.heap.size, 2, none⟩ = some (.bool _) := k2.cell 2
          have g2_3 : v2.cell? ⟨wr.heap.size, 3, none⟩ = some (.string x3) := k2.cell 3
          have g2_4 : v2.cell? ⟨wr.heap.size, 4, none⟩ = some (.bool _) := k2.cell 4
          have g2_5 : v2.cell? ⟨wr.heap.size, 5, none⟩ = some (.string x5) := k2.cell 5
          clear g1_0 g1_1 g1_2 g1_3 g1_4 g1_5
          go_wp2_with fail
          refine (CS.out _).mono ?_
          rintro e v3 ⟨rfl, u13⟩
          have k3 := k2.up u13
          have uu3 := uu2.trans u13
          have g3_0 : v3.cell? ⟨wr.heap.size, 0, none⟩ = some (.string x0) := k3.cell 0
          have g3_1 : v3.cell? ⟨wr.heap.size, 1, none⟩ = some (.slice A2 x1.length c2) := k3.cell 1
          have g3_2 : v3.cell? ⟨wr.heap.size, 2, none⟩ = some (.bool _) := k3.cell 2
          have g3_3 : v3.cell? ⟨wr.heap.size, 3, none⟩ = some (.string x3) := k3.cell 3
          have g3_4 : v3.cell? ⟨wr.heap.size, 4, none⟩ = some (.bool _) := k3.cell 4
          have g3_5 : v3.cell? ⟨wr.heap.size, 5, none⟩ = some (.string x5) := k3.cell 5
          clear g2_0 g2_1 g2_2 g2_3 g2_4 g2_5
          go_wp2_with fail
          refine (CF.out _).mono ?_
          rintro e v4 ⟨rfl, u14⟩
          have k4 := k3.up u14
          have uu4 := uu3.trans u14
          have g4_0 : v4.cell? ⟨wr.heap.size, 0, none⟩ = some (.string x0) := k4.cell 0
          have g4_1 : v4.cell? ⟨wr.heap.size, 1, none⟩ = some (.slice A2 x1.length c2) := k4.cell 1
          have g4_2 : v4.cell? ⟨wr.heap.size, 2, none⟩ = some (.bool _) := k4.cell 2
          have g4_3 : v4.cell? ⟨wr.heap.size, 3, none⟩ = some (.string x3) := k4.cell 3
          have g4_4 : v4.cell? ⟨wr.heap.size, 4, none⟩ = some (.bool _) := k4.cell 4
          have g4_5 : v4.cell? ⟨wr.heap.size, 5, none⟩ = some (.string x5) := k4.cell 5
          clear g3_0 g3_1 g3_2 g3_3 g3_4 g3_5
          have hbe : Below w2.heap.size w2 v4 := hb2.trans (Below.mono uu4 hsw)
          have hse := hbe.size
          have rw8 := row.up uu4
          go_wp2_with (first | (at_builtin; refine wpList_app8 rfl _ _ rfl rfl rfl rw8 hse hall ?_; intro D9 d9 w9 r9 be9))
          go_roundw
          case rel => exact ⟨k + 1, D9, d9, L ++ (SK ++ FF ++ S3).data.toList, by omega, by go_num, by rw [List.length_append, slen]; first | done | (simp [ByteArray.size_append, show (ByteArray.mk #[]).size = 0 from rfl]; done) | (congr 1; simp only [ByteArray.size_append, show (ByteArray.mk #[]).size = 0 from rfl]; omega), by unfold Hid; rw [← HI.out]; exact HS.out, r9, hbe.trans be9⟩
          case measure => simp [intOf]; omega
        · have HI : Hid (imageL (x0, x1, true, x3, true, x5) = (bs (shortL (bs (keyOfL x0 x1))) ++ bs [UInt8.ofNat 3] ++ (bs (shortL x3) ++ bs (shortL x5))).data.toList) := by
            unfold Hid imageL
            show (bs (shortL (bs (keyOfL x0 x1))) ++ leS 3 1 ++ ((⟨#[]⟩ : ByteArray) ++ bs (shortL x3) ++ bs (shortL x5))).data.toList = _
            rw [leS_one]; rw [ba_nil_app]
          have hzb : (bs [UInt8.ofNat 3]).size = 1 := by rw [bs_size]; rfl
          have CF := Lib.hid (cf 3 (by omega))
          have CK := Lib.hid ck
          have CS := Lib.hid cks
          have C3 := Lib.hid c3
          have C5 := Lib.hid c5
          clear cf ck cks c3 c5
          generalize bs (shortL (bs (keyOfL x0 x1))) = SK at *
          generalize bs (keyOfL x0 x1) = KK at *
          generalize bs (shortL x3) = S3 at *
          generalize bs (shortL x5) = S5 at *
          generalize bs [UInt8.ofNat 3] = FF at *
          have g35 : ¬ 9223372036854775807 < S3.size + S5.size := by omega
          have gk : ¬ 9223372036854775807 < SK.size + FF.size := by omega
          have htz : (S3 ++ S5).size ≤ 140 := by rw [ByteArray.size_append]; omega
          have gl : ¬ 9223372036854775807 < (SK ++ FF).size + (S3 ++ S5).size := by rw [ByteArray.size_append]; omega
          have hall : L.length + (SK ++ FF ++ (S3 ++ S5)).size ≤ 1073741824 := by rw [ByteArray.size_append, ByteArray.size_append]; omega
          clear z3 z5 zk hkl hzb htz e0
          go_wp2_with fail
          refine (C3.out _).mono ?_
          rintro e v1 ⟨rfl, u11⟩
          have k1 := k0.up u11
          have uu1 := uu0.trans u11
          have g1_0 : v1.cell? ⟨wr.heap.size, 0, none⟩ = some (.string x0) := k1.cell 0
          have g1_1 : v1.cell? ⟨wr.heap.size, 1, none⟩ = some (.slice A2 x1.length c2) := k1.cell 1
          have g1_2 : v1.cell? ⟨wr.heap.size, 2, none⟩ = some (.bool _) := k1.cell 2
          have g1_3 : v1.cell? ⟨wr.heap.size, 3, none⟩ = some (.string x3) := k1.cell 3
          have g1_4 : v1.cell? ⟨wr.heap.size, 4, none⟩ = some (.bool _) := k1.cell 4
          have g1_5 : v1.cell? ⟨wr.heap.size, 5, none⟩ = some (.string x5) := k1.cell 5
          go_wp2_with fail
          refine (C5.out _).mono ?_
          rintro e v2 ⟨rfl, u12⟩
          have k2 := k1.up u12
          have uu2 := uu1.trans u12
          have g2_0 : v2.cell? ⟨wr.heap.size, 0, none⟩ = some (.string x0) := k2.cell 0
          have g2_1 : v2.cell? ⟨wr.heap.size, 1, none⟩ = some (.slice A2 x1.length c2) := k2.cell 1
          have g2_2 : v2.cell? ⟨wr.heap.size, 2, none⟩ = some (.bool _) := k2.cell 2
          have g2_3 : v2.cell? ⟨wr.heap.size, 3, none⟩ = some (.string x3) := k2.cell 3
          have g2_4 : v2.cell? ⟨wr.heap.size, 4, none⟩ = some (.bool _) := k2.cell 4
          have g2_5 : v2.cell? ⟨wr.heap.size, 5, none⟩ = some (.string x5) := k2.cell 5
          clear g1_0 g1_1 g1_2 g1_3 g1_4 g1_5
          go_wp2_with fail
          refine (CK.out _ uu2).mono ?_
          rintro e v3 ⟨rfl, u13⟩
          have k3 := k2.up u13
          have uu3 := uu2.trans u13
          have g3_0 : v3.cell? ⟨wr.heap.size, 0, none⟩ = some (.string x0) := k3.cell 0
          have g3_1 : v3.cell? ⟨wr.heap.size, 1, none⟩ = some (.slice A2 x1.length c2) := k3.cell 1
          have g3_2 : v3.cell? ⟨wr.heap.size, 2, none⟩ = some (.bool _) := k3.cell 2
          have g3_3 : v3.cell? ⟨wr.heap.size, 3, none⟩ = some (.string x3) := k3.cell 3
          have g3_4 : v3.cell? ⟨wr.heap.size, 4, none⟩ = some (.bool _) := k3.cell 4
          have g3_5 : v3.cell? ⟨wr.heap.size, 5, none⟩ = some (.string x5) := k3.cell 5
          clear g2_0 g2_1 g2_2 g2_3 g2_4 g2_5
          go_wp2_with fail
          refine (CS.out _).mono ?_
          rintro e v4 ⟨rfl, u14⟩
          have k4 := k3.up u14
          have uu4 := uu3.trans u14
          have g4_0 : v4.cell? ⟨wr.heap.size, 0, none⟩ = some (.string x0) := k4.cell 0
          have g4_1 : v4.cell? ⟨wr.heap.size, 1, none⟩ = some (.slice A2 x1.length c2) := k4.cell 1
          have g4_2 : v4.cell? ⟨wr.heap.size, 2, none⟩ = some (.bool _) := k4.cell 2
          have g4_3 : v4.cell? ⟨wr.heap.size, 3, none⟩ = some (.string x3) := k4.cell 3
          have g4_4 : v4.cell? ⟨wr.heap.size, 4, none⟩ = some (.bool _) := k4.cell 4
          have g4_5 : v4.cell? ⟨wr.heap.size, 5, none⟩ = some (.string x5) := k4.cell 5
          clear g3_0 g3_1 g3_2 g3_3 g3_4 g3_5
          go_wp2_with fail
          refine (CF.out _).mono ?_
          rintro e v5 ⟨rfl, u15⟩
          have k5 := k4.up u15
          have uu5 := uu4.trans u15
          have g5_0 : v5.cell? ⟨wr.heap.size, 0, none⟩ = some (.string x0) := k5.cell 0
          have g5_1 : v5.cell? ⟨wr.heap.size, 1, none⟩ = some (.slice A2 x1.length c2) := k5.cell 1
          have g5_2 : v5.cell? ⟨wr.heap.size, 2, none⟩ = some (.bool _) := k5.cell 2
          have g5_3 : v5.cell? ⟨wr.heap.size, 3, none⟩ = some (.string x3) := k5.cell 3
          have g5_4 : v5.cell? ⟨wr.heap.size, 4, none⟩ = some (.bool _) := k5.cell 4
          have g5_5 : v5.cell? ⟨wr.heap.size, 5, none⟩ = some (.string x5) := k5.cell 5
          clear g4_0 g4_1 g4_2 g4_3 g4_4 g4_5
          have hbe : Below w2.heap.size w2 v5 := hb2.trans (Below.mono uu5 hsw)
          have hse := hbe.size
          have rw8 := row.up uu5
          go_wp2_with (first | (at_builtin; refine wpList_app8 rfl _ _ rfl rfl rfl rw8 hse hall ?_; intro D9 d9 w9 r9 be9))
          go_roundw
          case rel => exact ⟨k + 1, D9, d9, L ++ (SK ++ FF ++ (S3 ++ S5)).data.toList, by omega, by go_num, by rw [List.length_append, slen]; first | done | (simp [ByteArray.size_append, show (ByteArray.mk #[]).size = 0 from rfl]; done) | (congr 1; simp only [ByteArray.size_append, show (ByteArray.mk #[]).size = 0 from rfl]; omega), by unfold Hid; rw [← HI.out]; exact HS.out, r9, hbe.trans be9⟩
          case measure => simp [intOf]; omega
      · have ht : xs.take k = xs := List.take_of_length_le (by omega)
        rw [ht] at HL
        clear ht
        have hcv := conv8 row
        have HL2 : Hid (bs L = bs (imagesL xs)) := by unfold Hid; rw [HE.out, HL.out]
        go_wp2_with fail
        go_ret
        exact ⟨by rw [HL2.out]; first | done | rfl, hu⟩
end Go.Proofs.YtghphlfihakadaaGreatDoor
