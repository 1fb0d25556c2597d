/-
  The program's putImage.
-/
import Derived.Test.YtghphlfihakadaaGreatDoorKs
import Derived.Test.YtghphlfihakadaaGreatDoorIp
namespace Go.Proofs.YtghphlfihakadaaGreatDoor
open Go.RowKit
set_option linter.unusedVariables false
set_option linter.unusedSimpArgs false

def imageV1 (x : TImage) : ByteArray := if x.2.2.1 then (⟨#[]⟩ : ByteArray) ++ bs (shortL x.2.2.2.1) else ⟨#[]⟩
def imageV2 (x : TImage) : ByteArray := if x.2.2.2.2.1 then imageV1 x ++ bs (shortL x.2.2.2.2.2) else imageV1 x
def imageF (x : TImage) : Nat := (if x.2.2.1 then 1 else 0) + (if x.2.2.2.2.1 then 2 else 0)
def imageT (x : TImage) : ByteArray := bs (shortL (bs (keyOfL x.1 x.2.1))) ++ leS (imageF x) 1 ++ imageV2 x
theorem shortS (s : ByteArray) : (bs (shortL s)).size = s.size + 1 := by rw [bs_size]; simp [shortL]
set_option maxRecDepth 100000 in
set_option maxHeartbeats 8000000 in
theorem c_putImage (x : TImage) (v : Value) (w : World) (h : AV shImage w v x) (htab : Tab w) (hm : MaxL w) (h3 : x.2.2.2.1.size ≤ 64) (h5 : x.2.2.2.2.2.size ≤ 64) : Calls Tryz.prog 68 #[v] w (RetV (.string (imageT x)) w) := by
  obtain ⟨cs, rfl, h⟩ := h
  obtain ⟨A1, c1, rfl, b0, b1, b3, b5⟩ := openImage h
  obtain ⟨x0, x1, x2, x3, x4, x5⟩ := x
  simp only at b0 b1 b3 b5 h3 h5
  clear h
  have hkl : (bs (keyOfL x0 x1)).size ≤ 237 := by rw [bs_size]; exact keyOfL_len x0 x1
  have z3 := shortS x3
  have z5 := shortS x5
  have zk := shortS (bs (keyOfL x0 x1))
  have k0 := Bk.new w 87 #[.string x0, .slice A1 x1.length c1, .bool x2, .string x3, .bool x4, .string x5]
  have u0 : Up w (w.alloc (.cells #[.string x0, .slice A1 x1.length c1, .bool x2, .string x3, .bool x4, .string x5] 87)) := (Up.refl w).alloc _
  have c3 := fun W => c_short x3 W (by omega)
  have c5 := fun W => c_short x5 W (by omega)
  have cf := fun (n : Nat) (hn : n ≤ 3) W => c_little n 1 W (by omega) (by omega) (by omega)
  have cks := fun W => c_short (bs (keyOfL x0 x1)) W (by omega)
  have ck := fun W (u : Up w W) => c_KeyOf x0 x1 A1 c1 W b0 (b1.up good_S u) (tab_up htab u) (maxL_up hm u)
  have e0 : (ByteArray.mk #[]).size = 0 := rfl
  have l0 := leS_size 0 1
  have l1 := leS_size 1 1
  have l2 := leS_size 2 1
  have l3 := leS_size 3 1
  cases x2 <;> cases x4
  · have HE : Hid (imageT (x0, x1, false, x3, false, x5) = bs (shortL (bs (keyOfL x0 x1))) ++ leS 0 1 ++ (⟨#[]⟩ : ByteArray)) := rfl
    have gk : ¬ 9223372036854775807 < (bs (shortL (bs (keyOfL x0 x1)))).size + (leS 0 1).size := by omega
    have gl : ¬ 9223372036854775807 < (bs (shortL (bs (keyOfL x0 x1))) ++ leS 0 1).size + (⟨#[]⟩ : ByteArray).size := by simp only [ByteArray.size_append]; omega
    have CF := Lib.hid (cf 0 (by omega))
    have CK := Lib.hid ck
    have CS := Lib.hid cks
    have C3 := Lib.hid c3
    have C5 := Lib.hid c5
    clear cf ck cks c3 c5 z3 z5 zk hkl l0 l1 l2 l3 e0
    generalize bs (shortL (bs (keyOfL x0 x1))) = SK at *
    generalize bs (keyOfL x0 x1) = KK at *
    generalize bs (shortL x3) = S3 at *
    generalize bs (shortL x5) = S5 at *
    generalize leS 0 1 = FF at *
    go_enter Tryz.func68, Tryz.ntmps68
    go_wp2_with fail
    have uu0 := u0
    refine (CK.out _ uu0).mono ?_
    rintro e w1 ⟨rfl, u1⟩
    have k1 := k0.up u1
    have uu1 := uu0.trans u1
    have g1_0 : w1.cell? ⟨w.heap.size, 0, none⟩ = some (.string x0) := k1.cell 0
    have g1_1 : w1.cell? ⟨w.heap.size, 1, none⟩ = some (.slice A1 x1.length c1) := k1.cell 1
    have g1_2 : w1.cell? ⟨w.heap.size, 2, none⟩ = some (.bool _) := k1.cell 2
    have g1_3 : w1.cell? ⟨w.heap.size, 3, none⟩ = some (.string x3) := k1.cell 3
    have g1_4 : w1.cell? ⟨w.heap.size, 4, none⟩ = some (.bool _) := k1.cell 4
    have g1_5 : w1.cell? ⟨w.heap.size, 5, none⟩ = some (.string x5) := k1.cell 5
    go_wp2_with fail
    refine (CS.out _).mono ?_
    rintro e w2 ⟨rfl, u2⟩
    have k2 := k1.up u2
    have uu2 := uu1.trans u2
    have g2_0 : w2.cell? ⟨w.heap.size, 0, none⟩ = some (.string x0) := k2.cell 0
    have g2_1 : w2.cell? ⟨w.heap.size, 1, none⟩ = some (.slice A1 x1.length c1) := k2.cell 1
    have g2_2 : w2.cell? ⟨w.heap.size, 2, none⟩ = some (.bool _) := k2.cell 2
    have g2_3 : w2.cell? ⟨w.heap.size, 3, none⟩ = some (.string x3) := k2.cell 3
    have g2_4 : w2.cell? ⟨w.heap.size, 4, none⟩ = some (.bool _) := k2.cell 4
    have g2_5 : w2.cell? ⟨w.heap.size, 5, none⟩ = some (.string x5) := k2.cell 5
    go_wp2_with fail
    refine (CF.out _).mono ?_
    rintro e w3 ⟨rfl, u3⟩
    have k3 := k2.up u3
    have uu3 := uu2.trans u3
    have g3_0 : w3.cell? ⟨w.heap.size, 0, none⟩ = some (.string x0) := k3.cell 0
    have g3_1 : w3.cell? ⟨w.heap.size, 1, none⟩ = some (.slice A1 x1.length c1) := k3.cell 1
    have g3_2 : w3.cell? ⟨w.heap.size, 2, none⟩ = some (.bool _) := k3.cell 2
    have g3_3 : w3.cell? ⟨w.heap.size, 3, none⟩ = some (.string x3) := k3.cell 3
    have g3_4 : w3.cell? ⟨w.heap.size, 4, none⟩ = some (.bool _) := k3.cell 4
    have g3_5 : w3.cell? ⟨w.heap.size, 5, none⟩ = some (.string x5) := k3.cell 5
    go_wp2_with fail
    go_ret
    exact ⟨by rw [HE.out]; first | done | rfl, uu3⟩
  · have HE : Hid (imageT (x0, x1, false, x3, true, x5) = bs (shortL (bs (keyOfL x0 x1))) ++ leS 2 1 ++ ((⟨#[]⟩ : ByteArray) ++ bs (shortL x5))) := rfl
    have g5 : ¬ 9223372036854775807 < (⟨#[]⟩ : ByteArray).size + (bs (shortL x5)).size := by first | (rw [ByteArray.size_append]; omega) | omega
    have gk : ¬ 9223372036854775807 < (bs (shortL (bs (keyOfL x0 x1)))).size + (leS 2 1).size := by omega
    have gl : ¬ 9223372036854775807 < (bs (shortL (bs (keyOfL x0 x1))) ++ leS 2 1).size + ((⟨#[]⟩ : ByteArray) ++ bs (shortL x5)).size := by simp only [ByteArray.size_append]; omega
    have CF := Lib.hid (cf 2 (by omega))
    have CK := Lib.hid ck
    have CS := Lib.hid cks
    have C3 := Lib.hid c3
    have C5 := Lib.hid c5
    clear cf ck cks c3 c5 z3 z5 zk hkl l0 l1 l2 l3 e0
    generalize bs (shortL (bs (keyOfL x0 x1))) = SK at *
    generalize bs (keyOfL x0 x1) = KK at *
    generalize bs (shortL x3) = S3 at *
    generalize bs (shortL x5) = S5 at *
    generalize leS 2 1 = FF at *
    go_enter Tryz.func68, Tryz.ntmps68
    go_wp2_with fail
    have uu0 := u0
    refine (C5.out _).mono ?_
    rintro e w1 ⟨rfl, u1⟩
    have k1 := k0.up u1
    have uu1 := uu0.trans u1
    have g1_0 : w1.cell? ⟨w.heap.size, 0, none⟩ = some (.string x0) := k1.cell 0
    have g1_1 : w1.cell? ⟨w.heap.size, 1, none⟩ = some (.slice A1 x1.length c1) := k1.cell 1
    have g1_2 : w1.cell? ⟨w.heap.size, 2, none⟩ = some (.bool _) := k1.cell 2
    have g1_3 : w1.cell? ⟨w.heap.size, 3, none⟩ = some (.string x3) := k1.cell 3
    have g1_4 : w1.cell? ⟨w.heap.size, 4, none⟩ = some (.bool _) := k1.cell 4
    have g1_5 : w1.cell? ⟨w.heap.size, 5, none⟩ = some (.string x5) := k1.cell 5
    go_wp2_with fail
    refine (CK.out _ uu1).mono ?_
    rintro e w2 ⟨rfl, u2⟩
    have k2 := k1.up u2
    have uu2 := uu1.trans u2
    have g2_0 : w2.cell? ⟨w.heap.size, 0, none⟩ = some (.string x0) := k2.cell 0
    have g2_1 : w2.cell? ⟨w.heap.size, 1, none⟩ = some (.slice A1 x1.length c1) := k2.cell 1
    have g2_2 : w2.cell? ⟨w.heap.size, 2, none⟩ = some (.bool _) := k2.cell 2
    have g2_3 : w2.cell? ⟨w.heap.size, 3, none⟩ = some (.string x3) := k2.cell 3
    have g2_4 : w2.cell? ⟨w.heap.size, 4, none⟩ = some (.bool _) := k2.cell 4
    have g2_5 : w2.cell? ⟨w.heap.size, 5, none⟩ = some (.string x5) := k2.cell 5
    go_wp2_with fail
    refine (CS.out _).mono ?_
    rintro e w3 ⟨rfl, u3⟩
    have k3 := k2.up u3
    have uu3 := uu2.trans u3
    have g3_0 : w3.cell? ⟨w.heap.size, 0, none⟩ = some (.string x0) := k3.cell 0
    have g3_1 : w3.cell? ⟨w.heap.size, 1, none⟩ = some (.slice A1 x1.length c1) := k3.cell 1
    have g3_2 : w3.cell? ⟨w.heap.size, 2, none⟩ = some (.bool _) := k3.cell 2
    have g3_3 : w3.cell? ⟨w.heap.size, 3, none⟩ = some (.string x3) := k3.cell 3
    have g3_4 : w3.cell? ⟨w.heap.size, 4, none⟩ = some (.bool _) := k3.cell 4
    have g3_5 : w3.cell? ⟨w.heap.size, 5, none⟩ = some (.string x5) := k3.cell 5
    go_wp2_with fail
    refine (CF.out _).mono ?_
    rintro e w4 ⟨rfl, u4⟩
    have k4 := k3.up u4
    have uu4 := uu3.trans u4
    have g4_0 : w4.cell? ⟨w.heap.size, 0, none⟩ = some (.string x0) := k4.cell 0
    have g4_1 : w4.cell? ⟨w.heap.size, 1, none⟩ = some (.slice A1 x1.length c1) := k4.cell 1
    have g4_2 : w4.cell? ⟨w.heap.size, 2, none⟩ = some (.bool _) := k4.cell 2
    have g4_3 : w4.cell? ⟨w.heap.size, 3, none⟩ = some (.string x3) := k4.cell 3
    have g4_4 : w4.cell? ⟨w.heap.size, 4, none⟩ = some (.bool _) := k4.cell 4
    have g4_5 : w4.cell? ⟨w.heap.size, 5, none⟩ = some (.string x5) := k4.cell 5
    go_wp2_with fail
    go_ret
    exact ⟨by rw [HE.out]; first | done | rfl, uu4⟩
  · have HE : Hid (imageT (x0, x1, true, x3, false, x5) = bs (shortL (bs (keyOfL x0 x1))) ++ leS 1 1 ++ ((⟨#[]⟩ : ByteArray) ++ bs (shortL x3))) := rfl
    have g3 : ¬ 9223372036854775807 < (⟨#[]⟩ : ByteArray).size + (bs (shortL x3)).size := by omega
    have gk : ¬ 9223372036854775807 < (bs (shortL (bs (keyOfL x0 x1)))).size + (leS 1 1).size := by omega
    have gl : ¬ 9223372036854775807 < (bs (shortL (bs (keyOfL x0 x1))) ++ leS 1 1).size + ((⟨#[]⟩ : ByteArray) ++ bs (shortL x3)).size := by simp only [ByteArray.size_append]; omega
    have CF := Lib.hid (cf 1 (by omega))
    have CK := Lib.hid ck
    have CS := Lib.hid cks
    have C3 := Lib.hid c3
    have C5 := Lib.hid c5
    clear cf ck cks c3 c5 z3 z5 zk hkl l0 l1 l2 l3 e0
    generalize bs (shortL (bs (keyOfL x0 x1))) = SK at *
    generalize bs (keyOfL x0 x1) = KK at *
    generalize bs (shortL x3) = S3 at *
    generalize bs (shortL x5) = S5 at *
    generalize leS 1 1 = FF at *
    go_enter Tryz.func68, Tryz.ntmps68
    go_wp2_with fail
    have uu0 := u0
    refine (C3.out _).mono ?_
    rintro e w1 ⟨rfl, u1⟩
    have k1 := k0.up u1
    have uu1 := uu0.trans u1
    have g1_0 : w1.cell? ⟨w.heap.size, 0, none⟩ = some (.string x0) := k1.cell 0
    have g1_1 : w1.cell? ⟨w.heap.size, 1, none⟩ = some (.slice A1 x1.length c1) := k1.cell 1
    have g1_2 : w1.cell? ⟨w.heap.size, 2, none⟩ = some (.bool _) := k1.cell 2
    have g1_3 : w1.cell? ⟨w.heap.size, 3, none⟩ = some (.string x3) := k1.cell 3
    have g1_4 : w1.cell? ⟨w.heap.size, 4, none⟩ = some (.bool _) := k1.cell 4
    have g1_5 : w1.cell? ⟨w.heap.size, 5, none⟩ = some (.string x5) := k1.cell 5
    go_wp2_with fail
    refine (CK.out _ uu1).mono ?_
    rintro e w2 ⟨rfl, u2⟩
    have k2 := k1.up u2
    have uu2 := uu1.trans u2
    have g2_0 : w2.cell? ⟨w.heap.size, 0, none⟩ = some (.string x0) := k2.cell 0
    have g2_1 : w2.cell? ⟨w.heap.size, 1, none⟩ = some (.slice A1 x1.length c1) := k2.cell 1
    have g2_2 : w2.cell? ⟨w.heap.size, 2, none⟩ = some (.bool _) := k2.cell 2
    have g2_3 : w2.cell? ⟨w.heap.size, 3, none⟩ = some (.string x3) := k2.cell 3
    have g2_4 : w2.cell? ⟨w.heap.size, 4, none⟩ = some (.bool _) := k2.cell 4
    have g2_5 : w2.cell? ⟨w.heap.size, 5, none⟩ = some (.string x5) := k2.cell 5
    go_wp2_with fail
    refine (CS.out _).mono ?_
    rintro e w3 ⟨rfl, u3⟩
    have k3 := k2.up u3
    have uu3 := uu2.trans u3
    have g3_0 : w3.cell? ⟨w.heap.size, 0, none⟩ = some (.string x0) := k3.cell 0
    have g3_1 : w3.cell? ⟨w.heap.size, 1, none⟩ = some (.slice A1 x1.length c1) := k3.cell 1
    have g3_2 : w3.cell? ⟨w.heap.size, 2, none⟩ = some (.bool _) := k3.cell 2
    have g3_3 : w3.cell? ⟨w.heap.size, 3, none⟩ = some (.string x3) := k3.cell 3
    have g3_4 : w3.cell? ⟨w.heap.size, 4, none⟩ = some (.bool _) := k3.cell 4
    have g3_5 : w3.cell? ⟨w.heap.size, 5, none⟩ = some (.string x5) := k3.cell 5
    go_wp2_with fail
    refine (CF.out _).mono ?_
    rintro e w4 ⟨rfl, u4⟩
    have k4 := k3.up u4
    have uu4 := uu3.trans u4
    have g4_0 : w4.cell? ⟨w.heap.size, 0, none⟩ = some (.string x0) := k4.cell 0
    have g4_1 : w4.cell? ⟨w.heap.size, 1, none⟩ = some (.slice A1 x1.length c1) := k4.cell 1
    have g4_2 : w4.cell? ⟨w.heap.size, 2, none⟩ = some (.bool _) := k4.cell 2
    have g4_3 : w4.cell? ⟨w.heap.size, 3, none⟩ = some (.string x3) := k4.cell 3
    have g4_4 : w4.cell? ⟨w.heap.size, 4, none⟩ = some (.bool _) := k4.cell 4
    have g4_5 : w4.cell? ⟨w.heap.size, 5, none⟩ = some (.string x5) := k4.cell 5
    go_wp2_with fail
    go_ret
    exact ⟨by rw [HE.out]; first | done | rfl, uu4⟩
  · have HE : Hid (imageT (x0, x1, true, x3, true, x5) = bs (shortL (bs (keyOfL x0 x1))) ++ leS 3 1 ++ (((⟨#[]⟩ : ByteArray) ++ bs (shortL x3)) ++ bs (shortL x5))) := rfl
    have g3 : ¬ 9223372036854775807 < (⟨#[]⟩ : ByteArray).size + (bs (shortL x3)).size := by omega
    have g5 : ¬ 9223372036854775807 < ((⟨#[]⟩ : ByteArray) ++ bs (shortL x3)).size + (bs (shortL x5)).size := by first | (rw [ByteArray.size_append]; omega) | omega
    have gk : ¬ 9223372036854775807 < (bs (shortL (bs (keyOfL x0 x1)))).size + (leS 3 1).size := by omega
    have gl : ¬ 9223372036854775807 < (bs (shortL (bs (keyOfL x0 x1))) ++ leS 3 1).size + (((⟨#[]⟩ : ByteArray) ++ bs (shortL x3)) ++ bs (shortL x5)).size := by simp only [ByteArray.size_append]; omega
    have CF := Lib.hid (cf 3 (by omega))
    have CK := Lib.hid ck
    have CS := Lib.hid cks
    have C3 := Lib.hid c3
    have C5 := Lib.hid c5
    clear cf ck cks c3 c5 z3 z5 zk hkl l0 l1 l2 l3 e0
    generalize bs (shortL (bs (keyOfL x0 x1))) = SK at *
    generalize bs (keyOfL x0 x1) = KK at *
    generalize bs (shortL x3) = S3 at *
    generalize bs (shortL x5) = S5 at *
    generalize leS 3 1 = FF at *
    go_enter Tryz.func68, Tryz.ntmps68
    go_wp2_with fail
    have uu0 := u0
    refine (C3.out _).mono ?_
    rintro e w1 ⟨rfl, u1⟩
    have k1 := k0.up u1
    have uu1 := uu0.trans u1
    have g1_0 : w1.cell? ⟨w.heap.size, 0, none⟩ = some (.string x0) := k1.cell 0
    have g1_1 : w1.cell? ⟨w.heap.size, 1, none⟩ = some (.slice A1 x1.length c1) := k1.cell 1
    have g1_2 : w1.cell? ⟨w.heap.size, 2, none⟩ = some (.bool _) := k1.cell 2
    have g1_3 : w1.cell? ⟨w.heap.size, 3, none⟩ = some (.string x3) := k1.cell 3
    have g1_4 : w1.cell? ⟨w.heap.size, 4, none⟩ = some (.bool _) := k1.cell 4
    have g1_5 : w1.cell? ⟨w.heap.size, 5, none⟩ = some (.string x5) := k1.cell 5
    go_wp2_with fail
    refine (C5.out _).mono ?_
    rintro e w2 ⟨rfl, u2⟩
    have k2 := k1.up u2
    have uu2 := uu1.trans u2
    have g2_0 : w2.cell? ⟨w.heap.size, 0, none⟩ = some (.string x0) := k2.cell 0
    have g2_1 : w2.cell? ⟨w.heap.size, 1, none⟩ = some (.slice A1 x1.length c1) := k2.cell 1
    have g2_2 : w2.cell? ⟨w.heap.size, 2, none⟩ = some (.bool _) := k2.cell 2
    have g2_3 : w2.cell? ⟨w.heap.size, 3, none⟩ = some (.string x3) := k2.cell 3
    have g2_4 : w2.cell? ⟨w.heap.size, 4, none⟩ = some (.bool _) := k2.cell 4
    have g2_5 : w2.cell? ⟨w.heap.size, 5, none⟩ = some (.string x5) := k2.cell 5
    go_wp2_with fail
    refine (CK.out _ uu2).mono ?_
    rintro e w3 ⟨rfl, u3⟩
    have k3 := k2.up u3
    have uu3 := uu2.trans u3
    have g3_0 : w3.cell? ⟨w.heap.size, 0, none⟩ = some (.string x0) := k3.cell 0
    have g3_1 : w3.cell? ⟨w.heap.size, 1, none⟩ = some (.slice A1 x1.length c1) := k3.cell 1
    have g3_2 : w3.cell? ⟨w.heap.size, 2, none⟩ = some (.bool _) := k3.cell 2
    have g3_3 : w3.cell? ⟨w.heap.size, 3, none⟩ = some (.string x3) := k3.cell 3
    have g3_4 : w3.cell? ⟨w.heap.size, 4, none⟩ = some (.bool _) := k3.cell 4
    have g3_5 : w3.cell? ⟨w.heap.size, 5, none⟩ = some (.string x5) := k3.cell 5
    go_wp2_with fail
    refine (CS.out _).mono ?_
    rintro e w4 ⟨rfl, u4⟩
    have k4 := k3.up u4
    have uu4 := uu3.trans u4
    have g4_0 : w4.cell? ⟨w.heap.size, 0, none⟩ = some (.string x0) := k4.cell 0
    have g4_1 : w4.cell? ⟨w.heap.size, 1, none⟩ = some (.slice A1 x1.length c1) := k4.cell 1
    have g4_2 : w4.cell? ⟨w.heap.size, 2, none⟩ = some (.bool _) := k4.cell 2
    have g4_3 : w4.cell? ⟨w.heap.size, 3, none⟩ = some (.string x3) := k4.cell 3
    have g4_4 : w4.cell? ⟨w.heap.size, 4, none⟩ = some (.bool _) := k4.cell 4
    have g4_5 : w4.cell? ⟨w.heap.size, 5, none⟩ = some (.string x5) := k4.cell 5
    go_wp2_with fail
    refine (CF.out _).mono ?_
    rintro e w5 ⟨rfl, u5⟩
    have k5 := k4.up u5
    have uu5 := uu4.trans u5
    have g5_0 : w5.cell? ⟨w.heap.size, 0, none⟩ = some (.string x0) := k5.cell 0
    have g5_1 : w5.cell? ⟨w.heap.size, 1, none⟩ = some (.slice A1 x1.length c1) := k5.cell 1
    have g5_2 : w5.cell? ⟨w.heap.size, 2, none⟩ = some (.bool _) := k5.cell 2
    have g5_3 : w5.cell? ⟨w.heap.size, 3, none⟩ = some (.string x3) := k5.cell 3
    have g5_4 : w5.cell? ⟨w.heap.size, 4, none⟩ = some (.bool _) := k5.cell 4
    have g5_5 : w5.cell? ⟨w.heap.size, 5, none⟩ = some (.string x5) := k5.cell 5
    go_wp2_with fail
    go_ret
    exact ⟨by rw [HE.out]; first | done | rfl, uu5⟩
end Go.Proofs.YtghphlfihakadaaGreatDoor
