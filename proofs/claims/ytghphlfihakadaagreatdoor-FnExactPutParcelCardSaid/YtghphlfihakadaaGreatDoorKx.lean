/-
  PutImages and PutParcel: both sides' contracts in the form of the laws' walks.
-/
import Derived.Test.YtghphlfihakadaaGreatDoorKv
import Derived.Test.YtghphlfihakadaaGreatDoorPk
namespace Go.Proofs.YtghphlfihakadaaGreatDoor
open Go.RowKit
set_option linter.unusedVariables false
set_option linter.unusedSimpArgs false

theorem cs_PutImages (A : Option Addr) (c : Nat) (xs : List TImage) (w : World) (h : SRW shImage w A c xs) (hn : (shL shImage).sz xs ≤ 1048576) :
    Calls Tryz.prog 14 #[.slice A xs.length c] w (RetV (.string (bs (imagesL xs))) w) := c_specPutImages xs A c w h hn
theorem ci_PutImages (A : Option Addr) (c : Nat) (xs : List TImage) (w : World) (h : SRW shImage w A c xs) (hn : (shL shImage).sz xs ≤ 1048576) (htab : Tab w) (hm : MaxL w) :
    Calls Tryz.prog 16 #[.slice A xs.length c] w (RetV (.string (bs (imagesL xs))) w) := c_PutImages xs A c w h hn htab hm
theorem imagesL_len (xs : List TImage) : (bs (imagesL xs)).size ≤ 100000 := by
  rw [bs_size]
  unfold imagesL
  split
  · rename_i h
    have hp : ImagesP xs := of_decide_eq_true h
    have h1 := imgs_len (imgs_all hp)
    have h2 := leL_len 1 xs.length
    have h3 := hp.1
    rw [List.length_append]
    omega
  · simp
def parcelT (x : TParcel) : ByteArray := if parcelB x = true then leS x.1.toNat 4 ++ bs (imagesL x.2) else ⟨#[]⟩
set_option maxRecDepth 100000 in
set_option maxHeartbeats 8000000 in
theorem cs_PutParcel (v : Value) (x : TParcel) (w : World) (h : AV shParcel w v x) (hn : shParcel.sz x ≤ 1048576) :
    Calls Tryz.prog 24 #[v] w (RetV (.string (parcelT x)) w) := by
  have hv := h
  obtain ⟨cs, rfl, h⟩ := h
  obtain ⟨A1, c1, rfl, b0, b1⟩ := openParcel h
  obtain ⟨x0, x1⟩ := x
  simp only at b0 b1
  clear h
  have hn1 : (shL shImage).sz x1 ≤ 1048576 := by
    have : shParcel.sz (x0, x1) = 0 + (shL shImage).sz x1 := rfl
    omega
  have k0 := Bk.new w 45 #[.int .i64 x0, .slice A1 x1.length c1]
  have u0 : Up w (w.alloc (.cells #[.int .i64 x0, .slice A1 x1.length c1] 45)) := (Up.refl w).alloc _
  have cp := fun W (hW : Up w W) => cs_ParcelOk _ (x0, x1) W (hv.up good_Parcel hW) hn
  cases hp : parcelB (x0, x1)
  · have HE : Hid (parcelT (x0, x1) = ⟨#[]⟩) := by unfold Hid parcelT; rw [if_neg (by rw [hp]; simp)]
    rw [hp] at cp
    have CP := Lib.hid cp
    clear cp hp
    go_enter Tryz.func24, Tryz.ntmps24
    go_wp2_with fail
    refine (CP.out _ u0).mono ?_
    rintro e w1 ⟨rfl, u1⟩
    go_wp2_with fail
    go_ret
    exact ⟨by rw [HE.out]; first | done | rfl, u0.trans u1⟩
  · have HE : Hid (parcelT (x0, x1) = leS x0.toNat 4 ++ bs (imagesL x1)) := by unfold Hid parcelT; rw [if_pos hp]
    have hin : 1 ≤ x0 ∧ x0 ≤ 2000000000 := by
      simp only [parcelB, Bool.and_eq_true] at hp
      exact inB_t.1 hp.1
    have hx : x0 = ((x0.toNat : Nat) : Int) := by omega
    have cl := fun W => c_l18Fix x0.toNat 4 W (by omega) (by omega) (by omega)
    rw [← hx] at cl
    have ci := fun W (hW : Up w W) => c_specPutImages x1 A1 c1 W (b1.up good_Image hW) hn1
    have z1 := leS_size x0.toNat 4
    have z2 := imagesL_len x1
    rw [hp] at cp
    generalize leS x0.toNat 4 = P at *
    generalize bs (imagesL x1) = Q at *
    have hg : ¬ 9223372036854775807 < P.size + Q.size := by omega
    have CP := Lib.hid cp
    have CL := Lib.hid cl
    have CI := Lib.hid ci
    clear cp cl ci hp hin hx z1 z2 hn1
    go_enter Tryz.func24, Tryz.ntmps24
    go_wp2_with fail
    refine (CP.out _ u0).mono ?_
    rintro e w1 ⟨rfl, u1⟩
    have k1 := k0.up u1
    have uu1 := u0.trans u1
    have t0 := fun t : UpT w1 => cell_up t (k1.cell 0 : w1.cell? ⟨w.heap.size, 0, none⟩ = some (.int .i64 x0))
    have t1 := fun t : UpT w1 => cell_up t (k1.cell 1 : w1.cell? ⟨w.heap.size, 1, none⟩ = some (.slice A1 x1.length c1))
    go_wp2_with fail
    refine wp_region_up (by kernel_rfl) (by kernel_rfl) ?_
    repeat (go_big_quiet_step (first | (go_at_call 82; exact up_call (CL.out _) (UpT.up _)) | (go_at_call 14; exact up_call (CI.out _ (uu1.trans (UpT.up _))) (UpT.up _))))
    refine wpQuiet_nil ?_
    rintro _ ⟨⟨w2, u2⟩, rfl⟩
    go_wp2_with fail
    go_ret
    exact ⟨by rw [HE.out]; first | done | rfl, uu1.trans u2⟩
set_option maxRecDepth 100000 in
set_option maxHeartbeats 8000000 in
theorem ci_PutParcel (v : Value) (x : TParcel) (w : World) (h : AV shParcel w v x) (hn : shParcel.sz x ≤ 1048576) (htab : Tab w) (hm : MaxL w) :
    Calls Tryz.prog 26 #[v] w (RetV (.string (parcelT x)) w) := by
  have hv := h
  obtain ⟨cs, rfl, h⟩ := h
  obtain ⟨A1, c1, rfl, b0, b1⟩ := openParcel h
  obtain ⟨x0, x1⟩ := x
  simp only at b0 b1
  clear h
  have hn1 : (shL shImage).sz x1 ≤ 1048576 := by
    have : shParcel.sz (x0, x1) = 0 + (shL shImage).sz x1 := rfl
    omega
  have k0 := Bk.new w 45 #[.int .i64 x0, .slice A1 x1.length c1]
  have u0 : Up w (w.alloc (.cells #[.int .i64 x0, .slice A1 x1.length c1] 45)) := (Up.refl w).alloc _
  have cp := fun W (hW : Up w W) => ci_ParcelOk _ (x0, x1) W (hv.up good_Parcel hW) hn (tab_up htab hW)
  cases hp : parcelB (x0, x1)
  · have HE : Hid (parcelT (x0, x1) = ⟨#[]⟩) := by unfold Hid parcelT; rw [if_neg (by rw [hp]; simp)]
    rw [hp] at cp
    have CP := Lib.hid cp
    clear cp hp
    go_enter Tryz.func26, Tryz.ntmps26
    go_wp2_with fail
    refine (CP.out _ u0).mono ?_
    rintro e w1 ⟨rfl, u1⟩
    go_wp2_with fail
    go_ret
    exact ⟨by rw [HE.out]; first | done | rfl, u0.trans u1⟩
  · have HE : Hid (parcelT (x0, x1) = leS x0.toNat 4 ++ bs (imagesL x1)) := by unfold Hid parcelT; rw [if_pos hp]
    have hin : 1 ≤ x0 ∧ x0 ≤ 2000000000 := by
      simp only [parcelB, Bool.and_eq_true] at hp
      exact inB_t.1 hp.1
    have hx : x0 = ((x0.toNat : Nat) : Int) := by omega
    have cl := fun W => c_little x0.toNat 4 W (by omega) (by omega) (by omega)
    rw [← hx] at cl
    have ci := fun W (hW : Up w W) => c_PutImages x1 A1 c1 W (b1.up good_Image hW) hn1 (tab_up htab hW) (maxL_up hm hW)
    have z1 := leS_size x0.toNat 4
    have z2 := imagesL_len x1
    rw [hp] at cp
    generalize leS x0.toNat 4 = P at *
    generalize bs (imagesL x1) = Q at *
    have hg : ¬ 9223372036854775807 < P.size + Q.size := by omega
    have CP := Lib.hid cp
    have CL := Lib.hid cl
    have CI := Lib.hid ci
    clear cp cl ci hp hin hx z1 z2 hn1
    go_enter Tryz.func26, Tryz.ntmps26
    go_wp2_with fail
    refine (CP.out _ u0).mono ?_
    rintro e w1 ⟨rfl, u1⟩
    have k1 := k0.up u1
    have uu1 := u0.trans u1
    have t0 := fun t : UpT w1 => cell_up t (k1.cell 0 : w1.cell? ⟨w.heap.size, 0, none⟩ = some (.int .i64 x0))
    have t1 := fun t : UpT w1 => cell_up t (k1.cell 1 : w1.cell? ⟨w.heap.size, 1, none⟩ = some (.slice A1 x1.length c1))
    go_wp2_with fail
    refine wp_region_up (by kernel_rfl) (by kernel_rfl) ?_
    repeat (go_big_quiet_step (first | (go_at_call 66; exact up_call (CL.out _) (UpT.up _)) | (go_at_call 16; exact up_call (CI.out _ (uu1.trans (UpT.up _))) (UpT.up _))))
    refine wpQuiet_nil ?_
    rintro _ ⟨⟨w2, u2⟩, rfl⟩
    go_wp2_with fail
    go_ret
    exact ⟨by rw [HE.out]; first | done | rfl, uu1.trans u2⟩
end Go.Proofs.YtghphlfihakadaaGreatDoor
