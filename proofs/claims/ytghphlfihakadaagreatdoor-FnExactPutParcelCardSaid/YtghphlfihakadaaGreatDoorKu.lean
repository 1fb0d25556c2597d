/-
  The program's PutImages.
-/
import Derived.Test.YtghphlfihakadaaGreatDoorKt
namespace Go.Proofs.YtghphlfihakadaaGreatDoor
open Go.RowKit
set_option linter.unusedVariables false
set_option linter.unusedSimpArgs false

def imageL (x : TImage) : List UInt8 := (imageT x).data.toList
def imagesL (xs : List TImage) : List UInt8 := if imagesB xs = true then leL xs.length 1 ++ xs.flatMap imageL else []
theorem img_sizes {x : TImage} (h : imgB x = true) : x.2.2.2.1.size ≤ 64 ∧ x.2.2.2.2.2.size ≤ 64 := by
  simp only [imgB, Bool.and_eq_true, Bool.not_eq_true', Bool.or_eq_false_iff, decide_eq_false_iff_not] at h
  omega
theorem imageT_size {x : TImage} (h3 : x.2.2.2.1.size ≤ 64) (h5 : x.2.2.2.2.2.size ≤ 64) : (imageT x).size ≤ 400 := by
  have hk : (bs (keyOfL x.1 x.2.1)).size ≤ 237 := by rw [bs_size]; exact keyOfL_len x.1 x.2.1
  have zk := shortS (bs (keyOfL x.1 x.2.1))
  have z3 := shortS x.2.2.2.1
  have z5 := shortS x.2.2.2.2.2
  have z1 := leS_size (imageF x) 1
  have e0 : (ByteArray.mk #[]).size = 0 := rfl
  have v1 : (imageV1 x).size ≤ 65 := by
    unfold imageV1
    split
    · rw [ByteArray.size_append]; omega
    · omega
  have v2 : (imageV2 x).size ≤ 130 := by
    unfold imageV2
    split
    · rw [ByteArray.size_append]; omega
    · omega
  unfold imageT
  rw [ByteArray.size_append, ByteArray.size_append]
  omega
theorem imgs_snoc (xs : List TImage) {k : Nat} (h : k < xs.length) : (xs.take (k + 1)).flatMap imageL = (xs.take k).flatMap imageL ++ imageL xs[k] := by
  rw [List.take_succ_eq_append_getElem h, List.flatMap_append]
  simp
theorem imgs_len {xs : List TImage} (h : ∀ x ∈ xs, imgB x = true) : (xs.flatMap imageL).length ≤ 400 * xs.length := by
  induction xs with
  | nil => simp
  | cons x xs ih =>
    have h1 := ih fun y hy => h y (List.mem_cons_of_mem _ hy)
    have h2 := img_sizes (h x (List.mem_cons_self ..))
    have h3 := imageT_size h2.1 h2.2
    have h4 : (imageL x).length = (imageT x).size := slen _
    simp only [List.flatMap_cons, List.length_append, List.length_cons]
    omega
theorem imgs_all {xs : List TImage} (h : ImagesP xs) : ∀ x ∈ xs, imgB x = true := fun x hx => by
  obtain ⟨i, hi, rfl⟩ := List.getElem_of_mem hx
  exact (h.2 i hi).1
theorem c_countImage (xs : List TImage) (A : Option Addr) (c : Nat) (w : World) (h : xs.length ≤ 9223372036854775807) : Calls Tryz.prog 67 #[.slice A xs.length c] w fun e w' => e = .returned (.int .i64 xs.length) ∧ w = w' := by
  go_enter Tryz.func67, Tryz.ntmps67
  go_wp2_with fail
  go_ret
  exact ⟨rfl, rfl⟩
set_option maxRecDepth 100000 in
set_option maxHeartbeats 8000000 in
theorem c_PutImages (xs : List TImage) (A : Option Addr) (c : Nat) (w : World) (h : SRW shImage w A c xs) (hn : (shL shImage).sz xs ≤ 1048576) (htab : Tab w) (hm : MaxL w) :
    Calls Tryz.prog 16 #[.slice A xs.length c] w (RetV (.string (bs (imagesL xs))) w) := by
  cases hb : imagesB xs
  · have HE : Hid (bs (imagesL xs) = ⟨#[]⟩) := by unfold Hid imagesL; rw [if_neg (by rw [hb]; simp)]; rfl
    go_enter Tryz.func16, Tryz.ntmps16
    go_wp2_with fail
    refine (c_implImagesOk xs A c _ h hn htab).mono ?_
    rintro e w1 ⟨rfl, u1⟩
    rw [hb]
    go_wp2_with fail
    go_ret
    exact ⟨by rw [HE.out]; first | done | rfl, u1⟩
  · have HE : Hid (bs (imagesL xs) = bs (leL xs.length 1 ++ xs.flatMap imageL)) := by unfold Hid imagesL; rw [if_pos hb]
    have HP0 : ImagesP xs := of_decide_eq_true hb
    have HP : Hid (ImagesP xs) := HP0
    clear HP0
    have hlen := h.len_le
    have h240 := HP.out.1
    go_enter Tryz.func16, Tryz.ntmps16
    go_wp2_with fail
    refine (c_implImagesOk xs A c _ h hn htab).mono ?_
    rintro e w1 ⟨rfl, u1⟩
    rw [hb]
    clear hn hb
    have h0 : 0 < w1.heap.size := Nat.lt_of_lt_of_le (by obtain ⟨m, hm⟩ := hm; exact cell_lt hm) u1.size
    have b0 : Bld8 w1.heap.size w1.heap.size [] (w1.alloc (.cells #[.pointer none, .slice none 0 0] 93)) := bld_new _ _ (Bk.new w1 93 #[.pointer none, .slice none 0 0])
    have ku0 : Up w1 (w1.alloc (.cells #[.pointer none, .slice none 0 0] 93)) := (Up.refl w1).alloc _
    go_wp2_with (go_at_call 67; refine (c_countImage _ _ _ _ hlen).mono ?_; rintro e w' ⟨rfl, rfl⟩)
    refine (c_little xs.length 1 _ (by omega) (by omega) (by omega)).mono ?_
    rintro e w2 ⟨rfl, u2⟩
    have b2 := bld_up b0 u2
    have ku2 := ku0.trans u2
    have hs2 := ku2.size
    have hz1 := leS_size xs.length 1
    go_wp2_with fail
    refine (c_WriteString w1.heap.size w1.heap.size _ _ w2 b2 (by simp only [List.length_nil]; omega) hs2).mono ?_
    rintro e w3 ⟨rfl, b3, k3, o3⟩
    have kk3 : Below w1.heap.size w1 w3 := Below.trans ku2 k3
    have b3' : Bld8 w1.heap.size w1.heap.size (leL xs.length 1 ++ (([] : List TImage).flatMap imageL)) w3 := b3
    clear b3 b2 b0 hz1
    go_wp2_with fail
    go_loopw [15] (fun i wr => ∃ k : Nat, k ≤ xs.length ∧ i = .int .i64 k ∧ Bld8 w1.heap.size w1.heap.size (leL xs.length 1 ++ (xs.take k).flatMap imageL) wr ∧ Below w1.heap.size w1 wr) (fun i _ => xs.length - (intOf i).toNat)
    case atStart => exact ⟨0, Nat.zero_le _, rfl, b3', kk3⟩
    case round =>
      obtain ⟨k, hk, rfl, br, kr⟩ := hrel
      have hu : Up w wr := u1.trans kr
      by_cases hlt : k < xs.length
      · have hsz := img_sizes (HP.out.2 k hlt).1
        have hts := imageT_size hsz.1 hsz.2
        have hil : (imageL xs[k]).length = (imageT xs[k]).size := slen _
        have hl1 := imgs_len (xs := xs.take k) (fun x hx => imgs_all HP.out x (List.mem_of_mem_take hx))
        rw [List.length_take] at hl1
        have hll := leL_len 1 xs.length
        have hsn := imgs_snoc xs hlt
        have HS := Lib.hid hsn
        have hl2 : (leL xs.length 1 ++ (xs.take k).flatMap imageL).length ≤ 1099511627776 := by rw [List.length_append]; omega
        have hsw := kr.size
        obtain ⟨g, off, A2, c2, rfl, _, hgl, hc0, hc1, hc2, hc3, hc4, hc5, b0, b1, b3, b5, _⟩ := atImage (h.up good_Image hu) hlt
        have av : ∀ W, Up wr W → AV shImage W (.agg #[.string xs[k].1, .slice A2 xs[k].2.1.length c2, .bool xs[k].2.2.1, .string xs[k].2.2.2.1, .bool xs[k].2.2.2.2.1, .string xs[k].2.2.2.2.2]) xs[k] := fun W hW => AV.up good_Image ⟨_, rfl, mkImage (x := xs[k]) b0 b1 b3 b5⟩ hW
        have cp := fun W (hW : Up wr W) => c_putImage xs[k] _ W (av W hW) (tab_up htab (hu.trans hW)) (maxL_up hm (hu.trans hW)) hsz.1 hsz.2
        have cw := fun W (hW : Up wr W) => c_WriteString w1.heap.size w1.heap.size _ (imageT xs[k]) W (bld_up br hW) (by omega) (Nat.le_trans hsw hW.size)
        have HI : Hid ((imageT xs[k]).data.toList = imageL xs[k]) := rfl
        generalize imageT xs[k] = T at *
        have CP := Lib.hid cp
        have CW := Lib.hid cw
        clear cp cw av hsn hl1 hts hil hll hsz
        go_wp2_with fail
        refine (CP.out _ (by first | exact Up.refl _ | exact (Up.refl wr).alloc _)).mono ?_
        rintro e w4 ⟨rfl, u4⟩
        have u4' : Up wr w4 := by first | exact u4 | exact ((Up.refl wr).alloc _).trans u4
        go_wp2_with fail
        refine (CW.out _ u4').mono ?_
        rintro e w5 ⟨rfl, b5', k5, o5⟩
        go_wp2_with fail
        go_roundw
        case rel => exact ⟨k + 1, by omega, by go_num, by rw [HS.out, ← List.append_assoc, ← HI.out]; exact b5', kr.trans ((Below.mono u4' hsw).trans k5)⟩
        case measure => simp [intOf]; omega
      · have ht : xs.take k = xs := List.take_of_length_le (by omega)
        rw [ht] at br
        clear ht
        have hsz := kr.size
        have cs := c_BString w1.heap.size w1.heap.size _ wr br hsz
        have CS := Lib.hid cs
        clear cs
        go_wp2_with fail
        refine CS.out.mono ?_
        rintro e w4 ⟨rfl, k4⟩
        go_wp2_with fail
        go_ret
        exact ⟨by rw [HE.out]; first | done | rfl, Up.below hu k4 u1.size⟩
end Go.Proofs.YtghphlfihakadaaGreatDoor
