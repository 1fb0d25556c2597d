/-
  The program's PutPage.
-/
import Derived.Test.YtpjcgglhlmifdaaGreatDoorShelfR
import Derived.Test.YtpjcgglhlmifdaaGreatDoorM1I
import Derived.Test.YtpjcgglhlmifdaaGreatDoorM1J
import Derived.Test.YtpjcgglhlmifdaaGreatDoorM1Le
namespace Go.Proofs.YtpjcgglhlmifdaaGreatDoor
open Go.RowKit
set_option linter.unusedVariables false
set_option linter.unusedSimpArgs false

theorem SO.U2 (w : World) (a b : UInt8) : SO shU (w.alloc (.cells #[.int .u8 (a.toNat : Int), .int .u8 (b.toNat : Int)] 5)) w.heap.size (w.alloc (.cells #[.int .u8 (a.toNat : Int), .int .u8 (b.toNat : Int)] 5)).heap.size (some ⟨w.heap.size, 0, none⟩) 2 [a, b] [w.heap.size] := by
  have h := SO.of_row (s := shU) (w := w.alloc (.cells #[.int .u8 (a.toNat : Int), .int .u8 (b.toNat : Int)] 5)) (lo := w.heap.size) (hi := (w.alloc (.cells #[.int .u8 (a.toNat : Int), .int .u8 (b.toNat : Int)] 5)).heap.size) (g := w.heap.size) (off := 0) (c := 2) (xs := [a, b]) (bls := [[], []]) (olds := [.int .u8 (a.toNat : Int), .int .u8 (b.toNat : Int)])
    (Nat.le_refl _) (by simp) (Bk.new w 5 #[.int .u8 (a.toNat : Int), .int .u8 (b.toNat : Int)]) (by show 0 + 2 * 1 ≤ 2; omega) (by simp) (by unfold maxLen; omega) rowed_UU (fun j hj => by simp)
  simpa using h
theorem rowed_bytes (s : ByteArray) {w : World} {lo hi : Nat} : Rowed shU w lo hi (byteCells s) s.data.toList (List.replicate s.data.toList.length []) := by
  have hl : (byteCells s).length = s.data.toList.length := by simp [byteCells]
  refine ⟨by simp, by rw [hl]; show _ = _ * 1; omega, fun i hi => ⟨[.int .u8 (s.data.toList[i].toNat : Int)], [], by rw [List.getElem?_replicate, if_pos hi], rfl, fun j hj => ?_, rfl, rfl⟩⟩
  obtain rfl : j = 0 := (by have : j < 1 := hj; omega)
  have e : i * shU.size + 0 = i := by show i * 1 + 0 = i; omega
  rw [e]
  have h2 : i < s.data.size := by simpa using hi
  have h3 : s.data[i]? = some s.data[i] := Array.getElem?_eq_getElem h2
  simp [byteCells, h3]
theorem pageK_ge (x : TPage) : ∀ k, 2 ≤ (pageK x k).length
  | 0 => by unfold pageK pageH; simp
  | k + 1 => by
    have := pageK_ge x k
    unfold pageK
    rw [List.length_append]
    omega
theorem c_Rep0 (m : Nat) (w : World) (h : m ≤ 1700) : Calls Tryz.prog 86 #[.string ⟨#[0]⟩, .int .i64 (m : Int)] w (RetV (.string (zs m)) w) := by
  have e0 : (⟨(Lib.repeatL (ByteArray.mk #[0]).data.toList m).toArray⟩ : ByteArray) = zs m := by unfold zs; rw [← repeat_zero]
  have hr := Go.Proofs.Tryz.strings_Repeat ⟨#[0]⟩ m w (by omega) (by show 1 * m ≤ _; omega)
  rw [e0] at hr
  exact hr
theorem u8_of (n : Nat) (h : n ≤ 255) : (n : Int) = ((UInt8.ofNat n).toNat : Int) := by rw [UInt8.toNat_ofNat']; omega
theorem rowed_U1 {w : World} {lo hi : Nat} {a : UInt8} : Rowed shU w lo hi [.int .u8 (a.toNat : Int)] [a] [[]] := Rowed.one good_U ⟨rfl, rfl⟩
theorem flat_nil' (n : Nat) : (List.replicate n ([] : List Nat)).flatten = [] := by induction n with
  | zero => rfl
  | succ n ih => rw [List.replicate_succ, List.flatten_cons, ih]; rfl
set_option maxRecDepth 100000 in
set_option maxHeartbeats 16000000 in
theorem c_PutPage (v : Value) (x : TPage) (w : World) (h : AV shPage w v x) (hz : ∀ s ∈ x.2.1, s.size ≤ 1048576) (htab : Tab w) (hm : MaxL w) : Calls Tryz.prog 43 #[v] w (RetV (.string (pageT x)) w) := by
  obtain ⟨cs, rfl, h⟩ := h
  obtain ⟨A1, c1, A2, c2, A3, c3, rfl, b1, b2, b3⟩ := openPage h
  clear h
  obtain ⟨i0, hi0, hz0, hzc, hz2⟩ := info_parts info_B8
  have l1 := b1.len_le
  have l2 := b2.len_le
  have l3 := b3.len_le
  have kA := Bk.new w 88 #[.bool x.1, .slice A1 x.2.1.length c1, .slice A2 x.2.2.1.length c2, .slice A3 x.2.2.2.length c3]
  have uA : Up w (w.alloc (.cells #[.bool x.1, .slice A1 x.2.1.length c1, .slice A2 x.2.2.1.length c2, .slice A3 x.2.2.2.length c3] 88)) := (Up.refl w).alloc _
  have g0 : (w.alloc (.cells #[.bool x.1, .slice A1 x.2.1.length c1, .slice A2 x.2.2.1.length c2, .slice A3 x.2.2.2.length c3] 88)).cell? ⟨w.heap.size, 0, none⟩ = some (.bool x.1) := (kA).cell 0
  have g1 : (w.alloc (.cells #[.bool x.1, .slice A1 x.2.1.length c1, .slice A2 x.2.2.1.length c2, .slice A3 x.2.2.2.length c3] 88)).cell? ⟨w.heap.size, 1, none⟩ = some (.slice A1 x.2.1.length c1) := (kA).cell 1
  have g2 : (w.alloc (.cells #[.bool x.1, .slice A1 x.2.1.length c1, .slice A2 x.2.2.1.length c2, .slice A3 x.2.2.2.length c3] 88)).cell? ⟨w.heap.size, 2, none⟩ = some (.slice A2 x.2.2.1.length c2) := (kA).cell 2
  have g3 : (w.alloc (.cells #[.bool x.1, .slice A1 x.2.1.length c1, .slice A2 x.2.2.1.length c2, .slice A3 x.2.2.2.length c3] 88)).cell? ⟨w.heap.size, 3, none⟩ = some (.slice A3 x.2.2.2.length c3) := (kA).cell 3
  go_enter Tryz.func43, Tryz.ntmps43
  go_wp2_with fail
  refine (c_PageOk _ x _ ⟨_, rfl, mkPage (x := x) (b1.up good_S uA) (b2.up good_S uA) (b3.up good_I uA)⟩ hz (tab_up htab uA) (maxL_up hm uA)).mono ?_
  rintro e w1 ⟨rfl, u1⟩
  have u01 := uA.trans u1
  have k1 := kA.up u1
  clear g0 g1 g2 g3
  cases hp : pageB x
  · have HT : Hid (pageT x = ⟨#[]⟩) := Lib.hid (by unfold pageT; rw [if_neg (by rw [hp]; decide)])
    go_wp2_with fail
    refine bodyPost_ret (v := .string ⟨#[]⟩) (by simp [results, Tryz.results43, go_sem]) rfl ?_
    exact ⟨by rw [HT.out], u01⟩
  · cases hl : x.1
    · have p0 : w1.cell? ⟨w.heap.size, 0, none⟩ = some (.bool x.1) := (k1).cell 0
      have p1 : w1.cell? ⟨w.heap.size, 1, none⟩ = some (.slice A1 x.2.1.length c1) := (k1).cell 1
      have p2 : w1.cell? ⟨w.heap.size, 2, none⟩ = some (.slice A2 x.2.2.1.length c2) := (k1).cell 2
      have p3 : w1.cell? ⟨w.heap.size, 3, none⟩ = some (.slice A3 x.2.2.2.length c3) := (k1).cell 3
      have g0 : (w1.alloc (.cells #[.int .u8 2, .int .u8 (x.2.1.length : Int)] 5)).cell? ⟨w.heap.size, 0, none⟩ = some (.bool false) := hl ▸ (k1.alloc _).cell 0
      have g1 : (w1.alloc (.cells #[.int .u8 2, .int .u8 (x.2.1.length : Int)] 5)).cell? ⟨w.heap.size, 1, none⟩ = some (.slice A1 x.2.1.length c1) := (k1.alloc _).cell 1
      have g2 : (w1.alloc (.cells #[.int .u8 2, .int .u8 (x.2.1.length : Int)] 5)).cell? ⟨w.heap.size, 2, none⟩ = some (.slice A2 x.2.2.1.length c2) := (k1.alloc _).cell 2
      have g3 : (w1.alloc (.cells #[.int .u8 2, .int .u8 (x.2.1.length : Int)] 5)).cell? ⟨w.heap.size, 3, none⟩ = some (.slice A3 x.2.2.2.length c3) := (k1.alloc _).cell 3
      have hn6 := page_len hp
      have hwn : (x.2.1.length : Int) % 256 = (x.2.1.length : Int) := by omega
      have sA := SO.U2 w1 2 (UInt8.ofNat x.2.1.length)
      rw [← u8_of _ (by omega : x.2.1.length ≤ 255)] at sA
      have uB : Up w1 (w1.alloc (.cells #[.int .u8 2, .int .u8 (x.2.1.length : Int)] 5)) := (Up.refl w1).alloc _
      have HH : Hid ([(2 : UInt8), UInt8.ofNat x.2.1.length] = pageK x 0) := Lib.hid (by show _ = pageH x; unfold pageH; rw [hl]; rfl)
      rw [HH.out] at sA
      have HLZ : Hid ((pageK x 0).length = 2) := Lib.hid (by rw [← HH.out]; rfl)
      go_wp2_with fail
      go_loopw [25, 4, 3] (fun i last b wr => ∃ (k : Nat) (D : Option Addr) (d : Nat) (bl : List Nat), k ≤ x.2.1.length ∧ i = .int .i64 k ∧ last = .string (lastP x.2.1 k) ∧ b = .slice D (pageK x k).length d ∧ SO shU wr w1.heap.size wr.heap.size D d (pageK x k) bl ∧ bl.Nodup ∧ Up w1 wr) (fun i _ _ _ => x.2.1.length - (intOf i).toNat)
      case atStart => exact ⟨0, some ⟨w1.heap.size, 0, none⟩, 2, [w1.heap.size], Nat.zero_le _, rfl, by rw [lastP_zero], by rw [HLZ.out], sA, by simp, uB⟩
      case round =>
        clear HH HLZ g0 g1 g2 g3 p0 p1 p2 p3 sA uB
        obtain ⟨k, D, d, bl, hk, rfl, rfl, rfl, so, nd, hu⟩ := hrel
        have u03 := u01.trans hu
        have k3 := k1.up hu
        have g0 : wr.cell? ⟨w.heap.size, 0, none⟩ = some (.bool false) := hl ▸ (k3).cell 0
        have g1 : wr.cell? ⟨w.heap.size, 1, none⟩ = some (.slice A1 x.2.1.length c1) := (k3).cell 1
        have g2 : wr.cell? ⟨w.heap.size, 2, none⟩ = some (.slice A2 x.2.2.1.length c2) := (k3).cell 2
        have g3 : wr.cell? ⟨w.heap.size, 3, none⟩ = some (.slice A3 x.2.2.2.length c3) := (k3).cell 3
        by_cases hlt : k < x.2.1.length
        · obtain ⟨g, off, hgo, _, _, hc, hb1⟩ := (b1.up good_S u03).at_S hlt
          subst hgo
          have CS := Lib.hid (fun W => c_implShared (lastP x.2.1 k) x.2.1[k] W (lastP_size _ hz k) (hz _ (List.getElem_mem hlt)))
          have hsh := sharedN_le (lastP x.2.1 k) x.2.1[k]
          have hks := keyB_size (page_keys hp k hlt).1
          have hKL := pageK_len hp k hk
          have hn6 := page_len hp
          have HL := Lib.hid (lastP_succ x.2.1 hlt)
          have HP : Hid (pageK x (k + 1) = pageK x k ++ [UInt8.ofNat (sharedN (lastP x.2.1 k) x.2.1[k]), UInt8.ofNat (x.2.1[k].size - sharedN (lastP x.2.1 k) x.2.1[k])] ++ (x.2.1[k].extract (sharedN (lastP x.2.1 k) x.2.1[k]) x.2.1[k].size).data.toList ++ valPart x k) := Lib.hid (by
            have hsl := slen x.2.1[k]
            rw [pageK_succ x hlt, ext_bs, List.take_of_length_le (by omega)]
            show _ = pageK x k ++ _ ++ x.2.1[k].data.toList.drop _ ++ _
            unfold keyPart
            simp)
          have z3 : (x.2.1[k].extract (sharedN (lastP x.2.1 k) x.2.1[k]) x.2.1[k].size).size = x.2.1[k].size - sharedN (lastP x.2.1 k) x.2.1[k] := by rw [ByteArray.size_extract]; omega
          generalize sharedN (lastP x.2.1 k) x.2.1[k] = sh at *
          generalize lastP x.2.1 k = LP at *
          obtain ⟨ky, hky⟩ : ∃ ky, ky = x.2.1[k] := ⟨_, rfl⟩
          rw [← hky] at hc CS hsh hks HL HP z3 hb1
          clear hky
          have hsI : (0 : Int) ≤ (sh : Int) := by omega
          have hsJ : (sh : Int) ≤ (ky.size : Int) := by omega
          have hw1 : (sh : Int) % 256 = (sh : Int) := by omega
          have hw2 : ((ky.size : Int) - (sh : Int)) % 256 = (ky.size : Int) - (sh : Int) := by omega
          have e1 := u8_of sh (by omega)
          have e2 : (ky.size : Int) - (sh : Int) = ((UInt8.ofNat (ky.size - sh)).toNat : Int) := by rw [← u8_of _ (by omega)]; omega
          generalize UInt8.ofNat sh = y1 at *
          generalize UInt8.ofNat (ky.size - sh) = y2 at *
          have hy1 := Lib.hid e1
          have hy2 := Lib.hid e2
          clear e1 e2
          generalize pageK x k = L at *
          obtain ⟨TL, hTL⟩ : ∃ TL, TL = ky.extract sh ky.size := ⟨_, rfl⟩
          have HTL := Lib.hid hTL
          rw [← hTL] at HP z3
          clear hTL
          have HTZ := Lib.hid (slen TL)
          have Z3 := Lib.hid z3
          clear z3
          have HLN : Hid (L.length + TL.data.toList.length ≤ 5000) := Lib.hid (by have h1 := HTZ.out; have h2 := Z3.out; omega)
          go_wp2_with fail
          refine (CS.out _).mono ?_
          rintro e w4 ⟨rfl, u4⟩
          have hu4 := hu.trans u4
          have so4 := so.up good_U u4
          have k4 := k3.up u4
          clear g0 g1 g2 g3 hc
          have kq5 := Bk.new w4 5 #[.int .u8 (sh : Int), .int .u8 ((ky.size : Int) - (sh : Int))]
          have uq5 := (Up.refl w4).alloc (.cells #[.int .u8 (sh : Int), .int .u8 ((ky.size : Int) - (sh : Int))] 5)
          have ro5 : Rowed shU (w4.alloc (.cells #[.int .u8 (sh : Int), .int .u8 ((ky.size : Int) - (sh : Int))] 5)) w1.heap.size (w4.alloc (.cells #[.int .u8 (sh : Int), .int .u8 ((ky.size : Int) - (sh : Int))] 5)).heap.size [.int .u8 (sh : Int), .int .u8 ((ky.size : Int) - (sh : Int))] [y1, y2] [[], []] := by rw [hy2.out, hy1.out]; exact rowed_UU
          have hlo5 := (hu4.trans uq5).size
          have hTLs := HTL.out.symm
          go_wp2_with (first
            | (at_builtin
               refine wpList_app good_U rfl _ _ _ _ 5 rfl i0 _ Tryz.underlying136 hi0 hz0 hzc (by rfl) (lo := w1.heap.size) (xs := L) (ys := [y1, y2]) (bs := [[], []]) (news := [.int .u8 (sh : Int), .int .u8 ((ky.size : Int) - (sh : Int))]) rfl rfl (so4.up good_U uq5) (by simpa using nd) (Src.box2 (t := 5) Tryz.underlying136 kq5 (by simp [Value.oneCell']) (by simp [Value.oneCell']) hzc) ro5 hlo5 (by rw [hz2]; have := HLN.out; first | omega | (simp only [List.length_append, List.length_cons, List.length_nil]; omega)) (by unfold maxLen; have := HLN.out; first | omega | (simp only [List.length_append, List.length_cons, List.length_nil]; omega)) ?_
               intro D5 d5 bl5 w5 hap5
               obtain ⟨so5, nd5, mem5, on5⟩ := hap5
               have hu5 := (hu4.trans uq5).only on5 (fun y hy => (so4.in_ good_U y hy).1)
               have hsrc6 : Src Tryz.prog i0.size 9 (.string TL) (TL).data.toList.length (byteCells TL) w5 := by rw [hzc, slen]; exact Src.ofString _ Tryz.underlying9 _
               have hlo6 := hu5.size)
            | (at_builtin
               refine wpList_app good_U rfl _ _ _ _ 5 rfl i0 _ Tryz.underlying136 hi0 hz0 hzc (by rfl) (lo := w1.heap.size) (xs := (L ++ [y1, y2])) (ys := (TL).data.toList) (bs := List.replicate (TL).data.toList.length []) (news := byteCells TL) (by show Value.slice _ _ _ = Value.slice _ _ _; congr 1; simp only [List.length_append, List.length_cons, List.length_nil, slen] <;> omega) rfl so5 (by rw [flat_nil', List.append_nil]; exact nd5) hsrc6 (rowed_bytes _) hlo6 (by rw [hz2]; have := HLN.out; first | omega | (simp only [List.length_append, List.length_cons, List.length_nil]; omega)) (by unfold maxLen; have := HLN.out; first | omega | (simp only [List.length_append, List.length_cons, List.length_nil]; omega)) ?_
               intro D6 d6 bl6 w6 hap6
               obtain ⟨so6, nd6, mem6, on6⟩ := hap6
               have hu6 := hu5.only on6 (fun y hy => (so5.in_ good_U y hy).1)
               have k6 : Bk w6 w.heap.size 88 #[.bool x.1, .slice (some ⟨g, off, none⟩) x.2.1.length c1, .slice A2 x.2.2.1.length c2, .slice A3 x.2.2.2.length c3] := k1.up hu6
               have g0 : w6.cell? ⟨w.heap.size, 0, none⟩ = some (.bool false) := hl ▸ (k6).cell 0
               have g1 : w6.cell? ⟨w.heap.size, 1, none⟩ = some (.slice (some ⟨g, off, none⟩) x.2.1.length c1) := (k6).cell 1
               have g2 : w6.cell? ⟨w.heap.size, 2, none⟩ = some (.slice A2 x.2.2.1.length c2) := (k6).cell 2
               have g3 : w6.cell? ⟨w.heap.size, 3, none⟩ = some (.slice A3 x.2.2.2.length c3) := (k6).cell 3))
          have HE : Hid (pageK x (k + 1) = (L ++ [y1, y2] ++ TL.data.toList)) := Lib.hid (by rw [HP.out]; unfold valPart; rw [if_neg (by rw [hl]; decide)]; simp)
          go_roundw
          case rel => exact ⟨k + 1, D6, d6, bl6, by omega, by go_num, by rw [HL.out], (by rw [HE.out]; congr 1; simp only [List.length_append, List.length_cons, List.length_nil, slen] <;> omega), by rw [HE.out]; exact so6, nd6, hu6⟩
          case measure => simp [intOf]; omega
        · have hkn : k = x.2.1.length := by omega
          have HK : Hid (pageK x k = pageK x x.2.1.length ++ kidsL (x.2.2.2.take 0)) := Lib.hid (by rw [hkn]; simp [kidsL])
          have HK2 := Lib.hid (show (pageK x k).length = (pageK x x.2.1.length ++ kidsL (x.2.2.2.take 0)).length by rw [HK.out])
          rw [HK.out] at so
          clear hkn HK
          generalize (pageK x k).length = KL at *
          go_wp2_with fail
          go_loopw [72, 3] (fun i b ws => ∃ (j : Nat) (D : Option Addr) (d : Nat) (bl : List Nat), j ≤ x.2.2.2.length ∧ i = .int .i64 j ∧ b = .slice D (pageK x x.2.1.length ++ kidsL (x.2.2.2.take j)).length d ∧ SO shU ws w1.heap.size ws.heap.size D d (pageK x x.2.1.length ++ kidsL (x.2.2.2.take j)) bl ∧ bl.Nodup ∧ Up w1 ws) (fun i _ _ => x.2.2.2.length - (intOf i).toNat)
          case atStart => exact ⟨0, D, d, bl, Nat.zero_le _, rfl, by rw [HK2.out], so, nd, hu⟩
          case round =>
            clear g0 g1 g2 g3 so nd HK2
            obtain ⟨j, D, d, bl, hj, rfl, rfl, so, nd, hv⟩ := hrel
            have u07 := u01.trans hv
            by_cases hlj : j < x.2.2.2.length
            · obtain ⟨g, off, hgo, _, _, hc, he1, he2⟩ := (b3.up good_I u07).at_I hlj
              subst hgo
              have hkd := (page_kids hp).2 j hlj
              have hk6 := (page_kids hp).1
              have hn6 := page_len hp
              have hK := pageK_len hp x.2.1.length (Nat.le_refl _)
              have HS : Hid (pageK x x.2.1.length ++ kidsL (x.2.2.2.take (j + 1)) = pageK x x.2.1.length ++ kidsL (x.2.2.2.take j) ++ [UInt8.ofNat x.2.2.2[j].toNat]) := Lib.hid (by
                rw [List.take_succ_eq_append_getElem hlj]
                unfold kidsL
                rw [List.map_append, List.append_assoc]
                rfl)
              have HLN : Hid ((pageK x x.2.1.length ++ kidsL (x.2.2.2.take j)).length ≤ 5000) := Lib.hid (by rw [List.length_append, kidsL, List.length_map, List.length_take]; omega)
              have e1 : x.2.2.2[j] = ((UInt8.ofNat x.2.2.2[j].toNat).toNat : Int) := by rw [← u8_of _ (by omega)]; omega
              obtain ⟨kd, hkd'⟩ : ∃ kd, kd = x.2.2.2[j] := ⟨_, rfl⟩
              rw [← hkd'] at hc HS e1 hkd
              have hw1 : kd % 256 = kd := by omega
              clear hkd' he1 he2
              generalize pageK x x.2.1.length ++ kidsL (x.2.2.2.take j) = T at *
              generalize UInt8.ofNat kd.toNat = y1 at *
              have hy1 := Lib.hid e1
              clear e1 hk6 hn6 hK
              have kq5 := Bk.new wr 5 #[.int .u8 kd]
              have uq5 := (Up.refl wr).alloc (.cells #[.int .u8 kd] 5)
              have ro5 : Rowed shU (wr.alloc (.cells #[.int .u8 kd] 5)) w1.heap.size (wr.alloc (.cells #[.int .u8 kd] 5)).heap.size [.int .u8 kd] [y1] [[]] := by rw [hy1.out]; exact rowed_U1
              have hlo5 := (hv.trans uq5).size
              go_wp2_with (at_builtin
                           refine wpList_app good_U rfl _ _ _ _ 5 rfl i0 _ Tryz.underlying136 hi0 hz0 hzc (by rfl) (lo := w1.heap.size) (xs := T) (ys := [y1]) (bs := [[]]) (news := [.int .u8 kd]) rfl rfl (so.up good_U uq5) (by simpa using nd) (Src.box (t := 5) Tryz.underlying136 kq5 (by simp [Value.oneCell']) (by rw [hzc]; rfl)) ro5 hlo5 (by rw [hz2]; have := HLN.out; first | omega | (simp only [List.length_append, List.length_cons, List.length_nil]; omega)) (by unfold maxLen; have := HLN.out; first | omega | (simp only [List.length_append, List.length_cons, List.length_nil]; omega)) ?_
                           intro D5 d5 bl5 w5 hap5
                           obtain ⟨so5, nd5, mem5, on5⟩ := hap5
                           have hu5 := (hv.trans uq5).only on5 (fun y hy => (so.in_ good_U y hy).1))
              go_roundw
              case rel => exact ⟨j + 1, D5, d5, bl5, by omega, by go_num, by rw [HS.out, List.length_append]; rfl, by rw [HS.out]; exact so5, nd5, hu5⟩
              case measure => simp [intOf]; omega
            · have hjn : x.2.2.2.take j = x.2.2.2 := List.take_of_length_le (by omega)
              have hpl := pageL_len hp
              have HT : Hid (pageT x = bs (pageK x x.2.1.length ++ kidsL (x.2.2.2.take j)) ++ zs (1700 - (pageK x x.2.1.length ++ kidsL (x.2.2.2.take j)).length)) := Lib.hid (by
                rw [hjn, zs_bs, bs_app]
                unfold pageT
                rw [if_pos hp]
                rfl)
              have zT : (pageK x x.2.1.length ++ kidsL (x.2.2.2.take j)).length ≤ 1700 := by rw [hjn]; exact hpl
              have hne : 0 < (pageK x x.2.1.length ++ kidsL (x.2.2.2.take j)).length := by have := pageK_ge x x.2.1.length; rw [List.length_append]; omega
              clear hjn hpl
              generalize pageK x x.2.1.length ++ kidsL (x.2.2.2.take j) = T at *
              obtain ⟨g, off, rfl, _⟩ := so.bytes hne
              have hsz : (ByteArray.mk T.toArray).size = T.length := bs_size T
              have p0 : ∀ t : UpT wr, (convert 136 9 (.slice (some ⟨g, off, none⟩) T.length d)).run Tryz.prog t.val = .ok (.string ⟨T.toArray⟩) t.val := fun t => by
                have hcv := Lib.run_convert_whole (P := Tryz.prog) t.val 136 5 9 Tryz.underlying136 Tryz.underlying5 Tryz.underlying9 g off ⟨T.toArray⟩ (so.up good_U t.up).bytesA d
                rw [hsz] at hcv
                exact hcv
              obtain ⟨m, hm9⟩ : ∃ m, m = 1700 - T.length := ⟨_, rfl⟩
              rw [← hm9] at HT
              have hsub : IntKind.i64.wrap ((1700 : Int) - (T.length : Int)) = (m : Int) := by rw [IntWalk.i64_in _ (by omega)]; omega
              have hmx : max (0 : Int) (m : Int) = (m : Int) := by omega
              have hmle : m ≤ 1700 := by omega
              have CR := Lib.hid (fun W => c_Rep0 m W hmle)
              have zz := zs_size m
              have hgA : ¬ 9223372036854775807 < (ByteArray.mk T.toArray).size + (zs m).size := by omega
              have HT2 : Hid (pageT x = ByteArray.mk T.toArray ++ zs m) := HT
              generalize zs m = ZS at *
              generalize ByteArray.mk T.toArray = TS at *
              clear zz hm9 hmle hsz HT
              go_wp2_with fail
              refine wp_region_up (by kernel_rfl) (by kernel_rfl) ?_
              repeat (go_big_quiet_step ((go_at_call 86; exact up_call (CR.out _) (UpT.up _))))
              refine wpQuiet_nil ?_
              rintro w9 ⟨⟨w9q, u9⟩, rfl⟩
              go_wp2_with fail
              refine bodyPost_ret (v := .string (TS ++ ZS)) (by simp [results, Tryz.results43, go_sem]) rfl ?_
              exact ⟨by rw [HT2.out], u07.trans u9⟩
    · have p0 : w1.cell? ⟨w.heap.size, 0, none⟩ = some (.bool x.1) := (k1).cell 0
      have p1 : w1.cell? ⟨w.heap.size, 1, none⟩ = some (.slice A1 x.2.1.length c1) := (k1).cell 1
      have p2 : w1.cell? ⟨w.heap.size, 2, none⟩ = some (.slice A2 x.2.2.1.length c2) := (k1).cell 2
      have p3 : w1.cell? ⟨w.heap.size, 3, none⟩ = some (.slice A3 x.2.2.2.length c3) := (k1).cell 3
      have g0 : (w1.alloc (.cells #[.int .u8 2, .int .u8 (x.2.1.length : Int)] 5)).cell? ⟨w.heap.size, 0, none⟩ = some (.bool true) := hl ▸ (k1.alloc _).cell 0
      have g1 : (w1.alloc (.cells #[.int .u8 2, .int .u8 (x.2.1.length : Int)] 5)).cell? ⟨w.heap.size, 1, none⟩ = some (.slice A1 x.2.1.length c1) := (k1.alloc _).cell 1
      have g2 : (w1.alloc (.cells #[.int .u8 2, .int .u8 (x.2.1.length : Int)] 5)).cell? ⟨w.heap.size, 2, none⟩ = some (.slice A2 x.2.2.1.length c2) := (k1.alloc _).cell 2
      have g3 : (w1.alloc (.cells #[.int .u8 2, .int .u8 (x.2.1.length : Int)] 5)).cell? ⟨w.heap.size, 3, none⟩ = some (.slice A3 x.2.2.2.length c3) := (k1.alloc _).cell 3
      have m0 : (w1.alloc (.cells #[.int .u8 1, .int .u8 (x.2.1.length : Int)] 5)).cell? ⟨w.heap.size, 0, none⟩ = some (.bool true) := hl ▸ (k1.alloc _).cell 0
      have m1 : (w1.alloc (.cells #[.int .u8 1, .int .u8 (x.2.1.length : Int)] 5)).cell? ⟨w.heap.size, 1, none⟩ = some (.slice A1 x.2.1.length c1) := (k1.alloc _).cell 1
      have m2 : (w1.alloc (.cells #[.int .u8 1, .int .u8 (x.2.1.length : Int)] 5)).cell? ⟨w.heap.size, 2, none⟩ = some (.slice A2 x.2.2.1.length c2) := (k1.alloc _).cell 2
      have m3 : (w1.alloc (.cells #[.int .u8 1, .int .u8 (x.2.1.length : Int)] 5)).cell? ⟨w.heap.size, 3, none⟩ = some (.slice A3 x.2.2.2.length c3) := (k1.alloc _).cell 3
      have hn6 := page_len hp
      have hwn : (x.2.1.length : Int) % 256 = (x.2.1.length : Int) := by omega
      have sA := SO.U2 w1 1 (UInt8.ofNat x.2.1.length)
      rw [← u8_of _ (by omega : x.2.1.length ≤ 255)] at sA
      have uB : Up w1 (w1.alloc (.cells #[.int .u8 1, .int .u8 (x.2.1.length : Int)] 5)) := (Up.refl w1).alloc _
      have HH : Hid ([(1 : UInt8), UInt8.ofNat x.2.1.length] = pageK x 0) := Lib.hid (by show _ = pageH x; unfold pageH; rw [hl]; rfl)
      rw [HH.out] at sA
      have HLZ : Hid ((pageK x 0).length = 2) := Lib.hid (by rw [← HH.out]; rfl)
      go_wp2_with fail
      go_loopw [25, 4, 3] (fun i last b wr => ∃ (k : Nat) (D : Option Addr) (d : Nat) (bl : List Nat), k ≤ x.2.1.length ∧ i = .int .i64 k ∧ last = .string (lastP x.2.1 k) ∧ b = .slice D (pageK x k).length d ∧ SO shU wr w1.heap.size wr.heap.size D d (pageK x k) bl ∧ bl.Nodup ∧ Up w1 wr) (fun i _ _ _ => x.2.1.length - (intOf i).toNat)
      case atStart => exact ⟨0, some ⟨w1.heap.size, 0, none⟩, 2, [w1.heap.size], Nat.zero_le _, rfl, by rw [lastP_zero], by rw [HLZ.out], sA, by simp, uB⟩
      case round =>
        clear HH HLZ g0 g1 g2 g3 p0 p1 p2 p3 sA uB m0 m1 m2 m3
        obtain ⟨k, D, d, bl, hk, rfl, rfl, rfl, so, nd, hu⟩ := hrel
        have u03 := u01.trans hu
        have k3 := k1.up hu
        have g0 : wr.cell? ⟨w.heap.size, 0, none⟩ = some (.bool true) := hl ▸ (k3).cell 0
        have g1 : wr.cell? ⟨w.heap.size, 1, none⟩ = some (.slice A1 x.2.1.length c1) := (k3).cell 1
        have g2 : wr.cell? ⟨w.heap.size, 2, none⟩ = some (.slice A2 x.2.2.1.length c2) := (k3).cell 2
        have g3 : wr.cell? ⟨w.heap.size, 3, none⟩ = some (.slice A3 x.2.2.2.length c3) := (k3).cell 3
        by_cases hlt : k < x.2.1.length
        · obtain ⟨g, off, hgo, _, _, hc, hb1⟩ := (b1.up good_S u03).at_S hlt
          subst hgo
          have CS := Lib.hid (fun W => c_implShared (lastP x.2.1 k) x.2.1[k] W (lastP_size _ hz k) (hz _ (List.getElem_mem hlt)))
          have hsh := sharedN_le (lastP x.2.1 k) x.2.1[k]
          have hks := keyB_size (page_keys hp k hlt).1
          have hKL := pageK_len hp k hk
          have hn6 := page_len hp
          have HL := Lib.hid (lastP_succ x.2.1 hlt)
          have HP : Hid (pageK x (k + 1) = pageK x k ++ [UInt8.ofNat (sharedN (lastP x.2.1 k) x.2.1[k]), UInt8.ofNat (x.2.1[k].size - sharedN (lastP x.2.1 k) x.2.1[k])] ++ (x.2.1[k].extract (sharedN (lastP x.2.1 k) x.2.1[k]) x.2.1[k].size).data.toList ++ valPart x k) := Lib.hid (by
            have hsl := slen x.2.1[k]
            rw [pageK_succ x hlt, ext_bs, List.take_of_length_le (by omega)]
            show _ = pageK x k ++ _ ++ x.2.1[k].data.toList.drop _ ++ _
            unfold keyPart
            simp)
          have z3 : (x.2.1[k].extract (sharedN (lastP x.2.1 k) x.2.1[k]) x.2.1[k].size).size = x.2.1[k].size - sharedN (lastP x.2.1 k) x.2.1[k] := by rw [ByteArray.size_extract]; omega
          generalize sharedN (lastP x.2.1 k) x.2.1[k] = sh at *
          generalize lastP x.2.1 k = LP at *
          obtain ⟨ky, hky⟩ : ∃ ky, ky = x.2.1[k] := ⟨_, rfl⟩
          rw [← hky] at hc CS hsh hks HL HP z3 hb1
          clear hky
          have hsI : (0 : Int) ≤ (sh : Int) := by omega
          have hsJ : (sh : Int) ≤ (ky.size : Int) := by omega
          have hw1 : (sh : Int) % 256 = (sh : Int) := by omega
          have hw2 : ((ky.size : Int) - (sh : Int)) % 256 = (ky.size : Int) - (sh : Int) := by omega
          have e1 := u8_of sh (by omega)
          have e2 : (ky.size : Int) - (sh : Int) = ((UInt8.ofNat (ky.size - sh)).toNat : Int) := by rw [← u8_of _ (by omega)]; omega
          generalize UInt8.ofNat sh = y1 at *
          generalize UInt8.ofNat (ky.size - sh) = y2 at *
          have hy1 := Lib.hid e1
          have hy2 := Lib.hid e2
          clear e1 e2
          generalize pageK x k = L at *
          obtain ⟨TL, hTL⟩ : ∃ TL, TL = ky.extract sh ky.size := ⟨_, rfl⟩
          have HTL := Lib.hid hTL
          rw [← hTL] at HP z3
          clear hTL
          have HTZ := Lib.hid (slen TL)
          have Z3 := Lib.hid z3
          clear z3
          obtain ⟨hv1, hv2, hv3⟩ := page_vals hp hl
          have hltv : k < x.2.2.1.length := by omega
          have hvs := hv2 k hltv
          have HV : Hid (valPart x k = [UInt8.ofNat x.2.2.1[k].size] ++ x.2.2.1[k].data.toList) := Lib.hid (by unfold valPart; rw [if_pos hl, dif_pos hltv]; rfl)
          have HC9 := Lib.hid (fun W (u : Up w W) => (b2.up good_S u).at_S hltv)
          have e3 := u8_of x.2.2.1[k].size (by omega)
          obtain ⟨vl, hvl⟩ : ∃ vl, vl = x.2.2.1[k] := ⟨_, rfl⟩
          rw [← hvl] at hvs HV HC9 e3
          clear hvl hv1 hv2 hv3
          have hw3 : (vl.size : Int) % 256 = (vl.size : Int) := by omega
          generalize UInt8.ofNat vl.size = y3 at *
          have hy3 := Lib.hid e3
          clear e3
          have HVZ := Lib.hid (slen vl)
          have HLN : Hid (L.length + TL.data.toList.length + vl.data.toList.length ≤ 5000) := Lib.hid (by have h1 := HTZ.out; have h2 := Z3.out; have h3 := HVZ.out; omega)
          go_wp2_with fail
          refine (CS.out _).mono ?_
          rintro e w4 ⟨rfl, u4⟩
          have hu4 := hu.trans u4
          have so4 := so.up good_U u4
          have k4 := k3.up u4
          clear g0 g1 g2 g3 hc
          have kq5 := Bk.new w4 5 #[.int .u8 (sh : Int), .int .u8 ((ky.size : Int) - (sh : Int))]
          have uq5 := (Up.refl w4).alloc (.cells #[.int .u8 (sh : Int), .int .u8 ((ky.size : Int) - (sh : Int))] 5)
          have ro5 : Rowed shU (w4.alloc (.cells #[.int .u8 (sh : Int), .int .u8 ((ky.size : Int) - (sh : Int))] 5)) w1.heap.size (w4.alloc (.cells #[.int .u8 (sh : Int), .int .u8 ((ky.size : Int) - (sh : Int))] 5)).heap.size [.int .u8 (sh : Int), .int .u8 ((ky.size : Int) - (sh : Int))] [y1, y2] [[], []] := by rw [hy2.out, hy1.out]; exact rowed_UU
          have hlo5 := (hu4.trans uq5).size
          have hTLs := HTL.out.symm
          go_wp2_with (first
            | (at_builtin
               refine wpList_app good_U rfl _ _ _ _ 5 rfl i0 _ Tryz.underlying136 hi0 hz0 hzc (by rfl) (lo := w1.heap.size) (xs := L) (ys := [y1, y2]) (bs := [[], []]) (news := [.int .u8 (sh : Int), .int .u8 ((ky.size : Int) - (sh : Int))]) rfl rfl (so4.up good_U uq5) (by simpa using nd) (Src.box2 (t := 5) Tryz.underlying136 kq5 (by simp [Value.oneCell']) (by simp [Value.oneCell']) hzc) ro5 hlo5 (by rw [hz2]; have := HLN.out; first | omega | (simp only [List.length_append, List.length_cons, List.length_nil]; omega)) (by unfold maxLen; have := HLN.out; first | omega | (simp only [List.length_append, List.length_cons, List.length_nil]; omega)) ?_
               intro D5 d5 bl5 w5 hap5
               obtain ⟨so5, nd5, mem5, on5⟩ := hap5
               have hu5 := (hu4.trans uq5).only on5 (fun y hy => (so4.in_ good_U y hy).1)
               have hsrc6 : Src Tryz.prog i0.size 9 (.string TL) (TL).data.toList.length (byteCells TL) w5 := by rw [hzc, slen]; exact Src.ofString _ Tryz.underlying9 _
               have hlo6 := hu5.size)
            | (at_builtin
               refine wpList_app good_U rfl _ _ _ _ 5 rfl i0 _ Tryz.underlying136 hi0 hz0 hzc (by rfl) (lo := w1.heap.size) (xs := (L ++ [y1, y2])) (ys := (TL).data.toList) (bs := List.replicate (TL).data.toList.length []) (news := byteCells TL) (by show Value.slice _ _ _ = Value.slice _ _ _; congr 1; simp only [List.length_append, List.length_cons, List.length_nil, slen] <;> omega) rfl so5 (by rw [flat_nil', List.append_nil]; exact nd5) hsrc6 (rowed_bytes _) hlo6 (by rw [hz2]; have := HLN.out; first | omega | (simp only [List.length_append, List.length_cons, List.length_nil]; omega)) (by unfold maxLen; have := HLN.out; first | omega | (simp only [List.length_append, List.length_cons, List.length_nil]; omega)) ?_
               intro D6 d6 bl6 w6 hap6
               obtain ⟨so6, nd6, mem6, on6⟩ := hap6
               have hu6 := hu5.only on6 (fun y hy => (so5.in_ good_U y hy).1)
               have k6 : Bk w6 w.heap.size 88 #[.bool x.1, .slice (some ⟨g, off, none⟩) x.2.1.length c1, .slice A2 x.2.2.1.length c2, .slice A3 x.2.2.2.length c3] := k1.up hu6
               have g0 : w6.cell? ⟨w.heap.size, 0, none⟩ = some (.bool true) := hl ▸ (k6).cell 0
               have g1 : w6.cell? ⟨w.heap.size, 1, none⟩ = some (.slice (some ⟨g, off, none⟩) x.2.1.length c1) := (k6).cell 1
               have g2 : w6.cell? ⟨w.heap.size, 2, none⟩ = some (.slice A2 x.2.2.1.length c2) := (k6).cell 2
               have g3 : w6.cell? ⟨w.heap.size, 3, none⟩ = some (.slice A3 x.2.2.2.length c3) := (k6).cell 3
               obtain ⟨g9, off9, hgo9, _, _, hc9, hb9⟩ := HC9.out w6 (u01.trans hu6)
               subst hgo9
               have kq7 := Bk.new w6 5 #[.int .u8 (vl.size : Int)]
               have uq7 := (Up.refl w6).alloc (.cells #[.int .u8 (vl.size : Int)] 5)
               have ro7 : Rowed shU (w6.alloc (.cells #[.int .u8 (vl.size : Int)] 5)) w1.heap.size (w6.alloc (.cells #[.int .u8 (vl.size : Int)] 5)).heap.size [.int .u8 (vl.size : Int)] [y3] [[]] := by rw [hy3.out]; exact rowed_U1
               have hlo7 := (hu6.trans uq7).size)
            | (at_builtin
               refine wpList_app good_U rfl _ _ _ _ 5 rfl i0 _ Tryz.underlying136 hi0 hz0 hzc (by rfl) (lo := w1.heap.size) (xs := (L ++ [y1, y2] ++ TL.data.toList)) (ys := [y3]) (bs := [[]]) (news := [.int .u8 (vl.size : Int)]) (by show Value.slice _ _ _ = Value.slice _ _ _; congr 1; simp only [List.length_append, List.length_cons, List.length_nil, slen] <;> omega) rfl (so6.up good_U uq7) (by simpa using nd6) (Src.box (t := 5) Tryz.underlying136 kq7 (by simp [Value.oneCell']) (by rw [hzc]; rfl)) ro7 hlo7 (by rw [hz2]; have := HLN.out; first | omega | (simp only [List.length_append, List.length_cons, List.length_nil]; omega)) (by unfold maxLen; have := HLN.out; first | omega | (simp only [List.length_append, List.length_cons, List.length_nil]; omega)) ?_
               intro D7 d7 bl7 w7 hap7
               obtain ⟨so7, nd7, mem7, on7⟩ := hap7
               have hu7 := (hu6.trans uq7).only on7 (fun y hy => (so6.in_ good_U y hy).1)
               have k7 : Bk w7 w.heap.size 88 #[.bool x.1, .slice (some ⟨g, off, none⟩) x.2.1.length c1, .slice (some ⟨g9, off9, none⟩) x.2.2.1.length c2, .slice A3 x.2.2.2.length c3] := k1.up hu7
               have q0 : w7.cell? ⟨w.heap.size, 0, none⟩ = some (.bool true) := hl ▸ (k7).cell 0
               have q1 : w7.cell? ⟨w.heap.size, 1, none⟩ = some (.slice (some ⟨g, off, none⟩) x.2.1.length c1) := (k7).cell 1
               have q2 : w7.cell? ⟨w.heap.size, 2, none⟩ = some (.slice (some ⟨g9, off9, none⟩) x.2.2.1.length c2) := (k7).cell 2
               have q3 : w7.cell? ⟨w.heap.size, 3, none⟩ = some (.slice A3 x.2.2.2.length c3) := (k7).cell 3
               have hc10 : w7.cell? ⟨g9, off9 + k, none⟩ = some (.string vl) := by
                 obtain ⟨ga, oa, hga, _, _, hca, _⟩ := HC9.out w7 (u01.trans hu7)
                 injection hga with hga
                 injection hga with e1 e2
                 subst e1 e2
                 exact hca
               have hsrc8 : Src Tryz.prog i0.size 9 (.string vl) (vl).data.toList.length (byteCells vl) w7 := by rw [hzc, slen]; exact Src.ofString _ Tryz.underlying9 _
               have hlo8 := hu7.size)
            | (at_builtin
               refine wpList_app good_U rfl _ _ _ _ 5 rfl i0 _ Tryz.underlying136 hi0 hz0 hzc (by rfl) (lo := w1.heap.size) (xs := (L ++ [y1, y2] ++ TL.data.toList ++ [y3])) (ys := (vl).data.toList) (bs := List.replicate (vl).data.toList.length []) (news := byteCells vl) (by show Value.slice _ _ _ = Value.slice _ _ _; congr 1; simp only [List.length_append, List.length_cons, List.length_nil, slen] <;> omega) rfl so7 (by rw [flat_nil', List.append_nil]; exact nd7) hsrc8 (rowed_bytes _) hlo8 (by rw [hz2]; have := HLN.out; first | omega | (simp only [List.length_append, List.length_cons, List.length_nil]; omega)) (by unfold maxLen; have := HLN.out; first | omega | (simp only [List.length_append, List.length_cons, List.length_nil]; omega)) ?_
               intro D8 d8 bl8 w8 hap8
               obtain ⟨so8, nd8, mem8, on8⟩ := hap8
               have hu8 := hu7.only on8 (fun y hy => (so7.in_ good_U y hy).1)))
          have HE : Hid (pageK x (k + 1) = (L ++ [y1, y2] ++ TL.data.toList ++ [y3] ++ vl.data.toList)) := Lib.hid (by rw [HP.out, HV.out]; simp)
          go_roundw
          case rel => exact ⟨k + 1, D8, d8, bl8, by omega, by go_num, by rw [HL.out], (by rw [HE.out]; congr 1; simp only [List.length_append, List.length_cons, List.length_nil, slen] <;> omega), by rw [HE.out]; exact so8, nd8, hu8⟩
          case measure => simp [intOf]; omega
        · have hkn : k = x.2.1.length := by omega
          have HK : Hid (pageK x k = pageK x x.2.1.length ++ kidsL (x.2.2.2.take 0)) := Lib.hid (by rw [hkn]; simp [kidsL])
          have HK2 := Lib.hid (show (pageK x k).length = (pageK x x.2.1.length ++ kidsL (x.2.2.2.take 0)).length by rw [HK.out])
          rw [HK.out] at so
          clear hkn HK
          generalize (pageK x k).length = KL at *
          go_wp2_with fail
          go_loopw [72, 3] (fun i b ws => ∃ (j : Nat) (D : Option Addr) (d : Nat) (bl : List Nat), j ≤ x.2.2.2.length ∧ i = .int .i64 j ∧ b = .slice D (pageK x x.2.1.length ++ kidsL (x.2.2.2.take j)).length d ∧ SO shU ws w1.heap.size ws.heap.size D d (pageK x x.2.1.length ++ kidsL (x.2.2.2.take j)) bl ∧ bl.Nodup ∧ Up w1 ws) (fun i _ _ => x.2.2.2.length - (intOf i).toNat)
          case atStart => exact ⟨0, D, d, bl, Nat.zero_le _, rfl, by rw [HK2.out], so, nd, hu⟩
          case round =>
            clear g0 g1 g2 g3 so nd HK2
            obtain ⟨j, D, d, bl, hj, rfl, rfl, so, nd, hv⟩ := hrel
            have u07 := u01.trans hv
            by_cases hlj : j < x.2.2.2.length
            · obtain ⟨g, off, hgo, _, _, hc, he1, he2⟩ := (b3.up good_I u07).at_I hlj
              subst hgo
              have hkd := (page_kids hp).2 j hlj
              have hk6 := (page_kids hp).1
              have hn6 := page_len hp
              have hK := pageK_len hp x.2.1.length (Nat.le_refl _)
              have HS : Hid (pageK x x.2.1.length ++ kidsL (x.2.2.2.take (j + 1)) = pageK x x.2.1.length ++ kidsL (x.2.2.2.take j) ++ [UInt8.ofNat x.2.2.2[j].toNat]) := Lib.hid (by
                rw [List.take_succ_eq_append_getElem hlj]
                unfold kidsL
                rw [List.map_append, List.append_assoc]
                rfl)
              have HLN : Hid ((pageK x x.2.1.length ++ kidsL (x.2.2.2.take j)).length ≤ 5000) := Lib.hid (by rw [List.length_append, kidsL, List.length_map, List.length_take]; omega)
              have e1 : x.2.2.2[j] = ((UInt8.ofNat x.2.2.2[j].toNat).toNat : Int) := by rw [← u8_of _ (by omega)]; omega
              obtain ⟨kd, hkd'⟩ : ∃ kd, kd = x.2.2.2[j] := ⟨_, rfl⟩
              rw [← hkd'] at hc HS e1 hkd
              have hw1 : kd % 256 = kd := by omega
              clear hkd' he1 he2
              generalize pageK x x.2.1.length ++ kidsL (x.2.2.2.take j) = T at *
              generalize UInt8.ofNat kd.toNat = y1 at *
              have hy1 := Lib.hid e1
              clear e1 hk6 hn6 hK
              have kq5 := Bk.new wr 5 #[.int .u8 kd]
              have uq5 := (Up.refl wr).alloc (.cells #[.int .u8 kd] 5)
              have ro5 : Rowed shU (wr.alloc (.cells #[.int .u8 kd] 5)) w1.heap.size (wr.alloc (.cells #[.int .u8 kd] 5)).heap.size [.int .u8 kd] [y1] [[]] := by rw [hy1.out]; exact rowed_U1
              have hlo5 := (hv.trans uq5).size
              go_wp2_with (at_builtin
                           refine wpList_app good_U rfl _ _ _ _ 5 rfl i0 _ Tryz.underlying136 hi0 hz0 hzc (by rfl) (lo := w1.heap.size) (xs := T) (ys := [y1]) (bs := [[]]) (news := [.int .u8 kd]) rfl rfl (so.up good_U uq5) (by simpa using nd) (Src.box (t := 5) Tryz.underlying136 kq5 (by simp [Value.oneCell']) (by rw [hzc]; rfl)) ro5 hlo5 (by rw [hz2]; have := HLN.out; first | omega | (simp only [List.length_append, List.length_cons, List.length_nil]; omega)) (by unfold maxLen; have := HLN.out; first | omega | (simp only [List.length_append, List.length_cons, List.length_nil]; omega)) ?_
                           intro D5 d5 bl5 w5 hap5
                           obtain ⟨so5, nd5, mem5, on5⟩ := hap5
                           have hu5 := (hv.trans uq5).only on5 (fun y hy => (so.in_ good_U y hy).1))
              go_roundw
              case rel => exact ⟨j + 1, D5, d5, bl5, by omega, by go_num, by rw [HS.out, List.length_append]; rfl, by rw [HS.out]; exact so5, nd5, hu5⟩
              case measure => simp [intOf]; omega
            · have hjn : x.2.2.2.take j = x.2.2.2 := List.take_of_length_le (by omega)
              have hpl := pageL_len hp
              have HT : Hid (pageT x = bs (pageK x x.2.1.length ++ kidsL (x.2.2.2.take j)) ++ zs (1700 - (pageK x x.2.1.length ++ kidsL (x.2.2.2.take j)).length)) := Lib.hid (by
                rw [hjn, zs_bs, bs_app]
                unfold pageT
                rw [if_pos hp]
                rfl)
              have zT : (pageK x x.2.1.length ++ kidsL (x.2.2.2.take j)).length ≤ 1700 := by rw [hjn]; exact hpl
              have hne : 0 < (pageK x x.2.1.length ++ kidsL (x.2.2.2.take j)).length := by have := pageK_ge x x.2.1.length; rw [List.length_append]; omega
              clear hjn hpl
              generalize pageK x x.2.1.length ++ kidsL (x.2.2.2.take j) = T at *
              obtain ⟨g, off, rfl, _⟩ := so.bytes hne
              have hsz : (ByteArray.mk T.toArray).size = T.length := bs_size T
              have p0 : ∀ t : UpT wr, (convert 136 9 (.slice (some ⟨g, off, none⟩) T.length d)).run Tryz.prog t.val = .ok (.string ⟨T.toArray⟩) t.val := fun t => by
                have hcv := Lib.run_convert_whole (P := Tryz.prog) t.val 136 5 9 Tryz.underlying136 Tryz.underlying5 Tryz.underlying9 g off ⟨T.toArray⟩ (so.up good_U t.up).bytesA d
                rw [hsz] at hcv
                exact hcv
              obtain ⟨m, hm9⟩ : ∃ m, m = 1700 - T.length := ⟨_, rfl⟩
              rw [← hm9] at HT
              have hsub : IntKind.i64.wrap ((1700 : Int) - (T.length : Int)) = (m : Int) := by rw [IntWalk.i64_in _ (by omega)]; omega
              have hmx : max (0 : Int) (m : Int) = (m : Int) := by omega
              have hmle : m ≤ 1700 := by omega
              have CR := Lib.hid (fun W => c_Rep0 m W hmle)
              have zz := zs_size m
              have hgA : ¬ 9223372036854775807 < (ByteArray.mk T.toArray).size + (zs m).size := by omega
              have HT2 : Hid (pageT x = ByteArray.mk T.toArray ++ zs m) := HT
              generalize zs m = ZS at *
              generalize ByteArray.mk T.toArray = TS at *
              clear zz hm9 hmle hsz HT
              go_wp2_with fail
              refine wp_region_up (by kernel_rfl) (by kernel_rfl) ?_
              repeat (go_big_quiet_step ((go_at_call 86; exact up_call (CR.out _) (UpT.up _))))
              refine wpQuiet_nil ?_
              rintro w9 ⟨⟨w9q, u9⟩, rfl⟩
              go_wp2_with fail
              refine bodyPost_ret (v := .string (TS ++ ZS)) (by simp [results, Tryz.results43, go_sem]) rfl ?_
              exact ⟨by rw [HT2.out], u07.trans u9⟩
theorem page_szK {x : TPage} (h : shPage.sz x ≤ 1048576) : ∀ s ∈ x.2.1, s.size ≤ 1048576 := fun s hs => by
  obtain ⟨i, hi, rfl⟩ := List.getElem_of_mem hs
  have e : shPage.sz x = 0 + ((shL shS).sz x.2.1 + ((shL shS).sz x.2.2.1 + (shL shI).sz x.2.2.2)) := rfl
  have h1 : (shL shS).sz x.2.1 ≤ 1048576 := by omega
  exact sz_le shS x.2.1 hi h1
theorem cs_PutPage (v : Value) (y : TPage) (w : World) (h : AV shPage w v y) (hn : shPage.sz y ≤ 1048576) : Calls Tryz.prog 41 #[v] w (RetV (.string (pageT y)) w) := c_specPutPage v y w h (page_szK hn)
theorem ci_PutPage (v : Value) (y : TPage) (w : World) (h : AV shPage w v y) (hn : shPage.sz y ≤ 1048576) (htab : Tab w) (hm : MaxL w) : Calls Tryz.prog 43 #[v] w (RetV (.string (pageT y)) w) := c_PutPage v y w h (page_szK hn) htab hm
end Go.Proofs.YtpjcgglhlmifdaaGreatDoor
