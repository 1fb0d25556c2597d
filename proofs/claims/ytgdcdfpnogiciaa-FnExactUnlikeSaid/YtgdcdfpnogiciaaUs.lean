/-
  The reference's ids put to their places: l00Put.
-/
import Derived.Test.YtgdcdfpnogiciaaRows
import Derived.Test.YtgdcdfpnogiciaaUq
import Derived.Test.YtgdcdfpnogiciaaPu
import Derived.Test.YtgdcdfpnogiciaaMid
import Derived.OwnWalk
namespace Go.Proofs.Ytgdcdfpnogiciaa
open Go.RowKit
set_option linter.unusedVariables false
set_option linter.unusedSimpArgs false
theorem cinfo_I : (Try.prog.info? 2).map (fun i => (i.zero, i.size, i.bytes)) = some (some (.int .i64 0), 1, 8) := by kernel_rfl
/-- What l00Put has laid ahead of place k. -/
def PutInv (l : List Int) (n : Int) (dn : Bool) (O : List Int) (k : Nat) : Prop := if dn = true then O ++ l.drop k = putI l n else O = l.take k ∧ ∀ a ∈ l.take k, a < n
theorem putInv_t {l : List Int} {n : Int} {O : List Int} {k : Nat} (hk : k < l.length) (h : PutInv l n true O k) : PutInv l n true (O ++ [l[k]]) (k + 1) := by
  have h' : O ++ l.drop k = putI l n := h
  show (O ++ [l[k]]) ++ l.drop (k + 1) = putI l n
  rw [← h', List.drop_eq_getElem_cons hk]
  simp
theorem putInv_lt {l : List Int} {n : Int} {O : List Int} {k : Nat} (hk : k < l.length) (h : PutInv l n false O k) (hn : l[k] < n) : PutInv l n false (O ++ [l[k]]) (k + 1) := by
  have h' : O = l.take k ∧ ∀ a ∈ l.take k, a < n := h
  have e := List.take_succ_eq_append_getElem hk
  refine ⟨by rw [h'.1, e], fun a ha => ?_⟩
  rw [e] at ha
  rcases List.mem_append.1 ha with ha | ha
  · exact h'.2 a ha
  · rw [List.mem_singleton.1 ha]; exact hn
theorem putInv_ge {l : List Int} {n : Int} {O : List Int} {k : Nat} (hk : k < l.length) (h : PutInv l n false O k) (hn : ¬ l[k] < n) : PutInv l n true ((O ++ if n < l[k] then [n] else []) ++ [l[k]]) (k + 1) := by
  have h' : O = l.take k ∧ ∀ a ∈ l.take k, a < n := h
  show (O ++ if n < l[k] then [n] else []) ++ [l[k]] ++ l.drop (k + 1) = putI l n
  have e : l = l.take k ++ l[k] :: l.drop (k + 1) := by rw [← List.drop_eq_getElem_cons hk, List.take_append_drop]
  have e2 : putI l n = putI (l.take k ++ l[k] :: l.drop (k + 1)) n := by rw [← e]
  rw [e2, putI_at _ _ _ _ h'.2 hn, h'.1]
  simp
theorem putInv_end {l : List Int} {n : Int} {O : List Int} (h : PutInv l n false O l.length) : putI l n = O ++ [n] := by
  have h' : O = l.take l.length ∧ ∀ a ∈ l.take l.length, a < n := h
  rw [List.take_length] at h'
  rw [putI_below _ _ h'.2, h'.1]
theorem putInv_done {l : List Int} {n : Int} {O : List Int} (h : PutInv l n true O l.length) : putI l n = O := by
  have h' : O ++ l.drop l.length = putI l n := h
  rw [← h']; simp
set_option maxRecDepth 100000 in
set_option maxHeartbeats 8000000 in
theorem c_l00Put (l : List Int) (n : Int) (A : Option Addr) (c : Nat) (w : World) (h : SRW shI w A c l) (hn : I64 n) (hl : l.length ≤ 2097152) : Calls Try.prog 44 #[.slice A l.length c, .int .i64 n] w (ToL shI (putI l n) w) := by
  obtain ⟨i0, hi0, hz0, hz1, hz2⟩ := info_parts cinfo_I
  have so0 : SO shI (w.alloc (.cells #[] 2)) w.heap.size (w.alloc (.cells #[] 2)).heap.size (some ⟨w.heap.size, 0, none⟩) 0 ([] : List Int) [] := ⟨Nat.le_refl _, Nat.zero_le _, .inl ⟨rfl, rfl, rfl⟩⟩
  have uu0 : Up w (w.alloc (.cells #[] 2)) := (Up.refl w).alloc _
  go_enter Try.func44, Try.ntmps44
  go_wp2_with fail
  go_loopw [7, 6, 5] (fun i q out wr => ∃ (k : Nat) (dn : Bool) (O : List Int) (D : Option Addr) (d : Nat) (bl : List Nat), k ≤ l.length ∧ i = .int .i64 k ∧ q = .bool dn ∧ out = .slice D O.length d ∧ O.length ≤ k + 1 ∧ Hid (PutInv l n dn O k) ∧ SO shI wr w.heap.size wr.heap.size D d O bl ∧ bl.Nodup ∧ Up w wr) (fun i _ _ _ => l.length - (intOf i).toNat)
  case atStart => exact ⟨0, false, [], some ⟨w.heap.size, 0, none⟩, 0, [], Nat.zero_le _, rfl, rfl, rfl, by simp, Lib.hid ⟨rfl, by simp⟩, so0, by simp, uu0⟩
  case round =>
    obtain ⟨k, dn, O, D, d, bl, hk, rfl, rfl, rfl, hOk, HI, so, nd, hu⟩ := hrel
    have srr := h.up good_I hu
    by_cases hlt : k < l.length
    · obtain ⟨g, off, rfl, _, _, hc, he1, he2⟩ := srr.at_I hlt
      have hi64 : I64 l[k] := ⟨he1, he2⟩
      have P1 := Lib.hid (fun (h : PutInv l n true O k) => putInv_t hlt h)
      have P2 := Lib.hid (fun (h : PutInv l n false O k) (hn : l[k] < n) => putInv_lt hlt h hn)
      have P3 := Lib.hid (fun (h : PutInv l n false O k) (hn : ¬ l[k] < n) => putInv_ge hlt h hn)
      have HA := Lib.hid (fun W (u : Up w W) => (h.up good_I u).at_I hlt)
      obtain ⟨z, hz⟩ : ∃ z, z = l[k] := ⟨_, rfl⟩
      rw [← hz] at hc hi64 P1 P2 P3 HA
      clear he1 he2 hz srr
      cases dn
      · by_cases hlt2 : z < n
        · have kq1 := Bk.new wr 2 #[.int .i64 z]
          have uq1 := (Up.refl wr).alloc (.cells #[.int .i64 z] 2)
          have ho1 : shI.own (wr.alloc (.cells #[.int .i64 z] 2)) w.heap.size (wr.alloc (.cells #[.int .i64 z] 2)).heap.size [.int .i64 z] z [] := ⟨⟨rfl, hi64.1, hi64.2⟩, rfl⟩
          have hlo1 := hu.size
          have hx11 : ((O).length + 1) * i0.bytes ≤ 140737488355328 := by rw [hz2]; first | omega | (simp; omega)
          have hx21 : (O).length + 1 ≤ maxLen := by unfold maxLen; first | omega | (simp; omega)
          go_wp2_with (at_builtin
                       refine wpList_app good_I rfl _ _ _ _ 2 rfl i0 _ Try.underlying33 hi0 hz0 hz1 (by rfl) (lo := w.heap.size) (xs := O) (ys := [z]) (bs := [[]]) (news := [.int .i64 z]) rfl rfl (so.up good_I uq1) (by simpa using nd) (Src.box (t := 2) Try.underlying33 kq1 (by simp [Value.oneCell']) (by rw [hz1]; rfl)) (Rowed.one good_I ho1) (by simp; omega) hx11 hx21 ?_
                       intro D1 d1 bl1 w1 hap1
                       obtain ⟨so1, nd1, mem1, on1⟩ := hap1
                       have hu1 := (hu.trans uq1).only on1 (fun y hy => (so.in_ good_I y hy).1))
          go_roundw
          case rel => exact ⟨k + 1, false, _, D1, d1, bl1, by omega, by go_num, rfl, by simp, by simp; omega, Lib.hid (P2.out HI.out hlt2), so1, nd1, hu1⟩
          case measure => simp [intOf]; omega
        · have HJ := P3.out HI.out hlt2
          have hOl : O.length ≤ k := by rw [HI.out.1, List.length_take]; omega
          by_cases hgt : n < z
          · rw [if_pos hgt] at HJ
            have kq1 := Bk.new wr 2 #[.int .i64 n]
            have uq1 := (Up.refl wr).alloc (.cells #[.int .i64 n] 2)
            have ho1 : shI.own (wr.alloc (.cells #[.int .i64 n] 2)) w.heap.size (wr.alloc (.cells #[.int .i64 n] 2)).heap.size [.int .i64 n] n [] := ⟨⟨rfl, hn.1, hn.2⟩, rfl⟩
            have hlo1 := hu.size
            have hx11 : ((O).length + 1) * i0.bytes ≤ 140737488355328 := by rw [hz2]; first | omega | (simp; omega)
            have hx21 : (O).length + 1 ≤ maxLen := by unfold maxLen; first | omega | (simp; omega)
            go_wp2_with (first
              | (at_builtin
                 refine wpList_app good_I rfl _ _ _ _ 2 rfl i0 _ Try.underlying33 hi0 hz0 hz1 (by rfl) (lo := w.heap.size) (xs := O) (ys := [n]) (bs := [[]]) (news := [.int .i64 n]) rfl rfl (so.up good_I uq1) (by simpa using nd) (Src.box (t := 2) Try.underlying33 kq1 (by simp [Value.oneCell']) (by rw [hz1]; rfl)) (Rowed.one good_I ho1) (by simp; omega) hx11 hx21 ?_
                 intro D1 d1 bl1 w1 hap1
                 obtain ⟨so1, nd1, mem1, on1⟩ := hap1
                 have hu1 := (hu.trans uq1).only on1 (fun y hy => (so.in_ good_I y hy).1)
                 have kq2 := Bk.new w1 2 #[.int .i64 z]
                 have uq2 := (Up.refl w1).alloc (.cells #[.int .i64 z] 2)
                 have ho2 : shI.own (w1.alloc (.cells #[.int .i64 z] 2)) w.heap.size (w1.alloc (.cells #[.int .i64 z] 2)).heap.size [.int .i64 z] z [] := ⟨⟨rfl, hi64.1, hi64.2⟩, rfl⟩
                 have hlo2 := hu1.size
                 have hx12 : (((O ++ [n])).length + 1) * i0.bytes ≤ 140737488355328 := by rw [hz2]; first | omega | (simp; omega)
                 have hx22 : ((O ++ [n])).length + 1 ≤ maxLen := by unfold maxLen; first | omega | (simp; omega)
                 have hll1 : (O ++ [n]).length = O.length + 1 := by simp
                 obtain ⟨g9, off9, e9, _, _, hc9, _⟩ := HA.out w1 hu1
                 injection e9 with e9
                 injection e9 with e9a e9b
                 subst e9a e9b)
              | (at_builtin
                 refine wpList_app good_I rfl _ _ _ _ 2 rfl i0 _ Try.underlying33 hi0 hz0 hz1 (by rfl) (lo := w.heap.size) (xs := (O ++ [n])) (ys := [z]) (bs := [[]]) (news := [.int .i64 z]) (by rw [hll1]; rfl) rfl (so1.up good_I uq2) (by simpa using nd1) (Src.box (t := 2) Try.underlying33 kq2 (by simp [Value.oneCell']) (by rw [hz1]; rfl)) (Rowed.one good_I ho2) (by simp; omega) hx12 hx22 ?_
                 intro D2 d2 bl2 w2 hap2
                 obtain ⟨so2, nd2, mem2, on2⟩ := hap2
                 have hu2 := (hu1.trans uq2).only on2 (fun y hy => (so1.in_ good_I y hy).1)))
            go_roundw
            case rel => exact ⟨k + 1, true, _, D2, d2, bl2, by omega, by go_num, rfl, by simp, by simp; omega, Lib.hid HJ, so2, nd2, hu2⟩
            case measure => simp [intOf]; omega
          · rw [if_neg hgt, List.append_nil] at HJ
            have kq1 := Bk.new wr 2 #[.int .i64 z]
            have uq1 := (Up.refl wr).alloc (.cells #[.int .i64 z] 2)
            have ho1 : shI.own (wr.alloc (.cells #[.int .i64 z] 2)) w.heap.size (wr.alloc (.cells #[.int .i64 z] 2)).heap.size [.int .i64 z] z [] := ⟨⟨rfl, hi64.1, hi64.2⟩, rfl⟩
            have hlo1 := hu.size
            have hx11 : ((O).length + 1) * i0.bytes ≤ 140737488355328 := by rw [hz2]; first | omega | (simp; omega)
            have hx21 : (O).length + 1 ≤ maxLen := by unfold maxLen; first | omega | (simp; omega)
            go_wp2_with (at_builtin
                         refine wpList_app good_I rfl _ _ _ _ 2 rfl i0 _ Try.underlying33 hi0 hz0 hz1 (by rfl) (lo := w.heap.size) (xs := O) (ys := [z]) (bs := [[]]) (news := [.int .i64 z]) rfl rfl (so.up good_I uq1) (by simpa using nd) (Src.box (t := 2) Try.underlying33 kq1 (by simp [Value.oneCell']) (by rw [hz1]; rfl)) (Rowed.one good_I ho1) (by simp; omega) hx11 hx21 ?_
                         intro D1 d1 bl1 w1 hap1
                         obtain ⟨so1, nd1, mem1, on1⟩ := hap1
                         have hu1 := (hu.trans uq1).only on1 (fun y hy => (so.in_ good_I y hy).1))
            go_roundw
            case rel => exact ⟨k + 1, true, _, D1, d1, bl1, by omega, by go_num, rfl, by simp, by simp; omega, Lib.hid (HJ), so1, nd1, hu1⟩
            case measure => simp [intOf]; omega
      · have kq1 := Bk.new wr 2 #[.int .i64 z]
        have uq1 := (Up.refl wr).alloc (.cells #[.int .i64 z] 2)
        have ho1 : shI.own (wr.alloc (.cells #[.int .i64 z] 2)) w.heap.size (wr.alloc (.cells #[.int .i64 z] 2)).heap.size [.int .i64 z] z [] := ⟨⟨rfl, hi64.1, hi64.2⟩, rfl⟩
        have hlo1 := hu.size
        have hx11 : ((O).length + 1) * i0.bytes ≤ 140737488355328 := by rw [hz2]; first | omega | (simp; omega)
        have hx21 : (O).length + 1 ≤ maxLen := by unfold maxLen; first | omega | (simp; omega)
        go_wp2_with (at_builtin
                     refine wpList_app good_I rfl _ _ _ _ 2 rfl i0 _ Try.underlying33 hi0 hz0 hz1 (by rfl) (lo := w.heap.size) (xs := O) (ys := [z]) (bs := [[]]) (news := [.int .i64 z]) rfl rfl (so.up good_I uq1) (by simpa using nd) (Src.box (t := 2) Try.underlying33 kq1 (by simp [Value.oneCell']) (by rw [hz1]; rfl)) (Rowed.one good_I ho1) (by simp; omega) hx11 hx21 ?_
                     intro D1 d1 bl1 w1 hap1
                     obtain ⟨so1, nd1, mem1, on1⟩ := hap1
                     have hu1 := (hu.trans uq1).only on1 (fun y hy => (so.in_ good_I y hy).1))
        go_roundw
        case rel => exact ⟨k + 1, true, _, D1, d1, bl1, by omega, by go_num, rfl, by simp, by simp; omega, Lib.hid (P1.out HI.out), so1, nd1, hu1⟩
        case measure => simp [intOf]; omega
    · obtain rfl : k = l.length := by omega
      cases dn
      · have HE := Lib.hid (putInv_end HI.out)
        have kq1 := Bk.new wr 2 #[.int .i64 n]
        have uq1 := (Up.refl wr).alloc (.cells #[.int .i64 n] 2)
        have ho1 : shI.own (wr.alloc (.cells #[.int .i64 n] 2)) w.heap.size (wr.alloc (.cells #[.int .i64 n] 2)).heap.size [.int .i64 n] n [] := ⟨⟨rfl, hn.1, hn.2⟩, rfl⟩
        have hlo1 := hu.size
        have hx11 : ((O).length + 1) * i0.bytes ≤ 140737488355328 := by rw [hz2]; first | omega | (simp; omega)
        have hx21 : (O).length + 1 ≤ maxLen := by unfold maxLen; first | omega | (simp; omega)
        go_wp2_with (at_builtin
                     refine wpList_app good_I rfl _ _ _ _ 2 rfl i0 _ Try.underlying33 hi0 hz0 hz1 (by rfl) (lo := w.heap.size) (xs := O) (ys := [n]) (bs := [[]]) (news := [.int .i64 n]) rfl rfl (so.up good_I uq1) (by simpa using nd) (Src.box (t := 2) Try.underlying33 kq1 (by simp [Value.oneCell']) (by rw [hz1]; rfl)) (Rowed.one good_I ho1) (by simp; omega) hx11 hx21 ?_
                     intro D1 d1 bl1 w1 hap1
                     obtain ⟨so1, nd1, mem1, on1⟩ := hap1
                     have hu1 := (hu.trans uq1).only on1 (fun y hy => (so.in_ good_I y hy).1))
        go_ret
        rw [HE.out]
        exact ⟨D1, d1, bl1, by simp, so1, nd1, hu1⟩
      · have HE := Lib.hid (putInv_done HI.out)
        go_wp2_with fail
        go_ret
        rw [HE.out]
        exact ⟨D, d, bl, rfl, so, nd, hu⟩
end Go.Proofs.Ytgdcdfpnogiciaa
