/-
  Search in a page: the program's.
-/
import Derived.Test.YtlifhbfomgbiaaaGreatDoorMWf
namespace Go.Proofs.YtlifhbfomgbiaaaGreatDoor
open Go.RowKit
set_option linter.unusedVariables false
set_option linter.unusedSimpArgs false

theorem c_cmpNaNS (a : ByteArray) (w : World) : Calls Tryz.prog 213 #[.string a] w (fun e w' => e = .returned (.bool false) ∧ w = w') := by
  go_enter Tryz.func213, Tryz.ntmps213
  go_wp2_with fail
  go_ret
  exact ⟨by simp, rfl⟩
theorem c_slNaNS (a : ByteArray) (w : World) : Calls Tryz.prog 200 #[.string a] w (fun e w' => e = .returned (.bool false) ∧ w = w') := by
  go_enter Tryz.func200, Tryz.ntmps200
  go_wp2_with fail
  go_ret
  exact ⟨by simp, rfl⟩
theorem c_cmpLessS (a b : ByteArray) (w : World) : Calls Tryz.prog 199 #[.string a, .string b] w (fun e w' => e = .returned (.bool (bytesLt a b)) ∧ w = w') := by
  have HR : Hid (bytesLt a b = Op.bytesLess a.toList b.toList) := Lib.hid rfl
  generalize bytesLt a b = R at HR ⊢
  go_enter Tryz.func199, Tryz.ntmps199
  go_wp2_with fail
  refine (c_cmpNaNS a w).mono ?_
  rintro e w1 ⟨rfl, rfl⟩
  go_wp2_with fail
  go_ret
  exact ⟨by rw [HR.out]; simp, rfl⟩
theorem keys_up {l : List ByteArray} (h : KeysP l) {key : ByteArray} {m a : Nat} (hm : m < l.length) (ha : a < l.length) (hma : m ≤ a) (hL : bytesLt l[m] key = false) : bytesLt l[a] key = false := by
  cases hq : bytesLt l[a] key
  · rfl
  · by_cases e : m = a
    · subst e; rw [hL] at hq; cases hq
    · rw [lo_bytes.tr _ _ _ (keys_asc h m a ha (by omega)) hq] at hL; cases hL
theorem keys_dn {l : List ByteArray} (h : KeysP l) {key : ByteArray} {m a : Nat} (hm : m < l.length) (ha : a < l.length) (hma : a ≤ m) (hL : bytesLt l[m] key = true) : bytesLt l[a] key = true := by
  by_cases e : a = m
  · subst e; exact hL
  · exact lo_bytes.tr _ _ _ (keys_asc h a m hm (by omega)) hL
set_option maxRecDepth 100000 in
set_option maxHeartbeats 8000000 in
theorem c_BinarySearchS (xs : List ByteArray) (hx : KeysP xs) (A : Option Addr) (c : Nat) (key : ByteArray) (w : World) (h : SRW shS w A c xs) (hn : xs.length ≤ 1048576) :
    Calls Tryz.prog 174 #[.slice A xs.length c, .string key] w (fun e w' => e = .returned (.tuple #[.int .i64 (keyIdx xs key : Int), .bool (keyHas xs key)]) ∧ w = w') := by
  have hlen := h.len_le
  have HX := Lib.hid hx
  have HK := Lib.hid (fun k h1 h2 h3 => keyIdx_eq (l := xs) (key := key) (k := k) h1 h2 h3)
  have HH : Hid (keyHas xs key = (decide (keyIdx xs key < xs.length) && decide (xs.getD (keyIdx xs key) ⟨#[]⟩ = key))) := Lib.hid rfl
  generalize keyIdx xs key = r1 at HK HH ⊢
  generalize keyHas xs key = r2 at HH ⊢
  clear hx
  go_enter Tryz.func174, Tryz.ntmps174
  go_wp2_with fail
  go_loopw [7, 8] (fun i j wr => ∃ lo hi : Nat, lo ≤ hi ∧ hi ≤ xs.length ∧ i = .int .i64 lo ∧ j = .int .i64 hi ∧ Hid ((∀ a (h : a < xs.length), a < lo → bytesLt xs[a] key = true) ∧ (∀ a (h : a < xs.length), hi ≤ a → bytesLt xs[a] key = false)) ∧ wr = w) (fun i j _ => (intOf j).toNat - (intOf i).toNat)
  case atStart => exact ⟨0, xs.length, Nat.zero_le _, Nat.le_refl _, rfl, rfl, Lib.hid ⟨fun a h ha => absurd ha (by omega), fun a h ha => absurd h (by omega)⟩, rfl⟩
  case round =>
    obtain ⟨lo, hi, hlh, hhl, rfl, rfl, HA, rfl⟩ := hrel
    by_cases hlt : lo < hi
    · obtain ⟨m, hm⟩ : ∃ m, m = (lo + hi) / 2 := ⟨_, rfl⟩
      have hm1 : lo ≤ m := by omega
      have hm2 : m < hi := by omega
      have hml : m < xs.length := by omega
      have hmi : ((lo : Int) + (hi : Int)) / 2 = (m : Int) := by omega
      clear hm
      obtain ⟨g, off, rfl, _, hgl, hc, _⟩ := h.at_S hml
      have CC := Lib.hid (c_cmpLessS xs[m] key wr)
      cases hL : bytesLt xs[m] key
      · rw [hL] at CC
        have HN : Hid ((∀ a (h : a < xs.length), a < lo → bytesLt xs[a] key = true) ∧ (∀ a (h : a < xs.length), m ≤ a → bytesLt xs[a] key = false)) := Lib.hid ⟨HA.out.1, fun a h ha => keys_up HX.out hml h ha hL⟩
        clear hL
        go_wp2_with fail
        refine CC.out.mono ?_
        rintro e w1 ⟨rfl, rfl⟩
        go_wp2_with fail
        go_roundw
        case rel => exact ⟨lo, m, by omega, by omega, rfl, rfl, HN, by first | rfl | trivial⟩
        case measure => simp [intOf]; omega
      · rw [hL] at CC
        have HN : Hid ((∀ a (h : a < xs.length), a < m + 1 → bytesLt xs[a] key = true) ∧ (∀ a (h : a < xs.length), hi ≤ a → bytesLt xs[a] key = false)) := Lib.hid ⟨fun a h ha => keys_dn HX.out hml h (by omega) hL, HA.out.2⟩
        clear hL
        go_wp2_with fail
        refine CC.out.mono ?_
        rintro e w1 ⟨rfl, rfl⟩
        go_wp2_with fail
        go_roundw
        case rel => exact ⟨m + 1, hi, by omega, by omega, by go_num, rfl, HN, by first | rfl | trivial⟩
        case measure => simp [intOf]; omega
    · obtain rfl : lo = hi := by omega
      have HP := Lib.hid (HK.out lo hhl HA.out.1 (fun hq => HA.out.2 lo hq (Nat.le_refl _)))
      clear hlt
      by_cases hlx : lo < xs.length
      · obtain ⟨g, off, rfl, _, hgl, hc, _⟩ := h.at_S hlx
        have H2 := Lib.hid (show r2 = decide (xs[lo] = key) by rw [HH.out, HP.out, decide_eq_true hlx, getD_inW hlx ⟨#[]⟩, Bool.true_and])
        clear HH HK HA
        cases he : (xs[lo].toList == key.toList)
        · have H3 := Lib.hid (show r2 = false by rw [H2.out]; exact decide_eq_false (fun e => by rw [e] at he; simp at he))
          have CN := Lib.hid (c_slNaNS xs[lo] wr)
          clear H2
          go_wp2_with fail
          refine CN.out.mono ?_
          rintro e w1 ⟨rfl, rfl⟩
          go_wp2_with fail
          refine bodyPost_ret (v := .tuple #[.int .i64 (lo : Int), .bool false]) (by simp [results, Tryz.results174, go_sem]) rfl ?_
          exact ⟨by rw [HP.out, H3.out], rfl⟩
        · have hee : xs[lo] = key := ByteArray.ext (Array.toList_inj.1 (by have := beq_iff_eq.1 he; rwa [ByteArray.toList_eq, ByteArray.toList_eq] at this))
          have H3 := Lib.hid (show r2 = true by rw [H2.out]; exact decide_eq_true hee)
          clear H2 hee
          go_wp2_with fail
          refine bodyPost_ret (v := .tuple #[.int .i64 (lo : Int), .bool true]) (by simp [results, Tryz.results174, go_sem]) rfl ?_
          exact ⟨by rw [HP.out, H3.out], rfl⟩
      · have H3 := Lib.hid (show r2 = false by rw [HH.out, HP.out, decide_eq_false hlx]; rfl)
        clear HH HK HA
        go_wp2_with fail
        refine bodyPost_ret (v := .tuple #[.int .i64 (lo : Int), .bool false]) (by simp [results, Tryz.results174, go_sem]) rfl ?_
        exact ⟨by rw [HP.out, H3.out], rfl⟩
set_option maxRecDepth 100000 in
set_option maxHeartbeats 4000000 in
theorem c_find (v : Value) (p : TPage) (key : ByteArray) (w : World) (h : AV shPage w v p) (hp : pageB p = true) : Calls Tryz.prog 131 #[v, .string key] w (RetV (.tuple #[.int .i64 ((findB p key).1 : Int), .bool (findB p key).2]) w) := by
  obtain ⟨cs, rfl, h⟩ := h
  obtain ⟨A1, c1, A2, c2, A3, c3, rfl, b1, b2, b3⟩ := openPage h
  clear h
  have h6 := keys_le6 hp
  have kB := Bk.new w 91 #[.bool p.1, .slice A1 p.2.1.length c1, .slice A2 p.2.2.1.length c2, .slice A3 p.2.2.2.length c3]
  have uu : Up w (w.alloc (.cells #[.bool p.1, .slice A1 p.2.1.length c1, .slice A2 p.2.2.1.length c2, .slice A3 p.2.2.2.length c3] 91)) := (Up.refl _).alloc _
  have CS := Lib.hid (c_BinarySearchS p.2.1 (page_keysP hp) A1 c1 key _ (b1.up good_S uu) (by omega))
  have hki := keyIdx_le p.2.1 key
  have HF1 : Hid ((findB p key).1 = if keyHas p.2.1 key = true ∧ p.1 = false then keyIdx p.2.1 key + 1 else keyIdx p.2.1 key) := Lib.hid rfl
  have HF2 : Hid ((findB p key).2 = keyHas p.2.1 key) := Lib.hid rfl
  generalize (findB p key).1 = r1 at HF1 ⊢
  generalize (findB p key).2 = r2 at HF2 ⊢
  generalize keyIdx p.2.1 key = k at HF1 CS hki
  generalize keyHas p.2.1 key = b at HF1 HF2 CS
  have gB0 : World.cell? _ ⟨w.heap.size, 0, none⟩ = some (.bool p.1) := kB.cell 0
  have gB1 : World.cell? _ ⟨w.heap.size, 1, none⟩ = some (.slice A1 p.2.1.length c1) := kB.cell 1
  have hpN := Lib.hid hp
  clear hp
  go_enter Tryz.func131, Tryz.ntmps131
  go_wp2_with fail
  generalize (w.alloc (.cells #[.bool p.1, .slice A1 p.2.1.length c1, .slice A2 p.2.2.1.length c2, .slice A3 p.2.2.2.length c3] 91)) = W0 at uu CS gB0 gB1 ⊢
  refine CS.out.mono ?_
  rintro e w1 ⟨rfl, rfl⟩
  clear kB gB1
  cases hl : p.1 <;> cases b
  · rw [hl] at gB0
    have H1 := Lib.hid (show r1 = k by rw [HF1.out, hl]; simp)
    have H2 := Lib.hid (show r2 = false from HF2.out)
    clear HF1 HF2 hl
    go_wp2_with fail
    refine bodyPost_ret (v := .tuple #[.int .i64 ((k : Int)), .bool false]) (by simp [results, Tryz.results131, go_sem]) rfl ?_
    exact ⟨by rw [H1.out, H2.out], uu⟩
  · rw [hl] at gB0
    have H1 := Lib.hid (show r1 = k + 1 by rw [HF1.out, hl]; simp)
    have H2 := Lib.hid (show r2 = true from HF2.out)
    clear HF1 HF2 hl
    go_wp2_with fail
    refine bodyPost_ret (v := .tuple #[.int .i64 ((k : Int) + 1), .bool true]) (by simp [results, Tryz.results131, go_sem]) rfl ?_
    exact ⟨by rw [H1.out, H2.out]; rfl, uu⟩
  · rw [hl] at gB0
    have H1 := Lib.hid (show r1 = k by rw [HF1.out, hl]; simp)
    have H2 := Lib.hid (show r2 = false from HF2.out)
    clear HF1 HF2 hl
    go_wp2_with fail
    refine bodyPost_ret (v := .tuple #[.int .i64 ((k : Int)), .bool false]) (by simp [results, Tryz.results131, go_sem]) rfl ?_
    exact ⟨by rw [H1.out, H2.out], uu⟩
  · rw [hl] at gB0
    have H1 := Lib.hid (show r1 = k by rw [HF1.out, hl]; simp)
    have H2 := Lib.hid (show r2 = true from HF2.out)
    clear HF1 HF2 hl
    go_wp2_with fail
    refine bodyPost_ret (v := .tuple #[.int .i64 ((k : Int)), .bool true]) (by simp [results, Tryz.results131, go_sem]) rfl ?_
    exact ⟨by rw [H1.out, H2.out], uu⟩
end Go.Proofs.YtlifhbfomgbiaaaGreatDoor
