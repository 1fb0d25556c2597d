/-
  The way down to a key: the reference's search in a page, and its way.
-/
import Derived.Test.YtlifhbfomgbiaaaGreatDoorMWa
namespace Go.Proofs.YtlifhbfomgbiaaaGreatDoor
open Go.RowKit
set_option linter.unusedVariables false
set_option linter.unusedSimpArgs false

theorem getD_in' {α : Type} {l : List α} {k : Nat} (h : k < l.length) (d : α) : l.getD k d = l[k] := by simp [List.getD, List.getElem?_eq_getElem h]
set_option maxRecDepth 100000 in
set_option maxHeartbeats 8000000 in
theorem c_l15Find (v : Value) (p : TPage) (key : ByteArray) (w : World) (h : AV shPage w v p) : Calls Tryz.prog 129 #[v, .string key] w (RetV (.tuple #[.int .i64 ((findB p key).1 : Int), .bool (findB p key).2]) w) := by
  obtain ⟨cs, rfl, h⟩ := h
  obtain ⟨A1, c1, A2, c2, A3, c3, rfl, b1, b2, b3⟩ := openPage h
  clear h
  have hlen := b1.len_le
  have kB := Bk.new w 91 #[.bool p.1, .slice A1 p.2.1.length c1, .slice A2 p.2.2.1.length c2, .slice A3 p.2.2.2.length c3]
  have uu : Up w (w.alloc (.cells #[.bool p.1, .slice A1 p.2.1.length c1, .slice A2 p.2.2.1.length c2, .slice A3 p.2.2.2.length c3] 91)) := (Up.refl _).alloc _
  have HK := Lib.hid (fun k h1 h2 h3 => keyIdx_eq (l := p.2.1) (key := key) (k := k) h1 h2 h3)
  have HF1 : Hid ((findB p key).1 = if keyHas p.2.1 key = true ∧ p.1 = false then keyIdx p.2.1 key + 1 else keyIdx p.2.1 key) := Lib.hid rfl
  have HF2 : Hid ((findB p key).2 = (decide (keyIdx p.2.1 key < p.2.1.length) && decide (p.2.1.getD (keyIdx p.2.1 key) ⟨#[]⟩ = key))) := Lib.hid rfl
  have HF3 : Hid (keyHas p.2.1 key = (findB p key).2) := Lib.hid rfl
  generalize (findB p key).1 = r1 at *
  generalize (findB p key).2 = r2 at *
  go_enter Tryz.func129, Tryz.ntmps129
  go_wp2_with fail
  go_loopw [6] (fun i wr => ∃ k : Nat, k ≤ p.2.1.length ∧ i = .int .i64 k ∧ Hid (∀ j (hj : j < p.2.1.length), j < k → bytesLt p.2.1[j] key = true) ∧ wr = (w.alloc (.cells #[.bool p.1, .slice A1 p.2.1.length c1, .slice A2 p.2.2.1.length c2, .slice A3 p.2.2.2.length c3] 91))) (fun i _ => p.2.1.length - (intOf i).toNat)
  case atStart => exact ⟨0, Nat.zero_le _, rfl, Lib.hid (fun j hj h1 => absurd h1 (by omega)), rfl⟩
  case round =>
    obtain ⟨k, hk, rfl, HB, rfl⟩ := hrel
    generalize (w.alloc (.cells #[.bool p.1, .slice A1 p.2.1.length c1, .slice A2 p.2.2.1.length c2, .slice A3 p.2.2.2.length c3] 91)) = W0 at kB uu ⊢
    have g0 : W0.cell? ⟨w.heap.size, 0, none⟩ = some (.bool p.1) := kB.cell 0
    have g1 : W0.cell? ⟨w.heap.size, 1, none⟩ = some (.slice A1 p.2.1.length c1) := kB.cell 1
    by_cases hlt : k < p.2.1.length
    · obtain ⟨g, off, rfl, _, _, hc, hcs⟩ := (b1.up good_S uu).at_S hlt
      cases hl : bytesLt p.2.1[k] key
      · have hl' : Op.bytesLess p.2.1[k].toList key.toList = false := hl
        have HI := Lib.hid (HK.out k hk HB.out (fun _ => hl))
        have H2 := Lib.hid (show r2 = decide (p.2.1[k] = key) by rw [HF2.out, HI.out, decide_eq_true hlt, getD_in' hlt ⟨#[]⟩, Bool.true_and])
        clear hl HK HB HF2
        cases he : (p.2.1[k].toList == key.toList)
        · have H3 := Lib.hid (show r2 = false by rw [H2.out]; exact decide_eq_false (fun e => by rw [e] at he; simp at he))
          have H1 := Lib.hid (show r1 = k by rw [HF1.out, HI.out, HF3.out, H3.out]; simp)
          clear H2 HF1 HF3 HI
          go_wp2_with fail
          refine bodyPost_ret (v := .tuple #[.int .i64 ((k : Int)), .bool false]) (by simp [results, Tryz.results129, go_sem]) rfl ?_
          exact ⟨by rw [H1.out, H3.out], uu⟩
        · have hee : p.2.1[k] = key := ByteArray.ext (Array.toList_inj.1 (by have := beq_iff_eq.1 he; rwa [ByteArray.toList_eq, ByteArray.toList_eq] at this))
          have H3 := Lib.hid (show r2 = true by rw [H2.out]; exact decide_eq_true hee)
          cases hp : p.1
          · have H1 := Lib.hid (show r1 = k + 1 by rw [HF1.out, HI.out, HF3.out, H3.out, hp]; simp)
            rw [hp] at g0
            clear H2 HF1 HF3 HI hee
            go_wp2_with fail
            refine bodyPost_ret (v := .tuple #[.int .i64 ((k : Int) + 1), .bool true]) (by simp [results, Tryz.results129, go_sem]) rfl ?_
            exact ⟨by rw [H1.out, H3.out]; simp, uu⟩
          · have H1 := Lib.hid (show r1 = k by rw [HF1.out, HI.out, HF3.out, H3.out, hp]; simp)
            rw [hp] at g0
            clear H2 HF1 HF3 HI hee
            go_wp2_with fail
            refine bodyPost_ret (v := .tuple #[.int .i64 ((k : Int)), .bool true]) (by simp [results, Tryz.results129, go_sem]) rfl ?_
            exact ⟨by rw [H1.out, H3.out], uu⟩
      · have hl' : Op.bytesLess p.2.1[k].toList key.toList = true := hl
        have HN : Hid (∀ j (hj : j < p.2.1.length), j < k + 1 → bytesLt p.2.1[j] key = true) := Lib.hid (fun j hj h1 => by
          by_cases q : j = k
          · subst q; exact hl
          · exact HB.out j hj (by omega))
        clear hl
        go_wp2_with fail
        go_roundw
        case rel => exact ⟨k + 1, by omega, by go_num, HN, by first | rfl | trivial⟩
        case measure => simp [intOf]; omega
    · have HI := Lib.hid (HK.out k hk HB.out (fun h => absurd h hlt))
      have H3 := Lib.hid (show r2 = false by rw [HF2.out, HI.out, decide_eq_false hlt]; rfl)
      have H1 := Lib.hid (show r1 = k by rw [HF1.out, HI.out, HF3.out, H3.out]; simp)
      obtain rfl : k = p.2.1.length := by omega
      clear HK HB HF1 HF2 HF3 HI
      go_wp2_with fail
      refine bodyPost_ret (v := .tuple #[.int .i64 ((p.2.1.length : Int)), .bool false]) (by simp [results, Tryz.results129, go_sem]) rfl ?_
      exact ⟨by rw [H1.out, H3.out], uu⟩
end Go.Proofs.YtlifhbfomgbiaaaGreatDoor
