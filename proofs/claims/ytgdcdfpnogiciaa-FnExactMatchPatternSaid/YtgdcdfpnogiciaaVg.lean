/-
  Valid patterns: contracts of the reference's l04Item, l04OK, at every depth.
-/
import Derived.Test.YtgdcdfpnogiciaaVf
namespace Go.Proofs.Ytgdcdfpnogiciaa
open Go.RowKit
set_option linter.unusedVariables false
set_option linter.unusedSimpArgs false

theorem str_empty {s : ByteArray} (h : s = ⟨#[]⟩) : s.toList.isEmpty = true ∧ s.toList = [] ∧ s.size = 0 := by subst h; exact ⟨by simp [ByteArray.toList_eq], by simp [ByteArray.toList_eq], rfl⟩
theorem str_some {s : ByteArray} (h : ¬ s = ⟨#[]⟩) : s.toList.isEmpty = false ∧ ¬ s.toList = [] ∧ 0 < s.size := by
  have h1 : ¬ s.toList = [] := by
    rw [ByteArray.toList_eq]
    intro e
    exact h (by cases s with | mk d => congr 1; simpa using e)
  refine ⟨by rw [List.isEmpty_eq_false_iff]; exact h1, h1, ?_⟩
  rcases Nat.eq_zero_or_pos s.size with e | e
  · exact absurd (by
      rw [ByteArray.toList_eq]
      exact List.eq_nil_of_length_eq_zero (by rw [Array.length_toList]; exact e)) h1
  · exact e
def BoolQ (b : Bool) (w : World) (e : Ending) (w' : World) : Prop := e = .returned (.bool b) ∧ Up w w'
theorem BoolQ.mk {a b : Bool} {w w' : World} (h : a = b) (u : Up w w') : BoolQ b w (.returned (.bool a)) w' := ⟨by rw [h], u⟩

set_option maxRecDepth 100000 in
set_option maxHeartbeats 4000000 in
theorem vc_l04Item {γ : Type} {shQq : Sh γ} (good_Qq : Good shQq) (okA : List γ → Int → Bool)
    (cOK : ∀ (l : List γ) (A : Option Addr) (c : Nat) (d : Int) (w : World), SRW shQq w A c l → 0 ≤ d → d ≤ 3 → Calls Try.prog 35 #[.slice A l.length c, .int .i64 d] w (BoolQ (okA l d) w))
    (v : Value) (x : TPattern γ) (deep : Int) (w : World) (h : AV (shPattern shQq) w v x) (h0 : 0 ≤ deep) (h3 : deep ≤ 3) :
    Calls Try.prog 53 #[v, .int .i64 deep] w (BoolQ (itemV okA x deep) w) := by
  have HH := Lib.hid cOK; clear cOK
  obtain ⟨cs, rfl, h⟩ := h
  obtain ⟨x0, x1, x2, x3, x4⟩ := x
  have ho := openPattern h
  dsimp only at ho
  obtain ⟨A4, c4, rfl, b0, b1, b2, b3, b4⟩ := ho
  have bm2 := b2; unfold maxLen at bm2
  have bm3 := b3; unfold maxLen at bm3
  have bl4 := b4.len_le
  have kk0 : Bk (w.alloc (.cells #[.int .i64 x0, .int .i64 x1, .string x2, .string x3, .slice A4 x4.length c4] 51)) w.heap.size 51 #[.int .i64 x0, .int .i64 x1, .string x2, .string x3, .slice A4 x4.length c4] := Bk.new _ _ _
  have uu0 : Up w (w.alloc (.cells #[.int .i64 x0, .int .i64 x1, .string x2, .string x3, .slice A4 x4.length c4] 51)) := (Up.refl _).alloc _
  obtain ⟨V, hV⟩ : ∃ V, itemV okA (x0, x1, x2, x3, x4) deep = V := ⟨_, rfl⟩
  rw [hV]
  have no : Hid (¬ itemP okA (x0, x1, x2, x3, x4) deep → false = V) := fun h => by rw [← hV, itemV_f.2 h]
  have yes : Hid (itemP okA (x0, x1, x2, x3, x4) deep → true = V) := fun h => by rw [← hV, itemV_t.2 h]
  clear hV h
  by_cases q1 : 0 ≤ x0 ∧ x0 ≤ 99
  case neg =>
    have e1 : inB x0 0 99 = false := inB_f.2 q1
    have HF := Lib.hid (no.out fun hp => q1 ⟨hp.1, hp.2.1⟩)
    clear q1
    go_enter Try.func53, Try.ntmps53
    go_wp2_with (go_at_call 78; refine (in_any _ _ _ _).mono ?_; rintro e w1 ⟨rfl, rfl⟩; rw [e1])
    go_ret
    exact BoolQ.mk HF.out uu0
  have e1 : inB x0 0 99 = true := inB_t.2 q1
  obtain ⟨q1a, q1b⟩ := q1
  by_cases q2 : -1 ≤ x1 ∧ x1 ≤ 99
  case neg =>
    have e2 : inB x1 (-1) 99 = false := inB_f.2 q2
    have HF := Lib.hid (no.out fun hp => q2 ⟨by have h1 : x1 = -1 ∨ x0 ≤ x1 := hp.2.2.1; omega, hp.2.2.2.1⟩)
    clear q2
    go_enter Try.func53, Try.ntmps53
    go_wp2_with (go_at_call 78; refine (in_any _ _ _ _).mono ?_; rintro e w1 ⟨rfl, rfl⟩; first | rw [e1] | rw [e2])
    go_ret
    exact BoolQ.mk HF.out uu0
  have e2 : inB x1 (-1) 99 = true := inB_t.2 q2
  obtain ⟨q2a, q2b⟩ := q2
  by_cases q3 : 0 ≤ x1 ∧ x1 < x0
  case pos =>
    obtain ⟨q3a, q3b⟩ := q3
    have HF := Lib.hid (no.out fun hp => by have h1 : x1 = -1 ∨ x0 ≤ x1 := hp.2.2.1; omega)
    go_enter Try.func53, Try.ntmps53
    go_wp2_with (go_at_call 78; refine (in_any _ _ _ _).mono ?_; rintro e w1 ⟨rfl, rfl⟩; first | rw [e1] | rw [e2])
    go_ret
    exact BoolQ.mk HF.out uu0
  have q3' : x1 = -1 ∨ x0 ≤ x1 := by omega
  have Q3 := Lib.hid q3'
  have q3c : (x1 < 0 ∨ x0 ≤ x1) := by omega
  clear q3 q3'
  by_cases q4 : 24 < x3.size
  case pos =>
    have HF := Lib.hid (no.out fun hp => by have h1 : x3.size ≤ 24 := hp.2.2.2.2.1; omega)
    rcases q3c with q3c | q3c
    · have q3d : decide ((0 : Int) ≤ x1) = false := by simp; omega
      go_enter Try.func53, Try.ntmps53
      go_wp2_with (go_at_call 78; refine (in_any _ _ _ _).mono ?_; rintro e w1 ⟨rfl, rfl⟩; first | rw [e1] | rw [e2])
      go_ret
      exact BoolQ.mk HF.out uu0
    · go_enter Try.func53, Try.ntmps53
      go_wp2_with (go_at_call 78; refine (in_any _ _ _ _).mono ?_; rintro e w1 ⟨rfl, rfl⟩; first | rw [e1] | rw [e2])
      go_ret
      exact BoolQ.mk HF.out uu0
  have q4' : x3.size ≤ 24 := by omega
  clear q4
  by_cases q5 : 8 < x4.length
  case pos =>
    have HF := Lib.hid (no.out fun hp => by have h1 : x4.length ≤ 8 := hp.2.2.2.2.2.1; omega)
    rcases q3c with q3c | q3c
    · have q3d : decide ((0 : Int) ≤ x1) = false := by simp; omega
      go_enter Try.func53, Try.ntmps53
      go_wp2_with (go_at_call 78; refine (in_any _ _ _ _).mono ?_; rintro e w1 ⟨rfl, rfl⟩; first | rw [e1] | rw [e2])
      go_ret
      exact BoolQ.mk HF.out uu0
    · go_enter Try.func53, Try.ntmps53
      go_wp2_with (go_at_call 78; refine (in_any _ _ _ _).mono ?_; rintro e w1 ⟨rfl, rfl⟩; first | rw [e1] | rw [e2])
      go_ret
      exact BoolQ.mk HF.out uu0
  have q5' : x4.length ≤ 8 := by omega
  clear q5
  have body : Hid (bodyP okA (x0, x1, x2, x3, x4) deep → true = V) := fun h => yes.out ⟨q1a, q1b, Q3.out, q2b, q4', q5', h⟩
  have nody : Hid (¬ bodyP okA (x0, x1, x2, x3, x4) deep → false = V) := fun h => no.out fun hp => h hp.2.2.2.2.2.2
  clear no yes
  rcases q3c with q3c | q3c
  case' inl => have q3d : decide ((0 : Int) ≤ x1) = false := by simp; omega
  all_goals
    by_cases a4 : 0 < x4.length
    case pos =>
      have a4i : (0 : Int) < (x4.length : Int) := by omega
      have bd : bodyP okA (x0, x1, x2, x3, x4) deep = (x2 = ⟨#[]⟩ ∧ x3 = ⟨#[]⟩ ∧ deep ≠ 0 ∧ ∀ l ∈ x4, okA l (deep - 1) = true) := if_pos a4
      rw [bd] at body nody
      clear bd
      by_cases c2 : x2 = ⟨#[]⟩
      case neg =>
        obtain ⟨s1, s2, s3⟩ := str_some c2
        have HF := Lib.hid (nody.out fun hp => c2 hp.1)
        clear c2
        go_enter Try.func53, Try.ntmps53
        go_wp2_with (go_at_call 78; refine (in_any _ _ _ _).mono ?_; rintro e w1 ⟨rfl, rfl⟩; first | rw [e1] | rw [e2])
        go_ret
        exact BoolQ.mk HF.out uu0
      obtain ⟨s1, s2, s3⟩ := str_empty c2
      have C2 := Lib.hid c2; clear c2 s3
      by_cases c3 : x3 = ⟨#[]⟩
      case neg =>
        obtain ⟨r1, r2, r3⟩ := str_some c3
        have HF := Lib.hid (nody.out fun hp => c3 hp.2.1)
        clear c3
        go_enter Try.func53, Try.ntmps53
        go_wp2_with (go_at_call 78; refine (in_any _ _ _ _).mono ?_; rintro e w1 ⟨rfl, rfl⟩; first | rw [e1] | rw [e2])
        go_ret
        exact BoolQ.mk HF.out uu0
      obtain ⟨r1, r2, r3⟩ := str_empty c3
      have C3 := Lib.hid c3; clear c3 r3
      by_cases d0 : deep = 0
      case pos =>
        subst d0
        have HF := Lib.hid (nody.out fun hp => hp.2.2.1 rfl)
        go_enter Try.func53, Try.ntmps53
        go_wp2_with (go_at_call 78; refine (in_any _ _ _ _).mono ?_; rintro e w1 ⟨rfl, rfl⟩; first | rw [e1] | rw [e2])
        go_ret
        exact BoolQ.mk HF.out uu0
      have d1 : (deep == 0) = false := by simpa using d0
      have d2 : 1 ≤ deep := by omega
      have D0 := Lib.hid d0; clear d0
      go_enter Try.func53, Try.ntmps53
      go_wp2_with (go_at_call 78; refine (in_any _ _ _ _).mono ?_; rintro e w1 ⟨rfl, rfl⟩; first | rw [e1] | rw [e2])
      go_loopw [5] (fun i wr => ∃ k : Nat, k ≤ x4.length ∧ i = .int .i64 k ∧ Hid (∀ l ∈ x4.take k, okA l (deep - 1) = true) ∧ Up (w.alloc (.cells #[.int .i64 x0, .int .i64 x1, .string x2, .string x3, .slice A4 x4.length c4] 51)) wr) (fun i _ => x4.length - (intOf i).toNat)
      case atStart => exact ⟨0, by omega, rfl, fun l hl => absurd hl (by simp), Up.refl _⟩
      case round =>
        obtain ⟨k, hk, rfl, HT, hu⟩ := hrel
        have kk := kk0.up hu
        have g4 : wr.cell? ⟨w.heap.size, 4, none⟩ = some (.slice A4 x4.length c4) := kk.cell 4
        have uw := uu0.trans hu
        by_cases hlt : k < x4.length
        · obtain ⟨g, off, A1, c1, rfl, _, _, hc0, l0⟩ := (b4.up (good_L good_Qq) uw).at_L hlt
          go_wp2_with fail
          refine (HH.out x4[k] _ _ _ _ l0 (by omega) (by omega)).mono ?_
          rintro e w1 ⟨rfl, u1⟩
          cases hok : okA x4[k] (deep - 1)
          · have HF := Lib.hid (nody.out fun hp => by have := hp.2.2.2 _ (List.getElem_mem hlt); rw [hok] at this; cases this)
            clear hok
            go_wp2_with fail
            go_ret
            exact BoolQ.mk HF.out (uw.trans u1)
          · have HN : Hid (∀ l ∈ x4.take (k + 1), okA l (deep - 1) = true) := by
              unfold Hid
              intro l hl
              rw [List.take_succ_eq_append_getElem hlt, List.mem_append] at hl
              rcases hl with hl | hl
              · exact HT.out l hl
              · obtain rfl : l = x4[k] := by simpa using hl
                exact hok
            clear hok
            go_wp2_with fail
            go_roundw
            case rel => exact ⟨k + 1, by omega, by go_num, HN, hu.trans u1⟩
            case measure => simp [intOf]; omega
        · have HT2 := Lib.hid (body.out ⟨C2.out, C3.out, D0.out, fun l hl => HT.out l (by rw [List.take_of_length_le (by omega)]; exact hl)⟩)
          go_wp2_with fail
          go_ret
          exact BoolQ.mk HT2.out uw
    have a5 : x4.length = 0 := by omega
    have a4i : ¬ (0 : Int) < (x4.length : Int) := by omega
    have bd : bodyP okA (x0, x1, x2, x3, x4) deep = (if x3 ≠ ⟨#[]⟩ then x2 = ⟨#[]⟩ else (x2 ≠ ⟨#[]⟩ ∧ risesV x2)) := if_neg a4
    rw [bd] at body nody
    clear bd a5
    by_cases c3 : x3 = ⟨#[]⟩
    case neg =>
      rw [if_pos c3] at body nody
      obtain ⟨r1, r2, r3⟩ := str_some c3
      clear c3
      by_cases c2 : x2 = ⟨#[]⟩
      · obtain ⟨s1, s2, s3⟩ := str_empty c2
        have HF := Lib.hid (body.out c2)
        clear c2 s3
        go_enter Try.func53, Try.ntmps53
        go_wp2_with (go_at_call 78; refine (in_any _ _ _ _).mono ?_; rintro e w1 ⟨rfl, rfl⟩; first | rw [e1] | rw [e2])
        go_ret
        exact BoolQ.mk HF.out uu0
      · obtain ⟨s1, s2, s3⟩ := str_some c2
        have HF := Lib.hid (nody.out c2)
        clear c2
        go_enter Try.func53, Try.ntmps53
        go_wp2_with (go_at_call 78; refine (in_any _ _ _ _).mono ?_; rintro e w1 ⟨rfl, rfl⟩; first | rw [e1] | rw [e2])
        go_ret
        exact BoolQ.mk HF.out uu0
    rw [if_neg (by simpa using c3)] at body nody
    obtain ⟨r1, r2, r3⟩ := str_empty c3
    clear c3 r3
    have hB : Hid (risesF x2 = V) := by
      unfold Hid risesF
      by_cases c2 : x2 = ⟨#[]⟩
      · rw [if_pos c2]; exact nody.out fun hp => hp.1 c2
      · rw [if_neg c2]
        by_cases hr : risesV x2
        · rw [risesB_t hr]; exact body.out ⟨c2, hr⟩
        · rw [risesB_f hr]; exact nody.out fun hp => hr hp.2
    clear body nody
    go_enter Try.func53, Try.ntmps53
    go_wp2_with (first | (go_at_call 78; refine (in_any _ _ _ _).mono ?_; rintro e w1 ⟨rfl, rfl⟩; first | rw [e1] | rw [e2]) | (go_at_call 79; refine (vc_codesAny x2 _ b2).mono ?_; rintro e w1 ⟨rfl, u1⟩))
    go_ret
    exact BoolQ.mk hB.out (uu0.trans u1)

set_option maxRecDepth 100000 in
set_option maxHeartbeats 4000000 in
theorem vc_l04OK {γ : Type} {shQq : Sh γ} (good_Qq : Good shQq) (okA : List γ → Int → Bool) (xs : List (TPattern γ)) (A : Option Addr) (c : Nat) (deep : Int) (w : World) (h : SRW (shPattern shQq) w A c xs) (h0 : 0 ≤ deep) (h3 : deep ≤ 3)
    (cI : ∀ (v : Value) (x : TPattern γ) (w : World), x ∈ xs → AV (shPattern shQq) w v x → Calls Try.prog 53 #[v, .int .i64 deep] w (BoolQ (itemV okA x deep) w)) :
    Calls Try.prog 35 #[.slice A xs.length c, .int .i64 deep] w (BoolQ (listV okA xs deep) w) := by
  have HH := Lib.hid cI; clear cI
  have hlen := h.len_le
  by_cases l1 : 1 ≤ xs.length
  case neg =>
    have HF : Hid (false = listV okA xs deep) := by unfold Hid; simp [listV, l1]
    have l1i : (xs.length : Int) < 1 := by omega
    go_enter Try.func35, Try.ntmps35
    go_wp2_with fail
    go_ret
    exact BoolQ.mk HF.out (Up.refl _)
  by_cases l8 : xs.length ≤ 8
  case neg =>
    have HF : Hid (false = listV okA xs deep) := by unfold Hid; simp [listV, l8]
    have l8i : (8 : Int) < (xs.length : Int) := by omega
    have l1i : ¬ (xs.length : Int) < 1 := by omega
    have l1d : decide ((xs.length : Int) < 1) = false := by simpa using l1i
    go_enter Try.func35, Try.ntmps35
    go_wp2_with fail
    go_ret
    exact BoolQ.mk HF.out (Up.refl _)
  have hV : listV okA xs deep = xs.all fun x => itemV okA x deep := by simp [listV, l1, l8]
  have HV := Lib.hid hV; clear hV
  have l8i : ¬ (8 : Int) < (xs.length : Int) := by omega
  have l1i : ¬ (xs.length : Int) < 1 := by omega
  have l1d : decide ((xs.length : Int) < 1) = false := by simpa using l1i
  have l8d : decide ((8 : Int) < (xs.length : Int)) = false := by simpa using l8i
  go_enter Try.func35, Try.ntmps35
  go_wp2_with fail
  go_loopw [5] (fun i wr => ∃ k : Nat, k ≤ xs.length ∧ i = .int .i64 k ∧ Hid ((xs.take k).all (fun x => itemV okA x deep) = true) ∧ Up w wr) (fun i _ => xs.length - (intOf i).toNat)
  case atStart => exact ⟨0, by omega, rfl, by simp [Hid], Up.refl _⟩
  case round =>
    obtain ⟨k, hk, rfl, HT, hu⟩ := hrel
    by_cases hlt : k < xs.length
    · obtain ⟨g, off, A4, c4, rfl, _, _, hc0, hc1, hc2, hc3, hc4, b0, b1, b2, b3, b4, _⟩ := atPattern (h.up (good_Pattern good_Qq) hu) hlt
      go_wp2_with fail
      refine (HH.out _ xs[k] _ (List.getElem_mem hlt) ⟨_, rfl, mkPattern (x := xs[k]) b0 b1 b2 b3 b4⟩).mono ?_
      rintro e w1 ⟨rfl, u1⟩
      cases hok : itemV okA xs[k] deep
      · have HF : Hid (false = listV okA xs deep) := by
          unfold Hid
          rw [HV.out, eq_comm, List.all_eq_false]
          exact ⟨xs[k], List.getElem_mem hlt, by rw [hok]; decide⟩
        clear hok
        go_wp2_with fail
        go_ret
        exact BoolQ.mk HF.out (hu.trans u1)
      · have HN : Hid ((xs.take (k + 1)).all (fun x => itemV okA x deep) = true) := by
          unfold Hid
          rw [List.take_succ_eq_append_getElem hlt, List.all_append, HT.out]
          simp [hok]
        clear hok
        go_wp2_with fail
        go_roundw
        case rel => exact ⟨k + 1, by omega, by go_num, HN, hu.trans u1⟩
        case measure => simp [intOf]; omega
    · have HT2 : Hid (true = listV okA xs deep) := by
        unfold Hid
        have := HT.out
        rw [List.take_of_length_le (by omega)] at this
        rw [HV.out, this]
      go_wp2_with fail
      go_ret
      exact BoolQ.mk HT2.out hu

abbrev OkS (n : Nat) : Prop := ∀ (l : List (Pat n)) (A : Option Addr) (c : Nat) (d : Int) (w : World), SRW (shPat n) w A c l → 0 ≤ d → d ≤ 3 → Calls Try.prog 35 #[.slice A l.length c, .int .i64 d] w (BoolQ (okPats n l d) w)
theorem vc_okPats : ∀ n, OkS n
  | 0 => fun l A c d w h h0 h3 => by
    obtain rfl := nil_E l
    exact (vc_l04OK (γ := Empty) good_E (fun _ _ => false) [] A c d w (SR.of_nil h) h0 h3 (fun _ x _ hx => absurd hx (by simp))).mono fun e w' ⟨he, u⟩ => ⟨by rw [he]; simp [listV, okPats], u⟩
  | n + 1 => fun l A c d w h h0 h3 => vc_l04OK (good_Pat n) (okPats n) l A c d w h h0 h3 (fun v x w _ hx => vc_l04Item (good_Pat n) (okPats n) (vc_okPats n) v x d w hx h0 h3)
end Go.Proofs.Ytgdcdfpnogiciaa
