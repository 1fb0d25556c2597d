/-
  strings.Builder at door seats: WriteByte, WriteString, String, off the contracts of the library.
  strings.ReplaceAll of the byte 0 by 0, 255 is escL: plain.
  The program's numbers: contracts of digitsOf, scaled, NumOf, NumText, IsCanon.
  The card's frame with the world's shape kept: the twin of returnsInHanded_of_change_and that hands the contract 'W.ShapedOpen', and the fact about the library's own variable internal/bytealg.MaxLen that is drawn from it: its cell holds some int.
  The program's texts of numbers: contracts of NumText, IsCanon; cmp.Compare.
  The program's putSub: one subscript's key written to a strings.Builder.
-/
import Derived.Test.YtanjmolgpkffoaaGreatDoorShelf
import Derived.Test.YtanjmolgpkffoaaGreatDoorM2A
import Derived.Shelf.Strings.BuilderK
import Derived.Test.YtanjmolgpkffoaaGreatDoorM2C
import Derived.Lib.ReplaceLaws
import Derived.Test.YtanjmolgpkffoaaGreatDoorM2B
import Derived.Shelf.Strings.SlTrimAscii
import Derived.HandedShaped
import Derived.Shelf.Vars
import Derived.Deep.DeepCutAuto
namespace Go.Proofs.YtanjmolgpkffoaaGreatDoor
open Go.RowKit
set_option linter.unusedVariables false
theorem Up.grown {w w' : World} (u : Up w w') : w.grownBy w' none := ⟨u.os, u.tape, u.output, u.size, fun k hk _ => u.block k hk⟩
theorem heap_lt {w : World} {b : Nat} {o : Obj} (h : w.heap[b]? = some o) : b < w.heap.size := (Array.getElem?_eq_some_iff.1 h).1
theorem Up.below {a b c : World} {B : Nat} (h : Up a b) (k : Below B b c) (hB : a.heap.size ≤ B) : Up a c := Below.trans h (Below.mono k hB)
theorem Bk.below {w w' : World} {g B : Nat} {t : TypeId} {C : Array Value} (h : Bk w g t C) (k : Below B w w') (hg : g < B) : Bk w' g t C := (k.block g hg).trans h
theorem Bk.others {w w' : World} {g b : Nat} {t e : TypeId} {C : Array Value} (h : Bk w g t C) (k : Lib.OthersKept e (some b) w w') (hg : g ≠ b) (ht : t ≠ e) : Bk w' g t C :=
  k g _ h (by simpa using hg) (fun c fz hc => by injection hc with _ h2 _; exact ht h2)
end Go.Proofs.YtanjmolgpkffoaaGreatDoor

namespace Go.Proofs.YtanjmolgpkffoaaGreatDoor
open Go.RowKit
set_option linter.unusedVariables false
set_option linter.unusedSimpArgs false

end Go.Proofs.YtanjmolgpkffoaaGreatDoor

namespace Go.Proofs.YtanjmolgpkffoaaGreatDoor
open Go.RowKit
set_option linter.unusedVariables false
set_option linter.unusedSimpArgs false

theorem tab_up {w w' : World} {name : String} {k : IntKind} {zs : List Int} (h : Lib.TabIs Tryz.prog w name k zs) (u : Up w w') : Lib.TabIs Tryz.prog w' name k zs := by
  unfold Lib.TabIs World.var? at h ⊢
  cases hg : Tryz.prog.globalNamed name with
  | none => simp [hg] at h
  | some g =>
    simp only [hg, Option.bind_some] at h ⊢
    have hlt : g < w.heap.size := by
      rcases Nat.lt_or_ge g w.heap.size with h1 | h1
      · exact h1
      · rw [Array.getElem?_eq_none h1] at h; simp at h
    rw [u.block g hlt]
    exact h
abbrev Tab (w : World) : Prop := Lib.TabIs Tryz.prog w "internal/strconv.uint64pow10" .u64 Lib.pow10Tab
theorem up_grow (w : World) (q : Nat) (os : Array Obj) : Up w (Sort.grow (w.drewN q) os) := by
  refine ⟨rfl, rfl, rfl, by simp [Sort.grow, World.drewN], fun b hb => ?_⟩
  show (w.heap ++ os)[b]? = w.heap[b]?
  exact Array.getElem?_append_left hb
theorem conv_sb (s : ByteArray) (w : World) : ∃ (cap : Nat) (W : World), (convert 9 148 (.string s)).run Tryz.prog w = .ok (.slice (some ⟨w.heap.size, 0, none⟩) s.size cap) W ∧ Up w W ∧ W.heap.size = w.heap.size + 1 ∧ ∀ j (h : j < s.size), W.cell? ⟨w.heap.size, j, none⟩ = some (.int .u8 (s[j].toNat : Int)) := by
  refine ⟨_, _, Lib.run_convert_string_bytes (P := Tryz.prog) w 9 148 5 s Tryz.underlying9 Tryz.underlying148 Tryz.underlying5, ?_, Lib.bytesWorld_size _ _ _, fun j h => ?_⟩
  · refine ⟨rfl, rfl, rfl, by rw [Lib.bytesWorld_size]; omega, fun b hb => Lib.bytesWorld_at_old _ _ _ _ hb⟩
  · rw [Lib.bytesWorld_cell _ _ _ _ h]
    have : s.data.toList.getD j 0 = s[j] := by
      rw [List.getD_eq_getElem?_getD, List.getElem?_eq_getElem (by rw [slen]; exact h)]
      rfl
    rw [this]
theorem c_trimSign (s : ByteArray) (w : World) : Calls Tryz.prog 236 #[.string s, .string ⟨#[43, 45]⟩] w (RetV (.string (bs (restL s.data.toList))) w) :=
  (Any.strings_TrimLeft_laid Tryz.lays161 (by kernel_rfl) s ⟨#[43, 45]⟩ w (by decide) (ascii_of_all (by decide))).mono fun e w' ⟨he, hb⟩ => ⟨by
    rw [he]
    have : Lib.trimLeftS s.data.toList [43, 45] = restL s.data.toList := by
      unfold Lib.trimLeftS restL
      congr 1
      funext b
      simp [isSign, List.contains, List.elem]
      cases h1 : (b == 43) <;> cases h2 : (b == 45) <;> simp_all
    show Ending.returned (.string ⟨(Lib.trimLeftS s.data.toList [43, 45]).toArray⟩) = _
    rw [this]; rfl, hb⟩
theorem dig_mem (b : UInt8) : ([48, 49, 50, 51, 52, 53, 54, 55, 56, 57] : List UInt8).contains b = isDig b := by
  have : ∀ n : Fin 256, ([48, 49, 50, 51, 52, 53, 54, 55, 56, 57] : List UInt8).contains (UInt8.ofNat n.val) = isDig (UInt8.ofNat n.val) := by decide +kernel
  have h := this ⟨b.toNat, b.toNat_lt⟩
  simpa using h
theorem c_trimDig (s : ByteArray) (w : World) : Calls Tryz.prog 236 #[.string s, .string ⟨#[48, 49, 50, 51, 52, 53, 54, 55, 56, 57]⟩] w (RetV (.string (bs (s.data.toList.dropWhile isDig))) w) :=
  (Any.strings_TrimLeft_laid Tryz.lays161 (by kernel_rfl) s ⟨#[48, 49, 50, 51, 52, 53, 54, 55, 56, 57]⟩ w (by decide) (ascii_of_all (by decide))).mono fun e w' ⟨he, hb⟩ => ⟨by
    rw [he]
    have : Lib.trimLeftS s.data.toList [48, 49, 50, 51, 52, 53, 54, 55, 56, 57] = s.data.toList.dropWhile isDig := by
      unfold Lib.trimLeftS
      congr 1
      funext b
      exact dig_mem b
    show Ending.returned (.string ⟨(Lib.trimLeftS s.data.toList [48, 49, 50, 51, 52, 53, 54, 55, 56, 57]).toArray⟩) = _
    rw [this]; rfl, hb⟩
def digN (s : ByteArray) : Nat := (s.data.toList.takeWhile isDig).length
theorem digN_le (s : ByteArray) : digN s ≤ s.size := by have := tw_le isDig s.data.toList; rw [slen] at this; exact this
theorem c_digitsOf (s : ByteArray) (w : World) (hs : s.size ≤ maxLen) : Calls Tryz.prog 238 #[.string s] w (RetV (.int .i64 (digN s)) w) := by
  unfold maxLen at hs
  have h1 : (bs (s.data.toList.dropWhile isDig)).size + digN s = s.size := by
    rw [bs_size, ← slen]
    have := congrArg List.length (List.takeWhile_append_dropWhile (p := isDig) (l := s.data.toList))
    rw [List.length_append] at this
    unfold digN
    omega
  go_enter Tryz.func238, Tryz.ntmps238
  go_wp2_with fail
  refine (c_trimDig s _).mono ?_
  rintro e w1 ⟨rfl, u1⟩
  go_wp2_with fail
  go_ret
  exact ⟨ret_int (by omega), u1⟩
set_option maxRecDepth 100000 in
set_option maxHeartbeats 4000000 in
theorem c_scaled (d : ByteArray) (w : World) (hd : ∀ i (h : i < d.size), isDig d[i] = true) (hs : d.size ≤ maxLen) : Calls Tryz.prog 240 #[.int .i64 0, .string d] w (RetV (.int .i64 (min (valD d.data.toList) maxNum : Nat)) w) := by
  unfold maxLen at hs
  obtain ⟨cap, W, hrun, uW, hsz, hcell⟩ := conv_sb d w
  have HD := Lib.hid hd
  have HC := Lib.hid hcell
  have HU := Lib.hid uW
  have hl := slen d
  clear hd hcell
  go_enter Tryz.func240, Tryz.ntmps240
  go_wp2_with fail
  go_loopw [10, 0] (fun i n wr => ∃ (k v : Nat), k ≤ d.size ∧ i = .int .i64 k ∧ n = .int .i64 v ∧ Hid (v = valD (d.data.toList.take k)) ∧ v ≤ 999999999999999999 ∧ wr = W) (fun i _ _ => d.size - (intOf i).toNat)
  case atStart => exact ⟨0, 0, Nat.zero_le _, rfl, rfl, rfl, by omega, rfl⟩
  case round =>
    obtain ⟨k, v, hk, rfl, rfl, HV, hv, rfl⟩ := hrel
    by_cases hlt : k < d.size
    · have hc := HC.out k hlt
      have hdg := isDig_bd (HD.out k hlt)
      have hsn := valD_take_succ d.data.toList (j := k) (by omega)
      have hel : d.data.toList[k]'(by omega) = d[k] := rfl
      rw [hel, ← HV.out] at hsn
      have hdv : dval d[k] = d[k].toNat - 48 := rfl
      rw [hdv] at hsn
      have hq1 : (48 : Int) ≤ d[k].toNat := by omega
      have hq2 : (d[k].toNat : Int) ≤ 57 := by omega
      by_cases hbig : 10 * v + (d[k].toNat - 48) ≤ 999999999999999999
      · have hg : ¬ (999999999999999999 - ((d[k].toNat : Int) - 48)) / 10 < (v : Int) := by omega
        have H := Lib.hid hsn
        clear hsn hel hdv hdg
        go_wp2
        go_roundw
        case rel => exact ⟨k + 1, 10 * v + (d[k].toNat - 48), by omega, by go_num, ret_int' (by omega), H.out.symm, hbig, by trivial⟩
        case measure => simp [intOf]; omega
      · have hg : (999999999999999999 - ((d[k].toNat : Int) - 48)) / 10 < (v : Int) := by omega
        have hge : valD (d.data.toList.take (k + 1)) ≤ valD d.data.toList := by
          have := foldD_ge (d.data.toList.drop (k + 1)) (valD (d.data.toList.take (k + 1)))
          rw [show (d.data.toList.drop (k + 1)).foldl stepD (valD (d.data.toList.take (k + 1))) = valD d.data.toList by
            unfold valD; rw [← List.foldl_append, List.take_append_drop]] at this
          exact this
        have hmin : min (valD d.data.toList) maxNum = 999999999999999999 := Nat.min_eq_right (by simp only [maxNum]; omega)
        have H := Lib.hid hmin
        clear hsn hel hdv hdg hge hmin
        go_wp2
        go_ret
        exact ⟨ret_int (by rw [H.out]; rfl), HU.out⟩
    · have hvv : v = valD d.data.toList := by rw [HV.out, List.take_of_length_le (by omega)]
      have hmin : min (valD d.data.toList) maxNum = v := by rw [← hvv]; exact Nat.min_eq_left hv
      have H := Lib.hid hmin
      clear hmin hvv
      go_wp2
      go_ret
      exact ⟨ret_int (by rw [H.out]), HU.out⟩
theorem c_Count (s : ByteArray) (w : World) : Calls Tryz.prog 237 #[.string s, .string ⟨#[45]⟩] w fun e w' => e = .returned (.int .i64 (s.data.toList.count 45 : Nat)) ∧ w = w' :=
  (Tryz.strings_Count_one s 45 w).mono fun e w' ⟨he, hw⟩ => ⟨he, hw.symm⟩
theorem extract_bs (s : ByteArray) (a b : Nat) : s.extract a b = bs ((s.data.toList.take b).drop a) := by
  conv => lhs; rw [← bs_eta s]
  exact bs_extract _ _ _
theorem tw_dig (l : List UInt8) : ∀ c ∈ l.takeWhile isDig, isDig c = true := fun c hc => by
  induction l with
  | nil => simp at hc
  | cons x l ih =>
    by_cases hx : isDig x = true
    · rw [List.takeWhile_cons_of_pos hx] at hc
      rcases List.mem_cons.1 hc with rfl | hc
      · exact hx
      · exact ih hc
    · rw [List.takeWhile_cons_of_neg hx] at hc
      simp at hc
theorem fracOf_dig (l : List UInt8) : ∀ c ∈ fracOf l, isDig c = true := by
  cases l with
  | nil => intro c hc; simp [fracOf] at hc
  | cons x t =>
    intro c hc
    by_cases h46 : x = 46
    · rw [fracOf, if_pos h46] at hc
      exact tw_dig t c hc
    · rw [fracOf, if_neg h46] at hc
      simp at hc
theorem absS_dig (l : List UInt8) : ∀ c ∈ wholeL l ++ six (fracL l), isDig c = true := fun c hc => by
  rcases List.mem_append.1 hc with h | h
  · exact tw_dig _ c h
  · have := List.mem_of_mem_take h
    rcases List.mem_append.1 this with h | h
    · exact fracOf_dig _ c h
    · have : c = 48 := by simpa using h
      subst this; decide
theorem bs_dig {l : List UInt8} (h : ∀ c ∈ l, isDig c = true) : ∀ i (hi : i < (bs l).size), isDig (bs l)[i] = true := fun i hi => by
  rw [bs_get]
  exact h _ (List.getElem_mem _)
theorem prefix_dot (l : List UInt8) : (Lib.hasPrefix l [46] = true ∧ ∃ t, l = 46 :: t ∧ Lib.trimPrefix l [46] = t) ∨ (Lib.hasPrefix l [46] = false ∧ fracOf l = []) := by
  cases l with
  | nil => exact .inr ⟨rfl, rfl⟩
  | cons x t =>
    by_cases h : x = 46
    · subst h
      have hp : Lib.hasPrefix (46 :: t) [46] = true := by simp [Lib.hasPrefix]
      exact .inl ⟨hp, t, rfl, by unfold Lib.trimPrefix; rw [if_pos hp]; rfl⟩
    · have hp : Lib.hasPrefix (x :: t) [46] = false := by simp [Lib.hasPrefix, List.isPrefixOf]; exact fun (e : (46 : UInt8) = x) => h e.symm
      exact .inr ⟨hp, by rw [fracOf, if_neg h]⟩
set_option maxRecDepth 100000 in
set_option maxHeartbeats 4000000 in
theorem c_NumOf (s : ByteArray) (w : World) (hs : s.size ≤ 2 ^ 62) : Calls Tryz.prog 202 #[.string s] w (RetV (.int .i64 (numOf s)) w) := by
  have hsm : s.size ≤ 4611686018427387904 := hs
  have hrs : (bs (restL s.data.toList)).size + (signR s).length = s.size := by
    rw [bs_size, restL_eq, List.length_drop, slen]; have := signR_le s; omega
  have cT := fun w => c_trimSign s w
  have hx0 : s.extract 0 (signR s).length = bs (signR s) := by
    rw [extract_bs, List.drop_zero, signR_eq, tw_take]
  have hwh : (bs (restL s.data.toList)).extract 0 (digN (bs (restL s.data.toList))) = bs (wholeL s.data.toList) := by
    rw [bs_extract, List.drop_zero]
    unfold digN
    rw [bs_toList, tw_take]
    rfl
  have hws : (bs (wholeL s.data.toList)).size = digN (bs (restL s.data.toList)) := by
    rw [bs_size]; unfold digN; rw [bs_toList]; rfl
  have haf : (bs (restL s.data.toList)).extract (digN (bs (restL s.data.toList))) (bs (restL s.data.toList)).size = bs (afterL s.data.toList) := by
    rw [bs_extract, bs_size, List.take_length]
    unfold digN
    rw [bs_toList, dw_drop]
    rfl
  have hafs : (bs (afterL s.data.toList)).size ≤ s.size := by
    have h : (afterL s.data.toList).length ≤ (restL s.data.toList).length := by unfold afterL; exact (List.dropWhile_suffix _).length_le
    rw [bs_size]
    rw [bs_size] at hrs
    omega
  have hdn := digN_le (bs (restL s.data.toList))
  have hfl : fracL s.data.toList = fracOf (afterL s.data.toList) := rfl
  have cP : ∀ w, Calls Tryz.prog 239 #[.string (bs (afterL s.data.toList)), .string ⟨#[46]⟩] w fun e w' => e = .returned (.tuple #[.string (bs (Lib.trimPrefix (afterL s.data.toList) [46])), .bool (Lib.hasPrefix (afterL s.data.toList) [46])]) ∧ w' = w := fun w => by
    have := Tryz.strings_CutPrefix (bs (afterL s.data.toList)) ⟨#[46]⟩ w
    rw [bs_toList] at this
    exact this
  have hnum : numOf s = if negB (signR s) = true then -((min (valD (bs (wholeL s.data.toList ++ six (fracL s.data.toList))).data.toList) maxNum : Nat) : Int) else ((min (valD (bs (wholeL s.data.toList ++ six (fracL s.data.toList))).data.toList) maxNum : Nat) : Int) := by
    rw [bs_toList, ← negL_eq]; rfl
  have hDs : (bs (wholeL s.data.toList ++ six (fracL s.data.toList))).size ≤ maxLen := by
    rw [bs_size] at hws ⊢
    rw [List.length_append, six_len]; unfold maxLen; omega
  have cD := fun w => c_scaled (bs (wholeL s.data.toList ++ six (fracL s.data.toList))) w (bs_dig (absS_dig _)) hDs
  have hcnt : (((signR s).count 45 : Nat) : Int) % 2 = if negB (signR s) = true then 1 else 0 := by
    unfold negB
    by_cases h : (signR s).count 45 % 2 = 1
    · rw [decide_eq_true h]; simp; omega
    · rw [decide_eq_false h]; simp; omega
  have cG := fun w => c_digitsOf (bs (restL s.data.toList)) w (by unfold maxLen; omega)
  have cC := fun w => c_Count (bs (signR s)) w
  rw [bs_toList] at cC
  have hapx : bs (wholeL s.data.toList) ++ bs (six (fracL s.data.toList)) = bs (wholeL s.data.toList ++ six (fracL s.data.toList)) := (bs_append _ _).symm
  have hfin : ∀ n : Nat, n ≤ 999999999999999999 → IntKind.i64.wrap (-(n : Int)) = -(n : Int) := fun n hn => IntWalk.i64_in _ (by omega)
  have hvl : min (valD (bs (wholeL s.data.toList ++ six (fracL s.data.toList))).data.toList) maxNum ≤ 999999999999999999 := Nat.min_le_right _ _
  have hpd := prefix_dot (afterL s.data.toList)
  rw [← hfl] at hpd
  have hfr : ∀ t, afterL s.data.toList = 46 :: t → fracL s.data.toList = t.takeWhile isDig := fun t ht => by rw [hfl, ht]; rfl
  generalize (signR s).count 45 = cnt at *
  generalize min (valD (bs (wholeL s.data.toList ++ six (fracL s.data.toList))).data.toList) maxNum = V at *
  generalize signR s = sg at *
  generalize afterL s.data.toList = af at *
  generalize wholeL s.data.toList = wh at *
  generalize restL s.data.toList = rl at *
  generalize fracL s.data.toList = fr at *
  have hsub : (s.size : Int) - ((bs rl).size : Int) = (sg.length : Int) := by omega
  have hle0 : (sg.length : Int) ≤ (s.size : Int) := by omega
  have hdn' : (digN (bs rl) : Int) ≤ ((bs rl).size : Int) := by omega
  have HT := Lib.hid cT
  have HC := Lib.hid cC
  have HG := Lib.hid cG
  have HP := Lib.hid cP
  have HD := Lib.hid cD
  have HN := Lib.hid hnum
  have HR := Lib.hid hfr
  have HF := Lib.hid hfin
  have hzs : bs fr ++ ⟨#[48, 48, 48, 48, 48, 48]⟩ = bs (fr ++ [48, 48, 48, 48, 48, 48]) := (bs_append _ _).symm
  have hz6 : (bs (fr ++ [48, 48, 48, 48, 48, 48])).extract 0 6 = bs (six fr) := by rw [bs_extract, List.drop_zero]; rfl
  have hz7 : (bs (fr ++ [48, 48, 48, 48, 48, 48])).size = (bs fr).size + 6 := by rw [bs_size, bs_size, List.length_append]; rfl
  have hss : (bs (six fr)).size = 6 := by rw [bs_size, six_len]
  have hrl : (bs rl).size ≤ 4611686018427387904 := by omega
  generalize digN (bs rl) = dn at *
  clear cG cT cC cP cD hnum hfr hfin hfl hDs
  rcases hpd with ⟨hp1, t, rfl, hp2⟩ | ⟨hp1, hp2⟩
  · have hfr := HR.out t rfl
    have hte : (bs t).extract 0 (digN (bs t)) = bs fr := by
      rw [bs_extract, List.drop_zero, hfr]
      unfold digN
      rw [bs_toList, tw_take]
    have hts : (bs t).size ≤ 4611686018427387904 := by
      have : (bs (46 :: t)).size = (bs t).size + 1 := by rw [bs_size, bs_size]; rfl
      omega
    have htn := digN_le (bs t)
    have htf : (bs fr).size ≤ (bs t).size := by
      rw [bs_size, bs_size, hfr]; exact tw_le _ _
    have cH := fun w => c_digitsOf (bs t) w (by unfold maxLen; omega)
    generalize digN (bs t) = tn at *
    have HH := Lib.hid cH
    have hp3 : bs (Lib.trimPrefix (46 :: t) [46]) = bs t := by rw [hp2]
    rw [hp1, hp2] at HP
    clear cH hfr hp1 hp2 hp3 HR
    have hz8 : ¬ 9223372036854775807 < (bs fr).size + (ByteArray.mk #[48, 48, 48, 48, 48, 48]).size := by rw [show (ByteArray.mk #[48, 48, 48, 48, 48, 48]).size = 6 from rfl]; omega
    have hz9 : ¬ 9223372036854775807 < (bs wh).size + (bs (six fr)).size := by rw [hss]; omega
    cases hng : negB sg
    all_goals
      rw [hng] at hcnt HN
      simp only [if_true, Bool.false_eq_true, if_false] at hcnt HN
      clear hng
      go_enter Tryz.func202, Tryz.ntmps202
      go_wp2_with fail
      refine (HT.out _).mono ?_
      rintro e w1 ⟨rfl, u1⟩
      go_wp2_with fail
      refine (HC.out _).mono ?_
      rintro e w1 ⟨rfl, rfl⟩
      go_wp2_with fail
      refine (HG.out _).mono ?_
      rintro e w2 ⟨rfl, u2⟩
      go_wp2_with fail
      refine (HP.out _).mono ?_
      rintro e w3 ⟨rfl, rfl⟩
      go_wp2_with fail
      refine (HH.out _).mono ?_
      rintro e w4 ⟨rfl, u4⟩
      go_wp2_with fail
      refine (HD.out _).mono ?_
      rintro e w5 ⟨rfl, u5⟩
      have hng := HF.out V hvl
      go_wp2_with fail
      go_ret
      exact ⟨ret_int (by rw [HN.out]), ((u1.trans u2).trans u4).trans u5⟩
  · subst hp2
    rw [hp1] at HP
    have hz8 : ¬ 9223372036854775807 < (bs wh).size + (bs (six [])).size := by rw [hss]; omega
    have hz9 : (⟨#[]⟩ ++ ⟨#[48, 48, 48, 48, 48, 48]⟩ : ByteArray).extract 0 6 = bs (six []) := hz6
    clear hp1 hz6 hzs hz7 HR
    cases hng : negB sg
    all_goals
      rw [hng] at hcnt HN
      simp only [if_true, Bool.false_eq_true, if_false] at hcnt HN
      clear hng
      go_enter Tryz.func202, Tryz.ntmps202
      go_wp2_with fail
      refine (HT.out _).mono ?_
      rintro e w1 ⟨rfl, u1⟩
      go_wp2_with fail
      refine (HC.out _).mono ?_
      rintro e w1 ⟨rfl, rfl⟩
      go_wp2_with fail
      refine (HG.out _).mono ?_
      rintro e w2 ⟨rfl, u2⟩
      go_wp2_with fail
      refine (HP.out _).mono ?_
      rintro e w3 ⟨rfl, rfl⟩
      go_wp2_with fail
      refine (HD.out _).mono ?_
      rintro e w5 ⟨rfl, u5⟩
      have hng := HF.out V hvl
      go_wp2_with fail
      go_ret
      exact ⟨ret_int (by rw [HN.out]), (u1.trans u2).trans u5⟩
end Go.Proofs.YtanjmolgpkffoaaGreatDoor

namespace Go.Proofs.YtanjmolgpkffoaaGreatDoor
open Go.RowKit
set_option linter.unusedVariables false
set_option linter.unusedSimpArgs false

theorem handed_and_shaped {H : Type} {enc : TypeId × Value → H} {a : Assume} {C : Checked} {os : Os} {f : FuncId} {fn : Func} {s : ChangeSpec} {conds : List PathCond} {apart fresh handsOn again : Bool} {X : World → Array Value → Prop}
    (hX : ∀ (w w' : World) (args : Array Value), w.heap = w'.heap → X w args → X w' args)
    (own : ownKnob C.prog.godebug = none) (started : os.Started) (noInit : C.prog.inits.idxOf? f = none) (hfn : C.prog.funcs[f]? = some fn)
    (witness : ∃ (w : World) (tape : Tape) (i : Input), w.os = os ∧ (w.forCall tape i).Shaped C.prog ∧ i.vars = [] ∧ Input.okWide C.prog (w.forCall tape i) .any w.heap.size f i ∧
      ((s.pre enc C.prog fn conds apart (w.forCall tape i).memory i.args ∧ X (w.forCall tape i).memory i.args) ∧ sizedMet enc C.prog fn (OpenSpec.ofChange s) apart (w.forCall tape i).memory i.args) ∧ a.holds C.prog (lone (Frame.enter C.prog f i.args .normal) [] (w.forCall tape i)))
    (contract : ∀ (W : World) (base : Nat) (args : Array Value) (ds gs : List (DataW H)) (before : List MemPlace),
      (∀ (j : Nat) t v, fn.params[j]? = some t → args[j]? = some v → Value.okWide C.prog W .any base t v) →
      DataW.Whole enc C.prog fn.params.toList s.vars apart W args.toList ds gs before →
      conds.all (PathCond.test C.prog ⟨fn.params.toList, ds, s.plain.varTypes C.prog, gs⟩) = true →
      (DataW.weightsEach C.prog (fn.params.toList ++ s.plain.varTypes C.prog) (ds ++ gs)).all (· ≤ reachBytes) = true → X W args →
      W.ShapedOpen C.prog →
      a.holds C.prog (lone (Frame.enter C.prog f args .normal) [] W) →
      Calls C.prog f args W fun e W' => ∃ v, e = .returned v ∧ s.post enc C.prog fn apart fresh handsOn again W args v W') :
    ReturnsInHanded a C os f .any (fun w args => (s.pre enc C.prog fn conds apart w args ∧ X w args) ∧ sizedMet enc C.prog fn (OpenSpec.ofChange s) apart w args) (s.post enc C.prog fn apart fresh handsOn again) := by
  refine returnsInHanded_of_calls own started noInit witness ?_
  intro w tape i _ hsh _ hok hpre hholds
  obtain ⟨_, _, _, fn', hfn', _, _, _, _, hval⟩ := hok
  have e : fn' = fn := Option.some.inj (hfn'.symm.trans hfn)
  subst e
  obtain ⟨⟨⟨ds, gs, before, hw, hc⟩, hx⟩, hz⟩ := hpre
  have hw' := DataW.Whole.of_heap (w' := w.forCall tape i) (by rfl) hw
  refine (contract (w.forCall tape i) w.heap.size i.args ds gs before hval hw' hc (hz.weights hw) (hX _ _ _ (by rfl) hx) hsh hholds).mono fun e W' ⟨v, he, hp⟩ => ?_
  subst he
  exact ChangeSpec.post_blind hp

/-- The cell of internal/bytealg.MaxLen (global 0) holds some int. -/
def MaxL (w : World) : Prop := ∃ m, w.cell? ⟨0, 0, none⟩ = some (.int .i64 m)

theorem maxL_shaped {w : World} (h : w.ShapedOpen Tryz.prog) : MaxL w :=
  cell_of_shapedOpen_int (zero := #[.int .i64 0]) (t := 3) h (of_decide_eq_true (by kernel_rfl)) (by kernel_rfl) rfl (by kernel_rfl) (by kernel_rfl) Tryz.underlying3

end Go.Proofs.YtanjmolgpkffoaaGreatDoor

namespace Go.Proofs.YtanjmolgpkffoaaGreatDoor
open Go.RowKit
set_option linter.unusedVariables false
set_option linter.unusedSimpArgs false

theorem c_format (k : Nat) (q : Int) (w : World) (hq : q = (k : Int)) (h1 : k ≤ 9223372036854775807) (htab : Tab w) : Calls Tryz.prog 258 #[.int .i64 q, .int .i64 10] w (RetV (.string (bs (decT k))) w) := by
  subst hq
  refine (Tryz.strconv_FormatInt_10 (k : Int) (by omega) (by omega) w htab).mono fun e w' ⟨he, q, os, hw⟩ => ⟨?_, by rw [hw]; exact up_grow w q os⟩
  rw [he]
  have : Lib.itoa (k : Int) = decT k := by unfold Lib.itoa decT; rw [if_neg (by omega), Int.toNat_natCast]
  rw [this]; rfl
theorem c_trimRightZ (l : List UInt8) (w : World) (hs : (bs l).size ≤ 9223372036854775807) : Calls Tryz.prog 259 #[.string (bs l), .string ⟨#[48]⟩] w (RetV (.string (bs (trimZ l))) w) :=
  (Tryz.strings_TrimRight_one (bs l) 48 (by decide) w hs).mono fun e w' ⟨he, hw⟩ => ⟨by rw [he, bs_toList]; rfl, by rw [hw]; exact Up.refl w⟩
theorem c_isNum (n : Int) (w : World) (h : n.natAbs ≤ 999999999999999999) : Calls Tryz.prog 257 #[.int .i64 n] w fun e w' => e = .returned (.bool true) ∧ w = w' := by
  have hb : inB n (-999999999999999999) 999999999999999999 = true := inB_t.2 (by omega)
  go_enter Tryz.func257, Tryz.ntmps257
  go_wp2_with fail
  refine (within_any _ _ _ _).mono ?_
  rintro e w' ⟨rfl, rfl⟩
  rw [hb]
  go_wp2_with fail
  go_ret
  exact ⟨rfl, rfl⟩
set_option maxRecDepth 100000 in
set_option maxHeartbeats 4000000 in
theorem c_NumText (n : Int) (w : World) (h : n.natAbs ≤ 999999999999999999) (htab : Tab w) : Calls Tryz.prog 235 #[.int .i64 n] w (RetV (.string (numText n)) w) := by
  by_cases h0 : n = 0
  · subst h0
    go_enter Tryz.func235, Tryz.ntmps235
    go_wp2_with fail
    refine (c_isNum _ _ (by simp)).mono ?_
    rintro e w' ⟨rfl, rfl⟩
    go_wp2_with fail
    go_ret
    exact ⟨rfl, Up.refl _⟩
  · obtain ⟨k, hk0, hk, hks⟩ : ∃ k : Nat, 0 < k ∧ k ≤ 999999999999999999 ∧ (n = -(k : Int) ∨ n = (k : Int)) := ⟨n.natAbs, by omega, by omega, by omega⟩
    have hq0 : decT (k / 1000000) = wholeT (k / 1000000) ∨ k / 1000000 = 0 := by
      by_cases hz : k / 1000000 = 0
      · exact .inr hz
      · exact .inl (by unfold wholeT; rw [if_neg hz])
    have cF := fun (q : Int) (m : Nat) (w : World) (h1 : q = (m : Int)) (h2 : m ≤ 1000000000000) (ht : Tab w) => c_format m q w h1 (by omega) ht
    have hdl := decT_length (k / 1000000) (by omega)
    have hds := bs_size (decT (k / 1000000))
    have hr6 : k % 1000000 < 1000000 := by omega
    have hD := decT_million hr6
    have hDl : (decT (1000000 + k % 1000000)).length = 7 := by rw [hD]; rfl
    have hs7 : (bs (decT (1000000 + k % 1000000))).size = 7 := by rw [bs_size, hDl]
    have hext : (bs (decT (1000000 + k % 1000000))).extract 1 7 = bs ((decT (1000000 + k % 1000000)).drop 1) := by rw [bs_extract, List.take_of_length_le (by omega)]
    have cR := fun w => c_trimRightZ ((decT (1000000 + k % 1000000)).drop 1) w (by rw [bs_size, List.length_drop]; omega)
    have htz : (bs (trimZ ((decT (1000000 + k % 1000000)).drop 1))).size ≤ 7 := by rw [bs_size]; have := trimZ_len ((decT (1000000 + k % 1000000)).drop 1); rw [List.length_drop] at this; omega
    have hneg : numText (-(k : Int)) = bs (45 :: (wholeT (k / 1000000) ++ fracT (k % 1000000))) := by
      unfold numText textL
      rw [if_neg (by omega), if_pos (by omega), Int.natAbs_neg, Int.natAbs_natCast]; rfl
    have hpos : numText (k : Int) = bs (wholeT (k / 1000000) ++ fracT (k % 1000000)) := by
      unfold numText textL
      rw [if_neg (by omega), if_neg (by omega), Int.natAbs_natCast]; rfl
    have hfrac : fracT (k % 1000000) = if k % 1000000 = 0 then [] else 46 :: trimZ ((decT (1000000 + k % 1000000)).drop 1) := rfl
    have hwh : wholeT (k / 1000000) = if k / 1000000 = 0 then [] else decT (k / 1000000) := rfl
    have HF := Lib.hid @cF
    have HR := Lib.hid cR
    clear cF cR
    obtain ⟨M, hM⟩ : ∃ M, M = 1000000 + k % 1000000 := ⟨_, rfl⟩
    rw [← hM] at hDl hs7 hext htz HR hfrac
    have HM := Lib.hid hM
    have hMb : M ≤ 1000000000000 := by omega
    have e1 : (1000000 : Int) + (k : Int) % 1000000 = (M : Int) := by omega
    have HE := Lib.hid e1
    have HMb := Lib.hid hMb
    clear e1 hMb
    obtain ⟨D, hDD⟩ : ∃ D, D = (decT M).drop 1 := ⟨_, rfl⟩
    rw [← hDD] at hext htz HR hfrac
    clear hD hM hDD
    have HQ := Lib.hid (show (k : Int) / 1000000 = ((k / 1000000 : Nat) : Int) by omega)
    have hri0 : ¬ (k % 1000000 = 0) → (0 : Int) < (k : Int) % 1000000 := by omega
    have hri1 : k % 1000000 = 0 → ¬ (0 : Int) < (k : Int) % 1000000 := by omega
    have hqi0 : k < 1000000 → ¬ (1000000 : Int) ≤ (k : Int) := by omega
    have hqi1 : ¬ k < 1000000 → (1000000 : Int) ≤ (k : Int) := by omega
    have hk1 : (0 : Int) < (k : Int) := by omega
    have hk2 : (k : Int) ≤ 999999999999999999 := by omega
    have hk3 : n = -(k : Int) ∨ n = (k : Int) := hks
    have hq1 : k / 1000000 ≤ 1000000000000 := by omega
    have HQB := Lib.hid hq1
    clear hks hq1
    generalize hmk : (k : Int) = m at *
    clear hmk
    rcases hk3 with rfl | hk4
    · have hn : numText (-m) = bs (45 :: (wholeT (k / 1000000) ++ fracT (k % 1000000))) := hneg
      clear hneg hpos
      have hlt : -m < 0 := by omega
      have hbd : -(999999999999999999 : Int) ≤ -m := by omega
      by_cases hq : k < 1000000
      · rw [hwh, if_pos (by omega)] at hn
        have hqi := hqi0 hq
        by_cases hr : k % 1000000 = 0
        · exfalso; omega
        · rw [hfrac, if_neg hr] at hn
          have hri := hri0 hr
          have hn2 : numText (-m) = ((⟨#[45]⟩ : ByteArray)) ++ (⟨#[46]⟩ ++ bs (trimZ D)) := by
            rw [hn]
            exact (bs_append [45] ([46] ++ trimZ D)).trans (by rw [bs_append]; try rfl)
          have H := Lib.hid hn2
          have g45 : (ByteArray.mk #[45]).size = 1 := rfl
          have g46 : (ByteArray.mk #[46]).size = 1 := rfl
          have g00 : (ByteArray.mk #[]).size = 0 := rfl
          have g2 : ¬ 9223372036854775807 < (ByteArray.mk #[46]).size + (bs (trimZ D)).size := by omega
          have g3 : ¬ 9223372036854775807 < (⟨#[45]⟩ : ByteArray).size + (⟨#[46]⟩ ++ bs (trimZ D) : ByteArray).size := by simp only [ByteArray.size_append, g45, g46, g00]; omega
          clear hn hn2 hwh hfrac hdl hds hDl hr6 g45 g46 g00 hr hq hq0 hk0 hk htz hri0 hri1 hqi0 hqi1 h0 h
          go_enter Tryz.func235, Tryz.ntmps235
          go_wp2_with (first | (go_at_call 257; (with_reducible refine (c_isNum _ _ (by omega)).mono ?_); rintro e w' ⟨rfl, rfl⟩) | (go_at_call 258; (with_reducible refine (HF.out _ M _ HE.out HMb.out htab).mono ?_); rintro e w2 ⟨rfl, u2⟩) | (go_at_call 259; (with_reducible refine (HR.out _).mono ?_); rintro e w3 ⟨rfl, u3⟩))
          go_ret
          exact ⟨by rw [H.out]; first | done | rfl, (u2).trans u3⟩
      · rw [hwh, if_neg (by omega)] at hn
        have hqi := hqi1 hq
        by_cases hr : k % 1000000 = 0
        · rw [hfrac, if_pos hr] at hn
          have hri := hri1 hr
          have hn2 : numText (-m) = (⟨#[45]⟩ : ByteArray) ++ bs (decT (k / 1000000)) := by
            rw [hn]
            exact (by rw [List.append_nil]; exact bs_append [45] _)
          have H := Lib.hid hn2
          have g45 : (ByteArray.mk #[45]).size = 1 := rfl
          have g46 : (ByteArray.mk #[46]).size = 1 := rfl
          have g00 : (ByteArray.mk #[]).size = 0 := rfl
          have g4 : (⟨#[]⟩ ++ bs (decT (k / 1000000)) : ByteArray) = bs (decT (k / 1000000)) := ByteArray.empty_append
          have g1 : ¬ 9223372036854775807 < (ByteArray.mk #[45]).size + (bs (decT (k / 1000000))).size := by omega
          clear hn hn2 hwh hfrac hdl hds hDl hr6 g45 g46 g00 hr hq hq0 hk0 hk htz hri0 hri1 hqi0 hqi1 h0 h
          go_enter Tryz.func235, Tryz.ntmps235
          go_wp2_with (first | (go_at_call 257; (with_reducible refine (c_isNum _ _ (by omega)).mono ?_); rintro e w' ⟨rfl, rfl⟩) | (go_at_call 258; (with_reducible refine (HF.out _ (k / 1000000) _ HQ.out HQB.out htab).mono ?_); rintro e w1 ⟨rfl, u1⟩; have htab1 := tab_up htab u1))
          go_ret
          exact ⟨by rw [H.out]; first | done | rfl, u1⟩
        · rw [hfrac, if_neg hr] at hn
          have hri := hri0 hr
          have hn2 : numText (-m) = ((⟨#[45]⟩ : ByteArray) ++ bs (decT (k / 1000000))) ++ (⟨#[46]⟩ ++ bs (trimZ D)) := by
            rw [hn]
            exact (bs_append ([45] ++ decT (k / 1000000)) ([46] ++ trimZ D)).trans (by rw [bs_append, bs_append]; try rfl)
          have H := Lib.hid hn2
          have g45 : (ByteArray.mk #[45]).size = 1 := rfl
          have g46 : (ByteArray.mk #[46]).size = 1 := rfl
          have g00 : (ByteArray.mk #[]).size = 0 := rfl
          have g4 : (⟨#[]⟩ ++ bs (decT (k / 1000000)) : ByteArray) = bs (decT (k / 1000000)) := ByteArray.empty_append
          have g1 : ¬ 9223372036854775807 < (ByteArray.mk #[45]).size + (bs (decT (k / 1000000))).size := by omega
          have g2 : ¬ 9223372036854775807 < (ByteArray.mk #[46]).size + (bs (trimZ D)).size := by omega
          have g3 : ¬ 9223372036854775807 < (⟨#[45]⟩ ++ bs (decT (k / 1000000)) : ByteArray).size + (⟨#[46]⟩ ++ bs (trimZ D) : ByteArray).size := by simp only [ByteArray.size_append, g45, g46, g00]; omega
          clear hn hn2 hwh hfrac hdl hds hDl hr6 g45 g46 g00 hr hq hq0 hk0 hk htz hri0 hri1 hqi0 hqi1 h0 h
          go_enter Tryz.func235, Tryz.ntmps235
          go_wp2_with (first | (go_at_call 257; (with_reducible refine (c_isNum _ _ (by omega)).mono ?_); rintro e w' ⟨rfl, rfl⟩) | (go_at_call 258; (with_reducible refine (HF.out _ (k / 1000000) _ HQ.out HQB.out htab).mono ?_); rintro e w1 ⟨rfl, u1⟩; have htab1 := tab_up htab u1) | (go_at_call 258; (with_reducible refine (HF.out _ M _ HE.out HMb.out htab1).mono ?_); rintro e w2 ⟨rfl, u2⟩) | (go_at_call 259; (with_reducible refine (HR.out _).mono ?_); rintro e w3 ⟨rfl, u3⟩))
          go_ret
          exact ⟨by rw [H.out]; first | done | rfl, ((u1).trans u2).trans u3⟩
    · replace hk4 := hk4.symm
      subst hk4
      have hn : numText m = bs ((wholeT (k / 1000000) ++ fracT (k % 1000000))) := hpos
      clear hneg hpos
      by_cases hq : k < 1000000
      · rw [hwh, if_pos (by omega)] at hn
        have hqi := hqi0 hq
        by_cases hr : k % 1000000 = 0
        · exfalso; omega
        · rw [hfrac, if_neg hr] at hn
          have hri := hri0 hr
          have hn2 : numText (m) = (⟨#[46]⟩ ++ bs (trimZ D)) := by
            rw [hn]
            exact bs_append [46] _
          have H := Lib.hid hn2
          have g45 : (ByteArray.mk #[45]).size = 1 := rfl
          have g46 : (ByteArray.mk #[46]).size = 1 := rfl
          have g00 : (ByteArray.mk #[]).size = 0 := rfl
          have g2 : ¬ 9223372036854775807 < (ByteArray.mk #[46]).size + (bs (trimZ D)).size := by omega
          have g5 : (⟨#[]⟩ ++ (⟨#[46]⟩ ++ bs (trimZ D)) : ByteArray) = ⟨#[46]⟩ ++ bs (trimZ D) := ByteArray.empty_append
          have g3 : ¬ 9223372036854775807 < (⟨#[]⟩ : ByteArray).size + (⟨#[46]⟩ ++ bs (trimZ D) : ByteArray).size := by simp only [ByteArray.size_append, g45, g46, g00]; omega
          clear hn hn2 hwh hfrac hdl hds hDl hr6 g45 g46 g00 hr hq hq0 hk0 hk htz hri0 hri1 hqi0 hqi1 h0 h
          go_enter Tryz.func235, Tryz.ntmps235
          go_wp2_with (first | (go_at_call 257; (with_reducible refine (c_isNum _ _ (by omega)).mono ?_); rintro e w' ⟨rfl, rfl⟩) | (go_at_call 258; (with_reducible refine (HF.out _ M _ HE.out HMb.out htab).mono ?_); rintro e w2 ⟨rfl, u2⟩) | (go_at_call 259; (with_reducible refine (HR.out _).mono ?_); rintro e w3 ⟨rfl, u3⟩))
          go_ret
          exact ⟨by rw [H.out]; first | done | rfl, (u2).trans u3⟩
      · rw [hwh, if_neg (by omega)] at hn
        have hqi := hqi1 hq
        by_cases hr : k % 1000000 = 0
        · rw [hfrac, if_pos hr] at hn
          have hri := hri1 hr
          have hn2 : numText (m) = bs (decT (k / 1000000)) := by
            rw [hn]
            exact (by rw [List.append_nil])
          have H := Lib.hid hn2
          have g45 : (ByteArray.mk #[45]).size = 1 := rfl
          have g46 : (ByteArray.mk #[46]).size = 1 := rfl
          have g00 : (ByteArray.mk #[]).size = 0 := rfl
          have g4 : (⟨#[]⟩ ++ bs (decT (k / 1000000)) : ByteArray) = bs (decT (k / 1000000)) := ByteArray.empty_append
          have g1 : ¬ 9223372036854775807 < (ByteArray.mk #[]).size + (bs (decT (k / 1000000))).size := by omega
          clear hn hn2 hwh hfrac hdl hds hDl hr6 g45 g46 g00 hr hq hq0 hk0 hk htz hri0 hri1 hqi0 hqi1 h0 h
          go_enter Tryz.func235, Tryz.ntmps235
          go_wp2_with (first | (go_at_call 257; (with_reducible refine (c_isNum _ _ (by omega)).mono ?_); rintro e w' ⟨rfl, rfl⟩) | (go_at_call 258; (with_reducible refine (HF.out _ (k / 1000000) _ HQ.out HQB.out htab).mono ?_); rintro e w1 ⟨rfl, u1⟩; have htab1 := tab_up htab u1))
          go_ret
          exact ⟨by rw [H.out]; first | done | rfl, u1⟩
        · rw [hfrac, if_neg hr] at hn
          have hri := hri0 hr
          have hn2 : numText (m) = (bs (decT (k / 1000000))) ++ (⟨#[46]⟩ ++ bs (trimZ D)) := by
            rw [hn]
            exact (bs_append (decT (k / 1000000)) ([46] ++ trimZ D)).trans (by rw [bs_append]; try rfl)
          have H := Lib.hid hn2
          have g45 : (ByteArray.mk #[45]).size = 1 := rfl
          have g46 : (ByteArray.mk #[46]).size = 1 := rfl
          have g00 : (ByteArray.mk #[]).size = 0 := rfl
          have g4 : (⟨#[]⟩ ++ bs (decT (k / 1000000)) : ByteArray) = bs (decT (k / 1000000)) := ByteArray.empty_append
          have g1 : ¬ 9223372036854775807 < (ByteArray.mk #[]).size + (bs (decT (k / 1000000))).size := by omega
          have g2 : ¬ 9223372036854775807 < (ByteArray.mk #[46]).size + (bs (trimZ D)).size := by omega
          have g3 : ¬ 9223372036854775807 < (bs (decT (k / 1000000))).size + (⟨#[46]⟩ ++ bs (trimZ D) : ByteArray).size := by simp only [ByteArray.size_append, g45, g46, g00]; omega
          clear hn hn2 hwh hfrac hdl hds hDl hr6 g45 g46 g00 hr hq hq0 hk0 hk htz hri0 hri1 hqi0 hqi1 h0 h
          go_enter Tryz.func235, Tryz.ntmps235
          go_wp2_with (first | (go_at_call 257; (with_reducible refine (c_isNum _ _ (by omega)).mono ?_); rintro e w' ⟨rfl, rfl⟩) | (go_at_call 258; (with_reducible refine (HF.out _ (k / 1000000) _ HQ.out HQB.out htab).mono ?_); rintro e w1 ⟨rfl, u1⟩; have htab1 := tab_up htab u1) | (go_at_call 258; (with_reducible refine (HF.out _ M _ HE.out HMb.out htab1).mono ?_); rintro e w2 ⟨rfl, u2⟩) | (go_at_call 259; (with_reducible refine (HR.out _).mono ?_); rintro e w3 ⟨rfl, u3⟩))
          go_ret
          exact ⟨by rw [H.out]; first | done | rfl, ((u1).trans u2).trans u3⟩
set_option maxHeartbeats 4000000 in
theorem c_IsCanon (s : ByteArray) (w : World) (hs : s.size ≤ 2 ^ 62) (htab : Tab w) : Calls Tryz.prog 201 #[.string s] w (RetV (.bool (canon s)) w) := by
  have hbe := str_beq (numText (numOf s)) s
  have hcc : decide (numText (numOf s) = s) = canon s := rfl
  rw [hcc] at hbe
  have HB := Lib.hid hbe
  clear hbe hcc
  go_enter Tryz.func201, Tryz.ntmps201
  go_wp2_with fail
  refine (c_NumOf s _ hs).mono ?_
  rintro e w1 ⟨rfl, u1⟩
  go_wp2_with fail
  refine (c_NumText _ _ (numOf_abs s) (tab_up htab u1)).mono ?_
  rintro e w2 ⟨rfl, u2⟩
  go_wp2_with fail
  go_ret
  exact ⟨by rw [← HB.out]; first | done | rfl, u1.trans u2⟩
end Go.Proofs.YtanjmolgpkffoaaGreatDoor

namespace Go.Proofs.YtanjmolgpkffoaaGreatDoor
open Go.RowKit
set_option linter.unusedVariables false
set_option linter.unusedSimpArgs false

theorem Up.ok {w w' : World} (u : Up w w') (b : Nat) : Lib.OthersKept 5 (some b) w w' := fun g o h _ _ => (u.block g (heap_lt h)).trans h
end Go.Proofs.YtanjmolgpkffoaaGreatDoor
