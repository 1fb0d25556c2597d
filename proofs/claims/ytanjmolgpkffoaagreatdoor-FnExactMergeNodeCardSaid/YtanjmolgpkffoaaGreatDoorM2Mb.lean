/-
  merge, at a tree behind a pointer; MergeNode, plain and the program's side.
-/
import Derived.Test.YtanjmolgpkffoaaGreatDoorM2Ma
import Derived.Test.YtanjmolgpkffoaaGreatDoorM2Lo
import Derived.Test.YtanjmolgpkffoaaGreatDoorM2Kg
import Derived.Deep.DeepCutAuto
namespace Go.Proofs.YtanjmolgpkffoaaGreatDoor
open Go.RowKit
set_option linter.unusedVariables false
set_option linter.unusedSimpArgs false

abbrev mto (ys zs : List ByteArray) (n : TNode) : List ByteArray := ys ++ n.2.1.drop zs.length
def mgL (s : ByteArray) (ys : List ByteArray) (f : ByteArray) (zs : List ByteArray) : TTree → List TNode → TTree × Int
  | y, [] => (y, 0)
  | y, n :: l => if atB n (f, zs) = true then (if subsB (mto ys zs n) = true then (if putC y (s, mto ys zs n) = 0 then mgL s ys f zs (putT y (s, mto ys zs n) n.2.2) l else ([], putC y (s, mto ys zs n))) else ([], 1)) else mgL s ys f zs y l
def mgB (s : ByteArray) (ys : List ByteArray) (f : ByteArray) (zs : List ByteArray) : Bool := decide (s = f) && (begB ys zs || begB zs ys)
def mgR (x : TTree) (s : ByteArray) (ys : List ByteArray) (f : ByteArray) (zs : List ByteArray) : TTree × Int := if mgB s ys f zs = true then ([], 5) else mgL s ys f zs x x
def mergeP (x : TTree) (s : ByteArray) (ys : List ByteArray) (f : ByteArray) (zs : List ByteArray) : TTree × Int := if treeB x = true ∧ placeB s ys = true ∧ placeB f zs = true then mgR x s ys f zs else ([], 1)
section
variable {s f : ByteArray} {ys zs : List ByteArray}
theorem mgL_skip {y : TTree} {l : List TNode} {k : Nat} (h : k < l.length) (ha : atB l[k] (f, zs) = false) : mgL s ys f zs y (l.drop k) = mgL s ys f zs y (l.drop (k + 1)) := by
  rw [List.drop_eq_getElem_cons h]
  conv => lhs; unfold mgL
  rw [if_neg (by rw [ha]; simp)]
theorem mgL_form {y : TTree} {l : List TNode} {k : Nat} (h : k < l.length) (ha : atB l[k] (f, zs) = true) (hb : subsB (mto ys zs l[k]) = false) : mgL s ys f zs y (l.drop k) = ([], 1) := by
  rw [List.drop_eq_getElem_cons h]
  unfold mgL
  rw [if_pos ha, if_neg (by rw [hb]; simp)]
theorem mgL_step {y : TTree} {l : List TNode} {k : Nat} (h : k < l.length) (ha : atB l[k] (f, zs) = true) (hb : subsB (mto ys zs l[k]) = true) (hc : putC y (s, mto ys zs l[k]) = 0) : mgL s ys f zs y (l.drop k) = mgL s ys f zs (putT y (s, mto ys zs l[k]) l[k].2.2) (l.drop (k + 1)) := by
  rw [List.drop_eq_getElem_cons h]
  conv => lhs; unfold mgL
  rw [if_pos ha, if_pos hb, if_pos hc]
theorem mgL_stop {y : TTree} {l : List TNode} {k : Nat} (h : k < l.length) (ha : atB l[k] (f, zs) = true) (hb : subsB (mto ys zs l[k]) = true) (hc : ¬ putC y (s, mto ys zs l[k]) = 0) : mgL s ys f zs y (l.drop k) = ([], putC y (s, mto ys zs l[k])) := by
  rw [List.drop_eq_getElem_cons h]
  unfold mgL
  rw [if_pos ha, if_pos hb, if_neg hc]
theorem mgL_P (hs : nameB s = true) : ∀ (l : List TNode) (y : TTree), TreeP y → (∀ n ∈ l, n.2.2.size ≤ 64) → TreeP (mgL s ys f zs y l).1
  | [], y, h, _ => h
  | n :: l, y, h, hi => by
    have h2 : ∀ m ∈ l, m.2.2.size ≤ 64 := fun m hm => hi m (List.mem_cons_of_mem _ hm)
    unfold mgL
    split
    · split
      · rename_i hb
        split
        · rename_i hc
          exact mgL_P hs l _ (putT_P h (show placeB s (mto ys zs n) = true by unfold placeB; rw [hs, hb]; rfl) (hi n (List.mem_cons_self ..)) (putC_ok hc)) h2
        · exact treeP_nil
      · exact treeP_nil
    · exact mgL_P hs l y h h2
theorem mgL_code : ∀ (l : List TNode) (y : TTree), (mgL s ys f zs y l).2 ≠ 0 → (mgL s ys f zs y l).1 = []
  | [], y => fun h => absurd rfl h
  | n :: l, y => by
    unfold mgL
    split
    · split
      · split
        · exact mgL_code l _
        · intro _; rfl
      · intro _; rfl
    · exact mgL_code l _
theorem mgR_code (x : TTree) (h : (mgR x s ys f zs).2 ≠ 0) : (mgR x s ys f zs).1 = [] := by
  revert h
  unfold mgR
  split
  · intro _; rfl
  · exact mgL_code _ _
theorem treeP_val {x : TTree} (h : TreeP x) : ∀ n ∈ x, n.2.2.size ≤ 64 := fun n hn => by
  have := (treeP_iff.1 h).2.1 n hn
  simp only [nodeB, Bool.and_eq_true, decide_eq_true_eq] at this
  exact this.2
theorem mergeP_P (x : TTree) : TreeP (mergeP x s ys f zs).1 := by
  unfold mergeP
  split
  · rename_i h
    unfold mgR
    split
    · exact treeP_nil
    · have hp := h.2.1
      simp only [placeB, Bool.and_eq_true] at hp
      exact mgL_P hp.1 _ _ (treeP_of h.1) (treeP_val (treeP_of h.1))
  · exact treeP_nil
theorem atB_len {n : TNode} (h : atB n (f, zs) = true) : zs.length ≤ n.2.1.length := by
  simp only [atB, begB, Bool.and_eq_true, decide_eq_true_eq] at h
  exact h.2.1
end
theorem SR.cutS {w : World} {a : Addr} {c : Nat} {xs : List ByteArray} (h : SRW shS w (some a) c xs) {k : Nat} (hk : k ≤ xs.length) : ∃ SA, (if c = k then some a else some (a.add k)) = some SA ∧ SRW shS w (some SA) (c - k) (xs.drop k) := by
  by_cases hc : c = k
  · refine ⟨a, by rw [if_pos hc], ?_⟩
    have h1 := h.1
    rw [List.drop_eq_nil_of_le (by omega)]
    exact SR.dropAll (by have := h.2.1; omega)
  · refine ⟨a.add k, by rw [if_neg hc], ?_⟩
    rcases Nat.eq_zero_or_pos xs.length with h0 | hp
    · rw [List.drop_eq_nil_of_le (by omega)]
      exact SR.dropAll (by have := h.2.1; omega)
    · obtain ⟨g, off, hA, _⟩ := h.2.2 hp
      injection hA with hA
      subst hA
      rw [addr_add]
      have e := h.dropN hk
      rw [show shS.size = 1 from rfl, Nat.mul_one] at e
      exact e
theorem wp_field_run {P : Program} (w : World) {o : Oper} {a : Act} {K : Act → World → Prop} {Q : Exit → Act → World → Prop} (x : Operand) (t : TypeId) (f : Nat)
    (ho : o.op = .field t x f) (v : Value) (hx : a.eval x = v) {v' : Value} {w' : World}
    (hr : (Instr.field t v f).run P w = .ok v' w') (h : K (a.put o.dst v') w') : o.wp P a w K Q := by
  unfold Oper.wp execOp
  simp only [ho, hx]
  simp only [Sem.run_bind, Sem.run_pure, Result.andThen_ok, hr]
  exact h
theorem wpList_field_run {P : Program} (w : World) {ops : Array Oper} {rest : List Oper} {o : Oper} {a : Act} {Q : Exit → Act → World → Prop} (hgd : o.guard = none) (x : Operand) (t : TypeId) (f : Nat)
    (ho : o.op = .field t x f) (v : Value) (hx : a.eval x = v) {v' : Value} {w' : World}
    (hr : (Instr.field t v f).run P w = .ok v' w') (h : wpList P ops Q rest (a.put o.dst v') w') : wpList P ops Q (o :: rest) a w :=
  wpList_plain hgd fun _ hK => wp_field_run w x t f ho v hx hr (hK _ _ h)
theorem fieldTree (v : Value) (W : World) : (Instr.field 32 (.agg #[v]) 0).run Tryz.prog W = .ok v W := by
  have h1 : (asAgg (Value.agg #[v])).run Tryz.prog W = .ok #[v] W := rfl
  simp [Instr.field, run_underlying Tryz.underlying32, h1]
  unfold part
  have h2 : (isAgg 30).run Tryz.prog W = .ok false W := by simp [isAgg, run_underlying Tryz.underlying30]
  simp [h2]
set_option maxRecDepth 100000 in
set_option maxHeartbeats 8000000 in
theorem c_merge (w0 : World) (g : Nat) (x : TTree) (bl : List Nat) (w : World) (h : OT w0.heap.size w g x bl) (u0 : Up w0 w) (hg : w0.heap.size ≤ g) (hx : TreeP x) (s : ByteArray) (ys : List ByteArray) (B : Option Addr) (d : Nat) (k : SRW shS w0 B d ys) (f : ByteArray) (zs : List ByteArray) (B' : Option Addr) (d' : Nat) (k' : SRW shS w0 B' d' zs)
    (hs : placeB s ys = true) (hf : placeB f zs = true) (hsm : s.size ≤ maxLen) (hfm : f.size ≤ maxLen) (htab : Tab w0) :
    Calls Tryz.prog 78 #[.pointer (some ⟨g, 0, none⟩), .string s, .slice B ys.length d, .string f, .slice B' zs.length d'] w (RdP w0.heap.size w g bl (mgR x s ys f zs)) := by
  have hyl := subs_len hs
  have hzl := subs_len hf
  have hnm : nameB s = true := by simp only [placeB, Bool.and_eq_true] at hs; exact hs.1
  have hin := h.in_
  have hgl := h.lt
  have cb1 := fun W (hW : Up w0 W) => c_begins ys zs B B' d d' W (k.up good_S hW) (k'.up good_S hW)
  have cb2 := fun W (hW : Up w0 W) => c_begins zs ys B' B d' d W (k'.up good_S hW) (k.up good_S hW)
  have HIN := Lib.hid hin
  have HX := Lib.hid hx
  have hbd : mgB s ys f zs = (decide (s = f) && (begB ys zs || begB zs ys)) := rfl
  have HB : Hid (∀ b, mgB s ys f zs = b → mgR x s ys f zs = if b = true then ([], 5) else mgL s ys f zs x x) := fun b hb => by unfold mgR; rw [hb]
  generalize mgB s ys f zs = mb at *
  generalize begB ys zs = b1 at *
  generalize begB zs ys = b2 at *
  have CB1 := Lib.hid cb1
  have CB2 := Lib.hid cb2
  have HF := Lib.hid hf
  have HS := Lib.hid hs
  have HNM := Lib.hid hnm
  have hxl := hx.1
  obtain ⟨A, c, hk, so, nd, hgn⟩ := id h
  have SOH := Lib.hid so
  clear cb1 cb2 hf hs hnm hx so
  go_enter Tryz.func78, Tryz.ntmps78
  go_upto_region 1 with fail
  go_cut [27] (fun t wx => t = .bool mb ∧ Up w wx)
  case first =>
    by_cases hsf : s = f
    · have hbe : (s.toList == f.toList) = true := by rw [str_beq]; simp [hsf]
      cases b1
      · have hbd' : mb = b2 := by rw [hbd, hsf]; simp
        clear hsf hbd
        go_wp2_with fail
        refine (CB1.out _ u0).mono ?_
        rintro e w1 ⟨rfl, u1⟩
        go_wp2_with fail
        refine (CB2.out _ (u0.trans u1)).mono ?_
        rintro e w2 ⟨rfl, u2⟩
        go_wp2_with fail
        go_meet
        exact ⟨by rw [hbd'], u1.trans u2⟩
      · have hbd' : mb = true := by rw [hbd, hsf]; simp
        clear hsf hbd
        go_wp2_with fail
        refine (CB1.out _ u0).mono ?_
        rintro e w1 ⟨rfl, u1⟩
        go_wp2_with fail
        go_meet
        exact ⟨by rw [hbd'], u1⟩
    · have hbe : (s.toList == f.toList) = false := by rw [str_beq]; simp [hsf]
      have hbd' : mb = false := by rw [hbd]; simp [hsf]
      clear hsf hbd
      go_wp2_with fail
      go_meet
      exact ⟨by rw [hbd'], Up.refl w⟩
  obtain ⟨rfl, u1⟩ := hcut
  clear hbd CB1 CB2
  cases mb
  · have HR := Lib.hid (show mgR x s ys f zs = mgL s ys f zs x x from HB.out false rfl)
    have hk1 := hk.up u1
    have g1 : wc.cell? ⟨g, 0, none⟩ = some (.slice A x.length c) := hk1.cell 0
    have cc := c_copyTree (.agg #[.slice A x.length c]) x wc ⟨_, rfl, mkTree (SR.of_own good_Node (SOH.out.up good_Node u1))⟩ (by omega) (treeP_subs HX.out)
    have CC := Lib.hid cc
    have hgc := hk1.lt
    have hinc : ∀ z ∈ bl, z < wc.heap.size := fun z hz => Nat.lt_of_lt_of_le (hin z hz).2 u1.size
    clear cc hk hk1 nd SOH
    go_wp2_with fail
    refine CC.out.mono ?_
    rintro e w2 ⟨cs2, bl2, rfl, o2, nd2, u2⟩
    obtain ⟨D2, d2, _, rfl, rfl, o4⟩ := openOTree o2
    have ot2 : OT w0.heap.size w2 g x bl := h.up (u1.trans u2)
    have uu2 := u0.trans (u1.trans u2)
    have uu12 := u1.trans u2
    have hgw := hgl
    have hinw : ∀ z ∈ bl, z < w.heap.size := fun z hz => (hin z hz).2
    have sr2 := Lib.hid (o4.rep good_Node)
    clear o4 o2 CC
    go_wp2_with (first | (refine wpList_field_run _ rfl (.tmp 31) 32 0 rfl _ rfl (fieldTree _ _) ?_))
    go_loopw [34] (fun i wr => ∃ (j : Nat) (y : TTree), j ≤ x.length ∧ i = .int .i64 j ∧ OTp w0.heap.size w2 g bl y wr ∧ Hid (TreeP y) ∧ Hid (mgL s ys f zs x x = mgL s ys f zs y (x.drop j))) (fun i _ => x.length - (intOf i).toNat)
    case atStart => exact ⟨0, x, Nat.zero_le _, rfl, OTp.same ot2 (Up.refl _), HX, by rw [List.drop_zero]; rfl⟩
    case round =>
      obtain ⟨j, y, hj, rfl, op, HP, HC⟩ := hrel
      have uw := op.upw uu2 hg (fun y hy => (HIN.out y hy).1)
      obtain ⟨bl1, ot, mem, on⟩ := op
      by_cases hlt : j < x.length
      · have srr := sr2.out.keep good_Node (w' := wr) (fun b h1 h2 => on.block b h2 (fun hm => by
          rcases List.mem_cons.1 hm with rfl | hm
          · omega
          · have := hinc _ hm; omega))
        obtain ⟨g3, off, A2, c2, rfl, hg3, hgl3, q0, q1, q2, b0, b1, b2, _⟩ := atNode srr hlt
        have hwr := on.size
        have b1' : SRW shS wr A2 c2 x[j].2.1 := b1.wide good_S (Nat.zero_le _) hwr
        have kn := Bk.new wr 91 #[.string x[j].1, .slice A2 x[j].2.1.length c2, .string x[j].2.2]
        have ua : Up wr (wr.alloc (.cells #[.string x[j].1, .slice A2 x[j].2.1.length c2, .string x[j].2.2] 91)) := (Up.refl wr).alloc _
        have cat := fun W (hW : Up wr W) => c_atOrBelow x[j] (.agg #[.string x[j].1, .slice A2 x[j].2.1.length c2, .string x[j].2.2]) f zs B' d' W (AV.up good_Node ⟨_, rfl, mkNode (x := x[j]) b0 b1' b2⟩ hW) (k'.up good_S (uw.trans hW))
        cases ha : atB x[j] (f, zs)
        · rw [ha] at cat
          have CA := Lib.hid cat
          have HN : Hid (mgL s ys f zs x x = mgL s ys f zs y (x.drop (j + 1))) := by unfold Hid; rw [HC.out, mgL_skip hlt ha]
          clear cat ha HC
          go_wp2_with fail
          refine (CA.out _ ua).mono ?_
          rintro e w3 ⟨rfl, u3⟩
          go_wp2_with fail
          go_roundw
          case rel => exact ⟨j + 1, y, by omega, by go_num, OTp.then mem on (OTp.same ot (ua.trans u3)), HP, HN⟩
          case measure => simp [intOf]; omega
        · rw [ha] at cat
          have CA := Lib.hid cat
          have hzn := atB_len ha
          have hcn := b1'.1
          have hcm := b1'.2.1
          unfold maxLen at hcm
          obtain ⟨T, hT⟩ : ∃ T, T = mto ys zs x[j] := ⟨_, rfl⟩
          have hcase : (subsB T = false ∧ mgL s ys f zs x x = ([], 1)) ∨ (subsB T = true ∧ ¬ putC y (s, T) = 0 ∧ mgL s ys f zs x x = ([], putC y (s, T))) ∨ (subsB T = true ∧ putC y (s, T) = 0 ∧ mgL s ys f zs x x = mgL s ys f zs (putK y (s, T) x[j].2.2) (x.drop (j + 1)) ∧ TreeP (putK y (s, T) x[j].2.2)) := by
            rw [hT, HC.out]
            cases hb : subsB (mto ys zs x[j])
            · exact .inl ⟨rfl, mgL_form hlt ha hb⟩
            · have hpl : placeB s (mto ys zs x[j]) = true := by unfold placeB; rw [HNM.out, hb]; rfl
              by_cases hz : putC y (s, mto ys zs x[j]) = 0
              · refine .inr (.inr ⟨rfl, hz, ?_, ?_⟩)
                · rw [mgL_step hlt ha hb hz]; unfold putK; rw [if_pos hz]
                · unfold putK; rw [if_pos hz]; exact putT_P HP.out hpl (treeP_val HX.out _ (List.getElem_mem hlt)) (putC_ok hz)
              · exact .inr (.inl ⟨rfl, hz, mgL_stop hlt ha hb hz⟩)
          have hsub : subsB T = true → Small T ∧ T.length ≤ 4 := fun hb => by
            have hpl : placeB s T = true := by unfold placeB; rw [HNM.out, hb]; rfl
            exact ⟨placeB_small hpl, subs_len hpl⟩
          have cp : ∀ W D dd, Up wr W → SRW shS W D dd T → subsB T = true → Calls Tryz.prog 120 #[.pointer (some ⟨g, 0, none⟩), .string s, .slice D T.length dd, .string x[j].2.2] W fun e w' => e = .returned (.int .i64 (putC y (s, T))) ∧ OTp w0.heap.size W g bl1 (putK y (s, T) x[j].2.2) w' := fun W D dd hW hS hb =>
            c_put g y bl1 w0.heap.size W (ot.up hW) (Nat.le_trans uw.size hW.size) HP.out s T D dd x[j].2.2 hS hsm (hsub hb).1 (by have := (hsub hb).2; omega) b2 (tab_up htab (uw.trans hW))
          have hxs : x[j].2.1.length ≤ 1048576 := treeP_subs HX.out j hlt
          generalize putC y (s, T) = q at *
          generalize putK y (s, T) x[j].2.2 = R at *
          have hnil : A2 = none → x[j].2.1.length = 0 := fun e => by
            rcases Nat.eq_zero_or_pos x[j].2.1.length with h | h
            · exact h
            · obtain ⟨g4, o4, hA, _⟩ := b1'.2.2 h
              rw [e] at hA; cases hA
          have hn2 : T = ys ++ x[j].2.1.drop zs.length := hT
          cases A2 with
          | none =>
            have hd2 : SRW shS wr none (c2 - zs.length) (x[j].2.1.drop zs.length) := by
              rw [List.eq_nil_of_length_eq_zero (l := x[j].2.1.drop zs.length) (by rw [List.length_drop, hnil rfl]; exact Nat.zero_sub _)]
              exact SR.dropAll (Nat.le_trans (Nat.sub_le _ _) b1'.2.1)
            have n1 : ∀ W, Up (wr.alloc (.cells #[.string x[j].1, .slice none x[j].2.1.length c2, .string x[j].2.2] 91)) W → W.cell? ⟨wr.heap.size, 1, none⟩ = some (.slice none x[j].2.1.length c2) := fun W hW => (kn.up hW).cell 1
            have n2 : ∀ W, Up (wr.alloc (.cells #[.string x[j].1, .slice none x[j].2.1.length c2, .string x[j].2.2] 91)) W → W.cell? ⟨wr.heap.size, 2, none⟩ = some (.string x[j].2.2) := fun W hW => (kn.up hW).cell 2
            have ccc := fun W (hW : Up wr W) => c_Concat2S ys (x[j].2.1.drop zs.length) B none d (c2 - zs.length) W.heap.size 25 _ (k.up good_S ((uw.trans hW).alloc _)) (hd2.up good_S (hW.alloc _)) (show Bk (W.alloc (.cells #[.slice B ys.length d, .slice none (x[j].2.1.length - zs.length) (c2 - zs.length)] 25)) W.heap.size 25 _ from by rw [List.length_drop]; exact Bk.new _ _ _) (by omega) (by rw [List.length_drop]; omega)
            rw [← hn2] at ccc
            have CCC := Lib.hid ccc
            have N1 := Lib.hid n1
            have N2 := Lib.hid n2
            clear ccc n1 n2 cat hn2 hT hnil
            rcases hcase with ⟨hb, hres⟩ | ⟨hb, hq, hres⟩ | ⟨hb, hq, hres, hPR⟩
            · have HRES := Lib.hid hres
              clear hres ha HC
              have csb := fun W D dd (hW : SRW shS W D dd T) => c_SubsOk T D dd W hW
              rw [hb] at csb
              have CSB := Lib.hid csb
              clear csb hb cp hsub
              go_wp2_with fail
              refine (CA.out _ ua).mono ?_
              rintro e w3 ⟨rfl, u3⟩
              have m1 := N1.out w3 u3
              have m2 := N2.out w3 u3
              have ua3 := ua.trans u3
              go_wp2_with fail
              refine (CCC.out w3 ua3).mono ?_
              rintro e w4 ⟨D4, d4, bl4, rfl, so4, nd4, u4⟩
              have sr4 := SR.of_own good_S so4
              have v4 : Up w3 w4 := ((Up.refl w3).alloc _).trans u4
              go_wp2_with fail
              refine (CSB.out w4 D4 d4 sr4).mono ?_
              rintro e w5 ⟨rfl, u5⟩
              have ua5 := ua3.trans (v4.trans u5)
              go_wp2_with fail
              go_ret
              exact RdP.mk (by rw [HR.out, HRES.out]) (OTp.before uu12 hgw hinw (OTp.then mem on (OTp.same ot ua5))) (by rw [HR.out, HRES.out]; simp)
            · have HRES := Lib.hid hres
              clear hres ha HC
              have hqb : (q != 0) = true := by simpa using hq
              have CP := Lib.hid (fun W D dd hW hS => cp W D dd hW hS hb)
              have csb := fun W D dd (hW : SRW shS W D dd T) => c_SubsOk T D dd W hW
              rw [hb] at csb
              have CSB := Lib.hid csb
              clear csb hb cp hsub
              go_wp2_with fail
              refine (CA.out _ ua).mono ?_
              rintro e w3 ⟨rfl, u3⟩
              have m1 := N1.out w3 u3
              have m2 := N2.out w3 u3
              have ua3 := ua.trans u3
              go_wp2_with fail
              refine (CCC.out w3 ua3).mono ?_
              rintro e w4 ⟨D4, d4, bl4, rfl, so4, nd4, u4⟩
              have sr4 := SR.of_own good_S so4
              have v4 : Up w3 w4 := ((Up.refl w3).alloc _).trans u4
              go_wp2_with fail
              refine (CSB.out w4 D4 d4 sr4).mono ?_
              rintro e w5 ⟨rfl, u5⟩
              have ua5 := ua3.trans (v4.trans u5)
              have p2 := N2.out w5 (u3.trans (v4.trans u5))
              go_wp2_with fail
              refine (CP.out w5 D4 d4 ua5 (sr4.up good_S u5)).mono ?_
              rintro e w6 ⟨rfl, op6⟩
              go_wp2_with fail
              go_ret
              exact RdP.mk (by rw [HR.out, HRES.out]) (OTp.before uu12 hgw hinw (OTp.then mem (on.up ua5) op6)) (by rw [HR.out, HRES.out]; exact fun h => absurd h hq)
            · have HRES := Lib.hid hres
              clear hres ha HC
              have HPR := Lib.hid hPR
              have CP := Lib.hid (fun W D dd hW hS => cp W D dd hW hS hb)
              subst hq
              have csb := fun W D dd (hW : SRW shS W D dd T) => c_SubsOk T D dd W hW
              rw [hb] at csb
              have CSB := Lib.hid csb
              clear csb hb cp hsub
              go_wp2_with fail
              refine (CA.out _ ua).mono ?_
              rintro e w3 ⟨rfl, u3⟩
              have m1 := N1.out w3 u3
              have m2 := N2.out w3 u3
              have ua3 := ua.trans u3
              go_wp2_with fail
              refine (CCC.out w3 ua3).mono ?_
              rintro e w4 ⟨D4, d4, bl4, rfl, so4, nd4, u4⟩
              have sr4 := SR.of_own good_S so4
              have v4 : Up w3 w4 := ((Up.refl w3).alloc _).trans u4
              go_wp2_with fail
              refine (CSB.out w4 D4 d4 sr4).mono ?_
              rintro e w5 ⟨rfl, u5⟩
              have ua5 := ua3.trans (v4.trans u5)
              have p2 := N2.out w5 (u3.trans (v4.trans u5))
              go_wp2_with fail
              refine (CP.out w5 D4 d4 ua5 (sr4.up good_S u5)).mono ?_
              rintro e w6 ⟨rfl, op6⟩
              go_wp2_with fail
              go_roundw
              case rel => exact ⟨j + 1, R, by omega, by go_num, OTp.then mem (on.up ua5) op6, HPR, HRES⟩
              case measure => simp [intOf]; omega
          | some a =>
            obtain ⟨SA, hSA, hd2⟩ := SR.cutS b1' hzn
            have n1 : ∀ W, Up (wr.alloc (.cells #[.string x[j].1, .slice (some a) x[j].2.1.length c2, .string x[j].2.2] 91)) W → W.cell? ⟨wr.heap.size, 1, none⟩ = some (.slice (some a) x[j].2.1.length c2) := fun W hW => (kn.up hW).cell 1
            have n2 : ∀ W, Up (wr.alloc (.cells #[.string x[j].1, .slice (some a) x[j].2.1.length c2, .string x[j].2.2] 91)) W → W.cell? ⟨wr.heap.size, 2, none⟩ = some (.string x[j].2.2) := fun W hW => (kn.up hW).cell 2
            have ccc := fun W (hW : Up wr W) => c_Concat2S ys (x[j].2.1.drop zs.length) B (some SA) d (c2 - zs.length) W.heap.size 25 _ (k.up good_S ((uw.trans hW).alloc _)) (hd2.up good_S (hW.alloc _)) (show Bk (W.alloc (.cells #[.slice B ys.length d, .slice (some SA) (x[j].2.1.length - zs.length) (c2 - zs.length)] 25)) W.heap.size 25 _ from by rw [List.length_drop]; exact Bk.new _ _ _) (by omega) (by rw [List.length_drop]; omega)
            rw [← hn2] at ccc
            have CCC := Lib.hid ccc
            have N1 := Lib.hid n1
            have N2 := Lib.hid n2
            clear ccc n1 n2 cat hn2 hT hnil
            rcases hcase with ⟨hb, hres⟩ | ⟨hb, hq, hres⟩ | ⟨hb, hq, hres, hPR⟩
            · have HRES := Lib.hid hres
              clear hres ha HC
              have csb := fun W D dd (hW : SRW shS W D dd T) => c_SubsOk T D dd W hW
              rw [hb] at csb
              have CSB := Lib.hid csb
              clear csb hb cp hsub
              go_wp2_with fail
              refine (CA.out _ ua).mono ?_
              rintro e w3 ⟨rfl, u3⟩
              have m1 := N1.out w3 u3
              have m2 := N2.out w3 u3
              have ua3 := ua.trans u3
              go_wp2_with fail
              refine (CCC.out w3 ua3).mono ?_
              rintro e w4 ⟨D4, d4, bl4, rfl, so4, nd4, u4⟩
              have sr4 := SR.of_own good_S so4
              have v4 : Up w3 w4 := ((Up.refl w3).alloc _).trans u4
              go_wp2_with fail
              refine (CSB.out w4 D4 d4 sr4).mono ?_
              rintro e w5 ⟨rfl, u5⟩
              have ua5 := ua3.trans (v4.trans u5)
              go_wp2_with fail
              go_ret
              exact RdP.mk (by rw [HR.out, HRES.out]) (OTp.before uu12 hgw hinw (OTp.then mem on (OTp.same ot ua5))) (by rw [HR.out, HRES.out]; simp)
            · have HRES := Lib.hid hres
              clear hres ha HC
              have hqb : (q != 0) = true := by simpa using hq
              have CP := Lib.hid (fun W D dd hW hS => cp W D dd hW hS hb)
              have csb := fun W D dd (hW : SRW shS W D dd T) => c_SubsOk T D dd W hW
              rw [hb] at csb
              have CSB := Lib.hid csb
              clear csb hb cp hsub
              go_wp2_with fail
              refine (CA.out _ ua).mono ?_
              rintro e w3 ⟨rfl, u3⟩
              have m1 := N1.out w3 u3
              have m2 := N2.out w3 u3
              have ua3 := ua.trans u3
              go_wp2_with fail
              refine (CCC.out w3 ua3).mono ?_
              rintro e w4 ⟨D4, d4, bl4, rfl, so4, nd4, u4⟩
              have sr4 := SR.of_own good_S so4
              have v4 : Up w3 w4 := ((Up.refl w3).alloc _).trans u4
              go_wp2_with fail
              refine (CSB.out w4 D4 d4 sr4).mono ?_
              rintro e w5 ⟨rfl, u5⟩
              have ua5 := ua3.trans (v4.trans u5)
              have p2 := N2.out w5 (u3.trans (v4.trans u5))
              go_wp2_with fail
              refine (CP.out w5 D4 d4 ua5 (sr4.up good_S u5)).mono ?_
              rintro e w6 ⟨rfl, op6⟩
              go_wp2_with fail
              go_ret
              exact RdP.mk (by rw [HR.out, HRES.out]) (OTp.before uu12 hgw hinw (OTp.then mem (on.up ua5) op6)) (by rw [HR.out, HRES.out]; exact fun h => absurd h hq)
            · have HRES := Lib.hid hres
              clear hres ha HC
              have HPR := Lib.hid hPR
              have CP := Lib.hid (fun W D dd hW hS => cp W D dd hW hS hb)
              subst hq
              have csb := fun W D dd (hW : SRW shS W D dd T) => c_SubsOk T D dd W hW
              rw [hb] at csb
              have CSB := Lib.hid csb
              clear csb hb cp hsub
              go_wp2_with fail
              refine (CA.out _ ua).mono ?_
              rintro e w3 ⟨rfl, u3⟩
              have m1 := N1.out w3 u3
              have m2 := N2.out w3 u3
              have ua3 := ua.trans u3
              go_wp2_with fail
              refine (CCC.out w3 ua3).mono ?_
              rintro e w4 ⟨D4, d4, bl4, rfl, so4, nd4, u4⟩
              have sr4 := SR.of_own good_S so4
              have v4 : Up w3 w4 := ((Up.refl w3).alloc _).trans u4
              go_wp2_with fail
              refine (CSB.out w4 D4 d4 sr4).mono ?_
              rintro e w5 ⟨rfl, u5⟩
              have ua5 := ua3.trans (v4.trans u5)
              have p2 := N2.out w5 (u3.trans (v4.trans u5))
              go_wp2_with fail
              refine (CP.out w5 D4 d4 ua5 (sr4.up good_S u5)).mono ?_
              rintro e w6 ⟨rfl, op6⟩
              go_wp2_with fail
              go_roundw
              case rel => exact ⟨j + 1, R, by omega, by go_num, OTp.then mem (on.up ua5) op6, HPR, HRES⟩
              case measure => simp [intOf]; omega
      · obtain rfl : j = x.length := by omega
        have HRES : Hid (mgL s ys f zs x x = (y, 0)) := by unfold Hid; rw [HC.out, List.drop_length]; rfl
        clear HC
        go_wp2_with fail
        go_ret
        exact RdP.mk (by rw [HR.out, HRES.out]) (OTp.before uu12 hgw hinw (OTp.then mem on (OTp.same ot (Up.refl _)))) (by rw [HR.out, HRES.out]; simp)
  · have HR := Lib.hid (HB.out true rfl)
    go_wp2_with fail
    go_ret
    exact RdP.mk (by rw [HR.out]; rfl) (OTp.same h u1) (by rw [HR.out]; simp)
end Go.Proofs.YtanjmolgpkffoaaGreatDoor
