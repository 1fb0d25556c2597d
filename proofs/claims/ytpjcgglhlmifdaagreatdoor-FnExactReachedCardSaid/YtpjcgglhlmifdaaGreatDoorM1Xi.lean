/-
  Inspections: the program's memory, and its small functions.
-/
import Derived.Test.YtpjcgglhlmifdaaGreatDoorM1Tog
import Derived.Test.YtpjcgglhlmifdaaGreatDoorM1Bmg
import Derived.Test.YtpjcgglhlmifdaaGreatDoorM1A
namespace Go.Proofs.YtpjcgglhlmifdaaGreatDoor
open Go.RowKit
set_option linter.unusedVariables false
set_option linter.unusedSimpArgs false

set_option maxRecDepth 100000 in
set_option maxHeartbeats 1000000 in
theorem c_outside (key low high : ByteArray) (bL bH : Bool) (w : World) (hL : Hid (bL = decide (low ≠ ⟨#[]⟩))) (hH : Hid (bH = decide (high ≠ ⟨#[]⟩))) :
    Calls Tryz.prog 153 #[.string key, .agg #[.bool bL, .string low], .agg #[.bool bH, .string high]] w (BoolP (badKey low high key) w) := by
  have HR : Hid (badKey low high key = (bytesLt key low || (bH && !bytesLt key high))) := Lib.hid (by rw [hH.out]; rfl)
  generalize badKey low high key = R at HR ⊢
  have hlow : Hid (bL = false → bytesLt key low = false) := Lib.hid (fun h => by
    rw [hL.out] at h
    have e : low = ⟨#[]⟩ := by simpa using h
    rw [e]
    exact lt_empty key)
  clear hL hH
  cases bL
  · have ha := hlow.out rfl
    cases bH
    · have HR' := Lib.hid (show R = false by rw [HR.out, ha]; rfl)
      clear HR hlow ha
      go_enter Tryz.func153, Tryz.ntmps153
      go_wp2_with fail
      go_ret
      exact ⟨by rw [HR'.out]; rfl, (Up.refl _).alloc _ |>.alloc _⟩
    · cases hb : bytesLt key high
      · have hb' : Op.bytesLess key.toList high.toList = false := hb
        have HR' := Lib.hid (show R = true by rw [HR.out, ha, hb]; rfl)
        clear HR hlow ha hb
        go_enter Tryz.func153, Tryz.ntmps153
        go_wp2_with fail
        go_ret
        exact ⟨by rw [HR'.out]; rfl, (Up.refl _).alloc _ |>.alloc _⟩
      · have hb' : Op.bytesLess key.toList high.toList = true := hb
        have HR' := Lib.hid (show R = false by rw [HR.out, ha, hb]; rfl)
        clear HR hlow ha hb
        go_enter Tryz.func153, Tryz.ntmps153
        go_wp2_with fail
        go_ret
        exact ⟨by rw [HR'.out]; rfl, (Up.refl _).alloc _ |>.alloc _⟩
  · clear hlow
    cases ha : bytesLt key low
    · have ha' : Op.bytesLess key.toList low.toList = false := ha
      cases bH
      · have HR' := Lib.hid (show R = false by rw [HR.out, ha]; rfl)
        clear HR ha
        go_enter Tryz.func153, Tryz.ntmps153
        go_wp2_with fail
        go_ret
        exact ⟨by rw [HR'.out]; rfl, (Up.refl _).alloc _ |>.alloc _⟩
      · cases hb : bytesLt key high
        · have hb' : Op.bytesLess key.toList high.toList = false := hb
          have HR' := Lib.hid (show R = true by rw [HR.out, ha, hb]; rfl)
          clear HR ha hb
          go_enter Tryz.func153, Tryz.ntmps153
          go_wp2_with fail
          go_ret
          exact ⟨by rw [HR'.out]; rfl, (Up.refl _).alloc _ |>.alloc _⟩
        · have hb' : Op.bytesLess key.toList high.toList = true := hb
          have HR' := Lib.hid (show R = false by rw [HR.out, ha, hb]; rfl)
          clear HR ha hb
          go_enter Tryz.func153, Tryz.ntmps153
          go_wp2_with fail
          go_ret
          exact ⟨by rw [HR'.out]; rfl, (Up.refl _).alloc _ |>.alloc _⟩
    · have ha' : Op.bytesLess key.toList low.toList = true := ha
      have HR' := Lib.hid (show R = true by rw [HR.out, ha]; rfl)
      clear HR ha
      go_enter Tryz.func153, Tryz.ntmps153
      go_wp2_with fail
      go_ret
      exact ⟨by rw [HR'.out]; rfl, (Up.refl _).alloc _ |>.alloc _⟩
set_option maxRecDepth 100000 in
set_option maxHeartbeats 1000000 in
theorem c_vis1 (b1 b2 : Nat) (key low high : ByteArray) (bL bH : Bool) (w : World) (hL : Hid (bL = decide (low ≠ ⟨#[]⟩))) (hH : Hid (bH = decide (high ≠ ⟨#[]⟩)))
    (k1 : Bk w b1 174 #[.bool bL, .string low]) (k2 : Bk w b2 174 #[.bool bH, .string high]) :
    Calls Tryz.prog 152 #[.string key, .pointer (some ⟨b1, 0, none⟩), .pointer (some ⟨b2, 0, none⟩)] w (BoolP (badKey low high key) w) := by
  have CO := Lib.hid (c_outside key low high bL bH w hL hH)
  have g10 : w.cell? ⟨b1, 0, none⟩ = some (.bool bL) := k1.cell 0
  have g11 : w.cell? ⟨b1, 1, none⟩ = some (.string low) := k1.cell 1
  have g20 : w.cell? ⟨b2, 0, none⟩ = some (.bool bH) := k2.cell 0
  have g21 : w.cell? ⟨b2, 1, none⟩ = some (.string high) := k2.cell 1
  generalize badKey low high key = R at CO ⊢
  go_enter Tryz.func152, Tryz.ntmps152
  go_wp2_with fail
  refine CO.out.mono ?_
  rintro e w1 ⟨rfl, u1⟩
  go_wp2_with fail
  go_ret
  exact ⟨rfl, u1⟩
theorem eg_vis1 : ∀ args w, (callFunc 152 args).run Tryz.prog w = .ok (.enter 152 args) w := enters_of Tryz.func152 (by kernel_rfl) rfl
set_option maxRecDepth 100000 in
set_option maxHeartbeats 1000000 in
theorem c_small (g : Nat) (p : TPage) (A1 A2 A3 : Option Addr) (n2 c1 c2 c3 : Nat) (w : World) (k : Bk w g 88 #[.bool p.1, .slice A1 p.2.1.length c1, .slice A2 n2 c2, .slice A3 p.2.2.2.length c3]) :
    Calls Tryz.prog 154 #[.pointer (some ⟨g, 0, none⟩)] w (BoolP (decide (fillOf p < 3)) w) := by
  have g0 : w.cell? ⟨g, 0, none⟩ = some (.bool p.1) := k.cell 0
  have g1 : w.cell? ⟨g, 1, none⟩ = some (.slice A1 p.2.1.length c1) := k.cell 1
  have g3 : w.cell? ⟨g, 3, none⟩ = some (.slice A3 p.2.2.2.length c3) := k.cell 3
  obtain ⟨F, hF⟩ : ∃ F, F = decide (fillOf p < 3) := ⟨_, rfl⟩
  rw [← hF]
  cases hl : p.1
  · have e : fillOf p = p.2.2.2.length := fill_fork hl
    rw [e] at hF
    rw [hl] at g0
    have e2 : F = decide ((p.2.2.2.length : Int) < 3) := by rw [hF]; exact decide_eq_decide.2 (by omega)
    have HE := Lib.hid e2
    clear e e2 hF hl k
    go_enter Tryz.func154, Tryz.ntmps154
    go_wp2_with fail
    all_goals (go_ret)
    all_goals (exact ⟨by rw [HE.out]; simp_all, Up.refl _⟩)
  · have e : fillOf p = p.2.1.length := fill_leaf hl
    rw [e] at hF
    rw [hl] at g0
    have e2 : F = decide ((p.2.1.length : Int) < 3) := by rw [hF]; exact decide_eq_decide.2 (by omega)
    have HE := Lib.hid e2
    clear e e2 hF hl k
    go_enter Tryz.func154, Tryz.ntmps154
    go_wp2_with fail
    all_goals (go_ret)
    all_goals (exact ⟨by rw [HE.out]; simp_all, Up.refl _⟩)
theorem PagesR.sameX {w w' : World} {lo hi tb : Nat} {x : TBtree} (h : PagesR w lo hi tb x) (u : ∀ k, k < hi → w'.heap[k]? = w.heap[k]?) : PagesR w' lo hi tb x := by
  obtain ⟨pb, n, f, h1, h2, h3, h4, h5, h6, h7, h8⟩ := h
  refine ⟨pb, n, f, (u _ h5).trans h1, h2.same (u _ h7), h3, h4, h5, h6, h7, fun id => ⟨(h8 id).1, fun p hp => ?_⟩⟩
  obtain ⟨g', cs, q1, q2, q3, q4, q5⟩ := (h8 id).2 p hp
  exact ⟨g', cs, q1, q2, q3, (u _ q3).trans q4, good_Page.keep q5 (fun y h1 h2 => u y h2)⟩
theorem SO.butX {α : Type} {s : Sh α} (hg : Good s) {w w' : World} {lo g : Nat} {A : Option Addr} {c : Nat} {xs : List α} {bl : List Nat} (h : SO s w lo w.heap.size A c xs bl) (b : But g w w') (hn : g ∉ bl) : SO s w' lo w'.heap.size A c xs bl := by
  rw [b.size]
  exact h.keep hg (fun y hy => b.block y (fun e => hn (e ▸ hy)))
theorem Only.thenX {bl bl1 : List Nat} {a b c : World} (h : Only bl a b) (k : Only bl1 b c) (hs : ∀ y ∈ bl1, y ∈ bl ∨ a.heap.size ≤ y) : Only bl a c :=
  ⟨k.os.trans h.os, k.tape.trans h.tape, k.output.trans h.output, Nat.le_trans h.size k.size, fun i hi hn => (k.block i (Nat.lt_of_lt_of_le hi h.size) (fun hm => by rcases hs i hm with h1 | h1 <;> first | exact hn h1 | omega)).trans (h.block i hi hn)⟩
/-- The inspector's memory: pages, what was met, the first leaf's depth, the faults. -/
structure InR (w : World) (lo hi tb sb wb : Nat) (x : TBtree) (s : TInsp) (A : Option Addr) (c : Nat) (bl : List Nat) : Prop where
  pg : PagesR w lo hi tb x
  h1 : hi ≤ sb
  h2 : hi ≤ wb
  h3 : sb ≠ wb
  kw : Bk w wb 119 #[.pointer (some ⟨tb, 0, none⟩), .map (some sb), .int .i64 (depV s.2.1), .slice A s.2.2.length c]
  ks : MSet Tryz.prog 2 4 w sb s.1
  so : SO shFault w hi w.heap.size A c s.2.2 bl
  nd : bl.Nodup
  hs : sb ∉ bl
  hw : wb ∉ bl
/-- From w, where the faults own bl, to w', where the inspection stands at t. -/
def InT (lo hi tb sb wb : Nat) (x : TBtree) (t : TInsp) (bl : List Nat) (w w' : World) : Prop :=
  ∃ A c bl', InR w' lo hi tb sb wb x t A c bl' ∧ Only (sb :: wb :: bl) w w' ∧ ∀ y ∈ bl', y ∈ bl ∨ w.heap.size ≤ y
theorem InR.up {w w' : World} {lo hi tb sb wb : Nat} {x : TBtree} {s : TInsp} {A : Option Addr} {c : Nat} {bl : List Nat} (h : InR w lo hi tb sb wb x s A c bl) (u : Up w w') : InR w' lo hi tb sb wb x s A c bl :=
  ⟨h.pg.up u (by have := h.kw.lt; have := h.h2; omega), h.h1, h.h2, h.h3, h.kw.up u, h.ks.up u, h.so.up good_Fault u, h.nd, h.hs, h.hw⟩
theorem InR.here {w w' : World} {lo hi tb sb wb : Nat} {x : TBtree} {s : TInsp} {A : Option Addr} {c : Nat} {bl : List Nat} (h : InR w lo hi tb sb wb x s A c bl) (u : Up w w') : InT lo hi tb sb wb x s bl w w' :=
  ⟨A, c, bl, h.up u, Only.of_up u, fun y hy => .inl hy⟩
theorem InT.then {lo hi tb sb wb : Nat} {x : TBtree} {t : TInsp} {bl bl1 : List Nat} {w w1 w2 : World} (h1 : Only (sb :: wb :: bl) w w1) (h2 : ∀ y ∈ bl1, y ∈ bl ∨ w.heap.size ≤ y) (k : InT lo hi tb sb wb x t bl1 w1 w2) : InT lo hi tb sb wb x t bl w w2 := by
  obtain ⟨A2, c2, bl2, R2, o2, m2⟩ := k
  refine ⟨A2, c2, bl2, R2, h1.thenX o2 (fun y hy => ?_), fun y hy => ?_⟩
  · rcases List.mem_cons.1 hy with h | h
    · exact .inl (by rw [h]; exact List.mem_cons_self ..)
    · rcases List.mem_cons.1 h with h | h
      · exact .inl (by rw [h]; exact List.mem_cons_of_mem _ (List.mem_cons_self ..))
      · rcases h2 y h with h | h
        · exact .inl (List.mem_cons_of_mem _ (List.mem_cons_of_mem _ h))
        · exact .inr h
  · rcases m2 y hy with h | h
    · exact h2 y h
    · exact .inr (Nat.le_trans h1.size h)
theorem InT.up {lo hi tb sb wb : Nat} {x : TBtree} {t : TInsp} {bl : List Nat} {w w1 w2 : World} (h : InT lo hi tb sb wb x t bl w w1) (u : Up w1 w2) : InT lo hi tb sb wb x t bl w w2 := by
  obtain ⟨A, c, bl', R, o, m⟩ := h
  exact ⟨A, c, bl', R.up u, o.up u, m⟩
theorem InT.from {lo hi tb sb wb : Nat} {x : TBtree} {t : TInsp} {bl : List Nat} {w w1 w2 : World} (u : Up w w1) (h : InT lo hi tb sb wb x t bl w1 w2) : InT lo hi tb sb wb x t bl w w2 :=
  InT.then (Only.of_up u) (fun y hy => .inl hy) h
theorem InR.met {w w' : World} {lo hi tb sb wb : Nat} {x : TBtree} {s : TInsp} {A : Option Addr} {c : Nat} {bl : List Nat} {id : Int} (h : InR w lo hi tb sb wb x s A c bl) (ks : MSet Tryz.prog 2 4 w' sb (s.1 ++ [id])) (b : But sb w w') : InR w' lo hi tb sb wb x (meetF s id) A c bl :=
  ⟨h.pg.but b h.h1, h.h1, h.h2, h.h3, h.kw.butM b (fun e => h.h3 e.symm), ks, h.so.butX good_Fault b h.hs, h.nd, h.hs, h.hw⟩
theorem InR.deep {w : World} {lo hi tb sb wb : Nat} {x : TBtree} {s : TInsp} {A : Option Addr} {c : Nat} {bl : List Nat} {far : Nat} {D : Int} (h : InR w lo hi tb sb wb x s A c bl) (hD : Hid (D = (far : Int) - 1)) : InR (w.setCell ⟨wb, 2, none⟩ (.int .i64 D)) lo hi tb sb wb x (s.1, some far, s.2.2) A c bl := by
  have b := But.set w wb 2 (.int .i64 D)
  refine ⟨h.pg.but b h.h2, h.h1, h.h2, h.h3, ?_, h.ks.but b h.h3, h.so.butX good_Fault b h.hw, h.nd, h.hs, h.hw⟩
  have := h.kw.set 2 (.int .i64 D)
  rw [hD.out] at this ⊢
  exact this
theorem InR.far {w : World} {lo hi tb sb wb : Nat} {x : TBtree} {s : TInsp} {A : Option Addr} {c : Nat} {bl : List Nat} (h : InR w lo hi tb sb wb x s A c bl) : ∀ y ∈ sb :: wb :: bl, hi ≤ y ∧ y < w.heap.size := fun y hy => by
  rcases List.mem_cons.1 hy with e | e
  · rw [e]; exact ⟨h.h1, h.ks.lt⟩
  · rcases List.mem_cons.1 e with e | e
    · rw [e]; exact ⟨h.h2, h.kw.lt⟩
    · exact h.so.in_ good_Fault y e
theorem cinfo_FaultI : (Tryz.prog.info? 122).map (fun i => (i.zero, i.size, i.bytes)) = some (some (.agg #[.int .i64 0, .int .i64 0]), 2, 16) := by kernel_rfl
set_option maxRecDepth 100000 in
set_option maxHeartbeats 4000000 in
theorem c_report {w : World} {lo hi tb sb wb : Nat} {x : TBtree} {s : TInsp} {A : Option Addr} {c : Nat} {bl : List Nat} (kind id : Int) (hk : I64 kind) (hid : I64 id) (R : InR w lo hi tb sb wb x s A c bl) (hl : s.2.2.length ≤ 1000) :
    Calls Tryz.prog 109 #[.pointer (some ⟨wb, 0, none⟩), .int .i64 kind, .int .i64 id] w (fun e w' => e = .returned (.tuple #[]) ∧ InT lo hi tb sb wb x (tellF s kind id) bl w w') := by
  obtain ⟨i0, hi0, hz0, hz1, hz2⟩ := info_parts cinfo_FaultI
  have hin := R.so.in_ good_Fault
  have hhi : hi ≤ w.heap.size := by have := R.kw.lt; have := R.h2; omega
  have u1 : Up w (w.alloc (.cells #[.int .i64 kind, .int .i64 id] 122)) := (Up.refl _).alloc _
  have kq := Bk.new w 122 #[.int .i64 kind, .int .i64 id]
  have gb : w.cell? ⟨wb, 3, none⟩ = some (.slice A s.2.2.length c) := R.kw.cell 3
  have R1 := R.up u1
  have hx1 : (s.2.2.length + 1) * i0.bytes ≤ 140737488355328 := by rw [hz2]; omega
  have hx2 : s.2.2.length + 1 ≤ maxLen := by unfold maxLen; omega
  have ho : shFault.own (w.alloc (.cells #[.int .i64 kind, .int .i64 id] 122)) hi (w.alloc (.cells #[.int .i64 kind, .int .i64 id] 122)).heap.size [.int .i64 kind, .int .i64 id] (kind, id) [] := mkOFault (x := (kind, id)) hk hid
  have hlo1 := Nat.le_trans hhi u1.size
  go_enter Tryz.func109, Tryz.ntmps109
  go_wp2_with (first
    | (at_builtin
       refine wpList_app good_Fault rfl _ _ _ _ 122 rfl i0 _ Tryz.underlying48 hi0 hz0 hz1 (by rfl) (lo := hi) (xs := s.2.2) (ys := [(kind, id)]) (bl := bl) (bs := [[]]) (news := [.int .i64 kind, .int .i64 id]) rfl rfl R1.so (by simpa using R.nd) (Src.box (t := 122) Tryz.underlying48 kq (by simp [Value.oneCell']) (by rw [hz1]; rfl)) (Rowed.one good_Fault ho) hlo1 hx1 hx2 ?_
       intro D9 d9 bl9 w9 hap
       obtain ⟨so9, nd9, mem9, on9⟩ := hap
       have kb9 := R1.kw.only on9 R.hw
       have gb9 : w9.cell? ⟨wb, 3, none⟩ = some (.slice A s.2.2.length c) := kb9.cell 3
       have fb9 := kb9.frozen 3))
  refine bodyPost_end (v := .tuple #[]) (by simp [results, Tryz.results109, go_sem]) (by rfl) ?_
  have bt := But.set w9 wb 3 (.slice D9 (s.2.2.length + 1) d9)
  have kbE := kb9.set 3 (.slice D9 (s.2.2.length + 1) d9)
  have mem' : ∀ y ∈ bl9, y ∈ bl ∨ w.heap.size ≤ y := fun y hy => by
    rcases mem9 y hy with h | h
    · exact .inl (by simpa using h)
    · exact .inr (Nat.le_trans u1.size h)
  have hwn : wb ∉ bl9 := fun hm => by
    rcases mem' _ hm with h | h
    · exact R.hw h
    · have := R.kw.lt; omega
  have hsn : sb ∉ bl9 := fun hm => by
    rcases mem' _ hm with h | h
    · exact R.hs h
    · have := R.ks.lt; omega
  have kS : ∀ k, k < hi → (w9.setCell ⟨wb, 3, none⟩ (.slice D9 (s.2.2.length + 1) d9)).heap[k]? = (w.alloc (.cells #[.int .i64 kind, .int .i64 id] 122)).heap[k]? := fun k hk => (bt.block k (by have := R.h2; omega)).trans (on9.block k (by omega) (fun hm => by have := (hin _ hm).1; omega))
  refine ⟨rfl, D9, d9, bl9, ⟨R1.pg.sameX kS, R.h1, R.h2, R.h3, ?_, (R1.ks.same (on9.block sb R1.ks.lt R.hs)).but bt R.h3, ?_, nd9, hsn, hwn⟩, ?_, mem'⟩
  · show Bk _ _ _ #[_, _, _, .slice D9 (s.2.2 ++ [(kind, id)]).length d9]
    rw [List.length_append]
    exact kbE
  · exact so9.butX good_Fault bt hwn
  · exact ((Only.of_up (bl := sb :: wb :: bl) u1).trans (on9.mono (fun y hy => List.mem_cons_of_mem _ (List.mem_cons_of_mem _ hy)))).but bt (by simp)
end Go.Proofs.YtpjcgglhlmifdaaGreatDoor
