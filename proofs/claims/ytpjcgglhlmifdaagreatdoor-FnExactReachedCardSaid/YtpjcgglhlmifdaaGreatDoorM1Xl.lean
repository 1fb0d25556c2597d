/-
  Inspections: the reference's memory, and its small functions.
-/
import Derived.Test.YtpjcgglhlmifdaaGreatDoorM1Tog
import Derived.Test.YtpjcgglhlmifdaaGreatDoorM1Bxg
import Derived.Test.YtpjcgglhlmifdaaGreatDoorM1Bz
namespace Go.Proofs.YtpjcgglhlmifdaaGreatDoor
open Go.RowKit
set_option linter.unusedVariables false
set_option linter.unusedSimpArgs false

set_option maxRecDepth 100000 in
set_option maxHeartbeats 1000000 in
theorem c_l16Poor (p : TPage) (A1 A2 A3 : Option Addr) (n2 c1 c2 c3 : Nat) (w : World) :
    Calls Tryz.prog 151 #[.agg #[.bool p.1, .slice A1 p.2.1.length c1, .slice A2 n2 c2, .slice A3 p.2.2.2.length c3]] w (BoolP (decide (fillOf p < 3)) w) := by
  obtain ⟨F, hF⟩ : ∃ F, F = decide (fillOf p < 3) := ⟨_, rfl⟩
  rw [← hF]
  cases hl : p.1
  · have e : fillOf p = p.2.2.2.length := fill_fork hl
    rw [e] at hF
    by_cases h3 : p.2.2.2.length < 3
    · have h3i : (p.2.2.2.length : Int) < 3 := by omega
      rw [decide_eq_true h3] at hF
      subst hF
      clear e hl
      go_enter Tryz.func151, Tryz.ntmps151
      go_wp2_with fail
      go_ret
      exact ⟨rfl, (Up.refl _).alloc _⟩
    · have h3i : ¬ (p.2.2.2.length : Int) < 3 := by omega
      rw [decide_eq_false h3] at hF
      subst hF
      clear e hl
      go_enter Tryz.func151, Tryz.ntmps151
      go_wp2_with fail
      go_ret
      exact ⟨rfl, (Up.refl _).alloc _⟩
  · have e : fillOf p = p.2.1.length := fill_leaf hl
    rw [e] at hF
    by_cases h3 : p.2.1.length < 3
    · have h3i : (p.2.1.length : Int) < 3 := by omega
      rw [decide_eq_true h3] at hF
      subst hF
      clear e hl
      go_enter Tryz.func151, Tryz.ntmps151
      go_wp2_with fail
      go_ret
      exact ⟨rfl, (Up.refl _).alloc _⟩
    · have h3i : ¬ (p.2.1.length : Int) < 3 := by omega
      rw [decide_eq_false h3] at hF
      subst hF
      clear e hl
      go_enter Tryz.func151, Tryz.ntmps151
      go_wp2_with fail
      go_ret
      exact ⟨rfl, (Up.refl _).alloc _⟩
theorem c_atNo (v : Value) (y : TBtree) (id : Int) (w : World) (h : AV shBtree w v y) (hs : SlotsP y.2) (hp : pgAt y id = none) : Calls Tryz.prog 104 #[v, .int .i64 id] w (RetV (.int .i64 (-1)) w) :=
  (c_l16At v y id w h).mono fun e w' ⟨n, he, u, hn⟩ => by
    rcases hn with ⟨rfl, _⟩ | ⟨i, hi, rfl, hq⟩
    · exact ⟨he, u⟩
    · have := pgAt_at hs hi
      rw [hq, hp] at this
      cases this
theorem c_atYes (v : Value) (y : TBtree) (id : Int) (w : World) (h : AV shBtree w v y) (hs : SlotsP y.2) (i : Nat) (hi : i < y.2.length) (hq : y.2[i].1 = id) : Calls Tryz.prog 104 #[v, .int .i64 id] w (RetV (.int .i64 (i : Int)) w) :=
  (c_l16At v y id w h).mono fun e w' ⟨n, he, u, hn⟩ => by
    rcases hn with ⟨rfl, hn⟩ | ⟨k, hk, rfl, hq'⟩
    · exact absurd hq (hn i hi)
    · obtain rfl := slots_inj hs hk hi (hq'.trans hq.symm)
      exact ⟨he, u⟩
/-- A number that is below 0 just where there is no page. -/
theorem c_atAny (y : TBtree) (id : Int) (hs : SlotsP y.2) : ∃ n : Int, (n < 0 ↔ pgAt y id = none) ∧ (n ≤ 64) ∧ ∀ v w, AV shBtree w v y → Calls Tryz.prog 104 #[v, .int .i64 id] w (RetV (.int .i64 n) w) := by
  cases hp : pgAt y id with
  | none => exact ⟨-1, by simp, by decide, fun v w h => c_atNo v y id w h hs hp⟩
  | some p =>
    obtain ⟨i, hi, he⟩ := pgAt_some hp
    have := slots_len hs
    exact ⟨i, ⟨fun h => by omega, fun h => by cases h⟩, by omega, fun v w h => c_atYes v y id w h hs i hi (by rw [he])⟩
theorem Only.thenY {bl bl1 : List Nat} {a b c : World} (h : Only bl a b) (k : Only bl1 b c) (hs : ∀ y ∈ bl1, y ∈ bl ∨ a.heap.size ≤ y) : Only bl a c :=
  ⟨k.os.trans h.os, k.tape.trans h.tape, k.output.trans h.output, Nat.le_trans h.size k.size, fun i hi hn => (k.block i (Nat.lt_of_lt_of_le hi h.size) (fun hm => by rcases hs i hm with h1 | h1 <;> first | exact hn h1 | omega)).trans (h.block i hi hn)⟩
theorem SO.butY {α : Type} {s : Sh α} (hg : Good s) {w w' : World} {lo g : Nat} {A : Option Addr} {c : Nat} {xs : List α} {bl : List Nat} (h : SO s w lo w.heap.size A c xs bl) (b : But g w w') (hn : g ∉ bl) : SO s w' lo w'.heap.size A c xs bl := by
  rw [b.size]
  exact h.keep hg (fun y hy => b.block y (fun e => hn (e ▸ hy)))
/-- The walk's memory: the tree's slots, what was met, the first leaf's depth, the faults. -/
structure VisR (w : World) (lo wb : Nat) (A0 : Option Addr) (c0 : Nat) (x : TBtree) (s : TInsp) (M : Option Addr) (cM : Nat) (F : Option Addr) (cF : Nat) (bm bf : List Nat) : Prop where
  sl : SR shSlot w 0 lo A0 c0 x.2
  h1 : lo ≤ wb
  kw : Bk w wb 110 #[.int .i64 x.1, .slice A0 x.2.length c0, .slice M (putsI [] s.1).length cM, .int .i64 (depW s.2.1), .slice F s.2.2.length cF]
  sm : SO shI w lo w.heap.size M cM (putsI [] s.1) bm
  so : SO shFault w lo w.heap.size F cF s.2.2 bf
  nd : (bf ++ bm).Nodup
  hw : wb ∉ bf ++ bm
/-- From w, where the walk owns bl, to w', where it stands at t. -/
def VisT (lo wb : Nat) (A0 : Option Addr) (c0 : Nat) (x : TBtree) (t : TInsp) (bl : List Nat) (w w' : World) : Prop :=
  ∃ M cM F cF bm bf, VisR w' lo wb A0 c0 x t M cM F cF bm bf ∧ Only (wb :: bl) w w' ∧ ∀ y ∈ bf ++ bm, y ∈ bl ∨ w.heap.size ≤ y
theorem VisR.up {w w' : World} {lo wb : Nat} {A0 : Option Addr} {c0 : Nat} {x : TBtree} {s : TInsp} {M : Option Addr} {cM : Nat} {F : Option Addr} {cF : Nat} {bm bf : List Nat} (h : VisR w lo wb A0 c0 x s M cM F cF bm bf) (u : Up w w') : VisR w' lo wb A0 c0 x s M cM F cF bm bf :=
  ⟨SR.keep good_Slot h.sl (u.keeps (by have := h.kw.lt; have := h.h1; omega)), h.h1, h.kw.up u, h.sm.up good_I u, h.so.up good_Fault u, h.nd, h.hw⟩
theorem VisT.then {lo wb : Nat} {A0 : Option Addr} {c0 : Nat} {x : TBtree} {t : TInsp} {bl bl1 : List Nat} {w w1 w2 : World} (h1 : Only (wb :: bl) w w1) (h2 : ∀ y ∈ bl1, y ∈ bl ∨ w.heap.size ≤ y) (k : VisT lo wb A0 c0 x t bl1 w1 w2) : VisT lo wb A0 c0 x t bl w w2 := by
  obtain ⟨M, cM, F, cF, bm, bf, R2, o2, m2⟩ := k
  refine ⟨M, cM, F, cF, bm, bf, R2, h1.thenY o2 (fun y hy => ?_), fun y hy => ?_⟩
  · rcases List.mem_cons.1 hy with h | h
    · exact .inl (by rw [h]; exact List.mem_cons_self ..)
    · rcases h2 y h with h | h
      · exact .inl (List.mem_cons_of_mem _ h)
      · exact .inr h
  · rcases m2 y hy with h | h
    · exact h2 y h
    · exact .inr (Nat.le_trans h1.size h)
theorem VisT.up {lo wb : Nat} {A0 : Option Addr} {c0 : Nat} {x : TBtree} {t : TInsp} {bl : List Nat} {w w1 w2 : World} (h : VisT lo wb A0 c0 x t bl w w1) (u : Up w1 w2) : VisT lo wb A0 c0 x t bl w w2 := by
  obtain ⟨M, cM, F, cF, bm, bf, R, o, m⟩ := h
  exact ⟨M, cM, F, cF, bm, bf, R.up u, o.up u, m⟩
theorem VisT.from {lo wb : Nat} {A0 : Option Addr} {c0 : Nat} {x : TBtree} {t : TInsp} {bl : List Nat} {w w1 w2 : World} (u : Up w w1) (h : VisT lo wb A0 c0 x t bl w1 w2) : VisT lo wb A0 c0 x t bl w w2 :=
  VisT.then (Only.of_up u) (fun y hy => .inl hy) h
theorem VisR.here {w w' : World} {lo wb : Nat} {A0 : Option Addr} {c0 : Nat} {x : TBtree} {s : TInsp} {M : Option Addr} {cM : Nat} {F : Option Addr} {cF : Nat} {bm bf : List Nat} (h : VisR w lo wb A0 c0 x s M cM F cF bm bf) (u : Up w w') : VisT lo wb A0 c0 x s (bf ++ bm) w w' :=
  ⟨M, cM, F, cF, bm, bf, h.up u, Only.of_up u, fun y hy => .inl hy⟩
theorem VisR.far {w : World} {lo wb : Nat} {A0 : Option Addr} {c0 : Nat} {x : TBtree} {s : TInsp} {M : Option Addr} {cM : Nat} {F : Option Addr} {cF : Nat} {bm bf : List Nat} (h : VisR w lo wb A0 c0 x s M cM F cF bm bf) : ∀ y ∈ wb :: (bf ++ bm), lo ≤ y ∧ y < w.heap.size := fun y hy => by
  rcases List.mem_cons.1 hy with e | e
  · rw [e]; exact ⟨h.h1, h.kw.lt⟩
  · rcases List.mem_append.1 e with e | e
    · exact h.so.in_ good_Fault y e
    · exact h.sm.in_ good_I y e
theorem VisR.deep {w : World} {lo wb : Nat} {A0 : Option Addr} {c0 : Nat} {x : TBtree} {s : TInsp} {M : Option Addr} {cM : Nat} {F : Option Addr} {cF : Nat} {bm bf : List Nat} {far : Nat} {D : Int} (h : VisR w lo wb A0 c0 x s M cM F cF bm bf) (hD : Hid (D = (far : Int))) : VisR (w.setCell ⟨wb, 3, none⟩ (.int .i64 D)) lo wb A0 c0 x (s.1, some far, s.2.2) M cM F cF bm bf := by
  have b := But.set w wb 3 (.int .i64 D)
  refine ⟨SR.keep good_Slot h.sl (fun y _ h2 => b.block y (by have := h.h1; omega)), h.h1, ?_, h.sm.butY good_I b (fun hm => h.hw (List.mem_append_right _ hm)), h.so.butY good_Fault b (fun hm => h.hw (List.mem_append_left _ hm)), h.nd, h.hw⟩
  have := h.kw.set 3 (.int .i64 D)
  rw [hD.out] at this ⊢
  exact this
/-- What was met is laid anew, and the walk's cell is turned to it. -/
theorem VisR.met {w w1 : World} {lo wb : Nat} {A0 : Option Addr} {c0 : Nat} {x : TBtree} {s : TInsp} {M : Option Addr} {cM : Nat} {F : Option Addr} {cF : Nat} {bm bf : List Nat} {id : Int} (h : VisR w lo wb A0 c0 x s M cM F cF bm bf) (u : Up w w1) {D : Option Addr} {d : Nat} {bd : List Nat} {n : Nat} (hn : n = (putsI [] (s.1 ++ [id])).length) (sd : SO shI w1 w.heap.size w1.heap.size D d (putsI [] (s.1 ++ [id])) bd) (nd : bd.Nodup) :
    VisT lo wb A0 c0 x (meetF s id) (bf ++ bm) w (w1.setCell ⟨wb, 2, none⟩ (.slice D n d)) := by
  subst hn
  have hlo : lo ≤ w.heap.size := by have := h.kw.lt; have := h.h1; omega
  have b := But.set w1 wb 2 (.slice D (putsI [] (s.1 ++ [id])).length d)
  have h1 := h.up u
  have hin := sd.in_ good_I
  have hwd : wb ∉ bd := fun hm => by have := (hin _ hm).1; have := h.kw.lt; omega
  have hfb : ∀ y ∈ bf, y < w.heap.size := fun y hy => (h.so.in_ good_Fault y hy).2
  refine ⟨D, d, F, cF, bd, bf, ⟨SR.keep good_Slot h1.sl (fun y _ h2 => b.block y (by have := h.h1; omega)), h.h1, ?_, (sd.wide good_I hlo (Nat.le_refl _)).butY good_I b hwd, h1.so.butY good_Fault b (fun hm => h.hw (List.mem_append_left _ hm)), ?_, ?_⟩, (Only.of_up u).but b (List.mem_cons_self ..), fun y hy => ?_⟩
  · exact h1.kw.set 2 (.slice D (putsI [] (s.1 ++ [id])).length d)
  · refine List.nodup_append.2 ⟨(List.nodup_append.1 h.nd).1, nd, ?_⟩
    rintro a ha b' hb' rfl
    have := hfb a ha
    have := (hin a hb').1
    omega
  · intro hm
    rcases List.mem_append.1 hm with e | e
    · exact h.hw (List.mem_append_left _ e)
    · exact hwd e
  · rcases List.mem_append.1 hy with e | e
    · exact .inl (List.mem_append_left _ e)
    · exact .inr (hin y e).1
theorem cinfo_FaultS : (Tryz.prog.info? 122).map (fun i => (i.zero, i.size, i.bytes)) = some (some (.agg #[.int .i64 0, .int .i64 0]), 2, 16) := by kernel_rfl
set_option maxRecDepth 100000 in
set_option maxHeartbeats 4000000 in
theorem c_tell {w : World} {lo wb : Nat} {A0 : Option Addr} {c0 : Nat} {x : TBtree} {s : TInsp} {M : Option Addr} {cM : Nat} {F : Option Addr} {cF : Nat} {bm bf : List Nat} (kind id : Int) (hk : I64 kind) (hid : I64 id) (R : VisR w lo wb A0 c0 x s M cM F cF bm bf) (hl : s.2.2.length ≤ 1000) :
    Calls Tryz.prog 105 #[.pointer (some ⟨wb, 0, none⟩), .int .i64 kind, .int .i64 id] w (fun e w' => e = .returned (.tuple #[]) ∧ VisT lo wb A0 c0 x (tellF s kind id) (bf ++ bm) w w') := by
  obtain ⟨i0, hi0, hz0, hz1, hz2⟩ := info_parts cinfo_FaultS
  have hin := R.so.in_ good_Fault
  have hinm := R.sm.in_ good_I
  have hlo : lo ≤ w.heap.size := by have := R.kw.lt; have := R.h1; omega
  have hwf : wb ∉ bf := fun hm => R.hw (List.mem_append_left _ hm)
  have hwm : wb ∉ bm := fun hm => R.hw (List.mem_append_right _ hm)
  have u1 : Up w (w.alloc (.cells #[.int .i64 kind, .int .i64 id] 122)) := (Up.refl _).alloc _
  have kq := Bk.new w 122 #[.int .i64 kind, .int .i64 id]
  have gb : w.cell? ⟨wb, 4, none⟩ = some (.slice F s.2.2.length cF) := R.kw.cell 4
  have R1 := R.up u1
  have hx1 : (s.2.2.length + 1) * i0.bytes ≤ 140737488355328 := by rw [hz2]; omega
  have hx2 : s.2.2.length + 1 ≤ maxLen := by unfold maxLen; omega
  have ho : shFault.own (w.alloc (.cells #[.int .i64 kind, .int .i64 id] 122)) lo (w.alloc (.cells #[.int .i64 kind, .int .i64 id] 122)).heap.size [.int .i64 kind, .int .i64 id] (kind, id) [] := mkOFault (x := (kind, id)) hk hid
  have hlo1 := Nat.le_trans hlo u1.size
  have hndf : bf.Nodup := (List.nodup_append.1 R.nd).1
  go_enter Tryz.func105, Tryz.ntmps105
  go_wp2_with (first
    | (at_builtin
       refine wpList_app good_Fault rfl _ _ _ _ 122 rfl i0 _ Tryz.underlying48 hi0 hz0 hz1 (by rfl) (lo := lo) (xs := s.2.2) (ys := [(kind, id)]) (bl := bf) (bs := [[]]) (news := [.int .i64 kind, .int .i64 id]) rfl rfl R1.so (by simpa using hndf) (Src.box (t := 122) Tryz.underlying48 kq (by simp [Value.oneCell']) (by rw [hz1]; rfl)) (Rowed.one good_Fault ho) hlo1 hx1 hx2 ?_
       intro D9 d9 bl9 w9 hap
       obtain ⟨so9, nd9, mem9, on9⟩ := hap
       have kb9 := R1.kw.only on9 hwf
       have gb9 : w9.cell? ⟨wb, 4, none⟩ = some (.slice F s.2.2.length cF) := kb9.cell 4
       have fb9 := kb9.frozen 4))
  refine bodyPost_end (v := .tuple #[]) (by simp [results, Tryz.results105, go_sem]) (by rfl) ?_
  have bt := But.set w9 wb 4 (.slice D9 (s.2.2.length + 1) d9)
  have kbE := kb9.set 4 (.slice D9 (s.2.2.length + 1) d9)
  have mem' : ∀ y ∈ bl9, y ∈ bf ∨ w.heap.size ≤ y := fun y hy => by
    rcases mem9 y hy with h | h
    · exact .inl (by simpa using h)
    · exact .inr (Nat.le_trans u1.size h)
  have hwn : wb ∉ bl9 := fun hm => by
    rcases mem' _ hm with h | h
    · exact hwf h
    · have := R.kw.lt; omega
  have hdis : ∀ y ∈ bl9, y ∉ bm := fun y hy hm => by
    rcases mem' y hy with h | h
    · exact (List.nodup_append.1 R.nd).2.2 y h y hm rfl
    · have := (hinm y hm).2; omega
  have onM : SO shI w9 lo w9.heap.size M cM (putsI [] s.1) bm := (R1.sm.keep good_I (fun y hy => on9.block y (by have := (hinm y hy).2; have := u1.size; omega) (fun hm => (List.nodup_append.1 R.nd).2.2 y hm y hy rfl))).wide good_I (Nat.le_refl _) on9.size
  have hs9 : SR shSlot w9 0 lo A0 c0 x.2 := SR.keep good_Slot R1.sl (fun y _ h2 => on9.block y (by omega) (fun hm => by have := (hin y hm).1; omega))
  refine ⟨rfl, M, cM, D9, d9, bm, bl9, ⟨SR.keep good_Slot hs9 (fun y _ h2 => bt.block y (by have := R.h1; omega)), R.h1, ?_, onM.butY good_I bt hwm, ?_, ?_, ?_⟩, ?_, ?_⟩
  · show Bk _ _ _ #[_, _, _, _, .slice D9 (s.2.2 ++ [(kind, id)]).length d9]
    rw [List.length_append]
    exact kbE
  · exact so9.butY good_Fault bt hwn
  · exact List.nodup_append.2 ⟨nd9, (List.nodup_append.1 R.nd).2.1, fun a ha b hb e => hdis a ha (e ▸ hb)⟩
  · intro hm
    rcases List.mem_append.1 hm with e | e
    · exact hwn e
    · exact hwm e
  · exact ((Only.of_up (bl := wb :: (bf ++ bm)) u1).trans (on9.mono (fun y hy => List.mem_cons_of_mem _ (List.mem_append_left _ hy)))).but bt (List.mem_cons_self ..)
  · intro y hy
    rcases List.mem_append.1 hy with e | e
    · rcases mem' y e with h | h
      · exact .inl (List.mem_append_left _ h)
      · exact .inr h
    · exact .inl (List.mem_append_right _ e)
end Go.Proofs.YtpjcgglhlmifdaaGreatDoor
