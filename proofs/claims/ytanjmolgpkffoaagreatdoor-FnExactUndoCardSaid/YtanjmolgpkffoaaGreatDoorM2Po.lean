/-
  The program's put, on a tree that may be changed.
-/
import Derived.Test.YtanjmolgpkffoaaGreatDoorM2H
namespace Go.Proofs.YtanjmolgpkffoaaGreatDoor
open Go.RowKit
set_option linter.unusedVariables false
set_option linter.unusedSimpArgs false

/-- Block g holds a tree that owns the blocks bl, all no older than lo. -/
def OT (lo : Nat) (w : World) (g : Nat) (x : TTree) (bl : List Nat) : Prop :=
  ∃ A c, Bk w g 32 #[.slice A x.length c] ∧ SO shNode w lo w.heap.size A c x bl ∧ bl.Nodup ∧ g ∉ bl
/-- What a change of that tree leaves. -/
def OTp (lo : Nat) (w : World) (g : Nat) (bl : List Nat) (x : TTree) (w' : World) : Prop :=
  ∃ bl', OT lo w' g x bl' ∧ (∀ y ∈ bl', y ∈ bl ∨ w.heap.size ≤ y) ∧ Only (g :: bl) w w'
theorem OT.up {lo : Nat} {w w' : World} {g : Nat} {x : TTree} {bl : List Nat} (h : OT lo w g x bl) (u : Up w w') : OT lo w' g x bl := by
  obtain ⟨A, c, h1, h2, h3, h4⟩ := h
  exact ⟨A, c, h1.up u, h2.up good_Node u, h3, h4⟩
theorem OT.lt {lo : Nat} {w : World} {g : Nat} {x : TTree} {bl : List Nat} (h : OT lo w g x bl) : g < w.heap.size := by
  obtain ⟨A, c, h1, _⟩ := h
  exact h1.lt
theorem OT.in_ {lo : Nat} {w : World} {g : Nat} {x : TTree} {bl : List Nat} (h : OT lo w g x bl) : ∀ y ∈ bl, lo ≤ y ∧ y < w.heap.size := by
  obtain ⟨A, c, h1, h2, _⟩ := h
  exact h2.in_ good_Node
theorem OTp.same {lo : Nat} {w w' : World} {g : Nat} {x : TTree} {bl : List Nat} (h : OT lo w g x bl) (u : Up w w') : OTp lo w g bl x w' := ⟨bl, h.up u, fun y hy => .inl hy, Only.of_up u⟩
/-- One change behind another one. -/
theorem OTp.trans {lo : Nat} {w w1 w2 : World} {g : Nat} {x y : TTree} {bl : List Nat} (h : OTp lo w g bl x w1) (k : ∀ bl1, OT lo w1 g x bl1 → OTp lo w1 g bl1 y w2) (hg : g < w.heap.size) (hb : ∀ y ∈ bl, y < w.heap.size) : OTp lo w g bl y w2 := by
  obtain ⟨bl1, h1, h2, h3⟩ := h
  obtain ⟨bl2, k1, k2, k3⟩ := k bl1 h1
  refine ⟨bl2, k1, fun y hy => ?_, ?_⟩
  · rcases k2 y hy with h | h
    · exact h2 y h
    · exact .inr (Nat.le_trans h3.size h)
  · refine ⟨k3.os.trans h3.os, k3.tape.trans h3.tape, k3.output.trans h3.output, Nat.le_trans h3.size k3.size, fun i hi hn => (k3.block i (Nat.lt_of_lt_of_le hi h3.size) (fun hm => ?_)).trans (h3.block i hi hn)⟩
    rcases List.mem_cons.1 hm with rfl | hm
    · exact hn (by simp)
    · rcases h2 i hm with h | h
      · exact hn (by simp [h])
      · omega
theorem OTp.up {lo : Nat} {w w1 w2 : World} {g : Nat} {x : TTree} {bl : List Nat} (h : OTp lo w g bl x w1) (u : Up w1 w2) : OTp lo w g bl x w2 := by
  obtain ⟨bl1, h1, h2, h3⟩ := h
  exact ⟨bl1, h1.up u, h2, h3.up u⟩
theorem OTp.before {lo : Nat} {w w1 w2 : World} {g : Nat} {x : TTree} {bl : List Nat} (u : Up w w1) (hg : g < w.heap.size) (hb : ∀ y ∈ bl, y < w.heap.size) (h : OTp lo w1 g bl x w2) : OTp lo w g bl x w2 := by
  obtain ⟨bl1, h1, h2, h3⟩ := h
  refine ⟨bl1, h1, fun y hy => (h2 y hy).imp id (fun h => Nat.le_trans u.size h), ⟨h3.os.trans u.os, h3.tape.trans u.tape, h3.output.trans u.output, Nat.le_trans u.size h3.size, fun i hi hn => (h3.block i (Nat.lt_of_lt_of_le hi u.size) hn).trans (u.block i hi)⟩⟩
/-- The tree that put leaves in place. -/
def putK (x : TTree) (l : TLoc) (v : ByteArray) : TTree := if putC x l = 0 then putT x l v else x

set_option maxRecDepth 100000 in
set_option maxHeartbeats 8000000 in
theorem c_put_has (g : Nat) (x : TTree) (bl : List Nat) (lo : Nat) (w : World) (h : OT lo w g x bl) (hlo : lo ≤ w.heap.size) (hx : TreeP x) (s : ByteArray) (ys : List ByteArray) (B : Option Addr) (d : Nat) (val : ByteArray) (k : SRW shS w B d ys) (hs : s.size ≤ maxLen) (st : Small ys) (hv : val.size ≤ maxLen) (htab : Tab w) (hb : hasN x (s, ys) = true) :
    Calls Tryz.prog 120 #[.pointer (some ⟨g, 0, none⟩), .string s, .slice B ys.length d, .string val] w fun e w' => e = .returned (.int .i64 0) ∧ OTp lo w g bl (putT x (s, ys) val) w' := by
  have hin := h.in_
  obtain ⟨A, c, hk, so, nd, hg⟩ := h
  have av : ∀ W, Up w W → AV shTree W (.agg #[.slice A x.length c]) x := fun W hW => AV.up good_Tree ⟨_, rfl, mkTree (SR.of_own good_Node so)⟩ hW
  have cp := fun W (hW : Up w W) => c_place x hx _ s ys B d W (av W hW) (k.up good_S hW) hs st (tab_up htab hW)
  obtain ⟨hp, HPT⟩ := putT_has (v := val) hb
  have HPT' := Lib.hid HPT
  rw [hb] at cp
  have CP := Lib.hid cp
  have SOH := Lib.hid so
  have NDH := Lib.hid nd
  have g0 := hk.cell 0
  have hgl := hk.lt
  clear cp hx st HPT so nd
  generalize posN x (s, ys) = p at *
  go_enter Tryz.func120, Tryz.ntmps120
  go_wp2_with fail
  refine (CP.out _ (Up.refl _)).mono ?_
  rintro e w1 ⟨rfl, u1⟩
  have hk1 := hk.up u1
  have g1 : w1.cell? ⟨g, 0, none⟩ = some (.slice A x.length c) := hk1.cell 0
  obtain ⟨gn, off, C, tid, b, cs, rfl, hn1, hn2, hbk, hcl, hcs, ho, hgm, hgb, hbn, hbs, hput⟩ := (SOH.out.up good_Node u1).focus good_Node NDH.out (List.getElem?_eq_getElem hp)
  obtain ⟨A3, c3, b3, rfl, rfl, o0, o1, o2⟩ := openONode ho
  have q0 := hcs 0 (by decide)
  have q1 := hcs 1 (by decide)
  have q2 := hcs 2 (by decide)
  have q2' : w1.cell? ⟨gn, off + p * 3 + 2, none⟩ = some (.string x[p].2.2) := (hbk.cell _).trans q2
  have f2 := hbk.frozen (off + p * 3 + 2)
  clear hcs
  go_wp2_with fail
  refine bodyPost_ret (v := .int .i64 0) (by simp [results, Tryz.results120, go_sem]) rfl ?_
  have hne : g ≠ gn := fun e => hg (by rw [e]; exact hgm)
  have hsz : (w1.setCell ⟨gn, off + p * 3 + 2, none⟩ (.string val)).heap.size = w1.heap.size := (But.set w1 gn _ _).size
  have hoth : ∀ y, y ≠ gn → (w1.setCell ⟨gn, off + p * 3 + 2, none⟩ (.string val)).heap[y]? = w1.heap[y]? := (But.set w1 gn _ _).block
  have hso := hput (w1.setCell ⟨gn, off + p * 3 + 2, none⟩ (.string val)) (C.setIfInBounds (off + p * 3 + 2) (.string val)) [.string x[p].1, .slice A3 x[p].2.1.length c3, .string val] (x[p].1, x[p].2.1, val)
    (hbk.set _ _) (fun j hj => by
      have hj3 : j = 0 ∨ j = 1 ∨ j = 2 := by have : j < 3 := hj; omega
      rcases hj3 with rfl | rfl | rfl
      · rw [set_ne (by show off + (p * 3 + 0) ≠ _; omega)]; exact q0
      · rw [set_ne (by show off + (p * 3 + 1) ≠ _; omega)]; exact q1
      · exact set_same (by show off + (p * 3 + 2) = _; omega) (by rw [← Nat.add_assoc] at q2; exact q2)) (fun q hq => set_ne (by have hq' : q < off + p * 3 ∨ off + p * 3 + 3 ≤ q := hq; omega))
    (mkONode (x := (x[p].1, x[p].2.1, val)) o0 (o1.keep good_S (fun y hy => hoth y (fun e => hgb (by rw [← e]; exact hy)))) hv) (fun y _ hy _ => hoth y hy)
  refine ⟨rfl, bl, ⟨some ⟨gn, off, none⟩, c, ?_, ?_, NDH.out, hg⟩, fun y hy => .inl hy, (Only.of_up u1).but (But.set w1 gn _ _) (List.mem_cons_of_mem _ hgm)⟩
  · rw [HPT'.out, List.length_set]
    exact hk1.far hne _
  · rw [HPT'.out, hsz]
    exact hso
set_option maxRecDepth 100000 in
set_option maxHeartbeats 8000000 in
theorem c_put_full (g : Nat) (x : TTree) (bl : List Nat) (lo : Nat) (w : World) (h : OT lo w g x bl) (hlo : lo ≤ w.heap.size) (hx : TreeP x) (s : ByteArray) (ys : List ByteArray) (B : Option Addr) (d : Nat) (val : ByteArray) (k : SRW shS w B d ys) (hs : s.size ≤ maxLen) (st : Small ys) (htab : Tab w) (hb : hasN x (s, ys) = false) (hl : x.length = 120) :
    Calls Tryz.prog 120 #[.pointer (some ⟨g, 0, none⟩), .string s, .slice B ys.length d, .string val] w fun e w' => e = .returned (.int .i64 4) ∧ OTp lo w g bl x w' := by
  have H := Lib.hid h
  obtain ⟨A, c, hk, so, nd, hg⟩ := h
  have av : ∀ W, Up w W → AV shTree W (.agg #[.slice A x.length c]) x := fun W hW => AV.up good_Tree ⟨_, rfl, mkTree (SR.of_own good_Node so)⟩ hW
  have cp := fun W (hW : Up w W) => c_place x hx _ s ys B d W (av W hW) (k.up good_S hW) hs st (tab_up htab hW)
  rw [hb, hl] at cp
  have CP := Lib.hid cp
  rw [hl] at hk
  have g0 := hk.cell 0
  have hgl := hk.lt
  clear cp hx st so nd hl av
  generalize posN x (s, ys) = p at *
  go_enter Tryz.func120, Tryz.ntmps120
  go_wp2_with fail
  refine (CP.out _ (Up.refl _)).mono ?_
  rintro e w1 ⟨rfl, u1⟩
  have hk1 := hk.up u1
  have g1 : w1.cell? ⟨g, 0, none⟩ = some (.slice A 120 c) := hk1.cell 0
  go_wp2_with fail
  refine bodyPost_ret (v := .int .i64 4) (by simp [results, Tryz.results120, go_sem]) rfl ?_
  exact ⟨rfl, OTp.same H.out u1⟩
set_option maxRecDepth 100000 in
set_option maxHeartbeats 8000000 in
theorem c_put_new (g : Nat) (x : TTree) (bl : List Nat) (lo : Nat) (w : World) (h : OT lo w g x bl) (hlo : lo ≤ w.heap.size) (hx : TreeP x) (s : ByteArray) (ys : List ByteArray) (B : Option Addr) (d : Nat) (val : ByteArray) (k : SRW shS w B d ys) (hs : s.size ≤ maxLen) (st : Small ys) (hy : ys.length ≤ 1048576) (hv : val.size ≤ maxLen) (htab : Tab w) (hb : hasN x (s, ys) = false) (hl : x.length < 120) :
    Calls Tryz.prog 120 #[.pointer (some ⟨g, 0, none⟩), .string s, .slice B ys.length d, .string val] w fun e w' => e = .returned (.int .i64 0) ∧ OTp lo w g bl (putT x (s, ys) val) w' := by
  have hin := h.in_
  obtain ⟨A, c, hk, so, nd, hg⟩ := h
  have av : ∀ W, Up w W → AV shTree W (.agg #[.slice A x.length c]) x := fun W hW => AV.up good_Tree ⟨_, rfl, mkTree (SR.of_own good_Node so)⟩ hW
  have cp := fun W (hW : Up w W) => c_place x hx _ s ys B d W (av W hW) (k.up good_S hW) hs st (tab_up htab hW)
  have HPT := Lib.hid (putT_hasnt (v := val) hb)
  have hp := posN_le x (s, ys)
  rw [hb] at cp
  have CP := Lib.hid cp
  have SOH := Lib.hid so
  have NDH := Lib.hid nd
  have g0 := hk.cell 0
  have hgl := hk.lt
  clear cp hx st so nd hb
  generalize posN x (s, ys) = p at *
  have hne : ((x.length : Int) == 120) = false := by simp; omega
  go_enter Tryz.func120, Tryz.ntmps120
  go_wp2_with fail
  refine (CP.out _ (Up.refl _)).mono ?_
  rintro e w1 ⟨rfl, u1⟩
  have hk1 := hk.up u1
  have g1 : w1.cell? ⟨g, 0, none⟩ = some (.slice A x.length c) := hk1.cell 0
  have hlw := Nat.le_trans hlo u1.size
  have hin1 : ∀ y ∈ bl, y < w1.heap.size := fun y hy => Nat.lt_of_lt_of_le (hin y hy).2 u1.size
  go_wp2_with fail
  go_region_law
    (first
      | (go_simp
         go_at_call 165
         (with_reducible refine (c_CloneStringS ys B d _ (k.up good_S u1.drew) hy).mono ?_)
         rintro e w2 ⟨D1, d1, bl1, rfl, o1, nd1, u2⟩
         have hk2 := hk1.drew.up u2
         have g2 := hk2.cell 0
         have hk2b := hk2.alloc (.cells #[.string s, .slice D1 ys.length d1, .string val] 91)
         have g2b := hk2b.cell 0
         have kv2 : Bk (w2.alloc (.cells #[.string s, .slice D1 ys.length d1, .string val] 91)) w2.heap.size 91 #[.string s, .slice D1 ys.length d1, .string val] := Bk.new _ _ _
         have uu2 : Up w (w2.alloc (.cells #[.string s, .slice D1 ys.length d1, .string val] 91)) := (u1.drew.trans u2).alloc _
         have on2 : shNode.own (w2.alloc (.cells #[.string s, .slice D1 ys.length d1, .string val] 91)) lo (w2.alloc (.cells #[.string s, .slice D1 ys.length d1, .string val] 91)).heap.size [.string s, .slice D1 ys.length d1, .string val] (s, ys, val) bl1 := mkONode (x := (s, ys, val)) hs ((o1.up good_S ((Up.refl w2).alloc _)).wide good_S (Nat.le_trans hlw (by simp)) (Nat.le_refl _)) hv
         have nb : (bl ++ bl1).Nodup := nodup_two (m := w1.heap.size) NDH.out nd1 hin1 (fun y hy => Nat.le_trans (by simp) (o1.in_ good_S y hy).1)
         have hvb : w2.heap.size ∉ bl := fun hm => by have h1 := hin1 _ hm; have h2 := u2.size; simp at h2; omega)
      | (go_simp
         go_at_call 168
         (with_reducible refine (c_InsertNode (lo := lo) (x := x) (i := p) (y := (s, ys, val)) (bl := bl) (b := bl1) (cs := [.string s, .slice D1 ys.length d1, .string val]) (by omega) hp (SOH.out.up good_Node uu2) nb kv2 on2 hvb (Nat.le_trans hlo uu2.size)).mono ?_)
         rintro e w3 ⟨D3, d3, bl3, rfl, so3, nd3, mem3, on3⟩
         have hk3 := hk2b.only on3 hg
         have g3 := hk3.cell 0
         have f3 := hk3.frozen 0))
  all_goals
    go_wp2_with fail
    refine bodyPost_ret (v := .int .i64 0) (by simp [results, Tryz.results120, go_sem]) rfl ?_
    have hb1 : ∀ y ∈ bl1, w.heap.size ≤ y := fun y hy => Nat.le_trans u1.size (Nat.le_trans (by simp) (o1.in_ good_S y hy).1)
    have hmem : ∀ y ∈ bl3, y ∈ bl ∨ w.heap.size ≤ y := fun y hy => by
      rcases mem3 y hy with h | h
      · rcases List.mem_append.1 h with h | h
        · exact .inl h
        · exact .inr (hb1 y h)
      · exact .inr (Nat.le_trans uu2.size h)
    have hg3 : g ∉ bl3 := fun hm => by
      rcases hmem g hm with h | h
      · exact hg h
      · omega
    have hbut := But.set w3 g 0 (.slice D3 (p + (x.length - p + 1)) d3)
    have hlen : (putT x (s, ys) val).length = p + (x.length - p + 1) := by rw [HPT.out]; simp [Nat.min_eq_left hp]
    refine ⟨rfl, bl3, ⟨D3, d3, ?_, ?_, nd3, hg3⟩, hmem, (((Only.of_up uu2).trans (on3.mono (fun y hy => List.mem_cons_of_mem _ hy))).but hbut (by simp))⟩
    · rw [hlen]
      simpa using hk3.set 0 (.slice D3 (p + (x.length - p + 1)) d3)
    · rw [HPT.out, hbut.size]
      exact so3.keep good_Node (fun y hy => hbut.block y (fun e => hg3 (by rw [← e]; exact hy)))
/-- put, whatever comes. -/
theorem c_put (g : Nat) (x : TTree) (bl : List Nat) (lo : Nat) (w : World) (h : OT lo w g x bl) (hlo : lo ≤ w.heap.size) (hx : TreeP x) (s : ByteArray) (ys : List ByteArray) (B : Option Addr) (d : Nat) (val : ByteArray) (k : SRW shS w B d ys) (hs : s.size ≤ maxLen) (st : Small ys) (hy : ys.length ≤ 1048576) (hv : val.size ≤ maxLen) (htab : Tab w) :
    Calls Tryz.prog 120 #[.pointer (some ⟨g, 0, none⟩), .string s, .slice B ys.length d, .string val] w fun e w' => e = .returned (.int .i64 (putC x (s, ys))) ∧ OTp lo w g bl (putK x (s, ys) val) w' := by
  have h120 := hx.1
  cases hb : hasN x (s, ys)
  · by_cases hl : x.length = 120
    · have hc : putC x (s, ys) = 4 := by unfold putC; rw [if_pos ⟨hb, by omega⟩]
      have hk : putK x (s, ys) val = x := by unfold putK; rw [hc]; rfl
      rw [hc, hk]
      exact c_put_full g x bl lo w h hlo hx s ys B d val k hs st htab hb hl
    · have hc : putC x (s, ys) = 0 := by unfold putC; rw [if_neg (by omega)]
      have hk : putK x (s, ys) val = putT x (s, ys) val := by unfold putK; rw [hc]; rfl
      rw [hc, hk]
      exact c_put_new g x bl lo w h hlo hx s ys B d val k hs st hy hv htab hb (by omega)
  · have hc : putC x (s, ys) = 0 := by unfold putC; rw [if_neg (by rw [hb]; simp)]
    have hk : putK x (s, ys) val = putT x (s, ys) val := by unfold putK; rw [hc]; rfl
    rw [hc, hk]
    exact c_put_has g x bl lo w h hlo hx s ys B d val k hs st hv htab hb
end Go.Proofs.YtanjmolgpkffoaaGreatDoor
