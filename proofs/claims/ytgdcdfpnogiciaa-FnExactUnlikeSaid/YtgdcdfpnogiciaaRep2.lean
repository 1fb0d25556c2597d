/-
  Building a row of owned elements, cell by cell. No program is named here.
-/
import Derived.Test.YtgdcdfpnogiciaaRep
namespace Go.Proofs.Ytgdcdfpnogiciaa
open Go.RowKit

def Bk (w : World) (g : Nat) (t : TypeId) (C : Array Value) : Prop := w.heap[g]? = some (.cells C t (0, 0))
section
variable {w w' : World} {g : Nat} {t : TypeId} {C : Array Value}
theorem Bk.lt (h : Bk w g t C) : g < w.heap.size := by
  rcases Nat.lt_or_ge g w.heap.size with hlt | hge
  · exact hlt
  · unfold Bk at h; rw [Array.getElem?_eq_none hge] at h; cases h
theorem Bk.cell (h : Bk w g t C) (i : Nat) : w.cell? ⟨g, i, none⟩ = C[i]? := by unfold Bk at h; simp [World.cell?, h]
theorem Bk.frozen (h : Bk w g t C) (i : Nat) : w.frozen? ⟨g, i, none⟩ = false := by unfold Bk at h; simp [World.frozen?, h]
theorem Bk.new (w : World) (t : TypeId) (C : Array Value) : Bk (w.alloc (.cells C t)) w.heap.size t C := heap_alloc_new w _
theorem Bk.drewN (h : Bk w g t C) (n : Nat) : Bk (w.drewN n) g t C := h
theorem Bk.drew (h : Bk w g t C) : Bk w.drew g t C := h
theorem Bk.alloc (h : Bk w g t C) (o : Obj) : Bk (w.alloc o) g t C := (Below.heap_alloc w o g h.lt).trans h
theorem Bk.up (h : Bk w g t C) (u : Up w w') : Bk w' g t C := (u.block g h.lt).trans h
theorem Bk.set (h : Bk w g t C) (i : Nat) (u : Value) : Bk (w.setCell ⟨g, i, none⟩ u) g t (C.setIfInBounds i u) := by
  unfold Bk at h ⊢
  simp [World.setCell, Array.getElem?_modify, h]
theorem Bk.far (h : Bk w g t C) {p : Addr} (hp : g ≠ p.block) (u : Value) : Bk (w.setCell p u) g t C := (Below.heap_setCell w p u g hp).trans h
end

/-- Two worlds that differ in block g alone (and in new blocks). -/
structure But (g : Nat) (w w' : World) : Prop where
  os : w'.os = w.os
  tape : w'.tape = w.tape
  output : w'.output = w.output
  size : w'.heap.size = w.heap.size
  block : ∀ k, k ≠ g → w'.heap[k]? = w.heap[k]?
theorem But.set (w : World) (g i : Nat) (u : Value) : But g w (w.setCell ⟨g, i, none⟩ u) :=
  ⟨rfl, rfl, rfl, by simp [World.setCell], fun k hk => Below.heap_setCell _ _ _ _ hk⟩
theorem But.refl (g : Nat) (w : World) : But g w w := ⟨rfl, rfl, rfl, rfl, fun _ _ => rfl⟩
theorem But.trans {g : Nat} {a b c : World} (h : But g a b) (k : But g b c) : But g a c :=
  ⟨k.os.trans h.os, k.tape.trans h.tape, k.output.trans h.output, k.size.trans h.size, fun i hi => (k.block i hi).trans (h.block i hi)⟩
theorem Up.but {a w w' : World} {g : Nat} (h : Up a w) (k : But g w w') (hg : a.heap.size ≤ g) : Up a w' :=
  ⟨k.os.trans h.os, k.tape.trans h.tape, k.output.trans h.output, by rw [k.size]; exact h.size, fun i hi => (k.block i (by omega)).trans (h.block i hi)⟩

/-- The cells 'cs' written into C from place p on. -/
def putCells (C : Array Value) (p : Nat) : List Value → Array Value
  | [] => C
  | c :: cs => putCells (C.setIfInBounds p c) (p + 1) cs
theorem putCells_size (cs : List Value) : ∀ (C : Array Value) (p : Nat), (putCells C p cs).size = C.size := by
  induction cs with
  | nil => intro C p; rfl
  | cons c cs ih => intro C p; unfold putCells; rw [ih]; simp
theorem putCells_far (cs : List Value) : ∀ (C : Array Value) (p q : Nat), (q < p ∨ p + cs.length ≤ q) → (putCells C p cs)[q]? = C[q]? := by
  induction cs with
  | nil => intro C p q _; rfl
  | cons c cs ih =>
    intro C p q h
    unfold putCells
    rw [ih _ _ _ (by simp at h; omega), Array.getElem?_setIfInBounds_ne (by simp at h; omega)]
theorem putCells_at (cs : List Value) : ∀ (C : Array Value) (p j : Nat), p + cs.length ≤ C.size → j < cs.length → (putCells C p cs)[p + j]? = cs[j]? := by
  induction cs with
  | nil => intro C p j _ h; simp at h
  | cons c cs ih =>
    intro C p j h hj
    unfold putCells
    cases j with
    | zero =>
      rw [putCells_far _ _ _ _ (by omega)]
      simp at h
      simp [Array.getElem?_setIfInBounds]
      omega
    | succ j =>
      have h1 := ih (C.setIfInBounds p c) (p + 1) j (by simp at h ⊢; omega) (by simp at hj; omega)
      rw [show p + (j + 1) = p + 1 + j by omega, h1]
      simp

/-- A row in the making: k elements of xs stand in block g. -/
def Bld {α : Type} (s : Sh α) (lo : Nat) (w : World) (g : Nat) (t : TypeId) (C : Array Value) (n : Nat) (xs : List α) (k : Nat) : Prop :=
  Bk w g t C ∧ C.size = n * s.size ∧ lo ≤ g ∧ ∃ bls : List (List Nat), bls.length = k ∧ (g :: bls.flatten).Nodup ∧ (∀ b ∈ bls.flatten, lo ≤ b ∧ b < w.heap.size) ∧
    ∀ i, i < k → ∃ cs b x, bls[i]? = some b ∧ xs[i]? = some x ∧ cs.length = s.size ∧ (∀ j, j < s.size → C[i * s.size + j]? = cs[j]?) ∧ s.own w lo w.heap.size cs x b

section
variable {α : Type} {s : Sh α} {lo : Nat} {w w' : World} {g : Nat} {t : TypeId} {C : Array Value} {n : Nat} {xs : List α} {k : Nat}
theorem Bld.start (hlo : lo ≤ g) (h : Bk w g t C) (hC : C.size = n * s.size) : Bld s lo w g t C n xs 0 :=
  ⟨h, hC, hlo, [], rfl, by simp, by simp, fun i h => absurd h (by omega)⟩
theorem Bld.up (hg : Good s) (h : Bld s lo w g t C n xs k) (u : Up w w') : Bld s lo w' g t C n xs k := by
  obtain ⟨h1, h2, h3, bls, h4, h5, h6, h7⟩ := h
  refine ⟨h1.up u, h2, h3, bls, h4, h5, fun b hb => ⟨(h6 b hb).1, Nat.lt_of_lt_of_le (h6 b hb).2 u.size⟩, fun i hi => ?_⟩
  obtain ⟨cs, b, x, e1, e2, e3, e4, e5⟩ := h7 i hi
  exact ⟨cs, b, x, e1, e2, e3, e4, hg.own_wide (hg.own_keep e5 (fun c hc => u.block c (hg.own_in e5 c hc).2)) (Nat.le_refl _) u.size⟩
/-- The element k is put into its place: its own blocks are younger than the world 'w0' in which the row stood. -/
theorem Bld.push (hg : Good s) {w0 : World} (h0 : Bld s lo w0 g t C n xs k) (u : Up w0 w) {cs : List Value} {x : α} {b : List Nat} (ho : s.own w w0.heap.size w.heap.size cs x b) (hb : b.Nodup) (hx : xs[k]? = some x) (hk : k < n)
    (hw : But g w w') (hbk : Bk w' g t (putCells C (k * s.size) cs)) : Bld s lo w' g t (putCells C (k * s.size) cs) n xs (k + 1) := by
  have h := h0.up hg u
  obtain ⟨h1, h2, h3, bls, h4, h5, h6, h7⟩ := h
  obtain ⟨g1, _, _, bls0, g4, g5, g6, g7⟩ := h0
  have hlen := hg.len (hg.own_rep ho)
  have hglt : g < w0.heap.size := g1.lt
  have hmem : ∀ c ∈ bls.flatten, c ≠ g := by
    intro c hc e
    subst e
    simp at h5
    obtain ⟨l, hl, hcl⟩ := List.mem_flatten.1 hc
    exact h5.1 l hl hcl
  have hin := hg.own_in ho
  have hmul : (k + 1) * s.size ≤ n * s.size := Nat.mul_le_mul_right _ hk
  have hmul' : k * s.size + s.size ≤ n * s.size := by rw [Nat.succ_mul] at hmul; exact hmul
  -- the blocks of the elder elements lie below w0
  have hold : ∀ c ∈ bls0.flatten, c < w0.heap.size := fun c hc => (g6 c hc).2
  refine ⟨hbk, by rw [putCells_size]; exact h2, h3, bls0 ++ [b], by simp [g4], ?_, ?_, ?_⟩
  · have g5' := g5
    simp only [List.flatten_append, List.flatten_cons, List.flatten_nil, List.append_nil]
    rw [← List.cons_append, List.nodup_append]
    refine ⟨g5, hb, fun a ha c hc e => ?_⟩
    subst e
    have hc' := (hin a hc).1
    rcases List.mem_cons.1 ha with rfl | ha
    · omega
    · have := hold a ha; omega
  · intro c hc
    simp only [List.flatten_append, List.flatten_cons, List.flatten_nil, List.append_nil, List.mem_append] at hc
    rw [hw.size]
    rcases hc with hc | hc
    · have := hold c hc; exact ⟨(g6 c hc).1, Nat.lt_of_lt_of_le this u.size⟩
    · have := hin c hc; omega
  · intro i hi
    by_cases hik : i < k
    · obtain ⟨cs', b', x', e1, e2, e3, e4, e5⟩ := g7 i hik
      refine ⟨cs', b', x', by rw [List.getElem?_append_left (by omega)]; exact e1, e2, e3, fun j hj => ?_, ?_⟩
      · have : (i + 1) * s.size ≤ k * s.size := Nat.mul_le_mul_right _ hik
        rw [Nat.succ_mul] at this
        rw [putCells_far _ _ _ _ (by omega)]
        exact e4 j hj
      · have hbm : ∀ c ∈ b', c ∈ bls0.flatten := fun c hc => List.mem_flatten.2 ⟨b', List.mem_of_getElem? e1, hc⟩
        have e6 := hg.own_keep (w' := w) e5 (fun c hc => u.block c (hold c (hbm c hc)))
        have e7 := hg.own_keep (w' := w') e6 (fun c hc => hw.block c (fun e => by
          subst e
          simp at g5
          obtain ⟨l, hl, hcl⟩ := List.mem_flatten.1 (hbm c hc)
          exact g5.1 l hl hcl))
        exact hg.own_wide e7 (Nat.le_refl _) (by rw [hw.size]; exact u.size)
    · obtain rfl : i = k := by omega
      refine ⟨cs, b, x, by rw [List.getElem?_append_right (by omega)]; simp [g4], hx, hlen, fun j hj => ?_, ?_⟩
      · exact putCells_at cs C _ j (by rw [hlen, h2]; exact hmul') (by rw [hlen]; exact hj)
      · have e7 := hg.own_keep (w' := w') ho (fun c hc => hw.block c (fun e => by
          subst e
          have := (hin c hc).1
          omega))
        exact hg.own_wide e7 (by omega) (by rw [hw.size]; exact Nat.le_refl _)
theorem Bld.done {c : Nat} (h : Bld s lo w g t C n xs k) (hk : k = xs.length) (h1 : xs.length ≤ c) (h2 : c ≤ maxLen) (h3 : c ≤ n) : ∃ bl, SO s w lo w.heap.size (some ⟨g, 0, none⟩) c xs bl ∧ bl.Nodup := by
  subst hk
  obtain ⟨g1, gn, g3, bls, g4, g5, g6, g7⟩ := h
  refine ⟨g :: bls.flatten, ⟨h1, h2, .inr ⟨g, 0, C, t, bls, rfl, g3, g1.lt, g1, by rw [gn, Nat.zero_add]; exact Nat.mul_le_mul_right _ h3, rfl, g4, fun i hi => ?_⟩⟩, g5⟩
  obtain ⟨cs, b, x, e1, e2, e3, e4, e5⟩ := g7 i hi
  rw [List.getElem?_eq_getElem hi] at e2
  injection e2 with e2
  subst e2
  exact ⟨cs, b, e1, e3, fun j hj => by rw [Nat.zero_add]; exact e4 j hj, e5⟩
end

/-! ### What a call hands back in new memory -/
def ToL {α : Type} (s : Sh α) (xs : List α) (w : World) (e : Ending) (w' : World) : Prop :=
  ∃ A c bl, e = .returned (.slice A xs.length c) ∧ SO s w' w.heap.size w'.heap.size A c xs bl ∧ bl.Nodup ∧ Up w w'
def ToV {α : Type} (s : Sh α) (x : α) (w : World) (e : Ending) (w' : World) : Prop :=
  ∃ cs bl, e = .returned (.agg cs.toArray) ∧ s.own w' w.heap.size w'.heap.size cs x bl ∧ bl.Nodup ∧ Up w w'

theorem run_make_rows {P : Program} (t e : TypeId) (i : TypeInfo) (z : Value) (ht : P.underlying t = some (.slice e)) (hi : P.info? e = some i) (hz : i.zero = some z)
    (n : Nat) (hbytes : i.bytes * n ≤ 281474976710656) (h63 : n ≤ 9223372036854775807) (w : World) :
    (Instr.makeSlice t (.int .i64 (n : Int)) (.int .i64 (n : Int))).run P w = .ok (.slice (some ⟨w.heap.size, 0, none⟩) n n) (w.alloc (.cells (madeCells z.cells (n * i.size)) e)) := by
  have hb : (i.bytes : Int) * (n : Int) ≤ 281474976710656 := by
    have h : ((i.bytes * n : Nat) : Int) ≤ 281474976710656 := by omega
    rwa [Int.natCast_mul] at h
  have hr := run_make (P := P) w t e i z ht hi hz .i64 .i64 n n (by omega) (by omega) hb (by omega)
  simp only [Int.toNat_natCast] at hr
  exact hr

def setCells (w : World) (g p : Nat) : List Value → World
  | [] => w
  | c :: cs => setCells (w.setCell ⟨g, p, none⟩ c) g (p + 1) cs
theorem Bk.sets {g : Nat} {t : TypeId} (cs : List Value) : ∀ {w : World} {C : Array Value} (_ : Bk w g t C) (p : Nat), Bk (setCells w g p cs) g t (putCells C p cs) := by
  induction cs with
  | nil => intro w C h p; exact h
  | cons c cs ih => intro w C h p; exact ih (h.set p c) (p + 1)
theorem But.sets {g : Nat} (cs : List Value) : ∀ (w : World) (p : Nat), But g w (setCells w g p cs) := by
  induction cs with
  | nil => intro w p; exact But.refl _ _
  | cons c cs ih => intro w p; exact (But.set w g p c).trans (ih _ _)
theorem Up.sets {a w : World} {g : Nat} (h : Up a w) (hg : a.heap.size ≤ g) (p : Nat) (cs : List Value) : Up a (setCells w g p cs) := h.but (But.sets cs w p) hg
theorem SO.up {α : Type} {s : Sh α} (hg : Good s) {w w' : World} {lo : Nat} {A : Option Addr} {c : Nat} {xs : List α} {bl : List Nat} (h : SO s w lo w.heap.size A c xs bl) (u : Up w w') : SO s w' lo w'.heap.size A c xs bl :=
  (h.keep hg (fun b hb => u.block b (h.in_ hg b hb).2)).wide hg (Nat.le_refl _) u.size
theorem SO.set {α : Type} {s : Sh α} (hg : Good s) {w : World} {lo : Nat} {A : Option Addr} {c : Nat} {xs : List α} {bl : List Nat} (h : SO s w lo w.heap.size A c xs bl) (g p : Nat) (cs : List Value) (hlt : g < lo) :
    SO s (setCells w g p cs) lo (setCells w g p cs).heap.size A c xs bl := by
  have hb := But.sets (g := g) cs w p
  rw [hb.size]
  exact h.keep hg (fun b hb' => hb.block b (by have := (h.in_ hg b hb').1; omega))
theorem own_up {α : Type} {s : Sh α} (hg : Good s) {w w' : World} {lo : Nat} {cs : List Value} {x : α} {bl : List Nat} (h : s.own w lo w.heap.size cs x bl) (u : Up w w') : s.own w' lo w'.heap.size cs x bl :=
  hg.own_wide (hg.own_keep h (fun b hb => u.block b (hg.own_in h b hb).2)) (Nat.le_refl _) u.size
theorem own_set {α : Type} {s : Sh α} (hg : Good s) {w : World} {lo : Nat} {ds : List Value} {x : α} {bl : List Nat} (h : s.own w lo w.heap.size ds x bl) (g p : Nat) (cs : List Value) (hlt : g < lo) :
    s.own (setCells w g p cs) lo (setCells w g p cs).heap.size ds x bl := by
  have hb := But.sets (g := g) cs w p
  rw [hb.size]
  exact hg.own_keep h (fun b hb' => hb.block b (by have := (hg.own_in h b hb').1; omega))
/-- Blocks that lie in ranges one above the other are unlike. -/
theorem nodup_two {a b : List Nat} {m : Nat} (ha : a.Nodup) (hb : b.Nodup) (h1 : ∀ x ∈ a, x < m) (h2 : ∀ x ∈ b, m ≤ x) : (a ++ b).Nodup := by
  rw [List.nodup_append]
  exact ⟨ha, hb, fun x hx y hy e => by subst e; have := h1 x hx; have := h2 x hy; omega⟩
theorem mem_lt_two {a b : List Nat} {m : Nat} (h1 : ∀ x ∈ a, x < m) (h2 : ∀ x ∈ b, x < m) : ∀ x ∈ a ++ b, x < m := fun x hx => by
  rcases List.mem_append.1 hx with h | h
  · exact h1 x h
  · exact h2 x h
theorem setCells_size (w : World) (g p : Nat) (cs : List Value) : (setCells w g p cs).heap.size = w.heap.size := (But.sets cs w p).size
theorem sz_le {α : Type} (s : Sh α) (xs : List α) {k N : Nat} (h : k < xs.length) (hn : (shL s).sz xs ≤ N) : s.sz xs[k] ≤ N := by
  have h1 := psum_le s.sz xs (k + 1)
  rw [psum_succ s.sz xs k h] at h1
  have h2 : (shL s).sz xs = xs.length + (xs.map s.sz).sum := rfl
  omega
theorem AV.of_own {α : Type} {s : Sh α} (hg : Good s) {w : World} {lo : Nat} {cs : List Value} {x : α} {bl : List Nat} (h : s.own w lo w.heap.size cs x bl) : AV s w (.agg cs.toArray) x :=
  ⟨cs, rfl, hg.wide (hg.own_rep h) (Nat.zero_le _) (Nat.le_refl _)⟩
theorem SR.of_own {α : Type} {s : Sh α} (hg : Good s) {w : World} {lo : Nat} {A : Option Addr} {c : Nat} {xs : List α} {bl : List Nat} (h : SO s w lo w.heap.size A c xs bl) : SRW s w A c xs :=
  (h.rep hg).wide hg (Nat.zero_le _) (Nat.le_refl _)
/-- A call that gives a known value and at most new memory. -/
def RetV (v : Value) (w : World) (e : Ending) (w' : World) : Prop := e = .returned v ∧ Up w w'

theorem ret_str {a b : ByteArray} {w w' : World} (h : Hid (a = b)) (u : Up w w') : RetV (.string a) w (.returned (.string b)) w' := ⟨by rw [h.out], u⟩
/-! ### A region that draws its order, whose operations read, or call what gives one value and lays at most new memory -/
structure UpT (w : World) where
  val : World
  up : Up w val
instance (w : World) : Nonempty (UpT w) := ⟨⟨w, Up.refl w⟩⟩
theorem wp_region_up {P : Program} {id : Nat} {Q : Exit → Act → World → Prop} {a : Act} {w : World} {l : List Oper} (hm : P.follows .mixedOrders = true) (hB : Region.lexB .any l.toArray = true)
    (h : wpQuiet P l.toArray (fun W => ∃ t : UpT w, W = t.val) (fun a' => ∀ w', (∃ t : UpT w, w' = t.val) → Q .normal a' w') l a) : (Code.region id l.toArray true).wp P Q a w :=
  wp_region_quiet (C := fun W => ∃ t : UpT w, W = t.val) hm hB ⟨⟨_, (Up.refl w).drew⟩, rfl⟩ (by simpa using h)
theorem up_call {P : Program} {f : FuncId} {args : Array Value} {w W : World} {v : Value} (h : Calls P f args W (RetV v W)) (hW : Up w W) :
    Calls P f args W fun e w'' => e = .returned v ∧ ∃ t : UpT w, w'' = t.val :=
  h.mono fun _ w' ⟨he, hu⟩ => ⟨he, ⟨w', hW.trans hu⟩, rfl⟩
theorem up_same {P : Program} {f : FuncId} {args : Array Value} {w W : World} {v : Value} (h : Calls P f args W fun e w' => e = .returned v ∧ W = w') (hW : Up w W) :
    Calls P f args W fun e w'' => e = .returned v ∧ ∃ t : UpT w, w'' = t.val :=
  h.mono fun _ w' ⟨he, hu⟩ => ⟨he, ⟨w', by rw [← hu]; exact hW⟩, rfl⟩
theorem up_bool {P : Program} {f : FuncId} {args : Array Value} {w W : World} {b c : Bool} (h : Calls P f args W fun e w' => e = .returned (.bool b) ∧ Up W w') (e : b = c) (hW : Up w W) :
    Calls P f args W fun e w'' => e = .returned (.bool c) ∧ ∃ t : UpT w, w'' = t.val :=
  h.mono fun _ w' ⟨he, hu⟩ => ⟨by rw [he, e], ⟨w', hW.trans hu⟩, rfl⟩
theorem up_bools {P : Program} {f : FuncId} {args : Array Value} {w W : World} {b c : Bool} (h : Calls P f args W fun e w' => e = .returned (.bool b) ∧ W = w') (e : b = c) (hW : Up w W) :
    Calls P f args W fun e w'' => e = .returned (.bool c) ∧ ∃ t : UpT w, w'' = t.val :=
  h.mono fun _ w' ⟨he, hu⟩ => ⟨by rw [he, e], ⟨w', by rw [← hu]; exact hW⟩, rfl⟩
theorem up_eqt {P : Program} {f : FuncId} {args : Array Value} {w W : World} {p : Prop} (h : Calls P f args W (EqP p W)) (e : p) (hW : Up w W) :
    Calls P f args W fun e w'' => e = .returned (.bool true) ∧ ∃ t : UpT w, w'' = t.val :=
  h.mono fun _ w' ⟨b, he, hb, hu⟩ => ⟨by rw [he, hb.2 e], ⟨w', hW.trans hu⟩, rfl⟩
theorem up_eqf {P : Program} {f : FuncId} {args : Array Value} {w W : World} {p : Prop} (h : Calls P f args W (EqP p W)) (e : ¬ p) (hW : Up w W) :
    Calls P f args W fun e w'' => e = .returned (.bool false) ∧ ∃ t : UpT w, w'' = t.val :=
  h.mono fun _ w' ⟨b, he, hb, hu⟩ => ⟨by cases b with
    | false => exact he
    | true => exact absurd (hb.1 rfl) e, ⟨w', hW.trans hu⟩, rfl⟩
theorem cell_up {w : World} (t : UpT w) {a : Addr} {v : Value} (h : w.cell? a = some v) : t.val.cell? a = some v := (t.up.cell (cell_lt h)).trans h
end Go.Proofs.Ytgdcdfpnogiciaa
