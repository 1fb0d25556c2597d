/-
  The reference's l03Put: a tree with one node put in.
-/
import Derived.Test.YtanjmolgpkffoaaGreatDoorM2H
namespace Go.Proofs.YtanjmolgpkffoaaGreatDoor
open Go.RowKit
set_option linter.unusedVariables false
set_option linter.unusedSimpArgs false

/-- A shape whose inner memory is read as it stood in a world w0 that has since only grown. -/
def shRef {α : Type} (w0 : World) (s : Sh α) : Sh α where
  size := s.size
  rep := fun _ _ _ cs x => s.rep w0 0 w0.heap.size cs x
  own := fun _ _ _ cs x bl => s.rep w0 0 w0.heap.size cs x ∧ bl = []
  sz := s.sz
theorem good_Ref {α : Type} {w0 : World} {s : Sh α} (hg : Good s) : Good (shRef w0 s) where
  len := fun h => hg.len h
  keep := fun h _ => h
  wide := fun h _ _ => h
  own_rep := fun h => h.1
  own_in := fun h b hb => by rw [h.2] at hb; simp at hb
  own_keep := fun h _ => h
  own_wide := fun h _ _ => h
  own_le := fun h => .inr fun b hb => by rw [h.2] at hb; simp at hb
  pos := hg.pos
  one := fun h u hu => hg.one h u hu
theorem flat_Ref {α : Type} {w0 : World} {s : Sh α} : Flat (shRef w0 s) := ⟨fun h _ _ _ => ⟨h, rfl⟩⟩
theorem SR.ref {α : Type} {s : Sh α} {w0 w : World} {A : Option Addr} {c : Nat} {xs : List α} (h : SRW s w0 A c xs) (u : Up w0 w) : SRW (shRef w0 s) w A c xs := by
  refine ⟨h.1, h.2.1, fun hp => ?_⟩
  obtain ⟨g, off, hA, h1, h2, h3⟩ := h.2.2 hp
  refine ⟨g, off, hA, h1, Nat.lt_of_lt_of_le h2 u.size, fun i hi => ?_⟩
  obtain ⟨cs, hc, hr⟩ := h3 i hi
  exact ⟨cs, hc.keep (u.keeps (Nat.le_refl _)) h1 h2, hr⟩
theorem SR.unref {α : Type} {s : Sh α} (hg : Good s) {w0 w : World} {lo : Nat} {A : Option Addr} {c : Nat} {xs : List α} (h : SR (shRef w0 s) w lo w.heap.size A c xs) (u : Up w0 w) : SRW s w A c xs := by
  refine ⟨h.1, h.2.1, fun hp => ?_⟩
  obtain ⟨g, off, hA, h1, h2, h3⟩ := h.2.2 hp
  refine ⟨g, off, hA, Nat.zero_le _, h2, fun i hi => ?_⟩
  obtain ⟨cs, hc, hr⟩ := h3 i hi
  exact ⟨cs, hc, rep_up hg hr u⟩
/-- A slice's rows as the source of an append. -/
theorem SR.src {P : Program} {α : Type} {s : Sh α} (hg : Good s) (hf : Flat s) {tx e' : TypeId} (hk : P.underlying tx = some (.slice e')) {w : World} {lo hi lo' hi' : Nat} {A : Option Addr} {c : Nat} {xs : List α} (h : SR s w lo' hi' A c xs) {n : Nat} (hn : n = s.size) :
    ∃ news, Src P n tx (.slice A xs.length c) xs.length news w ∧ Rowed s w lo hi news xs (List.replicate xs.length []) := by
  subst hn
  rcases Nat.eq_zero_or_pos xs.length with h0 | hp
  · obtain rfl := List.eq_nil_of_length_eq_zero h0
    refine ⟨[], ?_, ⟨rfl, by simp, fun i hi => absurd hi (by simp)⟩⟩
    cases A with
    | none => exact Src.ofNil w hk c
    | some a => exact Src.ofSlice w hk a 0 c [] (by simp) (fun j u hu => by simp at hu) (fun u hu => by simp at hu)
  · obtain ⟨g, off, rfl, h1, h2, h3⟩ := h.2.2 hp
    obtain ⟨news, hr, hn⟩ := Rowed.flat (lo := lo) (hi := hi) hg hf h3
    exact ⟨news, Src.ofSlice w hk ⟨g, off, none⟩ xs.length c news hr.2.1 hn (hr.ones hg), hr⟩
theorem SR.take {α : Type} {s : Sh α} {w : World} {lo hi : Nat} {A : Option Addr} {c : Nat} {xs : List α} (h : SR s w lo hi A c xs) {b : Nat} (hb : b ≤ xs.length) : SR s w lo hi A c (xs.take b) := by
  have h1 := h.1
  refine ⟨by simp; omega, h.2.1, fun hp => ?_⟩
  have hp' : 0 < b := by simp at hp; omega
  obtain ⟨g, off, hA, h1, h2, h3⟩ := h.2.2 (by omega)
  refine ⟨g, off, hA, h1, h2, fun i hi => ?_⟩
  have hi' : i < xs.length := by simp at hi; omega
  obtain ⟨cs, hc, hr⟩ := h3 i hi'
  exact ⟨cs, hc, by simpa using hr⟩
theorem SR.dropN {α : Type} {s : Sh α} {w : World} {lo hi g off : Nat} {c : Nat} {xs : List α} (h : SR s w lo hi (some ⟨g, off, none⟩) c xs) {a : Nat} (ha : a ≤ xs.length) : SR s w lo hi (some ⟨g, off + a * s.size, none⟩) (c - a) (xs.drop a) := by
  have h1 := h.1
  have h2 := h.2.1
  have := h.sub (a := a) (b := xs.length) (d := c - a) ha (Nat.le_refl _) (by omega) (by omega)
  rwa [List.take_length] at this
theorem SR.dropAll {α : Type} {s : Sh α} {w : World} {lo hi : Nat} {A : Option Addr} {c : Nat} (hc : c ≤ maxLen) : SR s w lo hi A c ([] : List α) := ⟨by simp, hc, fun hp => absurd hp (by simp)⟩
theorem toR_eq {α : Type} {s : Sh α} {x y : α} {n m : Int} {w w' : World} {e : Ending} (h1 : Hid (x = y)) (h2 : Hid (n = m)) (h : ToR s y m w e w') : ToR s x n w e w' := by rw [h1.out, h2.out]; exact h
theorem zeroTree (w w' : World) (c : Int) (u : Up w w') : ToR shTree [] c w (.returned (.tuple #[.agg #[.slice none 0 0], .int .i64 c])) w' :=
  ⟨[.slice none 0 0], [], rfl, mkOTree (x := []) (SO.nil _ _ _), by simp, u⟩
set_option maxRecDepth 100000 in
set_option maxHeartbeats 8000000 in
theorem c_l03PutP (x : TTree) (v : Value) (s : ByteArray) (ys : List ByteArray) (B : Option Addr) (d : Nat) (val : ByteArray) (w : World) (h : AV shTree w v x) (k : SRW shS w B d ys) (hs : s.size ≤ maxLen) (hv : val.size ≤ maxLen) (hpos : 0 < x.length) (hx : x.length ≤ 1000000) (hl : ∀ i (h : i < x.length), x[i].2.1.length ≤ 1048576) (hy : ys.length ≤ 1048576) :
    Calls Tryz.prog 76 #[v, .string s, .slice B ys.length d, .string val] w (ToR shTree (putR x (s, ys) val) (putC x (s, ys)) w) := by
  obtain ⟨i0, hi0, hz0, hz1, hz2⟩ := info_parts cinfo_Node
  have hvv := h
  obtain ⟨cs, rfl, h⟩ := h
  obtain ⟨A0, c0, rfl, b00⟩ := openTree h
  clear h
  have ka0 : Bk ((w.alloc (.cells #[.slice A0 x.length c0] 32)).alloc (.cells #[.slice none 0 0] 32)) w.heap.size 32 #[.slice A0 x.length c0] := (Bk.new _ _ _).alloc _
  have kr0 : Bk ((w.alloc (.cells #[.slice A0 x.length c0] 32)).alloc (.cells #[.slice none 0 0] 32)) (w.heap.size + 1) 32 #[.slice none 0 0] := by simpa using Bk.new (w.alloc (.cells #[.slice A0 x.length c0] 32)) 32 #[.slice none 0 0]
  have uu0 : Up w ((w.alloc (.cells #[.slice A0 x.length c0] 32)).alloc (.cells #[.slice none 0 0] 32)) := ((Up.refl w).alloc _).alloc _
  have ga0 := ka0.cell 0
  have ca := fun W (hW : Up w W) => c_l03At x _ s ys B d W (hvv.up good_Tree hW) (k.up good_S hW)
  have hp := posN_le x (s, ys)
  have hxc := b00.1
  have hcm := b00.2.1
  have hcm' := hcm
  unfold maxLen at hcm'
  have hlen := b00.len_le
  by_cases hq : hasN x (s, ys) = false ∧ 120 ≤ x.length
  · have HC : Hid (putC x (s, ys) = 4) := by unfold Hid putC; rw [if_pos hq]
    have HR : Hid (putR x (s, ys) val = []) := by unfold Hid putR; rw [HC.out]; rfl
    obtain ⟨hq1, hq2⟩ := hq
    rw [hq1] at ca
    have CA := Lib.hid ca
    clear ca
    generalize posN x (s, ys) = p at *
    go_enter Tryz.func76, Tryz.ntmps76
    go_wp2_with fail
    refine (CA.out _ uu0).mono ?_
    rintro e w1 ⟨rfl, u1⟩
    have ga1 : w1.cell? ⟨w.heap.size, 0, none⟩ = some (.slice A0 x.length c0) := (ka0.up u1).cell 0
    have kr1 := kr0.up u1
    have gr1 := kr1.cell 0
    have fr1 := kr1.frozen 0
    go_wp2_with fail
    refine bodyPost_ret (v := .tuple #[.agg #[.slice none 0 0], .int .i64 4]) (by simp [results, Tryz.results76, go_sem, gr1]) rfl ?_
    exact toR_eq HR HC (zeroTree _ _ _ ((uu0.trans u1).setCell (by simp) _))
  · have HC : Hid (putC x (s, ys) = 0) := by unfold Hid putC; rw [if_neg hq]
    have HR : Hid (putR x (s, ys) val = (x.take (posN x (s, ys)) ++ [(s, ys, val)]) ++ x.drop (nextN x (s, ys))) := by unfold Hid putR; rw [HC.out, if_pos rfl]; simp [putT]
    have h120 : hasN x (s, ys) = true ∨ x.length < 120 := by
      cases e : hasN x (s, ys)
      · exact .inr (by rw [e] at hq; simp at hq; omega)
      · exact .inl rfl
    clear hq
    have hmul1 : (x.length + 2) * i0.bytes ≤ 140737488355328 := by rw [hz2]; omega
    have av : (shRef w shNode).own w w.heap.size w.heap.size [.string s, .slice B ys.length d, .string val] (s, ys, val) [] := ⟨mkNode (x := (s, ys, val)) hs k hv, rfl⟩
    -- the two rows that are read
    have hnil : A0 = none → x.length = 0 := fun e => by
      rcases Nat.eq_zero_or_pos x.length with h0 | hpos
      · exact h0
      · obtain ⟨g, off, hA, _⟩ := b00.2.2 hpos
        rw [e] at hA; cases hA
    have hspot : ∀ a, A0 = some a → 0 < x.length → a.spot = none := fun a e hpos => by
      obtain ⟨g, off, hA, _⟩ := b00.2.2 hpos
      rw [e] at hA; injection hA with hA; rw [hA]
    cases hb : hasN x (s, ys)
    · rw [hb] at ca
      have hnx : nextN x (s, ys) = posN x (s, ys) := by unfold nextN; rw [hb]; rfl
      rw [hnx] at HR
      have hlt : x.length < 120 := by rcases h120 with h | h; rw [hb] at h; cases h; exact h
      have CA := Lib.hid ca
      clear ca hnx hb h120
      generalize posN x (s, ys) = p at *
      obtain ⟨X1, hX1⟩ : ∃ X1, X1 = x.take p := ⟨_, rfl⟩
      obtain ⟨X2, hX2⟩ : ∃ X2, X2 = x.drop (p) := ⟨_, rfl⟩
      have hl1 : X1.length = p := by rw [hX1, List.length_take]; omega
      have hl2 : X2.length = x.length - (p) := by rw [hX2, List.length_drop]
      have S1 : ∀ W, Up w W → SRW (shRef w shNode) W A0 c0 X1 := fun W hW => by rw [hX1]; exact (b00.take hp).ref hW
      have S2 : ∀ g off, A0 = some ⟨g, off, none⟩ → ∀ W, Up w W → SRW (shRef w shNode) W (some ⟨g, off + (p) * 3, none⟩) (c0 - (p)) X2 := fun g off hA W hW => by
        subst hA
        rw [hX2]; exact (b00.dropN (by omega)).ref hW
      have S3 : X2.length = 0 → ∀ (A2 : Option Addr) (c2 : Nat), c2 ≤ maxLen → ∀ W, Up w W → SRW (shRef w shNode) W A2 c2 X2 := fun h0 A2 c2 hc W _ => by rw [List.eq_nil_of_length_eq_zero h0]; exact SR.dropAll hc
      have HL2 : Hid (∀ i (h : i < ((X1 ++ [(s, ys, val)]) ++ X2).length), ((X1 ++ [(s, ys, val)]) ++ X2)[i].2.1.length ≤ 1048576) := fun i hi => by
        have hm := List.getElem_mem hi
        generalize ((X1 ++ [(s, ys, val)]) ++ X2)[i] = n at hm
        simp only [List.mem_append, List.mem_singleton] at hm
        rcases hm with (hm | rfl) | hm
        · rw [hX1] at hm
          obtain ⟨j, hj, rfl⟩ := List.getElem_of_mem (List.mem_of_mem_take hm)
          exact hl j hj
        · exact hy
        · rw [hX2] at hm
          obtain ⟨j, hj, rfl⟩ := List.getElem_of_mem (List.mem_of_mem_drop hm)
          exact hl j hj
      rw [← hX1, ← hX2] at HR
      obtain ⟨L, hL⟩ : ∃ L, L = (X1 ++ [(s, ys, val)]) ++ X2 := ⟨_, rfl⟩
      rw [← hL] at HR HL2
      have hLl : L.length = p + 1 + (x.length - (p)) := by rw [hL]; simp; omega
      have HLL := Lib.hid hL
      have HLN := Lib.hid hLl
      clear hX1 hX2 hl
      have hb1 : X1.length * i0.bytes ≤ 140737488355328 := Nat.le_trans (Nat.mul_le_mul_right _ (by omega)) hmul1
      have hb2 : (X1.length + [(s, ys, val)].length) * i0.bytes ≤ 140737488355328 := Nat.le_trans (Nat.mul_le_mul_right _ (by simp; omega)) hmul1
      have hb3 : ((X1 ++ [(s, ys, val)]).length + X2.length) * i0.bytes ≤ 140737488355328 := Nat.le_trans (Nat.mul_le_mul_right _ (by simp; omega)) hmul1
      have hm2 : X1.length + [(s, ys, val)].length ≤ maxLen := by simp; unfold maxLen; omega
      have hm3 : (X1 ++ [(s, ys, val)]).length + X2.length ≤ maxLen := by simp; unfold maxLen; omega
      have htl : L.length ≤ 1000000 := by omega
      clear hL hLl
      have hXY : (X1 ++ [(s, ys, val)]).length = p + 1 := by simp; omega
      have gR := good_Ref (w0 := w) good_Node
      have hpi : ¬ (x.length : Int) < (p : Int) := by omega
      obtain ⟨g, off, rfl, hgo⟩ := b00.2.2 hpos
      clear hgo
      by_cases hcq : c0 = p
      · subst hcq
        have hdec : decide (120 ≤ (x.length : Int)) = false := by simp; omega
        have hz2 : X2.length = 0 := by omega
        have HLM : Hid (L.length = c0 + 1) := by unfold Hid; rw [HLN.out]; omega
        go_enter Tryz.func76, Tryz.ntmps76
        go_wp2_with fail
        refine (CA.out _ uu0).mono ?_
        rintro e w1 ⟨rfl, u1⟩
        have ka1 := ka0.up u1
        have ga1 : w1.cell? ⟨w.heap.size, 0, none⟩ = some (.slice (some ⟨g, off, none⟩) x.length c0) := ka1.cell 0
        have ga1e : (w1.alloc (.cells #[] 91)).cell? ⟨w.heap.size, 0, none⟩ = some (.slice (some ⟨g, off, none⟩) x.length c0) := (ka1.alloc _).cell 0
        have kr1 := kr0.up u1
        have uu1 : Up w (w1.alloc (.cells #[] 91)) := (uu0.trans u1).alloc _
        have hw1 : w.heap.size + 2 ≤ w1.heap.size := by have := u1.size; simp at this; omega
        go_wp2_with (first
          | (at_builtin
             refine wpList_app_new (good_Ref (w0 := w) good_Node) flat_Ref rfl _ _ _ 91 rfl i0 _ Tryz.underlying30 hi0 hz0 hz1 (by rfl) rfl (by rw [hl1]; rfl) (S1 _ uu1) hb1 ?_
             intro D1 d1 bl1 w2 so1 nd1 u2
             have hin1 : ∀ y ∈ bl1, w.heap.size + 3 ≤ y := fun y hy => by have := (so1.in_ gR y hy).1; simp at this; omega
             have so1' := (so1.up gR ((Up.refl w2).alloc (.cells #[.string s, .slice B ys.length d, .string val] 91))).wide gR (lo' := w.heap.size) (by simp; omega) (Nat.le_refl _)
             have kb2 : Bk (w2.alloc (.cells #[.string s, .slice B ys.length d, .string val] 91)) w2.heap.size 91 #[.string s, .slice B ys.length d, .string val] := Bk.new _ _ _
             have ka2 := ((ka1.alloc (.cells #[] 91)).up u2).alloc (.cells #[.string s, .slice B ys.length d, .string val] 91)
             have kr2 := ((kr1.alloc (.cells #[] 91)).up u2).alloc (.cells #[.string s, .slice B ys.length d, .string val] 91)
             have uu2 := (uu1.trans u2).alloc (.cells #[.string s, .slice B ys.length d, .string val] 91)
             have ro2 : Rowed (shRef w shNode) (w2.alloc (.cells #[.string s, .slice B ys.length d, .string val] 91)) w.heap.size (w2.alloc (.cells #[.string s, .slice B ys.length d, .string val] 91)).heap.size [.string s, .slice B ys.length d, .string val] [(s, ys, val)] [[]] := Rowed.one gR av
             have nd1' : (bl1 ++ [([] : List Nat)].flatten).Nodup := by simpa using nd1)
          | (at_builtin
             refine wpList_app (good_Ref (w0 := w) good_Node) rfl _ _ _ _ 91 rfl i0 _ Tryz.underlying30 hi0 hz0 hz1 (by rfl) (lo := w.heap.size) (xs := X1) (ys := [(s, ys, val)]) (bl := bl1) (bs := [[]]) (news := [.string s, .slice B ys.length d, .string val]) (by rw [hl1]; rfl) rfl so1' nd1' (Src.box (t := 91) (cs := [.string s, .slice B ys.length d, .string val]) Tryz.underlying30 kb2 (by simp [Value.oneCell']) (by rw [hz1]; rfl)) ro2 uu2.size hb2 hm2 ?_
             intro D2 d2 bl2 w3 hap
             obtain ⟨so2, nd2, mem2, on2⟩ := hap
             have ka3 := ka2.only on2 (fun hm => by have := hin1 _ hm; omega)
             have kr3 := kr2.only on2 (fun hm => by have := hin1 _ hm; omega)
             have ga3 : w3.cell? ⟨w.heap.size, 0, none⟩ = some (.slice (some ⟨g, off, none⟩) x.length c0) := ka3.cell 0
             have uu3 : Up w w3 := Up.only uu2 on2 (fun y hy => by have := hin1 _ hy; omega)
             have hin2 : ∀ y ∈ bl2, w.heap.size + 2 ≤ y := fun y hy => by
               rcases mem2 y hy with h | h
               · have := hin1 y (by simpa using h); omega
               · have := u2.size; simp at h this; omega
             obtain ⟨news, hsrc, hrw⟩ := (S3 (by omega) (some ⟨g, off, none⟩) 0 (Nat.zero_le _) w3 uu3).src (lo := w.heap.size) (hi := w3.heap.size) gR flat_Ref (e' := 91) (tx := 30) Tryz.underlying30 (n := i0.size) hz1
             have nd2' : (bl2 ++ (List.replicate X2.length ([] : List Nat)).flatten).Nodup := by simpa using nd2)
          | (at_builtin
             refine wpList_app (good_Ref (w0 := w) good_Node) rfl _ _ _ _ 91 rfl i0 _ Tryz.underlying30 hi0 hz0 hz1 (by rfl) (lo := w.heap.size) (xs := X1 ++ [(s, ys, val)]) (ys := X2) (bl := bl2) (bs := List.replicate X2.length []) (news := news) (by rw [hXY]; rfl) (by rw [hz2]; rfl) so2 nd2' hsrc hrw uu3.size hb3 hm3 ?_
             intro D3 d3 bl3 w4 hap
             obtain ⟨so3, nd3, mem3, on3⟩ := hap
             have kr4 := kr3.only on3 (fun hm => by have := hin2 _ hm; omega)
             have uu4 : Up w w4 := Up.only uu3 on3 (fun y hy => by have := hin2 _ hy; omega)
             have sr4 := SR.unref good_Node (so3.rep gR) uu4
             rw [← HLL.out] at sr4
             have co := c_l03Own L D3 d3 w4 sr4 htl HL2.out
             rw [HLM.out] at co))
        refine co.mono ?_
        rintro e w5 ⟨D4, d4, bl4, rfl, o4, nd4, u5⟩
        have kr5 := kr4.up u5
        have gr5 := kr5.cell 0
        have fr5 := kr5.frozen 0
        have hw4 := uu4.size
        go_wp2_with fail
        have hk4 := kr4.lt
        have z4 := (o4.set good_Node (w.heap.size + 1) 0 [.slice D4 L.length d4] (by omega)).wide good_Node (lo' := w.heap.size) (by omega) (Nat.le_refl _)
        refine bodyPost_ret (v := .tuple #[.agg #[.slice D4 L.length d4], .int .i64 0]) (by simp [results, Tryz.results76, go_sem, gr5]) rfl ?_
        exact toR_eq HR HC ⟨[.slice D4 L.length d4], bl4, rfl, mkOTree z4, nd4, (uu4.trans u5).setCell (by simp) _⟩
      · have hs2 := S2 g off rfl
        have hdec : decide (120 ≤ (x.length : Int)) = false := by simp; omega
        go_enter Tryz.func76, Tryz.ntmps76
        go_wp2_with fail
        refine (CA.out _ uu0).mono ?_
        rintro e w1 ⟨rfl, u1⟩
        have ka1 := ka0.up u1
        have ga1 : w1.cell? ⟨w.heap.size, 0, none⟩ = some (.slice (some ⟨g, off, none⟩) x.length c0) := ka1.cell 0
        have ga1e : (w1.alloc (.cells #[] 91)).cell? ⟨w.heap.size, 0, none⟩ = some (.slice (some ⟨g, off, none⟩) x.length c0) := (ka1.alloc _).cell 0
        have kr1 := kr0.up u1
        have uu1 : Up w (w1.alloc (.cells #[] 91)) := (uu0.trans u1).alloc _
        have hw1 : w.heap.size + 2 ≤ w1.heap.size := by have := u1.size; simp at this; omega
        go_wp2_with (first
          | (at_builtin
             refine wpList_app_new (good_Ref (w0 := w) good_Node) flat_Ref rfl _ _ _ 91 rfl i0 _ Tryz.underlying30 hi0 hz0 hz1 (by rfl) rfl (by rw [hl1]; rfl) (S1 _ uu1) hb1 ?_
             intro D1 d1 bl1 w2 so1 nd1 u2
             have hin1 : ∀ y ∈ bl1, w.heap.size + 3 ≤ y := fun y hy => by have := (so1.in_ gR y hy).1; simp at this; omega
             have so1' := (so1.up gR ((Up.refl w2).alloc (.cells #[.string s, .slice B ys.length d, .string val] 91))).wide gR (lo' := w.heap.size) (by simp; omega) (Nat.le_refl _)
             have kb2 : Bk (w2.alloc (.cells #[.string s, .slice B ys.length d, .string val] 91)) w2.heap.size 91 #[.string s, .slice B ys.length d, .string val] := Bk.new _ _ _
             have ka2 := ((ka1.alloc (.cells #[] 91)).up u2).alloc (.cells #[.string s, .slice B ys.length d, .string val] 91)
             have kr2 := ((kr1.alloc (.cells #[] 91)).up u2).alloc (.cells #[.string s, .slice B ys.length d, .string val] 91)
             have uu2 := (uu1.trans u2).alloc (.cells #[.string s, .slice B ys.length d, .string val] 91)
             have ro2 : Rowed (shRef w shNode) (w2.alloc (.cells #[.string s, .slice B ys.length d, .string val] 91)) w.heap.size (w2.alloc (.cells #[.string s, .slice B ys.length d, .string val] 91)).heap.size [.string s, .slice B ys.length d, .string val] [(s, ys, val)] [[]] := Rowed.one gR av
             have nd1' : (bl1 ++ [([] : List Nat)].flatten).Nodup := by simpa using nd1)
          | (at_builtin
             refine wpList_app (good_Ref (w0 := w) good_Node) rfl _ _ _ _ 91 rfl i0 _ Tryz.underlying30 hi0 hz0 hz1 (by rfl) (lo := w.heap.size) (xs := X1) (ys := [(s, ys, val)]) (bl := bl1) (bs := [[]]) (news := [.string s, .slice B ys.length d, .string val]) (by rw [hl1]; rfl) rfl so1' nd1' (Src.box (t := 91) (cs := [.string s, .slice B ys.length d, .string val]) Tryz.underlying30 kb2 (by simp [Value.oneCell']) (by rw [hz1]; rfl)) ro2 uu2.size hb2 hm2 ?_
             intro D2 d2 bl2 w3 hap
             obtain ⟨so2, nd2, mem2, on2⟩ := hap
             have ka3 := ka2.only on2 (fun hm => by have := hin1 _ hm; omega)
             have kr3 := kr2.only on2 (fun hm => by have := hin1 _ hm; omega)
             have ga3 : w3.cell? ⟨w.heap.size, 0, none⟩ = some (.slice (some ⟨g, off, none⟩) x.length c0) := ka3.cell 0
             have uu3 : Up w w3 := Up.only uu2 on2 (fun y hy => by have := hin1 _ hy; omega)
             have hin2 : ∀ y ∈ bl2, w.heap.size + 2 ≤ y := fun y hy => by
               rcases mem2 y hy with h | h
               · have := hin1 y (by simpa using h); omega
               · have := u2.size; simp at h this; omega
             obtain ⟨news, hsrc, hrw⟩ := (hs2 w3 uu3).src (lo := w.heap.size) (hi := w3.heap.size) gR flat_Ref (e' := 91) (tx := 30) Tryz.underlying30 (n := i0.size) hz1
             have nd2' : (bl2 ++ (List.replicate X2.length ([] : List Nat)).flatten).Nodup := by simpa using nd2)
          | (at_builtin
             refine wpList_app (good_Ref (w0 := w) good_Node) rfl _ _ _ _ 91 rfl i0 _ Tryz.underlying30 hi0 hz0 hz1 (by rfl) (lo := w.heap.size) (xs := X1 ++ [(s, ys, val)]) (ys := X2) (bl := bl2) (bs := List.replicate X2.length []) (news := news) (by rw [hXY]; rfl) (by rw [hl2]; rfl) so2 nd2' hsrc hrw uu3.size hb3 hm3 ?_
             intro D3 d3 bl3 w4 hap
             obtain ⟨so3, nd3, mem3, on3⟩ := hap
             have kr4 := kr3.only on3 (fun hm => by have := hin2 _ hm; omega)
             have uu4 : Up w w4 := Up.only uu3 on3 (fun y hy => by have := hin2 _ hy; omega)
             have sr4 := SR.unref good_Node (so3.rep gR) uu4
             rw [← HLL.out] at sr4
             have co := c_l03Own L D3 d3 w4 sr4 htl HL2.out
             rw [HLN.out] at co))
        refine co.mono ?_
        rintro e w5 ⟨D4, d4, bl4, rfl, o4, nd4, u5⟩
        have kr5 := kr4.up u5
        have gr5 := kr5.cell 0
        have fr5 := kr5.frozen 0
        have hw4 := uu4.size
        go_wp2_with fail
        have hk4 := kr4.lt
        have z4 := (o4.set good_Node (w.heap.size + 1) 0 [.slice D4 L.length d4] (by omega)).wide good_Node (lo' := w.heap.size) (by omega) (Nat.le_refl _)
        refine bodyPost_ret (v := .tuple #[.agg #[.slice D4 L.length d4], .int .i64 0]) (by simp [results, Tryz.results76, go_sem, gr5]) rfl ?_
        exact toR_eq HR HC ⟨[.slice D4 L.length d4], bl4, rfl, mkOTree z4, nd4, (uu4.trans u5).setCell (by simp) _⟩
    · rw [hb] at ca
      have hnx : nextN x (s, ys) = posN x (s, ys) + 1 := by unfold nextN; rw [hb]; rfl
      rw [hnx] at HR
      obtain ⟨hq, _⟩ := has_at hb
      have CA := Lib.hid ca
      clear ca hnx hb h120
      generalize posN x (s, ys) = p at *
      obtain ⟨X1, hX1⟩ : ∃ X1, X1 = x.take p := ⟨_, rfl⟩
      obtain ⟨X2, hX2⟩ : ∃ X2, X2 = x.drop (p + 1) := ⟨_, rfl⟩
      have hl1 : X1.length = p := by rw [hX1, List.length_take]; omega
      have hl2 : X2.length = x.length - (p + 1) := by rw [hX2, List.length_drop]
      have S1 : ∀ W, Up w W → SRW (shRef w shNode) W A0 c0 X1 := fun W hW => by rw [hX1]; exact (b00.take hp).ref hW
      have S2 : ∀ g off, A0 = some ⟨g, off, none⟩ → ∀ W, Up w W → SRW (shRef w shNode) W (some ⟨g, off + (p + 1) * 3, none⟩) (c0 - (p + 1)) X2 := fun g off hA W hW => by
        subst hA
        rw [hX2]; exact (b00.dropN (by omega)).ref hW
      have S3 : X2.length = 0 → ∀ (A2 : Option Addr) (c2 : Nat), c2 ≤ maxLen → ∀ W, Up w W → SRW (shRef w shNode) W A2 c2 X2 := fun h0 A2 c2 hc W _ => by rw [List.eq_nil_of_length_eq_zero h0]; exact SR.dropAll hc
      have HL2 : Hid (∀ i (h : i < ((X1 ++ [(s, ys, val)]) ++ X2).length), ((X1 ++ [(s, ys, val)]) ++ X2)[i].2.1.length ≤ 1048576) := fun i hi => by
        have hm := List.getElem_mem hi
        generalize ((X1 ++ [(s, ys, val)]) ++ X2)[i] = n at hm
        simp only [List.mem_append, List.mem_singleton] at hm
        rcases hm with (hm | rfl) | hm
        · rw [hX1] at hm
          obtain ⟨j, hj, rfl⟩ := List.getElem_of_mem (List.mem_of_mem_take hm)
          exact hl j hj
        · exact hy
        · rw [hX2] at hm
          obtain ⟨j, hj, rfl⟩ := List.getElem_of_mem (List.mem_of_mem_drop hm)
          exact hl j hj
      rw [← hX1, ← hX2] at HR
      obtain ⟨L, hL⟩ : ∃ L, L = (X1 ++ [(s, ys, val)]) ++ X2 := ⟨_, rfl⟩
      rw [← hL] at HR HL2
      have hLl : L.length = p + 1 + (x.length - (p + 1)) := by rw [hL]; simp; omega
      have HLL := Lib.hid hL
      have HLN := Lib.hid hLl
      clear hX1 hX2 hl
      have hb1 : X1.length * i0.bytes ≤ 140737488355328 := Nat.le_trans (Nat.mul_le_mul_right _ (by omega)) hmul1
      have hb2 : (X1.length + [(s, ys, val)].length) * i0.bytes ≤ 140737488355328 := Nat.le_trans (Nat.mul_le_mul_right _ (by simp; omega)) hmul1
      have hb3 : ((X1 ++ [(s, ys, val)]).length + X2.length) * i0.bytes ≤ 140737488355328 := Nat.le_trans (Nat.mul_le_mul_right _ (by simp; omega)) hmul1
      have hm2 : X1.length + [(s, ys, val)].length ≤ maxLen := by simp; unfold maxLen; omega
      have hm3 : (X1 ++ [(s, ys, val)]).length + X2.length ≤ maxLen := by simp; unfold maxLen; omega
      have htl : L.length ≤ 1000000 := by omega
      clear hL hLl
      have hXY : (X1 ++ [(s, ys, val)]).length = p + 1 := by simp; omega
      have gR := good_Ref (w0 := w) good_Node
      have hpi : ¬ (x.length : Int) < (p : Int) := by omega
      obtain ⟨g, off, rfl, hgo⟩ := b00.2.2 hpos
      clear hgo
      by_cases hcq : c0 = p + 1
      · subst hcq
        have hz2 : X2.length = 0 := by omega
        have HLM : Hid (L.length = p + 1) := by unfold Hid; rw [HLN.out]; omega
        go_enter Tryz.func76, Tryz.ntmps76
        go_wp2_with fail
        refine (CA.out _ uu0).mono ?_
        rintro e w1 ⟨rfl, u1⟩
        have ka1 := ka0.up u1
        have ga1 : w1.cell? ⟨w.heap.size, 0, none⟩ = some (.slice (some ⟨g, off, none⟩) x.length (p + 1)) := ka1.cell 0
        have ga1e : (w1.alloc (.cells #[] 91)).cell? ⟨w.heap.size, 0, none⟩ = some (.slice (some ⟨g, off, none⟩) x.length (p + 1)) := (ka1.alloc _).cell 0
        have kr1 := kr0.up u1
        have uu1 : Up w (w1.alloc (.cells #[] 91)) := (uu0.trans u1).alloc _
        have hw1 : w.heap.size + 2 ≤ w1.heap.size := by have := u1.size; simp at this; omega
        go_wp2_with (first
          | (at_builtin
             refine wpList_app_new (good_Ref (w0 := w) good_Node) flat_Ref rfl _ _ _ 91 rfl i0 _ Tryz.underlying30 hi0 hz0 hz1 (by rfl) rfl (by rw [hl1]; rfl) (S1 _ uu1) hb1 ?_
             intro D1 d1 bl1 w2 so1 nd1 u2
             have hin1 : ∀ y ∈ bl1, w.heap.size + 3 ≤ y := fun y hy => by have := (so1.in_ gR y hy).1; simp at this; omega
             have so1' := (so1.up gR ((Up.refl w2).alloc (.cells #[.string s, .slice B ys.length d, .string val] 91))).wide gR (lo' := w.heap.size) (by simp; omega) (Nat.le_refl _)
             have kb2 : Bk (w2.alloc (.cells #[.string s, .slice B ys.length d, .string val] 91)) w2.heap.size 91 #[.string s, .slice B ys.length d, .string val] := Bk.new _ _ _
             have ka2 := ((ka1.alloc (.cells #[] 91)).up u2).alloc (.cells #[.string s, .slice B ys.length d, .string val] 91)
             have kr2 := ((kr1.alloc (.cells #[] 91)).up u2).alloc (.cells #[.string s, .slice B ys.length d, .string val] 91)
             have uu2 := (uu1.trans u2).alloc (.cells #[.string s, .slice B ys.length d, .string val] 91)
             have ro2 : Rowed (shRef w shNode) (w2.alloc (.cells #[.string s, .slice B ys.length d, .string val] 91)) w.heap.size (w2.alloc (.cells #[.string s, .slice B ys.length d, .string val] 91)).heap.size [.string s, .slice B ys.length d, .string val] [(s, ys, val)] [[]] := Rowed.one gR av
             have nd1' : (bl1 ++ [([] : List Nat)].flatten).Nodup := by simpa using nd1)
          | (at_builtin
             refine wpList_app (good_Ref (w0 := w) good_Node) rfl _ _ _ _ 91 rfl i0 _ Tryz.underlying30 hi0 hz0 hz1 (by rfl) (lo := w.heap.size) (xs := X1) (ys := [(s, ys, val)]) (bl := bl1) (bs := [[]]) (news := [.string s, .slice B ys.length d, .string val]) (by rw [hl1]; rfl) rfl so1' nd1' (Src.box (t := 91) (cs := [.string s, .slice B ys.length d, .string val]) Tryz.underlying30 kb2 (by simp [Value.oneCell']) (by rw [hz1]; rfl)) ro2 uu2.size hb2 hm2 ?_
             intro D2 d2 bl2 w3 hap
             obtain ⟨so2, nd2, mem2, on2⟩ := hap
             have ka3 := ka2.only on2 (fun hm => by have := hin1 _ hm; omega)
             have kr3 := kr2.only on2 (fun hm => by have := hin1 _ hm; omega)
             have ga3 : w3.cell? ⟨w.heap.size, 0, none⟩ = some (.slice (some ⟨g, off, none⟩) x.length (p + 1)) := ka3.cell 0
             have uu3 : Up w w3 := Up.only uu2 on2 (fun y hy => by have := hin1 _ hy; omega)
             have hin2 : ∀ y ∈ bl2, w.heap.size + 2 ≤ y := fun y hy => by
               rcases mem2 y hy with h | h
               · have := hin1 y (by simpa using h); omega
               · have := u2.size; simp at h this; omega
             obtain ⟨news, hsrc, hrw⟩ := (S3 (by omega) (some ⟨g, off, none⟩) 0 (Nat.zero_le _) w3 uu3).src (lo := w.heap.size) (hi := w3.heap.size) gR flat_Ref (e' := 91) (tx := 30) Tryz.underlying30 (n := i0.size) hz1
             have nd2' : (bl2 ++ (List.replicate X2.length ([] : List Nat)).flatten).Nodup := by simpa using nd2)
          | (at_builtin
             refine wpList_app (good_Ref (w0 := w) good_Node) rfl _ _ _ _ 91 rfl i0 _ Tryz.underlying30 hi0 hz0 hz1 (by rfl) (lo := w.heap.size) (xs := X1 ++ [(s, ys, val)]) (ys := X2) (bl := bl2) (bs := List.replicate X2.length []) (news := news) (by rw [hXY]; rfl) (by rw [hz2]; rfl) so2 nd2' hsrc hrw uu3.size hb3 hm3 ?_
             intro D3 d3 bl3 w4 hap
             obtain ⟨so3, nd3, mem3, on3⟩ := hap
             have kr4 := kr3.only on3 (fun hm => by have := hin2 _ hm; omega)
             have uu4 : Up w w4 := Up.only uu3 on3 (fun y hy => by have := hin2 _ hy; omega)
             have sr4 := SR.unref good_Node (so3.rep gR) uu4
             rw [← HLL.out] at sr4
             have co := c_l03Own L D3 d3 w4 sr4 htl HL2.out
             rw [HLM.out] at co))
        refine co.mono ?_
        rintro e w5 ⟨D4, d4, bl4, rfl, o4, nd4, u5⟩
        have kr5 := kr4.up u5
        have gr5 := kr5.cell 0
        have fr5 := kr5.frozen 0
        have hw4 := uu4.size
        go_wp2_with fail
        have hk4 := kr4.lt
        have z4 := (o4.set good_Node (w.heap.size + 1) 0 [.slice D4 L.length d4] (by omega)).wide good_Node (lo' := w.heap.size) (by omega) (Nat.le_refl _)
        refine bodyPost_ret (v := .tuple #[.agg #[.slice D4 L.length d4], .int .i64 0]) (by simp [results, Tryz.results76, go_sem, gr5]) rfl ?_
        exact toR_eq HR HC ⟨[.slice D4 L.length d4], bl4, rfl, mkOTree z4, nd4, (uu4.trans u5).setCell (by simp) _⟩
      · have hs2 := S2 g off rfl
        go_enter Tryz.func76, Tryz.ntmps76
        go_wp2_with fail
        refine (CA.out _ uu0).mono ?_
        rintro e w1 ⟨rfl, u1⟩
        have ka1 := ka0.up u1
        have ga1 : w1.cell? ⟨w.heap.size, 0, none⟩ = some (.slice (some ⟨g, off, none⟩) x.length c0) := ka1.cell 0
        have ga1e : (w1.alloc (.cells #[] 91)).cell? ⟨w.heap.size, 0, none⟩ = some (.slice (some ⟨g, off, none⟩) x.length c0) := (ka1.alloc _).cell 0
        have kr1 := kr0.up u1
        have uu1 : Up w (w1.alloc (.cells #[] 91)) := (uu0.trans u1).alloc _
        have hw1 : w.heap.size + 2 ≤ w1.heap.size := by have := u1.size; simp at this; omega
        go_wp2_with (first
          | (at_builtin
             refine wpList_app_new (good_Ref (w0 := w) good_Node) flat_Ref rfl _ _ _ 91 rfl i0 _ Tryz.underlying30 hi0 hz0 hz1 (by rfl) rfl (by rw [hl1]; rfl) (S1 _ uu1) hb1 ?_
             intro D1 d1 bl1 w2 so1 nd1 u2
             have hin1 : ∀ y ∈ bl1, w.heap.size + 3 ≤ y := fun y hy => by have := (so1.in_ gR y hy).1; simp at this; omega
             have so1' := (so1.up gR ((Up.refl w2).alloc (.cells #[.string s, .slice B ys.length d, .string val] 91))).wide gR (lo' := w.heap.size) (by simp; omega) (Nat.le_refl _)
             have kb2 : Bk (w2.alloc (.cells #[.string s, .slice B ys.length d, .string val] 91)) w2.heap.size 91 #[.string s, .slice B ys.length d, .string val] := Bk.new _ _ _
             have ka2 := ((ka1.alloc (.cells #[] 91)).up u2).alloc (.cells #[.string s, .slice B ys.length d, .string val] 91)
             have kr2 := ((kr1.alloc (.cells #[] 91)).up u2).alloc (.cells #[.string s, .slice B ys.length d, .string val] 91)
             have uu2 := (uu1.trans u2).alloc (.cells #[.string s, .slice B ys.length d, .string val] 91)
             have ro2 : Rowed (shRef w shNode) (w2.alloc (.cells #[.string s, .slice B ys.length d, .string val] 91)) w.heap.size (w2.alloc (.cells #[.string s, .slice B ys.length d, .string val] 91)).heap.size [.string s, .slice B ys.length d, .string val] [(s, ys, val)] [[]] := Rowed.one gR av
             have nd1' : (bl1 ++ [([] : List Nat)].flatten).Nodup := by simpa using nd1)
          | (at_builtin
             refine wpList_app (good_Ref (w0 := w) good_Node) rfl _ _ _ _ 91 rfl i0 _ Tryz.underlying30 hi0 hz0 hz1 (by rfl) (lo := w.heap.size) (xs := X1) (ys := [(s, ys, val)]) (bl := bl1) (bs := [[]]) (news := [.string s, .slice B ys.length d, .string val]) (by rw [hl1]; rfl) rfl so1' nd1' (Src.box (t := 91) (cs := [.string s, .slice B ys.length d, .string val]) Tryz.underlying30 kb2 (by simp [Value.oneCell']) (by rw [hz1]; rfl)) ro2 uu2.size hb2 hm2 ?_
             intro D2 d2 bl2 w3 hap
             obtain ⟨so2, nd2, mem2, on2⟩ := hap
             have ka3 := ka2.only on2 (fun hm => by have := hin1 _ hm; omega)
             have kr3 := kr2.only on2 (fun hm => by have := hin1 _ hm; omega)
             have ga3 : w3.cell? ⟨w.heap.size, 0, none⟩ = some (.slice (some ⟨g, off, none⟩) x.length c0) := ka3.cell 0
             have uu3 : Up w w3 := Up.only uu2 on2 (fun y hy => by have := hin1 _ hy; omega)
             have hin2 : ∀ y ∈ bl2, w.heap.size + 2 ≤ y := fun y hy => by
               rcases mem2 y hy with h | h
               · have := hin1 y (by simpa using h); omega
               · have := u2.size; simp at h this; omega
             obtain ⟨news, hsrc, hrw⟩ := (hs2 w3 uu3).src (lo := w.heap.size) (hi := w3.heap.size) gR flat_Ref (e' := 91) (tx := 30) Tryz.underlying30 (n := i0.size) hz1
             have nd2' : (bl2 ++ (List.replicate X2.length ([] : List Nat)).flatten).Nodup := by simpa using nd2)
          | (at_builtin
             refine wpList_app (good_Ref (w0 := w) good_Node) rfl _ _ _ _ 91 rfl i0 _ Tryz.underlying30 hi0 hz0 hz1 (by rfl) (lo := w.heap.size) (xs := X1 ++ [(s, ys, val)]) (ys := X2) (bl := bl2) (bs := List.replicate X2.length []) (news := news) (by rw [hXY]; rfl) (by rw [hl2]; rfl) so2 nd2' hsrc hrw uu3.size hb3 hm3 ?_
             intro D3 d3 bl3 w4 hap
             obtain ⟨so3, nd3, mem3, on3⟩ := hap
             have kr4 := kr3.only on3 (fun hm => by have := hin2 _ hm; omega)
             have uu4 : Up w w4 := Up.only uu3 on3 (fun y hy => by have := hin2 _ hy; omega)
             have sr4 := SR.unref good_Node (so3.rep gR) uu4
             rw [← HLL.out] at sr4
             have co := c_l03Own L D3 d3 w4 sr4 htl HL2.out
             rw [HLN.out] at co))
        refine co.mono ?_
        rintro e w5 ⟨D4, d4, bl4, rfl, o4, nd4, u5⟩
        have kr5 := kr4.up u5
        have gr5 := kr5.cell 0
        have fr5 := kr5.frozen 0
        have hw4 := uu4.size
        go_wp2_with fail
        have hk4 := kr4.lt
        have z4 := (o4.set good_Node (w.heap.size + 1) 0 [.slice D4 L.length d4] (by omega)).wide good_Node (lo' := w.heap.size) (by omega) (Nat.le_refl _)
        refine bodyPost_ret (v := .tuple #[.agg #[.slice D4 L.length d4], .int .i64 0]) (by simp [results, Tryz.results76, go_sem, gr5]) rfl ?_
        exact toR_eq HR HC ⟨[.slice D4 L.length d4], bl4, rfl, mkOTree z4, nd4, (uu4.trans u5).setCell (by simp) _⟩
set_option maxRecDepth 100000 in
set_option maxHeartbeats 8000000 in
theorem c_l03PutN (A0 : Option Addr) (c0 : Nat) (hcm : c0 ≤ maxLen) (s : ByteArray) (ys : List ByteArray) (B : Option Addr) (d : Nat) (val : ByteArray) (w : World) (k : SRW shS w B d ys) (hs : s.size ≤ maxLen) (hv : val.size ≤ maxLen) (hy : ys.length ≤ 1048576) :
    Calls Tryz.prog 76 #[.agg #[.slice A0 0 c0], .string s, .slice B ys.length d, .string val] w (ToR shTree [(s, ys, val)] 0 w) := by
  obtain ⟨i0, hi0, hz0, hz1, hz2⟩ := info_parts cinfo_Node
  have ka0 : Bk ((w.alloc (.cells #[.slice A0 0 c0] 32)).alloc (.cells #[.slice none 0 0] 32)) w.heap.size 32 #[.slice A0 0 c0] := (Bk.new _ _ _).alloc _
  have kr0 : Bk ((w.alloc (.cells #[.slice A0 0 c0] 32)).alloc (.cells #[.slice none 0 0] 32)) (w.heap.size + 1) 32 #[.slice none 0 0] := by simpa using Bk.new (w.alloc (.cells #[.slice A0 0 c0] 32)) 32 #[.slice none 0 0]
  have uu0 : Up w ((w.alloc (.cells #[.slice A0 0 c0] 32)).alloc (.cells #[.slice none 0 0] 32)) := ((Up.refl w).alloc _).alloc _
  have ga0 := ka0.cell 0
  have hvv : AV shTree w (.agg #[.slice A0 0 c0]) [] := ⟨[.slice A0 0 c0], rfl, mkTree (x := []) (SR.dropAll hcm)⟩
  have ca := fun W (hW : Up w W) => c_l03At [] _ s ys B d W (hvv.up good_Tree hW) (k.up good_S hW)
  have CA : Hid (∀ W (hW : Up w W), Calls Tryz.prog 54 #[.agg #[.slice A0 0 c0], .string s, .slice B ys.length d] W (RetV (.tuple #[.int .i64 0, .bool false]) W)) := ca
  clear ca
  have hcm' := hcm
  unfold maxLen at hcm'
  have av : (shRef w shNode).own w w.heap.size w.heap.size [.string s, .slice B ys.length d, .string val] (s, ys, val) [] := ⟨mkNode (x := (s, ys, val)) hs k hv, rfl⟩
  obtain ⟨X1, hX1⟩ : ∃ X1 : List TNode, X1 = [] := ⟨_, rfl⟩
  obtain ⟨X2, hX2⟩ : ∃ X2 : List TNode, X2 = [] := ⟨_, rfl⟩
  obtain ⟨L, hL⟩ : ∃ L, L = (X1 ++ [(s, ys, val)]) ++ X2 := ⟨_, rfl⟩
  have hl1 : X1.length = 0 := by rw [hX1]; rfl
  have hl2 : X2.length = 0 := by rw [hX2]; rfl
  have S1 : ∀ W, Up w W → SRW (shRef w shNode) W A0 c0 X1 := fun W hW => by rw [hX1]; exact SR.dropAll hcm
  have S3 : ∀ (A2 : Option Addr) (c2 : Nat), c2 ≤ maxLen → ∀ W, Up w W → SRW (shRef w shNode) W A2 c2 X2 := fun A2 c2 hc W _ => by rw [hX2]; exact SR.dropAll hc
  have HL1 : Hid (L = [(s, ys, val)]) := by unfold Hid; rw [hL, hX1, hX2]; rfl
  have HL2 : Hid (∀ i (h : i < L.length), L[i].2.1.length ≤ 1048576) := fun i hi => by
    have hm := List.getElem_mem hi
    generalize L[i] = n at hm
    rw [HL1.out, List.mem_singleton] at hm
    rw [hm]; exact hy
  have HR : Hid ([(s, ys, val)] = L) := HL1.out.symm
  have HLL := Lib.hid hL
  have hLl : L.length = 1 := by rw [HL1.out]; rfl
  have HLN := Lib.hid hLl
  have htl : L.length ≤ 1000000 := by omega
  have hXY : (X1 ++ [(s, ys, val)]).length = 1 := by simp; omega
  have hb1 : X1.length * i0.bytes ≤ 140737488355328 := by rw [hl1]; omega
  have hb2 : (X1.length + [(s, ys, val)].length) * i0.bytes ≤ 140737488355328 := by rw [hl1, hz2]; simp
  have hb3 : ((X1 ++ [(s, ys, val)]).length + X2.length) * i0.bytes ≤ 140737488355328 := by rw [hXY, hl2, hz2]; decide
  have hm2 : X1.length + [(s, ys, val)].length ≤ maxLen := by simp; unfold maxLen; omega
  have hm3 : (X1 ++ [(s, ys, val)]).length + X2.length ≤ maxLen := by simp; unfold maxLen; omega
  have gR := good_Ref (w0 := w) good_Node
  clear hX1 hX2 hL hLl
  cases A0 with
  | none =>
    go_enter Tryz.func76, Tryz.ntmps76
    go_wp2_with fail
    refine (CA.out _ uu0).mono ?_
    rintro e w1 ⟨rfl, u1⟩
    have ka1 := ka0.up u1
    have ga1 : w1.cell? ⟨w.heap.size, 0, none⟩ = some (.slice none 0 c0) := ka1.cell 0
    have ga1e : (w1.alloc (.cells #[] 91)).cell? ⟨w.heap.size, 0, none⟩ = some (.slice none 0 c0) := (ka1.alloc _).cell 0
    have kr1 := kr0.up u1
    have uu1 : Up w (w1.alloc (.cells #[] 91)) := (uu0.trans u1).alloc _
    have hw1 : w.heap.size + 2 ≤ w1.heap.size := by have := u1.size; simp at this; omega
    go_wp2_with (first
      | (at_builtin
         refine wpList_app_new (good_Ref (w0 := w) good_Node) flat_Ref rfl _ _ _ 91 rfl i0 _ Tryz.underlying30 hi0 hz0 hz1 (by rfl) rfl (by rw [hl1]; rfl) (S1 _ uu1) hb1 ?_
         intro D1 d1 bl1 w2 so1 nd1 u2
         have hin1 : ∀ y ∈ bl1, w.heap.size + 3 ≤ y := fun y hy => by have := (so1.in_ gR y hy).1; simp at this; omega
         have so1' := (so1.up gR ((Up.refl w2).alloc (.cells #[.string s, .slice B ys.length d, .string val] 91))).wide gR (lo' := w.heap.size) (by simp; omega) (Nat.le_refl _)
         have kb2 : Bk (w2.alloc (.cells #[.string s, .slice B ys.length d, .string val] 91)) w2.heap.size 91 #[.string s, .slice B ys.length d, .string val] := Bk.new _ _ _
         have ka2 := ((ka1.alloc (.cells #[] 91)).up u2).alloc (.cells #[.string s, .slice B ys.length d, .string val] 91)
         have kr2 := ((kr1.alloc (.cells #[] 91)).up u2).alloc (.cells #[.string s, .slice B ys.length d, .string val] 91)
         have uu2 := (uu1.trans u2).alloc (.cells #[.string s, .slice B ys.length d, .string val] 91)
         have ro2 : Rowed (shRef w shNode) (w2.alloc (.cells #[.string s, .slice B ys.length d, .string val] 91)) w.heap.size (w2.alloc (.cells #[.string s, .slice B ys.length d, .string val] 91)).heap.size [.string s, .slice B ys.length d, .string val] [(s, ys, val)] [[]] := Rowed.one gR av
         have nd1' : (bl1 ++ [([] : List Nat)].flatten).Nodup := by simpa using nd1)
      | (at_builtin
         refine wpList_app (good_Ref (w0 := w) good_Node) rfl _ _ _ _ 91 rfl i0 _ Tryz.underlying30 hi0 hz0 hz1 (by rfl) (lo := w.heap.size) (xs := X1) (ys := [(s, ys, val)]) (bl := bl1) (bs := [[]]) (news := [.string s, .slice B ys.length d, .string val]) (by rw [hl1]; rfl) rfl so1' nd1' (Src.box (t := 91) (cs := [.string s, .slice B ys.length d, .string val]) Tryz.underlying30 kb2 (by simp [Value.oneCell']) (by rw [hz1]; rfl)) ro2 uu2.size hb2 hm2 ?_
         intro D2 d2 bl2 w3 hap
         obtain ⟨so2, nd2, mem2, on2⟩ := hap
         have ka3 := ka2.only on2 (fun hm => by have := hin1 _ hm; omega)
         have kr3 := kr2.only on2 (fun hm => by have := hin1 _ hm; omega)
         have ga3 : w3.cell? ⟨w.heap.size, 0, none⟩ = some (.slice none 0 c0) := ka3.cell 0
         have uu3 : Up w w3 := Up.only uu2 on2 (fun y hy => by have := hin1 _ hy; omega)
         have hin2 : ∀ y ∈ bl2, w.heap.size + 2 ≤ y := fun y hy => by
           rcases mem2 y hy with h | h
           · have := hin1 y (by simpa using h); omega
           · have := u2.size; simp at h this; omega
         obtain ⟨news, hsrc, hrw⟩ := (S3 none c0 hcm w3 uu3).src (lo := w.heap.size) (hi := w3.heap.size) gR flat_Ref (e' := 91) (tx := 30) Tryz.underlying30 (n := i0.size) hz1
         have nd2' : (bl2 ++ (List.replicate X2.length ([] : List Nat)).flatten).Nodup := by simpa using nd2)
      | (at_builtin
         refine wpList_app (good_Ref (w0 := w) good_Node) rfl _ _ _ _ 91 rfl i0 _ Tryz.underlying30 hi0 hz0 hz1 (by rfl) (lo := w.heap.size) (xs := X1 ++ [(s, ys, val)]) (ys := X2) (bl := bl2) (bs := List.replicate X2.length []) (news := news) (by rw [hXY]; rfl) (by rw [hl2]; rfl) so2 nd2' hsrc hrw uu3.size hb3 hm3 ?_
         intro D3 d3 bl3 w4 hap
         obtain ⟨so3, nd3, mem3, on3⟩ := hap
         have kr4 := kr3.only on3 (fun hm => by have := hin2 _ hm; omega)
         have uu4 : Up w w4 := Up.only uu3 on3 (fun y hy => by have := hin2 _ hy; omega)
         have sr4 := SR.unref good_Node (so3.rep gR) uu4
         rw [← HLL.out] at sr4
         have co := c_l03Own L D3 d3 w4 sr4 htl HL2.out
         rw [HLN.out] at co))
    refine co.mono ?_
    rintro e w5 ⟨D4, d4, bl4, rfl, o4, nd4, u5⟩
    have kr5 := kr4.up u5
    have gr5 := kr5.cell 0
    have fr5 := kr5.frozen 0
    have hw4 := uu4.size
    go_wp2_with fail
    have hk4 := kr4.lt
    have z4 := (o4.set good_Node (w.heap.size + 1) 0 [.slice D4 L.length d4] (by omega)).wide good_Node (lo' := w.heap.size) (by omega) (Nat.le_refl _)
    refine bodyPost_ret (v := .tuple #[.agg #[.slice D4 L.length d4], .int .i64 0]) (by simp [results, Tryz.results76, go_sem, gr5]) rfl ?_
    exact toR_eq HR rfl ⟨[.slice D4 L.length d4], bl4, rfl, mkOTree z4, nd4, (uu4.trans u5).setCell (by simp) _⟩
  | some a =>
    by_cases hc0 : c0 = 0
    · subst hc0
      go_enter Tryz.func76, Tryz.ntmps76
      go_wp2_with fail
      refine (CA.out _ uu0).mono ?_
      rintro e w1 ⟨rfl, u1⟩
      have ka1 := ka0.up u1
      have ga1 : w1.cell? ⟨w.heap.size, 0, none⟩ = some (.slice (some a) 0 0) := ka1.cell 0
      have ga1e : (w1.alloc (.cells #[] 91)).cell? ⟨w.heap.size, 0, none⟩ = some (.slice (some a) 0 0) := (ka1.alloc _).cell 0
      have kr1 := kr0.up u1
      have uu1 : Up w (w1.alloc (.cells #[] 91)) := (uu0.trans u1).alloc _
      have hw1 : w.heap.size + 2 ≤ w1.heap.size := by have := u1.size; simp at this; omega
      go_wp2_with (first
        | (at_builtin
           refine wpList_app_new (good_Ref (w0 := w) good_Node) flat_Ref rfl _ _ _ 91 rfl i0 _ Tryz.underlying30 hi0 hz0 hz1 (by rfl) rfl (by rw [hl1]; rfl) (S1 _ uu1) hb1 ?_
           intro D1 d1 bl1 w2 so1 nd1 u2
           have hin1 : ∀ y ∈ bl1, w.heap.size + 3 ≤ y := fun y hy => by have := (so1.in_ gR y hy).1; simp at this; omega
           have so1' := (so1.up gR ((Up.refl w2).alloc (.cells #[.string s, .slice B ys.length d, .string val] 91))).wide gR (lo' := w.heap.size) (by simp; omega) (Nat.le_refl _)
           have kb2 : Bk (w2.alloc (.cells #[.string s, .slice B ys.length d, .string val] 91)) w2.heap.size 91 #[.string s, .slice B ys.length d, .string val] := Bk.new _ _ _
           have ka2 := ((ka1.alloc (.cells #[] 91)).up u2).alloc (.cells #[.string s, .slice B ys.length d, .string val] 91)
           have kr2 := ((kr1.alloc (.cells #[] 91)).up u2).alloc (.cells #[.string s, .slice B ys.length d, .string val] 91)
           have uu2 := (uu1.trans u2).alloc (.cells #[.string s, .slice B ys.length d, .string val] 91)
           have ro2 : Rowed (shRef w shNode) (w2.alloc (.cells #[.string s, .slice B ys.length d, .string val] 91)) w.heap.size (w2.alloc (.cells #[.string s, .slice B ys.length d, .string val] 91)).heap.size [.string s, .slice B ys.length d, .string val] [(s, ys, val)] [[]] := Rowed.one gR av
           have nd1' : (bl1 ++ [([] : List Nat)].flatten).Nodup := by simpa using nd1)
        | (at_builtin
           refine wpList_app (good_Ref (w0 := w) good_Node) rfl _ _ _ _ 91 rfl i0 _ Tryz.underlying30 hi0 hz0 hz1 (by rfl) (lo := w.heap.size) (xs := X1) (ys := [(s, ys, val)]) (bl := bl1) (bs := [[]]) (news := [.string s, .slice B ys.length d, .string val]) (by rw [hl1]; rfl) rfl so1' nd1' (Src.box (t := 91) (cs := [.string s, .slice B ys.length d, .string val]) Tryz.underlying30 kb2 (by simp [Value.oneCell']) (by rw [hz1]; rfl)) ro2 uu2.size hb2 hm2 ?_
           intro D2 d2 bl2 w3 hap
           obtain ⟨so2, nd2, mem2, on2⟩ := hap
           have ka3 := ka2.only on2 (fun hm => by have := hin1 _ hm; omega)
           have kr3 := kr2.only on2 (fun hm => by have := hin1 _ hm; omega)
           have ga3 : w3.cell? ⟨w.heap.size, 0, none⟩ = some (.slice (some a) 0 0) := ka3.cell 0
           have uu3 : Up w w3 := Up.only uu2 on2 (fun y hy => by have := hin1 _ hy; omega)
           have hin2 : ∀ y ∈ bl2, w.heap.size + 2 ≤ y := fun y hy => by
             rcases mem2 y hy with h | h
             · have := hin1 y (by simpa using h); omega
             · have := u2.size; simp at h this; omega
           obtain ⟨news, hsrc, hrw⟩ := (S3 (some a) 0 hcm w3 uu3).src (lo := w.heap.size) (hi := w3.heap.size) gR flat_Ref (e' := 91) (tx := 30) Tryz.underlying30 (n := i0.size) hz1
           have nd2' : (bl2 ++ (List.replicate X2.length ([] : List Nat)).flatten).Nodup := by simpa using nd2)
        | (at_builtin
           refine wpList_app (good_Ref (w0 := w) good_Node) rfl _ _ _ _ 91 rfl i0 _ Tryz.underlying30 hi0 hz0 hz1 (by rfl) (lo := w.heap.size) (xs := X1 ++ [(s, ys, val)]) (ys := X2) (bl := bl2) (bs := List.replicate X2.length []) (news := news) (by rw [hXY]; rfl) (by rw [hl2]; rfl) so2 nd2' hsrc hrw uu3.size hb3 hm3 ?_
           intro D3 d3 bl3 w4 hap
           obtain ⟨so3, nd3, mem3, on3⟩ := hap
           have kr4 := kr3.only on3 (fun hm => by have := hin2 _ hm; omega)
           have uu4 : Up w w4 := Up.only uu3 on3 (fun y hy => by have := hin2 _ hy; omega)
           have sr4 := SR.unref good_Node (so3.rep gR) uu4
           rw [← HLL.out] at sr4
           have co := c_l03Own L D3 d3 w4 sr4 htl HL2.out
           rw [HLN.out] at co))
      refine co.mono ?_
      rintro e w5 ⟨D4, d4, bl4, rfl, o4, nd4, u5⟩
      have kr5 := kr4.up u5
      have gr5 := kr5.cell 0
      have fr5 := kr5.frozen 0
      have hw4 := uu4.size
      go_wp2_with fail
      have hk4 := kr4.lt
      have z4 := (o4.set good_Node (w.heap.size + 1) 0 [.slice D4 L.length d4] (by omega)).wide good_Node (lo' := w.heap.size) (by omega) (Nat.le_refl _)
      refine bodyPost_ret (v := .tuple #[.agg #[.slice D4 L.length d4], .int .i64 0]) (by simp [results, Tryz.results76, go_sem, gr5]) rfl ?_
      exact toR_eq HR rfl ⟨[.slice D4 L.length d4], bl4, rfl, mkOTree z4, nd4, (uu4.trans u5).setCell (by simp) _⟩
    · skip
      go_enter Tryz.func76, Tryz.ntmps76
      go_wp2_with fail
      refine (CA.out _ uu0).mono ?_
      rintro e w1 ⟨rfl, u1⟩
      have ka1 := ka0.up u1
      have ga1 : w1.cell? ⟨w.heap.size, 0, none⟩ = some (.slice (some a) 0 c0) := ka1.cell 0
      have ga1e : (w1.alloc (.cells #[] 91)).cell? ⟨w.heap.size, 0, none⟩ = some (.slice (some a) 0 c0) := (ka1.alloc _).cell 0
      have kr1 := kr0.up u1
      have uu1 : Up w (w1.alloc (.cells #[] 91)) := (uu0.trans u1).alloc _
      have hw1 : w.heap.size + 2 ≤ w1.heap.size := by have := u1.size; simp at this; omega
      go_wp2_with (first
        | (at_builtin
           refine wpList_app_new (good_Ref (w0 := w) good_Node) flat_Ref rfl _ _ _ 91 rfl i0 _ Tryz.underlying30 hi0 hz0 hz1 (by rfl) rfl (by rw [hl1]; rfl) (S1 _ uu1) hb1 ?_
           intro D1 d1 bl1 w2 so1 nd1 u2
           have hin1 : ∀ y ∈ bl1, w.heap.size + 3 ≤ y := fun y hy => by have := (so1.in_ gR y hy).1; simp at this; omega
           have so1' := (so1.up gR ((Up.refl w2).alloc (.cells #[.string s, .slice B ys.length d, .string val] 91))).wide gR (lo' := w.heap.size) (by simp; omega) (Nat.le_refl _)
           have kb2 : Bk (w2.alloc (.cells #[.string s, .slice B ys.length d, .string val] 91)) w2.heap.size 91 #[.string s, .slice B ys.length d, .string val] := Bk.new _ _ _
           have ka2 := ((ka1.alloc (.cells #[] 91)).up u2).alloc (.cells #[.string s, .slice B ys.length d, .string val] 91)
           have kr2 := ((kr1.alloc (.cells #[] 91)).up u2).alloc (.cells #[.string s, .slice B ys.length d, .string val] 91)
           have uu2 := (uu1.trans u2).alloc (.cells #[.string s, .slice B ys.length d, .string val] 91)
           have ro2 : Rowed (shRef w shNode) (w2.alloc (.cells #[.string s, .slice B ys.length d, .string val] 91)) w.heap.size (w2.alloc (.cells #[.string s, .slice B ys.length d, .string val] 91)).heap.size [.string s, .slice B ys.length d, .string val] [(s, ys, val)] [[]] := Rowed.one gR av
           have nd1' : (bl1 ++ [([] : List Nat)].flatten).Nodup := by simpa using nd1)
        | (at_builtin
           refine wpList_app (good_Ref (w0 := w) good_Node) rfl _ _ _ _ 91 rfl i0 _ Tryz.underlying30 hi0 hz0 hz1 (by rfl) (lo := w.heap.size) (xs := X1) (ys := [(s, ys, val)]) (bl := bl1) (bs := [[]]) (news := [.string s, .slice B ys.length d, .string val]) (by rw [hl1]; rfl) rfl so1' nd1' (Src.box (t := 91) (cs := [.string s, .slice B ys.length d, .string val]) Tryz.underlying30 kb2 (by simp [Value.oneCell']) (by rw [hz1]; rfl)) ro2 uu2.size hb2 hm2 ?_
           intro D2 d2 bl2 w3 hap
           obtain ⟨so2, nd2, mem2, on2⟩ := hap
           have ka3 := ka2.only on2 (fun hm => by have := hin1 _ hm; omega)
           have kr3 := kr2.only on2 (fun hm => by have := hin1 _ hm; omega)
           have ga3 : w3.cell? ⟨w.heap.size, 0, none⟩ = some (.slice (some a) 0 c0) := ka3.cell 0
           have uu3 : Up w w3 := Up.only uu2 on2 (fun y hy => by have := hin1 _ hy; omega)
           have hin2 : ∀ y ∈ bl2, w.heap.size + 2 ≤ y := fun y hy => by
             rcases mem2 y hy with h | h
             · have := hin1 y (by simpa using h); omega
             · have := u2.size; simp at h this; omega
           obtain ⟨news, hsrc, hrw⟩ := (S3 (some a) c0 hcm w3 uu3).src (lo := w.heap.size) (hi := w3.heap.size) gR flat_Ref (e' := 91) (tx := 30) Tryz.underlying30 (n := i0.size) hz1
           have nd2' : (bl2 ++ (List.replicate X2.length ([] : List Nat)).flatten).Nodup := by simpa using nd2)
        | (at_builtin
           refine wpList_app (good_Ref (w0 := w) good_Node) rfl _ _ _ _ 91 rfl i0 _ Tryz.underlying30 hi0 hz0 hz1 (by rfl) (lo := w.heap.size) (xs := X1 ++ [(s, ys, val)]) (ys := X2) (bl := bl2) (bs := List.replicate X2.length []) (news := news) (by rw [hXY]; rfl) (by rw [hl2]; rfl) so2 nd2' hsrc hrw uu3.size hb3 hm3 ?_
           intro D3 d3 bl3 w4 hap
           obtain ⟨so3, nd3, mem3, on3⟩ := hap
           have kr4 := kr3.only on3 (fun hm => by have := hin2 _ hm; omega)
           have uu4 : Up w w4 := Up.only uu3 on3 (fun y hy => by have := hin2 _ hy; omega)
           have sr4 := SR.unref good_Node (so3.rep gR) uu4
           rw [← HLL.out] at sr4
           have co := c_l03Own L D3 d3 w4 sr4 htl HL2.out
           rw [HLN.out] at co))
      refine co.mono ?_
      rintro e w5 ⟨D4, d4, bl4, rfl, o4, nd4, u5⟩
      have kr5 := kr4.up u5
      have gr5 := kr5.cell 0
      have fr5 := kr5.frozen 0
      have hw4 := uu4.size
      go_wp2_with fail
      have hk4 := kr4.lt
      have z4 := (o4.set good_Node (w.heap.size + 1) 0 [.slice D4 L.length d4] (by omega)).wide good_Node (lo' := w.heap.size) (by omega) (Nat.le_refl _)
      refine bodyPost_ret (v := .tuple #[.agg #[.slice D4 L.length d4], .int .i64 0]) (by simp [results, Tryz.results76, go_sem, gr5]) rfl ?_
      exact toR_eq HR rfl ⟨[.slice D4 L.length d4], bl4, rfl, mkOTree z4, nd4, (uu4.trans u5).setCell (by simp) _⟩

theorem c_l03Put (x : TTree) (v : Value) (s : ByteArray) (ys : List ByteArray) (B : Option Addr) (d : Nat) (val : ByteArray) (w : World) (h : AV shTree w v x) (k : SRW shS w B d ys) (hs : s.size ≤ maxLen) (hv : val.size ≤ maxLen) (hx : x.length ≤ 1000000) (hl : ∀ i (h : i < x.length), x[i].2.1.length ≤ 1048576) (hy : ys.length ≤ 1048576) :
    Calls Tryz.prog 76 #[v, .string s, .slice B ys.length d, .string val] w (ToR shTree (putR x (s, ys) val) (putC x (s, ys)) w) := by
  rcases Nat.eq_zero_or_pos x.length with h0 | hpos
  · obtain rfl := List.eq_nil_of_length_eq_zero h0
    obtain ⟨cs, rfl, h⟩ := h
    obtain ⟨A0, c0, rfl, b00⟩ := openTree h
    exact c_l03PutN A0 c0 b00.2.1 s ys B d val w k hs hv hy
  · exact c_l03PutP x v s ys B d val w h k hs hv hpos hx hl hy
end Go.Proofs.YtanjmolgpkffoaaGreatDoor
