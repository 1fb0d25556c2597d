/-
  DiskRead: what a sector reads as (under way).
-/
import Derived.Test.YtidfeipilleafaaHas
import Derived.Test.YtidfeipilleafaaMid
import Derived.RangeFuncNested
import Derived.RangeFuncBound
import Derived.RangeFuncCalls
import Derived.RangeFuncLeaves
import Derived.Shelf.Abstract
import Derived.Shelf.RegionOpen
import Derived.WalkKit
import Derived.OwnWalkIn
import Derived.TacticsInMore
import Derived.LoopNIn
import Derived.LoopIn
namespace Go.Proofs.Ytidfeipilleafaa
open Go.RowKit Go.Shelf
attribute [local go_sem] Oper.semAt_some
set_option linter.unusedVariables false
set_option linter.unusedSimpArgs false

def pAt (ps : List TPut) (j : Nat) : TPut := ps[j]?.getD (0, ⟨#[]⟩)
def readTo (ps : List TPut) (n : Int) (s : ByteArray) : Nat → ByteArray
  | 0 => s
  | k + 1 => if (pAt ps k).1 = n then (pAt ps k).2 else readTo ps n s k
def readS (d : TDisk) (n : Int) : ByteArray := readTo d.2.2 n (d.2.1[n.toNat]?.getD ⟨#[]⟩) d.2.2.length
theorem pAt_at {ps : List TPut} {j : Nat} (h : j < ps.length) : pAt ps j = ps[j] := by simp [pAt, h]
theorem readTo_skip (ps : List TPut) (n : Int) (s : ByteArray) (m : Nat) : ∀ k, m ≤ k → (∀ q, m ≤ q → q < k → (pAt ps q).1 ≠ n) → readTo ps n s k = readTo ps n s m
  | 0, h, _ => by obtain rfl : m = 0 := by omega
                  rfl
  | k + 1, h, hq => by
    rcases Nat.lt_or_ge k m with hk | hk
    · obtain rfl : m = k + 1 := by omega
      rfl
    · rw [readTo, if_neg (hq k hk (by omega)), readTo_skip ps n s m k hk (fun q h1 h2 => hq q h1 (by omega))]
/-- What has come behind k rounds of Backward. -/
def cameB (ps : List TPut) (k : Nat) : List (Nat × TPut) := (List.range k).map (fun j => (ps.length - 1 - j, pAt ps (ps.length - 1 - j)))
theorem cameB_succ (ps : List TPut) (k : Nat) : cameB ps (k + 1) = cameB ps k ++ [(ps.length - 1 - k, pAt ps (ps.length - 1 - k))] := by simp [cameB, List.range_succ]
theorem cameB_len (ps : List TPut) (k : Nat) : (cameB ps k).length = k := by simp [cameB]

set_option maxRecDepth 100000 in
set_option maxHeartbeats 4000000 in
/-- The closure of slices.Backward, for every loop body that keeps what lay below n₀. -/
theorem back1_in (F : Fence) (n : Nat) (h7 : F.fn 198) (hro : F.round = none) (hn : 1 ≤ n) (l Bs n₀ c : Nat) (A : Option Addr) (zs : List TPut) (hlen : zs.length ≤ 9223372036854775807) (J Jx : List (Nat × TPut) → World → Prop)
    (hY : ∀ pre x W, J pre W → pre.length < zs.length → YieldAt F (n - 1) Try.prog l #[.int .i64 (x.1 : Int), .agg #[.int .i64 x.2.1, .string x.2.2]] W fun e W' =>
      (e = .returned (.bool true) ∧ J (pre ++ [x]) W' ∧ Below n₀ W W') ∨ (e = .returned (.bool false) ∧ Jx (pre ++ [x]) W'))
    (W : World) (hBs0 : Bs < n₀) (hBs : W.cell? ⟨Bs, 0, none⟩ = some (.slice A zs.length c)) (hI : SR shPut W 0 n₀ A c zs) (h0 : J [] W) :
    CallsIn F n Try.prog 198 #[.func (.yield l) #[] #[], .pointer (some ⟨Bs, 0, none⟩)] W fun e W' => (∃ v, e = .returned v) ∧
      ((∃ ys, ys = cameB zs zs.length ∧ J ys W') ∨ (∃ pre, (∃ k, k ≤ zs.length ∧ pre = cameB zs k) ∧ Jx pre W')) := by
  refine callsIn_of_wp Try.func198 rfl h7 ?_ hro
  simp only [Try.ntmps198, List.size_toArray, List.length_cons, List.length_nil, Nat.reduceAdd, Nat.reduceSub, Array.replicate_succ, Array.replicate_zero, List.push_toArray, List.append_toArray, List.nil_append, List.cons_append]
  have hwl : IntKind.i64.wrap ((zs.length : Int) - 1) = (zs.length : Int) - 1 := IntWalk.i64_in _ (by omega)
  gi_wp2
  gi_loopw [3] (fun i wr => ∃ (j : Nat) (z : Int), j ≤ zs.length ∧ i = .int .i64 z ∧ z = (j : Int) - 1 ∧ J (cameB zs (zs.length - j)) wr ∧ Below n₀ W wr) (fun i _ => (intOf i + 1).toNat)
  case atStart => exact ⟨zs.length, _, Nat.le_refl _, rfl, rfl, by rw [Nat.sub_self]; exact h0, Below.refl _ _⟩
  case round =>
    obtain ⟨j, z, hj, rfl, hz, hJs, hnx⟩ := hrel
    cases j with
    | zero =>
      have hz1 : ¬ (0 : Int) ≤ z := by omega
      clear hz
      gi_wp2
      go_end0
      rw [Nat.sub_zero] at hJs
      first | exact ⟨⟨_, rfl⟩, .inl ⟨_, rfl, hJs⟩⟩ | exact ⟨⟨_, rfl⟩, .inl hJs⟩
    | succ m =>
      obtain rfl : z = (m : Int) := by omega
      clear hz
      obtain ⟨b, off, rfl, _, hb, hc0, hc1, _, _, _⟩ := atPut hI (show m < zs.length by omega)
      rw [← pAt_at (show m < zs.length by omega)] at hc0 hc1
      have hcb := (hnx.cell (p := ⟨Bs, 0, none⟩) hBs0).trans hBs
      have hx0 := (hnx.cell (p := ⟨b, off + m * 2, none⟩) hb).trans hc0
      have hx1 := (hnx.cell (p := ⟨b, off + m * 2 + 1, none⟩) hb).trans hc1
      have hm0 : (0 : Int) ≤ (m : Int) := by omega
      have hm1 : (m : Int) < (zs.length : Int) := by omega
      have hwm : IntKind.i64.wrap ((m : Int) - 1) = (m : Int) - 1 := IntWalk.i64_in _ (by omega)
      have he : cameB zs (zs.length - m) = cameB zs (zs.length - (m + 1)) ++ [(m, pAt zs m)] := by
        have e1 : zs.length - m = zs.length - (m + 1) + 1 := by omega
        have e2 : zs.length - 1 - (zs.length - (m + 1)) = m := by omega
        rw [e1, cameB_succ, e2]
      obtain ⟨fn, tmps, assign, body, hy, hR⟩ := hY _ (m, pAt zs m) wr hJs (by rw [cameB_len]; omega)
      dsimp only at hy
      gi_wp2
      refine hR.mono ?_
      rintro e W3 (⟨rfl, hJ3, hk3⟩ | ⟨rfl, hJx3⟩)
      · gi_wp2
        go_roundw
        case rel => exact ⟨m, _, by omega, rfl, by first | rfl | omega, by rw [he]; exact hJ3, hnx.trans hk3⟩
        case measure => simp [intOf]
      · gi_wp2
        refine bodyPost_ret (results_none rfl _ _ _) rfl ?_
        exact ⟨⟨_, rfl⟩, .inr ⟨_, ⟨zs.length - m, by omega, rfl⟩, by rw [he]; exact hJx3⟩⟩
set_option maxHeartbeats 4000000 in
theorem backward_in (F : Fence) (n : Nat) (h5 : F.fn 168) (hro : F.round = none) (a : Option Addr) (len cap : Nat) (w : World) :
    CallsIn F n Try.prog 168 #[.slice a len cap] w fun e w' => e = .returned (.func (.func 198) #[] #[.pointer (some ⟨w.heap.size, 0, none⟩)]) ∧ w' = w.alloc (.cells #[.slice a len cap] 44) := by
  refine callsIn_of_wp Try.func168 rfl h5 ?_ hro
  simp only [Try.ntmps168, List.size_toArray, List.length_cons, List.length_nil, Nat.reduceAdd, Nat.reduceSub, Array.replicate_succ, Array.replicate_zero, List.push_toArray, List.append_toArray, List.nil_append, List.cons_append]
  gi_wp2
  go_ret
  exact ⟨rfl, rfl⟩
theorem back_stops (F : Fence) (n : Nat) (h7 : F.fn 198) (hro : F.round = none) (hn : 1 ≤ n) (Bs n₀ c : Nat) (A : Option Addr) (zs : List TPut) (w : World) (hBs : Bs < n₀) (hn₀ : n₀ ≤ w.heap.size) (hc : w.cell? ⟨Bs, 0, none⟩ = some (.slice A zs.length c)) (hI : SR shPut w 0 n₀ A c zs) :
    SeqStopsK F n Try.prog 198 #[.pointer (some ⟨Bs, 0, none⟩)] (fun x : Nat × TPut => #[.int .i64 (x.1 : Int), .agg #[.int .i64 x.2.1, .string x.2.2]]) (Below n₀) (fun ys => ys = cameB zs zs.length) (fun pre => ∃ k, k ≤ zs.length ∧ pre = cameB zs k) zs.length w := fun l J Jx W hW _ _ hY h0 => by
  have hW' : Below n₀ w W := hW.mono hn₀
  exact back1_in F n h7 hro hn l Bs n₀ c A zs hI.len_le J Jx hY W hBs ((hW'.cell (p := ⟨Bs, 0, none⟩) hBs).trans hc) (hI.keep good_Put (fun b _ hb => hW'.block b hb)) h0
theorem mem_came {ps : List TPut} {q k : Nat} (hq : q < ps.length) (hk : ps.length - 1 - q < k) : (q, pAt ps q) ∈ cameB ps k := by
  simp only [cameB, List.mem_map, List.mem_range]
  refine ⟨ps.length - 1 - q, hk, ?_⟩
  have e : ps.length - 1 - (ps.length - 1 - q) = q := by omega
  rw [e]
theorem read_none {d : TDisk} {m : Nat} (hm : m < d.2.1.length) (h : ∀ p ∈ cameB d.2.2 d.2.2.length, p.2.1 ≠ (m : Int)) : readS d (m : Int) = d.2.1[m] := by
  unfold readS
  rw [readTo_skip _ _ _ 0 _ (Nat.zero_le _) (fun q _ hq => h _ (mem_came hq (by omega)))]
  simp [readTo, hm]
theorem read_some {d : TDisk} {m k : Nat} (hk : k + 1 ≤ d.2.2.length) (h : ∀ p ∈ cameB d.2.2 k, p.2.1 ≠ (m : Int)) (he : (pAt d.2.2 (d.2.2.length - 1 - k)).1 = (m : Int)) : readS d (m : Int) = (pAt d.2.2 (d.2.2.length - 1 - k)).2 := by
  unfold readS
  rw [readTo_skip _ _ _ (d.2.2.length - 1 - k + 1) _ (by omega) (fun q h1 hq => h _ (mem_came hq (by omega))), readTo, if_pos he]

set_option maxRecDepth 100000 in
set_option maxHeartbeats 4000000 in
theorem c_read (v : Value) (x : TDisk) (m : Nat) (w : World) (h : AV shDisk w v x) (hm : m < x.2.1.length) : Calls Try.prog 110 #[v, .int .i64 (m : Int)] w (RetV (.string (readS x (m : Int))) w) := by
  obtain ⟨cs, rfl, h⟩ := h
  obtain ⟨A1, c1, A2, c2, rfl, b0, b1, b2⟩ := openDisk h
  clear h
  refine (callsIn_wide (n := 6)).1 ?_
  refine callsIn_of_wp_marks Try.func110 rfl trivial ?_ rfl
  simp only [Try.ntmps110, List.size_toArray, List.length_cons, List.length_nil, Nat.reduceAdd, Nat.reduceSub, Array.replicate_succ, Array.replicate_zero, List.push_toArray, List.append_toArray, List.nil_append, List.cons_append]
  gi_wp2_with (first | (gi_at_call 168; refine (backward_in Fence.wide _ trivial rfl _ _ _ _).mono ?_; rintro e w' ⟨rfl, rfl⟩) | (refine ⟨trivial, ?_⟩; gi_at_call 168; refine (backward_in Fence.wide _ trivial rfl _ _ _ _).mono ?_; rintro e w' ⟨rfl, rfl⟩))
  have kA : Bk ((((w.alloc (.cells #[.int .i64 x.1, .slice A1 x.2.1.length c1, .slice A2 x.2.2.length c2] 46)).alloc (.cells #[.int .i64 (m : Int)] 2)).alloc (.cells #[.string ⟨#[]⟩] 9)).alloc (.cells #[.slice A2 x.2.2.length c2] 44)) w.heap.size 46 #[.int .i64 x.1, .slice A1 x.2.1.length c1, .slice A2 x.2.2.length c2] := ((((Bk.new w _ _).alloc (.cells #[.int .i64 (m : Int)] 2)).alloc (.cells #[.string ⟨#[]⟩] 9)).alloc (.cells #[.slice A2 x.2.2.length c2] 44))
  have kN : Bk ((((w.alloc (.cells #[.int .i64 x.1, .slice A1 x.2.1.length c1, .slice A2 x.2.2.length c2] 46)).alloc (.cells #[.int .i64 (m : Int)] 2)).alloc (.cells #[.string ⟨#[]⟩] 9)).alloc (.cells #[.slice A2 x.2.2.length c2] 44)) (w.heap.size + 1) 2 #[.int .i64 (m : Int)] := by simpa using ((Bk.new (w.alloc (.cells #[.int .i64 x.1, .slice A1 x.2.1.length c1, .slice A2 x.2.2.length c2] 46)) 2 #[.int .i64 (m : Int)]).alloc (.cells #[.string ⟨#[]⟩] 9)).alloc (.cells #[.slice A2 x.2.2.length c2] 44)
  have kR : Bk ((((w.alloc (.cells #[.int .i64 x.1, .slice A1 x.2.1.length c1, .slice A2 x.2.2.length c2] 46)).alloc (.cells #[.int .i64 (m : Int)] 2)).alloc (.cells #[.string ⟨#[]⟩] 9)).alloc (.cells #[.slice A2 x.2.2.length c2] 44)) (w.heap.size + 1 + 1) 9 #[.string ⟨#[]⟩] := by simpa using (Bk.new ((w.alloc (.cells #[.int .i64 x.1, .slice A1 x.2.1.length c1, .slice A2 x.2.2.length c2] 46)).alloc (.cells #[.int .i64 (m : Int)] 2)) 9 #[.string ⟨#[]⟩]).alloc (.cells #[.slice A2 x.2.2.length c2] 44)
  have kS : Bk ((((w.alloc (.cells #[.int .i64 x.1, .slice A1 x.2.1.length c1, .slice A2 x.2.2.length c2] 46)).alloc (.cells #[.int .i64 (m : Int)] 2)).alloc (.cells #[.string ⟨#[]⟩] 9)).alloc (.cells #[.slice A2 x.2.2.length c2] 44)) (w.heap.size + 1 + 1 + 1) 44 #[.slice A2 x.2.2.length c2] := by simpa using Bk.new (((w.alloc (.cells #[.int .i64 x.1, .slice A1 x.2.1.length c1, .slice A2 x.2.2.length c2] 46)).alloc (.cells #[.int .i64 (m : Int)] 2)).alloc (.cells #[.string ⟨#[]⟩] 9)) 44 #[.slice A2 x.2.2.length c2]
  have uu : Up w ((((w.alloc (.cells #[.int .i64 x.1, .slice A1 x.2.1.length c1, .slice A2 x.2.2.length c2] 46)).alloc (.cells #[.int .i64 (m : Int)] 2)).alloc (.cells #[.string ⟨#[]⟩] 9)).alloc (.cells #[.slice A2 x.2.2.length c2] 44)) := ((((Up.refl w).alloc _).alloc _).alloc _).alloc _
  have hsz : ((((w.alloc (.cells #[.int .i64 x.1, .slice A1 x.2.1.length c1, .slice A2 x.2.2.length c2] 46)).alloc (.cells #[.int .i64 (m : Int)] 2)).alloc (.cells #[.string ⟨#[]⟩] 9)).alloc (.cells #[.slice A2 x.2.2.length c2] 44)).heap.size = w.heap.size + 1 + 1 + 1 + 1 := by simp
  obtain ⟨W0, hW0⟩ : ∃ W0, ((((w.alloc (.cells #[.int .i64 x.1, .slice A1 x.2.1.length c1, .slice A2 x.2.2.length c2] 46)).alloc (.cells #[.int .i64 (m : Int)] 2)).alloc (.cells #[.string ⟨#[]⟩] 9)).alloc (.cells #[.slice A2 x.2.2.length c2] 44)) = W0 := ⟨_, rfl⟩
  rw [hW0] at kA kN kR kS uu hsz ⊢
  clear hW0
  have hS : W0.cell? ⟨w.heap.size + 1 + 1 + 1, 0, none⟩ = some (.slice A2 x.2.2.length c2) := kS.cell 0
  refine wpIn_rangeFunc_ownH (F := Fence.wide) rfl (by omega) (gf := 198) (lb := #[.pointer (some ⟨w.heap.size + 1 + 1 + 1, 0, none⟩)]) rfl trivial (enters_of Try.func198 (by kernel_rfl) rfl)
    (back_stops Fence.wide (6 - 1) trivial rfl (by omega) (w.heap.size + 1 + 1 + 1) W0.heap.size c2 A2 x.2.2 W0 (by omega) (Nat.le_refl _) hS (b2.up good_Put uu)) belowK_t (belowK_b (Nat.le_refl _)) (Below.refl _ _) (fun _ => rfl)
    (fun pre W => (∀ p ∈ pre, p.2.1 ≠ (m : Int)) ∧ Below W0.heap.size W0 W)
    (fun c pre W => (c = .ret ∧ ∃ ini last, pre = ini ++ [last] ∧ (∀ p ∈ ini, p.2.1 ≠ (m : Int)) ∧ last.2.1 = (m : Int) ∧ W.cell? ⟨w.heap.size + 1 + 1, 0, none⟩ = some (.string last.2.2)) ∧ Below w.heap.size w W)
    (OwnFrom.and (Own.from (fun s A B row hs hg hr => hs) _) (ownFrom_below (Nat.le_refl _) (Nat.le_refl _)))
    (fun c => OwnFrom.and (Own.from (fun s A B row hs hg hr => by obtain ⟨hc, ini, last, e1, e2, e3, e4⟩ := hs; exact ⟨hc, ini, last, e1, e2, e3, cell_kept e4 hg hr⟩) _) (ownFrom_below (Nat.le_refl _) (by omega)))
    ⟨by simp, Below.refl _ _⟩
    (fun y a' W => ∃ Bx, W.cell? ⟨Bx, 0, none⟩ = some (.int .i64 y.2.1) ∧ W.cell? ⟨Bx, 1, none⟩ = some (.string y.2.2) ∧ a' = { tmps := #[.agg #[.int .i64 x.1, .slice A1 x.2.1.length c1, .slice A2 x.2.2.length c2], .int .i64 (m : Int), .pointer (some ⟨w.heap.size, 0, none⟩), .pointer (some ⟨w.heap.size + 1, 0, none⟩), .pointer (some ⟨w.heap.size + 1 + 1, 0, none⟩), undef, .pointer (some ⟨Bx, 0, none⟩), .pointer (some ⟨w.heap.size, 2, none⟩), .slice A2 x.2.2.length c2, .func (.func 198) #[] #[.pointer (some ⟨w.heap.size + 1 + 1 + 1, 0, none⟩)], .int .i64 (y.1 : Int), .agg #[.int .i64 y.2.1, .string y.2.2], undef, undef, undef, undef, undef, undef, undef, undef, undef, undef, undef], defers := [] })
    (fun y a' _ X Y row hs hg hr => by obtain ⟨Bx, h1, h2, h3⟩ := hs; exact ⟨Bx, cell_kept h1 hg (fun r e => (hr r e).2), cell_kept h2 hg (fun r e => (hr r e).2), h3⟩)
    ?assign ?body ?done ?stop
  case assign =>
    rintro l pre y W K ⟨hp, hB⟩ hK
    have kP := Bk.new W 142 #[.int .i64 y.2.1, .string y.2.2]
    gi_wp2
    exact hK _ _ ((KeepsOthers.alloc _ _).from _) ((Below.refl _ W).alloc hB.size _) ⟨hp, hB.alloc hB.size _⟩ ⟨W.heap.size, kP.cell 0, kP.cell 1, rfl⟩
  case body =>
    rintro l pre y a' W hl ⟨r, hr⟩ ⟨hp, hB⟩ ⟨Bx, hx0, hx1, rfl⟩ hlt
    have kR1 := kR.up hB
    have cm : W.cell? ⟨w.heap.size + 1, 0, none⟩ = some (.int .i64 (m : Int)) := (kN.up hB).cell 0
    have cr : W.cell? ⟨w.heap.size + 1 + 1, 0, none⟩ = some (.string ⟨#[]⟩) := kR1.cell 0
    have fr : W.frozen? ⟨w.heap.size + 1 + 1, 0, none⟩ = false := kR1.frozen 0
    have hBw : Below w.heap.size w W := uu.trans hB
    by_cases hq : y.2.1 = (m : Int)
    · gi_wp2
      exact ⟨(KeepsOthers.setCell _ _ _).from _, ⟨rfl, pre, y, rfl, hp, hq, World.cell?_setCell_same' _ _ _ (by rw [cr]; rfl)⟩, hBw.setCell (p := ⟨w.heap.size + 1 + 1, 0, none⟩) (by dsimp only; omega) _⟩
    · gi_wp2
      exact ⟨KeepsFrom.refl _ _, Below.refl _ _, fun p hp' => (List.mem_append.1 hp').elim (hp p) (fun e => by simp at e; subst e; exact hq), hB⟩
  case done =>
    rintro D ys W hD rfl ⟨hne, hB⟩ hK
    have kR1 := kR.up hB
    have hBw : Below w.heap.size w W := uu.trans hB
    obtain ⟨g, off, rfl, _, _, hcs, _⟩ := (b1.up good_S hBw).at_S hm
    have cm : W.cell? ⟨w.heap.size + 1, 0, none⟩ = some (.int .i64 (m : Int)) := (kN.up hB).cell 0
    have ca : W.cell? ⟨w.heap.size, 1, none⟩ = some (.slice (some ⟨g, off, none⟩) x.2.1.length c1) := (kA.up hB).cell 1
    have cr : W.cell? ⟨w.heap.size + 1 + 1, 0, none⟩ = some (.string ⟨#[]⟩) := kR1.cell 0
    have fr : W.frozen? ⟨w.heap.size + 1 + 1, 0, none⟩ = false := kR1.frozen 0
    have hm0 : (0 : Int) ≤ (m : Int) := by omega
    have hm1 : (m : Int) < (x.2.1.length : Int) := by omega
    have HV := Lib.hid (read_none hm hne)
    gi_wp2
    have hK' := (KeepsOthers.setCell W ⟨w.heap.size + 1 + 1, 0, none⟩ (.string x.2.1[m])).same D _ hK rfl
    refine ⟨by simp, .inl ⟨_, _, rfl, run_takeDeferred hK', ?_⟩⟩
    have hc5 := cell_kept (World.cell?_setCell_same' W ⟨w.heap.size + 1 + 1, 0, none⟩ (.string x.2.1[m]) (by rw [cr]; rfl)) (grownBy_putObj' _ D (.deferred none)) (fun r e => by cases e; exact ⟨_, hK', rfl⟩)
    refine ⟨.string x.2.1[m], ?_, by rw [HV.out], (hBw.setCell (p := ⟨w.heap.size + 1 + 1, 0, none⟩) (by dsimp only; omega) _).trans (belowK_b (w := w) (Nat.le_refl _) _ D _ _ (by omega) hK' rfl rfl)⟩
    simp [results, Try.results110, go_sem, hc5]
  case stop =>
    rintro D c pre W hD ⟨k, hk, rfl⟩ ⟨⟨rfl, ini, last, e1, e2, e3, hcr⟩, hB⟩ hK
    gi_wp2
    refine ⟨by simp, .inl ⟨_, _, rfl, run_takeDeferred hK, ?_⟩⟩
    have hc5 := cell_kept hcr (grownBy_putObj' _ D (.deferred none)) (fun r e => by cases e; exact ⟨_, hK, rfl⟩)
    obtain ⟨k', rfl⟩ : ∃ k', k = k' + 1 := by
      cases k with
      | zero => simp [cameB] at e1
      | succ k' => exact ⟨k', rfl⟩
    rw [cameB_succ] at e1
    obtain ⟨rfl, e5⟩ := List.append_inj' e1 rfl
    obtain rfl : (x.2.2.length - 1 - k', pAt x.2.2 (x.2.2.length - 1 - k')) = last := by simpa using e5
    have HV := Lib.hid (read_some hk e2 e3)
    refine ⟨.string (pAt x.2.2 (x.2.2.length - 1 - k')).2, ?_, by rw [HV.out], hB.trans (belowK_b (w := w) (Nat.le_refl _) W D _ _ (by omega) hK rfl rfl)⟩
    simp [results, Try.results110, go_sem, hc5]
end Go.Proofs.Ytidfeipilleafaa
