/-
  The notes of dirty pages at a pointer to a cache: the reference's and the program's.
-/
import Derived.Test.YtfehlcbaalbajaaGreatNs
import Derived.Test.YtfehlcbaalbajaaGreatNr
import Derived.Test.YtfehlcbaalbajaaGreatEt
import Derived.Test.YtfehlcbaalbajaaGreatShelf
namespace Go.Proofs.YtfehlcbaalbajaaGreat
open Go.RowKit
set_option linter.unusedVariables false
set_option linter.unusedSimpArgs false

def noteC (x : TCache) (ds : List Int) : TCache := (x.1, x.2.1, x.2.2.1, x.2.2.2.1, ds)
theorem note_asm {W : World} {lo hi : Nat} {x : TCache} {A1 A2 A6 A10 A11 D : Option Addr} {c1 c2 c6 c10 c11 d : Nat} {bl1 bl2 bl6 bl10 bl11 bl12 : List Nat} {ds : List Int} (b0 : I64 x.1.1) (s1 : SO shS W lo hi A1 c1 x.1.2.1 bl1) (s2 : SO shPut W lo hi A2 c2 x.1.2.2 bl2)
    (b3 : I64 x.2.1.1) (b4 : I64 x.2.1.2.1) (b5 : I64 x.2.1.2.2.1) (s6 : SO shSeat W lo hi A6 c6 x.2.1.2.2.2 bl6) (b7 : I64 x.2.2.1.1) (b8 : I64 x.2.2.1.2.1) (b9 : I64 x.2.2.1.2.2.1) (s10 : SO shSeat W lo hi A10 c10 x.2.2.1.2.2.2 bl10) (s11 : SO shSeat W lo hi A11 c11 x.2.2.2.1 bl11) (s12 : SO shI W lo hi D d ds bl12) :
    shCache.own W lo hi [.int .i64 x.1.1, .slice A1 x.1.2.1.length c1, .slice A2 x.1.2.2.length c2, .int .i64 x.2.1.1, .int .i64 x.2.1.2.1, .int .i64 x.2.1.2.2.1, .slice A6 x.2.1.2.2.2.length c6, .int .i64 x.2.2.1.1, .int .i64 x.2.2.1.2.1, .int .i64 x.2.2.1.2.2.1, .slice A10 x.2.2.1.2.2.2.length c10, .slice A11 x.2.2.2.1.length c11, .slice D ds.length d] (noteC x ds) (bl1 ++ bl2 ++ bl6 ++ bl10 ++ bl11 ++ bl12) := by
  have h := asmCache (asmDisk b0 s1 s2) (asmTop b3 b4 b5 s6) (asmTop b7 b8 b9 s10) s11 s12
  simpa [noteC] using h
theorem nd_last {a b : List Nat} (h : (a ++ b).Nodup) : a.Nodup ∧ b.Nodup ∧ ∀ y ∈ b, y ∉ a := by
  obtain ⟨h1, h2, h3⟩ := List.nodup_append.1 h
  exact ⟨h1, h2, fun y hy ha => h3 y ha y hy rfl⟩
theorem nd_put {a b : List Nat} (h1 : a.Nodup) (h2 : b.Nodup) (h3 : ∀ y ∈ b, y ∉ a) : (a ++ b).Nodup := List.nodup_append.2 ⟨h1, h2, fun x hx y hy e => h3 y hy (e ▸ hx)⟩
theorem SO.onlyB {α : Type} {s : Sh α} (hg : Good s) {w w' : World} {lo B : Nat} {A : Option Addr} {c : Nat} {xs : List α} {bl : List Nat} (h : SO s w lo w.heap.size A c xs bl) (k : Only [B] w w') (hn : B ∉ bl) : SO s w' lo w'.heap.size A c xs bl :=
  (h.keep hg (fun b hb => k.block b (h.in_ hg b hb).2 (fun e => hn (by rw [List.mem_singleton.1 e] at hb; exact hb)))).wide hg (Nat.le_refl _) k.size
theorem Only.but1 {w a b : World} {B : Nat} (h : Only [B] w a) (k : But B a b) : Only [B] w b := h.but k (by simp)
theorem compact_mem (l : List Int) (x : Int) (h : x ∈ Lib.compact l) : x ∈ l := by
  unfold Lib.compact Lib.compactUpTo at h
  obtain ⟨j, hj, rfl⟩ := List.mem_map.1 h
  have hj' : j < l.length := List.mem_range.1 (List.mem_filter.1 hj).1
  rw [getElem!_pos _ j (by simpa using hj')]
  simp
/-- What the note leaves. -/
def NoteP (w0 : World) (B lo : Nat) (y : TCache) (e : Ending) (w' : World) : Prop :=
  e = .returned (.tuple #[]) ∧ Up w0 w' ∧ ∃ cs bl, Bk w' B 40 cs.toArray ∧ shCache.own w' lo w'.heap.size cs y bl ∧ bl.Nodup

set_option maxRecDepth 100000 in
set_option maxHeartbeats 8000000 in
theorem c_l18Note (B lo : Nat) (cs : List Value) (x : TCache) (bl : List Nat) (w0 w : World) (hB : Bk w B 40 cs.toArray) (ho : shCache.own w lo w.heap.size cs x bl) (nd : bl.Nodup) (hBn : B ∉ bl) (hlo : w0.heap.size ≤ lo) (hlow : lo ≤ w.heap.size) (hlB : w0.heap.size ≤ B) (u0 : Up w0 w) (ids : List Int) (A : Option Addr) (c : Nat) (hid : SRW shI w0 A c ids) (hx : x.2.2.2.2.length ≤ 1048576) (hl : ids.length ≤ 64) : Calls Tryz.prog 21 #[.pointer (some ⟨B, 0, none⟩), .slice A ids.length c] w (NoteP w0 B lo (noteC x (putsI x.2.2.2.2 ids))) := by
  obtain ⟨A1, c1, bl1, A2, c2, bl2, A6, c6, bl6, A10, c10, bl10, A11, c11, bl11, A12, c12, bl12, rfl, rfl, b0, s1, s2, b3, b4, b5, s6, b7, b8, b9, s10, s11, s12⟩ := openOCache ho
  have hB' : Bk w B 40 #[.int .i64 x.1.1, .slice A1 x.1.2.1.length c1, .slice A2 x.1.2.2.length c2, .int .i64 x.2.1.1, .int .i64 x.2.1.2.1, .int .i64 x.2.1.2.2.1, .slice A6 x.2.1.2.2.2.length c6, .int .i64 x.2.2.1.1, .int .i64 x.2.2.1.2.1, .int .i64 x.2.2.1.2.2.1, .slice A10 x.2.2.1.2.2.2.length c10, .slice A11 x.2.2.2.1.length c11, .slice A12 x.2.2.2.2.length c12] := hB
  replace hB := hB'
  clear hB' ho
  obtain ⟨nda, ndb, hab⟩ := nd_last nd
  clear nd
  simp only [List.mem_append, not_or] at hBn
  obtain ⟨⟨⟨⟨⟨n1, n2⟩, n6⟩, n10⟩, n11⟩, n12⟩ := hBn
  have lt1 := s1.in_ good_S
  have lt2 := s2.in_ good_Put
  have lt6 := s6.in_ good_Seat
  have lt10 := s10.in_ good_Seat
  have lt11 := s11.in_ good_Seat
  have hlt : ∀ y ∈ bl1 ++ bl2 ++ bl6 ++ bl10 ++ bl11, y < w.heap.size := fun y hy => by
    simp only [List.mem_append] at hy
    rcases hy with (((hy | hy) | hy) | hy) | hy
    · exact (lt1 y hy).2
    · exact (lt2 y hy).2
    · exact (lt6 y hy).2
    · exact (lt10 y hy).2
    · exact (lt11 y hy).2
  clear lt1 lt2 lt6 lt10 lt11
  go_enter Tryz.func21, Tryz.ntmps21
  go_wp2_with fail
  go_loopw [4] (fun i wr => ∃ (k : Nat) (D : Option Addr) (d : Nat) (bl : List Nat), k ≤ ids.length ∧ i = .int .i64 k ∧ Bk wr B 40 #[.int .i64 x.1.1, .slice A1 x.1.2.1.length c1, .slice A2 x.1.2.2.length c2, .int .i64 x.2.1.1, .int .i64 x.2.1.2.1, .int .i64 x.2.1.2.2.1, .slice A6 x.2.1.2.2.2.length c6, .int .i64 x.2.2.1.1, .int .i64 x.2.2.1.2.1, .int .i64 x.2.2.1.2.2.1, .slice A10 x.2.2.1.2.2.2.length c10, .slice A11 x.2.2.2.1.length c11, .slice D (putsI x.2.2.2.2 (ids.take k)).length d] ∧ SO shI wr lo wr.heap.size D d (putsI x.2.2.2.2 (ids.take k)) bl ∧ bl.Nodup ∧ B ∉ bl ∧ (∀ y ∈ bl, y ∉ bl1 ++ bl2 ++ bl6 ++ bl10 ++ bl11) ∧ lo ≤ wr.heap.size ∧ Only [B] w wr) (fun i _ => ids.length - (intOf i).toNat)
  case atStart => exact ⟨0, A12, c12, bl12, Nat.zero_le _, rfl, hB, s12, ndb, n12, hab, hlow, Only.refl _ _⟩
  case round =>
    obtain ⟨k, D, d, bl, hk, rfl, kB, so, ndk, nk, hak, hlr, on⟩ := hrel
    have uw := u0.only on (fun y hy => by rw [List.mem_singleton.1 hy]; exact hlB)
    by_cases hlt2 : k < ids.length
    · obtain ⟨g, off, rfl, hg1, hg2, hc, he1, he2⟩ := (hid.up good_I uw).at_I hlt2
      have hts : putsI x.2.2.2.2 (ids.take (k + 1)) = putI (putsI x.2.2.2.2 (ids.take k)) ids[k] := by
        unfold putsI
        rw [List.take_succ_eq_append_getElem hlt2, List.foldl_append]
        rfl
      have hln := putsI_len (ids.take k) x.2.2.2.2
      rw [List.length_take] at hln
      have HT := Lib.hid hts
      obtain ⟨z, hz⟩ : ∃ z, z = ids[k] := ⟨_, rfl⟩
      rw [← hz] at hc he1 he2 HT
      have gB : wr.cell? ⟨B, 12, none⟩ = some (.slice D (putsI x.2.2.2.2 (ids.take k)).length d) := kB.cell 12
      have hln2 : (putsI x.2.2.2.2 (ids.take k)).length ≤ 2097152 := by omega
      generalize putsI x.2.2.2.2 (ids.take k) = Y at *
      clear hts hz hln
      go_wp2_with fail
      go_region_with (go_at_call 51; refine (c_l00Put Y z D d _ (SR.of_own good_I (so.up good_I (Up.refl _).drew)) ⟨he1, he2⟩ hln2).mono ?_; rintro e w1 ⟨D1, d1, bl1', rfl, so1, nd1, u1⟩; have kB1 := (kB.drew).up u1; have gB1 : w1.cell? ⟨B, 12, none⟩ = some (.slice D Y.length d) := kB1.cell 12; have fB1 := kB1.frozen 12)
      all_goals
        go_wp2_with fail
        go_roundw
        case rel =>
          have i1 := so1.in_ good_I
          have zd : wr.drew.heap.size = wr.heap.size := rfl
          have zw := on.size
          have zB := kB.lt
          have bt := But.set w1 B 12 (.slice D1 (putI Y z).length d1)
          have nB : B ∉ bl1' := fun hb => by have := (i1 B hb).1; omega
          refine ⟨k + 1, D1, d1, bl1', by omega, by go_num, ?_, ?_, nd1, nB, fun y hy ha => ?_, by have := u1.size; have := bt.size; omega, ((on.up ((Up.refl wr).drew)).up u1).but1 bt⟩
          · rw [HT.out]; exact kB1.set 12 _
          · rw [HT.out]; exact (so1.butN good_I bt nB).wide good_I (by omega) (Nat.le_refl _)
          · have h1 := (i1 y hy).1
            have h2 := hlt y ha
            omega
        case measure => simp [intOf]; omega
    · have ht : ids.take k = ids := List.take_of_length_le (by omega)
      rw [ht] at kB so
      go_wp2_with fail
      refine bodyPost_end (v := .tuple #[]) (by simp [results, Tryz.results21, go_sem]) (by rfl) ?_
      exact ⟨rfl, uw, _, _, kB, note_asm b0 (s1.onlyB good_S on n1) (s2.onlyB good_Put on n2) b3 b4 b5 (s6.onlyB good_Seat on n6) b7 b8 b9 (s10.onlyB good_Seat on n10) (s11.onlyB good_Seat on n11) so, nd_put nda ndk hak⟩

theorem c_SortI (xs : List Int) (n : Nat) (hn : n = xs.length) (A : Option Addr) (c lo : Nat) (bl : List Nat) (w : World) (h : SO shI w lo w.heap.size A c xs bl) (hl : xs.length ≤ 4194304) : Calls Tryz.prog 72 #[.slice A n c] w fun e w' => e = .returned (.tuple #[]) ∧ SO shI w' lo w'.heap.size A c (xs.mergeSort fun x y => decide (x ≤ y)) bl ∧ Only bl w w' := by
  subst hn
  rcases Nat.eq_zero_or_pos xs.length with h0 | hp
  · obtain rfl := List.eq_nil_of_length_eq_zero h0
    refine (Tryz.slices_Sort_int_none A c w).mono ?_
    rintro e w' ⟨rfl, rfl⟩
    exact ⟨rfl, by simpa using h, Only.refl _ _⟩
  · obtain ⟨g, off, C, tid, hA, _, _, _, _, _, _, hi⟩ := h.I_open hp
    obtain ⟨hH, hg⟩ := so_holds h hp hA
    subst hA
    refine (Tryz.slices_Sort_int g off c xs w hH hg (by omega)).mono ?_
    rintro e w' ⟨rfl, n, os, rfl⟩
    obtain ⟨h1, h2⟩ := so_putRow h hp rfl (xs.mergeSort fun x y => decide (x ≤ y)) (xs.mergeSort fun x y => decide (x ≤ y)) [] (by simp) (by simp) (fun y hy => hi y ((List.mergeSort_perm _ _).mem_iff.1 hy)) n os
    exact ⟨rfl, h1, h2⟩
theorem c_CompactI (xs : List Int) (n : Nat) (hn : n = xs.length) (A : Option Addr) (c lo : Nat) (bl : List Nat) (w : World) (h : SO shI w lo w.heap.size A c xs bl) (hl : xs.length ≤ 4194304) : Calls Tryz.prog 73 #[.slice A n c] w fun e w' => e = .returned (.slice A (Lib.compact xs).length c) ∧ SO shI w' lo w'.heap.size A c (Lib.compact xs) bl ∧ Only bl w w' := by
  subst hn
  rcases Nat.eq_zero_or_pos xs.length with h0 | hp
  · obtain rfl := List.eq_nil_of_length_eq_zero h0
    refine (Tryz.slices_Compact_int_empty A c w).mono ?_
    rintro e w' ⟨rfl, rfl⟩
    exact ⟨rfl, h, Only.refl _ _⟩
  · obtain ⟨g, off, C, tid, hA, _, _, _, _, _, _, hi⟩ := h.I_open hp
    obtain ⟨hH, hg⟩ := so_holds h hp hA
    subst hA
    have hcl := compact_len xs
    refine (Tryz.slices_Compact_int g off c xs w hH (by omega) h.1).mono ?_
    rintro e w' ⟨rfl, n, rfl⟩
    obtain ⟨h1, h2⟩ := so_putRow h hp rfl _ (Lib.compact xs) (List.replicate (xs.length - (Lib.compact xs).length) 0) rfl (by simp; omega) (fun y hy => hi y (compact_mem xs y hy)) n #[]
    rw [Sort.grow_empty] at h1 h2
    exact ⟨rfl, h1, h2⟩
theorem SO.onlyL {α : Type} {s : Sh α} (hg : Good s) {w w' : World} {lo : Nat} {A : Option Addr} {c : Nat} {xs : List α} {bl L : List Nat} (h : SO s w lo w.heap.size A c xs bl) (k : Only L w w') (hn : ∀ b ∈ bl, b ∉ L) : SO s w' lo w'.heap.size A c xs bl :=
  (h.keep hg (fun b hb => k.block b (h.in_ hg b hb).2 (hn b hb))).wide hg (Nat.le_refl _) k.size
set_option maxRecDepth 100000 in
set_option maxHeartbeats 8000000 in
theorem c_note (B lo : Nat) (cs : List Value) (x : TCache) (bl : List Nat) (w0 w : World) (hB : Bk w B 40 cs.toArray) (ho : shCache.own w lo w.heap.size cs x bl) (nd : bl.Nodup) (hBn : B ∉ bl) (hlo : w0.heap.size ≤ lo) (hlow : lo ≤ w.heap.size) (hlB : w0.heap.size ≤ B) (u0 : Up w0 w) (ids : List Int) (A : Option Addr) (c : Nat) (hid : SRW shI w0 A c ids) (hx : x.2.2.2.2.length ≤ 1048576) (hl : ids.length ≤ 64) (hs : x.2.2.2.2.Pairwise (· < ·)) : Calls Tryz.prog 28 #[.pointer (some ⟨B, 0, none⟩), .slice A ids.length c] w (NoteP w0 B lo (noteC x (putsI x.2.2.2.2 ids))) := by
  obtain ⟨A1, c1, bl1, A2, c2, bl2, A6, c6, bl6, A10, c10, bl10, A11, c11, bl11, A12, c12, bl12, rfl, rfl, b0, s1, s2, b3, b4, b5, s6, b7, b8, b9, s10, s11, s12⟩ := openOCache ho
  have hB' : Bk w B 40 #[.int .i64 x.1.1, .slice A1 x.1.2.1.length c1, .slice A2 x.1.2.2.length c2, .int .i64 x.2.1.1, .int .i64 x.2.1.2.1, .int .i64 x.2.1.2.2.1, .slice A6 x.2.1.2.2.2.length c6, .int .i64 x.2.2.1.1, .int .i64 x.2.2.1.2.1, .int .i64 x.2.2.1.2.2.1, .slice A10 x.2.2.1.2.2.2.length c10, .slice A11 x.2.2.2.1.length c11, .slice A12 x.2.2.2.2.length c12] := hB
  replace hB := hB'
  clear hB' ho
  obtain ⟨nda, ndb, hab⟩ := nd_last nd
  clear nd
  simp only [List.mem_append, not_or] at hBn
  obtain ⟨⟨⟨⟨⟨n1, n2⟩, n6⟩, n10⟩, n11⟩, n12⟩ := hBn
  have lt1 := s1.in_ good_S
  have lt2 := s2.in_ good_Put
  have lt6 := s6.in_ good_Seat
  have lt10 := s10.in_ good_Seat
  have lt11 := s11.in_ good_Seat
  have hlt : ∀ y ∈ bl1 ++ bl2 ++ bl6 ++ bl10 ++ bl11, y < w.heap.size := fun y hy => by
    simp only [List.mem_append] at hy
    rcases hy with (((hy | hy) | hy) | hy) | hy
    · exact (lt1 y hy).2
    · exact (lt2 y hy).2
    · exact (lt6 y hy).2
    · exact (lt10 y hy).2
    · exact (lt11 y hy).2
  clear lt1 lt2 lt6 lt10 lt11
  obtain ⟨i0, hi0, hz0, hz1, hz2⟩ := info_parts cinfo_I
  have gB : w.cell? ⟨B, 12, none⟩ = some (.slice A12 x.2.2.2.2.length c12) := hB.cell 12
  have zB := hB.lt
  obtain ⟨news, hsrc, hrow⟩ := src_flat (lo := lo) good_I flat_I (P := Tryz.prog) (W := w) (n := i0.size) Tryz.underlying29 hz1 (hid.up good_I u0)
  have hx1 : (x.2.2.2.2.length + ids.length) * i0.bytes ≤ 140737488355328 := by rw [hz2]; omega
  have hx2 : x.2.2.2.2.length + ids.length ≤ maxLen := by unfold maxLen; omega
  have NE := Lib.hid (note_eq x.2.2.2.2 ids hs)
  have i12 := s12.in_ good_I
  clear hs
  go_enter Tryz.func28, Tryz.ntmps28
  go_wp2_with (first
    | (at_builtin
       refine wpList_app good_I rfl _ _ _ _ 2 rfl i0 _ Tryz.underlying29 hi0 hz0 hz1 (by rfl) (lo := lo) (xs := x.2.2.2.2) (ys := ids) (bl := bl12) (bs := List.replicate ids.length []) (news := news) rfl rfl s12 (by rw [flat_nil, List.append_nil]; exact ndb) hsrc hrow hlow hx1 hx2 ?_
       intro D1 d1 bl1' w1 hap
       obtain ⟨so1, nd1, mem1, on1⟩ := hap
       have kB1 := hB.only on1 n12)
    | (refine wpList_store1_bk (.slice D1 (x.2.2.2.2.length + ids.length) d1) kB1 rfl rfl (by kernel_rfl) rfl rfl (Nat.le_of_ble_eq_true rfl) ?_; intro W1 bt kB2; have gB2 : W1.cell? ⟨B, 12, none⟩ = some (.slice D1 (x.2.2.2.2.length + ids.length) d1) := kB2.cell 12))
  have nB1 : B ∉ bl1' := fun hb => by
    rcases mem1 B hb with h | h
    · rw [flat_nil, List.append_nil] at h; exact n12 h
    · omega
  have so2 : SO shI W1 lo W1.heap.size D1 d1 (x.2.2.2.2 ++ ids) bl1' := so1.butN good_I bt nB1
  refine (c_SortI (x.2.2.2.2 ++ ids) _ (by simp) D1 d1 lo bl1' W1 so2 (by simp; omega)).mono ?_
  rintro e w2 ⟨rfl, so3, on3⟩
  have kB3 := kB2.only on3 nB1
  have gB3 : w2.cell? ⟨B, 12, none⟩ = some (.slice D1 (x.2.2.2.2.length + ids.length) d1) := kB3.cell 12
  clear gB2
  go_wp2_with fail
  refine (c_CompactI _ _ (by simp) D1 d1 lo bl1' w2 so3 (by simp; omega)).mono ?_
  rintro e w3 ⟨rfl, so4, on4⟩
  rw [NE.out] at so4 ⊢
  have kB4 := kB3.only on4 nB1
  clear gB3
  go_wp2_with (refine wpList_store1_bk (.slice D1 (putsI x.2.2.2.2 ids).length d1) kB4 rfl rfl (by kernel_rfl) rfl rfl (Nat.le_of_ble_eq_true rfl) ?_; intro W4 bt4 kB5)
  refine bodyPost_end (v := .tuple #[]) (by simp [results, Tryz.results28, go_sem]) (by rfl) ?_
  have so5 := so4.butN good_I bt4 nB1
  have onT : Only (B :: (bl12 ++ bl1')) w W4 :=
    (((on1.mono (fun y hy => by simp [hy])).but bt (by simp)).trans ((on3.mono (fun y hy => by simp [hy])).trans (on4.mono (fun y hy => by simp [hy])))).but bt4 (by simp)
  have far : ∀ y ∈ bl1 ++ bl2 ++ bl6 ++ bl10 ++ bl11, y ≠ B → y ∉ B :: (bl12 ++ bl1') := fun y hy hyB hm => by
    rcases List.mem_cons.1 hm with h | h
    · exact hyB h
    · rcases List.mem_append.1 h with h | h
      · exact hab y h hy
      · rcases mem1 y h with h | h
        · rw [flat_nil, List.append_nil] at h; exact hab y h hy
        · have := hlt y hy; omega
  have nab : ∀ y ∈ bl1', y ∉ bl1 ++ bl2 ++ bl6 ++ bl10 ++ bl11 := fun y hy ha => by
    rcases mem1 y hy with h | h
    · rw [flat_nil, List.append_nil] at h; exact hab y h ha
    · have := hlt y ha; omega
  have ff : ∀ (q : List Nat), (∀ y ∈ q, y ∈ bl1 ++ bl2 ++ bl6 ++ bl10 ++ bl11) → B ∉ q → ∀ y ∈ q, y ∉ B :: (bl12 ++ bl1') := fun q h1 h2 y hy => far y (h1 y hy) (fun e => h2 (e ▸ hy))
  have i1' := so1.in_ good_I
  have uT : Up w0 W4 := u0.only onT (fun y hy => by
    rcases List.mem_cons.1 hy with rfl | hy
    · exact hlB
    · rcases List.mem_append.1 hy with hy | hy
      · have := (i12 y hy).1; omega
      · have := (i1' y hy).1; omega)
  exact ⟨rfl, uT, _, _, kB5, note_asm b0 (s1.onlyL good_S onT (ff bl1 (fun y hy => by simp [hy]) n1)) (s2.onlyL good_Put onT (ff bl2 (fun y hy => by simp [hy]) n2)) b3 b4 b5 (s6.onlyL good_Seat onT (ff bl6 (fun y hy => by simp [hy]) n6)) b7 b8 b9 (s10.onlyL good_Seat onT (ff bl10 (fun y hy => by simp [hy]) n10)) (s11.onlyL good_Seat onT (ff bl11 (fun y hy => by simp [hy]) n11)) so5, nd_put nda nd1 nab⟩
end Go.Proofs.YtfehlcbaalbajaaGreat
