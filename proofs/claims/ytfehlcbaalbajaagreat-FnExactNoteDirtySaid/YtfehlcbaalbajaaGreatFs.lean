/-
  FreeSlots: the program's and the reference's compute one function of a cache.
-/
import Derived.Test.YtfehlcbaalbajaaGreatCk
namespace Go.Proofs.YtfehlcbaalbajaaGreat
open Go.RowKit
set_option linter.unusedVariables false
set_option linter.unusedSimpArgs false

def freeTo (l : List TSeat) (k : Nat) : List Int := ((List.range k).filter (fun (i : Nat) => decide (2 ≤ i) && !hasS l (i : Int))).map (fun i : Nat => (i : Int))
theorem freeTo_two (l : List TSeat) : freeTo l 2 = [] := by simp [freeTo, List.range_succ]
theorem freeTo_snoc (l : List TSeat) (k : Nat) (h2 : 2 ≤ k) (h : hasS l k = false) : freeTo l (k + 1) = freeTo l k ++ [(k : Int)] := by
  simp [freeTo, List.range_succ, List.filter_append, h2, h]
theorem freeTo_skip (l : List TSeat) (k : Nat) (h : hasS l k = true) : freeTo l (k + 1) = freeTo l k := by
  simp [freeTo, List.range_succ, List.filter_append, h]
theorem freeTo_len (l : List TSeat) (k : Nat) : (freeTo l k).length ≤ k := by
  unfold freeTo
  rw [List.length_map]
  refine Nat.le_trans (List.length_filter_le _ _) ?_
  simp
theorem hasS_app (a b : List TSeat) (n : Int) : hasS (a ++ b) n = (hasS a n || hasS b n) := by simp [hasS]
def freeL (c : TCache) : List Int := freeTo (c.2.1.2.2.2 ++ c.2.2.1.2.2.2 ++ c.2.2.2.1) c.1.2.1.length
def freeSlots (c : TCache) : List Int := if cacheOk c = true then freeL c else []
theorem cinfo_I : (Tryz.prog.info? 2).map (fun i => (i.zero, i.size, i.bytes)) = some (some (.int .i64 0), 1, 8) := by kernel_rfl
theorem diskLen {x : TDisk} (h : shDisk.sz x ≤ 1048576) : x.2.1.length ≤ 1048576 := by
  obtain ⟨x0, x1, x2⟩ := x
  have hs : shDisk.sz (x0, x1, x2) = 0 + ((x1.length + (x1.map shS.sz).sum) + (x2.length + (x2.map shPut.sz).sum)) := rfl
  dsimp only
  omega
theorem cbg_FreeSlots (x : TCache) (hn : shCache.sz x ≤ 1048576) : (1 : Int) + ((mkL mkI).cnt (freeSlots x) : Nat) ≤ 1000000000 := by
  have h1 : (freeSlots x).length ≤ 1048576 := by
    unfold freeSlots
    split
    · exact Nat.le_trans (freeTo_len _ _) (diskLen (cache_sz hn).1)
    · simp
  have h2 : (mkL mkI).cnt (freeSlots x) = (freeSlots x).length := by
    show ((freeSlots x).map (fun _ => 1)).sum = _
    rw [sum_const]; omega
  omega
theorem cnt_Cache (x : TCache) (hn : shCache.sz x ≤ 1048576) : mmTCache.cnt x ≤ 16000000 := by
  obtain ⟨h1, h2, h3, h4, h5⟩ := cache_sz hn
  have hd := cnt_Disk x.1 h1
  have e : mmTCache.cnt x = mmTDisk.cnt x.1 + ((0 + (0 + (0 + (x.2.1.2.2.2.map (fun _ => 2)).sum))) + ((0 + (0 + (0 + (x.2.2.1.2.2.2.map (fun _ => 2)).sum))) + ((x.2.2.2.1.map (fun _ => 2)).sum + (x.2.2.2.2.map (fun _ => 1)).sum))) := rfl
  rw [e, sum_const, sum_const, sum_const, sum_const]
  omega
theorem cacheOk_len {c : TCache} (h : cacheOk c = true) : 4 ≤ c.1.2.1.length := by
  simp only [cacheOk, cachePre, Bool.and_eq_true, Bool.not_eq_true', decide_eq_false_iff_not] at h
  omega





end Go.Proofs.YtfehlcbaalbajaaGreat
