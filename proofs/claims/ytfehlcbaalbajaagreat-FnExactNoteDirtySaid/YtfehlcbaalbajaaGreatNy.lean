/-
  NoteDirty as the law's walk meets it.
-/
import Derived.Test.YtfehlcbaalbajaaGreatNx
namespace Go.Proofs.YtfehlcbaalbajaaGreat
open Go.RowKit
set_option linter.unusedVariables false
set_option linter.unusedSimpArgs false

theorem szI_len (xs : List Int) : (shL shI).sz xs = xs.length := by
  show xs.length + (xs.map (fun _ => 0)).sum = _
  rw [sum_const]
  omega
theorem cs_NoteDirty (v0 : Value) (x : TCache) (B : Option Addr) (d : Nat) (l : List Int) (w : World) (h0 : AV shCache w v0 x) (hn : shCache.sz x ≤ 1048576) (k : SRW shI w B d l) (hl : (shL shI).sz l ≤ 1048576) : Calls Tryz.prog 5 #[v0, .slice B l.length d] w (RpR shCache (noteV x l) (noteK x l) w) := (cs0_NoteDirty v0 x l B d w h0 hn k).mono fun _ _ h => h.rp good_Cache
theorem ci_NoteDirty (v0 : Value) (x : TCache) (B : Option Addr) (d : Nat) (l : List Int) (w : World) (h0 : AV shCache w v0 x) (hn : shCache.sz x ≤ 1048576) (k : SRW shI w B d l) (hl : (shL shI).sz l ≤ 1048576) : Calls Tryz.prog 8 #[v0, .slice B l.length d] w (ToR shCache (noteV x l) (noteK x l) w) := ci0_NoteDirty v0 x l B d w h0 hn k
theorem cbg_NoteDirty (x : TCache) (hn : shCache.sz x ≤ 1048576) (l : List Int) (hl : (shL shI).sz l ≤ 1048576) : (1 : Int) + (mmTCache.cnt (noteV x l) : Nat) ≤ 1000000000 := by
  have hc := cnt_Cache x hn
  have e : ∀ y : TCache, mmTCache.cnt y = mmTDisk.cnt y.1 + ((0 + (0 + (0 + (y.2.1.2.2.2.map (fun _ => 2)).sum))) + ((0 + (0 + (0 + (y.2.2.1.2.2.2.map (fun _ => 2)).sum))) + ((y.2.2.2.1.map (fun _ => 2)).sum + (y.2.2.2.2.map (fun _ => 1)).sum))) := fun _ => rfl
  have z : mmTCache.cnt zeroC ≤ 100 := by decide
  obtain ⟨h1, h2, h3, h4, h5⟩ := cache_sz hn
  unfold noteV
  split
  · have hp := putsI_len l x.2.2.2.2
    rw [szI_len] at hl
    rw [e, sum_const] at hc ⊢
    rw [sum_const, sum_const, sum_const] at hc ⊢
    dsimp only [noteC]
    omega
  · omega
theorem cnt_Int64S (l : List Int) (h : (shL shI).sz l ≤ 1048576) : (mkL mkI).cnt l ≤ 1048576 := by
  have : (mkL mkI).cnt l = (l.map (fun _ => 1)).sum := rfl
  rw [szI_len] at h
  rw [this, sum_const]
  omega
end Go.Proofs.YtfehlcbaalbajaaGreat
