/-
  Shapes of the structs of the program, by a program of ours (gen.py).
-/
import Derived.Test.YtgdcdfpnogiciaaRep
namespace Go.Proofs.Ytgdcdfpnogiciaa
open Go.RowKit
set_option linter.unusedSimpArgs false
abbrev TSeat : Type := Int × Int
def shSeat : Sh TSeat := (shP shI shI)
theorem good_Seat : Good shSeat := (good_P good_I good_I)
theorem openSeat {w : World} {lo hi : Nat} {cs : List Value} {x : TSeat} (h : shSeat.rep w lo hi cs x) :
    cs = [.int .i64 x.1, .int .i64 x.2] ∧ I64 x.1 ∧ I64 x.2 := by
  obtain ⟨p1, q1, rfl, l1, r1⟩ := open_P h
  obtain ⟨rfl, b0⟩ := l1
  obtain ⟨rfl, b1⟩ := r1
  exact ⟨rfl, b0, b1⟩
theorem mkSeat {w : World} {lo hi : Nat} {x : TSeat} (b0 : I64 x.1) (b1 : I64 x.2) : shSeat.rep w lo hi [.int .i64 x.1, .int .i64 x.2] x :=
  (mk_P good_I ⟨rfl, b0⟩ ⟨rfl, b1⟩)
theorem openOSeat {w : World} {lo hi : Nat} {cs : List Value} {x : TSeat} {bl : List Nat} (h : shSeat.own w lo hi cs x bl) :
    cs = [.int .i64 x.1, .int .i64 x.2] ∧ bl = [] ∧ I64 x.1 ∧ I64 x.2 := by
  obtain ⟨p1, q1, _, _, rfl, rfl, l1, r1⟩ := openO_P h
  obtain ⟨⟨rfl, b0⟩, rfl⟩ := l1
  obtain ⟨⟨rfl, b1⟩, rfl⟩ := r1
  exact ⟨rfl, by simp, b0, b1⟩
theorem mkOSeat {w : World} {lo hi : Nat} {x : TSeat} (b0 : I64 x.1) (b1 : I64 x.2) : shSeat.own w lo hi [.int .i64 x.1, .int .i64 x.2] x ([]) := by
  have h : shSeat.own w lo hi [.int .i64 x.1, .int .i64 x.2] x _ := (mkO_P good_I ⟨⟨rfl, b0⟩, rfl⟩ ⟨⟨rfl, b1⟩, rfl⟩)
  simpa using h
theorem atSeat {w : World} {lo hi : Nat} {A : Option Addr} {c : Nat} {xs : List TSeat} (h : SR shSeat w lo hi A c xs) {i : Nat} (hi' : i < xs.length) :
    ∃ (g off : Nat), A = some ⟨g, off, none⟩ ∧ lo ≤ g ∧ g < hi ∧ w.cell? ⟨g, off + i * 2, none⟩ = some (.int .i64 xs[i].1) ∧ w.cell? ⟨g, off + i * 2 + 1, none⟩ = some (.int .i64 xs[i].2) ∧ I64 xs[i].1 ∧ I64 xs[i].2 ∧ True := by
  obtain ⟨g, off, cs, hA, h1, h2, hc, hr⟩ := h.at_ hi'
  obtain ⟨rfl, b0, b1⟩ := openSeat hr
  exact ⟨g, off, hA, h1, h2, hc.2 0 (by decide), hc.2 1 (by decide), b0, b1, trivial⟩
abbrev TPut : Type := Int × ByteArray
def shPut : Sh TPut := (shP shI shS)
theorem good_Put : Good shPut := (good_P good_I good_S)
theorem openPut {w : World} {lo hi : Nat} {cs : List Value} {x : TPut} (h : shPut.rep w lo hi cs x) :
    cs = [.int .i64 x.1, .string x.2] ∧ I64 x.1 ∧ x.2.size ≤ maxLen := by
  obtain ⟨p1, q1, rfl, l1, r1⟩ := open_P h
  obtain ⟨rfl, b0⟩ := l1
  obtain ⟨rfl, b1⟩ := r1
  exact ⟨rfl, b0, b1⟩
theorem mkPut {w : World} {lo hi : Nat} {x : TPut} (b0 : I64 x.1) (b1 : x.2.size ≤ maxLen) : shPut.rep w lo hi [.int .i64 x.1, .string x.2] x :=
  (mk_P good_I ⟨rfl, b0⟩ ⟨rfl, b1⟩)
theorem openOPut {w : World} {lo hi : Nat} {cs : List Value} {x : TPut} {bl : List Nat} (h : shPut.own w lo hi cs x bl) :
    cs = [.int .i64 x.1, .string x.2] ∧ bl = [] ∧ I64 x.1 ∧ x.2.size ≤ maxLen := by
  obtain ⟨p1, q1, _, _, rfl, rfl, l1, r1⟩ := openO_P h
  obtain ⟨⟨rfl, b0⟩, rfl⟩ := l1
  obtain ⟨⟨rfl, b1⟩, rfl⟩ := r1
  exact ⟨rfl, by simp, b0, b1⟩
theorem mkOPut {w : World} {lo hi : Nat} {x : TPut} (b0 : I64 x.1) (b1 : x.2.size ≤ maxLen) : shPut.own w lo hi [.int .i64 x.1, .string x.2] x ([]) := by
  have h : shPut.own w lo hi [.int .i64 x.1, .string x.2] x _ := (mkO_P good_I ⟨⟨rfl, b0⟩, rfl⟩ ⟨⟨rfl, b1⟩, rfl⟩)
  simpa using h
theorem atPut {w : World} {lo hi : Nat} {A : Option Addr} {c : Nat} {xs : List TPut} (h : SR shPut w lo hi A c xs) {i : Nat} (hi' : i < xs.length) :
    ∃ (g off : Nat), A = some ⟨g, off, none⟩ ∧ lo ≤ g ∧ g < hi ∧ w.cell? ⟨g, off + i * 2, none⟩ = some (.int .i64 xs[i].1) ∧ w.cell? ⟨g, off + i * 2 + 1, none⟩ = some (.string xs[i].2) ∧ I64 xs[i].1 ∧ xs[i].2.size ≤ maxLen ∧ True := by
  obtain ⟨g, off, cs, hA, h1, h2, hc, hr⟩ := h.at_ hi'
  obtain ⟨rfl, b0, b1⟩ := openPut hr
  exact ⟨g, off, hA, h1, h2, hc.2 0 (by decide), hc.2 1 (by decide), b0, b1, trivial⟩
abbrev TTop : Type := Int × Int × Int × (List TSeat)
def shTop : Sh TTop := (shP shI (shP shI (shP shI (shL shSeat))))
theorem good_Top : Good shTop := (good_P good_I (good_P good_I (good_P good_I (good_L good_Seat))))
theorem openTop {w : World} {lo hi : Nat} {cs : List Value} {x : TTop} (h : shTop.rep w lo hi cs x) :
    ∃ (A3 : Option Addr) (c3 : Nat), cs = [.int .i64 x.1, .int .i64 x.2.1, .int .i64 x.2.2.1, .slice A3 x.2.2.2.length c3] ∧ I64 x.1 ∧ I64 x.2.1 ∧ I64 x.2.2.1 ∧ SR shSeat w lo hi A3 c3 x.2.2.2 := by
  obtain ⟨p1, q1, rfl, l1, r1⟩ := open_P h
  obtain ⟨rfl, b0⟩ := l1
  obtain ⟨p2, q2, rfl, l2, r2⟩ := open_P r1
  obtain ⟨rfl, b1⟩ := l2
  obtain ⟨p3, q3, rfl, l3, r3⟩ := open_P r2
  obtain ⟨rfl, b2⟩ := l3
  obtain ⟨A3, c3, rfl, b3⟩ := r3
  exact ⟨A3, c3, rfl, b0, b1, b2, b3⟩
theorem mkTop {w : World} {lo hi : Nat} {x : TTop} {A3 : Option Addr} {c3 : Nat} (b0 : I64 x.1) (b1 : I64 x.2.1) (b2 : I64 x.2.2.1) (b3 : SR shSeat w lo hi A3 c3 x.2.2.2) : shTop.rep w lo hi [.int .i64 x.1, .int .i64 x.2.1, .int .i64 x.2.2.1, .slice A3 x.2.2.2.length c3] x :=
  (mk_P good_I ⟨rfl, b0⟩ (mk_P good_I ⟨rfl, b1⟩ (mk_P good_I ⟨rfl, b2⟩ ⟨A3, c3, rfl, b3⟩)))
theorem openOTop {w : World} {lo hi : Nat} {cs : List Value} {x : TTop} {bl : List Nat} (h : shTop.own w lo hi cs x bl) :
    ∃ (A3 : Option Addr) (c3 : Nat) (bl3 : List Nat), cs = [.int .i64 x.1, .int .i64 x.2.1, .int .i64 x.2.2.1, .slice A3 x.2.2.2.length c3] ∧ bl = bl3 ∧ I64 x.1 ∧ I64 x.2.1 ∧ I64 x.2.2.1 ∧ SO shSeat w lo hi A3 c3 x.2.2.2 bl3 := by
  obtain ⟨p1, q1, _, _, rfl, rfl, l1, r1⟩ := openO_P h
  obtain ⟨⟨rfl, b0⟩, rfl⟩ := l1
  obtain ⟨p2, q2, _, _, rfl, rfl, l2, r2⟩ := openO_P r1
  obtain ⟨⟨rfl, b1⟩, rfl⟩ := l2
  obtain ⟨p3, q3, _, _, rfl, rfl, l3, r3⟩ := openO_P r2
  obtain ⟨⟨rfl, b2⟩, rfl⟩ := l3
  obtain ⟨A3, c3, rfl, b3⟩ := r3
  exact ⟨A3, c3, _, rfl, by simp, b0, b1, b2, b3⟩
theorem mkOTop {w : World} {lo hi : Nat} {x : TTop} {A3 : Option Addr} {c3 : Nat} {bl3 : List Nat} (b0 : I64 x.1) (b1 : I64 x.2.1) (b2 : I64 x.2.2.1) (b3 : SO shSeat w lo hi A3 c3 x.2.2.2 bl3) : shTop.own w lo hi [.int .i64 x.1, .int .i64 x.2.1, .int .i64 x.2.2.1, .slice A3 x.2.2.2.length c3] x (bl3) := by
  have h : shTop.own w lo hi [.int .i64 x.1, .int .i64 x.2.1, .int .i64 x.2.2.1, .slice A3 x.2.2.2.length c3] x _ := (mkO_P good_I ⟨⟨rfl, b0⟩, rfl⟩ (mkO_P good_I ⟨⟨rfl, b1⟩, rfl⟩ (mkO_P good_I ⟨⟨rfl, b2⟩, rfl⟩ ⟨A3, c3, rfl, b3⟩)))
  simpa using h
theorem atTop {w : World} {lo hi : Nat} {A : Option Addr} {c : Nat} {xs : List TTop} (h : SR shTop w lo hi A c xs) {i : Nat} (hi' : i < xs.length) :
    ∃ (g off : Nat) (A3 : Option Addr) (c3 : Nat), A = some ⟨g, off, none⟩ ∧ lo ≤ g ∧ g < hi ∧ w.cell? ⟨g, off + i * 4, none⟩ = some (.int .i64 xs[i].1) ∧ w.cell? ⟨g, off + i * 4 + 1, none⟩ = some (.int .i64 xs[i].2.1) ∧ w.cell? ⟨g, off + i * 4 + 2, none⟩ = some (.int .i64 xs[i].2.2.1) ∧ w.cell? ⟨g, off + i * 4 + 3, none⟩ = some (.slice A3 xs[i].2.2.2.length c3) ∧ I64 xs[i].1 ∧ I64 xs[i].2.1 ∧ I64 xs[i].2.2.1 ∧ SR shSeat w lo hi A3 c3 xs[i].2.2.2 ∧ True := by
  obtain ⟨g, off, cs, hA, h1, h2, hc, hr⟩ := h.at_ hi'
  obtain ⟨A3, c3, rfl, b0, b1, b2, b3⟩ := openTop hr
  exact ⟨g, off, A3, c3, hA, h1, h2, hc.2 0 (by decide), hc.2 1 (by decide), hc.2 2 (by decide), hc.2 3 (by decide), b0, b1, b2, b3, trivial⟩
abbrev TDisk : Type := Int × (List ByteArray) × (List TPut)
def shDisk : Sh TDisk := (shP shI (shP (shL shS) (shL shPut)))
theorem good_Disk : Good shDisk := (good_P good_I (good_P (good_L good_S) (good_L good_Put)))
theorem openDisk {w : World} {lo hi : Nat} {cs : List Value} {x : TDisk} (h : shDisk.rep w lo hi cs x) :
    ∃ (A1 : Option Addr) (c1 : Nat) (A2 : Option Addr) (c2 : Nat), cs = [.int .i64 x.1, .slice A1 x.2.1.length c1, .slice A2 x.2.2.length c2] ∧ I64 x.1 ∧ SR shS w lo hi A1 c1 x.2.1 ∧ SR shPut w lo hi A2 c2 x.2.2 := by
  obtain ⟨p1, q1, rfl, l1, r1⟩ := open_P h
  obtain ⟨rfl, b0⟩ := l1
  obtain ⟨p2, q2, rfl, l2, r2⟩ := open_P r1
  obtain ⟨A1, c1, rfl, b1⟩ := l2
  obtain ⟨A2, c2, rfl, b2⟩ := r2
  exact ⟨A1, c1, A2, c2, rfl, b0, b1, b2⟩
theorem mkDisk {w : World} {lo hi : Nat} {x : TDisk} {A1 : Option Addr} {c1 : Nat} {A2 : Option Addr} {c2 : Nat} (b0 : I64 x.1) (b1 : SR shS w lo hi A1 c1 x.2.1) (b2 : SR shPut w lo hi A2 c2 x.2.2) : shDisk.rep w lo hi [.int .i64 x.1, .slice A1 x.2.1.length c1, .slice A2 x.2.2.length c2] x :=
  (mk_P good_I ⟨rfl, b0⟩ (mk_P (good_L good_S) ⟨A1, c1, rfl, b1⟩ ⟨A2, c2, rfl, b2⟩))
theorem openODisk {w : World} {lo hi : Nat} {cs : List Value} {x : TDisk} {bl : List Nat} (h : shDisk.own w lo hi cs x bl) :
    ∃ (A1 : Option Addr) (c1 : Nat) (bl1 : List Nat) (A2 : Option Addr) (c2 : Nat) (bl2 : List Nat), cs = [.int .i64 x.1, .slice A1 x.2.1.length c1, .slice A2 x.2.2.length c2] ∧ bl = bl1 ++ bl2 ∧ I64 x.1 ∧ SO shS w lo hi A1 c1 x.2.1 bl1 ∧ SO shPut w lo hi A2 c2 x.2.2 bl2 := by
  obtain ⟨p1, q1, _, _, rfl, rfl, l1, r1⟩ := openO_P h
  obtain ⟨⟨rfl, b0⟩, rfl⟩ := l1
  obtain ⟨p2, q2, _, _, rfl, rfl, l2, r2⟩ := openO_P r1
  obtain ⟨A1, c1, rfl, b1⟩ := l2
  obtain ⟨A2, c2, rfl, b2⟩ := r2
  exact ⟨A1, c1, _, A2, c2, _, rfl, by simp, b0, b1, b2⟩
theorem mkODisk {w : World} {lo hi : Nat} {x : TDisk} {A1 : Option Addr} {c1 : Nat} {bl1 : List Nat} {A2 : Option Addr} {c2 : Nat} {bl2 : List Nat} (b0 : I64 x.1) (b1 : SO shS w lo hi A1 c1 x.2.1 bl1) (b2 : SO shPut w lo hi A2 c2 x.2.2 bl2) : shDisk.own w lo hi [.int .i64 x.1, .slice A1 x.2.1.length c1, .slice A2 x.2.2.length c2] x (bl1 ++ bl2) := by
  have h : shDisk.own w lo hi [.int .i64 x.1, .slice A1 x.2.1.length c1, .slice A2 x.2.2.length c2] x _ := (mkO_P good_I ⟨⟨rfl, b0⟩, rfl⟩ (mkO_P (good_L good_S) ⟨A1, c1, rfl, b1⟩ ⟨A2, c2, rfl, b2⟩))
  simpa using h
theorem atDisk {w : World} {lo hi : Nat} {A : Option Addr} {c : Nat} {xs : List TDisk} (h : SR shDisk w lo hi A c xs) {i : Nat} (hi' : i < xs.length) :
    ∃ (g off : Nat) (A1 : Option Addr) (c1 : Nat) (A2 : Option Addr) (c2 : Nat), A = some ⟨g, off, none⟩ ∧ lo ≤ g ∧ g < hi ∧ w.cell? ⟨g, off + i * 3, none⟩ = some (.int .i64 xs[i].1) ∧ w.cell? ⟨g, off + i * 3 + 1, none⟩ = some (.slice A1 xs[i].2.1.length c1) ∧ w.cell? ⟨g, off + i * 3 + 2, none⟩ = some (.slice A2 xs[i].2.2.length c2) ∧ I64 xs[i].1 ∧ SR shS w lo hi A1 c1 xs[i].2.1 ∧ SR shPut w lo hi A2 c2 xs[i].2.2 ∧ True := by
  obtain ⟨g, off, cs, hA, h1, h2, hc, hr⟩ := h.at_ hi'
  obtain ⟨A1, c1, A2, c2, rfl, b0, b1, b2⟩ := openDisk hr
  exact ⟨g, off, A1, c1, A2, c2, hA, h1, h2, hc.2 0 (by decide), hc.2 1 (by decide), hc.2 2 (by decide), b0, b1, b2, trivial⟩
abbrev TPage : Type := Bool × (List ByteArray) × (List ByteArray) × (List Int)
def shPage : Sh TPage := (shP shB (shP (shL shS) (shP (shL shS) (shL shI))))
theorem good_Page : Good shPage := (good_P good_B (good_P (good_L good_S) (good_P (good_L good_S) (good_L good_I))))
theorem openPage {w : World} {lo hi : Nat} {cs : List Value} {x : TPage} (h : shPage.rep w lo hi cs x) :
    ∃ (A1 : Option Addr) (c1 : Nat) (A2 : Option Addr) (c2 : Nat) (A3 : Option Addr) (c3 : Nat), cs = [.bool x.1, .slice A1 x.2.1.length c1, .slice A2 x.2.2.1.length c2, .slice A3 x.2.2.2.length c3] ∧ SR shS w lo hi A1 c1 x.2.1 ∧ SR shS w lo hi A2 c2 x.2.2.1 ∧ SR shI w lo hi A3 c3 x.2.2.2 := by
  obtain ⟨p1, q1, rfl, l1, r1⟩ := open_P h
  obtain rfl := l1
  obtain ⟨p2, q2, rfl, l2, r2⟩ := open_P r1
  obtain ⟨A1, c1, rfl, b1⟩ := l2
  obtain ⟨p3, q3, rfl, l3, r3⟩ := open_P r2
  obtain ⟨A2, c2, rfl, b2⟩ := l3
  obtain ⟨A3, c3, rfl, b3⟩ := r3
  exact ⟨A1, c1, A2, c2, A3, c3, rfl, b1, b2, b3⟩
theorem mkPage {w : World} {lo hi : Nat} {x : TPage} {A1 : Option Addr} {c1 : Nat} {A2 : Option Addr} {c2 : Nat} {A3 : Option Addr} {c3 : Nat} (b1 : SR shS w lo hi A1 c1 x.2.1) (b2 : SR shS w lo hi A2 c2 x.2.2.1) (b3 : SR shI w lo hi A3 c3 x.2.2.2) : shPage.rep w lo hi [.bool x.1, .slice A1 x.2.1.length c1, .slice A2 x.2.2.1.length c2, .slice A3 x.2.2.2.length c3] x :=
  (mk_P good_B rfl (mk_P (good_L good_S) ⟨A1, c1, rfl, b1⟩ (mk_P (good_L good_S) ⟨A2, c2, rfl, b2⟩ ⟨A3, c3, rfl, b3⟩)))
theorem openOPage {w : World} {lo hi : Nat} {cs : List Value} {x : TPage} {bl : List Nat} (h : shPage.own w lo hi cs x bl) :
    ∃ (A1 : Option Addr) (c1 : Nat) (bl1 : List Nat) (A2 : Option Addr) (c2 : Nat) (bl2 : List Nat) (A3 : Option Addr) (c3 : Nat) (bl3 : List Nat), cs = [.bool x.1, .slice A1 x.2.1.length c1, .slice A2 x.2.2.1.length c2, .slice A3 x.2.2.2.length c3] ∧ bl = bl1 ++ bl2 ++ bl3 ∧ SO shS w lo hi A1 c1 x.2.1 bl1 ∧ SO shS w lo hi A2 c2 x.2.2.1 bl2 ∧ SO shI w lo hi A3 c3 x.2.2.2 bl3 := by
  obtain ⟨p1, q1, _, _, rfl, rfl, l1, r1⟩ := openO_P h
  obtain ⟨rfl, rfl⟩ := l1
  obtain ⟨p2, q2, _, _, rfl, rfl, l2, r2⟩ := openO_P r1
  obtain ⟨A1, c1, rfl, b1⟩ := l2
  obtain ⟨p3, q3, _, _, rfl, rfl, l3, r3⟩ := openO_P r2
  obtain ⟨A2, c2, rfl, b2⟩ := l3
  obtain ⟨A3, c3, rfl, b3⟩ := r3
  exact ⟨A1, c1, _, A2, c2, _, A3, c3, _, rfl, by simp, b1, b2, b3⟩
theorem mkOPage {w : World} {lo hi : Nat} {x : TPage} {A1 : Option Addr} {c1 : Nat} {bl1 : List Nat} {A2 : Option Addr} {c2 : Nat} {bl2 : List Nat} {A3 : Option Addr} {c3 : Nat} {bl3 : List Nat} (b1 : SO shS w lo hi A1 c1 x.2.1 bl1) (b2 : SO shS w lo hi A2 c2 x.2.2.1 bl2) (b3 : SO shI w lo hi A3 c3 x.2.2.2 bl3) : shPage.own w lo hi [.bool x.1, .slice A1 x.2.1.length c1, .slice A2 x.2.2.1.length c2, .slice A3 x.2.2.2.length c3] x (bl1 ++ bl2 ++ bl3) := by
  have h : shPage.own w lo hi [.bool x.1, .slice A1 x.2.1.length c1, .slice A2 x.2.2.1.length c2, .slice A3 x.2.2.2.length c3] x _ := (mkO_P good_B ⟨rfl, rfl⟩ (mkO_P (good_L good_S) ⟨A1, c1, rfl, b1⟩ (mkO_P (good_L good_S) ⟨A2, c2, rfl, b2⟩ ⟨A3, c3, rfl, b3⟩)))
  simpa using h
theorem atPage {w : World} {lo hi : Nat} {A : Option Addr} {c : Nat} {xs : List TPage} (h : SR shPage w lo hi A c xs) {i : Nat} (hi' : i < xs.length) :
    ∃ (g off : Nat) (A1 : Option Addr) (c1 : Nat) (A2 : Option Addr) (c2 : Nat) (A3 : Option Addr) (c3 : Nat), A = some ⟨g, off, none⟩ ∧ lo ≤ g ∧ g < hi ∧ w.cell? ⟨g, off + i * 4, none⟩ = some (.bool xs[i].1) ∧ w.cell? ⟨g, off + i * 4 + 1, none⟩ = some (.slice A1 xs[i].2.1.length c1) ∧ w.cell? ⟨g, off + i * 4 + 2, none⟩ = some (.slice A2 xs[i].2.2.1.length c2) ∧ w.cell? ⟨g, off + i * 4 + 3, none⟩ = some (.slice A3 xs[i].2.2.2.length c3) ∧ SR shS w lo hi A1 c1 xs[i].2.1 ∧ SR shS w lo hi A2 c2 xs[i].2.2.1 ∧ SR shI w lo hi A3 c3 xs[i].2.2.2 ∧ True := by
  obtain ⟨g, off, cs, hA, h1, h2, hc, hr⟩ := h.at_ hi'
  obtain ⟨A1, c1, A2, c2, A3, c3, rfl, b1, b2, b3⟩ := openPage hr
  exact ⟨g, off, A1, c1, A2, c2, A3, c3, hA, h1, h2, hc.2 0 (by decide), hc.2 1 (by decide), hc.2 2 (by decide), hc.2 3 (by decide), b1, b2, b3, trivial⟩
abbrev TSlot : Type := Int × TPage
def shSlot : Sh TSlot := (shP shI shPage)
theorem good_Slot : Good shSlot := (good_P good_I good_Page)
theorem openSlot {w : World} {lo hi : Nat} {cs : List Value} {x : TSlot} (h : shSlot.rep w lo hi cs x) :
    ∃ (A2 : Option Addr) (c2 : Nat) (A3 : Option Addr) (c3 : Nat) (A4 : Option Addr) (c4 : Nat), cs = [.int .i64 x.1, .bool x.2.1, .slice A2 x.2.2.1.length c2, .slice A3 x.2.2.2.1.length c3, .slice A4 x.2.2.2.2.length c4] ∧ I64 x.1 ∧ SR shS w lo hi A2 c2 x.2.2.1 ∧ SR shS w lo hi A3 c3 x.2.2.2.1 ∧ SR shI w lo hi A4 c4 x.2.2.2.2 := by
  obtain ⟨p1, q1, rfl, l1, r1⟩ := open_P h
  obtain ⟨rfl, b0⟩ := l1
  obtain ⟨p2, q2, rfl, l2, r2⟩ := open_P r1
  obtain rfl := l2
  obtain ⟨p3, q3, rfl, l3, r3⟩ := open_P r2
  obtain ⟨A2, c2, rfl, b2⟩ := l3
  obtain ⟨p4, q4, rfl, l4, r4⟩ := open_P r3
  obtain ⟨A3, c3, rfl, b3⟩ := l4
  obtain ⟨A4, c4, rfl, b4⟩ := r4
  exact ⟨A2, c2, A3, c3, A4, c4, rfl, b0, b2, b3, b4⟩
theorem mkSlot {w : World} {lo hi : Nat} {x : TSlot} {A2 : Option Addr} {c2 : Nat} {A3 : Option Addr} {c3 : Nat} {A4 : Option Addr} {c4 : Nat} (b0 : I64 x.1) (b2 : SR shS w lo hi A2 c2 x.2.2.1) (b3 : SR shS w lo hi A3 c3 x.2.2.2.1) (b4 : SR shI w lo hi A4 c4 x.2.2.2.2) : shSlot.rep w lo hi [.int .i64 x.1, .bool x.2.1, .slice A2 x.2.2.1.length c2, .slice A3 x.2.2.2.1.length c3, .slice A4 x.2.2.2.2.length c4] x :=
  (mk_P good_I ⟨rfl, b0⟩ (mk_P good_B rfl (mk_P (good_L good_S) ⟨A2, c2, rfl, b2⟩ (mk_P (good_L good_S) ⟨A3, c3, rfl, b3⟩ ⟨A4, c4, rfl, b4⟩))))
theorem openOSlot {w : World} {lo hi : Nat} {cs : List Value} {x : TSlot} {bl : List Nat} (h : shSlot.own w lo hi cs x bl) :
    ∃ (A2 : Option Addr) (c2 : Nat) (bl2 : List Nat) (A3 : Option Addr) (c3 : Nat) (bl3 : List Nat) (A4 : Option Addr) (c4 : Nat) (bl4 : List Nat), cs = [.int .i64 x.1, .bool x.2.1, .slice A2 x.2.2.1.length c2, .slice A3 x.2.2.2.1.length c3, .slice A4 x.2.2.2.2.length c4] ∧ bl = bl2 ++ bl3 ++ bl4 ∧ I64 x.1 ∧ SO shS w lo hi A2 c2 x.2.2.1 bl2 ∧ SO shS w lo hi A3 c3 x.2.2.2.1 bl3 ∧ SO shI w lo hi A4 c4 x.2.2.2.2 bl4 := by
  obtain ⟨p1, q1, _, _, rfl, rfl, l1, r1⟩ := openO_P h
  obtain ⟨⟨rfl, b0⟩, rfl⟩ := l1
  obtain ⟨p2, q2, _, _, rfl, rfl, l2, r2⟩ := openO_P r1
  obtain ⟨rfl, rfl⟩ := l2
  obtain ⟨p3, q3, _, _, rfl, rfl, l3, r3⟩ := openO_P r2
  obtain ⟨A2, c2, rfl, b2⟩ := l3
  obtain ⟨p4, q4, _, _, rfl, rfl, l4, r4⟩ := openO_P r3
  obtain ⟨A3, c3, rfl, b3⟩ := l4
  obtain ⟨A4, c4, rfl, b4⟩ := r4
  exact ⟨A2, c2, _, A3, c3, _, A4, c4, _, rfl, by simp, b0, b2, b3, b4⟩
theorem mkOSlot {w : World} {lo hi : Nat} {x : TSlot} {A2 : Option Addr} {c2 : Nat} {bl2 : List Nat} {A3 : Option Addr} {c3 : Nat} {bl3 : List Nat} {A4 : Option Addr} {c4 : Nat} {bl4 : List Nat} (b0 : I64 x.1) (b2 : SO shS w lo hi A2 c2 x.2.2.1 bl2) (b3 : SO shS w lo hi A3 c3 x.2.2.2.1 bl3) (b4 : SO shI w lo hi A4 c4 x.2.2.2.2 bl4) : shSlot.own w lo hi [.int .i64 x.1, .bool x.2.1, .slice A2 x.2.2.1.length c2, .slice A3 x.2.2.2.1.length c3, .slice A4 x.2.2.2.2.length c4] x (bl2 ++ bl3 ++ bl4) := by
  have h : shSlot.own w lo hi [.int .i64 x.1, .bool x.2.1, .slice A2 x.2.2.1.length c2, .slice A3 x.2.2.2.1.length c3, .slice A4 x.2.2.2.2.length c4] x _ := (mkO_P good_I ⟨⟨rfl, b0⟩, rfl⟩ (mkO_P good_B ⟨rfl, rfl⟩ (mkO_P (good_L good_S) ⟨A2, c2, rfl, b2⟩ (mkO_P (good_L good_S) ⟨A3, c3, rfl, b3⟩ ⟨A4, c4, rfl, b4⟩))))
  simpa using h
theorem atSlot {w : World} {lo hi : Nat} {A : Option Addr} {c : Nat} {xs : List TSlot} (h : SR shSlot w lo hi A c xs) {i : Nat} (hi' : i < xs.length) :
    ∃ (g off : Nat) (A2 : Option Addr) (c2 : Nat) (A3 : Option Addr) (c3 : Nat) (A4 : Option Addr) (c4 : Nat), A = some ⟨g, off, none⟩ ∧ lo ≤ g ∧ g < hi ∧ w.cell? ⟨g, off + i * 5, none⟩ = some (.int .i64 xs[i].1) ∧ w.cell? ⟨g, off + i * 5 + 1, none⟩ = some (.bool xs[i].2.1) ∧ w.cell? ⟨g, off + i * 5 + 2, none⟩ = some (.slice A2 xs[i].2.2.1.length c2) ∧ w.cell? ⟨g, off + i * 5 + 3, none⟩ = some (.slice A3 xs[i].2.2.2.1.length c3) ∧ w.cell? ⟨g, off + i * 5 + 4, none⟩ = some (.slice A4 xs[i].2.2.2.2.length c4) ∧ I64 xs[i].1 ∧ SR shS w lo hi A2 c2 xs[i].2.2.1 ∧ SR shS w lo hi A3 c3 xs[i].2.2.2.1 ∧ SR shI w lo hi A4 c4 xs[i].2.2.2.2 ∧ True := by
  obtain ⟨g, off, cs, hA, h1, h2, hc, hr⟩ := h.at_ hi'
  obtain ⟨A2, c2, A3, c3, A4, c4, rfl, b0, b2, b3, b4⟩ := openSlot hr
  exact ⟨g, off, A2, c2, A3, c3, A4, c4, hA, h1, h2, hc.2 0 (by decide), hc.2 1 (by decide), hc.2 2 (by decide), hc.2 3 (by decide), hc.2 4 (by decide), b0, b2, b3, b4, trivial⟩
abbrev TBtree : Type := Int × (List TSlot)
def shBtree : Sh TBtree := (shP shI (shL shSlot))
theorem good_Btree : Good shBtree := (good_P good_I (good_L good_Slot))
theorem openBtree {w : World} {lo hi : Nat} {cs : List Value} {x : TBtree} (h : shBtree.rep w lo hi cs x) :
    ∃ (A1 : Option Addr) (c1 : Nat), cs = [.int .i64 x.1, .slice A1 x.2.length c1] ∧ I64 x.1 ∧ SR shSlot w lo hi A1 c1 x.2 := by
  obtain ⟨p1, q1, rfl, l1, r1⟩ := open_P h
  obtain ⟨rfl, b0⟩ := l1
  obtain ⟨A1, c1, rfl, b1⟩ := r1
  exact ⟨A1, c1, rfl, b0, b1⟩
theorem mkBtree {w : World} {lo hi : Nat} {x : TBtree} {A1 : Option Addr} {c1 : Nat} (b0 : I64 x.1) (b1 : SR shSlot w lo hi A1 c1 x.2) : shBtree.rep w lo hi [.int .i64 x.1, .slice A1 x.2.length c1] x :=
  (mk_P good_I ⟨rfl, b0⟩ ⟨A1, c1, rfl, b1⟩)
theorem openOBtree {w : World} {lo hi : Nat} {cs : List Value} {x : TBtree} {bl : List Nat} (h : shBtree.own w lo hi cs x bl) :
    ∃ (A1 : Option Addr) (c1 : Nat) (bl1 : List Nat), cs = [.int .i64 x.1, .slice A1 x.2.length c1] ∧ bl = bl1 ∧ I64 x.1 ∧ SO shSlot w lo hi A1 c1 x.2 bl1 := by
  obtain ⟨p1, q1, _, _, rfl, rfl, l1, r1⟩ := openO_P h
  obtain ⟨⟨rfl, b0⟩, rfl⟩ := l1
  obtain ⟨A1, c1, rfl, b1⟩ := r1
  exact ⟨A1, c1, _, rfl, by simp, b0, b1⟩
theorem mkOBtree {w : World} {lo hi : Nat} {x : TBtree} {A1 : Option Addr} {c1 : Nat} {bl1 : List Nat} (b0 : I64 x.1) (b1 : SO shSlot w lo hi A1 c1 x.2 bl1) : shBtree.own w lo hi [.int .i64 x.1, .slice A1 x.2.length c1] x (bl1) := by
  have h : shBtree.own w lo hi [.int .i64 x.1, .slice A1 x.2.length c1] x _ := (mkO_P good_I ⟨⟨rfl, b0⟩, rfl⟩ ⟨A1, c1, rfl, b1⟩)
  simpa using h
theorem atBtree {w : World} {lo hi : Nat} {A : Option Addr} {c : Nat} {xs : List TBtree} (h : SR shBtree w lo hi A c xs) {i : Nat} (hi' : i < xs.length) :
    ∃ (g off : Nat) (A1 : Option Addr) (c1 : Nat), A = some ⟨g, off, none⟩ ∧ lo ≤ g ∧ g < hi ∧ w.cell? ⟨g, off + i * 2, none⟩ = some (.int .i64 xs[i].1) ∧ w.cell? ⟨g, off + i * 2 + 1, none⟩ = some (.slice A1 xs[i].2.length c1) ∧ I64 xs[i].1 ∧ SR shSlot w lo hi A1 c1 xs[i].2 ∧ True := by
  obtain ⟨g, off, cs, hA, h1, h2, hc, hr⟩ := h.at_ hi'
  obtain ⟨A1, c1, rfl, b0, b1⟩ := openBtree hr
  exact ⟨g, off, A1, c1, hA, h1, h2, hc.2 0 (by decide), hc.2 1 (by decide), b0, b1, trivial⟩
abbrev TJournal : Type := TDisk × Int × Int × Int × Int
def shJournal : Sh TJournal := (shP shDisk (shP shI (shP shI (shP shI shI))))
theorem good_Journal : Good shJournal := (good_P good_Disk (good_P good_I (good_P good_I (good_P good_I good_I))))
theorem openJournal {w : World} {lo hi : Nat} {cs : List Value} {x : TJournal} (h : shJournal.rep w lo hi cs x) :
    ∃ (A1 : Option Addr) (c1 : Nat) (A2 : Option Addr) (c2 : Nat), cs = [.int .i64 x.1.1, .slice A1 x.1.2.1.length c1, .slice A2 x.1.2.2.length c2, .int .i64 x.2.1, .int .i64 x.2.2.1, .int .i64 x.2.2.2.1, .int .i64 x.2.2.2.2] ∧ I64 x.1.1 ∧ SR shS w lo hi A1 c1 x.1.2.1 ∧ SR shPut w lo hi A2 c2 x.1.2.2 ∧ I64 x.2.1 ∧ I64 x.2.2.1 ∧ I64 x.2.2.2.1 ∧ I64 x.2.2.2.2 := by
  obtain ⟨p1, q1, rfl, l1, r1⟩ := open_P h
  obtain ⟨p2, q2, rfl, l2, r2⟩ := open_P l1
  obtain ⟨rfl, b0⟩ := l2
  obtain ⟨p3, q3, rfl, l3, r3⟩ := open_P r2
  obtain ⟨A1, c1, rfl, b1⟩ := l3
  obtain ⟨A2, c2, rfl, b2⟩ := r3
  obtain ⟨p4, q4, rfl, l4, r4⟩ := open_P r1
  obtain ⟨rfl, b3⟩ := l4
  obtain ⟨p5, q5, rfl, l5, r5⟩ := open_P r4
  obtain ⟨rfl, b4⟩ := l5
  obtain ⟨p6, q6, rfl, l6, r6⟩ := open_P r5
  obtain ⟨rfl, b5⟩ := l6
  obtain ⟨rfl, b6⟩ := r6
  exact ⟨A1, c1, A2, c2, rfl, b0, b1, b2, b3, b4, b5, b6⟩
theorem mkJournal {w : World} {lo hi : Nat} {x : TJournal} {A1 : Option Addr} {c1 : Nat} {A2 : Option Addr} {c2 : Nat} (b0 : I64 x.1.1) (b1 : SR shS w lo hi A1 c1 x.1.2.1) (b2 : SR shPut w lo hi A2 c2 x.1.2.2) (b3 : I64 x.2.1) (b4 : I64 x.2.2.1) (b5 : I64 x.2.2.2.1) (b6 : I64 x.2.2.2.2) : shJournal.rep w lo hi [.int .i64 x.1.1, .slice A1 x.1.2.1.length c1, .slice A2 x.1.2.2.length c2, .int .i64 x.2.1, .int .i64 x.2.2.1, .int .i64 x.2.2.2.1, .int .i64 x.2.2.2.2] x :=
  (mk_P good_Disk (mk_P good_I ⟨rfl, b0⟩ (mk_P (good_L good_S) ⟨A1, c1, rfl, b1⟩ ⟨A2, c2, rfl, b2⟩)) (mk_P good_I ⟨rfl, b3⟩ (mk_P good_I ⟨rfl, b4⟩ (mk_P good_I ⟨rfl, b5⟩ ⟨rfl, b6⟩))))
theorem openOJournal {w : World} {lo hi : Nat} {cs : List Value} {x : TJournal} {bl : List Nat} (h : shJournal.own w lo hi cs x bl) :
    ∃ (A1 : Option Addr) (c1 : Nat) (bl1 : List Nat) (A2 : Option Addr) (c2 : Nat) (bl2 : List Nat), cs = [.int .i64 x.1.1, .slice A1 x.1.2.1.length c1, .slice A2 x.1.2.2.length c2, .int .i64 x.2.1, .int .i64 x.2.2.1, .int .i64 x.2.2.2.1, .int .i64 x.2.2.2.2] ∧ bl = bl1 ++ bl2 ∧ I64 x.1.1 ∧ SO shS w lo hi A1 c1 x.1.2.1 bl1 ∧ SO shPut w lo hi A2 c2 x.1.2.2 bl2 ∧ I64 x.2.1 ∧ I64 x.2.2.1 ∧ I64 x.2.2.2.1 ∧ I64 x.2.2.2.2 := by
  obtain ⟨p1, q1, _, _, rfl, rfl, l1, r1⟩ := openO_P h
  obtain ⟨p2, q2, _, _, rfl, rfl, l2, r2⟩ := openO_P l1
  obtain ⟨⟨rfl, b0⟩, rfl⟩ := l2
  obtain ⟨p3, q3, _, _, rfl, rfl, l3, r3⟩ := openO_P r2
  obtain ⟨A1, c1, rfl, b1⟩ := l3
  obtain ⟨A2, c2, rfl, b2⟩ := r3
  obtain ⟨p4, q4, _, _, rfl, rfl, l4, r4⟩ := openO_P r1
  obtain ⟨⟨rfl, b3⟩, rfl⟩ := l4
  obtain ⟨p5, q5, _, _, rfl, rfl, l5, r5⟩ := openO_P r4
  obtain ⟨⟨rfl, b4⟩, rfl⟩ := l5
  obtain ⟨p6, q6, _, _, rfl, rfl, l6, r6⟩ := openO_P r5
  obtain ⟨⟨rfl, b5⟩, rfl⟩ := l6
  obtain ⟨⟨rfl, b6⟩, rfl⟩ := r6
  exact ⟨A1, c1, _, A2, c2, _, rfl, by simp, b0, b1, b2, b3, b4, b5, b6⟩
theorem mkOJournal {w : World} {lo hi : Nat} {x : TJournal} {A1 : Option Addr} {c1 : Nat} {bl1 : List Nat} {A2 : Option Addr} {c2 : Nat} {bl2 : List Nat} (b0 : I64 x.1.1) (b1 : SO shS w lo hi A1 c1 x.1.2.1 bl1) (b2 : SO shPut w lo hi A2 c2 x.1.2.2 bl2) (b3 : I64 x.2.1) (b4 : I64 x.2.2.1) (b5 : I64 x.2.2.2.1) (b6 : I64 x.2.2.2.2) : shJournal.own w lo hi [.int .i64 x.1.1, .slice A1 x.1.2.1.length c1, .slice A2 x.1.2.2.length c2, .int .i64 x.2.1, .int .i64 x.2.2.1, .int .i64 x.2.2.2.1, .int .i64 x.2.2.2.2] x (bl1 ++ bl2) := by
  have h : shJournal.own w lo hi [.int .i64 x.1.1, .slice A1 x.1.2.1.length c1, .slice A2 x.1.2.2.length c2, .int .i64 x.2.1, .int .i64 x.2.2.1, .int .i64 x.2.2.2.1, .int .i64 x.2.2.2.2] x _ := (mkO_P good_Disk (mkO_P good_I ⟨⟨rfl, b0⟩, rfl⟩ (mkO_P (good_L good_S) ⟨A1, c1, rfl, b1⟩ ⟨A2, c2, rfl, b2⟩)) (mkO_P good_I ⟨⟨rfl, b3⟩, rfl⟩ (mkO_P good_I ⟨⟨rfl, b4⟩, rfl⟩ (mkO_P good_I ⟨⟨rfl, b5⟩, rfl⟩ ⟨⟨rfl, b6⟩, rfl⟩))))
  simpa using h
theorem atJournal {w : World} {lo hi : Nat} {A : Option Addr} {c : Nat} {xs : List TJournal} (h : SR shJournal w lo hi A c xs) {i : Nat} (hi' : i < xs.length) :
    ∃ (g off : Nat) (A1 : Option Addr) (c1 : Nat) (A2 : Option Addr) (c2 : Nat), A = some ⟨g, off, none⟩ ∧ lo ≤ g ∧ g < hi ∧ w.cell? ⟨g, off + i * 7, none⟩ = some (.int .i64 xs[i].1.1) ∧ w.cell? ⟨g, off + i * 7 + 1, none⟩ = some (.slice A1 xs[i].1.2.1.length c1) ∧ w.cell? ⟨g, off + i * 7 + 2, none⟩ = some (.slice A2 xs[i].1.2.2.length c2) ∧ w.cell? ⟨g, off + i * 7 + 3, none⟩ = some (.int .i64 xs[i].2.1) ∧ w.cell? ⟨g, off + i * 7 + 4, none⟩ = some (.int .i64 xs[i].2.2.1) ∧ w.cell? ⟨g, off + i * 7 + 5, none⟩ = some (.int .i64 xs[i].2.2.2.1) ∧ w.cell? ⟨g, off + i * 7 + 6, none⟩ = some (.int .i64 xs[i].2.2.2.2) ∧ I64 xs[i].1.1 ∧ SR shS w lo hi A1 c1 xs[i].1.2.1 ∧ SR shPut w lo hi A2 c2 xs[i].1.2.2 ∧ I64 xs[i].2.1 ∧ I64 xs[i].2.2.1 ∧ I64 xs[i].2.2.2.1 ∧ I64 xs[i].2.2.2.2 ∧ True := by
  obtain ⟨g, off, cs, hA, h1, h2, hc, hr⟩ := h.at_ hi'
  obtain ⟨A1, c1, A2, c2, rfl, b0, b1, b2, b3, b4, b5, b6⟩ := openJournal hr
  exact ⟨g, off, A1, c1, A2, c2, hA, h1, h2, hc.2 0 (by decide), hc.2 1 (by decide), hc.2 2 (by decide), hc.2 3 (by decide), hc.2 4 (by decide), hc.2 5 (by decide), hc.2 6 (by decide), b0, b1, b2, b3, b4, b5, b6, trivial⟩
abbrev TNode : Type := ByteArray × (List ByteArray) × ByteArray
def shNode : Sh TNode := (shP shS (shP (shL shS) shS))
theorem good_Node : Good shNode := (good_P good_S (good_P (good_L good_S) good_S))
theorem openNode {w : World} {lo hi : Nat} {cs : List Value} {x : TNode} (h : shNode.rep w lo hi cs x) :
    ∃ (A1 : Option Addr) (c1 : Nat), cs = [.string x.1, .slice A1 x.2.1.length c1, .string x.2.2] ∧ x.1.size ≤ maxLen ∧ SR shS w lo hi A1 c1 x.2.1 ∧ x.2.2.size ≤ maxLen := by
  obtain ⟨p1, q1, rfl, l1, r1⟩ := open_P h
  obtain ⟨rfl, b0⟩ := l1
  obtain ⟨p2, q2, rfl, l2, r2⟩ := open_P r1
  obtain ⟨A1, c1, rfl, b1⟩ := l2
  obtain ⟨rfl, b2⟩ := r2
  exact ⟨A1, c1, rfl, b0, b1, b2⟩
theorem mkNode {w : World} {lo hi : Nat} {x : TNode} {A1 : Option Addr} {c1 : Nat} (b0 : x.1.size ≤ maxLen) (b1 : SR shS w lo hi A1 c1 x.2.1) (b2 : x.2.2.size ≤ maxLen) : shNode.rep w lo hi [.string x.1, .slice A1 x.2.1.length c1, .string x.2.2] x :=
  (mk_P good_S ⟨rfl, b0⟩ (mk_P (good_L good_S) ⟨A1, c1, rfl, b1⟩ ⟨rfl, b2⟩))
theorem openONode {w : World} {lo hi : Nat} {cs : List Value} {x : TNode} {bl : List Nat} (h : shNode.own w lo hi cs x bl) :
    ∃ (A1 : Option Addr) (c1 : Nat) (bl1 : List Nat), cs = [.string x.1, .slice A1 x.2.1.length c1, .string x.2.2] ∧ bl = bl1 ∧ x.1.size ≤ maxLen ∧ SO shS w lo hi A1 c1 x.2.1 bl1 ∧ x.2.2.size ≤ maxLen := by
  obtain ⟨p1, q1, _, _, rfl, rfl, l1, r1⟩ := openO_P h
  obtain ⟨⟨rfl, b0⟩, rfl⟩ := l1
  obtain ⟨p2, q2, _, _, rfl, rfl, l2, r2⟩ := openO_P r1
  obtain ⟨A1, c1, rfl, b1⟩ := l2
  obtain ⟨⟨rfl, b2⟩, rfl⟩ := r2
  exact ⟨A1, c1, _, rfl, by simp, b0, b1, b2⟩
theorem mkONode {w : World} {lo hi : Nat} {x : TNode} {A1 : Option Addr} {c1 : Nat} {bl1 : List Nat} (b0 : x.1.size ≤ maxLen) (b1 : SO shS w lo hi A1 c1 x.2.1 bl1) (b2 : x.2.2.size ≤ maxLen) : shNode.own w lo hi [.string x.1, .slice A1 x.2.1.length c1, .string x.2.2] x (bl1) := by
  have h : shNode.own w lo hi [.string x.1, .slice A1 x.2.1.length c1, .string x.2.2] x _ := (mkO_P good_S ⟨⟨rfl, b0⟩, rfl⟩ (mkO_P (good_L good_S) ⟨A1, c1, rfl, b1⟩ ⟨⟨rfl, b2⟩, rfl⟩))
  simpa using h
theorem atNode {w : World} {lo hi : Nat} {A : Option Addr} {c : Nat} {xs : List TNode} (h : SR shNode w lo hi A c xs) {i : Nat} (hi' : i < xs.length) :
    ∃ (g off : Nat) (A1 : Option Addr) (c1 : Nat), A = some ⟨g, off, none⟩ ∧ lo ≤ g ∧ g < hi ∧ w.cell? ⟨g, off + i * 3, none⟩ = some (.string xs[i].1) ∧ w.cell? ⟨g, off + i * 3 + 1, none⟩ = some (.slice A1 xs[i].2.1.length c1) ∧ w.cell? ⟨g, off + i * 3 + 2, none⟩ = some (.string xs[i].2.2) ∧ xs[i].1.size ≤ maxLen ∧ SR shS w lo hi A1 c1 xs[i].2.1 ∧ xs[i].2.2.size ≤ maxLen ∧ True := by
  obtain ⟨g, off, cs, hA, h1, h2, hc, hr⟩ := h.at_ hi'
  obtain ⟨A1, c1, rfl, b0, b1, b2⟩ := openNode hr
  exact ⟨g, off, A1, c1, hA, h1, h2, hc.2 0 (by decide), hc.2 1 (by decide), hc.2 2 (by decide), b0, b1, b2, trivial⟩
abbrev TTree : Type := (List TNode)
def shTree : Sh TTree := (shL shNode)
theorem good_Tree : Good shTree := (good_L good_Node)
theorem openTree {w : World} {lo hi : Nat} {cs : List Value} {x : TTree} (h : shTree.rep w lo hi cs x) :
    ∃ (A0 : Option Addr) (c0 : Nat), cs = [.slice A0 x.length c0] ∧ SR shNode w lo hi A0 c0 x := by
  obtain ⟨A0, c0, rfl, b0⟩ := h
  exact ⟨A0, c0, rfl, b0⟩
theorem mkTree {w : World} {lo hi : Nat} {x : TTree} {A0 : Option Addr} {c0 : Nat} (b0 : SR shNode w lo hi A0 c0 x) : shTree.rep w lo hi [.slice A0 x.length c0] x :=
  ⟨A0, c0, rfl, b0⟩
theorem openOTree {w : World} {lo hi : Nat} {cs : List Value} {x : TTree} {bl : List Nat} (h : shTree.own w lo hi cs x bl) :
    ∃ (A0 : Option Addr) (c0 : Nat) (bl0 : List Nat), cs = [.slice A0 x.length c0] ∧ bl = bl0 ∧ SO shNode w lo hi A0 c0 x bl0 := by
  obtain ⟨A0, c0, rfl, b0⟩ := h
  exact ⟨A0, c0, _, rfl, by simp, b0⟩
theorem mkOTree {w : World} {lo hi : Nat} {x : TTree} {A0 : Option Addr} {c0 : Nat} {bl0 : List Nat} (b0 : SO shNode w lo hi A0 c0 x bl0) : shTree.own w lo hi [.slice A0 x.length c0] x (bl0) := by
  have h : shTree.own w lo hi [.slice A0 x.length c0] x _ := ⟨A0, c0, rfl, b0⟩
  simpa using h
theorem atTree {w : World} {lo hi : Nat} {A : Option Addr} {c : Nat} {xs : List TTree} (h : SR shTree w lo hi A c xs) {i : Nat} (hi' : i < xs.length) :
    ∃ (g off : Nat) (A0 : Option Addr) (c0 : Nat), A = some ⟨g, off, none⟩ ∧ lo ≤ g ∧ g < hi ∧ w.cell? ⟨g, off + i, none⟩ = some (.slice A0 xs[i].length c0) ∧ SR shNode w lo hi A0 c0 xs[i] ∧ True := by
  obtain ⟨g, off, cs, hA, h1, h2, hc, hr⟩ := h.at_ hi'
  obtain ⟨A0, c0, rfl, b0⟩ := openTree hr
  exact ⟨g, off, A0, c0, hA, h1, h2, by simpa [shTree, shP, shI, shB, shS, shL] using hc.2 0 (by decide), b0, trivial⟩
abbrev TChange : Type := Int × ByteArray × (List ByteArray) × ByteArray
def shChange : Sh TChange := (shP shI (shP shS (shP (shL shS) shS)))
theorem good_Change : Good shChange := (good_P good_I (good_P good_S (good_P (good_L good_S) good_S)))
theorem openChange {w : World} {lo hi : Nat} {cs : List Value} {x : TChange} (h : shChange.rep w lo hi cs x) :
    ∃ (A2 : Option Addr) (c2 : Nat), cs = [.int .i64 x.1, .string x.2.1, .slice A2 x.2.2.1.length c2, .string x.2.2.2] ∧ I64 x.1 ∧ x.2.1.size ≤ maxLen ∧ SR shS w lo hi A2 c2 x.2.2.1 ∧ x.2.2.2.size ≤ maxLen := by
  obtain ⟨p1, q1, rfl, l1, r1⟩ := open_P h
  obtain ⟨rfl, b0⟩ := l1
  obtain ⟨p2, q2, rfl, l2, r2⟩ := open_P r1
  obtain ⟨rfl, b1⟩ := l2
  obtain ⟨p3, q3, rfl, l3, r3⟩ := open_P r2
  obtain ⟨A2, c2, rfl, b2⟩ := l3
  obtain ⟨rfl, b3⟩ := r3
  exact ⟨A2, c2, rfl, b0, b1, b2, b3⟩
theorem mkChange {w : World} {lo hi : Nat} {x : TChange} {A2 : Option Addr} {c2 : Nat} (b0 : I64 x.1) (b1 : x.2.1.size ≤ maxLen) (b2 : SR shS w lo hi A2 c2 x.2.2.1) (b3 : x.2.2.2.size ≤ maxLen) : shChange.rep w lo hi [.int .i64 x.1, .string x.2.1, .slice A2 x.2.2.1.length c2, .string x.2.2.2] x :=
  (mk_P good_I ⟨rfl, b0⟩ (mk_P good_S ⟨rfl, b1⟩ (mk_P (good_L good_S) ⟨A2, c2, rfl, b2⟩ ⟨rfl, b3⟩)))
theorem openOChange {w : World} {lo hi : Nat} {cs : List Value} {x : TChange} {bl : List Nat} (h : shChange.own w lo hi cs x bl) :
    ∃ (A2 : Option Addr) (c2 : Nat) (bl2 : List Nat), cs = [.int .i64 x.1, .string x.2.1, .slice A2 x.2.2.1.length c2, .string x.2.2.2] ∧ bl = bl2 ∧ I64 x.1 ∧ x.2.1.size ≤ maxLen ∧ SO shS w lo hi A2 c2 x.2.2.1 bl2 ∧ x.2.2.2.size ≤ maxLen := by
  obtain ⟨p1, q1, _, _, rfl, rfl, l1, r1⟩ := openO_P h
  obtain ⟨⟨rfl, b0⟩, rfl⟩ := l1
  obtain ⟨p2, q2, _, _, rfl, rfl, l2, r2⟩ := openO_P r1
  obtain ⟨⟨rfl, b1⟩, rfl⟩ := l2
  obtain ⟨p3, q3, _, _, rfl, rfl, l3, r3⟩ := openO_P r2
  obtain ⟨A2, c2, rfl, b2⟩ := l3
  obtain ⟨⟨rfl, b3⟩, rfl⟩ := r3
  exact ⟨A2, c2, _, rfl, by simp, b0, b1, b2, b3⟩
theorem mkOChange {w : World} {lo hi : Nat} {x : TChange} {A2 : Option Addr} {c2 : Nat} {bl2 : List Nat} (b0 : I64 x.1) (b1 : x.2.1.size ≤ maxLen) (b2 : SO shS w lo hi A2 c2 x.2.2.1 bl2) (b3 : x.2.2.2.size ≤ maxLen) : shChange.own w lo hi [.int .i64 x.1, .string x.2.1, .slice A2 x.2.2.1.length c2, .string x.2.2.2] x (bl2) := by
  have h : shChange.own w lo hi [.int .i64 x.1, .string x.2.1, .slice A2 x.2.2.1.length c2, .string x.2.2.2] x _ := (mkO_P good_I ⟨⟨rfl, b0⟩, rfl⟩ (mkO_P good_S ⟨⟨rfl, b1⟩, rfl⟩ (mkO_P (good_L good_S) ⟨A2, c2, rfl, b2⟩ ⟨⟨rfl, b3⟩, rfl⟩)))
  simpa using h
theorem atChange {w : World} {lo hi : Nat} {A : Option Addr} {c : Nat} {xs : List TChange} (h : SR shChange w lo hi A c xs) {i : Nat} (hi' : i < xs.length) :
    ∃ (g off : Nat) (A2 : Option Addr) (c2 : Nat), A = some ⟨g, off, none⟩ ∧ lo ≤ g ∧ g < hi ∧ w.cell? ⟨g, off + i * 4, none⟩ = some (.int .i64 xs[i].1) ∧ w.cell? ⟨g, off + i * 4 + 1, none⟩ = some (.string xs[i].2.1) ∧ w.cell? ⟨g, off + i * 4 + 2, none⟩ = some (.slice A2 xs[i].2.2.1.length c2) ∧ w.cell? ⟨g, off + i * 4 + 3, none⟩ = some (.string xs[i].2.2.2) ∧ I64 xs[i].1 ∧ xs[i].2.1.size ≤ maxLen ∧ SR shS w lo hi A2 c2 xs[i].2.2.1 ∧ xs[i].2.2.2.size ≤ maxLen ∧ True := by
  obtain ⟨g, off, cs, hA, h1, h2, hc, hr⟩ := h.at_ hi'
  obtain ⟨A2, c2, rfl, b0, b1, b2, b3⟩ := openChange hr
  exact ⟨g, off, A2, c2, hA, h1, h2, hc.2 0 (by decide), hc.2 1 (by decide), hc.2 2 (by decide), hc.2 3 (by decide), b0, b1, b2, b3, trivial⟩
abbrev TImage : Type := ByteArray × (List ByteArray) × Bool × ByteArray × Bool × ByteArray
def shImage : Sh TImage := (shP shS (shP (shL shS) (shP shB (shP shS (shP shB shS)))))
theorem good_Image : Good shImage := (good_P good_S (good_P (good_L good_S) (good_P good_B (good_P good_S (good_P good_B good_S)))))
theorem openImage {w : World} {lo hi : Nat} {cs : List Value} {x : TImage} (h : shImage.rep w lo hi cs x) :
    ∃ (A1 : Option Addr) (c1 : Nat), cs = [.string x.1, .slice A1 x.2.1.length c1, .bool x.2.2.1, .string x.2.2.2.1, .bool x.2.2.2.2.1, .string x.2.2.2.2.2] ∧ x.1.size ≤ maxLen ∧ SR shS w lo hi A1 c1 x.2.1 ∧ x.2.2.2.1.size ≤ maxLen ∧ x.2.2.2.2.2.size ≤ maxLen := by
  obtain ⟨p1, q1, rfl, l1, r1⟩ := open_P h
  obtain ⟨rfl, b0⟩ := l1
  obtain ⟨p2, q2, rfl, l2, r2⟩ := open_P r1
  obtain ⟨A1, c1, rfl, b1⟩ := l2
  obtain ⟨p3, q3, rfl, l3, r3⟩ := open_P r2
  obtain rfl := l3
  obtain ⟨p4, q4, rfl, l4, r4⟩ := open_P r3
  obtain ⟨rfl, b3⟩ := l4
  obtain ⟨p5, q5, rfl, l5, r5⟩ := open_P r4
  obtain rfl := l5
  obtain ⟨rfl, b5⟩ := r5
  exact ⟨A1, c1, rfl, b0, b1, b3, b5⟩
theorem mkImage {w : World} {lo hi : Nat} {x : TImage} {A1 : Option Addr} {c1 : Nat} (b0 : x.1.size ≤ maxLen) (b1 : SR shS w lo hi A1 c1 x.2.1) (b3 : x.2.2.2.1.size ≤ maxLen) (b5 : x.2.2.2.2.2.size ≤ maxLen) : shImage.rep w lo hi [.string x.1, .slice A1 x.2.1.length c1, .bool x.2.2.1, .string x.2.2.2.1, .bool x.2.2.2.2.1, .string x.2.2.2.2.2] x :=
  (mk_P good_S ⟨rfl, b0⟩ (mk_P (good_L good_S) ⟨A1, c1, rfl, b1⟩ (mk_P good_B rfl (mk_P good_S ⟨rfl, b3⟩ (mk_P good_B rfl ⟨rfl, b5⟩)))))
theorem openOImage {w : World} {lo hi : Nat} {cs : List Value} {x : TImage} {bl : List Nat} (h : shImage.own w lo hi cs x bl) :
    ∃ (A1 : Option Addr) (c1 : Nat) (bl1 : List Nat), cs = [.string x.1, .slice A1 x.2.1.length c1, .bool x.2.2.1, .string x.2.2.2.1, .bool x.2.2.2.2.1, .string x.2.2.2.2.2] ∧ bl = bl1 ∧ x.1.size ≤ maxLen ∧ SO shS w lo hi A1 c1 x.2.1 bl1 ∧ x.2.2.2.1.size ≤ maxLen ∧ x.2.2.2.2.2.size ≤ maxLen := by
  obtain ⟨p1, q1, _, _, rfl, rfl, l1, r1⟩ := openO_P h
  obtain ⟨⟨rfl, b0⟩, rfl⟩ := l1
  obtain ⟨p2, q2, _, _, rfl, rfl, l2, r2⟩ := openO_P r1
  obtain ⟨A1, c1, rfl, b1⟩ := l2
  obtain ⟨p3, q3, _, _, rfl, rfl, l3, r3⟩ := openO_P r2
  obtain ⟨rfl, rfl⟩ := l3
  obtain ⟨p4, q4, _, _, rfl, rfl, l4, r4⟩ := openO_P r3
  obtain ⟨⟨rfl, b3⟩, rfl⟩ := l4
  obtain ⟨p5, q5, _, _, rfl, rfl, l5, r5⟩ := openO_P r4
  obtain ⟨rfl, rfl⟩ := l5
  obtain ⟨⟨rfl, b5⟩, rfl⟩ := r5
  exact ⟨A1, c1, _, rfl, by simp, b0, b1, b3, b5⟩
theorem mkOImage {w : World} {lo hi : Nat} {x : TImage} {A1 : Option Addr} {c1 : Nat} {bl1 : List Nat} (b0 : x.1.size ≤ maxLen) (b1 : SO shS w lo hi A1 c1 x.2.1 bl1) (b3 : x.2.2.2.1.size ≤ maxLen) (b5 : x.2.2.2.2.2.size ≤ maxLen) : shImage.own w lo hi [.string x.1, .slice A1 x.2.1.length c1, .bool x.2.2.1, .string x.2.2.2.1, .bool x.2.2.2.2.1, .string x.2.2.2.2.2] x (bl1) := by
  have h : shImage.own w lo hi [.string x.1, .slice A1 x.2.1.length c1, .bool x.2.2.1, .string x.2.2.2.1, .bool x.2.2.2.2.1, .string x.2.2.2.2.2] x _ := (mkO_P good_S ⟨⟨rfl, b0⟩, rfl⟩ (mkO_P (good_L good_S) ⟨A1, c1, rfl, b1⟩ (mkO_P good_B ⟨rfl, rfl⟩ (mkO_P good_S ⟨⟨rfl, b3⟩, rfl⟩ (mkO_P good_B ⟨rfl, rfl⟩ ⟨⟨rfl, b5⟩, rfl⟩)))))
  simpa using h
theorem atImage {w : World} {lo hi : Nat} {A : Option Addr} {c : Nat} {xs : List TImage} (h : SR shImage w lo hi A c xs) {i : Nat} (hi' : i < xs.length) :
    ∃ (g off : Nat) (A1 : Option Addr) (c1 : Nat), A = some ⟨g, off, none⟩ ∧ lo ≤ g ∧ g < hi ∧ w.cell? ⟨g, off + i * 6, none⟩ = some (.string xs[i].1) ∧ w.cell? ⟨g, off + i * 6 + 1, none⟩ = some (.slice A1 xs[i].2.1.length c1) ∧ w.cell? ⟨g, off + i * 6 + 2, none⟩ = some (.bool xs[i].2.2.1) ∧ w.cell? ⟨g, off + i * 6 + 3, none⟩ = some (.string xs[i].2.2.2.1) ∧ w.cell? ⟨g, off + i * 6 + 4, none⟩ = some (.bool xs[i].2.2.2.2.1) ∧ w.cell? ⟨g, off + i * 6 + 5, none⟩ = some (.string xs[i].2.2.2.2.2) ∧ xs[i].1.size ≤ maxLen ∧ SR shS w lo hi A1 c1 xs[i].2.1 ∧ xs[i].2.2.2.1.size ≤ maxLen ∧ xs[i].2.2.2.2.2.size ≤ maxLen ∧ True := by
  obtain ⟨g, off, cs, hA, h1, h2, hc, hr⟩ := h.at_ hi'
  obtain ⟨A1, c1, rfl, b0, b1, b3, b5⟩ := openImage hr
  exact ⟨g, off, A1, c1, hA, h1, h2, hc.2 0 (by decide), hc.2 1 (by decide), hc.2 2 (by decide), hc.2 3 (by decide), hc.2 4 (by decide), hc.2 5 (by decide), b0, b1, b3, b5, trivial⟩
abbrev TParcel : Type := Int × (List TImage)
def shParcel : Sh TParcel := (shP shI (shL shImage))
theorem good_Parcel : Good shParcel := (good_P good_I (good_L good_Image))
theorem openParcel {w : World} {lo hi : Nat} {cs : List Value} {x : TParcel} (h : shParcel.rep w lo hi cs x) :
    ∃ (A1 : Option Addr) (c1 : Nat), cs = [.int .i64 x.1, .slice A1 x.2.length c1] ∧ I64 x.1 ∧ SR shImage w lo hi A1 c1 x.2 := by
  obtain ⟨p1, q1, rfl, l1, r1⟩ := open_P h
  obtain ⟨rfl, b0⟩ := l1
  obtain ⟨A1, c1, rfl, b1⟩ := r1
  exact ⟨A1, c1, rfl, b0, b1⟩
theorem mkParcel {w : World} {lo hi : Nat} {x : TParcel} {A1 : Option Addr} {c1 : Nat} (b0 : I64 x.1) (b1 : SR shImage w lo hi A1 c1 x.2) : shParcel.rep w lo hi [.int .i64 x.1, .slice A1 x.2.length c1] x :=
  (mk_P good_I ⟨rfl, b0⟩ ⟨A1, c1, rfl, b1⟩)
theorem openOParcel {w : World} {lo hi : Nat} {cs : List Value} {x : TParcel} {bl : List Nat} (h : shParcel.own w lo hi cs x bl) :
    ∃ (A1 : Option Addr) (c1 : Nat) (bl1 : List Nat), cs = [.int .i64 x.1, .slice A1 x.2.length c1] ∧ bl = bl1 ∧ I64 x.1 ∧ SO shImage w lo hi A1 c1 x.2 bl1 := by
  obtain ⟨p1, q1, _, _, rfl, rfl, l1, r1⟩ := openO_P h
  obtain ⟨⟨rfl, b0⟩, rfl⟩ := l1
  obtain ⟨A1, c1, rfl, b1⟩ := r1
  exact ⟨A1, c1, _, rfl, by simp, b0, b1⟩
theorem mkOParcel {w : World} {lo hi : Nat} {x : TParcel} {A1 : Option Addr} {c1 : Nat} {bl1 : List Nat} (b0 : I64 x.1) (b1 : SO shImage w lo hi A1 c1 x.2 bl1) : shParcel.own w lo hi [.int .i64 x.1, .slice A1 x.2.length c1] x (bl1) := by
  have h : shParcel.own w lo hi [.int .i64 x.1, .slice A1 x.2.length c1] x _ := (mkO_P good_I ⟨⟨rfl, b0⟩, rfl⟩ ⟨A1, c1, rfl, b1⟩)
  simpa using h
theorem atParcel {w : World} {lo hi : Nat} {A : Option Addr} {c : Nat} {xs : List TParcel} (h : SR shParcel w lo hi A c xs) {i : Nat} (hi' : i < xs.length) :
    ∃ (g off : Nat) (A1 : Option Addr) (c1 : Nat), A = some ⟨g, off, none⟩ ∧ lo ≤ g ∧ g < hi ∧ w.cell? ⟨g, off + i * 2, none⟩ = some (.int .i64 xs[i].1) ∧ w.cell? ⟨g, off + i * 2 + 1, none⟩ = some (.slice A1 xs[i].2.length c1) ∧ I64 xs[i].1 ∧ SR shImage w lo hi A1 c1 xs[i].2 ∧ True := by
  obtain ⟨g, off, cs, hA, h1, h2, hc, hr⟩ := h.at_ hi'
  obtain ⟨A1, c1, rfl, b0, b1⟩ := openParcel hr
  exact ⟨g, off, A1, c1, hA, h1, h2, hc.2 0 (by decide), hc.2 1 (by decide), b0, b1, trivial⟩
abbrev TReplica : Type := TTree × Int × (List TParcel)
def shReplica : Sh TReplica := (shP shTree (shP shI (shL shParcel)))
theorem good_Replica : Good shReplica := (good_P good_Tree (good_P good_I (good_L good_Parcel)))
theorem openReplica {w : World} {lo hi : Nat} {cs : List Value} {x : TReplica} (h : shReplica.rep w lo hi cs x) :
    ∃ (A0 : Option Addr) (c0 : Nat) (A2 : Option Addr) (c2 : Nat), cs = [.slice A0 x.1.length c0, .int .i64 x.2.1, .slice A2 x.2.2.length c2] ∧ SR shNode w lo hi A0 c0 x.1 ∧ I64 x.2.1 ∧ SR shParcel w lo hi A2 c2 x.2.2 := by
  obtain ⟨p1, q1, rfl, l1, r1⟩ := open_P h
  obtain ⟨A0, c0, rfl, b0⟩ := l1
  obtain ⟨p2, q2, rfl, l2, r2⟩ := open_P r1
  obtain ⟨rfl, b1⟩ := l2
  obtain ⟨A2, c2, rfl, b2⟩ := r2
  exact ⟨A0, c0, A2, c2, rfl, b0, b1, b2⟩
theorem mkReplica {w : World} {lo hi : Nat} {x : TReplica} {A0 : Option Addr} {c0 : Nat} {A2 : Option Addr} {c2 : Nat} (b0 : SR shNode w lo hi A0 c0 x.1) (b1 : I64 x.2.1) (b2 : SR shParcel w lo hi A2 c2 x.2.2) : shReplica.rep w lo hi [.slice A0 x.1.length c0, .int .i64 x.2.1, .slice A2 x.2.2.length c2] x :=
  (mk_P good_Tree ⟨A0, c0, rfl, b0⟩ (mk_P good_I ⟨rfl, b1⟩ ⟨A2, c2, rfl, b2⟩))
theorem openOReplica {w : World} {lo hi : Nat} {cs : List Value} {x : TReplica} {bl : List Nat} (h : shReplica.own w lo hi cs x bl) :
    ∃ (A0 : Option Addr) (c0 : Nat) (bl0 : List Nat) (A2 : Option Addr) (c2 : Nat) (bl2 : List Nat), cs = [.slice A0 x.1.length c0, .int .i64 x.2.1, .slice A2 x.2.2.length c2] ∧ bl = bl0 ++ bl2 ∧ SO shNode w lo hi A0 c0 x.1 bl0 ∧ I64 x.2.1 ∧ SO shParcel w lo hi A2 c2 x.2.2 bl2 := by
  obtain ⟨p1, q1, _, _, rfl, rfl, l1, r1⟩ := openO_P h
  obtain ⟨A0, c0, rfl, b0⟩ := l1
  obtain ⟨p2, q2, _, _, rfl, rfl, l2, r2⟩ := openO_P r1
  obtain ⟨⟨rfl, b1⟩, rfl⟩ := l2
  obtain ⟨A2, c2, rfl, b2⟩ := r2
  exact ⟨A0, c0, _, A2, c2, _, rfl, by simp, b0, b1, b2⟩
theorem mkOReplica {w : World} {lo hi : Nat} {x : TReplica} {A0 : Option Addr} {c0 : Nat} {bl0 : List Nat} {A2 : Option Addr} {c2 : Nat} {bl2 : List Nat} (b0 : SO shNode w lo hi A0 c0 x.1 bl0) (b1 : I64 x.2.1) (b2 : SO shParcel w lo hi A2 c2 x.2.2 bl2) : shReplica.own w lo hi [.slice A0 x.1.length c0, .int .i64 x.2.1, .slice A2 x.2.2.length c2] x (bl0 ++ bl2) := by
  have h : shReplica.own w lo hi [.slice A0 x.1.length c0, .int .i64 x.2.1, .slice A2 x.2.2.length c2] x _ := (mkO_P good_Tree ⟨A0, c0, rfl, b0⟩ (mkO_P good_I ⟨⟨rfl, b1⟩, rfl⟩ ⟨A2, c2, rfl, b2⟩))
  simpa using h
theorem atReplica {w : World} {lo hi : Nat} {A : Option Addr} {c : Nat} {xs : List TReplica} (h : SR shReplica w lo hi A c xs) {i : Nat} (hi' : i < xs.length) :
    ∃ (g off : Nat) (A0 : Option Addr) (c0 : Nat) (A2 : Option Addr) (c2 : Nat), A = some ⟨g, off, none⟩ ∧ lo ≤ g ∧ g < hi ∧ w.cell? ⟨g, off + i * 3, none⟩ = some (.slice A0 xs[i].1.length c0) ∧ w.cell? ⟨g, off + i * 3 + 1, none⟩ = some (.int .i64 xs[i].2.1) ∧ w.cell? ⟨g, off + i * 3 + 2, none⟩ = some (.slice A2 xs[i].2.2.length c2) ∧ SR shNode w lo hi A0 c0 xs[i].1 ∧ I64 xs[i].2.1 ∧ SR shParcel w lo hi A2 c2 xs[i].2.2 ∧ True := by
  obtain ⟨g, off, cs, hA, h1, h2, hc, hr⟩ := h.at_ hi'
  obtain ⟨A0, c0, A2, c2, rfl, b0, b1, b2⟩ := openReplica hr
  exact ⟨g, off, A0, c0, A2, c2, hA, h1, h2, hc.2 0 (by decide), hc.2 1 (by decide), hc.2 2 (by decide), b0, b1, b2, trivial⟩
abbrev TCache : Type := TDisk × TTop × TTop × (List TSeat) × (List Int)
def shCache : Sh TCache := (shP shDisk (shP shTop (shP shTop (shP (shL shSeat) (shL shI)))))
theorem good_Cache : Good shCache := (good_P good_Disk (good_P good_Top (good_P good_Top (good_P (good_L good_Seat) (good_L good_I)))))
theorem openCache {w : World} {lo hi : Nat} {cs : List Value} {x : TCache} (h : shCache.rep w lo hi cs x) :
    ∃ (A1 : Option Addr) (c1 : Nat) (A2 : Option Addr) (c2 : Nat) (A6 : Option Addr) (c6 : Nat) (A10 : Option Addr) (c10 : Nat) (A11 : Option Addr) (c11 : Nat) (A12 : Option Addr) (c12 : Nat), cs = [.int .i64 x.1.1, .slice A1 x.1.2.1.length c1, .slice A2 x.1.2.2.length c2, .int .i64 x.2.1.1, .int .i64 x.2.1.2.1, .int .i64 x.2.1.2.2.1, .slice A6 x.2.1.2.2.2.length c6, .int .i64 x.2.2.1.1, .int .i64 x.2.2.1.2.1, .int .i64 x.2.2.1.2.2.1, .slice A10 x.2.2.1.2.2.2.length c10, .slice A11 x.2.2.2.1.length c11, .slice A12 x.2.2.2.2.length c12] ∧ I64 x.1.1 ∧ SR shS w lo hi A1 c1 x.1.2.1 ∧ SR shPut w lo hi A2 c2 x.1.2.2 ∧ I64 x.2.1.1 ∧ I64 x.2.1.2.1 ∧ I64 x.2.1.2.2.1 ∧ SR shSeat w lo hi A6 c6 x.2.1.2.2.2 ∧ I64 x.2.2.1.1 ∧ I64 x.2.2.1.2.1 ∧ I64 x.2.2.1.2.2.1 ∧ SR shSeat w lo hi A10 c10 x.2.2.1.2.2.2 ∧ SR shSeat w lo hi A11 c11 x.2.2.2.1 ∧ SR shI w lo hi A12 c12 x.2.2.2.2 := by
  obtain ⟨p1, q1, rfl, l1, r1⟩ := open_P h
  obtain ⟨p2, q2, rfl, l2, r2⟩ := open_P l1
  obtain ⟨rfl, b0⟩ := l2
  obtain ⟨p3, q3, rfl, l3, r3⟩ := open_P r2
  obtain ⟨A1, c1, rfl, b1⟩ := l3
  obtain ⟨A2, c2, rfl, b2⟩ := r3
  obtain ⟨p4, q4, rfl, l4, r4⟩ := open_P r1
  obtain ⟨p5, q5, rfl, l5, r5⟩ := open_P l4
  obtain ⟨rfl, b3⟩ := l5
  obtain ⟨p6, q6, rfl, l6, r6⟩ := open_P r5
  obtain ⟨rfl, b4⟩ := l6
  obtain ⟨p7, q7, rfl, l7, r7⟩ := open_P r6
  obtain ⟨rfl, b5⟩ := l7
  obtain ⟨A6, c6, rfl, b6⟩ := r7
  obtain ⟨p8, q8, rfl, l8, r8⟩ := open_P r4
  obtain ⟨p9, q9, rfl, l9, r9⟩ := open_P l8
  obtain ⟨rfl, b7⟩ := l9
  obtain ⟨p10, q10, rfl, l10, r10⟩ := open_P r9
  obtain ⟨rfl, b8⟩ := l10
  obtain ⟨p11, q11, rfl, l11, r11⟩ := open_P r10
  obtain ⟨rfl, b9⟩ := l11
  obtain ⟨A10, c10, rfl, b10⟩ := r11
  obtain ⟨p12, q12, rfl, l12, r12⟩ := open_P r8
  obtain ⟨A11, c11, rfl, b11⟩ := l12
  obtain ⟨A12, c12, rfl, b12⟩ := r12
  exact ⟨A1, c1, A2, c2, A6, c6, A10, c10, A11, c11, A12, c12, rfl, b0, b1, b2, b3, b4, b5, b6, b7, b8, b9, b10, b11, b12⟩
theorem mkCache {w : World} {lo hi : Nat} {x : TCache} {A1 : Option Addr} {c1 : Nat} {A2 : Option Addr} {c2 : Nat} {A6 : Option Addr} {c6 : Nat} {A10 : Option Addr} {c10 : Nat} {A11 : Option Addr} {c11 : Nat} {A12 : Option Addr} {c12 : Nat} (b0 : I64 x.1.1) (b1 : SR shS w lo hi A1 c1 x.1.2.1) (b2 : SR shPut w lo hi A2 c2 x.1.2.2) (b3 : I64 x.2.1.1) (b4 : I64 x.2.1.2.1) (b5 : I64 x.2.1.2.2.1) (b6 : SR shSeat w lo hi A6 c6 x.2.1.2.2.2) (b7 : I64 x.2.2.1.1) (b8 : I64 x.2.2.1.2.1) (b9 : I64 x.2.2.1.2.2.1) (b10 : SR shSeat w lo hi A10 c10 x.2.2.1.2.2.2) (b11 : SR shSeat w lo hi A11 c11 x.2.2.2.1) (b12 : SR shI w lo hi A12 c12 x.2.2.2.2) : shCache.rep w lo hi [.int .i64 x.1.1, .slice A1 x.1.2.1.length c1, .slice A2 x.1.2.2.length c2, .int .i64 x.2.1.1, .int .i64 x.2.1.2.1, .int .i64 x.2.1.2.2.1, .slice A6 x.2.1.2.2.2.length c6, .int .i64 x.2.2.1.1, .int .i64 x.2.2.1.2.1, .int .i64 x.2.2.1.2.2.1, .slice A10 x.2.2.1.2.2.2.length c10, .slice A11 x.2.2.2.1.length c11, .slice A12 x.2.2.2.2.length c12] x :=
  (mk_P good_Disk (mk_P good_I ⟨rfl, b0⟩ (mk_P (good_L good_S) ⟨A1, c1, rfl, b1⟩ ⟨A2, c2, rfl, b2⟩)) (mk_P good_Top (mk_P good_I ⟨rfl, b3⟩ (mk_P good_I ⟨rfl, b4⟩ (mk_P good_I ⟨rfl, b5⟩ ⟨A6, c6, rfl, b6⟩))) (mk_P good_Top (mk_P good_I ⟨rfl, b7⟩ (mk_P good_I ⟨rfl, b8⟩ (mk_P good_I ⟨rfl, b9⟩ ⟨A10, c10, rfl, b10⟩))) (mk_P (good_L good_Seat) ⟨A11, c11, rfl, b11⟩ ⟨A12, c12, rfl, b12⟩))))
theorem openOCache {w : World} {lo hi : Nat} {cs : List Value} {x : TCache} {bl : List Nat} (h : shCache.own w lo hi cs x bl) :
    ∃ (A1 : Option Addr) (c1 : Nat) (bl1 : List Nat) (A2 : Option Addr) (c2 : Nat) (bl2 : List Nat) (A6 : Option Addr) (c6 : Nat) (bl6 : List Nat) (A10 : Option Addr) (c10 : Nat) (bl10 : List Nat) (A11 : Option Addr) (c11 : Nat) (bl11 : List Nat) (A12 : Option Addr) (c12 : Nat) (bl12 : List Nat), cs = [.int .i64 x.1.1, .slice A1 x.1.2.1.length c1, .slice A2 x.1.2.2.length c2, .int .i64 x.2.1.1, .int .i64 x.2.1.2.1, .int .i64 x.2.1.2.2.1, .slice A6 x.2.1.2.2.2.length c6, .int .i64 x.2.2.1.1, .int .i64 x.2.2.1.2.1, .int .i64 x.2.2.1.2.2.1, .slice A10 x.2.2.1.2.2.2.length c10, .slice A11 x.2.2.2.1.length c11, .slice A12 x.2.2.2.2.length c12] ∧ bl = bl1 ++ bl2 ++ bl6 ++ bl10 ++ bl11 ++ bl12 ∧ I64 x.1.1 ∧ SO shS w lo hi A1 c1 x.1.2.1 bl1 ∧ SO shPut w lo hi A2 c2 x.1.2.2 bl2 ∧ I64 x.2.1.1 ∧ I64 x.2.1.2.1 ∧ I64 x.2.1.2.2.1 ∧ SO shSeat w lo hi A6 c6 x.2.1.2.2.2 bl6 ∧ I64 x.2.2.1.1 ∧ I64 x.2.2.1.2.1 ∧ I64 x.2.2.1.2.2.1 ∧ SO shSeat w lo hi A10 c10 x.2.2.1.2.2.2 bl10 ∧ SO shSeat w lo hi A11 c11 x.2.2.2.1 bl11 ∧ SO shI w lo hi A12 c12 x.2.2.2.2 bl12 := by
  obtain ⟨p1, q1, _, _, rfl, rfl, l1, r1⟩ := openO_P h
  obtain ⟨p2, q2, _, _, rfl, rfl, l2, r2⟩ := openO_P l1
  obtain ⟨⟨rfl, b0⟩, rfl⟩ := l2
  obtain ⟨p3, q3, _, _, rfl, rfl, l3, r3⟩ := openO_P r2
  obtain ⟨A1, c1, rfl, b1⟩ := l3
  obtain ⟨A2, c2, rfl, b2⟩ := r3
  obtain ⟨p4, q4, _, _, rfl, rfl, l4, r4⟩ := openO_P r1
  obtain ⟨p5, q5, _, _, rfl, rfl, l5, r5⟩ := openO_P l4
  obtain ⟨⟨rfl, b3⟩, rfl⟩ := l5
  obtain ⟨p6, q6, _, _, rfl, rfl, l6, r6⟩ := openO_P r5
  obtain ⟨⟨rfl, b4⟩, rfl⟩ := l6
  obtain ⟨p7, q7, _, _, rfl, rfl, l7, r7⟩ := openO_P r6
  obtain ⟨⟨rfl, b5⟩, rfl⟩ := l7
  obtain ⟨A6, c6, rfl, b6⟩ := r7
  obtain ⟨p8, q8, _, _, rfl, rfl, l8, r8⟩ := openO_P r4
  obtain ⟨p9, q9, _, _, rfl, rfl, l9, r9⟩ := openO_P l8
  obtain ⟨⟨rfl, b7⟩, rfl⟩ := l9
  obtain ⟨p10, q10, _, _, rfl, rfl, l10, r10⟩ := openO_P r9
  obtain ⟨⟨rfl, b8⟩, rfl⟩ := l10
  obtain ⟨p11, q11, _, _, rfl, rfl, l11, r11⟩ := openO_P r10
  obtain ⟨⟨rfl, b9⟩, rfl⟩ := l11
  obtain ⟨A10, c10, rfl, b10⟩ := r11
  obtain ⟨p12, q12, _, _, rfl, rfl, l12, r12⟩ := openO_P r8
  obtain ⟨A11, c11, rfl, b11⟩ := l12
  obtain ⟨A12, c12, rfl, b12⟩ := r12
  exact ⟨A1, c1, _, A2, c2, _, A6, c6, _, A10, c10, _, A11, c11, _, A12, c12, _, rfl, by simp, b0, b1, b2, b3, b4, b5, b6, b7, b8, b9, b10, b11, b12⟩
theorem mkOCache {w : World} {lo hi : Nat} {x : TCache} {A1 : Option Addr} {c1 : Nat} {bl1 : List Nat} {A2 : Option Addr} {c2 : Nat} {bl2 : List Nat} {A6 : Option Addr} {c6 : Nat} {bl6 : List Nat} {A10 : Option Addr} {c10 : Nat} {bl10 : List Nat} {A11 : Option Addr} {c11 : Nat} {bl11 : List Nat} {A12 : Option Addr} {c12 : Nat} {bl12 : List Nat} (b0 : I64 x.1.1) (b1 : SO shS w lo hi A1 c1 x.1.2.1 bl1) (b2 : SO shPut w lo hi A2 c2 x.1.2.2 bl2) (b3 : I64 x.2.1.1) (b4 : I64 x.2.1.2.1) (b5 : I64 x.2.1.2.2.1) (b6 : SO shSeat w lo hi A6 c6 x.2.1.2.2.2 bl6) (b7 : I64 x.2.2.1.1) (b8 : I64 x.2.2.1.2.1) (b9 : I64 x.2.2.1.2.2.1) (b10 : SO shSeat w lo hi A10 c10 x.2.2.1.2.2.2 bl10) (b11 : SO shSeat w lo hi A11 c11 x.2.2.2.1 bl11) (b12 : SO shI w lo hi A12 c12 x.2.2.2.2 bl12) : shCache.own w lo hi [.int .i64 x.1.1, .slice A1 x.1.2.1.length c1, .slice A2 x.1.2.2.length c2, .int .i64 x.2.1.1, .int .i64 x.2.1.2.1, .int .i64 x.2.1.2.2.1, .slice A6 x.2.1.2.2.2.length c6, .int .i64 x.2.2.1.1, .int .i64 x.2.2.1.2.1, .int .i64 x.2.2.1.2.2.1, .slice A10 x.2.2.1.2.2.2.length c10, .slice A11 x.2.2.2.1.length c11, .slice A12 x.2.2.2.2.length c12] x (bl1 ++ bl2 ++ bl6 ++ bl10 ++ bl11 ++ bl12) := by
  have h : shCache.own w lo hi [.int .i64 x.1.1, .slice A1 x.1.2.1.length c1, .slice A2 x.1.2.2.length c2, .int .i64 x.2.1.1, .int .i64 x.2.1.2.1, .int .i64 x.2.1.2.2.1, .slice A6 x.2.1.2.2.2.length c6, .int .i64 x.2.2.1.1, .int .i64 x.2.2.1.2.1, .int .i64 x.2.2.1.2.2.1, .slice A10 x.2.2.1.2.2.2.length c10, .slice A11 x.2.2.2.1.length c11, .slice A12 x.2.2.2.2.length c12] x _ := (mkO_P good_Disk (mkO_P good_I ⟨⟨rfl, b0⟩, rfl⟩ (mkO_P (good_L good_S) ⟨A1, c1, rfl, b1⟩ ⟨A2, c2, rfl, b2⟩)) (mkO_P good_Top (mkO_P good_I ⟨⟨rfl, b3⟩, rfl⟩ (mkO_P good_I ⟨⟨rfl, b4⟩, rfl⟩ (mkO_P good_I ⟨⟨rfl, b5⟩, rfl⟩ ⟨A6, c6, rfl, b6⟩))) (mkO_P good_Top (mkO_P good_I ⟨⟨rfl, b7⟩, rfl⟩ (mkO_P good_I ⟨⟨rfl, b8⟩, rfl⟩ (mkO_P good_I ⟨⟨rfl, b9⟩, rfl⟩ ⟨A10, c10, rfl, b10⟩))) (mkO_P (good_L good_Seat) ⟨A11, c11, rfl, b11⟩ ⟨A12, c12, rfl, b12⟩))))
  simpa using h
theorem atCache {w : World} {lo hi : Nat} {A : Option Addr} {c : Nat} {xs : List TCache} (h : SR shCache w lo hi A c xs) {i : Nat} (hi' : i < xs.length) :
    ∃ (g off : Nat) (A1 : Option Addr) (c1 : Nat) (A2 : Option Addr) (c2 : Nat) (A6 : Option Addr) (c6 : Nat) (A10 : Option Addr) (c10 : Nat) (A11 : Option Addr) (c11 : Nat) (A12 : Option Addr) (c12 : Nat), A = some ⟨g, off, none⟩ ∧ lo ≤ g ∧ g < hi ∧ w.cell? ⟨g, off + i * 13, none⟩ = some (.int .i64 xs[i].1.1) ∧ w.cell? ⟨g, off + i * 13 + 1, none⟩ = some (.slice A1 xs[i].1.2.1.length c1) ∧ w.cell? ⟨g, off + i * 13 + 2, none⟩ = some (.slice A2 xs[i].1.2.2.length c2) ∧ w.cell? ⟨g, off + i * 13 + 3, none⟩ = some (.int .i64 xs[i].2.1.1) ∧ w.cell? ⟨g, off + i * 13 + 4, none⟩ = some (.int .i64 xs[i].2.1.2.1) ∧ w.cell? ⟨g, off + i * 13 + 5, none⟩ = some (.int .i64 xs[i].2.1.2.2.1) ∧ w.cell? ⟨g, off + i * 13 + 6, none⟩ = some (.slice A6 xs[i].2.1.2.2.2.length c6) ∧ w.cell? ⟨g, off + i * 13 + 7, none⟩ = some (.int .i64 xs[i].2.2.1.1) ∧ w.cell? ⟨g, off + i * 13 + 8, none⟩ = some (.int .i64 xs[i].2.2.1.2.1) ∧ w.cell? ⟨g, off + i * 13 + 9, none⟩ = some (.int .i64 xs[i].2.2.1.2.2.1) ∧ w.cell? ⟨g, off + i * 13 + 10, none⟩ = some (.slice A10 xs[i].2.2.1.2.2.2.length c10) ∧ w.cell? ⟨g, off + i * 13 + 11, none⟩ = some (.slice A11 xs[i].2.2.2.1.length c11) ∧ w.cell? ⟨g, off + i * 13 + 12, none⟩ = some (.slice A12 xs[i].2.2.2.2.length c12) ∧ I64 xs[i].1.1 ∧ SR shS w lo hi A1 c1 xs[i].1.2.1 ∧ SR shPut w lo hi A2 c2 xs[i].1.2.2 ∧ I64 xs[i].2.1.1 ∧ I64 xs[i].2.1.2.1 ∧ I64 xs[i].2.1.2.2.1 ∧ SR shSeat w lo hi A6 c6 xs[i].2.1.2.2.2 ∧ I64 xs[i].2.2.1.1 ∧ I64 xs[i].2.2.1.2.1 ∧ I64 xs[i].2.2.1.2.2.1 ∧ SR shSeat w lo hi A10 c10 xs[i].2.2.1.2.2.2 ∧ SR shSeat w lo hi A11 c11 xs[i].2.2.2.1 ∧ SR shI w lo hi A12 c12 xs[i].2.2.2.2 ∧ True := by
  obtain ⟨g, off, cs, hA, h1, h2, hc, hr⟩ := h.at_ hi'
  obtain ⟨A1, c1, A2, c2, A6, c6, A10, c10, A11, c11, A12, c12, rfl, b0, b1, b2, b3, b4, b5, b6, b7, b8, b9, b10, b11, b12⟩ := openCache hr
  exact ⟨g, off, A1, c1, A2, c2, A6, c6, A10, c10, A11, c11, A12, c12, hA, h1, h2, hc.2 0 (by decide), hc.2 1 (by decide), hc.2 2 (by decide), hc.2 3 (by decide), hc.2 4 (by decide), hc.2 5 (by decide), hc.2 6 (by decide), hc.2 7 (by decide), hc.2 8 (by decide), hc.2 9 (by decide), hc.2 10 (by decide), hc.2 11 (by decide), hc.2 12 (by decide), b0, b1, b2, b3, b4, b5, b6, b7, b8, b9, b10, b11, b12, trivial⟩
abbrev TBase : Type := TBtree × TCache × TJournal × Int × Int
def shBase : Sh TBase := (shP shBtree (shP shCache (shP shJournal (shP shI shI))))
theorem good_Base : Good shBase := (good_P good_Btree (good_P good_Cache (good_P good_Journal (good_P good_I good_I))))
theorem openBase {w : World} {lo hi : Nat} {cs : List Value} {x : TBase} (h : shBase.rep w lo hi cs x) :
    ∃ (A1 : Option Addr) (c1 : Nat) (A3 : Option Addr) (c3 : Nat) (A4 : Option Addr) (c4 : Nat) (A8 : Option Addr) (c8 : Nat) (A12 : Option Addr) (c12 : Nat) (A13 : Option Addr) (c13 : Nat) (A14 : Option Addr) (c14 : Nat) (A16 : Option Addr) (c16 : Nat) (A17 : Option Addr) (c17 : Nat), cs = [.int .i64 x.1.1, .slice A1 x.1.2.length c1, .int .i64 x.2.1.1.1, .slice A3 x.2.1.1.2.1.length c3, .slice A4 x.2.1.1.2.2.length c4, .int .i64 x.2.1.2.1.1, .int .i64 x.2.1.2.1.2.1, .int .i64 x.2.1.2.1.2.2.1, .slice A8 x.2.1.2.1.2.2.2.length c8, .int .i64 x.2.1.2.2.1.1, .int .i64 x.2.1.2.2.1.2.1, .int .i64 x.2.1.2.2.1.2.2.1, .slice A12 x.2.1.2.2.1.2.2.2.length c12, .slice A13 x.2.1.2.2.2.1.length c13, .slice A14 x.2.1.2.2.2.2.length c14, .int .i64 x.2.2.1.1.1, .slice A16 x.2.2.1.1.2.1.length c16, .slice A17 x.2.2.1.1.2.2.length c17, .int .i64 x.2.2.1.2.1, .int .i64 x.2.2.1.2.2.1, .int .i64 x.2.2.1.2.2.2.1, .int .i64 x.2.2.1.2.2.2.2, .int .i64 x.2.2.2.1, .int .i64 x.2.2.2.2] ∧ I64 x.1.1 ∧ SR shSlot w lo hi A1 c1 x.1.2 ∧ I64 x.2.1.1.1 ∧ SR shS w lo hi A3 c3 x.2.1.1.2.1 ∧ SR shPut w lo hi A4 c4 x.2.1.1.2.2 ∧ I64 x.2.1.2.1.1 ∧ I64 x.2.1.2.1.2.1 ∧ I64 x.2.1.2.1.2.2.1 ∧ SR shSeat w lo hi A8 c8 x.2.1.2.1.2.2.2 ∧ I64 x.2.1.2.2.1.1 ∧ I64 x.2.1.2.2.1.2.1 ∧ I64 x.2.1.2.2.1.2.2.1 ∧ SR shSeat w lo hi A12 c12 x.2.1.2.2.1.2.2.2 ∧ SR shSeat w lo hi A13 c13 x.2.1.2.2.2.1 ∧ SR shI w lo hi A14 c14 x.2.1.2.2.2.2 ∧ I64 x.2.2.1.1.1 ∧ SR shS w lo hi A16 c16 x.2.2.1.1.2.1 ∧ SR shPut w lo hi A17 c17 x.2.2.1.1.2.2 ∧ I64 x.2.2.1.2.1 ∧ I64 x.2.2.1.2.2.1 ∧ I64 x.2.2.1.2.2.2.1 ∧ I64 x.2.2.1.2.2.2.2 ∧ I64 x.2.2.2.1 ∧ I64 x.2.2.2.2 := by
  obtain ⟨p1, q1, rfl, l1, r1⟩ := open_P h
  obtain ⟨p2, q2, rfl, l2, r2⟩ := open_P l1
  obtain ⟨rfl, b0⟩ := l2
  obtain ⟨A1, c1, rfl, b1⟩ := r2
  obtain ⟨p3, q3, rfl, l3, r3⟩ := open_P r1
  obtain ⟨p4, q4, rfl, l4, r4⟩ := open_P l3
  obtain ⟨p5, q5, rfl, l5, r5⟩ := open_P l4
  obtain ⟨rfl, b2⟩ := l5
  obtain ⟨p6, q6, rfl, l6, r6⟩ := open_P r5
  obtain ⟨A3, c3, rfl, b3⟩ := l6
  obtain ⟨A4, c4, rfl, b4⟩ := r6
  obtain ⟨p7, q7, rfl, l7, r7⟩ := open_P r4
  obtain ⟨p8, q8, rfl, l8, r8⟩ := open_P l7
  obtain ⟨rfl, b5⟩ := l8
  obtain ⟨p9, q9, rfl, l9, r9⟩ := open_P r8
  obtain ⟨rfl, b6⟩ := l9
  obtain ⟨p10, q10, rfl, l10, r10⟩ := open_P r9
  obtain ⟨rfl, b7⟩ := l10
  obtain ⟨A8, c8, rfl, b8⟩ := r10
  obtain ⟨p11, q11, rfl, l11, r11⟩ := open_P r7
  obtain ⟨p12, q12, rfl, l12, r12⟩ := open_P l11
  obtain ⟨rfl, b9⟩ := l12
  obtain ⟨p13, q13, rfl, l13, r13⟩ := open_P r12
  obtain ⟨rfl, b10⟩ := l13
  obtain ⟨p14, q14, rfl, l14, r14⟩ := open_P r13
  obtain ⟨rfl, b11⟩ := l14
  obtain ⟨A12, c12, rfl, b12⟩ := r14
  obtain ⟨p15, q15, rfl, l15, r15⟩ := open_P r11
  obtain ⟨A13, c13, rfl, b13⟩ := l15
  obtain ⟨A14, c14, rfl, b14⟩ := r15
  obtain ⟨p16, q16, rfl, l16, r16⟩ := open_P r3
  obtain ⟨p17, q17, rfl, l17, r17⟩ := open_P l16
  obtain ⟨p18, q18, rfl, l18, r18⟩ := open_P l17
  obtain ⟨rfl, b15⟩ := l18
  obtain ⟨p19, q19, rfl, l19, r19⟩ := open_P r18
  obtain ⟨A16, c16, rfl, b16⟩ := l19
  obtain ⟨A17, c17, rfl, b17⟩ := r19
  obtain ⟨p20, q20, rfl, l20, r20⟩ := open_P r17
  obtain ⟨rfl, b18⟩ := l20
  obtain ⟨p21, q21, rfl, l21, r21⟩ := open_P r20
  obtain ⟨rfl, b19⟩ := l21
  obtain ⟨p22, q22, rfl, l22, r22⟩ := open_P r21
  obtain ⟨rfl, b20⟩ := l22
  obtain ⟨rfl, b21⟩ := r22
  obtain ⟨p23, q23, rfl, l23, r23⟩ := open_P r16
  obtain ⟨rfl, b22⟩ := l23
  obtain ⟨rfl, b23⟩ := r23
  exact ⟨A1, c1, A3, c3, A4, c4, A8, c8, A12, c12, A13, c13, A14, c14, A16, c16, A17, c17, rfl, b0, b1, b2, b3, b4, b5, b6, b7, b8, b9, b10, b11, b12, b13, b14, b15, b16, b17, b18, b19, b20, b21, b22, b23⟩
theorem mkBase {w : World} {lo hi : Nat} {x : TBase} {A1 : Option Addr} {c1 : Nat} {A3 : Option Addr} {c3 : Nat} {A4 : Option Addr} {c4 : Nat} {A8 : Option Addr} {c8 : Nat} {A12 : Option Addr} {c12 : Nat} {A13 : Option Addr} {c13 : Nat} {A14 : Option Addr} {c14 : Nat} {A16 : Option Addr} {c16 : Nat} {A17 : Option Addr} {c17 : Nat} (b0 : I64 x.1.1) (b1 : SR shSlot w lo hi A1 c1 x.1.2) (b2 : I64 x.2.1.1.1) (b3 : SR shS w lo hi A3 c3 x.2.1.1.2.1) (b4 : SR shPut w lo hi A4 c4 x.2.1.1.2.2) (b5 : I64 x.2.1.2.1.1) (b6 : I64 x.2.1.2.1.2.1) (b7 : I64 x.2.1.2.1.2.2.1) (b8 : SR shSeat w lo hi A8 c8 x.2.1.2.1.2.2.2) (b9 : I64 x.2.1.2.2.1.1) (b10 : I64 x.2.1.2.2.1.2.1) (b11 : I64 x.2.1.2.2.1.2.2.1) (b12 : SR shSeat w lo hi A12 c12 x.2.1.2.2.1.2.2.2) (b13 : SR shSeat w lo hi A13 c13 x.2.1.2.2.2.1) (b14 : SR shI w lo hi A14 c14 x.2.1.2.2.2.2) (b15 : I64 x.2.2.1.1.1) (b16 : SR shS w lo hi A16 c16 x.2.2.1.1.2.1) (b17 : SR shPut w lo hi A17 c17 x.2.2.1.1.2.2) (b18 : I64 x.2.2.1.2.1) (b19 : I64 x.2.2.1.2.2.1) (b20 : I64 x.2.2.1.2.2.2.1) (b21 : I64 x.2.2.1.2.2.2.2) (b22 : I64 x.2.2.2.1) (b23 : I64 x.2.2.2.2) : shBase.rep w lo hi [.int .i64 x.1.1, .slice A1 x.1.2.length c1, .int .i64 x.2.1.1.1, .slice A3 x.2.1.1.2.1.length c3, .slice A4 x.2.1.1.2.2.length c4, .int .i64 x.2.1.2.1.1, .int .i64 x.2.1.2.1.2.1, .int .i64 x.2.1.2.1.2.2.1, .slice A8 x.2.1.2.1.2.2.2.length c8, .int .i64 x.2.1.2.2.1.1, .int .i64 x.2.1.2.2.1.2.1, .int .i64 x.2.1.2.2.1.2.2.1, .slice A12 x.2.1.2.2.1.2.2.2.length c12, .slice A13 x.2.1.2.2.2.1.length c13, .slice A14 x.2.1.2.2.2.2.length c14, .int .i64 x.2.2.1.1.1, .slice A16 x.2.2.1.1.2.1.length c16, .slice A17 x.2.2.1.1.2.2.length c17, .int .i64 x.2.2.1.2.1, .int .i64 x.2.2.1.2.2.1, .int .i64 x.2.2.1.2.2.2.1, .int .i64 x.2.2.1.2.2.2.2, .int .i64 x.2.2.2.1, .int .i64 x.2.2.2.2] x :=
  (mk_P good_Btree (mk_P good_I ⟨rfl, b0⟩ ⟨A1, c1, rfl, b1⟩) (mk_P good_Cache (mk_P good_Disk (mk_P good_I ⟨rfl, b2⟩ (mk_P (good_L good_S) ⟨A3, c3, rfl, b3⟩ ⟨A4, c4, rfl, b4⟩)) (mk_P good_Top (mk_P good_I ⟨rfl, b5⟩ (mk_P good_I ⟨rfl, b6⟩ (mk_P good_I ⟨rfl, b7⟩ ⟨A8, c8, rfl, b8⟩))) (mk_P good_Top (mk_P good_I ⟨rfl, b9⟩ (mk_P good_I ⟨rfl, b10⟩ (mk_P good_I ⟨rfl, b11⟩ ⟨A12, c12, rfl, b12⟩))) (mk_P (good_L good_Seat) ⟨A13, c13, rfl, b13⟩ ⟨A14, c14, rfl, b14⟩)))) (mk_P good_Journal (mk_P good_Disk (mk_P good_I ⟨rfl, b15⟩ (mk_P (good_L good_S) ⟨A16, c16, rfl, b16⟩ ⟨A17, c17, rfl, b17⟩)) (mk_P good_I ⟨rfl, b18⟩ (mk_P good_I ⟨rfl, b19⟩ (mk_P good_I ⟨rfl, b20⟩ ⟨rfl, b21⟩)))) (mk_P good_I ⟨rfl, b22⟩ ⟨rfl, b23⟩))))
theorem openOBase {w : World} {lo hi : Nat} {cs : List Value} {x : TBase} {bl : List Nat} (h : shBase.own w lo hi cs x bl) :
    ∃ (A1 : Option Addr) (c1 : Nat) (bl1 : List Nat) (A3 : Option Addr) (c3 : Nat) (bl3 : List Nat) (A4 : Option Addr) (c4 : Nat) (bl4 : List Nat) (A8 : Option Addr) (c8 : Nat) (bl8 : List Nat) (A12 : Option Addr) (c12 : Nat) (bl12 : List Nat) (A13 : Option Addr) (c13 : Nat) (bl13 : List Nat) (A14 : Option Addr) (c14 : Nat) (bl14 : List Nat) (A16 : Option Addr) (c16 : Nat) (bl16 : List Nat) (A17 : Option Addr) (c17 : Nat) (bl17 : List Nat), cs = [.int .i64 x.1.1, .slice A1 x.1.2.length c1, .int .i64 x.2.1.1.1, .slice A3 x.2.1.1.2.1.length c3, .slice A4 x.2.1.1.2.2.length c4, .int .i64 x.2.1.2.1.1, .int .i64 x.2.1.2.1.2.1, .int .i64 x.2.1.2.1.2.2.1, .slice A8 x.2.1.2.1.2.2.2.length c8, .int .i64 x.2.1.2.2.1.1, .int .i64 x.2.1.2.2.1.2.1, .int .i64 x.2.1.2.2.1.2.2.1, .slice A12 x.2.1.2.2.1.2.2.2.length c12, .slice A13 x.2.1.2.2.2.1.length c13, .slice A14 x.2.1.2.2.2.2.length c14, .int .i64 x.2.2.1.1.1, .slice A16 x.2.2.1.1.2.1.length c16, .slice A17 x.2.2.1.1.2.2.length c17, .int .i64 x.2.2.1.2.1, .int .i64 x.2.2.1.2.2.1, .int .i64 x.2.2.1.2.2.2.1, .int .i64 x.2.2.1.2.2.2.2, .int .i64 x.2.2.2.1, .int .i64 x.2.2.2.2] ∧ bl = bl1 ++ bl3 ++ bl4 ++ bl8 ++ bl12 ++ bl13 ++ bl14 ++ bl16 ++ bl17 ∧ I64 x.1.1 ∧ SO shSlot w lo hi A1 c1 x.1.2 bl1 ∧ I64 x.2.1.1.1 ∧ SO shS w lo hi A3 c3 x.2.1.1.2.1 bl3 ∧ SO shPut w lo hi A4 c4 x.2.1.1.2.2 bl4 ∧ I64 x.2.1.2.1.1 ∧ I64 x.2.1.2.1.2.1 ∧ I64 x.2.1.2.1.2.2.1 ∧ SO shSeat w lo hi A8 c8 x.2.1.2.1.2.2.2 bl8 ∧ I64 x.2.1.2.2.1.1 ∧ I64 x.2.1.2.2.1.2.1 ∧ I64 x.2.1.2.2.1.2.2.1 ∧ SO shSeat w lo hi A12 c12 x.2.1.2.2.1.2.2.2 bl12 ∧ SO shSeat w lo hi A13 c13 x.2.1.2.2.2.1 bl13 ∧ SO shI w lo hi A14 c14 x.2.1.2.2.2.2 bl14 ∧ I64 x.2.2.1.1.1 ∧ SO shS w lo hi A16 c16 x.2.2.1.1.2.1 bl16 ∧ SO shPut w lo hi A17 c17 x.2.2.1.1.2.2 bl17 ∧ I64 x.2.2.1.2.1 ∧ I64 x.2.2.1.2.2.1 ∧ I64 x.2.2.1.2.2.2.1 ∧ I64 x.2.2.1.2.2.2.2 ∧ I64 x.2.2.2.1 ∧ I64 x.2.2.2.2 := by
  obtain ⟨p1, q1, _, _, rfl, rfl, l1, r1⟩ := openO_P h
  obtain ⟨p2, q2, _, _, rfl, rfl, l2, r2⟩ := openO_P l1
  obtain ⟨⟨rfl, b0⟩, rfl⟩ := l2
  obtain ⟨A1, c1, rfl, b1⟩ := r2
  obtain ⟨p3, q3, _, _, rfl, rfl, l3, r3⟩ := openO_P r1
  obtain ⟨p4, q4, _, _, rfl, rfl, l4, r4⟩ := openO_P l3
  obtain ⟨p5, q5, _, _, rfl, rfl, l5, r5⟩ := openO_P l4
  obtain ⟨⟨rfl, b2⟩, rfl⟩ := l5
  obtain ⟨p6, q6, _, _, rfl, rfl, l6, r6⟩ := openO_P r5
  obtain ⟨A3, c3, rfl, b3⟩ := l6
  obtain ⟨A4, c4, rfl, b4⟩ := r6
  obtain ⟨p7, q7, _, _, rfl, rfl, l7, r7⟩ := openO_P r4
  obtain ⟨p8, q8, _, _, rfl, rfl, l8, r8⟩ := openO_P l7
  obtain ⟨⟨rfl, b5⟩, rfl⟩ := l8
  obtain ⟨p9, q9, _, _, rfl, rfl, l9, r9⟩ := openO_P r8
  obtain ⟨⟨rfl, b6⟩, rfl⟩ := l9
  obtain ⟨p10, q10, _, _, rfl, rfl, l10, r10⟩ := openO_P r9
  obtain ⟨⟨rfl, b7⟩, rfl⟩ := l10
  obtain ⟨A8, c8, rfl, b8⟩ := r10
  obtain ⟨p11, q11, _, _, rfl, rfl, l11, r11⟩ := openO_P r7
  obtain ⟨p12, q12, _, _, rfl, rfl, l12, r12⟩ := openO_P l11
  obtain ⟨⟨rfl, b9⟩, rfl⟩ := l12
  obtain ⟨p13, q13, _, _, rfl, rfl, l13, r13⟩ := openO_P r12
  obtain ⟨⟨rfl, b10⟩, rfl⟩ := l13
  obtain ⟨p14, q14, _, _, rfl, rfl, l14, r14⟩ := openO_P r13
  obtain ⟨⟨rfl, b11⟩, rfl⟩ := l14
  obtain ⟨A12, c12, rfl, b12⟩ := r14
  obtain ⟨p15, q15, _, _, rfl, rfl, l15, r15⟩ := openO_P r11
  obtain ⟨A13, c13, rfl, b13⟩ := l15
  obtain ⟨A14, c14, rfl, b14⟩ := r15
  obtain ⟨p16, q16, _, _, rfl, rfl, l16, r16⟩ := openO_P r3
  obtain ⟨p17, q17, _, _, rfl, rfl, l17, r17⟩ := openO_P l16
  obtain ⟨p18, q18, _, _, rfl, rfl, l18, r18⟩ := openO_P l17
  obtain ⟨⟨rfl, b15⟩, rfl⟩ := l18
  obtain ⟨p19, q19, _, _, rfl, rfl, l19, r19⟩ := openO_P r18
  obtain ⟨A16, c16, rfl, b16⟩ := l19
  obtain ⟨A17, c17, rfl, b17⟩ := r19
  obtain ⟨p20, q20, _, _, rfl, rfl, l20, r20⟩ := openO_P r17
  obtain ⟨⟨rfl, b18⟩, rfl⟩ := l20
  obtain ⟨p21, q21, _, _, rfl, rfl, l21, r21⟩ := openO_P r20
  obtain ⟨⟨rfl, b19⟩, rfl⟩ := l21
  obtain ⟨p22, q22, _, _, rfl, rfl, l22, r22⟩ := openO_P r21
  obtain ⟨⟨rfl, b20⟩, rfl⟩ := l22
  obtain ⟨⟨rfl, b21⟩, rfl⟩ := r22
  obtain ⟨p23, q23, _, _, rfl, rfl, l23, r23⟩ := openO_P r16
  obtain ⟨⟨rfl, b22⟩, rfl⟩ := l23
  obtain ⟨⟨rfl, b23⟩, rfl⟩ := r23
  exact ⟨A1, c1, _, A3, c3, _, A4, c4, _, A8, c8, _, A12, c12, _, A13, c13, _, A14, c14, _, A16, c16, _, A17, c17, _, rfl, by simp, b0, b1, b2, b3, b4, b5, b6, b7, b8, b9, b10, b11, b12, b13, b14, b15, b16, b17, b18, b19, b20, b21, b22, b23⟩
theorem mkOBase {w : World} {lo hi : Nat} {x : TBase} {A1 : Option Addr} {c1 : Nat} {bl1 : List Nat} {A3 : Option Addr} {c3 : Nat} {bl3 : List Nat} {A4 : Option Addr} {c4 : Nat} {bl4 : List Nat} {A8 : Option Addr} {c8 : Nat} {bl8 : List Nat} {A12 : Option Addr} {c12 : Nat} {bl12 : List Nat} {A13 : Option Addr} {c13 : Nat} {bl13 : List Nat} {A14 : Option Addr} {c14 : Nat} {bl14 : List Nat} {A16 : Option Addr} {c16 : Nat} {bl16 : List Nat} {A17 : Option Addr} {c17 : Nat} {bl17 : List Nat} (b0 : I64 x.1.1) (b1 : SO shSlot w lo hi A1 c1 x.1.2 bl1) (b2 : I64 x.2.1.1.1) (b3 : SO shS w lo hi A3 c3 x.2.1.1.2.1 bl3) (b4 : SO shPut w lo hi A4 c4 x.2.1.1.2.2 bl4) (b5 : I64 x.2.1.2.1.1) (b6 : I64 x.2.1.2.1.2.1) (b7 : I64 x.2.1.2.1.2.2.1) (b8 : SO shSeat w lo hi A8 c8 x.2.1.2.1.2.2.2 bl8) (b9 : I64 x.2.1.2.2.1.1) (b10 : I64 x.2.1.2.2.1.2.1) (b11 : I64 x.2.1.2.2.1.2.2.1) (b12 : SO shSeat w lo hi A12 c12 x.2.1.2.2.1.2.2.2 bl12) (b13 : SO shSeat w lo hi A13 c13 x.2.1.2.2.2.1 bl13) (b14 : SO shI w lo hi A14 c14 x.2.1.2.2.2.2 bl14) (b15 : I64 x.2.2.1.1.1) (b16 : SO shS w lo hi A16 c16 x.2.2.1.1.2.1 bl16) (b17 : SO shPut w lo hi A17 c17 x.2.2.1.1.2.2 bl17) (b18 : I64 x.2.2.1.2.1) (b19 : I64 x.2.2.1.2.2.1) (b20 : I64 x.2.2.1.2.2.2.1) (b21 : I64 x.2.2.1.2.2.2.2) (b22 : I64 x.2.2.2.1) (b23 : I64 x.2.2.2.2) : shBase.own w lo hi [.int .i64 x.1.1, .slice A1 x.1.2.length c1, .int .i64 x.2.1.1.1, .slice A3 x.2.1.1.2.1.length c3, .slice A4 x.2.1.1.2.2.length c4, .int .i64 x.2.1.2.1.1, .int .i64 x.2.1.2.1.2.1, .int .i64 x.2.1.2.1.2.2.1, .slice A8 x.2.1.2.1.2.2.2.length c8, .int .i64 x.2.1.2.2.1.1, .int .i64 x.2.1.2.2.1.2.1, .int .i64 x.2.1.2.2.1.2.2.1, .slice A12 x.2.1.2.2.1.2.2.2.length c12, .slice A13 x.2.1.2.2.2.1.length c13, .slice A14 x.2.1.2.2.2.2.length c14, .int .i64 x.2.2.1.1.1, .slice A16 x.2.2.1.1.2.1.length c16, .slice A17 x.2.2.1.1.2.2.length c17, .int .i64 x.2.2.1.2.1, .int .i64 x.2.2.1.2.2.1, .int .i64 x.2.2.1.2.2.2.1, .int .i64 x.2.2.1.2.2.2.2, .int .i64 x.2.2.2.1, .int .i64 x.2.2.2.2] x (bl1 ++ bl3 ++ bl4 ++ bl8 ++ bl12 ++ bl13 ++ bl14 ++ bl16 ++ bl17) := by
  have h : shBase.own w lo hi [.int .i64 x.1.1, .slice A1 x.1.2.length c1, .int .i64 x.2.1.1.1, .slice A3 x.2.1.1.2.1.length c3, .slice A4 x.2.1.1.2.2.length c4, .int .i64 x.2.1.2.1.1, .int .i64 x.2.1.2.1.2.1, .int .i64 x.2.1.2.1.2.2.1, .slice A8 x.2.1.2.1.2.2.2.length c8, .int .i64 x.2.1.2.2.1.1, .int .i64 x.2.1.2.2.1.2.1, .int .i64 x.2.1.2.2.1.2.2.1, .slice A12 x.2.1.2.2.1.2.2.2.length c12, .slice A13 x.2.1.2.2.2.1.length c13, .slice A14 x.2.1.2.2.2.2.length c14, .int .i64 x.2.2.1.1.1, .slice A16 x.2.2.1.1.2.1.length c16, .slice A17 x.2.2.1.1.2.2.length c17, .int .i64 x.2.2.1.2.1, .int .i64 x.2.2.1.2.2.1, .int .i64 x.2.2.1.2.2.2.1, .int .i64 x.2.2.1.2.2.2.2, .int .i64 x.2.2.2.1, .int .i64 x.2.2.2.2] x _ := (mkO_P good_Btree (mkO_P good_I ⟨⟨rfl, b0⟩, rfl⟩ ⟨A1, c1, rfl, b1⟩) (mkO_P good_Cache (mkO_P good_Disk (mkO_P good_I ⟨⟨rfl, b2⟩, rfl⟩ (mkO_P (good_L good_S) ⟨A3, c3, rfl, b3⟩ ⟨A4, c4, rfl, b4⟩)) (mkO_P good_Top (mkO_P good_I ⟨⟨rfl, b5⟩, rfl⟩ (mkO_P good_I ⟨⟨rfl, b6⟩, rfl⟩ (mkO_P good_I ⟨⟨rfl, b7⟩, rfl⟩ ⟨A8, c8, rfl, b8⟩))) (mkO_P good_Top (mkO_P good_I ⟨⟨rfl, b9⟩, rfl⟩ (mkO_P good_I ⟨⟨rfl, b10⟩, rfl⟩ (mkO_P good_I ⟨⟨rfl, b11⟩, rfl⟩ ⟨A12, c12, rfl, b12⟩))) (mkO_P (good_L good_Seat) ⟨A13, c13, rfl, b13⟩ ⟨A14, c14, rfl, b14⟩)))) (mkO_P good_Journal (mkO_P good_Disk (mkO_P good_I ⟨⟨rfl, b15⟩, rfl⟩ (mkO_P (good_L good_S) ⟨A16, c16, rfl, b16⟩ ⟨A17, c17, rfl, b17⟩)) (mkO_P good_I ⟨⟨rfl, b18⟩, rfl⟩ (mkO_P good_I ⟨⟨rfl, b19⟩, rfl⟩ (mkO_P good_I ⟨⟨rfl, b20⟩, rfl⟩ ⟨⟨rfl, b21⟩, rfl⟩)))) (mkO_P good_I ⟨⟨rfl, b22⟩, rfl⟩ ⟨⟨rfl, b23⟩, rfl⟩))))
  simpa using h
theorem atBase {w : World} {lo hi : Nat} {A : Option Addr} {c : Nat} {xs : List TBase} (h : SR shBase w lo hi A c xs) {i : Nat} (hi' : i < xs.length) :
    ∃ (g off : Nat) (A1 : Option Addr) (c1 : Nat) (A3 : Option Addr) (c3 : Nat) (A4 : Option Addr) (c4 : Nat) (A8 : Option Addr) (c8 : Nat) (A12 : Option Addr) (c12 : Nat) (A13 : Option Addr) (c13 : Nat) (A14 : Option Addr) (c14 : Nat) (A16 : Option Addr) (c16 : Nat) (A17 : Option Addr) (c17 : Nat), A = some ⟨g, off, none⟩ ∧ lo ≤ g ∧ g < hi ∧ w.cell? ⟨g, off + i * 24, none⟩ = some (.int .i64 xs[i].1.1) ∧ w.cell? ⟨g, off + i * 24 + 1, none⟩ = some (.slice A1 xs[i].1.2.length c1) ∧ w.cell? ⟨g, off + i * 24 + 2, none⟩ = some (.int .i64 xs[i].2.1.1.1) ∧ w.cell? ⟨g, off + i * 24 + 3, none⟩ = some (.slice A3 xs[i].2.1.1.2.1.length c3) ∧ w.cell? ⟨g, off + i * 24 + 4, none⟩ = some (.slice A4 xs[i].2.1.1.2.2.length c4) ∧ w.cell? ⟨g, off + i * 24 + 5, none⟩ = some (.int .i64 xs[i].2.1.2.1.1) ∧ w.cell? ⟨g, off + i * 24 + 6, none⟩ = some (.int .i64 xs[i].2.1.2.1.2.1) ∧ w.cell? ⟨g, off + i * 24 + 7, none⟩ = some (.int .i64 xs[i].2.1.2.1.2.2.1) ∧ w.cell? ⟨g, off + i * 24 + 8, none⟩ = some (.slice A8 xs[i].2.1.2.1.2.2.2.length c8) ∧ w.cell? ⟨g, off + i * 24 + 9, none⟩ = some (.int .i64 xs[i].2.1.2.2.1.1) ∧ w.cell? ⟨g, off + i * 24 + 10, none⟩ = some (.int .i64 xs[i].2.1.2.2.1.2.1) ∧ w.cell? ⟨g, off + i * 24 + 11, none⟩ = some (.int .i64 xs[i].2.1.2.2.1.2.2.1) ∧ w.cell? ⟨g, off + i * 24 + 12, none⟩ = some (.slice A12 xs[i].2.1.2.2.1.2.2.2.length c12) ∧ w.cell? ⟨g, off + i * 24 + 13, none⟩ = some (.slice A13 xs[i].2.1.2.2.2.1.length c13) ∧ w.cell? ⟨g, off + i * 24 + 14, none⟩ = some (.slice A14 xs[i].2.1.2.2.2.2.length c14) ∧ w.cell? ⟨g, off + i * 24 + 15, none⟩ = some (.int .i64 xs[i].2.2.1.1.1) ∧ w.cell? ⟨g, off + i * 24 + 16, none⟩ = some (.slice A16 xs[i].2.2.1.1.2.1.length c16) ∧ w.cell? ⟨g, off + i * 24 + 17, none⟩ = some (.slice A17 xs[i].2.2.1.1.2.2.length c17) ∧ w.cell? ⟨g, off + i * 24 + 18, none⟩ = some (.int .i64 xs[i].2.2.1.2.1) ∧ w.cell? ⟨g, off + i * 24 + 19, none⟩ = some (.int .i64 xs[i].2.2.1.2.2.1) ∧ w.cell? ⟨g, off + i * 24 + 20, none⟩ = some (.int .i64 xs[i].2.2.1.2.2.2.1) ∧ w.cell? ⟨g, off + i * 24 + 21, none⟩ = some (.int .i64 xs[i].2.2.1.2.2.2.2) ∧ w.cell? ⟨g, off + i * 24 + 22, none⟩ = some (.int .i64 xs[i].2.2.2.1) ∧ w.cell? ⟨g, off + i * 24 + 23, none⟩ = some (.int .i64 xs[i].2.2.2.2) ∧ I64 xs[i].1.1 ∧ SR shSlot w lo hi A1 c1 xs[i].1.2 ∧ I64 xs[i].2.1.1.1 ∧ SR shS w lo hi A3 c3 xs[i].2.1.1.2.1 ∧ SR shPut w lo hi A4 c4 xs[i].2.1.1.2.2 ∧ I64 xs[i].2.1.2.1.1 ∧ I64 xs[i].2.1.2.1.2.1 ∧ I64 xs[i].2.1.2.1.2.2.1 ∧ SR shSeat w lo hi A8 c8 xs[i].2.1.2.1.2.2.2 ∧ I64 xs[i].2.1.2.2.1.1 ∧ I64 xs[i].2.1.2.2.1.2.1 ∧ I64 xs[i].2.1.2.2.1.2.2.1 ∧ SR shSeat w lo hi A12 c12 xs[i].2.1.2.2.1.2.2.2 ∧ SR shSeat w lo hi A13 c13 xs[i].2.1.2.2.2.1 ∧ SR shI w lo hi A14 c14 xs[i].2.1.2.2.2.2 ∧ I64 xs[i].2.2.1.1.1 ∧ SR shS w lo hi A16 c16 xs[i].2.2.1.1.2.1 ∧ SR shPut w lo hi A17 c17 xs[i].2.2.1.1.2.2 ∧ I64 xs[i].2.2.1.2.1 ∧ I64 xs[i].2.2.1.2.2.1 ∧ I64 xs[i].2.2.1.2.2.2.1 ∧ I64 xs[i].2.2.1.2.2.2.2 ∧ I64 xs[i].2.2.2.1 ∧ I64 xs[i].2.2.2.2 ∧ True := by
  obtain ⟨g, off, cs, hA, h1, h2, hc, hr⟩ := h.at_ hi'
  obtain ⟨A1, c1, A3, c3, A4, c4, A8, c8, A12, c12, A13, c13, A14, c14, A16, c16, A17, c17, rfl, b0, b1, b2, b3, b4, b5, b6, b7, b8, b9, b10, b11, b12, b13, b14, b15, b16, b17, b18, b19, b20, b21, b22, b23⟩ := openBase hr
  exact ⟨g, off, A1, c1, A3, c3, A4, c4, A8, c8, A12, c12, A13, c13, A14, c14, A16, c16, A17, c17, hA, h1, h2, hc.2 0 (by decide), hc.2 1 (by decide), hc.2 2 (by decide), hc.2 3 (by decide), hc.2 4 (by decide), hc.2 5 (by decide), hc.2 6 (by decide), hc.2 7 (by decide), hc.2 8 (by decide), hc.2 9 (by decide), hc.2 10 (by decide), hc.2 11 (by decide), hc.2 12 (by decide), hc.2 13 (by decide), hc.2 14 (by decide), hc.2 15 (by decide), hc.2 16 (by decide), hc.2 17 (by decide), hc.2 18 (by decide), hc.2 19 (by decide), hc.2 20 (by decide), hc.2 21 (by decide), hc.2 22 (by decide), hc.2 23 (by decide), b0, b1, b2, b3, b4, b5, b6, b7, b8, b9, b10, b11, b12, b13, b14, b15, b16, b17, b18, b19, b20, b21, b22, b23, trivial⟩
end Go.Proofs.Ytgdcdfpnogiciaa
