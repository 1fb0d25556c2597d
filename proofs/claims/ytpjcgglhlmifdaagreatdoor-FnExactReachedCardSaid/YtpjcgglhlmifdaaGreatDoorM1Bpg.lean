/-
  Trees of pages: what a right tree is (plain).
  Shapes of the structs of the program, by a program of ours (gen.py).
  What an inspection of a tree of pages tells (plain; for FaultsOf and Reached).
-/
import Derived.Test.YtpjcgglhlmifdaaGreatDoorM1Qs
import Derived.Test.YtpjcgglhlmifdaaGreatDoorM1I
import Derived.Test.YtpjcgglhlmifdaaGreatDoorM1A
namespace Go.Proofs.YtpjcgglhlmifdaaGreatDoor
open Go.RowKit
set_option linter.unusedVariables false
set_option linter.unusedSimpArgs false

def pgAt (x : TBtree) (id : Int) : Option TPage := (x.2.find? (fun s => s.1 == id)).map (·.2)
abbrev TWalk : Type := List Int × Option Nat
def badKey (lo hi k : ByteArray) : Bool := bytesLt k lo || (decide (hi ≠ ⟨#[]⟩) && !bytesLt k hi)
def fillOf (p : TPage) : Nat := if p.1 = true then p.2.1.length else p.2.2.2.length
def lowK (p : TPage) (lo : ByteArray) (k : Nat) : ByteArray := if 0 < k then p.2.1.getD (k - 1) ⟨#[]⟩ else lo
def highK (p : TPage) (hi : ByteArray) (k : Nat) : ByteArray := if k < p.2.1.length then p.2.1.getD k ⟨#[]⟩ else hi
def kidsTo (f : Nat → TWalk → Option TWalk) : Nat → TWalk → Option TWalk
  | 0, s => some s
  | k + 1, s => match kidsTo f k s with
    | none => none
    | some t => f k t
def leafW (id : Int) (far : Nat) (s : TWalk) : Option TWalk := match s.2 with
  | none => some (s.1 ++ [id], some far)
  | some d => if d = far then some (s.1 ++ [id], some d) else none
def walkB (x : TBtree) : Nat → Int → Nat → ByteArray → ByteArray → TWalk → Option TWalk
  | 0, _, _, _, _, _ => none
  | n + 1, id, far, lo, hi, s => match pgAt x id with
    | none => none
    | some p =>
      if s.1.contains id = true then none
      else if p.2.1.any (badKey lo hi) = true then none
      else if far ≠ 1 ∧ fillOf p < 3 then none
      else if p.1 = true then leafW id far s
      else kidsTo (fun k t => walkB x n (p.2.2.2.getD k 0) (far + 1) (lowK p lo k) (highK p hi k) t) p.2.2.2.length (s.1 ++ [id], s.2)
def walkTop (x : TBtree) : Option TWalk := walkB x 64 x.1 1 ⟨#[]⟩ ⟨#[]⟩ ([], none)
def btreeB (x : TBtree) : Bool := slotsB x.2 && (match walkTop x with | none => false | some s => decide (s.1.length = x.2.length))

theorem kidsTo_none {f : Nat → TWalk → Option TWalk} {k m : Nat} {s : TWalk} (h : kidsTo f k s = none) (hm : k ≤ m) : kidsTo f m s = none := by
  induction m with
  | zero => obtain rfl : k = 0 := by omega
            exact h
  | succ m ih =>
    by_cases e : k = m + 1
    · subst e; exact h
    · unfold kidsTo; rw [ih (by omega)]
theorem kidsTo_succ {f : Nat → TWalk → Option TWalk} {k : Nat} {s t : TWalk} (h : kidsTo f k s = some t) : kidsTo f (k + 1) s = f k t := by
  show (match kidsTo f k s with | none => none | some t => f k t) = _
  rw [h]
theorem slots_lt {l : List TSlot} (h : SlotsP l) : ∀ i j (hj : j < l.length) (hij : i < j), (l[i]'(by omega)).1 < l[j].1
  | i, j + 1, hj, hij => by
    have h2 := (h (j + 1) hj).2.2 (by omega)
    simp only [Nat.add_sub_cancel] at h2
    by_cases e : i = j
    · subst e; exact h2
    · have h1 := slots_lt h i j (by omega) (by omega); omega
theorem pgAt_at {x : TBtree} (h : SlotsP x.2) {i : Nat} (hi : i < x.2.length) : pgAt x x.2[i].1 = some x.2[i].2 := by
  unfold pgAt
  have e : x.2.find? (fun s => s.1 == x.2[i].1) = some x.2[i] := by
    refine List.find?_eq_some_iff_append.2 ⟨by simp, x.2.take i, x.2.drop (i + 1), ?_, fun a ha => ?_⟩
    · rw [List.getElem_cons_drop, List.take_append_drop]
    · obtain ⟨j, hj, rfl⟩ := List.getElem_of_mem ha
      rw [List.length_take] at hj
      have := slots_lt h j i hi (by omega)
      rw [List.getElem_take]
      simp
      omega
  rw [e]; rfl
theorem pgAt_some {x : TBtree} {id : Int} {p : TPage} (h : pgAt x id = some p) : ∃ i, ∃ hi : i < x.2.length, x.2[i] = (id, p) := by
  unfold pgAt at h
  obtain ⟨s, hs, rfl⟩ := Option.map_eq_some_iff.1 h
  have h1 := List.find?_some hs
  obtain ⟨i, hi, e⟩ := List.getElem_of_mem (List.mem_of_find?_eq_some hs)
  refine ⟨i, hi, ?_⟩
  rw [e]
  have : s.1 = id := by simpa using h1
  rw [← this]
theorem pgAt_none {x : TBtree} {id : Int} (h : ∀ i (hi : i < x.2.length), x.2[i].1 ≠ id) : pgAt x id = none := by
  unfold pgAt
  rw [List.find?_eq_none.2 (fun s hs => by obtain ⟨i, hi, rfl⟩ := List.getElem_of_mem hs; simpa using h i hi)]
  rfl
theorem pgAt_ok {x : TBtree} (h : SlotsP x.2) {id : Int} {p : TPage} (hp : pgAt x id = some p) : pageB p = true := by
  obtain ⟨i, hi, e⟩ := pgAt_some hp
  have := (h i hi).2.1
  rw [e] at this
  exact this
/-- The ids that are met: each once, and each is there. -/
def MetOk (x : TBtree) (l : List Int) : Prop := l.Nodup ∧ ∀ i ∈ l, ∃ p, pgAt x i = some p
theorem metOk_nil (x : TBtree) : MetOk x [] := ⟨List.nodup_nil, by simp⟩
theorem metOk_snoc {x : TBtree} {l : List Int} {id : Int} {p : TPage} (h : MetOk x l) (hp : pgAt x id = some p) (hn : l.contains id = false) : MetOk x (l ++ [id]) := by
  refine ⟨List.nodup_append.2 ⟨h.1, by simp, ?_⟩, fun i hi => ?_⟩
  · rintro a ha b hb rfl
    obtain rfl : a = id := by simpa using hb
    simp at hn
    exact hn ha
  · rcases List.mem_append.1 hi with h1 | h1
    · exact h.2 i h1
    · obtain rfl : i = id := by simpa using h1
      exact ⟨p, hp⟩
theorem metOk_sub {x : TBtree} {l : List Int} (h : MetOk x l) : l ⊆ x.2.map (·.1) := fun i hi => by
  obtain ⟨p, hp⟩ := h.2 i hi
  obtain ⟨k, hk, e⟩ := pgAt_some hp
  exact List.mem_map.2 ⟨x.2[k], List.getElem_mem hk, by rw [e]⟩
theorem nodup_le : ∀ {l m : List Int}, l.Nodup → l ⊆ m → l.length ≤ m.length
  | [], _, _, _ => Nat.zero_le _
  | a :: l, m, h, hs => by
    have ha : a ∈ m := hs (List.mem_cons_self ..)
    have h1 := List.nodup_cons.1 h
    have h2 := nodup_le (l := l) (m := m.erase a) h1.2 (fun b hb => (List.mem_erase_of_ne (by rintro rfl; exact h1.1 hb)).2 (hs (List.mem_cons_of_mem _ hb)))
    rw [List.length_erase_of_mem ha] at h2
    have := List.length_pos_of_mem ha
    simp only [List.length_cons]
    omega
theorem metOk_len {x : TBtree} {l : List Int} (h : MetOk x l) : l.length ≤ x.2.length := by
  have := nodup_le h.1 (metOk_sub h)
  rwa [List.length_map] at this
theorem metOk_full {x : TBtree} {l : List Int} (h : MetOk x l) (hl : x.2.length ≤ l.length) {id : Int} {p : TPage} (hp : pgAt x id = some p) : l.contains id = true := by
  cases hc : l.contains id
  · have := metOk_len (metOk_snoc h hp hc)
    rw [List.length_append] at this
    simp at this
    omega
  · rfl
theorem keys_asc {l : List ByteArray} (h : KeysP l) : ∀ i j (hj : j < l.length) (hij : i < j), bytesLt (l[i]'(by omega)) l[j] = true
  | i, j + 1, hj, hij => by
    have h2 := (h (j + 1) hj).2 (by omega)
    simp only [Nat.add_sub_cancel] at h2
    by_cases e : i = j
    · subst e; exact h2
    · exact lo_bytes.tr _ _ _ (keys_asc h i j (by omega) (by omega)) h2
/-- Of rising keys the ends alone tell. -/
theorem badKeys_ends {l : List ByteArray} (h : KeysP l) (lo hi : ByteArray) (hn : 0 < l.length) : l.any (badKey lo hi) = (bytesLt l[0] lo || (decide (hi ≠ ⟨#[]⟩) && !bytesLt (l[l.length - 1]'(by omega)) hi)) := by
  rw [Bool.eq_iff_iff, List.any_eq_true]
  unfold badKey
  simp only [Bool.or_eq_true, Bool.and_eq_true, Bool.not_eq_true']
  constructor
  · rintro ⟨k, hk, hb⟩
    obtain ⟨i, hi', rfl⟩ := List.getElem_of_mem hk
    rcases hb with hb | ⟨h1, hb⟩
    · left
      by_cases e : i = 0
      · subst e; exact hb
      · exact lo_bytes.tr _ _ _ (keys_asc h 0 i hi' (by omega)) hb
    · right
      refine ⟨h1, ?_⟩
      by_cases e : i = l.length - 1
      · subst e; exact hb
      · cases hq : bytesLt (l[l.length - 1]'(by omega)) hi
        · rfl
        · rw [lo_bytes.tr _ _ _ (keys_asc h i (l.length - 1) (by omega) (by omega)) hq] at hb; cases hb
  · rintro (hb | ⟨h1, hb⟩)
    · exact ⟨l[0], List.getElem_mem _, .inl hb⟩
    · exact ⟨l[l.length - 1], List.getElem_mem _, .inr ⟨h1, hb⟩⟩
theorem fork_lens {p : TPage} (h : pageB p = true) (hl : p.1 = false) : p.2.1.length + 1 = p.2.2.2.length := by
  unfold pageB at h
  simp only [Bool.and_eq_true] at h
  have h2 := h.2
  rw [if_neg (by rw [hl]; decide)] at h2
  simp only [forkB, Bool.and_eq_true, decide_eq_true_eq] at h2
  have := h2.1.1.2
  omega
end Go.Proofs.YtpjcgglhlmifdaaGreatDoor

namespace Go.Proofs.YtpjcgglhlmifdaaGreatDoor
open Go.RowKit
set_option linter.unusedSimpArgs false
abbrev TFault : Type := Int × Int
def shFault : Sh TFault := (shP shI shI)
theorem good_Fault : Good shFault := (good_P good_I good_I)
theorem openFault {w : World} {lo hi : Nat} {cs : List Value} {x : TFault} (h : shFault.rep w lo hi cs x) :
    cs = [.int .i64 x.1, .int .i64 x.2] ∧ I64 x.1 ∧ I64 x.2 := by
  obtain ⟨p1, q1, rfl, l1, r1⟩ := open_P h
  obtain ⟨rfl, b0⟩ := l1
  obtain ⟨rfl, b1⟩ := r1
  exact ⟨rfl, b0, b1⟩
theorem mkFault {w : World} {lo hi : Nat} {x : TFault} (b0 : I64 x.1) (b1 : I64 x.2) : shFault.rep w lo hi [.int .i64 x.1, .int .i64 x.2] x :=
  (mk_P good_I ⟨rfl, b0⟩ ⟨rfl, b1⟩)
theorem openOFault {w : World} {lo hi : Nat} {cs : List Value} {x : TFault} {bl : List Nat} (h : shFault.own w lo hi cs x bl) :
    cs = [.int .i64 x.1, .int .i64 x.2] ∧ bl = [] ∧ I64 x.1 ∧ I64 x.2 := by
  obtain ⟨p1, q1, _, _, rfl, rfl, l1, r1⟩ := openO_P h
  obtain ⟨⟨rfl, b0⟩, rfl⟩ := l1
  obtain ⟨⟨rfl, b1⟩, rfl⟩ := r1
  exact ⟨rfl, by simp, b0, b1⟩
theorem mkOFault {w : World} {lo hi : Nat} {x : TFault} (b0 : I64 x.1) (b1 : I64 x.2) : shFault.own w lo hi [.int .i64 x.1, .int .i64 x.2] x ([]) := by
  have h : shFault.own w lo hi [.int .i64 x.1, .int .i64 x.2] x _ := (mkO_P good_I ⟨⟨rfl, b0⟩, rfl⟩ ⟨⟨rfl, b1⟩, rfl⟩)
  simpa using h
theorem atFault {w : World} {lo hi : Nat} {A : Option Addr} {c : Nat} {xs : List TFault} (h : SR shFault w lo hi A c xs) {i : Nat} (hi' : i < xs.length) :
    ∃ (g off : Nat), A = some ⟨g, off, none⟩ ∧ lo ≤ g ∧ g < hi ∧ w.cell? ⟨g, off + i * 2, none⟩ = some (.int .i64 xs[i].1) ∧ w.cell? ⟨g, off + i * 2 + 1, none⟩ = some (.int .i64 xs[i].2) ∧ I64 xs[i].1 ∧ I64 xs[i].2 ∧ True := by
  obtain ⟨g, off, cs, hA, h1, h2, hc, hr⟩ := h.at_ hi'
  obtain ⟨rfl, b0, b1⟩ := openFault hr
  exact ⟨g, off, hA, h1, h2, hc.2 0 (by decide), hc.2 1 (by decide), b0, b1, trivial⟩
end Go.Proofs.YtpjcgglhlmifdaaGreatDoor

namespace Go.Proofs.YtpjcgglhlmifdaaGreatDoor
open Go.RowKit
set_option linter.unusedVariables false
set_option linter.unusedSimpArgs false

/-- Pages met (in the order of the visits), the depth of the first leaf, the faults. -/
abbrev TInsp : Type := List Int × Option Nat × List TFault
def tellF (s : TInsp) (k id : Int) : TInsp := (s.1, s.2.1, s.2.2 ++ [(k, id)])
def meetF (s : TInsp) (id : Int) : TInsp := (s.1 ++ [id], s.2.1, s.2.2)
def deepF (s : TInsp) (far : Nat) : TInsp := match s.2.1 with
  | none => (s.1, some far, s.2.2)
  | some _ => s
def orderF (id : Int) (lo hi : ByteArray) (p : TPage) (s : TInsp) : TInsp := if p.2.1.any (badKey lo hi) = true then tellF s 4 id else s
def leafF (id : Int) (far : Nat) (p : TPage) (s : TInsp) : TInsp := if p.1 = true then (if (deepF s far).2.1 = some far then deepF s far else tellF (deepF s far) 5 id) else s
def fewF (id : Int) (far : Nat) (p : TPage) (s : TInsp) : TInsp := if far ≠ 1 ∧ fillOf p < 3 then tellF s 6 id else s
def pageF (id : Int) (far : Nat) (lo hi : ByteArray) (p : TPage) (s : TInsp) : TInsp := fewF id far p (leafF id far p (orderF id lo hi p (meetF s id)))
def kidsI (f : Nat → TInsp → TInsp) : Nat → TInsp → TInsp
  | 0, s => s
  | k + 1, s => f k (kidsI f k s)
def visitB (x : TBtree) : Nat → Int → Nat → ByteArray → ByteArray → TInsp → TInsp
  | 0, id, _, _, _, s => tellF s 3 id
  | n + 1, id, far, lo, hi, s => if s.1.contains id = true then tellF s 3 id else match pgAt x id with
    | none => s
    | some p => kidsI (fun k t => match pgAt x (p.2.2.2.getD k 0) with
        | none => tellF t 2 (p.2.2.2.getD k 0)
        | some _ => visitB x n (p.2.2.2.getD k 0) (far + 1) (lowK p lo k) (highK p hi k) t) p.2.2.2.length (pageF id far lo hi p s)
def lookB (x : TBtree) : TInsp := match pgAt x x.1 with
  | none => ([], none, [(1, x.1)])
  | some _ => visitB x 64 x.1 1 ⟨#[]⟩ ⟨#[]⟩ ([], none, [])
def lostB (x : TBtree) (met : List Int) : List TFault := (x.2.filter (fun t => !met.contains t.1)).map (fun t => (7, t.1))
def faultsB (x : TBtree) : List TFault := if slotsB x.2 = true then (lookB x).2.2 ++ lostB x (lookB x).1 else []
def reachedB (x : TBtree) : List Int := if slotsB x.2 = true then (x.2.map (·.1)).filter (fun i => (lookB x).1.contains i) else []
theorem tellF_met (s : TInsp) (k id : Int) : (tellF s k id).1 = s.1 ∧ (tellF s k id).2.1 = s.2.1 ∧ (tellF s k id).2.2.length = s.2.2.length + 1 := ⟨rfl, rfl, by simp [tellF]⟩
theorem deepF_met (s : TInsp) (far : Nat) : (deepF s far).1 = s.1 ∧ (deepF s far).2.2 = s.2.2 ∧ ∃ d, (deepF s far).2.1 = some d ∧ (s.2.1 = some d ∨ s.2.1 = none ∧ d = far) := by
  unfold deepF
  cases h : s.2.1 with
  | none => exact ⟨rfl, rfl, far, rfl, .inr ⟨rfl, rfl⟩⟩
  | some d => exact ⟨rfl, rfl, d, h, .inl rfl⟩
theorem pageF_met (id : Int) (far : Nat) (lo hi : ByteArray) (p : TPage) (s : TInsp) : (pageF id far lo hi p s).1 = s.1 ++ [id] ∧ (pageF id far lo hi p s).2.2.length ≤ s.2.2.length + 3 ∧ ((∀ d, s.2.1 = some d → 1 ≤ d) → 1 ≤ far → ∀ d, (pageF id far lo hi p s).2.1 = some d → 1 ≤ d) := by
  show (fewF id far p (leafF id far p (orderF id lo hi p (meetF s id)))).1 = _ ∧ (fewF id far p (leafF id far p (orderF id lo hi p (meetF s id)))).2.2.length ≤ _ ∧ (_ → _ → ∀ d, (fewF id far p (leafF id far p (orderF id lo hi p (meetF s id)))).2.1 = some d → 1 ≤ d)
  have h1 : (orderF id lo hi p (meetF s id)).1 = s.1 ++ [id] ∧ (orderF id lo hi p (meetF s id)).2.1 = s.2.1 ∧ (orderF id lo hi p (meetF s id)).2.2.length ≤ s.2.2.length + 1 := by
    unfold orderF
    split
    · obtain ⟨a, b, c⟩ := tellF_met (meetF s id) 4 id
      exact ⟨a, b, by rw [c]; exact Nat.le_refl _⟩
    · exact ⟨rfl, rfl, Nat.le_succ _⟩
  generalize orderF id lo hi p (meetF s id) = s1 at h1
  have h2 : (leafF id far p s1).1 = s1.1 ∧ (leafF id far p s1).2.2.length ≤ s1.2.2.length + 1 ∧ ((∀ d, s1.2.1 = some d → 1 ≤ d) → 1 ≤ far → ∀ d, (leafF id far p s1).2.1 = some d → 1 ≤ d) := by
    obtain ⟨a, b, d0, hd, hs⟩ := deepF_met s1 far
    unfold leafF
    split
    · split
      · refine ⟨a, by rw [b]; omega, fun hh hf d hdd => ?_⟩
        rw [hd] at hdd; cases hdd
        rcases hs with h | ⟨_, h⟩
        · exact hh _ h
        · omega
      · obtain ⟨c1, c2, c3⟩ := tellF_met (deepF s1 far) 5 id
        refine ⟨c1.trans a, by rw [c3, b]; omega, fun hh hf d hdd => ?_⟩
        rw [c2, hd] at hdd; cases hdd
        rcases hs with h | ⟨_, h⟩
        · exact hh _ h
        · omega
    · exact ⟨rfl, Nat.le_succ _, fun hh _ => hh⟩
  generalize leafF id far p s1 = s2 at h2
  obtain ⟨a1, a2, a3⟩ := h1
  obtain ⟨b1, b2, b3⟩ := h2
  unfold fewF
  split
  · obtain ⟨c1, c2, c3⟩ := tellF_met s2 6 id
    refine ⟨c1.trans (b1.trans a1), by omega, fun hh hf d hd => ?_⟩
    rw [c2] at hd
    exact b3 (fun d hd => hh d (a2 ▸ hd)) hf d hd
  · exact ⟨b1.trans a1, by omega, fun hh hf d hd => b3 (fun d hd => hh d (a2 ▸ hd)) hf d hd⟩
/-- What a visit may turn: pages are met once, at most m faults beyond nine for a page that is met. -/
def Insp (x : TBtree) (m : Nat) (s t : TInsp) : Prop := MetOk x s.1 → (∀ d, s.2.1 = some d → 1 ≤ d) → MetOk x t.1 ∧ s.1 <+: t.1 ∧ (∀ d, t.2.1 = some d → 1 ≤ d) ∧ t.2.2.length + 9 * s.1.length ≤ s.2.2.length + 9 * t.1.length + m
theorem Insp.refl (x : TBtree) (s : TInsp) : Insp x 0 s s := fun h1 h2 => ⟨h1, List.prefix_refl _, h2, by omega⟩
theorem Insp.trans {x : TBtree} {m n : Nat} {a b c : TInsp} (h : Insp x m a b) (k : Insp x n b c) : Insp x (m + n) a c := fun h1 h2 => by
  obtain ⟨p1, p2, p3, p4⟩ := h h1 h2
  obtain ⟨q1, q2, q3, q4⟩ := k p1 p3
  exact ⟨q1, p2.trans q2, q3, by omega⟩
theorem Insp.mono {x : TBtree} {m n : Nat} {a b : TInsp} (h : Insp x m a b) (hn : m ≤ n) : Insp x n a b := fun h1 h2 => by
  obtain ⟨p1, p2, p3, p4⟩ := h h1 h2
  exact ⟨p1, p2, p3, by omega⟩
theorem insp_tell (x : TBtree) (s : TInsp) (k id : Int) : Insp x 1 s (tellF s k id) := fun h1 h2 => by
  obtain ⟨a, b, c⟩ := tellF_met s k id
  exact ⟨a ▸ h1, by rw [a]; exact List.prefix_refl _, fun d hd => h2 d (b ▸ hd), by rw [a, c]; omega⟩
theorem kidsI_insp {x : TBtree} {f : Nat → TInsp → TInsp} (hf : ∀ k s, Insp x 1 s (f k s)) : ∀ (m : Nat) (s : TInsp), Insp x m s (kidsI f m s)
  | 0, s => Insp.refl x s
  | m + 1, s => (kidsI_insp hf m s).trans (hf m _)
theorem page_kidsX {p : TPage} (h : pageB p = true) : p.2.2.2.length ≤ 6 := by
  unfold pageB at h
  simp only [Bool.and_eq_true] at h
  have h2 := h.2
  cases hl : p.1
  · rw [if_neg (by rw [hl]; decide)] at h2
    simp only [forkB, Bool.and_eq_true] at h2
    have h3 := inB_t.1 h2.1.1.1
    omega
  · rw [if_pos hl] at h2
    simp only [leafB, Bool.and_eq_true, decide_eq_true_eq] at h2
    have := h2.2
    omega
theorem visit_insp {x : TBtree} (hs : SlotsP x.2) : ∀ (n : Nat) (id : Int) (far : Nat) (lo hi : ByteArray) (s : TInsp), 1 ≤ far → Insp x 1 s (visitB x n id far lo hi s)
  | 0, id, far, lo, hi, s, _ => insp_tell x s 3 id
  | n + 1, id, far, lo, hi, s, hf => by
    unfold visitB
    cases hc : s.1.contains id
    · rw [if_neg (by decide)]
      cases hp : pgAt x id with
      | none => exact (Insp.refl x s).mono (by omega)
      | some p =>
        dsimp only
        obtain ⟨a1, a2, a3⟩ := pageF_met id far lo hi p s
        have hk := kidsI_insp (x := x) (f := fun k t => match pgAt x (p.2.2.2.getD k 0) with
          | none => tellF t 2 (p.2.2.2.getD k 0)
          | some _ => visitB x n (p.2.2.2.getD k 0) (far + 1) (lowK p lo k) (highK p hi k) t) (fun k t => by
            cases pgAt x (p.2.2.2.getD k 0) with
            | none => exact insp_tell x t 2 _
            | some _ => exact visit_insp hs n _ (far + 1) _ _ t (by omega)) p.2.2.2.length (pageF id far lo hi p s)
        have h6 := page_kidsX (pgAt_ok hs hp)
        intro h1 h2
        have hm : MetOk x (pageF id far lo hi p s).1 := by rw [a1]; exact metOk_snoc h1 hp hc
        obtain ⟨q1, q2, q3, q4⟩ := hk hm (a3 h2 hf)
        refine ⟨q1, ?_, q3, ?_⟩
        · rw [a1] at q2
          exact (List.prefix_append _ _).trans q2
        · rw [a1, List.length_append] at q4
          simp only [List.length_singleton] at q4
          omega
    · rw [if_pos rfl]
      exact insp_tell x s 3 id
theorem look_faults {x : TBtree} (hs : SlotsP x.2) : MetOk x (lookB x).1 ∧ (lookB x).2.2.length ≤ 600 := by
  unfold lookB
  cases hp : pgAt x x.1 with
  | none => exact ⟨metOk_nil x, by simp⟩
  | some p =>
    dsimp only
    obtain ⟨q1, q2, q3, q4⟩ := visit_insp hs 64 x.1 1 ⟨#[]⟩ ⟨#[]⟩ ([], none, []) (Nat.le_refl _) (metOk_nil x) (fun d h => by cases h)
    have hl := metOk_len q1
    have h64 := slots_len hs
    simp only [List.length_nil] at q4
    exact ⟨q1, by omega⟩
end Go.Proofs.YtpjcgglhlmifdaaGreatDoor
