/-
  Records sorted by their keys: slices.SortFunc at the program's closure.
-/
import Derived.Test.YtehhgogmbpdpbaaGreatDoorM1Ss
import Derived.Test.YtehhgogmbpdpbaaGreatDoorM1Sq
import Derived.Test.YtehhgogmbpdpbaaGreatDoorM1E
import Derived.Test.YtehhgogmbpdpbaaGreatDoorShelf
import Derived.Shelf.SlSortCmp.WholeK
namespace Go.Proofs.YtehhgogmbpdpbaaGreatDoor
open Go.RowKit Go.Shelf Go.Lib Go.Sort
set_option linter.unusedVariables false
set_option linter.unusedSimpArgs false

def cfR (x y : TRecord) : Int := cmpBy bytesLt x.1 y.1
theorem cfR_lt (x y : TRecord) : ltOf cfR x y = bytesLt x.1 y.1 := by
  unfold ltOf cfR cmpBy
  rcases lo_bytes.three x.1 y.1 with ⟨e1, e2, _, _⟩ | ⟨e1, e2, e3, _⟩ | ⟨e1, e2, _, _⟩
  · simp [e1]
  · rw [e2, e3]; decide
  · simp [e1, e2]
theorem cfR_swo : SWO (ltOf cfR) where
  irrefl x := by rw [cfR_lt]; exact lo_bytes.irr _
  trans x y z h1 h2 := by rw [cfR_lt] at *; exact lo_bytes.tr _ _ _ h1 h2
  ntrans x y z h1 h2 := by
    rw [cfR_lt] at *
    cases h : bytesLt x.1 z.1
    · rfl
    · rcases lo_bytes.three x.1 y.1 with ⟨e1, _⟩ | ⟨e1, _⟩ | ⟨_, e2, _⟩
      · rw [h1] at e1; cases e1
      · rw [e1, h2] at h; cases h
      · rw [lo_bytes.tr _ _ _ e2 h] at h2; cases h2
theorem c_Salvage1 (x y : TRecord) (W : World) : Calls Tryz.prog 52 #[.agg #[.string x.1, .string x.2], .agg #[.string y.1, .string y.2]] W fun e w' => e = .returned (.int .i64 (cfR x y)) ∧ ∃ q os', w' = grow (W.drewN q) os' := by
  have hcon := fun W' => c_CompareS x.1 y.1 W'
  unfold cfR
  generalize cmpBy bytesLt x.1 y.1 = r at hcon ⊢
  go_enter Tryz.func52, Tryz.ntmps52
  go_wp2_with (go_at_call 53; refine (hcon _).mono ?_; rintro e w' ⟨rfl, rfl⟩)
  go_ret
  exact ⟨rfl, 0, _, by rw [alloc_eq_grow, alloc_eq_grow, grow_grow]; rfl⟩
theorem permIn_list {d d' : Array TRecord} (h : PermIn 0 d.size d d') : d'.toList.Perm d.toList := by
  obtain ⟨h1, _, h3⟩ := h
  have e1 : d'.extract 0 d.size = d' := by rw [← h1]; exact Array.extract_size
  have e2 : d.extract 0 d.size = d := Array.extract_size
  rwa [e1, e2] at h3
theorem sortedIn_list {d : Array TRecord} (h : SortedIn (ltOf cfR) 0 d.size d) : d.toList.Pairwise (fun a b => bytesLt b.1 a.1 = false) := by
  refine List.pairwise_iff_getElem.2 fun i j hi hj hij => ?_
  have hj' : j < d.size := by simpa using hj
  have hi' : i < d.size := by simpa using hi
  have := h i j (Nat.zero_le _) hij hj'
  rw [cfR_lt, getElem!_pos d j hj', getElem!_pos d i hi'] at this
  simpa using this
theorem so_recs0 {w : World} {lo : Nat} {c g off : Nat} {xs : List TRecord} {bl : List Nat} (h : SO shRecord w lo w.heap.size (some ⟨g, off, none⟩) c xs bl) (d : List TRecord) (hd : d.Perm xs) (n : Nat) (os : Array Obj) :
    SO shRecord (sortWorldK encR 2 w g off n d.toArray os) lo (sortWorldK encR 2 w g off n d.toArray os).heap.size (some ⟨g, off, none⟩) c d bl ∧ Only (g :: bl) w (sortWorldK encR 2 w g off n d.toArray os) := by
  rcases Nat.eq_zero_or_pos xs.length with h0 | hp
  · obtain rfl := List.eq_nil_of_length_eq_zero h0
    obtain rfl := List.Perm.eq_nil hd
    have hon := only_putRowK w g off (#[] : Array TRecord) n os
    refine ⟨?_, hon.mono fun y hy => by rw [List.mem_singleton.1 hy]; exact List.mem_cons_self ..⟩
    rcases h.row with ⟨_, rfl, rfl⟩ | ⟨g', off', C, tid, bls, olds, hA, h1, h2, hb, hcap, rfl, hr, ho⟩
    · exact ⟨Nat.le_refl _, Nat.zero_le _, .inl ⟨rfl, rfl, rfl⟩⟩
    · injection hA with hA
      injection hA with e1 e2
      subst e1 e2
      have hl := h.1
      have hc := h.2.1
      have hbl : bls = [] := by have := hr.1; simpa using this
      subst hbl
      exact SO.of_row (s := shRecord) (bls := []) (olds := []) h1 (Nat.lt_of_lt_of_le h2 hon.size) (bk_putRowK hb (#[] : Array TRecord) n os) (by simpa [Sort.putCells] using hcap) hl hc Rowed.nil (fun j hj => absurd hj (by simp))
  · obtain ⟨s1, s2⟩ := so_recs h hp d hd n os
    exact ⟨s1, s2.mono fun y hy => List.mem_cons_of_mem _ hy⟩
set_option maxHeartbeats 2000000 in
theorem c_SortRec (xs : List TRecord) (g off c lo : Nat) (bl : List Nat) (w : World) (h : SO shRecord w lo w.heap.size (some ⟨g, off, none⟩) c xs bl) (hg : g < w.heap.size) (hl : xs.length ≤ 1000) :
    Calls Tryz.prog 51 #[.slice (some ⟨g, off, none⟩) xs.length c, .func (.func 52) #[] #[]] w fun e w' => e = .returned (.tuple #[]) ∧ ∃ d : List TRecord, d.Perm xs ∧ d.Pairwise (fun a b => bytesLt b.1 a.1 = false) ∧ SO shRecord w' lo w'.heap.size (some ⟨g, off, none⟩) c d bl ∧ Only (g :: bl) w w' := by
  have eg : ∀ args w, (callFunc 52 args).run Tryz.prog w = .ok (.enter 52 args) w := enters_of Tryz.func52 (by kernel_rfl) rfl
  have hH : HoldsK encR 2 w g off xs.toArray := by
    rcases Nat.eq_zero_or_pos xs.length with h0 | hp
    · obtain rfl := List.eq_nil_of_length_eq_zero h0
      intro j hj
      exact absurd hj (by simp)
    · exact (holds_recs h hp).1
  have hcon := AnyQ.slices_SortFunc Tryz.sortRec 2 (fun w => by kernel_rfl) (fun w => by kernel_rfl) encR encR_len encR_one cfR cfR_swo 52 #[] g off c xs.toArray w eg (fun m os dk hs x y => c_Salvage1 x y _) hH hg (by simp; omega)
  change Calls Tryz.prog 51 _ _ _ at hcon
  have hsz : xs.toArray.size = xs.length := by simp
  rw [hsz] at hcon
  refine hcon.mono ?_
  rintro e w' ⟨rfl, d', n, os, hp, hs, rfl⟩
  refine ⟨rfl, d'.toList, ?_, ?_, ?_⟩
  · have := permIn_list (d := xs.toArray) (by rw [hsz]; exact hp)
    simpa using this
  · have e1 : d'.size = xs.length := by have := hp.1; simpa using this
    rw [← e1] at hs
    exact sortedIn_list hs
  · have hperm : d'.toList.Perm xs := by
      have := permIn_list (d := xs.toArray) (by rw [hsz]; exact hp)
      simpa using this
    obtain ⟨s1, s2⟩ := so_recs0 h d'.toList hperm n os
    exact ⟨by simpa using s1, by simpa using s2⟩
end Go.Proofs.YtehhgogmbpdpbaaGreatDoor
