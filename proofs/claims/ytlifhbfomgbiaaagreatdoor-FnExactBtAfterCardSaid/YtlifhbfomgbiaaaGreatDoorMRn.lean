/-
  BtAfter: the reference's.
-/
import Derived.Test.YtlifhbfomgbiaaaGreatDoorMRh
namespace Go.Proofs.YtlifhbfomgbiaaaGreatDoor
open Go.RowKit
set_option linter.unusedVariables false
set_option linter.unusedSimpArgs false

def afterV (x : TBtree) (key : ByteArray) : Value := .tuple #[.agg #[.string (afterB x key).1.1, .string (afterB x key).1.2], .bool (afterB x key).2]
theorem find_at {α : Type} {p : α → Bool} : ∀ {l : List α} {k : Nat} (hk : k < l.length), (∀ j (hj : j < l.length), j < k → p l[j] = false) → p l[k] = true → l.find? p = some l[k]
  | a :: l, 0, _, _, h => by
    have h' : p a = true := h
    rw [List.find?_cons_of_pos h']
    rfl
  | a :: l, k + 1, hk, h1, h => by
    have ha := h1 0 (by simp) (by omega)
    have ha' : ¬ p a = true := by
      have : p a = false := ha
      rw [this]; decide
    rw [List.find?_cons_of_neg ha']
    exact find_at (l := l) (k := k) (by simpa using hk) (fun j hj hjk => h1 (j + 1) (by simpa using hj) (by omega)) h
theorem find_no {α : Type} {p : α → Bool} {l : List α} (h : ∀ j (hj : j < l.length), p l[j] = false) : l.find? p = none := by
  rw [List.find?_eq_none]
  intro a ha
  obtain ⟨j, hj, rfl⟩ := List.getElem_of_mem ha
  rw [h j hj]; decide
theorem bytes_con {a b : ByteArray} (h1 : Op.bytesLess a.toList b.toList = false) (h2 : bytesLt b a = false) : a = b := lo_bytes.tri _ _ h1 h2
theorem afterV_no {x : TBtree} {key : ByteArray} (h : btreeB x = false) : afterV x key = .tuple #[.agg #[.string ⟨#[]⟩, .string ⟨#[]⟩], .bool false] := by
  unfold afterV afterB recordsB
  rw [if_neg (by rw [h]; decide)]
  rfl
theorem afterV_none {x : TBtree} {key : ByteArray} {L : List TRec} (h : recordsB x = L) (hn : ∀ j (hj : j < L.length), bytesLt key L[j].1 = false) : afterV x key = .tuple #[.agg #[.string ⟨#[]⟩, .string ⟨#[]⟩], .bool false] := by
  unfold afterV afterB
  rw [h, find_no hn]
theorem afterV_some {x : TBtree} {key : ByteArray} {L : List TRec} (h : recordsB x = L) {k : Nat} (hk : k < L.length) (hn : ∀ j (hj : j < L.length), j < k → bytesLt key L[j].1 = false) (hy : bytesLt key L[k].1 = true) : afterV x key = .tuple #[.agg #[.string L[k].1, .string L[k].2], .bool true] := by
  unfold afterV afterB
  rw [h, find_at (p := fun r => bytesLt key r.1) hk hn hy]
set_option maxRecDepth 100000 in
set_option maxHeartbeats 8000000 in
theorem cs_BtAfter (v : Value) (y : TBtree) (key : ByteArray) (w : World) (h : AV shBtree w v y) (hn : shBtree.sz y ≤ 1048576) (hk : key.size ≤ 9223372036854775807) (hks : key.size ≤ 1048576) : Calls Tryz.prog 30 #[v, .string key] w (RetV (afterV y key) w) := by
  have hv := h
  obtain ⟨cs, rfl, h⟩ := h
  obtain ⟨r, x⟩ := y
  have ho := openBtree h
  dsimp only at ho
  obtain ⟨A0, c0, rfl, br, b00⟩ := ho
  clear h hk hks
  have kT := (Bk.new w 39 #[.int .i64 r, .slice A0 x.length c0]).alloc (.cells #[.string ⟨#[]⟩, .string ⟨#[]⟩] 61)
  have kr : Bk ((w.alloc (.cells #[.int .i64 r, .slice A0 x.length c0] 39)).alloc (.cells #[.string ⟨#[]⟩, .string ⟨#[]⟩] 61)) (w.heap.size + 1) 61 #[.string ⟨#[]⟩, .string ⟨#[]⟩] := by
    simpa using Bk.new (w.alloc (.cells #[.int .i64 r, .slice A0 x.length c0] 39)) 61 #[.string ⟨#[]⟩, .string ⟨#[]⟩]
  have uu : Up w ((w.alloc (.cells #[.int .i64 r, .slice A0 x.length c0] 39)).alloc (.cells #[.string ⟨#[]⟩, .string ⟨#[]⟩] 61)) := ((Up.refl w).alloc _).alloc _
  have CB := Lib.hid (cs_BtreeOk _ (r, x) _ (hv.up good_Btree uu) hn)
  have g0 : World.cell? _ ⟨w.heap.size, 0, none⟩ = some (.int .i64 r) := kT.cell 0
  have g1 : World.cell? _ ⟨w.heap.size, 1, none⟩ = some (.slice A0 x.length c0) := kT.cell 1
  have HN := Lib.hid (fun hh => afterV_no (x := (r, x)) (key := key) hh)
  have H0 := Lib.hid (fun (L : List TRec) h1 h2 => afterV_none (x := (r, x)) (key := key) (L := L) h1 h2)
  have H1 := Lib.hid (fun (L : List TRec) h1 k hk h2 h3 => afterV_some (x := (r, x)) (key := key) (L := L) h1 (k := k) hk h2 h3)
  generalize afterV (r, x) key = R at HN H0 H1 ⊢
  go_enter Tryz.func30, Tryz.ntmps30
  go_wp2_with fail
  refine CB.out.mono ?_
  rintro e w1 ⟨rfl, u1⟩
  have kr1 := kr.up u1
  have kT1 := kT.up u1
  have U1 := uu.trans u1
  cases hb : btreeB (r, x)
  · have HE := Lib.hid (HN.out hb)
    have gr0 : w1.cell? ⟨w.heap.size + 1, 0, none⟩ = some (.string ⟨#[]⟩) := kr1.cell 0
    have fr0 := kr1.frozen 0
    have gr1 : w1.cell? ⟨w.heap.size + 1, 1, none⟩ = some (.string ⟨#[]⟩) := kr1.cell 1
    have fr1 := kr1.frozen 1
    have bt : But (w.heap.size + 1) w1 ((w1.setCell ⟨w.heap.size + 1, 0, none⟩ (.string ⟨#[]⟩)).setCell ⟨w.heap.size + 1, 1, none⟩ (.string ⟨#[]⟩)) := But.sets (g := w.heap.size + 1) [.string ⟨#[]⟩, .string ⟨#[]⟩] w1 0
    have krE : Bk ((w1.setCell ⟨w.heap.size + 1, 0, none⟩ (.string ⟨#[]⟩)).setCell ⟨w.heap.size + 1, 1, none⟩ (.string ⟨#[]⟩)) (w.heap.size + 1) 61 #[.string ⟨#[]⟩, .string ⟨#[]⟩] := kr1.setsL [.string ⟨#[]⟩, .string ⟨#[]⟩] 0
    clear HN H0 H1 hb CB g0 g1
    go_wp2_with fail
    refine bodyPost_ret (results_bk2 krE _ _ _ Tryz.results30 rfl rfl Tryz.underlying61 rfl (by kernel_rfl)) rfl ?_
    exact ⟨by rw [HE.out]; rfl, U1.but bt (by omega)⟩
  · have hs := slots_of_btree hb
    have CG := Lib.hid (c_gather hs 64 r w1 w.heap.size U1.size (mkBtree (x := (r, x)) br (SR.keep good_Slot b00 (U1.keeps (Nat.le_refl _)))) (stands_root hb) (gather_root hb) br)
    have HRB : Hid (recordsB (r, x) = gatherB (r, x) 64 r) := Lib.hid (by unfold recordsB; rw [if_pos hb])
    have hL384 := gather_root hb
    dsimp only at hL384
    generalize gatherB (r, x) 64 r = L at CG HRB hL384
    have g0' : w1.cell? ⟨w.heap.size, 0, none⟩ = some (.int .i64 r) := kT1.cell 0
    have g1' : w1.cell? ⟨w.heap.size, 1, none⟩ = some (.slice A0 x.length c0) := kT1.cell 1
    clear HN hb CB g0 g1 hs
    go_wp2_with fail
    refine CG.out.mono ?_
    rintro e w2 ⟨D, d, bl, rfl, so, nd, u2⟩
    have sr := SR.of_own good_Rec so
    have kr2 := kr1.up u2
    have U2 := U1.trans u2
    clear so nd CG g0' g1'
    go_wp2_with fail
    go_loopw [7] (fun i wr => ∃ k : Nat, k ≤ L.length ∧ i = .int .i64 k ∧ Hid (∀ j (hj : j < L.length), j < k → bytesLt key L[j].1 = false) ∧ wr = w2) (fun i _ => L.length - (intOf i).toNat)
    case atStart => exact ⟨0, Nat.zero_le _, rfl, Lib.hid (fun j hj h1 => absurd h1 (by omega)), rfl⟩
    case round =>
      obtain ⟨k, hk, rfl, HBf, rfl⟩ := hrel
      by_cases hlt : k < L.length
      · obtain ⟨g, off, rfl, _, _, hc0, hc1, _, _⟩ := atRec sr hlt
        cases hp : bytesLt key L[k].1
        · have HNx : Hid (∀ j (hj : j < L.length), j < k + 1 → bytesLt key L[j].1 = false) := Lib.hid (fun j hj h1 => by
            by_cases q : j = k
            · subst q; exact hp
            · exact HBf.out j hj (by omega))
          cases hq : Op.bytesLess L[k].1.toList key.toList
          · have hqe : (L[k].1.toList == key.toList) = true := by
              have := bytes_con hq hp
              rw [this]; simp
            clear hp
            go_wp2_with fail
            go_roundw
            case rel => exact ⟨k + 1, by omega, by go_num, HNx, by first | rfl | trivial⟩
            case measure => simp [intOf]; omega
          · clear hp
            go_wp2_with fail
            go_roundw
            case rel => exact ⟨k + 1, by omega, by go_num, HNx, by first | rfl | trivial⟩
            case measure => simp [intOf]; omega
        · have hq1 : Op.bytesLess L[k].1.toList key.toList = false := by
            cases hq : Op.bytesLess L[k].1.toList key.toList
            · rfl
            · have h1 := lo_bytes.tr _ _ _ hp hq
              rw [lo_bytes.irr] at h1
              cases h1
          have hq2 : (L[k].1.toList == key.toList) = false := by
            cases hq : (L[k].1.toList == key.toList)
            · rfl
            · have h1 : bytesLt key L[k].1 = bytesLt key key := by unfold bytesLt; rw [beq_iff_eq.1 hq]
              rw [h1, lo_bytes.irr] at hp
              cases hp
          have HE := Lib.hid (H1.out L HRB.out k hlt HBf.out hp)
          have gr0 : wr.cell? ⟨w.heap.size + 1, 0, none⟩ = some (.string ⟨#[]⟩) := kr2.cell 0
          have fr0 := kr2.frozen 0
          have gr1 : wr.cell? ⟨w.heap.size + 1, 1, none⟩ = some (.string ⟨#[]⟩) := kr2.cell 1
          have fr1 := kr2.frozen 1
          have bt : But (w.heap.size + 1) wr ((wr.setCell ⟨w.heap.size + 1, 0, none⟩ (.string L[k].1)).setCell ⟨w.heap.size + 1, 1, none⟩ (.string L[k].2)) := But.sets (g := w.heap.size + 1) [.string L[k].1, .string L[k].2] wr 0
          have krE : Bk ((wr.setCell ⟨w.heap.size + 1, 0, none⟩ (.string L[k].1)).setCell ⟨w.heap.size + 1, 1, none⟩ (.string L[k].2)) (w.heap.size + 1) 61 #[.string L[k].1, .string L[k].2] := kr2.setsL [.string L[k].1, .string L[k].2] 0
          clear H0 H1 hp HRB
          go_wp2_with fail
          refine bodyPost_ret (results_bk2 krE _ _ _ Tryz.results30 rfl rfl Tryz.underlying61 rfl (by kernel_rfl)) rfl ?_
          exact ⟨by rw [HE.out]; rfl, U2.but bt (by omega)⟩
      · have HE := Lib.hid (H0.out L HRB.out (fun j hj => HBf.out j hj (by omega)))
        obtain rfl : k = L.length := by omega
        have gr0 : wr.cell? ⟨w.heap.size + 1, 0, none⟩ = some (.string ⟨#[]⟩) := kr2.cell 0
        have fr0 := kr2.frozen 0
        have gr1 : wr.cell? ⟨w.heap.size + 1, 1, none⟩ = some (.string ⟨#[]⟩) := kr2.cell 1
        have fr1 := kr2.frozen 1
        have bt : But (w.heap.size + 1) wr ((wr.setCell ⟨w.heap.size + 1, 0, none⟩ (.string ⟨#[]⟩)).setCell ⟨w.heap.size + 1, 1, none⟩ (.string ⟨#[]⟩)) := But.sets (g := w.heap.size + 1) [.string ⟨#[]⟩, .string ⟨#[]⟩] wr 0
        have krE : Bk ((wr.setCell ⟨w.heap.size + 1, 0, none⟩ (.string ⟨#[]⟩)).setCell ⟨w.heap.size + 1, 1, none⟩ (.string ⟨#[]⟩)) (w.heap.size + 1) 61 #[.string ⟨#[]⟩, .string ⟨#[]⟩] := kr2.setsL [.string ⟨#[]⟩, .string ⟨#[]⟩] 0
        clear H0 H1 HRB
        go_wp2_with fail
        refine bodyPost_ret (results_bk2 krE _ _ _ Tryz.results30 rfl rfl Tryz.underlying61 rfl (by kernel_rfl)) rfl ?_
        exact ⟨by rw [HE.out]; rfl, U2.but bt (by omega)⟩
end Go.Proofs.YtlifhbfomgbiaaaGreatDoor
