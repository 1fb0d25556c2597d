/-
  DiskRot: one byte of one sector turned.
-/
import Derived.Test.YtaobkpaefelkkaaCd
import Derived.Test.YtaobkpaefelkkaaDf
import Derived.Laws.BitsAllLaws
import Derived.Lib.ConvBytes
import Derived.Lib.SlBytesRow
namespace Go.Proofs.Ytaobkpaefelkkaa
open Go.RowKit
set_option linter.unusedVariables false
set_option linter.unusedSimpArgs false

def rotS (s : ByteArray) (p : Nat) (b : Nat) : ByteArray := ⟨s.data.setIfInBounds p (UInt8.ofNat ((s.data.toList.getD p 0).toNat ^^^ b))⟩
theorem rotS_size (s : ByteArray) (p b : Nat) : (rotS s p b).size = s.size := Array.size_setIfInBounds ..
def rotOk (d : TDisk) (a p b : Int) : Bool := inB a 0 (d.2.1.length - 1) && inB p 0 (d.1 - 1) && inB b 1 255
def diskRot (d : TDisk) (a p b : Int) : TDisk := if diskOk d = true ∧ rotOk d a p b = true then (d.1, d.2.1.set a.toNat (rotS (d.2.1.getD a.toNat ⟨#[]⟩) p.toNat b.toNat), d.2.2) else (0, [], [])
def diskRotC (d : TDisk) (a p b : Int) : Int := if diskOk d = true then (if rotOk d a p b = true then 0 else 2) else 1

/-- '[]byte(s)'. -/
theorem s2b (s : ByteArray) (W : World) : ∃ (c : Nat) (W' : World), (convert 9 100 (.string s)).run Try.prog W = .ok (.slice (some ⟨W.heap.size, 0, none⟩) s.size c) W' ∧ Up W W' ∧ W'.heap.size = W.heap.size + 1 ∧
    Lib.Bytes W' W.heap.size 0 s ∧ (∀ j, j < s.size → W'.frozen? ⟨W.heap.size, j, none⟩ = false) ∧ s.size ≤ c := by
  refine ⟨_, _, Lib.run_convert_string_bytes W 9 100 5 s (u := .string) Try.underlying9 Try.underlying100 Try.underlying5, ?_, Lib.bytesWorld_size _ _ _, ?_, ?_, grownCap_ge _ _ _ _⟩
  · refine ⟨rfl, rfl, rfl, by rw [Lib.bytesWorld_size]; omega, fun i hi => Lib.bytesWorld_at_old _ _ _ _ hi⟩
  · intro i hi
    rw [Nat.zero_add, Lib.bytesWorld_cell _ _ _ _ hi]
    have h := byte_at s i hi
    simp [List.getD, h]
  · intro j hj
    have h := Lib.bytesWorld_at_new W 5 s
    have hs : s.size ≤ (Lib.bytesCells W 5 s).size := by
      have := grownCap_ge W s.size 0 5
      simp [Lib.bytesCells]
    simp [World.frozen?, h]
    omega
/-- The bytes behind the turn. -/
theorem rot_bytes {W : World} {g : Nat} {s : ByteArray} {p b : Nat} (h : Lib.Bytes W g 0 s) (hp : p < s.size) (hb : b < 256) :
    Lib.Bytes (W.setCell ⟨g, p, none⟩ (.int .u8 (((s[p].toNat ^^^ b : Nat)) : Int))) g 0 (rotS s p b) := by
  intro i hi
  rw [rotS_size] at hi
  have hg : g < W.heap.size := cell_lt (h p hp)
  have hx : s[p].toNat ^^^ b < 256 := Nat.xor_lt_two_pow (n := 8) (by have := s[p].toNat_lt; omega) (by omega)
  have hd : s.data.toList.getD p 0 = s[p] := by have := byte_at s p hp; simp [List.getD, this]
  have hi' : i < (rotS s p b).size := by rw [rotS_size]; exact hi
  have hr := byte_at (rotS s p b) i hi'
  have hl : (rotS s p b).data.toList[i]? = (s.data.toList.set p (UInt8.ofNat (s[p].toNat ^^^ b)))[i]? := by
    rw [← hd]; simp [rotS]
  rw [hl] at hr
  rw [Nat.zero_add]
  by_cases e : i = p
  · subst e
    refine (Go.World.cell?_setCell_same' W ⟨g, i, none⟩ _ (by have := h i hp; rw [Nat.zero_add] at this; rw [this]; rfl)).trans ?_
    rw [List.getElem?_set_self (by simpa using hp)] at hr
    injection hr with hr
    rw [← hr]
    congr 2
    simp only [UInt8.toNat_ofNat']
    omega
  · refine (World.cell?_setCell_other W ⟨g, p, none⟩ ⟨g, i, none⟩ _ (fun h => e (by injection h with _ h2; exact h2.symm))).trans ?_
    have h1 := h i hi
    rw [Nat.zero_add] at h1
    rw [h1]
    rw [List.getElem?_set_ne (by omega), byte_at s i hi] at hr
    injection hr with hr
    rw [hr]
theorem toR_of {α : Type} {s : Sh α} {x y : α} {n m : Int} {w w' : World} {e : Ending} (h1 : Hid (x = y)) (h2 : Hid (n = m)) (h : ToR s y m w e w') : ToR s x n w e w' := by rw [h1.out, h2.out]; exact h
theorem zeroR (w w' : World) (c : Int) (u : Up w w') : ToR shDisk (0, [], []) c w (.returned (.tuple #[.agg #[.int .i64 0, .slice none 0 0, .slice none 0 0], .int .i64 c])) w' :=
  ⟨[.int .i64 0, .slice none 0 0, .slice none 0 0], [], rfl, own_zeroDisk _ _ _, by simp, u⟩

set_option maxRecDepth 100000 in
theorem c_l17Has (v : Value) (x : TDisk) (n : Int) (w : World) (h : AV shDisk w v x) : Calls Try.prog 78 #[v, .int .i64 n] w (BoolP (inB n 0 (x.2.1.length - 1)) w) := by
  obtain ⟨cs, rfl, h⟩ := h
  obtain ⟨x0, x1, x2⟩ := x
  have ho := openDisk h
  dsimp only at ho ⊢
  obtain ⟨A1, c1, A2, c2, rfl, b0, b1, b2⟩ := ho
  have hl1 := b1.len_le
  go_enter Try.func78, Try.ntmps78
  go_wp2_with (go_at_call 52; refine (in_any _ _ _ _).mono ?_; rintro e w' ⟨rfl, rfl⟩)
  go_ret
  exact ⟨rfl, (Up.refl _).alloc _⟩

set_option maxRecDepth 100000 in
set_option maxHeartbeats 4000000 in
theorem cs0_DiskRot (v : Value) (x : TDisk) (a p b : Int) (w : World) (h : AV shDisk w v x) (hn : shDisk.sz x ≤ 1048576) (ha : I64 a) (hp : I64 p) (hb : I64 b) : Calls Try.prog 50 #[v, .int .i64 a, .int .i64 p, .int .i64 b] w (ToR shDisk (diskRot x a p b) (diskRotC x a p b) w) := by
  have hv := h
  obtain ⟨cs, rfl, h⟩ := h
  obtain ⟨A1, c1, A2, c2, rfl, b0, b1, b2⟩ := openDisk h
  clear h
  have vv0 : Up w ((w.alloc (.cells #[.int .i64 x.1, .slice A1 x.2.1.length c1, .slice A2 x.2.2.length c2] 44)).alloc (.cells #[.int .i64 0, .slice none 0 0, .slice none 0 0] 44)) := ((Up.refl _).alloc _).alloc _
  have ja0 : Bk ((w.alloc (.cells #[.int .i64 x.1, .slice A1 x.2.1.length c1, .slice A2 x.2.2.length c2] 44)).alloc (.cells #[.int .i64 0, .slice none 0 0, .slice none 0 0] 44)) w.heap.size 44 #[.int .i64 x.1, .slice A1 x.2.1.length c1, .slice A2 x.2.2.length c2] := (Bk.new _ _ _).alloc _
  have jr0 : Bk ((w.alloc (.cells #[.int .i64 x.1, .slice A1 x.2.1.length c1, .slice A2 x.2.2.length c2] 44)).alloc (.cells #[.int .i64 0, .slice none 0 0, .slice none 0 0] 44)) (w.heap.size + 1) 44 #[.int .i64 0, .slice none 0 0, .slice none 0 0] := by simpa using Bk.new (w.alloc (.cells #[.int .i64 x.1, .slice A1 x.2.1.length c1, .slice A2 x.2.2.length c2] 44)) 44 #[.int .i64 0, .slice none 0 0, .slice none 0 0]
  obtain ⟨b0l, b0h⟩ := id b0
  go_enter Try.func50, Try.ntmps50
  go_wp2_with fail
  refine (cs_DiskOk _ x _ (hv.up good_Disk vv0) hn).mono ?_
  rintro e w1 ⟨rfl, u1⟩
  have uu1 := vv0.trans u1
  have ka1 := ja0.up u1
  have kr1 := jr0.up u1
  have ga1_0 : w1.cell? ⟨w.heap.size, 0, none⟩ = some (.int .i64 x.1) := ka1.cell 0
  have gr1_0 : w1.cell? ⟨w.heap.size + 1, 0, none⟩ = some (.int .i64 0) := kr1.cell 0
  have fr1_0 := kr1.frozen 0
  have ga1_1 : w1.cell? ⟨w.heap.size, 1, none⟩ = some (.slice A1 x.2.1.length c1) := ka1.cell 1
  have gr1_1 : w1.cell? ⟨w.heap.size + 1, 1, none⟩ = some (.slice none 0 0) := kr1.cell 1
  have fr1_1 := kr1.frozen 1
  have ga1_2 : w1.cell? ⟨w.heap.size, 2, none⟩ = some (.slice A2 x.2.2.length c2) := ka1.cell 2
  have gr1_2 : w1.cell? ⟨w.heap.size + 1, 2, none⟩ = some (.slice none 0 0) := kr1.cell 2
  have fr1_2 := kr1.frozen 2
  cases hok : diskOk x with
  | false =>
    have hd : Hid (diskRot x a p b = (0, [], [])) := by unfold Hid; simp [diskRot, hok]
    have hc : Hid (diskRotC x a p b = 1) := by unfold Hid; simp [diskRotC, hok]
    go_wp2_with fail
    refine bodyPost_ret (v := .tuple #[.agg #[.int .i64 0, .slice none 0 0, .slice none 0 0], .int .i64 1]) (by simp [results, Try.results50, go_sem, gr1_0, gr1_1, gr1_2]) rfl ?_
    exact toR_of hd hc (zeroR _ _ _ (uu1.sets (g := w.heap.size + 1) (by omega) 0 [.int .i64 0, .slice none 0 0, .slice none 0 0]))
  | true =>
    have hx0 : 1 ≤ x.1 ∧ x.1 ≤ 2000 := by
      simp only [diskOk, Bool.and_eq_true] at hok
      exact inB_t.1 hok.1.1.1.1
    obtain ⟨hx0l, hx0h⟩ := hx0
    have z1 := kr1.lt
    go_wp2_with fail
    refine (c_l17Has _ x _ _ (hv.up good_Disk uu1)).mono ?_
    rintro e w2 ⟨rfl, u2⟩
    have uu2 := uu1.trans u2
    have ka2 := ka1.up u2
    have kr2 := kr1.up u2
    have z2 := kr2.lt
    clear ga1_0 gr1_0 fr1_0 ga1_1 gr1_1 fr1_1 ga1_2 gr1_2 fr1_2
    have ga2_0 : w2.cell? ⟨w.heap.size, 0, none⟩ = some (.int .i64 x.1) := ka2.cell 0
    have gr2_0 : w2.cell? ⟨w.heap.size + 1, 0, none⟩ = some (.int .i64 0) := kr2.cell 0
    have fr2_0 := kr2.frozen 0
    have ga2_1 : w2.cell? ⟨w.heap.size, 1, none⟩ = some (.slice A1 x.2.1.length c1) := ka2.cell 1
    have gr2_1 : w2.cell? ⟨w.heap.size + 1, 1, none⟩ = some (.slice none 0 0) := kr2.cell 1
    have fr2_1 := kr2.frozen 1
    have ga2_2 : w2.cell? ⟨w.heap.size, 2, none⟩ = some (.slice A2 x.2.2.length c2) := ka2.cell 2
    have gr2_2 : w2.cell? ⟨w.heap.size + 1, 2, none⟩ = some (.slice none 0 0) := kr2.cell 2
    have fr2_2 := kr2.frozen 2
    cases q1 : inB a 0 (x.2.1.length - 1) with
    | false =>
      have hd : Hid (diskRot x a p b = (0, [], [])) := by unfold Hid; simp [diskRot, hok, rotOk, q1]
      have hc : Hid (diskRotC x a p b = 2) := by unfold Hid; simp [diskRotC, hok, rotOk, q1]
      go_wp2_with (go_at_call 52; refine (in_any _ _ _ _).mono ?_; rintro e w' ⟨rfl, rfl⟩)
      refine bodyPost_ret (v := .tuple #[.agg #[.int .i64 0, .slice none 0 0, .slice none 0 0], .int .i64 2]) (by simp [results, Try.results50, go_sem, gr2_0, gr2_1, gr2_2]) rfl ?_
      exact toR_of hd hc (zeroR _ _ _ (uu2.sets (g := w.heap.size + 1) (by omega) 0 [.int .i64 0, .slice none 0 0, .slice none 0 0]))
    | true =>
    cases q2 : inB p 0 (x.1 - 1) with
    | false =>
      have hd : Hid (diskRot x a p b = (0, [], [])) := by unfold Hid; simp [diskRot, hok, rotOk, q2]
      have hc : Hid (diskRotC x a p b = 2) := by unfold Hid; simp [diskRotC, hok, rotOk, q2]
      go_wp2_with (go_at_call 52; refine (in_any _ _ _ _).mono ?_; rintro e w' ⟨rfl, rfl⟩)
      refine bodyPost_ret (v := .tuple #[.agg #[.int .i64 0, .slice none 0 0, .slice none 0 0], .int .i64 2]) (by simp [results, Try.results50, go_sem, gr2_0, gr2_1, gr2_2]) rfl ?_
      exact toR_of hd hc (zeroR _ _ _ (uu2.sets (g := w.heap.size + 1) (by omega) 0 [.int .i64 0, .slice none 0 0, .slice none 0 0]))
    | true =>
    cases q3 : inB b 1 255 with
    | false =>
      have hd : Hid (diskRot x a p b = (0, [], [])) := by unfold Hid; simp [diskRot, hok, rotOk, q3]
      have hc : Hid (diskRotC x a p b = 2) := by unfold Hid; simp [diskRotC, hok, rotOk, q3]
      go_wp2_with (go_at_call 52; refine (in_any _ _ _ _).mono ?_; rintro e w' ⟨rfl, rfl⟩)
      refine bodyPost_ret (v := .tuple #[.agg #[.int .i64 0, .slice none 0 0, .slice none 0 0], .int .i64 2]) (by simp [results, Try.results50, go_sem, gr2_0, gr2_1, gr2_2]) rfl ?_
      exact toR_of hd hc (zeroR _ _ _ (uu2.sets (g := w.heap.size + 1) (by omega) 0 [.int .i64 0, .slice none 0 0, .slice none 0 0]))
    | true =>
    have q1' := inB_t.1 q1
    have q2' := inB_t.1 q2
    have q3' := inB_t.1 q3
    obtain ⟨m, rfl⟩ : ∃ m : Nat, a = (m : Int) := ⟨a.toNat, by omega⟩
    obtain ⟨t, rfl⟩ : ∃ t : Nat, p = (t : Int) := ⟨p.toNat, by omega⟩
    obtain ⟨r, rfl⟩ : ∃ r : Nat, b = (r : Int) := ⟨b.toNat, by omega⟩
    have hm : m < x.2.1.length := by omega
    have hsz : (x.2.1[m].size : Int) = x.1 := by
      simp only [diskOk, Bool.and_eq_true, Bool.not_eq_true', List.any_eq_false] at hok
      have := hok.1.2 x.2.1[m] (List.getElem_mem hm)
      simpa [badSec] using this
    have hd : Hid (diskRot x m t r = (x.1, x.2.1.set m (rotS x.2.1[m] t r), x.2.2)) := by unfold Hid; simp [diskRot, hok, rotOk, q1, q2, q3, List.getD, hm]
    have hc : Hid (diskRotC x m t r = 0) := by unfold Hid; simp [diskRotC, hok, rotOk, q1, q2, q3]
    go_wp2_with (go_at_call 52; refine (in_any _ _ _ _).mono ?_; rintro e w' ⟨rfl, rfl⟩)
    refine (c_l17Own _ x _ (hv.up good_Disk uu2) hn).mono ?_
    rintro e w3 ⟨cs3, bl, rfl, o3, nd3, u3⟩
    obtain ⟨D1, d1, bl1, D2, d2, bl2, rfl, rfl, _, s1, s2⟩ := openODisk o3
    have uB := Up.alloc (Up.refl w3) (.cells #[.int .i64 x.1, .slice D1 x.2.1.length d1, .slice D2 x.2.2.length d2] 44)
    have kB := Bk.new w3 44 #[.int .i64 x.1, .slice D1 x.2.1.length d1, .slice D2 x.2.2.length d2]
    have ka3 := (ka2.up u3).up uB
    have kr3 := (kr2.up u3).up uB
    have uu3 := (uu2.trans u3).trans uB
    have zB := u3.size
    have s1B := s1.up good_S uB
    have s2B := s2.up good_Put uB
    have nd1 : bl1.Nodup := (List.nodup_append.1 nd3).1
    have hdis : ∀ y ∈ bl1, y ∉ bl2 := fun y hy hy2 => (List.nodup_append.1 nd3).2.2 y hy y hy2 rfl
    have hin1 : ∀ y ∈ bl1, w2.heap.size ≤ y ∧ y < w3.heap.size := s1.in_ good_S
    have hin2 : ∀ y ∈ bl2, w2.heap.size ≤ y ∧ y < w3.heap.size := s2.in_ good_Put
    obtain ⟨g, off, rfl, _, _, hc1, hc2⟩ := (s1B.rep good_S).at_S hm
    obtain ⟨cc, w4, hcv, u4, z4, hby, hfr, hcc⟩ := s2b x.2.1[m] (w3.alloc (.cells #[.int .i64 x.1, .slice (some ⟨g, off, none⟩) x.2.1.length d1, .slice D2 x.2.2.length d2] 44))
    have hN : (w3.alloc (.cells #[.int .i64 x.1, .slice (some ⟨g, off, none⟩) x.2.1.length d1, .slice D2 x.2.2.length d2] 44)).heap.size = w3.heap.size + 1 := by simp
    rw [hN] at hcv z4 hby hfr
    clear hN
    have ht : t < x.2.1[m].size := by omega
    have kB4 := kB.up u4
    have ka4 := ka3.up u4
    have kr4 := kr3.up u4
    have uu4 := uu3.trans u4
    have gt : w4.cell? ⟨w3.heap.size + 1, t, none⟩ = some (.int .u8 (x.2.1[m][t].toNat : Int)) := by have := hby t ht; rwa [Nat.zero_add] at this
    have ft := hfr t ht
    have hbt := x.2.1[m][t].toNat_lt
    have hbits : bits .xor .u8 (x.2.1[m][t].toNat : Int) (r : Int) = (((x.2.1[m][t].toNat ^^^ r : Nat)) : Int) := u8_xor_nat _ _ (by omega) (by omega)
    have hby5 := rot_bytes hby ht (b := r) (by omega)
    have hcv5 := Lib.run_convert_whole (P := Try.prog) _ 100 5 9 Try.underlying100 Try.underlying5 Try.underlying9 _ _ _ hby5 cc
    rw [rotS_size] at hcv5
    have gB4_1 : w4.cell? ⟨w3.heap.size, 1, none⟩ = some (.slice (some ⟨g, off, none⟩) x.2.1.length d1) := kB4.cell 1
    clear hby5 hfr hby
    have s1C := s1B.up good_S u4
    have hb5 := But.set w4 (w3.heap.size + 1) t (.int .u8 (((x.2.1[m][t].toNat ^^^ r : Nat)) : Int))
    have s1D : SO shS (w4.setCell ⟨w3.heap.size + 1, t, none⟩ (.int .u8 (((x.2.1[m][t].toNat ^^^ r : Nat)) : Int))) w2.heap.size (w4.setCell ⟨w3.heap.size + 1, t, none⟩ (.int .u8 (((x.2.1[m][t].toNat ^^^ r : Nat)) : Int))).heap.size (some ⟨g, off, none⟩) d1 x.2.1 bl1 := by
      rw [hb5.size]
      exact s1C.keep good_S (fun y hy => hb5.block y (fun e => by have := hin1 y hy; omega))
    obtain ⟨g', off', o', hgo, hgb, _, _, hg3, hgc, hgf, hset⟩ := s1D.setS nd1 hm
    injection hgo with hgo
    injection hgo with hg' ho' _
    subst hg' ho'
    have hgin := hin1 g hgb
    have hset' := hset (rotS x.2.1[m] t r) (by rw [rotS_size]; unfold maxLen; omega)
    clear hset
    have fg4 : w4.frozen? ⟨g, off + m, none⟩ = false := by rw [← World.frozen?_of_block (w := w4) (hb5.block g (by omega))]; exact hgf
    have hb6 := But.set (w4.setCell ⟨w3.heap.size + 1, t, none⟩ (.int .u8 (((x.2.1[m][t].toNat ^^^ r : Nat)) : Int))) g (off + m) (.string (rotS x.2.1[m] t r))
    have kB6 := (kB4.far (p := ⟨w3.heap.size + 1, t, none⟩) (by dsimp only; omega) (.int .u8 (((x.2.1[m][t].toNat ^^^ r : Nat)) : Int))).far (p := ⟨g, off + m, none⟩) (by dsimp only; omega) (.string (rotS x.2.1[m] t r))
    have kr6 := (kr4.far (p := ⟨w3.heap.size + 1, t, none⟩) (by dsimp only; omega) (.int .u8 (((x.2.1[m][t].toNat ^^^ r : Nat)) : Int))).far (p := ⟨g, off + m, none⟩) (by dsimp only; omega) (.string (rotS x.2.1[m] t r))
    have uu6 := (uu4.but hb5 (by omega)).but hb6 (by omega)
    have s1E := hset'
    rw [← hb6.size] at s1E
    have s2E : SO shPut ((w4.setCell ⟨w3.heap.size + 1, t, none⟩ (.int .u8 (((x.2.1[m][t].toNat ^^^ r : Nat)) : Int))).setCell ⟨g, off + m, none⟩ (.string (rotS x.2.1[m] t r))) w2.heap.size ((w4.setCell ⟨w3.heap.size + 1, t, none⟩ (.int .u8 (((x.2.1[m][t].toNat ^^^ r : Nat)) : Int))).setCell ⟨g, off + m, none⟩ (.string (rotS x.2.1[m] t r))).heap.size D2 d2 x.2.2 bl2 := by
      rw [hb6.size, hb5.size]
      exact ((s2B.up good_Put u4).keep good_Put (fun y hy => hb5.block y (fun e => by have := hin2 y hy; omega))).keep good_Put (fun y hy => hb6.block y (fun e => hdis g hgb (e ▸ hy)))
    clear hset' s1D s1C s1B s2B
    have gB6_0 : ((w4.setCell ⟨w3.heap.size + 1, t, none⟩ (.int .u8 (((x.2.1[m][t].toNat ^^^ r : Nat)) : Int))).setCell ⟨g, off + m, none⟩ (.string (rotS x.2.1[m] t r))).cell? ⟨w3.heap.size, 0, none⟩ = some (.int .i64 x.1) := kB6.cell 0
    have gr6_0 : ((w4.setCell ⟨w3.heap.size + 1, t, none⟩ (.int .u8 (((x.2.1[m][t].toNat ^^^ r : Nat)) : Int))).setCell ⟨g, off + m, none⟩ (.string (rotS x.2.1[m] t r))).cell? ⟨w.heap.size + 1, 0, none⟩ = some (.int .i64 0) := kr6.cell 0
    have fr6_0 := kr6.frozen 0
    have gB6_1 : ((w4.setCell ⟨w3.heap.size + 1, t, none⟩ (.int .u8 (((x.2.1[m][t].toNat ^^^ r : Nat)) : Int))).setCell ⟨g, off + m, none⟩ (.string (rotS x.2.1[m] t r))).cell? ⟨w3.heap.size, 1, none⟩ = some (.slice (some ⟨g, off, none⟩) x.2.1.length d1) := kB6.cell 1
    have gr6_1 : ((w4.setCell ⟨w3.heap.size + 1, t, none⟩ (.int .u8 (((x.2.1[m][t].toNat ^^^ r : Nat)) : Int))).setCell ⟨g, off + m, none⟩ (.string (rotS x.2.1[m] t r))).cell? ⟨w.heap.size + 1, 1, none⟩ = some (.slice none 0 0) := kr6.cell 1
    have fr6_1 := kr6.frozen 1
    have gB6_2 : ((w4.setCell ⟨w3.heap.size + 1, t, none⟩ (.int .u8 (((x.2.1[m][t].toNat ^^^ r : Nat)) : Int))).setCell ⟨g, off + m, none⟩ (.string (rotS x.2.1[m] t r))).cell? ⟨w3.heap.size, 2, none⟩ = some (.slice D2 x.2.2.length d2) := kB6.cell 2
    have gr6_2 : ((w4.setCell ⟨w3.heap.size + 1, t, none⟩ (.int .u8 (((x.2.1[m][t].toNat ^^^ r : Nat)) : Int))).setCell ⟨g, off + m, none⟩ (.string (rotS x.2.1[m] t r))).cell? ⟨w.heap.size + 1, 2, none⟩ = some (.slice none 0 0) := kr6.cell 2
    have fr6_2 := kr6.frozen 2
    go_wp2_with fail
    refine bodyPost_ret (v := .tuple #[.agg #[.int .i64 x.1, .slice (some ⟨g, off, none⟩) x.2.1.length d1, .slice D2 x.2.2.length d2], .int .i64 0]) (by simp [results, Try.results50, go_sem, gr6_0, gr6_1, gr6_2]) rfl ?_
    have z1 := (s1E.set good_S (w.heap.size + 1) 0 [.int .i64 x.1, .slice (some ⟨g, off, none⟩) x.2.1.length d1, .slice D2 x.2.2.length d2] (by omega)).wide good_S (lo' := w.heap.size) (by omega) (Nat.le_refl _)
    have z2 := (s2E.set good_Put (w.heap.size + 1) 0 [.int .i64 x.1, .slice (some ⟨g, off, none⟩) x.2.1.length d1, .slice D2 x.2.2.length d2] (by omega)).wide good_Put (lo' := w.heap.size) (by omega) (Nat.le_refl _)
    have asm := asmDisk (x0 := x.1) b0 z1 z2
    rw [List.length_set] at asm
    exact toR_of hd hc ⟨[.int .i64 x.1, .slice (some ⟨g, off, none⟩) x.2.1.length d1, .slice D2 x.2.2.length d2], _, rfl, asm, nd3, uu6.sets (g := w.heap.size + 1) (by omega) 0 [.int .i64 x.1, .slice (some ⟨g, off, none⟩) x.2.1.length d1, .slice D2 x.2.2.length d2]⟩

set_option maxRecDepth 100000 in
set_option maxHeartbeats 4000000 in
theorem ci_DiskRot (v : Value) (x : TDisk) (a p b : Int) (w : World) (h : AV shDisk w v x) (hn : shDisk.sz x ≤ 1048576) (ha : I64 a) (hp : I64 p) (hb : I64 b) : Calls Try.prog 51 #[v, .int .i64 a, .int .i64 p, .int .i64 b] w (ToR shDisk (diskRot x a p b) (diskRotC x a p b) w) := by
  have hv := h
  obtain ⟨cs, rfl, h⟩ := h
  obtain ⟨A1, c1, A2, c2, rfl, b0, b1, b2⟩ := openDisk h
  clear h
  have vv0 : Up w ((w.alloc (.cells #[.int .i64 x.1, .slice A1 x.2.1.length c1, .slice A2 x.2.2.length c2] 44)).alloc (.cells #[.int .i64 0, .slice none 0 0, .slice none 0 0] 44)) := ((Up.refl _).alloc _).alloc _
  have ja0 : Bk ((w.alloc (.cells #[.int .i64 x.1, .slice A1 x.2.1.length c1, .slice A2 x.2.2.length c2] 44)).alloc (.cells #[.int .i64 0, .slice none 0 0, .slice none 0 0] 44)) w.heap.size 44 #[.int .i64 x.1, .slice A1 x.2.1.length c1, .slice A2 x.2.2.length c2] := (Bk.new _ _ _).alloc _
  have jr0 : Bk ((w.alloc (.cells #[.int .i64 x.1, .slice A1 x.2.1.length c1, .slice A2 x.2.2.length c2] 44)).alloc (.cells #[.int .i64 0, .slice none 0 0, .slice none 0 0] 44)) (w.heap.size + 1) 44 #[.int .i64 0, .slice none 0 0, .slice none 0 0] := by simpa using Bk.new (w.alloc (.cells #[.int .i64 x.1, .slice A1 x.2.1.length c1, .slice A2 x.2.2.length c2] 44)) 44 #[.int .i64 0, .slice none 0 0, .slice none 0 0]
  obtain ⟨b0l, b0h⟩ := id b0
  go_enter Try.func51, Try.ntmps51
  go_wp2_with fail
  refine (ci_DiskOk _ x _ (hv.up good_Disk vv0) hn).mono ?_
  rintro e w1 ⟨rfl, u1⟩
  have uu1 := vv0.trans u1
  have ka1 := ja0.up u1
  have kr1 := jr0.up u1
  have ga1_0 : w1.cell? ⟨w.heap.size, 0, none⟩ = some (.int .i64 x.1) := ka1.cell 0
  have gr1_0 : w1.cell? ⟨w.heap.size + 1, 0, none⟩ = some (.int .i64 0) := kr1.cell 0
  have fr1_0 := kr1.frozen 0
  have ga1_1 : w1.cell? ⟨w.heap.size, 1, none⟩ = some (.slice A1 x.2.1.length c1) := ka1.cell 1
  have gr1_1 : w1.cell? ⟨w.heap.size + 1, 1, none⟩ = some (.slice none 0 0) := kr1.cell 1
  have fr1_1 := kr1.frozen 1
  have ga1_2 : w1.cell? ⟨w.heap.size, 2, none⟩ = some (.slice A2 x.2.2.length c2) := ka1.cell 2
  have gr1_2 : w1.cell? ⟨w.heap.size + 1, 2, none⟩ = some (.slice none 0 0) := kr1.cell 2
  have fr1_2 := kr1.frozen 2
  cases hok : diskOk x with
  | false =>
    have hd : Hid (diskRot x a p b = (0, [], [])) := by unfold Hid; simp [diskRot, hok]
    have hc : Hid (diskRotC x a p b = 1) := by unfold Hid; simp [diskRotC, hok]
    go_wp2_with fail
    refine bodyPost_ret (v := .tuple #[.agg #[.int .i64 0, .slice none 0 0, .slice none 0 0], .int .i64 1]) (by simp [results, Try.results51, go_sem, gr1_0, gr1_1, gr1_2]) rfl ?_
    exact toR_of hd hc (zeroR _ _ _ (uu1.sets (g := w.heap.size + 1) (by omega) 0 [.int .i64 0, .slice none 0 0, .slice none 0 0]))
  | true =>
    have hx0 : 1 ≤ x.1 ∧ x.1 ≤ 2000 := by
      simp only [diskOk, Bool.and_eq_true] at hok
      exact inB_t.1 hok.1.1.1.1
    obtain ⟨hx0l, hx0h⟩ := hx0
    have z1 := kr1.lt
    go_wp2_with fail
    refine (c_has _ x _ _ (hv.up good_Disk uu1)).mono ?_
    rintro e w2 ⟨rfl, u2⟩
    have uu2 := uu1.trans u2
    have ka2 := ka1.up u2
    have kr2 := kr1.up u2
    have z2 := kr2.lt
    clear ga1_0 gr1_0 fr1_0 ga1_1 gr1_1 fr1_1 ga1_2 gr1_2 fr1_2
    have ga2_0 : w2.cell? ⟨w.heap.size, 0, none⟩ = some (.int .i64 x.1) := ka2.cell 0
    have gr2_0 : w2.cell? ⟨w.heap.size + 1, 0, none⟩ = some (.int .i64 0) := kr2.cell 0
    have fr2_0 := kr2.frozen 0
    have ga2_1 : w2.cell? ⟨w.heap.size, 1, none⟩ = some (.slice A1 x.2.1.length c1) := ka2.cell 1
    have gr2_1 : w2.cell? ⟨w.heap.size + 1, 1, none⟩ = some (.slice none 0 0) := kr2.cell 1
    have fr2_1 := kr2.frozen 1
    have ga2_2 : w2.cell? ⟨w.heap.size, 2, none⟩ = some (.slice A2 x.2.2.length c2) := ka2.cell 2
    have gr2_2 : w2.cell? ⟨w.heap.size + 1, 2, none⟩ = some (.slice none 0 0) := kr2.cell 2
    have fr2_2 := kr2.frozen 2
    cases q1 : inB a 0 (x.2.1.length - 1) with
    | false =>
      have hd : Hid (diskRot x a p b = (0, [], [])) := by unfold Hid; simp [diskRot, hok, rotOk, q1]
      have hc : Hid (diskRotC x a p b = 2) := by unfold Hid; simp [diskRotC, hok, rotOk, q1]
      go_wp2_with (go_at_call 53; refine (within_any _ _ _ _).mono ?_; rintro e w' ⟨rfl, rfl⟩)
      refine bodyPost_ret (v := .tuple #[.agg #[.int .i64 0, .slice none 0 0, .slice none 0 0], .int .i64 2]) (by simp [results, Try.results51, go_sem, gr2_0, gr2_1, gr2_2]) rfl ?_
      exact toR_of hd hc (zeroR _ _ _ (uu2.sets (g := w.heap.size + 1) (by omega) 0 [.int .i64 0, .slice none 0 0, .slice none 0 0]))
    | true =>
    cases q2 : inB p 0 (x.1 - 1) with
    | false =>
      have hd : Hid (diskRot x a p b = (0, [], [])) := by unfold Hid; simp [diskRot, hok, rotOk, q2]
      have hc : Hid (diskRotC x a p b = 2) := by unfold Hid; simp [diskRotC, hok, rotOk, q2]
      go_wp2_with (go_at_call 53; refine (within_any _ _ _ _).mono ?_; rintro e w' ⟨rfl, rfl⟩)
      refine bodyPost_ret (v := .tuple #[.agg #[.int .i64 0, .slice none 0 0, .slice none 0 0], .int .i64 2]) (by simp [results, Try.results51, go_sem, gr2_0, gr2_1, gr2_2]) rfl ?_
      exact toR_of hd hc (zeroR _ _ _ (uu2.sets (g := w.heap.size + 1) (by omega) 0 [.int .i64 0, .slice none 0 0, .slice none 0 0]))
    | true =>
    cases q3 : inB b 1 255 with
    | false =>
      have hd : Hid (diskRot x a p b = (0, [], [])) := by unfold Hid; simp [diskRot, hok, rotOk, q3]
      have hc : Hid (diskRotC x a p b = 2) := by unfold Hid; simp [diskRotC, hok, rotOk, q3]
      go_wp2_with (go_at_call 53; refine (within_any _ _ _ _).mono ?_; rintro e w' ⟨rfl, rfl⟩)
      refine bodyPost_ret (v := .tuple #[.agg #[.int .i64 0, .slice none 0 0, .slice none 0 0], .int .i64 2]) (by simp [results, Try.results51, go_sem, gr2_0, gr2_1, gr2_2]) rfl ?_
      exact toR_of hd hc (zeroR _ _ _ (uu2.sets (g := w.heap.size + 1) (by omega) 0 [.int .i64 0, .slice none 0 0, .slice none 0 0]))
    | true =>
    have q1' := inB_t.1 q1
    have q2' := inB_t.1 q2
    have q3' := inB_t.1 q3
    obtain ⟨m, rfl⟩ : ∃ m : Nat, a = (m : Int) := ⟨a.toNat, by omega⟩
    obtain ⟨t, rfl⟩ : ∃ t : Nat, p = (t : Int) := ⟨p.toNat, by omega⟩
    obtain ⟨r, rfl⟩ : ∃ r : Nat, b = (r : Int) := ⟨b.toNat, by omega⟩
    have hm : m < x.2.1.length := by omega
    have hsz : (x.2.1[m].size : Int) = x.1 := by
      simp only [diskOk, Bool.and_eq_true, Bool.not_eq_true', List.any_eq_false] at hok
      have := hok.1.2 x.2.1[m] (List.getElem_mem hm)
      simpa [badSec] using this
    have hd : Hid (diskRot x m t r = (x.1, x.2.1.set m (rotS x.2.1[m] t r), x.2.2)) := by unfold Hid; simp [diskRot, hok, rotOk, q1, q2, q3, List.getD, hm]
    have hc : Hid (diskRotC x m t r = 0) := by unfold Hid; simp [diskRotC, hok, rotOk, q1, q2, q3]
    go_wp2_with (go_at_call 53; refine (within_any _ _ _ _).mono ?_; rintro e w' ⟨rfl, rfl⟩)
    refine (c_copyDisk _ x _ (hv.up good_Disk uu2) hn).mono ?_
    rintro e w3 ⟨cs3, bl, rfl, o3, nd3, u3⟩
    obtain ⟨D1, d1, bl1, D2, d2, bl2, rfl, rfl, _, s1, s2⟩ := openODisk o3
    have uB := Up.alloc (Up.refl w3) (.cells #[.int .i64 x.1, .slice D1 x.2.1.length d1, .slice D2 x.2.2.length d2] 44)
    have kB := Bk.new w3 44 #[.int .i64 x.1, .slice D1 x.2.1.length d1, .slice D2 x.2.2.length d2]
    have ka3 := (ka2.up u3).up uB
    have kr3 := (kr2.up u3).up uB
    have uu3 := (uu2.trans u3).trans uB
    have zB := u3.size
    have s1B := s1.up good_S uB
    have s2B := s2.up good_Put uB
    have nd1 : bl1.Nodup := (List.nodup_append.1 nd3).1
    have hdis : ∀ y ∈ bl1, y ∉ bl2 := fun y hy hy2 => (List.nodup_append.1 nd3).2.2 y hy y hy2 rfl
    have hin1 : ∀ y ∈ bl1, w2.heap.size ≤ y ∧ y < w3.heap.size := s1.in_ good_S
    have hin2 : ∀ y ∈ bl2, w2.heap.size ≤ y ∧ y < w3.heap.size := s2.in_ good_Put
    obtain ⟨g, off, rfl, _, _, hc1, hc2⟩ := (s1B.rep good_S).at_S hm
    obtain ⟨cc, w4, hcv, u4, z4, hby, hfr, hcc⟩ := s2b x.2.1[m] (w3.alloc (.cells #[.int .i64 x.1, .slice (some ⟨g, off, none⟩) x.2.1.length d1, .slice D2 x.2.2.length d2] 44))
    have hN : (w3.alloc (.cells #[.int .i64 x.1, .slice (some ⟨g, off, none⟩) x.2.1.length d1, .slice D2 x.2.2.length d2] 44)).heap.size = w3.heap.size + 1 := by simp
    rw [hN] at hcv z4 hby hfr
    clear hN
    have ht : t < x.2.1[m].size := by omega
    have kB4 := kB.up u4
    have ka4 := ka3.up u4
    have kr4 := kr3.up u4
    have uu4 := uu3.trans u4
    have gt : w4.cell? ⟨w3.heap.size + 1, t, none⟩ = some (.int .u8 (x.2.1[m][t].toNat : Int)) := by have := hby t ht; rwa [Nat.zero_add] at this
    have ft := hfr t ht
    have hbt := x.2.1[m][t].toNat_lt
    have hbits : bits .xor .u8 (x.2.1[m][t].toNat : Int) (r : Int) = (((x.2.1[m][t].toNat ^^^ r : Nat)) : Int) := u8_xor_nat _ _ (by omega) (by omega)
    have hby5 := rot_bytes hby ht (b := r) (by omega)
    have hcv5 := Lib.run_convert_whole (P := Try.prog) _ 100 5 9 Try.underlying100 Try.underlying5 Try.underlying9 _ _ _ hby5 cc
    rw [rotS_size] at hcv5
    have gB4_1 : w4.cell? ⟨w3.heap.size, 1, none⟩ = some (.slice (some ⟨g, off, none⟩) x.2.1.length d1) := kB4.cell 1
    clear hby5 hfr hby
    have s1C := s1B.up good_S u4
    have hb5 := But.set w4 (w3.heap.size + 1) t (.int .u8 (((x.2.1[m][t].toNat ^^^ r : Nat)) : Int))
    have s1D : SO shS (w4.setCell ⟨w3.heap.size + 1, t, none⟩ (.int .u8 (((x.2.1[m][t].toNat ^^^ r : Nat)) : Int))) w2.heap.size (w4.setCell ⟨w3.heap.size + 1, t, none⟩ (.int .u8 (((x.2.1[m][t].toNat ^^^ r : Nat)) : Int))).heap.size (some ⟨g, off, none⟩) d1 x.2.1 bl1 := by
      rw [hb5.size]
      exact s1C.keep good_S (fun y hy => hb5.block y (fun e => by have := hin1 y hy; omega))
    obtain ⟨g', off', o', hgo, hgb, _, _, hg3, hgc, hgf, hset⟩ := s1D.setS nd1 hm
    injection hgo with hgo
    injection hgo with hg' ho' _
    subst hg' ho'
    have hgin := hin1 g hgb
    have hset' := hset (rotS x.2.1[m] t r) (by rw [rotS_size]; unfold maxLen; omega)
    clear hset
    have fg4 : w4.frozen? ⟨g, off + m, none⟩ = false := by rw [← World.frozen?_of_block (w := w4) (hb5.block g (by omega))]; exact hgf
    have hb6 := But.set (w4.setCell ⟨w3.heap.size + 1, t, none⟩ (.int .u8 (((x.2.1[m][t].toNat ^^^ r : Nat)) : Int))) g (off + m) (.string (rotS x.2.1[m] t r))
    have kB6 := (kB4.far (p := ⟨w3.heap.size + 1, t, none⟩) (by dsimp only; omega) (.int .u8 (((x.2.1[m][t].toNat ^^^ r : Nat)) : Int))).far (p := ⟨g, off + m, none⟩) (by dsimp only; omega) (.string (rotS x.2.1[m] t r))
    have kr6 := (kr4.far (p := ⟨w3.heap.size + 1, t, none⟩) (by dsimp only; omega) (.int .u8 (((x.2.1[m][t].toNat ^^^ r : Nat)) : Int))).far (p := ⟨g, off + m, none⟩) (by dsimp only; omega) (.string (rotS x.2.1[m] t r))
    have uu6 := (uu4.but hb5 (by omega)).but hb6 (by omega)
    have s1E := hset'
    rw [← hb6.size] at s1E
    have s2E : SO shPut ((w4.setCell ⟨w3.heap.size + 1, t, none⟩ (.int .u8 (((x.2.1[m][t].toNat ^^^ r : Nat)) : Int))).setCell ⟨g, off + m, none⟩ (.string (rotS x.2.1[m] t r))) w2.heap.size ((w4.setCell ⟨w3.heap.size + 1, t, none⟩ (.int .u8 (((x.2.1[m][t].toNat ^^^ r : Nat)) : Int))).setCell ⟨g, off + m, none⟩ (.string (rotS x.2.1[m] t r))).heap.size D2 d2 x.2.2 bl2 := by
      rw [hb6.size, hb5.size]
      exact ((s2B.up good_Put u4).keep good_Put (fun y hy => hb5.block y (fun e => by have := hin2 y hy; omega))).keep good_Put (fun y hy => hb6.block y (fun e => hdis g hgb (e ▸ hy)))
    clear hset' s1D s1C s1B s2B
    have gB6_0 : ((w4.setCell ⟨w3.heap.size + 1, t, none⟩ (.int .u8 (((x.2.1[m][t].toNat ^^^ r : Nat)) : Int))).setCell ⟨g, off + m, none⟩ (.string (rotS x.2.1[m] t r))).cell? ⟨w3.heap.size, 0, none⟩ = some (.int .i64 x.1) := kB6.cell 0
    have gr6_0 : ((w4.setCell ⟨w3.heap.size + 1, t, none⟩ (.int .u8 (((x.2.1[m][t].toNat ^^^ r : Nat)) : Int))).setCell ⟨g, off + m, none⟩ (.string (rotS x.2.1[m] t r))).cell? ⟨w.heap.size + 1, 0, none⟩ = some (.int .i64 0) := kr6.cell 0
    have fr6_0 := kr6.frozen 0
    have gB6_1 : ((w4.setCell ⟨w3.heap.size + 1, t, none⟩ (.int .u8 (((x.2.1[m][t].toNat ^^^ r : Nat)) : Int))).setCell ⟨g, off + m, none⟩ (.string (rotS x.2.1[m] t r))).cell? ⟨w3.heap.size, 1, none⟩ = some (.slice (some ⟨g, off, none⟩) x.2.1.length d1) := kB6.cell 1
    have gr6_1 : ((w4.setCell ⟨w3.heap.size + 1, t, none⟩ (.int .u8 (((x.2.1[m][t].toNat ^^^ r : Nat)) : Int))).setCell ⟨g, off + m, none⟩ (.string (rotS x.2.1[m] t r))).cell? ⟨w.heap.size + 1, 1, none⟩ = some (.slice none 0 0) := kr6.cell 1
    have fr6_1 := kr6.frozen 1
    have gB6_2 : ((w4.setCell ⟨w3.heap.size + 1, t, none⟩ (.int .u8 (((x.2.1[m][t].toNat ^^^ r : Nat)) : Int))).setCell ⟨g, off + m, none⟩ (.string (rotS x.2.1[m] t r))).cell? ⟨w3.heap.size, 2, none⟩ = some (.slice D2 x.2.2.length d2) := kB6.cell 2
    have gr6_2 : ((w4.setCell ⟨w3.heap.size + 1, t, none⟩ (.int .u8 (((x.2.1[m][t].toNat ^^^ r : Nat)) : Int))).setCell ⟨g, off + m, none⟩ (.string (rotS x.2.1[m] t r))).cell? ⟨w.heap.size + 1, 2, none⟩ = some (.slice none 0 0) := kr6.cell 2
    have fr6_2 := kr6.frozen 2
    go_wp2_with fail
    refine bodyPost_ret (v := .tuple #[.agg #[.int .i64 x.1, .slice (some ⟨g, off, none⟩) x.2.1.length d1, .slice D2 x.2.2.length d2], .int .i64 0]) (by simp [results, Try.results51, go_sem, gr6_0, gr6_1, gr6_2]) rfl ?_
    have z1 := (s1E.set good_S (w.heap.size + 1) 0 [.int .i64 x.1, .slice (some ⟨g, off, none⟩) x.2.1.length d1, .slice D2 x.2.2.length d2] (by omega)).wide good_S (lo' := w.heap.size) (by omega) (Nat.le_refl _)
    have z2 := (s2E.set good_Put (w.heap.size + 1) 0 [.int .i64 x.1, .slice (some ⟨g, off, none⟩) x.2.1.length d1, .slice D2 x.2.2.length d2] (by omega)).wide good_Put (lo' := w.heap.size) (by omega) (Nat.le_refl _)
    have asm := asmDisk (x0 := x.1) b0 z1 z2
    rw [List.length_set] at asm
    exact toR_of hd hc ⟨[.int .i64 x.1, .slice (some ⟨g, off, none⟩) x.2.1.length d1, .slice D2 x.2.2.length d2], _, rfl, asm, nd3, uu6.sets (g := w.heap.size + 1) (by omega) 0 [.int .i64 x.1, .slice (some ⟨g, off, none⟩) x.2.1.length d1, .slice D2 x.2.2.length d2]⟩

theorem cs_DiskRot (v : Value) (x : TDisk) (a p b : Int) (w : World) (h : AV shDisk w v x) (hn : shDisk.sz x ≤ 1048576) (ha : I64 a) (hp : I64 p) (hb : I64 b) : Calls Try.prog 50 #[v, .int .i64 a, .int .i64 p, .int .i64 b] w (RpR shDisk (diskRot x a p b) (diskRotC x a p b) w) := (cs0_DiskRot v x a p b w h hn ha hp hb).mono fun _ _ h => h.rp good_Disk
theorem cbg_DiskRot (x : TDisk) (hn : shDisk.sz x ≤ 1048576) (a p b : Int) : (1 : Int) + (mmTDisk.cnt (diskRot x a p b) : Nat) ≤ 1000000000 := by
  have h := cnt_Disk x hn
  rw [cntDisk_eq] at h ⊢
  unfold diskRot
  split
  · dsimp only
    rw [List.length_set]
    omega
  · decide
end Go.Proofs.Ytaobkpaefelkkaa
