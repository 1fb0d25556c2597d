/-
  DiskLoss: the program's and the reference's give one disk in new memory, and a code.
-/
import Derived.Test.YtidfeipilleafaaHas
import Derived.Test.YtidfeipilleafaaRi
import Derived.Test.YtidfeipilleafaaMid
import Derived.Test.YtidfeipilleafaaLt
import Derived.StillTailTactics
namespace Go.Proofs.Ytidfeipilleafaa
open Go.RowKit
set_option linter.unusedVariables false
set_option linter.unusedSimpArgs false

def cutB (a b : ByteArray) (t : Nat) : ByteArray := a.extract 0 t ++ b.extract t b.size
def lossP (ps : List TPut) (ks : List Int) (k : Nat) : TPut := ps.getD (ks.getD k 0).toNat (0, ⟨#[]⟩)
def lossTo (l : List ByteArray) (ps : List TPut) (ks : List Int) (torn : Int) : Nat → List ByteArray
  | 0 => l
  | k + 1 => (lossTo l ps ks torn k).set (lossP ps ks k).1.toNat (if k + 1 = ks.length ∧ 0 ≤ torn then cutB (lossP ps ks k).2 ((lossTo l ps ks torn k).getD (lossP ps ks k).1.toNat ⟨#[]⟩) torn.toNat else (lossP ps ks k).2)
theorem lossTo_len (l : List ByteArray) (ps : List TPut) (ks : List Int) (torn : Int) : ∀ k, (lossTo l ps ks torn k).length = l.length
  | 0 => rfl
  | k + 1 => by rw [lossTo, List.length_set]; exact lossTo_len l ps ks torn k
def lossOk (d : TDisk) (ks : List Int) (torn : Int) : Bool := (risB ks && allIn ks 0 ((d.2.2.length : Int) - 1)) && inB torn (-1) d.1
def diskLoss (d : TDisk) (ks : List Int) (torn : Int) : TDisk := if diskOk d = true ∧ lossOk d ks torn = true then (d.1, lossTo d.2.1 d.2.2 ks torn ks.length, []) else (0, [], [])
def diskLossC (d : TDisk) (ks : List Int) (torn : Int) : Int := if diskOk d = true then (if lossOk d ks torn = true then 0 else 2) else 1
theorem allIn_at {ks : List Int} {a b : Int} (h : allIn ks a b = true) (k : Nat) (hk : k < ks.length) : a ≤ ks[k] ∧ ks[k] ≤ b := by
  simp only [allIn, Bool.not_eq_true', List.any_eq_false] at h
  have := h ks[k] (List.getElem_mem hk)
  simp only [notIn, Bool.not_eq_true', Bool.not_eq_false] at this
  exact inB_t.1 (by simpa using this)
theorem lossP_at {ps : List TPut} {ks : List Int} {k j : Nat} (hk : k < ks.length) (hj : ks[k] = (j : Int)) (hl : j < ps.length) : lossP ps ks k = ps[j] := by
  unfold lossP
  rw [getD_at ks k hk, hj]
  simp [List.getD, hl]
theorem disk_wide {d : TDisk} (h : diskOk d = true) : (∀ s ∈ d.2.1, (s.size : Int) = d.1) ∧ (∀ p ∈ d.2.2, (p.2.size : Int) = d.1) := by
  simp only [diskOk, Bool.and_eq_true, Bool.not_eq_true', List.any_eq_false] at h
  refine ⟨fun s hs => by simpa [badSec] using h.1.2 s hs, fun p hp => ?_⟩
  have := h.2 p hp
  simp [badPut] at this
  exact this.2
theorem disk_num {d : TDisk} (h : diskOk d = true) : 1 ≤ d.1 ∧ d.1 ≤ 2000 := by
  simp only [diskOk, Bool.and_eq_true] at h
  exact inB_t.1 h.1.1.1.1
theorem cutB_size (a b : ByteArray) (t : Nat) (h : t ≤ a.size) (h2 : a.size = b.size) : (cutB a b t).size = a.size := by
  simp [cutB, ByteArray.size_append, ByteArray.size_extract]; omega
/-- All sectors stay as wide as they were. -/
theorem lossTo_wide {d : TDisk} {ks : List Int} {torn : Int} (h : diskOk d = true) (hk : allIn ks 0 ((d.2.2.length : Int) - 1) = true) (ht : torn ≤ d.1) : ∀ k, k ≤ ks.length → ∀ s ∈ lossTo d.2.1 d.2.2 ks torn k, (s.size : Int) = d.1
  | 0, _, s, hs => (disk_wide h).1 s hs
  | k + 1, hle, s, hs => by
    have ih := lossTo_wide h hk ht k (by omega)
    rw [lossTo] at hs
    rcases List.mem_or_eq_of_mem_set hs with hs | hs
    · exact ih s hs
    · obtain ⟨j0, j1⟩ := allIn_at hk k (by omega)
      obtain ⟨j, hj⟩ : ∃ j : Nat, ks[k] = (j : Int) := ⟨ks[k].toNat, by omega⟩
      have hjl : j < d.2.2.length := by omega
      have hp := lossP_at (ps := d.2.2) (by omega) hj hjl
      rw [hp] at hs
      have w2 := (disk_wide h).2 d.2.2[j] (List.getElem_mem hjl)
      obtain ⟨p0, p1⟩ := puts_in h d.2.2[j] (List.getElem_mem hjl)
      subst hs
      split
      · have hm : d.2.2[j].1.toNat < (lossTo d.2.1 d.2.2 ks torn k).length := by rw [lossTo_len]; omega
        have e : (lossTo d.2.1 d.2.2 ks torn k).getD d.2.2[j].1.toNat ⟨#[]⟩ = (lossTo d.2.1 d.2.2 ks torn k)[d.2.2[j].1.toNat] := by simp [List.getD, hm]
        have w1 := ih _ (List.getElem_mem hm)
        rw [e, cutB_size _ _ _ (by omega) (by omega)]
        exact w2
      · exact w2
theorem lossTo_step {l : List ByteArray} {ps : List TPut} {ks : List Int} {torn : Int} {k j m : Nat} (hk : k < ks.length) (hj : ks[k] = (j : Int)) (hl : j < ps.length) (hm : ps[j].1 = (m : Int)) (hml : m < (lossTo l ps ks torn k).length) (hn : ¬ (k + 1 = ks.length ∧ 0 ≤ torn)) :
    lossTo l ps ks torn (k + 1) = (lossTo l ps ks torn k).set m ps[j].2 := by
  rw [lossTo, lossP_at hk hj hl, if_neg hn, hm]; rfl
theorem lossTo_stepT {l : List ByteArray} {ps : List TPut} {ks : List Int} {k j m t : Nat} (hk : k < ks.length) (hj : ks[k] = (j : Int)) (hl : j < ps.length) (hm : ps[j].1 = (m : Int)) (hml : m < (lossTo l ps ks t k).length) (hn : k + 1 = ks.length) :
    lossTo l ps ks t (k + 1) = (lossTo l ps ks t k).set m (cutB ps[j].2 (lossTo l ps ks t k)[m] t) := by
  rw [lossTo, lossP_at hk hj hl, if_pos ⟨hn, by omega⟩, hm]
  simp [List.getD, hml]
theorem own_loss {W : World} {lo hi : Nat} {x : TDisk} {ks : List Int} {torn : Int} {k : Nat} {D1 : Option Addr} {d1 : Nat} {bl : List Nat} (b0 : I64 x.1) (h : SO shS W lo hi D1 d1 (lossTo x.2.1 x.2.2 ks torn k) bl) : shDisk.own W lo hi [.int .i64 x.1, .slice D1 x.2.1.length d1, .slice none 0 0] (x.1, lossTo x.2.1 x.2.2 ks torn k, []) bl := by
  have a := asmDisk (x0 := x.1) (x2 := []) b0 h (SO.nil _ _ _)
  rw [lossTo_len] at a
  simpa using a
theorem cells4_up {W W' : World} {a b c d : Addr} {p q r s : Value} (h : W.cell? a = some p ∧ W.cell? b = some q ∧ W.cell? c = some r ∧ W.cell? d = some s) (u : Up W W') : W'.cell? a = some p ∧ W'.cell? b = some q ∧ W'.cell? c = some r ∧ W'.cell? d = some s :=
  ⟨(u.cell (cell_lt h.1)).trans h.1, (u.cell (cell_lt h.2.1)).trans h.2.1, (u.cell (cell_lt h.2.2.1)).trans h.2.2.1, (u.cell (cell_lt h.2.2.2)).trans h.2.2.2⟩
theorem wpList_store1_cell {P : Program} {ops : Array Oper} {rest : List Oper} {dst : Option Tmp} {ty ty' : TypeId} {x y : Operand} {pos : String} {after : Array Edge} {a : Act} {w : World} {Q : Exit → Act → World → Prop} {g o : Nat} {u : Value} (v : Value) (hc : w.cell? ⟨g, o, none⟩ = some u) (hf : w.frozen? ⟨g, o, none⟩ = false)
    (hx : a.eval x = .pointer (some ⟨g, o, none⟩)) (hy : a.eval y = v) (hi : (P.info? ty).map (·.size) = some 1) (hv : v.cells = #[v]) (h1 : v.oneCell' = true)
    (h : ∀ W, W = w.setCell ⟨g, o, none⟩ v → wpList P ops Q rest (a.put dst undef) W) : wpList P ops Q ((⟨dst, .store ty x y, ty', pos, after, none⟩ : Oper) :: rest) a w := by
  have ht : w.there g o 1 := fun j hj => by
    obtain rfl : j = 0 := by omega
    exact ⟨by rw [Nat.add_zero, hc]; rfl, hf⟩
  refine wpList_plain rfl fun K hK => ?_
  unfold Oper.wp execOp
  simp only [hx, hy, Instr.storeAt, Instr.sureAddr, Sem.run_bind, Sem.run_pure, Result.andThen_ok, run_storeVar_one w g o ty v ht hi hv h1]
  exact hK _ _ (h _ rfl)
theorem c_countPut (xs : List TPut) (A : Option Addr) (c : Nat) (w : World) (h : xs.length ≤ 9223372036854775807) : Calls Try.prog 99 #[.slice A xs.length c] w fun e w' => e = .returned (.int .i64 xs.length) ∧ w = w' := by
  go_enter Try.func99, Try.ntmps99
  go_wp2
  go_ret
  exact ⟨rfl, rfl⟩
set_option maxRecDepth 100000 in
set_option maxHeartbeats 8000000 in
theorem ci_DiskLoss (v : Value) (x : TDisk) (Ak : Option Addr) (ck : Nat) (ks : List Int) (torn : Int) (w : World) (h : AV shDisk w v x) (hn : shDisk.sz x ≤ 1048576) (hks : SRW shI w Ak ck ks) (hkn : (shL shI).sz ks ≤ 1048576) (ht : I64 torn) : Calls Try.prog 39 #[v, .slice Ak ks.length ck, .int .i64 torn] w (ToR shDisk (diskLoss x ks torn) (diskLossC x ks torn) w) := by
  have hv := h
  obtain ⟨cs, rfl, h⟩ := h
  obtain ⟨A1, c1, A2, c2, rfl, b0, b1, b2⟩ := openDisk h
  clear h
  have hl2 := b2.len_le
  have hlk := hks.len_le
  obtain ⟨b0l, b0h⟩ := id b0
  obtain ⟨htL, htH⟩ := id ht
  have uu : Up w ((w.alloc (.cells #[.int .i64 x.1, .slice A1 x.2.1.length c1, .slice A2 x.2.2.length c2] 46)).alloc (.cells #[.int .i64 0, .slice none 0 0, .slice none 0 0] 46)) := ((Up.refl _).alloc _).alloc _
  have kA : Bk ((w.alloc (.cells #[.int .i64 x.1, .slice A1 x.2.1.length c1, .slice A2 x.2.2.length c2] 46)).alloc (.cells #[.int .i64 0, .slice none 0 0, .slice none 0 0] 46)) w.heap.size 46 #[.int .i64 x.1, .slice A1 x.2.1.length c1, .slice A2 x.2.2.length c2] := (Bk.new _ _ _).alloc _
  have kr : Bk ((w.alloc (.cells #[.int .i64 x.1, .slice A1 x.2.1.length c1, .slice A2 x.2.2.length c2] 46)).alloc (.cells #[.int .i64 0, .slice none 0 0, .slice none 0 0] 46)) (w.heap.size + 1) 46 #[.int .i64 0, .slice none 0 0, .slice none 0 0] := by simpa using Bk.new (w.alloc (.cells #[.int .i64 x.1, .slice A1 x.2.1.length c1, .slice A2 x.2.2.length c2] 46)) 46 #[.int .i64 0, .slice none 0 0, .slice none 0 0]
  have zz : w.heap.size + 1 + 1 ≤ ((w.alloc (.cells #[.int .i64 x.1, .slice A1 x.2.1.length c1, .slice A2 x.2.2.length c2] 46)).alloc (.cells #[.int .i64 0, .slice none 0 0, .slice none 0 0] 46)).heap.size := by simp
  go_enter Try.func39, Try.ntmps39
  go_wp2_with (refine wpList_load_bk [.int .i64 x.1, .slice A1 x.2.1.length c1, .slice A2 x.2.2.length c2] kA rfl Try.underlying46 rfl (by kernel_rfl) rfl ?_)
  refine (ci_DiskOk _ x _ (hv.up good_Disk uu) hn).mono ?_
  rintro e w1 ⟨rfl, u⟩
  replace zz := Nat.le_trans zz u.size
  replace uu := uu.trans u
  replace kA := kA.up u
  replace kr := kr.up u
  clear u
  cases hok : diskOk x
  · have hd : Hid (diskLoss x ks torn = (0, [], [])) := by unfold Hid; simp [diskLoss, lossOk, hok]
    have hc : Hid (diskLossC x ks torn = 1) := by unfold Hid; simp [diskLossC, lossOk, hok]
    go_wp2_with (first | ((with_reducible show wpList _ _ _ ((⟨none, .store _ _ _, _, _, _, none⟩ : Oper) :: _) _ _); refine wpList_store_bk [.int .i64 0, .slice none 0 0, .slice none 0 0] kr rfl rfl (by kernel_rfl) rfl (Nat.le_of_ble_eq_true rfl) ?_; intro Wr bt kr1; replace kr : Bk Wr (w.heap.size + 1) 46 #[.int .i64 0, .slice none 0 0, .slice none 0 0] := kr1; clear kr1; replace uu := uu.but bt (by omega); clear bt))
    refine bodyPost_ret (results_bk2 kr _ _ _ Try.results39 rfl rfl Try.underlying46 rfl (by kernel_rfl)) rfl ?_
    exact toR_of hd hc (zeroR _ _ _ uu)
  · go_wp2_with fail
    refine (c_rising ks Ak ck _ (hks.up good_I uu)).mono ?_
    rintro e w2 ⟨rfl, u⟩
    replace zz := Nat.le_trans zz u.size
    replace uu := uu.trans u
    replace kA := kA.up u
    replace kr := kr.up u
    clear u
    cases qr : risB ks
    · have hd : Hid (diskLoss x ks torn = (0, [], [])) := by unfold Hid; simp [diskLoss, lossOk, hok, qr]
      have hc : Hid (diskLossC x ks torn = 2) := by unfold Hid; simp [diskLossC, lossOk, hok, qr]
      go_wp2_with (first | (go_at_call 100; refine (within_any _ _ _ _).mono ?_; rintro e w' ⟨rfl, rfl⟩) | ((with_reducible show wpList _ _ _ ((⟨none, .store _ _ _, _, _, _, none⟩ : Oper) :: _) _ _); refine wpList_store_bk [.int .i64 0, .slice none 0 0, .slice none 0 0] kr rfl rfl (by kernel_rfl) rfl (Nat.le_of_ble_eq_true rfl) ?_; intro Wr bt kr1; replace kr : Bk Wr (w.heap.size + 1) 46 #[.int .i64 0, .slice none 0 0, .slice none 0 0] := kr1; clear kr1; replace uu := uu.but bt (by omega); clear bt))
      refine bodyPost_ret (results_bk2 kr _ _ _ Try.results39 rfl rfl Try.underlying46 rfl (by kernel_rfl)) rfl ?_
      exact toR_of hd hc (zeroR _ _ _ uu)
    · have ga2 : w2.cell? ⟨w.heap.size, 2, none⟩ = some (.slice A2 x.2.2.length c2) := kA.cell 2
      have hwl : IntKind.i64.wrap ((x.2.2.length : Int) - 1) = (x.2.2.length : Int) - 1 := IntWalk.i64_in _ (by omega)
      go_wp2_with (go_at_call 99; refine (c_countPut _ _ _ _ (by omega)).mono ?_; rintro e w' ⟨rfl, rfl⟩)
      refine (c_allWithin ks Ak ck _ _ _ (hks.up good_I uu)).mono ?_
      rintro e w3 ⟨rfl, u⟩
      clear ga2
      replace zz := Nat.le_trans zz u.size
      replace uu := uu.trans u
      replace kA := kA.up u
      replace kr := kr.up u
      clear u
      cases hall : allIn ks 0 ((x.2.2.length : Int) - 1)
      · have hd : Hid (diskLoss x ks torn = (0, [], [])) := by unfold Hid; simp [diskLoss, lossOk, hok, qr, hall]
        have hc : Hid (diskLossC x ks torn = 2) := by unfold Hid; simp [diskLossC, lossOk, hok, qr, hall]
        go_wp2_with (first | (go_at_call 100; refine (within_any _ _ _ _).mono ?_; rintro e w' ⟨rfl, rfl⟩) | ((with_reducible show wpList _ _ _ ((⟨none, .store _ _ _, _, _, _, none⟩ : Oper) :: _) _ _); refine wpList_store_bk [.int .i64 0, .slice none 0 0, .slice none 0 0] kr rfl rfl (by kernel_rfl) rfl (Nat.le_of_ble_eq_true rfl) ?_; intro Wr bt kr1; replace kr : Bk Wr (w.heap.size + 1) 46 #[.int .i64 0, .slice none 0 0, .slice none 0 0] := kr1; clear kr1; replace uu := uu.but bt (by omega); clear bt))
        refine bodyPost_ret (results_bk2 kr _ _ _ Try.results39 rfl rfl Try.underlying46 rfl (by kernel_rfl)) rfl ?_
        exact toR_of hd hc (zeroR _ _ _ uu)
      · have ga0 : w3.cell? ⟨w.heap.size, 0, none⟩ = some (.int .i64 x.1) := kA.cell 0
        cases hw : inB torn (-1) x.1
        · have hd : Hid (diskLoss x ks torn = (0, [], [])) := by unfold Hid; simp [diskLoss, lossOk, hok, qr, hall, hw]
          have hc : Hid (diskLossC x ks torn = 2) := by unfold Hid; simp [diskLossC, lossOk, hok, qr, hall, hw]
          go_wp2_with (first | (go_at_call 100; refine (within_any _ _ _ _).mono ?_; rintro e w' ⟨rfl, rfl⟩) | ((with_reducible show wpList _ _ _ ((⟨none, .store _ _ _, _, _, _, none⟩ : Oper) :: _) _ _); refine wpList_store_bk [.int .i64 0, .slice none 0 0, .slice none 0 0] kr rfl rfl (by kernel_rfl) rfl (Nat.le_of_ble_eq_true rfl) ?_; intro Wr bt kr1; replace kr : Bk Wr (w.heap.size + 1) 46 #[.int .i64 0, .slice none 0 0, .slice none 0 0] := kr1; clear kr1; replace uu := uu.but bt (by omega); clear bt))
          refine bodyPost_ret (results_bk2 kr _ _ _ Try.results39 rfl rfl Try.underlying46 rfl (by kernel_rfl)) rfl ?_
          exact toR_of hd hc (zeroR _ _ _ uu)
        · have htl : torn ≤ x.1 := (inB_t.1 hw).2
          have hd : Hid (diskLoss x ks torn = (x.1, lossTo x.2.1 x.2.2 ks torn ks.length, [])) := by unfold Hid; simp [diskLoss, lossOk, hok, qr, hall, hw]
          have hc : Hid (diskLossC x ks torn = 0) := by unfold Hid; simp [diskLossC, lossOk, hok, qr, hall, hw]
          go_wp2_with (first | (go_at_call 100; refine (within_any _ _ _ _).mono ?_; rintro e w' ⟨rfl, rfl⟩) | (refine wpList_load_bk [.int .i64 x.1, .slice A1 x.2.1.length c1, .slice A2 x.2.2.length c2] kA rfl Try.underlying46 rfl (by kernel_rfl) rfl ?_))
          refine (c_copyDisk _ x _ (hv.up good_Disk uu) hn).mono ?_
          rintro e w4 ⟨cs4, bl, rfl, o4, nd4, u⟩
          clear ga0
          obtain ⟨D1, d1, bl1, D2, d2, bl2, rfl, rfl, _, s1, s2⟩ := openODisk o4
          clear o4 s2
          have nd1 : bl1.Nodup := (List.nodup_append.1 nd4).1
          have hin := s1.in_ good_S
          have hBn : w4.heap.size ∉ bl1 := fun h => by have := (hin _ h).2; omega
          have hlo : w.heap.size + 1 < w3.heap.size := by omega
          replace zz := Nat.le_trans zz u.size
          replace uu := uu.trans u
          replace kA := kA.up u
          replace kr := kr.up u
          clear u
          have kN := Bk.new w4 46 #[.int .i64 x.1, .slice D1 x.2.1.length d1, .slice D2 x.2.2.length d2]
          have uN : Up w4 (w4.alloc (.cells #[.int .i64 x.1, .slice D1 x.2.1.length d1, .slice D2 x.2.2.length d2] 46)) := (Up.refl w4).alloc _
          go_wp2_with ((with_reducible show wpList _ _ _ ((⟨none, .store _ _ _, _, _, _, none⟩ : Oper) :: _) _ _); refine wpList_store1_bk (.slice none 0 0) kN rfl rfl (by kernel_rfl) rfl rfl (Nat.le_of_ble_eq_true rfl) ?_; intro W5 bt kB1; have kB : Bk W5 w4.heap.size 46 #[.int .i64 x.1, .slice D1 x.2.1.length d1, .slice none 0 0] := kB1; clear kB1 kN; replace uN := uN.but bt (Nat.le_refl _); clear bt; replace uu := uu.trans uN; replace kA := kA.up uN; have kR := kr.up uN; clear kr; have oS := s1.up good_S uN; clear s1)
          go_wp2_with fail
          go_loopw [43] (fun i wr => ∃ (k : Nat), k ≤ ks.length ∧ i = .int .i64 k ∧ Bk wr w.heap.size 46 #[.int .i64 x.1, .slice A1 x.2.1.length c1, .slice A2 x.2.2.length c2] ∧ Bk wr (w.heap.size + 1) 46 #[.int .i64 0, .slice none 0 0, .slice none 0 0] ∧ Bk wr w4.heap.size 46 #[.int .i64 x.1, .slice D1 x.2.1.length d1, .slice none 0 0] ∧ SO shS wr w3.heap.size wr.heap.size D1 d1 (lossTo x.2.1 x.2.2 ks torn k) bl1 ∧ Up w wr) (fun i _ => ks.length - (intOf i).toNat)
          case atStart => exact ⟨0, Nat.zero_le _, rfl, kA, kR, kB, oS, uu⟩
          case round =>
            clear uu oS kA kR kB
            obtain ⟨k, hk, rfl, kA, kr, kB, hs1, hu⟩ := hrel
            have hin1 := hs1.in_ good_S
            by_cases hlt : k < ks.length
            · obtain ⟨gk, offk, rfl, _, hgk, hck, _, _⟩ := (hks.up good_I hu).at_I hlt
              obtain ⟨j0, j1⟩ := allIn_at hall k hlt
              obtain ⟨j, hj⟩ : ∃ j : Nat, ks[k] = (j : Int) := ⟨ks[k].toNat, by omega⟩
              have hjl : j < x.2.2.length := by omega
              obtain ⟨g2, off2, rfl, _, hg2, hc0, hc1, q0, q1, _⟩ := atPut (b2.up good_Put hu) hjl
              obtain ⟨p0, p1⟩ := puts_in hok x.2.2[j] (List.getElem_mem hjl)
              obtain ⟨m, hm⟩ : ∃ m : Nat, x.2.2[j].1 = (m : Int) := ⟨x.2.2[j].1.toNat, by omega⟩
              have hmx : m < x.2.1.length := by omega
              have hmk : m < (lossTo x.2.1 x.2.2 ks torn k).length := by rw [lossTo_len]; exact hmx
              obtain ⟨s1, HS1⟩ : ∃ s, Hid (x.2.2[j].2 = s) := ⟨_, Lib.hid rfl⟩
              rw [HS1.out] at hc1 q1
              rw [hj] at hck
              rw [hm] at hc0
              have hj0 : (0 : Int) ≤ (j : Int) := by omega
              have hj1 : (j : Int) < (x.2.2.length : Int) := by omega
              have hm0 : (0 : Int) ≤ (m : Int) := by omega
              have hm1 : (m : Int) < (x.2.1.length : Int) := by omega
              have ca2 : wr.cell? ⟨w.heap.size, 2, none⟩ = some (.slice (some ⟨g2, off2, none⟩) x.2.2.length c2) := kA.cell 2
              have hwk : IntKind.i64.wrap ((ks.length : Int) - 1) = (ks.length : Int) - 1 := IntWalk.i64_in _ (by omega)
              obtain ⟨g, off, o, rfl, hgb, hg1, _, hg3, hgc, hgf, hset0⟩ := hs1.setS nd1 hmk
              have hBg : w4.heap.size ≠ g := fun e => hBn (e ▸ hgb)
              obtain ⟨g', off', hgo, _, _, hcs, _⟩ := (hs1.rep good_S).at_S hmk
              injection hgo with hgo
              injection hgo with hg' ho' _
              subst hg' ho'
              have kP := Bk.new wr 142 #[.int .i64 (m : Int), .string s1]
              have uP : Up wr (wr.alloc (.cells #[.int .i64 (m : Int), .string s1] 142)) := (Up.refl wr).alloc _
              by_cases hq : k + 1 = ks.length ∧ 0 ≤ torn
              · clear hset0
                obtain ⟨t, rfl⟩ : ∃ t : Nat, torn = (t : Int) := ⟨torn.toNat, by omega⟩
                have hw1 : (x.2.2[j].2.size : Int) = x.1 := (disk_wide hok).2 _ (List.getElem_mem hjl)
                rw [HS1.out] at hw1
                obtain ⟨s2, HS2⟩ : ∃ s, Hid ((lossTo x.2.1 x.2.2 ks t k)[m] = s) := ⟨_, Lib.hid rfl⟩
                rw [HS2.out] at hcs
                have hw2 : ((lossTo x.2.1 x.2.2 ks t k)[m].size : Int) = x.1 := lossTo_wide hok hall htl k hk _ (List.getElem_mem hmk)
                rw [HS2.out] at hw2
                have hx := lossTo_stepT hlt hj hjl hm hmk hq.1
                rw [HS1.out, HS2.out] at hx
                have HX := Lib.hid hx
                clear hx
                have ht0 : (0 : Int) ≤ (t : Int) := by omega
                have ht1 : (t : Int) ≤ (s1.size : Int) := by omega
                have ht2 : (t : Int) ≤ (s2.size : Int) := by omega
                have HQ := Lib.hid hq.1
                have hq3 : (ks.length : Int) - 1 = (k : Int) := by have := hq.1; omega
                have hwk2 : IntKind.i64.wrap (k : Int) = (k : Int) := IntWalk.i64_in _ (by omega)
                clear hq
                have eb1 : World.cell? (wr.alloc (.cells #[.int .i64 (m : Int), .string s1] 142)) ⟨w4.heap.size, 1, none⟩ = some (.slice (some ⟨g, off, none⟩) x.2.1.length d1) := (kB.up uP).cell 1
                have eb2 : World.cell? (wr.alloc (.cells #[.int .i64 (m : Int), .string s1] 142)) ⟨g, off + m, none⟩ = some (.string s2) := (uP.cell (p := ⟨g, off + m, none⟩) hg3).trans hcs
                go_wp2_with fail
                generalize wr.alloc (.cells #[.int .i64 (m : Int), .string s1] 142) = WP at kP uP eb1 eb2 ⊢
                have ep0 : WP.cell? ⟨wr.heap.size, 0, none⟩ = some (.int .i64 (m : Int)) := kP.cell 0
                have ep1 : WP.cell? ⟨wr.heap.size, 1, none⟩ = some (.string s1) := kP.cell 1
                go_still_tail 12, (by kernel_rfl)
                change wpList _ _ _ _ _ WP.drew
                replace kP := kP.drew
                replace uP := uP.drew
                go_wp2_with (first | ((with_reducible show wpList _ _ _ ((⟨none, .store _ _ _, _, _, _, none⟩ : Oper) :: _) _ _); refine wpList_store1_bk (.string (cutB s1 s2 t)) kP rfl rfl (by kernel_rfl) rfl rfl (Nat.le_of_ble_eq_true rfl) ?_; intro W1 bt kP1; replace kP : Bk W1 wr.heap.size 142 #[.int .i64 (m : Int), .string (cutB s1 s2 t)] := kP1; clear kP1 eb1 eb2 ep0 ep1; replace uP := uP.but bt (Nat.le_refl _); clear bt; replace kA := kA.up uP; replace kr := kr.up uP; replace kB := kB.up uP; replace hs1 := hs1.up good_S uP; replace hu := hu.trans uP; obtain ⟨g', off', o2, hgo, _, _, _, _, hgc2, hgf2, hset⟩ := hs1.setS nd1 hmk; injection hgo with hgo; injection hgo with hg' ho' _; subst hg' ho'; have cb1 : World.cell? _ ⟨w4.heap.size, 1, none⟩ = some (.slice (some ⟨g, off, none⟩) x.2.1.length d1) := kB.cell 1; have cp0 : World.cell? _ ⟨wr.heap.size, 0, none⟩ = some (.int .i64 (m : Int)) := kP.cell 0; have cp1 : World.cell? _ ⟨wr.heap.size, 1, none⟩ = some (.string (cutB s1 s2 t)) := kP.cell 1))
                go_roundw
                case rel =>
                  have hb := But.set W1 g (off + m) (.string (cutB s1 s2 t))
                  have hso := hset ((cutB s1 s2 t)) (by have := cutB_size s1 s2 t (by omega) (by omega); rw [this]; exact q1)
                  rw [← HX.out, ← hb.size] at hso
                  exact ⟨k + 1, by omega, by go_num, kA.butM hb (by omega), kr.butM hb (by omega), kB.butM hb hBg, hso, hu.but hb (by omega)⟩
                case measure => simp [intOf]; omega
              · have hx := lossTo_step hlt hj hjl hm hmk hq
                rw [HS1.out] at hx
                have HX := Lib.hid hx
                clear hx
                have cb1 : (wr.alloc (.cells #[.int .i64 (m : Int), .string s1] 142)).cell? ⟨w4.heap.size, 1, none⟩ = some (.slice (some ⟨g, off, none⟩) x.2.1.length d1) := (kB.up uP).cell 1
                have cp0 : (wr.alloc (.cells #[.int .i64 (m : Int), .string s1] 142)).cell? ⟨wr.heap.size, 0, none⟩ = some (.int .i64 (m : Int)) := kP.cell 0
                have cp1 : (wr.alloc (.cells #[.int .i64 (m : Int), .string s1] 142)).cell? ⟨wr.heap.size, 1, none⟩ = some (.string s1) := kP.cell 1
                have gc : (wr.alloc (.cells #[.int .i64 (m : Int), .string s1] 142)).cell? ⟨g, off + m, none⟩ = some o := (uP.cell (p := ⟨g, off + m, none⟩) hg3).trans hgc
                have gf : (wr.alloc (.cells #[.int .i64 (m : Int), .string s1] 142)).frozen? ⟨g, off + m, none⟩ = false := by rw [World.frozen?_of_block (w := wr) (Below.heap_alloc wr _ g hg3)]; exact hgf
                have hso := hset0 s1 q1
                clear hset0
                rw [← HX.out] at hso
                have HSO := Lib.hid hso
                clear hso
                by_cases hq1 : k + 1 = ks.length
                · have hq3 : (ks.length : Int) - 1 = (k : Int) := by omega
                  have hwk2 : IntKind.i64.wrap (k : Int) = (k : Int) := IntWalk.i64_in _ (by omega)
                  have hq4 : ¬ (0 : Int) ≤ torn := fun h => hq ⟨hq1, h⟩
                  have HQ := Lib.hid hq1
                  clear hq1 hq
                  go_wp2_with fail
                  go_roundw
                  case rel =>
                    have hb := But.set wr g (off + m) (.string s1)
                    have hso := HSO.out
                    rw [← hb.size] at hso
                    have uE : Up (wr.setCell ⟨g, off + m, none⟩ (.string s1)) ((wr.setCell ⟨g, off + m, none⟩ (.string s1)).alloc (.cells #[.int .i64 (m : Int), .string s1] 142)) := (Up.refl _).alloc _
                    exact ⟨k + 1, by omega, by go_num, (kA.butM hb (by omega)).up uE, (kr.butM hb (by omega)).up uE, (kB.butM hb hBg).up uE, hso.up good_S uE, (hu.but hb (by omega)).trans uE⟩
                  case measure => simp [intOf]; omega
                · have hq3 : ¬ (k : Int) = (ks.length : Int) - 1 := by omega
                  clear hq1 hq
                  go_wp2_with fail
                  go_roundw
                  case rel =>
                    have hb := But.set wr g (off + m) (.string s1)
                    have hso := HSO.out
                    rw [← hb.size] at hso
                    have uE : Up (wr.setCell ⟨g, off + m, none⟩ (.string s1)) ((wr.setCell ⟨g, off + m, none⟩ (.string s1)).alloc (.cells #[.int .i64 (m : Int), .string s1] 142)) := (Up.refl _).alloc _
                    exact ⟨k + 1, by omega, by go_num, (kA.butM hb (by omega)).up uE, (kr.butM hb (by omega)).up uE, (kB.butM hb hBg).up uE, hso.up good_S uE, (hu.but hb (by omega)).trans uE⟩
                  case measure => simp [intOf]; omega
            · obtain rfl : k = ks.length := by omega
              go_wp2_with (first | (refine wpList_load_bk [.int .i64 x.1, .slice D1 x.2.1.length d1, .slice none 0 0] kB rfl Try.underlying46 rfl (by kernel_rfl) rfl ?_) | ((with_reducible show wpList _ _ _ ((⟨none, .store _ _ _, _, _, _, none⟩ : Oper) :: _) _ _); refine wpList_store_bk [.int .i64 x.1, .slice D1 x.2.1.length d1, .slice none 0 0] kr rfl rfl (by kernel_rfl) rfl (Nat.le_of_ble_eq_true rfl) ?_; intro Wr bt kr1; replace kr : Bk Wr (w.heap.size + 1) 46 #[.int .i64 x.1, .slice D1 x.2.1.length d1, .slice none 0 0] := kr1; clear kr1; replace hs1 := hs1.but good_S bt (by omega); replace hu := hu.but bt (by omega); clear bt))
              refine bodyPost_ret (results_bk2 kr _ _ _ Try.results39 rfl rfl Try.underlying46 rfl (by kernel_rfl)) rfl ?_
              rw [hd.out, hc.out]
              exact ⟨[.int .i64 x.1, .slice D1 x.2.1.length d1, .slice none 0 0], _, rfl, own_loss b0 (hs1.wide good_S (lo' := w.heap.size) (by omega) (Nat.le_refl _)), nd1, hu⟩
end Go.Proofs.Ytidfeipilleafaa
