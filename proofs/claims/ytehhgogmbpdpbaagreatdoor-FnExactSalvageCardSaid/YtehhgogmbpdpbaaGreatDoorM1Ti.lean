/-
  Salvage: the program's.
-/
import Derived.Test.YtehhgogmbpdpbaaGreatDoorM1Tj
import Derived.Test.YtehhgogmbpdpbaaGreatDoorM1Sm
import Derived.Test.YtehhgogmbpdpbaaGreatDoorM1Ts
namespace Go.Proofs.YtehhgogmbpdpbaaGreatDoor
open Go.RowKit
set_option linter.unusedVariables false
set_option linter.unusedSimpArgs false

theorem zero_boolT (w : World) : (zeroValue 4).run Tryz.prog w = .ok (.bool false) w := by kernel_rfl
/-- What a page adds: the records up to the k-th, each key once. -/
theorem salv_page2 {x : List TSlot} {i : Nat} (hi : i < x.length) (h64 : x.length ≤ 64) : ∃ F : Nat → List TRecord, F 0 = firsts [] (rawTo x i) ∧ (x[i].2.1 = true ∧ pageB x[i].2 = true → (∀ k, F (k + 1) = addRec (F k) (recAt x[i].2 k)) ∧ F x[i].2.2.1.length = firsts [] (rawTo x (i + 1))) ∧ (¬ (x[i].2.1 = true ∧ pageB x[i].2 = true) → firsts [] (rawTo x i) = firsts [] (rawTo x (i + 1))) ∧ ∀ k, k ≤ x[i].2.2.1.length → (F k).length ≤ 384 := by
  refine ⟨fun k => firsts [] (rawAt x i k), ?_, fun h => ⟨fun k => ?_, ?_⟩, fun h => ?_, fun k hk => ?_⟩
  · dsimp only; rw [rawAt_zero]
  · dsimp only; rw [rawAt_succ hi h, firsts_snoc]
  · dsimp only; rw [rawAt_all hi]
  · rw [← rawAt_zero, rawAt_no hi h]
  · dsimp only
    have h1 := firsts_len (rawAt x i k) []
    have h2 := rawAt_len hi hk
    simp only [List.length_nil] at h1
    omega
theorem addRec_old {l : List TRecord} {r : TRecord} (h : (l.map (·.1)).contains r.1 = true) : addRec l r = l := if_pos h
theorem addRec_new {l : List TRecord} {r : TRecord} (h : (l.map (·.1)).contains r.1 = false) : addRec l r = l ++ [r] := if_neg (by rw [h]; decide)
theorem firsts_sorted {r : Int} {x : List TSlot} (h64 : x.length ≤ 64) {d : List TRecord} (hp : d.Perm (firsts [] (rawTo x x.length))) (hs : d.Pairwise (fun a b => bytesLt b.1 a.1 = false)) : salvB (r, x) = d ∧ salvC (r, x) = 0 := by
  obtain ⟨h1, h2⟩ := salv_small (r := r) h64
  exact ⟨h1.trans (sort_firsts hp hs).symm, h2⟩
theorem cinfo_RecT : (Tryz.prog.info? 91).map (fun i => (i.zero, i.size, i.bytes)) = some (some (.agg #[.string ⟨#[]⟩, .string ⟨#[]⟩]), 2, 32) := by kernel_rfl
abbrev SeenR (w : World) (b : Nat) (l : List ByteArray) : Prop := SSet Tryz.prog 9 4 w b l
theorem SSet.onlyS {w w' : World} {b : Nat} {l : List ByteArray} {bl : List Nat} (h : SeenR w b l) (k : Only bl w w') (hb : b ∉ bl) : SeenR w' b l := h.same (k.block b h.lt hb)
set_option maxRecDepth 100000 in
set_option maxHeartbeats 16000000 in
theorem ci_Salvage (v : Value) (y : TBtree) (w : World) (h : AV shBtree w v y) (hn : shBtree.sz y ≤ 1048576) (htab : Tab w) (hm : MaxL w) : Calls Tryz.prog 22 #[v] w (ToLR shRecord (salvB y) (salvC y) w) := by
  obtain ⟨i0, hi0, hz0, hz1, hz2⟩ := info_parts cinfo_RecT
  obtain ⟨cs, rfl, h⟩ := h
  obtain ⟨r, x⟩ := y
  have ho := openBtree h
  dsimp only at ho
  obtain ⟨A0, c0, rfl, br, b00⟩ := ho
  clear h
  have hlen := b00.len_le
  have hnx : (shL shSlot).sz x ≤ 1048576 := by
    have e : shBtree.sz (r, x) = 0 + (shL shSlot).sz x := rfl
    omega
  have HSZ := Lib.hid (fun (i : Nat) (hi : i < x.length) => sz_le shSlot x hi hnx)
  clear hn hnx
  have kT0 := Bk.new w 53 #[.int .i64 r, .slice A0 x.length c0]
  have uu0 : Up w (w.alloc (.cells #[.int .i64 r, .slice A0 x.length c0] 53)) := (Up.refl w).alloc _
  have gT : (w.alloc (.cells #[.int .i64 r, .slice A0 x.length c0] 53)).cell? ⟨w.heap.size, 1, none⟩ = some (.slice A0 x.length c0) := kT0.cell 1
  by_cases h64 : x.length ≤ 64
  · have HV := Lib.hid (fun (d : List TRecord) (hp : d.Perm (firsts [] (rawTo x x.length))) (hs : d.Pairwise (fun a b => bytesLt b.1 a.1 = false)) => firsts_sorted (r := r) h64 hp hs)
    have HPG := Lib.hid (fun (i : Nat) (hi : i < x.length) => salv_page2 hi h64)
    have HFL := Lib.hid (show (firsts [] (rawTo x x.length)).length ≤ 384 by
      have h1 := firsts_len (rawTo x x.length) []
      have h2 := rawTo_len x (Nat.le_refl x.length)
      simp only [List.length_nil] at h1
      omega)
    have hmm := @run_makeMap Tryz.prog
    go_enter Tryz.func22, Tryz.ntmps22
    go_wp2_with fail
    clear hmm
    have kT1 := (kT0.alloc (.cells #[] 91)).alloc (.map #[] 0)
    have uu1 : Up w (((w.alloc (.cells #[.int .i64 r, .slice A0 x.length c0] 53)).alloc (.cells #[] 91)).alloc (.map #[] 0)) := (uu0.alloc _).alloc _
    have ks1 : SeenR (((w.alloc (.cells #[.int .i64 r, .slice A0 x.length c0] 53)).alloc (.cells #[] 91)).alloc (.map #[] 0)) (w.heap.size + 2) [] := by
      have := SSet.made (P := Tryz.prog) (k := 9) (e := 4) ((w.alloc (.cells #[.int .i64 r, .slice A0 x.length c0] 53)).alloc (.cells #[] 91))
      simpa using this
    have zz : (((w.alloc (.cells #[.int .i64 r, .slice A0 x.length c0] 53)).alloc (.cells #[] 91)).alloc (.map #[] 0)).heap.size = w.heap.size + 3 := by simp
    generalize (((w.alloc (.cells #[.int .i64 r, .slice A0 x.length c0] 53)).alloc (.cells #[] 91)).alloc (.map #[] 0)) = W1 at kT1 uu1 ks1 zz ⊢
    clear gT kT0 uu0
    go_loopw [4, 19] (fun o iv wr => ∃ (i : Nat) (L : List TRecord) (g off c : Nat) (bl : List Nat), i ≤ x.length ∧ iv = .int .i64 i ∧ o = .slice (some ⟨g, off, none⟩) L.length c ∧ Hid (L = firsts [] (rawTo x i)) ∧ SO shRecord wr (w.heap.size + 3) wr.heap.size (some ⟨g, off, none⟩) c L bl ∧ bl.Nodup ∧ SeenR wr (w.heap.size + 2) (L.map (·.1)) ∧ Bk wr w.heap.size 53 #[.int .i64 r, .slice A0 x.length c0] ∧ Up w wr ∧ w.heap.size ≤ g ∧ g < wr.heap.size) (fun _ iv _ => x.length - (intOf iv).toNat)
    case atStart => exact ⟨0, [], _, _, 0, [], Nat.zero_le _, rfl, rfl, Lib.hid (by simp [rawTo, firsts]), ⟨Nat.le_refl _, Nat.zero_le _, .inl ⟨rfl, rfl, rfl⟩⟩, List.nodup_nil, ks1, kT1, uu1, by simp, by rw [zz]; simp⟩
    case round =>
      clear zz kT1 ks1 uu1
      obtain ⟨i, L, g, off, c, bl, hi, rfl, rfl, HL, so, nd, ks, kT, hu, hgw, hgr⟩ := hrel
      by_cases hlt : i < x.length
      · obtain ⟨F, hF0, hFok, hFno, hFl⟩ := HPG.out i hlt
        obtain ⟨g0, off0, A2, c2, A3, c3, A4, c4, rfl, _, hgl, hc0, hc1, hc2, hc3, hc4, b0, b2, b3, b4, _⟩ := atSlot b00 hlt
        have hsz := HSZ.out i hlt
        obtain ⟨⟨sid, p⟩, hq⟩ : ∃ q, q = x[i] := ⟨_, rfl⟩
        rw [← hq] at hFok hFno hFl hc0 hc1 hc2 hc3 hc4 b0 b2 b3 b4 hsz
        clear hq
        dsimp only at hFok hFno hFl hc0 hc1 hc2 hc3 hc4 b0 b2 b3 b4 hsz
        have hsz2 := page_sz (slot_sz (x := (sid, p)) hsz)
        replace hc0 := (hu.cell (cell_lt hc0)).trans hc0
        replace hc1 := (hu.cell (cell_lt hc1)).trans hc1
        replace hc2 := (hu.cell (cell_lt hc2)).trans hc2
        replace hc3 := (hu.cell (cell_lt hc3)).trans hc3
        replace hc4 := (hu.cell (cell_lt hc4)).trans hc4
        have kS := Bk.new wr 87 #[.int .i64 sid, .bool p.1, .slice A2 p.2.1.length c2, .slice A3 p.2.2.1.length c3, .slice A4 p.2.2.2.length c4]
        have uA : Up wr (wr.alloc (.cells #[.int .i64 sid, .bool p.1, .slice A2 p.2.1.length c2, .slice A3 p.2.2.1.length c3, .slice A4 p.2.2.2.length c4] 87)) := (Up.refl wr).alloc _
        have cp := fun W (hW : Up wr W) => c_PageOk (.agg #[.bool p.1, .slice A2 p.2.1.length c2, .slice A3 p.2.2.1.length c3, .slice A4 p.2.2.2.length c4]) p W ⟨_, rfl, mkPage (b2.up good_S (hu.trans hW)) (b3.up good_S (hu.trans hW)) (b4.up good_I (hu.trans hW))⟩ hsz2 (tab_up htab (hu.trans hW)) (maxL_up hm (hu.trans hW))
        have gT : wr.cell? ⟨w.heap.size, 1, none⟩ = some (.slice (some ⟨g0, off0, none⟩) x.length c0) := kT.cell 1
        have hwr := hu.size
        clear hsz b0
        cases hl : p.1
        · have HN := Lib.hid (HL.out.trans (hFno (by rw [hl]; simp)))
          rw [hl] at hc1 uA
          clear hFok hFno hl hF0 hFl cp HL kS
          go_wp2_with fail
          go_roundw
          case rel => exact ⟨i + 1, L, g, off, c, bl, by omega, by go_num, rfl, Lib.hid HN.out, so.up good_Record uA, nd, ks.up uA, kT.up uA, hu.trans uA, hgw, Nat.lt_of_lt_of_le hgr uA.size⟩
          case measure => simp [intOf]; omega
        · rw [hl] at hc1 uA kS cp
          cases hpg : pageB p
          · have HN := Lib.hid (HL.out.trans (hFno (by rw [hpg]; simp)))
            rw [hpg] at cp
            have CP := Lib.hid (cp _ uA)
            clear hFok hFno hl hF0 hFl cp HL kS hpg
            go_wp2_with (go_at_call 50; (with_reducible refine CP.out.mono ?_); rintro e w2 ⟨rfl, u2⟩)
            have u2r := uA.trans u2
            go_roundw
            case rel => exact ⟨i + 1, L, g, off, c, bl, by omega, by go_num, rfl, Lib.hid HN.out, so.up good_Record u2r, nd, ks.up u2r, kT.up u2r, hu.trans u2r, hgw, Nat.lt_of_lt_of_le hgr u2r.size⟩
            case measure => simp [intOf]; omega
          · obtain ⟨hS, hA⟩ := hFok ⟨hl, hpg⟩
            have HLK := Lib.hid (leaf_kids hpg hl)
            rw [hpg] at cp
            have CP := Lib.hid (cp _ uA)
            have HA := Lib.hid hA
            have HS := Lib.hid hS
            have HFK := Lib.hid hFl
            have HL0 := Lib.hid (HL.out.trans hF0.symm)
            clear hFok hFno hl cp hpg hS hA HL hF0 hFl
            go_wp2_with (go_at_call 50; (with_reducible refine CP.out.mono ?_); rintro e w2 ⟨rfl, u2⟩; have gS2 : w2.cell? ⟨wr.heap.size, 2, none⟩ = some (.slice A2 p.2.1.length c2) := (kS.up u2).cell 2)
            have u2r := uA.trans u2
            have so2 := so.up good_Record u2r
            have ks2 := ks.up u2r
            have kT2 := kT.up u2r
            have kS2 := kS.up u2
            have hu2 := hu.trans u2r
            have hg2 := Nat.lt_of_lt_of_le hgr u2r.size
            have hnb : wr.heap.size ∉ bl := fun hh => by have := (so.in_ good_Record _ hh).2; omega
            obtain ⟨n, hn⟩ : ∃ n, n = wr.heap.size := ⟨_, rfl⟩
            rw [← hn] at kS2 hnb hwr ⊢
            clear gS2 CP kS so ks kT u2r uA u2 hc0 hc1 hc2 hc3 hc4 hgr hn hu gT
            go_loopw [4, 37] (fun o kv wk => ∃ (k g off c : Nat) (bl : List Nat), k ≤ p.2.1.length ∧ kv = .int .i64 k ∧ o = .slice (some ⟨g, off, none⟩) (F k).length c ∧ SO shRecord wk (w.heap.size + 3) wk.heap.size (some ⟨g, off, none⟩) c (F k) bl ∧ bl.Nodup ∧ SeenR wk (w.heap.size + 2) ((F k).map (·.1)) ∧ Bk wk w.heap.size 53 #[.int .i64 r, .slice (some ⟨g0, off0, none⟩) x.length c0] ∧ Bk wk n 87 #[.int .i64 sid, .bool true, .slice A2 p.2.1.length c2, .slice A3 p.2.2.1.length c3, .slice A4 p.2.2.2.length c4] ∧ n ∉ bl ∧ Up w wk ∧ w.heap.size ≤ g ∧ g < wk.heap.size) (fun _ kv _ => p.2.1.length - (intOf kv).toNat)
            case atStart => exact ⟨0, g, off, c, bl, Nat.zero_le _, rfl, by rw [HL0.out], by rw [← HL0.out]; exact so2, nd, by rw [← HL0.out]; exact ks2, kT2, kS2, hnb, hu2, hgw, hg2⟩
            case round =>
              clear so2 nd ks2 kT2 kS2 hnb hu2 hgw hg2 HL0
              rename_i wr0
              obtain ⟨k, g, off, c, bl, hk, rfl, rfl, so, nd, ks, kT, kS, hnb, hu, hgw, hgr⟩ := hrel
              by_cases hkl : k < p.2.1.length
              · have hi1 : (k : Int) < (p.2.1.length : Int) := by omega
                have hl6 := HLK.out.2.2
                have hkv : k < p.2.2.1.length := by have := HLK.out; omega
                have hkvi : (k : Int) < (p.2.2.1.length : Int) := by omega
                obtain ⟨ga, oa, hAa, _, hga, hck, hsk⟩ := (b2.up good_S hu).at_S hkl
                obtain ⟨gc, oc, hAc, _, hgc, hcv, hsv⟩ := b3.at_S hkv
                have hkmax : p.2.1[k].size ≤ maxLen := by unfold maxLen; omega
                have hvmax : p.2.2.1[k].size ≤ maxLen := by unfold maxLen; omega
                have hre : recAt p k = (p.2.1[k], p.2.2.1[k]) := by
                  unfold recAt
                  rw [List.getD_eq_getElem?_getD, List.getElem?_eq_getElem hkl, List.getD_eq_getElem?_getD, List.getElem?_eq_getElem hkv]
                  rfl
                have HN := Lib.hid ((HS.out k).trans (by rw [hre]))
                clear hre
                subst hAa hAc
                have hl2 := ks.look (t := 93) Tryz.underlying9 Tryz.underlying93 Tryz.underlying4 (zero_boolT _) (i := p.2.1[k]) hkmax
                cases hc : ((F k).map (·.1)).contains p.2.1[k]
                · rw [hc] at hl2
                  have HN2 := Lib.hid (HN.out.trans (addRec_new (r := (p.2.1[k], p.2.2.1[k])) hc))
                  have hFn := HFK.out k hk
                  obtain ⟨W3, hrun, ks3, bt⟩ := ks.add (t := 93) Tryz.underlying9 Tryz.underlying93 Tryz.underlying4 (by rw [List.length_map]; unfold maxLen; omega) (i := p.2.1[k]) hkmax hc
                  have hne := ks.ne kS
                  have kS3 := kS.butM bt hne
                  have kT3 := kT.butM bt (by omega)
                  have hu3 := hu.but bt (by omega : w.heap.size ≤ w.heap.size + 2)
                  have so3 := so.but good_Record bt (by omega)
                  have z3 : wr.heap.size ≤ W3.heap.size := Nat.le_of_eq bt.size.symm
                  have gS3 : W3.cell? ⟨n, 3, none⟩ = some (.slice (some ⟨gc, oc, none⟩) p.2.2.1.length c3) := kS3.cell 3
                  have hcv3 := (hu3.cell (cell_lt hcv)).trans hcv
                  have hin := so.in_ good_Record
                  have SO3 := Lib.hid (so3.up good_Record ((Up.refl W3).alloc (.cells #[.string p.2.1[k], .string p.2.2.1[k]] 91)))
                  have hx1 : ((F k).length + 1) * i0.bytes ≤ 140737488355328 := by rw [hz2]; omega
                  have hx2 : (F k).length + 1 ≤ maxLen := by unfold maxLen; omega
                  have hlo : w.heap.size + 3 ≤ (W3.alloc (.cells #[.string p.2.1[k], .string p.2.2.1[k]] 91)).heap.size := by have := ks.lt; simp; omega
                  have nd' : (bl ++ [([] : List Nat)].flatten).Nodup := by simpa using nd
                  have ho : shRecord.own (W3.alloc (.cells #[.string p.2.1[k], .string p.2.2.1[k]] 91)) (w.heap.size + 3) (W3.alloc (.cells #[.string p.2.1[k], .string p.2.2.1[k]] 91)).heap.size [.string p.2.1[k], .string p.2.2.1[k]] (p.2.1[k], p.2.2.1[k]) [] := mkORecord (x := (p.2.1[k], p.2.2.1[k])) hkmax hvmax
                  have kb3 := Bk.new W3 91 #[.string p.2.1[k], .string p.2.2.1[k]]
                  have ksA := ks3.up ((Up.refl W3).alloc (.cells #[.string p.2.1[k], .string p.2.2.1[k]] 91))
                  have kSA := kS3.alloc (.cells #[.string p.2.1[k], .string p.2.2.1[k]] 91)
                  have kTA := kT3.alloc (.cells #[.string p.2.1[k], .string p.2.2.1[k]] 91)
                  have huA := hu3.alloc (.cells #[.string p.2.1[k], .string p.2.2.1[k]] 91)
                  have HKS := Lib.hid (⟨ksA, kSA, kTA⟩ : SeenR (W3.alloc (.cells #[.string p.2.1[k], .string p.2.2.1[k]] 91)) (w.heap.size + 2) ((F k).map (·.1) ++ [p.2.1[k]]) ∧ Bk (W3.alloc (.cells #[.string p.2.1[k], .string p.2.2.1[k]] 91)) n 87 #[.int .i64 sid, .bool true, .slice (some ⟨ga, oa, none⟩) p.2.1.length c2, .slice (some ⟨gc, oc, none⟩) p.2.2.1.length c3, .slice A4 p.2.2.2.length c4] ∧ Bk (W3.alloc (.cells #[.string p.2.1[k], .string p.2.2.1[k]] 91)) w.heap.size 53 #[.int .i64 r, .slice (some ⟨g0, off0, none⟩) x.length c0])
                  have hnlt := kS.lt
                  clear so so3 ks ks3 kS kS3 kT kT3 ksA kSA kTA hc nd hcv
                  go_wp2_with (first
                    | (at_builtin
                       refine wpList_app good_Record rfl _ _ _ _ 91 rfl i0 _ Tryz.underlying48 hi0 hz0 hz1 (by rfl) (lo := w.heap.size + 3) (xs := F k) (ys := [(p.2.1[k], p.2.2.1[k])]) (bl := bl) (bs := [[]]) (news := [.string p.2.1[k], .string p.2.2.1[k]]) (v := .slice (some ⟨W3.heap.size, 0, none⟩) 1 1) rfl (by rfl) SO3.out nd' (Src.box (n := i0.size) (t := 91) (cs := [.string p.2.1[k], .string p.2.2.1[k]]) Tryz.underlying48 kb3 (by simp [Value.oneCell']) (by rw [hz1]; rfl)) (Rowed.one good_Record ho) hlo hx1 hx2 ?_
                       intro D' d' bl' w9 hap
                       obtain ⟨so9, nd9, mem9, on9⟩ := hap
                       have uu9 : Up w w9 := Up.only huA on9 (fun y hy => by have := (hin y hy).1; omega)))
                  obtain ⟨g9, off9, hD9, hlo9, hhi9, _⟩ := (so9.rep good_Record).2.2 (by simp)
                  subst hD9
                  have hb2 : ∀ q, q < w.heap.size + 3 → q ∉ bl := fun q hq hh => by have := (hin q hh).1; omega
                  have hn9 : n ∉ bl' := fun hh => by
                    rcases mem9 n hh with hh | hh
                    · exact hnb (by simpa using hh)
                    · simp at hh; omega
                  go_roundw
                  case rel =>
                    refine ⟨k + 1, g9, off9, d', bl', by omega, by go_num, by rw [HN2.out, List.length_append]; rfl, by rw [HN2.out]; exact so9, nd9, by rw [HN2.out, List.map_append]; exact SSet.onlyS HKS.out.1 on9 (hb2 _ (by omega)), HKS.out.2.2.only on9 (hb2 _ (by omega)), HKS.out.2.1.only on9 hnb, hn9, uu9, by omega, hhi9⟩
                  case measure => simp [intOf]; omega
                · rw [hc] at hl2
                  have HN2 := Lib.hid (HN.out.trans (addRec_old (r := (p.2.1[k], p.2.2.1[k])) hc))
                  clear hc
                  go_wp2_with fail
                  go_roundw
                  case rel => exact ⟨k + 1, g, off, c, bl, by omega, by go_num, by rw [HN2.out], by rw [HN2.out]; exact so, nd, by rw [HN2.out]; exact ks, kT, kS, hnb, hu, hgw, hgr⟩
                  case measure => simp [intOf]; omega
              · obtain rfl : k = p.2.1.length := by omega
                clear hkl
                go_wp2_with fail
                go_roundw
                case rel => exact ⟨i + 1, F p.2.1.length, g, off, c, bl, by omega, by go_num, rfl, Lib.hid HA.out, so, nd, ks, kT, hu, hgw, hgr⟩
                case measure => simp [intOf]; omega
      · obtain rfl : i = x.length := by omega
        clear hlt
        have hLl : L.length ≤ 384 := by rw [HL.out]; exact HFL.out
        have CS := Lib.hid (c_SortRec L g off c (w.heap.size + 3) bl wr so hgr (by omega))
        have hin := so.in_ good_Record
        clear so ks kT HPG
        go_wp2_with (go_at_call 51; (with_reducible refine CS.out.mono ?_); rintro e w5 ⟨rfl, d, hp, hs, so5, on5⟩)
        obtain ⟨hV, hC⟩ := HV.out d (by rw [← HL.out]; exact hp) hs
        have hdl : d.length = L.length := hp.length_eq
        go_ret2
        rw [← hdl]
        exact ToLR.mk hV hC (so5.wide good_Record (by omega) (Nat.le_refl _)) nd (Up.only hu on5 (fun y hy => by
          rcases List.mem_cons.1 hy with rfl | hy
          · exact hgw
          · have := (hin y hy).1; omega))
  · obtain ⟨hV, hC⟩ := salv_big (r := r) h64
    have HV := Lib.hid hV
    have HC := Lib.hid hC
    clear hV hC
    go_enter Tryz.func22, Tryz.ntmps22
    go_wp2_with fail
    go_ret2
    exact ToLR.mk (ys := []) HV.out HC.out (SO.nil _ _ _) List.nodup_nil uu0
end Go.Proofs.YtehhgogmbpdpbaaGreatDoor
