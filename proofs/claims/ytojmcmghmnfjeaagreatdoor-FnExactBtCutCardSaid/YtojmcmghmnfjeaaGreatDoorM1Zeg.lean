/-
 Parts of the proof.
-/
import Derived.Test.YtojmcmghmnfjeaaGreatDoorM1Zbg
import Derived.Shelf.SlicesG.Cells
set_option maxHeartbeats 4000000
set_option maxRecDepth 100000
namespace Go.Proofs.YtojmcmghmnfjeaaGreatDoor
open Go.RowKit
set_option linter.unusedVariables false
set_option linter.unusedSimpArgs false
theorem cinfo_StrZ:(Tryz.prog.info? 9).map (fun i=>(i.zero,i.size,i.bytes))=some (some (.string ⟨#[]⟩),1,16):=by kernel_rfl
theorem cinfo_IntZ:(Tryz.prog.info? 2).map (fun i=>(i.zero,i.size,i.bytes))=some (some (.int .i64 0),1,8):=by kernel_rfl
theorem row_ins {α:Type} {v:α→Value} {xs:List α} {y:α} {i o:Nat} {C:Array Value} (hi:i≤xs.length) (hA:∀j (h:j<xs.length),j<i→C[o+j]?=some (v xs[j])) (hB:C[o+i]?=some (v y)) (hD:∀j (h:j<xs.length),i≤j→C[o+(j+1)]?=some (v xs[j])) :
 ∀k (h:k<(xs.take i++y::xs.drop i).length),C[o+k]?=some (v (xs.take i++y::xs.drop i)[k]):=by
 intro k h
 have hl:(xs.take i).length=i:=by rw [List.length_take];omega
 have hk:k<xs.length+1:=by
  simp only [List.length_append,List.length_cons,List.length_drop,hl] at h
  omega
 by_cases h1:k<i
 ·rw [hA k (by omega) h1,List.getElem_append_left (by omega)]
  simp
 ·by_cases h2:k=i
  ·subst h2
   rw [hB,List.getElem_append_right (by omega)]
   simp [hl]
  ·obtain ⟨j,rfl⟩:∃j,k=j+1:=⟨k-1,by omega⟩
   rw [hD j (by omega) (by omega),List.getElem_append_right (by omega)]
   have e:j+1-(xs.take i).length=(j-i)+1:=by omega
   have e2:i+(j-i)=j:=by omega
   simp only [e,List.getElem_cons_succ,List.getElem_drop,e2]
theorem map_at {α:Type} {v:α→Value} {xs:List α} {i j:Nat} (h:i+j<xs.length):((xs.map v).drop i)[j]?=some (v xs[i+j]):=by
 rw [List.getElem?_drop,List.getElem?_map,List.getElem?_eq_getElem h]
 rfl
theorem RowC.make {α:Type} {s:Sh α} {w:World} {lo:Nat} {xs:List α} {bl:List Nat} {w':World} {D:Option Addr} {d n:Nat} (bl':List Nat) (hn:xs.length=n) (h:SO s w' lo w'.heap.size D d xs bl'∧bl'.Nodup∧(∀y∈bl',y∈bl∨w.heap.size≤y)∧Only bl w w'):RowC s w lo xs bl (.returned (.slice D n d)) w':=⟨D,d,bl',by rw [hn],h⟩
section
variable {A:Option Addr} {lo c vb i:Nat} {xs:List ByteArray} {y:ByteArray} {bl:List Nat} {w:World}
theorem c_InsertS_shift (hx:xs.length≤1000000) (hi:i<xs.length) (hroom:xs.length+1≤c) (h:SO shS w lo w.heap.size A c xs bl) (hv:Bk w vb 9 #[.string y]) (hy:y.size≤maxLen) (hvb:vb∉bl) :
 Calls Tryz.prog 144 #[.slice A xs.length c,.int .i64 (i:Int),.slice (some ⟨vb,0,none⟩) 1 1] w (RowC shS w lo (xs.take i++y::xs.drop i) bl):=by
 obtain ⟨g,off,rfl,rfl,r⟩:=h.addr1 one1_S (by omega)
 obtain ⟨C,tid,hbk,hcap,hC⟩:=r.blk
 have hcm:=r.cap
 unfold maxLen at hcm
 have hgv:vb≠g:=fun e=>hvb (by simp [e])
 obtain ⟨i0,hi0,hz0,hz1,hz2⟩:=info_parts cinfo_StrZ
 have hinfo:(Tryz.prog.info? 9).map (·.size)=some 1:=by rw [hi0];simp [hz1]
 have hu0:Tryz.prog.underlying 52=some (.slice 9):=Tryz.underlying52
 have hzof:∀W,(Go.sizeOf 9).run Tryz.prog W=.ok 1 W:=fun W=>by simp [sizeOf,typeInfo,hi0,hz1]
 have hwlt:=hbk.lt
 have hov:∀lb cb,(callFunc 168 #[.slice (some ⟨vb,0,none⟩) 1 1,.slice (some ⟨g,off+(i+1),none⟩) lb cb]).run Tryz.prog w=.ok (.value (.bool false)) w:=fun lb cb=>by
  rw [run_callFunc_extern Tryz.func168 (by kernel_rfl) (by kernel_rfl) (by kernel_rfl) (e:=Extern.SlicesOverlaps.overlaps #[52,52] #[4]) (by kernel_rfl),
   Lib.run_overlaps_apart w 52 4 9 hu0 1 hzof ⟨vb,0,none⟩ ⟨g,off+(i+1),none⟩ 1 1 lb cb hgv 9 tid 1 C.size (by unfold Bk at hv;simp [World.shape?,hv]) (by unfold Bk at hbk;simp [World.shape?,hbk]) (by omega) (hv.frozen 0) (hv.frozen _)]
  rfl
 obtain ⟨olds,hol⟩:∃olds,olds=(xs.map (Value.string)).drop i:=⟨_,rfl⟩
 have hdl:olds.length=xs.length-i:=by rw [hol];simp
 have hoat:∀j (h:i+j<xs.length),olds[j]?=some (.string xs[i+j]):=fun j h=>by rw [hol];exact map_at h
 have h1c:∀u∈olds,u.oneCell'=true:=fun u hu=>by
  rw [hol] at hu
  obtain ⟨z,_,rfl⟩:=List.mem_map.1 (List.mem_of_mem_drop hu)
  rfl
 clear hol
 have hcell:∀k,k<C.size→(w.drew.cell? ⟨g,k,none⟩).isSome=true:=fun k hk=>by
  rw [hbk.drew.cell,Array.getElem?_eq_getElem hk];rfl
 have hcp1:∀ty dc sc,(Builtin.copy_ #[52,52] ty #[.slice (some ⟨g,off+(i+1),none⟩) (xs.length-i) dc,.slice (some ⟨g,off+i,none⟩) (xs.length+1-i) sc]).run Tryz.prog w.drew=.ok (goInt (xs.length-i:Nat)) (setCells w.drew g (off+(i+1)) olds):=fun ty dc sc =>
  run_copy_cellsN 1 w.drew _ _ ty 9 g (off+(i+1)) (xs.length-i) dc ⟨g,off+i,none⟩ (xs.length+1-i) sc olds (xs.length-i) hu0 hinfo (by simp only [Nat.min_def];split <;> omega) (by rw [Nat.mul_one];exact hdl)
   (fun j u hj=>by
    have hjl:=(List.getElem?_eq_some_iff.1 hj).1
    rw [hoat j (by omega)] at hj
    rw [addr_add,hbk.drew.cell,Nat.add_assoc,hC _ (by omega)]
    exact hj)
   (fun j hj=>hcell _ (by omega)) (fun j hj=>hbk.drew.frozen _) h1c
 have hbk1:=hbk.drew.sets olds (off+(i+1))
 have hbut1:=But.sets (g:=g) olds w.drew (off+(i+1))
 obtain ⟨W1,hW1⟩:∃W1,W1=setCells w.drew g (off+(i+1)) olds:=⟨_,rfl⟩
 have hv1:Bk W1 vb 9 #[.string y]:=by rw [hW1];exact (hbut1.block vb hgv).trans hv
 rw [←hW1] at hbk1 hbut1 hcp1
 obtain ⟨C1,hC1⟩:∃C1,C1=putCells C (off+(i+1)) olds:=⟨_,rfl⟩
 rw [←hC1] at hbk1
 have hC1s:C1.size=C.size:=by rw [hC1,putCells_size]
 have hcp2:∀ty dc,(Builtin.copy_ #[52,52] ty #[.slice (some ⟨g,off+i,none⟩) (xs.length+1-i) dc,.slice (some ⟨vb,0,none⟩) 1 1]).run Tryz.prog W1=.ok (goInt 1) (setCells W1 g (off+i) [.string y]):=fun ty dc =>
  run_copy_cellsN 1 W1 _ _ ty 9 g (off+i) (xs.length+1-i) dc ⟨vb,0,none⟩ 1 1 [.string y] 1 hu0 hinfo (by simp only [Nat.min_def];split <;> omega) rfl
   (fun j u hj=>by rw [addr_add,hv1.cell,Nat.zero_add];simpa using hj)
   (fun j hj=>by simp at hj;rw [hbk1.cell,Array.getElem?_eq_getElem (by omega)];rfl) (fun j hj=>hbk1.frozen _) (by simp [Value.oneCell'])
 have hbk2:=hbk1.sets [.string y] (off+i)
 have hbut2:=hbut1.trans (But.sets (g:=g) [.string y] W1 (off+i))
 have hl:=r.len
 have hsz2:(setCells W1 g (off+i) [.string y]).heap.size=w.heap.size:=hbut2.size
 have hfin:Hid (SO shS (setCells W1 g (off+i) [.string y]) lo (setCells W1 g (off+i) [.string y]).heap.size (some ⟨g,off,none⟩) c (xs.take i++y::xs.drop i) [g]∧[g].Nodup∧(∀q∈[g],q∈[g]∨w.heap.size≤q)∧Only [g] w (setCells W1 g (off+i) [.string y])):=by
  refine ⟨Row1.so one1_S ⟨r.lo,by rw [hsz2];exact r.hi,⟨_,tid,hbk2,by rw [putCells_size,hC1s];exact hcap,row_ins (Nat.le_of_lt hi) (fun j hj hji=>?_) ?_ (fun j hj hij=>?_)⟩,by simp;omega,r.cap,fun z hz=>?_⟩,by simp,fun q hq=>.inl hq,(Only.refl _ w).but (show But g w _ from ⟨hbut2.os,hbut2.tape,hbut2.output,hbut2.size,hbut2.block⟩) (by simp)⟩
  ·rw [putCells_far _ _ _ _ (.inl (by omega)),hC1,putCells_far _ _ _ _ (.inl (by omega))]
   exact hC j hj
  ·exact putCells_at [.string y] C1 (off+i) 0 (by rw [hC1s];simp;omega) (by simp)
  ·rw [putCells_far _ _ _ _ (.inr (by simp;omega)),hC1]
   obtain ⟨q,rfl⟩:∃q,j=i+q:=⟨j-i,by omega⟩
   have e:=putCells_at olds C (off+(i+1)) q (by omega) (by omega)
   rw [show off+(i+q+1)=off+(i+1)+q by omega,e]
   exact hoat q hj
  ·rcases List.mem_append.1 hz with hz | hz
   ·exact r.ok z (List.mem_of_mem_take hz)
   ·rcases List.mem_cons.1 hz with rfl | hz
    ·exact hy
    ·exact r.ok z (List.mem_of_mem_drop hz)
 have hyl:(xs.take i++y::xs.drop i).length=xs.length+1:=by simp;omega
 have HOV:=Hd hov
 clear hov hbut1 hbut2 hbk1 hbk2 hv1 h1c h hv hvb hbk hcell hC hC1 hC1s hW1 r hy hoat hdl hsz2
 have hz2:¬((i:Int)=(xs.length:Int)):=by omega
 have hw1:IntKind.i64.wrap ((i:Int)+1)=(i:Int)+1:=by rw [IntKind.wrap_i64];omega
 have hb1:(0:Int)≤(i:Int)+1:=by omega
 have htn:((i:Int)+1).toNat=i+1:=by omega
 have hb2:¬(c=i+1):=by omega
 have hb3:(i:Int)≤(xs.length:Int)+1:=by omega
 have hb4:¬(c=i):=by omega
 have hin:i≤xs.length:=by omega
 have mixed:Tryz.prog.follows .mixedOrders=true:=by kernel_rfl
 go_enter Tryz.func144,Tryz.ntmps144
 go_wp2_with (simp only [HOV.out])
 go_region_law_o (refine step_copy_runI rfl _ _ 52 52 rfl _ _ (by simp [Act.eval,Act.put]) (by simp [Act.eval,Act.put]) (hcp1 _ _ _) ?_)
 go_wp2_with (at_builtin;refine wpList_copy_runI _ rfl _ _ 52 52 rfl _ _ rfl rfl (hcp2 _ _) ?_)
 go_ret
 exact RowC.make _ hyl hfin.out
theorem c_InsertS_grow (hx:xs.length≤1000000) (hi:i<xs.length) (hroom:c<xs.length+1) (h:SO shS w lo w.heap.size A c xs bl) (hv:Bk w vb 9 #[.string y]) (hy:y.size≤maxLen) (hlo:lo≤w.heap.size) :
 Calls Tryz.prog 144 #[.slice A xs.length c,.int .i64 (i:Int),.slice (some ⟨vb,0,none⟩) 1 1] w (RowC shS w lo (xs.take i++y::xs.drop i) bl):=by
 obtain ⟨g,off,rfl,rfl,r⟩:=h.addr1 one1_S (by omega)
 obtain ⟨C,tid,hbk,hcap,hC⟩:=r.blk
 have hcm:=r.cap
 unfold maxLen at hcm
 have hl:=r.len
 obtain ⟨i0,hi0,hz0,hz1,hz2⟩:=info_parts cinfo_StrZ
 have hinfo:(Tryz.prog.info? 9).map (·.size)=some 1:=by rw [hi0];simp [hz1]
 have hu0:Tryz.prog.underlying 52=some (.slice 9):=Tryz.underlying52
 have hwlt:=hbk.lt
 have hvlt:=hv.lt
 have hin:i≤xs.length:=by omega
 have hkk:(xs.length:Int)+1-(i:Int)=((xs.length+1-i:Nat):Int):=by omega
 have hik:i+(xs.length+1-i)=xs.length+1:=by omega
 obtain ⟨pre,hpre⟩:∃pre,pre=(xs.map (Value.string)).take i:=⟨_,rfl⟩
 have hpl:pre.length=i:=by rw [hpre];simp;omega
 have hpat:∀j (h:j<xs.length),j<i→pre[j]?=some (.string xs[j]):=fun j h hj=>by
  rw [hpre,List.getElem?_take_of_lt hj,List.getElem?_map,List.getElem?_eq_getElem h]
  rfl
 obtain ⟨olds,hol⟩:∃olds,olds=(xs.map (Value.string)).drop i:=⟨_,rfl⟩
 have hdl:olds.length=xs.length-i:=by rw [hol];simp
 have hoat:∀j (h:i+j<xs.length),olds[j]?=some (.string xs[i+j]):=fun j h=>by rw [hol];exact map_at h
 have h1c:∀u∈olds,u.oneCell'=true:=fun u hu=>by
  rw [hol] at hu
  obtain ⟨z,_,rfl⟩:=List.mem_map.1 (List.mem_of_mem_drop hu)
  rfl
 clear hol hpre
 have hold:(Builtin.firstCells i0.size i (.slice (some ⟨g,off,none⟩) i c)).run Tryz.prog w.drew=.ok pre.toArray w.drew:=by
  rw [hz1]
  exact run_firstCells_some (P:=Tryz.prog) w.drew 1 i ⟨g,off,none⟩ i c pre (by rw [Nat.mul_one];exact hpl) (fun j u hj=>by
   have hjl:=(List.getElem?_eq_some_iff.1 hj).1
   rw [hpat j (by omega) (by omega)] at hj
   rw [addr_add,hbk.drew.cell,hC j (by omega)]
   exact hj)
 have hge:=grownCap_ge w (xs.length+1) c 9
 have hcmx:grownCap w (xs.length+1) c 9≤maxLen:=grownCap_le_maxLen w (xs.length+1) c _ (by unfold maxLen;omega)
 have hrz:∀ty,(Builtin.append_ #[52,3] ty #[.slice (some ⟨g,off,none⟩) i c,.int .i64 ((xs.length:Int)+1-(i:Int))]).run Tryz.prog w =
  .ok (.slice (some ⟨w.heap.size,0,none⟩) (xs.length+1) (grownCap w (xs.length+1) c 9)) (w.drew.alloc (.cells (pre.toArray++Builtin.zeroCells (Value.string ⟨#[]⟩).cells (xs.length+1-i)++Builtin.zeroCells (Value.string ⟨#[]⟩).cells (grownCap w (xs.length+1) c 9-(xs.length+1))) 9)):=fun ty=>by
  have h:=Lib.run_append_grow_zeros (P:=Tryz.prog) w 52 3 ty 9 i0 _ .i64 .i64 hu0 Tryz.underlying3 hi0 hz0 (some ⟨g,off,none⟩) i c pre hold (xs.length+1-i) (by omega) (by omega) (by omega) (by omega) (by rw [hz2];omega) (by rw [hz2,hik];exact growslice_fits (by omega) (by omega))
  rw [hik] at h
  rw [hkk]
  exact h
 obtain ⟨G,hG⟩:∃G,G=grownCap w (xs.length+1) c 9:=⟨_,rfl⟩
 obtain ⟨ROW,hROW⟩:∃ROW:Array Value,ROW=pre.toArray++Builtin.zeroCells (Value.string ⟨#[]⟩).cells (xs.length+1-i)++Builtin.zeroCells (Value.string ⟨#[]⟩).cells (G-(xs.length+1)):=⟨_,rfl⟩
 rw [←hG] at hrz hge hcmx
 rw [←hROW] at hrz
 have hG1:xs.length+1≤G:=hge
 have hRs:ROW.size=G:=by
  rw [hROW]
  simp only [Array.size_append,size_zeroCells,List.size_toArray,hpl]
  have:(Value.string ⟨#[]⟩).cells.size=1:=rfl
  rw [this]
  omega
 have hR0:∀j,j<i→ROW[j]?=pre[j]?:=fun j hj=>by
  rw [hROW,Array.append_assoc,Array.getElem?_append_left (by simp [hpl];exact hj)]
  simp only [List.getElem?_toArray]
 obtain ⟨W1,hW1⟩:∃W1,W1=w.drew.alloc (.cells ROW 9):=⟨_,rfl⟩
 have u1:Up w W1:=by rw [hW1];exact (Up.refl w).drew.alloc _
 have k1:Bk W1 w.heap.size 9 ROW:=by rw [hW1];exact Bk.new w.drew _ _
 rw [←hW1] at hrz
 clear hW1 hROW
 have hv1:=hv.up u1
 have hcpA:∀ty dc,(Builtin.copy_ #[52,52] ty #[.slice (some ⟨w.heap.size,i,none⟩) (xs.length+1-i) dc,.slice (some ⟨vb,0,none⟩) 1 1]).run Tryz.prog W1=.ok (goInt 1) (setCells W1 w.heap.size i [.string y]):=fun ty dc =>
  run_copy_cellsN 1 W1 _ _ ty 9 w.heap.size i (xs.length+1-i) dc ⟨vb,0,none⟩ 1 1 [.string y] 1 hu0 hinfo (by simp only [Nat.min_def];split <;> omega) rfl
   (fun j u hj=>by rw [addr_add,hv1.cell,Nat.zero_add];simpa using hj)
   (fun j hj=>by simp at hj;rw [k1.cell,Array.getElem?_eq_getElem (by omega)];rfl) (fun j hj=>k1.frozen _) (by simp [Value.oneCell'])
 have k2:=k1.sets [.string y] i
 have hbut2:=But.sets (g:=w.heap.size) [.string y] W1 i
 obtain ⟨W2,hW2⟩:∃W2,W2=setCells W1 w.heap.size i [.string y]:=⟨_,rfl⟩
 rw [←hW2] at hcpA k2 hbut2
 clear hW2
 have u2:=u1.but hbut2 (Nat.le_refl _)
 have hbk2:Bk W2.drew g tid C:=hbk.up u2.drew
 have hC2s:(putCells ROW i [.string y]).size=G:=by rw [putCells_size,hRs]
 have hcpB:∀ty dc sc,(Builtin.copy_ #[52,52] ty #[.slice (some ⟨w.heap.size,i+1,none⟩) (xs.length-i) dc,.slice (some ⟨g,off+i,none⟩) (xs.length-i) sc]).run Tryz.prog W2.drew=.ok (goInt (xs.length-i:Nat)) (setCells W2.drew w.heap.size (i+1) olds):=fun ty dc sc =>
  run_copy_cellsN 1 W2.drew _ _ ty 9 w.heap.size (i+1) (xs.length-i) dc ⟨g,off+i,none⟩ (xs.length-i) sc olds (xs.length-i) hu0 hinfo (by simp) (by rw [Nat.mul_one];exact hdl)
   (fun j u hj=>by
    have hjl:=(List.getElem?_eq_some_iff.1 hj).1
    rw [hoat j (by omega)] at hj
    rw [addr_add,hbk2.cell,Nat.add_assoc,hC _ (by omega)]
    exact hj)
   (fun j hj=>by rw [k2.drew.cell,Array.getElem?_eq_getElem (by omega)];rfl) (fun j hj=>k2.drew.frozen _) h1c
 have k3:=k2.drew.sets olds (i+1)
 have hbut3:=But.sets (g:=w.heap.size) olds W2.drew (i+1)
 obtain ⟨W3,hW3⟩:∃W3,W3=setCells W2.drew w.heap.size (i+1) olds:=⟨_,rfl⟩
 rw [←hW3] at hcpB k3 hbut3
 clear hW3
 have u3:Up w W3:=u2.drew.but hbut3 (Nat.le_refl _)
 have hfin:Hid (SO shS W3 lo W3.heap.size (some ⟨w.heap.size,0,none⟩) G (xs.take i++y::xs.drop i) [w.heap.size]∧[w.heap.size].Nodup∧(∀q∈[w.heap.size],q∈[g]∨w.heap.size≤q)∧Only [g] w W3):=by
  refine ⟨Row1.so one1_S ⟨hlo,k3.lt,⟨_,_,k3,by rw [putCells_size,hC2s];omega,row_ins (Nat.le_of_lt hi) (fun j hj hji=>?_) ?_ (fun j hj hij=>?_)⟩,by simp;omega,hcmx,fun z hz=>?_⟩,by simp,fun q hq=>.inr (by rw [List.mem_singleton.1 hq];exact Nat.le_refl _),Only.of_up u3⟩
  ·rw [Nat.zero_add,putCells_far _ _ _ _ (.inl (by omega)),putCells_far _ _ _ _ (.inl (by omega)),hR0 j hji]
   exact hpat j hj hji
  ·rw [Nat.zero_add,putCells_far _ _ _ _ (.inl (by omega))]
   exact putCells_at [.string y] ROW i 0 (by simp;omega) (by simp)
  ·obtain ⟨q,rfl⟩:∃q,j=i+q:=⟨j-i,by omega⟩
   have e:=putCells_at olds (putCells ROW i [.string y]) (i+1) q (by rw [hC2s];omega) (by omega)
   rw [Nat.zero_add,show i+q+1=i+1+q by omega,e]
   exact hoat q hj
  ·rcases List.mem_append.1 hz with hz | hz
   ·exact r.ok z (List.mem_of_mem_take hz)
   ·rcases List.mem_cons.1 hz with rfl | hz
    ·exact hy
    ·exact r.ok z (List.mem_of_mem_drop hz)
 have hyl:(xs.take i++y::xs.drop i).length=xs.length+1:=by simp;omega
 clear hbut2 hbut3 hbk hbk2 hv hv1 h1c h hC hold k1 k2 k3 u1 u2 u3 hR0 hRs hC2s hG hkk hik r hpat hpl hoat hdl hy
 have hz2:¬((i:Int)=(xs.length:Int)):=by omega
 have hz3:(c:Int)<(xs.length:Int)+1:=by omega
 have hw1:IntKind.i64.wrap ((i:Int)+1)=(i:Int)+1:=by rw [IntKind.wrap_i64];omega
 have hb1:(0:Int)≤(i:Int)+1:=by omega
 have htn:((i:Int)+1).toNat=i+1:=by omega
 have hb3:(i:Int)≤(xs.length:Int):=by omega
 have hci:¬(c=i):=by omega
 have hGi:¬(G=i):=by omega
 have hGim:¬(G=i+1):=by omega
 unfold maxLen at hcmx
 have mixed:Tryz.prog.follows .mixedOrders=true:=by kernel_rfl
 go_enter Tryz.func144,Tryz.ntmps144
 go_wp2_with (first
  | (at_builtin;refine Lib.wpList_append_run _ rfl _ _ _ _ rfl _ _ rfl rfl _ _ (hrz _) ?_)
  | (at_builtin;refine wpList_copy_runI _ rfl _ _ 52 52 rfl _ _ rfl rfl (hcpA _ _) ?_))
 go_region_law_o (refine step_copy_runI rfl _ _ 52 52 rfl _ _ (by simp [Act.eval,Act.put]) (by simp [Act.eval,Act.put]) (hcpB _ _ _) ?_)
 go_wp2_with fail
 go_ret
 exact RowC.make _ hyl hfin.out
theorem c_InsertS0 (hx:xs.length≤1000000) (hp:0<xs.length) (h:SO shS w lo w.heap.size A c xs bl) (hv:Bk w vb 9 #[.string y]) (hy:y.size≤maxLen) (hvb:vb∉bl) (hlo:lo≤w.heap.size) :
 Calls Tryz.prog 144 #[.slice A xs.length c,.int .i64 0,.slice (some ⟨vb,0,none⟩) 1 1] w (RowC shS w lo (y::xs) bl):=by
 rcases Nat.lt_or_ge c (xs.length+1) with hc | hc
 ·exact c_InsertS_grow (i:=0) hx hp hc h hv hy hlo
 ·exact c_InsertS_shift (i:=0) hx hp hc h hv hy hvb
end
section
variable {A:Option Addr} {lo c vb i:Nat} {xs:List Int} {y:Int} {bl:List Nat} {w:World}
theorem c_InsertI_shift (hx:xs.length≤1000000) (hi:i<xs.length) (hroom:xs.length+1≤c) (h:SO shI w lo w.heap.size A c xs bl) (hv:Bk w vb 2 #[.int .i64 y]) (hy:I64 y) (hvb:vb∉bl) :
 Calls Tryz.prog 145 #[.slice A xs.length c,.int .i64 (i:Int),.slice (some ⟨vb,0,none⟩) 1 1] w (RowC shI w lo (xs.take i++y::xs.drop i) bl):=by
 obtain ⟨g,off,rfl,rfl,r⟩:=h.addr1 one1_I (by omega)
 obtain ⟨C,tid,hbk,hcap,hC⟩:=r.blk
 have hcm:=r.cap
 unfold maxLen at hcm
 have hgv:vb≠g:=fun e=>hvb (by simp [e])
 obtain ⟨i0,hi0,hz0,hz1,hz2⟩:=info_parts cinfo_IntZ
 have hinfo:(Tryz.prog.info? 2).map (·.size)=some 1:=by rw [hi0];simp [hz1]
 have hu0:Tryz.prog.underlying 53=some (.slice 2):=Tryz.underlying53
 have hzof:∀W,(Go.sizeOf 2).run Tryz.prog W=.ok 1 W:=fun W=>by simp [sizeOf,typeInfo,hi0,hz1]
 have hwlt:=hbk.lt
 have hov:∀lb cb,(callFunc 170 #[.slice (some ⟨vb,0,none⟩) 1 1,.slice (some ⟨g,off+(i+1),none⟩) lb cb]).run Tryz.prog w=.ok (.value (.bool false)) w:=fun lb cb=>by
  rw [run_callFunc_extern Tryz.func170 (by kernel_rfl) (by kernel_rfl) (by kernel_rfl) (e:=Extern.SlicesOverlaps.overlaps #[53,53] #[4]) (by kernel_rfl),
   Lib.run_overlaps_apart w 53 4 2 hu0 1 hzof ⟨vb,0,none⟩ ⟨g,off+(i+1),none⟩ 1 1 lb cb hgv 2 tid 1 C.size (by unfold Bk at hv;simp [World.shape?,hv]) (by unfold Bk at hbk;simp [World.shape?,hbk]) (by omega) (hv.frozen 0) (hv.frozen _)]
  rfl
 obtain ⟨olds,hol⟩:∃olds,olds=(xs.map (Value.int .i64)).drop i:=⟨_,rfl⟩
 have hdl:olds.length=xs.length-i:=by rw [hol];simp
 have hoat:∀j (h:i+j<xs.length),olds[j]?=some (.int .i64 xs[i+j]):=fun j h=>by rw [hol];exact map_at h
 have h1c:∀u∈olds,u.oneCell'=true:=fun u hu=>by
  rw [hol] at hu
  obtain ⟨z,_,rfl⟩:=List.mem_map.1 (List.mem_of_mem_drop hu)
  rfl
 clear hol
 have hcell:∀k,k<C.size→(w.drew.cell? ⟨g,k,none⟩).isSome=true:=fun k hk=>by
  rw [hbk.drew.cell,Array.getElem?_eq_getElem hk];rfl
 have hcp1:∀ty dc sc,(Builtin.copy_ #[53,53] ty #[.slice (some ⟨g,off+(i+1),none⟩) (xs.length-i) dc,.slice (some ⟨g,off+i,none⟩) (xs.length+1-i) sc]).run Tryz.prog w.drew=.ok (goInt (xs.length-i:Nat)) (setCells w.drew g (off+(i+1)) olds):=fun ty dc sc =>
  run_copy_cellsN 1 w.drew _ _ ty 2 g (off+(i+1)) (xs.length-i) dc ⟨g,off+i,none⟩ (xs.length+1-i) sc olds (xs.length-i) hu0 hinfo (by simp only [Nat.min_def];split <;> omega) (by rw [Nat.mul_one];exact hdl)
   (fun j u hj=>by
    have hjl:=(List.getElem?_eq_some_iff.1 hj).1
    rw [hoat j (by omega)] at hj
    rw [addr_add,hbk.drew.cell,Nat.add_assoc,hC _ (by omega)]
    exact hj)
   (fun j hj=>hcell _ (by omega)) (fun j hj=>hbk.drew.frozen _) h1c
 have hbk1:=hbk.drew.sets olds (off+(i+1))
 have hbut1:=But.sets (g:=g) olds w.drew (off+(i+1))
 obtain ⟨W1,hW1⟩:∃W1,W1=setCells w.drew g (off+(i+1)) olds:=⟨_,rfl⟩
 have hv1:Bk W1 vb 2 #[.int .i64 y]:=by rw [hW1];exact (hbut1.block vb hgv).trans hv
 rw [←hW1] at hbk1 hbut1 hcp1
 obtain ⟨C1,hC1⟩:∃C1,C1=putCells C (off+(i+1)) olds:=⟨_,rfl⟩
 rw [←hC1] at hbk1
 have hC1s:C1.size=C.size:=by rw [hC1,putCells_size]
 have hcp2:∀ty dc,(Builtin.copy_ #[53,53] ty #[.slice (some ⟨g,off+i,none⟩) (xs.length+1-i) dc,.slice (some ⟨vb,0,none⟩) 1 1]).run Tryz.prog W1=.ok (goInt 1) (setCells W1 g (off+i) [.int .i64 y]):=fun ty dc =>
  run_copy_cellsN 1 W1 _ _ ty 2 g (off+i) (xs.length+1-i) dc ⟨vb,0,none⟩ 1 1 [.int .i64 y] 1 hu0 hinfo (by simp only [Nat.min_def];split <;> omega) rfl
   (fun j u hj=>by rw [addr_add,hv1.cell,Nat.zero_add];simpa using hj)
   (fun j hj=>by simp at hj;rw [hbk1.cell,Array.getElem?_eq_getElem (by omega)];rfl) (fun j hj=>hbk1.frozen _) (by simp [Value.oneCell'])
 have hbk2:=hbk1.sets [.int .i64 y] (off+i)
 have hbut2:=hbut1.trans (But.sets (g:=g) [.int .i64 y] W1 (off+i))
 have hl:=r.len
 have hsz2:(setCells W1 g (off+i) [.int .i64 y]).heap.size=w.heap.size:=hbut2.size
 have hfin:Hid (SO shI (setCells W1 g (off+i) [.int .i64 y]) lo (setCells W1 g (off+i) [.int .i64 y]).heap.size (some ⟨g,off,none⟩) c (xs.take i++y::xs.drop i) [g]∧[g].Nodup∧(∀q∈[g],q∈[g]∨w.heap.size≤q)∧Only [g] w (setCells W1 g (off+i) [.int .i64 y])):=by
  refine ⟨Row1.so one1_I ⟨r.lo,by rw [hsz2];exact r.hi,⟨_,tid,hbk2,by rw [putCells_size,hC1s];exact hcap,row_ins (Nat.le_of_lt hi) (fun j hj hji=>?_) ?_ (fun j hj hij=>?_)⟩,by simp;omega,r.cap,fun z hz=>?_⟩,by simp,fun q hq=>.inl hq,(Only.refl _ w).but (show But g w _ from ⟨hbut2.os,hbut2.tape,hbut2.output,hbut2.size,hbut2.block⟩) (by simp)⟩
  ·rw [putCells_far _ _ _ _ (.inl (by omega)),hC1,putCells_far _ _ _ _ (.inl (by omega))]
   exact hC j hj
  ·exact putCells_at [.int .i64 y] C1 (off+i) 0 (by rw [hC1s];simp;omega) (by simp)
  ·rw [putCells_far _ _ _ _ (.inr (by simp;omega)),hC1]
   obtain ⟨q,rfl⟩:∃q,j=i+q:=⟨j-i,by omega⟩
   have e:=putCells_at olds C (off+(i+1)) q (by omega) (by omega)
   rw [show off+(i+q+1)=off+(i+1)+q by omega,e]
   exact hoat q hj
  ·rcases List.mem_append.1 hz with hz | hz
   ·exact r.ok z (List.mem_of_mem_take hz)
   ·rcases List.mem_cons.1 hz with rfl | hz
    ·exact hy
    ·exact r.ok z (List.mem_of_mem_drop hz)
 have hyl:(xs.take i++y::xs.drop i).length=xs.length+1:=by simp;omega
 have HOV:=Hd hov
 clear hov hbut1 hbut2 hbk1 hbk2 hv1 h1c h hv hvb hbk hcell hC hC1 hC1s hW1 r hy hoat hdl hsz2
 have hz2:¬((i:Int)=(xs.length:Int)):=by omega
 have hw1:IntKind.i64.wrap ((i:Int)+1)=(i:Int)+1:=by rw [IntKind.wrap_i64];omega
 have hb1:(0:Int)≤(i:Int)+1:=by omega
 have htn:((i:Int)+1).toNat=i+1:=by omega
 have hb2:¬(c=i+1):=by omega
 have hb3:(i:Int)≤(xs.length:Int)+1:=by omega
 have hb4:¬(c=i):=by omega
 have hin:i≤xs.length:=by omega
 have mixed:Tryz.prog.follows .mixedOrders=true:=by kernel_rfl
 go_enter Tryz.func145,Tryz.ntmps145
 go_wp2_with (simp only [HOV.out])
 go_region_law_o (refine step_copy_runI rfl _ _ 53 53 rfl _ _ (by simp [Act.eval,Act.put]) (by simp [Act.eval,Act.put]) (hcp1 _ _ _) ?_)
 go_wp2_with (at_builtin;refine wpList_copy_runI _ rfl _ _ 53 53 rfl _ _ rfl rfl (hcp2 _ _) ?_)
 go_ret
 exact RowC.make _ hyl hfin.out
theorem c_InsertI_grow (hx:xs.length≤1000000) (hi:i<xs.length) (hroom:c<xs.length+1) (h:SO shI w lo w.heap.size A c xs bl) (hv:Bk w vb 2 #[.int .i64 y]) (hy:I64 y) (hlo:lo≤w.heap.size) :
 Calls Tryz.prog 145 #[.slice A xs.length c,.int .i64 (i:Int),.slice (some ⟨vb,0,none⟩) 1 1] w (RowC shI w lo (xs.take i++y::xs.drop i) bl):=by
 obtain ⟨g,off,rfl,rfl,r⟩:=h.addr1 one1_I (by omega)
 obtain ⟨C,tid,hbk,hcap,hC⟩:=r.blk
 have hcm:=r.cap
 unfold maxLen at hcm
 have hl:=r.len
 obtain ⟨i0,hi0,hz0,hz1,hz2⟩:=info_parts cinfo_IntZ
 have hinfo:(Tryz.prog.info? 2).map (·.size)=some 1:=by rw [hi0];simp [hz1]
 have hu0:Tryz.prog.underlying 53=some (.slice 2):=Tryz.underlying53
 have hwlt:=hbk.lt
 have hvlt:=hv.lt
 have hin:i≤xs.length:=by omega
 have hkk:(xs.length:Int)+1-(i:Int)=((xs.length+1-i:Nat):Int):=by omega
 have hik:i+(xs.length+1-i)=xs.length+1:=by omega
 obtain ⟨pre,hpre⟩:∃pre,pre=(xs.map (Value.int .i64)).take i:=⟨_,rfl⟩
 have hpl:pre.length=i:=by rw [hpre];simp;omega
 have hpat:∀j (h:j<xs.length),j<i→pre[j]?=some (.int .i64 xs[j]):=fun j h hj=>by
  rw [hpre,List.getElem?_take_of_lt hj,List.getElem?_map,List.getElem?_eq_getElem h]
  rfl
 obtain ⟨olds,hol⟩:∃olds,olds=(xs.map (Value.int .i64)).drop i:=⟨_,rfl⟩
 have hdl:olds.length=xs.length-i:=by rw [hol];simp
 have hoat:∀j (h:i+j<xs.length),olds[j]?=some (.int .i64 xs[i+j]):=fun j h=>by rw [hol];exact map_at h
 have h1c:∀u∈olds,u.oneCell'=true:=fun u hu=>by
  rw [hol] at hu
  obtain ⟨z,_,rfl⟩:=List.mem_map.1 (List.mem_of_mem_drop hu)
  rfl
 clear hol hpre
 have hold:(Builtin.firstCells i0.size i (.slice (some ⟨g,off,none⟩) i c)).run Tryz.prog w.drew=.ok pre.toArray w.drew:=by
  rw [hz1]
  exact run_firstCells_some (P:=Tryz.prog) w.drew 1 i ⟨g,off,none⟩ i c pre (by rw [Nat.mul_one];exact hpl) (fun j u hj=>by
   have hjl:=(List.getElem?_eq_some_iff.1 hj).1
   rw [hpat j (by omega) (by omega)] at hj
   rw [addr_add,hbk.drew.cell,hC j (by omega)]
   exact hj)
 have hge:=grownCap_ge w (xs.length+1) c 2
 have hcmx:grownCap w (xs.length+1) c 2≤maxLen:=grownCap_le_maxLen w (xs.length+1) c _ (by unfold maxLen;omega)
 have hrz:∀ty,(Builtin.append_ #[53,3] ty #[.slice (some ⟨g,off,none⟩) i c,.int .i64 ((xs.length:Int)+1-(i:Int))]).run Tryz.prog w =
  .ok (.slice (some ⟨w.heap.size,0,none⟩) (xs.length+1) (grownCap w (xs.length+1) c 2)) (w.drew.alloc (.cells (pre.toArray++Builtin.zeroCells (Value.int .i64 0).cells (xs.length+1-i)++Builtin.zeroCells (Value.int .i64 0).cells (grownCap w (xs.length+1) c 2-(xs.length+1))) 2)):=fun ty=>by
  have h:=Lib.run_append_grow_zeros (P:=Tryz.prog) w 53 3 ty 2 i0 _ .i64 .i64 hu0 Tryz.underlying3 hi0 hz0 (some ⟨g,off,none⟩) i c pre hold (xs.length+1-i) (by omega) (by omega) (by omega) (by omega) (by rw [hz2];omega) (by rw [hz2,hik];exact growslice_fits (by omega) (by omega))
  rw [hik] at h
  rw [hkk]
  exact h
 obtain ⟨G,hG⟩:∃G,G=grownCap w (xs.length+1) c 2:=⟨_,rfl⟩
 obtain ⟨ROW,hROW⟩:∃ROW:Array Value,ROW=pre.toArray++Builtin.zeroCells (Value.int .i64 0).cells (xs.length+1-i)++Builtin.zeroCells (Value.int .i64 0).cells (G-(xs.length+1)):=⟨_,rfl⟩
 rw [←hG] at hrz hge hcmx
 rw [←hROW] at hrz
 have hG1:xs.length+1≤G:=hge
 have hRs:ROW.size=G:=by
  rw [hROW]
  simp only [Array.size_append,size_zeroCells,List.size_toArray,hpl]
  have:(Value.int .i64 0).cells.size=1:=rfl
  rw [this]
  omega
 have hR0:∀j,j<i→ROW[j]?=pre[j]?:=fun j hj=>by
  rw [hROW,Array.append_assoc,Array.getElem?_append_left (by simp [hpl];exact hj)]
  simp only [List.getElem?_toArray]
 obtain ⟨W1,hW1⟩:∃W1,W1=w.drew.alloc (.cells ROW 2):=⟨_,rfl⟩
 have u1:Up w W1:=by rw [hW1];exact (Up.refl w).drew.alloc _
 have k1:Bk W1 w.heap.size 2 ROW:=by rw [hW1];exact Bk.new w.drew _ _
 rw [←hW1] at hrz
 clear hW1 hROW
 have hv1:=hv.up u1
 have hcpA:∀ty dc,(Builtin.copy_ #[53,53] ty #[.slice (some ⟨w.heap.size,i,none⟩) (xs.length+1-i) dc,.slice (some ⟨vb,0,none⟩) 1 1]).run Tryz.prog W1=.ok (goInt 1) (setCells W1 w.heap.size i [.int .i64 y]):=fun ty dc =>
  run_copy_cellsN 1 W1 _ _ ty 2 w.heap.size i (xs.length+1-i) dc ⟨vb,0,none⟩ 1 1 [.int .i64 y] 1 hu0 hinfo (by simp only [Nat.min_def];split <;> omega) rfl
   (fun j u hj=>by rw [addr_add,hv1.cell,Nat.zero_add];simpa using hj)
   (fun j hj=>by simp at hj;rw [k1.cell,Array.getElem?_eq_getElem (by omega)];rfl) (fun j hj=>k1.frozen _) (by simp [Value.oneCell'])
 have k2:=k1.sets [.int .i64 y] i
 have hbut2:=But.sets (g:=w.heap.size) [.int .i64 y] W1 i
 obtain ⟨W2,hW2⟩:∃W2,W2=setCells W1 w.heap.size i [.int .i64 y]:=⟨_,rfl⟩
 rw [←hW2] at hcpA k2 hbut2
 clear hW2
 have u2:=u1.but hbut2 (Nat.le_refl _)
 have hbk2:Bk W2.drew g tid C:=hbk.up u2.drew
 have hC2s:(putCells ROW i [.int .i64 y]).size=G:=by rw [putCells_size,hRs]
 have hcpB:∀ty dc sc,(Builtin.copy_ #[53,53] ty #[.slice (some ⟨w.heap.size,i+1,none⟩) (xs.length-i) dc,.slice (some ⟨g,off+i,none⟩) (xs.length-i) sc]).run Tryz.prog W2.drew=.ok (goInt (xs.length-i:Nat)) (setCells W2.drew w.heap.size (i+1) olds):=fun ty dc sc =>
  run_copy_cellsN 1 W2.drew _ _ ty 2 w.heap.size (i+1) (xs.length-i) dc ⟨g,off+i,none⟩ (xs.length-i) sc olds (xs.length-i) hu0 hinfo (by simp) (by rw [Nat.mul_one];exact hdl)
   (fun j u hj=>by
    have hjl:=(List.getElem?_eq_some_iff.1 hj).1
    rw [hoat j (by omega)] at hj
    rw [addr_add,hbk2.cell,Nat.add_assoc,hC _ (by omega)]
    exact hj)
   (fun j hj=>by rw [k2.drew.cell,Array.getElem?_eq_getElem (by omega)];rfl) (fun j hj=>k2.drew.frozen _) h1c
 have k3:=k2.drew.sets olds (i+1)
 have hbut3:=But.sets (g:=w.heap.size) olds W2.drew (i+1)
 obtain ⟨W3,hW3⟩:∃W3,W3=setCells W2.drew w.heap.size (i+1) olds:=⟨_,rfl⟩
 rw [←hW3] at hcpB k3 hbut3
 clear hW3
 have u3:Up w W3:=u2.drew.but hbut3 (Nat.le_refl _)
 have hfin:Hid (SO shI W3 lo W3.heap.size (some ⟨w.heap.size,0,none⟩) G (xs.take i++y::xs.drop i) [w.heap.size]∧[w.heap.size].Nodup∧(∀q∈[w.heap.size],q∈[g]∨w.heap.size≤q)∧Only [g] w W3):=by
  refine ⟨Row1.so one1_I ⟨hlo,k3.lt,⟨_,_,k3,by rw [putCells_size,hC2s];omega,row_ins (Nat.le_of_lt hi) (fun j hj hji=>?_) ?_ (fun j hj hij=>?_)⟩,by simp;omega,hcmx,fun z hz=>?_⟩,by simp,fun q hq=>.inr (by rw [List.mem_singleton.1 hq];exact Nat.le_refl _),Only.of_up u3⟩
  ·rw [Nat.zero_add,putCells_far _ _ _ _ (.inl (by omega)),putCells_far _ _ _ _ (.inl (by omega)),hR0 j hji]
   exact hpat j hj hji
  ·rw [Nat.zero_add,putCells_far _ _ _ _ (.inl (by omega))]
   exact putCells_at [.int .i64 y] ROW i 0 (by simp;omega) (by simp)
  ·obtain ⟨q,rfl⟩:∃q,j=i+q:=⟨j-i,by omega⟩
   have e:=putCells_at olds (putCells ROW i [.int .i64 y]) (i+1) q (by rw [hC2s];omega) (by omega)
   rw [Nat.zero_add,show i+q+1=i+1+q by omega,e]
   exact hoat q hj
  ·rcases List.mem_append.1 hz with hz | hz
   ·exact r.ok z (List.mem_of_mem_take hz)
   ·rcases List.mem_cons.1 hz with rfl | hz
    ·exact hy
    ·exact r.ok z (List.mem_of_mem_drop hz)
 have hyl:(xs.take i++y::xs.drop i).length=xs.length+1:=by simp;omega
 clear hbut2 hbut3 hbk hbk2 hv hv1 h1c h hC hold k1 k2 k3 u1 u2 u3 hR0 hRs hC2s hG hkk hik r hpat hpl hoat hdl hy
 have hz2:¬((i:Int)=(xs.length:Int)):=by omega
 have hz3:(c:Int)<(xs.length:Int)+1:=by omega
 have hw1:IntKind.i64.wrap ((i:Int)+1)=(i:Int)+1:=by rw [IntKind.wrap_i64];omega
 have hb1:(0:Int)≤(i:Int)+1:=by omega
 have htn:((i:Int)+1).toNat=i+1:=by omega
 have hb3:(i:Int)≤(xs.length:Int):=by omega
 have hci:¬(c=i):=by omega
 have hGi:¬(G=i):=by omega
 have hGim:¬(G=i+1):=by omega
 unfold maxLen at hcmx
 have mixed:Tryz.prog.follows .mixedOrders=true:=by kernel_rfl
 go_enter Tryz.func145,Tryz.ntmps145
 go_wp2_with (first
  | (at_builtin;refine Lib.wpList_append_run _ rfl _ _ _ _ rfl _ _ rfl rfl _ _ (hrz _) ?_)
  | (at_builtin;refine wpList_copy_runI _ rfl _ _ 53 53 rfl _ _ rfl rfl (hcpA _ _) ?_))
 go_region_law_o (refine step_copy_runI rfl _ _ 53 53 rfl _ _ (by simp [Act.eval,Act.put]) (by simp [Act.eval,Act.put]) (hcpB _ _ _) ?_)
 go_wp2_with fail
 go_ret
 exact RowC.make _ hyl hfin.out
theorem c_InsertI0 (hx:xs.length≤1000000) (hp:0<xs.length) (h:SO shI w lo w.heap.size A c xs bl) (hv:Bk w vb 2 #[.int .i64 y]) (hy:I64 y) (hvb:vb∉bl) (hlo:lo≤w.heap.size) :
 Calls Tryz.prog 145 #[.slice A xs.length c,.int .i64 0,.slice (some ⟨vb,0,none⟩) 1 1] w (RowC shI w lo (y::xs) bl):=by
 rcases Nat.lt_or_ge c (xs.length+1) with hc | hc
 ·exact c_InsertI_grow (i:=0) hx hp hc h hv hy hlo
 ·exact c_InsertI_shift (i:=0) hx hp hc h hv hy hvb
end
end Go.Proofs.YtojmcmghmnfjeaaGreatDoor
namespace Go.Proofs.YtojmcmghmnfjeaaGreatDoor
open Go Go.RowKit Go.Sort
set_option linter.unusedVariables false
set_option linter.unusedSimpArgs false
theorem SO.del1 {α:Type} {s:Sh α} {v:α→Value} {ok:α→Prop} (h1:One1 s v ok) {w:World} {lo g off c:Nat} {xs:List α} {bl:List Nat} (h:SO s w lo w.heap.size (some ⟨g,off,none⟩) c xs bl) {k:Nat} (hk:k<xs.length) {Lv:List Value} (hlen:Lv.length=xs.length) (hL:∀i (h:i<(remAt xs k).length),Lv[i]?=some (v (remAt xs k)[i])) (q:Nat) :
 SO s (setCells (w.drewN q) g off Lv) lo (setCells (w.drewN q) g off Lv).heap.size (some ⟨g,off,none⟩) c (remAt xs k) bl∧bl.Nodup∧(∀y∈bl,y∈bl∨w.heap.size≤y)∧Only bl w (setCells (w.drewN q) g off Lv):=by
 obtain ⟨rfl,r⟩:=h.at1 h1 (by omega)
 obtain ⟨C,tid,hb,hcap,hx⟩:=r.blk
 have hl:=r.len
 have hrl:=remAt_len xs hk
 have bt:=But.sets (g:=g) Lv (w.drewN q) off
 have hz:(setCells (w.drewN q) g off Lv).heap.size=w.heap.size:=bt.size
 refine ⟨Row1.so h1 ⟨r.lo,by rw [hz];exact r.hi,⟨_,tid,(hb.drewN q).sets Lv off,by rw [putCells_size];exact hcap,fun i hi=>?_⟩,by omega,r.cap,fun x hx=>r.ok x (remAt_mem hx)⟩,by simp,fun y hy=>.inl hy,(Only.refl _ w).but (show But g w _ from ⟨bt.os,bt.tape,bt.output,bt.size,bt.block⟩) (by simp)⟩
 rw [putCells_at Lv C off i (by omega) (by omega)]
 exact hL i hi
theorem row_holds {α β:Type} [Inhabited β] {v:α→Value} {ok:α→Prop} {w:World} {lo hi g off c:Nat} {xs:List α} (r:Row1 v ok w lo hi g off c xs) (enc:β→Value) (f:α→β) (hf:∀x,enc (f x)=v x):Holds enc w g off (xs.map f).toArray:=fun j hj=>by
 have hj':j<xs.length:=by simpa using hj
 obtain ⟨h1,h2⟩:=r.cell hj'
 refine ⟨?_,h2⟩
 rw [h1,getElem!_pos _ j hj]
 simp [hf]
theorem c_DeleteI {A:Option Addr} {lo c k:Nat} {xs:List Int} {bl:List Nat} {w:World} (hk:k<xs.length) (h:SO shI w lo w.heap.size A c xs bl) :
 Calls Tryz.prog 118 #[.slice A xs.length c,.int .i64 (k:Int),.int .i64 ((k:Int)+1)] w (RowC shI w lo (remAt xs k) bl):=by
 obtain ⟨g,off,rfl,_,r⟩:=h.addr1 one1_I (by omega)
 have hc:=r.cap
 unfold maxLen at hc
 have hH:=row_holds r (Value.int .i64) id (fun _=>rfl)
 rw [List.map_id] at hH
 have hcon:=Tryz.slices_Delete_int g off c k (k+1) xs w hH r.len hc (Nat.le_succ _) hk
 refine Calls.mono (show Calls _ _ #[.slice (some ⟨g,off,none⟩) xs.length c,.int .i64 (k:Int),.int .i64 ((k:Int)+1)] w _ from hcon) ?_
 rintro e w' ⟨rfl,q,rfl⟩
 have hl:=r.len
 rw [Lib.putRow_eq_setCells (Value.int .i64) w g off xs.toArray _ q hH (by simp;omega),setCells_wld]
 refine RowC.make bl (by rw [remAt_len _ hk];omega) (h.del1 one1_I hk (by simp;omega) (fun i hi=>?_) q)
 rw [List.getElem?_map,List.getElem?_append_left (by exact hi)]
 show Option.map _ (remAt xs k)[i]?=_
 rw [List.getElem?_eq_getElem hi]
 rfl
theorem encStr_of (b:ByteArray):encStr b.data.toList=.string b:=by simp [encStr]
theorem c_DeleteS {A:Option Addr} {lo c k:Nat} {xs:List ByteArray} {bl:List Nat} {w:World} (hk:k<xs.length) (h:SO shS w lo w.heap.size A c xs bl) :
 Calls Tryz.prog 84 #[.slice A xs.length c,.int .i64 (k:Int),.int .i64 ((k:Int)+1)] w (RowC shS w lo (remAt xs k) bl):=by
 obtain ⟨g,off,rfl,_,r⟩:=h.addr1 one1_S (by omega)
 have hc:=r.cap
 unfold maxLen at hc
 have hH:=row_holds r encStr (fun b:ByteArray=>b.data.toList) encStr_of
 have hl:=r.len
 have hcon:=Tryz.slices_Delete_string g off c k (k+1) (xs.map (fun b:ByteArray=>b.data.toList)) w hH (by rw [List.length_map];exact hl) hc (Nat.le_succ _) (by rw [List.length_map];exact hk)
 rw [List.length_map] at hcon
 refine Calls.mono (show Calls _ _ #[.slice (some ⟨g,off,none⟩) xs.length c,.int .i64 (k:Int),.int .i64 ((k:Int)+1)] w _ from hcon) ?_
 rintro e w' ⟨rfl,q,rfl⟩
 rw [Lib.putRow_eq_setCells encStr w g off _ _ q hH (by simp;omega),setCells_wld]
 refine RowC.make bl (by rw [remAt_len _ hk];omega) (h.del1 one1_S hk (by simp;omega) (fun i hi=>?_) q)
 rw [←List.map_take,←List.map_drop,←List.map_append,List.getElem?_map,List.getElem?_append_left (by rw [List.length_map];exact hi),List.getElem?_map]
 show Option.map _ (Option.map _ (remAt xs k)[i]?)=_
 rw [List.getElem?_eq_getElem hi]
 exact congrArg some (encStr_of _)
end Go.Proofs.YtojmcmghmnfjeaaGreatDoor
