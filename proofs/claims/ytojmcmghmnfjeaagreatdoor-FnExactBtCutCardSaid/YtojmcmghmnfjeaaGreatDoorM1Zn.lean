/-
 Parts of the proof.
-/
import Derived.Test.YtojmcmghmnfjeaaGreatDoorM1Zpg
import Derived.Maps.RangeWalk
set_option maxHeartbeats 16000000
set_option maxRecDepth 100000
namespace Go.Proofs.YtojmcmghmnfjeaaGreatDoor
open Go.RowKit Go.Maps Go.ChangeMaps Go.MapKept
set_option linter.unusedVariables false
set_option linter.unusedSimpArgs false
theorem rp_invT {v:Value} {y:DataW Unit×List MemPlace} (h:RP v=some y):∃c,v=ptrOf c:=by
 unfold RP at h
 split at h
 ·rename_i a
  split at h
  ·rename_i ha
   exact ⟨some a.block,by rw [ha];rfl⟩
  ·cases h
 ·exact ⟨none,rfl⟩
 ·cases h
theorem wf_i64T {i:Int} (h:(Lit.int .i64 i).wf=true):I64 i:=by
 simp only [Lit.wf,Bool.and_eq_true,decide_eq_true_eq] at h
 exact ⟨h.1,h.2⟩
theorem pm_gotT {D:DataW Unit} {F:Int→Option Nat} (hD:∀i:Int,I64 i→has D (.int .i64 i)=(F i).isSome∧∀g,F i=some g→∀z,D.atKey (.int .i64 i) z=.lit (.int .i64 g)) {x:Int} (hi:I64 x) {c:Option Nat} {y:DataW Unit×List MemPlace} (hv:RP (ptrOf c)=some y) (hat:∀zd,D.atKey (.int .i64 x) zd=y.1) :
 ∃g,F x=some g∧c=some g:=by
 obtain ⟨h1,h2⟩:=hD x hi
 cases q:F x with
 | none =>
  rw [q] at h1
  have a:=hat (.lit (.bool true))
  have b:=hat (.lit (.bool false))
  rw [atKey_of_not_has h1] at a b
  rw [←a] at b
  simp at b
 | some g =>
  refine ⟨g,rfl,?_⟩
  have a:=(h2 g q (.lit (.bool true))).symm.trans (hat _)
  have e:=rp_some (v:=ptrOf c) (g:=g) (ps:=y.2) (by rw [hv,a])
  cases c with
  | none=>simp [ptrOf] at e
  | some c=>simp only [ptrOf,Value.pointer.injEq,Option.some.injEq,Addr.mk.injEq,and_true] at e;rw [e]
def strikeT (left:Lit→Bool) (x:Int):Lit→Bool:=fun z=>left z&&!z.sameKey (.int .i64 x)
theorem strikeT_int (left:Lit→Bool) (x y:Int):strikeT left x (.int .i64 y)=(left (.int .i64 y)&&!decide (y=x)):=by
 by_cases h:y=x <;> simp [strikeT,Lit.sameKey,h]
def CollS (m:PgM) (left:Lit→Bool) (O:List TSlot):Prop:=(O.map (·.1)).Nodup∧∀s:TSlot,s∈O↔(m s.1=some s.2∧left (.int .i64 s.1)=false)
section
variable {m:PgM} {left:Lit→Bool} {O:List TSlot}
theorem collS_start (hf:AllFine m) {D:DataW Unit} (h:∀x,I64 x→has D (.int .i64 x)=(m x).isSome):CollS m (has D) []:=⟨List.nodup_nil,fun s=>by
 constructor
 ·intro hx;simp at hx
 ·rintro ⟨h1,h2⟩
  have:=(hf _ _ h1).1
  rw [h s.1 ⟨by omega,by omega⟩,h1] at h2
  cases h2⟩
theorem collS_add (h:CollS m left O) {x:Int} {p:TPage} (hl:left (.int .i64 x)=true) (hp:m x=some p):CollS m (strikeT left x) (O++[(x,p)]):=by
 have hx:x∉O.map (·.1):=fun hm=>by
  obtain ⟨s,hs,e⟩:=List.mem_map.1 hm
  have:=((h.2 s).1 hs).2
  rw [e,hl] at this
  cases this
 refine ⟨?_,fun s=>?_⟩
 ·rw [List.map_append,List.nodup_append]
  exact ⟨h.1,by simp,fun a ha b hb=>by simp at hb;subst hb;exact fun e=>hx (e▸ha)⟩
 ·rw [List.mem_append,h.2 s,strikeT_int,List.mem_singleton]
  constructor
  ·rintro (⟨h1,h2⟩ | rfl)
   ·exact ⟨h1,by rw [h2];rfl⟩
   ·exact ⟨hp,by simp⟩
  ·rintro ⟨h1,h2⟩
   by_cases e:s.1=x
   ·refine .inr ?_
    rw [e,hp] at h1
    injection h1 with h1
    rw [←e,h1]
   ·simp [e] at h2
    exact .inl ⟨h1,h2⟩
theorem collS_len (hf:AllFine m) (h:CollS m left O):O.length≤64:=by
 have h2:O.map (·.1)⊆(List.range 64).map (fun (i:Nat)=>(i:Int)+1):=fun i hi=>by
  obtain ⟨s,hs,rfl⟩:=List.mem_map.1 hi
  have:=(hf _ _ ((h.2 s).1 hs).1).1
  exact List.mem_map.2 ⟨(s.1-1).toNat,List.mem_range.2 (by omega),by omega⟩
 have h3:=nodup_le h.1 h2
 simpa using h3
theorem collS_end (hf:AllFine m) (h:CollS m left O) (hl:∀kl,left kl=false) {d:List TSlot} (hp:d.Perm O) (hs:d.Pairwise (fun a b=>a.1≤b.1)):d=slotsM m:=by
 have hm:∀s:TSlot,s∈d↔m s.1=some s.2:=fun s=>by rw [hp.mem_iff,h.2 s,hl];simp
 have hn:(d.map (·.1)).Nodup:=(hp.map _).nodup_iff.2 h.1
 have hids:IdsP d:=by
  refine ⟨List.pairwise_iff_getElem.2 fun i j hi hj hij=>?_,fun s hs=>(hf _ _ ((hm s).1 hs)).1⟩
  have h1:=List.pairwise_iff_getElem.1 hs i j hi hj hij
  have h2:=List.pairwise_iff_getElem.1 hn i j (by simpa using hi) (by simpa using hj) hij
  simp only [List.getElem_map] at h2
  omega
 refine ids_slotsM hids hf ?_
 funext j
 apply Option.ext
 intro q
 rw [atL_mem hids,hm]
end
theorem cinfo_SlotT:(Tryz.prog.info? 60).map (fun i=>(i.zero,i.size,i.bytes))=some (some (.agg #[.int .i64 0,.bool false,.slice none 0 0,.slice none 0 0,.slice none 0 0]),5,88):=by kernel_rfl
theorem ranges_sameT {P:Program} {k:TypeId} {R:Value→Option (DataW Unit×List MemPlace)} {w w':World} {b r n:Nat} {D:DataW Unit} {left:Lit→Bool} {cnt:Nat} (h:w.ranges P k R b r n D left cnt) (h1:w'.heap[b]?=w.heap[b]?) (h2:w'.heap[r]?=w.heap[r]?):w'.ranges P k R b r n D left cnt:=by
 obtain ⟨es,clock,since,seen,c0,hb,F,hs,hD,hr,rest⟩:=h
 exact ⟨es,clock,since,seen,c0,h1.trans hb,F,hs,hD,h2.trans hr,rest⟩
structure LT (w:World) (pb n:Nat) (D:DataW Unit) (root:Int) (left:Lit→Bool) (cnt:Nat) (O:List TSlot) (A:Option Addr) (d:Nat) (bl:List Nat) (wr:World):Prop where
 rg:wr.ranges Tryz.prog 2 RP pb (w.heap.size+2) n D left cnt
 b2:Bk wr w.heap.size 28 #[.int .i64 0,.slice none 0 0]
 b3:Bk wr (w.heap.size+1) 28 #[.int .i64 root,.slice A O.length d]
 so:SO shSlot wr (w.heap.size+3) wr.heap.size A d O bl
 nd:bl.Nodup
 up:Up w wr
 hi:w.heap.size+3≤wr.heap.size
section
variable {w wr w':World} {pb n:Nat} {D:DataW Unit} {root:Int} {left:Lit→Bool} {cnt:Nat} {O:List TSlot} {A:Option Addr} {d:Nat} {bl:List Nat}
theorem LT.ups (h:LT w pb n D root left cnt O A d bl wr) (u:Up wr w'):LT w pb n D root left cnt O A d bl w' :=
 ⟨ranges_sameT h.rg (u.block _ h.rg.owns.lt) (u.block _ h.rg.lt),h.b2.up u,h.b3.up u,h.so.up good_Slot u,h.nd,h.up.trans u,Nat.le_trans h.hi u.size⟩
theorem LT.next {left':Lit→Bool} {cnt':Nat} (h:LT w pb n D root left cnt O A d bl wr) (hrg:w'.ranges Tryz.prog 2 RP pb (w.heap.size+2) n D left' cnt') (hg:wr.grownBy w' (some (w.heap.size+2))):LT w pb n D root left' cnt' O A d bl w':=by
 have hne:∀i,i≠w.heap.size+2→some i≠some (w.heap.size+2):=fun i hi e=>hi (Option.some.inj e)
 refine ⟨hrg,(hg.block _ h.b2.lt (hne _ (by omega))).trans h.b2,(hg.block _ h.b3.lt (hne _ (by omega))).trans h.b3,?_,h.nd,⟨hg.os.trans h.up.os,hg.tape.trans h.up.tape,hg.output.trans h.up.output,Nat.le_trans h.up.size hg.size,fun i hi=>?_⟩,Nat.le_trans h.hi hg.size⟩
 ·exact (h.so.keep good_Slot (fun y hy=>hg.block y (h.so.in_ good_Slot y hy).2 (hne _ (by have:=(h.so.in_ good_Slot y hy).1;omega)))).wide good_Slot (Nat.le_refl _) hg.size
 ·exact (hg.block i (by have:=h.up.size;omega) (hne _ (by omega))).trans (h.up.block i hi)
theorem LT.app {W w2:World} {O':List TSlot} {A':Option Addr} {d':Nat} {bl':List Nat} (hpb:pb<w.heap.size) (h:LT w pb n D root left cnt O A d bl wr) (u:Up wr W) (so:SO shSlot w2 (w.heap.size+3) w2.heap.size A' d' O' bl') (nd:bl'.Nodup) (on:Only bl W w2):LT w pb n D root left cnt O' A' d' bl' (w2.setCell ⟨w.heap.size+1,1,none⟩ (.slice A' O'.length d')):=by
 have hin:=h.so.in_ good_Slot
 have h1:=(h.ups u)
 have f:∀i,i<w.heap.size+3→i∉bl:=fun i hi hm=>by have:=(hin i hm).1;omega
 have bt:=But.set w2 (w.heap.size+1) 1 (.slice A' O'.length d')
 refine ⟨ranges_sameT h1.rg ((bt.block _ (by omega)).trans (on.block _ h1.rg.owns.lt (f _ (by omega)))) ((bt.block _ (by omega)).trans (on.block _ h1.rg.lt (f _ (by omega)))),(h1.b2.only on (f _ (by omega))).far (by dsimp only;omega) _,?_,so.set good_Slot (w.heap.size+1) 1 [.slice A' O'.length d'] (by omega),nd,?_,?_⟩
 ·simpa using (h1.b3.only on (f _ (by omega))).set 1 (.slice A' O'.length d')
 ·exact (Up.only h1.up on fun y hy=>by have:=(hin y hy).1;omega).but bt (by omega)
 ·rw [bt.size];exact Nat.le_trans h1.hi on.size
end
theorem c_tree {w:World} {lo tb pb:Nat} {root:Int} {m:PgM} {f:Int→Nat} {B:Int→List Nat} (PO:PagesO w lo tb pb root m f B) (hf:AllFine m) (hne:∃i q,m i=some q) (hr:I64 root) :
 Calls Tryz.prog 22 #[.pointer (some ⟨tb,0,none⟩)] w (ToV shBtree (root,slotsM m) w):=by
 obtain ⟨i0,hi0,hz0,hz1,hz2⟩:=info_parts cinfo_SlotT
 obtain ⟨n,hpm⟩:=PO.map
 obtain ⟨D,hown,hfit⟩:=hpm
 have hpb:pb<w.heap.size:=hown.lt
 have HFT:=Hd hfit
 have HFN:=Hd hf
 have HNE:=Hd hne
 have HCS:=Hd (collS_start hf (D:=D) fun x hx=>by rw [(hfit x hx).1];show (Option.map (fun _=>f x) (m x)).isSome=(m x).isSome;cases m x <;> rfl)
 have POH:=Hd PO
 have gt0:w.cell? ⟨tb,0,none⟩=some (.int .i64 root):=PO.tab.cell 0
 have gt1:w.cell? ⟨tb,1,none⟩=some (.map (some pb)):=PO.tab.cell 1
 have htb:tb<w.heap.size:=PO.tab.lt
 have ktb:=PO.tab
 clear hfit hf hne PO
 have kr0:Bk ((w.alloc (.cells #[.int .i64 0,.slice none 0 0] 28)).alloc (.cells #[.int .i64 root,.slice none 0 0] 28)) w.heap.size 28 #[.int .i64 0,.slice none 0 0]:=(Bk.new _ _ _).alloc _
 have ko0:Bk ((w.alloc (.cells #[.int .i64 0,.slice none 0 0] 28)).alloc (.cells #[.int .i64 root,.slice none 0 0] 28)) (w.heap.size+1) 28 #[.int .i64 root,.slice none 0 0]:=by
  simpa using Bk.new (w.alloc (.cells #[.int .i64 0,.slice none 0 0] 28)) 28 #[.int .i64 root,.slice none 0 0]
 have uu0:Up w ((w.alloc (.cells #[.int .i64 0,.slice none 0 0] 28)).alloc (.cells #[.int .i64 root,.slice none 0 0] 28)):=((Up.refl _).alloc _).alloc _
 have hs0:((w.alloc (.cells #[.int .i64 0,.slice none 0 0] 28)).alloc (.cells #[.int .i64 root,.slice none 0 0] 28)).heap.size=w.heap.size+2:=by simp
 have gw1:(w.alloc (.cells #[.int .i64 0,.slice none 0 0] 28)).cell? ⟨tb,0,none⟩=some (.int .i64 root):=(ktb.alloc _).cell 0
 have gw2:=(ktb.up uu0).cell 1
 have own0:((w.alloc (.cells #[.int .i64 0,.slice none 0 0] 28)).alloc (.cells #[.int .i64 root,.slice none 0 0] 28)).ownsMap Tryz.prog 2 RP pb n D:=by
  obtain ⟨es,clock,hb,F,hs,hD⟩:=hown
  exact ⟨es,clock,(uu0.block pb hpb).trans hb,F,hs,hD⟩
 clear ktb gt0 gt1 hown
 go_enter Tryz.func22,Tryz.ntmps22
 go_wp2_with (first
  | (at_range;refine wpList_range_own _ rfl _ 87 rfl 2 90 (int_keyed Tryz.underlying2) Tryz.underlying87 RP pb n D rfl own0 ?_;intro w0 hrg0 hg0 hsz0)
  | go_in)
 try go_frame
 rw [hs0] at hrg0 hsz0
 go_loopw [] (fun wr=>∃(left:Lit→Bool) (cnt:Nat) (O:List TSlot) (A:Option Addr) (d:Nat) (bl:List Nat),Hid (LT w pb n D root left cnt O A d bl wr)∧Hid (CollS m left O)) (fun wr=>wr.rangeLeft pb (w.heap.size+2))
 case atStart =>
  have u0:Up ((w.alloc (.cells #[.int .i64 0,.slice none 0 0] 28)).alloc (.cells #[.int .i64 root,.slice none 0 0] 28)) w0:=⟨hg0.os,hg0.tape,hg0.output,hg0.size,fun i hi=>hg0.block i hi (by simp)⟩
  exact ⟨_,_,[],none,0,[],Hd ⟨hrg0,kr0.up u0,ko0.up u0,SO.nil _ _ _,List.nodup_nil,uu0.trans u0,by omega⟩,HCS⟩
 case round =>
  clear hrg0 hg0 hsz0 kr0 ko0 uu0 hs0 gw1 gw2 own0 HCS
  obtain ⟨left,cnt,O,A,d,bl,R,HCo⟩:=hrel
  have hrg:=R.out.rg
  have hO:=collS_len HFN.out HCo.out
  go_wp2_with (first
   | (at_next;refine wpList_next_ranges _ rfl _ rfl 2 (int_keyed Tryz.underlying2) RP (Value.int .i64) ptrOf (fun key kl hk=>by obtain ⟨x,hx,_⟩:=Maps.keyOf_int_inv Tryz.underlying2 hk;exact ⟨x,hx⟩) (fun v y hv=>rp_invT hv) pb (w.heap.size+2) n _ _ _ rfl hrg ?_ ?_)
   | go_in)
  ·intro hc0 hl0
   have hpos:0<O.length:=by
    obtain ⟨i,q,hq⟩:=HNE.out
    have:=((HCo.out).2 (i,q)).2 ⟨hq,hl0 _⟩
    exact List.length_pos_of_mem this
   have gO:wr.cell? ⟨w.heap.size+1,1,none⟩=some (.slice A O.length d):=R.out.b3.cell 1
   have hin:=R.out.so.in_ good_Slot
   have hfar:∀i,i<w.heap.size+3→i∉bl:=fun i hi hm=>by have:=(hin i hm).1;omega
   have CS:=Hd (c_SortSlot O A d (w.heap.size+3) bl wr R.out.so R.out.nd hpos (by omega))
   have HL0:=Hd hl0
   have HFAR:=Hd hfar
   have HIN:=Hd hin
   clear hrg hc0 hl0 hfar hin
   go_upto_region 7 with (go_at_call 49;(with_reducible refine CS.out.mono ?_);rintro e w6 ⟨rfl,ds,bl6,hperm,hsrt,so6,nd6,hm6,on6⟩)
   have hds:=collS_end HFN.out HCo.out HL0.out hperm hsrt
   have hdl:O.length=(slotsM m).length:=by rw [←hds,hperm.length_eq]
   subst hds
   have k2:=R.out.b2.only on6 (HFAR.out _ (by omega))
   have k3:=R.out.b3.only on6 (HFAR.out _ (by omega))
   rw [hdl] at k3
   have hu6:Up w w6:=Up.only R.out.up on6 fun y hy=>by have:=(HIN.out y hy).1;omega
   clear gO CS hperm hsrt hdl
   have gA:=k3.cell 0
   have gB:=k3.cell 1
   have gC:=k2.cell 0
   have gD:=k2.cell 1
   have fC:=k2.frozen 0
   have fD:=k2.frozen 1
   go_wp2_with fail
   have hz:=(so6.set good_Slot w.heap.size 0 [.int .i64 root,.slice A (slotsM m).length d] (by omega)).wide good_Slot (lo':=w.heap.size) (by omega) (Nat.le_refl _)
   have kz:Bk ((w6.setCell ⟨w.heap.size,0,none⟩ (.int .i64 root)).setCell ⟨w.heap.size,1,none⟩ (.slice A (slotsM m).length d)) w.heap.size 28 #[.int .i64 root,.slice A (slotsM m).length d]:=by
    simpa using (k2.set 0 (.int .i64 root)).set 1 (.slice A (slotsM m).length d)
   refine bodyPost_ret (results_bk kz _ _ Tryz.results22 rfl Tryz.underlying28 rfl (by kernel_rfl)) rfl ?_
   exact ⟨[.int .i64 root,.slice A (slotsM m).length d],bl6,rfl,asmBtree hr hz,nd6,hu6.sets (g:=w.heap.size) (Nat.le_refl _) 0 [.int .i64 root,.slice A (slotsM m).length d]⟩
  ·intro x c kl yd yp w3 cnt1 hkey hlk hv hat hrg1 hlt hg1 hs1 hen
   obtain ⟨x',ex,rfl,hwx⟩:=Maps.keyOf_int_inv Tryz.underlying2 hkey
   cases ex
   have hix:I64 x:=wf_i64T hwx
   obtain ⟨g,hgx,rfl⟩:=pm_gotT HFT.out hix hv hat
   obtain ⟨p,hp⟩:∃p,m x=some p:=by
    cases e:m x with
    | none=>rw [e] at hgx;cases hgx
    | some p=>exact ⟨p,rfl⟩
   obtain rfl:f x=g:=by rw [hp] at hgx;exact Option.some.inj hgx
   have R1:=R.out.next hrg1 hg1
   have HC2:=Hd (collS_add HCo.out hlk hp)
   have PO1:=POH.out.up R1.up
   obtain ⟨A1,c1,a1,A2,c2,a2,A3,c3,a3,px,_⟩:=PO1.pg x p hp
   have hsz:=fine_sz ((HFN.out _ _ hp).2)
   have gp0:w3.cell? ⟨f x,0,none⟩=some (.bool p.1):=px.box.cell 0
   have gp1:w3.cell? ⟨f x,1,none⟩=some (.slice A1 p.2.1.length c1):=px.box.cell 1
   have gp2:w3.cell? ⟨f x,2,none⟩=some (.slice A2 p.2.2.1.length c2):=px.box.cell 2
   have gp3:w3.cell? ⟨f x,3,none⟩=some (.slice A3 p.2.2.2.length c3):=px.box.cell 3
   have av:∀W,Up w3 W→AV shPage W (.agg #[.bool p.1,.slice A1 p.2.1.length c1,.slice A2 p.2.2.1.length c2,.slice A3 p.2.2.2.length c3]) p:=fun W u=>(px.up u).av rfl
   have gO:w3.cell? ⟨w.heap.size+1,1,none⟩=some (.slice A O.length d):=R1.b3.cell 1
   have fO:=R1.b3.frozen 1
   have hx1:(O.length+1)*i0.bytes≤140737488355328:=by rw [hz2];omega
   have hx2:O.length+1≤maxLen:=by unfold maxLen;omega
   have hnd:∀be:List Nat,be.Nodup→(∀y∈be,w3.heap.size≤y)→(bl++[be].flatten).Nodup:=fun be h1 h2=>by
    simpa using nodup_two (m:=w3.heap.size) R1.nd h1 (fun y hy=>(R1.so.in_ good_Slot y hy).2) h2
   have uq:Up w3 w3.drew:=(Up.refl w3).drew
   have ko:=R1.b3
   have hgo:w.heap.size+1∉bl:=fun hm=>by have:=(R1.so.in_ good_Slot _ hm).1;omega
   have R1H:=Hd R1
   have AVH:=Hd av
   obtain ⟨q1,q2,q3,q4⟩:=p
   dsimp only at gp0 gp1 gp2 gp3 hsz
   simp only [ptrOf] at hen ⊢
   clear hkey hlk hv hat hgx hp PO1 px hg1 hs1 R1 av R HCo
   go_wp2_with fail
   go_region_law
    (first
     | (go_simp
        go_at_call 45
        (with_reducible refine (c_copyPage _ (q1,q2,q3,q4) _ (AVH.out _ uq) hsz).mono ?_)
        rintro e w1 ⟨csn,bln,rfl,on,ndn,un⟩
        obtain ⟨E2,e2,_,E3,e3,_,E4,e4,_,rfl,_,_,_,_⟩:=openOPage on
        have ko1:=ko.drew.up un
        have gO1:=ko1.cell 1
        have gO1b:=(ko1.alloc (.cells #[.int .i64 x,.bool q1,.slice E2 q2.length e2,.slice E3 q3.length e3,.slice E4 q4.length e4] 60)).cell 1
        have nb:=hnd _ ndn (fun y hy=>(good_Page.own_in on y hy).1)
        have ro:∀W,Up w1 W→Rowed shSlot W (w.heap.size+3) W.heap.size [.int .i64 x,.bool q1,.slice E2 q2.length e2,.slice E3 q3.length e3,.slice E4 q4.length e4] [(x,q1,q2,q3,q4)] [bln]:=fun W hW=>Rowed.one good_Slot (asmSlot hix (good_Page.own_wide (own_up good_Page on hW) R1H.out.hi (Nat.le_refl _)))
        have s1:∀W,Up w1 W→SO shSlot W (w.heap.size+3) W.heap.size A d O bl:=fun W hW=>R1H.out.so.up good_Slot ((uq.trans un).trans hW)
        have hs1:∀W,Up w1 W→w.heap.size+3≤W.heap.size:=fun W hW=>Nat.le_trans R1H.out.hi ((uq.trans un).trans hW).size)
     | (refine step_app good_Slot rfl _ _ _ _ 60 rfl i0 _ Tryz.underlying26 hi0 hz0 hz1 (by rfl) (lo:=w.heap.size+3) (xs:=O) (ys:=[(x,q1,q2,q3,q4)]) (bl:=bl) (bs:=[bln]) (news:=[.int .i64 x,.bool q1,.slice E2 q2.length e2,.slice E3 q3.length e3,.slice E4 q4.length e4]) rfl rfl (s1 _ ((Up.refl w1).alloc _)) nb (Src.box (t:=60) (cs:=[.int .i64 x,.bool q1,.slice E2 q2.length e2,.slice E3 q3.length e3,.slice E4 q4.length e4]) Tryz.underlying26 (Bk.new w1 60 #[.int .i64 x,.bool q1,.slice E2 q2.length e2,.slice E3 q3.length e3,.slice E4 q4.length e4]) (by simp [Value.oneCell']) (by rw [hz1];rfl)) (ro _ ((Up.refl w1).alloc _)) (hs1 _ ((Up.refl w1).alloc _)) hx1 hx2 ?_
        intro D' d' bl' w2 hap
        obtain ⟨so2,nd2,mem2,on2⟩:=hap
        have ko2:=(ko1.alloc (.cells #[.int .i64 x,.bool q1,.slice E2 q2.length e2,.slice E3 q3.length e3,.slice E4 q4.length e4] 60)).only on2 hgo
        have gO2:=ko2.cell 1
        have fO2:=ko2.frozen 1))
   all_goals
    go_wp2_with fail
    have RN:=Hd (R1H.out.app hpb (uq.trans (un.alloc (.cells #[.int .i64 x,.bool q1,.slice E2 q2.length e2,.slice E3 q3.length e3,.slice E4 q4.length e4] 60))) so2 nd2 on2)
    rw [show (O++[(x,q1,q2,q3,q4)]).length=O.length+1 by simp] at RN
    go_roundw
    case rel=>exact ⟨strikeT left x,cnt1,O++[(x,q1,q2,q3,q4)],D',d',bl',RN,HC2⟩
    case measure =>
     rw [RN.out.rg.left_eq,hrg.left_eq]
     exact hlt
end Go.Proofs.YtojmcmghmnfjeaaGreatDoor
