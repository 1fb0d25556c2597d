/-
 Parts of the proof.
-/
import Derived.Shelf.GgSortFunc.InsertionK
import Derived.Test.YtojmcmghmnfjeaaGreatDoorShelfR
import Derived.Shelf.SlSortCmp.WholeK
import Derived.Test.YtojmcmghmnfjeaaGreatDoorM1Zbg
set_option maxHeartbeats 8000000
set_option maxRecDepth 100000
namespace Go.Proofs.YtojmcmghmnfjeaaGreatDoor
open Go.RowKit Go.Shelf Go.Lib Go.Sort
set_option linter.unusedVariables false
set_option linter.unusedSimpArgs false
abbrev ESlot:Type:=TSlot×(Option Addr×Nat)×(Option Addr×Nat)×(Option Addr×Nat)×List Nat
def ESlot.bl (e:ESlot):List Nat:=e.2.2.2.2
def encE (e:ESlot):List Value:=[.int .i64 e.1.1,.bool e.1.2.1,.slice e.2.1.1 e.1.2.2.1.length e.2.1.2,.slice e.2.2.1.1 e.1.2.2.2.1.length e.2.2.1.2,.slice e.2.2.2.1.1 e.1.2.2.2.2.length e.2.2.2.1.2]
theorem encE_len (e:ESlot):(encE e).length=5:=rfl
theorem encE_one (e:ESlot):∀v∈encE e,v.oneCell'=true:=by
 intro v hv
 simp [encE] at hv
 rcases hv with rfl | rfl | rfl | rfl | rfl <;> rfl
theorem slot_E {w:World} {lo hi:Nat} {cs:List Value} {x:TSlot} {b:List Nat} (h:shSlot.own w lo hi cs x b):∃e:ESlot,e.1=x∧encE e=cs∧e.bl=b:=by
 obtain ⟨A2,c2,bl2,A3,c3,bl3,A4,c4,bl4,rfl,rfl,_,_,_,_⟩:=openOSlot h
 exact ⟨(x,(A2,c2),(A3,c3),(A4,c4),bl2++bl3++bl4),rfl,rfl,rfl⟩
theorem rowed_E {w:World} {lo hi:Nat} {olds:List Value} {xs:List TSlot} {bls:List (List Nat)} (h:Rowed shSlot w lo hi olds xs bls) :
 ∃E:List ESlot,E.map (·.1)=xs∧E.map (·.bl)=bls∧(∀e∈E,shSlot.own w lo hi (encE e) e.1 e.bl)∧∀i (hi:i<E.length) j,j<5→olds[i*5+j]?=(encE E[i])[j]?:=by
 have key:∀i:Fin xs.length,∃e:ESlot,e.1=xs[i.1]∧bls[i.1]?=some e.bl∧shSlot.own w lo hi (encE e) e.1 e.bl∧∀j,j<5→olds[i.1*5+j]?=(encE e)[j]?:=fun i=>by
  obtain ⟨cs,b,e1,e2,e3,e4⟩:=h.2.2 i.1 i.2
  obtain ⟨e,h1,rfl,rfl⟩:=slot_E e4
  exact ⟨e,h1,e1,by rw [h1];exact e4,e3⟩
 refine ⟨List.ofFn fun i=>Classical.choose (key i),List.ext_getElem (by simp) fun i h1 h2=>?_,List.ext_getElem (by simp [h.1]) fun i h1 h2=>?_,fun e he=>?_,fun i hi j hj=>?_⟩
 ·simp only [List.getElem_map,List.getElem_ofFn]
  exact (Classical.choose_spec (key ⟨i,h2⟩)).1
 ·simp only [List.getElem_map,List.getElem_ofFn]
  have h3:i<xs.length:=by rw [←h.1];exact h2
  have:=(Classical.choose_spec (key ⟨i,h3⟩)).2.1
  exact Option.some.inj ((this.symm.trans (List.getElem?_eq_getElem h2)))
 ·obtain ⟨i,rfl⟩:=List.mem_ofFn.1 he
  exact (Classical.choose_spec (key i)).2.2.1
 ·have hi':i<xs.length:=by simpa using hi
  rw [List.getElem_ofFn]
  exact (Classical.choose_spec (key ⟨i,hi'⟩)).2.2.2 j hj
theorem flat_at {d:List ESlot} {i j:Nat} (hi:i<d.length) (hj:j<5):(flatK encE 5 d.toArray)[i*5+j]?=(encE d[i])[j]?:=by
 have hlt:i*5+j<d.toArray.size*5:=by simp;omega
 have e:(flatK encE 5 d.toArray)[i*5+j]?=some ((encE d.toArray[(i*5+j) / 5]!)[(i*5+j)%5]!):=by
  rw [←get_flatK encE 5 d.toArray _ hlt]
  rw [getElem!_pos _ _ (by rw [size_flatK];exact hlt),Array.getElem?_eq_getElem]
 have e1:(i*5+j) / 5=i:=by omega
 have e2:(i*5+j)%5=j:=by omega
 rw [e,e1,e2,getElem!_pos _ i (by simpa using hi),getElem!_pos _ j (by rw [encE_len];exact hj),List.getElem?_eq_getElem (by rw [encE_len];exact hj)]
 simp
theorem rowed_of_E {w:World} {lo hi:Nat} {d:List ESlot} (hd:∀e∈d,shSlot.own w lo hi (encE e) e.1 e.bl):Rowed shSlot w lo hi (flatK encE 5 d.toArray).toList (d.map (·.1)) (d.map (·.bl)):=by
 refine ⟨by simp,by simp [shSlot,shPage,shP,shI,shB,shL],fun i hi=>?_⟩
 rw [List.length_map] at hi
 refine ⟨encE d[i],d[i].bl,by simp [hi],rfl,fun j hj=>?_,by simpa using hd _ (List.getElem_mem hi)⟩
 show (flatK encE 5 d.toArray).toList[i*5+j]?=_
 rw [Array.getElem?_toList]
 exact flat_at hi hj
theorem bk_putRowE {w:World} {g off:Nat} {tid:TypeId} {C:Array Value} (h:Bk w g tid C) (d:Array ESlot) (n:Nat) (os:Array Obj):Bk (sortWorldK encE 5 w g off n d os) g tid (Sort.putCells id off (flatK encE 5 d) C):=by
 have hlt:=h.lt
 unfold Bk at h ⊢
 have hw:(Sort.ahead w n).heap[g]?=some (.cells C tid (0,0)):=h
 unfold sortWorldK putRowK grow putRow mapBlock
 rw [Array.getElem?_append_left (by simpa using hlt),Array.getElem?_modify,if_pos rfl,hw]
 rfl
theorem only_putRowE (w:World) (g off:Nat) (d:Array ESlot) (n:Nat) (os:Array Obj):Only [g] w (sortWorldK encE 5 w g off n d os):=by
 refine ⟨rfl,rfl,rfl,by simp [sortWorldK,putRowK,grow,putRow,mapBlock,ahead],fun k hk hn=>?_⟩
 have hkg:¬g=k:=fun e=>hn (by simp [e])
 unfold sortWorldK putRowK grow putRow mapBlock
 rw [Array.getElem?_append_left (by simpa using hk),Array.getElem?_modify,if_neg hkg]
 rfl
theorem so_slots {w:World} {lo:Nat} {c:Nat} {A:Option Addr} {xs:List TSlot} {bl:List Nat} (h:SO shSlot w lo w.heap.size A c xs bl) (nd:bl.Nodup) (hp:0<xs.length) :
 ∃ (E:List ESlot) (g off:Nat),A=some ⟨g,off,none⟩∧E.map (·.1)=xs∧g<w.heap.size∧g∈bl∧HoldsK encE 5 w g off E.toArray∧∀(d:List ESlot),d.Perm E→∀(n:Nat) (os:Array Obj),
  ∃bl',SO shSlot (sortWorldK encE 5 w g off n d.toArray os) lo (sortWorldK encE 5 w g off n d.toArray os).heap.size (some ⟨g,off,none⟩) c (d.map (·.1)) bl'∧bl'.Perm bl∧Only bl w (sortWorldK encE 5 w g off n d.toArray os):=by
 have hl:=h.1
 have hc:=h.2.1
 rcases h.row with ⟨rfl,_⟩ | ⟨g,off,C,tid,bls,olds,hA,h1,h2,hb,hcap,rfl,hr,ho⟩
 ·simp at hp
 obtain ⟨E,e1,e2,e3,e4⟩:=rowed_E hr
 have hEl:E.length=xs.length:=by rw [←e1];simp
 have hol:olds.length=xs.length*5:=hr.2.1
 have hcap':off+c*5≤C.size:=hcap
 refine ⟨E,g,off,hA,e1,hb.lt,List.mem_cons_self ..,fun j hj=>?_,fun d hd n os=>?_⟩
 ·have hj':j<E.length*5:=by simpa using hj
  have hi:j / 5<E.length:=by omega
  have hm:j%5<5:=Nat.mod_lt _ (by decide)
  have ej:j / 5*5+j%5=j:=by omega
  have h3:=e4 (j / 5) hi (j%5) hm
  have h4:=flat_at hi hm
  rw [ej] at h3 h4
  rw [hb.cell,hb.frozen,ho j (by omega),h3,←h4]
  refine ⟨?_,rfl⟩
  rw [Array.getElem?_eq_getElem (by simpa using hj),getElem!_pos _ j (by simpa using hj)]
  rfl
 ·obtain ⟨n1,n2⟩:=List.nodup_cons.1 nd
  have hon:=only_putRowE w g off d.toArray n os
  have hdl:=hd.length_eq
  have hE:∀e∈d,shSlot.own (sortWorldK encE 5 w g off n d.toArray os) lo (sortWorldK encE 5 w g off n d.toArray os).heap.size (encE e) e.1 e.bl:=fun e he=>by
   have he':=hd.mem_iff.1 he
   have ho:=e3 e he'
   refine good_Slot.own_wide (good_Slot.own_keep ho fun b hb'=>hon.block b (good_Slot.own_in ho b hb').2 fun hm=>?_) (Nat.le_refl _) hon.size
   rw [List.mem_singleton.1 hm] at hb'
   refine n1 (List.mem_flatten.2 ⟨e.bl,?_,hb'⟩)
   rw [←e2]
   exact List.mem_map.2 ⟨e,he',rfl⟩
  have hso:=SO.of_row (s:=shSlot) (lo:=lo) (hi:=(sortWorldK encE 5 w g off n d.toArray os).heap.size) h1 (Nat.lt_of_lt_of_le h2 hon.size) (bk_putRowE hb d.toArray n os) (by simpa [Sort.putCells] using hcap) (by rw [List.length_map,hdl,hEl];exact hl) hc (rowed_of_E hE) (fun j hj=>by
   have hj':j<d.length*5:=by simpa using hj
   unfold Sort.putCells
   rw [Array.getElem?_mapIdx,Array.getElem?_eq_getElem (by omega),Option.map_some,if_pos ⟨by omega,by simp;omega⟩,Nat.add_sub_cancel_left,Array.getElem?_toList,getElem!_pos _ j (by simpa using hj'),Array.getElem?_eq_getElem]
   rfl)
  refine ⟨_,hso,List.Perm.cons _ ?_,hon.mono fun y hy=>by rw [List.mem_singleton.1 hy];exact List.mem_cons_self ..⟩
  rw [←e2]
  exact (hd.map _).flatten
def cfE (x y:ESlot):Int:=cmpBy intLt x.1.1 y.1.1
theorem cfE_lt (x y:ESlot):ltOf cfE x y=intLt x.1.1 y.1.1:=by
 unfold ltOf cfE cmpBy
 rcases lo_int.three x.1.1 y.1.1 with ⟨e1,e2,_,_⟩ | ⟨e1,e2,e3,_⟩ | ⟨e1,e2,_,_⟩
 ·simp [e1]
 ·rw [e2,e3];decide
 ·simp [e1,e2]
theorem cfE_swo:SWO (ltOf cfE) where
 irrefl x:=by rw [cfE_lt];exact lo_int.irr _
 trans x y z h1 h2:=by rw [cfE_lt] at *;exact lo_int.tr _ _ _ h1 h2
 ntrans x y z h1 h2:=by
  rw [cfE_lt] at *
  simp only [intLt,decide_eq_false_iff_not] at *
  omega
theorem c_tree1 (x y:ESlot) (W:World):Calls Tryz.prog 50 #[.agg (encE x).toArray,.agg (encE y).toArray] W fun e w'=>e=.returned (.int .i64 (cfE x y))∧∃q os',w'=grow (W.drewN q) os':=by
 have hcon:=fun W'=>c_CompareI x.1.1 y.1.1 W'
 unfold cfE
 generalize cmpBy intLt x.1.1 y.1.1=r at hcon ⊢
 unfold encE
 go_enter Tryz.func50,Tryz.ntmps50
 go_wp2_with (go_at_call 51;refine (hcon _).mono ?_;rintro e w' ⟨rfl,rfl⟩)
 go_ret
 exact ⟨rfl,0,_,by rw [alloc_eq_grow,alloc_eq_grow,grow_grow];rfl⟩
theorem permIn_listE {d d':Array ESlot} (h:PermIn 0 d.size d d'):d'.toList.Perm d.toList:=by
 obtain ⟨h1,_,h3⟩:=h
 have e1:d'.extract 0 d.size=d':=by rw [←h1];exact Array.extract_size
 have e2:d.extract 0 d.size=d:=Array.extract_size
 rwa [e1,e2] at h3
theorem sortedIn_listE {d:Array ESlot} (h:SortedIn (ltOf cfE) 0 d.size d):(d.toList.map (·.1)).Pairwise (fun a b=>a.1≤b.1):=by
 refine List.pairwise_map.2 (List.pairwise_iff_getElem.2 fun i j hi hj hij=>?_)
 have hj':j<d.size:=by simpa using hj
 have hi':i<d.size:=by simpa using hi
 have:=h i j (Nat.zero_le _) hij hj'
 rw [cfE_lt,getElem!_pos d j hj',getElem!_pos d i hi'] at this
 simp only [intLt,decide_eq_false_iff_not] at this
 simp only [Array.getElem_toList]
 omega
theorem c_SortSlot (xs:List TSlot) (A:Option Addr) (c lo:Nat) (bl:List Nat) (w:World) (h:SO shSlot w lo w.heap.size A c xs bl) (nd:bl.Nodup) (hp:0<xs.length) (hl:xs.length≤1000) :
 Calls Tryz.prog 49 #[.slice A xs.length c,.func (.func 50) #[] #[]] w fun e w'=>e=.returned (.tuple #[])∧∃(d:List TSlot) (bl':List Nat),d.Perm xs∧d.Pairwise (fun a b=>a.1≤b.1)∧SO shSlot w' lo w'.heap.size A c d bl'∧bl'.Nodup∧(∀q∈bl',q∈bl)∧Only bl w w':=by
 have eg:∀args w,(callFunc 50 args).run Tryz.prog w=.ok (.enter 50 args) w:=enters_of Tryz.func50 (by kernel_rfl) rfl
 obtain ⟨E,g,off,rfl,rfl,hg,hgb,hH,hS⟩:=so_slots h nd hp
 rw [List.length_map] at hl
 have hcon:=AnyQ.slices_SortFunc Tryz.sortSlot 5 (fun w=>by kernel_rfl) (fun w=>by kernel_rfl) encE encE_len encE_one cfE cfE_swo 50 #[] g off c E.toArray w eg (fun m os dk hs x y=>c_tree1 x y _) hH hg (by simp;omega)
 change Calls Tryz.prog 49 _ _ _ at hcon
 have hsz:E.toArray.size=E.length:=by simp
 rw [hsz] at hcon
 rw [List.length_map]
 refine hcon.mono ?_
 rintro e w' ⟨rfl,d',n,os,hpm,hs,rfl⟩
 have hperm:d'.toList.Perm E:=by
  have:=permIn_listE (d:=E.toArray) (by rw [hsz];exact hpm)
  simpa using this
 have e1:d'.size=E.length:=by have:=hpm.1;simpa using this
 rw [←e1] at hs
 obtain ⟨bl',s1,s2,s3⟩:=hS d'.toList hperm n os
 exact ⟨rfl,d'.toList.map (·.1),bl',hperm.map _,sortedIn_listE hs,by simpa using s1,s2.nodup_iff.2 nd,fun q hq=>s2.mem_iff.1 hq,by simpa using s3⟩
end Go.Proofs.YtojmcmghmnfjeaaGreatDoor
namespace Go.Proofs.YtojmcmghmnfjeaaGreatDoor
open Go.RowKit Go.Maps Go.ChangeMaps Go.MapKept
set_option linter.unusedVariables false
set_option linter.unusedSimpArgs false
theorem SO.repLo {α:Type} {s:Sh α} (hg:Good s) (hf:∀{w w':World} {lo hi lo' hi':Nat} {cs:List Value} {x:α},s.rep w lo hi cs x→s.rep w' lo' hi' cs x) {w:World} {lo hi lo':Nat} {A:Option Addr} {c:Nat} {xs:List α} {bl:List Nat} (h:SO s w lo hi A c xs bl) (hb:∀q∈bl,lo'≤q):SR s w lo' hi A c xs:=by
 have hr:=h.rep hg
 refine ⟨hr.1,hr.2.1,fun hp=>?_⟩
 obtain ⟨g,off,hA,h1,h2,h3⟩:=hr.2.2 hp
 refine ⟨g,off,hA,?_,h2,fun i hi=>?_⟩
 ·rcases h.2.2 with ⟨rfl,_⟩ | ⟨g',off',C,tid,bls,hA',_,_,_,_,rfl,_⟩
  ·simp at hp
  ·rw [hA'] at hA
   injection hA with hA
   injection hA with e1 _ _
   rw [←e1]
   exact hb g' (List.mem_cons_self ..)
 ·obtain ⟨cs,hc,hq⟩:=h3 i hi
  exact ⟨cs,hc,hf hq⟩
section
variable {w w':World} {lo tb pb:Nat} {root:Int} {m:PgM} {f:Int→Nat} {B:Int→List Nat}
theorem PagesO.add (h:PagesO w lo tb pb root m f B) {i:Int} {n g:Nat} {p:TPage} {bl:List Nat} (hm:PMap Tryz.prog 2 w' pb n (fun j=>if j=i then some g else (m j).map (fun _=>f j))) (bt:But pb w w') (hp:PgB w lo g p bl)
 (hn:∀q∈bl,q≠tb∧q≠pb∧∀j p',m j=some p'→q∉B j):PagesO w' lo tb pb root (setM m i (some p)) (fun j=>if j=i then g else f j) (fun j=>if j=i then bl else B j):=by
 have one:Only [pb] w w':=(Only.refl _ _).but bt (by simp)
 refine ⟨h.tab.butM bt h.ne,⟨n,hm.ext fun k=>?_⟩,h.lo1,h.lo2,fun k p' hk=>?_,fun a b p1 q1 ha hb hab z hz hz'=>?_,fun k p' hk=>?_⟩
 ·by_cases e:k=i
  ·subst e;rw [setM_same,if_pos rfl];simp
  ·rw [setM_other _ _ e,if_neg e];simp [e]
 ·by_cases e:k=i
  ·subst e
   rw [setM_same] at hk
   cases hk
   rw [if_pos rfl,if_pos rfl]
   exact hp.only one fun q hq hh=>(hn q hq).2.1 (List.mem_singleton.1 hh)
  ·rw [setM_other _ _ e] at hk
   rw [if_neg e,if_neg e]
   exact (h.pg k p' hk).only one fun q hq hh=>(h.nt k p' hk).2 (by rw [←List.mem_singleton.1 hh];exact hq)
 ·by_cases ea:a=i
  ·subst ea
   rw [if_pos rfl] at hz
   have eb:¬b=a:=fun e=>hab e.symm
   rw [if_neg eb] at hz'
   rw [setM_other _ _ eb] at hb
   exact (hn z hz).2.2 b q1 hb hz'
  ·rw [if_neg ea] at hz
   rw [setM_other _ _ ea] at ha
   by_cases eb:b=i
   ·subst eb
    rw [if_pos rfl] at hz'
    exact (hn z hz').2.2 a p1 ha hz
   ·rw [if_neg eb] at hz'
    rw [setM_other _ _ eb] at hb
    exact h.ap a b p1 q1 ha hb hab z hz hz'
 ·by_cases e:k=i
  ·subst e
   rw [if_pos rfl]
   exact ⟨fun hh=>(hn _ hh).1 rfl,fun hh=>(hn _ hh).2.1 rfl⟩
  ·rw [setM_other _ _ e] at hk
   rw [if_neg e]
   exact h.nt k p' hk
structure PagesX (w:World) (lo tb pb n:Nat) (root:Int) (m:PgM) (f:Int→Nat) (B:Int→List Nat):Prop where
 po:PagesO w lo tb pb root m f B
 pm:PMap Tryz.prog 2 w pb n (fun id=>(m id).map (fun _=>f id))
 up:∀id p,m id=some p→∀q∈B id,pb<q
theorem PagesX.r {n:Nat} {x:TBtree} (h:PagesX w lo tb pb n x.1 (pgAt x) f B) (hn:n≤x.2.length):PagesR w lo w.heap.size tb x:=by
 refine ⟨pb,n,fun id=>(pgAt x id).map (fun _=>f id),h.po.tab,h.pm,hn,h.po.lo1,h.po.tab.lt,h.po.lo2,h.pm.lt,fun id=>⟨fun hh=>by show Option.map _ (pgAt x id)=none;rw [hh];rfl,fun p hp=>?_⟩⟩
 obtain ⟨A1,c1,b1,A2,c2,b2,A3,c3,b3,pg,e⟩:=h.po.pg id p hp
 have hu:=h.up id p hp
 rw [e] at hu
 refine ⟨f id,[.bool p.1,.slice A1 p.2.1.length c1,.slice A2 p.2.2.1.length c2,.slice A3 p.2.2.2.length c3],by show Option.map _ (pgAt x id)=_;rw [hp];rfl,hu _ (List.mem_cons_self ..),pg.box.lt,pg.box,mkPage (pg.s1.repLo good_S (fun h=>h) fun q hq=>hu q (by simp [hq])) (pg.s2.repLo good_S (fun h=>h) fun q hq=>hu q (by simp [hq])) (pg.s3.repLo good_I (fun h=>h) fun q hq=>hu q (by simp [hq]))⟩
end
theorem pgAt_takeM {x:TBtree} (hs:SlotsP x.2) {k:Nat} (hk:k<x.2.length):pgAt (x.1,x.2.take (k+1))=setM (pgAt (x.1,x.2.take k)) x.2[k].1 (some x.2[k].2):=by
 funext id
 rw [pgAt_take hs hk]
 rfl
theorem c_pagesOfO (v:Value) (y:TBtree) (w:World) (h:AV shBtree w v y) (hs:SlotsP y.2) (hn:shBtree.sz y≤1048576) :
 Calls Tryz.prog 19 #[v] w (fun e w'=>∃tb pb f B,e=.returned (.pointer (some ⟨tb,0,none⟩))∧PagesO w' w.heap.size tb pb y.1 (pgAt y) f B∧PagesR w' w.heap.size w'.heap.size tb y∧Up w w'):=by
 obtain ⟨cs,rfl,h⟩:=h
 obtain ⟨r,x⟩:=y
 have ho:=openBtree h
 dsimp only at ho
 obtain ⟨A0,c0,rfl,br,b00⟩:=ho
 clear h
 have hlen:=b00.len_le
 have hl64:=slots_len hs
 dsimp only at hs hl64
 have hnx:(shL shSlot).sz x≤1048576:=by
  have e:shBtree.sz (r,x)=0+(shL shSlot).sz x:=rfl
  omega
 have HSZ:=Hd (fun (i:Nat) (hi:i<x.length)=>slot_sz (sz_le shSlot x hi hnx))
 have HI:=Hd (fun (i:Nat) (hi:i<x.length)=>inB_t.1 (hs i hi).1)
 have HT:=Hd (fun (k:Nat) (hk:k<x.length)=>pgAt_takeM (x:=(r,x)) hs hk)
 have HL:=Hd hl64
 clear hn hnx hs hl64
 have hmm:=@run_makeMap Tryz.prog
 go_enter Tryz.func19,Tryz.ntmps19
 go_wp2_with fail
 clear hmm
 have kt:Bk (((w.alloc (.cells #[.int .i64 r,.slice A0 x.length c0] 28)).alloc (.map #[] 0)).alloc (.cells #[.int .i64 r,.map (some (w.heap.size+1))] 89)) (w.heap.size+1+1) 89 #[.int .i64 r,.map (some (w.heap.size+1))]:=by
  simpa using Bk.new ((w.alloc (.cells #[.int .i64 r,.slice A0 x.length c0] 28)).alloc (.map #[] 0)) 89 #[.int .i64 r,.map (some (w.heap.size+1))]
 have km:PMap Tryz.prog 2 (((w.alloc (.cells #[.int .i64 r,.slice A0 x.length c0] 28)).alloc (.map #[] 0)).alloc (.cells #[.int .i64 r,.map (some (w.heap.size+1))] 89)) (w.heap.size+1) 0 (fun _=>none):=by
  have h:=(PMap.made (P:=Tryz.prog) (k:=2) (w.alloc (.cells #[.int .i64 r,.slice A0 x.length c0] 28))).up ((Up.refl _).alloc (.cells #[.int .i64 r,.map (some (w.heap.size+1))] 89))
  simpa using h
 have uu:Up w (((w.alloc (.cells #[.int .i64 r,.slice A0 x.length c0] 28)).alloc (.map #[] 0)).alloc (.cells #[.int .i64 r,.map (some (w.heap.size+1))] 89)):=(((Up.refl _).alloc _).alloc _).alloc _
 have zz:w.heap.size+1+1+1≤(((w.alloc (.cells #[.int .i64 r,.slice A0 x.length c0] 28)).alloc (.map #[] 0)).alloc (.cells #[.int .i64 r,.map (some (w.heap.size+1))] 89)).heap.size:=by simp
 go_loopw [15] (fun i wr=>∃k:Nat,k≤x.length∧i=.int .i64 k∧Hid (∃n f B,n≤k∧PagesX wr w.heap.size (w.heap.size+1+1) (w.heap.size+1) n r (pgAt (r,x.take k)) f B)∧Up w wr) (fun i _=>x.length-(intOf i).toNat)
 case atStart =>
  have hnone:∀id,pgAt (r,x.take 0) id=none:=fun id=>by simp [pgAt]
  exact ⟨0,Nat.zero_le _,rfl,Hd ⟨0,fun _=>0,fun _=>[],Nat.le_refl _,⟨⟨kt,⟨0,km.ext fun id=>by rw [hnone];rfl⟩,by omega,by omega,fun id p hp=>(by rw [hnone] at hp;cases hp),fun i j p q hp=>(by rw [hnone] at hp;cases hp),fun id p hp=>(by rw [hnone] at hp;cases hp)⟩,km.ext fun id=>by rw [hnone];rfl,fun id p hp=>(by rw [hnone] at hp;cases hp)⟩⟩,uu⟩
 case round =>
  obtain ⟨k,hk,rfl,HP,hu⟩:=hrel
  clear kt km uu zz
  by_cases hlt:k<x.length
  ·obtain ⟨g,off,A2,c2,A3,c3,A4,c4,hA,_,hgl,hc0,hc1,hc2,hc3,hc4,b0,b2,b3,b4,_⟩:=atSlot (b00.up good_Slot hu) hlt
   have pv:∀W,Up wr W→AV shPage W (.agg #[.bool x[k].2.1,.slice A2 x[k].2.2.1.length c2,.slice A3 x[k].2.2.2.1.length c3,.slice A4 x[k].2.2.2.2.length c4]) x[k].2:=fun W hW=>⟨_,rfl,mkPage (x:=x[k].2) (b2.up good_S hW) (b3.up good_S hW) (b4.up good_I hW)⟩
   have cp:=fun W (hW:Up wr W)=>c_copyPage (.agg #[.bool x[k].2.1,.slice A2 x[k].2.2.1.length c2,.slice A3 x[k].2.2.2.1.length c3,.slice A4 x[k].2.2.2.2.length c4]) x[k].2 W (pv W hW) (HSZ.out k hlt)
   have kb:=Bk.new wr 60 #[.int .i64 x[k].1,.bool x[k].2.1,.slice A2 x[k].2.2.1.length c2,.slice A3 x[k].2.2.2.1.length c3,.slice A4 x[k].2.2.2.2.length c4]
   have uA:Up wr (wr.alloc (.cells #[.int .i64 x[k].1,.bool x[k].2.1,.slice A2 x[k].2.2.1.length c2,.slice A3 x[k].2.2.2.1.length c3,.slice A4 x[k].2.2.2.2.length c4] 60)):=(Up.refl wr).alloc _
   have CP:=Hd (cp _ uA)
   clear cp pv
   subst hA
   obtain ⟨hid1,hid2⟩:=HI.out k hlt
   go_wp2_with fail
   refine CP.out.mono ?_
   rintro e w1 ⟨cs,bl,rfl,so,nd,u1⟩
   obtain ⟨D1,d1,bl1,D2,d2,bl2,D3,d3,bl3,rfl,hbl,so1,so2,so3⟩:=openOPage so
   go_wp2_with fail
   obtain ⟨n,f,B,hnk,X⟩:=HP.out
   have uB:Up w1 (w1.alloc (.cells #[.bool x[k].2.1,.slice D1 x[k].2.2.1.length d1,.slice D2 x[k].2.2.2.1.length d2,.slice D3 x[k].2.2.2.2.length d3] 58)):=(Up.refl _).alloc _
   have kq:=Bk.new w1 58 #[.bool x[k].2.1,.slice D1 x[k].2.2.1.length d1,.slice D2 x[k].2.2.2.1.length d2,.slice D3 x[k].2.2.2.2.length d3]
   have kb2:=(kb.up u1).up uB
   have uW:=(uA.trans u1).trans uB
   have p1':=X.po.up uW
   have p2':=X.pm.up uW
   have zA:(wr.alloc (.cells #[.int .i64 x[k].1,.bool x[k].2.1,.slice A2 x[k].2.2.1.length c2,.slice A3 x[k].2.2.2.1.length c3,.slice A4 x[k].2.2.2.2.length c4] 60)).heap.size=wr.heap.size+1:=by simp
   have z1:=u1.size
   have zB:(w1.alloc (.cells #[.bool x[k].2.1,.slice D1 x[k].2.2.1.length d1,.slice D2 x[k].2.2.2.1.length d2,.slice D3 x[k].2.2.2.2.length d3] 58)).heap.size=w1.heap.size+1:=by simp
   have zu:=hu.size
   have hin:=good_Page.own_in so
   have hpb:w.heap.size+1<wr.heap.size:=X.pm.lt
   have htb:w.heap.size+1+1<wr.heap.size:=X.po.tab.lt
   generalize (w1.alloc (.cells #[.bool x[k].2.1,.slice D1 x[k].2.2.1.length d1,.slice D2 x[k].2.2.2.1.length d2,.slice D3 x[k].2.2.2.2.length d3] 58))=W2 at kq kb2 uB uW p1' p2' zB ⊢
   have pgb:PgB W2 w.heap.size w1.heap.size x[k].2 (w1.heap.size::(bl1++bl2++bl3)):=by
    refine ⟨D1,d1,bl1,D2,d2,bl2,D3,d3,bl3,⟨kq,(so1.up good_S uB).wide good_S (by omega) (Nat.le_refl _),(so2.up good_S uB).wide good_S (by omega) (Nat.le_refl _),(so3.up good_I uB).wide good_I (by omega) (Nat.le_refl _),List.nodup_cons.2 ⟨fun hm=>?_,by rw [←hbl];exact nd⟩,by omega⟩,rfl⟩
    have:=(hin _ (by rw [hbl];exact hm)).2
    omega
   have hnew:∀q∈w1.heap.size::(bl1++bl2++bl3),wr.heap.size≤q:=fun q hq=>by
    rcases List.mem_cons.1 hq with rfl | hq
    ·omega
    ·have:=(hin q (by rw [hbl];exact hq)).1
     omega
   have hfar:∀q∈w1.heap.size::(bl1++bl2++bl3),q≠w.heap.size+1+1∧q≠w.heap.size+1∧∀j p',pgAt (r,x.take k) j=some p'→q∉B j:=fun q hq=>by
    have h1:=hnew q hq
    refine ⟨by omega,by omega,fun j p' hj hm=>?_⟩
    have:=((X.po.pg j p' hj).in_ q hm).2
    omega
   have hk64:=HL.out
   have hn:n<maxLen:=by
    unfold maxLen
    omega
   obtain ⟨W3,hrun,p2n,bt⟩:=p2'.drew.put (t:=87) (e:=90) Tryz.underlying2 Tryz.underlying87 hn (i:=x[k].1) ⟨by omega,by omega⟩ w1.heap.size
   have p1d:=p1'.tab.drew
   have hne:=p1'.ne
   have kbd:=kb2.drew
   have XH:=Hd (And.intro p1' (And.intro pgb (And.intro hfar (And.intro hnew X.up))))
   clear p1' pgb hfar hnew X HP
   go_region_held3 (fun W=>W.cell? ⟨w.heap.size+1+1,1,none⟩=some (.map (some (w.heap.size+1)))∧W.cell? ⟨wr.heap.size,0,none⟩=some (.int .i64 x[k].1))
    (first | (have q1:World.cell? _ ⟨w.heap.size+1+1,1,none⟩=some (.map (some (w.heap.size+1))):=p1d.cell 1;have q2:World.cell? _ ⟨wr.heap.size,0,none⟩=some (.int .i64 x[k].1):=kbd.cell 0;with_reducible exact ⟨q1,q2⟩) | (have q1:World.cell? _ ⟨w.heap.size+1+1,1,none⟩=some (.map (some (w.heap.size+1))):=(p1d.butM bt (by omega)).cell 1;have q2:World.cell? _ ⟨wr.heap.size,0,none⟩=some (.int .i64 x[k].1):=(kbd.butM bt (by omega)).cell 0;with_reducible exact ⟨q1,q2⟩))
    (first | fail)
   have z3:=bt.size
   have zd:W2.drew.heap.size=W2.heap.size:=rfl
   have uF:=(hu.trans uW).drew
   go_wp2_with fail
   go_roundw
   case rel =>
    obtain ⟨q1,q2,q3,q4,q5⟩:=XH.out
    have hadd:=(q1.up (Up.refl W2).drew).add p2n bt (q2.up (Up.refl W2).drew) q3
    rw [←HT.out k hlt] at hadd
    refine ⟨k+1,by omega,by go_num,Hd ⟨n+1,_,_,by omega,hadd,?_,fun id p hp q hq=>?_⟩,uF.but bt (by omega)⟩
    ·refine p2n.ext fun id=>?_
     rw [HT.out k hlt]
     by_cases e:id=x[k].1
     ·subst e;rw [setM_same,if_pos rfl];simp
     ·rw [setM_other _ _ e,if_neg e];simp [e]
    ·by_cases e:id=x[k].1
     ·rw [if_pos e] at hq
      have:=q4 q hq
      omega
     ·rw [if_neg e] at hq
      rw [HT.out k hlt,setM_other _ _ e] at hp
      exact q5 id p hp q hq
   case measure=>simp [intOf];omega
  ·obtain rfl:k=x.length:=by omega
   rw [List.take_length] at HP
   go_wp2_with fail
   refine bodyPost_ret (v:=.pointer (some ⟨w.heap.size+1+1,0,none⟩)) (by simp [results,Tryz.results19,go_sem]) rfl ?_
   obtain ⟨n,f,B,hn,X⟩:=HP.out
   exact ⟨w.heap.size+1+1,w.heap.size+1,f,B,rfl,X.po,X.r hn,hu⟩
end Go.Proofs.YtojmcmghmnfjeaaGreatDoor
