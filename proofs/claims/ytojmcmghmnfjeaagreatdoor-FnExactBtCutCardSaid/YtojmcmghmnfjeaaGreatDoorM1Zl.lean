/-
 Parts of the proof.
-/
import Derived.Test.YtojmcmghmnfjeaaGreatDoorM1Zi
set_option maxHeartbeats 32000000
set_option maxRecDepth 100000
namespace Go.Proofs.YtojmcmghmnfjeaaGreatDoor
open Go Go.RowKit
set_option linter.unusedVariables false
set_option linter.unusedSimpArgs false
def firstRegion (n:Nat):Code→Option Code
 | .loop c=>firstRegion n c
 | .seq a b=>match firstRegion n a with
  | some c=>some c
  | none=>firstRegion n b
 | .block _ c=>firstRegion n c
 | .scope c=>firstRegion n c
 | .cond _ a b=>match firstRegion n a with
  | some c=>some c
  | none=>firstRegion n b
 | .region k o d=>if k=n then some (.region k o d) else none
 | _=>none
noncomputable def refReg (n:Nat):Code:=((Tryz.f86.body.bind (firstRegion n)).getD .skip)
theorem ref_r7 {W6:World} {lo tb pb:Nat} {root:Int} {m3:PgM} {f:Int→Nat} {B3:Int→List Nat} {above:Int} {a b:Nat} {up:TPage} {ds:_} {z2 z3 z4 z5 z6 z8 z9 z10 z11 z12 z13 z14 z15 z16 z17 z18 z19 z20 z21 z22 z23 z24 z25 z26 z27 z28 z29 z30 z31 z32 z33 z34 z35 z36 z37 z38 z39 z40 z41 z42 z43 z44 z45 z46 z47 z48 z49 z50 z51 z52 z53 z54 z55 z56 z57 z58 z59 z60 z61 z62 z63 z64 z65 z66 z67 z68 z69 z70 z71 z72 z73 z74 z75 z76 z77 z78 z79 z80 z81 z82 z83 z84 z85 z86 z87 z88 z89 z90 z91 z92 z93 z94 z95 z96 z97 z98 z99 z100 z101 z102 z103 z104 z105 z106 z107 z108 z109 z110 z111 z112 z113 z114 z115 z116 z117 z118 z119 z120 z121 z122 z123 z124 z125 z126 z127 z128 z129 z130 z131 z132 z133 z134 z135 z136 z137 z138 z139 z140 z141 z142 z143 z144 z145 z146 z147 z148 z149 z150 z151 z152 z153 z154 z155 z156 z157 z158 z159 z160 z161 z162 z163 z164 z165 z166 z167 z168 z169 z170 z171 z172 z173 z174 z175 z176 z177 z178 z179 z180 z181 z182 z183 z184 z185 z186 z187:Value} {Q:Exit→Act→World→Prop} (PO3:PagesO W6 lo tb pb root m3 f B3) (hlo3:lo≤W6.heap.size) (k3u:m3 above=some up) (hkl:a<up.2.1.length) (htwo:b<up.2.2.2.length) (HBA:Hid ((a:Int)+1=(b:Int)))
 (hw2:IntKind.i64.wrap ((a:Int)+1)=(b:Int)) (hw3:IntKind.i64.wrap ((a:Int)+2)=(b:Int)+1) (ha0:(0:Int)≤(a:Int)) (hb0:(0:Int)≤(b:Int)) (hQp:∀c (a a':Act) w,Q (.panic c) a w→Q (.panic c) a' w)
 (HQ:Hid (∀(v119 v120 v121 v122 v123 v124 v125 v126 v127 v128 v129 v130 v131 v132 v133 v134 v135 v136 v137 v138 v139 v140 v141:Value) (w':World),(∃B4,PagesO w' lo tb pb root (setM m3 above (some (up.1,remAt up.2.1 a,up.2.2.1,remAt up.2.2.2 b))) f B4)→Below lo W6 w'→Q .normal ⟨#[.pointer (some ⟨tb,0,none⟩),.pointer (some ⟨f above,0,none⟩),z2,z3,z4,z5,z6,.int .i64 (a:Int),z8,z9,z10,z11,z12,z13,z14,z15,z16,z17,z18,z19,z20,z21,z22,z23,z24,z25,z26,z27,z28,z29,z30,z31,z32,z33,z34,z35,z36,z37,z38,z39,z40,z41,z42,z43,z44,z45,z46,z47,z48,z49,z50,z51,z52,z53,z54,z55,z56,z57,z58,z59,z60,z61,z62,z63,z64,z65,z66,z67,z68,z69,z70,z71,z72,z73,z74,z75,z76,z77,z78,z79,z80,z81,z82,z83,z84,z85,z86,z87,z88,z89,z90,z91,z92,z93,z94,z95,z96,z97,z98,z99,z100,z101,z102,z103,z104,z105,z106,z107,z108,z109,z110,z111,z112,z113,z114,z115,z116,z117,z118,v119,v120,v121,v122,v123,v124,v125,v126,v127,v128,v129,v130,v131,v132,v133,v134,v135,v136,v137,v138,v139,v140,v141,z142,z143,z144,z145,z146,z147,z148,z149,z150,z151,z152,z153,z154,z155,z156,z157,z158,z159,z160,z161,z162,z163,z164,z165,z166,z167,z168,z169,z170,z171,z172,z173,z174,z175,z176,z177,z178,z179,z180,z181,z182,z183,z184,z185,z186,z187],ds⟩ w')) :
 Code.wp Tryz.prog (refReg 7) Q ⟨#[.pointer (some ⟨tb,0,none⟩),.pointer (some ⟨f above,0,none⟩),z2,z3,z4,z5,z6,.int .i64 (a:Int),z8,z9,z10,z11,z12,z13,z14,z15,z16,z17,z18,z19,z20,z21,z22,z23,z24,z25,z26,z27,z28,z29,z30,z31,z32,z33,z34,z35,z36,z37,z38,z39,z40,z41,z42,z43,z44,z45,z46,z47,z48,z49,z50,z51,z52,z53,z54,z55,z56,z57,z58,z59,z60,z61,z62,z63,z64,z65,z66,z67,z68,z69,z70,z71,z72,z73,z74,z75,z76,z77,z78,z79,z80,z81,z82,z83,z84,z85,z86,z87,z88,z89,z90,z91,z92,z93,z94,z95,z96,z97,z98,z99,z100,z101,z102,z103,z104,z105,z106,z107,z108,z109,z110,z111,z112,z113,z114,z115,z116,z117,z118,z119,z120,z121,z122,z123,z124,z125,z126,z127,z128,z129,z130,z131,z132,z133,z134,z135,z136,z137,z138,z139,z140,z141,z142,z143,z144,z145,z146,z147,z148,z149,z150,z151,z152,z153,z154,z155,z156,z157,z158,z159,z160,z161,z162,z163,z164,z165,z166,z167,z168,z169,z170,z171,z172,z173,z174,z175,z176,z177,z178,z179,z180,z181,z182,z183,z184,z185,z186,z187],ds⟩ W6:=by
 conv=>arg 2;whnf
 obtain ⟨V1,r1,u1_,V2,r2,u2_,V3,r3,u3_,pu,eBu⟩:=PO3.pg above up k3u
 have hbn:=(List.nodup_cons.1 pu.nd).1
 have SK:∀V,Only (u1_++u3_) W6 V→(V.cell? ⟨f above,1,none⟩=some (.slice V1 up.2.1.length r1)∧V.cell? ⟨f above,3,none⟩=some (.slice V3 up.2.2.2.length r3)):=fun V k=>by
  have bx:=pu.box.only k (fun h=>hbn (by rcases List.mem_append.1 h with h | h <;> simp [h]))
  exact ⟨bx.cell 1,bx.cell 3⟩
 have SKH:=Hd SK
 have PUH:=Hd (And.intro pu eBu)
 have POH:=Hd PO3
 clear SK pu eBu PO3 hbn
 refine wp_region_U (fun W=>W.cell? ⟨f above,1,none⟩=some (.slice V1 up.2.1.length r1)∧W.cell? ⟨f above,3,none⟩=some (.slice V3 up.2.2.2.length r3)) 19 (by kernel_rfl) ?_
 have hS:(fun W:World=>W.cell? ⟨f above,1,none⟩=some (.slice V1 up.2.1.length r1)∧W.cell? ⟨f above,3,none⟩=some (.slice V3 up.2.2.2.length r3)) W6.drew:=SKH.out _ (Only.of_up (Up.refl W6).drew)
 try simp only [Act.put,sI,sZ,sS]
 refine tP 0 rfl (fun c _ w h=>hQp c _ _ w h) hS ?_
 refine tP 1 rfl (fun c _ w h=>hQp c _ _ w h) hS ?_
 refine tP 2 rfl (fun c _ w h=>hQp c _ _ w h) hS ?_
 refine tP 3 rfl (fun c _ w h=>hQp c _ _ w h) hS ?_
 refine tP 4 rfl (fun c _ w h=>hQp c _ _ w h) hS ?_
 refine tL 5 rfl (fun c _ w h=>hQp c _ _ w h) hS ?_
 refine tP 6 rfl (fun c _ w h=>hQp c _ _ w h) hS ?_
 refine tP 7 rfl (fun c _ w h=>hQp c _ _ w h) hS ?_
 refine tP 8 rfl (fun c _ w h=>hQp c _ _ w h) hS ?_
 refine tP 10 rfl (fun c _ w h=>hQp c _ _ w h) hS ?_
 refine tP 11 rfl (fun c _ w h=>hQp c _ _ w h) hS ?_
 refine tP 12 rfl (fun c _ w h=>hQp c _ _ w h) hS ?_
 refine tL 13 rfl (fun c _ w h=>hQp c _ _ w h) hS ?_
 refine tP 14 rfl (fun c _ w h=>hQp c _ _ w h) hS ?_
 refine tP 15 rfl (fun c _ w h=>hQp c _ _ w h) hS ?_
 refine tP 16 rfl (fun c _ w h=>hQp c _ _ w h) hS ?_
 refine tP 17 rfl (fun c _ w h=>hQp c _ _ w h) hS ?_
 refine rU [9] ?_
 refine AllReadyU.cons rfl (fun K hK=>?_) AllReadyU.nil
 go_simp
 have pu:=PUH.out.1
 have eBu:=PUH.out.2
 have T0:=(PgR.start pu).up (Up.refl W6).drew
 have CD:Calls Tryz.prog 84 #[.slice V1 up.2.1.length r1,.int .i64 (a:Int),.int .i64 (b:Int)] W6.drew (RowC shS W6.drew lo (remAt up.2.1 a) u1_):=by rw [←HBA.out];exact c_DeleteS hkl T0.pg.s1
 refine CD.mono ?_
 rintro e w1 ⟨D1,f1,bl1,rfl,so1,nd1,hm1,on1⟩
 have T1:=T0.row1 so1 nd1 hm1 on1
 have oc1:Only (u1_++u3_) W6 w1:=only_via (Only.of_up (Up.refl W6).drew) on1 (fun q hq=>.inl (List.mem_append_left _ hq))
 clear CD T0 so1 nd1 hm1 on1
 go_wp2_with fail
 refine hK.out _ _ (SKH.out _ oc1) (fun hS=>?_)
 clear hK K
 try simp only [Act.put,sI,sZ,sS]
 refine rU [18] ?_
 refine AllReadyU.cons rfl (fun K hK=>?_) AllReadyU.nil
 go_simp
 refine (c_DeleteI (k:=b) htwo T1.pg.s3).mono ?_
 rintro e w2 ⟨D3,f3,bl3,rfl,so3,nd3,hm3,on3⟩
 have T2:=T1.row3 so3 nd3 hm3 on3
 have oc2:Only (u1_++u3_) W6 w2:=only_via oc1 on3 (fun q hq=>.inl (List.mem_append_right _ hq))
 clear T1 so3 nd3 hm3 on3
 go_wp2_with fail
 refine hK.out _ _ (SKH.out _ oc2) (fun hS=>?_)
 clear hK K
 try simp only [Act.put,sI,sZ,sS]
 refine wpAnyU_line 5 (by as_aux_lemma=>kernel_rfl) rfl (by decide) ?_
 simp only [List.drop_succ_cons,List.drop_zero]
 have gq1:=T2.pg.box.cell 1
 have fq1:=T2.pg.box.frozen 1
 have T3:=T2.set 1 (.slice D1 (remAt up.2.1 a).length f1)
 have gq2:=T3.pg.box.cell 3
 have fq2:=T3.pg.box.frozen 3
 have T4:=(T3.set 3 (.slice D3 (remAt up.2.2.2 b).length f3)).done (by rfl)
 refine Exists.elim (POH.out.put1 k3u eBu T4) (fun B4 hP4=>?_)
 have HF:=Hd (And.intro hP4.1 (POH.out.bel1 hlo3 k3u hP4.2.2))
 clear T2 T3 T4 hP4 eBu hS pu oc1 oc2
 go_wp2_with fail
 exact HQ.out _ _ _ _ _ _ _ _ _ _ _ _ _ _ _ _ _ _ _ _ _ _ _ _ ⟨B4,HF.out.1⟩ HF.out.2
theorem ref_r5 {W3:World} {lo tb pb:Nat} {root:Int} {m1:PgM} {f:Int→Nat} {B1:Int→List Nat} {i j:Int} {p y:TPage} {ds:_} {z0 z1 z2 z3 z4 z5 z6 z7 z10 z11 z12 z13 z14 z15 z16 z17 z18 z19 z20 z21 z22 z23 z24 z25 z26 z27 z28 z29 z30 z31 z32 z33 z34 z35 z36 z37 z38 z39 z40 z41 z42 z43 z44 z45 z46 z47 z48 z49 z50 z51 z52 z53 z54 z55 z56 z57 z58 z59 z60 z61 z62 z63 z64 z65 z66 z67 z68 z69 z70 z71 z72 z73 z74 z75 z76 z77 z78 z79 z80 z81 z82 z83 z84 z85 z86 z87 z88 z89 z90 z91 z92 z93 z94 z95 z96 z97 z98 z99 z100 z101 z102 z103 z104 z105 z106 z107 z108 z109 z110 z111 z112 z113 z114 z115 z116 z117 z118 z119 z120 z121 z122 z123 z124 z125 z126 z127 z128 z129 z130 z131 z132 z133 z134 z135 z136 z137 z138 z139 z140 z141 z142 z143 z144 z145 z146 z147 z148 z149 z150 z151 z152 z153 z154 z155 z156 z157 z158 z159 z160 z161 z162 z163 z164 z165 z166 z167 z168 z169 z170 z171 z172 z173 z174 z175 z176 z177 z178 z179 z180 z181 z182 z183 z184 z185 z186 z187:Value} {Q:Exit→Act→World→Prop} (PO1:PagesO W3 lo tb pb root m1 f B1) (hlo1:lo≤W3.heap.size) (k1i:m1 i=some p) (k1j:m1 j=some y) (hn1:i≠j)
 (lx1:p.2.1.length≤7) (lx2:p.2.2.1.length≤6) (lx3:p.2.2.2.length≤6) (ly1:y.2.1.length≤6) (ly2:y.2.2.1.length≤6) (ly3:y.2.2.2.length≤6) (hQp:∀c (a a':Act) w,Q (.panic c) a w→Q (.panic c) a' w)
 (HQ:Hid (∀(v71 v72 v73 v74 v75 v76 v77 v78 v79 v80 v81 v82 v83 v84 v85 v86 v87 v88 v89 v90 v91 v92 v93 v94 v95 v96 v97 v98 v99 v100 v101 v102 v103 v104 v105 v106:Value) (w':World),(∃B4,PagesO w' lo tb pb root (setM m1 i (some (p.1,p.2.1++y.2.1,p.2.2.1++y.2.2.1,p.2.2.2++y.2.2.2))) f B4)→Below lo W3 w'→Q .normal ⟨#[z0,z1,z2,z3,z4,z5,z6,z7,.pointer (some ⟨f i,0,none⟩),.pointer (some ⟨f j,0,none⟩),z10,z11,z12,z13,z14,z15,z16,z17,z18,z19,z20,z21,z22,z23,z24,z25,z26,z27,z28,z29,z30,z31,z32,z33,z34,z35,z36,z37,z38,z39,z40,z41,z42,z43,z44,z45,z46,z47,z48,z49,z50,z51,z52,z53,z54,z55,z56,z57,z58,z59,z60,z61,z62,z63,z64,z65,z66,z67,z68,z69,z70,v71,v72,v73,v74,v75,v76,v77,v78,v79,v80,v81,v82,v83,v84,v85,v86,v87,v88,v89,v90,v91,v92,v93,v94,v95,v96,v97,v98,v99,v100,v101,v102,v103,v104,v105,v106,z107,z108,z109,z110,z111,z112,z113,z114,z115,z116,z117,z118,z119,z120,z121,z122,z123,z124,z125,z126,z127,z128,z129,z130,z131,z132,z133,z134,z135,z136,z137,z138,z139,z140,z141,z142,z143,z144,z145,z146,z147,z148,z149,z150,z151,z152,z153,z154,z155,z156,z157,z158,z159,z160,z161,z162,z163,z164,z165,z166,z167,z168,z169,z170,z171,z172,z173,z174,z175,z176,z177,z178,z179,z180,z181,z182,z183,z184,z185,z186,z187],ds⟩ w')) :
 Code.wp Tryz.prog (refReg 5) Q ⟨#[z0,z1,z2,z3,z4,z5,z6,z7,.pointer (some ⟨f i,0,none⟩),.pointer (some ⟨f j,0,none⟩),z10,z11,z12,z13,z14,z15,z16,z17,z18,z19,z20,z21,z22,z23,z24,z25,z26,z27,z28,z29,z30,z31,z32,z33,z34,z35,z36,z37,z38,z39,z40,z41,z42,z43,z44,z45,z46,z47,z48,z49,z50,z51,z52,z53,z54,z55,z56,z57,z58,z59,z60,z61,z62,z63,z64,z65,z66,z67,z68,z69,z70,z71,z72,z73,z74,z75,z76,z77,z78,z79,z80,z81,z82,z83,z84,z85,z86,z87,z88,z89,z90,z91,z92,z93,z94,z95,z96,z97,z98,z99,z100,z101,z102,z103,z104,z105,z106,z107,z108,z109,z110,z111,z112,z113,z114,z115,z116,z117,z118,z119,z120,z121,z122,z123,z124,z125,z126,z127,z128,z129,z130,z131,z132,z133,z134,z135,z136,z137,z138,z139,z140,z141,z142,z143,z144,z145,z146,z147,z148,z149,z150,z151,z152,z153,z154,z155,z156,z157,z158,z159,z160,z161,z162,z163,z164,z165,z166,z167,z168,z169,z170,z171,z172,z173,z174,z175,z176,z177,z178,z179,z180,z181,z182,z183,z184,z185,z186,z187],ds⟩ W3:=by
 conv=>arg 2;whnf
 obtain ⟨i0,hi0,hz0,hz1,hz2⟩:=info_parts cinfo_StrZ
 obtain ⟨j0,hj0,hq0,hq1,hq2⟩:=info_parts cinfo_IntZ
 obtain ⟨A1,c1,a1,A2,c2,a2,A3,c3,a3,px,eBx⟩:=PO1.pg i _ k1i
 obtain ⟨E1,e1,d1,E2,e2,d2,E3,e3,d3,py,eBy⟩:=PO1.pg j y k1j
 have hbn:=(List.nodup_cons.1 px.nd).1
 have nX:∀q∈a1++a2++a3,q∉f j::(d1++d2++d3):=fun q hq hh=>PO1.ap i j _ y k1i k1j hn1 q (by rw [eBx];exact List.mem_cons_of_mem _ hq) (by rw [eBy];exact hh)
 have SK:∀V,Only (a1++a2++a3) W3 V→(V.cell? ⟨f i,1,none⟩=some (.slice A1 p.2.1.length c1)∧V.cell? ⟨f i,2,none⟩=some (.slice A2 p.2.2.1.length c2)∧V.cell? ⟨f i,3,none⟩=some (.slice A3 p.2.2.2.length c3)∧V.cell? ⟨f j,1,none⟩=some (.slice E1 y.2.1.length e1)∧V.cell? ⟨f j,2,none⟩=some (.slice E2 y.2.2.1.length e2)∧V.cell? ⟨f j,3,none⟩=some (.slice E3 y.2.2.2.length e3))∧PgR V lo (f j) (pgC y E1 e1 E2 e2 E3 e3) y E1 e1 d1 E2 e2 d2 E3 e3 d3:=fun V k=>by
  have bx:=px.box.only k hbn
  have qy:=py.only k (fun q hq hh=>nX q hh hq)
  exact ⟨⟨bx.cell 1,bx.cell 2,bx.cell 3,qy.box.cell 1,qy.box.cell 2,qy.box.cell 3⟩,qy⟩
 have SRC1:=Hd (fun (V:World) (k:Only (a1++a2++a3) W3 V)=>(SR.of_own good_S (SK V k).2.s1).src (lo:=lo) (hi:=V.heap.size) good_S flat_S (e':=9) (tx:=52) Tryz.underlying52 (n:=i0.size) hz1)
 have SRC2:=Hd (fun (V:World) (k:Only (a1++a2++a3) W3 V)=>(SR.of_own good_S (SK V k).2.s2).src (lo:=lo) (hi:=V.heap.size) good_S flat_S (e':=9) (tx:=52) Tryz.underlying52 (n:=i0.size) hz1)
 have SRC3:=Hd (fun (V:World) (k:Only (a1++a2++a3) W3 V)=>(SR.of_own good_I (SK V k).2.s3).src (lo:=lo) (hi:=V.heap.size) good_I flat_I (e':=2) (tx:=53) Tryz.underlying53 (n:=j0.size) hq1)
 have SKH:=Hd SK
 have PXH:=Hd (And.intro px eBx)
 have POH:=Hd PO1
 have hmm1:∀q∈a1,q∈a1++a2++a3:=fun q hq=>by simp [hq]
 have hmm2:∀q∈a2,q∈a1++a2++a3:=fun q hq=>by simp [hq]
 have hmm3:∀q∈a3,q∈a1++a2++a3:=fun q hq=>by simp [hq]
 have HMM:=Hd (And.intro hmm1 (And.intro hmm2 hmm3))
 clear SK px py eBx eBy PO1 hbn nX hmm1 hmm2 hmm3
 refine wp_region_U (fun W=>W.cell? ⟨f i,1,none⟩=some (.slice A1 p.2.1.length c1)∧W.cell? ⟨f i,2,none⟩=some (.slice A2 p.2.2.1.length c2)∧W.cell? ⟨f i,3,none⟩=some (.slice A3 p.2.2.2.length c3)∧W.cell? ⟨f j,1,none⟩=some (.slice E1 y.2.1.length e1)∧W.cell? ⟨f j,2,none⟩=some (.slice E2 y.2.2.1.length e2)∧W.cell? ⟨f j,3,none⟩=some (.slice E3 y.2.2.2.length e3)) 30 (by kernel_rfl) ?_
 have hS:(fun W:World=>W.cell? ⟨f i,1,none⟩=some (.slice A1 p.2.1.length c1)∧W.cell? ⟨f i,2,none⟩=some (.slice A2 p.2.2.1.length c2)∧W.cell? ⟨f i,3,none⟩=some (.slice A3 p.2.2.2.length c3)∧W.cell? ⟨f j,1,none⟩=some (.slice E1 y.2.1.length e1)∧W.cell? ⟨f j,2,none⟩=some (.slice E2 y.2.2.1.length e2)∧W.cell? ⟨f j,3,none⟩=some (.slice E3 y.2.2.2.length e3)) W3.drew:=(SKH.out _ (Only.of_up (Up.refl W3).drew)).1
 try simp only [Act.put,sI,sZ,sS]
 refine tP 0 rfl (fun c _ w h=>hQp c _ _ w h) hS ?_
 refine tP 1 rfl (fun c _ w h=>hQp c _ _ w h) hS ?_
 refine tP 2 rfl (fun c _ w h=>hQp c _ _ w h) hS ?_
 refine tP 3 rfl (fun c _ w h=>hQp c _ _ w h) hS ?_
 refine tP 4 rfl (fun c _ w h=>hQp c _ _ w h) hS ?_
 refine tP 5 rfl (fun c _ w h=>hQp c _ _ w h) hS ?_
 refine tL 6 rfl (fun c _ w h=>hQp c _ _ w h) hS ?_
 refine tP 7 rfl (fun c _ w h=>hQp c _ _ w h) hS ?_
 refine tP 8 rfl (fun c _ w h=>hQp c _ _ w h) hS ?_
 refine tP 9 rfl (fun c _ w h=>hQp c _ _ w h) hS ?_
 refine tL 10 rfl (fun c _ w h=>hQp c _ _ w h) hS ?_
 refine tP 12 rfl (fun c _ w h=>hQp c _ _ w h) hS ?_
 refine tP 13 rfl (fun c _ w h=>hQp c _ _ w h) hS ?_
 refine tP 14 rfl (fun c _ w h=>hQp c _ _ w h) hS ?_
 refine tL 15 rfl (fun c _ w h=>hQp c _ _ w h) hS ?_
 refine tP 16 rfl (fun c _ w h=>hQp c _ _ w h) hS ?_
 refine tP 17 rfl (fun c _ w h=>hQp c _ _ w h) hS ?_
 refine tP 18 rfl (fun c _ w h=>hQp c _ _ w h) hS ?_
 refine tL 19 rfl (fun c _ w h=>hQp c _ _ w h) hS ?_
 refine tP 21 rfl (fun c _ w h=>hQp c _ _ w h) hS ?_
 refine tP 22 rfl (fun c _ w h=>hQp c _ _ w h) hS ?_
 refine tP 23 rfl (fun c _ w h=>hQp c _ _ w h) hS ?_
 refine tL 24 rfl (fun c _ w h=>hQp c _ _ w h) hS ?_
 refine tP 25 rfl (fun c _ w h=>hQp c _ _ w h) hS ?_
 refine tP 26 rfl (fun c _ w h=>hQp c _ _ w h) hS ?_
 refine tP 27 rfl (fun c _ w h=>hQp c _ _ w h) hS ?_
 refine tL 28 rfl (fun c _ w h=>hQp c _ _ w h) hS ?_
 refine rU [11] ?_
 refine AllReadyU.cons rfl (fun K hK=>?_) AllReadyU.nil
 have px:=PXH.out.1
 have eBx:=PXH.out.2
 have T0:=(PgR.start px).up (Up.refl W3).drew
 have oc0:Only (a1++a2++a3) W3 W3.drew:=Only.of_up (Up.refl W3).drew
 have qy:=(SKH.out _ oc0).2
 refine Exists.elim (SRC1.out _ oc0) (fun news hnw=>?_)
 have hsrc:=hnw.1
 have hrw:=hnw.2
 have hb1:(p.2.1.length+y.2.1.length)*i0.bytes≤140737488355328:=by rw [hz2];omega
 have hb2:p.2.1.length+y.2.1.length≤maxLen:=by unfold maxLen;omega
 have hso:SO shS W3.drew lo W3.drew.heap.size A1 c1 p.2.1 a1:=T0.pg.s1
 have hnd:(a1++(List.replicate y.2.1.length ([]:List Nat)).flatten).Nodup:=by simpa using PXH.out.1.nd1.1
 have hlz:lo≤W3.drew.heap.size:=(Nat.le_trans hlo1 (Up.refl W3).drew.size)
 refine step_app good_S rfl _ _ _ _ 9 rfl i0 _ Tryz.underlying52 hi0 hz0 hz1 (by rfl) (lo:=lo) (A:=A1) (c:=c1) (xs:=p.2.1) (ys:=y.2.1) (bl:=a1) (bs:=List.replicate y.2.1.length []) (news:=news) (v:=.slice E1 y.2.1.length e1) (by go_simp) (by go_simp) hso hnd hsrc hrw hlz hb1 hb2 ?_
 intro D1 f1 bl1 w1 hap
 obtain ⟨so1,nd1,hm10,on1⟩:=hap
 have hm1:∀q∈bl1,q∈a1∨_≤q:=fun q hq=>(hm10 q hq).imp_left (fun h=>by simpa using h)
 clear hm10 hb1 hb2 hsrc hrw hnw news hso hnd hlz
 have T1:=T0.row1 so1 nd1 hm1 on1
 have oc1:Only (a1++a2++a3) W3 w1:=only_via oc0 on1 (fun q hq=>.inl (HMM.out.1 q hq))
 clear T0 so1 nd1 hm1 on1 qy oc0
 refine hK.out _ _ ((SKH.out _ oc1).1) (fun hS=>?_)
 clear hK K
 try simp only [Act.put,sI,sZ,sS]
 refine rU [20] ?_
 refine AllReadyU.cons rfl (fun K hK=>?_) AllReadyU.nil
 have qy:=(SKH.out _ oc1).2
 refine Exists.elim (SRC2.out _ oc1) (fun news hnw=>?_)
 have hsrc:=hnw.1
 have hrw:=hnw.2
 have hb1:(p.2.2.1.length+y.2.2.1.length)*i0.bytes≤140737488355328:=by rw [hz2];omega
 have hb2:p.2.2.1.length+y.2.2.1.length≤maxLen:=by unfold maxLen;omega
 have hso:SO shS w1 lo w1.heap.size A2 c2 p.2.2.1 a2:=T1.pg.s2
 have hnd:(a2++(List.replicate y.2.2.1.length ([]:List Nat)).flatten).Nodup:=by simpa using PXH.out.1.nd1.2.1
 have hlz:lo≤w1.heap.size:=(Nat.le_trans hlo1 T1.on.size)
 refine step_app good_S rfl _ _ _ _ 9 rfl i0 _ Tryz.underlying52 hi0 hz0 hz1 (by rfl) (lo:=lo) (A:=A2) (c:=c2) (xs:=p.2.2.1) (ys:=y.2.2.1) (bl:=a2) (bs:=List.replicate y.2.2.1.length []) (news:=news) (v:=.slice E2 y.2.2.1.length e2) (by go_simp) (by go_simp) hso hnd hsrc hrw hlz hb1 hb2 ?_
 intro D2 f2 bl2 w2 hap
 obtain ⟨so2,nd2,hm20,on2⟩:=hap
 have hm2:∀q∈bl2,q∈a2∨_≤q:=fun q hq=>(hm20 q hq).imp_left (fun h=>by simpa using h)
 clear hm20 hb1 hb2 hsrc hrw hnw news hso hnd hlz
 have T2:=T1.row2 so2 nd2 hm2 on2
 have oc2:Only (a1++a2++a3) W3 w2:=only_via oc1 on2 (fun q hq=>.inl (HMM.out.2.1 q hq))
 clear T1 so2 nd2 hm2 on2 qy oc1
 refine hK.out _ _ ((SKH.out _ oc2).1) (fun hS=>?_)
 clear hK K
 try simp only [Act.put,sI,sZ,sS]
 refine rU [29] ?_
 refine AllReadyU.cons rfl (fun K hK=>?_) AllReadyU.nil
 have qy:=(SKH.out _ oc2).2
 refine Exists.elim (SRC3.out _ oc2) (fun news hnw=>?_)
 have hsrc:=hnw.1
 have hrw:=hnw.2
 have hb1:(p.2.2.2.length+y.2.2.2.length)*j0.bytes≤140737488355328:=by rw [hq2];omega
 have hb2:p.2.2.2.length+y.2.2.2.length≤maxLen:=by unfold maxLen;omega
 have hso:SO shI w2 lo w2.heap.size A3 c3 p.2.2.2 a3:=T2.pg.s3
 have hnd:(a3++(List.replicate y.2.2.2.length ([]:List Nat)).flatten).Nodup:=by simpa using PXH.out.1.nd1.2.2
 have hlz:lo≤w2.heap.size:=(Nat.le_trans hlo1 T2.on.size)
 refine step_app good_I rfl _ _ _ _ 2 rfl j0 _ Tryz.underlying53 hj0 hq0 hq1 (by rfl) (lo:=lo) (A:=A3) (c:=c3) (xs:=p.2.2.2) (ys:=y.2.2.2) (bl:=a3) (bs:=List.replicate y.2.2.2.length []) (news:=news) (v:=.slice E3 y.2.2.2.length e3) (by go_simp) (by go_simp) hso hnd hsrc hrw hlz hb1 hb2 ?_
 intro D3 f3 bl3 w3 hap
 obtain ⟨so3,nd3,hm30,on3⟩:=hap
 have hm3:∀q∈bl3,q∈a3∨_≤q:=fun q hq=>(hm30 q hq).imp_left (fun h=>by simpa using h)
 clear hm30 hb1 hb2 hsrc hrw hnw news hso hnd hlz
 have T3:=T2.row3 so3 nd3 hm3 on3
 have oc3:Only (a1++a2++a3) W3 w3:=only_via oc2 on3 (fun q hq=>.inl (HMM.out.2.2 q hq))
 clear T2 so3 nd3 hm3 on3 qy oc2
 refine hK.out _ _ ((SKH.out _ oc3).1) (fun hS=>?_)
 clear hK K
 try simp only [Act.put,sI,sZ,sS]
 refine wpAnyU_line 8 (by as_aux_lemma=>kernel_rfl) rfl (by decide) ?_
 simp only [List.drop_succ_cons,List.drop_zero]
 have gq1:=T3.pg.box.cell 1
 have fq1:=T3.pg.box.frozen 1
 have T4:=T3.set 1 (.slice D1 (p.2.1.length+y.2.1.length) f1)
 have gq2:=T4.pg.box.cell 2
 have fq2:=T4.pg.box.frozen 2
 have T5:=T4.set 2 (.slice D2 (p.2.2.1.length+y.2.2.1.length) f2)
 have gq3:=T5.pg.box.cell 3
 have fq3:=T5.pg.box.frozen 3
 have T6:=(T5.set 3 (.slice D3 (p.2.2.2.length+y.2.2.2.length) f3)).done (by simp [pgC])
 refine Exists.elim (POH.out.put1 k1i eBx T6) (fun B3 hP3=>?_)
 have HF:=Hd (And.intro hP3.1 (POH.out.bel1 hlo1 k1i hP3.2.2))
 clear T3 T4 T5 T6 hP3 eBx hS oc3 px
 go_wp2_with fail
 exact HQ.out _ _ _ _ _ _ _ _ _ _ _ _ _ _ _ _ _ _ _ _ _ _ _ _ _ _ _ _ _ _ _ _ _ _ _ _ _ ⟨B3,HF.out.1⟩ HF.out.2
end Go.Proofs.YtojmcmghmnfjeaaGreatDoor
