/-
  The reference's l19Images: what its parts share.
-/
import Derived.Test.YtehhgogmbpdpbaaGreatDoorM1Mi
import Derived.Test.YtehhgogmbpdpbaaGreatDoorM1H
namespace Go.Proofs.YtehhgogmbpdpbaaGreatDoor
open Go.RowKit
set_option linter.unusedVariables false
set_option linter.unusedSimpArgs false

theorem up8 {w w' : World} (u : Up w w') {a b c d e f g h : Addr} {x y z r s t p q : Value} (H : w.cell? a = some x ∧ w.cell? b = some y ∧ w.cell? c = some z ∧ w.cell? d = some r ∧ w.cell? e = some s ∧ w.cell? f = some t ∧ w.cell? g = some p ∧ w.cell? h = some q) :
    w'.cell? a = some x ∧ w'.cell? b = some y ∧ w'.cell? c = some z ∧ w'.cell? d = some r ∧ w'.cell? e = some s ∧ w'.cell? f = some t ∧ w'.cell? g = some p ∧ w'.cell? h = some q :=
  ⟨(u.cell (cell_lt H.1)).trans H.1, (u.cell (cell_lt H.2.1)).trans H.2.1, (u.cell (cell_lt H.2.2.1)).trans H.2.2.1, (u.cell (cell_lt H.2.2.2.1)).trans H.2.2.2.1, (u.cell (cell_lt H.2.2.2.2.1)).trans H.2.2.2.2.1, (u.cell (cell_lt H.2.2.2.2.2.1)).trans H.2.2.2.2.2.1, (u.cell (cell_lt H.2.2.2.2.2.2.1)).trans H.2.2.2.2.2.2.1, (u.cell (cell_lt H.2.2.2.2.2.2.2)).trans H.2.2.2.2.2.2.2⟩
theorem up4m {w w' : World} (u : Up w w') {a b c d : Addr} {x y z r : Value} (h : w.cell? a = some x ∧ w.cell? b = some y ∧ w.cell? c = some z ∧ w.cell? d = some r) : w'.cell? a = some x ∧ w'.cell? b = some y ∧ w'.cell? c = some z ∧ w'.cell? d = some r :=
  ⟨(u.cell (cell_lt h.1)).trans h.1, (u.cell (cell_lt h.2.1)).trans h.2.1, (u.cell (cell_lt h.2.2.1)).trans h.2.2.1, (u.cell (cell_lt h.2.2.2)).trans h.2.2.2⟩
theorem two_boxes (w : World) (t : TypeId) (A B : Array Value) : Bk (((w.alloc (.cells A t)).alloc (.cells B t)).drew) w.heap.size t A ∧ Bk (((w.alloc (.cells A t)).alloc (.cells B t)).drew) (w.heap.size + 1) t B ∧ Up w (((w.alloc (.cells A t)).alloc (.cells B t)).drew) :=
  ⟨((Bk.new w t A).alloc _).drew, Bk.drew (by simpa using Bk.new (w.alloc (.cells A t)) t B), (((Up.refl w).alloc _).alloc _).drew⟩
def leftB (x y : TTree) (i k : Nat) : Bool := if h : k < y.length then (if h' : i < x.length then locLt (locOf x[i]) (locOf y[k]) else false) else true
def rightB (x y : TTree) (i k : Nat) : Bool := if h : i < x.length then (if h' : k < y.length then locLt (locOf y[k]) (locOf x[i]) else false) else true
/-- The first block of a number in a code. -/
def firstBlock (n : Nat) : Code → Option Code
  | .loop c => firstBlock n c
  | .seq a b => match firstBlock n a with
    | some c => some c
    | none => firstBlock n b
  | .block k c => if k = n then some (.block k c) else firstBlock n c
  | .scope c => firstBlock n c
  | .cond _ a b => match firstBlock n a with
    | some c => some c
    | none => firstBlock n b
  | _ => none
noncomputable def imgTail : Code := ((Tryz.f34.body.bind (firstBlock 2)).getD .skip)
/-- What a round of the merge leaves. -/
def ImgEnd (x y : TTree) (w W0 : World) (i k i' k' : Nat) (D' : Option Addr) (d' : Nat) (X' : List TImage) (bl' : List Nat) (w2 : World) : Prop :=
  i' ≤ x.length ∧ k' ≤ y.length ∧ SO shImage w2 (w.heap.size + 2) w2.heap.size D' d' X' bl' ∧ bl'.Nodup ∧ Up W0 w2 ∧ X'.length ≤ i' + k' ∧ Hid (imgs x y = X' ++ imgs (x.drop i') (y.drop k')) ∧ (x.length - i') + (y.length - k') < (x.length - i) + (y.length - k)
set_option maxRecDepth 100000 in
/-- A round's end, whatever the frame's words for its three slots are. -/
theorem img_fin {x y : TTree} {w W0 w2 : World} {i k i' k' : Nat} {D' : Option Addr} {d' : Nat} {X' : List TImage} {bl' : List Nat} {Q : Exit → Act → World → Prop} {c0 c1 c4 c14 c177 z5 z6 z7 z8 z9 z10 z11 z12 z13 z15 z16 z17 z18 z19 z20 z21 z22 z23 z24 z25 z26 z27 z28 z29 z30 z31 z32 z33 z34 z35 z36 z37 z38 z39 z40 z41 z42 z43 z44 z45 z46 z47 z48 z49 z50 z51 z52 z53 z54 z55 z56 z57 z58 z59 z60 z61 z62 z63 z64 z65 z66 z67 z68 z69 z70 z71 z72 z73 z74 z75 z76 z77 z78 z79 z80 z81 z82 z83 z84 z85 z86 z87 z88 z89 z90 z91 z92 z93 z94 z95 z96 z97 z98 z99 z100 z101 z102 z103 z104 z105 z106 z107 z108 z109 z110 z111 z112 z113 z114 z115 z116 z117 z118 z119 z120 z121 z122 z123 z124 z125 z126 z127 z128 z129 z130 z131 z132 z133 z134 z135 z136 z137 z138 z139 z140 z141 z142 z143 z144 z145 z146 z147 z148 z149 z150 z151 z152 z153 z154 z155 z156 z157 z158 z159 z160 z161 z162 z163 z164 z165 z166 z167 z168 z169 z170 z171 z172 z173 z174 z175 z176 : Value}
    (HQ : Hid (∀ (i' k' : Nat) (D' : Option Addr) (d' : Nat) (X' : List TImage) (bl' : List Nat) (w2 : World) (z8 z9 z10 z11 z12 z13 z15 z16 z17 z18 z19 z20 z21 z22 z23 z24 z25 z26 z27 z28 z29 z30 z31 z32 z33 z34 z35 z36 z37 z38 z39 z40 z41 z42 z43 z44 z45 z46 z47 z48 z49 z50 z51 z52 z53 z54 z55 z56 z57 z58 z59 z60 z61 z62 z63 z64 z65 z66 z67 z68 z69 z70 z71 z72 z73 z74 z75 z76 z77 z78 z79 z80 z81 z82 z83 z84 z85 z86 z87 z88 z89 z90 z91 z92 z93 z94 z95 z96 z97 z98 z99 z100 z101 z102 z103 z104 z105 z106 z107 z108 z109 z110 z111 z112 z113 z114 z115 z116 z117 z118 z119 z120 z121 z122 z123 z124 z125 z126 z127 z128 z129 z130 z131 z132 z133 z134 z135 z136 z137 z138 z139 z140 z141 z142 z143 z144 z145 z146 z147 z148 z149 z150 z151 z152 z153 z154 z155 z156 z157 z158 z159 z160 z161 z162 z163 z164 z165 z166 z167 z168 z169 z170 z171 z172 z173 z174 z175 z176 : Value), ImgEnd x y w W0 i k i' k' D' d' X' bl' w2 → Q .normal ⟨#[c0, c1, .pointer (some ⟨w.heap.size, 0, none⟩), .pointer (some ⟨w.heap.size + 1, 0, none⟩), c4, .slice D' X'.length d', .int .i64 i', .int .i64 k', z8, z9, z10, z11, z12, z13, c14, z15, z16, z17, z18, z19, z20, z21, z22, z23, z24, z25, z26, z27, z28, z29, z30, z31, z32, z33, z34, z35, z36, z37, z38, z39, z40, z41, z42, z43, z44, z45, z46, z47, z48, z49, z50, z51, z52, z53, z54, z55, z56, z57, z58, z59, z60, z61, z62, z63, z64, z65, z66, z67, z68, z69, z70, z71, z72, z73, z74, z75, z76, z77, z78, z79, z80, z81, z82, z83, z84, z85, z86, z87, z88, z89, z90, z91, z92, z93, z94, z95, z96, z97, z98, z99, z100, z101, z102, z103, z104, z105, z106, z107, z108, z109, z110, z111, z112, z113, z114, z115, z116, z117, z118, z119, z120, z121, z122, z123, z124, z125, z126, z127, z128, z129, z130, z131, z132, z133, z134, z135, z136, z137, z138, z139, z140, z141, z142, z143, z144, z145, z146, z147, z148, z149, z150, z151, z152, z153, z154, z155, z156, z157, z158, z159, z160, z161, z162, z163, z164, z165, z166, z167, z168, z169, z170, z171, z172, z173, z174, z175, z176, c177], []⟩ w2))
    (e6 : z6 = .int .i64 i') (e7 : z7 = .int .i64 k') (e5 : z5 = .slice D' X'.length d') (h : ImgEnd x y w W0 i k i' k' D' d' X' bl' w2) : Q .normal ⟨#[c0, c1, .pointer (some ⟨w.heap.size, 0, none⟩), .pointer (some ⟨w.heap.size + 1, 0, none⟩), c4, z5, z6, z7, z8, z9, z10, z11, z12, z13, c14, z15, z16, z17, z18, z19, z20, z21, z22, z23, z24, z25, z26, z27, z28, z29, z30, z31, z32, z33, z34, z35, z36, z37, z38, z39, z40, z41, z42, z43, z44, z45, z46, z47, z48, z49, z50, z51, z52, z53, z54, z55, z56, z57, z58, z59, z60, z61, z62, z63, z64, z65, z66, z67, z68, z69, z70, z71, z72, z73, z74, z75, z76, z77, z78, z79, z80, z81, z82, z83, z84, z85, z86, z87, z88, z89, z90, z91, z92, z93, z94, z95, z96, z97, z98, z99, z100, z101, z102, z103, z104, z105, z106, z107, z108, z109, z110, z111, z112, z113, z114, z115, z116, z117, z118, z119, z120, z121, z122, z123, z124, z125, z126, z127, z128, z129, z130, z131, z132, z133, z134, z135, z136, z137, z138, z139, z140, z141, z142, z143, z144, z145, z146, z147, z148, z149, z150, z151, z152, z153, z154, z155, z156, z157, z158, z159, z160, z161, z162, z163, z164, z165, z166, z167, z168, z169, z170, z171, z172, z173, z174, z175, z176, c177], []⟩ w2 := by
  subst e6 e7 e5
  exact HQ.out i' k' D' d' X' bl' w2 z8 z9 z10 z11 z12 z13 z15 z16 z17 z18 z19 z20 z21 z22 z23 z24 z25 z26 z27 z28 z29 z30 z31 z32 z33 z34 z35 z36 z37 z38 z39 z40 z41 z42 z43 z44 z45 z46 z47 z48 z49 z50 z51 z52 z53 z54 z55 z56 z57 z58 z59 z60 z61 z62 z63 z64 z65 z66 z67 z68 z69 z70 z71 z72 z73 z74 z75 z76 z77 z78 z79 z80 z81 z82 z83 z84 z85 z86 z87 z88 z89 z90 z91 z92 z93 z94 z95 z96 z97 z98 z99 z100 z101 z102 z103 z104 z105 z106 z107 z108 z109 z110 z111 z112 z113 z114 z115 z116 z117 z118 z119 z120 z121 z122 z123 z124 z125 z126 z127 z128 z129 z130 z131 z132 z133 z134 z135 z136 z137 z138 z139 z140 z141 z142 z143 z144 z145 z146 z147 z148 z149 z150 z151 z152 z153 z154 z155 z156 z157 z158 z159 z160 z161 z162 z163 z164 z165 z166 z167 z168 z169 z170 z171 z172 z173 z174 z175 z176 h
end Go.Proofs.YtehhgogmbpdpbaaGreatDoor
