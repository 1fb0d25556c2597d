/-
 Parts of the proof.
-/
import Derived.Test.YtojmcmghmnfjeaaGreatDoorM1F
import Derived.Shelf.Spec.SlicesInsert
import Derived.Lib.AppendZerosOnto
import Derived.Lib.Overlaps
import Derived.OwnWalk
set_option maxHeartbeats 1000000
set_option maxRecDepth 100000
namespace Go.Proofs.YtojmcmghmnfjeaaGreatDoor
open Go.RowKit
set_option linter.unusedSimpArgs false
set_option linter.unusedVariables false
section
variable {α:Type} {s:Sh α} {w w':World} {lo hi lo' hi':Nat} {news olds:List Value} {xs ys:List α} {bs bls:List (List Nat)}
theorem SO.row {A:Option Addr} {c:Nat} {bl:List Nat} (h:SO s w lo hi A c xs bl):(xs=[]∧bl=[]∧c=0)∨∃(g off:Nat) (C:Array Value) (tid:TypeId) (bls:List (List Nat)) (olds:List Value),A=some ⟨g,off,none⟩∧lo≤g∧g<hi∧Bk w g tid C∧off+c*s.size≤C.size∧bl=g::bls.flatten ∧
 Rowed s w lo hi olds xs bls∧∀j,j<olds.length→C[off+j]?=olds[j]?:=by
 rcases h.2.2 with h0 | ⟨g,off,C,tid,bls,rfl,h1,h2,hh,hcap,rfl,hbl,h3⟩
 ·exact .inl h0
 ·refine .inr ⟨g,off,C,tid,bls,(C.toList.drop off).take (xs.length*s.size),rfl,h1,h2,hh,hcap,rfl,⟨hbl,?_,fun k hk=>?_⟩,fun j hj=>?_⟩
  ·have:=Nat.le_trans (Nat.add_le_add_left (Nat.mul_le_mul_right s.size h.1) off) hcap
   simp
   omega
  ·obtain ⟨cs,b,e1,e2,e3,e4⟩:=h3 k hk
   refine ⟨cs,b,e1,e2,fun j hj=>?_,e4⟩
   have:=Nat.mul_le_mul_right s.size (Nat.succ_le_of_lt hk)
   rw [Nat.succ_mul] at this
   rw [List.getElem?_take_of_lt (by omega),List.getElem?_drop,←e3 j hj]
   simp
  ·simp at hj
   rw [List.getElem?_take_of_lt (by omega),List.getElem?_drop]
   simp
theorem SO.of_row {g off c:Nat} {C:Array Value} {tid:TypeId} (h1:lo≤g) (h2:g<hi) (hb:Bk w g tid C) (hcap:off+c*s.size≤C.size) (hl:xs.length≤c) (hc:c≤maxLen) (hr:Rowed s w lo hi olds xs bls) (ho:∀j,j<olds.length→C[off+j]?=olds[j]?) :
 SO s w lo hi (some ⟨g,off,none⟩) c xs (g::bls.flatten):=by
 refine ⟨hl,hc,.inr ⟨g,off,C,tid,bls,rfl,h1,h2,hb,hcap,rfl,hr.1,fun i hi=>?_⟩⟩
 obtain ⟨cs,b,e1,e2,e3,e4⟩:=hr.2.2 i hi
 refine ⟨cs,b,e1,e2,fun j hj=>?_,e4⟩
 have:=Nat.mul_le_mul_right s.size (Nat.succ_le_of_lt hi)
 rw [Nat.succ_mul] at this
 rw [ho _ (by rw [hr.2.1];omega)]
 exact e3 j hj
end
theorem SR.sub {α:Type} {s:Sh α} {w:World} {lo hi g off:Nat} {c:Nat} {xs:List α} (h:SR s w lo hi (some ⟨g,off,none⟩) c xs) {a b d:Nat} (hab:a≤b) (hb:b≤xs.length) (hd:b-a≤d) (hd':d≤maxLen) :
 SR s w lo hi (some ⟨g,off+a*s.size,none⟩) d ((xs.take b).drop a):=by
 refine ⟨by simp;omega,hd',fun hp=>?_⟩
 have hp':a<b:=by simp at hp;omega
 obtain ⟨g',off',hA,h1,h2,h3⟩:=h.2.2 (by omega)
 simp only [Option.some.injEq,Addr.mk.injEq,and_true] at hA
 obtain ⟨rfl,rfl⟩:=hA
 refine ⟨g,off+a*s.size,rfl,h1,h2,fun i hi=>?_⟩
 have hi':a+i<xs.length:=by simp at hi;omega
 obtain ⟨cs,⟨hc,he⟩,hr⟩:=h3 (a+i) hi'
 refine ⟨cs,⟨hc,fun j hj=>?_⟩,by simpa using hr⟩
 rw [←he j hj,Nat.add_mul]
 congr 2
 omega
theorem run_copy_cellsN {P:Program} (z:Nat) (w:World) (dT sT ty elem:TypeId) (b o dLen dCap:Nat) (a:Addr) (sLen sCap:Nat) (cs:List Value) (n:Nat)
 (hu:P.underlying dT=some (.slice elem)) (hs:(P.info? elem).map (·.size)=some z) (hn:Nat.min sLen dLen=n) (hcl:cs.length=n*z)
 (hsrc:∀j v,cs[j]?=some v→w.cell? (a.add j)=some v) (hc:∀j,j<cs.length→(w.cell? ⟨b,o+j,none⟩).isSome=true) (hf:∀j,j<cs.length→w.frozen? ⟨b,o+j,none⟩=false) (h1:∀v∈cs,v.oneCell'=true) :
 (Builtin.copy_ #[dT,sT] ty #[.slice (some ⟨b,o,none⟩) dLen dCap,.slice (some a) sLen sCap]).run P w=.ok (goInt n) (setCells w b o cs):=by
 have hl:=run_loadCells_list (P:=P) w a cs hsrc
 have hst:=run_storeCells_cells (P:=P) b o cs 0 w (by simpa using hc) (by simpa using hf) h1
 rw [setCells_eq] at hst
 rw [hcl] at hl
 cases hq:P.info? elem with
 | none=>simp [hq] at hs
 | some i =>
  have hi:i.size=z:=by simpa [hq] using hs
  simp [Builtin.copy_,run_underlying hu,Builtin.lenOf,Builtin.firstCells,sizeOf,typeInfo,hq,hi,hn,hl,hst]
theorem addr_add (g off j:Nat):(⟨g,off,none⟩:Addr).add j=⟨g,off+j,none⟩:=by unfold Addr.add;split <;> simp_all
theorem cinfo_StringS:(Tryz.prog.info? 9).map (fun i=>(i.zero,i.size,i.bytes))=some (some (.string ⟨#[]⟩),1,16):=by kernel_rfl
theorem c_CloneStringS (xs:List ByteArray) (A:Option Addr) (c:Nat) (w:World) (h:SRW shS w A c xs) (hn:xs.length≤1048576) :
 Calls Tryz.prog 81 #[.slice A xs.length c] w (ToL shS xs w):=by
 obtain ⟨i0,hi0,hz0,hz1,hz2⟩:=info_parts cinfo_StringS
 cases A with
 | none =>
  obtain rfl:xs=[]:=by
   rcases Nat.eq_zero_or_pos xs.length with h0 | hp
   ·exact List.eq_nil_of_length_eq_zero h0
   ·obtain ⟨g,off,hA,_⟩:=h.2.2 hp;cases hA
  have he:∀W:World,(binOp .eql 52 (.slice none 0 c) (.slice none 0 0)).run Tryz.prog W=.ok (.bool true) W:=fun _=>rfl
  go_enter Tryz.func81,Tryz.ntmps81
  go_wp2_with fail
  go_ret
  exact ⟨none,0,[],rfl,SO.nil _ _ _,by simp,Up.refl _⟩
 | some ad =>
  have he:∀W:World,(binOp .eql 52 (.slice (some ad) xs.length c) (.slice none 0 0)).run Tryz.prog W=.ok (.bool false) W:=fun _=>rfl
  go_enter Tryz.func81,Tryz.ntmps81
  go_wp2_with (first
   | (at_builtin
      refine wpList_app_new good_S flat_S rfl _ _ _ 9 rfl i0 _ Tryz.underlying52 hi0 hz0 hz1 (by rfl) rfl rfl (h.up good_S ((Up.refl w).alloc _)) (by rw [hz2];omega) ?_
      intro D d bl w1 hso hnd hu))
  go_ret
  exact ⟨D,d,bl,rfl,hso.wide good_S (by simp) (Nat.le_refl _),hnd,((Up.refl w).alloc _).trans hu⟩
end Go.Proofs.YtojmcmghmnfjeaaGreatDoor
