/-
 FlushBase: a bound of the marks of a base.
-/
import Derived.Test.YthdnicfbnihoaaaGreatDoorM4Oe
import Derived.Test.YthdnicfbnihoaaaGreatDoorM4Lk
namespace Go.Proofs.YthdnicfbnihoaaaGreatDoor
open Go.RowKit
set_option linter.unusedVariables false
set_option linter.unusedSimpArgs false
theorem cnt_slots (x:List TSlot):(mkL mmSlot).cnt x≤3*(shL shSlot).sz x:=by
 show (x.map mmSlot.cnt).sum≤3*(x.length+(x.map shSlot.sz).sum)
 induction x with
 | nil=>simp
 | cons n x ih =>
   have h1:mmSlot.cnt n=1+(1+((n.2.2.1.map mkS.cnt).sum+((n.2.2.2.1.map mkS.cnt).sum+(n.2.2.2.2.map mkI.cnt).sum))):=rfl
   have h2:shSlot.sz n=0+(0+((n.2.2.1.length+(n.2.2.1.map shS.sz).sum)+((n.2.2.2.1.length+(n.2.2.2.1.map shS.sz).sum)+(n.2.2.2.2.length+(n.2.2.2.2.map shI.sz).sum)))):=rfl
   have hS:∀l:List ByteArray,(l.map mkS.cnt).sum=l.length:=fun l=>by
     induction l with
     | nil=>rfl
     | cons a l ih=>simp only [List.map_cons,List.sum_cons,List.length_cons,ih];show 1+l.length=_;omega
   have hI:∀l:List Int,(l.map mkI.cnt).sum=l.length:=fun l=>by
     induction l with
     | nil=>rfl
     | cons a l ih=>simp only [List.map_cons,List.sum_cons,List.length_cons,ih];show 1+l.length=_;omega
   have e1:=hS n.2.2.1
   have e2:=hS n.2.2.2.1
   have e3:=hI n.2.2.2.2
   simp only [List.map_cons,List.sum_cons,List.length_cons]
   omega
theorem cnt_Btree (x:TBtree) (hn:shBtree.sz x≤1048576):mmTBtree.cnt x≤4194304:=by
 have h:=cnt_slots x.2
 have e:shBtree.sz x=0+(shL shSlot).sz x.2:=rfl
 have e2:mmTBtree.cnt x=0+(mkL mmSlot).cnt x.2:=rfl
 omega
theorem cnt_leL {α:Type} (m:Mk α) (s:Sh α) (c:Nat) (h:∀a,m.cnt a≤c) (l:List α):(mkL m).cnt l≤c*(shL s).sz l:=by
 show (l.map m.cnt).sum≤c*(l.length+(l.map s.sz).sum)
 have h1:(l.map m.cnt).sum≤c*l.length:=by
   induction l with
   | nil=>simp
   | cons a l ih =>
     simp only [List.map_cons,List.sum_cons,List.length_cons]
     have:=h a
     rw [Nat.mul_add]
     omega
 exact Nat.le_trans h1 (Nat.mul_le_mul_left _ (Nat.le_add_right _ _))
theorem cnt_DiskL (x:TDisk):mmTDisk.cnt x≤2*shDisk.sz x:=by
 have e1:mmTDisk.cnt x=0+((mkL mkS).cnt x.2.1+(mkL mmPut).cnt x.2.2):=rfl
 have e2:shDisk.sz x=0+((shL shS).sz x.2.1+(shL shPut).sz x.2.2):=rfl
 have h1:=cnt_leL mkS shS 2 (fun a=>by show 1≤2;omega) x.2.1
 have h2:=cnt_leL mmPut shPut 2 (fun a=>by show 1+1≤2;omega) x.2.2
 omega
theorem cnt_TopL (x:TTop):mmTTop.cnt x≤2*shTop.sz x:=by
 have e1:mmTTop.cnt x=0+(0+(0+(mkL mmSeat).cnt x.2.2.2)):=rfl
 have e2:shTop.sz x=0+(0+(0+(shL shSeat).sz x.2.2.2)):=rfl
 have h1:=cnt_leL mmSeat shSeat 2 (fun a=>by show 1+1≤2;omega) x.2.2.2
 omega
theorem cnt_Base (x:TBase) (hn:shBase.sz x≤1048576):mmTBase.cnt x≤8388608:=by
 have e1:mmTBase.cnt x=mmTBtree.cnt x.1+((mmTDisk.cnt x.2.1.1+(mmTTop.cnt x.2.1.2.1+(mmTTop.cnt x.2.1.2.2.1+((mkL mmSeat).cnt x.2.1.2.2.2.1+(mkL mkI).cnt x.2.1.2.2.2.2))))+((mmTDisk.cnt x.2.2.1.1+(0+(0+(0+0))))+(0+0))):=rfl
 have e2:shBase.sz x=shBtree.sz x.1+((shDisk.sz x.2.1.1+(shTop.sz x.2.1.2.1+(shTop.sz x.2.1.2.2.1+((shL shSeat).sz x.2.1.2.2.2.1+(shL shI).sz x.2.1.2.2.2.2))))+((shDisk.sz x.2.2.1.1+(0+(0+(0+0))))+(0+0))):=rfl
 have h0:=cnt_Btree x.1 (base_szs hn).1
 have h1:=cnt_DiskL x.2.1.1
 have h2:=cnt_TopL x.2.1.2.1
 have h3:=cnt_TopL x.2.1.2.2.1
 have h4:=cnt_leL mmSeat shSeat 2 (fun a=>by show 1+1≤2;omega) x.2.1.2.2.2.1
 have h5:=cnt_leL mkI shI 2 (fun a=>by show 1≤2;omega) x.2.1.2.2.2.2
 have h6:=cnt_DiskL x.2.2.1.1
 omega
theorem cbg_FlushBase (x:TBase) (hn:shBase.sz x≤1048576):(1:Int)+(mmTBase.cnt (baseFlush x):Nat)≤1000000000:=by
 have h:=cnt_Base x hn
 have e:∀y:TBase,mmTBase.cnt y=mmTBtree.cnt y.1+(mmTCache.cnt y.2.1+((mmTDisk.cnt y.2.2.1.1+(0+(0+(0+0))))+(0+0))):=fun _=>rfl
 rw [e,cntDisk_eq] at h
 rw [e,cntDisk_eq]
 unfold baseFlush
 split
 · dsimp only
   rw [flushS_len]
   simp only [List.length_nil]
   omega
 · decide
section
variable {P:Program} {ops:Array Oper} {rest:List Oper} {dst:Option Tmp} {ty ty':TypeId} {x:Operand} {pos:String} {after:Array Edge} {a:Act} {w:World} {Q:Exit→Act→World→Prop} {g o:Nat} {t:TypeId} {C:Array Value}
theorem wpList_load_bkg {gd:Option (Nat × Bool)} (cs:List Value) (k:Bk w g t C) (hgd:Region.wanted (⟨dst,.load ty x,ty',pos,after,gd⟩:Oper) (yielded ops a.tmps)=true) {d:TypeDesc} (hx:a.eval x=.pointer (some ⟨g,o,none⟩)) (hu:P.underlying ty=some d) (hd:d.isRow=true)
   (hi:(P.info? ty).map (·.size)=some cs.length) (hcs:(C.toList.drop o).take cs.length=cs) (h:wpList P ops Q rest (a.put dst (.agg cs.toArray)) w) :
   wpList P ops Q ((⟨dst,.load ty x,ty',pos,after,gd⟩:Oper)::rest) a w :=
 wpList_step fun K hK=>by
   rw [if_pos hgd]
   exact wp_load_mid ty x rfl g o hx cs d (k.range o cs hcs) hu hd hi (hK _ _ h)
end
end Go.Proofs.YthdnicfbnihoaaaGreatDoor
