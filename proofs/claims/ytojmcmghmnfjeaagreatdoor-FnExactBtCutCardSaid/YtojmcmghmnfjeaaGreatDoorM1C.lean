/-
 Parts of the proof.
-/
import Derived.Test.YtojmcmghmnfjeaaGreatDoorM1B
set_option maxHeartbeats 8000000
set_option maxRecDepth 100000
namespace Go.Proofs.YtojmcmghmnfjeaaGreatDoor
open Go.RowKit
set_option linter.unusedVariables false
set_option linter.unusedSimpArgs false
def beT (n:Nat):Nat→List UInt8
 | 0=>[]
 | m+1=>beT n m++[UInt8.ofNat (n / 256 ^ (7-m))]
theorem beT_len (n:Nat):∀m,(beT n m).length=m
 | 0=>rfl
 | m+1=>by simp [beT,beT_len n m]
def escB (c:UInt8):List UInt8:=if c=0 then [0,255] else [c]
def escL (l:List UInt8):List UInt8:=l.flatMap escB
theorem escL_snoc (l:List UInt8) (c:UInt8):escL (l++[c])=escL l++escB c:=by simp [escL]
theorem escL_len:∀l:List UInt8,(escL l).length≤2*l.length
 | []=>Nat.le_refl _
 | c::l=>by
  have:=escL_len l
  have h:(escB c).length≤2:=by unfold escB;split <;> simp
  show ((escB c)++escL l).length≤2*(l.length+1)
  rw [List.length_append];omega
def subKeyL (s:ByteArray):List UInt8:=if canon s=true then 1::beT (numOf s+1000000000000000000).toNat 8 else 2::(escL s.data.toList++[0,0])
def putSubsL (l:List ByteArray):List UInt8:=if subsB l=true then l.flatMap subKeyL else []
theorem subKeyL_len (s:ByteArray):(subKeyL s).length≤2*s.size+9:=by
 unfold subKeyL
 split
 ·rw [List.length_cons,beT_len];omega
 ·have:=escL_len s.data.toList
  rw [slen] at this
  simp;omega
theorem rowed_UU {w:World} {lo hi:Nat} {a b:UInt8}:Rowed shU w lo hi [.int .u8 (a.toNat:Int),.int .u8 (b.toNat:Int)] [a,b] [[],[]]:=by
 refine ⟨rfl,rfl,fun i hi=>?_⟩
 have hi2:i=0∨i=1:=by simp at hi;omega
 rcases hi2 with rfl | rfl
 ·exact ⟨[.int .u8 (a.toNat:Int)],[],rfl,rfl,fun j hj=>by obtain rfl:j=0:=(by have:j<1:=hj;omega);rfl,rfl,rfl⟩
 ·exact ⟨[.int .u8 (b.toNat:Int)],[],rfl,rfl,fun j hj=>by obtain rfl:j=0:=(by have:j<1:=hj;omega);rfl,rfl,rfl⟩
theorem Src.box2 {P:Program} {w:World} {tx e':TypeId} (hk:P.underlying tx=some (.slice e')) {B:Nat} {t:TypeId} {u v:Value} (hB:Bk w B t #[u,v]) (h1:u.oneCell'=true) (h2:v.oneCell'=true) {n:Nat} (hn:n=1):Src P n tx (.slice (some ⟨B,0,none⟩) 2 2) 2 [u,v] w :=
 Src.ofSlice w hk ⟨B,0,none⟩ 2 2 [u,v] (by rw [hn];rfl) (fun j x hx=>by
  have hadd:(⟨B,0,none⟩:Addr).add j=⟨B,0+j,none⟩:=by unfold Addr.add;split <;> simp_all
  rw [hadd,Nat.zero_add,hB.cell];simpa using hx) (fun x hx=>by
  rcases List.mem_cons.1 hx with rfl | hx
  ·exact h1
  ·have:x=v:=by simpa using hx
   rw [this];exact h2)
theorem c_l02Key (s:ByteArray) (w:World) (hs:s.size≤1048576):Calls Tryz.prog 134 #[.string s] w (RetV (.string (bs (subKeyL s))) w):=by
 have hsm:s.size≤maxLen:=by unfold maxLen;omega
 obtain ⟨i0,hi0,hz0,hzc,hz2⟩:=info_parts info_B8
 cases hc:canon s
 ·have hk:subKeyL s=2::(escL s.data.toList++[0,0]):=by unfold subKeyL;rw [if_neg (by rw [hc];simp)]
  have HK:=Hd hk
  clear hk
  have so0:SO shU (w.alloc (.cells #[] 5)) w.heap.size (w.alloc (.cells #[] 5)).heap.size (some ⟨w.heap.size,0,none⟩) 0 ([]:List UInt8) []:=⟨Nat.le_refl _,Nat.zero_le _,.inl ⟨rfl,rfl,rfl⟩⟩
  have uu0:Up w (w.alloc (.cells #[] 5)):=(Up.refl w).alloc _
  have nd0:([]:List Nat).Nodup:=by simp
  go_enter Tryz.func134,Tryz.ntmps134
  go_wp2_with fail
  refine (c_l01Canon s _ hsm).mono ?_
  rintro e w1 ⟨rfl,u1⟩
  rw [hc]
  have so1:=so0.up good_U u1
  have uu1:=uu0.trans u1
  have kqa:=Bk.new w1 5 #[.int .u8 2]
  have uqa:=(Up.refl w1).alloc (.cells #[.int .u8 2] 5)
  have hoa:shU.own (w1.alloc (.cells #[.int .u8 2] 5)) w.heap.size (w1.alloc (.cells #[.int .u8 2] 5)).heap.size [.int .u8 2] 2 []:=⟨rfl,rfl⟩
  have hloa:=uu1.size
  have hx1a:((([]:List UInt8)).length+1)*i0.bytes≤140737488355328:=by rw [hz2];first | (simp;done) | (simp;omega)
  have hx2a:(([]:List UInt8)).length+1≤maxLen:=by unfold maxLen;first | (simp;done) | (simp;omega)
  go_wp2_with (first
   | (at_builtin
      refine wpList_app good_U rfl _ _ _ _ 5 rfl i0 _ Tryz.underlying155 hi0 hz0 hzc (by rfl) (lo:=w.heap.size) (xs:=([]:List UInt8)) (ys:=[2]) (bs:=[[]]) (news:=[.int .u8 2]) rfl rfl (so1.up good_U uqa) (by simp;try exact nd0) (Src.box (t:=5) Tryz.underlying155 kqa (by simp [Value.oneCell']) (by rw [hzc];rfl)) (Rowed.one good_U hoa) (by simp;omega) hx1a hx2a ?_
      intro Da da bla wa hapa
      obtain ⟨soa,nda,mema,ona⟩:=hapa))
  have ua:=(uu1.trans uqa).only ona (fun y hy=>absurd hy (by simp))
  have soa':SO shU wa w.heap.size wa.heap.size Da da (2::escL (s.data.toList.take 0)) bla:=soa
  clear soa so1 so0 hoa hx1a hx2a kqa hloa
  go_loopw [6,3] (fun i out wr=>∃(k:Nat) (D:Option Addr) (d:Nat) (bl:List Nat),k≤s.size∧i=.int .i64 k∧out=.slice D (2::escL (s.data.toList.take k)).length d∧SO shU wr w.heap.size wr.heap.size D d (2::escL (s.data.toList.take k)) bl∧bl.Nodup∧Up w wr) (fun i _ _=>s.size-(intOf i).toNat)
  case atStart=>exact ⟨0,Da,da,bla,Nat.zero_le _,rfl,rfl,soa',nda,ua⟩
  case round =>
   obtain ⟨k,D,d,bl,hk,rfl,rfl,so,nd,hu⟩:=hrel
   have hll:=slen s
   have hel:=escL_len (s.data.toList.take k)
   rw [List.length_take] at hel
   by_cases hlt:k<s.size
   ·have hsn:escL (s.data.toList.take (k+1))=escL (s.data.toList.take k)++escB s[k]:=by
     rw [List.take_succ_eq_append_getElem (by omega),escL_snoc];rfl
    have hlen1:(2::escL (s.data.toList.take k)).length≤2*k+1:=by rw [List.length_cons];omega
    have HLL:=Hd hlen1
    by_cases hz:s[k]=0
    ·have hsn2:2::escL (s.data.toList.take (k+1))=((2::escL (s.data.toList.take k))++[0])++[255]:=by rw [hsn,hz];simp [escB]
     have HS:=Hd hsn2
     have e0:=u8_yb 0 rfl hz
     have hle:((2::escL (s.data.toList.take k))++[(0:UInt8)]).length≤2*k+2:=by rw [List.length_append];simp only [List.length_cons,List.length_nil] at hlen1 ⊢;omega
     have HLE:=Hd hle
     clear hsn hsn2 hz hel hll hlen1 hle
     generalize 2::escL (s.data.toList.take k)=L1 at *
     have kqb:=Bk.new wr 5 #[.int .u8 0]
     have uqb:=(Up.refl wr).alloc (.cells #[.int .u8 0] 5)
     have hob:shU.own (wr.alloc (.cells #[.int .u8 0] 5)) w.heap.size (wr.alloc (.cells #[.int .u8 0] 5)).heap.size [.int .u8 0] 0 []:=⟨rfl,rfl⟩
     have hlob:=hu.size
     have hx1b:((L1).length+1)*i0.bytes≤140737488355328:=by rw [hz2];have:=HLL.out;omega
     have hx2b:(L1).length+1≤maxLen:=by unfold maxLen;have:=HLL.out;omega
     go_wp2_with (first
      | (at_builtin
         refine wpList_app good_U rfl _ _ _ _ 5 rfl i0 _ Tryz.underlying155 hi0 hz0 hzc (by rfl) (lo:=w.heap.size) (xs:=L1) (ys:=[0]) (bs:=[[]]) (news:=[.int .u8 0]) rfl rfl (so.up good_U uqb) (by simp;try exact nd) (Src.box (t:=5) Tryz.underlying155 kqb (by simp [Value.oneCell']) (by rw [hzc];rfl)) (Rowed.one good_U hob) (by simp;omega) hx1b hx2b ?_
         intro Db db blb wb hapb
         obtain ⟨sob,ndb,memb,onb⟩:=hapb
         have hub:=(hu.trans uqb).only onb (fun y hy=>(so.in_ good_U y hy).1)
         have sob':SO shU wb w.heap.size wb.heap.size Db db (L1++[0]) blb:=sob
         have hlb:(L1++[(0:UInt8)]).length=L1.length+1:=by simp
         have kqc:=Bk.new wb 5 #[.int .u8 255]
         have uqc:=(Up.refl wb).alloc (.cells #[.int .u8 255] 5)
         have hoc:shU.own (wb.alloc (.cells #[.int .u8 255] 5)) w.heap.size (wb.alloc (.cells #[.int .u8 255] 5)).heap.size [.int .u8 255] 255 []:=⟨rfl,rfl⟩
         have hloc:=hub.size
         have hx1c:(((L1++[0])).length+1)*i0.bytes≤140737488355328:=by rw [hz2];have:=HLE.out;omega
         have hx2c:((L1++[0])).length+1≤maxLen:=by unfold maxLen;have:=HLE.out;omega)
      | (at_builtin
         refine wpList_app good_U rfl _ _ _ _ 5 rfl i0 _ Tryz.underlying155 hi0 hz0 hzc (by rfl) (lo:=w.heap.size) (xs:=(L1++[0])) (ys:=[255]) (bs:=[[]]) (news:=[.int .u8 255]) (by rw [hlb];rfl) rfl (sob'.up good_U uqc) (by simp;try exact ndb) (Src.box (t:=5) Tryz.underlying155 kqc (by simp [Value.oneCell']) (by rw [hzc];rfl)) (Rowed.one good_U hoc) (by simp;omega) hx1c hx2c ?_
         intro Dc dc blc wc hapc
         obtain ⟨soc,ndc,memc,onc⟩:=hapc))
     go_roundw
     case rel=>exact ⟨k+1,Dc,dc,blc,by omega,by go_num,by rw [HS.out];simp,by rw [HS.out];exact soc,ndc,(hub.trans uqc).only onc (fun y hy=>(sob'.in_ good_U y hy).1)⟩
     case measure=>simp [intOf];omega
    ·have hsn2:2::escL (s.data.toList.take (k+1))=(2::escL (s.data.toList.take k))++[s[k]]:=by rw [hsn];simp [escB,hz]
     have HS:=Hd hsn2
     have n0:=u8_nn 0 rfl hz
     have b0:=u8_nb 0 rfl hz
     obtain ⟨b,hb⟩:∃b,b=s[k]:=⟨_,rfl⟩
     rw [←hb] at HS
     have hbz:(s[k].toNat:Int)=(b.toNat:Int):=by rw [hb]
     have n0':¬(b.toNat:Int)=0:=by rw [←hbz];exact n0
     have b0':((b.toNat:Int)==0)=false:=by rw [←hbz];exact b0
     clear hsn hsn2 hz hel hll hlen1 hb n0 b0
     generalize 2::escL (s.data.toList.take k)=L1 at *
     have kqb:=Bk.new wr 5 #[.int .u8 (b.toNat:Int)]
     have uqb:=(Up.refl wr).alloc (.cells #[.int .u8 (b.toNat:Int)] 5)
     have hob:shU.own (wr.alloc (.cells #[.int .u8 (b.toNat:Int)] 5)) w.heap.size (wr.alloc (.cells #[.int .u8 (b.toNat:Int)] 5)).heap.size [.int .u8 (b.toNat:Int)] b []:=⟨rfl,rfl⟩
     have hlob:=hu.size
     have hx1b:((L1).length+1)*i0.bytes≤140737488355328:=by rw [hz2];have:=HLL.out;omega
     have hx2b:(L1).length+1≤maxLen:=by unfold maxLen;have:=HLL.out;omega
     go_wp2_with (first
      | (at_builtin
         refine wpList_app good_U rfl _ _ _ _ 5 rfl i0 _ Tryz.underlying155 hi0 hz0 hzc (by rfl) (lo:=w.heap.size) (xs:=L1) (ys:=[b]) (bs:=[[]]) (news:=[.int .u8 (b.toNat:Int)]) rfl rfl (so.up good_U uqb) (by simp;try exact nd) (Src.box (t:=5) Tryz.underlying155 kqb (by simp [Value.oneCell']) (by rw [hzc];rfl)) (Rowed.one good_U hob) (by simp;omega) hx1b hx2b ?_
         intro Db db blb wb hapb
         obtain ⟨sob,ndb,memb,onb⟩:=hapb))
     go_roundw
     case rel=>exact ⟨k+1,Db,db,blb,by omega,by go_num,by rw [HS.out];simp,by rw [HS.out];exact sob,ndb,(hu.trans uqb).only onb (fun y hy=>(so.in_ good_U y hy).1)⟩
     case measure=>simp [intOf];omega
   ·obtain rfl:k=s.size:=by omega
    have ht:s.data.toList.take s.size=s.data.toList:=List.take_of_length_le (by omega)
    rw [ht] at so hel ⊢
    have hlen1:(2::escL s.data.toList).length≤2*s.size+1:=by rw [List.length_cons];omega
    have HLL:=Hd hlen1
    have hk2:bs (subKeyL s)=bs ((2::escL s.data.toList)++[0,0]):=by rw [HK.out];rfl
    have HK2:=Hd hk2
    clear ht hel hlen1 hll hk2
    generalize 2::escL s.data.toList=L1 at *
    have kq:=Bk.new wr 5 #[.int .u8 0,.int .u8 0]
    have uq:=(Up.refl wr).alloc (.cells #[.int .u8 0,.int .u8 0] 5)
    have hlo:=hu.size
    have hx1:(L1.length+2)*i0.bytes≤140737488355328:=by rw [hz2];have:=HLL.out;omega
    have hx2:L1.length+2≤maxLen:=by unfold maxLen;have:=HLL.out;omega
    have HCV:=Hd (fun (W:World) (g off d:Nat) (hby:Lib.Bytes W g off ⟨(L1++[0,0]).toArray⟩)=>Lib.run_convert_whole (P:=Tryz.prog) W 155 5 9 Tryz.underlying155 Tryz.underlying5 Tryz.underlying9 g off ⟨(L1++[0,0]).toArray⟩ hby d)
    go_wp2_with (first
     | (at_builtin
        refine wpList_app good_U rfl _ _ _ _ 5 rfl i0 _ Tryz.underlying155 hi0 hz0 hzc (by rfl) (lo:=w.heap.size) (xs:=L1) (ys:=[0,0]) (bs:=[[],[]]) (news:=[.int .u8 0,.int .u8 0]) rfl rfl (so.up good_U uq) (by simp;try exact nd) (Src.box2 (t:=5) Tryz.underlying155 kq rfl rfl hzc) rowed_UU (by simp;omega) hx1 hx2 ?_
        intro D' d' bl' w2 hap
        obtain ⟨so2,nd2,mem2,on2⟩:=hap
        have hu2:=(hu.trans uq).only on2 (fun y hy=>(so.in_ good_U y hy).1)
        obtain ⟨g,off,hA,hby⟩:=so2.bytes (by simp)
        have hcv:=HCV.out w2 g off d' hby
        have hsz:(ByteArray.mk (L1++[0,0]).toArray).size=L1.length+2:=by simp [ByteArray.size]
        rw [hsz] at hcv
        subst hA
        clear hby hsz))
    go_ret
    exact ⟨by rw [HK2.out];first | done | rfl,hu2⟩
 ·have hnb:=numOf_le s
  obtain ⟨N,hN⟩:∃N,N=(numOf s+1000000000000000000).toNat:=⟨_,rfl⟩
  have hNi:numOf s+1000000000000000000=(N:Int):=by omega
  have hNb:N≤1999999999999999999:=by omega
  have hk:subKeyL s=1::beT N 8:=by unfold subKeyL;rw [if_pos hc,hN]
  have HK:=Hd hk
  have HNB:=Hd hNb
  obtain ⟨z,hz⟩:∃z,z=numOf s+1000000000000000000:=⟨_,rfl⟩
  have hzN:z=(N:Int):=by omega
  have hz1:0≤z:=by omega
  have hz2':z≤1999999999999999999:=by omega
  have hw3:numOf s+1000000000000000000=z:=hz.symm
  have HZN:=Hd hzN
  obtain ⟨hnb1,hnb2⟩:=hnb
  clear hN hk hNb hNi hz hzN
  have so0:SO shU (w.alloc (.cells #[] 5)) w.heap.size (w.alloc (.cells #[] 5)).heap.size (some ⟨w.heap.size,0,none⟩) 0 ([]:List UInt8) []:=⟨Nat.le_refl _,Nat.zero_le _,.inl ⟨rfl,rfl,rfl⟩⟩
  have uu0:Up w (w.alloc (.cells #[] 5)):=(Up.refl w).alloc _
  have nd0:([]:List Nat).Nodup:=by simp
  go_enter Tryz.func134,Tryz.ntmps134
  go_wp2_with fail
  refine (c_l01Canon s _ hsm).mono ?_
  rintro e w1 ⟨rfl,u1⟩
  rw [hc]
  have so1:=so0.up good_U u1
  have uu1:=uu0.trans u1
  go_wp2_with fail
  refine (c_l01Of s _ hsm).mono ?_
  rintro e w1 ⟨rfl,rfl⟩
  have kqa:=Bk.new w1 5 #[.int .u8 1]
  have uqa:=(Up.refl w1).alloc (.cells #[.int .u8 1] 5)
  have hoa:shU.own (w1.alloc (.cells #[.int .u8 1] 5)) w.heap.size (w1.alloc (.cells #[.int .u8 1] 5)).heap.size [.int .u8 1] 1 []:=⟨rfl,rfl⟩
  have hloa:=uu1.size
  have hx1a:((([]:List UInt8)).length+1)*i0.bytes≤140737488355328:=by rw [hz2];first | (simp;done) | (simp;omega)
  have hx2a:(([]:List UInt8)).length+1≤maxLen:=by unfold maxLen;first | (simp;done) | (simp;omega)
  go_wp2_with (first
   | (at_builtin
      refine wpList_app good_U rfl _ _ _ _ 5 rfl i0 _ Tryz.underlying155 hi0 hz0 hzc (by rfl) (lo:=w.heap.size) (xs:=([]:List UInt8)) (ys:=[1]) (bs:=[[]]) (news:=[.int .u8 1]) rfl rfl (so1.up good_U uqa) (by simp;try exact nd0) (Src.box (t:=5) Tryz.underlying155 kqa (by simp [Value.oneCell']) (by rw [hzc];rfl)) (Rowed.one good_U hoa) (by simp;omega) hx1a hx2a ?_
      intro Da da bla wa hapa
      obtain ⟨soa,nda,mema,ona⟩:=hapa))
  have ua:=(uu1.trans uqa).only ona (fun y hy=>absurd hy (by simp))
  have soa':SO shU wa w.heap.size wa.heap.size Da da (1::beT N 0) bla:=soa
  clear soa so1 so0 hoa hx1a hx2a kqa hloa
  go_loopw [5,3] (fun k out wr=>∃(m:Nat) (D:Option Addr) (d:Nat) (bl:List Nat),m≤8∧k=.int .i64 (7-(m:Int))∧out=.slice D (1::beT N m).length d∧SO shU wr w.heap.size wr.heap.size D d (1::beT N m) bl∧bl.Nodup∧Up w wr) (fun k _ _=>(intOf k+1).toNat)
  case atStart=>exact ⟨0,Da,da,bla,Nat.zero_le _,rfl,rfl,soa',nda,ua⟩
  case round =>
   obtain ⟨m,D,d,bl,hm,rfl,rfl,so,nd,hu⟩:=hrel
   by_cases hlt:m<8
   ·have hlen:=beT_len N m
    have hst:beT N (m+1)=beT N m++[UInt8.ofNat (N / 256 ^ (7-m))]:=rfl
    obtain ⟨q,hq⟩:∃q,q=N / 256 ^ (7-m):=⟨_,rfl⟩
    have hqn:q≤1999999999999999999:=by rw [hq];exact Nat.le_trans (Nat.div_le_self _ _) HNB.out
    rw [←hq] at hst
    obtain ⟨b,hb⟩:∃b,b=UInt8.ofNat q:=⟨_,rfl⟩
    rw [←hb] at hst
    have hcv:IntKind.u8.wrap (q:Int)=(b.toNat:Int):=by
     have:b.toNat=q%256:=by rw [hb];simp [UInt8.toNat_ofNat']
     rw [this]
     show ((q:Int)%256)=_
     omega
    have hbl:=b.toNat_lt
    have hbm:(b.toNat:Int)%256=(b.toNat:Int):=by omega
    have hqb:(q:Int)%256=(b.toNat:Int):=by rw [←hcv];rfl
    have HS:=Hd hst
    have HB:=Hd hb
    have HL:=Hd hlen
    clear hst hb hlen
    have hm8:m=0∨m=1∨m=2∨m=3∨m=4∨m=5∨m=6∨m=7:=by omega
    rcases hm8 with rfl | rfl | rfl | rfl | rfl | rfl | rfl | rfl
    ·have hdv:z / 72057594037927936=(q:Int):=by
      rw [hq,HZN.out]
      show (N:Int) / 72057594037927936=((N / 72057594037927936:Nat):Int)
      omega
     clear hq hqn
     have kqb:=Bk.new wr 5 #[.int .u8 (b.toNat:Int)]
     have uqb:=(Up.refl wr).alloc (.cells #[.int .u8 (b.toNat:Int)] 5)
     have hob:shU.own (wr.alloc (.cells #[.int .u8 (b.toNat:Int)] 5)) w.heap.size (wr.alloc (.cells #[.int .u8 (b.toNat:Int)] 5)).heap.size [.int .u8 (b.toNat:Int)] b []:=⟨rfl,rfl⟩
     have hlob:=hu.size
     have hx1b:((1::beT N 0).length+1)*i0.bytes≤140737488355328:=by rw [hz2];first | (simp only [List.length_cons,HL.out];omega)
     have hx2b:(1::beT N 0).length+1≤maxLen:=by unfold maxLen;first | (simp only [List.length_cons,HL.out];omega)
     go_wp2_with (first
      | (at_builtin
         refine wpList_app good_U rfl _ _ _ _ 5 rfl i0 _ Tryz.underlying155 hi0 hz0 hzc (by rfl) (lo:=w.heap.size) (xs:=1::beT N 0) (ys:=[b]) (bs:=[[]]) (news:=[.int .u8 (b.toNat:Int)]) rfl rfl (so.up good_U uqb) (by simp;try exact nd) (Src.box (t:=5) Tryz.underlying155 kqb (by simp [Value.oneCell']) (by rw [hzc];rfl)) (Rowed.one good_U hob) (by simp;omega) hx1b hx2b ?_
         intro Db db blb wb hapb
         obtain ⟨sob,ndb,memb,onb⟩:=hapb))
     go_roundw
     case rel =>
      refine ⟨0+1,Db,db,blb,by omega,by first | rfl | (congr 1;omega),by rw [HS.out];simp,?_,ndb,(hu.trans uqb).only onb (fun y hy=>(so.in_ good_U y hy).1)⟩
      rw [HS.out]
      exact sob
     case measure=>simp [intOf]
    ·have hdv:z / 281474976710656=(q:Int):=by
      rw [hq,HZN.out]
      show (N:Int) / 281474976710656=((N / 281474976710656:Nat):Int)
      omega
     clear hq hqn
     have kqb:=Bk.new wr 5 #[.int .u8 (b.toNat:Int)]
     have uqb:=(Up.refl wr).alloc (.cells #[.int .u8 (b.toNat:Int)] 5)
     have hob:shU.own (wr.alloc (.cells #[.int .u8 (b.toNat:Int)] 5)) w.heap.size (wr.alloc (.cells #[.int .u8 (b.toNat:Int)] 5)).heap.size [.int .u8 (b.toNat:Int)] b []:=⟨rfl,rfl⟩
     have hlob:=hu.size
     have hx1b:((1::beT N 1).length+1)*i0.bytes≤140737488355328:=by rw [hz2];first | (simp only [List.length_cons,HL.out];omega)
     have hx2b:(1::beT N 1).length+1≤maxLen:=by unfold maxLen;first | (simp only [List.length_cons,HL.out];omega)
     go_wp2_with (first
      | (at_builtin
         refine wpList_app good_U rfl _ _ _ _ 5 rfl i0 _ Tryz.underlying155 hi0 hz0 hzc (by rfl) (lo:=w.heap.size) (xs:=1::beT N 1) (ys:=[b]) (bs:=[[]]) (news:=[.int .u8 (b.toNat:Int)]) rfl rfl (so.up good_U uqb) (by simp;try exact nd) (Src.box (t:=5) Tryz.underlying155 kqb (by simp [Value.oneCell']) (by rw [hzc];rfl)) (Rowed.one good_U hob) (by simp;omega) hx1b hx2b ?_
         intro Db db blb wb hapb
         obtain ⟨sob,ndb,memb,onb⟩:=hapb))
     go_roundw
     case rel =>
      refine ⟨1+1,Db,db,blb,by omega,by first | rfl | (congr 1;omega),by rw [HS.out];simp,?_,ndb,(hu.trans uqb).only onb (fun y hy=>(so.in_ good_U y hy).1)⟩
      rw [HS.out]
      exact sob
     case measure=>simp [intOf]
    ·have hdv:z / 1099511627776=(q:Int):=by
      rw [hq,HZN.out]
      show (N:Int) / 1099511627776=((N / 1099511627776:Nat):Int)
      omega
     clear hq hqn
     have kqb:=Bk.new wr 5 #[.int .u8 (b.toNat:Int)]
     have uqb:=(Up.refl wr).alloc (.cells #[.int .u8 (b.toNat:Int)] 5)
     have hob:shU.own (wr.alloc (.cells #[.int .u8 (b.toNat:Int)] 5)) w.heap.size (wr.alloc (.cells #[.int .u8 (b.toNat:Int)] 5)).heap.size [.int .u8 (b.toNat:Int)] b []:=⟨rfl,rfl⟩
     have hlob:=hu.size
     have hx1b:((1::beT N 2).length+1)*i0.bytes≤140737488355328:=by rw [hz2];first | (simp only [List.length_cons,HL.out];omega)
     have hx2b:(1::beT N 2).length+1≤maxLen:=by unfold maxLen;first | (simp only [List.length_cons,HL.out];omega)
     go_wp2_with (first
      | (at_builtin
         refine wpList_app good_U rfl _ _ _ _ 5 rfl i0 _ Tryz.underlying155 hi0 hz0 hzc (by rfl) (lo:=w.heap.size) (xs:=1::beT N 2) (ys:=[b]) (bs:=[[]]) (news:=[.int .u8 (b.toNat:Int)]) rfl rfl (so.up good_U uqb) (by simp;try exact nd) (Src.box (t:=5) Tryz.underlying155 kqb (by simp [Value.oneCell']) (by rw [hzc];rfl)) (Rowed.one good_U hob) (by simp;omega) hx1b hx2b ?_
         intro Db db blb wb hapb
         obtain ⟨sob,ndb,memb,onb⟩:=hapb))
     go_roundw
     case rel =>
      refine ⟨2+1,Db,db,blb,by omega,by first | rfl | (congr 1;omega),by rw [HS.out];simp,?_,ndb,(hu.trans uqb).only onb (fun y hy=>(so.in_ good_U y hy).1)⟩
      rw [HS.out]
      exact sob
     case measure=>simp [intOf]
    ·have hdv:z / 4294967296=(q:Int):=by
      rw [hq,HZN.out]
      show (N:Int) / 4294967296=((N / 4294967296:Nat):Int)
      omega
     clear hq hqn
     have kqb:=Bk.new wr 5 #[.int .u8 (b.toNat:Int)]
     have uqb:=(Up.refl wr).alloc (.cells #[.int .u8 (b.toNat:Int)] 5)
     have hob:shU.own (wr.alloc (.cells #[.int .u8 (b.toNat:Int)] 5)) w.heap.size (wr.alloc (.cells #[.int .u8 (b.toNat:Int)] 5)).heap.size [.int .u8 (b.toNat:Int)] b []:=⟨rfl,rfl⟩
     have hlob:=hu.size
     have hx1b:((1::beT N 3).length+1)*i0.bytes≤140737488355328:=by rw [hz2];first | (simp only [List.length_cons,HL.out];omega)
     have hx2b:(1::beT N 3).length+1≤maxLen:=by unfold maxLen;first | (simp only [List.length_cons,HL.out];omega)
     go_wp2_with (first
      | (at_builtin
         refine wpList_app good_U rfl _ _ _ _ 5 rfl i0 _ Tryz.underlying155 hi0 hz0 hzc (by rfl) (lo:=w.heap.size) (xs:=1::beT N 3) (ys:=[b]) (bs:=[[]]) (news:=[.int .u8 (b.toNat:Int)]) rfl rfl (so.up good_U uqb) (by simp;try exact nd) (Src.box (t:=5) Tryz.underlying155 kqb (by simp [Value.oneCell']) (by rw [hzc];rfl)) (Rowed.one good_U hob) (by simp;omega) hx1b hx2b ?_
         intro Db db blb wb hapb
         obtain ⟨sob,ndb,memb,onb⟩:=hapb))
     go_roundw
     case rel =>
      refine ⟨3+1,Db,db,blb,by omega,by first | rfl | (congr 1;omega),by rw [HS.out];simp,?_,ndb,(hu.trans uqb).only onb (fun y hy=>(so.in_ good_U y hy).1)⟩
      rw [HS.out]
      exact sob
     case measure=>simp [intOf]
    ·have hdv:z / 16777216=(q:Int):=by
      rw [hq,HZN.out]
      show (N:Int) / 16777216=((N / 16777216:Nat):Int)
      omega
     clear hq hqn
     have kqb:=Bk.new wr 5 #[.int .u8 (b.toNat:Int)]
     have uqb:=(Up.refl wr).alloc (.cells #[.int .u8 (b.toNat:Int)] 5)
     have hob:shU.own (wr.alloc (.cells #[.int .u8 (b.toNat:Int)] 5)) w.heap.size (wr.alloc (.cells #[.int .u8 (b.toNat:Int)] 5)).heap.size [.int .u8 (b.toNat:Int)] b []:=⟨rfl,rfl⟩
     have hlob:=hu.size
     have hx1b:((1::beT N 4).length+1)*i0.bytes≤140737488355328:=by rw [hz2];first | (simp only [List.length_cons,HL.out];omega)
     have hx2b:(1::beT N 4).length+1≤maxLen:=by unfold maxLen;first | (simp only [List.length_cons,HL.out];omega)
     go_wp2_with (first
      | (at_builtin
         refine wpList_app good_U rfl _ _ _ _ 5 rfl i0 _ Tryz.underlying155 hi0 hz0 hzc (by rfl) (lo:=w.heap.size) (xs:=1::beT N 4) (ys:=[b]) (bs:=[[]]) (news:=[.int .u8 (b.toNat:Int)]) rfl rfl (so.up good_U uqb) (by simp;try exact nd) (Src.box (t:=5) Tryz.underlying155 kqb (by simp [Value.oneCell']) (by rw [hzc];rfl)) (Rowed.one good_U hob) (by simp;omega) hx1b hx2b ?_
         intro Db db blb wb hapb
         obtain ⟨sob,ndb,memb,onb⟩:=hapb))
     go_roundw
     case rel =>
      refine ⟨4+1,Db,db,blb,by omega,by first | rfl | (congr 1;omega),by rw [HS.out];simp,?_,ndb,(hu.trans uqb).only onb (fun y hy=>(so.in_ good_U y hy).1)⟩
      rw [HS.out]
      exact sob
     case measure=>simp [intOf]
    ·have hdv:z / 65536=(q:Int):=by
      rw [hq,HZN.out]
      show (N:Int) / 65536=((N / 65536:Nat):Int)
      omega
     clear hq hqn
     have kqb:=Bk.new wr 5 #[.int .u8 (b.toNat:Int)]
     have uqb:=(Up.refl wr).alloc (.cells #[.int .u8 (b.toNat:Int)] 5)
     have hob:shU.own (wr.alloc (.cells #[.int .u8 (b.toNat:Int)] 5)) w.heap.size (wr.alloc (.cells #[.int .u8 (b.toNat:Int)] 5)).heap.size [.int .u8 (b.toNat:Int)] b []:=⟨rfl,rfl⟩
     have hlob:=hu.size
     have hx1b:((1::beT N 5).length+1)*i0.bytes≤140737488355328:=by rw [hz2];first | (simp only [List.length_cons,HL.out];omega)
     have hx2b:(1::beT N 5).length+1≤maxLen:=by unfold maxLen;first | (simp only [List.length_cons,HL.out];omega)
     go_wp2_with (first
      | (at_builtin
         refine wpList_app good_U rfl _ _ _ _ 5 rfl i0 _ Tryz.underlying155 hi0 hz0 hzc (by rfl) (lo:=w.heap.size) (xs:=1::beT N 5) (ys:=[b]) (bs:=[[]]) (news:=[.int .u8 (b.toNat:Int)]) rfl rfl (so.up good_U uqb) (by simp;try exact nd) (Src.box (t:=5) Tryz.underlying155 kqb (by simp [Value.oneCell']) (by rw [hzc];rfl)) (Rowed.one good_U hob) (by simp;omega) hx1b hx2b ?_
         intro Db db blb wb hapb
         obtain ⟨sob,ndb,memb,onb⟩:=hapb))
     go_roundw
     case rel =>
      refine ⟨5+1,Db,db,blb,by omega,by first | rfl | (congr 1;omega),by rw [HS.out];simp,?_,ndb,(hu.trans uqb).only onb (fun y hy=>(so.in_ good_U y hy).1)⟩
      rw [HS.out]
      exact sob
     case measure=>simp [intOf]
    ·have hdv:z / 256=(q:Int):=by
      rw [hq,HZN.out]
      show (N:Int) / 256=((N / 256:Nat):Int)
      omega
     clear hq hqn
     have kqb:=Bk.new wr 5 #[.int .u8 (b.toNat:Int)]
     have uqb:=(Up.refl wr).alloc (.cells #[.int .u8 (b.toNat:Int)] 5)
     have hob:shU.own (wr.alloc (.cells #[.int .u8 (b.toNat:Int)] 5)) w.heap.size (wr.alloc (.cells #[.int .u8 (b.toNat:Int)] 5)).heap.size [.int .u8 (b.toNat:Int)] b []:=⟨rfl,rfl⟩
     have hlob:=hu.size
     have hx1b:((1::beT N 6).length+1)*i0.bytes≤140737488355328:=by rw [hz2];first | (simp only [List.length_cons,HL.out];omega)
     have hx2b:(1::beT N 6).length+1≤maxLen:=by unfold maxLen;first | (simp only [List.length_cons,HL.out];omega)
     go_wp2_with (first
      | (at_builtin
         refine wpList_app good_U rfl _ _ _ _ 5 rfl i0 _ Tryz.underlying155 hi0 hz0 hzc (by rfl) (lo:=w.heap.size) (xs:=1::beT N 6) (ys:=[b]) (bs:=[[]]) (news:=[.int .u8 (b.toNat:Int)]) rfl rfl (so.up good_U uqb) (by simp;try exact nd) (Src.box (t:=5) Tryz.underlying155 kqb (by simp [Value.oneCell']) (by rw [hzc];rfl)) (Rowed.one good_U hob) (by simp;omega) hx1b hx2b ?_
         intro Db db blb wb hapb
         obtain ⟨sob,ndb,memb,onb⟩:=hapb))
     go_roundw
     case rel =>
      refine ⟨6+1,Db,db,blb,by omega,by first | rfl | (congr 1;omega),by rw [HS.out];simp,?_,ndb,(hu.trans uqb).only onb (fun y hy=>(so.in_ good_U y hy).1)⟩
      rw [HS.out]
      exact sob
     case measure=>simp [intOf]
    ·have hdv:z%256=(b.toNat:Int):=by
      rw [←hqb,hq,HZN.out]
      show (N:Int)%256=((N / 1:Nat):Int)%256
      rw [Nat.div_one]
     clear hq hqn
     have kqb:=Bk.new wr 5 #[.int .u8 (b.toNat:Int)]
     have uqb:=(Up.refl wr).alloc (.cells #[.int .u8 (b.toNat:Int)] 5)
     have hob:shU.own (wr.alloc (.cells #[.int .u8 (b.toNat:Int)] 5)) w.heap.size (wr.alloc (.cells #[.int .u8 (b.toNat:Int)] 5)).heap.size [.int .u8 (b.toNat:Int)] b []:=⟨rfl,rfl⟩
     have hlob:=hu.size
     have hx1b:((1::beT N 7).length+1)*i0.bytes≤140737488355328:=by rw [hz2];first | (simp only [List.length_cons,HL.out];omega)
     have hx2b:(1::beT N 7).length+1≤maxLen:=by unfold maxLen;first | (simp only [List.length_cons,HL.out];omega)
     go_wp2_with (first
      | (at_builtin
         refine wpList_app good_U rfl _ _ _ _ 5 rfl i0 _ Tryz.underlying155 hi0 hz0 hzc (by rfl) (lo:=w.heap.size) (xs:=1::beT N 7) (ys:=[b]) (bs:=[[]]) (news:=[.int .u8 (b.toNat:Int)]) rfl rfl (so.up good_U uqb) (by simp;try exact nd) (Src.box (t:=5) Tryz.underlying155 kqb (by simp [Value.oneCell']) (by rw [hzc];rfl)) (Rowed.one good_U hob) (by simp;omega) hx1b hx2b ?_
         intro Db db blb wb hapb
         obtain ⟨sob,ndb,memb,onb⟩:=hapb))
     go_roundw
     case rel =>
      refine ⟨7+1,Db,db,blb,by omega,by first | rfl | (congr 1;omega),by rw [HS.out];simp,?_,ndb,(hu.trans uqb).only onb (fun y hy=>(so.in_ good_U y hy).1)⟩
      rw [HS.out]
      exact sob
     case measure=>simp [intOf]
   ·obtain rfl:m=8:=by omega
    have hlen:=beT_len N 8
    obtain ⟨g,off,rfl,hby⟩:=so.bytes (by simp)
    have hcv:=Lib.run_convert_whole (P:=Tryz.prog) wr 155 5 9 Tryz.underlying155 Tryz.underlying5 Tryz.underlying9 g off ⟨(1::beT N 8).toArray⟩ hby d
    have hsz:(ByteArray.mk (1::beT N 8).toArray).size=(1::beT N 8).length:=by simp [ByteArray.size]
    rw [hsz] at hcv
    have HL:=Hd hlen
    clear hby hsz hlen
    generalize 1::beT N 8=LL at *
    go_wp2_with fail
    go_ret
    exact ⟨by rw [HK.out];first | done | rfl,hu⟩
theorem subB_size {s:ByteArray} (h:subB s=true):1≤s.size∧s.size≤24:=by simpa [subB] using h
theorem subsP_of {l:List ByteArray} (h:subsB l=true):SubsP l:=of_decide_eq_true h
theorem keys_len {l:List ByteArray} (h:∀x∈l,subB x=true):(l.flatMap subKeyL).length≤57*l.length:=by
 induction l with
 | nil=>simp
 | cons x l ih =>
  have h1:=subKeyL_len x
  have h2:=subB_size (h x List.mem_cons_self)
  have h3:=ih (fun y hy=>h y (List.mem_cons_of_mem _ hy))
  show (subKeyL x++l.flatMap subKeyL).length≤57*(l.length+1)
  rw [List.length_append];omega
theorem subs_all {l:List ByteArray} (h:SubsP l):∀x∈l,subB x=true:=fun x hx=>by
 obtain ⟨i,hi,rfl⟩:=List.getElem_of_mem hx
 exact h.2 i hi
theorem keys_snoc (l:List ByteArray) {k:Nat} (h:k<l.length):(l.take (k+1)).flatMap subKeyL=(l.take k).flatMap subKeyL++subKeyL l[k]:=by
 rw [List.take_succ_eq_append_getElem h,List.flatMap_append]
 simp
theorem nameB_size {s:ByteArray} (h:nameB s=true):1≤s.size∧s.size≤8:=by
 have:=of_decide_eq_true h
 exact ⟨this.1,this.2.1⟩
theorem c_l02Put (xs:List ByteArray) (A:Option Addr) (c:Nat) (w:World) (h:SRW shS w A c xs) (hp:SubsP xs) :
 Calls Tryz.prog 96 #[.slice A xs.length c] w (RetV (.string (bs (xs.flatMap subKeyL))) w):=by
 have hlen:=h.len_le
 have HP:=Hd hp
 clear hp
 go_enter Tryz.func96,Tryz.ntmps96
 go_wp2_with fail
 go_loopw [4,3] (fun i t wr=>∃k:Nat,k≤xs.length∧i=.int .i64 k∧t=.string (bs ((xs.take k).flatMap subKeyL))∧Up w wr) (fun i _ _=>xs.length-(intOf i).toNat)
 case atStart=>exact ⟨0,Nat.zero_le _,rfl,rfl,Up.refl _⟩
 case round =>
  obtain ⟨k,hk,rfl,rfl,hu⟩:=hrel
  by_cases hlt:k<xs.length
  ·obtain ⟨g,off,rfl,_,_,hc,hb1⟩:=(h.up good_S hu).at_S hlt
   have hs:=subB_size (HP.out.2 k hlt)
   have hkl:=subKeyL_len xs[k]
   have hl1:=keys_len (l:=xs.take k) (fun x hx=>subs_all HP.out x (List.mem_of_mem_take hx))
   have h4:=HP.out.1
   rw [List.length_take] at hl1
   have hsn:bs ((xs.take (k+1)).flatMap subKeyL)=bs ((xs.take k).flatMap subKeyL)++bs (subKeyL xs[k]):=by rw [keys_snoc xs hlt,bs_append]
   have HS:=Hd hsn
   have hg:¬9223372036854775807<(bs ((xs.take k).flatMap subKeyL)).size+(bs (subKeyL xs[k])).size:=by rw [bs_size,bs_size];omega
   have ck:=fun W=>c_l02Key xs[k] W (by omega)
   generalize bs ((xs.take k).flatMap subKeyL)=T at *
   generalize bs (subKeyL xs[k])=K at *
   have CK:=Hd ck
   clear ck hsn hl1 hkl hs h4
   go_wp2_with fail
   refine (CK.out _).mono ?_
   rintro e w1 ⟨rfl,u1⟩
   go_wp2_with fail
   go_roundw
   case rel=>exact ⟨k+1,by omega,by go_num,by rw [HS.out],hu.trans u1⟩
   case measure=>simp [intOf];omega
  ·have ht:xs.take k=xs:=List.take_of_length_le (by omega)
   rw [ht]
   clear ht
   go_wp2_with fail
   go_ret
   exact ⟨rfl,hu⟩
def beV (l:List UInt8):Nat:=l.foldl (fun n c=>n*256+c.toNat) 0
theorem beV_snoc (l:List UInt8) (c:UInt8):beV (l++[c])=beV l*256+c.toNat:=by simp [beV]
theorem beV_go:∀(l:List UInt8) (a:Nat),l.foldl (fun n c=>n*256+c.toNat) a<(a+1)*256 ^ l.length
 | [],a=>by simp
 | c::l,a=>by
  have h:=beV_go l (a*256+c.toNat)
  have hc:=c.toNat_lt
  have h1:(a*256+c.toNat+1)*256 ^ l.length≤((a+1)*256)*256 ^ l.length:=Nat.mul_le_mul_right _ (by omega)
  rw [List.foldl_cons,List.length_cons,Nat.pow_succ,Nat.mul_comm (256 ^ l.length) 256,←Nat.mul_assoc]
  omega
theorem beV_lt (l:List UInt8):beV l<256 ^ l.length:=by
 have:=beV_go l 0
 simpa [beV] using this
theorem beV_beT (n:Nat) (hn:n<256 ^ 8):∀m,m≤8→beV (beT n m)=n / 256 ^ (8-m)
 | 0,_=>by
  show 0=_
  rw [Nat.div_eq_of_lt (by simpa using hn)]
 | m+1,hm=>by
  have ih:=beV_beT n hn m (by omega)
  show beV (beT n m++[UInt8.ofNat (n / 256 ^ (7-m))])=_
  rw [beV_snoc,ih]
  have e1:8-m=(7-m)+1:=by omega
  have e2:8-(m+1)=7-m:=by omega
  rw [e1,e2,Nat.pow_succ,←Nat.div_div_eq_div_mul]
  have:(UInt8.ofNat (n / 256 ^ (7-m))).toNat=n / 256 ^ (7-m)%256:=by simp [UInt8.toNat_ofNat']
  rw [this]
  omega
def numTx (n:Int):ByteArray:=if n.natAbs≤999999999999999999 then numText n else ⟨#[]⟩
theorem numTx_size (n:Int):(numTx n).size≤20:=by
 unfold numTx
 split
 ·rename_i h
  exact (numText_size h).2
 ·exact Nat.zero_le _
def takeNum (lo hi:Nat) (l:List UInt8):Option (ByteArray×List UInt8) :=
 if 8≤l.length∧lo≤beV (l.take 8)∧beV (l.take 8)≤hi then some (numTx ((beV (l.take 8):Int)-1000000000000000000),l.drop 8) else none
def decS:List UInt8→Option (List UInt8×List UInt8)
 | []=>none
 | [_]=>none
 | c::d::l=>if c=0 then (if d=0 then some ([],l) else if d=255 then (decS l).map fun p=>(0::p.1,p.2) else none) else (decS (d::l)).map fun p=>(c::p.1,p.2)
theorem decS_esc:∀(t tl:List UInt8),decS (escL t++(0::0::tl))=some (t,tl)
 | [],tl=>by simp [escL,decS]
 | c::t,tl=>by
  have ih:=decS_esc t tl
  show decS ((escB c++escL t)++(0::0::tl))=_
  unfold escB
  by_cases hc:c=0
  ·rw [if_pos hc]
   show decS (0::255::(escL t++(0::0::tl)))=_
   rw [decS,if_pos rfl,if_neg (by decide),if_pos rfl,ih,hc]
   rfl
  ·rw [if_neg hc]
   have:∃d r,escL t++(0::0::tl)=d::r:=by
    cases h:escL t++(0::0::tl) with
    | nil=>simp at h
    | cons d r=>exact ⟨d,r,rfl⟩
   obtain ⟨d,r,e⟩:=this
   show decS (c::(escL t++(0::0::tl)))=_
   rw [e,decS,if_neg hc,←e,ih]
   rfl
theorem decS_len:∀(l t r:List UInt8),decS l=some (t,r)→t.length+r.length<l.length
 | [],_,_,h=>by simp [decS] at h
 | [_],_,_,h=>by simp [decS] at h
 | c :: d::l,t,r,h=>by
  rw [decS] at h
  split at h
  ·split at h
   ·injection h with h
    injection h with h1 h2
    subst h1 h2
    simp only [List.length_cons,List.length_nil]
    omega
   ·split at h
    ·rw [Option.map_eq_some_iff] at h
     obtain ⟨⟨t',r'⟩,h1,h2⟩:=h
     injection h2 with h2 h3
     subst h2 h3
     have:=decS_len l t' r' h1
     simp only [List.length_cons]
     omega
    ·simp at h
  ·rw [Option.map_eq_some_iff] at h
   obtain ⟨⟨t',r'⟩,h1,h2⟩:=h
   injection h2 with h2 h3
   subst h2 h3
   have:=decS_len (d::l) t' r' h1
   simp only [List.length_cons] at this ⊢
   omega
section
variable (s:ByteArray) {k:Nat}
theorem drop_two (h:k+1<s.size):s.data.toList.drop k=s[k]::s[k+1]::s.data.toList.drop (k+2):=by
 have hl:=slen s
 rw [List.drop_eq_getElem_cons (by omega),List.drop_eq_getElem_cons (i:=k+1) (by omega)]
 rfl
theorem drop_one (h:k<s.size):s.data.toList.drop k=s[k]::s.data.toList.drop (k+1):=by
 have hl:=slen s
 rw [List.drop_eq_getElem_cons (by omega)]
 rfl
theorem decS_end (h:¬k+1<s.size):decS (s.data.toList.drop k)=none:=by
 have hl:=slen s
 have:(s.data.toList.drop k).length≤1:=by rw [List.length_drop];omega
 match e:s.data.toList.drop k with
 | []=>rfl
 | [_]=>rfl
 | _::_::_=>rw [e] at this;simp at this
theorem decS_ne (h:k+1<s.size) (hc:s[k]≠0):decS (s.data.toList.drop k)=(decS (s.data.toList.drop (k+1))).map fun p=>(s[k]::p.1,p.2):=by
 rw [drop_two s h,drop_one s h,decS,if_neg hc]
theorem decS_00 (h:k+1<s.size) (hc:s[k]=0) (hd:s[k+1]=0):decS (s.data.toList.drop k)=some ([],s.data.toList.drop (k+2)):=by
 rw [drop_two s h,decS,if_pos hc,if_pos hd]
theorem decS_ff (h:k+1<s.size) (hc:s[k]=0) (hd:s[k+1]=255):decS (s.data.toList.drop k)=(decS (s.data.toList.drop (k+2))).map fun p=>(0::p.1,p.2):=by
 rw [drop_two s h,decS,if_pos hc,if_neg (by rw [hd];decide),if_pos hd]
theorem decS_bad (h:k+1<s.size) (hc:s[k]=0) (hd:s[k+1]≠0) (hf:s[k+1]≠255):decS (s.data.toList.drop k)=none:=by
 rw [drop_two s h,decS,if_pos hc,if_neg hd,if_neg hf]
end
def ahead (O:List UInt8) (r:Option (List UInt8×List UInt8)):Option (List UInt8×List UInt8):=r.map fun p=>(O++p.1,p.2)
theorem ahead_map (O:List UInt8) (c:UInt8) (r:Option (List UInt8×List UInt8)):ahead O (r.map fun p=>(c::p.1,p.2))=ahead (O++[c]) r:=by cases r <;> simp [ahead]
theorem ahead_nil (r:Option (List UInt8×List UInt8)):ahead [] r=r:=by cases r <;> simp [ahead]
def takeSub (lo hi:Nat):List UInt8→Option (ByteArray×List UInt8)
 | []=>none
 | c::l=>if c=1 then takeNum lo hi l else if c=2 then (decS l).map fun p=>(bs p.1,p.2) else none
theorem takeSub_key (lo hi:Nat) (h1:lo≤1) (h2:1999999999999999999≤hi) (s:ByteArray) (tl:List UInt8):takeSub lo hi (subKeyL s++tl)=some (s,tl):=by
 unfold subKeyL
 by_cases hc:canon s=true
 ·have hb:=numOf_le s
  have hlt:(numOf s+1000000000000000000).toNat<256 ^ 8:=by
   have:(256:Nat) ^ 8=18446744073709551616:=rfl
   omega
  have hl:(beT (numOf s+1000000000000000000).toNat 8).length=8:=beT_len _ _
  have ht:(beT (numOf s+1000000000000000000).toNat 8++tl).take 8=beT (numOf s+1000000000000000000).toNat 8:=by rw [List.take_append_of_le_length (by omega),List.take_of_length_le (by omega)]
  have hv:beV (beT (numOf s+1000000000000000000).toNat 8)=(numOf s+1000000000000000000).toNat:=by rw [beV_beT _ hlt 8 (Nat.le_refl _)];simp
  have hd:(beT (numOf s+1000000000000000000).toNat 8++tl).drop 8=tl:=by rw [List.drop_append_of_le_length (by omega),List.drop_of_length_le (by omega)];rfl
  rw [if_pos hc]
  show takeSub lo hi (1::(beT (numOf s+1000000000000000000).toNat 8++tl))=_
  rw [takeSub,if_pos rfl]
  unfold takeNum
  rw [ht,hv,hd,if_pos ⟨by rw [List.length_append];omega,by omega,by omega⟩]
  have e:(((numOf s+1000000000000000000).toNat:Int)-1000000000000000000)=numOf s:=by omega
  have:numText (numOf s)=s:=by simpa [canon] using hc
  have hn:numTx (numOf s)=s:=by rw [numTx,if_pos (by omega),this]
  rw [e,hn]
 ·rw [if_neg hc]
  show takeSub lo hi (2::(escL s.data.toList++[0,0]++tl))=_
  rw [takeSub,if_neg (by decide),if_pos rfl,List.append_assoc]
  show Option.map _ (decS (escL s.data.toList++(0::0::tl)))=_
  rw [decS_esc]
  rfl
def decK (lo hi:Nat):Nat→List ByteArray→List UInt8→Option (List ByteArray×List UInt8)
 | 0,out,l=>some (out,l)
 | n+1,out,[]=>some (out,[])
 | n+1,out,c::l=>match takeSub lo hi (c::l) with
  | none=>none
  | some (t,r)=>decK lo hi n (out++[t]) r
theorem subKeyL_cons (s:ByteArray):∃c r,subKeyL s=c::r:=by unfold subKeyL;split <;> exact ⟨_,_,rfl⟩
theorem decK_keys (lo hi:Nat) (h1:lo≤1) (h2:1999999999999999999≤hi):∀(l:List ByteArray) (n:Nat) (out:List ByteArray),l.length<n→decK lo hi n out (l.flatMap subKeyL)=some (out++l,[])
 | [],n,out,h=>by
  obtain ⟨m,rfl⟩:∃m,n=m+1:=⟨n-1,by simp at h;omega⟩
  simp [decK]
 | s::l,n,out,h=>by
  obtain ⟨m,rfl⟩:∃m,n=m+1:=⟨n-1,by simp at h;omega⟩
  obtain ⟨c,r,e⟩:=subKeyL_cons s
  have ht:=takeSub_key lo hi h1 h2 s (l.flatMap subKeyL)
  show decK lo hi (m+1) out (subKeyL s++l.flatMap subKeyL)=_
  rw [e] at ht ⊢
  show decK lo hi (m+1) out (c::(r++l.flatMap subKeyL))=_
  rw [decK]
  have ht':takeSub lo hi (c::(r++l.flatMap subKeyL))=some (s,l.flatMap subKeyL):=ht
  rw [ht']
  show decK lo hi m (out++[s]) (l.flatMap subKeyL)=_
  rw [decK_keys lo hi h1 h2 l m (out++[s]) (by simp at h;omega)]
  simp
def subsOut (s:List UInt8) (left:Bool):Option (List ByteArray×List UInt8)→Option (List ByteArray)
 | none=>none
 | some (out,r)=>if (left=true→r=[])∧subsB out=true∧out.flatMap subKeyL=s then some out else none
def getSubs (lo hi:Nat) (left:Bool) (s:List UInt8):Option (List ByteArray):=subsOut s left (decK lo hi 5 [] s)
theorem getSubs_of (lo hi:Nat) (left:Bool) (h1:lo≤1) (h2:1999999999999999999≤hi) (l:List ByteArray) (h:subsB l=true):getSubs lo hi left (l.flatMap subKeyL)=some l:=by
 have hl:=(subsP_of h).1
 unfold getSubs
 rw [decK_keys lo hi h1 h2 l 5 [] (by omega)]
 show (if _ then _ else _)=_
 rw [if_pos ⟨fun _=>rfl,by simpa using h,by simp⟩]
 simp
theorem getSubs_some {lo hi:Nat} {left:Bool} {s:List UInt8} {l:List ByteArray} (h:getSubs lo hi left s=some l):subsB l=true∧l.flatMap subKeyL=s:=by
 unfold getSubs at h
 cases hd:decK lo hi 5 [] s with
 | none=>rw [hd] at h;simp [subsOut] at h
 | some p =>
  obtain ⟨out,r⟩:=p
  rw [hd] at h
  simp only [subsOut] at h
  split at h
  ·rename_i hc
   injection h with h
   subst h
   exact ⟨hc.2.1,hc.2.2⟩
  ·simp at h
theorem getSubs_eq (lo hi lo' hi':Nat) (left left':Bool) (h1:lo≤1) (h2:1999999999999999999≤hi) (h1':lo'≤1) (h2':1999999999999999999≤hi') (s:List UInt8):getSubs lo hi left s=getSubs lo' hi' left' s:=by
 cases h:getSubs lo hi left s with
 | some l =>
  obtain ⟨e1,e2⟩:=getSubs_some h
  rw [←e2,getSubs_of lo' hi' left' h1' h2' l e1]
 | none =>
  cases h':getSubs lo' hi' left' s with
  | none=>rfl
  | some l =>
   obtain ⟨e1,e2⟩:=getSubs_some h'
   rw [←e2,getSubs_of lo hi left h1 h2 l e1] at h
   cases h
def subsOf (s:List UInt8):Option (List ByteArray):=getSubs 1 1999999999999999999 true s
def headL (k:List UInt8):List UInt8:=k.takeWhile (· != 1)
def placeOf (k:ByteArray):Option (ByteArray×List ByteArray) :=
 if (headL k.data.toList).length<k.size∧nameB (bs (headL k.data.toList))=true then (subsOf (k.data.toList.drop ((headL k.data.toList).length+1))).map fun l=>(bs (headL k.data.toList),l) else none
def keyB (k:ByteArray):Bool:=(placeOf k).isSome
theorem takeSub_len {lo hi:Nat} {l:List UInt8} {t:ByteArray} {r:List UInt8} (h:takeSub lo hi l=some (t,r)):r.length<l.length∧t.size≤l.length+20:=by
 cases l with
 | nil=>simp [takeSub] at h
 | cons c l =>
  rw [takeSub] at h
  split at h
  ·unfold takeNum at h
   split at h
   ·rename_i hc
    injection h with h
    injection h with h3 h4
    subst h3 h4
    have:=numTx_size ((beV (l.take 8):Int)-1000000000000000000)
    exact ⟨by simp only [List.length_drop,List.length_cons];omega,by omega⟩
   ·simp at h
  ·split at h
   ·rw [Option.map_eq_some_iff] at h
    obtain ⟨⟨t',r'⟩,e1,e2⟩:=h
    injection e2 with e2 e3
    subst e2 e3
    have:=decS_len _ _ _ e1
    have hb:=bs_size t'
    simp only [List.length_cons]
    omega
   ·simp at h
theorem beV_take (s:ByteArray) {k:Nat} (h:k<s.size):beV (s.data.toList.take (k+1))=beV (s.data.toList.take k)*256+s[k].toNat:=by
 rw [List.take_succ_eq_append_getElem (by rw [slen];exact h),beV_snoc]
 rfl
theorem or_byte (x c:Int) (v:Nat) (b:UInt8) (hx:x=wrap64 ((v:Int)*256)) (hc:c=(b.toNat:Int)):bits .or .i64 x c=wrap64 ((v*256+b.toNat:Nat):Int):=by
 have hb:=b.toNat_lt
 have e1:(BitVec.ofInt 64 x).toNat=(v%72057594037927936)*256:=by
  rw [BitVec.toNat_ofInt,hx]
  unfold wrap64
  omega
 have e2:(BitVec.ofInt 64 c).toNat=b.toNat:=by
  rw [BitVec.toNat_ofInt,hc]
  omega
 have e3:(BitVec.ofInt 64 x ||| BitVec.ofInt 64 c).toNat=(v%72057594037927936)*256+b.toNat:=by
  rw [BitVec.toNat_or,e1,e2]
  have:=Nat.shiftLeft_add_eq_or_of_lt (b:=b.toNat) (i:=8) (by omega) (v%72057594037927936)
  rw [Nat.shiftLeft_eq] at this
  exact this.symm
 show IntKind.i64.wrap ((BitVec.ofInt 64 x ||| BitVec.ofInt 64 c).toNat:Int)=_
 rw [e3,IntKind.wrap_i64]
 unfold wrap64
 omega
theorem c_l02Num (s:ByteArray) (w:World) (h:s.size=8):Calls Tryz.prog 131 #[.string s] w (RetV (.int .i64 (wrap64 ((beV s.data.toList:Nat):Int))) w):=by
 go_enter Tryz.func131,Tryz.ntmps131
 go_wp2_with fail
 go_loopw [4,3] (fun i n wr=>∃k:Nat,k≤8∧i=.int .i64 k∧n=.int .i64 (wrap64 ((beV (s.data.toList.take k):Nat):Int))∧Up w wr) (fun i _ _=>8-(intOf i).toNat)
 case atStart=>exact ⟨0,Nat.zero_le _,rfl,by simp [beV,wrap64],Up.refl _⟩
 case round =>
  obtain ⟨k,hk,rfl,rfl,hu⟩:=hrel
  by_cases hlt:k<8
  ·have hks:k<s.size:=by omega
   have HB:=Hd (beV_take s hks)
   generalize beV (s.data.toList.take k)=V at *
   go_wp2_with fail
   go_roundw
   case rel =>
    have hc:=s[k].toNat_lt
    refine ⟨k+1,by omega,by go_num,?_,hu⟩
    rw [or_byte _ _ V s[k] (by unfold wrap64;omega) (by unfold wrap64;omega),HB.out]
   case measure=>simp [intOf];omega
  ·obtain rfl:k=8:=by omega
   have ht:s.data.toList.take 8=s.data.toList:=List.take_of_length_le (by rw [slen];omega)
   rw [ht]
   go_wp2_with fail
   go_ret
   exact ⟨rfl,hu⟩
def takeV:Option (ByteArray×List UInt8)→Value
 | none=>.tuple #[.string ⟨#[]⟩,.string ⟨#[]⟩,.bool false]
 | some p=>.tuple #[.string p.1,.string (bs p.2),.bool true]
theorem cons_bytes (s:ByteArray) (h:0<s.size):s.data.toList=s[0]::s.data.toList.drop 1:=by
 have hl:=slen s
 cases e:s.data.toList with
 | nil=>rw [e] at hl;simp at hl;omega
 | cons c l =>
  have:s[0]=s.data.toList[0]'(by rw [hl];exact h):=rfl
  rw [this]
  simp [e]
theorem ext_bs (s:ByteArray) (a b:Nat):s.extract a b=bs ((s.data.toList.take b).drop a):=bs_extract s.data.toList a b
theorem SO.bytesA {w:World} {lo hi:Nat} {g off:Nat} {c:Nat} {xs:List UInt8} {bl:List Nat} (h:SO shU w lo hi (some ⟨g,off,none⟩) c xs bl):Lib.Bytes w g off ⟨xs.toArray⟩:=by
 rcases Nat.eq_zero_or_pos xs.length with h0 | hp
 ·obtain rfl:=List.eq_nil_of_length_eq_zero h0
  exact fun i hi=>absurd hi (by simp [ByteArray.size])
 ·obtain ⟨g',off',e,hb⟩:=h.bytes hp
  injection e with e
  injection e with e1 e2
  subst e1 e2
  exact hb
theorem c_l02Take1 (s:ByteArray) (w:World) (h0:0<s.size) (hs:s.size≤1048576) (h1:s[0]=1):Calls Tryz.prog 94 #[.string s] w (RetV (takeV (takeSub 1 1999999999999999999 s.data.toList)) w):=by
 have b1:(s[0].toNat:Int)=1:=u8_yb 1 rfl h1
 have hll:=slen s
 rw [cons_bytes s h0,h1,takeSub,if_pos rfl]
 unfold takeNum
 by_cases h9:9≤s.size
 ·have hx:s.extract 1 9=bs ((s.data.toList.drop 1).take 8):=by rw [ext_bs];congr 1;rw [List.drop_take]
  have hx8:(s.extract 1 9).size=8:=by rw [ByteArray.size_extract];omega
  have hle:8≤(s.data.toList.drop 1).length:=by rw [List.length_drop];omega
  have hVl:beV ((s.data.toList.drop 1).take 8)<18446744073709551616:=by
   have:=beV_lt ((s.data.toList.drop 1).take 8)
   rw [List.length_take,Nat.min_eq_left hle] at this
   exact this
  have hV:beV (s.extract 1 9).data.toList=beV ((s.data.toList.drop 1).take 8):=by rw [hx];rfl
  have cn:=fun W=>c_l02Num (s.extract 1 9) W hx8
  rw [hV] at cn
  have CN:=Hd cn
  have hd:s.extract 9 s.size=bs ((s.data.toList.drop 1).drop 8):=by rw [ext_bs,List.take_of_length_le (by omega),List.drop_drop]
  have HD:=Hd hd
  generalize beV ((s.data.toList.drop 1).take 8)=V at *
  clear cn hV hx hd
  by_cases hb:1≤V∧V≤1999999999999999999
  ·have hin:inB (wrap64 (V:Int)) 1 1999999999999999999=true:=by simp [inB,wrap64];omega
   have hw:wrap64 (V:Int)=(V:Int):=by unfold wrap64;omega
   have hn:((V:Int)-1000000000000000000).natAbs≤999999999999999999:=by omega
   have ct:=fun W=>c_l01Text ((V:Int)-1000000000000000000) W hn
   have CT:=Hd ct
   rw [if_pos ⟨hle,hb.1,hb.2⟩,numTx,if_pos hn]
   clear ct hn hle
   go_enter Tryz.func94,Tryz.ntmps94
   go_wp2_with fail
   refine (CN.out _).mono ?_
   rintro e w1 ⟨rfl,u1⟩
   rw [hw]
   rw [hw] at hin
   go_wp2_with (go_at_call 27;refine (in_any _ _ _ _).mono ?_;rintro e w' ⟨rfl,rfl⟩)
   refine wp_region_up (by kernel_rfl) (by kernel_rfl) ?_
   repeat (go_big_quiet_step ((go_at_call 132;exact up_call (CT.out _) (UpT.up _))))
   refine wpQuiet_nil ?_
   rintro w4 ⟨⟨w4',u4⟩,rfl⟩
   go_wp2_with fail
   go_ret3
   exact ⟨by rw [HD.out];rfl,u1.trans u4⟩
  ·have hin:inB (wrap64 (V:Int)) 1 1999999999999999999=false:=by simp [inB,wrap64];omega
   rw [if_neg (fun hh=>hb hh.2)]
   generalize wrap64 (V:Int)=V' at *
   clear hb hle
   go_enter Tryz.func94,Tryz.ntmps94
   go_wp2_with fail
   refine (CN.out _).mono ?_
   rintro e w1 ⟨rfl,u1⟩
   go_wp2_with (go_at_call 27;refine (in_any _ _ _ _).mono ?_;rintro e w' ⟨rfl,rfl⟩)
   go_ret3
   exact ⟨rfl,u1⟩
 ·rw [if_neg (fun hh=>h9 (by have:=hh.1;rw [List.length_drop] at this;omega))]
  clear hll
  go_enter Tryz.func94,Tryz.ntmps94
  go_wp2_with fail
  go_ret3
  exact ⟨rfl,Up.refl _⟩
theorem c_l02Take0 (s:ByteArray) (w:World) (h0:0<s.size) (hs:s.size≤1048576) (h1:s[0]≠1) (h2:s[0]≠2):Calls Tryz.prog 94 #[.string s] w (RetV (takeV (takeSub 1 1999999999999999999 s.data.toList)) w):=by
 have n1:=u8_nn 1 rfl h1
 have b1:=u8_nb 1 rfl h1
 have n2:=u8_nn 2 rfl h2
 have b2:=u8_nb 2 rfl h2
 have b3:=u8_nB 2 rfl h2
 rw [cons_bytes s h0,takeSub,if_neg h1,if_neg h2]
 go_enter Tryz.func94,Tryz.ntmps94
 go_wp2_with fail
 go_ret3
 exact ⟨rfl,Up.refl _⟩
theorem c_l02Take2 (s:ByteArray) (w:World) (h0:0<s.size) (hs:s.size≤1048576) (h2:s[0]=2):Calls Tryz.prog 94 #[.string s] w (RetV (takeV (takeSub 1 1999999999999999999 s.data.toList)) w):=by
 obtain ⟨i0,hi0,hz0,hzc,hz2⟩:=info_parts info_B8
 have b2:(s[0].toNat:Int)=2:=u8_yb 2 rfl h2
 have htk:takeSub 1 1999999999999999999 s.data.toList=(decS (s.data.toList.drop 1)).map fun p=>(bs p.1,p.2):=by
  rw [cons_bytes s h0,h2,takeSub,if_neg (by decide),if_pos rfl]
  simp
 rw [htk]
 clear htk h2
 have so0:SO shU (w.alloc (.cells #[] 5)) w.heap.size (w.alloc (.cells #[] 5)).heap.size (some ⟨w.heap.size,0,none⟩) 0 ([]:List UInt8) []:=⟨Nat.le_refl _,Nat.zero_le _,.inl ⟨rfl,rfl,rfl⟩⟩
 have uu0:Up w (w.alloc (.cells #[] 5)):=(Up.refl w).alloc _
 go_enter Tryz.func94,Tryz.ntmps94
 go_wp2_with fail
 go_loopw [7,6] (fun i out wr=>∃(k:Nat) (O:List UInt8) (D:Option Addr) (d:Nat) (bl:List Nat),1≤k∧k≤s.size∧i=.int .i64 k∧out=.slice D O.length d∧O.length≤k∧Hid (decS (s.data.toList.drop 1)=ahead O (decS (s.data.toList.drop k)))∧(∃g off,D=some ⟨g,off,none⟩)∧SO shU wr w.heap.size wr.heap.size D d O bl∧bl.Nodup∧Up w wr) (fun i _ _=>s.size-(intOf i).toNat)
 case atStart=>exact ⟨1,[],some ⟨w.heap.size,0,none⟩,0,[],Nat.le_refl _,h0,rfl,rfl,by simp,Hd (by rw [ahead_nil]),⟨_,_,rfl⟩,so0,by simp,uu0⟩
 case round =>
  obtain ⟨k,O,D,d,bl,hk1,hk,rfl,rfl,hOk,HE,⟨g0,off0,rfl⟩,so,nd,hu⟩:=hrel
  by_cases hlt:k+1<s.size
  ·have hk0 : k < s.size:=by omega
   by_cases hz:s[k]=0
   ·have bz : (s[k].toNat:Int)=0:=u8_yb 0 rfl hz
    by_cases hy:s[k+1]=0
    ·have bY:(s[k+1].toNat:Int)=0:=u8_yb 0 rfl hy
     have hsz:(ByteArray.mk O.toArray).size=O.length:=bs_size O
     have p0:∀t:UpT wr,(convert 155 9 (.slice (some ⟨g0,off0,none⟩) O.length d)).run Tryz.prog t.val=.ok (.string ⟨O.toArray⟩) t.val:=fun t=>by
      have hcv:=Lib.run_convert_whole (P:=Tryz.prog) t.val 155 5 9 Tryz.underlying155 Tryz.underlying5 Tryz.underlying9 g0 off0 ⟨O.toArray⟩ (so.up good_U t.up).bytesA d
      rw [hsz] at hcv
      exact hcv
     have he:decS (s.data.toList.drop 1)=some (O,s.data.toList.drop (k+2)):=by
      rw [HE.out,decS_00 s hlt hz hy];simp [ahead]
     have hd:s.extract (k+2) s.size=bs (s.data.toList.drop (k+2)):=by rw [ext_bs,List.take_of_length_le (by rw [slen];exact Nat.le_refl _)]
     have HEE:=Hd he
     have HD:=Hd hd
     clear he hd hsz HE
     go_wp2_with fail
     refine wp_region_up (by kernel_rfl) (by kernel_rfl) ?_
     repeat (go_big_quiet_step (fail))
     refine wpQuiet_nil ?_
     rintro w4 ⟨⟨w4',u4⟩,rfl⟩
     go_wp2_with fail
     rw [HD.out]
     refine bodyPost_ret (v:=takeV (some (bs O,s.data.toList.drop (k+2)))) (by simp [results,Tryz.results94,go_sem,takeV,bs]) rfl ?_
     exact ⟨by rw [HEE.out];rfl,hu.trans u4⟩
    ·by_cases hf : s[k+1]=255
     ·have bF : (s[k+1].toNat:Int)=255:=u8_yb 255 rfl hf
      have HS:=Hd (show decS (s.data.toList.drop 1)=ahead (O++[0]) (decS (s.data.toList.drop (k+2))) by rw [HE.out,decS_ff s hlt hz hf,ahead_map])
      clear HE hz hf
      have kq:=Bk.new wr 5 #[.int .u8 0]
      have uq:=(Up.refl wr).alloc (.cells #[.int .u8 0] 5)
      have ho:shU.own (wr.alloc (.cells #[.int .u8 0] 5)) w.heap.size (wr.alloc (.cells #[.int .u8 0] 5)).heap.size [.int .u8 0] 0 []:=⟨rfl,rfl⟩
      have hlo:=hu.size
      have hx1:(O.length+1)*i0.bytes≤140737488355328:=by rw [hz2];omega
      have hx2:O.length+1≤maxLen:=by unfold maxLen;omega
      go_wp2_with (at_builtin
                   refine wpList_app good_U rfl _ _ _ _ 5 rfl i0 _ Tryz.underlying155 hi0 hz0 hzc (by rfl) (lo:=w.heap.size) (xs:=O) (ys:=[0]) (bl:=bl) (bs:=[[]]) (news:=[.int .u8 0]) rfl rfl (so.up good_U uq) (by simpa using nd) (Src.box (t:=5) Tryz.underlying155 kq (by simp [Value.oneCell']) (by rw [hzc];rfl)) (Rowed.one good_U ho) (by simp;omega) hx1 hx2 ?_
                   intro D' d' bl' w1 hap
                   obtain ⟨so1,nd1,mem1,on1⟩:=hap)
      obtain ⟨g1,off1,rfl,_⟩:=so1.bytes (by simp)
      go_roundw
      case rel=>exact ⟨k+2,O++[0],some ⟨g1,off1,none⟩,d',bl',by omega,by omega,by go_num,by simp,by simp;omega,HS,⟨_,_,rfl⟩,so1,nd1,(hu.trans uq).only on1 (fun y hy=>(so.in_ good_U y hy).1)⟩
      case measure=>simp [intOf];omega
     ·have nY:=u8_nn 0 rfl hy
      have bY:=u8_nb 0 rfl hy
      have nF:=u8_nn 255 rfl hf
      have bF:=u8_nb 255 rfl hf
      have BF:=u8_nB 255 rfl hf
      have he:decS (s.data.toList.drop 1)=none:=by rw [HE.out,decS_bad s hlt hz hy hf];rfl
      have HEE:=Hd he
      clear he HE
      go_wp2_with fail
      refine bodyPost_ret (v:=takeV (none)) (by simp [results,Tryz.results94,go_sem,takeV,bs]) rfl ?_
      exact ⟨by rw [HEE.out];rfl,hu⟩
   ·have nz := u8_nn 0 rfl hz
    have bz:=u8_nb 0 rfl hz
    have Bz:=u8_nB 0 rfl hz
    have HS:=Hd (show decS (s.data.toList.drop 1)=ahead (O++[s[k]]) (decS (s.data.toList.drop (k+1))) by rw [HE.out,decS_ne s hlt hz,ahead_map])
    clear HE hz
    have kq:=Bk.new wr 5 #[.int .u8 (s[k].toNat:Int)]
    have uq:=(Up.refl wr).alloc (.cells #[.int .u8 (s[k].toNat:Int)] 5)
    have ho:shU.own (wr.alloc (.cells #[.int .u8 (s[k].toNat:Int)] 5)) w.heap.size (wr.alloc (.cells #[.int .u8 (s[k].toNat:Int)] 5)).heap.size [.int .u8 (s[k].toNat:Int)] s[k] []:=⟨rfl,rfl⟩
    have hlo:=hu.size
    have hx1:(O.length+1)*i0.bytes≤140737488355328:=by rw [hz2];omega
    have hx2:O.length+1≤maxLen:=by unfold maxLen;omega
    go_wp2_with (at_builtin
                 refine wpList_app good_U rfl _ _ _ _ 5 rfl i0 _ Tryz.underlying155 hi0 hz0 hzc (by rfl) (lo:=w.heap.size) (xs:=O) (ys:=[s[k]]) (bl:=bl) (bs:=[[]]) (news:=[.int .u8 (s[k].toNat:Int)]) rfl rfl (so.up good_U uq) (by simpa using nd) (Src.box (t:=5) Tryz.underlying155 kq (by simp [Value.oneCell']) (by rw [hzc];rfl)) (Rowed.one good_U ho) (by simp;omega) hx1 hx2 ?_
                 intro D' d' bl' w1 hap
                 obtain ⟨so1,nd1,mem1,on1⟩:=hap)
    obtain ⟨g1,off1,rfl,_⟩:=so1.bytes (by simp)
    go_roundw
    case rel=>exact ⟨k+1,O++[s[k]],some ⟨g1,off1,none⟩,d',bl',by omega,by omega,by go_num,by simp,by simp;omega,HS,⟨_,_,rfl⟩,so1,nd1,(hu.trans uq).only on1 (fun y hy=>(so.in_ good_U y hy).1)⟩
    case measure=>simp [intOf];omega
  ·have he:decS (s.data.toList.drop 1)=none:=by rw [HE.out,decS_end s hlt];rfl
   have HEE:=Hd he
   clear he HE
   go_wp2_with fail
   refine bodyPost_ret (v:=takeV (none)) (by simp [results,Tryz.results94,go_sem,takeV,bs]) rfl ?_
   exact ⟨by rw [HEE.out];rfl,hu⟩
theorem c_l02Take (s:ByteArray) (w:World) (h0:0<s.size) (hs:s.size≤1048576):Calls Tryz.prog 94 #[.string s] w (RetV (takeV (takeSub 1 1999999999999999999 s.data.toList)) w):=by
 by_cases h1:s[0]=1
 ·exact c_l02Take1 s w h0 hs h1
 ·by_cases h2:s[0]=2
  ·exact c_l02Take2 s w h0 hs h2
  ·exact c_l02Take0 s w h0 hs h1 h2
def GsP (r:Option (List ByteArray)) (w:World) (e:Ending) (w':World):Prop :=
 Up w w'∧∃A c,match r with
  | some l=>e=.returned (.tuple #[.slice A l.length c,.bool true])∧SRW shS w' A c l
  | none=>e=.returned (.tuple #[.slice A 0 c,.bool false])∧SRW shS w' A c []
theorem bs_isEmpty (c:UInt8) (l:List UInt8):(bs (c::l)).toList.isEmpty=false:=bs_ne (by simp)
theorem bs_nil_isEmpty:(bs []).toList.isEmpty=true:=by rw [ByteArray.toList_eq];rfl
theorem cinfo_StrG:(Tryz.prog.info? 9).map (fun i=>(i.zero,i.size,i.bytes))=some (some (.string ⟨#[]⟩),1,16):=by kernel_rfl
theorem SR.nilA {α:Type} {s:Sh α} (w:World) (lo hi:Nat) (A:Option Addr):SR s w lo hi A 0 []:=⟨Nat.le_refl _,Nat.zero_le _,fun h=>absurd h (by simp)⟩
theorem c_specGetSubs (s:ByteArray) (w:World) (hs:s.size≤1048576):Calls Tryz.prog 61 #[.string s] w (GsP (subsOf s.data.toList) w):=by
 obtain ⟨i0,hi0,hz0,hzc,hz2⟩:=info_parts cinfo_StrG
 have hll:=slen s
 have so0:SO shS (w.alloc (.cells #[] 9)) w.heap.size (w.alloc (.cells #[] 9)).heap.size (some ⟨w.heap.size,0,none⟩) 0 ([]:List ByteArray) []:=⟨Nat.le_refl _,Nat.zero_le _,.inl ⟨rfl,rfl,rfl⟩⟩
 have uu0:Up w (w.alloc (.cells #[] 9)):=(Up.refl w).alloc _
 go_enter Tryz.func61,Tryz.ntmps61
 go_wp2_with fail
 go_loopw [5,4] (fun lf out wr=>∃(L:List UInt8) (O:List ByteArray) (D:Option Addr) (d:Nat) (bl:List Nat),lf=.string (bs L)∧out=.slice D O.length d∧O.length≤5∧L.length≤s.size∧Hid (decK 1 1999999999999999999 5 [] s.data.toList=decK 1 1999999999999999999 (5-O.length) O L)∧SO shS wr w.heap.size wr.heap.size D d O bl∧bl.Nodup∧Up w wr) (fun lf _ _=>strSz lf)
 case atStart=>exact ⟨s.data.toList,[],some ⟨w.heap.size,0,none⟩,0,[],rfl,rfl,by simp,by omega,Hd rfl,so0,by simp,uu0⟩
 case round =>
  obtain ⟨L,O,D,d,bl,rfl,rfl,hO,hL,HK,so,nd,hu⟩:=hrel
  cases L with
  | nil =>
   have he:=bs_nil_isEmpty
   have hd:decK 1 1999999999999999999 5 [] s.data.toList=some (O,[]):=by
    rw [HK.out]
    obtain h5 | ⟨m,hm⟩:5-O.length=0∨∃m,5-O.length=m+1:=by
     rcases Nat.eq_zero_or_pos (5-O.length) with h | h
     ·exact .inl h
     ·exact .inr ⟨5-O.length-1,by omega⟩
    ·rw [h5];rfl
    ·rw [hm];rfl
   have HD:=Hd hd
   clear hd HK
   go_wp2_with fail
   refine (c_l02Subs O D d _ (SR.of_own good_S so)).mono ?_
   rintro e w1 ⟨rfl,u1⟩
   cases hsb:subsB O
   ·have HE:Hid (subsOf s.data.toList=none):=by
     unfold Hid subsOf getSubs
     rw [HD.out]
     show (if _ then _ else _)=_
     rw [if_neg (by rw [hsb];simp)]
    go_wp2_with fail
    go_ret2
    rw [HE.out]
    exact ⟨(hu.trans u1).alloc _,_,_,rfl,SR.nilA _ _ _ _⟩
   ·go_wp2_with fail
    refine (c_l02Put O D d _ ((SR.of_own good_S so).up good_S u1) (subsP_of hsb)).mono ?_
    rintro e w2 ⟨rfl,u2⟩
    have hbe:=str_beq (bs (O.flatMap subKeyL)) s
    by_cases hq:O.flatMap subKeyL=s.data.toList
    ·have HE:Hid (subsOf s.data.toList=some O):=by
      unfold Hid subsOf getSubs
      rw [HD.out]
      show (if _ then _ else _)=_
      rw [if_pos ⟨fun _=>rfl,hsb,hq⟩]
     rw [decide_eq_true (by rw [hq];rfl)] at hbe
     generalize bs (O.flatMap subKeyL)=T at *
     clear hq
     go_wp2_with fail
     go_ret2
     rw [HE.out]
     exact ⟨(hu.trans u1).trans u2,_,_,rfl,((SR.of_own good_S so).up good_S u1).up good_S u2⟩
    ·have HE:Hid (subsOf s.data.toList=none):=by
      unfold Hid subsOf getSubs
      rw [HD.out]
      show (if _ then _ else _)=_
      rw [if_neg (fun hh=>hq hh.2.2)]
     rw [decide_eq_false (fun hh=>hq (by have:=congrArg (fun x:ByteArray=>x.data.toList) hh;simpa [bs] using this))] at hbe
     generalize bs (O.flatMap subKeyL)=T at *
     clear hq
     go_wp2_with fail
     go_ret2
     rw [HE.out]
     exact ⟨((hu.trans u1).trans u2).alloc _,_,_,rfl,SR.nilA _ _ _ _⟩
  | cons c l =>
   have he:=bs_isEmpty c l
   have hbz:=bs_size (c::l)
   have hll1:(c::l).length=l.length+1:=rfl
   by_cases hlt:O.length≤4
   ·have hk2 : decK 1 1999999999999999999 5 [] s.data.toList=match takeSub 1 1999999999999999999 (c::l) with
     | none=>none
     | some (t,r)=>decK 1 1999999999999999999 (5-(O.length+1)) (O++[t]) r:=by
     rw [HK.out]
     obtain ⟨m,hm⟩:∃m,5-O.length=m+1:=⟨4-O.length,by omega⟩
     have e2:5-(O.length+1)=m:=by omega
     rw [hm,e2]
     rfl
    have ct:=fun W=>c_l02Take (bs (c::l)) W (by omega) (by omega)
    have e9:(bs (c::l)).data.toList=c::l:=rfl
    rw [e9] at ct
    have htl:=fun t r=>takeSub_len (lo:=1) (hi:=1999999999999999999) (l:=c::l) (t:=t) (r:=r)
    have HK2:=Hd hk2
    have CT:=Hd ct
    clear hk2 ct HK e9
    cases hts:takeSub 1 1999999999999999999 (c::l) with
    | none =>
     have HE:Hid (subsOf s.data.toList=none):=by
      unfold Hid subsOf getSubs
      rw [HK2.out,hts]
      rfl
     rw [hts] at CT
     clear HK2 htl hts
     go_wp2_with fail
     refine (CT.out _).mono ?_
     rintro e w1 ⟨rfl,u1⟩
     unfold takeV
     go_wp2_with fail
     go_ret2
     rw [HE.out]
     exact ⟨(hu.trans u1).alloc _,_,_,rfl,SR.nilA _ _ _ _⟩
    | some p =>
     obtain ⟨t,r⟩:=p
     obtain ⟨hr1,hr2⟩:=htl t r hts
     have HK3:Hid (decK 1 1999999999999999999 5 [] s.data.toList=decK 1 1999999999999999999 (5-(O.length+1)) (O++[t]) r):=by
      unfold Hid
      rw [HK2.out,hts]
     rw [hts] at CT
     clear HK2 htl hts
     have htm:t.size≤maxLen:=by unfold maxLen;omega
     have hrz:=bs_size r
     go_wp2_with fail
     refine (CT.out _).mono ?_
     rintro e w1 ⟨rfl,u1⟩
     unfold takeV
     have hu1:=hu.trans u1
     have so1:=so.up good_S u1
     have kq:=Bk.new w1 9 #[.string t]
     have uq:=(Up.refl w1).alloc (.cells #[.string t] 9)
     have ho:shS.own (w1.alloc (.cells #[.string t] 9)) w.heap.size (w1.alloc (.cells #[.string t] 9)).heap.size [.string t] t []:=⟨⟨rfl,htm⟩,rfl⟩
     have hlo:=hu1.size
     have hx1:(O.length+1)*i0.bytes≤140737488355328:=by rw [hz2];omega
     have hx2:O.length+1≤maxLen:=by unfold maxLen;omega
     go_wp2_with (at_builtin
                  refine wpList_app good_S rfl _ _ _ _ 9 rfl i0 _ Tryz.underlying52 hi0 hz0 hzc (by rfl) (lo:=w.heap.size) (xs:=O) (ys:=[t]) (bl:=bl) (bs:=[[]]) (news:=[.string t]) rfl rfl (so1.up good_S uq) (by simpa using nd) (Src.box (t:=9) Tryz.underlying52 kq (by simp [Value.oneCell']) (by rw [hzc];rfl)) (Rowed.one good_S ho) (by simp;omega) hx1 hx2 ?_
                  intro D' d' bl' w2 hap
                  obtain ⟨so2,nd2,mem2,on2⟩:=hap)
     go_roundw
     case rel=>exact ⟨r,O++[t],D',d',bl',rfl,by simp,by simp;omega,by omega,by rw [List.length_append];exact HK3,so2,nd2,(hu1.trans uq).only on2 (fun y hy=>(so1.in_ good_S y hy).1)⟩
     case measure=>simp only [strSz];omega
   ·have HE:Hid (subsOf s.data.toList=none):=by
     unfold Hid subsOf getSubs
     have h5:5-O.length=0:=by omega
     rw [HK.out,h5,decK]
     unfold subsOut
     exact if_neg (fun hh=>by have:=hh.1 rfl;cases this)
    clear HK
    go_wp2_with fail
    go_ret2
    rw [HE.out]
    exact ⟨hu.alloc _,_,_,rfl,SR.nilA _ _ _ _⟩
end Go.Proofs.YtojmcmghmnfjeaaGreatDoor
