/-
 Parts of the proof.
-/
import Derived.Test.YtojmcmghmnfjeaaGreatDoorM1A
import Derived.Lib.SlTrimSet
import Derived.Lib.ItoaLen
import Derived.Deep.CutBlock
import Derived.Deep.DeepCutAuto
import Derived.Deep.RegionHeld3
import Derived.StillTailTactics
set_option maxHeartbeats 4000000
set_option maxRecDepth 100000
namespace Go.Proofs.YtojmcmghmnfjeaaGreatDoor
open Go.RowKit
set_option linter.unusedVariables false
set_option linter.unusedSimpArgs false
/-! ### Lists: where a class of bytes ends -/
section
variable {α:Type}
theorem tw_all (p:α→Bool):∀(l:List α) (i:Nat) (h:i<(l.takeWhile p).length),∃h':i<l.length,p l[i]=true
 | [],i,h=>absurd h (by simp)
 | x::l,i,h=>by
  by_cases hx:p x=true
  ·rw [List.takeWhile_cons_of_pos hx] at h
   cases i with
   | zero=>exact ⟨by simp,by simpa using hx⟩
   | succ i =>
    obtain ⟨h1,h2⟩:=tw_all p l i (by simpa using h)
    exact ⟨by simpa using h1,by simpa using h2⟩
  ·rw [List.takeWhile_cons_of_neg hx] at h
   exact absurd h (by simp)
theorem tw_stop (p:α→Bool):∀(l:List α) (h:(l.takeWhile p).length<l.length),p l[(l.takeWhile p).length]=false
 | [],h=>absurd h (by simp)
 | x::l,h=>by
  by_cases hx:p x=true
  ·have e:=List.takeWhile_cons_of_pos (l:=l) hx
   have h':(l.takeWhile p).length<l.length:=by rw [e] at h;simpa using h
   have:=tw_stop p l h'
   have e2:((x::l).takeWhile p).length=(l.takeWhile p).length+1:=by rw [e];rfl
   simp only [e2]
   simpa using this
  ·have e2:((x::l).takeWhile p).length=0:=by rw [List.takeWhile_cons_of_neg hx];rfl
   simp only [e2]
   simpa using hx
theorem tw_le (p:α→Bool) (l:List α):(l.takeWhile p).length≤l.length:=(List.takeWhile_prefix p).length_le
theorem tw_take (p:α→Bool) (l:List α):l.take (l.takeWhile p).length=l.takeWhile p:=(List.prefix_iff_eq_take.1 (List.takeWhile_prefix p)).symm
theorem dw_drop (p:α→Bool) (l:List α):l.drop (l.takeWhile p).length=l.dropWhile p:=by
 have:=List.drop_left' (l₁:=l.takeWhile p) (l₂:=l.dropWhile p) (i:=(l.takeWhile p).length) rfl
 rwa [List.takeWhile_append_dropWhile] at this
theorem tw_at (p:α→Bool) (l:List α) (i:Nat) (h:i<(l.takeWhile p).length) (h':i<l.length):(l.takeWhile p)[i]=l[i]:=by
 have:=List.getElem_take (xs:=l) (i:=i) (j:=(l.takeWhile p).length) (h:=by rw [List.length_take];omega)
 rw [←this]
 simp only [tw_take]
end
/-! ### The number of a text -/
def isSign (c:UInt8):Bool:=c==43||c==45
def isDig (c:UInt8):Bool:=decide (48≤c.toNat)&&decide (c.toNat≤57)
def dval (c:UInt8):Nat:=c.toNat-48
def stepD (n:Nat) (c:UInt8):Nat:=10*n+dval c
def valD (l:List UInt8):Nat:=l.foldl stepD 0
abbrev maxNum:Nat:=999999999999999999
def restL (l:List UInt8):List UInt8:=l.dropWhile isSign
def wholeL (l:List UInt8):List UInt8:=(restL l).takeWhile isDig
def afterL (l:List UInt8):List UInt8:=(restL l).dropWhile isDig
def fracOf:List UInt8→List UInt8
 | []=>[]
 | c::t=>if c=46 then t.takeWhile isDig else []
def fracL (l:List UInt8):List UInt8:=fracOf (afterL l)
def six (l:List UInt8):List UInt8:=(l++[48,48,48,48,48,48]).take 6
def negB (l:List UInt8):Bool:=decide (l.count 45%2=1)
def negL (l:List UInt8):Bool:=negB (l.takeWhile isSign)
def absL (l:List UInt8):Nat:=min (valD (wholeL l++six (fracL l))) maxNum
def numOf (s:ByteArray):Int:=if negL s.data.toList=true then -(absL s.data.toList:Int) else (absL s.data.toList:Int)
theorem absL_le (l:List UInt8):absL l≤maxNum:=Nat.min_le_right _ _
theorem numOf_le (s:ByteArray):-(999999999999999999:Int)≤numOf s∧numOf s≤999999999999999999:=by
 have:absL s.data.toList≤999999999999999999:=absL_le s.data.toList
 unfold numOf
 split <;> omega
theorem isDig_bd {c:UInt8} (h:isDig c=true):48≤c.toNat∧c.toNat≤57:=by simpa [isDig] using h
theorem dval_le {c:UInt8} (h:isDig c=true):dval c≤9:=by have:=isDig_bd h;unfold dval;omega
theorem foldD_ge (l:List UInt8):∀n:Nat,n≤l.foldl stepD n:=by
 induction l with
 | nil=>intro n;exact Nat.le_refl _
 | cons c l ih=>intro n;exact Nat.le_trans (by unfold stepD;omega) (ih (stepD n c))
theorem foldD_pow (l:List UInt8):∀n:Nat,l.foldl stepD n=n*10 ^ l.length+valD l:=by
 induction l with
 | nil=>intro n;simp [valD]
 | cons c l ih =>
  intro n
  have h1:=ih (stepD n c)
  have h2:=ih (stepD 0 c)
  show l.foldl stepD (stepD n c)=n*10 ^ (l.length+1)+l.foldl stepD (stepD 0 c)
  rw [h1,h2]
  simp only [stepD,Nat.pow_succ,Nat.add_mul,Nat.mul_zero,Nat.zero_add]
  rw [Nat.mul_comm 10 n,Nat.mul_assoc,Nat.mul_comm 10 (10 ^ l.length),Nat.add_assoc]
theorem valD_append (a b:List UInt8):valD (a++b)=valD a*10 ^ b.length+valD b:=by
 unfold valD
 rw [List.foldl_append,foldD_pow]
 rfl
theorem valD_snoc (l:List UInt8) (c:UInt8):valD (l++[c])=10*valD l+dval c:=by
 unfold valD
 rw [List.foldl_append]
 rfl
theorem six_len (l:List UInt8):(six l).length=6:=by simp [six]
def fracSum:List UInt8→Nat→Nat
 | [],_=>0
 | c::t,u=>dval c*u+fracSum t (u / 10)
theorem fracSum_zero (l:List UInt8):fracSum l 0=0:=by
 induction l with
 | nil=>rfl
 | cons c t ih=>simp [fracSum,ih]
theorem fracSum_six (l:List UInt8):valD (six l)=fracSum l 100000:=by
 match l with
 | []=>rfl
 | [a]=>simp [six,valD,stepD,fracSum,dval];omega
 | [a,b]=>simp [six,valD,stepD,fracSum,dval];omega
 | [a,b,c]=>simp [six,valD,stepD,fracSum,dval];omega
 | [a,b,c,d]=>simp [six,valD,stepD,fracSum,dval];omega
 | [a,b,c,d,e]=>simp [six,valD,stepD,fracSum,dval];omega
 | a::b::c::d::e::f::t=>simp [six,valD,stepD,fracSum,dval,fracSum_zero];omega
theorem fracSum_snoc (l:List UInt8) (c:UInt8):∀u,fracSum (l++[c]) u=fracSum l u+dval c*(u / 10 ^ l.length):=by
 induction l with
 | nil=>intro u;simp [fracSum]
 | cons x l ih =>
  intro u
  simp only [List.cons_append,fracSum,ih,List.length_cons]
  rw [Nat.div_div_eq_div_mul,Nat.pow_succ,Nat.mul_comm 10,Nat.add_assoc]
theorem fracSum_take_succ (l:List UInt8) (u:Nat) {j:Nat} (h:j<l.length):fracSum (l.take (j+1)) u=fracSum (l.take j) u+dval l[j]*(u / 10 ^ j):=by
 rw [List.take_succ_eq_append_getElem h,fracSum_snoc,List.length_take,Nat.min_eq_left (Nat.le_of_lt h)]
theorem valD_take_succ (l:List UInt8) {j:Nat} (h:j<l.length):valD (l.take (j+1))=10*valD (l.take j)+dval l[j]:=by
 rw [List.take_succ_eq_append_getElem h,valD_snoc]
theorem fracSum_le:∀(l:List UInt8) (u:Nat),(∀c∈l,dval c≤9)→fracSum l u≤10*u
 | [],u,_=>Nat.zero_le _
 | c::t,u,h=>by
  have h1:=fracSum_le t (u / 10) (fun x hx=>h x (List.mem_cons_of_mem _ hx))
  have h2:=h c List.mem_cons_self
  have h3:dval c*u≤9*u:=Nat.mul_le_mul_right _ h2
  show dval c*u+fracSum t (u / 10)≤10*u
  omega
theorem tw_dval (l:List UInt8):∀c∈l.takeWhile isDig,dval c≤9:=by
 induction l with
 | nil=>intro c hc;simp at hc
 | cons x l ih =>
  intro c hc
  by_cases hx:isDig x=true
  ·rw [List.takeWhile_cons_of_pos hx] at hc
   rcases List.mem_cons.1 hc with rfl | hc
   ·exact dval_le hx
   ·exact ih c hc
  ·rw [List.takeWhile_cons_of_neg hx] at hc
   simp at hc
theorem fracOf_dval (l:List UInt8):∀c∈fracOf l,dval c≤9:=by
 cases l with
 | nil=>intro c hc;simp [fracOf] at hc
 | cons x t =>
  intro c hc
  by_cases h46:x=46
  ·rw [fracOf,if_pos h46] at hc
   exact tw_dval t c hc
  ·rw [fracOf,if_neg h46] at hc
   simp at hc
theorem fracL_sum_le (l:List UInt8) (u:Nat):fracSum (fracL l) u≤10*u:=fracSum_le _ _ (fracOf_dval _)
theorem absL_spec (l:List UInt8):absL l=min (min (min (valD (wholeL l)) 1000000000000*1000000) 1000000000000000000+fracSum (fracL l) 100000) maxNum:=by
 have h:=fracL_sum_le l 100000
 unfold absL
 rw [valD_append,six_len,fracSum_six]
 simp only [maxNum,show (10:Nat) ^ 6=1000000 by decide]
 omega
/-! ### The text of a number -/
def decT (k:Nat):List UInt8:=Lib.decDigits k
def wholeT (k:Nat):List UInt8:=if k=0 then [] else decT k
def trimZ (l:List UInt8):List UInt8:=Lib.trimRightB l 48
def fracT (r:Nat):List UInt8:=if r=0 then [] else 46::trimZ ((decT (1000000+r)).drop 1)
def posT (k:Nat):List UInt8:=wholeT (k / 1000000)++fracT (k%1000000)
def textL (n:Int):List UInt8:=if n=0 then [48] else if n<0 then 45::posT n.natAbs else posT n.natAbs
def numText (n:Int):ByteArray:=⟨(textL n).toArray⟩
theorem decT_lt {k:Nat} (h:k<10):decT k=[UInt8.ofNat (48+k)]:=by unfold decT;rw [Lib.decDigits,dif_pos h]
theorem decT_ge {k:Nat} (h:¬k<10):decT k=decT (k / 10)++[UInt8.ofNat (48+k%10)]:=by unfold decT;rw [Lib.decDigits,dif_neg h]
theorem wholeT_step {k:Nat} (h:0<k):wholeT k=wholeT (k / 10)++[UInt8.ofNat (48+k%10)]:=by
 unfold wholeT
 rw [if_neg (by omega)]
 by_cases h10:k<10
 ·rw [decT_lt h10,if_pos (by omega),Nat.mod_eq_of_lt h10];rfl
 ·rw [decT_ge h10,if_neg (by omega)]
theorem decT_length (k:Nat) (h:k≤9223372036854775808):(decT k).length≤20:=by
 unfold decT
 rw [Lib.decDigits_length]
 exact Lib.nDigits_le20 k (by omega)
theorem decT_small:∀(m k:Nat),k<10 ^ m→(decT k).length≤max m 1
 | 0,k,h=>by rw [decT_lt (by simp at h;omega)];simp
 | m+1,k,h=>by
  by_cases h10:k<10
  ·rw [decT_lt h10];simp
  ·rw [decT_ge h10]
   have:=decT_small m (k / 10) (by rw [Nat.pow_succ] at h;omega)
   simp
   have hm:m≠0:=by rintro rfl;simp at h;omega
   omega
theorem decT_pos (k:Nat):0<(decT k).length:=by
 by_cases h10:k<10
 ·rw [decT_lt h10];simp
 ·rw [decT_ge h10];simp
theorem decT_million {r:Nat} (h:r<1000000):decT (1000000+r)=[49,UInt8.ofNat (48+r / 100000),UInt8.ofNat (48+r / 10000%10),UInt8.ofNat (48+r / 1000%10),UInt8.ofNat (48+r / 100%10),UInt8.ofNat (48+r / 10%10),UInt8.ofNat (48+r%10)]:=by
 rw [decT_ge (by omega),decT_ge (by omega),decT_ge (by omega),decT_ge (by omega),decT_ge (by omega),decT_ge (by omega),decT_lt (by omega)]
 simp only [Nat.div_div_eq_div_mul,List.cons_append,List.nil_append,List.cons.injEq,and_true]
 refine ⟨?_,?_,?_,?_,?_,?_,?_⟩
 ·rw [show 48+(1000000+r) / (10*10*10*10*10*10)=49 by omega];rfl
 all_goals (congr 1;omega)
theorem dig48 {d:Nat} (hd:d<10) (h:UInt8.ofNat (48+d)=48):d=0:=by
 have:=congrArg UInt8.toNat h
 simp at this
 omega
theorem mem_trimZ_nil {l:List UInt8} (h:trimZ l=[]):∀c∈l,c=48:=by
 unfold trimZ Lib.trimRightB at h
 have h':l.reverse.dropWhile (·==48)=[]:=by simpa using h
 intro c hc
 have hall:∀(m:List UInt8),m.dropWhile (·==48)=[]→∀c∈m,c=48:=by
  intro m
  induction m with
  | nil=>intro _ c hc;simp at hc
  | cons x m ih =>
   intro hm c hc
   by_cases hx:(x==48)=true
   ·rw [List.dropWhile_cons_of_pos (p:=(·==48)) hx] at hm
    rcases List.mem_cons.1 hc with rfl | hc
    ·simpa using hx
    ·exact ih hm c hc
   ·rw [List.dropWhile_cons_of_neg (p:=(·==48)) hx] at hm
    simp at hm
 exact hall _ h' c (by simpa using hc)
theorem fracT_ne {r:Nat} (h:r<1000000) (h0:0<r):trimZ ((decT (1000000+r)).drop 1)≠[]:=by
 intro e
 have ha:=mem_trimZ_nil e
 rw [decT_million h] at ha
 simp only [List.drop_succ_cons,List.drop_zero,List.mem_cons,List.not_mem_nil,or_false,forall_eq_or_imp,forall_eq] at ha
 obtain ⟨h1,h2,h3,h4,h5,h6⟩:=ha
 have:=dig48 (by omega) h1
 have:=dig48 (by omega) h2
 have:=dig48 (by omega) h3
 have:=dig48 (by omega) h4
 have:=dig48 (by omega) h5
 have:=dig48 (by omega) h6
 omega
theorem trimZ_len (l:List UInt8):(trimZ l).length≤l.length:=by
 unfold trimZ Lib.trimRightB
 rw [List.length_reverse]
 exact Nat.le_trans (List.dropWhile_suffix _).length_le (by simp)
theorem fracT_len {r:Nat} (h:r<1000000):(fracT r).length≤7:=by
 unfold fracT
 split
 ·simp
 ·have:=trimZ_len ((decT (1000000+r)).drop 1)
  rw [decT_million h] at this ⊢
  simp at this ⊢
  omega
theorem wholeT_len {k:Nat} (h:k<1000000000000):(wholeT k).length≤12:=by
 unfold wholeT
 split
 ·simp
 ·exact Nat.le_trans (decT_small 12 k (by simpa using h)) (by decide)
theorem posT_len {k:Nat} (h:k≤maxNum):(posT k).length≤19:=by
 unfold posT
 have h1:=wholeT_len (k:=k / 1000000) (by simp only [maxNum] at h;omega)
 have h2:=fracT_len (r:=k%1000000) (by omega)
 simp;omega
theorem posT_ne {k:Nat} (h:0<k):posT k≠[]:=by
 unfold posT wholeT fracT
 intro e
 rw [List.append_eq_nil_iff] at e
 obtain ⟨e1,e2⟩:=e
 split at e1
 ·split at e2
  ·omega
  ·simp at e2
 ·have:=decT_pos (k / 1000000)
  rw [e1] at this
  simp at this
theorem textL_len {n:Int} (h:n.natAbs≤maxNum):1≤(textL n).length∧(textL n).length≤20:=by
 unfold textL
 have:=posT_len h
 split
 ·simp
 ·have h2:=posT_ne (k:=n.natAbs) (by omega)
  have h3:0<(posT n.natAbs).length:=List.length_pos_iff.2 h2
  by_cases hn:n<0
  ·rw [if_pos hn,List.length_cons];omega
  ·rw [if_neg hn];omega
theorem numText_size {n:Int} (h:n.natAbs≤maxNum):1≤(numText n).size∧(numText n).size≤20:=by
 have:=textL_len h
 have e:(numText n).size=(textL n).length:=by show (textL n).toArray.size=_;simp
 omega
theorem numOf_abs (s:ByteArray):(numOf s).natAbs≤maxNum:=by have:=numOf_le s;simp only [maxNum];omega
def canon (s:ByteArray):Bool:=decide (numText (numOf s)=s)
theorem canon_size {s:ByteArray} (h:canon s=true):1≤s.size∧s.size≤20:=by
 have e:numText (numOf s)=s:=by simpa [canon] using h
 have:=numText_size (numOf_abs s)
 rw [e] at this
 exact this
/-! ### Orders -/
structure LO {α:Type} (lt:α→α→Bool):Prop where
 irr:∀a,lt a a=false
 tr:∀a b c,lt a b=true→lt b c=true→lt a c=true
 tri:∀a b,lt a b=false→lt b a=false→a=b
section
variable {α:Type} {lt:α→α→Bool}
theorem LO.asym (h:LO lt) {a b:α} (h1:lt a b=true):lt b a=false:=by
 cases e:lt b a
 ·rfl
 ·have:=h.tr _ _ _ h1 e
  rw [h.irr] at this
  cases this
def cmpBy (lt:α→α→Bool) (a b:α):Int:=if lt a b=true then -1 else if lt b a=true then 1 else 0
theorem cmpBy_lt {a b:α} (h:lt a b=true):cmpBy lt a b=-1:=if_pos h
theorem cmpBy_gt (hl:LO lt) {a b:α} (h:lt b a=true):cmpBy lt a b=1:=by unfold cmpBy;rw [if_neg (by rw [hl.asym h];simp),if_pos h]
theorem cmpBy_self (hl:LO lt) (a:α):cmpBy lt a a=0:=by unfold cmpBy;rw [if_neg (by rw [hl.irr];simp),if_neg (by rw [hl.irr];simp)]
theorem LO.three (hl:LO lt) (a b:α):(lt a b=true∧lt b a=false∧a≠b∧cmpBy lt a b=-1)∨(a=b∧lt a b=false∧lt b a=false∧cmpBy lt a b=0)∨(lt a b=false∧lt b a=true∧a≠b∧cmpBy lt a b=1):=by
 cases e1:lt a b
 ·cases e2:lt b a
  ·obtain rfl:=hl.tri _ _ e1 e2
   exact .inr (.inl ⟨rfl,rfl,rfl,cmpBy_self hl a⟩)
  ·exact .inr (.inr ⟨rfl,rfl,(fun e=>by subst e;rw [hl.irr] at e2;cases e2),cmpBy_gt hl e2⟩)
 ·exact .inl ⟨rfl,hl.asym e1,(fun e=>by subst e;rw [hl.irr] at e1;cases e1),cmpBy_lt e1⟩
end
def intLt (a b:Int):Bool:=decide (a<b)
theorem lo_int:LO intLt:=⟨fun a=>by simp [intLt],fun a b c=>by simp [intLt];omega,fun a b=>by simp [intLt];omega⟩
theorem ba_ext {a b:ByteArray} (h:a.data.toList=b.data.toList):a=b:=by
 apply ByteArray.ext
 rw [←Array.toArray_toList (xs:=a.data),h]
def lexLt {α:Type} (lt:α→α→Bool):List α→List α→Bool
 | [],[]=>false
 | [],_::_=>true
 | _::_,[]=>false
 | x::xs,y::ys=>if lt x y=true then true else if lt y x=true then false else lexLt lt xs ys
theorem lo_lex {α:Type} {lt:α→α→Bool} (hl:LO lt):LO (lexLt lt):=by
 refine ⟨fun a=>?_,fun a=>?_,fun a=>?_⟩
 ·induction a with
  | nil=>rfl
  | cons x xs ih=>simp [lexLt,hl.irr,ih]
 ·induction a with
  | nil =>
   intro b c h1 h2
   cases b with
   | nil=>simp [lexLt] at h1
   | cons y ys=>cases c with
    | nil=>simp [lexLt] at h2
    | cons z zs=>rfl
  | cons x xs ih =>
   intro b c h1 h2
   cases b with
   | nil=>simp [lexLt] at h1
   | cons y ys=>cases c with
    | nil=>simp [lexLt] at h2
    | cons z zs =>
     unfold lexLt at h1 h2 ⊢
     rcases hl.three x y with ⟨e1,e2,_,_⟩ | ⟨rfl,e1,_,_⟩ | ⟨e1,e2,_,_⟩
     ·rcases hl.three y z with ⟨f1,f2,_,_⟩ | ⟨rfl,f1,_,_⟩ | ⟨f1,f2,_,_⟩
      ·rw [if_pos (hl.tr _ _ _ e1 f1)]
      ·rw [if_pos e1]
      ·rw [f1,f2] at h2;simp at h2
     ·rw [if_neg (by rw [e1];simp),if_neg (by rw [e1];simp)] at h1
      rcases hl.three x z with ⟨f1,f2,_,_⟩ | ⟨rfl,f1,_,_⟩ | ⟨f1,f2,_,_⟩
      ·rw [if_pos f1]
      ·rw [if_neg (by rw [f1];simp),if_neg (by rw [f1];simp)] at h2 ⊢
       exact ih _ _ h1 h2
      ·rw [f1,f2] at h2;simp at h2
     ·rw [e1,e2] at h1;simp at h1
 ·induction a with
  | nil =>
   intro b h1 h2
   cases b with
   | nil=>rfl
   | cons y ys=>simp [lexLt] at h1
  | cons x xs ih =>
   intro b h1 h2
   cases b with
   | nil=>simp [lexLt] at h2
   | cons y ys =>
    unfold lexLt at h1 h2
    rcases hl.three x y with ⟨e1,e2,_,_⟩ | ⟨rfl,e1,_,_⟩ | ⟨e1,e2,_,_⟩
    ·rw [e1] at h1;simp at h1
    ·rw [e1] at h1 h2;simp at h1 h2
     rw [ih _ h1 h2]
    ·rw [e2] at h2;simp at h2
def u8Lt (a b:UInt8):Bool:=decide (a<b)
theorem lo_u8:LO u8Lt:=⟨fun a=>by simp [u8Lt],fun a b c=>by simp only [u8Lt,decide_eq_true_eq,UInt8.lt_iff_toNat_lt];omega,fun a b=>by
 simp only [u8Lt,decide_eq_false_iff_not,UInt8.lt_iff_toNat_lt]
 intro h1 h2
 exact UInt8.toNat_inj.1 (by omega)⟩
theorem bytesLess_lex:∀(a b:List UInt8),Op.bytesLess a b=lexLt u8Lt a b
 | [],[]=>rfl
 | [],_::_=>rfl
 | _::_,[]=>rfl
 | x::xs,y::ys=>by
  have ih:=bytesLess_lex xs ys
  unfold Op.bytesLess lexLt
  rw [ih]
  rcases lo_u8.three x y with e | e | e
  ·have h1:decide (x<y)=true:=e.1
   rw [h1,if_pos e.1];rfl
  ·obtain ⟨rfl,e1,_⟩:=e
   have h1:decide (x<x)=false:=e1
   rw [h1,if_neg (by rw [e1];simp),if_neg (by rw [e1];simp)];simp
  ·have h1:decide (x<y)=false:=e.1
   have h2:(x==y)=false:=by simpa using e.2.2.1
   rw [h1,h2,if_neg (by rw [e.1];simp),if_pos e.2.1];rfl
def bytesLt (a b:ByteArray):Bool:=Op.bytesLess a.toList b.toList
theorem lo_bytes:LO bytesLt:=by
 have hl:=lo_lex lo_u8
 refine ⟨fun a=>?_,fun a b c h1 h2=>?_,fun a b h1 h2=>?_⟩
 ·unfold bytesLt;rw [bytesLess_lex];exact hl.irr _
 ·unfold bytesLt at h1 h2 ⊢
  rw [bytesLess_lex] at h1 h2 ⊢
  exact hl.tr _ _ _ h1 h2
 ·unfold bytesLt at h1 h2
  rw [bytesLess_lex] at h1 h2
  have:=hl.tri _ _ h1 h2
  rw [ByteArray.toList_eq,ByteArray.toList_eq] at this
  exact ba_ext this
def subLt (a b:ByteArray):Bool:=if canon a=true∧canon b=true then intLt (numOf a) (numOf b) else if canon a=true then true else if canon b=true then false else bytesLt a b
section
variable {α:Type} {lt:α→α→Bool}
end
def subsLt:List ByteArray→List ByteArray→Bool:=lexLt subLt
def thenLt {α β:Type} (la:α→α→Bool) (lb:β→β→Bool) (x y:α×β):Bool:=if la x.1 y.1=true then true else if la y.1 x.1=true then false else lb x.2 y.2
def locLt (x y:ByteArray×List ByteArray):Bool:=thenLt bytesLt subsLt x y
/-! ### Places, nodes, trees, images -/
def isLetter (c:UInt8):Bool:=(decide (97≤c.toNat)&&decide (c.toNat≤122))||(decide (65≤c.toNat)&&decide (c.toNat≤90))
def chOk (i:Nat) (c:UInt8):Bool:=isLetter c||(if i=0 then c==37 else isDig c)
def NameP (s:ByteArray):Prop:=1≤s.size∧s.size≤8∧∀i (h:i<s.size),chOk i s[i]=true
instance (s:ByteArray):Decidable (NameP s):=by unfold NameP;infer_instance
def nameB (s:ByteArray):Bool:=decide (NameP s)
theorem nameB_t {s:ByteArray} (h:NameP s):nameB s=true:=decide_eq_true h
theorem nameB_f {s:ByteArray} (h:¬NameP s):nameB s=false:=decide_eq_false h
def subB (s:ByteArray):Bool:=decide (1≤s.size)&&decide (s.size≤24)
def SubsP (l:List ByteArray):Prop:=l.length≤4∧∀i (h:i<l.length),subB l[i]=true
instance (l:List ByteArray):Decidable (SubsP l):=by unfold SubsP;infer_instance
def subsB (l:List ByteArray):Bool:=decide (SubsP l)
theorem subsB_t {l:List ByteArray} (h:SubsP l):subsB l=true:=decide_eq_true h
theorem subsB_f {l:List ByteArray} (h:¬SubsP l):subsB l=false:=decide_eq_false h
def placeB (name:ByteArray) (subs:List ByteArray):Bool:=nameB name&&subsB subs
/-! ### A run of bytes of one class in a string -/
section
variable (p:UInt8→Bool) (s:ByteArray) (a:Nat)
def runL:List UInt8:=(s.data.toList.drop a).takeWhile p
theorem slen (s:ByteArray):s.data.toList.length=s.size:=Array.length_toList
theorem inRunL {j:Nat} (h:j<(runL p s a).length):∃h':a+j<s.size,p s[a+j]=true∧(runL p s a)[j]=s[a+j]:=by
 obtain ⟨h1,h2⟩:=tw_all p _ j h
 have hs:=slen s
 have h3:a+j<s.size:=by rw [List.length_drop] at h1;omega
 refine ⟨h3,?_,?_⟩
 ·rw [List.getElem_drop] at h2;exact h2
 ·have:=tw_at p _ j h h1
  rw [List.getElem_drop] at this
  exact this
theorem run_end (h:a+(runL p s a).length<s.size):p s[a+(runL p s a).length]=false:=by
 have hs:=slen s
 have:=tw_stop p (s.data.toList.drop a) (by rw [List.length_drop];show (runL p s a).length<_;omega)
 rw [List.getElem_drop] at this
 exact this
theorem run_le (h:a≤s.size):a+(runL p s a).length≤s.size:=by
 have:=tw_le p (s.data.toList.drop a)
 rw [List.length_drop] at this
 have hs:=slen s
 show a+((s.data.toList.drop a).takeWhile p).length≤_
 omega
theorem run_rest:s.data.toList.drop (a+(runL p s a).length)=(s.data.toList.drop a).dropWhile p:=by
 rw [←dw_drop,List.drop_drop]
 rfl
end
def signR (s:ByteArray):List UInt8:=runL isSign s 0
def wholeR (s:ByteArray):List UInt8:=runL isDig s (signR s).length
def atP (s:ByteArray):Nat:=(signR s).length+(wholeR s).length
theorem signR_eq (s:ByteArray):signR s=s.data.toList.takeWhile isSign:=by unfold signR runL;rw [List.drop_zero]
theorem restL_eq (s:ByteArray):restL s.data.toList=s.data.toList.drop (signR s).length:=by unfold restL;rw [signR_eq,dw_drop]
theorem wholeR_eq (s:ByteArray):wholeR s=wholeL s.data.toList:=by unfold wholeL;rw [restL_eq];rfl
theorem afterL_eq (s:ByteArray):afterL s.data.toList=s.data.toList.drop (atP s):=by
 unfold afterL atP
 rw [restL_eq]
 exact (run_rest isDig s _).symm
theorem signR_le (s:ByteArray):(signR s).length≤s.size:=by have:=run_le isSign s 0 (Nat.zero_le _);unfold signR;omega
theorem atP_le (s:ByteArray):atP s≤s.size:=run_le isDig s _ (signR_le s)
theorem fracL_yes {s:ByteArray} (h:atP s<s.size) (h2:s[atP s]=46):fracL s.data.toList=runL isDig s (atP s+1):=by
 unfold fracL
 rw [afterL_eq,List.drop_eq_getElem_cons (by rw [slen];exact h)]
 show (if s[atP s]=46 then _ else _)=_
 rw [if_pos h2]
 rfl
theorem fracL_no {s:ByteArray} (h:atP s<s.size) (h2:s[atP s]≠46):fracL s.data.toList=[]:=by
 unfold fracL
 rw [afterL_eq,List.drop_eq_getElem_cons (by rw [slen];exact h)]
 show (if s[atP s]=46 then _ else _)=_
 rw [if_neg h2]
theorem fracL_end {s:ByteArray} (h:¬atP s<s.size):fracL s.data.toList=[]:=by
 unfold fracL
 rw [afterL_eq,List.drop_of_length_le (by rw [slen];omega)]
 rfl
theorem negB_snoc (l:List UInt8) (c:UInt8):negB (l++[c])=(if c=45 then !negB l else negB l):=by
 unfold negB
 rw [List.count_append,List.count_singleton]
 by_cases h:c=45
 ·rw [if_pos h];simp only [h,beq_self_eq_true,if_true]
  by_cases h2:List.count 45 l%2=1
  ·rw [decide_eq_true h2,decide_eq_false (by omega)];rfl
  ·rw [decide_eq_false h2,decide_eq_true (by omega)];rfl
 ·rw [if_neg h];simp [h]
theorem negL_eq (s:ByteArray):negL s.data.toList=negB (signR s):=by unfold negL;rw [signR_eq]
theorem u8_ne {c d:UInt8} (h:c≠d):¬(c.toNat:Int)=(d.toNat:Int):=fun e=>h (UInt8.toNat_inj.1 (by omega))
theorem u8_eq {c d:UInt8} (h:c=d):(c.toNat:Int)=(d.toNat:Int):=by rw [h]
theorem isSign_cases {c:UInt8} (h:isSign c=true):c=43∨c=45:=by simpa [isSign] using h
theorem isSign_not {c:UInt8} (h:isSign c=false):c≠43∧c≠45:=by simpa [isSign] using h
theorem c_l00Min (a b:Int) (w:World):Calls Tryz.prog 173 #[.int .i64 a,.int .i64 b] w fun e w'=>e=.returned (.int .i64 (min a b))∧w=w':=by
 by_cases h:a<b
 ·go_enter Tryz.func173,Tryz.ntmps173
  go_wp2
  go_ret
  exact ⟨by rw [Int.min_eq_left (by omega)];rfl,rfl⟩
 ·go_enter Tryz.func173,Tryz.ntmps173
  go_wp2
  go_ret
  exact ⟨by rw [Int.min_eq_right (by omega)];rfl,rfl⟩
theorem ret_int {k:IntKind} {a b:Int} (h:a=b):Ending.returned (.int k a)=.returned (.int k b):=by rw [h]
theorem ret_int' {k:IntKind} {a b:Int} (h:a=b):Value.int k a=.int k b:=by rw [h]
theorem u8_nb {c d:UInt8} (z:Int) (hz:z=(d.toNat:Int)) (h:c≠d):((c.toNat:Int)==z)=false:=by
 rw [beq_eq_false_iff_ne,hz]
 exact u8_ne h
theorem u8_nn {c d:UInt8} (z:Int) (hz:z=(d.toNat:Int)) (h:c≠d):¬(c.toNat:Int)=z:=by rw [hz];exact u8_ne h
theorem u8_yb {c d:UInt8} (z:Int) (hz:z=(d.toNat:Int)) (h:c=d):(c.toNat:Int)=z:=by rw [hz,h]
theorem cap18 (v:Nat):∃n0:Nat,n0=min (v*1000000) 1000000000000000000∧n0≤1000000000000000000∧min ((v:Int)*1000000) 1000000000000000000=(n0:Int):=⟨_,rfl,by omega,by omega⟩
theorem c_l01Digit (c:UInt8) (w:World):Calls Tryz.prog 155 #[.int .u8 (c.toNat:Int)] w fun e w'=>e=.returned (.bool (isDig c))∧w=w':=by
 unfold isDig
 by_cases h1:48≤c.toNat
 ·have h1':(48:Int)≤(c.toNat:Int):=by omega
  by_cases h2:c.toNat≤57
  ·have h2':(c.toNat:Int)≤57:=by omega
   go_enter Tryz.func155,Tryz.ntmps155
   go_wp2
   go_ret
   exact ⟨by simp [h1,h2],rfl⟩
  ·have h2':¬(c.toNat:Int)≤57:=by omega
   go_enter Tryz.func155,Tryz.ntmps155
   go_wp2
   go_ret
   exact ⟨by simp [h1,h2],rfl⟩
 ·have h1':¬(48:Int)≤(c.toNat:Int):=by omega
  go_enter Tryz.func155,Tryz.ntmps155
  go_wp2
  go_ret
  exact ⟨by simp [h1],rfl⟩
theorem c_l01Of (s:ByteArray) (w:World) (hs:s.size≤maxLen):Calls Tryz.prog 153 #[.string s] w fun e w'=>e=.returned (.int .i64 (numOf s))∧w=w':=by
 unfold maxLen at hs
 have hp1:=signR_le s
 have hp2:=atP_le s
 go_enter Tryz.func153,Tryz.ntmps153
 go_upto_block 0 with fail
 go_cut [3,4] (fun i m wx=>i=.int .i64 (signR s).length∧m=.bool (negB (signR s))∧wx=w)
 case first =>
  go_wp2_with fail
  go_loop [3,4] (fun i m=>∃k:Nat,k≤(signR s).length∧i=.int .i64 k∧m=.bool (negB ((signR s).take k))) (fun i _=>s.size-(intOf i).toNat)
  case atStart=>exact ⟨0,Nat.zero_le _,rfl,rfl⟩
  case round =>
   obtain ⟨k,hk,rfl,rfl⟩:=hrel
   by_cases hlt:k<(signR s).length
   ·obtain ⟨h1,h2,h3⟩:=inRunL isSign s 0 hlt
    simp only [Nat.zero_add] at h1 h2 h3
    have hsn:negB ((signR s).take (k+1))=(if s[k]=45 then !negB ((signR s).take k) else negB ((signR s).take k)):=by
     rw [List.take_succ_eq_append_getElem hlt,negB_snoc]
     have:(signR s)[k]=s[k]:=h3
     rw [this]
    rcases isSign_cases h2 with hc | hc
    ·have hc':=u8_eq hc
     have hc2:((43:UInt8).toNat:Int)=43:=rfl
     rw [hc2] at hc'
     rw [hc,if_neg (by decide)] at hsn
     have H:=Hd hsn
     clear hsn h3 hc h2
     go_wp2
     go_round
     case rel=>exact ⟨k+1,by omega,by go_num,by rw [H.out]⟩
     case measure=>simp [intOf];omega
    ·have hc':=u8_eq hc
     have hc2:((45:UInt8).toNat:Int)=45:=rfl
     rw [hc2] at hc'
     rw [hc,if_pos rfl] at hsn
     have H:=Hd hsn
     clear hsn h3 hc h2
     go_wp2
     go_round
     case rel=>exact ⟨k+1,by omega,by go_num,by rw [H.out]⟩
     case measure=>simp [intOf];omega
   ·obtain rfl:k=(signR s).length:=by omega
    have ht:(signR s).take (signR s).length=signR s:=List.take_length
    have H:=Hd ht
    clear ht
    by_cases he:(signR s).length<s.size
    ·have hc:s[(signR s).length]≠43∧s[(signR s).length]≠45:=isSign_not (by have:=run_end isSign s 0 (by rw [Nat.zero_add];exact he);simp only [Nat.zero_add] at this;exact this)
     have h43:=u8_nb 43 rfl hc.1
     have h45:=u8_nb 45 rfl hc.2
     clear hc
     go_wp2_with fail
     go_meet
     exact ⟨rfl,rfl,rfl⟩
    ·go_wp2
     go_meet
     exact ⟨rfl,rfl,rfl⟩
 case rest =>
  obtain ⟨rfl,rfl,rfl⟩:=hcut
  go_upto_block 2 with fail
  go_cut [3,5] (fun i n wx=>i=.int .i64 (atP s)∧n=.int .i64 ((min (valD (wholeR s)) 1000000000000:Nat):Int)∧wx=wc)
  case first =>
   go_wp2_with fail
   go_loop [3,5] (fun i n=>∃k:Nat,k≤(wholeR s).length∧i=.int .i64 ((signR s).length+k:Nat)∧n=.int .i64 ((min (valD ((wholeR s).take k)) 1000000000000:Nat):Int)) (fun i _=>s.size-(intOf i).toNat)
   case atStart=>exact ⟨0,Nat.zero_le _,rfl,by simp [valD]⟩
   case round =>
    obtain ⟨k,hk,rfl,rfl⟩:=hrel
    have hm:min (valD ((wholeR s).take k)) 1000000000000≤1000000000000:=Nat.min_le_right _ _
    by_cases hlt:k<(wholeR s).length
    ·obtain ⟨h1,h2,h3⟩:=inRunL isDig s (signR s).length hlt
     have h3':(wholeR s)[k]=s[(signR s).length+k]:=h3
     have hsn:=valD_take_succ (wholeR s) hlt
     rw [h3'] at hsn
     have hd:=isDig_bd h2
     have hdv:dval s[(signR s).length+k]=s[(signR s).length+k].toNat-48:=rfl
     have hmin:((min (valD ((wholeR s).take (k+1))) 1000000000000:Nat):Int)=min (10*((min (valD ((wholeR s).take k)) 1000000000000:Nat):Int)+((s[(signR s).length+k].toNat:Int)-48)) 1000000000000:=by
      rw [hsn];omega
     have H:=Hd hmin
     have hd1:(48:Int)≤s[(signR s).length+k].toNat:=by omega
     have hd2:(s[(signR s).length+k].toNat:Int)≤57:=by omega
     clear hmin hsn h3' h3 hdv hd
     generalize min (valD ((wholeR s).take k)) 1000000000000=v at hm H ⊢
     go_wp2_with (first | (go_at_call 155;refine (c_l01Digit _ _).mono ?_;rintro e w' ⟨rfl,rfl⟩;rw [h2]) | (go_at_call 173;refine (c_l00Min _ _ _).mono ?_;rintro e w' ⟨rfl,rfl⟩))
     go_round
     case rel=>exact ⟨k+1,by omega,by congr 1,by rw [H.out]⟩
     case measure=>simp [intOf];omega
    ·obtain rfl:k=(wholeR s).length:=by omega
     have ht:(wholeR s).take (wholeR s).length=wholeR s:=List.take_length
     have hat:atP s=(signR s).length+(wholeR s).length:=rfl
     by_cases he:(signR s).length+(wholeR s).length<s.size
     ·have hc:=run_end isDig s (signR s).length he
      have hc':isDig s[(signR s).length+(wholeR s).length]=false:=hc
      clear hc
      go_wp2_with (go_at_call 155;refine (c_l01Digit _ _).mono ?_;rintro e w' ⟨rfl,rfl⟩;rw [hc'])
      go_meet
      exact ⟨rfl,rfl,rfl⟩
     ·go_wp2_with fail
      go_meet
      exact ⟨rfl,rfl,rfl⟩
  case rest =>
   obtain ⟨rfl,rfl,rfl⟩:=hcut
   generalize hv:min (valD (wholeR s)) 1000000000000=v
   have hvle:v≤1000000000000:=by rw [←hv];exact Nat.min_le_right _ _
   have HV:=Hd hv
   clear hv
   have hmul:IntKind.i64.wrap ((v:Int)*1000000)=(v:Int)*1000000:=IntWalk.i64_in _ (by omega)
   have hat:=atP_le s
   have hab:=absL_spec s.data.toList
   rw [←wholeR_eq,HV.out] at hab
   have hble:fracSum (fracL s.data.toList) 100000≤1000000:=fracL_sum_le _ _
   have hnum:numOf s=if negB (signR s)=true then -((min (min (v*1000000) 1000000000000000000+fracSum (fracL s.data.toList) 100000) 999999999999999999:Nat):Int) else ((min (min (v*1000000) 1000000000000000000+fracSum (fracL s.data.toList) 100000) 999999999999999999:Nat):Int):=by
    unfold numOf
    rw [negL_eq,hab]
   obtain ⟨n0,hn0,hm18,hmm⟩:=cap18 v
   rw [←hn0] at hnum
   have HM:=Hd hmm
   clear hmm hab hn0
   generalize negB (signR s)=ng at hnum ⊢
   by_cases he:atP s<s.size
   ·by_cases h46:s[atP s]=46
    ·have e46:=u8_yb 46 rfl h46
     rw [fracL_yes he h46] at hnum hble
     clear h46
     have hrl:=run_le isDig s (atP s+1) he
     go_wp2_with (go_at_call 173;refine (c_l00Min _ _ _).mono ?_;rintro e w' ⟨rfl,rfl⟩;try rw [HM.out])
     have HI:=Hd (fun (k:Nat) (h:k<(runL isDig s (atP s+1)).length)=>inRunL isDig s (atP s+1) h)
     have HE:=Hd (run_end isDig s (atP s+1))
     have HB:=Hd (fun (k:Nat)=>fracSum_le ((runL isDig s (atP s+1)).take k) 100000 (fun c hc=>tw_dval _ c (List.mem_of_mem_take hc)))
     generalize runL isDig s (atP s+1)=F at *
     have HN:=Hd hnum
     clear hnum
     go_loop [3,5,6] (fun i n u=>∃k:Nat,k≤F.length∧i=.int .i64 (atP s+1+k:Nat)∧n=.int .i64 (n0+fracSum (F.take k) 100000:Nat)∧u=.int .i64 (100000 / 10 ^ k:Nat)) (fun i _ _=>s.size-(intOf i).toNat)
     case atStart=>exact ⟨0,Nat.zero_le _,rfl,rfl,rfl⟩
     case round =>
      obtain ⟨k,hk,rfl,rfl,rfl⟩:=hrel
      have hfk:=HB.out k
      by_cases hlt:k<F.length
      ·obtain ⟨h1,h2,h3⟩:=HI.out k hlt
       have hsn:=fracSum_take_succ F 100000 hlt
       rw [h3] at hsn
       have hd:=isDig_bd h2
       have hdv:dval s[atP s+1+k]=s[atP s+1+k].toNat-48:=rfl
       have hu1:100000 / 10 ^ (k+1)=100000 / 10 ^ k / 10:=by rw [Nat.pow_succ,Nat.div_div_eq_div_mul]
       have hu2:100000 / 10 ^ k≤100000:=Nat.div_le_self _ _
       have hd1:(48:Int)≤s[atP s+1+k].toNat:=by omega
       have hd2:(s[atP s+1+k].toNat:Int)≤57:=by omega
       rw [hdv] at hsn
       have HS:=Hd hsn
       have HU:=Hd hu1
       clear hsn hu1 h3 hdv hd
       generalize hgu:100000 / 10 ^ k=u at *
       have hp0:(s[atP s+1+k].toNat-48)*u≤9*100000:=Nat.mul_le_mul (by omega) hu2
       have hpe:((s[atP s+1+k].toNat:Int)-48)*(u:Int)=(((s[atP s+1+k].toNat-48)*u:Nat):Int):=by
        rw [Int.natCast_mul];congr 1;omega
       have hq0:0≤((s[atP s+1+k].toNat:Int)-48)*(u:Int):=by omega
       have hq1:((s[atP s+1+k].toNat:Int)-48)*(u:Int)≤900000:=by omega
       have HP:=Hd hpe
       have HG:=Hd hgu
       clear hpe hgu
       go_wp2_with (go_at_call 155;refine (c_l01Digit _ _).mono ?_;rintro e w' ⟨rfl,rfl⟩;rw [h2])
       go_round
       case rel=>exact ⟨k+1,by omega,by congr 1,ret_int' (by rw [HS.out];have:=HP.out;omega),by rw [HU.out];rfl⟩
       case measure=>simp [intOf];omega
      ·obtain rfl:k=F.length:=by omega
       have ht:F.take F.length=F:=List.take_length
       rw [ht] at hfk
       have hneg:IntKind.i64.wrap (-(min ((n0:Int)+(fracSum F 100000:Nat)) 999999999999999999))=-(min ((n0:Int)+(fracSum F 100000:Nat)) 999999999999999999):=IntWalk.i64_in _ (by omega)
       by_cases he2:atP s+1+F.length<s.size
       ·have h2:=HE.out he2
        cases ng
        all_goals
         go_wp2_with (first | (go_at_call 155;refine (c_l01Digit _ _).mono ?_;rintro e w' ⟨rfl,rfl⟩;rw [h2]) | (go_at_call 173;refine (c_l00Min _ _ _).mono ?_;rintro e w' ⟨rfl,rfl⟩))
         go_ret
         exact ⟨ret_int (by rw [HN.out];simp only [if_true,Bool.false_eq_true,if_false];omega),rfl⟩
       ·cases ng
        all_goals
         go_wp2_with (go_at_call 173;refine (c_l00Min _ _ _).mono ?_;rintro e w' ⟨rfl,rfl⟩)
         go_ret
         exact ⟨ret_int (by rw [HN.out];simp only [if_true,Bool.false_eq_true,if_false];omega),rfl⟩
    ·have n46:=u8_nn 46 rfl h46
     rw [fracL_no he h46] at hnum
     have HN:=Hd hnum
     clear hnum h46
     have hneg:IntKind.i64.wrap (-(min (n0:Int) 999999999999999999))=-(min (n0:Int) 999999999999999999):=IntWalk.i64_in _ (by omega)
     cases ng
     all_goals
      go_wp2_with (go_at_call 173;refine (c_l00Min _ _ _).mono ?_;rintro e w' ⟨rfl,rfl⟩;try rw [HM.out])
      go_ret
      exact ⟨ret_int (by rw [HN.out];simp only [if_true,Bool.false_eq_true,if_false,fracSum];omega),rfl⟩
   ·have hfr:fracSum (fracL s.data.toList) 100000=0:=by rw [fracL_end he];rfl
    rw [hfr] at hnum
    clear hfr hble
    have HN:=Hd hnum
    clear hnum
    have hneg:IntKind.i64.wrap (-(min (n0:Int) 999999999999999999))=-(min (n0:Int) 999999999999999999):=IntWalk.i64_in _ (by omega)
    cases ng
    all_goals
     go_wp2_with (go_at_call 173;refine (c_l00Min _ _ _).mono ?_;rintro e w' ⟨rfl,rfl⟩;try rw [HM.out])
     go_ret
     exact ⟨ret_int (by rw [HN.out];simp only [if_true,Bool.false_eq_true,if_false];omega),rfl⟩
def bs (l:List UInt8):ByteArray:=⟨l.toArray⟩
theorem bs_size (l:List UInt8):(bs l).size=l.length:=by show l.toArray.size=_;simp
theorem bs_toList (l:List UInt8):(bs l).data.toList=l:=by show l.toArray.toList=l;simp
theorem bs_append (a b:List UInt8):bs (a++b)=bs a++bs b:=by
 apply ByteArray.ext
 simp [bs,ByteArray.data_append]
theorem bs_eta (s:ByteArray):bs s.data.toList=s:=by
 apply ByteArray.ext
 simp [bs]
theorem conv_at (d:Int) (c:UInt8) (hd:d=(c.toNat:Int)) (W:World) (b:Nat) (hb:Bk W b 5 #[.int .u8 d]):(convert 155 9 (.slice (some ⟨b,0,none⟩) 1 1)).run Tryz.prog W=.ok (.string (bs [c])) W:=by
 subst hd
 have hb:Lib.Bytes W b 0 (bs [c]):=fun i hi=>by
  obtain rfl:i=0:=by have:i<1:=hi;omega
  exact hb.cell 0
 exact Lib.run_convert_whole (P:=Tryz.prog) _ 155 5 9 Tryz.underlying155 Tryz.underlying5 Tryz.underlying9 _ _ _ hb 1
theorem c_l01Whole (k:Nat):∀(w:World),k≤9223372036854775807→Calls Tryz.prog 151 #[.int .i64 (k:Int)] w (RetV (.string (bs (wholeT k))) w):=by
 induction k using Nat.strongRecOn with
 | _ k ih =>
  intro w hk
  by_cases h0:k=0
  ·subst h0
   clear ih
   go_enter Tryz.func151,Tryz.ntmps151
   go_wp2
   go_ret
   exact ⟨rfl,Up.refl w⟩
  ·have hst:bs (wholeT k)=bs (wholeT (k / 10))++bs [UInt8.ofNat (48+k%10)]:=by rw [wholeT_step (by omega),bs_append]
   have H:=Hd hst
   have hr:Int.tmod (k:Int) 10=((k%10:Nat):Int):=by norm_cast
   have hq:Int.tdiv (k:Int) 10=((k / 10:Nat):Int):=by norm_cast
   have hk0:¬(k:Int)=0:=by omega
   have ih1:∀(q:Int) (w:World),q=((k / 10:Nat):Int)→Calls Tryz.prog 151 #[.int .i64 q] w (RetV (.string (bs (wholeT (k / 10)))) w):=fun q w hq=>by
    subst hq
    exact ih (k / 10) (by omega) w (by omega)
   have hs:(wholeT (k / 10)).length≤20:=by
    unfold wholeT
    split
    ·simp
    ·exact decT_length _ (by omega)
   have hs1:=bs_size (wholeT (k / 10))
   have hs2:¬9223372036854775807<(bs (wholeT (k / 10))).size+(bs [UInt8.ofNat (48+k%10)]).size:=by rw [bs_size,bs_size];simp;omega
   clear ih hst h0 hs1 hs
   obtain ⟨c,hcc⟩:∃c,c=UInt8.ofNat (48+k%10):=⟨_,rfl⟩
   rw [←hcc] at H hs2
   have hdd:(48:Int)+(k:Int)%10=(c.toNat:Int):=by
    rw [hcc,UInt8.toNat_ofNat'];omega
   clear hcc
   have HD:=Hd hdd
   clear hdd
   have hcv:∀W:World,(convert 155 9 (.slice (some ⟨W.heap.size,0,none⟩) 1 1)).run Tryz.prog (W.alloc (.cells #[.int .u8 (48+(k:Int)%10)] 5))=.ok (.string (bs [c])) (W.alloc (.cells #[.int .u8 (48+(k:Int)%10)] 5)) :=
    fun W=>conv_at _ _ HD.out _ _ (Bk.new _ _ _)
   have hcv2:(convert 155 9 (.slice (some ⟨w.heap.size,0,none⟩) 1 1)).run Tryz.prog (w.alloc (.cells #[.int .u8 (48+(k:Int)%10)] 5)).drew=.ok (.string (bs [c])) (w.alloc (.cells #[.int .u8 (48+(k:Int)%10)] 5)).drew :=
    conv_at _ _ HD.out _ _ (Bk.drew (Bk.new _ _ _))
   have hw1:IntKind.i64.wrap ((k:Int) / 10)=(k:Int) / 10:=IntWalk.i64_in _ (by omega)
   have hw2:IntKind.i64.wrap ((48:Int)+(k:Int)%10)=(48:Int)+(k:Int)%10:=IntWalk.i64_in _ (by omega)
   have hw3:IntKind.u8.wrap ((48:Int)+(k:Int)%10)=(48:Int)+(k:Int)%10:=by simp [IntKind.wrap,IntKind.bits,IntKind.signed];omega
   go_enter Tryz.func151,Tryz.ntmps151
   go_wp2_with fail
   go_region_with (go_at_call 151;refine (ih1 _ _ (by omega)).mono ?_;rintro e w1 ⟨rfl,u⟩;first | (have hbx:=Bk.up (Bk.drew (Bk.new w 5 #[.int .u8 (48+(k:Int)%10)])) (by with_reducible exact u);have hcx:=conv_at _ _ HD.out w1 _ hbx) | skip)
   all_goals go_wp2_with fail
   all_goals go_ret
   all_goals exact ⟨by rw [H.out];first | done | rfl,by repeat (first | exact Up.refl _ | refine Up.trans ?_ u | refine Up.alloc ?_ _ | refine Up.drew ?_)⟩
def zAt (D:List UInt8):Nat:=D.length-(D.reverse.takeWhile (·==48)).length
theorem zAt_le (D:List UInt8):zAt D≤D.length:=Nat.sub_le _ _
theorem trimZ_take (D:List UInt8):trimZ D=D.take (zAt D):=by
 unfold trimZ Lib.trimRightB zAt
 rw [←dw_drop,List.drop_reverse,List.reverse_reverse]
theorem zAt_in {D:List UInt8} {i:Nat} (h:zAt D≤i) (hi:i<D.length):D[i]=48:=by
 unfold zAt at h
 have h1:D.length-1-i<(D.reverse.takeWhile (·==48)).length:=by omega
 obtain ⟨h2,h3⟩:=tw_all (·==48) D.reverse _ h1
 rw [List.getElem_reverse] at h3
 have e:D.length-1-(D.length-1-i)=i:=by omega
 simp only [e] at h3
 simpa using h3
theorem zAt_stop {D:List UInt8} (h:0<zAt D):D[zAt D-1]'(by have:=zAt_le D;omega)≠48:=by
 have hle:=zAt_le D
 have h1:(D.reverse.takeWhile (·==48)).length<D.reverse.length:=by unfold zAt at h;simp;omega
 have h2:=tw_stop (·==48) D.reverse h1
 rw [List.getElem_reverse] at h2
 have e:D.length-1-(D.reverse.takeWhile (·==48)).length=zAt D-1:=by unfold zAt;omega
 simp only [e] at h2
 simpa using h2
theorem bs_get (l:List UInt8) (i:Nat) (h:i<(bs l).size):(bs l)[i]=l[i]'(by rw [bs_size] at h;exact h):=by
 exact List.getElem_toArray _
def strSz:Value→Nat
 | .string F=>F.size
 | _=>0
theorem bs_ne {l:List UInt8} (h:l≠[]):(bs l).toList.isEmpty=false:=by
 rw [ByteArray.toList_eq,bs_toList]
 simpa using h
theorem bs_extract (l:List UInt8) (a b:Nat):(bs l).extract a b=bs ((l.take b).drop a):=by
 apply ba_ext
 rw [bs_toList]
 simp [bs,List.extract_eq_take_drop,List.drop_take]
theorem c_l01Text_pos (k:Nat) (w:World) (hk:k≤999999999999999999) (h0:0<k):Calls Tryz.prog 132 #[.int .i64 (k:Int)] w (RetV (.string (bs (posT k))) w):=by
 have cw:∀(q:Int) (m:Nat) (w:World),q=(m:Int)→m≤9223372036854775807→Calls Tryz.prog 151 #[.int .i64 q] w (RetV (.string (bs (wholeT m))) w):=fun q m w hq hm=>by
  subst hq
  exact c_l01Whole m w hm
 have hpne:=posT_ne h0
 have hlw:=wholeT_len (k:=k / 1000000) (by omega)
 by_cases hz:k%1000000=0
 ·have hp:posT k=wholeT (k / 1000000):=by unfold posT fracT;rw [if_pos hz,List.append_nil]
  rw [hp] at hpne ⊢
  have hzi:(k:Int)%1000000=0:=by omega
  have hem:=bs_ne hpne
  clear hp hpne
  go_enter Tryz.func132,Tryz.ntmps132
  go_wp2_with (go_at_call 151;refine (cw _ (k / 1000000) _ (by omega) (by omega)).mono ?_;rintro e w1 ⟨rfl,u⟩)
  go_ret
  exact ⟨rfl,u⟩
 ·have hr6:k%1000000<1000000:=by omega
  obtain ⟨r,hr⟩:∃r,r=k%1000000:=⟨_,rfl⟩
  rw [←hr] at hz hr6
  have hD:=decT_million hr6
  have hDl:(decT (1000000+r)).length=7:=by rw [hD];rfl
  have hwT:wholeT (1000000+r)=decT (1000000+r):=if_neg (by omega)
  obtain ⟨D,hDD⟩:∃D,D=(decT (1000000+r)).drop 1:=⟨_,rfl⟩
  have hD6:D.length=6:=by rw [hDD,List.length_drop,hDl]
  have hp:bs (posT k)=bs (wholeT (k / 1000000))++(⟨#[46]⟩++bs (D.take (zAt D))):=by
   unfold posT fracT
   rw [←hr,if_neg hz,←hDD,trimZ_take,bs_append]
   exact congrArg _ (bs_append [46] _)
  have hzp:0<zAt D:=by
   rcases Nat.eq_zero_or_pos (zAt D) with h | h
   ·have:=fracT_ne hr6 (by omega)
    rw [←hDD,trimZ_take,h] at this
    exact absurd rfl this
   ·exact h
  have hzl:=zAt_le D
  have hri:(k:Int)%1000000=(r:Int):=by omega
  have hext:(bs (wholeT (1000000+r))).extract 1 (bs (wholeT (1000000+r))).size=bs D:=by
   rw [bs_extract,bs_size,List.take_length,hwT,hDD]
  have hs7:(bs (wholeT (1000000+r))).size=7:=by rw [bs_size,hwT,hDl]
  rw [hs7] at hext
  have HP:=Hd hp
  have HS:=Hd (fun (i:Nat)=>@zAt_in D i)
  have HT:=Hd (zAt_stop hzp)
  clear hp hpne hwT hDD hDl hD hr
  go_enter Tryz.func132,Tryz.ntmps132
  go_wp2_with (first | (go_at_call 151;(with_reducible refine (cw _ (k / 1000000) _ (by omega) (by omega)).mono ?_);rintro e w1 ⟨rfl,u⟩) | (go_at_call 151;(with_reducible refine (cw _ (1000000+r) _ (by omega) (by omega)).mono ?_);rintro e w2 ⟨rfl,u2⟩))
  have uu:=u.trans u2
  clear u u2
  go_loop [5] (fun f=>∃(j:Nat) (F:ByteArray),f=.string F∧Hid (F=bs (D.take j))∧zAt D≤j∧j≤6) (fun f=>strSz f)
  case atStart=>exact ⟨6,bs D,rfl,by unfold Hid;rw [List.take_of_length_le (by omega)],by omega,by omega⟩
  case round =>
   obtain ⟨j,F,rfl,HF,hj1,hj2⟩:=hrel
   obtain ⟨i,rfl⟩:∃i,j=i+1:=⟨j-1,by omega⟩
   have hsz:F.size=i+1:=by rw [HF.out,bs_size,List.length_take];omega
   have hget:F[i]=D[i]:=by
    have:F[i]=(bs (D.take (i+1)))[i]'(by rw [←HF.out];omega):=by congr 1
    rw [this,bs_get,List.getElem_take]
   have hex:F.extract 0 i=bs (D.take i):=by rw [HF.out,bs_extract,List.drop_zero,List.take_take,Nat.min_eq_left (by omega)]
   by_cases hlt:zAt D≤i
   ·have h48:(F[i].toNat:Int)=48:=by rw [hget,HS.out i hlt (by omega)];rfl
    have HX:=Hd hex
    clear hget hex
    go_wp2
    go_round
    case rel=>exact ⟨i,_,rfl,HX,hlt,by omega⟩
    case measure =>
     show (F.extract 0 i).size<F.size
     rw [HX.out,bs_size,List.length_take]
     omega
   ·have hii:zAt D=i+1:=by omega
    have hne:F[i]≠48:=by
     rw [hget]
     have:=HT.out
     simp only [hii,Nat.add_sub_cancel] at this
     exact this
    have n48:=u8_nn 48 rfl hne
    have hsw:=bs_size (wholeT (k / 1000000))
    have h46:(ByteArray.mk #[46]).size=1:=rfl
    have hsa:(⟨#[46]⟩++F:ByteArray).size=1+(i+1):=by rw [ByteArray.size_append,hsz,h46]
    have hg1:¬9223372036854775807<(ByteArray.mk #[46]).size+F.size:=by omega
    have hg2:¬9223372036854775807<(bs (wholeT (k / 1000000))).size+(⟨#[46]⟩++F:ByteArray).size:=by omega
    have hpp:=HP.out
    rw [hii,←HF.out] at hpp
    have hem:(bs (wholeT (k / 1000000))++(⟨#[46]⟩++F)).toList.isEmpty=false:=by
     rw [←hpp]
     exact bs_ne (posT_ne h0)
    have HQ:=Hd hpp
    clear hpp hne hget hex hsa hsw h46
    go_wp2
    go_ret
    exact ⟨by rw [HQ.out];first | done | rfl,uu⟩
theorem c_l01Text (n:Int) (w:World) (hn:n.natAbs≤999999999999999999):Calls Tryz.prog 132 #[.int .i64 n] w (RetV (.string (numText n)) w):=by
 by_cases h0:n=0
 ·subst h0
  have cw:∀(q:Int) (w:World),q=0→Calls Tryz.prog 151 #[.int .i64 q] w (RetV (.string ⟨#[]⟩) w):=fun q w hq=>by
   subst hq
   exact c_l01Whole 0 w (by omega)
  go_enter Tryz.func132,Tryz.ntmps132
  go_wp2_with (go_at_call 151;refine (cw _ _ (by omega)).mono ?_;rintro e w1 ⟨rfl,u⟩)
  go_ret
  exact ⟨rfl,u⟩
 ·by_cases hp:0<n
  ·obtain ⟨k,rfl⟩:∃k:Nat,n=(k:Int):=⟨n.toNat,by omega⟩
   have e:numText (k:Int)=bs (posT k):=by
    unfold numText textL
    rw [if_neg (by omega),if_neg (by omega),Int.natAbs_natCast]
    rfl
   rw [e]
   exact c_l01Text_pos k w (by omega) (by omega)
  ·obtain ⟨k,rfl⟩:∃k:Nat,n=-(k:Int):=⟨n.natAbs,by omega⟩
   have hk:0<k:=by omega
   have hk2:k≤999999999999999999:=by omega
   have e:numText (-(k:Int))=⟨#[45]⟩++bs (posT k):=by
    unfold numText textL
    rw [if_neg (by omega),if_pos (by omega),Int.natAbs_neg,Int.natAbs_natCast]
    exact bs_append [45] _
   have cp:∀(q:Int) (w:World),q=(k:Int)→Calls Tryz.prog 132 #[.int .i64 q] w (RetV (.string (bs (posT k))) w):=fun q w hq=>by
    subst hq
    exact c_l01Text_pos k w hk2 hk
   have hl:=posT_len (k:=k) hk2
   have hs:=bs_size (posT k)
   have h45:(ByteArray.mk #[45]).size=1:=rfl
   have hg:¬9223372036854775807<(ByteArray.mk #[45]).size+(bs (posT k)).size:=by omega
   have hlt:-(k:Int)<0:=by omega
   have E:=Hd e
   clear e hs h45 hl
   go_enter Tryz.func132,Tryz.ntmps132
   go_wp2_with (go_at_call 132;refine (cp _ _ (by first | omega | simp)).mono ?_;rintro e w1 ⟨rfl,u⟩)
   go_ret
   exact ⟨by rw [E.out];first | done | rfl,u⟩
theorem str_ne_nil {s:ByteArray} (h:1≤s.size):s.toList.isEmpty=false:=by
 have:s.toList≠[]:=fun e=>by
  have:s.data.toList=[]:=by rw [←ByteArray.toList_eq];exact e
  have h2:s.data.toList.length=s.size:=Array.length_toList
  rw [this] at h2
  simp at h2
  omega
 simpa using this
theorem c_l01Canon (s:ByteArray) (w:World) (hs:s.size≤maxLen):Calls Tryz.prog 152 #[.string s] w (RetV (.bool (canon s)) w):=by
 have hm:=hs
 unfold maxLen at hm
 by_cases h1:1≤s.size
 ·by_cases h2:s.size≤21
  ·have hne:=str_ne_nil h1
   have hna:=numOf_abs s
   have hbe:=str_beq (numText (numOf s)) s
   have hcc:decide (numText (numOf s)=s)=canon s:=rfl
   rw [hcc] at hbe
   have HB:=Hd hbe
   clear hbe hcc
   go_enter Tryz.func152,Tryz.ntmps152
   go_wp2_with (first | (go_at_call 153;refine (c_l01Of _ _ hs).mono ?_;rintro e w1 ⟨rfl,rfl⟩) | (go_at_call 132;refine (c_l01Text _ _ hna).mono ?_;rintro e w1 ⟨rfl,u⟩))
   go_ret
   exact ⟨by rw [←HB.out];first | done | rfl,u⟩
  ·have hne:=str_ne_nil h1
   have hc:canon s=false:=by
    cases h:canon s
    ·rfl
    ·have:=canon_size h;omega
   have HB:=Hd hc
   clear hc
   go_enter Tryz.func152,Tryz.ntmps152
   go_wp2_with fail
   go_ret
   exact ⟨by rw [HB.out];first | done | rfl,Up.refl w⟩
 ·have hc:canon s=false:=by
   cases h:canon s
   ·rfl
   ·have:=canon_size h;omega
  have h0:s.toList=[]:=by
   rw [ByteArray.toList_eq]
   exact List.eq_nil_of_length_eq_zero (by rw [slen];omega)
  have HB:=Hd hc
  clear hc
  go_enter Tryz.func152,Tryz.ntmps152
  go_wp2_with fail
  go_ret
  exact ⟨by rw [HB.out];first | done | rfl,Up.refl w⟩
theorem retB {a b:Bool} {w w':World} (h:Hid (b=a)) (u:Up w w'):RetV (.bool a) w (.returned (.bool b)) w':=⟨by rw [h.out],u⟩
theorem u8_nB {c d:UInt8} (z:Int) (hz:z=(d.toNat:Int)) (h:c≠d):((c.toNat:Int) != z)=true:=by
 rw [bne_iff_ne,hz]
 exact u8_ne h
theorem c_l02Letter (c:UInt8) (w:World):Calls Tryz.prog 154 #[.int .u8 (c.toNat:Int)] w fun e w'=>e=.returned (.bool (isLetter c))∧w=w':=by
 unfold isLetter
 by_cases h1:97≤c.toNat
 ·by_cases h2:c.toNat≤122
  ·have h1':(97:Int)≤(c.toNat:Int):=by omega
   have h2':(c.toNat:Int)≤122:=by omega
   go_enter Tryz.func154,Tryz.ntmps154
   go_wp2
   go_ret
   exact ⟨by simp [h1,h2],rfl⟩
  ·have h1':(97:Int)≤(c.toNat:Int):=by omega
   have h2':¬(c.toNat:Int)≤122:=by omega
   have h3:¬(c.toNat:Int)≤90:=by omega
   have h3':¬c.toNat≤90:=by omega
   go_enter Tryz.func154,Tryz.ntmps154
   go_wp2
   go_ret
   exact ⟨by simp [h1,h2,h3'],rfl⟩
 ·have h1':¬(97:Int)≤(c.toNat:Int):=by omega
  by_cases h3:65≤c.toNat
  ·by_cases h4:c.toNat≤90
   ·have h3':(65:Int)≤(c.toNat:Int):=by omega
    have h4':(c.toNat:Int)≤90:=by omega
    go_enter Tryz.func154,Tryz.ntmps154
    go_wp2
    go_ret
    exact ⟨by simp [h1,h3,h4],rfl⟩
   ·have h3':(65:Int)≤(c.toNat:Int):=by omega
    have h4':¬(c.toNat:Int)≤90:=by omega
    go_enter Tryz.func154,Tryz.ntmps154
    go_wp2
    go_ret
    exact ⟨by simp [h1,h3,h4],rfl⟩
  ·have h3':¬(65:Int)≤(c.toNat:Int):=by omega
   go_enter Tryz.func154,Tryz.ntmps154
   go_wp2
   go_ret
   exact ⟨by simp [h1,h3],rfl⟩
theorem c_letterAt (c:UInt8) (z:Int) (w:World) (hz:z=(c.toNat:Int)):Calls Tryz.prog 154 #[.int .u8 z] w fun e w'=>e=.returned (.bool (isLetter c))∧w=w':=by
 subst hz
 exact c_l02Letter c w
theorem c_l02Sub (s:ByteArray) (w:World):Calls Tryz.prog 133 #[.string s] w fun e w'=>e=.returned (.bool (subB s))∧w=w':=by
 unfold subB
 by_cases h1:1≤s.size
 ·go_enter Tryz.func133,Tryz.ntmps133
  go_wp2
  go_ret
  exact ⟨by simp [h1];omega,rfl⟩
 ·go_enter Tryz.func133,Tryz.ntmps133
  go_wp2
  go_ret
  exact ⟨by simp [h1],rfl⟩
theorem c_l02Name (s:ByteArray) (w:World) (hs:s.size≤maxLen):Calls Tryz.prog 135 #[.string s] w (RetV (.bool (nameB s)) w):=by
 unfold maxLen at hs
 by_cases h1:1≤s.size
 ·by_cases h2:s.size≤8
  ·have h1':(0:Int)<s.size:=by omega
   by_cases hf:chOk 0 s[0]=true
   ·have hcase:(isLetter s[0]=true)∨(isLetter s[0]=false∧(s[0].toNat:Int)=37∧((s[0].toNat:Int) != 37)=false):=by
     cases hL:isLetter s[0]
     ·refine .inr ⟨rfl,?_⟩
      have h37:s[0]=37:=by simpa [chOk,hL] using hf
      rw [h37];decide
     ·exact .inl rfl
    have HF:=Hd hf
    clear hf
    rcases hcase with hL | ⟨hL,h37,b37⟩
    all_goals
     go_enter Tryz.func135,Tryz.ntmps135
     go_wp2_with (go_at_call 154;refine (c_letterAt s[0] _ _ (by omega)).mono ?_;rintro e w1 ⟨rfl,rfl⟩;rw [hL])
     go_loop [3] (fun i=>∃k:Nat,1≤k∧k≤s.size∧i=.int .i64 k∧Hid (∀i (h:i<s.size),i<k→chOk i s[i]=true)) (fun i=>s.size-(intOf i).toNat)
     case atStart=>exact ⟨1,by omega,by omega,rfl,fun i h hi=>by obtain rfl:i=0:=(by omega);exact HF.out⟩
     case round =>
      obtain ⟨k,hk1,hk,rfl,HA⟩:=hrel
      by_cases hlt:k<s.size
      ·cases hk2:chOk k s[k]
       ·have hk3:isLetter s[k]=false∧isDig s[k]=false:=by
         have hk0:k≠0:=by omega
         simpa [chOk,hk0] using hk2
        obtain ⟨hk4,hk5⟩:=hk3
        have H:=Hd (nameB_f (s:=s) fun h=>by have:=h.2.2 k hlt;rw [hk2] at this;cases this)
        clear hL hk2
        go_wp2_with (first | (go_at_call 154;refine (c_l02Letter _ _).mono ?_;rintro e w1 ⟨rfl,rfl⟩;rw [hk4]) | (go_at_call 155;refine (c_l01Digit _ _).mono ?_;rintro e w1 ⟨rfl,rfl⟩;rw [hk5]))
        go_ret
        exact retB (Hd H.out.symm) (Up.refl _)
       ·have HN:Hid (∀i (h:i<s.size),i<k+1→chOk i s[i]=true):=fun i h hi=>by
         by_cases e:i=k
         ·subst e;exact hk2
         ·exact HA.out i h (by omega)
        have hk3:isLetter s[k]=true∨(isLetter s[k]=false∧isDig s[k]=true):=by
         have hk0:k≠0:=by omega
         cases hq:isLetter s[k]
         ·exact .inr ⟨rfl,by simpa [chOk,hk0,hq] using hk2⟩
         ·exact .inl rfl
        clear hL hk2
        rcases hk3 with hk4 | ⟨hk4,hk5⟩
        all_goals
         go_wp2_with (first | (go_at_call 154;refine (c_l02Letter _ _).mono ?_;rintro e w1 ⟨rfl,rfl⟩;rw [hk4]) | (go_at_call 155;refine (c_l01Digit _ _).mono ?_;rintro e w1 ⟨rfl,rfl⟩;rw [hk5]))
         go_round
         case rel=>exact ⟨k+1,by omega,by omega,by go_num,HN⟩
         case measure=>simp [intOf];omega
      ·have H:=Hd (nameB_t (s:=s) ⟨h1,h2,fun i h=>HA.out i h (by omega)⟩)
       go_wp2
       go_ret
       exact retB (Hd H.out.symm) (Up.refl _)
   ·have hcase:isLetter s[0]=false∧s[0]≠37:=by
     cases hL:isLetter s[0]
     ·refine ⟨rfl,fun h37=>hf ?_⟩
      simp [chOk,hL,h37]
     ·exact absurd (by simp [chOk,hL]) hf
    obtain ⟨hL,h37⟩:=hcase
    have n37:=u8_nB 37 rfl h37
    have H:=Hd (nameB_f (s:=s) fun h=>hf (h.2.2 0 h1))
    clear hf h37
    go_enter Tryz.func135,Tryz.ntmps135
    go_wp2_with (go_at_call 154;refine (c_l02Letter _ _).mono ?_;rintro e w1 ⟨rfl,rfl⟩;rw [hL])
    go_ret
    exact retB (Hd H.out.symm) (Up.refl _)
  ·have H:=Hd (nameB_f (s:=s) fun h=>by have:=h.2.1;omega)
   go_enter Tryz.func135,Tryz.ntmps135
   go_wp2
   go_ret
   exact retB (Hd H.out.symm) (Up.refl w)
 ·have H:=Hd (nameB_f (s:=s) fun h=>by have:=h.1;omega)
  go_enter Tryz.func135,Tryz.ntmps135
  go_wp2
  go_ret
  exact retB (Hd H.out.symm) (Up.refl w)
theorem c_l02Subs (xs:List ByteArray) (A:Option Addr) (c:Nat) (w:World) (h:SRW shS w A c xs) :
 Calls Tryz.prog 95 #[.slice A xs.length c] w (RetV (.bool (subsB xs)) w):=by
 have hlen:=h.len_le
 by_cases h4:xs.length≤4
 ·go_enter Tryz.func95,Tryz.ntmps95
  go_wp2_with fail
  go_loopw [3] (fun i wr=>∃k:Nat,k≤xs.length∧i=.int .i64 k∧Hid (∀i (h:i<xs.length),i<k→subB xs[i]=true)∧Up w wr) (fun i _=>xs.length-(intOf i).toNat)
  case atStart=>exact ⟨0,Nat.zero_le _,rfl,fun i h hi=>absurd hi (by omega),Up.refl _⟩
  case round =>
   obtain ⟨j,hj,rfl,HA,hu⟩:=hrel
   by_cases hlt:j<xs.length
   ·obtain ⟨g,off,rfl,_,_,hc,hb1⟩:=(h.up good_S hu).at_S hlt
    cases hs:subB xs[j]
    ·have HE:=Hd (subsB_f (l:=xs) fun hh=>by have:=hh.2 j hlt;rw [hs] at this;cases this)
     go_wp2_with (go_at_call 133;refine (c_l02Sub _ _).mono ?_;rintro e w1 ⟨rfl,rfl⟩;rw [hs])
     go_ret
     exact retB (Hd HE.out.symm) hu
    ·have HN:Hid (∀i (h:i<xs.length),i<j+1→subB xs[i]=true):=fun i h hi=>by
      by_cases e:i=j
      ·subst e;exact hs
      ·exact HA.out i h (by omega)
     go_wp2_with (go_at_call 133;refine (c_l02Sub _ _).mono ?_;rintro e w1 ⟨rfl,rfl⟩;rw [hs])
     go_roundw
     case rel=>exact ⟨j+1,by omega,by go_num,HN,hu⟩
     case measure=>simp [intOf];omega
   ·have HE:=Hd (subsB_t (l:=xs) ⟨h4,fun i h=>HA.out i h (by omega)⟩)
    go_wp2_with fail
    go_ret
    exact retB (Hd HE.out.symm) hu
 ·have HE:=Hd (subsB_f (l:=xs) fun hh=>h4 hh.1)
  go_enter Tryz.func95,Tryz.ntmps95
  go_wp2_with fail
  go_ret
  exact retB (Hd HE.out.symm) (Up.refl _)
theorem c_specNameOk (s:ByteArray) (w:World) (hs:s.size≤maxLen):Calls Tryz.prog 97 #[.string s] w (RetV (.bool (nameB s)) w):=by
 go_enter Tryz.func97,Tryz.ntmps97
 go_wp2_with fail
 refine (c_l02Name s _ hs).mono ?_
 rintro e w1 ⟨rfl,u1⟩
 go_wp2_with fail
 go_ret
 exact ⟨rfl,u1⟩
theorem c_specSubsOk (xs:List ByteArray) (A:Option Addr) (c:Nat) (w:World) (h:SRW shS w A c xs) :
 Calls Tryz.prog 98 #[.slice A xs.length c] w (RetV (.bool (subsB xs)) w):=by
 go_enter Tryz.func98,Tryz.ntmps98
 go_wp2_with fail
 refine (c_l02Subs xs A c _ h).mono ?_
 rintro e w1 ⟨rfl,u1⟩
 go_wp2_with fail
 go_ret
 exact ⟨rfl,u1⟩
theorem c_l03Place (s:ByteArray) (xs:List ByteArray) (A:Option Addr) (c:Nat) (w:World) (hs:s.size≤maxLen) (h:SRW shS w A c xs) :
 Calls Tryz.prog 62 #[.string s,.slice A xs.length c] w (RetV (.bool (placeB s xs)) w):=by
 unfold placeB
 cases hn:nameB s
 ·go_enter Tryz.func62,Tryz.ntmps62
  go_wp2_with fail
  refine (c_specNameOk s _ hs).mono ?_
  rintro e w1 ⟨rfl,u1⟩
  rw [hn]
  go_wp2_with fail
  go_ret
  exact ⟨rfl,u1⟩
 ·go_enter Tryz.func62,Tryz.ntmps62
  go_wp2_with fail
  refine (c_specNameOk s _ hs).mono ?_
  rintro e w1 ⟨rfl,u1⟩
  rw [hn]
  go_wp2_with fail
  refine (c_specSubsOk xs A c _ (h.up good_S u1)).mono ?_
  rintro e w2 ⟨rfl,u2⟩
  go_wp2_with fail
  go_ret
  exact ⟨by simp,u1.trans u2⟩
end Go.Proofs.YtojmcmghmnfjeaaGreatDoor
