/-
 Parts of the proof.
-/
import Derived.Shelf.Strings.BuilderK
import Derived.Test.YtojmcmghmnfjeaaGreatDoorM1C
import Derived.Lib.ReplaceLaws
import Derived.Shelf.Strings.SlTrimAscii
import Derived.HandedShaped
import Derived.Shelf.Vars
set_option maxHeartbeats 8000000
set_option maxRecDepth 100000
namespace Go.Proofs.YtojmcmghmnfjeaaGreatDoor
open Go.RowKit
set_option linter.unusedVariables false
def brn:Go.Shelf.Ren:={ Go.Proofs.Tryz.lays155_ren with f:=fun n=>if n=167 then 138 else Go.Proofs.Tryz.lays155_ren.f n }
theorem bl167:Go.Proofs.Lays.n167 Tryz.prog brn:={
 mixed:=Go.Proofs.Tryz.lays155.mixed
 f167:=Tryz.func138.trans (congrArg some (by kernel_rfl))
 f240:=Tryz.func163.trans (congrArg some (by kernel_rfl))
 f276:=Tryz.func181.trans (congrArg some (by kernel_rfl))
 t0:=Go.Proofs.Tryz.lays155.t0
 a0:=Go.Proofs.Tryz.lays155.a0
 z0:=Go.Proofs.Tryz.lays155.z0
 v0:=Go.Proofs.Tryz.lays155.v0
 t4:=Go.Proofs.Tryz.lays155.t4
 a4:=Go.Proofs.Tryz.lays155.a4
 z4:=Go.Proofs.Tryz.lays155.z4
 v4:=Go.Proofs.Tryz.lays155.v4
 t5:=Go.Proofs.Tryz.lays155.t5
 a5:=Go.Proofs.Tryz.lays155.a5
 z5:=Go.Proofs.Tryz.lays155.z5
 v5:=Go.Proofs.Tryz.lays155.v5
 t9:=Go.Proofs.Tryz.lays155.t9
 a9:=Go.Proofs.Tryz.lays155.a9
 z9:=Go.Proofs.Tryz.lays155.z9
 v9:=Go.Proofs.Tryz.lays155.v9
 t20:=Go.Proofs.Tryz.lays155.t20
 a20:=Go.Proofs.Tryz.lays155.a20
 z20:=Go.Proofs.Tryz.lays155.z20
 v20:=Go.Proofs.Tryz.lays155.v20
 t37:=Go.Proofs.Tryz.lays155.t37
 a37:=Go.Proofs.Tryz.lays155.a37
 z37:=Go.Proofs.Tryz.lays155.z37
 v37:=Go.Proofs.Tryz.lays155.v37
 t70:=Go.Proofs.Tryz.lays155.t70
 a70:=Go.Proofs.Tryz.lays155.a70
 z70:=Go.Proofs.Tryz.lays155.z70
 v70:=Go.Proofs.Tryz.lays155.v70
 t72:=Go.Proofs.Tryz.lays155.t72
 a72:=Go.Proofs.Tryz.lays155.a72
 z72:=Go.Proofs.Tryz.lays155.z72
 v72:=Go.Proofs.Tryz.lays155.v72
 t75:=Go.Proofs.Tryz.lays155.t75
 a75:=Go.Proofs.Tryz.lays155.a75
 z75:=Go.Proofs.Tryz.lays155.z75
 v75:=Go.Proofs.Tryz.lays155.v75
 t164:=Go.Proofs.Tryz.lays155.t164
 a164:=Go.Proofs.Tryz.lays155.a164
 z164:=Go.Proofs.Tryz.lays155.z164
 v164:=Go.Proofs.Tryz.lays155.v164 }
theorem bl166:Go.Proofs.Lays.n166 Tryz.prog brn:={
 mixed:=Go.Proofs.Tryz.lays155.mixed
 f166:=Tryz.func166.trans (congrArg some (by kernel_rfl))
 f240:=Tryz.func163.trans (congrArg some (by kernel_rfl))
 f276:=Tryz.func181.trans (congrArg some (by kernel_rfl))
 t0:=Go.Proofs.Tryz.lays155.t0
 a0:=Go.Proofs.Tryz.lays155.a0
 z0:=Go.Proofs.Tryz.lays155.z0
 v0:=Go.Proofs.Tryz.lays155.v0
 t3:=Go.Proofs.Tryz.lays155.t3
 a3:=Go.Proofs.Tryz.lays155.a3
 z3:=Go.Proofs.Tryz.lays155.z3
 v3:=Go.Proofs.Tryz.lays155.v3
 t4:=Go.Proofs.Tryz.lays155.t4
 a4:=Go.Proofs.Tryz.lays155.a4
 z4:=Go.Proofs.Tryz.lays155.z4
 v4:=Go.Proofs.Tryz.lays155.v4
 t9:=Go.Proofs.Tryz.lays155.t9
 a9:=Go.Proofs.Tryz.lays155.a9
 z9:=Go.Proofs.Tryz.lays155.z9
 v9:=Go.Proofs.Tryz.lays155.v9
 t20:=Go.Proofs.Tryz.lays155.t20
 a20:=Go.Proofs.Tryz.lays155.a20
 z20:=Go.Proofs.Tryz.lays155.z20
 v20:=Go.Proofs.Tryz.lays155.v20
 t37:=Go.Proofs.Tryz.lays155.t37
 a37:=Go.Proofs.Tryz.lays155.a37
 z37:=Go.Proofs.Tryz.lays155.z37
 v37:=Go.Proofs.Tryz.lays155.v37
 t70:=Go.Proofs.Tryz.lays155.t70
 a70:=Go.Proofs.Tryz.lays155.a70
 z70:=Go.Proofs.Tryz.lays155.z70
 v70:=Go.Proofs.Tryz.lays155.v70
 t72:=Go.Proofs.Tryz.lays155.t72
 a72:=Go.Proofs.Tryz.lays155.a72
 z72:=Go.Proofs.Tryz.lays155.z72
 v72:=Go.Proofs.Tryz.lays155.v72
 t75:=Go.Proofs.Tryz.lays155.t75
 a75:=Go.Proofs.Tryz.lays155.a75
 z75:=Go.Proofs.Tryz.lays155.z75
 v75:=Go.Proofs.Tryz.lays155.v75
 t164:=Go.Proofs.Tryz.lays155.t164
 a164:=Go.Proofs.Tryz.lays155.a164
 z164:=Go.Proofs.Tryz.lays155.z164
 v164:=Go.Proofs.Tryz.lays155.v164 }
theorem bl169:Go.Proofs.Lays.n169 Tryz.prog brn:={
 mixed:=Go.Proofs.Tryz.lays155.mixed
 f169:=Tryz.func139.trans (congrArg some (by kernel_rfl))
 t0:=Go.Proofs.Tryz.lays155.t0
 a0:=Go.Proofs.Tryz.lays155.a0
 z0:=Go.Proofs.Tryz.lays155.z0
 v0:=Go.Proofs.Tryz.lays155.v0
 t3:=Go.Proofs.Tryz.lays155.t3
 a3:=Go.Proofs.Tryz.lays155.a3
 z3:=Go.Proofs.Tryz.lays155.z3
 v3:=Go.Proofs.Tryz.lays155.v3
 t9:=Go.Proofs.Tryz.lays155.t9
 a9:=Go.Proofs.Tryz.lays155.a9
 z9:=Go.Proofs.Tryz.lays155.z9
 v9:=Go.Proofs.Tryz.lays155.v9
 t37:=Go.Proofs.Tryz.lays155.t37
 a37:=Go.Proofs.Tryz.lays155.a37
 z37:=Go.Proofs.Tryz.lays155.z37
 v37:=Go.Proofs.Tryz.lays155.v37
 t70:=Go.Proofs.Tryz.lays155.t70
 a70:=Go.Proofs.Tryz.lays155.a70
 z70:=Go.Proofs.Tryz.lays155.z70
 v70:=Go.Proofs.Tryz.lays155.v70
 t72:=Go.Proofs.Tryz.lays155.t72
 a72:=Go.Proofs.Tryz.lays155.a72
 z72:=Go.Proofs.Tryz.lays155.z72
 v72:=Go.Proofs.Tryz.lays155.v72
 t127:=Go.Proofs.Tryz.lays155.t127
 a127:=Go.Proofs.Tryz.lays155.a127
 z127:=Go.Proofs.Tryz.lays155.z127
 v127:=Go.Proofs.Tryz.lays155.v127 }
abbrev Bld8 (B b:Nat) (l:List UInt8) (w:World):Prop:=Lib.IsBuilderF 162 5 B b (Lib.byteCells l) w
theorem Up.grown {w w':World} (u:Up w w'):w.grownBy w' none:=⟨u.os,u.tape,u.output,u.size,fun k hk _=>u.block k hk⟩
theorem heap_lt {w:World} {b:Nat} {o:Obj} (h:w.heap[b]?=some o):b<w.heap.size:=(Array.getElem?_eq_some_iff.1 h).1
theorem at_up {T e:TypeId} {B b:Nat} {p:Value} {bs:List Value} {w w':World} (h:Lib.BuilderAtF T e B b p bs w) (u:Up w w'):Lib.BuilderAtF T e B b p bs w':=by
 obtain ⟨hB,v,hb,hown,hne⟩:=h
 exact ⟨hB,v,(u.block b (heap_lt hb)).trans hb,hown.kept u.grown (by cases hv:v.ownBlock <;> simp),hne⟩
theorem bld_up {B b:Nat} {l:List UInt8} {w w':World} (h:Bld8 B b l w) (u:Up w w'):Bld8 B b l w':=h.imp (fun h=>at_up h u) (fun h=>at_up h u)
theorem bld_new (w:World) (b:Nat) (h:w.heap[b]?=some (.cells #[.pointer none,.slice none 0 0] 162 (0,0))):Bld8 b b [] w :=
 .inl ⟨Nat.le_refl _,.slice none 0 0,h,World.ownsRowF_nil _ _ _ _,by simp [Value.ownBlock]⟩
theorem Up.below {a b c:World} {B:Nat} (h:Up a b) (k:Below B b c) (hB:a.heap.size≤B):Up a c:=Below.trans h (Below.mono k hB)
theorem strCells_eq (s:ByteArray):Lib.strCells s=Lib.byteCells s.data.toList:=rfl
theorem byteCells_app (a b:List UInt8):Lib.byteCells a++Lib.byteCells b=Lib.byteCells (a++b):=by simp [Lib.byteCells]
theorem bex:Builder.Extra Tryz.prog brn:={ Go.Proofs.Tryz.Builder_Extra_155 with }
theorem c_WriteByte (B b:Nat) (l:List UInt8) (c:UInt8) (w:World) (h:Bld8 B b l w) (hlen:l.length+1≤140737488355328) (hBw:B≤w.heap.size) :
 Calls Tryz.prog 138 #[.pointer (some ⟨b,0,none⟩),.int .u8 (c.toNat:Int)] w fun e w'=>e=.returned .nilIface∧Bld8 B b (l++[c]) w'∧Below B w w'∧Lib.OthersKept 5 (some b) w w' :=
 (Go.Proofs.Any.Builder_WriteByte_k bl167 bex B b (Lib.byteCells l) (c.toNat:Int) w h (by rw [Lib.byteCells_length];exact hlen) hBw).mono fun e w' ⟨he,hb,hk,ho⟩=>⟨he,.inr (by
  have e1:Lib.byteCells l++[Value.int .u8 (c.toNat:Int)]=Lib.byteCells (l++[c]):=by simp [Lib.byteCells]
  rw [e1] at hb;exact hb),hk,ho⟩
theorem c_WriteString (B b:Nat) (l:List UInt8) (s:ByteArray) (w:World) (h:Bld8 B b l w) (hlen:l.length+s.size≤140737488355328) (hBw:B≤w.heap.size) :
 Calls Tryz.prog 166 #[.pointer (some ⟨b,0,none⟩),.string s] w fun e w'=>e=.returned (.tuple #[.int .i64 s.size,.nilIface])∧Bld8 B b (l++s.data.toList) w'∧Below B w w'∧Lib.OthersKept 5 (some b) w w' :=
 (Go.Proofs.Any.Builder_WriteString_k bl166 bex B b (Lib.byteCells l) s w h (by rw [Lib.byteCells_length];exact hlen) hBw).mono fun e w' ⟨he,hb,hk,ho⟩=>⟨he,.inr (by rw [strCells_eq,byteCells_app] at hb;exact hb),hk,ho⟩
theorem c_BString (B b:Nat) (l:List UInt8) (w:World) (h:Bld8 B b l w) (hBw:B≤w.heap.size) :
 Calls Tryz.prog 139 #[.pointer (some ⟨b,0,none⟩)] w fun e w'=>e=.returned (.string ⟨l.toArray⟩)∧Below B w w' :=
 (Go.Proofs.Any.Builder_String_any_k bl169 bex B b l w h hBw).mono fun e w' ⟨he,_,hk,_⟩=>⟨he,hk⟩
end Go.Proofs.YtojmcmghmnfjeaaGreatDoor
namespace Go.Proofs.YtojmcmghmnfjeaaGreatDoor
open Go.RowKit
set_option linter.unusedVariables false
set_option linter.unusedSimpArgs false
theorem index_zero (l:List UInt8):Lib.index (0::l) [0]=(0:Nat):=by simp [Lib.index]
theorem index_cons_ne {b:UInt8} {l:List UInt8} {i:Nat} (hb:b≠0) (h:Lib.index l [0]=i):Lib.index (b::l) [0]=((i+1:Nat):Int):=by
 have h1:((0:UInt8)==b)=false:=by simpa using fun e=>hb e.symm
 have h2:((i:Int)==-1)=false:=by simp
 simp only [Lib.index,List.isPrefixOf,h1,Bool.false_and,h,h2]
 simp
theorem replK_esc:∀l:List UInt8,Lib.replaceK [0] [0,255] (Lib.count l [0]) l=escL l
 | []=>by
  have:Lib.count [] [0]=0:=by decide
  rw [this];rfl
 | b::l=>by
  by_cases hb:b=0
  ·subst hb
   rw [Lib.count_cons_eq,Nat.add_comm,Lib.replaceK_hit _ _ _ _ 0 (index_zero l)]
   have:=replK_esc l
   simpa [escL,escB] using this
  ·rw [Lib.count_cons_ne _ _ _ hb]
   have ih:=replK_esc l
   have e:escL (b::l)=b::escL l:=by simp [escL,escB,hb]
   rw [e,←ih]
   by_cases h0:Lib.count l [0]=0
   ·rw [h0];rfl
   ·obtain ⟨k,hk⟩:∃k,Lib.count l [0]=k+1:=⟨Lib.count l [0]-1,by omega⟩
    obtain ⟨i,hi⟩:=Lib.index_of_count (s:=l) (old:=[0]) (by omega)
    rw [hk,Lib.replaceK_hit _ _ _ _ _ (index_cons_ne hb hi),Lib.replaceK_hit _ _ _ _ _ hi]
    simp
theorem replaceAll_esc (l:List UInt8):Lib.replaceAll l [0] [0,255]=escL l:=by
 have h:(([0]:List UInt8)==[0,255])=false:=by decide
 have h2:Lib.replaceNum l [0] (-1)=Lib.count l [0]:=by simp [Lib.replaceNum]
 unfold Lib.replaceAll Lib.replace
 rw [h,h2,if_neg (by decide)]
 exact replK_esc l
theorem tab_up {w w':World} {name:String} {k:IntKind} {zs:List Int} (h:Lib.TabIs Tryz.prog w name k zs) (u:Up w w'):Lib.TabIs Tryz.prog w' name k zs:=by
 unfold Lib.TabIs World.var? at h ⊢
 cases hg:Tryz.prog.globalNamed name with
 | none=>simp [hg] at h
 | some g =>
  simp only [hg,Option.bind_some] at h ⊢
  have hlt:g<w.heap.size:=by
   rcases Nat.lt_or_ge g w.heap.size with h1 | h1
   ·exact h1
   ·rw [Array.getElem?_eq_none h1] at h;simp at h
  rw [u.block g hlt]
  exact h
abbrev Tab (w : World) : Prop := Lib.TabIs Tryz.prog w "internal/strconv.uint64pow10" .u64 Lib.pow10Tab
theorem up_grow (w:World) (q:Nat) (os:Array Obj):Up w (Sort.grow (w.drewN q) os):=by
 refine ⟨rfl,rfl,rfl,by simp [Sort.grow,World.drewN],fun b hb=>?_⟩
 show (w.heap++os)[b]?=w.heap[b]?
 exact Array.getElem?_append_left hb
theorem conv_sb (s:ByteArray) (w:World):∃(cap:Nat) (W:World),(convert 9 155 (.string s)).run Tryz.prog w=.ok (.slice (some ⟨w.heap.size,0,none⟩) s.size cap) W∧Up w W∧W.heap.size=w.heap.size+1∧∀j (h:j<s.size),W.cell? ⟨w.heap.size,j,none⟩=some (.int .u8 (s[j].toNat:Int)):=by
 refine ⟨_,_,Lib.run_convert_string_bytes (P:=Tryz.prog) w 9 155 5 s Tryz.underlying9 Tryz.underlying155 Tryz.underlying5,?_,Lib.bytesWorld_size _ _ _,fun j h=>?_⟩
 ·refine ⟨rfl,rfl,rfl,by rw [Lib.bytesWorld_size];omega,fun b hb=>Lib.bytesWorld_at_old _ _ _ _ hb⟩
 ·rw [Lib.bytesWorld_cell _ _ _ _ h]
  have:s.data.toList.getD j 0=s[j]:=by
   rw [List.getD_eq_getElem?_getD,List.getElem?_eq_getElem (by rw [slen];exact h)]
   rfl
  rw [this]
theorem c_trimSign (s:ByteArray) (w:World):Calls Tryz.prog 182 #[.string s,.string ⟨#[43,45]⟩] w (RetV (.string (bs (restL s.data.toList))) w) :=
 (Any.strings_TrimLeft_laid Tryz.lays161 (by kernel_rfl) s ⟨#[43,45]⟩ w (by decide) (ascii_of_all (by decide))).mono fun e w' ⟨he,hb⟩=>⟨by
  rw [he]
  have:Lib.trimLeftS s.data.toList [43,45]=restL s.data.toList:=by
   unfold Lib.trimLeftS restL
   congr 1
   funext b
   simp [isSign,List.contains,List.elem]
   cases h1:(b==43) <;> cases h2:(b==45) <;> simp_all
  show Ending.returned (.string ⟨(Lib.trimLeftS s.data.toList [43,45]).toArray⟩)=_
  rw [this];rfl,hb⟩
theorem dig_mem (b:UInt8):([48,49,50,51,52,53,54,55,56,57]:List UInt8).contains b=isDig b:=by
 have:∀n:Fin 256,([48,49,50,51,52,53,54,55,56,57]:List UInt8).contains (UInt8.ofNat n.val)=isDig (UInt8.ofNat n.val):=by decide +kernel
 have h:=this ⟨b.toNat,b.toNat_lt⟩
 simpa using h
theorem c_trimDig (s:ByteArray) (w:World):Calls Tryz.prog 182 #[.string s,.string ⟨#[48,49,50,51,52,53,54,55,56,57]⟩] w (RetV (.string (bs (s.data.toList.dropWhile isDig))) w) :=
 (Any.strings_TrimLeft_laid Tryz.lays161 (by kernel_rfl) s ⟨#[48,49,50,51,52,53,54,55,56,57]⟩ w (by decide) (ascii_of_all (by decide))).mono fun e w' ⟨he,hb⟩=>⟨by
  rw [he]
  have:Lib.trimLeftS s.data.toList [48,49,50,51,52,53,54,55,56,57]=s.data.toList.dropWhile isDig:=by
   unfold Lib.trimLeftS
   congr 1
   funext b
   exact dig_mem b
  show Ending.returned (.string ⟨(Lib.trimLeftS s.data.toList [48,49,50,51,52,53,54,55,56,57]).toArray⟩)=_
  rw [this];rfl,hb⟩
def digN (s:ByteArray):Nat:=(s.data.toList.takeWhile isDig).length
theorem digN_le (s:ByteArray):digN s≤s.size:=by have:=tw_le isDig s.data.toList;rw [slen] at this;exact this
theorem c_digitsOf (s:ByteArray) (w:World) (hs:s.size≤maxLen):Calls Tryz.prog 184 #[.string s] w (RetV (.int .i64 (digN s)) w):=by
 unfold maxLen at hs
 have h1:(bs (s.data.toList.dropWhile isDig)).size+digN s=s.size:=by
  rw [bs_size,←slen]
  have:=congrArg List.length (List.takeWhile_append_dropWhile (p:=isDig) (l:=s.data.toList))
  rw [List.length_append] at this
  unfold digN
  omega
 go_enter Tryz.func184,Tryz.ntmps184
 go_wp2_with fail
 refine (c_trimDig s _).mono ?_
 rintro e w1 ⟨rfl,u1⟩
 go_wp2_with fail
 go_ret
 exact ⟨ret_int (by omega),u1⟩
theorem c_scaled (d:ByteArray) (w:World) (hd:∀i (h:i<d.size),isDig d[i]=true) (hs:d.size≤maxLen):Calls Tryz.prog 186 #[.int .i64 0,.string d] w (RetV (.int .i64 (min (valD d.data.toList) maxNum:Nat)) w):=by
 unfold maxLen at hs
 obtain ⟨cap,W,hrun,uW,hsz,hcell⟩:=conv_sb d w
 have HD:=Hd hd
 have HC:=Hd hcell
 have HU:=Hd uW
 have hl:=slen d
 clear hd hcell
 go_enter Tryz.func186,Tryz.ntmps186
 go_wp2_with fail
 go_loopw [10,0] (fun i n wr=>∃(k v:Nat),k≤d.size∧i=.int .i64 k∧n=.int .i64 v∧Hid (v=valD (d.data.toList.take k))∧v≤999999999999999999∧wr=W) (fun i _ _=>d.size-(intOf i).toNat)
 case atStart=>exact ⟨0,0,Nat.zero_le _,rfl,rfl,rfl,by omega,rfl⟩
 case round =>
  obtain ⟨k,v,hk,rfl,rfl,HV,hv,rfl⟩:=hrel
  by_cases hlt:k<d.size
  ·have hc:=HC.out k hlt
   have hdg:=isDig_bd (HD.out k hlt)
   have hsn:=valD_take_succ d.data.toList (j:=k) (by omega)
   have hel:d.data.toList[k]'(by omega)=d[k]:=rfl
   rw [hel,←HV.out] at hsn
   have hdv:dval d[k]=d[k].toNat-48:=rfl
   rw [hdv] at hsn
   have hq1:(48:Int)≤d[k].toNat:=by omega
   have hq2:(d[k].toNat:Int)≤57:=by omega
   by_cases hbig:10*v+(d[k].toNat-48)≤999999999999999999
   ·have hg:¬(999999999999999999-((d[k].toNat:Int)-48)) / 10<(v:Int):=by omega
    have H:=Hd hsn
    clear hsn hel hdv hdg
    go_wp2
    go_roundw
    case rel=>exact ⟨k+1,10*v+(d[k].toNat-48),by omega,by go_num,ret_int' (by omega),H.out.symm,hbig,by trivial⟩
    case measure=>simp [intOf];omega
   ·have hg:(999999999999999999-((d[k].toNat:Int)-48)) / 10<(v:Int):=by omega
    have hge:valD (d.data.toList.take (k+1))≤valD d.data.toList:=by
     have:=foldD_ge (d.data.toList.drop (k+1)) (valD (d.data.toList.take (k+1)))
     rw [show (d.data.toList.drop (k+1)).foldl stepD (valD (d.data.toList.take (k+1)))=valD d.data.toList by
      unfold valD;rw [←List.foldl_append,List.take_append_drop]] at this
     exact this
    have hmin:min (valD d.data.toList) maxNum=999999999999999999:=Nat.min_eq_right (by simp only [maxNum];omega)
    have H:=Hd hmin
    clear hsn hel hdv hdg hge hmin
    go_wp2
    go_ret
    exact ⟨ret_int (by rw [H.out];rfl),HU.out⟩
  ·have hvv:v=valD d.data.toList:=by rw [HV.out,List.take_of_length_le (by omega)]
   have hmin:min (valD d.data.toList) maxNum=v:=by rw [←hvv];exact Nat.min_eq_left hv
   have H:=Hd hmin
   clear hmin hvv
   go_wp2
   go_ret
   exact ⟨ret_int (by rw [H.out]),HU.out⟩
theorem c_Count (s:ByteArray) (w:World):Calls Tryz.prog 183 #[.string s,.string ⟨#[45]⟩] w fun e w'=>e=.returned (.int .i64 (s.data.toList.count 45:Nat))∧w=w' :=
 (Tryz.strings_Count_one s 45 w).mono fun e w' ⟨he,hw⟩=>⟨he,hw.symm⟩
theorem extract_bs (s:ByteArray) (a b:Nat):s.extract a b=bs ((s.data.toList.take b).drop a):=by
 conv=>lhs;rw [←bs_eta s]
 exact bs_extract _ _ _
theorem tw_dig (l:List UInt8):∀c∈l.takeWhile isDig,isDig c=true:=fun c hc=>by
 induction l with
 | nil=>simp at hc
 | cons x l ih =>
  by_cases hx:isDig x=true
  ·rw [List.takeWhile_cons_of_pos hx] at hc
   rcases List.mem_cons.1 hc with rfl | hc
   ·exact hx
   ·exact ih hc
  ·rw [List.takeWhile_cons_of_neg hx] at hc
   simp at hc
theorem fracOf_dig (l:List UInt8):∀c∈fracOf l,isDig c=true:=by
 cases l with
 | nil=>intro c hc;simp [fracOf] at hc
 | cons x t =>
  intro c hc
  by_cases h46:x=46
  ·rw [fracOf,if_pos h46] at hc
   exact tw_dig t c hc
  ·rw [fracOf,if_neg h46] at hc
   simp at hc
theorem absS_dig (l:List UInt8):∀c∈wholeL l++six (fracL l),isDig c=true:=fun c hc=>by
 rcases List.mem_append.1 hc with h | h
 ·exact tw_dig _ c h
 ·have:=List.mem_of_mem_take h
  rcases List.mem_append.1 this with h | h
  ·exact fracOf_dig _ c h
  ·have:c=48:=by simpa using h
   subst this;decide
theorem bs_dig {l:List UInt8} (h:∀c∈l,isDig c=true):∀i (hi:i<(bs l).size),isDig (bs l)[i]=true:=fun i hi=>by
 rw [bs_get]
 exact h _ (List.getElem_mem _)
theorem prefix_dot (l:List UInt8):(Lib.hasPrefix l [46]=true∧∃t,l=46::t∧Lib.trimPrefix l [46]=t)∨(Lib.hasPrefix l [46]=false∧fracOf l=[]):=by
 cases l with
 | nil=>exact .inr ⟨rfl,rfl⟩
 | cons x t =>
  by_cases h:x=46
  ·subst h
   have hp:Lib.hasPrefix (46::t) [46]=true:=by simp [Lib.hasPrefix]
   exact .inl ⟨hp,t,rfl,by unfold Lib.trimPrefix;rw [if_pos hp];rfl⟩
  ·have hp:Lib.hasPrefix (x::t) [46]=false:=by simp [Lib.hasPrefix,List.isPrefixOf];exact fun (e:(46:UInt8)=x)=>h e.symm
   exact .inr ⟨hp,by rw [fracOf,if_neg h]⟩
theorem c_NumOf (s:ByteArray) (w:World) (hs:s.size≤2 ^ 62):Calls Tryz.prog 165 #[.string s] w (RetV (.int .i64 (numOf s)) w):=by
 have hsm:s.size≤4611686018427387904:=hs
 have hrs:(bs (restL s.data.toList)).size+(signR s).length=s.size:=by
  rw [bs_size,restL_eq,List.length_drop,slen];have:=signR_le s;omega
 have cT:=fun w=>c_trimSign s w
 have hx0:s.extract 0 (signR s).length=bs (signR s):=by
  rw [extract_bs,List.drop_zero,signR_eq,tw_take]
 have hwh:(bs (restL s.data.toList)).extract 0 (digN (bs (restL s.data.toList)))=bs (wholeL s.data.toList):=by
  rw [bs_extract,List.drop_zero]
  unfold digN
  rw [bs_toList,tw_take]
  rfl
 have hws:(bs (wholeL s.data.toList)).size=digN (bs (restL s.data.toList)):=by
  rw [bs_size];unfold digN;rw [bs_toList];rfl
 have haf:(bs (restL s.data.toList)).extract (digN (bs (restL s.data.toList))) (bs (restL s.data.toList)).size=bs (afterL s.data.toList):=by
  rw [bs_extract,bs_size,List.take_length]
  unfold digN
  rw [bs_toList,dw_drop]
  rfl
 have hafs:(bs (afterL s.data.toList)).size≤s.size:=by
  have h:(afterL s.data.toList).length≤(restL s.data.toList).length:=by unfold afterL;exact (List.dropWhile_suffix _).length_le
  rw [bs_size]
  rw [bs_size] at hrs
  omega
 have hdn:=digN_le (bs (restL s.data.toList))
 have hfl:fracL s.data.toList=fracOf (afterL s.data.toList):=rfl
 have cP:∀w,Calls Tryz.prog 185 #[.string (bs (afterL s.data.toList)),.string ⟨#[46]⟩] w fun e w'=>e=.returned (.tuple #[.string (bs (Lib.trimPrefix (afterL s.data.toList) [46])),.bool (Lib.hasPrefix (afterL s.data.toList) [46])])∧w'=w:=fun w=>by
  have:=Tryz.strings_CutPrefix (bs (afterL s.data.toList)) ⟨#[46]⟩ w
  rw [bs_toList] at this
  exact this
 have hnum:numOf s=if negB (signR s)=true then -((min (valD (bs (wholeL s.data.toList++six (fracL s.data.toList))).data.toList) maxNum:Nat):Int) else ((min (valD (bs (wholeL s.data.toList++six (fracL s.data.toList))).data.toList) maxNum:Nat):Int):=by
  rw [bs_toList,←negL_eq];rfl
 have hDs:(bs (wholeL s.data.toList++six (fracL s.data.toList))).size≤maxLen:=by
  rw [bs_size] at hws ⊢
  rw [List.length_append,six_len];unfold maxLen;omega
 have cD:=fun w=>c_scaled (bs (wholeL s.data.toList++six (fracL s.data.toList))) w (bs_dig (absS_dig _)) hDs
 have hcnt:(((signR s).count 45:Nat):Int)%2=if negB (signR s)=true then 1 else 0:=by
  unfold negB
  by_cases h:(signR s).count 45%2=1
  ·rw [decide_eq_true h];simp;omega
  ·rw [decide_eq_false h];simp;omega
 have cG:=fun w=>c_digitsOf (bs (restL s.data.toList)) w (by unfold maxLen;omega)
 have cC:=fun w=>c_Count (bs (signR s)) w
 rw [bs_toList] at cC
 have hapx:bs (wholeL s.data.toList)++bs (six (fracL s.data.toList))=bs (wholeL s.data.toList++six (fracL s.data.toList)):=(bs_append _ _).symm
 have hfin:∀n:Nat,n≤999999999999999999→IntKind.i64.wrap (-(n:Int))=-(n:Int):=fun n hn=>IntWalk.i64_in _ (by omega)
 have hvl:min (valD (bs (wholeL s.data.toList++six (fracL s.data.toList))).data.toList) maxNum≤999999999999999999:=Nat.min_le_right _ _
 have hpd:=prefix_dot (afterL s.data.toList)
 rw [←hfl] at hpd
 have hfr:∀t,afterL s.data.toList=46::t→fracL s.data.toList=t.takeWhile isDig:=fun t ht=>by rw [hfl,ht];rfl
 generalize (signR s).count 45=cnt at *
 generalize min (valD (bs (wholeL s.data.toList++six (fracL s.data.toList))).data.toList) maxNum=V at *
 generalize signR s=sg at *
 generalize afterL s.data.toList=af at *
 generalize wholeL s.data.toList=wh at *
 generalize restL s.data.toList=rl at *
 generalize fracL s.data.toList=fr at *
 have hsub:(s.size:Int)-((bs rl).size:Int)=(sg.length:Int):=by omega
 have hle0:(sg.length:Int)≤(s.size:Int):=by omega
 have hdn':(digN (bs rl):Int)≤((bs rl).size:Int):=by omega
 have HT:=Hd cT
 have HC:=Hd cC
 have HG:=Hd cG
 have HP:=Hd cP
 have HD:=Hd cD
 have HN:=Hd hnum
 have HR:=Hd hfr
 have HF:=Hd hfin
 have hzs:bs fr++⟨#[48,48,48,48,48,48]⟩=bs (fr++[48,48,48,48,48,48]):=(bs_append _ _).symm
 have hz6:(bs (fr++[48,48,48,48,48,48])).extract 0 6=bs (six fr):=by rw [bs_extract,List.drop_zero];rfl
 have hz7:(bs (fr++[48,48,48,48,48,48])).size=(bs fr).size+6:=by rw [bs_size,bs_size,List.length_append];rfl
 have hss:(bs (six fr)).size=6:=by rw [bs_size,six_len]
 have hrl:(bs rl).size≤4611686018427387904:=by omega
 generalize digN (bs rl)=dn at *
 clear cG cT cC cP cD hnum hfr hfin hfl hDs
 rcases hpd with ⟨hp1,t,rfl,hp2⟩ | ⟨hp1,hp2⟩
 ·have hfr:=HR.out t rfl
  have hte:(bs t).extract 0 (digN (bs t))=bs fr:=by
   rw [bs_extract,List.drop_zero,hfr]
   unfold digN
   rw [bs_toList,tw_take]
  have hts:(bs t).size≤4611686018427387904:=by
   have:(bs (46::t)).size=(bs t).size+1:=by rw [bs_size,bs_size];rfl
   omega
  have htn:=digN_le (bs t)
  have htf:(bs fr).size≤(bs t).size:=by
   rw [bs_size,bs_size,hfr];exact tw_le _ _
  have cH:=fun w=>c_digitsOf (bs t) w (by unfold maxLen;omega)
  generalize digN (bs t)=tn at *
  have HH:=Hd cH
  have hp3:bs (Lib.trimPrefix (46::t) [46])=bs t:=by rw [hp2]
  rw [hp1,hp2] at HP
  clear cH hfr hp1 hp2 hp3 HR
  have hz8:¬9223372036854775807<(bs fr).size+(ByteArray.mk #[48,48,48,48,48,48]).size:=by rw [show (ByteArray.mk #[48,48,48,48,48,48]).size=6 from rfl];omega
  have hz9:¬9223372036854775807<(bs wh).size+(bs (six fr)).size:=by rw [hss];omega
  cases hng:negB sg
  all_goals
   rw [hng] at hcnt HN
   simp only [if_true,Bool.false_eq_true,if_false] at hcnt HN
   clear hng
   go_enter Tryz.func165,Tryz.ntmps165
   go_wp2_with fail
   refine (HT.out _).mono ?_
   rintro e w1 ⟨rfl,u1⟩
   go_wp2_with fail
   refine (HC.out _).mono ?_
   rintro e w1 ⟨rfl,rfl⟩
   go_wp2_with fail
   refine (HG.out _).mono ?_
   rintro e w2 ⟨rfl,u2⟩
   go_wp2_with fail
   refine (HP.out _).mono ?_
   rintro e w3 ⟨rfl,rfl⟩
   go_wp2_with fail
   refine (HH.out _).mono ?_
   rintro e w4 ⟨rfl,u4⟩
   go_wp2_with fail
   refine (HD.out _).mono ?_
   rintro e w5 ⟨rfl,u5⟩
   have hng:=HF.out V hvl
   go_wp2_with fail
   go_ret
   exact ⟨ret_int (by rw [HN.out]),((u1.trans u2).trans u4).trans u5⟩
 ·subst hp2
  rw [hp1] at HP
  have hz8:¬9223372036854775807<(bs wh).size+(bs (six [])).size:=by rw [hss];omega
  have hz9:(⟨#[]⟩++⟨#[48,48,48,48,48,48]⟩:ByteArray).extract 0 6=bs (six []):=hz6
  clear hp1 hz6 hzs hz7 HR
  cases hng:negB sg
  all_goals
   rw [hng] at hcnt HN
   simp only [if_true,Bool.false_eq_true,if_false] at hcnt HN
   clear hng
   go_enter Tryz.func165,Tryz.ntmps165
   go_wp2_with fail
   refine (HT.out _).mono ?_
   rintro e w1 ⟨rfl,u1⟩
   go_wp2_with fail
   refine (HC.out _).mono ?_
   rintro e w1 ⟨rfl,rfl⟩
   go_wp2_with fail
   refine (HG.out _).mono ?_
   rintro e w2 ⟨rfl,u2⟩
   go_wp2_with fail
   refine (HP.out _).mono ?_
   rintro e w3 ⟨rfl,rfl⟩
   go_wp2_with fail
   refine (HD.out _).mono ?_
   rintro e w5 ⟨rfl,u5⟩
   have hng:=HF.out V hvl
   go_wp2_with fail
   go_ret
   exact ⟨ret_int (by rw [HN.out]),(u1.trans u2).trans u5⟩
theorem handed_and_shaped {H:Type} {enc:TypeId×Value→H} {a:Assume} {C:Checked} {os:Os} {f:FuncId} {fn:Func} {s:ChangeSpec} {conds:List PathCond} {apart fresh handsOn again:Bool} {X:World→Array Value→Prop}
 (hX:∀(w w':World) (args:Array Value),w.heap=w'.heap→X w args→X w' args)
 (own:ownKnob C.prog.godebug=none) (started:os.Started) (noInit:C.prog.inits.idxOf? f=none) (hfn:C.prog.funcs[f]?=some fn)
 (witness:∃(w:World) (tape:Tape) (i:Input),w.os=os∧(w.forCall tape i).Shaped C.prog∧i.vars=[]∧Input.okWide C.prog (w.forCall tape i) .any w.heap.size f i ∧
  ((s.pre enc C.prog fn conds apart (w.forCall tape i).memory i.args∧X (w.forCall tape i).memory i.args)∧sizedMet enc C.prog fn (OpenSpec.ofChange s) apart (w.forCall tape i).memory i.args)∧a.holds C.prog (lone (Frame.enter C.prog f i.args .normal) [] (w.forCall tape i)))
 (contract:∀(W:World) (base:Nat) (args:Array Value) (ds gs:List (DataW H)) (before:List MemPlace),
  (∀(j:Nat) t v,fn.params[j]?=some t→args[j]?=some v→Value.okWide C.prog W .any base t v) →
  DataW.Whole enc C.prog fn.params.toList s.vars apart W args.toList ds gs before →
  conds.all (PathCond.test C.prog ⟨fn.params.toList,ds,s.plain.varTypes C.prog,gs⟩)=true →
  (DataW.weightsEach C.prog (fn.params.toList++s.plain.varTypes C.prog) (ds++gs)).all (·≤reachBytes)=true→X W args →
  W.ShapedOpen C.prog →
  a.holds C.prog (lone (Frame.enter C.prog f args .normal) [] W) →
  Calls C.prog f args W fun e W'=>∃v,e=.returned v∧s.post enc C.prog fn apart fresh handsOn again W args v W') :
 ReturnsInHanded a C os f .any (fun w args=>(s.pre enc C.prog fn conds apart w args∧X w args)∧sizedMet enc C.prog fn (OpenSpec.ofChange s) apart w args) (s.post enc C.prog fn apart fresh handsOn again):=by
 refine returnsInHanded_of_calls own started noInit witness ?_
 intro w tape i _ hsh _ hok hpre hholds
 obtain ⟨_,_,_,fn',hfn',_,_,_,_,hval⟩:=hok
 have e:fn'=fn:=Option.some.inj (hfn'.symm.trans hfn)
 subst e
 obtain ⟨⟨⟨ds,gs,before,hw,hc⟩,hx⟩,hz⟩:=hpre
 have hw':=DataW.Whole.of_heap (w':=w.forCall tape i) (by rfl) hw
 refine (contract (w.forCall tape i) w.heap.size i.args ds gs before hval hw' hc (hz.weights hw) (hX _ _ _ (by rfl) hx) hsh hholds).mono fun e W' ⟨v,he,hp⟩=>?_
 subst he
 exact ChangeSpec.post_blind hp
def MaxL (w:World):Prop:=∃m,w.cell? ⟨0,0,none⟩=some (.int .i64 m)
theorem maxL_shaped {w:World} (h:w.ShapedOpen Tryz.prog):MaxL w :=
 cell_of_shapedOpen_int (zero:=#[.int .i64 0]) (t:=3) h (of_decide_eq_true (by kernel_rfl)) (by kernel_rfl) rfl (by kernel_rfl) (by kernel_rfl) Tryz.underlying3
theorem maxL_up {w w':World} (h:MaxL w) (u:Up w w'):MaxL w':=by
 obtain ⟨m,hm⟩:=h
 exact ⟨m,(u.cell (cell_lt hm)).trans hm⟩
theorem c_format (k:Nat) (q:Int) (w:World) (hq:q=(k:Int)) (h1:k≤9223372036854775807) (htab:Tab w):Calls Tryz.prog 161 #[.int .i64 q,.int .i64 10] w (RetV (.string (bs (decT k))) w):=by
 subst hq
 refine (Tryz.strconv_FormatInt_10 (k:Int) (by omega) (by omega) w htab).mono fun e w' ⟨he,q,os,hw⟩=>⟨?_,by rw [hw];exact up_grow w q os⟩
 rw [he]
 have:Lib.itoa (k:Int)=decT k:=by unfold Lib.itoa decT;rw [if_neg (by omega),Int.toNat_natCast]
 rw [this];rfl
theorem c_trimRightZ (l:List UInt8) (w:World) (hs:(bs l).size≤9223372036854775807):Calls Tryz.prog 162 #[.string (bs l),.string ⟨#[48]⟩] w (RetV (.string (bs (trimZ l))) w) :=
 (Tryz.strings_TrimRight_one (bs l) 48 (by decide) w hs).mono fun e w' ⟨he,hw⟩=>⟨by rw [he,bs_toList];rfl,by rw [hw];exact Up.refl w⟩
theorem c_isNum (n:Int) (w:World) (h:n.natAbs≤999999999999999999):Calls Tryz.prog 160 #[.int .i64 n] w fun e w'=>e=.returned (.bool true)∧w=w':=by
 have hb:inB n (-999999999999999999) 999999999999999999=true:=inB_t.2 (by omega)
 go_enter Tryz.func160,Tryz.ntmps160
 go_wp2_with fail
 refine (within_any _ _ _ _).mono ?_
 rintro e w' ⟨rfl,rfl⟩
 rw [hb]
 go_wp2_with fail
 go_ret
 exact ⟨rfl,rfl⟩
theorem c_NumText (n:Int) (w:World) (h:n.natAbs≤999999999999999999) (htab:Tab w):Calls Tryz.prog 137 #[.int .i64 n] w (RetV (.string (numText n)) w):=by
 by_cases h0:n=0
 ·subst h0
  go_enter Tryz.func137,Tryz.ntmps137
  go_wp2_with fail
  refine (c_isNum _ _ (by simp)).mono ?_
  rintro e w' ⟨rfl,rfl⟩
  go_wp2_with fail
  go_ret
  exact ⟨rfl,Up.refl _⟩
 ·obtain ⟨k,hk0,hk,hks⟩:∃k:Nat,0<k∧k≤999999999999999999∧(n=-(k:Int)∨n=(k:Int)):=⟨n.natAbs,by omega,by omega,by omega⟩
  have hq0:decT (k / 1000000)=wholeT (k / 1000000)∨k / 1000000=0:=by
   by_cases hz:k / 1000000=0
   ·exact .inr hz
   ·exact .inl (by unfold wholeT;rw [if_neg hz])
  have cF:=fun (q:Int) (m:Nat) (w:World) (h1:q=(m:Int)) (h2:m≤1000000000000) (ht:Tab w)=>c_format m q w h1 (by omega) ht
  have hdl:=decT_length (k / 1000000) (by omega)
  have hds:=bs_size (decT (k / 1000000))
  have hr6:k%1000000<1000000:=by omega
  have hD:=decT_million hr6
  have hDl:(decT (1000000+k%1000000)).length=7:=by rw [hD];rfl
  have hs7:(bs (decT (1000000+k%1000000))).size=7:=by rw [bs_size,hDl]
  have hext:(bs (decT (1000000+k%1000000))).extract 1 7=bs ((decT (1000000+k%1000000)).drop 1):=by rw [bs_extract,List.take_of_length_le (by omega)]
  have cR:=fun w=>c_trimRightZ ((decT (1000000+k%1000000)).drop 1) w (by rw [bs_size,List.length_drop];omega)
  have htz:(bs (trimZ ((decT (1000000+k%1000000)).drop 1))).size≤7:=by rw [bs_size];have:=trimZ_len ((decT (1000000+k%1000000)).drop 1);rw [List.length_drop] at this;omega
  have hneg:numText (-(k:Int))=bs (45::(wholeT (k / 1000000)++fracT (k%1000000))):=by
   unfold numText textL
   rw [if_neg (by omega),if_pos (by omega),Int.natAbs_neg,Int.natAbs_natCast];rfl
  have hpos:numText (k:Int)=bs (wholeT (k / 1000000)++fracT (k%1000000)):=by
   unfold numText textL
   rw [if_neg (by omega),if_neg (by omega),Int.natAbs_natCast];rfl
  have hfrac:fracT (k%1000000)=if k%1000000=0 then [] else 46::trimZ ((decT (1000000+k%1000000)).drop 1):=rfl
  have hwh:wholeT (k / 1000000)=if k / 1000000=0 then [] else decT (k / 1000000):=rfl
  have HF:=Hd @cF
  have HR:=Hd cR
  clear cF cR
  obtain ⟨M,hM⟩:∃M,M=1000000+k%1000000:=⟨_,rfl⟩
  rw [←hM] at hDl hs7 hext htz HR hfrac
  have HM:=Hd hM
  have hMb:M≤1000000000000:=by omega
  have e1:(1000000:Int)+(k:Int)%1000000=(M:Int):=by omega
  have HE:=Hd e1
  have HMb:=Hd hMb
  clear e1 hMb
  obtain ⟨D,hDD⟩:∃D,D=(decT M).drop 1:=⟨_,rfl⟩
  rw [←hDD] at hext htz HR hfrac
  clear hD hM hDD
  have HQ:=Hd (show (k:Int) / 1000000=((k / 1000000:Nat):Int) by omega)
  have hri0:¬(k%1000000=0)→(0:Int)<(k:Int)%1000000:=by omega
  have hri1:k%1000000=0→¬(0:Int)<(k:Int)%1000000:=by omega
  have hqi0:k<1000000→¬(1000000:Int)≤(k:Int):=by omega
  have hqi1:¬k<1000000→(1000000:Int)≤(k:Int):=by omega
  have hk1:(0:Int)<(k:Int):=by omega
  have hk2:(k:Int)≤999999999999999999:=by omega
  have hk3:n=-(k:Int)∨n=(k:Int):=hks
  have hq1:k / 1000000≤1000000000000:=by omega
  have HQB:=Hd hq1
  clear hks hq1
  generalize hmk:(k:Int)=m at *
  clear hmk
  rcases hk3 with rfl | hk4
  ·have hn:numText (-m)=bs (45::(wholeT (k / 1000000)++fracT (k%1000000))):=hneg
   clear hneg hpos
   have hlt:-m<0:=by omega
   have hbd:-(999999999999999999:Int)≤-m:=by omega
   by_cases hq:k<1000000
   ·rw [hwh,if_pos (by omega)] at hn
    have hqi:=hqi0 hq
    by_cases hr:k%1000000=0
    ·exfalso;omega
    ·rw [hfrac,if_neg hr] at hn
     have hri:=hri0 hr
     have hn2:numText (-m)=((⟨#[45]⟩:ByteArray))++(⟨#[46]⟩++bs (trimZ D)):=by
      rw [hn]
      exact (bs_append [45] ([46]++trimZ D)).trans (by rw [bs_append];try rfl)
     have H:=Hd hn2
     have g45:(ByteArray.mk #[45]).size=1:=rfl
     have g46:(ByteArray.mk #[46]).size=1:=rfl
     have g00:(ByteArray.mk #[]).size=0:=rfl
     have g2:¬9223372036854775807<(ByteArray.mk #[46]).size+(bs (trimZ D)).size:=by omega
     have g3:¬9223372036854775807<(⟨#[45]⟩:ByteArray).size+(⟨#[46]⟩++bs (trimZ D):ByteArray).size:=by simp only [ByteArray.size_append,g45,g46,g00];omega
     clear hn hn2 hwh hfrac hdl hds hDl hr6 g45 g46 g00 hr hq hq0 hk0 hk htz hri0 hri1 hqi0 hqi1 h0 h
     go_enter Tryz.func137,Tryz.ntmps137
     go_wp2_with (first | (go_at_call 160;(with_reducible refine (c_isNum _ _ (by omega)).mono ?_);rintro e w' ⟨rfl,rfl⟩) | (go_at_call 161;(with_reducible refine (HF.out _ M _ HE.out HMb.out htab).mono ?_);rintro e w2 ⟨rfl,u2⟩) | (go_at_call 162;(with_reducible refine (HR.out _).mono ?_);rintro e w3 ⟨rfl,u3⟩))
     go_ret
     exact ⟨by rw [H.out];first | done | rfl,(u2).trans u3⟩
   ·rw [hwh,if_neg (by omega)] at hn
    have hqi:=hqi1 hq
    by_cases hr:k%1000000=0
    ·rw [hfrac,if_pos hr] at hn
     have hri:=hri1 hr
     have hn2:numText (-m)=(⟨#[45]⟩:ByteArray)++bs (decT (k / 1000000)):=by
      rw [hn]
      exact (by rw [List.append_nil];exact bs_append [45] _)
     have H:=Hd hn2
     have g45:(ByteArray.mk #[45]).size=1:=rfl
     have g46:(ByteArray.mk #[46]).size=1:=rfl
     have g00:(ByteArray.mk #[]).size=0:=rfl
     have g4:(⟨#[]⟩++bs (decT (k / 1000000)):ByteArray)=bs (decT (k / 1000000)):=ByteArray.empty_append
     have g1:¬9223372036854775807<(ByteArray.mk #[45]).size+(bs (decT (k / 1000000))).size:=by omega
     clear hn hn2 hwh hfrac hdl hds hDl hr6 g45 g46 g00 hr hq hq0 hk0 hk htz hri0 hri1 hqi0 hqi1 h0 h
     go_enter Tryz.func137,Tryz.ntmps137
     go_wp2_with (first | (go_at_call 160;(with_reducible refine (c_isNum _ _ (by omega)).mono ?_);rintro e w' ⟨rfl,rfl⟩) | (go_at_call 161;(with_reducible refine (HF.out _ (k / 1000000) _ HQ.out HQB.out htab).mono ?_);rintro e w1 ⟨rfl,u1⟩;have htab1:=tab_up htab u1))
     go_ret
     exact ⟨by rw [H.out];first | done | rfl,u1⟩
    ·rw [hfrac,if_neg hr] at hn
     have hri:=hri0 hr
     have hn2:numText (-m)=((⟨#[45]⟩:ByteArray)++bs (decT (k / 1000000)))++(⟨#[46]⟩++bs (trimZ D)):=by
      rw [hn]
      exact (bs_append ([45]++decT (k / 1000000)) ([46]++trimZ D)).trans (by rw [bs_append,bs_append];try rfl)
     have H:=Hd hn2
     have g45:(ByteArray.mk #[45]).size=1:=rfl
     have g46:(ByteArray.mk #[46]).size=1:=rfl
     have g00:(ByteArray.mk #[]).size=0:=rfl
     have g4:(⟨#[]⟩++bs (decT (k / 1000000)):ByteArray)=bs (decT (k / 1000000)):=ByteArray.empty_append
     have g1:¬9223372036854775807<(ByteArray.mk #[45]).size+(bs (decT (k / 1000000))).size:=by omega
     have g2:¬9223372036854775807<(ByteArray.mk #[46]).size+(bs (trimZ D)).size:=by omega
     have g3:¬9223372036854775807<(⟨#[45]⟩++bs (decT (k / 1000000)):ByteArray).size+(⟨#[46]⟩++bs (trimZ D):ByteArray).size:=by simp only [ByteArray.size_append,g45,g46,g00];omega
     clear hn hn2 hwh hfrac hdl hds hDl hr6 g45 g46 g00 hr hq hq0 hk0 hk htz hri0 hri1 hqi0 hqi1 h0 h
     go_enter Tryz.func137,Tryz.ntmps137
     go_wp2_with (first | (go_at_call 160;(with_reducible refine (c_isNum _ _ (by omega)).mono ?_);rintro e w' ⟨rfl,rfl⟩) | (go_at_call 161;(with_reducible refine (HF.out _ (k / 1000000) _ HQ.out HQB.out htab).mono ?_);rintro e w1 ⟨rfl,u1⟩;have htab1:=tab_up htab u1) | (go_at_call 161;(with_reducible refine (HF.out _ M _ HE.out HMb.out htab1).mono ?_);rintro e w2 ⟨rfl,u2⟩) | (go_at_call 162;(with_reducible refine (HR.out _).mono ?_);rintro e w3 ⟨rfl,u3⟩))
     go_ret
     exact ⟨by rw [H.out];first | done | rfl,((u1).trans u2).trans u3⟩
  ·replace hk4:=hk4.symm
   subst hk4
   have hn:numText m=bs ((wholeT (k / 1000000)++fracT (k%1000000))):=hpos
   clear hneg hpos
   by_cases hq:k<1000000
   ·rw [hwh,if_pos (by omega)] at hn
    have hqi:=hqi0 hq
    by_cases hr:k%1000000=0
    ·exfalso;omega
    ·rw [hfrac,if_neg hr] at hn
     have hri:=hri0 hr
     have hn2:numText (m)=(⟨#[46]⟩++bs (trimZ D)):=by
      rw [hn]
      exact bs_append [46] _
     have H:=Hd hn2
     have g45:(ByteArray.mk #[45]).size=1:=rfl
     have g46:(ByteArray.mk #[46]).size=1:=rfl
     have g00:(ByteArray.mk #[]).size=0:=rfl
     have g2:¬9223372036854775807<(ByteArray.mk #[46]).size+(bs (trimZ D)).size:=by omega
     have g5:(⟨#[]⟩++(⟨#[46]⟩++bs (trimZ D)):ByteArray)=⟨#[46]⟩++bs (trimZ D):=ByteArray.empty_append
     have g3:¬9223372036854775807<(⟨#[]⟩:ByteArray).size+(⟨#[46]⟩++bs (trimZ D):ByteArray).size:=by simp only [ByteArray.size_append,g45,g46,g00];omega
     clear hn hn2 hwh hfrac hdl hds hDl hr6 g45 g46 g00 hr hq hq0 hk0 hk htz hri0 hri1 hqi0 hqi1 h0 h
     go_enter Tryz.func137,Tryz.ntmps137
     go_wp2_with (first | (go_at_call 160;(with_reducible refine (c_isNum _ _ (by omega)).mono ?_);rintro e w' ⟨rfl,rfl⟩) | (go_at_call 161;(with_reducible refine (HF.out _ M _ HE.out HMb.out htab).mono ?_);rintro e w2 ⟨rfl,u2⟩) | (go_at_call 162;(with_reducible refine (HR.out _).mono ?_);rintro e w3 ⟨rfl,u3⟩))
     go_ret
     exact ⟨by rw [H.out];first | done | rfl,(u2).trans u3⟩
   ·rw [hwh,if_neg (by omega)] at hn
    have hqi:=hqi1 hq
    by_cases hr:k%1000000=0
    ·rw [hfrac,if_pos hr] at hn
     have hri:=hri1 hr
     have hn2:numText (m)=bs (decT (k / 1000000)):=by
      rw [hn]
      exact (by rw [List.append_nil])
     have H:=Hd hn2
     have g45:(ByteArray.mk #[45]).size=1:=rfl
     have g46:(ByteArray.mk #[46]).size=1:=rfl
     have g00:(ByteArray.mk #[]).size=0:=rfl
     have g4:(⟨#[]⟩++bs (decT (k / 1000000)):ByteArray)=bs (decT (k / 1000000)):=ByteArray.empty_append
     have g1:¬9223372036854775807<(ByteArray.mk #[]).size+(bs (decT (k / 1000000))).size:=by omega
     clear hn hn2 hwh hfrac hdl hds hDl hr6 g45 g46 g00 hr hq hq0 hk0 hk htz hri0 hri1 hqi0 hqi1 h0 h
     go_enter Tryz.func137,Tryz.ntmps137
     go_wp2_with (first | (go_at_call 160;(with_reducible refine (c_isNum _ _ (by omega)).mono ?_);rintro e w' ⟨rfl,rfl⟩) | (go_at_call 161;(with_reducible refine (HF.out _ (k / 1000000) _ HQ.out HQB.out htab).mono ?_);rintro e w1 ⟨rfl,u1⟩;have htab1:=tab_up htab u1))
     go_ret
     exact ⟨by rw [H.out];first | done | rfl,u1⟩
    ·rw [hfrac,if_neg hr] at hn
     have hri:=hri0 hr
     have hn2:numText (m)=(bs (decT (k / 1000000)))++(⟨#[46]⟩++bs (trimZ D)):=by
      rw [hn]
      exact (bs_append (decT (k / 1000000)) ([46]++trimZ D)).trans (by rw [bs_append];try rfl)
     have H:=Hd hn2
     have g45:(ByteArray.mk #[45]).size=1:=rfl
     have g46:(ByteArray.mk #[46]).size=1:=rfl
     have g00:(ByteArray.mk #[]).size=0:=rfl
     have g4:(⟨#[]⟩++bs (decT (k / 1000000)):ByteArray)=bs (decT (k / 1000000)):=ByteArray.empty_append
     have g1:¬9223372036854775807<(ByteArray.mk #[]).size+(bs (decT (k / 1000000))).size:=by omega
     have g2:¬9223372036854775807<(ByteArray.mk #[46]).size+(bs (trimZ D)).size:=by omega
     have g3:¬9223372036854775807<(bs (decT (k / 1000000))).size+(⟨#[46]⟩++bs (trimZ D):ByteArray).size:=by simp only [ByteArray.size_append,g45,g46,g00];omega
     clear hn hn2 hwh hfrac hdl hds hDl hr6 g45 g46 g00 hr hq hq0 hk0 hk htz hri0 hri1 hqi0 hqi1 h0 h
     go_enter Tryz.func137,Tryz.ntmps137
     go_wp2_with (first | (go_at_call 160;(with_reducible refine (c_isNum _ _ (by omega)).mono ?_);rintro e w' ⟨rfl,rfl⟩) | (go_at_call 161;(with_reducible refine (HF.out _ (k / 1000000) _ HQ.out HQB.out htab).mono ?_);rintro e w1 ⟨rfl,u1⟩;have htab1:=tab_up htab u1) | (go_at_call 161;(with_reducible refine (HF.out _ M _ HE.out HMb.out htab1).mono ?_);rintro e w2 ⟨rfl,u2⟩) | (go_at_call 162;(with_reducible refine (HR.out _).mono ?_);rintro e w3 ⟨rfl,u3⟩))
     go_ret
     exact ⟨by rw [H.out];first | done | rfl,((u1).trans u2).trans u3⟩
theorem c_IsCanon (s:ByteArray) (w:World) (hs:s.size≤2 ^ 62) (htab:Tab w):Calls Tryz.prog 164 #[.string s] w (RetV (.bool (canon s)) w):=by
 have hbe:=str_beq (numText (numOf s)) s
 have hcc:decide (numText (numOf s)=s)=canon s:=rfl
 rw [hcc] at hbe
 have HB:=Hd hbe
 clear hbe hcc
 go_enter Tryz.func164,Tryz.ntmps164
 go_wp2_with fail
 refine (c_NumOf s _ hs).mono ?_
 rintro e w1 ⟨rfl,u1⟩
 go_wp2_with fail
 refine (c_NumText _ _ (numOf_abs s) (tab_up htab u1)).mono ?_
 rintro e w2 ⟨rfl,u2⟩
 go_wp2_with fail
 go_ret
 exact ⟨by rw [←HB.out];first | done | rfl,u1.trans u2⟩
theorem toL (a:Array UInt8):(ByteArray.mk a).data.toList=a.toList:=rfl
theorem c_Replace0 (s:ByteArray) (w:World) (hs:s.size≤1048576) (hm:MaxL w) :
 Calls Tryz.prog 167 #[.string s,.string (ByteArray.mk #[0]),.string (ByteArray.mk #[0,255])] w fun e w'=>e=.returned (.string (bs (escL s.data.toList)))∧Up w w':=by
 obtain ⟨m,hm⟩:=hm
 have hc:Lib.countB s (ByteArray.mk #[0])≤s.size:=Lib.countB_le _ (by decide) s.size s (Nat.le_refl _)
 refine (Tryz.strings_ReplaceAll s (ByteArray.mk #[0]) (ByteArray.mk #[0,255]) m w (by omega) hm (by decide) ?_).mono ?_
 ·have h2:(ByteArray.mk #[0,255]).size=2:=by decide
  rw [h2];omega
 ·rintro e w' ⟨rfl,hb⟩
  refine ⟨?_,hb⟩
  rw [toL,toL]
  have:=replaceAll_esc s.data.toList
  rw [show (#[0]:Array UInt8).toList=[0] from rfl,show (#[0,255]:Array UInt8).toList=[0,255] from rfl,this]
  rfl
theorem Up.ok {w w':World} (u:Up w w') (b:Nat):Lib.OthersKept 5 (some b) w w':=fun g o h _ _=>(u.block g (heap_lt h)).trans h
theorem maxL_below {B:Nat} {w w':World} (h:MaxL w) (k:Below B w w') (hB:0<B):MaxL w':=by
 obtain ⟨m,hm⟩:=h
 exact ⟨m,(k.cell hB).trans hm⟩
abbrev Stp (B b:Nat) (l:List UInt8) (w w':World):Prop:=Bld8 B b l w'∧Below B w w'∧Lib.OthersKept 5 (some b) w w'
theorem c_putSub2 (B b:Nat) (l:List UInt8) (s:ByteArray) (w:World) (h:Bld8 B b l w) (hs:s.size≤1048576) (hl:l.length≤1099511627776) (hBw:B≤w.heap.size) (hB0:0<B) (htab:Tab w) (hm:MaxL w) (hc:canon s=false) :
 Calls Tryz.prog 142 #[.pointer (some ⟨b,0,none⟩),.string s] w fun e w'=>e=.returned (.tuple #[])∧Stp B b (l++subKeyL s) w w':=by
 have hk:subKeyL s=2::(escL s.data.toList++[0,0]):=by unfold subKeyL;rw [if_neg (by rw [hc];simp)]
 have hsz:s.size≤2 ^ 62:=by omega
 have hel:=escL_len s.data.toList
 rw [slen] at hel
 have HK:=Hd hk
 clear hk
 go_enter Tryz.func142,Tryz.ntmps142
 go_wp2_with fail
 refine (c_IsCanon s _ hsz htab).mono ?_
 rintro e w1 ⟨rfl,u1⟩
 rw [hc]
 have b1:=bld_up h u1
 have k1:Below B w w1:=Below.mono u1 hBw
 have o1:=u1.ok b
 have m1:=maxL_up hm u1
 have s1:=u1.size
 go_wp2_with fail
 refine (c_WriteByte B b l 2 w1 b1 (by omega) (by omega)).mono ?_
 rintro e w2 ⟨rfl,b2,k2,o2⟩
 have m2:=maxL_below m1 k2 hB0
 have s2:=k2.size
 have kk2:=k1.trans k2
 have oo2:=o1.trans o2
 go_wp2_with fail
 refine (c_Replace0 s w2 hs m2).mono ?_
 rintro e w3 ⟨rfl,u3⟩
 have b3:=bld_up b2 u3
 have k3:=kk2.trans (Below.mono u3 (by omega))
 have o3:=oo2.trans (u3.ok b)
 have s3:=u3.size
 have hbz:(bs (escL s.data.toList)).size=(escL s.data.toList).length:=bs_size _
 have hl3:(l++[(2:UInt8)]).length=l.length+1:=by simp
 go_wp2_with fail
 refine (c_WriteString B b _ _ w3 b3 (by omega) (by omega)).mono ?_
 rintro e w4 ⟨rfl,b4,k4,o4⟩
 have s4:=k4.size
 have hl4:(l++[(2:UInt8)]++(bs (escL s.data.toList)).data.toList).length=l.length+1+(escL s.data.toList).length:=by rw [List.length_append,hl3,slen,hbz]
 have hz2:(ByteArray.mk #[0,0]).size=2:=by decide
 go_wp2_with fail
 refine (c_WriteString B b _ _ w4 b4 (by omega) (by omega)).mono ?_
 rintro e w5 ⟨rfl,b5,k5,o5⟩
 go_wp2_with fail
 refine bodyPost_end (v:=.tuple #[]) (by simp [results,Tryz.results142,go_sem]) (by rfl) ?_
 refine ⟨rfl,?_,(k3.trans k4).trans k5,(o3.trans o4).trans o5⟩
 rw [HK.out]
 have e5:l++[(2:UInt8)]++(bs (escL s.data.toList)).data.toList++(ByteArray.mk #[0,0]).data.toList=l++2::(escL s.data.toList++[0,0]):=by
  have e6:(bs (escL s.data.toList)).data.toList=escL s.data.toList:=rfl
  have e7:(ByteArray.mk #[0,0]).data.toList=[(0:UInt8),0]:=rfl
  rw [e6,e7];simp
 rw [e5] at b5
 exact b5
theorem c_putSub1 (B b:Nat) (l:List UInt8) (s:ByteArray) (w:World) (h:Bld8 B b l w) (hs:s.size≤1048576) (hl:l.length≤1099511627776) (hBw:B≤w.heap.size) (htab:Tab w) (hc:canon s=true) :
 Calls Tryz.prog 142 #[.pointer (some ⟨b,0,none⟩),.string s] w fun e w'=>e=.returned (.tuple #[])∧Stp B b (l++subKeyL s) w w':=by
 have hsz:s.size≤2 ^ 62:=by omega
 have hnb:=numOf_le s
 obtain ⟨N,hN⟩:∃N,N=(numOf s+1000000000000000000).toNat:=⟨_,rfl⟩
 have hNi:numOf s+1000000000000000000=(N:Int):=by omega
 have hNb:N≤1999999999999999999:=by omega
 have hk:subKeyL s=1::beT N 8:=by unfold subKeyL;rw [if_pos hc,hN]
 have HK:=Hd hk
 have HNB:=Hd hNb
 obtain ⟨z,hz⟩:∃z,z=numOf s+1000000000000000000:=⟨_,rfl⟩
 have hzN:z=(N:Int):=by omega
 have hz1:0≤z:=by omega
 have hz2':z≤1999999999999999999:=by omega
 have hw3:numOf s+1000000000000000000=z:=hz.symm
 have hzm:z%18446744073709551616=z:=by omega
 have HZN:=Hd hzN
 obtain ⟨hnb1,hnb2⟩:=hnb
 clear hN hk hNb hNi hz hzN
 go_enter Tryz.func142,Tryz.ntmps142
 go_wp2_with fail
 refine (c_IsCanon s _ hsz htab).mono ?_
 rintro e w1 ⟨rfl,u1⟩
 rw [hc]
 have b1:=bld_up h u1
 have k1:Below B w w1:=Below.mono u1 hBw
 have o1:=u1.ok b
 have s1:=u1.size
 go_wp2_with fail
 refine (c_NumOf s _ hsz).mono ?_
 rintro e w0 ⟨rfl,u0⟩
 replace b1:=bld_up b1 u0
 replace k1:=k1.trans (Below.mono u0 (by omega))
 replace o1:=o1.trans (u0.ok b)
 replace s1:=Nat.le_trans s1 u0.size
 go_wp2_with fail
 refine (c_WriteByte B b l 1 w0 b1 (by omega) (by omega)).mono ?_
 rintro e w2 ⟨rfl,b2,k2,o2⟩
 have s2:=k2.size
 have kk2:=k1.trans k2
 have oo2:=o1.trans o2
 have b2':Bld8 B b (l++1::beT N 0) w2:=b2
 go_wp2_with fail
 go_loopw [5] (fun i wr=>∃(m:Nat),m≤8∧i=.int .i64 (56-8*(m:Int))∧Bld8 B b (l++1::beT N m) wr∧Below B w wr∧Lib.OthersKept 5 (some b) w wr) (fun i _=>(intOf i+8).toNat)
 case atStart=>exact ⟨0,Nat.zero_le _,rfl,b2',kk2,oo2⟩
 case round =>
  obtain ⟨m,hm,rfl,br,kr,orr⟩:=hrel
  by_cases hlt:m<8
  ·have hlen:=beT_len N m
   have hst:beT N (m+1)=beT N m++[UInt8.ofNat (N / 256 ^ (7-m))]:=rfl
   obtain ⟨q,hq⟩:∃q,q=N / 256 ^ (7-m):=⟨_,rfl⟩
   have hqn:q≤1999999999999999999:=by rw [hq];exact Nat.le_trans (Nat.div_le_self _ _) HNB.out
   rw [←hq] at hst
   obtain ⟨c,hb⟩:∃c,c=UInt8.ofNat q:=⟨_,rfl⟩
   rw [←hb] at hst
   have hcv:IntKind.u8.wrap (q:Int)=(c.toNat:Int):=by
    have:c.toNat=q%256:=by rw [hb];simp [UInt8.toNat_ofNat']
    rw [this]
    show ((q:Int)%256)=_
    omega
   have hbl:=c.toNat_lt
   have hbm:(c.toNat:Int)%256=(c.toNat:Int):=by omega
   have hqb:(q:Int)%256=(c.toNat:Int):=by rw [←hcv];rfl
   have HS:=Hd hst
   have HB:=Hd hb
   have HL:=Hd hlen
   clear hst hb hlen
   have hm8:m=0∨m=1∨m=2∨m=3∨m=4∨m=5∨m=6∨m=7:=by omega
   rcases hm8 with rfl | rfl | rfl | rfl | rfl | rfl | rfl | rfl
   ·have hdv:z / 72057594037927936=(q:Int):=by
     rw [hq,HZN.out]
     show (N:Int) / 72057594037927936=((N / 72057594037927936:Nat):Int)
     omega
    clear hq hqn
    go_wp2_with fail
    refine (c_WriteByte B b (l++1::beT N 0) c wr br (by rw [List.length_append,List.length_cons,HL.out];omega) (by have:=kr.size;omega)).mono ?_
    rintro e w3 ⟨rfl,b3,k3,o3⟩
    go_wp2_with fail
    go_roundw
    case rel=>exact ⟨1,by omega,rfl,by rw [HS.out];simpa using b3,kr.trans k3,orr.trans o3⟩
    case measure=>simp [intOf];try omega
   ·have hdv:z / 281474976710656=(q:Int):=by
     rw [hq,HZN.out]
     show (N:Int) / 281474976710656=((N / 281474976710656:Nat):Int)
     omega
    clear hq hqn
    go_wp2_with fail
    refine (c_WriteByte B b (l++1::beT N 1) c wr br (by rw [List.length_append,List.length_cons,HL.out];omega) (by have:=kr.size;omega)).mono ?_
    rintro e w3 ⟨rfl,b3,k3,o3⟩
    go_wp2_with fail
    go_roundw
    case rel=>exact ⟨2,by omega,rfl,by rw [HS.out];simpa using b3,kr.trans k3,orr.trans o3⟩
    case measure=>simp [intOf];try omega
   ·have hdv:z / 1099511627776=(q:Int):=by
     rw [hq,HZN.out]
     show (N:Int) / 1099511627776=((N / 1099511627776:Nat):Int)
     omega
    clear hq hqn
    go_wp2_with fail
    refine (c_WriteByte B b (l++1::beT N 2) c wr br (by rw [List.length_append,List.length_cons,HL.out];omega) (by have:=kr.size;omega)).mono ?_
    rintro e w3 ⟨rfl,b3,k3,o3⟩
    go_wp2_with fail
    go_roundw
    case rel=>exact ⟨3,by omega,rfl,by rw [HS.out];simpa using b3,kr.trans k3,orr.trans o3⟩
    case measure=>simp [intOf];try omega
   ·have hdv:z / 4294967296=(q:Int):=by
     rw [hq,HZN.out]
     show (N:Int) / 4294967296=((N / 4294967296:Nat):Int)
     omega
    clear hq hqn
    go_wp2_with fail
    refine (c_WriteByte B b (l++1::beT N 3) c wr br (by rw [List.length_append,List.length_cons,HL.out];omega) (by have:=kr.size;omega)).mono ?_
    rintro e w3 ⟨rfl,b3,k3,o3⟩
    go_wp2_with fail
    go_roundw
    case rel=>exact ⟨4,by omega,rfl,by rw [HS.out];simpa using b3,kr.trans k3,orr.trans o3⟩
    case measure=>simp [intOf];try omega
   ·have hdv:z / 16777216=(q:Int):=by
     rw [hq,HZN.out]
     show (N:Int) / 16777216=((N / 16777216:Nat):Int)
     omega
    clear hq hqn
    go_wp2_with fail
    refine (c_WriteByte B b (l++1::beT N 4) c wr br (by rw [List.length_append,List.length_cons,HL.out];omega) (by have:=kr.size;omega)).mono ?_
    rintro e w3 ⟨rfl,b3,k3,o3⟩
    go_wp2_with fail
    go_roundw
    case rel=>exact ⟨5,by omega,rfl,by rw [HS.out];simpa using b3,kr.trans k3,orr.trans o3⟩
    case measure=>simp [intOf];try omega
   ·have hdv:z / 65536=(q:Int):=by
     rw [hq,HZN.out]
     show (N:Int) / 65536=((N / 65536:Nat):Int)
     omega
    clear hq hqn
    go_wp2_with fail
    refine (c_WriteByte B b (l++1::beT N 5) c wr br (by rw [List.length_append,List.length_cons,HL.out];omega) (by have:=kr.size;omega)).mono ?_
    rintro e w3 ⟨rfl,b3,k3,o3⟩
    go_wp2_with fail
    go_roundw
    case rel=>exact ⟨6,by omega,rfl,by rw [HS.out];simpa using b3,kr.trans k3,orr.trans o3⟩
    case measure=>simp [intOf];try omega
   ·have hdv:z / 256=(q:Int):=by
     rw [hq,HZN.out]
     show (N:Int) / 256=((N / 256:Nat):Int)
     omega
    clear hq hqn
    go_wp2_with fail
    refine (c_WriteByte B b (l++1::beT N 6) c wr br (by rw [List.length_append,List.length_cons,HL.out];omega) (by have:=kr.size;omega)).mono ?_
    rintro e w3 ⟨rfl,b3,k3,o3⟩
    go_wp2_with fail
    go_roundw
    case rel=>exact ⟨7,by omega,rfl,by rw [HS.out];simpa using b3,kr.trans k3,orr.trans o3⟩
    case measure=>simp [intOf];try omega
   ·have hdv:z / 1=(q:Int):=by
     rw [hq,HZN.out]
     show (N:Int) / 1=((N / 1:Nat):Int)
     omega
    clear hq hqn
    go_wp2_with fail
    refine (c_WriteByte B b (l++1::beT N 7) c wr br (by rw [List.length_append,List.length_cons,HL.out];omega) (by have:=kr.size;omega)).mono ?_
    rintro e w3 ⟨rfl,b3,k3,o3⟩
    go_wp2_with fail
    go_roundw
    case rel=>exact ⟨8,by omega,rfl,by rw [HS.out];simpa using b3,kr.trans k3,orr.trans o3⟩
    case measure=>simp [intOf];try omega
  ·obtain rfl:m=8:=by omega
   go_wp2_with fail
   refine bodyPost_ret (v:=.tuple #[]) (by simp [results,Tryz.results142,go_sem]) (by rfl) ?_
   exact ⟨rfl,by rw [HK.out];exact br,kr,orr⟩
theorem c_putSub (B b:Nat) (l:List UInt8) (s:ByteArray) (w:World) (h:Bld8 B b l w) (hs:s.size≤1048576) (hl:l.length≤1099511627776) (hBw:B≤w.heap.size) (hB0:0<B) (htab:Tab w) (hm:MaxL w) :
 Calls Tryz.prog 142 #[.pointer (some ⟨b,0,none⟩),.string s] w fun e w'=>e=.returned (.tuple #[])∧Stp B b (l++subKeyL s) w w':=by
 cases hc:canon s
 ·exact c_putSub2 B b l s w h hs hl hBw hB0 htab hm hc
 ·exact c_putSub1 B b l s w h hs hl hBw htab hc
end Go.Proofs.YtojmcmghmnfjeaaGreatDoor
