/-
  Contracts of the library, laid by the kit at this program.
-/
import Derived.Shelf.Strings.Builder1
import Derived.Shelf.Strings.Builder2
import Derived.Shelf.Strings.Trim
import Derived.Shelf.Small.Utf8
import Derived.Shelf.Small.Bits
import Derived.Shelf.Small.Strs
import Derived.Shelf.Small.Wraps
import Derived.Shelf.Strings.BuilderF
import Derived.Shelf.Strings.BuilderK
import Derived.Shelf.Strings.Builder2Cap
import Derived.Shelf.Strconv.Itoa0
import Derived.Shelf.Strconv.Itoa1
import Derived.Shelf.LaysM
import Derived.Shelf.Strconv.Itoa2
import Derived.Shelf.Strconv.Itoa3
import Derived.Shelf.Strconv.Itoa4
import Derived.Shelf.Strings.Search1
import Derived.Shelf.Strings.Search2
import Derived.Shelf.Strings.Search3
import Derived.Shelf.Strings.Cut
import Derived.Shelf.Strings.Count
import Derived.Shelf.Strings.Shaped
import Derived.Shelf.Strings.Prefix
import Derived.Shelf.Strings.Split
import Derived.Shelf.Strings.Replace
import Derived.Shelf.Strings.SplitShaped
import Derived.Shelf.Strings.Runes
import Derived.Shelf.Strings.AsciiSet
import Derived.Shelf.Unicode.DecodeSlow
import Derived.Test.YtmkpfjlbambhgaaGreatDoorProg
namespace Go.Proofs
open Go.Shelf
def Tryz.lays161_ren : Go.Shelf.Ren := ⟨fun | 161 => 349 | 231 => 366 | 227 => 359 | 233 => 367 | 235 => 368 | 228 => 377 | 197 => 381 | 151 => 379 | 260 => 390 | 152 => 388 | 137 => 393 | 119 => 394 | 224 => 336 | 225 => 335 | 217 => 334 | 266 => 355 | n => n, fun | 9 => 9 | 4 => 4 | 3 => 3 | 5 => 5 | 117 => 373 | 116 => 372 | 0 => 0 | 124 => 376 | 105 => 385 | 21 => 21 | 119 => 396 | 46 => 212 | 139 => 399 | 138 => 398 | n => n, fun | 3 => 2 | 4 => 3 | n => n⟩
theorem Tryz.lays161 : Go.Proofs.Lays.n161 Tryz.prog Tryz.lays161_ren := {
  mixed := by kernel_rfl
  f119 := Tryz.func394.trans (congrArg some (by kernel_rfl))
  f137 := Tryz.func393.trans (congrArg some (by kernel_rfl))
  f151 := Tryz.func379.trans (congrArg some (by kernel_rfl))
  f152 := Tryz.func388.trans (congrArg some (by kernel_rfl))
  f161 := Tryz.func349.trans (congrArg some (by kernel_rfl))
  f197 := Tryz.func381.trans (congrArg some (by kernel_rfl))
  f217 := Tryz.func334.trans (congrArg some (by kernel_rfl))
  f224 := Tryz.func336.trans (congrArg some (by kernel_rfl))
  f225 := Tryz.func335.trans (congrArg some (by kernel_rfl))
  f227 := Tryz.func359.trans (congrArg some (by kernel_rfl))
  f228 := Tryz.func377.trans (congrArg some (by kernel_rfl))
  f231 := Tryz.func366.trans (congrArg some (by kernel_rfl))
  f233 := Tryz.func367.trans (congrArg some (by kernel_rfl))
  f235 := Tryz.func368.trans (congrArg some (by kernel_rfl))
  f260 := Tryz.func390.trans (congrArg some (by kernel_rfl))
  f266 := Tryz.func355.trans (congrArg some (by kernel_rfl))
  t0 := Tryz.underlying0
  a0 := Tryz.isAgg0
  z0 := Tryz.sizeOf0
  v0 := Tryz.zeroValue0
  t3 := Tryz.underlying3
  a3 := Tryz.isAgg3
  z3 := Tryz.sizeOf3
  v3 := Tryz.zeroValue3
  t4 := Tryz.underlying4
  a4 := Tryz.isAgg4
  z4 := Tryz.sizeOf4
  v4 := Tryz.zeroValue4
  t5 := Tryz.underlying5
  a5 := Tryz.isAgg5
  z5 := Tryz.sizeOf5
  v5 := Tryz.zeroValue5
  t9 := Tryz.underlying9
  a9 := Tryz.isAgg9
  z9 := Tryz.sizeOf9
  v9 := Tryz.zeroValue9
  t21 := Tryz.underlying21
  a21 := Tryz.isAgg21
  z21 := Tryz.sizeOf21
  v21 := Tryz.zeroValue21
  t46 := Tryz.underlying212
  a46 := Tryz.isAgg212
  z46 := Tryz.sizeOf212
  v46 := Tryz.zeroValue212
  t105 := Tryz.underlying385
  a105 := Tryz.isAgg385
  z105 := Tryz.sizeOf385
  v105 := Tryz.zeroValue385
  t116 := Tryz.underlying372
  a116 := Tryz.isAgg372
  z116 := Tryz.sizeOf372
  t117 := Tryz.underlying373
  a117 := Tryz.isAgg373
  z117 := Tryz.sizeOf373
  v117 := Tryz.zeroValue373
  t119 := Tryz.underlying396
  a119 := Tryz.isAgg396
  z119 := Tryz.sizeOf396
  t124 := Tryz.underlying376
  a124 := Tryz.isAgg376
  z124 := Tryz.sizeOf376
  v124 := Tryz.zeroValue376
  t138 := Tryz.underlying398
  a138 := Tryz.isAgg398
  z138 := Tryz.sizeOf398
  v138 := Tryz.zeroValue398
  t139 := Tryz.underlying399
  a139 := Tryz.isAgg399
  z139 := Tryz.sizeOf399
  v139 := Tryz.zeroValue399
  g3 := by kernel_rfl
  g4 := by kernel_rfl }
open Go.RowKit in

theorem Tryz.strings_TrimLeft_one (s : ByteArray) (c : UInt8) (hc : c.toNat < 128) (w : World) :
    Calls Tryz.prog 349 #[.string s, .string ⟨#[c]⟩] w fun e w' => e = .returned (.string ⟨(Lib.trimLeftB s.data.toList c).toArray⟩) ∧ w' = w := Any.strings_TrimLeft_one Tryz.lays161 s c hc w
def Tryz.lays162_ren : Go.Shelf.Ren := ⟨fun | 162 => 340 | 232 => 358 | 227 => 359 | 234 => 360 | 236 => 361 | 228 => 377 | 271 => 378 | 151 => 379 | 120 => 387 | 197 => 381 | 152 => 388 | 260 => 390 | 137 => 393 | 119 => 394 | 224 => 336 | 225 => 335 | 217 => 334 | 266 => 355 | n => n, fun | 9 => 9 | 4 => 4 | 3 => 3 | 5 => 5 | 117 => 373 | 116 => 372 | 0 => 0 | 124 => 376 | 21 => 21 | 105 => 385 | 46 => 212 | 119 => 396 | 139 => 399 | 138 => 398 | n => n, fun | 3 => 2 | 4 => 3 | n => n⟩
theorem Tryz.lays162 : Go.Proofs.Lays.n162 Tryz.prog Tryz.lays162_ren := {
  mixed := by kernel_rfl
  f119 := Tryz.func394.trans (congrArg some (by kernel_rfl))
  f120 := Tryz.func387.trans (congrArg some (by kernel_rfl))
  f137 := Tryz.func393.trans (congrArg some (by kernel_rfl))
  f151 := Tryz.func379.trans (congrArg some (by kernel_rfl))
  f152 := Tryz.func388.trans (congrArg some (by kernel_rfl))
  f162 := Tryz.func340.trans (congrArg some (by kernel_rfl))
  f197 := Tryz.func381.trans (congrArg some (by kernel_rfl))
  f217 := Tryz.func334.trans (congrArg some (by kernel_rfl))
  f224 := Tryz.func336.trans (congrArg some (by kernel_rfl))
  f225 := Tryz.func335.trans (congrArg some (by kernel_rfl))
  f227 := Tryz.func359.trans (congrArg some (by kernel_rfl))
  f228 := Tryz.func377.trans (congrArg some (by kernel_rfl))
  f232 := Tryz.func358.trans (congrArg some (by kernel_rfl))
  f234 := Tryz.func360.trans (congrArg some (by kernel_rfl))
  f236 := Tryz.func361.trans (congrArg some (by kernel_rfl))
  f260 := Tryz.func390.trans (congrArg some (by kernel_rfl))
  f266 := Tryz.func355.trans (congrArg some (by kernel_rfl))
  f271 := Tryz.func378.trans (congrArg some (by kernel_rfl))
  t0 := Tryz.underlying0
  a0 := Tryz.isAgg0
  z0 := Tryz.sizeOf0
  v0 := Tryz.zeroValue0
  t3 := Tryz.underlying3
  a3 := Tryz.isAgg3
  z3 := Tryz.sizeOf3
  v3 := Tryz.zeroValue3
  t4 := Tryz.underlying4
  a4 := Tryz.isAgg4
  z4 := Tryz.sizeOf4
  v4 := Tryz.zeroValue4
  t5 := Tryz.underlying5
  a5 := Tryz.isAgg5
  z5 := Tryz.sizeOf5
  v5 := Tryz.zeroValue5
  t9 := Tryz.underlying9
  a9 := Tryz.isAgg9
  z9 := Tryz.sizeOf9
  v9 := Tryz.zeroValue9
  t21 := Tryz.underlying21
  a21 := Tryz.isAgg21
  z21 := Tryz.sizeOf21
  v21 := Tryz.zeroValue21
  t46 := Tryz.underlying212
  a46 := Tryz.isAgg212
  z46 := Tryz.sizeOf212
  v46 := Tryz.zeroValue212
  t105 := Tryz.underlying385
  a105 := Tryz.isAgg385
  z105 := Tryz.sizeOf385
  v105 := Tryz.zeroValue385
  t116 := Tryz.underlying372
  a116 := Tryz.isAgg372
  z116 := Tryz.sizeOf372
  t117 := Tryz.underlying373
  a117 := Tryz.isAgg373
  z117 := Tryz.sizeOf373
  v117 := Tryz.zeroValue373
  t119 := Tryz.underlying396
  a119 := Tryz.isAgg396
  z119 := Tryz.sizeOf396
  t124 := Tryz.underlying376
  a124 := Tryz.isAgg376
  z124 := Tryz.sizeOf376
  v124 := Tryz.zeroValue376
  t138 := Tryz.underlying398
  a138 := Tryz.isAgg398
  z138 := Tryz.sizeOf398
  v138 := Tryz.zeroValue398
  t139 := Tryz.underlying399
  a139 := Tryz.isAgg399
  z139 := Tryz.sizeOf399
  v139 := Tryz.zeroValue399
  g3 := by kernel_rfl
  g4 := by kernel_rfl }
open Go.RowKit in

theorem Tryz.strings_TrimRight_one (s : ByteArray) (c : UInt8) (hc : c.toNat < 128) (w : World) (hs : s.size ≤ 9223372036854775807) :
    Calls Tryz.prog 340 #[.string s, .string ⟨#[c]⟩] w fun e w' => e = .returned (.string ⟨(Lib.trimRightB s.data.toList c).toArray⟩) ∧ w' = w := Any.strings_TrimRight_one Tryz.lays162 s c hc w hs
def Tryz.lays103_ren : Go.Shelf.Ren := ⟨fun | 103 => 352 | 210 => 372 | 206 => 382 | n => n, fun | 9 => 9 | 4 => 4 | 24 => 364 | 3 => 3 | n => n, fun | n => n⟩
theorem Tryz.lays103 : Go.Proofs.Lays.n103 Tryz.prog Tryz.lays103_ren := {
  mixed := by kernel_rfl
  f103 := Tryz.func352.trans (congrArg some (by kernel_rfl))
  f206 := Tryz.func382.trans (congrArg some (by kernel_rfl))
  f210 := Tryz.func372.trans (congrArg some (by kernel_rfl))
  t3 := Tryz.underlying3
  a3 := Tryz.isAgg3
  z3 := Tryz.sizeOf3
  v3 := Tryz.zeroValue3
  t4 := Tryz.underlying4
  a4 := Tryz.isAgg4
  z4 := Tryz.sizeOf4
  v4 := Tryz.zeroValue4
  t9 := Tryz.underlying9
  a9 := Tryz.isAgg9
  z9 := Tryz.sizeOf9
  v9 := Tryz.zeroValue9
  t24 := Tryz.underlying364
  a24 := Tryz.isAgg364
  z24 := Tryz.sizeOf364
  v24 := Tryz.zeroValue364 }
open Go.RowKit in

theorem Tryz.strings_CutPrefix (s p : ByteArray) (w : World) :
    Calls Tryz.prog 352 #[.string s, .string p] w fun e w' => e = .returned (.tuple #[.string ⟨(Lib.trimPrefix s.data.toList p.data.toList).toArray⟩, .bool (Lib.hasPrefix s.data.toList p.data.toList)]) ∧ w' = w := Any.strings_CutPrefix Tryz.lays103 s p w
def Tryz.laysM173_ren : Go.Shelf.Ren := ⟨fun | 173 => 339 | 246 => 357 | 283 => 373 | 284 => 374 | 285 => 375 | 286 => 376 | 129 => 217 | 317 => 383 | 318 => 384 | 319 => 385 | 320 => 386 | 337 => 391 | 338 => 392 | n => n, fun | 2 => 2 | 3 => 3 | 9 => 9 | 4 => 4 | 171 => 381 | 0 => 0 | 53 => 273 | 37 => 191 | 5 => 5 | 173 => 383 | 212 => 390 | 51 => 271 | 20 => 20 | 213 => 391 | 46 => 212 | 232 => 400 | 233 => 401 | n => n, fun | 17 => 1 | 18 => 4 | 19 => 5 | n => n⟩
theorem Tryz.laysM173 : Go.Proofs.LaysM.n173 Tryz.prog Tryz.laysM173_ren := {
  mixed := by kernel_rfl
  f129 := Tryz.func217.trans (congrArg some (by kernel_rfl))
  f173 := Tryz.func339.trans (congrArg some (by kernel_rfl))
  f246 := Tryz.func357.trans (congrArg some (by kernel_rfl))
  f283 := Tryz.func373.trans (congrArg some (by kernel_rfl))
  f284 := Tryz.func374.trans (congrArg some (by kernel_rfl))
  f285 := Tryz.func375.trans (congrArg some (by kernel_rfl))
  f286 := Tryz.func376.trans (congrArg some (by kernel_rfl))
  f317 := Tryz.func383.trans (congrArg some (by kernel_rfl))
  f318 := Tryz.func384.trans (congrArg some (by kernel_rfl))
  f319 := Tryz.func385.trans (congrArg some (by kernel_rfl))
  f320 := Tryz.func386.trans (congrArg some (by kernel_rfl))
  f337 := Tryz.func391.trans (congrArg some (by kernel_rfl))
  f338 := Tryz.func392.trans (congrArg some (by kernel_rfl))
  t0 := Tryz.underlying0
  a0 := Tryz.isAgg0
  z0 := Tryz.sizeOf0
  v0 := Tryz.zeroValue0
  t2 := Tryz.underlying2
  a2 := Tryz.isAgg2
  z2 := Tryz.sizeOf2
  v2 := Tryz.zeroValue2
  t3 := Tryz.underlying3
  a3 := Tryz.isAgg3
  z3 := Tryz.sizeOf3
  v3 := Tryz.zeroValue3
  t4 := Tryz.underlying4
  a4 := Tryz.isAgg4
  z4 := Tryz.sizeOf4
  v4 := Tryz.zeroValue4
  t5 := Tryz.underlying5
  a5 := Tryz.isAgg5
  z5 := Tryz.sizeOf5
  v5 := Tryz.zeroValue5
  t9 := Tryz.underlying9
  a9 := Tryz.isAgg9
  z9 := Tryz.sizeOf9
  v9 := Tryz.zeroValue9
  t20 := Tryz.underlying20
  a20 := Tryz.isAgg20
  z20 := Tryz.sizeOf20
  v20 := Tryz.zeroValue20
  t37 := Tryz.underlying191
  a37 := Tryz.isAgg191
  z37 := Tryz.sizeOf191
  v37 := Tryz.zeroValue191
  t46 := Tryz.underlying212
  a46 := Tryz.isAgg212
  z46 := Tryz.sizeOf212
  v46 := Tryz.zeroValue212
  t51 := Tryz.underlying271
  a51 := Tryz.isAgg271
  z51 := Tryz.sizeOf271
  v51 := Tryz.zeroValue271
  t53 := Tryz.underlying273
  a53 := Tryz.isAgg273
  z53 := Tryz.sizeOf273
  v53 := Tryz.zeroValue273
  t171 := Tryz.underlying381
  a171 := Tryz.isAgg381
  z171 := Tryz.sizeOf381
  v171 := Tryz.zeroValue381
  t173 := Tryz.underlying383
  a173 := Tryz.isAgg383
  z173 := Tryz.sizeOf383
  v173 := Tryz.zeroValue383
  t212 := Tryz.underlying390
  a212 := Tryz.isAgg390
  z212 := Tryz.sizeOf390
  v212 := Tryz.zeroValue390
  t213 := Tryz.underlying391
  a213 := Tryz.isAgg391
  z213 := Tryz.sizeOf391
  t232 := Tryz.underlying400
  a232 := Tryz.isAgg400
  z232 := Tryz.sizeOf400
  v232 := Tryz.zeroValue400
  t233 := Tryz.underlying401
  a233 := Tryz.isAgg401
  z233 := Tryz.sizeOf401
  v233 := Tryz.zeroValue401
  g17 := by kernel_rfl
  g18 := by kernel_rfl
  g19 := by kernel_rfl
  i0 := by kernel_rfl
  i2 := by kernel_rfl
  i3 := by kernel_rfl
  i4 := by kernel_rfl
  i5 := by kernel_rfl
  i9 := by kernel_rfl
  i20 := by kernel_rfl
  i37 := by kernel_rfl
  i46 := by kernel_rfl
  i51 := by kernel_rfl
  i53 := by kernel_rfl
  i171 := by kernel_rfl
  i173 := by kernel_rfl
  i212 := by kernel_rfl
  i232 := by kernel_rfl
  i233 := by kernel_rfl
  m17 := by kernel_rfl
  m18 := by kernel_rfl
  m19 := by kernel_rfl }
open Go.RowKit Go.Sort Go.Lib in

theorem Tryz.strconv_FormatInt_10 (n : Int) (h0 : -9223372036854775808 ≤ n) (h1 : n ≤ 9223372036854775807) (w : World) (htab : Lib.TabIs Tryz.prog w "internal/strconv.uint64pow10" .u64 Lib.pow10Tab) :
    Calls Tryz.prog 339 #[.int .i64 n, .int .i64 10] w fun e w' => e = .returned (.string ⟨(Lib.itoa n).toArray⟩) ∧ ∃ k os, w' = grow (w.drewN k) os := Any.strconv_FormatInt_10 Tryz.laysM173 n h0 h1 w htab
def Tryz.lays145_ren : Go.Shelf.Ren := ⟨fun | 145 => 197 | 220 => 266 | 219 => 308 | 217 => 334 | 225 => 335 | 224 => 336 | 267 => 337 | 266 => 355 | 314 => 356 | n => n, fun | 9 => 9 | 4 => 4 | 59 => 256 | 3 => 3 | 5 => 5 | 46 => 212 | 146 => 368 | 51 => 271 | n => n, fun | 1 => 0 | n => n⟩
theorem Tryz.lays145 : Go.Proofs.Lays.n145 Tryz.prog Tryz.lays145_ren := {
  mixed := by kernel_rfl
  f145 := Tryz.func197.trans (congrArg some (by kernel_rfl))
  f217 := Tryz.func334.trans (congrArg some (by kernel_rfl))
  f219 := Tryz.func308.trans (congrArg some (by kernel_rfl))
  f220 := Tryz.func266.trans (congrArg some (by kernel_rfl))
  f224 := Tryz.func336.trans (congrArg some (by kernel_rfl))
  f225 := Tryz.func335.trans (congrArg some (by kernel_rfl))
  f266 := Tryz.func355.trans (congrArg some (by kernel_rfl))
  f267 := Tryz.func337.trans (congrArg some (by kernel_rfl))
  f314 := Tryz.func356.trans (congrArg some (by kernel_rfl))
  t3 := Tryz.underlying3
  a3 := Tryz.isAgg3
  z3 := Tryz.sizeOf3
  v3 := Tryz.zeroValue3
  t4 := Tryz.underlying4
  a4 := Tryz.isAgg4
  z4 := Tryz.sizeOf4
  v4 := Tryz.zeroValue4
  t5 := Tryz.underlying5
  a5 := Tryz.isAgg5
  z5 := Tryz.sizeOf5
  v5 := Tryz.zeroValue5
  t9 := Tryz.underlying9
  a9 := Tryz.isAgg9
  z9 := Tryz.sizeOf9
  v9 := Tryz.zeroValue9
  t46 := Tryz.underlying212
  a46 := Tryz.isAgg212
  z46 := Tryz.sizeOf212
  v46 := Tryz.zeroValue212
  t51 := Tryz.underlying271
  a51 := Tryz.isAgg271
  z51 := Tryz.sizeOf271
  v51 := Tryz.zeroValue271
  t59 := Tryz.underlying256
  a59 := Tryz.isAgg256
  z59 := Tryz.sizeOf256
  v59 := Tryz.zeroValue256
  t146 := Tryz.underlying368
  a146 := Tryz.isAgg368
  z146 := Tryz.sizeOf368
  v146 := Tryz.zeroValue368
  g1 := by kernel_rfl }
open Go.RowKit Go.Lib in

theorem Tryz.strings_Cut (s sep : ByteArray) (m : Int) (w : World) (hs : s.size < 4294967281) (hm : w.cell? ⟨0, 0, none⟩ = some (.int .i64 m)) :
    Calls Tryz.prog 197 #[.string s, .string sep] w fun e w' => e = .returned (.tuple #[.string ⟨(Lib.cut s.data.toList sep.data.toList).1.toArray⟩, .string ⟨(Lib.cut s.data.toList sep.data.toList).2.1.toArray⟩, .bool (Lib.cut s.data.toList sep.data.toList).2.2]) ∧ ∃ n, w' = w.drewN n := Any.strings_Cut Tryz.lays145 s sep m w hs hm
def Tryz.lays138_ren : Go.Shelf.Ren := ⟨fun | 138 => 350 | 195 => 369 | 218 => 370 | 143 => 371 | 219 => 308 | 217 => 334 | 225 => 335 | 224 => 336 | 267 => 337 | 266 => 355 | 314 => 356 | n => n, fun | 9 => 9 | 3 => 3 | 4 => 4 | 5 => 5 | 0 => 0 | 46 => 212 | 146 => 368 | 51 => 271 | n => n, fun | 1 => 0 | n => n⟩
theorem Tryz.lays138 : Go.Proofs.Lays.n138 Tryz.prog Tryz.lays138_ren := {
  mixed := by kernel_rfl
  f138 := Tryz.func350.trans (congrArg some (by kernel_rfl))
  f143 := Tryz.func371.trans (congrArg some (by kernel_rfl))
  f195 := Tryz.func369.trans (congrArg some (by kernel_rfl))
  f217 := Tryz.func334.trans (congrArg some (by kernel_rfl))
  f218 := Tryz.func370.trans (congrArg some (by kernel_rfl))
  f219 := Tryz.func308.trans (congrArg some (by kernel_rfl))
  f224 := Tryz.func336.trans (congrArg some (by kernel_rfl))
  f225 := Tryz.func335.trans (congrArg some (by kernel_rfl))
  f266 := Tryz.func355.trans (congrArg some (by kernel_rfl))
  f267 := Tryz.func337.trans (congrArg some (by kernel_rfl))
  f314 := Tryz.func356.trans (congrArg some (by kernel_rfl))
  t0 := Tryz.underlying0
  a0 := Tryz.isAgg0
  z0 := Tryz.sizeOf0
  v0 := Tryz.zeroValue0
  t3 := Tryz.underlying3
  a3 := Tryz.isAgg3
  z3 := Tryz.sizeOf3
  v3 := Tryz.zeroValue3
  t4 := Tryz.underlying4
  a4 := Tryz.isAgg4
  z4 := Tryz.sizeOf4
  v4 := Tryz.zeroValue4
  t5 := Tryz.underlying5
  a5 := Tryz.isAgg5
  z5 := Tryz.sizeOf5
  v5 := Tryz.zeroValue5
  t9 := Tryz.underlying9
  a9 := Tryz.isAgg9
  z9 := Tryz.sizeOf9
  v9 := Tryz.zeroValue9
  t46 := Tryz.underlying212
  a46 := Tryz.isAgg212
  z46 := Tryz.sizeOf212
  v46 := Tryz.zeroValue212
  t51 := Tryz.underlying271
  a51 := Tryz.isAgg271
  z51 := Tryz.sizeOf271
  v51 := Tryz.zeroValue271
  t146 := Tryz.underlying368
  a146 := Tryz.isAgg368
  z146 := Tryz.sizeOf368
  v146 := Tryz.zeroValue368
  g1 := by kernel_rfl }
open Go.RowKit Go.Lib in

theorem Tryz.strings_Count_one (s : ByteArray) (c : UInt8) (w : World) :
    Calls Tryz.prog 350 #[.string s, .string ⟨#[c]⟩] w fun e w' => e = .returned (.int .i64 (Lib.countByte s.data.toList c)) ∧ w' = w := Any.strings_Count_one Tryz.lays138 s c w
def Tryz.lays155_ren : Go.Shelf.Ren := ⟨fun | 155 => 343 | 154 => 363 | 138 => 350 | 165 => 380 | 143 => 371 | 166 => 342 | 197 => 381 | 169 => 311 | 195 => 369 | 218 => 370 | 240 => 341 | 241 => 389 | 219 => 308 | 260 => 390 | 276 => 362 | 277 => 395 | 217 => 334 | 225 => 335 | 224 => 336 | 267 => 337 | 266 => 355 | 314 => 356 | n => n, fun | 9 => 9 | 3 => 3 | 4 => 4 | 72 => 337 | 0 => 0 | 76 => 360 | 105 => 385 | 21 => 21 | 5 => 5 | 70 => 335 | 20 => 20 | 37 => 191 | 75 => 339 | 127 => 359 | 164 => 377 | 46 => 212 | 119 => 396 | 139 => 399 | 138 => 398 | 146 => 368 | 51 => 271 | 80 => 341 | n => n, fun | 1 => 0 | 3 => 2 | 4 => 3 | n => n⟩
theorem Tryz.lays155 : Go.Proofs.Lays.n155 Tryz.prog Tryz.lays155_ren := {
  mixed := by kernel_rfl
  f138 := Tryz.func350.trans (congrArg some (by kernel_rfl))
  f143 := Tryz.func371.trans (congrArg some (by kernel_rfl))
  f154 := Tryz.func363.trans (congrArg some (by kernel_rfl))
  f155 := Tryz.func343.trans (congrArg some (by kernel_rfl))
  f165 := Tryz.func380.trans (congrArg some (by kernel_rfl))
  f166 := Tryz.func342.trans (congrArg some (by kernel_rfl))
  f169 := Tryz.func311.trans (congrArg some (by kernel_rfl))
  f195 := Tryz.func369.trans (congrArg some (by kernel_rfl))
  f197 := Tryz.func381.trans (congrArg some (by kernel_rfl))
  f217 := Tryz.func334.trans (congrArg some (by kernel_rfl))
  f218 := Tryz.func370.trans (congrArg some (by kernel_rfl))
  f219 := Tryz.func308.trans (congrArg some (by kernel_rfl))
  f224 := Tryz.func336.trans (congrArg some (by kernel_rfl))
  f225 := Tryz.func335.trans (congrArg some (by kernel_rfl))
  f240 := Tryz.func341.trans (congrArg some (by kernel_rfl))
  f241 := Tryz.func389.trans (congrArg some (by kernel_rfl))
  f260 := Tryz.func390.trans (congrArg some (by kernel_rfl))
  f266 := Tryz.func355.trans (congrArg some (by kernel_rfl))
  f267 := Tryz.func337.trans (congrArg some (by kernel_rfl))
  f276 := Tryz.func362.trans (congrArg some (by kernel_rfl))
  f277 := Tryz.func395.trans (congrArg some (by kernel_rfl))
  f314 := Tryz.func356.trans (congrArg some (by kernel_rfl))
  t0 := Tryz.underlying0
  a0 := Tryz.isAgg0
  z0 := Tryz.sizeOf0
  v0 := Tryz.zeroValue0
  t3 := Tryz.underlying3
  a3 := Tryz.isAgg3
  z3 := Tryz.sizeOf3
  v3 := Tryz.zeroValue3
  t4 := Tryz.underlying4
  a4 := Tryz.isAgg4
  z4 := Tryz.sizeOf4
  v4 := Tryz.zeroValue4
  t5 := Tryz.underlying5
  a5 := Tryz.isAgg5
  z5 := Tryz.sizeOf5
  v5 := Tryz.zeroValue5
  t9 := Tryz.underlying9
  a9 := Tryz.isAgg9
  z9 := Tryz.sizeOf9
  v9 := Tryz.zeroValue9
  t20 := Tryz.underlying20
  a20 := Tryz.isAgg20
  z20 := Tryz.sizeOf20
  v20 := Tryz.zeroValue20
  t21 := Tryz.underlying21
  a21 := Tryz.isAgg21
  z21 := Tryz.sizeOf21
  v21 := Tryz.zeroValue21
  t37 := Tryz.underlying191
  a37 := Tryz.isAgg191
  z37 := Tryz.sizeOf191
  v37 := Tryz.zeroValue191
  t46 := Tryz.underlying212
  a46 := Tryz.isAgg212
  z46 := Tryz.sizeOf212
  v46 := Tryz.zeroValue212
  t51 := Tryz.underlying271
  a51 := Tryz.isAgg271
  z51 := Tryz.sizeOf271
  v51 := Tryz.zeroValue271
  t70 := Tryz.underlying335
  a70 := Tryz.isAgg335
  z70 := Tryz.sizeOf335
  v70 := Tryz.zeroValue335
  t72 := Tryz.underlying337
  a72 := Tryz.isAgg337
  z72 := Tryz.sizeOf337
  v72 := Tryz.zeroValue337
  t75 := Tryz.underlying339
  a75 := Tryz.isAgg339
  z75 := Tryz.sizeOf339
  v75 := Tryz.zeroValue339
  t76 := Tryz.underlying360
  a76 := Tryz.isAgg360
  z76 := Tryz.sizeOf360
  v76 := Tryz.zeroValue360
  t105 := Tryz.underlying385
  a105 := Tryz.isAgg385
  z105 := Tryz.sizeOf385
  v105 := Tryz.zeroValue385
  t119 := Tryz.underlying396
  a119 := Tryz.isAgg396
  z119 := Tryz.sizeOf396
  t127 := Tryz.underlying359
  a127 := Tryz.isAgg359
  z127 := Tryz.sizeOf359
  v127 := Tryz.zeroValue359
  t138 := Tryz.underlying398
  a138 := Tryz.isAgg398
  z138 := Tryz.sizeOf398
  v138 := Tryz.zeroValue398
  t139 := Tryz.underlying399
  a139 := Tryz.isAgg399
  z139 := Tryz.sizeOf399
  v139 := Tryz.zeroValue399
  t146 := Tryz.underlying368
  a146 := Tryz.isAgg368
  z146 := Tryz.sizeOf368
  v146 := Tryz.zeroValue368
  t164 := Tryz.underlying377
  a164 := Tryz.isAgg377
  z164 := Tryz.sizeOf377
  v164 := Tryz.zeroValue377
  g1 := by kernel_rfl
  g3 := by kernel_rfl
  g4 := by kernel_rfl }
theorem Tryz.Builder_Extra_155 : Builder.Extra Tryz.prog Tryz.lays155_ren := {
  sizeBuilder := by kernel_rfl
  liesBuilder := by kernel_rfl
  t5 := Tryz.underlying5
  a5 := Tryz.isAgg5
  z5 := Tryz.sizeOf5
  v5 := Tryz.zeroValue5
  infoByte := by kernel_rfl
  cellsByte := by kernel_rfl
  sizeByte := by kernel_rfl
  neB5 := by decide }
open Go.RowKit Go.Lib in

theorem Tryz.strings_ReplaceAll (s old new : ByteArray) (m : Int) (w : World) (hs : s.size < 4294967281) (hm : w.cell? ⟨0, 0, none⟩ = some (.int .i64 m)) (h1 : 1 ≤ old.size) (hlen : s.size + Lib.countB s old * new.size ≤ 140737488355328) :
    Calls Tryz.prog 343 #[.string s, .string old, .string new] w fun e w' =>
      e = .returned (.string ⟨(Lib.replaceAll s.data.toList old.data.toList new.data.toList).toArray⟩) ∧ Below w.heap.size w w' := Any.strings_ReplaceAll Tryz.lays155 Tryz.Builder_Extra_155 s old new m w hs hm h1 hlen
end Go.Proofs
