/- The library's contracts at this program, laid: printed by the kit's tool. -/
import Derived.Shelf.Strings.Builder1
import Derived.Shelf.Strings.Trim
import Derived.Shelf.Small.Utf8
import Derived.Shelf.Small.Bits
import Derived.Shelf.Small.Strs
import Derived.Shelf.Small.Wraps
import Derived.Shelf.Strings.BuilderF
import Derived.Shelf.Strings.BuilderK
import Derived.Shelf.Strconv.Atoi
import Derived.Shelf.Strconv.Itoa0
import Derived.Shelf.Strconv.Itoa1
import Derived.Shelf.LaysM
import Derived.Shelf.Strconv.Itoa2
import Derived.Shelf.Strconv.Itoa3
import Derived.Shelf.Strconv.AtoiErrFast
import Derived.Shelf.Strconv.ParseIntEmpty
import Derived.Shelf.Strconv.AtoiFail
import Derived.Shelf.Strconv.Clone
import Derived.Shelf.Strconv.SyntaxError
import Derived.Shelf.LaysC
import Derived.Shelf.Strconv.ToError
import Derived.Shelf.Strconv.Lower
import Derived.Shelf.Strconv.ParseUint10
import Derived.Shelf.Strconv.ParseUint10Empty
import Derived.Shelf.Strconv.ParseUint10Any
import Derived.Shelf.Strconv.ParseInt10
import Derived.Shelf.Strconv.AtoiLong
import Derived.Shelf.Strconv.AtoiInnerAll
import Derived.Shelf.Strconv.RangeError
import Derived.Shelf.Strconv.ToErrorRange
import Derived.Shelf.Strconv.AtoiAll
import Derived.Shelf.Strconv.ErrVarAll
import Derived.Shelf.Strings.Search1
import Derived.Shelf.Strings.Search2
import Derived.Shelf.Strings.Cut
import Derived.Shelf.Strings.Shaped
import Derived.Shelf.Strings.Prefix
import Derived.Shelf.Strings.Runes
import Derived.Shelf.Strings.AsciiSet
import Derived.Shelf.Bits.Mul64
import Derived.Shelf.Unicode.DecodeSlow
import Derived.Ground.SlgmProg
import Derived.Shelf.SortM.Plain
import Derived.Shelf.SortM.SortNone
import Derived.Test.YtamgiojcbdbokaaGreatDoorProg
import Derived.Test.YtamgiojcbdbokaaGreatDoorD5
import Derived.Test.YtamgiojcbdbokaaGreatDoorBTW
import Derived.WalkKit
import Derived.Shelf.SlSortCmp.NoneTotal
import Derived.Shelf.SlicesG.Cmp
import Derived.Shelf.SlGeneric
import Derived.Ground.SlsfProg
import Derived.Ground.SlgcProg
import Derived.Shelf.SlIterI.Sorted
import Derived.Ground.GgzProg
import Derived.Test.YtamgiojcbdbokaaGreatDoorFw2
import Derived.RangeFuncNested
import Derived.RangeFuncBound
import Derived.Shelf.Abstract
import Derived.Shelf.RegionOpen
import Derived.OwnWalkIn
import Derived.TacticsInMore
import Derived.LoopNIn
import Derived.LoopIn
namespace Go.Proofs
open Go.Shelf
def Tryz.lays160_ren : Go.Shelf.Ren := ⟨fun | 160 => 96 | 232 => 131 | 231 => 130 | 227 => 132 | 234 => 134 | 233 => 133 | 236 => 136 | 235 => 135 | 228 => 166 | 271 => 169 | 151 => 168 | 197 => 167 | 120 => 185 | 152 => 184 | 260 => 183 | 137 => 81 | 119 => 190 | 224 => 175 | 225 => 174 | 217 => 107 | 266 => 149 | n => n, fun | 9 => 9 | 4 => 4 | 3 => 3 | 5 => 5 | 117 => 190 | 116 => 189 | 0 => 0 | 124 => 193 | 21 => 21 | 105 => 224 | 46 => 127 | 119 => 255 | 139 => 258 | 138 => 257 | n => n, fun | 3 => 6 | 4 => 7 | n => n⟩
theorem Tryz.lays160 : Go.Proofs.Lays.n160 Tryz.prog Tryz.lays160_ren := {
 mixed := by kernel_rfl
 f119 := Tryz.func190.trans (congrArg some (by kernel_rfl))
 f120 := Tryz.func185.trans (congrArg some (by kernel_rfl))
 f137 := Tryz.func81.trans (congrArg some (by kernel_rfl))
 f151 := Tryz.func168.trans (congrArg some (by kernel_rfl))
 f152 := Tryz.func184.trans (congrArg some (by kernel_rfl))
 f160 := Tryz.func96.trans (congrArg some (by kernel_rfl))
 f197 := Tryz.func167.trans (congrArg some (by kernel_rfl))
 f217 := Tryz.func107.trans (congrArg some (by kernel_rfl))
 f224 := Tryz.func175.trans (congrArg some (by kernel_rfl))
 f225 := Tryz.func174.trans (congrArg some (by kernel_rfl))
 f227 := Tryz.func132.trans (congrArg some (by kernel_rfl))
 f228 := Tryz.func166.trans (congrArg some (by kernel_rfl))
 f231 := Tryz.func130.trans (congrArg some (by kernel_rfl))
 f232 := Tryz.func131.trans (congrArg some (by kernel_rfl))
 f233 := Tryz.func133.trans (congrArg some (by kernel_rfl))
 f234 := Tryz.func134.trans (congrArg some (by kernel_rfl))
 f235 := Tryz.func135.trans (congrArg some (by kernel_rfl))
 f236 := Tryz.func136.trans (congrArg some (by kernel_rfl))
 f260 := Tryz.func183.trans (congrArg some (by kernel_rfl))
 f266 := Tryz.func149.trans (congrArg some (by kernel_rfl))
 f271 := Tryz.func169.trans (congrArg some (by kernel_rfl))
 t0 := Tryz.underlying0
 a0 := Tryz.isAgg0
 z0 := Tryz.sizeOf0
 v0 := Tryz.zeroValue0
 t3 := Tryz.underlying3
 a3 := Tryz.isAgg3
 z3 := Tryz.sizeOf3
 v3 := Tryz.zeroValue3
 t4 := Tryz.underlying4
 a4 := Tryz.isAgg4
 z4 := Tryz.sizeOf4
 v4 := Tryz.zeroValue4
 t5 := Tryz.underlying5
 a5 := Tryz.isAgg5
 z5 := Tryz.sizeOf5
 v5 := Tryz.zeroValue5
 t9 := Tryz.underlying9
 a9 := Tryz.isAgg9
 z9 := Tryz.sizeOf9
 v9 := Tryz.zeroValue9
 t21 := Tryz.underlying21
 a21 := Tryz.isAgg21
 z21 := Tryz.sizeOf21
 v21 := Tryz.zeroValue21
 t46 := Tryz.underlying127
 a46 := Tryz.isAgg127
 z46 := Tryz.sizeOf127
 v46 := Tryz.zeroValue127
 t105 := Tryz.underlying224
 a105 := Tryz.isAgg224
 z105 := Tryz.sizeOf224
 v105 := Tryz.zeroValue224
 t116 := Tryz.underlying189
 a116 := Tryz.isAgg189
 z116 := Tryz.sizeOf189
 t117 := Tryz.underlying190
 a117 := Tryz.isAgg190
 z117 := Tryz.sizeOf190
 v117 := Tryz.zeroValue190
 t119 := Tryz.underlying255
 a119 := Tryz.isAgg255
 z119 := Tryz.sizeOf255
 t124 := Tryz.underlying193
 a124 := Tryz.isAgg193
 z124 := Tryz.sizeOf193
 v124 := Tryz.zeroValue193
 t138 := Tryz.underlying257
 a138 := Tryz.isAgg257
 z138 := Tryz.sizeOf257
 v138 := Tryz.zeroValue257
 t139 := Tryz.underlying258
 a139 := Tryz.isAgg258
 z139 := Tryz.sizeOf258
 v139 := Tryz.zeroValue258
 g3 := by kernel_rfl
 g4 := by kernel_rfl }
open Go.RowKit in
theorem Tryz.strings_Trim_one (s : ByteArray) (c : UInt8) (hc : c.toNat < 128) (w : World) (hs : s.size ≤ 9223372036854775807) :
  Calls Tryz.prog 96 #[.string s, .string ⟨#[c]⟩] w fun e w' => e = .returned (.string ⟨(Lib.trimB s.data.toList c).toArray⟩) ∧ (w' = w ∨ w' = w.drew) := Any.strings_Trim_one Tryz.lays160 s c hc w hs
def Tryz.lays104_ren : Go.Shelf.Ren := ⟨fun | 104 => 82 | 211 => 108 | 207 => 150 | n => n, fun | 9 => 9 | 4 => 4 | 24 => 145 | 3 => 3 | n => n, fun | n => n⟩
theorem Tryz.lays104 : Go.Proofs.Lays.n104 Tryz.prog Tryz.lays104_ren := {
 mixed := by kernel_rfl
 f104 := Tryz.func82.trans (congrArg some (by kernel_rfl))
 f207 := Tryz.func150.trans (congrArg some (by kernel_rfl))
 f211 := Tryz.func108.trans (congrArg some (by kernel_rfl))
 t3 := Tryz.underlying3
 a3 := Tryz.isAgg3
 z3 := Tryz.sizeOf3
 v3 := Tryz.zeroValue3
 t4 := Tryz.underlying4
 a4 := Tryz.isAgg4
 z4 := Tryz.sizeOf4
 v4 := Tryz.zeroValue4
 t9 := Tryz.underlying9
 a9 := Tryz.isAgg9
 z9 := Tryz.sizeOf9
 v9 := Tryz.zeroValue9
 t24 := Tryz.underlying145
 a24 := Tryz.isAgg145
 z24 := Tryz.sizeOf145
 v24 := Tryz.zeroValue145 }
open Go.RowKit in
theorem Tryz.strings_CutSuffix (s p : ByteArray) (w : World) (hs : s.size ≤ 9223372036854775807) :
  Calls Tryz.prog 82 #[.string s, .string p] w fun e w' => e = .returned (.tuple #[.string ⟨(Lib.trimSuffix s.data.toList p.data.toList).toArray⟩, .bool (Lib.hasSuffix s.data.toList p.data.toList)]) ∧ w' = w := Any.strings_CutSuffix Tryz.lays104 s p w hs
def Tryz.lays137_ren : Go.Shelf.Ren := ⟨fun | 137 => 81 | 217 => 107 | 266 => 149 | n => n, fun | 9 => 9 | 5 => 5 | 3 => 3 | n => n, fun | n => n⟩
theorem Tryz.lays137 : Go.Proofs.Lays.n137 Tryz.prog Tryz.lays137_ren := {
 mixed := by kernel_rfl
 f137 := Tryz.func81.trans (congrArg some (by kernel_rfl))
 f217 := Tryz.func107.trans (congrArg some (by kernel_rfl))
 f266 := Tryz.func149.trans (congrArg some (by kernel_rfl))
 t3 := Tryz.underlying3
 a3 := Tryz.isAgg3
 z3 := Tryz.sizeOf3
 v3 := Tryz.zeroValue3
 t5 := Tryz.underlying5
 a5 := Tryz.isAgg5
 z5 := Tryz.sizeOf5
 v5 := Tryz.zeroValue5
 t9 := Tryz.underlying9
 a9 := Tryz.isAgg9
 z9 := Tryz.sizeOf9
 v9 := Tryz.zeroValue9 }
open Go.RowKit in
theorem Tryz.strings_IndexByte (s : ByteArray) (c : Int) (w : World) :
  Calls Tryz.prog 81 #[.string s, .int .u8 c] w fun e w' => e = .returned (.int .i64 (Lib.indexByte s.data.toList c.toNat.toUInt8)) ∧ w' = w := Any.strings_IndexByte Tryz.lays137 s c w
def Tryz.lays145_ren : Go.Shelf.Ren := ⟨fun | 145 => 83 | 220 => 109 | 219 => 151 | 217 => 107 | 225 => 174 | 224 => 175 | 267 => 176 | 266 => 149 | 314 => 187 | n => n, fun | 9 => 9 | 4 => 4 | 59 => 147 | 3 => 3 | 5 => 5 | 46 => 127 | 146 => 154 | 51 => 153 | n => n, fun | 1 => 1 | n => n⟩
theorem Tryz.lays145 : Go.Proofs.Lays.n145 Tryz.prog Tryz.lays145_ren := {
 mixed := by kernel_rfl
 f145 := Tryz.func83.trans (congrArg some (by kernel_rfl))
 f217 := Tryz.func107.trans (congrArg some (by kernel_rfl))
 f219 := Tryz.func151.trans (congrArg some (by kernel_rfl))
 f220 := Tryz.func109.trans (congrArg some (by kernel_rfl))
 f224 := Tryz.func175.trans (congrArg some (by kernel_rfl))
 f225 := Tryz.func174.trans (congrArg some (by kernel_rfl))
 f266 := Tryz.func149.trans (congrArg some (by kernel_rfl))
 f267 := Tryz.func176.trans (congrArg some (by kernel_rfl))
 f314 := Tryz.func187.trans (congrArg some (by kernel_rfl))
 t3 := Tryz.underlying3
 a3 := Tryz.isAgg3
 z3 := Tryz.sizeOf3
 v3 := Tryz.zeroValue3
 t4 := Tryz.underlying4
 a4 := Tryz.isAgg4
 z4 := Tryz.sizeOf4
 v4 := Tryz.zeroValue4
 t5 := Tryz.underlying5
 a5 := Tryz.isAgg5
 z5 := Tryz.sizeOf5
 v5 := Tryz.zeroValue5
 t9 := Tryz.underlying9
 a9 := Tryz.isAgg9
 z9 := Tryz.sizeOf9
 v9 := Tryz.zeroValue9
 t46 := Tryz.underlying127
 a46 := Tryz.isAgg127
 z46 := Tryz.sizeOf127
 v46 := Tryz.zeroValue127
 t51 := Tryz.underlying153
 a51 := Tryz.isAgg153
 z51 := Tryz.sizeOf153
 v51 := Tryz.zeroValue153
 t59 := Tryz.underlying147
 a59 := Tryz.isAgg147
 z59 := Tryz.sizeOf147
 v59 := Tryz.zeroValue147
 t146 := Tryz.underlying154
 a146 := Tryz.isAgg154
 z146 := Tryz.sizeOf154
 v146 := Tryz.zeroValue154
 g1 := by kernel_rfl }
open Go.RowKit Go.Lib in
theorem Tryz.strings_Cut (s sep : ByteArray) (m : Int) (w : World) (hs : s.size < 4294967281) (hm : w.cell? ⟨1, 0, none⟩ = some (.int .i64 m)) :
  Calls Tryz.prog 83 #[.string s, .string sep] w fun e w' => e = .returned (.tuple #[.string ⟨(Lib.cut s.data.toList sep.data.toList).1.toArray⟩, .string ⟨(Lib.cut s.data.toList sep.data.toList).2.1.toArray⟩, .bool (Lib.cut s.data.toList sep.data.toList).2.2]) ∧ ∃ n, w' = w.drewN n := Any.strings_Cut Tryz.lays145 s sep m w hs hm
def Tryz.laysM171_ren : Go.Shelf.Ren := ⟨fun | 171 => 40 | 243 => 60 | 246 => 93 | 283 => 122 | 284 => 123 | 285 => 124 | 286 => 125 | 129 => 121 | 317 => 162 | 318 => 163 | 319 => 164 | 320 => 165 | 337 => 181 | 338 => 182 | n => n, fun | 3 => 3 | 9 => 9 | 2 => 2 | 4 => 4 | 171 => 180 | 0 => 0 | 53 => 156 | 37 => 92 | 5 => 5 | 173 => 182 | 212 => 220 | 51 => 153 | 20 => 20 | 213 => 221 | 46 => 127 | 232 => 253 | 233 => 254 | n => n, fun | 17 => 0 | 18 => 4 | 19 => 5 | n => n⟩
theorem Tryz.laysM171 : Go.Proofs.LaysM.n171 Tryz.prog Tryz.laysM171_ren := {
 mixed := by kernel_rfl
 f129 := Tryz.func121.trans (congrArg some (by kernel_rfl))
 f171 := Tryz.func40.trans (congrArg some (by kernel_rfl))
 f243 := Tryz.func60.trans (congrArg some (by kernel_rfl))
 f246 := Tryz.func93.trans (congrArg some (by kernel_rfl))
 f283 := Tryz.func122.trans (congrArg some (by kernel_rfl))
 f284 := Tryz.func123.trans (congrArg some (by kernel_rfl))
 f285 := Tryz.func124.trans (congrArg some (by kernel_rfl))
 f286 := Tryz.func125.trans (congrArg some (by kernel_rfl))
 f317 := Tryz.func162.trans (congrArg some (by kernel_rfl))
 f318 := Tryz.func163.trans (congrArg some (by kernel_rfl))
 f319 := Tryz.func164.trans (congrArg some (by kernel_rfl))
 f320 := Tryz.func165.trans (congrArg some (by kernel_rfl))
 f337 := Tryz.func181.trans (congrArg some (by kernel_rfl))
 f338 := Tryz.func182.trans (congrArg some (by kernel_rfl))
 t0 := Tryz.underlying0
 a0 := Tryz.isAgg0
 z0 := Tryz.sizeOf0
 v0 := Tryz.zeroValue0
 t2 := Tryz.underlying2
 a2 := Tryz.isAgg2
 z2 := Tryz.sizeOf2
 v2 := Tryz.zeroValue2
 t3 := Tryz.underlying3
 a3 := Tryz.isAgg3
 z3 := Tryz.sizeOf3
 v3 := Tryz.zeroValue3
 t4 := Tryz.underlying4
 a4 := Tryz.isAgg4
 z4 := Tryz.sizeOf4
 v4 := Tryz.zeroValue4
 t5 := Tryz.underlying5
 a5 := Tryz.isAgg5
 z5 := Tryz.sizeOf5
 v5 := Tryz.zeroValue5
 t9 := Tryz.underlying9
 a9 := Tryz.isAgg9
 z9 := Tryz.sizeOf9
 v9 := Tryz.zeroValue9
 t20 := Tryz.underlying20
 a20 := Tryz.isAgg20
 z20 := Tryz.sizeOf20
 v20 := Tryz.zeroValue20
 t37 := Tryz.underlying92
 a37 := Tryz.isAgg92
 z37 := Tryz.sizeOf92
 v37 := Tryz.zeroValue92
 t46 := Tryz.underlying127
 a46 := Tryz.isAgg127
 z46 := Tryz.sizeOf127
 v46 := Tryz.zeroValue127
 t51 := Tryz.underlying153
 a51 := Tryz.isAgg153
 z51 := Tryz.sizeOf153
 v51 := Tryz.zeroValue153
 t53 := Tryz.underlying156
 a53 := Tryz.isAgg156
 z53 := Tryz.sizeOf156
 v53 := Tryz.zeroValue156
 t171 := Tryz.underlying180
 a171 := Tryz.isAgg180
 z171 := Tryz.sizeOf180
 v171 := Tryz.zeroValue180
 t173 := Tryz.underlying182
 a173 := Tryz.isAgg182
 z173 := Tryz.sizeOf182
 v173 := Tryz.zeroValue182
 t212 := Tryz.underlying220
 a212 := Tryz.isAgg220
 z212 := Tryz.sizeOf220
 v212 := Tryz.zeroValue220
 t213 := Tryz.underlying221
 a213 := Tryz.isAgg221
 z213 := Tryz.sizeOf221
 t232 := Tryz.underlying253
 a232 := Tryz.isAgg253
 z232 := Tryz.sizeOf253
 v232 := Tryz.zeroValue253
 t233 := Tryz.underlying254
 a233 := Tryz.isAgg254
 z233 := Tryz.sizeOf254
 v233 := Tryz.zeroValue254
 g17 := by kernel_rfl
 g18 := by kernel_rfl
 g19 := by kernel_rfl
 i0 := by kernel_rfl
 i2 := by kernel_rfl
 i3 := by kernel_rfl
 i4 := by kernel_rfl
 i5 := by kernel_rfl
 i9 := by kernel_rfl
 i20 := by kernel_rfl
 i37 := by kernel_rfl
 i46 := by kernel_rfl
 i51 := by kernel_rfl
 i53 := by kernel_rfl
 i171 := by kernel_rfl
 i173 := by kernel_rfl
 i212 := by kernel_rfl
 i232 := by kernel_rfl
 i233 := by kernel_rfl
 m17 := by kernel_rfl
 m18 := by kernel_rfl
 m19 := by kernel_rfl }
open Go.RowKit Go.Sort Go.Lib in
theorem Tryz.strconv_Itoa (n : Int) (h0 : -9223372036854775808 ≤ n) (h1 : n ≤ 9223372036854775807) (w : World) (htab : Lib.TabIs Tryz.prog w "internal/strconv.uint64pow10" .u64 Lib.pow10Tab) :
  Calls Tryz.prog 40 #[.int .i64 n] w fun e w' => e = .returned (.string ⟨(Lib.itoa n).toArray⟩) ∧ ∃ k os, w' = grow (w.drewN k) os := Any.strconv_Itoa Tryz.laysM171 n h0 h1 w htab
def Tryz.lays171_ren : Go.Shelf.Ren := ⟨fun | 171 => 40 | 243 => 60 | 246 => 93 | 283 => 122 | 284 => 123 | 285 => 124 | 286 => 125 | 129 => 121 | 317 => 162 | 318 => 163 | 319 => 164 | 320 => 165 | 337 => 181 | 338 => 182 | n => n, fun | 3 => 3 | 9 => 9 | 2 => 2 | 4 => 4 | 171 => 180 | 0 => 0 | 53 => 156 | 37 => 92 | 5 => 5 | 173 => 182 | 212 => 220 | 51 => 153 | 20 => 20 | 213 => 221 | 46 => 127 | 232 => 253 | 233 => 254 | n => n, fun | 17 => 0 | 18 => 4 | 19 => 5 | n => n⟩
theorem Tryz.lays171 : Go.Proofs.Lays.n171 Tryz.prog Tryz.lays171_ren := {
 mixed := by kernel_rfl
 f129 := Tryz.func121.trans (congrArg some (by kernel_rfl))
 f171 := Tryz.func40.trans (congrArg some (by kernel_rfl))
 f243 := Tryz.func60.trans (congrArg some (by kernel_rfl))
 f246 := Tryz.func93.trans (congrArg some (by kernel_rfl))
 f283 := Tryz.func122.trans (congrArg some (by kernel_rfl))
 f284 := Tryz.func123.trans (congrArg some (by kernel_rfl))
 f285 := Tryz.func124.trans (congrArg some (by kernel_rfl))
 f286 := Tryz.func125.trans (congrArg some (by kernel_rfl))
 f317 := Tryz.func162.trans (congrArg some (by kernel_rfl))
 f318 := Tryz.func163.trans (congrArg some (by kernel_rfl))
 f319 := Tryz.func164.trans (congrArg some (by kernel_rfl))
 f320 := Tryz.func165.trans (congrArg some (by kernel_rfl))
 f337 := Tryz.func181.trans (congrArg some (by kernel_rfl))
 f338 := Tryz.func182.trans (congrArg some (by kernel_rfl))
 t0 := Tryz.underlying0
 a0 := Tryz.isAgg0
 z0 := Tryz.sizeOf0
 v0 := Tryz.zeroValue0
 t2 := Tryz.underlying2
 a2 := Tryz.isAgg2
 z2 := Tryz.sizeOf2
 v2 := Tryz.zeroValue2
 t3 := Tryz.underlying3
 a3 := Tryz.isAgg3
 z3 := Tryz.sizeOf3
 v3 := Tryz.zeroValue3
 t4 := Tryz.underlying4
 a4 := Tryz.isAgg4
 z4 := Tryz.sizeOf4
 v4 := Tryz.zeroValue4
 t5 := Tryz.underlying5
 a5 := Tryz.isAgg5
 z5 := Tryz.sizeOf5
 v5 := Tryz.zeroValue5
 t9 := Tryz.underlying9
 a9 := Tryz.isAgg9
 z9 := Tryz.sizeOf9
 v9 := Tryz.zeroValue9
 t20 := Tryz.underlying20
 a20 := Tryz.isAgg20
 z20 := Tryz.sizeOf20
 v20 := Tryz.zeroValue20
 t37 := Tryz.underlying92
 a37 := Tryz.isAgg92
 z37 := Tryz.sizeOf92
 v37 := Tryz.zeroValue92
 t46 := Tryz.underlying127
 a46 := Tryz.isAgg127
 z46 := Tryz.sizeOf127
 v46 := Tryz.zeroValue127
 t51 := Tryz.underlying153
 a51 := Tryz.isAgg153
 z51 := Tryz.sizeOf153
 v51 := Tryz.zeroValue153
 t53 := Tryz.underlying156
 a53 := Tryz.isAgg156
 z53 := Tryz.sizeOf156
 v53 := Tryz.zeroValue156
 t171 := Tryz.underlying180
 a171 := Tryz.isAgg180
 z171 := Tryz.sizeOf180
 v171 := Tryz.zeroValue180
 t173 := Tryz.underlying182
 a173 := Tryz.isAgg182
 z173 := Tryz.sizeOf182
 v173 := Tryz.zeroValue182
 t212 := Tryz.underlying220
 a212 := Tryz.isAgg220
 z212 := Tryz.sizeOf220
 v212 := Tryz.zeroValue220
 t213 := Tryz.underlying221
 a213 := Tryz.isAgg221
 z213 := Tryz.sizeOf221
 t232 := Tryz.underlying253
 a232 := Tryz.isAgg253
 z232 := Tryz.sizeOf253
 v232 := Tryz.zeroValue253
 t233 := Tryz.underlying254
 a233 := Tryz.isAgg254
 z233 := Tryz.sizeOf254
 v233 := Tryz.zeroValue254
 g17 := by kernel_rfl
 g18 := by kernel_rfl
 g19 := by kernel_rfl }
open Go.RowKit Go.Sort Go.Lib in
theorem Tryz.strconv_Itoa_small (i : Nat) (hi : i < 100) (w : World) :
  Calls Tryz.prog 40 #[.int .i64 i] w fun e w' => e = .returned (.string ⟨(Lib.decDigits i).toArray⟩) ∧ w' = w := Any.strconv_Itoa_small Tryz.lays171 i hi w
def Tryz.laysC172_ren : Go.Shelf.Ren := ⟨fun | 172 => 84 | 244 => 110 | 245 => 111 | 247 => 152 | 279 => 153 | 280 => 154 | 281 => 155 | 282 => 156 | 287 => 177 | 316 => 178 | 171 => 40 | 205 => 179 | 321 => 188 | 322 => 189 | 243 => 60 | 246 => 93 | 283 => 122 | 284 => 123 | 285 => 124 | 286 => 125 | 129 => 121 | 317 => 162 | 318 => 163 | 319 => 164 | 320 => 165 | 337 => 181 | 338 => 182 | n => n, fun | 9 => 9 | 3 => 3 | 75 => 96 | 76 => 97 | 4 => 4 | 5 => 5 | 167 => 206 | 37 => 92 | 0 => 0 | 85 => 207 | 2 => 2 | 168 => 209 | 53 => 156 | 175 => 238 | 46 => 127 | 210 => 242 | 127 => 130 | 145 => 252 | 143 => 250 | 21 => 21 | 171 => 180 | 173 => 182 | 212 => 220 | 51 => 153 | 20 => 20 | 213 => 221 | 232 => 253 | 233 => 254 | 80 => 99 | n => n, fun | 15 => 2 | 16 => 3 | 17 => 0 | 18 => 4 | 19 => 5 | n => n⟩
theorem Tryz.laysC172 : Go.Proofs.LaysC.n172 Tryz.prog Tryz.laysC172_ren := {
 mixed := by kernel_rfl
 f129 := Tryz.func121.trans (congrArg some (by kernel_rfl))
 f171 := Tryz.func40.trans (congrArg some (by kernel_rfl))
 f172 := Tryz.func84.trans (congrArg some (by kernel_rfl))
 f205 := Tryz.func179.trans (congrArg some (by kernel_rfl))
 f243 := Tryz.func60.trans (congrArg some (by kernel_rfl))
 f244 := Tryz.func110.trans (congrArg some (by kernel_rfl))
 f245 := Tryz.func111.trans (congrArg some (by kernel_rfl))
 f246 := Tryz.func93.trans (congrArg some (by kernel_rfl))
 f247 := Tryz.func152.trans (congrArg some (by kernel_rfl))
 f279 := Tryz.func153.trans (congrArg some (by kernel_rfl))
 f280 := Tryz.func154.trans (congrArg some (by kernel_rfl))
 f281 := Tryz.func155.trans (congrArg some (by kernel_rfl))
 f282 := Tryz.func156.trans (congrArg some (by kernel_rfl))
 f283 := Tryz.func122.trans (congrArg some (by kernel_rfl))
 f284 := Tryz.func123.trans (congrArg some (by kernel_rfl))
 f285 := Tryz.func124.trans (congrArg some (by kernel_rfl))
 f286 := Tryz.func125.trans (congrArg some (by kernel_rfl))
 f287 := Tryz.func177.trans (congrArg some (by kernel_rfl))
 f316 := Tryz.func178.trans (congrArg some (by kernel_rfl))
 f317 := Tryz.func162.trans (congrArg some (by kernel_rfl))
 f318 := Tryz.func163.trans (congrArg some (by kernel_rfl))
 f319 := Tryz.func164.trans (congrArg some (by kernel_rfl))
 f320 := Tryz.func165.trans (congrArg some (by kernel_rfl))
 f321 := Tryz.func188.trans (congrArg some (by kernel_rfl))
 f322 := Tryz.func189.trans (congrArg some (by kernel_rfl))
 f337 := Tryz.func181.trans (congrArg some (by kernel_rfl))
 f338 := Tryz.func182.trans (congrArg some (by kernel_rfl))
 t0 := Tryz.underlying0
 a0 := Tryz.isAgg0
 z0 := Tryz.sizeOf0
 v0 := Tryz.zeroValue0
 t2 := Tryz.underlying2
 a2 := Tryz.isAgg2
 z2 := Tryz.sizeOf2
 v2 := Tryz.zeroValue2
 t3 := Tryz.underlying3
 a3 := Tryz.isAgg3
 z3 := Tryz.sizeOf3
 v3 := Tryz.zeroValue3
 t4 := Tryz.underlying4
 a4 := Tryz.isAgg4
 z4 := Tryz.sizeOf4
 v4 := Tryz.zeroValue4
 t5 := Tryz.underlying5
 a5 := Tryz.isAgg5
 z5 := Tryz.sizeOf5
 v5 := Tryz.zeroValue5
 t9 := Tryz.underlying9
 a9 := Tryz.isAgg9
 z9 := Tryz.sizeOf9
 v9 := Tryz.zeroValue9
 t20 := Tryz.underlying20
 a20 := Tryz.isAgg20
 z20 := Tryz.sizeOf20
 v20 := Tryz.zeroValue20
 t21 := Tryz.underlying21
 a21 := Tryz.isAgg21
 z21 := Tryz.sizeOf21
 v21 := Tryz.zeroValue21
 t37 := Tryz.underlying92
 a37 := Tryz.isAgg92
 z37 := Tryz.sizeOf92
 v37 := Tryz.zeroValue92
 t46 := Tryz.underlying127
 a46 := Tryz.isAgg127
 z46 := Tryz.sizeOf127
 v46 := Tryz.zeroValue127
 t51 := Tryz.underlying153
 a51 := Tryz.isAgg153
 z51 := Tryz.sizeOf153
 v51 := Tryz.zeroValue153
 t53 := Tryz.underlying156
 a53 := Tryz.isAgg156
 z53 := Tryz.sizeOf156
 v53 := Tryz.zeroValue156
 t75 := Tryz.underlying96
 a75 := Tryz.isAgg96
 z75 := Tryz.sizeOf96
 v75 := Tryz.zeroValue96
 t76 := Tryz.underlying97
 a76 := Tryz.isAgg97
 z76 := Tryz.sizeOf97
 v76 := Tryz.zeroValue97
 t85 := Tryz.underlying207
 a85 := Tryz.isAgg207
 z85 := Tryz.sizeOf207
 v85 := Tryz.zeroValue207
 t127 := Tryz.underlying130
 a127 := Tryz.isAgg130
 z127 := Tryz.sizeOf130
 v127 := Tryz.zeroValue130
 t143 := Tryz.underlying250
 a143 := Tryz.isAgg250
 z143 := Tryz.sizeOf250
 v143 := Tryz.zeroValue250
 t145 := Tryz.underlying252
 a145 := Tryz.isAgg252
 z145 := Tryz.sizeOf252
 v145 := Tryz.zeroValue252
 t167 := Tryz.underlying206
 a167 := Tryz.isAgg206
 z167 := Tryz.sizeOf206
 v167 := Tryz.zeroValue206
 t168 := Tryz.underlying209
 a168 := Tryz.isAgg209
 z168 := Tryz.sizeOf209
 v168 := Tryz.zeroValue209
 t171 := Tryz.underlying180
 a171 := Tryz.isAgg180
 z171 := Tryz.sizeOf180
 v171 := Tryz.zeroValue180
 t173 := Tryz.underlying182
 a173 := Tryz.isAgg182
 z173 := Tryz.sizeOf182
 v173 := Tryz.zeroValue182
 t175 := Tryz.underlying238
 a175 := Tryz.isAgg238
 z175 := Tryz.sizeOf238
 v175 := Tryz.zeroValue238
 t210 := Tryz.underlying242
 a210 := Tryz.isAgg242
 z210 := Tryz.sizeOf242
 v210 := Tryz.zeroValue242
 t212 := Tryz.underlying220
 a212 := Tryz.isAgg220
 z212 := Tryz.sizeOf220
 v212 := Tryz.zeroValue220
 t213 := Tryz.underlying221
 a213 := Tryz.isAgg221
 z213 := Tryz.sizeOf221
 t232 := Tryz.underlying253
 a232 := Tryz.isAgg253
 z232 := Tryz.sizeOf253
 v232 := Tryz.zeroValue253
 t233 := Tryz.underlying254
 a233 := Tryz.isAgg254
 z233 := Tryz.sizeOf254
 v233 := Tryz.zeroValue254
 g15 := by kernel_rfl
 g16 := by kernel_rfl
 g17 := by kernel_rfl
 g18 := by kernel_rfl
 g19 := by kernel_rfl
 t80 := Tryz.underlying99
 a80 := Tryz.isAgg99
 z80 := Tryz.sizeOf99
 v80 := Tryz.zeroValue99
 i0 := by kernel_rfl
 i2 := by kernel_rfl
 i3 := by kernel_rfl
 i4 := by kernel_rfl
 i5 := by kernel_rfl
 i9 := by kernel_rfl
 i20 := by kernel_rfl
 i21 := by kernel_rfl
 i37 := by kernel_rfl
 i46 := by kernel_rfl
 i51 := by kernel_rfl
 i53 := by kernel_rfl
 i75 := by kernel_rfl
 i76 := by kernel_rfl
 i80 := by kernel_rfl
 i85 := by kernel_rfl
 i127 := by kernel_rfl
 i143 := by kernel_rfl
 i145 := by kernel_rfl
 i167 := by kernel_rfl
 i168 := by kernel_rfl
 i171 := by kernel_rfl
 i173 := by kernel_rfl
 i175 := by kernel_rfl
 i210 := by kernel_rfl
 i212 := by kernel_rfl
 i232 := by kernel_rfl
 i233 := by kernel_rfl
 m15 := by kernel_rfl
 m16 := by kernel_rfl
 m17 := by kernel_rfl
 m18 := by kernel_rfl
 m19 := by kernel_rfl
 c0 := by kernel_rfl
 c2 := by kernel_rfl
 c3 := by kernel_rfl
 c4 := by kernel_rfl
 c5 := by kernel_rfl
 c9 := by kernel_rfl
 c20 := by kernel_rfl
 c21 := by kernel_rfl
 c37 := by kernel_rfl
 c46 := by kernel_rfl
 c51 := by kernel_rfl
 c53 := by kernel_rfl
 c75 := by kernel_rfl
 c76 := by kernel_rfl
 c80 := by kernel_rfl
 c85 := by kernel_rfl
 c127 := by kernel_rfl
 c143 := by kernel_rfl
 c145 := by kernel_rfl
 c167 := by kernel_rfl
 c168 := by kernel_rfl
 c171 := by kernel_rfl
 c173 := by kernel_rfl
 c175 := by kernel_rfl
 c210 := by kernel_rfl
 c212 := by kernel_rfl
 c213 := by kernel_rfl
 c232 := by kernel_rfl
 c233 := by kernel_rfl }
open Go.RowKit in
theorem Tryz.strconv_Atoi_ok (s : ByteArray) (hmax : s.size ≤ 9223372036854775806) (v : Int) (h : Lib.atoiAll s.data.toList = .ok v) (w : World) :
  Calls Tryz.prog 84 #[.string s] w fun e w' => e = .returned (.tuple #[.int .i64 v, .nilIface]) ∧ (w' = w ∨ ∃ t, w' = Lib.bytesWorld w 5 t) := Any.strconv_Atoi_ok Tryz.laysC172 s hmax v h w
open Go.RowKit in
theorem Tryz.strconv_Atoi_syntax (s : ByteArray) (hlim : s.size ≤ 281474976710656) (h : Lib.atoiAll s.data.toList = Lib.atoiAll []) (ev : Value) (w : World) (hv : w.cell? ⟨2, 0, none⟩ = some ev) (hev : ev = .nilIface ∨ ∃ te pe, ev = .iface te pe) :
  Calls Tryz.prog 84 #[.string s] w fun e w' => ∃ N, e = .returned (.tuple #[.int .i64 (0), .iface 209 (.pointer (some ⟨N, 0, none⟩))]) ∧ w.heap.size ≤ N ∧ w'.heap[N]? = some (.cells #[.string ⟨#[65, 116, 111, 105]⟩, .string s, ev] 242 (0, 0)) ∧ Below w.heap.size w w' := Any.strconv_Atoi_syntax Tryz.laysC172 s hlim h ev w hv hev
open Go.RowKit in
theorem Tryz.strconv_Atoi_range (s : ByteArray) (hlim : s.size ≤ 281474976710656) (h : Lib.atoiAll s.data.toList = .range) (ev : Value) (w : World) (hv : w.cell? ⟨3, 0, none⟩ = some ev) (hev : ev = .nilIface ∨ ∃ te pe, ev = .iface te pe) :
  Calls Tryz.prog 84 #[.string s] w fun e w' => ∃ N, e = .returned (.tuple #[.int .i64 (Lib.atoiSat s.data.toList), .iface 209 (.pointer (some ⟨N, 0, none⟩))]) ∧ w.heap.size ≤ N ∧ w'.heap[N]? = some (.cells #[.string ⟨#[65, 116, 111, 105]⟩, .string s, ev] 242 (0, 0)) ∧ Below w.heap.size w w' := Any.strconv_Atoi_range Tryz.laysC172 s hlim h ev w hv hev
def Tryz.lays122_ren : Go.Shelf.Ren := ⟨fun | 122 => 56 | 215 => 89 | n => n, fun | 3 => 3 | 4 => 4 | n => n, fun | n => n⟩
theorem Tryz.lays122 : Go.Proofs.Lays.n122 Tryz.prog Tryz.lays122_ren := {
 mixed := by kernel_rfl
 f122 := Tryz.func56.trans (congrArg some (by kernel_rfl))
 f215 := Tryz.func89.trans (congrArg some (by kernel_rfl))
 t3 := Tryz.underlying3
 a3 := Tryz.isAgg3
 z3 := Tryz.sizeOf3
 v3 := Tryz.zeroValue3
 t4 := Tryz.underlying4
 a4 := Tryz.isAgg4
 z4 := Tryz.sizeOf4
 v4 := Tryz.zeroValue4 }
open Go.RowKit in
theorem Tryz.cmp_Compare_int (x y : Int) (w : World) :
  Calls Tryz.prog 56 #[.int .i64 x, .int .i64 y] w fun e w' => e = .returned (.int .i64 (Lib.compareInt x y)) ∧ w' = w := Any.cmp_Compare_int Tryz.lays122 x y w
end Go.Proofs
namespace Go.Proofs.YtamgiojcbdbokaaGreatDoor
open Go Go.Sx
set_option maxRecDepth 100000
set_option maxHeartbeats 1000000
theorem xc {w w' : World} {H : Heap} {O : Go.Sx.Own} (hm : Models w H O) (ho : ∀ j, j < w.heap.size → w'.heap[j]? = w.heap[j]?) (he : cN w' = cN w) : Models w' H O := by
 have hlt : ∀ b (o : Obj), w.heap[b]? = some o → b < w.heap.size := fun b o hb => (Array.getElem?_eq_some_iff.1 hb).1
 exact ⟨fun b o hb => (ho b (hlt b o (hm.pers b o hb))).trans (hm.pers b o hb), fun p hp => ⟨(ho _ (hlt _ _ (hm.own p hp).1)).trans (hm.own p hp).1, (hm.own p hp).2⟩, hm.nodup, he.trans hm.env⟩
theorem A4 {w w' : World} {H : Heap} {O : Go.Sx.Own} (hm : Models w H O) (ho : ∀ j, j < w.heap.size → w'.heap[j]? = w.heap[j]?) (he : cN w' = cN w) {r : Nat} {o : Obj} (hr : w.heap.size ≤ r) (hn : w'.heap[r]? = some o) : Models w' H ((r, o) :: O) := by
 have hlt : ∀ b (o : Obj), w.heap[b]? = some o → b < w.heap.size := fun b o hb => (Array.getElem?_eq_some_iff.1 hb).1
 have h := xc hm ho he
 refine ⟨h.pers, fun p hp => ?_, ?_, h.env⟩
 ·rcases List.mem_cons.1 hp with rfl | hp
  ·refine ⟨hn, ?_⟩
   cases hH : H r with
   | none => rfl
   | some x => have := hlt _ _ (hm.pers _ _ hH); omega
  ·exact h.own p hp
 ·rw [List.map_cons, List.nodup_cons]
  refine ⟨fun hx => ?_, h.nodup⟩
  obtain ⟨p, hp, e⟩ := List.mem_map.1 hx
  have := hlt _ _ (hm.own p hp).1
  have : p.1 = r := e
  omega
theorem d5 {P : Program} {f : FuncId} {args : List Value} {v : Value} {H : Heap} {O : Go.Sx.Own} (h : ∀ w F, Models w H (O ++ F) → Calls P f args.toArray w fun e w' => e = .returned v ∧ (∀ j, j < w.heap.size → w'.heap[j]? = w.heap[j]?) ∧ cN w' = cN w) : RetO P f args H O v := by
 intro w F hm
 refine (h w F hm).mono ?_
 rintro e w' ⟨rfl, h1, h2⟩
 exact ⟨v, H, O, rfl, ⟨rfl, rfl⟩, Heap.le_refl H, xc hm h1 h2⟩
theorem wU {H : Heap} {r : Nat} {c : Array Value} {T : TypeId} {mk : Nat × Nat} (h : H r = some (.cells c T mk)) {i : Nat} {v : Value} (hi : c[i]? = some v) : H.read (.pointer (some ⟨r, i, none⟩)) 1 = some [v] := by
 simp [Heap.read, Heap.cell?, bj, h, hi]
def jC (l : List UInt8) : List (List Value) := l.map fun b => [Value.int .u8 (b.toNat : Int)]
theorem fE (l : List UInt8) : (jC l).length = l.length := by simp [jC]
theorem lR {l : List UInt8} {i : Nat} (h : i < l.length) : (jC l)[i]? = some [Value.int .u8 (l[i].toNat : Int)] := by simp [jC, h]
theorem Bq : PP.underlying 9 = some .string := by kernel_rfl
theorem zL : PP.underlying 92 = some (.slice 5) := by kernel_rfl
theorem BD : PP.underlying 5 = some (.int .u8) := by kernel_rfl
theorem rq {l : List UInt8} {H : Heap} {O : Go.Sx.Own} {K : List Value → List (List Value) → Heap → Go.Sx.Own → Prop} (hl : l.length < 2 ^ 62)
  (hk : ∀ v H', Heap.le H H' → Sl H' 1 v (jC l) → K [v] [] H' O) : cO (fun H1 O1 R => bE PP ((PrimOp.convert 9 92).sem [Str l]) H1 O1 R) false [] [] .one K H O := by
 intro _
 refine ⟨H, [], O, fun v H' O' => Sl H' 1 v (jC l) ∧ O' = [], Ghost.refl _ _, fun w F hm => ?_, ?_⟩
 ·have hr := Go.Lib.run_convert_string_bytes (P := PP) w 9 92 5 ⟨l.toArray⟩ Bq zL BD
  have hn := Go.Lib.bytesWorld_at_new w 5 ⟨l.toArray⟩
  have hm' : Models w H F := by simpa using hm
  have hm2 := A4 hm' (w' := Go.Lib.bytesWorld w 5 ⟨l.toArray⟩) (fun j hj => Go.Lib.bytesWorld_at_old w _ _ j hj) rfl (Nat.le_refl _) hn
  have hH : H w.heap.size = none := (hm2.own _ List.mem_cons_self).2
  have hr2 : ((PrimOp.convert 9 92).sem [Str l]).run PP w = .ok (.value (.slice (some ⟨w.heap.size, 0, none⟩) (⟨l.toArray⟩ : ByteArray).size (grownCap w (⟨l.toArray⟩ : ByteArray).size 0 5))) (Go.Lib.bytesWorld w 5 ⟨l.toArray⟩) := by
   simp only [PrimOp.sem, Sem.run_bind, hr, Result.andThen_ok]; rfl
  refine ⟨_, _, H.ins w.heap.size _, [], hr2, ⟨?_, rfl⟩, Heap.le_ins H _ _, by simpa using hm2.freeze⟩
  have hsz : (⟨l.toArray⟩ : ByteArray).size = l.length := by simp [ByteArray.size]
  have hcap : l.length ≤ grownCap w (⟨l.toArray⟩ : ByteArray).size 0 5 ∧ grownCap w (⟨l.toArray⟩ : ByteArray).size 0 5 < 2 ^ 63 := by
   rw [hsz]
   have h1 := grownCap_ge w l.length 0 5
   have h2 := grownCap_le_maxLen w l.length 0 5 (by simp only [maxLen]; omega)
   simp only [maxLen] at h2
   exact ⟨h1, by omega⟩
  refine ⟨_, _, by rw [hsz, fE], by rw [fE]; exact hcap.1, hcap.2, fun _ => ⟨_, rfl, fun i row hrow => ?_⟩⟩
  have hi : i < l.length := by have := (List.getElem?_eq_some_iff.1 hrow).1; rwa [fE] at this
  rw [lR hi, Option.some.injEq] at hrow
  subst hrow
  refine ⟨?_, rfl, rfl, trivial⟩
  rw [bj, Nat.zero_add, Nat.mul_one]
  refine wU (c := Go.Lib.bytesCells w 5 ⟨l.toArray⟩) (by simp only [Heap.ins, hH, if_true]; rfl) ?_
  simp [Go.Lib.bytesCells, Array.getElem?_append, hi]
 ·rintro v H' O' ⟨hs, rfl⟩ hle
  exact ⟨[v], [], [], rfl, ⟨hs.one, trivial⟩, trivial, rfl, hk v H' hle hs⟩
theorem hU (l : List UInt8) : (⟨l.toArray⟩ : ByteArray).size = l.length := by simp [ByteArray.size]
theorem ze {l : List UInt8} (hl : l.length < 2 ^ 62) (H : Heap) (O : Go.Sx.Own) : RetO PP 96 [Str l, .string ⟨#[32]⟩] H O (Str (Go.Lib.trimB l 32)) := by
 refine d5 fun w F hm => ?_
 have h := Tryz.strings_Trim_one ⟨l.toArray⟩ 32 (by decide) w (by rw [hU]; omega)
 refine h.mono ?_
 rintro e w' ⟨rfl, rfl | rfl⟩
 ·exact ⟨rfl, fun _ _ => rfl, rfl⟩
 ·exact ⟨rfl, fun _ _ => rfl, rfl⟩
def wi (n a b : Int) : Bool := decide (n ≥ a) && decide (n ≤ b)
theorem fe (n a b : Int) (H : Heap) (O : Go.Sx.Own) : RetO PP kS [iV n, iV a, iV b] H O (.bool (wi n a b)) := by
 refine mS (vs := [iV n, iV a, iV b]) (by kernel_rfl) ⟨rfl, rfl, rfl, trivial⟩ ?_
 simp only [kM]
 refine aa _ (kA _ _) ?_
 refine ae (ae ?_)
 refine aa _ (q5 _ _) ?_
 refine ae ?_
 refine aa _ (aJ _ _) ?_
 exact af ⟨rfl, rfl⟩
theorem zV (a b : Int) : ah (.bin .lss .int) [.int .u8 a, .int .u8 b] = some (.bool (decide (a < b))) := by simp [ah, cD, cC]
theorem zX (a b : Int) : ah (.bin .gtr .int) [.int .u8 a, .int .u8 b] = some (.bool (decide (a > b))) := by simp [ah, cD, cC]
def rl (b : UInt8) : Bool := wi b.toNat 32 126
def iQ (l : List UInt8) : Bool := wi l.length 1 32 && (Go.Lib.trimB l 32 == l && l.all rl)
theorem y8 (l : List UInt8) (H : Heap) (O : Go.Sx.Own) : RetO PP ml [Str l] H O (.bool (iQ l)) := by
 refine oz (vs := [Str l]) (by kernel_rfl) ⟨rfl, trivial⟩ ?_
 simp only [lZ]
 refine aa _ (uX l) ?_
 refine al (fe l.length 1 32 _ _) rfl ⟨rfl, trivial⟩ fun H1 l1 => ?_
 refine aa _ (aD _) (aj (fun hd => ?_) (fun hd => ?_))
 ·exact af ⟨by rw [iQ, zT hd]; rfl, rfl⟩
 have hw : wi l.length 1 32 = true := zG hd
 have hl : l.length ≤ 32 := by
  have := hw
  simp only [wi, Bool.and_eq_true, decide_eq_true_eq] at this
  omega
 refine al (ze (by omega) _ _) rfl ⟨rfl, trivial⟩ fun H2 l2 => ?_
 refine aa _ (uW _ _) (aj (fun hd => ?_) (fun hd => ?_))
 ·exact af ⟨by rw [iQ, zT hd, hw]; rfl, rfl⟩
 have ht : (Go.Lib.trimB l 32 == l) = true := zG hd
 have hv : iQ l = l.all rl := by rw [iQ, hw, ht]; rfl
 refine rq (by omega) fun v H3 l3 hs => ?_
 have hlen := hs.len
 rw [fE] at hlen
 refine aa _ hlen ?_
 refine bS l.length (fun i H' O' => O' = O ∧ Heap.le H3 H' ∧ l.all rl = (l.drop i).all rl) ⟨rfl, Heap.le_refl _, by simp⟩ ?_
 rintro i H4 O4 hi - ⟨rfl, l4, hor⟩
 refine aa _ (bm _ _) (aj (fun hb => ?_) (fun hb => ?_))
 ·have hlt : i < l.length := by have := of_decide_eq_true hb; omega
  obtain ⟨a, k1, k2, _, k3, k4⟩ := ((hs.le l4).rsl O4).idx .i64 i _ (lR hlt)
  refine aa _ k1 (ao k2 k3 k4 ?_)
  refine aa _ (zV _ _) ?_
  refine ae ?_
  refine aa _ (zX _ _) ?_
  refine ae ?_
  refine aa _ (cz _ _) (aj (fun hd => ?_) (fun hd => ?_))
  ·have hc : rl l[i] = false := by
    simp only [Bool.or_eq_true, decide_eq_true_eq] at hd
    simp only [rl, wi, Bool.and_eq_false_iff, decide_eq_false_iff_not]
    omega
   exact af ⟨by rw [hv, hor, List.drop_eq_getElem_cons hlt, List.all_cons, hc]; rfl, rfl⟩
  ·have hc : rl l[i] = true := by
    simp only [Bool.or_eq_false_iff, decide_eq_false_iff_not] at hd
    simp only [rl, wi, Bool.and_eq_true, decide_eq_true_eq]
    omega
   refine aa _ (aW (by omega)) (bp (by simp [Eqs, E]) hlt ⟨rfl, l4, ?_⟩)
   rw [hor, List.drop_eq_getElem_cons hlt, List.all_cons, hc, Bool.true_and]
 ·have hge : l.length ≤ i := by have := of_decide_eq_false hb; omega
  exact af ⟨by rw [hv, hor, List.drop_of_length_le hge]; rfl, rfl⟩
theorem qt {H : Heap} {O : Go.Sx.Own} {v fv : Value} {l : List Eff} {p : Eff → Bool} (h : Sl H 5 v (cQ l)) {f : FuncId} {caps : Array Value} (hf : fv = .func (.func f) #[] caps) (hok : kU PP f)
  (hp : ∀ H', Heap.le H H' → ∀ x ∈ l, RetO PP f ([.agg x.row.toArray] ++ caps.toList) H' O (.bool (p x))) : RetO PP a6 [v, fv] H O (iV (qd p l 0)) := by
 subst hf
 refine b8 (vs := [v, .func (.func f) #[] caps]) (by kernel_rfl) ⟨h.one, rfl, trivial⟩ ?_
 simp only [aX]
 obtain ⟨e1, e2⟩ := nE h
 refine aa _ e1 ?_
 refine bS l.length (fun i H' O' => O' = O ∧ Heap.le H H' ∧ qd p l 0 = qd p (l.drop i) i) ⟨rfl, Heap.le_refl H, by simp⟩ ?_
 rintro i H' O' hi - ⟨rfl, hle, hor⟩
 refine aa _ (bm _ _) (aj (fun hb => ?_) (fun hb => ?_))
 ·have hlt : i < l.length := by simpa using hb
  obtain ⟨a, h1, h2, _, h3, h4⟩ := ((h.le hle).rsl O').idx .i64 i _ (ln hlt)
  refine aa _ h1 (ao h2 h3 h4 (kD rfl hok (hp H' hle l[i] (List.getElem_mem hlt)) rfl ⟨rfl, trivial⟩ fun H2 hle2 => aj (fun hb => ?_) (fun hb => ?_)))
  ·refine af ⟨?_, rfl⟩
   rw [hor, List.drop_eq_getElem_cons hlt, qd, if_pos hb]; rfl
  ·refine aa _ (aW (by omega)) (bp (by simp [Eqs, E]) hlt ⟨rfl, Heap.le_trans hle hle2, ?_⟩)
   rw [hor, List.drop_eq_getElem_cons hlt, qd, if_neg (by rw [hb]; simp)]; rfl
 ·have hge : l.length ≤ i := by simpa using hb
  refine af ⟨?_, rfl⟩
  rw [hor, List.drop_of_length_le hge]; rfl
theorem ew {H : Heap} {O : Go.Sx.Own} {v fv : Value} {l : List Eff} {p : Eff → Bool} (h : Sl H 5 v (cQ l)) {f : FuncId} {caps : Array Value} (hf : fv = .func (.func f) #[] caps) (hok : kU PP f)
  (hp : ∀ H', Heap.le H H' → ∀ x ∈ l, RetO PP f ([.agg x.row.toArray] ++ caps.toList) H' O (.bool (p x))) : RetO PP aP [v, fv] H O (.bool (l.any p)) := by
 have hone : fv.oneCell' = true := by subst hf; rfl
 refine bL (vs := [v, fv]) (by kernel_rfl) ⟨h.one, hone, trivial⟩ ?_
 simp only [aN]
 refine al (qt h hf hok hp) rfl ⟨rfl, trivial⟩ fun H1 _ => aa _ (kA _ _) (af ⟨?_, rfl⟩)
 rw [← qc p l 0 (by omega)]
theorem Ar (e : Eff) (H : Heap) : RetO PP jQ ([.agg e.row.toArray] ++ []) H [] (.bool (!(AL e))) := by
 refine mo (vs := e.row) (by kernel_rfl) (jd e) ?_
 simp only [jM]
 refine ai fun r0 => ?_
 refine ab ?_
 refine al (uD e _) rfl ⟨rfl, trivial⟩ fun H1 l1 => ?_
 exact aa _ (aD _) (af ⟨rfl, rfl⟩)
def AO (l : List Eff) : Bool := decide (l.length ≤ 4) && !(l.any fun e => !(AL e))
theorem As {H : Heap} {v : Value} {l : List Eff} (h : Sl H 5 v (cQ l)) : RetO PP me [v] H [] (.bool (AO l)) := by
 refine ot (vs := [v]) (by kernel_rfl) ⟨h.one, trivial⟩ ?_
 simp only [lT]
 obtain ⟨e1, e2⟩ := nE h
 refine aa _ e1 ?_
 refine aa _ (q5 _ _) (aj (fun hd => ?_) (fun hd => ?_))
 ·refine al (ew h rfl (fJ ib (by decide)) fun H' _ x _ => Ar x H') rfl ⟨rfl, trivial⟩ fun H1 l1 => ?_
  refine aa _ (aD _) (af ⟨?_, rfl⟩)
  have : decide (l.length ≤ 4) = true := by have := of_decide_eq_true hd; exact decide_eq_true (by omega)
  rw [AO, this]; rfl
 ·refine af ⟨?_, rfl⟩
  have : decide (l.length ≤ 4) = false := by have := of_decide_eq_false hd; exact decide_eq_false (by omega)
  rw [AO, this]; rfl
def A5 (e : Eff) : Bool := e.target == 0 && (e.code == 8 || e.code == 9)
theorem tK (e : Eff) (H : Heap) : RetO PP kT ([.agg e.row.toArray] ++ []) H [] (.bool (A5 e)) := by
 refine mT (vs := e.row) (by kernel_rfl) (jd e) ?_
 simp only [kO]
 refine ai fun r0 => ?_
 refine ab ?_
 refine aa _ (av _ _) ?_
 refine ab (ae (ae ?_))
 refine aa _ (av _ _) ?_
 refine ae (ab (ae (ae (ae (ae ?_)))))
 refine aa _ (av _ _) ?_
 refine ae (ae (ae ?_))
 refine aa _ (cz _ _) ?_
 refine ae ?_
 refine aa _ (aJ _ _) ?_
 exact af ⟨rfl, rfl⟩
theorem wl {H : Heap} {v : Value} {l : List Eff} (h : Sl H 5 v (cQ l)) : Triple PP ip [v] H [] fun x _ O' => (∃ n, x = iV n) ∧ O' = [] := by
 refine kj (vs := [v]) (by kernel_rfl) ⟨h.one, trivial⟩ ?_
 simp only [ij]
 obtain ⟨e1, e2⟩ := nE h
 refine aa _ e1 ?_
 refine gh l.length (fun _ x H' O' => (∃ n, x = iV n) ∧ O' = [] ∧ Heap.le H H') ⟨⟨0, rfl⟩, rfl, Heap.le_refl _⟩ ?_
 rintro i x H1 O1 hi - ⟨⟨n, rfl⟩, rfl, l1⟩
 refine aa _ (bm _ _) (aj (fun hb => ?_) (fun hb => ?_))
 ·have hlt : i < l.length := by simpa using hb
  obtain ⟨a, h1, h2, _, h3, h4⟩ := ((h.le l1).rsl []).idx .i64 i _ (ln hlt)
  refine aa _ h1 (ao h2 h3 h4 (ai fun r0 => ?_))
  refine ab (ab ?_)
  refine aa _ (fw _ _) (aj (fun hb => ?_) (fun hb => ?_))
  ·refine aa _ (show ah (.bin .add .int) [iV n, iV 1] = some (iV (IntKind.i64.wrap (n + 1))) from rfl) ?_
   exact aa _ (aW (by omega)) (bZ (by simp [Eqs, E]) hlt ⟨⟨_, rfl⟩, rfl, l1⟩)
  ·exact aa _ (aW (by omega)) (bZ (by simp [Eqs, E]) hlt ⟨⟨_, rfl⟩, rfl, l1⟩)
 ·exact af ⟨⟨n, rfl⟩, rfl⟩
theorem nM {P : Program} {f : FuncId} {args : List Value} {H : Heap} {p : Value → Prop} {K : List Value → List (List Value) → Heap → Go.Sx.Own → Prop}
  (h : Triple P f args H [] fun x _ O' => p x ∧ O' = []) (h1 : ∀ x, p x → x.oneCell' = true) (hk : ∀ x H', p x → Heap.le H H' → K [x] [] H' []) :
  cO (fun H1 O1 R => Triple P f args H1 O1 R) false [] [] .one K H [] := by
 refine bA h ?_
 rintro r H1 _ ⟨hr, rfl⟩ l1
 exact ⟨[r], rfl, ⟨h1 r hr, trivial⟩, hk r H1 hr l1⟩
theorem y7 {H : Heap} {v : Value} {l : List Eff} (h : Sl H 5 v (cQ l)) : Triple PP mj [v] H [] fun x _ O' => (∃ b, x = .bool b) ∧ O' = [] := by
 refine oy (vs := [v]) (by kernel_rfl) ⟨h.one, trivial⟩ ?_
 simp only [lY]
 refine nM (wl h) (by rintro _ ⟨n, rfl⟩; rfl) ?_
 rintro _ H1 ⟨n, rfl⟩ l1
 exact aa _ (av _ _) (af ⟨⟨_, rfl⟩, rfl⟩)
theorem y5 (w : Int) (s : Value) (hs : s.oneCell' = true) (r : Nat) (H : Heap) (b : BV) (hb : b.r = r) {n : Int} {s' : Value} (hv : b.vs = [iV n, s']) : RetO PP bq ([.agg #[iV w, s]] ++ [.pointer (some ⟨r, 0, none⟩)]) H [b.obj] (.bool (w == n)) := by
 obtain ⟨r', T, vs⟩ := b
 simp only at hb hv
 subst hb; subst hv
 refine jW (vs := [iV w, s, .pointer (some ⟨r', 0, none⟩)]) (by kernel_rfl) ⟨rfl, hs, rfl, trivial⟩ ?_
 simp only [gm]
 refine ai fun r0 => ?_
 refine ab (aB rfl ?_)
 refine ao (vs := [iV n]) (.inr ⟨⟨r', 0, none⟩, #[iV n, s'], T, rfl, rfl, List.mem_singleton.2 rfl, rfl, by simp⟩) rfl ⟨rfl, trivial⟩ ?_
 exact aa _ (av _ _) (af ⟨rfl, rfl⟩)
theorem An {H : Heap} {v : Value} {l : List (Int × List Eff)} {rows : List (List Value)} (h : Sl H 2 v rows) (hlen : rows.length ≤ l.length) (hr : ∀ (i : Nat) (r : List Value) (t : Int × List Eff), rows[i]? = some r → l[i]? = some t → TrR H r t) (bx : BV) {n : Int} {s' : Value} (hv : bx.vs = [iV n, s']) :
  Triple PP aF [v, .func (.func bq) #[] #[.pointer (some ⟨bx.r, 0, none⟩)]] H [bx.obj] fun x _ O' => (∃ b, x = .bool b) ∧ O' = [bx.obj] := by
 refine bF (vs := [v, .func (.func bq) #[] #[.pointer (some ⟨bx.r, 0, none⟩)]]) (by kernel_rfl) ⟨h.one, rfl, trivial⟩ ?_
 simp only [aE]
 have hI : Triple PP aT [v, .func (.func bq) #[] #[.pointer (some ⟨bx.r, 0, none⟩)]] H [bx.obj] fun x _ O' => (∃ k, x = iV k) ∧ O' = [bx.obj] := by
  refine bT (vs := [v, .func (.func bq) #[] #[.pointer (some ⟨bx.r, 0, none⟩)]]) (by kernel_rfl) ⟨h.one, rfl, trivial⟩ ?_
  simp only [aS]
  refine aa _ h.len ?_
  refine bS rows.length (fun i H' O' => O' = [bx.obj] ∧ Heap.le H H') ⟨rfl, Heap.le_refl H⟩ ?_
  rintro i H' O' hi - ⟨rfl, hle⟩
  refine aa _ (bm _ _) (aj (fun hb => ?_) (fun hb => ?_))
  ·have hlt : i < rows.length := by simpa using hb
   obtain ⟨a, h1, h2, _, h3, h4⟩ := ((h.le hle).rsl [bx.obj]).idx .i64 i rows[i] (by simp [hlt])
   obtain ⟨s, e, hs⟩ := hr i rows[i] (l[i]'(by omega)) (by simp [hlt]) (by simp)
   rw [e] at h2 h3 h4
   refine aa _ h1 (ao h2 h3 h4 (kD rfl (fJ ib (by decide)) (y5 (l[i]'(by omega)).1 s hs.one bx.r H' bx rfl hv) rfl ⟨rfl, trivial⟩ fun H2 hle2 => aj (fun hb => ?_) (fun hb => ?_)))
   ·exact af ⟨⟨_, rfl⟩, rfl⟩
   ·exact aa _ (aW (by have := h.lenB; omega)) (bp (by simp [Eqs, E]) hlt ⟨rfl, Heap.le_trans hle hle2⟩)
  ·exact af ⟨⟨_, rfl⟩, rfl⟩
 refine cE (O1 := [bx.obj]) (O2 := []) (by simp) hI ?_
 rintro _ H1 _ ⟨⟨k, rfl⟩, rfl⟩ l1
 refine ⟨[iV k], rfl, ⟨rfl, trivial⟩, ?_⟩
 exact aa _ (kA _ _) (af ⟨⟨_, rfl⟩, by simp⟩)
theorem uC {H : Heap} {v : Value} {l : List (Int × List Eff)} (h : TrsF H v l) : Triple PP jo [v] H [] fun x _ O' => (∃ b, x = .bool b) ∧ O' = [] := by
 obtain ⟨hl, h1, hB⟩ := h.len
 obtain ⟨rows, hs, hlen, hr⟩ := h
 refine lc (vs := [v]) (by kernel_rfl) ⟨h1, trivial⟩ ?_
 simp only [jl]
 refine aa _ hl ?_
 refine bS l.length (fun _ H' O' => O' = [] ∧ Heap.le H H') ⟨rfl, Heap.le_refl _⟩ ?_
 rintro i H1 O1 hi - ⟨rfl, l1⟩
 refine aa _ (bm _ _) (aj (fun hb => ?_) (fun hb => ?_))
 ·have hlt : i < l.length := by simpa using hb
  obtain ⟨a, k1, k2, _, k3, k4⟩ := ((hs.le l1).rsl []).idx .i64 i rows[i] (by simp [hlen, hlt])
  obtain ⟨s, e, hse⟩ := hr i rows[i] l[i] (by simp [hlen, hlt]) (by simp [hlt])
  rw [e] at k2 k3 k4
  refine aa _ k1 (ao k2 k3 k4 (ai fun r0 => ?_))
  refine ab (ab ?_)
  refine al (fe l[i].1 1 3 _ _) rfl ⟨rfl, trivial⟩ fun H2 l2 => ?_
  refine aa _ (aD _) (aj (fun hd => ?_) (fun hd => ?_))
  ·exact af ⟨⟨_, rfl⟩, rfl⟩
  have hs2 := hse.le (Heap.le_trans l1 l2)
  obtain ⟨e1, e2⟩ := nE hs2
  refine ab ?_
  refine aa _ e1 ?_
  refine al (fe l[i].2.length 1 2 _ _) rfl ⟨rfl, trivial⟩ fun H3 l3 => ?_
  refine aa _ (aD _) (aj (fun hd => ?_) (fun hd => ?_))
  ·exact af ⟨⟨_, rfl⟩, rfl⟩
  refine ab ?_
  refine al (As (hs2.le l3)) rfl ⟨rfl, trivial⟩ fun H4 l4 => ?_
  refine aa _ (aD _) (aj (fun hd => ?_) (fun hd => ?_))
  ·exact af ⟨⟨_, rfl⟩, rfl⟩
  refine ab ?_
  refine nM (y7 (hs2.le (Heap.le_trans l3 l4))) (by rintro _ ⟨n, rfl⟩; rfl) ?_
  rintro _ H5 ⟨b, rfl⟩ l5
  refine aa _ (aD _) (aj (fun hd => ?_) (fun hd => ?_))
  ·exact af ⟨⟨_, rfl⟩, rfl⟩
  have l15 := Heap.le_trans l1 (Heap.le_trans l2 (Heap.le_trans l3 (Heap.le_trans l4 l5)))
  obtain ⟨u, hu, hus⟩ := (hs.le l15).upto (i := i) (by omega)
  refine aa _ hu ?_
  refine ru (own := [⟨r0, _, [iV l[i].1, s]⟩]) (O1 := []) (O2 := []) (by simp) (R := fun x _ O3 => (∃ b, x = .bool b) ∧ O3 = []) (Triple.mono (An hus (l := l) (by rw [List.length_take]; omega) (fun j r t a b => ?_) ⟨r0, _, [iV l[i].1, s]⟩ rfl) ?_) ?_ ?_
  ·have hj : j < i := by have := (List.getElem?_eq_some_iff.1 a).1; rw [List.length_take] at this; omega
   rw [List.getElem?_take_of_lt hj] at a
   obtain ⟨s, e, q⟩ := hr j r t a b
   exact ⟨s, e, q.le l15⟩
  ·rintro x _ _ _ ⟨hx, rfl⟩
   exact ⟨[], by simp, hx, rfl⟩
  ·exact ⟨rfl, ⟨rfl, hse.one, trivial⟩, trivial⟩
  ·rintro _ H6 _ ⟨⟨b, rfl⟩, rfl⟩ l6
   refine ⟨[.bool b], rfl, ⟨rfl, trivial⟩, aj (fun hd => ?_) (fun hd => ?_)⟩
   ·exact af ⟨⟨_, rfl⟩, by simp⟩
   ·exact aa _ (aW (by omega)) (bp (by simp [Eqs, E]) hlt ⟨by simp, Heap.le_trans l15 l6⟩)
 ·refine aa _ hl ?_
  exact aa _ (q5 _ _) (af ⟨⟨_, rfl⟩, rfl⟩)
theorem wt {l : List Value} {i : Nat} {v : Value} (h : l[i]? = some v) : ah .aidx (iV i :: l) = some v := by
 have hlt := (List.getElem?_eq_some_iff.1 h).1
 simp only [ah, jz]
 rw [if_pos ⟨by omega, by omega⟩]
 simpa using h
theorem qp (a b c d m : Int) (H : Heap) (O : Go.Sx.Own) : RetO PP kR [.agg #[iV a, iV b, iV c, iV d], iV m] H O (.bool ([a, b, c, d].all fun n => iz n 0 m)) := by
 refine mP (vs := [iV a, iV b, iV c, iV d, iV m]) (by kernel_rfl) ⟨rfl, rfl, rfl, rfl, rfl, trivial⟩ ?_
 simp only [kL]
 refine fun r0 => ab (bS 4 (fun i H' O' => O' = O ∧ ([a, b, c, d].all fun n => iz n 0 m) = (([a, b, c, d].drop i).all fun n => iz n 0 m)) ⟨rfl, rfl⟩ ?_)
 rintro i H' O' hi - ⟨rfl, hor⟩
 refine aa _ (bm _ _) (aj (fun hb => ?_) (fun hb => ?_))
 ·have hlt : i < 4 := by have := of_decide_eq_true hb; omega
  have hlt' : i < [a, b, c, d].length := hlt
  have hv : [iV a, iV b, iV c, iV d][i]? = some (iV [a, b, c, d][i]) := by
   have : [iV a, iV b, iV c, iV d] = [a, b, c, d].map iV := rfl
   rw [this, List.getElem?_map, List.getElem?_eq_getElem hlt']; rfl
  refine aa _ (wt hv) (aa _ (bm _ _) (ae (ae (aa _ (ge _ _) (ae (aa _ (cz _ _) (aj (fun hb => af ⟨?_, rfl⟩) (fun hb => aa _ (aW (by omega)) (bp (by simp [Eqs, E]) hlt ⟨rfl, ?_⟩)))))))))
  ·rw [hor, List.drop_eq_getElem_cons hlt', List.all_cons]
   have : iz [a, b, c, d][i] 0 m = false := by simp [iz] at hb ⊢; omega
   rw [this]; rfl
  ·rw [hor, List.drop_eq_getElem_cons hlt', List.all_cons]
   have : iz [a, b, c, d][i] 0 m = true := by simp [iz] at hb ⊢; omega
   rw [this]; rfl
 ·have : i = 4 := by have := of_decide_eq_false hb; omega
  subst this
  exact af ⟨by rw [hor]; rfl, rfl⟩
def wb (a b c d e : Int) : Bool := (([a, b, c, d].all fun n => iz n 0 20) && decide (e ≥ 0)) && decide (e ≤ 20)
theorem nP (a b c d e : Int) (H : Heap) (O : Go.Sx.Own) : RetO PP io [.agg #[iV a, iV b, iV c, iV d, iV e]] H O (.bool (wb a b c d e)) := by
 refine ki (vs := [iV a, iV b, iV c, iV d, iV e]) (by kernel_rfl) ⟨rfl, rfl, rfl, rfl, rfl, trivial⟩ ?_
 simp only [ii]
 refine ai fun r0 => ?_
 refine ab ?_
 refine al (qp a b c d 20 _ _) rfl ⟨rfl, trivial⟩ fun H1 l1 => ?_
 refine ab (ae (ae ?_))
 refine aa _ (kA _ _) ?_
 refine ae ?_
 refine aa _ (aJ _ _) ?_
 refine ab (ae (ae ?_))
 refine aa _ (q5 _ _) ?_
 refine ae ?_
 refine aa _ (aJ _ _) ?_
 exact af ⟨rfl, rfl⟩
theorem A8 (a b c d : Int) : ∃ s, (∀ H O, RetO PP pg [.agg #[iV a, iV b, iV c, iV d]] H O (iV s)) ∧ (a = 0 → b = 0 → c = 0 → d = 0 → s = 0) := by
 let st : Nat → Int := fun i => (([a, b, c, d].take i).foldl (fun s x => IntKind.i64.wrap (s + x)) 0)
 refine ⟨st 4, fun H O => ?_, ?_⟩
 ·refine qK (vs := [iV a, iV b, iV c, iV d]) (by kernel_rfl) ⟨rfl, rfl, rfl, rfl, trivial⟩ ?_
  simp only [pd]
  refine ai fun r0 => ?_
  refine ab ?_
  refine gh 4 (fun i x H' O' => x = iV (st i) ∧ O' = O) ⟨rfl, rfl⟩ ?_
  rintro i _ H1 _ hi - ⟨rfl, rfl⟩
  refine aa _ (bm _ _) (aj (fun hb => ?_) (fun hb => ?_))
  ·have hlt : i < 4 := by have := of_decide_eq_true hb; omega
   have hv : [iV a, iV b, iV c, iV d][i]? = some (iV ([a, b, c, d][i]'hlt)) := by
    have : [iV a, iV b, iV c, iV d] = [a, b, c, d].map iV := rfl
    rw [this, List.getElem?_map, List.getElem?_eq_getElem hlt]; rfl
   refine aa _ (wt hv) ?_
   refine aa _ (show ah (.bin .add .int) [iV (st i), iV ([a, b, c, d][i]'hlt)] = some (iV (IntKind.i64.wrap (st i + ([a, b, c, d][i]'hlt)))) from rfl) ?_
   refine aa _ (aW (by omega)) (bZ (by simp [Eqs, E]) hlt ⟨?_, rfl⟩)
   show _ = iV (st (i + 1))
   simp only [st]
   rw [List.take_add_one, List.getElem?_eq_getElem (show i < [a, b, c, d].length from hlt), Option.toList_some, List.foldl_append]; rfl
  ·have : i = 4 := by have := of_decide_eq_false hb; omega
   subst this
   exact af ⟨rfl, rfl⟩
 ·rintro rfl rfl rfl rfl
  decide
theorem zb (a b c d e : Int) : ∃ s, (∀ H O, RetO PP mc [.agg #[iV a, iV b, iV c, iV d, iV e]] H O (iV s)) ∧ (a = 0 → b = 0 → c = 0 → d = 0 → e = 0 → s = 0) := by
 obtain ⟨s, h1, h2⟩ := A8 a b c d
 refine ⟨if wb a b c d e then IntKind.i64.wrap (s + e) else 0, fun H O => ?_, fun ha hb hc hd he => ?_⟩
 ·refine oq (vs := [iV a, iV b, iV c, iV d, iV e]) (by kernel_rfl) ⟨rfl, rfl, rfl, rfl, rfl, trivial⟩ ?_
  simp only [lS]
  refine ai fun r0 => ?_
  refine ab ?_
  refine al (nP a b c d e _ _) rfl ⟨rfl, trivial⟩ fun H1 l1 => ?_
  refine aa _ (aD _) (aj (fun hx => ?_) (fun hx => ?_))
  ·exact af ⟨by rw [show wb a b c d e = false from zT hx]; rfl, rfl⟩
  ·refine ab (ab ?_)
   refine al (h1 _ _) rfl ⟨rfl, trivial⟩ fun H2 l2 => ?_
   refine aa _ (show ah (.bin .add .int) [iV s, iV e] = some (iV (IntKind.i64.wrap (s + e))) from rfl) (af ⟨?_, rfl⟩)
   rw [if_pos (show wb a b c d e = true from zG hx)]
 ·subst ha; subst hb; subst hc; subst hd; subst he
  rw [h2 rfl rfl rfl rfl]
  decide
def xK (c : CdF) : Bool := ((c.pw == 0 && c.tn == 0) && c.ks == 0) && (c.trs.length : Int) == 0
theorem sF {H : Heap} {es ts : Value} {c : CdF} (h1 : es.oneCell' = true) (h2 : TrsF H ts c.trs) (O : Go.Sx.Own) : RetO PP mi [.agg (my c es ts).toArray] H O (.bool (xK c)) := by
 refine ox (vs := my c es ts) (by kernel_rfl) (j7 h1 h2.len.2.1) ?_
 simp only [lX]
 refine ai fun r0 => ?_
 refine ab ?_
 refine aa _ (av _ _) ?_
 refine ab (ae (ae ?_))
 refine aa _ (av _ _) ?_
 refine ae ?_
 refine aa _ (aJ _ _) ?_
 refine ab (ae (ae ?_))
 refine aa _ (av _ _) ?_
 refine ae ?_
 refine aa _ (aJ _ _) ?_
 refine ab (ae (ae ?_))
 refine aa _ h2.len.1 ?_
 refine ae ?_
 refine aa _ (av _ _) ?_
 refine ae ?_
 refine aa _ (aJ _ _) ?_
 exact af ⟨rfl, rfl⟩
def vR (c : CdF) : Prop := iQ c.nm = true ∧ wi c.rar 1 4 = true ∧ wb c.c0 c.c1 c.c2 c.c3 c.any = true ∧ AO c.effs = true ∧ xK c = true ∧
 ((c.kind = 1 ∧ wi c.makes 0 3 = true ∧ c.c0 = 0 ∧ c.c1 = 0 ∧ c.c2 = 0 ∧ c.c3 = 0 ∧ c.any = 0 ∧ c.effs.length = 0) ∨ ((c.kind = 3 ∨ c.kind = 4) ∧ c.makes = 0 ∧ 0 < c.effs.length ∧ c.effs.any A5 = false))
def Bh (c : CdF) (b : Bool) : Prop := (b = true → iQ c.nm = true ∧ 1 ≤ c.kind ∧ c.kind ≤ 4) ∧ (vR c → b = true)
def Bi (c : CdF) (x : Value) (_ : Heap) (O' : Go.Sx.Own) : Prop := (∃ b, x = .bool b ∧ Bh c b) ∧ O' = []
theorem fo {c : CdF} {H : Heap} (h : ¬ vR c) : Bi c (.bool false) H [] := ⟨⟨false, rfl, (fun e => by cases e), fun g => absurd g h⟩, rfl⟩
theorem wF {c : CdF} {H : Heap} {b : Bool} (h : iQ c.nm = true) (hk : 1 ≤ c.kind ∧ c.kind ≤ 4) (hg : vR c → b = true) : Bi c (.bool b) H [] := ⟨⟨b, rfl, fun _ => ⟨h, hk⟩, hg⟩, rfl⟩
theorem zd {H : Heap} {r : List Value} {c : CdF} (h : CdRF H r c) : Triple PP jp [.agg r.toArray] H [] (Bi c) := by
 obtain ⟨es, ts, rfl, he, ht⟩ := h
 refine oC (vs := my c es ts) (by kernel_rfl) (j7 he.one ht.len.2.1) ?_
 simp only [ma]
 refine ai fun r0 => ?_
 refine ab ?_
 refine al (y8 c.nm _ _) rfl ⟨rfl, trivial⟩ fun H1 l1 => ?_
 refine aa _ (aD _) (aj (fun hd => ?_) (fun hd => ?_))
 ·exact af (fo fun g => by rw [g.1] at hd; cases hd)
 have hn : iQ c.nm = true := zG hd
 refine ab ?_
 refine al (fe c.rar 1 4 _ _) rfl ⟨rfl, trivial⟩ fun H2 l2 => ?_
 refine aa _ (aD _) (aj (fun hd => ?_) (fun hd => ?_))
 ·exact af (fo fun g => by rw [g.2.1] at hd; cases hd)
 refine ab ?_
 refine al (nP c.c0 c.c1 c.c2 c.c3 c.any _ _) rfl ⟨rfl, trivial⟩ fun H3 l3 => ?_
 refine aa _ (aD _) (aj (fun hd => ?_) (fun hd => ?_))
 ·exact af (fo fun g => by rw [g.2.2.1] at hd; cases hd)
 have he3 := he.le (Heap.le_trans l1 (Heap.le_trans l2 l3))
 refine ab ?_
 refine al (As he3) rfl ⟨rfl, trivial⟩ fun H4 l4 => ?_
 refine aa _ (aD _) (aj (fun hd => ?_) (fun hd => ?_))
 ·exact af (fo fun g => by rw [g.2.2.2.1] at hd; cases hd)
 have he4 := he3.le l4
 have ht4 := ht.le (Heap.le_trans l1 (Heap.le_trans l2 (Heap.le_trans l3 l4)))
 obtain ⟨e1, e2⟩ := nE he4
 obtain ⟨sv, hsv, hsv0⟩ := zb c.c0 c.c1 c.c2 c.c3 c.any
 refine ab ?_
 refine aa _ (av _ _) (aj (fun h1 => ?_) (fun h1 => ?_))
 ·have hk : c.kind = 1 := by simpa using h1
  have hkk : 1 ≤ c.kind ∧ c.kind ≤ 4 := by omega
  refine ab ?_
  refine al (fe c.makes 0 3 _ _) rfl ⟨rfl, trivial⟩ fun H5 l5 => aj (fun hd => ?_) (fun hd => ?_)
  rotate_left
  ·refine af (fo fun g => ?_)
   rcases g.2.2.2.2.2 with ⟨_, g, _⟩ | ⟨g, _⟩
   ·rw [g] at hd; cases hd
   ·omega
  refine ab ?_
  refine al (hsv _ _) rfl ⟨rfl, trivial⟩ fun H6 l6 => ?_
  refine aa _ (av _ _) ?_
  refine ab (ae (ae ?_))
  refine aa _ e1 ?_
  refine ae ?_
  refine aa _ (av _ _) ?_
  refine ae ?_
  refine aa _ (aJ _ _) (aj (fun hd2 => ?_) (fun hd2 => ?_))
  rotate_left
  ·refine af (fo fun g => ?_)
   rcases g.2.2.2.2.2 with ⟨_, _, g0, g1, g2, g3, g4, g5⟩ | ⟨g, _⟩
   ·rw [hsv0 g0 g1 g2 g3 g4, g5] at hd2; cases hd2
   ·omega
  refine ab ?_
  refine al (sF he4.one (ht4.le (Heap.le_trans l5 l6)) _) rfl ⟨rfl, trivial⟩ fun H7 l7 => ?_
  exact af (wF hn hkk fun g => g.2.2.2.2.1)
 have n1 : c.kind ≠ 1 := by simpa using h1
 refine aa _ (av _ _) (aj (fun h1 => ?_) (fun h1 => ?_))
 ·have hk : c.kind = 2 := by simpa using h1
  have hkk : 1 ≤ c.kind ∧ c.kind ≤ 4 := by omega
  have hng : ¬ vR c := fun g => by
   rcases g.2.2.2.2.2 with ⟨g, _⟩ | ⟨g, _⟩ <;> omega
  refine ab ?_
  refine aa _ (av _ _) (aj (fun _ => ?_) (fun _ => af (fo hng)))
  refine ab ?_
  refine al (fe c.pw 0 20 _ _) rfl ⟨rfl, trivial⟩ fun H5 l5 => aj (fun _ => ?_) (fun _ => af (fo hng))
  refine ab ?_
  refine al (fe c.tn 1 20 _ _) rfl ⟨rfl, trivial⟩ fun H6 l6 => ?_
  refine ab (ae (ae ?_))
  refine aa _ (show ah (.bin .andNot .int) [iV c.ks, iV 15] = some (iV _) from rfl) ?_
  refine ae ?_
  refine aa _ (av _ _) ?_
  refine ae ?_
  refine aa _ (aJ _ _) (aj (fun _ => ?_) (fun _ => af (fo hng)))
  refine ab ?_
  refine nM (uC (ht4.le (Heap.le_trans l5 l6))) (by rintro _ ⟨n, rfl⟩; rfl) ?_
  rintro _ H7 ⟨b, rfl⟩ l7
  exact af (wF hn hkk fun g => absurd g hng)
 have n2 : c.kind ≠ 2 := by simpa using h1
 refine aa _ (av _ _) (aj (fun h1 => ?_) (fun h1 => ?_))
 ·have hk : c.kind = 3 := by simpa using h1
  have hkk : 1 ≤ c.kind ∧ c.kind ≤ 4 := by omega
  refine aj (fun _ => ?_) (fun hd => by rw [h1] at hd; cases hd)
  refine ab ?_
  refine aa _ (av _ _) ?_
  refine ab (ae (ae ?_))
  refine aa _ e1 ?_
  refine ae ?_
  refine aa _ (ge _ _) ?_
  refine ae ?_
  refine aa _ (aJ _ _) (aj (fun hd2 => ?_) (fun hd2 => ?_))
  rotate_left
  ·refine af (fo fun g => ?_)
   rcases g.2.2.2.2.2 with ⟨g, _⟩ | ⟨_, g0, g1, _⟩
   ·omega
   ·rw [g0] at hd2
    have : decide ((c.effs.length : Int) > 0) = true := decide_eq_true (by omega)
    rw [this] at hd2; cases hd2
  refine ab ?_
  refine al (ew he4 rfl (fJ ib (by decide)) fun H' _ x _ => tK x H') rfl ⟨rfl, trivial⟩ fun H5 l5 => ?_
  refine aa _ (aD _) (aj (fun hd => ?_) (fun hd => ?_))
  rotate_left
  ·refine af (fo fun g => ?_)
   rcases g.2.2.2.2.2 with ⟨g, _⟩ | ⟨_, _, _, g⟩
   ·omega
   ·rw [g] at hd; cases hd
  refine ab ?_
  refine al (sF he4.one (ht4.le l5) _) rfl ⟨rfl, trivial⟩ fun H7 l7 => ?_
  exact af (wF hn hkk fun g => g.2.2.2.2.1)
 have n3 : c.kind ≠ 3 := by simpa using h1
 refine aa _ (av _ _) (aj (fun h1 => ?_) (fun h1 => ?_))
 ·have hk : c.kind = 4 := by simpa using h1
  have hkk : 1 ≤ c.kind ∧ c.kind ≤ 4 := by omega
  refine ab ?_
  refine aa _ (av _ _) ?_
  refine ab (ae (ae ?_))
  refine aa _ e1 ?_
  refine ae ?_
  refine aa _ (ge _ _) ?_
  refine ae ?_
  refine aa _ (aJ _ _) (aj (fun hd2 => ?_) (fun hd2 => ?_))
  rotate_left
  ·refine af (fo fun g => ?_)
   rcases g.2.2.2.2.2 with ⟨g, _⟩ | ⟨_, g0, g1, _⟩
   ·omega
   ·rw [g0] at hd2
    have : decide ((c.effs.length : Int) > 0) = true := decide_eq_true (by omega)
    rw [this] at hd2; cases hd2
  refine ab ?_
  refine al (ew he4 rfl (fJ ib (by decide)) fun H' _ x _ => tK x H') rfl ⟨rfl, trivial⟩ fun H5 l5 => ?_
  refine aa _ (aD _) (aj (fun hd => ?_) (fun hd => ?_))
  rotate_left
  ·refine af (fo fun g => ?_)
   rcases g.2.2.2.2.2 with ⟨g, _⟩ | ⟨_, _, _, g⟩
   ·omega
   ·rw [g] at hd; cases hd
  refine ab ?_
  refine al (sF he4.one (ht4.le l5) _) rfl ⟨rfl, trivial⟩ fun H7 l7 => ?_
  exact af (wF hn hkk fun g => g.2.2.2.2.1)
 have n4 : c.kind ≠ 4 := by simpa using h1
 refine af (fo fun g => ?_)
 rcases g.2.2.2.2.2 with ⟨g, _⟩ | ⟨g, _⟩ <;> omega
section
open Go.RowKit Go.Lib
end
def wh : List Bool → Option Bool
 | [] => some true
 | b :: r => match some b with | some true => wh r | some false => some false | none => none
theorem rm : ∀ l : List Bool, wh l = some (l.all id)
 | [] => rfl
 | true :: r => by simp [wh, rm r]
 | false :: r => by simp [wh]
theorem wV {P : Program} {gd : Gd} {op : PrimOp} {args : List Value} {k : Value → Tree} {H : Heap} {O : Go.Sx.Own} {Q : Value → Heap → Go.Sx.Own → Prop} {v : Value} (h : zQ P op args = some v) (hk : (k v).den P Q H O) :
  (Tree.raw gd op args k).den P Q H O := ⟨v, fun _ w => (s5 h w).1, (s5 h default).2, hk⟩
theorem ldG {P : Program} {gd : Gd} {p : Value} {m : Nat} {k : List Value → Tree} {H : Heap} {O : Go.Sx.Own} {Q : Value → Heap → Go.Sx.Own → Prop} (vs : List Value) (hl : vs.length = m) (ho : Ones vs) (h : On gd → Reads H O p m vs) (hk : (k vs).den P Q H O) : (Tree.load gd p m k).den P Q H O := ⟨vs, hl, ho, h, hk⟩
def lightC (c : CdF) : Prop := c.nm.length ≤ 100 ∧ c.effs.length ≤ 10 ∧ c.trs.length ≤ 5 ∧ ∀ t ∈ c.trs, t.2.length ≤ 10
theorem lightC.lit {c : CdF} (h : lightC c) : xX c := ⟨by have := h.2.1; omega, by have := h.2.2.1; omega, fun t ht => by have := h.2.2.2 t ht; omega⟩
def okN (c : CdF) : Prop := iQ c.nm = true ∧ 1 ≤ c.kind ∧ c.kind ≤ 4
def PoolK (H : Heap) (p : Value) (cs : List CdF) : Prop := PoolF H p cs ∧ ∀ c ∈ cs, okN c
theorem PoolK.le {H H' : Heap} {p : Value} {cs : List CdF} (h : PoolK H p cs) (hl : Heap.le H H') : PoolK H' p cs := ⟨h.1.le hl, h.2⟩
theorem uO {H : Heap} {cs : List CdF} : ww H cs fun i b => ∀ hi : i < cs.length, Bh cs[i] b := fun i hi H' r hl hr hc => (zd hc).mono fun x _ _ _ ⟨⟨b, e, hb⟩, ho⟩ => ⟨⟨b, e, fun _ => hb⟩, ho⟩
theorem Ai {H : Heap} {cv : Value} {cs : List CdF} (h : CardsF H cv cs) (hlit : ∀ c ∈ cs, xX c) : Triple PP gn [cv] H [] fun r H' O' =>
  ((∃ p, r = .tuple #[p, iV 0] ∧ PoolK H' p cs) ∨ (∃ e, r = .tuple #[.pointer none, iV e] ∧ e ≠ 0 ∧ (400 < cs.length ∨ (∃ i, ∃ hi : i < cs.length, Bh cs[i] false) ∨ ¬ (cs.map (·.nm)).Nodup))) ∧ O' = [] := by
 refine (Bc h hlit uO).mono ?_
 rintro r H' O' - ⟨⟨p, e, hp, hv⟩ | ⟨e, h1, h2, h3⟩, ho⟩
 ·refine ⟨.inl ⟨p, e, hp, fun c hc => ?_⟩, ho⟩
  obtain ⟨j, hj, rfl⟩ := List.mem_iff_getElem.1 hc
  exact (hv j hj hj).1 rfl
 ·refine ⟨.inr ⟨e, h1, h2, ?_⟩, ho⟩
  rcases h3 with h3 | ⟨i, hi, h3⟩ | h3
  ·exact .inl h3
  ·exact .inr (.inl ⟨i, hi, h3 hi⟩)
  ·exact .inr (.inr h3)
theorem rU {H : Heap} {r size : Nat} {rows : List (List Value)} {T : TypeId} {n : Nat} (hn : n = rows.length) (h : H r = some (.cells rows.flatten.toArray T (0, 0))) (hl : ∀ row ∈ rows, row.length = size) (ho : ∀ row ∈ rows, Ones row) (hb : rows.length < 2 ^ 63) :
  Sl H size (.slice (some ⟨r, 0, none⟩) n n) rows := by
 subst hn
 refine ⟨_, _, rfl, Nat.le_refl _, hb, fun _ => ⟨_, rfl, fun i row hr => ?_⟩⟩
 have hlt : i < rows.length := (List.getElem?_eq_some_iff.1 hr).1
 have hmul : (i + 1) * size ≤ rows.length * size := Nat.mul_le_mul_right _ hlt
 rw [Nat.add_mul, Nat.one_mul] at hmul
 have hfl := az hl
 refine ⟨?_, hl row (List.mem_of_getElem? hr), ho row (List.mem_of_getElem? hr)⟩
 rw [bj, Nat.zero_add, eR h (by omega), bW hl hr]
def gW : CdF := ⟨[87, 101, 108, 108], 1, 0, 0, 0, 0, 0, 1, 0, 0, 0, [], [], 1⟩
def gJ : CdF := ⟨[74, 111, 108, 116], 4, 1, 0, 0, 0, 0, 0, 0, 0, 0, [⟨1, 5, 3, 0, 0⟩], [], 1⟩
def gF : CdF := ⟨[70, 105, 114, 101], 1, 0, 0, 0, 0, 0, 0, 0, 0, 0, [], [], 1⟩
def aC : List CdF := [gW, gJ, gF]
theorem rN (H : Heap) : TrsF H (.slice none 0 0) [] := ⟨[], Sl.nil _ _, rfl, fun i r t a => by simp at a⟩
theorem za (H : Heap) : Triple PP eF [] H [] fun x H' O' => CardsF H' x aC ∧ O' = [] := by
 refine iu (vs := []) (by kernel_rfl) trivial ?_
 simp only [eB]
 refine ai fun r0 => ai fun r1 => ?_
 refine vi fun H' l hf => ⟨?_, rfl⟩
 have h1 := hf _ List.mem_cons_self
 have h0 := hf _ (List.mem_cons_of_mem _ List.mem_cons_self)
 have he : Sl H' 5 (.slice (some ⟨r0, 0, none⟩) 1 1) (cQ gJ.effs) := Sl.block1 (row := (⟨1, 5, 3, 0, 0⟩ : Eff).row) h0 rfl (jd _)
 have hn : (Value.slice none 0 0).oneCell' = true := rfl
 refine ⟨[my gW (.slice none 0 0) (.slice none 0 0), my gJ (.slice (some ⟨r0, 0, none⟩) 1 1) (.slice none 0 0), my gF (.slice none 0 0) (.slice none 0 0)], rU rfl h1 ?_ ?_ (by simp), rfl, ?_⟩
 ·intro row hr
  simp only [List.mem_cons, List.not_mem_nil, or_false] at hr
  rcases hr with rfl | rfl | rfl <;> rfl
 ·intro row hr
  simp only [List.mem_cons, List.not_mem_nil, or_false] at hr
  rcases hr with rfl | rfl | rfl
  ·exact j7 rfl rfl
  ·exact j7 rfl rfl
  ·exact j7 rfl rfl
 ·intro i r c a b
  match i with
  | 0 => simp [aC] at a b; subst a; subst b; exact ⟨_, _, rfl, Sl.nil _ _, rN _⟩
  | 1 => simp [aC] at a b; subst a; subst b; exact ⟨_, _, rfl, he, rN _⟩
  | 2 => simp [aC] at a b; subst a; subst b; exact ⟨_, _, rfl, Sl.nil _ _, rN _⟩
  | n + 3 => simp at a
theorem vS : ∀ c ∈ aC, xX c := by
 intro c hc
 simp only [aC, List.mem_cons, List.not_mem_nil, or_false] at hc
 rcases hc with rfl | rfl | rfl <;> exact ⟨by decide, by decide, fun t ht => by cases ht⟩
theorem ut : ∀ c ∈ aC, vR c := by
 intro c hc
 simp only [aC, List.mem_cons, List.not_mem_nil, or_false] at hc
 rcases hc with rfl | rfl | rfl
 ·exact ⟨by decide, by decide, by decide, by decide, by decide, .inl ⟨rfl, by decide, rfl, rfl, rfl, rfl, rfl, rfl⟩⟩
 ·exact ⟨by decide, by decide, by decide, by decide, by decide, .inr ⟨.inr rfl, rfl, by decide, by decide⟩⟩
 ·exact ⟨by decide, by decide, by decide, by decide, by decide, .inl ⟨rfl, by decide, rfl, rfl, rfl, rfl, rfl, rfl⟩⟩
theorem Af {H : Heap} {cv : Value} (h : CardsF H cv aC) : Triple PP gn [cv] H [] fun r H' O' => (∃ p, r = .tuple #[p, iV 0] ∧ PoolK H' p aC) ∧ O' = [] := by
 refine (Ai h vS).mono ?_
 rintro r H' O' - ⟨h | ⟨e, _, _, h⟩, ho⟩
 ·exact ⟨h, ho⟩
 ·exfalso
  rcases h with h | ⟨i, hi, h⟩ | h
  ·simp [aC] at h
  ·have := h.2 (ut _ (List.getElem_mem hi))
   cases this
  ·exact h (by decide)
def om : List Cp → Int
 | [] => 0
 | x :: l => x.n + om l
def lF (cs : List CdF) (x : Cp) : Prop := inP cs x.card ∧ 1 ≤ x.n ∧ x.n ≤ 60 ∧ ((jE cs x.card).kind = 1 ∨ x.n ≤ 4)
def zW : Int → List Cp → Prop
 | _, [] => True
 | b, x :: l => b < x.card ∧ zW x.card l
theorem tH {cs : List CdF} : ∀ (l : List Cp) (i : Nat) (n b : Int), (qn cs l i n b).2 = 0 → (∀ x ∈ l, lF cs x) ∧ zW b l ∧ 20 ≤ n + om l ∧ n + om l ≤ 60 ∧ (qn cs l i n b).1 = -1
 | [], i, n, b, h => by
  rw [qn] at h ⊢
  rw [om, Int.add_zero]
  by_cases h1 : n < 20
  ·rw [if_pos h1] at h; cases h
  rw [if_neg h1] at h ⊢
  by_cases h2 : n > 60
  ·rw [if_pos h2] at h; cases h
  rw [if_neg h2] at h ⊢
  exact ⟨fun x hx => (by cases hx), trivial, by omega, by omega, rfl⟩
 | x :: l, i, n, b, h => by
  rw [qn] at h ⊢
  by_cases hw : ia cs x b ≠ 0
  ·rw [if_pos hw] at h
   exact absurd h hw
  rw [if_neg hw] at h ⊢
  obtain ⟨w0, w1, w2, w3, w4⟩ := sO hw
  obtain ⟨h1, h2, h3, h4, h5⟩ := tH l (i + 1) (n + x.n) x.card h
  rw [om]
  refine ⟨fun y hy => ?_, ⟨w3, h2⟩, by omega, by omega, h5⟩
  rcases List.mem_cons.1 hy with rfl | hy
  ·exact ⟨w0, w1, w2, w4⟩
  ·exact h1 y hy
def Bo (cs : List CdF) (l : List Cp) : Prop := (∀ x ∈ l, lF cs x) ∧ zW (-1) l ∧ 20 ≤ om l ∧ om l ≤ 60
theorem yc {cs : List CdF} {l : List Cp} (h : (aM cs l).2 = 0) : Bo cs l ∧ aM cs l = (-1, 0) := by
 obtain ⟨h1, h2, h3, h4, h5⟩ := tH l 0 0 (-1) h
 refine ⟨⟨h1, h2, by omega, by omega⟩, ?_⟩
 show aM cs l = (-1, 0)
 rw [← show (aM cs l).1 = -1 from h5, ← h]
def kB (cs : List CdF) (k : Int) (x : Cp) : Bool := k == 0 || (jE cs x.card).kind == k
def oI (cs : List CdF) (k : Int) : List Cp → Int
 | [] => 0
 | x :: l => (if kB cs k x = true then x.n else 0) + oI cs k l
theorem tG (cs : List CdF) (k : Int) : ∀ a b : List Cp, oI cs k (a ++ b) = oI cs k a + oI cs k b
 | [], b => by rw [List.nil_append, oI]; omega
 | x :: a, b => by rw [List.cons_append, oI, oI, tG cs k a b]; omega
theorem wd {cs : List CdF} {k : Int} {l : List Cp} {i : Nat} (hi : i < l.length) : oI cs k (l.take (i + 1)) = oI cs k (l.take i) + (if kB cs k l[i] = true then l[i].n else 0) := by
 rw [List.take_add_one, List.getElem?_eq_getElem hi, Option.toList_some, tG, oI, oI, Int.add_zero]
theorem we {cs : List CdF} {k : Int} : ∀ {l : List Cp}, (∀ x ∈ l, lF cs x) → 0 ≤ oI cs k l ∧ oI cs k l ≤ om l
 | [], _ => by rw [oI, om]; omega
 | x :: l, h => by
  obtain ⟨h1, h2⟩ := we (k := k) (l := l) fun y hy => h y (List.mem_cons_of_mem _ hy)
  obtain ⟨_, h3, _⟩ := h x List.mem_cons_self
  rw [oI, om]
  split <;> omega
theorem yn {cs : List CdF} {l : List Cp} (h : ∀ x ∈ l, lF cs x) (i : Nat) : ∀ x ∈ l.take i, lF cs x := fun x hx => h x (List.mem_of_mem_take hx)
theorem sR : ∀ a b : List Cp, om (a ++ b) = om a + om b
 | [], b => by rw [List.nil_append, om]; omega
 | x :: a, b => by rw [List.cons_append, om, om, sR a b]; omega
theorem rO {cs : List CdF} : ∀ {l : List Cp}, (∀ x ∈ l, lF cs x) → 0 ≤ om l ∧ (l.length : Int) ≤ om l
 | [], _ => by rw [om]; exact ⟨Int.le_refl _, Int.le_refl _⟩
 | x :: l, h => by
  obtain ⟨h1, h2⟩ := rO (l := l) fun y hy => h y (List.mem_cons_of_mem _ hy)
  obtain ⟨_, h3, _⟩ := h x List.mem_cons_self
  rw [om, List.length_cons]
  omega
theorem uQ {cs : List CdF} {l : List Cp} (h : ∀ x ∈ l, lF cs x) (i : Nat) : om (l.take i) ≤ om l := by
 have e := sR (l.take i) (l.drop i)
 rw [List.take_append_drop] at e
 have := (rO (l := l.drop i) fun x hx => h x (List.mem_of_mem_drop hx)).1
 omega
theorem wc {cs : List CdF} {k : Int} {l : List Cp} (h : Bo cs l) (i : Nat) : 0 ≤ oI cs k (l.take i) ∧ oI cs k (l.take i) ≤ 60 := by
 obtain ⟨h1, h2⟩ := we (k := k) (yn h.1 i)
 have := uQ h.1 i
 have := h.2.2.2
 omega
def jI (cs : List CdF) (l : List Cp) (k : Int) : Int × Int := if (aM cs l).2 = 0 then (oI cs k l, 0) else (0, (aM cs l).2)
theorem zl {H : Heap} {p : Value} {cs : List CdF} (h : PoolF H p cs) {v : Value} {l : List Cp} (hl : oo H v l) (hb : l.length ≤ 1000000) (k : Int) : RetO PP mg [p, v, iV k] H [] (zF (jI cs l k)) := by
 refine ov (vs := [p, v, iV k]) (by kernel_rfl) ⟨h.one, hl.one, rfl, trivial⟩ ?_
 simp only [lV]
 obtain ⟨vlen, _⟩ := nH hl
 refine al (qu h hl hb) rfl (vs := [iV (aM cs l).1, iV (aM cs l).2]) ⟨rfl, rfl, trivial⟩ fun H1 l1 => ?_
 refine aa _ (fw _ _) (aj (fun hd => ?_) (fun hd => ?_))
 ·have he : (aM cs l).2 ≠ 0 := by simpa using hd
  exact af ⟨by rw [jI, if_neg he]; rfl, rfl⟩
 have he : (aM cs l).2 = 0 := by simpa using hd
 have hval := (yc he).1
 have h := h.le l1
 have hl := hl.le l1
 refine aa _ vlen ?_
 refine gh l.length (fun i x H' O' => x = iV (oI cs k (l.take i)) ∧ O' = [] ∧ Heap.le H1 H') ⟨rfl, rfl, Heap.le_refl _⟩ ?_
 rintro i _ H2 _ hi - ⟨rfl, rfl, l2⟩
 refine aa _ (bm _ _) (aj (fun hlt => ?_) (fun hge => ?_))
 ·have hlt : i < l.length := by have := of_decide_eq_true hlt; omega
  obtain ⟨a, k1, k2, _, _⟩ := vZ [] (hl.le l2) hlt
  have hs := wd (cs := cs) (k := k) hlt
  have hf := wc (k := k) hval i
  have hf2 := wc (k := k) hval (i + 1)
  obtain ⟨_, w1, w2, _⟩ := hval.1 _ (List.getElem_mem hlt)
  generalize l[i] = x at *
  refine aa _ k1 (ao k2 rfl ⟨rfl, rfl, trivial⟩ (ai fun r0 => ?_))
  refine ab (ab ?_)
  refine bA (qs (h.le l2) x.card) ?_
  rintro _ H3 _ ⟨⟨cells, rfl, c1, c2⟩, rfl⟩ l3
  have hk := c2.nm.2
  refine ⟨cells ++ [iV (gi cs x.card)], mB c1, kq c2.ones ⟨rfl, trivial⟩, ai fun r1 => ?_⟩
  refine ab ?_
  refine aa _ (av _ _) ?_
  refine ab (ae (ae (ae ?_)))
  rw [show g (cells ++ [iV (gi cs x.card)]) 1 = iV (jE cs x.card).kind from (ve c1 (by omega)).trans hk]
  refine aa _ (av _ _) ?_
  refine ae ?_
  refine aa _ (cz _ _) (aj (fun hd => ?_) (fun hd => ?_))
  ·have hd : kB cs k x = true := hd
   rw [if_pos hd] at hs
   refine ab ?_
   refine aa _ (qA (by omega) (by omega)) ?_
   refine aa _ (aW (by omega)) (bZ (by simp [Eqs, E]) hlt ⟨?_, rfl, Heap.le_trans l2 l3⟩)
   rw [hs]
  ·have hd : kB cs k x = false := hd
   rw [if_neg (by rw [hd]; simp), Int.add_zero] at hs
   refine aa _ (aW (by omega)) (bZ (by simp [Eqs, E]) hlt ⟨?_, rfl, Heap.le_trans l2 l3⟩)
   rw [hs]; rfl
 ·have hge : l.length ≤ i := by have := of_decide_eq_false hge; omega
  rw [List.take_of_length_le hge]
  exact af ⟨by rw [jI, if_pos he]; rfl, rfl⟩
theorem xx {H : Heap} {p : Value} {cs : List CdF} (h : PoolF H p cs) {v : Value} {l : List Cp} (hl : oo H v l) (hb : l.length ≤ 1000000) (i e : Int) : RetO PP cJ [p, v, iV i, iV e] H [] (.bool ((aM cs l).1 == i && (aM cs l).2 == e)) := by
 refine gx (vs := [p, v, iV i, iV e]) (by kernel_rfl) ⟨h.one, hl.one, rfl, rfl, trivial⟩ ?_
 simp only [ef]
 refine al (qu h hl hb) rfl (vs := [iV (aM cs l).1, iV (aM cs l).2]) ⟨rfl, rfl, trivial⟩ fun H1 l1 => ?_
 refine aa _ (av _ _) (ae (ae (aa _ (av _ _) (ae (aa _ (aJ _ _) ?_)))))
 exact af ⟨rfl, rfl⟩
theorem xw {H : Heap} {p : Value} {cs : List CdF} (h : PoolF H p cs) {v : Value} {l : List Cp} (hl : oo H v l) (hb : l.length ≤ 1000000) (k i e : Int) : RetO PP cI [p, v, iV k, iV i, iV e] H [] (.bool ((jI cs l k).1 == i && (jI cs l k).2 == e)) := by
 refine gw (vs := [p, v, iV k, iV i, iV e]) (by kernel_rfl) ⟨h.one, hl.one, rfl, rfl, rfl, trivial⟩ ?_
 simp only [ee]
 refine al (zl h hl hb k) rfl (vs := [iV (jI cs l k).1, iV (jI cs l k).2]) ⟨rfl, rfl, trivial⟩ fun H1 l1 => ?_
 refine aa _ (av _ _) (ae (ae (aa _ (av _ _) (ae (aa _ (aJ _ _) ?_)))))
 exact af ⟨rfl, rfl⟩
end Go.Proofs.YtamgiojcbdbokaaGreatDoor
namespace Go.Proofs
open Go.Shelf
def Tryz.sortT_ren : Go.Shelf.Ren := ⟨fun | 6 => 54 | 15 => 88 | 14 => 87 | 28 => 120 | 29 => 121 | 20 => 112 | 21 => 113 | 22 => 114 | 23 => 115 | 24 => 116 | 25 => 117 | 26 => 118 | 27 => 119 | 46 => 157 | 47 => 158 | 48 => 159 | 49 => 160 | 50 => 161 | 57 => 180 | n => n, fun | 22 => 23 | 24 => 77 | 25 => 126 | 3 => 3 | 39 => 127 | 0 => 0 | 53 => 153 | 55 => 156 | 4 => 4 | 46 => 173 | 45 => 172 | 50 => 101 | 5 => 5 | 9 => 9 | 66 => 212 | 70 => 216 | 76 => 244 | 77 => 28 | n => n, fun | n => n⟩
theorem Tryz.sortT : Go.Proofs.SlLaysF0.n6 Tryz.prog Tryz.sortT_ren := {
 mixed := by kernel_rfl
 f6 := ⟨Tryz.f54.name, by decide, Tryz.func54.trans (congrArg some (by kernel_rfl))⟩
 f14 := ⟨Tryz.f87.name, by decide, Tryz.func87.trans (congrArg some (by kernel_rfl))⟩
 f15 := Tryz.func88.trans (congrArg some (by kernel_rfl))
 f20 := ⟨Tryz.f112.name, by decide, Tryz.func112.trans (congrArg some (by kernel_rfl))⟩
 f21 := ⟨Tryz.f113.name, by decide, Tryz.func113.trans (congrArg some (by kernel_rfl))⟩
 f22 := ⟨Tryz.f114.name, by decide, Tryz.func114.trans (congrArg some (by kernel_rfl))⟩
 f23 := ⟨Tryz.f115.name, by decide, Tryz.func115.trans (congrArg some (by kernel_rfl))⟩
 f24 := ⟨Tryz.f116.name, by decide, Tryz.func116.trans (congrArg some (by kernel_rfl))⟩
 f25 := ⟨Tryz.f117.name, by decide, Tryz.func117.trans (congrArg some (by kernel_rfl))⟩
 f26 := ⟨Tryz.f118.name, by decide, Tryz.func118.trans (congrArg some (by kernel_rfl))⟩
 f27 := ⟨Tryz.f119.name, by decide, Tryz.func119.trans (congrArg some (by kernel_rfl))⟩
 f28 := Tryz.func120.trans (congrArg some (by kernel_rfl))
 f29 := Tryz.func121.trans (congrArg some (by kernel_rfl))
 f46 := ⟨Tryz.f157.name, by decide, Tryz.func157.trans (congrArg some (by kernel_rfl))⟩
 f47 := Tryz.func158.trans (congrArg some (by kernel_rfl))
 f48 := Tryz.func159.trans (congrArg some (by kernel_rfl))
 f49 := ⟨Tryz.f160.name, by decide, Tryz.func160.trans (congrArg some (by kernel_rfl))⟩
 f50 := ⟨Tryz.f161.name, by decide, Tryz.func161.trans (congrArg some (by kernel_rfl))⟩
 f57 := ⟨Tryz.f180.name, by decide, Tryz.func180.trans (congrArg some (by kernel_rfl))⟩
 t0 := Tryz.underlying0
 a0 := Tryz.isAgg0
 z0 := Tryz.sizeOf0
 v0 := Tryz.zeroValue0
 t3 := Tryz.underlying3
 a3 := Tryz.isAgg3
 z3 := Tryz.sizeOf3
 v3 := Tryz.zeroValue3
 t4 := Tryz.underlying4
 a4 := Tryz.isAgg4
 z4 := Tryz.sizeOf4
 v4 := Tryz.zeroValue4
 t5 := Tryz.underlying5
 a5 := Tryz.isAgg5
 z5 := Tryz.sizeOf5
 v5 := Tryz.zeroValue5
 t9 := Tryz.underlying9
 a9 := Tryz.isAgg9
 z9 := Tryz.sizeOf9
 v9 := Tryz.zeroValue9
 t22 := Tryz.underlying23
 a22 := Tryz.isAgg23
 z22 := Tryz.sizeOf23
 v22 := Tryz.zeroValue23
 t25 := Tryz.underlying126
 a25 := Tryz.isAgg126
 z25 := Tryz.sizeOf126
 v25 := Tryz.zeroValue126
 t39 := Tryz.underlying127
 a39 := Tryz.isAgg127
 z39 := Tryz.sizeOf127
 v39 := Tryz.zeroValue127
 t45 := Tryz.underlying172
 a45 := Tryz.isAgg172
 z45 := Tryz.sizeOf172
 v45 := Tryz.zeroValue172
 t46 := Tryz.underlying173
 a46 := Tryz.isAgg173
 z46 := Tryz.sizeOf173
 v46 := Tryz.zeroValue173
 t50 := Tryz.underlying101
 a50 := Tryz.isAgg101
 z50 := Tryz.sizeOf101
 v50 := Tryz.zeroValue101
 t53 := Tryz.underlying153
 a53 := Tryz.isAgg153
 z53 := Tryz.sizeOf153
 v53 := Tryz.zeroValue153
 t55 := Tryz.underlying156
 a55 := Tryz.isAgg156
 z55 := Tryz.sizeOf156
 v55 := Tryz.zeroValue156
 t66 := Tryz.underlying212
 a66 := Tryz.isAgg212
 z66 := Tryz.sizeOf212
 v66 := Tryz.zeroValue212
 t70 := Tryz.underlying216
 a70 := Tryz.isAgg216
 z70 := Tryz.sizeOf216
 v70 := Tryz.zeroValue216
 t76 := Tryz.underlying244
 a76 := Tryz.isAgg244
 z76 := Tryz.sizeOf244
 v76 := Tryz.zeroValue244
 t77 := Tryz.underlying28
 a77 := Tryz.isAgg28
 z77 := Tryz.sizeOf28
 v77 := Tryz.zeroValue28 }
def Tryz.cmpInt_ren : Go.Shelf.Ren := ⟨fun | 5 => 56 | 7 => 89 | n => n, fun | 22 => 3 | 3 => 3 | 4 => 4 | n => n, fun | n => n⟩
theorem Tryz.cmpInt : Go.Proofs.SlLaysC2.n5 Tryz.prog Tryz.cmpInt_ren := {
 mixed := by kernel_rfl
 f5 := ⟨Tryz.f56.name, by decide, Tryz.func56.trans (congrArg some (by kernel_rfl))⟩
 f7 := ⟨Tryz.f89.name, by decide, Tryz.func89.trans (congrArg some (by kernel_rfl))⟩
 t3 := Tryz.underlying3
 a3 := Tryz.isAgg3
 z3 := Tryz.sizeOf3
 v3 := Tryz.zeroValue3
 t4 := Tryz.underlying4
 a4 := Tryz.isAgg4
 z4 := Tryz.sizeOf4
 v4 := Tryz.zeroValue4
 t22 := Tryz.underlying3
 a22 := Tryz.isAgg3
 z22 := Tryz.sizeOf3
 v22 := Tryz.zeroValue3 }
def Tryz.sortA_ren : Go.Shelf.Ren := ⟨fun | 5 => 78 | 8 => 88 | 7 => 106 | 19 => 120 | 20 => 121 | 10 => 140 | 11 => 141 | 12 => 142 | 13 => 143 | 14 => 144 | 15 => 145 | 16 => 146 | 17 => 147 | 18 => 148 | 30 => 171 | 31 => 158 | 32 => 159 | 33 => 172 | 34 => 173 | 35 => 89 | 40 => 186 | n => n, fun | 23 => 33 | 25 => 3 | 3 => 3 | 32 => 127 | 22 => 33 | 0 => 0 | 44 => 153 | 46 => 156 | 4 => 4 | 36 => 173 | 35 => 172 | 41 => 101 | 5 => 5 | 9 => 9 | 53 => 212 | 57 => 216 | 63 => 244 | 64 => 28 | n => n, fun | n => n⟩
theorem Tryz.sortA : Go.Proofs.SlLaysM.n5 Tryz.prog Tryz.sortA_ren := {
 mixed := by kernel_rfl
 f5 := ⟨Tryz.f78.name, by decide, Tryz.func78.trans (congrArg some (by kernel_rfl))⟩
 f7 := ⟨Tryz.f106.name, by decide, Tryz.func106.trans (congrArg some (by kernel_rfl))⟩
 f8 := Tryz.func88.trans (congrArg some (by kernel_rfl))
 f10 := ⟨Tryz.f140.name, by decide, Tryz.func140.trans (congrArg some (by kernel_rfl))⟩
 f11 := ⟨Tryz.f141.name, by decide, Tryz.func141.trans (congrArg some (by kernel_rfl))⟩
 f12 := ⟨Tryz.f142.name, by decide, Tryz.func142.trans (congrArg some (by kernel_rfl))⟩
 f13 := ⟨Tryz.f143.name, by decide, Tryz.func143.trans (congrArg some (by kernel_rfl))⟩
 f14 := ⟨Tryz.f144.name, by decide, Tryz.func144.trans (congrArg some (by kernel_rfl))⟩
 f15 := ⟨Tryz.f145.name, by decide, Tryz.func145.trans (congrArg some (by kernel_rfl))⟩
 f16 := ⟨Tryz.f146.name, by decide, Tryz.func146.trans (congrArg some (by kernel_rfl))⟩
 f17 := ⟨Tryz.f147.name, by decide, Tryz.func147.trans (congrArg some (by kernel_rfl))⟩
 f18 := ⟨Tryz.f148.name, by decide, Tryz.func148.trans (congrArg some (by kernel_rfl))⟩
 f19 := Tryz.func120.trans (congrArg some (by kernel_rfl))
 f20 := Tryz.func121.trans (congrArg some (by kernel_rfl))
 f30 := ⟨Tryz.f171.name, by decide, Tryz.func171.trans (congrArg some (by kernel_rfl))⟩
 f31 := Tryz.func158.trans (congrArg some (by kernel_rfl))
 f32 := Tryz.func159.trans (congrArg some (by kernel_rfl))
 f33 := ⟨Tryz.f172.name, by decide, Tryz.func172.trans (congrArg some (by kernel_rfl))⟩
 f34 := ⟨Tryz.f173.name, by decide, Tryz.func173.trans (congrArg some (by kernel_rfl))⟩
 f35 := ⟨Tryz.f89.name, by decide, Tryz.func89.trans (congrArg some (by kernel_rfl))⟩
 f40 := ⟨Tryz.f186.name, by decide, Tryz.func186.trans (congrArg some (by kernel_rfl))⟩
 t0 := Tryz.underlying0
 a0 := Tryz.isAgg0
 z0 := Tryz.sizeOf0
 v0 := Tryz.zeroValue0
 t3 := Tryz.underlying3
 a3 := Tryz.isAgg3
 z3 := Tryz.sizeOf3
 v3 := Tryz.zeroValue3
 t4 := Tryz.underlying4
 a4 := Tryz.isAgg4
 z4 := Tryz.sizeOf4
 v4 := Tryz.zeroValue4
 t5 := Tryz.underlying5
 a5 := Tryz.isAgg5
 z5 := Tryz.sizeOf5
 v5 := Tryz.zeroValue5
 t9 := Tryz.underlying9
 a9 := Tryz.isAgg9
 z9 := Tryz.sizeOf9
 v9 := Tryz.zeroValue9
 t22 := Tryz.underlying33
 a22 := Tryz.isAgg33
 z22 := Tryz.sizeOf33
 v22 := Tryz.zeroValue33
 t23 := Tryz.underlying33
 a23 := Tryz.isAgg33
 z23 := Tryz.sizeOf33
 v23 := Tryz.zeroValue33
 t25 := Tryz.underlying3
 a25 := Tryz.isAgg3
 z25 := Tryz.sizeOf3
 v25 := Tryz.zeroValue3
 t32 := Tryz.underlying127
 a32 := Tryz.isAgg127
 z32 := Tryz.sizeOf127
 v32 := Tryz.zeroValue127
 t35 := Tryz.underlying172
 a35 := Tryz.isAgg172
 z35 := Tryz.sizeOf172
 v35 := Tryz.zeroValue172
 t36 := Tryz.underlying173
 a36 := Tryz.isAgg173
 z36 := Tryz.sizeOf173
 v36 := Tryz.zeroValue173
 t41 := Tryz.underlying101
 a41 := Tryz.isAgg101
 z41 := Tryz.sizeOf101
 v41 := Tryz.zeroValue101
 t44 := Tryz.underlying153
 a44 := Tryz.isAgg153
 z44 := Tryz.sizeOf153
 v44 := Tryz.zeroValue153
 t46 := Tryz.underlying156
 a46 := Tryz.isAgg156
 z46 := Tryz.sizeOf156
 v46 := Tryz.zeroValue156
 t53 := Tryz.underlying212
 a53 := Tryz.isAgg212
 z53 := Tryz.sizeOf212
 v53 := Tryz.zeroValue212
 t57 := Tryz.underlying216
 a57 := Tryz.isAgg216
 z57 := Tryz.sizeOf216
 v57 := Tryz.zeroValue216
 t63 := Tryz.underlying244
 a63 := Tryz.isAgg244
 z63 := Tryz.sizeOf244
 v63 := Tryz.zeroValue244
 t64 := Tryz.underlying28
 a64 := Tryz.isAgg28
 z64 := Tryz.sizeOf28
 v64 := Tryz.zeroValue28 }
end Go.Proofs
namespace Go.Proofs.YtamgiojcbdbokaaGreatDoor
open Go Go.Sx
open Go.Sx (Own)
set_option maxRecDepth 100000
set_option maxHeartbeats 1000000
def ke : Code → Code | .seq x _ => x | c => c
def ek : Code → Code | .seq _ x => x | c => c
def yh : Code → Code | .block _ c => c | c => c
def rfA : Code → Code | .rangeFunc _ _ a _ => a | c => c
def rfB : Code → Code | .rangeFunc _ _ _ b => b | c => c
def rOf (s : SS) (t : Nat) : Nat := match s.tmps t with | .s (.at (.p _ r _)) => r | _ => 0
abbrev opK : uL := to okL [] [] []
theorem kp : ∀ f, opK.okf f = true → kU PP f := nq ib _ _ _
noncomputable def rM : Code := (Tryz.f105.body).getD .skip
def zI (r : Nat) (fv : Value) : SS := { sz := 13, tmps := fun t => if t = 2 then .s (.at (.p 0 r 0)) else if t = 6 then .s (.at (.v fv)) else .s (.at .any), mem := fun n => if n = 0 then some ⟨r, 33, [.any]⟩ else none, next := 50 }
abbrev xn (r : Nat) : List (Nat × Bx × List Nat × Nat) := [(0, ⟨r, 33, [.any]⟩, [0], 0)]
noncomputable def xO (vs : List Value) (C : List Value → Heap → Go.Sx.Own → Prop) : Tree := sx PP opK (ke rM) (e9 PP Tryz.f105 vs) (fun s => sx PP opK (ke (ke (ek rM))) s (fun s => dn 0 C [] [2, 6] (xn (rOf s 2)) (zI (rOf s 2) (g vs 1)) s) (fun _ => none) (fun _ => .stuck 1)) (fun _ => none) (fun _ => .stuck 1)
noncomputable def By (r : Nat) (fv : Value) (Rel : List Int → List Value → Heap → Go.Sx.Own → Prop) : RangeLoop PP opK Int := { h := zI r fv, keep := [2, 6], hb := xn r, p := 7, enc := fun x => .int .i64 x, assign := rfA (yh (ek (ke (ek rM)))), body := rfB (yh (ek (ke (ek rM)))), Rel, RelX := fun _ _ _ => False }
noncomputable def vt (r : Nat) (fv : Value) (v : List Value) : Tree := sx PP opK (ek (ek rM)) (e7 (zI r fv) [] [2, 6] (xn r) v) (dB PP Tryz.f105) (fun _ => none) (dB PP Tryz.f105)
theorem vp (vs : List Value) (C : List Value → Heap → Go.Sx.Own → Prop) : xO vs C = .newbox fun r => .cont 0 C [g vs 0] [([.pointer (some ⟨r, 0, none⟩)], [.pointer (some ⟨r, 0, none⟩)]), ([g vs 1], [g vs 1]), ([.pointer (some ⟨r, 0, none⟩), .tuple #[]], [.pointer (some ⟨r, 0, none⟩), .tuple #[]])] := by kernel_rfl
theorem rY (r : Nat) (fv : Value) (Rel : List Int → List Value → Heap → Go.Sx.Own → Prop) (pre : List Int) (x : Int) (v : List Value) : (By r fv Rel).round pre x v = .chk (.eqN r r) (.newbox fun q => .prim (.bi .append #[33, 33] 33) [g v 0, .slice (some ⟨q, 0, none⟩) 1 1] [⟨q, 3, [iV x]⟩] [] .one fun l _ =>
  .chk (.eqN r r) (.cont 0 (fun vs H O => Cons H O → ∃ H3 O3, Ghost H O H3 O3 ∧ Rel (pre ++ [x]) vs H3 O3) [g l 0] [([.pointer (some ⟨r, 0, none⟩)], [.pointer (some ⟨r, 0, none⟩)]), ([fv], [fv]), ([.pointer (some ⟨r, 0, none⟩), .tuple #[]], [.pointer (some ⟨r, 0, none⟩), .tuple #[]])])) := by kernel_rfl
theorem t8 (r : Nat) (fv : Value) (v : List Value) : vt r fv v = .chk (.eqN r r) (.ret (g v 0) []) := by kernel_rfl
def y0 : Code → Code → Code → Code → Code → Code := fun A B ax bd post => .seq A (.seq (.seq B (.block 0 (.rangeFunc (.tmp 6) #[7] ax bd))) post)
theorem zo : rM = y0 (ke rM) (ke (ke (ek rM))) (rfA (yh (ek (ke (ek rM))))) (rfB (yh (ek (ke (ek rM))))) (ek (ek rM)) := by kernel_rfl
section
open Go.RowKit Go.Shelf
attribute [local go_sem] Oper.semAt_some
theorem wN {H0 : Heap} {sv : Value} {zs : List Int} (hs : Sl H0 1 sv (ba zs)) (hne : zs ≠ []) : ∃ b off cap, sv = .slice (some ⟨b, off, none⟩) zs.length cap ∧ ∀ k, k < zs.length → H0.cell? ⟨b, off + k, none⟩ = some (.int .i64 (zs[k]?.getD 0)) := by
 obtain ⟨a, cap, rfl, h1, h2, h3⟩ := hs
 have hl : (ba zs).length = zs.length := by simp [ba]
 obtain ⟨ad, rfl, hA⟩ := h3 (by intro e; apply hne; have := congrArg List.length e; rw [hl] at this; exact List.eq_nil_of_length_eq_zero this)
 have key : ∀ k, k < zs.length → H0.cell? (ad.add k) = some (.int .i64 (zs[k]?.getD 0)) := by
  intro k hk
  obtain ⟨r1, _, _⟩ := hA k [iV zs[k]] (by simp [ba, hk])
  rw [Nat.mul_one] at r1
  simp only [Heap.read] at r1
  obtain ⟨j, hj, hc⟩ := jv r1 0 (iV zs[k]) rfl
  have : j = 0 := by simpa using hj.symm
  subst this
  rw [lw, Nat.add_zero] at hc
  rw [hc]; simp [hk]
 have h0 := key 0 (List.length_pos_iff.2 hne)
 obtain ⟨b, off, sp⟩ := ad
 have hsp : sp = none := by
  cases sp with
  | none => rfl
  | some x =>
   exfalso
   simp only [Heap.cell?, Addr.add] at h0
   split at h0 <;> simp at h0
 subst hsp
 exact ⟨b, off, cap, by rw [hl], fun k hk => by have := key k hk; rwa [bj] at this⟩
set_option maxHeartbeats 2000000 in
theorem wB (l k1 len cap b off : Nat) (f : Nat → Int) (h8 : len * 8 ≤ 140737488351232) (K : Nat → World → Prop) (Kx : World → Prop)
  (hbox : ∀ k W, K k W → W.cell? ⟨k1, 0, none⟩ = some (.slice (some ⟨b, off, none⟩) len cap)) (hc : ∀ k0 W, K k0 W → ∀ k, k < len → W.cell? ⟨b, off + k, none⟩ = some (.int .i64 (f k)))
  (hY : ∀ k W, k < len → K k W → YieldAt Fence.wide (1 - 1) Tryz.prog l #[.int .i64 (f k)] W fun e W' => (e = .returned (.bool true) ∧ K (k + 1) W') ∨ (e = .returned (.bool false) ∧ Kx W')) (W : World) (h0 : K 0 W) :
  CallsIn Fence.wide 1 Tryz.prog 79 #[.func (.yield l) #[] #[], .pointer (some ⟨k1, 0, none⟩)] W fun e W' => (∃ v, e = .returned v) ∧ (K len W' ∨ Kx W') := by
 have hn : 1 ≤ 1 := Nat.le_refl 1
 have hb0 := hbox 0 W h0
 refine callsIn_of_wp Tryz.func79 rfl trivial ?_ rfl
 simp only [Tryz.ntmps79, List.size_toArray, List.length_cons, List.length_nil, Nat.reduceAdd, Nat.reduceSub, Array.replicate_succ, Array.replicate_zero, List.push_toArray, List.append_toArray, List.nil_append, List.cons_append]
 gi_wp2
 gi_loopw [7] (fun i wr => ∃ k : Nat, k ≤ len ∧ i = .int .i64 k ∧ K k wr)
  (fun i _ => len - (intOf i).toNat)
 case atStart => exact ⟨0, Nat.zero_le _, rfl, h0⟩
 case round =>
  obtain ⟨k, hk, rfl, hJs⟩ := hrel
  have hcx : k < len → wr.cell? ⟨b, off + k, none⟩ = some (.int .i64 (f k)) := fun h => hc _ wr hJs k h
  by_cases hlt : k < len
  ·obtain ⟨fn, tmps, assign, body, hy, hR⟩ := hY k wr hlt hJs
   have hcx' := hcx hlt
   gi_wp2
   refine hR.mono ?_
   rintro e W3 (⟨rfl, hJ3⟩ | ⟨rfl, hJx3⟩)
   ·gi_wp2
    go_roundw
    case rel => exact ⟨k + 1, by omega, by simp, hJ3⟩
    case measure => simp [intOf]; omega
   ·gi_wp2
    refine bodyPost_ret (results_none rfl _ _ _) rfl ?_
    exact ⟨⟨_, rfl⟩, .inr hJx3⟩
  ·obtain rfl : k = len := by omega
   gi_wp2
   go_end0
   exact ⟨⟨_, rfl⟩, .inl hJs⟩
set_option maxHeartbeats 2000000 in
theorem uN (l k1 cap : Nat) (a : Option Addr) (K : Nat → World → Prop) (hbox : ∀ k W, K k W → W.cell? ⟨k1, 0, none⟩ = some (.slice a 0 cap)) (W : World) (h0 : K 0 W) :
  CallsIn Fence.wide 1 Tryz.prog 79 #[.func (.yield l) #[] #[], .pointer (some ⟨k1, 0, none⟩)] W fun e W' => (∃ v, e = .returned v) ∧ K 0 W' := by
 have hb0 := hbox 0 W h0
 refine callsIn_of_wp Tryz.func79 rfl trivial ?_ rfl
 simp only [Tryz.ntmps79, List.size_toArray, List.length_cons, List.length_nil, Nat.reduceAdd, Nat.reduceSub, Array.replicate_succ, Array.replicate_zero, List.push_toArray, List.append_toArray, List.nil_append, List.cons_append]
 gi_wp2
 gi_loopw [7] (fun i wr => i = .int .i64 0 ∧ K 0 wr) (fun _ _ => 0)
 case atStart => exact ⟨rfl, h0⟩
 case round =>
  obtain ⟨rfl, hJs⟩ := hrel
  gi_wp2
  go_end0
  exact ⟨⟨_, rfl⟩, hJs⟩
end
theorem y3 {H H' : Heap} {a : Addr} {v : Value} (hl : Heap.le H H') (h : H.cell? a = some v) : H'.cell? a = some v := by
 simp only [Heap.cell?] at h ⊢
 split at h
 ·rename_i heq
  rw [hl.1 _ _ heq]
  exact h
 ·cases h
theorem nI {f : FuncId} {args : Array Value} {w : World} {R : Ending → World → Prop} {n m : Nat} (h : CallsIn Fence.wide n PP f args w R) : CallsIn (Fr none) m PP f args w R := kE (callsIn_wide.1 h)
theorem sL {H0 : Heap} {sv : Value} {zs : List Int} (hs : Sl H0 1 sv (ba zs)) (hlen : zs.length ≤ 1000) (k1 : Nat) (T : TypeId) :
  Triple PP 105 [.slice none 0 0, .func (.func 79) #[] #[.pointer (some ⟨k1, 0, none⟩)]] H0 [(k1, .cells #[sv] T (0, 0))] fun r _ O' => OSl ff 1 r (ba zs) O' := by
 intro w F hm
 refine (callsIn_wide (n := 0)).1 ?_
 let fv : Value := .func (.func 79) #[] #[.pointer (some ⟨k1, 0, none⟩)]
 let vs : List Value := [.slice none 0 0, fv]
 let o0 : Obj := .cells #[sv] T (0, 0)
 refine callsIn_of_wp_marks (F := Fr none) Tryz.func105 (c := rM) rfl trivial ?_ rfl
 have hC : Conc F (e9 PP Tryz.f105 vs) H0 [(k1, o0)] (Act.mk (vs.toArray ++ Array.replicate (Tryz.f105.ntmps - vs.toArray.size) undef) []) w := lm (args := vs) (vs := vs) (by kernel_rfl) ⟨rfl, rfl, trivial⟩ hm
 have hpre : (xO vs fun v H O => v = [.slice none 0 0] ∧ H = H0 ∧ O = [(k1, o0)]).den PP (fun _ _ _ => True) H0 [(k1, o0)] := by
  rw [vp]
  exact fun r => ⟨by simp [Eqs], rfl, rfl, rfl⟩
 have hout : ∀ a w', ¬ bodyPostM (Fr none) 0 PP Tryz.f105 (fun e w' => ∃ v H' O', e = .returned v ∧ OSl ff 1 v (ba zs) O' ∧ Heap.le H0 H' ∧ Models w' H' (O' ++ F)) .outgrown a w' := by
  rintro a w' ⟨v, H', O', e, _⟩
  cases e
 rw [zo]
 refine wpIn_seq ?_
 rw [← iH (Act.mk _ _)]
 refine cL (ro := none) (d := []) mixed kp (ke rM) (by kernel_rfl) (fun a w h => hout a w h) hpre hC ⟨?_⟩ (fun id kx he => by cases he) ⟨fun s' H' O' a' w' _ _ hd' => hd'.elim⟩
 intro s1 H1 O1 a1 w1 hC1 l1 hd1
 refine wpIn_seq (wpIn_seq ?_)
 refine cL (ro := none) (d := []) mixed kp (ke (ke (ek rM))) (by kernel_rfl) (fun a w h => hout a w h) hd1 hC1 ⟨?_⟩ (fun id kx he => by cases he) ⟨fun s' H' O' a' w' _ _ hd' => hd'.elim⟩
 intro s2 H2 O2 a2 w2 hC2 l2 hd2
 have hokh : ∀ r, (zI r fv).Ok := fun r => ⟨fun t => by
   simp only [zI]
   split
   ·intro b hb; simp [S1.cells] at hb; subst hb; trivial
   ·split
    ·intro b hb; simp [S1.cells] at hb; subst hb; rfl
    ·intro b hb; simp [S1.cells] at hb; subst hb; trivial, fun n b hb a ha => by
   simp only [zI] at hb
   split at hb
   ·cases hb; simp at ha; subst ha; trivial
   ·cases hb⟩
 obtain ⟨⟨b1, rfl, rfl⟩, b2, b3, b4⟩ := dV hd2 hC2 (hokh _) (by
  intro n b cells i hmem
  simp only [List.mem_singleton, Prod.mk.injEq] at hmem
  obtain ⟨rfl, rfl, rfl, rfl⟩ := hmem
  rfl)
 let r := rOf s2 2
 have hrow1 : ∀ x : Int, Ones [iV x] := fun _ => ⟨rfl, trivial⟩
 rw [b1] at b2
 have hCL := rj b2
 let R := By r fv fun pre v H O => ∃ x, v = [x] ∧ OSl ff 1 x (ba pre) O
 have hg : a2.eval (.tmp 6) = fv := by
  have h6 : SV.rel (.s (.at (.v fv))) (a2.tmps.getD 6 undef) := hCL.tm 6
  exact h6
 rw [iH]
 refine wpIn_block (qO (opts := opK) mixed kp R (fun _ _ _ => True) (by kernel_rfl) (by kernel_rfl) (hokh r) ?_ (by show 7 < 13; omega) (fun _ => rfl) (F := F) (k1 := k1) (o0 := o0) (H0 := H2) (O0 := []) (v0 := [.slice none 0 0]) hCL ⟨_, rfl, OSl.nil _ _⟩ (Nx := fun pre x => ∃ k, k < zs.length ∧ pre = zs.take k ∧ x = zs[k]?.getD 0) ?_ ⟨⟨rfl, trivial⟩, rfl⟩ hg (enters_of Tryz.func79 (by kernel_rfl) rfl) (S := fun xs => xs = zs) ?_ ?_ ?_)
 ·intro n b cells i hmem
  have hmem : (n, b, cells, i) ∈ xn r := hmem
  simp only [List.mem_singleton, Prod.mk.injEq] at hmem
  obtain ⟨rfl, rfl, rfl, rfl⟩ := hmem
  rfl
 ·
  rintro pre x v H O ⟨k, hk, rfl, rfl⟩ hv1 hv2 hle ⟨y, rfl, hy⟩
  rw [rY]
  have hkl : (ba (zs.take k)).length = k := by simp [ba]; omega
  refine ab (ai fun q => ?_)
  refine b6 (rows := ba (zs.take k)) (news := [[iV (zs[k]?.getD 0)]]) (O1 := O) (O2 := []) (e := ff) (size := 1) (bytes := 8) (by kernel_rfl) (by simp) hy (fun Hf _ hf => Sl.block1 (hf _ List.mem_cons_self) rfl ⟨rfl, trivial⟩) (by rw [hkl]; simp; omega) (by rw [hkl]; simp; omega) ?_
  intro v' O1' H' l' hO
  refine ab ⟨by simp [Eqs], fun _ => ⟨H', O1' ++ [], Ghost.refl _ _, v', rfl, ?_⟩⟩
  rw [List.append_nil]
  have e : ba (zs.take k ++ [zs[k]?.getD 0]) = ba (zs.take k) ++ [[iV (zs[k]?.getD 0)]] := by simp [ba]
  rw [e]; exact hO
 ·
  intro l K Kx hput hmod hY W hK0
  have hbox : ∀ pre o W, K pre o W → W.heap[k1]? = some o := fun pre o W hK => by
   obtain ⟨H, O, _, hm', hin⟩ := hmod pre o W hK
   exact (hm'.own _ hin).1
  by_cases hne : zs = []
  ·subst hne
   obtain ⟨a, cap, rfl, _⟩ := hs
   refine (nI (uN l k1 cap a (fun _ W => K [] o0 W) (fun k W hK => by simp [World.cell?, hbox _ _ _ hK, o0]; rfl) W hK0)).mono ?_
   rintro e W' ⟨he, hK⟩
   exact ⟨he, .inl ⟨_, _, rfl, hK⟩⟩
  ·obtain ⟨b, off, cap, rfl, hcs⟩ := wN hs hne
   refine (nI (wB l k1 zs.length cap b off (fun k => zs[k]?.getD 0) (by omega) (fun k W => K (zs.take k) o0 W) Kx (fun k W hK => by simp [World.cell?, hbox _ _ _ hK, o0]) (fun k0 W hK k hk => by
    obtain ⟨H, O, hle, hm', _⟩ := hmod _ _ _ hK
    exact hm'.cell? (y3 hle (hcs k hk))) (fun k W hk hK => by
    obtain ⟨fn, tmps, asg, bod, hy, hR⟩ := hY (zs.take k) (zs[k]?.getD 0) o0 W ⟨k, hk, rfl, rfl⟩ hK
    refine ⟨fn, tmps, asg, bod, hy, RoundIn.mono hR ?_⟩
    have e : zs.take (k + 1) = zs.take k ++ [zs[k]?.getD 0] := by rw [List.take_add_one, List.getElem?_eq_getElem hk]; rfl
    rw [e]
    exact fun _ _ h => h) W (by simpa using hK0))).mono ?_
   rintro e W' ⟨he, hK | hK⟩
   ·exact ⟨he, .inl ⟨_, _, rfl, by simpa using hK⟩⟩
   ·exact ⟨he, .inr hK⟩
 ·
  rintro D xs v H O W F' hS hv1 hv2 hle ⟨y, rfl, hy⟩ hCd
  rw [hS] at hy
  have hpost : (vt r fv [y]).den PP (fun r _ O' => OSl ff 1 r (ba zs) O') H O := by
   rw [t8]
   exact ab (af hy)
  refine (show (ek (ek rM)).wpIn (Fr none) 0 PP _ (shift [Go.Sx.mark D] a2) W from ?_)
  refine cL (ro := none) (d := [Go.Sx.mark D]) mixed kp (ek (ek rM)) (by kernel_rfl) hout hpost hCd ⟨?_⟩ (fun id kx he => by cases he) ⟨?_⟩
  ·intro s' H' O' a' w' hC' hle' hd'
   refine gX hC' hd' ?_
   intro v H'' O'' w'' hq hl' hm'
   exact ⟨v, H'', O'', rfl, hq, Heap.le_trans hle (Heap.le_trans hle' hl'), hm'.sub (List.Sublist.append_left (List.sublist_append_right _ _) _)⟩
  ·intro s' H' O' a' w' hC' hle' hd'
   refine gX hC' hd' ?_
   intro v H'' O'' w'' hq hl' hm'
   exact ⟨v, H'', O'', rfl, hq, Heap.le_trans hle (Heap.le_trans hle' hl'), hm'.sub (List.Sublist.append_left (List.sublist_append_right _ _) _)⟩
 ·rintro D v H O W F' _ _ _ h
  exact h.elim
end Go.Proofs.YtamgiojcbdbokaaGreatDoor
