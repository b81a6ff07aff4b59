/- The library's contracts at this program, laid: printed by the kit's tool. -/
import Derived.Shelf.Strings.Builder1
import Derived.Shelf.Strings.Trim
import Derived.Shelf.Small.Utf8
import Derived.Shelf.Small.Bits
import Derived.Shelf.Small.Strs
import Derived.Shelf.Small.Wraps
import Derived.Shelf.Strings.BuilderF
import Derived.Shelf.Strings.BuilderK
import Derived.Shelf.Strconv.Atoi
import Derived.Shelf.Strconv.Itoa0
import Derived.Shelf.Strconv.Itoa1
import Derived.Shelf.LaysM
import Derived.Shelf.Strconv.Itoa2
import Derived.Shelf.Strconv.Itoa3
import Derived.Shelf.Strconv.AtoiErrFast
import Derived.Shelf.Strconv.ParseIntEmpty
import Derived.Shelf.Strconv.AtoiFail
import Derived.Shelf.Strconv.Clone
import Derived.Shelf.Strconv.SyntaxError
import Derived.Shelf.LaysC
import Derived.Shelf.Strconv.ToError
import Derived.Shelf.Strconv.Lower
import Derived.Shelf.Strconv.ParseUint10
import Derived.Shelf.Strconv.ParseUint10Empty
import Derived.Shelf.Strconv.ParseUint10Any
import Derived.Shelf.Strconv.ParseInt10
import Derived.Shelf.Strconv.AtoiLong
import Derived.Shelf.Strconv.AtoiInnerAll
import Derived.Shelf.Strconv.RangeError
import Derived.Shelf.Strconv.ToErrorRange
import Derived.Shelf.Strconv.AtoiAll
import Derived.Shelf.Strconv.ErrVarAll
import Derived.Shelf.Strings.Search1
import Derived.Shelf.Strings.Search2
import Derived.Shelf.Strings.Cut
import Derived.Shelf.Strings.Shaped
import Derived.Shelf.Strings.Prefix
import Derived.Shelf.Strings.Runes
import Derived.Shelf.Strings.AsciiSet
import Derived.Shelf.Bits.Mul64
import Derived.Shelf.Unicode.DecodeSlow
import Derived.Ground.SlgmProg
import Derived.Shelf.SortM.Plain
import Derived.Shelf.SortM.SortNone
import Derived.Test.YtamgiojcbdbokaaGreatDoorProg
import Derived.Test.YtamgiojcbdbokaaGreatDoorD4
import Derived.Test.YtamgiojcbdbokaaGreatDoorBTW
import Derived.WalkKit
namespace Go.Proofs
open Go.Shelf
def Tryz.lays160_ren : Go.Shelf.Ren := ⟨fun | 160 => 96 | 232 => 131 | 231 => 130 | 227 => 132 | 234 => 134 | 233 => 133 | 236 => 136 | 235 => 135 | 228 => 166 | 271 => 169 | 151 => 168 | 197 => 167 | 120 => 185 | 152 => 184 | 260 => 183 | 137 => 81 | 119 => 190 | 224 => 175 | 225 => 174 | 217 => 107 | 266 => 149 | n => n, fun | 9 => 9 | 4 => 4 | 3 => 3 | 5 => 5 | 117 => 190 | 116 => 189 | 0 => 0 | 124 => 193 | 21 => 21 | 105 => 224 | 46 => 127 | 119 => 255 | 139 => 258 | 138 => 257 | n => n, fun | 3 => 6 | 4 => 7 | n => n⟩
theorem Tryz.lays160 : Go.Proofs.Lays.n160 Tryz.prog Tryz.lays160_ren := {
 mixed := by kernel_rfl
 f119 := Tryz.func190.trans (congrArg some (by kernel_rfl))
 f120 := Tryz.func185.trans (congrArg some (by kernel_rfl))
 f137 := Tryz.func81.trans (congrArg some (by kernel_rfl))
 f151 := Tryz.func168.trans (congrArg some (by kernel_rfl))
 f152 := Tryz.func184.trans (congrArg some (by kernel_rfl))
 f160 := Tryz.func96.trans (congrArg some (by kernel_rfl))
 f197 := Tryz.func167.trans (congrArg some (by kernel_rfl))
 f217 := Tryz.func107.trans (congrArg some (by kernel_rfl))
 f224 := Tryz.func175.trans (congrArg some (by kernel_rfl))
 f225 := Tryz.func174.trans (congrArg some (by kernel_rfl))
 f227 := Tryz.func132.trans (congrArg some (by kernel_rfl))
 f228 := Tryz.func166.trans (congrArg some (by kernel_rfl))
 f231 := Tryz.func130.trans (congrArg some (by kernel_rfl))
 f232 := Tryz.func131.trans (congrArg some (by kernel_rfl))
 f233 := Tryz.func133.trans (congrArg some (by kernel_rfl))
 f234 := Tryz.func134.trans (congrArg some (by kernel_rfl))
 f235 := Tryz.func135.trans (congrArg some (by kernel_rfl))
 f236 := Tryz.func136.trans (congrArg some (by kernel_rfl))
 f260 := Tryz.func183.trans (congrArg some (by kernel_rfl))
 f266 := Tryz.func149.trans (congrArg some (by kernel_rfl))
 f271 := Tryz.func169.trans (congrArg some (by kernel_rfl))
 t0 := Tryz.underlying0
 a0 := Tryz.isAgg0
 z0 := Tryz.sizeOf0
 v0 := Tryz.zeroValue0
 t3 := Tryz.underlying3
 a3 := Tryz.isAgg3
 z3 := Tryz.sizeOf3
 v3 := Tryz.zeroValue3
 t4 := Tryz.underlying4
 a4 := Tryz.isAgg4
 z4 := Tryz.sizeOf4
 v4 := Tryz.zeroValue4
 t5 := Tryz.underlying5
 a5 := Tryz.isAgg5
 z5 := Tryz.sizeOf5
 v5 := Tryz.zeroValue5
 t9 := Tryz.underlying9
 a9 := Tryz.isAgg9
 z9 := Tryz.sizeOf9
 v9 := Tryz.zeroValue9
 t21 := Tryz.underlying21
 a21 := Tryz.isAgg21
 z21 := Tryz.sizeOf21
 v21 := Tryz.zeroValue21
 t46 := Tryz.underlying127
 a46 := Tryz.isAgg127
 z46 := Tryz.sizeOf127
 v46 := Tryz.zeroValue127
 t105 := Tryz.underlying224
 a105 := Tryz.isAgg224
 z105 := Tryz.sizeOf224
 v105 := Tryz.zeroValue224
 t116 := Tryz.underlying189
 a116 := Tryz.isAgg189
 z116 := Tryz.sizeOf189
 t117 := Tryz.underlying190
 a117 := Tryz.isAgg190
 z117 := Tryz.sizeOf190
 v117 := Tryz.zeroValue190
 t119 := Tryz.underlying255
 a119 := Tryz.isAgg255
 z119 := Tryz.sizeOf255
 t124 := Tryz.underlying193
 a124 := Tryz.isAgg193
 z124 := Tryz.sizeOf193
 v124 := Tryz.zeroValue193
 t138 := Tryz.underlying257
 a138 := Tryz.isAgg257
 z138 := Tryz.sizeOf257
 v138 := Tryz.zeroValue257
 t139 := Tryz.underlying258
 a139 := Tryz.isAgg258
 z139 := Tryz.sizeOf258
 v139 := Tryz.zeroValue258
 g3 := by kernel_rfl
 g4 := by kernel_rfl }
open Go.RowKit in
theorem Tryz.strings_Trim_one (s : ByteArray) (c : UInt8) (hc : c.toNat < 128) (w : World) (hs : s.size ≤ 9223372036854775807) :
  Calls Tryz.prog 96 #[.string s, .string ⟨#[c]⟩] w fun e w' => e = .returned (.string ⟨(Lib.trimB s.data.toList c).toArray⟩) ∧ (w' = w ∨ w' = w.drew) := Any.strings_Trim_one Tryz.lays160 s c hc w hs
def Tryz.lays104_ren : Go.Shelf.Ren := ⟨fun | 104 => 82 | 211 => 108 | 207 => 150 | n => n, fun | 9 => 9 | 4 => 4 | 24 => 145 | 3 => 3 | n => n, fun | n => n⟩
theorem Tryz.lays104 : Go.Proofs.Lays.n104 Tryz.prog Tryz.lays104_ren := {
 mixed := by kernel_rfl
 f104 := Tryz.func82.trans (congrArg some (by kernel_rfl))
 f207 := Tryz.func150.trans (congrArg some (by kernel_rfl))
 f211 := Tryz.func108.trans (congrArg some (by kernel_rfl))
 t3 := Tryz.underlying3
 a3 := Tryz.isAgg3
 z3 := Tryz.sizeOf3
 v3 := Tryz.zeroValue3
 t4 := Tryz.underlying4
 a4 := Tryz.isAgg4
 z4 := Tryz.sizeOf4
 v4 := Tryz.zeroValue4
 t9 := Tryz.underlying9
 a9 := Tryz.isAgg9
 z9 := Tryz.sizeOf9
 v9 := Tryz.zeroValue9
 t24 := Tryz.underlying145
 a24 := Tryz.isAgg145
 z24 := Tryz.sizeOf145
 v24 := Tryz.zeroValue145 }
open Go.RowKit in
theorem Tryz.strings_CutSuffix (s p : ByteArray) (w : World) (hs : s.size ≤ 9223372036854775807) :
  Calls Tryz.prog 82 #[.string s, .string p] w fun e w' => e = .returned (.tuple #[.string ⟨(Lib.trimSuffix s.data.toList p.data.toList).toArray⟩, .bool (Lib.hasSuffix s.data.toList p.data.toList)]) ∧ w' = w := Any.strings_CutSuffix Tryz.lays104 s p w hs
def Tryz.lays137_ren : Go.Shelf.Ren := ⟨fun | 137 => 81 | 217 => 107 | 266 => 149 | n => n, fun | 9 => 9 | 5 => 5 | 3 => 3 | n => n, fun | n => n⟩
theorem Tryz.lays137 : Go.Proofs.Lays.n137 Tryz.prog Tryz.lays137_ren := {
 mixed := by kernel_rfl
 f137 := Tryz.func81.trans (congrArg some (by kernel_rfl))
 f217 := Tryz.func107.trans (congrArg some (by kernel_rfl))
 f266 := Tryz.func149.trans (congrArg some (by kernel_rfl))
 t3 := Tryz.underlying3
 a3 := Tryz.isAgg3
 z3 := Tryz.sizeOf3
 v3 := Tryz.zeroValue3
 t5 := Tryz.underlying5
 a5 := Tryz.isAgg5
 z5 := Tryz.sizeOf5
 v5 := Tryz.zeroValue5
 t9 := Tryz.underlying9
 a9 := Tryz.isAgg9
 z9 := Tryz.sizeOf9
 v9 := Tryz.zeroValue9 }
open Go.RowKit in
theorem Tryz.strings_IndexByte (s : ByteArray) (c : Int) (w : World) :
  Calls Tryz.prog 81 #[.string s, .int .u8 c] w fun e w' => e = .returned (.int .i64 (Lib.indexByte s.data.toList c.toNat.toUInt8)) ∧ w' = w := Any.strings_IndexByte Tryz.lays137 s c w
def Tryz.lays145_ren : Go.Shelf.Ren := ⟨fun | 145 => 83 | 220 => 109 | 219 => 151 | 217 => 107 | 225 => 174 | 224 => 175 | 267 => 176 | 266 => 149 | 314 => 187 | n => n, fun | 9 => 9 | 4 => 4 | 59 => 147 | 3 => 3 | 5 => 5 | 46 => 127 | 146 => 154 | 51 => 153 | n => n, fun | 1 => 1 | n => n⟩
theorem Tryz.lays145 : Go.Proofs.Lays.n145 Tryz.prog Tryz.lays145_ren := {
 mixed := by kernel_rfl
 f145 := Tryz.func83.trans (congrArg some (by kernel_rfl))
 f217 := Tryz.func107.trans (congrArg some (by kernel_rfl))
 f219 := Tryz.func151.trans (congrArg some (by kernel_rfl))
 f220 := Tryz.func109.trans (congrArg some (by kernel_rfl))
 f224 := Tryz.func175.trans (congrArg some (by kernel_rfl))
 f225 := Tryz.func174.trans (congrArg some (by kernel_rfl))
 f266 := Tryz.func149.trans (congrArg some (by kernel_rfl))
 f267 := Tryz.func176.trans (congrArg some (by kernel_rfl))
 f314 := Tryz.func187.trans (congrArg some (by kernel_rfl))
 t3 := Tryz.underlying3
 a3 := Tryz.isAgg3
 z3 := Tryz.sizeOf3
 v3 := Tryz.zeroValue3
 t4 := Tryz.underlying4
 a4 := Tryz.isAgg4
 z4 := Tryz.sizeOf4
 v4 := Tryz.zeroValue4
 t5 := Tryz.underlying5
 a5 := Tryz.isAgg5
 z5 := Tryz.sizeOf5
 v5 := Tryz.zeroValue5
 t9 := Tryz.underlying9
 a9 := Tryz.isAgg9
 z9 := Tryz.sizeOf9
 v9 := Tryz.zeroValue9
 t46 := Tryz.underlying127
 a46 := Tryz.isAgg127
 z46 := Tryz.sizeOf127
 v46 := Tryz.zeroValue127
 t51 := Tryz.underlying153
 a51 := Tryz.isAgg153
 z51 := Tryz.sizeOf153
 v51 := Tryz.zeroValue153
 t59 := Tryz.underlying147
 a59 := Tryz.isAgg147
 z59 := Tryz.sizeOf147
 v59 := Tryz.zeroValue147
 t146 := Tryz.underlying154
 a146 := Tryz.isAgg154
 z146 := Tryz.sizeOf154
 v146 := Tryz.zeroValue154
 g1 := by kernel_rfl }
open Go.RowKit Go.Lib in
theorem Tryz.strings_Cut (s sep : ByteArray) (m : Int) (w : World) (hs : s.size < 4294967281) (hm : w.cell? ⟨1, 0, none⟩ = some (.int .i64 m)) :
  Calls Tryz.prog 83 #[.string s, .string sep] w fun e w' => e = .returned (.tuple #[.string ⟨(Lib.cut s.data.toList sep.data.toList).1.toArray⟩, .string ⟨(Lib.cut s.data.toList sep.data.toList).2.1.toArray⟩, .bool (Lib.cut s.data.toList sep.data.toList).2.2]) ∧ ∃ n, w' = w.drewN n := Any.strings_Cut Tryz.lays145 s sep m w hs hm
def Tryz.laysM171_ren : Go.Shelf.Ren := ⟨fun | 171 => 40 | 243 => 60 | 246 => 93 | 283 => 122 | 284 => 123 | 285 => 124 | 286 => 125 | 129 => 121 | 317 => 162 | 318 => 163 | 319 => 164 | 320 => 165 | 337 => 181 | 338 => 182 | n => n, fun | 3 => 3 | 9 => 9 | 2 => 2 | 4 => 4 | 171 => 180 | 0 => 0 | 53 => 156 | 37 => 92 | 5 => 5 | 173 => 182 | 212 => 220 | 51 => 153 | 20 => 20 | 213 => 221 | 46 => 127 | 232 => 253 | 233 => 254 | n => n, fun | 17 => 0 | 18 => 4 | 19 => 5 | n => n⟩
theorem Tryz.laysM171 : Go.Proofs.LaysM.n171 Tryz.prog Tryz.laysM171_ren := {
 mixed := by kernel_rfl
 f129 := Tryz.func121.trans (congrArg some (by kernel_rfl))
 f171 := Tryz.func40.trans (congrArg some (by kernel_rfl))
 f243 := Tryz.func60.trans (congrArg some (by kernel_rfl))
 f246 := Tryz.func93.trans (congrArg some (by kernel_rfl))
 f283 := Tryz.func122.trans (congrArg some (by kernel_rfl))
 f284 := Tryz.func123.trans (congrArg some (by kernel_rfl))
 f285 := Tryz.func124.trans (congrArg some (by kernel_rfl))
 f286 := Tryz.func125.trans (congrArg some (by kernel_rfl))
 f317 := Tryz.func162.trans (congrArg some (by kernel_rfl))
 f318 := Tryz.func163.trans (congrArg some (by kernel_rfl))
 f319 := Tryz.func164.trans (congrArg some (by kernel_rfl))
 f320 := Tryz.func165.trans (congrArg some (by kernel_rfl))
 f337 := Tryz.func181.trans (congrArg some (by kernel_rfl))
 f338 := Tryz.func182.trans (congrArg some (by kernel_rfl))
 t0 := Tryz.underlying0
 a0 := Tryz.isAgg0
 z0 := Tryz.sizeOf0
 v0 := Tryz.zeroValue0
 t2 := Tryz.underlying2
 a2 := Tryz.isAgg2
 z2 := Tryz.sizeOf2
 v2 := Tryz.zeroValue2
 t3 := Tryz.underlying3
 a3 := Tryz.isAgg3
 z3 := Tryz.sizeOf3
 v3 := Tryz.zeroValue3
 t4 := Tryz.underlying4
 a4 := Tryz.isAgg4
 z4 := Tryz.sizeOf4
 v4 := Tryz.zeroValue4
 t5 := Tryz.underlying5
 a5 := Tryz.isAgg5
 z5 := Tryz.sizeOf5
 v5 := Tryz.zeroValue5
 t9 := Tryz.underlying9
 a9 := Tryz.isAgg9
 z9 := Tryz.sizeOf9
 v9 := Tryz.zeroValue9
 t20 := Tryz.underlying20
 a20 := Tryz.isAgg20
 z20 := Tryz.sizeOf20
 v20 := Tryz.zeroValue20
 t37 := Tryz.underlying92
 a37 := Tryz.isAgg92
 z37 := Tryz.sizeOf92
 v37 := Tryz.zeroValue92
 t46 := Tryz.underlying127
 a46 := Tryz.isAgg127
 z46 := Tryz.sizeOf127
 v46 := Tryz.zeroValue127
 t51 := Tryz.underlying153
 a51 := Tryz.isAgg153
 z51 := Tryz.sizeOf153
 v51 := Tryz.zeroValue153
 t53 := Tryz.underlying156
 a53 := Tryz.isAgg156
 z53 := Tryz.sizeOf156
 v53 := Tryz.zeroValue156
 t171 := Tryz.underlying180
 a171 := Tryz.isAgg180
 z171 := Tryz.sizeOf180
 v171 := Tryz.zeroValue180
 t173 := Tryz.underlying182
 a173 := Tryz.isAgg182
 z173 := Tryz.sizeOf182
 v173 := Tryz.zeroValue182
 t212 := Tryz.underlying220
 a212 := Tryz.isAgg220
 z212 := Tryz.sizeOf220
 v212 := Tryz.zeroValue220
 t213 := Tryz.underlying221
 a213 := Tryz.isAgg221
 z213 := Tryz.sizeOf221
 t232 := Tryz.underlying253
 a232 := Tryz.isAgg253
 z232 := Tryz.sizeOf253
 v232 := Tryz.zeroValue253
 t233 := Tryz.underlying254
 a233 := Tryz.isAgg254
 z233 := Tryz.sizeOf254
 v233 := Tryz.zeroValue254
 g17 := by kernel_rfl
 g18 := by kernel_rfl
 g19 := by kernel_rfl
 i0 := by kernel_rfl
 i2 := by kernel_rfl
 i3 := by kernel_rfl
 i4 := by kernel_rfl
 i5 := by kernel_rfl
 i9 := by kernel_rfl
 i20 := by kernel_rfl
 i37 := by kernel_rfl
 i46 := by kernel_rfl
 i51 := by kernel_rfl
 i53 := by kernel_rfl
 i171 := by kernel_rfl
 i173 := by kernel_rfl
 i212 := by kernel_rfl
 i232 := by kernel_rfl
 i233 := by kernel_rfl
 m17 := by kernel_rfl
 m18 := by kernel_rfl
 m19 := by kernel_rfl }
open Go.RowKit Go.Sort Go.Lib in
theorem Tryz.strconv_Itoa (n : Int) (h0 : -9223372036854775808 ≤ n) (h1 : n ≤ 9223372036854775807) (w : World) (htab : Lib.TabIs Tryz.prog w "internal/strconv.uint64pow10" .u64 Lib.pow10Tab) :
  Calls Tryz.prog 40 #[.int .i64 n] w fun e w' => e = .returned (.string ⟨(Lib.itoa n).toArray⟩) ∧ ∃ k os, w' = grow (w.drewN k) os := Any.strconv_Itoa Tryz.laysM171 n h0 h1 w htab
def Tryz.lays171_ren : Go.Shelf.Ren := ⟨fun | 171 => 40 | 243 => 60 | 246 => 93 | 283 => 122 | 284 => 123 | 285 => 124 | 286 => 125 | 129 => 121 | 317 => 162 | 318 => 163 | 319 => 164 | 320 => 165 | 337 => 181 | 338 => 182 | n => n, fun | 3 => 3 | 9 => 9 | 2 => 2 | 4 => 4 | 171 => 180 | 0 => 0 | 53 => 156 | 37 => 92 | 5 => 5 | 173 => 182 | 212 => 220 | 51 => 153 | 20 => 20 | 213 => 221 | 46 => 127 | 232 => 253 | 233 => 254 | n => n, fun | 17 => 0 | 18 => 4 | 19 => 5 | n => n⟩
theorem Tryz.lays171 : Go.Proofs.Lays.n171 Tryz.prog Tryz.lays171_ren := {
 mixed := by kernel_rfl
 f129 := Tryz.func121.trans (congrArg some (by kernel_rfl))
 f171 := Tryz.func40.trans (congrArg some (by kernel_rfl))
 f243 := Tryz.func60.trans (congrArg some (by kernel_rfl))
 f246 := Tryz.func93.trans (congrArg some (by kernel_rfl))
 f283 := Tryz.func122.trans (congrArg some (by kernel_rfl))
 f284 := Tryz.func123.trans (congrArg some (by kernel_rfl))
 f285 := Tryz.func124.trans (congrArg some (by kernel_rfl))
 f286 := Tryz.func125.trans (congrArg some (by kernel_rfl))
 f317 := Tryz.func162.trans (congrArg some (by kernel_rfl))
 f318 := Tryz.func163.trans (congrArg some (by kernel_rfl))
 f319 := Tryz.func164.trans (congrArg some (by kernel_rfl))
 f320 := Tryz.func165.trans (congrArg some (by kernel_rfl))
 f337 := Tryz.func181.trans (congrArg some (by kernel_rfl))
 f338 := Tryz.func182.trans (congrArg some (by kernel_rfl))
 t0 := Tryz.underlying0
 a0 := Tryz.isAgg0
 z0 := Tryz.sizeOf0
 v0 := Tryz.zeroValue0
 t2 := Tryz.underlying2
 a2 := Tryz.isAgg2
 z2 := Tryz.sizeOf2
 v2 := Tryz.zeroValue2
 t3 := Tryz.underlying3
 a3 := Tryz.isAgg3
 z3 := Tryz.sizeOf3
 v3 := Tryz.zeroValue3
 t4 := Tryz.underlying4
 a4 := Tryz.isAgg4
 z4 := Tryz.sizeOf4
 v4 := Tryz.zeroValue4
 t5 := Tryz.underlying5
 a5 := Tryz.isAgg5
 z5 := Tryz.sizeOf5
 v5 := Tryz.zeroValue5
 t9 := Tryz.underlying9
 a9 := Tryz.isAgg9
 z9 := Tryz.sizeOf9
 v9 := Tryz.zeroValue9
 t20 := Tryz.underlying20
 a20 := Tryz.isAgg20
 z20 := Tryz.sizeOf20
 v20 := Tryz.zeroValue20
 t37 := Tryz.underlying92
 a37 := Tryz.isAgg92
 z37 := Tryz.sizeOf92
 v37 := Tryz.zeroValue92
 t46 := Tryz.underlying127
 a46 := Tryz.isAgg127
 z46 := Tryz.sizeOf127
 v46 := Tryz.zeroValue127
 t51 := Tryz.underlying153
 a51 := Tryz.isAgg153
 z51 := Tryz.sizeOf153
 v51 := Tryz.zeroValue153
 t53 := Tryz.underlying156
 a53 := Tryz.isAgg156
 z53 := Tryz.sizeOf156
 v53 := Tryz.zeroValue156
 t171 := Tryz.underlying180
 a171 := Tryz.isAgg180
 z171 := Tryz.sizeOf180
 v171 := Tryz.zeroValue180
 t173 := Tryz.underlying182
 a173 := Tryz.isAgg182
 z173 := Tryz.sizeOf182
 v173 := Tryz.zeroValue182
 t212 := Tryz.underlying220
 a212 := Tryz.isAgg220
 z212 := Tryz.sizeOf220
 v212 := Tryz.zeroValue220
 t213 := Tryz.underlying221
 a213 := Tryz.isAgg221
 z213 := Tryz.sizeOf221
 t232 := Tryz.underlying253
 a232 := Tryz.isAgg253
 z232 := Tryz.sizeOf253
 v232 := Tryz.zeroValue253
 t233 := Tryz.underlying254
 a233 := Tryz.isAgg254
 z233 := Tryz.sizeOf254
 v233 := Tryz.zeroValue254
 g17 := by kernel_rfl
 g18 := by kernel_rfl
 g19 := by kernel_rfl }
open Go.RowKit Go.Sort Go.Lib in
theorem Tryz.strconv_Itoa_small (i : Nat) (hi : i < 100) (w : World) :
  Calls Tryz.prog 40 #[.int .i64 i] w fun e w' => e = .returned (.string ⟨(Lib.decDigits i).toArray⟩) ∧ w' = w := Any.strconv_Itoa_small Tryz.lays171 i hi w
def Tryz.lays212_ren : Go.Shelf.Ren := ⟨fun | 212 => 57 | 263 => 90 | 264 => 91 | n => n, fun | 46 => 127 | 51 => 153 | 146 => 154 | 53 => 156 | 148 => 157 | n => n, fun | n => n⟩
theorem Tryz.lays212 : Go.Proofs.Lays.n212 Tryz.prog Tryz.lays212_ren := {
 mixed := by kernel_rfl
 f212 := Tryz.func57.trans (congrArg some (by kernel_rfl))
 f263 := Tryz.func90.trans (congrArg some (by kernel_rfl))
 f264 := Tryz.func91.trans (congrArg some (by kernel_rfl))
 t46 := Tryz.underlying127
 a46 := Tryz.isAgg127
 z46 := Tryz.sizeOf127
 v46 := Tryz.zeroValue127
 t51 := Tryz.underlying153
 a51 := Tryz.isAgg153
 z51 := Tryz.sizeOf153
 v51 := Tryz.zeroValue153
 t53 := Tryz.underlying156
 a53 := Tryz.isAgg156
 z53 := Tryz.sizeOf156
 v53 := Tryz.zeroValue156
 t146 := Tryz.underlying154
 a146 := Tryz.isAgg154
 z146 := Tryz.sizeOf154
 v146 := Tryz.zeroValue154
 t148 := Tryz.underlying157
 a148 := Tryz.isAgg157
 z148 := Tryz.sizeOf157
 v148 := Tryz.zeroValue157 }
open Go.RowKit Go.Lib in
theorem Tryz.bits_Mul (x y : Nat) (hx : x < 18446744073709551616) (hy : y < 18446744073709551616) (w : World) :
  Calls Tryz.prog 57 #[.int .u64 x, .int .u64 y] w fun e w' => e = .returned (.tuple #[.int .u64 ((x * y / 18446744073709551616 : Nat) : Int), .int .u64 ((x * y % 18446744073709551616 : Nat) : Int)]) ∧ w' = w := Any.bits_Mul Tryz.lays212 x y hx hy w
def Tryz.laysC172_ren : Go.Shelf.Ren := ⟨fun | 172 => 84 | 244 => 110 | 245 => 111 | 247 => 152 | 279 => 153 | 280 => 154 | 281 => 155 | 282 => 156 | 287 => 177 | 316 => 178 | 171 => 40 | 205 => 179 | 321 => 188 | 322 => 189 | 243 => 60 | 246 => 93 | 283 => 122 | 284 => 123 | 285 => 124 | 286 => 125 | 129 => 121 | 317 => 162 | 318 => 163 | 319 => 164 | 320 => 165 | 337 => 181 | 338 => 182 | n => n, fun | 9 => 9 | 3 => 3 | 75 => 96 | 76 => 97 | 4 => 4 | 5 => 5 | 167 => 206 | 37 => 92 | 0 => 0 | 85 => 207 | 2 => 2 | 168 => 209 | 53 => 156 | 175 => 238 | 46 => 127 | 210 => 242 | 127 => 130 | 145 => 252 | 143 => 250 | 21 => 21 | 171 => 180 | 173 => 182 | 212 => 220 | 51 => 153 | 20 => 20 | 213 => 221 | 232 => 253 | 233 => 254 | 80 => 99 | n => n, fun | 15 => 2 | 16 => 3 | 17 => 0 | 18 => 4 | 19 => 5 | n => n⟩
theorem Tryz.laysC172 : Go.Proofs.LaysC.n172 Tryz.prog Tryz.laysC172_ren := {
 mixed := by kernel_rfl
 f129 := Tryz.func121.trans (congrArg some (by kernel_rfl))
 f171 := Tryz.func40.trans (congrArg some (by kernel_rfl))
 f172 := Tryz.func84.trans (congrArg some (by kernel_rfl))
 f205 := Tryz.func179.trans (congrArg some (by kernel_rfl))
 f243 := Tryz.func60.trans (congrArg some (by kernel_rfl))
 f244 := Tryz.func110.trans (congrArg some (by kernel_rfl))
 f245 := Tryz.func111.trans (congrArg some (by kernel_rfl))
 f246 := Tryz.func93.trans (congrArg some (by kernel_rfl))
 f247 := Tryz.func152.trans (congrArg some (by kernel_rfl))
 f279 := Tryz.func153.trans (congrArg some (by kernel_rfl))
 f280 := Tryz.func154.trans (congrArg some (by kernel_rfl))
 f281 := Tryz.func155.trans (congrArg some (by kernel_rfl))
 f282 := Tryz.func156.trans (congrArg some (by kernel_rfl))
 f283 := Tryz.func122.trans (congrArg some (by kernel_rfl))
 f284 := Tryz.func123.trans (congrArg some (by kernel_rfl))
 f285 := Tryz.func124.trans (congrArg some (by kernel_rfl))
 f286 := Tryz.func125.trans (congrArg some (by kernel_rfl))
 f287 := Tryz.func177.trans (congrArg some (by kernel_rfl))
 f316 := Tryz.func178.trans (congrArg some (by kernel_rfl))
 f317 := Tryz.func162.trans (congrArg some (by kernel_rfl))
 f318 := Tryz.func163.trans (congrArg some (by kernel_rfl))
 f319 := Tryz.func164.trans (congrArg some (by kernel_rfl))
 f320 := Tryz.func165.trans (congrArg some (by kernel_rfl))
 f321 := Tryz.func188.trans (congrArg some (by kernel_rfl))
 f322 := Tryz.func189.trans (congrArg some (by kernel_rfl))
 f337 := Tryz.func181.trans (congrArg some (by kernel_rfl))
 f338 := Tryz.func182.trans (congrArg some (by kernel_rfl))
 t0 := Tryz.underlying0
 a0 := Tryz.isAgg0
 z0 := Tryz.sizeOf0
 v0 := Tryz.zeroValue0
 t2 := Tryz.underlying2
 a2 := Tryz.isAgg2
 z2 := Tryz.sizeOf2
 v2 := Tryz.zeroValue2
 t3 := Tryz.underlying3
 a3 := Tryz.isAgg3
 z3 := Tryz.sizeOf3
 v3 := Tryz.zeroValue3
 t4 := Tryz.underlying4
 a4 := Tryz.isAgg4
 z4 := Tryz.sizeOf4
 v4 := Tryz.zeroValue4
 t5 := Tryz.underlying5
 a5 := Tryz.isAgg5
 z5 := Tryz.sizeOf5
 v5 := Tryz.zeroValue5
 t9 := Tryz.underlying9
 a9 := Tryz.isAgg9
 z9 := Tryz.sizeOf9
 v9 := Tryz.zeroValue9
 t20 := Tryz.underlying20
 a20 := Tryz.isAgg20
 z20 := Tryz.sizeOf20
 v20 := Tryz.zeroValue20
 t21 := Tryz.underlying21
 a21 := Tryz.isAgg21
 z21 := Tryz.sizeOf21
 v21 := Tryz.zeroValue21
 t37 := Tryz.underlying92
 a37 := Tryz.isAgg92
 z37 := Tryz.sizeOf92
 v37 := Tryz.zeroValue92
 t46 := Tryz.underlying127
 a46 := Tryz.isAgg127
 z46 := Tryz.sizeOf127
 v46 := Tryz.zeroValue127
 t51 := Tryz.underlying153
 a51 := Tryz.isAgg153
 z51 := Tryz.sizeOf153
 v51 := Tryz.zeroValue153
 t53 := Tryz.underlying156
 a53 := Tryz.isAgg156
 z53 := Tryz.sizeOf156
 v53 := Tryz.zeroValue156
 t75 := Tryz.underlying96
 a75 := Tryz.isAgg96
 z75 := Tryz.sizeOf96
 v75 := Tryz.zeroValue96
 t76 := Tryz.underlying97
 a76 := Tryz.isAgg97
 z76 := Tryz.sizeOf97
 v76 := Tryz.zeroValue97
 t85 := Tryz.underlying207
 a85 := Tryz.isAgg207
 z85 := Tryz.sizeOf207
 v85 := Tryz.zeroValue207
 t127 := Tryz.underlying130
 a127 := Tryz.isAgg130
 z127 := Tryz.sizeOf130
 v127 := Tryz.zeroValue130
 t143 := Tryz.underlying250
 a143 := Tryz.isAgg250
 z143 := Tryz.sizeOf250
 v143 := Tryz.zeroValue250
 t145 := Tryz.underlying252
 a145 := Tryz.isAgg252
 z145 := Tryz.sizeOf252
 v145 := Tryz.zeroValue252
 t167 := Tryz.underlying206
 a167 := Tryz.isAgg206
 z167 := Tryz.sizeOf206
 v167 := Tryz.zeroValue206
 t168 := Tryz.underlying209
 a168 := Tryz.isAgg209
 z168 := Tryz.sizeOf209
 v168 := Tryz.zeroValue209
 t171 := Tryz.underlying180
 a171 := Tryz.isAgg180
 z171 := Tryz.sizeOf180
 v171 := Tryz.zeroValue180
 t173 := Tryz.underlying182
 a173 := Tryz.isAgg182
 z173 := Tryz.sizeOf182
 v173 := Tryz.zeroValue182
 t175 := Tryz.underlying238
 a175 := Tryz.isAgg238
 z175 := Tryz.sizeOf238
 v175 := Tryz.zeroValue238
 t210 := Tryz.underlying242
 a210 := Tryz.isAgg242
 z210 := Tryz.sizeOf242
 v210 := Tryz.zeroValue242
 t212 := Tryz.underlying220
 a212 := Tryz.isAgg220
 z212 := Tryz.sizeOf220
 v212 := Tryz.zeroValue220
 t213 := Tryz.underlying221
 a213 := Tryz.isAgg221
 z213 := Tryz.sizeOf221
 t232 := Tryz.underlying253
 a232 := Tryz.isAgg253
 z232 := Tryz.sizeOf253
 v232 := Tryz.zeroValue253
 t233 := Tryz.underlying254
 a233 := Tryz.isAgg254
 z233 := Tryz.sizeOf254
 v233 := Tryz.zeroValue254
 g15 := by kernel_rfl
 g16 := by kernel_rfl
 g17 := by kernel_rfl
 g18 := by kernel_rfl
 g19 := by kernel_rfl
 t80 := Tryz.underlying99
 a80 := Tryz.isAgg99
 z80 := Tryz.sizeOf99
 v80 := Tryz.zeroValue99
 i0 := by kernel_rfl
 i2 := by kernel_rfl
 i3 := by kernel_rfl
 i4 := by kernel_rfl
 i5 := by kernel_rfl
 i9 := by kernel_rfl
 i20 := by kernel_rfl
 i21 := by kernel_rfl
 i37 := by kernel_rfl
 i46 := by kernel_rfl
 i51 := by kernel_rfl
 i53 := by kernel_rfl
 i75 := by kernel_rfl
 i76 := by kernel_rfl
 i80 := by kernel_rfl
 i85 := by kernel_rfl
 i127 := by kernel_rfl
 i143 := by kernel_rfl
 i145 := by kernel_rfl
 i167 := by kernel_rfl
 i168 := by kernel_rfl
 i171 := by kernel_rfl
 i173 := by kernel_rfl
 i175 := by kernel_rfl
 i210 := by kernel_rfl
 i212 := by kernel_rfl
 i232 := by kernel_rfl
 i233 := by kernel_rfl
 m15 := by kernel_rfl
 m16 := by kernel_rfl
 m17 := by kernel_rfl
 m18 := by kernel_rfl
 m19 := by kernel_rfl
 c0 := by kernel_rfl
 c2 := by kernel_rfl
 c3 := by kernel_rfl
 c4 := by kernel_rfl
 c5 := by kernel_rfl
 c9 := by kernel_rfl
 c20 := by kernel_rfl
 c21 := by kernel_rfl
 c37 := by kernel_rfl
 c46 := by kernel_rfl
 c51 := by kernel_rfl
 c53 := by kernel_rfl
 c75 := by kernel_rfl
 c76 := by kernel_rfl
 c80 := by kernel_rfl
 c85 := by kernel_rfl
 c127 := by kernel_rfl
 c143 := by kernel_rfl
 c145 := by kernel_rfl
 c167 := by kernel_rfl
 c168 := by kernel_rfl
 c171 := by kernel_rfl
 c173 := by kernel_rfl
 c175 := by kernel_rfl
 c210 := by kernel_rfl
 c212 := by kernel_rfl
 c213 := by kernel_rfl
 c232 := by kernel_rfl
 c233 := by kernel_rfl }
open Go.RowKit in
theorem Tryz.strconv_Atoi_ok (s : ByteArray) (hmax : s.size ≤ 9223372036854775806) (v : Int) (h : Lib.atoiAll s.data.toList = .ok v) (w : World) :
  Calls Tryz.prog 84 #[.string s] w fun e w' => e = .returned (.tuple #[.int .i64 v, .nilIface]) ∧ (w' = w ∨ ∃ t, w' = Lib.bytesWorld w 5 t) := Any.strconv_Atoi_ok Tryz.laysC172 s hmax v h w
open Go.RowKit in
theorem Tryz.strconv_Atoi_syntax (s : ByteArray) (hlim : s.size ≤ 281474976710656) (h : Lib.atoiAll s.data.toList = Lib.atoiAll []) (ev : Value) (w : World) (hv : w.cell? ⟨2, 0, none⟩ = some ev) (hev : ev = .nilIface ∨ ∃ te pe, ev = .iface te pe) :
  Calls Tryz.prog 84 #[.string s] w fun e w' => ∃ N, e = .returned (.tuple #[.int .i64 (0), .iface 209 (.pointer (some ⟨N, 0, none⟩))]) ∧ w.heap.size ≤ N ∧ w'.heap[N]? = some (.cells #[.string ⟨#[65, 116, 111, 105]⟩, .string s, ev] 242 (0, 0)) ∧ Below w.heap.size w w' := Any.strconv_Atoi_syntax Tryz.laysC172 s hlim h ev w hv hev
open Go.RowKit in
theorem Tryz.strconv_Atoi_range (s : ByteArray) (hlim : s.size ≤ 281474976710656) (h : Lib.atoiAll s.data.toList = .range) (ev : Value) (w : World) (hv : w.cell? ⟨3, 0, none⟩ = some ev) (hev : ev = .nilIface ∨ ∃ te pe, ev = .iface te pe) :
  Calls Tryz.prog 84 #[.string s] w fun e w' => ∃ N, e = .returned (.tuple #[.int .i64 (Lib.atoiSat s.data.toList), .iface 209 (.pointer (some ⟨N, 0, none⟩))]) ∧ w.heap.size ≤ N ∧ w'.heap[N]? = some (.cells #[.string ⟨#[65, 116, 111, 105]⟩, .string s, ev] 242 (0, 0)) ∧ Below w.heap.size w w' := Any.strconv_Atoi_range Tryz.laysC172 s hlim h ev w hv hev
def Tryz.lays122_ren : Go.Shelf.Ren := ⟨fun | 122 => 56 | 215 => 89 | n => n, fun | 3 => 3 | 4 => 4 | n => n, fun | n => n⟩
theorem Tryz.lays122 : Go.Proofs.Lays.n122 Tryz.prog Tryz.lays122_ren := {
 mixed := by kernel_rfl
 f122 := Tryz.func56.trans (congrArg some (by kernel_rfl))
 f215 := Tryz.func89.trans (congrArg some (by kernel_rfl))
 t3 := Tryz.underlying3
 a3 := Tryz.isAgg3
 z3 := Tryz.sizeOf3
 v3 := Tryz.zeroValue3
 t4 := Tryz.underlying4
 a4 := Tryz.isAgg4
 z4 := Tryz.sizeOf4
 v4 := Tryz.zeroValue4 }
open Go.RowKit in
theorem Tryz.cmp_Compare_int (x y : Int) (w : World) :
  Calls Tryz.prog 56 #[.int .i64 x, .int .i64 y] w fun e w' => e = .returned (.int .i64 (Lib.compareInt x y)) ∧ w' = w := Any.cmp_Compare_int Tryz.lays122 x y w
end Go.Proofs
namespace Go.Proofs.YtamgiojcbdbokaaGreatDoor
open Go Go.Sx
set_option maxRecDepth 100000
set_option maxHeartbeats 1000000
theorem yr {w w' : World} {H : Heap} {O : Go.Sx.Own} (hm : Models w H O) (ho : ∀ j, j < w.heap.size → w'.heap[j]? = w.heap[j]?) (he : cU w' = cU w) : Models w' H O := by
 have hlt : ∀ b (o : Obj), w.heap[b]? = some o → b < w.heap.size := fun b o hb => (Array.getElem?_eq_some_iff.1 hb).1
 exact ⟨fun b o hb => (ho b (hlt b o (hm.pers b o hb))).trans (hm.pers b o hb), fun p hp => ⟨(ho _ (hlt _ _ (hm.own p hp).1)).trans (hm.own p hp).1, (hm.own p hp).2⟩, hm.nodup, he.trans hm.env⟩
theorem EU {w w' : World} {H : Heap} {O : Go.Sx.Own} (hm : Models w H O) (ho : ∀ j, j < w.heap.size → w'.heap[j]? = w.heap[j]?) (he : cU w' = cU w) {r : Nat} {o : Obj} (hr : w.heap.size ≤ r) (hn : w'.heap[r]? = some o) : Models w' H ((r, o) :: O) := by
 have hlt : ∀ b (o : Obj), w.heap[b]? = some o → b < w.heap.size := fun b o hb => (Array.getElem?_eq_some_iff.1 hb).1
 have h := yr hm ho he
 refine ⟨h.pers, fun p hp => ?_, ?_, h.env⟩
 ·rcases List.mem_cons.1 hp with rfl | hp
  ·refine ⟨hn, ?_⟩
   cases hH : H r with
   | none => rfl
   | some x => have := hlt _ _ (hm.pers _ _ hH); omega
  ·exact h.own p hp
 ·rw [List.map_cons, List.nodup_cons]
  refine ⟨fun hx => ?_, h.nodup⟩
  obtain ⟨p, hp, e⟩ := List.mem_map.1 hx
  have := hlt _ _ (hm.own p hp).1
  have : p.1 = r := e
  omega
theorem dN {P : Program} {f : FuncId} {args : List Value} {v : Value} {H : Heap} {O : Go.Sx.Own} (h : ∀ w F, Models w H (O ++ F) → Calls P f args.toArray w fun e w' => e = .returned v ∧ (∀ j, j < w.heap.size → w'.heap[j]? = w.heap[j]?) ∧ cU w' = cU w) : RetO P f args H O v := by
 intro w F hm
 refine (h w F hm).mono ?_
 rintro e w' ⟨rfl, h1, h2⟩
 exact ⟨v, H, O, rfl, ⟨rfl, rfl⟩, Heap.le_refl H, yr hm h1 h2⟩
theorem zJ {H : Heap} {r : Nat} {c : Array Value} {T : TypeId} {mk : Nat × Nat} (h : H r = some (.cells c T mk)) {i : Nat} {v : Value} (hi : c[i]? = some v) : H.read (.pointer (some ⟨r, i, none⟩)) 1 = some [v] := by
 simp [Heap.read, Heap.cell?, bm, h, hi]
def kU (l : List UInt8) : List (List Value) := l.map fun b => [Value.int .u8 (b.toNat : Int)]
theorem hD (l : List UInt8) : (kU l).length = l.length := by simp [kU]
theorem nM {l : List UInt8} {i : Nat} (h : i < l.length) : (kU l)[i]? = some [Value.int .u8 (l[i].toNat : Int)] := by simp [kU, h]
theorem Fb : PP.underlying 9 = some .string := by kernel_rfl
theorem Dt : PP.underlying 92 = some (.slice 5) := by kernel_rfl
theorem Fp : PP.underlying 5 = some (.int .u8) := by kernel_rfl
theorem tP {l : List UInt8} {H : Heap} {O : Go.Sx.Own} {K : List Value → List (List Value) → Heap → Go.Sx.Own → Prop} (hl : l.length < 2 ^ 62)
  (hk : ∀ v H', Heap.le H H' → Sl H' 1 v (kU l) → K [v] [] H' O) : cg (fun H1 O1 R => bp PP ((PrimOp.convert 9 92).sem [Str l]) H1 O1 R) false [] [] .one K H O := by
 intro _
 refine ⟨H, [], O, fun v H' O' => Sl H' 1 v (kU l) ∧ O' = [], Ghost.refl _ _, fun w F hm => ?_, ?_⟩
 ·have hr := Go.Lib.run_convert_string_bytes (P := PP) w 9 92 5 ⟨l.toArray⟩ Fb Dt Fp
  have hn := Go.Lib.bytesWorld_at_new w 5 ⟨l.toArray⟩
  have hm' : Models w H F := by simpa using hm
  have hm2 := EU hm' (w' := Go.Lib.bytesWorld w 5 ⟨l.toArray⟩) (fun j hj => Go.Lib.bytesWorld_at_old w _ _ j hj) rfl (Nat.le_refl _) hn
  have hH : H w.heap.size = none := (hm2.own _ List.mem_cons_self).2
  have hr2 : ((PrimOp.convert 9 92).sem [Str l]).run PP w = .ok (.value (.slice (some ⟨w.heap.size, 0, none⟩) (⟨l.toArray⟩ : ByteArray).size (grownCap w (⟨l.toArray⟩ : ByteArray).size 0 5))) (Go.Lib.bytesWorld w 5 ⟨l.toArray⟩) := by
   simp only [PrimOp.sem, Sem.run_bind, hr, Result.andThen_ok]; rfl
  refine ⟨_, _, H.ins w.heap.size _, [], hr2, ⟨?_, rfl⟩, Heap.le_ins H _ _, by simpa using hm2.freeze⟩
  have hsz : (⟨l.toArray⟩ : ByteArray).size = l.length := by simp [ByteArray.size]
  have hcap : l.length ≤ grownCap w (⟨l.toArray⟩ : ByteArray).size 0 5 ∧ grownCap w (⟨l.toArray⟩ : ByteArray).size 0 5 < 2 ^ 63 := by
   rw [hsz]
   have h1 := grownCap_ge w l.length 0 5
   have h2 := grownCap_le_maxLen w l.length 0 5 (by simp only [maxLen]; omega)
   simp only [maxLen] at h2
   exact ⟨h1, by omega⟩
  refine ⟨_, _, by rw [hsz, hD], by rw [hD]; exact hcap.1, hcap.2, fun _ => ⟨_, rfl, fun i row hrow => ?_⟩⟩
  have hi : i < l.length := by have := (List.getElem?_eq_some_iff.1 hrow).1; rwa [hD] at this
  rw [nM hi, Option.some.injEq] at hrow
  subst hrow
  refine ⟨?_, rfl, rfl, trivial⟩
  rw [bm, Nat.zero_add, Nat.mul_one]
  refine zJ (c := Go.Lib.bytesCells w 5 ⟨l.toArray⟩) (by simp only [Heap.ins, hH, if_true]; rfl) ?_
  simp [Go.Lib.bytesCells, Array.getElem?_append, hi]
 ·rintro v H' O' ⟨hs, rfl⟩ hle
  exact ⟨[v], [], [], rfl, ⟨hs.one, trivial⟩, trivial, rfl, hk v H' hle hs⟩
theorem fh (l : List UInt8) : (⟨l.toArray⟩ : ByteArray).size = l.length := by simp [ByteArray.size]
theorem Cm {l : List UInt8} (hl : l.length < 2 ^ 62) (H : Heap) (O : Go.Sx.Own) : RetO PP 96 [Str l, .string ⟨#[32]⟩] H O (Str (Go.Lib.trimB l 32)) := by
 refine dN fun w F hm => ?_
 have h := Tryz.strings_Trim_one ⟨l.toArray⟩ 32 (by decide) w (by rw [fh]; omega)
 refine h.mono ?_
 rintro e w' ⟨rfl, rfl | rfl⟩
 ·exact ⟨rfl, fun _ _ => rfl, rfl⟩
 ·exact ⟨rfl, fun _ _ => rfl, rfl⟩
def wi (n a b : Int) : Bool := decide (n ≥ a) && decide (n ≤ b)
theorem gp (n a b : Int) (H : Heap) (O : Go.Sx.Own) : RetO PP mK [iV n, iV a, iV b] H O (.bool (wi n a b)) := by
 refine oN (vs := [iV n, iV a, iV b]) (by kernel_rfl) ⟨rfl, rfl, rfl, trivial⟩ ?_
 simp only [mG]
 refine aa _ (iI _ _) ?_
 refine ab (ab ?_)
 refine aa _ (iG _ _) ?_
 refine ab ?_
 refine aa _ (ap _ _) ?_
 exact af ⟨rfl, rfl⟩
theorem AS (a b : Int) : ah (.bin .lss .int) [.int .u8 a, .int .u8 b] = some (.bool (decide (a < b))) := by simp [ah, b8, b7]
theorem AX (a b : Int) : ah (.bin .gtr .int) [.int .u8 a, .int .u8 b] = some (.bool (decide (a > b))) := by simp [ah, b8, b7]
def tM (b : UInt8) : Bool := wi b.toNat 32 126
def jv (l : List UInt8) : Bool := wi l.length 1 32 && (Go.Lib.trimB l 32 == l && l.all tM)
theorem Cc (l : List UInt8) (H : Heap) (O : Go.Sx.Own) : RetO PP oi [Str l] H O (.bool (jv l)) := by
 refine qC (vs := [Str l]) (by kernel_rfl) ⟨rfl, trivial⟩ ?_
 simp only [nV]
 refine aa _ (ia l) ?_
 refine ak (gp l.length 1 32 _ _) rfl ⟨rfl, trivial⟩ fun H1 l1 => ?_
 refine aa _ (av _) (ai (fun hd => ?_) (fun hd => ?_))
 ·exact af ⟨by rw [jv, DD hd]; rfl, rfl⟩
 have hw : wi l.length 1 32 = true := Dm hd
 have hl : l.length ≤ 32 := by
  have := hw
  simp only [wi, Bool.and_eq_true, decide_eq_true_eq] at this
  omega
 refine ak (Cm (by omega) _ _) rfl ⟨rfl, trivial⟩ fun H2 l2 => ?_
 refine aa _ (xF _ _) (ai (fun hd => ?_) (fun hd => ?_))
 ·exact af ⟨by rw [jv, DD hd, hw]; rfl, rfl⟩
 have ht : (Go.Lib.trimB l 32 == l) = true := Dm hd
 have hv : jv l = l.all tM := by rw [jv, hw, ht]; rfl
 refine tP (by omega) fun v H3 l3 hs => ?_
 have hlen := hs.len
 rw [hD] at hlen
 refine aa _ hlen ?_
 refine aL l.length (fun i H' O' => O' = O ∧ Heap.le H3 H' ∧ l.all tM = (l.drop i).all tM) ⟨rfl, Heap.le_refl _, by simp⟩ ?_
 rintro i H4 O4 hi - ⟨rfl, l4, hor⟩
 refine aa _ (aF _ _) (ai (fun hb => ?_) (fun hb => ?_))
 ·have hlt : i < l.length := by have := of_decide_eq_true hb; omega
  obtain ⟨a, k1, k2, _, k3, k4⟩ := ((hs.le l4).rsl O4).idx .i64 i _ (nM hlt)
  refine aa _ k1 (ao k2 k3 k4 ?_)
  refine aa _ (AS _ _) ?_
  refine ab ?_
  refine aa _ (AX _ _) ?_
  refine ab ?_
  refine aa _ (aw _ _) (ai (fun hd => ?_) (fun hd => ?_))
  ·have hc : tM l[i] = false := by
    simp only [Bool.or_eq_true, decide_eq_true_eq] at hd
    simp only [tM, wi, Bool.and_eq_false_iff, decide_eq_false_iff_not]
    omega
   exact af ⟨by rw [hv, hor, List.drop_eq_getElem_cons hlt, List.all_cons, hc]; rfl, rfl⟩
  ·have hc : tM l[i] = true := by
    simp only [Bool.or_eq_false_iff, decide_eq_false_iff_not] at hd
    simp only [tM, wi, Bool.and_eq_true, decide_eq_true_eq]
    omega
   refine aa _ (aD (by omega)) (az (by simp [Eqs, E]) hlt ⟨rfl, l4, ?_⟩)
   rw [hor, List.drop_eq_getElem_cons hlt, List.all_cons, hc, Bool.true_and]
 ·have hge : l.length ≤ i := by have := of_decide_eq_false hb; omega
  exact af ⟨by rw [hv, hor, List.drop_of_length_le hge]; rfl, rfl⟩
theorem sy {H : Heap} {O : Go.Sx.Own} {v fv : Value} {l : List Eff} {p : Eff → Bool} (h : Sl H 5 v (bS l)) {f : FuncId} {caps : Array Value} (hf : fv = .func (.func f) #[] caps) (hok : mN PP f)
  (hp : ∀ H', Heap.le H H' → ∀ x ∈ l, RetO PP f ([.agg x.row.toArray] ++ caps.toList) H' O (.bool (p x))) : RetO PP bg [v, fv] H O (iV (rV p l 0)) := by
 subst hf
 refine cD (vs := [v, .func (.func f) #[] caps]) (by kernel_rfl) ⟨h.one, rfl, trivial⟩ ?_
 simp only [bc]
 obtain ⟨e1, e2⟩ := fe h
 refine aa _ e1 ?_
 refine aL l.length (fun i H' O' => O' = O ∧ Heap.le H H' ∧ rV p l 0 = rV p (l.drop i) i) ⟨rfl, Heap.le_refl H, by simp⟩ ?_
 rintro i H' O' hi - ⟨rfl, hle, hor⟩
 refine aa _ (aF _ _) (ai (fun hb => ?_) (fun hb => ?_))
 ·have hlt : i < l.length := by simpa using hb
  obtain ⟨a, h1, h2, _, h3, h4⟩ := ((h.le hle).rsl O').idx .i64 i _ (fU hlt)
  refine aa _ h1 (ao h2 h3 h4 (mA rfl hok (hp H' hle l[i] (List.getElem_mem hlt)) rfl ⟨rfl, trivial⟩ fun H2 hle2 => ai (fun hb => ?_) (fun hb => ?_)))
  ·refine af ⟨?_, rfl⟩
   rw [hor, List.drop_eq_getElem_cons hlt, rV, if_pos hb]; rfl
  ·refine aa _ (aD (by omega)) (az (by simp [Eqs, E]) hlt ⟨rfl, Heap.le_trans hle hle2, ?_⟩)
   rw [hor, List.drop_eq_getElem_cons hlt, rV, if_neg (by rw [hb]; simp)]; rfl
 ·have hge : l.length ≤ i := by simpa using hb
  refine af ⟨?_, rfl⟩
  rw [hor, List.drop_of_length_le hge]; rfl
theorem fg {H : Heap} {O : Go.Sx.Own} {v fv : Value} {l : List Eff} {p : Eff → Bool} (h : Sl H 5 v (bS l)) {f : FuncId} {caps : Array Value} (hf : fv = .func (.func f) #[] caps) (hok : mN PP f)
  (hp : ∀ H', Heap.le H H' → ∀ x ∈ l, RetO PP f ([.agg x.row.toArray] ++ caps.toList) H' O (.bool (p x))) : RetO PP aX [v, fv] H O (.bool (l.any p)) := by
 have hone : fv.oneCell' = true := by subst hf; rfl
 refine bU (vs := [v, fv]) (by kernel_rfl) ⟨h.one, hone, trivial⟩ ?_
 simp only [aV]
 refine ak (sy h hf hok hp) rfl ⟨rfl, trivial⟩ fun H1 _ => aa _ (iI _ _) (af ⟨?_, rfl⟩)
 rw [← rU p l 0 (by omega)]
theorem Ei (e : Eff) (H : Heap) : RetO PP lp ([.agg e.row.toArray] ++ []) H [] (.bool (!(EF e))) := by
 refine oo (vs := e.row) (by kernel_rfl) (ij e) ?_
 simp only [lk]
 refine aj fun r0 => ?_
 refine ae ?_
 refine ak (xf e _) rfl ⟨rfl, trivial⟩ fun H1 l1 => ?_
 exact aa _ (av _) (af ⟨rfl, rfl⟩)
def EI (l : List Eff) : Bool := decide (l.length ≤ 4) && !(l.any fun e => !(EF e))
theorem Ej {H : Heap} {v : Value} {l : List Eff} (h : Sl H 5 v (bS l)) : RetO PP nZ [v] H [] (.bool (EI l)) := by
 refine qu (vs := [v]) (by kernel_rfl) ⟨h.one, trivial⟩ ?_
 simp only [nO]
 obtain ⟨e1, e2⟩ := fe h
 refine aa _ e1 ?_
 refine aa _ (iG _ _) (ai (fun hd => ?_) (fun hd => ?_))
 ·refine ak (fg h rfl (ie ju (by decide)) fun H' _ x _ => Ei x H') rfl ⟨rfl, trivial⟩ fun H1 l1 => ?_
  refine aa _ (av _) (af ⟨?_, rfl⟩)
  have : decide (l.length ≤ 4) = true := by have := of_decide_eq_true hd; exact decide_eq_true (by omega)
  rw [EI, this]; rfl
 ·refine af ⟨?_, rfl⟩
  have : decide (l.length ≤ 4) = false := by have := of_decide_eq_false hd; exact decide_eq_false (by omega)
  rw [EI, this]; rfl
def EV (e : Eff) : Bool := e.target == 0 && (e.code == 8 || e.code == 9)
theorem wd (e : Eff) (H : Heap) : RetO PP mL ([.agg e.row.toArray] ++ []) H [] (.bool (EV e)) := by
 refine oO (vs := e.row) (by kernel_rfl) (ij e) ?_
 simp only [mH]
 refine aj fun r0 => ?_
 refine ae ?_
 refine aa _ (an _ _) ?_
 refine ae (ab (ab ?_))
 refine aa _ (an _ _) ?_
 refine ab (ae (ab (ab (ab (ab ?_)))))
 refine aa _ (an _ _) ?_
 refine ab (ab (ab ?_))
 refine aa _ (aw _ _) ?_
 refine ab ?_
 refine aa _ (ap _ _) ?_
 exact af ⟨rfl, rfl⟩
theorem y3 {H : Heap} {v : Value} {l : List Eff} (h : Sl H 5 v (bS l)) : Triple PP jG [v] H [] fun x _ O' => (∃ n, x = iV n) ∧ O' = [] := by
 refine ma (vs := [v]) (by kernel_rfl) ⟨h.one, trivial⟩ ?_
 simp only [jB]
 obtain ⟨e1, e2⟩ := fe h
 refine aa _ e1 ?_
 refine fV l.length (fun _ x H' O' => (∃ n, x = iV n) ∧ O' = [] ∧ Heap.le H H') ⟨⟨0, rfl⟩, rfl, Heap.le_refl _⟩ ?_
 rintro i x H1 O1 hi - ⟨⟨n, rfl⟩, rfl, l1⟩
 refine aa _ (aF _ _) (ai (fun hb => ?_) (fun hb => ?_))
 ·have hlt : i < l.length := by simpa using hb
  obtain ⟨a, h1, h2, _, h3, h4⟩ := ((h.le l1).rsl []).idx .i64 i _ (fU hlt)
  refine aa _ h1 (ao h2 h3 h4 (aj fun r0 => ?_))
  refine ae (ae ?_)
  refine aa _ (dl _ _) (ai (fun hb => ?_) (fun hb => ?_))
  ·refine aa _ (show ah (.bin .add .int) [iV n, iV 1] = some (iV (IntKind.i64.wrap (n + 1))) from rfl) ?_
   exact aa _ (aD (by omega)) (bO (by simp [Eqs, E]) hlt ⟨⟨_, rfl⟩, rfl, l1⟩)
  ·exact aa _ (aD (by omega)) (bO (by simp [Eqs, E]) hlt ⟨⟨_, rfl⟩, rfl, l1⟩)
 ·exact af ⟨⟨n, rfl⟩, rfl⟩
theorem cX {P : Program} {f : FuncId} {args : List Value} {H : Heap} {p : Value → Prop} {K : List Value → List (List Value) → Heap → Go.Sx.Own → Prop}
  (h : Triple P f args H [] fun x _ O' => p x ∧ O' = []) (h1 : ∀ x, p x → x.oneCell' = true) (hk : ∀ x H', p x → Heap.le H H' → K [x] [] H' []) :
  cg (fun H1 O1 R => Triple P f args H1 O1 R) false [] [] .one K H [] := by
 refine bn h ?_
 rintro r H1 _ ⟨hr, rfl⟩ l1
 exact ⟨[r], rfl, ⟨h1 r hr, trivial⟩, hk r H1 hr l1⟩
theorem B9 {H : Heap} {v : Value} {l : List Eff} (h : Sl H 5 v (bS l)) : Triple PP oh [v] H [] fun x _ O' => (∃ b, x = .bool b) ∧ O' = [] := by
 refine qB (vs := [v]) (by kernel_rfl) ⟨h.one, trivial⟩ ?_
 simp only [nU]
 refine cX (y3 h) (by rintro _ ⟨n, rfl⟩; rfl) ?_
 rintro _ H1 ⟨n, rfl⟩ l1
 exact aa _ (an _ _) (af ⟨⟨_, rfl⟩, rfl⟩)
theorem B7 (w : Int) (s : Value) (hs : s.oneCell' = true) (r : Nat) (H : Heap) (b : BV) (hb : b.r = r) {n : Int} {s' : Value} (hv : b.vs = [iV n, s']) : RetO PP bD ([.agg #[iV w, s]] ++ [.pointer (some ⟨r, 0, none⟩)]) H [b.obj] (.bool (w == n)) := by
 obtain ⟨r', T, vs⟩ := b
 simp only at hb hv
 subst hb; subst hv
 refine lx (vs := [iV w, s, .pointer (some ⟨r', 0, none⟩)]) (by kernel_rfl) ⟨rfl, hs, rfl, trivial⟩ ?_
 simp only [iN]
 refine aj fun r0 => ?_
 refine ae (au rfl ?_)
 refine ao (vs := [iV n]) (.inr ⟨⟨r', 0, none⟩, #[iV n, s'], T, rfl, rfl, List.mem_singleton.2 rfl, rfl, by simp⟩) rfl ⟨rfl, trivial⟩ ?_
 exact aa _ (an _ _) (af ⟨rfl, rfl⟩)
theorem Ed {H : Heap} {v : Value} {l : List (Int × List Eff)} {rows : List (List Value)} (h : Sl H 2 v rows) (hlen : rows.length ≤ l.length) (hr : ∀ (i : Nat) (r : List Value) (t : Int × List Eff), rows[i]? = some r → l[i]? = some t → TrR H r t) (bx : BV) {n : Int} {s' : Value} (hv : bx.vs = [iV n, s']) :
  Triple PP aN [v, .func (.func bD) #[] #[.pointer (some ⟨bx.r, 0, none⟩)]] H [bx.obj] fun x _ O' => (∃ b, x = .bool b) ∧ O' = [bx.obj] := by
 refine bL (vs := [v, .func (.func bD) #[] #[.pointer (some ⟨bx.r, 0, none⟩)]]) (by kernel_rfl) ⟨h.one, rfl, trivial⟩ ?_
 simp only [aM]
 have hI : Triple PP a7 [v, .func (.func bD) #[] #[.pointer (some ⟨bx.r, 0, none⟩)]] H [bx.obj] fun x _ O' => (∃ k, x = iV k) ∧ O' = [bx.obj] := by
  refine cj (vs := [v, .func (.func bD) #[] #[.pointer (some ⟨bx.r, 0, none⟩)]]) (by kernel_rfl) ⟨h.one, rfl, trivial⟩ ?_
  simp only [a6]
  refine aa _ h.len ?_
  refine aL rows.length (fun i H' O' => O' = [bx.obj] ∧ Heap.le H H') ⟨rfl, Heap.le_refl H⟩ ?_
  rintro i H' O' hi - ⟨rfl, hle⟩
  refine aa _ (aF _ _) (ai (fun hb => ?_) (fun hb => ?_))
  ·have hlt : i < rows.length := by simpa using hb
   obtain ⟨a, h1, h2, _, h3, h4⟩ := ((h.le hle).rsl [bx.obj]).idx .i64 i rows[i] (by simp [hlt])
   obtain ⟨s, e, hs⟩ := hr i rows[i] (l[i]'(by omega)) (by simp [hlt]) (by simp)
   rw [e] at h2 h3 h4
   refine aa _ h1 (ao h2 h3 h4 (mA rfl (ie ju (by decide)) (B7 (l[i]'(by omega)).1 s hs.one bx.r H' bx rfl hv) rfl ⟨rfl, trivial⟩ fun H2 hle2 => ai (fun hb => ?_) (fun hb => ?_)))
   ·exact af ⟨⟨_, rfl⟩, rfl⟩
   ·exact aa _ (aD (by have := h.lenB; omega)) (az (by simp [Eqs, E]) hlt ⟨rfl, Heap.le_trans hle hle2⟩)
  ·exact af ⟨⟨_, rfl⟩, rfl⟩
 refine cI (O1 := [bx.obj]) (O2 := []) (by simp) hI ?_
 rintro _ H1 _ ⟨⟨k, rfl⟩, rfl⟩ l1
 refine ⟨[iV k], rfl, ⟨rfl, trivial⟩, ?_⟩
 exact aa _ (iI _ _) (af ⟨⟨_, rfl⟩, by simp⟩)
theorem w9 {H : Heap} {v : Value} {l : List (Int × List Eff)} (h : TrsF H v l) : Triple PP kD [v] H [] fun x _ O' => (∃ b, x = .bool b) ∧ O' = [] := by
 obtain ⟨hl, h1, hB⟩ := h.len
 obtain ⟨rows, hs, hlen, hr⟩ := h
 refine mT (vs := [v]) (by kernel_rfl) ⟨h1, trivial⟩ ?_
 simp only [ky]
 refine aa _ hl ?_
 refine aL l.length (fun _ H' O' => O' = [] ∧ Heap.le H H') ⟨rfl, Heap.le_refl _⟩ ?_
 rintro i H1 O1 hi - ⟨rfl, l1⟩
 refine aa _ (aF _ _) (ai (fun hb => ?_) (fun hb => ?_))
 ·have hlt : i < l.length := by simpa using hb
  obtain ⟨a, k1, k2, _, k3, k4⟩ := ((hs.le l1).rsl []).idx .i64 i rows[i] (by simp [hlen, hlt])
  obtain ⟨s, e, hse⟩ := hr i rows[i] l[i] (by simp [hlen, hlt]) (by simp [hlt])
  rw [e] at k2 k3 k4
  refine aa _ k1 (ao k2 k3 k4 (aj fun r0 => ?_))
  refine ae (ae ?_)
  refine ak (gp l[i].1 1 3 _ _) rfl ⟨rfl, trivial⟩ fun H2 l2 => ?_
  refine aa _ (av _) (ai (fun hd => ?_) (fun hd => ?_))
  ·exact af ⟨⟨_, rfl⟩, rfl⟩
  have hs2 := hse.le (Heap.le_trans l1 l2)
  obtain ⟨e1, e2⟩ := fe hs2
  refine ae ?_
  refine aa _ e1 ?_
  refine ak (gp l[i].2.length 1 2 _ _) rfl ⟨rfl, trivial⟩ fun H3 l3 => ?_
  refine aa _ (av _) (ai (fun hd => ?_) (fun hd => ?_))
  ·exact af ⟨⟨_, rfl⟩, rfl⟩
  refine ae ?_
  refine ak (Ej (hs2.le l3)) rfl ⟨rfl, trivial⟩ fun H4 l4 => ?_
  refine aa _ (av _) (ai (fun hd => ?_) (fun hd => ?_))
  ·exact af ⟨⟨_, rfl⟩, rfl⟩
  refine ae ?_
  refine cX (B9 (hs2.le (Heap.le_trans l3 l4))) (by rintro _ ⟨n, rfl⟩; rfl) ?_
  rintro _ H5 ⟨b, rfl⟩ l5
  refine aa _ (av _) (ai (fun hd => ?_) (fun hd => ?_))
  ·exact af ⟨⟨_, rfl⟩, rfl⟩
  have l15 := Heap.le_trans l1 (Heap.le_trans l2 (Heap.le_trans l3 (Heap.le_trans l4 l5)))
  obtain ⟨u, hu, hus⟩ := (hs.le l15).upto (i := i) (by omega)
  refine aa _ hu ?_
  refine tQ (own := [⟨r0, _, [iV l[i].1, s]⟩]) (O1 := []) (O2 := []) (by simp) (R := fun x _ O3 => (∃ b, x = .bool b) ∧ O3 = []) (Triple.mono (Ed hus (l := l) (by rw [List.length_take]; omega) (fun j r t a b => ?_) ⟨r0, _, [iV l[i].1, s]⟩ rfl) ?_) ?_ ?_
  ·have hj : j < i := by have := (List.getElem?_eq_some_iff.1 a).1; rw [List.length_take] at this; omega
   rw [List.getElem?_take_of_lt hj] at a
   obtain ⟨s, e, q⟩ := hr j r t a b
   exact ⟨s, e, q.le l15⟩
  ·rintro x _ _ _ ⟨hx, rfl⟩
   exact ⟨[], by simp, hx, rfl⟩
  ·exact ⟨rfl, ⟨rfl, hse.one, trivial⟩, trivial⟩
  ·rintro _ H6 _ ⟨⟨b, rfl⟩, rfl⟩ l6
   refine ⟨[.bool b], rfl, ⟨rfl, trivial⟩, ai (fun hd => ?_) (fun hd => ?_)⟩
   ·exact af ⟨⟨_, rfl⟩, by simp⟩
   ·exact aa _ (aD (by omega)) (az (by simp [Eqs, E]) hlt ⟨by simp, Heap.le_trans l15 l6⟩)
 ·refine aa _ hl ?_
  exact aa _ (iG _ _) (af ⟨⟨_, rfl⟩, rfl⟩)
theorem zb {l : List Value} {i : Nat} {v : Value} (h : l[i]? = some v) : ah .aidx (iV i :: l) = some v := by
 have hlt := (List.getElem?_eq_some_iff.1 h).1
 simp only [ah, kQ]
 rw [if_pos ⟨by omega, by omega⟩]
 simpa using h
theorem sq (a b c d m : Int) (H : Heap) (O : Go.Sx.Own) : RetO PP mJ [.agg #[iV a, iV b, iV c, iV d], iV m] H O (.bool ([a, b, c, d].all fun n => jR n 0 m)) := by
 refine oK (vs := [iV a, iV b, iV c, iV d, iV m]) (by kernel_rfl) ⟨rfl, rfl, rfl, rfl, rfl, trivial⟩ ?_
 simp only [mF]
 refine fun r0 => ae (aL 4 (fun i H' O' => O' = O ∧ ([a, b, c, d].all fun n => jR n 0 m) = (([a, b, c, d].drop i).all fun n => jR n 0 m)) ⟨rfl, rfl⟩ ?_)
 rintro i H' O' hi - ⟨rfl, hor⟩
 refine aa _ (aF _ _) (ai (fun hb => ?_) (fun hb => ?_))
 ·have hlt : i < 4 := by have := of_decide_eq_true hb; omega
  have hlt' : i < [a, b, c, d].length := hlt
  have hv : [iV a, iV b, iV c, iV d][i]? = some (iV [a, b, c, d][i]) := by
   have : [iV a, iV b, iV c, iV d] = [a, b, c, d].map iV := rfl
   rw [this, List.getElem?_map, List.getElem?_eq_getElem hlt']; rfl
  refine aa _ (zb hv) (aa _ (aF _ _) (ab (ab (aa _ (cH _ _) (ab (aa _ (aw _ _) (ai (fun hb => af ⟨?_, rfl⟩) (fun hb => aa _ (aD (by omega)) (az (by simp [Eqs, E]) hlt ⟨rfl, ?_⟩)))))))))
  ·rw [hor, List.drop_eq_getElem_cons hlt', List.all_cons]
   have : jR [a, b, c, d][i] 0 m = false := by simp [jR] at hb ⊢; omega
   rw [this]; rfl
  ·rw [hor, List.drop_eq_getElem_cons hlt', List.all_cons]
   have : jR [a, b, c, d][i] 0 m = true := by simp [jR] at hb ⊢; omega
   rw [this]; rfl
 ·have : i = 4 := by have := of_decide_eq_false hb; omega
  subst this
  exact af ⟨by rw [hor]; rfl, rfl⟩
def yS (a b c d e : Int) : Bool := (([a, b, c, d].all fun n => jR n 0 20) && decide (e ≥ 0)) && decide (e ≤ 20)
theorem pX (a b c d e : Int) (H : Heap) (O : Go.Sx.Own) : RetO PP jF [.agg #[iV a, iV b, iV c, iV d, iV e]] H O (.bool (yS a b c d e)) := by
 refine lZ (vs := [iV a, iV b, iV c, iV d, iV e]) (by kernel_rfl) ⟨rfl, rfl, rfl, rfl, rfl, trivial⟩ ?_
 simp only [jA]
 refine aj fun r0 => ?_
 refine ae ?_
 refine ak (sq a b c d 20 _ _) rfl ⟨rfl, trivial⟩ fun H1 l1 => ?_
 refine ae (ab (ab ?_))
 refine aa _ (iI _ _) ?_
 refine ab ?_
 refine aa _ (ap _ _) ?_
 refine ae (ab (ab ?_))
 refine aa _ (iG _ _) ?_
 refine ab ?_
 refine aa _ (ap _ _) ?_
 exact af ⟨rfl, rfl⟩
theorem EZ (a b c d : Int) : ∃ s, (∀ H O, RetO PP ri [.agg #[iV a, iV b, iV c, iV d]] H O (iV s)) ∧ (a = 0 → b = 0 → c = 0 → d = 0 → s = 0) := by
 let st : Nat → Int := fun i => (([a, b, c, d].take i).foldl (fun s x => IntKind.i64.wrap (s + x)) 0)
 refine ⟨st 4, fun H O => ?_, ?_⟩
 ·refine sS (vs := [iV a, iV b, iV c, iV d]) (by kernel_rfl) ⟨rfl, rfl, rfl, rfl, trivial⟩ ?_
  simp only [rf]
  refine aj fun r0 => ?_
  refine ae ?_
  refine fV 4 (fun i x H' O' => x = iV (st i) ∧ O' = O) ⟨rfl, rfl⟩ ?_
  rintro i _ H1 _ hi - ⟨rfl, rfl⟩
  refine aa _ (aF _ _) (ai (fun hb => ?_) (fun hb => ?_))
  ·have hlt : i < 4 := by have := of_decide_eq_true hb; omega
   have hv : [iV a, iV b, iV c, iV d][i]? = some (iV ([a, b, c, d][i]'hlt)) := by
    have : [iV a, iV b, iV c, iV d] = [a, b, c, d].map iV := rfl
    rw [this, List.getElem?_map, List.getElem?_eq_getElem hlt]; rfl
   refine aa _ (zb hv) ?_
   refine aa _ (show ah (.bin .add .int) [iV (st i), iV ([a, b, c, d][i]'hlt)] = some (iV (IntKind.i64.wrap (st i + ([a, b, c, d][i]'hlt)))) from rfl) ?_
   refine aa _ (aD (by omega)) (bO (by simp [Eqs, E]) hlt ⟨?_, rfl⟩)
   show _ = iV (st (i + 1))
   simp only [st]
   rw [List.take_add_one, List.getElem?_eq_getElem (show i < [a, b, c, d].length from hlt), Option.toList_some, List.foldl_append]; rfl
  ·have : i = 4 := by have := of_decide_eq_false hb; omega
   subst this
   exact af ⟨rfl, rfl⟩
 ·rintro rfl rfl rfl rfl
  decide
theorem Ci (a b c d e : Int) : ∃ s, (∀ H O, RetO PP nY [.agg #[iV a, iV b, iV c, iV d, iV e]] H O (iV s)) ∧ (a = 0 → b = 0 → c = 0 → d = 0 → e = 0 → s = 0) := by
 obtain ⟨s, h1, h2⟩ := EZ a b c d
 refine ⟨if yS a b c d e then IntKind.i64.wrap (s + e) else 0, fun H O => ?_, fun ha hb hc hd he => ?_⟩
 ·refine qt (vs := [iV a, iV b, iV c, iV d, iV e]) (by kernel_rfl) ⟨rfl, rfl, rfl, rfl, rfl, trivial⟩ ?_
  simp only [nN]
  refine aj fun r0 => ?_
  refine ae ?_
  refine ak (pX a b c d e _ _) rfl ⟨rfl, trivial⟩ fun H1 l1 => ?_
  refine aa _ (av _) (ai (fun hx => ?_) (fun hx => ?_))
  ·exact af ⟨by rw [show yS a b c d e = false from DD hx]; rfl, rfl⟩
  ·refine ae (ae ?_)
   refine ak (h1 _ _) rfl ⟨rfl, trivial⟩ fun H2 l2 => ?_
   refine aa _ (show ah (.bin .add .int) [iV s, iV e] = some (iV (IntKind.i64.wrap (s + e))) from rfl) (af ⟨?_, rfl⟩)
   rw [if_pos (show yS a b c d e = true from Dm hx)]
 ·subst ha; subst hb; subst hc; subst hd; subst he
  rw [h2 rfl rfl rfl rfl]
  decide
def AH (c : CdF) : Bool := ((c.pw == 0 && c.tn == 0) && c.ks == 0) && (c.trs.length : Int) == 0
theorem uW {H : Heap} {es ts : Value} {c : CdF} (h1 : es.oneCell' = true) (h2 : TrsF H ts c.trs) (O : Go.Sx.Own) : RetO PP og [.agg (my c es ts).toArray] H O (.bool (AH c)) := by
 refine qA (vs := my c es ts) (by kernel_rfl) (kp h1 h2.len.2.1) ?_
 simp only [nT]
 refine aj fun r0 => ?_
 refine ae ?_
 refine aa _ (an _ _) ?_
 refine ae (ab (ab ?_))
 refine aa _ (an _ _) ?_
 refine ab ?_
 refine aa _ (ap _ _) ?_
 refine ae (ab (ab ?_))
 refine aa _ (an _ _) ?_
 refine ab ?_
 refine aa _ (ap _ _) ?_
 refine ae (ab (ab ?_))
 refine aa _ h2.len.1 ?_
 refine ab ?_
 refine aa _ (an _ _) ?_
 refine ab ?_
 refine aa _ (ap _ _) ?_
 exact af ⟨rfl, rfl⟩
def yG (c : CdF) : Prop := jv c.nm = true ∧ wi c.rar 1 4 = true ∧ yS c.c0 c.c1 c.c2 c.c3 c.any = true ∧ EI c.effs = true ∧ AH c = true ∧
 ((c.kind = 1 ∧ wi c.makes 0 3 = true ∧ c.c0 = 0 ∧ c.c1 = 0 ∧ c.c2 = 0 ∧ c.c3 = 0 ∧ c.any = 0 ∧ c.effs.length = 0) ∨ ((c.kind = 3 ∨ c.kind = 4) ∧ c.makes = 0 ∧ 0 < c.effs.length ∧ c.effs.any EV = false))
def E6 (c : CdF) (b : Bool) : Prop := (b = true → jv c.nm = true ∧ 1 ≤ c.kind ∧ c.kind ≤ 4) ∧ (yG c → b = true)
def E7 (c : CdF) (x : Value) (_ : Heap) (O' : Go.Sx.Own) : Prop := (∃ b, x = .bool b ∧ E6 c b) ∧ O' = []
theorem gG {c : CdF} {H : Heap} (h : ¬ yG c) : E7 c (.bool false) H [] := ⟨⟨false, rfl, (fun e => by cases e), fun g => absurd g h⟩, rfl⟩
theorem zp {c : CdF} {H : Heap} {b : Bool} (h : jv c.nm = true) (hk : 1 ≤ c.kind ∧ c.kind ≤ 4) (hg : yG c → b = true) : E7 c (.bool b) H [] := ⟨⟨b, rfl, fun _ => ⟨h, hk⟩, hg⟩, rfl⟩
theorem Cj {H : Heap} {r : List Value} {c : CdF} (h : CdRF H r c) : Triple PP kE [.agg r.toArray] H [] (E7 c) := by
 obtain ⟨es, ts, rfl, he, ht⟩ := h
 refine qD (vs := my c es ts) (by kernel_rfl) (kp he.one ht.len.2.1) ?_
 simp only [nW]
 refine aj fun r0 => ?_
 refine ae ?_
 refine ak (Cc c.nm _ _) rfl ⟨rfl, trivial⟩ fun H1 l1 => ?_
 refine aa _ (av _) (ai (fun hd => ?_) (fun hd => ?_))
 ·exact af (gG fun g => by rw [g.1] at hd; cases hd)
 have hn : jv c.nm = true := Dm hd
 refine ae ?_
 refine ak (gp c.rar 1 4 _ _) rfl ⟨rfl, trivial⟩ fun H2 l2 => ?_
 refine aa _ (av _) (ai (fun hd => ?_) (fun hd => ?_))
 ·exact af (gG fun g => by rw [g.2.1] at hd; cases hd)
 refine ae ?_
 refine ak (pX c.c0 c.c1 c.c2 c.c3 c.any _ _) rfl ⟨rfl, trivial⟩ fun H3 l3 => ?_
 refine aa _ (av _) (ai (fun hd => ?_) (fun hd => ?_))
 ·exact af (gG fun g => by rw [g.2.2.1] at hd; cases hd)
 have he3 := he.le (Heap.le_trans l1 (Heap.le_trans l2 l3))
 refine ae ?_
 refine ak (Ej he3) rfl ⟨rfl, trivial⟩ fun H4 l4 => ?_
 refine aa _ (av _) (ai (fun hd => ?_) (fun hd => ?_))
 ·exact af (gG fun g => by rw [g.2.2.2.1] at hd; cases hd)
 have he4 := he3.le l4
 have ht4 := ht.le (Heap.le_trans l1 (Heap.le_trans l2 (Heap.le_trans l3 l4)))
 obtain ⟨e1, e2⟩ := fe he4
 obtain ⟨sv, hsv, hsv0⟩ := Ci c.c0 c.c1 c.c2 c.c3 c.any
 refine ae ?_
 refine aa _ (an _ _) (ai (fun h1 => ?_) (fun h1 => ?_))
 ·have hk : c.kind = 1 := by simpa using h1
  have hkk : 1 ≤ c.kind ∧ c.kind ≤ 4 := by omega
  refine ae ?_
  refine ak (gp c.makes 0 3 _ _) rfl ⟨rfl, trivial⟩ fun H5 l5 => ai (fun hd => ?_) (fun hd => ?_)
  rotate_left
  ·refine af (gG fun g => ?_)
   rcases g.2.2.2.2.2 with ⟨_, g, _⟩ | ⟨g, _⟩
   ·rw [g] at hd; cases hd
   ·omega
  refine ae ?_
  refine ak (hsv _ _) rfl ⟨rfl, trivial⟩ fun H6 l6 => ?_
  refine aa _ (an _ _) ?_
  refine ae (ab (ab ?_))
  refine aa _ e1 ?_
  refine ab ?_
  refine aa _ (an _ _) ?_
  refine ab ?_
  refine aa _ (ap _ _) (ai (fun hd2 => ?_) (fun hd2 => ?_))
  rotate_left
  ·refine af (gG fun g => ?_)
   rcases g.2.2.2.2.2 with ⟨_, _, g0, g1, g2, g3, g4, g5⟩ | ⟨g, _⟩
   ·rw [hsv0 g0 g1 g2 g3 g4, g5] at hd2; cases hd2
   ·omega
  refine ae ?_
  refine ak (uW he4.one (ht4.le (Heap.le_trans l5 l6)) _) rfl ⟨rfl, trivial⟩ fun H7 l7 => ?_
  exact af (zp hn hkk fun g => g.2.2.2.2.1)
 have n1 : c.kind ≠ 1 := by simpa using h1
 refine aa _ (an _ _) (ai (fun h1 => ?_) (fun h1 => ?_))
 ·have hk : c.kind = 2 := by simpa using h1
  have hkk : 1 ≤ c.kind ∧ c.kind ≤ 4 := by omega
  have hng : ¬ yG c := fun g => by
   rcases g.2.2.2.2.2 with ⟨g, _⟩ | ⟨g, _⟩ <;> omega
  refine ae ?_
  refine aa _ (an _ _) (ai (fun _ => ?_) (fun _ => af (gG hng)))
  refine ae ?_
  refine ak (gp c.pw 0 20 _ _) rfl ⟨rfl, trivial⟩ fun H5 l5 => ai (fun _ => ?_) (fun _ => af (gG hng))
  refine ae ?_
  refine ak (gp c.tn 1 20 _ _) rfl ⟨rfl, trivial⟩ fun H6 l6 => ?_
  refine ae (ab (ab ?_))
  refine aa _ (show ah (.bin .andNot .int) [iV c.ks, iV 15] = some (iV _) from rfl) ?_
  refine ab ?_
  refine aa _ (an _ _) ?_
  refine ab ?_
  refine aa _ (ap _ _) (ai (fun _ => ?_) (fun _ => af (gG hng)))
  refine ae ?_
  refine cX (w9 (ht4.le (Heap.le_trans l5 l6))) (by rintro _ ⟨n, rfl⟩; rfl) ?_
  rintro _ H7 ⟨b, rfl⟩ l7
  exact af (zp hn hkk fun g => absurd g hng)
 have n2 : c.kind ≠ 2 := by simpa using h1
 refine aa _ (an _ _) (ai (fun h1 => ?_) (fun h1 => ?_))
 ·have hk : c.kind = 3 := by simpa using h1
  have hkk : 1 ≤ c.kind ∧ c.kind ≤ 4 := by omega
  refine ai (fun _ => ?_) (fun hd => by rw [h1] at hd; cases hd)
  refine ae ?_
  refine aa _ (an _ _) ?_
  refine ae (ab (ab ?_))
  refine aa _ e1 ?_
  refine ab ?_
  refine aa _ (cH _ _) ?_
  refine ab ?_
  refine aa _ (ap _ _) (ai (fun hd2 => ?_) (fun hd2 => ?_))
  rotate_left
  ·refine af (gG fun g => ?_)
   rcases g.2.2.2.2.2 with ⟨g, _⟩ | ⟨_, g0, g1, _⟩
   ·omega
   ·rw [g0] at hd2
    have : decide ((c.effs.length : Int) > 0) = true := decide_eq_true (by omega)
    rw [this] at hd2; cases hd2
  refine ae ?_
  refine ak (fg he4 rfl (ie ju (by decide)) fun H' _ x _ => wd x H') rfl ⟨rfl, trivial⟩ fun H5 l5 => ?_
  refine aa _ (av _) (ai (fun hd => ?_) (fun hd => ?_))
  rotate_left
  ·refine af (gG fun g => ?_)
   rcases g.2.2.2.2.2 with ⟨g, _⟩ | ⟨_, _, _, g⟩
   ·omega
   ·rw [g] at hd; cases hd
  refine ae ?_
  refine ak (uW he4.one (ht4.le l5) _) rfl ⟨rfl, trivial⟩ fun H7 l7 => ?_
  exact af (zp hn hkk fun g => g.2.2.2.2.1)
 have n3 : c.kind ≠ 3 := by simpa using h1
 refine aa _ (an _ _) (ai (fun h1 => ?_) (fun h1 => ?_))
 ·have hk : c.kind = 4 := by simpa using h1
  have hkk : 1 ≤ c.kind ∧ c.kind ≤ 4 := by omega
  refine ae ?_
  refine aa _ (an _ _) ?_
  refine ae (ab (ab ?_))
  refine aa _ e1 ?_
  refine ab ?_
  refine aa _ (cH _ _) ?_
  refine ab ?_
  refine aa _ (ap _ _) (ai (fun hd2 => ?_) (fun hd2 => ?_))
  rotate_left
  ·refine af (gG fun g => ?_)
   rcases g.2.2.2.2.2 with ⟨g, _⟩ | ⟨_, g0, g1, _⟩
   ·omega
   ·rw [g0] at hd2
    have : decide ((c.effs.length : Int) > 0) = true := decide_eq_true (by omega)
    rw [this] at hd2; cases hd2
  refine ae ?_
  refine ak (fg he4 rfl (ie ju (by decide)) fun H' _ x _ => wd x H') rfl ⟨rfl, trivial⟩ fun H5 l5 => ?_
  refine aa _ (av _) (ai (fun hd => ?_) (fun hd => ?_))
  rotate_left
  ·refine af (gG fun g => ?_)
   rcases g.2.2.2.2.2 with ⟨g, _⟩ | ⟨_, _, _, g⟩
   ·omega
   ·rw [g] at hd; cases hd
  refine ae ?_
  refine ak (uW he4.one (ht4.le l5) _) rfl ⟨rfl, trivial⟩ fun H7 l7 => ?_
  exact af (zp hn hkk fun g => g.2.2.2.2.1)
 have n4 : c.kind ≠ 4 := by simpa using h1
 refine af (gG fun g => ?_)
 rcases g.2.2.2.2.2 with ⟨g, _⟩ | ⟨g, _⟩ <;> omega
section
open Go.RowKit Go.Lib
theorem xt (c : Int) (w : World) : Calls Tryz.prog 127 #[.int .i64 c] w fun e w' => (∃ s, e = .returned (.string s) ∧ s.size < 100) ∧ (∀ j, j < w.heap.size → w'.heap[j]? = w.heap[j]?) ∧ cU w' = cU w := by
  go_enter Tryz.func127, Tryz.ntmps127
  go_wp2
  all_goals go_ret
  all_goals refine ⟨?_, fun j hj => Below.heap_alloc _ _ j hj, rfl⟩
  all_goals first
    | exact ⟨_, rfl, by decide⟩
    | (obtain h | h | h | h | h | h | h | h | h | h | h | h : c = 1 ∨ c = 2 ∨ c = 3 ∨ c = 4 ∨ c = 5 ∨ c = 6 ∨ c = 7 ∨ c = 8 ∨ c = 9 ∨ c = 10 ∨ c = 11 ∨ c = 12 := by omega
       all_goals subst h; exact ⟨_, rfl, by decide⟩)
end
theorem xe (c : Int) (H : Heap) (O : Go.Sx.Own) : Triple PP jQ [iV c] H O fun x _ O' => (∃ l, x = Str l ∧ l.length < 100) ∧ O' = O := by
 intro w F hm
 refine (xt c w).mono ?_
 rintro e w' ⟨⟨s, rfl, hs⟩, h1, h2⟩
 exact ⟨.string s, H, O, rfl, ⟨⟨s.data.toList, xE s, by rw [Array.length_toList]; exact hs⟩, rfl⟩, Heap.le_refl H, yr hm h1 h2⟩
theorem yY (c : Int) (H : Heap) (O : Go.Sx.Own) : Triple PP eV [iV c] H O fun x _ O' => (∃ n, x = .int .u8 n) ∧ O' = O := by
 refine iT (vs := [iV c]) (by kernel_rfl) ⟨rfl, trivial⟩ ?_
 simp only [eQ]
 refine aa _ (aF _ _) ?_
 refine ab ?_
 refine aa _ (cH _ _) ?_
 refine ab ?_
 refine aa _ (aw _ _) (ai (fun hd => ?_) (fun hd => ?_))
 ·exact af ⟨⟨_, rfl⟩, rfl⟩
 have hd : (decide (c < 0) || decide (c > 6)) = false := hd
 rw [Bool.or_eq_false_iff, decide_eq_false_iff_not, decide_eq_false_iff_not] at hd
 obtain ⟨n, rfl⟩ : ∃ n : Nat, c = (n : Int) := ⟨c.toNat, by omega⟩
 refine aa _ (lu [110, 99, 111, 120, 112, 101, 115] n (by show n < 7; omega)) (af ⟨⟨_, rfl⟩, rfl⟩)
theorem DU (l : List UInt8) (n : Int) (H : Heap) (O : Go.Sx.Own) (hl : l.length < 2 ^ 62) : Triple PP hP [Str l, .int .u8 n] H O fun x _ O' => (∃ b, x = .bool b) ∧ O' = O := by
 refine kW (vs := [Str l, .int .u8 n]) (by kernel_rfl) ⟨rfl, rfl, trivial⟩ ?_
 simp only [hE]
 refine aL l.length (fun i H' O' => O' = O ∧ Heap.le H H') ⟨rfl, Heap.le_refl H⟩ ?_
 rintro i H' O' hi - ⟨rfl, hle⟩
 refine aa _ (ia l) ?_
 refine aa _ (aF _ _) (ai (fun hb => ?_) (fun hb => ?_))
 ·have hlt : i < l.length := by simpa using hb
  refine aa _ (lu l i hlt) ?_
  refine aa _ (show ah (.bin .eql .int) [.int .u8 (l[i].toNat : Int), .int .u8 n] = some (.bool ((l[i].toNat : Int) == n)) by simp [ah, b8, b7]) (ai (fun _ => ?_) (fun _ => ?_))
  ·exact af ⟨⟨_, rfl⟩, rfl⟩
  ·exact aa _ (aD (by omega)) (az (by simp [Eqs, E]) hlt ⟨rfl, hle⟩)
 ·exact af ⟨⟨_, rfl⟩, rfl⟩
theorem xd (e : Eff) (H : Heap) (O : Go.Sx.Own) : Triple PP eE [.agg e.row.toArray] H O fun x _ O' => (∃ b, x = .bool b) ∧ O' = O := by
 refine ir (vs := e.row) (by kernel_rfl) (ij e) ?_
 simp only [eA]
 refine aj fun r0 => ?_
 repeat' (first | exact af ⟨⟨_, rfl⟩, rfl⟩ | refine ae ?_ | refine ab ?_ | refine aj fun _ => ?_ | refine aa _ (aF _ _) ?_ | refine aa _ (cH _ _) ?_ | refine aa _ (iG _ _) ?_ | refine aa _ (iI _ _) ?_ | refine aa _ (an _ _) ?_ | refine aa _ (ap _ _) ?_ | refine aa _ (aw _ _) ?_ | refine ai (fun _ => ?_) (fun _ => ?_) | refine aa (.int .i64 _) rfl ?_)
theorem eJ {P : Program} {f : FuncId} {args : List Value} {H : Heap} {O : Go.Sx.Own} {p : Value → Prop} {K : List Value → List (List Value) → Heap → Go.Sx.Own → Prop}
  (h : Triple P f args H O fun x _ O' => p x ∧ O' = O) (h1 : ∀ x, p x → x.oneCell' = true) (hk : ∀ x H', p x → Heap.le H H' → K [x] [] H' O) :
  cg (fun H1 O1 R => Triple P f args H1 O1 R) false [] [] .one K H O := by
 refine cI (O1 := O) (O2 := []) (by simp) h ?_
 rintro r H1 _ ⟨hr, rfl⟩ l1
 exact ⟨[r], rfl, ⟨h1 r hr, trivial⟩, by rw [List.append_nil]; exact hk r H1 hr l1⟩
theorem uX (e : Eff) (H : Heap) (O : Go.Sx.Own) : Triple PP fC [.agg e.row.toArray] H O fun x _ O' => (∃ b, x = .bool b) ∧ O' = O := by
 refine jK (vs := e.row) (by kernel_rfl) (ij e) ?_
 simp only [fm]
 refine aj fun r0 => ?_
 refine ae (ae ?_)
 refine eJ (xe e.code _ _) (by rintro _ ⟨l, rfl, _⟩; rfl) ?_
 rintro _ H1 ⟨l, rfl, hl⟩ l1
 refine eJ (yY e.target _ _) (by rintro _ ⟨n, rfl⟩; rfl) ?_
 rintro _ H2 ⟨n, rfl⟩ l2
 refine eJ (DU l n _ _ (by omega)) (by rintro _ ⟨n, rfl⟩; rfl) ?_
 rintro _ H3 ⟨b, rfl⟩ l3
 refine ai (fun _ => ?_) (fun _ => af ⟨⟨_, rfl⟩, rfl⟩)
 refine ae ?_
 refine eJ (xd e _ _) (by rintro _ ⟨n, rfl⟩; rfl) ?_
 rintro _ H4 ⟨b, rfl⟩ l4
 exact af ⟨⟨_, rfl⟩, rfl⟩
theorem yZ {H : Heap} {v : Value} {l : List Eff} (h : Sl H 5 v (bS l)) (O : Go.Sx.Own) : Triple PP hU [v] H O fun x _ O' => (∃ b, x = .bool b) ∧ O' = O := by
 refine kX (vs := [v]) (by kernel_rfl) ⟨h.one, trivial⟩ ?_
 simp only [hJ]
 obtain ⟨e1, e2⟩ := fe h
 refine aL l.length (fun i H' O' => O' = O ∧ Heap.le H H') ⟨rfl, Heap.le_refl H⟩ ?_
 rintro i H1 O1 hi - ⟨rfl, l1⟩
 refine aa _ e1 ?_
 refine aa _ (aF _ _) (ai (fun hb => ?_) (fun hb => ?_))
 ·have hlt : i < l.length := by simpa using hb
  obtain ⟨a, h1, h2, _, h3, h4⟩ := ((h.le l1).rsl O1).idx .i64 i _ (fU hlt)
  refine aa _ h1 (ao h2 h3 h4 ?_)
  refine eJ (uX l[i] _ _) (by rintro _ ⟨n, rfl⟩; rfl) ?_
  rintro _ H2 ⟨b, rfl⟩ l2
  refine aa _ (av _) (ai (fun _ => ?_) (fun _ => ?_))
  ·exact af ⟨⟨_, rfl⟩, rfl⟩
  ·exact aa _ (aD (by omega)) (az (by simp [Eqs, E]) hlt ⟨rfl, Heap.le_trans l1 l2⟩)
 ·refine aa _ e1 ?_
  exact aa _ (iG _ _) (af ⟨⟨_, rfl⟩, rfl⟩)
theorem xc {H : Heap} {v : Value} {l : List Eff} (h : Sl H 5 v (bS l)) (O : Go.Sx.Own) : Triple PP eD [v] H O fun x _ O' => (∃ n, x = iV n) ∧ O' = O := by
 refine iq (vs := [v]) (by kernel_rfl) ⟨h.one, trivial⟩ ?_
 simp only [ez]
 obtain ⟨e1, e2⟩ := fe h
 refine fV l.length (fun _ x H' O' => (∃ n, x = iV n) ∧ O' = O ∧ Heap.le H H') ⟨⟨0, rfl⟩, rfl, Heap.le_refl _⟩ ?_
 rintro i x H1 O1 hi - ⟨⟨n, rfl⟩, rfl, l1⟩
 refine aa _ e1 ?_
 refine aa _ (aF _ _) (ai (fun hb => ?_) (fun hb => ?_))
 ·have hlt : i < l.length := by simpa using hb
  obtain ⟨a, h1, h2, hp, h3, h4⟩ := ((h.le l1).rsl O1).idx .i64 i _ (fU hlt)
  refine aa _ h1 ?_
  refine au rfl ?_
  refine ao (vs := [iV l[i].target]) (hp 1 1 (by omega)) rfl ⟨rfl, trivial⟩ ?_
  refine aa _ (dl _ _) (ai (fun hb => ?_) (fun hb => ?_))
  ·refine aa _ (show ah (.bin .add .int) [iV n, iV 1] = some (iV (IntKind.i64.wrap (n + 1))) from rfl) ?_
   exact aa _ (aD (by omega)) (bO (by simp [Eqs, E]) hlt ⟨⟨_, rfl⟩, rfl, l1⟩)
  ·exact aa _ (aD (by omega)) (bO (by simp [Eqs, E]) hlt ⟨⟨_, rfl⟩, rfl, l1⟩)
 ·exact af ⟨⟨n, rfl⟩, rfl⟩
theorem xb {H : Heap} {s : Value} {t : Int × List Eff} (h : Sl H 5 s (bS t.2)) (O : Go.Sx.Own) : Triple PP eC [.agg #[iV t.1, s]] H O fun x _ O' => (∃ b, x = .bool b) ∧ O' = O := by
 refine ip (vs := [iV t.1, s]) (by kernel_rfl) ⟨rfl, h.one, trivial⟩ ?_
 simp only [ew]
 obtain ⟨e1, e2⟩ := fe h
 refine aj fun r0 => ?_
 refine ae ?_
 refine aa _ (iI _ _) ?_
 refine ae (ab (ab ?_))
 refine aa _ (iG _ _) ?_
 refine ab ?_
 refine aa _ (ap _ _) ?_
 refine ae (ab (ab ?_))
 refine aa _ e1 ?_
 refine ab ?_
 refine aa _ (an _ _) ?_
 refine ab (ae (ab (ab (ab (ab ?_)))))
 refine aa _ e1 ?_
 refine ab (ab ?_)
 refine aa _ (an _ _) ?_
 refine ab (ab (ab ?_))
 refine aa _ (aw _ _) ?_
 refine ab ?_
 refine aa _ (ap _ _) (ai (fun _ => ?_) (fun _ => af ⟨⟨_, rfl⟩, rfl⟩))
 refine ae ?_
 refine eJ (yZ h _) (by rintro _ ⟨n, rfl⟩; rfl) ?_
 rintro _ H1 ⟨b, rfl⟩ l1
 refine ai (fun _ => ?_) (fun _ => af ⟨⟨_, rfl⟩, rfl⟩)
 refine ae ?_
 refine eJ (xc (h.le l1) _) (by rintro _ ⟨n, rfl⟩; rfl) ?_
 rintro _ H2 ⟨n, rfl⟩ l2
 exact aa _ (an _ _) (af ⟨⟨_, rfl⟩, rfl⟩)
theorem nL (a b c d e : Int) (H : Heap) (O : Go.Sx.Own) : Triple PP dU [.agg #[iV a, iV b, iV c, iV d, iV e]] H O fun x _ O' => (∃ b, x = .bool b) ∧ O' = O := by
 refine gB (vs := [iV a, iV b, iV c, iV d, iV e]) (by kernel_rfl) ⟨rfl, rfl, rfl, rfl, rfl, trivial⟩ ?_
 simp only [dS]
 refine aj fun r0 => ?_
 repeat' (first | exact af ⟨⟨_, rfl⟩, rfl⟩ | refine ae ?_ | refine ab ?_ | refine aj fun _ => ?_ | refine aa _ (aF _ _) ?_ | refine aa _ (cH _ _) ?_ | refine aa _ (iG _ _) ?_ | refine aa _ (iI _ _) ?_ | refine aa _ (an _ _) ?_ | refine aa _ (ap _ _) ?_ | refine aa _ (aw _ _) ?_ | refine ai (fun _ => ?_) (fun _ => ?_) | refine aa (.int .i64 _) rfl ?_)
def uT : List Bool → Option Bool
 | [] => some true
 | b :: r => match some b with | some true => uT r | some false => some false | none => none
theorem mw : ∀ l : List Bool, uT l = some (l.all id)
 | [] => rfl
 | true :: r => by simp [uT, mw r]
 | false :: r => by simp [uT]
theorem BY (a b c d e : Int) : Bm PP (.eqv .eql qd false) [.agg #[iV a, iV b, iV c, iV d, iV e], .agg #[iV 0, iV 0, iV 0, iV 0, iV 0]] = some (.bool ([a == 0, b == 0, c == 0, d == 0, e == 0].all id)) := by
 have e : Bm PP (.eqv .eql qd false) [.agg #[iV a, iV b, iV c, iV d, iV e], .agg #[iV 0, iV 0, iV 0, iV 0, iV 0]] = (match uT [a == 0, b == 0, c == 0, d == 0] with | some true => uT [e == 0] | some false => some false | none => none : Option Bool).map fun b => .bool b := by kernel_rfl
 rw [e, mw, mw]
 cases a == 0 <;> cases b == 0 <;> cases c == 0 <;> cases d == 0 <;> rfl
theorem q5 (a b : Int) : ah (.bin .eql .int) [.int .u8 a, .int .u8 b] = some (.bool (a == b)) := by simp [ah, b8, b7]
theorem An (l : List UInt8) (H : Heap) (O : Go.Sx.Own) : Triple PP fB [Str l] H O fun x _ O' => (∃ b, x = .bool b) ∧ O' = O := by
 refine jJ (vs := [Str l]) (by kernel_rfl) ⟨rfl, trivial⟩ ?_
 simp only [fk]
 refine aa _ (ia l) ?_
 refine aa _ (aF _ _) ?_
 refine ab ?_
 refine aa _ (ia l) ?_
 refine ab ?_
 refine aa _ (cH _ _) ?_
 refine ab ?_
 refine aa _ (aw _ _) ?_
 by_cases hz : l.length = 0
 ·obtain rfl : l = [] := List.eq_nil_of_length_eq_zero hz
  refine ab ?_
  refine ⟨.int .u8 0, fun hg => (by have := hg.1; simp at this), .inr rfl, ?_⟩
  refine ab ?_
  refine aa _ (q5 _ _) ?_
  refine ab ?_
  refine aa _ (aw _ _) ?_
  refine ab ?_
  refine aa _ (ia _) ?_
  refine ab ?_
  refine aa (.int .i64 _) rfl ?_
  refine ab (ab ?_)
  refine ⟨.int .u8 0, fun hg => (by have := hg.1; simp at this), .inr rfl, ?_⟩
  refine ab ?_
  refine aa _ (q5 _ _) ?_
  refine ab ?_
  refine aa _ (aw _ _) (ai (fun _ => af ⟨⟨_, rfl⟩, rfl⟩) (fun hd => by cases hd))
 refine ab ?_
 refine ⟨.int .u8 (l[0]'(by omega)).toNat, fun _ => lu l 0 (by omega), .inr rfl, ?_⟩
 refine ab ?_
 refine aa _ (q5 _ _) ?_
 refine ab ?_
 refine aa _ (aw _ _) ?_
 refine ab ?_
 refine aa _ (ia _) ?_
 by_cases hB : 32 < l.length
 ·refine ab ?_
  refine aa (.int .i64 _) rfl ?_
  have hb : decide ((l.length : Int) > 32) = true := decide_eq_true (by omega)
  have hb2 : decide ((l.length : Int) < 1) = false := decide_eq_false (by omega)
  refine ab (ab ?_)
  refine ⟨.int .u8 0, fun hg => ?_, .inr rfl, ?_⟩
  ·exfalso
   have := hg.1
   simp only [hb, hb2] at this
   cases this
  refine ab ?_
  refine aa _ (q5 _ _) ?_
  refine ab ?_
  refine aa _ (aw _ _) (ai (fun _ => af ⟨⟨_, rfl⟩, rfl⟩) (fun hd => ?_))
  exfalso
  simp only [hb, hb2] at hd
  cases hd
 refine ab ?_
 refine aa (iV ((l.length - 1 : Nat) : Int)) ?_ ?_
 ·have : IntKind.i64.wrap ((l.length : Int) - 1) = ((l.length - 1 : Nat) : Int) := by rw [iQ (by omega) (by omega)]; omega
  show some (iV (IntKind.i64.wrap ((l.length : Int) - 1))) = _
  rw [this]
 refine ab (ab ?_)
 refine ⟨.int .u8 (l[l.length - 1]'(by omega)).toNat, fun _ => lu l (l.length - 1) (by omega), .inr rfl, ?_⟩
 refine ab ?_
 refine aa _ (q5 _ _) ?_
 refine ab ?_
 refine aa _ (aw _ _) (ai (fun _ => af ⟨⟨_, rfl⟩, rfl⟩) (fun _ => ?_))
 refine aL l.length (fun i H' O' => O' = O ∧ Heap.le H H') ⟨rfl, Heap.le_refl H⟩ ?_
 rintro i H' O' hi - ⟨rfl, hle⟩
 refine aa _ (ia l) ?_
 refine aa _ (aF _ _) (ai (fun hb => ?_) (fun hb => ?_))
 ·have hlt : i < l.length := by simpa using hb
  refine aa _ (lu l i hlt) ?_
  refine aa _ (AS _ _) ?_
  refine ab (ab ?_)
  refine ⟨.int .u8 l[i].toNat, fun _ => lu l i hlt, .inr rfl, ?_⟩
  refine ab ?_
  refine aa _ (AX _ _) ?_
  refine ab ?_
  refine aa _ (aw _ _) (ai (fun _ => af ⟨⟨_, rfl⟩, rfl⟩) (fun _ => ?_))
  exact aa _ (aD (by omega)) (az (by simp [Eqs, E]) hlt ⟨rfl, hle⟩)
 ·exact af ⟨⟨_, rfl⟩, rfl⟩
theorem vz {P : Program} {gd : Gd} {op : PrimOp} {args : List Value} {k : Value → Tree} {H : Heap} {O : Go.Sx.Own} {Q : Value → Heap → Go.Sx.Own → Prop} {v : Value} (h : Bm P op args = some v) (hk : (k v).den P Q H O) :
  (Tree.raw gd op args k).den P Q H O := ⟨v, fun _ w => (vA h w).1, (vA h default).2, hk⟩
theorem vj {H : Heap} (O : Go.Sx.Own) {v : Value} {l : List (Int × List Eff)} (h : TrsF H v l) {i : Nat} (hi : i < l.length) :
  ∃ a s, ah (.idx 2) [v, iV i] = some (.pointer (some a)) ∧ Reads H O (.pointer (some a)) 2 [iV l[i].1, s] ∧ Reads H O (.pointer (some a)) 1 [iV l[i].1] ∧ Sl H 5 s (bS l[i].2) := by
 obtain ⟨rows, hs, hlen, hr⟩ := h
 have hlt : i < rows.length := by omega
 obtain ⟨s, e, hse⟩ := hr i rows[i] l[i] (by simp [hlt]) (by simp [hi])
 obtain ⟨a, k1, k2, k3, _, _⟩ := (hs.rsl O).idx .i64 i rows[i] (by simp [hlt])
 rw [e] at k2 k3
 have := k3 0 1 (by omega)
 rw [Dy] at this
 exact ⟨a, s, k1, k2, this, hse⟩
theorem ldG {P : Program} {gd : Gd} {p : Value} {m : Nat} {k : List Value → Tree} {H : Heap} {O : Go.Sx.Own} {Q : Value → Heap → Go.Sx.Own → Prop} (vs : List Value) (hl : vs.length = m) (ho : Ones vs) (h : On gd → Reads H O p m vs) (hk : (k vs).den P Q H O) : (Tree.load gd p m k).den P Q H O := ⟨vs, hl, ho, h, hk⟩
theorem AL {H : Heap} {c : CdF} {es ts : Value} (k : Bool) {n r0 : Nat} {b : Bool} (he : Sl H 5 es (bS c.effs)) (ht : TrsF H ts c.trs) :
  (bH (.bool k) n r0 (my c es ts) (.bool b)).den PP (fun x _ O' => (∃ b, x = .bool b) ∧ O' = []) H [] := by
 obtain ⟨e1, e2⟩ := fe he
 simp only [bH]
 refine ai (fun _ => ?_) (fun _ => af ⟨⟨_, rfl⟩, rfl⟩)
 refine aL c.effs.length (fun i H' O' => O' = [] ∧ Heap.le H H') ⟨rfl, Heap.le_refl _⟩ ?_
 rintro i H1 _ hi - ⟨rfl, l1⟩
 refine ae ?_
 refine aa _ e1 ?_
 refine aa _ (aF _ _) (ai (fun hb => ?_) (fun hb => ?_))
 ·have hlt : i < c.effs.length := by simpa using hb
  obtain ⟨a, h1, h2, _, h3, h4⟩ := ((he.le l1).rsl []).idx .i64 i _ (fU hlt)
  refine ae ?_
  refine aa _ h1 (ao h2 h3 h4 (aj fun r1 => ?_))
  refine ae (ae (aa _ (an _ _) (ae (ab (ab (aa _ (an _ _) (ab (ae (ab (ab (ab (ab (aa _ (an _ _) (ab (ab (ab (aa _ (aw _ _) (ab (aa _ (ap _ _) ?_)))))))))))))))))))
  refine ai (fun _ => af ⟨⟨_, rfl⟩, rfl⟩) (fun _ => ?_)
  exact aa _ (aD (by omega)) (az (by simp [Eqs, E]) hlt ⟨rfl, l1⟩)
 ·refine ae (aa _ (an _ _) ?_)
  refine ai (fun _ => ?_) (fun _ => af ⟨⟨_, rfl⟩, rfl⟩)
  refine ae ?_
  refine cX (nL c.c0 c.c1 c.c2 c.c3 c.any _ _) (by rintro _ ⟨n, rfl⟩; rfl) ?_
  rintro _ H2 ⟨b2, rfl⟩ l2
  have he2 := he.le (Heap.le_trans l1 l2)
  refine ae (ab (ab ?_))
  refine aa _ e1 ?_
  refine ab (aa _ (aF _ _) (ab (aa _ (ap _ _) ?_)))
  refine ai (fun _ => ?_) (fun _ => af ⟨⟨_, rfl⟩, rfl⟩)
  refine ae ?_
  refine cX (yZ he2 _) (by rintro _ ⟨n, rfl⟩; rfl) ?_
  rintro _ H3 ⟨b3, rfl⟩ l3
  refine ab (aa _ (ap _ _) ?_)
  exact af ⟨⟨_, rfl⟩, rfl⟩
theorem Bq {H : Heap} {r : List Value} {c : CdF} (h : CdRF H r c) : Triple PP fA [.agg r.toArray] H [] fun x _ O' => (∃ b, x = .bool b) ∧ O' = [] := by
 obtain ⟨es, ts, rfl, he, ht⟩ := h
 refine jI (vs := my c es ts) (by kernel_rfl) (kp he.one ht.len.2.1) ?_
 simp only [fj]
 refine aj fun r0 => ?_
 refine ae ?_
 refine cX (An c.nm _ _) (by rintro _ ⟨n, rfl⟩; rfl) ?_
 rintro _ H1 ⟨b1, rfl⟩ l1
 refine aa _ (av _) (ae (ab (ab (aa _ (aF _ _) (ab (aa _ (aw _ _) (ae (ab (ab (aa _ (aF _ _) (ab (aa _ (aw _ _) ?_))))))))))))
 refine ai (fun _ => af ⟨⟨_, rfl⟩, rfl⟩) (fun _ => ?_)
 have he1 := he.le l1
 have ht1 := ht.le l1
 obtain ⟨e1, e2⟩ := fe he1
 refine ae (aa _ (an _ _) (ae (ab (ab (aa _ (an _ _) (ab (aa _ (ap _ _) (ae (ab (ab (aa _ (an _ _) (ab (aa _ (ap _ _) (ae (ab (ab ?_))))))))))))))))
 refine aa _ ht1.len.1 ?_
 refine ab (aa _ (an _ _) (ab (aa _ (ap _ _) (ae (aa _ (an _ _) ?_)))))
 refine ai (fun _ => ?_) (fun _ => ?_)
 ·refine ae (aa _ (iG _ _) (ae (ab (ab (aa _ (iG _ _) (ab (aa _ (ap _ _) (ae (ab (ab ?_))))))))))
  refine aa _ e1 ?_
  refine ab (aa _ (an _ _) (ab (aa _ (ap _ _) (ab (aa _ (ap _ _) (ae (ab (ab (ab ?_)))))))))
  refine vz (BY c.c0 c.c1 c.c2 c.c3 c.any) ?_
  refine ab (aa _ (ap _ _) ?_)
  exact af ⟨⟨_, rfl⟩, rfl⟩
 refine aa _ (an _ _) ?_
 refine ai (fun _ => ?_) (fun _ => ?_)
 ·refine ae (aa _ (dl _ _) ?_)
  refine ai (fun _ => af ⟨⟨_, rfl⟩, rfl⟩) (fun _ => ?_)
  refine ae ?_
  refine cX (nL c.c0 c.c1 c.c2 c.c3 c.any _ _) (by rintro _ ⟨n, rfl⟩; rfl) ?_
  rintro _ H2 ⟨b2, rfl⟩ l2
  repeat (first | refine ae ?_ | refine ab ?_ | refine aj fun _ => ?_ | refine aa _ (aF _ _) ?_ | refine aa _ (cH _ _) ?_ | refine aa _ (iG _ _) ?_ | refine aa _ (iI _ _) ?_ | refine aa _ (an _ _) ?_ | refine aa _ (dl _ _) ?_ | refine aa _ (ap _ _) ?_ | refine aa _ (aw _ _) ?_ | refine aa _ (av _) ?_ | refine aa _ (CZ _ _) ?_ | refine aa _ (CP _ _) ?_)
  refine ai (fun _ => af ⟨⟨_, rfl⟩, rfl⟩) (fun _ => ?_)
  refine ae ?_
  refine cX (yZ (he1.le l2) _) (by rintro _ ⟨n, rfl⟩; rfl) ?_
  rintro _ H3 ⟨b3, rfl⟩ l3
  have ht3 := ht1.le (Heap.le_trans l2 l3)
  refine aa _ (av _) (ae (ab (ab ?_)))
  refine aa _ ht3.len.1 ?_
  refine ab (aa _ (aF _ _) (ab (aa _ (aw _ _) ?_)))
  refine ai (fun _ => af ⟨⟨_, rfl⟩, rfl⟩) (fun _ => ?_)
  have hB := ht3.len.2.2
  refine aL c.trs.length (fun i H' O' => O' = [] ∧ Heap.le H3 H') ⟨rfl, Heap.le_refl _⟩ ?_
  rintro i H4 _ hi - ⟨rfl, l4⟩
  have ht4 := ht3.le l4
  refine ae ?_
  refine aa _ ht4.len.1 ?_
  refine aa _ (aF _ _) (ai (fun hb => ?_) (fun hb => af ⟨⟨_, rfl⟩, rfl⟩))
  have hlt : i < c.trs.length := by simpa using hb
  obtain ⟨a, s, k1, k2, _, k4⟩ := vj [] ht4 hlt
  refine ae ?_
  refine aa _ k1 (ao k2 rfl ⟨rfl, k4.one, trivial⟩ ?_)
  refine cX (xb (t := c.trs[i]) k4 _) (by rintro _ ⟨n, rfl⟩; rfl) ?_
  rintro _ H5 ⟨b5, rfl⟩ l5
  have ht5 := ht4.le l5
  refine aa _ (av _) ?_
  refine ab ?_
  refine aa _ (an _ _) ?_
  refine ab (ae (ab (ab (ab (ab ?_)))))
  have g0 : 0 < c.trs.length := by omega
  obtain ⟨a0, s0, q1, _, q3, _⟩ := vj [] ht5 g0
  by_cases g1 : 1 < c.trs.length
  ·obtain ⟨a1, s1, p1, _, p3, _⟩ := vj [] ht5 g1
   refine ⟨_, fun _ => q1, .inr rfl, ?_⟩
   refine au rfl (ab (ab (ab (ab ?_))))
   refine ldG [iV c.trs[0].1] rfl ⟨rfl, trivial⟩ (fun _ => q3) ?_
   refine ae (ab (ab (ab (ab ?_))))
   refine ⟨_, fun _ => p1, .inr rfl, ?_⟩
   refine au rfl (ab (ab (ab (ab ?_))))
   refine ldG [iV c.trs[1].1] rfl ⟨rfl, trivial⟩ (fun _ => p3) ?_
   refine ab (ab (ab (ab (aa _ (an _ _) (ab (ab (ab (aa _ (ap _ _) (ab (aa _ (aw _ _) ?_))))))))))
   refine ai (fun _ => af ⟨⟨_, rfl⟩, rfl⟩) (fun _ => ?_)
   exact aa _ (aD (by omega)) (az (by simp [Eqs, E]) hlt ⟨rfl, Heap.le_trans l4 l5⟩)
  ·have hi0 : i = 0 := by omega
   have ng : ∀ {X : Gd} {p : Prop}, On ((.bool ((i : Int) == 1), true) :: X) → p := fun h => by
    have := h.1
    rw [hi0] at this
    simp at this
   refine ⟨_, fun _ => q1, .inr rfl, ?_⟩
   refine au rfl (ab (ab (ab (ab ?_))))
   refine ldG [iV c.trs[0].1] rfl ⟨rfl, trivial⟩ (fun _ => q3) ?_
   refine ae (ab (ab (ab (ab ?_))))
   refine ⟨.pointer (some a0), fun h => ng h, .inr rfl, ?_⟩
   refine au rfl (ab (ab (ab (ab ?_))))
   refine ldG [iV 0] rfl ⟨rfl, trivial⟩ (fun h => ng h) ?_
   refine ab (ab (ab (ab (aa _ (an _ _) (ab (ab (ab (aa _ (ap _ _) (ab (aa _ (aw _ _) ?_))))))))))
   refine ai (fun _ => af ⟨⟨_, rfl⟩, rfl⟩) (fun _ => ?_)
   exact aa _ (aD (by omega)) (az (by simp [Eqs, E]) hlt ⟨rfl, Heap.le_trans l4 l5⟩)
 refine aa _ (an _ _) ?_
 refine ai (fun _ => ?_) (fun _ => ?_)
 ·exact AL _ he1 ht1
 refine aa _ (an _ _) ?_
 exact AL _ he1 ht1
theorem Bo {H : Heap} {cv : Value} {cs : List CdF} (h : CardsF H cv cs) : Triple PP fx [cv] H [] fun x _ O' => (∃ n, x = iV n) ∧ O' = [] := by
 refine jH (vs := [cv]) (by kernel_rfl) ⟨h.one, trivial⟩ ?_
 simp only [fi]
 have hB := h.lenB
 refine aa _ h.len ?_
 refine aa _ (cH _ _) (ai (fun _ => af ⟨⟨_, rfl⟩, rfl⟩) (fun _ => ?_))
 refine aL cs.length (fun i H' O' => O' = [] ∧ Heap.le H H') ⟨rfl, Heap.le_refl _⟩ ?_
 rintro i H1 _ hi - ⟨rfl, l1⟩
 refine aa _ h.len ?_
 refine aa _ (aF _ _) (ai (fun hb => ?_) (fun _ => ?_))
 ·have hlt : i < cs.length := by simpa using hb
  obtain ⟨a, row, k1, k2, _, k4, k5, k6⟩ := lM [] (h.le l1) hlt
  refine aa _ k1 (ao k2 k4 k5 ?_)
  rw [show (ag (G14 row 0) : Value) = .agg row.toArray from Db k4]
  refine cX (Bq k6) (by rintro _ ⟨n, rfl⟩; rfl) ?_
  rintro _ H2 ⟨b, rfl⟩ l2
  refine aa _ (av _) (ai (fun _ => af ⟨⟨_, rfl⟩, rfl⟩) (fun _ => ?_))
  exact aa _ (aD (by omega)) (az (by simp [Eqs, E]) hlt ⟨rfl, Heap.le_trans l1 l2⟩)
 have h1 := h.le l1
 refine aL cs.length (fun i H' O' => O' = [] ∧ Heap.le H1 H') ⟨rfl, Heap.le_refl _⟩ ?_
 rintro i H2 _ hi - ⟨rfl, l2⟩
 refine aa _ h.len ?_
 refine aa _ (aF _ _) (ai (fun hb => ?_) (fun _ => af ⟨⟨_, rfl⟩, rfl⟩))
 have hlt : i < cs.length := by simpa using hb
 obtain ⟨a, row, k1, k2, k3, k4, k5, k6⟩ := lM [] (h1.le l2) hlt
 have q0 : Reads H2 [] (.pointer (some a)) 1 [Str cs[i].nm] := by
  have := k3 0 1 (by omega)
  rw [Dy] at this
  obtain ⟨es, ts, rfl, _⟩ := k6
  exact this
 refine aa _ k1 ?_
 refine au rfl ?_
 refine ao q0 rfl ⟨rfl, trivial⟩ ?_
 have hf := Dx (h1.le l2) cs[i].nm []
 have hfs : ∃ (x : Int) (b : Bool), yL cs cs[i].nm = .tuple #[iV x, .bool b] := by
  rw [yL]; cases fM cs cs[i].nm with
  | none => exact ⟨_, _, rfl⟩
  | some j => exact ⟨_, _, rfl⟩
 obtain ⟨x, b, e⟩ := hfs
 rw [e] at hf
 refine ak hf rfl (vs := [iV x, .bool b]) ⟨rfl, rfl, trivial⟩ fun H3 l3 => ?_
 refine aa _ (aF _ _) (ai (fun _ => af ⟨⟨_, rfl⟩, rfl⟩) (fun _ => ?_))
 exact aa _ (aD (by omega)) (az (by simp [Eqs, E]) hlt ⟨rfl, Heap.le_trans l2 l3⟩)
def lightC (c : CdF) : Prop := c.nm.length ≤ 100 ∧ c.effs.length ≤ 10 ∧ c.trs.length ≤ 5 ∧ ∀ t ∈ c.trs, t.2.length ≤ 10
theorem lightC.lit {c : CdF} (h : lightC c) : zW c := ⟨by have := h.2.1; omega, by have := h.2.2.1; omega, fun t ht => by have := h.2.2.2 t ht; omega⟩
def okN (c : CdF) : Prop := jv c.nm = true ∧ 1 ≤ c.kind ∧ c.kind ≤ 4
def PoolK (H : Heap) (p : Value) (cs : List CdF) : Prop := PoolF H p cs ∧ ∀ c ∈ cs, okN c
theorem PoolK.le {H H' : Heap} {p : Value} {cs : List CdF} (h : PoolK H p cs) (hl : Heap.le H H') : PoolK H' p cs := ⟨h.1.le hl, h.2⟩
theorem xu {H : Heap} {cs : List CdF} : zg H cs fun i b => ∀ hi : i < cs.length, E6 cs[i] b := fun i hi H' r hl hr hc => (Cj hc).mono fun x _ _ _ ⟨⟨b, e, hb⟩, ho⟩ => ⟨⟨b, e, fun _ => hb⟩, ho⟩
theorem A5 {H : Heap} {cv : Value} {cs : List CdF} (h : CardsF H cv cs) (hlit : ∀ c ∈ cs, zW c) : Triple PP iO [cv] H [] fun r H' O' =>
  ((∃ p, r = .tuple #[p, iV 0] ∧ PoolK H' p cs) ∨ (∃ e, r = .tuple #[.pointer none, iV e] ∧ e ≠ 0 ∧ (400 < cs.length ∨ (∃ i, ∃ hi : i < cs.length, E6 cs[i] false) ∨ ¬ (cs.map (·.nm)).Nodup))) ∧ O' = [] := by
 refine (E2 h hlit xu).mono ?_
 rintro r H' O' - ⟨⟨p, e, hp, hv⟩ | ⟨e, h1, h2, h3⟩, ho⟩
 ·refine ⟨.inl ⟨p, e, hp, fun c hc => ?_⟩, ho⟩
  obtain ⟨j, hj, rfl⟩ := List.mem_iff_getElem.1 hc
  exact (hv j hj hj).1 rfl
 ·refine ⟨.inr ⟨e, h1, h2, ?_⟩, ho⟩
  rcases h3 with h3 | ⟨i, hi, h3⟩ | h3
  ·exact .inl h3
  ·exact .inr (.inl ⟨i, hi, h3 hi⟩)
  ·exact .inr (.inr h3)
def Et (cs : List CdF) (r : Value) (H' : Heap) (O' : Go.Sx.Own) : Prop := ((∃ p, r = .tuple #[p, .bool true] ∧ PoolK H' p cs ∧ cs.length ≤ 20) ∨ (∃ p, r = .tuple #[p, .bool false] ∧ p.oneCell' = true)) ∧ O' = []
theorem ru {cs : List CdF} {H : Heap} : Et cs (.tuple #[.pointer none, .bool false]) H [] := ⟨.inr ⟨_, rfl, rfl⟩, rfl⟩
theorem DT {H : Heap} {cv : Value} {cs : List CdF} (h : CardsF H cv cs) : Triple PP gA [cv] H [] (Et cs) := by
 refine j0 (vs := [cv]) (by kernel_rfl) ⟨h.one, trivial⟩ ?_
 simp only [gv]
 have hB := h.lenB
 refine aa _ h.len ?_
 refine aa _ (cH _ _) (ai (fun _ => af ru) (fun hd => ?_))
 have h20 : cs.length ≤ 20 := by have := of_decide_eq_false hd; omega
 refine aa _ h.len ?_
 refine aL cs.length (fun i H' O' => O' = [] ∧ Heap.le H H' ∧ ∀ (j : Nat) (hj : j < cs.length), j < i → lightC cs[j]) ⟨rfl, Heap.le_refl _, fun j _ hj => by omega⟩ ?_
 rintro i H1 _ hi - ⟨rfl, l1, hL⟩
 refine aa _ (aF _ _) (ai (fun hb => ?_) (fun hb => ?_))
 ·have hlt : i < cs.length := by simpa using hb
  obtain ⟨a, row, k1, k2, _, k4, k5, k6⟩ := lM [] (h.le l1) hlt
  obtain ⟨es, ts, rfl, he, ht⟩ := k6
  obtain ⟨e1, e2⟩ := fe he
  refine aa _ k1 (ao k2 k4 k5 (aj fun r0 => ?_))
  refine ae (ae ?_)
  refine aa _ (ia _) ?_
  refine aa _ (cH _ _) ?_
  refine ae (ab (ab ?_))
  refine aa _ e1 ?_
  refine ab ?_
  refine aa _ (cH _ _) ?_
  refine ab ?_
  refine aa _ (aw _ _) ?_
  refine ae (ab (ab ?_))
  refine aa _ ht.len.1 ?_
  refine ab ?_
  refine aa _ (cH _ _) ?_
  refine ab ?_
  refine aa _ (aw _ _) (ai (fun _ => af ru) (fun hd => ?_))
  simp only [Bool.or_eq_false_iff, decide_eq_false_iff_not] at hd
  refine ae ?_
  refine aa _ ht.len.1 ?_
  have hB2 := ht.len.2.2
  refine aL cs[i].trs.length (fun k H' O' => O' = [] ∧ Heap.le H1 H' ∧ ∀ (j : Nat) (hj : j < cs[i].trs.length), j < k → (cs[i].trs[j]).2.length ≤ 10) ⟨rfl, Heap.le_refl _, fun j _ hj => by omega⟩ ?_
  rintro k H2 _ hk - ⟨rfl, l2, hT⟩
  refine aa _ (aF _ _) (ai (fun hb => ?_) (fun hb => ?_))
  ·have hlt2 : k < cs[i].trs.length := by simpa using hb
   obtain ⟨a2, s, q1, q2, _, q4⟩ := vj [] (ht.le l2) hlt2
   obtain ⟨f1, f2⟩ := fe q4
   refine aa _ q1 (ao q2 rfl ⟨rfl, q4.one, trivial⟩ (aj fun r1 => ?_))
   refine ae (ae ?_)
   refine aa _ f1 ?_
   refine aa _ (cH _ _) (ai (fun _ => af ru) (fun hd3 => ?_))
   refine aa _ (aD (by omega)) (az (by simp [Eqs, E]) hlt2 ⟨rfl, l2, fun j hj hjk => ?_⟩)
   rcases Nat.lt_succ_iff_lt_or_eq.1 hjk with hjk | rfl
   ·exact hT j hj hjk
   ·have := of_decide_eq_false hd3; omega
  ·have hge : cs[i].trs.length ≤ k := by simpa using hb
   refine aa _ (aD (by omega)) (az (by simp [Eqs, E]) hlt ⟨rfl, Heap.le_trans l1 l2, fun j hj hji => ?_⟩)
   rcases Nat.lt_succ_iff_lt_or_eq.1 hji with hji | rfl
   ·exact hL j hj hji
   ·refine ⟨by omega, by omega, by omega, fun t htm => ?_⟩
    obtain ⟨m, hm, rfl⟩ := List.mem_iff_getElem.1 htm
    exact hT m hm (by omega)
 ·have hge : cs.length ≤ i := by simpa using hb
  have hlit : ∀ c ∈ cs, zW c := fun c hc => by
   obtain ⟨j, hj, rfl⟩ := List.mem_iff_getElem.1 hc
   exact (hL j hj (by omega)).lit
  refine cX (Bo (h.le l1)) (by rintro _ ⟨n, rfl⟩; rfl) ?_
  rintro _ H2 ⟨n, rfl⟩ l2
  refine aa _ (dl _ _) (ai (fun _ => af ru) (fun _ => ?_))
  refine bn (A5 (h.le (Heap.le_trans l1 l2)) hlit) ?_
  rintro _ H3 _ ⟨⟨p, rfl, hp⟩ | ⟨e, rfl, he, _⟩, rfl⟩ l3
  ·refine ⟨[p, iV 0], rfl, ⟨hp.1.one, rfl, trivial⟩, ?_⟩
   exact aa _ (an _ _) (af ⟨.inl ⟨p, rfl, hp, h20⟩, rfl⟩)
  ·refine ⟨[.pointer none, iV e], rfl, ⟨rfl, rfl, trivial⟩, ?_⟩
   refine aa _ (an _ _) (af ⟨.inr ⟨.pointer none, ?_, rfl⟩, rfl⟩)
   have : (e == 0) = false := by simpa using he
   show Value.tuple #[.pointer none, .bool (e == 0)] = _
   rw [this]
theorem uq {H : Heap} {r size : Nat} {rows : List (List Value)} {T : TypeId} {n : Nat} (hn : n = rows.length) (h : H r = some (.cells rows.flatten.toArray T (0, 0))) (hl : ∀ row ∈ rows, row.length = size) (ho : ∀ row ∈ rows, Ones row) (hb : rows.length < 2 ^ 63) :
  Sl H size (.slice (some ⟨r, 0, none⟩) n n) rows := by
 subst hn
 refine ⟨_, _, rfl, Nat.le_refl _, hb, fun _ => ⟨_, rfl, fun i row hr => ?_⟩⟩
 have hlt : i < rows.length := (List.getElem?_eq_some_iff.1 hr).1
 have hmul : (i + 1) * size ≤ rows.length * size := Nat.mul_le_mul_right _ hlt
 rw [Nat.add_mul, Nat.one_mul] at hmul
 have hfl := aI hl
 refine ⟨?_, hl row (List.mem_of_getElem? hr), ho row (List.mem_of_getElem? hr)⟩
 rw [bm, Nat.zero_add, fS h (by omega), cw hl hr]
def gW : CdF := ⟨[87, 101, 108, 108], 1, 0, 0, 0, 0, 0, 1, 0, 0, 0, [], [], 1⟩
def gJ : CdF := ⟨[74, 111, 108, 116], 4, 1, 0, 0, 0, 0, 0, 0, 0, 0, [⟨1, 5, 3, 0, 0⟩], [], 1⟩
def gF : CdF := ⟨[70, 105, 114, 101], 1, 0, 0, 0, 0, 0, 0, 0, 0, 0, [], [], 1⟩
def aK : List CdF := [gW, gJ, gF]
theorem ui (H : Heap) : TrsF H (.slice none 0 0) [] := ⟨[], Sl.nil _ _, rfl, fun i r t a => by simp at a⟩
theorem Cf (H : Heap) : Triple PP fE [] H [] fun x H' O' => CardsF H' x aK ∧ O' = [] := by
 refine jN (vs := []) (by kernel_rfl) trivial ?_
 simp only [ft]
 refine aj fun r0 => aj fun r1 => ?_
 refine xP fun H' l hf => ⟨?_, rfl⟩
 have h1 := hf _ List.mem_cons_self
 have h0 := hf _ (List.mem_cons_of_mem _ List.mem_cons_self)
 have he : Sl H' 5 (.slice (some ⟨r0, 0, none⟩) 1 1) (bS gJ.effs) := Sl.block1 (row := (⟨1, 5, 3, 0, 0⟩ : Eff).row) h0 rfl (ij _)
 have hn : (Value.slice none 0 0).oneCell' = true := rfl
 refine ⟨[my gW (.slice none 0 0) (.slice none 0 0), my gJ (.slice (some ⟨r0, 0, none⟩) 1 1) (.slice none 0 0), my gF (.slice none 0 0) (.slice none 0 0)], uq rfl h1 ?_ ?_ (by simp), rfl, ?_⟩
 ·intro row hr
  simp only [List.mem_cons, List.not_mem_nil, or_false] at hr
  rcases hr with rfl | rfl | rfl <;> rfl
 ·intro row hr
  simp only [List.mem_cons, List.not_mem_nil, or_false] at hr
  rcases hr with rfl | rfl | rfl
  ·exact kp rfl rfl
  ·exact kp rfl rfl
  ·exact kp rfl rfl
 ·intro i r c a b
  match i with
  | 0 => simp [aK] at a b; subst a; subst b; exact ⟨_, _, rfl, Sl.nil _ _, ui _⟩
  | 1 => simp [aK] at a b; subst a; subst b; exact ⟨_, _, rfl, he, ui _⟩
  | 2 => simp [aK] at a b; subst a; subst b; exact ⟨_, _, rfl, Sl.nil _ _, ui _⟩
  | n + 3 => simp at a
theorem yH : ∀ c ∈ aK, zW c := by
 intro c hc
 simp only [aK, List.mem_cons, List.not_mem_nil, or_false] at hc
 rcases hc with rfl | rfl | rfl <;> exact ⟨by decide, by decide, fun t ht => by cases ht⟩
theorem wP : ∀ c ∈ aK, yG c := by
 intro c hc
 simp only [aK, List.mem_cons, List.not_mem_nil, or_false] at hc
 rcases hc with rfl | rfl | rfl
 ·exact ⟨by decide, by decide, by decide, by decide, by decide, .inl ⟨rfl, by decide, rfl, rfl, rfl, rfl, rfl, rfl⟩⟩
 ·exact ⟨by decide, by decide, by decide, by decide, by decide, .inr ⟨.inr rfl, rfl, by decide, by decide⟩⟩
 ·exact ⟨by decide, by decide, by decide, by decide, by decide, .inl ⟨rfl, by decide, rfl, rfl, rfl, rfl, rfl, rfl⟩⟩
theorem DW {H : Heap} {cv : Value} (h : CardsF H cv aK) : Triple PP iO [cv] H [] fun r H' O' => (∃ p, r = .tuple #[p, iV 0] ∧ PoolK H' p aK) ∧ O' = [] := by
 refine (A5 h yH).mono ?_
 rintro r H' O' - ⟨h | ⟨e, _, _, h⟩, ho⟩
 ·exact ⟨h, ho⟩
 ·exfalso
  rcases h with h | ⟨i, hi, h⟩ | h
  ·simp [aK] at h
  ·have := h.2 (wP _ (List.getElem_mem hi))
   cases this
  ·exact h (by decide)
end Go.Proofs.YtamgiojcbdbokaaGreatDoor
