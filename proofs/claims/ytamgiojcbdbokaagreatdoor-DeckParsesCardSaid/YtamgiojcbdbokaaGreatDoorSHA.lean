/- The library's contracts at this program, laid: printed by the kit's tool. -/
import Derived.Shelf.Strings.Builder1
import Derived.Shelf.Strings.Trim
import Derived.Shelf.Small.Utf8
import Derived.Shelf.Small.Bits
import Derived.Shelf.Small.Strs
import Derived.Shelf.Small.Wraps
import Derived.Shelf.Strings.BuilderF
import Derived.Shelf.Strings.BuilderK
import Derived.Shelf.Strconv.Atoi
import Derived.Shelf.Strconv.Itoa0
import Derived.Shelf.Strconv.Itoa1
import Derived.Shelf.LaysM
import Derived.Shelf.Strconv.Itoa2
import Derived.Shelf.Strconv.Itoa3
import Derived.Shelf.Strconv.AtoiErrFast
import Derived.Shelf.Strconv.ParseIntEmpty
import Derived.Shelf.Strconv.AtoiFail
import Derived.Shelf.Strconv.Clone
import Derived.Shelf.Strconv.SyntaxError
import Derived.Shelf.LaysC
import Derived.Shelf.Strconv.ToError
import Derived.Shelf.Strconv.Lower
import Derived.Shelf.Strconv.ParseUint10
import Derived.Shelf.Strconv.ParseUint10Empty
import Derived.Shelf.Strconv.ParseUint10Any
import Derived.Shelf.Strconv.ParseInt10
import Derived.Shelf.Strconv.AtoiLong
import Derived.Shelf.Strconv.AtoiInnerAll
import Derived.Shelf.Strconv.RangeError
import Derived.Shelf.Strconv.ToErrorRange
import Derived.Shelf.Strconv.AtoiAll
import Derived.Shelf.Strconv.ErrVarAll
import Derived.Shelf.Strings.Search1
import Derived.Shelf.Strings.Search2
import Derived.Shelf.Strings.Cut
import Derived.Shelf.Strings.Shaped
import Derived.Shelf.Strings.Prefix
import Derived.Shelf.Strings.Runes
import Derived.Shelf.Strings.AsciiSet
import Derived.Shelf.Bits.Mul64
import Derived.Shelf.Unicode.DecodeSlow
import Derived.Ground.SlgmProg
import Derived.Shelf.SortM.Plain
import Derived.Shelf.SortM.SortNone
import Derived.Test.YtamgiojcbdbokaaGreatDoorProg
import Derived.Test.YtamgiojcbdbokaaGreatDoorD4
import Derived.Test.YtamgiojcbdbokaaGreatDoorBTW
import Derived.WalkKit
namespace Go.Proofs
open Go.Shelf
def Tryz.lays160_ren : Go.Shelf.Ren := ⟨fun | 160 => 96 | 232 => 131 | 231 => 130 | 227 => 132 | 234 => 134 | 233 => 133 | 236 => 136 | 235 => 135 | 228 => 166 | 271 => 169 | 151 => 168 | 197 => 167 | 120 => 185 | 152 => 184 | 260 => 183 | 137 => 81 | 119 => 190 | 224 => 175 | 225 => 174 | 217 => 107 | 266 => 149 | n => n, fun | 9 => 9 | 4 => 4 | 3 => 3 | 5 => 5 | 117 => 190 | 116 => 189 | 0 => 0 | 124 => 193 | 21 => 21 | 105 => 224 | 46 => 127 | 119 => 255 | 139 => 258 | 138 => 257 | n => n, fun | 3 => 6 | 4 => 7 | n => n⟩
theorem Tryz.lays160 : Go.Proofs.Lays.n160 Tryz.prog Tryz.lays160_ren := {
 mixed := by kernel_rfl
 f119 := Tryz.func190.trans (congrArg some (by kernel_rfl))
 f120 := Tryz.func185.trans (congrArg some (by kernel_rfl))
 f137 := Tryz.func81.trans (congrArg some (by kernel_rfl))
 f151 := Tryz.func168.trans (congrArg some (by kernel_rfl))
 f152 := Tryz.func184.trans (congrArg some (by kernel_rfl))
 f160 := Tryz.func96.trans (congrArg some (by kernel_rfl))
 f197 := Tryz.func167.trans (congrArg some (by kernel_rfl))
 f217 := Tryz.func107.trans (congrArg some (by kernel_rfl))
 f224 := Tryz.func175.trans (congrArg some (by kernel_rfl))
 f225 := Tryz.func174.trans (congrArg some (by kernel_rfl))
 f227 := Tryz.func132.trans (congrArg some (by kernel_rfl))
 f228 := Tryz.func166.trans (congrArg some (by kernel_rfl))
 f231 := Tryz.func130.trans (congrArg some (by kernel_rfl))
 f232 := Tryz.func131.trans (congrArg some (by kernel_rfl))
 f233 := Tryz.func133.trans (congrArg some (by kernel_rfl))
 f234 := Tryz.func134.trans (congrArg some (by kernel_rfl))
 f235 := Tryz.func135.trans (congrArg some (by kernel_rfl))
 f236 := Tryz.func136.trans (congrArg some (by kernel_rfl))
 f260 := Tryz.func183.trans (congrArg some (by kernel_rfl))
 f266 := Tryz.func149.trans (congrArg some (by kernel_rfl))
 f271 := Tryz.func169.trans (congrArg some (by kernel_rfl))
 t0 := Tryz.underlying0
 a0 := Tryz.isAgg0
 z0 := Tryz.sizeOf0
 v0 := Tryz.zeroValue0
 t3 := Tryz.underlying3
 a3 := Tryz.isAgg3
 z3 := Tryz.sizeOf3
 v3 := Tryz.zeroValue3
 t4 := Tryz.underlying4
 a4 := Tryz.isAgg4
 z4 := Tryz.sizeOf4
 v4 := Tryz.zeroValue4
 t5 := Tryz.underlying5
 a5 := Tryz.isAgg5
 z5 := Tryz.sizeOf5
 v5 := Tryz.zeroValue5
 t9 := Tryz.underlying9
 a9 := Tryz.isAgg9
 z9 := Tryz.sizeOf9
 v9 := Tryz.zeroValue9
 t21 := Tryz.underlying21
 a21 := Tryz.isAgg21
 z21 := Tryz.sizeOf21
 v21 := Tryz.zeroValue21
 t46 := Tryz.underlying127
 a46 := Tryz.isAgg127
 z46 := Tryz.sizeOf127
 v46 := Tryz.zeroValue127
 t105 := Tryz.underlying224
 a105 := Tryz.isAgg224
 z105 := Tryz.sizeOf224
 v105 := Tryz.zeroValue224
 t116 := Tryz.underlying189
 a116 := Tryz.isAgg189
 z116 := Tryz.sizeOf189
 t117 := Tryz.underlying190
 a117 := Tryz.isAgg190
 z117 := Tryz.sizeOf190
 v117 := Tryz.zeroValue190
 t119 := Tryz.underlying255
 a119 := Tryz.isAgg255
 z119 := Tryz.sizeOf255
 t124 := Tryz.underlying193
 a124 := Tryz.isAgg193
 z124 := Tryz.sizeOf193
 v124 := Tryz.zeroValue193
 t138 := Tryz.underlying257
 a138 := Tryz.isAgg257
 z138 := Tryz.sizeOf257
 v138 := Tryz.zeroValue257
 t139 := Tryz.underlying258
 a139 := Tryz.isAgg258
 z139 := Tryz.sizeOf258
 v139 := Tryz.zeroValue258
 g3 := by kernel_rfl
 g4 := by kernel_rfl }
open Go.RowKit in
theorem Tryz.strings_Trim_one (s : ByteArray) (c : UInt8) (hc : c.toNat < 128) (w : World) (hs : s.size ≤ 9223372036854775807) :
  Calls Tryz.prog 96 #[.string s, .string ⟨#[c]⟩] w fun e w' => e = .returned (.string ⟨(Lib.trimB s.data.toList c).toArray⟩) ∧ (w' = w ∨ w' = w.drew) := Any.strings_Trim_one Tryz.lays160 s c hc w hs
def Tryz.lays104_ren : Go.Shelf.Ren := ⟨fun | 104 => 82 | 211 => 108 | 207 => 150 | n => n, fun | 9 => 9 | 4 => 4 | 24 => 145 | 3 => 3 | n => n, fun | n => n⟩
theorem Tryz.lays104 : Go.Proofs.Lays.n104 Tryz.prog Tryz.lays104_ren := {
 mixed := by kernel_rfl
 f104 := Tryz.func82.trans (congrArg some (by kernel_rfl))
 f207 := Tryz.func150.trans (congrArg some (by kernel_rfl))
 f211 := Tryz.func108.trans (congrArg some (by kernel_rfl))
 t3 := Tryz.underlying3
 a3 := Tryz.isAgg3
 z3 := Tryz.sizeOf3
 v3 := Tryz.zeroValue3
 t4 := Tryz.underlying4
 a4 := Tryz.isAgg4
 z4 := Tryz.sizeOf4
 v4 := Tryz.zeroValue4
 t9 := Tryz.underlying9
 a9 := Tryz.isAgg9
 z9 := Tryz.sizeOf9
 v9 := Tryz.zeroValue9
 t24 := Tryz.underlying145
 a24 := Tryz.isAgg145
 z24 := Tryz.sizeOf145
 v24 := Tryz.zeroValue145 }
open Go.RowKit in
theorem Tryz.strings_CutSuffix (s p : ByteArray) (w : World) (hs : s.size ≤ 9223372036854775807) :
  Calls Tryz.prog 82 #[.string s, .string p] w fun e w' => e = .returned (.tuple #[.string ⟨(Lib.trimSuffix s.data.toList p.data.toList).toArray⟩, .bool (Lib.hasSuffix s.data.toList p.data.toList)]) ∧ w' = w := Any.strings_CutSuffix Tryz.lays104 s p w hs
def Tryz.lays137_ren : Go.Shelf.Ren := ⟨fun | 137 => 81 | 217 => 107 | 266 => 149 | n => n, fun | 9 => 9 | 5 => 5 | 3 => 3 | n => n, fun | n => n⟩
theorem Tryz.lays137 : Go.Proofs.Lays.n137 Tryz.prog Tryz.lays137_ren := {
 mixed := by kernel_rfl
 f137 := Tryz.func81.trans (congrArg some (by kernel_rfl))
 f217 := Tryz.func107.trans (congrArg some (by kernel_rfl))
 f266 := Tryz.func149.trans (congrArg some (by kernel_rfl))
 t3 := Tryz.underlying3
 a3 := Tryz.isAgg3
 z3 := Tryz.sizeOf3
 v3 := Tryz.zeroValue3
 t5 := Tryz.underlying5
 a5 := Tryz.isAgg5
 z5 := Tryz.sizeOf5
 v5 := Tryz.zeroValue5
 t9 := Tryz.underlying9
 a9 := Tryz.isAgg9
 z9 := Tryz.sizeOf9
 v9 := Tryz.zeroValue9 }
open Go.RowKit in
theorem Tryz.strings_IndexByte (s : ByteArray) (c : Int) (w : World) :
  Calls Tryz.prog 81 #[.string s, .int .u8 c] w fun e w' => e = .returned (.int .i64 (Lib.indexByte s.data.toList c.toNat.toUInt8)) ∧ w' = w := Any.strings_IndexByte Tryz.lays137 s c w
def Tryz.lays145_ren : Go.Shelf.Ren := ⟨fun | 145 => 83 | 220 => 109 | 219 => 151 | 217 => 107 | 225 => 174 | 224 => 175 | 267 => 176 | 266 => 149 | 314 => 187 | n => n, fun | 9 => 9 | 4 => 4 | 59 => 147 | 3 => 3 | 5 => 5 | 46 => 127 | 146 => 154 | 51 => 153 | n => n, fun | 1 => 1 | n => n⟩
theorem Tryz.lays145 : Go.Proofs.Lays.n145 Tryz.prog Tryz.lays145_ren := {
 mixed := by kernel_rfl
 f145 := Tryz.func83.trans (congrArg some (by kernel_rfl))
 f217 := Tryz.func107.trans (congrArg some (by kernel_rfl))
 f219 := Tryz.func151.trans (congrArg some (by kernel_rfl))
 f220 := Tryz.func109.trans (congrArg some (by kernel_rfl))
 f224 := Tryz.func175.trans (congrArg some (by kernel_rfl))
 f225 := Tryz.func174.trans (congrArg some (by kernel_rfl))
 f266 := Tryz.func149.trans (congrArg some (by kernel_rfl))
 f267 := Tryz.func176.trans (congrArg some (by kernel_rfl))
 f314 := Tryz.func187.trans (congrArg some (by kernel_rfl))
 t3 := Tryz.underlying3
 a3 := Tryz.isAgg3
 z3 := Tryz.sizeOf3
 v3 := Tryz.zeroValue3
 t4 := Tryz.underlying4
 a4 := Tryz.isAgg4
 z4 := Tryz.sizeOf4
 v4 := Tryz.zeroValue4
 t5 := Tryz.underlying5
 a5 := Tryz.isAgg5
 z5 := Tryz.sizeOf5
 v5 := Tryz.zeroValue5
 t9 := Tryz.underlying9
 a9 := Tryz.isAgg9
 z9 := Tryz.sizeOf9
 v9 := Tryz.zeroValue9
 t46 := Tryz.underlying127
 a46 := Tryz.isAgg127
 z46 := Tryz.sizeOf127
 v46 := Tryz.zeroValue127
 t51 := Tryz.underlying153
 a51 := Tryz.isAgg153
 z51 := Tryz.sizeOf153
 v51 := Tryz.zeroValue153
 t59 := Tryz.underlying147
 a59 := Tryz.isAgg147
 z59 := Tryz.sizeOf147
 v59 := Tryz.zeroValue147
 t146 := Tryz.underlying154
 a146 := Tryz.isAgg154
 z146 := Tryz.sizeOf154
 v146 := Tryz.zeroValue154
 g1 := by kernel_rfl }
open Go.RowKit Go.Lib in
theorem Tryz.strings_Cut (s sep : ByteArray) (m : Int) (w : World) (hs : s.size < 4294967281) (hm : w.cell? ⟨1, 0, none⟩ = some (.int .i64 m)) :
  Calls Tryz.prog 83 #[.string s, .string sep] w fun e w' => e = .returned (.tuple #[.string ⟨(Lib.cut s.data.toList sep.data.toList).1.toArray⟩, .string ⟨(Lib.cut s.data.toList sep.data.toList).2.1.toArray⟩, .bool (Lib.cut s.data.toList sep.data.toList).2.2]) ∧ ∃ n, w' = w.drewN n := Any.strings_Cut Tryz.lays145 s sep m w hs hm
def Tryz.laysM171_ren : Go.Shelf.Ren := ⟨fun | 171 => 40 | 243 => 60 | 246 => 93 | 283 => 122 | 284 => 123 | 285 => 124 | 286 => 125 | 129 => 121 | 317 => 162 | 318 => 163 | 319 => 164 | 320 => 165 | 337 => 181 | 338 => 182 | n => n, fun | 3 => 3 | 9 => 9 | 2 => 2 | 4 => 4 | 171 => 180 | 0 => 0 | 53 => 156 | 37 => 92 | 5 => 5 | 173 => 182 | 212 => 220 | 51 => 153 | 20 => 20 | 213 => 221 | 46 => 127 | 232 => 253 | 233 => 254 | n => n, fun | 17 => 0 | 18 => 4 | 19 => 5 | n => n⟩
theorem Tryz.laysM171 : Go.Proofs.LaysM.n171 Tryz.prog Tryz.laysM171_ren := {
 mixed := by kernel_rfl
 f129 := Tryz.func121.trans (congrArg some (by kernel_rfl))
 f171 := Tryz.func40.trans (congrArg some (by kernel_rfl))
 f243 := Tryz.func60.trans (congrArg some (by kernel_rfl))
 f246 := Tryz.func93.trans (congrArg some (by kernel_rfl))
 f283 := Tryz.func122.trans (congrArg some (by kernel_rfl))
 f284 := Tryz.func123.trans (congrArg some (by kernel_rfl))
 f285 := Tryz.func124.trans (congrArg some (by kernel_rfl))
 f286 := Tryz.func125.trans (congrArg some (by kernel_rfl))
 f317 := Tryz.func162.trans (congrArg some (by kernel_rfl))
 f318 := Tryz.func163.trans (congrArg some (by kernel_rfl))
 f319 := Tryz.func164.trans (congrArg some (by kernel_rfl))
 f320 := Tryz.func165.trans (congrArg some (by kernel_rfl))
 f337 := Tryz.func181.trans (congrArg some (by kernel_rfl))
 f338 := Tryz.func182.trans (congrArg some (by kernel_rfl))
 t0 := Tryz.underlying0
 a0 := Tryz.isAgg0
 z0 := Tryz.sizeOf0
 v0 := Tryz.zeroValue0
 t2 := Tryz.underlying2
 a2 := Tryz.isAgg2
 z2 := Tryz.sizeOf2
 v2 := Tryz.zeroValue2
 t3 := Tryz.underlying3
 a3 := Tryz.isAgg3
 z3 := Tryz.sizeOf3
 v3 := Tryz.zeroValue3
 t4 := Tryz.underlying4
 a4 := Tryz.isAgg4
 z4 := Tryz.sizeOf4
 v4 := Tryz.zeroValue4
 t5 := Tryz.underlying5
 a5 := Tryz.isAgg5
 z5 := Tryz.sizeOf5
 v5 := Tryz.zeroValue5
 t9 := Tryz.underlying9
 a9 := Tryz.isAgg9
 z9 := Tryz.sizeOf9
 v9 := Tryz.zeroValue9
 t20 := Tryz.underlying20
 a20 := Tryz.isAgg20
 z20 := Tryz.sizeOf20
 v20 := Tryz.zeroValue20
 t37 := Tryz.underlying92
 a37 := Tryz.isAgg92
 z37 := Tryz.sizeOf92
 v37 := Tryz.zeroValue92
 t46 := Tryz.underlying127
 a46 := Tryz.isAgg127
 z46 := Tryz.sizeOf127
 v46 := Tryz.zeroValue127
 t51 := Tryz.underlying153
 a51 := Tryz.isAgg153
 z51 := Tryz.sizeOf153
 v51 := Tryz.zeroValue153
 t53 := Tryz.underlying156
 a53 := Tryz.isAgg156
 z53 := Tryz.sizeOf156
 v53 := Tryz.zeroValue156
 t171 := Tryz.underlying180
 a171 := Tryz.isAgg180
 z171 := Tryz.sizeOf180
 v171 := Tryz.zeroValue180
 t173 := Tryz.underlying182
 a173 := Tryz.isAgg182
 z173 := Tryz.sizeOf182
 v173 := Tryz.zeroValue182
 t212 := Tryz.underlying220
 a212 := Tryz.isAgg220
 z212 := Tryz.sizeOf220
 v212 := Tryz.zeroValue220
 t213 := Tryz.underlying221
 a213 := Tryz.isAgg221
 z213 := Tryz.sizeOf221
 t232 := Tryz.underlying253
 a232 := Tryz.isAgg253
 z232 := Tryz.sizeOf253
 v232 := Tryz.zeroValue253
 t233 := Tryz.underlying254
 a233 := Tryz.isAgg254
 z233 := Tryz.sizeOf254
 v233 := Tryz.zeroValue254
 g17 := by kernel_rfl
 g18 := by kernel_rfl
 g19 := by kernel_rfl
 i0 := by kernel_rfl
 i2 := by kernel_rfl
 i3 := by kernel_rfl
 i4 := by kernel_rfl
 i5 := by kernel_rfl
 i9 := by kernel_rfl
 i20 := by kernel_rfl
 i37 := by kernel_rfl
 i46 := by kernel_rfl
 i51 := by kernel_rfl
 i53 := by kernel_rfl
 i171 := by kernel_rfl
 i173 := by kernel_rfl
 i212 := by kernel_rfl
 i232 := by kernel_rfl
 i233 := by kernel_rfl
 m17 := by kernel_rfl
 m18 := by kernel_rfl
 m19 := by kernel_rfl }
open Go.RowKit Go.Sort Go.Lib in
theorem Tryz.strconv_Itoa (n : Int) (h0 : -9223372036854775808 ≤ n) (h1 : n ≤ 9223372036854775807) (w : World) (htab : Lib.TabIs Tryz.prog w "internal/strconv.uint64pow10" .u64 Lib.pow10Tab) :
  Calls Tryz.prog 40 #[.int .i64 n] w fun e w' => e = .returned (.string ⟨(Lib.itoa n).toArray⟩) ∧ ∃ k os, w' = grow (w.drewN k) os := Any.strconv_Itoa Tryz.laysM171 n h0 h1 w htab
def Tryz.lays171_ren : Go.Shelf.Ren := ⟨fun | 171 => 40 | 243 => 60 | 246 => 93 | 283 => 122 | 284 => 123 | 285 => 124 | 286 => 125 | 129 => 121 | 317 => 162 | 318 => 163 | 319 => 164 | 320 => 165 | 337 => 181 | 338 => 182 | n => n, fun | 3 => 3 | 9 => 9 | 2 => 2 | 4 => 4 | 171 => 180 | 0 => 0 | 53 => 156 | 37 => 92 | 5 => 5 | 173 => 182 | 212 => 220 | 51 => 153 | 20 => 20 | 213 => 221 | 46 => 127 | 232 => 253 | 233 => 254 | n => n, fun | 17 => 0 | 18 => 4 | 19 => 5 | n => n⟩
theorem Tryz.lays171 : Go.Proofs.Lays.n171 Tryz.prog Tryz.lays171_ren := {
 mixed := by kernel_rfl
 f129 := Tryz.func121.trans (congrArg some (by kernel_rfl))
 f171 := Tryz.func40.trans (congrArg some (by kernel_rfl))
 f243 := Tryz.func60.trans (congrArg some (by kernel_rfl))
 f246 := Tryz.func93.trans (congrArg some (by kernel_rfl))
 f283 := Tryz.func122.trans (congrArg some (by kernel_rfl))
 f284 := Tryz.func123.trans (congrArg some (by kernel_rfl))
 f285 := Tryz.func124.trans (congrArg some (by kernel_rfl))
 f286 := Tryz.func125.trans (congrArg some (by kernel_rfl))
 f317 := Tryz.func162.trans (congrArg some (by kernel_rfl))
 f318 := Tryz.func163.trans (congrArg some (by kernel_rfl))
 f319 := Tryz.func164.trans (congrArg some (by kernel_rfl))
 f320 := Tryz.func165.trans (congrArg some (by kernel_rfl))
 f337 := Tryz.func181.trans (congrArg some (by kernel_rfl))
 f338 := Tryz.func182.trans (congrArg some (by kernel_rfl))
 t0 := Tryz.underlying0
 a0 := Tryz.isAgg0
 z0 := Tryz.sizeOf0
 v0 := Tryz.zeroValue0
 t2 := Tryz.underlying2
 a2 := Tryz.isAgg2
 z2 := Tryz.sizeOf2
 v2 := Tryz.zeroValue2
 t3 := Tryz.underlying3
 a3 := Tryz.isAgg3
 z3 := Tryz.sizeOf3
 v3 := Tryz.zeroValue3
 t4 := Tryz.underlying4
 a4 := Tryz.isAgg4
 z4 := Tryz.sizeOf4
 v4 := Tryz.zeroValue4
 t5 := Tryz.underlying5
 a5 := Tryz.isAgg5
 z5 := Tryz.sizeOf5
 v5 := Tryz.zeroValue5
 t9 := Tryz.underlying9
 a9 := Tryz.isAgg9
 z9 := Tryz.sizeOf9
 v9 := Tryz.zeroValue9
 t20 := Tryz.underlying20
 a20 := Tryz.isAgg20
 z20 := Tryz.sizeOf20
 v20 := Tryz.zeroValue20
 t37 := Tryz.underlying92
 a37 := Tryz.isAgg92
 z37 := Tryz.sizeOf92
 v37 := Tryz.zeroValue92
 t46 := Tryz.underlying127
 a46 := Tryz.isAgg127
 z46 := Tryz.sizeOf127
 v46 := Tryz.zeroValue127
 t51 := Tryz.underlying153
 a51 := Tryz.isAgg153
 z51 := Tryz.sizeOf153
 v51 := Tryz.zeroValue153
 t53 := Tryz.underlying156
 a53 := Tryz.isAgg156
 z53 := Tryz.sizeOf156
 v53 := Tryz.zeroValue156
 t171 := Tryz.underlying180
 a171 := Tryz.isAgg180
 z171 := Tryz.sizeOf180
 v171 := Tryz.zeroValue180
 t173 := Tryz.underlying182
 a173 := Tryz.isAgg182
 z173 := Tryz.sizeOf182
 v173 := Tryz.zeroValue182
 t212 := Tryz.underlying220
 a212 := Tryz.isAgg220
 z212 := Tryz.sizeOf220
 v212 := Tryz.zeroValue220
 t213 := Tryz.underlying221
 a213 := Tryz.isAgg221
 z213 := Tryz.sizeOf221
 t232 := Tryz.underlying253
 a232 := Tryz.isAgg253
 z232 := Tryz.sizeOf253
 v232 := Tryz.zeroValue253
 t233 := Tryz.underlying254
 a233 := Tryz.isAgg254
 z233 := Tryz.sizeOf254
 v233 := Tryz.zeroValue254
 g17 := by kernel_rfl
 g18 := by kernel_rfl
 g19 := by kernel_rfl }
open Go.RowKit Go.Sort Go.Lib in
theorem Tryz.strconv_Itoa_small (i : Nat) (hi : i < 100) (w : World) :
  Calls Tryz.prog 40 #[.int .i64 i] w fun e w' => e = .returned (.string ⟨(Lib.decDigits i).toArray⟩) ∧ w' = w := Any.strconv_Itoa_small Tryz.lays171 i hi w
def Tryz.laysC172_ren : Go.Shelf.Ren := ⟨fun | 172 => 84 | 244 => 110 | 245 => 111 | 247 => 152 | 279 => 153 | 280 => 154 | 281 => 155 | 282 => 156 | 287 => 177 | 316 => 178 | 171 => 40 | 205 => 179 | 321 => 188 | 322 => 189 | 243 => 60 | 246 => 93 | 283 => 122 | 284 => 123 | 285 => 124 | 286 => 125 | 129 => 121 | 317 => 162 | 318 => 163 | 319 => 164 | 320 => 165 | 337 => 181 | 338 => 182 | n => n, fun | 9 => 9 | 3 => 3 | 75 => 96 | 76 => 97 | 4 => 4 | 5 => 5 | 167 => 206 | 37 => 92 | 0 => 0 | 85 => 207 | 2 => 2 | 168 => 209 | 53 => 156 | 175 => 238 | 46 => 127 | 210 => 242 | 127 => 130 | 145 => 252 | 143 => 250 | 21 => 21 | 171 => 180 | 173 => 182 | 212 => 220 | 51 => 153 | 20 => 20 | 213 => 221 | 232 => 253 | 233 => 254 | 80 => 99 | n => n, fun | 15 => 2 | 16 => 3 | 17 => 0 | 18 => 4 | 19 => 5 | n => n⟩
theorem Tryz.laysC172 : Go.Proofs.LaysC.n172 Tryz.prog Tryz.laysC172_ren := {
 mixed := by kernel_rfl
 f129 := Tryz.func121.trans (congrArg some (by kernel_rfl))
 f171 := Tryz.func40.trans (congrArg some (by kernel_rfl))
 f172 := Tryz.func84.trans (congrArg some (by kernel_rfl))
 f205 := Tryz.func179.trans (congrArg some (by kernel_rfl))
 f243 := Tryz.func60.trans (congrArg some (by kernel_rfl))
 f244 := Tryz.func110.trans (congrArg some (by kernel_rfl))
 f245 := Tryz.func111.trans (congrArg some (by kernel_rfl))
 f246 := Tryz.func93.trans (congrArg some (by kernel_rfl))
 f247 := Tryz.func152.trans (congrArg some (by kernel_rfl))
 f279 := Tryz.func153.trans (congrArg some (by kernel_rfl))
 f280 := Tryz.func154.trans (congrArg some (by kernel_rfl))
 f281 := Tryz.func155.trans (congrArg some (by kernel_rfl))
 f282 := Tryz.func156.trans (congrArg some (by kernel_rfl))
 f283 := Tryz.func122.trans (congrArg some (by kernel_rfl))
 f284 := Tryz.func123.trans (congrArg some (by kernel_rfl))
 f285 := Tryz.func124.trans (congrArg some (by kernel_rfl))
 f286 := Tryz.func125.trans (congrArg some (by kernel_rfl))
 f287 := Tryz.func177.trans (congrArg some (by kernel_rfl))
 f316 := Tryz.func178.trans (congrArg some (by kernel_rfl))
 f317 := Tryz.func162.trans (congrArg some (by kernel_rfl))
 f318 := Tryz.func163.trans (congrArg some (by kernel_rfl))
 f319 := Tryz.func164.trans (congrArg some (by kernel_rfl))
 f320 := Tryz.func165.trans (congrArg some (by kernel_rfl))
 f321 := Tryz.func188.trans (congrArg some (by kernel_rfl))
 f322 := Tryz.func189.trans (congrArg some (by kernel_rfl))
 f337 := Tryz.func181.trans (congrArg some (by kernel_rfl))
 f338 := Tryz.func182.trans (congrArg some (by kernel_rfl))
 t0 := Tryz.underlying0
 a0 := Tryz.isAgg0
 z0 := Tryz.sizeOf0
 v0 := Tryz.zeroValue0
 t2 := Tryz.underlying2
 a2 := Tryz.isAgg2
 z2 := Tryz.sizeOf2
 v2 := Tryz.zeroValue2
 t3 := Tryz.underlying3
 a3 := Tryz.isAgg3
 z3 := Tryz.sizeOf3
 v3 := Tryz.zeroValue3
 t4 := Tryz.underlying4
 a4 := Tryz.isAgg4
 z4 := Tryz.sizeOf4
 v4 := Tryz.zeroValue4
 t5 := Tryz.underlying5
 a5 := Tryz.isAgg5
 z5 := Tryz.sizeOf5
 v5 := Tryz.zeroValue5
 t9 := Tryz.underlying9
 a9 := Tryz.isAgg9
 z9 := Tryz.sizeOf9
 v9 := Tryz.zeroValue9
 t20 := Tryz.underlying20
 a20 := Tryz.isAgg20
 z20 := Tryz.sizeOf20
 v20 := Tryz.zeroValue20
 t21 := Tryz.underlying21
 a21 := Tryz.isAgg21
 z21 := Tryz.sizeOf21
 v21 := Tryz.zeroValue21
 t37 := Tryz.underlying92
 a37 := Tryz.isAgg92
 z37 := Tryz.sizeOf92
 v37 := Tryz.zeroValue92
 t46 := Tryz.underlying127
 a46 := Tryz.isAgg127
 z46 := Tryz.sizeOf127
 v46 := Tryz.zeroValue127
 t51 := Tryz.underlying153
 a51 := Tryz.isAgg153
 z51 := Tryz.sizeOf153
 v51 := Tryz.zeroValue153
 t53 := Tryz.underlying156
 a53 := Tryz.isAgg156
 z53 := Tryz.sizeOf156
 v53 := Tryz.zeroValue156
 t75 := Tryz.underlying96
 a75 := Tryz.isAgg96
 z75 := Tryz.sizeOf96
 v75 := Tryz.zeroValue96
 t76 := Tryz.underlying97
 a76 := Tryz.isAgg97
 z76 := Tryz.sizeOf97
 v76 := Tryz.zeroValue97
 t85 := Tryz.underlying207
 a85 := Tryz.isAgg207
 z85 := Tryz.sizeOf207
 v85 := Tryz.zeroValue207
 t127 := Tryz.underlying130
 a127 := Tryz.isAgg130
 z127 := Tryz.sizeOf130
 v127 := Tryz.zeroValue130
 t143 := Tryz.underlying250
 a143 := Tryz.isAgg250
 z143 := Tryz.sizeOf250
 v143 := Tryz.zeroValue250
 t145 := Tryz.underlying252
 a145 := Tryz.isAgg252
 z145 := Tryz.sizeOf252
 v145 := Tryz.zeroValue252
 t167 := Tryz.underlying206
 a167 := Tryz.isAgg206
 z167 := Tryz.sizeOf206
 v167 := Tryz.zeroValue206
 t168 := Tryz.underlying209
 a168 := Tryz.isAgg209
 z168 := Tryz.sizeOf209
 v168 := Tryz.zeroValue209
 t171 := Tryz.underlying180
 a171 := Tryz.isAgg180
 z171 := Tryz.sizeOf180
 v171 := Tryz.zeroValue180
 t173 := Tryz.underlying182
 a173 := Tryz.isAgg182
 z173 := Tryz.sizeOf182
 v173 := Tryz.zeroValue182
 t175 := Tryz.underlying238
 a175 := Tryz.isAgg238
 z175 := Tryz.sizeOf238
 v175 := Tryz.zeroValue238
 t210 := Tryz.underlying242
 a210 := Tryz.isAgg242
 z210 := Tryz.sizeOf242
 v210 := Tryz.zeroValue242
 t212 := Tryz.underlying220
 a212 := Tryz.isAgg220
 z212 := Tryz.sizeOf220
 v212 := Tryz.zeroValue220
 t213 := Tryz.underlying221
 a213 := Tryz.isAgg221
 z213 := Tryz.sizeOf221
 t232 := Tryz.underlying253
 a232 := Tryz.isAgg253
 z232 := Tryz.sizeOf253
 v232 := Tryz.zeroValue253
 t233 := Tryz.underlying254
 a233 := Tryz.isAgg254
 z233 := Tryz.sizeOf254
 v233 := Tryz.zeroValue254
 g15 := by kernel_rfl
 g16 := by kernel_rfl
 g17 := by kernel_rfl
 g18 := by kernel_rfl
 g19 := by kernel_rfl
 t80 := Tryz.underlying99
 a80 := Tryz.isAgg99
 z80 := Tryz.sizeOf99
 v80 := Tryz.zeroValue99
 i0 := by kernel_rfl
 i2 := by kernel_rfl
 i3 := by kernel_rfl
 i4 := by kernel_rfl
 i5 := by kernel_rfl
 i9 := by kernel_rfl
 i20 := by kernel_rfl
 i21 := by kernel_rfl
 i37 := by kernel_rfl
 i46 := by kernel_rfl
 i51 := by kernel_rfl
 i53 := by kernel_rfl
 i75 := by kernel_rfl
 i76 := by kernel_rfl
 i80 := by kernel_rfl
 i85 := by kernel_rfl
 i127 := by kernel_rfl
 i143 := by kernel_rfl
 i145 := by kernel_rfl
 i167 := by kernel_rfl
 i168 := by kernel_rfl
 i171 := by kernel_rfl
 i173 := by kernel_rfl
 i175 := by kernel_rfl
 i210 := by kernel_rfl
 i212 := by kernel_rfl
 i232 := by kernel_rfl
 i233 := by kernel_rfl
 m15 := by kernel_rfl
 m16 := by kernel_rfl
 m17 := by kernel_rfl
 m18 := by kernel_rfl
 m19 := by kernel_rfl
 c0 := by kernel_rfl
 c2 := by kernel_rfl
 c3 := by kernel_rfl
 c4 := by kernel_rfl
 c5 := by kernel_rfl
 c9 := by kernel_rfl
 c20 := by kernel_rfl
 c21 := by kernel_rfl
 c37 := by kernel_rfl
 c46 := by kernel_rfl
 c51 := by kernel_rfl
 c53 := by kernel_rfl
 c75 := by kernel_rfl
 c76 := by kernel_rfl
 c80 := by kernel_rfl
 c85 := by kernel_rfl
 c127 := by kernel_rfl
 c143 := by kernel_rfl
 c145 := by kernel_rfl
 c167 := by kernel_rfl
 c168 := by kernel_rfl
 c171 := by kernel_rfl
 c173 := by kernel_rfl
 c175 := by kernel_rfl
 c210 := by kernel_rfl
 c212 := by kernel_rfl
 c213 := by kernel_rfl
 c232 := by kernel_rfl
 c233 := by kernel_rfl }
open Go.RowKit in
theorem Tryz.strconv_Atoi_ok (s : ByteArray) (hmax : s.size ≤ 9223372036854775806) (v : Int) (h : Lib.atoiAll s.data.toList = .ok v) (w : World) :
  Calls Tryz.prog 84 #[.string s] w fun e w' => e = .returned (.tuple #[.int .i64 v, .nilIface]) ∧ (w' = w ∨ ∃ t, w' = Lib.bytesWorld w 5 t) := Any.strconv_Atoi_ok Tryz.laysC172 s hmax v h w
open Go.RowKit in
theorem Tryz.strconv_Atoi_syntax (s : ByteArray) (hlim : s.size ≤ 281474976710656) (h : Lib.atoiAll s.data.toList = Lib.atoiAll []) (ev : Value) (w : World) (hv : w.cell? ⟨2, 0, none⟩ = some ev) (hev : ev = .nilIface ∨ ∃ te pe, ev = .iface te pe) :
  Calls Tryz.prog 84 #[.string s] w fun e w' => ∃ N, e = .returned (.tuple #[.int .i64 (0), .iface 209 (.pointer (some ⟨N, 0, none⟩))]) ∧ w.heap.size ≤ N ∧ w'.heap[N]? = some (.cells #[.string ⟨#[65, 116, 111, 105]⟩, .string s, ev] 242 (0, 0)) ∧ Below w.heap.size w w' := Any.strconv_Atoi_syntax Tryz.laysC172 s hlim h ev w hv hev
open Go.RowKit in
theorem Tryz.strconv_Atoi_range (s : ByteArray) (hlim : s.size ≤ 281474976710656) (h : Lib.atoiAll s.data.toList = .range) (ev : Value) (w : World) (hv : w.cell? ⟨3, 0, none⟩ = some ev) (hev : ev = .nilIface ∨ ∃ te pe, ev = .iface te pe) :
  Calls Tryz.prog 84 #[.string s] w fun e w' => ∃ N, e = .returned (.tuple #[.int .i64 (Lib.atoiSat s.data.toList), .iface 209 (.pointer (some ⟨N, 0, none⟩))]) ∧ w.heap.size ≤ N ∧ w'.heap[N]? = some (.cells #[.string ⟨#[65, 116, 111, 105]⟩, .string s, ev] 242 (0, 0)) ∧ Below w.heap.size w w' := Any.strconv_Atoi_range Tryz.laysC172 s hlim h ev w hv hev
def Tryz.lays122_ren : Go.Shelf.Ren := ⟨fun | 122 => 56 | 215 => 89 | n => n, fun | 3 => 3 | 4 => 4 | n => n, fun | n => n⟩
theorem Tryz.lays122 : Go.Proofs.Lays.n122 Tryz.prog Tryz.lays122_ren := {
 mixed := by kernel_rfl
 f122 := Tryz.func56.trans (congrArg some (by kernel_rfl))
 f215 := Tryz.func89.trans (congrArg some (by kernel_rfl))
 t3 := Tryz.underlying3
 a3 := Tryz.isAgg3
 z3 := Tryz.sizeOf3
 v3 := Tryz.zeroValue3
 t4 := Tryz.underlying4
 a4 := Tryz.isAgg4
 z4 := Tryz.sizeOf4
 v4 := Tryz.zeroValue4 }
open Go.RowKit in
theorem Tryz.cmp_Compare_int (x y : Int) (w : World) :
  Calls Tryz.prog 56 #[.int .i64 x, .int .i64 y] w fun e w' => e = .returned (.int .i64 (Lib.compareInt x y)) ∧ w' = w := Any.cmp_Compare_int Tryz.lays122 x y w
end Go.Proofs
namespace Go.Proofs.YtamgiojcbdbokaaGreatDoor
open Go Go.Sx
set_option maxRecDepth 100000
set_option maxHeartbeats 1000000
theorem yl {w w' : World} {H : Heap} {O : Go.Sx.Own} (hm : Models w H O) (ho : ∀ j, j < w.heap.size → w'.heap[j]? = w.heap[j]?) (he : cQ w' = cQ w) : Models w' H O := by
 have hlt : ∀ b (o : Obj), w.heap[b]? = some o → b < w.heap.size := fun b o hb => (Array.getElem?_eq_some_iff.1 hb).1
 exact ⟨fun b o hb => (ho b (hlt b o (hm.pers b o hb))).trans (hm.pers b o hb), fun p hp => ⟨(ho _ (hlt _ _ (hm.own p hp).1)).trans (hm.own p hp).1, (hm.own p hp).2⟩, hm.nodup, he.trans hm.env⟩
theorem EB {w w' : World} {H : Heap} {O : Go.Sx.Own} (hm : Models w H O) (ho : ∀ j, j < w.heap.size → w'.heap[j]? = w.heap[j]?) (he : cQ w' = cQ w) {r : Nat} {o : Obj} (hr : w.heap.size ≤ r) (hn : w'.heap[r]? = some o) : Models w' H ((r, o) :: O) := by
 have hlt : ∀ b (o : Obj), w.heap[b]? = some o → b < w.heap.size := fun b o hb => (Array.getElem?_eq_some_iff.1 hb).1
 have h := yl hm ho he
 refine ⟨h.pers, fun p hp => ?_, ?_, h.env⟩
 ·rcases List.mem_cons.1 hp with rfl | hp
  ·refine ⟨hn, ?_⟩
   cases hH : H r with
   | none => rfl
   | some x => have := hlt _ _ (hm.pers _ _ hH); omega
  ·exact h.own p hp
 ·rw [List.map_cons, List.nodup_cons]
  refine ⟨fun hx => ?_, h.nodup⟩
  obtain ⟨p, hp, e⟩ := List.mem_map.1 hx
  have := hlt _ _ (hm.own p hp).1
  have : p.1 = r := e
  omega
theorem eO {P : Program} {f : FuncId} {args : List Value} {v : Value} {H : Heap} {O : Go.Sx.Own} (h : ∀ w F, Models w H (O ++ F) → Calls P f args.toArray w fun e w' => e = .returned v ∧ (∀ j, j < w.heap.size → w'.heap[j]? = w.heap[j]?) ∧ cQ w' = cQ w) : RetO P f args H O v := by
 intro w F hm
 refine (h w F hm).mono ?_
 rintro e w' ⟨rfl, h1, h2⟩
 exact ⟨v, H, O, rfl, ⟨rfl, rfl⟩, Heap.le_refl H, yl hm h1 h2⟩
theorem zm {H : Heap} {r : Nat} {c : Array Value} {T : TypeId} {mk : Nat × Nat} (h : H r = some (.cells c T mk)) {i : Nat} {v : Value} (hi : c[i]? = some v) : H.read (.pointer (some ⟨r, i, none⟩)) 1 = some [v] := by
 simp [Heap.read, Heap.cell?, bu, h, hi]
def li (l : List UInt8) : List (List Value) := l.map fun b => [Value.int .u8 (b.toNat : Int)]
theorem hN (l : List UInt8) : (li l).length = l.length := by simp [li]
theorem nH {l : List UInt8} {i : Nat} (h : i < l.length) : (li l)[i]? = some [Value.int .u8 (l[i].toNat : Int)] := by simp [li, h]
theorem EX : PP.underlying 9 = some .string := by kernel_rfl
theorem CU : PP.underlying 92 = some (.slice 5) := by kernel_rfl
theorem E4 : PP.underlying 5 = some (.int .u8) := by kernel_rfl
theorem tO {l : List UInt8} {H : Heap} {O : Go.Sx.Own} {K : List Value → List (List Value) → Heap → Go.Sx.Own → Prop} (hl : l.length < 2 ^ 62)
  (hk : ∀ v H', Heap.le H H' → Sl H' 1 v (li l) → K [v] [] H' O) : cR (fun H1 O1 R => bM PP ((PrimOp.convert 9 92).sem [Str l]) H1 O1 R) false [] [] .one K H O := by
 intro _
 refine ⟨H, [], O, fun v H' O' => Sl H' 1 v (li l) ∧ O' = [], Ghost.refl _ _, fun w F hm => ?_, ?_⟩
 ·have hr := Go.Lib.run_convert_string_bytes (P := PP) w 9 92 5 ⟨l.toArray⟩ EX CU E4
  have hn := Go.Lib.bytesWorld_at_new w 5 ⟨l.toArray⟩
  have hm' : Models w H F := by simpa using hm
  have hm2 := EB hm' (w' := Go.Lib.bytesWorld w 5 ⟨l.toArray⟩) (fun j hj => Go.Lib.bytesWorld_at_old w _ _ j hj) rfl (Nat.le_refl _) hn
  have hH : H w.heap.size = none := (hm2.own _ List.mem_cons_self).2
  have hr2 : ((PrimOp.convert 9 92).sem [Str l]).run PP w = .ok (.value (.slice (some ⟨w.heap.size, 0, none⟩) (⟨l.toArray⟩ : ByteArray).size (grownCap w (⟨l.toArray⟩ : ByteArray).size 0 5))) (Go.Lib.bytesWorld w 5 ⟨l.toArray⟩) := by
   simp only [PrimOp.sem, Sem.run_bind, hr, Result.andThen_ok]; rfl
  refine ⟨_, _, H.ins w.heap.size _, [], hr2, ⟨?_, rfl⟩, Heap.le_ins H _ _, by simpa using hm2.freeze⟩
  have hsz : (⟨l.toArray⟩ : ByteArray).size = l.length := by simp [ByteArray.size]
  have hcap : l.length ≤ grownCap w (⟨l.toArray⟩ : ByteArray).size 0 5 ∧ grownCap w (⟨l.toArray⟩ : ByteArray).size 0 5 < 2 ^ 63 := by
   rw [hsz]
   have h1 := grownCap_ge w l.length 0 5
   have h2 := grownCap_le_maxLen w l.length 0 5 (by simp only [maxLen]; omega)
   simp only [maxLen] at h2
   exact ⟨h1, by omega⟩
  refine ⟨_, _, by rw [hsz, hN], by rw [hN]; exact hcap.1, hcap.2, fun _ => ⟨_, rfl, fun i row hrow => ?_⟩⟩
  have hi : i < l.length := by have := (List.getElem?_eq_some_iff.1 hrow).1; rwa [hN] at this
  rw [nH hi, Option.some.injEq] at hrow
  subst hrow
  refine ⟨?_, rfl, rfl, trivial⟩
  rw [bu, Nat.zero_add, Nat.mul_one]
  refine zm (c := Go.Lib.bytesCells w 5 ⟨l.toArray⟩) (by simp only [Heap.ins, hH, if_true]; rfl) ?_
  simp [Go.Lib.bytesCells, Array.getElem?_append, hi]
 ·rintro v H' O' ⟨hs, rfl⟩ hle
  exact ⟨[v], [], [], rfl, ⟨hs.one, trivial⟩, trivial, rfl, hk v H' hle hs⟩
theorem fh (l : List UInt8) : (⟨l.toArray⟩ : ByteArray).size = l.length := by simp [ByteArray.size]
theorem BM {l : List UInt8} (hl : l.length < 2 ^ 62) (H : Heap) (O : Go.Sx.Own) : RetO PP 96 [Str l, .string ⟨#[32]⟩] H O (Str (Go.Lib.trimB l 32)) := by
 refine eO fun w F hm => ?_
 have h := Tryz.strings_Trim_one ⟨l.toArray⟩ 32 (by decide) w (by rw [fh]; omega)
 refine h.mono ?_
 rintro e w' ⟨rfl, rfl | rfl⟩
 ·exact ⟨rfl, fun _ _ => rfl, rfl⟩
 ·exact ⟨rfl, fun _ _ => rfl, rfl⟩
def wi (n a b : Int) : Bool := decide (n ≥ a) && decide (n ≤ b)
theorem gv (n a b : Int) (H : Heap) (O : Go.Sx.Own) : RetO PP mJ [iV n, iV a, iV b] H O (.bool (wi n a b)) := by
 refine oM (vs := [iV n, iV a, iV b]) (by kernel_rfl) ⟨rfl, rfl, rfl, trivial⟩ ?_
 simp only [mE]
 refine aa _ (hD _ _) ?_
 refine ab (ab ?_)
 refine aa _ (gY _ _) ?_
 refine ab ?_
 refine aa _ (ar _ _) ?_
 exact af ⟨rfl, rfl⟩
theorem Ar (a b : Int) : ah (.bin .lss .int) [.int .u8 a, .int .u8 b] = some (.bool (decide (a < b))) := by simp [ah, bD, bC]
theorem AA (a b : Int) : ah (.bin .gtr .int) [.int .u8 a, .int .u8 b] = some (.bool (decide (a > b))) := by simp [ah, bD, bC]
def tL (b : UInt8) : Bool := wi b.toNat 32 126
def ke (l : List UInt8) : Bool := wi l.length 1 32 && (Go.Lib.trimB l 32 == l && l.all tL)
theorem BG (l : List UInt8) (H : Heap) (O : Go.Sx.Own) : RetO PP nZ [Str l] H O (.bool (ke l)) := by
 refine qD (vs := [Str l]) (by kernel_rfl) ⟨rfl, trivial⟩ ?_
 simp only [nP]
 refine aa _ (cK l) ?_
 refine ak (gv l.length 1 32 _ _) rfl ⟨rfl, trivial⟩ fun H1 l1 => ?_
 refine aa _ (az _) (ai (fun hd => ?_) (fun hd => ?_))
 ·exact af ⟨by rw [ke, Dc hd]; rfl, rfl⟩
 have hw : wi l.length 1 32 = true := CM hd
 have hl : l.length ≤ 32 := by
  have := hw
  simp only [wi, Bool.and_eq_true, decide_eq_true_eq] at this
  omega
 refine ak (BM (by omega) _ _) rfl ⟨rfl, trivial⟩ fun H2 l2 => ?_
 refine aa _ (xz _ _) (ai (fun hd => ?_) (fun hd => ?_))
 ·exact af ⟨by rw [ke, Dc hd, hw]; rfl, rfl⟩
 have ht : (Go.Lib.trimB l 32 == l) = true := CM hd
 have hv : ke l = l.all tL := by rw [ke, hw, ht]; rfl
 refine tO (by omega) fun v H3 l3 hs => ?_
 have hlen := hs.len
 rw [hN] at hlen
 refine aa _ hlen ?_
 refine aI l.length (fun i H' O' => O' = O ∧ Heap.le H3 H' ∧ l.all tL = (l.drop i).all tL) ⟨rfl, Heap.le_refl _, by simp⟩ ?_
 rintro i H4 O4 hi - ⟨rfl, l4, hor⟩
 refine aa _ (aA _ _) (ai (fun hb => ?_) (fun hb => ?_))
 ·have hlt : i < l.length := by have := of_decide_eq_true hb; omega
  obtain ⟨a, k1, k2, _, k3, k4⟩ := ((hs.le l4).rsl O4).idx .i64 i _ (nH hlt)
  refine aa _ k1 (ao k2 k3 k4 ?_)
  refine aa _ (Ar _ _) ?_
  refine ab ?_
  refine aa _ (AA _ _) ?_
  refine ab ?_
  refine aa _ (ay _ _) (ai (fun hd => ?_) (fun hd => ?_))
  ·have hc : tL l[i] = false := by
    simp only [Bool.or_eq_true, decide_eq_true_eq] at hd
    simp only [tL, wi, Bool.and_eq_false_iff, decide_eq_false_iff_not]
    omega
   exact af ⟨by rw [hv, hor, List.drop_eq_getElem_cons hlt, List.all_cons, hc]; rfl, rfl⟩
  ·have hc : tL l[i] = true := by
    simp only [Bool.or_eq_false_iff, decide_eq_false_iff_not] at hd
    simp only [tL, wi, Bool.and_eq_true, decide_eq_true_eq]
    omega
   refine aa _ (av (by omega)) (aw (by simp [Eqs, E]) hlt ⟨rfl, l4, ?_⟩)
   rw [hor, List.drop_eq_getElem_cons hlt, List.all_cons, hc, Bool.true_and]
 ·have hge : l.length ≤ i := by have := of_decide_eq_false hb; omega
  exact af ⟨by rw [hv, hor, List.drop_of_length_le hge]; rfl, rfl⟩
theorem su {H : Heap} {O : Go.Sx.Own} {v fv : Value} {l : List Eff} {p : Eff → Bool} (h : Sl H 5 v (bV l)) {f : FuncId} {caps : Array Value} (hf : fv = .func (.func f) #[] caps) (hok : mL PP f)
  (hp : ∀ H', Heap.le H H' → ∀ x ∈ l, RetO PP f ([.agg x.row.toArray] ++ caps.toList) H' O (.bool (p x))) : RetO PP bc [v, fv] H O (iV (rW p l 0)) := by
 subst hf
 refine cC (vs := [v, .func (.func f) #[] caps]) (by kernel_rfl) ⟨h.one, rfl, trivial⟩ ?_
 simp only [a8]
 obtain ⟨e1, e2⟩ := fe h
 refine aa _ e1 ?_
 refine aI l.length (fun i H' O' => O' = O ∧ Heap.le H H' ∧ rW p l 0 = rW p (l.drop i) i) ⟨rfl, Heap.le_refl H, by simp⟩ ?_
 rintro i H' O' hi - ⟨rfl, hle, hor⟩
 refine aa _ (aA _ _) (ai (fun hb => ?_) (fun hb => ?_))
 ·have hlt : i < l.length := by simpa using hb
  obtain ⟨a, h1, h2, _, h3, h4⟩ := ((h.le hle).rsl O').idx .i64 i _ (fX hlt)
  refine aa _ h1 (ao h2 h3 h4 (my rfl hok (hp H' hle l[i] (List.getElem_mem hlt)) rfl ⟨rfl, trivial⟩ fun H2 hle2 => ai (fun hb => ?_) (fun hb => ?_)))
  ·refine af ⟨?_, rfl⟩
   rw [hor, List.drop_eq_getElem_cons hlt, rW, if_pos hb]; rfl
  ·refine aa _ (av (by omega)) (aw (by simp [Eqs, E]) hlt ⟨rfl, Heap.le_trans hle hle2, ?_⟩)
   rw [hor, List.drop_eq_getElem_cons hlt, rW, if_neg (by rw [hb]; simp)]; rfl
 ·have hge : l.length ≤ i := by simpa using hb
  refine af ⟨?_, rfl⟩
  rw [hor, List.drop_of_length_le hge]; rfl
theorem fg {H : Heap} {O : Go.Sx.Own} {v fv : Value} {l : List Eff} {p : Eff → Bool} (h : Sl H 5 v (bV l)) {f : FuncId} {caps : Array Value} (hf : fv = .func (.func f) #[] caps) (hok : mL PP f)
  (hp : ∀ H', Heap.le H H' → ∀ x ∈ l, RetO PP f ([.agg x.row.toArray] ++ caps.toList) H' O (.bool (p x))) : RetO PP aV [v, fv] H O (.bool (l.any p)) := by
 have hone : fv.oneCell' = true := by subst hf; rfl
 refine bY (vs := [v, fv]) (by kernel_rfl) ⟨h.one, hone, trivial⟩ ?_
 simp only [aT]
 refine ak (su h hf hok hp) rfl ⟨rfl, trivial⟩ fun H1 _ => aa _ (hD _ _) (af ⟨?_, rfl⟩)
 rw [← rV p l 0 (by omega)]
theorem DG (e : Eff) (H : Heap) : RetO PP lB ([.agg e.row.toArray] ++ []) H [] (.bool (!(Ee e))) := by
 refine od (vs := e.row) (by kernel_rfl) (im e) ?_
 simp only [lx]
 refine aj fun r0 => ?_
 refine ae ?_
 refine ak (xc e _) rfl ⟨rfl, trivial⟩ fun H1 l1 => ?_
 exact aa _ (az _) (af ⟨rfl, rfl⟩)
def Ei (l : List Eff) : Bool := decide (l.length ≤ 4) && !(l.any fun e => !(Ee e))
theorem DI {H : Heap} {v : Value} {l : List Eff} (h : Sl H 5 v (bV l)) : RetO PP nT [v] H [] (.bool (Ei l)) := by
 refine qx (vs := [v]) (by kernel_rfl) ⟨h.one, trivial⟩ ?_
 simp only [nJ]
 obtain ⟨e1, e2⟩ := fe h
 refine aa _ e1 ?_
 refine aa _ (gY _ _) (ai (fun hd => ?_) (fun hd => ?_))
 ·refine ak (fg h rfl (ii jw (by decide)) fun H' _ x _ => DG x H') rfl ⟨rfl, trivial⟩ fun H1 l1 => ?_
  refine aa _ (az _) (af ⟨?_, rfl⟩)
  have : decide (l.length ≤ 4) = true := by have := of_decide_eq_true hd; exact decide_eq_true (by omega)
  rw [Ei, this]; rfl
 ·refine af ⟨?_, rfl⟩
  have : decide (l.length ≤ 4) = false := by have := of_decide_eq_false hd; exact decide_eq_false (by omega)
  rw [Ei, this]; rfl
def EC (e : Eff) : Bool := e.target == 0 && (e.code == 8 || e.code == 9)
theorem wc (e : Eff) (H : Heap) : RetO PP mK ([.agg e.row.toArray] ++ []) H [] (.bool (EC e)) := by
 refine oN (vs := e.row) (by kernel_rfl) (im e) ?_
 simp only [mF]
 refine aj fun r0 => ?_
 refine ae ?_
 refine aa _ (ap _ _) ?_
 refine ae (ab (ab ?_))
 refine aa _ (ap _ _) ?_
 refine ab (ae (ab (ab (ab (ab ?_)))))
 refine aa _ (ap _ _) ?_
 refine ab (ab (ab ?_))
 refine aa _ (ay _ _) ?_
 refine ab ?_
 refine aa _ (ar _ _) ?_
 exact af ⟨rfl, rfl⟩
theorem yR {H : Heap} {v : Value} {l : List Eff} (h : Sl H 5 v (bV l)) : Triple PP jG [v] H [] fun x _ O' => (∃ n, x = iV n) ∧ O' = [] := by
 refine mb (vs := [v]) (by kernel_rfl) ⟨h.one, trivial⟩ ?_
 simp only [jB]
 obtain ⟨e1, e2⟩ := fe h
 refine aa _ e1 ?_
 refine iN l.length (fun _ x H' O' => (∃ n, x = iV n) ∧ O' = [] ∧ Heap.le H H') ⟨⟨0, rfl⟩, rfl, Heap.le_refl _⟩ ?_
 rintro i x H1 O1 hi - ⟨⟨n, rfl⟩, rfl, l1⟩
 refine aa _ (aA _ _) (ai (fun hb => ?_) (fun hb => ?_))
 ·have hlt : i < l.length := by simpa using hb
  obtain ⟨a, h1, h2, _, h3, h4⟩ := ((h.le l1).rsl []).idx .i64 i _ (fX hlt)
  refine aa _ h1 (ao h2 h3 h4 (aj fun r0 => ?_))
  refine ae (ae ?_)
  refine aa _ (dY _ _) (ai (fun hb => ?_) (fun hb => ?_))
  ·refine aa _ (show ah (.bin .add .int) [iV n, iV 1] = some (iV (IntKind.i64.wrap (n + 1))) from rfl) ?_
   exact aa _ (av (by omega)) (bT (by simp [Eqs, E]) hlt ⟨⟨_, rfl⟩, rfl, l1⟩)
  ·exact aa _ (av (by omega)) (bT (by simp [Eqs, E]) hlt ⟨⟨_, rfl⟩, rfl, l1⟩)
 ·exact af ⟨⟨n, rfl⟩, rfl⟩
theorem cX {P : Program} {f : FuncId} {args : List Value} {H : Heap} {p : Value → Prop} {K : List Value → List (List Value) → Heap → Go.Sx.Own → Prop}
  (h : Triple P f args H [] fun x _ O' => p x ∧ O' = []) (h1 : ∀ x, p x → x.oneCell' = true) (hk : ∀ x H', p x → Heap.le H H' → K [x] [] H' []) :
  cR (fun H1 O1 R => Triple P f args H1 O1 R) false [] [] .one K H [] := by
 refine bh h ?_
 rintro r H1 _ ⟨hr, rfl⟩ l1
 exact ⟨[r], rfl, ⟨h1 r hr, trivial⟩, hk r H1 hr l1⟩
theorem BF {H : Heap} {v : Value} {l : List Eff} (h : Sl H 5 v (bV l)) : Triple PP nY [v] H [] fun x _ O' => (∃ b, x = .bool b) ∧ O' = [] := by
 refine qC (vs := [v]) (by kernel_rfl) ⟨h.one, trivial⟩ ?_
 simp only [nO]
 refine cX (yR h) (by rintro _ ⟨n, rfl⟩; rfl) ?_
 rintro _ H1 ⟨n, rfl⟩ l1
 exact aa _ (ap _ _) (af ⟨⟨_, rfl⟩, rfl⟩)
theorem BD (w : Int) (s : Value) (hs : s.oneCell' = true) (r : Nat) (H : Heap) (b : BV) (hb : b.r = r) {n : Int} {s' : Value} (hv : b.vs = [iV n, s']) : RetO PP bA ([.agg #[iV w, s]] ++ [.pointer (some ⟨r, 0, none⟩)]) H [b.obj] (.bool (w == n)) := by
 obtain ⟨r', T, vs⟩ := b
 simp only at hb hv
 subst hb; subst hv
 refine lG (vs := [iV w, s, .pointer (some ⟨r', 0, none⟩)]) (by kernel_rfl) ⟨rfl, hs, rfl, trivial⟩ ?_
 simp only [iP]
 refine aj fun r0 => ?_
 refine ae (au rfl ?_)
 refine ao (vs := [iV n]) (.inr ⟨⟨r', 0, none⟩, #[iV n, s'], T, rfl, rfl, List.mem_singleton.2 rfl, rfl, by simp⟩) rfl ⟨rfl, trivial⟩ ?_
 exact aa _ (ap _ _) (af ⟨rfl, rfl⟩)
theorem Dz {H : Heap} {v : Value} {l : List (Int × List Eff)} {rows : List (List Value)} (h : Sl H 2 v rows) (hlen : rows.length ≤ l.length) (hr : ∀ (i : Nat) (r : List Value) (t : Int × List Eff), rows[i]? = some r → l[i]? = some t → TrR H r t) (bx : BV) {n : Int} {s' : Value} (hv : bx.vs = [iV n, s']) :
  Triple PP aM [v, .func (.func bA) #[] #[.pointer (some ⟨bx.r, 0, none⟩)]] H [bx.obj] fun x _ O' => (∃ b, x = .bool b) ∧ O' = [bx.obj] := by
 refine bO (vs := [v, .func (.func bA) #[] #[.pointer (some ⟨bx.r, 0, none⟩)]]) (by kernel_rfl) ⟨h.one, rfl, trivial⟩ ?_
 simp only [aL]
 have hI : Triple PP aZ [v, .func (.func bA) #[] #[.pointer (some ⟨bx.r, 0, none⟩)]] H [bx.obj] fun x _ O' => (∃ k, x = iV k) ∧ O' = [bx.obj] := by
  refine cm (vs := [v, .func (.func bA) #[] #[.pointer (some ⟨bx.r, 0, none⟩)]]) (by kernel_rfl) ⟨h.one, rfl, trivial⟩ ?_
  simp only [aY]
  refine aa _ h.len ?_
  refine aI rows.length (fun i H' O' => O' = [bx.obj] ∧ Heap.le H H') ⟨rfl, Heap.le_refl H⟩ ?_
  rintro i H' O' hi - ⟨rfl, hle⟩
  refine aa _ (aA _ _) (ai (fun hb => ?_) (fun hb => ?_))
  ·have hlt : i < rows.length := by simpa using hb
   obtain ⟨a, h1, h2, _, h3, h4⟩ := ((h.le hle).rsl [bx.obj]).idx .i64 i rows[i] (by simp [hlt])
   obtain ⟨s, e, hs⟩ := hr i rows[i] (l[i]'(by omega)) (by simp [hlt]) (by simp)
   rw [e] at h2 h3 h4
   refine aa _ h1 (ao h2 h3 h4 (my rfl (ii jw (by decide)) (BD (l[i]'(by omega)).1 s hs.one bx.r H' bx rfl hv) rfl ⟨rfl, trivial⟩ fun H2 hle2 => ai (fun hb => ?_) (fun hb => ?_)))
   ·exact af ⟨⟨_, rfl⟩, rfl⟩
   ·exact aa _ (av (by have := h.lenB; omega)) (aw (by simp [Eqs, E]) hlt ⟨rfl, Heap.le_trans hle hle2⟩)
  ·exact af ⟨⟨_, rfl⟩, rfl⟩
 refine cF (O1 := [bx.obj]) (O2 := []) (by simp) hI ?_
 rintro _ H1 _ ⟨⟨k, rfl⟩, rfl⟩ l1
 refine ⟨[iV k], rfl, ⟨rfl, trivial⟩, ?_⟩
 exact aa _ (hD _ _) (af ⟨⟨_, rfl⟩, by simp⟩)
theorem wY {H : Heap} {v : Value} {l : List (Int × List Eff)} (h : TrsF H v l) : Triple PP kM [v] H [] fun x _ O' => (∃ b, x = .bool b) ∧ O' = [] := by
 obtain ⟨hl, h1, hB⟩ := h.len
 obtain ⟨rows, hs, hlen, hr⟩ := h
 refine mQ (vs := [v]) (by kernel_rfl) ⟨h1, trivial⟩ ?_
 simp only [kJ]
 refine aa _ hl ?_
 refine aI l.length (fun _ H' O' => O' = [] ∧ Heap.le H H') ⟨rfl, Heap.le_refl _⟩ ?_
 rintro i H1 O1 hi - ⟨rfl, l1⟩
 refine aa _ (aA _ _) (ai (fun hb => ?_) (fun hb => ?_))
 ·have hlt : i < l.length := by simpa using hb
  obtain ⟨a, k1, k2, _, k3, k4⟩ := ((hs.le l1).rsl []).idx .i64 i rows[i] (by simp [hlen, hlt])
  obtain ⟨s, e, hse⟩ := hr i rows[i] l[i] (by simp [hlen, hlt]) (by simp [hlt])
  rw [e] at k2 k3 k4
  refine aa _ k1 (ao k2 k3 k4 (aj fun r0 => ?_))
  refine ae (ae ?_)
  refine ak (gv l[i].1 1 3 _ _) rfl ⟨rfl, trivial⟩ fun H2 l2 => ?_
  refine aa _ (az _) (ai (fun hd => ?_) (fun hd => ?_))
  ·exact af ⟨⟨_, rfl⟩, rfl⟩
  have hs2 := hse.le (Heap.le_trans l1 l2)
  obtain ⟨e1, e2⟩ := fe hs2
  refine ae ?_
  refine aa _ e1 ?_
  refine ak (gv l[i].2.length 1 2 _ _) rfl ⟨rfl, trivial⟩ fun H3 l3 => ?_
  refine aa _ (az _) (ai (fun hd => ?_) (fun hd => ?_))
  ·exact af ⟨⟨_, rfl⟩, rfl⟩
  refine ae ?_
  refine ak (DI (hs2.le l3)) rfl ⟨rfl, trivial⟩ fun H4 l4 => ?_
  refine aa _ (az _) (ai (fun hd => ?_) (fun hd => ?_))
  ·exact af ⟨⟨_, rfl⟩, rfl⟩
  refine ae ?_
  refine cX (BF (hs2.le (Heap.le_trans l3 l4))) (by rintro _ ⟨n, rfl⟩; rfl) ?_
  rintro _ H5 ⟨b, rfl⟩ l5
  refine aa _ (az _) (ai (fun hd => ?_) (fun hd => ?_))
  ·exact af ⟨⟨_, rfl⟩, rfl⟩
  have l15 := Heap.le_trans l1 (Heap.le_trans l2 (Heap.le_trans l3 (Heap.le_trans l4 l5)))
  obtain ⟨u, hu, hus⟩ := (hs.le l15).upto (i := i) (by omega)
  refine aa _ hu ?_
  refine tP (own := [⟨r0, _, [iV l[i].1, s]⟩]) (O1 := []) (O2 := []) (by simp) (R := fun x _ O3 => (∃ b, x = .bool b) ∧ O3 = []) (Triple.mono (Dz hus (l := l) (by rw [List.length_take]; omega) (fun j r t a b => ?_) ⟨r0, _, [iV l[i].1, s]⟩ rfl) ?_) ?_ ?_
  ·have hj : j < i := by have := (List.getElem?_eq_some_iff.1 a).1; rw [List.length_take] at this; omega
   rw [List.getElem?_take_of_lt hj] at a
   obtain ⟨s, e, q⟩ := hr j r t a b
   exact ⟨s, e, q.le l15⟩
  ·rintro x _ _ _ ⟨hx, rfl⟩
   exact ⟨[], by simp, hx, rfl⟩
  ·exact ⟨rfl, ⟨rfl, hse.one, trivial⟩, trivial⟩
  ·rintro _ H6 _ ⟨⟨b, rfl⟩, rfl⟩ l6
   refine ⟨[.bool b], rfl, ⟨rfl, trivial⟩, ai (fun hd => ?_) (fun hd => ?_)⟩
   ·exact af ⟨⟨_, rfl⟩, by simp⟩
   ·exact aa _ (av (by omega)) (aw (by simp [Eqs, E]) hlt ⟨by simp, Heap.le_trans l15 l6⟩)
 ·refine aa _ hl ?_
  exact aa _ (gY _ _) (af ⟨⟨_, rfl⟩, rfl⟩)
theorem yW {l : List Value} {i : Nat} {v : Value} (h : l[i]? = some v) : ah .aidx (iV i :: l) = some v := by
 have hlt := (List.getElem?_eq_some_iff.1 h).1
 simp only [ah, lc]
 rw [if_pos ⟨by omega, by omega⟩]
 simpa using h
theorem so (a b c d m : Int) (H : Heap) (O : Go.Sx.Own) : RetO PP mI [.agg #[iV a, iV b, iV c, iV d], iV m] H O (.bool ([a, b, c, d].all fun n => jU n 0 m)) := by
 refine oJ (vs := [iV a, iV b, iV c, iV d, iV m]) (by kernel_rfl) ⟨rfl, rfl, rfl, rfl, rfl, trivial⟩ ?_
 simp only [mD]
 refine fun r0 => ae (aI 4 (fun i H' O' => O' = O ∧ ([a, b, c, d].all fun n => jU n 0 m) = (([a, b, c, d].drop i).all fun n => jU n 0 m)) ⟨rfl, rfl⟩ ?_)
 rintro i H' O' hi - ⟨rfl, hor⟩
 refine aa _ (aA _ _) (ai (fun hb => ?_) (fun hb => ?_))
 ·have hlt : i < 4 := by have := of_decide_eq_true hb; omega
  have hlt' : i < [a, b, c, d].length := hlt
  have hv : [iV a, iV b, iV c, iV d][i]? = some (iV [a, b, c, d][i]) := by
   have : [iV a, iV b, iV c, iV d] = [a, b, c, d].map iV := rfl
   rw [this, List.getElem?_map, List.getElem?_eq_getElem hlt']; rfl
  refine aa _ (yW hv) (aa _ (aA _ _) (ab (ab (aa _ (bL _ _) (ab (aa _ (ay _ _) (ai (fun hb => af ⟨?_, rfl⟩) (fun hb => aa _ (av (by omega)) (aw (by simp [Eqs, E]) hlt ⟨rfl, ?_⟩)))))))))
  ·rw [hor, List.drop_eq_getElem_cons hlt', List.all_cons]
   have : jU [a, b, c, d][i] 0 m = false := by simp [jU] at hb ⊢; omega
   rw [this]; rfl
  ·rw [hor, List.drop_eq_getElem_cons hlt', List.all_cons]
   have : jU [a, b, c, d][i] 0 m = true := by simp [jU] at hb ⊢; omega
   rw [this]; rfl
 ·have : i = 4 := by have := of_decide_eq_false hb; omega
  subst this
  exact af ⟨by rw [hor]; rfl, rfl⟩
def yJ (a b c d e : Int) : Bool := (([a, b, c, d].all fun n => jU n 0 20) && decide (e ≥ 0)) && decide (e ≤ 20)
theorem qa (a b c d e : Int) (H : Heap) (O : Go.Sx.Own) : RetO PP jF [.agg #[iV a, iV b, iV c, iV d, iV e]] H O (.bool (yJ a b c d e)) := by
 refine ma (vs := [iV a, iV b, iV c, iV d, iV e]) (by kernel_rfl) ⟨rfl, rfl, rfl, rfl, rfl, trivial⟩ ?_
 simp only [jA]
 refine aj fun r0 => ?_
 refine ae ?_
 refine ak (so a b c d 20 _ _) rfl ⟨rfl, trivial⟩ fun H1 l1 => ?_
 refine ae (ab (ab ?_))
 refine aa _ (hD _ _) ?_
 refine ab ?_
 refine aa _ (ar _ _) ?_
 refine ae (ab (ab ?_))
 refine aa _ (gY _ _) ?_
 refine ab ?_
 refine aa _ (ar _ _) ?_
 exact af ⟨rfl, rfl⟩
theorem EH (a b c d : Int) : ∃ s, (∀ H O, RetO PP ri [.agg #[iV a, iV b, iV c, iV d]] H O (iV s)) ∧ (a = 0 → b = 0 → c = 0 → d = 0 → s = 0) := by
 let st : Nat → Int := fun i => (([a, b, c, d].take i).foldl (fun s x => IntKind.i64.wrap (s + x)) 0)
 refine ⟨st 4, fun H O => ?_, ?_⟩
 ·refine sQ (vs := [iV a, iV b, iV c, iV d]) (by kernel_rfl) ⟨rfl, rfl, rfl, rfl, trivial⟩ ?_
  simp only [rh]
  refine aj fun r0 => ?_
  refine ae ?_
  refine iN 4 (fun i x H' O' => x = iV (st i) ∧ O' = O) ⟨rfl, rfl⟩ ?_
  rintro i _ H1 _ hi - ⟨rfl, rfl⟩
  refine aa _ (aA _ _) (ai (fun hb => ?_) (fun hb => ?_))
  ·have hlt : i < 4 := by have := of_decide_eq_true hb; omega
   have hv : [iV a, iV b, iV c, iV d][i]? = some (iV ([a, b, c, d][i]'hlt)) := by
    have : [iV a, iV b, iV c, iV d] = [a, b, c, d].map iV := rfl
    rw [this, List.getElem?_map, List.getElem?_eq_getElem hlt]; rfl
   refine aa _ (yW hv) ?_
   refine aa _ (show ah (.bin .add .int) [iV (st i), iV ([a, b, c, d][i]'hlt)] = some (iV (IntKind.i64.wrap (st i + ([a, b, c, d][i]'hlt)))) from rfl) ?_
   refine aa _ (av (by omega)) (bT (by simp [Eqs, E]) hlt ⟨?_, rfl⟩)
   show _ = iV (st (i + 1))
   simp only [st]
   rw [List.take_add_one, List.getElem?_eq_getElem (show i < [a, b, c, d].length from hlt), Option.toList_some, List.foldl_append]; rfl
  ·have : i = 4 := by have := of_decide_eq_false hb; omega
   subst this
   exact af ⟨rfl, rfl⟩
 ·rintro rfl rfl rfl rfl
  decide
theorem BJ (a b c d e : Int) : ∃ s, (∀ H O, RetO PP nS [.agg #[iV a, iV b, iV c, iV d, iV e]] H O (iV s)) ∧ (a = 0 → b = 0 → c = 0 → d = 0 → e = 0 → s = 0) := by
 obtain ⟨s, h1, h2⟩ := EH a b c d
 refine ⟨if yJ a b c d e then IntKind.i64.wrap (s + e) else 0, fun H O => ?_, fun ha hb hc hd he => ?_⟩
 ·refine qw (vs := [iV a, iV b, iV c, iV d, iV e]) (by kernel_rfl) ⟨rfl, rfl, rfl, rfl, rfl, trivial⟩ ?_
  simp only [nI]
  refine aj fun r0 => ?_
  refine ae ?_
  refine ak (qa a b c d e _ _) rfl ⟨rfl, trivial⟩ fun H1 l1 => ?_
  refine aa _ (az _) (ai (fun hx => ?_) (fun hx => ?_))
  ·exact af ⟨by rw [show yJ a b c d e = false from Dc hx]; rfl, rfl⟩
  ·refine ae (ae ?_)
   refine ak (h1 _ _) rfl ⟨rfl, trivial⟩ fun H2 l2 => ?_
   refine aa _ (show ah (.bin .add .int) [iV s, iV e] = some (iV (IntKind.i64.wrap (s + e))) from rfl) (af ⟨?_, rfl⟩)
   rw [if_pos (show yJ a b c d e = true from CM hx)]
 ·subst ha; subst hb; subst hc; subst hd; subst he
  rw [h2 rfl rfl rfl rfl]
  decide
def Ae (c : CdF) : Bool := ((c.pw == 0 && c.tn == 0) && c.ks == 0) && (c.trs.length : Int) == 0
theorem uU {H : Heap} {es ts : Value} {c : CdF} (h1 : es.oneCell' = true) (h2 : TrsF H ts c.trs) (O : Go.Sx.Own) : RetO PP nX [.agg (mw c es ts).toArray] H O (.bool (Ae c)) := by
 refine qB (vs := mw c es ts) (by kernel_rfl) (kA h1 h2.len.2.1) ?_
 simp only [nN]
 refine aj fun r0 => ?_
 refine ae ?_
 refine aa _ (ap _ _) ?_
 refine ae (ab (ab ?_))
 refine aa _ (ap _ _) ?_
 refine ab ?_
 refine aa _ (ar _ _) ?_
 refine ae (ab (ab ?_))
 refine aa _ (ap _ _) ?_
 refine ab ?_
 refine aa _ (ar _ _) ?_
 refine ae (ab (ab ?_))
 refine aa _ h2.len.1 ?_
 refine ab ?_
 refine aa _ (ap _ _) ?_
 refine ab ?_
 refine aa _ (ar _ _) ?_
 exact af ⟨rfl, rfl⟩
def yA (c : CdF) : Prop := ke c.nm = true ∧ wi c.rar 1 4 = true ∧ yJ c.c0 c.c1 c.c2 c.c3 c.any = true ∧ Ei c.effs = true ∧ Ae c = true ∧
 ((c.kind = 1 ∧ wi c.makes 0 3 = true ∧ c.c0 = 0 ∧ c.c1 = 0 ∧ c.c2 = 0 ∧ c.c3 = 0 ∧ c.any = 0 ∧ c.effs.length = 0) ∨ ((c.kind = 3 ∨ c.kind = 4) ∧ c.makes = 0 ∧ 0 < c.effs.length ∧ c.effs.any EC = false))
def EO (c : CdF) (b : Bool) : Prop := (b = true → ke c.nm = true ∧ 1 ≤ c.kind ∧ c.kind ≤ 4) ∧ (yA c → b = true)
def EP (c : CdF) (x : Value) (_ : Heap) (O' : Go.Sx.Own) : Prop := (∃ b, x = .bool b ∧ EO c b) ∧ O' = []
theorem gQ {c : CdF} {H : Heap} (h : ¬ yA c) : EP c (.bool false) H [] := ⟨⟨false, rfl, (fun e => by cases e), fun g => absurd g h⟩, rfl⟩
theorem y7 {c : CdF} {H : Heap} {b : Bool} (h : ke c.nm = true) (hk : 1 ≤ c.kind ∧ c.kind ≤ 4) (hg : yA c → b = true) : EP c (.bool b) H [] := ⟨⟨b, rfl, fun _ => ⟨h, hk⟩, hg⟩, rfl⟩
theorem BL {H : Heap} {r : List Value} {c : CdF} (h : CdRF H r c) : Triple PP kO [.agg r.toArray] H [] (EP c) := by
 obtain ⟨es, ts, rfl, he, ht⟩ := h
 refine qE (vs := mw c es ts) (by kernel_rfl) (kA he.one ht.len.2.1) ?_
 simp only [nQ]
 refine aj fun r0 => ?_
 refine ae ?_
 refine ak (BG c.nm _ _) rfl ⟨rfl, trivial⟩ fun H1 l1 => ?_
 refine aa _ (az _) (ai (fun hd => ?_) (fun hd => ?_))
 ·exact af (gQ fun g => by rw [g.1] at hd; cases hd)
 have hn : ke c.nm = true := CM hd
 refine ae ?_
 refine ak (gv c.rar 1 4 _ _) rfl ⟨rfl, trivial⟩ fun H2 l2 => ?_
 refine aa _ (az _) (ai (fun hd => ?_) (fun hd => ?_))
 ·exact af (gQ fun g => by rw [g.2.1] at hd; cases hd)
 refine ae ?_
 refine ak (qa c.c0 c.c1 c.c2 c.c3 c.any _ _) rfl ⟨rfl, trivial⟩ fun H3 l3 => ?_
 refine aa _ (az _) (ai (fun hd => ?_) (fun hd => ?_))
 ·exact af (gQ fun g => by rw [g.2.2.1] at hd; cases hd)
 have he3 := he.le (Heap.le_trans l1 (Heap.le_trans l2 l3))
 refine ae ?_
 refine ak (DI he3) rfl ⟨rfl, trivial⟩ fun H4 l4 => ?_
 refine aa _ (az _) (ai (fun hd => ?_) (fun hd => ?_))
 ·exact af (gQ fun g => by rw [g.2.2.2.1] at hd; cases hd)
 have he4 := he3.le l4
 have ht4 := ht.le (Heap.le_trans l1 (Heap.le_trans l2 (Heap.le_trans l3 l4)))
 obtain ⟨e1, e2⟩ := fe he4
 obtain ⟨sv, hsv, hsv0⟩ := BJ c.c0 c.c1 c.c2 c.c3 c.any
 refine ae ?_
 refine aa _ (ap _ _) (ai (fun h1 => ?_) (fun h1 => ?_))
 ·have hk : c.kind = 1 := by simpa using h1
  have hkk : 1 ≤ c.kind ∧ c.kind ≤ 4 := by omega
  refine ae ?_
  refine ak (gv c.makes 0 3 _ _) rfl ⟨rfl, trivial⟩ fun H5 l5 => ai (fun hd => ?_) (fun hd => ?_)
  rotate_left
  ·refine af (gQ fun g => ?_)
   rcases g.2.2.2.2.2 with ⟨_, g, _⟩ | ⟨g, _⟩
   ·rw [g] at hd; cases hd
   ·omega
  refine ae ?_
  refine ak (hsv _ _) rfl ⟨rfl, trivial⟩ fun H6 l6 => ?_
  refine aa _ (ap _ _) ?_
  refine ae (ab (ab ?_))
  refine aa _ e1 ?_
  refine ab ?_
  refine aa _ (ap _ _) ?_
  refine ab ?_
  refine aa _ (ar _ _) (ai (fun hd2 => ?_) (fun hd2 => ?_))
  rotate_left
  ·refine af (gQ fun g => ?_)
   rcases g.2.2.2.2.2 with ⟨_, _, g0, g1, g2, g3, g4, g5⟩ | ⟨g, _⟩
   ·rw [hsv0 g0 g1 g2 g3 g4, g5] at hd2; cases hd2
   ·omega
  refine ae ?_
  refine ak (uU he4.one (ht4.le (Heap.le_trans l5 l6)) _) rfl ⟨rfl, trivial⟩ fun H7 l7 => ?_
  exact af (y7 hn hkk fun g => g.2.2.2.2.1)
 have n1 : c.kind ≠ 1 := by simpa using h1
 refine aa _ (ap _ _) (ai (fun h1 => ?_) (fun h1 => ?_))
 ·have hk : c.kind = 2 := by simpa using h1
  have hkk : 1 ≤ c.kind ∧ c.kind ≤ 4 := by omega
  have hng : ¬ yA c := fun g => by
   rcases g.2.2.2.2.2 with ⟨g, _⟩ | ⟨g, _⟩ <;> omega
  refine ae ?_
  refine aa _ (ap _ _) (ai (fun _ => ?_) (fun _ => af (gQ hng)))
  refine ae ?_
  refine ak (gv c.pw 0 20 _ _) rfl ⟨rfl, trivial⟩ fun H5 l5 => ai (fun _ => ?_) (fun _ => af (gQ hng))
  refine ae ?_
  refine ak (gv c.tn 1 20 _ _) rfl ⟨rfl, trivial⟩ fun H6 l6 => ?_
  refine ae (ab (ab ?_))
  refine aa _ (show ah (.bin .andNot .int) [iV c.ks, iV 15] = some (iV _) from rfl) ?_
  refine ab ?_
  refine aa _ (ap _ _) ?_
  refine ab ?_
  refine aa _ (ar _ _) (ai (fun _ => ?_) (fun _ => af (gQ hng)))
  refine ae ?_
  refine cX (wY (ht4.le (Heap.le_trans l5 l6))) (by rintro _ ⟨n, rfl⟩; rfl) ?_
  rintro _ H7 ⟨b, rfl⟩ l7
  exact af (y7 hn hkk fun g => absurd g hng)
 have n2 : c.kind ≠ 2 := by simpa using h1
 refine aa _ (ap _ _) (ai (fun h1 => ?_) (fun h1 => ?_))
 ·have hk : c.kind = 3 := by simpa using h1
  have hkk : 1 ≤ c.kind ∧ c.kind ≤ 4 := by omega
  refine ai (fun _ => ?_) (fun hd => by rw [h1] at hd; cases hd)
  refine ae ?_
  refine aa _ (ap _ _) ?_
  refine ae (ab (ab ?_))
  refine aa _ e1 ?_
  refine ab ?_
  refine aa _ (bL _ _) ?_
  refine ab ?_
  refine aa _ (ar _ _) (ai (fun hd2 => ?_) (fun hd2 => ?_))
  rotate_left
  ·refine af (gQ fun g => ?_)
   rcases g.2.2.2.2.2 with ⟨g, _⟩ | ⟨_, g0, g1, _⟩
   ·omega
   ·rw [g0] at hd2
    have : decide ((c.effs.length : Int) > 0) = true := decide_eq_true (by omega)
    rw [this] at hd2; cases hd2
  refine ae ?_
  refine ak (fg he4 rfl (ii jw (by decide)) fun H' _ x _ => wc x H') rfl ⟨rfl, trivial⟩ fun H5 l5 => ?_
  refine aa _ (az _) (ai (fun hd => ?_) (fun hd => ?_))
  rotate_left
  ·refine af (gQ fun g => ?_)
   rcases g.2.2.2.2.2 with ⟨g, _⟩ | ⟨_, _, _, g⟩
   ·omega
   ·rw [g] at hd; cases hd
  refine ae ?_
  refine ak (uU he4.one (ht4.le l5) _) rfl ⟨rfl, trivial⟩ fun H7 l7 => ?_
  exact af (y7 hn hkk fun g => g.2.2.2.2.1)
 have n3 : c.kind ≠ 3 := by simpa using h1
 refine aa _ (ap _ _) (ai (fun h1 => ?_) (fun h1 => ?_))
 ·have hk : c.kind = 4 := by simpa using h1
  have hkk : 1 ≤ c.kind ∧ c.kind ≤ 4 := by omega
  refine ae ?_
  refine aa _ (ap _ _) ?_
  refine ae (ab (ab ?_))
  refine aa _ e1 ?_
  refine ab ?_
  refine aa _ (bL _ _) ?_
  refine ab ?_
  refine aa _ (ar _ _) (ai (fun hd2 => ?_) (fun hd2 => ?_))
  rotate_left
  ·refine af (gQ fun g => ?_)
   rcases g.2.2.2.2.2 with ⟨g, _⟩ | ⟨_, g0, g1, _⟩
   ·omega
   ·rw [g0] at hd2
    have : decide ((c.effs.length : Int) > 0) = true := decide_eq_true (by omega)
    rw [this] at hd2; cases hd2
  refine ae ?_
  refine ak (fg he4 rfl (ii jw (by decide)) fun H' _ x _ => wc x H') rfl ⟨rfl, trivial⟩ fun H5 l5 => ?_
  refine aa _ (az _) (ai (fun hd => ?_) (fun hd => ?_))
  rotate_left
  ·refine af (gQ fun g => ?_)
   rcases g.2.2.2.2.2 with ⟨g, _⟩ | ⟨_, _, _, g⟩
   ·omega
   ·rw [g] at hd; cases hd
  refine ae ?_
  refine ak (uU he4.one (ht4.le l5) _) rfl ⟨rfl, trivial⟩ fun H7 l7 => ?_
  exact af (y7 hn hkk fun g => g.2.2.2.2.1)
 have n4 : c.kind ≠ 4 := by simpa using h1
 refine af (gQ fun g => ?_)
 rcases g.2.2.2.2.2 with ⟨g, _⟩ | ⟨g, _⟩ <;> omega
section
open Go.RowKit Go.Lib
theorem xo (c : Int) (w : World) : Calls Tryz.prog 127 #[.int .i64 c] w fun e w' => (∃ s, e = .returned (.string s) ∧ s.size < 100) ∧ (∀ j, j < w.heap.size → w'.heap[j]? = w.heap[j]?) ∧ cQ w' = cQ w := by
  go_enter Tryz.func127, Tryz.ntmps127
  go_wp2
  all_goals go_ret
  all_goals refine ⟨?_, fun j hj => Below.heap_alloc _ _ j hj, rfl⟩
  all_goals first
    | exact ⟨_, rfl, by decide⟩
    | (obtain h | h | h | h | h | h | h | h | h | h | h | h : c = 1 ∨ c = 2 ∨ c = 3 ∨ c = 4 ∨ c = 5 ∨ c = 6 ∨ c = 7 ∨ c = 8 ∨ c = 9 ∨ c = 10 ∨ c = 11 ∨ c = 12 := by omega
       all_goals subst h; exact ⟨_, rfl, by decide⟩)
end
theorem xb (c : Int) (H : Heap) (O : Go.Sx.Own) : Triple PP jS [iV c] H O fun x _ O' => (∃ l, x = Str l ∧ l.length < 100) ∧ O' = O := by
 intro w F hm
 refine (xo c w).mono ?_
 rintro e w' ⟨⟨s, rfl, hs⟩, h1, h2⟩
 exact ⟨.string s, H, O, rfl, ⟨⟨s.data.toList, xy s, by rw [Array.length_toList]; exact hs⟩, rfl⟩, Heap.le_refl H, yl hm h1 h2⟩
theorem yN (c : Int) (H : Heap) (O : Go.Sx.Own) : Triple PP eW [iV c] H O fun x _ O' => (∃ n, x = .int .u8 n) ∧ O' = O := by
 refine iU (vs := [iV c]) (by kernel_rfl) ⟨rfl, trivial⟩ ?_
 simp only [eR]
 refine aa _ (aA _ _) ?_
 refine ab ?_
 refine aa _ (bL _ _) ?_
 refine ab ?_
 refine aa _ (ay _ _) (ai (fun hd => ?_) (fun hd => ?_))
 ·exact af ⟨⟨_, rfl⟩, rfl⟩
 have hd : (decide (c < 0) || decide (c > 6)) = false := hd
 rw [Bool.or_eq_false_iff, decide_eq_false_iff_not, decide_eq_false_iff_not] at hd
 obtain ⟨n, rfl⟩ : ∃ n : Nat, c = (n : Int) := ⟨c.toNat, by omega⟩
 refine aa _ (lE [110, 99, 111, 120, 112, 101, 115] n (by show n < 7; omega)) (af ⟨⟨_, rfl⟩, rfl⟩)
theorem Dp (l : List UInt8) (n : Int) (H : Heap) (O : Go.Sx.Own) (hl : l.length < 2 ^ 62) : Triple PP ic [Str l, .int .u8 n] H O fun x _ O' => (∃ b, x = .bool b) ∧ O' = O := by
 refine lj (vs := [Str l, .int .u8 n]) (by kernel_rfl) ⟨rfl, rfl, trivial⟩ ?_
 simp only [hU]
 refine aI l.length (fun i H' O' => O' = O ∧ Heap.le H H') ⟨rfl, Heap.le_refl H⟩ ?_
 rintro i H' O' hi - ⟨rfl, hle⟩
 refine aa _ (cK l) ?_
 refine aa _ (aA _ _) (ai (fun hb => ?_) (fun hb => ?_))
 ·have hlt : i < l.length := by simpa using hb
  refine aa _ (lE l i hlt) ?_
  refine aa _ (show ah (.bin .eql .int) [.int .u8 (l[i].toNat : Int), .int .u8 n] = some (.bool ((l[i].toNat : Int) == n)) by simp [ah, bD, bC]) (ai (fun _ => ?_) (fun _ => ?_))
  ·exact af ⟨⟨_, rfl⟩, rfl⟩
  ·exact aa _ (av (by omega)) (aw (by simp [Eqs, E]) hlt ⟨rfl, hle⟩)
 ·exact af ⟨⟨_, rfl⟩, rfl⟩
theorem w9 (e : Eff) (H : Heap) (O : Go.Sx.Own) : Triple PP eC [.agg e.row.toArray] H O fun x _ O' => (∃ b, x = .bool b) ∧ O' = O := by
 refine iz (vs := e.row) (by kernel_rfl) (im e) ?_
 simp only [eu]
 refine aj fun r0 => ?_
 repeat' (first | exact af ⟨⟨_, rfl⟩, rfl⟩ | refine ae ?_ | refine ab ?_ | refine aj fun _ => ?_ | refine aa _ (aA _ _) ?_ | refine aa _ (bL _ _) ?_ | refine aa _ (gY _ _) ?_ | refine aa _ (hD _ _) ?_ | refine aa _ (ap _ _) ?_ | refine aa _ (ar _ _) ?_ | refine aa _ (ay _ _) ?_ | refine ai (fun _ => ?_) (fun _ => ?_) | refine aa (.int .i64 _) rfl ?_)
theorem eI {P : Program} {f : FuncId} {args : List Value} {H : Heap} {O : Go.Sx.Own} {p : Value → Prop} {K : List Value → List (List Value) → Heap → Go.Sx.Own → Prop}
  (h : Triple P f args H O fun x _ O' => p x ∧ O' = O) (h1 : ∀ x, p x → x.oneCell' = true) (hk : ∀ x H', p x → Heap.le H H' → K [x] [] H' O) :
  cR (fun H1 O1 R => Triple P f args H1 O1 R) false [] [] .one K H O := by
 refine cF (O1 := O) (O2 := []) (by simp) h ?_
 rintro r H1 _ ⟨hr, rfl⟩ l1
 exact ⟨[r], rfl, ⟨h1 r hr, trivial⟩, by rw [List.append_nil]; exact hk r H1 hr l1⟩
theorem uV (e : Eff) (H : Heap) (O : Go.Sx.Own) : Triple PP fE [.agg e.row.toArray] H O fun x _ O' => (∃ b, x = .bool b) ∧ O' = O := by
 refine jM (vs := e.row) (by kernel_rfl) (im e) ?_
 simp only [fq]
 refine aj fun r0 => ?_
 refine ae (ae ?_)
 refine eI (xb e.code _ _) (by rintro _ ⟨l, rfl, _⟩; rfl) ?_
 rintro _ H1 ⟨l, rfl, hl⟩ l1
 refine eI (yN e.target _ _) (by rintro _ ⟨n, rfl⟩; rfl) ?_
 rintro _ H2 ⟨n, rfl⟩ l2
 refine eI (Dp l n _ _ (by omega)) (by rintro _ ⟨n, rfl⟩; rfl) ?_
 rintro _ H3 ⟨b, rfl⟩ l3
 refine ai (fun _ => ?_) (fun _ => af ⟨⟨_, rfl⟩, rfl⟩)
 refine ae ?_
 refine eI (w9 e _ _) (by rintro _ ⟨n, rfl⟩; rfl) ?_
 rintro _ H4 ⟨b, rfl⟩ l4
 exact af ⟨⟨_, rfl⟩, rfl⟩
theorem yO {H : Heap} {v : Value} {l : List Eff} (h : Sl H 5 v (bV l)) (O : Go.Sx.Own) : Triple PP ie [v] H O fun x _ O' => (∃ b, x = .bool b) ∧ O' = O := by
 refine lk (vs := [v]) (by kernel_rfl) ⟨h.one, trivial⟩ ?_
 simp only [hZ]
 obtain ⟨e1, e2⟩ := fe h
 refine aI l.length (fun i H' O' => O' = O ∧ Heap.le H H') ⟨rfl, Heap.le_refl H⟩ ?_
 rintro i H1 O1 hi - ⟨rfl, l1⟩
 refine aa _ e1 ?_
 refine aa _ (aA _ _) (ai (fun hb => ?_) (fun hb => ?_))
 ·have hlt : i < l.length := by simpa using hb
  obtain ⟨a, h1, h2, _, h3, h4⟩ := ((h.le l1).rsl O1).idx .i64 i _ (fX hlt)
  refine aa _ h1 (ao h2 h3 h4 ?_)
  refine eI (uV l[i] _ _) (by rintro _ ⟨n, rfl⟩; rfl) ?_
  rintro _ H2 ⟨b, rfl⟩ l2
  refine aa _ (az _) (ai (fun _ => ?_) (fun _ => ?_))
  ·exact af ⟨⟨_, rfl⟩, rfl⟩
  ·exact aa _ (av (by omega)) (aw (by simp [Eqs, E]) hlt ⟨rfl, Heap.le_trans l1 l2⟩)
 ·refine aa _ e1 ?_
  exact aa _ (gY _ _) (af ⟨⟨_, rfl⟩, rfl⟩)
theorem w8 {H : Heap} {v : Value} {l : List Eff} (h : Sl H 5 v (bV l)) (O : Go.Sx.Own) : Triple PP eB [v] H O fun x _ O' => (∃ n, x = iV n) ∧ O' = O := by
 refine iy (vs := [v]) (by kernel_rfl) ⟨h.one, trivial⟩ ?_
 simp only [ep]
 obtain ⟨e1, e2⟩ := fe h
 refine iN l.length (fun _ x H' O' => (∃ n, x = iV n) ∧ O' = O ∧ Heap.le H H') ⟨⟨0, rfl⟩, rfl, Heap.le_refl _⟩ ?_
 rintro i x H1 O1 hi - ⟨⟨n, rfl⟩, rfl, l1⟩
 refine aa _ e1 ?_
 refine aa _ (aA _ _) (ai (fun hb => ?_) (fun hb => ?_))
 ·have hlt : i < l.length := by simpa using hb
  obtain ⟨a, h1, h2, hp, h3, h4⟩ := ((h.le l1).rsl O1).idx .i64 i _ (fX hlt)
  refine aa _ h1 ?_
  refine au rfl ?_
  refine ao (vs := [iV l[i].target]) (hp 1 1 (by omega)) rfl ⟨rfl, trivial⟩ ?_
  refine aa _ (dY _ _) (ai (fun hb => ?_) (fun hb => ?_))
  ·refine aa _ (show ah (.bin .add .int) [iV n, iV 1] = some (iV (IntKind.i64.wrap (n + 1))) from rfl) ?_
   exact aa _ (av (by omega)) (bT (by simp [Eqs, E]) hlt ⟨⟨_, rfl⟩, rfl, l1⟩)
  ·exact aa _ (av (by omega)) (bT (by simp [Eqs, E]) hlt ⟨⟨_, rfl⟩, rfl, l1⟩)
 ·exact af ⟨⟨n, rfl⟩, rfl⟩
theorem wZ {H : Heap} {s : Value} {t : Int × List Eff} (h : Sl H 5 s (bV t.2)) (O : Go.Sx.Own) : Triple PP eA [.agg #[iV t.1, s]] H O fun x _ O' => (∃ b, x = .bool b) ∧ O' = O := by
 refine iw (vs := [iV t.1, s]) (by kernel_rfl) ⟨rfl, h.one, trivial⟩ ?_
 simp only [eo]
 obtain ⟨e1, e2⟩ := fe h
 refine aj fun r0 => ?_
 refine ae ?_
 refine aa _ (hD _ _) ?_
 refine ae (ab (ab ?_))
 refine aa _ (gY _ _) ?_
 refine ab ?_
 refine aa _ (ar _ _) ?_
 refine ae (ab (ab ?_))
 refine aa _ e1 ?_
 refine ab ?_
 refine aa _ (ap _ _) ?_
 refine ab (ae (ab (ab (ab (ab ?_)))))
 refine aa _ e1 ?_
 refine ab (ab ?_)
 refine aa _ (ap _ _) ?_
 refine ab (ab (ab ?_))
 refine aa _ (ay _ _) ?_
 refine ab ?_
 refine aa _ (ar _ _) (ai (fun _ => ?_) (fun _ => af ⟨⟨_, rfl⟩, rfl⟩))
 refine ae ?_
 refine eI (yO h _) (by rintro _ ⟨n, rfl⟩; rfl) ?_
 rintro _ H1 ⟨b, rfl⟩ l1
 refine ai (fun _ => ?_) (fun _ => af ⟨⟨_, rfl⟩, rfl⟩)
 refine ae ?_
 refine eI (w8 (h.le l1) _) (by rintro _ ⟨n, rfl⟩; rfl) ?_
 rintro _ H2 ⟨n, rfl⟩ l2
 exact aa _ (ap _ _) (af ⟨⟨_, rfl⟩, rfl⟩)
theorem nG (a b c d e : Int) (H : Heap) (O : Go.Sx.Own) : Triple PP dT [.agg #[iV a, iV b, iV c, iV d, iV e]] H O fun x _ O' => (∃ b, x = .bool b) ∧ O' = O := by
 refine gP (vs := [iV a, iV b, iV c, iV d, iV e]) (by kernel_rfl) ⟨rfl, rfl, rfl, rfl, rfl, trivial⟩ ?_
 simp only [dS]
 refine aj fun r0 => ?_
 repeat' (first | exact af ⟨⟨_, rfl⟩, rfl⟩ | refine ae ?_ | refine ab ?_ | refine aj fun _ => ?_ | refine aa _ (aA _ _) ?_ | refine aa _ (bL _ _) ?_ | refine aa _ (gY _ _) ?_ | refine aa _ (hD _ _) ?_ | refine aa _ (ap _ _) ?_ | refine aa _ (ar _ _) ?_ | refine aa _ (ay _ _) ?_ | refine ai (fun _ => ?_) (fun _ => ?_) | refine aa (.int .i64 _) rfl ?_)
def uS : List Bool → Option Bool
 | [] => some true
 | b :: r => match some b with | some true => uS r | some false => some false | none => none
theorem mt : ∀ l : List Bool, uS l = some (l.all id)
 | [] => rfl
 | true :: r => by simp [uS, mt r]
 | false :: r => by simp [uS]
theorem By (a b c d e : Int) : AT PP (.eqv .eql qe false) [.agg #[iV a, iV b, iV c, iV d, iV e], .agg #[iV 0, iV 0, iV 0, iV 0, iV 0]] = some (.bool ([a == 0, b == 0, c == 0, d == 0, e == 0].all id)) := by
 have e : AT PP (.eqv .eql qe false) [.agg #[iV a, iV b, iV c, iV d, iV e], .agg #[iV 0, iV 0, iV 0, iV 0, iV 0]] = (match uS [a == 0, b == 0, c == 0, d == 0] with | some true => uS [e == 0] | some false => some false | none => none : Option Bool).map fun b => .bool b := by kernel_rfl
 rw [e, mt, mt]
 cases a == 0 <;> cases b == 0 <;> cases c == 0 <;> cases d == 0 <;> rfl
theorem tC (a b : Int) : ah (.bin .eql .int) [.int .u8 a, .int .u8 b] = some (.bool (a == b)) := by simp [ah, bD, bC]
theorem zQ (l : List UInt8) (H : Heap) (O : Go.Sx.Own) : Triple PP fD [Str l] H O fun x _ O' => (∃ b, x = .bool b) ∧ O' = O := by
 refine jL (vs := [Str l]) (by kernel_rfl) ⟨rfl, trivial⟩ ?_
 simp only [fo]
 refine aa _ (cK l) ?_
 refine aa _ (aA _ _) ?_
 refine ab ?_
 refine aa _ (cK l) ?_
 refine ab ?_
 refine aa _ (bL _ _) ?_
 refine ab ?_
 refine aa _ (ay _ _) ?_
 by_cases hz : l.length = 0
 ·obtain rfl : l = [] := List.eq_nil_of_length_eq_zero hz
  refine ab ?_
  refine ⟨.int .u8 0, fun hg => (by have := hg.1; simp at this), .inr rfl, ?_⟩
  refine ab ?_
  refine aa _ (tC _ _) ?_
  refine ab ?_
  refine aa _ (ay _ _) ?_
  refine ab ?_
  refine aa _ (cK _) ?_
  refine ab ?_
  refine aa (.int .i64 _) rfl ?_
  refine ab (ab ?_)
  refine ⟨.int .u8 0, fun hg => (by have := hg.1; simp at this), .inr rfl, ?_⟩
  refine ab ?_
  refine aa _ (tC _ _) ?_
  refine ab ?_
  refine aa _ (ay _ _) (ai (fun _ => af ⟨⟨_, rfl⟩, rfl⟩) (fun hd => by cases hd))
 refine ab ?_
 refine ⟨.int .u8 (l[0]'(by omega)).toNat, fun _ => lE l 0 (by omega), .inr rfl, ?_⟩
 refine ab ?_
 refine aa _ (tC _ _) ?_
 refine ab ?_
 refine aa _ (ay _ _) ?_
 refine ab ?_
 refine aa _ (cK _) ?_
 by_cases hB : 32 < l.length
 ·refine ab ?_
  refine aa (.int .i64 _) rfl ?_
  have hb : decide ((l.length : Int) > 32) = true := decide_eq_true (by omega)
  have hb2 : decide ((l.length : Int) < 1) = false := decide_eq_false (by omega)
  refine ab (ab ?_)
  refine ⟨.int .u8 0, fun hg => ?_, .inr rfl, ?_⟩
  ·exfalso
   have := hg.1
   simp only [hb, hb2] at this
   cases this
  refine ab ?_
  refine aa _ (tC _ _) ?_
  refine ab ?_
  refine aa _ (ay _ _) (ai (fun _ => af ⟨⟨_, rfl⟩, rfl⟩) (fun hd => ?_))
  exfalso
  simp only [hb, hb2] at hd
  cases hd
 refine ab ?_
 refine aa (iV ((l.length - 1 : Nat) : Int)) ?_ ?_
 ·have : IntKind.i64.wrap ((l.length : Int) - 1) = ((l.length - 1 : Nat) : Int) := by rw [jT (by omega) (by omega)]; omega
  show some (iV (IntKind.i64.wrap ((l.length : Int) - 1))) = _
  rw [this]
 refine ab (ab ?_)
 refine ⟨.int .u8 (l[l.length - 1]'(by omega)).toNat, fun _ => lE l (l.length - 1) (by omega), .inr rfl, ?_⟩
 refine ab ?_
 refine aa _ (tC _ _) ?_
 refine ab ?_
 refine aa _ (ay _ _) (ai (fun _ => af ⟨⟨_, rfl⟩, rfl⟩) (fun _ => ?_))
 refine aI l.length (fun i H' O' => O' = O ∧ Heap.le H H') ⟨rfl, Heap.le_refl H⟩ ?_
 rintro i H' O' hi - ⟨rfl, hle⟩
 refine aa _ (cK l) ?_
 refine aa _ (aA _ _) (ai (fun hb => ?_) (fun hb => ?_))
 ·have hlt : i < l.length := by simpa using hb
  refine aa _ (lE l i hlt) ?_
  refine aa _ (Ar _ _) ?_
  refine ab (ab ?_)
  refine ⟨.int .u8 l[i].toNat, fun _ => lE l i hlt, .inr rfl, ?_⟩
  refine ab ?_
  refine aa _ (AA _ _) ?_
  refine ab ?_
  refine aa _ (ay _ _) (ai (fun _ => af ⟨⟨_, rfl⟩, rfl⟩) (fun _ => ?_))
  exact aa _ (av (by omega)) (aw (by simp [Eqs, E]) hlt ⟨rfl, hle⟩)
 ·exact af ⟨⟨_, rfl⟩, rfl⟩
theorem vx {P : Program} {gd : Gd} {op : PrimOp} {args : List Value} {k : Value → Tree} {H : Heap} {O : Go.Sx.Own} {Q : Value → Heap → Go.Sx.Own → Prop} {v : Value} (h : AT P op args = some v) (hk : (k v).den P Q H O) :
  (Tree.raw gd op args k).den P Q H O := ⟨v, fun _ w => (vy h w).1, (vy h default).2, hk⟩
theorem ve {H : Heap} (O : Go.Sx.Own) {v : Value} {l : List (Int × List Eff)} (h : TrsF H v l) {i : Nat} (hi : i < l.length) :
  ∃ a s, ah (.idx 2) [v, iV i] = some (.pointer (some a)) ∧ Reads H O (.pointer (some a)) 2 [iV l[i].1, s] ∧ Reads H O (.pointer (some a)) 1 [iV l[i].1] ∧ Sl H 5 s (bV l[i].2) := by
 obtain ⟨rows, hs, hlen, hr⟩ := h
 have hlt : i < rows.length := by omega
 obtain ⟨s, e, hse⟩ := hr i rows[i] l[i] (by simp [hlt]) (by simp [hi])
 obtain ⟨a, k1, k2, k3, _, _⟩ := (hs.rsl O).idx .i64 i rows[i] (by simp [hlt])
 rw [e] at k2 k3
 have := k3 0 1 (by omega)
 rw [CL] at this
 exact ⟨a, s, k1, k2, this, hse⟩
theorem ldG {P : Program} {gd : Gd} {p : Value} {m : Nat} {k : List Value → Tree} {H : Heap} {O : Go.Sx.Own} {Q : Value → Heap → Go.Sx.Own → Prop} (vs : List Value) (hl : vs.length = m) (ho : Ones vs) (h : On gd → Reads H O p m vs) (hk : (k vs).den P Q H O) : (Tree.load gd p m k).den P Q H O := ⟨vs, hl, ho, h, hk⟩
theorem Ai {H : Heap} {c : CdF} {es ts : Value} (k : Bool) {n r0 : Nat} {b : Bool} (he : Sl H 5 es (bV c.effs)) (ht : TrsF H ts c.trs) :
  (bF (.bool k) n r0 (mw c es ts) (.bool b)).den PP (fun x _ O' => (∃ b, x = .bool b) ∧ O' = []) H [] := by
 obtain ⟨e1, e2⟩ := fe he
 simp only [bF]
 refine ai (fun _ => ?_) (fun _ => af ⟨⟨_, rfl⟩, rfl⟩)
 refine aI c.effs.length (fun i H' O' => O' = [] ∧ Heap.le H H') ⟨rfl, Heap.le_refl _⟩ ?_
 rintro i H1 _ hi - ⟨rfl, l1⟩
 refine ae ?_
 refine aa _ e1 ?_
 refine aa _ (aA _ _) (ai (fun hb => ?_) (fun hb => ?_))
 ·have hlt : i < c.effs.length := by simpa using hb
  obtain ⟨a, h1, h2, _, h3, h4⟩ := ((he.le l1).rsl []).idx .i64 i _ (fX hlt)
  refine ae ?_
  refine aa _ h1 (ao h2 h3 h4 (aj fun r1 => ?_))
  refine ae (ae (aa _ (ap _ _) (ae (ab (ab (aa _ (ap _ _) (ab (ae (ab (ab (ab (ab (aa _ (ap _ _) (ab (ab (ab (aa _ (ay _ _) (ab (aa _ (ar _ _) ?_)))))))))))))))))))
  refine ai (fun _ => af ⟨⟨_, rfl⟩, rfl⟩) (fun _ => ?_)
  exact aa _ (av (by omega)) (aw (by simp [Eqs, E]) hlt ⟨rfl, l1⟩)
 ·refine ae (aa _ (ap _ _) ?_)
  refine ai (fun _ => ?_) (fun _ => af ⟨⟨_, rfl⟩, rfl⟩)
  refine ae ?_
  refine cX (nG c.c0 c.c1 c.c2 c.c3 c.any _ _) (by rintro _ ⟨n, rfl⟩; rfl) ?_
  rintro _ H2 ⟨b2, rfl⟩ l2
  have he2 := he.le (Heap.le_trans l1 l2)
  refine ae (ab (ab ?_))
  refine aa _ e1 ?_
  refine ab (aa _ (aA _ _) (ab (aa _ (ar _ _) ?_)))
  refine ai (fun _ => ?_) (fun _ => af ⟨⟨_, rfl⟩, rfl⟩)
  refine ae ?_
  refine cX (yO he2 _) (by rintro _ ⟨n, rfl⟩; rfl) ?_
  rintro _ H3 ⟨b3, rfl⟩ l3
  refine ab (aa _ (ar _ _) ?_)
  exact af ⟨⟨_, rfl⟩, rfl⟩
theorem AW {H : Heap} {r : List Value} {c : CdF} (h : CdRF H r c) : Triple PP fC [.agg r.toArray] H [] fun x _ O' => (∃ b, x = .bool b) ∧ O' = [] := by
 obtain ⟨es, ts, rfl, he, ht⟩ := h
 refine jK (vs := mw c es ts) (by kernel_rfl) (kA he.one ht.len.2.1) ?_
 simp only [fm]
 refine aj fun r0 => ?_
 refine ae ?_
 refine cX (zQ c.nm _ _) (by rintro _ ⟨n, rfl⟩; rfl) ?_
 rintro _ H1 ⟨b1, rfl⟩ l1
 refine aa _ (az _) (ae (ab (ab (aa _ (aA _ _) (ab (aa _ (ay _ _) (ae (ab (ab (aa _ (aA _ _) (ab (aa _ (ay _ _) ?_))))))))))))
 refine ai (fun _ => af ⟨⟨_, rfl⟩, rfl⟩) (fun _ => ?_)
 have he1 := he.le l1
 have ht1 := ht.le l1
 obtain ⟨e1, e2⟩ := fe he1
 refine ae (aa _ (ap _ _) (ae (ab (ab (aa _ (ap _ _) (ab (aa _ (ar _ _) (ae (ab (ab (aa _ (ap _ _) (ab (aa _ (ar _ _) (ae (ab (ab ?_))))))))))))))))
 refine aa _ ht1.len.1 ?_
 refine ab (aa _ (ap _ _) (ab (aa _ (ar _ _) (ae (aa _ (ap _ _) ?_)))))
 refine ai (fun _ => ?_) (fun _ => ?_)
 ·refine ae (aa _ (gY _ _) (ae (ab (ab (aa _ (gY _ _) (ab (aa _ (ar _ _) (ae (ab (ab ?_))))))))))
  refine aa _ e1 ?_
  refine ab (aa _ (ap _ _) (ab (aa _ (ar _ _) (ab (aa _ (ar _ _) (ae (ab (ab (ab ?_)))))))))
  refine vx (By c.c0 c.c1 c.c2 c.c3 c.any) ?_
  refine ab (aa _ (ar _ _) ?_)
  exact af ⟨⟨_, rfl⟩, rfl⟩
 refine aa _ (ap _ _) ?_
 refine ai (fun _ => ?_) (fun _ => ?_)
 ·refine ae (aa _ (dY _ _) ?_)
  refine ai (fun _ => af ⟨⟨_, rfl⟩, rfl⟩) (fun _ => ?_)
  refine ae ?_
  refine cX (nG c.c0 c.c1 c.c2 c.c3 c.any _ _) (by rintro _ ⟨n, rfl⟩; rfl) ?_
  rintro _ H2 ⟨b2, rfl⟩ l2
  repeat (first | refine ae ?_ | refine ab ?_ | refine aj fun _ => ?_ | refine aa _ (aA _ _) ?_ | refine aa _ (bL _ _) ?_ | refine aa _ (gY _ _) ?_ | refine aa _ (hD _ _) ?_ | refine aa _ (ap _ _) ?_ | refine aa _ (dY _ _) ?_ | refine aa _ (ar _ _) ?_ | refine aa _ (ay _ _) ?_ | refine aa _ (az _) ?_ | refine aa _ (Cc _ _) ?_ | refine aa _ (BZ _ _) ?_)
  refine ai (fun _ => af ⟨⟨_, rfl⟩, rfl⟩) (fun _ => ?_)
  refine ae ?_
  refine cX (yO (he1.le l2) _) (by rintro _ ⟨n, rfl⟩; rfl) ?_
  rintro _ H3 ⟨b3, rfl⟩ l3
  have ht3 := ht1.le (Heap.le_trans l2 l3)
  refine aa _ (az _) (ae (ab (ab ?_)))
  refine aa _ ht3.len.1 ?_
  refine ab (aa _ (aA _ _) (ab (aa _ (ay _ _) ?_)))
  refine ai (fun _ => af ⟨⟨_, rfl⟩, rfl⟩) (fun _ => ?_)
  have hB := ht3.len.2.2
  refine aI c.trs.length (fun i H' O' => O' = [] ∧ Heap.le H3 H') ⟨rfl, Heap.le_refl _⟩ ?_
  rintro i H4 _ hi - ⟨rfl, l4⟩
  have ht4 := ht3.le l4
  refine ae ?_
  refine aa _ ht4.len.1 ?_
  refine aa _ (aA _ _) (ai (fun hb => ?_) (fun hb => af ⟨⟨_, rfl⟩, rfl⟩))
  have hlt : i < c.trs.length := by simpa using hb
  obtain ⟨a, s, k1, k2, _, k4⟩ := ve [] ht4 hlt
  refine ae ?_
  refine aa _ k1 (ao k2 rfl ⟨rfl, k4.one, trivial⟩ ?_)
  refine cX (wZ (t := c.trs[i]) k4 _) (by rintro _ ⟨n, rfl⟩; rfl) ?_
  rintro _ H5 ⟨b5, rfl⟩ l5
  have ht5 := ht4.le l5
  refine aa _ (az _) ?_
  refine ab ?_
  refine aa _ (ap _ _) ?_
  refine ab (ae (ab (ab (ab (ab ?_)))))
  have g0 : 0 < c.trs.length := by omega
  obtain ⟨a0, s0, q1, _, q3, _⟩ := ve [] ht5 g0
  by_cases g1 : 1 < c.trs.length
  ·obtain ⟨a1, s1, p1, _, p3, _⟩ := ve [] ht5 g1
   refine ⟨_, fun _ => q1, .inr rfl, ?_⟩
   refine au rfl (ab (ab (ab (ab ?_))))
   refine ldG [iV c.trs[0].1] rfl ⟨rfl, trivial⟩ (fun _ => q3) ?_
   refine ae (ab (ab (ab (ab ?_))))
   refine ⟨_, fun _ => p1, .inr rfl, ?_⟩
   refine au rfl (ab (ab (ab (ab ?_))))
   refine ldG [iV c.trs[1].1] rfl ⟨rfl, trivial⟩ (fun _ => p3) ?_
   refine ab (ab (ab (ab (aa _ (ap _ _) (ab (ab (ab (aa _ (ar _ _) (ab (aa _ (ay _ _) ?_))))))))))
   refine ai (fun _ => af ⟨⟨_, rfl⟩, rfl⟩) (fun _ => ?_)
   exact aa _ (av (by omega)) (aw (by simp [Eqs, E]) hlt ⟨rfl, Heap.le_trans l4 l5⟩)
  ·have hi0 : i = 0 := by omega
   have ng : ∀ {X : Gd} {p : Prop}, On ((.bool ((i : Int) == 1), true) :: X) → p := fun h => by
    have := h.1
    rw [hi0] at this
    simp at this
   refine ⟨_, fun _ => q1, .inr rfl, ?_⟩
   refine au rfl (ab (ab (ab (ab ?_))))
   refine ldG [iV c.trs[0].1] rfl ⟨rfl, trivial⟩ (fun _ => q3) ?_
   refine ae (ab (ab (ab (ab ?_))))
   refine ⟨.pointer (some a0), fun h => ng h, .inr rfl, ?_⟩
   refine au rfl (ab (ab (ab (ab ?_))))
   refine ldG [iV 0] rfl ⟨rfl, trivial⟩ (fun h => ng h) ?_
   refine ab (ab (ab (ab (aa _ (ap _ _) (ab (ab (ab (aa _ (ar _ _) (ab (aa _ (ay _ _) ?_))))))))))
   refine ai (fun _ => af ⟨⟨_, rfl⟩, rfl⟩) (fun _ => ?_)
   exact aa _ (av (by omega)) (aw (by simp [Eqs, E]) hlt ⟨rfl, Heap.le_trans l4 l5⟩)
 refine aa _ (ap _ _) ?_
 refine ai (fun _ => ?_) (fun _ => ?_)
 ·exact Ai _ he1 ht1
 refine aa _ (ap _ _) ?_
 exact Ai _ he1 ht1
theorem AV {H : Heap} {cv : Value} {cs : List CdF} (h : CardsF H cv cs) : Triple PP fB [cv] H [] fun x _ O' => (∃ n, x = iV n) ∧ O' = [] := by
 refine jJ (vs := [cv]) (by kernel_rfl) ⟨h.one, trivial⟩ ?_
 simp only [fk]
 have hB := h.lenB
 refine aa _ h.len ?_
 refine aa _ (bL _ _) (ai (fun _ => af ⟨⟨_, rfl⟩, rfl⟩) (fun _ => ?_))
 refine aI cs.length (fun i H' O' => O' = [] ∧ Heap.le H H') ⟨rfl, Heap.le_refl _⟩ ?_
 rintro i H1 _ hi - ⟨rfl, l1⟩
 refine aa _ h.len ?_
 refine aa _ (aA _ _) (ai (fun hb => ?_) (fun _ => ?_))
 ·have hlt : i < cs.length := by simpa using hb
  obtain ⟨a, row, k1, k2, _, k4, k5, k6⟩ := kC [] (h.le l1) hlt
  refine aa _ k1 (ao k2 k4 k5 ?_)
  rw [show (ag (G14 row 0) : Value) = .agg row.toArray from Ci k4]
  refine cX (AW k6) (by rintro _ ⟨n, rfl⟩; rfl) ?_
  rintro _ H2 ⟨b, rfl⟩ l2
  refine aa _ (az _) (ai (fun _ => af ⟨⟨_, rfl⟩, rfl⟩) (fun _ => ?_))
  exact aa _ (av (by omega)) (aw (by simp [Eqs, E]) hlt ⟨rfl, Heap.le_trans l1 l2⟩)
 have h1 := h.le l1
 refine aI cs.length (fun i H' O' => O' = [] ∧ Heap.le H1 H') ⟨rfl, Heap.le_refl _⟩ ?_
 rintro i H2 _ hi - ⟨rfl, l2⟩
 refine aa _ h.len ?_
 refine aa _ (aA _ _) (ai (fun hb => ?_) (fun _ => af ⟨⟨_, rfl⟩, rfl⟩))
 have hlt : i < cs.length := by simpa using hb
 obtain ⟨a, row, k1, k2, k3, k4, k5, k6⟩ := kC [] (h1.le l2) hlt
 have q0 : Reads H2 [] (.pointer (some a)) 1 [Str cs[i].nm] := by
  have := k3 0 1 (by omega)
  rw [CL] at this
  obtain ⟨es, ts, rfl, _⟩ := k6
  exact this
 refine aa _ k1 ?_
 refine au rfl ?_
 refine ao q0 rfl ⟨rfl, trivial⟩ ?_
 have hf := Aj (h1.le l2) cs[i].nm []
 have hfs : ∃ (x : Int) (b : Bool), uL cs cs[i].nm = .tuple #[iV x, .bool b] := by
  rw [uL]; cases eP cs cs[i].nm with
  | none => exact ⟨_, _, rfl⟩
  | some j => exact ⟨_, _, rfl⟩
 obtain ⟨x, b, e⟩ := hfs
 rw [e] at hf
 refine ak hf rfl (vs := [iV x, .bool b]) ⟨rfl, rfl, trivial⟩ fun H3 l3 => ?_
 refine aa _ (aA _ _) (ai (fun _ => af ⟨⟨_, rfl⟩, rfl⟩) (fun _ => ?_))
 exact aa _ (av (by omega)) (aw (by simp [Eqs, E]) hlt ⟨rfl, Heap.le_trans l2 l3⟩)
def lightC (c : CdF) : Prop := c.nm.length ≤ 100 ∧ c.effs.length ≤ 10 ∧ c.trs.length ≤ 5 ∧ ∀ t ∈ c.trs, t.2.length ≤ 10
theorem lightC.lit {c : CdF} (h : lightC c) : zA c := ⟨by have := h.2.1; omega, by have := h.2.2.1; omega, fun t ht => by have := h.2.2.2 t ht; omega⟩
def okN (c : CdF) : Prop := ke c.nm = true ∧ 1 ≤ c.kind ∧ c.kind ≤ 4
def PoolK (H : Heap) (p : Value) (cs : List CdF) : Prop := PoolF H p cs ∧ ∀ c ∈ cs, okN c
theorem PoolK.le {H H' : Heap} {p : Value} {cs : List CdF} (h : PoolK H p cs) (hl : Heap.le H H') : PoolK H' p cs := ⟨h.1.le hl, h.2⟩
theorem xp {H : Heap} {cs : List CdF} : yY H cs fun i b => ∀ hi : i < cs.length, EO cs[i] b := fun i hi H' r hl hr hc => (BL hc).mono fun x _ _ _ ⟨⟨b, e, hb⟩, ho⟩ => ⟨⟨b, e, fun _ => hb⟩, ho⟩
theorem AG {H : Heap} {cv : Value} {cs : List CdF} (h : CardsF H cv cs) (hlit : ∀ c ∈ cs, zA c) : Triple PP iQ [cv] H [] fun r H' O' =>
  ((∃ p, r = .tuple #[p, iV 0] ∧ PoolK H' p cs) ∨ (∃ e, r = .tuple #[.pointer none, iV e] ∧ e ≠ 0 ∧ (400 < cs.length ∨ (∃ i, ∃ hi : i < cs.length, EO cs[i] false) ∨ ¬ (cs.map (·.nm)).Nodup))) ∧ O' = [] := by
 refine (EK h hlit xp).mono ?_
 rintro r H' O' - ⟨⟨p, e, hp, hv⟩ | ⟨e, h1, h2, h3⟩, ho⟩
 ·refine ⟨.inl ⟨p, e, hp, fun c hc => ?_⟩, ho⟩
  obtain ⟨j, hj, rfl⟩ := List.mem_iff_getElem.1 hc
  exact (hv j hj hj).1 rfl
 ·refine ⟨.inr ⟨e, h1, h2, ?_⟩, ho⟩
  rcases h3 with h3 | ⟨i, hi, h3⟩ | h3
  ·exact .inl h3
  ·exact .inr (.inl ⟨i, hi, h3 hi⟩)
  ·exact .inr (.inr h3)
def DU (cs : List CdF) (r : Value) (H' : Heap) (O' : Go.Sx.Own) : Prop := ((∃ p, r = .tuple #[p, .bool true] ∧ PoolK H' p cs ∧ cs.length ≤ 20) ∨ (∃ p, r = .tuple #[p, .bool false] ∧ p.oneCell' = true)) ∧ O' = []
theorem ru {cs : List CdF} {H : Heap} : DU cs (.tuple #[.pointer none, .bool false]) H [] := ⟨.inr ⟨_, rfl, rfl⟩, rfl⟩
theorem Do {H : Heap} {cv : Value} {cs : List CdF} (h : CardsF H cv cs) : Triple PP gK [cv] H [] (DU cs) := by
 refine j6 (vs := [cv]) (by kernel_rfl) ⟨h.one, trivial⟩ ?_
 simp only [gz]
 have hB := h.lenB
 refine aa _ h.len ?_
 refine aa _ (bL _ _) (ai (fun _ => af ru) (fun hd => ?_))
 have h20 : cs.length ≤ 20 := by have := of_decide_eq_false hd; omega
 refine aa _ h.len ?_
 refine aI cs.length (fun i H' O' => O' = [] ∧ Heap.le H H' ∧ ∀ (j : Nat) (hj : j < cs.length), j < i → lightC cs[j]) ⟨rfl, Heap.le_refl _, fun j _ hj => by omega⟩ ?_
 rintro i H1 _ hi - ⟨rfl, l1, hL⟩
 refine aa _ (aA _ _) (ai (fun hb => ?_) (fun hb => ?_))
 ·have hlt : i < cs.length := by simpa using hb
  obtain ⟨a, row, k1, k2, _, k4, k5, k6⟩ := kC [] (h.le l1) hlt
  obtain ⟨es, ts, rfl, he, ht⟩ := k6
  obtain ⟨e1, e2⟩ := fe he
  refine aa _ k1 (ao k2 k4 k5 (aj fun r0 => ?_))
  refine ae (ae ?_)
  refine aa _ (cK _) ?_
  refine aa _ (bL _ _) ?_
  refine ae (ab (ab ?_))
  refine aa _ e1 ?_
  refine ab ?_
  refine aa _ (bL _ _) ?_
  refine ab ?_
  refine aa _ (ay _ _) ?_
  refine ae (ab (ab ?_))
  refine aa _ ht.len.1 ?_
  refine ab ?_
  refine aa _ (bL _ _) ?_
  refine ab ?_
  refine aa _ (ay _ _) (ai (fun _ => af ru) (fun hd => ?_))
  simp only [Bool.or_eq_false_iff, decide_eq_false_iff_not] at hd
  refine ae ?_
  refine aa _ ht.len.1 ?_
  have hB2 := ht.len.2.2
  refine aI cs[i].trs.length (fun k H' O' => O' = [] ∧ Heap.le H1 H' ∧ ∀ (j : Nat) (hj : j < cs[i].trs.length), j < k → (cs[i].trs[j]).2.length ≤ 10) ⟨rfl, Heap.le_refl _, fun j _ hj => by omega⟩ ?_
  rintro k H2 _ hk - ⟨rfl, l2, hT⟩
  refine aa _ (aA _ _) (ai (fun hb => ?_) (fun hb => ?_))
  ·have hlt2 : k < cs[i].trs.length := by simpa using hb
   obtain ⟨a2, s, q1, q2, _, q4⟩ := ve [] (ht.le l2) hlt2
   obtain ⟨f1, f2⟩ := fe q4
   refine aa _ q1 (ao q2 rfl ⟨rfl, q4.one, trivial⟩ (aj fun r1 => ?_))
   refine ae (ae ?_)
   refine aa _ f1 ?_
   refine aa _ (bL _ _) (ai (fun _ => af ru) (fun hd3 => ?_))
   refine aa _ (av (by omega)) (aw (by simp [Eqs, E]) hlt2 ⟨rfl, l2, fun j hj hjk => ?_⟩)
   rcases Nat.lt_succ_iff_lt_or_eq.1 hjk with hjk | rfl
   ·exact hT j hj hjk
   ·have := of_decide_eq_false hd3; omega
  ·have hge : cs[i].trs.length ≤ k := by simpa using hb
   refine aa _ (av (by omega)) (aw (by simp [Eqs, E]) hlt ⟨rfl, Heap.le_trans l1 l2, fun j hj hji => ?_⟩)
   rcases Nat.lt_succ_iff_lt_or_eq.1 hji with hji | rfl
   ·exact hL j hj hji
   ·refine ⟨by omega, by omega, by omega, fun t htm => ?_⟩
    obtain ⟨m, hm, rfl⟩ := List.mem_iff_getElem.1 htm
    exact hT m hm (by omega)
 ·have hge : cs.length ≤ i := by simpa using hb
  have hlit : ∀ c ∈ cs, zA c := fun c hc => by
   obtain ⟨j, hj, rfl⟩ := List.mem_iff_getElem.1 hc
   exact (hL j hj (by omega)).lit
  refine cX (AV (h.le l1)) (by rintro _ ⟨n, rfl⟩; rfl) ?_
  rintro _ H2 ⟨n, rfl⟩ l2
  refine aa _ (dY _ _) (ai (fun _ => af ru) (fun _ => ?_))
  refine bh (AG (h.le (Heap.le_trans l1 l2)) hlit) ?_
  rintro _ H3 _ ⟨⟨p, rfl, hp⟩ | ⟨e, rfl, he, _⟩, rfl⟩ l3
  ·refine ⟨[p, iV 0], rfl, ⟨hp.1.one, rfl, trivial⟩, ?_⟩
   exact aa _ (ap _ _) (af ⟨.inl ⟨p, rfl, hp, h20⟩, rfl⟩)
  ·refine ⟨[.pointer none, iV e], rfl, ⟨rfl, rfl, trivial⟩, ?_⟩
   refine aa _ (ap _ _) (af ⟨.inr ⟨.pointer none, ?_, rfl⟩, rfl⟩)
   have : (e == 0) = false := by simpa using he
   show Value.tuple #[.pointer none, .bool (e == 0)] = _
   rw [this]
theorem um {H : Heap} {r size : Nat} {rows : List (List Value)} {T : TypeId} {n : Nat} (hn : n = rows.length) (h : H r = some (.cells rows.flatten.toArray T (0, 0))) (hl : ∀ row ∈ rows, row.length = size) (ho : ∀ row ∈ rows, Ones row) (hb : rows.length < 2 ^ 63) :
  Sl H size (.slice (some ⟨r, 0, none⟩) n n) rows := by
 subst hn
 refine ⟨_, _, rfl, Nat.le_refl _, hb, fun _ => ⟨_, rfl, fun i row hr => ?_⟩⟩
 have hlt : i < rows.length := (List.getElem?_eq_some_iff.1 hr).1
 have hmul : (i + 1) * size ≤ rows.length * size := Nat.mul_le_mul_right _ hlt
 rw [Nat.add_mul, Nat.one_mul] at hmul
 have hfl := aH hl
 refine ⟨?_, hl row (List.mem_of_getElem? hr), ho row (List.mem_of_getElem? hr)⟩
 rw [bu, Nat.zero_add, fW h (by omega), ct hl hr]
def gW : CdF := ⟨[87, 101, 108, 108], 1, 0, 0, 0, 0, 0, 1, 0, 0, 0, [], [], 1⟩
def gJ : CdF := ⟨[74, 111, 108, 116], 4, 1, 0, 0, 0, 0, 0, 0, 0, 0, [⟨1, 5, 3, 0, 0⟩], [], 1⟩
def gF : CdF := ⟨[70, 105, 114, 101], 1, 0, 0, 0, 0, 0, 0, 0, 0, 0, [], [], 1⟩
def aK : List CdF := [gW, gJ, gF]
theorem ug (H : Heap) : TrsF H (.slice none 0 0) [] := ⟨[], Sl.nil _ _, rfl, fun i r t a => by simp at a⟩
theorem BI (H : Heap) : Triple PP fG [] H [] fun x H' O' => CardsF H' x aK ∧ O' = [] := by
 refine jP (vs := []) (by kernel_rfl) trivial ?_
 simp only [fw]
 refine aj fun r0 => aj fun r1 => ?_
 refine xM fun H' l hf => ⟨?_, rfl⟩
 have h1 := hf _ List.mem_cons_self
 have h0 := hf _ (List.mem_cons_of_mem _ List.mem_cons_self)
 have he : Sl H' 5 (.slice (some ⟨r0, 0, none⟩) 1 1) (bV gJ.effs) := Sl.block1 (row := (⟨1, 5, 3, 0, 0⟩ : Eff).row) h0 rfl (im _)
 have hn : (Value.slice none 0 0).oneCell' = true := rfl
 refine ⟨[mw gW (.slice none 0 0) (.slice none 0 0), mw gJ (.slice (some ⟨r0, 0, none⟩) 1 1) (.slice none 0 0), mw gF (.slice none 0 0) (.slice none 0 0)], um rfl h1 ?_ ?_ (by simp), rfl, ?_⟩
 ·intro row hr
  simp only [List.mem_cons, List.not_mem_nil, or_false] at hr
  rcases hr with rfl | rfl | rfl <;> rfl
 ·intro row hr
  simp only [List.mem_cons, List.not_mem_nil, or_false] at hr
  rcases hr with rfl | rfl | rfl
  ·exact kA rfl rfl
  ·exact kA rfl rfl
  ·exact kA rfl rfl
 ·intro i r c a b
  match i with
  | 0 => simp [aK] at a b; subst a; subst b; exact ⟨_, _, rfl, Sl.nil _ _, ug _⟩
  | 1 => simp [aK] at a b; subst a; subst b; exact ⟨_, _, rfl, he, ug _⟩
  | 2 => simp [aK] at a b; subst a; subst b; exact ⟨_, _, rfl, Sl.nil _ _, ug _⟩
  | n + 3 => simp at a
theorem yB : ∀ c ∈ aK, zA c := by
 intro c hc
 simp only [aK, List.mem_cons, List.not_mem_nil, or_false] at hc
 rcases hc with rfl | rfl | rfl <;> exact ⟨by decide, by decide, fun t ht => by cases ht⟩
theorem wP : ∀ c ∈ aK, yA c := by
 intro c hc
 simp only [aK, List.mem_cons, List.not_mem_nil, or_false] at hc
 rcases hc with rfl | rfl | rfl
 ·exact ⟨by decide, by decide, by decide, by decide, by decide, .inl ⟨rfl, by decide, rfl, rfl, rfl, rfl, rfl, rfl⟩⟩
 ·exact ⟨by decide, by decide, by decide, by decide, by decide, .inr ⟨.inr rfl, rfl, by decide, by decide⟩⟩
 ·exact ⟨by decide, by decide, by decide, by decide, by decide, .inl ⟨rfl, by decide, rfl, rfl, rfl, rfl, rfl, rfl⟩⟩
theorem Ds {H : Heap} {cv : Value} (h : CardsF H cv aK) : Triple PP iQ [cv] H [] fun r H' O' => (∃ p, r = .tuple #[p, iV 0] ∧ PoolK H' p aK) ∧ O' = [] := by
 refine (AG h yB).mono ?_
 rintro r H' O' - ⟨h | ⟨e, _, _, h⟩, ho⟩
 ·exact ⟨h, ho⟩
 ·exfalso
  rcases h with h | ⟨i, hi, h⟩ | h
  ·simp [aK] at h
  ·have := h.2 (wP _ (List.getElem_mem hi))
   cases this
  ·exact h (by decide)
def qu : List Cp → Int
 | [] => 0
 | x :: l => x.n + qu l
def nt (cs : List CdF) (x : Cp) : Prop := inP cs x.card ∧ 1 ≤ x.n ∧ x.n ≤ 60 ∧ ((ip cs x.card).kind = 1 ∨ x.n ≤ 4)
def Av : Int → List Cp → Prop
 | _, [] => True
 | b, x :: l => b < x.card ∧ Av x.card l
theorem vY {cs : List CdF} : ∀ (l : List Cp) (i : Nat) (n b : Int), (ol cs l i n b).2 = 0 → (∀ x ∈ l, nt cs x) ∧ Av b l ∧ 20 ≤ n + qu l ∧ n + qu l ≤ 60 ∧ (ol cs l i n b).1 = -1
 | [], i, n, b, h => by
  rw [ol] at h ⊢
  rw [qu, Int.add_zero]
  by_cases h1 : n < 20
  ·rw [if_pos h1] at h; cases h
  rw [if_neg h1] at h ⊢
  by_cases h2 : n > 60
  ·rw [if_pos h2] at h; cases h
  rw [if_neg h2] at h ⊢
  exact ⟨fun x hx => (by cases hx), trivial, by omega, by omega, rfl⟩
 | x :: l, i, n, b, h => by
  rw [ol] at h ⊢
  by_cases hw : dP cs x b ≠ 0
  ·rw [if_pos hw] at h
   exact absurd h hw
  rw [if_neg hw] at h ⊢
  obtain ⟨w0, w1, w2, w3, w4⟩ := rj hw
  obtain ⟨h1, h2, h3, h4, h5⟩ := vY l (i + 1) (n + x.n) x.card h
  rw [qu]
  refine ⟨fun y hy => ?_, ⟨w3, h2⟩, by omega, by omega, h5⟩
  rcases List.mem_cons.1 hy with rfl | hy
  ·exact ⟨w0, w1, w2, w4⟩
  ·exact h1 y hy
def EW (cs : List CdF) (l : List Cp) : Prop := (∀ x ∈ l, nt cs x) ∧ Av (-1) l ∧ 20 ≤ qu l ∧ qu l ≤ 60
theorem AC {cs : List CdF} {l : List Cp} (h : (aE cs l).2 = 0) : EW cs l ∧ aE cs l = (-1, 0) := by
 obtain ⟨h1, h2, h3, h4, h5⟩ := vY l 0 0 (-1) h
 refine ⟨⟨h1, h2, by omega, by omega⟩, ?_⟩
 show aE cs l = (-1, 0)
 rw [← show (aE cs l).1 = -1 from h5, ← h]
def kB (cs : List CdF) (k : Int) (x : Cp) : Bool := k == 0 || (ip cs x.card).kind == k
def qK (cs : List CdF) (k : Int) : List Cp → Int
 | [] => 0
 | x :: l => (if kB cs k x = true then x.n else 0) + qK cs k l
theorem vX (cs : List CdF) (k : Int) : ∀ a b : List Cp, qK cs k (a ++ b) = qK cs k a + qK cs k b
 | [], b => by rw [List.nil_append, qK]; omega
 | x :: a, b => by rw [List.cons_append, qK, qK, vX cs k a b]; omega
theorem yL {cs : List CdF} {k : Int} {l : List Cp} {i : Nat} (hi : i < l.length) : qK cs k (l.take (i + 1)) = qK cs k (l.take i) + (if kB cs k l[i] = true then l[i].n else 0) := by
 rw [List.take_add_one, List.getElem?_eq_getElem hi, Option.toList_some, vX, qK, qK, Int.add_zero]
theorem yM {cs : List CdF} {k : Int} : ∀ {l : List Cp}, (∀ x ∈ l, nt cs x) → 0 ≤ qK cs k l ∧ qK cs k l ≤ qu l
 | [], _ => by rw [qK, qu]; omega
 | x :: l, h => by
  obtain ⟨h1, h2⟩ := yM (k := k) (l := l) fun y hy => h y (List.mem_cons_of_mem _ hy)
  obtain ⟨_, h3, _⟩ := h x List.mem_cons_self
  rw [qK, qu]
  split <;> omega
theorem AL {cs : List CdF} {l : List Cp} (h : ∀ x ∈ l, nt cs x) (i : Nat) : ∀ x ∈ l.take i, nt cs x := fun x hx => h x (List.mem_of_mem_take hx)
theorem vi : ∀ a b : List Cp, qu (a ++ b) = qu a + qu b
 | [], b => by rw [List.nil_append, qu]; omega
 | x :: a, b => by rw [List.cons_append, qu, qu, vi a b]; omega
theorem uh {cs : List CdF} : ∀ {l : List Cp}, (∀ x ∈ l, nt cs x) → 0 ≤ qu l ∧ (l.length : Int) ≤ qu l
 | [], _ => by rw [qu]; exact ⟨Int.le_refl _, Int.le_refl _⟩
 | x :: l, h => by
  obtain ⟨h1, h2⟩ := uh (l := l) fun y hy => h y (List.mem_cons_of_mem _ hy)
  obtain ⟨_, h3, _⟩ := h x List.mem_cons_self
  rw [qu, List.length_cons]
  omega
theorem xq {cs : List CdF} {l : List Cp} (h : ∀ x ∈ l, nt cs x) (i : Nat) : qu (l.take i) ≤ qu l := by
 have e := vi (l.take i) (l.drop i)
 rw [List.take_append_drop] at e
 have := (uh (l := l.drop i) fun x hx => h x (List.mem_of_mem_drop hx)).1
 omega
theorem yK {cs : List CdF} {k : Int} {l : List Cp} (h : EW cs l) (i : Nat) : 0 ≤ qK cs k (l.take i) ∧ qK cs k (l.take i) ≤ 60 := by
 obtain ⟨h1, h2⟩ := yM (k := k) (AL h.1 i)
 have := xq h.1 i
 have := h.2.2.2
 omega
def lr (cs : List CdF) (l : List Cp) (k : Int) : Int × Int := if (aE cs l).2 = 0 then (qK cs k l, 0) else (0, (aE cs l).2)
theorem BS {H : Heap} {p : Value} {cs : List CdF} (h : PoolF H p cs) {v : Value} {l : List Cp} (hl : oo H v l) (hb : l.length ≤ 1000000) (k : Int) : RetO PP nV [p, v, iV k] H [] (xj (lr cs l k)) := by
 refine qz (vs := [p, v, iV k]) (by kernel_rfl) ⟨h.one, hl.one, rfl, trivial⟩ ?_
 simp only [nL]
 obtain ⟨vlen, _⟩ := lP hl
 refine ak (sy h hl hb) rfl (vs := [iV (aE cs l).1, iV (aE cs l).2]) ⟨rfl, rfl, trivial⟩ fun H1 l1 => ?_
 refine aa _ (dY _ _) (ai (fun hd => ?_) (fun hd => ?_))
 ·have he : (aE cs l).2 ≠ 0 := by simpa using hd
  exact af ⟨by rw [lr, if_neg he]; rfl, rfl⟩
 have he : (aE cs l).2 = 0 := by simpa using hd
 have hval := (AC he).1
 have h := h.le l1
 have hl := hl.le l1
 refine aa _ vlen ?_
 refine iN l.length (fun i x H' O' => x = iV (qK cs k (l.take i)) ∧ O' = [] ∧ Heap.le H1 H') ⟨rfl, rfl, Heap.le_refl _⟩ ?_
 rintro i _ H2 _ hi - ⟨rfl, rfl, l2⟩
 refine aa _ (aA _ _) (ai (fun hlt => ?_) (fun hge => ?_))
 ·have hlt : i < l.length := by have := of_decide_eq_true hlt; omega
  obtain ⟨a, k1, k2, _, _⟩ := tD [] (hl.le l2) hlt
  have hs := yL (cs := cs) (k := k) hlt
  have hf := yK (k := k) hval i
  have hf2 := yK (k := k) hval (i + 1)
  obtain ⟨_, w1, w2, _⟩ := hval.1 _ (List.getElem_mem hlt)
  generalize l[i] = x at *
  refine aa _ k1 (ao k2 rfl ⟨rfl, rfl, trivial⟩ (aj fun r0 => ?_))
  refine ae (ae ?_)
  refine bh (sr (h.le l2) x.card) ?_
  rintro _ H3 _ ⟨⟨cells, rfl, c1, c2⟩, rfl⟩ l3
  have hk := c2.nm.2
  refine ⟨cells ++ [iV (fS cs x.card)], ot c1, mh c2.ones ⟨rfl, trivial⟩, aj fun r1 => ?_⟩
  refine ae ?_
  refine aa _ (ap _ _) ?_
  refine ae (ab (ab (ab ?_)))
  rw [show g (cells ++ [iV (fS cs x.card)]) 1 = iV (ip cs x.card).kind from (xK c1 (by omega)).trans hk]
  refine aa _ (ap _ _) ?_
  refine ab ?_
  refine aa _ (ay _ _) (ai (fun hd => ?_) (fun hd => ?_))
  ·have hd : kB cs k x = true := hd
   rw [if_pos hd] at hs
   refine ae ?_
   refine aa _ (sE (by omega) (by omega)) ?_
   refine aa _ (av (by omega)) (bT (by simp [Eqs, E]) hlt ⟨?_, rfl, Heap.le_trans l2 l3⟩)
   rw [hs]
  ·have hd : kB cs k x = false := hd
   rw [if_neg (by rw [hd]; simp), Int.add_zero] at hs
   refine aa _ (av (by omega)) (bT (by simp [Eqs, E]) hlt ⟨?_, rfl, Heap.le_trans l2 l3⟩)
   rw [hs]; rfl
 ·have hge : l.length ≤ i := by have := of_decide_eq_false hge; omega
  rw [List.take_of_length_le hge]
  exact af ⟨by rw [lr, if_pos he]; rfl, rfl⟩
theorem zT {H : Heap} {p : Value} {cs : List CdF} (h : PoolF H p cs) {v : Value} {l : List Cp} (hl : oo H v l) (hb : l.length ≤ 1000000) (i e : Int) : RetO PP di [p, v, iV i, iV e] H [] (.bool ((aE cs l).1 == i && (aE cs l).2 == e)) := by
 refine iZ (vs := [p, v, iV i, iV e]) (by kernel_rfl) ⟨h.one, hl.one, rfl, rfl, trivial⟩ ?_
 simp only [eU]
 refine ak (sy h hl hb) rfl (vs := [iV (aE cs l).1, iV (aE cs l).2]) ⟨rfl, rfl, trivial⟩ fun H1 l1 => ?_
 refine aa _ (ap _ _) (ab (ab (aa _ (ap _ _) (ab (aa _ (ar _ _) ?_)))))
 exact af ⟨rfl, rfl⟩
theorem zS {H : Heap} {p : Value} {cs : List CdF} (h : PoolF H p cs) {v : Value} {l : List Cp} (hl : oo H v l) (hb : l.length ≤ 1000000) (k i e : Int) : RetO PP dh [p, v, iV k, iV i, iV e] H [] (.bool ((lr cs l k).1 == i && (lr cs l k).2 == e)) := by
 refine iY (vs := [p, v, iV k, iV i, iV e]) (by kernel_rfl) ⟨h.one, hl.one, rfl, rfl, rfl, trivial⟩ ?_
 simp only [eT]
 refine ak (BS h hl hb k) rfl (vs := [iV (lr cs l k).1, iV (lr cs l k).2]) ⟨rfl, rfl, trivial⟩ fun H1 l1 => ?_
 refine aa _ (ap _ _) (ab (ab (aa _ (ap _ _) (ab (aa _ (ar _ _) ?_)))))
 exact af ⟨rfl, rfl⟩
end Go.Proofs.YtamgiojcbdbokaaGreatDoor
