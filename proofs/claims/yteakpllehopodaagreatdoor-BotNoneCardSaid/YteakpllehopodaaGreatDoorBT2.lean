/- The trees of the functions of this seat: printed by a tool of mine; each by the kernel's reckoning equal to the evaluator's. -/
import Derived.Test.YteakpllehopodaaGreatDoorBT1
namespace Go.Proofs.YteakpllehopodaaGreatDoor
open Go Go.Sx
set_option maxRecDepth 100000
abbrev rU:FuncId:=34
def rB (v:List Value):Tree :=
 .newbox fun r0 =>
 .newbox fun r1 =>
 kN r0<|
 kN r1<|
 c1 83 [g v 2,.agg #[g v 3,g v 4,g v 5]] fun l0 =>
 .ret (g l0 0) []
theorem xM:aS rU Tryz.f34 rB:=aU Tryz.func34 [(25,[5,6,7,8])] [] [] fun _=>by kernel_rfl
abbrev nh:FuncId:=36
def mS (v:List Value):Tree :=
 pE (g v 1) (iv 2) fun v0 =>
 .br v0 (
 kP (g v 0)<|
 kP (g v 0)<|
 kP (an (g v 0) 7)<|
 .load [] (an (an (g v 0) 7) 35) 1 fun l1 =>
 c1 84 [g l1 0,.bool false] fun l2 =>
 kP (g v 0)<|
 kP (g v 0)<|
 kP (an (g v 0) 7)<|
 kP (an (an (g v 0) 7) 35)<|
 .store (an (an (g v 0) 7) 35) [g l2 0]<|
 .ret (.tuple #[]) []) (
 pE (g v 1) (iv 5) fun v3 =>
 .br v3 (
 cS 85 [g v 0] (.tup []) fun l4 =>
 .ret (.tuple #[]) []) (
 pE (g v 1) (iv 6) fun v5 =>
 .br v5 (
 kP (g v 0)<|
 kP (g v 0)<|
 kP (an (g v 0) 7)<|
 kP (an (an (g v 0) 7) 35)<|
 .store (an (an (g v 0) 7) 35) [iv 7]<|
 cS 86 [g v 0] (.tup []) fun l6 =>
 .ret (.tuple #[]) []) (
 pE (g v 1) (iv 3) fun v7 =>
 .br v7 (
 kP (g v 0)<|
 kP (g v 0)<|
 .load [] (an (g v 0) 7) 38 fun l8 =>
 cS 87 [ag (G38 l8 0)] (.tup [some 38,none,none]) fun l9 =>
 .newbox fun r0 =>
 kN r0<|
 kN r0<|
 cS 38 [g v 0,ag (G38 l9 0),g l9 39] (.tup []) fun l10 =>
 pO (g l9 38) fun v11 =>
 .br v11 (
 .ret (.tuple #[]) []) (
 kN r0<|
 pZ (g l9 29) fun v12 =>
 pG v12 (iv 0) fun v13 =>
 .br v13 (
 kP (g v 0)<|
 kP (g v 0)<|
 .load [] (an (g v 0) 6) 1 fun l14 =>
 kN r0<|
 kP (g v 0)<|
 kP (g v 0)<|
 kP (g v 0)<|
 .load [] (an (g v 0) 3) 1 fun l15 =>
 cS 88 [g l14 0,ag (G38 l9 0),g l15 0] (.tup [some 38,some 5,none]) fun l16 =>
 .newbox fun r1 =>
 .newbox fun r2 =>
 kN r1<|
 kN r2<|
 kN r1<|
 cS 38 [g v 0,ag (G38 l16 0),g l16 43] (.tup []) fun l17 =>
 .ret (.tuple #[]) []) (
 kN r0<|
 pE (g l9 35) (iv 7) fun v18 =>
 .br v18 (
 kP (g v 0)<|
 kP (g v 0)<|
 kP (an (g v 0) 7)<|
 kP (an (an (g v 0) 7) 35)<|
 .store (an (an (g v 0) 7) 35) [iv 8]<|
 .ret (.tuple #[]) []) (
 .ret (.tuple #[]) [])))) (
 .ret (.tuple #[]) []))))
theorem so:aS nh Tryz.f36 mS:=aU Tryz.func36 [(25,[5,6,7,8])] [] [] fun _=>by kernel_rfl
abbrev nc:FuncId:=38
def mQ (v:List Value):Tree :=
 .newbox fun r0 =>
 pE (g v 39) (iv 0) fun v0 =>
 .br v0 (
 kN r0<|
 kP (g v 0)<|
 kP (g v 0)<|
 kP (an (g v 0) 7)<|
 .store (an (g v 0) 7) (G38 v 1)<|
 .ret (.tuple #[]) []) (
 .ret (.tuple #[]) [])
theorem sk:aS nc Tryz.f38 mQ:=aU Tryz.func38 [(25,[5,6,7,8])] [] [] fun _=>by kernel_rfl
abbrev jx:FuncId:=44
def dX (a b:List Value) (c:List Value→Heap→Go.Sx.Own→Prop):Tree :=
 kP (g a 0)<|
 kP (g a 0)<|
 .load [] (an (g a 0) 48) 1 fun l19 =>
 pN (g l19 0) (iv 0) fun v20 =>
 .br v20 (
 .ret (g b 0) []) (
 cS 12 [g a 0] (.agg 3) fun l21 =>
 pN (g l21 1) (iv 0) fun v22 =>
 .br v22 (
 .ret (g b 0) []) (
 cS 106 [g a 0] (.tup []) fun l23 =>
 pA (g b 0) (iv 1) fun v24 =>
 .cont 2 c [v24] (Es [[g a 0]])))
def ip (a:Nat) (b c d e:List Value) (f:List Value→Heap→Go.Sx.Own→Prop):Tree :=
 .newbox fun r3 =>
 kN r3<|
 kN a<|
 kN r3<|
 kV (g b 1)<|
 kV (g b 1)<|
 pE (g c 14) (iv 0) fun v17 =>
 kV (g b 1)<|
 pK (g b 1) v17 (.bool false) fun v18 =>
 .br v18 (
 kP (g d 0)<|
 kP (g d 0)<|
 kP (an (g d 0) 48)<|
 .store (an (g d 0) 48) [iv 1]<|
 dX d e f) (
 dX d e f)
def ot (v:List Value):Tree :=
 .loop 2 3 [iv 0] fun C2 l0 =>
 kP (g v 0)<|
 kP (g v 0)<|
 .load [] (an (g v 0) 6) 1 fun l1 =>
 kP (g v 0)<|
 kP (g v 0)<|
 .load [] (an (g v 0) 7) 38 fun l2 =>
 c1 63 [g l1 0,ag (G38 l2 0)] fun l3 =>
 pO (g l3 0) fun v4 =>
 .br v4 (
 kP (g v 0)<|
 kP (g v 0)<|
 .load [] (an (g v 0) 6) 1 fun l5 =>
 kP (g v 0)<|
 kP (g v 0)<|
 .load [] (an (g v 0) 7) 38 fun l6 =>
 kP (g v 0)<|
 kP (g v 0)<|
 kP (g v 0)<|
 .load [] (an (g v 0) 4) 1 fun l7 =>
 cS 105 [g l5 0,ag (G38 l6 0),g l7 0] (.tup [some 38,none,none]) fun l8 =>
 .newbox fun r0 =>
 kN r0<|
 kN r0<|
 cS 38 [g v 0,ag (G38 l8 0),g l8 39] (.tup []) fun l9 =>
 pA (g l0 0) (iv 1) fun v10 =>
 .cont 2 C2 [v10] (Es [[g v 0]])) (
 kP (g v 0)<|
 kP (g v 0)<|
 .load [] (an (g v 0) 7) 38 fun l11 =>
 cS 64 [ag (G38 l11 0)] (.agg 2) fun l12 =>
 .newbox fun r1 =>
 kN r1<|
 kN r1<|
 kN r1<|
 kV (g l12 0)<|
 kV (g l12 0)<|
 pK (g l12 0) (.bool true) (g l12 1) fun v13 =>
 .br v13 (
 kN r1<|
 kP (g v 0)<|
 kP (g v 0)<|
 kP (an (g v 0) 46)<|
 .store (an (g v 0) 46) [g l12 0,g l12 1]<|
 kP (g v 0)<|
 kP (g v 0)<|
 kP (an (g v 0) 48)<|
 .store (an (g v 0) 48) [iv 2]<|
 kP (g v 0)<|
 kP (g v 0)<|
 kP (an (g v 0) 7)<|
 .load [] (an (an (g v 0) 7) 1) 28 fun l14 =>
 .newbox fun r2 =>
 kN r2<|
 kN r1<|
 kN r2<|
 kV (g l12 0)<|
 kV (g l12 0)<|
 pE (g l14 0) (iv 0) fun v15 =>
 kV (g l12 0)<|
 pK (g l12 0) v15 (.bool false) fun v16 =>
 .br v16 (
 kP (g v 0)<|
 kP (g v 0)<|
 kP (an (g v 0) 48)<|
 .store (an (g v 0) 48) [iv 1]<|
 ip r1 l12 l14 v l0 C2) (
 ip r1 l12 l14 v l0 C2)) (
 dX v l0 C2))
theorem tt:aS jx Tryz.f44 ot:=aU Tryz.func44 [(25,[5,6,7,8])] [(10,.unroll 3),(3,.inv [3] [0] [])] [] fun _=>by kernel_rfl
abbrev lM:FuncId:=45
def lx (v:List Value):Tree :=
 .newbox fun r0 =>
 c1 22 [g v 0] fun l0 =>
 .br (g l0 0) (
 kN r0<|
 kN r0<|
 .ret (.tuple #[.agg #[.bool false,.bool false],iv 0]) []) (
 kP (g v 0)<|
 kP (g v 0)<|
 .load [] (an (g v 0) 46) 2 fun l1 =>
 kP (g v 0)<|
 kP (g v 0)<|
 .load [] (an (g v 0) 48) 1 fun l2 =>
 kN r0<|
 kN r0<|
 .ret (.tuple #[.agg #[g l1 0,g l1 1],g l2 0]) [])
theorem qZ:aS lM Tryz.f45 lx:=aU Tryz.func45 [(25,[5,6,7,8])] [] [] fun _=>by kernel_rfl
abbrev rR:FuncId:=46
def jw (a:Nat) (b:List Value) (c:Nat) (d e:Int):Tree :=
 kN a<|
 .br (g b 39) (
 kN c<|
 kN c<|
 .ret (.agg #[iv d,g b 40]) []) (
 kN c<|
 kN c<|
 .ret (.agg #[iv e,g b 40]) [])
def rx (v:List Value):Tree :=
 .newbox fun r0 =>
 .newbox fun r1 =>
 .newbox fun r2 =>
 pL (g v 40) (iv 1) fun v0 =>
 kV v0<|
 pG (g v 40) (iv 5) fun v1 =>
 kV v0<|
 pK v0 (.bool true) v1 fun v2 =>
 .br v2 (
 kN r2<|
 kN r2<|
 .ret (.agg #[iv 0,iv 0]) []) (
 kN r0<|
 kN r0<|
 .newbox fun r3 =>
 .newbox fun r4 =>
 kN r3<|
 kN r4<|
 kN r3<|
 kN r4<|
 kN r3<|
 pZ (g v 6) fun v3 =>
 kN r4<|
 pZ (g v 20) fun v4 =>
 c1 108 [g v 1,g v 15] fun l5 =>
 c1 108 [v3,v4] fun l6 =>
 .newbox fun r5 =>
 .call false 107 [.slice (some ⟨r5,0,none⟩) 2 2] [⟨r5,3,[g l5 0,g l6 0]⟩] [] .one fun l7 _ =>
 kN r1<|
 kN r1<|
 kV (g v 38)<|
 kV (g v 38)<|
 pK (g v 38) (.bool true) (g v 39) fun v8 =>
 .br v8 (
 kN r1<|
 .br (g v 38) (
 jw r1 v r2 3 2) (
 jw r1 v r2 1 3)) (
 pA (g l7 0) (iv 1) fun v9 =>
 .pure [] .aidx [v9,iv 2,iv 3,iv 1] fun v10 =>
 kN r2<|
 kN r2<|
 .ret (.agg #[v10,g v 40]) []))
theorem xH:aS rR Tryz.f46 rx:=aU Tryz.func46 [(25,[5,6,7,8])] [] [] fun _=>by kernel_rfl
abbrev uL:FuncId:=47
def uy (v:List Value):Tree :=
 .newbox fun r0 =>
 kN r0<|
 kN r0<|
 .ret (.agg #[.func (.func 109) #[] #[],.func (.func 110) #[] #[],.func (.func 111) #[] #[],.func (.func 112) #[] #[]]) []
theorem yQ:aS uL Tryz.f47 uy:=aU Tryz.func47 [(25,[5,6,7,8])] [] [] fun _=>by kernel_rfl
abbrev eo:FuncId:=48
def ei (v:List Value):Tree :=
 .pure [] (.bin .eql .slice) [g v 0,.slice none 0 0] fun v0 =>
 .br v0 (
 .ret (.slice none 0 0) []) (
 .newbox fun r0 =>
 .prim (.bi .append #[24,24] 24) [.slice (some ⟨r0,0,none⟩) 0 0,g v 0] [⟨r0,90,[]⟩] [] .one fun l1 _ =>
 .ret (g l1 0) [])
theorem ia:aS eo Tryz.f48 ei:=aU Tryz.func48 [(25,[5,6,7,8])] [] [] fun _=>by kernel_rfl
abbrev nZ:FuncId:=49
def sZ (v:List Value):Tree :=
 .newbox fun r0 =>
 .newbox fun r1 =>
 kN r0<|
 kN r0<|
 c1 113 [g v 11] fun l0 =>
 c1 114 [g v 12] fun l1 =>
 kN r0<|
 kN r0<|
 kN r0<|
 pZ (g l1 0) fun v2 =>
 .loop 16 3 [iv 0] fun C16 l3 =>
 pL (g l3 0) v2 fun v4 =>
 .br v4 (
 pI 2 (g l1 0) (g l3 0) fun v5 =>
 .load [] v5 2 fun l6 =>
 .newbox fun r2 =>
 kN r2<|
 kN r0<|
 kN r2<|
 c1 113 [g l6 1] fun l7 =>
 pI 2 (g l1 0) (g l3 0) fun v8 =>
 kP v8<|
 kP (an v8 1)<|
 .store (an v8 1) [g l7 0]<|
 pA (g l3 0) (iv 1) fun v9 =>
 .cont 16 C16 [v9] (Es [[pt r0 0],[pt r1 0],[g l1 0],[v2],((pt r0 0)::(G11 v 0++[g l0 0,g l1 0,g v 13])),[pt r1 0,.string ⟨#[]⟩,iv 0,iv 0,iv 0,iv 0,iv 0,iv 0,iv 0,iv 0,iv 0,iv 0,.slice none 0 0,.slice none 0 0,iv 0]])) (
 kN r0<|
 kN r1<|
 kN r1<|
 .ret (ag (G11 v 0++[g l0 0,g l1 0,g v 13])) [])
theorem tB:aS nZ Tryz.f49 sZ:=aU Tryz.func49 [(25,[5,6,7,8])] [(3,.inv [16] [1,2,14,15] [(1,[]),(2,[])])] [] fun _=>by kernel_rfl
abbrev xj:FuncId:=50
def wK (v:List Value):Tree :=
 .newbox fun r0 =>
 cS 115 [g v 6] (.tup [none,none]) fun l0 =>
 pN (g l0 1) (iv 0) fun v1 =>
 .br v1 (
 .ret (.tuple #[.pointer none,iv 2]) []) (
 kN r0<|
 c1 62 [ag (G6 v 0)] fun l2 =>
 pO (g l2 0) fun v3 =>
 kV v3<|
 pZ (g v 7) fun v4 =>
 kV v3<|
 pG v4 (iv 4096) fun v5 =>
 kV v3<|
 pK v3 (.bool true) v5 fun v6 =>
 .br v6 (
 .ret (.tuple #[.pointer none,iv 2]) []) (
 cS 116 [g v 7] (.tup [none,none]) fun l7 =>
 pN (g l7 1) (iv 0) fun v8 =>
 .br v8 (
 .ret (.tuple #[.pointer none,iv 2]) []) (
 kN r0<|
 c1 117 [g l0 0] fun l9 =>
 .newbox fun r1 =>
 .ret (.tuple #[pt r1 0,iv 0]) [⟨r1,48,(G6 v 0++[g l9 0,.slice none 0 0,iv 0,iv 0,iv 0,iv 0,iv 0,.slice none 0 0,.slice none 0 0,.slice none 0 0,.slice none 0 0,.bool false,.bool false,.bool false,iv 0,iv 0,iv 0,iv 0,iv 0,iv 0,iv 0,.slice none 0 0,.slice none 0 0,.slice none 0 0,.slice none 0 0,.bool false,.bool false,.bool false,iv 0,iv 0,.slice none 0 0,.slice none 0 0,.slice none 0 0,.slice none 0 0,iv 0,iv 0,iv 0,iv 0,iv 0,g l7 0,.bool false,.bool false,iv 0])⟩])))
theorem AW:aS xj Tryz.f50 wK:=aU Tryz.func50 [(25,[5,6,7,8])] [] [] fun _=>by kernel_rfl
abbrev ff:FuncId:=51
def fe (v:List Value):Tree :=
 c1 118 [g v 0,g v 1] fun l0 =>
 pH (g l0 0) (iv 0) fun v1 =>
 .ret v1 []
theorem iK:aS ff Tryz.f51 fe:=aU Tryz.func51 [(25,[5,6,7,8])] [] [] fun _=>by kernel_rfl
abbrev jY:FuncId:=52
def un (v:List Value):Tree :=
 pL (g v 0) (iv 0) fun v0 =>
 .load [(v0,false)] (g v 1) 1 fun l1 =>
 kV v0<|
 pZ (g l1 0) fun v2 =>
 kV v0<|
 kV v0<|
 pH (g v 0) v2 fun v3 =>
 kV v0<|
 pK v0 (.bool true) v3 fun v4 =>
 .ret v4 []
theorem yG:aS jY Tryz.f52 un:=aU Tryz.func52 [(25,[5,6,7,8])] [] [] fun _=>by kernel_rfl
abbrev AM:FuncId:=53
def nU (a:Nat):Tree :=
 kN a<|
 kN a<|
 .ret (.tuple #[ag Z5,iv 2]) []
def Aw (v:List Value):Tree :=
 .newbox fun r0 =>
 .newbox fun r1 =>
 c1 102 [g v 0,iv 1,iv 9999] fun l0 =>
 pO (g l0 0) fun v1 =>
 kN r0<|
 kV v1<|
 kV v1<|
 pZ (g v 1) fun v2 =>
 kN r0<|
 kV v1<|
 kV v1<|
 pZ (g v 2) fun v3 =>
 kV v1<|
 kV v1<|
 pA v2 v3 fun v4 =>
 kV v1<|
 pG v4 (iv 500) fun v5 =>
 kV v1<|
 pK v1 (.bool true) v5 fun v6 =>
 .br v6 (
 nU r1) (
 .newbox fun r2 =>
 kN r2<|
 kN r0<|
 kN r2<|
 pZ (g v 1) fun v7 =>
 .loop 38 10 [iv 0,.slice none 0 0,.slice none 0 0,.slice none 0 0] fun C38 l8 =>
 pL (g l8 0) v7 fun v9 =>
 .br v9 (
 pI 1 (g v 1) (g l8 0) fun v10 =>
 .load [] v10 1 fun l11 =>
 c1 102 [g l11 0,iv 0,iv 399] fun l12 =>
 pO (g l12 0) fun v13 =>
 .br v13 (
 nU r1) (
 kN r2<|
 pZ (g l8 1) fun v14 =>
 pA v14 (iv 1) fun v15 =>
 kN r2<|
 cS 119 [v15,g l11 0,iv 0] (.agg 12) fun l16 =>
 .newbox fun r3 =>
 .prim (.bi .append #[33,33] 33) [g l8 1,.slice (some ⟨r3,0,none⟩) 1 1] [⟨r3,92,(G12 l16 0)⟩] [] .one fun l17 _ =>
 kN r2<|
 kN r2<|
 .newbox fun r4 =>
 .prim (.bi .append #[25,25] 25) [g l8 2,.slice (some ⟨r4,0,none⟩) 1 1] [⟨r4,3,[v15]⟩] [] .one fun l18 _ =>
 kN r2<|
 pA (g l8 0) (iv 1) fun v19 =>
 .cont 38 C38 [v19,g l17 0,g l18 0,g l8 3] (Es [[g v 0],[pt r1 0],[pt r2 0],[iv 0],[pt r2 1],[g v 1,g v 2],[iv 0],[g v 1],[v7],[pt r1 0,.slice none 0 0,iv 0,iv 0,iv 0,iv 0,iv 0,.slice none 0 0,.slice none 0 0,.slice none 0 0,.slice none 0 0,.bool false,.bool false,.bool false,iv 0,iv 0,iv 0,iv 0,iv 0,iv 0,iv 0,.slice none 0 0,.slice none 0 0,.slice none 0 0,.slice none 0 0,.bool false,.bool false,.bool false,iv 0,iv 0,.slice none 0 0,.slice none 0 0,.slice none 0 0,.slice none 0 0,iv 0,iv 0,iv 0,iv 0,iv 0],[pt r2 0,.tuple #[],g v 0,iv 0,iv 0,iv 0,iv 0,.tuple #[],.slice none 0 0,.slice none 0 0,.slice none 0 0,.bool false,.bool false,.bool false,iv 0,iv 0,iv 0,iv 0,iv 0,iv 0,iv 0,.tuple #[],.slice none 0 0,.slice none 0 0,.slice none 0 0,.bool false,.bool false,.bool false,iv 0,iv 0,.slice none 0 0,.slice none 0 0,.slice none 0 0,.slice none 0 0,iv 0,iv 0,iv 0,iv (-1),iv 0]]))) (
 kN r2<|
 pZ (g v 2) fun v20 =>
 .loop 59 10 [iv 0,g l8 1,g l8 2,g l8 3] fun C59 l21 =>
 pL (g l21 0) v20 fun v22 =>
 .br v22 (
 pI 1 (g v 2) (g l21 0) fun v23 =>
 .load [] v23 1 fun l24 =>
 c1 102 [g l24 0,iv 0,iv 399] fun l25 =>
 pO (g l25 0) fun v26 =>
 .br v26 (
 nU r1) (
 kN r2<|
 pZ (g l21 1) fun v27 =>
 pA v27 (iv 1) fun v28 =>
 kN r2<|
 cS 119 [v28,g l24 0,iv 1] (.agg 12) fun l29 =>
 .newbox fun r5 =>
 .prim (.bi .append #[33,33] 33) [g l21 1,.slice (some ⟨r5,0,none⟩) 1 1] [⟨r5,92,(G12 l29 0)⟩] [] .one fun l30 _ =>
 kN r2<|
 kN r2<|
 .newbox fun r6 =>
 .prim (.bi .append #[25,25] 25) [g l21 3,.slice (some ⟨r6,0,none⟩) 1 1] [⟨r6,3,[v28]⟩] [] .one fun l31 _ =>
 kN r2<|
 pA (g l21 0) (iv 1) fun v32 =>
 .cont 59 C59 [v32,g l30 0,g l21 2,g l31 0] (Es [[g v 0],[pt r1 0],[pt r2 0],[iv 1],[pt r2 15],[g v 1,g v 2],[iv 1],[g v 2],[v20],[pt r1 0,.slice none 0 0,iv 0,iv 0,iv 0,iv 0,iv 0,.slice none 0 0,.slice none 0 0,.slice none 0 0,.slice none 0 0,.bool false,.bool false,.bool false,iv 0,iv 0,iv 0,iv 0,iv 0,iv 0,iv 0,.slice none 0 0,.slice none 0 0,.slice none 0 0,.slice none 0 0,.bool false,.bool false,.bool false,iv 0,iv 0,.slice none 0 0,.slice none 0 0,.slice none 0 0,.slice none 0 0,iv 0,iv 0,iv 0,iv 0,iv 0],[pt r2 0,.tuple #[],g v 0,iv 0,iv 0,iv 0,iv 0,.tuple #[],.slice none 0 0,.slice none 0 0,.slice none 0 0,.bool false,.bool false,.bool false,iv 0,iv 0,g v 0,iv 0,iv 0,iv 0,iv 0,.tuple #[],.slice none 0 0,.slice none 0 0,.slice none 0 0,.bool false,.bool false,.bool false,iv 0,iv 0,.slice none 0 0,.slice none 0 0,.slice none 0 0,.slice none 0 0,iv 0,iv 0,iv 0,iv (-1),iv 0]]))) (
 kN r2<|
 kN r1<|
 kN r1<|
 .ret (.tuple #[.agg #[g l21 1,g v 0,iv 0,iv 0,iv 0,iv 0,g l21 2,.slice none 0 0,.slice none 0 0,.slice none 0 0,.bool false,.bool false,.bool false,iv 0,iv 0,g v 0,iv 0,iv 0,iv 0,iv 0,g l21 3,.slice none 0 0,.slice none 0 0,.slice none 0 0,.bool false,.bool false,.bool false,iv 0,iv 0,.slice none 0 0,.slice none 0 0,.slice none 0 0,.slice none 0 0,iv 0,iv 0,iv 0,iv (-1),iv 0],iv 0]) [])))
theorem DK:aS AM Tryz.f53 Aw:=aU Tryz.func53 [(25,[5,6,7,8])] [(5,.unroll 3),(10,.inv [42] [0,4,6,7,9,28,29,40,41] [(4,[]),(6,[0,6,20])])] [] fun _=>by kernel_rfl
abbrev jH:FuncId:=54
def jB (v:List Value):Tree :=
 kP (g v 0)<|
 kP (g v 0)<|
 kP (an (g v 0) 7)<|
 .pure [] (.pidx 2 14) [an (an (g v 0) 7) 1,g v 1] fun v0 =>
 kP (g v 0)<|
 kP (g v 0)<|
 .load [] (an (g v 0) 45) 1 fun l1 =>
 kP v0<|
 kP v0<|
 .load [] (an v0 5) 1 fun l2 =>
 cS 120 [g l1 0,g l2 0] (.tup [none,none]) fun l3 =>
 pE (g l3 1) (iv 0) fun v4 =>
 .br v4 (
 kP v0<|
 kP v0<|
 kP (an v0 5)<|
 .store (an v0 5) [g l3 0]<|
 .ret (g l3 1) []) (
 .ret (g l3 1) [])
theorem oH:aS jH Tryz.f54 jB:=aU Tryz.func54 [(25,[5,6,7,8])] [] [] fun _=>by kernel_rfl
abbrev ni:FuncId:=55
def mT (v:List Value):Tree :=
 kP (g v 0)<|
 kP (g v 0)<|
 .load [] (an (g v 0) 7) 38 fun l0 =>
 kP (g v 0)<|
 kP (g v 0)<|
 kP (an (g v 0) 7)<|
 .pure [] (.pidx 2 14) [an (an (g v 0) 7) 1,g v 1] fun v1 =>
 kP v1<|
 .load [] (an v1 5) 1 fun l2 =>
 pZ (g l2 0) fun v3 =>
 .pure [] .min2 [g v 2,v3] fun v4 =>
 .pure [] .max2 [iv 0,v4] fun v5 =>
 cS 121 [ag (G38 l0 0),g v 1,v5] (.tup [some 38,none]) fun l6 =>
 cS 38 [g v 0,ag (G38 l6 0),g l6 38] (.tup []) fun l7 =>
 .ret (.tuple #[]) []
theorem sq:aS ni Tryz.f55 mT:=aU Tryz.func55 [(25,[5,6,7,8])] [] [] fun _=>by kernel_rfl
abbrev du:FuncId:=56
def dq (v:List Value):Tree :=
 .pure [] (.bin .eql .slice) [g v 0,.slice none 0 0] fun v0 =>
 .br v0 (
 .ret (.slice none 0 0) []) (
 .newbox fun r0 =>
 .prim (.bi .append #[33,33] 33) [.slice (some ⟨r0,0,none⟩) 0 0,g v 0] [⟨r0,92,[]⟩] [] .one fun l1 _ =>
 .ret (g l1 0) [])
theorem fU:aS du Tryz.f56 dq:=aU Tryz.func56 [(25,[5,6,7,8])] [] [] fun _=>by kernel_rfl
abbrev iJ:FuncId:=57
def iF (v:List Value):Tree :=
 .pure [] (.bin .eql .slice) [g v 0,.slice none 0 0] fun v0 =>
 .br v0 (
 .ret (.slice none 0 0) []) (
 .newbox fun r0 =>
 .prim (.bi .append #[25,25] 25) [.slice (some ⟨r0,0,none⟩) 0 0,g v 0] [⟨r0,3,[]⟩] [] .one fun l1 _ =>
 .ret (g l1 0) [])
theorem mr:aS iJ Tryz.f57 iF:=aU Tryz.func57 [(25,[5,6,7,8])] [] [] fun _=>by kernel_rfl
abbrev dM:FuncId:=58
def dL (v:List Value):Tree :=
 .pure [] (.bin .eql .slice) [g v 0,.slice none 0 0] fun v0 =>
 .br v0 (
 .ret (.slice none 0 0) []) (
 .newbox fun r0 =>
 .prim (.bi .append #[40,40] 40) [.slice (some ⟨r0,0,none⟩) 0 0,g v 0] [⟨r0,110,[]⟩] [] .one fun l1 _ =>
 .ret (g l1 0) [])
theorem gm:aS dM Tryz.f58 dL:=aU Tryz.func58 [(25,[5,6,7,8])] [] [] fun _=>by kernel_rfl
abbrev uN:FuncId:=59
def uA (v:List Value):Tree :=
 c1 122 [g v 0] fun l0 =>
 pZ (g l0 0) fun v1 =>
 .loop 7 3 [iv 0] fun C7 l2 =>
 pL (g l2 0) v1 fun v3 =>
 .br v3 (
 pI 5 (g l0 0) (g l2 0) fun v4 =>
 kP v4<|
 .load [] (an v4 4) 1 fun l5 =>
 c1 123 [g l5 0] fun l6 =>
 pI 5 (g l0 0) (g l2 0) fun v7 =>
 kP v7<|
 kP (an v7 4)<|
 .store (an v7 4) [g l6 0]<|
 pA (g l2 0) (iv 1) fun v8 =>
 .cont 7 C7 [v8] (Es [[g l0 0],[v1]])) (
 .ret (g l0 0) [])
theorem yS:aS uN Tryz.f59 uA:=aU Tryz.func59 [(25,[5,6,7,8])] [(3,.inv [9] [3,8] [])] [] fun _=>by kernel_rfl
abbrev lQ:FuncId:=60
def lD (v:List Value):Tree :=
 .pure [] (.bin .eql .ptr) [g v 0,.pointer none] fun v0 =>
 .chk (.ptr [(v0,false)] (g v 0))<|
 kV v0<|
 .chk (.ptr [(v0,false)] (g v 0))<|
 kV v0<|
 kV v0<|
 .load [(v0,false)] (g v 0) 1 fun l1 =>
 kV v0<|
 pO (g l1 0) fun v2 =>
 kV v0<|
 pK v0 (.bool true) v2 fun v3 =>
 .ret v3 []
theorem q9:aS lQ Tryz.f60 lD:=aU Tryz.func60 [(25,[5,6,7,8])] [] [] fun _=>by kernel_rfl
abbrev rS:FuncId:=62
def rz (v:List Value):Tree :=
 .newbox fun r0 =>
 kN r0<|
 c1 124 [g v 0,iv 1,iv 9999] fun l0 =>
 .br (g l0 0) (
 kN r0<|
 c1 124 [g v 1,iv 0,iv 7] fun l1 =>
 .br (g l1 0) (
 kN r0<|
 c1 124 [g v 2,iv 1,iv 100] fun l2 =>
 .br (g l2 0) (
 kN r0<|
 c1 124 [g v 3,iv 40,iv 500] fun l3 =>
 .br (g l3 0) (
 kN r0<|
 c1 124 [g v 4,iv 0,iv 100] fun l4 =>
 .br (g l4 0) (
 kN r0<|
 c1 124 [g v 5,iv 1,iv 200] fun l5 =>
 .ret (g l5 0) []) (
 .ret (.bool false) [])) (
 .ret (.bool false) [])) (
 .ret (.bool false) [])) (
 .ret (.bool false) [])) (
 .ret (.bool false) [])
theorem xJ:aS rS Tryz.f62 rz:=aU Tryz.func62 [(25,[5,6,7,8])] [] [] fun _=>by kernel_rfl
abbrev xi:FuncId:=63
def wJ (v:List Value):Tree :=
 .newbox fun r0 =>
 kN r0<|
 c1 93 [ag (G38 v 1)] fun l0 =>
 .br (g l0 0) (
 kN r0<|
 kN r0<|
 c1 125 [g v 0,ag (G38 v 1)] fun l1 =>
 pZ (g l1 0) fun v2 =>
 c1 126 [ag (G38 v 1)] fun l3 =>
 pZ (g l3 0) fun v4 =>
 pA v2 v4 fun v5 =>
 pE v5 (iv 0) fun v6 =>
 .ret v6 []) (
 .ret (.bool false) [])
theorem AV:aS xi Tryz.f63 wJ:=aU Tryz.func63 [(25,[5,6,7,8])] [] [] fun _=>by kernel_rfl
abbrev Dh:FuncId:=64
def CY (v:List Value):Tree :=
 .newbox fun r0 =>
 .newbox fun r1 =>
 kN r0<|
 .newbox fun r2 =>
 kN r2<|
 kN r2<|
 kN r2<|
 kV (g v 10)<|
 kV (g v 10)<|
 pE (g v 1) (iv 0) fun v0 =>
 kV (g v 10)<|
 pK (g v 10) (.bool true) v0 fun v1 =>
 kN r1<|
 .newbox fun r3 =>
 kN r3<|
 kN r3<|
 kN r3<|
 kV (g v 24)<|
 kV (g v 24)<|
 pE (g v 15) (iv 0) fun v2 =>
 kV (g v 24)<|
 pK (g v 24) (.bool true) v2 fun v3 =>
 kN r1<|
 kN r1<|
 kN r1<|
 kN r1<|
 .ret (.agg #[v1,v3]) []
theorem Fo:aS Dh Tryz.f64 CY:=aU Tryz.func64 [(25,[5,6,7,8])] [(2,.unroll 3)] [] fun _=>by kernel_rfl
abbrev jZ:FuncId:=65
def ut (v:List Value):Tree :=
 kP (g v 1)<|
 .pure [] (.pidx 2 14) [an (g v 1) 1,g v 0] fun v0 =>
 kP v0<|
 .load [] (an v0 13) 1 fun l1 =>
 kP (g v 2)<|
 .load [] (an (g v 2) 2) 1 fun l2 =>
 pL (g l1 0) (g l2 0) fun v3 =>
 .ret v3 []
theorem yJ:aS jZ Tryz.f65 ut:=aU Tryz.func65 [(25,[5,6,7,8])] [] [] fun _=>by kernel_rfl
abbrev uH:FuncId:=66
def uq (v:List Value):Tree :=
 .load [] (g v 2) 1 fun l0 =>
 .callv false (g l0 0) [g v 0] [] [] .one fun l1 _ =>
 pO (g l1 0) fun v2 =>
 .br v2 (
 .ret (.slice none 0 0) []) (
 .load [] (g v 3) 1 fun l3 =>
 .load [] (g v 4) 38 fun l4 =>
 c1 68 [g l3 0,ag (G38 l4 0),g v 0,g v 1] fun l5 =>
 c1 67 [iv 4,g l5 0] fun l6 =>
 .ret (g l6 0) [])
theorem yI:aS uH Tryz.f66 uq:=aU Tryz.func66 [(25,[5,6,7,8])] [] [] fun _=>by kernel_rfl
abbrev xk:FuncId:=67
def wL (v:List Value):Tree :=
 .newbox fun r0 =>
 .call false 127 [g v 1,.func (.func 128) #[] #[pt r0 0]] [] [⟨r0,67,[g v 0]⟩] .one fun l0 c0 =>
 .ret (g l0 0) []
theorem AX:aS xk Tryz.f67 wL:=aU Tryz.func67 [(25,[5,6,7,8])] [] [] fun _=>by kernel_rfl
abbrev rT:FuncId:=68
def gC (a:Nat) (b:List Value) (c d e f h i j k l m n o p q r s t:Nat):Tree :=
 kN a<|
 .newbox fun r4 =>
 kN r4<|
 kN r4<|
 c1 79 [g b c] fun l4 =>
 c1 78 [g l4 0] fun l5 =>
 .call false 129 [g l5 0,.func (.func 130) #[] #[pt a 0,pt d 0,pt e 0,pt r4 0,pt f 0]] [] [⟨a,43,(G38 b 1)⟩,⟨d,24,[g b 0]⟩,⟨e,4,[g b 40]⟩,⟨r4,37,[g b h,g b i,g b j,g b k,g b l,g b m,g b c,g b n,g b o,g b p,g b q,g b r,g b s,g b t]⟩,⟨f,3,[g b 39]⟩] .one fun l6 c6 =>
 .ret (g l6 0) []
def rA (v:List Value):Tree :=
 .newbox fun r0 =>
 .newbox fun r1 =>
 .newbox fun r2 =>
 .newbox fun r3 =>
 kN r2<|
 c1 124 [g v 39,iv 0,iv 1] fun l0 =>
 pO (g l0 0) fun v1 =>
 .br v1 (
 .ret (.slice none 0 0) []) (
 kN r1<|
 c1 93 [ag (G38 v 1)] fun l2 =>
 pO (g l2 0) fun v3 =>
 .br v3 (
 .ret (.slice none 0 0) []) (
 kN r2<|
 .sw (g v 39) 0 (
 gC r1 v 8 r0 r3 r2 2 3 4 5 6 7 9 10 11 12 13 14 15) (
 .sw (g v 39) 1 (
 gC r1 v 22 r0 r3 r2 16 17 18 19 20 21 23 24 25 26 27 28 29) (
 .stuck 901))))
theorem xK:aS rT Tryz.f68 rA:=aU Tryz.func68 [(25,[5,6,7,8])] [] [] fun _=>by kernel_rfl
abbrev xg:FuncId:=69
def wH (v:List Value):Tree :=
 .newbox fun r0 =>
 kN r0<|
 pZ (g v 30) fun v0 =>
 pE v0 (iv 0) fun v1 =>
 .br v1 (
 .ret (iv 0) []) (
 kN r0<|
 c1 93 [ag (G38 v 1)] fun l2 =>
 pO (g l2 0) fun v3 =>
 kN r0<|
 kV v3<|
 kV v3<|
 pS v0 (iv 1) fun v4 =>
 kV v3<|
 kV v3<|
 .pure [(v3,false)] (.idx 5) [g v 30,v4] fun v5 =>
 .chk (.ptr [(v3,false)] v5)<|
 kV v3<|
 kV v3<|
 .load [(v3,false)] (an v5 3) 1 fun l6 =>
 kV v3<|
 pN (g l6 0) (iv (-1)) fun v7 =>
 kV v3<|
 pK v3 (.bool true) v7 fun v8 =>
 .br v8 (
 .ret (iv 0) []) (
 kN r0<|
 pS v0 (iv 1) fun v9 =>
 pI 5 (g v 30) v9 fun v10 =>
 .load [] v10 5 fun l11 =>
 .newbox fun r1 =>
 kN r1<|
 kN r1<|
 c1 134 [g v 0,ag (G5 l11 0)] fun l12 =>
 c1 133 [g l12 0] fun l13 =>
 kN r1<|
 pZ (g l11 4) fun v14 =>
 pZ (g l13 0) fun v15 =>
 pL v14 v15 fun v16 =>
 kV v16<|
 pL v14 (iv 4) fun v17 =>
 kV v16<|
 pK v16 v17 (.bool false) fun v18 =>
 .br v18 (
 pI 1 (g l13 0) v14 fun v19 =>
 .load [] v19 1 fun l20 =>
 .ret (g l20 0) []) (
 .ret (iv 0) [])))
theorem AT:aS xg Tryz.f69 wH:=aU Tryz.func69 [(25,[5,6,7,8])] [] [] fun _=>by kernel_rfl
abbrev mg:FuncId:=70
def gB (a b:Nat) (c:List Value) (d e f:Nat) (h:Int) (i:Nat):Tree :=
 .newbox fun r5 =>
 kN a<|
 kN b<|
 pL (g c d) (g c 1) fun v0 =>
 kN a<|
 kV v0<|
 kV v0<|
 pZ (g c e) fun v1 =>
 kN a<|
 kV v0<|
 kV v0<|
 pZ (g c f) fun v2 =>
 kV v0<|
 kV v0<|
 pA v1 v2 fun v3 =>
 kV v0<|
 pS v3 (iv 1) fun v4 =>
 kV v0<|
 kV v0<|
 pH (g c 44) v4 fun v5 =>
 kV v0<|
 pK v0 v5 (.bool false) fun v6 =>
 .br v6 (
 .newbox fun r6 =>
 .prim (.bi .append #[63,63] 63) [.slice (some ⟨r5,0,none⟩) 1 1,.slice (some ⟨r6,0,none⟩) 1 1] [⟨r5,69,[iv 2,iv 0,iv 0]⟩,⟨r6,69,[iv 3,iv 0,iv 0]⟩] [] .one fun l7 _ =>
 cS 77 [iv h,iv 1,g l7 0] (.agg 3) fun l8 =>
 kN i<|
 kN i<|
 .ret (.agg #[g l8 0,g l8 1,g l8 2]) []) (
 .call false 77 [iv h,iv 1,.slice (some ⟨r5,0,none⟩) 1 1] [⟨r5,69,[iv 2,iv 0,iv 0]⟩] [] (.agg 3) fun l9 _ =>
 kN i<|
 kN i<|
 .ret (.agg #[g l9 0,g l9 1,g l9 2]) [])
def mb (v:List Value):Tree :=
 .newbox fun r0 =>
 .newbox fun r1 =>
 .newbox fun r2 =>
 kN r1<|
 .newbox fun r3 =>
 kN r3<|
 kN r3<|
 .br (g v 18) (
 .newbox fun r4 =>
 kN r4<|
 kN r4<|
 .br (g v 32) (
 kN r2<|
 kN r2<|
 .ret (.agg #[iv 0,iv 0,.slice none 0 0]) []) (
 gB r4 r0 v 33 26 27 1 r2)) (
 gB r3 r0 v 19 12 13 0 r2)
theorem og:aS mg Tryz.f70 mb:=aU Tryz.func70 [(25,[5,6,7,8])] [(2,.unroll 3)] [] fun _=>by kernel_rfl
abbrev uG:FuncId:=72
def uo (v:List Value):Tree :=
 .newbox fun r0 =>
 .newbox fun r1 =>
 .prim (.bi .append #[63,63] 63) [.slice (some ⟨r1,0,none⟩) 1 1,g v 2] [⟨r1,69,[iv 1,iv 0,iv 0]⟩] [] .one fun l0 _ =>
 cS 77 [g v 0,g v 1,g l0 0] (.agg 3) fun l1 =>
 kN r0<|
 kN r0<|
 .ret (.agg #[g l1 0,g l1 1,g l1 2]) []
theorem yH:aS uG Tryz.f72 uo:=aU Tryz.func72 [(25,[5,6,7,8])] [] [] fun _=>by kernel_rfl
abbrev lT:FuncId:=73
def lG (v:List Value):Tree :=
 .newbox fun r0 =>
 .newbox fun r1 =>
 kN r0<|
 kN r1<|
 kN r1<|
 c1 138 [g v 0,ag (G38 v 1),g v 35] fun l0 =>
 .call false 129 [g l0 0,.func (.func 139) #[] #[pt r1 0,pt r0 0]] [] [⟨r1,43,(G38 v 1)⟩,⟨r0,24,[g v 0]⟩] .one fun l1 c1 =>
 .ret (g l1 0) []
theorem rc:aS lT Tryz.f73 lG:=aU Tryz.func73 [(25,[5,6,7,8])] [] [] fun _=>by kernel_rfl
abbrev xm:FuncId:=77
def wM (v:List Value):Tree :=
 .newbox fun r0 =>
 kN r0<|
 kN r0<|
 .ret (.agg #[g v 0,g v 1,g v 2]) []
theorem AY:aS xm Tryz.f77 wM:=aU Tryz.func77 [(25,[5,6,7,8])] [] [] fun _=>by kernel_rfl
abbrev fM:FuncId:=83
def cM (v:List Value):Tree :=
 .newbox fun r0 =>
 kN r0<|
 c1 149 [g v 0,.agg #[g v 1,g v 2,g v 3]] fun l0 =>
 pH (g l0 0) (iv 0) fun v1 =>
 .ret v1 []
theorem fi:aS fM Tryz.f83 cM:=aU Tryz.func83 [(25,[5,6,7,8])] [] [] fun _=>by kernel_rfl
abbrev s4:FuncId:=84
def jV (a:Value) (b:List Value):Tree :=
 .br a (
 .ret (iv 1) []) (
 pE (g b 0) (iv 5) fun v1 =>
 .br v1 (
 pO (g b 1) fun v2 =>
 .br v2 (
 .ret (iv 9) []) (
 c1 150 [g b 0] fun l3 =>
 .pure [] (.bin .eql .str) [g l3 0,.string ⟨#[]⟩] fun v4 =>
 .br v4 (
 .ret (iv 0) []) (
 pA (g b 0) (iv 1) fun v5 =>
 .ret v5 []))) (
 c1 150 [g b 0] fun l6 =>
 .pure [] (.bin .eql .str) [g l6 0,.string ⟨#[]⟩] fun v7 =>
 .br v7 (
 .ret (iv 0) []) (
 pA (g b 0) (iv 1) fun v8 =>
 .ret v8 [])))
def sY (v:List Value):Tree :=
 pE (g v 0) (iv 0) fun v0 =>
 .br v0 (
 jV v0 v) (
 pE (g v 0) (iv 10) fun v9 =>
 jV v9 v)
theorem tq:aS s4 Tryz.f84 sY:=aU Tryz.func84 [(25,[5,6,7,8])] [] [] fun _=>by kernel_rfl
abbrev lL:FuncId:=85
def lw (v:List Value):Tree :=
 kP (g v 0)<|
 kP (g v 0)<|
 kP (an (g v 0) 7)<|
 .load [] (an (an (g v 0) 7) 31) 1 fun l0 =>
 pZ (g l0 0) fun v1 =>
 .loop 8 2 [.slice none 0 0,iv 0] fun C8 l2 =>
 pL (g l2 1) v1 fun v3 =>
 .br v3 (
 pI 1 (g l0 0) (g l2 1) fun v4 =>
 .load [] v4 1 fun l5 =>
 .newbox fun r0 =>
 .prim (.bi .append #[241,241] 241) [g l2 0,.slice (some ⟨r0,0,none⟩) 1 1] [⟨r0,243,[iv 2,g l5 0,iv 0]⟩] [] .one fun l6 _ =>
 pA (g l2 1) (iv 1) fun v7 =>
 .cont 8 C8 [g l6 0,v7] (Es [[g v 0],[g l0 0],[v1]])) (
 cS 151 [g v 0,g l2 0] (.tup []) fun l8 =>
 pZ (g l2 0) fun v9 =>
 pG v9 (iv 0) fun v10 =>
 c1 84 [iv 5,v10] fun l11 =>
 kP (g v 0)<|
 kP (g v 0)<|
 kP (an (g v 0) 7)<|
 kP (an (an (g v 0) 7) 35)<|
 .store (an (an (g v 0) 7) 35) [g l11 0]<|
 .ret (.tuple #[]) [])
theorem qY:aS lL Tryz.f85 lw:=aU Tryz.func85 [(25,[5,6,7,8])] [(2,.inv [2,11] [0,9,10] [])] [] fun _=>by kernel_rfl
end Go.Proofs.YteakpllehopodaaGreatDoor
