/- The trees of the functions of this seat: printed by a tool of mine; each by the kernel's reckoning equal to the evaluator's. -/
import Derived.Test.YteakpllehopodaaGreatDoorBT2
namespace Go.Proofs.YteakpllehopodaaGreatDoor
open Go Go.Sx
set_option maxRecDepth 100000
abbrev xB:FuncId:=89
def wY (v:List Value):Tree :=
 .newbox fun r0 =>
 .newbox fun r1 =>
 kN r0<|
 cS 101 [ag (G38 v 0),g v 38] (.tup [none,none]) fun l0 =>
 pN (g l0 1) (iv 0) fun v1 =>
 .br v1 (
 kN r1<|
 kN r1<|
 .ret (.tuple #[ag Z6,g l0 1]) []) (
 kN r0<|
 pI 12 (g v 0) (g l0 0) fun v2 =>
 .load [] v2 12 fun l3 =>
 kN r1<|
 kN r1<|
 .ret (.tuple #[ag (G12 l3 0),iv 0]) [])
theorem Bf:aS xB Tryz.f89 wY:=aU Tryz.func89 [(25,[5,6,7,8])] [] [] fun _=>by kernel_rfl
abbrev nX:FuncId:=90
def nR (v:List Value):Tree :=
 .newbox fun r0 =>
 .newbox fun r1 =>
 kN r0<|
 cS 155 [g v 0,ag (G12 v 1)] (.agg 14) fun l0 =>
 cS 49 [ag (G14 l0 0)] (.agg 14) fun l1 =>
 kN r1<|
 kN r1<|
 .ret (ag (G14 l1 0)) []
theorem o4:aS nX Tryz.f90 nR:=aU Tryz.func90 [(25,[5,6,7,8])] [] [] fun _=>by kernel_rfl
abbrev oc:FuncId:=93
def uD (v:List Value):Tree :=
 .newbox fun r0 =>
 kN r0<|
 c1 102 [g v 34,iv 0,iv 1] fun l0 =>
 pO (g l0 0) fun v1 =>
 .br v1 (
 .ret (.bool false) []) (
 kN r0<|
 c1 102 [g v 33,iv 0,iv 1000] fun l2 =>
 pO (g l2 0) fun v3 =>
 .br v3 (
 .ret (.bool false) []) (
 kN r0<|
 c1 102 [g v 35,iv 0,iv 10] fun l4 =>
 pO (g l4 0) fun v5 =>
 .br v5 (
 .ret (.bool false) []) (
 kN r0<|
 c1 102 [g v 36,iv (-1),iv 1] fun l6 =>
 pO (g l6 0) fun v7 =>
 .br v7 (
 .ret (.bool false) []) (
 kN r0<|
 c1 102 [g v 37,iv 0,iv 2] fun l8 =>
 pO (g l8 0) fun v9 =>
 kN r0<|
 kV v9<|
 kV v9<|
 pZ (g v 0) fun v10 =>
 kV v9<|
 pG v10 (iv 500) fun v11 =>
 kV v9<|
 pK v9 (.bool true) v11 fun v12 =>
 kN r0<|
 kV v12<|
 kV v12<|
 pZ (g v 29) fun v13 =>
 kV v12<|
 pG v13 (iv 200) fun v14 =>
 kV v12<|
 pK v12 (.bool true) v14 fun v15 =>
 kN r0<|
 kV v15<|
 kV v15<|
 pZ (g v 30) fun v16 =>
 kV v15<|
 pG v16 (iv 200) fun v17 =>
 kV v15<|
 pK v15 (.bool true) v17 fun v18 =>
 .br v18 (
 .ret (.bool false) []) (
 kN r0<|
 .newbox fun r1 =>
 kN r1<|
 kN r1<|
 c1 102 [g v 1,iv 0,iv 9999] fun l19 =>
 pO (g l19 0) fun v20 =>
 .br v20 (
 .ret (.bool false) []) (
 kN r1<|
 c1 162 [ag (G4 v 2)] fun l21 =>
 pO (g l21 0) fun v22 =>
 .br v22 (
 .ret (.bool false) []) (
 kN r1<|
 c1 102 [g v 13,iv 0,iv 7] fun l23 =>
 pO (g l23 0) fun v24 =>
 .br v24 (
 .ret (.bool false) []) (
 kN r1<|
 c1 102 [g v 14,iv 0,iv 255] fun l25 =>
 pO (g l25 0) fun v26 =>
 .br v26 (
 .ret (.bool false) []) (
 .newbox fun r2 =>
 kN r2<|
 kN r2<|
 c1 102 [g v 15,iv 0,iv 9999] fun l27 =>
 pO (g l27 0) fun v28 =>
 .br v28 (
 .ret (.bool false) []) (
 kN r2<|
 c1 162 [ag (G4 v 16)] fun l29 =>
 pO (g l29 0) fun v30 =>
 .br v30 (
 .ret (.bool false) []) (
 kN r2<|
 c1 102 [g v 27,iv 0,iv 7] fun l31 =>
 pO (g l31 0) fun v32 =>
 .br v32 (
 .ret (.bool false) []) (
 kN r2<|
 c1 102 [g v 28,iv 0,iv 255] fun l33 =>
 pO (g l33 0) fun v34 =>
 .br v34 (
 .ret (.bool false) []) (
 kN r0<|
 c1 163 [g v 29,.func (.func 164) #[] #[]] fun l35 =>
 .br (g l35 0) (
 .ret (.bool false) []) (
 kN r0<|
 c1 163 [g v 30,.func (.func 166) #[] #[]] fun l36 =>
 pO (g l36 0) fun v37 =>
 .br v37 (
 kN r0<|
 c1 167 [ag (G38 v 0)] fun l38 =>
 .br (g l38 0) (
 kN r0<|
 c1 168 [ag (G38 v 0)] fun l39 =>
 .ret (g l39 0) []) (
 .ret (.bool false) [])) (
 .ret (.bool false) [])))))))))))))))
theorem yV:aS oc Tryz.f93 uD:=aU Tryz.func93 [(25,[5,6,7,8])] [(4,.unroll 3)] [] fun _=>by kernel_rfl
abbrev bC:FuncId:=96
def gw (v:List Value):Tree :=
 c1 170 [g v 0,g v 1] fun l0 =>
 pH (g l0 0) (iv 0) fun v1 =>
 .ret v1 []
theorem kg:aS bC Tryz.f96 gw:=aU Tryz.func96 [(25,[5,6,7,8])] [] [] fun _=>by kernel_rfl
abbrev uO:FuncId:=101
def uB (v:List Value):Tree :=
 .newbox fun r0 =>
 kN r0<|
 c1 93 [ag (G38 v 0)] fun l0 =>
 pO (g l0 0) fun v1 =>
 .br v1 (
 .ret (.tuple #[iv 0,iv 2]) []) (
 kN r0<|
 cS 160 [g v 0,g v 38,.func (.func 173) #[] #[]] (.tup [none,none]) fun l2 =>
 pO (g l2 1) fun v3 =>
 .br v3 (
 .ret (.tuple #[iv 0,iv 9]) []) (
 .ret (.tuple #[g l2 0,iv 0]) []))
theorem yT:aS uO Tryz.f101 uB:=aU Tryz.func101 [(25,[5,6,7,8])] [] [] fun _=>by kernel_rfl
abbrev rZ:FuncId:=102
def rG (v:List Value):Tree :=
 pH (g v 0) (g v 1) fun v0 =>
 kV v0<|
 kV v0<|
 pM (g v 0) (g v 2) fun v1 =>
 kV v0<|
 pK v0 v1 (.bool false) fun v2 =>
 .ret v2 []
theorem xR:aS rZ Tryz.f102 rG:=aU Tryz.func102 [(25,[5,6,7,8])] [] [] fun _=>by kernel_rfl
abbrev rW:FuncId:=104
def rD (v:List Value):Tree :=
 .newbox fun r0 =>
 .newbox fun r1 =>
 kN r0<|
 cS 179 [ag (G12 v 0)] (.agg 12) fun l0 =>
 .newbox fun r2 =>
 kN r2<|
 pE (g v 12) (iv 2) fun v1 =>
 kN r2<|
 kN r2<|
 kN r2<|
 kN r2<|
 kN r2<|
 kN r1<|
 kN r1<|
 .ret (ag (G6 l0 0++[iv 0,g l0 7,g l0 8,.bool false,v1,.bool false])) []
theorem xO:aS rW Tryz.f104 rD:=aU Tryz.func104 [(25,[5,6,7,8])] [] [] fun _=>by kernel_rfl
abbrev ng:FuncId:=106
def gV (a b:List Value) (c:Nat):Tree :=
 cS 38 [g a 0,ag (G38 b 0),g b c] (.tup []) fun l11 =>
 .ret (.tuple #[]) []
def mR (v:List Value):Tree :=
 kP (g v 0)<|
 kP (g v 0)<|
 .load [] (an (g v 0) 7) 38 fun l0 =>
 .newbox fun r0 =>
 kN r0<|
 kN r0<|
 pZ (g l0 30) fun v1 =>
 pG v1 (iv 0) fun v2 =>
 .br v2 (
 kN r0<|
 cS 182 [ag (G38 l0 0)] (.tup [some 38,none]) fun l3 =>
 cS 38 [g v 0,ag (G38 l3 0),g l3 38] (.tup []) fun l4 =>
 kP (g v 0)<|
 kP (g v 0)<|
 kP (an (g v 0) 7)<|
 .load [] (an (an (g v 0) 7) 29) 1 fun l5 =>
 pZ (g l5 0) fun v6 =>
 pG v6 (iv 0) fun v7 =>
 .br v7 (
 cS 86 [g v 0] (.tup []) fun l8 =>
 .ret (.tuple #[]) []) (
 .ret (.tuple #[]) [])) (
 kN r0<|
 pE (g l0 35) (iv 0) fun v9 =>
 .br v9 (
 kN r0<|
 cS 183 [ag (G38 l0 0)] (.tup [some 38,none]) fun l10 =>
 gV v l10 38) (
 kP (g v 0)<|
 kP (g v 0)<|
 .load [] (an (g v 0) 6) 1 fun l12 =>
 kN r0<|
 c1 69 [g l12 0,ag (G38 l0 0)] fun l13 =>
 pN (g l13 0) (iv 0) fun v14 =>
 .br v14 (
 kN r0<|
 cS 152 [ag (G38 l0 0)] (.tup [some 38,some 5,none]) fun l15 =>
 .newbox fun r1 =>
 .newbox fun r2 =>
 kN r1<|
 kN r2<|
 kN r1<|
 gV v l15 43) (
 kN r0<|
 pZ (g l0 29) fun v17 =>
 pG v17 (iv 0) fun v18 =>
 .br v18 (
 cS 86 [g v 0] (.tup []) fun l19 =>
 .ret (.tuple #[]) []) (
 cS 184 [g v 0] (.tup []) fun l20 =>
 .ret (.tuple #[]) []))))
theorem sn:aS ng Tryz.f106 mR:=aU Tryz.func106 [(25,[5,6,7,8])] [] [] fun _=>by kernel_rfl
abbrev xu:FuncId:=107
def wR (v:List Value):Tree :=
 pZ (g v 0) fun v0 =>
 .loop 5 3 [iv 0] fun C5 l1 =>
 pL (g l1 0) v0 fun v2 =>
 .br v2 (
 pI 1 (g v 0) (g l1 0) fun v3 =>
 .load [] v3 1 fun l4 =>
 pN (g l4 0) (iv 0) fun v5 =>
 .br v5 (
 .ret (g l4 0) []) (
 pA (g l1 0) (iv 1) fun v6 =>
 .cont 5 C5 [v6] (Es [[iv 0],[g v 0],[v0]]))) (
 .ret (iv 0) [])
theorem A6:aS xu Tryz.f107 wR:=aU Tryz.func107 [(25,[5,6,7,8])] [(3,.inv [8] [3,6,7] [])] [] fun _=>by kernel_rfl
abbrev nn:FuncId:=108
def mX (v:List Value):Tree :=
 c1 185 [g v 0] fun l0 =>
 c1 185 [g v 1] fun l1 =>
 .br (g l0 0) (
 .br (g l1 0) (
 .ret (iv 0) []) (
 .ret (iv (-1)) [])) (
 .br (g l1 0) (
 .ret (iv 1) []) (
 pL (g v 0) (g v 1) fun v2 =>
 .br v2 (
 .ret (iv (-1)) []) (
 pG (g v 0) (g v 1) fun v3 =>
 .br v3 (
 .ret (iv 1) []) (
 .ret (iv 0) []))))
theorem sB:aS nn Tryz.f108 mX:=aU Tryz.func108 [(25,[5,6,7,8])] [] [] fun _=>by kernel_rfl
abbrev kM:FuncId:=109
def qh (v:List Value):Tree :=
 .newbox fun r0 =>
 .ret (iv 0) []
theorem ve:aS kM Tryz.f109 qh:=aU Tryz.func109 [(25,[5,6,7,8])] [] [] fun _=>by kernel_rfl
abbrev AK:FuncId:=110
abbrev AI:FuncId:=111
abbrev K2:FuncId:=112
abbrev bD:FuncId:=113
def bB (v:List Value):Tree :=
 .pure [] (.bin .eql .slice) [g v 0,.slice none 0 0] fun v0 =>
 .br v0 (
 .ret (.slice none 0 0) []) (
 .newbox fun r0 =>
 .prim (.bi .append #[87,87] 87) [.slice (some ⟨r0,0,none⟩) 0 0,g v 0] [⟨r0,205,[]⟩] [] .one fun l1 _ =>
 .ret (g l1 0) [])
theorem cR:aS bD Tryz.f113 bB:=aU Tryz.func113 [(25,[5,6,7,8])] [] [] fun _=>by kernel_rfl
abbrev bn:FuncId:=114
def bm (v:List Value):Tree :=
 .pure [] (.bin .eql .slice) [g v 0,.slice none 0 0] fun v0 =>
 .br v0 (
 .ret (.slice none 0 0) []) (
 .newbox fun r0 =>
 .prim (.bi .append #[88,88] 88) [.slice (some ⟨r0,0,none⟩) 0 0,g v 0] [⟨r0,209,[]⟩] [] .one fun l1 _ =>
 .ret (g l1 0) [])
theorem ct:aS bn Tryz.f114 bm:=aU Tryz.func114 [(25,[5,6,7,8])] [] [] fun _=>by kernel_rfl
abbrev nk:FuncId:=115
def vQ (v:List Value):Tree :=
 pZ (g v 0) fun v0 =>
 pG v0 (iv 400) fun v1 =>
 .br v1 (
 .ret (.tuple #[.pointer none,iv 5]) []) (
 pZ (g v 0) fun v2 =>
 .loop 8 4 [iv 0] fun C8 l3 =>
 pL (g l3 0) v2 fun v4 =>
 .br v4 (
 pI 14 (g v 0) (g l3 0) fun v5 =>
 .load [] v5 14 fun l6 =>
 .newbox fun r0 =>
 kN r0<|
 kN r0<|
 c1 191 [ag (G14 l6 0)] fun l7 =>
 pO (g l7 0) fun v8 =>
 .br v8 (
 .ret (.tuple #[.pointer none,iv 2]) []) (
 pA (g l3 0) (iv 1) fun v9 =>
 .cont 8 C8 [v9] (Es [[g v 0],[g v 0],[v2]]))) (
 .prim (.makeMap 278 false) [] [] [] .one fun l10 _ =>
 .newbox fun r1 =>
 pZ (g v 0) fun v11 =>
 .loop 17 11 [iv 0,.slice none 0 0] fun C17 l12 =>
 pL (g l12 0) v11 fun v13 =>
 .br v13 (
 pI 14 (g v 0) (g l12 0) fun v14 =>
 .load [] v14 14 fun l15 =>
 .newbox fun r2 =>
 kN r2<|
 kN r1<|
 kN r2<|
 .prim (.lookup 278 true) [g l10 0,g l15 0] [] [] (.tup [none,none]) fun l16 _ =>
 .br (g l16 1) (
 .ret (.tuple #[.pointer none,iv 11]) []) (
 kN r1<|
 kN r2<|
 .prim (.mapUpdate 278) [g l10 0,g l15 0,g l12 0] [] [] .one fun l17 _ =>
 kN r1<|
 kN r2<|
 cS 49 [ag (G14 l15 0)] (.agg 14) fun l18 =>
 .newbox fun r3 =>
 .prim (.bi .append #[24,24] 24) [g l12 1,.slice (some ⟨r3,0,none⟩) 1 1] [⟨r3,90,(G14 l18 0)⟩] [] .one fun l19 _ =>
 kN r1<|
 pA (g l12 0) (iv 1) fun v20 =>
 .cont 17 C17 [v20,g l19 0] (Es [[pt r1 0],[g v 0],[v11],[pt r1 0,.tuple #[],g l10 0]]))) (
 .ret (.tuple #[pt r1 0,iv 0]) [⟨r1,280,[g l12 1,g l10 0]⟩])))
theorem vU:aS nk Tryz.f115 vQ:=aU Tryz.func115 [(25,[5,6,7,8])] [(4,.inv [16] [0,14,15] []),(11,.inv [29] [6,27,28] [(6,[0])])] [] fun _=>by kernel_rfl
abbrev AH:FuncId:=116
def Au (v:List Value):Tree :=
 pZ (g v 0) fun v0 =>
 pG v0 (iv 65536) fun v1 =>
 .br v1 (
 .ret (.tuple #[.pointer none,iv 5]) []) (
 c1 192 [g v 0] fun l2 =>
 .newbox fun r0 =>
 .ret (.tuple #[pt r0 0,iv 0]) [⟨r0,148,[.bool true,g l2 0,iv 0]⟩])
theorem DG:aS AH Tryz.f116 Au:=aU Tryz.func116 [(25,[5,6,7,8])] [] [] fun _=>by kernel_rfl
abbrev iW:FuncId:=117
def mV (v:List Value):Tree :=
 c1 193 [g v 0] fun l0 =>
 .loop 5 3 [.slice none 0 0,iv 0] fun C5 l1 =>
 pL (g l1 1) (g l0 0) fun v2 =>
 .br v2 (
 kP (g v 0)<|
 kP (g v 0)<|
 .load [] (g v 0) 1 fun l3 =>
 pI 14 (g l3 0) (g l1 1) fun v4 =>
 .load [] v4 14 fun l5 =>
 cS 49 [ag (G14 l5 0)] (.agg 14) fun l6 =>
 .newbox fun r0 =>
 .prim (.bi .append #[24,24] 24) [g l1 0,.slice (some ⟨r0,0,none⟩) 1 1] [⟨r0,90,(G14 l6 0)⟩] [] .one fun l7 _ =>
 pA (g l1 1) (iv 1) fun v8 =>
 .cont 5 C5 [g l7 0,v8] (Es [[g v 0],[g l0 0]])) (
 .ret (g l1 0) [])
theorem sy:aS iW Tryz.f117 mV:=aU Tryz.func117 [(25,[5,6,7,8])] [(3,.inv [3,7] [0,6] [])] [] fun _=>by kernel_rfl
abbrev f4:FuncId:=118
def fZ (v:List Value):Tree :=
 pZ (g v 0) fun v0 =>
 .loop 4 2 [iv 0] fun C4 l1 =>
 pL (g l1 0) v0 fun v2 =>
 .br v2 (
 pI 1 (g v 0) (g l1 0) fun v3 =>
 .load [] v3 1 fun l4 =>
 .callv false (g v 1) [g l4 0] [] [] .one fun l5 _ =>
 .br (g l5 0) (
 .ret (g l1 0) []) (
 pA (g l1 0) (iv 1) fun v6 =>
 .cont 4 C4 [v6] (Es [[g v 0],[g v 1],[v0]]))) (
 .ret (iv (-1)) [])
theorem jM:aS f4 Tryz.f118 fZ:=aU Tryz.func118 [(25,[5,6,7,8])] [(2,.inv [8] [0,1,7] [])] [] fun _=>by kernel_rfl
abbrev xn:FuncId:=119
def wN (v:List Value):Tree :=
 .newbox fun r0 =>
 kN r0<|
 kN r0<|
 .ret (.agg #[g v 0,g v 1,g v 2,iv 0,iv 0,iv 0,iv 0,iv 0,iv 0,.bool false,.bool false,.bool false]) []
theorem AZ:aS xn Tryz.f119 wN:=aU Tryz.func119 [(25,[5,6,7,8])] [] [] fun _=>by kernel_rfl
abbrev fO:FuncId:=120
def eT (a:List Value) (b:Int) (c:Nat):Tree :=
 pZ (g a 1) fun v2 =>
 pS v2 (iv 1) fun v3 =>
 c1 194 [g a 0,v3,iv b] fun l4 =>
 pN (g l4 0) (iv 0) fun v5 =>
 .br v5 (
 .ret (.tuple #[.slice none 0 0,g l4 0]) []) (
 c1 57 [g a 1] fun l6 =>
 pZ (g l6 0) fun v7 =>
 pS v7 (iv 1) fun v8 =>
 .loop c 9 [v8] fun C23 l9 =>
 pG (g l9 0) (iv 0) fun v10 =>
 .br v10 (
 pA (g l9 0) (iv 1) fun v11 =>
 c1 195 [g a 0,v11] fun l12 =>
 pI 1 (g l6 0) (g l12 0) fun v13 =>
 .load [] v13 1 fun l14 =>
 pI 1 (g l6 0) (g l9 0) fun v15 =>
 .load [] v15 1 fun l16 =>
 pI 1 (g l6 0) (g l9 0) fun v17 =>
 kP v17<|
 .store v17 [g l14 0]<|
 pI 1 (g l6 0) (g l12 0) fun v18 =>
 kP v18<|
 .store v18 [g l16 0]<|
 pS (g l9 0) (iv 1) fun v19 =>
 .cont c C23 [v19] (Es [[g a 0],[g l6 0]])) (
 .ret (.tuple #[g l6 0,iv 0]) []))
def jl (v:List Value):Tree :=
 pZ (g v 1) fun v0 =>
 pG v0 (iv 65536) fun v1 =>
 .br v1 (
 eT v 5 23) (
 eT v 0 22)
theorem nz:aS fO Tryz.f120 jl:=aU Tryz.func120 [(25,[5,6,7,8])] [(9,.inv [9] [0,8] [])] [] fun _=>by kernel_rfl
abbrev qC:FuncId:=121
def rM (a:Nat):Tree :=
 kN a<|
 kN a<|
 .ret (.tuple #[ag Z5,iv 2]) []
def rN (a b:Nat) (c d:List Value):Tree :=
 kN a<|
 kN b<|
 kN b<|
 .ret (.tuple #[ag (G6 c 0++((g d 1)::((g d 2)::(G12 c 8++((g d 3)::((g d 4)::G16 c 22)))))),iv 0]) []
def wZ (v:List Value):Tree :=
 .newbox fun r0 =>
 .newbox fun r1 =>
 kN r0<|
 c1 93 [ag (G38 v 0)] fun l0 =>
 pO (g l0 0) fun v1 =>
 .br v1 (
 rM r1) (
 c1 102 [g v 38,iv 0,iv 1] fun l2 =>
 pO (g l2 0) fun v3 =>
 kV v3<|
 pL (g v 39) (iv 0) fun v4 =>
 kV v3<|
 pK v3 (.bool true) v4 fun v5 =>
 .br v5 (
 rM r1) (
 kN r0<|
 cS 23 [ag (G38 v 0)] (.agg 38) fun l6 =>
 kN r0<|
 .sw (g v 38) 0 (
 .loop 22 5 [g v 39,g l6 6,g l6 7,g l6 20,g l6 21] fun C22 l7 =>
 pG (g l7 0) (iv 0) fun v8 =>
 .br v8 (
 kN r0<|
 pZ (g l7 1) fun v9 =>
 pE v9 (iv 0) fun v10 =>
 .br v10 (
 kN r0<|
 kN r0<|
 kN r1<|
 kN r1<|
 .ret (.tuple #[ag (G6 l6 0++((g l7 1)::((g l7 2)::((g l6 8)::((g l6 9)::((.bool true)::(G9 l6 11++((g l7 3)::((g l7 4)::G16 l6 22))))))))),iv 0]) []) (
 kN r0<|
 pS v9 (iv 1) fun v11 =>
 pI 1 (g l7 1) v11 fun v12 =>
 .load [] v12 1 fun l13 =>
 kN r0<|
 pS v9 (iv 1) fun v14 =>
 .pure [] (.slc 1 false true false) [g l7 1,v14] fun v15 =>
 kN r0<|
 .newbox fun r2 =>
 .prim (.bi .append #[25,25] 25) [g l7 2,.slice (some ⟨r2,0,none⟩) 1 1] [⟨r2,3,[g l13 0]⟩] [] .one fun l16 _ =>
 kN r0<|
 kN r0<|
 kN r0<|
 cS 101 [ag (G6 l6 0++(v15::((g l16 0)::(G12 l6 8++((g l7 3)::((g l7 4)::G16 l6 22)))))),g l13 0] (.tup [none,none]) fun l17 =>
 kN r0<|
 kN r0<|
 pI 12 (g l6 0) (g l17 0) fun v18 =>
 .load [] v18 12 fun l19 =>
 cS 104 [ag (G12 l19 0),iv 1] (.agg 12) fun l20 =>
 pI 12 (g l6 0) (g l17 0) fun v21 =>
 kP v21<|
 .store v21 (G12 l20 0)<|
 pS (g l7 0) (iv 1) fun v22 =>
 .cont 22 C22 [v22,v15,g l16 0,g l7 3,g l7 4] (Es [[pt r0 0],[pt r1 0],[pt r0 1],((pt r0 0)::(G6 l6 0++((.tuple #[])::((.tuple #[])::(G12 l6 8++((.tuple #[])::((.tuple #[])::G16 l6 22))))))),[pt r1 0,.slice none 0 0,iv 0,iv 0,iv 0,iv 0,iv 0,.slice none 0 0,.slice none 0 0,.slice none 0 0,.slice none 0 0,.bool false,.bool false,.bool false,iv 0,iv 0,iv 0,iv 0,iv 0,iv 0,iv 0,.slice none 0 0,.slice none 0 0,.slice none 0 0,.slice none 0 0,.bool false,.bool false,.bool false,iv 0,iv 0,.slice none 0 0,.slice none 0 0,.slice none 0 0,.slice none 0 0,iv 0,iv 0,iv 0,iv 0,iv 0]]))) (
 rN r0 r1 l6 l7)) (
 .sw (g v 38) 1 (
 .loop 22 5 [g v 39,g l6 6,g l6 7,g l6 20,g l6 21] fun C22 l23 =>
 pG (g l23 0) (iv 0) fun v24 =>
 .br v24 (
 kN r0<|
 pZ (g l23 3) fun v25 =>
 pE v25 (iv 0) fun v26 =>
 .br v26 (
 kN r0<|
 kN r0<|
 kN r1<|
 kN r1<|
 .ret (.tuple #[ag (G6 l6 0++((g l23 1)::((g l23 2)::(G12 l6 8++((g l23 3)::((g l23 4)::((g l6 22)::((g l6 23)::((.bool true)::G13 l6 25))))))))),iv 0]) []) (
 kN r0<|
 pS v25 (iv 1) fun v27 =>
 pI 1 (g l23 3) v27 fun v28 =>
 .load [] v28 1 fun l29 =>
 kN r0<|
 pS v25 (iv 1) fun v30 =>
 .pure [] (.slc 1 false true false) [g l23 3,v30] fun v31 =>
 kN r0<|
 .newbox fun r3 =>
 .prim (.bi .append #[25,25] 25) [g l23 4,.slice (some ⟨r3,0,none⟩) 1 1] [⟨r3,3,[g l29 0]⟩] [] .one fun l32 _ =>
 kN r0<|
 kN r0<|
 kN r0<|
 cS 101 [ag (G6 l6 0++((g l23 1)::((g l23 2)::(G12 l6 8++(v31::((g l32 0)::G16 l6 22)))))),g l29 0] (.tup [none,none]) fun l33 =>
 kN r0<|
 kN r0<|
 pI 12 (g l6 0) (g l33 0) fun v34 =>
 .load [] v34 12 fun l35 =>
 cS 104 [ag (G12 l35 0),iv 1] (.agg 12) fun l36 =>
 pI 12 (g l6 0) (g l33 0) fun v37 =>
 kP v37<|
 .store v37 (G12 l36 0)<|
 pS (g l23 0) (iv 1) fun v38 =>
 .cont 22 C22 [v38,g l23 1,g l23 2,v31,g l32 0] (Es [[pt r0 0],[pt r1 0],[pt r0 15],((pt r0 0)::(G6 l6 0++((.tuple #[])::((.tuple #[])::(G12 l6 8++((.tuple #[])::((.tuple #[])::G16 l6 22))))))),[pt r1 0,.slice none 0 0,iv 0,iv 0,iv 0,iv 0,iv 0,.slice none 0 0,.slice none 0 0,.slice none 0 0,.slice none 0 0,.bool false,.bool false,.bool false,iv 0,iv 0,iv 0,iv 0,iv 0,iv 0,iv 0,.slice none 0 0,.slice none 0 0,.slice none 0 0,.slice none 0 0,.bool false,.bool false,.bool false,iv 0,iv 0,.slice none 0 0,.slice none 0 0,.slice none 0 0,.slice none 0 0,iv 0,iv 0,iv 0,iv 0,iv 0]]))) (
 rN r0 r1 l6 l23)) (
 .stuck 901))))
theorem Bg:aS qC Tryz.f121 wZ:=aU Tryz.func121 [(25,[5,6,7,8])] [(5,.inv [2] [3,6,8] [(3,[6,7,20,21]),(6,[])])] [] fun _=>by kernel_rfl
abbrev ej:FuncId:=122
def eh (v:List Value):Tree :=
 .pure [] (.bin .eql .slice) [g v 0,.slice none 0 0] fun v0 =>
 .br v0 (
 .ret (.slice none 0 0) []) (
 .newbox fun r0 =>
 .prim (.bi .append #[39,39] 39) [.slice (some ⟨r0,0,none⟩) 0 0,g v 0] [⟨r0,106,[]⟩] [] .one fun l1 _ =>
 .ret (g l1 0) [])
theorem hZ:aS ej Tryz.f122 eh:=aU Tryz.func122 [(25,[5,6,7,8])] [] [] fun _=>by kernel_rfl
abbrev dt:FuncId:=123
def dp (v:List Value):Tree :=
 .pure [] (.bin .eql .slice) [g v 0,.slice none 0 0] fun v0 =>
 .br v0 (
 .ret (.slice none 0 0) []) (
 .newbox fun r0 =>
 .prim (.bi .append #[104,104] 104) [.slice (some ⟨r0,0,none⟩) 0 0,g v 0] [⟨r0,122,[]⟩] [] .one fun l1 _ =>
 .ret (g l1 0) [])
theorem fS:aS dt Tryz.f123 dp:=aU Tryz.func123 [(25,[5,6,7,8])] [] [] fun _=>by kernel_rfl
abbrev qp:FuncId:=124
def qa (v:List Value):Tree :=
 pH (g v 0) (g v 1) fun v0 =>
 kV v0<|
 kV v0<|
 pM (g v 0) (g v 2) fun v1 =>
 kV v0<|
 pK v0 v1 (.bool false) fun v2 =>
 .ret v2 []
theorem uW:aS qp Tryz.f124 qa:=aU Tryz.func124 [(25,[5,6,7,8])] [] [] fun _=>by kernel_rfl
abbrev Az:FuncId:=125
def Am (v:List Value):Tree :=
 .newbox fun r0 =>
 .newbox fun r1 =>
 kN r1<|
 .call false 196 [ag (G38 v 1),.func (.func 197) #[] #[pt r0 0]] [] [⟨r0,24,[g v 0]⟩] .one fun l0 c0 =>
 .ret (g l0 0) []
theorem Dv:aS Az Tryz.f125 Am:=aU Tryz.func125 [(25,[5,6,7,8])] [] [] fun _=>by kernel_rfl
abbrev Df:FuncId:=126
def CX (v:List Value):Tree :=
 .newbox fun r0 =>
 kN r0<|
 c1 196 [ag (G38 v 0),.func (.func 199) #[] #[]] fun l0 =>
 .ret (g l0 0) []
theorem Fj:aS Df Tryz.f126 CX:=aU Tryz.func126 [(25,[5,6,7,8])] [] [] fun _=>by kernel_rfl
abbrev nj:FuncId:=127
def mU (v:List Value):Tree :=
 pZ (g v 0) fun v0 =>
 .loop 5 3 [.slice none 0 0,iv 0] fun C5 l1 =>
 pL (g l1 1) v0 fun v2 =>
 .br v2 (
 pI 1 (g v 0) (g l1 1) fun v3 =>
 .load [] v3 1 fun l4 =>
 .callv false (g v 1) [g l4 0] [] [] (.agg 3) fun l5 _ =>
 .newbox fun r0 =>
 .prim (.bi .append #[63,63] 63) [g l1 0,.slice (some ⟨r0,0,none⟩) 1 1] [⟨r0,69,[g l5 0,g l5 1,g l5 2]⟩] [] .one fun l6 _ =>
 pA (g l1 1) (iv 1) fun v7 =>
 .cont 5 C5 [g l6 0,v7] (Es [[g v 1],[g v 0],[v0]])) (
 .ret (g l1 0) [])
theorem sr:aS nj Tryz.f127 mU:=aU Tryz.func127 [(25,[5,6,7,8])] [(3,.inv [5,10] [1,8,9] [])] [] fun _=>by kernel_rfl
abbrev mh:FuncId:=128
def ry (v:List Value):Tree :=
 .newbox fun r0 =>
 .load [] (g v 1) 1 fun l0 =>
 kN r0<|
 kN r0<|
 .ret (.agg #[g l0 0,g v 0,iv 0]) []
theorem xI:aS mh Tryz.f128 ry:=aU Tryz.func128 [(25,[5,6,7,8])] [] [] fun _=>by kernel_rfl
abbrev fL:FuncId:=129
def fJ (v:List Value):Tree :=
 c1 118 [g v 0,g v 1] fun l0 =>
 pE (g l0 0) (iv (-1)) fun v1 =>
 .br v1 (
 .ret (g v 0) []) (
 pA (g l0 0) (iv 1) fun v2 =>
 .loop 10 5 [g l0 0,v2] fun C10 l3 =>
 pZ (g v 0) fun v4 =>
 pL (g l3 1) v4 fun v5 =>
 .br v5 (
 pI 1 (g v 0) (g l3 1) fun v6 =>
 .load [] v6 1 fun l7 =>
 .callv false (g v 1) [g l7 0] [] [] .one fun l8 _ =>
 pO (g l8 0) fun v9 =>
 .br v9 (
 pI 1 (g v 0) (g l3 0) fun v10 =>
 kP v10<|
 .store v10 [g l7 0]<|
 pA (g l3 0) (iv 1) fun v11 =>
 pA (g l3 1) (iv 1) fun v12 =>
 .cont 10 C10 [v11,v12] (Es [[g v 0],[g v 1]])) (
 pA (g l3 1) (iv 1) fun v13 =>
 .cont 10 C10 [g l3 0,v13] (Es [[g v 0],[g v 1]]))) (
 .pure [] (.slc 1 true false false) [g v 0,g l3 0] fun v14 =>
 .prim (.bi .clear #[25] 0) [v14] [] [] (.tup []) fun l15 _ =>
 .pure [] (.slc 1 false true false) [g v 0,g l3 0] fun v16 =>
 .ret v16 []))
theorem jp:aS fL Tryz.f129 fJ:=aU Tryz.func129 [(25,[5,6,7,8])] [(5,.inv [5,6] [0,1] [])] [] fun _=>by kernel_rfl
abbrev oz:FuncId:=130
def dZ (a:List Value) (b:Nat) (c:List Value):Tree :=
 kP (g a 1)<|
 .load [] (an (g a 1) 29) 1 fun l9 =>
 pZ (g l9 0) fun v10 =>
 pH v10 (iv 200) fun v11 =>
 .br v11 (
 .ret (.bool true) []) (
 .load [] (g a 2) 1 fun l12 =>
 .load [] (g a 1) 38 fun l13 =>
 .load [] (g a 5) 1 fun l14 =>
 kN b<|
 c1 131 [g l12 0,ag (G38 l13 0),g l14 0,ag (G5 c 2)] fun l15 =>
 pO (g l15 0) fun v16 =>
 .br v16 (
 .ret (.bool true) []) (
 .load [] (g a 2) 1 fun l17 =>
 .load [] (g a 1) 38 fun l18 =>
 .load [] (g a 5) 1 fun l19 =>
 kN b<|
 c1 132 [g l17 0,ag (G38 l18 0),g l19 0,g c 11] fun l20 =>
 pO (g l20 0) fun v21 =>
 .ret v21 []))
def ou (v:List Value):Tree :=
 .load [] (g v 1) 38 fun l0 =>
 cS 89 [ag (G38 l0 0),g v 0] (.tup [some 12,none]) fun l1 =>
 .newbox fun r0 =>
 kN r0<|
 .load [] (g v 2) 1 fun l2 =>
 kN r0<|
 cS 90 [g l2 0,ag (G12 l1 0)] (.agg 14) fun l3 =>
 .newbox fun r1 =>
 kN r1<|
 kN r1<|
 pE (g l3 1) (iv 1) fun v4 =>
 .br v4 (
 .load [] (g v 3) 1 fun l5 =>
 .chk (.ptr [((g l5 0),false)] (g v 4))<|
 kV (g l5 0)<|
 .load [((g l5 0),false)] (an (g v 4) 10) 1 fun l6 =>
 kV (g l5 0)<|
 pK (g l5 0) (.bool true) (g l6 0) fun v7 =>
 .ret v7 []) (
 pE (g l3 1) (iv 4) fun v8 =>
 .br v8 (
 dZ v r1 l3) (
 pE (g l3 1) (iv 2) fun v22 =>
 .br v22 (
 .br v22 (
 .load [] (g v 3) 1 fun l23 =>
 .br (g l23 0) (
 .ret (.bool true) []) (
 dZ v r1 l3)) (
 .ret (.bool true) [])) (
 pE (g l3 1) (iv 3) fun v37 =>
 .br v37 (
 .load [] (g v 3) 1 fun l38 =>
 .br (g l38 0) (
 .ret (.bool true) []) (
 dZ v r1 l3)) (
 .ret (.bool true) []))))
theorem tw:aS oz Tryz.f130 ou:=aU Tryz.func130 [(25,[5,6,7,8])] [] [] fun _=>by kernel_rfl
abbrev Hm:FuncId:=131
def Hi (v:List Value):Tree :=
 .newbox fun r0 =>
 .newbox fun r1 =>
 kN r0<|
 kN r1<|
 cS 156 [g v 0,ag (G38 v 1),g v 39,ag (G5 v 40)] (.tup [none,some 4,none]) fun l0 =>
 .newbox fun r2 =>
 kN r2<|
 pE (g l0 5) (iv 0) fun v1 =>
 .ret v1 []
theorem Hw:aS Hm Tryz.f131 Hi:=aU Tryz.func131 [(25,[5,6,7,8])] [] [] fun _=>by kernel_rfl
abbrev xf:FuncId:=132
def wG (v:List Value):Tree :=
 .newbox fun r0 =>
 .newbox fun r1 =>
 .newbox fun r2 =>
 kN r2<|
 pL (g v 39) (iv 0) fun v0 =>
 kN r2<|
 kV v0<|
 pG (g v 39) (iv 1) fun v1 =>
 kV v0<|
 pK v0 (.bool true) v1 fun v2 =>
 .br v2 (
 .ret (.bool false) []) (
 kN r1<|
 c1 93 [ag (G38 v 1)] fun l3 =>
 pO (g l3 0) fun v4 =>
 .br v4 (
 .ret (.bool false) []) (
 c1 133 [g v 40] fun l5 =>
 .call false 200 [g l5 0,.func (.func 201) #[] #[pt r0 0,pt r1 0,pt r2 0]] [] [⟨r0,24,[g v 0]⟩,⟨r1,43,(G38 v 1)⟩,⟨r2,3,[g v 39]⟩] .one fun l6 c6 =>
 pO (g l6 0) fun v7 =>
 .ret v7 []))
theorem AS:aS xf Tryz.f132 wG:=aU Tryz.func132 [(25,[5,6,7,8])] [] [] fun _=>by kernel_rfl
abbrev rP:FuncId:=133
def rq (v:List Value):Tree :=
 pZ (g v 0) fun v0 =>
 .loop 5 3 [.slice none 0 0,iv 0] fun C5 l1 =>
 pL (g l1 1) v0 fun v2 =>
 .br v2 (
 pI 5 (g v 0) (g l1 1) fun v3 =>
 .load [] v3 5 fun l4 =>
 .newbox fun r0 =>
 kN r0<|
 kN r0<|
 pN (g l4 1) (iv 0) fun v5 =>
 .br v5 (
 kN r0<|
 .newbox fun r1 =>
 .prim (.bi .append #[225,225] 225) [g l1 0,.slice (some ⟨r1,0,none⟩) 1 1] [⟨r1,156,[g l4 1]⟩] [] .one fun l6 _ =>
 pA (g l1 1) (iv 1) fun v7 =>
 .cont 5 C5 [g l6 0,v7] (Es [[g v 0],[v0]])) (
 pA (g l1 1) (iv 1) fun v8 =>
 .cont 5 C5 [g l1 0,v8] (Es [[g v 0],[v0]]))) (
 .ret (g l1 0) [])
theorem xF:aS rP Tryz.f133 rq:=aU Tryz.func133 [(25,[5,6,7,8])] [(3,.inv [3,8] [6,7] [])] [] fun _=>by kernel_rfl
abbrev iY:FuncId:=138
def eU (a:List Value) (b:List Value→Heap→Go.Sx.Own→Prop) (c d:List Value) (e:Nat) (f:Value):Tree :=
 pA (g a 1) (iv 1) fun v13 =>
 .cont 15 b [g c 0,v13] (Es [[g d 0],[g d 39],[pt e 0],[g d 1],[f],((pt e 0)::G38 d 1)])
def kG (a b:Nat) (c:List Value) (d:Nat) (e f:List Value) (h:List Value→Heap→Go.Sx.Own→Prop) (i:Value):Tree :=
 kN a<|
 kN b<|
 c1 96 [g c d,g e 0] fun l11 =>
 .br (g l11 0) (
 kN b<|
 .newbox fun r2 =>
 .prim (.bi .append #[25,25] 25) [g f 0,.slice (some ⟨r2,0,none⟩) 1 1] [⟨r2,3,[g e 0]⟩] [] .one fun l12 _ =>
 eU f h l12 c a i) (
 eU f h f c a i)
def mZ (v:List Value):Tree :=
 .newbox fun r0 =>
 c1 102 [g v 39,iv 0,iv 1] fun l0 =>
 pO (g l0 0) fun v1 =>
 .br v1 (
 .ret (.slice none 0 0) []) (
 kN r0<|
 c1 93 [ag (G38 v 1)] fun l2 =>
 pO (g l2 0) fun v3 =>
 .br v3 (
 .ret (.slice none 0 0) []) (
 kN r0<|
 pZ (g v 1) fun v4 =>
 .loop 15 5 [.slice none 0 0,iv 0] fun C15 l5 =>
 pL (g l5 1) v4 fun v6 =>
 .br v6 (
 pI 12 (g v 1) (g l5 1) fun v7 =>
 .load [] v7 12 fun l8 =>
 .newbox fun r1 =>
 kN r1<|
 kN r1<|
 pE (g l8 2) (g v 39) fun v9 =>
 .br v9 (
 kN r1<|
 c1 203 [g v 0,ag (G12 l8 0)] fun l10 =>
 .br (g l10 0) (
 .sw (g v 39) 0 (
 kG r0 r1 v 9 l8 l5 C15 v4) (
 .sw (g v 39) 1 (
 kG r0 r1 v 23 l8 l5 C15 v4) (
 .stuck 901))) (
 eU l5 C15 l5 v r0 v4)) (
 eU l5 C15 l5 v r0 v4)) (
 .ret (g l5 0) [])))
theorem sD:aS iY Tryz.f138 mZ:=aU Tryz.func138 [(25,[5,6,7,8])] [(5,.inv [7,21] [0,2,4,19,20] [(4,[])])] [] fun _=>by kernel_rfl
abbrev re:FuncId:=139
abbrev gx:FuncId:=149
def dk (v:List Value):Tree :=
 .newbox fun r0 =>
 pZ (g v 0) fun v0 =>
 .loop 5 2 [iv 0] fun C5 l1 =>
 pL (g l1 0) v0 fun v2 =>
 .br v2 (
 kN r0<|
 pI 3 (g v 0) (g l1 0) fun v3 =>
 .load [] v3 3 fun l4 =>
 .raw [] (.eqv .eql 69 false) [.agg #[g v 1,g v 2,g v 3],.agg #[g l4 0,g l4 1,g l4 2]] fun v5 =>
 .br v5 (
 .ret (g l1 0) []) (
 pA (g l1 0) (iv 1) fun v6 =>
 .cont 5 C5 [v6] (Es [[g v 0],[pt r0 0],[v0],[pt r0 0,g v 1,g v 2,g v 3]]))) (
 .ret (iv (-1)) [])
theorem fQ:aS gx Tryz.f149 dk:=aU Tryz.func149 [(25,[5,6,7,8])] [(2,.inv [8] [0,3,7] [(3,[])])] [] fun _=>by kernel_rfl
abbrev Ax:FuncId:=150
def Ak (v:List Value):Tree :=
 pL (g v 0) (iv 0) fun v0 =>
 kV v0<|
 pH (g v 0) (iv 11) fun v1 =>
 kV v0<|
 pK v0 (.bool true) v1 fun v2 =>
 .br v2 (
 .ret (.string ⟨#[]⟩) []) (
 .pure [] (.pidx 11 1) [pt 0 0,g v 0] fun v3 =>
 .load [] v3 1 fun l4 =>
 .ret (g l4 0) [])
theorem Du:aS Ax Tryz.f150 Ak:=aU Tryz.func150 [(25,[5,6,7,8])] [] [] fun _=>by kernel_rfl
abbrev jI:FuncId:=151
def jC (v:List Value):Tree :=
 kP (g v 0)<|
 kP (g v 0)<|
 .load [] (an (g v 0) 6) 1 fun l0 =>
 kP (g v 0)<|
 kP (g v 0)<|
 .load [] (an (g v 0) 7) 38 fun l1 =>
 kP (g v 0)<|
 kP (g v 0)<|
 kP (g v 0)<|
 .load [] (an (g v 0) 4) 1 fun l2 =>
 cS 210 [g l0 0,ag (G38 l1 0),g v 1,g l2 0] (.tup [some 38,none,none]) fun l3 =>
 .newbox fun r0 =>
 kN r0<|
 kN r0<|
 cS 38 [g v 0,ag (G38 l3 0),g l3 39] (.tup []) fun l4 =>
 .ret (.tuple #[]) []
theorem oI:aS jI Tryz.f151 jC:=aU Tryz.func151 [(25,[5,6,7,8])] [] [] fun _=>by kernel_rfl
abbrev rX:FuncId:=153
def rE (v:List Value):Tree :=
 .newbox fun r0 =>
 kN r0<|
 c1 211 [g v 0] fun l0 =>
 .raw [] (.eqv .neq 298 true) [g l0 0,.nilIface] fun v1 =>
 .br v1 (
 kN r0<|
 .callm false "zeitnot/effect.fits" (g l0 0) [ag (G5 v 0)] [] [] .one fun l2 _ =>
 .ret (g l2 0) []) (
 .ret (.bool false) [])
theorem xP:aS rX Tryz.f153 rE:=aU Tryz.func153 [(25,[5,6,7,8])] [] [] fun _=>by kernel_rfl
end Go.Proofs.YteakpllehopodaaGreatDoor
