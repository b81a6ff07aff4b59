/- The trees of the functions of this seat: printed by a tool of mine; each by the kernel's reckoning equal to the evaluator's. -/
import Derived.Test.YtdhobpmnkfmcfaaGreatDoorBT3
namespace Go.Proofs.YtdhobpmnkfmcfaaGreatDoor
open Go Go.Sx
set_option maxRecDepth 100000
abbrev jp:FuncId:=34
def iq (a:List Value) (b:List Value→Heap→Own→Prop) (c d:List Value) (e f:Nat) (h:Value):Tree :=
 pA (g a 1) (iv 1) fun v10 =>
 .cont 10 b [g c 0,v10] (Es [[g d 0],[pt e 0],[g d f],[h],((pt e 0)::G38 d 1)])
def ir (a:Nat) (b:List Value) (c:Nat):Tree :=
 kN a<|
 pZ (g b c) fun v0 =>
 .loop 10 3 [.slice none 0 0,iv 0] fun C10 l1 =>
 pL (g l1 1) v0 fun v2 =>
 .br v2 (
 pI 1 (g b c) (g l1 1) fun v3 =>
 .load [] v3 1 fun l4 =>
 kN a<|
 kN a<|
 c1 55 [ag (G38 b 1),g l4 0] fun l5 =>
 pI 12 (g b 1) (g l5 0) fun v6 =>
 .load [] v6 12 fun l7 =>
 c1 67 [g b 0,ag (G12 l7 0)] fun l8 =>
 .br (g l8 0) (
 .newbox fun r1 =>
 .prim (.bi .append #[26,26] 26) [g l1 0,.slice (some ⟨r1,0,none⟩) 1 1] [⟨r1,3,[g l4 0]⟩] [] .one fun l9 _ =>
 iq l1 C10 l9 b a c v0) (
 iq l1 C10 l1 b a c v0)) (
 c1 36 [g l1 0] fun l12 =>
 .ret (g l12 0) [])
def jo (v:List Value):Tree :=
 .newbox fun r0 =>
 .sw (g v 39) 0 (
 ir r0 v 9) (
 .sw (g v 39) 1 (
 ir r0 v 23) (
 .stuck 901))
theorem oL:bI jp Tryz.f34 jo:=bJ Tryz.func34 [(76,[5,6,7,8])] [(3,.inv [7,16] [0,4,14,15] [(4,[])])] [] fun _=>by kernel_rfl
abbrev kG:FuncId:=35
def km (v:List Value):Tree :=
 .loop 3 3 [.slice none 0 0,iv 0] fun C3 l0 =>
 pZ (g v 0) fun v1 =>
 pL (g l0 1) v1 fun v2 =>
 .br v2 (
 pI 1 (g v 0) (g l0 1) fun v3 =>
 .load [] v3 1 fun l4 =>
 .newbox fun r0 =>
 .prim (.bi .append #[51,51] 51) [g l0 0,.slice (some ⟨r0,0,none⟩) 1 1] [⟨r0,41,[g l4 0,iv 0]⟩] [] .one fun l5 _ =>
 pA (g l0 1) (iv 1) fun v6 =>
 .cont 3 C3 [g l5 0,v6] (Es [[g v 0]])) (
 .ret (g l0 0) [])
theorem qf:bI kG Tryz.f35 km:=bJ Tryz.func35 [(76,[5,6,7,8])] [(3,.inv [3,4] [0] [])] [] fun _=>by kernel_rfl
abbrev lK:FuncId:=36
def lB (v:List Value):Tree :=
 .loop 3 3 [.slice none 0 0,iv 0] fun C3 l0 =>
 pZ (g v 0) fun v1 =>
 pL (g l0 1) v1 fun v2 =>
 .br v2 (
 .loop 9 6 [iv 0] fun C9 l3 =>
 pZ (g l0 0) fun v4 =>
 pL (g l3 0) v4 fun v5 =>
 kV v5<|
 kV v5<|
 .pure [(v5,true)] (.idx 1) [g l0 0,g l3 0] fun v6 =>
 kV v5<|
 .load [(v5,true)] v6 1 fun l7 =>
 kV v5<|
 kV v5<|
 .pure [(v5,true)] (.idx 1) [g v 0,g l0 1] fun v8 =>
 kV v5<|
 .load [(v5,true)] v8 1 fun l9 =>
 kV v5<|
 kV v5<|
 pL (g l7 0) (g l9 0) fun v10 =>
 kV v5<|
 pK v5 v10 (.bool false) fun v11 =>
 .br v11 (
 pA (g l3 0) (iv 1) fun v12 =>
 .cont 9 C9 [v12] (Es [[g v 0],[g l0 0],[g l0 1]])) (
 pI 1 (g v 0) (g l0 1) fun v13 =>
 .load [] v13 1 fun l14 =>
 .pure [] (.slc 1 true false false) [g l0 0,g l3 0] fun v15 =>
 .newbox fun r0 =>
 .prim (.bi .append #[26,26] 26) [.slice (some ⟨r0,0,none⟩) 1 1,v15] [⟨r0,3,[g l14 0]⟩] [] .one fun l16 _ =>
 .pure [] (.slc 1 false true false) [g l0 0,g l3 0] fun v17 =>
 .prim (.bi .append #[26,26] 26) [.slice none 0 0,v17] [] [] .one fun l18 _ =>
 .prim (.bi .append #[26,26] 26) [g l18 0,g l16 0] [] [] .one fun l19 _ =>
 pA (g l0 1) (iv 1) fun v20 =>
 .cont 3 C3 [g l19 0,v20] (Es [[g v 0]]))) (
 .ret (g l0 0) [])
theorem re:bI lK Tryz.f36 lB:=bJ Tryz.func36 [(76,[5,6,7,8])] [(3,.inv [3,4] [0] []),(6,.inv [5] [0,3,4] [])] [] fun _=>by kernel_rfl
abbrev mB:FuncId:=37
def lU (v:List Value):Tree :=
 .newbox fun r0 =>
 kN r0<|
 cS 50 [g v 0,.agg #[iv 0,g v 3,iv 0,iv 0,iv 0,iv 0,iv 0,iv 0,iv 0,.bool false,.bool false,.bool false]] (.agg 14) fun l0 =>
 .newbox fun r1 =>
 kN r1<|
 kN r0<|
 pE (g v 4) (iv (-1)) fun v1 =>
 kN r1<|
 kV v1<|
 kV v1<|
 pE (g l0 1) (iv 3) fun v2 =>
 kV v1<|
 kN r1<|
 kV v2<|
 kV v1<|
 kV v2<|
 kV v1<|
 pE (g l0 1) (iv 4) fun v3 =>
 kV v1<|
 kV v2<|
 kV v1<|
 pK v2 (.bool true) v3 fun v4 =>
 kV v1<|
 pK v1 v4 (.bool false) fun v5 =>
 .br v5 (
 kN r0<|
 pZ (g v 5) fun v6 =>
 kN r1<|
 c1 68 [g l0 11] fun l7 =>
 pZ (g l7 0) fun v8 =>
 pH v6 v8 fun v9 =>
 .ret v9 []) (
 .ret (.bool false) [])
theorem sj:bI mB Tryz.f37 lU:=bJ Tryz.func37 [(76,[5,6,7,8])] [] [] fun _=>by kernel_rfl
abbrev lJ:FuncId:=38
def lw (v:List Value):Tree :=
 .loop 3 3 [.slice none 0 0,iv 0] fun C3 l0 =>
 pZ (g v 0) fun v1 =>
 pL (g l0 1) v1 fun v2 =>
 .br v2 (
 pI 5 (g v 0) (g l0 1) fun v3 =>
 .load [] v3 5 fun l4 =>
 .newbox fun r0 =>
 kN r0<|
 kN r0<|
 .prim (.bi .append #[51,51] 51) [.slice none 0 0,g l4 4] [] [] .one fun l5 _ =>
 kN r0<|
 kN r0<|
 .newbox fun r1 =>
 .prim (.bi .append #[30,30] 30) [g l0 0,.slice (some ⟨r1,0,none⟩) 1 1] [⟨r1,56,(G4 l4 0++[g l5 0])⟩] [] .one fun l6 _ =>
 pA (g l0 1) (iv 1) fun v7 =>
 .cont 3 C3 [g l6 0,v7] (Es [[g v 0]])) (
 .ret (g l0 0) [])
theorem qZ:bI lJ Tryz.f38 lw:=bJ Tryz.func38 [(76,[5,6,7,8])] [(3,.inv [3,4] [0] [])] [] fun _=>by kernel_rfl
abbrev uM:FuncId:=39
def uy (v:List Value):Tree :=
 .newbox fun r0 =>
 kN r0<|
 pZ (g v 30) fun v0 =>
 pE v0 (iv 0) fun v1 =>
 .br v1 (
 .ret (iv 0) []) (
 kN r0<|
 c1 59 [ag (G38 v 1)] fun l2 =>
 pO (g l2 0) fun v3 =>
 kN r0<|
 kV v3<|
 kV v3<|
 pS v0 (iv 1) fun v4 =>
 kV v3<|
 kV v3<|
 .pure [(v3,false)] (.idx 5) [g v 30,v4] fun v5 =>
 .chk (.ptr [(v3,false)] v5)<|
 kV v3<|
 kV v3<|
 .load [(v3,false)] (aO v5 3) 1 fun l6 =>
 kV v3<|
 pN (g l6 0) (iv (-1)) fun v7 =>
 kV v3<|
 pK v3 (.bool true) v7 fun v8 =>
 .br v8 (
 .ret (iv 0) []) (
 kN r0<|
 pS v0 (iv 1) fun v9 =>
 pI 5 (g v 30) v9 fun v10 =>
 .load [] v10 5 fun l11 =>
 .newbox fun r1 =>
 kN r1<|
 kN r1<|
 c1 43 [g v 0,ag (G5 l11 0)] fun l12 =>
 c1 69 [g l12 0] fun l13 =>
 kN r1<|
 pZ (g l11 4) fun v14 =>
 pZ (g l13 0) fun v15 =>
 pL v14 v15 fun v16 =>
 kV v16<|
 pL v14 (iv 4) fun v17 =>
 kV v16<|
 pK v16 v17 (.bool false) fun v18 =>
 .br v18 (
 pI 1 (g l13 0) v14 fun v19 =>
 .load [] v19 1 fun l20 =>
 .ret (g l20 0) []) (
 .ret (iv 0) [])))
theorem vD:bI uM Tryz.f39 uy:=bJ Tryz.func39 [(76,[5,6,7,8])] [] [] fun _=>by kernel_rfl
abbrev rN:FuncId:=40
def yM (a b:Nat) (c:Int):Tree :=
 kN a<|
 kN b<|
 kN a<|
 kN b<|
 .ret (.tuple #[ag Z0,.agg #[iv 0,iv 0,iv 0,iv 0,.slice none 0 0],iv c]) []
def wZ (v:List Value):Tree :=
 .newbox fun r0 =>
 .newbox fun r1 =>
 .newbox fun r2 =>
 kN r0<|
 c1 59 [ag (G38 v 0)] fun l0 =>
 pO (g l0 0) fun v1 =>
 .br v1 (
 yM r1 r2 2) (
 kN r0<|
 pZ (g v 29) fun v2 =>
 pE v2 (iv 0) fun v3 =>
 .br v3 (
 yM r1 r2 9) (
 kN r0<|
 cS 60 [ag (G38 v 0)] (.agg 38) fun l4 =>
 .newbox fun r3 =>
 kN r3<|
 kN r3<|
 pS v2 (iv 1) fun v5 =>
 pI 5 (g l4 29) v5 fun v6 =>
 .load [] v6 5 fun l7 =>
 .newbox fun r4 =>
 kN r4<|
 kN r4<|
 pE (g l7 3) (iv (-1)) fun v8 =>
 .br v8 (
 kN r0<|
 kN r4<|
 cS 42 [ag (G38 v 0),g l7 1,iv 3] (.tup [some 38,none]) fun l9 =>
 kN r3<|
 kN r3<|
 kN r4<|
 kN r1<|
 kN r2<|
 kN r1<|
 kN r2<|
 .ret (.tuple #[ag (G38 l9 0),ag (G5 l7 0),iv 0]) []) (
 kN r3<|
 pS v2 (iv 1) fun v10 =>
 .pure [] (.slc 5 false true false) [g l4 29,v10] fun v11 =>
 kN r3<|
 kN r3<|
 kN r4<|
 kN r1<|
 kN r2<|
 kN r1<|
 kN r2<|
 .ret (.tuple #[ag (G29 l4 0++(v11::G8 l4 30)),ag (G5 l7 0),iv 0]) [])))
theorem xp:bI rN Tryz.f40 wZ:=bJ Tryz.func40 [(76,[5,6,7,8])] [] [] fun _=>by kernel_rfl
abbrev nq:FuncId:=41
def rM (v:List Value):Tree :=
 .newbox fun r0 =>
 .newbox fun r1 =>
 kN r0<|
 cS 71 [g v 0,ag (G12 v 1)] (.agg 14) fun l0 =>
 cS 70 [ag (G14 l0 0)] (.agg 14) fun l1 =>
 kN r1<|
 kN r1<|
 .ret (ag (G14 l1 0)) []
theorem tL:bI nq Tryz.f41 rM:=bJ Tryz.func41 [(76,[5,6,7,8])] [] [] fun _=>by kernel_rfl
abbrev AT:FuncId:=42
def vZ (a:Nat):Tree :=
 kN a<|
 kN a<|
 .ret (.tuple #[ag Z0,iv 2]) []
def eh (a b:Nat) (c d:List Value) (e:Nat) (f:List Value) (h:Nat) (i:List Value) (j:Nat) (k:List Value) (l:Nat) (m:List Value) (n:Nat) (o:List Value) (p:Nat) (q:List Value) (r:Nat) (s:List Value) (t:Nat):Tree :=
 kN a<|
 kN a<|
 kN b<|
 kN b<|
 .ret (.tuple #[ag (G6 c 0++((g d e)::((g f h)::((g i j)::((g k l)::(G10 c 10++((g m n)::((g o p)::((g q r)::((g s t)::G14 c 24)))))))))),iv 0]) []
def AI (v:List Value):Tree :=
 .newbox fun r0 =>
 .newbox fun r1 =>
 kN r0<|
 cS 72 [ag (G38 v 0),g v 38] (.tup [none,none]) fun l0 =>
 pE (g l0 1) (iv 2) fun v1 =>
 .br v1 (
 vZ r1) (
 c1 73 [g v 39,iv 0,iv 3] fun l2 =>
 pO (g l2 0) fun v3 =>
 .br v3 (
 vZ r1) (
 pN (g l0 1) (iv 0) fun v4 =>
 .br v4 (
 kN r1<|
 kN r1<|
 .ret (.tuple #[ag Z0,g l0 1]) []) (
 kN r0<|
 cS 74 [ag (G38 v 0),g v 38] (.agg 38) fun l5 =>
 kN r0<|
 kN r0<|
 pI 12 (g l5 0) (g l0 0) fun v6 =>
 .load [] v6 12 fun l7 =>
 cS 75 [ag (G12 l7 0),g v 39] (.agg 12) fun l8 =>
 .newbox fun r2 =>
 kN r2<|
 kN r0<|
 kN r2<|
 pI 12 (g l5 0) (g l0 0) fun v9 =>
 kP v9<|
 .store v9 (G12 l8 0)<|
 kN r2<|
 .sw (g l8 2) 0 (
 cS 76 [pt r0 1] (.agg 4) fun l10 =>
 kW (g l10 0) r0 6<|
 kW (g l10 1) r0 7<|
 kW (g l10 2) r0 8<|
 kW (g l10 3) r0 9<|
 .sw (g v 39) 0 (
 kN r0<|
 .newbox fun r3 =>
 .prim (.bi .append #[26,26] 26) [g l5 6,.slice (some ⟨r3,0,none⟩) 1 1] [⟨r3,3,[g v 38]⟩] [] .one fun l11 _ =>
 eh r0 r1 l5 l11 0 l5 7 l5 8 l5 9 l5 20 l5 21 l5 22 l5 23) (
 .sw (g v 39) 1 (
 kN r0<|
 .newbox fun r4 =>
 .prim (.bi .append #[26,26] 26) [g l5 7,.slice (some ⟨r4,0,none⟩) 1 1] [⟨r4,3,[g v 38]⟩] [] .one fun l12 _ =>
 eh r0 r1 l5 l5 6 l12 0 l5 8 l5 9 l5 20 l5 21 l5 22 l5 23) (
 .sw (g v 39) 2 (
 kN r0<|
 .newbox fun r5 =>
 .prim (.bi .append #[26,26] 26) [g l5 8,.slice (some ⟨r5,0,none⟩) 1 1] [⟨r5,3,[g v 38]⟩] [] .one fun l13 _ =>
 eh r0 r1 l5 l5 6 l5 7 l13 0 l5 9 l5 20 l5 21 l5 22 l5 23) (
 .sw (g v 39) 3 (
 kN r0<|
 .newbox fun r6 =>
 .prim (.bi .append #[26,26] 26) [g l5 9,.slice (some ⟨r6,0,none⟩) 1 1] [⟨r6,3,[g v 38]⟩] [] .one fun l14 _ =>
 eh r0 r1 l5 l5 6 l5 7 l5 8 l14 0 l5 20 l5 21 l5 22 l5 23) (
 .stuck 901))))) (
 .sw (g l8 2) 1 (
 cS 76 [pt r0 15] (.agg 4) fun l15 =>
 kW (g l15 0) r0 20<|
 kW (g l15 1) r0 21<|
 kW (g l15 2) r0 22<|
 kW (g l15 3) r0 23<|
 .sw (g v 39) 0 (
 kN r0<|
 .newbox fun r7 =>
 .prim (.bi .append #[26,26] 26) [g l5 20,.slice (some ⟨r7,0,none⟩) 1 1] [⟨r7,3,[g v 38]⟩] [] .one fun l16 _ =>
 eh r0 r1 l5 l5 6 l5 7 l5 8 l5 9 l16 0 l5 21 l5 22 l5 23) (
 .sw (g v 39) 1 (
 kN r0<|
 .newbox fun r8 =>
 .prim (.bi .append #[26,26] 26) [g l5 21,.slice (some ⟨r8,0,none⟩) 1 1] [⟨r8,3,[g v 38]⟩] [] .one fun l17 _ =>
 eh r0 r1 l5 l5 6 l5 7 l5 8 l5 9 l5 20 l17 0 l5 22 l5 23) (
 .sw (g v 39) 2 (
 kN r0<|
 .newbox fun r9 =>
 .prim (.bi .append #[26,26] 26) [g l5 22,.slice (some ⟨r9,0,none⟩) 1 1] [⟨r9,3,[g v 38]⟩] [] .one fun l18 _ =>
 eh r0 r1 l5 l5 6 l5 7 l5 8 l5 9 l5 20 l5 21 l18 0 l5 23) (
 .sw (g v 39) 3 (
 kN r0<|
 .newbox fun r10 =>
 .prim (.bi .append #[26,26] 26) [g l5 23,.slice (some ⟨r10,0,none⟩) 1 1] [⟨r10,3,[g v 38]⟩] [] .one fun l19 _ =>
 eh r0 r1 l5 l5 6 l5 7 l5 8 l5 9 l5 20 l5 21 l5 22 l19 0) (
 .stuck 901))))) (
 .stuck 901)))))
theorem EG:bI AT Tryz.f42 AI:=bJ Tryz.func42 [(76,[5,6,7,8])] [] [] fun _=>by kernel_rfl
abbrev uN:FuncId:=43
def uz (v:List Value):Tree :=
 .newbox fun r0 =>
 kN r0<|
 cS 41 [g v 0,.agg #[iv 0,g v 3,iv 0,iv 0,iv 0,iv 0,iv 0,iv 0,iv 0,.bool false,.bool false,.bool false]] (.agg 14) fun l0 =>
 .newbox fun r1 =>
 kN r1<|
 kN r0<|
 pE (g v 4) (iv (-1)) fun v1 =>
 .br v1 (
 kN r1<|
 .ret (g l0 11) []) (
 kN r0<|
 pL (g v 4) (iv 0) fun v2 =>
 kN r0<|
 kV v2<|
 kN r1<|
 kV v2<|
 kV v2<|
 pZ (g l0 12) fun v3 =>
 kV v2<|
 kV v2<|
 pH (g v 4) v3 fun v4 =>
 kV v2<|
 pK v2 (.bool true) v4 fun v5 =>
 .br v5 (
 .ret (.slice none 0 0) []) (
 kN r1<|
 kN r0<|
 pI 2 (g l0 12) (g v 4) fun v6 =>
 kP v6<|
 .load [] (aO v6 1) 1 fun l7 =>
 .ret (g l7 0) []))
theorem za:bI uN Tryz.f43 uz:=bJ Tryz.func43 [(76,[5,6,7,8])] [] [] fun _=>by kernel_rfl
abbrev sc:FuncId:=44
def fQ (a b:Nat) (c:List Value) (d:Nat):Tree :=
 kN a<|
 kN b<|
 c1 81 [g c 16,g c 43,iv 9999] fun l30 =>
 kN a<|
 kN a<|
 kN d<|
 kN d<|
 .ret (ag (G15 c 1++((g l30 0)::G22 c 17))) []
def gw (a b:Nat) (c:List Value) (d:Nat):Tree :=
 kN a<|
 kN b<|
 c1 81 [g c 2,g c 43,iv 9999] fun l6 =>
 kN a<|
 kN a<|
 kN d<|
 kN d<|
 .ret (ag ((g c 1)::((g l6 0)::G36 c 3))) []
def gx (a:Nat) (b:List Value) (c d:Nat):Tree :=
 kN a<|
 cS 84 [ag (G38 b 1),g b c] (.tup [some 38,none]) fun l16 =>
 kN a<|
 kN a<|
 kN d<|
 kN d<|
 .ret (ag (G38 l16 0)) []
def gy (a:Nat) (b:List Value) (c d:Nat):Tree :=
 kN a<|
 cS 42 [ag (G38 b 1),g b c,iv 1] (.tup [some 38,none]) fun l14 =>
 kN a<|
 kN a<|
 kN d<|
 kN d<|
 .ret (ag (G38 l14 0)) []
def gz (a b:Nat) (c:List Value) (d e:Nat):Tree :=
 kN a<|
 kN b<|
 cS 82 [ag (G38 c 1),g c d,g c 43] (.tup [some 38,none]) fun l8 =>
 kN a<|
 kN a<|
 kN e<|
 kN e<|
 .ret (ag (G38 l8 0)) []
def gA (a:Nat) (b:List Value) (c d e:Nat):Tree :=
 kN a<|
 .call false 78 [ag (G38 b 1),g b c,.func (.func 79) #[] #[pt d 0]] [] [⟨d,39,(G5 b 41)⟩] (.agg 38) fun l5 c5 =>
 kN e<|
 kN e<|
 .ret (ag (G38 l5 0)) []
def gB (a b:Nat) (c:List Value) (d:Nat):Tree :=
 kN a<|
 kN b<|
 kN b<|
 cS 85 [ag (G38 c 1),g c 39,g c 43,g c 44,g c 48] (.tup [some 38,none,none]) fun l18 =>
 kN a<|
 kN a<|
 kN d<|
 kN d<|
 .ret (ag (G38 l18 0)) []
def gC (a:Nat) (b:List Value) (c d e:Nat):Tree :=
 kN a<|
 c1 86 [g b 0,ag (G38 b 1),g b c] fun l24 =>
 pO (g l24 0) fun v25 =>
 .br v25 (
 kN a<|
 kN d<|
 kN d<|
 .ret (ag (G38 b 1)) []) (
 kN a<|
 .call false 78 [ag (G38 b 1),g b c,.func (.func 87) #[] #[pt e 0]] [] [⟨e,39,(G5 b 41)⟩] (.agg 38) fun l26 c26 =>
 kN d<|
 kN d<|
 .ret (ag (G38 l26 0)) [])
def aU (a:List Value) (b c:Nat) (d:List Value) (e:Nat) (f:List Value) (h i j k l m n:Nat):Tree :=
 .sw (g a 45) 0 (
 kN b<|
 kN b<|
 kN c<|
 kN c<|
 .ret (ag ((g a 1)::((g a 2)::((g d e)::(G13 a 4++((g f h)::G21 a 18)))))) []) (
 .sw (g a 45) 1 (
 kN b<|
 kN b<|
 kN c<|
 kN c<|
 .ret (ag ((g a 1)::((g a 2)::((g a 3)::((g d i)::(G13 a 5++((g f j)::G20 a 19))))))) []) (
 .sw (g a 45) 2 (
 kN b<|
 kN b<|
 kN c<|
 kN c<|
 .ret (ag (G4 a 1++((g d k)::(G13 a 6++((g f l)::G19 a 20))))) []) (
 .sw (g a 45) 3 (
 kN b<|
 kN b<|
 kN c<|
 kN c<|
 .ret (ag (G5 a 1++((g d m)::(G13 a 7++((g f n)::G18 a 21))))) []) (
 .stuck 901))))
def cN (a:List Value) (b c d e f:Nat):Tree :=
 .sw (g a b) 0 (
 kN c<|
 pE (g a 41) (iv 1) fun v3 =>
 .br v3 (
 pG (g a d) (iv 0) fun v4 =>
 .br v4 (
 gA e a d c f) (
 gw e c a f)) (
 pE (g a 41) (iv 2) fun v7 =>
 .br v7 (
 gz e c a b f) (
 pE (g a 41) (iv 3) fun v9 =>
 .br v9 (
 kN e<|
 kN c<|
 c1 83 [g a 2,g a 43,iv 9999] fun l10 =>
 kN e<|
 kN e<|
 kN f<|
 kN f<|
 .ret (ag ((g a 1)::((g l10 0)::G36 a 3))) []) (
 pE (g a 41) (iv 4) fun v11 =>
 .br v11 (
 gw e c a f) (
 pE (g a 41) (iv 6) fun v13 =>
 .br v13 (
 gy e a d f) (
 pE (g a 41) (iv 7) fun v15 =>
 .br v15 (
 gx e a d f) (
 pE (g a 41) (iv 10) fun v17 =>
 .br v17 (
 gB e c a f) (
 pE (g a 41) (iv 12) fun v19 =>
 .br v19 (
 kN c<|
 kN c<|
 .sw (g a 45) 0 (
 kN e<|
 kN c<|
 c1 83 [g a 3,g a 43,iv 99] fun l20 =>
 aU a e f l20 0 a 17 0 18 0 19 0 20) (
 .sw (g a 45) 1 (
 kN e<|
 kN c<|
 c1 83 [g a 4,g a 43,iv 99] fun l21 =>
 aU a e f l21 0 a 17 0 18 0 19 0 20) (
 .sw (g a 45) 2 (
 kN e<|
 kN c<|
 c1 83 [g a 5,g a 43,iv 99] fun l22 =>
 aU a e f l22 0 a 17 0 18 0 19 0 20) (
 .sw (g a 45) 3 (
 kN e<|
 kN c<|
 c1 83 [g a 6,g a 43,iv 99] fun l23 =>
 aU a e f l23 0 a 17 0 18 0 19 0 20) (
 .stuck 901))))) (
 gC e a d f c))))))))) (
 .sw (g a b) 1 (
 kN c<|
 pE (g a 41) (iv 1) fun v27 =>
 .br v27 (
 pG (g a d) (iv 0) fun v28 =>
 .br v28 (
 gA e a d c f) (
 fQ e c a f)) (
 pE (g a 41) (iv 2) fun v31 =>
 .br v31 (
 gz e c a b f) (
 pE (g a 41) (iv 3) fun v33 =>
 .br v33 (
 kN e<|
 kN c<|
 c1 83 [g a 16,g a 43,iv 9999] fun l34 =>
 kN e<|
 kN e<|
 kN f<|
 kN f<|
 .ret (ag (G15 a 1++((g l34 0)::G22 a 17))) []) (
 pE (g a 41) (iv 4) fun v35 =>
 .br v35 (
 fQ e c a f) (
 pE (g a 41) (iv 6) fun v37 =>
 .br v37 (
 gy e a d f) (
 pE (g a 41) (iv 7) fun v39 =>
 .br v39 (
 gx e a d f) (
 pE (g a 41) (iv 10) fun v41 =>
 .br v41 (
 gB e c a f) (
 pE (g a 41) (iv 12) fun v43 =>
 .br v43 (
 kN c<|
 kN c<|
 .sw (g a 45) 0 (
 kN e<|
 kN c<|
 c1 83 [g a 17,g a 43,iv 99] fun l44 =>
 aU a e f a 3 l44 0 4 0 5 0 6 0) (
 .sw (g a 45) 1 (
 kN e<|
 kN c<|
 c1 83 [g a 18,g a 43,iv 99] fun l45 =>
 aU a e f a 3 l45 0 4 0 5 0 6 0) (
 .sw (g a 45) 2 (
 kN e<|
 kN c<|
 c1 83 [g a 19,g a 43,iv 99] fun l46 =>
 aU a e f a 3 l46 0 4 0 5 0 6 0) (
 .sw (g a 45) 3 (
 kN e<|
 kN c<|
 c1 83 [g a 20,g a 43,iv 99] fun l47 =>
 aU a e f a 3 l47 0 4 0 5 0 6 0) (
 .stuck 901))))) (
 gC e a d f c))))))))) (
 .stuck 901))
def rU (v:List Value):Tree :=
 .newbox fun r0 =>
 .newbox fun r1 =>
 .newbox fun r2 =>
 .newbox fun r3 =>
 kN r1<|
 pN (g v 42) (iv 0) fun v0 =>
 .br v0 (
 kN r0<|
 kN r1<|
 kN r2<|
 c1 77 [g v 0,ag (G38 v 1),g v 39,g v 42,.agg #[g v 46,g v 47]] fun l1 =>
 pO (g l1 0) fun v2 =>
 .br v2 (
 kN r0<|
 kN r3<|
 kN r3<|
 .ret (ag (G38 v 1)) []) (
 kN r2<|
 kN r2<|
 cN v 47 r1 46 r0 r3)) (
 cN v 39 r1 40 r0 r3)
theorem xr:bI sc Tryz.f44 rU:=bJ Tryz.func44 [(76,[5,6,7,8])] [] [] fun _=>by kernel_rfl
abbrev oD:FuncId:=45
def oh (v:List Value):Tree :=
 .newbox fun r0 =>
 kN r0<|
 pL (g v 0) (iv 0) fun v0 =>
 kN r0<|
 kV v0<|
 kV v0<|
 pG (g v 0) (iv 1) fun v1 =>
 kV v0<|
 pK v0 (.bool true) v1 fun v2 =>
 kN r0<|
 kV v2<|
 kV v2<|
 pL (g v 1) (iv 1) fun v3 =>
 kV v2<|
 pK v2 (.bool true) v3 fun v4 =>
 kN r0<|
 kV v4<|
 kV v4<|
 pG (g v 1) (iv 500) fun v5 =>
 kV v4<|
 pK v4 (.bool true) v5 fun v6 =>
 kN r0<|
 kV v6<|
 kV v6<|
 pL (g v 2) (iv 0) fun v7 =>
 kV v6<|
 pK v6 (.bool true) v7 fun v8 =>
 kN r0<|
 kV v8<|
 kV v8<|
 pG (g v 2) (iv 399) fun v9 =>
 kV v8<|
 pK v8 (.bool true) v9 fun v10 =>
 kN r0<|
 kV v10<|
 kV v10<|
 pL (g v 3) (iv (-1)) fun v11 =>
 kV v10<|
 pK v10 (.bool true) v11 fun v12 =>
 kN r0<|
 kV v12<|
 kV v12<|
 pG (g v 3) (iv 1) fun v13 =>
 kV v12<|
 pK v12 (.bool true) v13 fun v14 =>
 kN r0<|
 kV v14<|
 kV v14<|
 pZ (g v 4) fun v15 =>
 kV v14<|
 pG v15 (iv 4) fun v16 =>
 kV v14<|
 pK v14 (.bool true) v16 fun v17 =>
 .br v17 (
 .ret (.bool false) []) (
 kN r0<|
 pH (g v 3) (iv 0) fun v18 =>
 kN r0<|
 kV v18<|
 kV v18<|
 pZ (g v 4) fun v19 =>
 kV v18<|
 pG v19 (iv 0) fun v20 =>
 kV v18<|
 pK v18 v20 (.bool false) fun v21 =>
 kV v21<|
 kN r0<|
 kV (g v 5)<|
 kV v21<|
 kV (g v 5)<|
 kV v21<|
 pL (g v 3) (iv 0) fun v22 =>
 kV v21<|
 kV (g v 5)<|
 kV v21<|
 pK (g v 5) v22 (.bool false) fun v23 =>
 kV v21<|
 pK v21 (.bool true) v23 fun v24 =>
 .br v24 (
 .ret (.bool false) []) (
 .loop 64 6 [iv 0] fun C64 l25 =>
 kN r0<|
 pZ (g v 4) fun v26 =>
 pL (g l25 0) v26 fun v27 =>
 .br v27 (
 kN r0<|
 pI 2 (g v 4) (g l25 0) fun v28 =>
 .load [] v28 2 fun l29 =>
 .newbox fun r1 =>
 kN r1<|
 kN r1<|
 pL (g l29 0) (iv 0) fun v30 =>
 kN r1<|
 kV v30<|
 kV v30<|
 pG (g l29 0) (iv 500) fun v31 =>
 kV v30<|
 pK v30 (.bool true) v31 fun v32 =>
 kN r1<|
 kV v32<|
 kV v32<|
 pL (g l29 1) (iv 0) fun v33 =>
 kV v32<|
 pK v32 (.bool true) v33 fun v34 =>
 kN r1<|
 kV v34<|
 kV v34<|
 pG (g l29 1) (iv 1) fun v35 =>
 kV v34<|
 pK v34 (.bool true) v35 fun v36 =>
 kN r1<|
 kV v36<|
 kV v36<|
 pG (g l29 0) (iv 0) fun v37 =>
 kV v36<|
 kN r1<|
 kV v37<|
 kV v36<|
 kV v37<|
 kV v36<|
 pN (g l29 1) (iv 0) fun v38 =>
 kV v36<|
 kV v37<|
 kV v36<|
 pK v37 v38 (.bool false) fun v39 =>
 kV v36<|
 pK v36 (.bool true) v39 fun v40 =>
 .br v40 (
 .ret (.bool false) []) (
 pA (g l25 0) (iv 1) fun v41 =>
 .cont 64 C64 [v41] (Es [[pt r0 0],((pt r0 0)::G5 v 0)]))) (
 .ret (.bool true) [])))
theorem tz:bI oD Tryz.f45 oh:=bJ Tryz.func45 [(76,[5,6,7,8])] [(6,.inv [5] [2] [(2,[])])] [] fun _=>by kernel_rfl
abbrev oz:FuncId:=46
def od (v:List Value):Tree :=
 .newbox fun r0 =>
 kN r0<|
 pL (g v 1) (iv 0) fun v0 =>
 kV v0<|
 pG (g v 1) (iv 99) fun v1 =>
 kV v0<|
 pK v0 (.bool true) v1 fun v2 =>
 .br v2 (
 .ret (.bool false) []) (
 pL (g v 2) (iv 0) fun v3 =>
 kV v3<|
 pG (g v 2) (iv 99) fun v4 =>
 kV v3<|
 pK v3 (.bool true) v4 fun v5 =>
 .br v5 (
 .ret (.bool false) []) (
 pL (g v 3) (iv 0) fun v6 =>
 kV v6<|
 pG (g v 3) (iv 99) fun v7 =>
 kV v6<|
 pK v6 (.bool true) v7 fun v8 =>
 .br v8 (
 .ret (.bool false) []) (
 pL (g v 4) (iv 0) fun v9 =>
 kV v9<|
 pG (g v 4) (iv 99) fun v10 =>
 kV v9<|
 pK v9 (.bool true) v10 fun v11 =>
 .br v11 (
 .ret (.bool false) []) (
 kN r0<|
 pH (g v 0) (iv 0) fun v12 =>
 kN r0<|
 kV v12<|
 kV v12<|
 pM (g v 0) (iv 9999) fun v13 =>
 kV v12<|
 pK v12 v13 (.bool false) fun v14 =>
 kN r0<|
 kV v14<|
 kV v14<|
 pH (g v 12) (iv 0) fun v15 =>
 kV v14<|
 pK v14 v15 (.bool false) fun v16 =>
 kN r0<|
 kV v16<|
 kV v16<|
 pM (g v 12) (iv 7) fun v17 =>
 kV v16<|
 pK v16 v17 (.bool false) fun v18 =>
 kN r0<|
 kV v18<|
 kV v18<|
 pH (g v 13) (iv 0) fun v19 =>
 kV v18<|
 pK v18 v19 (.bool false) fun v20 =>
 kN r0<|
 kV v20<|
 kV v20<|
 pM (g v 13) (iv 255) fun v21 =>
 kV v20<|
 pK v20 v21 (.bool false) fun v22 =>
 .ret v22 []))))
theorem tp:bI oz Tryz.f46 od:=bJ Tryz.func46 [(76,[5,6,7,8])] [(2,.unroll 5)] [] fun _=>by kernel_rfl
abbrev mF:FuncId:=47
def lY (v:List Value):Tree :=
 .newbox fun r0 =>
 kN r0<|
 cS 29 [ag (G14 v 1)] (.agg 4) fun l0 =>
 pZ (g l0 0) fun v1 =>
 pA (iv 0) v1 fun v2 =>
 pZ (g l0 1) fun v3 =>
 pA v2 v3 fun v4 =>
 pZ (g l0 2) fun v5 =>
 pA v4 v5 fun v6 =>
 pZ (g l0 3) fun v7 =>
 pA v6 v7 fun v8 =>
 kN r0<|
 cS 29 [ag (G14 v 15)] (.agg 4) fun l9 =>
 pZ (g l9 0) fun v10 =>
 pA v8 v10 fun v11 =>
 pZ (g l9 1) fun v12 =>
 pA v11 v12 fun v13 =>
 pZ (g l9 2) fun v14 =>
 pA v13 v14 fun v15 =>
 pZ (g l9 3) fun v16 =>
 pA v15 v16 fun v17 =>
 .loop 111 11 [v17,iv 0] fun C111 l18 =>
 kN r0<|
 pZ (g v 29) fun v19 =>
 pL (g l18 1) v19 fun v20 =>
 .br v20 (
 kN r0<|
 pI 5 (g v 29) (g l18 1) fun v21 =>
 .load [] v21 5 fun l22 =>
 .newbox fun r1 =>
 kN r1<|
 kN r1<|
 pH (g l22 3) (iv 0) fun v23 =>
 .br v23 (
 pA (g l18 1) (iv 1) fun v24 =>
 .cont 111 C111 [g l18 0,v24] (Es [[pt r0 0],((pt r0 0)::G38 v 0)])) (
 pA (g l18 0) (iv 1) fun v25 =>
 kN r0<|
 kN r1<|
 c1 55 [ag (G38 v 0),g l22 1] fun l26 =>
 pL (g l26 0) (iv 0) fun v27 =>
 kN r0<|
 kV v27<|
 kV v27<|
 kV v27<|
 .pure [(v27,false)] (.idx 12) [g v 0,g l26 0] fun v28 =>
 .chk (.ptr [(v27,false)] v28)<|
 kV v27<|
 kV v27<|
 .load [(v27,false)] (aO v28 1) 1 fun l29 =>
 kN r1<|
 kV v27<|
 kV v27<|
 kV v27<|
 pN (g l29 0) (g l22 2) fun v30 =>
 kV v27<|
 pK v27 (.bool true) v30 fun v31 =>
 .br v31 (
 .ret (.bool false) []) (
 pA (g l18 1) (iv 1) fun v32 =>
 .cont 111 C111 [v25,v32] (Es [[pt r0 0],((pt r0 0)::G38 v 0)])))) (
 .loop 118 20 [iv 0] fun C118 l33 =>
 kN r0<|
 pZ (g v 0) fun v34 =>
 pL (g l33 0) v34 fun v35 =>
 .br v35 (
 kN r0<|
 pI 12 (g v 0) (g l33 0) fun v36 =>
 .load [] v36 12 fun l37 =>
 .newbox fun r2 =>
 kN r2<|
 kN r2<|
 c1 89 [ag (G12 l37 0)] fun l38 =>
 pO (g l38 0) fun v39 =>
 kV v39<|
 pG (g l33 0) (iv 0) fun v40 =>
 kV v39<|
 kN r0<|
 kV v40<|
 kV v39<|
 kV v40<|
 kV v39<|
 pS (g l33 0) (iv 1) fun v41 =>
 kV v40<|
 kV v39<|
 kV v40<|
 kV v39<|
 .pure [(v40,true),(v39,false)] (.idx 12) [g v 0,v41] fun v42 =>
 .chk (.ptr [(v40,true),(v39,false)] v42)<|
 kV v40<|
 kV v39<|
 kV v40<|
 kV v39<|
 .load [(v40,true),(v39,false)] v42 1 fun l43 =>
 kN r2<|
 kV v40<|
 kV v39<|
 kV v40<|
 kV v39<|
 kV v40<|
 kV v39<|
 pH (g l43 0) (g l37 0) fun v44 =>
 kV v39<|
 kV v40<|
 kV v39<|
 pK v40 v44 (.bool false) fun v45 =>
 kV v39<|
 pK v39 (.bool true) v45 fun v46 =>
 .br v46 (
 .ret (.bool false) []) (
 kN r0<|
 kN r2<|
 kN r2<|
 c1 90 [ag (G38 v 0),g l37 2,g l37 0] fun l47 =>
 pN (g l47 0) (iv 1) fun v48 =>
 .br v48 (
 .ret (.bool false) []) (
 pA (g l33 0) (iv 1) fun v49 =>
 .cont 118 C118 [v49] (Es [[pt r0 0],[g l18 0],((pt r0 0)::G38 v 0)])))) (
 kN r0<|
 pZ (g v 0) fun v50 =>
 pE (g l18 0) v50 fun v51 =>
 .ret v51 []))
theorem sq:bI mF Tryz.f47 lY:=bJ Tryz.func47 [(76,[5,6,7,8])] [(3,.unroll 3),(6,.unroll 5),(11,.inv [3,7] [1] [(1,[])]),(20,.inv [10] [1,3] [(1,[])])] [] fun _=>by kernel_rfl
abbrev lI:FuncId:=48
def jR (a:List Value) (b:Nat) (c:List Value→Heap→Own→Prop) (d:Nat) (e:List Value):Tree :=
 pA (g a 0) (iv 1) fun v11 =>
 .cont b c [v11] (Es [[pt d 0],((pt d 0)::G38 e 0)])
def jS (a:Nat) (b c:List Value) (d:Nat) (e:List Value→Heap→Own→Prop):Tree :=
 kN a<|
 kN a<|
 pI 1 (g b 31) (g c 0) fun v7 =>
 .load [] v7 1 fun l8 =>
 c1 91 [g b d,g l8 0] fun l9 =>
 pN (g l9 0) (iv 1) fun v10 =>
 .br v10 (
 .ret (.bool false) []) (
 jR c 3 e a b)
def jT (a b:Nat) (c:List Value) (d:Nat) (e f:List Value) (h:List Value→Heap→Own→Prop):Tree :=
 kN a<|
 kN b<|
 c1 91 [g c d,g e 0] fun l25 =>
 pN (g l25 0) (iv 1) fun v26 =>
 .br v26 (
 .ret (.bool false) []) (
 .loop 43 13 [iv 0] fun C43 l27 =>
 pL (g l27 0) (g f 0) fun v28 =>
 .br v28 (
 kN a<|
 pI 2 (g c 32) (g l27 0) fun v29 =>
 kP v29<|
 .load [] (aO v29 1) 1 fun l30 =>
 kN b<|
 pE (g l30 0) (g e 1) fun v31 =>
 kN a<|
 kV v31<|
 kV v31<|
 kV v31<|
 .pure [(v31,false)] (.idx 2) [g c 32,g l27 0] fun v32 =>
 .chk (.ptr [(v31,false)] v32)<|
 kV v31<|
 kV v31<|
 .load [(v31,false)] v32 1 fun l33 =>
 kN b<|
 kV v31<|
 kV v31<|
 kV v31<|
 pE (g l33 0) (g e 0) fun v34 =>
 kV v31<|
 pK v31 (.bool true) v34 fun v35 =>
 .br v35 (
 .ret (.bool false) []) (
 pA (g l27 0) (iv 1) fun v36 =>
 .cont 43 C43 [v36] (Es [[pt a 0],[g f 0],[pt b 0],((pt a 0)::G38 c 0),[pt b 0,g e 0,g e 1]]))) (
 jR f 10 h a c))
def lu (v:List Value):Tree :=
 .newbox fun r0 =>
 .loop 3 2 [iv 0] fun C3 l0 =>
 kN r0<|
 pZ (g v 31) fun v1 =>
 pL (g l0 0) v1 fun v2 =>
 .br v2 (
 kN r0<|
 kN r0<|
 pI 1 (g v 31) (g l0 0) fun v3 =>
 .load [] v3 1 fun l4 =>
 c1 91 [g v 31,g l4 0] fun l5 =>
 pN (g l5 0) (iv 1) fun v6 =>
 .br v6 (
 .ret (.bool false) []) (
 kN r0<|
 .sw (g v 34) 0 (
 jS r0 v l0 8 C3) (
 .sw (g v 34) 1 (
 jS r0 v l0 22 C3) (
 .stuck 901)))) (
 .loop 10 7 [iv 0] fun C10 l17 =>
 kN r0<|
 pZ (g v 32) fun v18 =>
 pL (g l17 0) v18 fun v19 =>
 .br v19 (
 kN r0<|
 pI 2 (g v 32) (g l17 0) fun v20 =>
 .load [] v20 2 fun l21 =>
 .newbox fun r1 =>
 kN r1<|
 kN r0<|
 kN r1<|
 c1 91 [g v 31,g l21 1] fun l22 =>
 pN (g l22 0) (iv 1) fun v23 =>
 .br v23 (
 .ret (.bool false) []) (
 kN r0<|
 pS (iv 1) (g v 34) fun v24 =>
 .sw v24 0 (
 jT r0 r1 v 8 l21 l17 C10) (
 .sw v24 1 (
 jT r0 r1 v 22 l21 l17 C10) (
 .stuck 901)))) (
 .ret (.bool true) []))
theorem qY:bI lI Tryz.f48 lu:=bJ Tryz.func48 [(76,[5,6,7,8])] [(2,.inv [3] [1] [(1,[])]),(7,.inv [4] [1] [(1,[])]),(13,.inv [6] [1,4,5] [(1,[]),(5,[])])] [] fun _=>by kernel_rfl
abbrev mP:FuncId:=49
def gn (a:List Value) (b:Nat) (c:List Value→Heap→Own→Prop) (d:Nat) (e:List Value):Tree :=
 pA (g a 0) (iv 1) fun v7 =>
 .cont b c [v7] (Es [[pt d 0],((pt d 0)::G38 e 0)])
def kB (a:List Value) (b:Nat) (c:List Value) (d e f:Nat) (h:Int) (i:Nat) (j:List Value→Heap→Own→Prop):Tree :=
 pI 5 (g a b) (g c 0) fun v77 =>
 kP v77<|
 .load [] (aO v77 2) 1 fun l78 =>
 pA (g l78 0) (iv 1) fun v79 =>
 pI 5 (g a b) (g c 0) fun v80 =>
 kP v80<|
 kP (aO v80 2)<|
 .store (aO v80 2) [v79]<|
 .loop d 24 [iv 0] fun C150 l81 =>
 pI 5 (g a b) (g c 0) fun v82 =>
 kP v82<|
 .load [] (aO v82 4) 1 fun l83 =>
 pZ (g l83 0) fun v84 =>
 pL (g l81 0) v84 fun v85 =>
 .br v85 (
 pI 5 (g a b) (g c 0) fun v86 =>
 kP v86<|
 .load [] (aO v86 4) 1 fun l87 =>
 pI 2 (g l87 0) (g l81 0) fun v88 =>
 kP v88<|
 .load [] v88 1 fun l89 =>
 pA (g l89 0) (iv 1) fun v90 =>
 pI 2 (g l87 0) (g l81 0) fun v91 =>
 kP v91<|
 kP v91<|
 .store v91 [v90]<|
 pA (g l81 0) (iv 1) fun v92 =>
 .cont d C150 [v92] (Es [[pt e 0],[g a b],[g c 0],[.slice (some ⟨f,0,none⟩) 2 2],[iv 2],[iv h],((pt e 0)::G38 a 0),[pt f 0,g a 29,g a 30]])) (
 pA (g c 0) (iv 1) fun v93 =>
 .cont i j [v93] (Es [[pt e 0],[g a b],[.slice (some ⟨f,0,none⟩) 2 2],[iv 2],[iv h],((pt e 0)::G38 a 0),[pt f 0,g a 29,g a 30]]))
def bA (a:List Value) (b:Nat) (c:List Value) (d:Nat) (e:List Value→Heap→Own→Prop) (f:Nat) (h i:Int) (j:List Value):Tree :=
 pI 1 (g a b) (g c 0) fun v12 =>
 .load [] v12 1 fun l13 =>
 pA (g l13 0) (iv 1) fun v14 =>
 pI 1 (g a b) (g c 0) fun v15 =>
 kP v15<|
 .store v15 [v14]<|
 pA (g c 0) (iv 1) fun v16 =>
 .cont d e [v16] (Es [[pt f 0],[iv h],[g a b],G4 a 0,[iv i],((pt f 0)::G38 j 0)])
def mj (v:List Value):Tree :=
 .newbox fun r0 =>
 .loop 2 2 [iv 0] fun C2 l0 =>
 kN r0<|
 pZ (g v 0) fun v1 =>
 pL (g l0 0) v1 fun v2 =>
 .br v2 (
 kN r0<|
 pI 12 (g v 0) (g l0 0) fun v3 =>
 kP v3<|
 .load [] (aO v3 5) 1 fun l4 =>
 pA (g l4 0) (iv 1) fun v5 =>
 pI 12 (g v 0) (g l0 0) fun v6 =>
 kP v6<|
 kP (aO v6 5)<|
 .store (aO v6 5) [v5]<|
 gn l0 2 C2 r0 v) (
 kN r0<|
 cS 29 [ag (G14 v 1)] (.agg 4) fun l8 =>
 .loop 21 12 [iv 0] fun C21 l9 =>
 pZ (g l8 0) fun v10 =>
 pL (g l9 0) v10 fun v11 =>
 .br v11 (
 bA l8 0 l9 21 C21 r0 0 0 v) (
 .loop 32 12 [iv 0] fun C32 l17 =>
 pZ (g l8 1) fun v18 =>
 pL (g l17 0) v18 fun v19 =>
 .br v19 (
 bA l8 1 l17 32 C32 r0 0 1 v) (
 .loop 43 12 [iv 0] fun C43 l25 =>
 pZ (g l8 2) fun v26 =>
 pL (g l25 0) v26 fun v27 =>
 .br v27 (
 bA l8 2 l25 43 C43 r0 0 2 v) (
 .loop 54 12 [iv 0] fun C54 l33 =>
 pZ (g l8 3) fun v34 =>
 pL (g l33 0) v34 fun v35 =>
 .br v35 (
 bA l8 3 l33 54 C54 r0 0 3 v) (
 kN r0<|
 cS 29 [ag (G14 v 15)] (.agg 4) fun l41 =>
 .loop 77 12 [iv 0] fun C77 l42 =>
 pZ (g l41 0) fun v43 =>
 pL (g l42 0) v43 fun v44 =>
 .br v44 (
 bA l41 0 l42 77 C77 r0 1 0 v) (
 .loop 88 12 [iv 0] fun C88 l50 =>
 pZ (g l41 1) fun v51 =>
 pL (g l50 0) v51 fun v52 =>
 .br v52 (
 bA l41 1 l50 88 C88 r0 1 1 v) (
 .loop 99 12 [iv 0] fun C99 l58 =>
 pZ (g l41 2) fun v59 =>
 pL (g l58 0) v59 fun v60 =>
 .br v60 (
 bA l41 2 l58 99 C99 r0 1 2 v) (
 .loop 110 12 [iv 0] fun C110 l66 =>
 pZ (g l41 3) fun v67 =>
 pL (g l66 0) v67 fun v68 =>
 .br v68 (
 bA l41 3 l66 110 C110 r0 1 3 v) (
 kN r0<|
 kN r0<|
 .newbox fun r1 =>
 kN r1<|
 .loop 135 20 [iv 0] fun C135 l74 =>
 pZ (g v 29) fun v75 =>
 pL (g l74 0) v75 fun v76 =>
 .br v76 (
 kB v 29 l74 150 r0 r1 0 135 C135) (
 kN r1<|
 .loop 147 20 [iv 0] fun C147 l94 =>
 pZ (g v 30) fun v95 =>
 pL (g l94 0) v95 fun v96 =>
 .br v96 (
 kB v 30 l94 162 r0 r1 1 147 C147) (
 .loop 156 29 [iv 0] fun C156 l114 =>
 kN r0<|
 pZ (g v 31) fun v115 =>
 pL (g l114 0) v115 fun v116 =>
 .br v116 (
 kN r0<|
 pI 1 (g v 31) (g l114 0) fun v117 =>
 .load [] v117 1 fun l118 =>
 pA (g l118 0) (iv 1) fun v119 =>
 pI 1 (g v 31) (g l114 0) fun v120 =>
 kP v120<|
 .store v120 [v119]<|
 gn l114 156 C156 r0 v) (
 .loop 163 33 [iv 0] fun C163 l122 =>
 kN r0<|
 pZ (g v 32) fun v123 =>
 pL (g l122 0) v123 fun v124 =>
 .br v124 (
 kN r0<|
 pI 2 (g v 32) (g l122 0) fun v125 =>
 kP v125<|
 .load [] v125 1 fun l126 =>
 pA (g l126 0) (iv 1) fun v127 =>
 pI 2 (g v 32) (g l122 0) fun v128 =>
 kP v128<|
 kP v128<|
 .store v128 [v127]<|
 gn l122 163 C163 r0 v) (
 .ret (.tuple #[]) [])))))))))))))
theorem sJ:bI mP Tryz.f49 mj:=bJ Tryz.func49 [(76,[5,6,7,8])] [(6,.unroll 3),(9,.unroll 5),(17,.unroll 3),(2,.inv [2] [1] [(1,[])]),(12,.inv [6] [1,3,5,37,38] [(1,[])]),(20,.inv [9] [1,8,58,59,60] [(1,[]),(58,[])]),(24,.inv [10] [1,8,9,58,59,60] [(1,[]),(58,[])]),(29,.inv [11] [1] [(1,[])]),(33,.inv [12] [1] [(1,[])])] [] fun _=>by kernel_rfl
abbrev fU:FuncId:=50
def fP (v:List Value):Tree :=
 .newbox fun r0 =>
 .newbox fun r1 =>
 kN r0<|
 pL (g v 2) (iv 0) fun v0 =>
 kN r0<|
 kV v0<|
 kV v0<|
 pZ (g v 0) fun v1 =>
 kV v0<|
 kV v0<|
 pH (g v 2) v1 fun v2 =>
 kV v0<|
 pK v0 (.bool true) v2 fun v3 =>
 .br v3 (
 kN r1<|
 kN r1<|
 .ret (ag Z2) []) (
 kN r0<|
 pI 14 (g v 0) (g v 2) fun v4 =>
 .load [] v4 14 fun l5 =>
 kN r1<|
 kN r1<|
 .ret (ag (G14 l5 0)) [])
theorem gR:bI fU Tryz.f50 fP:=bJ Tryz.func50 [(76,[5,6,7,8])] [] [] fun _=>by kernel_rfl
abbrev oy:FuncId:=51
def nZ (v:List Value):Tree :=
 .newbox fun r0 =>
 kN r0<|
 pZ (g v 30) fun v0 =>
 pE v0 (iv 0) fun v1 =>
 .br v1 (
 .ret (iv 0) []) (
 kN r0<|
 kN r0<|
 pZ (g v 30) fun v2 =>
 pS v2 (iv 1) fun v3 =>
 pI 5 (g v 30) v3 fun v4 =>
 .load [] v4 5 fun l5 =>
 .newbox fun r1 =>
 kN r1<|
 kN r1<|
 c1 19 [g v 0,ag (G5 l5 0)] fun l6 =>
 c1 68 [g l6 0] fun l7 =>
 kN r1<|
 pN (g l5 3) (iv (-1)) fun v8 =>
 kN r1<|
 kV v8<|
 kV v8<|
 pZ (g l5 4) fun v9 =>
 kV v8<|
 pZ (g l7 0) fun v10 =>
 kV v8<|
 .pure [] .min2 [iv 4,v10] fun v11 =>
 kV v8<|
 kV v8<|
 pH v9 v11 fun v12 =>
 kV v8<|
 pK v8 (.bool true) v12 fun v13 =>
 .br v13 (
 .ret (iv 0) []) (
 kN r1<|
 pZ (g l5 4) fun v14 =>
 pI 1 (g l7 0) v14 fun v15 =>
 .load [] v15 1 fun l16 =>
 .ret (g l16 0) []))
theorem tj:bI oy Tryz.f51 nZ:=bJ Tryz.func51 [(76,[5,6,7,8])] [] [] fun _=>by kernel_rfl
abbrev pn:FuncId:=52
def o7 (v:List Value):Tree :=
 .newbox fun r0 =>
 .newbox fun r1 =>
 .newbox fun r2 =>
 kN r0<|
 pZ (g v 29) fun v0 =>
 pE v0 (iv 0) fun v1 =>
 .br v1 (
 kN r1<|
 kN r2<|
 kN r1<|
 kN r2<|
 .ret (.tuple #[ag Z0,.agg #[iv 0,iv 0,iv 0,iv 0,.slice none 0 0],iv 9]) []) (
 kN r0<|
 pZ (g v 29) fun v2 =>
 pS v2 (iv 1) fun v3 =>
 kN r0<|
 cS 14 [ag (G38 v 0)] (.agg 38) fun l4 =>
 pI 5 (g l4 29) v3 fun v5 =>
 .load [] v5 5 fun l6 =>
 .newbox fun r3 =>
 kN r3<|
 kN r3<|
 pE (g l6 3) (iv (-1)) fun v7 =>
 .br v7 (
 kN r0<|
 kN r3<|
 kN r3<|
 cS 24 [ag (G38 v 0),g l6 1,iv 3] (.agg 38) fun l8 =>
 kN r1<|
 kN r2<|
 kN r1<|
 kN r2<|
 .ret (.tuple #[ag (G38 l8 0),ag (G5 l6 0),iv 0]) []) (
 kN r0<|
 cS 14 [ag (G38 v 0)] (.agg 38) fun l9 =>
 kN r0<|
 kN r0<|
 .pure [] (.slc 5 false true false) [g l9 29,v3] fun v10 =>
 kN r0<|
 kN r0<|
 kN r3<|
 kN r1<|
 kN r2<|
 kN r1<|
 kN r2<|
 .ret (.tuple #[ag (G29 l9 0++(v10::G8 l9 30)),ag (G5 l6 0),iv 0]) []))
theorem vo:bI pn Tryz.f52 o7:=bJ Tryz.func52 [(76,[5,6,7,8])] [] [] fun _=>by kernel_rfl
abbrev En:FuncId:=53
def jV (a:Value) (b:Nat) (c:List Value) (d:Nat):Tree :=
 .br a (
 .prim (.mkIface 151 false) [.slice (some ⟨b,0,none⟩) 3 3] [⟨b,36,[iv 1,iv 2,iv 3]⟩] [] .one fun l8 _ =>
 .ret (g l8 0) []) (
 pE (g c 0) (iv 7) fun v9 =>
 .br v9 (
 .newbox fun r4 =>
 .prim (.mkIface 151 false) [.slice (some ⟨r4,0,none⟩) 1 1] [⟨r4,36,[iv 6]⟩] [] .one fun l10 _ =>
 .ret (g l10 0) []) (
 pE (g c 0) (iv 8) fun v11 =>
 .br v11 (
 .call false 92 [.slice (some ⟨b,0,none⟩) 3 3] [⟨b,36,[iv 1,iv 2,iv 3]⟩] [] .one fun l12 _ =>
 .newbox fun r5 =>
 .prim (.bi .append #[151,151] 151) [g l12 0,.slice (some ⟨r5,0,none⟩) 1 1] [⟨r5,36,[iv 0]⟩] [] .one fun l13 _ =>
 .ret (.iface 156 (.agg #[g l13 0,iv 0])) []) (
 pE (g c 0) (iv 9) fun v14 =>
 .br v14 (
 .call false 92 [.slice (some ⟨b,0,none⟩) 3 3] [⟨b,36,[iv 1,iv 2,iv 3]⟩] [] .one fun l15 _ =>
 .newbox fun r6 =>
 .prim (.bi .append #[151,151] 151) [g l15 0,.slice (some ⟨r6,0,none⟩) 1 1] [⟨r6,36,[iv 0]⟩] [] .one fun l16 _ =>
 .ret (.iface 154 (.agg #[g l16 0,iv 9])) []) (
 pE (g c 0) (iv 10) fun v17 =>
 .br v17 (
 .prim (.mkIface 156 true) [.slice (some ⟨d,0,none⟩) 1 1,iv 1] [⟨d,36,[iv 0]⟩] [] .one fun l18 _ =>
 .ret (g l18 0) []) (
 pE (g c 0) (iv 12) fun v19 =>
 .br v19 (
 .prim (.mkIface 158 true) [.slice (some ⟨d,0,none⟩) 1 1,iv 9] [⟨d,36,[iv 0]⟩] [] .one fun l20 _ =>
 .ret (g l20 0) []) (
 .ret .nilIface []))))))
def nn (a:Value) (b:Nat) (c:List Value) (d e:Nat):Tree :=
 .br a (
 .prim (.mkIface 154 true) [.slice (some ⟨b,0,none⟩) 2 2,iv 99] [⟨b,36,[iv 0,iv 4]⟩] [] .one fun l6 _ =>
 .ret (g l6 0) []) (
 pE (g c 0) (iv 5) fun v7 =>
 .br v7 (
 jV v7 d c e) (
 pE (g c 0) (iv 6) fun v21 =>
 .br v21 (
 jV v21 d c e) (
 pE (g c 0) (iv 11) fun v35 =>
 jV v35 d c e)))
def Ee (v:List Value):Tree :=
 .newbox fun r0 =>
 .newbox fun r1 =>
 .newbox fun r2 =>
 pE (g v 0) (iv 1) fun v0 =>
 .br v0 (
 .call false 92 [.slice (some ⟨r2,0,none⟩) 3 3] [⟨r2,36,[iv 1,iv 2,iv 3]⟩] [] .one fun l1 _ =>
 .newbox fun r3 =>
 .prim (.bi .append #[151,151] 151) [g l1 0,.slice (some ⟨r3,0,none⟩) 2 2] [⟨r3,36,[iv 4,iv 5]⟩] [] .one fun l2 _ =>
 .ret (.iface 154 (.agg #[g l2 0,iv 99])) []) (
 pE (g v 0) (iv 2) fun v3 =>
 .br v3 (
 .prim (.mkIface 154 true) [.slice (some ⟨r1,0,none⟩) 2 2,iv 7] [⟨r1,36,[iv 0,iv 4]⟩] [] .one fun l4 _ =>
 .ret (g l4 0) []) (
 pE (g v 0) (iv 3) fun v5 =>
 .br v5 (
 nn v5 r1 v r2 r0) (
 pE (g v 0) (iv 4) fun v49 =>
 nn v49 r1 v r2 r0)))
theorem Gm:bI En Tryz.f53 Ee:=bJ Tryz.func53 [(76,[5,6,7,8])] [] [] fun _=>by kernel_rfl
abbrev mO:FuncId:=54
def mi (v:List Value):Tree :=
 .newbox fun r0 =>
 .newbox fun r1 =>
 kN r0<|
 cS 93 [ag (G12 v 0)] (.agg 12) fun l0 =>
 kN r0<|
 pE (g v 12) (iv 2) fun v1 =>
 kN r0<|
 kN r0<|
 kN r0<|
 kN r0<|
 kN r0<|
 kN r1<|
 kN r1<|
 .ret (ag (G6 l0 0++[iv 0,g l0 7,g l0 8,.bool false,v1,.bool false])) []
theorem sH:bI mO Tryz.f54 mi:=bJ Tryz.func54 [(76,[5,6,7,8])] [] [] fun _=>by kernel_rfl
abbrev mK:FuncId:=55
def me (v:List Value):Tree :=
 .newbox fun r0 =>
 .loop 3 2 [iv 0] fun C3 l0 =>
 kN r0<|
 pZ (g v 0) fun v1 =>
 pL (g l0 0) v1 fun v2 =>
 .br v2 (
 kN r0<|
 pI 12 (g v 0) (g l0 0) fun v3 =>
 kP v3<|
 .load [] v3 1 fun l4 =>
 pE (g l4 0) (g v 38) fun v5 =>
 .br v5 (
 .ret (g l0 0) []) (
 pA (g l0 0) (iv 1) fun v6 =>
 .cont 3 C3 [v6] (Es [[g v 38],[pt r0 0],((pt r0 0)::G38 v 0)]))) (
 .ret (iv (-1)) [])
theorem sD:bI mK Tryz.f55 me:=bJ Tryz.func55 [(76,[5,6,7,8])] [(2,.inv [5] [1,2] [(2,[])])] [] fun _=>by kernel_rfl
abbrev pu:FuncId:=56
def my (a b:Nat) (c:List Value):Tree :=
 kN a<|
 kN b<|
 kN b<|
 .ret (ag (G38 c 0)) []
def o9 (v:List Value):Tree :=
 .newbox fun r0 =>
 .newbox fun r1 =>
 .newbox fun r2 =>
 kN r1<|
 .sw (g v 40) 0 (
 pE (g v 50) (iv 0) fun v0 =>
 .br v0 (
 kN r0<|
 kN r1<|
 .prim (.bi .append #[26,26] 26) [.slice none 0 0,g v 6] [] [] .one fun l1 _ =>
 .newbox fun r3 =>
 .prim (.bi .append #[26,26] 26) [g l1 0,.slice (some ⟨r3,0,none⟩) 1 1] [⟨r3,3,[g v 38]⟩] [] .one fun l2 _ =>
 kN r0<|
 kN r0<|
 kN r2<|
 kN r2<|
 .ret (ag (G6 v 0++((g l2 0)::G31 v 7))) []) (
 pE (g v 50) (iv 1) fun v3 =>
 .br v3 (
 kN r0<|
 kN r1<|
 .prim (.bi .append #[26,26] 26) [.slice none 0 0,g v 7] [] [] .one fun l4 _ =>
 .newbox fun r4 =>
 .prim (.bi .append #[26,26] 26) [g l4 0,.slice (some ⟨r4,0,none⟩) 1 1] [⟨r4,3,[g v 38]⟩] [] .one fun l5 _ =>
 kN r0<|
 kN r0<|
 kN r2<|
 kN r2<|
 .ret (ag (G7 v 0++((g l5 0)::G30 v 8))) []) (
 pE (g v 50) (iv 2) fun v6 =>
 .br v6 (
 kN r0<|
 kN r1<|
 .prim (.bi .append #[26,26] 26) [.slice none 0 0,g v 8] [] [] .one fun l7 _ =>
 .newbox fun r5 =>
 .prim (.bi .append #[26,26] 26) [g l7 0,.slice (some ⟨r5,0,none⟩) 1 1] [⟨r5,3,[g v 38]⟩] [] .one fun l8 _ =>
 kN r0<|
 kN r0<|
 kN r2<|
 kN r2<|
 .ret (ag (G8 v 0++((g l8 0)::G29 v 9))) []) (
 pE (g v 50) (iv 3) fun v9 =>
 .br v9 (
 kN r0<|
 kN r1<|
 .prim (.bi .append #[26,26] 26) [.slice none 0 0,g v 9] [] [] .one fun l10 _ =>
 .newbox fun r6 =>
 .prim (.bi .append #[26,26] 26) [g l10 0,.slice (some ⟨r6,0,none⟩) 1 1] [⟨r6,3,[g v 38]⟩] [] .one fun l11 _ =>
 kN r0<|
 kN r0<|
 kN r2<|
 kN r2<|
 .ret (ag (G9 v 0++((g l11 0)::G28 v 10))) []) (
 my r0 r2 v))))) (
 .sw (g v 40) 1 (
 pE (g v 50) (iv 0) fun v12 =>
 .br v12 (
 kN r0<|
 kN r1<|
 .prim (.bi .append #[26,26] 26) [.slice none 0 0,g v 20] [] [] .one fun l13 _ =>
 .newbox fun r7 =>
 .prim (.bi .append #[26,26] 26) [g l13 0,.slice (some ⟨r7,0,none⟩) 1 1] [⟨r7,3,[g v 38]⟩] [] .one fun l14 _ =>
 kN r0<|
 kN r0<|
 kN r2<|
 kN r2<|
 .ret (ag (G20 v 0++((g l14 0)::G17 v 21))) []) (
 pE (g v 50) (iv 1) fun v15 =>
 .br v15 (
 kN r0<|
 kN r1<|
 .prim (.bi .append #[26,26] 26) [.slice none 0 0,g v 21] [] [] .one fun l16 _ =>
 .newbox fun r8 =>
 .prim (.bi .append #[26,26] 26) [g l16 0,.slice (some ⟨r8,0,none⟩) 1 1] [⟨r8,3,[g v 38]⟩] [] .one fun l17 _ =>
 kN r0<|
 kN r0<|
 kN r2<|
 kN r2<|
 .ret (ag (G21 v 0++((g l17 0)::G16 v 22))) []) (
 pE (g v 50) (iv 2) fun v18 =>
 .br v18 (
 kN r0<|
 kN r1<|
 .prim (.bi .append #[26,26] 26) [.slice none 0 0,g v 22] [] [] .one fun l19 _ =>
 .newbox fun r9 =>
 .prim (.bi .append #[26,26] 26) [g l19 0,.slice (some ⟨r9,0,none⟩) 1 1] [⟨r9,3,[g v 38]⟩] [] .one fun l20 _ =>
 kN r0<|
 kN r0<|
 kN r2<|
 kN r2<|
 .ret (ag (G22 v 0++((g l20 0)::G15 v 23))) []) (
 pE (g v 50) (iv 3) fun v21 =>
 .br v21 (
 kN r0<|
 kN r1<|
 .prim (.bi .append #[26,26] 26) [.slice none 0 0,g v 23] [] [] .one fun l22 _ =>
 .newbox fun r10 =>
 .prim (.bi .append #[26,26] 26) [g l22 0,.slice (some ⟨r10,0,none⟩) 1 1] [⟨r10,3,[g v 38]⟩] [] .one fun l23 _ =>
 kN r0<|
 kN r0<|
 kN r2<|
 kN r2<|
 .ret (ag (G23 v 0++((g l23 0)::G14 v 24))) []) (
 my r0 r2 v))))) (
 .stuck 901))
theorem vq:bI pu Tryz.f56 o9:=bJ Tryz.func56 [(76,[5,6,7,8])] [] [] fun _=>by kernel_rfl
abbrev jW:FuncId:=57
def mw (a b:Nat) (c:List Value):Tree :=
 kN a<|
 kN b<|
 kN b<|
 .ret (ag (G38 c 0)) []
def o8 (v:List Value):Tree :=
 .newbox fun r0 =>
 .newbox fun r1 =>
 .newbox fun r2 =>
 kN r0<|
 cS 14 [ag (G38 v 0)] (.agg 38) fun l0 =>
 kN r0<|
 kN r0<|
 kN r1<|
 c1 55 [ag (G38 l0 0),g v 38] fun l1 =>
 pH (g l1 0) (iv 0) fun v2 =>
 .br v2 (
 kN r0<|
 kN r1<|
 pI 12 (g l0 0) (g l1 0) fun v3 =>
 kP v3<|
 .store v3 (G12 v 38)<|
 mw r0 r2 l0) (
 mw r0 r2 l0)
theorem vp:bI jW Tryz.f57 o8:=bJ Tryz.func57 [(76,[5,6,7,8])] [] [] fun _=>by kernel_rfl
end Go.Proofs.YtdhobpmnkfmcfaaGreatDoor
