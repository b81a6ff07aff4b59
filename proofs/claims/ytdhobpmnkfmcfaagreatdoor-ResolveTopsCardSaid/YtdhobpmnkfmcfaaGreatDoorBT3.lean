/- The trees of the functions of this seat: printed by a tool of mine; each by the kernel's reckoning equal to the evaluator's. -/
import Derived.Test.YtdhobpmnkfmcfaaGreatDoorBT2
namespace Go.Proofs.YtdhobpmnkfmcfaaGreatDoor
open Go Go.Sx
set_option maxRecDepth 100000
abbrev lG:FuncId:=33
def aD (a:Nat) (b:List Value):Tree :=
 kN a<|
 kN a<|
 .ret (ag (G38 b 0)) []
def bN (a:Nat) (b c:List Value) (d e:Nat):Tree :=
 kN a<|
 pI 12 (g b 0) (g c 0) fun v24 =>
 kP v24<|
 kP (aO v24 d)<|
 .store (aO v24 d) [.bool true]<|
 kN a<|
 aD e b
def dG (a b:Nat) (c d:List Value) (e f:Nat):Tree :=
 kN a<|
 kN b<|
 cS 64 [ag (G38 c 0),g d e,g d 43] (.agg 38) fun l16 =>
 aD f l16
def dH (a b:Nat) (c d:List Value) (e:Nat):Tree :=
 kN a<|
 kN b<|
 cS 24 [ag (G38 c 0),g d 46,iv 1] (.agg 38) fun l28 =>
 aD e l28
def dI (a b:Nat) (c d:List Value) (e:Nat):Tree :=
 kN a<|
 kN b<|
 cS 65 [ag (G38 c 0),g d 46] (.tup [some 38,none]) fun l30 =>
 .newbox fun r4 =>
 kN r4<|
 kN r4<|
 aD e l30
def dJ (a:List Value) (b:Nat) (c:List Value) (d:Nat) (e:List Value) (f:Nat):Tree :=
 pH (g a 0) (iv 0) fun v32 =>
 .br v32 (
 kN b<|
 pI 12 (g c 0) (g a 0) fun v33 =>
 kP v33<|
 kP v33<|
 .load [] (aO v33 7) 1 fun l34 =>
 kN d<|
 kP v33<|
 kP v33<|
 .load [] (aO v33 8) 1 fun l35 =>
 kN d<|
 .call true 63 [g l34 0,g e 43] [] [] .one fun l36 _ =>
 c1 63 [g l35 0,g e 44] fun l37 =>
 kP v33<|
 kP v33<|
 kP (aO v33 7)<|
 .store (aO v33 7) [g l36 0]<|
 kP v33<|
 kP v33<|
 kP (aO v33 8)<|
 .store (aO v33 8) [g l37 0]<|
 kN b<|
 aD f c) (
 kN b<|
 aD f c)
def dW (a b:Nat) (c d:List Value) (e:Nat):Tree :=
 kN a<|
 kN b<|
 kN b<|
 cS 66 [ag (G38 c 0),g d 39,g d 43,g d 44,g d 48] (.tup [some 38,none]) fun l45 =>
 .newbox fun r5 =>
 kN r5<|
 kN r5<|
 aD e l45
def bX (a:Nat) (b c:List Value) (d e:Nat) (f:List Value) (h:Nat):Tree :=
 kN a<|
 kN a<|
 pI 12 (g b 0) (g c 0) fun v9 =>
 kP v9<|
 .load [] (aO v9 d) 1 fun l10 =>
 kN e<|
 c1 63 [g l10 0,g f 43] fun l11 =>
 pI 12 (g b 0) (g c 0) fun v12 =>
 kP v12<|
 kP (aO v12 d)<|
 .store (aO v12 d) [g l11 0]<|
 kN a<|
 aD h b
def bY (a b:Nat) (c:List Value) (d:Value):Tree :=
 kN a<|
 kN a<|
 kN b<|
 kN b<|
 .ret (ag (G15 c 0++(d::G22 c 16))) []
def bZ (a b:Nat) (c:List Value) (d:Value):Tree :=
 kN a<|
 kN a<|
 kN b<|
 kN b<|
 .ret (ag ((g c 0)::(d::G36 c 2))) []
def bo (a b:Nat) (c:List Value) (d:Nat) (e:List Value) (f:Nat):Tree :=
 kN a<|
 kN b<|
 pA (g c d) (g e 43) fun v47 =>
 .pure [] .min2 [iv 99,v47] fun v48 =>
 .sw (g e 45) 0 (
 kN a<|
 kN a<|
 kN f<|
 kN f<|
 .ret (ag ((g c 0)::((g c 1)::(v48::G35 c 3)))) []) (
 .sw (g e 45) 1 (
 kN a<|
 kN a<|
 kN f<|
 kN f<|
 .ret (ag ((g c 0)::((g c 1)::((g c 2)::(v48::G34 c 4))))) []) (
 .sw (g e 45) 2 (
 kN a<|
 kN a<|
 kN f<|
 kN f<|
 .ret (ag (G4 c 0++(v48::G33 c 5))) []) (
 .sw (g e 45) 3 (
 kN a<|
 kN a<|
 kN f<|
 kN f<|
 .ret (ag (G5 c 0++(v48::G32 c 6))) []) (
 .stuck 901))))
def bm (a b:Nat) (c:List Value) (d:Nat) (e:List Value) (f:Nat):Tree :=
 kN a<|
 kN b<|
 pA (g c d) (g e 43) fun v95 =>
 .pure [] .min2 [iv 99,v95] fun v96 =>
 .sw (g e 45) 0 (
 kN a<|
 kN a<|
 kN f<|
 kN f<|
 .ret (ag (G16 c 0++(v96::G21 c 17))) []) (
 .sw (g e 45) 1 (
 kN a<|
 kN a<|
 kN f<|
 kN f<|
 .ret (ag (G17 c 0++(v96::G20 c 18))) []) (
 .sw (g e 45) 2 (
 kN a<|
 kN a<|
 kN f<|
 kN f<|
 .ret (ag (G18 c 0++(v96::G19 c 19))) []) (
 .sw (g e 45) 3 (
 kN a<|
 kN a<|
 kN f<|
 kN f<|
 .ret (ag (G19 c 0++(v96::G18 c 20))) []) (
 .stuck 901))))
def cd (a:List Value) (b c d e:Nat) (f h:List Value) (i:Nat):Tree :=
 .sw (g a b) 0 (
 kN c<|
 pE (g a 41) (iv 1) fun v7 =>
 .br v7 (
 kN d<|
 pG (g a 46) (iv 0) fun v8 =>
 .br v8 (
 bX e f h 5 c a i) (
 kN e<|
 kN c<|
 pS (g f 1) (g a 43) fun v13 =>
 .pure [] .max2 [iv 0,v13] fun v14 =>
 bZ e i f v14)) (
 pE (g a 41) (iv 2) fun v15 =>
 .br v15 (
 dG e c f a b i) (
 pE (g a 41) (iv 3) fun v17 =>
 .br v17 (
 kN e<|
 kN c<|
 pA (g f 1) (g a 43) fun v18 =>
 .pure [] .min2 [iv 9999,v18] fun v19 =>
 bZ e i f v19) (
 pE (g a 41) (iv 4) fun v20 =>
 .br v20 (
 kN e<|
 kN c<|
 pS (g f 1) (g a 43) fun v21 =>
 .pure [] .max2 [iv 0,v21] fun v22 =>
 bZ e i f v22) (
 pE (g a 41) (iv 5) fun v23 =>
 .br v23 (
 bN e f h 11 i) (
 pE (g a 41) (iv 11) fun v25 =>
 .br v25 (
 bN e f h 9 i) (
 pE (g a 41) (iv 6) fun v27 =>
 .br v27 (
 dH e d f a i) (
 pE (g a 41) (iv 7) fun v29 =>
 .br v29 (
 dI e d f a i) (
 pE (g a 41) (iv 8) fun v31 =>
 .br v31 (
 dJ h e f c a i) (
 pE (g a 41) (iv 9) fun v38 =>
 .br v38 (
 pH (g h 0) (iv 0) fun v39 =>
 .br v39 (
 bX e f h 6 c a i) (
 kN e<|
 aD i f)) (
 pE (g a 41) (iv 10) fun v44 =>
 .br v44 (
 dW e c f a i) (
 pE (g a 41) (iv 12) fun v46 =>
 .br v46 (
 kN c<|
 kN c<|
 .sw (g a 45) 0 (
 bo e c f 2 a i) (
 .sw (g a 45) 1 (
 bo e c f 3 a i) (
 .sw (g a 45) 2 (
 bo e c f 4 a i) (
 .sw (g a 45) 3 (
 bo e c f 5 a i) (
 .stuck 901))))) (
 kN e<|
 aD i f))))))))))))) (
 .sw (g a b) 1 (
 kN c<|
 pE (g a 41) (iv 1) fun v55 =>
 .br v55 (
 kN d<|
 pG (g a 46) (iv 0) fun v56 =>
 .br v56 (
 bX e f h 5 c a i) (
 kN e<|
 kN c<|
 pS (g f 15) (g a 43) fun v61 =>
 .pure [] .max2 [iv 0,v61] fun v62 =>
 bY e i f v62)) (
 pE (g a 41) (iv 2) fun v63 =>
 .br v63 (
 dG e c f a b i) (
 pE (g a 41) (iv 3) fun v65 =>
 .br v65 (
 kN e<|
 kN c<|
 pA (g f 15) (g a 43) fun v66 =>
 .pure [] .min2 [iv 9999,v66] fun v67 =>
 bY e i f v67) (
 pE (g a 41) (iv 4) fun v68 =>
 .br v68 (
 kN e<|
 kN c<|
 pS (g f 15) (g a 43) fun v69 =>
 .pure [] .max2 [iv 0,v69] fun v70 =>
 bY e i f v70) (
 pE (g a 41) (iv 5) fun v71 =>
 .br v71 (
 bN e f h 11 i) (
 pE (g a 41) (iv 11) fun v73 =>
 .br v73 (
 bN e f h 9 i) (
 pE (g a 41) (iv 6) fun v75 =>
 .br v75 (
 dH e d f a i) (
 pE (g a 41) (iv 7) fun v77 =>
 .br v77 (
 dI e d f a i) (
 pE (g a 41) (iv 8) fun v79 =>
 .br v79 (
 dJ h e f c a i) (
 pE (g a 41) (iv 9) fun v86 =>
 .br v86 (
 pH (g h 0) (iv 0) fun v87 =>
 .br v87 (
 bX e f h 6 c a i) (
 kN e<|
 aD i f)) (
 pE (g a 41) (iv 10) fun v92 =>
 .br v92 (
 dW e c f a i) (
 pE (g a 41) (iv 12) fun v94 =>
 .br v94 (
 kN c<|
 kN c<|
 .sw (g a 45) 0 (
 bm e c f 16 a i) (
 .sw (g a 45) 1 (
 bm e c f 17 a i) (
 .sw (g a 45) 2 (
 bm e c f 18 a i) (
 .sw (g a 45) 3 (
 bm e c f 19 a i) (
 .stuck 901))))) (
 kN e<|
 aD i f))))))))))))) (
 .stuck 901))
def dX (a:Nat) (b c:List Value) (d e f:Nat):Tree :=
 kN a<|
 c1 62 [g b 0,ag (G38 c 0),g b 40] fun l4 =>
 kN d<|
 pN (g b 42) (iv 0) fun v5 =>
 .br v5 (
 kN e<|
 kN a<|
 kN e<|
 c1 62 [g b 0,ag (G38 c 0),g b 46] fun l6 =>
 cd b 47 d e a c l6 f) (
 cd b 39 d e a c l4 f)
def lp (v:List Value):Tree :=
 .newbox fun r0 =>
 .newbox fun r1 =>
 .newbox fun r2 =>
 .newbox fun r3 =>
 kN r0<|
 cS 14 [ag (G38 v 1)] (.agg 38) fun l0 =>
 kN r0<|
 kN r1<|
 pN (g v 42) (iv 0) fun v1 =>
 .br v1 (
 kN r0<|
 kN r1<|
 kN r2<|
 c1 27 [g v 0,ag (G38 l0 0),g v 39,g v 42,.agg #[g v 46,g v 47]] fun l2 =>
 pO (g l2 0) fun v3 =>
 .br v3 (
 kN r0<|
 aD r3 l0) (
 dX r0 v l0 r1 r2 r3)) (
 dX r0 v l0 r1 r2 r3)
theorem qW:bI lG Tryz.f33 lp:=bJ Tryz.func33 [(76,[5,6,7,8])] [] [] fun _=>by kernel_rfl
end Go.Proofs.YtdhobpmnkfmcfaaGreatDoor
