/- The trees of the functions of this seat: printed by a tool of mine; each by the kernel's reckoning equal to the evaluator's. -/
import Derived.Test.YtdhobpmnkfmcfaaGreatDoorBT4
namespace Go.Proofs.YtdhobpmnkfmcfaaGreatDoor
open Go Go.Sx
set_option maxRecDepth 100000
abbrev kL : FuncId := 58
def jd (a : List Value) (b : List Value → Heap → Own → Prop) (c d : List Value) (e f : Nat) (h i j k l m n o p : List Value) : Tree :=
 pA (g a 1) (iv 1) fun v18 =>
 .cont 108 b [g c 0,v18] (Es [[g d 38],[pt e 0],[pt f 0],((pt e 0)::(G6 h 0 ++ ((g i 0)::((g j 0)::((g k 0)::((g l 0)::(G10 h 10 ++ ((g m 0)::((g n 0)::((g o 0)::((g p 0)::G14 h 24))))))))))),[pt f 0,.slice none 0 0,iv 0,iv 0,iv 0,iv 0,iv 0,.slice none 0 0,.slice none 0 0,.slice none 0 0,.slice none 0 0,.bool false,.bool false,.bool false,iv 0,iv 0,iv 0,iv 0,iv 0,iv 0,iv 0,.slice none 0 0,.slice none 0 0,.slice none 0 0,.slice none 0 0,.bool false,.bool false,.bool false,iv 0,iv 0,.slice none 0 0,.slice none 0 0,.slice none 0 0,.slice none 0 0,iv 0,iv 0,iv 0,iv 0,iv 0]])
def je (a : List Value) (b : List Value → Heap → Own → Prop) (c d : List Value) (e f : Nat) (h i j k l m n o p q : List Value) : Tree :=
 pA (g a 1) (iv 1) fun v29 =>
 .cont 116 b [g c 0,v29] (Es [[g d 38],[pt e 0],[pt f 0],[g h 0],((pt e 0)::(G6 i 0 ++ ((g j 0)::((g k 0)::((g l 0)::((g m 0)::(G10 i 10 ++ ((g n 0)::((g o 0)::((g p 0)::((g q 0)::G14 i 24))))))))))),[pt f 0,.slice none 0 0,iv 0,iv 0,iv 0,iv 0,iv 0,.slice none 0 0,.slice none 0 0,.slice none 0 0,.slice none 0 0,.bool false,.bool false,.bool false,iv 0,iv 0,iv 0,iv 0,iv 0,iv 0,iv 0,.slice none 0 0,.slice none 0 0,.slice none 0 0,.slice none 0 0,.bool false,.bool false,.bool false,iv 0,iv 0,.slice none 0 0,.slice none 0 0,.slice none 0 0,.slice none 0 0,iv 0,iv 0,iv 0,iv 0,iv 0]])
def kE (v : List Value) : Tree :=
 .newbox fun r0 =>
 .newbox fun r1 =>
 kN r0 <|
 cS 14 [ag (G38 v 0)] (.agg 38) fun l0 =>
 kN r0 <|
 kN r0 <|
 kN r0 <|
 kN r0 <|
 kN r0 <|
 c1 94 [g l0 6,g v 38] fun l1 =>
 c1 94 [g l0 7,g v 38] fun l2 =>
 c1 94 [g l0 8,g v 38] fun l3 =>
 c1 94 [g l0 9,g v 38] fun l4 =>
 kN r0 <|
 kN r0 <|
 kN r0 <|
 kN r0 <|
 kN r0 <|
 kN r0 <|
 kN r0 <|
 kN r0 <|
 c1 94 [g l0 20,g v 38] fun l5 =>
 c1 94 [g l0 21,g v 38] fun l6 =>
 c1 94 [g l0 22,g v 38] fun l7 =>
 c1 94 [g l0 23,g v 38] fun l8 =>
 kN r0 <|
 kN r0 <|
 kN r0 <|
 kN r0 <|
 .loop 108 9 [.slice none 0 0,iv 0] fun C108 l9 =>
 kN r0 <|
 pZ (g l0 29) fun v10 =>
 pL (g l9 1) v10 fun v11 =>
 .br v11 (
 kN r0 <|
 pI 5 (g l0 29) (g l9 1) fun v12 =>
 .load [] v12 5 fun l13 =>
 .newbox fun r2 =>
 kN r2 <|
 kN r2 <|
 pN (g l13 3) (iv (-1)) fun v14 =>
 kN r2 <|
 kV v14 <|
 kV v14 <|
 kV v14 <|
 pN (g l13 1) (g v 38) fun v15 =>
 kV v14 <|
 pK v14 (.bool true) v15 fun v16 =>
 .br v16 (
 kN r2 <|
 .newbox fun r3 =>
 .prim (.bi .append #[30,30] 30) [g l9 0,.slice (some ⟨r3,0,none⟩) 1 1] [⟨r3,56,(G5 l13 0)⟩] [] .one fun l17 _ =>
 jd l9 C108 l17 v r0 r1 l0 l1 l2 l3 l4 l5 l6 l7 l8) (
 jd l9 C108 l9 v r0 r1 l0 l1 l2 l3 l4 l5 l6 l7 l8)) (
 .loop 116 16 [.slice none 0 0,iv 0] fun C116 l20 =>
 kN r0 <|
 pZ (g l0 32) fun v21 =>
 pL (g l20 1) v21 fun v22 =>
 .br v22 (
 kN r0 <|
 pI 2 (g l0 32) (g l20 1) fun v23 =>
 .load [] v23 2 fun l24 =>
 .newbox fun r4 =>
 kN r4 <|
 kN r4 <|
 pN (g l24 0) (g v 38) fun v25 =>
 kN r4 <|
 kV v25 <|
 kV v25 <|
 kV v25 <|
 pN (g l24 1) (g v 38) fun v26 =>
 kV v25 <|
 pK v25 v26 (.bool false) fun v27 =>
 .br v27 (
 kN r4 <|
 .newbox fun r5 =>
 .prim (.bi .append #[31,31] 31) [g l20 0,.slice (some ⟨r5,0,none⟩) 1 1] [⟨r5,122,[g l24 0,g l24 1]⟩] [] .one fun l28 _ =>
 je l20 C116 l28 v r0 r1 l9 l0 l1 l2 l3 l4 l5 l6 l7 l8) (
 je l20 C116 l20 v r0 r1 l9 l0 l1 l2 l3 l4 l5 l6 l7 l8)) (
 kN r0 <|
 c1 94 [g l0 31,g v 38] fun l31 =>
 kN r0 <|
 kN r0 <|
 kN r0 <|
 kN r0 <|
 kN r1 <|
 kN r1 <|
 .ret (ag (G6 l0 0 ++ ((g l1 0)::((g l2 0)::((g l3 0)::((g l4 0)::(G10 l0 10 ++ ((g l5 0)::((g l6 0)::((g l7 0)::((g l8 0)::(G5 l0 24 ++ ((g l9 0)::((g l0 30)::((g l31 0)::((g l20 0)::G5 l0 33)))))))))))))))) []))
theorem pz : bI kL Tryz.f58 kE := bJ Tryz.func58 [(76, [5, 6, 7, 8])] [(3, .unroll 3), (9, .inv [7, 8] [1, 2, 4] [(2, []), (4, [])]), (16, .inv [10, 11] [1, 2, 4, 7] [(2, []), (4, [])])] [] fun _ => by kernel_rfl
abbrev sM : FuncId := 59
def sq (v : List Value) : Tree :=
 .newbox fun r0 =>
 kN r0 <|
 c1 73 [g v 34,iv 0,iv 1] fun l0 =>
 pO (g l0 0) fun v1 =>
 .br v1 (
 .ret (.bool false) []) (
 kN r0 <|
 c1 73 [g v 33,iv 0,iv 1000] fun l2 =>
 pO (g l2 0) fun v3 =>
 .br v3 (
 .ret (.bool false) []) (
 kN r0 <|
 c1 73 [g v 35,iv 0,iv 10] fun l4 =>
 pO (g l4 0) fun v5 =>
 .br v5 (
 .ret (.bool false) []) (
 kN r0 <|
 c1 73 [g v 36,iv (-1),iv 1] fun l6 =>
 pO (g l6 0) fun v7 =>
 .br v7 (
 .ret (.bool false) []) (
 kN r0 <|
 c1 73 [g v 37,iv 0,iv 2] fun l8 =>
 pO (g l8 0) fun v9 =>
 kN r0 <|
 kV v9 <|
 kV v9 <|
 pZ (g v 0) fun v10 =>
 kV v9 <|
 pG v10 (iv 500) fun v11 =>
 kV v9 <|
 pK v9 (.bool true) v11 fun v12 =>
 kN r0 <|
 kV v12 <|
 kV v12 <|
 pZ (g v 29) fun v13 =>
 kV v12 <|
 pG v13 (iv 200) fun v14 =>
 kV v12 <|
 pK v12 (.bool true) v14 fun v15 =>
 kN r0 <|
 kV v15 <|
 kV v15 <|
 pZ (g v 30) fun v16 =>
 kV v15 <|
 pG v16 (iv 200) fun v17 =>
 kV v15 <|
 pK v15 (.bool true) v17 fun v18 =>
 .br v18 (
 .ret (.bool false) []) (
 kN r0 <|
 .newbox fun r1 =>
 kN r1 <|
 kN r1 <|
 c1 73 [g v 1,iv 0,iv 9999] fun l19 =>
 pO (g l19 0) fun v20 =>
 .br v20 (
 .ret (.bool false) []) (
 kN r1 <|
 c1 95 [ag (G4 v 2)] fun l21 =>
 pO (g l21 0) fun v22 =>
 .br v22 (
 .ret (.bool false) []) (
 kN r1 <|
 c1 73 [g v 13,iv 0,iv 7] fun l23 =>
 pO (g l23 0) fun v24 =>
 .br v24 (
 .ret (.bool false) []) (
 kN r1 <|
 c1 73 [g v 14,iv 0,iv 255] fun l25 =>
 pO (g l25 0) fun v26 =>
 .br v26 (
 .ret (.bool false) []) (
 .newbox fun r2 =>
 kN r2 <|
 kN r2 <|
 c1 73 [g v 15,iv 0,iv 9999] fun l27 =>
 pO (g l27 0) fun v28 =>
 .br v28 (
 .ret (.bool false) []) (
 kN r2 <|
 c1 95 [ag (G4 v 16)] fun l29 =>
 pO (g l29 0) fun v30 =>
 .br v30 (
 .ret (.bool false) []) (
 kN r2 <|
 c1 73 [g v 27,iv 0,iv 7] fun l31 =>
 pO (g l31 0) fun v32 =>
 .br v32 (
 .ret (.bool false) []) (
 kN r2 <|
 c1 73 [g v 28,iv 0,iv 255] fun l33 =>
 pO (g l33 0) fun v34 =>
 .br v34 (
 .ret (.bool false) []) (
 kN r0 <|
 c1 96 [g v 29,.func (.func 97) #[] #[]] fun l35 =>
 .br (g l35 0) (
 .ret (.bool false) []) (
 kN r0 <|
 c1 96 [g v 30,.func (.func 99) #[] #[]] fun l36 =>
 pO (g l36 0) fun v37 =>
 .br v37 (
 kN r0 <|
 c1 100 [ag (G38 v 0)] fun l38 =>
 .br (g l38 0) (
 kN r0 <|
 c1 101 [ag (G38 v 0)] fun l39 =>
 .ret (g l39 0) []) (
 .ret (.bool false) [])) (
 .ret (.bool false) [])))))))))))))))
theorem wi : bI sM Tryz.f59 sq := bJ Tryz.func59 [(76, [5, 6, 7, 8])] [(4, .unroll 3)] [] fun _ => by kernel_rfl
abbrev o5 : FuncId := 60
def uL (v : List Value) : Tree :=
 .newbox fun r0 =>
 .newbox fun r1 =>
 kN r0 <|
 kN r0 <|
 kN r0 <|
 c1 102 [g v 0] fun l0 =>
 c1 103 [g v 31] fun l1 =>
 c1 104 [g v 32] fun l2 =>
 kN r0 <|
 kN r0 <|
 kN r0 <|
 kN r0 <|
 kN r0 <|
 c1 105 [g v 29] fun l3 =>
 c1 105 [g v 30] fun l4 =>
 kN r0 <|
 kN r0 <|
 cS 76 [pt r0 1] (.agg 4) fun l5 =>
 kW (g l5 0) r0 6 <|
 kW (g l5 1) r0 7 <|
 kW (g l5 2) r0 8 <|
 kW (g l5 3) r0 9 <|
 kN r0 <|
 c1 103 [g v 6] fun l6 =>
 kN r0 <|
 kN r0 <|
 c1 103 [g v 7] fun l7 =>
 kN r0 <|
 kN r0 <|
 c1 103 [g v 8] fun l8 =>
 kN r0 <|
 kN r0 <|
 c1 103 [g v 9] fun l9 =>
 kN r0 <|
 cS 76 [pt r0 15] (.agg 4) fun l10 =>
 kW (g l10 0) r0 20 <|
 kW (g l10 1) r0 21 <|
 kW (g l10 2) r0 22 <|
 kW (g l10 3) r0 23 <|
 kN r0 <|
 c1 103 [g v 20] fun l11 =>
 kN r0 <|
 kN r0 <|
 c1 103 [g v 21] fun l12 =>
 kN r0 <|
 kN r0 <|
 c1 103 [g v 22] fun l13 =>
 kN r0 <|
 kN r0 <|
 c1 103 [g v 23] fun l14 =>
 kN r0 <|
 kN r0 <|
 kN r1 <|
 kN r1 <|
 .ret (ag ((g l0 0)::(G5 v 1 ++ ((g l6 0)::((g l7 0)::((g l8 0)::((g l9 0)::(G10 v 10 ++ ((g l11 0)::((g l12 0)::((g l13 0)::((g l14 0)::(G5 v 24 ++ ((g l3 0)::((g l4 0)::((g l1 0)::((g l2 0)::G5 v 33))))))))))))))))) []
theorem yr : bI o5 Tryz.f60 uL := bJ Tryz.func60 [(76, [5, 6, 7, 8])] [(4, .unroll 3), (7, .unroll 5)] [] fun _ => by kernel_rfl
abbrev jf : FuncId := 61
def iS (v : List Value) : Tree :=
 pZ (g v 0) fun v0 =>
 pZ (g v 1) fun v1 =>
 pN v0 v1 fun v2 =>
 .br v2 (
 .ret (.bool false) []) (
 .loop 7 4 [iv 0] fun C7 l3 =>
 pZ (g v 0) fun v4 =>
 pL (g l3 0) v4 fun v5 =>
 .br v5 (
 pI 5 (g v 0) (g l3 0) fun v6 =>
 .load [] v6 5 fun l7 =>
 pI 5 (g v 1) (g l3 0) fun v8 =>
 .load [] v8 5 fun l9 =>
 c1 18 [ag (G5 l7 0),ag (G5 l9 0)] fun l10 =>
 pO (g l10 0) fun v11 =>
 .br v11 (
 .ret (.bool false) []) (
 pA (g l3 0) (iv 1) fun v12 =>
 .cont 7 C7 [v12] (Es [[g v 0],[g v 1]]))) (
 .ret (.bool true) []))
theorem ni : bI jf Tryz.f61 iS := bJ Tryz.func61 [(76, [5, 6, 7, 8])] [(4, .inv [5] [0, 1] [])] [] fun _ => by kernel_rfl
abbrev qu : FuncId := 69
def qc (v : List Value) : Tree :=
 pZ (g v 0) fun v0 =>
 .loop 5 3 [.slice none 0 0,iv 0] fun C5 l1 =>
 pL (g l1 1) v0 fun v2 =>
 .br v2 (
 pI 5 (g v 0) (g l1 1) fun v3 =>
 .load [] v3 5 fun l4 =>
 .newbox fun r0 =>
 kN r0 <|
 kN r0 <|
 pN (g l4 1) (iv 0) fun v5 =>
 .br v5 (
 kN r0 <|
 .newbox fun r1 =>
 .prim (.bi .append #[131,131] 131) [g l1 0,.slice (some ⟨r1,0,none⟩) 1 1] [⟨r1,36,[g l4 1]⟩] [] .one fun l6 _ =>
 pA (g l1 1) (iv 1) fun v7 =>
 .cont 5 C5 [g l6 0,v7] (Es [[g v 0],[v0]])) (
 pA (g l1 1) (iv 1) fun v8 =>
 .cont 5 C5 [g l1 0,v8] (Es [[g v 0],[v0]]))) (
 .ret (g l1 0) [])
theorem uX : bI qu Tryz.f69 qc := bJ Tryz.func69 [(76, [5, 6, 7, 8])] [(3, .inv [3, 8] [6, 7] [])] [] fun _ => by kernel_rfl
abbrev qY : FuncId := 70
def qX (v : List Value) : Tree :=
 .newbox fun r0 =>
 .newbox fun r1 =>
 kN r0 <|
 kN r0 <|
 c1 107 [g v 11] fun l0 =>
 c1 108 [g v 12] fun l1 =>
 kN r0 <|
 kN r0 <|
 kN r0 <|
 pZ (g l1 0) fun v2 =>
 .loop 16 3 [iv 0] fun C16 l3 =>
 pL (g l3 0) v2 fun v4 =>
 .br v4 (
 pI 2 (g l1 0) (g l3 0) fun v5 =>
 .load [] v5 2 fun l6 =>
 .newbox fun r2 =>
 kN r2 <|
 kN r0 <|
 kN r2 <|
 c1 107 [g l6 1] fun l7 =>
 pI 2 (g l1 0) (g l3 0) fun v8 =>
 kP v8 <|
 kP (bz v8 1) <|
 .store (bz v8 1) [g l7 0] <|
 pA (g l3 0) (iv 1) fun v9 =>
 .cont 16 C16 [v9] (Es [[pt r0 0],[pt r1 0],[g l1 0],[v2],((pt r0 0)::(G11 v 0 ++ [g l0 0,g l1 0,g v 13])),[pt r1 0,.string ⟨#[]⟩,iv 0,iv 0,iv 0,iv 0,iv 0,iv 0,iv 0,iv 0,iv 0,iv 0,.slice none 0 0,.slice none 0 0,iv 0]])) (
 kN r0 <|
 kN r1 <|
 kN r1 <|
 .ret (ag (G11 v 0 ++ [g l0 0,g l1 0,g v 13])) [])
theorem rz : bI qY Tryz.f70 qX := bJ Tryz.func70 [(76, [5, 6, 7, 8])] [(3, .inv [16] [1, 2, 14, 15] [(1, []), (2, [])])] [] fun _ => by kernel_rfl
abbrev jz : FuncId := 71
def jw (v : List Value) : Tree :=
 .newbox fun r0 =>
 .newbox fun r1 =>
 kN r0 <|
 pL (g v 2) (iv 0) fun v0 =>
 kN r0 <|
 kV v0 <|
 kV v0 <|
 pZ (g v 0) fun v1 =>
 kV v0 <|
 kV v0 <|
 pH (g v 2) v1 fun v2 =>
 kV v0 <|
 pK v0 (.bool true) v2 fun v3 =>
 .br v3 (
 kN r1 <|
 kN r1 <|
 .ret (ag Z2) []) (
 kN r0 <|
 pI 14 (g v 0) (g v 2) fun v4 =>
 .load [] v4 14 fun l5 =>
 kN r1 <|
 kN r1 <|
 .ret (ag (G14 l5 0)) [])
theorem jK : bI jz Tryz.f71 jw := bJ Tryz.func71 [(76, [5, 6, 7, 8])] [] [] fun _ => by kernel_rfl
abbrev sJ : FuncId := 72
def sk (v : List Value) : Tree :=
 .newbox fun r0 =>
 kN r0 <|
 c1 59 [ag (G38 v 0)] fun l0 =>
 pO (g l0 0) fun v1 =>
 .br v1 (
 .ret (.tuple #[iv 0,iv 2]) []) (
 kN r0 <|
 cS 109 [g v 0,g v 38,.func (.func 110) #[] #[]] (.tup [none,none]) fun l2 =>
 pO (g l2 1) fun v3 =>
 .br v3 (
 .ret (.tuple #[iv 0,iv 9]) []) (
 .ret (.tuple #[g l2 0,iv 0]) []))
theorem wd : bI sJ Tryz.f72 sk := bJ Tryz.func72 [(76, [5, 6, 7, 8])] [] [] fun _ => by kernel_rfl
abbrev qB : FuncId := 73
def qj (v : List Value) : Tree :=
 pH (g v 0) (g v 1) fun v0 =>
 kV v0 <|
 kV v0 <|
 pM (g v 0) (g v 2) fun v1 =>
 kV v0 <|
 pK v0 v1 (.bool false) fun v2 =>
 .ret v2 []
theorem vd : bI qB Tryz.f73 qj := bJ Tryz.func73 [(76, [5, 6, 7, 8])] [] [] fun _ => by kernel_rfl
abbrev yc : FuncId := 74
def xW (v : List Value) : Tree :=
 .newbox fun r0 =>
 .newbox fun r1 =>
 .newbox fun r2 =>
 kN r0 <|
 cS 60 [ag (G38 v 0)] (.agg 38) fun l0 =>
 kN r0 <|
 cS 76 [pt r0 1] (.agg 4) fun l1 =>
 kW (g l1 0) r0 6 <|
 kW (g l1 1) r0 7 <|
 kW (g l1 2) r0 8 <|
 kW (g l1 3) r0 9 <|
 kN r0 <|
 .call false 112 [g l0 6,.func (.func 111) #[] #[pt r1 0]] [] [⟨r1,3,[g v 38]⟩] .one fun l2 c2 =>
 kN r0 <|
 kN r0 <|
 .call false 112 [g l0 7,.func (.func 111) #[] #[pt r1 0]] [] [⟨r1,3,[g (gd c2 0) 0]⟩] .one fun l3 c3 =>
 kN r0 <|
 kN r0 <|
 .call false 112 [g l0 8,.func (.func 111) #[] #[pt r1 0]] [] [⟨r1,3,[g (gd c3 0) 0]⟩] .one fun l4 c4 =>
 kN r0 <|
 kN r0 <|
 .call false 112 [g l0 9,.func (.func 111) #[] #[pt r1 0]] [] [⟨r1,3,[g (gd c4 0) 0]⟩] .one fun l5 c5 =>
 kN r0 <|
 cS 76 [pt r0 15] (.agg 4) fun l6 =>
 kW (g l6 0) r0 20 <|
 kW (g l6 1) r0 21 <|
 kW (g l6 2) r0 22 <|
 kW (g l6 3) r0 23 <|
 kN r0 <|
 .call false 112 [g l0 20,.func (.func 111) #[] #[pt r1 0]] [] [⟨r1,3,[g (gd c5 0) 0]⟩] .one fun l7 c7 =>
 kN r0 <|
 kN r0 <|
 .call false 112 [g l0 21,.func (.func 111) #[] #[pt r1 0]] [] [⟨r1,3,[g (gd c7 0) 0]⟩] .one fun l8 c8 =>
 kN r0 <|
 kN r0 <|
 .call false 112 [g l0 22,.func (.func 111) #[] #[pt r1 0]] [] [⟨r1,3,[g (gd c8 0) 0]⟩] .one fun l9 c9 =>
 kN r0 <|
 kN r0 <|
 .call false 112 [g l0 23,.func (.func 111) #[] #[pt r1 0]] [] [⟨r1,3,[g (gd c9 0) 0]⟩] .one fun l10 c10 =>
 kN r0 <|
 kN r0 <|
 .call false 113 [g l0 29,.func (.func 114) #[] #[pt r1 0]] [] [⟨r1,3,[g (gd c10 0) 0]⟩] .one fun l11 c11 =>
 kN r0 <|
 kN r0 <|
 .call false 112 [g l0 31,.func (.func 111) #[] #[pt r1 0]] [] [⟨r1,3,[g (gd c11 0) 0]⟩] .one fun l12 c12 =>
 kN r0 <|
 kN r0 <|
 .call false 115 [g l0 32,.func (.func 116) #[] #[pt r1 0]] [] [⟨r1,3,[g (gd c12 0) 0]⟩] .one fun l13 c13 =>
 kN r0 <|
 kN r0 <|
 kN r2 <|
 kN r2 <|
 .ret (ag (G6 l0 0 ++ ((g l2 0)::((g l3 0)::((g l4 0)::((g l5 0)::(G10 l0 10 ++ ((g l7 0)::((g l8 0)::((g l9 0)::((g l10 0)::(G5 l0 24 ++ ((g l11 0)::((g l0 30)::((g l12 0)::((g l13 0)::G5 l0 33)))))))))))))))) []
theorem zy : bI yc Tryz.f74 xW := bJ Tryz.func74 [(76, [5, 6, 7, 8])] [(4, .unroll 3), (7, .unroll 5)] [] fun _ => by kernel_rfl
abbrev qz : FuncId := 75
def qg (v : List Value) : Tree :=
 .newbox fun r0 =>
 .newbox fun r1 =>
 kN r0 <|
 cS 117 [ag (G12 v 0)] (.agg 12) fun l0 =>
 .newbox fun r2 =>
 kN r2 <|
 pE (g v 12) (iv 2) fun v1 =>
 kN r2 <|
 kN r2 <|
 kN r2 <|
 kN r2 <|
 kN r2 <|
 kN r1 <|
 kN r1 <|
 .ret (ag (G6 l0 0 ++ [iv 0,g l0 7,g l0 8,.bool false,v1,.bool false])) []
theorem u6 : bI qz Tryz.f75 qg := bJ Tryz.func75 [(76, [5, 6, 7, 8])] [] [] fun _ => by kernel_rfl
abbrev sG : FuncId := 76
def si (v : List Value) : Tree :=
 .newbox fun r0 =>
 kP (g v 0) <|
 kP (g v 0) <|
 kP (g v 0) <|
 kP (g v 0) <|
 kP (g v 0) <|
 kP (g v 0) <|
 kP (g v 0) <|
 kP (g v 0) <|
 kN r0 <|
 kN r0 <|
 .ret (.agg #[bz (g v 0) 5,bz (g v 0) 6,bz (g v 0) 7,bz (g v 0) 8]) []
theorem wb : bI sG Tryz.f76 si := bJ Tryz.func76 [(76, [5, 6, 7, 8])] [] [] fun _ => by kernel_rfl
abbrev qw : FuncId := 77
def qd (v : List Value) : Tree :=
 .newbox fun r0 =>
 .newbox fun r1 =>
 kN r0 <|
 kN r1 <|
 c1 119 [g v 0,ag (G38 v 1),g v 39,g v 40] fun l0 =>
 c1 118 [g l0 0,.agg #[g v 41,g v 42]] fun l1 =>
 .ret (g l1 0) []
theorem uY : bI qw Tryz.f77 qd := bJ Tryz.func77 [(76, [5, 6, 7, 8])] [] [] fun _ => by kernel_rfl
abbrev mZ : FuncId := 78
def mS (v : List Value) : Tree :=
 .newbox fun r0 =>
 .newbox fun r1 =>
 kN r0 <|
 cS 120 [ag (G38 v 0),g v 38] (.tup [some 12,none]) fun l0 =>
 .newbox fun r2 =>
 kN r2 <|
 kN r0 <|
 kN r2 <|
 .callv false (g v 39) [ag (G12 l0 0)] [] [] (.agg 12) fun l1 _ =>
 cS 121 [ag (G38 v 0),ag (G12 l1 0)] (.tup [some 38,none]) fun l2 =>
 .newbox fun r3 =>
 kN r3 <|
 pN (g l2 38) (iv 0) fun v3 =>
 .br v3 (
 kN r0 <|
 kN r1 <|
 kN r1 <|
 .ret (ag (G38 v 0)) []) (
 kN r3 <|
 kN r1 <|
 kN r1 <|
 .ret (ag (G38 l2 0)) [])
theorem rp : bI mZ Tryz.f78 mS := bJ Tryz.func78 [(76, [5, 6, 7, 8])] [] [] fun _ => by kernel_rfl
abbrev hJ : FuncId := 79
def kH (v : List Value) : Tree :=
 .newbox fun r0 =>
 .newbox fun r1 =>
 kN r0 <|
 kP (g v 12) <|
 .load [] (bz (g v 12) 2) 1 fun l0 =>
 cS 80 [ag (G12 v 0),g l0 0] (.agg 12) fun l1 =>
 kN r1 <|
 kN r1 <|
 .ret (ag (G12 l1 0)) []
theorem pD : bI hJ Tryz.f79 kH := bJ Tryz.func79 [(76, [5, 6, 7, 8])] [] [] fun _ => by kernel_rfl
abbrev uO : FuncId := 80
def uF (v : List Value) : Tree :=
 .newbox fun r0 =>
 .newbox fun r1 =>
 kN r0 <|
 c1 122 [g v 5,g v 12] fun l0 =>
 kN r0 <|
 kN r0 <|
 kN r1 <|
 kN r1 <|
 .ret (ag (G5 v 0 ++ ((g l0 0)::G6 v 6))) []
theorem yk : bI uO Tryz.f80 uF := bJ Tryz.func80 [(76, [5, 6, 7, 8])] [] [] fun _ => by kernel_rfl
abbrev CY : FuncId := 81
def CQ (v : List Value) : Tree :=
 pE (g v 1) (iv (-9223372036854775808)) fun v0 =>
 .br v0 (
 c1 124 [g v 0,iv 1] fun l1 =>
 c1 124 [g l1 0,iv 9223372036854775807] fun l2 =>
 c1 123 [g l2 0,g v 2] fun l3 =>
 .ret (g l3 0) []) (
 .pure [] .neg [g v 1] fun v4 =>
 c1 83 [g v 0,v4,g v 2] fun l5 =>
 .ret (g l5 0) [])
theorem Dk : bI CY Tryz.f81 CQ := bJ Tryz.func81 [(76, [5, 6, 7, 8])] [] [] fun _ => by kernel_rfl
abbrev uT : FuncId := 82
def qq (a : Nat) : Tree :=
 kN a <|
 kN a <|
 .ret (.tuple #[ag Z0,iv 2]) []
def qs (a b : Nat) (c d : List Value) : Tree :=
 kN a <|
 kN b <|
 kN b <|
 .ret (.tuple #[ag (G6 c 0 ++ ((g d 1)::((g d 2)::(G12 c 8 ++ ((g d 3)::((g d 4)::G16 c 22)))))),iv 0]) []
def uK (v : List Value) : Tree :=
 .newbox fun r0 =>
 .newbox fun r1 =>
 kN r0 <|
 c1 59 [ag (G38 v 0)] fun l0 =>
 pO (g l0 0) fun v1 =>
 .br v1 (
 qq r1) (
 c1 73 [g v 38,iv 0,iv 1] fun l2 =>
 pO (g l2 0) fun v3 =>
 kV v3 <|
 pL (g v 39) (iv 0) fun v4 =>
 kV v3 <|
 pK v3 (.bool true) v4 fun v5 =>
 .br v5 (
 qq r1) (
 kN r0 <|
 cS 60 [ag (G38 v 0)] (.agg 38) fun l6 =>
 kN r0 <|
 .sw (g v 38) 0 (
 .loop 22 5 [g v 39,g l6 6,g l6 7,g l6 20,g l6 21] fun C22 l7 =>
 pG (g l7 0) (iv 0) fun v8 =>
 .br v8 (
 kN r0 <|
 pZ (g l7 1) fun v9 =>
 pE v9 (iv 0) fun v10 =>
 .br v10 (
 kN r0 <|
 kN r0 <|
 kN r1 <|
 kN r1 <|
 .ret (.tuple #[ag (G6 l6 0 ++ ((g l7 1)::((g l7 2)::((g l6 8)::((g l6 9)::((.bool true)::(G9 l6 11 ++ ((g l7 3)::((g l7 4)::G16 l6 22))))))))),iv 0]) []) (
 kN r0 <|
 pS v9 (iv 1) fun v11 =>
 pI 1 (g l7 1) v11 fun v12 =>
 .load [] v12 1 fun l13 =>
 kN r0 <|
 pS v9 (iv 1) fun v14 =>
 .pure [] (.slc 1 false true false) [g l7 1,v14] fun v15 =>
 kN r0 <|
 .newbox fun r2 =>
 .prim (.bi .append #[26,26] 26) [g l7 2,.slice (some ⟨r2,0,none⟩) 1 1] [⟨r2,3,[g l13 0]⟩] [] .one fun l16 _ =>
 kN r0 <|
 kN r0 <|
 kN r0 <|
 cS 72 [ag (G6 l6 0 ++ (v15::((g l16 0)::(G12 l6 8 ++ ((g l7 3)::((g l7 4)::G16 l6 22)))))),g l13 0] (.tup [none,none]) fun l17 =>
 kN r0 <|
 kN r0 <|
 pI 12 (g l6 0) (g l17 0) fun v18 =>
 .load [] v18 12 fun l19 =>
 cS 75 [ag (G12 l19 0),iv 1] (.agg 12) fun l20 =>
 pI 12 (g l6 0) (g l17 0) fun v21 =>
 kP v21 <|
 .store v21 (G12 l20 0) <|
 pS (g l7 0) (iv 1) fun v22 =>
 .cont 22 C22 [v22,v15,g l16 0,g l7 3,g l7 4] (Es [[pt r0 0],[pt r1 0],[pt r0 1],((pt r0 0)::(G6 l6 0 ++ ((.tuple #[])::((.tuple #[])::(G12 l6 8 ++ ((.tuple #[])::((.tuple #[])::G16 l6 22))))))),[pt r1 0,.slice none 0 0,iv 0,iv 0,iv 0,iv 0,iv 0,.slice none 0 0,.slice none 0 0,.slice none 0 0,.slice none 0 0,.bool false,.bool false,.bool false,iv 0,iv 0,iv 0,iv 0,iv 0,iv 0,iv 0,.slice none 0 0,.slice none 0 0,.slice none 0 0,.slice none 0 0,.bool false,.bool false,.bool false,iv 0,iv 0,.slice none 0 0,.slice none 0 0,.slice none 0 0,.slice none 0 0,iv 0,iv 0,iv 0,iv 0,iv 0]]))) (
 qs r0 r1 l6 l7)) (
 .sw (g v 38) 1 (
 .loop 22 5 [g v 39,g l6 6,g l6 7,g l6 20,g l6 21] fun C22 l23 =>
 pG (g l23 0) (iv 0) fun v24 =>
 .br v24 (
 kN r0 <|
 pZ (g l23 3) fun v25 =>
 pE v25 (iv 0) fun v26 =>
 .br v26 (
 kN r0 <|
 kN r0 <|
 kN r1 <|
 kN r1 <|
 .ret (.tuple #[ag (G6 l6 0 ++ ((g l23 1)::((g l23 2)::(G12 l6 8 ++ ((g l23 3)::((g l23 4)::((g l6 22)::((g l6 23)::((.bool true)::G13 l6 25))))))))),iv 0]) []) (
 kN r0 <|
 pS v25 (iv 1) fun v27 =>
 pI 1 (g l23 3) v27 fun v28 =>
 .load [] v28 1 fun l29 =>
 kN r0 <|
 pS v25 (iv 1) fun v30 =>
 .pure [] (.slc 1 false true false) [g l23 3,v30] fun v31 =>
 kN r0 <|
 .newbox fun r3 =>
 .prim (.bi .append #[26,26] 26) [g l23 4,.slice (some ⟨r3,0,none⟩) 1 1] [⟨r3,3,[g l29 0]⟩] [] .one fun l32 _ =>
 kN r0 <|
 kN r0 <|
 kN r0 <|
 cS 72 [ag (G6 l6 0 ++ ((g l23 1)::((g l23 2)::(G12 l6 8 ++ (v31::((g l32 0)::G16 l6 22)))))),g l29 0] (.tup [none,none]) fun l33 =>
 kN r0 <|
 kN r0 <|
 pI 12 (g l6 0) (g l33 0) fun v34 =>
 .load [] v34 12 fun l35 =>
 cS 75 [ag (G12 l35 0),iv 1] (.agg 12) fun l36 =>
 pI 12 (g l6 0) (g l33 0) fun v37 =>
 kP v37 <|
 .store v37 (G12 l36 0) <|
 pS (g l23 0) (iv 1) fun v38 =>
 .cont 22 C22 [v38,g l23 1,g l23 2,v31,g l32 0] (Es [[pt r0 0],[pt r1 0],[pt r0 15],((pt r0 0)::(G6 l6 0 ++ ((.tuple #[])::((.tuple #[])::(G12 l6 8 ++ ((.tuple #[])::((.tuple #[])::G16 l6 22))))))),[pt r1 0,.slice none 0 0,iv 0,iv 0,iv 0,iv 0,iv 0,.slice none 0 0,.slice none 0 0,.slice none 0 0,.slice none 0 0,.bool false,.bool false,.bool false,iv 0,iv 0,iv 0,iv 0,iv 0,iv 0,iv 0,.slice none 0 0,.slice none 0 0,.slice none 0 0,.slice none 0 0,.bool false,.bool false,.bool false,iv 0,iv 0,.slice none 0 0,.slice none 0 0,.slice none 0 0,.slice none 0 0,iv 0,iv 0,iv 0,iv 0,iv 0]]))) (
 qs r0 r1 l6 l23)) (
 .stuck 901))))
theorem yq : bI uT Tryz.f82 uK := bJ Tryz.func82 [(76, [5, 6, 7, 8])] [(5, .inv [2] [3, 6, 8] [(3, [6, 7, 20, 21]), (6, [])])] [] fun _ => by kernel_rfl
abbrev xZ : FuncId := 83
def xR (v : List Value) : Tree :=
 c1 124 [g v 0,g v 1] fun l0 =>
 c1 123 [g l0 0,g v 2] fun l1 =>
 .ret (g l1 0) []
theorem vS : bI xZ Tryz.f83 xR := bJ Tryz.func83 [(76, [5, 6, 7, 8])] [] [] fun _ => by kernel_rfl
abbrev oS : FuncId := 84
def oC (v : List Value) : Tree :=
 .newbox fun r0 =>
 .newbox fun r1 =>
 kN r0 <|
 cS 125 [ag (G38 v 0),g v 38] (.tup [some 3,none]) fun l0 =>
 .newbox fun r2 =>
 kN r2 <|
 pE (g l0 3) (iv 2) fun v1 =>
 .br v1 (
 kN r1 <|
 kN r1 <|
 .ret (.tuple #[ag Z0,g l0 3]) []) (
 pN (g l0 3) (iv 0) fun v2 =>
 kN r2 <|
 kV v2 <|
 kV v2 <|
 pN (g l0 1) (iv 4) fun v3 =>
 kV v2 <|
 pK v2 (.bool true) v3 fun v4 =>
 .br v4 (
 kN r1 <|
 kN r1 <|
 .ret (.tuple #[ag Z0,iv 9]) []) (
 kN r0 <|
 cS 42 [ag (G38 v 0),g v 38,iv 3] (.tup [some 38,none]) fun l5 =>
 kN r1 <|
 kN r1 <|
 .ret (.tuple #[ag (G38 l5 0),g l5 38]) []))
theorem sZ : bI oS Tryz.f84 oC := bJ Tryz.func84 [(76, [5, 6, 7, 8])] [] [] fun _ => by kernel_rfl
abbrev sN : FuncId := 85
def oP (a b : Nat) (c d e : List Value) (f : Nat) (h : List Value) (i : Nat) (j : List Value) : Tree :=
 kN a <|
 kN a <|
 kN b <|
 kN b <|
 .ret (.tuple #[ag ((g c 0)::(G7 d 1 ++ ((g e f)::(G13 d 9 ++ ((g h i)::G15 d 23))))),g j 0,iv 0]) []
def oM (a : Nat) (b : List Value) (c : Nat) (d e : List Value) (f : Nat) (h : List Value) : Tree :=
 kN a <|
 .newbox fun r5 =>
 .prim (.bi .append #[26,26] 26) [g b c,.slice (some ⟨r5,0,none⟩) 1 1] [⟨r5,3,[g d 0]⟩] [] .one fun l20 _ =>
 .sw (g e 38) 0 (
 oP a f h b l20 0 b 22 d) (
 .sw (g e 38) 1 (
 oP a f h b b 8 l20 0 d) (
 .stuck 901))
def oN (a : Nat) : Tree :=
 kN a <|
 kN a <|
 .ret (.tuple #[ag Z0,iv 0,iv 2]) []
def oO (a b : Nat) (c : List Value) : Tree :=
 kN a <|
 kN b <|
 kN b <|
 .ret (.tuple #[ag (G38 c 0),iv 0,iv 0]) []
def sr (v : List Value) : Tree :=
 .newbox fun r0 =>
 .newbox fun r1 =>
 kN r0 <|
 c1 59 [ag (G38 v 0)] fun l0 =>
 pO (g l0 0) fun v1 =>
 .br v1 (
 oN r1) (
 c1 73 [g v 38,iv 0,iv 1] fun l2 =>
 pO (g l2 0) fun v3 =>
 .br v3 (
 oN r1) (
 kN r0 <|
 cS 60 [ag (G38 v 0)] (.agg 38) fun l4 =>
 kN r0 <|
 kN r0 <|
 pZ (g l4 0) fun v5 =>
 pH v5 (g v 41) fun v6 =>
 .br v6 (
 oO r0 r1 l4) (
 cS 126 [iv 500] (.tup [none,none]) fun l7 =>
 kN r0 <|
 pZ (g l4 0) fun v8 =>
 .loop 30 8 [iv 0] fun C30 l9 =>
 pL (g l9 0) v8 fun v10 =>
 .br v10 (
 pI 12 (g l4 0) (g l9 0) fun v11 =>
 .load [] v11 12 fun l12 =>
 .newbox fun r2 =>
 kN r2 <|
 kN r2 <|
 c1 127 [g l7 0,g l12 0] fun l13 =>
 pA (g l9 0) (iv 1) fun v14 =>
 .cont 30 C30 [v14] (Es [[g v 38],[g v 39],[g v 40],[pt r0 0],[pt r1 0],[g l7 0],[g l4 0],[v8],((pt r0 0)::G38 l4 0),[pt r1 0,.slice none 0 0,iv 0,iv 0,iv 0,iv 0,iv 0,.slice none 0 0,.slice none 0 0,.slice none 0 0,.slice none 0 0,.bool false,.bool false,.bool false,iv 0,iv 0,iv 0,iv 0,iv 0,iv 0,iv 0,.slice none 0 0,.slice none 0 0,.slice none 0 0,.slice none 0 0,.bool false,.bool false,.bool false,iv 0,iv 0,.slice none 0 0,.slice none 0 0,.slice none 0 0,.slice none 0 0,iv 0,iv 0,iv 0,iv 0,iv 0]])) (
 cS 128 [g l7 0] (.tup [none,none]) fun l15 =>
 pN (g l15 1) (iv 0) fun v16 =>
 .br v16 (
 oO r0 r1 l4) (
 cS 129 [g l15 0,g v 38,g v 39,g v 40] (.agg 12) fun l17 =>
 .newbox fun r3 =>
 kN r3 <|
 kN r3 <|
 kN r0 <|
 pS (g l15 0) (iv 1) fun v18 =>
 kN r3 <|
 .newbox fun r4 =>
 .call false 130 [g l4 0,v18,.slice (some ⟨r4,0,none⟩) 1 1] [⟨r4,82,(G10 l17 0 ++ [.bool true,g l17 11])⟩] [] .one fun l19 _ =>
 kN r0 <|
 .sw (g v 38) 0 (
 oM r0 l4 8 l15 v r1 l19) (
 .sw (g v 38) 1 (
 oM r0 l4 22 l15 v r1 l19) (
 .stuck 901)))))))
theorem wj : bI sN Tryz.f85 sr := bJ Tryz.func85 [(76, [5, 6, 7, 8])] [(8, .inv [44] [1, 2, 3, 5, 10, 13, 42, 43] [(5, []), (10, [])])] [] fun _ => by kernel_rfl
abbrev uN : FuncId := 86
def uE (v : List Value) : Tree :=
 .newbox fun r0 =>
 kN r0 <|
 cS 120 [ag (G38 v 1),g v 39] (.tup [some 12,none]) fun l0 =>
 .newbox fun r1 =>
 kN r1 <|
 pE (g l0 12) (iv 0) fun v1 =>
 .br v1 (
 kN r1 <|
 c1 131 [g v 0,ag (G12 l0 0)] fun l2 =>
 .br (g l2 0) (
 kN r1 <|
 .sw (g l0 2) 0 (
 kN r0 <|
 c1 132 [g v 9,g v 39] fun l3 =>
 .ret (g l3 0) []) (
 .sw (g l0 2) 1 (
 kN r0 <|
 c1 132 [g v 23,g v 39] fun l4 =>
 .ret (g l4 0) []) (
 .stuck 901))) (
 .ret (.bool false) [])) (
 .ret (.bool false) [])
theorem yj : bI uN Tryz.f86 uE := bJ Tryz.func86 [(76, [5, 6, 7, 8])] [] [] fun _ => by kernel_rfl
abbrev kO : FuncId := 87
def kG (v : List Value) : Tree :=
 .newbox fun r0 =>
 .newbox fun r1 =>
 kN r0 <|
 .load [] (g v 12) 5 fun l0 =>
 cS 88 [ag (G12 v 0),ag (G5 l0 0)] (.agg 12) fun l1 =>
 kN r1 <|
 kN r1 <|
 .ret (ag (G12 l1 0)) []
theorem pC : bI kO Tryz.f87 kG := bJ Tryz.func87 [(76, [5, 6, 7, 8])] [] [] fun _ => by kernel_rfl
abbrev lV : FuncId := 88
def kc (a : Nat) (b : List Value) : Tree :=
 kN a <|
 kN a <|
 .ret (ag (G12 b 0)) []
def lQ (v : List Value) : Tree :=
 .newbox fun r0 =>
 .newbox fun r1 =>
 .newbox fun r2 =>
 kN r1 <|
 pE (g v 12) (iv 5) fun v0 =>
 .br v0 (
 kN r0 <|
 kN r0 <|
 kN r2 <|
 kN r2 <|
 .ret (ag (G11 v 0 ++ [.bool true])) []) (
 pE (g v 12) (iv 11) fun v1 =>
 .br v1 (
 kN r0 <|
 kN r0 <|
 kN r2 <|
 kN r2 <|
 .ret (ag (G9 v 0 ++ [.bool true,g v 10,g v 11])) []) (
 pE (g v 12) (iv 8) fun v2 =>
 .br v2 (
 kN r0 <|
 kN r1 <|
 kN r1 <|
 cS 133 [ag (G12 v 0),g v 14,g v 15] (.agg 12) fun l3 =>
 kc r2 l3) (
 pE (g v 12) (iv 9) fun v4 =>
 .br v4 (
 kN r0 <|
 kN r1 <|
 cS 134 [ag (G12 v 0),g v 14] (.agg 12) fun l5 =>
 kc r2 l5) (
 kN r0 <|
 kN r2 <|
 kN r2 <|
 .ret (ag (G12 v 0)) []))))
theorem qH : bI lV Tryz.f88 lQ := bJ Tryz.func88 [(76, [5, 6, 7, 8])] [] [] fun _ => by kernel_rfl
abbrev ct : FuncId := 92
def cm (v : List Value) : Tree :=
 pZ (g v 0) fun v0 =>
 pZ (g v 0) fun v1 =>
 .pure [] (.slc 1 false true true) [g v 0,v0,v1] fun v2 =>
 .ret v2 []
theorem eG : bI ct Tryz.f92 cm := bJ Tryz.func92 [(76, [5, 6, 7, 8])] [] [] fun _ => by kernel_rfl
abbrev ki : FuncId := 93
def ka (v : List Value) : Tree :=
 .newbox fun r0 =>
 .newbox fun r1 =>
 kN r0 <|
 kN r0 <|
 kN r0 <|
 kN r0 <|
 kN r1 <|
 kN r1 <|
 .ret (ag (G5 v 0 ++ [iv 0,g v 6,iv 0,iv 0,g v 9,g v 10,g v 11])) []
theorem nH : bI ki Tryz.f93 ka := bJ Tryz.func93 [(76, [5, 6, 7, 8])] [] [] fun _ => by kernel_rfl
abbrev eS : FuncId := 94
def ib (v : List Value) : Tree :=
 .loop 3 3 [.slice none 0 0,iv 0] fun C3 l0 =>
 pZ (g v 0) fun v1 =>
 pL (g l0 1) v1 fun v2 =>
 .br v2 (
 pI 1 (g v 0) (g l0 1) fun v3 =>
 .load [] v3 1 fun l4 =>
 pN (g l4 0) (g v 1) fun v5 =>
 .br v5 (
 pI 1 (g v 0) (g l0 1) fun v6 =>
 .load [] v6 1 fun l7 =>
 .newbox fun r0 =>
 .prim (.bi .append #[26,26] 26) [g l0 0,.slice (some ⟨r0,0,none⟩) 1 1] [⟨r0,3,[g l7 0]⟩] [] .one fun l8 _ =>
 pA (g l0 1) (iv 1) fun v9 =>
 .cont 3 C3 [g l8 0,v9] (Es [[g v 0],[g v 1]])) (
 pA (g l0 1) (iv 1) fun v10 =>
 .cont 3 C3 [g l0 0,v10] (Es [[g v 0],[g v 1]]))) (
 .ret (g l0 0) [])
theorem lm : bI eS Tryz.f94 ib := bJ Tryz.func94 [(76, [5, 6, 7, 8])] [(3, .inv [5, 6] [0, 1] [])] [] fun _ => by kernel_rfl
abbrev uP : FuncId := 95
def uG (v : List Value) : Tree :=
 .newbox fun r0 =>
 kN r0 <|
 c1 136 [ag (G4 v 0),iv 99] fun l0 =>
 .ret (g l0 0) []
theorem yl : bI uP Tryz.f95 uG := bJ Tryz.func95 [(76, [5, 6, 7, 8])] [] [] fun _ => by kernel_rfl
abbrev cH : FuncId := 96
def cF (v : List Value) : Tree :=
 c1 137 [g v 0,g v 1] fun l0 =>
 pH (g l0 0) (iv 0) fun v1 =>
 .ret v1 []
theorem eP : bI cH Tryz.f96 cF := bJ Tryz.func96 [(76, [5, 6, 7, 8])] [] [] fun _ => by kernel_rfl
abbrev oZ : FuncId := 97
def oK (v : List Value) : Tree :=
 .newbox fun r0 =>
 kN r0 <|
 c1 98 [ag (G5 v 0),.bool false] fun l0 =>
 pO (g l0 0) fun v1 =>
 .ret v1 []
theorem tf : bI oZ Tryz.f97 oK := bJ Tryz.func97 [(76, [5, 6, 7, 8])] [] [] fun _ => by kernel_rfl
abbrev uQ : FuncId := 98
def uH (v : List Value) : Tree :=
 .newbox fun r0 =>
 kN r0 <|
 c1 73 [g v 0,iv 0,iv 1] fun l0 =>
 .br (g l0 0) (
 kN r0 <|
 c1 73 [g v 1,iv 1,iv 500] fun l1 =>
 .br (g l1 0) (
 kN r0 <|
 c1 73 [g v 2,iv 0,iv 399] fun l2 =>
 .br (g l2 0) (
 kN r0 <|
 c1 73 [g v 3,iv (-1),iv 1] fun l3 =>
 pO (g l3 0) fun v4 =>
 kN r0 <|
 kV v4 <|
 kV v4 <|
 pZ (g v 4) fun v5 =>
 kV v4 <|
 pG v5 (iv 4) fun v6 =>
 kV v4 <|
 pK v4 (.bool true) v6 fun v7 =>
 kN r0 <|
 kV v7 <|
 kV v7 <|
 pH (g v 3) (iv 0) fun v8 =>
 kV v7 <|
 kN r0 <|
 kV v8 <|
 kV v7 <|
 kV v8 <|
 kV v7 <|
 pZ (g v 4) fun v9 =>
 kV v8 <|
 kV v7 <|
 pG v9 (iv 0) fun v10 =>
 kV v7 <|
 kV v8 <|
 kV v7 <|
 pK v8 v10 (.bool false) fun v11 =>
 kV v7 <|
 pK v7 (.bool true) v11 fun v12 =>
 kV v12 <|
 kN r0 <|
 kV (g v 5) <|
 kV v12 <|
 kV (g v 5) <|
 kV v12 <|
 pL (g v 3) (iv 0) fun v13 =>
 kV v12 <|
 kV (g v 5) <|
 kV v12 <|
 pK (g v 5) v13 (.bool false) fun v14 =>
 kV v12 <|
 pK v12 (.bool true) v14 fun v15 =>
 .br v15 (
 .ret (.bool false) []) (
 kN r0 <|
 c1 138 [g v 4,.func (.func 139) #[] #[]] fun l16 =>
 pO (g l16 0) fun v17 =>
 .ret v17 [])) (
 .ret (.bool false) [])) (
 .ret (.bool false) [])) (
 .ret (.bool false) [])
theorem ym : bI uQ Tryz.f98 uH := bJ Tryz.func98 [(76, [5, 6, 7, 8])] [] [] fun _ => by kernel_rfl
abbrev oY : FuncId := 99
def oJ (v : List Value) : Tree :=
 .newbox fun r0 =>
 kN r0 <|
 c1 98 [ag (G5 v 0),.bool true] fun l0 =>
 pO (g l0 0) fun v1 =>
 .ret v1 []
theorem td : bI oY Tryz.f99 oJ := bJ Tryz.func99 [(76, [5, 6, 7, 8])] [] [] fun _ => by kernel_rfl
abbrev qC : FuncId := 100
def bV (a : List Value) (b : Nat) (c : List Value) (d : Int) (e f : Nat) (h : List Value → Heap → Own → Prop) (i j k l m : Nat) (n : Int) (o : Value) : Tree :=
 pI 1 (g a b) (g c 0) fun v5 =>
 .load [] v5 1 fun l6 =>
 .call false 141 [g l6 0,iv d,pt e 0] [] [⟨e,196,[g c 1]⟩] .one fun l7 c7 =>
 pO (g l7 0) fun v8 =>
 .br v8 (
 .ret (.bool false) []) (
 pA (g c 0) (iv 1) fun v9 =>
 .cont f h [v9,g (gd c7 0) 0] (Es [[pt i 0],[pt e 0],[.func (.func 141) #[] #[pt e 0]],[iv d],[iv d],[pt i j,pt i k,pt i l,pt i m],[iv n],[g a b],[o],((pt i 0)::G38 a 0),[pt e 0,.tuple #[]]]))
def qk (v : List Value) : Tree :=
 .newbox fun r0 =>
 .prim (.makeMap 196 false) [] [] [] .one fun l0 _ =>
 .newbox fun r1 =>
 kN r1 <|
 cS 76 [pt r0 1] (.agg 4) fun l1 =>
 kW (g l1 0) r0 6 <|
 kW (g l1 1) r0 7 <|
 kW (g l1 2) r0 8 <|
 kW (g l1 3) r0 9 <|
 kN r0 <|
 pZ (g v 6) fun v2 =>
 .loop 24 10 [iv 0,g l0 0] fun C24 l3 =>
 pL (g l3 0) v2 fun v4 =>
 .br v4 (
 bV v 6 l3 0 r1 24 C24 r0 6 7 8 9 0 v2) (
 kN r0 <|
 pZ (g v 7) fun v10 =>
 .loop 36 10 [iv 0,g l3 1] fun C36 l11 =>
 pL (g l11 0) v10 fun v12 =>
 .br v12 (
 bV v 7 l11 0 r1 36 C36 r0 6 7 8 9 1 v10) (
 kN r0 <|
 pZ (g v 8) fun v18 =>
 .loop 48 10 [iv 0,g l11 1] fun C48 l19 =>
 pL (g l19 0) v18 fun v20 =>
 .br v20 (
 bV v 8 l19 0 r1 48 C48 r0 6 7 8 9 2 v18) (
 kN r0 <|
 pZ (g v 9) fun v26 =>
 .loop 60 10 [iv 0,g l19 1] fun C60 l27 =>
 pL (g l27 0) v26 fun v28 =>
 .br v28 (
 bV v 9 l27 0 r1 60 C60 r0 6 7 8 9 3 v26) (
 cS 76 [pt r0 15] (.agg 4) fun l34 =>
 kW (g l34 0) r0 20 <|
 kW (g l34 1) r0 21 <|
 kW (g l34 2) r0 22 <|
 kW (g l34 3) r0 23 <|
 kN r0 <|
 pZ (g v 20) fun v35 =>
 .loop 83 10 [iv 0,g l27 1] fun C83 l36 =>
 pL (g l36 0) v35 fun v37 =>
 .br v37 (
 bV v 20 l36 1 r1 83 C83 r0 20 21 22 23 0 v35) (
 kN r0 <|
 pZ (g v 21) fun v43 =>
 .loop 95 10 [iv 0,g l36 1] fun C95 l44 =>
 pL (g l44 0) v43 fun v45 =>
 .br v45 (
 bV v 21 l44 1 r1 95 C95 r0 20 21 22 23 1 v43) (
 kN r0 <|
 pZ (g v 22) fun v51 =>
 .loop 107 10 [iv 0,g l44 1] fun C107 l52 =>
 pL (g l52 0) v51 fun v53 =>
 .br v53 (
 bV v 22 l52 1 r1 107 C107 r0 20 21 22 23 2 v51) (
 kN r0 <|
 pZ (g v 23) fun v59 =>
 .loop 119 10 [iv 0,g l52 1] fun C119 l60 =>
 pL (g l60 0) v59 fun v61 =>
 .br v61 (
 bV v 23 l60 1 r1 119 C119 r0 20 21 22 23 3 v59) (
 .prim (.makeMap 196 false) [] [] [] .one fun l67 _ =>
 kN r0 <|
 pZ (g v 29) fun v68 =>
 .loop 133 19 [iv 0,g l60 1] fun C133 l69 =>
 pL (g l69 0) v68 fun v70 =>
 .br v70 (
 pI 5 (g v 29) (g l69 0) fun v71 =>
 .load [] v71 5 fun l72 =>
 .newbox fun r2 =>
 kN r2 <|
 kN r2 <|
 pL (g l72 3) (iv 0) fun v73 =>
 .br v73 (
 kN r2 <|
 kN r2 <|
 .call false 141 [g l72 1,g l72 0,pt r1 0] [] [⟨r1,196,[g l69 1]⟩] .one fun l74 c74 =>
 pO (g l74 0) fun v75 =>
 .br v75 (
 .ret (.bool false) []) (
 kN r2 <|
 kN r2 <|
 .prim (.mapUpdate 196) [g l67 0,g l72 1,g l72 2] [] [] .one fun l76 _ =>
 pA (g l69 0) (iv 1) fun v77 =>
 .cont 133 C133 [v77,g (gd c74 0) 0] (Es [[pt r0 0],[pt r1 0],[.func (.func 141) #[] #[pt r1 0]],[g l67 0],[g v 29],[v68],((pt r0 0)::G38 v 0),[pt r1 0,.tuple #[]]]))) (
 pA (g l69 0) (iv 1) fun v78 =>
 .cont 133 C133 [v78,g l69 1] (Es [[pt r0 0],[pt r1 0],[.func (.func 141) #[] #[pt r1 0]],[g l67 0],[g v 29],[v68],((pt r0 0)::G38 v 0),[pt r1 0,.tuple #[]]]))) (
 kN r0 <|
 pZ (g v 0) fun v79 =>
 .loop 139 27 [iv 0] fun C139 l80 =>
 pL (g l80 0) v79 fun v81 =>
 .br v81 (
 pI 12 (g v 0) (g l80 0) fun v82 =>
 .load [] v82 12 fun l83 =>
 .newbox fun r3 =>
 kN r3 <|
 kN r1 <|
 kN r3 <|
 .prim (.lookup 196 true) [g l69 1,g l83 0] [] [] (.tup [none,none]) fun l84 _ =>
 kN r3 <|
 .prim (.lookup 196 true) [g l67 0,g l83 0] [] [] (.tup [none,none]) fun l85 _ =>
 kN r3 <|
 c1 142 [ag (G12 l83 0)] fun l86 =>
 pO (g l86 0) fun v87 =>
 kV v87 <|
 pG (g l80 0) (iv 0) fun v88 =>
 kV v87 <|
 kN r0 <|
 kV v88 <|
 kV v87 <|
 kV v88 <|
 kV v87 <|
 pS (g l80 0) (iv 1) fun v89 =>
 kV v88 <|
 kV v87 <|
 kV v88 <|
 kV v87 <|
 .pure [(v88,true),(v87,false)] (.idx 12) [g v 0,v89] fun v90 =>
 .chk (.ptr [(v88,true),(v87,false)] v90) <|
 kV v88 <|
 kV v87 <|
 kV v88 <|
 kV v87 <|
 .load [(v88,true),(v87,false)] v90 1 fun l91 =>
 kN r3 <|
 kV v88 <|
 kV v87 <|
 kV v88 <|
 kV v87 <|
 kV v88 <|
 kV v87 <|
 pH (g l91 0) (g l83 0) fun v92 =>
 kV v87 <|
 kV v88 <|
 kV v87 <|
 pK v88 v92 (.bool false) fun v93 =>
 kV v87 <|
 pK v87 (.bool true) v93 fun v94 =>
 kV v94 <|
 pO (g l84 1) fun v95 =>
 kV v94 <|
 pK v94 (.bool true) v95 fun v96 =>
 kN r3 <|
 kV v96 <|
 kV v96 <|
 kV v96 <|
 pN (g l84 0) (g l83 2) fun v97 =>
 kV v96 <|
 pK v96 (.bool true) v97 fun v98 =>
 kV v98 <|
 kN r3 <|
 kV (g l85 1) <|
 kV v98 <|
 kV (g l85 1) <|
 kV v98 <|
 kV (g l85 1) <|
 kV v98 <|
 pN (g l85 0) (g l83 1) fun v99 =>
 kV v98 <|
 kV (g l85 1) <|
 kV v98 <|
 pK (g l85 1) v99 (.bool false) fun v100 =>
 kV v98 <|
 pK v98 (.bool true) v100 fun v101 =>
 .br v101 (
 .ret (.bool false) []) (
 pA (g l80 0) (iv 1) fun v102 =>
 .cont 139 C139 [v102] (Es [[pt r0 0],[pt r1 0],[g l67 0],[g v 0],[v79],((pt r0 0)::G38 v 0),[pt r1 0,g l69 1]]))) (
 kN r1 <|
 .prim (.bi .len #[196] 3) [g l69 1] [] [] .one fun l103 _ =>
 kN r0 <|
 pZ (g v 0) fun v104 =>
 pE (g l103 0) v104 fun v105 =>
 .ret v105 []))))))))))
theorem ve : bI qC Tryz.f100 qk := bJ Tryz.func100 [(76, [5, 6, 7, 8])] [(4, .unroll 3), (7, .unroll 5), (10, .inv [35] [1, 3, 4, 5, 21, 27, 28, 33, 34] [(1, []), (3, [0])]), (19, .inv [51] [1, 3, 4, 10, 49, 50] [(1, []), (3, [0])]), (27, .inv [74] [1, 3, 10, 72, 73] [(1, []), (3, [])])] [] fun _ => by kernel_rfl
abbrev qE : FuncId := 101
def gi (a : Nat) (b : List Value) (c d : Nat) : Tree :=
 kN a <|
 .prim (.makeMap 198 false) [] [] [] .one fun l1 _ =>
 kN a <|
 pZ (g b 31) fun v2 =>
 .loop 23 4 [iv 0] fun C23 l3 =>
 pL (g l3 0) v2 fun v4 =>
 .br v4 (
 pI 1 (g b 31) (g l3 0) fun v5 =>
 .load [] v5 1 fun l6 =>
 .prim (.lookup 198 false) [g l1 0,g l6 0] [] [] .one fun l7 _ =>
 .br (g l7 0) (
 .ret (.bool false) []) (
 c1 132 [g b c,g l6 0] fun l8 =>
 pO (g l8 0) fun v9 =>
 .br v9 (
 .ret (.bool false) []) (
 .prim (.mapUpdate 198) [g l1 0,g l6 0,.bool true] [] [] .one fun l10 _ =>
 pA (g l3 0) (iv 1) fun v11 =>
 .cont 23 C23 [v11] (Es [[pt a 0],[g b c],[g b d],[g l1 0],[g b 31],[v2],((pt a 0)::G38 b 0)])))) (
 kN a <|
 pZ (g b 32) fun v12 =>
 .loop 29 11 [iv 0] fun C29 l13 =>
 pL (g l13 0) v12 fun v14 =>
 .br v14 (
 pI 2 (g b 32) (g l13 0) fun v15 =>
 .load [] v15 2 fun l16 =>
 .newbox fun r1 =>
 kN r1 <|
 kN r1 <|
 .prim (.lookup 198 false) [g l1 0,g l16 1] [] [] .one fun l17 _ =>
 pO (g l17 0) fun v18 =>
 .br v18 (
 .ret (.bool false) []) (
 kN r1 <|
 .pure [] .neg [g l16 0] fun v19 =>
 .prim (.lookup 198 false) [g l1 0,v19] [] [] .one fun l20 _ =>
 .br (g l20 0) (
 .ret (.bool false) []) (
 kN a <|
 kN r1 <|
 c1 132 [g b 31,g l16 1] fun l21 =>
 pO (g l21 0) fun v22 =>
 .br v22 (
 .ret (.bool false) []) (
 kN r1 <|
 c1 132 [g b d,g l16 0] fun l23 =>
 pO (g l23 0) fun v24 =>
 .br v24 (
 .ret (.bool false) []) (
 kN r1 <|
 kN r1 <|
 .pure [] .neg [g l16 0] fun v25 =>
 .prim (.mapUpdate 198) [g l1 0,g l16 1,.bool false] [] [] .one fun l26 _ =>
 .prim (.mapUpdate 198) [g l1 0,v25,.bool true] [] [] .one fun l27 _ =>
 pA (g l13 0) (iv 1) fun v28 =>
 .cont 29 C29 [v28] (Es [[pt a 0],[g b d],[g l1 0],[g b 32],[v12],((pt a 0)::G38 b 0)])))))) (
 .ret (.bool true) []))
def qo (v : List Value) : Tree :=
 .newbox fun r0 =>
 kN r0 <|
 .sw (g v 34) 0 (
 kN r0 <|
 kN r0 <|
 pS (iv 1) (g v 34) fun v0 =>
 .sw v0 0 (
 gi r0 v 8 8) (
 .sw v0 1 (
 gi r0 v 8 22) (
 .stuck 901))) (
 .sw (g v 34) 1 (
 kN r0 <|
 kN r0 <|
 pS (iv 1) (g v 34) fun v57 =>
 .sw v57 0 (
 gi r0 v 22 8) (
 .sw v57 1 (
 gi r0 v 22 22) (
 .stuck 901))) (
 .stuck 901))
theorem vj : bI qE Tryz.f101 qo := bJ Tryz.func101 [(76, [5, 6, 7, 8])] [(4, .inv [27] [1, 3, 4, 5, 25, 26] [(1, [])]), (11, .inv [46] [1, 4, 5, 44, 45] [(1, [])])] [] fun _ => by kernel_rfl
abbrev dp : FuncId := 102
def di (v : List Value) : Tree :=
 .pure [] (.bin .eql .slice) [g v 0,.slice none 0 0] fun v0 =>
 .br v0 (
 .ret (.slice none 0 0) []) (
 .newbox fun r0 =>
 .prim (.bi .append #[23,23] 23) [.slice (some ⟨r0,0,none⟩) 0 0,g v 0] [⟨r0,82,[]⟩] [] .one fun l1 _ =>
 .ret (g l1 0) [])
theorem fJ : bI dp Tryz.f102 di := bJ Tryz.func102 [(76, [5, 6, 7, 8])] [] [] fun _ => by kernel_rfl
abbrev il : FuncId := 103
def ig (v : List Value) : Tree :=
 .pure [] (.bin .eql .slice) [g v 0,.slice none 0 0] fun v0 =>
 .br v0 (
 .ret (.slice none 0 0) []) (
 .newbox fun r0 =>
 .prim (.bi .append #[26,26] 26) [.slice (some ⟨r0,0,none⟩) 0 0,g v 0] [⟨r0,3,[]⟩] [] .one fun l1 _ =>
 .ret (g l1 0) [])
theorem lr : bI il Tryz.f103 ig := bJ Tryz.func103 [(76, [5, 6, 7, 8])] [] [] fun _ => by kernel_rfl
abbrev dI : FuncId := 104
def dH (v : List Value) : Tree :=
 .pure [] (.bin .eql .slice) [g v 0,.slice none 0 0] fun v0 =>
 .br v0 (
 .ret (.slice none 0 0) []) (
 .newbox fun r0 =>
 .prim (.bi .append #[31,31] 31) [.slice (some ⟨r0,0,none⟩) 0 0,g v 0] [⟨r0,122,[]⟩] [] .one fun l1 _ =>
 .ret (g l1 0) [])
theorem fX : bI dI Tryz.f104 dH := bJ Tryz.func104 [(76, [5, 6, 7, 8])] [] [] fun _ => by kernel_rfl
abbrev sH : FuncId := 105
def sj (v : List Value) : Tree :=
 c1 143 [g v 0] fun l0 =>
 pZ (g l0 0) fun v1 =>
 .loop 7 3 [iv 0] fun C7 l2 =>
 pL (g l2 0) v1 fun v3 =>
 .br v3 (
 pI 5 (g l0 0) (g l2 0) fun v4 =>
 kP v4 <|
 .load [] (bz v4 4) 1 fun l5 =>
 c1 144 [g l5 0] fun l6 =>
 pI 5 (g l0 0) (g l2 0) fun v7 =>
 kP v7 <|
 kP (bz v7 4) <|
 .store (bz v7 4) [g l6 0] <|
 pA (g l2 0) (iv 1) fun v8 =>
 .cont 7 C7 [v8] (Es [[g l0 0],[v1]])) (
 .ret (g l0 0) [])
theorem wc : bI sH Tryz.f105 sj := bJ Tryz.func105 [(76, [5, 6, 7, 8])] [(3, .inv [9] [3, 8] [])] [] fun _ => by kernel_rfl
abbrev dq : FuncId := 107
def dj (v : List Value) : Tree :=
 .pure [] (.bin .eql .slice) [g v 0,.slice none 0 0] fun v0 =>
 .br v0 (
 .ret (.slice none 0 0) []) (
 .newbox fun r0 =>
 .prim (.bi .append #[62,62] 62) [.slice (some ⟨r0,0,none⟩) 0 0,g v 0] [⟨r0,39,[]⟩] [] .one fun l1 _ =>
 .ret (g l1 0) [])
theorem fK : bI dq Tryz.f107 dj := bJ Tryz.func107 [(76, [5, 6, 7, 8])] [] [] fun _ => by kernel_rfl
abbrev cN : FuncId := 108
def cL (v : List Value) : Tree :=
 .pure [] (.bin .eql .slice) [g v 0,.slice none 0 0] fun v0 =>
 .br v0 (
 .ret (.slice none 0 0) []) (
 .newbox fun r0 =>
 .prim (.bi .append #[73,73] 73) [.slice (some ⟨r0,0,none⟩) 0 0,g v 0] [⟨r0,91,[]⟩] [] .one fun l1 _ =>
 .ret (g l1 0) [])
theorem fg : bI cN Tryz.f108 cL := bJ Tryz.func108 [(76, [5, 6, 7, 8])] [] [] fun _ => by kernel_rfl
abbrev bq : FuncId := 109
def bo (v : List Value) : Tree :=
 pZ (g v 0) fun v0 =>
 .loop 8 3 [iv 0,v0] fun C8 l1 =>
 pL (g l1 0) (g l1 1) fun v2 =>
 .br v2 (
 pA (g l1 0) (g l1 1) fun v3 =>
 .pure [] (.conv .u64) [v3] fun v4 =>
 .pure [] (.bin .shr .int) [v4,.int .u64 1] fun v5 =>
 .pure [] (.conv .i64) [v5] fun v6 =>
 pI 12 (g v 0) v6 fun v7 =>
 .load [] v7 12 fun l8 =>
 .callv false (g v 2) [ag (G12 l8 0),g v 1] [] [] .one fun l9 _ =>
 pL (g l9 0) (iv 0) fun v10 =>
 .br v10 (
 pA v6 (iv 1) fun v11 =>
 .cont 8 C8 [v11,g l1 1] (Es [[g v 0],[g v 1],[g v 2],[v0]])) (
 .cont 8 C8 [g l1 0,v6] (Es [[g v 0],[g v 1],[g v 2],[v0]]))) (
 pL (g l1 0) v0 fun v12 =>
 .br v12 (
 pI 12 (g v 0) (g l1 0) fun v13 =>
 .load [] v13 12 fun l14 =>
 .callv false (g v 2) [ag (G12 l14 0),g v 1] [] [] .one fun l15 _ =>
 pE (g l15 0) (iv 0) fun v16 =>
 .ret (.tuple #[g l1 0,v16]) []) (
 .ret (.tuple #[g l1 0,.bool false]) []))
theorem cU : bI bq Tryz.f109 bo := bJ Tryz.func109 [(76, [5, 6, 7, 8])] [(3, .inv [9, 10] [0, 1, 2, 8] [])] [] fun _ => by kernel_rfl
abbrev hY : FuncId := 110
def oH (v : List Value) : Tree :=
 .newbox fun r0 =>
 kN r0 <|
 pS (g v 0) (g v 12) fun v0 =>
 .ret v0 []
theorem s9 : bI hY Tryz.f110 oH := bJ Tryz.func110 [(76, [5, 6, 7, 8])] [] [] fun _ => by kernel_rfl
abbrev jC : FuncId := 111
def sg (v : List Value) : Tree :=
 .load [] (g v 1) 1 fun l0 =>
 pE (g v 0) (g l0 0) fun v1 =>
 .ret v1 []
theorem wa : bI jC Tryz.f111 sg := bJ Tryz.func111 [(76, [5, 6, 7, 8])] [] [] fun _ => by kernel_rfl
abbrev dC : FuncId := 112
def fC (v : List Value) : Tree :=
 c1 145 [g v 0,g v 1] fun l0 =>
 pE (g l0 0) (iv (-1)) fun v1 =>
 .br v1 (
 .ret (g v 0) []) (
 pA (g l0 0) (iv 1) fun v2 =>
 .loop 10 5 [g l0 0,v2] fun C10 l3 =>
 pZ (g v 0) fun v4 =>
 pL (g l3 1) v4 fun v5 =>
 .br v5 (
 pI 1 (g v 0) (g l3 1) fun v6 =>
 .load [] v6 1 fun l7 =>
 .callv false (g v 1) [g l7 0] [] [] .one fun l8 _ =>
 pO (g l8 0) fun v9 =>
 .br v9 (
 pI 1 (g v 0) (g l3 0) fun v10 =>
 kP v10 <|
 .store v10 [g l7 0] <|
 pA (g l3 0) (iv 1) fun v11 =>
 pA (g l3 1) (iv 1) fun v12 =>
 .cont 10 C10 [v11,v12] (Es [[g v 0],[g v 1]])) (
 pA (g l3 1) (iv 1) fun v13 =>
 .cont 10 C10 [g l3 0,v13] (Es [[g v 0],[g v 1]]))) (
 .pure [] (.slc 1 true false false) [g v 0,g l3 0] fun v14 =>
 .prim (.bi .clear #[26] 0) [v14] [] [] (.tup []) fun l15 _ =>
 .pure [] (.slc 1 false true false) [g v 0,g l3 0] fun v16 =>
 .ret v16 []))
theorem iJ : bI dC Tryz.f112 fC := bJ Tryz.func112 [(76, [5, 6, 7, 8])] [(5, .inv [5, 6] [0, 1] [])] [] fun _ => by kernel_rfl
abbrev bw : FuncId := 113
def cR (v : List Value) : Tree :=
 c1 137 [g v 0,g v 1] fun l0 =>
 pE (g l0 0) (iv (-1)) fun v1 =>
 .br v1 (
 .ret (g v 0) []) (
 pA (g l0 0) (iv 1) fun v2 =>
 .loop 10 5 [g l0 0,v2] fun C10 l3 =>
 pZ (g v 0) fun v4 =>
 pL (g l3 1) v4 fun v5 =>
 .br v5 (
 pI 5 (g v 0) (g l3 1) fun v6 =>
 .load [] v6 5 fun l7 =>
 .newbox fun r0 =>
 kN r0 <|
 kN r0 <|
 .callv false (g v 1) [ag (G5 l7 0)] [] [] .one fun l8 _ =>
 pO (g l8 0) fun v9 =>
 .br v9 (
 kN r0 <|
 pI 5 (g v 0) (g l3 0) fun v10 =>
 kP v10 <|
 .store v10 (G5 l7 0) <|
 pA (g l3 0) (iv 1) fun v11 =>
 pA (g l3 1) (iv 1) fun v12 =>
 .cont 10 C10 [v11,v12] (Es [[g v 0],[g v 1]])) (
 pA (g l3 1) (iv 1) fun v13 =>
 .cont 10 C10 [g l3 0,v13] (Es [[g v 0],[g v 1]]))) (
 .pure [] (.slc 5 true false false) [g v 0,g l3 0] fun v14 =>
 .prim (.bi .clear #[30] 0) [v14] [] [] (.tup []) fun l15 _ =>
 .pure [] (.slc 5 false true false) [g v 0,g l3 0] fun v16 =>
 .ret v16 []))
theorem fk : bI bw Tryz.f113 cR := bJ Tryz.func113 [(76, [5, 6, 7, 8])] [(5, .inv [5, 6] [0, 1] [])] [] fun _ => by kernel_rfl
abbrev mO : FuncId := 114
def sf (v : List Value) : Tree :=
 .newbox fun r0 =>
 kN r0 <|
 pL (g v 3) (iv 0) fun v0 =>
 kN r0 <|
 kV v0 <|
 .load [(v0,true)] (g v 5) 1 fun l1 =>
 kV v0 <|
 kV v0 <|
 pE (g v 1) (g l1 0) fun v2 =>
 kV v0 <|
 pK v0 v2 (.bool false) fun v3 =>
 .ret v3 []
theorem vZ : bI mO Tryz.f114 sf := bJ Tryz.func114 [(76, [5, 6, 7, 8])] [] [] fun _ => by kernel_rfl
abbrev bp : FuncId := 115
def cD (v : List Value) : Tree :=
 c1 146 [g v 0,g v 1] fun l0 =>
 pE (g l0 0) (iv (-1)) fun v1 =>
 .br v1 (
 .ret (g v 0) []) (
 pA (g l0 0) (iv 1) fun v2 =>
 .loop 10 5 [g l0 0,v2] fun C10 l3 =>
 pZ (g v 0) fun v4 =>
 pL (g l3 1) v4 fun v5 =>
 .br v5 (
 pI 2 (g v 0) (g l3 1) fun v6 =>
 .load [] v6 2 fun l7 =>
 .newbox fun r0 =>
 kN r0 <|
 kN r0 <|
 .callv false (g v 1) [.agg #[g l7 0,g l7 1]] [] [] .one fun l8 _ =>
 pO (g l8 0) fun v9 =>
 .br v9 (
 kN r0 <|
 pI 2 (g v 0) (g l3 0) fun v10 =>
 kP v10 <|
 .store v10 [g l7 0,g l7 1] <|
 pA (g l3 0) (iv 1) fun v11 =>
 pA (g l3 1) (iv 1) fun v12 =>
 .cont 10 C10 [v11,v12] (Es [[g v 0],[g v 1]])) (
 pA (g l3 1) (iv 1) fun v13 =>
 .cont 10 C10 [g l3 0,v13] (Es [[g v 0],[g v 1]]))) (
 .pure [] (.slc 2 true false false) [g v 0,g l3 0] fun v14 =>
 .prim (.bi .clear #[31] 0) [v14] [] [] (.tup []) fun l15 _ =>
 .pure [] (.slc 2 false true false) [g v 0,g l3 0] fun v16 =>
 .ret v16 []))
theorem eN : bI bp Tryz.f115 cD := bJ Tryz.func115 [(76, [5, 6, 7, 8])] [(5, .inv [5, 6] [0, 1] [])] [] fun _ => by kernel_rfl
abbrev jB : FuncId := 116
def se (v : List Value) : Tree :=
 .newbox fun r0 =>
 kN r0 <|
 .load [] (g v 2) 1 fun l0 =>
 pE (g v 0) (g l0 0) fun v1 =>
 kN r0 <|
 kV v1 <|
 .load [(v1,false)] (g v 2) 1 fun l2 =>
 kV v1 <|
 kV v1 <|
 pE (g v 1) (g l2 0) fun v3 =>
 kV v1 <|
 pK v1 (.bool true) v3 fun v4 =>
 .ret v4 []
theorem vY : bI jB Tryz.f116 se := bJ Tryz.func116 [(76, [5, 6, 7, 8])] [] [] fun _ => by kernel_rfl
abbrev sD : FuncId := 117
def sa (v : List Value) : Tree :=
 .newbox fun r0 =>
 .newbox fun r1 =>
 kN r0 <|
 kN r0 <|
 kN r0 <|
 kN r0 <|
 kN r1 <|
 kN r1 <|
 .ret (ag (G5 v 0 ++ [iv 0,g v 6,iv 0,iv 0,g v 9,g v 10,g v 11])) []
theorem vT : bI sD Tryz.f117 sa := bJ Tryz.func117 [(76, [5, 6, 7, 8])] [] [] fun _ => by kernel_rfl
abbrev cG : FuncId := 118
def cE (v : List Value) : Tree :=
 .newbox fun r0 =>
 kN r0 <|
 c1 147 [g v 0,.agg #[g v 1,g v 2]] fun l0 =>
 pH (g l0 0) (iv 0) fun v1 =>
 .ret v1 []
theorem eO : bI cG Tryz.f118 cE := bJ Tryz.func118 [(76, [5, 6, 7, 8])] [] [] fun _ => by kernel_rfl
abbrev sC : FuncId := 119
def rZ (v : List Value) : Tree :=
 .newbox fun r0 =>
 pL (g v 39) (iv 0) fun v0 =>
 kV v0 <|
 pG (g v 39) (iv 1) fun v1 =>
 kV v0 <|
 pK v0 (.bool true) v1 fun v2 =>
 .br v2 (
 .ret (.slice none 0 0) []) (
 kN r0 <|
 c1 59 [ag (G38 v 1)] fun l3 =>
 pO (g l3 0) fun v4 =>
 .br v4 (
 .ret (.slice none 0 0) []) (
 kN r0 <|
 c1 148 [g v 0,ag (G38 v 1),g v 39,g v 40] fun l5 =>
 .ret (g l5 0) []))
theorem vR : bI sC Tryz.f119 rZ := bJ Tryz.func119 [(76, [5, 6, 7, 8])] [] [] fun _ => by kernel_rfl
abbrev uS : FuncId := 120
def uJ (v : List Value) : Tree :=
 .newbox fun r0 =>
 .newbox fun r1 =>
 kN r0 <|
 cS 72 [ag (G38 v 0),g v 38] (.tup [none,none]) fun l0 =>
 pN (g l0 1) (iv 0) fun v1 =>
 .br v1 (
 kN r1 <|
 kN r1 <|
 .ret (.tuple #[ag Z3,g l0 1]) []) (
 kN r0 <|
 pI 12 (g v 0) (g l0 0) fun v2 =>
 .load [] v2 12 fun l3 =>
 kN r1 <|
 kN r1 <|
 .ret (.tuple #[ag (G12 l3 0),iv 0]) [])
theorem yp : bI uS Tryz.f120 uJ := bJ Tryz.func120 [(76, [5, 6, 7, 8])] [] [] fun _ => by kernel_rfl
abbrev yd : FuncId := 121
def sB (a : Nat) (b : Int) : Tree :=
 kN a <|
 kN a <|
 .ret (.tuple #[ag Z0,iv b]) []
def xX (v : List Value) : Tree :=
 .newbox fun r0 =>
 .newbox fun r1 =>
 .newbox fun r2 =>
 kN r1 <|
 c1 142 [ag (G12 v 38)] fun l0 =>
 pO (g l0 0) fun v1 =>
 .br v1 (
 sB r2 2) (
 kN r0 <|
 kN r1 <|
 cS 72 [ag (G38 v 0),g v 38] (.tup [none,none]) fun l2 =>
 pN (g l2 1) (iv 0) fun v3 =>
 .br v3 (
 kN r2 <|
 kN r2 <|
 .ret (.tuple #[ag Z0,g l2 1]) []) (
 kN r0 <|
 pI 12 (g v 0) (g l2 0) fun v4 =>
 .load [] v4 12 fun l5 =>
 .newbox fun r3 =>
 kN r3 <|
 kN r3 <|
 kN r1 <|
 pN (g l5 1) (g v 39) fun v6 =>
 kN r3 <|
 kV v6 <|
 kN r1 <|
 kV v6 <|
 kV v6 <|
 kV v6 <|
 pN (g l5 2) (g v 40) fun v7 =>
 kV v6 <|
 pK v6 (.bool true) v7 fun v8 =>
 .br v8 (
 sB r2 8) (
 kN r0 <|
 cS 60 [ag (G38 v 0)] (.agg 38) fun l9 =>
 kN r0 <|
 kN r0 <|
 kN r1 <|
 pI 12 (g l9 0) (g l2 0) fun v10 =>
 kP v10 <|
 .store v10 (G12 v 38) <|
 kN r0 <|
 kN r2 <|
 kN r2 <|
 .ret (.tuple #[ag (G38 l9 0),iv 0]) [])))
theorem zz : bI yd Tryz.f121 xX := bJ Tryz.func121 [(76, [5, 6, 7, 8])] [] [] fun _ => by kernel_rfl
abbrev mN : FuncId := 122
def mK (v : List Value) : Tree :=
 .pure [] .max2 [iv 0,g v 0] fun v0 =>
 .pure [] .max2 [iv 0,g v 1] fun v1 =>
 c1 83 [v0,v1,iv 99] fun l2 =>
 .ret (g l2 0) []
theorem nK : bI mN Tryz.f122 mK := bJ Tryz.func122 [(76, [5, 6, 7, 8])] [] [] fun _ => by kernel_rfl
abbrev xY : FuncId := 123
def xQ (v : List Value) : Tree :=
 .pure [] .min2 [g v 0,g v 1] fun v0 =>
 .pure [] .max2 [iv 0,v0] fun v1 =>
 .ret v1 []
theorem zt : bI xY Tryz.f123 xQ := bJ Tryz.func123 [(76, [5, 6, 7, 8])] [] [] fun _ => by kernel_rfl
abbrev tU : FuncId := 124
def tQ (v : List Value) : Tree :=
 pA (g v 0) (g v 1) fun v0 =>
 pG (g v 0) (iv 0) fun v1 =>
 kV v1 <|
 pG (g v 1) (iv 0) fun v2 =>
 kV v1 <|
 pK v1 v2 (.bool false) fun v3 =>
 kV v3 <|
 pM v0 (iv 0) fun v4 =>
 kV v3 <|
 pK v3 v4 (.bool false) fun v5 =>
 .br v5 (
 .ret (iv 9223372036854775807) []) (
 pL (g v 0) (iv 0) fun v6 =>
 kV v6 <|
 pL (g v 1) (iv 0) fun v7 =>
 kV v6 <|
 pK v6 v7 (.bool false) fun v8 =>
 kV v8 <|
 pH v0 (iv 0) fun v9 =>
 kV v8 <|
 pK v8 v9 (.bool false) fun v10 =>
 .br v10 (
 .ret (iv (-9223372036854775808)) []) (
 .ret v0 []))
theorem ue : bI tU Tryz.f124 tQ := bJ Tryz.func124 [(76, [5, 6, 7, 8])] [] [] fun _ => by kernel_rfl
abbrev sL : FuncId := 125
def so (v : List Value) : Tree :=
 .newbox fun r0 =>
 .newbox fun r1 =>
 .newbox fun r2 =>
 kN r0 <|
 kN r1 <|
 cS 72 [ag (G38 v 0),g v 38] (.tup [none,none]) fun l0 =>
 pN (g l0 1) (iv 0) fun v1 =>
 .br v1 (
 kN r2 <|
 kN r2 <|
 .ret (.tuple #[.agg #[iv 0,iv 0,iv 0],g l0 1]) []) (
 cS 76 [pt r0 1] (.agg 4) fun l2 =>
 kW (g l2 0) r0 6 <|
 kW (g l2 1) r0 7 <|
 kW (g l2 2) r0 8 <|
 kW (g l2 3) r0 9 <|
 kN r0 <|
 kN r1 <|
 c1 149 [g v 6,g v 38] fun l3 =>
 pH (g l3 0) (iv 0) fun v4 =>
 .br v4 (
 kN r2 <|
 kN r2 <|
 .ret (.tuple #[.agg #[iv 0,iv 0,g l3 0],iv 0]) []) (
 kN r0 <|
 kN r1 <|
 c1 149 [g v 7,g v 38] fun l5 =>
 pH (g l5 0) (iv 0) fun v6 =>
 .br v6 (
 kN r2 <|
 kN r2 <|
 .ret (.tuple #[.agg #[iv 0,iv 1,g l5 0],iv 0]) []) (
 kN r0 <|
 kN r1 <|
 c1 149 [g v 8,g v 38] fun l7 =>
 pH (g l7 0) (iv 0) fun v8 =>
 .br v8 (
 kN r2 <|
 kN r2 <|
 .ret (.tuple #[.agg #[iv 0,iv 2,g l7 0],iv 0]) []) (
 kN r0 <|
 kN r1 <|
 c1 149 [g v 9,g v 38] fun l9 =>
 pH (g l9 0) (iv 0) fun v10 =>
 .br v10 (
 kN r2 <|
 kN r2 <|
 .ret (.tuple #[.agg #[iv 0,iv 3,g l9 0],iv 0]) []) (
 cS 76 [pt r0 15] (.agg 4) fun l11 =>
 kW (g l11 0) r0 20 <|
 kW (g l11 1) r0 21 <|
 kW (g l11 2) r0 22 <|
 kW (g l11 3) r0 23 <|
 kN r0 <|
 kN r1 <|
 c1 149 [g v 20,g v 38] fun l12 =>
 pH (g l12 0) (iv 0) fun v13 =>
 .br v13 (
 kN r2 <|
 kN r2 <|
 .ret (.tuple #[.agg #[iv 1,iv 0,g l12 0],iv 0]) []) (
 kN r0 <|
 kN r1 <|
 c1 149 [g v 21,g v 38] fun l14 =>
 pH (g l14 0) (iv 0) fun v15 =>
 .br v15 (
 kN r2 <|
 kN r2 <|
 .ret (.tuple #[.agg #[iv 1,iv 1,g l14 0],iv 0]) []) (
 kN r0 <|
 kN r1 <|
 c1 149 [g v 22,g v 38] fun l16 =>
 pH (g l16 0) (iv 0) fun v17 =>
 .br v17 (
 kN r2 <|
 kN r2 <|
 .ret (.tuple #[.agg #[iv 1,iv 2,g l16 0],iv 0]) []) (
 kN r0 <|
 kN r1 <|
 c1 149 [g v 23,g v 38] fun l18 =>
 pH (g l18 0) (iv 0) fun v19 =>
 .br v19 (
 kN r2 <|
 kN r2 <|
 .ret (.tuple #[.agg #[iv 1,iv 3,g l18 0],iv 0]) []) (
 kN r0 <|
 .call false 137 [g v 29,.func (.func 150) #[] #[pt r1 0]] [] [⟨r1,3,[g v 38]⟩] .one fun l20 c20 =>
 kN r0 <|
 pI 5 (g v 29) (g l20 0) fun v21 =>
 kP v21 <|
 .load [] v21 1 fun l22 =>
 kN r2 <|
 kN r2 <|
 .ret (.tuple #[.agg #[g l22 0,iv 4,g l20 0],iv 0]) [])))))))))
theorem wh : bI sL Tryz.f125 so := bJ Tryz.func125 [(76, [5, 6, 7, 8])] [(5, .unroll 3), (8, .unroll 5)] [] fun _ => by kernel_rfl
abbrev ya : FuncId := 126
def xT (v : List Value) : Tree :=
 pL (g v 0) (iv 1) fun v0 =>
 kV v0 <|
 pG (g v 0) (iv 4096) fun v1 =>
 kV v0 <|
 pK v0 (.bool true) v1 fun v2 =>
 .br v2 (
 .ret (.tuple #[.pointer none,iv 2]) []) (
 pA (g v 0) (iv 64) fun v3 =>
 pS v3 (iv 1) fun v4 =>
 .pure [] (.bin .quo .int) [v4,iv 64] fun v5 =>
 .prim (.makeSlice 204) [v5,v5] [] [] .one fun l6 _ =>
 .newbox fun r0 =>
 .ret (.tuple #[pt r0 0,iv 0]) [⟨r0,206,[g v 0,g l6 0]⟩])
theorem zu : bI ya Tryz.f126 xT := bJ Tryz.func126 [(76, [5, 6, 7, 8])] [] [] fun _ => by kernel_rfl
abbrev lY : FuncId := 127
def lT (v : List Value) : Tree :=
 cS 151 [g v 0,g v 1] (.tup [none,none,none]) fun l0 =>
 pN (g l0 2) (iv 0) fun v1 =>
 .br v1 (
 .ret (g l0 2) []) (
 kP (g l0 0) <|
 .load [] (g l0 0) 1 fun l2 =>
 .pure [] (.bin .and .int) [g l2 0,g l0 1] fun v3 =>
 pN v3 (.int .u64 0) fun v4 =>
 .br v4 (
 .ret (iv 11) []) (
 kP (g l0 0) <|
 .load [] (g l0 0) 1 fun l5 =>
 .pure [] (.bin .or .int) [g l5 0,g l0 1] fun v6 =>
 kP (g l0 0) <|
 kP (g l0 0) <|
 .store (g l0 0) [v6] <|
 .ret (iv 0) []))
theorem qK : bI lY Tryz.f127 lT := bJ Tryz.func127 [(76, [5, 6, 7, 8])] [] [] fun _ => by kernel_rfl
abbrev nc : FuncId := 128
def mV (v : List Value) : Tree :=
 c1 152 [g v 0] fun l0 =>
 .br (g l0 0) (
 .ret (.tuple #[iv 0,iv 1]) []) (
 kP (g v 0) <|
 kP (g v 0) <|
 .load [] (bz (g v 0) 1) 1 fun l1 =>
 pZ (g l1 0) fun v2 =>
 .loop 10 4 [iv 0] fun C10 l3 =>
 pL (g l3 0) v2 fun v4 =>
 .br v4 (
 pI 1 (g l1 0) (g l3 0) fun v5 =>
 .load [] v5 1 fun l6 =>
 .pure [] (.bin .mul .int) [iv 64,g l3 0] fun v7 =>
 .pure [] .compl [g l6 0] fun v8 =>
 c1 153 [v8] fun l9 =>
 pA v7 (g l9 0) fun v10 =>
 pA v10 (iv 1) fun v11 =>
 .pure [] .compl [g l6 0] fun v12 =>
 pN v12 (.int .u64 0) fun v13 =>
 .chk (.ptr [(v13,true)] (g v 0)) <|
 kV v13 <|
 .chk (.ptr [(v13,true)] (g v 0)) <|
 kV v13 <|
 kV v13 <|
 .load [(v13,true)] (g v 0) 1 fun l14 =>
 kV v13 <|
 kV v13 <|
 pM v11 (g l14 0) fun v15 =>
 kV v13 <|
 pK v13 v15 (.bool false) fun v16 =>
 .br v16 (
 kP (g v 0) <|
 kP (g v 0) <|
 .load [] (bz (g v 0) 1) 1 fun l17 =>
 pI 1 (g l17 0) (g l3 0) fun v18 =>
 .load [] v18 1 fun l19 =>
 pA (g l6 0) (.int .u64 1) fun v20 =>
 .pure [] (.bin .or .int) [g l19 0,v20] fun v21 =>
 pI 1 (g l17 0) (g l3 0) fun v22 =>
 kP v22 <|
 .store v22 [v21] <|
 .ret (.tuple #[v11,iv 0]) []) (
 pA (g l3 0) (iv 1) fun v23 =>
 .cont 10 C10 [v23] (Es [[g v 0],[g l1 0],[v2]]))) (
 .ret (.tuple #[iv 0,iv 7]) []))
theorem rx : bI nc Tryz.f128 mV := bJ Tryz.func128 [(76, [5, 6, 7, 8])] [(4, .inv [14] [0, 12, 13] [])] [] fun _ => by kernel_rfl
abbrev qy : FuncId := 129
def qf (v : List Value) : Tree :=
 .newbox fun r0 =>
 c1 122 [iv 0,g v 2] fun l0 =>
 c1 122 [iv 0,g v 3] fun l1 =>
 kN r0 <|
 kN r0 <|
 .ret (.agg #[g v 0,iv (-1),g v 1,g l0 0,g l1 0,iv 0,iv 0,iv 0,iv 0,.bool false,.bool false,.bool false]) []
theorem u5 : bI qy Tryz.f129 qf := bJ Tryz.func129 [(76, [5, 6, 7, 8])] [] [] fun _ => by kernel_rfl
abbrev cT : FuncId := 130
def cQ (v : List Value) : Tree :=
 .pure [] (.slc 12 true false false) [g v 0,g v 1] fun v0 =>
 pZ (g v 2) fun v1 =>
 pE v1 (iv 0) fun v2 =>
 .br v2 (
 .ret (g v 0) []) (
 pZ (g v 0) fun v3 =>
 pE (g v 1) v3 fun v4 =>
 .br v4 (
 .prim (.bi .append #[23,23] 23) [g v 0,g v 2] [] [] .one fun l5 _ =>
 .ret (g l5 0) []) (
 pA v3 v1 fun v6 =>
 .pure [] .cap [g v 0] fun v7 =>
 pG v6 v7 fun v8 =>
 .br v8 (
 .pure [] (.slc 12 false true false) [g v 0,g v 1] fun v9 =>
 pA v3 v1 fun v10 =>
 pS v10 (g v 1) fun v11 =>
 .prim (.bi .append #[23,3] 23) [v9,v11] [] [] .one fun l12 _ =>
 .pure [] (.slc 12 true false false) [g l12 0,g v 1] fun v13 =>
 .prim (.bi .copy #[23,23] 3) [v13,g v 2] [] [] .one fun l14 _ =>
 pA (g v 1) v1 fun v15 =>
 .pure [] (.slc 12 true false false) [g l12 0,v15] fun v16 =>
 .pure [] (.slc 12 true false false) [g v 0,g v 1] fun v17 =>
 .prim (.bi .copy #[23,23] 3) [v16,v17] [] [] .one fun l18 _ =>
 .ret (g l12 0) []) (
 pA v3 v1 fun v19 =>
 .pure [] (.slc 12 false true false) [g v 0,v19] fun v20 =>
 pA (g v 1) v1 fun v21 =>
 .pure [] (.slc 12 true false false) [v20,v21] fun v22 =>
 .prim (.intr 154) [g v 2,v22] [] [] .one fun l23 _ =>
 pO (g l23 0) fun v24 =>
 .br v24 (
 pA (g v 1) v1 fun v25 =>
 .pure [] (.slc 12 true false false) [v20,v25] fun v26 =>
 .pure [] (.slc 12 true false false) [v20,g v 1] fun v27 =>
 .prim (.bi .copy #[23,23] 3) [v26,v27] [] [] .one fun l28 _ =>
 .pure [] (.slc 12 true false false) [v20,g v 1] fun v29 =>
 .prim (.bi .copy #[23,23] 3) [v29,g v 2] [] [] .one fun l30 _ =>
 .ret v20 []) (
 .pure [] (.slc 12 true false false) [v20,v3] fun v31 =>
 .prim (.bi .copy #[23,23] 3) [v31,g v 2] [] [] .one fun l32 _ =>
 .pure [] (.slc 12 true false false) [v20,g v 1] fun v33 =>
 cS 155 [v33,v1] (.tup []) fun l34 =>
 .ret v20 []))))
theorem fj : bI cT Tryz.f130 cQ := bJ Tryz.func130 [(76, [5, 6, 7, 8])] [] [] fun _ => by kernel_rfl
abbrev lW : FuncId := 131
def lR (v : List Value) : Tree :=
 .newbox fun r0 =>
 kN r0 <|
 pE (g v 2) (iv (-1)) fun v0 =>
 .br v0 (
 .ret (.bool true) []) (
 kN r0 <|
 cS 71 [g v 0,ag (G12 v 1)] (.agg 14) fun l1 =>
 pE (g l1 1) (iv 2) fun v2 =>
 .ret v2 [])
theorem qI : bI lW Tryz.f131 lR := bJ Tryz.func131 [(76, [5, 6, 7, 8])] [] [] fun _ => by kernel_rfl
abbrev bG : FuncId := 132
def f8 (v : List Value) : Tree :=
 c1 149 [g v 0,g v 1] fun l0 =>
 pH (g l0 0) (iv 0) fun v1 =>
 .ret v1 []
theorem jJ : bI bG Tryz.f132 f8 := bJ Tryz.func132 [(76, [5, 6, 7, 8])] [] [] fun _ => by kernel_rfl
abbrev sE : FuncId := 133
def sc (v : List Value) : Tree :=
 .newbox fun r0 =>
 .newbox fun r1 =>
 kN r0 <|
 kN r0 <|
 c1 122 [g v 7,g v 12] fun l0 =>
 c1 122 [g v 8,g v 13] fun l1 =>
 kN r0 <|
 kN r0 <|
 kN r0 <|
 kN r1 <|
 kN r1 <|
 .ret (ag (G7 v 0 ++ [g l0 0,g l1 0,g v 9,g v 10,g v 11])) []
theorem vU : bI sE Tryz.f133 sc := bJ Tryz.func133 [(76, [5, 6, 7, 8])] [] [] fun _ => by kernel_rfl
abbrev qA : FuncId := 134
def qh (v : List Value) : Tree :=
 .newbox fun r0 =>
 .newbox fun r1 =>
 kN r0 <|
 c1 122 [g v 6,g v 12] fun l0 =>
 kN r0 <|
 kN r0 <|
 kN r1 <|
 kN r1 <|
 .ret (ag (G6 v 0 ++ ((g l0 0)::G5 v 7))) []
theorem u7 : bI qA Tryz.f134 qh := bJ Tryz.func134 [(76, [5, 6, 7, 8])] [] [] fun _ => by kernel_rfl
end Go.Proofs.YtdhobpmnkfmcfaaGreatDoor
