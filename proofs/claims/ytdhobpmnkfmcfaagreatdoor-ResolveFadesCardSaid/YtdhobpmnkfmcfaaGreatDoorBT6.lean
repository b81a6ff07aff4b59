/- The trees of the functions of this seat: printed by a tool of mine; each by the kernel's reckoning equal to the evaluator's. -/
import Derived.Test.YtdhobpmnkfmcfaaGreatDoorBT5
namespace Go.Proofs.YtdhobpmnkfmcfaaGreatDoor
open Go Go.Sx
set_option maxRecDepth 100000
abbrev sF : FuncId := 136
def sd (v : List Value) : Tree :=
 .newbox fun r0 =>
 kN r0 <|
 .loop 4 2 [iv 0] fun C4 l0 =>
 pL (g l0 0) (iv 4) fun v1 =>
 .br v1 (
 .pure [] .aidx ((g l0 0)::G4 v 0) fun v2 =>
 pL v2 (iv 0) fun v3 =>
 kV v3 <|
 kV v3 <|
 pG v2 (g v 4) fun v4 =>
 kV v3 <|
 pK v3 (.bool true) v4 fun v5 =>
 .br v5 (
 .ret (.bool false) []) (
 pA (g l0 0) (iv 1) fun v6 =>
 .cont 4 C4 [v6] (Es [[g v 4],G4 v 0]))) (
 .ret (.bool true) [])
theorem vV : bI sF Tryz.f136 sd := bJ Tryz.func136 [(76, [5, 6, 7, 8])] [(2, .inv [8] [1, 7] [])] [] fun _ => by kernel_rfl
abbrev bF : FuncId := 137
def bE (v : List Value) : Tree :=
 pZ (g v 0) fun v0 =>
 .loop 4 2 [iv 0] fun C4 l1 =>
 pL (g l1 0) v0 fun v2 =>
 .br v2 (
 pI 5 (g v 0) (g l1 0) fun v3 =>
 .load [] v3 5 fun l4 =>
 .callv false (g v 1) [ag (G5 l4 0)] [] [] .one fun l5 _ =>
 .br (g l5 0) (
 .ret (g l1 0) []) (
 pA (g l1 0) (iv 1) fun v6 =>
 .cont 4 C4 [v6] (Es [[g v 0],[g v 1],[v0]]))) (
 .ret (iv (-1)) [])
theorem cI : bI bF Tryz.f137 bE := bJ Tryz.func137 [(76, [5, 6, 7, 8])] [(2, .inv [8] [0, 1, 7] [])] [] fun _ => by kernel_rfl
abbrev bT : FuncId := 138
def bR (v : List Value) : Tree :=
 c1 156 [g v 0,g v 1] fun l0 =>
 pH (g l0 0) (iv 0) fun v1 =>
 .ret v1 []
theorem dZ : bI bT Tryz.f138 bR := bJ Tryz.func138 [(76, [5, 6, 7, 8])] [] [] fun _ => by kernel_rfl
abbrev qD : FuncId := 139
def ql (v : List Value) : Tree :=
 .newbox fun r0 =>
 kN r0 <|
 c1 140 [.agg #[g v 0,g v 1]] fun l0 =>
 pO (g l0 0) fun v1 =>
 .ret v1 []
theorem vi : bI qD Tryz.f139 ql := bJ Tryz.func139 [(76, [5, 6, 7, 8])] [] [] fun _ => by kernel_rfl
abbrev sK : FuncId := 140
def sn (v : List Value) : Tree :=
 .newbox fun r0 =>
 kN r0 <|
 c1 73 [g v 0,iv 0,iv 500] fun l0 =>
 .br (g l0 0) (
 kN r0 <|
 c1 73 [g v 1,iv 0,iv 1] fun l1 =>
 kN r0 <|
 kV (g l1 0) <|
 kV (g l1 0) <|
 pE (g v 0) (iv 0) fun v2 =>
 kV (g l1 0) <|
 kN r0 <|
 kV v2 <|
 kV (g l1 0) <|
 kV v2 <|
 kV (g l1 0) <|
 pE (g v 1) (iv 0) fun v3 =>
 kV (g l1 0) <|
 kV v2 <|
 kV (g l1 0) <|
 pK v2 (.bool true) v3 fun v4 =>
 kV (g l1 0) <|
 pK (g l1 0) v4 (.bool false) fun v5 =>
 .ret v5 []) (
 .ret (.bool false) [])
theorem we : bI sK Tryz.f140 sn := bJ Tryz.func140 [(76, [5, 6, 7, 8])] [] [] fun _ => by kernel_rfl
abbrev iO : FuncId := 141
def mX (v : List Value) : Tree :=
 .load [] (g v 2) 1 fun l0 =>
 .prim (.lookup 196 true) [g l0 0,g v 0] [] [] (.tup [none,none]) fun l1 _ =>
 .load [] (g v 2) 1 fun l2 =>
 .prim (.mapUpdate 196) [g l2 0,g v 0,g v 1] [] [] .one fun l3 _ =>
 pO (g l1 1) fun v4 =>
 .ret v4 []
theorem rA : bI iO Tryz.f141 mX := bJ Tryz.func141 [(76, [5, 6, 7, 8])] [] [] fun _ => by kernel_rfl
abbrev qx : FuncId := 142
def qe (v : List Value) : Tree :=
 .newbox fun r0 =>
 kN r0 <|
 kN r0 <|
 kN r0 <|
 kN r0 <|
 kN r0 <|
 kN r0 <|
 .loop 16 2 [iv 0] fun C16 l0 =>
 pL (g l0 0) (iv 6) fun v1 =>
 .br v1 (
 .pure [] .aidx ((g l0 0)::G6 v 3) fun v2 =>
 pL v2 (iv 0) fun v3 =>
 kV v3 <|
 pG v2 (iv 99) fun v4 =>
 kV v3 <|
 pK v3 (.bool true) v4 fun v5 =>
 .br v5 (
 .ret (.bool false) []) (
 pA (g l0 0) (iv 1) fun v6 =>
 .cont 16 C16 [v6] (Es [[pt r0 0],G6 v 3,((pt r0 0)::G12 v 0)]))) (
 kN r0 <|
 pE (g v 1) (iv (-1)) fun v7 =>
 kN r0 <|
 kV v7 <|
 kV v7 <|
 pE (g v 3) (iv 0) fun v8 =>
 kV v7 <|
 kN r0 <|
 kV v8 <|
 kV v7 <|
 kV v8 <|
 kV v7 <|
 pE (g v 4) (iv 0) fun v9 =>
 kV v7 <|
 kV v8 <|
 kV v7 <|
 pK v8 v9 (.bool false) fun v10 =>
 kV v7 <|
 pK v7 (.bool true) v10 fun v11 =>
 kN r0 <|
 kV v11 <|
 kV v11 <|
 pH (g v 0) (iv 1) fun v12 =>
 kV v11 <|
 pK v11 v12 (.bool false) fun v13 =>
 kN r0 <|
 kV v13 <|
 kV v13 <|
 pM (g v 0) (iv 500) fun v14 =>
 kV v13 <|
 pK v13 v14 (.bool false) fun v15 =>
 kN r0 <|
 kV v15 <|
 kV v15 <|
 pH (g v 1) (iv (-1)) fun v16 =>
 kV v15 <|
 pK v15 v16 (.bool false) fun v17 =>
 kN r0 <|
 kV v17 <|
 kV v17 <|
 pL (g v 1) (iv 400) fun v18 =>
 kV v17 <|
 pK v17 v18 (.bool false) fun v19 =>
 kN r0 <|
 kV v19 <|
 kV v19 <|
 pE (g v 2) (iv 0) fun v20 =>
 kV v19 <|
 kN r0 <|
 kV v20 <|
 kV v19 <|
 kV v20 <|
 kV v19 <|
 pE (g v 2) (iv 1) fun v21 =>
 kV v19 <|
 kV v20 <|
 kV v19 <|
 pK v20 (.bool true) v21 fun v22 =>
 kV v19 <|
 pK v19 v22 (.bool false) fun v23 =>
 .ret v23 [])
theorem uZ : bI qx Tryz.f142 qe := bJ Tryz.func142 [(76, [5, 6, 7, 8])] [(2, .inv [19] [1, 18] [(1, [])])] [] fun _ => by kernel_rfl
abbrev dW : FuncId := 143
def dV (v : List Value) : Tree :=
 .pure [] (.bin .eql .slice) [g v 0,.slice none 0 0] fun v0 =>
 .br v0 (
 .ret (.slice none 0 0) []) (
 .newbox fun r0 =>
 .prim (.bi .append #[30,30] 30) [.slice (some ⟨r0,0,none⟩) 0 0,g v 0] [⟨r0,56,[]⟩] [] .one fun l1 _ =>
 .ret (g l1 0) [])
theorem gy : bI dW Tryz.f143 dV := bJ Tryz.func143 [(76, [5, 6, 7, 8])] [] [] fun _ => by kernel_rfl
abbrev dn : FuncId := 144
def dh (v : List Value) : Tree :=
 .pure [] (.bin .eql .slice) [g v 0,.slice none 0 0] fun v0 =>
 .br v0 (
 .ret (.slice none 0 0) []) (
 .newbox fun r0 =>
 .prim (.bi .append #[51,51] 51) [.slice (some ⟨r0,0,none⟩) 0 0,g v 0] [⟨r0,41,[]⟩] [] .one fun l1 _ =>
 .ret (g l1 0) [])
theorem fH : bI dn Tryz.f144 dh := bJ Tryz.func144 [(76, [5, 6, 7, 8])] [] [] fun _ => by kernel_rfl
abbrev fQ : FuncId := 145
def fP (v : List Value) : Tree :=
 pZ (g v 0) fun v0 =>
 .loop 4 2 [iv 0] fun C4 l1 =>
 pL (g l1 0) v0 fun v2 =>
 .br v2 (
 pI 1 (g v 0) (g l1 0) fun v3 =>
 .load [] v3 1 fun l4 =>
 .callv false (g v 1) [g l4 0] [] [] .one fun l5 _ =>
 .br (g l5 0) (
 .ret (g l1 0) []) (
 pA (g l1 0) (iv 1) fun v6 =>
 .cont 4 C4 [v6] (Es [[g v 0],[g v 1],[v0]]))) (
 .ret (iv (-1)) [])
theorem jk : bI fQ Tryz.f145 fP := bJ Tryz.func145 [(76, [5, 6, 7, 8])] [(2, .inv [8] [0, 1, 7] [])] [] fun _ => by kernel_rfl
abbrev cM : FuncId := 146
def cK (v : List Value) : Tree :=
 pZ (g v 0) fun v0 =>
 .loop 4 2 [iv 0] fun C4 l1 =>
 pL (g l1 0) v0 fun v2 =>
 .br v2 (
 pI 2 (g v 0) (g l1 0) fun v3 =>
 .load [] v3 2 fun l4 =>
 .callv false (g v 1) [.agg #[g l4 0,g l4 1]] [] [] .one fun l5 _ =>
 .br (g l5 0) (
 .ret (g l1 0) []) (
 pA (g l1 0) (iv 1) fun v6 =>
 .cont 4 C4 [v6] (Es [[g v 0],[g v 1],[v0]]))) (
 .ret (iv (-1)) [])
theorem ff : bI cM Tryz.f146 cK := bJ Tryz.func146 [(76, [5, 6, 7, 8])] [(2, .inv [8] [0, 1, 7] [])] [] fun _ => by kernel_rfl
abbrev dl : FuncId := 147
def de (v : List Value) : Tree :=
 .newbox fun r0 =>
 pZ (g v 0) fun v0 =>
 .loop 5 2 [iv 0] fun C5 l1 =>
 pL (g l1 0) v0 fun v2 =>
 .br v2 (
 kN r0 <|
 pI 2 (g v 0) (g l1 0) fun v3 =>
 .load [] v3 2 fun l4 =>
 .raw [] (.eqv .eql 41 false) [.agg #[g v 1,g v 2],.agg #[g l4 0,g l4 1]] fun v5 =>
 .br v5 (
 .ret (g l1 0) []) (
 pA (g l1 0) (iv 1) fun v6 =>
 .cont 5 C5 [v6] (Es [[g v 0],[pt r0 0],[v0],[pt r0 0,g v 1,g v 2]]))) (
 .ret (iv (-1)) [])
theorem fG : bI dl Tryz.f147 de := bJ Tryz.func147 [(76, [5, 6, 7, 8])] [(2, .inv [8] [0, 3, 7] [(3, [])])] [] fun _ => by kernel_rfl
abbrev cZ : FuncId := 148
def oL (a : List Value) (b : List Value → Heap → Own → Prop) (c d : List Value) (e : Nat) : Tree :=
 pS (g a 1) (iv 1) fun v34 =>
 .cont 20 b [g c 0,v34] (Es [[g d 0],[pt e 0],((pt e 0)::G38 d 1)])
def dR (v : List Value) : Tree :=
 .newbox fun r0 =>
 pE (g v 40) (iv 1) fun v0 =>
 .br v0 (
 kN r0 <|
 kN r0 <|
 c1 148 [g v 0,ag (G38 v 1),g v 39,iv 2] fun l1 =>
 c1 148 [g v 0,ag (G38 v 1),g v 39,iv 3] fun l2 =>
 .prim (.bi .append #[51,51] 51) [g l1 0,g l2 0] [] [] .one fun l3 _ =>
 cS 157 [g l3 0,.func (.func 158) #[] #[]] (.tup []) fun l4 =>
 .ret (g l3 0) []) (
 pE (g v 40) (iv 3) fun v5 =>
 .br v5 (
 kN r0 <|
 pS (iv 1) (g v 39) fun v6 =>
 c1 148 [g v 0,ag (G38 v 1),v6,iv 2] fun l7 =>
 .ret (g l7 0) []) (
 pE (g v 40) (iv 2) fun v8 =>
 .br v8 (
 kN r0 <|
 c1 160 [g v 0,ag (G38 v 1),g v 39] fun l9 =>
 pZ (g l9 0) fun v10 =>
 .loop 15 9 [.slice none 0 0,iv 0] fun C15 l11 =>
 pL (g l11 1) v10 fun v12 =>
 .br v12 (
 pI 1 (g l9 0) (g l11 1) fun v13 =>
 .load [] v13 1 fun l14 =>
 .newbox fun r1 =>
 .prim (.bi .append #[51,51] 51) [g l11 0,.slice (some ⟨r1,0,none⟩) 1 1] [⟨r1,41,[g l14 0,iv 0]⟩] [] .one fun l15 _ =>
 pA (g l11 1) (iv 1) fun v16 =>
 .cont 15 C15 [g l15 0,v16] (Es [[g l9 0],[v10]])) (
 .ret (g l11 0) [])) (
 pE (g v 40) (iv 4) fun v17 =>
 .br v17 (
 pS (iv 1) (g v 39) fun v18 =>
 .newbox fun r2 =>
 .ret (.slice (some ⟨r2,0,none⟩) 2 2) [⟨r2,41,[iv 0,v18,iv 0,g v 39]⟩]) (
 pE (g v 40) (iv 5) fun v19 =>
 .br v19 (
 kN r0 <|
 kN r0 <|
 c1 148 [g v 0,ag (G38 v 1),g v 39,iv 4] fun l20 =>
 c1 148 [g v 0,ag (G38 v 1),g v 39,iv 1] fun l21 =>
 .prim (.bi .append #[51,51] 51) [g l20 0,g l21 0] [] [] .one fun l22 _ =>
 .ret (g l22 0) []) (
 pE (g v 40) (iv 6) fun v23 =>
 .br v23 (
 kN r0 <|
 pZ (g v 30) fun v24 =>
 pS v24 (iv 1) fun v25 =>
 .loop 20 19 [.slice none 0 0,v25] fun C20 l26 =>
 pH (g l26 1) (iv 0) fun v27 =>
 .br v27 (
 kN r0 <|
 pI 5 (g v 30) (g l26 1) fun v28 =>
 .load [] v28 5 fun l29 =>
 c1 161 [g v 0,ag (G5 l29 0)] fun l30 =>
 .br (g l30 0) (
 kN r0 <|
 pI 5 (g v 30) (g l26 1) fun v31 =>
 kP v31 <|
 .load [] (bz v31 1) 1 fun l32 =>
 .newbox fun r3 =>
 .prim (.bi .append #[51,51] 51) [g l26 0,.slice (some ⟨r3,0,none⟩) 1 1] [⟨r3,41,[g l32 0,iv 0]⟩] [] .one fun l33 _ =>
 oL l26 C20 l33 v r0) (
 oL l26 C20 l26 v r0)) (
 .ret (g l26 0) [])) (
 .ret (.slice none 0 0) []))))))
theorem dw : bI cZ Tryz.f148 dR := bJ Tryz.func148 [(76, [5, 6, 7, 8])] [(19, .inv [8, 11] [0, 5] [(5, [])]), (9, .inv [8, 40] [38, 39] [])] [] fun _ => by kernel_rfl
abbrev ik : FuncId := 149
def ie (v : List Value) : Tree :=
 pZ (g v 0) fun v0 =>
 .loop 4 2 [iv 0] fun C4 l1 =>
 pL (g l1 0) v0 fun v2 =>
 .br v2 (
 pI 1 (g v 0) (g l1 0) fun v3 =>
 .load [] v3 1 fun l4 =>
 pE (g v 1) (g l4 0) fun v5 =>
 .br v5 (
 .ret (g l1 0) []) (
 pA (g l1 0) (iv 1) fun v6 =>
 .cont 4 C4 [v6] (Es [[g v 0],[g v 1],[v0]]))) (
 .ret (iv (-1)) [])
theorem lp : bI ik Tryz.f149 ie := bJ Tryz.func149 [(76, [5, 6, 7, 8])] [(2, .inv [8] [0, 1, 7] [])] [] fun _ => by kernel_rfl
abbrev oW : FuncId := 150
def oI (v : List Value) : Tree :=
 .newbox fun r0 =>
 kN r0 <|
 pL (g v 3) (iv 0) fun v0 =>
 kN r0 <|
 kV v0 <|
 .load [(v0,true)] (g v 5) 1 fun l1 =>
 kV v0 <|
 kV v0 <|
 pE (g v 1) (g l1 0) fun v2 =>
 kV v0 <|
 pK v0 v2 (.bool false) fun v3 =>
 .ret v3 []
theorem tc : bI oW Tryz.f150 oI := bJ Tryz.func150 [(76, [5, 6, 7, 8])] [] [] fun _ => by kernel_rfl
abbrev lX : FuncId := 151
def lS (v : List Value) : Tree :=
 c1 152 [g v 0] fun l0 =>
 .br (g l0 0) (
 .ret (.tuple #[.pointer none,.int .u64 0,iv 1]) []) (
 pL (g v 1) (iv 1) fun v1 =>
 .chk (.ptr [(v1,false)] (g v 0)) <|
 kV v1 <|
 .chk (.ptr [(v1,false)] (g v 0)) <|
 kV v1 <|
 kV v1 <|
 .load [(v1,false)] (g v 0) 1 fun l2 =>
 kV v1 <|
 kV v1 <|
 pG (g v 1) (g l2 0) fun v3 =>
 kV v1 <|
 pK v1 (.bool true) v3 fun v4 =>
 .br v4 (
 .ret (.tuple #[.pointer none,.int .u64 0,iv 2]) []) (
 cS 162 [g v 0,g v 1] (.tup [none,none]) fun l5 =>
 .ret (.tuple #[g l5 0,g l5 1,iv 0]) []))
theorem qJ : bI lX Tryz.f151 lS := bJ Tryz.func151 [(76, [5, 6, 7, 8])] [] [] fun _ => by kernel_rfl
abbrev nb : FuncId := 152
def mU (v : List Value) : Tree :=
 .pure [] (.bin .eql .ptr) [g v 0,.pointer none] fun v0 =>
 .chk (.ptr [(v0,false)] (g v 0)) <|
 kV v0 <|
 .chk (.ptr [(v0,false)] (g v 0)) <|
 kV v0 <|
 kV v0 <|
 .load [(v0,false)] (g v 0) 1 fun l1 =>
 kV v0 <|
 pE (g l1 0) (iv 0) fun v2 =>
 kV v0 <|
 pK v0 (.bool true) v2 fun v3 =>
 .ret v3 []
theorem ru : bI nb Tryz.f152 mU := bJ Tryz.func152 [(76, [5, 6, 7, 8])] [] [] fun _ => by kernel_rfl
abbrev dD : FuncId := 153
def dB (v : List Value) : Tree :=
 pE (g v 0) (.int .u64 0) fun v0 =>
 .br v0 (
 .ret (iv 64) []) (
 .pure [] .neg [g v 0] fun v1 =>
 .pure [] (.bin .and .int) [g v 0,v1] fun v2 =>
 .pure [] (.bin .mul .int) [v2,.int .u64 285870213051353865] fun v3 =>
 .pure [] (.bin .shr .int) [v3,.int .u64 58] fun v4 =>
 .pure [] (.pidx 64 1) [pt 0 0,v4] fun v5 =>
 .load [] v5 1 fun l6 =>
 .pure [] (.conv .i64) [g l6 0] fun v7 =>
 .ret v7 [])
theorem eH : bI dD Tryz.f153 dB := bJ Tryz.func153 [(76, [5, 6, 7, 8])] [] [] fun _ => by kernel_rfl
abbrev cq : FuncId := 156
def ck (v : List Value) : Tree :=
 pZ (g v 0) fun v0 =>
 .loop 4 2 [iv 0] fun C4 l1 =>
 pL (g l1 0) v0 fun v2 =>
 .br v2 (
 pI 2 (g v 0) (g l1 0) fun v3 =>
 .load [] v3 2 fun l4 =>
 .callv false (g v 1) [.agg #[g l4 0,g l4 1]] [] [] .one fun l5 _ =>
 .br (g l5 0) (
 .ret (g l1 0) []) (
 pA (g l1 0) (iv 1) fun v6 =>
 .cont 4 C4 [v6] (Es [[g v 0],[g v 1],[v0]]))) (
 .ret (iv (-1)) [])
theorem eF : bI cq Tryz.f156 ck := bJ Tryz.func156 [(76, [5, 6, 7, 8])] [(2, .inv [8] [0, 1, 7] [])] [] fun _ => by kernel_rfl
abbrev iu : FuncId := 160
def eE (a : List Value) (b : List Value → Heap → Own → Prop) (c d : List Value) (e : Nat) (f : Value) : Tree :=
 pA (g a 1) (iv 1) fun v13 =>
 .cont 15 b [g c 0,v13] (Es [[g d 0],[g d 39],[pt e 0],[g d 1],[f],((pt e 0)::G38 d 1)])
def ke (a b : Nat) (c : List Value) (d : Nat) (e f : List Value) (h : List Value → Heap → Own → Prop) (i : Value) : Tree :=
 kN a <|
 kN b <|
 c1 132 [g c d,g e 0] fun l11 =>
 .br (g l11 0) (
 kN b <|
 .newbox fun r2 =>
 .prim (.bi .append #[26,26] 26) [g f 0,.slice (some ⟨r2,0,none⟩) 1 1] [⟨r2,3,[g e 0]⟩] [] .one fun l12 _ =>
 eE f h l12 c a i) (
 eE f h f c a i)
def lU (v : List Value) : Tree :=
 .newbox fun r0 =>
 c1 73 [g v 39,iv 0,iv 1] fun l0 =>
 pO (g l0 0) fun v1 =>
 .br v1 (
 .ret (.slice none 0 0) []) (
 kN r0 <|
 c1 59 [ag (G38 v 1)] fun l2 =>
 pO (g l2 0) fun v3 =>
 .br v3 (
 .ret (.slice none 0 0) []) (
 kN r0 <|
 pZ (g v 1) fun v4 =>
 .loop 15 5 [.slice none 0 0,iv 0] fun C15 l5 =>
 pL (g l5 1) v4 fun v6 =>
 .br v6 (
 pI 12 (g v 1) (g l5 1) fun v7 =>
 .load [] v7 12 fun l8 =>
 .newbox fun r1 =>
 kN r1 <|
 kN r1 <|
 pE (g l8 2) (g v 39) fun v9 =>
 .br v9 (
 kN r1 <|
 c1 131 [g v 0,ag (G12 l8 0)] fun l10 =>
 .br (g l10 0) (
 .sw (g v 39) 0 (
 ke r0 r1 v 9 l8 l5 C15 v4) (
 .sw (g v 39) 1 (
 ke r0 r1 v 23 l8 l5 C15 v4) (
 .stuck 901))) (
 eE l5 C15 l5 v r0 v4)) (
 eE l5 C15 l5 v r0 v4)) (
 .ret (g l5 0) [])))
theorem qL : bI iu Tryz.f160 lU := bJ Tryz.func160 [(76, [5, 6, 7, 8])] [(5, .inv [7, 21] [0, 2, 4, 19, 20] [(4, [])])] [] fun _ => by kernel_rfl
abbrev qt : FuncId := 161
def qb (v : List Value) : Tree :=
 .newbox fun r0 =>
 kN r0 <|
 cS 41 [g v 0,.agg #[iv 0,g v 3,iv 0,iv 0,iv 0,iv 0,iv 0,iv 0,iv 0,.bool false,.bool false,.bool false]] (.agg 14) fun l0 =>
 .newbox fun r1 =>
 kN r1 <|
 kN r1 <|
 pE (g l0 1) (iv 3) fun v1 =>
 kN r1 <|
 kV v1 <|
 kV v1 <|
 pE (g l0 1) (iv 4) fun v2 =>
 kV v1 <|
 pK v1 (.bool true) v2 fun v3 =>
 kN r0 <|
 kV v3 <|
 kV v3 <|
 pL (g v 4) (iv 0) fun v4 =>
 kV v3 <|
 pK v3 v4 (.bool false) fun v5 =>
 .br v5 (
 kN r0 <|
 pZ (g v 5) fun v6 =>
 kN r1 <|
 c1 167 [g l0 11] fun l7 =>
 pH v6 (g l7 0) fun v8 =>
 .ret v8 []) (
 .ret (.bool false) [])
theorem uW : bI qt Tryz.f161 qb := bJ Tryz.func161 [(76, [5, 6, 7, 8])] [] [] fun _ => by kernel_rfl
abbrev oU : FuncId := 162
def oD (v : List Value) : Tree :=
 kP (g v 0) <|
 kP (g v 0) <|
 .load [] (bz (g v 0) 1) 1 fun l0 =>
 pS (g v 1) (iv 1) fun v1 =>
 .pure [] (.bin .quo .int) [v1,iv 64] fun v2 =>
 pI 1 (g l0 0) v2 fun v3 =>
 pS (g v 1) (iv 1) fun v4 =>
 .pure [] (.bin .rem .int) [v4,iv 64] fun v5 =>
 .pure [] (.bin .shl .int) [.int .u64 1,v5] fun v6 =>
 .ret (.tuple #[v3,v6]) []
theorem s5 : bI oU Tryz.f162 oD := bJ Tryz.func162 [(76, [5, 6, 7, 8])] [] [] fun _ => by kernel_rfl
abbrev ng : FuncId := 167
def mW (v : List Value) : Tree :=
 pZ (g v 0) fun v0 =>
 .loop 5 3 [iv 0,iv 0] fun C5 l1 =>
 pL (g l1 1) v0 fun v2 =>
 .br v2 (
 pI 5 (g v 0) (g l1 1) fun v3 =>
 .load [] v3 5 fun l4 =>
 .newbox fun r0 =>
 kN r0 <|
 kN r0 <|
 pN (g l4 1) (iv 0) fun v5 =>
 .br v5 (
 pA (g l1 0) (iv 1) fun v6 =>
 pA (g l1 1) (iv 1) fun v7 =>
 .cont 5 C5 [v6,v7] (Es [[g v 0],[v0]])) (
 pA (g l1 1) (iv 1) fun v8 =>
 .cont 5 C5 [g l1 0,v8] (Es [[g v 0],[v0]]))) (
 .ret (g l1 0) [])
theorem ry : bI ng Tryz.f167 mW := bJ Tryz.func167 [(76, [5, 6, 7, 8])] [(3, .inv [3, 8] [6, 7] [])] [] fun _ => by kernel_rfl
abbrev hU : FuncId := 200
def kJ (v : List Value) : Tree :=
 .newbox fun r0 =>
 kN r0 <|
 c1 201 [g v 0,g v 2] fun l0 =>
 kN r0 <|
 kV (g l0 0) <|
 kV (g l0 0) <|
 pE (g v 3) (iv 0) fun v1 =>
 kV (g l0 0) <|
 pK (g l0 0) v1 (.bool false) fun v2 =>
 kN r0 <|
 kV v2 <|
 kV v2 <|
 pE (g v 4) (iv 0) fun v3 =>
 kV v2 <|
 pK v2 v3 (.bool false) fun v4 =>
 kN r0 <|
 kV v4 <|
 kV v4 <|
 pE (g v 5) (iv 0) fun v5 =>
 kV v4 <|
 pK v4 v5 (.bool false) fun v6 =>
 .ret v6 []
theorem pF : bI hU Tryz.f200 kJ := bJ Tryz.func200 [(76, [5, 6, 7, 8])] [] [] fun _ => by kernel_rfl
abbrev bL : FuncId := 201
def bK (v : List Value) : Tree :=
 c1 202 [g v 0,g v 1] fun l0 =>
 pH (g l0 0) (iv 0) fun v1 =>
 .ret v1 []
theorem dX : bI bL Tryz.f201 bK := bJ Tryz.func201 [(76, [5, 6, 7, 8])] [] [] fun _ => by kernel_rfl
abbrev ce : FuncId := 202
def bZ (v : List Value) : Tree :=
 pZ (g v 0) fun v0 =>
 .loop 4 2 [iv 0] fun C4 l1 =>
 pL (g l1 0) v0 fun v2 =>
 .br v2 (
 pI 1 (g v 0) (g l1 0) fun v3 =>
 .load [] v3 1 fun l4 =>
 pE (g v 1) (g l4 0) fun v5 =>
 .br v5 (
 .ret (g l1 0) []) (
 pA (g l1 0) (iv 1) fun v6 =>
 .cont 4 C4 [v6] (Es [[g v 0],[g v 1],[v0]]))) (
 .ret (iv (-1)) [])
theorem en : bI ce Tryz.f202 bZ := bJ Tryz.func202 [(76, [5, 6, 7, 8])] [(2, .inv [8] [0, 1, 7] [])] [] fun _ => by kernel_rfl
abbrev fF : FuncId := 203
def iF (v : List Value) : Tree :=
 .newbox fun r0 =>
 .newbox fun r1 =>
 kN r1 <|
 kN r1 <|
 kN r0 <|
 c1 204 [g v 4,iv 1,g v 1] fun l0 =>
 .br (g l0 0) (
 kN r0 <|
 kN r1 <|
 c1 200 [g v 0,.agg #[g v 2,g v 3,iv 0,g v 5,g v 6]] fun l1 =>
 .ret (g l1 0) []) (
 .ret (.bool false) [])
theorem mg : bI fF Tryz.f203 iF := bJ Tryz.func203 [(76, [5, 6, 7, 8])] [] [] fun _ => by kernel_rfl
abbrev oV : FuncId := 204
def oG (v : List Value) : Tree :=
 pH (g v 0) (g v 1) fun v0 =>
 .br v0 (
 c1 123 [g v 0,g v 2] fun l1 =>
 pE (g l1 0) (g v 0) fun v2 =>
 .ret v2 []) (
 .ret (.bool false) [])
theorem s7 : bI oV Tryz.f204 oG := bJ Tryz.func204 [(76, [5, 6, 7, 8])] [] [] fun _ => by kernel_rfl
abbrev fW : FuncId := 205
def ja (v : List Value) : Tree :=
 .newbox fun r0 =>
 .newbox fun r1 =>
 kN r1 <|
 kN r1 <|
 kN r1 <|
 kN r1 <|
 c1 204 [g v 4,iv 0,iv 9] fun l0 =>
 .br (g l0 0) (
 kN r0 <|
 c1 204 [g v 5,g v 1,iv 9] fun l1 =>
 kV (g l1 0) <|
 kV (g l1 0) <|
 pA (g v 4) (g v 5) fun v2 =>
 kV (g l1 0) <|
 pG v2 (iv 0) fun v3 =>
 kV (g l1 0) <|
 pK (g l1 0) v3 (.bool false) fun v4 =>
 .br v4 (
 kN r0 <|
 kN r1 <|
 c1 200 [g v 0,.agg #[g v 2,g v 3,iv 0,iv 0,g v 6]] fun l5 =>
 .ret (g l5 0) []) (
 .ret (.bool false) [])) (
 .ret (.bool false) [])
theorem np : bI fW Tryz.f205 ja := bJ Tryz.func205 [(76, [5, 6, 7, 8])] [] [] fun _ => by kernel_rfl
abbrev eU : FuncId := 206
def ii (v : List Value) : Tree :=
 .newbox fun r0 =>
 .newbox fun r1 =>
 kN r1 <|
 kN r1 <|
 c1 204 [g v 6,iv 0,iv 3] fun l0 =>
 .br (g l0 0) (
 kN r0 <|
 kN r1 <|
 c1 203 [.agg #[g v 0,g v 1],ag (G4 v 2 ++ [iv 0])] fun l1 =>
 .ret (g l1 0) []) (
 .ret (.bool false) [])
theorem lw : bI eU Tryz.f206 ii := bJ Tryz.func206 [(76, [5, 6, 7, 8])] [] [] fun _ => by kernel_rfl

end Go.Proofs.YtdhobpmnkfmcfaaGreatDoor
