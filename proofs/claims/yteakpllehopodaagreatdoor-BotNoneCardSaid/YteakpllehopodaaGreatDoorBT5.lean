/- The trees of the functions of this seat: printed by a tool of mine; each by the kernel's reckoning equal to the evaluator's. -/
import Derived.Test.YteakpllehopodaaGreatDoorBT4
namespace Go.Proofs.YteakpllehopodaaGreatDoor
open Go Go.Sx
set_option maxRecDepth 100000
abbrev qz:FuncId:=191
def rL (a:Value) (b:Nat) (c:List Value):Tree :=
 .br a (
 kN b<|
 pE (g c 7) (iv 0) fun v25 =>
 kN b<|
 kV v25<|
 kV v25<|
 pZ (g c 11) fun v26 =>
 kV v25<|
 pG v26 (iv 0) fun v27 =>
 kV v25<|
 pK v25 v27 (.bool false) fun v28 =>
 .br v28 (
 kN b<|
 c1 256 [g c 11,.func (.func 257) #[] #[]] fun l29 =>
 pO (g l29 0) fun v30 =>
 .br v30 (
 kN b<|
 c1 254 [ag (G14 c 0)] fun l31 =>
 .ret (g l31 0) []) (
 .ret (.bool false) [])) (
 .ret (.bool false) [])) (
 .ret (.bool false) [])
def wV (v:List Value):Tree :=
 .newbox fun r0 =>
 kN r0<|
 c1 250 [g v 0] fun l0 =>
 pO (g l0 0) fun v1 =>
 .br v1 (
 .ret (.bool false) []) (
 kN r0<|
 c1 251 [g v 13,iv 1,iv 4] fun l2 =>
 pO (g l2 0) fun v3 =>
 .br v3 (
 .ret (.bool false) []) (
 kN r0<|
 c1 222 [ag (G5 v 2)] fun l4 =>
 pO (g l4 0) fun v5 =>
 .br v5 (
 .ret (.bool false) []) (
 kN r0<|
 c1 252 [g v 11] fun l6 =>
 pO (g l6 0) fun v7 =>
 .br v7 (
 .ret (.bool false) []) (
 kN r0<|
 pE (g v 1) (iv 1) fun v8 =>
 .br v8 (
 kN r0<|
 c1 251 [g v 7,iv 0,iv 3] fun l9 =>
 .br (g l9 0) (
 kN r0<|
 c1 253 [ag (G5 v 2)] fun l10 =>
 pE (g l10 0) (iv 0) fun v11 =>
 kN r0<|
 kV v11<|
 kV v11<|
 pZ (g v 11) fun v12 =>
 kV v11<|
 pE v12 (iv 0) fun v13 =>
 kV v11<|
 pK v11 v13 (.bool false) fun v14 =>
 .br v14 (
 kN r0<|
 c1 254 [ag (G14 v 0)] fun l15 =>
 .ret (g l15 0) []) (
 .ret (.bool false) [])) (
 .ret (.bool false) [])) (
 pE (g v 1) (iv 2) fun v16 =>
 .br v16 (
 kN r0<|
 pE (g v 7) (iv 0) fun v17 =>
 .br v17 (
 kN r0<|
 c1 251 [g v 8,iv 0,iv 20] fun l18 =>
 .br (g l18 0) (
 kN r0<|
 c1 251 [g v 9,iv 1,iv 20] fun l19 =>
 kN r0<|
 kV (g l19 0)<|
 kV (g l19 0)<|
 .pure [] (.bin .andNot .int) [g v 10,iv 15] fun v20 =>
 kV (g l19 0)<|
 pE v20 (iv 0) fun v21 =>
 kV (g l19 0)<|
 pK (g l19 0) v21 (.bool false) fun v22 =>
 .br v22 (
 kN r0<|
 c1 255 [g v 12] fun l23 =>
 .ret (g l23 0) []) (
 .ret (.bool false) [])) (
 .ret (.bool false) [])) (
 .ret (.bool false) [])) (
 pE (g v 1) (iv 3) fun v24 =>
 .br v24 (
 rL v24 r0 v) (
 pE (g v 1) (iv 4) fun v32 =>
 rL v32 r0 v)))))))
theorem Ba:aS qz Tryz.f191 wV:=aU Tryz.func191 [(25,[5,6,7,8])] [] [] fun _=>by kernel_rfl
abbrev AG:FuncId:=192
def As (v:List Value):Tree :=
 pZ (g v 0) fun v0 =>
 .prim (.makeSlice 27) [v0,v0] [] [] .one fun l1 _ =>
 .prim (.bi .copy #[27,27] 3) [g l1 0,g v 0] [] [] .one fun l2 _ =>
 .ret (g l1 0) []
theorem DF:aS AG Tryz.f192 As:=aU Tryz.func192 [(25,[5,6,7,8])] [] [] fun _=>by kernel_rfl
abbrev qq:FuncId:=193
def qb (v:List Value):Tree :=
 c1 258 [g v 0] fun l0 =>
 .br (g l0 0) (
 .ret (iv 0) []) (
 kP (g v 0)<|
 kP (g v 0)<|
 .load [] (g v 0) 1 fun l1 =>
 pZ (g l1 0) fun v2 =>
 .ret v2 [])
theorem uX:aS qq Tryz.f193 qb:=aU Tryz.func193 [(25,[5,6,7,8])] [] [] fun _=>by kernel_rfl
abbrev kL:FuncId:=194
def kD (v:List Value):Tree :=
 c1 60 [g v 0] fun l0 =>
 .br (g l0 0) (
 .ret (iv 1) []) (
 pN (g v 2) (iv 0) fun v1 =>
 .br v1 (
 .ret (g v 2) []) (
 c1 32 [g v 0] fun l2 =>
 pG (g v 1) (g l2 0) fun v3 =>
 .br v3 (
 .ret (iv 16) []) (
 .ret (iv 0) [])))
theorem o7:aS kL Tryz.f194 kD:=aU Tryz.func194 [(25,[5,6,7,8])] [] [] fun _=>by kernel_rfl
abbrev jK:FuncId:=195
def jF (v:List Value):Tree :=
 kP (g v 0)<|
 kP (g v 0)<|
 .load [] (an (g v 0) 1) 1 fun l0 =>
 kP (g v 0)<|
 kP (g v 0)<|
 .load [] (an (g v 0) 2) 1 fun l1 =>
 pI 1 (g l0 0) (g l1 0) fun v2 =>
 .load [] v2 1 fun l3 =>
 kP (g v 0)<|
 kP (g v 0)<|
 .load [] (an (g v 0) 2) 1 fun l4 =>
 pA (g l4 0) (iv 1) fun v5 =>
 kP (g v 0)<|
 kP (g v 0)<|
 kP (an (g v 0) 2)<|
 .store (an (g v 0) 2) [v5]<|
 .pure [] (.conv .u64) [g v 1] fun v6 =>
 .pure [] (.bin .rem .int) [g l3 0,v6] fun v7 =>
 .pure [] (.conv .i64) [v7] fun v8 =>
 .ret v8 []
theorem oL:aS jK Tryz.f195 jF:=aU Tryz.func195 [(25,[5,6,7,8])] [] [] fun _=>by kernel_rfl
abbrev Dc:FuncId:=196
def qo (a:List Value) (b:List Value→Heap→Go.Sx.Own→Prop) (c d:List Value) (e:Nat) (f:Value):Tree :=
 pA (g a 1) (iv 1) fun v8 =>
 .cont 7 b [g c 0,v8] (Es [[g d 38],[pt e 0],[g d 0],[f],((pt e 0)::G38 d 0)])
def qn (a b:Nat) (c:List Value) (d:Nat) (e f:List Value) (h:List Value→Heap→Go.Sx.Own→Prop) (i:Value):Tree :=
 kN a<|
 kN b<|
 c1 96 [g c d,g e 0] fun l5 =>
 .callv false (g c 38) [ag (G12 e 0),g l5 0] [] [] .one fun l6 _ =>
 .br (g l6 0) (
 kN b<|
 .newbox fun r2 =>
 .prim (.bi .append #[25,25] 25) [g f 0,.slice (some ⟨r2,0,none⟩) 1 1] [⟨r2,3,[g e 0]⟩] [] .one fun l7 _ =>
 qo f h l7 c a i) (
 qo f h f c a i)
def CW (v:List Value):Tree :=
 .newbox fun r0 =>
 kN r0<|
 pZ (g v 0) fun v0 =>
 .loop 7 3 [.slice none 0 0,iv 0] fun C7 l1 =>
 pL (g l1 1) v0 fun v2 =>
 .br v2 (
 pI 12 (g v 0) (g l1 1) fun v3 =>
 .load [] v3 12 fun l4 =>
 .newbox fun r1 =>
 kN r1<|
 kN r1<|
 kN r1<|
 .sw (g l4 2) 0 (
 qn r0 r1 v 8 l4 l1 C7 v0) (
 .sw (g l4 2) 1 (
 qn r0 r1 v 22 l4 l1 C7 v0) (
 .stuck 901))) (
 .ret (g l1 0) [])
theorem Fh:aS Dc Tryz.f196 CW:=aU Tryz.func196 [(25,[5,6,7,8])] [(3,.inv [5,11] [1,2,9,10] [(2,[])])] [] fun _=>by kernel_rfl
abbrev uF:FuncId:=197
def um (v:List Value):Tree :=
 .newbox fun r0 =>
 .br (g v 12) (
 .load [] (g v 13) 1 fun l0 =>
 kN r0<|
 c1 198 [g l0 0,ag (G12 v 0)] fun l1 =>
 .ret (g l1 0) []) (
 .ret (.bool false) [])
theorem yF:aS uF Tryz.f197 um:=aU Tryz.func197 [(25,[5,6,7,8])] [] [] fun _=>by kernel_rfl
abbrev xh:FuncId:=199
def wI (v:List Value):Tree :=
 .newbox fun r0 =>
 kN r0<|
 pL (g v 1) (iv 0) fun v0 =>
 kV v0<|
 pO (g v 12) fun v1 =>
 kV v0<|
 pK v0 v1 (.bool false) fun v2 =>
 .ret v2 []
theorem AU:aS xh Tryz.f199 wI:=aU Tryz.func199 [(25,[5,6,7,8])] [] [] fun _=>by kernel_rfl
abbrev bg:FuncId:=200
def be (v:List Value):Tree :=
 c1 259 [g v 0,g v 1] fun l0 =>
 pH (g l0 0) (iv 0) fun v1 =>
 .ret v1 []
theorem de:aS bg Tryz.f200 be:=aU Tryz.func200 [(25,[5,6,7,8])] [] [] fun _=>by kernel_rfl
abbrev rQ:FuncId:=201
def ru (v:List Value):Tree :=
 .load [] (g v 1) 1 fun l0 =>
 .load [] (g v 2) 38 fun l1 =>
 .load [] (g v 3) 1 fun l2 =>
 c1 202 [g l0 0,ag (G38 l1 0),g l2 0,g v 0] fun l3 =>
 pZ (g l3 0) fun v4 =>
 pE v4 (iv 0) fun v5 =>
 .ret v5 []
theorem xG:aS rQ Tryz.f201 ru:=aU Tryz.func201 [(25,[5,6,7,8])] [] [] fun _=>by kernel_rfl
abbrev dj:FuncId:=202
def qm (a:List Value) (b:List Value→Heap→Go.Sx.Own→Prop) (c d:List Value) (e:Nat):Tree :=
 pS (g a 1) (iv 1) fun v34 =>
 .cont 20 b [g c 0,v34] (Es [[g d 0],[pt e 0],((pt e 0)::G38 d 1)])
def dW (v:List Value):Tree :=
 .newbox fun r0 =>
 pE (g v 40) (iv 1) fun v0 =>
 .br v0 (
 kN r0<|
 kN r0<|
 c1 202 [g v 0,ag (G38 v 1),g v 39,iv 2] fun l1 =>
 c1 202 [g v 0,ag (G38 v 1),g v 39,iv 3] fun l2 =>
 .prim (.bi .append #[104,104] 104) [g l1 0,g l2 0] [] [] .one fun l3 _ =>
 cS 260 [g l3 0,.func (.func 261) #[] #[]] (.tup []) fun l4 =>
 .ret (g l3 0) []) (
 pE (g v 40) (iv 3) fun v5 =>
 .br v5 (
 kN r0<|
 pS (iv 1) (g v 39) fun v6 =>
 c1 202 [g v 0,ag (G38 v 1),v6,iv 2] fun l7 =>
 .ret (g l7 0) []) (
 pE (g v 40) (iv 2) fun v8 =>
 .br v8 (
 kN r0<|
 c1 138 [g v 0,ag (G38 v 1),g v 39] fun l9 =>
 pZ (g l9 0) fun v10 =>
 .loop 15 9 [.slice none 0 0,iv 0] fun C15 l11 =>
 pL (g l11 1) v10 fun v12 =>
 .br v12 (
 pI 1 (g l9 0) (g l11 1) fun v13 =>
 .load [] v13 1 fun l14 =>
 .newbox fun r1 =>
 .prim (.bi .append #[104,104] 104) [g l11 0,.slice (some ⟨r1,0,none⟩) 1 1] [⟨r1,122,[g l14 0,iv 0]⟩] [] .one fun l15 _ =>
 pA (g l11 1) (iv 1) fun v16 =>
 .cont 15 C15 [g l15 0,v16] (Es [[g l9 0],[v10]])) (
 .ret (g l11 0) [])) (
 pE (g v 40) (iv 4) fun v17 =>
 .br v17 (
 pS (iv 1) (g v 39) fun v18 =>
 .newbox fun r2 =>
 .ret (.slice (some ⟨r2,0,none⟩) 2 2) [⟨r2,122,[iv 0,v18,iv 0,g v 39]⟩]) (
 pE (g v 40) (iv 5) fun v19 =>
 .br v19 (
 kN r0<|
 kN r0<|
 c1 202 [g v 0,ag (G38 v 1),g v 39,iv 4] fun l20 =>
 c1 202 [g v 0,ag (G38 v 1),g v 39,iv 1] fun l21 =>
 .prim (.bi .append #[104,104] 104) [g l20 0,g l21 0] [] [] .one fun l22 _ =>
 .ret (g l22 0) []) (
 pE (g v 40) (iv 6) fun v23 =>
 .br v23 (
 kN r0<|
 pZ (g v 30) fun v24 =>
 pS v24 (iv 1) fun v25 =>
 .loop 20 19 [.slice none 0 0,v25] fun C20 l26 =>
 pH (g l26 1) (iv 0) fun v27 =>
 .br v27 (
 kN r0<|
 pI 5 (g v 30) (g l26 1) fun v28 =>
 .load [] v28 5 fun l29 =>
 c1 262 [g v 0,ag (G5 l29 0)] fun l30 =>
 .br (g l30 0) (
 kN r0<|
 pI 5 (g v 30) (g l26 1) fun v31 =>
 kP v31<|
 .load [] (an v31 1) 1 fun l32 =>
 .newbox fun r3 =>
 .prim (.bi .append #[104,104] 104) [g l26 0,.slice (some ⟨r3,0,none⟩) 1 1] [⟨r3,122,[g l32 0,iv 0]⟩] [] .one fun l33 _ =>
 qm l26 C20 l33 v r0) (
 qm l26 C20 l26 v r0)) (
 .ret (g l26 0) [])) (
 .ret (.slice none 0 0) []))))))
theorem dD:aS dj Tryz.f202 dW:=aU Tryz.func202 [(25,[5,6,7,8])] [(19,.inv [8,11] [0,5] [(5,[])]),(9,.inv [8,40] [38,39] [])] [] fun _=>by kernel_rfl
abbrev nl:FuncId:=203
def mW (v:List Value):Tree :=
 .newbox fun r0 =>
 kN r0<|
 pE (g v 2) (iv (-1)) fun v0 =>
 .br v0 (
 .ret (.bool true) []) (
 kN r0<|
 cS 155 [g v 0,ag (G12 v 1)] (.agg 14) fun l1 =>
 pE (g l1 1) (iv 2) fun v2 =>
 .ret v2 [])
theorem sA:aS nl Tryz.f203 mW:=aU Tryz.func203 [(25,[5,6,7,8])] [] [] fun _=>by kernel_rfl
abbrev nb:FuncId:=210
def kE (a:Nat):Tree :=
 kN a<|
 kN a<|
 .ret (.tuple #[ag Z5,iv 0,iv 2]) []
def mP (v:List Value):Tree :=
 .newbox fun r0 =>
 .newbox fun r1 =>
 pL (g v 40) (iv 0) fun v0 =>
 .br v0 (
 kE r1) (
 kN r0<|
 c1 93 [ag (G38 v 1)] fun l1 =>
 pO (g l1 0) fun v2 =>
 .br v2 (
 kE r1) (
 pZ (g v 39) fun v3 =>
 .loop 15 5 [.slice none 0 0,iv 0] fun C15 l4 =>
 pL (g l4 1) v3 fun v5 =>
 .br v5 (
 pI 3 (g v 39) (g l4 1) fun v6 =>
 .load [] v6 3 fun l7 =>
 .newbox fun r2 =>
 kN r2<|
 kN r0<|
 kN r2<|
 c1 273 [g v 0,ag (G38 v 1),.agg #[g l7 0,g l7 1,g l7 2]] fun l8 =>
 .prim (.bi .append #[39,39] 39) [g l4 0,g l8 0] [] [] .one fun l9 _ =>
 pA (g l4 1) (iv 1) fun v10 =>
 .cont 15 C15 [g l9 0,v10] (Es [[g v 0],[g v 40],[pt r0 0],[pt r1 0],[g v 39],[v3],((pt r0 0)::G38 v 1),[pt r1 0,.slice none 0 0,iv 0,iv 0,iv 0,iv 0,iv 0,.slice none 0 0,.slice none 0 0,.slice none 0 0,.slice none 0 0,.bool false,.bool false,.bool false,iv 0,iv 0,iv 0,iv 0,iv 0,iv 0,iv 0,.slice none 0 0,.slice none 0 0,.slice none 0 0,.slice none 0 0,.bool false,.bool false,.bool false,iv 0,iv 0,.slice none 0 0,.slice none 0 0,.slice none 0 0,.slice none 0 0,iv 0,iv 0,iv 0,iv 0,iv 0]])) (
 kN r0<|
 cS 23 [ag (G38 v 1)] (.agg 38) fun l11 =>
 .newbox fun r3 =>
 kN r3<|
 pZ (g l4 0) fun v12 =>
 .pure [] .min2 [g v 40,iv 200] fun v13 =>
 kN r3<|
 pZ (g l11 30) fun v14 =>
 pS v13 v14 fun v15 =>
 .pure [] .max2 [iv 0,v15] fun v16 =>
 .pure [] .min2 [v12,v16] fun v17 =>
 kN r3<|
 .pure [] (.slc 5 false true false) [g l4 0,v17] fun v18 =>
 .prim (.bi .append #[39,39] 39) [g l11 30,v18] [] [] .one fun l19 _ =>
 kN r3<|
 kN r3<|
 pZ (g l4 0) fun v20 =>
 pS v20 v17 fun v21 =>
 kN r1<|
 kN r1<|
 .ret (.tuple #[ag (G30 l11 0++((g l19 0)::G7 l11 31)),v21,iv 0]) [])))
theorem sj:aS nb Tryz.f210 mP:=aU Tryz.func210 [(25,[5,6,7,8])] [(5,.inv [11,26] [0,3,5,8,24,25] [(5,[]),(8,[])])] [] fun _=>by kernel_rfl
abbrev AE:FuncId:=211
def ir (a:Value) (b:Nat) (c:List Value) (d:Nat):Tree :=
 .br a (
 .prim (.mkIface 351 false) [.slice (some ⟨b,0,none⟩) 3 3] [⟨b,156,[iv 1,iv 2,iv 3]⟩] [] .one fun l8 _ =>
 .ret (g l8 0) []) (
 pE (g c 0) (iv 7) fun v9 =>
 .br v9 (
 .newbox fun r4 =>
 .prim (.mkIface 351 false) [.slice (some ⟨r4,0,none⟩) 1 1] [⟨r4,156,[iv 6]⟩] [] .one fun l10 _ =>
 .ret (g l10 0) []) (
 pE (g c 0) (iv 8) fun v11 =>
 .br v11 (
 .call false 274 [.slice (some ⟨b,0,none⟩) 3 3] [⟨b,156,[iv 1,iv 2,iv 3]⟩] [] .one fun l12 _ =>
 .newbox fun r5 =>
 .prim (.bi .append #[351,351] 351) [g l12 0,.slice (some ⟨r5,0,none⟩) 1 1] [⟨r5,156,[iv 0]⟩] [] .one fun l13 _ =>
 .ret (.iface 356 (.agg #[g l13 0,iv 0])) []) (
 pE (g c 0) (iv 9) fun v14 =>
 .br v14 (
 .call false 274 [.slice (some ⟨b,0,none⟩) 3 3] [⟨b,156,[iv 1,iv 2,iv 3]⟩] [] .one fun l15 _ =>
 .newbox fun r6 =>
 .prim (.bi .append #[351,351] 351) [g l15 0,.slice (some ⟨r6,0,none⟩) 1 1] [⟨r6,156,[iv 0]⟩] [] .one fun l16 _ =>
 .ret (.iface 354 (.agg #[g l16 0,iv 9])) []) (
 pE (g c 0) (iv 10) fun v17 =>
 .br v17 (
 .prim (.mkIface 356 true) [.slice (some ⟨d,0,none⟩) 1 1,iv 1] [⟨d,156,[iv 0]⟩] [] .one fun l18 _ =>
 .ret (g l18 0) []) (
 pE (g c 0) (iv 12) fun v19 =>
 .br v19 (
 .prim (.mkIface 358 true) [.slice (some ⟨d,0,none⟩) 1 1,iv 9] [⟨d,156,[iv 0]⟩] [] .one fun l20 _ =>
 .ret (g l20 0) []) (
 .ret .nilIface []))))))
def jX (a:Value) (b:Nat) (c:List Value) (d e:Nat):Tree :=
 .br a (
 .prim (.mkIface 354 true) [.slice (some ⟨b,0,none⟩) 2 2,iv 99] [⟨b,156,[iv 0,iv 4]⟩] [] .one fun l6 _ =>
 .ret (g l6 0) []) (
 pE (g c 0) (iv 5) fun v7 =>
 .br v7 (
 ir v7 d c e) (
 pE (g c 0) (iv 6) fun v21 =>
 .br v21 (
 ir v21 d c e) (
 pE (g c 0) (iv 11) fun v35 =>
 ir v35 d c e)))
def Ar (v:List Value):Tree :=
 .newbox fun r0 =>
 .newbox fun r1 =>
 .newbox fun r2 =>
 pE (g v 0) (iv 1) fun v0 =>
 .br v0 (
 .call false 274 [.slice (some ⟨r2,0,none⟩) 3 3] [⟨r2,156,[iv 1,iv 2,iv 3]⟩] [] .one fun l1 _ =>
 .newbox fun r3 =>
 .prim (.bi .append #[351,351] 351) [g l1 0,.slice (some ⟨r3,0,none⟩) 2 2] [⟨r3,156,[iv 4,iv 5]⟩] [] .one fun l2 _ =>
 .ret (.iface 354 (.agg #[g l2 0,iv 99])) []) (
 pE (g v 0) (iv 2) fun v3 =>
 .br v3 (
 .prim (.mkIface 354 true) [.slice (some ⟨r1,0,none⟩) 2 2,iv 7] [⟨r1,156,[iv 0,iv 4]⟩] [] .one fun l4 _ =>
 .ret (g l4 0) []) (
 pE (g v 0) (iv 3) fun v5 =>
 .br v5 (
 jX v5 r1 v r2 r0) (
 pE (g v 0) (iv 4) fun v49 =>
 jX v49 r1 v r2 r0)))
theorem DD:aS AE Tryz.f211 Ar:=aU Tryz.func211 [(25,[5,6,7,8])] [] [] fun _=>by kernel_rfl
abbrev oD:FuncId:=222
def ox (v:List Value):Tree :=
 .newbox fun r0 =>
 kN r0<|
 c1 231 [ag (G4 v 0),iv 20] fun l0 =>
 kN r0<|
 kV (g l0 0)<|
 kV (g l0 0)<|
 pH (g v 4) (iv 0) fun v1 =>
 kV (g l0 0)<|
 pK (g l0 0) v1 (.bool false) fun v2 =>
 kN r0<|
 kV v2<|
 kV v2<|
 pM (g v 4) (iv 20) fun v3 =>
 kV v2<|
 pK v2 v3 (.bool false) fun v4 =>
 .ret v4 []
theorem tA:aS oD Tryz.f222 ox:=aU Tryz.func222 [(25,[5,6,7,8])] [] [] fun _=>by kernel_rfl
abbrev Di:FuncId:=223
def CZ (v:List Value):Tree :=
 .newbox fun r0 =>
 pE (g v 38) (iv 0) fun v0 =>
 kV v0<|
 pE (g v 38) (iv 1) fun v1 =>
 kV v0<|
 pK v0 (.bool true) v1 fun v2 =>
 .br v2 (
 kN r0<|
 c1 93 [ag (G38 v 0)] fun l3 =>
 .ret (g l3 0) []) (
 .ret (.bool false) [])
theorem Fp:aS Di Tryz.f223 CZ:=aU Tryz.func223 [(25,[5,6,7,8])] [] [] fun _=>by kernel_rfl
abbrev uI:FuncId:=224
def iq (a:List Value) (b:List Value→Heap→Go.Sx.Own→Prop) (c d:List Value) (e:Nat) (f:Value):Tree :=
 pA (g a 1) (iv 1) fun v14 =>
 .cont 7 b [g c 0,v14] (Es [[g d 0],[g d 39],[pt e 0],[g d 1],[f],((pt e 0)::G38 d 1)])
def kF (a b:Nat) (c:List Value) (d:Nat) (e:List Value) (f:Nat) (h i:List Value) (j:List Value→Heap→Go.Sx.Own→Prop) (k:Value):Tree :=
 kN a<|
 kN b<|
 c1 96 [g c d,g e 0] fun l15 =>
 .br (g l15 0) (
 kN b<|
 kN f<|
 .newbox fun r3 =>
 .prim (.bi .append #[309,309] 309) [g h 0,.slice (some ⟨r3,0,none⟩) 1 1] [⟨r3,367,[g e 0,g i 7]⟩] [] .one fun l16 _ =>
 iq h j l16 c a k) (
 iq h j h c a k)
def uu (v:List Value):Tree :=
 .newbox fun r0 =>
 kN r0<|
 pZ (g v 1) fun v0 =>
 .loop 7 3 [.slice none 0 0,iv 0] fun C7 l1 =>
 pL (g l1 1) v0 fun v2 =>
 .br v2 (
 pI 12 (g v 1) (g l1 1) fun v3 =>
 .load [] v3 12 fun l4 =>
 .newbox fun r1 =>
 kN r1<|
 kN r1<|
 cS 90 [g v 0,ag (G12 l4 0)] (.agg 14) fun l5 =>
 .newbox fun r2 =>
 kN r2<|
 kN r1<|
 pN (g l4 2) (g v 39) fun v6 =>
 kN r1<|
 kV v6<|
 kV v6<|
 pK v6 (.bool true) (g l4 9) fun v7 =>
 kN r2<|
 kV v7<|
 kV v7<|
 pN (g l5 1) (iv 1) fun v8 =>
 kV v7<|
 pK v7 (.bool true) v8 fun v9 =>
 kN r2<|
 kV v9<|
 kV v9<|
 pL (g l5 7) (iv 0) fun v10 =>
 kV v9<|
 pK v9 (.bool true) v10 fun v11 =>
 kN r2<|
 kV v11<|
 kV v11<|
 pH (g l5 7) (iv 4) fun v12 =>
 kV v11<|
 pK v11 (.bool true) v12 fun v13 =>
 .br v13 (
 iq l1 C7 l1 v r0 v0) (
 .sw (g v 39) 0 (
 kF r0 r1 v 9 l4 r2 l1 l5 C7 v0) (
 .sw (g v 39) 1 (
 kF r0 r1 v 23 l4 r2 l1 l5 C7 v0) (
 .stuck 901)))) (
 .ret (g l1 0) [])
theorem yK:aS uI Tryz.f224 uu:=aU Tryz.func224 [(25,[5,6,7,8])] [(3,.inv [7,14] [0,2,4,12,13] [(4,[])])] [] fun _=>by kernel_rfl
abbrev lP:FuncId:=225
def lB (v:List Value):Tree :=
 .newbox fun r0 =>
 kN r0<|
 kP (g v 0)<|
 kP (g v 0)<|
 .pure [] (.pidx 4 1) [g v 0,g v 1] fun v0 =>
 .load [] v0 1 fun l1 =>
 .pure [] .min2 [g v 2,g l1 0] fun v2 =>
 kN r0<|
 kP (g v 0)<|
 kP (g v 0)<|
 .pure [] (.pidx 4 1) [g v 0,g v 1] fun v3 =>
 .load [] v3 1 fun l4 =>
 pS (g l4 0) v2 fun v5 =>
 kP (g v 0)<|
 kP (g v 0)<|
 .pure [] (.pidx 4 1) [g v 0,g v 1] fun v6 =>
 kP v6<|
 .store v6 [v5]<|
 .loop 23 3 [v2,g v 1] fun C23 l7 =>
 pL (g l7 0) (g v 2) fun v8 =>
 .br v8 (
 .call false 284 [g v 0,.func (.func 285) #[] #[pt r0 0]] [] [⟨r0,85,[g l7 1]⟩] .one fun l9 c9 =>
 pO (g l9 0) fun v10 =>
 .br v10 (
 .ret (.bool false) []) (
 pA (g l7 0) (iv 1) fun v11 =>
 .cont 23 C23 [v11,g (gd c9 0) 0] (Es [[g v 0],[g v 2],[pt r0 0],[pt r0 0,.tuple #[]]]))) (
 .ret (.bool true) [])
theorem q7:aS lP Tryz.f225 lB:=aU Tryz.func225 [(25,[5,6,7,8])] [(3,.inv [7] [0,2,4] [(4,[0])])] [] fun _=>by kernel_rfl
abbrev qt:FuncId:=226
def eF (a:List Value) (b:Nat):Tree :=
 kP (g a 0)<|
 kP (g a 0)<|
 kP (g a 0)<|
 .load [] (an (g a 0) b) 1 fun l9 =>
 pE (g l9 0) (iv 0) fun v10 =>
 .br v10 (
 c1 284 [g a 0,.func (.func 286) #[] #[]] fun l11 =>
 .ret (g l11 0) []) (
 kP (g a 0)<|
 kP (g a 0)<|
 kP (g a 0)<|
 .load [] (an (g a 0) b) 1 fun l12 =>
 pS (g l12 0) (iv 1) fun v13 =>
 kP (g a 0)<|
 kP (g a 0)<|
 kP (g a 0)<|
 kP (an (g a 0) b)<|
 .store (an (g a 0) b) [v13]<|
 .ret (.bool true) [])
def na (a b:List Value):Tree :=
 kP (g a 0)<|
 kP (g a 0)<|
 kP (g a 0)<|
 .load [] (an (g a 0) 2) 1 fun l7 =>
 pG (g b 3) (g l7 0) fun v8 =>
 .br v8 (
 eF a 3) (
 eF a 2)
def iT (a b:List Value):Tree :=
 kP (g a 0)<|
 kP (g a 0)<|
 kP (g a 0)<|
 .load [] (g a 0) 1 fun l3 =>
 pG (g b 1) (g l3 0) fun v4 =>
 .br v4 (
 kP (g a 0)<|
 kP (g a 0)<|
 kP (g a 0)<|
 .load [] (an (g a 0) 1) 1 fun l5 =>
 pG (g b 2) (g l5 0) fun v6 =>
 .br v6 (
 na a b) (
 kP (g a 0)<|
 kP (g a 0)<|
 kP (g a 0)<|
 .load [] (an (g a 0) 1) 1 fun l19 =>
 pG (g b 3) (g l19 0) fun v20 =>
 .br v20 (
 eF a 3) (
 eF a 1))) (
 kP (g a 0)<|
 kP (g a 0)<|
 kP (g a 0)<|
 .load [] (g a 0) 1 fun l31 =>
 pG (g b 2) (g l31 0) fun v32 =>
 .br v32 (
 na a b) (
 kP (g a 0)<|
 kP (g a 0)<|
 kP (g a 0)<|
 .load [] (g a 0) 1 fun l45 =>
 pG (g b 3) (g l45 0) fun v46 =>
 .br v46 (
 eF a 3) (
 kP (g a 0)<|
 kP (g a 0)<|
 kP (g a 0)<|
 .load [] (g a 0) 1 fun l52 =>
 pE (g l52 0) (iv 0) fun v53 =>
 .br v53 (
 c1 284 [g a 0,.func (.func 286) #[] #[]] fun l54 =>
 .ret (g l54 0) []) (
 kP (g a 0)<|
 kP (g a 0)<|
 kP (g a 0)<|
 .load [] (g a 0) 1 fun l55 =>
 pS (g l55 0) (iv 1) fun v56 =>
 kP (g a 0)<|
 kP (g a 0)<|
 kP (g a 0)<|
 kP (g a 0)<|
 .store (g a 0) [v56]<|
 .ret (.bool true) []))))
def qd (v:List Value):Tree :=
 kP (g v 0)<|
 kP (g v 0)<|
 .load [] (g v 0) 4 fun l0 =>
 kP (g v 0)<|
 kP (g v 0)<|
 kP (g v 0)<|
 .load [] (g v 0) 1 fun l1 =>
 pG (g l0 0) (g l1 0) fun v2 =>
 .br v2 (
 iT v l0) (
 iT v l0)
theorem uZ:aS qt Tryz.f226 qd:=aU Tryz.func226 [(25,[5,6,7,8])] [(3,.unroll 5)] [] fun _=>by kernel_rfl
abbrev dr:FuncId:=229
def dm (v:List Value):Tree :=
 pZ (g v 0) fun v0 =>
 .loop 4 2 [iv 0] fun C4 l1 =>
 pL (g l1 0) v0 fun v2 =>
 .br v2 (
 pI 5 (g v 0) (g l1 0) fun v3 =>
 .load [] v3 5 fun l4 =>
 .callv false (g v 1) [ag (G5 l4 0)] [] [] .one fun l5 _ =>
 .br (g l5 0) (
 .ret (g l1 0) []) (
 pA (g l1 0) (iv 1) fun v6 =>
 .cont 4 C4 [v6] (Es [[g v 0],[g v 1],[v0]]))) (
 .ret (iv (-1)) [])
theorem fR:aS dr Tryz.f229 dm:=aU Tryz.func229 [(25,[5,6,7,8])] [(2,.inv [8] [0,1,7] [])] [] fun _=>by kernel_rfl
abbrev nY:FuncId:=231
def nS (v:List Value):Tree :=
 .newbox fun r0 =>
 kN r0<|
 .loop 4 2 [iv 0] fun C4 l0 =>
 pL (g l0 0) (iv 4) fun v1 =>
 .br v1 (
 .pure [] .aidx ((g l0 0)::G4 v 0) fun v2 =>
 pL v2 (iv 0) fun v3 =>
 kV v3<|
 kV v3<|
 pG v2 (g v 4) fun v4 =>
 kV v3<|
 pK v3 (.bool true) v4 fun v5 =>
 .br v5 (
 .ret (.bool false) []) (
 pA (g l0 0) (iv 1) fun v6 =>
 .cont 4 C4 [v6] (Es [[g v 4],G4 v 0]))) (
 .ret (.bool true) [])
theorem o5:aS nY Tryz.f231 nS:=aU Tryz.func231 [(25,[5,6,7,8])] [(2,.inv [8] [1,7] [])] [] fun _=>by kernel_rfl
abbrev bV:FuncId:=232
def bT (v:List Value):Tree :=
 c1 287 [g v 0,g v 1] fun l0 =>
 pH (g l0 0) (iv 0) fun v1 =>
 .ret v1 []
theorem ew:aS bV Tryz.f232 bT:=aU Tryz.func232 [(25,[5,6,7,8])] [] [] fun _=>by kernel_rfl
abbrev se:FuncId:=233
def rI (v:List Value):Tree :=
 .newbox fun r0 =>
 kN r0<|
 c1 234 [.agg #[g v 0,g v 1]] fun l0 =>
 pO (g l0 0) fun v1 =>
 .ret v1 []
theorem xU:aS se Tryz.f233 rI:=aU Tryz.func233 [(25,[5,6,7,8])] [] [] fun _=>by kernel_rfl
abbrev uP:FuncId:=234
def uC (v:List Value):Tree :=
 .newbox fun r0 =>
 kN r0<|
 c1 102 [g v 0,iv 0,iv 500] fun l0 =>
 .br (g l0 0) (
 kN r0<|
 c1 102 [g v 1,iv 0,iv 1] fun l1 =>
 kN r0<|
 kV (g l1 0)<|
 kV (g l1 0)<|
 pE (g v 0) (iv 0) fun v2 =>
 kV (g l1 0)<|
 kN r0<|
 kV v2<|
 kV (g l1 0)<|
 kV v2<|
 kV (g l1 0)<|
 pE (g v 1) (iv 0) fun v3 =>
 kV (g l1 0)<|
 kV v2<|
 kV (g l1 0)<|
 pK v2 (.bool true) v3 fun v4 =>
 kV (g l1 0)<|
 pK (g l1 0) v4 (.bool false) fun v5 =>
 .ret v5 []) (
 .ret (.bool false) [])
theorem yU:aS uP Tryz.f234 uC:=aU Tryz.func234 [(25,[5,6,7,8])] [] [] fun _=>by kernel_rfl
abbrev jz:FuncId:=235
def oy (v:List Value):Tree :=
 .load [] (g v 2) 1 fun l0 =>
 .prim (.lookup 319 true) [g l0 0,g v 0] [] [] (.tup [none,none]) fun l1 _ =>
 .load [] (g v 2) 1 fun l2 =>
 .prim (.mapUpdate 319) [g l2 0,g v 0,g v 1] [] [] .one fun l3 _ =>
 pO (g l1 1) fun v4 =>
 .ret v4 []
theorem tC:aS jz Tryz.f235 oy:=aU Tryz.func235 [(25,[5,6,7,8])] [] [] fun _=>by kernel_rfl
abbrev lK:FuncId:=240
def wB (v:List Value):Tree :=
 kP (g v 0)<|
 kP (g v 0)<|
 .load [] (g v 0) 1 fun l0 =>
 pZ (g l0 0) fun v1 =>
 .loop 6 1 [iv 0] fun C6 l2 =>
 pL (g l2 0) v1 fun v3 =>
 .br v3 (
 pI 12 (g l0 0) (g l2 0) fun v4 =>
 .load [] v4 12 fun l5 =>
 .newbox fun r0 =>
 kN r0<|
 kP (g v 0)<|
 kP (g v 0)<|
 .pure [] (.pidx 2 14) [an (g v 0) 1,g v 1] fun v6 =>
 kP v6<|
 .load [] (an v6 7) 1 fun l7 =>
 kN r0<|
 c1 96 [g l7 0,g l5 0] fun l8 =>
 .br (g l8 0) (
 kP (g v 0)<|
 kP (g v 0)<|
 .load [] (g v 0) 1 fun l9 =>
 kN r0<|
 .callv true (g v 2) [ag (G12 l5 0)] [] [] (.agg 12) fun l10 _ =>
 pI 12 (g l9 0) (g l2 0) fun v11 =>
 kP v11<|
 .store v11 (G12 l10 0)<|
 pA (g l2 0) (iv 1) fun v12 =>
 .cont 6 C6 [v12] (Es [[g v 0],[g v 1],[g v 2],[g l0 0],[v1]])) (
 pA (g l2 0) (iv 1) fun v13 =>
 .cont 6 C6 [v13] (Es [[g v 0],[g v 1],[g v 2],[g l0 0],[v1]]))) (
 .ret (.tuple #[]) [])
theorem AN:aS lK Tryz.f240 wB:=aU Tryz.func240 [(25,[5,6,7,8])] [(1,.inv [13] [0,1,2,11,12] [])] [] fun _=>by kernel_rfl
abbrev BH:FuncId:=241

abbrev xc:FuncId:=243
def wC (v:List Value):Tree :=
 .newbox fun r0 =>
 .newbox fun r1 =>
 kN r0<|
 c1 93 [ag (G38 v 0)] fun l0 =>
 pO (g l0 0) fun v1 =>
 .br v1 (
 kN r1<|
 kN r1<|
 .ret (ag Z5) []) (
 kN r0<|
 cS 23 [ag (G38 v 0)] (.agg 38) fun l2 =>
 kN r0<|
 kN r0<|
 .call false 240 [pt r0 0,iv 0,.func (.func 179) #[] #[]] [] [⟨r0,43,((g l2 0)::((g l2 1)::((iv 0)::((iv 0)::((iv 0)::((iv 0)::G32 l2 6))))))⟩] (.tup []) fun l3 c3 =>
 kN r0<|
 .call false 240 [pt r0 0,iv 1,.func (.func 179) #[] #[]] [] [⟨r0,43,[g (gd c3 0) 0,g (gd c3 0) 1,g (gd c3 0) 2,g (gd c3 0) 3,g (gd c3 0) 4,g (gd c3 0) 5,g (gd c3 0) 6,g (gd c3 0) 7,g (gd c3 0) 8,g (gd c3 0) 9,g (gd c3 0) 10,g (gd c3 0) 11,g (gd c3 0) 12,g (gd c3 0) 13,g (gd c3 0) 14,g (gd c3 0) 15,iv 0,iv 0,iv 0,iv 0,g (gd c3 0) 20,g (gd c3 0) 21,g (gd c3 0) 22,g (gd c3 0) 23,g (gd c3 0) 24,g (gd c3 0) 25,g (gd c3 0) 26,g (gd c3 0) 27,g (gd c3 0) 28,g (gd c3 0) 29,g (gd c3 0) 30,g (gd c3 0) 31,g (gd c3 0) 32,g (gd c3 0) 33,g (gd c3 0) 34,g (gd c3 0) 35,g (gd c3 0) 36,g (gd c3 0) 37]⟩] (.tup []) fun l4 c4 =>
 kN r0<|
 kN r1<|
 kN r1<|
 .ret (.agg #[g (gd c4 0) 0,g (gd c4 0) 1,g (gd c4 0) 2,g (gd c4 0) 3,g (gd c4 0) 4,g (gd c4 0) 5,g (gd c4 0) 6,g (gd c4 0) 7,g (gd c4 0) 8,g (gd c4 0) 9,g (gd c4 0) 10,g (gd c4 0) 11,g (gd c4 0) 12,g (gd c4 0) 13,g (gd c4 0) 14,g (gd c4 0) 15,g (gd c4 0) 16,g (gd c4 0) 17,g (gd c4 0) 18,g (gd c4 0) 19,g (gd c4 0) 20,g (gd c4 0) 21,g (gd c4 0) 22,g (gd c4 0) 23,g (gd c4 0) 24,g (gd c4 0) 25,g (gd c4 0) 26,g (gd c4 0) 27,g (gd c4 0) 28,g (gd c4 0) 29,g (gd c4 0) 30,g (gd c4 0) 31,g (gd c4 0) 32,g (gd c4 0) 33,g (gd c4 0) 34,g (gd c4 0) 35,g (gd c4 0) 36,g (gd c4 0) 37]) [])
theorem AO:aS xc Tryz.f243 wC:=aU Tryz.func243 [(25,[5,6,7,8])] [(5,.unroll 3)] [] fun _=>by kernel_rfl
abbrev xy:FuncId:=250
def wU (v:List Value):Tree :=
 .pure [] .slen [g v 0] fun v0 =>
 c1 251 [v0,iv 1,iv 32] fun l1 =>
 pO (g l1 0) fun v2 =>
 .br v2 (
 .ret (.bool false) []) (
 c1 295 [g v 0,.string ⟨#[32]⟩] fun l3 =>
 .pure [] (.bin .neq .str) [g l3 0,g v 0] fun v4 =>
 .br v4 (
 .ret (.bool false) []) (
 .prim (.convert 9 379) [g v 0] [] [] .one fun l5 _ =>
 pZ (g l5 0) fun v6 =>
 .loop 15 4 [iv 0] fun C15 l7 =>
 pL (g l7 0) v6 fun v8 =>
 .br v8 (
 pI 1 (g l5 0) (g l7 0) fun v9 =>
 .load [] v9 1 fun l10 =>
 pL (g l10 0) (.int .u8 32) fun v11 =>
 kV v11<|
 pG (g l10 0) (.int .u8 126) fun v12 =>
 kV v11<|
 pK v11 (.bool true) v12 fun v13 =>
 .br v13 (
 .ret (.bool false) []) (
 pA (g l7 0) (iv 1) fun v14 =>
 .cont 15 C15 [v14] (Es [[g l5 0],[v6]]))) (
 .ret (.bool true) [])))
theorem A9:aS xy Tryz.f250 wU:=aU Tryz.func250 [(25,[5,6,7,8])] [(4,.inv [18] [16,17] [])] [] fun _=>by kernel_rfl
abbrev uJ:FuncId:=251
def uw (v:List Value):Tree :=
 pH (g v 0) (g v 1) fun v0 =>
 kV v0<|
 kV v0<|
 pM (g v 0) (g v 2) fun v1 =>
 kV v0<|
 pK v0 v1 (.bool false) fun v2 =>
 .ret v2 []
theorem yO:aS uJ Tryz.f251 uw:=aU Tryz.func251 [(25,[5,6,7,8])] [] [] fun _=>by kernel_rfl
abbrev xt:FuncId:=252
def wQ (v:List Value):Tree :=
 pZ (g v 0) fun v0 =>
 pM v0 (iv 4) fun v1 =>
 .br v1 (
 c1 256 [g v 0,.func (.func 296) #[] #[]] fun l2 =>
 pO (g l2 0) fun v3 =>
 .ret v3 []) (
 .ret (.bool false) [])
theorem A5:aS xt Tryz.f252 wQ:=aU Tryz.func252 [(25,[5,6,7,8])] [] [] fun _=>by kernel_rfl
abbrev xp:FuncId:=253
def wO (v:List Value):Tree :=
 .newbox fun r0 =>
 kN r0<|
 c1 222 [ag (G5 v 0)] fun l0 =>
 pO (g l0 0) fun v1 =>
 .br v1 (
 .ret (iv 0) []) (
 kN r0<|
 kN r0<|
 c1 297 [ag (G4 v 0)] fun l2 =>
 pA (g l2 0) (g v 4) fun v3 =>
 .ret v3 [])
theorem A3:aS xp Tryz.f253 wO:=aU Tryz.func253 [(25,[5,6,7,8])] [] [] fun _=>by kernel_rfl
abbrev xw:FuncId:=254
def wS (v:List Value):Tree :=
 .newbox fun r0 =>
 kN r0<|
 pE (g v 8) (iv 0) fun v0 =>
 kN r0<|
 kV v0<|
 kV v0<|
 pE (g v 9) (iv 0) fun v1 =>
 kV v0<|
 pK v0 v1 (.bool false) fun v2 =>
 kN r0<|
 kV v2<|
 kV v2<|
 pE (g v 10) (iv 0) fun v3 =>
 kV v2<|
 pK v2 v3 (.bool false) fun v4 =>
 kN r0<|
 kV v4<|
 kV v4<|
 pZ (g v 12) fun v5 =>
 kV v4<|
 pE v5 (iv 0) fun v6 =>
 kV v4<|
 pK v4 v6 (.bool false) fun v7 =>
 .ret v7 []
theorem A7:aS xw Tryz.f254 wS:=aU Tryz.func254 [(25,[5,6,7,8])] [] [] fun _=>by kernel_rfl
abbrev qy:FuncId:=255
def qg (v:List Value):Tree :=
 pZ (g v 0) fun v0 =>
 .loop 4 2 [iv 0] fun C4 l1 =>
 pL (g l1 0) v0 fun v2 =>
 .br v2 (
 pI 2 (g v 0) (g l1 0) fun v3 =>
 .load [] v3 2 fun l4 =>
 .newbox fun r0 =>
 kN r0<|
 kN r0<|
 c1 251 [g l4 0,iv 1,iv 3] fun l5 =>
 pO (g l5 0) fun v6 =>
 .br v6 (
 .ret (.bool false) []) (
 kN r0<|
 pZ (g l4 1) fun v7 =>
 c1 251 [v7,iv 1,iv 2] fun l8 =>
 pO (g l8 0) fun v9 =>
 .br v9 (
 .ret (.bool false) []) (
 kN r0<|
 c1 252 [g l4 1] fun l10 =>
 pO (g l10 0) fun v11 =>
 .br v11 (
 .ret (.bool false) []) (
 kN r0<|
 c1 298 [g l4 1] fun l12 =>
 pO (g l12 0) fun v13 =>
 .br v13 (
 .ret (.bool false) []) (
 .pure [] (.slc 2 false true false) [g v 0,g l1 0] fun v14 =>
 .call false 299 [v14,.func (.func 300) #[] #[pt r0 0]] [] [⟨r0,209,[g l4 0,g l4 1]⟩] .one fun l15 c15 =>
 .br (g l15 0) (
 .ret (.bool false) []) (
 pA (g l1 0) (iv 1) fun v16 =>
 .cont 4 C4 [v16] (Es [[g v 0],[g v 0],[v0]]))))))) (
 pZ (g v 0) fun v17 =>
 pM v17 (iv 2) fun v18 =>
 .ret v18 [])
theorem vd:aS qy Tryz.f255 qg:=aU Tryz.func255 [(25,[5,6,7,8])] [(2,.inv [7] [0,5,6] [])] [] fun _=>by kernel_rfl
abbrev bW:FuncId:=256
def bU (v:List Value):Tree :=
 c1 301 [g v 0,g v 1] fun l0 =>
 pH (g l0 0) (iv 0) fun v1 =>
 .ret v1 []
theorem ez:aS bW Tryz.f256 bU:=aU Tryz.func256 [(25,[5,6,7,8])] [] [] fun _=>by kernel_rfl
abbrev uK:FuncId:=257
def ux (v:List Value):Tree :=
 .newbox fun r0 =>
 kN r0<|
 pE (g v 1) (iv 0) fun v0 =>
 kN r0<|
 kV v0<|
 kV v0<|
 pE (g v 0) (iv 8) fun v1 =>
 kV v0<|
 kN r0<|
 kV v1<|
 kV v0<|
 kV v1<|
 kV v0<|
 pE (g v 0) (iv 9) fun v2 =>
 kV v0<|
 kV v1<|
 kV v0<|
 pK v1 (.bool true) v2 fun v3 =>
 kV v0<|
 pK v0 v3 (.bool false) fun v4 =>
 .ret v4 []
theorem yP:aS uK Tryz.f257 ux:=aU Tryz.func257 [(25,[5,6,7,8])] [] [] fun _=>by kernel_rfl
abbrev oC:FuncId:=258
def ov (v:List Value):Tree :=
 .pure [] (.bin .eql .ptr) [g v 0,.pointer none] fun v0 =>
 .chk (.ptr [(v0,false)] (g v 0))<|
 kV v0<|
 .chk (.ptr [(v0,false)] (g v 0))<|
 kV v0<|
 kV v0<|
 .load [(v0,false)] (an (g v 0) 1) 1 fun l1 =>
 kV v0<|
 .pure [] (.bin .eql .map) [g l1 0,.map none] fun v2 =>
 kV v0<|
 pK v0 (.bool true) v2 fun v3 =>
 .ret v3 []
theorem tz:aS oC Tryz.f258 ov:=aU Tryz.func258 [(25,[5,6,7,8])] [] [] fun _=>by kernel_rfl
abbrev bz:FuncId:=259
def bw (v:List Value):Tree :=
 pZ (g v 0) fun v0 =>
 .loop 4 2 [iv 0] fun C4 l1 =>
 pL (g l1 0) v0 fun v2 =>
 .br v2 (
 pI 1 (g v 0) (g l1 0) fun v3 =>
 .load [] v3 1 fun l4 =>
 .callv false (g v 1) [g l4 0] [] [] .one fun l5 _ =>
 .br (g l5 0) (
 .ret (g l1 0) []) (
 pA (g l1 0) (iv 1) fun v6 =>
 .cont 4 C4 [v6] (Es [[g v 0],[g v 1],[v0]]))) (
 .ret (iv (-1)) [])
theorem dJ:aS bz Tryz.f259 bw:=aU Tryz.func259 [(25,[5,6,7,8])] [(2,.inv [8] [0,1,7] [])] [] fun _=>by kernel_rfl
abbrev rO:FuncId:=262
def rp (v:List Value):Tree :=
 .newbox fun r0 =>
 kN r0<|
 cS 90 [g v 0,.agg #[iv 0,g v 3,iv 0,iv 0,iv 0,iv 0,iv 0,iv 0,iv 0,.bool false,.bool false,.bool false]] (.agg 14) fun l0 =>
 .newbox fun r1 =>
 kN r1<|
 kN r1<|
 pE (g l0 1) (iv 3) fun v1 =>
 kN r1<|
 kV v1<|
 kV v1<|
 pE (g l0 1) (iv 4) fun v2 =>
 kV v1<|
 pK v1 (.bool true) v2 fun v3 =>
 kN r0<|
 kV v3<|
 kV v3<|
 pL (g v 4) (iv 0) fun v4 =>
 kV v3<|
 pK v3 v4 (.bool false) fun v5 =>
 .br v5 (
 kN r0<|
 pZ (g v 5) fun v6 =>
 kN r1<|
 c1 303 [g l0 11] fun l7 =>
 pH v6 (g l7 0) fun v8 =>
 .ret v8 []) (
 .ret (.bool false) [])
theorem xE:aS rO Tryz.f262 rp:=aU Tryz.func262 [(25,[5,6,7,8])] [] [] fun _=>by kernel_rfl
abbrev xe:FuncId:=273
def me (a:Nat) (b:List Value) (c d e:Nat):Tree :=
 kN a<|
 kN a<|
 pZ (g b 1) fun v10 =>
 .loop c 16 [.slice none 0 0,iv 0] fun C32 l11 =>
 pL (g l11 1) v10 fun v12 =>
 .br v12 (
 pI 12 (g b 1) (g l11 1) fun v13 =>
 .load [] v13 12 fun l14 =>
 .newbox fun r3 =>
 kN r3<|
 kN r3<|
 c1 96 [g b d,g l14 0] fun l15 =>
 .br (g l15 0) (
 kN r3<|
 kN e<|
 c1 309 [g b 0,ag (G12 l14 0),g b 39] fun l16 =>
 .prim (.bi .append #[39,39] 39) [g l11 0,g l16 0] [] [] .one fun l17 _ =>
 pA (g l11 1) (iv 1) fun v18 =>
 .cont c C32 [g l17 0,v18] (Es [[g b 0],[pt e 0],[g b d],[g b 1],[v10],[pt e 0,g b 39,g b 40,g b 41]])) (
 pA (g l11 1) (iv 1) fun v19 =>
 .cont c C32 [g l11 0,v19] (Es [[g b 0],[pt e 0],[g b d],[g b 1],[v10],[pt e 0,g b 39,g b 40,g b 41]]))) (
 .ret (g l11 0) [])
def mf (a:Value) (b c:Nat) (d:List Value) (e:Nat):Tree :=
 .br a (
 kN b<|
 kN c<|
 cS 89 [ag (G38 d 1),g d 40] (.tup [some 12,none]) fun l3 =>
 .newbox fun r2 =>
 kN r2<|
 pN (g l3 12) (iv 0) fun v4 =>
 .br v4 (
 .ret (.slice none 0 0) []) (
 kN r2<|
 kN c<|
 c1 309 [g d 0,ag (G12 l3 0),g d 39] fun l5 =>
 .ret (g l5 0) [])) (
 pE (g d 39) (iv 3) fun v6 =>
 .br v6 (
 kN c<|
 pN (g d 41) (iv 0) fun v7 =>
 kN c<|
 kV v7<|
 kV v7<|
 pN (g d 41) (iv 1) fun v8 =>
 kV v7<|
 pK v7 v8 (.bool false) fun v9 =>
 .br v9 (
 .ret (.slice none 0 0) []) (
 kN c<|
 .sw (g d 41) 0 (
 me b d e 9 c) (
 .sw (g d 41) 1 (
 me b d e 23 c) (
 .stuck 901)))) (
 .ret (.slice none 0 0) []))
def wF (v:List Value):Tree :=
 .newbox fun r0 =>
 .newbox fun r1 =>
 kN r0<|
 c1 93 [ag (G38 v 1)] fun l0 =>
 pO (g l0 0) fun v1 =>
 .br v1 (
 .ret (.slice none 0 0) []) (
 kN r1<|
 pE (g v 39) (iv 1) fun v2 =>
 .br v2 (
 mf v2 r0 r1 v 32) (
 pE (g v 39) (iv 2) fun v30 =>
 mf v30 r0 r1 v 34))
theorem AQ:aS xe Tryz.f273 wF:=aU Tryz.func273 [(25,[5,6,7,8])] [(16,.inv [10,54] [0,5,9,52,53] [(5,[])])] [] fun _=>by kernel_rfl
abbrev cD:FuncId:=274
def cA (v:List Value):Tree :=
 pZ (g v 0) fun v0 =>
 pZ (g v 0) fun v1 =>
 .pure [] (.slc 1 false true true) [g v 0,v0,v1] fun v2 =>
 .ret v2 []
theorem eY:aS cD Tryz.f274 cA:=aU Tryz.func274 [(25,[5,6,7,8])] [] [] fun _=>by kernel_rfl
abbrev AA:FuncId:=275
def An (v:List Value):Tree :=
 .pure [] .min2 [g v 0,g v 1] fun v0 =>
 .pure [] .max2 [iv 0,v0] fun v1 =>
 .ret v1 []
theorem Dw:aS AA Tryz.f275 An:=aU Tryz.func275 [(25,[5,6,7,8])] [] [] fun _=>by kernel_rfl
abbrev qs:FuncId:=284
def qc (v:List Value):Tree :=
 kP (g v 0)<|
 kP (g v 0)<|
 .load [] (an (g v 0) 4) 1 fun l0 =>
 c1 315 [g l0 0,g v 1] fun l1 =>
 pL (g l1 0) (iv 0) fun v2 =>
 .br v2 (
 .ret (.bool false) []) (
 kP (g v 0)<|
 kP (g v 0)<|
 .load [] (an (g v 0) 5) 1 fun l3 =>
 kP (g v 0)<|
 kP (g v 0)<|
 .load [] (an (g v 0) 4) 1 fun l4 =>
 pI 2 (g l4 0) (g l1 0) fun v5 =>
 kP v5<|
 .load [] v5 1 fun l6 =>
 .newbox fun r0 =>
 .prim (.bi .append #[25,25] 25) [g l3 0,.slice (some ⟨r0,0,none⟩) 1 1] [⟨r0,3,[g l6 0]⟩] [] .one fun l7 _ =>
 kP (g v 0)<|
 kP (g v 0)<|
 kP (an (g v 0) 5)<|
 .store (an (g v 0) 5) [g l7 0]<|
 kP (g v 0)<|
 kP (g v 0)<|
 .load [] (an (g v 0) 4) 1 fun l8 =>
 pA (g l1 0) (iv 1) fun v9 =>
 c1 316 [g l8 0,g l1 0,v9] fun l10 =>
 kP (g v 0)<|
 kP (g v 0)<|
 kP (an (g v 0) 4)<|
 .store (an (g v 0) 4) [g l10 0]<|
 .ret (.bool true) [])
theorem uY:aS qs Tryz.f284 qc:=aU Tryz.func284 [(25,[5,6,7,8])] [] [] fun _=>by kernel_rfl
abbrev cB:FuncId:=287
def cw (v:List Value):Tree :=
 pZ (g v 0) fun v0 =>
 .loop 4 2 [iv 0] fun C4 l1 =>
 pL (g l1 0) v0 fun v2 =>
 .br v2 (
 pI 2 (g v 0) (g l1 0) fun v3 =>
 .load [] v3 2 fun l4 =>
 .callv false (g v 1) [.agg #[g l4 0,g l4 1]] [] [] .one fun l5 _ =>
 .br (g l5 0) (
 .ret (g l1 0) []) (
 pA (g l1 0) (iv 1) fun v6 =>
 .cont 4 C4 [v6] (Es [[g v 0],[g v 1],[v0]]))) (
 .ret (iv (-1)) [])
theorem eW:aS cB Tryz.f287 cw:=aU Tryz.func287 [(25,[5,6,7,8])] [(2,.inv [8] [0,1,7] [])] [] fun _=>by kernel_rfl
abbrev rY:FuncId:=296
def rF (v:List Value):Tree :=
 .newbox fun r0 =>
 kN r0<|
 c1 153 [ag (G5 v 0)] fun l0 =>
 pO (g l0 0) fun v1 =>
 .ret v1 []
theorem xQ:aS rY Tryz.f296 rF:=aU Tryz.func296 [(25,[5,6,7,8])] [] [] fun _=>by kernel_rfl
abbrev Dk:FuncId:=297
def Db (v:List Value):Tree :=
 .newbox fun r0 =>
 kN r0<|
 .loop 5 3 [iv 0,iv 0] fun C5 l0 =>
 pL (g l0 1) (iv 4) fun v1 =>
 .br v1 (
 .pure [] .aidx ((g l0 1)::G4 v 0) fun v2 =>
 pA (g l0 0) v2 fun v3 =>
 pA (g l0 1) (iv 1) fun v4 =>
 .cont 5 C5 [v3,v4] (Es [G4 v 0])) (
 .ret (g l0 0) [])
theorem Ft:aS Dk Tryz.f297 Db:=aU Tryz.func297 [(25,[5,6,7,8])] [(3,.inv [3,7] [6] [])] [] fun _=>by kernel_rfl
abbrev xx:FuncId:=298
def wT (v:List Value):Tree :=
 c1 303 [g v 0] fun l0 =>
 pE (g l0 0) (iv 0) fun v1 =>
 .ret v1 []
theorem A8:aS xx Tryz.f298 wT:=aU Tryz.func298 [(25,[5,6,7,8])] [] [] fun _=>by kernel_rfl
abbrev bJ:FuncId:=299
def bI (v:List Value):Tree :=
 c1 324 [g v 0,g v 1] fun l0 =>
 pH (g l0 0) (iv 0) fun v1 =>
 .ret v1 []
theorem d6:aS bJ Tryz.f299 bI:=aU Tryz.func299 [(25,[5,6,7,8])] [] [] fun _=>by kernel_rfl
abbrev dA:FuncId:=300
def mY (v:List Value):Tree :=
 .newbox fun r0 =>
 kN r0<|
 kP (g v 2)<|
 .load [] (g v 2) 1 fun l0 =>
 pE (g v 0) (g l0 0) fun v1 =>
 .ret v1 []
theorem sC:aS dA Tryz.f300 mY:=aU Tryz.func300 [(25,[5,6,7,8])] [] [] fun _=>by kernel_rfl
abbrev cC:FuncId:=301
def cz (v:List Value):Tree :=
 pZ (g v 0) fun v0 =>
 .loop 4 2 [iv 0] fun C4 l1 =>
 pL (g l1 0) v0 fun v2 =>
 .br v2 (
 pI 5 (g v 0) (g l1 0) fun v3 =>
 .load [] v3 5 fun l4 =>
 .callv false (g v 1) [ag (G5 l4 0)] [] [] .one fun l5 _ =>
 .br (g l5 0) (
 .ret (g l1 0) []) (
 pA (g l1 0) (iv 1) fun v6 =>
 .cont 4 C4 [v6] (Es [[g v 0],[g v 1],[v0]]))) (
 .ret (iv (-1)) [])
theorem eX:aS cC Tryz.f301 cz:=aU Tryz.func301 [(25,[5,6,7,8])] [(2,.inv [8] [0,1,7] [])] [] fun _=>by kernel_rfl
abbrev jy:FuncId:=303
def jv (v:List Value):Tree :=
 pZ (g v 0) fun v0 =>
 .loop 5 3 [iv 0,iv 0] fun C5 l1 =>
 pL (g l1 1) v0 fun v2 =>
 .br v2 (
 pI 5 (g v 0) (g l1 1) fun v3 =>
 .load [] v3 5 fun l4 =>
 .newbox fun r0 =>
 kN r0<|
 kN r0<|
 pN (g l4 1) (iv 0) fun v5 =>
 .br v5 (
 pA (g l1 0) (iv 1) fun v6 =>
 pA (g l1 1) (iv 1) fun v7 =>
 .cont 5 C5 [v6,v7] (Es [[g v 0],[v0]])) (
 pA (g l1 1) (iv 1) fun v8 =>
 .cont 5 C5 [g l1 0,v8] (Es [[g v 0],[v0]]))) (
 .ret (g l1 0) [])
theorem kR:aS jy Tryz.f303 jv:=aU Tryz.func303 [(25,[5,6,7,8])] [(3,.inv [3,8] [6,7] [])] [] fun _=>by kernel_rfl
end Go.Proofs.YteakpllehopodaaGreatDoor
