/- The trees of the functions of this seat: printed by a tool of mine; each by the kernel's reckoning equal to the evaluator's. -/
import Derived.Test.YtamgiojcbdbokaaGreatDoorFw2
import Derived.Test.YtamgiojcbdbokaaGreatDoorProg
import Derived.KernelRfl
namespace Go.Proofs.YtamgiojcbdbokaaGreatDoor
open Go Go.Sx
set_option maxRecDepth 100000
noncomputable abbrev PP : Program := Tryz.prog
theorem mixed : PP.follows .mixedOrders = true := by kernel_rfl
def okL : List Nat := [2, 3, 4, 5, 6, 7, 8, 9, 10, 11, 12, 13, 14, 15, 16, 17, 18, 19, 20, 21, 22, 23, 24, 25, 26, 27, 28, 29, 30, 31, 32, 33, 34, 35, 36, 37, 38, 39, 40, 41, 42, 43, 44, 45, 46, 47, 48, 49, 50, 51, 52, 53, 54, 55, 56, 57, 58, 59, 60, 61, 62, 63, 64, 65, 66, 67, 68, 69, 70, 71, 72, 73, 74, 75, 76, 77, 78, 79, 80, 81, 82, 83, 84, 85, 86, 87, 88, 89, 90, 91, 93, 94, 95, 96, 97, 98, 99, 100, 101, 102, 103, 104, 105, 106, 107, 108, 109, 110, 111, 112, 113, 114, 115, 116, 117, 118, 119, 120, 121, 122, 123, 124, 125, 126, 127, 128, 129, 130, 131, 132, 133, 134, 135, 136, 137, 138, 139, 140, 141, 142, 143, 144, 145, 146, 147, 148, 150, 151, 152, 153, 154, 155, 156, 157, 158, 159, 160, 161, 162, 163, 164, 165, 166, 167, 168, 169, 170, 171, 172, 173, 175, 176, 177, 178, 179, 180, 181, 182, 183, 184, 185, 186, 187, 188, 189, 190, 210, 211, 212, 213, 214, 215, 216, 217, 229]
theorem ju : okL.all (zO PP) = true := by kernel_rfl
def ck (f : FuncId) (fn : Func) (T : List Value → Tree) : Prop := ∀ {args vs : List Value}, kl PP fn args = some vs → Ones vs → ∀ {H : Heap} {O : Go.Sx.Own} {Q : Value → Heap → Go.Sx.Own → Prop}, (T vs).den PP Q H O → Triple PP f args H O Q
theorem cm {f : FuncId} {fn : Func} {T : List Value → Tree} (hf : PP.funcs[f]? = some fn) (a : _) (b : _) (c : _) (e : ∀ vs, zx PP fn (vL okL a b c) vs = T vs) : ck f fn T := fun ha ho _ _ _ h => wn mixed (pg ju _ _ _) hf e ha ho h
abbrev dR : TypeId := 3
abbrev ub : TypeId := 9
abbrev qd : TypeId := 62
abbrev lN : TypeId := 68
abbrev dC : TypeId := 71
abbrev ar : TypeId := 77
abbrev cC : TypeId := 110
abbrev Z0 : List Value := [.string ⟨#[]⟩,iv 0,iv 0,iv 0,iv 0,iv 0,iv 0,iv 0,iv 0,iv 0,iv 0,.slice none 0 0,.slice none 0 0,iv 0]
abbrev dV : FuncId := 7
def dT (v : List Value) : Tree :=
 cS 8 [g v 0] (.tup [none,none]) fun l0 =>
 pO (g l0 1) fun v1 =>
 kV v1 <|
 pZ (g v 1) fun v2 =>
 kV v1 <|
 pG v2 (iv 100) fun v3 =>
 kV v1 <|
 pK v1 (.bool true) v3 fun v4 =>
 .br v4 (
 c1 9 [] fun l5 =>
 .ret (g l5 0) []) (
 cS 23 [g l0 0,g v 1] (.tup [none,none]) fun l6 =>
 cS 24 [g l0 0,g v 1] (.tup [none,none]) fun l7 =>
 pN (g l6 1) (g l7 1) fun v8 =>
 .br v8 (
 .ret (.bool false) []) (
 pN (g l6 1) (iv 0) fun v9 =>
 .br v9 (
 pZ (g l6 0) fun v10 =>
 pE v10 (iv 0) fun v11 =>
 .br v11 (
 c1 9 [] fun l12 =>
 .ret (g l12 0) []) (
 .ret (.bool false) [])) (
 pZ (g l6 0) fun v13 =>
 pL v13 (iv 20) fun v14 =>
 kV v14 <|
 pZ (g l6 0) fun v15 =>
 kV v14 <|
 pG v15 (iv 60) fun v16 =>
 kV v14 <|
 pK v14 (.bool true) v16 fun v17 =>
 kV v17 <|
 pZ (g v 1) fun v18 =>
 kV v17 <|
 pZ (g l6 0) fun v19 =>
 kV v17 <|
 kV v17 <|
 pG v18 v19 fun v20 =>
 kV v17 <|
 pK v17 (.bool true) v20 fun v21 =>
 .br v21 (
 .ret (.bool false) []) (
 c1 13 [g l6 0,g v 1,iv 0] fun l22 =>
 pO (g l22 0) fun v23 =>
 .br v23 (
 .ret (.bool false) []) (
 pZ (g l6 0) fun v24 =>
 c1 19 [g l0 0,g v 1,iv 0,v24,iv 0] fun l25 =>
 pO (g l25 0) fun v26 =>
 .br v26 (
 .ret (.bool false) []) (
 .loop 67 14 [iv 0,iv 1] fun C67 l27 =>
 pM (g l27 1) (iv 4) fun v28 =>
 .br v28 (
 cS 25 [g l0 0,g v 1,g l27 1] (.tup [none,none]) fun l29 =>
 pN (g l29 1) (iv 0) fun v30 =>
 .br v30 (
 .ret (.bool false) []) (
 pA (g l27 0) (g l29 0) fun v31 =>
 pA (g l27 1) (iv 1) fun v32 =>
 .cont 67 C67 [v31,v32] (Es [[g v 1],[g v 2],[g l0 0],[g l6 0]]))) (
 cS 26 [g l0 0,g v 1] (.tup [none,none]) fun l33 =>
 pZ (g l6 0) fun v34 =>
 pN (g l27 0) v34 fun v35 =>
 kV v35 <|
 pN (g l33 1) (iv 0) fun v36 =>
 kV v35 <|
 pK v35 (.bool true) v36 fun v37 =>
 .br v37 (
 .ret (.bool false) []) (
 c1 16 [g l0 0,g l33 0,g v 1,iv 0,iv 0] fun l38 =>
 pO (g l38 0) fun v39 =>
 .br v39 (
 .ret (.bool false) []) (
 .loop 95 25 [.slice none 0 0,iv 0] fun C95 l40 =>
 .pure [] .slen [g l33 0] fun v41 =>
 pL (g l40 1) v41 fun v42 =>
 .br v42 (
 .pure [] .sidx [g l33 0,g l40 1] fun v43 =>
 pE v43 (.int .u8 10) fun v44 =>
 .br v44 (
 pA (g l40 1) (iv 1) fun v45 =>
 .newbox fun r0 =>
 .prim (.bi .append #[33,33] 33) [g l40 0,.slice (some ⟨r0,0,none⟩) 1 1] [⟨r0,3,[v45]⟩] [] .one fun l46 _ =>
 pA (g l40 1) (iv 1) fun v47 =>
 .cont 95 C95 [g l46 0,v47] (Es [[g v 1],[g v 2],[g l0 0],[g l33 0]])) (
 pA (g l40 1) (iv 1) fun v48 =>
 .cont 95 C95 [g l40 0,v48] (Es [[g v 1],[g v 2],[g l0 0],[g l33 0]]))) (
 .pure [] (.conv .i64) [g v 2] fun v49 =>
 pZ (g l40 0) fun v50 =>
 .pure [] (.bin .rem .int) [v49,v50] fun v51 =>
 pI 1 (g l40 0) v51 fun v52 =>
 .load [] v52 1 fun l53 =>
 .pure [] (.sslc true false) [g l33 0,g l53 0] fun v54 =>
 .pure [] (.sslc false true) [g l33 0,g l53 0] fun v55 =>
 .pure [] (.bin .add .str) [v54,v55] fun v56 =>
 c1 16 [g l0 0,v56,g v 1,iv 0,iv 0] fun l57 =>
 .br (g l57 0) (
 c1 9 [] fun l58 =>
 .ret (g l58 0) []) (
 .ret (.bool false) [])))))))))))
theorem gC : ck dV Tryz.f7 dT := cm Tryz.func7 [] [(14, .inv [13, 14] [1, 2, 7, 9] []), (25, .inv [18, 19] [1, 2, 7, 17] [])] [] fun _ => by kernel_rfl
abbrev gA : FuncId := 8
def gv (v : List Value) : Tree :=
 pZ (g v 0) fun v0 =>
 pG v0 (iv 20) fun v1 =>
 .br v1 (
 .ret (.tuple #[.pointer none,.bool false]) []) (
 pZ (g v 0) fun v2 =>
 .loop 8 4 [iv 0] fun C8 l3 =>
 pL (g l3 0) v2 fun v4 =>
 .br v4 (
 pI 14 (g v 0) (g l3 0) fun v5 =>
 .load [] v5 14 fun l6 =>
 .newbox fun r0 =>
 kN r0 <|
 kN r0 <|
 .pure [] .slen [g l6 0] fun v7 =>
 pG v7 (iv 100) fun v8 =>
 kN r0 <|
 kV v8 <|
 kV v8 <|
 pZ (g l6 11) fun v9 =>
 kV v8 <|
 pG v9 (iv 10) fun v10 =>
 kV v8 <|
 pK v8 (.bool true) v10 fun v11 =>
 kN r0 <|
 kV v11 <|
 kV v11 <|
 pZ (g l6 12) fun v12 =>
 kV v11 <|
 pG v12 (iv 5) fun v13 =>
 kV v11 <|
 pK v11 (.bool true) v13 fun v14 =>
 .br v14 (
 .ret (.tuple #[.pointer none,.bool false]) []) (
 kN r0 <|
 pZ (g l6 12) fun v15 =>
 .loop 34 9 [iv 0] fun C34 l16 =>
 pL (g l16 0) v15 fun v17 =>
 .br v17 (
 pI 2 (g l6 12) (g l16 0) fun v18 =>
 .load [] v18 2 fun l19 =>
 .newbox fun r1 =>
 kN r1 <|
 kN r1 <|
 pZ (g l19 1) fun v20 =>
 pG v20 (iv 10) fun v21 =>
 .br v21 (
 .ret (.tuple #[.pointer none,.bool false]) []) (
 pA (g l16 0) (iv 1) fun v22 =>
 .cont 34 C34 [v22] (Es [[g v 0],[g v 0],[v2],[g l3 0],[g l6 12],[v15]]))) (
 pA (g l3 0) (iv 1) fun v23 =>
 .cont 8 C8 [v23] (Es [[g v 0],[g v 0],[v2]])))) (
 c1 27 [g v 0] fun l24 =>
 pN (g l24 0) (iv 0) fun v25 =>
 .br v25 (
 .ret (.tuple #[.pointer none,.bool false]) []) (
 cS 28 [g v 0] (.tup [none,none]) fun l26 =>
 pE (g l26 1) (iv 0) fun v27 =>
 .ret (.tuple #[g l26 0,v27]) [])))
theorem j0 : ck gA Tryz.f8 gv := cm Tryz.func8 [] [(4, .inv [15] [0, 13, 14] []), (9, .inv [38] [0, 13, 14, 15, 36, 37] [])] [] fun _ => by kernel_rfl
abbrev fD : FuncId := 9
def fq (v : List Value) : Tree :=
 c1 29 [] fun l0 =>
 cS 28 [g l0 0] (.tup [none,none]) fun l1 =>
 .pure [] (.bin .eql .ptr) [g l1 0,.pointer none] fun v2 =>
 kV v2 <|
 pN (g l1 1) (iv 0) fun v3 =>
 kV v2 <|
 pK v2 (.bool true) v3 fun v4 =>
 .br v4 (
 .ret (.bool false) []) (
 .newbox fun r0 =>
 .call false 11 [g l1 0,.slice (some ⟨r0,0,none⟩) 2 2,iv (-1),iv 0] [⟨r0,77,[iv 0,iv 18,iv 1,iv 4]⟩] [] .one fun l5 _ =>
 pO (g l5 0) fun v6 =>
 .br v6 (
 .ret (.bool false) []) (
 .newbox fun r1 =>
 .call false 11 [g l1 0,.slice (some ⟨r1,0,none⟩) 2 2,iv 1,iv 7] [⟨r1,77,[iv 0,iv 18,iv 1,iv 5]⟩] [] .one fun l7 _ =>
 pO (g l7 0) fun v8 =>
 .br v8 (
 .ret (.bool false) []) (
 .newbox fun r2 =>
 .call false 11 [g l1 0,.slice (some ⟨r2,0,none⟩) 2 2,iv 1,iv 3] [⟨r2,77,[iv 0,iv 18,iv 3,iv 1]⟩] [] .one fun l9 _ =>
 pO (g l9 0) fun v10 =>
 .br v10 (
 .ret (.bool false) []) (
 .newbox fun r3 =>
 .call false 11 [g l1 0,.slice (some ⟨r3,0,none⟩) 2 2,iv 1,iv 2] [⟨r3,77,[iv 1,iv 4,iv 0,iv 18]⟩] [] .one fun l11 _ =>
 pO (g l11 0) fun v12 =>
 .br v12 (
 .ret (.bool false) []) (
 .newbox fun r4 =>
 .call false 11 [g l1 0,.slice (some ⟨r4,0,none⟩) 1 1,iv 0,iv 2] [⟨r4,77,[iv 0,iv 0]⟩] [] .one fun l13 _ =>
 pO (g l13 0) fun v14 =>
 .br v14 (
 .ret (.bool false) []) (
 .newbox fun r5 =>
 .call false 11 [g l1 0,.slice (some ⟨r5,0,none⟩) 1 1,iv (-1),iv 4] [⟨r5,77,[iv 0,iv 19]⟩] [] .one fun l15 _ =>
 pO (g l15 0) fun v16 =>
 .br v16 (
 .ret (.bool false) []) (
 .newbox fun r6 =>
 .call false 11 [g l1 0,.slice (some ⟨r6,0,none⟩) 2 2,iv (-1),iv 5] [⟨r6,77,[iv 0,iv 60,iv 2,iv 1]⟩] [] .one fun l17 _ =>
 pO (g l17 0) fun v18 =>
 .br v18 (
 .ret (.bool false) []) (
 .newbox fun r7 =>
 .call false 11 [g l1 0,.slice (some ⟨r7,0,none⟩) 1 1,iv 0,iv 2] [⟨r7,77,[iv 0,iv 61]⟩] [] .one fun l19 _ =>
 pO (g l19 0) fun v20 =>
 .br v20 (
 .ret (.bool false) []) (
 .newbox fun r8 =>
 .newbox fun r9 =>
 .call false 13 [.slice (some ⟨r8,0,none⟩) 3 3,.slice (some ⟨r9,0,none⟩) 2 2,iv 0] [⟨r8,3,[iv 2,iv 0,iv 0]⟩,⟨r9,77,[iv 0,iv 2,iv 2,iv 1]⟩] [] .one fun l21 _ =>
 pO (g l21 0) fun v22 =>
 .br v22 (
 .ret (.bool false) []) (
 .newbox fun r10 =>
 .call false 13 [.slice (some ⟨r10,0,none⟩) 1 1,.slice none 0 0,iv 2] [⟨r10,3,[iv (-1)]⟩] [] .one fun l23 _ =>
 pO (g l23 0) fun v24 =>
 .br v24 (
 .ret (.bool false) []) (
 c1 18 [g l1 0,.slice (some ⟨r0,0,none⟩) 2 2,.string ⟨#[49,56,32,87,101,108,108,10,52,32,74,111,108,116,10]⟩,iv 0] fun l25 =>
 pO (g l25 0) fun v26 =>
 .br v26 (
 .ret (.bool false) []) (
 c1 19 [g l1 0,.slice (some ⟨r0,0,none⟩) 2 2,iv 1,iv 18,iv 0] fun l27 =>
 pO (g l27 0) fun v28 =>
 .br v28 (
 .ret (.bool false) []) (
 c1 19 [g l1 0,.slice (some ⟨r0,0,none⟩) 2 2,iv 0,iv 22,iv 0] fun l29 =>
 pO (g l29 0) fun v30 =>
 .br v30 (
 .ret (.bool false) []) (
 c1 16 [g l1 0,.string ⟨#[52,32,74,111,108,116,10,49,56,32,87,101,108,108,10]⟩,.slice (some ⟨r0,0,none⟩) 2 2,iv 0,iv 0] fun l31 =>
 .br (g l31 0) (
 c1 16 [g l1 0,.string ⟨#[49,56,32,87,101,108,108,10,52,32,106,111,108,116,10]⟩,.slice none 0 0,iv 2,iv 9] fun l32 =>
 .br (g l32 0) (
 c1 16 [g l1 0,.string ⟨#[49,56,32,87,101,108,108,10,50,32,87,101,108,108,10]⟩,.slice none 0 0,iv 2,iv 11] fun l33 =>
 .br (g l33 0) (
 c1 16 [g l1 0,.string ⟨#[48,52,32,74,111,108,116,10]⟩,.slice none 0 0,iv 1,iv 6] fun l34 =>
 .br (g l34 0) (
 c1 16 [g l1 0,.string ⟨#[53,32,74,111,108,116,10,49,56,32,87,101,108,108,10]⟩,.slice none 0 0,iv 0,iv 7] fun l35 =>
 .br (g l35 0) (
 c1 16 [g l1 0,.string ⟨#[]⟩,.slice none 0 0,iv 0,iv 4] fun l36 =>
 .ret (g l36 0) []) (
 .ret (.bool false) [])) (
 .ret (.bool false) [])) (
 .ret (.bool false) [])) (
 .ret (.bool false) [])) (
 .ret (.bool false) [])))))))))))))))
theorem jM : ck fD Tryz.f9 fq := cm Tryz.func9 [] [] [] fun _ => by kernel_rfl
abbrev de : FuncId := 11
def eT (v : List Value) : Tree :=
 cS 24 [g v 0,g v 1] (.tup [none,none]) fun l0 =>
 pE (g l0 0) (g v 2) fun v1 =>
 kV v1 <|
 kV v1 <|
 pE (g l0 1) (g v 3) fun v2 =>
 kV v1 <|
 pK v1 v2 (.bool false) fun v3 =>
 .ret v3 []
theorem iY : ck de Tryz.f11 eT := cm Tryz.func11 [] [] [] fun _ => by kernel_rfl
abbrev dL : FuncId := 13
def gw (v : List Value) : Tree :=
 cS 30 [g v 0] (.tup [none,none]) fun l0 =>
 c1 31 [g l0 0,g v 1] fun l1 =>
 kV (g l1 0) <|
 kV (g l1 0) <|
 pE (g l0 1) (g v 2) fun v2 =>
 kV (g l1 0) <|
 pK (g l1 0) v2 (.bool false) fun v3 =>
 .ret v3 []
theorem j3 : ck dL Tryz.f13 gw := cm Tryz.func13 [] [] [] fun _ => by kernel_rfl
abbrev cZ : FuncId := 16
def eR (v : List Value) : Tree :=
 cS 33 [g v 0,g v 1] (.tup [none,none,none]) fun l0 =>
 c1 31 [g l0 0,g v 2] fun l1 =>
 kV (g l1 0) <|
 kV (g l1 0) <|
 pE (g l0 1) (g v 3) fun v2 =>
 kV (g l1 0) <|
 pK (g l1 0) v2 (.bool false) fun v3 =>
 kV v3 <|
 kV v3 <|
 pE (g l0 2) (g v 4) fun v4 =>
 kV v3 <|
 pK v3 v4 (.bool false) fun v5 =>
 .ret v5 []
theorem iU : ck cZ Tryz.f16 eR := cm Tryz.func16 [] [] [] fun _ => by kernel_rfl
abbrev dq : FuncId := 18
def fo (v : List Value) : Tree :=
 cS 26 [g v 0,g v 1] (.tup [none,none]) fun l0 =>
 .pure [] (.bin .eql .str) [g l0 0,g v 2] fun v1 =>
 kV v1 <|
 kV v1 <|
 pE (g l0 1) (g v 3) fun v2 =>
 kV v1 <|
 pK v1 v2 (.bool false) fun v3 =>
 .ret v3 []
theorem jL : ck dq Tryz.f18 fo := cm Tryz.func18 [] [] [] fun _ => by kernel_rfl
abbrev dc : FuncId := 19
def eS (v : List Value) : Tree :=
 cS 25 [g v 0,g v 1,g v 2] (.tup [none,none]) fun l0 =>
 pE (g l0 0) (g v 3) fun v1 =>
 kV v1 <|
 kV v1 <|
 pE (g l0 1) (g v 4) fun v2 =>
 kV v1 <|
 pK v1 v2 (.bool false) fun v3 =>
 .ret v3 []
theorem iW : ck dc Tryz.f19 eS := cm Tryz.func19 [] [] [] fun _ => by kernel_rfl
abbrev kC : FuncId := 23
def nS (v : List Value) : Tree :=
 cS 24 [g v 0,g v 1] (.tup [none,none]) fun l0 =>
 pN (g l0 1) (iv 0) fun v1 =>
 .br v1 (
 .ret (.tuple #[.slice none 0 0,g l0 1]) []) (
 pZ (g v 1) fun v2 =>
 .loop 16 6 [.slice none 0 0,iv 0] fun C16 l3 =>
 pL (g l3 1) v2 fun v4 =>
 .br v4 (
 pI 2 (g v 1) (g l3 1) fun v5 =>
 .load [] v5 2 fun l6 =>
 .newbox fun r0 =>
 kN r0 <|
 kN r0 <|
 .newbox fun r1 =>
 kN r0 <|
 .call false 35 [.slice (some ⟨r1,0,none⟩) 1 1,g l6 1] [⟨r1,3,[g l6 0]⟩] [] .one fun l7 _ =>
 .prim (.bi .append #[33,33] 33) [g l3 0,g l7 0] [] [] .one fun l8 _ =>
 pA (g l3 1) (iv 1) fun v9 =>
 .cont 16 C16 [g l8 0,v9] (Es [[g v 1],[v2]])) (
 .ret (.tuple #[g l3 0,iv 0]) []))
theorem qz : ck kC Tryz.f23 nS := cm Tryz.func23 [] [(6, .inv [8, 22] [20, 21] [])] [] fun _ => by kernel_rfl
abbrev oe : FuncId := 24
def nR (v : List Value) : Tree :=
 c1 36 [g v 0] fun l0 =>
 .br (g l0 0) (
 .ret (.tuple #[iv (-1),iv 1]) []) (
 pZ (g v 1) fun v1 =>
 .loop 9 5 [iv 0,iv (-1),iv 0] fun C9 l2 =>
 pL (g l2 2) v1 fun v3 =>
 .br v3 (
 pI 2 (g v 1) (g l2 2) fun v4 =>
 .load [] v4 2 fun l5 =>
 .newbox fun r0 =>
 kN r0 <|
 kN r0 <|
 c1 37 [g v 0,.agg #[g l5 0,g l5 1],g l2 1] fun l6 =>
 pN (g l6 0) (iv 0) fun v7 =>
 .br v7 (
 .ret (.tuple #[g l2 2,g l6 0]) []) (
 kN r0 <|
 pA (g l2 0) (g l5 1) fun v8 =>
 kN r0 <|
 pA (g l2 2) (iv 1) fun v9 =>
 .cont 9 C9 [v8,g l5 0,v9] (Es [[g v 0],[g v 1],[v1]]))) (
 pL (g l2 0) (iv 20) fun v10 =>
 .br v10 (
 .ret (.tuple #[iv (-1),iv 4]) []) (
 pG (g l2 0) (iv 60) fun v11 =>
 .br v11 (
 .ret (.tuple #[iv (-1),iv 5]) []) (
 .ret (.tuple #[iv (-1),iv 0]) []))))
theorem qy : ck oe Tryz.f24 nR := cm Tryz.func24 [] [(5, .inv [6, 7, 15] [0, 13, 14] [])] [] fun _ => by kernel_rfl
abbrev od : FuncId := 25
def nQ (v : List Value) : Tree :=
 cS 24 [g v 0,g v 1] (.tup [none,none]) fun l0 =>
 pN (g l0 1) (iv 0) fun v1 =>
 .br v1 (
 .ret (.tuple #[iv 0,g l0 1]) []) (
 pZ (g v 1) fun v2 =>
 .loop 16 6 [iv 0,iv 0] fun C16 l3 =>
 pL (g l3 1) v2 fun v4 =>
 .br v4 (
 pI 2 (g v 1) (g l3 1) fun v5 =>
 .load [] v5 2 fun l6 =>
 .newbox fun r0 =>
 kN r0 <|
 kN r0 <|
 cS 38 [g v 0,g l6 0] (.tup [some 14,none]) fun l7 =>
 .newbox fun r1 =>
 kN r1 <|
 pE (g v 2) (iv 0) fun v8 =>
 kN r1 <|
 kV v8 <|
 kV v8 <|
 kV v8 <|
 pE (g l7 1) (g v 2) fun v9 =>
 kV v8 <|
 pK v8 (.bool true) v9 fun v10 =>
 .br v10 (
 kN r0 <|
 pA (g l3 0) (g l6 1) fun v11 =>
 pA (g l3 1) (iv 1) fun v12 =>
 .cont 16 C16 [v11,v12] (Es [[g v 0],[g v 2],[g v 1],[v2]])) (
 pA (g l3 1) (iv 1) fun v13 =>
 .cont 16 C16 [g l3 0,v13] (Es [[g v 0],[g v 2],[g v 1],[v2]]))) (
 .ret (.tuple #[g l3 0,iv 0]) []))
theorem qx : ck od Tryz.f25 nQ := cm Tryz.func25 [] [(6, .inv [10, 26] [0, 2, 24, 25] [])] [] fun _ => by kernel_rfl
abbrev qp : FuncId := 26
def qi (v : List Value) : Tree :=
 cS 24 [g v 0,g v 1] (.tup [none,none]) fun l0 =>
 pN (g l0 1) (iv 0) fun v1 =>
 .br v1 (
 .ret (.tuple #[.string ⟨#[]⟩,g l0 1]) []) (
 .newbox fun r0 =>
 pZ (g v 1) fun v2 =>
 .loop 16 6 [iv 0,.pointer none,.slice none 0 0] fun C16 l3 =>
 pL (g l3 0) v2 fun v4 =>
 .br v4 (
 pI 2 (g v 1) (g l3 0) fun v5 =>
 .load [] v5 2 fun l6 =>
 .newbox fun r1 =>
 kN r1 <|
 kN r1 <|
 cS 38 [g v 0,g l6 0] (.tup [some 14,none]) fun l7 =>
 .newbox fun r2 =>
 kN r2 <|
 kN r1 <|
 kN r2 <|
 c1 40 [g l6 1] fun l8 =>
 .pure [] (.bin .add .str) [g l8 0,.string ⟨#[32]⟩] fun v9 =>
 .pure [] (.bin .add .str) [v9,g l7 0] fun v10 =>
 .pure [] (.bin .add .str) [v10,.string ⟨#[10]⟩] fun v11 =>
 .call false 39 [pt r0 0,v11] [] [⟨r0,94,[g l3 1,g l3 2]⟩] (.tup [none,none]) fun l12 c12 =>
 pA (g l3 0) (iv 1) fun v13 =>
 .cont 16 C16 [v13,g (gd c12 0) 0,g (gd c12 0) 1] (Es [[g v 0],[pt r0 0],[g v 1],[v2],[pt r0 0,.tuple #[],.tuple #[]]])) (
 .call false 41 [pt r0 0] [] [⟨r0,94,[g l3 1,g l3 2]⟩] .one fun l14 c14 =>
 .ret (.tuple #[g l14 0,iv 0]) []))
theorem rC : ck qp Tryz.f26 qi := cm Tryz.func26 [] [(6, .inv [24] [0, 8, 22, 23] [(8, [0, 1])])] [] fun _ => by kernel_rfl
abbrev fx : FuncId := 27
def fi (v : List Value) : Tree :=
 pZ (g v 0) fun v0 =>
 pG v0 (iv 400) fun v1 =>
 .br v1 (
 .ret (iv 5) []) (
 .loop 5 4 [iv 0] fun C5 l2 =>
 pZ (g v 0) fun v3 =>
 pL (g l2 0) v3 fun v4 =>
 .br v4 (
 pI 14 (g v 0) (g l2 0) fun v5 =>
 .load [] v5 14 fun l6 =>
 c1 42 [ag (G14 l6 0)] fun l7 =>
 pO (g l7 0) fun v8 =>
 .br v8 (
 .ret (iv 2) []) (
 pA (g l2 0) (iv 1) fun v9 =>
 .cont 5 C5 [v9] (Es [[g v 0]]))) (
 .loop 11 9 [iv 0] fun C11 l10 =>
 pZ (g v 0) fun v11 =>
 pL (g l10 0) v11 fun v12 =>
 .br v12 (
 pI 14 (g v 0) (g l10 0) fun v13 =>
 kP v13 <|
 .load [] v13 1 fun l14 =>
 cS 43 [g v 0,g l14 0] (.tup [none,none]) fun l15 =>
 pL (g l15 0) (g l10 0) fun v16 =>
 .br v16 (
 .ret (iv 11) []) (
 pA (g l10 0) (iv 1) fun v17 =>
 .cont 11 C11 [v17] (Es [[g v 0]]))) (
 .ret (iv 0) [])))
theorem jH : ck fx Tryz.f27 fi := cm Tryz.func27 [] [(4, .inv [3] [0] []), (9, .inv [4] [0] [])] [] fun _ => by kernel_rfl
abbrev iO : FuncId := 28
def re (v : List Value) : Tree :=
 pZ (g v 0) fun v0 =>
 pG v0 (iv 400) fun v1 =>
 .br v1 (
 .ret (.tuple #[.pointer none,iv 5]) []) (
 pZ (g v 0) fun v2 =>
 .loop 8 4 [iv 0] fun C8 l3 =>
 pL (g l3 0) v2 fun v4 =>
 .br v4 (
 pI 14 (g v 0) (g l3 0) fun v5 =>
 .load [] v5 14 fun l6 =>
 .newbox fun r0 =>
 kN r0 <|
 kN r0 <|
 c1 44 [ag (G14 l6 0)] fun l7 =>
 pO (g l7 0) fun v8 =>
 .br v8 (
 .ret (.tuple #[.pointer none,iv 2]) []) (
 pA (g l3 0) (iv 1) fun v9 =>
 .cont 8 C8 [v9] (Es [[g v 0],[g v 0],[v2]]))) (
 .prim (.makeMap 103 false) [] [] [] .one fun l10 _ =>
 .newbox fun r1 =>
 pZ (g v 0) fun v11 =>
 .loop 17 11 [iv 0,.slice none 0 0] fun C17 l12 =>
 pL (g l12 0) v11 fun v13 =>
 .br v13 (
 pI 14 (g v 0) (g l12 0) fun v14 =>
 .load [] v14 14 fun l15 =>
 .newbox fun r2 =>
 kN r2 <|
 kN r1 <|
 kN r2 <|
 .prim (.lookup 103 true) [g l10 0,g l15 0] [] [] (.tup [none,none]) fun l16 _ =>
 .br (g l16 1) (
 .ret (.tuple #[.pointer none,iv 11]) []) (
 kN r1 <|
 kN r2 <|
 .prim (.mapUpdate 103) [g l10 0,g l15 0,g l12 0] [] [] .one fun l17 _ =>
 kN r1 <|
 kN r2 <|
 cS 45 [ag (G14 l15 0)] (.agg 14) fun l18 =>
 .newbox fun r3 =>
 .prim (.bi .append #[22,22] 22) [g l12 1,.slice (some ⟨r3,0,none⟩) 1 1] [⟨r3,68,(G14 l18 0)⟩] [] .one fun l19 _ =>
 kN r1 <|
 pA (g l12 0) (iv 1) fun v20 =>
 .cont 17 C17 [v20,g l19 0] (Es [[pt r1 0],[g v 0],[v11],[pt r1 0,.tuple #[],g l10 0]]))) (
 .ret (.tuple #[pt r1 0,iv 0]) [⟨r1,105,[g l12 1,g l10 0]⟩])))
theorem sR : ck iO Tryz.f28 re := cm Tryz.func28 [] [(4, .inv [16] [0, 14, 15] []), (11, .inv [29] [6, 27, 28] [(6, [0])])] [] fun _ => by kernel_rfl
abbrev fE : FuncId := 29
def ft (v : List Value) : Tree :=
 .newbox fun r0 =>
 .newbox fun r1 =>
 .ret (.slice (some ⟨r1,0,none⟩) 3 3) [⟨r1,68,[.string ⟨#[87,101,108,108]⟩,iv 1,iv 0,iv 0,iv 0,iv 0,iv 0,iv 1,iv 0,iv 0,iv 0,.slice none 0 0,.slice none 0 0,iv 1,.string ⟨#[74,111,108,116]⟩,iv 4,iv 1,iv 0,iv 0,iv 0,iv 0,iv 0,iv 0,iv 0,iv 0,.slice (some ⟨r0,0,none⟩) 1 1,.slice none 0 0,iv 1,.string ⟨#[70,105,114,101]⟩,iv 1,iv 0,iv 0,iv 0,iv 0,iv 0,iv 0,iv 0,iv 0,iv 0,.slice none 0 0,.slice none 0 0,iv 1]⟩,⟨r0,110,[iv 1,iv 5,iv 3,iv 0,iv 0]⟩]
theorem jN : ck fE Tryz.f29 ft := cm Tryz.func29 [] [] [] fun _ => by kernel_rfl
abbrev qs : FuncId := 30
def js (a b : List Value) (c : List Value → Heap → Go.Sx.Own → Prop) (d : List Value) (e : Value) : Tree :=
 pZ (g a 0) fun v18 =>
 pS v18 (iv 1) fun v19 =>
 pI 2 (g a 0) v19 fun v20 =>
 kP v20 <|
 .load [] (bR v20 1) 1 fun l21 =>
 pA (g l21 0) (iv 1) fun v22 =>
 pI 2 (g a 0) v19 fun v23 =>
 kP v23 <|
 kP (bR v23 1) <|
 .store (bR v23 1) [v22] <|
 pA (g b 1) (iv 1) fun v24 =>
 .cont 15 c [g a 0,v24] (Es [[g d 0],[e]])
def uc (v : List Value) : Tree :=
 pZ (g v 0) fun v0 =>
 pG v0 (iv 60) fun v1 =>
 .br v1 (
 .ret (.tuple #[.slice none 0 0,iv 5]) []) (
 c1 46 [g v 0,.func (.func 47) #[] #[]] fun l2 =>
 .br (g l2 0) (
 .ret (.tuple #[.slice none 0 0,iv 2]) []) (
 c1 49 [g v 0] fun l3 =>
 c1 48 [g l3 0] fun l4 =>
 pZ (g l4 0) fun v5 =>
 .loop 15 7 [.slice none 0 0,iv 0] fun C15 l6 =>
 pL (g l6 1) v5 fun v7 =>
 .br v7 (
 pI 1 (g l4 0) (g l6 1) fun v8 =>
 .load [] v8 1 fun l9 =>
 pZ (g l6 0) fun v10 =>
 pE v10 (iv 0) fun v11 =>
 kV v11 <|
 pS v10 (iv 1) fun v12 =>
 kV v11 <|
 kV v11 <|
 .pure [(v11,false)] (.idx 2) [g l6 0,v12] fun v13 =>
 .chk (.ptr [(v11,false)] v13) <|
 kV v11 <|
 kV v11 <|
 .load [(v11,false)] v13 1 fun l14 =>
 kV v11 <|
 kV v11 <|
 pN (g l14 0) (g l9 0) fun v15 =>
 kV v11 <|
 pK v11 (.bool true) v15 fun v16 =>
 .br v16 (
 .newbox fun r0 =>
 .prim (.bi .append #[23,23] 23) [g l6 0,.slice (some ⟨r0,0,none⟩) 1 1] [⟨r0,77,[g l9 0,iv 0]⟩] [] .one fun l17 _ =>
 js l17 l6 C15 l4 v5) (
 js l6 l6 C15 l4 v5)) (
 .ret (.tuple #[g l6 0,iv 0]) [])))
theorem uu : ck qs Tryz.f30 uc := cm Tryz.func30 [] [(7, .inv [4, 19] [17, 18] [])] [] fun _ => by kernel_rfl
abbrev gy : FuncId := 31
def gq (v : List Value) : Tree :=
 pZ (g v 0) fun v0 =>
 pZ (g v 1) fun v1 =>
 pN v0 v1 fun v2 =>
 .br v2 (
 .ret (.bool false) []) (
 .loop 7 4 [iv 0] fun C7 l3 =>
 pZ (g v 0) fun v4 =>
 pL (g l3 0) v4 fun v5 =>
 .br v5 (
 pI 2 (g v 0) (g l3 0) fun v6 =>
 .load [] v6 2 fun l7 =>
 pI 2 (g v 1) (g l3 0) fun v8 =>
 .load [] v8 2 fun l9 =>
 .raw [] (.eqv .neq 77 false) [.agg #[g l7 0,g l7 1],.agg #[g l9 0,g l9 1]] fun v10 =>
 .br v10 (
 .ret (.bool false) []) (
 pA (g l3 0) (iv 1) fun v11 =>
 .cont 7 C7 [v11] (Es [[g v 0],[g v 1]]))) (
 .ret (.bool true) []))
theorem jY : ck gy Tryz.f31 gq := cm Tryz.func31 [] [(4, .inv [5] [0, 1] [])] [] fun _ => by kernel_rfl
abbrev ug : FuncId := 33
abbrev qo : FuncId := 36
def qh (v : List Value) : Tree :=
 cS 38 [g v 0,iv 0] (.tup [some 14,none]) fun l0 =>
 .newbox fun r0 =>
 kN r0 <|
 pE (g l0 14) (iv 1) fun v1 =>
 .ret v1 []
theorem rB : ck qo Tryz.f36 qh := cm Tryz.func36 [] [] [] fun _ => by kernel_rfl
abbrev oc : FuncId := 37
def nP (v : List Value) : Tree :=
 .newbox fun r0 =>
 kN r0 <|
 cS 38 [g v 0,g v 1] (.tup [some 14,none]) fun l0 =>
 .newbox fun r1 =>
 kN r1 <|
 pN (g l0 14) (iv 0) fun v1 =>
 .br v1 (
 .ret (g l0 14) []) (
 kN r0 <|
 pL (g v 2) (iv 1) fun v2 =>
 kN r0 <|
 kV v2 <|
 kV v2 <|
 pG (g v 2) (iv 60) fun v3 =>
 kV v2 <|
 pK v2 (.bool true) v3 fun v4 =>
 kN r0 <|
 kV v4 <|
 kV v4 <|
 kV v4 <|
 pM (g v 1) (g v 3) fun v5 =>
 kV v4 <|
 pK v4 (.bool true) v5 fun v6 =>
 .br v6 (
 .ret (iv 2) []) (
 kN r1 <|
 pN (g l0 1) (iv 1) fun v7 =>
 kN r0 <|
 kV v7 <|
 kV v7 <|
 pG (g v 2) (iv 4) fun v8 =>
 kV v7 <|
 pK v7 v8 (.bool false) fun v9 =>
 .br v9 (
 .ret (iv 7) []) (
 .ret (iv 0) [])))
theorem qw : ck oc Tryz.f37 nP := cm Tryz.func37 [] [] [] fun _ => by kernel_rfl
abbrev jE : FuncId := 38
def hN (a : Nat) (b : Int) : Tree :=
 kN a <|
 kN a <|
 .ret (.tuple #[ag Z0,iv b]) []
def jz (v : List Value) : Tree :=
 .newbox fun r0 =>
 c1 58 [g v 0] fun l0 =>
 .br (g l0 0) (
 hN r0 1) (
 pL (g v 1) (iv 0) fun v1 =>
 .chk (.ptr [(v1,false)] (g v 0)) <|
 kV v1 <|
 .chk (.ptr [(v1,false)] (g v 0)) <|
 kV v1 <|
 kV v1 <|
 .load [(v1,false)] (g v 0) 1 fun l2 =>
 kV v1 <|
 pZ (g l2 0) fun v3 =>
 kV v1 <|
 kV v1 <|
 pH (g v 1) v3 fun v4 =>
 kV v1 <|
 pK v1 (.bool true) v4 fun v5 =>
 .br v5 (
 hN r0 3) (
 kP (g v 0) <|
 kP (g v 0) <|
 .load [] (g v 0) 1 fun l6 =>
 pI 14 (g l6 0) (g v 1) fun v7 =>
 .load [] v7 14 fun l8 =>
 cS 45 [ag (G14 l8 0)] (.agg 14) fun l9 =>
 kN r0 <|
 kN r0 <|
 .ret (.tuple #[ag (G14 l9 0),iv 0]) []))
theorem lY : ck jE Tryz.f38 jz := cm Tryz.func38 [] [] [] fun _ => by kernel_rfl
abbrev fA : FuncId := 42
def bH (a : Value) (b c : Nat) (d : List Value) (e : Value) : Tree :=
 .br a (
 .loop b 19 [iv 0] fun C45 l62 =>
 kN c <|
 pZ (g d 11) fun v63 =>
 pL (g l62 0) v63 fun v64 =>
 .br v64 (
 kN c <|
 pI 5 (g d 11) (g l62 0) fun v65 =>
 .load [] v65 5 fun l66 =>
 .newbox fun r1 =>
 kN r1 <|
 kN r1 <|
 pE (g l66 1) (iv 0) fun v67 =>
 kN r1 <|
 kV v67 <|
 kV v67 <|
 pE (g l66 0) (iv 8) fun v68 =>
 kV v67 <|
 kN r1 <|
 kV v68 <|
 kV v67 <|
 kV v68 <|
 kV v67 <|
 pE (g l66 0) (iv 9) fun v69 =>
 kV v67 <|
 kV v68 <|
 kV v67 <|
 pK v68 (.bool true) v69 fun v70 =>
 kV v67 <|
 pK v67 v70 (.bool false) fun v71 =>
 .br v71 (
 .ret (.bool false) []) (
 pA (g l62 0) (iv 1) fun v72 =>
 .cont b C45 [v72] (Es [[pt c 0],[e],((pt c 0)::G14 d 0)]))) (
 kN c <|
 pE (g d 7) (iv 0) fun v73 =>
 .br v73 (
 kN c <|
 c1 62 [ag (G5 d 2)] fun l74 =>
 kN c <|
 kV (g l74 0) <|
 kV (g l74 0) <|
 pZ (g d 11) fun v75 =>
 kV (g l74 0) <|
 pG v75 (iv 0) fun v76 =>
 kV (g l74 0) <|
 pK (g l74 0) v76 (.bool false) fun v77 =>
 .br v77 (
 kN c <|
 c1 63 [g d 11] fun l78 =>
 kV (g l78 0) <|
 pK (g l78 0) e (.bool false) fun v79 =>
 .ret v79 []) (
 .ret (.bool false) [])) (
 .ret (.bool false) []))) (
 .ret (.bool false) [])
def fj (v : List Value) : Tree :=
 .newbox fun r0 =>
 kN r0 <|
 c1 61 [g v 0] fun l0 =>
 pO (g l0 0) fun v1 =>
 kN r0 <|
 kV v1 <|
 kV v1 <|
 pL (g v 13) (iv 1) fun v2 =>
 kV v1 <|
 pK v1 (.bool true) v2 fun v3 =>
 kN r0 <|
 kV v3 <|
 kV v3 <|
 pG (g v 13) (iv 4) fun v4 =>
 kV v3 <|
 pK v3 (.bool true) v4 fun v5 =>
 .br v5 (
 .ret (.bool false) []) (
 kN r0 <|
 pE (g v 8) (iv 0) fun v6 =>
 kN r0 <|
 kV v6 <|
 kV v6 <|
 pE (g v 9) (iv 0) fun v7 =>
 kV v6 <|
 pK v6 v7 (.bool false) fun v8 =>
 kN r0 <|
 kV v8 <|
 kV v8 <|
 pE (g v 10) (iv 0) fun v9 =>
 kV v8 <|
 pK v8 v9 (.bool false) fun v10 =>
 kN r0 <|
 kV v10 <|
 kV v10 <|
 pZ (g v 12) fun v11 =>
 kV v10 <|
 pE v11 (iv 0) fun v12 =>
 kV v10 <|
 pK v10 v12 (.bool false) fun v13 =>
 kN r0 <|
 pE (g v 1) (iv 1) fun v14 =>
 .br v14 (
 kN r0 <|
 pH (g v 7) (iv 0) fun v15 =>
 kN r0 <|
 kV v15 <|
 kV v15 <|
 pM (g v 7) (iv 3) fun v16 =>
 kV v15 <|
 pK v15 v16 (.bool false) fun v17 =>
 kN r0 <|
 kV v17 <|
 kV v17 <|
 pZ (g v 11) fun v18 =>
 kV v17 <|
 pE v18 (iv 0) fun v19 =>
 kV v17 <|
 pK v17 v19 (.bool false) fun v20 =>
 kV v20 <|
 pK v20 v13 (.bool false) fun v21 =>
 kN r0 <|
 kV v21 <|
 kV v21 <|
 kV v21 <|
 .raw [(v21,true)] (.eqv .eql 62 false) [ag (G5 v 2),.agg #[iv 0,iv 0,iv 0,iv 0,iv 0]] fun v22 =>
 kV v21 <|
 pK v21 v22 (.bool false) fun v23 =>
 .ret v23 []) (
 pE (g v 1) (iv 2) fun v24 =>
 .br v24 (
 kN r0 <|
 pN (g v 7) (iv 0) fun v25 =>
 .br v25 (
 .ret (.bool false) []) (
 kN r0 <|
 c1 62 [ag (G5 v 2)] fun l26 =>
 pO (g l26 0) fun v27 =>
 kN r0 <|
 kV v27 <|
 kV v27 <|
 pL (g v 8) (iv 0) fun v28 =>
 kV v27 <|
 pK v27 (.bool true) v28 fun v29 =>
 kN r0 <|
 kV v29 <|
 kV v29 <|
 pG (g v 8) (iv 20) fun v30 =>
 kV v29 <|
 pK v29 (.bool true) v30 fun v31 =>
 kN r0 <|
 kV v31 <|
 kV v31 <|
 pL (g v 9) (iv 1) fun v32 =>
 kV v31 <|
 pK v31 (.bool true) v32 fun v33 =>
 kN r0 <|
 kV v33 <|
 kV v33 <|
 pG (g v 9) (iv 20) fun v34 =>
 kV v33 <|
 pK v33 (.bool true) v34 fun v35 =>
 kN r0 <|
 kV v35 <|
 kV v35 <|
 pL (g v 10) (iv 0) fun v36 =>
 kV v35 <|
 pK v35 (.bool true) v36 fun v37 =>
 kN r0 <|
 kV v37 <|
 kV v37 <|
 pG (g v 10) (iv 15) fun v38 =>
 kV v37 <|
 pK v37 (.bool true) v38 fun v39 =>
 .br v39 (
 .ret (.bool false) []) (
 kN r0 <|
 c1 63 [g v 11] fun l40 =>
 pO (g l40 0) fun v41 =>
 kN r0 <|
 kV v41 <|
 kV v41 <|
 pZ (g v 12) fun v42 =>
 kV v41 <|
 pG v42 (iv 2) fun v43 =>
 kV v41 <|
 pK v41 (.bool true) v43 fun v44 =>
 .br v44 (
 .ret (.bool false) []) (
 .loop 94 11 [iv 0] fun C94 l45 =>
 kN r0 <|
 pZ (g v 12) fun v46 =>
 pL (g l45 0) v46 fun v47 =>
 .br v47 (
 kN r0 <|
 pI 2 (g v 12) (g l45 0) fun v48 =>
 .load [] v48 2 fun l49 =>
 c1 64 [.agg #[g l49 0,g l49 1]] fun l50 =>
 pO (g l50 0) fun v51 =>
 kV v51 <|
 pE (g l45 0) (iv 1) fun v52 =>
 kV v51 <|
 kN r0 <|
 kV v52 <|
 kV v51 <|
 kV v52 <|
 kV v51 <|
 .pure [(v52,true),(v51,false)] (.idx 2) [g v 12,iv 0] fun v53 =>
 .chk (.ptr [(v52,true),(v51,false)] v53) <|
 kV v52 <|
 kV v51 <|
 kV v52 <|
 kV v51 <|
 .load [(v52,true),(v51,false)] v53 1 fun l54 =>
 kN r0 <|
 kV v52 <|
 kV v51 <|
 kV v52 <|
 kV v51 <|
 .pure [(v52,true),(v51,false)] (.idx 2) [g v 12,iv 1] fun v55 =>
 .chk (.ptr [(v52,true),(v51,false)] v55) <|
 kV v52 <|
 kV v51 <|
 kV v52 <|
 kV v51 <|
 .load [(v52,true),(v51,false)] v55 1 fun l56 =>
 kV v52 <|
 kV v51 <|
 kV v52 <|
 kV v51 <|
 pE (g l54 0) (g l56 0) fun v57 =>
 kV v51 <|
 kV v52 <|
 kV v51 <|
 pK v52 v57 (.bool false) fun v58 =>
 kV v51 <|
 pK v51 (.bool true) v58 fun v59 =>
 .br v59 (
 .ret (.bool false) []) (
 pA (g l45 0) (iv 1) fun v60 =>
 .cont 94 C94 [v60] (Es [[pt r0 0],((pt r0 0)::G14 v 0)]))) (
 .ret (.bool true) []))))) (
 pE (g v 1) (iv 3) fun v61 =>
 .br v61 (
 bH v61 45 r0 v v13) (
 pE (g v 1) (iv 4) fun v80 =>
 bH v80 47 r0 v v13))))
theorem jI : ck fA Tryz.f42 fj := cm Tryz.func42 [] [(19, .inv [5] [1, 3] [(1, [])]), (11, .inv [4] [1] [(1, [])])] [] fun _ => by kernel_rfl
abbrev gz : FuncId := 43
def gu (v : List Value) : Tree :=
 .loop 3 2 [iv 0] fun C3 l0 =>
 pZ (g v 0) fun v1 =>
 pL (g l0 0) v1 fun v2 =>
 .br v2 (
 pI 14 (g v 0) (g l0 0) fun v3 =>
 kP v3 <|
 .load [] v3 1 fun l4 =>
 .pure [] (.bin .eql .str) [g l4 0,g v 1] fun v5 =>
 .br v5 (
 .ret (.tuple #[g l0 0,.bool true]) []) (
 pA (g l0 0) (iv 1) fun v6 =>
 .cont 3 C3 [v6] (Es [[g v 0],[g v 1]]))) (
 .ret (.tuple #[iv 0,.bool false]) [])
theorem jZ : ck gz Tryz.f43 gu := cm Tryz.func43 [] [(2, .inv [6] [0, 1] [])] [] fun _ => by kernel_rfl
abbrev kE : FuncId := 44
def lm (a : Value) (b : Nat) (c : List Value) : Tree :=
 .br a (
 kN b <|
 pE (g c 7) (iv 0) fun v25 =>
 kN b <|
 kV v25 <|
 kV v25 <|
 pZ (g c 11) fun v26 =>
 kV v25 <|
 pG v26 (iv 0) fun v27 =>
 kV v25 <|
 pK v25 v27 (.bool false) fun v28 =>
 .br v28 (
 kN b <|
 c1 72 [g c 11,.func (.func 73) #[] #[]] fun l29 =>
 pO (g l29 0) fun v30 =>
 .br v30 (
 kN b <|
 c1 70 [ag (G14 c 0)] fun l31 =>
 .ret (g l31 0) []) (
 .ret (.bool false) [])) (
 .ret (.bool false) [])) (
 .ret (.bool false) [])
def nW (v : List Value) : Tree :=
 .newbox fun r0 =>
 kN r0 <|
 c1 65 [g v 0] fun l0 =>
 pO (g l0 0) fun v1 =>
 .br v1 (
 .ret (.bool false) []) (
 kN r0 <|
 c1 66 [g v 13,iv 1,iv 4] fun l2 =>
 pO (g l2 0) fun v3 =>
 .br v3 (
 .ret (.bool false) []) (
 kN r0 <|
 c1 67 [ag (G5 v 2)] fun l4 =>
 pO (g l4 0) fun v5 =>
 .br v5 (
 .ret (.bool false) []) (
 kN r0 <|
 c1 68 [g v 11] fun l6 =>
 pO (g l6 0) fun v7 =>
 .br v7 (
 .ret (.bool false) []) (
 kN r0 <|
 pE (g v 1) (iv 1) fun v8 =>
 .br v8 (
 kN r0 <|
 c1 66 [g v 7,iv 0,iv 3] fun l9 =>
 .br (g l9 0) (
 kN r0 <|
 c1 69 [ag (G5 v 2)] fun l10 =>
 pE (g l10 0) (iv 0) fun v11 =>
 kN r0 <|
 kV v11 <|
 kV v11 <|
 pZ (g v 11) fun v12 =>
 kV v11 <|
 pE v12 (iv 0) fun v13 =>
 kV v11 <|
 pK v11 v13 (.bool false) fun v14 =>
 .br v14 (
 kN r0 <|
 c1 70 [ag (G14 v 0)] fun l15 =>
 .ret (g l15 0) []) (
 .ret (.bool false) [])) (
 .ret (.bool false) [])) (
 pE (g v 1) (iv 2) fun v16 =>
 .br v16 (
 kN r0 <|
 pE (g v 7) (iv 0) fun v17 =>
 .br v17 (
 kN r0 <|
 c1 66 [g v 8,iv 0,iv 20] fun l18 =>
 .br (g l18 0) (
 kN r0 <|
 c1 66 [g v 9,iv 1,iv 20] fun l19 =>
 kN r0 <|
 kV (g l19 0) <|
 kV (g l19 0) <|
 .pure [] (.bin .andNot .int) [g v 10,iv 15] fun v20 =>
 kV (g l19 0) <|
 pE v20 (iv 0) fun v21 =>
 kV (g l19 0) <|
 pK (g l19 0) v21 (.bool false) fun v22 =>
 .br v22 (
 kN r0 <|
 c1 71 [g v 12] fun l23 =>
 .ret (g l23 0) []) (
 .ret (.bool false) [])) (
 .ret (.bool false) [])) (
 .ret (.bool false) [])) (
 pE (g v 1) (iv 3) fun v24 =>
 .br v24 (
 lm v24 r0 v) (
 pE (g v 1) (iv 4) fun v32 =>
 lm v32 r0 v)))))))
theorem qD : ck kE Tryz.f44 nW := cm Tryz.func44 [] [] [] fun _ => by kernel_rfl
abbrev lO : FuncId := 45
def qk (v : List Value) : Tree :=
 .newbox fun r0 =>
 .newbox fun r1 =>
 kN r0 <|
 kN r0 <|
 c1 74 [g v 11] fun l0 =>
 c1 75 [g v 12] fun l1 =>
 kN r0 <|
 kN r0 <|
 kN r0 <|
 pZ (g l1 0) fun v2 =>
 .loop 16 3 [iv 0] fun C16 l3 =>
 pL (g l3 0) v2 fun v4 =>
 .br v4 (
 pI 2 (g l1 0) (g l3 0) fun v5 =>
 .load [] v5 2 fun l6 =>
 .newbox fun r2 =>
 kN r2 <|
 kN r0 <|
 kN r2 <|
 c1 74 [g l6 1] fun l7 =>
 pI 2 (g l1 0) (g l3 0) fun v8 =>
 kP v8 <|
 kP (bR v8 1) <|
 .store (bR v8 1) [g l7 0] <|
 pA (g l3 0) (iv 1) fun v9 =>
 .cont 16 C16 [v9] (Es [[pt r0 0],[pt r1 0],[g l1 0],[v2],((pt r0 0)::(G11 v 0 ++ [g l0 0,g l1 0,g v 13])),[pt r1 0,.string ⟨#[]⟩,iv 0,iv 0,iv 0,iv 0,iv 0,iv 0,iv 0,iv 0,iv 0,iv 0,.slice none 0 0,.slice none 0 0,iv 0]])) (
 kN r0 <|
 kN r1 <|
 kN r1 <|
 .ret (ag (G11 v 0 ++ [g l0 0,g l1 0,g v 13])) [])
theorem rE : ck lO Tryz.f45 qk := cm Tryz.func45 [] [(3, .inv [16] [1, 2, 14, 15] [(1, []), (2, [])])] [] fun _ => by kernel_rfl
abbrev cM : FuncId := 46
def cK (v : List Value) : Tree :=
 c1 76 [g v 0,g v 1] fun l0 =>
 pH (g l0 0) (iv 0) fun v1 =>
 .ret v1 []
theorem eH : ck cM Tryz.f46 cK := cm Tryz.func46 [] [] [] fun _ => by kernel_rfl
abbrev qq : FuncId := 47
def qj (v : List Value) : Tree :=
 pL (g v 0) (iv 0) fun v0 =>
 .ret v0 []
theorem rD : ck qq Tryz.f47 qj := cm Tryz.func47 [] [] [] fun _ => by kernel_rfl
abbrev kz : FuncId := 50
def ku (v : List Value) : Tree :=
 .newbox fun r0 =>
 .ret (.func (.func 80) #[] #[pt r0 0]) [⟨r0,9,[g v 0]⟩]
theorem mR : ck kz Tryz.f50 ku := cm Tryz.func50 [] [] [] fun _ => by kernel_rfl
abbrev qn : FuncId := 51
def qg (v : List Value) : Tree :=
 .newbox fun r0 =>
 cS 82 [g v 1,.string ⟨#[10]⟩] (.tup [none,none]) fun l0 =>
 cS 83 [g l0 0,.string ⟨#[32]⟩] (.tup [none,none,none]) fun l1 =>
 cS 84 [g l1 0] (.tup [none,none]) fun l2 =>
 pO (g l0 1) fun v3 =>
 kV v3 <|
 pO (g l1 2) fun v4 =>
 kV v3 <|
 pK v3 (.bool true) v4 fun v5 =>
 kV v5 <|
 .pure [] (.bin .eql .str) [g l1 1,.string ⟨#[]⟩] fun v6 =>
 kV v5 <|
 pK v5 (.bool true) v6 fun v7 =>
 kV v7 <|
 .raw [(v7,false)] (.eqv .neq 96 true) [g l2 1,.nilIface] fun v8 =>
 kV v7 <|
 pK v7 (.bool true) v8 fun v9 =>
 .br v9 (
 kN r0 <|
 kN r0 <|
 .ret (.tuple #[.agg #[iv 0,iv 0],iv 6]) []) (
 c1 40 [g l2 0] fun l10 =>
 .pure [] (.bin .neq .str) [g l10 0,g l1 0] fun v11 =>
 kV v11 <|
 pL (g l2 0) (iv 1) fun v12 =>
 kV v11 <|
 pK v11 (.bool true) v12 fun v13 =>
 kV v13 <|
 pG (g l2 0) (iv 60) fun v14 =>
 kV v13 <|
 pK v13 (.bool true) v14 fun v15 =>
 .br v15 (
 kN r0 <|
 kN r0 <|
 .ret (.tuple #[.agg #[iv 0,iv 0],iv 6]) []) (
 cS 85 [g v 0,g l1 1] (.tup [none,none]) fun l16 =>
 kN r0 <|
 kN r0 <|
 .ret (.tuple #[.agg #[g l16 0,g l2 0],g l16 1]) []))
theorem rA : ck qn Tryz.f51 qg := cm Tryz.func51 [] [] [] fun _ => by kernel_rfl
abbrev aY : FuncId := 52
def aW (v : List Value) : Tree :=
 c1 86 [g v 0,g v 1] fun l0 =>
 pH (g l0 0) (iv 0) fun v1 =>
 .ret v1 []
theorem bV : ck aY Tryz.f52 aW := cm Tryz.func52 [] [] [] fun _ => by kernel_rfl
abbrev lq : FuncId := 53
def ll (v : List Value) : Tree :=
 .newbox fun r0 =>
 kN r0 <|
 kP (g v 2) <|
 .load [] (g v 2) 1 fun l0 =>
 pE (g v 0) (g l0 0) fun v1 =>
 .ret v1 []
theorem oq : ck lq Tryz.f53 ll := cm Tryz.func53 [] [] [] fun _ => by kernel_rfl
abbrev jC : FuncId := 58
def jx (v : List Value) : Tree :=
 .pure [] (.bin .eql .ptr) [g v 0,.pointer none] fun v0 =>
 .chk (.ptr [(v0,false)] (g v 0)) <|
 kV v0 <|
 .chk (.ptr [(v0,false)] (g v 0)) <|
 kV v0 <|
 kV v0 <|
 .load [(v0,false)] (bR (g v 0) 1) 1 fun l1 =>
 kV v0 <|
 .pure [] (.bin .eql .map) [g l1 0,.map none] fun v2 =>
 kV v0 <|
 pK v0 (.bool true) v2 fun v3 =>
 .ret v3 []
theorem lW : ck jC Tryz.f58 jx := cm Tryz.func58 [] [] [] fun _ => by kernel_rfl
abbrev fB : FuncId := 61
def fk (v : List Value) : Tree :=
 .pure [] .slen [g v 0] fun v0 =>
 pL v0 (iv 1) fun v1 =>
 kV v1 <|
 .pure [] .slen [g v 0] fun v2 =>
 kV v1 <|
 pG v2 (iv 32) fun v3 =>
 kV v1 <|
 pK v1 (.bool true) v3 fun v4 =>
 kV v4 <|
 .pure [(v4,false)] .sidx [g v 0,iv 0] fun v5 =>
 kV v4 <|
 pE v5 (.int .u8 32) fun v6 =>
 kV v4 <|
 pK v4 (.bool true) v6 fun v7 =>
 kV v7 <|
 .pure [] .slen [g v 0] fun v8 =>
 kV v7 <|
 pS v8 (iv 1) fun v9 =>
 kV v7 <|
 kV v7 <|
 .pure [(v7,false)] .sidx [g v 0,v9] fun v10 =>
 kV v7 <|
 pE v10 (.int .u8 32) fun v11 =>
 kV v7 <|
 pK v7 (.bool true) v11 fun v12 =>
 .br v12 (
 .ret (.bool false) []) (
 .loop 23 4 [iv 0] fun C23 l13 =>
 .pure [] .slen [g v 0] fun v14 =>
 pL (g l13 0) v14 fun v15 =>
 .br v15 (
 .pure [] .sidx [g v 0,g l13 0] fun v16 =>
 pL v16 (.int .u8 32) fun v17 =>
 kV v17 <|
 kV v17 <|
 .pure [(v17,false)] .sidx [g v 0,g l13 0] fun v18 =>
 kV v17 <|
 pG v18 (.int .u8 126) fun v19 =>
 kV v17 <|
 pK v17 (.bool true) v19 fun v20 =>
 .br v20 (
 .ret (.bool false) []) (
 pA (g l13 0) (iv 1) fun v21 =>
 .cont 23 C23 [v21] (Es [[g v 0]]))) (
 .ret (.bool true) []))
theorem jJ : ck fB Tryz.f61 fk := cm Tryz.func61 [] [(4, .inv [3] [0] [])] [] fun _ => by kernel_rfl
abbrev dU : FuncId := 62

abbrev hU : FuncId := 63
def hJ (v : List Value) : Tree :=
 .loop 2 2 [iv 0] fun C2 l0 =>
 pZ (g v 0) fun v1 =>
 pL (g l0 0) v1 fun v2 =>
 .br v2 (
 pI 5 (g v 0) (g l0 0) fun v3 =>
 .load [] v3 5 fun l4 =>
 c1 94 [ag (G5 l4 0)] fun l5 =>
 pO (g l5 0) fun v6 =>
 .br v6 (
 .ret (.bool false) []) (
 pA (g l0 0) (iv 1) fun v7 =>
 .cont 2 C2 [v7] (Es [[g v 0]]))) (
 pZ (g v 0) fun v8 =>
 pM v8 (iv 4) fun v9 =>
 .ret v9 [])
theorem kX : ck hU Tryz.f63 hJ := cm Tryz.func63 [] [(2, .inv [3] [0] [])] [] fun _ => by kernel_rfl
abbrev eC : FuncId := 64
def ew (v : List Value) : Tree :=
 .newbox fun r0 =>
 kN r0 <|
 pH (g v 0) (iv 1) fun v0 =>
 kN r0 <|
 kV v0 <|
 kV v0 <|
 pM (g v 0) (iv 3) fun v1 =>
 kV v0 <|
 pK v0 v1 (.bool false) fun v2 =>
 kN r0 <|
 kV v2 <|
 kV v2 <|
 pZ (g v 1) fun v3 =>
 kV v2 <|
 pE v3 (iv 1) fun v4 =>
 kV v2 <|
 kN r0 <|
 kV v4 <|
 kV v2 <|
 kV v4 <|
 kV v2 <|
 pZ (g v 1) fun v5 =>
 kV v4 <|
 kV v2 <|
 pE v5 (iv 2) fun v6 =>
 kV v2 <|
 kV v4 <|
 kV v2 <|
 pK v4 (.bool true) v6 fun v7 =>
 kV v2 <|
 pK v2 v7 (.bool false) fun v8 =>
 .br v8 (
 kN r0 <|
 c1 63 [g v 1] fun l9 =>
 .br (g l9 0) (
 kN r0 <|
 c1 95 [g v 1] fun l10 =>
 pE (g l10 0) (iv 0) fun v11 =>
 .ret v11 []) (
 .ret (.bool false) [])) (
 .ret (.bool false) [])
theorem ip : ck eC Tryz.f64 ew := cm Tryz.func64 [] [] [] fun _ => by kernel_rfl
abbrev oi : FuncId := 65
def nV (v : List Value) : Tree :=
 .pure [] .slen [g v 0] fun v0 =>
 c1 66 [v0,iv 1,iv 32] fun l1 =>
 pO (g l1 0) fun v2 =>
 .br v2 (
 .ret (.bool false) []) (
 c1 96 [g v 0,.string ⟨#[32]⟩] fun l3 =>
 .pure [] (.bin .neq .str) [g l3 0,g v 0] fun v4 =>
 .br v4 (
 .ret (.bool false) []) (
 .prim (.convert 9 92) [g v 0] [] [] .one fun l5 _ =>
 pZ (g l5 0) fun v6 =>
 .loop 15 4 [iv 0] fun C15 l7 =>
 pL (g l7 0) v6 fun v8 =>
 .br v8 (
 pI 1 (g l5 0) (g l7 0) fun v9 =>
 .load [] v9 1 fun l10 =>
 pL (g l10 0) (.int .u8 32) fun v11 =>
 kV v11 <|
 pG (g l10 0) (.int .u8 126) fun v12 =>
 kV v11 <|
 pK v11 (.bool true) v12 fun v13 =>
 .br v13 (
 .ret (.bool false) []) (
 pA (g l7 0) (iv 1) fun v14 =>
 .cont 15 C15 [v14] (Es [[g l5 0],[v6]]))) (
 .ret (.bool true) [])))
theorem qC : ck oi Tryz.f65 nV := cm Tryz.func65 [] [(4, .inv [18] [16, 17] [])] [] fun _ => by kernel_rfl
abbrev mK : FuncId := 66
def mG (v : List Value) : Tree :=
 pH (g v 0) (g v 1) fun v0 =>
 kV v0 <|
 kV v0 <|
 pM (g v 0) (g v 2) fun v1 =>
 kV v0 <|
 pK v0 v1 (.bool false) fun v2 =>
 .ret v2 []
theorem oN : ck mK Tryz.f66 mG := cm Tryz.func66 [] [] [] fun _ => by kernel_rfl
abbrev jF : FuncId := 67
def jA (v : List Value) : Tree :=
 .newbox fun r0 =>
 kN r0 <|
 c1 97 [ag (G4 v 0),iv 20] fun l0 =>
 kN r0 <|
 kV (g l0 0) <|
 kV (g l0 0) <|
 pH (g v 4) (iv 0) fun v1 =>
 kV (g l0 0) <|
 pK (g l0 0) v1 (.bool false) fun v2 =>
 kN r0 <|
 kV v2 <|
 kV v2 <|
 pM (g v 4) (iv 20) fun v3 =>
 kV v2 <|
 pK v2 v3 (.bool false) fun v4 =>
 .ret v4 []
theorem lZ : ck jF Tryz.f67 jA := cm Tryz.func67 [] [] [] fun _ => by kernel_rfl
abbrev nZ : FuncId := 68
def nO (v : List Value) : Tree :=
 pZ (g v 0) fun v0 =>
 pM v0 (iv 4) fun v1 =>
 .br v1 (
 c1 72 [g v 0,.func (.func 98) #[] #[]] fun l2 =>
 pO (g l2 0) fun v3 =>
 .ret v3 []) (
 .ret (.bool false) [])
theorem qu : ck nZ Tryz.f68 nO := cm Tryz.func68 [] [] [] fun _ => by kernel_rfl
abbrev nY : FuncId := 69
def nN (v : List Value) : Tree :=
 .newbox fun r0 =>
 kN r0 <|
 c1 67 [ag (G5 v 0)] fun l0 =>
 pO (g l0 0) fun v1 =>
 .br v1 (
 .ret (iv 0) []) (
 kN r0 <|
 kN r0 <|
 c1 100 [ag (G4 v 0)] fun l2 =>
 pA (g l2 0) (g v 4) fun v3 =>
 .ret v3 [])
theorem qt : ck nY Tryz.f69 nN := cm Tryz.func69 [] [] [] fun _ => by kernel_rfl
abbrev og : FuncId := 70
def nT (v : List Value) : Tree :=
 .newbox fun r0 =>
 kN r0 <|
 pE (g v 8) (iv 0) fun v0 =>
 kN r0 <|
 kV v0 <|
 kV v0 <|
 pE (g v 9) (iv 0) fun v1 =>
 kV v0 <|
 pK v0 v1 (.bool false) fun v2 =>
 kN r0 <|
 kV v2 <|
 kV v2 <|
 pE (g v 10) (iv 0) fun v3 =>
 kV v2 <|
 pK v2 v3 (.bool false) fun v4 =>
 kN r0 <|
 kV v4 <|
 kV v4 <|
 pZ (g v 12) fun v5 =>
 kV v4 <|
 pE v5 (iv 0) fun v6 =>
 kV v4 <|
 pK v4 v6 (.bool false) fun v7 =>
 .ret v7 []
theorem qA : ck og Tryz.f70 nT := cm Tryz.func70 [] [] [] fun _ => by kernel_rfl
abbrev kD : FuncId := 71
def ky (v : List Value) : Tree :=
 pZ (g v 0) fun v0 =>
 .loop 4 2 [iv 0] fun C4 l1 =>
 pL (g l1 0) v0 fun v2 =>
 .br v2 (
 pI 2 (g v 0) (g l1 0) fun v3 =>
 .load [] v3 2 fun l4 =>
 .newbox fun r0 =>
 kN r0 <|
 kN r0 <|
 c1 66 [g l4 0,iv 1,iv 3] fun l5 =>
 pO (g l5 0) fun v6 =>
 .br v6 (
 .ret (.bool false) []) (
 kN r0 <|
 pZ (g l4 1) fun v7 =>
 c1 66 [v7,iv 1,iv 2] fun l8 =>
 pO (g l8 0) fun v9 =>
 .br v9 (
 .ret (.bool false) []) (
 kN r0 <|
 c1 68 [g l4 1] fun l10 =>
 pO (g l10 0) fun v11 =>
 .br v11 (
 .ret (.bool false) []) (
 kN r0 <|
 c1 101 [g l4 1] fun l12 =>
 pO (g l12 0) fun v13 =>
 .br v13 (
 .ret (.bool false) []) (
 .pure [] (.slc 2 false true false) [g v 0,g l1 0] fun v14 =>
 .call false 102 [v14,.func (.func 103) #[] #[pt r0 0]] [] [⟨r0,71,[g l4 0,g l4 1]⟩] .one fun l15 c15 =>
 .br (g l15 0) (
 .ret (.bool false) []) (
 pA (g l1 0) (iv 1) fun v16 =>
 .cont 4 C4 [v16] (Es [[g v 0],[g v 0],[v0]]))))))) (
 pZ (g v 0) fun v17 =>
 pM v17 (iv 2) fun v18 =>
 .ret v18 [])
theorem mT : ck kD Tryz.f71 ky := cm Tryz.func71 [] [(2, .inv [7] [0, 5, 6] [])] [] fun _ => by kernel_rfl
abbrev aX : FuncId := 72
def aV (v : List Value) : Tree :=
 c1 104 [g v 0,g v 1] fun l0 =>
 pH (g l0 0) (iv 0) fun v1 =>
 .ret v1 []
theorem bU : ck aX Tryz.f72 aV := cm Tryz.func72 [] [] [] fun _ => by kernel_rfl
abbrev mL : FuncId := 73
def mH (v : List Value) : Tree :=
 .newbox fun r0 =>
 kN r0 <|
 pE (g v 1) (iv 0) fun v0 =>
 kN r0 <|
 kV v0 <|
 kV v0 <|
 pE (g v 0) (iv 8) fun v1 =>
 kV v0 <|
 kN r0 <|
 kV v1 <|
 kV v0 <|
 kV v1 <|
 kV v0 <|
 pE (g v 0) (iv 9) fun v2 =>
 kV v0 <|
 kV v1 <|
 kV v0 <|
 pK v1 (.bool true) v2 fun v3 =>
 kV v0 <|
 pK v0 v3 (.bool false) fun v4 =>
 .ret v4 []
theorem oO : ck mL Tryz.f73 mH := cm Tryz.func73 [] [] [] fun _ => by kernel_rfl
abbrev bC : FuncId := 74
def bB (v : List Value) : Tree :=
 .pure [] (.bin .eql .slice) [g v 0,.slice none 0 0] fun v0 =>
 .br v0 (
 .ret (.slice none 0 0) []) (
 .newbox fun r0 =>
 .prim (.bi .append #[65,65] 65) [.slice (some ⟨r0,0,none⟩) 0 0,g v 0] [⟨r0,110,[]⟩] [] .one fun l1 _ =>
 .ret (g l1 0) [])
theorem dj : ck bC Tryz.f74 bB := cm Tryz.func74 [] [] [] fun _ => by kernel_rfl
abbrev bu : FuncId := 75
def bo (v : List Value) : Tree :=
 .pure [] (.bin .eql .slice) [g v 0,.slice none 0 0] fun v0 =>
 .br v0 (
 .ret (.slice none 0 0) []) (
 .newbox fun r0 =>
 .prim (.bi .append #[66,66] 66) [.slice (some ⟨r0,0,none⟩) 0 0,g v 0] [⟨r0,71,[]⟩] [] .one fun l1 _ =>
 .ret (g l1 0) [])
theorem cT : ck bu Tryz.f75 bo := cm Tryz.func75 [] [] [] fun _ => by kernel_rfl
abbrev dn : FuncId := 76
def dm (v : List Value) : Tree :=
 pZ (g v 0) fun v0 =>
 .loop 4 2 [iv 0] fun C4 l1 =>
 pL (g l1 0) v0 fun v2 =>
 .br v2 (
 pI 1 (g v 0) (g l1 0) fun v3 =>
 .load [] v3 1 fun l4 =>
 .callv false (g v 1) [g l4 0] [] [] .one fun l5 _ =>
 .br (g l5 0) (
 .ret (g l1 0) []) (
 pA (g l1 0) (iv 1) fun v6 =>
 .cont 4 C4 [v6] (Es [[g v 0],[g v 1],[v0]]))) (
 .ret (iv (-1)) [])
theorem fG : ck dn Tryz.f76 dm := cm Tryz.func76 [] [(2, .inv [8] [0, 1, 7] [])] [] fun _ => by kernel_rfl
abbrev jD : FuncId := 85
def jy (v : List Value) : Tree :=
 c1 58 [g v 0] fun l0 =>
 .br (g l0 0) (
 .ret (.tuple #[iv 0,iv 1]) []) (
 kP (g v 0) <|
 kP (g v 0) <|
 .load [] (bR (g v 0) 1) 1 fun l1 =>
 .prim (.lookup 103 true) [g l1 0,g v 1] [] [] (.tup [none,none]) fun l2 _ =>
 pO (g l2 1) fun v3 =>
 .br v3 (
 .ret (.tuple #[iv 0,iv 9]) []) (
 .ret (.tuple #[g l2 0,iv 0]) []))
theorem lX : ck jD Tryz.f85 jy := cm Tryz.func85 [] [] [] fun _ => by kernel_rfl
abbrev bh : FuncId := 86
def be (v : List Value) : Tree :=
 pZ (g v 0) fun v0 =>
 .loop 4 2 [iv 0] fun C4 l1 =>
 pL (g l1 0) v0 fun v2 =>
 .br v2 (
 pI 2 (g v 0) (g l1 0) fun v3 =>
 .load [] v3 2 fun l4 =>
 .callv false (g v 1) [.agg #[g l4 0,g l4 1]] [] [] .one fun l5 _ =>
 .br (g l5 0) (
 .ret (g l1 0) []) (
 pA (g l1 0) (iv 1) fun v6 =>
 .cont 4 C4 [v6] (Es [[g v 0],[g v 1],[v0]]))) (
 .ret (iv (-1)) [])
theorem cE : ck bh Tryz.f86 be := cm Tryz.func86 [] [(2, .inv [8] [0, 1, 7] [])] [] fun _ => by kernel_rfl
abbrev fC : FuncId := 94
def fm (v : List Value) : Tree :=
 .newbox fun r0 =>
 kN r0 <|
 kN r0 <|
 c1 127 [g v 0] fun l0 =>
 c1 128 [g v 1] fun l1 =>
 c1 126 [g l0 0,g l1 0] fun l2 =>
 .br (g l2 0) (
 kN r0 <|
 c1 129 [ag (G5 v 0)] fun l3 =>
 .ret (g l3 0) []) (
 .ret (.bool false) [])
theorem jK : ck fC Tryz.f94 fm := cm Tryz.func94 [] [] [] fun _ => by kernel_rfl
abbrev eD : FuncId := 95
def ez (v : List Value) : Tree :=
 .loop 3 3 [iv 0,iv 0] fun C3 l0 =>
 pZ (g v 0) fun v1 =>
 pL (g l0 1) v1 fun v2 =>
 .br v2 (
 pI 5 (g v 0) (g l0 1) fun v3 =>
 kP v3 <|
 .load [] (bR v3 1) 1 fun l4 =>
 pN (g l4 0) (iv 0) fun v5 =>
 .br v5 (
 pA (g l0 0) (iv 1) fun v6 =>
 pA (g l0 1) (iv 1) fun v7 =>
 .cont 3 C3 [v6,v7] (Es [[g v 0]])) (
 pA (g l0 1) (iv 1) fun v8 =>
 .cont 3 C3 [g l0 0,v8] (Es [[g v 0]]))) (
 .ret (g l0 0) [])
theorem iq : ck eD Tryz.f95 ez := cm Tryz.func95 [] [(3, .inv [3, 4] [0] [])] [] fun _ => by kernel_rfl
abbrev mJ : FuncId := 97
def mF (v : List Value) : Tree :=
 .newbox fun r0 =>
 kN r0 <|
 .loop 4 2 [iv 0] fun C4 l0 =>
 pL (g l0 0) (iv 4) fun v1 =>
 .br v1 (
 .pure [] .aidx ((g l0 0)::G4 v 0) fun v2 =>
 pL v2 (iv 0) fun v3 =>
 kV v3 <|
 kV v3 <|
 pG v2 (g v 4) fun v4 =>
 kV v3 <|
 pK v3 (.bool true) v4 fun v5 =>
 .br v5 (
 .ret (.bool false) []) (
 pA (g l0 0) (iv 1) fun v6 =>
 .cont 4 C4 [v6] (Es [[g v 4],G4 v 0]))) (
 .ret (.bool true) [])
theorem oK : ck mJ Tryz.f97 mF := cm Tryz.func97 [] [(2, .inv [8] [1, 7] [])] [] fun _ => by kernel_rfl
abbrev lp : FuncId := 98
def lk (v : List Value) : Tree :=
 .newbox fun r0 =>
 kN r0 <|
 c1 99 [ag (G5 v 0)] fun l0 =>
 pO (g l0 0) fun v1 =>
 .ret v1 []
theorem oo : ck lp Tryz.f98 lk := cm Tryz.func98 [] [] [] fun _ => by kernel_rfl
abbrev ln : FuncId := 99
def lj (v : List Value) : Tree :=
 .newbox fun r0 =>
 kN r0 <|
 c1 137 [g v 0] fun l0 =>
 .raw [] (.eqv .neq 195 true) [g l0 0,.nilIface] fun v1 =>
 .br v1 (
 kN r0 <|
 .callm false "zeitnot/effect.fits" (g l0 0) [ag (G5 v 0)] [] [] .one fun l2 _ =>
 .ret (g l2 0) []) (
 .ret (.bool false) [])
theorem om : ck ln Tryz.f99 lj := cm Tryz.func99 [] [] [] fun _ => by kernel_rfl
abbrev ri : FuncId := 100
def rf (v : List Value) : Tree :=
 .newbox fun r0 =>
 kN r0 <|
 .loop 5 3 [iv 0,iv 0] fun C5 l0 =>
 pL (g l0 1) (iv 4) fun v1 =>
 .br v1 (
 .pure [] .aidx ((g l0 1)::G4 v 0) fun v2 =>
 pA (g l0 0) v2 fun v3 =>
 pA (g l0 1) (iv 1) fun v4 =>
 .cont 5 C5 [v3,v4] (Es [G4 v 0])) (
 .ret (g l0 0) [])
theorem sS : ck ri Tryz.f100 rf := cm Tryz.func100 [] [(3, .inv [3, 7] [6] [])] [] fun _ => by kernel_rfl
abbrev oh : FuncId := 101
def nU (v : List Value) : Tree :=
 c1 138 [g v 0] fun l0 =>
 pE (g l0 0) (iv 0) fun v1 =>
 .ret v1 []
theorem qB : ck oh Tryz.f101 nU := cm Tryz.func101 [] [] [] fun _ => by kernel_rfl
abbrev aN : FuncId := 102
def aM (v : List Value) : Tree :=
 c1 139 [g v 0,g v 1] fun l0 =>
 pH (g l0 0) (iv 0) fun v1 =>
 .ret v1 []
theorem bL : ck aN Tryz.f102 aM := cm Tryz.func102 [] [] [] fun _ => by kernel_rfl
abbrev bD : FuncId := 103
def iN (v : List Value) : Tree :=
 .newbox fun r0 =>
 kN r0 <|
 kP (g v 2) <|
 .load [] (g v 2) 1 fun l0 =>
 pE (g v 0) (g l0 0) fun v1 =>
 .ret v1 []
theorem lx : ck bD Tryz.f103 iN := cm Tryz.func103 [] [] [] fun _ => by kernel_rfl
abbrev bg : FuncId := 104
def bc (v : List Value) : Tree :=
 pZ (g v 0) fun v0 =>
 .loop 4 2 [iv 0] fun C4 l1 =>
 pL (g l1 0) v0 fun v2 =>
 .br v2 (
 pI 5 (g v 0) (g l1 0) fun v3 =>
 .load [] v3 5 fun l4 =>
 .callv false (g v 1) [ag (G5 l4 0)] [] [] .one fun l5 _ =>
 .br (g l5 0) (
 .ret (g l1 0) []) (
 pA (g l1 0) (iv 1) fun v6 =>
 .cont 4 C4 [v6] (Es [[g v 0],[g v 1],[v0]]))) (
 .ret (iv (-1)) [])
theorem cD : ck bg Tryz.f104 bc := cm Tryz.func104 [] [(2, .inv [8] [0, 1, 7] [])] [] fun _ => by kernel_rfl
abbrev hP : FuncId := 126
def hE (v : List Value) : Tree :=
 .loop 2 2 [iv 0] fun C2 l0 =>
 .pure [] .slen [g v 0] fun v1 =>
 pL (g l0 0) v1 fun v2 =>
 .br v2 (
 .pure [] .sidx [g v 0,g l0 0] fun v3 =>
 pE v3 (g v 1) fun v4 =>
 .br v4 (
 .ret (.bool true) []) (
 pA (g l0 0) (iv 1) fun v5 =>
 .cont 2 C2 [v5] (Es [[g v 0],[g v 1]]))) (
 .ret (.bool false) [])
theorem kW : ck hP Tryz.f126 hE := cm Tryz.func126 [] [(2, .inv [5] [0, 1] [])] [] fun _ => by kernel_rfl
abbrev jQ : FuncId := 127
abbrev eV : FuncId := 128
def eQ (v : List Value) : Tree :=
 pL (g v 0) (iv 0) fun v0 =>
 kV v0 <|
 pG (g v 0) (iv 6) fun v1 =>
 kV v0 <|
 pK v0 (.bool true) v1 fun v2 =>
 .br v2 (
 .ret (.int .u8 63) []) (
 .pure [] .sidx [.string ⟨#[110,99,111,120,112,101,115]⟩,g v 0] fun v3 =>
 .ret v3 [])
theorem iT : ck eV Tryz.f128 eQ := cm Tryz.func128 [] [] [] fun _ => by kernel_rfl
abbrev eE : FuncId := 129
def bq (a b : Value) (c : List Value) : Tree :=
 kV a <|
 pK a b (.bool false) fun v5 =>
 kV v5 <|
 pE (g c 4) (iv 0) fun v6 =>
 kV v5 <|
 pK v5 v6 (.bool false) fun v7 =>
 .ret v7 []
def cd (a : List Value) (b : Int) : Tree :=
 pH (g a 2) (iv 1) fun v1 =>
 kV v1 <|
 pM (g a 2) (iv b) fun v2 =>
 kV v1 <|
 pK v1 v2 (.bool false) fun v3 =>
 kV v3 <|
 pE (g a 3) (iv 0) fun v4 =>
 bq v3 v4 a
def ce (a : Value) (b : List Value) : Tree :=
 .br a (
 cd b 99) (
 pE (g b 0) (iv 2) fun v8 =>
 .br v8 (
 cd b 7) (
 pE (g b 0) (iv 8) fun v16 =>
 .br v16 (
 pH (g b 2) (iv 0) fun v17 =>
 kV v17 <|
 pM (g b 2) (iv 9) fun v18 =>
 kV v17 <|
 pK v17 v18 (.bool false) fun v19 =>
 kV v19 <|
 pH (g b 3) (iv 0) fun v20 =>
 kV v19 <|
 pK v19 v20 (.bool false) fun v21 =>
 kV v21 <|
 pM (g b 3) (iv 9) fun v22 =>
 kV v21 <|
 pK v21 v22 (.bool false) fun v23 =>
 kV v23 <|
 kV v23 <|
 pA (g b 2) (g b 3) fun v24 =>
 kV v23 <|
 pG v24 (iv 0) fun v25 =>
 bq v23 v25 b) (
 pE (g b 0) (iv 9) fun v29 =>
 .br v29 (
 cd b 9) (
 pE (g b 0) (iv 10) fun v37 =>
 .br v37 (
 pH (g b 2) (iv 0) fun v38 =>
 kV v38 <|
 pM (g b 2) (iv 9) fun v39 =>
 kV v38 <|
 pK v38 v39 (.bool false) fun v40 =>
 kV v40 <|
 pH (g b 3) (iv 1) fun v41 =>
 kV v40 <|
 pK v40 v41 (.bool false) fun v42 =>
 kV v42 <|
 pM (g b 3) (iv 9) fun v43 =>
 bq v42 v43 b) (
 pE (g b 0) (iv 12) fun v47 =>
 .br v47 (
 pH (g b 2) (iv 1) fun v48 =>
 kV v48 <|
 pM (g b 2) (iv 9) fun v49 =>
 kV v48 <|
 pK v48 v49 (.bool false) fun v50 =>
 kV v50 <|
 pE (g b 3) (iv 0) fun v51 =>
 kV v50 <|
 pK v50 v51 (.bool false) fun v52 =>
 kV v52 <|
 pH (g b 4) (iv 0) fun v53 =>
 kV v52 <|
 pK v52 v53 (.bool false) fun v54 =>
 kV v54 <|
 pM (g b 4) (iv 3) fun v55 =>
 kV v54 <|
 pK v54 v55 (.bool false) fun v56 =>
 .ret v56 []) (
 pE (g b 2) (iv 0) fun v57 =>
 kV v57 <|
 pE (g b 3) (iv 0) fun v58 =>
 bq v57 v58 b))))))
def eA (v : List Value) : Tree :=
 .newbox fun r0 =>
 kN r0 <|
 kN r0 <|
 kN r0 <|
 kN r0 <|
 pE (g v 0) (iv 1) fun v0 =>
 .br v0 (
 ce v0 v) (
 pE (g v 0) (iv 3) fun v62 =>
 .br v62 (
 ce v62 v) (
 pE (g v 0) (iv 4) fun v124 =>
 ce v124 v))
theorem ir : ck eE Tryz.f129 eA := cm Tryz.func129 [] [] [] fun _ => by kernel_rfl
abbrev qm : FuncId := 137
def ei (a : Value) (b : Nat) (c : List Value) (d : Nat) : Tree :=
 .br a (
 .prim (.mkIface 228 false) [.slice (some ⟨b,0,none⟩) 3 3] [⟨b,108,[iv 1,iv 2,iv 3]⟩] [] .one fun l8 _ =>
 .ret (g l8 0) []) (
 pE (g c 0) (iv 7) fun v9 =>
 .br v9 (
 .newbox fun r4 =>
 .prim (.mkIface 228 false) [.slice (some ⟨r4,0,none⟩) 1 1] [⟨r4,108,[iv 6]⟩] [] .one fun l10 _ =>
 .ret (g l10 0) []) (
 pE (g c 0) (iv 8) fun v11 =>
 .br v11 (
 .call false 170 [.slice (some ⟨b,0,none⟩) 3 3] [⟨b,108,[iv 1,iv 2,iv 3]⟩] [] .one fun l12 _ =>
 .newbox fun r5 =>
 .prim (.bi .append #[228,228] 228) [g l12 0,.slice (some ⟨r5,0,none⟩) 1 1] [⟨r5,108,[iv 0]⟩] [] .one fun l13 _ =>
 .ret (.iface 233 (.agg #[g l13 0,iv 0])) []) (
 pE (g c 0) (iv 9) fun v14 =>
 .br v14 (
 .call false 170 [.slice (some ⟨b,0,none⟩) 3 3] [⟨b,108,[iv 1,iv 2,iv 3]⟩] [] .one fun l15 _ =>
 .newbox fun r6 =>
 .prim (.bi .append #[228,228] 228) [g l15 0,.slice (some ⟨r6,0,none⟩) 1 1] [⟨r6,108,[iv 0]⟩] [] .one fun l16 _ =>
 .ret (.iface 231 (.agg #[g l16 0,iv 9])) []) (
 pE (g c 0) (iv 10) fun v17 =>
 .br v17 (
 .prim (.mkIface 233 true) [.slice (some ⟨d,0,none⟩) 1 1,iv 1] [⟨d,108,[iv 0]⟩] [] .one fun l18 _ =>
 .ret (g l18 0) []) (
 pE (g c 0) (iv 12) fun v19 =>
 .br v19 (
 .prim (.mkIface 235 true) [.slice (some ⟨d,0,none⟩) 1 1,iv 9] [⟨d,108,[iv 0]⟩] [] .one fun l20 _ =>
 .ret (g l20 0) []) (
 .ret .nilIface []))))))
def fR (a : Value) (b : Nat) (c : List Value) (d e : Nat) : Tree :=
 .br a (
 .prim (.mkIface 231 true) [.slice (some ⟨b,0,none⟩) 2 2,iv 99] [⟨b,108,[iv 0,iv 4]⟩] [] .one fun l6 _ =>
 .ret (g l6 0) []) (
 pE (g c 0) (iv 5) fun v7 =>
 .br v7 (
 ei v7 d c e) (
 pE (g c 0) (iv 6) fun v21 =>
 .br v21 (
 ei v21 d c e) (
 pE (g c 0) (iv 11) fun v35 =>
 ei v35 d c e)))
def qf (v : List Value) : Tree :=
 .newbox fun r0 =>
 .newbox fun r1 =>
 .newbox fun r2 =>
 pE (g v 0) (iv 1) fun v0 =>
 .br v0 (
 .call false 170 [.slice (some ⟨r2,0,none⟩) 3 3] [⟨r2,108,[iv 1,iv 2,iv 3]⟩] [] .one fun l1 _ =>
 .newbox fun r3 =>
 .prim (.bi .append #[228,228] 228) [g l1 0,.slice (some ⟨r3,0,none⟩) 2 2] [⟨r3,108,[iv 4,iv 5]⟩] [] .one fun l2 _ =>
 .ret (.iface 231 (.agg #[g l2 0,iv 99])) []) (
 pE (g v 0) (iv 2) fun v3 =>
 .br v3 (
 .prim (.mkIface 231 true) [.slice (some ⟨r1,0,none⟩) 2 2,iv 7] [⟨r1,108,[iv 0,iv 4]⟩] [] .one fun l4 _ =>
 .ret (g l4 0) []) (
 pE (g v 0) (iv 3) fun v5 =>
 .br v5 (
 fR v5 r1 v r2 r0) (
 pE (g v 0) (iv 4) fun v49 =>
 fR v49 r1 v r2 r0)))
theorem rz : ck qm Tryz.f137 qf := cm Tryz.func137 [] [] [] fun _ => by kernel_rfl
abbrev jG : FuncId := 138
def jB (v : List Value) : Tree :=
 pZ (g v 0) fun v0 =>
 .loop 5 3 [iv 0,iv 0] fun C5 l1 =>
 pL (g l1 1) v0 fun v2 =>
 .br v2 (
 pI 5 (g v 0) (g l1 1) fun v3 =>
 .load [] v3 5 fun l4 =>
 .newbox fun r0 =>
 kN r0 <|
 kN r0 <|
 pN (g l4 1) (iv 0) fun v5 =>
 .br v5 (
 pA (g l1 0) (iv 1) fun v6 =>
 pA (g l1 1) (iv 1) fun v7 =>
 .cont 5 C5 [v6,v7] (Es [[g v 0],[v0]])) (
 pA (g l1 1) (iv 1) fun v8 =>
 .cont 5 C5 [g l1 0,v8] (Es [[g v 0],[v0]]))) (
 .ret (g l1 0) [])
theorem ma : ck jG Tryz.f138 jB := cm Tryz.func138 [] [(3, .inv [3, 8] [6, 7] [])] [] fun _ => by kernel_rfl
abbrev a7 : FuncId := 139
def a6 (v : List Value) : Tree :=
 pZ (g v 0) fun v0 =>
 .loop 4 2 [iv 0] fun C4 l1 =>
 pL (g l1 0) v0 fun v2 =>
 .br v2 (
 pI 2 (g v 0) (g l1 0) fun v3 =>
 .load [] v3 2 fun l4 =>
 .callv false (g v 1) [.agg #[g l4 0,g l4 1]] [] [] .one fun l5 _ =>
 .br (g l5 0) (
 .ret (g l1 0) []) (
 pA (g l1 0) (iv 1) fun v6 =>
 .cont 4 C4 [v6] (Es [[g v 0],[g v 1],[v0]]))) (
 .ret (iv (-1)) [])
theorem cj : ck a7 Tryz.f139 a6 := cm Tryz.func139 [] [(2, .inv [8] [0, 1, 7] [])] [] fun _ => by kernel_rfl
abbrev bj : FuncId := 170
def bf (v : List Value) : Tree :=
 pZ (g v 0) fun v0 =>
 pZ (g v 0) fun v1 =>
 .pure [] (.slc 1 false true true) [g v 0,v0,v1] fun v2 =>
 .ret v2 []
theorem cF : ck bj Tryz.f170 bf := cm Tryz.func170 [] [] [] fun _ => by kernel_rfl

abbrev en : FuncId := 210
def hM (v : List Value) : Tree :=
 .newbox fun r0 =>
 kN r0 <|
 c1 211 [g v 0,g v 2] fun l0 =>
 kN r0 <|
 kV (g l0 0) <|
 kV (g l0 0) <|
 pE (g v 3) (iv 0) fun v1 =>
 kV (g l0 0) <|
 pK (g l0 0) v1 (.bool false) fun v2 =>
 kN r0 <|
 kV v2 <|
 kV v2 <|
 pE (g v 4) (iv 0) fun v3 =>
 kV v2 <|
 pK v2 v3 (.bool false) fun v4 =>
 kN r0 <|
 kV v4 <|
 kV v4 <|
 pE (g v 5) (iv 0) fun v5 =>
 kV v4 <|
 pK v4 v5 (.bool false) fun v6 =>
 .ret v6 []
theorem kY : ck en Tryz.f210 hM := cm Tryz.func210 [] [] [] fun _ => by kernel_rfl
abbrev aQ : FuncId := 211
def aP (v : List Value) : Tree :=
 c1 212 [g v 0,g v 1] fun l0 =>
 pH (g l0 0) (iv 0) fun v1 =>
 .ret v1 []
theorem bT : ck aQ Tryz.f211 aP := cm Tryz.func211 [] [] [] fun _ => by kernel_rfl
abbrev bb : FuncId := 212
def ba (v : List Value) : Tree :=
 pZ (g v 0) fun v0 =>
 .loop 4 2 [iv 0] fun C4 l1 =>
 pL (g l1 0) v0 fun v2 =>
 .br v2 (
 pI 1 (g v 0) (g l1 0) fun v3 =>
 .load [] v3 1 fun l4 =>
 pE (g v 1) (g l4 0) fun v5 =>
 .br v5 (
 .ret (g l1 0) []) (
 pA (g l1 0) (iv 1) fun v6 =>
 .cont 4 C4 [v6] (Es [[g v 0],[g v 1],[v0]]))) (
 .ret (iv (-1)) [])
theorem cu : ck bb Tryz.f212 ba := cm Tryz.func212 [] [(2, .inv [8] [0, 1, 7] [])] [] fun _ => by kernel_rfl
abbrev dh : FuncId := 213
def eU (v : List Value) : Tree :=
 .newbox fun r0 =>
 .newbox fun r1 =>
 kN r1 <|
 kN r1 <|
 kN r0 <|
 c1 214 [g v 4,iv 1,g v 1] fun l0 =>
 .br (g l0 0) (
 kN r0 <|
 kN r1 <|
 c1 210 [g v 0,.agg #[g v 2,g v 3,iv 0,g v 5,g v 6]] fun l1 =>
 .ret (g l1 0) []) (
 .ret (.bool false) [])
theorem iZ : ck dh Tryz.f213 eU := cm Tryz.func213 [] [] [] fun _ => by kernel_rfl
abbrev kA : FuncId := 214
def kw (v : List Value) : Tree :=
 pH (g v 0) (g v 1) fun v0 =>
 .br v0 (
 c1 215 [g v 0,g v 2] fun l1 =>
 pE (g l1 0) (g v 0) fun v2 =>
 .ret v2 []) (
 .ret (.bool false) [])
theorem mS : ck kA Tryz.f214 kw := cm Tryz.func214 [] [] [] fun _ => by kernel_rfl
abbrev ql : FuncId := 215
def qe (v : List Value) : Tree :=
 .pure [] .min2 [g v 0,g v 1] fun v0 =>
 .pure [] .max2 [iv 0,v0] fun v1 =>
 .ret v1 []
theorem rx : ck ql Tryz.f215 qe := cm Tryz.func215 [] [] [] fun _ => by kernel_rfl
abbrev dr : FuncId := 216
def fw (v : List Value) : Tree :=
 .newbox fun r0 =>
 .newbox fun r1 =>
 kN r1 <|
 kN r1 <|
 kN r1 <|
 kN r1 <|
 c1 214 [g v 4,iv 0,iv 9] fun l0 =>
 .br (g l0 0) (
 kN r0 <|
 c1 214 [g v 5,g v 1,iv 9] fun l1 =>
 kV (g l1 0) <|
 kV (g l1 0) <|
 pA (g v 4) (g v 5) fun v2 =>
 kV (g l1 0) <|
 pG v2 (iv 0) fun v3 =>
 kV (g l1 0) <|
 pK (g l1 0) v3 (.bool false) fun v4 =>
 .br v4 (
 kN r0 <|
 kN r1 <|
 c1 210 [g v 0,.agg #[g v 2,g v 3,iv 0,iv 0,g v 6]] fun l5 =>
 .ret (g l5 0) []) (
 .ret (.bool false) [])) (
 .ret (.bool false) [])
theorem jP : ck dr Tryz.f216 fw := cm Tryz.func216 [] [] [] fun _ => by kernel_rfl
abbrev cO : FuncId := 217
def eB (v : List Value) : Tree :=
 .newbox fun r0 =>
 .newbox fun r1 =>
 kN r1 <|
 kN r1 <|
 c1 214 [g v 6,iv 0,iv 3] fun l0 =>
 .br (g l0 0) (
 kN r0 <|
 kN r1 <|
 c1 213 [.agg #[g v 0,g v 1],ag (G4 v 2 ++ [iv 0])] fun l1 =>
 .ret (g l1 0) []) (
 .ret (.bool false) [])
theorem iw : ck cO Tryz.f217 eB := cm Tryz.func217 [] [] [] fun _ => by kernel_rfl

end Go.Proofs.YtamgiojcbdbokaaGreatDoor
