/- The trees of the functions of this seat: printed by a tool of mine; each by the kernel's reckoning equal to the evaluator's. -/
import Derived.Test.YtamgiojcbdbokaaGreatDoorFw2
import Derived.Test.YtamgiojcbdbokaaGreatDoorProg
import Derived.KernelRfl
namespace Go.Proofs.YtamgiojcbdbokaaGreatDoor
open Go Go.Sx
set_option maxRecDepth 100000
noncomputable abbrev PP : Program := Tryz.prog
theorem mixed : PP.follows .mixedOrders = true := by kernel_rfl
def okL : List Nat := [2, 3, 4, 5, 6, 7, 8, 9, 10, 11, 12, 13, 14, 15, 16, 17, 18, 19, 20, 21, 22, 23, 24, 25, 26, 27, 28, 29, 30, 31, 32, 33, 34, 35, 36, 37, 38, 39, 40, 41, 42, 43, 44, 45, 46, 47, 48, 49, 50, 51, 52, 53, 54, 55, 56, 57, 58, 59, 60, 61, 62, 63, 64, 65, 66, 67, 68, 69, 70, 71, 72, 73, 74, 75, 76, 77, 78, 79, 80, 81, 82, 83, 84, 85, 86, 87, 88, 89, 90, 91, 93, 94, 95, 96, 97, 98, 99, 100, 101, 102, 103, 104, 105, 106, 107, 108, 109, 110, 111, 112, 113, 114, 115, 116, 117, 118, 119, 120, 121, 122, 123, 124, 125, 126, 127, 128, 129, 130, 131, 132, 133, 134, 135, 136, 137, 138, 139, 140, 141, 142, 143, 144, 145, 146, 147, 148, 150, 151, 152, 153, 154, 155, 156, 157, 158, 159, 160, 161, 162, 163, 164, 165, 166, 167, 168, 169, 170, 171, 172, 173, 175, 176, 177, 178, 179, 180, 181, 182, 183, 184, 185, 186, 187, 188, 189, 190, 210, 211, 212, 213, 214, 215, 216, 217, 229]
theorem ib : okL.all (wZ PP) = true := by kernel_rfl
def cT (f : FuncId) (fn : Func) (T : List Value → Tree) : Prop := ∀ {args vs : List Value}, jc PP fn args = some vs → Ones vs → ∀ {H : Heap} {O : Go.Sx.Own} {Q : Value → Heap → Go.Sx.Own → Prop}, (T vs).den PP Q H O → Triple PP f args H O Q
theorem cV {f : FuncId} {fn : Func} {T : List Value → Tree} (hf : PP.funcs[f]? = some fn) (a : _) (b : _) (c : _) (e : ∀ vs, wL PP fn (to okL a b c) vs = T vs) : cT f fn T := fun ha ho _ _ _ h => tQ mixed (nq ib _ _ _) hf e ha ho h
abbrev ff : TypeId := 3
abbrev rG : TypeId := 9
abbrev j8 : TypeId := 68
abbrev dj : TypeId := 71
abbrev an : TypeId := 77
abbrev b7 : TypeId := 110
abbrev Z0 : List Value := [.string ⟨#[]⟩,iv 0,iv 0,iv 0,iv 0,iv 0,iv 0,iv 0,iv 0,iv 0,iv 0,.slice none 0 0,.slice none 0 0,iv 0]
abbrev ej : FuncId := 4
def eh (v : List Value) : Tree :=
 pZ (g v 0) fun v0 =>
 pG v0 (iv 100) fun v1 =>
 .br v1 (
 c1 9 [] fun l2 =>
 .ret (g l2 0) []) (
 .prim (.bi .append #[33,33] 33) [.slice none 0 0,g v 0] [] [] .one fun l3 _ =>
 cS 12 [g v 0] (.tup [none,none]) fun l4 =>
 c1 13 [g l3 0,g l4 0,g l4 1] fun l5 =>
 .br (g l5 0) (
 c1 14 [g l3 0,g v 0] fun l6 =>
 .br (g l6 0) (
 c1 9 [] fun l7 =>
 .ret (g l7 0) []) (
 .ret (.bool false) [])) (
 .ret (.bool false) []))
theorem gy : cT ej Tryz.f4 eh := cV Tryz.func4 [] [] [] fun _ => by kernel_rfl
abbrev eE : FuncId := 9
def eA (v : List Value) : Tree :=
 c1 29 [] fun l0 =>
 cS 28 [g l0 0] (.tup [none,none]) fun l1 =>
 .pure [] (.bin .eql .ptr) [g l1 0,.pointer none] fun v2 =>
 kV v2 <|
 pN (g l1 1) (iv 0) fun v3 =>
 kV v2 <|
 pK v2 (.bool true) v3 fun v4 =>
 .br v4 (
 .ret (.bool false) []) (
 .newbox fun r0 =>
 .call false 11 [g l1 0,.slice (some ⟨r0,0,none⟩) 2 2,iv (-1),iv 0] [⟨r0,77,[iv 0,iv 18,iv 1,iv 4]⟩] [] .one fun l5 _ =>
 pO (g l5 0) fun v6 =>
 .br v6 (
 .ret (.bool false) []) (
 .newbox fun r1 =>
 .call false 11 [g l1 0,.slice (some ⟨r1,0,none⟩) 2 2,iv 1,iv 7] [⟨r1,77,[iv 0,iv 18,iv 1,iv 5]⟩] [] .one fun l7 _ =>
 pO (g l7 0) fun v8 =>
 .br v8 (
 .ret (.bool false) []) (
 .newbox fun r2 =>
 .call false 11 [g l1 0,.slice (some ⟨r2,0,none⟩) 2 2,iv 1,iv 3] [⟨r2,77,[iv 0,iv 18,iv 3,iv 1]⟩] [] .one fun l9 _ =>
 pO (g l9 0) fun v10 =>
 .br v10 (
 .ret (.bool false) []) (
 .newbox fun r3 =>
 .call false 11 [g l1 0,.slice (some ⟨r3,0,none⟩) 2 2,iv 1,iv 2] [⟨r3,77,[iv 1,iv 4,iv 0,iv 18]⟩] [] .one fun l11 _ =>
 pO (g l11 0) fun v12 =>
 .br v12 (
 .ret (.bool false) []) (
 .newbox fun r4 =>
 .call false 11 [g l1 0,.slice (some ⟨r4,0,none⟩) 1 1,iv 0,iv 2] [⟨r4,77,[iv 0,iv 0]⟩] [] .one fun l13 _ =>
 pO (g l13 0) fun v14 =>
 .br v14 (
 .ret (.bool false) []) (
 .newbox fun r5 =>
 .call false 11 [g l1 0,.slice (some ⟨r5,0,none⟩) 1 1,iv (-1),iv 4] [⟨r5,77,[iv 0,iv 19]⟩] [] .one fun l15 _ =>
 pO (g l15 0) fun v16 =>
 .br v16 (
 .ret (.bool false) []) (
 .newbox fun r6 =>
 .call false 11 [g l1 0,.slice (some ⟨r6,0,none⟩) 2 2,iv (-1),iv 5] [⟨r6,77,[iv 0,iv 60,iv 2,iv 1]⟩] [] .one fun l17 _ =>
 pO (g l17 0) fun v18 =>
 .br v18 (
 .ret (.bool false) []) (
 .newbox fun r7 =>
 .call false 11 [g l1 0,.slice (some ⟨r7,0,none⟩) 1 1,iv 0,iv 2] [⟨r7,77,[iv 0,iv 61]⟩] [] .one fun l19 _ =>
 pO (g l19 0) fun v20 =>
 .br v20 (
 .ret (.bool false) []) (
 .newbox fun r8 =>
 .newbox fun r9 =>
 .call false 13 [.slice (some ⟨r8,0,none⟩) 3 3,.slice (some ⟨r9,0,none⟩) 2 2,iv 0] [⟨r8,3,[iv 2,iv 0,iv 0]⟩,⟨r9,77,[iv 0,iv 2,iv 2,iv 1]⟩] [] .one fun l21 _ =>
 pO (g l21 0) fun v22 =>
 .br v22 (
 .ret (.bool false) []) (
 .newbox fun r10 =>
 .call false 13 [.slice (some ⟨r10,0,none⟩) 1 1,.slice none 0 0,iv 2] [⟨r10,3,[iv (-1)]⟩] [] .one fun l23 _ =>
 pO (g l23 0) fun v24 =>
 .br v24 (
 .ret (.bool false) []) (
 c1 18 [g l1 0,.slice (some ⟨r0,0,none⟩) 2 2,.string ⟨#[49,56,32,87,101,108,108,10,52,32,74,111,108,116,10]⟩,iv 0] fun l25 =>
 pO (g l25 0) fun v26 =>
 .br v26 (
 .ret (.bool false) []) (
 c1 19 [g l1 0,.slice (some ⟨r0,0,none⟩) 2 2,iv 1,iv 18,iv 0] fun l27 =>
 pO (g l27 0) fun v28 =>
 .br v28 (
 .ret (.bool false) []) (
 c1 19 [g l1 0,.slice (some ⟨r0,0,none⟩) 2 2,iv 0,iv 22,iv 0] fun l29 =>
 pO (g l29 0) fun v30 =>
 .br v30 (
 .ret (.bool false) []) (
 c1 16 [g l1 0,.string ⟨#[52,32,74,111,108,116,10,49,56,32,87,101,108,108,10]⟩,.slice (some ⟨r0,0,none⟩) 2 2,iv 0,iv 0] fun l31 =>
 .br (g l31 0) (
 c1 16 [g l1 0,.string ⟨#[49,56,32,87,101,108,108,10,52,32,106,111,108,116,10]⟩,.slice none 0 0,iv 2,iv 9] fun l32 =>
 .br (g l32 0) (
 c1 16 [g l1 0,.string ⟨#[49,56,32,87,101,108,108,10,50,32,87,101,108,108,10]⟩,.slice none 0 0,iv 2,iv 11] fun l33 =>
 .br (g l33 0) (
 c1 16 [g l1 0,.string ⟨#[48,52,32,74,111,108,116,10]⟩,.slice none 0 0,iv 1,iv 6] fun l34 =>
 .br (g l34 0) (
 c1 16 [g l1 0,.string ⟨#[53,32,74,111,108,116,10,49,56,32,87,101,108,108,10]⟩,.slice none 0 0,iv 0,iv 7] fun l35 =>
 .br (g l35 0) (
 c1 16 [g l1 0,.string ⟨#[]⟩,.slice none 0 0,iv 0,iv 4] fun l36 =>
 .ret (g l36 0) []) (
 .ret (.bool false) [])) (
 .ret (.bool false) [])) (
 .ret (.bool false) [])) (
 .ret (.bool false) [])) (
 .ret (.bool false) [])))))))))))))))
theorem ir : cT eE Tryz.f9 eA := cV Tryz.func9 [] [] [] fun _ => by kernel_rfl
abbrev cJ : FuncId := 11
def ef (v : List Value) : Tree :=
 cS 24 [g v 0,g v 1] (.tup [none,none]) fun l0 =>
 pE (g l0 0) (g v 2) fun v1 =>
 kV v1 <|
 kV v1 <|
 pE (g l0 1) (g v 3) fun v2 =>
 kV v1 <|
 pK v1 v2 (.bool false) fun v3 =>
 .ret v3 []
theorem gx : cT cJ Tryz.f11 ef := cV Tryz.func11 [] [] [] fun _ => by kernel_rfl
abbrev dW : FuncId := 12
def gk (v : List Value) : Tree :=
 pZ (g v 0) fun v0 =>
 pG v0 (iv 60) fun v1 =>
 .br v1 (
 .ret (.tuple #[.slice none 0 0,iv 5]) []) (
 .loop 6 4 [iv 0] fun C6 l2 =>
 pZ (g v 0) fun v3 =>
 pL (g l2 0) v3 fun v4 =>
 .br v4 (
 pI 1 (g v 0) (g l2 0) fun v5 =>
 .load [] v5 1 fun l6 =>
 pL (g l6 0) (iv 0) fun v7 =>
 .br v7 (
 .ret (.tuple #[.slice none 0 0,iv 2]) []) (
 pA (g l2 0) (iv 1) fun v8 =>
 .cont 6 C6 [v8] (Es [[g v 0]]))) (
 .loop 13 10 [.slice none 0 0,iv (-1)] fun C13 l9 =>
 .loop 17 12 [iv (-1),iv 0] fun C17 l10 =>
 pZ (g v 0) fun v11 =>
 pL (g l10 1) v11 fun v12 =>
 .br v12 (
 pI 1 (g v 0) (g l10 1) fun v13 =>
 .load [] v13 1 fun l14 =>
 pG (g l14 0) (g l9 1) fun v15 =>
 kV v15 <|
 pL (g l10 0) (iv 0) fun v16 =>
 kV v15 <|
 kV v16 <|
 kV v15 <|
 kV v16 <|
 kV v15 <|
 .pure [(v16,false),(v15,true)] (.idx 1) [g v 0,g l10 1] fun v17 =>
 kV v16 <|
 kV v15 <|
 .load [(v16,false),(v15,true)] v17 1 fun l18 =>
 kV v16 <|
 kV v15 <|
 kV v16 <|
 kV v15 <|
 pL (g l18 0) (g l10 0) fun v19 =>
 kV v15 <|
 kV v16 <|
 kV v15 <|
 pK v16 (.bool true) v19 fun v20 =>
 kV v15 <|
 pK v15 v20 (.bool false) fun v21 =>
 .br v21 (
 pI 1 (g v 0) (g l10 1) fun v22 =>
 .load [] v22 1 fun l23 =>
 pA (g l10 1) (iv 1) fun v24 =>
 .cont 17 C17 [g l23 0,v24] (Es [[g v 0],[g l9 0],[g l9 1],[iv 0]])) (
 pA (g l10 1) (iv 1) fun v25 =>
 .cont 17 C17 [g l10 0,v25] (Es [[g v 0],[g l9 0],[g l9 1],[iv 0]]))) (
 pL (g l10 0) (iv 0) fun v26 =>
 .br v26 (
 .ret (.tuple #[g l9 0,iv 0]) []) (
 .loop 25 19 [iv 0,iv 0] fun C25 l27 =>
 pZ (g v 0) fun v28 =>
 pL (g l27 1) v28 fun v29 =>
 .br v29 (
 pI 1 (g v 0) (g l27 1) fun v30 =>
 .load [] v30 1 fun l31 =>
 pE (g l31 0) (g l10 0) fun v32 =>
 .br v32 (
 pA (g l27 0) (iv 1) fun v33 =>
 pA (g l27 1) (iv 1) fun v34 =>
 .cont 25 C25 [v33,v34] (Es [[g v 0],[g l9 0],[g l10 0]])) (
 pA (g l27 1) (iv 1) fun v35 =>
 .cont 25 C25 [g l27 0,v35] (Es [[g v 0],[g l9 0],[g l10 0]]))) (
 .newbox fun r0 =>
 .prim (.bi .append #[23,23] 23) [g l9 0,.slice (some ⟨r0,0,none⟩) 1 1] [⟨r0,77,[g l10 0,g l27 0]⟩] [] .one fun l36 _ =>
 .cont 13 C13 [g l36 0,g l10 0] (Es [[g v 0]]))))))
theorem jV : cT dW Tryz.f12 gk := cV Tryz.func12 [] [(4, .inv [4] [0] []), (10, .inv [5, 6] [0] []), (12, .inv [7, 9] [0, 5, 6, 8] []), (19, .inv [8, 10] [0, 5, 7] [])] [] fun _ => by kernel_rfl
abbrev dr : FuncId := 13
def fi (v : List Value) : Tree :=
 cS 30 [g v 0] (.tup [none,none]) fun l0 =>
 c1 31 [g l0 0,g v 1] fun l1 =>
 kV (g l1 0) <|
 kV (g l1 0) <|
 pE (g l0 1) (g v 2) fun v2 =>
 kV (g l1 0) <|
 pK (g l1 0) v2 (.bool false) fun v3 =>
 .ret v3 []
theorem iK : cT dr Tryz.f13 fi := cV Tryz.func13 [] [] [] fun _ => by kernel_rfl
abbrev fm : FuncId := 14
def fh (v : List Value) : Tree :=
 pZ (g v 0) fun v0 =>
 pZ (g v 1) fun v1 =>
 pN v0 v1 fun v2 =>
 .br v2 (
 .ret (.bool false) []) (
 .loop 7 4 [iv 0] fun C7 l3 =>
 pZ (g v 0) fun v4 =>
 pL (g l3 0) v4 fun v5 =>
 .br v5 (
 pI 1 (g v 0) (g l3 0) fun v6 =>
 .load [] v6 1 fun l7 =>
 pI 1 (g v 1) (g l3 0) fun v8 =>
 .load [] v8 1 fun l9 =>
 pN (g l7 0) (g l9 0) fun v10 =>
 .br v10 (
 .ret (.bool false) []) (
 pA (g l3 0) (iv 1) fun v11 =>
 .cont 7 C7 [v11] (Es [[g v 0],[g v 1]]))) (
 .ret (.bool true) []))
theorem iJ : cT fm Tryz.f14 fh := cV Tryz.func14 [] [(4, .inv [5] [0, 1] [])] [] fun _ => by kernel_rfl
abbrev cH : FuncId := 16
def ed (v : List Value) : Tree :=
 cS 33 [g v 0,g v 1] (.tup [none,none,none]) fun l0 =>
 c1 31 [g l0 0,g v 2] fun l1 =>
 kV (g l1 0) <|
 kV (g l1 0) <|
 pE (g l0 1) (g v 3) fun v2 =>
 kV (g l1 0) <|
 pK (g l1 0) v2 (.bool false) fun v3 =>
 kV v3 <|
 kV v3 <|
 pE (g l0 2) (g v 4) fun v4 =>
 kV v3 <|
 pK v3 v4 (.bool false) fun v5 =>
 .ret v5 []
theorem gv : cT cH Tryz.f16 ed := cV Tryz.func16 [] [] [] fun _ => by kernel_rfl
abbrev cY : FuncId := 18
def ez (v : List Value) : Tree :=
 cS 26 [g v 0,g v 1] (.tup [none,none]) fun l0 =>
 .pure [] (.bin .eql .str) [g l0 0,g v 2] fun v1 =>
 kV v1 <|
 kV v1 <|
 pE (g l0 1) (g v 3) fun v2 =>
 kV v1 <|
 pK v1 v2 (.bool false) fun v3 =>
 .ret v3 []
theorem iq : cT cY Tryz.f18 ez := cV Tryz.func18 [] [] [] fun _ => by kernel_rfl
abbrev cI : FuncId := 19
def ee (v : List Value) : Tree :=
 cS 25 [g v 0,g v 1,g v 2] (.tup [none,none]) fun l0 =>
 pE (g l0 0) (g v 3) fun v1 =>
 kV v1 <|
 kV v1 <|
 pE (g l0 1) (g v 4) fun v2 =>
 kV v1 <|
 pK v1 v2 (.bool false) fun v3 =>
 .ret v3 []
theorem gw : cT cI Tryz.f19 ee := cV Tryz.func19 [] [] [] fun _ => by kernel_rfl
abbrev mh : FuncId := 24
def lW (v : List Value) : Tree :=
 c1 36 [g v 0] fun l0 =>
 .br (g l0 0) (
 .ret (.tuple #[iv (-1),iv 1]) []) (
 pZ (g v 1) fun v1 =>
 .loop 9 5 [iv 0,iv (-1),iv 0] fun C9 l2 =>
 pL (g l2 2) v1 fun v3 =>
 .br v3 (
 pI 2 (g v 1) (g l2 2) fun v4 =>
 .load [] v4 2 fun l5 =>
 .newbox fun r0 =>
 kN r0 <|
 kN r0 <|
 c1 37 [g v 0,.agg #[g l5 0,g l5 1],g l2 1] fun l6 =>
 pN (g l6 0) (iv 0) fun v7 =>
 .br v7 (
 .ret (.tuple #[g l2 2,g l6 0]) []) (
 kN r0 <|
 pA (g l2 0) (g l5 1) fun v8 =>
 kN r0 <|
 pA (g l2 2) (iv 1) fun v9 =>
 .cont 9 C9 [v8,g l5 0,v9] (Es [[g v 0],[g v 1],[v1]]))) (
 pL (g l2 0) (iv 20) fun v10 =>
 .br v10 (
 .ret (.tuple #[iv (-1),iv 4]) []) (
 pG (g l2 0) (iv 60) fun v11 =>
 .br v11 (
 .ret (.tuple #[iv (-1),iv 5]) []) (
 .ret (.tuple #[iv (-1),iv 0]) []))))
theorem ow : cT mh Tryz.f24 lW := cV Tryz.func24 [] [(5, .inv [6, 7, 15] [0, 13, 14] [])] [] fun _ => by kernel_rfl
abbrev mg : FuncId := 25
def lV (v : List Value) : Tree :=
 cS 24 [g v 0,g v 1] (.tup [none,none]) fun l0 =>
 pN (g l0 1) (iv 0) fun v1 =>
 .br v1 (
 .ret (.tuple #[iv 0,g l0 1]) []) (
 pZ (g v 1) fun v2 =>
 .loop 16 6 [iv 0,iv 0] fun C16 l3 =>
 pL (g l3 1) v2 fun v4 =>
 .br v4 (
 pI 2 (g v 1) (g l3 1) fun v5 =>
 .load [] v5 2 fun l6 =>
 .newbox fun r0 =>
 kN r0 <|
 kN r0 <|
 cS 38 [g v 0,g l6 0] (.tup [some 14,none]) fun l7 =>
 .newbox fun r1 =>
 kN r1 <|
 pE (g v 2) (iv 0) fun v8 =>
 kN r1 <|
 kV v8 <|
 kV v8 <|
 kV v8 <|
 pE (g l7 1) (g v 2) fun v9 =>
 kV v8 <|
 pK v8 (.bool true) v9 fun v10 =>
 .br v10 (
 kN r0 <|
 pA (g l3 0) (g l6 1) fun v11 =>
 pA (g l3 1) (iv 1) fun v12 =>
 .cont 16 C16 [v11,v12] (Es [[g v 0],[g v 2],[g v 1],[v2]])) (
 pA (g l3 1) (iv 1) fun v13 =>
 .cont 16 C16 [g l3 0,v13] (Es [[g v 0],[g v 2],[g v 1],[v2]]))) (
 .ret (.tuple #[g l3 0,iv 0]) []))
theorem ov : cT mg Tryz.f25 lV := cV Tryz.func25 [] [(6, .inv [10, 26] [0, 2, 24, 25] [])] [] fun _ => by kernel_rfl
abbrev oh : FuncId := 26
def nX (v : List Value) : Tree :=
 cS 24 [g v 0,g v 1] (.tup [none,none]) fun l0 =>
 pN (g l0 1) (iv 0) fun v1 =>
 .br v1 (
 .ret (.tuple #[.string ⟨#[]⟩,g l0 1]) []) (
 .newbox fun r0 =>
 pZ (g v 1) fun v2 =>
 .loop 16 6 [iv 0,.pointer none,.slice none 0 0] fun C16 l3 =>
 pL (g l3 0) v2 fun v4 =>
 .br v4 (
 pI 2 (g v 1) (g l3 0) fun v5 =>
 .load [] v5 2 fun l6 =>
 .newbox fun r1 =>
 kN r1 <|
 kN r1 <|
 cS 38 [g v 0,g l6 0] (.tup [some 14,none]) fun l7 =>
 .newbox fun r2 =>
 kN r2 <|
 kN r1 <|
 kN r2 <|
 c1 40 [g l6 1] fun l8 =>
 .pure [] (.bin .add .str) [g l8 0,.string ⟨#[32]⟩] fun v9 =>
 .pure [] (.bin .add .str) [v9,g l7 0] fun v10 =>
 .pure [] (.bin .add .str) [v10,.string ⟨#[10]⟩] fun v11 =>
 .call false 39 [pt r0 0,v11] [] [⟨r0,94,[g l3 1,g l3 2]⟩] (.tup [none,none]) fun l12 c12 =>
 pA (g l3 0) (iv 1) fun v13 =>
 .cont 16 C16 [v13,g (gd c12 0) 0,g (gd c12 0) 1] (Es [[g v 0],[pt r0 0],[g v 1],[v2],[pt r0 0,.tuple #[],.tuple #[]]])) (
 .call false 41 [pt r0 0] [] [⟨r0,94,[g l3 1,g l3 2]⟩] .one fun l14 c14 =>
 .ret (.tuple #[g l14 0,iv 0]) []))
theorem py : cT oh Tryz.f26 nX := cV Tryz.func26 [] [(6, .inv [24] [0, 8, 22, 23] [(8, [0, 1])])] [] fun _ => by kernel_rfl
abbrev gn : FuncId := 28
def pa (v : List Value) : Tree :=
 pZ (g v 0) fun v0 =>
 pG v0 (iv 400) fun v1 =>
 .br v1 (
 .ret (.tuple #[.pointer none,iv 5]) []) (
 pZ (g v 0) fun v2 =>
 .loop 8 4 [iv 0] fun C8 l3 =>
 pL (g l3 0) v2 fun v4 =>
 .br v4 (
 pI 14 (g v 0) (g l3 0) fun v5 =>
 .load [] v5 14 fun l6 =>
 .newbox fun r0 =>
 kN r0 <|
 kN r0 <|
 c1 44 [ag (G14 l6 0)] fun l7 =>
 pO (g l7 0) fun v8 =>
 .br v8 (
 .ret (.tuple #[.pointer none,iv 2]) []) (
 pA (g l3 0) (iv 1) fun v9 =>
 .cont 8 C8 [v9] (Es [[g v 0],[g v 0],[v2]]))) (
 .prim (.makeMap 103 false) [] [] [] .one fun l10 _ =>
 .newbox fun r1 =>
 pZ (g v 0) fun v11 =>
 .loop 17 11 [iv 0,.slice none 0 0] fun C17 l12 =>
 pL (g l12 0) v11 fun v13 =>
 .br v13 (
 pI 14 (g v 0) (g l12 0) fun v14 =>
 .load [] v14 14 fun l15 =>
 .newbox fun r2 =>
 kN r2 <|
 kN r1 <|
 kN r2 <|
 .prim (.lookup 103 true) [g l10 0,g l15 0] [] [] (.tup [none,none]) fun l16 _ =>
 .br (g l16 1) (
 .ret (.tuple #[.pointer none,iv 11]) []) (
 kN r1 <|
 kN r2 <|
 .prim (.mapUpdate 103) [g l10 0,g l15 0,g l12 0] [] [] .one fun l17 _ =>
 kN r1 <|
 kN r2 <|
 cS 45 [ag (G14 l15 0)] (.agg 14) fun l18 =>
 .newbox fun r3 =>
 .prim (.bi .append #[22,22] 22) [g l12 1,.slice (some ⟨r3,0,none⟩) 1 1] [⟨r3,68,(G14 l18 0)⟩] [] .one fun l19 _ =>
 kN r1 <|
 pA (g l12 0) (iv 1) fun v20 =>
 .cont 17 C17 [v20,g l19 0] (Es [[pt r1 0],[g v 0],[v11],[pt r1 0,.tuple #[],g l10 0]]))) (
 .ret (.tuple #[pt r1 0,iv 0]) [⟨r1,105,[g l12 1,g l10 0]⟩])))
theorem qJ : cT gn Tryz.f28 pa := cV Tryz.func28 [] [(4, .inv [16] [0, 14, 15] []), (11, .inv [29] [6, 27, 28] [(6, [0])])] [] fun _ => by kernel_rfl
abbrev eF : FuncId := 29
def eB (v : List Value) : Tree :=
 .newbox fun r0 =>
 .newbox fun r1 =>
 .ret (.slice (some ⟨r1,0,none⟩) 3 3) [⟨r1,68,[.string ⟨#[87,101,108,108]⟩,iv 1,iv 0,iv 0,iv 0,iv 0,iv 0,iv 1,iv 0,iv 0,iv 0,.slice none 0 0,.slice none 0 0,iv 1,.string ⟨#[74,111,108,116]⟩,iv 4,iv 1,iv 0,iv 0,iv 0,iv 0,iv 0,iv 0,iv 0,iv 0,.slice (some ⟨r0,0,none⟩) 1 1,.slice none 0 0,iv 1,.string ⟨#[70,105,114,101]⟩,iv 1,iv 0,iv 0,iv 0,iv 0,iv 0,iv 0,iv 0,iv 0,iv 0,.slice none 0 0,.slice none 0 0,iv 1]⟩,⟨r0,110,[iv 1,iv 5,iv 3,iv 0,iv 0]⟩]
theorem iu : cT eF Tryz.f29 eB := cV Tryz.func29 [] [] [] fun _ => by kernel_rfl
abbrev ol : FuncId := 30
def hZ (a b : List Value) (c : List Value → Heap → Go.Sx.Own → Prop) (d : List Value) (e : Value) : Tree :=
 pZ (g a 0) fun v18 =>
 pS v18 (iv 1) fun v19 =>
 pI 2 (g a 0) v19 fun v20 =>
 kP v20 <|
 .load [] (bN v20 1) 1 fun l21 =>
 pA (g l21 0) (iv 1) fun v22 =>
 pI 2 (g a 0) v19 fun v23 =>
 kP v23 <|
 kP (bN v23 1) <|
 .store (bN v23 1) [v22] <|
 pA (g b 1) (iv 1) fun v24 =>
 .cont 15 c [g a 0,v24] (Es [[g d 0],[e]])
def rH (v : List Value) : Tree :=
 pZ (g v 0) fun v0 =>
 pG v0 (iv 60) fun v1 =>
 .br v1 (
 .ret (.tuple #[.slice none 0 0,iv 5]) []) (
 c1 46 [g v 0,.func (.func 47) #[] #[]] fun l2 =>
 .br (g l2 0) (
 .ret (.tuple #[.slice none 0 0,iv 2]) []) (
 c1 49 [g v 0] fun l3 =>
 c1 48 [g l3 0] fun l4 =>
 pZ (g l4 0) fun v5 =>
 .loop 15 7 [.slice none 0 0,iv 0] fun C15 l6 =>
 pL (g l6 1) v5 fun v7 =>
 .br v7 (
 pI 1 (g l4 0) (g l6 1) fun v8 =>
 .load [] v8 1 fun l9 =>
 pZ (g l6 0) fun v10 =>
 pE v10 (iv 0) fun v11 =>
 kV v11 <|
 pS v10 (iv 1) fun v12 =>
 kV v11 <|
 kV v11 <|
 .pure [(v11,false)] (.idx 2) [g l6 0,v12] fun v13 =>
 .chk (.ptr [(v11,false)] v13) <|
 kV v11 <|
 kV v11 <|
 .load [(v11,false)] v13 1 fun l14 =>
 kV v11 <|
 kV v11 <|
 pN (g l14 0) (g l9 0) fun v15 =>
 kV v11 <|
 pK v11 (.bool true) v15 fun v16 =>
 .br v16 (
 .newbox fun r0 =>
 .prim (.bi .append #[23,23] 23) [g l6 0,.slice (some ⟨r0,0,none⟩) 1 1] [⟨r0,77,[g l9 0,iv 0]⟩] [] .one fun l17 _ =>
 hZ l17 l6 C15 l4 v5) (
 hZ l6 l6 C15 l4 v5)) (
 .ret (.tuple #[g l6 0,iv 0]) [])))
theorem rW : cT ol Tryz.f30 rH := cV Tryz.func30 [] [(7, .inv [4, 19] [17, 18] [])] [] fun _ => by kernel_rfl
abbrev fk : FuncId := 31
def fg (v : List Value) : Tree :=
 pZ (g v 0) fun v0 =>
 pZ (g v 1) fun v1 =>
 pN v0 v1 fun v2 =>
 .br v2 (
 .ret (.bool false) []) (
 .loop 7 4 [iv 0] fun C7 l3 =>
 pZ (g v 0) fun v4 =>
 pL (g l3 0) v4 fun v5 =>
 .br v5 (
 pI 2 (g v 0) (g l3 0) fun v6 =>
 .load [] v6 2 fun l7 =>
 pI 2 (g v 1) (g l3 0) fun v8 =>
 .load [] v8 2 fun l9 =>
 .raw [] (.eqv .neq 77 false) [.agg #[g l7 0,g l7 1],.agg #[g l9 0,g l9 1]] fun v10 =>
 .br v10 (
 .ret (.bool false) []) (
 pA (g l3 0) (iv 1) fun v11 =>
 .cont 7 C7 [v11] (Es [[g v 0],[g v 1]]))) (
 .ret (.bool true) []))
theorem iI : cT fk Tryz.f31 fg := cV Tryz.func31 [] [(4, .inv [5] [0, 1] [])] [] fun _ => by kernel_rfl
abbrev rL : FuncId := 33
abbrev og : FuncId := 36
def nW (v : List Value) : Tree :=
 cS 38 [g v 0,iv 0] (.tup [some 14,none]) fun l0 =>
 .newbox fun r0 =>
 kN r0 <|
 pE (g l0 14) (iv 1) fun v1 =>
 .ret v1 []
theorem pv : cT og Tryz.f36 nW := cV Tryz.func36 [] [] [] fun _ => by kernel_rfl
abbrev mf : FuncId := 37
def lU (v : List Value) : Tree :=
 .newbox fun r0 =>
 kN r0 <|
 cS 38 [g v 0,g v 1] (.tup [some 14,none]) fun l0 =>
 .newbox fun r1 =>
 kN r1 <|
 pN (g l0 14) (iv 0) fun v1 =>
 .br v1 (
 .ret (g l0 14) []) (
 kN r0 <|
 pL (g v 2) (iv 1) fun v2 =>
 kN r0 <|
 kV v2 <|
 kV v2 <|
 pG (g v 2) (iv 60) fun v3 =>
 kV v2 <|
 pK v2 (.bool true) v3 fun v4 =>
 kN r0 <|
 kV v4 <|
 kV v4 <|
 kV v4 <|
 pM (g v 1) (g v 3) fun v5 =>
 kV v4 <|
 pK v4 (.bool true) v5 fun v6 =>
 .br v6 (
 .ret (iv 2) []) (
 kN r1 <|
 pN (g l0 1) (iv 1) fun v7 =>
 kN r0 <|
 kV v7 <|
 kV v7 <|
 pG (g v 2) (iv 4) fun v8 =>
 kV v7 <|
 pK v7 v8 (.bool false) fun v9 =>
 .br v9 (
 .ret (iv 7) []) (
 .ret (iv 0) [])))
theorem ou : cT mf Tryz.f37 lU := cV Tryz.func37 [] [] [] fun _ => by kernel_rfl
abbrev im : FuncId := 38
def fG (a : Nat) (b : Int) : Tree :=
 kN a <|
 kN a <|
 .ret (.tuple #[ag Z0,iv b]) []
def ig (v : List Value) : Tree :=
 .newbox fun r0 =>
 c1 58 [g v 0] fun l0 =>
 .br (g l0 0) (
 fG r0 1) (
 pL (g v 1) (iv 0) fun v1 =>
 .chk (.ptr [(v1,false)] (g v 0)) <|
 kV v1 <|
 .chk (.ptr [(v1,false)] (g v 0)) <|
 kV v1 <|
 kV v1 <|
 .load [(v1,false)] (g v 0) 1 fun l2 =>
 kV v1 <|
 pZ (g l2 0) fun v3 =>
 kV v1 <|
 kV v1 <|
 pH (g v 1) v3 fun v4 =>
 kV v1 <|
 pK v1 (.bool true) v4 fun v5 =>
 .br v5 (
 fG r0 3) (
 kP (g v 0) <|
 kP (g v 0) <|
 .load [] (g v 0) 1 fun l6 =>
 pI 14 (g l6 0) (g v 1) fun v7 =>
 .load [] v7 14 fun l8 =>
 cS 45 [ag (G14 l8 0)] (.agg 14) fun l9 =>
 kN r0 <|
 kN r0 <|
 .ret (.tuple #[ag (G14 l9 0),iv 0]) []))
theorem kh : cT im Tryz.f38 ig := cV Tryz.func38 [] [] [] fun _ => by kernel_rfl
abbrev jp : FuncId := 44
def jO (a : Value) (b : Nat) (c : List Value) : Tree :=
 .br a (
 kN b <|
 pE (g c 7) (iv 0) fun v25 =>
 kN b <|
 kV v25 <|
 kV v25 <|
 pZ (g c 11) fun v26 =>
 kV v25 <|
 pG v26 (iv 0) fun v27 =>
 kV v25 <|
 pK v25 v27 (.bool false) fun v28 =>
 .br v28 (
 kN b <|
 c1 72 [g c 11,.func (.func 73) #[] #[]] fun l29 =>
 pO (g l29 0) fun v30 =>
 .br v30 (
 kN b <|
 c1 70 [ag (G14 c 0)] fun l31 =>
 .ret (g l31 0) []) (
 .ret (.bool false) [])) (
 .ret (.bool false) [])) (
 .ret (.bool false) [])
def ma (v : List Value) : Tree :=
 .newbox fun r0 =>
 kN r0 <|
 c1 65 [g v 0] fun l0 =>
 pO (g l0 0) fun v1 =>
 .br v1 (
 .ret (.bool false) []) (
 kN r0 <|
 c1 66 [g v 13,iv 1,iv 4] fun l2 =>
 pO (g l2 0) fun v3 =>
 .br v3 (
 .ret (.bool false) []) (
 kN r0 <|
 c1 67 [ag (G5 v 2)] fun l4 =>
 pO (g l4 0) fun v5 =>
 .br v5 (
 .ret (.bool false) []) (
 kN r0 <|
 c1 68 [g v 11] fun l6 =>
 pO (g l6 0) fun v7 =>
 .br v7 (
 .ret (.bool false) []) (
 kN r0 <|
 pE (g v 1) (iv 1) fun v8 =>
 .br v8 (
 kN r0 <|
 c1 66 [g v 7,iv 0,iv 3] fun l9 =>
 .br (g l9 0) (
 kN r0 <|
 c1 69 [ag (G5 v 2)] fun l10 =>
 pE (g l10 0) (iv 0) fun v11 =>
 kN r0 <|
 kV v11 <|
 kV v11 <|
 pZ (g v 11) fun v12 =>
 kV v11 <|
 pE v12 (iv 0) fun v13 =>
 kV v11 <|
 pK v11 v13 (.bool false) fun v14 =>
 .br v14 (
 kN r0 <|
 c1 70 [ag (G14 v 0)] fun l15 =>
 .ret (g l15 0) []) (
 .ret (.bool false) [])) (
 .ret (.bool false) [])) (
 pE (g v 1) (iv 2) fun v16 =>
 .br v16 (
 kN r0 <|
 pE (g v 7) (iv 0) fun v17 =>
 .br v17 (
 kN r0 <|
 c1 66 [g v 8,iv 0,iv 20] fun l18 =>
 .br (g l18 0) (
 kN r0 <|
 c1 66 [g v 9,iv 1,iv 20] fun l19 =>
 kN r0 <|
 kV (g l19 0) <|
 kV (g l19 0) <|
 .pure [] (.bin .andNot .int) [g v 10,iv 15] fun v20 =>
 kV (g l19 0) <|
 pE v20 (iv 0) fun v21 =>
 kV (g l19 0) <|
 pK (g l19 0) v21 (.bool false) fun v22 =>
 .br v22 (
 kN r0 <|
 c1 71 [g v 12] fun l23 =>
 .ret (g l23 0) []) (
 .ret (.bool false) [])) (
 .ret (.bool false) [])) (
 .ret (.bool false) [])) (
 pE (g v 1) (iv 3) fun v24 =>
 .br v24 (
 jO v24 r0 v) (
 pE (g v 1) (iv 4) fun v32 =>
 jO v32 r0 v)))))))
theorem oC : cT jp Tryz.f44 ma := cV Tryz.func44 [] [] [] fun _ => by kernel_rfl
abbrev j9 : FuncId := 45
def nZ (v : List Value) : Tree :=
 .newbox fun r0 =>
 .newbox fun r1 =>
 kN r0 <|
 kN r0 <|
 c1 74 [g v 11] fun l0 =>
 c1 75 [g v 12] fun l1 =>
 kN r0 <|
 kN r0 <|
 kN r0 <|
 pZ (g l1 0) fun v2 =>
 .loop 16 3 [iv 0] fun C16 l3 =>
 pL (g l3 0) v2 fun v4 =>
 .br v4 (
 pI 2 (g l1 0) (g l3 0) fun v5 =>
 .load [] v5 2 fun l6 =>
 .newbox fun r2 =>
 kN r2 <|
 kN r0 <|
 kN r2 <|
 c1 74 [g l6 1] fun l7 =>
 pI 2 (g l1 0) (g l3 0) fun v8 =>
 kP v8 <|
 kP (bN v8 1) <|
 .store (bN v8 1) [g l7 0] <|
 pA (g l3 0) (iv 1) fun v9 =>
 .cont 16 C16 [v9] (Es [[pt r0 0],[pt r1 0],[g l1 0],[v2],((pt r0 0)::(G11 v 0 ++ [g l0 0,g l1 0,g v 13])),[pt r1 0,.string ⟨#[]⟩,iv 0,iv 0,iv 0,iv 0,iv 0,iv 0,iv 0,iv 0,iv 0,iv 0,.slice none 0 0,.slice none 0 0,iv 0]])) (
 kN r0 <|
 kN r1 <|
 kN r1 <|
 .ret (ag (G11 v 0 ++ [g l0 0,g l1 0,g v 13])) [])
theorem pB : cT j9 Tryz.f45 nZ := cV Tryz.func45 [] [(3, .inv [16] [1, 2, 14, 15] [(1, []), (2, [])])] [] fun _ => by kernel_rfl
abbrev ck : FuncId := 46
def cg (v : List Value) : Tree :=
 c1 76 [g v 0,g v 1] fun l0 =>
 pH (g l0 0) (iv 0) fun v1 =>
 .ret v1 []
theorem dR : cT ck Tryz.f46 cg := cV Tryz.func46 [] [] [] fun _ => by kernel_rfl
abbrev oi : FuncId := 47
def nY (v : List Value) : Tree :=
 pL (g v 0) (iv 0) fun v0 =>
 .ret v0 []
theorem pz : cT oi Tryz.f47 nY := cV Tryz.func47 [] [] [] fun _ => by kernel_rfl
abbrev jm : FuncId := 50
def jj (v : List Value) : Tree :=
 .newbox fun r0 =>
 .ret (.func (.func 80) #[] #[pt r0 0]) [⟨r0,9,[g v 0]⟩]
theorem kY : cT jm Tryz.f50 jj := cV Tryz.func50 [] [] [] fun _ => by kernel_rfl
abbrev oe : FuncId := 51
def nV (v : List Value) : Tree :=
 .newbox fun r0 =>
 cS 82 [g v 1,.string ⟨#[10]⟩] (.tup [none,none]) fun l0 =>
 cS 83 [g l0 0,.string ⟨#[32]⟩] (.tup [none,none,none]) fun l1 =>
 cS 84 [g l1 0] (.tup [none,none]) fun l2 =>
 pO (g l0 1) fun v3 =>
 kV v3 <|
 pO (g l1 2) fun v4 =>
 kV v3 <|
 pK v3 (.bool true) v4 fun v5 =>
 kV v5 <|
 .pure [] (.bin .eql .str) [g l1 1,.string ⟨#[]⟩] fun v6 =>
 kV v5 <|
 pK v5 (.bool true) v6 fun v7 =>
 kV v7 <|
 .raw [(v7,false)] (.eqv .neq 96 true) [g l2 1,.nilIface] fun v8 =>
 kV v7 <|
 pK v7 (.bool true) v8 fun v9 =>
 .br v9 (
 kN r0 <|
 kN r0 <|
 .ret (.tuple #[.agg #[iv 0,iv 0],iv 6]) []) (
 c1 40 [g l2 0] fun l10 =>
 .pure [] (.bin .neq .str) [g l10 0,g l1 0] fun v11 =>
 kV v11 <|
 pL (g l2 0) (iv 1) fun v12 =>
 kV v11 <|
 pK v11 (.bool true) v12 fun v13 =>
 kV v13 <|
 pG (g l2 0) (iv 60) fun v14 =>
 kV v13 <|
 pK v13 (.bool true) v14 fun v15 =>
 .br v15 (
 kN r0 <|
 kN r0 <|
 .ret (.tuple #[.agg #[iv 0,iv 0],iv 6]) []) (
 cS 85 [g v 0,g l1 1] (.tup [none,none]) fun l16 =>
 kN r0 <|
 kN r0 <|
 .ret (.tuple #[.agg #[g l16 0,g l2 0],g l16 1]) []))
theorem pu : cT oe Tryz.f51 nV := cV Tryz.func51 [] [] [] fun _ => by kernel_rfl
abbrev aQ : FuncId := 52
def aO (v : List Value) : Tree :=
 c1 86 [g v 0,g v 1] fun l0 =>
 pH (g l0 0) (iv 0) fun v1 =>
 .ret v1 []
theorem bM : cT aQ Tryz.f52 aO := cV Tryz.func52 [] [] [] fun _ => by kernel_rfl
abbrev jR : FuncId := 53
def jN (v : List Value) : Tree :=
 .newbox fun r0 =>
 kN r0 <|
 kP (g v 2) <|
 .load [] (g v 2) 1 fun l0 =>
 pE (g v 0) (g l0 0) fun v1 =>
 .ret v1 []
theorem mq : cT jR Tryz.f53 jN := cV Tryz.func53 [] [] [] fun _ => by kernel_rfl
abbrev ik : FuncId := 58
def ic (v : List Value) : Tree :=
 .pure [] (.bin .eql .ptr) [g v 0,.pointer none] fun v0 =>
 .chk (.ptr [(v0,false)] (g v 0)) <|
 kV v0 <|
 .chk (.ptr [(v0,false)] (g v 0)) <|
 kV v0 <|
 kV v0 <|
 .load [(v0,false)] (bN (g v 0) 1) 1 fun l1 =>
 kV v0 <|
 .pure [] (.bin .eql .map) [g l1 0,.map none] fun v2 =>
 kV v0 <|
 pK v0 (.bool true) v2 fun v3 =>
 .ret v3 []
theorem kf : cT ik Tryz.f58 ic := cV Tryz.func58 [] [] [] fun _ => by kernel_rfl
abbrev ml : FuncId := 65
def lZ (v : List Value) : Tree :=
 .pure [] .slen [g v 0] fun v0 =>
 c1 66 [v0,iv 1,iv 32] fun l1 =>
 pO (g l1 0) fun v2 =>
 .br v2 (
 .ret (.bool false) []) (
 c1 96 [g v 0,.string ⟨#[32]⟩] fun l3 =>
 .pure [] (.bin .neq .str) [g l3 0,g v 0] fun v4 =>
 .br v4 (
 .ret (.bool false) []) (
 .prim (.convert 9 92) [g v 0] [] [] .one fun l5 _ =>
 pZ (g l5 0) fun v6 =>
 .loop 15 4 [iv 0] fun C15 l7 =>
 pL (g l7 0) v6 fun v8 =>
 .br v8 (
 pI 1 (g l5 0) (g l7 0) fun v9 =>
 .load [] v9 1 fun l10 =>
 pL (g l10 0) (.int .u8 32) fun v11 =>
 kV v11 <|
 pG (g l10 0) (.int .u8 126) fun v12 =>
 kV v11 <|
 pK v11 (.bool true) v12 fun v13 =>
 .br v13 (
 .ret (.bool false) []) (
 pA (g l7 0) (iv 1) fun v14 =>
 .cont 15 C15 [v14] (Es [[g l5 0],[v6]]))) (
 .ret (.bool true) [])))
theorem oz : cT ml Tryz.f65 lZ := cV Tryz.func65 [] [(4, .inv [18] [16, 17] [])] [] fun _ => by kernel_rfl
abbrev kS : FuncId := 66
def kM (v : List Value) : Tree :=
 pH (g v 0) (g v 1) fun v0 =>
 kV v0 <|
 kV v0 <|
 pM (g v 0) (g v 2) fun v1 =>
 kV v0 <|
 pK v0 v1 (.bool false) fun v2 =>
 .ret v2 []
theorem mS : cT kS Tryz.f66 kM := cV Tryz.func66 [] [] [] fun _ => by kernel_rfl
abbrev io : FuncId := 67
def ii (v : List Value) : Tree :=
 .newbox fun r0 =>
 kN r0 <|
 c1 97 [ag (G4 v 0),iv 20] fun l0 =>
 kN r0 <|
 kV (g l0 0) <|
 kV (g l0 0) <|
 pH (g v 4) (iv 0) fun v1 =>
 kV (g l0 0) <|
 pK (g l0 0) v1 (.bool false) fun v2 =>
 kN r0 <|
 kV v2 <|
 kV v2 <|
 pM (g v 4) (iv 20) fun v3 =>
 kV v2 <|
 pK v2 v3 (.bool false) fun v4 =>
 .ret v4 []
theorem ki : cT io Tryz.f67 ii := cV Tryz.func67 [] [] [] fun _ => by kernel_rfl
abbrev me : FuncId := 68
def lT (v : List Value) : Tree :=
 pZ (g v 0) fun v0 =>
 pM v0 (iv 4) fun v1 =>
 .br v1 (
 c1 72 [g v 0,.func (.func 98) #[] #[]] fun l2 =>
 pO (g l2 0) fun v3 =>
 .ret v3 []) (
 .ret (.bool false) [])
theorem ot : cT me Tryz.f68 lT := cV Tryz.func68 [] [] [] fun _ => by kernel_rfl
abbrev mc : FuncId := 69
def lS (v : List Value) : Tree :=
 .newbox fun r0 =>
 kN r0 <|
 c1 67 [ag (G5 v 0)] fun l0 =>
 pO (g l0 0) fun v1 =>
 .br v1 (
 .ret (iv 0) []) (
 kN r0 <|
 kN r0 <|
 c1 100 [ag (G4 v 0)] fun l2 =>
 pA (g l2 0) (g v 4) fun v3 =>
 .ret v3 [])
theorem oq : cT mc Tryz.f69 lS := cV Tryz.func69 [] [] [] fun _ => by kernel_rfl
abbrev mi : FuncId := 70
def lX (v : List Value) : Tree :=
 .newbox fun r0 =>
 kN r0 <|
 pE (g v 8) (iv 0) fun v0 =>
 kN r0 <|
 kV v0 <|
 kV v0 <|
 pE (g v 9) (iv 0) fun v1 =>
 kV v0 <|
 pK v0 v1 (.bool false) fun v2 =>
 kN r0 <|
 kV v2 <|
 kV v2 <|
 pE (g v 10) (iv 0) fun v3 =>
 kV v2 <|
 pK v2 v3 (.bool false) fun v4 =>
 kN r0 <|
 kV v4 <|
 kV v4 <|
 pZ (g v 12) fun v5 =>
 kV v4 <|
 pE v5 (iv 0) fun v6 =>
 kV v4 <|
 pK v4 v6 (.bool false) fun v7 =>
 .ret v7 []
theorem ox : cT mi Tryz.f70 lX := cV Tryz.func70 [] [] [] fun _ => by kernel_rfl
abbrev jo : FuncId := 71
def jl (v : List Value) : Tree :=
 pZ (g v 0) fun v0 =>
 .loop 4 2 [iv 0] fun C4 l1 =>
 pL (g l1 0) v0 fun v2 =>
 .br v2 (
 pI 2 (g v 0) (g l1 0) fun v3 =>
 .load [] v3 2 fun l4 =>
 .newbox fun r0 =>
 kN r0 <|
 kN r0 <|
 c1 66 [g l4 0,iv 1,iv 3] fun l5 =>
 pO (g l5 0) fun v6 =>
 .br v6 (
 .ret (.bool false) []) (
 kN r0 <|
 pZ (g l4 1) fun v7 =>
 c1 66 [v7,iv 1,iv 2] fun l8 =>
 pO (g l8 0) fun v9 =>
 .br v9 (
 .ret (.bool false) []) (
 kN r0 <|
 c1 68 [g l4 1] fun l10 =>
 pO (g l10 0) fun v11 =>
 .br v11 (
 .ret (.bool false) []) (
 kN r0 <|
 c1 101 [g l4 1] fun l12 =>
 pO (g l12 0) fun v13 =>
 .br v13 (
 .ret (.bool false) []) (
 .pure [] (.slc 2 false true false) [g v 0,g l1 0] fun v14 =>
 .call false 102 [v14,.func (.func 103) #[] #[pt r0 0]] [] [⟨r0,71,[g l4 0,g l4 1]⟩] .one fun l15 c15 =>
 .br (g l15 0) (
 .ret (.bool false) []) (
 pA (g l1 0) (iv 1) fun v16 =>
 .cont 4 C4 [v16] (Es [[g v 0],[g v 0],[v0]]))))))) (
 pZ (g v 0) fun v17 =>
 pM v17 (iv 2) fun v18 =>
 .ret v18 [])
theorem lc : cT jo Tryz.f71 jl := cV Tryz.func71 [] [(2, .inv [7] [0, 5, 6] [])] [] fun _ => by kernel_rfl
abbrev aP : FuncId := 72
def aN (v : List Value) : Tree :=
 c1 104 [g v 0,g v 1] fun l0 =>
 pH (g l0 0) (iv 0) fun v1 =>
 .ret v1 []
theorem bL : cT aP Tryz.f72 aN := cV Tryz.func72 [] [] [] fun _ => by kernel_rfl
abbrev kT : FuncId := 73
def kO (v : List Value) : Tree :=
 .newbox fun r0 =>
 kN r0 <|
 pE (g v 1) (iv 0) fun v0 =>
 kN r0 <|
 kV v0 <|
 kV v0 <|
 pE (g v 0) (iv 8) fun v1 =>
 kV v0 <|
 kN r0 <|
 kV v1 <|
 kV v0 <|
 kV v1 <|
 kV v0 <|
 pE (g v 0) (iv 9) fun v2 =>
 kV v0 <|
 kV v1 <|
 kV v0 <|
 pK v1 (.bool true) v2 fun v3 =>
 kV v0 <|
 pK v0 v3 (.bool false) fun v4 =>
 .ret v4 []
theorem mT : cT kT Tryz.f73 kO := cV Tryz.func73 [] [] [] fun _ => by kernel_rfl
abbrev bo : FuncId := 74
def bn (v : List Value) : Tree :=
 .pure [] (.bin .eql .slice) [g v 0,.slice none 0 0] fun v0 =>
 .br v0 (
 .ret (.slice none 0 0) []) (
 .newbox fun r0 =>
 .prim (.bi .append #[65,65] 65) [.slice (some ⟨r0,0,none⟩) 0 0,g v 0] [⟨r0,110,[]⟩] [] .one fun l1 _ =>
 .ret (g l1 0) [])
theorem cM : cT bo Tryz.f74 bn := cV Tryz.func74 [] [] [] fun _ => by kernel_rfl
abbrev bc : FuncId := 75
def bb (v : List Value) : Tree :=
 .pure [] (.bin .eql .slice) [g v 0,.slice none 0 0] fun v0 =>
 .br v0 (
 .ret (.slice none 0 0) []) (
 .newbox fun r0 =>
 .prim (.bi .append #[66,66] 66) [.slice (some ⟨r0,0,none⟩) 0 0,g v 0] [⟨r0,71,[]⟩] [] .one fun l1 _ =>
 .ret (g l1 0) [])
theorem cu : cT bc Tryz.f75 bb := cV Tryz.func75 [] [] [] fun _ => by kernel_rfl
abbrev cU : FuncId := 76
def cR (v : List Value) : Tree :=
 pZ (g v 0) fun v0 =>
 .loop 4 2 [iv 0] fun C4 l1 =>
 pL (g l1 0) v0 fun v2 =>
 .br v2 (
 pI 1 (g v 0) (g l1 0) fun v3 =>
 .load [] v3 1 fun l4 =>
 .callv false (g v 1) [g l4 0] [] [] .one fun l5 _ =>
 .br (g l5 0) (
 .ret (g l1 0) []) (
 pA (g l1 0) (iv 1) fun v6 =>
 .cont 4 C4 [v6] (Es [[g v 0],[g v 1],[v0]]))) (
 .ret (iv (-1)) [])
theorem eH : cT cU Tryz.f76 cR := cV Tryz.func76 [] [(2, .inv [8] [0, 1, 7] [])] [] fun _ => by kernel_rfl
abbrev il : FuncId := 85
def ie (v : List Value) : Tree :=
 c1 58 [g v 0] fun l0 =>
 .br (g l0 0) (
 .ret (.tuple #[iv 0,iv 1]) []) (
 kP (g v 0) <|
 kP (g v 0) <|
 .load [] (bN (g v 0) 1) 1 fun l1 =>
 .prim (.lookup 103 true) [g l1 0,g v 1] [] [] (.tup [none,none]) fun l2 _ =>
 pO (g l2 1) fun v3 =>
 .br v3 (
 .ret (.tuple #[iv 0,iv 9]) []) (
 .ret (.tuple #[g l2 0,iv 0]) []))
theorem kg : cT il Tryz.f85 ie := cV Tryz.func85 [] [] [] fun _ => by kernel_rfl
abbrev a7 : FuncId := 86
def aY (v : List Value) : Tree :=
 pZ (g v 0) fun v0 =>
 .loop 4 2 [iv 0] fun C4 l1 =>
 pL (g l1 0) v0 fun v2 =>
 .br v2 (
 pI 2 (g v 0) (g l1 0) fun v3 =>
 .load [] v3 2 fun l4 =>
 .callv false (g v 1) [.agg #[g l4 0,g l4 1]] [] [] .one fun l5 _ =>
 .br (g l5 0) (
 .ret (g l1 0) []) (
 pA (g l1 0) (iv 1) fun v6 =>
 .cont 4 C4 [v6] (Es [[g v 0],[g v 1],[v0]]))) (
 .ret (iv (-1)) [])
theorem b9 : cT a7 Tryz.f86 aY := cV Tryz.func86 [] [(2, .inv [8] [0, 1, 7] [])] [] fun _ => by kernel_rfl
abbrev kR : FuncId := 97
def kL (v : List Value) : Tree :=
 .newbox fun r0 =>
 kN r0 <|
 .loop 4 2 [iv 0] fun C4 l0 =>
 pL (g l0 0) (iv 4) fun v1 =>
 .br v1 (
 .pure [] .aidx ((g l0 0)::G4 v 0) fun v2 =>
 pL v2 (iv 0) fun v3 =>
 kV v3 <|
 kV v3 <|
 pG v2 (g v 4) fun v4 =>
 kV v3 <|
 pK v3 (.bool true) v4 fun v5 =>
 .br v5 (
 .ret (.bool false) []) (
 pA (g l0 0) (iv 1) fun v6 =>
 .cont 4 C4 [v6] (Es [[g v 4],G4 v 0]))) (
 .ret (.bool true) [])
theorem mP : cT kR Tryz.f97 kL := cV Tryz.func97 [] [(2, .inv [8] [1, 7] [])] [] fun _ => by kernel_rfl
abbrev jQ : FuncId := 98
def jM (v : List Value) : Tree :=
 .newbox fun r0 =>
 kN r0 <|
 c1 99 [ag (G5 v 0)] fun l0 =>
 pO (g l0 0) fun v1 =>
 .ret v1 []
theorem mo : cT jQ Tryz.f98 jM := cV Tryz.func98 [] [] [] fun _ => by kernel_rfl
abbrev jP : FuncId := 99
def jL (v : List Value) : Tree :=
 .newbox fun r0 =>
 kN r0 <|
 c1 137 [g v 0] fun l0 =>
 .raw [] (.eqv .neq 195 true) [g l0 0,.nilIface] fun v1 =>
 .br v1 (
 kN r0 <|
 .callm false "zeitnot/effect.fits" (g l0 0) [ag (G5 v 0)] [] [] .one fun l2 _ =>
 .ret (g l2 0) []) (
 .ret (.bool false) [])
theorem mn : cT jP Tryz.f99 jL := cV Tryz.func99 [] [] [] fun _ => by kernel_rfl
abbrev pg : FuncId := 100
def pd (v : List Value) : Tree :=
 .newbox fun r0 =>
 kN r0 <|
 .loop 5 3 [iv 0,iv 0] fun C5 l0 =>
 pL (g l0 1) (iv 4) fun v1 =>
 .br v1 (
 .pure [] .aidx ((g l0 1)::G4 v 0) fun v2 =>
 pA (g l0 0) v2 fun v3 =>
 pA (g l0 1) (iv 1) fun v4 =>
 .cont 5 C5 [v3,v4] (Es [G4 v 0])) (
 .ret (g l0 0) [])
theorem qK : cT pg Tryz.f100 pd := cV Tryz.func100 [] [(3, .inv [3, 7] [6] [])] [] fun _ => by kernel_rfl
abbrev mj : FuncId := 101
def lY (v : List Value) : Tree :=
 c1 138 [g v 0] fun l0 =>
 pE (g l0 0) (iv 0) fun v1 =>
 .ret v1 []
theorem oy : cT mj Tryz.f101 lY := cV Tryz.func101 [] [] [] fun _ => by kernel_rfl
abbrev aF : FuncId := 102
def aE (v : List Value) : Tree :=
 c1 139 [g v 0,g v 1] fun l0 =>
 pH (g l0 0) (iv 0) fun v1 =>
 .ret v1 []
theorem bF : cT aF Tryz.f102 aE := cV Tryz.func102 [] [] [] fun _ => by kernel_rfl
abbrev bq : FuncId := 103
def gm (v : List Value) : Tree :=
 .newbox fun r0 =>
 kN r0 <|
 kP (g v 2) <|
 .load [] (g v 2) 1 fun l0 =>
 pE (g v 0) (g l0 0) fun v1 =>
 .ret v1 []
theorem jW : cT bq Tryz.f103 gm := cV Tryz.func103 [] [] [] fun _ => by kernel_rfl
abbrev a6 : FuncId := 104
def aX (v : List Value) : Tree :=
 pZ (g v 0) fun v0 =>
 .loop 4 2 [iv 0] fun C4 l1 =>
 pL (g l1 0) v0 fun v2 =>
 .br v2 (
 pI 5 (g v 0) (g l1 0) fun v3 =>
 .load [] v3 5 fun l4 =>
 .callv false (g v 1) [ag (G5 l4 0)] [] [] .one fun l5 _ =>
 .br (g l5 0) (
 .ret (g l1 0) []) (
 pA (g l1 0) (iv 1) fun v6 =>
 .cont 4 C4 [v6] (Es [[g v 0],[g v 1],[v0]]))) (
 .ret (iv (-1)) [])
theorem b8 : cT a6 Tryz.f104 aX := cV Tryz.func104 [] [(2, .inv [8] [0, 1, 7] [])] [] fun _ => by kernel_rfl
abbrev od : FuncId := 137
def dK (a : Value) (b : Nat) (c : List Value) (d : Nat) : Tree :=
 .br a (
 .prim (.mkIface 228 false) [.slice (some ⟨b,0,none⟩) 3 3] [⟨b,108,[iv 1,iv 2,iv 3]⟩] [] .one fun l8 _ =>
 .ret (g l8 0) []) (
 pE (g c 0) (iv 7) fun v9 =>
 .br v9 (
 .newbox fun r4 =>
 .prim (.mkIface 228 false) [.slice (some ⟨r4,0,none⟩) 1 1] [⟨r4,108,[iv 6]⟩] [] .one fun l10 _ =>
 .ret (g l10 0) []) (
 pE (g c 0) (iv 8) fun v11 =>
 .br v11 (
 .call false 170 [.slice (some ⟨b,0,none⟩) 3 3] [⟨b,108,[iv 1,iv 2,iv 3]⟩] [] .one fun l12 _ =>
 .newbox fun r5 =>
 .prim (.bi .append #[228,228] 228) [g l12 0,.slice (some ⟨r5,0,none⟩) 1 1] [⟨r5,108,[iv 0]⟩] [] .one fun l13 _ =>
 .ret (.iface 233 (.agg #[g l13 0,iv 0])) []) (
 pE (g c 0) (iv 9) fun v14 =>
 .br v14 (
 .call false 170 [.slice (some ⟨b,0,none⟩) 3 3] [⟨b,108,[iv 1,iv 2,iv 3]⟩] [] .one fun l15 _ =>
 .newbox fun r6 =>
 .prim (.bi .append #[228,228] 228) [g l15 0,.slice (some ⟨r6,0,none⟩) 1 1] [⟨r6,108,[iv 0]⟩] [] .one fun l16 _ =>
 .ret (.iface 231 (.agg #[g l16 0,iv 9])) []) (
 pE (g c 0) (iv 10) fun v17 =>
 .br v17 (
 .prim (.mkIface 233 true) [.slice (some ⟨d,0,none⟩) 1 1,iv 1] [⟨d,108,[iv 0]⟩] [] .one fun l18 _ =>
 .ret (g l18 0) []) (
 pE (g c 0) (iv 12) fun v19 =>
 .br v19 (
 .prim (.mkIface 235 true) [.slice (some ⟨d,0,none⟩) 1 1,iv 9] [⟨d,108,[iv 0]⟩] [] .one fun l20 _ =>
 .ret (g l20 0) []) (
 .ret .nilIface []))))))
def eQ (a : Value) (b : Nat) (c : List Value) (d e : Nat) : Tree :=
 .br a (
 .prim (.mkIface 231 true) [.slice (some ⟨b,0,none⟩) 2 2,iv 99] [⟨b,108,[iv 0,iv 4]⟩] [] .one fun l6 _ =>
 .ret (g l6 0) []) (
 pE (g c 0) (iv 5) fun v7 =>
 .br v7 (
 dK v7 d c e) (
 pE (g c 0) (iv 6) fun v21 =>
 .br v21 (
 dK v21 d c e) (
 pE (g c 0) (iv 11) fun v35 =>
 dK v35 d c e)))
def nU (v : List Value) : Tree :=
 .newbox fun r0 =>
 .newbox fun r1 =>
 .newbox fun r2 =>
 pE (g v 0) (iv 1) fun v0 =>
 .br v0 (
 .call false 170 [.slice (some ⟨r2,0,none⟩) 3 3] [⟨r2,108,[iv 1,iv 2,iv 3]⟩] [] .one fun l1 _ =>
 .newbox fun r3 =>
 .prim (.bi .append #[228,228] 228) [g l1 0,.slice (some ⟨r3,0,none⟩) 2 2] [⟨r3,108,[iv 4,iv 5]⟩] [] .one fun l2 _ =>
 .ret (.iface 231 (.agg #[g l2 0,iv 99])) []) (
 pE (g v 0) (iv 2) fun v3 =>
 .br v3 (
 .prim (.mkIface 231 true) [.slice (some ⟨r1,0,none⟩) 2 2,iv 7] [⟨r1,108,[iv 0,iv 4]⟩] [] .one fun l4 _ =>
 .ret (g l4 0) []) (
 pE (g v 0) (iv 3) fun v5 =>
 .br v5 (
 eQ v5 r1 v r2 r0) (
 pE (g v 0) (iv 4) fun v49 =>
 eQ v49 r1 v r2 r0)))
theorem pr : cT od Tryz.f137 nU := cV Tryz.func137 [] [] [] fun _ => by kernel_rfl
abbrev ip : FuncId := 138
def ij (v : List Value) : Tree :=
 pZ (g v 0) fun v0 =>
 .loop 5 3 [iv 0,iv 0] fun C5 l1 =>
 pL (g l1 1) v0 fun v2 =>
 .br v2 (
 pI 5 (g v 0) (g l1 1) fun v3 =>
 .load [] v3 5 fun l4 =>
 .newbox fun r0 =>
 kN r0 <|
 kN r0 <|
 pN (g l4 1) (iv 0) fun v5 =>
 .br v5 (
 pA (g l1 0) (iv 1) fun v6 =>
 pA (g l1 1) (iv 1) fun v7 =>
 .cont 5 C5 [v6,v7] (Es [[g v 0],[v0]])) (
 pA (g l1 1) (iv 1) fun v8 =>
 .cont 5 C5 [g l1 0,v8] (Es [[g v 0],[v0]]))) (
 .ret (g l1 0) [])
theorem kj : cT ip Tryz.f138 ij := cV Tryz.func138 [] [(3, .inv [3, 8] [6, 7] [])] [] fun _ => by kernel_rfl
abbrev aT : FuncId := 139
def aS (v : List Value) : Tree :=
 pZ (g v 0) fun v0 =>
 .loop 4 2 [iv 0] fun C4 l1 =>
 pL (g l1 0) v0 fun v2 =>
 .br v2 (
 pI 2 (g v 0) (g l1 0) fun v3 =>
 .load [] v3 2 fun l4 =>
 .callv false (g v 1) [.agg #[g l4 0,g l4 1]] [] [] .one fun l5 _ =>
 .br (g l5 0) (
 .ret (g l1 0) []) (
 pA (g l1 0) (iv 1) fun v6 =>
 .cont 4 C4 [v6] (Es [[g v 0],[g v 1],[v0]]))) (
 .ret (iv (-1)) [])
theorem bT : cT aT Tryz.f139 aS := cV Tryz.func139 [] [(2, .inv [8] [0, 1, 7] [])] [] fun _ => by kernel_rfl
abbrev a8 : FuncId := 170
def aZ (v : List Value) : Tree :=
 pZ (g v 0) fun v0 =>
 pZ (g v 0) fun v1 =>
 .pure [] (.slc 1 false true true) [g v 0,v0,v1] fun v2 =>
 .ret v2 []
theorem cd : cT a8 Tryz.f170 aZ := cV Tryz.func170 [] [] [] fun _ => by kernel_rfl

abbrev dM : FuncId := 210
def fF (v : List Value) : Tree :=
 .newbox fun r0 =>
 kN r0 <|
 c1 211 [g v 0,g v 2] fun l0 =>
 kN r0 <|
 kV (g l0 0) <|
 kV (g l0 0) <|
 pE (g v 3) (iv 0) fun v1 =>
 kV (g l0 0) <|
 pK (g l0 0) v1 (.bool false) fun v2 =>
 kN r0 <|
 kV v2 <|
 kV v2 <|
 pE (g v 4) (iv 0) fun v3 =>
 kV v2 <|
 pK v2 v3 (.bool false) fun v4 =>
 kN r0 <|
 kV v4 <|
 kV v4 <|
 pE (g v 5) (iv 0) fun v5 =>
 kV v4 <|
 pK v4 v5 (.bool false) fun v6 =>
 .ret v6 []
theorem jD : cT dM Tryz.f210 fF := cV Tryz.func210 [] [] [] fun _ => by kernel_rfl
abbrev aH : FuncId := 211
def aG (v : List Value) : Tree :=
 c1 212 [g v 0,g v 1] fun l0 =>
 pH (g l0 0) (iv 0) fun v1 =>
 .ret v1 []
theorem bK : cT aH Tryz.f211 aG := cV Tryz.func211 [] [] [] fun _ => by kernel_rfl
abbrev aV : FuncId := 212
def aU (v : List Value) : Tree :=
 pZ (g v 0) fun v0 =>
 .loop 4 2 [iv 0] fun C4 l1 =>
 pL (g l1 0) v0 fun v2 =>
 .br v2 (
 pI 1 (g v 0) (g l1 0) fun v3 =>
 .load [] v3 1 fun l4 =>
 pE (g v 1) (g l4 0) fun v5 =>
 .br v5 (
 .ret (g l1 0) []) (
 pA (g l1 0) (iv 1) fun v6 =>
 .cont 4 C4 [v6] (Es [[g v 0],[g v 1],[v0]]))) (
 .ret (iv (-1)) [])
theorem bV : cT aV Tryz.f212 aU := cV Tryz.func212 [] [(2, .inv [8] [0, 1, 7] [])] [] fun _ => by kernel_rfl
abbrev cK : FuncId := 213
def ei (v : List Value) : Tree :=
 .newbox fun r0 =>
 .newbox fun r1 =>
 kN r1 <|
 kN r1 <|
 kN r0 <|
 c1 214 [g v 4,iv 1,g v 1] fun l0 =>
 .br (g l0 0) (
 kN r0 <|
 kN r1 <|
 c1 210 [g v 0,.agg #[g v 2,g v 3,iv 0,g v 5,g v 6]] fun l1 =>
 .ret (g l1 0) []) (
 .ret (.bool false) [])
theorem gz : cT cK Tryz.f213 ei := cV Tryz.func213 [] [] [] fun _ => by kernel_rfl
abbrev jn : FuncId := 214
def jk (v : List Value) : Tree :=
 pH (g v 0) (g v 1) fun v0 =>
 .br v0 (
 c1 215 [g v 0,g v 2] fun l1 =>
 pE (g l1 0) (g v 0) fun v2 =>
 .ret v2 []) (
 .ret (.bool false) [])
theorem kZ : cT jn Tryz.f214 jk := cV Tryz.func214 [] [] [] fun _ => by kernel_rfl
abbrev oc : FuncId := 215
def nT (v : List Value) : Tree :=
 .pure [] .min2 [g v 0,g v 1] fun v0 =>
 .pure [] .max2 [iv 0,v0] fun v1 =>
 .ret v1 []
theorem po : cT oc Tryz.f215 nT := cV Tryz.func215 [] [] [] fun _ => by kernel_rfl
abbrev cZ : FuncId := 216
def eD (v : List Value) : Tree :=
 .newbox fun r0 =>
 .newbox fun r1 =>
 kN r1 <|
 kN r1 <|
 kN r1 <|
 kN r1 <|
 c1 214 [g v 4,iv 0,iv 9] fun l0 =>
 .br (g l0 0) (
 kN r0 <|
 c1 214 [g v 5,g v 1,iv 9] fun l1 =>
 kV (g l1 0) <|
 kV (g l1 0) <|
 pA (g v 4) (g v 5) fun v2 =>
 kV (g l1 0) <|
 pG v2 (iv 0) fun v3 =>
 kV (g l1 0) <|
 pK (g l1 0) v3 (.bool false) fun v4 =>
 .br v4 (
 kN r0 <|
 kN r1 <|
 c1 210 [g v 0,.agg #[g v 2,g v 3,iv 0,iv 0,g v 6]] fun l5 =>
 .ret (g l5 0) []) (
 .ret (.bool false) [])) (
 .ret (.bool false) [])
theorem iy : cT cZ Tryz.f216 eD := cV Tryz.func216 [] [] [] fun _ => by kernel_rfl
abbrev cn : FuncId := 217
def dO (v : List Value) : Tree :=
 .newbox fun r0 =>
 .newbox fun r1 =>
 kN r1 <|
 kN r1 <|
 c1 214 [g v 6,iv 0,iv 3] fun l0 =>
 .br (g l0 0) (
 kN r0 <|
 kN r1 <|
 c1 213 [.agg #[g v 0,g v 1],ag (G4 v 2 ++ [iv 0])] fun l1 =>
 .ret (g l1 0) []) (
 .ret (.bool false) [])
theorem fU : cT cn Tryz.f217 dO := cV Tryz.func217 [] [] [] fun _ => by kernel_rfl

end Go.Proofs.YtamgiojcbdbokaaGreatDoor
