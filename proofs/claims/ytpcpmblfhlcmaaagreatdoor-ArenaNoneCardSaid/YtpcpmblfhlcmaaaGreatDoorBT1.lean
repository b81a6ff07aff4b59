/- The trees of the functions of this seat: printed by a tool of mine; each by the kernel's reckoning equal to the evaluator's. -/
import Derived.Test.YtpcpmblfhlcmaaaGreatDoorFw2
import Derived.Test.YtpcpmblfhlcmaaaGreatDoorProg
import Derived.KernelRfl
namespace Go.Proofs.YtpcpmblfhlcmaaaGreatDoor
open Go Go.Sx
set_option maxRecDepth 100000
noncomputable abbrev PP : Program := Tryz.prog
theorem qR : PP.follows .mixedOrders = true := by kernel_rfl
def okL : List Nat := [2, 3, 4, 5, 6, 7, 8, 9, 10, 11, 12, 13, 14, 15, 16, 17, 18, 19, 20, 21, 22, 23, 24, 25, 26, 27, 28, 29, 30, 31, 32, 33, 34, 35, 36, 37, 38, 39, 40, 41, 42, 43, 44, 45, 46, 47, 48, 49, 50, 51, 52, 53, 54, 55, 56, 57, 58, 59, 60, 61, 62, 63, 64, 65, 66, 67, 68, 69, 70, 71, 72, 73, 74, 75, 76, 77, 78, 79, 80, 81, 82, 83, 84, 85, 86, 87, 88, 89, 90, 91, 92, 93, 94, 95, 96, 97, 98, 99, 100, 101, 102, 103, 104, 105, 106, 107, 108, 109, 110, 111, 112, 113, 114, 115, 116, 117, 118, 119, 120, 121, 122, 123, 124, 125, 126, 127, 128, 129, 130, 131, 132, 133, 134, 135, 136, 137, 138, 139, 140, 141, 142, 143, 144, 145, 146, 147, 148, 149, 150, 151, 152, 153, 154, 155, 156, 157, 158, 159, 160, 161, 162, 163, 164, 165, 166, 167, 168, 169, 170, 171, 172, 173, 174, 175, 176, 177, 178, 179, 180, 181, 182, 183, 184, 185, 186, 187, 188, 189, 190, 191, 192, 193, 194, 195, 196, 197, 198, 199, 200, 201, 202, 203, 204, 205, 206, 207, 208, 209, 210, 211, 212, 213, 214, 215, 216, 217, 218, 219, 220, 221, 222, 223, 224, 225, 226, 227, 228, 229, 230, 231, 232, 233, 234, 235, 236, 237, 238, 239, 240, 241, 242, 243, 244, 245, 246, 247, 248, 249, 250, 251, 252, 253, 254, 255, 256, 257, 258, 259, 260, 261, 262, 263, 264, 265, 266, 267, 268, 269, 270, 271, 272, 273, 274, 275, 276, 277, 278, 279, 280, 281, 282, 283, 284, 285, 286, 287, 288, 289, 290, 291, 292, 293, 294, 295, 296, 297, 298, 299, 300, 301, 302, 303, 304, 305, 306, 307, 308, 309, 310, 311, 312, 313, 314, 315, 316, 317, 318, 319, 320, 321, 322, 323, 324, 325, 326, 327, 328, 329, 330, 331, 332, 333, 334, 335, 336, 337, 338, 339, 340, 342, 343, 344, 345, 346, 347, 348, 349, 350, 351, 352, 353, 354, 355, 356, 357, 358, 359, 360, 361, 362, 363, 364, 365, 366, 367, 368, 369, 371, 372, 389, 390, 391, 392, 393, 394, 395, 404]
theorem fP : okL.all (Aa PP) = true := by kernel_rfl
def eB (f : FuncId) (fn : Func) (T : List Value → Tree) : Prop := ∀ {args vs : List Value}, im PP fn args = some vs → Ones vs → ∀ {H : Heap} {O : Go.Sx.Own} {Q : Value → Heap → Go.Sx.Own → Prop}, (T vs).den PP Q H O → Triple PP f args H O Q
theorem eE {f : FuncId} {fn : Func} {T : List Value → Tree} (hf : PP.funcs[f]? = some fn) (a : _) (b : _) (c : _) (e : ∀ vs, yI PP fn (uI okL a b c) vs = T vs) : eB f fn T := fun ha ho _ _ _ h => u3 qR (nK fP _ _ _) hf e ha ho h
abbrev ec : TypeId := 3
abbrev uk : TypeId := 4
abbrev aQ : TypeId := 369
abbrev bj : TypeId := 370
abbrev Z5 : List Value := [iv 0,iv 0,iv 0,iv 0,iv 0,iv 0,iv 0,iv 0,iv 0,.bool false,.bool false,.bool false]
abbrev Z6 : List Value := [.string ⟨#[]⟩,iv 0,iv 0,iv 0,iv 0,iv 0,iv 0,iv 0,iv 0,iv 0,iv 0,.slice none 0 0,.slice none 0 0,iv 0]
abbrev aN : FuncId := 3
abbrev aX : FuncId := 8
abbrev oQ : FuncId := 51
def oM (v : List Value) : Tree :=
 .newbox fun r0 =>
 .newbox fun r1 =>
 kN r0 <|
 kN r0 <|
 c1 86 [g v 11] fun l0 =>
 c1 87 [g v 12] fun l1 =>
 kN r0 <|
 kN r0 <|
 kN r0 <|
 pZ (g l1 0) fun v2 =>
 .loop 16 3 [iv 0] fun C16 l3 =>
 pL (g l3 0) v2 fun v4 =>
 .br v4 (
 pI 2 (g l1 0) (g l3 0) fun v5 =>
 .load [] v5 2 fun l6 =>
 .newbox fun r2 =>
 kN r2 <|
 kN r0 <|
 kN r2 <|
 c1 86 [g l6 1] fun l7 =>
 pI 2 (g l1 0) (g l3 0) fun v8 =>
 kP v8 <|
 kP (dq v8 1) <|
 .store (dq v8 1) [g l7 0] <|
 pA (g l3 0) (iv 1) fun v9 =>
 .cont 16 C16 [v9] (Es [[pt r0 0],[pt r1 0],[g l1 0],[v2],((pt r0 0)::(G11 v 0 ++ [g l0 0,g l1 0,g v 13])),[pt r1 0,.string ⟨#[]⟩,iv 0,iv 0,iv 0,iv 0,iv 0,iv 0,iv 0,iv 0,iv 0,iv 0,.slice none 0 0,.slice none 0 0,iv 0]])) (
 kN r0 <|
 kN r1 <|
 kN r1 <|
 .ret (ag (G11 v 0 ++ [g l0 0,g l1 0,g v 13])) [])
theorem qC : eB oQ Tryz.f51 oM := eE Tryz.func51 [(91, [5, 6, 7, 8])] [(3, .inv [16] [1, 2, 14, 15] [(1, []), (2, [])])] [] fun _ => by kernel_rfl
end Go.Proofs.YtpcpmblfhlcmaaaGreatDoor
