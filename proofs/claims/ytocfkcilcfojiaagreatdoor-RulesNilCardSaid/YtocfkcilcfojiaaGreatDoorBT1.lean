/- The trees of the functions of this seat: printed by a tool of mine; each by the kernel's reckoning equal to the evaluator's. -/
import Derived.Test.YtocfkcilcfojiaaGreatDoorFw2
import Derived.Test.YtocfkcilcfojiaaGreatDoorProg
import Derived.KernelRfl
namespace Go.Proofs.YtocfkcilcfojiaaGreatDoor
open Go Go.Sx
set_option maxRecDepth 100000
noncomputable abbrev PP : Program := Tryz.prog
theorem ow : PP.follows .mixedOrders = true := by kernel_rfl
def okL : List Nat := [2, 3, 4, 5, 6, 7, 8, 9, 10, 11, 12, 13, 14, 15, 16, 17, 18, 19, 20, 21, 22, 23, 24, 25, 26, 27, 28, 29, 30, 31, 32, 33, 34, 35, 36, 37, 38, 39, 40, 41, 42, 43, 44, 45, 46, 47, 48, 49, 50, 51, 52, 53, 54, 55, 56, 57, 58, 59, 60, 61, 62, 63, 64, 65, 66, 67, 68, 69, 70, 71, 72, 73, 74, 75, 76, 77, 78, 79, 80, 81, 82, 83, 84, 85, 86, 87, 88, 89, 90, 91, 92, 93, 94, 95, 96, 97, 98, 99, 100, 101, 102, 103, 104, 105, 106, 107, 108, 109, 110, 111, 112, 113, 114, 115, 116, 117, 118, 119, 120, 121, 122, 123, 124, 125, 126, 127, 128, 129, 130, 131, 132, 133, 134, 135, 136, 137, 138, 139, 140, 141, 142, 143, 144, 145, 146, 147, 148, 149, 150, 151, 152, 153, 154, 155, 156, 157, 158, 159, 160, 161, 162, 163, 164, 165, 166, 167, 168, 169, 170, 171, 172, 173, 174, 175, 176, 177, 178, 179, 180, 181, 182, 183, 184, 185, 186, 187, 188, 189, 190, 191, 192, 193, 194, 195, 196, 197, 198, 199, 200, 201, 202, 203, 204, 205, 206, 207, 208, 209, 210, 211, 212, 213, 214, 215, 216, 217, 218, 219, 220, 221, 222, 223, 224, 225, 226, 227, 228, 229, 230, 231, 232, 233, 234, 235, 236, 237, 238, 239, 240, 241, 242, 243, 244, 245, 246, 247, 248, 249, 250, 251, 252, 253, 254, 255, 256, 257, 258, 259, 260, 261, 262, 263, 264, 265, 266, 267, 268, 269, 270, 271, 272, 273, 274, 275, 276, 277, 278, 279, 280, 281, 283, 284, 285, 286, 287, 288, 289, 290, 291, 292, 293, 294, 295, 296, 297, 298, 299, 300, 301, 302, 303, 304, 305, 306, 307, 308, 309, 310, 311, 312, 313, 314, 315, 316, 317, 318, 319, 320, 321, 322, 323, 324, 325, 326, 327, 328, 329, 330, 331, 332, 333, 334, 336, 353, 354, 355, 356, 357, 358, 359, 368]
theorem iY : okL.all (vB PP) = true := by kernel_rfl
def mP (f : FuncId) (fn : Func) (T : List Value → Tree) : Prop := ∀ {args vs : List Value}, gi PP fn args = some vs → Ones vs → ∀ {H : Heap} {O : Go.Sx.Own} {Q : Value → Heap → Go.Sx.Own → Prop}, (T vs).den PP Q H O → Triple PP f args H O Q
theorem mS {f : FuncId} {fn : Func} {T : List Value → Tree} (hf : PP.funcs[f]? = some fn) (a : _) (b : _) (c : _) (e : ∀ vs, u9 PP fn (rP okL a b c) vs = T vs) : mP f fn T := fun ha ho _ _ _ h => sq ow (lV iY _ _ _) hf e ha ho h
abbrev dz : TypeId := 3
abbrev rp : TypeId := 4
abbrev aF : TypeId := 281
abbrev aV : TypeId := 282
abbrev aK : FuncId := 3
abbrev aM : FuncId := 15
end Go.Proofs.YtocfkcilcfojiaaGreatDoor
