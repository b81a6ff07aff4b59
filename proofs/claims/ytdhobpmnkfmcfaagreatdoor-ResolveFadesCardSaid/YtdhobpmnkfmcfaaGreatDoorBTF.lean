/- The tree of ResolveFades, its last loop unrolled: printed by a tool of mine. -/
import Derived.Test.YtdhobpmnkfmcfaaGreatDoorBT6
namespace Go.Proofs.YtdhobpmnkfmcfaaGreatDoor
open Go Go.Sx
set_option maxRecDepth 100000
def CU (v : List Value) : Tree :=
 pL (g v 0) (.int .u8 1) fun v0 =>
 kV v0 <|
 pG (g v 0) (.int .u8 20) fun v1 =>
 kV v0 <|
 pK v0 (.bool true) v1 fun v2 =>
 kV v2 <|
 pL (g v 1) (iv 0) fun v3 =>
 kV v2 <|
 pK v2 (.bool true) v3 fun v4 =>
 kV v4 <|
 pG (g v 1) (iv 3) fun v5 =>
 kV v4 <|
 pK v4 (.bool true) v5 fun v6 =>
 kV v6 <|
 pE (g v 1) (iv 2) fun v7 =>
 kV v6 <|
 pK v6 (.bool true) v7 fun v8 =>
 kV v8 <|
 pL (g v 2) (.int .u8 1) fun v9 =>
 kV v8 <|
 pK v8 (.bool true) v9 fun v10 =>
 kV v10 <|
 pG (g v 2) (.int .u8 3) fun v11 =>
 kV v10 <|
 pK v10 (.bool true) v11 fun v12 =>
 .br v12 (
 c1 10 [] fun l13 =>
 .ret (g l13 0) []) (
 .pure [] (.conv .i64) [g v 0] fun v14 =>
 .pure [] (.conv .i64) [g v 2] fun v15 =>
 .newbox fun r0 =>
 .newbox fun r1 =>
 .newbox fun r2 =>
 .newbox fun r3 =>
 .call false 22 [iv 20,.agg #[.slice (some ⟨r2,0,none⟩) 4 4,.slice (some ⟨r3,0,none⟩) 1 1]] [⟨r2,3,[iv 1,iv 1,iv 1,iv 1]⟩,⟨r3,3,[iv 0]⟩] [] (.tup [some 38,none]) fun l16 _ =>
 .newbox fun r4 =>
 kN r4 <|
 pN (g l16 38) (iv 0) fun v17 =>
 .br v17 (
 pE (g l16 38) (iv 0) fun v18 =>
 .br v18 (
 c1 10 [] fun l19 =>
 .ret (g l19 0) []) (
 .ret (.bool false) [])) (
 kN r1 <|
 kN r0 <|
 c1 23 [.agg #[iv 1,iv 1,v14,iv 0,iv 0]] fun l20 =>
 pO (g l20 0) fun v21 =>
 .br v21 (
 pE (g l16 38) (iv 0) fun v22 =>
 .br v22 (
 c1 10 [] fun l23 =>
 .ret (g l23 0) []) (
 .ret (.bool false) [])) (
 kN r1 <|
 kN r0 <|
 c1 23 [.agg #[iv 2,iv 0,v15,iv 0,iv 0]] fun l24 =>
 pO (g l24 0) fun v25 =>
 .br v25 (
 pE (g l16 38) (iv 0) fun v26 =>
 .br v26 (
 c1 10 [] fun l27 =>
 .ret (g l27 0) []) (
 .ret (.bool false) [])) (
 .newbox fun r5 =>
 kN r4 <|
 .newbox fun r6 =>
 .newbox fun r7 =>
 kN r4 <|
 kN r4 <|
 .call false 24 [ag (G6 l16 0 ++ ((.slice (some ⟨r5,0,none⟩) 3 3)::(G22 l16 7 ++ ((.slice (some ⟨r7,0,none⟩) 1 1)::G8 l16 30)))),iv 5,iv 2] [⟨r5,3,[iv 1,iv 2,iv 3]⟩,⟨r7,56,[iv 0,iv 4,iv 1,iv (-1),.slice (some ⟨r6,0,none⟩) 1 1]⟩,⟨r6,41,[iv 5,iv 0]⟩] [] (.agg 38) fun l28 _ =>
 .call false 15 [.slice (some ⟨r1,0,none⟩) 2 2,ag (G38 l28 0),iv 9] [⟨r1,75,[.string ⟨#[]⟩,iv 2,iv 0,iv 0,iv 0,iv 0,iv 0,iv 0,iv 0,iv 30,iv 0,.slice none 0 0,.slice none 0 0,iv 0,.string ⟨#[]⟩,iv 3,iv 0,iv 0,iv 0,iv 0,iv 0,iv 0,iv 0,iv 0,iv 0,.slice (some ⟨r0,0,none⟩) 2 2,.slice none 0 0,iv 0]⟩,⟨r0,39,[iv 1,iv 1,v14,iv 0,iv 0,iv 2,iv 0,v15,iv 0,iv 0]⟩] [] (.tup [some 38,some 5,none]) fun l29 _ =>
 .newbox fun r8 =>
 .newbox fun r9 =>
 kN r8 <|
 kN r9 <|
 kN r4 <|
 cS 24 [ag (G6 l16 0 ++ ((.slice (some ⟨r5,0,none⟩) 3 3)::(G22 l16 7 ++ ((.slice (some ⟨r7,0,none⟩) 1 1)::G8 l16 30)))),iv 5,g v 1] (.agg 38) fun l30 =>
 cS 15 [.slice (some ⟨r1,0,none⟩) 2 2,ag (G38 l30 0),iv 9] (.tup [some 38,some 5,none]) fun l31 =>
 .newbox fun r10 =>
 .newbox fun r11 =>
 kN r10 <|
 kN r11 <|
 pN (g l29 43) (iv 0) fun v32 =>
 kV v32 <|
 pN (g l31 43) (iv 0) fun v33 =>
 kV v32 <|
 pK v32 (.bool true) v33 fun v34 =>
 kN r8 <|
 kV v34 <|
 kV v34 <|
 pZ (g l29 0) fun v35 =>
 kV v34 <|
 pN v35 (iv 5) fun v36 =>
 kV v34 <|
 pK v34 (.bool true) v36 fun v37 =>
 kN r10 <|
 kV v37 <|
 kV v37 <|
 pZ (g l31 0) fun v38 =>
 kV v37 <|
 pN v38 (iv 5) fun v39 =>
 kV v37 <|
 pK v37 (.bool true) v39 fun v40 =>
 .br v40 (
 .ret (.bool false) []) (
 kN r8 <|
 pI 12 (g l29 0) (iv 4) fun v41 =>
 kP v41 <|
 .load [] (bz v41 5) 1 fun l42 =>
 .pure [] (.conv .i64) [g v 0] fun v43 =>
 pN (g l42 0) v43 fun v44 =>
 kN r10 <|
 kV v44 <|
 kV v44 <|
 .pure [(v44,false)] (.idx 12) [g l31 0,iv 4] fun v45 =>
 .chk (.ptr [(v44,false)] v45) <|
 kV v44 <|
 kV v44 <|
 .load [(v44,false)] (bz v45 5) 1 fun l46 =>
 kV v44 <|
 pN (g l46 0) (iv 0) fun v47 =>
 kV v44 <|
 pK v44 (.bool true) v47 fun v48 =>
 .br v48 (
 .ret (.bool false) []) (
 kN r8 <|
 kN r10 <|
 .newbox fun r12 =>
 kN r12 <|
 .newbox fun r13 =>
 kN r13 <|
 kN r13 <|
 pZ (g l29 7) fun v49 =>
 .pure [] (.conv .i64) [g v 2] fun v50 =>
 pN v49 v50 fun v51 =>
 .br v51 (
 .ret (.bool false) []) (
 kN r13 <|
 .newbox fun r14 =>
 .call false 25 [g l29 9,.slice (some ⟨r14,0,none⟩) 1 1] [⟨r14,3,[iv 4]⟩] [] .one fun l52 _ =>
 pO (g l52 0) fun v53 =>
 kN r13 <|
 kV v53 <|
 kV v53 <|
 pZ (g l29 29) fun v54 =>
 kV v53 <|
 pN v54 (iv 0) fun v55 =>
 kV v53 <|
 pK v53 (.bool true) v55 fun v56 =>
 .br v56 (
 .ret (.bool false) []) (
 kN r12 <|
 .newbox fun r15 =>
 kN r15 <|
 kN r15 <|
 pZ (g l31 7) fun v57 =>
 .pure [] (.conv .i64) [g v 2] fun v58 =>
 pN v57 v58 fun v59 =>
 .br v59 (
 .ret (.bool false) []) (
 kN r15 <|
 .newbox fun r16 =>
 .call false 25 [g l31 9,.slice (some ⟨r16,0,none⟩) 1 1] [⟨r16,3,[iv 4]⟩] [] .one fun l60 _ =>
 pO (g l60 0) fun v61 =>
 kN r15 <|
 kV v61 <|
 kV v61 <|
 pZ (g l31 29) fun v62 =>
 kV v61 <|
 pN v62 (iv 0) fun v63 =>
 kV v61 <|
 pK v61 (.bool true) v63 fun v64 =>
 .br v64 (
 .ret (.bool false) []) (
 c1 10 [] fun l65 =>
 .ret (g l65 0) []))))))))))
theorem Dm : bI fE Tryz.f6 CU := bJ Tryz.func6 [(76, [5, 6, 7, 8])] [(14, .unroll 3)] [] fun _ => by kernel_rfl
end Go.Proofs.YtdhobpmnkfmcfaaGreatDoor
