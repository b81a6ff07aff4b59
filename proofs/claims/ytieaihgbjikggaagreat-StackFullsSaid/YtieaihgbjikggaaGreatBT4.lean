/- The trees of the functions of this seat: printed by a tool of mine; each by the kernel's reckoning equal to the evaluator's. -/
import Derived.Test.YtieaihgbjikggaaGreatBT3
namespace Go.Proofs.YtieaihgbjikggaaGreat
open Go Go.Sx
set_option maxRecDepth 100000
abbrev F_slices_IndexFunc_api_Target_api_Target : FuncId := 121
/- slices.IndexFunc[[]zeitnot/api.Target,zeitnot/api.Target] -/
def T_slices_IndexFunc_api_Target_api_Target (v : List Value) : Tree :=
 .pure [] .len [g v 0] fun v0 =>
 .loop 4 2 [(.int .i64 0)] fun C4 l1 =>
 .pure [] (.bin .lss .int) [g l1 0,v0] fun v2 =>
 .br v2 (
 .pure [] (.idx 2) [g v 0,g l1 0] fun v3 =>
 .load [] v3 2 fun l4 =>
 .callv false (g v 1) [(.agg #[g l4 0,g l4 1])] [] [] .one fun l5 _ =>
 .br (g l5 0) (
 .ret (g l1 0) []) (
 .pure [] (.bin .add .int) [g l1 0,(.int .i64 1)] fun v6 =>
 .cont 4 C4 [v6] [E [g v 0],E [g v 1],E [v0]])) (
 .ret (.int .i64 (-1)) [])
theorem T_slices_IndexFunc_api_Target_api_Target_eq (vs : List Value) : sxFun PP Tryz.f121 (mkOpts okL [(81, [5, 6, 7, 8])] [(2, .inv [8] [0, 1, 7] [])] []) vs = T_slices_IndexFunc_api_Target_api_Target vs := by kernel_rfl
theorem run_slices_IndexFunc_api_Target_api_Target {args vs} (ha : entryArgs PP Tryz.f121 args = some vs) (ho : Ones vs) {H O Q} (h : (T_slices_IndexFunc_api_Target_api_Target vs).den PP Q H O) : Triple PP F_slices_IndexFunc_api_Target_api_Target args H O Q :=
 triple_run mixed (mkOpts_ok okL_ok _ _ _) Tryz.func121 T_slices_IndexFunc_api_Target_api_Target_eq ha ho h
end Go.Proofs.YtieaihgbjikggaaGreat
