/- What a call of 'known' hands back. -/
import Derived.Test.YtjaegdkkiefchaaDoorKN
namespace Go.Proofs.YtjaegdkkiefchaaDoor
open Go Go.Sx
set_option maxRecDepth 100000

theorem c_known {H : Heap} (hgl : GlobOk glob0 H) (O : Own) : RetO PP F_zeitnotlaw15_known [] H O (.bool true) :=
  run_trueQ (c := cfg0) mixed (fun _ h => okFn_of okL_ok h) hgl (by kernel_rfl) known_run O
end Go.Proofs.YtjaegdkkiefchaaDoor
