/- What a call of 'known' hands back. -/
import Derived.Test.YtjaegdkkiefchaaGreatDoorKN
namespace Go.Proofs.YtjaegdkkiefchaaGreatDoor
open Go Go.Sx
set_option maxRecDepth 100000
set_option maxHeartbeats 1000000

theorem c_known {H : Heap} (hgl : GlobOk glob0 H) (O : Own) : RetO PP F_zeitnotlaw15_known [] H O (.bool true) :=
  run_trueS (c := cfg0) mixed (fun _ h => okFn_of okL_ok h) hgl (sum0_ok H) (by kernel_rfl) known_run O
end Go.Proofs.YtjaegdkkiefchaaGreatDoor
