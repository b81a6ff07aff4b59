/- The examples of the chapter are as they should be: the kernel reckons the run of 'known'; what is proved of Valid stands for its calls. -/
import Derived.Test.YtieaihgbjikggaaGreatC8
import Derived.Test.YtieaihgbjikggaaGreatC31
namespace Go.Proofs.YtieaihgbjikggaaGreat
open Go Go.Sx
set_option maxRecDepth 100000
set_option maxHeartbeats 1000000
end Go.Proofs.YtieaihgbjikggaaGreat
