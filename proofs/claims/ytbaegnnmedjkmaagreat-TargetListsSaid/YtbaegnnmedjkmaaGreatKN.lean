/- The examples of the chapter are as they should be: the kernel reckons the run of 'known'; what is proved of Valid stands for its calls. -/
import Derived.Test.YtbaegnnmedjkmaaGreatC8
import Derived.Test.YtbaegnnmedjkmaaGreatP1
namespace Go.Proofs.YtbaegnnmedjkmaaGreat
open Go Go.Sx
set_option maxRecDepth 100000
set_option maxHeartbeats 1000000
end Go.Proofs.YtbaegnnmedjkmaaGreat
