/- The examples of the chapter are as they should be: the kernel reckons the run of 'known'; what is proved of Valid stands for its calls. -/
import Derived.Test.YtbaegnnmedjkmaaC1
import Derived.Test.YtbaegnnmedjkmaaM17
namespace Go.Proofs.Ytbaegnnmedjkmaa
open Go Go.Sx
set_option maxRecDepth 100000
set_option maxHeartbeats 1000000
end Go.Proofs.Ytbaegnnmedjkmaa
