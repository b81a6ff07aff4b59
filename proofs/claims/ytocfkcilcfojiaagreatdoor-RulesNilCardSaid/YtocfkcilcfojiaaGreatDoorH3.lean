/- The examples of the chapter are as they should be: 'known' is run, its calls met by their pieces. -/
import Derived.Test.YtocfkcilcfojiaaGreatDoorH10
import Derived.Test.YtocfkcilcfojiaaGreatDoorH11
import Derived.Test.YtocfkcilcfojiaaGreatDoorH12
import Derived.Test.YtocfkcilcfojiaaGreatDoorH13
import Derived.Test.YtocfkcilcfojiaaGreatDoorH14
import Derived.Test.YtocfkcilcfojiaaGreatDoorH15
import Derived.Test.YtocfkcilcfojiaaGreatDoorH16
import Derived.Test.YtocfkcilcfojiaaGreatDoorH17
import Derived.Test.YtocfkcilcfojiaaGreatDoorH18
import Derived.Test.YtocfkcilcfojiaaGreatDoorH19
import Derived.Test.YtocfkcilcfojiaaGreatDoorH20
import Derived.Test.YtocfkcilcfojiaaGreatDoorH21
import Derived.Test.YtocfkcilcfojiaaGreatDoorH22
import Derived.Test.YtocfkcilcfojiaaGreatDoorH23
import Derived.Test.YtocfkcilcfojiaaGreatDoorH24
import Derived.Test.YtocfkcilcfojiaaGreatDoorH25
import Derived.Test.YtocfkcilcfojiaaGreatDoorH26
import Derived.Test.YtocfkcilcfojiaaGreatDoorH27
namespace Go.Proofs.YtocfkcilcfojiaaGreatDoor
open Go Go.Sx
set_option maxRecDepth 100000
set_option maxHeartbeats 1000000
def xT : SumG := pc1.sum.or (pc2.sum.or (pc3.sum.or (pc4.sum.or (pc5.sum.or (pc6.sum.or (pc7.sum.or (pc8.sum.or (pc9.sum.or (pc10.sum.or (pc11.sum.or (pc12.sum.or (pc13.sum.or (pc14.sum.or (pc15.sum.or (pc16.sum.or (pc17.sum.or (pc18.sum.or (mR))))))))))))))))))
theorem wM {H : Heap} (hg : GlobOk kH H) : SumOkG PP cfgN.ok H xT :=
 have pk {p : Pc} (h : p.Ok cfgN mR 60 300 14 4000) : SumOkG PP cfgN.ok H p.sum := Pc.sum_ok (c := cfgN) ow (fun _ h => im iY h) hg (qG hg) h
 (pk yk).or ((pk yj).or ((pk yi).or ((pk yh).or ((pk yg).or ((pk yf).or ((pk ye).or ((pk yd).or ((pk yc).or ((pk xg).or ((pk xf).or ((pk xe).or ((pk xd).or ((pk xc).or ((pk xb).or ((pk w9).or ((pk w8).or ((pk wZ).or (qG hg))))))))))))))))))
theorem ut (f : Nat → Nat) : ((G.exN 13 (fL cfgN xT 60 300 aM [] [] 0 ⟨[], []⟩) ((List.range 1000).map f)).x, (G.exN 13 (fL cfgN xT 60 300 aM [] [] 0 ⟨[], []⟩) ((List.range 1000).map f)).fine isT) =
  ((G.exN 13 (fL cfgN xT 60 300 aM [] [] 0 ⟨[], []⟩) ((List.range 1000).map f)).y, true) := by kernel_rfl
theorem sU : RanT cfgN xT 60 300 aM := RanT.reckon 13 1000 ut
theorem wh {H : Heap} (hg : GlobOk kH H) (O : Go.Sx.Own) : RetO PP aM [] H O (.bool true) :=
 tO (c := cfgN) ow (fun _ h => im iY h) hg (wM hg) (by kernel_rfl) sU O
end Go.Proofs.YtocfkcilcfojiaaGreatDoor
