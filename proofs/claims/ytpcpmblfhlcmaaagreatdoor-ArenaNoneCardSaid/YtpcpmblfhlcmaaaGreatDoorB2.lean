/- The examples of the chapter are as they should be: 'known' is run, its calls met by their pieces. -/
import Derived.Test.YtpcpmblfhlcmaaaGreatDoorB10
import Derived.Test.YtpcpmblfhlcmaaaGreatDoorB11
import Derived.Test.YtpcpmblfhlcmaaaGreatDoorB12
import Derived.Test.YtpcpmblfhlcmaaaGreatDoorB13
import Derived.Test.YtpcpmblfhlcmaaaGreatDoorB14
import Derived.Test.YtpcpmblfhlcmaaaGreatDoorB15
import Derived.Test.YtpcpmblfhlcmaaaGreatDoorB16
import Derived.Test.YtpcpmblfhlcmaaaGreatDoorB17
import Derived.Test.YtpcpmblfhlcmaaaGreatDoorB18
import Derived.Test.YtpcpmblfhlcmaaaGreatDoorB19
import Derived.Test.YtpcpmblfhlcmaaaGreatDoorB20
import Derived.Test.YtpcpmblfhlcmaaaGreatDoorB21
import Derived.Test.YtpcpmblfhlcmaaaGreatDoorB22
import Derived.Test.YtpcpmblfhlcmaaaGreatDoorB23
import Derived.Test.YtpcpmblfhlcmaaaGreatDoorB24
import Derived.Test.YtpcpmblfhlcmaaaGreatDoorB25
import Derived.Test.YtpcpmblfhlcmaaaGreatDoorB26
import Derived.Test.YtpcpmblfhlcmaaaGreatDoorB27
import Derived.Test.YtpcpmblfhlcmaaaGreatDoorB28
import Derived.Test.YtpcpmblfhlcmaaaGreatDoorB29
import Derived.Test.YtpcpmblfhlcmaaaGreatDoorB30
namespace Go.Proofs.YtpcpmblfhlcmaaaGreatDoor
open Go Go.Sx
set_option maxRecDepth 100000
set_option maxHeartbeats 1000000
def sumP1 : SumG := pc1.sum.or (pc2.sum.or (pc3.sum.or (pc4.sum.or (pc5.sum.or (pc6.sum.or (pc7.sum.or (pc8.sum.or (pc9.sum.or (pc10.sum)))))))))
theorem yS {H : Heap} (hg : GlobOk dp H) : SumOkG PP cfgN.ok H sumP1 :=
 (aj hg (ah hg) Fv).or ((aj hg (ah hg) Ft).or ((aj hg (ah hg) Fq).or ((aj hg (ah hg) Fp).or ((aj hg (ah hg) Fo).or ((aj hg (ah hg) Fj).or ((aj hg (ah hg) Fh).or ((aj hg (ah hg) Fg).or ((aj hg (ah hg) Ff).or ((aj hg (ah hg) Ek))))))))))
def sumP2 : SumG := pc11.sum.or (pc12.sum.or (pc13.sum.or (pc14.sum.or (pc15.sum.or (pc16.sum.or (pc17.sum.or (pc18.sum.or (pc19.sum.or (pc20.sum)))))))))
theorem yR {H : Heap} (hg : GlobOk dp H) : SumOkG PP cfgN.ok H sumP2 :=
 (aj hg (ah hg) Ej).or ((aj hg (ah hg) Ei).or ((aj hg (ah hg) Eh).or ((aj hg (ah hg) Eg).or ((aj hg (ah hg) Ee).or ((aj hg (ah hg) Ed).or ((aj hg (ah hg) Ec).or ((aj hg (ah hg) Eb).or ((aj hg (ah hg) D9).or ((aj hg (ah hg) D8))))))))))
def sumP3 : SumG := pc21.sum.or (pc22.sum.or (pc23.sum.or (pc24.sum.or (pc25.sum.or (pc26.sum.or (pc27.sum.or (pc28.sum.or (pc29.sum.or (pc30.sum)))))))))
theorem yQ {H : Heap} (hg : GlobOk dp H) : SumOkG PP cfgN.ok H sumP3 :=
 (aj hg (ah hg) D7).or ((aj hg (ah hg) D6).or ((aj hg (ah hg) D5).or ((aj hg (ah hg) D4).or ((aj hg (ah hg) D3).or ((aj hg (ah hg) D2).or ((aj hg (ah hg) DZ).or ((aj hg (ah hg) DY).or ((aj hg (ah hg) DX).or ((aj hg (ah hg) DW))))))))))
def sumP4 : SumG := pc31.sum.or (pc32.sum.or (pc33.sum.or (pc34.sum.or (pc35.sum.or (pc36.sum.or (pc37.sum.or (pc38.sum.or (pc39.sum.or (pc40.sum)))))))))
theorem yP {H : Heap} (hg : GlobOk dp H) : SumOkG PP cfgN.ok H sumP4 :=
 (aj hg (ah hg) DV).or ((aj hg (ah hg) DU).or ((aj hg (ah hg) DT).or ((aj hg (ah hg) DR).or ((aj hg (ah hg) DO).or ((aj hg (ah hg) DN).or ((aj hg (ah hg) DL).or ((aj hg (ah hg) DK).or ((aj hg (ah hg) DJ).or ((aj hg (ah hg) DI))))))))))
def sumP5 : SumG := pc41.sum.or (pc42.sum.or (pc43.sum.or (pc44.sum.or (pc45.sum.or (pc46.sum.or (pc47.sum.or (pc48.sum.or (pc49.sum.or (pc50.sum)))))))))
theorem yO {H : Heap} (hg : GlobOk dp H) : SumOkG PP cfgN.ok H sumP5 :=
 (aj hg (ah hg) DG).or ((aj hg (ah hg) DF).or ((aj hg (ah hg) DD).or ((aj hg (ah hg) DC).or ((aj hg (ah hg) Dz).or ((aj hg (ah hg) Dy).or ((aj hg (ah hg) Dx).or ((aj hg (ah hg) Dw).or ((aj hg (ah hg) Dv).or ((aj hg (ah hg) Du))))))))))
def sumP6 : SumG := pc51.sum.or (pc52.sum.or (pc53.sum.or (pc54.sum.or (pc55.sum.or (pc56.sum.or (pc57.sum.or (pc58.sum.or (pc59.sum.or (pc60.sum)))))))))
theorem yN {H : Heap} (hg : GlobOk dp H) : SumOkG PP cfgN.ok H sumP6 :=
 (aj hg (ah hg) Dt).or ((aj hg (ah hg) Ds).or ((aj hg (ah hg) Dq).or ((aj hg (ah hg) Dp).or ((aj hg (ah hg) Do).or ((aj hg (ah hg) Dn).or ((aj hg (ah hg) Dm).or ((aj hg (ah hg) Dl).or ((aj hg (ah hg) Dk).or ((aj hg (ah hg) Dj))))))))))
def sumP7 : SumG := pc61.sum.or (pc62.sum.or (pc63.sum.or (pc64.sum.or (pc65.sum.or (pc66.sum.or (pc67.sum.or (pc68.sum.or (pc69.sum.or (pc70.sum)))))))))
theorem yM {H : Heap} (hg : GlobOk dp H) : SumOkG PP cfgN.ok H sumP7 :=
 (aj hg (ah hg) Di).or ((aj hg (ah hg) Dh).or ((aj hg (ah hg) Df).or ((aj hg (ah hg) Dc).or ((aj hg (ah hg) Db).or ((aj hg (ah hg) Da).or ((aj hg (ah hg) CZ).or ((aj hg (ah hg) CY).or ((aj hg (ah hg) CX).or ((aj hg (ah hg) CW))))))))))
def sumP8 : SumG := pc71.sum.or (pc72.sum.or (pc73.sum.or (pc74.sum.or (pc75.sum.or (pc76.sum.or (pc77.sum.or (pc78.sum.or (pc79.sum.or (pc80.sum)))))))))
theorem yL {H : Heap} (hg : GlobOk dp H) : SumOkG PP cfgN.ok H sumP8 :=
 (aj hg (ah hg) CV).or ((aj hg (ah hg) CU).or ((aj hg (ah hg) CQ).or ((aj hg (ah hg) CP).or ((aj hg (ah hg) CO).or ((aj hg (ah hg) CN).or ((aj hg (ah hg) CM).or ((aj hg (ah hg) CL).or ((aj hg (ah hg) CJ).or ((aj hg (ah hg) CH))))))))))
def sumP9 : SumG := pc81.sum.or (pc82.sum.or (pc83.sum.or (pc84.sum.or (pc85.sum.or (pc86.sum.or (pc87.sum.or (pc88.sum.or (pc89.sum.or (pc90.sum)))))))))
theorem yK {H : Heap} (hg : GlobOk dp H) : SumOkG PP cfgN.ok H sumP9 :=
 (aj hg (ah hg) CG).or ((aj hg (ah hg) CE).or ((aj hg (ah hg) CB).or ((aj hg (ah hg) Cm).or ((aj hg (ah hg) Cj).or ((aj hg (ah hg) Ci).or ((aj hg (ah hg) Cf).or ((aj hg (ah hg) Ce).or ((aj hg (ah hg) Cc).or ((aj hg (ah hg) B9))))))))))
def sumP10 : SumG := pc91.sum.or (pc92.sum.or (pc93.sum.or (pc94.sum.or (pc95.sum.or (pc96.sum.or (pc97.sum.or (pc98.sum.or (pc99.sum.or (pc100.sum)))))))))
theorem wA {H : Heap} (hg : GlobOk dp H) : SumOkG PP cfgN.ok H sumP10 :=
 (aj hg (ah hg) B8).or ((aj hg (ah hg) B7).or ((aj hg (ah hg) B6).or ((aj hg (ah hg) B5).or ((aj hg (ah hg) BZ).or ((aj hg (ah hg) BY).or ((aj hg (ah hg) BX).or ((aj hg (ah hg) BW).or ((aj hg (ah hg) BU).or ((aj hg (ah hg) zY))))))))))
def sumP11 : SumG := pc101.sum.or (pc102.sum.or (pc103.sum.or (pc104.sum.or (pc105.sum.or (pc106.sum.or (pc107.sum.or (pc108.sum.or (pc109.sum.or (pc110.sum)))))))))
theorem wz {H : Heap} (hg : GlobOk dp H) : SumOkG PP cfgN.ok H sumP11 :=
 (aj hg (ah hg) zX).or ((aj hg (ah hg) zW).or ((aj hg (ah hg) zV).or ((aj hg (ah hg) zU).or ((aj hg (ah hg) zT).or ((aj hg (u6 hg) zS).or ((aj hg (ah hg) zR).or ((aj hg (ah hg) zQ).or ((aj hg (ah hg) zP).or ((aj hg (ah hg) zN))))))))))
def sumP12 : SumG := pc111.sum.or (pc112.sum.or (pc113.sum.or (pc114.sum.or (pc115.sum.or (pc116.sum.or (pc117.sum.or (pc118.sum.or (pc119.sum.or (pc120.sum)))))))))
theorem wy {H : Heap} (hg : GlobOk dp H) : SumOkG PP cfgN.ok H sumP12 :=
 (aj hg (ah hg) zM).or ((aj hg (ah hg) zL).or ((aj hg (ah hg) zK).or ((aj hg (u5 hg) zJ).or ((aj hg (ah hg) zI).or ((aj hg (ah hg) zH).or ((aj hg (ah hg) zG).or ((aj hg (ah hg) zF).or ((aj hg (ah hg) zE).or ((aj hg (ah hg) zD))))))))))
def sumP13 : SumG := pc121.sum.or (pc122.sum.or (pc123.sum.or (pc124.sum.or (pc125.sum.or (pc126.sum.or (pc127.sum.or (pc128.sum.or (pc129.sum.or (pc130.sum)))))))))
theorem wx {H : Heap} (hg : GlobOk dp H) : SumOkG PP cfgN.ok H sumP13 :=
 (aj hg (ah hg) zC).or ((aj hg (ah hg) zB).or ((aj hg (ah hg) zA).or ((aj hg (ah hg) zz).or ((aj hg (ah hg) zy).or ((aj hg (ah hg) zx).or ((aj hg (ah hg) zw).or ((aj hg (ah hg) zu).or ((aj hg (ah hg) zt).or ((aj hg (ah hg) zr))))))))))
def sumP14 : SumG := pc131.sum.or (pc132.sum.or (pc133.sum.or (pc134.sum.or (pc135.sum.or (pc136.sum)))))
theorem ww {H : Heap} (hg : GlobOk dp H) : SumOkG PP cfgN.ok H sumP14 :=
 (aj hg (ah hg) zq).or ((aj hg (ah hg) zp).or ((aj hg (ah hg) zo).or ((aj hg (ah hg) zn).or ((aj hg (ah hg) zm).or ((aj hg (ah hg) zl))))))
def E6 : SumG := sumP1.or (sumP2.or (sumP3.or (sumP4.or (sumP5.or (sumP6.or (sumP7.or (sumP8.or (sumP9.or (sumP10.or (sumP11.or (sumP12.or (sumP13.or (sumP14.or (aD))))))))))))))
theorem BD {H : Heap} (hg : GlobOk dp H) : SumOkG PP cfgN.ok H E6 :=
 (yS hg).or ((yR hg).or ((yQ hg).or ((yP hg).or ((yO hg).or ((yN hg).or ((yM hg).or ((yL hg).or ((yK hg).or ((wA hg).or ((wz hg).or ((wy hg).or ((wx hg).or ((ww hg).or (ah hg))))))))))))))
theorem xr (f : Nat → Nat) : ((G.exN 15 (gV cfgN E6 60 900 aX [] [] 0 ⟨[], []⟩) ((List.range 4000).map f)).x, (G.exN 15 (gV cfgN E6 60 900 aX [] [] 0 ⟨[], []⟩) ((List.range 4000).map f)).fine isT) =
  ((G.exN 15 (gV cfgN E6 60 900 aX [] [] 0 ⟨[], []⟩) ((List.range 4000).map f)).y, true) := by kernel_rfl
theorem vE : RanT cfgN E6 60 900 aX := RanT.reckon 15 4000 xr
theorem AN {H : Heap} (hg : GlobOk dp H) (O : Go.Sx.Own) : RetO PP aX [] H O (.bool true) :=
 wI (c := cfgN) qR (fun _ h => eI fP h) hg (BD hg) (by kernel_rfl) vE O
end Go.Proofs.YtpcpmblfhlcmaaaGreatDoor
