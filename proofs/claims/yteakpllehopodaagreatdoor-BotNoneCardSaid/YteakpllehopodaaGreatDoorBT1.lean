/- The trees of the functions of this seat: printed by a tool of mine; each by the kernel's reckoning equal to the evaluator's. -/
import Derived.Test.YteakpllehopodaaGreatDoorFw2
import Derived.Test.YteakpllehopodaaGreatDoorProg
import Derived.KernelRfl
namespace Go.Proofs.YteakpllehopodaaGreatDoor
open Go Go.Sx
set_option maxRecDepth 100000
noncomputable abbrev PP:Program:=Tryz.prog
theorem mixed:PP.follows .mixedOrders=true:=by kernel_rfl
def okL:List Nat:=[2,3,4,5,6,7,8,9,10,11,12,13,14,15,16,17,18,19,20,21,22,23,24,25,26,27,28,29,30,31,32,33,34,35,36,37,38,39,40,41,42,43,44,45,46,47,48,49,50,51,52,53,54,55,56,57,58,59,60,61,62,63,64,65,66,67,68,69,70,71,72,73,74,75,76,77,78,79,80,81,82,83,84,85,86,87,88,89,90,91,92,93,94,95,96,97,98,99,100,101,102,103,104,105,106,107,108,109,110,111,112,113,114,115,116,117,118,119,120,121,122,123,124,125,126,127,128,129,130,131,132,133,134,135,136,137,138,139,140,141,142,143,144,145,146,147,148,149,150,151,152,153,154,155,156,157,158,159,160,161,162,163,164,165,166,167,168,169,170,171,172,173,174,175,176,177,178,179,180,181,182,183,184,185,186,187,188,189,190,191,192,193,194,195,196,197,198,199,200,201,202,203,204,205,206,207,208,209,210,211,212,213,214,215,216,217,218,219,220,221,222,223,224,225,226,227,228,229,230,231,232,233,234,235,236,237,238,239,240,241,242,243,244,245,246,247,248,249,250,251,252,253,254,255,256,257,258,259,260,261,262,263,264,265,266,267,268,269,270,271,272,273,274,275,276,277,278,279,280,281,282,283,284,285,286,287,288,289,290,291,292,293,294,295,296,297,298,299,300,301,302,303,304,305,306,307,308,309,310,311,312,314,315,316,317,318,319,320,321,322,323,324,325,326,327,328,329,330,331,332,333,334,335,336,337,338,339,340,341,342,343,344,345,346,347,348,349,350,352,369,370,371,372,373,374,375,384]
theorem fc:okL.all (Pj PP)=true:=by kernel_rfl
def aS (f:FuncId) (fn:Func) (T:List Value→Tree):Prop:=∀ {args vs:List Value},pP PP fn args=some vs→Ones vs→∀ {H:Heap} {O:Go.Sx.Own} {Q:Value→Heap→Go.Sx.Own→Prop},(T vs).den PP Q H O→Triple PP f args H O Q
theorem aU {f:FuncId} {fn:Func} {T:List Value→Tree} (hf:PP.funcs[f]?=some fn) (a:_) (b:_) (c:_) (e:∀ vs,ON PP fn (Jh okL a b c) vs=T vs):aS f fn T:=fun ha ho _ _ _ h=>JK mixed (zk fc _ _ _) hf e ha ho h
abbrev aQ:TypeId:=3
abbrev IL:TypeId:=4
abbrev Hh:TypeId:=9
abbrev dV:TypeId:=69
abbrev ef:TypeId:=90
abbrev di:TypeId:=92
abbrev ee:TypeId:=106
abbrev lu:TypeId:=110
abbrev aF:TypeId:=122
abbrev iR:TypeId:=156
abbrev cH:TypeId:=205
abbrev cG:TypeId:=209
abbrev bP:TypeId:=319
abbrev cL:TypeId:=320
abbrev jj:TypeId:=335
abbrev Z0:List Value:=[iv 0,iv 0,iv 0,iv 0,iv 0,iv 0,.slice none 0 0,.slice none 0 0,iv 0,iv 0,iv 0,iv 0,iv 0,.slice none 0 0,.slice none 0 0,.slice none 0 0,.slice none 0 0,.bool false,.bool false,.bool false,iv 0,iv 0,iv 0,iv 0,iv 0,iv 0,iv 0,.slice none 0 0,.slice none 0 0,.slice none 0 0,.slice none 0 0,.bool false,.bool false,.bool false,iv 0,iv 0,.slice none 0 0,.slice none 0 0,.slice none 0 0,.slice none 0 0,iv 0,iv 0,iv 0,iv 0,iv 0,.pointer none,.bool false,.bool false,iv 0]
abbrev Z1:List Value:=[iv 0,iv 0,iv 0,iv 0,iv 0,iv 0,iv 0,iv 0,iv 0,iv 0,iv 0,iv 0,iv 0,iv 0,iv 0,iv 0,iv 0,iv 0,iv 0,iv 0,iv 0,iv 0,iv 0,iv 0,iv 0,iv 0,iv 0,iv 0,iv 0,iv 0,iv 0,iv 0,iv 0,iv 0,iv 0,iv 0,iv 0,iv 0,iv 0,iv 0,iv 0,iv 0,iv 0,iv 0,iv 0,iv 0,iv 0,iv 0,iv 0,iv 0,iv 0,iv 0,iv 0,iv 0,iv 0,iv 0,iv 0,iv 0,iv 0,iv 0,iv 0,iv 0,iv 0,iv 0,iv 0,iv 0,iv 0,iv 0,iv 0,iv 0,iv 0,iv 0,iv 0,iv 0,iv 0,iv 0,iv 0,iv 0,iv 0,iv 0,iv 0,iv 0,iv 0,iv 0,iv 0,iv 0,iv 0,iv 0,iv 0,iv 0,iv 0,iv 0,iv 0,iv 0,iv 0,iv 0,iv 0,iv 0,iv 0,iv 0,iv 0,iv 0,iv 0,iv 0,iv 0,iv 0,iv 0,iv 0,iv 0,iv 0,iv 0,iv 0,iv 0,iv 0,iv 0,iv 0,iv 0,iv 0,iv 0,iv 0,iv 0,iv 0,iv 0,iv 0,iv 0,iv 0,iv 0,iv 0,iv 0,iv 0,iv 0,iv 0,iv 0,iv 0,iv 0,iv 0,iv 0,iv 0,iv 0,iv 0,iv 0,iv 0,iv 0,iv 0,iv 0,iv 0,iv 0,iv 0,iv 0,iv 0,iv 0,iv 0,iv 0,iv 0,iv 0,iv 0,iv 0,iv 0,iv 0,iv 0,iv 0,iv 0,iv 0,iv 0,iv 0,iv 0,iv 0,iv 0,iv 0,iv 0,iv 0,iv 0,iv 0,iv 0,iv 0,iv 0,iv 0,iv 0,iv 0,iv 0,iv 0,iv 0,iv 0,iv 0,iv 0,iv 0,iv 0,iv 0,iv 0,iv 0,iv 0,iv 0,iv 0,iv 0,iv 0,iv 0,iv 0,iv 0,iv 0,iv 0,iv 0,iv 0,iv 0,iv 0,iv 0,iv 0,iv 0,iv 0,iv 0,iv 0,iv 0,iv 0,iv 0,iv 0,iv 0,iv 0,iv 0,iv 0,iv 0,iv 0,iv 0,iv 0,iv 0,iv 0,iv 0,iv 0,iv 0,iv 0,iv 0,iv 0,iv 0,iv 0,iv 0,iv 0,iv 0,iv 0,iv 0,iv 0,iv 0,iv 0,iv 0,iv 0,iv 0,iv 0,iv 0,iv 0,iv 0,iv 0,iv 0,iv 0,iv 0,iv 0,iv 0,iv 0,iv 0,iv 0,iv 0,iv 0,iv 0,iv 0,iv 0,iv 0,iv 0,iv 0,iv 0,iv 0,iv 0,iv 0,iv 0,iv 0,iv 0,iv 0,iv 0,iv 0,iv 0,iv 0,iv 0,iv 0,iv 0,iv 0,iv 0,iv 0,iv 0,iv 0,iv 0,iv 0,iv 0,iv 0,iv 0,iv 0,iv 0,iv 0,iv 0,iv 0,iv 0,iv 0,iv 0,iv 0,iv 0,iv 0,iv 0,iv 0,iv 0,iv 0,iv 0,iv 0,iv 0,iv 0,iv 0,iv 0,iv 0,iv 0,iv 0,iv 0,iv 0,iv 0,iv 0,iv 0,iv 0,iv 0,iv 0,iv 0,iv 0,iv 0,iv 0,iv 0,iv 0,iv 0,iv 0,iv 0,iv 0,iv 0,iv 0,iv 0,iv 0,iv 0,iv 0,iv 0,iv 0,iv 0,iv 0,iv 0,iv 0,iv 0,iv 0,iv 0,iv 0,iv 0,iv 0,iv 0,iv 0,iv 0,iv 0,iv 0,iv 0,iv 0,iv 0,iv 0,iv 0,iv 0,iv 0,iv 0,iv 0,iv 0,iv 0,iv 0,iv 0,iv 0,iv 0,iv 0,iv 0,iv 0,iv 0,iv 0,iv 0,iv 0,iv 0,iv 0,iv 0,iv 0,iv 0,iv 0,iv 0,iv 0,iv 0,iv 0,iv 0,iv 0,iv 0,iv 0,iv 0,iv 0,iv 0,iv 0,iv 0,iv 0,iv 0,iv 0,iv 0,iv 0,iv 0,iv 0,iv 0,iv 0,iv 0,iv 0,iv 0,iv 0,iv 0,iv 0,iv 0,iv 0,iv 0,iv 0,iv 0,iv 0,iv 0,iv 0,iv 0,iv 0,iv 0,iv 0,iv 0,iv 0,iv 0,iv 0,iv 0,iv 0,iv 0,iv 0,iv 0,iv 0,iv 0,iv 0,iv 0,iv 0,iv 0,iv 0,iv 0,iv 0,iv 0,iv 0,iv 0,iv 0,iv 0,iv 0,iv 0,iv 0,iv 0,iv 0,iv 0,iv 0,iv 0,iv 0,iv 0,iv 0,iv 0,iv 0,iv 0,iv 0,iv 0,iv 0,iv 0,iv 0,iv 0,iv 0,iv 0,iv 0,iv 0,iv 0,iv 0,iv 0,iv 0,iv 0,iv 0,iv 0,iv 0,iv 0,iv 0,iv 0,iv 0,iv 0,iv 0,iv 0,iv 0,iv 0,iv 0,iv 0,iv 0,iv 0,iv 0,iv 0,iv 0,iv 0,iv 0,iv 0,iv 0,iv 0,iv 0,iv 0,iv 0,iv 0,iv 0,iv 0,iv 0,iv 0,iv 0,iv 0,iv 0,iv 0,iv 0,iv 0,iv 0,iv 0,iv 0,iv 0,iv 0,iv 0,iv 0,iv 0,iv 0,iv 0,iv 0,iv 0,iv 0,iv 0,iv 0,iv 0,iv 0,iv 0,iv 0,iv 0,iv 0,iv 0,iv 0,iv 0,iv 0,iv 0,iv 0,iv 0,iv 0,iv 0,iv 0,iv 0,iv 0,iv 0,iv 0,iv 0,iv 0,iv 0,iv 0,iv 0,iv 0,iv 0,iv 0,iv 0,iv 0,iv 0,iv 0,iv 0,iv 0,iv 0,iv 0,iv 0,iv 0,iv 0,iv 0,iv 0,iv 0,iv 0,iv 0,iv 0,iv 0,iv 0,iv 0,iv 0,iv 0,iv 0,iv 0,iv 0,iv 0,iv 0,iv 0,iv 0,iv 0,iv 0,iv 0,iv 0,iv 0,iv 0,iv 0,iv 0,iv 0,iv 0,iv 0,iv 0,iv 0,iv 0,iv 0,iv 0,iv 0,iv 0,iv 0,iv 0,iv 0,iv 0,iv 0,iv 0,iv 0,iv 0,iv 0,iv 0,iv 0,iv 0,iv 0,iv 0,iv 0,iv 0,iv 0,iv 0,iv 0,iv 0,iv 0,iv 0,iv 0,iv 0,iv 0,iv 0,iv 0,iv 0,iv 0,iv 0,iv 0,iv 0,iv 0,iv 0,iv 0,iv 0,iv 0,iv 0,iv 0,iv 0,iv 0,iv 0,iv 0,iv 0,iv 0,iv 0,iv 0,iv 0,iv 0,iv 0,iv 0,iv 0,iv 0,iv 0,iv 0,iv 0,iv 0,iv 0,iv 0,iv 0,iv 0,iv 0,iv 0,iv 0,iv 0,iv 0,iv 0,iv 0,iv 0,iv 0,iv 0,iv 0,iv 0,iv 0,iv 0,iv 0,iv 0,iv 0,iv 0,iv 0,iv 0,iv 0,iv 0,iv 0,iv 0,iv 0,iv 0,iv 0,iv 0,iv 0,iv 0,iv 0,iv 0,iv 0,iv 0,iv 0,iv 0,iv 0,iv 0,iv 0,iv 0,iv 0,iv 0,iv 0,iv 0,iv 0,iv 0,iv 0,iv 0,iv 0,iv 0,iv 0,iv 0,iv 0,iv 0,iv 0,iv 0,iv 0,iv 0,iv 0,iv 0,iv 0,iv 0,iv 0,iv 0,iv 0,iv 0,iv 0,iv 0,iv 0,iv 0,iv 0,iv 0,iv 0,iv 0,iv 0,iv 0,iv 0,iv 0,iv 0,iv 0,iv 0,iv 0,iv 0,iv 0,iv 0,iv 0,iv 0,iv 0,iv 0,iv 0,iv 0,iv 0,iv 0,iv 0,iv 0,iv 0,iv 0,iv 0,iv 0,iv 0,iv 0,iv 0,iv 0,iv 0,iv 0,iv 0,iv 0,iv 0,iv 0,iv 0,iv 0,iv 0,iv 0,iv 0,iv 0,iv 0,iv 0,iv 0,iv 0,iv 0,iv 0,iv 0,iv 0,iv 0,iv 0,iv 0,iv 0,iv 0,iv 0,iv 0,iv 0,iv 0,iv 0,iv 0,iv 0,iv 0,iv 0,iv 0,iv 0,iv 0,iv 0,iv 0,iv 0,iv 0,iv 0,iv 0,iv 0,iv 0,iv 0,iv 0,iv 0,iv 0,iv 0,iv 0,iv 0,iv 0,iv 0,iv 0,iv 0,iv 0,iv 0,iv 0,iv 0,iv 0,iv 0,iv 0,iv 0,iv 0,iv 0,iv 0,iv 0,iv 0,iv 0,iv 0,iv 0,iv 0,iv 0,iv 0,iv 0,iv 0,iv 0,iv 0,iv 0,iv 0,iv 0,iv 0,iv 0,iv 0,iv 0,iv 0,iv 0,iv 0,iv 0,iv 0,iv 0,iv 0,iv 0,iv 0,iv 0,iv 0,iv 0,iv 0,iv 0,iv 0,iv 0,iv 0,iv 0,iv 0,iv 0,iv 0,iv 0,iv 0,iv 0,iv 0,iv 0,iv 0,iv 0,iv 0,iv 0,iv 0,iv 0,iv 0,iv 0,iv 0,iv 0,iv 0,iv 0,iv 0,iv 0,iv 0,iv 0,iv 0,iv 0,iv 0,iv 0,iv 0,iv 0,iv 0,iv 0,iv 0,iv 0,iv 0,iv 0,iv 0,iv 0,iv 0,iv 0,iv 0,iv 0,iv 0,iv 0,iv 0,iv 0,iv 0,iv 0,iv 0,iv 0,iv 0,iv 0,iv 0,iv 0,iv 0,iv 0,iv 0,iv 0,iv 0,iv 0,iv 0,iv 0,iv 0,iv 0,iv 0,iv 0,iv 0,iv 0,iv 0,iv 0,iv 0,iv 0,iv 0,iv 0,iv 0,iv 0,iv 0,iv 0,iv 0,iv 0,iv 0,iv 0,iv 0,iv 0,iv 0,iv 0,iv 0,iv 0,iv 0,iv 0,iv 0,iv 0,iv 0,iv 0,iv 0,iv 0,iv 0,iv 0,iv 0,iv 0,iv 0,iv 0,iv 0,iv 0,iv 0,iv 0,iv 0,iv 0,iv 0,iv 0,iv 0,iv 0,iv 0,iv 0,iv 0,iv 0,iv 0,iv 0,iv 0,iv 0,iv 0,iv 0,iv 0,iv 0,iv 0,iv 0,iv 0,iv 0,iv 0,iv 0,iv 0]
abbrev Z2:List Value:=[iv 0,iv 0,iv 0,iv 0,iv 0,iv 0,iv 0,iv 0,iv 0,iv 0,iv 0,iv 0,iv 0,iv 0,iv 0,iv 0,iv 0,iv 0,iv 0,iv 0,iv 0,iv 0,iv 0,iv 0,iv 0,iv 0,iv 0,iv 0,iv 0,iv 0,iv 0,iv 0,iv 0,iv 0,iv 0,iv 0,iv 0,iv 0,iv 0,iv 0,iv 0,iv 0,iv 0,iv 0,iv 0,iv 0,iv 0,iv 0,iv 0,iv 0,iv 0,iv 0,iv 0,iv 0,iv 0,iv 0,iv 0,iv 0,iv 0,iv 0,iv 0,iv 0,iv 0,iv 0,iv 0,iv 0,iv 0,iv 0,iv 0,iv 0,iv 0,iv 0,iv 0,iv 0,iv 0,iv 0,iv 0,iv 0,iv 0,iv 0,iv 0,iv 0,iv 0,iv 0,iv 0,iv 0,iv 0,iv 0,iv 0,iv 0,iv 0,iv 0,iv 0,iv 0,iv 0,iv 0,iv 0,iv 0,iv 0,iv 0,iv 0,iv 0,iv 0,iv 0,iv 0,iv 0,iv 0,iv 0,iv 0,iv 0,iv 0,iv 0,iv 0,iv 0,iv 0,iv 0,iv 0,iv 0,iv 0,iv 0,iv 0,iv 0,iv 0,iv 0,iv 0,iv 0,iv 0,iv 0,iv 0,iv 0,iv 0,iv 0,iv 0,iv 0,iv 0,iv 0,iv 0,iv 0,iv 0,iv 0,iv 0,iv 0,iv 0,iv 0,iv 0,iv 0,iv 0,iv 0,iv 0,iv 0,iv 0,iv 0,iv 0,iv 0,iv 0,iv 0,iv 0,iv 0,iv 0,iv 0,iv 0,iv 0,iv 0,iv 0,iv 0,iv 0,iv 0,iv 0,iv 0,iv 0,iv 0,iv 0,iv 0,iv 0,iv 0,iv 0,iv 0,iv 0,iv 0,iv 0,iv 0,iv 0,iv 0,iv 0,iv 0,iv 0,iv 0,iv 0,iv 0,iv 0,iv 0,iv 0,iv 0,iv 0,iv 0,iv 0,iv 0,iv 0,iv 0,iv 0,iv 0,iv 0,iv 0,iv 0,iv 0,iv 0,iv 0,iv 0,iv 0,iv 0,iv 0,iv 0,iv 0,iv 0,iv 0,iv 0,iv 0,iv 0,iv 0,iv 0,iv 0,iv 0,iv 0,iv 0,iv 0,iv 0,iv 0,iv 0,iv 0,iv 0,iv 0,iv 0,iv 0,iv 0,iv 0,iv 0,iv 0,iv 0,iv 0,iv 0,iv 0,iv 0,iv 0,iv 0,iv 0,iv 0,iv 0,iv 0,iv 0,iv 0,iv 0,iv 0,iv 0,iv 0,iv 0,iv 0,iv 0,iv 0,iv 0,iv 0,iv 0,iv 0,iv 0,iv 0,iv 0,iv 0,iv 0,iv 0,iv 0,iv 0,iv 0,iv 0,iv 0,iv 0,iv 0,iv 0,iv 0,iv 0,iv 0,iv 0,iv 0,iv 0,iv 0,iv 0,iv 0,iv 0,iv 0,iv 0,iv 0,iv 0,iv 0,iv 0,iv 0,iv 0,iv 0,iv 0,iv 0,iv 0,iv 0,iv 0,iv 0,iv 0,iv 0,iv 0,iv 0,iv 0,iv 0,iv 0,iv 0,iv 0,iv 0,iv 0,iv 0,iv 0,iv 0,iv 0,iv 0,iv 0,iv 0,iv 0,iv 0,iv 0,iv 0,iv 0,iv 0,iv 0,iv 0,iv 0,iv 0,iv 0,iv 0,iv 0,iv 0,iv 0,iv 0,iv 0,iv 0,iv 0,iv 0,iv 0,iv 0,iv 0,iv 0,iv 0,iv 0,iv 0,iv 0,iv 0,iv 0,iv 0,iv 0,iv 0,iv 0,iv 0,iv 0,iv 0,iv 0,iv 0,iv 0,iv 0,iv 0,iv 0,iv 0,iv 0,iv 0,iv 0,iv 0,iv 0,iv 0,iv 0,iv 0,iv 0,iv 0,iv 0,iv 0,iv 0,iv 0,iv 0,iv 0,iv 0,iv 0,iv 0,iv 0,iv 0,iv 0,iv 0,iv 0,iv 0,iv 0,iv 0,iv 0,iv 0,iv 0,iv 0,iv 0,iv 0,iv 0,iv 0,iv 0,iv 0,iv 0,iv 0,iv 0,iv 0,iv 0,iv 0,iv 0,iv 0,iv 0,iv 0,iv 0,iv 0,iv 0,iv 0,iv 0,iv 0,iv 0,iv 0,iv 0,iv 0,iv 0,iv 0,iv 0,iv 0,iv 0,iv 0,iv 0,iv 0,iv 0,iv 0,iv 0,iv 0,iv 0,iv 0,iv 0,iv 0,iv 0,iv 0,iv 0,iv 0,iv 0,iv 0,iv 0,iv 0,iv 0,iv 0,iv 0,iv 0,iv 0,iv 0,iv 0,iv 0,iv 0,iv 0,iv 0,iv 0,iv 0,iv 0,iv 0,iv 0,iv 0,iv 0,iv 0,iv 0,iv 0,iv 0,iv 0,iv 0,iv 0,iv 0,iv 0,iv 0,iv 0,iv 0,iv 0,iv 0,iv 0,iv 0,iv 0,iv 0,iv 0,iv 0,iv 0,iv 0,iv 0,iv 0,iv 0,iv 0,iv 0,iv 0,iv 0,iv 0,iv 0,iv 0,iv 0,iv 0,iv 0,iv 0,iv 0,iv 0,iv 0,iv 0,iv 0,iv 0,iv 0,iv 0,iv 0,iv 0,iv 0,iv 0,iv 0,iv 0,iv 0,iv 0,iv 0,iv 0,iv 0,iv 0,iv 0,iv 0,iv 0,iv 0,iv 0,iv 0,iv 0,iv 0,iv 0,iv 0,iv 0,iv 0,iv 0,iv 0,iv 0,iv 0,iv 0,iv 0,iv 0,iv 0,iv 0,iv 0,iv 0,iv 0,iv 0,iv 0,iv 0,iv 0,iv 0,iv 0,iv 0,iv 0,iv 0,iv 0,iv 0,iv 0,iv 0,iv 0,iv 0,iv 0,iv 0,iv 0,iv 0,iv 0,iv 0,iv 0,iv 0,iv 0,iv 0,iv 0,iv 0,iv 0,iv 0,iv 0,iv 0,iv 0,iv 0,iv 0,iv 0,iv 0,iv 0,iv 0,iv 0,iv 0,iv 0,iv 0,iv 0,iv 0,iv 0,iv 0,iv 0,iv 0,iv 0,iv 0,iv 0,iv 0,iv 0,iv 0,iv 0,iv 0,iv 0,iv 0,iv 0,iv 0,iv 0,iv 0,iv 0,iv 0,iv 0,iv 0,iv 0,iv 0,iv 0,iv 0,iv 0,iv 0,iv 0,iv 0,iv 0,iv 0,iv 0,iv 0,iv 0,iv 0,iv 0,iv 0,iv 0,iv 0,iv 0,iv 0,iv 0,iv 0,iv 0,iv 0,iv 0,iv 0,iv 0,iv 0,iv 0,iv 0,iv 0,iv 0,iv 0,iv 0,iv 0,iv 0,iv 0,iv 0,iv 0,iv 0,iv 0,iv 0,iv 0,iv 0,iv 0,iv 0,iv 0,iv 0,iv 0,iv 0,iv 0,iv 0,iv 0,iv 0,iv 0,iv 0,iv 0,iv 0,iv 0,iv 0,iv 0,iv 0,iv 0,iv 0,iv 0,iv 0,iv 0,iv 0,iv 0,iv 0,iv 0,iv 0,iv 0,iv 0,iv 0,iv 0,iv 0,iv 0,iv 0,iv 0,iv 0,iv 0,iv 0,iv 0,iv 0,iv 0,iv 0,iv 0,iv 0,iv 0,iv 0,iv 0,iv 0,iv 0,iv 0,iv 0,iv 0,iv 0,iv 0,iv 0,iv 0,iv 0,iv 0,iv 0,iv 0,iv 0,iv 0,iv 0,iv 0,iv 0,iv 0,iv 0,iv 0,iv 0,iv 0,iv 0,iv 0,iv 0,iv 0,iv 0,iv 0,iv 0,iv 0,iv 0,iv 0,iv 0,iv 0,iv 0,iv 0,iv 0,iv 0,iv 0,iv 0,iv 0,iv 0,iv 0,iv 0,iv 0,iv 0,iv 0,iv 0,iv 0,iv 0,iv 0,iv 0,iv 0,iv 0,iv 0,iv 0,iv 0,iv 0,iv 0,iv 0,iv 0,iv 0,iv 0,iv 0,iv 0,iv 0,iv 0,iv 0,iv 0,iv 0,iv 0,iv 0,iv 0,iv 0,iv 0,iv 0,iv 0,iv 0,iv 0,iv 0,iv 0,iv 0,iv 0,iv 0,iv 0,iv 0,iv 0,iv 0,iv 0,iv 0,iv 0,iv 0,iv 0,iv 0,iv 0,iv 0,iv 0,iv 0,iv 0,iv 0,iv 0,iv 0,iv 0,iv 0,iv 0,iv 0,iv 0,iv 0,iv 0,iv 0,iv 0,iv 0,iv 0,iv 0,iv 0,iv 0,iv 0,iv 0,iv 0,iv 0,iv 0,iv 0,iv 0,iv 0,iv 0,iv 0,iv 0,iv 0,iv 0,iv 0,iv 0,iv 0,iv 0,iv 0,iv 0,iv 0,iv 0,iv 0,iv 0,iv 0,iv 0,iv 0,iv 0,iv 0,iv 0,iv 0,iv 0,iv 0,iv 0,iv 0,iv 0,iv 0,iv 0,iv 0,iv 0,iv 0,iv 0,iv 0,iv 0,iv 0,iv 0,iv 0,iv 0,iv 0,iv 0,iv 0,iv 0,iv 0,iv 0,iv 0,iv 0,iv 0,iv 0,iv 0,iv 0,iv 0,iv 0,iv 0,iv 0,iv 0,iv 0,iv 0,iv 0,iv 0,iv 0,iv 0,iv 0,iv 0,iv 0,iv 0,iv 0,iv 0,iv 0,iv 0,iv 0,iv 0,iv 0,iv 0,iv 0,iv 0,iv 0,iv 0,iv 0,iv 0,iv 0,iv 0,iv 0,iv 0,iv 0,iv 0,iv 0,iv 0,iv 0,iv 0,iv 0,iv 0,iv 0,iv 0,iv 0,iv 0,iv 0,iv 0,iv 0,iv 0,iv 0,iv 0,iv 0,iv 0,iv 0,iv 0,iv 0,iv 0,iv 0,iv 0,iv 0,iv 0,iv 0,iv 0,iv 0,iv 0,iv 0,iv 0,iv 0,iv 0,iv 0,iv 0,iv 0,iv 0,iv 0,iv 0,iv 0,iv 0,iv 0,iv 0,iv 0,iv 0,iv 0,iv 0,iv 0,iv 0,iv 0,iv 0,iv 0,iv 0,iv 0,iv 0,iv 0,iv 0,iv 0,iv 0,iv 0,iv 0,iv 0,iv 0,iv 0,iv 0,iv 0,iv 0,iv 0,iv 0,iv 0,iv 0,iv 0,iv 0,iv 0,iv 0,iv 0,iv 0,iv 0,iv 0,iv 0,iv 0,iv 0,iv 0,iv 0,iv 0,iv 0,iv 0,iv 0]
abbrev Z5:List Value:=[.slice none 0 0,iv 0,iv 0,iv 0,iv 0,iv 0,.slice none 0 0,.slice none 0 0,.slice none 0 0,.slice none 0 0,.bool false,.bool false,.bool false,iv 0,iv 0,iv 0,iv 0,iv 0,iv 0,iv 0,.slice none 0 0,.slice none 0 0,.slice none 0 0,.slice none 0 0,.bool false,.bool false,.bool false,iv 0,iv 0,.slice none 0 0,.slice none 0 0,.slice none 0 0,.slice none 0 0,iv 0,iv 0,iv 0,iv 0,iv 0]
abbrev Z6:List Value:=[iv 0,iv 0,iv 0,iv 0,iv 0,iv 0,iv 0,iv 0,iv 0,.bool false,.bool false,.bool false]
abbrev Z7:List Value:=[.string ⟨#[]⟩,iv 0,iv 0,iv 0,iv 0,iv 0,iv 0,iv 0,iv 0,iv 0,iv 0,.slice none 0 0,.slice none 0 0,iv 0]
abbrev iH:FuncId:=3
def iD (v:List Value):Tree :=
 .newbox fun r0 =>
 .newbox fun r1 =>
 .newbox fun r2 =>
 .newbox fun r3 =>
 kN r3<|
 kN r1<|
 cS 6 [.pointer none,.agg #[g v 10,g v 11],.slice none 0 0,g v 12] (.tup [none,some 2,none]) fun l0 =>
 .newbox fun r4 =>
 kN r4<|
 pN (g l0 0) (iv 0) fun v1 =>
 kN r4<|
 kV v1<|
 kV v1<|
 .raw [(v1,false)] (.eqv .neq 52 false) [.agg #[g l0 1,g l0 2],.agg #[iv 0,iv 0]] fun v2 =>
 kV v1<|
 pK v1 (.bool true) v2 fun v3 =>
 kV v3<|
 pN (g l0 3) (iv 1) fun v4 =>
 kV v3<|
 pK v3 (.bool true) v4 fun v5 =>
 .br v5 (
 .ret (.bool false) []) (
 kN r3<|
 kN r1<|
 .call false 6 [pt r2 0,.agg #[g v 10,g v 11],.slice none 0 0,g v 12] [] [⟨r2,48,Z0⟩] (.tup [none,some 2,none]) fun l6 c6 =>
 .newbox fun r5 =>
 kN r5<|
 pN (g l6 0) (iv 0) fun v7 =>
 kN r5<|
 kV v7<|
 kV v7<|
 .raw [(v7,false)] (.eqv .neq 52 false) [.agg #[g l6 1,g l6 2],.agg #[iv 0,iv 0]] fun v8 =>
 kV v7<|
 pK v7 (.bool true) v8 fun v9 =>
 kV v9<|
 pN (g l6 3) (iv 1) fun v10 =>
 kV v9<|
 pK v9 (.bool true) v10 fun v11 =>
 .br v11 (
 .ret (.bool false) []) (
 kN r0<|
 c1 7 [ag (G10 v 0)] fun l12 =>
 .pure [] (.bin .eql .ptr) [g l12 0,.pointer none] fun v13 =>
 .br v13 (
 c1 8 [] fun l14 =>
 .ret (g l14 0) []) (
 .newbox fun r6 =>
 .call false 6 [g l12 0,.agg #[iv 1,iv 1],.slice (some ⟨r6,0,none⟩) 1001 1001,iv 5] [⟨r6,3,Z1⟩] [] (.tup [none,some 2,none]) fun l15 _ =>
 .newbox fun r7 =>
 kN r7<|
 pN (g l15 0) (iv 0) fun v16 =>
 kN r7<|
 kV v16<|
 kV v16<|
 .raw [(v16,false)] (.eqv .neq 52 false) [.agg #[g l15 1,g l15 2],.agg #[iv 0,iv 0]] fun v17 =>
 kV v16<|
 pK v16 (.bool true) v17 fun v18 =>
 kV v18<|
 pN (g l15 3) (iv 5) fun v19 =>
 kV v18<|
 pK v18 (.bool true) v19 fun v20 =>
 .br v20 (
 .ret (.bool false) []) (
 .newbox fun r8 =>
 .call false 6 [g l12 0,.agg #[iv 1,iv 1],.slice (some ⟨r8,0,none⟩) 1000 1000,iv 5] [⟨r8,3,Z2⟩] [] (.tup [none,some 2,none]) fun l21 _ =>
 pE (g l21 3) (iv 0) fun v22 =>
 .br v22 (
 c1 8 [] fun l23 =>
 .ret (g l23 0) []) (
 .ret (.bool false) [])))))
theorem mo:aS iH Tryz.f3 iD:=aU Tryz.func3 [(25,[5,6,7,8])] [(2,.unroll 3)] [] fun _=>by kernel_rfl
abbrev qW:FuncId:=6
def lI (a:List Value) (b:Nat) (c:List Value):Tree :=
 cS 15 [g a 0] (.tup [some 2,none]) fun l17 =>
 kN b<|
 kN b<|
 kN b<|
 kN b<|
 .ret (.tuple #[g c 0,.agg #[g l17 0,g l17 1],g l17 2]) []
def lJ (a:Nat) (b:List Value) (c:Nat) (d:List Value) (e:Nat) (f h:List Value) (i:Nat) (j:List Value→Heap→Go.Sx.Own→Prop):Tree :=
 kN a<|
 pE (g b c) (iv 3) fun v18 =>
 kV v18<|
 pZ (g b 3) fun v19 =>
 kV v18<|
 pG v19 (iv 0) fun v20 =>
 kV v18<|
 pK v18 v20 (.bool false) fun v21 =>
 .br v21 (
 pZ (g b 3) fun v22 =>
 .pure [] (.bin .rem .int) [g d 1,v22] fun v23 =>
 pI 1 (g b 3) v23 fun v24 =>
 .load [] v24 1 fun l25 =>
 pA (g d 1) (iv 1) fun v26 =>
 kN e<|
 cS 11 [g b 0] (.agg 38) fun l27 =>
 cS 17 [g b c,g f 0,ag (G38 l27 0),.agg #[g h 0,g h 1,g h 2],g l25 0] (.tup [some 3,none]) fun l28 =>
 .newbox fun r3 =>
 kN r3<|
 pN (g l28 3) (iv 0) fun v29 =>
 .br v29 (
 kN i<|
 kN i<|
 kN i<|
 .ret (.tuple #[g d 0,.agg #[iv 0,iv 0],g l28 3]) []) (
 kN r3<|
 cS 14 [g b 0,.agg #[g l28 0,g l28 1,g l28 2]] (.tup [none,none]) fun l30 =>
 pN (g l30 1) (iv 0) fun v31 =>
 .br v31 (
 kN i<|
 kN i<|
 kN i<|
 .ret (.tuple #[g d 0,.agg #[iv 0,iv 0],g l30 1]) []) (
 pA (g d 0) (iv 1) fun v32 =>
 .cont 35 j [v32,v26] (Es [[g b 0],[g b 3],[g b 4],[pt a 0],[pt i 0],[g f 0],[pt a 0,g b 1,g b 2],[pt i 0,iv 0,iv 0]])))) (
 kN e<|
 cS 11 [g b 0] (.agg 38) fun l33 =>
 cS 17 [g b c,g f 0,ag (G38 l33 0),.agg #[g h 0,g h 1,g h 2],iv 0] (.tup [some 3,none]) fun l34 =>
 .newbox fun r4 =>
 kN r4<|
 pN (g l34 3) (iv 0) fun v35 =>
 .br v35 (
 kN i<|
 kN i<|
 kN i<|
 .ret (.tuple #[g d 0,.agg #[iv 0,iv 0],g l34 3]) []) (
 kN r4<|
 cS 14 [g b 0,.agg #[g l34 0,g l34 1,g l34 2]] (.tup [none,none]) fun l36 =>
 pN (g l36 1) (iv 0) fun v37 =>
 .br v37 (
 kN i<|
 kN i<|
 kN i<|
 .ret (.tuple #[g d 0,.agg #[iv 0,iv 0],g l36 1]) []) (
 pA (g d 0) (iv 1) fun v38 =>
 .cont 35 j [v38,g d 1] (Es [[g b 0],[g b 3],[g b 4],[pt a 0],[pt i 0],[g f 0],[pt a 0,g b 1,g b 2],[pt i 0,iv 0,iv 0]]))))
def qV (v:List Value):Tree :=
 .newbox fun r0 =>
 .newbox fun r1 =>
 c1 9 [g v 0] fun l0 =>
 .pure [] (.bin .eql .ptr) [g l0 0,.pointer none] fun v1 =>
 .br v1 (
 kN r1<|
 kN r1<|
 kN r1<|
 .ret (.tuple #[iv 0,.agg #[iv 0,iv 0],iv 1]) []) (
 kN r0<|
 c1 16 [g v 1] fun l2 =>
 pO (g l2 0) fun v3 =>
 .br v3 (
 kN r1<|
 kN r1<|
 kN r1<|
 .ret (.tuple #[iv 0,.agg #[iv 0,iv 0],iv 2]) []) (
 kN r0<|
 c1 16 [g v 2] fun l4 =>
 pO (g l4 0) fun v5 =>
 kV v5<|
 pL (g v 4) (iv 0) fun v6 =>
 kV v5<|
 pK v5 (.bool true) v6 fun v7 =>
 kV v7<|
 pG (g v 4) (iv 20000) fun v8 =>
 kV v7<|
 pK v7 (.bool true) v8 fun v9 =>
 .br v9 (
 kN r1<|
 kN r1<|
 kN r1<|
 .ret (.tuple #[iv 0,.agg #[iv 0,iv 0],iv 2]) []) (
 pZ (g v 3) fun v10 =>
 pG v10 (iv 1000) fun v11 =>
 .br v11 (
 kN r1<|
 kN r1<|
 kN r1<|
 .ret (.tuple #[iv 0,.agg #[iv 0,iv 0],iv 5]) []) (
 c1 18 [g v 0] fun l12 =>
 .loop 35 8 [iv 0,iv 0] fun C35 l13 =>
 pL (g l13 0) (g v 4) fun v14 =>
 .br v14 (
 cS 12 [g v 0] (.agg 3) fun l15 =>
 .newbox fun r2 =>
 kN r2<|
 kN r2<|
 pE (g l15 1) (iv 0) fun v16 =>
 .br v16 (
 lI v r1 l13) (
 kN r2<|
 .sw (g l15 0) 0 (
 lJ r0 v 1 l13 r2 l12 l15 r1 C35) (
 .sw (g l15 0) 1 (
 lJ r0 v 2 l13 r2 l12 l15 r1 C35) (
 .stuck 901)))) (
 lI v r1 l13)))))
theorem o8:aS qW Tryz.f6 qV:=aU Tryz.func6 [(25,[5,6,7,8])] [(8,.inv [8,12] [0,2,3,5,9,11] [(5,[]),(9,[])])] [] fun _=>by kernel_rfl
abbrev kH:FuncId:=7
def kA (v:List Value):Tree :=
 .newbox fun r0 =>
 kN r0<|
 pZ (g v 6) fun v0 =>
 pG v0 (iv 60) fun v1 =>
 kV v1<|
 kN r0<|
 kV v1<|
 kV v1<|
 pZ (g v 7) fun v2 =>
 kV v1<|
 pG v2 (iv 60) fun v3 =>
 kV v1<|
 pK v1 (.bool true) v3 fun v4 =>
 kV v4<|
 kN r0<|
 kV v4<|
 kV v4<|
 pZ (g v 8) fun v5 =>
 kV v4<|
 pG v5 (iv 60) fun v6 =>
 kV v4<|
 pK v4 (.bool true) v6 fun v7 =>
 kN r0<|
 kV v7<|
 kV v7<|
 pZ (g v 9) fun v8 =>
 kV v7<|
 pG v8 (iv 200) fun v9 =>
 kV v7<|
 pK v7 (.bool true) v9 fun v10 =>
 .br v10 (
 .ret (.pointer none) []) (
 kN r0<|
 kN r0<|
 kN r0<|
 kN r0<|
 cS 19 [ag (G6 v 0),g v 6,.agg #[g v 7,g v 8],g v 9] (.tup [none,none]) fun l11 =>
 pN (g l11 1) (iv 0) fun v12 =>
 .br v12 (
 .ret (.pointer none) []) (
 .ret (g l11 0) []))
theorem oW:aS kH Tryz.f7 kA:=aU Tryz.func7 [(25,[5,6,7,8])] [] [] fun _=>by kernel_rfl
abbrev cZ:FuncId:=8
abbrev iU:FuncId:=9
def iS (v:List Value):Tree :=
 c1 22 [g v 0] fun l0 =>
 .br (g l0 0) (
 .ret (.pointer none) []) (
 kP (g v 0)<|
 .load [] (g v 0) 49 fun l1 =>
 .newbox fun r0 =>
 kN r0<|
 kP (g v 0)<|
 kP (g v 0)<|
 .load [] (an (g v 0) 7) 38 fun l2 =>
 kP (g v 0)<|
 kP (g v 0)<|
 .load [] (an (g v 0) 45) 1 fun l3 =>
 .call true 23 [ag (G38 l2 0)] [] [] (.agg 38) fun l4 _ =>
 c1 24 [g l3 0] fun l5 =>
 kN r0<|
 kN r0<|
 .ret (pt r0 0) [⟨r0,48,(G7 l1 0++(G38 l4 0++[g l5 0,g l1 46,g l1 47,g l1 48]))⟩])
theorem kh:aS iU Tryz.f9 iS:=aU Tryz.func9 [(25,[5,6,7,8])] [] [] fun _=>by kernel_rfl
abbrev lO:FuncId:=11
def lA (v:List Value):Tree :=
 .newbox fun r0 =>
 c1 22 [g v 0] fun l0 =>
 .br (g l0 0) (
 kN r0<|
 kN r0<|
 .ret (ag Z5) []) (
 kP (g v 0)<|
 kP (g v 0)<|
 .load [] (an (g v 0) 7) 38 fun l1 =>
 cS 23 [ag (G38 l1 0)] (.agg 38) fun l2 =>
 kN r0<|
 kN r0<|
 .ret (ag (G38 l2 0)) [])
theorem q6:aS lO Tryz.f11 lA:=aU Tryz.func11 [(25,[5,6,7,8])] [] [] fun _=>by kernel_rfl
abbrev gW:FuncId:=12
def gU (v:List Value):Tree :=
 .newbox fun r0 =>
 c1 22 [g v 0] fun l0 =>
 .chk (.ptr [((g l0 0),false)] (g v 0))<|
 kV (g l0 0)<|
 .chk (.ptr [((g l0 0),false)] (g v 0))<|
 kV (g l0 0)<|
 kV (g l0 0)<|
 .load [((g l0 0),false)] (an (g v 0) 48) 1 fun l1 =>
 kV (g l0 0)<|
 pN (g l1 0) (iv 0) fun v2 =>
 kV (g l0 0)<|
 pK (g l0 0) (.bool true) v2 fun v3 =>
 .br v3 (
 kN r0<|
 kN r0<|
 .ret (.agg #[iv 0,iv 0,.slice none 0 0]) []) (
 kP (g v 0)<|
 kP (g v 0)<|
 .load [] (an (g v 0) 6) 1 fun l4 =>
 kP (g v 0)<|
 kP (g v 0)<|
 .load [] (g v 0) 6 fun l5 =>
 kP (g v 0)<|
 kP (g v 0)<|
 .load [] (an (g v 0) 7) 38 fun l6 =>
 kP (g v 0)<|
 kP (g v 0)<|
 .load [] (an (g v 0) 45) 1 fun l7 =>
 .call true 32 [g l7 0] [] [] .one fun l8 _ =>
 cS 31 [g l4 0,ag (G6 l5 0),ag (G38 l6 0),g l8 0] (.agg 3) fun l9 =>
 kN r0<|
 kN r0<|
 .ret (.agg #[g l9 0,g l9 1,g l9 2]) [])
theorem jf:aS gW Tryz.f12 gU:=aU Tryz.func12 [(25,[5,6,7,8])] [] [] fun _=>by kernel_rfl
abbrev kK:FuncId:=14
def fK (a b:List Value):Tree :=
 cS 38 [g a 0,ag (G38 b 0),g b 38] (.tup []) fun l32 =>
 c1 44 [g a 0] fun l33 =>
 .ret (.tuple #[g l33 0,iv 0]) []
def dY (a:Nat) (b:List Value) (c:Value) (d:Nat) (e:List Value):Tree :=
 kN a<|
 pE (g b 1) (iv 2) fun v10 =>
 .br v10 (
 kP c<|
 kP c<|
 kP (an c 11)<|
 .store (an c 11) [.bool true]<|
 c1 44 [g b 0] fun l11 =>
 .ret (.tuple #[g l11 0,iv 0]) []) (
 pE (g b 1) (iv 3) fun v12 =>
 .br v12 (
 kN d<|
 cS 35 [g b 0,g e 0] (.tup []) fun l13 =>
 c1 44 [g b 0] fun l14 =>
 .ret (.tuple #[g l14 0,iv 0]) []) (
 pE (g b 1) (iv 1) fun v15 =>
 .br v15 (
 kN d<|
 cS 36 [g b 0,g e 1] (.tup []) fun l16 =>
 c1 44 [g b 0] fun l17 =>
 .ret (.tuple #[g l17 0,iv 0]) []) (
 pE (g b 1) (iv 4) fun v18 =>
 .br v18 (
 kN d<|
 kN a<|
 cS 37 [g b 0,g e 0,g b 2] (.tup []) fun l19 =>
 c1 44 [g b 0] fun l20 =>
 .ret (.tuple #[g l20 0,iv 0]) []) (
 pE (g b 1) (iv 5) fun v21 =>
 .br v21 (
 kP (g b 0)<|
 kP (g b 0)<|
 .load [] (an (g b 0) 6) 1 fun l22 =>
 kP (g b 0)<|
 kP (g b 0)<|
 .load [] (an (g b 0) 7) 38 fun l23 =>
 kN a<|
 kN a<|
 cS 39 [g l22 0,ag (G38 l23 0),.agg #[g b 2,g b 3]] (.tup [some 38,none]) fun l24 =>
 cS 38 [g b 0,ag (G38 l24 0),g l24 38] (.tup []) fun l25 =>
 kN d<|
 cS 40 [g b 0,g e 0] (.tup []) fun l26 =>
 c1 44 [g b 0] fun l27 =>
 .ret (.tuple #[g l27 0,iv 0]) []) (
 pE (g b 1) (iv 6) fun v28 =>
 .br v28 (
 kP (g b 0)<|
 kP (g b 0)<|
 .load [] (an (g b 0) 6) 1 fun l29 =>
 kP (g b 0)<|
 kP (g b 0)<|
 .load [] (an (g b 0) 7) 38 fun l30 =>
 kN a<|
 cS 41 [g l29 0,ag (G38 l30 0),g b 2] (.tup [some 38,none]) fun l31 =>
 fK b l31) (
 pE (g b 1) (iv 7) fun v34 =>
 .br v34 (
 kP (g b 0)<|
 kP (g b 0)<|
 .load [] (an (g b 0) 6) 1 fun l35 =>
 kP (g b 0)<|
 kP (g b 0)<|
 .load [] (an (g b 0) 7) 38 fun l36 =>
 kN a<|
 kN a<|
 cS 42 [g l35 0,ag (G38 l36 0),.agg #[g b 2,g b 3]] (.tup [some 38,none]) fun l37 =>
 fK b l37) (
 pE (g b 1) (iv 8) fun v40 =>
 .br v40 (
 kP (g b 0)<|
 kP (g b 0)<|
 .load [] (an (g b 0) 7) 38 fun l41 =>
 kN a<|
 cS 43 [ag (G38 l41 0),g b 2,iv 3] (.tup [some 38,none]) fun l42 =>
 fK b l42) (
 c1 44 [g b 0] fun l45 =>
 .ret (.tuple #[g l45 0,iv 0]) []))))))))
def cP (a b:Value) (c:Nat) (d:List Value) (e:Nat) (f:List Value):Tree :=
 .br a (
 kP b<|
 kP b<|
 .load [] (an b 13) 1 fun l8 =>
 pA (g l8 0) (iv 1) fun v9 =>
 kP b<|
 kP b<|
 kP (an b 13)<|
 .store (an b 13) [v9]<|
 dY c d b e f) (
 dY c d b e f)
def kC (v:List Value):Tree :=
 .newbox fun r0 =>
 c1 22 [g v 0] fun l0 =>
 .br (g l0 0) (
 .ret (.tuple #[iv 0,iv 1]) []) (
 kP (g v 0)<|
 kP (g v 0)<|
 .load [] (an (g v 0) 48) 1 fun l1 =>
 pN (g l1 0) (iv 0) fun v2 =>
 .br v2 (
 .ret (.tuple #[iv 0,iv 15]) []) (
 cS 12 [g v 0] (.agg 3) fun l3 =>
 .newbox fun r1 =>
 kN r1<|
 kN r1<|
 kN r0<|
 c1 34 [.agg #[g l3 0,g l3 1,g l3 2],.agg #[g v 1,g v 2,g v 3]] fun l4 =>
 pO (g l4 0) fun v5 =>
 .br v5 (
 .ret (.tuple #[iv 0,iv 14]) []) (
 kN r1<|
 kP (g v 0)<|
 kP (g v 0)<|
 kP (an (g v 0) 7)<|
 .pure [] (.pidx 2 14) [an (an (g v 0) 7) 1,g l3 0] fun v6 =>
 kN r0<|
 pE (g v 1) (iv 4) fun v7 =>
 .br v7 (
 cP v7 v6 r0 v r1 l3) (
 pE (g v 1) (iv 6) fun v82 =>
 .br v82 (
 cP v82 v6 r0 v r1 l3) (
 pE (g v 1) (iv 7) fun v157 =>
 cP v157 v6 r0 v r1 l3)))))
theorem oZ:aS kK Tryz.f14 kC:=aU Tryz.func14 [(25,[5,6,7,8])] [] [] fun _=>by kernel_rfl
abbrev AC:FuncId:=15
def Ap (v:List Value):Tree :=
 .newbox fun r0 =>
 c1 9 [g v 0] fun l0 =>
 .pure [] (.bin .eql .ptr) [g l0 0,.pointer none] fun v1 =>
 .br v1 (
 kN r0<|
 kN r0<|
 .ret (.tuple #[.agg #[iv 0,iv 0],iv 1]) []) (
 cS 45 [g v 0] (.tup [some 2,none]) fun l2 =>
 .newbox fun r1 =>
 kN r1<|
 kN r1<|
 cS 11 [g v 0] (.agg 38) fun l3 =>
 cS 46 [ag (G38 l3 0),.agg #[g l2 0,g l2 1],g l2 2] (.agg 2) fun l4 =>
 kN r0<|
 kN r0<|
 .ret (.tuple #[.agg #[g l4 0,g l4 1],iv 0]) [])
theorem Dy:aS AC Tryz.f15 Ap:=aU Tryz.func15 [(25,[5,6,7,8])] [] [] fun _=>by kernel_rfl
abbrev AL:FuncId:=16
def Av (v:List Value):Tree :=
 pH (g v 0) (iv 1) fun v0 =>
 kV v0<|
 pM (g v 0) (iv 4) fun v1 =>
 kV v0<|
 pK v0 v1 (.bool false) fun v2 =>
 .ret v2 []
theorem DJ:aS AL Tryz.f16 Av:=aU Tryz.func16 [(25,[5,6,7,8])] [] [] fun _=>by kernel_rfl
abbrev xz:FuncId:=17
def wW (v:List Value):Tree :=
 .newbox fun r0 =>
 .newbox fun r1 =>
 .newbox fun r2 =>
 c1 16 [g v 0] fun l0 =>
 pO (g l0 0) fun v1 =>
 kN r1<|
 kV v1<|
 kV v1<|
 pZ (g v 42) fun v2 =>
 kV v1<|
 pE v2 (iv 0) fun v3 =>
 kV v1<|
 pK v1 (.bool true) v3 fun v4 =>
 .br v4 (
 kN r2<|
 kN r2<|
 .ret (.tuple #[.agg #[iv 0,iv 0,iv 0],iv 2]) []) (
 kN r1<|
 pS (g v 0) (iv 1) fun v5 =>
 kN r0<|
 kN r1<|
 cS 47 [] (.agg 4) fun l6 =>
 .pure [] .aidx (v5::G4 l6 0) fun v7 =>
 .callv false v7 [ag (G43 v 1)] [] [] .one fun l8 _ =>
 pI 3 (g v 42) (g l8 0) fun v9 =>
 .load [] v9 3 fun l10 =>
 kN r2<|
 kN r2<|
 .ret (.tuple #[.agg #[g l10 0,g l10 1,g l10 2],iv 0]) [])
theorem Bc:aS xz Tryz.f17 wW:=aU Tryz.func17 [(25,[5,6,7,8])] [] [] fun _=>by kernel_rfl
abbrev lN:FuncId:=18
def ly (v:List Value):Tree :=
 c1 22 [g v 0] fun l0 =>
 .br (g l0 0) (
 .ret (.slice none 0 0) []) (
 kP (g v 0)<|
 kP (g v 0)<|
 .load [] (an (g v 0) 6) 1 fun l1 =>
 c1 48 [g l1 0] fun l2 =>
 pZ (g l2 0) fun v3 =>
 .loop 12 5 [iv 0] fun C12 l4 =>
 pL (g l4 0) v3 fun v5 =>
 .br v5 (
 pI 14 (g l2 0) (g l4 0) fun v6 =>
 .load [] v6 14 fun l7 =>
 cS 49 [ag (G14 l7 0)] (.agg 14) fun l8 =>
 pI 14 (g l2 0) (g l4 0) fun v9 =>
 kP v9<|
 .store v9 (G14 l8 0)<|
 pA (g l4 0) (iv 1) fun v10 =>
 .cont 12 C12 [v10] (Es [[g l2 0],[v3]])) (
 .ret (g l2 0) []))
theorem q5:aS lN Tryz.f18 ly:=aU Tryz.func18 [(25,[5,6,7,8])] [(5,.inv [14] [3,13] [])] [] fun _=>by kernel_rfl
abbrev AB:FuncId:=19
def Ao (v:List Value):Tree :=
 .newbox fun r0 =>
 .newbox fun r1 =>
 .newbox fun r2 =>
 kN r0<|
 kN r1<|
 cS 50 [ag (G6 v 0),g v 6,g v 9] (.tup [none,none]) fun l0 =>
 pN (g l0 1) (iv 0) fun v1 =>
 .br v1 (
 .ret (.tuple #[.pointer none,g l0 1]) []) (
 kN r2<|
 .call false 51 [g v 7,.func (.func 52) #[] #[pt r1 0]] [] [⟨r1,24,[g v 6]⟩] .one fun l2 c2 =>
 .br (g l2 0) (
 .ret (.tuple #[.pointer none,iv 2]) []) (
 .call false 51 [g v 8,.func (.func 52) #[] #[pt r1 0]] [] [⟨r1,24,[g (gd c2 0) 0]⟩] .one fun l3 c3 =>
 .br (g l3 0) (
 .ret (.tuple #[.pointer none,iv 2]) []) (
 kN r2<|
 pZ (g v 7) fun v4 =>
 kN r2<|
 pZ (g v 8) fun v5 =>
 pA v4 v5 fun v6 =>
 kN r0<|
 pG v6 (g v 3) fun v7 =>
 .br v7 (
 .ret (.tuple #[.pointer none,iv 2]) []) (
 kN r0<|
 kN r2<|
 cS 53 [g v 0,.agg #[g v 7,g v 8]] (.tup [some 38,none]) fun l8 =>
 cS 38 [g l0 0,ag (G38 l8 0),g l8 38] (.tup []) fun l9 =>
 c1 54 [g l0 0,iv 0] fun l10 =>
 pN (g l10 0) (iv 0) fun v11 =>
 .br v11 (
 .ret (.tuple #[.pointer none,g l10 0]) []) (
 c1 54 [g l0 0,iv 1] fun l12 =>
 pN (g l12 0) (iv 0) fun v13 =>
 .br v13 (
 .ret (.tuple #[.pointer none,g l12 0]) []) (
 cS 55 [g l0 0,iv 0,iv 7] (.tup []) fun l14 =>
 cS 55 [g l0 0,iv 1,iv 7] (.tup []) fun l15 =>
 c1 44 [g l0 0] fun l16 =>
 .ret (.tuple #[g l0 0,iv 0]) []))))))
theorem Dx:aS AB Tryz.f19 Ao:=aU Tryz.func19 [(25,[5,6,7,8])] [(5,.unroll 3),(14,.unroll 3),(21,.unroll 3)] [] fun _=>by kernel_rfl
abbrev dz:FuncId:=22
def fW (v:List Value):Tree :=
 .pure [] (.bin .eql .ptr) [g v 0,.pointer none] fun v0 =>
 .chk (.ptr [(v0,false)] (g v 0))<|
 kV v0<|
 .chk (.ptr [(v0,false)] (g v 0))<|
 kV v0<|
 kV v0<|
 .load [(v0,false)] (an (g v 0) 45) 1 fun l1 =>
 kV v0<|
 .pure [] (.bin .eql .ptr) [g l1 0,.pointer none] fun v2 =>
 kV v0<|
 pK v0 (.bool true) v2 fun v3 =>
 .ret v3 []
theorem gI:aS dz Tryz.f22 fW:=aU Tryz.func22 [(25,[5,6,7,8])] [] [] fun _=>by kernel_rfl
abbrev lU:FuncId:=23
def w8 (v:List Value):Tree :=
 .newbox fun r0 =>
 .newbox fun r1 =>
 kN r0<|
 kN r0<|
 kN r0<|
 c1 56 [g v 0] fun l0 =>
 c1 57 [g v 31] fun l1 =>
 c1 58 [g v 32] fun l2 =>
 kN r0<|
 kN r0<|
 kN r0<|
 kN r0<|
 kN r0<|
 c1 59 [g v 29] fun l3 =>
 c1 59 [g v 30] fun l4 =>
 kN r0<|
 kN r0<|
 cS 25 [pt r0 1] (.agg 4) fun l5 =>
 kW (g l5 0) r0 6<|
 kW (g l5 1) r0 7<|
 kW (g l5 2) r0 8<|
 kW (g l5 3) r0 9<|
 kN r0<|
 c1 57 [g v 6] fun l6 =>
 kN r0<|
 kN r0<|
 c1 57 [g v 7] fun l7 =>
 kN r0<|
 kN r0<|
 c1 57 [g v 8] fun l8 =>
 kN r0<|
 kN r0<|
 c1 57 [g v 9] fun l9 =>
 kN r0<|
 cS 25 [pt r0 15] (.agg 4) fun l10 =>
 kW (g l10 0) r0 20<|
 kW (g l10 1) r0 21<|
 kW (g l10 2) r0 22<|
 kW (g l10 3) r0 23<|
 kN r0<|
 c1 57 [g v 20] fun l11 =>
 kN r0<|
 kN r0<|
 c1 57 [g v 21] fun l12 =>
 kN r0<|
 kN r0<|
 c1 57 [g v 22] fun l13 =>
 kN r0<|
 kN r0<|
 c1 57 [g v 23] fun l14 =>
 kN r0<|
 kN r0<|
 kN r1<|
 kN r1<|
 .ret (ag ((g l0 0)::(G5 v 1++((g l6 0)::((g l7 0)::((g l8 0)::((g l9 0)::(G10 v 10++((g l11 0)::((g l12 0)::((g l13 0)::((g l14 0)::(G5 v 24++((g l3 0)::((g l4 0)::((g l1 0)::((g l2 0)::G5 v 33))))))))))))))))) []
theorem Bh:aS lU Tryz.f23 w8:=aU Tryz.func23 [(25,[5,6,7,8])] [(4,.unroll 3),(7,.unroll 5)] [] fun _=>by kernel_rfl
abbrev lS:FuncId:=24
def lF (v:List Value):Tree :=
 c1 60 [g v 0] fun l0 =>
 .br (g l0 0) (
 .ret (.pointer none) []) (
 kP (g v 0)<|
 .load [] (g v 0) 3 fun l1 =>
 .newbox fun r0 =>
 kN r0<|
 .ret (pt r0 0) [⟨r0,148,[g l1 0,g l1 1,g l1 2]⟩])
theorem rb:aS lS Tryz.f24 lF:=aU Tryz.func24 [(25,[5,6,7,8])] [] [] fun _=>by kernel_rfl
abbrev uM:FuncId:=25
def uz (v:List Value):Tree :=
 .newbox fun r0 =>
 kP (g v 0)<|
 kP (g v 0)<|
 kP (g v 0)<|
 kP (g v 0)<|
 kP (g v 0)<|
 kP (g v 0)<|
 kP (g v 0)<|
 kP (g v 0)<|
 kN r0<|
 kN r0<|
 .ret (.agg #[an (g v 0) 5,an (g v 0) 6,an (g v 0) 7,an (g v 0) 8]) []
theorem yR:aS uM Tryz.f25 uz:=aU Tryz.func25 [(25,[5,6,7,8])] [] [] fun _=>by kernel_rfl
abbrev AD:FuncId:=31
def nT (a:Nat) (b:List Value) (c d:Nat):Tree :=
 kN a<|
 pZ (g b c) fun v37 =>
 pG v37 (iv 7) fun v38 =>
 .br v38 (
 c1 79 [g b c] fun l39 =>
 c1 78 [g l39 0] fun l40 =>
 c1 67 [iv 8,g l40 0] fun l41 =>
 cS 77 [g b 41,iv 7,g l41 0] (.agg 3) fun l42 =>
 kN d<|
 kN d<|
 .ret (.agg #[g l42 0,g l42 1,g l42 2]) []) (
 kN d<|
 kN d<|
 .ret (.agg #[iv 0,iv 0,.slice none 0 0]) [])
def jW (a:Value) (b:List Value) (c d e f h:Nat) (i:Value):Tree :=
 .br a (
 .call false 66 [g b 41,.bool false,pt c 0,pt d 0,pt e 0] [] [⟨c,140,[.func (.func 65) #[] #[pt e 0,pt f 0]]⟩,⟨d,24,[g b 0]⟩,⟨e,43,(G38 b 7)⟩,⟨f,23,(G6 b 1)⟩] .one fun l20 c20 =>
 cS 72 [g b 41,iv 2,g l20 0] (.agg 3) fun l21 =>
 kN h<|
 kN h<|
 .ret (.agg #[g l21 0,g l21 1,g l21 2]) []) (
 pE (g b 42) (iv 5) fun v22 =>
 .br v22 (
 kN d<|
 kN e<|
 c1 73 [g b 0,ag (G38 b 7)] fun l23 =>
 pZ (g l23 0) fun v24 =>
 pG v24 (iv 0) fun v25 =>
 .br v25 (
 kN c<|
 .call false 65 [g b 41,pt e 0,pt f 0] [] [⟨e,43,(G38 b 7)⟩,⟨f,23,(G6 b 1)⟩] .one fun l26 c26 =>
 .br (g l26 0) (
 c1 67 [iv 6,g l23 0] fun l27 =>
 cS 72 [g b 41,iv 5,g l27 0] (.agg 3) fun l28 =>
 kN h<|
 kN h<|
 .ret (.agg #[g l28 0,g l28 1,g l28 2]) []) (
 kN h<|
 kN h<|
 .ret (.agg #[iv 0,iv 0,.slice none 0 0]) [])) (
 kN h<|
 kN h<|
 .ret (.agg #[iv 0,iv 0,.slice none 0 0]) [])) (
 pE (g b 42) (iv 6) fun v29 =>
 .br v29 (
 kN d<|
 kN e<|
 c1 74 [g b 0,ag (G38 b 7)] fun l30 =>
 pZ (g l30 0) fun v31 =>
 pG v31 (iv 0) fun v32 =>
 .br v32 (
 kN c<|
 .call false 65 [i,pt e 0,pt f 0] [] [⟨e,43,(G38 b 7)⟩,⟨f,23,(G6 b 1)⟩] .one fun l33 c33 =>
 .br (g l33 0) (
 c1 75 [g l30 0,.func (.func 76) #[] #[]] fun l34 =>
 cS 72 [i,iv 6,g l34 0] (.agg 3) fun l35 =>
 kN h<|
 kN h<|
 .ret (.agg #[g l35 0,g l35 1,g l35 2]) []) (
 kN h<|
 kN h<|
 .ret (.agg #[iv 0,iv 0,.slice none 0 0]) [])) (
 kN h<|
 kN h<|
 .ret (.agg #[iv 0,iv 0,.slice none 0 0]) [])) (
 pE (g b 42) (iv 10) fun v36 =>
 .br v36 (
 .sw (g b 41) 0 (
 nT e b 14 h) (
 .sw (g b 41) 1 (
 nT e b 28 h) (
 .stuck 901))) (
 kN h<|
 kN h<|
 .ret (.agg #[iv 0,iv 0,.slice none 0 0]) []))))
def Aq (v:List Value):Tree :=
 .newbox fun r0 =>
 .newbox fun r1 =>
 .newbox fun r2 =>
 .newbox fun r3 =>
 pL (g v 45) (iv 0) fun v0 =>
 .br v0 (
 kN r3<|
 kN r3<|
 .ret (.agg #[iv 0,iv 0,.slice none 0 0]) []) (
 kN r1<|
 c1 62 [ag (G6 v 1)] fun l1 =>
 pO (g l1 0) fun v2 =>
 .br v2 (
 kN r3<|
 kN r3<|
 .ret (.agg #[iv 0,iv 0,.slice none 0 0]) []) (
 kN r0<|
 kN r2<|
 c1 63 [g v 0,ag (G38 v 7)] fun l3 =>
 pO (g l3 0) fun v4 =>
 .br v4 (
 kN r3<|
 kN r3<|
 .ret (.agg #[iv 0,iv 0,.slice none 0 0]) []) (
 kN r2<|
 cS 64 [ag (G38 v 7)] (.agg 2) fun l5 =>
 .raw [] (.eqv .neq 45 false) [.agg #[g l5 0,g l5 1],.agg #[.bool false,.bool false]] fun v6 =>
 kN r2<|
 kV v6<|
 kV v6<|
 pZ (g v 37) fun v7 =>
 kV v6<|
 pG v7 (iv 0) fun v8 =>
 kV v6<|
 pK v6 (.bool true) v8 fun v9 =>
 .br v9 (
 kN r3<|
 kN r3<|
 .ret (.agg #[iv 0,iv 0,.slice none 0 0]) []) (
 .newbox fun r4 =>
 kN r4<|
 kN r2<|
 kN r2<|
 pS (iv 1) (g v 41) fun v10 =>
 kN r0<|
 kN r2<|
 c1 69 [g v 0,ag (G38 v 7)] fun l11 =>
 kN r2<|
 pE (g v 42) (iv 0) fun v12 =>
 .br v12 (
 kN r1<|
 kN r2<|
 cS 70 [ag (G6 v 1),ag (G38 v 7),g v 45] (.agg 3) fun l13 =>
 kN r3<|
 kN r3<|
 .ret (.agg #[g l13 0,g l13 1,g l13 2]) []) (
 pN (g l11 0) (iv 0) fun v14 =>
 .br v14 (
 kN r0<|
 kN r2<|
 cS 71 [g v 0,ag (G38 v 7),g l11 0] (.agg 3) fun l15 =>
 kN r3<|
 kN r3<|
 .ret (.agg #[g l15 0,g l15 1,g l15 2]) []) (
 kN r2<|
 pH (g v 43) (iv 0) fun v16 =>
 .br v16 (
 kN r2<|
 kN r2<|
 .stuck 2005) (
 kN r2<|
 pZ (g v 36) fun v17 =>
 pG v17 (iv 0) fun v18 =>
 .br v18 (
 kN r3<|
 kN r3<|
 .ret (.agg #[iv 0,iv 0,.slice none 0 0]) []) (
 kN r2<|
 pE (g v 42) (iv 4) fun v19 =>
 .br v19 (
 jW v19 v r4 r0 r2 r1 r3 v10) (
 pE (g v 42) (iv 9) fun v49 =>
 jW v49 v r4 r0 r2 r1 r3 v10)))))))))
theorem Dz:aS AD Tryz.f31 Aq:=aU Tryz.func31 [(25,[5,6,7,8])] [] [] fun _=>by kernel_rfl
abbrev lR:FuncId:=32
def lE (v:List Value):Tree :=
 c1 60 [g v 0] fun l0 =>
 .br (g l0 0) (
 .ret (iv 0) []) (
 kP (g v 0)<|
 kP (g v 0)<|
 .load [] (an (g v 0) 1) 1 fun l1 =>
 pZ (g l1 0) fun v2 =>
 kP (g v 0)<|
 kP (g v 0)<|
 .load [] (an (g v 0) 2) 1 fun l3 =>
 pS v2 (g l3 0) fun v4 =>
 .ret v4 [])
theorem ra:aS lR Tryz.f32 lE:=aU Tryz.func32 [(25,[5,6,7,8])] [] [] fun _=>by kernel_rfl
end Go.Proofs.YteakpllehopodaaGreatDoor
