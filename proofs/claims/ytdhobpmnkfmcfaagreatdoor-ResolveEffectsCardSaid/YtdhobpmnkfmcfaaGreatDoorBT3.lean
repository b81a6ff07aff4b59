/- The trees of the functions of this seat: printed by a tool of mine; each by the kernel's reckoning equal to the evaluator's. -/
import Derived.Test.YtdhobpmnkfmcfaaGreatDoorBT2
namespace Go.Proofs.YtdhobpmnkfmcfaaGreatDoor
open Go Go.Sx
set_option maxRecDepth 100000
abbrev mL:FuncId:=33
def aG (r1009:Nat) (l1010:List Value):Tree :=
 kN r1009 <|
 kN r1009 <|
 .ret (ag (G38 l1010 0)) []
def bS (r1071:Nat) (l1072 l1073:List Value) (n1074 r1075:Nat):Tree :=
 kN r1071 <|
 pI 12 (g l1072 0) (g l1073 0) fun v24 =>
 kP v24 <|
 kP (aU v24 n1074) <|
 .store (aU v24 n1074) [.bool true] <|
 kN r1071 <|
 aG r1075 l1072
def dG (r1065 r1066:Nat) (l1067 l1068:List Value) (n1069 r1070:Nat):Tree :=
 kN r1065 <|
 kN r1066 <|
 cS 64 [ag (G38 l1067 0),g l1068 n1069,g l1068 43] (.agg 38) fun l16 =>
 aG r1070 l16
def dH (r1060 r1061:Nat) (l1062 l1063:List Value) (r1064:Nat):Tree :=
 kN r1060 <|
 kN r1061 <|
 cS 24 [ag (G38 l1062 0),g l1063 46,iv 1] (.agg 38) fun l28 =>
 aG r1064 l28
def dI (r1055 r1056:Nat) (l1057 l1058:List Value) (r1059:Nat):Tree :=
 kN r1055 <|
 kN r1056 <|
 cS 65 [ag (G38 l1057 0),g l1058 46] (.tup [some 38,none]) fun l30 =>
 .newbox fun r4 =>
 kN r4 <|
 kN r4 <|
 aG r1059 l30
def dJ (l1049:List Value) (r1050:Nat) (l1051:List Value) (r1052:Nat) (l1053:List Value) (r1054:Nat):Tree :=
 pH (g l1049 0) (iv 0) fun v32 =>
 .br v32 (
 kN r1050 <|
 pI 12 (g l1051 0) (g l1049 0) fun v33 =>
 kP v33 <|
 kP v33 <|
 .load [] (aU v33 7) 1 fun l34 =>
 kN r1052 <|
 kP v33 <|
 kP v33 <|
 .load [] (aU v33 8) 1 fun l35 =>
 kN r1052 <|
 .call true 63 [g l34 0,g l1053 43] [] [] .one fun l36 _ =>
 c1 63 [g l35 0,g l1053 44] fun l37 =>
 kP v33 <|
 kP v33 <|
 kP (aU v33 7) <|
 .store (aU v33 7) [g l36 0] <|
 kP v33 <|
 kP v33 <|
 kP (aU v33 8) <|
 .store (aU v33 8) [g l37 0] <|
 kN r1050 <|
 aG r1054 l1051) (
 kN r1050 <|
 aG r1054 l1051)
def ee (r1044 r1045:Nat) (l1046 l1047:List Value) (r1048:Nat):Tree :=
 kN r1044 <|
 kN r1045 <|
 kN r1045 <|
 cS 66 [ag (G38 l1046 0),g l1047 39,g l1047 43,g l1047 44,g l1047 48] (.tup [some 38,none]) fun l45 =>
 .newbox fun r5 =>
 kN r5 <|
 kN r5 <|
 aG r1048 l45
def cm (r1037:Nat) (l1038 l1039:List Value) (n1040 r1041:Nat) (l1042:List Value) (r1043:Nat):Tree :=
 kN r1037 <|
 kN r1037 <|
 pI 12 (g l1038 0) (g l1039 0) fun v9 =>
 kP v9 <|
 .load [] (aU v9 n1040) 1 fun l10 =>
 kN r1041 <|
 c1 63 [g l10 0,g l1042 43] fun l11 =>
 pI 12 (g l1038 0) (g l1039 0) fun v12 =>
 kP v12 <|
 kP (aU v12 n1040) <|
 .store (aU v12 n1040) [g l11 0] <|
 kN r1037 <|
 aG r1043 l1038
def cn (r1033 r1034:Nat) (l1035:List Value) (v1036:Value):Tree :=
 kN r1033 <|
 kN r1033 <|
 kN r1034 <|
 kN r1034 <|
 .ret (ag (G15 l1035 0++(v1036::G22 l1035 16))) []
def cq (r1029 r1030:Nat) (l1031:List Value) (v1032:Value):Tree :=
 kN r1029 <|
 kN r1029 <|
 kN r1030 <|
 kN r1030 <|
 .ret (ag ((g l1031 0)::(v1032::G36 l1031 2))) []
def bp (r1011 r1012:Nat) (l1013:List Value) (n1014:Nat) (l1015:List Value) (r1016:Nat):Tree :=
 kN r1011 <|
 kN r1012 <|
 pA (g l1013 n1014) (g l1015 43) fun v47 =>
 .pure [] .min2 [iv 99,v47] fun v48 =>
 .sw (g l1015 45) 0 (
 kN r1011 <|
 kN r1011 <|
 kN r1016 <|
 kN r1016 <|
 .ret (ag ((g l1013 0)::((g l1013 1)::(v48::G35 l1013 3)))) []) (
 .sw (g l1015 45) 1 (
 kN r1011 <|
 kN r1011 <|
 kN r1016 <|
 kN r1016 <|
 .ret (ag ((g l1013 0)::((g l1013 1)::((g l1013 2)::(v48::G34 l1013 4))))) []) (
 .sw (g l1015 45) 2 (
 kN r1011 <|
 kN r1011 <|
 kN r1016 <|
 kN r1016 <|
 .ret (ag (G4 l1013 0++(v48::G33 l1013 5))) []) (
 .sw (g l1015 45) 3 (
 kN r1011 <|
 kN r1011 <|
 kN r1016 <|
 kN r1016 <|
 .ret (ag (G5 l1013 0++(v48::G32 l1013 6))) []) (
 .stuck 901))))
def bo (r1017 r1018:Nat) (l1019:List Value) (n1020:Nat) (l1021:List Value) (r1022:Nat):Tree :=
 kN r1017 <|
 kN r1018 <|
 pA (g l1019 n1020) (g l1021 43) fun v95 =>
 .pure [] .min2 [iv 99,v95] fun v96 =>
 .sw (g l1021 45) 0 (
 kN r1017 <|
 kN r1017 <|
 kN r1022 <|
 kN r1022 <|
 .ret (ag (G16 l1019 0++(v96::G21 l1019 17))) []) (
 .sw (g l1021 45) 1 (
 kN r1017 <|
 kN r1017 <|
 kN r1022 <|
 kN r1022 <|
 .ret (ag (G17 l1019 0++(v96::G20 l1019 18))) []) (
 .sw (g l1021 45) 2 (
 kN r1017 <|
 kN r1017 <|
 kN r1022 <|
 kN r1022 <|
 .ret (ag (G18 l1019 0++(v96::G19 l1019 19))) []) (
 .sw (g l1021 45) 3 (
 kN r1017 <|
 kN r1017 <|
 kN r1022 <|
 kN r1022 <|
 .ret (ag (G19 l1019 0++(v96::G18 l1019 20))) []) (
 .stuck 901))))
def ct (l1001:List Value) (n1002 r1003 r1004 r1005:Nat) (l1006 l1007:List Value) (r1008:Nat):Tree :=
 .sw (g l1001 n1002) 0 (
 kN r1003 <|
 pE (g l1001 41) (iv 1) fun v7 =>
 .br v7 (
 kN r1004 <|
 pG (g l1001 46) (iv 0) fun v8 =>
 .br v8 (
 cm r1005 l1006 l1007 5 r1003 l1001 r1008) (
 kN r1005 <|
 kN r1003 <|
 pS (g l1006 1) (g l1001 43) fun v13 =>
 .pure [] .max2 [iv 0,v13] fun v14 =>
 cq r1005 r1008 l1006 v14)) (
 pE (g l1001 41) (iv 2) fun v15 =>
 .br v15 (
 dG r1005 r1003 l1006 l1001 n1002 r1008) (
 pE (g l1001 41) (iv 3) fun v17 =>
 .br v17 (
 kN r1005 <|
 kN r1003 <|
 pA (g l1006 1) (g l1001 43) fun v18 =>
 .pure [] .min2 [iv 9999,v18] fun v19 =>
 cq r1005 r1008 l1006 v19) (
 pE (g l1001 41) (iv 4) fun v20 =>
 .br v20 (
 kN r1005 <|
 kN r1003 <|
 pS (g l1006 1) (g l1001 43) fun v21 =>
 .pure [] .max2 [iv 0,v21] fun v22 =>
 cq r1005 r1008 l1006 v22) (
 pE (g l1001 41) (iv 5) fun v23 =>
 .br v23 (
 bS r1005 l1006 l1007 11 r1008) (
 pE (g l1001 41) (iv 11) fun v25 =>
 .br v25 (
 bS r1005 l1006 l1007 9 r1008) (
 pE (g l1001 41) (iv 6) fun v27 =>
 .br v27 (
 dH r1005 r1004 l1006 l1001 r1008) (
 pE (g l1001 41) (iv 7) fun v29 =>
 .br v29 (
 dI r1005 r1004 l1006 l1001 r1008) (
 pE (g l1001 41) (iv 8) fun v31 =>
 .br v31 (
 dJ l1007 r1005 l1006 r1003 l1001 r1008) (
 pE (g l1001 41) (iv 9) fun v38 =>
 .br v38 (
 pH (g l1007 0) (iv 0) fun v39 =>
 .br v39 (
 cm r1005 l1006 l1007 6 r1003 l1001 r1008) (
 kN r1005 <|
 aG r1008 l1006)) (
 pE (g l1001 41) (iv 10) fun v44 =>
 .br v44 (
 ee r1005 r1003 l1006 l1001 r1008) (
 pE (g l1001 41) (iv 12) fun v46 =>
 .br v46 (
 kN r1003 <|
 kN r1003 <|
 .sw (g l1001 45) 0 (
 bp r1005 r1003 l1006 2 l1001 r1008) (
 .sw (g l1001 45) 1 (
 bp r1005 r1003 l1006 3 l1001 r1008) (
 .sw (g l1001 45) 2 (
 bp r1005 r1003 l1006 4 l1001 r1008) (
 .sw (g l1001 45) 3 (
 bp r1005 r1003 l1006 5 l1001 r1008) (
 .stuck 901))))) (
 kN r1005 <|
 aG r1008 l1006))))))))))))) (
 .sw (g l1001 n1002) 1 (
 kN r1003 <|
 pE (g l1001 41) (iv 1) fun v55 =>
 .br v55 (
 kN r1004 <|
 pG (g l1001 46) (iv 0) fun v56 =>
 .br v56 (
 cm r1005 l1006 l1007 5 r1003 l1001 r1008) (
 kN r1005 <|
 kN r1003 <|
 pS (g l1006 15) (g l1001 43) fun v61 =>
 .pure [] .max2 [iv 0,v61] fun v62 =>
 cn r1005 r1008 l1006 v62)) (
 pE (g l1001 41) (iv 2) fun v63 =>
 .br v63 (
 dG r1005 r1003 l1006 l1001 n1002 r1008) (
 pE (g l1001 41) (iv 3) fun v65 =>
 .br v65 (
 kN r1005 <|
 kN r1003 <|
 pA (g l1006 15) (g l1001 43) fun v66 =>
 .pure [] .min2 [iv 9999,v66] fun v67 =>
 cn r1005 r1008 l1006 v67) (
 pE (g l1001 41) (iv 4) fun v68 =>
 .br v68 (
 kN r1005 <|
 kN r1003 <|
 pS (g l1006 15) (g l1001 43) fun v69 =>
 .pure [] .max2 [iv 0,v69] fun v70 =>
 cn r1005 r1008 l1006 v70) (
 pE (g l1001 41) (iv 5) fun v71 =>
 .br v71 (
 bS r1005 l1006 l1007 11 r1008) (
 pE (g l1001 41) (iv 11) fun v73 =>
 .br v73 (
 bS r1005 l1006 l1007 9 r1008) (
 pE (g l1001 41) (iv 6) fun v75 =>
 .br v75 (
 dH r1005 r1004 l1006 l1001 r1008) (
 pE (g l1001 41) (iv 7) fun v77 =>
 .br v77 (
 dI r1005 r1004 l1006 l1001 r1008) (
 pE (g l1001 41) (iv 8) fun v79 =>
 .br v79 (
 dJ l1007 r1005 l1006 r1003 l1001 r1008) (
 pE (g l1001 41) (iv 9) fun v86 =>
 .br v86 (
 pH (g l1007 0) (iv 0) fun v87 =>
 .br v87 (
 cm r1005 l1006 l1007 6 r1003 l1001 r1008) (
 kN r1005 <|
 aG r1008 l1006)) (
 pE (g l1001 41) (iv 10) fun v92 =>
 .br v92 (
 ee r1005 r1003 l1006 l1001 r1008) (
 pE (g l1001 41) (iv 12) fun v94 =>
 .br v94 (
 kN r1003 <|
 kN r1003 <|
 .sw (g l1001 45) 0 (
 bo r1005 r1003 l1006 16 l1001 r1008) (
 .sw (g l1001 45) 1 (
 bo r1005 r1003 l1006 17 l1001 r1008) (
 .sw (g l1001 45) 2 (
 bo r1005 r1003 l1006 18 l1001 r1008) (
 .sw (g l1001 45) 3 (
 bo r1005 r1003 l1006 19 l1001 r1008) (
 .stuck 901))))) (
 kN r1005 <|
 aG r1008 l1006))))))))))))) (
 .stuck 901))
def ef (r1023:Nat) (l1024 l1025:List Value) (r1026 r1027 r1028:Nat):Tree :=
 kN r1023 <|
 c1 62 [g l1024 0,ag (G38 l1025 0),g l1024 40] fun l4 =>
 kN r1026 <|
 pN (g l1024 42) (iv 0) fun v5 =>
 .br v5 (
 kN r1027 <|
 kN r1023 <|
 kN r1027 <|
 c1 62 [g l1024 0,ag (G38 l1025 0),g l1024 46] fun l6 =>
 ct l1024 47 r1026 r1027 r1023 l1025 l6 r1028) (
 ct l1024 39 r1026 r1027 r1023 l1025 l4 r1028)
def iD (v:List Value):Tree :=
 .newbox fun r0 =>
 .newbox fun r1 =>
 .newbox fun r2 =>
 .newbox fun r3 =>
 kN r0 <|
 cS 14 [ag (G38 v 1)] (.agg 38) fun l0 =>
 kN r0 <|
 kN r1 <|
 pN (g v 42) (iv 0) fun v1 =>
 .br v1 (
 kN r0 <|
 kN r1 <|
 kN r2 <|
 c1 27 [g v 0,ag (G38 l0 0),g v 39,g v 42,.agg #[g v 46,g v 47]] fun l2 =>
 pO (g l2 0) fun v3 =>
 .br v3 (
 kN r0 <|
 aG r3 l0) (
 ef r0 v l0 r1 r2 r3)) (
 ef r0 v l0 r1 r2 r3)
theorem rJ (vs:List Value):aR PP Tryz.f33 (aF okL [(76,[5,6,7,8])] [] []) vs=iD vs:=by kernel_rfl
theorem sc {args vs} (ha:am PP Tryz.f33 args=some vs) (ho:Ones vs) {H O Q} (h:(iD vs).den PP Q H O):Triple PP mL args H O Q :=
 al mixed (an aB _ _ _) Tryz.func33 rJ ha ho h
end Go.Proofs.YtdhobpmnkfmcfaaGreatDoor
