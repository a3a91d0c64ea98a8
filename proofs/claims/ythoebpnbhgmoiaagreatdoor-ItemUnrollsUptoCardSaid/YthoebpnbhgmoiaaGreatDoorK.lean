import Derived.Test.YthoebpnbhgmoiaaGreatDoorProg
import Derived.Test.YthoebpnbhgmoiaaGreatDoorA20
import Derived.KernelRfl
import Derived.Test.YthoebpnbhgmoiaaGreatDoorNames
namespace Go.Proofs.YthoebpnbhgmoiaaGreatDoor
open Go.RowKit
set_option maxRecDepth 100000
set_option linter.unusedVariables false
set_option linter.unusedSimpArgs false
noncomputable def G:Cx:=cx Tryz.prog (fun g=>if g=0 then some [.sl (kwList.map fun s=>[.lit (.string s)])]else none) (by kernel_rfl)
def oM(n:Nat)(o:OP):O:=⟨some n,o,none⟩
def oV(n t:Nat):O:=⟨some n,.mv (.t t),none⟩
def kI(z:Int):X:=.k (.d (.lit (.int .i64 z)))
def kS(s:ByteArray):X:=.k (.d (.lit (.string s)))
def kT:X:=.k (.d (.lit (.bool true)))
def kF:X:=.k (.d (.lit (.bool false)))
def c20:Cd:=.seq (.ops [oM 2 (.box 38 (.t 0)),oM 3 (.box 38 (.t 1)),oM 4 (.mv kF)] [2,3]) (.seq (.seq (.ops [oM 6 (.fa 0 (.t 2)),oM 7 (.load 1 false (.t 6)),oM 8 (.fa 0 (.t 3)),oM 9 (.load 1 false (.t 8)),
 oM 10 (.bin .neq (.t 7) (.t 9)),oV 11 10,⟨some 12,.fa 1 (.t 2),(some (11,false))⟩,⟨some 13,.load 1 false (.t 12),(some (11,false))⟩,⟨some 14,.fa 1 (.t 3),(some (11,false))⟩,⟨some 15,.load 1 false (.t 14),(some (11,false))⟩,
 ⟨some 16,.bin .neq (.t 13) (.t 15),(some (11,false))⟩,oM 17 (.pick (.t 11) kT (.t 16)),oV 18 17,⟨some 19,.fa 2 (.t 2),(some (18,false))⟩,⟨some 20,.load 1 false (.t 19),(some (18,false))⟩,
 ⟨some 21,.fa 2 (.t 3),(some (18,false))⟩,⟨some 22,.load 1 false (.t 21),(some (18,false))⟩,⟨some 23,.bin .neq (.t 20) (.t 22),(some (18,false))⟩,oM 24 (.pick (.t 18) kT (.t 23)),oV 25 24,
 ⟨some 26,.fa 3 (.t 2),(some (25,false))⟩,⟨some 27,.load 1 false (.t 26),(some (25,false))⟩,⟨some 28,.len false (.t 27),(some (25,false))⟩,⟨some 29,.fa 3 (.t 3),(some (25,false))⟩,⟨some 30,.load 1 false (.t 29),(some (25,false))⟩,
 ⟨some 31,.len false (.t 30),(some (25,false))⟩,⟨some 32,.bin .neq (.t 28) (.t 31),(some (25,false))⟩,oM 33 (.pick (.t 25) kT (.t 32))] [2,3,33]) (.cond (.t 33) (.seq (.ops [oM 4 (.mv kF)] [4]) (
 .ret)) (.skip))) (.seq (.seq (.ops [oM 5 (.mv (kI 0))] [2,3,5]) (.block 0 (.loop (.seq (.seq (.ops [oV 34 5,oM 35 (.fa 3 (.t 2)),oM 36 (.load 1 false (.t 35)),oM 37 (.len false (.t 36)),oM 38 (.bin .lss (.t 34) (.t 37))] [2,3,5,38]) (
 .cond (.t 38) (.skip) (.exit 0))) (.seq (.block 1 (.seq (.draw [oM 41 (.fa 3 (.t 2)),oM 42 (.load 1 false (.t 41)),oV 43 5,oM 44 (.ia 4 (.t 42) (.t 43)),oM 45 (.load 4 true (.t 44)),oM 46 (.fa 3 (.t 3)),
 oM 47 (.load 1 false (.t 46)),oV 48 5,oM 49 (.ia 4 (.t 47) (.t 48)),oM 50 (.load 4 true (.t 49)),oM 51 (.call 20 [.t 45,.t 50]),oM 52 (.un .not (.t 51))] [2,3,5,52]) (.cond (.t 52) (.seq (.ops [
 oM 4 (.mv kF)] [4]) (.ret)) (.skip)))) (.ops [oV 39 5,oM 40 (.bin .add (.t 39) (kI 1)),oV 5 40] [2,3,5])))))) (.seq (.ops [oM 4 (.mv kT)] [4]) (.ret))))
def rs20:List RV:=[.t 4 false]
theorem k20:okFn G.tab Tryz.f20 2 c20 rs20=true:=by kernel_rfl
def c122:Cd:=.seq (.ops [oM 3 (.box 38 (.t 0)),oM 5 (.box 38 (.t 2)),oM 6 (.new 38 [.d (.lit (.int .i64 0)),.d (.lit (.int .i64 0)),.d (.lit (.string ⟨#[]⟩)),.nil])] [1,3,5,6]) (.seq (.seq (
 .ops [oM 9 (.fa 0 (.t 3)),oM 10 (.load 1 false (.t 9)),oM 11 (.bin .eql (.t 10) (kI 2)),oV 12 11,⟨some 13,.fa 2 (.t 3),(some (12,true))⟩,⟨some 14,.load 1 false (.t 13),(some (12,true))⟩,⟨some 15,.mv (.t 1),(some (12,true))⟩,
 ⟨some 16,.bin .eql (.t 14) (.t 15),(some (12,true))⟩,oM 17 (.pick (.t 12) (.t 16) kF)] [1,3,5,6,17]) (.cond (.t 17) (.seq (.ops [oM 18 (.load 4 true (.t 5)),⟨none,.sto 4 (.t 6) (.t 18),none⟩] [6]) (
 .ret)) (.skip))) (.seq (.ops [oM 19 (.fa 0 (.t 3)),oM 20 (.load 1 false (.t 19)),oM 21 (.fa 1 (.t 3)),oM 22 (.load 1 false (.t 21)),oM 23 (.fa 2 (.t 3)),oM 24 (.load 1 false (.t 23)),oM 25 (.bld [.d (.lit (.int .i64 0)),.d (.lit (.int .i64 0)),.d (.lit (.string ⟨#[]⟩)),.nil] [(0,1,.t 20),(1,1,.t 22),(2,1,.t 24)]),
 oM 7 (.new 38 [.d (.lit (.int .i64 0)),.d (.lit (.int .i64 0)),.d (.lit (.string ⟨#[]⟩)),.nil]),⟨none,.sto 4 (.t 7) (.t 25),none⟩] [1,3,5,6,7]) (.seq (.seq (.ops [oM 8 (.mv (kI 0))] [1,3,5,6,7,8]) (
 .block 0 (.loop (.seq (.seq (.ops [oV 26 8,oM 27 (.fa 3 (.t 3)),oM 28 (.load 1 false (.t 27)),oM 29 (.len false (.t 28)),oM 30 (.bin .lss (.t 26) (.t 29))] [1,3,5,6,7,8,30]) (.cond (.t 30) (
 .skip) (.exit 0))) (.seq (.block 1 (.drawg [(oM 33 (.fa 3 (.t 7)),.free 0),(oM 34 (.ldo (.t 33)),.act),(oM 35 (.fa 3 (.t 3)),.free 0),(oM 36 (.load 1 false (.t 35)),.calm 0 1),(oV 37 8,.free 0),
 (oM 38 (.ia 4 (.t 36) (.t 37)),.free 0),(oM 39 (.load 4 true (.t 38)),.calm 0 1),(oV 40 1,.free 0),(oM 41 (.load 4 true (.t 5)),.calm 0 1),(oM 42 (.call 122 [.t 39,.t 40,.t 41]),.calm 0 1),
 (oM 43 (.mks 38 4 [.t 42]),.free 0),(oM 44 (.app 38 4 56 34 (.t 43)),.slot 1),(oM 45 (.fa 3 (.t 7)),.free 1),(⟨none,.stoo (.t 45) 44,none⟩,.act)] [1,3,5,6,7,8])) (.ops [oV 31 8,oM 32 (.bin .add (.t 31) (kI 1)),
 oV 8 32] [1,3,5,6,7,8])))))) (.seq (.ops [oM 46 (.load 4 true (.t 7)),⟨none,.sto 4 (.t 6) (.t 46),none⟩] [6]) (.ret)))))
def rs122:List RV:=[.c 6 4 true]
theorem k122:okFn G.tab Tryz.f122 3 c122 rs122=true:=by kernel_rfl
def c88:Cd:=.seq (.ops [oM 1 (.box 38 (.t 0)),oM 2 (.mv (.k (.nil)))] [1]) (.seq (.ops [oM 3 (.load 4 true (.t 1)),oM 4 (.calln 124 [.k (.nil),.t 3]),oV 2 4] [2]) (.ret))
def rs88:List RV:=[.t 2 false]
theorem k88:okFn G.tab Tryz.f88 1 c88 rs88=true:=by kernel_rfl
def c124:Cd:=.seq (.ops [oM 3 (.box 38 (.t 1)),oM 4 (.nilo 38 4)] [0,3]) (.seq (.ops [oM 6 (.mvo 0),oM 7 (.load 4 true (.t 3)),oM 8 (.mks 38 4 [.t 7]),oM 9 (.app 38 4 56 6 (.t 8)),oM 0 (.mvo 9)] [0,3]) (
 .seq (.seq (.ops [oM 5 (.mv (kI 0))] [0,3,5]) (.block 0 (.loop (.seq (.seq (.ops [oV 10 5,oM 11 (.fa 3 (.t 3)),oM 12 (.load 1 false (.t 11)),oM 13 (.len false (.t 12)),oM 14 (.bin .lss (.t 10) (.t 13))] [0,3,5,14]) (
 .cond (.t 14) (.skip) (.exit 0))) (.seq (.block 1 (.ops [oM 17 (.mvo 0),oM 18 (.fa 3 (.t 3)),oM 19 (.load 1 false (.t 18)),oV 20 5,oM 21 (.ia 4 (.t 19) (.t 20)),oM 22 (.load 4 true (.t 21)),oM 23 (.callo 124 17 [.t 22]),
 oM 0 (.mvo 23)] [0,3,5])) (.ops [oV 15 5,oM 16 (.bin .add (.t 15) (kI 1)),oV 5 16] [0,3,5])))))) (.seq (.ops [oM 24 (.mvo 0),oM 4 (.mvo 24)] [4]) (.ret))))
def rs124:List RV:=[.t 4 true]
theorem k124:okFn G.tab Tryz.f124 2 c124 rs124=true:=by kernel_rfl
def c125:Cd:=.seq (.ops [oM 2 (.mv (kS ⟨#[]⟩)),oM 3 (.mv (kI 0)),oM 4 (.mv kF)] [0]) (.seq (.seq (.ops [oV 7 0,oM 8 (.len true (.t 7)),oM 9 (.bin .lss (.t 8) (kI 4)),oV 10 9,⟨some 11,.mv (.t 0),(some (10,false))⟩,
 ⟨some 12,.mv (.t 0),(some (10,false))⟩,⟨some 13,.len true (.t 12),(some (10,false))⟩,⟨some 14,.bin .sub (.t 13) (kI 1),(some (10,false))⟩,⟨some 15,.ix (.t 11) (.t 14),(some (10,false))⟩,
 ⟨some 16,.bin .neq (.t 15) (.k (.d (.lit (.int .u8 93)))),(some (10,false))⟩,oM 17 (.pick (.t 10) kT (.t 16)),oV 18 17,⟨some 19,.mv (.t 0),(some (18,false))⟩,⟨some 20,.mv (.t 0),(some (18,false))⟩,
 ⟨some 21,.len true (.t 20),(some (18,false))⟩,⟨some 22,.bin .sub (.t 21) (kI 3),(some (18,false))⟩,⟨some 23,.ix (.t 19) (.t 22),(some (18,false))⟩,⟨some 24,.bin .neq (.t 23) (.k (.d (.lit (.int .u8 91)))),(some (18,false))⟩,
 oM 25 (.pick (.t 18) kT (.t 24))] [0,25]) (.cond (.t 25) (.seq (.ops [oM 2 (.mv (kS ⟨#[]⟩)),oM 3 (.mv (kI 0)),oM 4 (.mv kF)] [2,3,4]) (.ret)) (.skip))) (.seq (.ops [oV 26 0,oV 27 0,oM 28 (.len true (.t 27)),
 oM 29 (.bin .sub (.t 28) (kI 2)),oM 30 (.ix (.t 26) (.t 29)),oM 31 (.conv .i64 (.t 30)),oM 32 (.bin .sub (.t 31) (kI 48)),oV 5 32] [0,5]) (.seq (.ops [oV 33 0,oV 34 0,oM 35 (.len true (.t 34)),
 oM 36 (.bin .sub (.t 35) (kI 3)),oM 37 (.sub true 0 (.t 33) none (some (.t 36))),oV 6 37] [5,6]) (.seq (.seq (.ops [oV 38 5,oM 39 (.bin .lss (.t 38) (kI 0)),oV 40 39,⟨some 41,.mv (.t 5),(some (40,false))⟩,
 ⟨some 42,.bin .geq (.t 41) (kI 8),(some (40,false))⟩,oM 43 (.pick (.t 40) kT (.t 42)),oV 44 43,⟨some 45,.mv (.t 6),(some (44,false))⟩,⟨some 46,.call 34 [.t 45],(some (44,false))⟩,⟨some 47,.un .not (.t 46),(some (44,false))⟩,
 oM 48 (.pick (.t 44) kT (.t 47))] [5,6,48]) (.cond (.t 48) (.seq (.ops [oM 2 (.mv (kS ⟨#[]⟩)),oM 3 (.mv (kI 0)),oM 4 (.mv kF)] [2,3,4]) (.ret)) (.skip))) (.seq (.ops [oV 49 6,oV 50 5,oV 2 49,
 oV 3 50,oM 4 (.mv kT)] [2,3,4]) (.ret))))))
def rs125:List RV:=[.t 2 false,.t 3 false,.t 4 false]
theorem k125:okFn G.tab Tryz.f125 1 c125 rs125=true:=by kernel_rfl
def c99:Cd:=.seq (.ops [oM 2 (.nilo 9 1)] [0]) (.seq (.ops [oM 3 (.mv (kI 0))] [0,3]) (.seq (.seq (.ops [oV 9 0,oM 10 (.len false (.t 9)),oM 11 (.mv (kI 0))] [0,3,9,10,11]) (.block 0 (.loop (
 .seq (.ops [oM 12 (.bin .lss (.t 11) (.t 10))] [0,3,9,10,11,12]) (.seq (.cond (.t 12) (.skip) (.exit 0)) (.seq (.block 1 (.seq (.ops [oM 13 (.ia 1 (.t 9) (.t 11)),oM 14 (.load 1 false (.t 13)),
 oV 5 14] [0,3,5,9,10,11]) (.seq (.ops [oV 15 3,oV 16 5,oM 17 (.len false (.t 16)),oM 18 (.bin .add (.t 15) (.t 17)),oV 3 18] [0,3,9,10,11]) (.seq (.ops [oV 19 3,oM 20 (.bin .lss (.t 19) (kI 0))] [0,3,9,10,11,20]) (
 .cond (.t 20) (.ops [oM 21 (.mki 9 (kS ⟨#[108,101,110,32,111,117,116,32,111,102,32,114,97,110,103,101]⟩)),⟨none,.pan (.t 21),none⟩] [0,3,9,10,11]) (.skip)))))) (.ops [oM 22 (.bin .add (.t 11) (kI 1)),
 oV 11 22] [0,3,9,10,11]))))))) (.seq (.ops [oV 23 3,oM 24 (.calln 134 [.k (.nil),.t 23]),oM 6 (.mvo 24)] [0,6]) (.seq (.seq (.ops [oV 25 0,oM 26 (.len false (.t 25)),oM 27 (.mv (kI 0))] [6,25,26,27]) (
 .block 2 (.loop (.seq (.ops [oM 28 (.bin .lss (.t 27) (.t 26))] [6,25,26,27,28]) (.seq (.cond (.t 28) (.skip) (.exit 2)) (.seq (.block 3 (.seq (.ops [oM 29 (.ia 1 (.t 25) (.t 27)),oM 30 (.load 1 false (.t 29)),
 oV 8 30] [6,8,25,26,27]) (.ops [oM 31 (.mvo 6),oV 32 8,oM 33 (.app 9 1 16 31 (.t 32)),oM 6 (.mvo 33)] [6,25,26,27]))) (.ops [oM 34 (.bin .add (.t 27) (kI 1)),oV 27 34] [6,25,26,27]))))))) (
 .seq (.ops [oM 35 (.mvo 6),oM 2 (.mvo 35)] [2]) (.ret))))))
def rs99:List RV:=[.t 2 true]
theorem k99:okFn G.tab Tryz.f99 1 c99 rs99=true:=by kernel_rfl
end Go.Proofs.YthoebpnbhgmoiaaGreatDoor
