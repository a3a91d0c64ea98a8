import Derived.Test.YthoebpnbhgmoiaaGreatDoorProg
import Derived.Test.YthoebpnbhgmoiaaGreatDoorA20
import Derived.KernelRfl
import Derived.Test.YthoebpnbhgmoiaaGreatDoorNames
namespace Go.Proofs.YthoebpnbhgmoiaaGreatDoor
open Go.RowKit
set_option maxRecDepth 100000
set_option linter.unusedVariables false
set_option linter.unusedSimpArgs false
noncomputable def G:Cx:=cx Tryz.prog (fun g=>if g=0 then some [.sl (kwList.map fun s=>[.lit (.string s)])]else none) (by kernel_rfl)
def oM(n:Nat)(o:OP):O:=⟨some n,o,none⟩
def oV(n t:Nat):O:=⟨some n,.mv (.t t),none⟩
def kI(z:Int):X:=.k (.d (.lit (.int .i64 z)))
def kS(s:ByteArray):X:=.k (.d (.lit (.string s)))
def kT:X:=.k (.d (.lit (.bool true)))
def kF:X:=.k (.d (.lit (.bool false)))
def c55:Cd:=.seq (.ops [oM 4 (.mv (kS ⟨#[]⟩))] [0,1]) (.seq (.ops [oV 5 0,oM 6 (.bin .add (.t 5) (kS ⟨#[91]⟩)),oV 7 1,oM 8 (.call 95 [.t 7]),oM 9 (.bin .add (.t 6) (.t 8)),oM 10 (.bin .add (.t 9) (kS ⟨#[93]⟩)),
 oV 4 10] [4]) (.ret))
def rs55:List RV:=[.t 4 false]
theorem k55:okFn G.tab Tryz.f55 2 c55 rs55=true:=by kernel_rfl
def c95:Cd:=.seq (.ops [oM 2 (.mv (kS ⟨#[]⟩))] [0]) (.seq (.ops [oV 3 0,oV 4 0,oM 5 (.bin .add (.t 4) (kI 1)),oM 6 (.sub true 0 (kS ⟨#[48,49,50,51,52,53,54,55,56,57]⟩) (some (.t 3)) (some (.t 5))),
 oV 2 6] [2]) (.ret))
def rs95:List RV:=[.t 2 false]
theorem k95:okFn G.tab Tryz.f95 1 c95 rs95=true:=by kernel_rfl
def c25:Cd:=.seq (.ops [oM 2 (.box 38 (.t 0)),oM 4 (.mv (kI 0)),oM 5 (.mv (kI 0))] [1,2]) (.seq (.seq (.ops [oM 6 (.load 4 true (.t 2)),oM 7 (.call 44 [.t 6]),oM 8 (.bin .neq (.t 7) (kI 0))] [1,2,8]) (
 .cond (.t 8) (.seq (.ops [oM 4 (.mv (kI 0)),oM 5 (.mv (kI 1))] [4,5]) (.ret)) (.skip))) (.seq (.ops [oM 9 (.load 4 true (.t 2)),oV 10 1,oM 11 (.call 57 [.t 9,.t 10]),oM 12 (.ext (.t 11) 0),oM 13 (.ext (.t 11) 1),
 oV 4 12,oV 5 13] [4,5]) (.ret)))
def rs25:List RV:=[.t 4 false,.t 5 false]
theorem k25:okFn G.tab Tryz.f25 2 c25 rs25=true:=by kernel_rfl
def c23:Cd:=.seq (.ops [oM 2 (.box 38 (.t 0)),oM 4 (.mv (kI 0))] [1,2]) (.seq (.ops [oM 8 (.load 4 true (.t 2)),oV 9 1,oM 10 (.call 25 [.t 8,.t 9]),oV 7 10,oM 11 (.ext (.t 7) 0),oM 12 (.ext (.t 7) 1),
 oV 5 11,oV 6 12] [5]) (.seq (.ops [oV 13 5,oV 4 13] [4]) (.ret)))
def rs23:List RV:=[.t 4 false]
theorem k23:okFn G.tab Tryz.f23 2 c23 rs23=true:=by kernel_rfl
def c57:Cd:=.seq (.ops [oM 2 (.box 38 (.t 0)),oM 4 (.mv (kI 0)),oM 5 (.mv (kI 0))] [1,2]) (.seq (.ops [oM 6 (.nilo 3 1)] [1,2,6]) (.seq (.seq (.ops [oM 7 (.mv (kI 0))] [1,2,6,7]) (.block 0 (
 .loop (.seq (.seq (.ops [oV 10 7,oM 11 (.fa 3 (.t 2)),oM 12 (.load 1 false (.t 11)),oM 13 (.len false (.t 12)),oM 14 (.bin .lss (.t 10) (.t 13))] [1,2,6,7,14]) (.cond (.t 14) (.skip) (.exit 0))) (
 .seq (.block 1 (.seq (.ops [oM 18 (.fa 3 (.t 2)),oM 19 (.load 1 false (.t 18)),oV 20 7,oM 21 (.ia 4 (.t 19) (.t 20)),oM 22 (.load 4 true (.t 21)),oV 23 1,oM 24 (.call 57 [.t 22,.t 23]),oV 17 24,
 oM 25 (.ext (.t 17) 0),oM 26 (.ext (.t 17) 1),oV 8 25,oV 9 26] [1,2,6,7,8,9]) (.seq (.seq (.ops [oV 27 9,oM 28 (.bin .neq (.t 27) (kI 0))] [1,2,6,7,8,9,28]) (.cond (.t 28) (.seq (.ops [
 oV 29 9,oM 4 (.mv (kI 0)),oV 5 29] [4,5]) (.ret)) (.skip))) (.ops [oM 30 (.mvo 6),oV 31 8,oM 32 (.mks 3 1 [.t 31]),oM 33 (.app 3 1 8 30 (.t 32)),oM 6 (.mvo 33)] [1,2,6,7])))) (.ops [oV 15 7,
 oM 16 (.bin .add (.t 15) (kI 1)),oV 7 16] [1,2,6,7])))))) (.seq (.seq (.ops [oM 34 (.fa 0 (.t 2)),oM 35 (.load 1 false (.t 34)),oM 36 (.call 96 [.t 35])] [1,2,6,36]) (.cond (.t 36) (.seq (.ops [
 oM 37 (.load 4 true (.t 2)),oV 38 1,oV 39 6,oM 40 (.call 97 [.t 37,.t 38,.t 39]),oM 41 (.ext (.t 40) 0),oM 42 (.ext (.t 40) 1),oV 4 41,oV 5 42] [4,5]) (.ret)) (.skip))) (.seq (.ops [oM 43 (.fa 0 (.t 2)),
 oM 44 (.load 1 false (.t 43)),oV 45 6,oM 46 (.call 98 [.t 44,.t 45]),oV 4 46,oM 5 (.mv (kI 0))] [4,5]) (.ret)))))
def rs57:List RV:=[.t 4 false,.t 5 false]
theorem k57:okFn G.tab Tryz.f57 2 c57 rs57=true:=by kernel_rfl
def c97:Cd:=.seq (.ops [oM 3 (.box 38 (.t 0)),oM 6 (.mv (kI 0)),oM 7 (.mv (kI 0))] [1,2,3]) (.seq (.seq (.ops [oM 14 (.fa 0 (.t 3)),oM 15 (.load 1 false (.t 14)),oM 16 (.bin .eql (.t 15) (kI 1))] [1,2,3,16]) (
 .cond (.t 16) (.seq (.ops [oM 17 (.fa 1 (.t 3)),oM 18 (.load 1 false (.t 17)),oV 6 18,oM 7 (.mv (kI 0))] [6,7]) (.ret)) (.skip))) (.seq (.seq (.ops [oM 19 (.fa 0 (.t 3)),oM 20 (.load 1 false (.t 19)),
 oM 21 (.bin .eql (.t 20) (kI 2))] [1,2,3,21]) (.cond (.t 21) (.seq (.ops [oV 23 1,oM 24 (.fa 2 (.t 3)),oM 25 (.load 1 false (.t 24)),oM 26 (.call 129 [.t 23,.t 25]),oV 22 26,oM 27 (.ext (.t 22) 0),
 oM 28 (.ext (.t 22) 1),oV 8 27,oV 9 28] [8,9]) (.seq (.seq (.ops [oV 29 9,oM 30 (.un .not (.t 29))] [8,30]) (.cond (.t 30) (.seq (.ops [oM 6 (.mv (kI 0)),oM 7 (.mv (kI 7))] [6,7]) (.ret)) (.skip))) (
 .seq (.ops [oV 31 8,oV 6 31,oM 7 (.mv (kI 0))] [6,7]) (.ret)))) (.skip))) (.seq (.seq (.ops [oV 33 1,oM 34 (.fa 2 (.t 3)),oM 35 (.load 1 false (.t 34)),oM 36 (.call 55 [.t 35,.k (.d (.lit (.int .i64 0)))]),
 oM 37 (.call 129 [.t 33,.t 36]),oV 32 37,oM 38 (.ext (.t 32) 0),oM 39 (.ext (.t 32) 1),oV 10 38,oV 11 39] [1,2,3,11]) (.seq (.ops [oV 40 11,oM 41 (.un .not (.t 40))] [1,2,3,41]) (.cond (.t 41) (
 .seq (.ops [oM 6 (.mv (kI 0)),oM 7 (.mv (kI 7))] [6,7]) (.ret)) (.skip)))) (.seq (.seq (.ops [oM 42 (.fa 0 (.t 3)),oM 43 (.load 1 false (.t 42)),oM 44 (.bin .eql (.t 43) (kI 3))] [1,2,3,44]) (
 .cond (.t 44) (.seq (.draw [oV 45 1,oM 46 (.fa 2 (.t 3)),oM 47 (.load 1 false (.t 46)),oV 48 2,oM 49 (.ia 1 (.t 48) (kI 0)),oM 50 (.load 1 false (.t 49)),oM 51 (.call 130 [.t 45,.t 47,.t 50]),
 oV 6 51,oM 7 (.mv (kI 0))] [6,7]) (.ret)) (.skip))) (.seq (.ops [oM 12 (.mv (kI 0))] [1,3,12]) (.seq (.seq (.ops [oM 13 (.mv (kI 0))] [1,3,12,13]) (.block 0 (.loop (.seq (.seq (.ops [oV 52 13,
 oM 53 (.bin .lss (.t 52) (kI 8))] [1,3,12,13,53]) (.cond (.t 53) (.skip) (.exit 0))) (.seq (.block 1 (.ops [oV 56 12,oV 57 1,oM 58 (.fa 2 (.t 3)),oM 59 (.load 1 false (.t 58)),oV 60 13,oM 61 (.call 130 [.t 57,.t 59,.t 60]),
 oM 62 (.call 131 [.t 56,.t 61]),oV 12 62] [1,3,12,13])) (.ops [oV 54 13,oM 55 (.bin .add (.t 54) (kI 1)),oV 13 55] [1,3,12,13])))))) (.seq (.ops [oV 63 12,oV 6 63,oM 7 (.mv (kI 0))] [6,7]) (
 .ret))))))))
def rs97:List RV:=[.t 6 false,.t 7 false]
theorem k97:okFn G.tab Tryz.f97 3 c97 rs97=true:=by kernel_rfl
def c96:Cd:=.seq (.ops [oM 2 (.mv kF)] [0]) (.seq (.ops [oV 3 0,oM 4 (.bin .eql (.t 3) (kI 1)),oV 5 4,⟨some 6,.mv (.t 0),(some (5,false))⟩,⟨some 7,.call 128 [.t 6],(some (5,false))⟩,oM 8 (.pick (.t 5) kT (.t 7)),
 oV 2 8] [2]) (.ret))
def rs96:List RV:=[.t 2 false]
theorem k96:okFn G.tab Tryz.f96 1 c96 rs96=true:=by kernel_rfl
def c128:Cd:=.seq (.ops [oM 2 (.mv kF)] [0]) (.seq (.ops [oV 3 0,oM 4 (.bin .eql (.t 3) (kI 2)),oV 5 4,⟨some 6,.mv (.t 0),(some (5,false))⟩,⟨some 7,.bin .eql (.t 6) (kI 3),(some (5,false))⟩,
 oM 8 (.pick (.t 5) kT (.t 7)),oV 9 8,⟨some 10,.mv (.t 0),(some (9,false))⟩,⟨some 11,.bin .eql (.t 10) (kI 24),(some (9,false))⟩,oM 12 (.pick (.t 9) kT (.t 11)),oV 2 12] [2]) (.ret))
def rs128:List RV:=[.t 2 false]
theorem k128:okFn G.tab Tryz.f128 1 c128 rs128=true:=by kernel_rfl
def c129:Cd:=.seq (.ops [oM 4 (.mv (kI 0)),oM 5 (.mv kF)] [0,1]) (.seq (.seq (.ops [oM 6 (.mv (kI 0))] [0,1,6]) (.block 0 (.loop (.seq (.seq (.ops [oV 7 6,oV 8 0,oM 9 (.len false (.t 8)),oM 10 (.bin .lss (.t 7) (.t 9))] [0,1,6,10]) (
 .cond (.t 10) (.skip) (.exit 0))) (.seq (.block 1 (.seq (.ops [oV 13 0,oV 14 6,oM 15 (.ia 2 (.t 13) (.t 14)),oM 16 (.fa 0 (.t 15)),oM 17 (.load 1 false (.t 16)),oV 18 1,oM 19 (.bin .eql (.t 17) (.t 18))] [0,1,6,19]) (
 .cond (.t 19) (.seq (.ops [oV 20 0,oV 21 6,oM 22 (.ia 2 (.t 20) (.t 21)),oM 23 (.fa 1 (.t 22)),oM 24 (.load 1 false (.t 23)),oM 25 (.call 147 [.t 24]),oV 4 25,oM 5 (.mv kT)] [4,5]) (.ret)) (
 .skip)))) (.ops [oV 11 6,oM 12 (.bin .add (.t 11) (kI 1)),oV 6 12] [0,1,6])))))) (.seq (.ops [oM 4 (.mv (kI 0)),oM 5 (.mv kF)] [4,5]) (.ret)))
def rs129:List RV:=[.t 4 false,.t 5 false]
theorem k129:okFn G.tab Tryz.f129 2 c129 rs129=true:=by kernel_rfl
def c148:Cd:=.seq (.ops [oM 2 (.mv (kI 0))] [0]) (.seq (.seq (.ops [oV 3 0] [3]) (.cond (.t 3) (.seq (.ops [oM 2 (.mv (kI 1))] [2]) (.ret)) (.skip))) (.seq (.ops [oM 2 (.mv (kI 0))] [2]) (.ret)))
def rs148:List RV:=[.t 2 false]
theorem k148:okFn G.tab Tryz.f148 1 c148 rs148=true:=by kernel_rfl
def c132:Cd:=.seq (.ops [oM 4 (.mv (kI 0))] [0,1]) (.seq (.seq (.ops [oV 5 0] [1,5]) (.block 0 (.seq (.ops [oM 7 (.bin .eql (.t 5) (kI 4)),oV 6 7] [1,5,6]) (.cond (.t 6) (.seq (.ops [oV 8 1,
 oM 9 (.bin .eql (.t 8) (kI 0)),oM 10 (.call 148 [.t 9]),oV 4 10] [4]) (.ret)) (.seq (.ops [oM 12 (.bin .eql (.t 5) (kI 5)),oV 11 12] [1,5,11]) (.cond (.t 11) (.seq (.ops [oV 13 1,oM 14 (.call 149 [.t 13]),
 oV 4 14] [4]) (.ret)) (.seq (.ops [oM 16 (.bin .eql (.t 5) (kI 6)),oV 15 16] [1,15]) (.cond (.t 15) (.seq (.ops [oV 17 1,oM 18 (.call 150 [.t 17]),oV 4 18] [4]) (.ret)) (.skip))))))))) (.seq (.ops [
 oV 19 1,oM 20 (.call 151 [.t 19]),oV 4 20] [4]) (.ret)))
def rs132:List RV:=[.t 4 false]
theorem k132:okFn G.tab Tryz.f132 2 c132 rs132=true:=by kernel_rfl
def c133:Cd:=.seq (.ops [oM 6 (.mv (kI 0))] [0,1,2]) (.seq (.seq (.ops [oV 7 0] [1,2,7]) (.block 0 (.seq (.ops [oM 9 (.bin .eql (.t 7) (kI 7)),oV 8 9] [1,2,7,8]) (.cond (.t 8) (.seq (.ops [
 oV 10 1,oV 11 2,oM 12 (.call 131 [.t 10,.t 11]),oV 6 12] [6]) (.ret)) (.seq (.ops [oM 14 (.bin .eql (.t 7) (kI 8)),oV 13 14] [1,2,7,13]) (.cond (.t 13) (.seq (.ops [oV 15 1,oV 16 2,oM 17 (.call 152 [.t 15,.t 16]),
 oV 6 17] [6]) (.ret)) (.seq (.ops [oM 19 (.bin .eql (.t 7) (kI 9)),oV 18 19] [1,2,7,18]) (.cond (.t 18) (.seq (.ops [oV 20 1,oV 21 2,oM 22 (.call 153 [.t 20,.t 21]),oV 6 22] [6]) (.ret)) (.seq (
 .ops [oM 24 (.bin .eql (.t 7) (kI 10)),oV 23 24] [1,2,7,23]) (.cond (.t 23) (.seq (.ops [oV 25 1,oV 26 2,oM 27 (.call 154 [.t 25,.t 26]),oV 6 27] [6]) (.ret)) (.seq (.ops [oM 29 (.bin .eql (.t 7) (kI 11)),
 oV 28 29] [1,2,7,28]) (.cond (.t 28) (.seq (.ops [oV 30 1,oV 31 2,oM 32 (.call 155 [.t 30,.t 31]),oV 6 32] [6]) (.ret)) (.seq (.ops [oM 34 (.bin .eql (.t 7) (kI 12)),oV 33 34] [1,2,7,33]) (
 .cond (.t 33) (.seq (.ops [oV 35 1,oV 36 2,oM 37 (.call 156 [.t 35,.t 36]),oV 6 37] [6]) (.ret)) (.seq (.ops [oM 39 (.bin .eql (.t 7) (kI 13)),oV 38 39] [1,2,7,38]) (.cond (.t 38) (.seq (.ops [
 oV 40 1,oV 41 2,oM 42 (.call 157 [.t 40,.t 41]),oV 6 42] [6]) (.ret)) (.seq (.ops [oM 44 (.bin .eql (.t 7) (kI 14)),oV 43 44] [1,2,7,43]) (.cond (.t 43) (.seq (.ops [oV 45 1,oV 46 2,oM 47 (.call 158 [.t 45,.t 46]),
 oV 6 47] [6]) (.ret)) (.seq (.ops [oM 49 (.bin .eql (.t 7) (kI 15)),oV 48 49] [1,2,7,48]) (.cond (.t 48) (.seq (.ops [oV 50 1,oV 51 2,oM 52 (.bin .eql (.t 50) (.t 51)),oM 53 (.call 148 [.t 52]),
 oV 6 53] [6]) (.ret)) (.seq (.ops [oM 55 (.bin .eql (.t 7) (kI 16)),oV 54 55] [1,2,7,54]) (.cond (.t 54) (.seq (.ops [oV 56 1,oV 57 2,oM 58 (.bin .neq (.t 56) (.t 57)),oM 59 (.call 148 [.t 58]),
 oV 6 59] [6]) (.ret)) (.seq (.ops [oM 61 (.bin .eql (.t 7) (kI 17)),oV 60 61] [1,2,7,60]) (.cond (.t 60) (.seq (.ops [oV 62 1,oV 63 2,oM 64 (.bin .lss (.t 62) (.t 63)),oM 65 (.call 148 [.t 64]),
 oV 6 65] [6]) (.ret)) (.seq (.ops [oM 67 (.bin .eql (.t 7) (kI 18)),oV 66 67] [1,2,7,66]) (.cond (.t 66) (.seq (.ops [oV 68 1,oV 69 2,oM 70 (.bin .leq (.t 68) (.t 69)),oM 71 (.call 148 [.t 70]),
 oV 6 71] [6]) (.ret)) (.seq (.ops [oM 73 (.bin .eql (.t 7) (kI 19)),oV 72 73] [1,2,7,72]) (.cond (.t 72) (.seq (.ops [oV 74 1,oM 75 (.bin .neq (.t 74) (kI 0)),oV 76 75,⟨some 77,.mv (.t 2),(some (76,true))⟩,
 ⟨some 78,.bin .neq (.t 77) (kI 0),(some (76,true))⟩,oM 79 (.pick (.t 76) (.t 78) kF),oM 80 (.call 148 [.t 79]),oV 6 80] [6]) (.ret)) (.seq (.ops [oM 82 (.bin .eql (.t 7) (kI 20)),oV 81 82] [1,2,81]) (
 .cond (.t 81) (.seq (.ops [oV 83 1,oM 84 (.bin .neq (.t 83) (kI 0)),oV 85 84,⟨some 86,.mv (.t 2),(some (85,false))⟩,⟨some 87,.bin .neq (.t 86) (kI 0),(some (85,false))⟩,oM 88 (.pick (.t 85) kT (.t 87)),
 oM 89 (.call 148 [.t 88]),oV 6 89] [6]) (.ret)) (.skip))))))))))))))))))))))))))))))) (.seq (.ops [oV 90 1,oM 91 (.bin .eql (.t 90) (kI 0)),oV 92 91,⟨some 93,.mv (.t 2),(some (92,false))⟩,⟨some 94,.bin .neq (.t 93) (kI 0),(some (92,false))⟩,
 oM 95 (.pick (.t 92) kT (.t 94)),oM 96 (.call 148 [.t 95]),oV 6 96] [6]) (.ret)))
def rs133:List RV:=[.t 6 false]
theorem k133:okFn G.tab Tryz.f133 3 c133 rs133=true:=by kernel_rfl
def c98:Cd:=.seq (.ops [oM 4 (.mv (kI 0))] [0,1]) (.seq (.seq (.ops [oV 6 0,oM 7 (.bin .eql (.t 6) (kI 22))] [0,1,7]) (.cond (.t 7) (.seq (.seq (.ops [oV 8 1,oM 9 (.ia 1 (.t 8) (kI 0)),oM 10 (.load 1 false (.t 9)),
 oM 11 (.bin .neq (.t 10) (kI 0))] [1,11]) (.cond (.t 11) (.seq (.ops [oV 12 1,oM 13 (.ia 1 (.t 12) (kI 1)),oM 14 (.load 1 false (.t 13)),oV 4 14] [4]) (.ret)) (.skip))) (.seq (.ops [oV 15 1,oM 16 (.ia 1 (.t 15) (kI 2)),
 oM 17 (.load 1 false (.t 16)),oV 4 17] [4]) (.ret))) (.skip))) (.seq (.seq (.ops [oV 18 0,oM 19 (.bin .eql (.t 18) (kI 23))] [0,1,19]) (.cond (.t 19) (.seq (.seq (.ops [oM 5 (.mv (kI 1))] [1,5]) (
 .block 0 (.loop (.seq (.seq (.ops [oV 20 5,oM 21 (.bin .add (.t 20) (kI 1)),oV 22 1,oM 23 (.len false (.t 22)),oM 24 (.bin .lss (.t 21) (.t 23))] [1,5,24]) (.cond (.t 24) (.skip) (.exit 0))) (
 .seq (.block 1 (.seq (.draw [oV 27 1,oM 28 (.ia 1 (.t 27) (kI 0)),oM 29 (.load 1 false (.t 28)),oV 30 1,oV 31 5,oM 32 (.ia 1 (.t 30) (.t 31)),oM 33 (.load 1 false (.t 32)),oM 34 (.bin .geq (.t 29) (.t 33)),
 oV 35 34,⟨some 36,.mv (.t 1),(some (35,true))⟩,⟨some 37,.ia 1 (.t 36) (kI 0),(some (35,true))⟩,⟨some 38,.load 1 false (.t 37),(some (35,true))⟩,⟨some 39,.mv (.t 1),(some (35,true))⟩,
 ⟨some 40,.mv (.t 5),(some (35,true))⟩,⟨some 41,.bin .add (.t 40) (kI 1),(some (35,true))⟩,⟨some 42,.ia 1 (.t 39) (.t 41),(some (35,true))⟩,⟨some 43,.load 1 false (.t 42),(some (35,true))⟩,
 ⟨some 44,.bin .leq (.t 38) (.t 43),(some (35,true))⟩,oM 45 (.pick (.t 35) (.t 44) kF)] [1,5,45]) (.cond (.t 45) (.seq (.ops [oM 4 (.mv (kI 1))] [4]) (.ret)) (.skip)))) (.ops [oV 25 5,oM 26 (.bin .add (.t 25) (kI 2)),
 oV 5 26] [1,5])))))) (.seq (.ops [oM 4 (.mv (kI 0))] [4]) (.ret))) (.skip))) (.seq (.seq (.ops [oV 46 1,oM 47 (.len false (.t 46)),oM 48 (.bin .eql (.t 47) (kI 1))] [0,1,48]) (.cond (.t 48) (.seq (
 .ops [oV 49 0,oV 50 1,oM 51 (.ia 1 (.t 50) (kI 0)),oM 52 (.load 1 false (.t 51)),oM 53 (.call 132 [.t 49,.t 52]),oV 4 53] [4]) (.ret)) (.skip))) (.seq (.draw [oV 54 0,oV 55 1,oM 56 (.ia 1 (.t 55) (kI 0)),
 oM 57 (.load 1 false (.t 56)),oV 58 1,oM 59 (.ia 1 (.t 58) (kI 1)),oM 60 (.load 1 false (.t 59)),oM 61 (.call 133 [.t 54,.t 57,.t 60]),oV 4 61] [4]) (.ret)))))
def rs98:List RV:=[.t 4 false]
theorem k98:okFn G.tab Tryz.f98 2 c98 rs98=true:=by kernel_rfl
def c130:Cd:=.seq (.ops [oM 6 (.mv (kI 0))] [0,1,2]) (.seq (.seq (.ops [oV 9 2,oM 10 (.bin .lss (.t 9) (kI 0)),oV 11 10,⟨some 12,.mv (.t 2),(some (11,false))⟩,⟨some 13,.bin .geq (.t 12) (kI 8),(some (11,false))⟩,
 oM 14 (.pick (.t 11) kT (.t 13))] [0,1,2,14]) (.cond (.t 14) (.seq (.ops [oM 6 (.mv (kI 0))] [6]) (.ret)) (.skip))) (.seq (.ops [oV 16 0,oV 17 1,oV 18 2,oM 19 (.call 55 [.t 17,.t 18]),oM 20 (.call 129 [.t 16,.t 19]),
 oV 15 20,oM 21 (.ext (.t 15) 0),oM 22 (.ext (.t 15) 1),oV 7 21,oV 8 22] [7]) (.seq (.ops [oV 23 7,oV 6 23] [6]) (.ret))))
def rs130:List RV:=[.t 6 false]
theorem k130:okFn G.tab Tryz.f130 3 c130 rs130=true:=by kernel_rfl
def c147:Cd:=.seq (.ops [oM 2 (.mv (kI 0))] [0]) (.seq (.ops [oV 3 0,oM 4 (.bin .rem (.t 3) (kI 65536)),oV 0 4] [0]) (.seq (.seq (.ops [oV 5 0,oM 6 (.bin .lss (.t 5) (kI 0))] [0,6]) (.cond (.t 6) (
 .ops [oV 7 0,oM 8 (.bin .add (.t 7) (kI 65535)),oM 9 (.bin .add (.t 8) (kI 1)),oV 0 9] [0]) (.skip))) (.seq (.ops [oV 10 0,oV 2 10] [2]) (.ret))))
def rs147:List RV:=[.t 2 false]
theorem k147:okFn G.tab Tryz.f147 1 c147 rs147=true:=by kernel_rfl
def c131:Cd:=.seq (.ops [oM 4 (.mv (kI 0))] [0,1]) (.seq (.ops [oV 5 0,oM 6 (.call 147 [.t 5]),oV 7 1,oM 8 (.call 147 [.t 7]),oM 9 (.bin .add (.t 6) (.t 8)),oM 10 (.call 147 [.t 9]),oV 4 10] [4]) (
 .ret))
def rs131:List RV:=[.t 4 false]
theorem k131:okFn G.tab Tryz.f131 2 c131 rs131=true:=by kernel_rfl
def c152:Cd:=.seq (.ops [oM 4 (.mv (kI 0))] [0,1]) (.seq (.ops [oV 5 0,oM 6 (.call 147 [.t 5]),oV 7 1,oM 8 (.call 147 [.t 7]),oM 9 (.bin .sub (.t 6) (.t 8)),oM 10 (.call 147 [.t 9]),oV 4 10] [4]) (
 .ret))
def rs152:List RV:=[.t 4 false]
theorem k152:okFn G.tab Tryz.f152 2 c152 rs152=true:=by kernel_rfl
def c153:Cd:=.seq (.ops [oM 4 (.mv (kI 0))] [0,1]) (.seq (.ops [oV 5 0,oM 6 (.call 147 [.t 5]),oV 7 1,oM 8 (.call 147 [.t 7]),oM 9 (.bin .mul (.t 6) (.t 8)),oM 10 (.call 147 [.t 9]),oV 4 10] [4]) (
 .ret))
def rs153:List RV:=[.t 4 false]
theorem k153:okFn G.tab Tryz.f153 2 c153 rs153=true:=by kernel_rfl
def c150:Cd:=.seq (.ops [oM 2 (.mv (kI 0))] [0]) (.seq (.ops [oV 3 0,oM 4 (.call 147 [.t 3]),oM 5 (.bin .sub (kI 0) (.t 4)),oM 6 (.call 147 [.t 5]),oV 2 6] [2]) (.ret))
def rs150:List RV:=[.t 2 false]
theorem k150:okFn G.tab Tryz.f150 1 c150 rs150=true:=by kernel_rfl
def c149:Cd:=.seq (.ops [oM 2 (.mv (kI 0))] [0]) (.seq (.ops [oV 3 0,oM 4 (.call 147 [.t 3]),oM 5 (.bin .sub (kI 65535) (.t 4)),oV 2 5] [2]) (.ret))
def rs149:List RV:=[.t 2 false]
theorem k149:okFn G.tab Tryz.f149 1 c149 rs149=true:=by kernel_rfl
def c167:Cd:=.seq (.ops [oM 2 (.mv (kI 0))] [0]) (.seq (.ops [oM 3 (.mv (kI 1))] [0,3]) (.seq (.seq (.ops [oM 4 (.mv (kI 0))] [0,3,4]) (.block 0 (.loop (.seq (.seq (.ops [oV 5 4,oV 6 0,oM 7 (.bin .lss (.t 5) (.t 6))] [0,3,4,7]) (
 .cond (.t 7) (.skip) (.exit 0))) (.seq (.block 1 (.ops [oV 10 3,oM 11 (.bin .mul (kI 2) (.t 10)),oV 3 11] [0,3,4])) (.ops [oV 8 4,oM 9 (.bin .add (.t 8) (kI 1)),oV 4 9] [0,3,4])))))) (.seq (
 .ops [oV 12 3,oV 2 12] [2]) (.ret))))
def rs167:List RV:=[.t 2 false]
theorem k167:okFn G.tab Tryz.f167 1 c167 rs167=true:=by kernel_rfl
def c157:Cd:=.seq (.ops [oM 4 (.mv (kI 0))] [0,1]) (.seq (.seq (.ops [oV 5 1,oM 6 (.bin .lss (.t 5) (kI 0)),oV 7 6,⟨some 8,.mv (.t 1),(some (7,false))⟩,⟨some 9,.bin .gtr (.t 8) (kI 15),(some (7,false))⟩,
 oM 10 (.pick (.t 7) kT (.t 9))] [0,1,10]) (.cond (.t 10) (.seq (.ops [oM 4 (.mv (kI 0))] [4]) (.ret)) (.skip))) (.seq (.ops [oV 11 0,oM 12 (.call 147 [.t 11]),oV 13 1,oM 14 (.call 167 [.t 13]),
 oM 15 (.bin .mul (.t 12) (.t 14)),oM 16 (.call 147 [.t 15]),oV 4 16] [4]) (.ret)))
def rs157:List RV:=[.t 4 false]
theorem k157:okFn G.tab Tryz.f157 2 c157 rs157=true:=by kernel_rfl
def c158:Cd:=.seq (.ops [oM 4 (.mv (kI 0))] [0,1]) (.seq (.seq (.ops [oV 5 1,oM 6 (.bin .lss (.t 5) (kI 0)),oV 7 6,⟨some 8,.mv (.t 1),(some (7,false))⟩,⟨some 9,.bin .gtr (.t 8) (kI 15),(some (7,false))⟩,
 oM 10 (.pick (.t 7) kT (.t 9))] [0,1,10]) (.cond (.t 10) (.seq (.ops [oM 4 (.mv (kI 0))] [4]) (.ret)) (.skip))) (.seq (.ops [oV 11 0,oM 12 (.call 147 [.t 11]),oV 13 1,oM 14 (.call 167 [.t 13]),
 oM 15 (.bin .quo (.t 12) (.t 14)),oV 4 15] [4]) (.ret)))
def rs158:List RV:=[.t 4 false]
theorem k158:okFn G.tab Tryz.f158 2 c158 rs158=true:=by kernel_rfl
def c165:Cd:=.seq (.ops [oM 4 (.mv (kI 0))] [0,1]) (.seq (.ops [oV 5 0,oV 6 1,oM 7 (.call 158 [.t 5,.t 6]),oM 8 (.bin .rem (.t 7) (kI 2)),oV 4 8] [4]) (.ret))
def rs165:List RV:=[.t 4 false]
theorem k165:okFn G.tab Tryz.f165 2 c165 rs165=true:=by kernel_rfl
def c151:Cd:=.seq (.ops [oM 2 (.mv (kI 0))] [0]) (.seq (.ops [oM 3 (.mv (kI 0))] [0,3]) (.seq (.seq (.ops [oM 4 (.mv (kI 0))] [0,3,4]) (.block 0 (.loop (.seq (.seq (.ops [oV 5 4,oM 6 (.bin .lss (.t 5) (kI 16))] [0,3,4,6]) (
 .cond (.t 6) (.skip) (.exit 0))) (.seq (.block 1 (.ops [oV 9 3,oV 10 0,oV 11 4,oM 12 (.call 165 [.t 10,.t 11]),oM 13 (.bin .add (.t 9) (.t 12)),oV 3 13] [0,3,4])) (.ops [oV 7 4,oM 8 (.bin .add (.t 7) (kI 1)),
 oV 4 8] [0,3,4])))))) (.seq (.ops [oV 14 3,oV 2 14] [2]) (.ret))))
def rs151:List RV:=[.t 2 false]
theorem k151:okFn G.tab Tryz.f151 1 c151 rs151=true:=by kernel_rfl
def c154:Cd:=.seq (.ops [oM 4 (.mv (kI 0))] [0,1]) (.seq (.ops [oV 5 0,oV 6 1,oM 7 (.call 166 [.t 5,.t 6,.k (.d (.lit (.int .i64 2))),.k (.d (.lit (.int .i64 2)))]),oV 4 7] [4]) (.ret))
def rs154:List RV:=[.t 4 false]
theorem k154:okFn G.tab Tryz.f154 2 c154 rs154=true:=by kernel_rfl
def c155:Cd:=.seq (.ops [oM 4 (.mv (kI 0))] [0,1]) (.seq (.ops [oV 5 0,oV 6 1,oM 7 (.call 166 [.t 5,.t 6,.k (.d (.lit (.int .i64 1))),.k (.d (.lit (.int .i64 2)))]),oV 4 7] [4]) (.ret))
def rs155:List RV:=[.t 4 false]
theorem k155:okFn G.tab Tryz.f155 2 c155 rs155=true:=by kernel_rfl
def c156:Cd:=.seq (.ops [oM 4 (.mv (kI 0))] [0,1]) (.seq (.ops [oV 5 0,oV 6 1,oM 7 (.call 166 [.t 5,.t 6,.k (.d (.lit (.int .i64 1))),.k (.d (.lit (.int .i64 1)))]),oV 4 7] [4]) (.ret))
def rs156:List RV:=[.t 4 false]
theorem k156:okFn G.tab Tryz.f156 2 c156 rs156=true:=by kernel_rfl
def c166:Cd:=.seq (.ops [oM 8 (.mv (kI 0))] [0,1,2,3]) (.seq (.ops [oM 9 (.mv (kI 0))] [0,1,2,3,9]) (.seq (.seq (.ops [oM 10 (.mv (kI 15))] [0,1,2,3,9,10]) (.block 0 (.loop (.seq (.seq (
 .ops [oV 12 10,oM 13 (.bin .geq (.t 12) (kI 0))] [0,1,2,3,9,10,13]) (.cond (.t 13) (.skip) (.exit 0))) (.seq (.block 1 (.seq (.ops [oV 16 0,oV 17 10,oM 18 (.call 165 [.t 16,.t 17]),oV 19 1,
 oV 20 10,oM 21 (.call 165 [.t 19,.t 20]),oM 22 (.bin .add (.t 18) (.t 21)),oV 11 22] [0,1,2,3,9,10,11]) (.seq (.ops [oV 23 9,oM 24 (.bin .mul (kI 2) (.t 23)),oV 9 24] [0,1,2,3,9,10,11]) (
 .seq (.ops [oV 25 11,oV 26 2,oM 27 (.bin .geq (.t 25) (.t 26)),oV 28 27,⟨some 29,.mv (.t 11),(some (28,true))⟩,⟨some 30,.mv (.t 3),(some (28,true))⟩,⟨some 31,.bin .leq (.t 29) (.t 30),(some (28,true))⟩,
 oM 32 (.pick (.t 28) (.t 31) kF)] [0,1,2,3,9,10,32]) (.cond (.t 32) (.ops [oV 33 9,oM 34 (.bin .add (.t 33) (kI 1)),oV 9 34] [0,1,2,3,9,10]) (.skip)))))) (.ops [oV 14 10,oM 15 (.bin .sub (.t 14) (kI 1)),
 oV 10 15] [0,1,2,3,9,10])))))) (.seq (.ops [oV 35 9,oV 8 35] [8]) (.ret))))
def rs166:List RV:=[.t 8 false]
theorem k166:okFn G.tab Tryz.f166 4 c166 rs166=true:=by kernel_rfl
def c99:Cd:=.seq (.ops [oM 2 (.nilo 9 1)] [0]) (.seq (.ops [oM 3 (.mv (kI 0))] [0,3]) (.seq (.seq (.ops [oV 9 0,oM 10 (.len false (.t 9)),oM 11 (.mv (kI 0))] [0,3,9,10,11]) (.block 0 (.loop (
 .seq (.ops [oM 12 (.bin .lss (.t 11) (.t 10))] [0,3,9,10,11,12]) (.seq (.cond (.t 12) (.skip) (.exit 0)) (.seq (.block 1 (.seq (.ops [oM 13 (.ia 1 (.t 9) (.t 11)),oM 14 (.load 1 false (.t 13)),
 oV 5 14] [0,3,5,9,10,11]) (.seq (.ops [oV 15 3,oV 16 5,oM 17 (.len false (.t 16)),oM 18 (.bin .add (.t 15) (.t 17)),oV 3 18] [0,3,9,10,11]) (.seq (.ops [oV 19 3,oM 20 (.bin .lss (.t 19) (kI 0))] [0,3,9,10,11,20]) (
 .cond (.t 20) (.ops [oM 21 (.mki 9 (kS ⟨#[108,101,110,32,111,117,116,32,111,102,32,114,97,110,103,101]⟩)),⟨none,.pan (.t 21),none⟩] [0,3,9,10,11]) (.skip)))))) (.ops [oM 22 (.bin .add (.t 11) (kI 1)),
 oV 11 22] [0,3,9,10,11]))))))) (.seq (.ops [oV 23 3,oM 24 (.calln 134 [.k (.nil),.t 23]),oM 6 (.mvo 24)] [0,6]) (.seq (.seq (.ops [oV 25 0,oM 26 (.len false (.t 25)),oM 27 (.mv (kI 0))] [6,25,26,27]) (
 .block 2 (.loop (.seq (.ops [oM 28 (.bin .lss (.t 27) (.t 26))] [6,25,26,27,28]) (.seq (.cond (.t 28) (.skip) (.exit 2)) (.seq (.block 3 (.seq (.ops [oM 29 (.ia 1 (.t 25) (.t 27)),oM 30 (.load 1 false (.t 29)),
 oV 8 30] [6,8,25,26,27]) (.ops [oM 31 (.mvo 6),oV 32 8,oM 33 (.app 9 1 16 31 (.t 32)),oM 6 (.mvo 33)] [6,25,26,27]))) (.ops [oM 34 (.bin .add (.t 27) (kI 1)),oV 27 34] [6,25,26,27]))))))) (
 .seq (.ops [oM 35 (.mvo 6),oM 2 (.mvo 35)] [2]) (.ret))))))
def rs99:List RV:=[.t 2 true]
theorem k99:okFn G.tab Tryz.f99 1 c99 rs99=true:=by kernel_rfl
end Go.Proofs.YthoebpnbhgmoiaaGreatDoor
