import Derived.Test.YthoebpnbhgmoiaaGreatDoorProg
import Derived.Test.YthoebpnbhgmoiaaGreatDoorA20
import Derived.KernelRfl
import Derived.Test.YthoebpnbhgmoiaaGreatDoorElem
namespace Go.Proofs.YthoebpnbhgmoiaaGreatDoor
open Go.RowKit
set_option maxRecDepth 100000
set_option linter.unusedVariables false
set_option linter.unusedSimpArgs false
noncomputable def G:Cx:=cx Tryz.prog (fun g=>if g=0 then some [.sl (cD.map fun s=>[.lit (.string s)])]else none) (by kernel_rfl)
def oM(n:Nat)(o:OP):O:=⟨some n,o,none⟩
def oV(n t:Nat):O:=⟨some n,.mv (.t t),none⟩
def kI(z:Int):X:=.k (.d (.lit (.int .i64 z)))
def kS(s:ByteArray):X:=.k (.d (.lit (.string s)))
def kT:X:=.k (.d (.lit (.bool true)))
def kF:X:=.k (.d (.lit (.bool false)))
def c20:Cd:=.seq (.ops [oM 2 (.box 38 (.t 0)),oM 3 (.box 38 (.t 1)),oM 4 (.mv kF)] [2,3]) (.seq (.seq (.ops [oM 6 (.fa 0 (.t 2)),oM 7 (.load 1 false (.t 6)),oM 8 (.fa 0 (.t 3)),oM 9 (.load 1 false (.t 8)),
 oM 10 (.bin .neq (.t 7) (.t 9)),oV 11 10,⟨some 12,.fa 1 (.t 2),(some (11,false))⟩,⟨some 13,.load 1 false (.t 12),(some (11,false))⟩,⟨some 14,.fa 1 (.t 3),(some (11,false))⟩,⟨some 15,.load 1 false (.t 14),(some (11,false))⟩,
 ⟨some 16,.bin .neq (.t 13) (.t 15),(some (11,false))⟩,oM 17 (.pick (.t 11) kT (.t 16)),oV 18 17,⟨some 19,.fa 2 (.t 2),(some (18,false))⟩,⟨some 20,.load 1 false (.t 19),(some (18,false))⟩,
 ⟨some 21,.fa 2 (.t 3),(some (18,false))⟩,⟨some 22,.load 1 false (.t 21),(some (18,false))⟩,⟨some 23,.bin .neq (.t 20) (.t 22),(some (18,false))⟩,oM 24 (.pick (.t 18) kT (.t 23)),oV 25 24,
 ⟨some 26,.fa 3 (.t 2),(some (25,false))⟩,⟨some 27,.load 1 false (.t 26),(some (25,false))⟩,⟨some 28,.len false (.t 27),(some (25,false))⟩,⟨some 29,.fa 3 (.t 3),(some (25,false))⟩,⟨some 30,.load 1 false (.t 29),(some (25,false))⟩,
 ⟨some 31,.len false (.t 30),(some (25,false))⟩,⟨some 32,.bin .neq (.t 28) (.t 31),(some (25,false))⟩,oM 33 (.pick (.t 25) kT (.t 32))] [2,3,33]) (.cond (.t 33) (.seq (.ops [oM 4 (.mv kF)] [4]) (
 .ret)) (.skip))) (.seq (.seq (.ops [oM 5 (.mv (kI 0))] [2,3,5]) (.block 0 (.loop (.seq (.seq (.ops [oV 34 5,oM 35 (.fa 3 (.t 2)),oM 36 (.load 1 false (.t 35)),oM 37 (.len false (.t 36)),oM 38 (.bin .lss (.t 34) (.t 37))] [2,3,5,38]) (
 .cond (.t 38) (.skip) (.exit 0))) (.seq (.block 1 (.seq (.draw [oM 41 (.fa 3 (.t 2)),oM 42 (.load 1 false (.t 41)),oV 43 5,oM 44 (.ia 4 (.t 42) (.t 43)),oM 45 (.load 4 true (.t 44)),oM 46 (.fa 3 (.t 3)),
 oM 47 (.load 1 false (.t 46)),oV 48 5,oM 49 (.ia 4 (.t 47) (.t 48)),oM 50 (.load 4 true (.t 49)),oM 51 (.call 20 [.t 45,.t 50]),oM 52 (.un .not (.t 51))] [2,3,5,52]) (.cond (.t 52) (.seq (.ops [
 oM 4 (.mv kF)] [4]) (.ret)) (.skip)))) (.ops [oV 39 5,oM 40 (.bin .add (.t 39) (kI 1)),oV 5 40] [2,3,5])))))) (.seq (.ops [oM 4 (.mv kT)] [4]) (.ret))))
def GB:List RV:=[.t 4 false]
theorem k20:aW G.tab Tryz.f20 2 c20 GB=true:=by kernel_rfl
def c55:Cd:=.seq (.ops [oM 4 (.mv (kS ⟨#[]⟩))] [0,1]) (.seq (.ops [oV 5 0,oM 6 (.bin .add (.t 5) (kS ⟨#[91]⟩)),oV 7 1,oM 8 (.call 95 [.t 7]),oM 9 (.bin .add (.t 6) (.t 8)),oM 10 (.bin .add (.t 9) (kS ⟨#[93]⟩)),
 oV 4 10] [4]) (.ret))
def IM:List RV:=[.t 4 false]
theorem k55:aW G.tab Tryz.f55 2 c55 IM=true:=by kernel_rfl
def c95:Cd:=.seq (.ops [oM 2 (.mv (kS ⟨#[]⟩))] [0]) (.seq (.ops [oV 3 0,oV 4 0,oM 5 (.bin .add (.t 4) (kI 1)),oM 6 (.sub true 0 (kS ⟨#[48,49,50,51,52,53,54,55,56,57]⟩) (some (.t 3)) (some (.t 5))),
 oV 2 6] [2]) (.ret))
def Jp:List RV:=[.t 2 false]
theorem k95:aW G.tab Tryz.f95 1 c95 Jp=true:=by kernel_rfl
def c25:Cd:=.seq (.ops [oM 2 (.box 38 (.t 0)),oM 4 (.mv (kI 0)),oM 5 (.mv (kI 0))] [1,2]) (.seq (.seq (.ops [oM 6 (.load 4 true (.t 2)),oM 7 (.call 44 [.t 6]),oM 8 (.bin .neq (.t 7) (kI 0))] [1,2,8]) (
 .cond (.t 8) (.seq (.ops [oM 4 (.mv (kI 0)),oM 5 (.mv (kI 1))] [4,5]) (.ret)) (.skip))) (.seq (.ops [oM 9 (.load 4 true (.t 2)),oV 10 1,oM 11 (.call 57 [.t 9,.t 10]),oM 12 (.ext (.t 11) 0),oM 13 (.ext (.t 11) 1),
 oV 4 12,oV 5 13] [4,5]) (.ret)))
def Jy:List RV:=[.t 4 false,.t 5 false]
theorem k25:aW G.tab Tryz.f25 2 c25 Jy=true:=by kernel_rfl
def c57:Cd:=.seq (.ops [oM 2 (.box 38 (.t 0)),oM 4 (.mv (kI 0)),oM 5 (.mv (kI 0))] [1,2]) (.seq (.ops [oM 6 (.nilo 3 1)] [1,2,6]) (.seq (.seq (.ops [oM 7 (.mv (kI 0))] [1,2,6,7]) (.block 0 (
 .loop (.seq (.seq (.ops [oV 10 7,oM 11 (.fa 3 (.t 2)),oM 12 (.load 1 false (.t 11)),oM 13 (.len false (.t 12)),oM 14 (.bin .lss (.t 10) (.t 13))] [1,2,6,7,14]) (.cond (.t 14) (.skip) (.exit 0))) (
 .seq (.block 1 (.seq (.ops [oM 18 (.fa 3 (.t 2)),oM 19 (.load 1 false (.t 18)),oV 20 7,oM 21 (.ia 4 (.t 19) (.t 20)),oM 22 (.load 4 true (.t 21)),oV 23 1,oM 24 (.call 57 [.t 22,.t 23]),oV 17 24,
 oM 25 (.ext (.t 17) 0),oM 26 (.ext (.t 17) 1),oV 8 25,oV 9 26] [1,2,6,7,8,9]) (.seq (.seq (.ops [oV 27 9,oM 28 (.bin .neq (.t 27) (kI 0))] [1,2,6,7,8,9,28]) (.cond (.t 28) (.seq (.ops [
 oV 29 9,oM 4 (.mv (kI 0)),oV 5 29] [4,5]) (.ret)) (.skip))) (.ops [oM 30 (.mvo 6),oV 31 8,oM 32 (.mks 3 1 [.t 31]),oM 33 (.app 3 1 8 30 (.t 32)),oM 6 (.mvo 33)] [1,2,6,7])))) (.ops [oV 15 7,
 oM 16 (.bin .add (.t 15) (kI 1)),oV 7 16] [1,2,6,7])))))) (.seq (.seq (.ops [oM 34 (.fa 0 (.t 2)),oM 35 (.load 1 false (.t 34)),oM 36 (.call 96 [.t 35])] [1,2,6,36]) (.cond (.t 36) (.seq (.ops [
 oM 37 (.load 4 true (.t 2)),oV 38 1,oV 39 6,oM 40 (.call 97 [.t 37,.t 38,.t 39]),oM 41 (.ext (.t 40) 0),oM 42 (.ext (.t 40) 1),oV 4 41,oV 5 42] [4,5]) (.ret)) (.skip))) (.seq (.ops [oM 43 (.fa 0 (.t 2)),
 oM 44 (.load 1 false (.t 43)),oV 45 6,oM 46 (.call 98 [.t 44,.t 45]),oV 4 46,oM 5 (.mv (kI 0))] [4,5]) (.ret)))))
def Jr:List RV:=[.t 4 false,.t 5 false]
theorem k57:aW G.tab Tryz.f57 2 c57 Jr=true:=by kernel_rfl
def c97:Cd:=.seq (.ops [oM 3 (.box 38 (.t 0)),oM 6 (.mv (kI 0)),oM 7 (.mv (kI 0))] [1,2,3]) (.seq (.seq (.ops [oM 14 (.fa 0 (.t 3)),oM 15 (.load 1 false (.t 14)),oM 16 (.bin .eql (.t 15) (kI 1))] [1,2,3,16]) (
 .cond (.t 16) (.seq (.ops [oM 17 (.fa 1 (.t 3)),oM 18 (.load 1 false (.t 17)),oV 6 18,oM 7 (.mv (kI 0))] [6,7]) (.ret)) (.skip))) (.seq (.seq (.ops [oM 19 (.fa 0 (.t 3)),oM 20 (.load 1 false (.t 19)),
 oM 21 (.bin .eql (.t 20) (kI 2))] [1,2,3,21]) (.cond (.t 21) (.seq (.ops [oV 23 1,oM 24 (.fa 2 (.t 3)),oM 25 (.load 1 false (.t 24)),oM 26 (.call 129 [.t 23,.t 25]),oV 22 26,oM 27 (.ext (.t 22) 0),
 oM 28 (.ext (.t 22) 1),oV 8 27,oV 9 28] [8,9]) (.seq (.seq (.ops [oV 29 9,oM 30 (.un .not (.t 29))] [8,30]) (.cond (.t 30) (.seq (.ops [oM 6 (.mv (kI 0)),oM 7 (.mv (kI 7))] [6,7]) (.ret)) (.skip))) (
 .seq (.ops [oV 31 8,oV 6 31,oM 7 (.mv (kI 0))] [6,7]) (.ret)))) (.skip))) (.seq (.seq (.ops [oV 33 1,oM 34 (.fa 2 (.t 3)),oM 35 (.load 1 false (.t 34)),oM 36 (.call 55 [.t 35,.k (.d (.lit (.int .i64 0)))]),
 oM 37 (.call 129 [.t 33,.t 36]),oV 32 37,oM 38 (.ext (.t 32) 0),oM 39 (.ext (.t 32) 1),oV 10 38,oV 11 39] [1,2,3,11]) (.seq (.ops [oV 40 11,oM 41 (.un .not (.t 40))] [1,2,3,41]) (.cond (.t 41) (
 .seq (.ops [oM 6 (.mv (kI 0)),oM 7 (.mv (kI 7))] [6,7]) (.ret)) (.skip)))) (.seq (.seq (.ops [oM 42 (.fa 0 (.t 3)),oM 43 (.load 1 false (.t 42)),oM 44 (.bin .eql (.t 43) (kI 3))] [1,2,3,44]) (
 .cond (.t 44) (.seq (.draw [oV 45 1,oM 46 (.fa 2 (.t 3)),oM 47 (.load 1 false (.t 46)),oV 48 2,oM 49 (.ia 1 (.t 48) (kI 0)),oM 50 (.load 1 false (.t 49)),oM 51 (.call 130 [.t 45,.t 47,.t 50]),
 oV 6 51,oM 7 (.mv (kI 0))] [6,7]) (.ret)) (.skip))) (.seq (.ops [oM 12 (.mv (kI 0))] [1,3,12]) (.seq (.seq (.ops [oM 13 (.mv (kI 0))] [1,3,12,13]) (.block 0 (.loop (.seq (.seq (.ops [oV 52 13,
 oM 53 (.bin .lss (.t 52) (kI 8))] [1,3,12,13,53]) (.cond (.t 53) (.skip) (.exit 0))) (.seq (.block 1 (.ops [oV 56 12,oV 57 1,oM 58 (.fa 2 (.t 3)),oM 59 (.load 1 false (.t 58)),oV 60 13,oM 61 (.call 130 [.t 57,.t 59,.t 60]),
 oM 62 (.call 131 [.t 56,.t 61]),oV 12 62] [1,3,12,13])) (.ops [oV 54 13,oM 55 (.bin .add (.t 54) (kI 1)),oV 13 55] [1,3,12,13])))))) (.seq (.ops [oV 63 12,oV 6 63,oM 7 (.mv (kI 0))] [6,7]) (
 .ret))))))))
def Iw:List RV:=[.t 6 false,.t 7 false]
theorem k97:aW G.tab Tryz.f97 3 c97 Iw=true:=by kernel_rfl
def c96:Cd:=.seq (.ops [oM 2 (.mv kF)] [0]) (.seq (.ops [oV 3 0,oM 4 (.bin .eql (.t 3) (kI 1)),oV 5 4,⟨some 6,.mv (.t 0),(some (5,false))⟩,⟨some 7,.call 128 [.t 6],(some (5,false))⟩,oM 8 (.pick (.t 5) kT (.t 7)),
 oV 2 8] [2]) (.ret))
def Ip:List RV:=[.t 2 false]
theorem k96:aW G.tab Tryz.f96 1 c96 Ip=true:=by kernel_rfl
def FF:Cd:=.seq (.ops [oM 2 (.mv kF)] [0]) (.seq (.ops [oV 3 0,oM 4 (.bin .eql (.t 3) (kI 2)),oV 5 4,⟨some 6,.mv (.t 0),(some (5,false))⟩,⟨some 7,.bin .eql (.t 6) (kI 3),(some (5,false))⟩,
 oM 8 (.pick (.t 5) kT (.t 7)),oV 9 8,⟨some 10,.mv (.t 0),(some (9,false))⟩,⟨some 11,.bin .eql (.t 10) (kI 24),(some (9,false))⟩,oM 12 (.pick (.t 9) kT (.t 11)),oV 2 12] [2]) (.ret))
def EM:List RV:=[.t 2 false]
theorem Jo:aW G.tab Tryz.f128 1 FF EM=true:=by kernel_rfl
def GM:Cd:=.seq (.ops [oM 4 (.mv (kI 0)),oM 5 (.mv kF)] [0,1]) (.seq (.seq (.ops [oM 6 (.mv (kI 0))] [0,1,6]) (.block 0 (.loop (.seq (.seq (.ops [oV 7 6,oV 8 0,oM 9 (.len false (.t 8)),oM 10 (.bin .lss (.t 7) (.t 9))] [0,1,6,10]) (
 .cond (.t 10) (.skip) (.exit 0))) (.seq (.block 1 (.seq (.ops [oV 13 0,oV 14 6,oM 15 (.ia 2 (.t 13) (.t 14)),oM 16 (.fa 0 (.t 15)),oM 17 (.load 1 false (.t 16)),oV 18 1,oM 19 (.bin .eql (.t 17) (.t 18))] [0,1,6,19]) (
 .cond (.t 19) (.seq (.ops [oV 20 0,oV 21 6,oM 22 (.ia 2 (.t 20) (.t 21)),oM 23 (.fa 1 (.t 22)),oM 24 (.load 1 false (.t 23)),oM 25 (.call 147 [.t 24]),oV 4 25,oM 5 (.mv kT)] [4,5]) (.ret)) (
 .skip)))) (.ops [oV 11 6,oM 12 (.bin .add (.t 11) (kI 1)),oV 6 12] [0,1,6])))))) (.seq (.ops [oM 4 (.mv (kI 0)),oM 5 (.mv kF)] [4,5]) (.ret)))
def Gv:List RV:=[.t 4 false,.t 5 false]
theorem JG:aW G.tab Tryz.f129 2 GM Gv=true:=by kernel_rfl
def GI:Cd:=.seq (.ops [oM 2 (.mv (kI 0))] [0]) (.seq (.seq (.ops [oV 3 0] [3]) (.cond (.t 3) (.seq (.ops [oM 2 (.mv (kI 1))] [2]) (.ret)) (.skip))) (.seq (.ops [oM 2 (.mv (kI 0))] [2]) (.ret)))
def Fo:List RV:=[.t 2 false]
theorem IO:aW G.tab Tryz.f148 1 GI Fo=true:=by kernel_rfl
def FH:Cd:=.seq (.ops [oM 4 (.mv (kI 0))] [0,1]) (.seq (.seq (.ops [oV 5 0] [1,5]) (.block 0 (.seq (.ops [oM 7 (.bin .eql (.t 5) (kI 4)),oV 6 7] [1,5,6]) (.cond (.t 6) (.seq (.ops [oV 8 1,
 oM 9 (.bin .eql (.t 8) (kI 0)),oM 10 (.call 148 [.t 9]),oV 4 10] [4]) (.ret)) (.seq (.ops [oM 12 (.bin .eql (.t 5) (kI 5)),oV 11 12] [1,5,11]) (.cond (.t 11) (.seq (.ops [oV 13 1,oM 14 (.call 149 [.t 13]),
 oV 4 14] [4]) (.ret)) (.seq (.ops [oM 16 (.bin .eql (.t 5) (kI 6)),oV 15 16] [1,15]) (.cond (.t 15) (.seq (.ops [oV 17 1,oM 18 (.call 150 [.t 17]),oV 4 18] [4]) (.ret)) (.skip))))))))) (.seq (.ops [
 oV 19 1,oM 20 (.call 151 [.t 19]),oV 4 20] [4]) (.ret)))
def Hd:List RV:=[.t 4 false]
theorem Jv:aW G.tab Tryz.f132 2 FH Hd=true:=by kernel_rfl
def Fb:Cd:=.seq (.ops [oM 6 (.mv (kI 0))] [0,1,2]) (.seq (.seq (.ops [oV 7 0] [1,2,7]) (.block 0 (.seq (.ops [oM 9 (.bin .eql (.t 7) (kI 7)),oV 8 9] [1,2,7,8]) (.cond (.t 8) (.seq (.ops [
 oV 10 1,oV 11 2,oM 12 (.call 131 [.t 10,.t 11]),oV 6 12] [6]) (.ret)) (.seq (.ops [oM 14 (.bin .eql (.t 7) (kI 8)),oV 13 14] [1,2,7,13]) (.cond (.t 13) (.seq (.ops [oV 15 1,oV 16 2,oM 17 (.call 152 [.t 15,.t 16]),
 oV 6 17] [6]) (.ret)) (.seq (.ops [oM 19 (.bin .eql (.t 7) (kI 9)),oV 18 19] [1,2,7,18]) (.cond (.t 18) (.seq (.ops [oV 20 1,oV 21 2,oM 22 (.call 153 [.t 20,.t 21]),oV 6 22] [6]) (.ret)) (.seq (
 .ops [oM 24 (.bin .eql (.t 7) (kI 10)),oV 23 24] [1,2,7,23]) (.cond (.t 23) (.seq (.ops [oV 25 1,oV 26 2,oM 27 (.call 154 [.t 25,.t 26]),oV 6 27] [6]) (.ret)) (.seq (.ops [oM 29 (.bin .eql (.t 7) (kI 11)),
 oV 28 29] [1,2,7,28]) (.cond (.t 28) (.seq (.ops [oV 30 1,oV 31 2,oM 32 (.call 155 [.t 30,.t 31]),oV 6 32] [6]) (.ret)) (.seq (.ops [oM 34 (.bin .eql (.t 7) (kI 12)),oV 33 34] [1,2,7,33]) (
 .cond (.t 33) (.seq (.ops [oV 35 1,oV 36 2,oM 37 (.call 156 [.t 35,.t 36]),oV 6 37] [6]) (.ret)) (.seq (.ops [oM 39 (.bin .eql (.t 7) (kI 13)),oV 38 39] [1,2,7,38]) (.cond (.t 38) (.seq (.ops [
 oV 40 1,oV 41 2,oM 42 (.call 157 [.t 40,.t 41]),oV 6 42] [6]) (.ret)) (.seq (.ops [oM 44 (.bin .eql (.t 7) (kI 14)),oV 43 44] [1,2,7,43]) (.cond (.t 43) (.seq (.ops [oV 45 1,oV 46 2,oM 47 (.call 158 [.t 45,.t 46]),
 oV 6 47] [6]) (.ret)) (.seq (.ops [oM 49 (.bin .eql (.t 7) (kI 15)),oV 48 49] [1,2,7,48]) (.cond (.t 48) (.seq (.ops [oV 50 1,oV 51 2,oM 52 (.bin .eql (.t 50) (.t 51)),oM 53 (.call 148 [.t 52]),
 oV 6 53] [6]) (.ret)) (.seq (.ops [oM 55 (.bin .eql (.t 7) (kI 16)),oV 54 55] [1,2,7,54]) (.cond (.t 54) (.seq (.ops [oV 56 1,oV 57 2,oM 58 (.bin .neq (.t 56) (.t 57)),oM 59 (.call 148 [.t 58]),
 oV 6 59] [6]) (.ret)) (.seq (.ops [oM 61 (.bin .eql (.t 7) (kI 17)),oV 60 61] [1,2,7,60]) (.cond (.t 60) (.seq (.ops [oV 62 1,oV 63 2,oM 64 (.bin .lss (.t 62) (.t 63)),oM 65 (.call 148 [.t 64]),
 oV 6 65] [6]) (.ret)) (.seq (.ops [oM 67 (.bin .eql (.t 7) (kI 18)),oV 66 67] [1,2,7,66]) (.cond (.t 66) (.seq (.ops [oV 68 1,oV 69 2,oM 70 (.bin .leq (.t 68) (.t 69)),oM 71 (.call 148 [.t 70]),
 oV 6 71] [6]) (.ret)) (.seq (.ops [oM 73 (.bin .eql (.t 7) (kI 19)),oV 72 73] [1,2,7,72]) (.cond (.t 72) (.seq (.ops [oV 74 1,oM 75 (.bin .neq (.t 74) (kI 0)),oV 76 75,⟨some 77,.mv (.t 2),(some (76,true))⟩,
 ⟨some 78,.bin .neq (.t 77) (kI 0),(some (76,true))⟩,oM 79 (.pick (.t 76) (.t 78) kF),oM 80 (.call 148 [.t 79]),oV 6 80] [6]) (.ret)) (.seq (.ops [oM 82 (.bin .eql (.t 7) (kI 20)),oV 81 82] [1,2,81]) (
 .cond (.t 81) (.seq (.ops [oV 83 1,oM 84 (.bin .neq (.t 83) (kI 0)),oV 85 84,⟨some 86,.mv (.t 2),(some (85,false))⟩,⟨some 87,.bin .neq (.t 86) (kI 0),(some (85,false))⟩,oM 88 (.pick (.t 85) kT (.t 87)),
 oM 89 (.call 148 [.t 88]),oV 6 89] [6]) (.ret)) (.skip))))))))))))))))))))))))))))))) (.seq (.ops [oV 90 1,oM 91 (.bin .eql (.t 90) (kI 0)),oV 92 91,⟨some 93,.mv (.t 2),(some (92,false))⟩,⟨some 94,.bin .neq (.t 93) (kI 0),(some (92,false))⟩,
 oM 95 (.pick (.t 92) kT (.t 94)),oM 96 (.call 148 [.t 95]),oV 6 96] [6]) (.ret)))
def F0:List RV:=[.t 6 false]
theorem IA:aW G.tab Tryz.f133 3 Fb F0=true:=by kernel_rfl
def c98:Cd:=.seq (.ops [oM 4 (.mv (kI 0))] [0,1]) (.seq (.seq (.ops [oV 6 0,oM 7 (.bin .eql (.t 6) (kI 22))] [0,1,7]) (.cond (.t 7) (.seq (.seq (.ops [oV 8 1,oM 9 (.ia 1 (.t 8) (kI 0)),oM 10 (.load 1 false (.t 9)),
 oM 11 (.bin .neq (.t 10) (kI 0))] [1,11]) (.cond (.t 11) (.seq (.ops [oV 12 1,oM 13 (.ia 1 (.t 12) (kI 1)),oM 14 (.load 1 false (.t 13)),oV 4 14] [4]) (.ret)) (.skip))) (.seq (.ops [oV 15 1,oM 16 (.ia 1 (.t 15) (kI 2)),
 oM 17 (.load 1 false (.t 16)),oV 4 17] [4]) (.ret))) (.skip))) (.seq (.seq (.ops [oV 18 0,oM 19 (.bin .eql (.t 18) (kI 23))] [0,1,19]) (.cond (.t 19) (.seq (.seq (.ops [oM 5 (.mv (kI 1))] [1,5]) (
 .block 0 (.loop (.seq (.seq (.ops [oV 20 5,oM 21 (.bin .add (.t 20) (kI 1)),oV 22 1,oM 23 (.len false (.t 22)),oM 24 (.bin .lss (.t 21) (.t 23))] [1,5,24]) (.cond (.t 24) (.skip) (.exit 0))) (
 .seq (.block 1 (.seq (.draw [oV 27 1,oM 28 (.ia 1 (.t 27) (kI 0)),oM 29 (.load 1 false (.t 28)),oV 30 1,oV 31 5,oM 32 (.ia 1 (.t 30) (.t 31)),oM 33 (.load 1 false (.t 32)),oM 34 (.bin .geq (.t 29) (.t 33)),
 oV 35 34,⟨some 36,.mv (.t 1),(some (35,true))⟩,⟨some 37,.ia 1 (.t 36) (kI 0),(some (35,true))⟩,⟨some 38,.load 1 false (.t 37),(some (35,true))⟩,⟨some 39,.mv (.t 1),(some (35,true))⟩,
 ⟨some 40,.mv (.t 5),(some (35,true))⟩,⟨some 41,.bin .add (.t 40) (kI 1),(some (35,true))⟩,⟨some 42,.ia 1 (.t 39) (.t 41),(some (35,true))⟩,⟨some 43,.load 1 false (.t 42),(some (35,true))⟩,
 ⟨some 44,.bin .leq (.t 38) (.t 43),(some (35,true))⟩,oM 45 (.pick (.t 35) (.t 44) kF)] [1,5,45]) (.cond (.t 45) (.seq (.ops [oM 4 (.mv (kI 1))] [4]) (.ret)) (.skip)))) (.ops [oV 25 5,oM 26 (.bin .add (.t 25) (kI 2)),
 oV 5 26] [1,5])))))) (.seq (.ops [oM 4 (.mv (kI 0))] [4]) (.ret))) (.skip))) (.seq (.seq (.ops [oV 46 1,oM 47 (.len false (.t 46)),oM 48 (.bin .eql (.t 47) (kI 1))] [0,1,48]) (.cond (.t 48) (.seq (
 .ops [oV 49 0,oV 50 1,oM 51 (.ia 1 (.t 50) (kI 0)),oM 52 (.load 1 false (.t 51)),oM 53 (.call 132 [.t 49,.t 52]),oV 4 53] [4]) (.ret)) (.skip))) (.seq (.draw [oV 54 0,oV 55 1,oM 56 (.ia 1 (.t 55) (kI 0)),
 oM 57 (.load 1 false (.t 56)),oV 58 1,oM 59 (.ia 1 (.t 58) (kI 1)),oM 60 (.load 1 false (.t 59)),oM 61 (.call 133 [.t 54,.t 57,.t 60]),oV 4 61] [4]) (.ret)))))
def Im:List RV:=[.t 4 false]
theorem k98:aW G.tab Tryz.f98 2 c98 Im=true:=by kernel_rfl
def FD:Cd:=.seq (.ops [oM 6 (.mv (kI 0))] [0,1,2]) (.seq (.seq (.ops [oV 9 2,oM 10 (.bin .lss (.t 9) (kI 0)),oV 11 10,⟨some 12,.mv (.t 2),(some (11,false))⟩,⟨some 13,.bin .geq (.t 12) (kI 8),(some (11,false))⟩,
 oM 14 (.pick (.t 11) kT (.t 13))] [0,1,2,14]) (.cond (.t 14) (.seq (.ops [oM 6 (.mv (kI 0))] [6]) (.ret)) (.skip))) (.seq (.ops [oV 16 0,oV 17 1,oV 18 2,oM 19 (.call 55 [.t 17,.t 18]),oM 20 (.call 129 [.t 16,.t 19]),
 oV 15 20,oM 21 (.ext (.t 15) 0),oM 22 (.ext (.t 15) 1),oV 7 21,oV 8 22] [7]) (.seq (.ops [oV 23 7,oV 6 23] [6]) (.ret))))
def E8:List RV:=[.t 6 false]
theorem JB:aW G.tab Tryz.f130 3 FD E8=true:=by kernel_rfl
def c88:Cd:=.seq (.ops [oM 1 (.box 38 (.t 0)),oM 2 (.mv (.k (.nil)))] [1]) (.seq (.ops [oM 3 (.load 4 true (.t 1)),oM 4 (.calln 124 [.k (.nil),.t 3]),oV 2 4] [2]) (.ret))
def Hs:List RV:=[.t 2 false]
theorem k88:aW G.tab Tryz.f88 1 c88 Hs=true:=by kernel_rfl
def Gf:Cd:=.seq (.ops [oM 3 (.box 38 (.t 1)),oM 4 (.nilo 38 4)] [0,3]) (.seq (.ops [oM 6 (.mvo 0),oM 7 (.load 4 true (.t 3)),oM 8 (.mks 38 4 [.t 7]),oM 9 (.app 38 4 56 6 (.t 8)),oM 0 (.mvo 9)] [0,3]) (
 .seq (.seq (.ops [oM 5 (.mv (kI 0))] [0,3,5]) (.block 0 (.loop (.seq (.seq (.ops [oV 10 5,oM 11 (.fa 3 (.t 3)),oM 12 (.load 1 false (.t 11)),oM 13 (.len false (.t 12)),oM 14 (.bin .lss (.t 10) (.t 13))] [0,3,5,14]) (
 .cond (.t 14) (.skip) (.exit 0))) (.seq (.block 1 (.ops [oM 17 (.mvo 0),oM 18 (.fa 3 (.t 3)),oM 19 (.load 1 false (.t 18)),oV 20 5,oM 21 (.ia 4 (.t 19) (.t 20)),oM 22 (.load 4 true (.t 21)),oM 23 (.callo 124 17 [.t 22]),
 oM 0 (.mvo 23)] [0,3,5])) (.ops [oV 15 5,oM 16 (.bin .add (.t 15) (kI 1)),oV 5 16] [0,3,5])))))) (.seq (.ops [oM 24 (.mvo 0),oM 4 (.mvo 24)] [4]) (.ret))))
def FY:List RV:=[.t 4 true]
theorem Ij:aW G.tab Tryz.f124 2 Gf FY=true:=by kernel_rfl
def Hf:Cd:=.seq (.ops [oM 2 (.mv (kS ⟨#[]⟩)),oM 3 (.mv (kI 0)),oM 4 (.mv kF)] [0]) (.seq (.seq (.ops [oV 7 0,oM 8 (.len true (.t 7)),oM 9 (.bin .lss (.t 8) (kI 4)),oV 10 9,⟨some 11,.mv (.t 0),(some (10,false))⟩,
 ⟨some 12,.mv (.t 0),(some (10,false))⟩,⟨some 13,.len true (.t 12),(some (10,false))⟩,⟨some 14,.bin .sub (.t 13) (kI 1),(some (10,false))⟩,⟨some 15,.ix (.t 11) (.t 14),(some (10,false))⟩,
 ⟨some 16,.bin .neq (.t 15) (.k (.d (.lit (.int .u8 93)))),(some (10,false))⟩,oM 17 (.pick (.t 10) kT (.t 16)),oV 18 17,⟨some 19,.mv (.t 0),(some (18,false))⟩,⟨some 20,.mv (.t 0),(some (18,false))⟩,
 ⟨some 21,.len true (.t 20),(some (18,false))⟩,⟨some 22,.bin .sub (.t 21) (kI 3),(some (18,false))⟩,⟨some 23,.ix (.t 19) (.t 22),(some (18,false))⟩,⟨some 24,.bin .neq (.t 23) (.k (.d (.lit (.int .u8 91)))),(some (18,false))⟩,
 oM 25 (.pick (.t 18) kT (.t 24))] [0,25]) (.cond (.t 25) (.seq (.ops [oM 2 (.mv (kS ⟨#[]⟩)),oM 3 (.mv (kI 0)),oM 4 (.mv kF)] [2,3,4]) (.ret)) (.skip))) (.seq (.ops [oV 26 0,oV 27 0,oM 28 (.len true (.t 27)),
 oM 29 (.bin .sub (.t 28) (kI 2)),oM 30 (.ix (.t 26) (.t 29)),oM 31 (.conv .i64 (.t 30)),oM 32 (.bin .sub (.t 31) (kI 48)),oV 5 32] [0,5]) (.seq (.ops [oV 33 0,oV 34 0,oM 35 (.len true (.t 34)),
 oM 36 (.bin .sub (.t 35) (kI 3)),oM 37 (.sub true 0 (.t 33) none (some (.t 36))),oV 6 37] [5,6]) (.seq (.seq (.ops [oV 38 5,oM 39 (.bin .lss (.t 38) (kI 0)),oV 40 39,⟨some 41,.mv (.t 5),(some (40,false))⟩,
 ⟨some 42,.bin .geq (.t 41) (kI 8),(some (40,false))⟩,oM 43 (.pick (.t 40) kT (.t 42)),oV 44 43,⟨some 45,.mv (.t 6),(some (44,false))⟩,⟨some 46,.call 34 [.t 45],(some (44,false))⟩,⟨some 47,.un .not (.t 46),(some (44,false))⟩,
 oM 48 (.pick (.t 44) kT (.t 47))] [5,6,48]) (.cond (.t 48) (.seq (.ops [oM 2 (.mv (kS ⟨#[]⟩)),oM 3 (.mv (kI 0)),oM 4 (.mv kF)] [2,3,4]) (.ret)) (.skip))) (.seq (.ops [oV 49 6,oV 50 5,oV 2 49,
 oV 3 50,oM 4 (.mv kT)] [2,3,4]) (.ret))))))
def FA:List RV:=[.t 2 false,.t 3 false,.t 4 false]
theorem HA:aW G.tab Tryz.f125 1 Hf FA=true:=by kernel_rfl
def FE:Cd:=.seq (.ops [oM 2 (.mv (kI 0))] [0]) (.seq (.ops [oV 3 0,oM 4 (.bin .rem (.t 3) (kI 65536)),oV 0 4] [0]) (.seq (.seq (.ops [oV 5 0,oM 6 (.bin .lss (.t 5) (kI 0))] [0,6]) (.cond (.t 6) (
 .ops [oV 7 0,oM 8 (.bin .add (.t 7) (kI 65535)),oM 9 (.bin .add (.t 8) (kI 1)),oV 0 9] [0]) (.skip))) (.seq (.ops [oV 10 0,oV 2 10] [2]) (.ret))))
def E6:List RV:=[.t 2 false]
theorem IG:aW G.tab Tryz.f147 1 FE E6=true:=by kernel_rfl
def G0:Cd:=.seq (.ops [oM 4 (.mv (kI 0))] [0,1]) (.seq (.ops [oV 5 0,oM 6 (.call 147 [.t 5]),oV 7 1,oM 8 (.call 147 [.t 7]),oM 9 (.bin .add (.t 6) (.t 8)),oM 10 (.call 147 [.t 9]),oV 4 10] [4]) (
 .ret))
def He:List RV:=[.t 4 false]
theorem Jb:aW G.tab Tryz.f131 2 G0 He=true:=by kernel_rfl
def GG:Cd:=.seq (.ops [oM 4 (.mv (kI 0))] [0,1]) (.seq (.ops [oV 5 0,oM 6 (.call 147 [.t 5]),oV 7 1,oM 8 (.call 147 [.t 7]),oM 9 (.bin .sub (.t 6) (.t 8)),oM 10 (.call 147 [.t 9]),oV 4 10] [4]) (
 .ret))
def GA:List RV:=[.t 4 false]
theorem JF:aW G.tab Tryz.f152 2 GG GA=true:=by kernel_rfl
def Fq:Cd:=.seq (.ops [oM 4 (.mv (kI 0))] [0,1]) (.seq (.ops [oV 5 0,oM 6 (.call 147 [.t 5]),oV 7 1,oM 8 (.call 147 [.t 7]),oM 9 (.bin .mul (.t 6) (.t 8)),oM 10 (.call 147 [.t 9]),oV 4 10] [4]) (
 .ret))
def FC:List RV:=[.t 4 false]
theorem Je:aW G.tab Tryz.f153 2 Fq FC=true:=by kernel_rfl
def EO:Cd:=.seq (.ops [oM 2 (.mv (kI 0))] [0]) (.seq (.ops [oV 3 0,oM 4 (.call 147 [.t 3]),oM 5 (.bin .sub (kI 0) (.t 4)),oM 6 (.call 147 [.t 5]),oV 2 6] [2]) (.ret))
def Hn:List RV:=[.t 2 false]
theorem Is:aW G.tab Tryz.f150 1 EO Hn=true:=by kernel_rfl
def GN:Cd:=.seq (.ops [oM 2 (.mv (kI 0))] [0]) (.seq (.ops [oV 3 0,oM 4 (.call 147 [.t 3]),oM 5 (.bin .sub (kI 65535) (.t 4)),oV 2 5] [2]) (.ret))
def Fc:List RV:=[.t 2 false]
theorem Ir:aW G.tab Tryz.f149 1 GN Fc=true:=by kernel_rfl
def Ft:Cd:=.seq (.ops [oM 2 (.mv (kI 0))] [0]) (.seq (.ops [oM 3 (.mv (kI 1))] [0,3]) (.seq (.seq (.ops [oM 4 (.mv (kI 0))] [0,3,4]) (.block 0 (.loop (.seq (.seq (.ops [oV 5 4,oV 6 0,oM 7 (.bin .lss (.t 5) (.t 6))] [0,3,4,7]) (
 .cond (.t 7) (.skip) (.exit 0))) (.seq (.block 1 (.ops [oV 10 3,oM 11 (.bin .mul (kI 2) (.t 10)),oV 3 11] [0,3,4])) (.ops [oV 8 4,oM 9 (.bin .add (.t 8) (kI 1)),oV 4 9] [0,3,4])))))) (.seq (
 .ops [oV 12 3,oV 2 12] [2]) (.ret))))
def FN:List RV:=[.t 2 false]
theorem HP:aW G.tab Tryz.f167 1 Ft FN=true:=by kernel_rfl
def Gu:Cd:=.seq (.ops [oM 4 (.mv (kI 0))] [0,1]) (.seq (.seq (.ops [oV 5 1,oM 6 (.bin .lss (.t 5) (kI 0)),oV 7 6,⟨some 8,.mv (.t 1),(some (7,false))⟩,⟨some 9,.bin .gtr (.t 8) (kI 15),(some (7,false))⟩,
 oM 10 (.pick (.t 7) kT (.t 9))] [0,1,10]) (.cond (.t 10) (.seq (.ops [oM 4 (.mv (kI 0))] [4]) (.ret)) (.skip))) (.seq (.ops [oV 11 0,oM 12 (.call 147 [.t 11]),oV 13 1,oM 14 (.call 167 [.t 13]),
 oM 15 (.bin .mul (.t 12) (.t 14)),oM 16 (.call 147 [.t 15]),oV 4 16] [4]) (.ret)))
def EV:List RV:=[.t 4 false]
theorem Jc:aW G.tab Tryz.f157 2 Gu EV=true:=by kernel_rfl
def Gh:Cd:=.seq (.ops [oM 4 (.mv (kI 0))] [0,1]) (.seq (.seq (.ops [oV 5 1,oM 6 (.bin .lss (.t 5) (kI 0)),oV 7 6,⟨some 8,.mv (.t 1),(some (7,false))⟩,⟨some 9,.bin .gtr (.t 8) (kI 15),(some (7,false))⟩,
 oM 10 (.pick (.t 7) kT (.t 9))] [0,1,10]) (.cond (.t 10) (.seq (.ops [oM 4 (.mv (kI 0))] [4]) (.ret)) (.skip))) (.seq (.ops [oV 11 0,oM 12 (.call 147 [.t 11]),oV 13 1,oM 14 (.call 167 [.t 13]),
 oM 15 (.bin .quo (.t 12) (.t 14)),oV 4 15] [4]) (.ret)))
def Gq:List RV:=[.t 4 false]
theorem Jt:aW G.tab Tryz.f158 2 Gh Gq=true:=by kernel_rfl
def GL:Cd:=.seq (.ops [oM 4 (.mv (kI 0))] [0,1]) (.seq (.ops [oV 5 0,oV 6 1,oM 7 (.call 158 [.t 5,.t 6]),oM 8 (.bin .rem (.t 7) (kI 2)),oV 4 8] [4]) (.ret))
def FJ:List RV:=[.t 4 false]
theorem I9:aW G.tab Tryz.f165 2 GL FJ=true:=by kernel_rfl
def EL:Cd:=.seq (.ops [oM 2 (.mv (kI 0))] [0]) (.seq (.ops [oM 3 (.mv (kI 0))] [0,3]) (.seq (.seq (.ops [oM 4 (.mv (kI 0))] [0,3,4]) (.block 0 (.loop (.seq (.seq (.ops [oV 5 4,oM 6 (.bin .lss (.t 5) (kI 16))] [0,3,4,6]) (
 .cond (.t 6) (.skip) (.exit 0))) (.seq (.block 1 (.ops [oV 9 3,oV 10 0,oV 11 4,oM 12 (.call 165 [.t 10,.t 11]),oM 13 (.bin .add (.t 9) (.t 12)),oV 3 13] [0,3,4])) (.ops [oV 7 4,oM 8 (.bin .add (.t 7) (kI 1)),
 oV 4 8] [0,3,4])))))) (.seq (.ops [oV 14 3,oV 2 14] [2]) (.ret))))
def Hm:List RV:=[.t 2 false]
theorem I3:aW G.tab Tryz.f151 1 EL Hm=true:=by kernel_rfl
def FO:Cd:=.seq (.ops [oM 4 (.mv (kI 0))] [0,1]) (.seq (.ops [oV 5 0,oV 6 1,oM 7 (.call 166 [.t 5,.t 6,.k (.d (.lit (.int .i64 2))),.k (.d (.lit (.int .i64 2)))]),oV 4 7] [4]) (.ret))
def FM:List RV:=[.t 4 false]
theorem IE:aW G.tab Tryz.f154 2 FO FM=true:=by kernel_rfl
def EA:Cd:=.seq (.ops [oM 4 (.mv (kI 0))] [0,1]) (.seq (.ops [oV 5 0,oV 6 1,oM 7 (.call 166 [.t 5,.t 6,.k (.d (.lit (.int .i64 1))),.k (.d (.lit (.int .i64 2)))]),oV 4 7] [4]) (.ret))
def Gd:List RV:=[.t 4 false]
theorem IZ:aW G.tab Tryz.f155 2 EA Gd=true:=by kernel_rfl
def ET:Cd:=.seq (.ops [oM 4 (.mv (kI 0))] [0,1]) (.seq (.ops [oV 5 0,oV 6 1,oM 7 (.call 166 [.t 5,.t 6,.k (.d (.lit (.int .i64 1))),.k (.d (.lit (.int .i64 1)))]),oV 4 7] [4]) (.ret))
def Ez:List RV:=[.t 4 false]
theorem Ii:aW G.tab Tryz.f156 2 ET Ez=true:=by kernel_rfl
def EW:Cd:=.seq (.ops [oM 8 (.mv (kI 0))] [0,1,2,3]) (.seq (.ops [oM 9 (.mv (kI 0))] [0,1,2,3,9]) (.seq (.seq (.ops [oM 10 (.mv (kI 15))] [0,1,2,3,9,10]) (.block 0 (.loop (.seq (.seq (
 .ops [oV 12 10,oM 13 (.bin .geq (.t 12) (kI 0))] [0,1,2,3,9,10,13]) (.cond (.t 13) (.skip) (.exit 0))) (.seq (.block 1 (.seq (.ops [oV 16 0,oV 17 10,oM 18 (.call 165 [.t 16,.t 17]),oV 19 1,
 oV 20 10,oM 21 (.call 165 [.t 19,.t 20]),oM 22 (.bin .add (.t 18) (.t 21)),oV 11 22] [0,1,2,3,9,10,11]) (.seq (.ops [oV 23 9,oM 24 (.bin .mul (kI 2) (.t 23)),oV 9 24] [0,1,2,3,9,10,11]) (
 .seq (.ops [oV 25 11,oV 26 2,oM 27 (.bin .geq (.t 25) (.t 26)),oV 28 27,⟨some 29,.mv (.t 11),(some (28,true))⟩,⟨some 30,.mv (.t 3),(some (28,true))⟩,⟨some 31,.bin .leq (.t 29) (.t 30),(some (28,true))⟩,
 oM 32 (.pick (.t 28) (.t 31) kF)] [0,1,2,3,9,10,32]) (.cond (.t 32) (.ops [oV 33 9,oM 34 (.bin .add (.t 33) (kI 1)),oV 9 34] [0,1,2,3,9,10]) (.skip)))))) (.ops [oV 14 10,oM 15 (.bin .sub (.t 14) (kI 1)),
 oV 10 15] [0,1,2,3,9,10])))))) (.seq (.ops [oV 35 9,oV 8 35] [8]) (.ret))))
def F8:List RV:=[.t 8 false]
theorem II:aW G.tab Tryz.f166 4 EW F8=true:=by kernel_rfl
def c99:Cd:=.seq (.ops [oM 2 (.nilo 9 1)] [0]) (.seq (.ops [oM 3 (.mv (kI 0))] [0,3]) (.seq (.seq (.ops [oV 9 0,oM 10 (.len false (.t 9)),oM 11 (.mv (kI 0))] [0,3,9,10,11]) (.block 0 (.loop (
 .seq (.ops [oM 12 (.bin .lss (.t 11) (.t 10))] [0,3,9,10,11,12]) (.seq (.cond (.t 12) (.skip) (.exit 0)) (.seq (.block 1 (.seq (.ops [oM 13 (.ia 1 (.t 9) (.t 11)),oM 14 (.load 1 false (.t 13)),
 oV 5 14] [0,3,5,9,10,11]) (.seq (.ops [oV 15 3,oV 16 5,oM 17 (.len false (.t 16)),oM 18 (.bin .add (.t 15) (.t 17)),oV 3 18] [0,3,9,10,11]) (.seq (.ops [oV 19 3,oM 20 (.bin .lss (.t 19) (kI 0))] [0,3,9,10,11,20]) (
 .cond (.t 20) (.ops [oM 21 (.mki 9 (kS ⟨#[108,101,110,32,111,117,116,32,111,102,32,114,97,110,103,101]⟩)),⟨none,.pan (.t 21),none⟩] [0,3,9,10,11]) (.skip)))))) (.ops [oM 22 (.bin .add (.t 11) (kI 1)),
 oV 11 22] [0,3,9,10,11]))))))) (.seq (.ops [oV 23 3,oM 24 (.calln 134 [.k (.nil),.t 23]),oM 6 (.mvo 24)] [0,6]) (.seq (.seq (.ops [oV 25 0,oM 26 (.len false (.t 25)),oM 27 (.mv (kI 0))] [6,25,26,27]) (
 .block 2 (.loop (.seq (.ops [oM 28 (.bin .lss (.t 27) (.t 26))] [6,25,26,27,28]) (.seq (.cond (.t 28) (.skip) (.exit 2)) (.seq (.block 3 (.seq (.ops [oM 29 (.ia 1 (.t 25) (.t 27)),oM 30 (.load 1 false (.t 29)),
 oV 8 30] [6,8,25,26,27]) (.ops [oM 31 (.mvo 6),oV 32 8,oM 33 (.app 9 1 16 31 (.t 32)),oM 6 (.mvo 33)] [6,25,26,27]))) (.ops [oM 34 (.bin .add (.t 27) (kI 1)),oV 27 34] [6,25,26,27]))))))) (
 .seq (.ops [oM 35 (.mvo 6),oM 2 (.mvo 35)] [2]) (.ret))))))
def HU:List RV:=[.t 2 true]
theorem k99:aW G.tab Tryz.f99 1 c99 HU=true:=by kernel_rfl
end Go.Proofs.YthoebpnbhgmoiaaGreatDoor
