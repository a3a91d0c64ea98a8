import Derived.Test.YthoebpnbhgmoiaaGreatDoorProg
import Derived.Test.YthoebpnbhgmoiaaGreatDoorA20
import Derived.KernelRfl
import Derived.Test.YthoebpnbhgmoiaaGreatDoorK2
namespace Go.Proofs.YthoebpnbhgmoiaaGreatDoor
open Go.RowKit
set_option maxRecDepth 100000
set_option linter.unusedVariables false
set_option linter.unusedSimpArgs false
def c3:Cd:=.seq (.ops [oM 3 (.box 26 (.t 1)),oM 4 (.mv kF)] [0,3]) (.seq (.seq (.ops [oV 5 0,oM 6 (.call 9 [.t 5]),oM 7 (.un .not (.t 6)),oV 8 7,⟨some 9,.load 4 true (.t 3),(some (8,false))⟩,
 ⟨some 10,.call 10 [.t 9],(some (8,false))⟩,⟨some 11,.un .not (.t 10),(some (8,false))⟩,oM 12 (.pick (.t 8) kT (.t 11))] [0,3,12]) (.cond (.t 12) (.seq (.ops [oM 13 (.call 11 []),oV 4 13] [4]) (
 .ret)) (.skip))) (.seq (.draw [oV 14 0,oM 15 (.load 4 true (.t 3)),oM 16 (.call 12 [.t 14,.t 15]),oV 17 0,oM 18 (.load 4 true (.t 3)),oM 19 (.call 13 [.t 17,.t 18]),oM 20 (.bin .eql (.t 16) (.t 19)),
 oV 21 20,⟨some 22,.call 11 [],(some (21,true))⟩,oM 23 (.pick (.t 21) (.t 22) kF),oV 4 23] [4]) (.ret)))
def rs3:List RV:=[.t 4 false]
theorem k3:okFn G.tab Tryz.f3 2 c3 rs3=true:=by kernel_rfl
def c4:Cd:=.seq (.ops [oM 3 (.box 26 (.t 1)),oM 4 (.mv kF)] [0,3]) (.seq (.seq (.ops [oV 9 0,oM 10 (.call 9 [.t 9]),oM 11 (.un .not (.t 10)),oV 12 11,⟨some 13,.load 4 true (.t 3),(some (12,false))⟩,
 ⟨some 14,.call 10 [.t 13],(some (12,false))⟩,⟨some 15,.un .not (.t 14),(some (12,false))⟩,oM 16 (.pick (.t 12) kT (.t 15))] [0,3,16]) (.cond (.t 16) (.seq (.ops [oM 17 (.call 11 []),oV 4 17] [4]) (
 .ret)) (.skip))) (.seq (.ops [oV 19 0,oM 20 (.load 4 true (.t 3)),oM 21 (.call 14 [.t 19,.t 20]),oV 18 21,oM 22 (.ext (.t 18) 0),oM 23 (.ext (.t 18) 1),oV 5 22,oV 6 23] [0,3,5,6]) (.seq (
 .ops [oV 25 0,oM 26 (.load 4 true (.t 3)),oM 27 (.call 15 [.t 25,.t 26]),oV 24 27,oM 28 (.ext (.t 24) 0),oM 29 (.ext (.t 24) 1),oV 7 28,oV 8 29] [5,6,7,8]) (.seq (.ops [oV 30 6,oV 31 8,oM 32 (.bin .eql (.t 30) (.t 31)),
 oV 33 32,⟨some 34,.mv (.t 5),(some (33,true))⟩,⟨some 35,.mv (.t 7),(some (33,true))⟩,⟨some 36,.call 16 [.t 34,.t 35],(some (33,true))⟩,oM 37 (.pick (.t 33) (.t 36) kF),oV 38 37,⟨some 39,.call 11 [],(some (38,true))⟩,
 oM 40 (.pick (.t 38) (.t 39) kF),oV 4 40] [4]) (.ret)))))
def rs4:List RV:=[.t 4 false]
theorem k4:okFn G.tab Tryz.f4 2 c4 rs4=true:=by kernel_rfl
def c5:Cd:=.seq (.ops [oM 2 (.box 38 (.t 0)),oM 3 (.box 26 (.t 1)),oM 4 (.mv kF)] [2,3]) (.seq (.seq (.ops [oM 9 (.load 4 true (.t 2)),oM 10 (.call 17 [.t 9,.k (.d (.lit (.int .i64 60)))]),oM 11 (.un .not (.t 10)),
 oV 12 11,⟨some 13,.load 4 true (.t 3),(some (12,false))⟩,⟨some 14,.call 10 [.t 13],(some (12,false))⟩,⟨some 15,.un .not (.t 14),(some (12,false))⟩,oM 16 (.pick (.t 12) kT (.t 15))] [2,3,16]) (
 .cond (.t 16) (.seq (.ops [oM 17 (.call 11 []),oV 4 17] [4]) (.ret)) (.skip))) (.seq (.ops [oM 19 (.load 4 true (.t 2)),oM 20 (.load 4 true (.t 3)),oM 21 (.call 18 [.t 19,.t 20]),oV 18 21,oM 22 (.ext (.t 18) 0),
 oM 23 (.ext (.t 18) 1),oM 5 (.new 38 [.d (.lit (.int .i64 0)),.d (.lit (.int .i64 0)),.d (.lit (.string ⟨#[]⟩)),.nil]),⟨none,.sto 4 (.t 5) (.t 22),none⟩,oV 6 23] [2,3,5,6]) (.seq (.ops [oM 25 (.load 4 true (.t 2)),
 oM 26 (.load 4 true (.t 3)),oM 27 (.call 19 [.t 25,.t 26]),oV 24 27,oM 28 (.ext (.t 24) 0),oM 29 (.ext (.t 24) 1),oM 7 (.new 38 [.d (.lit (.int .i64 0)),.d (.lit (.int .i64 0)),.d (.lit (.string ⟨#[]⟩)),.nil]),
 ⟨none,.sto 4 (.t 7) (.t 28),none⟩,oV 8 29] [5,6,7,8]) (.seq (.ops [oV 30 6,oV 31 8,oM 32 (.bin .eql (.t 30) (.t 31)),oV 33 32,⟨some 34,.load 4 true (.t 5),(some (33,true))⟩,⟨some 35,.load 4 true (.t 7),(some (33,true))⟩,
 ⟨some 36,.call 20 [.t 34,.t 35],(some (33,true))⟩,oM 37 (.pick (.t 33) (.t 36) kF),oV 38 37,⟨some 39,.mv (.t 6),(some (38,true))⟩,⟨some 40,.bin .neq (.t 39) (kI 0),(some (38,true))⟩,⟨some 41,.mv (.t 40),(some (38,true))⟩,
 ⟨some 42,.load 4 true (.t 5),(some (41,false))⟩,⟨some 43,.call 21 [.t 42],(some (41,false))⟩,⟨some 44,.len false (.t 43),(some (41,false))⟩,⟨some 45,.bin .eql (.t 44) (kI 0),(some (41,false))⟩,
 ⟨some 46,.pick (.t 41) kT (.t 45),(some (38,true))⟩,oM 47 (.pick (.t 38) (.t 46) kF),oV 48 47,⟨some 49,.call 11 [],(some (48,true))⟩,oM 50 (.pick (.t 48) (.t 49) kF),oV 4 50] [4]) (.ret)))))
def rs5:List RV:=[.t 4 false]
theorem k5:okFn G.tab Tryz.f5 2 c5 rs5=true:=by kernel_rfl
def c6:Cd:=.seq (.ops [oM 4 (.box 26 (.t 1)),oM 6 (.mv kF)] [0,2,4]) (.seq (.seq (.ops [oV 12 0,oM 13 (.call 9 [.t 12]),oM 14 (.un .not (.t 13)),oV 15 14,⟨some 16,.load 4 true (.t 4),(some (15,false))⟩,
 ⟨some 17,.call 10 [.t 16],(some (15,false))⟩,⟨some 18,.un .not (.t 17),(some (15,false))⟩,oM 19 (.pick (.t 15) kT (.t 18))] [0,2,4,19]) (.cond (.t 19) (.seq (.ops [oM 20 (.call 11 []),oV 6 20] [6]) (
 .ret)) (.skip))) (.seq (.ops [oV 22 0,oM 23 (.load 4 true (.t 4)),oM 24 (.call 14 [.t 22,.t 23]),oV 21 24,oM 25 (.ext (.t 21) 0),oM 26 (.ext (.t 21) 1),oV 7 25,oV 8 26] [0,2,4,7,8]) (.seq (
 .seq (.ops [oV 27 8,oM 28 (.bin .neq (.t 27) (kI 0))] [0,2,4,7,28]) (.cond (.t 28) (.seq (.ops [oM 29 (.call 11 []),oV 6 29] [6]) (.ret)) (.skip))) (.seq (.ops [oM 30 (.load 4 true (.t 4)),oV 31 2,
 oM 32 (.call 22 [.t 30,.t 31]),oV 9 32] [0,4,7,9]) (.seq (.ops [oM 10 (.mv kT)] [0,4,7,9,10]) (.seq (.seq (.ops [oM 11 (.mv (kI 0))] [0,4,7,9,10,11]) (.block 0 (.loop (.seq (.seq (.ops [
 oV 33 11,oV 34 7,oM 35 (.len false (.t 34)),oM 36 (.bin .lss (.t 33) (.t 35))] [0,4,7,9,10,11,36]) (.cond (.t 36) (.skip) (.exit 0))) (.seq (.block 1 (.seq (.seq (.ops [oV 39 7,oV 40 11,oM 41 (.ia 12 (.t 39) (.t 40)),
 oM 42 (.fa 0 (.t 41)),oM 43 (.load 1 false (.t 42)),oM 44 (.bin .neq (.t 43) (kI 1)),oV 45 44,⟨some 46,.mv (.t 7),(some (45,true))⟩,⟨some 47,.mv (.t 11),(some (45,true))⟩,⟨some 48,.ia 12 (.t 46) (.t 47),(some (45,true))⟩,
 ⟨some 49,.fa 0 (.t 48),(some (45,true))⟩,⟨some 50,.load 1 false (.t 49),(some (45,true))⟩,⟨some 51,.bin .neq (.t 50) (kI 2),(some (45,true))⟩,oM 52 (.pick (.t 45) (.t 51) kF),oV 53 52,⟨some 54,.mv (.t 7),(some (53,true))⟩,
 ⟨some 55,.mv (.t 11),(some (53,true))⟩,⟨some 56,.ia 12 (.t 54) (.t 55),(some (53,true))⟩,⟨some 57,.fa 0 (.t 56),(some (53,true))⟩,⟨some 58,.load 1 false (.t 57),(some (53,true))⟩,⟨some 59,.bin .neq (.t 58) (kI 3),(some (53,true))⟩,
 oM 60 (.pick (.t 53) (.t 59) kF),oV 61 60,⟨some 62,.mv (.t 7),(some (61,true))⟩,⟨some 63,.mv (.t 11),(some (61,true))⟩,⟨some 64,.ia 12 (.t 62) (.t 63),(some (61,true))⟩,⟨some 65,.fa 0 (.t 64),(some (61,true))⟩,
 ⟨some 66,.load 1 false (.t 65),(some (61,true))⟩,⟨some 67,.bin .neq (.t 66) (kI 6),(some (61,true))⟩,oM 68 (.pick (.t 61) (.t 67) kF)] [0,4,7,9,10,11,68]) (.cond (.t 68) (.seq (.ops [oM 6 (.mv kF)] [6]) (
 .ret)) (.skip))) (.ops [oV 69 10,oV 70 69,⟨some 71,.mv (.t 7),(some (70,true))⟩,⟨some 72,.mv (.t 11),(some (70,true))⟩,⟨some 73,.ia 12 (.t 71) (.t 72),(some (70,true))⟩,⟨some 74,.fa 0 (.t 73),(some (70,true))⟩,
 ⟨some 75,.load 1 false (.t 74),(some (70,true))⟩,⟨some 76,.bin .neq (.t 75) (kI 1),(some (70,true))⟩,⟨some 77,.mv (.t 76),(some (70,true))⟩,⟨some 78,.mv (.t 7),(some (77,false))⟩,⟨some 79,.mv (.t 11),(some (77,false))⟩,
 ⟨some 80,.ia 12 (.t 78) (.t 79),(some (77,false))⟩,⟨some 81,.fa 1 (.t 80),(some (77,false))⟩,⟨some 82,.load 4 true (.t 81),(some (77,false))⟩,⟨some 83,.mv (.t 9),(some (77,false))⟩,⟨some 84,.call 23 [.t 82,.t 83],(some (77,false))⟩,
 ⟨some 85,.bin .neq (.t 84) (kI 0),(some (77,false))⟩,⟨some 86,.pick (.t 77) kT (.t 85),(some (70,true))⟩,oM 87 (.pick (.t 70) (.t 86) kF),oV 10 87] [0,4,7,9,10,11]))) (.ops [oV 37 11,oM 38 (.bin .add (.t 37) (kI 1)),
 oV 11 38] [0,4,7,9,10,11])))))) (.seq (.ops [oV 88 10,oV 89 0,oM 90 (.load 4 true (.t 4)),oV 91 9,oM 92 (.call 24 [.t 89,.t 90,.t 91]),oM 93 (.binb .eql (.t 88) (.t 92)),oV 94 93,⟨some 95,.call 11 [],(some (94,true))⟩,
 oM 96 (.pick (.t 94) (.t 95) kF),oV 6 96] [6]) (.ret))))))))
def rs6:List RV:=[.t 6 false]
theorem k6:okFn G.tab Tryz.f6 3 c6 rs6=true:=by kernel_rfl
def c7:Cd:=.seq (.ops [oM 3 (.box 38 (.t 0)),oM 4 (.box 26 (.t 1)),oM 6 (.mv kF)] [2,3,4]) (.seq (.seq (.ops [oM 14 (.load 4 true (.t 3)),oM 15 (.call 17 [.t 14,.k (.d (.lit (.int .i64 60)))]),
 oM 16 (.un .not (.t 15)),oV 17 16,⟨some 18,.load 4 true (.t 4),(some (17,false))⟩,⟨some 19,.call 10 [.t 18],(some (17,false))⟩,⟨some 20,.un .not (.t 19),(some (17,false))⟩,oM 21 (.pick (.t 17) kT (.t 20))] [2,3,4,21]) (
 .cond (.t 21) (.seq (.ops [oM 22 (.call 11 []),oV 6 22] [6]) (.ret)) (.skip))) (.seq (.ops [oM 24 (.load 4 true (.t 3)),oM 25 (.load 4 true (.t 4)),oM 26 (.call 18 [.t 24,.t 25]),oV 23 26,oM 27 (.ext (.t 23) 0),
 oM 28 (.ext (.t 23) 1),oM 7 (.new 38 [.d (.lit (.int .i64 0)),.d (.lit (.int .i64 0)),.d (.lit (.string ⟨#[]⟩)),.nil]),⟨none,.sto 4 (.t 7) (.t 27),none⟩,oV 8 28] [2,3,4,7,8]) (.seq (.seq (
 .ops [oV 29 8,oM 30 (.bin .neq (.t 29) (kI 0))] [2,3,4,7,30]) (.cond (.t 30) (.seq (.ops [oM 31 (.call 11 []),oV 6 31] [6]) (.ret)) (.skip))) (.seq (.ops [oM 32 (.load 4 true (.t 4)),oV 33 2,
 oM 34 (.call 22 [.t 32,.t 33]),oV 9 34] [3,7,9]) (.seq (.ops [oM 36 (.load 4 true (.t 3)),oV 37 9,oM 38 (.call 25 [.t 36,.t 37]),oV 35 38,oM 39 (.ext (.t 35) 0),oM 40 (.ext (.t 35) 1),oV 10 39,
 oV 11 40] [7,9,10,11]) (.seq (.ops [oM 42 (.load 4 true (.t 7)),oV 43 9,oM 44 (.call 25 [.t 42,.t 43]),oV 41 44,oM 45 (.ext (.t 41) 0),oM 46 (.ext (.t 41) 1),oV 12 45,oV 13 46] [10,11,12,13]) (
 .seq (.ops [oV 47 11,oM 48 (.bin .eql (.t 47) (kI 0)),oV 49 48,⟨some 50,.mv (.t 13),(some (49,true))⟩,⟨some 51,.bin .eql (.t 50) (kI 0),(some (49,true))⟩,oM 52 (.pick (.t 49) (.t 51) kF),
 oV 53 52,⟨some 54,.mv (.t 10),(some (53,true))⟩,⟨some 55,.mv (.t 12),(some (53,true))⟩,⟨some 56,.bin .eql (.t 54) (.t 55),(some (53,true))⟩,oM 57 (.pick (.t 53) (.t 56) kF),oV 58 57,⟨some 59,.call 11 [],(some (58,true))⟩,
 oM 60 (.pick (.t 58) (.t 59) kF),oV 6 60] [6]) (.ret))))))))
def rs7:List RV:=[.t 6 false]
theorem k7:okFn G.tab Tryz.f7 3 c7 rs7=true:=by kernel_rfl
def c8:Cd:=.seq (.ops [oM 2 (.mv kF)] [0]) (.seq (.seq (.ops [oV 3 0,oM 4 (.call 9 [.t 3]),oM 5 (.un .not (.t 4))] [0,5]) (.cond (.t 5) (.seq (.ops [oM 6 (.call 11 []),oV 2 6] [2]) (.ret)) (.skip))) (
 .seq (.ops [oV 7 0,oM 8 (.call 26 [.t 7]),oV 9 0,oM 10 (.call 27 [.t 9]),oM 11 (.bin .eql (.t 8) (.t 10)),oV 12 11,⟨some 13,.mv (.t 0),(some (12,true))⟩,⟨some 14,.call 29 [.t 13],(some (12,true))⟩,
 ⟨some 15,.mv (.t 0),(some (12,true))⟩,⟨some 16,.call 30 [.t 15],(some (12,true))⟩,⟨some 17,.call 28 [.t 14,.t 16],(some (12,true))⟩,oM 18 (.pick (.t 12) (.t 17) kF),oV 19 18,⟨some 20,.mv (.t 0),(some (19,true))⟩,
 ⟨some 21,.call 31 [.t 20],(some (19,true))⟩,⟨some 22,.mv (.t 0),(some (19,true))⟩,⟨some 23,.call 32 [.t 22],(some (19,true))⟩,⟨some 24,.bin .eql (.t 21) (.t 23),(some (19,true))⟩,oM 25 (.pick (.t 19) (.t 24) kF),
 oV 26 25,⟨some 27,.call 11 [],(some (26,true))⟩,oM 28 (.pick (.t 26) (.t 27) kF),oV 2 28] [2]) (.ret)))
def rs8:List RV:=[.t 2 false]
theorem k8:okFn G.tab Tryz.f8 1 c8 rs8=true:=by kernel_rfl
def c9:Cd:=.seq (.ops [oM 2 (.mv kF)] [0]) (.seq (.ops [oV 3 0,oM 4 (.call 33 [.t 3,.k (.d (.lit (.int .i64 70)))]),oM 5 (.bin .leq (.t 4) (kI 70)),oV 2 5] [2]) (.ret))
def rs9:List RV:=[.t 2 false]
theorem k9:okFn G.tab Tryz.f9 1 c9 rs9=true:=by kernel_rfl
def c33:Cd:=.seq (.ops [oM 4 (.mv (kI 0))] [0,1]) (.seq (.ops [oV 8 0,oM 9 (.len false (.t 8)),oV 5 9] [0,1,5]) (.seq (.seq (.ops [oM 6 (.mv (kI 0))] [0,1,5,6]) (.block 0 (.loop (.seq (.seq (
 .ops [oV 10 6,oV 11 0,oM 12 (.len false (.t 11)),oM 13 (.bin .lss (.t 10) (.t 12)),oV 14 13,⟨some 15,.mv (.t 5),(some (14,true))⟩,⟨some 16,.mv (.t 1),(some (14,true))⟩,⟨some 17,.bin .leq (.t 15) (.t 16),(some (14,true))⟩,
 oM 18 (.pick (.t 14) (.t 17) kF)] [0,1,5,6,18]) (.cond (.t 18) (.skip) (.exit 0))) (.seq (.block 1 (.seq (.ops [oV 21 0,oV 22 6,oM 23 (.ia 12 (.t 21) (.t 22)),oM 24 (.load 12 true (.t 23)),oM 7 (.new 51 [.d (.lit (.int .i64 0)),.d (.lit (.int .i64 0)),.d (.lit (.int .i64 0)),.d (.lit (.string ⟨#[]⟩)),.nil,.d (.lit (.string ⟨#[]⟩)),.d (.lit (.string ⟨#[]⟩)),.nil,.nil,.nil,.nil,.nil]),
 ⟨none,.sto 12 (.t 7) (.t 24),none⟩] [0,1,5,6,7]) (.seq (.seq (.ops [oM 25 (.fa 1 (.t 7)),oM 26 (.load 4 true (.t 25)),oM 27 (.call 17 [.t 26,.k (.d (.lit (.int .i64 60)))]),oM 28 (.un .not (.t 27)),
 oV 29 28,⟨some 30,.fa 7 (.t 7),(some (29,false))⟩,⟨some 31,.load 1 false (.t 30),(some (29,false))⟩,⟨some 32,.len false (.t 31),(some (29,false))⟩,⟨some 33,.bin .gtr (.t 32) (kI 20),(some (29,false))⟩,
 oM 34 (.pick (.t 29) kT (.t 33)),oV 35 34,⟨some 36,.fa 10 (.t 7),(some (35,false))⟩,⟨some 37,.load 1 false (.t 36),(some (35,false))⟩,⟨some 38,.len false (.t 37),(some (35,false))⟩,⟨some 39,.bin .gtr (.t 38) (kI 20),(some (35,false))⟩,
 oM 40 (.pick (.t 35) kT (.t 39)),oV 41 40,⟨some 42,.fa 11 (.t 7),(some (41,false))⟩,⟨some 43,.load 1 false (.t 42),(some (41,false))⟩,⟨some 44,.len false (.t 43),(some (41,false))⟩,⟨some 45,.bin .gtr (.t 44) (kI 20),(some (41,false))⟩,
 oM 46 (.pick (.t 41) kT (.t 45)),oV 47 46,⟨some 48,.fa 5 (.t 7),(some (47,false))⟩,⟨some 49,.load 1 false (.t 48),(some (47,false))⟩,⟨some 50,.len true (.t 49),(some (47,false))⟩,⟨some 51,.bin .gtr (.t 50) (kI 40),(some (47,false))⟩,
 oM 52 (.pick (.t 47) kT (.t 51)),oV 53 52,⟨some 54,.fa 6 (.t 7),(some (53,false))⟩,⟨some 55,.load 1 false (.t 54),(some (53,false))⟩,⟨some 56,.len true (.t 55),(some (53,false))⟩,⟨some 57,.bin .gtr (.t 56) (kI 40),(some (53,false))⟩,
 oM 58 (.pick (.t 53) kT (.t 57))] [0,1,5,6,7,58]) (.cond (.t 58) (.seq (.ops [oV 59 1,oM 60 (.bin .add (.t 59) (kI 1)),oV 4 60] [4]) (.ret)) (.skip))) (.draw [oV 61 5,oM 62 (.fa 8 (.t 7)),oM 63 (.load 1 false (.t 62)),
 oV 64 1,oV 65 5,oM 66 (.bin .sub (.t 64) (.t 65)),oM 67 (.call 33 [.t 63,.t 66]),oM 68 (.bin .add (.t 61) (.t 67)),oM 69 (.fa 9 (.t 7)),oM 70 (.load 1 false (.t 69)),oV 71 1,oV 72 5,oM 73 (.bin .sub (.t 71) (.t 72)),
 oM 74 (.call 33 [.t 70,.t 73]),oM 75 (.bin .add (.t 68) (.t 74)),oV 5 75] [0,1,5,6])))) (.ops [oV 19 6,oM 20 (.bin .add (.t 19) (kI 1)),oV 6 20] [0,1,5,6])))))) (.seq (.ops [oV 76 5,oV 4 76] [4]) (
 .ret))))
def rs33:List RV:=[.t 4 false]
theorem k33:okFn G.tab Tryz.f33 2 c33 rs33=true:=by kernel_rfl
def c10:Cd:=.seq (.ops [oM 1 (.box 26 (.t 0)),oM 2 (.mv kF)] [1]) (.seq (.seq (.ops [oM 5 (.fa 2 (.t 1)),oM 6 (.load 1 false (.t 5)),oM 7 (.len false (.t 6)),oM 8 (.bin .gtr (.t 7) (kI 20))] [1,8]) (
 .cond (.t 8) (.seq (.ops [oM 2 (.mv kF)] [2]) (.ret)) (.skip))) (.seq (.seq (.ops [oM 3 (.mv (kI 0))] [1,3]) (.block 0 (.loop (.seq (.seq (.ops [oV 9 3,oM 10 (.fa 2 (.t 1)),oM 11 (.load 1 false (.t 10)),
 oM 12 (.len false (.t 11)),oM 13 (.bin .lss (.t 9) (.t 12))] [1,3,13]) (.cond (.t 13) (.skip) (.exit 0))) (.seq (.block 1 (.seq (.seq (.ops [oM 16 (.fa 2 (.t 1)),oM 17 (.load 1 false (.t 16)),oV 18 3,
 oM 19 (.ia 5 (.t 17) (.t 18)),oM 20 (.fa 2 (.t 19)),oM 21 (.load 1 false (.t 20)),oM 22 (.bin .lss (.t 21) (kI 0)),oV 23 22,⟨some 24,.fa 2 (.t 1),(some (23,false))⟩,⟨some 25,.load 1 false (.t 24),(some (23,false))⟩,
 ⟨some 26,.mv (.t 3),(some (23,false))⟩,⟨some 27,.ia 5 (.t 25) (.t 26),(some (23,false))⟩,⟨some 28,.fa 2 (.t 27),(some (23,false))⟩,⟨some 29,.load 1 false (.t 28),(some (23,false))⟩,⟨some 30,.bin .gtr (.t 29) (kI 8),(some (23,false))⟩,
 oM 31 (.pick (.t 23) kT (.t 30)),oV 32 31,⟨some 33,.fa 2 (.t 1),(some (32,false))⟩,⟨some 34,.load 1 false (.t 33),(some (32,false))⟩,⟨some 35,.mv (.t 3),(some (32,false))⟩,⟨some 36,.ia 5 (.t 34) (.t 35),(some (32,false))⟩,
 ⟨some 37,.fa 0 (.t 36),(some (32,false))⟩,⟨some 38,.load 1 false (.t 37),(some (32,false))⟩,⟨some 39,.call 34 [.t 38],(some (32,false))⟩,⟨some 40,.un .not (.t 39),(some (32,false))⟩,oM 41 (.pick (.t 32) kT (.t 40))] [1,3,41]) (
 .cond (.t 41) (.seq (.ops [oM 2 (.mv kF)] [2]) (.ret)) (.skip))) (.seq (.ops [oM 4 (.mv (kI 0))] [1,3,4]) (.block 2 (.loop (.seq (.seq (.ops [oV 42 4,oV 43 3,oM 44 (.bin .lss (.t 42) (.t 43))] [1,3,4,44]) (
 .cond (.t 44) (.skip) (.exit 2))) (.seq (.block 3 (.seq (.draw [oM 47 (.fa 2 (.t 1)),oM 48 (.load 1 false (.t 47)),oV 49 4,oM 50 (.ia 5 (.t 48) (.t 49)),oM 51 (.fa 0 (.t 50)),oM 52 (.load 1 false (.t 51)),
 oM 53 (.fa 2 (.t 1)),oM 54 (.load 1 false (.t 53)),oV 55 3,oM 56 (.ia 5 (.t 54) (.t 55)),oM 57 (.fa 0 (.t 56)),oM 58 (.load 1 false (.t 57)),oM 59 (.bin .eql (.t 52) (.t 58))] [1,3,4,59]) (
 .cond (.t 59) (.seq (.ops [oM 2 (.mv kF)] [2]) (.ret)) (.skip)))) (.ops [oV 45 4,oM 46 (.bin .add (.t 45) (kI 1)),oV 4 46] [1,3,4])))))))) (.ops [oV 14 3,oM 15 (.bin .add (.t 14) (kI 1)),oV 3 15] [1,3])))))) (
 .seq (.ops [oM 2 (.mv kT)] [2]) (.ret))))
def rs10:List RV:=[.t 2 false]
theorem k10:okFn G.tab Tryz.f10 1 c10 rs10=true:=by kernel_rfl
def c11:Cd:=.seq (.ops [oM 0 (.mv kF)] []) (.seq (.ops [oM 7 (.bld [.d (.lit (.int .i64 0)),.d (.lit (.int .i64 0)),.d (.lit (.string ⟨#[]⟩)),.nil] [(0,1,.k (.d (.lit (.int .i64 2)))),(2,1,.k (.d (.lit (.string ⟨#[105]⟩))))]),
 oM 8 (.mks 38 4 [.t 7]),oM 9 (.bld [.d (.lit (.int .i64 0)),.d (.lit (.int .i64 0)),.d (.lit (.string ⟨#[]⟩)),.nil] [(0,1,.k (.d (.lit (.int .i64 3)))),(2,1,.k (.d (.lit (.string ⟨#[100]⟩)))),(3,1,.t 8)]),
 oM 10 (.bld [.d (.lit (.int .i64 0)),.d (.lit (.int .i64 0)),.d (.lit (.string ⟨#[]⟩)),.nil] [(0,1,.k (.d (.lit (.int .i64 1)))),(1,1,.k (.d (.lit (.int .i64 3))))]),oM 11 (.mks 38 4 [.t 9,.t 10]),
 oM 12 (.bld [.d (.lit (.int .i64 0)),.d (.lit (.int .i64 0)),.d (.lit (.string ⟨#[]⟩)),.nil] [(0,1,.k (.d (.lit (.int .i64 17)))),(3,1,.t 11)]),oM 1 (.new 38 [.d (.lit (.int .i64 0)),.d (.lit (.int .i64 0)),.d (.lit (.string ⟨#[]⟩)),.nil]),
 ⟨none,.sto 4 (.t 1) (.t 12),none⟩] [1]) (.seq (.ops [oM 13 (.load 4 true (.t 1)),oM 14 (.bld [.d (.lit (.int .i64 0)),.d (.lit (.int .i64 0)),.d (.lit (.int .i64 0)),.d (.lit (.string ⟨#[]⟩)),.nil,.d (.lit (.string ⟨#[]⟩)),.d (.lit (.string ⟨#[]⟩)),.nil,.nil,.nil,.nil,.nil] [(0,1,.k (.d (.lit (.int .i64 1)))),(1,4,.t 13)]),
 oM 15 (.mks 51 12 [.t 14]),oM 16 (.bld [.d (.lit (.int .i64 0)),.d (.lit (.int .i64 0)),.d (.lit (.int .i64 0)),.d (.lit (.string ⟨#[]⟩)),.nil,.d (.lit (.string ⟨#[]⟩)),.d (.lit (.string ⟨#[]⟩)),.nil,.nil,.nil,.nil,.nil] [(0,1,.k (.d (.lit (.int .i64 5)))),(5,1,.k (.d (.lit (.string ⟨#[100]⟩)))),(6,1,.k (.d (.lit (.string ⟨#[105]⟩)))),(8,1,.t 15)]),
 oM 17 (.mks 51 12 [.t 16]),oV 2 17] [2]) (.seq (.ops [oV 19 2,oM 20 (.call 35 []),oM 21 (.call 14 [.t 19,.t 20]),oV 18 21,oM 22 (.ext (.t 18) 0),oM 23 (.ext (.t 18) 1),oV 3 22,oV 4 23] [2,3,4]) (
 .seq (.ops [oM 25 (.bld [.d (.lit (.int .i64 0)),.d (.lit (.int .i64 0)),.d (.lit (.string ⟨#[]⟩)),.nil] [(0,1,.k (.d (.lit (.int .i64 24)))),(2,1,.k (.d (.lit (.string ⟨#[100]⟩))))]),oM 26 (.call 35 []),
 oM 27 (.call 18 [.t 25,.t 26]),oV 24 27,oM 28 (.ext (.t 24) 0),oM 29 (.ext (.t 24) 1),oM 5 (.new 38 [.d (.lit (.int .i64 0)),.d (.lit (.int .i64 0)),.d (.lit (.string ⟨#[]⟩)),.nil]),⟨none,.sto 4 (.t 5) (.t 28),none⟩,
 oV 6 29] [2,3,4,5,6]) (.seq (.ops [oV 30 2,oM 31 (.call 35 []),oM 32 (.call 12 [.t 30,.t 31]),oM 33 (.bin .eql (.t 32) (kI 0)),oV 34 33,⟨some 35,.mv (.t 4),(some (34,true))⟩,⟨some 36,.bin .eql (.t 35) (kI 0),(some (34,true))⟩,
 oM 37 (.pick (.t 34) (.t 36) kF),oV 38 37,⟨some 39,.mv (.t 3),(some (38,true))⟩,⟨some 40,.len false (.t 39),(some (38,true))⟩,⟨some 41,.bin .eql (.t 40) (kI 2),(some (38,true))⟩,oM 42 (.pick (.t 38) (.t 41) kF),
 oV 43 42,⟨some 44,.mv (.t 3),(some (43,true))⟩,⟨some 45,.ia 12 (.t 44) (kI 1),(some (43,true))⟩,⟨some 46,.fa 0 (.t 45),(some (43,true))⟩,⟨some 47,.load 1 false (.t 46),(some (43,true))⟩,
 ⟨some 48,.bin .eql (.t 47) (kI 1),(some (43,true))⟩,oM 49 (.pick (.t 43) (.t 48) kF),oV 50 49,⟨some 51,.mv (.t 6),(some (50,true))⟩,⟨some 52,.bin .eql (.t 51) (kI 0),(some (50,true))⟩,oM 53 (.pick (.t 50) (.t 52) kF),
 oV 54 53,⟨some 55,.fa 0 (.t 5),(some (54,true))⟩,⟨some 56,.load 1 false (.t 55),(some (54,true))⟩,⟨some 57,.bin .eql (.t 56) (kI 7),(some (54,true))⟩,oM 58 (.pick (.t 54) (.t 57) kF),oV 59 58,
 ⟨some 60,.mv (.t 2),(some (59,true))⟩,⟨some 61,.call 26 [.t 60],(some (59,true))⟩,⟨some 62,.bin .eql (.t 61) (kI 2),(some (59,true))⟩,oM 63 (.pick (.t 59) (.t 62) kF),oV 0 63] [0]) (.ret))))))
def rs11:List RV:=[.t 0 false]
theorem k11:okFn G.tab Tryz.f11 0 c11 rs11=true:=by kernel_rfl
def c35:Cd:=.seq (.ops [oM 0 (.new 26 [.d (.lit (.string ⟨#[]⟩)),.d (.lit (.string ⟨#[]⟩)),.nil,.nil])] [0]) (.seq (.ops [oM 1 (.bld [.d (.lit (.string ⟨#[]⟩)),.d (.lit (.int .i64 0)),.d (.lit (.int .i64 0)),.d (.lit (.int .i64 0)),.d (.lit (.int .i64 0))] [(0,1,.k (.d (.lit (.string ⟨#[97]⟩)))),(1,1,.k (.d (.lit (.int .i64 2)))),(3,1,.k (.d (.lit (.int .i64 1))))]),
 oM 2 (.bld [.d (.lit (.string ⟨#[]⟩)),.d (.lit (.int .i64 0)),.d (.lit (.int .i64 0)),.d (.lit (.int .i64 0)),.d (.lit (.int .i64 0))] [(0,1,.k (.d (.lit (.string ⟨#[100]⟩)))),(1,1,.k (.d (.lit (.int .i64 3)))),(2,1,.k (.d (.lit (.int .i64 2)))),(3,1,.k (.d (.lit (.int .i64 1))))]),
 oM 3 (.mks 64 5 [.t 1,.t 2]),oM 4 (.bld [.d (.lit (.string ⟨#[]⟩)),.d (.lit (.string ⟨#[]⟩)),.nil,.nil] [(0,1,.k (.d (.lit (.string ⟨#[112]⟩)))),(2,1,.t 3)]),⟨none,.sto 4 (.t 0) (.t 4),none⟩] [0]) (
 .ret))
def rs35:List RV:=[.c 0 4 true]
theorem k35:okFn G.tab Tryz.f35 0 c35 rs35=true:=by kernel_rfl
def c22:Cd:=.seq (.ops [oM 2 (.box 26 (.t 0)),oM 4 (.mv (.k (.nil)))] [1,2]) (.seq (.ops [oM 5 (.nilo 96 2)] [1,2,5]) (.seq (.seq (.ops [oM 6 (.mv (kI 0))] [1,2,5,6]) (.block 0 (.loop (.seq (
 .seq (.ops [oV 11 6,oM 12 (.fa 2 (.t 2)),oM 13 (.load 1 false (.t 12)),oM 14 (.len false (.t 13)),oM 15 (.bin .lss (.t 11) (.t 14))] [1,2,5,6,15]) (.cond (.t 15) (.skip) (.exit 0))) (.seq (.block 1 (
 .seq (.ops [oM 18 (.fa 2 (.t 2)),oM 19 (.load 1 false (.t 18)),oV 20 6,oM 21 (.ia 5 (.t 19) (.t 20)),oM 22 (.load 5 true (.t 21)),oM 7 (.new 64 [.d (.lit (.string ⟨#[]⟩)),.d (.lit (.int .i64 0)),.d (.lit (.int .i64 0)),.d (.lit (.int .i64 0)),.d (.lit (.int .i64 0))]),
 ⟨none,.sto 5 (.t 7) (.t 22),none⟩] [1,2,5,6,7]) (.seq (.ops [oM 8 (.mv (kI 0))] [1,2,5,6,7,8]) (.block 2 (.loop (.seq (.seq (.ops [oV 23 8,oM 24 (.fa 2 (.t 7)),oM 25 (.load 1 false (.t 24)),
 oM 26 (.bin .lss (.t 23) (.t 25)),oV 27 26,⟨some 28,.mv (.t 8),(some (27,false))⟩,⟨some 29,.bin .eql (.t 28) (kI 0),(some (27,false))⟩,oM 30 (.pick (.t 27) kT (.t 29))] [1,2,5,6,7,8,30]) (
 .cond (.t 30) (.skip) (.exit 2))) (.seq (.block 3 (.seq (.ops [oM 33 (.fa 0 (.t 7)),oM 34 (.load 1 false (.t 33)),oV 9 34] [1,2,5,6,7,8,9]) (.seq (.seq (.ops [oM 35 (.fa 2 (.t 7)),oM 36 (.load 1 false (.t 35)),
 oM 37 (.bin .gtr (.t 36) (kI 0))] [1,2,5,6,7,8,9,37]) (.cond (.t 37) (.ops [oM 38 (.fa 0 (.t 7)),oM 39 (.load 1 false (.t 38)),oV 40 8,oM 41 (.call 55 [.t 39,.t 40]),oV 9 41] [1,2,5,6,7,8,9]) (
 .skip))) (.seq (.ops [oM 10 (.mv (kI 0))] [1,2,5,6,7,8,9,10]) (.seq (.seq (.ops [oV 42 5,oM 43 (.len false (.t 42)),oV 44 1,oM 45 (.len false (.t 44)),oM 46 (.bin .lss (.t 43) (.t 45))] [1,2,5,6,7,8,9,10,46]) (
 .cond (.t 46) (.ops [oV 47 1,oV 48 5,oM 49 (.len false (.t 48)),oM 50 (.ia 1 (.t 47) (.t 49)),oM 51 (.load 1 false (.t 50)),oV 10 51] [1,2,5,6,7,8,9,10]) (.skip))) (.ops [oM 52 (.mvo 5),
 oV 53 9,oV 54 10,oM 55 (.bld [.d (.lit (.string ⟨#[]⟩)),.d (.lit (.int .i64 0))] [(0,1,.t 53),(1,1,.t 54)]),oM 56 (.mks 96 2 [.t 55]),oM 57 (.app 96 2 24 52 (.t 56)),oM 5 (.mvo 57)] [1,2,5,6,7,8])))))) (
 .ops [oV 31 8,oM 32 (.bin .add (.t 31) (kI 1)),oV 8 32] [1,2,5,6,7,8])))))))) (.ops [oV 16 6,oM 17 (.bin .add (.t 16) (kI 1)),oV 6 17] [1,2,5,6])))))) (.seq (.ops [oV 58 5,oV 4 58] [4]) (
 .ret))))
def rs22:List RV:=[.t 4 false]
theorem k22:okFn G.tab Tryz.f22 2 c22 rs22=true:=by kernel_rfl
def c56:Cd:=.seq (.ops [oM 2 (.box 26 (.t 0)),oM 4 (.mv (kI 0))] [1,2]) (.seq (.seq (.ops [oM 5 (.mv (kI 0))] [1,2,5]) (.block 0 (.loop (.seq (.seq (.ops [oV 6 5,oM 7 (.fa 2 (.t 2)),oM 8 (.load 1 false (.t 7)),
 oM 9 (.len false (.t 8)),oM 10 (.bin .lss (.t 6) (.t 9))] [1,2,5,10]) (.cond (.t 10) (.skip) (.exit 0))) (.seq (.block 1 (.seq (.ops [oM 13 (.fa 2 (.t 2)),oM 14 (.load 1 false (.t 13)),oV 15 5,
 oM 16 (.ia 5 (.t 14) (.t 15)),oM 17 (.fa 0 (.t 16)),oM 18 (.load 1 false (.t 17)),oV 19 1,oM 20 (.bin .eql (.t 18) (.t 19))] [1,2,5,20]) (.cond (.t 20) (.seq (.ops [oM 21 (.fa 2 (.t 2)),oM 22 (.load 1 false (.t 21)),
 oV 23 5,oM 24 (.ia 5 (.t 22) (.t 23)),oM 25 (.fa 2 (.t 24)),oM 26 (.load 1 false (.t 25)),oV 4 26] [4]) (.ret)) (.skip)))) (.ops [oV 11 5,oM 12 (.bin .add (.t 11) (kI 1)),oV 5 12] [1,2,5])))))) (
 .seq (.ops [oM 4 (.mv (kI 0))] [4]) (.ret)))
def rs56:List RV:=[.t 4 false]
theorem k56:okFn G.tab Tryz.f56 2 c56 rs56=true:=by kernel_rfl
def c24:Cd:=.seq (.ops [oM 4 (.box 26 (.t 1)),oM 6 (.mv kF)] [0,2,4]) (.seq (.seq (.ops [oM 7 (.mv (kI 0))] [0,2,4,7]) (.block 0 (.loop (.seq (.seq (.ops [oV 12 7,oV 13 0,oM 14 (.len false (.t 13)),
 oM 15 (.bin .lss (.t 12) (.t 14))] [0,2,4,7,15]) (.cond (.t 15) (.skip) (.exit 0))) (.seq (.block 1 (.seq (.ops [oV 18 0,oV 19 7,oM 20 (.ia 12 (.t 18) (.t 19)),oM 21 (.load 12 true (.t 20)),oM 8 (.new 51 [.d (.lit (.int .i64 0)),.d (.lit (.int .i64 0)),.d (.lit (.int .i64 0)),.d (.lit (.string ⟨#[]⟩)),.nil,.d (.lit (.string ⟨#[]⟩)),.d (.lit (.string ⟨#[]⟩)),.nil,.nil,.nil,.nil,.nil]),
 ⟨none,.sto 12 (.t 8) (.t 21),none⟩] [0,2,4,7,8]) (.seq (.ops [oM 22 (.fa 1 (.t 8)),oM 23 (.load 4 true (.t 22)),oV 24 2,oM 25 (.call 23 [.t 23,.t 24]),oV 9 25] [0,2,4,7,8,9]) (.seq (
 .seq (.ops [oM 26 (.fa 0 (.t 8)),oM 27 (.load 1 false (.t 26)),oM 28 (.bin .eql (.t 27) (kI 1)),oV 29 28,⟨some 30,.mv (.t 9),(some (29,true))⟩,⟨some 31,.bin .eql (.t 30) (kI 0),(some (29,true))⟩,
 oM 32 (.pick (.t 29) (.t 31) kF),oV 33 32,⟨some 34,.fa 0 (.t 8),(some (33,false))⟩,⟨some 35,.load 1 false (.t 34),(some (33,false))⟩,⟨some 36,.bin .eql (.t 35) (kI 4),(some (33,false))⟩,
 ⟨some 37,.mv (.t 36),(some (33,false))⟩,⟨some 38,.mv (.t 9),(some (37,true))⟩,⟨some 39,.bin .neq (.t 38) (kI 0),(some (37,true))⟩,⟨some 40,.pick (.t 37) (.t 39) kF,(some (33,false))⟩,
 ⟨some 41,.mv (.t 40),(some (33,false))⟩,⟨some 42,.fa 8 (.t 8),(some (41,true))⟩,⟨some 43,.load 1 false (.t 42),(some (41,true))⟩,⟨some 44,.load 4 true (.t 4),(some (41,true))⟩,⟨some 45,.mv (.t 2),(some (41,true))⟩,
 ⟨some 46,.call 24 [.t 43,.t 44,.t 45],(some (41,true))⟩,⟨some 47,.un .not (.t 46),(some (41,true))⟩,⟨some 48,.pick (.t 41) (.t 47) kF,(some (33,false))⟩,oM 49 (.pick (.t 33) kT (.t 48)),
 oV 50 49,⟨some 51,.fa 0 (.t 8),(some (50,false))⟩,⟨some 52,.load 1 false (.t 51),(some (50,false))⟩,⟨some 53,.bin .eql (.t 52) (kI 4),(some (50,false))⟩,⟨some 54,.mv (.t 53),(some (50,false))⟩,
 ⟨some 55,.mv (.t 9),(some (54,true))⟩,⟨some 56,.bin .eql (.t 55) (kI 0),(some (54,true))⟩,⟨some 57,.pick (.t 54) (.t 56) kF,(some (50,false))⟩,⟨some 58,.mv (.t 57),(some (50,false))⟩,
 ⟨some 59,.fa 9 (.t 8),(some (58,true))⟩,⟨some 60,.load 1 false (.t 59),(some (58,true))⟩,⟨some 61,.load 4 true (.t 4),(some (58,true))⟩,⟨some 62,.mv (.t 2),(some (58,true))⟩,⟨some 63,.call 24 [.t 60,.t 61,.t 62],(some (58,true))⟩,
 ⟨some 64,.un .not (.t 63),(some (58,true))⟩,⟨some 65,.pick (.t 58) (.t 64) kF,(some (50,false))⟩,oM 66 (.pick (.t 50) kT (.t 65))] [0,2,4,7,8,66]) (.cond (.t 66) (.seq (.ops [oM 6 (.mv kF)] [6]) (
 .ret)) (.skip))) (.seq (.ops [oM 10 (.mv (kI 0))] [0,2,4,7,8,10]) (.block 2 (.loop (.seq (.seq (.ops [oM 67 (.fa 0 (.t 8)),oM 68 (.load 1 false (.t 67)),oM 69 (.bin .eql (.t 68) (kI 5)),oV 70 69,
 ⟨some 71,.mv (.t 10),(some (70,true))⟩,⟨some 72,.load 4 true (.t 4),(some (70,true))⟩,⟨some 73,.fa 5 (.t 8),(some (70,true))⟩,⟨some 74,.load 1 false (.t 73),(some (70,true))⟩,⟨some 75,.call 56 [.t 72,.t 74],(some (70,true))⟩,
 ⟨some 76,.bin .lss (.t 71) (.t 75),(some (70,true))⟩,oM 77 (.pick (.t 70) (.t 76) kF)] [0,2,4,7,8,10,77]) (.cond (.t 77) (.skip) (.exit 2))) (.seq (.block 3 (.seq (.ops [oM 80 (.fa 6 (.t 8)),
 oM 81 (.load 1 false (.t 80)),oV 82 10,oM 83 (.bld [.d (.lit (.string ⟨#[]⟩)),.d (.lit (.int .i64 0))] [(0,1,.t 81),(1,1,.t 82)]),oM 84 (.mkso 96 2 [.t 83]),oM 11 (.mvo 84)] [0,2,4,7,8,10,11]) (
 .seq (.ops [oM 85 (.mvo 11),oV 86 2,oM 87 (.app 96 2 24 85 (.t 86)),oM 11 (.mvo 87)] [0,2,4,7,8,10,11]) (.seq (.ops [oM 88 (.fa 8 (.t 8)),oM 89 (.load 1 false (.t 88)),oM 90 (.load 4 true (.t 4)),
 oV 91 11,oM 92 (.call 24 [.t 89,.t 90,.t 91]),oM 93 (.un .not (.t 92))] [0,2,4,7,8,10,93]) (.cond (.t 93) (.seq (.ops [oM 6 (.mv kF)] [6]) (.ret)) (.skip)))))) (.ops [oV 78 10,oM 79 (.bin .add (.t 78) (kI 1)),
 oV 10 79] [0,2,4,7,8,10])))))))))) (.ops [oV 16 7,oM 17 (.bin .add (.t 16) (kI 1)),oV 7 17] [0,2,4,7])))))) (.seq (.ops [oM 6 (.mv kT)] [6]) (.ret)))
def rs24:List RV:=[.t 6 false]
theorem k24:okFn G.tab Tryz.f24 3 c24 rs24=true:=by kernel_rfl
end Go.Proofs.YthoebpnbhgmoiaaGreatDoor
