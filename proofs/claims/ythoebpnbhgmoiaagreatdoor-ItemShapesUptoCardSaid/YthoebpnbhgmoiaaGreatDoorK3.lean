import Derived.Test.YthoebpnbhgmoiaaGreatDoorProg
import Derived.Test.YthoebpnbhgmoiaaGreatDoorA20
import Derived.KernelRfl
import Derived.Test.YthoebpnbhgmoiaaGreatDoorK2
namespace Go.Proofs.YthoebpnbhgmoiaaGreatDoor
open Go.RowKit
set_option maxRecDepth 100000
set_option linter.unusedVariables false
set_option linter.unusedSimpArgs false
def c3:Cd:=.seq (.ops [oM 3 (.box 26 (.t 1)),oM 4 (.mv kF)] [0,3]) (.seq (.seq (.ops [oV 5 0,oM 6 (.call 9 [.t 5]),oM 7 (.un .not (.t 6)),oV 8 7,⟨some 9,.load 4 true (.t 3),(some (8,false))⟩,
 ⟨some 10,.call 10 [.t 9],(some (8,false))⟩,⟨some 11,.un .not (.t 10),(some (8,false))⟩,oM 12 (.pick (.t 8) kT (.t 11))] [0,3,12]) (.cond (.t 12) (.seq (.ops [oM 13 (.call 11 []),oV 4 13] [4]) (
 .ret)) (.skip))) (.seq (.draw [oV 14 0,oM 15 (.load 4 true (.t 3)),oM 16 (.call 12 [.t 14,.t 15]),oV 17 0,oM 18 (.load 4 true (.t 3)),oM 19 (.call 13 [.t 17,.t 18]),oM 20 (.bin .eql (.t 16) (.t 19)),
 oV 21 20,⟨some 22,.call 11 [],(some (21,true))⟩,oM 23 (.pick (.t 21) (.t 22) kF),oV 4 23] [4]) (.ret)))
def rs3:List RV:=[.t 4 false]
theorem k3:aW G.tab Tryz.f3 2 c3 rs3=true:=by kernel_rfl
def c4:Cd:=.seq (.ops [oM 3 (.box 26 (.t 1)),oM 4 (.mv kF)] [0,3]) (.seq (.seq (.ops [oV 9 0,oM 10 (.call 9 [.t 9]),oM 11 (.un .not (.t 10)),oV 12 11,⟨some 13,.load 4 true (.t 3),(some (12,false))⟩,
 ⟨some 14,.call 10 [.t 13],(some (12,false))⟩,⟨some 15,.un .not (.t 14),(some (12,false))⟩,oM 16 (.pick (.t 12) kT (.t 15))] [0,3,16]) (.cond (.t 16) (.seq (.ops [oM 17 (.call 11 []),oV 4 17] [4]) (
 .ret)) (.skip))) (.seq (.ops [oV 19 0,oM 20 (.load 4 true (.t 3)),oM 21 (.call 14 [.t 19,.t 20]),oV 18 21,oM 22 (.ext (.t 18) 0),oM 23 (.ext (.t 18) 1),oV 5 22,oV 6 23] [0,3,5,6]) (.seq (
 .ops [oV 25 0,oM 26 (.load 4 true (.t 3)),oM 27 (.call 15 [.t 25,.t 26]),oV 24 27,oM 28 (.ext (.t 24) 0),oM 29 (.ext (.t 24) 1),oV 7 28,oV 8 29] [5,6,7,8]) (.seq (.ops [oV 30 6,oV 31 8,oM 32 (.bin .eql (.t 30) (.t 31)),
 oV 33 32,⟨some 34,.mv (.t 5),(some (33,true))⟩,⟨some 35,.mv (.t 7),(some (33,true))⟩,⟨some 36,.call 16 [.t 34,.t 35],(some (33,true))⟩,oM 37 (.pick (.t 33) (.t 36) kF),oV 38 37,⟨some 39,.call 11 [],(some (38,true))⟩,
 oM 40 (.pick (.t 38) (.t 39) kF),oV 4 40] [4]) (.ret)))))
def rs4:List RV:=[.t 4 false]
theorem k4:aW G.tab Tryz.f4 2 c4 rs4=true:=by kernel_rfl
def c5:Cd:=.seq (.ops [oM 2 (.box 38 (.t 0)),oM 3 (.box 26 (.t 1)),oM 4 (.mv kF)] [2,3]) (.seq (.seq (.ops [oM 9 (.load 4 true (.t 2)),oM 10 (.call 17 [.t 9,.k (.d (.lit (.int .i64 60)))]),oM 11 (.un .not (.t 10)),
 oV 12 11,⟨some 13,.load 4 true (.t 3),(some (12,false))⟩,⟨some 14,.call 10 [.t 13],(some (12,false))⟩,⟨some 15,.un .not (.t 14),(some (12,false))⟩,oM 16 (.pick (.t 12) kT (.t 15))] [2,3,16]) (
 .cond (.t 16) (.seq (.ops [oM 17 (.call 11 []),oV 4 17] [4]) (.ret)) (.skip))) (.seq (.ops [oM 19 (.load 4 true (.t 2)),oM 20 (.load 4 true (.t 3)),oM 21 (.call 18 [.t 19,.t 20]),oV 18 21,oM 22 (.ext (.t 18) 0),
 oM 23 (.ext (.t 18) 1),oM 5 (.new 38 [.d (.lit (.int .i64 0)),.d (.lit (.int .i64 0)),.d (.lit (.string ⟨#[]⟩)),.nil]),⟨none,.sto 4 (.t 5) (.t 22),none⟩,oV 6 23] [2,3,5,6]) (.seq (.ops [oM 25 (.load 4 true (.t 2)),
 oM 26 (.load 4 true (.t 3)),oM 27 (.call 19 [.t 25,.t 26]),oV 24 27,oM 28 (.ext (.t 24) 0),oM 29 (.ext (.t 24) 1),oM 7 (.new 38 [.d (.lit (.int .i64 0)),.d (.lit (.int .i64 0)),.d (.lit (.string ⟨#[]⟩)),.nil]),
 ⟨none,.sto 4 (.t 7) (.t 28),none⟩,oV 8 29] [5,6,7,8]) (.seq (.ops [oV 30 6,oV 31 8,oM 32 (.bin .eql (.t 30) (.t 31)),oV 33 32,⟨some 34,.load 4 true (.t 5),(some (33,true))⟩,⟨some 35,.load 4 true (.t 7),(some (33,true))⟩,
 ⟨some 36,.call 20 [.t 34,.t 35],(some (33,true))⟩,oM 37 (.pick (.t 33) (.t 36) kF),oV 38 37,⟨some 39,.mv (.t 6),(some (38,true))⟩,⟨some 40,.bin .neq (.t 39) (kI 0),(some (38,true))⟩,⟨some 41,.mv (.t 40),(some (38,true))⟩,
 ⟨some 42,.load 4 true (.t 5),(some (41,false))⟩,⟨some 43,.call 21 [.t 42],(some (41,false))⟩,⟨some 44,.len false (.t 43),(some (41,false))⟩,⟨some 45,.bin .eql (.t 44) (kI 0),(some (41,false))⟩,
 ⟨some 46,.pick (.t 41) kT (.t 45),(some (38,true))⟩,oM 47 (.pick (.t 38) (.t 46) kF),oV 48 47,⟨some 49,.call 11 [],(some (48,true))⟩,oM 50 (.pick (.t 48) (.t 49) kF),oV 4 50] [4]) (.ret)))))
def rs5:List RV:=[.t 4 false]
theorem k5:aW G.tab Tryz.f5 2 c5 rs5=true:=by kernel_rfl
def c6:Cd:=.seq (.ops [oM 4 (.box 26 (.t 1)),oM 6 (.mv kF)] [0,2,4]) (.seq (.seq (.ops [oV 12 0,oM 13 (.call 9 [.t 12]),oM 14 (.un .not (.t 13)),oV 15 14,⟨some 16,.load 4 true (.t 4),(some (15,false))⟩,
 ⟨some 17,.call 10 [.t 16],(some (15,false))⟩,⟨some 18,.un .not (.t 17),(some (15,false))⟩,oM 19 (.pick (.t 15) kT (.t 18))] [0,2,4,19]) (.cond (.t 19) (.seq (.ops [oM 20 (.call 11 []),oV 6 20] [6]) (
 .ret)) (.skip))) (.seq (.ops [oV 22 0,oM 23 (.load 4 true (.t 4)),oM 24 (.call 14 [.t 22,.t 23]),oV 21 24,oM 25 (.ext (.t 21) 0),oM 26 (.ext (.t 21) 1),oV 7 25,oV 8 26] [0,2,4,7,8]) (.seq (
 .seq (.ops [oV 27 8,oM 28 (.bin .neq (.t 27) (kI 0))] [0,2,4,7,28]) (.cond (.t 28) (.seq (.ops [oM 29 (.call 11 []),oV 6 29] [6]) (.ret)) (.skip))) (.seq (.ops [oM 30 (.load 4 true (.t 4)),oV 31 2,
 oM 32 (.call 22 [.t 30,.t 31]),oV 9 32] [0,4,7,9]) (.seq (.ops [oM 10 (.mv kT)] [0,4,7,9,10]) (.seq (.seq (.ops [oM 11 (.mv (kI 0))] [0,4,7,9,10,11]) (.block 0 (.loop (.seq (.seq (.ops [
 oV 33 11,oV 34 7,oM 35 (.len false (.t 34)),oM 36 (.bin .lss (.t 33) (.t 35))] [0,4,7,9,10,11,36]) (.cond (.t 36) (.skip) (.exit 0))) (.seq (.block 1 (.seq (.seq (.ops [oV 39 7,oV 40 11,oM 41 (.ia 12 (.t 39) (.t 40)),
 oM 42 (.fa 0 (.t 41)),oM 43 (.load 1 false (.t 42)),oM 44 (.bin .neq (.t 43) (kI 1)),oV 45 44,⟨some 46,.mv (.t 7),(some (45,true))⟩,⟨some 47,.mv (.t 11),(some (45,true))⟩,⟨some 48,.ia 12 (.t 46) (.t 47),(some (45,true))⟩,
 ⟨some 49,.fa 0 (.t 48),(some (45,true))⟩,⟨some 50,.load 1 false (.t 49),(some (45,true))⟩,⟨some 51,.bin .neq (.t 50) (kI 2),(some (45,true))⟩,oM 52 (.pick (.t 45) (.t 51) kF),oV 53 52,⟨some 54,.mv (.t 7),(some (53,true))⟩,
 ⟨some 55,.mv (.t 11),(some (53,true))⟩,⟨some 56,.ia 12 (.t 54) (.t 55),(some (53,true))⟩,⟨some 57,.fa 0 (.t 56),(some (53,true))⟩,⟨some 58,.load 1 false (.t 57),(some (53,true))⟩,⟨some 59,.bin .neq (.t 58) (kI 3),(some (53,true))⟩,
 oM 60 (.pick (.t 53) (.t 59) kF),oV 61 60,⟨some 62,.mv (.t 7),(some (61,true))⟩,⟨some 63,.mv (.t 11),(some (61,true))⟩,⟨some 64,.ia 12 (.t 62) (.t 63),(some (61,true))⟩,⟨some 65,.fa 0 (.t 64),(some (61,true))⟩,
 ⟨some 66,.load 1 false (.t 65),(some (61,true))⟩,⟨some 67,.bin .neq (.t 66) (kI 6),(some (61,true))⟩,oM 68 (.pick (.t 61) (.t 67) kF)] [0,4,7,9,10,11,68]) (.cond (.t 68) (.seq (.ops [oM 6 (.mv kF)] [6]) (
 .ret)) (.skip))) (.ops [oV 69 10,oV 70 69,⟨some 71,.mv (.t 7),(some (70,true))⟩,⟨some 72,.mv (.t 11),(some (70,true))⟩,⟨some 73,.ia 12 (.t 71) (.t 72),(some (70,true))⟩,⟨some 74,.fa 0 (.t 73),(some (70,true))⟩,
 ⟨some 75,.load 1 false (.t 74),(some (70,true))⟩,⟨some 76,.bin .neq (.t 75) (kI 1),(some (70,true))⟩,⟨some 77,.mv (.t 76),(some (70,true))⟩,⟨some 78,.mv (.t 7),(some (77,false))⟩,⟨some 79,.mv (.t 11),(some (77,false))⟩,
 ⟨some 80,.ia 12 (.t 78) (.t 79),(some (77,false))⟩,⟨some 81,.fa 1 (.t 80),(some (77,false))⟩,⟨some 82,.load 4 true (.t 81),(some (77,false))⟩,⟨some 83,.mv (.t 9),(some (77,false))⟩,⟨some 84,.call 23 [.t 82,.t 83],(some (77,false))⟩,
 ⟨some 85,.bin .neq (.t 84) (kI 0),(some (77,false))⟩,⟨some 86,.pick (.t 77) kT (.t 85),(some (70,true))⟩,oM 87 (.pick (.t 70) (.t 86) kF),oV 10 87] [0,4,7,9,10,11]))) (.ops [oV 37 11,oM 38 (.bin .add (.t 37) (kI 1)),
 oV 11 38] [0,4,7,9,10,11])))))) (.seq (.ops [oV 88 10,oV 89 0,oM 90 (.load 4 true (.t 4)),oV 91 9,oM 92 (.call 24 [.t 89,.t 90,.t 91]),oM 93 (.binb .eql (.t 88) (.t 92)),oV 94 93,⟨some 95,.call 11 [],(some (94,true))⟩,
 oM 96 (.pick (.t 94) (.t 95) kF),oV 6 96] [6]) (.ret))))))))
def rs6:List RV:=[.t 6 false]
theorem k6:aW G.tab Tryz.f6 3 c6 rs6=true:=by kernel_rfl
def c7:Cd:=.seq (.ops [oM 3 (.box 38 (.t 0)),oM 4 (.box 26 (.t 1)),oM 6 (.mv kF)] [2,3,4]) (.seq (.seq (.ops [oM 14 (.load 4 true (.t 3)),oM 15 (.call 17 [.t 14,.k (.d (.lit (.int .i64 60)))]),
 oM 16 (.un .not (.t 15)),oV 17 16,⟨some 18,.load 4 true (.t 4),(some (17,false))⟩,⟨some 19,.call 10 [.t 18],(some (17,false))⟩,⟨some 20,.un .not (.t 19),(some (17,false))⟩,oM 21 (.pick (.t 17) kT (.t 20))] [2,3,4,21]) (
 .cond (.t 21) (.seq (.ops [oM 22 (.call 11 []),oV 6 22] [6]) (.ret)) (.skip))) (.seq (.ops [oM 24 (.load 4 true (.t 3)),oM 25 (.load 4 true (.t 4)),oM 26 (.call 18 [.t 24,.t 25]),oV 23 26,oM 27 (.ext (.t 23) 0),
 oM 28 (.ext (.t 23) 1),oM 7 (.new 38 [.d (.lit (.int .i64 0)),.d (.lit (.int .i64 0)),.d (.lit (.string ⟨#[]⟩)),.nil]),⟨none,.sto 4 (.t 7) (.t 27),none⟩,oV 8 28] [2,3,4,7,8]) (.seq (.seq (
 .ops [oV 29 8,oM 30 (.bin .neq (.t 29) (kI 0))] [2,3,4,7,30]) (.cond (.t 30) (.seq (.ops [oM 31 (.call 11 []),oV 6 31] [6]) (.ret)) (.skip))) (.seq (.ops [oM 32 (.load 4 true (.t 4)),oV 33 2,
 oM 34 (.call 22 [.t 32,.t 33]),oV 9 34] [3,7,9]) (.seq (.ops [oM 36 (.load 4 true (.t 3)),oV 37 9,oM 38 (.call 25 [.t 36,.t 37]),oV 35 38,oM 39 (.ext (.t 35) 0),oM 40 (.ext (.t 35) 1),oV 10 39,
 oV 11 40] [7,9,10,11]) (.seq (.ops [oM 42 (.load 4 true (.t 7)),oV 43 9,oM 44 (.call 25 [.t 42,.t 43]),oV 41 44,oM 45 (.ext (.t 41) 0),oM 46 (.ext (.t 41) 1),oV 12 45,oV 13 46] [10,11,12,13]) (
 .seq (.ops [oV 47 11,oM 48 (.bin .eql (.t 47) (kI 0)),oV 49 48,⟨some 50,.mv (.t 13),(some (49,true))⟩,⟨some 51,.bin .eql (.t 50) (kI 0),(some (49,true))⟩,oM 52 (.pick (.t 49) (.t 51) kF),
 oV 53 52,⟨some 54,.mv (.t 10),(some (53,true))⟩,⟨some 55,.mv (.t 12),(some (53,true))⟩,⟨some 56,.bin .eql (.t 54) (.t 55),(some (53,true))⟩,oM 57 (.pick (.t 53) (.t 56) kF),oV 58 57,⟨some 59,.call 11 [],(some (58,true))⟩,
 oM 60 (.pick (.t 58) (.t 59) kF),oV 6 60] [6]) (.ret))))))))
def rs7:List RV:=[.t 6 false]
theorem k7:aW G.tab Tryz.f7 3 c7 rs7=true:=by kernel_rfl
def c8:Cd:=.seq (.ops [oM 2 (.mv kF)] [0]) (.seq (.seq (.ops [oV 3 0,oM 4 (.call 9 [.t 3]),oM 5 (.un .not (.t 4))] [0,5]) (.cond (.t 5) (.seq (.ops [oM 6 (.call 11 []),oV 2 6] [2]) (.ret)) (.skip))) (
 .seq (.ops [oV 7 0,oM 8 (.call 26 [.t 7]),oV 9 0,oM 10 (.call 27 [.t 9]),oM 11 (.bin .eql (.t 8) (.t 10)),oV 12 11,⟨some 13,.mv (.t 0),(some (12,true))⟩,⟨some 14,.call 29 [.t 13],(some (12,true))⟩,
 ⟨some 15,.mv (.t 0),(some (12,true))⟩,⟨some 16,.call 30 [.t 15],(some (12,true))⟩,⟨some 17,.call 28 [.t 14,.t 16],(some (12,true))⟩,oM 18 (.pick (.t 12) (.t 17) kF),oV 19 18,⟨some 20,.mv (.t 0),(some (19,true))⟩,
 ⟨some 21,.call 31 [.t 20],(some (19,true))⟩,⟨some 22,.mv (.t 0),(some (19,true))⟩,⟨some 23,.call 32 [.t 22],(some (19,true))⟩,⟨some 24,.bin .eql (.t 21) (.t 23),(some (19,true))⟩,oM 25 (.pick (.t 19) (.t 24) kF),
 oV 26 25,⟨some 27,.call 11 [],(some (26,true))⟩,oM 28 (.pick (.t 26) (.t 27) kF),oV 2 28] [2]) (.ret)))
def rs8:List RV:=[.t 2 false]
theorem k8:aW G.tab Tryz.f8 1 c8 rs8=true:=by kernel_rfl
def c9:Cd:=.seq (.ops [oM 2 (.mv kF)] [0]) (.seq (.ops [oV 3 0,oM 4 (.call 33 [.t 3,.k (.d (.lit (.int .i64 70)))]),oM 5 (.bin .leq (.t 4) (kI 70)),oV 2 5] [2]) (.ret))
def rs9:List RV:=[.t 2 false]
theorem k9:aW G.tab Tryz.f9 1 c9 rs9=true:=by kernel_rfl
def c33:Cd:=.seq (.ops [oM 4 (.mv (kI 0))] [0,1]) (.seq (.ops [oV 8 0,oM 9 (.len false (.t 8)),oV 5 9] [0,1,5]) (.seq (.seq (.ops [oM 6 (.mv (kI 0))] [0,1,5,6]) (.block 0 (.loop (.seq (.seq (
 .ops [oV 10 6,oV 11 0,oM 12 (.len false (.t 11)),oM 13 (.bin .lss (.t 10) (.t 12)),oV 14 13,⟨some 15,.mv (.t 5),(some (14,true))⟩,⟨some 16,.mv (.t 1),(some (14,true))⟩,⟨some 17,.bin .leq (.t 15) (.t 16),(some (14,true))⟩,
 oM 18 (.pick (.t 14) (.t 17) kF)] [0,1,5,6,18]) (.cond (.t 18) (.skip) (.exit 0))) (.seq (.block 1 (.seq (.ops [oV 21 0,oV 22 6,oM 23 (.ia 12 (.t 21) (.t 22)),oM 24 (.load 12 true (.t 23)),oM 7 (.new 51 [.d (.lit (.int .i64 0)),.d (.lit (.int .i64 0)),.d (.lit (.int .i64 0)),.d (.lit (.string ⟨#[]⟩)),.nil,.d (.lit (.string ⟨#[]⟩)),.d (.lit (.string ⟨#[]⟩)),.nil,.nil,.nil,.nil,.nil]),
 ⟨none,.sto 12 (.t 7) (.t 24),none⟩] [0,1,5,6,7]) (.seq (.seq (.ops [oM 25 (.fa 1 (.t 7)),oM 26 (.load 4 true (.t 25)),oM 27 (.call 17 [.t 26,.k (.d (.lit (.int .i64 60)))]),oM 28 (.un .not (.t 27)),
 oV 29 28,⟨some 30,.fa 7 (.t 7),(some (29,false))⟩,⟨some 31,.load 1 false (.t 30),(some (29,false))⟩,⟨some 32,.len false (.t 31),(some (29,false))⟩,⟨some 33,.bin .gtr (.t 32) (kI 20),(some (29,false))⟩,
 oM 34 (.pick (.t 29) kT (.t 33)),oV 35 34,⟨some 36,.fa 10 (.t 7),(some (35,false))⟩,⟨some 37,.load 1 false (.t 36),(some (35,false))⟩,⟨some 38,.len false (.t 37),(some (35,false))⟩,⟨some 39,.bin .gtr (.t 38) (kI 20),(some (35,false))⟩,
 oM 40 (.pick (.t 35) kT (.t 39)),oV 41 40,⟨some 42,.fa 11 (.t 7),(some (41,false))⟩,⟨some 43,.load 1 false (.t 42),(some (41,false))⟩,⟨some 44,.len false (.t 43),(some (41,false))⟩,⟨some 45,.bin .gtr (.t 44) (kI 20),(some (41,false))⟩,
 oM 46 (.pick (.t 41) kT (.t 45)),oV 47 46,⟨some 48,.fa 5 (.t 7),(some (47,false))⟩,⟨some 49,.load 1 false (.t 48),(some (47,false))⟩,⟨some 50,.len true (.t 49),(some (47,false))⟩,⟨some 51,.bin .gtr (.t 50) (kI 40),(some (47,false))⟩,
 oM 52 (.pick (.t 47) kT (.t 51)),oV 53 52,⟨some 54,.fa 6 (.t 7),(some (53,false))⟩,⟨some 55,.load 1 false (.t 54),(some (53,false))⟩,⟨some 56,.len true (.t 55),(some (53,false))⟩,⟨some 57,.bin .gtr (.t 56) (kI 40),(some (53,false))⟩,
 oM 58 (.pick (.t 53) kT (.t 57))] [0,1,5,6,7,58]) (.cond (.t 58) (.seq (.ops [oV 59 1,oM 60 (.bin .add (.t 59) (kI 1)),oV 4 60] [4]) (.ret)) (.skip))) (.draw [oV 61 5,oM 62 (.fa 8 (.t 7)),oM 63 (.load 1 false (.t 62)),
 oV 64 1,oV 65 5,oM 66 (.bin .sub (.t 64) (.t 65)),oM 67 (.call 33 [.t 63,.t 66]),oM 68 (.bin .add (.t 61) (.t 67)),oM 69 (.fa 9 (.t 7)),oM 70 (.load 1 false (.t 69)),oV 71 1,oV 72 5,oM 73 (.bin .sub (.t 71) (.t 72)),
 oM 74 (.call 33 [.t 70,.t 73]),oM 75 (.bin .add (.t 68) (.t 74)),oV 5 75] [0,1,5,6])))) (.ops [oV 19 6,oM 20 (.bin .add (.t 19) (kI 1)),oV 6 20] [0,1,5,6])))))) (.seq (.ops [oV 76 5,oV 4 76] [4]) (
 .ret))))
def G8:List RV:=[.t 4 false]
theorem k33:aW G.tab Tryz.f33 2 c33 G8=true:=by kernel_rfl
def c10:Cd:=.seq (.ops [oM 1 (.box 26 (.t 0)),oM 2 (.mv kF)] [1]) (.seq (.seq (.ops [oM 5 (.fa 2 (.t 1)),oM 6 (.load 1 false (.t 5)),oM 7 (.len false (.t 6)),oM 8 (.bin .gtr (.t 7) (kI 20))] [1,8]) (
 .cond (.t 8) (.seq (.ops [oM 2 (.mv kF)] [2]) (.ret)) (.skip))) (.seq (.seq (.ops [oM 3 (.mv (kI 0))] [1,3]) (.block 0 (.loop (.seq (.seq (.ops [oV 9 3,oM 10 (.fa 2 (.t 1)),oM 11 (.load 1 false (.t 10)),
 oM 12 (.len false (.t 11)),oM 13 (.bin .lss (.t 9) (.t 12))] [1,3,13]) (.cond (.t 13) (.skip) (.exit 0))) (.seq (.block 1 (.seq (.seq (.ops [oM 16 (.fa 2 (.t 1)),oM 17 (.load 1 false (.t 16)),oV 18 3,
 oM 19 (.ia 5 (.t 17) (.t 18)),oM 20 (.fa 2 (.t 19)),oM 21 (.load 1 false (.t 20)),oM 22 (.bin .lss (.t 21) (kI 0)),oV 23 22,⟨some 24,.fa 2 (.t 1),(some (23,false))⟩,⟨some 25,.load 1 false (.t 24),(some (23,false))⟩,
 ⟨some 26,.mv (.t 3),(some (23,false))⟩,⟨some 27,.ia 5 (.t 25) (.t 26),(some (23,false))⟩,⟨some 28,.fa 2 (.t 27),(some (23,false))⟩,⟨some 29,.load 1 false (.t 28),(some (23,false))⟩,⟨some 30,.bin .gtr (.t 29) (kI 8),(some (23,false))⟩,
 oM 31 (.pick (.t 23) kT (.t 30)),oV 32 31,⟨some 33,.fa 2 (.t 1),(some (32,false))⟩,⟨some 34,.load 1 false (.t 33),(some (32,false))⟩,⟨some 35,.mv (.t 3),(some (32,false))⟩,⟨some 36,.ia 5 (.t 34) (.t 35),(some (32,false))⟩,
 ⟨some 37,.fa 0 (.t 36),(some (32,false))⟩,⟨some 38,.load 1 false (.t 37),(some (32,false))⟩,⟨some 39,.call 34 [.t 38],(some (32,false))⟩,⟨some 40,.un .not (.t 39),(some (32,false))⟩,oM 41 (.pick (.t 32) kT (.t 40))] [1,3,41]) (
 .cond (.t 41) (.seq (.ops [oM 2 (.mv kF)] [2]) (.ret)) (.skip))) (.seq (.ops [oM 4 (.mv (kI 0))] [1,3,4]) (.block 2 (.loop (.seq (.seq (.ops [oV 42 4,oV 43 3,oM 44 (.bin .lss (.t 42) (.t 43))] [1,3,4,44]) (
 .cond (.t 44) (.skip) (.exit 2))) (.seq (.block 3 (.seq (.draw [oM 47 (.fa 2 (.t 1)),oM 48 (.load 1 false (.t 47)),oV 49 4,oM 50 (.ia 5 (.t 48) (.t 49)),oM 51 (.fa 0 (.t 50)),oM 52 (.load 1 false (.t 51)),
 oM 53 (.fa 2 (.t 1)),oM 54 (.load 1 false (.t 53)),oV 55 3,oM 56 (.ia 5 (.t 54) (.t 55)),oM 57 (.fa 0 (.t 56)),oM 58 (.load 1 false (.t 57)),oM 59 (.bin .eql (.t 52) (.t 58))] [1,3,4,59]) (
 .cond (.t 59) (.seq (.ops [oM 2 (.mv kF)] [2]) (.ret)) (.skip)))) (.ops [oV 45 4,oM 46 (.bin .add (.t 45) (kI 1)),oV 4 46] [1,3,4])))))))) (.ops [oV 14 3,oM 15 (.bin .add (.t 14) (kI 1)),oV 3 15] [1,3])))))) (
 .seq (.ops [oM 2 (.mv kT)] [2]) (.ret))))
def Eq:List RV:=[.t 2 false]
theorem k10:aW G.tab Tryz.f10 1 c10 Eq=true:=by kernel_rfl
def c11:Cd:=.seq (.ops [oM 0 (.mv kF)] []) (.seq (.ops [oM 7 (.bld [.d (.lit (.int .i64 0)),.d (.lit (.int .i64 0)),.d (.lit (.string ⟨#[]⟩)),.nil] [(0,1,.k (.d (.lit (.int .i64 2)))),(2,1,.k (.d (.lit (.string ⟨#[105]⟩))))]),
 oM 8 (.mks 38 4 [.t 7]),oM 9 (.bld [.d (.lit (.int .i64 0)),.d (.lit (.int .i64 0)),.d (.lit (.string ⟨#[]⟩)),.nil] [(0,1,.k (.d (.lit (.int .i64 3)))),(2,1,.k (.d (.lit (.string ⟨#[100]⟩)))),(3,1,.t 8)]),
 oM 10 (.bld [.d (.lit (.int .i64 0)),.d (.lit (.int .i64 0)),.d (.lit (.string ⟨#[]⟩)),.nil] [(0,1,.k (.d (.lit (.int .i64 1)))),(1,1,.k (.d (.lit (.int .i64 3))))]),oM 11 (.mks 38 4 [.t 9,.t 10]),
 oM 12 (.bld [.d (.lit (.int .i64 0)),.d (.lit (.int .i64 0)),.d (.lit (.string ⟨#[]⟩)),.nil] [(0,1,.k (.d (.lit (.int .i64 17)))),(3,1,.t 11)]),oM 1 (.new 38 [.d (.lit (.int .i64 0)),.d (.lit (.int .i64 0)),.d (.lit (.string ⟨#[]⟩)),.nil]),
 ⟨none,.sto 4 (.t 1) (.t 12),none⟩] [1]) (.seq (.ops [oM 13 (.load 4 true (.t 1)),oM 14 (.bld [.d (.lit (.int .i64 0)),.d (.lit (.int .i64 0)),.d (.lit (.int .i64 0)),.d (.lit (.string ⟨#[]⟩)),.nil,.d (.lit (.string ⟨#[]⟩)),.d (.lit (.string ⟨#[]⟩)),.nil,.nil,.nil,.nil,.nil] [(0,1,.k (.d (.lit (.int .i64 1)))),(1,4,.t 13)]),
 oM 15 (.mks 51 12 [.t 14]),oM 16 (.bld [.d (.lit (.int .i64 0)),.d (.lit (.int .i64 0)),.d (.lit (.int .i64 0)),.d (.lit (.string ⟨#[]⟩)),.nil,.d (.lit (.string ⟨#[]⟩)),.d (.lit (.string ⟨#[]⟩)),.nil,.nil,.nil,.nil,.nil] [(0,1,.k (.d (.lit (.int .i64 5)))),(5,1,.k (.d (.lit (.string ⟨#[100]⟩)))),(6,1,.k (.d (.lit (.string ⟨#[105]⟩)))),(8,1,.t 15)]),
 oM 17 (.mks 51 12 [.t 16]),oV 2 17] [2]) (.seq (.ops [oV 19 2,oM 20 (.call 35 []),oM 21 (.call 14 [.t 19,.t 20]),oV 18 21,oM 22 (.ext (.t 18) 0),oM 23 (.ext (.t 18) 1),oV 3 22,oV 4 23] [2,3,4]) (
 .seq (.ops [oM 25 (.bld [.d (.lit (.int .i64 0)),.d (.lit (.int .i64 0)),.d (.lit (.string ⟨#[]⟩)),.nil] [(0,1,.k (.d (.lit (.int .i64 24)))),(2,1,.k (.d (.lit (.string ⟨#[100]⟩))))]),oM 26 (.call 35 []),
 oM 27 (.call 18 [.t 25,.t 26]),oV 24 27,oM 28 (.ext (.t 24) 0),oM 29 (.ext (.t 24) 1),oM 5 (.new 38 [.d (.lit (.int .i64 0)),.d (.lit (.int .i64 0)),.d (.lit (.string ⟨#[]⟩)),.nil]),⟨none,.sto 4 (.t 5) (.t 28),none⟩,
 oV 6 29] [2,3,4,5,6]) (.seq (.ops [oV 30 2,oM 31 (.call 35 []),oM 32 (.call 12 [.t 30,.t 31]),oM 33 (.bin .eql (.t 32) (kI 0)),oV 34 33,⟨some 35,.mv (.t 4),(some (34,true))⟩,⟨some 36,.bin .eql (.t 35) (kI 0),(some (34,true))⟩,
 oM 37 (.pick (.t 34) (.t 36) kF),oV 38 37,⟨some 39,.mv (.t 3),(some (38,true))⟩,⟨some 40,.len false (.t 39),(some (38,true))⟩,⟨some 41,.bin .eql (.t 40) (kI 2),(some (38,true))⟩,oM 42 (.pick (.t 38) (.t 41) kF),
 oV 43 42,⟨some 44,.mv (.t 3),(some (43,true))⟩,⟨some 45,.ia 12 (.t 44) (kI 1),(some (43,true))⟩,⟨some 46,.fa 0 (.t 45),(some (43,true))⟩,⟨some 47,.load 1 false (.t 46),(some (43,true))⟩,
 ⟨some 48,.bin .eql (.t 47) (kI 1),(some (43,true))⟩,oM 49 (.pick (.t 43) (.t 48) kF),oV 50 49,⟨some 51,.mv (.t 6),(some (50,true))⟩,⟨some 52,.bin .eql (.t 51) (kI 0),(some (50,true))⟩,oM 53 (.pick (.t 50) (.t 52) kF),
 oV 54 53,⟨some 55,.fa 0 (.t 5),(some (54,true))⟩,⟨some 56,.load 1 false (.t 55),(some (54,true))⟩,⟨some 57,.bin .eql (.t 56) (kI 7),(some (54,true))⟩,oM 58 (.pick (.t 54) (.t 57) kF),oV 59 58,
 ⟨some 60,.mv (.t 2),(some (59,true))⟩,⟨some 61,.call 26 [.t 60],(some (59,true))⟩,⟨some 62,.bin .eql (.t 61) (kI 2),(some (59,true))⟩,oM 63 (.pick (.t 59) (.t 62) kF),oV 0 63] [0]) (.ret))))))
def Hr:List RV:=[.t 0 false]
theorem k11:aW G.tab Tryz.f11 0 c11 Hr=true:=by kernel_rfl
def c35:Cd:=.seq (.ops [oM 0 (.new 26 [.d (.lit (.string ⟨#[]⟩)),.d (.lit (.string ⟨#[]⟩)),.nil,.nil])] [0]) (.seq (.ops [oM 1 (.bld [.d (.lit (.string ⟨#[]⟩)),.d (.lit (.int .i64 0)),.d (.lit (.int .i64 0)),.d (.lit (.int .i64 0)),.d (.lit (.int .i64 0))] [(0,1,.k (.d (.lit (.string ⟨#[97]⟩)))),(1,1,.k (.d (.lit (.int .i64 2)))),(3,1,.k (.d (.lit (.int .i64 1))))]),
 oM 2 (.bld [.d (.lit (.string ⟨#[]⟩)),.d (.lit (.int .i64 0)),.d (.lit (.int .i64 0)),.d (.lit (.int .i64 0)),.d (.lit (.int .i64 0))] [(0,1,.k (.d (.lit (.string ⟨#[100]⟩)))),(1,1,.k (.d (.lit (.int .i64 3)))),(2,1,.k (.d (.lit (.int .i64 2)))),(3,1,.k (.d (.lit (.int .i64 1))))]),
 oM 3 (.mks 64 5 [.t 1,.t 2]),oM 4 (.bld [.d (.lit (.string ⟨#[]⟩)),.d (.lit (.string ⟨#[]⟩)),.nil,.nil] [(0,1,.k (.d (.lit (.string ⟨#[112]⟩)))),(2,1,.t 3)]),⟨none,.sto 4 (.t 0) (.t 4),none⟩] [0]) (
 .ret))
def GC:List RV:=[.c 0 4 true]
theorem k35:aW G.tab Tryz.f35 0 c35 GC=true:=by kernel_rfl
def c28:Cd:=.seq (.ops [oM 4 (.mv kF)] [0,1]) (.seq (.seq (.ops [oV 6 0,oM 7 (.len false (.t 6)),oV 8 1,oM 9 (.len false (.t 8)),oM 10 (.bin .neq (.t 7) (.t 9))] [0,1,10]) (.cond (.t 10) (
 .seq (.ops [oM 4 (.mv kF)] [4]) (.ret)) (.skip))) (.seq (.seq (.ops [oM 5 (.mv (kI 0))] [0,1,5]) (.block 0 (.loop (.seq (.seq (.ops [oV 11 5,oV 12 0,oM 13 (.len false (.t 12)),oM 14 (.bin .lss (.t 11) (.t 13))] [0,1,5,14]) (
 .cond (.t 14) (.skip) (.exit 0))) (.seq (.block 1 (.seq (.draw [oV 17 0,oV 18 5,oM 19 (.ia 1 (.t 17) (.t 18)),oM 20 (.load 1 false (.t 19)),oV 21 1,oV 22 5,oM 23 (.ia 1 (.t 21) (.t 22)),oM 24 (.load 1 false (.t 23)),
 oM 25 (.bin .neq (.t 20) (.t 24))] [0,1,5,25]) (.cond (.t 25) (.seq (.ops [oM 4 (.mv kF)] [4]) (.ret)) (.skip)))) (.ops [oV 15 5,oM 16 (.bin .add (.t 15) (kI 1)),oV 5 16] [0,1,5])))))) (.seq (
 .ops [oM 4 (.mv kT)] [4]) (.ret))))
def IY:List RV:=[.t 4 false]
theorem k28:aW G.tab Tryz.f28 2 c28 IY=true:=by kernel_rfl
def c22:Cd:=.seq (.ops [oM 2 (.box 26 (.t 0)),oM 4 (.mv (.k (.nil)))] [1,2]) (.seq (.ops [oM 5 (.nilo 96 2)] [1,2,5]) (.seq (.seq (.ops [oM 6 (.mv (kI 0))] [1,2,5,6]) (.block 0 (.loop (.seq (
 .seq (.ops [oV 11 6,oM 12 (.fa 2 (.t 2)),oM 13 (.load 1 false (.t 12)),oM 14 (.len false (.t 13)),oM 15 (.bin .lss (.t 11) (.t 14))] [1,2,5,6,15]) (.cond (.t 15) (.skip) (.exit 0))) (.seq (.block 1 (
 .seq (.ops [oM 18 (.fa 2 (.t 2)),oM 19 (.load 1 false (.t 18)),oV 20 6,oM 21 (.ia 5 (.t 19) (.t 20)),oM 22 (.load 5 true (.t 21)),oM 7 (.new 64 [.d (.lit (.string ⟨#[]⟩)),.d (.lit (.int .i64 0)),.d (.lit (.int .i64 0)),.d (.lit (.int .i64 0)),.d (.lit (.int .i64 0))]),
 ⟨none,.sto 5 (.t 7) (.t 22),none⟩] [1,2,5,6,7]) (.seq (.ops [oM 8 (.mv (kI 0))] [1,2,5,6,7,8]) (.block 2 (.loop (.seq (.seq (.ops [oV 23 8,oM 24 (.fa 2 (.t 7)),oM 25 (.load 1 false (.t 24)),
 oM 26 (.bin .lss (.t 23) (.t 25)),oV 27 26,⟨some 28,.mv (.t 8),(some (27,false))⟩,⟨some 29,.bin .eql (.t 28) (kI 0),(some (27,false))⟩,oM 30 (.pick (.t 27) kT (.t 29))] [1,2,5,6,7,8,30]) (
 .cond (.t 30) (.skip) (.exit 2))) (.seq (.block 3 (.seq (.ops [oM 33 (.fa 0 (.t 7)),oM 34 (.load 1 false (.t 33)),oV 9 34] [1,2,5,6,7,8,9]) (.seq (.seq (.ops [oM 35 (.fa 2 (.t 7)),oM 36 (.load 1 false (.t 35)),
 oM 37 (.bin .gtr (.t 36) (kI 0))] [1,2,5,6,7,8,9,37]) (.cond (.t 37) (.ops [oM 38 (.fa 0 (.t 7)),oM 39 (.load 1 false (.t 38)),oV 40 8,oM 41 (.call 55 [.t 39,.t 40]),oV 9 41] [1,2,5,6,7,8,9]) (
 .skip))) (.seq (.ops [oM 10 (.mv (kI 0))] [1,2,5,6,7,8,9,10]) (.seq (.seq (.ops [oV 42 5,oM 43 (.len false (.t 42)),oV 44 1,oM 45 (.len false (.t 44)),oM 46 (.bin .lss (.t 43) (.t 45))] [1,2,5,6,7,8,9,10,46]) (
 .cond (.t 46) (.ops [oV 47 1,oV 48 5,oM 49 (.len false (.t 48)),oM 50 (.ia 1 (.t 47) (.t 49)),oM 51 (.load 1 false (.t 50)),oV 10 51] [1,2,5,6,7,8,9,10]) (.skip))) (.ops [oM 52 (.mvo 5),
 oV 53 9,oV 54 10,oM 55 (.bld [.d (.lit (.string ⟨#[]⟩)),.d (.lit (.int .i64 0))] [(0,1,.t 53),(1,1,.t 54)]),oM 56 (.mks 96 2 [.t 55]),oM 57 (.app 96 2 24 52 (.t 56)),oM 5 (.mvo 57)] [1,2,5,6,7,8])))))) (
 .ops [oV 31 8,oM 32 (.bin .add (.t 31) (kI 1)),oV 8 32] [1,2,5,6,7,8])))))))) (.ops [oV 16 6,oM 17 (.bin .add (.t 16) (kI 1)),oV 6 17] [1,2,5,6])))))) (.seq (.ops [oV 58 5,oV 4 58] [4]) (
 .ret))))
def EY:List RV:=[.t 4 false]
theorem k22:aW G.tab Tryz.f22 2 c22 EY=true:=by kernel_rfl
def c13:Cd:=.seq (.ops [oM 3 (.box 26 (.t 1)),oM 4 (.mv (kI 0))] [0,3]) (.seq (.seq (.ops [oV 6 0,oM 7 (.call 32 [.t 6]),oV 5 7] [0,3,5]) (.seq (.ops [oV 8 5,oM 9 (.bin .neq (.t 8) (kI 0))] [0,3,5,9]) (
 .cond (.t 9) (.seq (.ops [oV 10 5,oV 4 10] [4]) (.ret)) (.skip)))) (.seq (.ops [oV 11 0,oM 12 (.load 4 true (.t 3)),oM 13 (.call 39 [.t 11,.t 12,.k (.nil)]),oV 4 13] [4]) (.ret)))
def IU:List RV:=[.t 4 false]
theorem k13:aW G.tab Tryz.f13 2 c13 IU=true:=by kernel_rfl
def c19:Cd:=.seq (.ops [oM 2 (.box 38 (.t 0)),oM 3 (.box 26 (.t 1)),oM 4 (.new 38 [.d (.lit (.int .i64 0)),.d (.lit (.int .i64 0)),.d (.lit (.string ⟨#[]⟩)),.nil]),oM 5 (.mv (kI 0))] [2,3,4]) (
 .seq (.seq (.ops [oM 9 (.load 4 true (.t 2)),oM 10 (.call 44 [.t 9]),oV 6 10] [2,3,4,6]) (.seq (.ops [oV 11 6,oM 12 (.bin .neq (.t 11) (kI 0))] [2,3,4,6,12]) (.cond (.t 12) (.seq (.ops [oM 13 (.bld [.d (.lit (.int .i64 0)),.d (.lit (.int .i64 0)),.d (.lit (.string ⟨#[]⟩)),.nil] []),
 oV 14 6,⟨none,.sto 4 (.t 4) (.t 13),none⟩,oV 5 14] [4,5]) (.ret)) (.skip)))) (.seq (.seq (.ops [oM 15 (.load 4 true (.t 2)),oM 16 (.load 4 true (.t 3)),oM 17 (.call 51 [.t 15,.t 16,.k (.nil)]),
 oV 7 17] [2,3,4,7]) (.seq (.ops [oV 18 7,oM 19 (.bin .neq (.t 18) (kI 0))] [2,3,4,7,19]) (.cond (.t 19) (.seq (.ops [oM 20 (.bld [.d (.lit (.int .i64 0)),.d (.lit (.int .i64 0)),.d (.lit (.string ⟨#[]⟩)),.nil] []),
 oV 21 7,⟨none,.sto 4 (.t 4) (.t 20),none⟩,oV 5 21] [4,5]) (.ret)) (.skip)))) (.seq (.seq (.ops [oM 22 (.load 4 true (.t 2)),oM 23 (.load 4 true (.t 3)),oM 24 (.call 52 [.t 22,.t 23]),oM 25 (.bin .geq (.t 24) (kI 50000))] [2,3,4,25]) (
 .cond (.t 25) (.seq (.ops [oM 26 (.bld [.d (.lit (.int .i64 0)),.d (.lit (.int .i64 0)),.d (.lit (.string ⟨#[]⟩)),.nil] []),⟨none,.sto 4 (.t 4) (.t 26),none⟩,oM 5 (.mv (kI 2))] [4,5]) (.ret)) (
 .skip))) (.seq (.ops [oM 27 (.load 4 true (.t 2)),oM 28 (.load 4 true (.t 3)),oM 29 (.call 53 [.t 27,.t 28]),oM 8 (.new 38 [.d (.lit (.int .i64 0)),.d (.lit (.int .i64 0)),.d (.lit (.string ⟨#[]⟩)),.nil]),
 ⟨none,.sto 4 (.t 8) (.t 29),none⟩] [4,8]) (.seq (.seq (.ops [oM 30 (.load 4 true (.t 8)),oM 31 (.call 44 [.t 30]),oM 32 (.bin .neq (.t 31) (kI 0))] [4,8,32]) (.cond (.t 32) (.seq (.ops [oM 33 (.bld [.d (.lit (.int .i64 0)),.d (.lit (.int .i64 0)),.d (.lit (.string ⟨#[]⟩)),.nil] []),
 ⟨none,.sto 4 (.t 4) (.t 33),none⟩,oM 5 (.mv (kI 2))] [4,5]) (.ret)) (.skip))) (.seq (.ops [oM 34 (.load 4 true (.t 8)),⟨none,.sto 4 (.t 4) (.t 34),none⟩,oM 5 (.mv (kI 0))] [4,5]) (.ret)))))))
def BA:List RV:=[.c 4 4 true,.t 5 false]
theorem k19:aW G.tab Tryz.f19 2 c19 BA=true:=by kernel_rfl
def c27:Cd:=.seq (.ops [oM 2 (.mv (kI 0))] [0]) (.seq (.ops [oV 5 0,oM 6 (.len false (.t 5)),oV 3 6] [0,3]) (.seq (.seq (.ops [oM 4 (.mv (kI 0))] [0,3,4]) (.block 0 (.loop (.seq (.seq (.ops [
 oV 7 4,oV 8 0,oM 9 (.len false (.t 8)),oM 10 (.bin .lss (.t 7) (.t 9))] [0,3,4,10]) (.cond (.t 10) (.skip) (.exit 0))) (.seq (.block 1 (.draw [oV 13 3,oV 14 0,oV 15 4,oM 16 (.ia 12 (.t 14) (.t 15)),
 oM 17 (.fa 8 (.t 16)),oM 18 (.load 1 false (.t 17)),oM 19 (.call 27 [.t 18]),oM 20 (.bin .add (.t 13) (.t 19)),oV 21 0,oV 22 4,oM 23 (.ia 12 (.t 21) (.t 22)),oM 24 (.fa 9 (.t 23)),oM 25 (.load 1 false (.t 24)),
 oM 26 (.call 27 [.t 25]),oM 27 (.bin .add (.t 20) (.t 26)),oV 3 27] [0,3,4])) (.ops [oV 11 4,oM 12 (.bin .add (.t 11) (kI 1)),oV 4 12] [0,3,4])))))) (.seq (.ops [oV 28 3,oV 2 28] [2]) (.ret))))
def Ia:List RV:=[.t 2 false]
theorem k27:aW G.tab Tryz.f27 1 c27 Ia=true:=by kernel_rfl
def c30:Cd:=.seq (.ops [oM 2 (.mv (.k (.nil)))] [0]) (.seq (.ops [oM 3 (.nilo 9 1)] [0,3]) (.seq (.ops [oV 6 0,oM 7 (.call 61 [.t 6,.k (.nil)]),oV 4 7] [3,4]) (.seq (.seq (.ops [oM 5 (.mv (kI 0))] [3,4,5]) (
 .block 0 (.loop (.seq (.seq (.ops [oV 8 5,oV 9 4,oM 10 (.len false (.t 9)),oM 11 (.bin .lss (.t 8) (.t 10))] [3,4,5,11]) (.cond (.t 11) (.skip) (.exit 0))) (.seq (.block 1 (.seq (.ops [oV 14 3,
 oV 15 4,oV 16 5,oM 17 (.ia 1 (.t 15) (.t 16)),oM 18 (.load 1 false (.t 17)),oM 19 (.call 62 [.t 14,.t 18]),oM 20 (.un .not (.t 19))] [3,4,5,20]) (.cond (.t 20) (.ops [oM 21 (.mvo 3),oV 22 4,
 oV 23 5,oM 24 (.ia 1 (.t 22) (.t 23)),oM 25 (.load 1 false (.t 24)),oM 26 (.mks 9 1 [.t 25]),oM 27 (.app 9 1 16 21 (.t 26)),oM 3 (.mvo 27)] [3,4,5]) (.skip)))) (.ops [oV 12 5,oM 13 (.bin .add (.t 12) (kI 1)),
 oV 5 13] [3,4,5])))))) (.seq (.ops [oV 28 3,oV 2 28] [2]) (.ret)))))
def Fp:List RV:=[.t 2 false]
theorem k30:aW G.tab Tryz.f30 1 c30 Fp=true:=by kernel_rfl
def c32:Cd:=.seq (.ops [oM 2 (.mv (kI 0))] [0]) (.seq (.seq (.ops [oV 3 0,oM 4 (.call 27 [.t 3]),oM 5 (.bin .gtr (.t 4) (kI 64))] [0,5]) (.cond (.t 5) (.seq (.ops [oM 2 (.mv (kI 2))] [2]) (.ret)) (
 .skip))) (.seq (.ops [oV 6 0,oM 7 (.call 64 [.t 6,.k (.d (.lit (.int .i64 0)))]),oV 2 7] [2]) (.ret)))
def IW:List RV:=[.t 2 false]
theorem k32:aW G.tab Tryz.f32 1 c32 IW=true:=by kernel_rfl
def c39:Cd:=.seq (.ops [oM 4 (.box 26 (.t 1)),oM 6 (.mv (kI 0))] [0,2,4]) (.seq (.seq (.ops [oM 7 (.mv (kI 0))] [0,2,4,7]) (.block 0 (.loop (.seq (.seq (.ops [oV 11 7,oV 12 0,oM 13 (.len false (.t 12)),
 oM 14 (.bin .lss (.t 11) (.t 13))] [0,2,4,7,14]) (.cond (.t 14) (.skip) (.exit 0))) (.seq (.block 1 (.seq (.seq (.draw [oV 17 0,oV 18 7,oM 19 (.ia 12 (.t 17) (.t 18)),oM 20 (.load 12 true (.t 19)),
 oM 21 (.load 4 true (.t 4)),oV 22 2,oM 23 (.call 71 [.t 20,.t 21,.t 22]),oV 8 23] [0,2,4,7,8]) (.seq (.ops [oV 24 8,oM 25 (.bin .neq (.t 24) (kI 0))] [0,2,4,7,8,25]) (.cond (.t 25) (.seq (
 .ops [oV 26 8,oV 6 26] [6]) (.ret)) (.skip)))) (.seq (.seq (.draw [oV 27 0,oV 28 7,oM 29 (.ia 12 (.t 27) (.t 28)),oM 30 (.fa 8 (.t 29)),oM 31 (.load 1 false (.t 30)),oM 32 (.load 4 true (.t 4)),
 oV 33 0,oV 34 7,oM 35 (.ia 12 (.t 33) (.t 34)),oM 36 (.load 12 true (.t 35)),oV 37 2,oM 38 (.call 72 [.t 36,.t 37]),oM 39 (.call 39 [.t 31,.t 32,.t 38]),oV 9 39] [0,2,4,7,9]) (.seq (.ops [
 oV 40 9,oM 41 (.bin .neq (.t 40) (kI 0))] [0,2,4,7,9,41]) (.cond (.t 41) (.seq (.ops [oV 42 9,oV 6 42] [6]) (.ret)) (.skip)))) (.seq (.draw [oV 43 0,oV 44 7,oM 45 (.ia 12 (.t 43) (.t 44)),oM 46 (.fa 9 (.t 45)),
 oM 47 (.load 1 false (.t 46)),oM 48 (.load 4 true (.t 4)),oV 49 2,oM 50 (.call 39 [.t 47,.t 48,.t 49]),oV 10 50] [0,2,4,7,10]) (.seq (.ops [oV 51 10,oM 52 (.bin .neq (.t 51) (kI 0))] [0,2,4,7,10,52]) (
 .cond (.t 52) (.seq (.ops [oV 53 10,oV 6 53] [6]) (.ret)) (.skip))))))) (.ops [oV 15 7,oM 16 (.bin .add (.t 15) (kI 1)),oV 7 16] [0,2,4,7])))))) (.seq (.ops [oM 6 (.mv (kI 0))] [6]) (.ret)))
def Ik:List RV:=[.t 6 false]
theorem k39:aW G.tab Tryz.f39 3 c39 Ik=true:=by kernel_rfl
def c43:Cd:=.seq (.ops [oM 2 (.mv kF)] [0]) (.seq (.ops [oV 3 0,oM 4 (.bin .eql (.t 3) (kI 1)),oV 5 4,⟨some 6,.mv (.t 0),(some (5,false))⟩,⟨some 7,.bin .eql (.t 6) (kI 2),(some (5,false))⟩,
 oM 8 (.pick (.t 5) kT (.t 7)),oV 9 8,⟨some 10,.mv (.t 0),(some (9,false))⟩,⟨some 11,.bin .eql (.t 10) (kI 4),(some (9,false))⟩,oM 12 (.pick (.t 9) kT (.t 11)),oV 2 12] [2]) (.ret))
def Jz:List RV:=[.t 2 false]
theorem k43:aW G.tab Tryz.f43 1 c43 Jz=true:=by kernel_rfl
def c51:Cd:=.seq (.ops [oM 3 (.box 38 (.t 0)),oM 4 (.box 26 (.t 1)),oM 6 (.mv (kI 0))] [2,3,4]) (.seq (.ops [oM 10 (.load 4 true (.t 3)),oM 11 (.call 88 [.t 10]),oV 7 11] [2,4,7]) (.seq (
 .seq (.ops [oM 8 (.mv (kI 0))] [2,4,7,8]) (.block 0 (.loop (.seq (.seq (.ops [oV 12 8,oV 13 7,oM 14 (.len false (.t 13)),oM 15 (.bin .lss (.t 12) (.t 14))] [2,4,7,8,15]) (.cond (.t 15) (.skip) (
 .exit 0))) (.seq (.block 1 (.seq (.ops [oM 9 (.mv (kI 0))] [2,4,7,8,9]) (.seq (.seq (.ops [oV 18 7,oV 19 8,oM 20 (.ia 4 (.t 18) (.t 19)),oM 21 (.fa 0 (.t 20)),oM 22 (.load 1 false (.t 21)),oM 23 (.bin .eql (.t 22) (kI 2)),
 oV 24 23,⟨some 25,.mv (.t 2),(some (24,true))⟩,⟨some 26,.mv (.t 7),(some (24,true))⟩,⟨some 27,.mv (.t 8),(some (24,true))⟩,⟨some 28,.ia 4 (.t 26) (.t 27),(some (24,true))⟩,⟨some 29,.fa 2 (.t 28),(some (24,true))⟩,
 ⟨some 30,.load 1 false (.t 29),(some (24,true))⟩,⟨some 31,.call 62 [.t 25,.t 30],(some (24,true))⟩,⟨some 32,.un .not (.t 31),(some (24,true))⟩,oM 33 (.pick (.t 24) (.t 32) kF)] [2,4,7,8,9,33]) (
 .cond (.t 33) (.draw [oM 34 (.load 4 true (.t 4)),oV 35 7,oV 36 8,oM 37 (.ia 4 (.t 35) (.t 36)),oM 38 (.fa 2 (.t 37)),oM 39 (.load 1 false (.t 38)),oM 40 (.call 89 [.t 34,.t 39]),oV 9 40] [2,4,7,8,9]) (
 .skip))) (.seq (.seq (.ops [oV 41 7,oV 42 8,oM 43 (.ia 4 (.t 41) (.t 42)),oM 44 (.fa 0 (.t 43)),oM 45 (.load 1 false (.t 44)),oM 46 (.bin .eql (.t 45) (kI 3)),oV 47 46,⟨some 48,.mv (.t 7),(some (47,false))⟩,
 ⟨some 49,.mv (.t 8),(some (47,false))⟩,⟨some 50,.ia 4 (.t 48) (.t 49),(some (47,false))⟩,⟨some 51,.fa 0 (.t 50),(some (47,false))⟩,⟨some 52,.load 1 false (.t 51),(some (47,false))⟩,⟨some 53,.bin .eql (.t 52) (kI 24),(some (47,false))⟩,
 oM 54 (.pick (.t 47) kT (.t 53))] [2,4,7,8,9,54]) (.cond (.t 54) (.draw [oM 55 (.load 4 true (.t 4)),oV 56 7,oV 57 8,oM 58 (.ia 4 (.t 56) (.t 57)),oM 59 (.fa 2 (.t 58)),oM 60 (.load 1 false (.t 59)),
 oM 61 (.call 90 [.t 55,.t 60]),oV 9 61] [2,4,7,8,9]) (.skip))) (.seq (.ops [oV 62 9,oM 63 (.bin .neq (.t 62) (kI 0))] [2,4,7,8,9,63]) (.cond (.t 63) (.seq (.ops [oV 64 9,oV 6 64] [6]) (
 .ret)) (.skip))))))) (.ops [oV 16 8,oM 17 (.bin .add (.t 16) (kI 1)),oV 8 17] [2,4,7,8])))))) (.seq (.ops [oM 6 (.mv (kI 0))] [6]) (.ret))))
def IJ:List RV:=[.t 6 false]
theorem k51:aW G.tab Tryz.f51 3 c51 IJ=true:=by kernel_rfl
def c52:Cd:=.seq (.ops [oM 2 (.box 38 (.t 0)),oM 3 (.box 26 (.t 1)),oM 4 (.mv (kI 0))] [2,3]) (.seq (.ops [oM 10 (.load 4 true (.t 3)),oM 11 (.fa 2 (.t 2)),oM 12 (.load 1 false (.t 11)),oM 13 (.call 80 [.t 10,.t 12]),
 oV 9 13,oM 14 (.ext (.t 9) 0),oM 15 (.ext (.t 9) 1),oV 5 14,oV 6 15] [2,3,5]) (.seq (.seq (.ops [oM 16 (.fa 0 (.t 2)),oM 17 (.load 1 false (.t 16)),oM 18 (.bin .eql (.t 17) (kI 24))] [2,3,5,18]) (
 .cond (.t 18) (.seq (.ops [oV 19 5,oM 20 (.bin .mul (kI 2) (.t 19)),oM 21 (.bin .sub (.t 20) (kI 1)),oV 4 21] [4]) (.ret)) (.skip))) (.seq (.ops [oM 7 (.mv (kI 0))] [2,3,5,7]) (.seq (.seq (.ops [
 oM 8 (.mv (kI 0))] [2,3,5,7,8]) (.block 0 (.loop (.seq (.seq (.ops [oV 22 8,oM 23 (.fa 3 (.t 2)),oM 24 (.load 1 false (.t 23)),oM 25 (.len false (.t 24)),oM 26 (.bin .lss (.t 22) (.t 25)),oV 27 26,
 ⟨some 28,.mv (.t 7),(some (27,true))⟩,⟨some 29,.bin .lss (.t 28) (kI 100000),(some (27,true))⟩,oM 30 (.pick (.t 27) (.t 29) kF)] [2,3,5,7,8,30]) (.cond (.t 30) (.skip) (.exit 0))) (.seq (
 .block 1 (.draw [oV 33 7,oM 34 (.fa 3 (.t 2)),oM 35 (.load 1 false (.t 34)),oV 36 8,oM 37 (.ia 4 (.t 35) (.t 36)),oM 38 (.load 4 true (.t 37)),oM 39 (.load 4 true (.t 3)),oM 40 (.call 52 [.t 38,.t 39]),
 oM 41 (.bin .add (.t 33) (.t 40)),oV 7 41] [2,3,5,7,8])) (.ops [oV 31 8,oM 32 (.bin .add (.t 31) (kI 1)),oV 8 32] [2,3,5,7,8])))))) (.seq (.seq (.ops [oM 42 (.fa 0 (.t 2)),oM 43 (.load 1 false (.t 42)),
 oM 44 (.bin .eql (.t 43) (kI 3)),oV 45 44,⟨some 46,.fa 3 (.t 2),(some (45,true))⟩,⟨some 47,.load 1 false (.t 46),(some (45,true))⟩,⟨some 48,.ia 4 (.t 47) (kI 0),(some (45,true))⟩,⟨some 49,.fa 0 (.t 48),(some (45,true))⟩,
 ⟨some 50,.load 1 false (.t 49),(some (45,true))⟩,⟨some 51,.bin .eql (.t 50) (kI 1),(some (45,true))⟩,oM 52 (.pick (.t 45) (.t 51) kF)] [2,5,7,52]) (.cond (.t 52) (.ops [oM 7 (.mv (kI 0))] [7]) (
 .seq (.ops [oM 53 (.fa 0 (.t 2)),oM 54 (.load 1 false (.t 53)),oM 55 (.bin .eql (.t 54) (kI 3))] [5,7,55]) (.cond (.t 55) (.ops [oV 56 5,oV 57 7,oM 58 (.bin .add (.t 57) (kI 4)),oM 59 (.bin .mul (.t 56) (.t 58)),
 oV 7 59] [7]) (.skip))))) (.seq (.ops [oV 60 7,oM 61 (.bin .add (.t 60) (kI 1)),oM 62 (.mx false (.t 61) (kI 100000)),oV 4 62] [4]) (.ret)))))))
def JD:List RV:=[.t 4 false]
theorem k52:aW G.tab Tryz.f52 2 c52 JD=true:=by kernel_rfl
def c53:Cd:=.seq (.ops [oM 2 (.box 38 (.t 0)),oM 3 (.box 26 (.t 1)),oM 4 (.new 38 [.d (.lit (.int .i64 0)),.d (.lit (.int .i64 0)),.d (.lit (.string ⟨#[]⟩)),.nil])] [2,3,4]) (.seq (.ops [oM 11 (.load 4 true (.t 3)),
 oM 12 (.fa 2 (.t 2)),oM 13 (.load 1 false (.t 12)),oM 14 (.call 80 [.t 11,.t 13]),oV 10 14,oM 15 (.ext (.t 10) 0),oM 16 (.ext (.t 10) 1),oV 5 15,oV 6 16] [2,3,4,5]) (.seq (.seq (.ops [oM 17 (.fa 0 (.t 2)),
 oM 18 (.load 1 false (.t 17)),oM 19 (.bin .eql (.t 18) (kI 24))] [2,3,4,5,19]) (.cond (.t 19) (.seq (.ops [oM 20 (.fa 2 (.t 2)),oM 21 (.load 1 false (.t 20)),oV 22 5,oM 23 (.call 91 [.t 21,.t 22]),
 ⟨none,.sto 4 (.t 4) (.t 23),none⟩] [4]) (.ret)) (.skip))) (.seq (.ops [oM 24 (.fa 0 (.t 2)),oM 25 (.load 1 false (.t 24)),oM 26 (.fa 1 (.t 2)),oM 27 (.load 1 false (.t 26)),oM 28 (.fa 2 (.t 2)),
 oM 29 (.load 1 false (.t 28)),oM 30 (.bld [.d (.lit (.int .i64 0)),.d (.lit (.int .i64 0)),.d (.lit (.string ⟨#[]⟩)),.nil] [(0,1,.t 25),(1,1,.t 27),(2,1,.t 29)]),oM 7 (.new 38 [.d (.lit (.int .i64 0)),.d (.lit (.int .i64 0)),.d (.lit (.string ⟨#[]⟩)),.nil]),
 ⟨none,.sto 4 (.t 7) (.t 30),none⟩] [2,3,4,5,7]) (.seq (.seq (.ops [oM 8 (.mv (kI 0))] [2,3,4,5,7,8]) (.block 0 (.loop (.seq (.seq (.ops [oV 31 8,oM 32 (.fa 3 (.t 2)),oM 33 (.load 1 false (.t 32)),
 oM 34 (.len false (.t 33)),oM 35 (.bin .lss (.t 31) (.t 34))] [2,3,4,5,7,8,35]) (.cond (.t 35) (.skip) (.exit 0))) (.seq (.block 1 (.drawa [oM 38 (.fa 3 (.t 7)),oM 39 (.ldo (.t 38)),oM 40 (.fa 3 (.t 2)),
 oM 41 (.load 1 false (.t 40)),oV 42 8,oM 43 (.ia 4 (.t 41) (.t 42)),oM 44 (.load 4 true (.t 43)),oM 45 (.load 4 true (.t 3)),oM 46 (.call 53 [.t 44,.t 45]),oM 47 (.mks 38 4 [.t 46]),oM 48 (.app 38 4 56 39 (.t 47)),
 oM 49 (.fa 3 (.t 7)),⟨none,.stoo (.t 49) 48,none⟩] [2,3,4,5,7,8])) (.ops [oV 36 8,oM 37 (.bin .add (.t 36) (kI 1)),oV 8 37] [2,3,4,5,7,8])))))) (.seq (.seq (.ops [oM 50 (.fa 0 (.t 2)),
 oM 51 (.load 1 false (.t 50)),oM 52 (.bin .neq (.t 51) (kI 3))] [2,4,5,7,52]) (.cond (.t 52) (.seq (.ops [oM 53 (.load 4 true (.t 7)),⟨none,.sto 4 (.t 4) (.t 53),none⟩] [4]) (.ret)) (.skip))) (
 .seq (.ops [oM 54 (.fa 3 (.t 7)),oM 55 (.load 1 false (.t 54)),oM 56 (.ia 4 (.t 55) (kI 0)),oM 57 (.load 4 true (.t 56)),oM 9 (.new 38 [.d (.lit (.int .i64 0)),.d (.lit (.int .i64 0)),.d (.lit (.string ⟨#[]⟩)),.nil]),
 ⟨none,.sto 4 (.t 9) (.t 57),none⟩] [2,4,5,9]) (.seq (.seq (.ops [oM 58 (.fa 0 (.t 9)),oM 59 (.load 1 false (.t 58)),oM 60 (.bin .eql (.t 59) (kI 1)),oV 61 60,⟨some 62,.fa 1 (.t 9),(some (61,true))⟩,
 ⟨some 63,.load 1 false (.t 62),(some (61,true))⟩,⟨some 64,.mv (.t 5),(some (61,true))⟩,⟨some 65,.bin .lss (.t 63) (.t 64),(some (61,true))⟩,oM 66 (.pick (.t 61) (.t 65) kF)] [2,4,5,9,66]) (
 .cond (.t 66) (.seq (.ops [oM 67 (.fa 2 (.t 2)),oM 68 (.load 1 false (.t 67)),oM 69 (.fa 1 (.t 9)),oM 70 (.load 1 false (.t 69)),oM 71 (.call 92 [.t 68,.t 70]),⟨none,.sto 4 (.t 4) (.t 71),none⟩] [4]) (
 .ret)) (.skip))) (.seq (.seq (.ops [oM 72 (.fa 0 (.t 9)),oM 73 (.load 1 false (.t 72)),oM 74 (.bin .eql (.t 73) (kI 1))] [2,4,5,9,74]) (.cond (.t 74) (.seq (.ops [oM 75 (.call 82 [.k (.d (.lit (.int .i64 0)))]),
 ⟨none,.sto 4 (.t 4) (.t 75),none⟩] [4]) (.ret)) (.skip))) (.seq (.ops [oM 76 (.fa 2 (.t 2)),oM 77 (.load 1 false (.t 76)),oV 78 5,oM 79 (.load 4 true (.t 9)),oM 80 (.call 93 [.t 77,.t 78,.t 79,.k (.d (.lit (.int .i64 0)))]),
 ⟨none,.sto 4 (.t 4) (.t 80),none⟩] [4]) (.ret))))))))))
def uT:List RV:=[.c 4 4 true]
theorem k53:aW G.tab Tryz.f53 2 c53 uT=true:=by kernel_rfl
def c61:Cd:=.seq (.ops [oM 4 (.mv (.k (.nil)))] [0,1]) (.seq (.ops [oM 5 (.nilo 9 1)] [0,1,5]) (.seq (.seq (.ops [oM 6 (.mv (kI 0))] [0,1,5,6]) (.block 0 (.loop (.seq (.seq (.ops [oV 7 6,oV 8 0,
 oM 9 (.len false (.t 8)),oM 10 (.bin .lss (.t 7) (.t 9))] [0,1,5,6,10]) (.cond (.t 10) (.skip) (.exit 0))) (.seq (.block 1 (.seq (.ops [oM 13 (.mvo 5),oV 14 0,oV 15 6,oM 16 (.ia 12 (.t 14) (.t 15)),
 oM 17 (.load 12 true (.t 16)),oV 18 1,oM 19 (.call 101 [.t 17,.t 18]),oM 20 (.app 9 1 16 13 (.t 19)),oM 5 (.mvo 20)] [0,1,5,6]) (.seq (.drawb 5 21 34 9 1 16 (.t 33) [oV 22 0,oV 23 6,oM 24 (.ia 12 (.t 22) (.t 23)),
 oM 25 (.fa 8 (.t 24)),oM 26 (.load 1 false (.t 25)),oV 27 0,oV 28 6,oM 29 (.ia 12 (.t 27) (.t 28)),oM 30 (.load 12 true (.t 29)),oV 31 1,oM 32 (.call 72 [.t 30,.t 31]),oM 33 (.call 61 [.t 26,.t 32])] [0,1,5,6]) (
 .ops [oM 35 (.mvo 5),oV 36 0,oV 37 6,oM 38 (.ia 12 (.t 36) (.t 37)),oM 39 (.fa 9 (.t 38)),oM 40 (.load 1 false (.t 39)),oV 41 1,oM 42 (.call 61 [.t 40,.t 41]),oM 43 (.app 9 1 16 35 (.t 42)),
 oM 5 (.mvo 43)] [0,1,5,6])))) (.ops [oV 11 6,oM 12 (.bin .add (.t 11) (kI 1)),oV 6 12] [0,1,5,6])))))) (.seq (.ops [oV 44 5,oV 4 44] [4]) (.ret))))
def Ff:List RV:=[.t 4 false]
theorem k61:aW G.tab Tryz.f61 2 c61 Ff=true:=by kernel_rfl
def c62:Cd:=.seq (.ops [oM 4 (.mv kF)] [0,1]) (.seq (.seq (.ops [oM 5 (.mv (kI 0))] [0,1,5]) (.block 0 (.loop (.seq (.seq (.ops [oV 6 5,oV 7 0,oM 8 (.len false (.t 7)),oM 9 (.bin .lss (.t 6) (.t 8))] [0,1,5,9]) (
 .cond (.t 9) (.skip) (.exit 0))) (.seq (.block 1 (.seq (.ops [oV 12 0,oV 13 5,oM 14 (.ia 1 (.t 12) (.t 13)),oM 15 (.load 1 false (.t 14)),oV 16 1,oM 17 (.bin .eql (.t 15) (.t 16))] [0,1,5,17]) (
 .cond (.t 17) (.seq (.ops [oM 4 (.mv kT)] [4]) (.ret)) (.skip)))) (.ops [oV 10 5,oM 11 (.bin .add (.t 10) (kI 1)),oV 5 11] [0,1,5])))))) (.seq (.ops [oM 4 (.mv kF)] [4]) (.ret)))
def H7:List RV:=[.t 4 false]
theorem k62:aW G.tab Tryz.f62 2 c62 H7=true:=by kernel_rfl
def c64:Cd:=.seq (.ops [oM 4 (.mv (kI 0))] [0,1]) (.seq (.seq (.ops [oM 5 (.mv (kI 0))] [0,1,5]) (.block 0 (.loop (.seq (.seq (.ops [oV 9 5,oV 10 0,oM 11 (.len false (.t 10)),oM 12 (.bin .lss (.t 9) (.t 11))] [0,1,5,12]) (
 .cond (.t 12) (.skip) (.exit 0))) (.seq (.block 1 (.seq (.seq (.ops [oV 15 0,oV 16 5,oM 17 (.ia 12 (.t 15) (.t 16)),oM 18 (.load 12 true (.t 17)),oV 19 1,oM 20 (.call 107 [.t 18,.t 19]),oV 6 20] [0,1,5,6]) (
 .seq (.ops [oV 21 6,oM 22 (.bin .neq (.t 21) (kI 0))] [0,1,5,6,22]) (.cond (.t 22) (.seq (.ops [oV 23 6,oV 4 23] [4]) (.ret)) (.skip)))) (.seq (.seq (.ops [oV 24 0,oV 25 5,oM 26 (.ia 12 (.t 24) (.t 25)),
 oM 27 (.fa 8 (.t 26)),oM 28 (.load 1 false (.t 27)),oV 29 1,oM 30 (.bin .add (.t 29) (kI 1)),oM 31 (.call 64 [.t 28,.t 30]),oV 7 31] [0,1,5,7]) (.seq (.ops [oV 32 7,oM 33 (.bin .neq (.t 32) (kI 0))] [0,1,5,7,33]) (
 .cond (.t 33) (.seq (.ops [oV 34 7,oV 4 34] [4]) (.ret)) (.skip)))) (.seq (.ops [oV 35 0,oV 36 5,oM 37 (.ia 12 (.t 35) (.t 36)),oM 38 (.fa 9 (.t 37)),oM 39 (.load 1 false (.t 38)),oV 40 1,oM 41 (.bin .add (.t 40) (kI 1)),
 oM 42 (.call 64 [.t 39,.t 41]),oV 8 42] [0,1,5,8]) (.seq (.ops [oV 43 8,oM 44 (.bin .neq (.t 43) (kI 0))] [0,1,5,8,44]) (.cond (.t 44) (.seq (.ops [oV 45 8,oV 4 45] [4]) (.ret)) (.skip))))))) (
 .ops [oV 13 5,oM 14 (.bin .add (.t 13) (kI 1)),oV 5 14] [0,1,5])))))) (.seq (.ops [oM 4 (.mv (kI 0))] [4]) (.ret)))
def HT:List RV:=[.t 4 false]
theorem k64:aW G.tab Tryz.f64 2 c64 HT=true:=by kernel_rfl
def c71:Cd:=.seq (.ops [oM 3 (.box 51 (.t 0)),oM 4 (.box 26 (.t 1)),oM 6 (.mv (kI 0))] [2,3,4]) (.seq (.seq (.ops [oM 10 (.fa 0 (.t 3)),oM 11 (.load 1 false (.t 10))] [2,3,4,11]) (.block 0 (
 .seq (.ops [oM 13 (.bin .eql (.t 11) (kI 3)),oV 12 13] [2,3,4,11,12]) (.cond (.t 12) (.seq (.seq (.ops [oM 14 (.load 4 true (.t 4)),oM 15 (.fa 5 (.t 3)),oM 16 (.load 1 false (.t 15)),oM 17 (.mks 9 1 [.t 16]),
 oM 18 (.call 111 [.t 14,.t 17]),oM 19 (.un .not (.t 18))] [19]) (.cond (.t 19) (.seq (.ops [oM 6 (.mv (kI 7))] [6]) (.ret)) (.skip))) (.seq (.ops [oM 6 (.mv (kI 0))] [6]) (.ret))) (.seq (.ops [oM 21 (.bin .eql (.t 11) (kI 6)),
 oV 20 21] [2,3,4,11,20]) (.cond (.t 20) (.seq (.seq (.ops [oM 22 (.load 4 true (.t 4)),oM 23 (.fa 10 (.t 3)),oM 24 (.load 1 false (.t 23)),oM 25 (.call 111 [.t 22,.t 24]),oM 26 (.un .not (.t 25)),
 oV 27 26,⟨some 28,.load 4 true (.t 4),(some (27,false))⟩,⟨some 29,.fa 11 (.t 3),(some (27,false))⟩,⟨some 30,.load 1 false (.t 29),(some (27,false))⟩,⟨some 31,.call 111 [.t 28,.t 30],(some (27,false))⟩,
 ⟨some 32,.un .not (.t 31),(some (27,false))⟩,oM 33 (.pick (.t 27) kT (.t 32))] [33]) (.cond (.t 33) (.seq (.ops [oM 6 (.mv (kI 7))] [6]) (.ret)) (.skip))) (.seq (.ops [oM 6 (.mv (kI 0))] [6]) (.ret))) (
 .seq (.ops [oM 35 (.bin .eql (.t 11) (kI 5)),oV 34 35] [2,3,4,34]) (.cond (.t 34) (.seq (.seq (.ops [oM 36 (.load 4 true (.t 4)),oM 37 (.fa 5 (.t 3)),oM 38 (.load 1 false (.t 37)),oM 39 (.call 90 [.t 36,.t 38]),
 oV 7 39] [2,3,4,7]) (.seq (.ops [oV 40 7,oM 41 (.bin .neq (.t 40) (kI 0))] [2,3,4,7,41]) (.cond (.t 41) (.seq (.ops [oV 42 7,oV 6 42] [6]) (.ret)) (.skip)))) (.seq (.seq (.ops [oM 44 (.load 4 true (.t 4)),
 oM 45 (.fa 6 (.t 3)),oM 46 (.load 1 false (.t 45)),oM 47 (.call 80 [.t 44,.t 46]),oV 43 47,oM 48 (.ext (.t 43) 0),oM 49 (.ext (.t 43) 1),oV 8 48,oV 9 49] [2,3,9]) (.seq (.ops [oV 50 9,oV 51 50,
 ⟨some 52,.mv (.t 2),(some (51,false))⟩,⟨some 53,.fa 6 (.t 3),(some (51,false))⟩,⟨some 54,.load 1 false (.t 53),(some (51,false))⟩,⟨some 55,.call 62 [.t 52,.t 54],(some (51,false))⟩,oM 56 (.pick (.t 51) kT (.t 55))] [56]) (
 .cond (.t 56) (.seq (.ops [oM 6 (.mv (kI 8))] [6]) (.ret)) (.skip)))) (.seq (.ops [oM 6 (.mv (kI 0))] [6]) (.ret)))) (.skip))))))))) (.seq (.ops [oM 57 (.fa 1 (.t 3)),oM 58 (.load 4 true (.t 57)),oM 59 (.load 4 true (.t 4)),
 oV 60 2,oM 61 (.call 51 [.t 58,.t 59,.t 60]),oV 6 61] [6]) (.ret)))
def I8:List RV:=[.t 6 false]
theorem k71:aW G.tab Tryz.f71 3 c71 I8=true:=by kernel_rfl
def c72:Cd:=.seq (.ops [oM 2 (.box 51 (.t 0)),oM 4 (.mv (.k (.nil)))] [1,2]) (.seq (.ops [oM 6 (.mkso 9 1 []),oV 7 1,oM 8 (.app 9 1 16 6 (.t 7)),oM 5 (.mvo 8)] [2,5]) (.seq (.seq (.ops [oM 9 (.fa 0 (.t 2)),
 oM 10 (.load 1 false (.t 9)),oM 11 (.bin .eql (.t 10) (kI 5))] [2,5,11]) (.cond (.t 11) (.ops [oM 12 (.mvo 5),oM 13 (.fa 6 (.t 2)),oM 14 (.load 1 false (.t 13)),oM 15 (.mks 9 1 [.t 14]),oM 16 (.app 9 1 16 12 (.t 15)),
 oM 5 (.mvo 16)] [5]) (.skip))) (.seq (.ops [oV 17 5,oV 4 17] [4]) (.ret))))
def Em:List RV:=[.t 4 false]
theorem k72:aW G.tab Tryz.f72 2 c72 Em=true:=by kernel_rfl
def c80:Cd:=.seq (.ops [oM 2 (.box 26 (.t 0)),oM 4 (.mv (kI 0)),oM 5 (.mv kF)] [1,2]) (.seq (.seq (.ops [oM 6 (.mv (kI 0))] [1,2,6]) (.block 0 (.loop (.seq (.seq (.ops [oV 7 6,oM 8 (.fa 2 (.t 2)),
 oM 9 (.load 1 false (.t 8)),oM 10 (.len false (.t 9)),oM 11 (.bin .lss (.t 7) (.t 10))] [1,2,6,11]) (.cond (.t 11) (.skip) (.exit 0))) (.seq (.block 1 (.seq (.ops [oM 14 (.fa 2 (.t 2)),oM 15 (.load 1 false (.t 14)),
 oV 16 6,oM 17 (.ia 5 (.t 15) (.t 16)),oM 18 (.fa 0 (.t 17)),oM 19 (.load 1 false (.t 18)),oV 20 1,oM 21 (.bin .eql (.t 19) (.t 20))] [1,2,6,21]) (.cond (.t 21) (.seq (.ops [oM 22 (.fa 2 (.t 2)),
 oM 23 (.load 1 false (.t 22)),oV 24 6,oM 25 (.ia 5 (.t 23) (.t 24)),oM 26 (.fa 2 (.t 25)),oM 27 (.load 1 false (.t 26)),oV 4 27,oM 5 (.mv kT)] [4,5]) (.ret)) (.skip)))) (.ops [oV 12 6,oM 13 (.bin .add (.t 12) (kI 1)),
 oV 6 13] [1,2,6])))))) (.seq (.ops [oM 4 (.mv (kI 0)),oM 5 (.mv kF)] [4,5]) (.ret)))
def HM:List RV:=[.t 4 false,.t 5 false]
theorem k80:aW G.tab Tryz.f80 2 c80 HM=true:=by kernel_rfl
def c82:Cd:=.seq (.ops [oM 2 (.new 38 [.d (.lit (.int .i64 0)),.d (.lit (.int .i64 0)),.d (.lit (.string ⟨#[]⟩)),.nil])] [0,2]) (.seq (.ops [oV 3 0,oM 4 (.bld [.d (.lit (.int .i64 0)),.d (.lit (.int .i64 0)),.d (.lit (.string ⟨#[]⟩)),.nil] [(0,1,.k (.d (.lit (.int .i64 1)))),(1,1,.t 3)]),
 ⟨none,.sto 4 (.t 2) (.t 4),none⟩] [2]) (.ret))
def Fx:List RV:=[.c 2 4 true]
theorem k82:aW G.tab Tryz.f82 1 c82 Fx=true:=by kernel_rfl
def c89:Cd:=.seq (.ops [oM 2 (.box 26 (.t 0)),oM 4 (.mv (kI 0))] [1,2]) (.seq (.seq (.ops [oM 13 (.load 4 true (.t 2)),oV 14 1,oM 15 (.call 80 [.t 13,.t 14]),oV 12 15,oM 16 (.ext (.t 12) 0),
 oM 17 (.ext (.t 12) 1),oV 5 16,oV 6 17] [1,2,5,6]) (.seq (.ops [oV 18 6] [1,2,5,18]) (.cond (.t 18) (.seq (.seq (.ops [oV 19 5,oM 20 (.bin .gtr (.t 19) (kI 0))] [20]) (.cond (.t 20) (.seq (
 .ops [oM 4 (.mv (kI 9))] [4]) (.ret)) (.skip))) (.seq (.ops [oM 4 (.mv (kI 0))] [4]) (.ret))) (.skip)))) (.seq (.ops [oV 22 1,oM 23 (.call 125 [.t 22]),oV 21 23,oM 24 (.ext (.t 21) 0),oM 25 (.ext (.t 21) 1),
 oM 26 (.ext (.t 21) 2),oV 7 24,oV 8 25,oV 9 26] [2,7,8,9]) (.seq (.ops [oM 28 (.load 4 true (.t 2)),oV 29 7,oM 30 (.call 80 [.t 28,.t 29]),oV 27 30,oM 31 (.ext (.t 27) 0),oM 32 (.ext (.t 27) 1),
 oV 10 31,oV 11 32] [8,9,10,11]) (.seq (.seq (.ops [oV 33 9,oM 34 (.un .not (.t 33)),oV 35 34,⟨some 36,.mv (.t 11),(some (35,false))⟩,⟨some 37,.un .not (.t 36),(some (35,false))⟩,oM 38 (.pick (.t 35) kT (.t 37))] [8,10,38]) (
 .cond (.t 38) (.seq (.ops [oM 4 (.mv (kI 7))] [4]) (.ret)) (.skip))) (.seq (.seq (.ops [oV 39 10,oM 40 (.bin .lss (.t 39) (kI 1))] [8,10,40]) (.cond (.t 40) (.seq (.ops [oM 4 (.mv (kI 9))] [4]) (
 .ret)) (.skip))) (.seq (.seq (.ops [oV 41 8,oV 42 10,oM 43 (.bin .geq (.t 41) (.t 42))] [43]) (.cond (.t 43) (.seq (.ops [oM 4 (.mv (kI 7))] [4]) (.ret)) (.skip))) (.seq (.ops [oM 4 (.mv (kI 0))] [4]) (
 .ret))))))))
def I4:List RV:=[.t 4 false]
theorem k89:aW G.tab Tryz.f89 2 c89 I4=true:=by kernel_rfl
def c90:Cd:=.seq (.ops [oM 2 (.box 26 (.t 0)),oM 4 (.mv (kI 0))] [1,2]) (.seq (.ops [oM 8 (.load 4 true (.t 2)),oV 9 1,oM 10 (.call 80 [.t 8,.t 9]),oV 7 10,oM 11 (.ext (.t 7) 0),oM 12 (.ext (.t 7) 1),
 oV 5 11,oV 6 12] [5,6]) (.seq (.seq (.ops [oV 13 6,oM 14 (.un .not (.t 13))] [5,14]) (.cond (.t 14) (.seq (.ops [oM 4 (.mv (kI 7))] [4]) (.ret)) (.skip))) (.seq (.seq (.ops [oV 15 5,oM 16 (.bin .lss (.t 15) (kI 1))] [16]) (
 .cond (.t 16) (.seq (.ops [oM 4 (.mv (kI 9))] [4]) (.ret)) (.skip))) (.seq (.ops [oM 4 (.mv (kI 0))] [4]) (.ret)))))
def H6:List RV:=[.t 4 false]
theorem k90:aW G.tab Tryz.f90 2 c90 H6=true:=by kernel_rfl
def c91:Cd:=.seq (.ops [oM 4 (.new 38 [.d (.lit (.int .i64 0)),.d (.lit (.int .i64 0)),.d (.lit (.string ⟨#[]⟩)),.nil])] [0,1,4]) (.seq (.seq (.ops [oV 5 1,oM 6 (.bin .eql (.t 5) (kI 1))] [0,1,4,6]) (
 .cond (.t 6) (.seq (.ops [oV 7 0,oM 8 (.call 92 [.t 7,.k (.d (.lit (.int .i64 0)))]),⟨none,.sto 4 (.t 4) (.t 8),none⟩] [4]) (.ret)) (.skip))) (.seq (.ops [oV 9 0,oV 10 1,oM 11 (.bin .sub (.t 10) (kI 1)),
 oM 12 (.call 91 [.t 9,.t 11]),oV 13 0,oV 14 1,oM 15 (.bin .sub (.t 14) (kI 1)),oM 16 (.call 92 [.t 13,.t 15]),oM 17 (.call 121 [.k (.d (.lit (.int .i64 7))),.t 12,.t 16]),⟨none,.sto 4 (.t 4) (.t 17),none⟩] [4]) (
 .ret)))
def C7:List RV:=[.c 4 4 true]
theorem k91:aW G.tab Tryz.f91 2 c91 C7=true:=by kernel_rfl
def c92:Cd:=.seq (.ops [oM 4 (.new 38 [.d (.lit (.int .i64 0)),.d (.lit (.int .i64 0)),.d (.lit (.string ⟨#[]⟩)),.nil])] [0,1,4]) (.seq (.ops [oV 5 0,oV 6 1,oM 7 (.call 55 [.t 5,.t 6]),oM 8 (.bld [.d (.lit (.int .i64 0)),.d (.lit (.int .i64 0)),.d (.lit (.string ⟨#[]⟩)),.nil] [(0,1,.k (.d (.lit (.int .i64 2)))),(2,1,.t 7)]),
 ⟨none,.sto 4 (.t 4) (.t 8),none⟩] [4]) (.ret))
def Gk:List RV:=[.c 4 4 true]
theorem k92:aW G.tab Tryz.f92 2 c92 Gk=true:=by kernel_rfl
def c93:Cd:=.seq (.ops [oM 6 (.box 38 (.t 2)),oM 8 (.new 38 [.d (.lit (.int .i64 0)),.d (.lit (.int .i64 0)),.d (.lit (.string ⟨#[]⟩)),.nil])] [0,1,3,6,8]) (.seq (.seq (.ops [oV 9 3,oV 10 1,
 oM 11 (.bin .eql (.t 9) (.t 10))] [0,1,3,6,8,11]) (.cond (.t 11) (.seq (.ops [oM 12 (.call 82 [.k (.d (.lit (.int .i64 0)))]),⟨none,.sto 4 (.t 8) (.t 12),none⟩] [8]) (.ret)) (.skip))) (.seq (
 .draws [oM 13 (.load 4 true (.t 6)),oV 14 3,oM 15 (.call 82 [.t 14]),oM 16 (.call 121 [.k (.d (.lit (.int .i64 15))),.t 13,.t 15]),oV 17 0,oV 18 3,oM 19 (.call 92 [.t 17,.t 18]),oV 20 0,oV 21 1,
 oM 22 (.load 4 true (.t 6)),oV 23 3,oM 24 (.bin .add (.t 23) (kI 1)),oM 25 (.call 93 [.t 20,.t 21,.t 22,.t 24]),oM 26 (.mks 38 4 [.t 16,.t 19,.t 25]),oM 27 (.bld [.d (.lit (.int .i64 0)),.d (.lit (.int .i64 0)),.d (.lit (.string ⟨#[]⟩)),.nil] [(0,1,.k (.d (.lit (.int .i64 22)))),(3,1,.t 26)]),
 ⟨none,.sto 4 (.t 8) (.t 27),none⟩] [8]) (.ret)))
def En:List RV:=[.c 8 4 true]
theorem k93:aW G.tab Tryz.f93 4 c93 En=true:=by kernel_rfl
def GX:Cd:=.seq (.ops [oM 2 (.box 51 (.t 0)),oM 4 (.mv (.k (.nil)))] [1,2]) (.seq (.ops [oM 5 (.nilo 9 1)] [1,2,5]) (.seq (.seq (.ops [oM 8 (.fa 0 (.t 2)),oM 9 (.load 1 false (.t 8))] [1,2,5,9]) (
 .block 0 (.seq (.seq (.ops [oM 11 (.bin .eql (.t 9) (kI 3)),oV 10 11] [1,2,5,9,10]) (.cond (.t 10) (.skip) (.ops [oM 12 (.bin .eql (.t 9) (kI 5)),oV 10 12] [1,2,5,9,10]))) (.cond (.t 10) (
 .seq (.ops [oM 13 (.fa 5 (.t 2)),oM 14 (.load 1 false (.t 13)),oM 15 (.mks 9 1 [.t 14]),oV 4 15] [4]) (.ret)) (.seq (.ops [oM 17 (.bin .eql (.t 9) (kI 6)),oV 16 17] [1,2,5,16]) (.cond (.t 16) (
 .seq (.ops [oM 18 (.mvo 5),oM 19 (.fa 10 (.t 2)),oM 20 (.load 1 false (.t 19)),oM 21 (.app 9 1 16 18 (.t 20)),oM 5 (.mvo 21)] [2,5]) (.seq (.ops [oM 22 (.mvo 5),oM 23 (.fa 11 (.t 2)),oM 24 (.load 1 false (.t 23)),
 oM 25 (.app 9 1 16 22 (.t 24)),oM 5 (.mvo 25)] [5]) (.seq (.ops [oV 26 5,oV 4 26] [4]) (.ret)))) (.skip))))))) (.seq (.seq (.ops [oM 27 (.fa 0 (.t 2)),oM 28 (.load 1 false (.t 27)),oM 29 (.call 43 [.t 28]),
 oM 30 (.un .not (.t 29))] [1,2,5,30]) (.cond (.t 30) (.seq (.ops [oM 4 (.mv (.k (.nil)))] [4]) (.ret)) (.skip))) (.seq (.ops [oM 31 (.fa 1 (.t 2)),oM 32 (.load 4 true (.t 31)),oM 33 (.call 88 [.t 32]),
 oV 6 33] [1,5,6]) (.seq (.seq (.ops [oM 7 (.mv (kI 0))] [1,5,6,7]) (.block 1 (.loop (.seq (.seq (.ops [oV 34 7,oV 35 6,oM 36 (.len false (.t 35)),oM 37 (.bin .lss (.t 34) (.t 36))] [1,5,6,7,37]) (
 .cond (.t 37) (.skip) (.exit 1))) (.seq (.block 2 (.seq (.ops [oV 40 6,oV 41 7,oM 42 (.ia 4 (.t 40) (.t 41)),oM 43 (.fa 0 (.t 42)),oM 44 (.load 1 false (.t 43)),oM 45 (.bin .eql (.t 44) (kI 2)),
 oV 46 45,⟨some 47,.mv (.t 1),(some (46,true))⟩,⟨some 48,.mv (.t 6),(some (46,true))⟩,⟨some 49,.mv (.t 7),(some (46,true))⟩,⟨some 50,.ia 4 (.t 48) (.t 49),(some (46,true))⟩,⟨some 51,.fa 2 (.t 50),(some (46,true))⟩,
 ⟨some 52,.load 1 false (.t 51),(some (46,true))⟩,⟨some 53,.call 62 [.t 47,.t 52],(some (46,true))⟩,⟨some 54,.un .not (.t 53),(some (46,true))⟩,oM 55 (.pick (.t 46) (.t 54) kF),oV 56 55,
 ⟨some 57,.mv (.t 6),(some (56,false))⟩,⟨some 58,.mv (.t 7),(some (56,false))⟩,⟨some 59,.ia 4 (.t 57) (.t 58),(some (56,false))⟩,⟨some 60,.fa 0 (.t 59),(some (56,false))⟩,⟨some 61,.load 1 false (.t 60),(some (56,false))⟩,
 ⟨some 62,.bin .eql (.t 61) (kI 3),(some (56,false))⟩,oM 63 (.pick (.t 56) kT (.t 62)),oV 64 63,⟨some 65,.mv (.t 6),(some (64,false))⟩,⟨some 66,.mv (.t 7),(some (64,false))⟩,⟨some 67,.ia 4 (.t 65) (.t 66),(some (64,false))⟩,
 ⟨some 68,.fa 0 (.t 67),(some (64,false))⟩,⟨some 69,.load 1 false (.t 68),(some (64,false))⟩,⟨some 70,.bin .eql (.t 69) (kI 24),(some (64,false))⟩,oM 71 (.pick (.t 64) kT (.t 70))] [1,5,6,7,71]) (
 .cond (.t 71) (.ops [oM 72 (.mvo 5),oV 73 6,oV 74 7,oM 75 (.ia 4 (.t 73) (.t 74)),oM 76 (.fa 2 (.t 75)),oM 77 (.load 1 false (.t 76)),oM 78 (.mks 9 1 [.t 77]),oM 79 (.app 9 1 16 72 (.t 78)),oM 5 (.mvo 79)] [1,5,6,7]) (
 .skip)))) (.ops [oV 38 7,oM 39 (.bin .add (.t 38) (kI 1)),oV 7 39] [1,5,6,7])))))) (.seq (.ops [oV 80 5,oV 4 80] [4]) (.ret)))))))
def rk:List RV:=[.t 4 false]
theorem IQ:aW G.tab Tryz.f101 2 GX rk=true:=by kernel_rfl
def FS:Cd:=.seq (.ops [oM 2 (.box 51 (.t 0)),oM 4 (.mv (kI 0))] [1,2]) (.seq (.seq (.ops [oM 5 (.fa 0 (.t 2)),oM 6 (.load 1 false (.t 5)),oM 7 (.bin .lss (.t 6) (kI 1)),oV 8 7,⟨some 9,.fa 0 (.t 2),(some (8,false))⟩,
 ⟨some 10,.load 1 false (.t 9),(some (8,false))⟩,⟨some 11,.bin .gtr (.t 10) (kI 6),(some (8,false))⟩,oM 12 (.pick (.t 8) kT (.t 11)),oV 13 12,⟨some 14,.load 12 true (.t 2),(some (13,false))⟩,
 ⟨some 15,.call 138 [.t 14],(some (13,false))⟩,⟨some 16,.un .not (.t 15),(some (13,false))⟩,oM 17 (.pick (.t 13) kT (.t 16)),oV 18 17,⟨some 19,.mv (.t 1),(some (18,false))⟩,⟨some 20,.bin .gtr (.t 19) (kI 4),(some (18,false))⟩,
 oM 21 (.pick (.t 18) kT (.t 20)),oV 22 21,⟨some 23,.mv (.t 1),(some (22,false))⟩,⟨some 24,.bin .gtr (.t 23) (kI 0),(some (22,false))⟩,⟨some 25,.mv (.t 24),(some (22,false))⟩,⟨some 26,.fa 0 (.t 2),(some (25,true))⟩,
 ⟨some 27,.load 1 false (.t 26),(some (25,true))⟩,⟨some 28,.bin .eql (.t 27) (kI 3),(some (25,true))⟩,⟨some 29,.mv (.t 28),(some (25,true))⟩,⟨some 30,.fa 0 (.t 2),(some (29,false))⟩,⟨some 31,.load 1 false (.t 30),(some (29,false))⟩,
 ⟨some 32,.bin .eql (.t 31) (kI 6),(some (29,false))⟩,⟨some 33,.pick (.t 29) kT (.t 32),(some (25,true))⟩,⟨some 34,.pick (.t 25) (.t 33) kF,(some (22,false))⟩,oM 35 (.pick (.t 22) kT (.t 34))] [2,35]) (
 .cond (.t 35) (.seq (.ops [oM 4 (.mv (kI 1))] [4]) (.ret)) (.skip))) (.seq (.seq (.ops [oM 36 (.fa 0 (.t 2)),oM 37 (.load 1 false (.t 36))] [2,37]) (.block 0 (.seq (.ops [oM 39 (.bin .eql (.t 37) (kI 3)),
 oV 38 39] [2,37,38]) (.cond (.t 38) (.seq (.ops [oM 40 (.load 12 true (.t 2)),oM 41 (.call 139 [.t 40]),oV 4 41] [4]) (.ret)) (.seq (.ops [oM 43 (.bin .eql (.t 37) (kI 6)),oV 42 43] [2,37,42]) (
 .cond (.t 42) (.seq (.seq (.ops [oM 44 (.fa 10 (.t 2)),oM 45 (.load 1 false (.t 44)),oM 46 (.len false (.t 45)),oM 47 (.bin .eql (.t 46) (kI 0)),oV 48 47,⟨some 49,.fa 11 (.t 2),(some (48,false))⟩,
 ⟨some 50,.load 1 false (.t 49),(some (48,false))⟩,⟨some 51,.len false (.t 50),(some (48,false))⟩,⟨some 52,.bin .eql (.t 51) (kI 0),(some (48,false))⟩,oM 53 (.pick (.t 48) kT (.t 52))] [2,53]) (
 .cond (.t 53) (.seq (.ops [oM 4 (.mv (kI 1))] [4]) (.ret)) (.skip))) (.seq (.seq (.ops [oM 54 (.fa 10 (.t 2)),oM 55 (.load 1 false (.t 54)),oM 56 (.call 140 [.t 55]),oM 57 (.un .not (.t 56)),oV 58 57,
 ⟨some 59,.fa 11 (.t 2),(some (58,false))⟩,⟨some 60,.load 1 false (.t 59),(some (58,false))⟩,⟨some 61,.call 140 [.t 60],(some (58,false))⟩,⟨some 62,.un .not (.t 61),(some (58,false))⟩,
 oM 63 (.pick (.t 58) kT (.t 62))] [63]) (.cond (.t 63) (.seq (.ops [oM 4 (.mv (kI 7))] [4]) (.ret)) (.skip))) (.seq (.ops [oM 4 (.mv (kI 0))] [4]) (.ret)))) (.seq (.ops [oM 65 (.bin .eql (.t 37) (kI 5)),
 oV 64 65] [2,64]) (.cond (.t 64) (.seq (.seq (.ops [oM 66 (.fa 5 (.t 2)),oM 67 (.load 1 false (.t 66)),oM 68 (.call 34 [.t 67]),oM 69 (.un .not (.t 68)),oV 70 69,⟨some 71,.fa 6 (.t 2),(some (70,false))⟩,
 ⟨some 72,.load 1 false (.t 71),(some (70,false))⟩,⟨some 73,.call 34 [.t 72],(some (70,false))⟩,⟨some 74,.un .not (.t 73),(some (70,false))⟩,oM 75 (.pick (.t 70) kT (.t 74))] [75]) (.cond (.t 75) (
 .seq (.ops [oM 4 (.mv (kI 7))] [4]) (.ret)) (.skip))) (.seq (.ops [oM 4 (.mv (kI 0))] [4]) (.ret))) (.skip))))))))) (.seq (.ops [oM 76 (.fa 1 (.t 2)),oM 77 (.load 4 true (.t 76)),oM 78 (.call 44 [.t 77]),
 oV 4 78] [4]) (.ret))))
def Hb:List RV:=[.t 4 false]
theorem H1:aW G.tab Tryz.f107 2 FS Hb=true:=by kernel_rfl
def FQ:Cd:=.seq (.ops [oM 2 (.box 26 (.t 0)),oM 4 (.mv kF)] [1,2]) (.seq (.seq (.ops [oM 5 (.mv (kI 0))] [1,2,5]) (.block 0 (.loop (.seq (.seq (.ops [oV 6 5,oV 7 1,oM 8 (.len false (.t 7)),
 oM 9 (.bin .lss (.t 6) (.t 8))] [1,2,5,9]) (.cond (.t 9) (.skip) (.exit 0))) (.seq (.block 1 (.seq (.draw [oM 12 (.load 4 true (.t 2)),oV 13 1,oV 14 5,oM 15 (.ia 1 (.t 13) (.t 14)),oM 16 (.load 1 false (.t 15)),
 oM 17 (.call 89 [.t 12,.t 16]),oM 18 (.bin .neq (.t 17) (kI 0)),oV 19 18,⟨some 20,.load 4 true (.t 2),(some (19,true))⟩,⟨some 21,.mv (.t 1),(some (19,true))⟩,⟨some 22,.mv (.t 5),(some (19,true))⟩,
 ⟨some 23,.ia 1 (.t 21) (.t 22),(some (19,true))⟩,⟨some 24,.load 1 false (.t 23),(some (19,true))⟩,⟨some 25,.call 90 [.t 20,.t 24],(some (19,true))⟩,⟨some 26,.bin .neq (.t 25) (kI 0),(some (19,true))⟩,
 oM 27 (.pick (.t 19) (.t 26) kF)] [1,2,5,27]) (.cond (.t 27) (.seq (.ops [oM 4 (.mv kF)] [4]) (.ret)) (.skip)))) (.ops [oV 10 5,oM 11 (.bin .add (.t 10) (kI 1)),oV 5 11] [1,2,5])))))) (.seq (
 .ops [oM 4 (.mv kT)] [4]) (.ret)))
def Gg:List RV:=[.t 4 false]
theorem IV:aW G.tab Tryz.f111 2 FQ Gg=true:=by kernel_rfl
def F2:Cd:=.seq (.ops [oM 4 (.box 38 (.t 1)),oM 5 (.box 38 (.t 2)),oM 6 (.new 38 [.d (.lit (.int .i64 0)),.d (.lit (.int .i64 0)),.d (.lit (.string ⟨#[]⟩)),.nil])] [0,4,5,6]) (.seq (.ops [
 oV 7 0,oM 8 (.load 4 true (.t 4)),oM 9 (.load 4 true (.t 5)),oM 10 (.mks 38 4 [.t 8,.t 9]),oM 11 (.bld [.d (.lit (.int .i64 0)),.d (.lit (.int .i64 0)),.d (.lit (.string ⟨#[]⟩)),.nil] [(0,1,.t 7),(3,1,.t 10)]),
 ⟨none,.sto 4 (.t 6) (.t 11),none⟩] [6]) (.ret))
def CM:List RV:=[.c 6 4 true]
theorem Hz:aW G.tab Tryz.f121 3 F2 CM=true:=by kernel_rfl
def Ga:Cd:=.seq (.ops [oM 1 (.box 51 (.t 0)),oM 2 (.mv kF)] [1]) (.seq (.seq (.ops [oM 3 (.fa 0 (.t 1)),oM 4 (.load 1 false (.t 3)),oM 5 (.call 43 [.t 4]),oM 6 (.un .not (.t 5)),oV 7 6,⟨some 8,.fa 1 (.t 1),(some (7,true))⟩,
 ⟨some 9,.load 4 true (.t 8),(some (7,true))⟩,⟨some 10,.bld [.d (.lit (.int .i64 0)),.d (.lit (.int .i64 0)),.d (.lit (.string ⟨#[]⟩)),.nil] [],(some (7,true))⟩,⟨some 11,.call 20 [.t 9,.t 10],(some (7,true))⟩,
 ⟨some 12,.un .not (.t 11),(some (7,true))⟩,oM 13 (.pick (.t 7) (.t 12) kF),oV 14 13,⟨some 15,.fa 0 (.t 1),(some (14,false))⟩,⟨some 16,.load 1 false (.t 15),(some (14,false))⟩,⟨some 17,.bin .neq (.t 16) (kI 3),(some (14,false))⟩,
 ⟨some 18,.mv (.t 17),(some (14,false))⟩,⟨some 19,.fa 7 (.t 1),(some (18,true))⟩,⟨some 20,.load 1 false (.t 19),(some (18,true))⟩,⟨some 21,.len false (.t 20),(some (18,true))⟩,⟨some 22,.bin .gtr (.t 21) (kI 0),(some (18,true))⟩,
 ⟨some 23,.mv (.t 22),(some (18,true))⟩,⟨some 24,.fa 0 (.t 1),(some (23,false))⟩,⟨some 25,.load 1 false (.t 24),(some (23,false))⟩,⟨some 26,.bin .neq (.t 25) (kI 5),(some (23,false))⟩,
 ⟨some 27,.mv (.t 26),(some (23,false))⟩,⟨some 28,.fa 5 (.t 1),(some (27,true))⟩,⟨some 29,.load 1 false (.t 28),(some (27,true))⟩,⟨some 30,.bin .neq (.t 29) (kS ⟨#[]⟩),(some (27,true))⟩,
 ⟨some 31,.pick (.t 27) (.t 30) kF,(some (23,false))⟩,⟨some 32,.pick (.t 23) kT (.t 31),(some (18,true))⟩,⟨some 33,.pick (.t 18) (.t 32) kF,(some (14,false))⟩,oM 34 (.pick (.t 14) kT (.t 33))] [1,34]) (
 .cond (.t 34) (.seq (.ops [oM 2 (.mv kF)] [2]) (.ret)) (.skip))) (.seq (.seq (.ops [oM 35 (.fa 0 (.t 1)),oM 36 (.load 1 false (.t 35)),oM 37 (.bin .neq (.t 36) (kI 5)),oV 38 37,⟨some 39,.fa 6 (.t 1),(some (38,true))⟩,
 ⟨some 40,.load 1 false (.t 39),(some (38,true))⟩,⟨some 41,.bin .neq (.t 40) (kS ⟨#[]⟩),(some (38,true))⟩,⟨some 42,.mv (.t 41),(some (38,true))⟩,⟨some 43,.fa 0 (.t 1),(some (42,false))⟩,
 ⟨some 44,.load 1 false (.t 43),(some (42,false))⟩,⟨some 45,.bin .neq (.t 44) (kI 4),(some (42,false))⟩,⟨some 46,.mv (.t 45),(some (42,false))⟩,⟨some 47,.fa 8 (.t 1),(some (46,true))⟩,
 ⟨some 48,.load 1 false (.t 47),(some (46,true))⟩,⟨some 49,.len false (.t 48),(some (46,true))⟩,⟨some 50,.bin .gtr (.t 49) (kI 0),(some (46,true))⟩,⟨some 51,.pick (.t 46) (.t 50) kF,(some (42,false))⟩,
 ⟨some 52,.pick (.t 42) kT (.t 51),(some (38,true))⟩,oM 53 (.pick (.t 38) (.t 52) kF),oV 54 53,⟨some 55,.fa 0 (.t 1),(some (54,false))⟩,⟨some 56,.load 1 false (.t 55),(some (54,false))⟩,
 ⟨some 57,.bin .neq (.t 56) (kI 4),(some (54,false))⟩,⟨some 58,.mv (.t 57),(some (54,false))⟩,⟨some 59,.fa 9 (.t 1),(some (58,true))⟩,⟨some 60,.load 1 false (.t 59),(some (58,true))⟩,⟨some 61,.len false (.t 60),(some (58,true))⟩,
 ⟨some 62,.bin .gtr (.t 61) (kI 0),(some (58,true))⟩,⟨some 63,.pick (.t 58) (.t 62) kF,(some (54,false))⟩,oM 64 (.pick (.t 54) kT (.t 63))] [1,64]) (.cond (.t 64) (.seq (.ops [oM 2 (.mv kF)] [2]) (
 .ret)) (.skip))) (.seq (.ops [oM 65 (.fa 0 (.t 1)),oM 66 (.load 1 false (.t 65)),oM 67 (.bin .eql (.t 66) (kI 6)),oV 68 67,⟨some 69,.fa 10 (.t 1),(some (68,false))⟩,⟨some 70,.load 1 false (.t 69),(some (68,false))⟩,
 ⟨some 71,.len false (.t 70),(some (68,false))⟩,⟨some 72,.bin .eql (.t 71) (kI 0),(some (68,false))⟩,⟨some 73,.mv (.t 72),(some (68,false))⟩,⟨some 74,.fa 11 (.t 1),(some (73,true))⟩,⟨some 75,.load 1 false (.t 74),(some (73,true))⟩,
 ⟨some 76,.len false (.t 75),(some (73,true))⟩,⟨some 77,.bin .eql (.t 76) (kI 0),(some (73,true))⟩,⟨some 78,.pick (.t 73) (.t 77) kF,(some (68,false))⟩,oM 79 (.pick (.t 68) kT (.t 78)),oV 2 79] [2]) (
 .ret))))
def Ew:List RV:=[.t 2 false]
theorem I6:aW G.tab Tryz.f138 1 Ga Ew=true:=by kernel_rfl
def ES:Cd:=.seq (.ops [oM 1 (.box 51 (.t 0)),oM 2 (.mv (kI 0))] [1]) (.seq (.seq (.ops [oM 5 (.fa 7 (.t 1)),oM 6 (.load 1 false (.t 5)),oM 7 (.len false (.t 6)),oM 8 (.bin .gtr (.t 7) (kI 16))] [1,8]) (
 .cond (.t 8) (.seq (.ops [oM 2 (.mv (kI 2))] [2]) (.ret)) (.skip))) (.seq (.seq (.ops [oM 9 (.fa 7 (.t 1)),oM 10 (.load 1 false (.t 9)),oM 11 (.len false (.t 10)),oM 12 (.bin .eql (.t 11) (kI 0))] [1,12]) (
 .cond (.t 12) (.seq (.ops [oM 2 (.mv (kI 1))] [2]) (.ret)) (.skip))) (.seq (.seq (.ops [oM 3 (.mv (kI 0))] [1,3]) (.block 0 (.loop (.seq (.seq (.ops [oV 13 3,oM 14 (.fa 7 (.t 1)),oM 15 (.load 1 false (.t 14)),
 oM 16 (.len false (.t 15)),oM 17 (.bin .lss (.t 13) (.t 16))] [1,3,17]) (.cond (.t 17) (.skip) (.exit 0))) (.seq (.block 1 (.seq (.ops [oM 20 (.fa 7 (.t 1)),oM 21 (.load 1 false (.t 20)),oV 22 3,
 oM 23 (.ia 4 (.t 21) (.t 22)),oM 24 (.load 4 true (.t 23)),oM 4 (.new 117 [.d (.lit (.int .i64 0)),.d (.lit (.int .i64 0)),.d (.lit (.int .i64 0)),.d (.lit (.bool false))]),⟨none,.sto 4 (.t 4) (.t 24),none⟩] [1,3,4]) (
 .seq (.ops [oM 25 (.fa 0 (.t 4)),oM 26 (.load 1 false (.t 25)),oM 27 (.bin .lss (.t 26) (kI 0)),oV 28 27,⟨some 29,.fa 0 (.t 4),(some (28,false))⟩,⟨some 30,.load 1 false (.t 29),(some (28,false))⟩,
 ⟨some 31,.fa 1 (.t 4),(some (28,false))⟩,⟨some 32,.load 1 false (.t 31),(some (28,false))⟩,⟨some 33,.bin .gtr (.t 30) (.t 32),(some (28,false))⟩,oM 34 (.pick (.t 28) kT (.t 33)),oV 35 34,
 ⟨some 36,.fa 1 (.t 4),(some (35,false))⟩,⟨some 37,.load 1 false (.t 36),(some (35,false))⟩,⟨some 38,.bin .gtr (.t 37) (kI 65535),(some (35,false))⟩,oM 39 (.pick (.t 35) kT (.t 38)),oV 40 39,
 ⟨some 41,.fa 2 (.t 4),(some (40,false))⟩,⟨some 42,.load 1 false (.t 41),(some (40,false))⟩,⟨some 43,.bin .lss (.t 42) (kI 0),(some (40,false))⟩,oM 44 (.pick (.t 40) kT (.t 43)),oV 45 44,
 ⟨some 46,.fa 2 (.t 4),(some (45,false))⟩,⟨some 47,.load 1 false (.t 46),(some (45,false))⟩,⟨some 48,.bin .gtr (.t 47) (kI 1000),(some (45,false))⟩,oM 49 (.pick (.t 45) kT (.t 48))] [1,3,49]) (
 .cond (.t 49) (.seq (.ops [oM 2 (.mv (kI 1))] [2]) (.ret)) (.skip))))) (.ops [oV 18 3,oM 19 (.bin .add (.t 18) (kI 1)),oV 3 19] [1,3])))))) (.seq (.seq (.ops [oM 50 (.fa 5 (.t 1)),oM 51 (.load 1 false (.t 50)),
 oM 52 (.call 146 [.t 51]),oM 53 (.un .not (.t 52))] [53]) (.cond (.t 53) (.seq (.ops [oM 2 (.mv (kI 7))] [2]) (.ret)) (.skip))) (.seq (.ops [oM 2 (.mv (kI 0))] [2]) (.ret))))))
def E5:List RV:=[.t 2 false]
theorem JA:aW G.tab Tryz.f139 1 ES E5=true:=by kernel_rfl
def Gc:Cd:=.seq (.ops [oM 2 (.mv kF)] [0]) (.seq (.seq (.ops [oM 3 (.mv (kI 0))] [0,3]) (.block 0 (.loop (.seq (.seq (.ops [oV 4 3,oV 5 0,oM 6 (.len false (.t 5)),oM 7 (.bin .lss (.t 4) (.t 6))] [0,3,7]) (
 .cond (.t 7) (.skip) (.exit 0))) (.seq (.block 1 (.seq (.ops [oV 10 0,oV 11 3,oM 12 (.ia 1 (.t 10) (.t 11)),oM 13 (.load 1 false (.t 12)),oM 14 (.call 146 [.t 13]),oM 15 (.un .not (.t 14))] [0,3,15]) (
 .cond (.t 15) (.seq (.ops [oM 2 (.mv kF)] [2]) (.ret)) (.skip)))) (.ops [oV 8 3,oM 9 (.bin .add (.t 8) (kI 1)),oV 3 9] [0,3])))))) (.seq (.ops [oM 2 (.mv kT)] [2]) (.ret)))
def Hp:List RV:=[.t 2 false]
theorem Jk:aW G.tab Tryz.f140 1 Gc Hp=true:=by kernel_rfl
end Go.Proofs.YthoebpnbhgmoiaaGreatDoor
