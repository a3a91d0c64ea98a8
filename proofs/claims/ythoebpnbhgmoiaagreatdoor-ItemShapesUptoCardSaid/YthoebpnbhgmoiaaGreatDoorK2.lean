import Derived.Test.YthoebpnbhgmoiaaGreatDoorProg
import Derived.Test.YthoebpnbhgmoiaaGreatDoorA20
import Derived.KernelRfl
import Derived.Test.YthoebpnbhgmoiaaGreatDoorK
namespace Go.Proofs.YthoebpnbhgmoiaaGreatDoor
open Go.RowKit
set_option maxRecDepth 100000
set_option linter.unusedVariables false
set_option linter.unusedSimpArgs false
def c12:Cd:=.seq (.ops [oM 3 (.box 26 (.t 1)),oM 4 (.mv (kI 0))] [0,3]) (.seq (.seq (.ops [oV 6 0,oM 7 (.call 31 [.t 6]),oV 5 7] [0,3,5]) (.seq (.ops [oV 8 5,oM 9 (.bin .neq (.t 8) (kI 0))] [0,3,5,9]) (
 .cond (.t 9) (.seq (.ops [oV 10 5,oV 4 10] [4]) (.ret)) (.skip)))) (.seq (.ops [oV 11 0,oM 12 (.bld [.d (.lit (.int .i64 0)),.nil] []),oM 13 (.load 4 true (.t 3)),oM 14 (.call 37 [.t 13]),oM 15 (.mkbd 38 [.t 14]),
 oM 16 (.call 36 [.t 11,.t 12,.t 15]),oV 4 16] [4]) (.ret)))
def I2:List RV:=[.t 4 false]
theorem k12:aW G.tab Tryz.f12 2 c12 I2=true:=by kernel_rfl
def c14:Cd:=.seq (.ops [oM 3 (.box 26 (.t 1)),oM 4 (.mv (.k (.nil))),oM 5 (.mv (kI 0))] [0,3]) (.seq (.seq (.ops [oV 10 0,oM 11 (.load 4 true (.t 3)),oM 12 (.call 12 [.t 10,.t 11]),oV 6 12] [0,3,6]) (
 .seq (.ops [oV 13 6,oM 14 (.bin .neq (.t 13) (kI 0))] [0,3,6,14]) (.cond (.t 14) (.seq (.ops [oV 15 6,oM 4 (.mv (.k (.nil))),oV 5 15] [4,5]) (.ret)) (.skip)))) (.seq (.ops [oM 16 (.load 4 true (.t 3)),
 oM 17 (.call 37 [.t 16]),oM 18 (.bld [.d (.lit (.map none)),.nil,.d (.lit (.bool false))] [(0,1,.t 17)]),oM 19 (.box 77 (.t 18)),oV 7 19] [0,7]) (.seq (.ops [oV 20 7,oV 21 0,oM 22 (.call 40 [.t 20,.t 21,.k (.d (.lit (.pointer none)))])] [7]) (
 .seq (.seq (.ops [oV 23 7,oM 24 (.nilck (.t 23)),oM 25 (.fa 2 (.t 24)),oM 26 (.load 1 false (.t 25))] [7,26]) (.cond (.t 26) (.seq (.ops [oM 4 (.mv (.k (.nil))),oM 5 (.mv (kI 2))] [4,5]) (.ret)) (
 .skip))) (.seq (.seq (.ops [oV 27 7,oM 28 (.nilck (.t 27)),oM 29 (.fa 1 (.t 28)),oM 30 (.load 1 false (.t 29)),oM 31 (.len false (.t 30)),oM 32 (.mv (kI 0))] [7,30,31,32]) (.block 0 (.loop (
 .seq (.ops [oM 33 (.bin .lss (.t 32) (.t 31))] [7,30,31,32,33]) (.seq (.cond (.t 33) (.skip) (.exit 0)) (.seq (.block 1 (.seq (.ops [oM 34 (.ia 12 (.t 30) (.t 32)),oM 35 (.load 12 true (.t 34)),
 oM 9 (.new 51 [.d (.lit (.int .i64 0)),.d (.lit (.int .i64 0)),.d (.lit (.int .i64 0)),.d (.lit (.string ⟨#[]⟩)),.nil,.d (.lit (.string ⟨#[]⟩)),.d (.lit (.string ⟨#[]⟩)),.nil,.nil,.nil,.nil,.nil]),
 ⟨none,.sto 12 (.t 9) (.t 35),none⟩] [7,9,30,31,32]) (.seq (.ops [oM 36 (.fa 0 (.t 9)),oM 37 (.load 1 false (.t 36)),oM 38 (.bin .eql (.t 37) (kI 1)),oV 39 38,⟨some 40,.fa 0 (.t 9),(some (39,false))⟩,
 ⟨some 41,.load 1 false (.t 40),(some (39,false))⟩,⟨some 42,.bin .eql (.t 41) (kI 2),(some (39,false))⟩,oM 43 (.pick (.t 39) kT (.t 42)),oV 44 43,⟨some 45,.fa 1 (.t 9),(some (44,true))⟩,
 ⟨some 46,.load 4 true (.t 45),(some (44,true))⟩,⟨some 47,.call 41 [.t 46],(some (44,true))⟩,⟨some 48,.bin .neq (.t 47) (kI 0),(some (44,true))⟩,oM 49 (.pick (.t 44) (.t 48) kF)] [7,30,31,32,49]) (
 .cond (.t 49) (.seq (.ops [oM 4 (.mv (.k (.nil))),oM 5 (.mv (kI 2))] [4,5]) (.ret)) (.skip))))) (.ops [oM 50 (.bin .add (.t 32) (kI 1)),oV 32 50] [7,30,31,32]))))))) (.seq (.ops [oV 51 7,oM 52 (.nilck (.t 51)),
 oM 53 (.fa 1 (.t 52)),oM 54 (.load 1 false (.t 53)),oV 4 54,oM 5 (.mv (kI 0))] [4,5]) (.ret)))))))
def Jx:List RV:=[.t 4 false,.t 5 false]
theorem k14:aW G.tab Tryz.f14 2 c14 Jx=true:=by kernel_rfl
def c18:Cd:=.seq (.ops [oM 2 (.box 38 (.t 0)),oM 3 (.box 26 (.t 1)),oM 4 (.new 38 [.d (.lit (.int .i64 0)),.d (.lit (.int .i64 0)),.d (.lit (.string ⟨#[]⟩)),.nil]),oM 5 (.mv (kI 0))] [2,3,4]) (
 .seq (.seq (.ops [oM 10 (.load 4 true (.t 2)),oM 11 (.call 41 [.t 10]),oV 6 11] [2,3,4,6]) (.seq (.ops [oV 12 6,oM 13 (.bin .neq (.t 12) (kI 0))] [2,3,4,6,13]) (.cond (.t 13) (.seq (.ops [
 oM 14 (.bld [.d (.lit (.int .i64 0)),.d (.lit (.int .i64 0)),.d (.lit (.string ⟨#[]⟩)),.nil] []),oV 15 6,⟨none,.sto 4 (.t 4) (.t 14),none⟩,oV 5 15] [4,5]) (.ret)) (.skip)))) (.seq (.ops [oM 16 (.load 4 true (.t 3)),
 oM 17 (.call 37 [.t 16]),oV 7 17] [2,4,7]) (.seq (.seq (.ops [oV 18 7,oM 19 (.load 4 true (.t 2)),oM 20 (.call 48 [.t 18,.t 19,.k (.nil)]),oV 8 20] [2,4,7,8]) (.seq (.ops [oV 21 8,oM 22 (.bin .neq (.t 21) (kI 0))] [2,4,7,8,22]) (
 .cond (.t 22) (.seq (.ops [oM 23 (.bld [.d (.lit (.int .i64 0)),.d (.lit (.int .i64 0)),.d (.lit (.string ⟨#[]⟩)),.nil] []),oV 24 8,⟨none,.sto 4 (.t 4) (.t 23),none⟩,oV 5 24] [4,5]) (.ret)) (
 .skip)))) (.seq (.seq (.ops [oV 25 7,oM 26 (.load 4 true (.t 2)),oM 27 (.call 49 [.t 25,.t 26]),oM 28 (.bin .gtr (.t 27) (kI 400))] [2,4,7,28]) (.cond (.t 28) (.seq (.ops [oM 29 (.bld [.d (.lit (.int .i64 0)),.d (.lit (.int .i64 0)),.d (.lit (.string ⟨#[]⟩)),.nil] []),
 ⟨none,.sto 4 (.t 4) (.t 29),none⟩,oM 5 (.mv (kI 2))] [4,5]) (.ret)) (.skip))) (.seq (.ops [oV 30 7,oM 31 (.load 4 true (.t 2)),oM 32 (.call 50 [.t 30,.t 31]),oM 9 (.new 38 [.d (.lit (.int .i64 0)),.d (.lit (.int .i64 0)),.d (.lit (.string ⟨#[]⟩)),.nil]),
 ⟨none,.sto 4 (.t 9) (.t 32),none⟩] [4,9]) (.seq (.seq (.ops [oM 33 (.load 4 true (.t 9)),oM 34 (.call 41 [.t 33]),oM 35 (.bin .neq (.t 34) (kI 0))] [4,9,35]) (.cond (.t 35) (.seq (.ops [oM 36 (.bld [.d (.lit (.int .i64 0)),.d (.lit (.int .i64 0)),.d (.lit (.string ⟨#[]⟩)),.nil] []),
 ⟨none,.sto 4 (.t 4) (.t 36),none⟩,oM 5 (.mv (kI 2))] [4,5]) (.ret)) (.skip))) (.seq (.ops [oM 37 (.load 4 true (.t 9)),⟨none,.sto 4 (.t 4) (.t 37),none⟩,oM 5 (.mv (kI 0))] [4,5]) (.ret))))))))
def vz:List RV:=[.c 4 4 true,.t 5 false]
theorem k18:aW G.tab Tryz.f18 2 c18 vz=true:=by kernel_rfl
def c26:Cd:=.seq (.ops [oM 2 (.mv (kI 0))] [0]) (.seq (.ops [oM 3 (.mv (kI 0))] [0,3]) (.seq (.seq (.ops [oV 6 0,oM 7 (.len false (.t 6)),oM 8 (.mv (kI 0))] [3,6,7,8]) (.block 0 (.loop (.seq (
 .ops [oM 9 (.bin .lss (.t 8) (.t 7))] [3,6,7,8,9]) (.seq (.cond (.t 9) (.skip) (.exit 0)) (.seq (.block 1 (.seq (.ops [oM 10 (.ia 12 (.t 6) (.t 8)),oM 11 (.load 12 true (.t 10)),oM 5 (.new 51 [.d (.lit (.int .i64 0)),.d (.lit (.int .i64 0)),.d (.lit (.int .i64 0)),.d (.lit (.string ⟨#[]⟩)),.nil,.d (.lit (.string ⟨#[]⟩)),.d (.lit (.string ⟨#[]⟩)),.nil,.nil,.nil,.nil,.nil]),
 ⟨none,.sto 12 (.t 5) (.t 11),none⟩] [3,5,6,7,8]) (.draw [oV 12 3,oM 13 (.fa 8 (.t 5)),oM 14 (.load 1 false (.t 13)),oM 15 (.call 26 [.t 14]),oM 16 (.bin .add (kI 1) (.t 15)),oM 17 (.fa 9 (.t 5)),
 oM 18 (.load 1 false (.t 17)),oM 19 (.call 26 [.t 18]),oM 20 (.bin .add (.t 16) (.t 19)),oM 21 (.bin .add (.t 12) (.t 20)),oV 3 21] [3,6,7,8]))) (.ops [oM 22 (.bin .add (.t 8) (kI 1)),oV 8 22] [3,6,7,8]))))))) (
 .seq (.ops [oV 23 3,oV 2 23] [2]) (.ret))))
def IP:List RV:=[.t 2 false]
theorem k26:aW G.tab Tryz.f26 1 c26 IP=true:=by kernel_rfl
def c29:Cd:=.seq (.ops [oM 2 (.mv (.k (.nil)))] [0]) (.seq (.ops [oM 3 (.new 43 [.nil])] [0,3]) (.seq (.ops [oV 4 0,oM 5 (.bld [.d (.lit (.int .i64 0)),.nil] []),oM 6 (.mkfn 58 [.t 3]),oM 7 (.call 36 [.t 4,.t 5,.t 6])] [3]) (
 .seq (.ops [oM 8 (.load 1 false (.t 3)),oV 2 8] [2]) (.ret))))
def Iq:List RV:=[.t 2 false]
theorem k29:aW G.tab Tryz.f29 1 c29 Iq=true:=by kernel_rfl
def c31:Cd:=.seq (.ops [oM 2 (.mv (kI 0))] [0]) (.seq (.seq (.ops [oV 3 0,oM 4 (.call 26 [.t 3]),oM 5 (.bin .gtr (.t 4) (kI 64))] [0,5]) (.cond (.t 5) (.seq (.ops [oM 2 (.mv (kI 2))] [2]) (.ret)) (
 .skip))) (.seq (.ops [oV 6 0,oM 7 (.bld [.d (.lit (.int .i64 0)),.nil] []),oM 8 (.call 36 [.t 6,.t 7,.k (.fn 63 [])]),oV 2 8] [2]) (.ret)))
def Jn:List RV:=[.t 2 false]
theorem k31:aW G.tab Tryz.f31 1 c31 Jn=true:=by kernel_rfl
def c36:Cd:=.seq (.ops [oM 4 (.box 69 (.t 1)),oM 6 (.mv (kI 0))] [0,2,4]) (.seq (.seq (.ops [oV 14 0,oM 15 (.len false (.t 14)),oM 16 (.mv (kI 0))] [2,4,14,15,16]) (.block 0 (.loop (.seq (
 .ops [oM 17 (.bin .lss (.t 16) (.t 15))] [2,4,14,15,16,17]) (.seq (.cond (.t 17) (.skip) (.exit 0)) (.seq (.block 1 (.seq (.ops [oM 18 (.ia 12 (.t 14) (.t 16)),oM 19 (.load 12 true (.t 18)),oM 8 (.new 51 [.d (.lit (.int .i64 0)),.d (.lit (.int .i64 0)),.d (.lit (.int .i64 0)),.d (.lit (.string ⟨#[]⟩)),.nil,.d (.lit (.string ⟨#[]⟩)),.d (.lit (.string ⟨#[]⟩)),.nil,.nil,.nil,.nil,.nil]),
 ⟨none,.sto 12 (.t 8) (.t 19),none⟩] [2,4,8,14,15,16]) (.seq (.seq (.ops [oV 20 2,oM 21 (.load 12 true (.t 8)),oM 22 (.load 2 true (.t 4)),oM 23 (.callv (.t 20) [.t 21,.t 22]),oV 9 23] [2,4,8,9,14,15,16]) (
 .seq (.ops [oV 24 9,oM 25 (.bin .neq (.t 24) (kI 0))] [2,4,8,9,14,15,16,25]) (.cond (.t 25) (.seq (.ops [oV 26 9,oV 6 26] [6]) (.ret)) (.skip)))) (.seq (.ops [oM 27 (.fa 0 (.t 4)),oM 28 (.load 1 false (.t 27)),
 oM 29 (.fa 1 (.t 4)),oM 30 (.load 1 false (.t 29)),oM 31 (.bld [.d (.lit (.int .i64 0)),.nil] [(0,1,.t 28),(1,1,.t 30)]),oM 10 (.new 69 [.d (.lit (.int .i64 0)),.nil]),⟨none,.sto 2 (.t 10) (.t 31),none⟩] [2,4,8,10,14,15,16]) (
 .seq (.seq (.ops [oM 32 (.fa 0 (.t 8)),oM 33 (.load 1 false (.t 32)),oM 34 (.bin .eql (.t 33) (kI 4)),oV 35 34,⟨some 36,.fa 0 (.t 8),(some (35,false))⟩,⟨some 37,.load 1 false (.t 36),(some (35,false))⟩,
 ⟨some 38,.bin .eql (.t 37) (kI 5),(some (35,false))⟩,oM 39 (.pick (.t 35) kT (.t 38))] [2,4,8,10,14,15,16,39]) (.cond (.t 39) (.ops [oM 40 (.fa 0 (.t 10)),oM 41 (.load 1 false (.t 40)),oM 42 (.bin .add (.t 41) (kI 1)),
 oM 43 (.fa 0 (.t 10)),⟨none,.sto 1 (.t 43) (.t 42),none⟩] [2,4,8,10,14,15,16]) (.skip))) (.seq (.ops [oM 44 (.load 2 true (.t 10)),oM 11 (.new 69 [.d (.lit (.int .i64 0)),.nil]),⟨none,.sto 2 (.t 11) (.t 44),none⟩] [2,4,8,10,11,14,15,16]) (
 .seq (.seq (.ops [oM 45 (.fa 0 (.t 8)),oM 46 (.load 1 false (.t 45)),oM 47 (.bin .eql (.t 46) (kI 5))] [2,4,8,10,11,14,15,16,47]) (.cond (.t 47) (.drawg [(oM 48 (.fa 1 (.t 4)),.free 0),(oM 49 (.load 1 false (.t 48)),.calm 0 0),
 (oM 50 (.call 68 [.t 49]),.act),(oM 51 (.fa 6 (.t 8)),.free 0),(oM 52 (.load 1 false (.t 51)),.calm 0 1),(oM 53 (.mks 9 1 [.t 52]),.free 0),(oM 54 (.app 9 1 16 50 (.t 53)),.slot 1),(oM 55 (.fa 1 (.t 10)),.free 1),
 (⟨none,.stoo (.t 55) 54,none⟩,.act)] [2,4,8,10,11,14,15,16]) (.skip))) (.seq (.seq (.ops [oM 56 (.fa 8 (.t 8)),oM 57 (.load 1 false (.t 56)),oM 58 (.load 2 true (.t 10)),oV 59 2,oM 60 (.call 36 [.t 57,.t 58,.t 59]),
 oV 12 60] [2,4,8,11,12,14,15,16]) (.seq (.ops [oV 61 12,oM 62 (.bin .neq (.t 61) (kI 0))] [2,4,8,11,12,14,15,16,62]) (.cond (.t 62) (.seq (.ops [oV 63 12,oV 6 63] [6]) (.ret)) (.skip)))) (
 .seq (.ops [oM 64 (.fa 9 (.t 8)),oM 65 (.load 1 false (.t 64)),oM 66 (.load 2 true (.t 11)),oV 67 2,oM 68 (.call 36 [.t 65,.t 66,.t 67]),oV 13 68] [2,4,13,14,15,16]) (.seq (.ops [oV 69 13,
 oM 70 (.bin .neq (.t 69) (kI 0))] [2,4,13,14,15,16,70]) (.cond (.t 70) (.seq (.ops [oV 71 13,oV 6 71] [6]) (.ret)) (.skip)))))))))))) (.ops [oM 72 (.bin .add (.t 16) (kI 1)),oV 16 72] [2,4,14,15,16]))))))) (
 .seq (.ops [oM 6 (.mv (kI 0))] [6]) (.ret)))
def IF:List RV:=[.t 6 false]
theorem k36:aW G.tab Tryz.f36 3 c36 IF=true:=by kernel_rfl
def c37:Cd:=.seq (.ops [oM 1 (.box 26 (.t 0)),oM 2 (.mv (.k (.d (.lit (.map none)))))] [1]) (.seq (.ops [oM 8 (.mmk true),oV 3 8] [1,3]) (.seq (.seq (.ops [oM 9 (.fa 2 (.t 1)),oM 10 (.load 1 false (.t 9)),
 oM 11 (.len false (.t 10)),oM 12 (.mv (kI 0))] [3,10,11,12]) (.block 0 (.loop (.seq (.ops [oM 13 (.bin .lss (.t 12) (.t 11))] [3,10,11,12,13]) (.seq (.cond (.t 13) (.skip) (.exit 0)) (.seq (
 .block 1 (.seq (.ops [oM 14 (.ia 5 (.t 10) (.t 12)),oM 15 (.load 5 true (.t 14)),oM 5 (.new 64 [.d (.lit (.string ⟨#[]⟩)),.d (.lit (.int .i64 0)),.d (.lit (.int .i64 0)),.d (.lit (.int .i64 0)),.d (.lit (.int .i64 0))]),
 ⟨none,.sto 5 (.t 5) (.t 15),none⟩] [3,5,10,11,12]) (.seq (.ops [oV 17 3,oM 18 (.fa 0 (.t 5)),oM 19 (.load 1 false (.t 18)),oM 20 (.mlk true true (.d (.lit (.int .i64 0))) (.t 17) (.t 19)),oV 16 20,
 oM 21 (.ext (.t 16) 0),oM 22 (.ext (.t 16) 1),oV 6 21,oV 7 22] [3,5,7,10,11,12]) (.seq (.ops [oV 23 7,oM 24 (.un .not (.t 23))] [3,5,10,11,12,24]) (.cond (.t 24) (.ops [oV 25 3,oM 26 (.fa 0 (.t 5)),
 oM 27 (.load 1 false (.t 26)),oM 28 (.fa 2 (.t 5)),oM 29 (.load 1 false (.t 28)),⟨none,.mst true (.t 25) (.t 27) (.t 29),none⟩] [3,10,11,12]) (.skip)))))) (.ops [oM 30 (.bin .add (.t 12) (kI 1)),
 oV 12 30] [3,10,11,12]))))))) (.seq (.ops [oV 31 3,oV 2 31] [2]) (.ret))))
def Ju:List RV:=[.t 2 false]
theorem k37:aW G.tab Tryz.f37 1 c37 Ju=true:=by kernel_rfl
def c59:Cd:=.seq (.ops [oM 2 (.box 51 (.t 0)),oM 3 (.box 69 (.t 1)),oM 4 (.mv (.k (.nil)))] [2,3]) (.seq (.ops [oM 5 (.nilo 9 1)] [2,3,5]) (.seq (.seq (.ops [oM 8 (.fa 0 (.t 2)),oM 9 (.load 1 false (.t 8))] [2,3,5,9]) (
 .block 0 (.seq (.seq (.ops [oM 11 (.bin .eql (.t 9) (kI 1)),oV 10 11] [2,3,5,9,10]) (.cond (.t 10) (.skip) (.seq (.ops [oM 12 (.bin .eql (.t 9) (kI 2)),oV 10 12] [2,3,5,9,10]) (.cond (.t 10) (
 .skip) (.ops [oM 13 (.bin .eql (.t 9) (kI 4)),oV 10 13] [2,3,5,9,10]))))) (.cond (.t 10) (.seq (.ops [oM 14 (.fa 1 (.t 2)),oM 15 (.load 4 true (.t 14)),oM 16 (.call 83 [.t 15]),oM 17 (.len false (.t 16)),
 oM 18 (.mv (kI 0))] [3,5,16,17,18]) (.block 1 (.loop (.seq (.ops [oM 19 (.bin .lss (.t 18) (.t 17))] [3,5,16,17,18,19]) (.seq (.cond (.t 19) (.skip) (.exit 1)) (.seq (.block 2 (.seq (.ops [
 oM 20 (.ia 4 (.t 16) (.t 18)),oM 21 (.load 4 true (.t 20)),oM 7 (.new 38 [.d (.lit (.int .i64 0)),.d (.lit (.int .i64 0)),.d (.lit (.string ⟨#[]⟩)),.nil]),⟨none,.sto 4 (.t 7) (.t 21),none⟩] [3,5,7,16,17,18]) (
 .seq (.ops [oM 22 (.fa 0 (.t 7)),oM 23 (.load 1 false (.t 22)),oM 24 (.bin .eql (.t 23) (kI 3)),oV 25 24,⟨some 26,.fa 0 (.t 7),(some (25,false))⟩,⟨some 27,.load 1 false (.t 26),(some (25,false))⟩,
 ⟨some 28,.bin .eql (.t 27) (kI 24),(some (25,false))⟩,oM 29 (.pick (.t 25) kT (.t 28)),oV 30 29,⟨some 31,.fa 0 (.t 7),(some (30,false))⟩,⟨some 32,.load 1 false (.t 31),(some (30,false))⟩,
 ⟨some 33,.bin .eql (.t 32) (kI 2),(some (30,false))⟩,⟨some 34,.mv (.t 33),(some (30,false))⟩,⟨some 35,.fa 1 (.t 3),(some (34,true))⟩,⟨some 36,.load 1 false (.t 35),(some (34,true))⟩,⟨some 37,.fa 2 (.t 7),(some (34,true))⟩,
 ⟨some 38,.load 1 false (.t 37),(some (34,true))⟩,⟨some 39,.call 60 [.t 36,.t 38],(some (34,true))⟩,⟨some 40,.un .not (.t 39),(some (34,true))⟩,⟨some 41,.pick (.t 34) (.t 40) kF,(some (30,false))⟩,
 oM 42 (.pick (.t 30) kT (.t 41))] [3,5,7,16,17,18,42]) (.cond (.t 42) (.ops [oM 43 (.mvo 5),oM 44 (.fa 2 (.t 7)),oM 45 (.load 1 false (.t 44)),oM 46 (.mks 9 1 [.t 45]),oM 47 (.app 9 1 16 43 (.t 46)),
 oM 5 (.mvo 47)] [3,5,16,17,18]) (.skip))))) (.ops [oM 48 (.bin .add (.t 18) (kI 1)),oV 18 48] [3,5,16,17,18]))))))) (.seq (.seq (.ops [oM 50 (.bin .eql (.t 9) (kI 3)),oV 49 50] [2,5,9,49]) (
 .cond (.t 49) (.skip) (.ops [oM 51 (.bin .eql (.t 9) (kI 5)),oV 49 51] [2,5,9,49]))) (.cond (.t 49) (.ops [oM 52 (.mvo 5),oM 53 (.fa 5 (.t 2)),oM 54 (.load 1 false (.t 53)),oM 55 (.mks 9 1 [.t 54]),
 oM 56 (.app 9 1 16 52 (.t 55)),oM 5 (.mvo 56)] [5]) (.seq (.ops [oM 58 (.bin .eql (.t 9) (kI 6)),oV 57 58] [2,5,57]) (.cond (.t 57) (.ops [oM 59 (.fa 10 (.t 2)),oM 60 (.load 1 false (.t 59)),oM 61 (.fa 11 (.t 2)),
 oM 62 (.load 1 false (.t 61)),oM 63 (.mks 43 1 [.t 60,.t 62]),oM 64 (.call 99 [.t 63]),oM 5 (.mvo 64)] [5]) (.skip))))))))) (.seq (.ops [oV 65 5,oV 4 65] [4]) (.ret))))
def JE:List RV:=[.t 4 false]
theorem k59:aW G.tab Tryz.f59 2 c59 JE=true:=by kernel_rfl
def Ey:Cd:=.seq (.ops [oM 0 (.mv (.k (.d (.lit (.map none)))))] []) (.seq (.ops [oM 1 (.mmk false),oM 2 (.bld [.d (.lit (.bool false)),.d (.lit (.bool false)),.d (.lit (.bool false)),.d (.lit (.bool false)),.d (.lit (.bool false)),.d (.lit (.bool false)),.d (.lit (.bool false))] [(0,1,.k (.d (.lit (.bool true))))]),
 ⟨none,.mst false (.t 1) (kI 1) (.t 2),none⟩,oM 3 (.bld [.d (.lit (.bool false)),.d (.lit (.bool false)),.d (.lit (.bool false)),.d (.lit (.bool false)),.d (.lit (.bool false)),.d (.lit (.bool false)),.d (.lit (.bool false))] [(0,1,.k (.d (.lit (.bool true))))]),
 ⟨none,.mst false (.t 1) (kI 2) (.t 3),none⟩,oM 4 (.bld [.d (.lit (.bool false)),.d (.lit (.bool false)),.d (.lit (.bool false)),.d (.lit (.bool false)),.d (.lit (.bool false)),.d (.lit (.bool false)),.d (.lit (.bool false))] [(1,1,.k (.d (.lit (.bool true)))),(3,1,.k (.d (.lit (.bool true))))]),
 ⟨none,.mst false (.t 1) (kI 3) (.t 4),none⟩,oM 5 (.bld [.d (.lit (.bool false)),.d (.lit (.bool false)),.d (.lit (.bool false)),.d (.lit (.bool false)),.d (.lit (.bool false)),.d (.lit (.bool false)),.d (.lit (.bool false))] [(0,1,.k (.d (.lit (.bool true)))),(4,1,.k (.d (.lit (.bool true)))),(5,1,.k (.d (.lit (.bool true))))]),
 ⟨none,.mst false (.t 1) (kI 4) (.t 5),none⟩,oM 6 (.bld [.d (.lit (.bool false)),.d (.lit (.bool false)),.d (.lit (.bool false)),.d (.lit (.bool false)),.d (.lit (.bool false)),.d (.lit (.bool false)),.d (.lit (.bool false))] [(1,1,.k (.d (.lit (.bool true)))),(2,1,.k (.d (.lit (.bool true)))),(4,1,.k (.d (.lit (.bool true))))]),
 ⟨none,.mst false (.t 1) (kI 5) (.t 6),none⟩,oM 7 (.bld [.d (.lit (.bool false)),.d (.lit (.bool false)),.d (.lit (.bool false)),.d (.lit (.bool false)),.d (.lit (.bool false)),.d (.lit (.bool false)),.d (.lit (.bool false))] [(6,1,.k (.d (.lit (.bool true))))]),
 ⟨none,.mst false (.t 1) (kI 6) (.t 7),none⟩,oV 8 1,oV 0 8] [0]) (.ret))
def Fv:List RV:=[.t 0 false]
theorem Jd:aW G.tab Tryz.f102 0 Ey Fv=true:=by kernel_rfl
def Fa:Cd:=.seq (.ops [oM 2 (.box 51 (.t 0)),oM 3 (.box 131 (.t 1)),oM 4 (.mv kF)] [2,3]) (.seq (.ops [oM 5 (.fa 0 (.t 3)),oM 6 (.load 1 false (.t 5)),oV 7 6,⟨some 8,.fa 1 (.t 2),(some (7,false))⟩,
 ⟨some 9,.load 4 true (.t 8),(some (7,false))⟩,⟨some 10,.call 135 [.t 9],(some (7,false))⟩,oM 11 (.pick (.t 7) kT (.t 10)),oV 12 11,⟨some 13,.fa 1 (.t 3),(some (12,true))⟩,⟨some 14,.load 1 false (.t 13),(some (12,true))⟩,
 ⟨some 15,.mv (.t 14),(some (12,true))⟩,⟨some 16,.fa 5 (.t 2),(some (15,false))⟩,⟨some 17,.load 1 false (.t 16),(some (15,false))⟩,⟨some 18,.bin .eql (.t 17) (kS ⟨#[]⟩),(some (15,false))⟩,
 ⟨some 19,.pick (.t 15) kT (.t 18),(some (12,true))⟩,oM 20 (.pick (.t 12) (.t 19) kF),oV 21 20,⟨some 22,.fa 2 (.t 3),(some (21,true))⟩,⟨some 23,.load 1 false (.t 22),(some (21,true))⟩,⟨some 24,.mv (.t 23),(some (21,true))⟩,
 ⟨some 25,.fa 6 (.t 2),(some (24,false))⟩,⟨some 26,.load 1 false (.t 25),(some (24,false))⟩,⟨some 27,.bin .eql (.t 26) (kS ⟨#[]⟩),(some (24,false))⟩,⟨some 28,.pick (.t 24) kT (.t 27),(some (21,true))⟩,
 oM 29 (.pick (.t 21) (.t 28) kF),oV 30 29,⟨some 31,.fa 3 (.t 3),(some (30,true))⟩,⟨some 32,.load 1 false (.t 31),(some (30,true))⟩,⟨some 33,.mv (.t 32),(some (30,true))⟩,⟨some 34,.fa 7 (.t 2),(some (33,false))⟩,
 ⟨some 35,.load 1 false (.t 34),(some (33,false))⟩,⟨some 36,.len false (.t 35),(some (33,false))⟩,⟨some 37,.bin .eql (.t 36) (kI 0),(some (33,false))⟩,⟨some 38,.pick (.t 33) kT (.t 37),(some (30,true))⟩,
 oM 39 (.pick (.t 30) (.t 38) kF),oV 40 39,⟨some 41,.fa 4 (.t 3),(some (40,true))⟩,⟨some 42,.load 1 false (.t 41),(some (40,true))⟩,⟨some 43,.mv (.t 42),(some (40,true))⟩,⟨some 44,.fa 8 (.t 2),(some (43,false))⟩,
 ⟨some 45,.load 1 false (.t 44),(some (43,false))⟩,⟨some 46,.len false (.t 45),(some (43,false))⟩,⟨some 47,.bin .eql (.t 46) (kI 0),(some (43,false))⟩,⟨some 48,.pick (.t 43) kT (.t 47),(some (40,true))⟩,
 oM 49 (.pick (.t 40) (.t 48) kF),oV 50 49,⟨some 51,.fa 5 (.t 3),(some (50,true))⟩,⟨some 52,.load 1 false (.t 51),(some (50,true))⟩,⟨some 53,.mv (.t 52),(some (50,true))⟩,⟨some 54,.fa 9 (.t 2),(some (53,false))⟩,
 ⟨some 55,.load 1 false (.t 54),(some (53,false))⟩,⟨some 56,.len false (.t 55),(some (53,false))⟩,⟨some 57,.bin .eql (.t 56) (kI 0),(some (53,false))⟩,⟨some 58,.pick (.t 53) kT (.t 57),(some (50,true))⟩,
 oM 59 (.pick (.t 50) (.t 58) kF),oV 60 59,⟨some 61,.fa 6 (.t 3),(some (60,true))⟩,⟨some 62,.load 1 false (.t 61),(some (60,true))⟩,⟨some 63,.mv (.t 62),(some (60,true))⟩,⟨some 64,.fa 10 (.t 2),(some (63,false))⟩,
 ⟨some 65,.load 1 false (.t 64),(some (63,false))⟩,⟨some 66,.len false (.t 65),(some (63,false))⟩,⟨some 67,.fa 11 (.t 2),(some (63,false))⟩,⟨some 68,.load 1 false (.t 67),(some (63,false))⟩,
 ⟨some 69,.len false (.t 68),(some (63,false))⟩,⟨some 70,.bin .add (.t 66) (.t 69),(some (63,false))⟩,⟨some 71,.bin .eql (.t 70) (kI 0),(some (63,false))⟩,⟨some 72,.pick (.t 63) kT (.t 71),(some (60,true))⟩,
 oM 73 (.pick (.t 60) (.t 72) kF),oV 4 73] [4]) (.ret))
def ER:List RV:=[.t 4 false]
theorem I7:aW G.tab Tryz.f103 2 Fa ER=true:=by kernel_rfl
def Et:Cd:=.seq (.ops [oM 2 (.mv (kI 0))] [0]) (.seq (.block 0 (.seq (.ops [oV 6 0,oM 7 (.len false (.t 6)),oM 8 (.bin .gtr (.t 7) (kI 16)),oV 5 8] [0,5]) (.cond (.t 5) (.seq (.ops [oM 2 (.mv (kI 2))] [2]) (
 .ret)) (.seq (.ops [oV 10 0,oM 11 (.len false (.t 10)),oM 12 (.bin .eql (.t 11) (kI 0)),oV 9 12] [0,9]) (.cond (.t 9) (.seq (.ops [oM 2 (.mv (kI 1))] [2]) (.ret)) (.skip)))))) (.seq (.seq (.ops [
 oV 13 0,oM 14 (.len false (.t 13)),oM 15 (.mv (kI 0))] [13,14,15]) (.block 1 (.loop (.seq (.ops [oM 16 (.bin .lss (.t 15) (.t 14))] [13,14,15,16]) (.seq (.cond (.t 16) (.skip) (.exit 1)) (.seq (
 .block 2 (.seq (.ops [oM 17 (.ia 4 (.t 13) (.t 15)),oM 18 (.load 4 true (.t 17)),oM 4 (.new 117 [.d (.lit (.int .i64 0)),.d (.lit (.int .i64 0)),.d (.lit (.int .i64 0)),.d (.lit (.bool false))]),
 ⟨none,.sto 4 (.t 4) (.t 18),none⟩] [4,13,14,15]) (.seq (.ops [oM 19 (.fa 0 (.t 4)),oM 20 (.load 1 false (.t 19)),oM 21 (.bin .lss (.t 20) (kI 0)),oV 22 21,⟨some 23,.fa 0 (.t 4),(some (22,false))⟩,
 ⟨some 24,.load 1 false (.t 23),(some (22,false))⟩,⟨some 25,.fa 1 (.t 4),(some (22,false))⟩,⟨some 26,.load 1 false (.t 25),(some (22,false))⟩,⟨some 27,.bin .gtr (.t 24) (.t 26),(some (22,false))⟩,
 oM 28 (.pick (.t 22) kT (.t 27)),oV 29 28,⟨some 30,.fa 1 (.t 4),(some (29,false))⟩,⟨some 31,.load 1 false (.t 30),(some (29,false))⟩,⟨some 32,.bin .gtr (.t 31) (kI 65535),(some (29,false))⟩,
 oM 33 (.pick (.t 29) kT (.t 32)),oV 34 33,⟨some 35,.fa 2 (.t 4),(some (34,false))⟩,⟨some 36,.load 1 false (.t 35),(some (34,false))⟩,⟨some 37,.bin .lss (.t 36) (kI 0),(some (34,false))⟩,
 oM 38 (.pick (.t 34) kT (.t 37)),oV 39 38,⟨some 40,.fa 2 (.t 4),(some (39,false))⟩,⟨some 41,.load 1 false (.t 40),(some (39,false))⟩,⟨some 42,.bin .gtr (.t 41) (kI 1000),(some (39,false))⟩,
 oM 43 (.pick (.t 39) kT (.t 42))] [13,14,15,43]) (.cond (.t 43) (.seq (.ops [oM 2 (.mv (kI 1))] [2]) (.ret)) (.skip))))) (.ops [oM 44 (.bin .add (.t 15) (kI 1)),oV 15 44] [13,14,15]))))))) (.seq (
 .ops [oM 2 (.mv (kI 0))] [2]) (.ret))))
def EJ:List RV:=[.t 2 false]
theorem IR:aW G.tab Tryz.f104 1 Et EJ=true:=by kernel_rfl
def Hi:Cd:=.seq (.ops [oM 2 (.mv kF)] [0]) (.seq (.ops [oV 3 0,oM 4 (.bld [.d (.lit (.int .i64 0)),.d (.lit (.int .i64 0)),.d (.lit (.string ⟨#[]⟩)),.nil] [(0,1,.k (.d (.lit (.int .i64 2)))),(2,1,.t 3)]),
 oM 5 (.call 41 [.t 4]),oM 6 (.bin .eql (.t 5) (kI 0)),oV 2 6] [2]) (.ret))
def Eu:List RV:=[.t 2 false]
theorem IX:aW G.tab Tryz.f105 1 Hi Eu=true:=by kernel_rfl
def c63:Cd:=.seq (.ops [oM 2 (.box 51 (.t 0)),oM 3 (.box 69 (.t 1)),oM 4 (.mv (kI 0))] [2,3]) (.seq (.raw [oM 11 (.call 102 []),oM 12 (.fa 0 (.t 2)),oM 13 (.load 1 false (.t 12)),oM 14 (.mlk false true (.agg [.d (.lit (.bool false)),.d (.lit (.bool false)),.d (.lit (.bool false)),.d (.lit (.bool false)),.d (.lit (.bool false)),.d (.lit (.bool false)),.d (.lit (.bool false))]) (.t 11) (.t 13)),
 oV 10 14,oM 15 (.ext (.t 10) 0),oM 16 (.ext (.t 10) 1),oM 5 (.new 131 [.d (.lit (.bool false)),.d (.lit (.bool false)),.d (.lit (.bool false)),.d (.lit (.bool false)),.d (.lit (.bool false)),.d (.lit (.bool false)),.d (.lit (.bool false))]),
 ⟨none,.sto 7 (.t 5) (.t 15),none⟩,oV 6 16] [[],[],[1],[0,2],[3],[4],[4],[],[7,5,0,0,1,2,3,4,5,7],[6,8,0,1,2,3,4,5,6,7,8]] [2,3,5,6]) (.seq (.seq (.ops [oV 17 6,oM 18 (.un .not (.t 17)),
 oV 19 18,⟨some 20,.load 12 true (.t 2),(some (19,false))⟩,⟨some 21,.load 7 true (.t 5),(some (19,false))⟩,⟨some 22,.call 103 [.t 20,.t 21],(some (19,false))⟩,⟨some 23,.un .not (.t 22),(some (19,false))⟩,
 oM 24 (.pick (.t 19) kT (.t 23)),oV 25 24,⟨some 26,.fa 0 (.t 3),(some (25,false))⟩,⟨some 27,.load 1 false (.t 26),(some (25,false))⟩,⟨some 28,.bin .gtr (.t 27) (kI 4),(some (25,false))⟩,
 oM 29 (.pick (.t 25) kT (.t 28)),oV 30 29,⟨some 31,.fa 0 (.t 3),(some (30,false))⟩,⟨some 32,.load 1 false (.t 31),(some (30,false))⟩,⟨some 33,.bin .gtr (.t 32) (kI 0),(some (30,false))⟩,
 ⟨some 34,.mv (.t 33),(some (30,false))⟩,⟨some 35,.fa 0 (.t 2),(some (34,true))⟩,⟨some 36,.load 1 false (.t 35),(some (34,true))⟩,⟨some 37,.bin .eql (.t 36) (kI 3),(some (34,true))⟩,⟨some 38,.mv (.t 37),(some (34,true))⟩,
 ⟨some 39,.fa 0 (.t 2),(some (38,false))⟩,⟨some 40,.load 1 false (.t 39),(some (38,false))⟩,⟨some 41,.bin .eql (.t 40) (kI 6),(some (38,false))⟩,⟨some 42,.pick (.t 38) kT (.t 41),(some (34,true))⟩,
 ⟨some 43,.pick (.t 34) (.t 42) kF,(some (30,false))⟩,oM 44 (.pick (.t 30) kT (.t 43))] [2,44]) (.cond (.t 44) (.seq (.ops [oM 4 (.mv (kI 1))] [4]) (.ret)) (.skip))) (.seq (.seq (.ops [oM 45 (.fa 0 (.t 2)),
 oM 46 (.load 1 false (.t 45))] [2,46]) (.block 0 (.seq (.ops [oM 51 (.bin .eql (.t 46) (kI 3)),oV 50 51] [2,46,50]) (.cond (.t 50) (.seq (.seq (.ops [oM 52 (.fa 7 (.t 2)),oM 53 (.load 1 false (.t 52)),
 oM 54 (.call 104 [.t 53]),oV 7 54] [2,7]) (.seq (.ops [oV 55 7,oM 56 (.bin .neq (.t 55) (kI 0))] [2,7,56]) (.cond (.t 56) (.seq (.ops [oV 57 7,oV 4 57] [4]) (.ret)) (.skip)))) (.seq (.ops [oM 58 (.fa 5 (.t 2)),
 oM 59 (.load 1 false (.t 58)),oM 60 (.call 105 [.t 59]),oM 61 (.un .not (.t 60))] [61]) (.cond (.t 61) (.seq (.ops [oM 4 (.mv (kI 7))] [4]) (.ret)) (.skip)))) (.seq (.ops [oM 63 (.bin .eql (.t 46) (kI 6)),
 oV 62 63] [2,46,62]) (.cond (.t 62) (.seq (.seq (.ops [oM 64 (.fa 10 (.t 2)),oM 65 (.load 1 false (.t 64)),oM 66 (.len false (.t 65)),oM 67 (.bin .eql (.t 66) (kI 0)),oV 68 67,⟨some 69,.fa 11 (.t 2),(some (68,false))⟩,
 ⟨some 70,.load 1 false (.t 69),(some (68,false))⟩,⟨some 71,.len false (.t 70),(some (68,false))⟩,⟨some 72,.bin .eql (.t 71) (kI 0),(some (68,false))⟩,oM 73 (.pick (.t 68) kT (.t 72))] [2,73]) (
 .cond (.t 73) (.seq (.ops [oM 4 (.mv (kI 1))] [4]) (.ret)) (.skip))) (.seq (.ops [oM 74 (.fa 10 (.t 2)),oM 75 (.load 1 false (.t 74)),oM 76 (.fa 11 (.t 2)),oM 77 (.load 1 false (.t 76)),oM 78 (.mks 43 1 [.t 75,.t 77]),
 oM 79 (.call 99 [.t 78]),oM 80 (.len false (.t 79)),oM 81 (.mv (kI 0))] [79,80,81]) (.block 1 (.loop (.seq (.ops [oM 82 (.bin .lss (.t 81) (.t 80))] [79,80,81,82]) (.seq (.cond (.t 82) (.skip) (
 .exit 1)) (.seq (.block 2 (.seq (.ops [oM 83 (.ia 1 (.t 79) (.t 81)),oM 84 (.load 1 false (.t 83)),oV 9 84] [9,79,80,81]) (.seq (.ops [oV 85 9,oM 86 (.call 105 [.t 85]),oM 87 (.un .not (.t 86))] [79,80,81,87]) (
 .cond (.t 87) (.seq (.ops [oM 4 (.mv (kI 7))] [4]) (.ret)) (.skip))))) (.ops [oM 88 (.bin .add (.t 81) (kI 1)),oV 81 88] [79,80,81])))))))) (.seq (.ops [oM 90 (.bin .eql (.t 46) (kI 5)),oV 89 90] [2,89]) (
 .cond (.t 89) (.seq (.ops [oM 91 (.fa 5 (.t 2)),oM 92 (.load 1 false (.t 91)),oM 93 (.call 106 [.t 92]),oM 94 (.un .not (.t 93)),oV 95 94,⟨some 96,.fa 6 (.t 2),(some (95,false))⟩,⟨some 97,.load 1 false (.t 96),(some (95,false))⟩,
 ⟨some 98,.call 106 [.t 97],(some (95,false))⟩,⟨some 99,.un .not (.t 98),(some (95,false))⟩,oM 100 (.pick (.t 95) kT (.t 99))] [100]) (.cond (.t 100) (.seq (.ops [oM 4 (.mv (kI 7))] [4]) (.ret)) (
 .skip))) (.seq (.ops [oM 47 (.fa 1 (.t 2)),oM 48 (.load 4 true (.t 47)),oM 49 (.call 41 [.t 48]),oV 4 49] [4]) (.ret)))))))))) (.seq (.ops [oM 4 (.mv (kI 0))] [4]) (.ret)))))
def Jh:List RV:=[.t 4 false]
theorem k63:aW G.tab Tryz.f63 2 c63 Jh=true:=by kernel_rfl
def c83:Cd:=.seq (.ops [oM 1 (.box 38 (.t 0)),oM 2 (.mv (.k (.nil)))] [1]) (.seq (.ops [oM 6 (.load 4 true (.t 1)),oM 7 (.mkso 38 4 [.t 6]),oM 3 (.mvo 7)] [1,3]) (.seq (.seq (.ops [oM 8 (.fa 3 (.t 1)),
 oM 9 (.load 1 false (.t 8)),oM 10 (.len false (.t 9)),oM 11 (.mv (kI 0))] [3,9,10,11]) (.block 0 (.loop (.seq (.ops [oM 12 (.bin .lss (.t 11) (.t 10))] [3,9,10,11,12]) (.seq (.cond (.t 12) (
 .skip) (.exit 0)) (.seq (.block 1 (.seq (.ops [oM 13 (.ia 4 (.t 9) (.t 11)),oM 14 (.load 4 true (.t 13)),oM 5 (.new 38 [.d (.lit (.int .i64 0)),.d (.lit (.int .i64 0)),.d (.lit (.string ⟨#[]⟩)),.nil]),
 ⟨none,.sto 4 (.t 5) (.t 14),none⟩] [3,5,9,10,11]) (.ops [oM 15 (.mvo 3),oM 16 (.load 4 true (.t 5)),oM 17 (.call 83 [.t 16]),oM 18 (.app 38 4 56 15 (.t 17)),oM 3 (.mvo 18)] [3,9,10,11]))) (
 .ops [oM 19 (.bin .add (.t 11) (kI 1)),oV 11 19] [3,9,10,11]))))))) (.seq (.ops [oV 20 3,oV 2 20] [2]) (.ret))))
def Iv:List RV:=[.t 2 false]
theorem k83:aW G.tab Tryz.f83 1 c83 Iv=true:=by kernel_rfl
def c86:Cd:=.seq (.ops [oM 4 (.new 38 [.d (.lit (.int .i64 0)),.d (.lit (.int .i64 0)),.d (.lit (.string ⟨#[]⟩)),.nil])] [0,1,4]) (.seq (.ops [oV 5 0,oM 6 (.bin .add (.t 5) (kS ⟨#[91]⟩)),oV 7 1,
 oM 8 (.bin .add (kI 48) (.t 7)),oM 9 (.conv .u8 (.t 8)),oM 10 (.mks 5 1 [.t 9]),oM 11 (.cbs (.t 10)),oM 12 (.bin .add (.t 6) (.t 11)),oM 13 (.bin .add (.t 12) (kS ⟨#[93]⟩)),oM 14 (.bld [.d (.lit (.int .i64 0)),.d (.lit (.int .i64 0)),.d (.lit (.string ⟨#[]⟩)),.nil] [(0,1,.k (.d (.lit (.int .i64 2)))),(2,1,.t 13)]),
 ⟨none,.sto 4 (.t 4) (.t 14),none⟩] [4]) (.ret))
def FL:List RV:=[.c 4 4 true]
theorem k86:aW G.tab Tryz.f86 2 c86 FL=true:=by kernel_rfl
def Fy:Cd:=.seq (.ops [oM 1 (.box 38 (.t 0)),oM 2 (.new 38 [.d (.lit (.int .i64 0)),.d (.lit (.int .i64 0)),.d (.lit (.string ⟨#[]⟩)),.nil])] [1,2]) (.seq (.ops [oM 3 (.load 4 true (.t 1)),
 oM 4 (.bld [.d (.lit (.int .i64 0)),.d (.lit (.int .i64 0)),.d (.lit (.string ⟨#[]⟩)),.nil] []),oM 5 (.call 141 [.t 3,.k (.d (.lit (.string ⟨#[]⟩))),.t 4]),⟨none,.sto 4 (.t 2) (.t 5),none⟩] [2]) (
 .ret))
def CH:List RV:=[.c 2 4 true]
theorem Ig:aW G.tab Tryz.f113 1 Fy CH=true:=by kernel_rfl
def D9:Cd:=.seq (.ops [oM 5 (.box 38 (.t 2)),oM 6 (.new 38 [.d (.lit (.int .i64 0)),.d (.lit (.int .i64 0)),.d (.lit (.string ⟨#[]⟩)),.nil])] [0,1,5,6]) (.seq (.seq (.ops [oV 7 0,oM 8 (.nip false (.t 7))] [0,1,5,6,8]) (
 .cond (.t 8) (.seq (.ops [oM 9 (.load 4 true (.t 5)),⟨none,.sto 4 (.t 6) (.t 9),none⟩] [6]) (.ret)) (.skip))) (.seq (.draws [oV 10 1,oV 11 0,oM 12 (.nilck (.t 11)),oM 13 (.load 4 true (.t 12)),
 oM 14 (.load 4 true (.t 5)),oM 15 (.mks 38 4 [.t 13,.t 14]),oM 16 (.bld [.d (.lit (.int .i64 0)),.d (.lit (.int .i64 0)),.d (.lit (.string ⟨#[]⟩)),.nil] [(0,1,.t 10),(3,1,.t 15)]),⟨none,.sto 4 (.t 6) (.t 16),none⟩] [6]) (
 .ret)))
def At:List RV:=[.c 6 4 true]
theorem GF:aW G.tab Tryz.f114 3 D9 At=true:=by kernel_rfl
def FR:Cd:=.seq (.ops [oM 5 (.box 38 (.t 2)),oM 6 (.mv (.k (.nil)))] [0,1,5]) (.seq (.ops [oM 7 (.nilo 51 12)] [0,1,5,7]) (.seq (.seq (.ops [oV 10 0,oM 11 (.len false (.t 10)),oM 12 (.mv (kI 0))] [1,5,7,10,11,12]) (
 .block 0 (.loop (.seq (.ops [oM 13 (.bin .lss (.t 12) (.t 11))] [1,5,7,10,11,12,13]) (.seq (.cond (.t 13) (.skip) (.exit 0)) (.seq (.block 1 (.seq (.ops [oM 14 (.ia 12 (.t 10) (.t 12)),oM 15 (.load 12 true (.t 14)),
 oM 9 (.new 51 [.d (.lit (.int .i64 0)),.d (.lit (.int .i64 0)),.d (.lit (.int .i64 0)),.d (.lit (.string ⟨#[]⟩)),.nil,.d (.lit (.string ⟨#[]⟩)),.d (.lit (.string ⟨#[]⟩)),.nil,.nil,.nil,.nil,.nil]),
 ⟨none,.sto 12 (.t 9) (.t 15),none⟩] [1,5,7,9,10,11,12]) (.seq (.ops [oM 16 (.fa 1 (.t 9)),oM 17 (.load 4 true (.t 16)),oV 18 1,oM 19 (.load 4 true (.t 5)),oM 20 (.call 141 [.t 17,.t 18,.t 19]),
 oM 21 (.fa 1 (.t 9)),⟨none,.sto 4 (.t 21) (.t 20),none⟩] [1,5,7,9,10,11,12]) (.seq (.ops [oM 22 (.fa 8 (.t 9)),oM 23 (.load 1 false (.t 22)),oV 24 1,oM 25 (.load 4 true (.t 5)),oM 26 (.call 115 [.t 23,.t 24,.t 25]),
 oM 27 (.fa 8 (.t 9)),⟨none,.sto 1 (.t 27) (.t 26),none⟩] [1,5,7,9,10,11,12]) (.seq (.ops [oM 28 (.fa 9 (.t 9)),oM 29 (.load 1 false (.t 28)),oV 30 1,oM 31 (.load 4 true (.t 5)),oM 32 (.call 115 [.t 29,.t 30,.t 31]),
 oM 33 (.fa 9 (.t 9)),⟨none,.sto 1 (.t 33) (.t 32),none⟩] [1,5,7,9,10,11,12]) (.ops [oM 34 (.mvo 7),oM 35 (.load 12 true (.t 9)),oM 36 (.mks 51 12 [.t 35]),oM 37 (.app 51 12 216 34 (.t 36)),
 oM 7 (.mvo 37)] [1,5,7,10,11,12])))))) (.ops [oM 38 (.bin .add (.t 12) (kI 1)),oV 12 38] [1,5,7,10,11,12]))))))) (.seq (.ops [oV 39 7,oV 6 39] [6]) (.ret))))
def EC:List RV:=[.t 6 false]
theorem Hq:aW G.tab Tryz.f115 3 FR EC=true:=by kernel_rfl
def EH:Cd:=.seq (.ops [oM 1 (.box 38 (.t 0)),oM 2 (.mv kF)] [1]) (.seq (.ops [oM 3 (.fa 0 (.t 1)),oM 4 (.load 1 false (.t 3)),oM 5 (.bin .eql (.t 4) (kI 0)),oV 6 5,⟨some 7,.fa 1 (.t 1),(some (6,true))⟩,
 ⟨some 8,.load 1 false (.t 7),(some (6,true))⟩,⟨some 9,.bin .eql (.t 8) (kI 0),(some (6,true))⟩,oM 10 (.pick (.t 6) (.t 9) kF),oV 11 10,⟨some 12,.fa 2 (.t 1),(some (11,true))⟩,⟨some 13,.load 1 false (.t 12),(some (11,true))⟩,
 ⟨some 14,.bin .eql (.t 13) (kS ⟨#[]⟩),(some (11,true))⟩,oM 15 (.pick (.t 11) (.t 14) kF),oV 16 15,⟨some 17,.fa 3 (.t 1),(some (16,true))⟩,⟨some 18,.load 1 false (.t 17),(some (16,true))⟩,
 ⟨some 19,.len false (.t 18),(some (16,true))⟩,⟨some 20,.bin .eql (.t 19) (kI 0),(some (16,true))⟩,oM 21 (.pick (.t 16) (.t 20) kF),oV 2 21] [2]) (.ret))
def GE:List RV:=[.t 2 false]
theorem Hw:aW G.tab Tryz.f135 1 EH GE=true:=by kernel_rfl
def c58:Cd:=.seq (.ops [oM 3 (.box 51 (.t 0)),oM 4 (.box 69 (.t 1)),oM 5 (.mv (kI 0))] [2,3,4]) (.seq (.seq (.ops [oM 8 (.load 12 true (.t 3)),oM 9 (.load 2 true (.t 4)),oM 10 (.call 59 [.t 8,.t 9]),
 oM 11 (.len false (.t 10)),oM 12 (.mv (kI 0))] [2,10,11,12]) (.block 0 (.loop (.seq (.ops [oM 13 (.bin .lss (.t 12) (.t 11))] [2,10,11,12,13]) (.seq (.cond (.t 13) (.skip) (.exit 0)) (.seq (
 .block 1 (.seq (.ops [oM 14 (.ia 1 (.t 10) (.t 12)),oM 15 (.load 1 false (.t 14)),oV 7 15] [2,7,10,11,12]) (.seq (.ops [oM 16 (.load 1 false (.t 2)),oV 17 7,oM 18 (.call 60 [.t 16,.t 17]),oM 19 (.un .not (.t 18))] [2,7,10,11,12,19]) (
 .cond (.t 19) (.ops [oM 20 (.ldo (.t 2)),oV 21 7,oM 22 (.mks 9 1 [.t 21]),oM 23 (.app 9 1 16 20 (.t 22)),⟨none,.stoo (.t 2) 23,none⟩] [2,10,11,12]) (.skip))))) (.ops [oM 24 (.bin .add (.t 12) (kI 1)),
 oV 12 24] [2,10,11,12]))))))) (.seq (.ops [oM 5 (.mv (kI 0))] [5]) (.ret)))
def Ht:List RV:=[.t 5 false]
theorem k58:aW G.tab Tryz.f58 3 c58 Ht=true:=by kernel_rfl
def c38:Cd:=.seq (.ops [oM 4 (.box 51 (.t 1)),oM 5 (.box 69 (.t 2)),oM 6 (.mv (kI 0))] [0,4,5]) (.seq (.seq (.ops [oM 13 (.fa 0 (.t 4)),oM 14 (.load 1 false (.t 13))] [0,4,5,14]) (.block 0 (
 .seq (.seq (.ops [oM 16 (.bin .eql (.t 14) (kI 3)),oV 15 16] [0,4,5,14,15]) (.cond (.t 15) (.skip) (.ops [oM 17 (.bin .eql (.t 14) (kI 6)),oV 15 17] [0,4,5,14,15]))) (.cond (.t 15) (.seq (
 .seq (.ops [oM 18 (.load 12 true (.t 4)),oM 19 (.load 2 true (.t 5)),oM 20 (.call 59 [.t 18,.t 19]),oM 21 (.len false (.t 20)),oM 22 (.mv (kI 0))] [0,20,21,22]) (.block 1 (.loop (.seq (.ops [
 oM 23 (.bin .lss (.t 22) (.t 21))] [0,20,21,22,23]) (.seq (.cond (.t 23) (.skip) (.exit 1)) (.seq (.block 2 (.seq (.ops [oM 24 (.ia 1 (.t 20) (.t 22)),oM 25 (.load 1 false (.t 24)),oV 8 25] [0,8,20,21,22]) (
 .seq (.ops [oV 26 0,oV 27 8,oM 28 (.call 69 [.t 26,.t 27]),oV 9 28] [0,9,20,21,22]) (.seq (.ops [oV 29 9,oM 30 (.bin .neq (.t 29) (kI 0))] [0,9,20,21,22,30]) (.cond (.t 30) (.seq (.ops [
 oV 31 9,oV 6 31] [6]) (.ret)) (.skip)))))) (.ops [oM 32 (.bin .add (.t 22) (kI 1)),oV 22 32] [0,20,21,22]))))))) (.seq (.ops [oM 6 (.mv (kI 0))] [6]) (.ret))) (.seq (.ops [oM 34 (.bin .eql (.t 14) (kI 5)),
 oV 33 34] [0,4,5,33]) (.cond (.t 33) (.seq (.seq (.ops [oV 35 0,oM 36 (.fa 5 (.t 4)),oM 37 (.load 1 false (.t 36)),oM 38 (.call 70 [.t 35,.t 37]),oV 10 38] [0,4,5,10]) (.seq (.ops [oV 39 10,
 oM 40 (.bin .neq (.t 39) (kI 0))] [0,4,5,10,40]) (.cond (.t 40) (.seq (.ops [oV 41 10,oV 6 41] [6]) (.ret)) (.skip)))) (.seq (.seq (.ops [oV 43 0,oM 44 (.fa 6 (.t 4)),oM 45 (.load 1 false (.t 44)),
 oM 46 (.mlk true true (.d (.lit (.int .i64 0))) (.t 43) (.t 45)),oV 42 46,oM 47 (.ext (.t 42) 0),oM 48 (.ext (.t 42) 1),oV 11 47,oV 12 48] [4,5,12]) (.seq (.ops [oV 49 12,oV 50 49,⟨some 51,.fa 1 (.t 5),(some (50,false))⟩,
 ⟨some 52,.load 1 false (.t 51),(some (50,false))⟩,⟨some 53,.fa 6 (.t 4),(some (50,false))⟩,⟨some 54,.load 1 false (.t 53),(some (50,false))⟩,⟨some 55,.call 60 [.t 52,.t 54],(some (50,false))⟩,
 oM 56 (.pick (.t 50) kT (.t 55))] [56]) (.cond (.t 56) (.seq (.ops [oM 6 (.mv (kI 8))] [6]) (.ret)) (.skip)))) (.seq (.ops [oM 6 (.mv (kI 0))] [6]) (.ret)))) (.skip))))))) (.seq (.ops [oV 57 0,oM 58 (.fa 1 (.t 4)),
 oM 59 (.load 4 true (.t 58)),oM 60 (.fa 1 (.t 5)),oM 61 (.load 1 false (.t 60)),oM 62 (.call 48 [.t 57,.t 59,.t 61]),oV 6 62] [6]) (.ret)))
def Ix:List RV:=[.t 6 false]
theorem k38:aW G.tab Tryz.f38 3 c38 Ix=true:=by kernel_rfl
def c48:Cd:=.seq (.ops [oM 4 (.box 38 (.t 1)),oM 6 (.mv (kI 0))] [0,2,4]) (.seq (.seq (.ops [oM 10 (.load 4 true (.t 4)),oM 11 (.call 83 [.t 10]),oM 12 (.len false (.t 11)),oM 13 (.mv (kI 0))] [0,2,11,12,13]) (
 .block 0 (.loop (.seq (.ops [oM 14 (.bin .lss (.t 13) (.t 12))] [0,2,11,12,13,14]) (.seq (.cond (.t 14) (.skip) (.exit 0)) (.seq (.block 1 (.seq (.ops [oM 15 (.ia 4 (.t 11) (.t 13)),oM 16 (.load 4 true (.t 15)),
 oM 8 (.new 38 [.d (.lit (.int .i64 0)),.d (.lit (.int .i64 0)),.d (.lit (.string ⟨#[]⟩)),.nil]),⟨none,.sto 4 (.t 8) (.t 16),none⟩] [0,2,8,11,12,13]) (.seq (.ops [oM 9 (.mv (kI 0))] [0,2,8,9,11,12,13]) (
 .seq (.seq (.ops [oM 17 (.fa 0 (.t 8)),oM 18 (.load 1 false (.t 17))] [0,2,8,9,11,12,13,18]) (.block 2 (.seq (.ops [oM 20 (.bin .eql (.t 18) (kI 2)),oV 19 20] [0,2,8,9,11,12,13,18,19]) (
 .cond (.t 19) (.seq (.ops [oV 21 2,oM 22 (.fa 2 (.t 8)),oM 23 (.load 1 false (.t 22)),oM 24 (.call 60 [.t 21,.t 23]),oM 25 (.un .not (.t 24))] [0,2,8,9,11,12,13,25]) (.cond (.t 25) (.ops [
 oV 26 0,oM 27 (.fa 2 (.t 8)),oM 28 (.load 1 false (.t 27)),oM 29 (.call 84 [.t 26,.t 28]),oV 9 29] [0,2,9,11,12,13]) (.skip))) (.seq (.seq (.ops [oM 31 (.bin .eql (.t 18) (kI 3)),oV 30 31] [0,2,8,9,11,12,13,18,30]) (
 .cond (.t 30) (.skip) (.ops [oM 32 (.bin .eql (.t 18) (kI 24)),oV 30 32] [0,2,8,9,11,12,13,30]))) (.cond (.t 30) (.ops [oV 33 0,oM 34 (.fa 2 (.t 8)),oM 35 (.load 1 false (.t 34)),oM 36 (.call 70 [.t 33,.t 35]),
 oV 9 36] [0,2,9,11,12,13]) (.skip))))))) (.seq (.ops [oV 37 9,oM 38 (.bin .neq (.t 37) (kI 0))] [0,2,9,11,12,13,38]) (.cond (.t 38) (.seq (.ops [oV 39 9,oV 6 39] [6]) (.ret)) (.skip))))))) (
 .ops [oM 40 (.bin .add (.t 13) (kI 1)),oV 13 40] [0,2,11,12,13]))))))) (.seq (.ops [oM 6 (.mv (kI 0))] [6]) (.ret)))
def Il:List RV:=[.t 6 false]
theorem k48:aW G.tab Tryz.f48 3 c48 Il=true:=by kernel_rfl
def c49:Cd:=.seq (.ops [oM 3 (.box 38 (.t 1)),oM 4 (.mv (kI 0))] [0,3]) (.seq (.seq (.ops [oM 10 (.fa 0 (.t 3)),oM 11 (.load 1 false (.t 10)),oM 12 (.bin .eql (.t 11) (kI 24))] [0,3,12]) (.cond (.t 12) (
 .seq (.ops [oV 13 0,oM 14 (.fa 2 (.t 3)),oM 15 (.load 1 false (.t 14)),oM 16 (.mlk true false (.d (.lit (.int .i64 0))) (.t 13) (.t 15)),oM 17 (.bin .mul (kI 2) (.t 16)),oM 18 (.bin .sub (.t 17) (kI 1)),
 oV 4 18] [4]) (.ret)) (.skip))) (.seq (.ops [oM 5 (.mv (kI 0))] [0,3,5]) (.seq (.seq (.ops [oM 19 (.fa 3 (.t 3)),oM 20 (.load 1 false (.t 19)),oM 21 (.len false (.t 20)),oM 22 (.mv (kI 0))] [0,3,5,20,21,22]) (
 .block 0 (.loop (.seq (.ops [oM 23 (.bin .lss (.t 22) (.t 21))] [0,3,5,20,21,22,23]) (.seq (.cond (.t 23) (.skip) (.exit 0)) (.seq (.block 1 (.seq (.ops [oM 24 (.ia 4 (.t 20) (.t 22)),oM 25 (.load 4 true (.t 24)),
 oM 7 (.new 38 [.d (.lit (.int .i64 0)),.d (.lit (.int .i64 0)),.d (.lit (.string ⟨#[]⟩)),.nil]),⟨none,.sto 4 (.t 7) (.t 25),none⟩] [0,3,5,7,20,21,22]) (.ops [oV 26 5,oV 27 0,oM 28 (.load 4 true (.t 7)),
 oM 29 (.call 49 [.t 27,.t 28]),oM 30 (.bin .add (.t 26) (.t 29)),oM 31 (.mx false (.t 30) (kI 401)),oV 5 31] [0,3,5,20,21,22]))) (.ops [oM 32 (.bin .add (.t 22) (kI 1)),oV 22 32] [0,3,5,20,21,22]))))))) (
 .seq (.seq (.ops [oM 33 (.fa 0 (.t 3)),oM 34 (.load 1 false (.t 33)),oM 35 (.bin .neq (.t 34) (kI 3))] [0,3,5,35]) (.cond (.t 35) (.seq (.ops [oV 36 5,oM 37 (.bin .add (.t 36) (kI 1)),oM 38 (.mx false (.t 37) (kI 401)),
 oV 4 38] [4]) (.ret)) (.skip))) (.seq (.seq (.ops [oV 40 0,oM 41 (.fa 3 (.t 3)),oM 42 (.load 1 false (.t 41)),oM 43 (.ia 4 (.t 42) (kI 0)),oM 44 (.load 4 true (.t 43)),oM 45 (.call 85 [.t 40,.t 44]),
 oV 39 45,oM 46 (.ext (.t 39) 0),oM 47 (.ext (.t 39) 1),oV 8 46,oV 9 47] [0,3,5,9]) (.seq (.ops [oV 48 9] [0,3,5,48]) (.cond (.t 48) (.seq (.ops [oM 4 (.mv (kI 1))] [4]) (.ret)) (.skip)))) (
 .seq (.ops [oV 49 0,oM 50 (.fa 2 (.t 3)),oM 51 (.load 1 false (.t 50)),oM 52 (.mlk true false (.d (.lit (.int .i64 0))) (.t 49) (.t 51)),oV 53 5,oM 54 (.bin .add (.t 53) (kI 4)),oM 55 (.bin .mul (.t 52) (.t 54)),
 oM 56 (.bin .add (.t 55) (kI 1)),oM 57 (.mx false (.t 56) (kI 401)),oV 4 57] [4]) (.ret)))))))
def H5:List RV:=[.t 4 false]
theorem k49:aW G.tab Tryz.f49 2 c49 H5=true:=by kernel_rfl
def c50:Cd:=.seq (.ops [oM 3 (.box 38 (.t 1)),oM 4 (.new 38 [.d (.lit (.int .i64 0)),.d (.lit (.int .i64 0)),.d (.lit (.string ⟨#[]⟩)),.nil])] [0,3,4]) (.seq (.seq (.ops [oM 10 (.fa 0 (.t 3)),
 oM 11 (.load 1 false (.t 10)),oM 12 (.bin .eql (.t 11) (kI 24))] [0,3,4,12]) (.cond (.t 12) (.seq (.ops [oM 13 (.fa 2 (.t 3)),oM 14 (.load 1 false (.t 13)),oM 15 (.call 86 [.t 14,.k (.d (.lit (.int .i64 0)))]),
 oM 5 (.new 38 [.d (.lit (.int .i64 0)),.d (.lit (.int .i64 0)),.d (.lit (.string ⟨#[]⟩)),.nil]),⟨none,.sto 4 (.t 5) (.t 15),none⟩] [0,3,4,5]) (.seq (.seq (.ops [oM 6 (.mv (kI 1))] [0,3,4,5,6]) (
 .block 0 (.loop (.seq (.seq (.ops [oV 16 6,oV 17 0,oM 18 (.fa 2 (.t 3)),oM 19 (.load 1 false (.t 18)),oM 20 (.mlk true false (.d (.lit (.int .i64 0))) (.t 17) (.t 19)),oM 21 (.bin .lss (.t 16) (.t 20))] [0,3,4,5,6,21]) (
 .cond (.t 21) (.skip) (.exit 0))) (.seq (.block 1 (.draws [oM 24 (.load 4 true (.t 5)),oM 25 (.fa 2 (.t 3)),oM 26 (.load 1 false (.t 25)),oV 27 6,oM 28 (.call 86 [.t 26,.t 27]),oM 29 (.mks 38 4 [.t 24,.t 28]),
 oM 30 (.bld [.d (.lit (.int .i64 0)),.d (.lit (.int .i64 0)),.d (.lit (.string ⟨#[]⟩)),.nil] [(0,1,.k (.d (.lit (.int .i64 7)))),(3,1,.t 29)]),⟨none,.sto 4 (.t 5) (.t 30),none⟩] [0,3,4,5,6])) (
 .ops [oV 22 6,oM 23 (.bin .add (.t 22) (kI 1)),oV 6 23] [0,3,4,5,6])))))) (.seq (.ops [oM 31 (.load 4 true (.t 5)),⟨none,.sto 4 (.t 4) (.t 31),none⟩] [4]) (.ret)))) (.skip))) (.seq (.ops [oM 7 (.nilo 38 4)] [0,3,4,7]) (
 .seq (.seq (.ops [oM 32 (.fa 3 (.t 3)),oM 33 (.load 1 false (.t 32)),oM 34 (.len false (.t 33)),oM 35 (.mv (kI 0))] [0,3,4,7,33,34,35]) (.block 2 (.loop (.seq (.ops [oM 36 (.bin .lss (.t 35) (.t 34))] [0,3,4,7,33,34,35,36]) (
 .seq (.cond (.t 36) (.skip) (.exit 2)) (.seq (.block 3 (.seq (.ops [oM 37 (.ia 4 (.t 33) (.t 35)),oM 38 (.load 4 true (.t 37)),oM 9 (.new 38 [.d (.lit (.int .i64 0)),.d (.lit (.int .i64 0)),.d (.lit (.string ⟨#[]⟩)),.nil]),
 ⟨none,.sto 4 (.t 9) (.t 38),none⟩] [0,3,4,7,9,33,34,35]) (.ops [oM 39 (.mvo 7),oV 40 0,oM 41 (.load 4 true (.t 9)),oM 42 (.call 50 [.t 40,.t 41]),oM 43 (.mks 38 4 [.t 42]),oM 44 (.app 38 4 56 39 (.t 43)),
 oM 7 (.mvo 44)] [0,3,4,7,33,34,35]))) (.ops [oM 45 (.bin .add (.t 35) (kI 1)),oV 35 45] [0,3,4,7,33,34,35]))))))) (.seq (.seq (.ops [oM 46 (.fa 0 (.t 3)),oM 47 (.load 1 false (.t 46)),
 oM 48 (.bin .eql (.t 47) (kI 3))] [0,3,4,7,48]) (.cond (.t 48) (.seq (.draws [oV 49 0,oM 50 (.fa 2 (.t 3)),oM 51 (.load 1 false (.t 50)),oV 52 7,oM 53 (.ia 4 (.t 52) (kI 0)),oM 54 (.load 4 true (.t 53)),
 oM 55 (.call 87 [.t 49,.t 51,.t 54]),⟨none,.sto 4 (.t 4) (.t 55),none⟩] [4]) (.ret)) (.skip))) (.seq (.ops [oV 56 7,oM 57 (.fa 3 (.t 3)),⟨none,.sto 1 (.t 57) (.t 56),none⟩] [3,4]) (.seq (.ops [
 oM 58 (.load 4 true (.t 3)),⟨none,.sto 4 (.t 4) (.t 58),none⟩] [4]) (.ret)))))))
def Bw:List RV:=[.c 4 4 true]
theorem k50:aW G.tab Tryz.f50 2 c50 Bw=true:=by kernel_rfl
def c69:Cd:=.seq (.ops [oM 4 (.mv (kI 0))] [0,1]) (.seq (.seq (.ops [oV 8 0,oV 9 1,oM 10 (.mlk true true (.d (.lit (.int .i64 0))) (.t 8) (.t 9)),oV 7 10,oM 11 (.ext (.t 7) 0),oM 12 (.ext (.t 7) 1),
 oV 5 11,oV 6 12] [0,1,6]) (.seq (.ops [oV 13 6,oV 14 13,⟨some 15,.mv (.t 0),(some (14,false))⟩,⟨some 16,.mv (.t 1),(some (14,false))⟩,⟨some 17,.call 84 [.t 15,.t 16],(some (14,false))⟩,
 ⟨some 18,.bin .eql (.t 17) (kI 0),(some (14,false))⟩,oM 19 (.pick (.t 14) kT (.t 18))] [19]) (.cond (.t 19) (.seq (.ops [oM 4 (.mv (kI 0))] [4]) (.ret)) (.skip)))) (.seq (.ops [oM 4 (.mv (kI 7))] [4]) (
 .ret)))
def Ic:List RV:=[.t 4 false]
theorem k69:aW G.tab Tryz.f69 2 c69 Ic=true:=by kernel_rfl
def c70:Cd:=.seq (.ops [oM 4 (.mv (kI 0))] [0,1]) (.seq (.ops [oV 8 0,oV 9 1,oM 10 (.mlk true true (.d (.lit (.int .i64 0))) (.t 8) (.t 9)),oV 7 10,oM 11 (.ext (.t 7) 0),oM 12 (.ext (.t 7) 1),
 oV 5 11,oV 6 12] [5,6]) (.seq (.block 0 (.seq (.ops [oV 14 6,oM 15 (.un .not (.t 14)),oV 13 15] [5,13]) (.cond (.t 13) (.seq (.ops [oM 4 (.mv (kI 7))] [4]) (.ret)) (.seq (.ops [oV 17 5,oM 18 (.bin .eql (.t 17) (kI 0)),
 oV 16 18] [16]) (.cond (.t 16) (.seq (.ops [oM 4 (.mv (kI 9))] [4]) (.ret)) (.skip)))))) (.seq (.ops [oM 4 (.mv (kI 0))] [4]) (.ret))))
def Jf:List RV:=[.t 4 false]
theorem k70:aW G.tab Tryz.f70 2 c70 Jf=true:=by kernel_rfl
def c84:Cd:=.seq (.ops [oM 4 (.mv (kI 0))] [0,1]) (.seq (.seq (.ops [oV 13 0,oV 14 1,oM 15 (.mlk true true (.d (.lit (.int .i64 0))) (.t 13) (.t 14)),oV 12 15,oM 16 (.ext (.t 12) 0),oM 17 (.ext (.t 12) 1),
 oV 5 16,oV 6 17] [0,1,5,6]) (.seq (.ops [oV 18 6] [0,1,5,18]) (.cond (.t 18) (.seq (.seq (.ops [oV 19 5,oM 20 (.bin .gtr (.t 19) (kI 0))] [20]) (.cond (.t 20) (.seq (.ops [oM 4 (.mv (kI 9))] [4]) (
 .ret)) (.skip))) (.seq (.ops [oM 4 (.mv (kI 0))] [4]) (.ret))) (.skip)))) (.seq (.ops [oV 22 1,oM 23 (.call 123 [.t 22,.k (.d (.lit (.string ⟨#[91]⟩)))]),oV 21 23,oM 24 (.ext (.t 21) 0),oM 25 (.ext (.t 21) 1),
 oM 26 (.ext (.t 21) 2),oV 7 24,oV 8 25,oV 9 26] [0,7,8,9]) (.seq (.ops [oV 28 0,oV 29 7,oM 30 (.mlk true true (.d (.lit (.int .i64 0))) (.t 28) (.t 29)),oV 27 30,oM 31 (.ext (.t 27) 0),oM 32 (.ext (.t 27) 1),
 oV 10 31,oV 11 32] [8,9,10,11]) (.seq (.block 0 (.seq (.ops [oV 34 9,oM 35 (.un .not (.t 34)),oV 36 35,⟨some 37,.mv (.t 11),(some (36,false))⟩,⟨some 38,.un .not (.t 37),(some (36,false))⟩,
 oM 39 (.pick (.t 36) kT (.t 38)),oV 33 39] [8,10,33]) (.cond (.t 33) (.seq (.ops [oM 4 (.mv (kI 7))] [4]) (.ret)) (.seq (.ops [oV 41 10,oM 42 (.bin .eql (.t 41) (kI 0)),oV 40 42] [8,10,40]) (
 .cond (.t 40) (.seq (.ops [oM 4 (.mv (kI 9))] [4]) (.ret)) (.seq (.ops [oV 44 8,oM 45 (.ix (.t 44) (kI 0)),oM 46 (.bin .sub (.t 45) (.k (.d (.lit (.int .u8 48))))),oM 47 (.conv .i64 (.t 46)),oV 48 10,
 oM 49 (.bin .geq (.t 47) (.t 48)),oV 43 49] [43]) (.cond (.t 43) (.seq (.ops [oM 4 (.mv (kI 7))] [4]) (.ret)) (.skip)))))))) (.seq (.ops [oM 4 (.mv (kI 0))] [4]) (.ret))))))
def I5:List RV:=[.t 4 false]
theorem k84:aW G.tab Tryz.f84 2 c84 I5=true:=by kernel_rfl
def c85:Cd:=.seq (.ops [oM 3 (.box 38 (.t 1)),oM 4 (.mv (kI 0)),oM 5 (.mv kF)] [0,3]) (.seq (.seq (.ops [oM 8 (.fa 0 (.t 3)),oM 9 (.load 1 false (.t 8))] [0,3,9]) (.block 0 (.seq (.ops [oM 11 (.bin .eql (.t 9) (kI 1)),
 oV 10 11] [0,3,9,10]) (.cond (.t 10) (.seq (.ops [oM 12 (.fa 1 (.t 3)),oM 13 (.load 1 false (.t 12)),oV 4 13,oM 5 (.mv kT)] [4,5]) (.ret)) (.seq (.ops [oM 15 (.bin .eql (.t 9) (kI 3)),oV 14 15] [0,3,14]) (
 .cond (.t 14) (.seq (.ops [oV 17 0,oM 18 (.fa 3 (.t 3)),oM 19 (.load 1 false (.t 18)),oM 20 (.ia 4 (.t 19) (kI 0)),oM 21 (.load 4 true (.t 20)),oM 22 (.call 85 [.t 17,.t 21]),oV 16 22,oM 23 (.ext (.t 16) 0),
 oM 24 (.ext (.t 16) 1),oV 6 23,oV 7 24] [0,3,6,7]) (.seq (.ops [oV 25 7,oV 26 25,⟨some 27,.mv (.t 6),(some (26,true))⟩,⟨some 28,.mv (.t 0),(some (26,true))⟩,⟨some 29,.fa 2 (.t 3),(some (26,true))⟩,
 ⟨some 30,.load 1 false (.t 29),(some (26,true))⟩,⟨some 31,.mlk true false (.d (.lit (.int .i64 0))) (.t 28) (.t 30),(some (26,true))⟩,⟨some 32,.bin .geq (.t 27) (.t 31),(some (26,true))⟩,
 oM 33 (.pick (.t 26) (.t 32) kF)] [33]) (.cond (.t 33) (.seq (.ops [oM 4 (.mv (kI 0)),oM 5 (.mv kT)] [4,5]) (.ret)) (.skip)))) (.skip))))))) (.seq (.ops [oM 4 (.mv (kI 0)),oM 5 (.mv kF)] [4,5]) (
 .ret)))
def Ji:List RV:=[.t 4 false,.t 5 false]
theorem k85:aW G.tab Tryz.f85 2 c85 Ji=true:=by kernel_rfl
def c87:Cd:=.seq (.ops [oM 5 (.box 38 (.t 2)),oM 6 (.new 38 [.d (.lit (.int .i64 0)),.d (.lit (.int .i64 0)),.d (.lit (.string ⟨#[]⟩)),.nil])] [0,1,5,6]) (.seq (.seq (.ops [oM 10 (.fa 0 (.t 5)),
 oM 11 (.load 1 false (.t 10)),oM 12 (.bin .eql (.t 11) (kI 1))] [0,1,5,6,12]) (.cond (.t 12) (.seq (.seq (.ops [oM 13 (.fa 1 (.t 5)),oM 14 (.load 1 false (.t 13)),oV 15 0,oV 16 1,oM 17 (.mlk true false (.d (.lit (.int .i64 0))) (.t 15) (.t 16)),
 oM 18 (.bin .lss (.t 14) (.t 17))] [1,5,6,18]) (.cond (.t 18) (.seq (.ops [oV 19 1,oM 20 (.fa 1 (.t 5)),oM 21 (.load 1 false (.t 20)),oM 22 (.call 86 [.t 19,.t 21]),⟨none,.sto 4 (.t 6) (.t 22),none⟩] [6]) (
 .ret)) (.skip))) (.seq (.ops [oM 23 (.bld [.d (.lit (.int .i64 0)),.d (.lit (.int .i64 0)),.d (.lit (.string ⟨#[]⟩)),.nil] [(0,1,.k (.d (.lit (.int .i64 1))))]),⟨none,.sto 4 (.t 6) (.t 23),none⟩] [6]) (
 .ret))) (.skip))) (.seq (.ops [oM 24 (.bld [.d (.lit (.int .i64 0)),.d (.lit (.int .i64 0)),.d (.lit (.string ⟨#[]⟩)),.nil] [(0,1,.k (.d (.lit (.int .i64 1))))]),oM 7 (.new 38 [.d (.lit (.int .i64 0)),.d (.lit (.int .i64 0)),.d (.lit (.string ⟨#[]⟩)),.nil]),
 ⟨none,.sto 4 (.t 7) (.t 24),none⟩] [0,1,5,6,7]) (.seq (.seq (.ops [oV 25 0,oV 26 1,oM 27 (.mlk true false (.d (.lit (.int .i64 0))) (.t 25) (.t 26)),oM 28 (.bin .sub (.t 27) (kI 1)),oV 8 28] [1,5,6,7,8]) (
 .block 0 (.loop (.seq (.seq (.ops [oV 29 8,oM 30 (.bin .geq (.t 29) (kI 0))] [1,5,6,7,8,30]) (.cond (.t 30) (.skip) (.exit 0))) (.seq (.block 1 (.seq (.ops [oM 33 (.load 4 true (.t 5)),oM 34 (.call 113 [.t 33]),
 oV 35 8,oM 36 (.bld [.d (.lit (.int .i64 0)),.d (.lit (.int .i64 0)),.d (.lit (.string ⟨#[]⟩)),.nil] [(0,1,.k (.d (.lit (.int .i64 1)))),(1,1,.t 35)]),oM 37 (.mks 38 4 [.t 34,.t 36]),oM 38 (.bld [.d (.lit (.int .i64 0)),.d (.lit (.int .i64 0)),.d (.lit (.string ⟨#[]⟩)),.nil] [(0,1,.k (.d (.lit (.int .i64 15)))),(3,1,.t 37)]),
 oM 9 (.new 38 [.d (.lit (.int .i64 0)),.d (.lit (.int .i64 0)),.d (.lit (.string ⟨#[]⟩)),.nil]),⟨none,.sto 4 (.t 9) (.t 38),none⟩] [1,5,6,7,8,9]) (.draws [oM 39 (.load 4 true (.t 9)),oV 40 1,
 oV 41 8,oM 42 (.call 86 [.t 40,.t 41]),oM 43 (.load 4 true (.t 7)),oM 44 (.mks 38 4 [.t 39,.t 42,.t 43]),oM 45 (.bld [.d (.lit (.int .i64 0)),.d (.lit (.int .i64 0)),.d (.lit (.string ⟨#[]⟩)),.nil] [(0,1,.k (.d (.lit (.int .i64 22)))),(3,1,.t 44)]),
 ⟨none,.sto 4 (.t 7) (.t 45),none⟩] [1,5,6,7,8]))) (.ops [oV 31 8,oM 32 (.bin .sub (.t 31) (kI 1)),oV 8 32] [1,5,6,7,8])))))) (.seq (.ops [oM 46 (.load 4 true (.t 7)),⟨none,.sto 4 (.t 6) (.t 46),none⟩] [6]) (
 .ret)))))
def AF:List RV:=[.c 6 4 true]
theorem k87:aW G.tab Tryz.f87 3 c87 AF=true:=by kernel_rfl
def c40:Cd:=.seq (.ops [oV 8 1,oM 9 (.len false (.t 8)),oM 10 (.mv (kI 0))] [0,2,8,9,10]) (.block 0 (.loop (.seq (.ops [oM 11 (.bin .lss (.t 10) (.t 9))] [0,2,8,9,10,11]) (.seq (.cond (.t 11) (
 .skip) (.exit 0)) (.seq (.block 1 (.seq (.ops [oM 12 (.ia 12 (.t 8) (.t 10)),oM 13 (.load 12 true (.t 12)),oM 7 (.new 51 [.d (.lit (.int .i64 0)),.d (.lit (.int .i64 0)),.d (.lit (.int .i64 0)),.d (.lit (.string ⟨#[]⟩)),.nil,.d (.lit (.string ⟨#[]⟩)),.d (.lit (.string ⟨#[]⟩)),.nil,.nil,.nil,.nil,.nil]),
 ⟨none,.sto 12 (.t 7) (.t 13),none⟩] [0,2,7,8,9,10]) (.seq (.seq (.ops [oV 14 0,oM 15 (.nilck (.t 14)),oM 16 (.fa 2 (.t 15)),oM 17 (.load 1 false (.t 16))] [0,2,7,8,9,10,17]) (.cond (.t 17) (
 .ret) (.skip))) (.ops [oV 18 0,oM 19 (.load 12 true (.t 7)),oV 20 2,oM 21 (.call 73 [.t 18,.t 19,.t 20])] [0,2,8,9,10])))) (.ops [oM 22 (.bin .add (.t 10) (kI 1)),oV 10 22] [0,2,8,9,10]))))))
def HJ:List RV:=[]
theorem k40:aW G.tab Tryz.f40 3 c40 HJ=true:=by kernel_rfl
def c73:Cd:=.seq (.ops [oM 4 (.box 51 (.t 1))] [0,2,4]) (.seq (.ops [oM 9 (.fa 0 (.t 4)),oM 10 (.load 1 false (.t 9))] [0,2,4,10]) (.block 0 (.seq (.seq (.ops [oM 12 (.bin .eql (.t 10) (kI 1)),
 oV 11 12] [0,2,4,10,11]) (.cond (.t 11) (.skip) (.ops [oM 13 (.bin .eql (.t 10) (kI 2)),oV 11 13] [0,2,4,10,11]))) (.cond (.t 11) (.drawg [(oV 14 0,.free 0),(oM 15 (.fa 0 (.t 4)),.free 0),
 (oM 16 (.load 1 false (.t 15)),.calm 0 0),(oV 17 2,.free 0),(oM 18 (.fa 1 (.t 4)),.free 0),(oM 19 (.load 4 true (.t 18)),.calm 0 0),(oM 20 (.call 114 [.t 17,.k (.d (.lit (.int .i64 21))),.t 19]),.calm 0 0),
 (oM 21 (.call 113 [.t 20]),.calm 0 0),(oM 22 (.bld [.d (.lit (.int .i64 0)),.d (.lit (.int .i64 0)),.d (.lit (.int .i64 0)),.d (.lit (.string ⟨#[]⟩)),.nil,.d (.lit (.string ⟨#[]⟩)),.d (.lit (.string ⟨#[]⟩)),.nil,.nil,.nil,.nil,.nil] [(0,1,.t 16),(1,4,.t 21)]),.free 0),
 (oM 23 (.call 112 [.t 14,.t 22]),.act)] []) (.seq (.ops [oM 25 (.bin .eql (.t 10) (kI 4)),oV 24 25] [0,2,4,10,24]) (.cond (.t 24) (.seq (.ops [oV 26 2,oM 27 (.fa 1 (.t 4)),oM 28 (.load 4 true (.t 27)),
 oM 29 (.call 114 [.t 26,.k (.d (.lit (.int .i64 19))),.t 28]),oM 6 (.new 38 [.d (.lit (.int .i64 0)),.d (.lit (.int .i64 0)),.d (.lit (.string ⟨#[]⟩)),.nil]),⟨none,.sto 4 (.t 6) (.t 29),none⟩] [0,2,4,6]) (
 .seq (.ops [oV 30 0,oM 31 (.fa 8 (.t 4)),oM 32 (.load 1 false (.t 31)),oM 33 (.call 40 [.t 30,.t 32,.t 6])] [0,2,4]) (.seq (.ops [oV 34 2,oM 35 (.fa 1 (.t 4)),oM 36 (.load 4 true (.t 35)),oM 37 (.mks 38 4 [.t 36]),
 oM 38 (.bld [.d (.lit (.int .i64 0)),.d (.lit (.int .i64 0)),.d (.lit (.string ⟨#[]⟩)),.nil] [(0,1,.k (.d (.lit (.int .i64 4)))),(3,1,.t 37)]),oM 39 (.call 114 [.t 34,.k (.d (.lit (.int .i64 19))),.t 38]),
 oM 7 (.new 38 [.d (.lit (.int .i64 0)),.d (.lit (.int .i64 0)),.d (.lit (.string ⟨#[]⟩)),.nil]),⟨none,.sto 4 (.t 7) (.t 39),none⟩] [0,4,7]) (.ops [oV 40 0,oM 41 (.fa 9 (.t 4)),oM 42 (.load 1 false (.t 41)),
 oM 43 (.call 40 [.t 40,.t 42,.t 7])] [])))) (.seq (.ops [oM 45 (.bin .eql (.t 10) (kI 5)),oV 44 45] [0,2,4,10,44]) (.cond (.t 44) (.seq (.draw [oV 46 0,oM 47 (.nilck (.t 46)),oM 48 (.fa 0 (.t 47)),
 oM 49 (.load 1 false (.t 48)),oM 50 (.fa 5 (.t 4)),oM 51 (.load 1 false (.t 50)),oM 52 (.mlk true false (.d (.lit (.int .i64 0))) (.t 49) (.t 51)),oM 53 (.mv (kI 0))] [0,2,4,52,53]) (.block 1 (
 .loop (.seq (.ops [oM 54 (.bin .lss (.t 53) (.t 52))] [0,2,4,52,53,54]) (.seq (.cond (.t 54) (.skip) (.exit 1)) (.seq (.block 2 (.seq (.ops [oV 55 53,oV 8 55] [0,2,4,8,52,53]) (.ops [oV 56 0,
 oM 57 (.fa 8 (.t 4)),oM 58 (.load 1 false (.t 57)),oM 59 (.fa 6 (.t 4)),oM 60 (.load 1 false (.t 59)),oV 61 8,oM 62 (.bld [.d (.lit (.int .i64 0)),.d (.lit (.int .i64 0)),.d (.lit (.string ⟨#[]⟩)),.nil] [(0,1,.k (.d (.lit (.int .i64 1)))),(1,1,.t 61)]),
 oM 63 (.call 115 [.t 58,.t 60,.t 62]),oV 64 2,oM 65 (.call 40 [.t 56,.t 63,.t 64])] [0,2,4,52,53]))) (.ops [oM 66 (.bin .add (.t 53) (kI 1)),oV 53 66] [0,2,4,52,53]))))))) (.seq (.ops [
 oM 68 (.bin .eql (.t 10) (kI 3)),oV 67 68] [0,4,10,67]) (.cond (.t 67) (.drawg [(oV 69 0,.free 0),(oM 70 (.fa 0 (.t 4)),.free 0),(oM 71 (.load 1 false (.t 70)),.calm 0 0),(oM 72 (.fa 5 (.t 4)),.free 0),
 (oM 73 (.load 1 false (.t 72)),.calm 0 0),(oM 74 (.fa 7 (.t 4)),.free 0),(oM 75 (.load 1 false (.t 74)),.calm 0 0),(oM 76 (.call 116 [.t 75]),.calm 0 0),(oM 77 (.bld [.d (.lit (.int .i64 0)),.d (.lit (.int .i64 0)),.d (.lit (.int .i64 0)),.d (.lit (.string ⟨#[]⟩)),.nil,.d (.lit (.string ⟨#[]⟩)),.d (.lit (.string ⟨#[]⟩)),.nil,.nil,.nil,.nil,.nil] [(0,1,.t 71),(5,1,.t 73),(7,1,.t 76)]),.free 0),
 (oM 78 (.call 112 [.t 69,.t 77]),.act)] []) (.seq (.ops [oM 80 (.bin .eql (.t 10) (kI 6)),oV 79 80] [0,4,79]) (.cond (.t 79) (.drawg [(oV 81 0,.free 0),(oM 82 (.fa 0 (.t 4)),.free 0),(oM 83 (.load 1 false (.t 82)),.calm 0 2),
 (oM 84 (.fa 10 (.t 4)),.free 0),(oM 85 (.load 1 false (.t 84)),.calm 0 0),(oM 86 (.call 68 [.t 85]),.act),(oM 87 (.fa 11 (.t 4)),.free 0),(oM 88 (.load 1 false (.t 87)),.calm 0 1),(oM 89 (.call 68 [.t 88]),.act),
 (oM 90 (.bld [.d (.lit (.int .i64 0)),.d (.lit (.int .i64 0)),.d (.lit (.int .i64 0)),.d (.lit (.string ⟨#[]⟩)),.nil,.d (.lit (.string ⟨#[]⟩)),.d (.lit (.string ⟨#[]⟩)),.nil,.nil,.nil,.nil,.nil] [(0,1,.t 83),(10,1,.t 86),(11,1,.t 89)]),.free 2),
 (oM 91 (.call 112 [.t 81,.t 90]),.act)] []) (.skip)))))))))))))
def G2:List RV:=[]
theorem k73:aW G.tab Tryz.f73 3 c73 G2=true:=by kernel_rfl
end Go.Proofs.YthoebpnbhgmoiaaGreatDoor
