import Derived.Lib.ParseIntB
import Derived.Lib.ParseIntBCases
import Derived.Lib.Bytealg
import Derived.Deep.RegionHeld3
import Derived.BigRegion
import Derived.Laws.Externs
import Derived.Deep.Light
import Derived.Lib.IndexLaws
import Derived.Test.YthekkgfmagliiaaGreatDoorK
set_option linter.unusedVariables false
set_option linter.unusedSimpArgs false
set_option linter.unusedSectionVars false
set_option maxRecDepth 100000
open Bool renaming and_eq_true->RS
open List renaming takeWhile_cons_of_pos->RU,takeWhile_cons_of_neg->RW,length_nil->RX,getElem?_eq_getElem->RY,getElem_cons_zero->RZ,drop_succ_cons->R0,length_cons->R5
namespace Go.Proofs.YthekkgfmagliiaaGreatDoor
open Go.RowKit
def c25:Cd:=sq [ZB 1 29 0,oI 2 0] [1] (.seq (sq [ZF 4 0 1,ZL 5 1 4,ZC 6 49 5,ZU 7 6] [1,7] (.cond (.t 7) (sq [oI 2 7] [2] .ret) .skip)) (.seq (sq [ZF 8 1 1,ZL 9 1 8,oV 10 9,oG 11 10 (zF 2 1),oG 12 10 (zL 1 11),oG 13 10 (.mv (.t 12)),oH 14 13 (zF 3 1),oH 15 13 (zM 9 14),⟨some 16,.bld zz0 [],(some (13,false))⟩,oH 17 13 (zD 50 15 16),oH 18 13 (zU 17),oG 19 10 (zP 13 18),ZQ 20 10 19] [1,
 20] (.cond (.t 20) (sq [oI 2 1] [2] .ret) .skip)) (.seq (sq [ZF 21 1 1,ZL 22 1 21,ZU 23 22] [1,23] (.cond (.t 23) (.seq (.ops [ZF 24 3 1,ZM 25 9 24,ZC 26 33 25,oV 3 26] [1,3]) (sq [oV 27 3,Wn 28 27 0] [1,3,28] (.cond (.t 28) (sq [oV 29 3,oV 2 29] [2] .ret) .skip))) .skip)) (sq [ZF 30 12 1,ZM 31 9 30,ZC 32 33 31,oV 2 32] [2] .ret))))
def NT:List RV:=[.t 2 false]
theorem k25:aM G.tab Tryz.f25 1 c25 NT=true:=by kernel_rfl
def c33:Cd:=sq [ZB 1 27 0,oI 2 0] [1] (.seq (sq [ZM 3 9 1,ZC 4 66 3,Wg 5 4 8,oV 6 5,oH 7 6 (zM 9 1),oH 8 6 (zC 67 7),oH 9 6 (wg 8 100),ZP 10 6 9] [1,10] (.cond (.t 10) (sq [oI 2 2] [2] .ret) (.skip))) (sq [ZM 11 9 1,oM 12 (.call 68 [.t 11,.k (.d (.lit (.bool false)))]),oV 2 12] [2] .ret))
def Pl:List RV:=[.t 2 false]
theorem k33:aM G.tab Tryz.f33 1 c33 Pl=true:=by kernel_rfl
def c67:Cd:=sq [ZB 1 27 0,oI 2 0] [1] (sq [ZM 3 9 1,oM 4 (.call 101 [.t 3,.k (.fn 104 [])]),oV 2 4] [2] .ret)
def P2:List RV:=[.t 2 false]
theorem k67:aM G.tab Tryz.f67 1 c67 P2=true:=by kernel_rfl
def PV:Cd:=sq [ZB 2 27 0,oI 4 0] [1] (sq [oV 5 1,ZC 6 105 5,oM 7 (.bin .add (kI 1) (.t 6)),oV 4 7] [4] .ret)
def OV:List RV:=[.t 4 false]
theorem QB:aM G.tab Tryz.f104 2 PV OV=true:=by kernel_rfl
def PL:Cd:=sq [oI 2 0] [0] (sq [oI 3 0] [0,3] (.seq (sq [oV 6 0,ZN 7 6,oI 8 0] [3,6,7,8] (.block 0 (.loop (.seq (.ops [Yl 9 8 7] [3,6,7,8,9]) (.seq (.cond (.t 9) .skip (.exit 0)) (.seq (.block 1 (sq [ZI 10 1 6 8,ZL 11 1 10,oV 5 11] [3,5,6,7,8] (.ops [oV 12 3,oV 13 5,Ya 14 12 13,oV 3 14] [3,6,7,8]))) (.ops [Wa 15 8 1,oV 8 15] [3,6,7,8]))))))) (sq [oV 16 3,oV 2 16] [2] .ret)))
def OU:List RV:=[.t 2 false]
theorem P8:aM G.tab Tryz.f105 1 PL OU=true:=by kernel_rfl
def c66:Cd:=sq [ZB 1 27 0,oI 2 0] [1] (sq [ZM 3 9 1,oM 4 (.call 101 [.t 3,.k (.fn 102 [])]),oV 2 4] [2] .ret)
def QX:List RV:=[.t 2 false]
theorem k66:aM G.tab Tryz.f66 1 c66 QX=true:=by kernel_rfl
def Pt:Cd:=sq [ZB 2 27 0,oI 4 0] [1] (sq [oM 5 (.mvo 1),oM 6 (.mks 3 1 [.k (.d (.lit (.int .i64 0)))]),oM 7 (.app 3 1 8 5 (.t 6)),ZC 8 103 7,oM 9 (.bin .add (kI 1) (.t 8)),oV 4 9] [4] .ret)
def Na:List RV:=[.t 4 false]
theorem Qf:aM G.tab Tryz.f102 2 Pt Na=true:=by kernel_rfl
def c68:Cd:=sq [ZB 2 27 0,oI 4 0] [1,2] (.seq (sq [ZM 9 9 2,oV 10 1,ZD 11 106 9 10,oV 5 11] [1,2,5] (sq [oV 12 5,Wn 13 12 0] [1,2,5,13] (.cond (.t 13) (sq [oV 14 5,oV 4 14] [4] .ret) .skip))) (.seq (sq [ZF 15 8 2,ZL 16 1 15,ZN 17 16,oI 18 0] [1,2,16,17,18] (.block 0 (.loop (sq [Yl 19 18 17] [1,2,16,17,18,19] (.seq (.cond (.t 19) .skip (.exit 0)) (.seq (.block 1 (sq [ZI 20 9 16 18,ZM 21 9 20,
 oM 7 (.new 27 zz0),oS 9 7 21] [1,2,7,16,17,18] (sq [ZM 22 9 7,oV 23 1,oV 24 23,oH 25 24 (zF 0 2),oH 26 24 (zL 1 25),oH 27 24 (we 26 5),ZP 28 24 27,ZD 29 68 22 28,oV 8 29] [1,2,8,16,17,18] (sq [oV 30 8,Wn 31 30 0] [1,2,8,16,17,18,31] (.cond (.t 31) (sq [oV 32 8,oV 4 32] [4] .ret) .skip))))) (.ops [Wa 33 18 1,oV 18 33] [1,2,16,17,18]))))))) (sq [oI 4 0] [4] .ret)))
def Ox:List RV:=[.t 4 false]
theorem k68:aM G.tab Tryz.f68 2 c68 Ox=true:=by kernel_rfl
def Nc:Cd:=sq [ZB 2 27 0,oI 4 0] [1,2] (.seq (sq [ZM 7 9 2,ZC 8 139 7,ZU 9 8,oV 10 9,oH 11 10 (zF 0 2),oH 12 10 (zL 1 11),oH 13 10 (zC 140 12),oH 14 10 (zU 13),oH 15 10 (.mv (.t 14)),oG 16 15 (zF 3 2),oG 17 15 (zM 4 16),oG 18 15 (zC 141 17),oG 19 15 (zU 18),oH 20 10 (zQ 15 19),ZP 21 10 20,oV 22 21,oH 23 22 (zF 0 2),oH 24 22 (zL 1 23),oH 25 22 (wn 24 6),oH 26 22 (.mv (.t 25)),oG 27 26 (zF 7 2),
 oG 28 26 (zL 1 27),oG 29 26 (.bin .neq (.t 28) (kS ⟨#[]⟩)),oH 30 22 (zQ 26 29),ZP 31 22 30] [1,2,31] (.cond (.t 31) (sq [oI 4 1] [4] .ret) .skip)) (.seq (sq [ZF 32 0 2,ZL 33 1 32,We 34 33 6,oV 35 34,oG 36 35 (zF 7 2),oG 37 35 (zL 1 36),oG 38 35 (zC 49 37),oG 39 35 (zU 38),ZQ 40 35 39] [1,2,40] (.cond (.t 40) (sq [oI 4 7] [4] .ret) .skip)) (.seq (sq [ZF 41 0 2,ZL 42 1 41,ZC 43 140 42] [1,2,
 43] (.cond (.t 43) (sq [ZF 44 3 2,ZM 45 4 44,ZC 46 91 45,oV 5 46] [1,2,5] (.seq (.ops [oV 47 5,Wn 48 47 0] [1,2,5,48]) (.cond (.t 48) (sq [oV 49 5,oV 4 49] [4] .ret) .skip))) .skip)) (.seq (sq [ZF 50 0 2,ZL 51 1 50,We 52 51 6,oV 53 52,oG 54 53 (.mv (.t 1)),ZQ 55 53 54] [2,55] (.cond (.t 55) (sq [oI 4 13] [4] .ret) .skip)) (.seq (sq [ZF 56 0 2,ZL 57 1 56,We 58 57 7] [2,
 58] (.cond (.t 58) (sq [ZF 59 8 2,ZL 60 1 59,oM 61 (.ia 9 (.t 60) (kI 0)),ZM 62 9 61,ZC 63 142 62,oM 6 (.new 92 [.nil]),oS 1 6 63] [2,6] (sq [ZF 64 3 2,ZM 65 4 64,ZC 66 144 65,oM 67 (.mkfn 145 [.t 6]),ZD 68 143 66 67] [68] (.cond (.t 68) (sq [oI 4 13] [4] .ret) .skip))) .skip)) (sq [oI 4 0] [4] .ret))))))
def Ks:List RV:=[.t 4 false]
theorem Q0:aM G.tab Tryz.f106 2 Nc Ks=true:=by kernel_rfl
def c145:Cd:=sq [oM 3 (.mv kF)] [0,1] (sq [ZL 4 1 1,oV 5 0,ZD 6 121 4 5,oV 3 6] [3] .ret)
def MX:List RV:=[.t 3 false]
theorem Q4:aM G.tab Tryz.f145 2 c145 MX=true:=by kernel_rfl
def Mf:Cd:=sq [ZB 1 27 0,oM 2 (.mv kF)] [1] (.seq (.draw [ZF 7 1 1,ZL 8 1 7,We 9 8 0,oV 10 9,oG 11 10 (zF 2 1),oG 12 10 (zL 1 11),oG 13 10 (we 12 0),ZQ 14 10 13,oI 3 1,oI 4 1,oV 5 14] [1,3,4,5]) (sq [ZF 15 1 1,ZL 16 1 15,ZF 17 2 1,ZL 18 1 17,Yq 19 16 18,oV 20 19,oG 21 20 (zF 2 1),oG 22 20 (zL 1 21),oG 23 20 (wq 22 16),ZQ 24 20 23,oV 6 24] [1,3,4,5,6] (.seq (sq [ZF 25 0 1,ZL 26 1 25] [1,3,4,5,6,
 26] (.block 0 (sq [We 28 26 1,oV 27 28] [1,3,4,5,6,26,27] (.cond (.t 27) (.ops [oI 3 0,oI 4 0] [1,3,4,5]) (sq [We 30 26 2,oV 29 30] [1,3,4,5,6,26,29] (.cond (.t 29) (.ops [ZF 31 1 1,ZL 32 1 31,Wh 33 32 0,oV 34 33,oG 35 34 (.mv (.t 6)),ZQ 36 34 35,oI 3 2,oI 4 2,oV 5 36] [1,3,4,5]) (sq [We 38 26 3,oV 37 38] [1,3,4,5,6,26,37] (.cond (.t 37) (.ops [ZF 39 1 1,ZL 40 1 39,Wh 41 40 1,oV 42 41,
 oG 43 42 (.mv (.t 6)),ZQ 44 42 43,oV 5 44] [1,3,4,5]) (.seq (sq [We 46 26 4,oV 45 46] [1,3,4,5,26,45] (.cond (.t 45) .skip (.ops [We 47 26 5,oV 45 47] [1,3,4,5,26,45]))) (.cond (.t 45) (.ops [oI 3 2,oI 4 8] [1,3,4,5]) (.seq (sq [We 49 26 6,oV 48 49] [1,3,4,5,26,48] (.cond (.t 48) .skip (.ops [We 50 26 7,oV 48 50] [1,3,4,5,
 48]))) (.cond (.t 48) .skip (sq [oM 2 (.mv kF)] [2] .ret))))))))))))) (sq [ZF 51 8 1,ZL 52 1 51,ZN 53 52,oV 54 3,Yh 55 53 54,oV 56 55,oG 57 56 (zF 8 1),oG 58 56 (zL 1 57),oG 59 56 (zN 58),oG 60 56 (.mv (.t 4)),oG 61 56 (yq 59 60),ZQ 62 56 61,oV 63 62,oG 64 63 (.mv (.t 5)),ZQ 65 63 64,oV 2 65] [2] .ret))))
def KF:List RV:=[.t 2 false]
theorem QS:aM G.tab Tryz.f139 1 Mf KF=true:=by kernel_rfl
def Pz:Cd:=sq [oM 2 (.mv kF)] [0] (sq [oV 3 0,We 4 3 1,oV 5 4,oH 6 5 (.mv (.t 0)),oH 7 5 (we 6 6),ZP 8 5 7,oV 9 8,oH 10 9 (.mv (.t 0)),oH 11 9 (we 10 7),ZP 12 9 11,oV 2 12] [2] .ret)
def MQ:List RV:=[.t 2 false]
theorem RL:aM G.tab Tryz.f140 1 Pz MQ=true:=by kernel_rfl
def N5:Cd:=sq [ZB 1 24 0,oM 2 (.mv kF)] [1] (sq [ZF 3 0 1,ZL 4 1 3,We 5 4 0,oV 6 5,oG 7 6 (zF 1 1),oG 8 6 (zL 1 7),oG 9 6 (we 8 0),ZQ 10 6 9,oV 11 10,oG 12 11 (zF 2 1),oG 13 11 (zL 1 12),oG 14 11 (.bin .eql (.t 13) (kS ⟨#[]⟩)),ZQ 15 11 14,oV 16 15,oG 17 16 (zF 3 1),oG 18 16 (zL 1 17),oG 19 16 (zN 18),oG 20 16 (we 19 0),ZQ 21 16 20,oV 2 21] [2] .ret)
def Ns:List RV:=[.t 2 false]
theorem PX:aM G.tab Tryz.f141 1 N5 Ns=true:=by kernel_rfl
def c50:Cd:=sq [ZB 2 27 0,ZB 3 27 1,oM 4 (.mv kF)] [2,3] (sq [ZF 5 0 2,ZL 6 1 5,ZF 7 0 3,ZL 8 1 7,Ye 9 6 8,oV 10 9,oG 11 10 (zF 1 2),oG 12 10 (zL 1 11),oG 13 10 (zF 1 3),oG 14 10 (zL 1 13),oG 15 10 (ye 12 14),ZQ 16 10 15,oV 17 16,oG 18 17 (zF 2 2),oG 19 17 (zL 1 18),oG 20 17 (zF 2 3),oG 21 17 (zL 1 20),oG 22 17 (ye 19 21),ZQ 23 17 22,oV 24 23,oG 25 24 (zF 7 2),oG 26 24 (zL 1 25),oG 27 24 (zF 7 3),
 oG 28 24 (zL 1 27),oG 29 24 (ye 26 28),ZQ 30 24 29,oV 31 30,oG 32 31 (zF 3 2),oG 33 31 (zM 4 32),oG 34 31 (zF 3 3),oG 35 31 (zM 4 34),oG 36 31 (zD 86 33 35),ZQ 37 31 36,oV 38 37,oG 39 38 (zF 8 2),oG 40 38 (zL 1 39),oG 41 38 (zF 8 3),oG 42 38 (zL 1 41),⟨some 43,.call 87 [.t 40,.t 42,.k (.fn 50 [])],(some (38,true))⟩,ZQ 44 38 43,oV 4 44] [4] .ret)
def ON:List RV:=[.t 4 false]
theorem k50:aM G.tab Tryz.f50 2 c50 ON=true:=by kernel_rfl
def c13:Cd:=sq [ZB 2 27 0,ZB 3 27 1,oM 4 (.mv kF)] [2,3] (.seq (sq [ZF 6 0 2,ZL 7 1 6,ZF 8 0 3,ZL 9 1 8,Yn 10 7 9,oV 11 10,oH 12 11 (zF 1 2),oH 13 11 (zL 1 12),oH 14 11 (zF 1 3),oH 15 11 (zL 1 14),oH 16 11 (yn 13 15),ZP 17 11 16,oV 18 17,oH 19 18 (zF 2 2),oH 20 18 (zL 1 19),oH 21 18 (zF 2 3),oH 22 18 (zL 1 21),oH 23 18 (yn 20 22),ZP 24 18 23,oV 25 24,oH 26 25 (zF 7 2),oH 27 25 (zL 1 26),
 oH 28 25 (zF 7 3),oH 29 25 (zL 1 28),oH 30 25 (yn 27 29),ZP 31 25 30,oV 32 31,oH 33 32 (zF 8 2),oH 34 32 (zL 1 33),oH 35 32 (zN 34),oH 36 32 (zF 8 3),oH 37 32 (zL 1 36),oH 38 32 (zN 37),oH 39 32 (yn 35 38),ZP 40 32 39,oV 41 40,oH 42 41 (zF 3 2),oH 43 41 (zM 4 42),oH 44 41 (zF 3 3),oH 45 41 (zM 4 44),oH 46 41 (zD 34 43 45),oH 47 41 (zU 46),ZP 48 41 47] [2,3,
 48] (.cond (.t 48) (sq [oM 4 (.mv kF)] [4] .ret) .skip)) (.seq (sq [oI 5 0] [2,3,5] (.block 0 (.loop (.seq (sq [oV 49 5,ZF 50 8 2,ZL 51 1 50,ZN 52 51,Yl 53 49 52] [2,3,5,53] (.cond (.t 53) .skip (.exit 0))) (.seq (.block 1 (.seq (.draw [ZF 56 8 2,ZL 57 1 56,oV 58 5,ZI 59 9 57 58,ZM 60 9 59,ZF 61 8 3,ZL 62 1 61,oV 63 5,ZI 64 9 62 63,ZM 65 9 64,ZD 66 13 60 65,ZU 67 66] [2,3,5,
 67]) (.cond (.t 67) (sq [oM 4 (.mv kF)] [4] .ret) (.skip)))) (.ops [oV 54 5,Wa 55 54 1,oV 5 55] [2,3,5])))))) (sq [oM 4 (.mv kT)] [4] .ret)))
def Pu:List RV:=[.t 4 false]
theorem k13:aM G.tab Tryz.f13 2 c13 Pu=true:=by kernel_rfl
def c74:Cd:=sq [ZB 1 24 0,oM 2 (.mv kF)] [1] (sq [ZF 3 0 1,ZL 4 1 3,We 5 4 0,oV 6 5,oG 7 6 (zF 1 1),oG 8 6 (zL 1 7),oG 9 6 (we 8 0),ZQ 10 6 9,oV 11 10,oG 12 11 (zF 2 1),oG 13 11 (zL 1 12),oG 14 11 (.bin .eql (.t 13) (kS ⟨#[]⟩)),ZQ 15 11 14,oV 16 15,oG 17 16 (zF 3 1),oG 18 16 (zL 1 17),oG 19 16 (zN 18),oG 20 16 (we 19 0),ZQ 21 16 20,oV 2 21] [2] .ret)
def Qw:List RV:=[.t 2 false]
theorem k74:aM G.tab Tryz.f74 1 c74 Qw=true:=by kernel_rfl
def c38:Cd:=sq [ZB 1 27 0,oM 2 (.mv kF)] [1] (sq [ZF 3 0 1,ZL 4 1 3,We 5 4 0,oV 6 5,oG 7 6 (zF 1 1),oG 8 6 (zL 1 7),oG 9 6 (we 8 0),ZQ 10 6 9,oV 11 10,oG 12 11 (zF 2 1),oG 13 11 (zL 1 12),oG 14 11 (we 13 0),ZQ 15 11 14,oV 16 15,oG 17 16 (zF 3 1),oG 18 16 (zM 4 17),oG 19 16 (zC 74 18),ZQ 20 16 19,oV 21 20,oG 22 21 (zF 7 1),oG 23 21 (zL 1 22),oG 24 21 (.bin .eql (.t 23) (kS ⟨#[]⟩)),ZQ 25 21 24,
 oV 26 25,oG 27 26 (zF 8 1),oG 28 26 (zL 1 27),oG 29 26 (zN 28),oG 30 26 (we 29 0),ZQ 31 26 30,oV 2 31] [2] .ret)
def Oo:List RV:=[.t 2 false]
theorem k38:aM G.tab Tryz.f38 1 c38 Oo=true:=by kernel_rfl
def c39:Cd:=sq [ZB 3 27 0,oI 6 0] [1,2,3] (.seq (sq [oV 8 1,Wl 9 8 1,oV 10 9,oH 11 10 (.mv (.t 2)),oH 12 10 (wl 11 1),ZP 13 10 12] [1,2,3,13] (.cond (.t 13) (sq [oI 6 (-1)] [6] .ret) .skip)) (sq [oV 14 1,Ws 15 14 1,oV 1 15] [1,2,3] (.seq (sq [oI 7 0] [1,2,3,7] (.block 0 (.loop (.seq (sq [oV 16 7,ZF 17 8 3,ZL 18 1 17,ZN 19 18,Yl 20 16 19] [1,2,3,7,
 20] (.cond (.t 20) .skip (.exit 0))) (.seq (.block 1 (sq [ZF 23 8 3,ZL 24 1 23,oV 25 7,ZI 26 9 24 25,ZM 27 9 26,oV 28 1,oV 29 2,Ws 30 29 1,ZE 31 39 27 28 30,oV 1 31] [1,2,3,7] (sq [oV 32 1,Wl 33 32 0] [1,2,3,7,33] (.cond (.t 33) (sq [oI 6 (-1)] [6] .ret) .skip)))) (.ops [oV 21 7,Wa 22 21 1,oV 7 22] [1,2,3,7])))))) (sq [oV 34 1,oV 6 34] [6] .ret))))
def MU:List RV:=[.t 6 false]
theorem k39:aM G.tab Tryz.f39 3 c39 MU=true:=by kernel_rfl
def c75:Cd:=sq [ZB 1 27 0,oM 2 (.mv kF)] [1] (sq [ZF 7 8 1,ZL 8 1 7,ZN 9 8,oV 3 9] [1,3] (sq [ZF 10 1 1,ZL 11 1 10,Wh 12 11 0,oV 13 12,oG 14 13 (zF 1 1),oG 15 13 (zL 1 14),oG 16 13 (zF 2 1),oG 17 13 (zL 1 16),oG 18 13 (yq 15 17),ZQ 19 13 18,oV 20 19,oG 21 20 (zF 2 1),oG 22 20 (zL 1 21),oG 23 20 (wq 22 16),ZQ 24 20 23,oV 4 24] [1,3,4] (sq [ZF 25 1 1,ZL 26 1 25,We 27 26 0,oV 28 27,oG 29 28 (zF 2 1),
 oG 30 28 (zL 1 29),oG 31 28 (we 30 0),ZQ 32 28 31,oV 5 32] [1,3,4,5] (sq [ZF 33 3 1,ZM 34 4 33,ZC 35 74 34,oV 36 35,oG 37 36 (zF 7 1),oG 38 36 (zL 1 37),oG 39 36 (.bin .eql (.t 38) (kS ⟨#[]⟩)),ZQ 40 36 39,oV 6 40] [1,3,4,5,6] (.seq (sq [ZF 41 0 1,ZL 42 1 41] [1,3,4,5,6,42] (.block 0 (sq [We 44 42 1,oV 43 44] [1,3,4,5,6,42,43] (.cond (.t 43) (sq [oV 45 3,We 46 45 0,oV 47 46,oG 48 47 (.mv (.t 5)),
 ZQ 49 47 48,oV 50 49,oG 51 50 (zF 7 1),oG 52 50 (zL 1 51),oG 53 50 (.bin .eql (.t 52) (kS ⟨#[]⟩)),ZQ 54 50 53,oV 2 54] [2] (.ret)) (sq [We 56 42 2,oV 55 56] [1,3,4,5,6,42,55] (.cond (.t 55) (sq [oV 57 3,We 58 57 2,oV 59 58,oG 60 59 (.mv (.t 4)),ZQ 61 59 60,oV 62 61,oG 63 62 (.mv (.t 6)),ZQ 64 62 63,oV 2 64] [2] .ret) (sq [We 66 42 3,oV 65 66] [1,3,4,5,6,42,65] (.cond (.t 65) (sq [oV 67 3,
 We 68 67 1,oV 69 68,oG 70 69 (.mv (.t 4)),ZQ 71 69 70,oV 72 71,oG 73 72 (zF 1 1),oG 74 72 (zL 1 73),oG 75 72 (wh 74 1),ZQ 76 72 75,oV 77 76,oG 78 77 (.mv (.t 6)),ZQ 79 77 78,oV 2 79] [2] .ret) (.seq (sq [We 81 42 4,oV 80 81] [1,3,5,6,42,80] (.cond (.t 80) .skip (.ops [We 82 42 5,oV 80 82] [1,3,5,6,42,80]))) (.cond (.t 80) (sq [oV 83 3,Wh 84 83 2,oV 85 84,oG 86 85 (.mv (.t 3)),oG 87 85 (wq 86 8),
 ZQ 88 85 87,oV 89 88,oG 90 89 (.mv (.t 5)),ZQ 91 89 90,oV 92 91,oG 93 92 (.mv (.t 6)),ZQ 94 92 93,oV 2 94] [2] .ret) (.seq (.ops [We 96 42 6,oV 95 96] [1,3,5,42,95]) (.cond (.t 95) (sq [oV 97 3,We 98 97 1,oV 99 98,oG 100 99 (.mv (.t 5)),ZQ 101 99 100,oV 2 101] [2] .ret) (sq [We 103 42 7,oV 102 103] [1,3,5,102] (.cond (.t 102) (sq [oV 104 3,We 105 104 1,oV 106 105,oG 107 106 (.mv (.t 5)),
 ZQ 108 106 107,oV 109 108,oG 110 109 (zF 7 1),oG 111 109 (zL 1 110),oG 112 109 (.bin .eql (.t 111) (kS ⟨#[]⟩)),ZQ 113 109 112,oV 2 113] [2] .ret) .skip)))))))))))))) (sq [oM 2 (.mv kF)] [2] .ret))))))
def QI:List RV:=[.t 2 false]
theorem k75:aM G.tab Tryz.f75 1 c75 QI=true:=by kernel_rfl
def c78:Cd:=sq [ZB 2 27 0,oM 4 (.nilo 9 1)] [1,2] (.seq (sq [ZM 6 9 2,oM 7 (.call 39 [.t 6,.k (.d (.lit (.int .i64 100))),.k (.d (.lit (.int .i64 8)))]),Wl 8 7 0] [1,2,8] (.cond (.t 8) (sq [oM 9 (.mvo 1),oM 4 (.mvo 9)] [4] .ret) .skip)) (.seq (sq [ZF 10 0 2,ZL 11 1 10,We 12 11 6] [1,2,12] (.cond (.t 12) (.ops [oM 13 (.mvo 1),ZF 14 7 2,ZL 15 1 14,oM 16 (.mks 9 1 [.t 15]),
 oM 17 (.app 9 1 16 13 (.t 16)),oM 1 (.mvo 17)] [1,2]) .skip)) (.seq (sq [oI 5 0] [1,2,5] (.block 0 (.loop (.seq (sq [oV 18 5,ZF 19 8 2,ZL 20 1 19,ZN 21 20,Yl 22 18 21] [1,2,5,22] (.cond (.t 22) .skip (.exit 0))) (.seq (.block 1 (.ops [ZF 25 8 2,ZL 26 1 25,oV 27 5,ZI 28 9 26 27,ZM 29 9 28,oM 30 (.mvo 1),oM 31 (.callm (.k (.fn 78 [])) [.t 29] 30),oM 1 (.mvo 31)] [1,2,5])) (.ops [oV 23 5,Wa 24 23 1,
 oV 5 24] [1,2,5])))))) (sq [oM 32 (.mvo 1),oM 4 (.mvo 32)] [4] .ret))))
def QH:List RV:=[.t 4 true]
theorem k78:aM G.tab Tryz.f78 2 c78 QH=true:=by kernel_rfl
def c79:Cd:=sq [oM 4 (.mv kF)] [0,1] (.seq (sq [oI 5 0] [0,1,5] (.block 0 (.loop (.seq (sq [oV 6 5,oV 7 0,ZN 8 7,Yl 9 6 8] [0,1,5,9] (.cond (.t 9) .skip (.exit 0))) (.seq (.block 1 (sq [oV 12 0,oV 13 5,ZI 14 1 12 13,ZL 15 1 14,oV 16 1,Ye 17 15 16] [0,1,5,17] (.cond (.t 17) (sq [oM 4 (.mv kT)] [4] .ret) .skip))) (.ops [oV 10 5,Wa 11 10 1,oV 5 11] [0,1,5])))))) (sq [oM 4 (.mv kF)] [4] .ret))
def Ri:List RV:=[.t 4 false]
theorem k79:aM G.tab Tryz.f79 2 c79 Ri=true:=by kernel_rfl
def c40:Cd:=sq [ZB 2 27 0,oI 4 0] [1,2] (.seq (sq [ZM 11 9 2,ZC 12 75 11,ZU 13 12] [1,2,13] (.cond (.t 13) (sq [oI 4 1] [4] .ret) .skip)) (.seq (sq [ZF 14 0 2,ZL 15 1 14,We 16 15 6,oV 17 16,oG 18 17 (zF 7 2),oG 19 17 (zL 1 18),oG 20 17 (zC 37 19),oG 21 17 (zU 20),ZQ 22 17 21] [1,2,22] (.cond (.t 22) (sq [oI 4 7] [4] .ret) .skip)) (.seq (sq [ZF 23 0 2,ZL 24 1 23,We 25 24 1,oV 26 25,
 oH 27 26 (zF 0 2),oH 28 26 (zL 1 27),oH 29 26 (we 28 6),ZP 30 26 29,oV 31 30,oH 32 31 (zF 0 2),oH 33 31 (zL 1 32),oH 34 31 (we 33 7),ZP 35 31 34] [1,2,35] (.cond (.t 35) (sq [ZF 36 3 2,ZM 37 4 36,ZC 38 76 37,oV 5 38] [1,2,5] (sq [oV 39 5,Wn 40 39 0] [1,2,5,40] (.cond (.t 40) (sq [oV 41 5,oV 4 41] [4] (.ret)) .skip))) .skip)) (.seq (sq [ZF 42 0 2,ZL 43 1 42,We 44 43 6,oV 45 44,
 oG 46 45 (.mv (.t 1)),ZQ 47 45 46] [1,2,47] (.cond (.t 47) (sq [oI 4 13] [4] .ret) .skip)) (.seq (sq [ZF 48 0 2,ZL 49 1 48,We 50 49 7] [1,2,50] (.cond (.t 50) (.seq (.draw [ZF 51 3 2,ZM 52 4 51,ZC 53 77 52,ZF 54 8 2,ZL 55 1 54,oM 56 (.ia 9 (.t 55) (kI 0)),ZM 57 9 56,oM 58 (.calln 78 [.t 57,.k .nil]),oV 6 53,oV 7 58] [1,2,6,7]) (sq [oI 8 0] [1,2,6,7,8] (.block 0 (.loop (.seq (sq [oV 59 8,oV 60 6,
 ZN 61 60,Yl 62 59 61] [1,2,6,7,8,62] (.cond (.t 62) .skip (.exit 0))) (.seq (.block 1 (sq [oV 65 7,oV 66 6,oV 67 8,ZI 68 1 66 67,ZL 69 1 68,ZD 70 79 65 69] [1,2,6,7,8,70] (.cond (.t 70) (sq [oI 4 13] [4] .ret) .skip))) (.ops [oV 63 8,Wa 64 63 1,oV 8 64] [1,2,6,7,8]))))))) (.skip))) (.seq (sq [oI 9 0] [1,2,9] (.block 2 (.loop (.seq (sq [oV 71 9,ZF 72 8 2,ZL 73 1 72,ZN 74 73,Yl 75 71 74] [1,2,9,
 75] (.cond (.t 75) .skip (.exit 2))) (.seq (.block 3 (.seq (.draw [ZF 78 8 2,ZL 79 1 78,oV 80 9,ZI 81 9 79 80,ZM 82 9 81,oV 83 1,oV 84 83,oH 85 84 (zF 0 2),oH 86 84 (zL 1 85),oH 87 84 (we 86 5),ZP 88 84 87,ZD 89 40 82 88,oV 10 89] [1,2,9,10]) (sq [oV 90 10,Wn 91 90 0] [1,2,9,10,91] (.cond (.t 91) (sq [oV 92 10,oV 4 92] [4] .ret) .skip)))) (.ops [oV 76 9,Wa 77 76 1,oV 9 77] [1,2,
 9])))))) (sq [oI 4 0] [4] .ret)))))))
def LI:List RV:=[.t 4 false]
theorem k40:aM G.tab Tryz.f40 2 c40 LI=true:=by kernel_rfl
def c19:Cd:=sq [ZB 1 27 0,oI 2 0] [1] (.seq (sq [ZM 3 9 1,oM 4 (.call 39 [.t 3,.k (.d (.lit (.int .i64 100))),.k (.d (.lit (.int .i64 8)))]),Wl 5 4 0] [1,5] (.cond (.t 5) (sq [oI 2 2] [2] .ret) .skip)) (sq [ZM 6 9 1,oM 7 (.call 40 [.t 6,.k (.d (.lit (.bool false)))]),oV 2 7] [2] .ret))
def Ng:List RV:=[.t 2 false]
theorem k19:aM G.tab Tryz.f19 1 c19 Ng=true:=by kernel_rfl
def c18:Cd:=sq [ZB 1 29 0,oI 2 0] [1] (.seq (sq [ZF 4 0 1,ZL 5 1 4,ZC 6 37 5,ZU 7 6] [1,7] (.cond (.t 7) (sq [oI 2 7] [2] .ret) .skip)) (.seq (sq [ZF 8 1 1,ZL 9 1 8,oV 10 9,oG 11 10 (zF 2 1),oG 12 10 (zL 1 11),oG 13 10 (.mv (.t 12)),oH 14 13 (zF 3 1),oH 15 13 (zM 9 14),oH 16 13 (zC 38 15),oH 17 13 (zU 16),oG 18 10 (zP 13 17),ZQ 19 10 18] [1,
 19] (.cond (.t 19) (sq [oI 2 1] [2] .ret) .skip)) (.seq (sq [ZF 20 1 1,ZL 21 1 20,ZU 22 21] [1,22] (.cond (.t 22) (sq [ZF 23 3 1,ZM 24 9 23,ZC 25 19 24,oV 3 25] [1,3] (sq [oV 26 3,Wn 27 26 0] [1,3,27] (.cond (.t 27) (sq [oV 28 3,oV 2 28] [2] .ret) .skip))) .skip)) (sq [ZF 29 12 1,ZM 30 9 29,ZC 31 19 30,oV 2 31] [2] .ret))))
def OL:List RV:=[.t 2 false]
theorem k18:aM G.tab Tryz.f18 1 c18 OL=true:=by kernel_rfl
def PI:Cd:=sq [ZB 2 27 0,oI 4 0] [1,2] (sq [ZF 8 8 2,ZL 9 1 8,ZN 10 9,oM 11 (.mkc 3 1 8 (.t 10)),oM 5 (.mvo 11)] [1,2,5] (.seq (sq [ZF 12 8 2,ZL 13 1 12,ZN 14 13,oI 15 0] [1,2,5,13,14,15] (.block 0 (.loop (sq [Yl 16 15 14] [1,2,5,13,14,15,16] (.seq (.cond (.t 16) .skip (.exit 0)) (.seq (.block 1 (sq [ZI 17 9 13 15,ZM 18 9 17,oM 7 (.new 27 zz0),oS 9 7 18] [1,2,5,7,13,14,15] (.ops [oM 19 (.mvo 5),
 ZM 20 9 7,oV 21 1,ZD 22 101 20 21,oM 23 (.mks 3 1 [.t 22]),oM 24 (.app 3 1 8 19 (.t 23)),oM 5 (.mvo 24)] [1,2,5,13,14,15]))) (.ops [Wa 25 15 1,oV 15 25] [1,2,5,13,14,15]))))))) (sq [oV 26 1,ZM 27 9 2,oM 28 (.mvo 5),oM 29 (.callm (.t 26) [.t 27] 28),oV 4 29] [4] .ret)))
def NF:List RV:=[.t 4 false]
theorem Qm:aM G.tab Tryz.f101 2 PI NF=true:=by kernel_rfl
def c171:Cd:=sq [ZB 2 27 0,oM 4 (.nilo 9 1)] [1,2] (sq [ZF 8 8 2,ZL 9 1 8,ZN 10 9,oM 11 (.mkc 92 1 24 (.t 10)),oM 5 (.mvo 11)] [1,2,5] (.seq (sq [ZF 12 8 2,ZL 13 1 12,ZN 14 13,oI 15 0] [1,2,5,13,14,15] (.block 0 (.loop (sq [Yl 16 15 14] [1,2,5,13,14,15,16] (.seq (.cond (.t 16) .skip (.exit 0)) (.seq (.block 1 (sq [ZI 17 9 13 15,ZM 18 9 17,oM 7 (.new 27 zz0),oS 9 7 18] [1,2,5,7,13,14,
 15] (.ops [oM 19 (.mvo 5),ZM 20 9 7,oV 21 1,ZD 22 171 20 21,oM 23 (.mks 92 1 [.t 22]),oM 24 (.app 92 1 24 19 (.t 23)),oM 5 (.mvo 24)] [1,2,5,13,14,15]))) (.ops [Wa 25 15 1,oV 15 25] [1,2,5,13,14,15]))))))) (sq [oV 26 1,ZM 27 9 2,oM 28 (.mvo 5),oM 29 (.callm (.t 26) [.t 27] 28),oM 4 (.mvo 29)] [4] .ret)))
def OC:List RV:=[.t 4 true]
theorem Qt:aM G.tab Tryz.f171 2 c171 OC=true:=by kernel_rfl
def PB:Cd:=sq [ZB 1 27 0,oM 2 (.nilo 9 1)] [1] (sq [ZM 3 9 1,oM 4 (.call 171 [.t 3,.k (.fn 172 [])]),oM 2 (.mvo 4)] [2] .ret)
def ME:List RV:=[.t 2 true]
theorem RD:aM G.tab Tryz.f142 1 PB ME=true:=by kernel_rfl
def Nw:Cd:=sq [ZB 2 27 0,oM 4 (.nilo 9 1)] [1,2] (sq [oV 6 1,ZC 7 173 6,oM 5 (.mvo 7)] [2,5] (.seq (sq [ZF 8 0 2,ZL 9 1 8,We 10 9 6] [2,5,10] (.cond (.t 10) (.ops [oM 11 (.mvo 5),ZF 12 7 2,ZL 13 1 12,oM 14 (.mks 9 1 [.t 13]),oM 15 (.app 9 1 16 11 (.t 14)),oM 5 (.mvo 15)] [5]) (.skip))) (sq [oM 16 (.mvo 5),oM 4 (.mvo 16)] [4] .ret)))
def Kz:List RV:=[.t 4 true]
theorem Qa:aM G.tab Tryz.f172 2 Nw Kz=true:=by kernel_rfl
def c173:Cd:=sq [oM 2 (.nilo 9 1)] [0] (sq [oI 3 0] [0,3] (.seq (sq [oV 9 0,ZN 10 9,oI 11 0] [0,3,9,10,11] (.block 0 (.loop (sq [Yl 12 11 10] [0,3,9,10,11,12] (.seq (.cond (.t 12) .skip (.exit 0)) (.seq (.block 1 (sq [ZI 13 1 9 11,ZL 14 1 13,oV 5 14] [0,3,5,9,10,11] (sq [oV 15 3,oV 16 5,ZN 17 16,Ya 18 15 17,oV 3 18] [0,3,9,10,11] (sq [oV 19 3,Wl 20 19 0] [0,3,9,10,11,
 20] (.cond (.t 20) (.ops [oM 21 (.mki 9 (kS ⟨#[108,101,110,32,111,117,116,32,111,102,32,114,97,110,103,101]⟩)),⟨none,.pan (.t 21),none⟩] [0,3,9,10,11]) .skip))))) (.ops [Wa 22 11 1,oV 11 22] [0,3,9,10,11]))))))) (sq [oV 23 3,oM 24 (.calln 202 [.k .nil,.t 23]),oM 6 (.mvo 24)] [0,6] (.seq (sq [oV 25 0,ZN 26 25,oI 27 0] [6,25,26,27] (.block 2 (.loop (sq [Yl 28 27 26] [6,25,26,27,
 28] (.seq (.cond (.t 28) .skip (.exit 2)) (.seq (.block 3 (sq [ZI 29 1 25 27,ZL 30 1 29,oV 8 30] [6,8,25,26,27] (.ops [oM 31 (.mvo 6),oV 32 8,oM 33 (.app 9 1 16 31 (.t 32)),oM 6 (.mvo 33)] [6,25,26,27]))) (.ops [Wa 34 27 1,oV 27 34] [6,25,26,27]))))))) (sq [oM 35 (.mvo 6),oM 2 (.mvo 35)] [2] .ret)))))
def NU:List RV:=[.t 2 true]
theorem Qb:aM G.tab Tryz.f173 1 c173 NU=true:=by kernel_rfl
def OA:Cd:=sq [oI 2 0] [0] (.seq (sq [oV 5 0,ZN 6 5,Wl 7 6 1] [0,7] (.cond (.t 7) (.ops [oM 8 (.mki 9 (kS ⟨#[115,108,105,99,101,115,46,77,97,120,58,32,101,109,112,116,121,32,108,105,115,116]⟩)),⟨none,.pan (.t 8),none⟩] [0]) .skip)) (sq [oV 9 0,oM 10 (.ia 1 (.t 9) (kI 0)),ZL 11 1 10,oV 3 11] [0,3] (.seq (sq [oI 4 1] [0,3,4] (.block 0 (.loop (.seq (sq [oV 12 4,oV 13 0,ZN 14 13,Yl 15 12 14] [0,3,4,
 15] (.cond (.t 15) .skip (.exit 0))) (.seq (.block 1 (.ops [oV 18 3,oV 19 0,oV 20 4,ZI 21 1 19 20,ZL 22 1 21,oM 23 (.mx true (.t 18) (.t 22)),oV 3 23] [0,3,4])) (.ops [oV 16 4,Wa 17 16 1,oV 4 17] [0,3,4])))))) (.seq (.ops [oV 24 3,oV 2 24] [2]) .ret))))
def NZ:List RV:=[.t 2 false]
theorem Ra:aM G.tab Tryz.f103 1 OA NZ=true:=by kernel_rfl
def c143:Cd:=sq [oM 4 (.mv kF)] [0,1] (sq [oV 5 0,oV 6 1,ZD 7 174 5 6,Wh 8 7 0,oV 4 8] [4] .ret)
def OE:List RV:=[.t 4 false]
theorem Qp:aM G.tab Tryz.f143 2 c143 OE=true:=by kernel_rfl
def MO:Cd:=sq [oI 4 0] [0,1] (.seq (sq [oV 6 0,ZN 7 6,oI 8 0] [0,1,7,8] (.block 0 (.loop (sq [Yl 9 8 7] [0,1,7,8,9] (.seq (.cond (.t 9) .skip (.exit 0)) (.seq (.block 1 (sq [oV 10 8,oV 5 10] [0,1,5,7,8] (sq [oV 11 1,oV 12 0,oV 13 5,ZI 14 1 12 13,ZL 15 1 14,oM 16 (.callv (.t 11) [.t 15])] [0,1,5,7,8,16] (.cond (.t 16) (sq [oV 17 5,oV 4 17] [4] .ret) .skip)))) (.ops [Wa 18 8 1,oV 8 18] [0,1,7,
 8]))))))) (.seq (.ops [oI 4 (-1)] [4]) .ret))
def Oi:List RV:=[.t 4 false]
theorem QG:aM G.tab Tryz.f174 2 MO Oi=true:=by kernel_rfl
def c87:Cd:=sq [oM 6 (.mv kF)] [0,1,2] (.seq (sq [oV 10 0,ZN 11 10,oV 12 1,ZN 13 12,Yn 14 11 13] [0,1,2,14] (.cond (.t 14) (sq [oM 6 (.mv kF)] [6] .ret) .skip)) (.seq (sq [oV 15 0,ZN 16 15,oI 17 0] [1,2,15,16,17] (.block 0 (.loop (sq [Yl 18 17 16] [1,2,15,16,17,18] (.seq (.cond (.t 18) .skip (.exit 0)) (.seq (.block 1 (sq [oV 19 17,ZI 20 9 15 17,ZM 21 9 20,oM 8 (.new 27 zz0),oV 7 19,oS 9 8 21] [1,
 2,7,8,15,16,17] (sq [oV 22 1,oV 23 7,ZI 24 9 22 23,ZM 25 9 24,oM 9 (.new 27 zz0),oS 9 9 25] [1,2,8,9,15,16,17] (sq [oV 26 2,ZM 27 9 8,ZM 28 9 9,oM 29 (.callv (.t 26) [.t 27,.t 28]),ZU 30 29] [1,2,15,16,17,30] (.cond (.t 30) (sq [oM 6 (.mv kF)] [6] .ret) .skip))))) (.ops [Wa 31 17 1,oV 17 31] [1,2,15,16,17]))))))) (sq [oM 6 (.mv kT)] [6] .ret)))
def PY:List RV:=[.t 6 false]
theorem k87:aM G.tab Tryz.f87 3 c87 PY=true:=by kernel_rfl
end Go.Proofs.YthekkgfmagliiaaGreatDoor
namespace Go.Proofs.YthekkgfmagliiaaGreatDoor
open Go.RowKit
def dig(x:UInt8):Bool:=cZ x.toNat
theorem J6{x:UInt8}(h:dig x=true):inn x=true:=by unfold dig at h;simp[inn,fm,h]
theorem xx:∀l:Bs,((l.takeWhile inn).all dig=true/\l.takeWhile dig=l.takeWhile inn/\(l.drop (l.takeWhile dig).length).takeWhile inn=[])\/((l.takeWhile inn).all dig=false/\(l.drop (l.takeWhile dig).length).takeWhile inn≠[])
 | []=>.inl ⟨rfl,rfl,rfl⟩
 | a::l=>by
  by_cases h:dig a=true
  .rw[RU h,RU (J6 h)];simp only[R5,R0,List.all_cons,h,Bool.true_and];rcases xx l with⟨h1,h2,h3⟩|⟨h1,h2⟩
   .exact .inl ⟨h1,by rw[h2],h3⟩
   .exact .inr ⟨h1,h2⟩
  .rw[RW h];simp only[RX,List.drop_zero];by_cases hi:inn a=true
   .rw[RU hi];refine .inr ⟨by simp[h],by simp⟩
   .rw[RW hi];exact .inl ⟨rfl,rfl,rfl⟩
def Es(acc:Nat)(l:Bs):Nat:=l.foldl (fun n c=>10*n+(c.toNat-48)) acc
theorem BZ:∀(l:Bs) (acc:Nat),acc≤Es acc l
 | [],acc=>Nat.le_refl _
 | c::r,acc=>by have:=BZ r (10*acc+(c.toNat-48));simp only[Es,List.foldl_cons]at this ⊢;omega
theorem tX:∀(l:Bs) (acc:Nat),(∀x,x∈l->dig x=true)->acc≤18446744073709551615->Lib.parseUintM 18446744073709551615 acc l=if Es acc l≤18446744073709551615 then .ok (Es acc l)else .range
 | [],acc,_,h=>(if_pos h).symm
 | c::r,acc,hd,h=>by
  have hc:=hd c (by simp);simp only[dig,cZ,RS,decide_eq_true_eq]at hc;have hge:=BZ r (10*acc+(c.toNat-48));have hst:Es acc (c::r)=Es (10*acc+(c.toNat-48)) r:=rfl;rw[hst,Lib.parseUintM,if_pos (by omega)];split
  .rw[if_neg (by omega)]
  .split
   .rw[if_neg (by omega)]
   .rw[show acc*10+(c.toNat-48)=10*acc+(c.toNat-48)by omega];exact tX r _ (fun x hx=>hd x (by simp[hx])) (by omega)
theorem od{l:Bs}(h0:l≠[])(hd:∀x,x∈l->dig x=true):Lib.parseIntB 64 l=if eS l≤9223372036854775807 then .ok (eS l)else .range:=by
 match l,h0 with
 | c::r,_=>
  have hc:=hd c (by simp);simp only[dig,cZ,RS,decide_eq_true_eq]at hc;rw[Lib.parseIntB_plain 64 c r (by omega) (by omega)];have hp:=tX (c::r) 0 hd (by omega)
  have hu:Lib.parseUintB 64 (c::r)=if eS (c::r)≤18446744073709551615 then .ok (eS (c::r))else .range:=by
   unfold Lib.parseUintB;rw[if_neg (by simp)];exact hp
  rw[hu];generalize eS (c::r)=v;by_cases h1:v≤18446744073709551615
  .rw[if_pos h1];simp only[Lib.signlessC];by_cases h2:v≤9223372036854775807
   .rw[if_pos h2,if_neg (by omega)]
   .rw[if_neg h2,if_pos (by omega)]
  .rw[if_neg h1,if_neg (by omega)];rfl
structure ByteP(q:UInt8->Bool)(p:Int->Bool):Prop where
 low:∀b:UInt8,b.toNat<128->p b.toNat=q b
 high:∃v,(∀c:Int,128≤c->p c=v)/\∀b:UInt8,128≤b.toNat->q b=v
theorem Hr(s:ByteArray)(k:Nat)(h:k<s.size):s.get! k=s[k]'h:=by
 simp[ByteArray.get!,getElem!_pos,h];rfl
theorem jk(s:ByteArray)(k:Nat)(h:k<s.size):s.data.toList[k]? = some (s[k]'h):=by
 have h1:s.data.toList.length=s.size:=Lib.size_eq s;rw[RY (by omega)];rfl
theorem xN(s:ByteArray)(pos:Nat)(h:pos<s.size)(ha:128≤(s[pos]'h).toNat):1≤(Utf8.decode s pos).2/\∀k,k<(Utf8.decode s pos).2->∃hk:pos+k<s.size,128≤(s[pos+k]'hk).toNat:=by
 have e0:s.get! (pos+0)=s[pos]'h:=Hr s pos h;have e2:¬(s[pos]'h).toNat<128:=by omega
 have one:∀k,k<1->∃hk:pos+k<s.size,128≤(s[pos+k]'hk).toNat:=fun k hk=>by
  have:k=0:=by omega
  subst this;exact⟨h,ha⟩
 have cont:∀k,(decide (pos+k<s.size)&&((s.get! (pos+k)).toNat/64==2))=true->∃hk:pos+k<s.size,128≤(s[pos+k]'hk).toNat:=fun k hk=>by
  simp only[RS,decide_eq_true_eq,beq_iff_eq]at hk;refine⟨hk.1,?_⟩;have:=hk.2;rw[Hr s _ hk.1]at this;omega
 simp only[Utf8.decode,e0,e2,if_false];split
 .rename_i h1;simp only[RS]at h1;split
  .refine⟨by omega,fun k hk=>?_⟩;have:k=0\/k=1:=by simp only at hk;omega
   rcases this with rfl|rfl
   .exact⟨h,ha⟩
   .exact cont 1 (by simpa using h1.2)
  .exact⟨by omega,one⟩
 .split
  .rename_i h1;simp only[RS]at h1;split
   .refine⟨by omega,fun k hk=>?_⟩;have:k=0\/k=1\/k=2:=by simp only at hk;omega
    rcases this with rfl|rfl|rfl
    .exact⟨h,ha⟩
    .exact cont 1 (by simpa using h1.1.2)
    .exact cont 2 (by simpa using h1.2)
   .exact⟨by omega,one⟩
  .split
   .rename_i h1;simp only[RS]at h1;split
    .refine⟨by omega,fun k hk=>?_⟩;have:k=0\/k=1\/k=2\/k=3:=by simp only at hk;omega
     rcases this with rfl|rfl|rfl|rfl
     .exact⟨h,ha⟩
     .exact cont 1 (by simpa using h1.1.1.2)
     .exact cont 2 (by simpa using h1.1.2)
     .exact cont 3 (by simpa using h1.2)
    .exact⟨by omega,one⟩
   .exact⟨by omega,one⟩
theorem Fc(q:UInt8->Bool):∀(n:Nat) (l:Bs),(∀k,k<n->∃b,l[k]? = some b/\q b=true)->(l.takeWhile q).length=n+((l.drop n).takeWhile q).length
 | 0,l,_=>by simp
 | n+1,[],h=>by obtain⟨b,h1,-⟩:=h 0 (by omega);simp at h1
 | n+1,a::l,h=>by
  obtain⟨b,h1,h2⟩:=h 0 (by omega);simp only[List.getElem?_cons_zero,Option.some.injEq]at h1;subst h1;have:=Fc q n l (fun k hk=>by obtain⟨b,h3,h4⟩:=h (k+1) (by omega);exact⟨b,by simpa using h3,h4⟩);rw[RU h2,R0,R5,this];omega
theorem Iz(F:FuncId)(cap:Array Value)(q:UInt8->Bool)(p:Int->Bool)(hq:ByteP q p)(hF:∀args w,(callFunc F args).run Tryz.prog w=.ok (.enter F args) w)
 (H:∀(c:Int) (w:World),Calls Tryz.prog F (#[.int .i32 c]++cap) w fun e w'=>e=.returned (.bool (p c))/\w=w')(s:ByteArray)(w:World)(hs:s.size≤9223372036854775807):
 Calls Tryz.prog 112 #[.string s,.func (.func F) #[] cap] w fun e w'=>e=.returned (.int .i64 (s.data.toList.takeWhile q).length)/\Ext w w':=by
 have HH:=Lib.hid H;clear H;obtain⟨N,hN⟩:∃N,N=(s.data.toList.takeWhile q).length:=⟨_,rfl⟩
 rw[<-hN];have HN:=Lib.hid hN;clear hN;have HQ:=Lib.hid hq;clear hq;go_enter Tryz.func112,Tryz.ntmps112;go_wp2_with fail;go_loopw [5,6] (fun _ _ wr=>∃pos:Nat,pos≤s.size/\wr=w.iter s pos/\N=pos+((s.data.toList.drop pos).takeWhile q).length) (fun _ _ wr=>match wr.heap[w.heap.size]? with|some (.stringIter _ p)=>s.size-p|_=>0);case atStart=>exact⟨0,Nat.zero_le _,rfl,by rw[HN.out];simp⟩
 case round=>
  obtain⟨pos,hp,rfl,hb⟩:=hrel;have HB:=Lib.hid hb;clear hb;by_cases hlt:pos<s.size
  .have hnx:=fun ty=>oh (P:=Tryz.prog) w s pos ty hlt;have hl:s.data.toList[pos]? = some (s[pos]'hlt):=jk s pos hlt
   have hpq:p (Utf8.decode s pos).1=q (s[pos]'hlt)/\(q (s[pos]'hlt)=true->1≤(Utf8.decode s pos).2/\pos+(Utf8.decode s pos).2≤s.size/\N=pos+(Utf8.decode s pos).2+((s.data.toList.drop (pos+(Utf8.decode s pos).2)).takeWhile q).length):=by
    have adv:∀n,(∀k,k<n->∃hk:pos+k<s.size,q (s[pos+k]'hk)=true)->pos+n≤s.size/\N=pos+n+((s.data.toList.drop (pos+n)).takeWhile q).length:=fun n h=>by
     have h1:pos+n≤s.size:=by
      cases n with
      | zero=>omega
      | succ n=>obtain⟨hk,-⟩:=h n (by omega);omega
     refine⟨h1,?_⟩;rw[HB.out,Fc q n _ (fun k hk=>?_),List.drop_drop]
     .omega
     .obtain⟨hk2,h3⟩:=h k hk;exact⟨_,by rw[List.getElem?_drop];exact jk s _ hk2,h3⟩
    by_cases ha:(s[pos]'hlt).toNat<128
    .rw[decode_ascii s pos hlt ha];refine⟨HQ.out.low _ ha,fun h=>⟨by omega,adv 1 fun k hk=>?_⟩⟩;have:k=0:=by omega
     subst this;exact⟨hlt,h⟩
    .obtain⟨v,h1,h2⟩:=HQ.out.high;have hd:=lE s pos hlt (by omega);obtain⟨g1,g2⟩:=xN s pos hlt (by omega);rw[h1 _ (by omega),h2 _ (by omega)];refine⟨rfl,fun h=>⟨g1,adv _ fun k hk=>?_⟩⟩;obtain⟨g3,g4⟩:=g2 k hk;exact⟨g3,by rw[h2 _ g4];exact h⟩
   have HPQ:=Lib.hid hpq;clear hpq;generalize hrd:(Utf8.decode s pos).1=rn at *;generalize hwd:(Utf8.decode s pos).2=wd at *;cases hqv:q (s[pos]'hlt)with
   | true=>
    go_wp2_with fail;refine(HH.out _ _).mono ?_;rintro e2 w2 ⟨rfl,rfl⟩;have hpv:=HPQ.out.1;rw[hqv]at hpv;rw[hpv];obtain⟨g1,g2,g3⟩:=HPQ.out.2 hqv;go_wp2_with fail;go_roundw;case rel=>exact⟨pos+wd,g2,rfl,g3⟩
    case measure=>simp[World.iter_heap];omega
   | false=>
    go_wp2_with fail;refine(HH.out _ _).mono ?_;rintro e2 w2 ⟨rfl,rfl⟩;have hpv:=HPQ.out.1;rw[hqv]at hpv;rw[hpv];go_wp2_with fail;go_ret;refine⟨cv ?_,(Ext.refl w).iter _ _⟩
    have hnil:(s.data.toList.drop pos).takeWhile q=[]:=by
     rw[List.drop_eq_getElem_cons (by have:=Lib.size_eq s;omega)]
     have:s.data.toList[pos]'(by have:=Lib.size_eq s;omega)=s[pos]'hlt:=by
      have h9:=RY (l:=s.data.toList) (i:=pos) (by have:=Lib.size_eq s;omega);rw[hl]at h9;exact(Option.some.inj h9).symm
     rw[RW (by rw[this,hqv];decide)]
    have h8:=HB.out;rw[hnil]at h8;simp only[RX,Nat.add_zero]at h8;rw[h8]
  .have:pos=s.size:=by omega
   subst this;have hnx:=fun ty=>run_next_end (P:=Tryz.prog) w s s.size ty (by omega);go_wp2_with fail;go_ret;refine⟨cv ?_,(Ext.refl w).iter _ _⟩;have h8:=HB.out;rw[List.drop_of_length_le (by have:=Lib.size_eq s;omega)]at h8;simp only[List.takeWhile_nil,RX,Nat.add_zero]at h8;rw[h8]
abbrev ab(n:Int):D:=.lit (.int .i64 n)
abbrev ae(s:ByteArray):D:=.lit (.string s)
def dA(l:List ByteArray):D:=.sl (l.map fun s=>[ae s])
section
variable {M : aq} {w : World}
theorem kz{bm:List Nat}(hM:M.hold w){l:List ByteArray}{v:Value}(h:Rep M bm (.d (dA l)) v):dR w l v:=by
 cases h with
 | d h=>
 unfold dA at h;generalize hrs:(l.map fun s=>[ae s])=rows at h;have hlen:rows.length=l.length:=by rw[<-hrs];simp
 cases h with
 | sl _ k p cap val hk hd hf hc hm=>
 rw[hlen];refine⟨p,cap,rfl,by omega,hm,fun i s hi=>?_⟩;have hil:=(List.getElem?_eq_some_iff.1 hi).1;have hir:i<rows.length:=by omega
 obtain⟨b,off,rfl,h6⟩:=hf i hir;have hri:rows[i]=[ae s]:=by subst hrs;simp[(List.getElem?_eq_some_iff.1 hi).2]
 have hk1:k=1:=by rw[<-hk _ (List.getElem_mem hir),hri];rfl
 subst hk1;refine⟨b,off,rfl,?_⟩;have h7:=h6 0 (by omega);have h8:=hd i 0 hir (by rw[hri];simp);simp only[hri,RZ,ae]at h8;generalize hv:val i 0=u at h7 h8;cases h8 with|lit _ _=>
 have:=hM _ _ _ h7;simpa using this
theorem qr(hG:G.cells M)(hM:M.hold w):o8 w:=by
 obtain⟨val,h1,h2⟩:=hG 0 [dA dn] (by rfl);have h3:=h2 0 (by simp);have h4:=h1 0 (by simp);simp only[RZ]at h3;exact⟨val 0,hM _ _ _ h4,kz (bm:=[]) hM (.d h3)⟩
end
theorem GG{f:FuncId}{fn:Func}{args:List V}{u:Value}{σ:LLV}(hf:Tryz.prog.funcs[f]? = some fn)(hn:(fn.name == "runtime.NumGoroutine")=false)(hb:fn.body.isNone=false)(hu:dx u)
 (h:∀(M:aq) (bm:List Nat) (pr:Nat->Prop) (w:World) (vs:List Value),G.glob M pr w->M.hold w->vs.length=args.length->(∀i (h:i<args.length) (h':i<vs.length),Rep M bm args[i] vs[i])->Calls Tryz.prog f vs.toArray w fun e w'=>e=.returned u/\Ext w w'):
 Fun G f args σ (az (.d (.lit u)) σ):=by
 refine⟨bN (P:=Tryz.prog) hf hn hb,fun M bm tk pr w vs hG hI ht hl hr=>(h M bm pr w vs hG hI.facts hl hr).mono fun e w' ⟨he,hx⟩=>?_⟩;obtain⟨h1,h2⟩:=hI.ext hx;refine⟨M,bm,tk,σ,.ret (.d (.lit u)),⟨rfl,rfl⟩,h1,h2,fun v e=>?_,fun v e=>by cases e⟩;cases e;exact⟨u,he,.d (.lit u hu),fun _ _ _ e=>by cases e⟩
theorem nH{f:FuncId}{fn:Func}{a:V}{u:Value}{σ:LLV}(hf:Tryz.prog.funcs[f]? = some fn)(hn:(fn.name == "runtime.NumGoroutine")=false)(hb:fn.body.isNone=false)(hu:dx u)
 (h:∀(M:aq) (bm:List Nat) (pr:Nat->Prop) (w:World) (v:Value),G.glob M pr w->M.hold w->Rep M bm a v->Calls Tryz.prog f #[v] w fun e w'=>e=.returned u/\Ext w w'):Fun G f [a] σ (az (.d (.lit u)) σ):=
 GG hf hn hb hu fun M bm pr w vs hG hM hl hr=>match vs,hl with
  | [v],_=>h M bm pr w v hG hM (hr 0 (by simp) (by simp))
theorem qo{f:FuncId}{fn:Func}{a b:V}{u:Value}{σ:LLV}(hf:Tryz.prog.funcs[f]? = some fn)(hn:(fn.name == "runtime.NumGoroutine")=false)(hb:fn.body.isNone=false)(hu:dx u)
 (h:∀(M:aq) (bm:List Nat) (pr:Nat->Prop) (w:World) (v v':Value),G.glob M pr w->M.hold w->Rep M bm a v->Rep M bm b v'->Calls Tryz.prog f #[v,v'] w fun e w'=>e=.returned u/\Ext w w'):Fun G f [a,b] σ (az (.d (.lit u)) σ):=
 GG hf hn hb hu fun M bm pr w vs hG hM hl hr=>match vs,hl with
  | [v,v'],_=>h M bm pr w v v' hG hM (hr 0 (by simp) (by simp)) (hr 1 (by simp) (by simp))
def tH(w w':World):aq:=fun b o=>if w.heap.size≤b then w'.cell? ⟨b,o,none⟩else none
theorem rq{f:FuncId}{fn:Func}{args:List V}{x:V}{σ:LLV}(hf:Tryz.prog.funcs[f]? = some fn)(hn:(fn.name == "runtime.NumGoroutine")=false)(hb:fn.body.isNone=false)(hx:∀T k rows,x≠.own T k rows)
 (h:∀(M:aq) (bm:List Nat) (pr:Nat->Prop) (w:World) (vs:List Value),G.glob M pr w->M.hold w->vs.length=args.length->(∀i (h:i<args.length) (h':i<vs.length),Rep M bm args[i] vs[i])->
   Calls Tryz.prog f vs.toArray w fun e w'=>∃u,e=.returned u/\Ext w w'/\Rep (tH w w') [] x u):Fun G f args σ (az x σ):=by
 refine⟨bN (P:=Tryz.prog) hf hn hb,fun M bm tk pr w vs hG hI ht hl hr=>(h M bm pr w vs hG hI.facts hl hr).mono fun e w' ⟨u,he,hx',hu⟩=>?_⟩;have hlt:∀b,b<w.heap.size->∀o,(if w.heap.size≤b then w'.cell? ⟨b,o,none⟩else M b o)=M b o:=fun b hb o=>if_neg (by omega)
 have hle:M.le fun b o=>if w.heap.size≤b then w'.cell? ⟨b,o,none⟩else M b o:=fun b o x hm=>by
  have hb:=hI.facts.lt hm;show(if w.heap.size≤b then w'.cell? ⟨b,o,none⟩else M b o)=some x;rw[hlt b hb o];exact hm
 obtain⟨h1,h2⟩:=hI.grow (M':=fun b o=>if w.heap.size≤b then w'.cell? ⟨b,o,none⟩else M b o) hx' hle (fun b o x hm=>by
  by_cases hb:w.heap.size≤b
  .simpa only[if_pos hb]using hm
  .simp only[if_neg hb]at hm;exact hx'.cell (hI.facts b o x hm)) hlt
 refine⟨_,bm,tk,σ,.ret x,⟨rfl,rfl⟩,h1,h2,fun v e=>?_,fun v e=>by cases e⟩;cases e;refine⟨u,he,hu.mono (fun b o x hm=>?_) (fun i b h=>by simp at h),fun T k rows e=>absurd e (hx T k rows)⟩;unfold tH at hm;split at hm
 .rename_i hb;simp only[if_pos hb];exact hm
 .cases hm
end Go.Proofs.YthekkgfmagliiaaGreatDoor
namespace Go.Proofs.YthekkgfmagliiaaGreatDoor
open Go.RowKit
theorem mz(s:ByteArray)(c:Int)(w:World):
 Calls Tryz.prog 196 #[.string s,.int .u8 c] w fun e w'=>e=.returned (.int .i64 (Lib.indexByte s.data.toList c.toNat.toUInt8))/\w=w':=by
 have hx:∀w,(callFunc 221 #[.string s,.int .u8 c]).run Tryz.prog w=.ok (.value (.int .i64 (Lib.indexByte s.data.toList c.toNat.toUInt8))) w:=fun w=>by
  rw[run_callFunc_extern Tryz.func221 (by kernel_rfl) (by kernel_rfl) (by kernel_rfl) (e:=Extern.BytealgIndexByte.indexByte) (by kernel_rfl),Lib.run_indexByteString];rfl
 go_enter Tryz.func196,Tryz.ntmps196;go_wp2_with fail;go_ret;exact⟨rfl,rfl⟩
theorem EN{s:ByteArray}{c:UInt8}(h:([c]==s.toList)=true):Lib.indexByte s.data.toList c=0:=by
 rw[ByteArray.toList_eq]at h;rw[<-(beq_iff_eq.1 h)];simp[Lib.indexByte]
theorem CL(s:ByteArray)(c:UInt8)(w:World):
 Calls Tryz.prog 209 #[.string s,.string ⟨#[c]⟩] w fun e w'=>e=.returned (.int .i64 (Lib.indexByte s.data.toList c))/\w=w':=by
 by_cases he:([c]==s.toList)=true
 .have h0:=EN he;have H0:=Lib.hid h0;clear h0;go_enter Tryz.func209,Tryz.ntmps209;go_wp2_with (go_at_call 196;refine(mz _ _ _).mono ?_;rintro e w' ⟨rfl,rfl⟩);go_ret;exact⟨cv H0.out.symm,rfl⟩
 .have he':([c]==s.toList)=false:=by simpa using he
  clear he;go_enter Tryz.func209,Tryz.ntmps209;go_wp2_with (go_at_call 196;refine(mz _ _ _).mono ?_;rintro e w' ⟨rfl,rfl⟩);go_ret;exact⟨cv (congrArg (Lib.indexByte s.data.toList) (by rfl)),rfl⟩
def iV(s:ByteArray)(c:UInt8):ByteArray:=if Lib.indexByte s.data.toList c = -1 then s else s.extract 0 (Lib.indexByte s.data.toList c).toNat
def kQ(s:ByteArray)(c:UInt8):ByteArray:=if Lib.indexByte s.data.toList c = -1 then⟨#[]⟩else s.extract ((Lib.indexByte s.data.toList c).toNat+1) s.size
def pJ(s:ByteArray)(c:UInt8):Bool:=decide (0≤Lib.indexByte s.data.toList c)
theorem vJ{s:ByteArray}{c:UInt8}{o:Nat}(h:Lib.indexByte s.data.toList c=o):o<s.size:=by
 have:=(Lib.indexByte_some h).1;rw[Lib.size_eq];exact(List.getElem?_eq_some_iff.1 this).1
theorem E9(s:ByteArray)(c:UInt8)(w:World)(hs:s.size≤9223372036854775807):
 Calls Tryz.prog 235 #[.string s,.string ⟨#[c]⟩] w fun e w'=>e=.returned (.tuple #[.string (iV s c),.string (kQ s c),.bool (pJ s c)])/\Ext w w':=by
 have h1:=Lib.indexByte_ge s.data.toList c;unfold iV kQ pJ;have hc:=CL s c;by_cases hi:Lib.indexByte s.data.toList c = -1
 .rw[hi]at hc ⊢;have HC:=Lib.hid hc;clear hc;clear h1 hi;go_enter Tryz.func235,Tryz.ntmps235;go_wp2_with (go_at_call 209;refine(HC.out _).mono ?_;rintro e w' ⟨rfl,rfl⟩);go_ret3;exact⟨rfl,Ext.refl _⟩
 .obtain⟨o,ho⟩:=Int.eq_ofNat_of_zero_le (a:=Lib.indexByte s.data.toList c) (by omega);have hlt:=vJ ho;rw[ho]at hc ⊢;have HC:=Lib.hid hc;clear hc;clear h1 hi;have HO:=Lib.hid ho;clear ho;have e1:IntKind.i64.wrap ((o:Int)+1)=(o:Int)+1:=IntWalk.i64_in _ (by omega);have e2:((o:Int)+1).toNat=o+1:=by omega
  go_enter Tryz.func235,Tryz.ntmps235;go_wp2_with (go_at_call 209;refine(HC.out _).mono ?_;rintro e w' ⟨rfl,rfl⟩);go_quiet (fail);go_wp2_with fail;go_ret3;exact⟨rfl,(Ext.refl w).drewN _⟩
theorem JN(s:ByteArray)(c:UInt8)(w:World)(hs:s.size≤9223372036854775807):
 Calls Tryz.prog 220 #[.string s,.string ⟨#[c]⟩] w fun e w'=>e=.returned (.tuple #[.string (iV s c),.string (kQ s c),.bool (pJ s c)])/\Ext w w':=by
 go_enter Tryz.func220,Tryz.ntmps220;go_wp2_with (go_at_call 235;refine(E9 _ _ _ hs).mono ?_;rintro e w' ⟨rfl,hx⟩);go_ret3;exact⟨rfl,by assumption⟩
theorem IV(s:ByteArray)(c:UInt8):(iV s c).size≤s.size:=by
 unfold iV;split
 .exact Nat.le_refl _
 .simp;omega
theorem I1(s:ByteArray)(c:UInt8):(kQ s c).size≤s.size:=by
 unfold kQ;split
 .exact Nat.zero_le _
 .simp
def oE(t:ByteArray):Bool:=if h:t.size=2 then decide ((t[1]'(by omega)).toNat=93)&&decide (48≤(t[0]'(by omega)).toNat)&&decide ((t[0]'(by omega)).toNat<56)else false
def iz(s:ByteArray):Bool:=pJ s 91&&bt (iV s 91)&&oE (kQ s 91)
def vA(eb:Bool)(w:World)(e:Ending)(w':World):Prop:=∃a i,e=.returned (.tuple #[.string a,.int .i64 i,.bool eb])/\Ext w w'
theorem lO{eb b:Bool}{w w':World}{a:ByteArray}{i:Int}(h:b=eb)(hx:Ext w w'):vA eb w (.returned (.tuple #[.string a,.int .i64 i,.bool b])) w':=⟨a,i,by rw[h],hx⟩
theorem oZ{t:ByteArray}(h:¬t.size=2):oE t=false:=by unfold oE;rw[dif_neg h]
theorem jT{t:ByteArray}(h:t.size=2):oE t=(decide ((t[1]'(by omega)).toNat=93)&&decide (48≤(t[0]'(by omega)).toNat)&&decide ((t[0]'(by omega)).toNat<56)):=by unfold oE;rw[dif_pos h]
theorem xY(s:ByteArray)(w:World)(hs:s.size≤9223372036854775807)(hk:o8 w):
 Calls Tryz.prog 195 #[.string s] w (vA (iz s) w):=by
 have hA:=IV s 91;have hB:=I1 s 91;have hcut:=fun w=>JN s 91 w hs;have hq:iz s=(pJ s 91&&bt (iV s 91)&&oE (kQ s 91)):=rfl;generalize iz s=eb at hq ⊢;generalize iV s 91=a at *;generalize kQ s 91=b at *;generalize pJ s 91=ok at *;have HQ:=Lib.hid hq;clear hq;have HK:=Lib.hid hk;clear hk;have HC:=Lib.hid hcut;clear hcut;by_cases hz:b.size=2
 .have k1:1<b.size:=by omega
  have k0:0<b.size:=by omega
  have HZ:=Lib.hid hz;clear hz;have hz2:((b.size:Int) != 2)=false:=by rw[HZ.out];rfl
  go_enter Tryz.func195,Tryz.ntmps195;go_wp2_with (first|(go_at_call 220;refine(HC.out _).mono ?_;rintro e w' ⟨rfl,hx⟩)|(go_at_call 49;refine(gO _ _ (by omega) (HK.out.ext (by assumption))).mono ?_;rintro e w' ⟨rfl,hy⟩));all_goals (try (go_quiet (fail);go_wp2_with fail))
  all_goals go_ret3
  all_goals (go_light;refine lO ?_ (by first|exact(hx.trans hy).drewN _|exact hx.trans hy|exact hx);rw[HQ.out];first|(simp[*];done)|(rw[jT HZ.out];simp[*];done)|(rw[jT HZ.out,Bool.eq_iff_iff];simp[*];omega))
 .have hc:=oZ hz;have HH:=Lib.hid hc;clear hc;have hz2:((b.size:Int) != 2)=true:=by rw[bne_iff_ne];omega
  clear hz;go_enter Tryz.func195,Tryz.ntmps195;go_wp2_with (first|(go_at_call 220;refine(HC.out _).mono ?_;rintro e w' ⟨rfl,hx⟩)|(go_at_call 49;refine(gO _ _ (by omega) (HK.out.ext (by assumption))).mono ?_;rintro e w' ⟨rfl,hy⟩));all_goals go_ret3
  all_goals (go_light;refine lO ?_ (by first|exact hx.trans hy|exact hx);rw[HQ.out];first|(simp[*];done)|(rw[HH.out];simp;done))
end Go.Proofs.YthekkgfmagliiaaGreatDoor
