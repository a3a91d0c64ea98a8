import Derived.Test.YthekkgfmagliiaaGreatDoorProg
import Derived.Test.YthekkgfmagliiaaGreatDoorA20
import Derived.KernelRfl
import Derived.Test.YthekkgfmagliiaaGreatDoorK
namespace Go.Proofs.YthekkgfmagliiaaGreatDoor
open Go.RowKit
set_option maxRecDepth 100000
set_option linter.unusedVariables false
set_option linter.unusedSimpArgs false
def c25:Cd:=sq [ZB 1 29 0,oI 2 0] [1] (.seq (sq [ZF 4 0 1,ZL 5 1 4,ZC 6 49 5,ZU 7 6] [1,7] (.cond (.t 7) (sq [oI 2 7] [2] .ret) .skip)) (.seq (sq [ZF 8 1 1,ZL 9 1 8,oV 10 9,oG 11 10 (zF 2 1),oG 12 10 (zL 1 11),oG 13 10 (.mv (.t 12)),oH 14 13 (zF 3 1),oH 15 13 (zM 9 14),⟨some 16,.bld zz0 [],(some (13,false))⟩,oH 17 13 (zD 50 15 16),oH 18 13 (zU 17),oG 19 10 (zP 13 18),ZQ 20 10 19] [1,
 20] (.cond (.t 20) (sq [oI 2 1] [2] .ret) .skip)) (.seq (sq [ZF 21 1 1,ZL 22 1 21,ZU 23 22] [1,23] (.cond (.t 23) (.seq (.ops [ZF 24 3 1,ZM 25 9 24,ZC 26 33 25,oV 3 26] [1,3]) (sq [oV 27 3,Wn 28 27 0] [1,3,28] (.cond (.t 28) (sq [oV 29 3,oV 2 29] [2] .ret) .skip))) .skip)) (sq [ZF 30 12 1,ZM 31 9 30,ZC 32 33 31,oV 2 32] [2] .ret))))
def Lo:List RV:=[.t 2 false]
theorem k25:aM G.tab Tryz.f25 1 c25 Lo=true:=by kernel_rfl
def c33:Cd:=sq [ZB 1 27 0,oI 2 0] [1] (.seq (sq [ZM 3 9 1,ZC 4 66 3,Wg 5 4 8,oV 6 5,oH 7 6 (zM 9 1),oH 8 6 (zC 67 7),oH 9 6 (wg 8 100),ZP 10 6 9] [1,10] (.cond (.t 10) (sq [oI 2 2] [2] .ret) (.skip))) (sq [ZM 11 9 1,oM 12 (.call 68 [.t 11,.k (.d (.lit (.bool false)))]),oV 2 12] [2] .ret))
def MK:List RV:=[.t 2 false]
theorem k33:aM G.tab Tryz.f33 1 c33 MK=true:=by kernel_rfl
def c67:Cd:=sq [ZB 1 27 0,oI 2 0] [1] (sq [ZM 3 9 1,oM 4 (.call 101 [.t 3,.k (.fn 104 [])]),oV 2 4] [2] .ret)
def O8:List RV:=[.t 2 false]
theorem k67:aM G.tab Tryz.f67 1 c67 O8=true:=by kernel_rfl
def KG:Cd:=sq [ZB 2 27 0,oI 4 0] [1] (sq [oV 5 1,ZC 6 105 5,oM 7 (.bin .add (kI 1) (.t 6)),oV 4 7] [4] .ret)
def MA:List RV:=[.t 4 false]
theorem N9:aM G.tab Tryz.f104 2 KG MA=true:=by kernel_rfl
def LT:Cd:=sq [oI 2 0] [0] (sq [oI 3 0] [0,3] (.seq (sq [oV 6 0,ZN 7 6,oI 8 0] [3,6,7,8] (.block 0 (.loop (.seq (.ops [Yl 9 8 7] [3,6,7,8,9]) (.seq (.cond (.t 9) .skip (.exit 0)) (.seq (.block 1 (sq [ZI 10 1 6 8,ZL 11 1 10,oV 5 11] [3,5,6,7,8] (.ops [oV 12 3,oV 13 5,Ya 14 12 13,oV 3 14] [3,6,7,8]))) (.ops [Wa 15 8 1,oV 8 15] [3,6,7,8]))))))) (sq [oV 16 3,oV 2 16] [2] .ret)))
def J1:List RV:=[.t 2 false]
theorem Nj:aM G.tab Tryz.f105 1 LT J1=true:=by kernel_rfl
def c66:Cd:=sq [ZB 1 27 0,oI 2 0] [1] (sq [ZM 3 9 1,oM 4 (.call 101 [.t 3,.k (.fn 102 [])]),oV 2 4] [2] .ret)
def OA:List RV:=[.t 2 false]
theorem k66:aM G.tab Tryz.f66 1 c66 OA=true:=by kernel_rfl
def JC:Cd:=sq [ZB 2 27 0,oI 4 0] [1] (sq [oM 5 (.mvo 1),oM 6 (.mks 3 1 [.k (.d (.lit (.int .i64 0)))]),oM 7 (.app 3 1 8 5 (.t 6)),ZC 8 103 7,oM 9 (.bin .add (kI 1) (.t 8)),oV 4 9] [4] .ret)
def J0:List RV:=[.t 4 false]
theorem Ns:aM G.tab Tryz.f102 2 JC J0=true:=by kernel_rfl
def c68:Cd:=sq [ZB 2 27 0,oI 4 0] [1,2] (.seq (sq [ZM 9 9 2,oV 10 1,ZD 11 106 9 10,oV 5 11] [1,2,5] (sq [oV 12 5,Wn 13 12 0] [1,2,5,13] (.cond (.t 13) (sq [oV 14 5,oV 4 14] [4] .ret) .skip))) (.seq (sq [ZF 15 8 2,ZL 16 1 15,ZN 17 16,oI 18 0] [1,2,16,17,18] (.block 0 (.loop (sq [Yl 19 18 17] [1,2,16,17,18,19] (.seq (.cond (.t 19) .skip (.exit 0)) (.seq (.block 1 (sq [ZI 20 9 16 18,ZM 21 9 20,
 oM 7 (.new 27 zz0),oS 9 7 21] [1,2,7,16,17,18] (sq [ZM 22 9 7,oV 23 1,oV 24 23,oH 25 24 (zF 0 2),oH 26 24 (zL 1 25),oH 27 24 (we 26 5),ZP 28 24 27,ZD 29 68 22 28,oV 8 29] [1,2,8,16,17,18] (sq [oV 30 8,Wn 31 30 0] [1,2,8,16,17,18,31] (.cond (.t 31) (sq [oV 32 8,oV 4 32] [4] .ret) .skip))))) (.ops [Wa 33 18 1,oV 18 33] [1,2,16,17,18]))))))) (sq [oI 4 0] [4] .ret)))
def Kn:List RV:=[.t 4 false]
theorem k68:aM G.tab Tryz.f68 2 c68 Kn=true:=by kernel_rfl
def LK:Cd:=sq [ZB 2 27 0,oI 4 0] [1,2] (.seq (sq [ZM 7 9 2,ZC 8 139 7,ZU 9 8,oV 10 9,oH 11 10 (zF 0 2),oH 12 10 (zL 1 11),oH 13 10 (zC 140 12),oH 14 10 (zU 13),oH 15 10 (.mv (.t 14)),oG 16 15 (zF 3 2),oG 17 15 (zM 4 16),oG 18 15 (zC 141 17),oG 19 15 (zU 18),oH 20 10 (zQ 15 19),ZP 21 10 20,oV 22 21,oH 23 22 (zF 0 2),oH 24 22 (zL 1 23),oH 25 22 (wn 24 6),oH 26 22 (.mv (.t 25)),oG 27 26 (zF 7 2),
 oG 28 26 (zL 1 27),oG 29 26 (.bin .neq (.t 28) (kS ⟨#[]⟩)),oH 30 22 (zQ 26 29),ZP 31 22 30] [1,2,31] (.cond (.t 31) (sq [oI 4 1] [4] .ret) .skip)) (.seq (sq [ZF 32 0 2,ZL 33 1 32,We 34 33 6,oV 35 34,oG 36 35 (zF 7 2),oG 37 35 (zL 1 36),oG 38 35 (zC 49 37),oG 39 35 (zU 38),ZQ 40 35 39] [1,2,40] (.cond (.t 40) (sq [oI 4 7] [4] .ret) .skip)) (.seq (sq [ZF 41 0 2,ZL 42 1 41,ZC 43 140 42] [1,2,
 43] (.cond (.t 43) (sq [ZF 44 3 2,ZM 45 4 44,ZC 46 91 45,oV 5 46] [1,2,5] (.seq (.ops [oV 47 5,Wn 48 47 0] [1,2,5,48]) (.cond (.t 48) (sq [oV 49 5,oV 4 49] [4] .ret) .skip))) .skip)) (.seq (sq [ZF 50 0 2,ZL 51 1 50,We 52 51 6,oV 53 52,oG 54 53 (.mv (.t 1)),ZQ 55 53 54] [2,55] (.cond (.t 55) (sq [oI 4 13] [4] .ret) .skip)) (.seq (sq [ZF 56 0 2,ZL 57 1 56,We 58 57 7] [2,
 58] (.cond (.t 58) (sq [ZF 59 8 2,ZL 60 1 59,oM 61 (.ia 9 (.t 60) (kI 0)),ZM 62 9 61,ZC 63 142 62,oM 6 (.new 92 [.nil]),oS 1 6 63] [2,6] (sq [ZF 64 3 2,ZM 65 4 64,ZC 66 144 65,oM 67 (.mkfn 145 [.t 6]),ZD 68 143 66 67] [68] (.cond (.t 68) (sq [oI 4 13] [4] .ret) .skip))) .skip)) (sq [oI 4 0] [4] .ret))))))
def Hn:List RV:=[.t 4 false]
theorem Oz:aM G.tab Tryz.f106 2 LK Hn=true:=by kernel_rfl
def c145:Cd:=sq [oM 3 (.mv kF)] [0,1] (sq [ZL 4 1 1,oV 5 0,ZD 6 121 4 5,oV 3 6] [3] .ret)
def Mu:List RV:=[.t 3 false]
theorem MN:aM G.tab Tryz.f145 2 c145 Mu=true:=by kernel_rfl
def LX:Cd:=sq [ZB 1 27 0,oM 2 (.mv kF)] [1] (.seq (.draw [ZF 7 1 1,ZL 8 1 7,We 9 8 0,oV 10 9,oG 11 10 (zF 2 1),oG 12 10 (zL 1 11),oG 13 10 (we 12 0),ZQ 14 10 13,oI 3 1,oI 4 1,oV 5 14] [1,3,4,5]) (sq [ZF 15 1 1,ZL 16 1 15,ZF 17 2 1,ZL 18 1 17,Yq 19 16 18,oV 20 19,oG 21 20 (zF 2 1),oG 22 20 (zL 1 21),oG 23 20 (wq 22 16),ZQ 24 20 23,oV 6 24] [1,3,4,5,6] (.seq (sq [ZF 25 0 1,ZL 26 1 25] [1,3,4,5,6,
 26] (.block 0 (sq [We 28 26 1,oV 27 28] [1,3,4,5,6,26,27] (.cond (.t 27) (.ops [oI 3 0,oI 4 0] [1,3,4,5]) (sq [We 30 26 2,oV 29 30] [1,3,4,5,6,26,29] (.cond (.t 29) (.ops [ZF 31 1 1,ZL 32 1 31,Wh 33 32 0,oV 34 33,oG 35 34 (.mv (.t 6)),ZQ 36 34 35,oI 3 2,oI 4 2,oV 5 36] [1,3,4,5]) (sq [We 38 26 3,oV 37 38] [1,3,4,5,6,26,37] (.cond (.t 37) (.ops [ZF 39 1 1,ZL 40 1 39,Wh 41 40 1,oV 42 41,
 oG 43 42 (.mv (.t 6)),ZQ 44 42 43,oV 5 44] [1,3,4,5]) (.seq (sq [We 46 26 4,oV 45 46] [1,3,4,5,26,45] (.cond (.t 45) .skip (.ops [We 47 26 5,oV 45 47] [1,3,4,5,26,45]))) (.cond (.t 45) (.ops [oI 3 2,oI 4 8] [1,3,4,5]) (.seq (sq [We 49 26 6,oV 48 49] [1,3,4,5,26,48] (.cond (.t 48) .skip (.ops [We 50 26 7,oV 48 50] [1,3,4,5,
 48]))) (.cond (.t 48) .skip (sq [oM 2 (.mv kF)] [2] .ret))))))))))))) (sq [ZF 51 8 1,ZL 52 1 51,ZN 53 52,oV 54 3,Yh 55 53 54,oV 56 55,oG 57 56 (zF 8 1),oG 58 56 (zL 1 57),oG 59 56 (zN 58),oG 60 56 (.mv (.t 4)),oG 61 56 (yq 59 60),ZQ 62 56 61,oV 63 62,oG 64 63 (.mv (.t 5)),ZQ 65 63 64,oV 2 65] [2] .ret))))
def GN:List RV:=[.t 2 false]
theorem NY:aM G.tab Tryz.f139 1 LX GN=true:=by kernel_rfl
def L8:Cd:=sq [oM 2 (.mv kF)] [0] (sq [oV 3 0,We 4 3 1,oV 5 4,oH 6 5 (.mv (.t 0)),oH 7 5 (we 6 6),ZP 8 5 7,oV 9 8,oH 10 9 (.mv (.t 0)),oH 11 9 (we 10 7),ZP 12 9 11,oV 2 12] [2] .ret)
def L3:List RV:=[.t 2 false]
theorem Nm:aM G.tab Tryz.f140 1 L8 L3=true:=by kernel_rfl
def Lw:Cd:=sq [ZB 1 24 0,oM 2 (.mv kF)] [1] (sq [ZF 3 0 1,ZL 4 1 3,We 5 4 0,oV 6 5,oG 7 6 (zF 1 1),oG 8 6 (zL 1 7),oG 9 6 (we 8 0),ZQ 10 6 9,oV 11 10,oG 12 11 (zF 2 1),oG 13 11 (zL 1 12),oG 14 11 (.bin .eql (.t 13) (kS ⟨#[]⟩)),ZQ 15 11 14,oV 16 15,oG 17 16 (zF 3 1),oG 18 16 (zL 1 17),oG 19 16 (zN 18),oG 20 16 (we 19 0),ZQ 21 16 20,oV 2 21] [2] .ret)
def LI:List RV:=[.t 2 false]
theorem M9:aM G.tab Tryz.f141 1 Lw LI=true:=by kernel_rfl
def c50:Cd:=sq [ZB 2 27 0,ZB 3 27 1,oM 4 (.mv kF)] [2,3] (sq [ZF 5 0 2,ZL 6 1 5,ZF 7 0 3,ZL 8 1 7,Ye 9 6 8,oV 10 9,oG 11 10 (zF 1 2),oG 12 10 (zL 1 11),oG 13 10 (zF 1 3),oG 14 10 (zL 1 13),oG 15 10 (ye 12 14),ZQ 16 10 15,oV 17 16,oG 18 17 (zF 2 2),oG 19 17 (zL 1 18),oG 20 17 (zF 2 3),oG 21 17 (zL 1 20),oG 22 17 (ye 19 21),ZQ 23 17 22,oV 24 23,oG 25 24 (zF 7 2),oG 26 24 (zL 1 25),oG 27 24 (zF 7 3),
 oG 28 24 (zL 1 27),oG 29 24 (ye 26 28),ZQ 30 24 29,oV 31 30,oG 32 31 (zF 3 2),oG 33 31 (zM 4 32),oG 34 31 (zF 3 3),oG 35 31 (zM 4 34),oG 36 31 (zD 86 33 35),ZQ 37 31 36,oV 38 37,oG 39 38 (zF 8 2),oG 40 38 (zL 1 39),oG 41 38 (zF 8 3),oG 42 38 (zL 1 41),⟨some 43,.call 87 [.t 40,.t 42,.k (.fn 50 [])],(some (38,true))⟩,ZQ 44 38 43,oV 4 44] [4] .ret)
def Mg:List RV:=[.t 4 false]
theorem k50:aM G.tab Tryz.f50 2 c50 Mg=true:=by kernel_rfl
def c13:Cd:=sq [ZB 2 27 0,ZB 3 27 1,oM 4 (.mv kF)] [2,3] (.seq (sq [ZF 6 0 2,ZL 7 1 6,ZF 8 0 3,ZL 9 1 8,Yn 10 7 9,oV 11 10,oH 12 11 (zF 1 2),oH 13 11 (zL 1 12),oH 14 11 (zF 1 3),oH 15 11 (zL 1 14),oH 16 11 (yn 13 15),ZP 17 11 16,oV 18 17,oH 19 18 (zF 2 2),oH 20 18 (zL 1 19),oH 21 18 (zF 2 3),oH 22 18 (zL 1 21),oH 23 18 (yn 20 22),ZP 24 18 23,oV 25 24,oH 26 25 (zF 7 2),oH 27 25 (zL 1 26),
 oH 28 25 (zF 7 3),oH 29 25 (zL 1 28),oH 30 25 (yn 27 29),ZP 31 25 30,oV 32 31,oH 33 32 (zF 8 2),oH 34 32 (zL 1 33),oH 35 32 (zN 34),oH 36 32 (zF 8 3),oH 37 32 (zL 1 36),oH 38 32 (zN 37),oH 39 32 (yn 35 38),ZP 40 32 39,oV 41 40,oH 42 41 (zF 3 2),oH 43 41 (zM 4 42),oH 44 41 (zF 3 3),oH 45 41 (zM 4 44),oH 46 41 (zD 34 43 45),oH 47 41 (zU 46),ZP 48 41 47] [2,3,
 48] (.cond (.t 48) (sq [oM 4 (.mv kF)] [4] .ret) .skip)) (.seq (sq [oI 5 0] [2,3,5] (.block 0 (.loop (.seq (sq [oV 49 5,ZF 50 8 2,ZL 51 1 50,ZN 52 51,Yl 53 49 52] [2,3,5,53] (.cond (.t 53) .skip (.exit 0))) (.seq (.block 1 (.seq (.draw [ZF 56 8 2,ZL 57 1 56,oV 58 5,ZI 59 9 57 58,ZM 60 9 59,ZF 61 8 3,ZL 62 1 61,oV 63 5,ZI 64 9 62 63,ZM 65 9 64,ZD 66 13 60 65,ZU 67 66] [2,3,5,
 67]) (.cond (.t 67) (sq [oM 4 (.mv kF)] [4] .ret) (.skip)))) (.ops [oV 54 5,Wa 55 54 1,oV 5 55] [2,3,5])))))) (sq [oM 4 (.mv kT)] [4] .ret)))
def Kk:List RV:=[.t 4 false]
theorem k13:aM G.tab Tryz.f13 2 c13 Kk=true:=by kernel_rfl
def c74:Cd:=sq [ZB 1 24 0,oM 2 (.mv kF)] [1] (sq [ZF 3 0 1,ZL 4 1 3,We 5 4 0,oV 6 5,oG 7 6 (zF 1 1),oG 8 6 (zL 1 7),oG 9 6 (we 8 0),ZQ 10 6 9,oV 11 10,oG 12 11 (zF 2 1),oG 13 11 (zL 1 12),oG 14 11 (.bin .eql (.t 13) (kS ⟨#[]⟩)),ZQ 15 11 14,oV 16 15,oG 17 16 (zF 3 1),oG 18 16 (zL 1 17),oG 19 16 (zN 18),oG 20 16 (we 19 0),ZQ 21 16 20,oV 2 21] [2] .ret)
def NO:List RV:=[.t 2 false]
theorem k74:aM G.tab Tryz.f74 1 c74 NO=true:=by kernel_rfl
def c38:Cd:=sq [ZB 1 27 0,oM 2 (.mv kF)] [1] (sq [ZF 3 0 1,ZL 4 1 3,We 5 4 0,oV 6 5,oG 7 6 (zF 1 1),oG 8 6 (zL 1 7),oG 9 6 (we 8 0),ZQ 10 6 9,oV 11 10,oG 12 11 (zF 2 1),oG 13 11 (zL 1 12),oG 14 11 (we 13 0),ZQ 15 11 14,oV 16 15,oG 17 16 (zF 3 1),oG 18 16 (zM 4 17),oG 19 16 (zC 74 18),ZQ 20 16 19,oV 21 20,oG 22 21 (zF 7 1),oG 23 21 (zL 1 22),oG 24 21 (.bin .eql (.t 23) (kS ⟨#[]⟩)),ZQ 25 21 24,
 oV 26 25,oG 27 26 (zF 8 1),oG 28 26 (zL 1 27),oG 29 26 (zN 28),oG 30 26 (we 29 0),ZQ 31 26 30,oV 2 31] [2] .ret)
def Md:List RV:=[.t 2 false]
theorem k38:aM G.tab Tryz.f38 1 c38 Md=true:=by kernel_rfl
def c39:Cd:=sq [ZB 3 27 0,oI 6 0] [1,2,3] (.seq (sq [oV 8 1,Wl 9 8 1,oV 10 9,oH 11 10 (.mv (.t 2)),oH 12 10 (wl 11 1),ZP 13 10 12] [1,2,3,13] (.cond (.t 13) (sq [oI 6 (-1)] [6] .ret) .skip)) (sq [oV 14 1,Ws 15 14 1,oV 1 15] [1,2,3] (.seq (sq [oI 7 0] [1,2,3,7] (.block 0 (.loop (.seq (sq [oV 16 7,ZF 17 8 3,ZL 18 1 17,ZN 19 18,Yl 20 16 19] [1,2,3,7,
 20] (.cond (.t 20) .skip (.exit 0))) (.seq (.block 1 (sq [ZF 23 8 3,ZL 24 1 23,oV 25 7,ZI 26 9 24 25,ZM 27 9 26,oV 28 1,oV 29 2,Ws 30 29 1,ZE 31 39 27 28 30,oV 1 31] [1,2,3,7] (sq [oV 32 1,Wl 33 32 0] [1,2,3,7,33] (.cond (.t 33) (sq [oI 6 (-1)] [6] .ret) .skip)))) (.ops [oV 21 7,Wa 22 21 1,oV 7 22] [1,2,3,7])))))) (sq [oV 34 1,oV 6 34] [6] .ret))))
def JU:List RV:=[.t 6 false]
theorem k39:aM G.tab Tryz.f39 3 c39 JU=true:=by kernel_rfl
def c75:Cd:=sq [ZB 1 27 0,oM 2 (.mv kF)] [1] (sq [ZF 7 8 1,ZL 8 1 7,ZN 9 8,oV 3 9] [1,3] (sq [ZF 10 1 1,ZL 11 1 10,Wh 12 11 0,oV 13 12,oG 14 13 (zF 1 1),oG 15 13 (zL 1 14),oG 16 13 (zF 2 1),oG 17 13 (zL 1 16),oG 18 13 (yq 15 17),ZQ 19 13 18,oV 20 19,oG 21 20 (zF 2 1),oG 22 20 (zL 1 21),oG 23 20 (wq 22 16),ZQ 24 20 23,oV 4 24] [1,3,4] (sq [ZF 25 1 1,ZL 26 1 25,We 27 26 0,oV 28 27,oG 29 28 (zF 2 1),
 oG 30 28 (zL 1 29),oG 31 28 (we 30 0),ZQ 32 28 31,oV 5 32] [1,3,4,5] (sq [ZF 33 3 1,ZM 34 4 33,ZC 35 74 34,oV 36 35,oG 37 36 (zF 7 1),oG 38 36 (zL 1 37),oG 39 36 (.bin .eql (.t 38) (kS ⟨#[]⟩)),ZQ 40 36 39,oV 6 40] [1,3,4,5,6] (.seq (sq [ZF 41 0 1,ZL 42 1 41] [1,3,4,5,6,42] (.block 0 (sq [We 44 42 1,oV 43 44] [1,3,4,5,6,42,43] (.cond (.t 43) (sq [oV 45 3,We 46 45 0,oV 47 46,oG 48 47 (.mv (.t 5)),
 ZQ 49 47 48,oV 50 49,oG 51 50 (zF 7 1),oG 52 50 (zL 1 51),oG 53 50 (.bin .eql (.t 52) (kS ⟨#[]⟩)),ZQ 54 50 53,oV 2 54] [2] (.ret)) (sq [We 56 42 2,oV 55 56] [1,3,4,5,6,42,55] (.cond (.t 55) (sq [oV 57 3,We 58 57 2,oV 59 58,oG 60 59 (.mv (.t 4)),ZQ 61 59 60,oV 62 61,oG 63 62 (.mv (.t 6)),ZQ 64 62 63,oV 2 64] [2] .ret) (sq [We 66 42 3,oV 65 66] [1,3,4,5,6,42,65] (.cond (.t 65) (sq [oV 67 3,
 We 68 67 1,oV 69 68,oG 70 69 (.mv (.t 4)),ZQ 71 69 70,oV 72 71,oG 73 72 (zF 1 1),oG 74 72 (zL 1 73),oG 75 72 (wh 74 1),ZQ 76 72 75,oV 77 76,oG 78 77 (.mv (.t 6)),ZQ 79 77 78,oV 2 79] [2] .ret) (.seq (sq [We 81 42 4,oV 80 81] [1,3,5,6,42,80] (.cond (.t 80) .skip (.ops [We 82 42 5,oV 80 82] [1,3,5,6,42,80]))) (.cond (.t 80) (sq [oV 83 3,Wh 84 83 2,oV 85 84,oG 86 85 (.mv (.t 3)),oG 87 85 (wq 86 8),
 ZQ 88 85 87,oV 89 88,oG 90 89 (.mv (.t 5)),ZQ 91 89 90,oV 92 91,oG 93 92 (.mv (.t 6)),ZQ 94 92 93,oV 2 94] [2] .ret) (.seq (.ops [We 96 42 6,oV 95 96] [1,3,5,42,95]) (.cond (.t 95) (sq [oV 97 3,We 98 97 1,oV 99 98,oG 100 99 (.mv (.t 5)),ZQ 101 99 100,oV 2 101] [2] .ret) (sq [We 103 42 7,oV 102 103] [1,3,5,102] (.cond (.t 102) (sq [oV 104 3,We 105 104 1,oV 106 105,oG 107 106 (.mv (.t 5)),
 ZQ 108 106 107,oV 109 108,oG 110 109 (zF 7 1),oG 111 109 (zL 1 110),oG 112 109 (.bin .eql (.t 111) (kS ⟨#[]⟩)),ZQ 113 109 112,oV 2 113] [2] .ret) .skip)))))))))))))) (sq [oM 2 (.mv kF)] [2] .ret))))))
def OO:List RV:=[.t 2 false]
theorem k75:aM G.tab Tryz.f75 1 c75 OO=true:=by kernel_rfl
def c78:Cd:=sq [ZB 2 27 0,oM 4 (.nilo 9 1)] [1,2] (.seq (sq [ZM 6 9 2,oM 7 (.call 39 [.t 6,.k (.d (.lit (.int .i64 100))),.k (.d (.lit (.int .i64 8)))]),Wl 8 7 0] [1,2,8] (.cond (.t 8) (sq [oM 9 (.mvo 1),oM 4 (.mvo 9)] [4] .ret) .skip)) (.seq (sq [ZF 10 0 2,ZL 11 1 10,We 12 11 6] [1,2,12] (.cond (.t 12) (.ops [oM 13 (.mvo 1),ZF 14 7 2,ZL 15 1 14,oM 16 (.mks 9 1 [.t 15]),
 oM 17 (.app 9 1 16 13 (.t 16)),oM 1 (.mvo 17)] [1,2]) .skip)) (.seq (sq [oI 5 0] [1,2,5] (.block 0 (.loop (.seq (sq [oV 18 5,ZF 19 8 2,ZL 20 1 19,ZN 21 20,Yl 22 18 21] [1,2,5,22] (.cond (.t 22) .skip (.exit 0))) (.seq (.block 1 (.ops [ZF 25 8 2,ZL 26 1 25,oV 27 5,ZI 28 9 26 27,ZM 29 9 28,oM 30 (.mvo 1),oM 31 (.callm (.k (.fn 78 [])) [.t 29] 30),oM 1 (.mvo 31)] [1,2,5])) (.ops [oV 23 5,Wa 24 23 1,
 oV 5 24] [1,2,5])))))) (sq [oM 32 (.mvo 1),oM 4 (.mvo 32)] [4] .ret))))
def O9:List RV:=[.t 4 true]
theorem k78:aM G.tab Tryz.f78 2 c78 O9=true:=by kernel_rfl
def c79:Cd:=sq [oM 4 (.mv kF)] [0,1] (.seq (sq [oI 5 0] [0,1,5] (.block 0 (.loop (.seq (sq [oV 6 5,oV 7 0,ZN 8 7,Yl 9 6 8] [0,1,5,9] (.cond (.t 9) .skip (.exit 0))) (.seq (.block 1 (sq [oV 12 0,oV 13 5,ZI 14 1 12 13,ZL 15 1 14,oV 16 1,Ye 17 15 16] [0,1,5,17] (.cond (.t 17) (sq [oM 4 (.mv kT)] [4] .ret) .skip))) (.ops [oV 10 5,Wa 11 10 1,oV 5 11] [0,1,5])))))) (sq [oM 4 (.mv kF)] [4] .ret))
def Of:List RV:=[.t 4 false]
theorem k79:aM G.tab Tryz.f79 2 c79 Of=true:=by kernel_rfl
def c40:Cd:=sq [ZB 2 27 0,oI 4 0] [1,2] (.seq (sq [ZM 11 9 2,ZC 12 75 11,ZU 13 12] [1,2,13] (.cond (.t 13) (sq [oI 4 1] [4] .ret) .skip)) (.seq (sq [ZF 14 0 2,ZL 15 1 14,We 16 15 6,oV 17 16,oG 18 17 (zF 7 2),oG 19 17 (zL 1 18),oG 20 17 (zC 37 19),oG 21 17 (zU 20),ZQ 22 17 21] [1,2,22] (.cond (.t 22) (sq [oI 4 7] [4] .ret) .skip)) (.seq (sq [ZF 23 0 2,ZL 24 1 23,We 25 24 1,oV 26 25,
 oH 27 26 (zF 0 2),oH 28 26 (zL 1 27),oH 29 26 (we 28 6),ZP 30 26 29,oV 31 30,oH 32 31 (zF 0 2),oH 33 31 (zL 1 32),oH 34 31 (we 33 7),ZP 35 31 34] [1,2,35] (.cond (.t 35) (sq [ZF 36 3 2,ZM 37 4 36,ZC 38 76 37,oV 5 38] [1,2,5] (sq [oV 39 5,Wn 40 39 0] [1,2,5,40] (.cond (.t 40) (sq [oV 41 5,oV 4 41] [4] (.ret)) .skip))) .skip)) (.seq (sq [ZF 42 0 2,ZL 43 1 42,We 44 43 6,oV 45 44,
 oG 46 45 (.mv (.t 1)),ZQ 47 45 46] [1,2,47] (.cond (.t 47) (sq [oI 4 13] [4] .ret) .skip)) (.seq (sq [ZF 48 0 2,ZL 49 1 48,We 50 49 7] [1,2,50] (.cond (.t 50) (.seq (.draw [ZF 51 3 2,ZM 52 4 51,ZC 53 77 52,ZF 54 8 2,ZL 55 1 54,oM 56 (.ia 9 (.t 55) (kI 0)),ZM 57 9 56,oM 58 (.calln 78 [.t 57,.k .nil]),oV 6 53,oV 7 58] [1,2,6,7]) (sq [oI 8 0] [1,2,6,7,8] (.block 0 (.loop (.seq (sq [oV 59 8,oV 60 6,
 ZN 61 60,Yl 62 59 61] [1,2,6,7,8,62] (.cond (.t 62) .skip (.exit 0))) (.seq (.block 1 (sq [oV 65 7,oV 66 6,oV 67 8,ZI 68 1 66 67,ZL 69 1 68,ZD 70 79 65 69] [1,2,6,7,8,70] (.cond (.t 70) (sq [oI 4 13] [4] .ret) .skip))) (.ops [oV 63 8,Wa 64 63 1,oV 8 64] [1,2,6,7,8]))))))) (.skip))) (.seq (sq [oI 9 0] [1,2,9] (.block 2 (.loop (.seq (sq [oV 71 9,ZF 72 8 2,ZL 73 1 72,ZN 74 73,Yl 75 71 74] [1,2,9,
 75] (.cond (.t 75) .skip (.exit 2))) (.seq (.block 3 (.seq (.draw [ZF 78 8 2,ZL 79 1 78,oV 80 9,ZI 81 9 79 80,ZM 82 9 81,oV 83 1,oV 84 83,oH 85 84 (zF 0 2),oH 86 84 (zL 1 85),oH 87 84 (we 86 5),ZP 88 84 87,ZD 89 40 82 88,oV 10 89] [1,2,9,10]) (sq [oV 90 10,Wn 91 90 0] [1,2,9,10,91] (.cond (.t 91) (sq [oV 92 10,oV 4 92] [4] .ret) .skip)))) (.ops [oV 76 9,Wa 77 76 1,oV 9 77] [1,2,
 9])))))) (sq [oI 4 0] [4] .ret)))))))
def Hp:List RV:=[.t 4 false]
theorem k40:aM G.tab Tryz.f40 2 c40 Hp=true:=by kernel_rfl
def c19:Cd:=sq [ZB 1 27 0,oI 2 0] [1] (.seq (sq [ZM 3 9 1,oM 4 (.call 39 [.t 3,.k (.d (.lit (.int .i64 100))),.k (.d (.lit (.int .i64 8)))]),Wl 5 4 0] [1,5] (.cond (.t 5) (sq [oI 2 2] [2] .ret) .skip)) (sq [ZM 6 9 1,oM 7 (.call 40 [.t 6,.k (.d (.lit (.bool false)))]),oV 2 7] [2] .ret))
def J3:List RV:=[.t 2 false]
theorem k19:aM G.tab Tryz.f19 1 c19 J3=true:=by kernel_rfl
def c18:Cd:=sq [ZB 1 29 0,oI 2 0] [1] (.seq (sq [ZF 4 0 1,ZL 5 1 4,ZC 6 37 5,ZU 7 6] [1,7] (.cond (.t 7) (sq [oI 2 7] [2] .ret) .skip)) (.seq (sq [ZF 8 1 1,ZL 9 1 8,oV 10 9,oG 11 10 (zF 2 1),oG 12 10 (zL 1 11),oG 13 10 (.mv (.t 12)),oH 14 13 (zF 3 1),oH 15 13 (zM 9 14),oH 16 13 (zC 38 15),oH 17 13 (zU 16),oG 18 10 (zP 13 17),ZQ 19 10 18] [1,
 19] (.cond (.t 19) (sq [oI 2 1] [2] .ret) .skip)) (.seq (sq [ZF 20 1 1,ZL 21 1 20,ZU 22 21] [1,22] (.cond (.t 22) (sq [ZF 23 3 1,ZM 24 9 23,ZC 25 19 24,oV 3 25] [1,3] (sq [oV 26 3,Wn 27 26 0] [1,3,27] (.cond (.t 27) (sq [oV 28 3,oV 2 28] [2] .ret) .skip))) .skip)) (sq [ZF 29 12 1,ZM 30 9 29,ZC 31 19 30,oV 2 31] [2] .ret))))
def JR:List RV:=[.t 2 false]
theorem k18:aM G.tab Tryz.f18 1 c18 JR=true:=by kernel_rfl
def MH:Cd:=sq [ZB 2 27 0,oI 4 0] [1,2] (sq [ZF 8 8 2,ZL 9 1 8,ZN 10 9,oM 11 (.mkc 3 1 8 (.t 10)),oM 5 (.mvo 11)] [1,2,5] (.seq (sq [ZF 12 8 2,ZL 13 1 12,ZN 14 13,oI 15 0] [1,2,5,13,14,15] (.block 0 (.loop (sq [Yl 16 15 14] [1,2,5,13,14,15,16] (.seq (.cond (.t 16) .skip (.exit 0)) (.seq (.block 1 (sq [ZI 17 9 13 15,ZM 18 9 17,oM 7 (.new 27 zz0),oS 9 7 18] [1,2,5,7,13,14,15] (.ops [oM 19 (.mvo 5),
 ZM 20 9 7,oV 21 1,ZD 22 101 20 21,oM 23 (.mks 3 1 [.t 22]),oM 24 (.app 3 1 8 19 (.t 23)),oM 5 (.mvo 24)] [1,2,5,13,14,15]))) (.ops [Wa 25 15 1,oV 15 25] [1,2,5,13,14,15]))))))) (sq [oV 26 1,ZM 27 9 2,oM 28 (.mvo 5),oM 29 (.callm (.t 26) [.t 27] 28),oV 4 29] [4] .ret)))
def LQ:List RV:=[.t 4 false]
theorem NW:aM G.tab Tryz.f101 2 MH LQ=true:=by kernel_rfl
def c171:Cd:=sq [ZB 2 27 0,oM 4 (.nilo 9 1)] [1,2] (sq [ZF 8 8 2,ZL 9 1 8,ZN 10 9,oM 11 (.mkc 92 1 24 (.t 10)),oM 5 (.mvo 11)] [1,2,5] (.seq (sq [ZF 12 8 2,ZL 13 1 12,ZN 14 13,oI 15 0] [1,2,5,13,14,15] (.block 0 (.loop (sq [Yl 16 15 14] [1,2,5,13,14,15,16] (.seq (.cond (.t 16) .skip (.exit 0)) (.seq (.block 1 (sq [ZI 17 9 13 15,ZM 18 9 17,oM 7 (.new 27 zz0),oS 9 7 18] [1,2,5,7,13,14,
 15] (.ops [oM 19 (.mvo 5),ZM 20 9 7,oV 21 1,ZD 22 171 20 21,oM 23 (.mks 92 1 [.t 22]),oM 24 (.app 92 1 24 19 (.t 23)),oM 5 (.mvo 24)] [1,2,5,13,14,15]))) (.ops [Wa 25 15 1,oV 15 25] [1,2,5,13,14,15]))))))) (sq [oV 26 1,ZM 27 9 2,oM 28 (.mvo 5),oM 29 (.callm (.t 26) [.t 27] 28),oM 4 (.mvo 29)] [4] .ret)))
def MI:List RV:=[.t 4 true]
theorem Oi:aM G.tab Tryz.f171 2 c171 MI=true:=by kernel_rfl
def Mq:Cd:=sq [ZB 1 27 0,oM 2 (.nilo 9 1)] [1] (sq [ZM 3 9 1,oM 4 (.call 171 [.t 3,.k (.fn 172 [])]),oM 2 (.mvo 4)] [2] .ret)
def ML:List RV:=[.t 2 true]
theorem N7:aM G.tab Tryz.f142 1 Mq ML=true:=by kernel_rfl
def L0:Cd:=sq [ZB 2 27 0,oM 4 (.nilo 9 1)] [1,2] (sq [oV 6 1,ZC 7 173 6,oM 5 (.mvo 7)] [2,5] (.seq (sq [ZF 8 0 2,ZL 9 1 8,We 10 9 6] [2,5,10] (.cond (.t 10) (.ops [oM 11 (.mvo 5),ZF 12 7 2,ZL 13 1 12,oM 14 (.mks 9 1 [.t 13]),oM 15 (.app 9 1 16 11 (.t 14)),oM 5 (.mvo 15)] [5]) (.skip))) (sq [oM 16 (.mvo 5),oM 4 (.mvo 16)] [4] .ret)))
def Gs:List RV:=[.t 4 true]
theorem M8:aM G.tab Tryz.f172 2 L0 Gs=true:=by kernel_rfl
def c173:Cd:=sq [oM 2 (.nilo 9 1)] [0] (sq [oI 3 0] [0,3] (.seq (sq [oV 9 0,ZN 10 9,oI 11 0] [0,3,9,10,11] (.block 0 (.loop (sq [Yl 12 11 10] [0,3,9,10,11,12] (.seq (.cond (.t 12) .skip (.exit 0)) (.seq (.block 1 (sq [ZI 13 1 9 11,ZL 14 1 13,oV 5 14] [0,3,5,9,10,11] (sq [oV 15 3,oV 16 5,ZN 17 16,Ya 18 15 17,oV 3 18] [0,3,9,10,11] (sq [oV 19 3,Wl 20 19 0] [0,3,9,10,11,
 20] (.cond (.t 20) (.ops [oM 21 (.mki 9 (kS ⟨#[108,101,110,32,111,117,116,32,111,102,32,114,97,110,103,101]⟩)),⟨none,.pan (.t 21),none⟩] [0,3,9,10,11]) .skip))))) (.ops [Wa 22 11 1,oV 11 22] [0,3,9,10,11]))))))) (sq [oV 23 3,oM 24 (.calln 202 [.k .nil,.t 23]),oM 6 (.mvo 24)] [0,6] (.seq (sq [oV 25 0,ZN 26 25,oI 27 0] [6,25,26,27] (.block 2 (.loop (sq [Yl 28 27 26] [6,25,26,27,
 28] (.seq (.cond (.t 28) .skip (.exit 2)) (.seq (.block 3 (sq [ZI 29 1 25 27,ZL 30 1 29,oV 8 30] [6,8,25,26,27] (.ops [oM 31 (.mvo 6),oV 32 8,oM 33 (.app 9 1 16 31 (.t 32)),oM 6 (.mvo 33)] [6,25,26,27]))) (.ops [Wa 34 27 1,oV 27 34] [6,25,26,27]))))))) (sq [oM 35 (.mvo 6),oM 2 (.mvo 35)] [2] .ret)))))
def K7:List RV:=[.t 2 true]
theorem OH:aM G.tab Tryz.f173 1 c173 K7=true:=by kernel_rfl
def LE:Cd:=sq [oI 2 0] [0] (.seq (sq [oV 5 0,ZN 6 5,Wl 7 6 1] [0,7] (.cond (.t 7) (.ops [oM 8 (.mki 9 (kS ⟨#[115,108,105,99,101,115,46,77,97,120,58,32,101,109,112,116,121,32,108,105,115,116]⟩)),⟨none,.pan (.t 8),none⟩] [0]) .skip)) (sq [oV 9 0,oM 10 (.ia 1 (.t 9) (kI 0)),ZL 11 1 10,oV 3 11] [0,3] (.seq (sq [oI 4 1] [0,3,4] (.block 0 (.loop (.seq (sq [oV 12 4,oV 13 0,ZN 14 13,Yl 15 12 14] [0,3,4,
 15] (.cond (.t 15) .skip (.exit 0))) (.seq (.block 1 (.ops [oV 18 3,oV 19 0,oV 20 4,ZI 21 1 19 20,ZL 22 1 21,oM 23 (.mx true (.t 18) (.t 22)),oV 3 23] [0,3,4])) (.ops [oV 16 4,Wa 17 16 1,oV 4 17] [0,3,4])))))) (.seq (.ops [oV 24 3,oV 2 24] [2]) .ret))))
def JH:List RV:=[.t 2 false]
theorem NH:aM G.tab Tryz.f103 1 LE JH=true:=by kernel_rfl
def c143:Cd:=sq [oM 4 (.mv kF)] [0,1] (sq [oV 5 0,oV 6 1,ZD 7 174 5 6,Wh 8 7 0,oV 4 8] [4] .ret)
def KT:List RV:=[.t 4 false]
theorem Ov:aM G.tab Tryz.f143 2 c143 KT=true:=by kernel_rfl
def KC:Cd:=sq [oI 4 0] [0,1] (.seq (sq [oV 6 0,ZN 7 6,oI 8 0] [0,1,7,8] (.block 0 (.loop (sq [Yl 9 8 7] [0,1,7,8,9] (.seq (.cond (.t 9) .skip (.exit 0)) (.seq (.block 1 (sq [oV 10 8,oV 5 10] [0,1,5,7,8] (sq [oV 11 1,oV 12 0,oV 13 5,ZI 14 1 12 13,ZL 15 1 14,oM 16 (.callv (.t 11) [.t 15])] [0,1,5,7,8,16] (.cond (.t 16) (sq [oV 17 5,oV 4 17] [4] .ret) .skip)))) (.ops [Wa 18 8 1,oV 8 18] [0,1,7,
 8]))))))) (.seq (.ops [oI 4 (-1)] [4]) .ret))
def Mf:List RV:=[.t 4 false]
theorem N5:aM G.tab Tryz.f174 2 KC Mf=true:=by kernel_rfl
def c87:Cd:=sq [oM 6 (.mv kF)] [0,1,2] (.seq (sq [oV 10 0,ZN 11 10,oV 12 1,ZN 13 12,Yn 14 11 13] [0,1,2,14] (.cond (.t 14) (sq [oM 6 (.mv kF)] [6] .ret) .skip)) (.seq (sq [oV 15 0,ZN 16 15,oI 17 0] [1,2,15,16,17] (.block 0 (.loop (sq [Yl 18 17 16] [1,2,15,16,17,18] (.seq (.cond (.t 18) .skip (.exit 0)) (.seq (.block 1 (sq [oV 19 17,ZI 20 9 15 17,ZM 21 9 20,oM 8 (.new 27 zz0),oV 7 19,oS 9 8 21] [1,
 2,7,8,15,16,17] (sq [oV 22 1,oV 23 7,ZI 24 9 22 23,ZM 25 9 24,oM 9 (.new 27 zz0),oS 9 9 25] [1,2,8,9,15,16,17] (sq [oV 26 2,ZM 27 9 8,ZM 28 9 9,oM 29 (.callv (.t 26) [.t 27,.t 28]),ZU 30 29] [1,2,15,16,17,30] (.cond (.t 30) (sq [oM 6 (.mv kF)] [6] .ret) .skip))))) (.ops [Wa 31 17 1,oV 17 31] [1,2,15,16,17]))))))) (sq [oM 6 (.mv kT)] [6] .ret)))
def O6:List RV:=[.t 6 false]
theorem k87:aM G.tab Tryz.f87 3 c87 O6=true:=by kernel_rfl
end Go.Proofs.YthekkgfmagliiaaGreatDoor
