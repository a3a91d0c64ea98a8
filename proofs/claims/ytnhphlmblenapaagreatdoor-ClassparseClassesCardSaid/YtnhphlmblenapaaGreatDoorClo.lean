import Derived.Lib.AppendZerosOnto
import Derived.Lib.SliceRun
import Derived.Lib.Walk
import Derived.Test.YtnhphlmblenapaaGreatDoorK3
set_option linter.unusedVariables false
set_option linter.unusedSimpArgs false
set_option linter.unusedSectionVars false
set_option maxRecDepth 100000
set_option maxHeartbeats 2000000
open Int renaming ofNat_lt->TJ
open List renaming length->TK,getElem?_eq_getElem->TL,map_append->TM,take_of_length_le->TN,take_add_one->TO,getElem?_map->TP,take_length->TQ,sum_append->TR,length_map->TS
namespace Go.Proofs.YtnhphlmblenapaaGreatDoor
open Go.RowKit
def c213:Cd:=sq [oM 2 (.mv (kS ⟨#[]⟩))] [0] (sq [oM 3 (.nilo 9 1)] [0,3] (.seq (sq [oV 6 0,ZN 7 6,oI 8 0] [3,6,7,8] (.block 0 (.loop (sq [Yl 9 8 7] [3,6,7,8,9] (.seq (.cond (.t 9) .skip (.exit 0)) (.seq (.block 1 (sq [ZI 10 4 6 8,ZM 11 4 10,oM 5 (.new 56 zz7),oS 4 5 11] [3,5,6,7,8] (.ops [oM 12 (.mvo 3),ZM 13 4 5,ZC 14 243 13,oM 15 (.mks 9 1 [.t 14]),oM 16 (.app 9 1 16 12 (.t 15)),
 oM 3 (.mvo 16)] [3,6,7,8]))) (.ops [Wa 17 8 1,oV 8 17] [3,6,7,8]))))))) (sq [oV 18 3,oM 19 (.call 244 [.t 18,.k (.d (.lit (.string ⟨#[44,32]⟩)))]),oV 2 19] [2] .ret)))
def c212:Cd:=sq [oM 2 (.mv (kS ⟨#[]⟩))] [0] (.seq (sq [oV 7 0,oM 8 (.call 241 [.t 7,.k (.d (.lit (.string ⟨#[91]⟩)))]),oV 6 8,ZX 9 6 0,ZX 10 6 1,ZX 11 6 2,oV 3 9,oV 4 10,oV 5 11] [0,3,4,5] (sq [oV 12 5] [0,3,4,12] (.cond (.t 12) (sq [oV 13 3,oM 14 (.bin .add (.t 13) (kS ⟨#[91]⟩)),oV 15 4,oM 16 (.call 242 [.t 15,.k (.d (.lit (.string ⟨#[93]⟩)))]),Ya 17 14 16,oM 18 (.bin .add (.t 17) (kS ⟨#[93]⟩)),
 oV 2 18] [2] .ret) .skip))) (sq [oV 19 0,oV 2 19] [2] .ret))
def c20:Cd:=sq [ZB 1 32 0,oM 2 (.mv (kS ⟨#[]⟩))] [1] (.seq (sq [ZM 5 4 1,ZC 6 50 5,ZU 7 6] [1,7] (.cond (.t 7) (.seq (.ops [oM 2 (.mv (kS ⟨#[]⟩))] [2]) .ret) .skip)) (sq [oM 8 (.bld [.d (.lit (.pointer none)),.nil,.d (.lit (.int .i64 0))] []),oM 9 (.boxt 91 (.t 8)),oM 3 (.new 85 [.d (.lit (.pointer none))]),oS 1 3 9] [1,3] (sq [oM 4 (.mv (kS ⟨#[]⟩))] [1,3,4] (.seq (sq [ZF 10 1 1,ZL 11 1 10,
 oM 12 (.bin .neq (.t 11) (kS ⟨#[]⟩))] [1,3,4,12] (.cond (.t 12) (.ops [ZF 13 1 1,ZL 14 1 13,oM 15 (.bin .add (kS ⟨#[32,101,120,116,101,110,100,115,32]⟩) (.t 14)),oV 4 15] [1,3,4]) .skip)) (sq [ZL 16 1 3,ZF 17 0 1,ZL 18 1 17,oV 19 4,oM 20 (.mks 9 1 [.k (.d (.lit (.string ⟨#[99,108,97,115,115,32]⟩))),.t 18,.t 19,.k (.d (.lit (.string ⟨#[32,123]⟩)))]),ZD 21 51 16 20] [1,3] (sq [ZL 22 1 3,
 oM 23 (.mkfn 53 [.t 1,.t 3]),ZD 24 52 22 23] [3] (sq [ZL 25 1 3,oM 26 (.mks 9 1 [.k (.d (.lit (.string ⟨#[125]⟩)))]),ZD 27 51 25 26] [3] (sq [ZL 28 1 3,ZK 29 28,ZF 30 0 29,ZC 31 56 30,oV 2 31] [2] .ret))))))))
def c22:Cd:=sq [oM 4 (.mv (kS ⟨#[]⟩))] [0,1] (.seq (sq [oV 6 0,ZC 7 27 6,Wn 8 7 0,oV 9 8,oH 10 9 (.mv (.t 1)),oH 11 9 (wl 10 0),ZP 12 9 11,oV 13 12,oH 14 13 (.mv (.t 1)),oH 15 13 (wg 14 32),ZP 16 13 15] [0,1,16] (.cond (.t 16) (sq [oM 4 (.mv (kS ⟨#[]⟩))] [4] .ret) .skip)) (sq [oV 17 1,oM 18 (.bld [.d (.lit (.pointer none)),.nil,.d (.lit (.int .i64 0))] [(2,1,.t 17)]),oM 19 (.boxt 91 (.t 18)),
 oV 5 19] [0,5] (sq [oV 20 5,oV 21 0,ZD 22 57 20 21] [5] (sq [oV 23 5,ZK 24 23,ZF 25 0 24,ZC 26 56 25,oV 4 26] [4] .ret))))
def c53:Cd:=.seq (sq [ZF 6 2 0,ZL 7 1 6,ZN 8 7,oI 9 0] [0,1,7,8,9] (.block 0 (.loop (sq [Yl 10 9 8] [0,1,7,8,9,10] (.seq (.cond (.t 10) .skip (.exit 0)) (.seq (.block 1 (sq [ZI 11 5 7 9,ZM 12 5 11,oM 3 (.new 74 zz6),oS 5 3 12] [0,1,3,7,8,9] (.ops [ZL 13 1 1,ZM 14 5 3,ZD 15 54 13 14] [0,1,7,8,9]))) (.ops [Wa 16 9 1,oV 9 16] [0,1,7,8,9]))))))) (sq [ZF 17 3 0,ZL 18 1 17,ZN 19 18,oI 20 0] [1,18,19,
 20] (.block 2 (.loop (sq [Yl 21 20 19] [1,18,19,20,21] (.seq (.cond (.t 21) .skip (.exit 2)) (.seq (.block 3 (sq [ZI 22 2 18 20,ZM 23 2 22,oM 5 (.new 46 zz9),oS 2 5 23] [1,5,18,19,20] (.ops [ZL 24 1 1,ZM 25 2 5,ZD 26 55 24 25] [1,18,19,20]))) (.ops [Wa 27 20 1,oV 20 27] [1,18,19,20])))))))
def c51:Cd:=.seq (.drawg [(oV 6 0,.free 0),(ZK 7 6,.free 0),(ZF 8 0 7,.free 0),(oV 9 0,.free 0),(ZK 10 9,.free 0),(ZF 11 2 10,.free 0),(ZL 12 1 11,.calm 0 0),(oM 13 (.call 110 [.k (.d (.lit (.string ⟨#[32,32,32,32]⟩))),.t 12]),.calm 0 0),(ZD 14 109 8 13,.act)] [0,1]) (.seq (sq [oV 15 1,ZN 16 15,oI 17 0] [0,15,16,17] (.block 0 (.loop (sq [Yl 18 17 16] [0,15,16,17,
 18] (.seq (.cond (.t 18) .skip (.exit 0)) (.seq (.block 1 (sq [ZI 19 1 15 17,ZL 20 1 19,oV 5 20] [0,5,15,16,17] (.ops [oV 21 0,ZK 22 21,ZF 23 0 22,oV 24 5,ZD 25 109 23 24] [0,15,16,17]))) (.ops [Wa 26 17 1,oV 17 26] [0,15,16,17]))))))) (.ops [oV 27 0,ZK 28 27,ZF 29 0 28,oM 30 (.call 109 [.t 29,.k (.d (.lit (.string ⟨#[10]⟩)))])] []))
def c45:Cd:=sq [ZB 1 32 0,oI 2 0] [1] (.seq (.block 0 (sq [ZF 7 0 1,ZL 8 1 7,ZC 9 96 8,ZU 10 9,oV 11 10,oH 12 11 (zF 1 1),oH 13 11 (zL 1 12),oH 14 11 (.bin .neq (.t 13) (kS ⟨#[]⟩)),oH 15 11 (.mv (.t 14)),oG 16 15 (zF 1 1),oG 17 15 (zL 1 16),oG 18 15 (zC 96 17),oG 19 15 (zU 18),oH 20 11 (zQ 15 19),ZP 21 11 20,oV 6 21] [1,6] (.cond (.t 6) (sq [oI 2 7] [2] .ret) (sq [ZF 23 2 1,ZL 24 1 23,ZN 25 24,
 Wg 26 25 16,oV 27 26,oH 28 27 (zF 3 1),oH 29 27 (zL 1 28),oH 30 27 (zN 29),oH 31 27 (wg 30 16),ZP 32 27 31,oV 22 32] [1,22] (.cond (.t 22) (sq [oI 2 2] [2] .ret) .skip))))) (.seq (sq [ZF 33 2 1,ZL 34 1 33,ZN 35 34,oI 36 0] [1,34,35,36] (.block 1 (.loop (sq [Yl 37 36 35] [1,34,35,36,37] (.seq (.cond (.t 37) .skip (.exit 1)) (.seq (.block 2 (sq [ZI 38 5 34 36,ZM 39 5 38,oM 4 (.new 74 zz6),
 oS 5 4 39] [1,4,34,35,36] (sq [ZM 40 5 4,ZC 41 97 40,oV 5 41] [1,5,34,35,36] (sq [oV 42 5,Wn 43 42 0] [1,5,34,35,36,43] (.cond (.t 43) (.seq (.ops [oV 44 5,oV 2 44] [2]) .ret) .skip))))) (.ops [Wa 45 36 1,oV 36 45] [1,34,35,36]))))))) (.seq (sq [ZF 46 3 1,ZL 47 1 46,oM 48 (.call 98 [.t 47,.k (.fn 99 [])])] [1,48] (.cond (.t 48) (sq [oI 2 7] [2] .ret) .skip)) (.seq (sq [ZF 49 2 1,ZL 50 1 49,
 oM 51 (.call 100 [.t 50,.k (.fn 101 [])]),oV 52 51,oH 53 52 (zF 3 1),oH 54 52 (zL 1 53),⟨some 55,.call 102 [.t 54,.k (.fn 103 [])],(some (52,false))⟩,ZP 56 52 55] [56] (.cond (.t 56) (sq [oI 2 8] [2] (.ret)) .skip)) (sq [oI 2 0] [2] .ret)))))
def Si:List RV:=[.t 2 false]
theorem k45:aE G.tab Tryz.f45 1 c45 Si=true:=by kernel_rfl
def c99:Cd:=sq [ZB 1 46 0,oM 2 (.mv kF)] [1] (sq [ZF 3 0 1,ZL 4 1 3,ZC 5 96 4,ZU 6 5,oV 2 6] [2] .ret)
def QB:List RV:=[.t 2 false]
theorem k99:aE G.tab Tryz.f99 1 c99 QB=true:=by kernel_rfl
def c97:Cd:=sq [ZB 1 74 0,oI 2 0] [1] (.seq (.block 0 (sq [ZF 5 0 1,ZL 6 1 5,ZC 7 96 6,ZU 8 7,oV 4 8] [1,4] (.cond (.t 4) (sq [oI 2 7] [2] .ret) (sq [ZF 10 1 1,ZL 11 1 10,Wl 12 11 1,oV 13 12,oH 14 13 (zF 1 1),oH 15 13 (zL 1 14),oH 16 13 (wg 15 8),ZP 17 13 16,oV 18 17,oH 19 18 (zF 2 1),oH 20 18 (zL 1 19),oH 21 18 (wl 20 0),ZP 22 18 21,oV 23 22,oH 24 23 (zF 2 1),oH 25 23 (zL 1 24),
 oH 26 23 (wg 25 8),ZP 27 23 26,oV 9 27] [1,9] (.cond (.t 9) (sq [oI 2 1] [2] (.ret)) (sq [ZF 29 3 1,ZL 30 1 29,Wn 31 30 0,oV 32 31,oG 33 32 (zF 3 1),oG 34 32 (zL 1 33),oG 35 32 (wn 34 1),ZQ 36 32 35,oV 37 36,oG 38 37 (zF 3 1),oG 39 37 (zL 1 38),oG 40 37 (wn 39 2),ZQ 41 37 40,oV 28 41] [1,28] (.cond (.t 28) (sq [oI 2 1] [2] .ret) (sq [ZF 43 2 1,ZL 44 1 43,Wn 45 44 0,oV 46 45,oG 47 46 (zF 3 1),
 oG 48 46 (zL 1 47),oG 49 46 (we 48 2),ZQ 50 46 49,oV 42 50] [1,42] (.cond (.t 42) (sq [oI 2 1] [2] .ret) .skip))))))))) (sq [oI 3 0] [1,3] (.seq (sq [ZF 51 3 1,ZL 52 1 51,We 53 52 0] [1,3,53] (.cond (.t 53) (.ops [ZF 54 1 1,ZL 55 1 54,oM 56 (.bin .shl (kI 1) (.t 55)),Ws 57 56 1,oV 3 57] [1,3]) .skip)) (.seq (sq [ZF 58 4 1,ZL 59 1 58,Wl 60 59 0,oV 61 60,oH 62 61 (zF 4 1),oH 63 61 (zL 1 62),
 oH 64 61 (.mv (.t 3)),oH 65 61 (yg 63 64),ZP 66 61 65] [66] (.cond (.t 66) (sq [oI 2 1] [2] .ret) .skip)) (sq [oI 2 0] [2] (.ret))))))
def Tg:List RV:=[.t 2 false]
theorem k97:aE G.tab Tryz.f97 1 c97 Tg=true:=by kernel_rfl
def Qf:Cd:=sq [oM 4 (.mv kF)] [0,1] (.seq (sq [oV 7 0,ZN 8 7,oI 9 0] [0,1,8,9] (.block 0 (.loop (sq [Yl 10 9 8] [0,1,8,9,10] (.seq (.cond (.t 10) .skip (.exit 0)) (.seq (.block 1 (sq [oV 11 9,oV 5 11] [0,1,5,8,9] (sq [oV 12 5,oI 13 0] [0,1,5,8,9,12,13] (.block 2 (.loop (sq [Yl 14 13 12] [0,1,5,8,9,12,13,14] (.seq (.cond (.t 14) .skip (.exit 2)) (.seq (.block 3 (sq [oV 15 13,oV 6 15] [0,1,5,6,8,
 9,12,13] (.seq (.draw [oV 16 1,oV 17 0,oV 18 5,ZI 19 5 17 18,ZM 20 5 19,oM 21 (.callv (.t 16) [.t 20]),oV 22 1,oV 23 0,oV 24 6,ZI 25 5 23 24,ZM 26 5 25,oM 27 (.callv (.t 22) [.t 26]),Ye 28 21 27] [0,1,5,8,9,12,13,28]) (.cond (.t 28) (sq [oM 4 (.mv kT)] [4] .ret) .skip)))) (.ops [Wa 29 13 1,oV 13 29] [0,1,5,8,9,12,13]))))))))) (.ops [Wa 30 9 1,oV 9 30] [0,1,8,
 9]))))))) (sq [oM 4 (.mv kF)] [4] .ret))
def Nl:List RV:=[.t 4 false]
theorem SA:aE G.tab Tryz.f100 2 Qf Nl=true:=by kernel_rfl
def Mc:Cd:=sq [oM 4 (.mv kF)] [0,1] (.seq (sq [oV 7 0,ZN 8 7,oI 9 0] [0,1,8,9] (.block 0 (.loop (sq [Yl 10 9 8] [0,1,8,9,10] (.seq (.cond (.t 10) .skip (.exit 0)) (.seq (.block 1 (sq [oV 11 9,oV 5 11] [0,1,5,8,9] (sq [oV 12 5,oI 13 0] [0,1,5,8,9,12,13] (.block 2 (.loop (sq [Yl 14 13 12] [0,1,5,8,9,12,13,14] (.seq (.cond (.t 14) .skip (.exit 2)) (.seq (.block 3 (sq [oV 15 13,oV 6 15] [0,1,5,6,8,
 9,12,13] (.seq (.draw [oV 16 1,oV 17 0,oV 18 5,ZI 19 2 17 18,ZM 20 2 19,oM 21 (.callv (.t 16) [.t 20]),oV 22 1,oV 23 0,oV 24 6,ZI 25 2 23 24,ZM 26 2 25,oM 27 (.callv (.t 22) [.t 26]),Ye 28 21 27] [0,1,5,8,9,12,13,28]) (.cond (.t 28) (sq [oM 4 (.mv kT)] [4] .ret) .skip)))) (.ops [Wa 29 13 1,oV 13 29] [0,1,5,8,9,12,13]))))))))) (.ops [Wa 30 9 1,oV 9 30] [0,1,8,
 9]))))))) (sq [oM 4 (.mv kF)] [4] .ret))
def Qw:List RV:=[.t 4 false]
theorem R1:aE G.tab Tryz.f102 2 Mc Qw=true:=by kernel_rfl
def LT:Cd:=sq [ZB 1 74 0,oM 2 (.mv (kS ⟨#[]⟩))] [1] (sq [ZF 3 0 1,ZL 4 1 3,oV 2 4] [2] .ret)
def PM:List RV:=[.t 2 false]
theorem RX:aE G.tab Tryz.f101 1 LT PM=true:=by kernel_rfl
def LA:Cd:=sq [ZB 1 46 0,oM 2 (.mv (kS ⟨#[]⟩))] [1] (sq [ZF 3 0 1,ZL 4 1 3,oV 2 4] [2] .ret)
def Pz:List RV:=[.t 2 false]
theorem Q5:aE G.tab Tryz.f103 1 LA Pz=true:=by kernel_rfl
def c98:Cd:=sq [oM 4 (.mv kF)] [0,1] (sq [oV 5 0,oV 6 1,ZD 7 148 5 6,Wh 8 7 0,oV 4 8] [4] .ret)
def Tn:List RV:=[.t 4 false]
theorem k98:aE G.tab Tryz.f98 2 c98 Tn=true:=by kernel_rfl
def Nd:Cd:=sq [oI 4 0] [0,1] (.seq (sq [oV 6 0,ZN 7 6,oI 8 0] [0,1,7,8] (.block 0 (.loop (sq [Yl 9 8 7] [0,1,7,8,9] (.seq (.cond (.t 9) .skip (.exit 0)) (.seq (.block 1 (sq [oV 10 8,oV 5 10] [0,1,5,7,8] (sq [oV 11 1,oV 12 0,oV 13 5,ZI 14 2 12 13,ZM 15 2 14,oM 16 (.callv (.t 11) [.t 15])] [0,1,5,7,8,16] (.cond (.t 16) (sq [oV 17 5,oV 4 17] [4] .ret) .skip)))) (.ops [Wa 18 8 1,oV 8 18] [0,1,7,
 8]))))))) (.seq (.ops [oI 4 (-1)] [4]) .ret))
def Mg:List RV:=[.t 4 false]
theorem QM:aE G.tab Tryz.f148 2 Nd Mg=true:=by kernel_rfl
def c90:Cd:=sq [ZB 1 32 0,oI 2 0] [1] (.seq (sq [ZF 8 0 1,ZL 9 1 8,ZC 10 142 9,ZU 11 10,oV 12 11,oH 13 12 (zF 1 1),oH 14 12 (zL 1 13),oH 15 12 (.bin .neq (.t 14) (kS ⟨#[]⟩)),oH 16 12 (.mv (.t 15)),oG 17 16 (zF 1 1),oG 18 16 (zL 1 17),oG 19 16 (zC 142 18),oG 20 16 (zU 19),oH 21 12 (zQ 16 20),ZP 22 12 21] [1,22] (.cond (.t 22) (sq [oI 2 7] [2] .ret) .skip)) (.seq (sq [ZF 23 2 1,ZL 24 1 23,ZN 25 24,
 Wg 26 25 16,oV 27 26,oH 28 27 (zF 3 1),oH 29 27 (zL 1 28),oH 30 27 (zN 29),oH 31 27 (wg 30 16),ZP 32 27 31] [1,32] (.cond (.t 32) (sq [oI 2 2] [2] .ret) .skip)) (.seq (sq [oI 3 0] [1,3] (.block 0 (.loop (.seq (sq [oV 33 3,ZF 34 2 1,ZL 35 1 34,ZN 36 35,Yl 37 33 36] [1,3,37] (.cond (.t 37) .skip (.exit 0))) (.seq (.block 1 (sq [ZF 40 2 1,ZL 41 1 40,oV 42 3,ZI 43 5 41 42,ZM 44 5 43,ZC 45 143 44,
 oV 4 45] [1,3,4] (sq [oV 46 4,Wn 47 46 0] [1,3,4,47] (.cond (.t 47) (sq [oV 48 4,oV 2 48] [2] .ret) .skip)))) (.ops [oV 38 3,Wa 39 38 1,oV 3 39] [1,3])))))) (.seq (sq [oI 5 0] [1,5] (.block 2 (.loop (.seq (sq [oV 49 5,ZF 50 3 1,ZL 51 1 50,ZN 52 51,Yl 53 49 52] [1,5,53] (.cond (.t 53) .skip (.exit 2))) (.seq (.block 3 (sq [ZF 56 3 1,ZL 57 1 56,oV 58 5,ZI 59 2 57 58,ZF 60 0 59,ZL 61 1 60,
 ZC 62 142 61,ZU 63 62] [1,5,63] (.cond (.t 63) (sq [oI 2 7] [2] .ret) .skip))) (.ops [oV 54 5,Wa 55 54 1,oV 5 55] [1,5])))))) (.seq (sq [oI 6 0] [1,6] (.block 4 (.loop (.seq (sq [oV 64 6,ZF 65 2 1,ZL 66 1 65,ZN 67 66,Yl 68 64 67] [1,6,68] (.cond (.t 68) .skip (.exit 4))) (.seq (.block 5 (.seq (.draw [ZF 71 2 1,ZL 72 1 71,oV 73 6,oM 74 (.sub false 5 (.t 72) none (some (.t 73))),ZF 75 2 1,
 ZL 76 1 75,oV 77 6,ZI 78 5 76 77,ZF 79 0 78,ZL 80 1 79,ZD 81 144 74 80] [1,6,81]) (.cond (.t 81) (sq [oI 2 8] [2] .ret) (.skip)))) (.ops [oV 69 6,Wa 70 69 1,oV 6 70] [1,6])))))) (.seq (sq [oI 7 0] [1,7] (.block 6 (.loop (.seq (sq [oV 82 7,ZF 83 3 1,ZL 84 1 83,ZN 85 84,Yl 86 82 85] [1,7,86] (.cond (.t 86) .skip (.exit 6))) (.seq (.block 7 (.seq (.draw [ZF 89 3 1,ZL 90 1 89,oV 91 7,
 oM 92 (.sub false 2 (.t 90) none (some (.t 91))),ZF 93 3 1,ZL 94 1 93,oV 95 7,ZI 96 2 94 95,ZF 97 0 96,ZL 98 1 97,ZD 99 145 92 98,Wh 100 99 0] [1,7,100]) (.cond (.t 100) (sq [oI 2 8] [2] .ret) .skip))) (.ops [oV 87 7,Wa 88 87 1,oV 7 88] [1,7])))))) (.seq (.ops [oI 2 0] [2]) .ret)))))))
def Ta:List RV:=[.t 2 false]
theorem k90:aE G.tab Tryz.f90 1 c90 Ta=true:=by kernel_rfl
def c143:Cd:=sq [ZB 1 74 0,oI 2 0] [1] (.seq (sq [ZF 4 0 1,ZL 5 1 4,ZC 6 142 5,ZU 7 6] [1,7] (.cond (.t 7) (sq [oI 2 7] [2] .ret) .skip)) (.seq (sq [ZF 8 1 1,ZL 9 1 8,Wl 10 9 1,oV 11 10,oH 12 11 (zF 1 1),oH 13 11 (zL 1 12),oH 14 11 (wg 13 8),ZP 15 11 14,oV 16 15,oH 17 16 (zF 2 1),oH 18 16 (zL 1 17),oH 19 16 (wl 18 0),ZP 20 16 19,oV 21 20,oH 22 21 (zF 2 1),oH 23 21 (zL 1 22),oH 24 21 (wg 23 8),
 ZP 25 21 24,oV 26 25,oH 27 26 (zF 3 1),oH 28 26 (zL 1 27),oH 29 26 (wl 28 0),ZP 30 26 29,oV 31 30,oH 32 31 (zF 3 1),oH 33 31 (zL 1 32),oH 34 31 (wg 33 2),ZP 35 31 34] [1,35] (.cond (.t 35) (sq [oI 2 1] [2] (.ret)) .skip)) (.seq (sq [ZF 36 2 1,ZL 37 1 36,Wn 38 37 0,oV 39 38,oG 40 39 (zF 3 1),oG 41 39 (zL 1 40),oG 42 39 (we 41 2),ZQ 43 39 42] [1,
 43] (.cond (.t 43) (sq [oI 2 1] [2] .ret) .skip)) (sq [oI 3 0] [1,3] (.seq (sq [ZF 44 3 1,ZL 45 1 44,We 46 45 0] [1,3,46] (.cond (.t 46) (.ops [ZF 47 1 1,ZL 48 1 47,oM 49 (.conv .u64 (.t 48)),oM 50 (.bin .shl (kI 1) (.t 49)),Ws 51 50 1,oV 3 51] [1,3]) .skip)) (.seq (sq [ZF 52 4 1,ZL 53 1 52,Wl 54 53 0,oV 55 54,oH 56 55 (zF 4 1),oH 57 55 (zL 1 56),oH 58 55 (.mv (.t 3)),oH 59 55 (yg 57 58),
 ZP 60 55 59] [60] (.cond (.t 60) (sq [oI 2 1] [2] .ret) .skip)) (sq [oI 2 0] [2] .ret)))))))
def Md:List RV:=[.t 2 false]
theorem Tt:aE G.tab Tryz.f143 1 c143 Md=true:=by kernel_rfl
def NC:Cd:=sq [oM 4 (.mv kF)] [0,1] (.seq (sq [oI 5 0] [0,1,5] (.block 0 (.loop (.seq (sq [oV 6 5,oV 7 0,ZN 8 7,Yl 9 6 8] [0,1,5,9] (.cond (.t 9) .skip (.exit 0))) (.seq (.block 1 (sq [oV 12 0,oV 13 5,ZI 14 5 12 13,ZF 15 0 14,ZL 16 1 15,oV 17 1,Ye 18 16 17] [0,1,5,18] (.cond (.t 18) (sq [oM 4 (.mv kT)] [4] .ret) .skip))) (.ops [oV 10 5,Wa 11 10 1,oV 5 11] [0,1,
 5])))))) (sq [oM 4 (.mv kF)] [4] .ret))
def L3:List RV:=[.t 4 false]
theorem Q9:aE G.tab Tryz.f144 2 NC L3=true:=by kernel_rfl
def c145:Cd:=sq [oI 4 0] [0,1] (.seq (sq [oI 5 0] [0,1,5] (.block 0 (.loop (.seq (sq [oV 6 5,oV 7 0,ZN 8 7,Yl 9 6 8] [0,1,5,9] (.cond (.t 9) .skip (.exit 0))) (.seq (.block 1 (sq [oV 12 0,oV 13 5,ZI 14 2 12 13,ZF 15 0 14,ZL 16 1 15,oV 17 1,Ye 18 16 17] [0,1,5,18] (.cond (.t 18) (sq [oV 19 5,oV 4 19] [4] .ret) .skip))) (.ops [oV 10 5,Wa 11 10 1,oV 5 11] [0,1,5])))))) (sq [oI 4 (-1)] [4] .ret))
def Nk:List RV:=[.t 4 false]
theorem Te:aE G.tab Tryz.f145 2 c145 Nk=true:=by kernel_rfl
def c14:Cd:=sq [ZB 2 32 0,ZB 3 32 1,oM 4 (.mv kF)] [2,3] (.seq (sq [ZF 7 0 2,ZL 8 1 7,ZF 9 0 3,ZL 10 1 9,Yn 11 8 10,oV 12 11,oH 13 12 (zF 1 2),oH 14 12 (zL 1 13),oH 15 12 (zF 1 3),oH 16 12 (zL 1 15),oH 17 12 (yn 14 16),ZP 18 12 17,oV 19 18,oH 20 19 (zF 2 2),oH 21 19 (zL 1 20),oH 22 19 (zN 21),oH 23 19 (zF 2 3),oH 24 19 (zL 1 23),oH 25 19 (zN 24),oH 26 19 (yn 22 25),ZP 27 19 26,oV 28 27,
 oH 29 28 (zF 3 2),oH 30 28 (zL 1 29),oH 31 28 (zN 30),oH 32 28 (zF 3 3),oH 33 28 (zL 1 32),oH 34 28 (zN 33),oH 35 28 (yn 31 34),ZP 36 28 35] [2,3,36] (.cond (.t 36) (sq [oM 4 (.mv kF)] [4] .ret) .skip)) (.seq (sq [oI 5 0] [2,3,5] (.block 0 (.loop (.seq (sq [oV 37 5,ZF 38 2 2,ZL 39 1 38,ZN 40 39,Yl 41 37 40] [2,3,5,41] (.cond (.t 41) .skip (.exit 0))) (.seq (.block 1 (.seq (.draw [ZF 44 2 2,
 ZL 45 1 44,oV 46 5,ZI 47 5 45 46,ZM 48 5 47,ZF 49 2 3,ZL 50 1 49,oV 51 5,ZI 52 5 50 51,ZM 53 5 52,oM 54 (.eqa true 74 [.s,.i .i64,.i .i64,.i .i64,.i .i64] (.t 48) (.t 53))] [2,3,5,54]) (.cond (.t 54) (sq [oM 4 (.mv kF)] [4] (.ret)) .skip))) (.ops [oV 42 5,Wa 43 42 1,oV 5 43] [2,3,5])))))) (.seq (sq [oI 6 0] [2,3,6] (.block 2 (.loop (.seq (sq [oV 55 6,ZF 56 3 2,ZL 57 1 56,ZN 58 57,Yl 59 55 58] [2,
 3,6,59] (.cond (.t 59) .skip (.exit 2))) (.seq (.block 3 (.seq (.draw [ZF 62 3 2,ZL 63 1 62,oV 64 6,ZI 65 2 63 64,ZF 66 0 65,ZL 67 1 66,ZF 68 3 3,ZL 69 1 68,oV 70 6,ZI 71 2 69 70,ZF 72 0 71,ZL 73 1 72,Yn 74 67 73,oV 75 74,oH 76 75 (zF 3 2),oH 77 75 (zL 1 76),oH 78 75 (.mv (.t 6)),oH 79 75 (zI 2 77 78),oH 80 75 (zF 1 79),oH 81 75 (zL 1 80),oH 82 75 (zF 3 3),oH 83 75 (zL 1 82),oH 84 75 (.mv (.t 6)),
 oH 85 75 (zI 2 83 84),oH 86 75 (zF 1 85),oH 87 75 (zL 1 86),oH 88 75 (zD 11 81 87),oH 89 75 (zU 88),ZP 90 75 89] [2,3,6,90]) (.cond (.t 90) (sq [oM 4 (.mv kF)] [4] (.ret)) .skip))) (.ops [oV 60 6,Wa 61 60 1,oV 6 61] [2,3,6])))))) (sq [oM 4 (.mv kT)] [4] .ret))))
def S0:List RV:=[.t 4 false]
theorem k14:aE G.tab Tryz.f14 2 c14 S0=true:=by kernel_rfl
end Go.Proofs.YtnhphlmblenapaaGreatDoor
namespace Go.Proofs.YtnhphlmblenapaaGreatDoor
open Go.RowKit
def xm(o:Int):V:=match (if o=21 then none else pC o)with
 | some (m,l)=>.tup [.d (ai m),.d (ab l)]
 | none=>.tup [.d (ai ⟨#[]⟩),.d (ab 0)]
theorem Ee{o:Int}(h:¬(7≤o/\o≤21)):pC o=none:=by
 cases hb:pC o with
 | none=>rfl
 | some p=>
  have:=zT _ (sS (m:=p.1) (l:=p.2) hb);simp only at this;omega
theorem AP{o:Int}(h:¬(7≤o/\o≤20)):xm o=.tup [.d (ai ⟨#[]⟩),.d (ab 0)]:=by
 unfold xm;by_cases h21:o=21
 .rw[if_pos h21]
 .rw[if_neg h21,Ee (by omega)]
theorem DP(o:Int)(σ:LLV):Fun G 293 [.d (ab o)] σ (aN (xm o) σ):=by
 refine ae Tryz.func293 Sf rfl fun hb hw=>?_;unfold Mr;by_cases h:7≤o/\o≤20
 .have:o=7\/o=8\/o=9\/o=10\/o=11\/o=12\/o=13\/o=14\/o=15\/o=16\/o=17\/o=18\/o=19\/o=20:=by omega
  rcases this with rfl|rfl|rfl|rfl|rfl|rfl|rfl|rfl|rfl|rfl|rfl|rfl|rfl|rfl
  all_goals
   simp -dsimp only[aw,seval];exact az hb rfl rfl TQ ⟨rfl,rfl⟩
 .rw[AP h];have ne:∀k:Int,7≤k->k≤20->decide (o=k)=false:=fun k h1 h2=>by rw[decide_eq_false_iff_not];omega
  simp -dsimp only[aw,seval,ne 7 (by omega) (by omega),ne 8 (by omega) (by omega),ne 9 (by omega) (by omega),ne 10 (by omega) (by omega),ne 11 (by omega) (by omega),ne 12 (by omega) (by omega),ne 13 (by omega) (by omega),ne 14 (by omega) (by omega),ne 15 (by omega) (by omega),ne 16 (by omega) (by omega),ne 17 (by omega) (by omega),ne 18 (by omega) (by omega),ne 19 (by omega) (by omega),ne 20 (by omega) (by omega)];exact az hb rfl rfl TQ ⟨rfl,rfl⟩
section
variable (i : Nat) (t : Option Bs) (k : Nat) (x : It) (d : Nat) (σ : LLV)
end
end Go.Proofs.YtnhphlmblenapaaGreatDoor
namespace Go.Proofs.YtnhphlmblenapaaGreatDoor
open Go.RowKit
section
variable (b c i : Nat) (t : Option Bs) (k : Nat) (x : It) (d : Nat) (σ : LLV)
end
section
variable (i : Nat) (t : Option Bs) (k : Nat) (x : It) (d : Nat) (σ : LLV)
end
end Go.Proofs.YtnhphlmblenapaaGreatDoor
namespace Go.Proofs.YtnhphlmblenapaaGreatDoor
open Go.RowKit
section
variable (i : Nat) (t : Option Bs) (k : Nat) (x : It) (d : Nat) (σ : LLV)
end
end Go.Proofs.YtnhphlmblenapaaGreatDoor
namespace Go.Proofs.YtnhphlmblenapaaGreatDoor
open Go.RowKit
theorem Tryz.under_strs:Tryz.prog.underlying 52=some (.slice 9):=by kernel_rfl
theorem Tryz.under_int:Tryz.prog.underlying 3=some (.int .i64):=by kernel_rfl
theorem CK(w:World):Calls Tryz.prog 179 #[.slice none 0 0,.int .i64 0] w fun e w'=>e=.returned (.slice none 0 0)/\w'=w:=by
 have h2:wrap64 ((0:Int)-(0:Int))=0:=by unfold wrap64;omega
 go_enter Tryz.func179,Tryz.ntmps179;go_wp2_with fail;go_ret;exact⟨rfl,rfl⟩
theorem DR(n:Nat)(h0:0<n)(hn:n≤1200000)(w:World):Calls Tryz.prog 179 #[.slice none 0 0,.int .i64 n] w fun e w'=>
 e=.returned (.slice (some ⟨w.heap.size,0,none⟩) 0 (grownCap w n 0 9))/\
  w'=w.drew.alloc (.cells (Builtin.zeroCells #[.string ⟨#[]⟩] n++Builtin.zeroCells #[.string ⟨#[]⟩] (grownCap w n 0 9-n)) 9):=by
 obtain⟨i0,hi0,hz0,hs0,hb0⟩:∃i0,Tryz.prog.info? 9=some i0/\i0.zero=some (.string ⟨#[]⟩)/\i0.size=1/\i0.bytes=16:=by
  have h:=Tryz.infoS;cases hi:Tryz.prog.info? 9 with
  | none=>rw[hi]at h;cases h
  | some i0=>rw[hi]at h;simp only[Option.map_some,Option.some.injEq,Prod.mk.injEq]at h;exact⟨i0,rfl,h.1,h.2.1,h.2.2⟩
 have h1:¬((n:Int)<0):=by omega
 have h2:wrap64 ((0:Int)-(0:Int))=0:=by unfold wrap64;omega
 have h3:wrap64 ((n:Int)-0)=n:=by unfold wrap64;omega
 have h4:(n:Int)>0:=by omega
 have hold:(Builtin.firstCells i0.size 0 (.slice none 0 0)).run Tryz.prog w.drew=.ok (#[]:Array Value) w.drew:=run_firstCells_none w.drew i0.size 0 0 0
 have hrz:∀ty,(Builtin.append_ #[52,3] ty #[.slice none 0 0,.int .i64 (n:Int)]).run Tryz.prog w=
  .ok (.slice (some ⟨w.heap.size,0,none⟩) n (grownCap w n 0 9)) (w.drew.alloc (.cells (Builtin.zeroCells #[.string ⟨#[]⟩] n++Builtin.zeroCells #[.string ⟨#[]⟩] (grownCap w n 0 9-n)) 9)):=fun ty=>by
  have h:=Lib.run_append_grow_zeros w 52 3 ty 9 i0 _ .i64 .i64 Tryz.under_strs Tryz.under_int hi0 hz0 none 0 0 [] hold n (by omega) (by omega) (by omega) (by omega) (by rw[hb0];omega)
   (growslice_fits (by omega) (by rw[hb0];omega))
  simp only[Nat.zero_add]at h;rw[h];simp[Value.cells]
 have hGn:n≤grownCap w n 0 9:=grownCap_ge w _ _ _;obtain⟨G,hG⟩:∃G,G=grownCap w n 0 9:=⟨_,rfl⟩
 rw[<-hG]at hrz hGn ⊢
 have hG63:G≤9223372036854775807:=by
  have:=grownCap_le_maxLen w n 0 9 (by unfold maxLen;omega);rw[<-hG]at this;unfold maxLen at this;omega
 clear hold hG;go_enter Tryz.func179,Tryz.ntmps179;go_wp2_with (at_builtin;refine Lib.wpList_append_run _ rfl _ _ _ _ rfl _ _ rfl rfl _ _ (hrz _) ?_);all_goals (go_ret;exact⟨rfl,rfl⟩)
theorem Fb(n:Nat)(hn:n≤1200000)(σ:LLV):Fun G 179 [.nil,.d (ab n)] σ (aN (.own 9 1 []) σ):=
 nu (l:=[]) Tryz.func179 (by kernel_rfl) (by kernel_rfl) fun M bm w vs hG hM hl hr=>match vs,hl with
  | [v,u],_=>by
   refine⟨by simp,?_⟩;have h1:Rep M bm .nil v:=hr 0 (by simp) (by simp);have h2:Rep M bm (.d (ab n)) u:=hr 1 (by simp) (by simp);cases h1 with
   | nil=>cases h2 with
    | d h2=>cases h2 with
     | lit _ _=>
      by_cases h0:n=0
      .subst h0;refine(CK w).mono fun e w' ⟨h3,h4⟩=>?_;subst h4;exact⟨_,h3,⟨rfl,.inl ⟨rfl,rfl⟩⟩,(fun k hk=>by cases hk),Ext.refl _⟩
      .refine(DR n (by omega) hn w).mono fun e w' ⟨h3,h4⟩=>?_;subst h4;have hGn:n≤grownCap w n 0 9:=grownCap_ge w _ _ _;have hGm:=grownCap_le_maxLen w n 0 9 (by unfold maxLen;omega);refine⟨_,h3,⟨rfl,.inr ⟨w.heap.size,_,_,rfl,Nat.zero_le _,heap_alloc_new w.drew _,Nat.zero_le _,hGm,?_,rfl⟩⟩,fun k hk=>?_,((Ext.refl w).drew).alloc _⟩
       .simp only[Array.size_append,size_zeroCells,List.size_toArray,List.length_cons,List.length_nil];omega
       .simp only[Value.ownBlock,Option.some.injEq]at hk;omega
theorem yc(ls:List (List ByteArray))(hs:(ls.map TK).sum≤1200000)(hn:ls.length≤1200000)(σ:LLV):
 Fun G 128 [.d (.sl (ls.map fun l=>[D.sl (l.map fun s=>[ai s])]))] σ (aN (.own 9 1 (ls.flatten.map fun s=>[ai s])) σ):=by
 refine ae Tryz.func128 Ti rfl fun hb hw=>?_;unfold Ms;generalize hrows:(ls.map fun l=>[D.sl (l.map fun s=>[ai s])])=rows;have hrl:rows.length=ls.length:=by rw[<-hrows,TS]
 have hre:∀j (h:j<ls.length),rows[j]? = some [D.sl (ls[j].map fun s=>[ai s])]:=fun j h=>by rw[<-hrows,TP,TL h];rfl
 have hle:∀j,((ls.take j).map TK).sum≤(ls.map TK).sum:=fun j=>by
  conv=>rhs;rw[<-List.take_append_drop j ls]
  rw[TM,TR];omega
 simp -dsimp only[aw,seval,hrl];refine aL [0,3,9,10,11] (R:=fun(j:Nat) ρ σ'=>ρ=[(0,.d (.sl rows)),(3,aF .i64 (((ls.take j).map TK).sum:Nat)),(9,.d (.sl rows)),(10,aF .i64 ls.length),(11,aF .i64 j)]/\σ'=σ) ls.length ⟨rfl,rfl⟩ ?_ _;rintro j ρ' σ' hj ⟨rfl,rfl⟩;by_cases hlt:j<ls.length
 .have ht:((ls.take (j+1)).map TK).sum=((ls.take j).map TK).sum+ls[j].length:=by
   rw[TO,TL hlt,TM,TR];show _+(ls[j].length+0)=_;omega
  have h1:=hle (j+1);have hw1:IntKind.i64.wrap ((((ls.take j).map TK).sum:Nat)+(ls[j].length:Int))=(((ls.take (j+1)).map TK).sum:Nat):=by rw[aA (by omega) (by omega),ht];omega
  have hng:¬((((ls.take (j+1)).map TK).sum:Nat):Int)<0:=by omega
  simp -dsimp only[aw,seval,TJ,hlt,decide_true,hre j hlt,hw1,decide_eq_false hng,aJ hlt (show ls.length≤9223372036854775807 by omega)];exact Nxt.same (Nat.le_refl _) hb rfl ⟨rfl,rfl⟩
 .simp -dsimp only[aw,seval,TJ,hlt];rw[TN (show ls.length≤j by omega)];refine ac (Fb _ hs _) ?_;simp -dsimp only[aw,seval,hrl];refine aL [6,25,26,27] (R:=fun(j:Nat) ρ σ''=>ρ=[(6,.own 9 1 ((ls.take j).flatten.map fun s=>[ai s])),(25,.d (.sl rows)),(26,aF .i64 ls.length),(27,aF .i64 j)]/\σ''=σ') ls.length ⟨rfl,rfl⟩ ?_ _;rintro j ρ' σ'' hj ⟨rfl,rfl⟩;by_cases hlt:j<ls.length
  .have ht:(ls.take (j+1)).flatten=(ls.take j).flatten++ls[j]:=by
    rw[TO,TL hlt,List.flatten_append];simp
   have h1:=hle (j+1);have h2:((ls.take j).flatten++ls[j]).length=((ls.take (j+1)).map TK).sum:=by rw[<-ht,List.length_flatten]
   rw[List.length_append]at h2;have hal:(ls[j].map fun s=>[ai s]).all (fun r=>r.length==1)=true:=by rw[List.all_map];exact List.all_eq_true.2 fun _ _=>rfl
   simp -dsimp only[aw,seval,TJ,hlt,decide_true,hre j hlt,hal];refine bg (by first|omega|(simp only[TS];omega)) ?_;simp -dsimp only[aw,seval,aJ hlt (show ls.length≤9223372036854775807 by omega)];refine⟨hlt,Nxt.same (Nat.le_refl _) hb rfl ⟨?_,rfl⟩⟩;rw[ht,TM]
  .simp -dsimp only[aw,seval,TJ,hlt];rw[TN (show ls.length≤j by omega)];exact ak hb rfl rfl
end Go.Proofs.YtnhphlmblenapaaGreatDoor
namespace Go.Proofs.YtnhphlmblenapaaGreatDoor
open Go.RowKit Go.Shelf
theorem xF{w:World}{base T k n:Nat}{v:Value}{xs:List Value}(h:w.ownsRow base T k v n xs):w.ownsRow 0 T k v n xs:=
 ⟨h.1,h.2.imp id fun⟨g,cap,cur,a,b,c⟩=>⟨g,cap,cur,a,Nat.zero_le _,c⟩⟩
theorem Iz:∃i0,Tryz.prog.info? 9=some i0/\i0.zero=some (.string ⟨#[]⟩)/\i0.size=1/\i0.bytes=16:=by
 have h:(Tryz.prog.info? 9).map (fun i=>(i.zero,i.size,i.bytes))=some (some (.string ⟨#[]⟩),1,16):=by kernel_rfl
 cases hi:Tryz.prog.info? 9 with
 | none=>rw[hi]at h;cases h
 | some i0=>rw[hi]at h;simp only[Option.map_some,Option.some.injEq,Prod.mk.injEq]at h;exact⟨i0,rfl,h.1,h.2.1,h.2.2⟩
theorem C8(l:List ByteArray)(hl:l.length≤1200000)(v:Value)(w:World)(hv:dq w l v):Calls Tryz.prog 123 #[v] w (u1 l w):=by
 obtain⟨p,cap,rfl,h1,h2,h3⟩:=hv
 have fin:∀e w',(∃v',e=Ending.returned v'/\w'.ownsRow w.heap.size 9 1 v' l.length (l.map Value.string)/\v'≠.slice none 0 0/\Below w.heap.size w w')->u1 l w e w':=fun e w' ⟨v',g1,g2,_,g4⟩=>
  ⟨v',g1,xF g2,(fun k hk=>(g2.lt k hk).1),g4⟩
 cases p with
 | none=>
  have hl0:l=[]:=by
   cases l with
   | nil=>rfl
   | cons a r=>obtain⟨b,off,e,-⟩:=h3 0 a rfl;cases e
  subst hl0;refine(AnyE.slices_Clone_nil (ρ:=Tryz.cloneSA_ren) Tryz.cloneSA 0 cap w).mono fun e w' ⟨g1,g2⟩=>?_;subst g2;exact⟨_,g1,⟨rfl,.inl ⟨rfl,rfl⟩⟩,(fun k hk=>by cases hk),Ext.refl _⟩
 | some a=>
  by_cases hl0:l=[]
  .subst hl0;exact(AnyG.slices_Clone_string_zero (ρ:=Tryz.cloneZA_ren) Tryz.cloneZA a cap w).mono fin
  .obtain⟨x,r,rfl⟩:=List.exists_cons_of_ne_nil hl0;obtain⟨b,off,e,-⟩:=h3 0 x rfl;cases e;obtain⟨i0,hi,z0,z1,z2⟩:=Iz;refine(AnyE.slices_Clone (ρ:=Tryz.cloneSA_ren) Tryz.cloneSA i0 _ 1 16 hi z0 z1 z2 rfl (by decide) (fun w=>Tryz.sizeOf9 w) b off (x::r).length cap ((x::r).map Value.string) w (by simp) (by unfold maxLen;omega) (by omega) (fun j u hu=>?_) (fun u hu=>?_)).mono fin
   .rw[TP]at hu;obtain⟨s,hs,rfl⟩:=Option.map_eq_some_iff.1 hu;obtain⟨b',off',e,hc⟩:=h3 j s hs;cases e;exact hc
   .obtain⟨s,-,rfl⟩:=List.mem_map.1 hu;rfl
theorem B6{M:av}{bm:List Nat}{l:List ByteArray}{v:Value}(h:Rep M bm (.d (cV l)) v):∀s,s∈l->s.size≤maxLen:=by
 intro s hs;cases h with
 | d h=>
 unfold cV at h;generalize hr:(l.map fun s=>[ai s])=rows at h;cases h with
 | sl _ k p cap val hk hd hf hc hm=>
 obtain⟨i,hi,rfl⟩:=List.getElem_of_mem hs;have hir:i<rows.length:=by rw[<-hr];simpa using hi
 have e:rows[i]=[ai l[i]]:=by subst hr;simp
 have:=hd i 0 hir (by rw[e];simp);simp only[e,List.getElem_cons_zero,ai]at this;generalize val i 0=u at this;cases this with|lit _ hf=>exact hf
theorem BO(l:List ByteArray)(hl:l.length≤1200000)(σ:LLV):Fun G 123 [.d (cV l)] σ (aN (.own 9 1 (l.map fun s=>[ai s])) σ):=
 nu Tryz.func123 (by kernel_rfl) (by kernel_rfl) fun M bm w vs hG hM hn hr=>match vs,hn with
  | [v],_=>by
   have h1:Rep M bm (.d (cV l)) v:=hr 0 (by simp) (by simp);exact⟨B6 h1,C8 l hl v w (mH hM h1)⟩
end Go.Proofs.YtnhphlmblenapaaGreatDoor
