import Derived.Test.YtnhphlmblenapaaGreatDoorK6
import Derived.Test.YtnhphlmblenapaaGreatDoorCw5
set_option linter.unusedVariables false
set_option linter.unusedSimpArgs false
set_option linter.unusedSectionVars false
set_option maxRecDepth 100000
set_option maxHeartbeats 1200000
open Bool renaming false_eq_true->TU
open Int renaming ofNat_lt->TV
open List renaming take_left->TW,getElem?_eq_getElem->TX,drop_eq_nil_of_le->TY,drop_eq_getElem_cons->TZ,take_length->T0,getElem?_eq_none->T3,length_set->T4,getElem?_append_right->T5,take_of_length_le->T6,length_drop->T7,find?_cons->T8
open Nat renaming le_refl->T9
namespace Go.Proofs.YtnhphlmblenapaaGreatDoor
open Go.RowKit
open Nat renaming reduceLeDiff -> jA, reduceBEq -> jB, reduceLT -> jC, reduceEqDiff -> jD, reduceAdd -> jE, reduceSub -> jF, reduceMul -> jG
open V renaming copy -> jV, lend -> jW, lend1 -> jX, cells -> jY, boxable -> jZ
def c9:Cd:=sq [oM 2 (.mv (.k .nil)),oI 3 0,oI 4 0] [0] (sq [oV 10 0,oM 11 (.call 23 [.t 10,.k (.fn 24 [])]),oV 9 11,ZX 12 9 0,ZX 13 9 1,ZX 14 9 2,oV 5 12,oV 6 13,oV 7 14] [5,6,7] (.seq (sq [oV 15 7,Wn 16 15 0] [5,6,7,16] (.cond (.t 16) (sq [oV 17 6,oV 18 7,oM 2 (.mv (.k .nil)),oV 3 17,oV 4 18] [2,3,4] .ret) .skip)) (.seq (sq [oV 19 5,ZC 20 27 19,oV 8 20] [5,8] (sq [oV 21 8,Wn 22 21 0] [5,8,
 22] (.cond (.t 22) (sq [oV 23 8,oM 2 (.mv (.k .nil)),oI 3 0,oV 4 23] [2,3,4] .ret) .skip))) (sq [oV 24 5,oV 2 24,oI 3 0,oI 4 0] [2,3,4] .ret))))
def rs9:List RV:=[.t 2 false,.t 3 false,.t 4 false]
theorem k9:aG G.tab Tryz.f9 1 c9 rs9=true:=by kernel_rfl
def c12:Cd:=sq [oM 2 (.new 32 zz5),oI 3 0,oI 4 0] [0,2] (sq [oV 10 0,oM 11 (.call 32 [.t 10,.k (.fn 33 [])]),oV 9 11,ZX 12 9 0,ZX 13 9 1,ZX 14 9 2,oM 5 (.new 32 zz5),oS 4 5 12,oV 6 13,oV 7 14] [2,5,6,7] (.seq (sq [oV 15 7,Wn 16 15 0] [2,5,6,7,16] (.cond (.t 16) (sq [oM 17 (.bld zz5 []),oV 18 6,oV 19 7,oS 4 2 17,oV 3 18,oV 4 19] [2,3,4] .ret) .skip)) (.seq (sq [ZM 20 4 5,ZC 21 37 20,oV 8 21] [2,5,
 8] (.seq (.ops [oV 22 8,Wn 23 22 0] [2,5,8,23]) (.cond (.t 23) (sq [oM 24 (.bld zz5 []),oV 25 8,oS 4 2 24,oI 3 0,oV 4 25] [2,3,4] .ret) .skip))) (sq [ZM 26 4 5,oS 4 2 26,oI 3 0,oI 4 0] [2,3,4] .ret))))
def EL:List RV:=[.c 2 4 true,.t 3 false,.t 4 false]
theorem k12:aG G.tab Tryz.f12 1 c12 EL=true:=by kernel_rfl
def c24:Cd:=sq [oM 2 (.mv (.k .nil))] [0] (sq [oV 3 0,oV 4 0,oM 5 (.mkbd 26 [.t 4]),ZD 6 25 3 5,oV 2 6] [2] .ret)
def Tm:List RV:=[.t 2 false]
theorem k24:aG G.tab Tryz.f24 1 c24 Tm=true:=by kernel_rfl
def c33:Cd:=sq [oM 2 (.new 32 zz5)] [0,2] (sq [oV 4 0,ZC 5 34 4,oM 3 (.new 32 zz5),oS 4 3 5] [0,2,3] (.seq (sq [oV 6 0,ZC 7 35 6] [0,2,3,7] (.cond (.t 7) (.ops [oV 8 0,ZC 9 36 8] [2,3]) .skip)) (sq [ZM 10 4 3,oS 4 2 10] [2] .ret)))
def OJ:List RV:=[.c 2 4 true]
theorem k33:aG G.tab Tryz.f33 1 c33 OJ=true:=by kernel_rfl
def c25:Cd:=sq [oM 4 (.mv (.k .nil))] [0,1] (sq [oM 5 (.nilo 54 12)] [0,1,5] (.seq (.block 0 (.loop (.seq (sq [oV 6 0,ZC 7 35 6] [0,1,5,7] (.cond (.t 7) (.skip) (.exit 0))) (.block 1 (.ops [oM 8 (.mvo 5),oV 9 1,oM 10 (.callv (.t 9) []),oM 11 (.mks 54 12 [.t 10]),oM 12 (.app 54 12 216 8 (.t 11)),oM 5 (.mvo 12)] [0,1,5]))))) (sq [oV 13 5,oV 4 13] [4] .ret)))
def SM:List RV:=[.t 4 false]
theorem k25:aG G.tab Tryz.f25 2 c25 SM=true:=by kernel_rfl
def c23:CdD:=.seq (.ops [oM 4 (.new 23 [.nil]),oM 5 (.new 3 EO),oM 6 (.new 24 EO)] [0,1,4,5,6]) (.seq (.ops [oV 9 0,ZC 10 58 9,oV 8 10,ZX 11 8 0,ZX 12 8 1,ZX 13 8 2,oV 7 11,oS 1 5 12,oS 1 6 13] [1,4,5,6,7]) (.seq (.seq (.ops [ZL 14 1 6,Wn 15 14 0] [1,4,5,6,7,15]) (.cond (.t 15) (.seq (.drawg [(ZL 16 1 4,.calm 0 0),(ZL 17 1 5,.calm 0 1),(ZL 18 1 6,.calm 0 2),(oS 1 4 16,.act),(oS 1 5 17,.act),
 (oS 1 6 18,.act)] [4,5,6]) .ret) .skip)) (.dfr 19 59 [.t 4,.t 5,.t 6] (.seq (.ops [oV 20 1,oV 21 7,oM 22 (.bld MU [(0,1,.t 21)]),ZB 23 103 22,oM 24 (.callv (.t 20) [.t 23]),oS 1 4 24,⟨none,.sto 1 (.t 5) (kI 0),none⟩,⟨none,.sto 1 (.t 6) (kI 0),none⟩] [4,5,6]) .ret))))
def vS:List RV:=[.c 4 1 false,.c 5 1 false,.c 6 1 false]
theorem k23:ve G.tab Tryz.f23 2 c23 vS=true:=by kernel_rfl
def c32:CdD:=.seq (.ops [oM 4 (.new 32 zz5),oM 5 (.new 3 EO),oM 6 (.new 24 EO)] [0,1,4,5,6]) (.seq (.ops [oV 9 0,ZC 10 58 9,oV 8 10,ZX 11 8 0,ZX 12 8 1,ZX 13 8 2,oV 7 11,oS 1 5 12,oS 1 6 13] [1,4,5,6,7]) (.seq (.seq (.ops [ZL 14 1 6,Wn 15 14 0] [1,4,5,6,7,15]) (.cond (.t 15) (.seq (.drawg [(ZM 16 4 4,.calm 0 0),(ZL 17 1 5,.calm 0 1),(ZL 18 1 6,.calm 0 2),(oS 4 4 16,.act),(oS 1 5 17,.act),
 (oS 1 6 18,.act)] [4,5,6]) .ret) (.skip))) (.dfr 19 81 [.t 4,.t 5,.t 6] (.seq (.ops [oV 20 1,oV 21 7,oM 22 (.bld MU [(0,1,.t 21)]),ZB 23 103 22,oM 24 (.callv (.t 20) [.t 23]),oS 4 4 24,⟨none,.sto 1 (.t 5) (kI 0),none⟩,⟨none,.sto 1 (.t 6) (kI 0),none⟩] [4,5,6]) .ret))))
def wH:List RV:=[.c 4 4 true,.c 5 1 false,.c 6 1 false]
theorem k32:ve G.tab Tryz.f32 2 c32 wH=true:=by kernel_rfl
def c59:CdR:=.seq (.reg 7 [] [0,1,2,7]) (.block 0 (.seq (.ops [oM 9 (.nif false (.t 7))] [0,1,2,7,9]) (.cond (.t 9) (.ops [oV 3 7] []) (.seq (.ops [oM 10 (.tas 101 (.agg zz7) (.t 7)),ZX 11 10 1,ZX 12 10 0] [0,1,2,7,11,12]) (.cond (.t 11) (.seq (.ops [oM 4 (.new 101 zz7),oS 2 4 12] [0,1,2,4]) (.seq (.ops [oM 5 (.mv (.k .nil))] [0,1,2,4,5]) (.drawg [(oV 13 5,.free 0),(ZF 14 1 4,.free 0),(ZL 15 1 14,
 .calm 0 1),(ZF 16 0 4,.free 0),(ZL 17 1 16,.calm 0 2),(oS 1 0 13,.act),(oS 1 1 15,.act),(oS 1 2 17,.act)] []))) (.seq (.ops [oV 6 7] [6]) (.ops [oV 8 6,⟨none,.pan (.t 8),none⟩] [])))))))
theorem k59:uY G.tab Tryz.f59 3 c59=true:=by kernel_rfl
def c81:CdR:=.seq (.reg 7 [] [0,1,2,7]) (.block 0 (.seq (.ops [oM 9 (.nif false (.t 7))] [0,1,2,7,9]) (.cond (.t 9) (.ops [oV 3 7] []) (.seq (.ops [oM 10 (.tas 101 (.agg zz7) (.t 7)),ZX 11 10 1,ZX 12 10 0] [0,1,2,7,11,12]) (.cond (.t 11) (.seq (.ops [oM 4 (.new 101 zz7),oS 2 4 12] [0,1,2,4]) (.seq (.ops [oM 5 (.new 32 zz5)] [0,1,2,4,5]) (.drawg [(ZM 13 4 5,.calm 0 0),(ZF 14 1 4,.free 0),
 (ZL 15 1 14,.calm 0 1),(ZF 16 0 4,.free 0),(ZL 17 1 16,.calm 0 2),(oS 4 0 13,.act),(oS 1 1 15,.act),(oS 1 2 17,.act)] []))) (.seq (.ops [oV 6 7] [6]) (.ops [oV 8 6,⟨none,.pan (.t 8),none⟩] [])))))))
theorem k81:uY G.tab Tryz.f81 3 c81=true:=by kernel_rfl
def c37:Cd:=sq [ZB 1 32 0,oI 2 0] [1] (.seq (sq [ZM 7 4 1,ZC 8 45 7,oV 3 8] [1,3] (sq [oV 9 3,Wn 10 9 0] [1,3,10] (.cond (.t 10) (sq [oV 11 3,oV 2 11] [2] .ret) .skip))) (.seq (sq [ZF 12 3 1,ZL 13 1 12,ZN 14 13,oI 15 0] [13,14,15] (.block 0 (.loop (sq [Yl 16 15 14] [13,14,15,16] (.seq (.cond (.t 16) .skip (.exit 0)) (.seq (.block 1 (sq [ZI 17 2 13 15,ZM 18 2 17,oM 5 (.new 46 zz9),oS 2 5 18] [5,13,
 14,15] (sq [ZF 19 1 5,ZL 20 1 19,ZC 21 27 20,oV 6 21] [6,13,14,15] (sq [oV 22 6,Wn 23 22 0] [6,13,14,15,23] (.cond (.t 23) (sq [oV 24 6,oV 2 24] [2] .ret) .skip))))) (.ops [Wa 25 15 1,oV 15 25] [13,14,15]))))))) (sq [oI 2 0] [2] .ret)))
def Sr:List RV:=[.t 2 false]
theorem k37:aG G.tab Tryz.f37 1 c37 Sr=true:=by kernel_rfl
def c35:Cd:=sq [oM 2 (.mv kF)] [0] (.seq (.draw [oV 3 0,ZK 4 3,ZF 5 1 4,ZL 6 1 5,oV 7 0,ZK 8 7,ZF 9 0 8,ZL 10 1 9,ZN 11 10,Yl 12 6 11,oV 2 12] [2]) .ret)
def SJ:List RV:=[.t 2 false]
theorem k35:aG G.tab Tryz.f35 1 c35 SJ=true:=by kernel_rfl
def c36:Cd:=.seq (sq [oV 2 0,ZC 3 35 2] [0,3] (.cond (.t 3) (.ops [oV 4 0,oV 5 0,ZK 6 5,ZF 7 1 6,ZL 8 1 7,oM 9 (.call 87 [.t 4,.k (.d (.lit (.int .i64 5))),.t 8])] [0]) (.skip))) (.ops [oV 10 0,oV 11 0,ZK 12 11,ZF 13 1 12,ZL 14 1 13,oM 15 (.call 87 [.t 10,.k (.d (.lit (.int .i64 6))),.t 14])] [])
def TD:List RV:=[]
theorem k36:aG G.tab Tryz.f36 1 c36 TD=true:=by kernel_rfl
def c87:Cd:=sq [oI 6 0] [0,1,2,6] (.seq (sq [oV 8 0,ZK 9 8,ZF 10 0 9,ZL 11 1 10,ZN 12 11,oV 7 12] [0,1,2,6,7] (sq [oV 13 7,Wg 14 13 0] [0,1,2,6,7,14] (.cond (.t 14) (.ops [oV 15 0,ZK 16 15,ZF 17 0 16,ZL 18 1 17,oV 19 2,oV 20 7,Ws 21 20 1,oM 22 (.mx false (.t 19) (.t 21)),ZI 23 4 18 22,ZF 24 3 23,ZL 25 1 24,oV 6 25] [1,6]) .skip))) (.ops [oV 26 1,oV 27 6,oM 28 (.bld zz7 [(0,1,.t 26),(1,1,.t 27)]),
 oM 29 (.mki 101 (.t 28)),⟨none,.pan (.t 29),none⟩] []))
def R9:List RV:=[]
theorem k87:aG G.tab Tryz.f87 3 c87 R9=true:=by kernel_rfl
def c175:Cd:=sq [oM 6 (.mv kF)] [0,1,2] (.seq (.draw [oV 7 0,ZC 8 35 7,oV 9 8,oG 10 9 (.mv (.t 0)),oG 11 9 (zK 10),oG 12 9 (zF 0 11),oG 13 9 (zL 1 12),oG 14 9 (.mv (.t 0)),oG 15 9 (zK 14),oG 16 9 (zF 1 15),oG 17 9 (zL 1 16),oG 18 9 (zI 4 13 17),oG 19 9 (zF 0 18),oG 20 9 (zL 1 19),oG 21 9 (.mv (.t 1)),oG 22 9 (ye 20 21),ZQ 23 9 22,oV 24 23,oG 25 24 (.mv (.t 0)),oG 26 24 (zK 25),oG 27 24 (zF 0 26),
 oG 28 24 (zL 1 27),oG 29 24 (.mv (.t 0)),oG 30 24 (zK 29),oG 31 24 (zF 1 30),oG 32 24 (zL 1 31),oG 33 24 (zI 4 28 32),oG 34 24 (zF 2 33),oG 35 24 (zL 1 34),oG 36 24 (.mv (.t 2)),oG 37 24 (ye 35 36),ZQ 38 24 37,oV 6 38] [6]) .ret)
def OS:List RV:=[.t 6 false]
theorem Td:aG G.tab Tryz.f175 3 c175 OS=true:=by kernel_rfl
def OK:Cd:=sq [oM 6 (.mv kF)] [0,1,2] (sq [oV 8 0,oV 9 1,oV 10 2,ZE 11 175 8 9 10,oV 7 11] [0,7] (.seq (sq [oV 12 7] [0,7,12] (.cond (.t 12) (.ops [oV 13 0,ZK 14 13,ZF 15 1 14,ZL 16 1 15,Wa 17 16 1,ZK 18 13,ZF 19 1 18,oS 1 19 17] [7]) (.skip))) (sq [oV 20 7,oV 6 20] [6] .ret)))
def PL:List RV:=[.t 6 false]
theorem RY:aG G.tab Tryz.f117 3 OK PL=true:=by kernel_rfl
def c60:Cd:=sq [oM 4 (.mv kF)] [0,1] (sq [oV 5 0,oV 6 1,oM 7 (.call 117 [.t 5,.k (.d (.lit (.int .i64 2))),.t 6]),oV 4 7] [4] .ret)
def Rz:List RV:=[.t 4 false]
theorem k60:aG G.tab Tryz.f60 2 c60 Rz=true:=by kernel_rfl
def PM:Cd:=sq [oM 4 (.mv kF)] [0,1] (sq [oV 5 0,oV 6 1,oM 7 (.call 117 [.t 5,.k (.d (.lit (.int .i64 4))),.t 6]),oV 4 7] [4] .ret)
def Qx:List RV:=[.t 4 false]
theorem Te:aG G.tab Tryz.f121 2 PM Qx=true:=by kernel_rfl
def c84:Cd:=sq [oV 4 0,oV 5 1,ZD 6 121 4 5,ZU 7 6] [0,7] (.cond (.t 7) (.ops [oV 8 0,ZC 9 36 8] []) .skip)
def SG:List RV:=[]
theorem k84:aG G.tab Tryz.f84 2 c84 SG=true:=by kernel_rfl
def c82:Cd:=sq [oV 4 0,oV 5 1,ZD 6 60 4 5,ZU 7 6] [0,7] (.cond (.t 7) (.ops [oV 8 0,ZC 9 36 8] []) .skip)
def Th:List RV:=[]
theorem k82:aG G.tab Tryz.f82 2 c82 Th=true:=by kernel_rfl
def QA:Cd:=sq [oM 4 (.new 121 zz2)] [0,1,4] (.seq (.seq (.draw [oV 5 0,ZC 6 35 5,ZU 7 6,oV 8 7,oH 9 8 (.mv (.t 0)),oH 10 8 (zK 9),oH 11 8 (zF 0 10),oH 12 8 (zL 1 11),oH 13 8 (.mv (.t 0)),oH 14 8 (zK 13),oH 15 8 (zF 1 14),oH 16 8 (zL 1 15),oH 17 8 (zI 4 12 16),oH 18 8 (zF 0 17),oH 19 8 (zL 1 18),oH 20 8 (.mv (.t 1)),oH 21 8 (yn 19 20),ZP 22 8 21] [0,4,22]) (.cond (.t 22) (.ops [oV 23 0,
 ZC 24 36 23] [0,4]) .skip)) (sq [oV 25 0,ZK 26 25,ZF 27 1 26,ZL 28 1 27,Wa 29 28 1,ZK 30 25,ZF 31 1 30,oS 1 31 29] [0,4] (.seq (.drawg [(oV 32 0,.free 0),(ZK 33 32,.free 0),(ZF 34 0 33,.free 0),(ZL 35 1 34,.calm 0 0),(oV 36 0,.free 0),(ZK 37 36,.free 0),(ZF 38 1 37,.free 0),(ZL 39 1 38,.calm 0 0),(Ws 40 39 1,.free 0),(ZI 41 4 35 40,.free 0),(ZM 42 4 41,.calm 0 0),(oS 4 4 42,.act)] [4]) .ret)))
def Lh:List RV:=[.c 4 4 true]
theorem SY:aG G.tab Tryz.f139 2 QA Lh=true:=by kernel_rfl
def c83:Cd:=sq [oM 2 (.mv (kS ⟨#[]⟩))] [0] (sq [oV 3 0,oM 4 (.call 139 [.t 3,.k (.d (.lit (.int .i64 1)))]),oM 5 (.fld 2 1 false (.t 4)),oV 2 5] [2] .ret)
def Oj:List RV:=[.t 2 false]
theorem k83:aG G.tab Tryz.f83 1 c83 Oj=true:=by kernel_rfl
def NE:Cd:=sq [oI 2 0] [0] (sq [oV 3 0,oM 4 (.call 139 [.t 3,.k (.d (.lit (.int .i64 3)))]),oM 5 (.fld 1 1 false (.t 4)),oV 2 5] [2] .ret)
def K6:List RV:=[.t 2 false]
theorem Se:aG G.tab Tryz.f177 1 NE K6=true:=by kernel_rfl
def NZ:Cd:=sq [oM 2 (.new 50 zz1)] [0,2] (.seq (.drawg [(oV 7 0,.free 0),(ZK 8 7,.free 0),(ZF 9 0 8,.free 0),(ZL 10 1 9,.calm 0 1),(oV 11 0,.free 0),(ZK 12 11,.free 0),(ZF 13 1 12,.free 0),(ZL 14 1 13,.calm 0 1),(ZD 15 176 10 14,.calm 0 1),(oV 6 15,.free 0),(ZX 16 6 0,.free 0),(ZX 17 6 1,.free 0),(ZX 18 6 2,.free 0),(oM 3 (.new 50 zz1),.act),(oS 4 3 16,.act),(oV 4 17,.free 2),(oV 5 18,
 .free 2)] [0,2,3,4,5]) (.seq (sq [oV 19 5] [0,2,3,4,5,19] (.block 0 (sq [We 24 19 0,oV 23 24] [0,2,3,4,5,19,23] (.cond (.t 23) (.ops [oV 25 0,oV 26 4,ZK 27 25,ZF 28 1 27,oS 1 28 26] [2,3]) (.seq (sq [We 30 19 5,oV 29 30] [0,2,3,4,5,19,29] (.cond (.t 29) .skip (sq [We 31 19 3,oV 29 31] [0,2,3,4,5,19,29] (.cond (.t 29) .skip (.ops [We 32 19 6,oV 29 32] [0,2,3,4,5,
 29]))))) (.cond (.t 29) (.ops [oV 33 0,oV 34 5,oV 35 4,ZE 36 87 33 34 35] [2,3]) (.ops [oV 20 5,oM 21 (.bld zz7 [(0,1,.t 20),(1,1,.k (.d (.lit (.int .i64 0))))]),oM 22 (.mki 101 (.t 21)),⟨none,.pan (.t 22),none⟩] [2,3]))))))) (sq [ZM 37 4 3,oS 4 2 37] [2] .ret)))
def BK:List RV:=[.c 2 4 true]
theorem So:aG G.tab Tryz.f118 1 NZ BK=true:=by kernel_rfl
def NT:Cd:=sq [oM 2 (.mv (kS ⟨#[]⟩))] [0] (sq [oV 4 0,ZC 5 83 4,oV 3 5] [0,3] (.seq (sq [oV 6 0,oM 7 (.call 121 [.t 6,.k (.d (.lit (.string ⟨#[91]⟩)))])] [0,3,7] (.cond (.t 7) (sq [oV 8 3,oV 9 0,ZC 10 177 9,ZC 11 159 10,oM 12 (.bin .add (kS ⟨#[91]⟩) (.t 11)),oM 13 (.bin .add (.t 12) (kS ⟨#[93]⟩)),Ya 14 8 13,oV 3 14] [0,3] (.ops [oV 15 0,oM 16 (.call 84 [.t 15,
 .k (.d (.lit (.string ⟨#[93]⟩)))])] [3])) .skip)) (sq [oV 17 3,oV 2 17] [2] .ret)))
def PJ:List RV:=[.t 2 false]
theorem TQ:aG G.tab Tryz.f119 1 NT PJ=true:=by kernel_rfl
def Qe:Cd:=sq [oM 2 (.mv (.k .nil))] [0] (sq [oV 4 0,ZC 5 119 4,oM 6 (.mkso 9 1 [.t 5]),oM 3 (.mvo 6)] [0,3] (.seq (.block 0 (.loop (.seq (sq [oV 7 0,oM 8 (.call 121 [.t 7,.k (.d (.lit (.string ⟨#[44]⟩)))])] [0,3,8] (.cond (.t 8) .skip (.exit 0))) (.block 1 (.ops [oM 9 (.mvo 3),oV 10 0,ZC 11 119 10,oM 12 (.mks 9 1 [.t 11]),oM 13 (.app 9 1 16 9 (.t 12)),oM 3 (.mvo 13)] [0,3]))))) (sq [oV 14 3,
 oV 2 14] [2] .ret)))
def Og:List RV:=[.t 2 false]
theorem TK:aG G.tab Tryz.f122 1 Qe Og=true:=by kernel_rfl
def Oa:Cd:=sq [oM 2 (.new 56 zz8)] [0,2] (sq [oM 3 (.new 56 zz8)] [0,2,3] (sq [oV 4 0,ZC 5 177 4,ZF 6 0 3,oS 1 6 5] [0,2,3] (sq [ZF 7 0 3,ZL 8 1 7,ZF 9 1 3,oS 1 9 8] [0,2,3] (.seq (sq [oV 10 0,oM 11 (.call 121 [.t 10,.k (.d (.lit (.string ⟨#[46,46]⟩)))])] [0,2,3,11] (.cond (.t 11) (.ops [oV 12 0,ZC 13 177 12,ZF 14 1 3,oS 1 14 13] [0,2,3]) (.skip))) (sq [oV 15 0,oM 16 (.call 121 [.t 15,
 .k (.d (.lit (.string ⟨#[58,61]⟩)))]),ZF 17 3 3,oS 1 17 16] [0,2,3] (.seq (sq [ZF 18 3 3,ZL 19 1 18,ZU 20 19] [0,2,3,20] (.cond (.t 20) (.ops [oV 21 0,oM 22 (.call 84 [.t 21,.k (.d (.lit (.string ⟨#[58,47]⟩)))])] [0,2,3]) .skip)) (sq [oV 23 0,ZC 24 177 23,ZF 25 2 3,oS 1 25 24] [2,3] (sq [ZM 26 4 3,oS 4 2 26] [2] .ret))))))))
def Lf:List RV:=[.c 2 4 true]
theorem SQ:aG G.tab Tryz.f120 1 Oa Lf=true:=by kernel_rfl
def c62:Cd:=sq [oM 2 (.new 54 zz0)] [0,2] (sq [oV 4 0,ZC 5 119 4,oM 6 (.bld zz0 [(0,1,.k (.d (.lit (.int .i64 3)))),(5,1,.t 5)]),oM 3 (.new 54 zz0),oS 12 3 6] [0,2,3] (sq [oV 7 0,oM 8 (.call 84 [.t 7,.k (.d (.lit (.string ⟨#[123]⟩)))])] [0,2,3] (.seq (.raw [ZF 9 7 3,oM 10 (.ldo (.t 9)),oV 11 0,ZC 12 120 11,oM 13 (.mks 56 4 [.t 12]),oM 14 (.app 56 4 32 10 (.t 13)),ZF 15 7 3,⟨none,.stoo (.t 15) 14,
 none⟩] [[],[0],[],[2],[3],[1,4,3],[0,1,2,3,4,5],[6,5,5,0,1,2,3,4,5]] [0,2,3]) (.seq (.block 0 (.loop (.seq (sq [oV 16 0,oM 17 (.call 121 [.t 16,.k (.d (.lit (.string ⟨#[44]⟩)))])] [0,2,3,17] (.cond (.t 17) .skip (.exit 0))) (.block 1 (.raw [ZF 18 7 3,oM 19 (.ldo (.t 18)),oV 20 0,ZC 21 120 20,oM 22 (.mks 56 4 [.t 21]),oM 23 (.app 56 4 32 19 (.t 22)),ZF 24 7 3,⟨none,.stoo (.t 24) 23,none⟩] [[],[0],
 [],[2],[3],[1,4,3],[0,1,2,3,4,5],[6,5,5,0,1,2,3,4,5]] [0,2,3]))))) (sq [oV 25 0,oM 26 (.call 84 [.t 25,.k (.d (.lit (.string ⟨#[125]⟩)))])] [0,2,3] (sq [oV 27 0,oM 28 (.call 84 [.t 27,.k (.d (.lit (.string ⟨#[59]⟩)))])] [2,3] (sq [ZM 29 12 3,oS 12 2 29] [2] .ret)))))))
def Ky:List RV:=[.c 2 12 true]
theorem k62:aG G.tab Tryz.f62 1 c62 Ky=true:=by kernel_rfl
def c63:Cd:=sq [oM 2 (.new 54 zz0)] [0,2] (sq [oV 4 0,oM 5 (.call 84 [.t 4,.k (.d (.lit (.string ⟨#[40]⟩)))])] [0,2] (sq [oV 6 0,ZC 7 118 6,oM 8 (.bld zz0 [(0,1,.k (.d (.lit (.int .i64 4)))),(1,4,.t 7)]),oM 3 (.new 54 zz0),oS 12 3 8] [0,2,3] (sq [oV 9 0,oM 10 (.call 84 [.t 9,.k (.d (.lit (.string ⟨#[41]⟩)))])] [0,2,3] (sq [oV 11 0,ZC 12 86 11,ZF 13 8 3,oS 1 13 12] [0,2,3] (.seq (sq [oV 14 0,
 oM 15 (.call 60 [.t 14,.k (.d (.lit (.string ⟨#[101,108,115,101]⟩)))])] [0,2,3,15] (.cond (.t 15) (.ops [oV 16 0,ZC 17 86 16,ZF 18 9 3,oS 1 18 17] [2,3]) .skip)) (sq [ZM 19 12 3,oS 12 2 19] [2] .ret))))))
def My:List RV:=[.c 2 12 true]
theorem k63:aG G.tab Tryz.f63 1 c63 My=true:=by kernel_rfl
def c64:Cd:=sq [oM 2 (.new 54 zz0)] [0,2] (sq [oV 4 0,ZC 5 83 4,oM 6 (.bld zz0 [(0,1,.k (.d (.lit (.int .i64 5)))),(6,1,.t 5)]),oM 3 (.new 54 zz0),oS 12 3 6] [0,2,3] (sq [oV 7 0,oM 8 (.call 82 [.t 7,.k (.d (.lit (.string ⟨#[105,110]⟩)))])] [0,2,3] (sq [oV 9 0,ZC 10 83 9,ZF 11 5 3,oS 1 11 10] [0,2,3] (sq [oV 12 0,ZC 13 86 12,ZF 14 8 3,oS 1 14 13] [2,3] (sq [ZM 15 12 3,oS 12 2 15] [2] .ret)))))
def PA:List RV:=[.c 2 12 true]
theorem k64:aG G.tab Tryz.f64 1 c64 PA=true:=by kernel_rfl
def c65:Cd:=sq [oM 2 (.new 54 zz0)] [0,2] (sq [oV 4 0,ZC 5 122 4,oM 6 (.bld zz0 [(0,1,.k (.d (.lit (.int .i64 6)))),(10,1,.t 5)]),oM 3 (.new 54 zz0),oS 12 3 6] [0,2,3] (sq [oV 7 0,oM 8 (.call 82 [.t 7,.k (.d (.lit (.string ⟨#[98,101,102,111,114,101]⟩)))])] [0,2,3] (sq [oV 9 0,ZC 10 122 9,ZF 11 11 3,oS 1 11 10] [0,2,3] (sq [oV 12 0,oM 13 (.call 84 [.t 12,.k (.d (.lit (.string ⟨#[59]⟩)))])] [2,
 3] (sq [ZM 14 12 3,oS 12 2 14] [2] .ret)))))
def NY:List RV:=[.c 2 12 true]
theorem k65:aG G.tab Tryz.f65 1 c65 NY=true:=by kernel_rfl
def c61:Cd:=sq [oM 4 (.new 54 zz0)] [0,1,4] (sq [oV 6 1,oV 7 0,ZC 8 118 7,oM 9 (.bld zz0 [(0,1,.t 6),(1,4,.t 8)]),oM 5 (.new 54 zz0),oS 12 5 9] [0,4,5] (sq [oV 10 0,oM 11 (.call 84 [.t 10,.k (.d (.lit (.string ⟨#[59]⟩)))])] [4,5] (sq [ZM 12 12 5,oS 12 4 12] [4] (.ret))))
def N2:List RV:=[.c 4 12 true]
theorem k61:aG G.tab Tryz.f61 2 c61 N2=true:=by kernel_rfl
def c26:Cd:=sq [oM 2 (.new 54 zz0)] [0,2] (.seq (.block 0 (sq [oV 4 0,oM 5 (.call 60 [.t 4,.k (.d (.lit (.string ⟨#[115,111,102,116]⟩)))]),oV 3 5] [0,2,3] (.cond (.t 3) (sq [oV 6 0,oM 7 (.call 61 [.t 6,.k (.d (.lit (.int .i64 2)))]),oS 12 2 7] [2] .ret) (sq [oV 9 0,oM 10 (.call 60 [.t 9,.k (.d (.lit (.string ⟨#[100,105,115,116]⟩)))]),oV 8 10] [0,2,8] (.cond (.t 8) (sq [oV 11 0,ZC 12 62 11,
 oS 12 2 12] [2] .ret) (sq [oV 14 0,oM 15 (.call 60 [.t 14,.k (.d (.lit (.string ⟨#[105,102]⟩)))]),oV 13 15] [0,2,13] (.cond (.t 13) (sq [oV 16 0,ZC 17 63 16,oS 12 2 17] [2] .ret) (sq [oV 19 0,oM 20 (.call 60 [.t 19,.k (.d (.lit (.string ⟨#[101,97,99,104]⟩)))]),oV 18 20] [0,2,18] (.cond (.t 18) (sq [oV 21 0,ZC 22 64 21,oS 12 2 22] [2] .ret) (sq [oV 24 0,oM 25 (.call 60 [.t 24,
 .k (.d (.lit (.string ⟨#[115,111,108,118,101]⟩)))]),oV 23 25] [0,2,23] (.cond (.t 23) (sq [oV 26 0,ZC 27 65 26,oS 12 2 27] [2] .ret) .skip))))))))))) (sq [oV 28 0,oM 29 (.call 61 [.t 28,.k (.d (.lit (.int .i64 1)))]),oS 12 2 29] [2] .ret))
def MG:List RV:=[.c 2 12 true]
theorem k26:aG G.tab Tryz.f26 1 c26 MG=true:=by kernel_rfl
def c86:Cd:=sq [oM 2 (.mv (.k .nil))] [0] (sq [oV 4 0,oM 5 (.call 84 [.t 4,.k (.d (.lit (.string ⟨#[123]⟩)))])] [0] (sq [oM 3 (.nilo 54 12)] [0,3] (.seq (.block 0 (.loop (.seq (sq [oV 6 0,oM 7 (.call 121 [.t 6,.k (.d (.lit (.string ⟨#[125]⟩)))]),ZU 8 7] [0,3,8] (.cond (.t 8) .skip (.exit 0))) (.block 1 (.ops [oM 9 (.mvo 3),oV 10 0,ZC 11 26 10,oM 12 (.mks 54 12 [.t 11]),
 oM 13 (.app 54 12 216 9 (.t 12)),oM 3 (.mvo 13)] [0,3]))))) (sq [oV 14 3,oV 2 14] [2] .ret))))
def TS:List RV:=[.t 2 false]
theorem k86:aG G.tab Tryz.f86 1 c86 TS=true:=by kernel_rfl
def Qy:Cd:=sq [oI 2 0] [0] (.seq (sq [oV 4 0,oM 5 (.call 121 [.t 4,.k (.d (.lit (.string ⟨#[91]⟩)))]),ZU 6 5] [0,6] (.cond (.t 6) (sq [oI 2 0] [2] (.ret)) .skip)) (sq [oV 7 0,ZC 8 177 7,oV 3 8] [0,3] (.seq (sq [oV 9 3,Wl 10 9 1] [0,3,10] (.cond (.t 10) (.ops [oV 11 0,oV 12 0,ZK 13 12,ZF 14 1 13,ZL 15 1 14,Ws 16 15 1,oM 17 (.call 87 [.t 11,.k (.d (.lit (.int .i64 5))),.t 16])] [0,
 3]) .skip)) (sq [oV 18 0,oM 19 (.call 84 [.t 18,.k (.d (.lit (.string ⟨#[93]⟩)))])] [3] (sq [oV 20 3,oV 2 20] [2] .ret)))))
def OY:List RV:=[.t 2 false]
theorem RA:aG G.tab Tryz.f198 1 Qy OY=true:=by kernel_rfl
def O6:Cd:=sq [oM 4 (.new 74 zz6)] [0,1,4] (sq [oV 6 0,ZC 7 83 6,oV 8 1,oM 9 (.bld zz6 [(0,1,.t 7),(3,1,.t 8)]),oM 5 (.new 74 zz6),oS 5 5 9] [0,1,4,5] (.seq (.ops [oV 10 0,ZC 11 198 10,ZF 12 2 5,oS 1 12 11] [0,1,4,5]) (sq [oV 13 0,oM 14 (.call 84 [.t 13,.k (.d (.lit (.string ⟨#[58]⟩)))])] [0,1,4,5] (sq [oV 15 0,ZC 16 177 15,ZF 17 1 5,oS 1 17 16] [0,1,4,5] (.seq (sq [oV 18 1,We 19 18 0] [0,4,5,
 19] (.cond (.t 19) (sq [oV 20 0,oM 21 (.call 84 [.t 20,.k (.d (.lit (.string ⟨#[61]⟩)))])] [0,4,5] (.ops [oV 22 0,ZC 23 177 22,ZF 24 4 5,oS 1 24 23] [0,4,5])) (.skip))) (sq [oV 25 0,oM 26 (.call 84 [.t 25,.k (.d (.lit (.string ⟨#[59]⟩)))])] [4,5] (sq [ZM 27 5 5,oS 5 4 27] [4] .ret)))))))
def GQ:List RV:=[.c 4 5 true]
theorem Sb:aG G.tab Tryz.f140 2 O6 GQ=true:=by kernel_rfl
def c85:Cd:=sq [oM 2 (.mv (.k .nil))] [0] (sq [oM 3 (.nilo 74 5)] [0,3] (.block 0 (.loop (.block 1 (.block 2 (sq [oV 6 0,oM 7 (.call 60 [.t 6,.k (.d (.lit (.string ⟨#[114,97,110,100]⟩)))]),oV 5 7] [0,3,5] (.cond (.t 5) (.ops [oM 8 (.mvo 3),oV 9 0,oM 10 (.call 140 [.t 9,.k (.d (.lit (.int .i64 1)))]),oM 11 (.mks 74 5 [.t 10]),oM 12 (.app 74 5 48 8 (.t 11)),oM 3 (.mvo 12)] [0,3]) (sq [oV 14 0,
 oM 15 (.call 60 [.t 14,.k (.d (.lit (.string ⟨#[114,97,110,100,99]⟩)))]),oV 13 15] [0,3,13] (.cond (.t 13) (.ops [oM 16 (.mvo 3),oV 17 0,oM 18 (.call 140 [.t 17,.k (.d (.lit (.int .i64 2)))]),oM 19 (.mks 74 5 [.t 18]),oM 20 (.app 74 5 48 16 (.t 19)),oM 3 (.mvo 20)] [0,3]) (sq [oV 22 0,oM 23 (.call 60 [.t 22,.k (.d (.lit (.string ⟨#[115,116,97,116,101]⟩)))]),oV 21 23] [0,3,
 21] (.cond (.t 21) (.ops [oM 24 (.mvo 3),oV 25 0,oM 26 (.call 140 [.t 25,.k (.d (.lit (.int .i64 0)))]),oM 27 (.mks 74 5 [.t 26]),oM 28 (.app 74 5 48 24 (.t 27)),oM 3 (.mvo 28)] [0,3]) (sq [oV 4 3,oV 2 4] [2] .ret))))))))))))
def SC:List RV:=[.t 2 false]
theorem k85:aG G.tab Tryz.f85 1 c85 SC=true:=by kernel_rfl
def c34:Cd:=sq [oM 2 (.new 32 zz5)] [0,2] (sq [oV 5 0,oM 6 (.call 82 [.t 5,.k (.d (.lit (.string ⟨#[99,108,97,115,115]⟩)))])] [0,2] (sq [oV 7 0,ZC 8 83 7,oM 9 (.bld zz5 [(0,1,.t 8)]),oM 3 (.new 32 zz5),oS 4 3 9] [0,2,3] (.seq (sq [oV 10 0,oM 11 (.call 60 [.t 10,.k (.d (.lit (.string ⟨#[101,120,116,101,110,100,115]⟩)))])] [0,2,3,11] (.cond (.t 11) (.ops [oV 12 0,ZC 13 83 12,ZF 14 1 3,
 oS 1 14 13] [0,2,3]) .skip)) (sq [oV 15 0,oM 16 (.call 84 [.t 15,.k (.d (.lit (.string ⟨#[123]⟩)))])] [0,2,3] (sq [oV 17 0,ZC 18 85 17,ZF 19 2 3,oS 1 19 18] [0,2,3] (.seq (.block 0 (.loop (.seq (sq [oV 20 0,oM 21 (.call 60 [.t 20,.k (.d (.lit (.string ⟨#[99,111,110,115,116,114,97,105,110,116]⟩)))])] [0,2,3,21] (.cond (.t 21) .skip (.exit 0))) (.block 1 (sq [oV 22 0,ZC 23 83 22,oM 24 (.bld zz9 [(0,
 1,.t 23)]),oM 4 (.new 46 zz9),oS 2 4 24] [0,2,3,4] (sq [oV 25 0,ZC 26 86 25,ZF 27 1 4,oS 1 27 26] [0,2,3,4] (.ops [ZF 28 3 3,oM 29 (.ldo (.t 28)),ZM 30 2 4,oM 31 (.mks 46 2 [.t 30]),oM 32 (.app 46 2 40 29 (.t 31)),ZF 33 3 3,⟨none,.stoo (.t 33) 32,none⟩] [0,2,3]))))))) (sq [oV 34 0,oM 35 (.call 84 [.t 34,.k (.d (.lit (.string ⟨#[125]⟩)))])] [2,3] (sq [ZM 36 4 3,oS 4 2 36] [2] .ret))))))))
def Pt:List RV:=[.c 2 4 true]
theorem k34:aG G.tab Tryz.f34 1 c34 Pt=true:=by kernel_rfl
def c8:Cd:=sq [oM 0 (.mv kF)] [] (sq [oM 11 (.call 12 [.k (.d (.lit (.string ⟨#[99,108,97,115,115,32,112,32,123,32,114,97,110,100,32,97,32,58,32,50,59,32,99,111,110,115,116,114,97,105,110,116,32,99,32,123,32,97,32,60,32,51,59,32,115,111,102,116,32,97,32,61,61,32,49,59,32,125,32,125]⟩)))]),oV 10 11,ZX 12 10 0,ZX 13 10 1,ZX 14 10 2,oM 1 (.new 32 zz5),oS 4 1 12,oV 2 13,oV 3 14] [1,2,
 3] (sq [oM 16 (.call 9 [.k (.d (.lit (.string ⟨#[100,105,115,116,32,97,32,123,32,48,32,58,61,32,50,44,32,49,32,46,46,32,51,32,58,47,32,54,32,125,59]⟩)))]),oV 15 16,ZX 17 15 0,ZX 18 15 1,ZX 19 15 2,oV 4 17,oV 5 18,oV 6 19] [1,2,3,4,5,6] (sq [oM 21 (.call 9 [.k (.d (.lit (.string ⟨#[97,32,60]⟩)))]),oV 20 21,ZX 22 20 0,ZX 23 20 1,ZX 24 20 2,oV 7 22,oV 8 23,oV 9 24] [1,2,3,4,5,6,8,9] (sq [ZF 25 2 1,
 ZL 26 1 25,ZN 27 26,We 28 27 1,oV 29 28,oG 30 29 (zF 3 1),oG 31 29 (zL 1 30),oG 32 29 (zN 31),oG 33 29 (we 32 1),ZQ 34 29 33,oV 35 34,oG 36 35 (zF 3 1),oG 37 35 (zL 1 36),oG 38 35 (.ia 2 (.t 37) (kI 0)),oG 39 35 (zF 1 38),oG 40 35 (zL 1 39),oG 41 35 (zN 40),oG 42 35 (we 41 2),ZQ 43 35 42,oV 44 43,oG 45 44 (.mv (.t 2)),oG 46 44 (we 45 0),ZQ 47 44 46,oV 48 47,oG 49 48 (.mv (.t 3)),
 oG 50 48 (we 49 0),ZQ 51 48 50,oV 52 51,oG 53 52 (.mv (.t 4)),oG 54 52 (zN 53),oG 55 52 (we 54 1),ZQ 56 52 55,oV 57 56,oG 58 57 (.mv (.t 4)),oG 59 57 (.ia 12 (.t 58) (kI 0)),oG 60 57 (zF 7 59),oG 61 57 (zL 1 60),oG 62 57 (zN 61),oG 63 57 (we 62 2),ZQ 64 57 63,oV 65 64,oG 66 65 (.mv (.t 4)),oG 67 65 (.ia 12 (.t 66) (kI 0)),oG 68 65 (zF 7 67),oG 69 65 (zL 1 68),oG 70 65 (.ia 4 (.t 69) (kI 1)),
 oG 71 65 (zM 4 70),⟨some 72,.bld zz8 [(0,1,.k (.d (.lit (.int .i64 1)))),(1,1,.k (.d (.lit (.int .i64 3)))),(2,1,.k (.d (.lit (.int .i64 6))))],(some (65,true))⟩,⟨some 73,.eqa false 56 [.i .i64,.i .i64,.i .i64,.b] (.t 71) (.t 72),(some (65,true))⟩,ZQ 74 65 73,oV 75 74,oG 76 75 (.mv (.t 5)),oG 77 75 (we 76 0),ZQ 78 75 77,oV 79 78,oG 80 79 (.mv (.t 6)),oG 81 79 (we 80 0),ZQ 82 79 81,oV 83 82,
 oG 84 83 (.mv (.t 8)),oG 85 83 (we 84 1),ZQ 86 83 85,oV 87 86,oG 88 87 (.mv (.t 9)),oG 89 87 (we 88 6),ZQ 90 87 89,oV 0 90] [0] .ret))))
def rs8:List RV:=[.t 0 false]
theorem k8:aG G.tab Tryz.f8 0 c8 rs8=true:=by kernel_rfl
def c49:Cd:=sq [oI 2 0] [0] (sq [oI 3 0] [0,3] (.seq (sq [oI 4 0] [0,3,4] (.block 0 (.loop (.seq (sq [oV 5 4,oV 6 0,ZN 7 6,Yl 8 5 7,oV 9 8,oG 10 9 (.mv (.t 3)),oG 11 9 (wl 10 100),ZQ 12 9 11] [0,3,4,12] (.cond (.t 12) (.skip) (.exit 0))) (.seq (.block 1 (.draw [oV 15 3,oV 16 0,oV 17 4,ZI 18 12 16 17,ZF 19 8 18,ZL 20 1 19,ZC 21 49 20,oM 22 (.bin .add (kI 1) (.t 21)),oV 23 0,oV 24 4,ZI 25 12 23 24,
 ZF 26 9 25,ZL 27 1 26,ZC 28 49 27,Ya 29 22 28,Ya 30 15 29,oV 3 30] [0,3,4])) (.ops [oV 13 4,Wa 14 13 1,oV 4 14] [0,3,4])))))) (sq [oV 31 3,oV 2 31] [2] .ret)))
def Si:List RV:=[.t 2 false]
theorem k49:aG G.tab Tryz.f49 1 c49 Si=true:=by kernel_rfl
def c19:Cd:=sq [ZB 1 32 0,oM 2 (.mv kF)] [1] (sq [oI 3 0] [1,3] (.seq (sq [oI 4 0] [1,3,4] (.block 0 (.loop (.seq (sq [oV 5 4,ZF 6 3 1,ZL 7 1 6,ZN 8 7,Yl 9 5 8,oV 10 9,oG 11 10 (.mv (.t 4)),oG 12 10 (wl 11 17),ZQ 13 10 12] [1,3,4,13] (.cond (.t 13) .skip (.exit 0))) (.seq (.block 1 (.ops [oV 16 3,ZF 17 3 1,ZL 18 1 17,oV 19 4,ZI 20 2 18 19,ZF 21 1 20,ZL 22 1 21,ZC 23 49 22,Ya 24 16 23,oV 3 24] [1,
 3,4])) (.ops [oV 14 4,Wa 15 14 1,oV 4 15] [1,3,4])))))) (sq [ZF 25 2 1,ZL 26 1 25,ZN 27 26,Wq 28 27 16,oV 29 28,oG 30 29 (zF 3 1),oG 31 29 (zL 1 30),oG 32 29 (zN 31),oG 33 29 (wq 32 16),ZQ 34 29 33,oV 35 34,oG 36 35 (.mv (.t 3)),oG 37 35 (wq 36 20),ZQ 38 35 37,oV 2 38] [2] .ret)))
def Tw:List RV:=[.t 2 false]
theorem k19:aG G.tab Tryz.f19 1 c19 Tw=true:=by kernel_rfl
def c21:Cd:=sq [ZB 1 32 0,oM 2 (.mv kF)] [1] (.seq (sq [ZM 4 4 1,ZC 5 45 4,Wn 6 5 0] [1,6] (.cond (.t 6) (.seq (.ops [oM 2 (.mv kF)] [2]) .ret) .skip)) (.seq (sq [oI 3 0] [1,3] (.block 0 (.loop (.seq (sq [oV 7 3,ZF 8 3 1,ZL 9 1 8,ZN 10 9,Yl 11 7 10] [1,3,11] (.cond (.t 11) .skip (.exit 0))) (.seq (.block 1 (sq [ZF 14 3 1,ZL 15 1 14,oV 16 3,ZI 17 2 15 16,ZF 18 1 17,ZL 19 1 18,ZC 20 27 19,
 Wn 21 20 0] [1,3,21] (.cond (.t 21) (sq [oM 2 (.mv kF)] [2] .ret) .skip))) (.ops [oV 12 3,Wa 13 12 1,oV 3 13] [1,3])))))) (sq [oM 2 (.mv kT)] [2] .ret)))
def RK:List RV:=[.t 2 false]
theorem k21:aG G.tab Tryz.f21 1 c21 RK=true:=by kernel_rfl
def c7:Cd:=sq [ZB 2 32 0,oM 4 (.mv kF)] [1,2] (.seq (sq [ZM 20 4 2,ZC 21 19 20,ZU 22 21,oV 23 22,oH 24 23 (.mv (.t 1)),oH 25 23 (.len true (.t 24)),oH 26 23 (wg 25 1500),ZP 27 23 26] [1,2,27] (.cond (.t 27) (sq [oM 28 (.call 8 []),oV 4 28] [4] .ret) .skip)) (sq [ZM 29 4 2,ZC 30 20 29,oV 5 30] [1,2,5] (.seq (sq [ZM 31 4 2,ZC 32 21 31,oV 33 32,oG 34 33 (.mv (.t 5)),oG 35 33 (.len true (.t 34)),
 oG 36 33 (wg 35 0),ZQ 37 33 36,oV 38 37,oG 39 38 (.mv (.t 5)),oG 40 38 (.len true (.t 39)),oG 41 38 (wq 40 16384),ZQ 42 38 41] [1,2,5,42] (.cond (.t 42) (sq [oV 44 5,ZC 45 12 44,oV 43 45,ZX 46 43 0,ZX 47 43 1,ZX 48 43 2,oM 6 (.new 32 zz5),oS 4 6 46,oV 7 47,oV 8 48] [1,2,6,7,8] (.seq (sq [oV 49 7,Wn 50 49 0,oV 51 50,oH 52 51 (.mv (.t 8)),oH 53 51 (wn 52 0),ZP 54 51 53,oV 55 54,oH 56 55 (zM 4 2),
 oH 57 55 (zM 4 6),oH 58 55 (zD 14 56 57),oH 59 55 (zU 58),ZP 60 55 59] [1,2,60] (.cond (.t 60) (sq [oM 4 (.mv kF)] [4] .ret) .skip)) (sq [oI 9 0] [1,2,9] (.block 0 (.loop (.seq (sq [oV 61 9,ZF 62 3 2,ZL 63 1 62,ZN 64 63,Yl 65 61 64] [1,2,9,65] (.cond (.t 65) .skip (.exit 0))) (.seq (.block 1 (sq [ZF 69 3 2,ZL 70 1 69,oV 71 9,ZI 72 2 70 71,ZF 73 1 72,ZL 74 1 73,oV 75 9,
 oM 76 (.bin .rem (.t 75) (kI 3)),ZD 77 22 74 76,ZC 78 9 77,oV 68 78,ZX 79 68 0,ZX 80 68 1,ZX 81 68 2,oV 10 79,oV 11 80,oV 12 81] [1,2,9,10,11,12] (.seq (.ops [oV 82 11,Wn 83 82 0,oV 84 83,oH 85 84 (.mv (.t 12)),oH 86 84 (wn 85 0),ZP 87 84 86,oV 88 87,oH 89 88 (.mv (.t 10)),oH 90 88 (zF 3 2),oH 91 88 (zL 1 90),oH 92 88 (.mv (.t 9)),oH 93 88 (zI 2 91 92),oH 94 88 (zF 1 93),oH 95 88 (zL 1 94),
 oH 96 88 (zD 11 89 95),oH 97 88 (zU 96),ZP 98 88 97] [1,2,9,98]) (.cond (.t 98) (sq [oM 4 (.mv kF)] [4] .ret) .skip)))) (.ops [oV 66 9,Wa 67 66 1,oV 9 67] [1,2,9])))))))) .skip)) (sq [oV 100 1,ZC 101 12 100,oV 99 101,ZX 102 99 0,ZX 103 99 1,ZX 104 99 2,oM 13 (.new 32 zz5),oS 4 13 102,oV 14 103,oV 15 104] [13,14,15] (.seq (sq [oV 105 15,Wn 106 105 0] [13,14,106] (.cond (.t 106) (sq [ZM 107 4 13,
 oM 108 (.bld zz5 []),ZD 109 14 107 108,oV 110 109,oG 111 110 (.call 8 []),ZQ 112 110 111,oV 4 112] [4] .ret) .skip)) (sq [ZM 113 4 13,ZC 114 20 113,oV 16 114] [13,14,16] (.seq (sq [oV 115 14,Wn 116 115 0,oV 117 116,oH 118 117 (zM 4 13),oH 119 117 (zC 21 118),oH 120 117 (zU 119),ZP 121 117 120,oV 122 121,oH 123 122 (.mv (.t 16)),oH 124 122 (.len true (.t 123)),oH 125 122 (we 124 0),
 ZP 126 122 125] [13,16,126] (.cond (.t 126) (sq [oM 4 (.mv kF)] [4] .ret) .skip)) (.seq (sq [oV 127 16,oM 128 (.len true (.t 127)),Wg 129 128 16384] [13,16,129] (.cond (.t 129) (.seq (.ops [oM 130 (.call 8 []),oV 4 130] [4]) .ret) .skip)) (sq [oV 132 16,ZC 133 12 132,oV 131 133,ZX 134 131 0,ZX 135 131 1,ZX 136 131 2,oM 17 (.new 32 zz5),oS 4 17 134,oV 18 135,oV 19 136] [13,17,18,19] (sq [oV 137 18,
 We 138 137 0,oV 139 138,oG 140 139 (.mv (.t 19)),oG 141 139 (we 140 0),ZQ 142 139 141,oV 143 142,oG 144 143 (zM 4 13),oG 145 143 (zM 4 17),oG 146 143 (zD 14 144 145),ZQ 147 143 146,oV 148 147,oG 149 148 (.call 8 []),ZQ 150 148 149,oV 4 150] [4] .ret))))))))))
def rs7:List RV:=[.t 4 false]
theorem k7:aG G.tab Tryz.f7 2 c7 rs7=true:=by kernel_rfl
end Go.Proofs.YtnhphlmblenapaaGreatDoor
namespace Go.Proofs.YtnhphlmblenapaaGreatDoor
open Go.RowKit
open Nat renaming reduceLeDiff -> jA, reduceBEq -> jB, reduceLT -> jC, reduceEqDiff -> jD, reduceAdd -> jE, reduceSub -> jF, reduceMul -> jG
open V renaming copy -> jV, lend -> jW, lend1 -> jX, cells -> jY, boxable -> jZ
def bG(m:ByteArray)(ts:List Tok)(a:Nat):Bool:=(acc m (ts.drop a)).isSome
theorem I5{m:ByteArray}{ts:List Tok}{a:Nat}(h:bG m ts a=true):a<ts.length:=by
 apply Classical.byContradiction;intro hn;unfold bG at h;rw[TY (by omega)]at h;cases h
def pb(ts:List Tok)(a:Nat):List V:=[.d (.sl (ts.map ny)),.d (ac a)]
def eU(e:Int)(a:Nat):V:=.iface 241 (.agg [.d (ac e),.d (ac a)])
theorem xK(t:Tok)(h:t.text.size≤1000)(σ:LLV):Fun G 327 [jo t] σ (aP (ak (bq t)) σ):=by
 refine ai Tryz.func327 RO rfl fun hb hw=>?_;unfold QI;have hj:=Ah [t] (by simp) (by simpa using h);unfold B0 at hj;simp only[List.all_cons,List.all_nil,Bool.and_true]at hj;simp -dsimp only[aw,jV,jW,jX,jY,jZ,jA,reduceIte,reduceCtorEq,jB,jC,jD,jE,jF,jG,jo];refine ae (by simpa only[List.map_cons,List.map_nil,ny]using hj _) ?_;cases hv:bq t with
 | true=>
  simp -dsimp only[aw,jV,jW,jX,jY,jZ,jA,reduceIte,reduceCtorEq,jB,jC,jD,jE,jF,jG];first|exact av hb rfl rfl|exact au hb rfl rfl
 | false=>
  simp -dsimp only[aw,jV,jW,jX,jY,jZ,jA,reduceIte,reduceCtorEq,jB,jC,jD,jE,jF,jG,Int.reduceEq,decide_false];first|exact av hb rfl rfl|exact au hb rfl rfl
def gx(ts:List Tok)(a:Nat):V:=match ts[a]? with
 | some t=>if bq t=true then .tup [jo t,ak true]else .tup [cH,ak false]
 | none=>.tup [cH,ak false]
theorem o2(ts:List Tok)(a i:Nat)(hz:∀t,t∈ts->t.text.size≤1000)(ha:a≤ts.length)(σ:LLV)(hi:σ[i]? = some (pb ts a)):
 Fun G 323 [.ptr i 0] σ (aP (gx ts a) σ):=by
 refine ai Tryz.func323 RL rfl fun hb hw=>?_;unfold Pr;have hio:=fun t=>al hi t;unfold pb at hio;by_cases hlt:a<ts.length
 .have d1:decide (((ts.length:Nat):Int)≤((a:Nat):Int))=false:=by rw[decide_eq_false_iff_not];omega
  have hn:gx ts a=if bq ts[a]=true then .tup [jo ts[a],ak true]else .tup [cH,ak false]:=by unfold gx;rw[TX hlt]
  have hv:=xK ts[a] (hz _ (List.getElem_mem hlt));simp -dsimp only[aw,jV,jW,jX,jY,jZ,jA,reduceIte,reduceCtorEq,jB,jC,jD,jE,jF,jG,hio,d1,TX hlt,fL,ny];refine aA (by simpa only[jo]using hv _) ?_;cases hvt:bq ts[a]with
  | true=>
   rw[hn,if_pos hvt];simp -dsimp only[aw,jV,jW,jX,jY,jZ,jA,reduceIte,reduceCtorEq,jB,jC,jD,jE,jF,jG,hio,TX hlt,fL,ny];exact aO (v:=.tup [jo ts[a],ak true]) hb (by simp[A1,be,dp,bL,jo,aw,jV,jW,jX,jY,jZ,jA,reduceIte,reduceCtorEq,jB,jC,jD,jE,jF,jG]) rfl TW ⟨rfl,rfl⟩
  | false=>
   rw[hn,if_neg (by rw[hvt];decide)];simp -dsimp only[aw,jV,jW,jX,jY,jZ,jA,reduceIte,reduceCtorEq,jB,jC,jD,jE,jF,jG];exact aO (v:=.tup [cH,ak false]) hb (by simp[A1,be,dp,bL,cH,dE,fG,aw,jV,jW,jX,jY,jZ,jA,reduceIte,reduceCtorEq,jB,jC,jD,jE,jF,jG]) rfl TW ⟨rfl,rfl⟩
 .have d1:decide (((ts.length:Nat):Int)≤((a:Nat):Int))=true:=by rw[decide_eq_true_eq];omega
  have hn:gx ts a=.tup [cH,ak false]:=by unfold gx;rw[T3 (by omega)]
  rw[hn];simp -dsimp only[aw,jV,jW,jX,jY,jZ,jA,reduceIte,reduceCtorEq,jB,jC,jD,jE,jF,jG,hio,d1];exact aO (v:=.tup [cH,ak false]) hb (by simp[A1,be,dp,bL,cH,dE,fG,aw,jV,jW,jX,jY,jZ,jA,reduceIte,reduceCtorEq,jB,jC,jD,jE,jF,jG]) rfl TW ⟨rfl,rfl⟩
theorem Cg{m:ByteArray}{ts:List Tok}{a:Nat}(h:a<ts.length):bG m ts a=(bq ts[a]&&((decide (ts[a].kind=4)||decide (ts[a].kind=2))&&decide (ts[a].text=m))):=by
 unfold bG;rw[TZ h];simp only[acc];rw[Bool.eq_iff_iff];split<;>simp_all
theorem iX{m:ByteArray}{ts:List Tok}{a:Nat}(h:¬a<ts.length):bG m ts a=false:=by
 unfold bG;rw[TY (by omega)];rfl
theorem Iz(m:ByteArray)(ts:List Tok)(a i:Nat)(hz:∀t,t∈ts->t.text.size≤1000)(ha:a≤ts.length)(σ:LLV)(hi:σ[i]? = some (pb ts a)):
 Fun G 311 [.ptr i 0,.d (ab m)] σ (aP (ak (bG m ts a)) σ):=by
 refine ai Tryz.func311 RM rfl fun hb hw=>?_;unfold Pk;have hN:=o2 ts a i hz ha σ hi;simp -dsimp only[aw,jV,jW,jX,jY,jZ,jA,reduceIte,reduceCtorEq,jB,jC,jD,jE,jF,jG];refine ae hN ?_;by_cases hlt:a<ts.length
 .have hn:gx ts a=if bq ts[a]=true then .tup [jo ts[a],ak true]else .tup [cH,ak false]:=by unfold gx;rw[TX hlt]
  rw[hn,Cg hlt];generalize ts[a]=t;cases hvt:bq t with
  | false=>
   rw[if_neg (by decide)];simp -dsimp only[aw,jV,jW,jX,jY,jZ,jA,reduceIte,reduceCtorEq,jB,jC,jD,jE,jF,jG,cH,dE];first|exact av hb rfl rfl|exact au hb rfl rfl
  | true=>
   rw[if_pos rfl];by_cases h4:t.kind=4
   .simp -dsimp only[aw,jV,jW,jX,jY,jZ,jA,reduceIte,reduceCtorEq,jB,jC,jD,jE,jF,jG,jo,decide_eq_true h4];first|exact av hb rfl rfl|exact au hb rfl rfl
   .by_cases h2:t.kind=2
    .simp -dsimp only[aw,jV,jW,jX,jY,jZ,jA,reduceIte,reduceCtorEq,jB,jC,jD,jE,jF,jG,jo,decide_eq_false h4,decide_eq_true h2];first|exact av hb rfl rfl|exact au hb rfl rfl
    .simp -dsimp only[aw,jV,jW,jX,jY,jZ,jA,reduceIte,reduceCtorEq,jB,jC,jD,jE,jF,jG,jo,decide_eq_false h4,decide_eq_false h2];first|exact av hb rfl rfl|exact au hb rfl rfl
 .have hn:gx ts a=.tup [cH,ak false]:=by unfold gx;rw[T3 (by omega)]
  rw[hn,iX hlt];simp -dsimp only[aw,jV,jW,jX,jY,jZ,jA,reduceIte,reduceCtorEq,jB,jC,jD,jE,jF,jG,cH,dE];first|exact av hb rfl rfl|exact au hb rfl rfl
theorem MZ{σ:LLV}{i:Nat}{ts:List Tok}{a:Nat}(hi:σ[i]? = some (pb ts a)):σ.set i (pb ts a)=σ:=by
 have hlt:=(List.getElem?_eq_some_iff.1 hi).1;rw[<-(List.getElem?_eq_some_iff.1 hi).2];exact List.set_getElem_self hlt
theorem lf(m:ByteArray)(ts:List Tok)(a i:Nat)(hz:∀t,t∈ts->t.text.size≤1000)(hn:ts.length≤1200000)(ha:a≤ts.length)(σ:LLV)(hi:σ[i]? = some (pb ts a)):
 Fun G 285 [.ptr i 0,.d (ab m)] σ fun o σ'=>o=.ret (ak (bG m ts a))/\σ'=if bG m ts a=true then σ.set i (pb ts (a+1))else σ:=by
 have hlt:=(List.getElem?_eq_some_iff.1 hi).1;refine ai Tryz.func285 Sw rfl fun hb hw=>?_;unfold Pu;have hS:=Iz m ts a i hz ha σ hi;simp -dsimp only[aw,jV,jW,jX,jY,jZ,jA,reduceIte,reduceCtorEq,jB,jC,jD,jE,jF,jG];refine ae hS ?_;cases hs:bG m ts a with
 | false=>
  simp -dsimp only[aw,jV,jW,jX,jY,jZ,jA,reduceIte,reduceCtorEq,jB,jC,jD,jE,jF,jG,TU,if_false];exact aO hb rfl rfl T0 ⟨rfl,rfl⟩
 | true=>
  unfold pb at hi;simp -dsimp only[aw,jV,jW,jX,jY,jZ,jA,reduceIte,reduceCtorEq,jB,jC,jD,jE,jF,jG,hi,ba (show -9223372036854775808≤((a:Nat):Int)+1 by omega) (show((a:Nat):Int)+1≤9223372036854775807 by omega),if_true];exact bQ (τ:=σ.set i (pb ts (a+1))) (cE hb rfl) rfl rfl (by rw[T6 (by rw[T4];exact T9 _)];rfl) ⟨rfl,rfl⟩
theorem sW(ts:List Tok)(a i:Nat)(ha:a≤ts.length)(σ:LLV)(hi:σ[i]? = some (pb ts a)):
 Fun G 312 [.ptr i 0] σ fun o σ'=>o=.panic (eU (if a<ts.length then 5 else 6) a)/\σ'=σ:=by
 refine ai Tryz.func312 SP rfl fun hb hw=>?_;unfold NG;unfold pb at hi;by_cases hlt:a<ts.length
 .have d1:decide (((ts.length:Nat):Int)≤((a:Nat):Int))=false:=by rw[decide_eq_false_iff_not];omega
  rw[if_pos hlt];simp -dsimp only[aw,jV,jW,jX,jY,jZ,jA,reduceIte,reduceCtorEq,jB,jC,jD,jE,jF,jG,hi,d1];exact⟨σ.length,T9 _,by rw[T0];exact hb,rfl,rfl,T0⟩
 .have hae:a=ts.length:=by omega
  have d1:decide (((ts.length:Nat):Int)≤((a:Nat):Int))=true:=by rw[decide_eq_true_eq];omega
  rw[if_neg hlt];simp -dsimp only[aw,jV,jW,jX,jY,jZ,jA,reduceIte,reduceCtorEq,jB,jC,jD,jE,jF,jG,hi,d1];rw[hae];exact⟨σ.length,T9 _,by rw[T0];exact hb,rfl,rfl,T0⟩
theorem fC{σ σ' τ:LLV}{ρ:ah}{rs:List RV}{Q:Out->LLV->Prop}{v:V}(hb:aj σ.length τ=true)(hσ:σ'.take σ.length=τ)(hv:V.under σ.length v=true)(hq:Q (.panic v) τ):fin σ.length rs Q (.panic v) ρ σ':=
 ⟨σ.length,T9 _,by rw[hσ];exact hb,hv,by rw[hσ];exact hq⟩
theorem Iv{σ σ' τ:LLV}{ρ:ah}{rs:List RV}{Q:Out->LLV->Prop}(hb:aj σ.length τ=true){v:V}(h:be σ' ρ rs=some v)(hv:V.under σ.length v=true)(hσ:σ'.take σ.length=τ)(hq:Q (.ret v) τ):fin σ.length rs Q .normal ρ σ':=
 ⟨ρ,σ',.refl _ _ _,v,h,σ.length,T9 _,by rw[hσ];exact hb,hv,by rw[hσ];exact hq⟩
theorem bu{K P:V->LLV->Prop}{v:V}{σ:LLV}:Iw K P (.panic v) σ=P v σ:=rfl
def fM(ts:List Tok)(a:Nat):Int:=if a<ts.length then 5 else 6
theorem dh{σ:LLV}(hb:aj σ.length σ=true)(i:Nat)(ts:List Tok)(a:Nat):aj σ.length (σ.set i (pb ts a))=true:=cE hb rfl
theorem xb{σ:LLV}(i:Nat)(X:List V):(σ.set i X).take σ.length=σ.set i X:=T6 (by rw[T4];exact T9 _)
theorem fq{σ:LLV}(i:Nat)(X:List V)(l:LLV):(σ.set i X++l).take σ.length=σ.set i X:=by
 rw[List.take_append_of_le_length (by simp),xb]
theorem zc(m:ByteArray)(ts:List Tok)(a i:Nat)(hz:∀t,t∈ts->t.text.size≤1000)(hn:ts.length≤1200000)(ha:a≤ts.length)(σ:LLV)(hi:σ[i]? = some (pb ts a)):
 Fun G 286 [.ptr i 0,.d (ab m)] σ fun o σ'=>if bG m ts a=true then o=.ret (.tup [])/\σ'=σ.set i (pb ts (a+1))else o=.panic (eU (fM ts a) a)/\σ'=σ:=by
 refine ai Tryz.func286 Tv rfl fun hb hw=>?_;unfold Pb;have hA:=lf m ts a i hz hn ha σ hi;have hF:=sW ts a i ha σ hi;simp -dsimp only[aw,jV,jW,jX,jY,jZ,jA,reduceIte,reduceCtorEq,jB,jC,jD,jE,jF,jG];refine dL hA ?_;cases hs:bG m ts a with
 | true=>
  simp -dsimp only[aw,jV,jW,jX,jY,jZ,jA,reduceIte,reduceCtorEq,jB,jC,jD,jE,jF,jG,if_true];exact Iv (τ:=σ.set i (pb ts (a+1))) (dh hb i ts _) rfl rfl (xb _ _) ⟨rfl,rfl⟩
 | false=>
  simp -dsimp only[aw,jV,jW,jX,jY,jZ,jA,reduceIte,reduceCtorEq,jB,jC,jD,jE,jF,jG,TU,if_false];refine aC hF fun o σ' ⟨e1,e2⟩=>?_;rw[e1,e2];simp -dsimp only[aw,jV,jW,jX,jY,jZ,jA,reduceIte,reduceCtorEq,jB,jC,jD,jE,jF,jG,bu];exact fC hb T0 rfl ⟨rfl,rfl⟩
theorem sC{ts:List Tok}{a:Nat}(h:a<ts.length):bW (ts.drop a)=if bq ts[a]=true/\ts[a].kind=1 then some (ts[a].text,ts.drop (a+1))else none:=by
 rw[TZ h];rfl
theorem oR{ts:List Tok}{a:Nat}(h:a<ts.length):ct (ts.drop a)=if bq ts[a]=true/\ts[a].kind=3 then some (ts[a].num,ts.drop (a+1))else none:=by
 rw[TZ h];rfl
theorem mQ(t:Tok):jo t=.agg [.d (ac t.kind),.d (ac t.num),.d (ab t.text),.d (ac t.line)]:=rfl
theorem D2(ts:List Tok)(a i:Nat)(hz:∀t,t∈ts->t.text.size≤1000)(hn:ts.length≤1200000)(ha:a≤ts.length)(σ:LLV)(hi:σ[i]? = some (pb ts a)):
 Fun G 330 [.ptr i 0] σ fun o σ'=>match bW (ts.drop a)with
  | some (s,_)=>o=.ret (.d (ab s))/\σ'=σ.set i (pb ts (a+1))
  | none=>o=.panic (eU (fM ts a) a)/\σ'=σ:=by
 have hlt:=(List.getElem?_eq_some_iff.1 hi).1;have hN:=o2 ts a i hz ha σ hi;have hF:=fun l=>sW ts a i ha (σ++l) (al hi l);have hbx:∀(X cs:List V),(σ.set i X++[cs])[σ.length]? = some cs:=fun X cs=>by rw[T5 (by simp)];simp
 have hio:=fun t=>al hi t;have hso:=fun l x=>bN hi l x;unfold pb at hio;have hw1:IntKind.i64.wrap (((a:Nat):Int)+1)=((a+1:Nat):Int):=by rw[ba (by omega) (by omega)];omega
 refine ai Tryz.func330 Tp rfl fun hb hw=>?_;unfold Ps;simp -dsimp only[aw,jV,jW,jX,jY,jZ,jA,reduceIte,reduceCtorEq,jB,jC,jD,jE,jF,jG];refine ae hN ?_;by_cases hla:a<ts.length
 .have hnv:gx ts a=if bq ts[a]=true then .tup [jo ts[a],ak true]else .tup [cH,ak false]:=by unfold gx;rw[TX hla]
  rw[hnv,sC hla];generalize ts[a]=t;by_cases hv:bq t=true
  .rw[if_pos hv];by_cases hk:t.kind=1
   .rw[if_pos ⟨hv,hk⟩];simp -dsimp only[aw,jV,jW,jX,jY,jZ,jA,reduceIte,reduceCtorEq,jB,jC,jD,jE,jF,jG,mQ,decide_eq_true hk,hio,hw1,hso,hbx];exact bQ (τ:=σ.set i (pb ts (a+1))) (dh hb i ts _) rfl rfl (fq _ _ _) ⟨rfl,rfl⟩
   .rw[if_neg (fun h=>hk h.2)];simp -dsimp only[aw,jV,jW,jX,jY,jZ,jA,reduceIte,reduceCtorEq,jB,jC,jD,jE,jF,jG,mQ,decide_eq_false hk];refine aC (hF _) fun o σ' ⟨e1,e2⟩=>?_;rw[e1,e2];simp -dsimp only[aw,jV,jW,jX,jY,jZ,jA,reduceIte,reduceCtorEq,jB,jC,jD,jE,jF,jG,bu];exact fC hb TW rfl ⟨rfl,rfl⟩
  .rw[if_neg hv,if_neg (fun h=>hv h.1)];simp -dsimp only[aw,jV,jW,jX,jY,jZ,jA,reduceIte,reduceCtorEq,jB,jC,jD,jE,jF,jG,cH,dE];refine aC (hF _) fun o σ' ⟨e1,e2⟩=>?_;rw[e1,e2];simp -dsimp only[aw,jV,jW,jX,jY,jZ,jA,reduceIte,reduceCtorEq,jB,jC,jD,jE,jF,jG,bu];exact fC hb TW rfl ⟨rfl,rfl⟩
 .have hnv:gx ts a=.tup [cH,ak false]:=by unfold gx;rw[T3 (by omega)]
  rw[hnv,TY (show ts.length≤a by omega)];simp only[bW];simp -dsimp only[aw,jV,jW,jX,jY,jZ,jA,reduceIte,reduceCtorEq,jB,jC,jD,jE,jF,jG,cH,dE];refine aC (hF _) fun o σ' ⟨e1,e2⟩=>?_;rw[e1,e2];simp -dsimp only[aw,jV,jW,jX,jY,jZ,jA,reduceIte,reduceCtorEq,jB,jC,jD,jE,jF,jG,bu];exact fC hb TW rfl ⟨rfl,rfl⟩
theorem yE(ts:List Tok)(a i:Nat)(hz:∀t,t∈ts->t.text.size≤1000)(hn:ts.length≤1200000)(ha:a≤ts.length)(σ:LLV)(hi:σ[i]? = some (pb ts a)):
 Fun G 329 [.ptr i 0] σ fun o σ'=>match ct (ts.drop a)with
  | some (n,_)=>if 65535<n then o=.panic (eU 3 a)/\σ'=σ else o=.ret (.d (ac n))/\σ'=σ.set i (pb ts (a+1))
  | none=>o=.panic (eU (fM ts a) a)/\σ'=σ:=by
 have hlt:=(List.getElem?_eq_some_iff.1 hi).1;have hN:=o2 ts a i hz ha σ hi;have hF:=fun l=>sW ts a i ha (σ++l) (al hi l);have hbx:∀(X cs:List V),(σ.set i X++[cs])[σ.length]? = some cs:=fun X cs=>by rw[T5 (by simp)];simp
 have hio:=fun t=>al hi t;have hso:=fun l x=>bN hi l x;unfold pb at hio;have hw1:IntKind.i64.wrap (((a:Nat):Int)+1)=((a+1:Nat):Int):=by rw[ba (by omega) (by omega)];omega
 refine ai Tryz.func329 Rs rfl fun hb hw=>?_;unfold Oy;simp -dsimp only[aw,jV,jW,jX,jY,jZ,jA,reduceIte,reduceCtorEq,jB,jC,jD,jE,jF,jG];refine ae hN ?_;by_cases hla:a<ts.length
 .have hnv:gx ts a=if bq ts[a]=true then .tup [jo ts[a],ak true]else .tup [cH,ak false]:=by unfold gx;rw[TX hla]
  rw[hnv,oR hla];generalize ts[a]=t;by_cases hv:bq t=true
  .rw[if_pos hv];by_cases hk:t.kind=3
   .rw[if_pos ⟨hv,hk⟩];simp only;by_cases hbig:65535<t.num
    .simp -dsimp only[aw,jV,jW,jX,jY,jZ,jA,reduceIte,reduceCtorEq,jB,jC,jD,jE,jF,jG,mQ,decide_eq_true hk,hio,decide_eq_true hbig];exact fC hb TW rfl (by rw[if_pos hbig];exact⟨rfl,rfl⟩)
    .simp -dsimp only[aw,jV,jW,jX,jY,jZ,jA,reduceIte,reduceCtorEq,jB,jC,jD,jE,jF,jG,mQ,decide_eq_true hk,hio,decide_eq_false hbig,hw1,hso,hbx];exact bQ (τ:=σ.set i (pb ts (a+1))) (dh hb i ts _) rfl rfl (fq _ _ _) (by rw[if_neg hbig];exact⟨rfl,rfl⟩)
   .rw[if_neg (fun h=>hk h.2)];simp -dsimp only[aw,jV,jW,jX,jY,jZ,jA,reduceIte,reduceCtorEq,jB,jC,jD,jE,jF,jG,mQ,decide_eq_false hk];refine aC (hF _) fun o σ' ⟨e1,e2⟩=>?_;rw[e1,e2];simp -dsimp only[aw,jV,jW,jX,jY,jZ,jA,reduceIte,reduceCtorEq,jB,jC,jD,jE,jF,jG,bu];exact fC hb TW rfl ⟨rfl,rfl⟩
  .rw[if_neg hv,if_neg (fun h=>hv h.1)];simp -dsimp only[aw,jV,jW,jX,jY,jZ,jA,reduceIte,reduceCtorEq,jB,jC,jD,jE,jF,jG,cH,dE];refine aC (hF _) fun o σ' ⟨e1,e2⟩=>?_;rw[e1,e2];simp -dsimp only[aw,jV,jW,jX,jY,jZ,jA,reduceIte,reduceCtorEq,jB,jC,jD,jE,jF,jG,bu];exact fC hb TW rfl ⟨rfl,rfl⟩
 .have hnv:gx ts a=.tup [cH,ak false]:=by unfold gx;rw[T3 (by omega)]
  rw[hnv,TY (show ts.length≤a by omega)];simp only[ct];simp -dsimp only[aw,jV,jW,jX,jY,jZ,jA,reduceIte,reduceCtorEq,jB,jC,jD,jE,jF,jG,cH,dE];refine aC (hF _) fun o σ' ⟨e1,e2⟩=>?_;rw[e1,e2];simp -dsimp only[aw,jV,jW,jX,jY,jZ,jA,reduceIte,reduceCtorEq,jB,jC,jD,jE,jF,jG,bu];exact fC hb TW rfl ⟨rfl,rfl⟩
theorem eS(o:Int)(l:List Ex)(σ:LLV):Fun G 287 [.d (ac o),.d (.sl (l.map dex))] σ (aP (vex (aU o l)) σ):=by
 refine ai Tryz.func287 SX rfl fun hb hw=>?_;unfold NO;simp -dsimp only[aw,jV,jW,jX,jY,jZ,jA,reduceIte,reduceCtorEq,jB,jC,jD,jE,jF,jG];exact aO (v:=vex (aU o l)) hb (by rw[an];simp[K9,be,bL,aU,bX,bp,aK,aL,aw,jV,jW,jX,jY,jZ,jA,reduceIte,reduceCtorEq,jB,jC,jD,jE,jF,jG]) (by rw[an];rfl) TW ⟨rfl,rfl⟩
def zb:V:=.agg [.d (ab ⟨#[]⟩),.d (ac 0),.d (ac 0)]
def gU(l:List (ByteArray×Int×Nat))(k:Nat)(ts:List Tok)(a:Nat):Option (ByteArray×Int×Nat):=l.find? fun b=>decide (b.2.2=k)&&bG b.1 ts a
theorem bR{m:ByteArray}{ts:List Tok}{a:Nat}:acc m (ts.drop a)=if bG m ts a=true then some (ts.drop (a+1))else none:=by
 by_cases h:a<ts.length
 .unfold bG;rw[TZ h];simp only[acc];split<;>simp
 .rw[iX h,TY (by omega)];rfl
theorem oc(k:Nat)(ts:List Tok)(a:Nat):∀l,fP l k (ts.drop a)=(gU l k ts a).map fun b=>(b.2.1,ts.drop (a+1))
 | []=>rfl
 | b::l=>by
  have ih:=oc k ts a l;unfold gU at ih ⊢;simp only[fP,bR,T8];by_cases hk:b.2.2=k
  .rw[if_pos hk];by_cases hs:bG b.1 ts a=true
   .simp[hk,hs]
   .simp only[hs,hk,decide_true,Bool.true_and,if_false];simpa using ih
  .rw[if_neg hk];simp only[hk,decide_false,Bool.false_and];exact ih
def lJ(ts:List Tok)(a:Nat)(k:Nat):V:=match gU ce k ts a with
 | some b=>.tup [.agg [.d (ab b.1),.d (ac b.2.1),.d (ac b.2.2)],ak false,ak true]
 | none=>if k=9/\bG (aa 62) ts a=true then .tup [.agg [.d (ab ⟨#[]⟩),.d (ac 17),.d (ac 0)],ak true,ak true]
  else if k=9/\bG (aE 62 61) ts a=true then .tup [.agg [.d (ab ⟨#[]⟩),.d (ac 18),.d (ac 0)],ak true,ak true]
  else .tup [zb,ak false,ak false]
def ga(ts:List Tok)(a:Nat)(k:Nat):Bool:=(gU ce k ts a).isSome||(decide (k=9)&&(bG (aa 62) ts a||bG (aE 62 61) ts a))
theorem vZ(k:Nat)(hk:k≤100)(ts:List Tok)(a i:Nat)(hz:∀t,t∈ts->t.text.size≤1000)(hn:ts.length≤1200000)(ha:a≤ts.length)(σ:LLV)(hi:σ[i]? = some (pb ts a)):
 Fun G 322 [.ptr i 0,.d (ac k)] σ fun o σ'=>o=.ret (lJ ts a k)/\σ'=if ga ts a k=true then σ.set i (pb ts (a+1))else σ:=by
 have hlt:=(List.getElem?_eq_some_iff.1 hi).1;refine ai Tryz.func322 SK rfl fun hb hw=>?_;unfold PD;have hA:=fun m l=>lf m ts a i hz hn ha (σ++l) (al hi l);have hso:=fun l x=>bN hi l x;obtain⟨σ1,hs1⟩:∃x,x=σ.set i (pb ts (a+1)):=⟨_,rfl⟩
 have hl1:σ1.length=σ.length:=by rw[hs1,T4]
 have hb1:aj σ1.length σ1=true:=by rw[hl1,hs1];exact dh hb i ts _
 have h15:ce.length≤100:=by decide
 have fin1:∀(v:V) (ρ:ah) (l:LLV),lJ ts a k=v->ga ts a k=true->be (σ1++l) ρ qC=some v->V.under σ1.length v=true->fin σ1.length qC (fun o σ'=>o=.ret (lJ ts a k)/\σ'=if ga ts a k=true then σ1 else σ) .ret ρ (σ1++l):=fun v ρ l e1 e2 e3 e4=>
  bQ (τ:=σ1) hb1 e3 e4 TW ⟨by rw[e1],by rw[e2,if_pos rfl]⟩
 simp -dsimp only[aw,jV,jW,jX,jY,jZ,jA,reduceIte,reduceCtorEq,jB,jC,jD,jE,jF,jG];refine ae (nD _) ?_;generalize hl:ce=l at *;simp -dsimp only[aw,jV,jW,jX,jY,jZ,jA,reduceIte,reduceCtorEq,jB,jC,jD,jE,jF,jG,jj];refine aN [0,1,4,9,10,11] (R:=fun(j:Nat) ρ σ'=>ρ=[(0,.ptr i 0),(1,.d (ac k)),(4,.ptr σ.length 0),(9,.d (.sl (jj l))),(10,aB .i64 l.length),(11,aB .i64 j)]/\σ'=σ++[[.d (ab ⟨#[]⟩),.d (ac 0),.d (ac 0)]]/\gU l k ts a=gU (l.drop j) k ts a) l.length ⟨rfl,rfl,rfl⟩ ?_ _;rintro j ρ' σ' hj ⟨rfl,rfl,hr⟩;by_cases hlj:j<l.length
 .have hd:gU (l.drop j) k ts a=if l[j].2.2=k/\bG l[j].1 ts a=true then some l[j]else gU (l.drop (j+1)) k ts a:=by
   rw[TZ hlj];unfold gU;rw[T8];by_cases h1:l[j].2.2=k<;>by_cases h2:bG l[j].1 ts a=true<;>simp[h1,h2]
  have next:gU (l.drop j) k ts a=gU (l.drop (j+1)) k ts a->j<l.length/\Nxt σ.length (fun ρ σ'=>ρ=[(0,V.ptr i 0),(1,.d (ac k)),(4,.ptr σ.length 0),(9,.d (.sl (jj l))),(10,aB .i64 l.length),(11,aB .i64 ((j+1:Nat):Int))]/\σ'=σ++[[.d (ab ⟨#[]⟩),.d (ac 0),.d (ac 0)]]/\gU l k ts a=gU (l.drop (j+1)) k ts a) [(0,V.ptr i 0),(1,.d (ac k)),(4,.ptr σ.length 0),(9,.d (.sl (jj l))),(10,aB .i64 l.length),(11,aB .i64 ((j+1:Nat):Int))] (σ++[[.d (ab ⟨#[]⟩),.d (ac 0),.d (ac 0)],[.d (ab l[j].1),.d (ac l[j].2.1),.d (ac l[j].2.2)]]) .mk:=fun e=>
   ⟨hlj,Nxt.to (σ++[[.d (ab ⟨#[]⟩),.d (ac 0),.d (ac 0)]]) [[.d (ab l[j].1),.d (ac l[j].2.1),.d (ac l[j].2.2)]] (by simp) (by simp) (ax hb rfl) (by simp[aq,V.under];omega) ⟨rfl,rfl,by rw[hr,e]⟩⟩
  by_cases h1:l[j].2.2=k
  .have h1':decide (((l[j].2.2:Nat):Int)=((k:Nat):Int))=true:=by rw[decide_eq_true_eq];omega
   simp -dsimp only[aw,jV,jW,jX,jY,jZ,jA,reduceIte,reduceCtorEq,jB,jC,jD,jE,jF,jG,jj,TV,hlj,decide_true,TX hlj,h1'];refine dL (hA _ _) ?_;cases hs:bG l[j].1 ts a with
   | true=>
    rw[if_pos ⟨h1,hs⟩]at hd;rw[if_pos rfl,hso,<-hs1];rw[<-hl1];simp -dsimp only[aw,jV,jW,jX,jY,jZ,jA,reduceIte,reduceCtorEq,jB,jC,jD,jE,jF,jG];refine fin1 (.tup [.agg [.d (ab l[j].1),.d (ac l[j].2.1),.d (ac l[j].2.2)],ak false,ak true]) _ _ ?_ ?_ ?_ ?_
    .unfold lJ;rw[hl,hr,hd]
    .unfold ga;rw[hl,hr,hd];rfl
    .simp[qC,be,dp,bL,aw,jV,jW,jX,jY,jZ,jA,reduceIte,reduceCtorEq,jB,jC,jD,jE,jF,jG]
    .rfl
   | false=>
    rw[if_neg (fun h=>by rw[hs]at h;cases h.2)]at hd;simp -dsimp only[aw,jV,jW,jX,jY,jZ,jA,reduceIte,reduceCtorEq,jB,jC,jD,jE,jF,jG,TU,if_false,aH hlj (show l.length≤9223372036854775807 by omega)];exact next hd
  .have h1':decide (((l[j].2.2:Nat):Int)=((k:Nat):Int))=false:=by rw[decide_eq_false_iff_not];omega
   rw[if_neg (fun h=>h1 h.1)]at hd;simp -dsimp only[aw,jV,jW,jX,jY,jZ,jA,reduceIte,reduceCtorEq,jB,jC,jD,jE,jF,jG,jj,TV,hlj,decide_true,TX hlj,h1',aH hlj (show l.length≤9223372036854775807 by omega)];exact(next hd).2
 .rw[TY (by omega),show gU [] k ts a=none from rfl]at hr;by_cases h9:k=9
  .subst h9;simp -dsimp only[aw,jV,jW,jX,jY,jZ,jA,reduceIte,reduceCtorEq,jB,jC,jD,jE,jF,jG,TV,hlj,decide_false,show(((9:Nat):Int))=9 from rfl,decide_true];refine dL (hA _ _) ?_;have hf9:gU ce 9 ts a=none:=by rw[hl];exact hr
   cases hs:bG ⟨#[62]⟩ ts a with
   | true=>
    have hs':bG (aa 62) ts a=true:=hs;rw[if_pos rfl,hso,<-hs1];rw[<-hl1];simp -dsimp only[aw,jV,jW,jX,jY,jZ,jA,reduceIte,reduceCtorEq,jB,jC,jD,jE,jF,jG];refine fin1 (.tup [.agg [.d (ab ⟨#[]⟩),.d (ac 17),.d (ac 0)],ak true,ak true]) _ _ ?_ ?_ ?_ ?_
    .unfold lJ;rw[hf9];simp[hs']
    .unfold ga;rw[hf9];simp[hs']
    .simp[qC,be,dp,bL,aw,jV,jW,jX,jY,jZ,jA,reduceIte,reduceCtorEq,jB,jC,jD,jE,jF,jG]
    .rfl
   | false=>
    have hs':bG (aa 62) ts a=false:=hs;simp -dsimp only[aw,jV,jW,jX,jY,jZ,jA,reduceIte,reduceCtorEq,jB,jC,jD,jE,jF,jG,TU,if_false];refine dL (hA _ _) ?_;cases hs2:bG ⟨#[62,61]⟩ ts a with
    | true=>
     have hs2':bG (aE 62 61) ts a=true:=hs2;rw[if_pos rfl,hso,<-hs1];rw[<-hl1];simp -dsimp only[aw,jV,jW,jX,jY,jZ,jA,reduceIte,reduceCtorEq,jB,jC,jD,jE,jF,jG];refine fin1 (.tup [.agg [.d (ab ⟨#[]⟩),.d (ac 18),.d (ac 0)],ak true,ak true]) _ _ ?_ ?_ ?_ ?_
     .unfold lJ;rw[hf9];simp[hs',hs2']
     .unfold ga;rw[hf9];simp[hs',hs2']
     .simp[qC,be,dp,bL,aw,jV,jW,jX,jY,jZ,jA,reduceIte,reduceCtorEq,jB,jC,jD,jE,jF,jG]
     .rfl
    | false=>
     have hs2':bG (aE 62 61) ts a=false:=hs2;simp -dsimp only[aw,jV,jW,jX,jY,jZ,jA,reduceIte,reduceCtorEq,jB,jC,jD,jE,jF,jG,TU,if_false];exact aO (v:=.tup [zb,ak false,ak false]) hb (by simp[qC,be,dp,bL,zb,aw,jV,jW,jX,jY,jZ,jA,reduceIte,reduceCtorEq,jB,jC,jD,jE,jF,jG]) rfl TW ⟨by unfold lJ;rw[hf9];simp[hs',hs2'],by unfold ga;rw[hf9];simp[hs',hs2']⟩
  .have h9':decide (((k:Nat):Int)=9)=false:=by rw[decide_eq_false_iff_not];omega
   simp -dsimp only[aw,jV,jW,jX,jY,jZ,jA,reduceIte,reduceCtorEq,jB,jC,jD,jE,jF,jG,TV,hlj,decide_false,h9'];exact aO (v:=.tup [zb,ak false,ak false]) hb (by simp[qC,be,dp,bL,zb,aw,jV,jW,jX,jY,jZ,jA,reduceIte,reduceCtorEq,jB,jC,jD,jE,jF,jG]) rfl TW ⟨by unfold lJ;rw[hl,hr];simp[h9],by unfold ga;rw[hl,hr];simp[h9]⟩
def PQ(ts:List Tok)(i:Nat)(σ:LLV)(x:PR)(o:Out)(σ':LLV):Prop:=match x with
 | .ok e r=>o=.ret (vex e)/\σ'=σ.set i (pb ts (ts.length-r.length))
 | .bad c r=>o=.panic (eU c (ts.length-r.length))/\∃b,σ'=σ.set i (pb ts b)
 | .out=>False
theorem xZ{ts r:List Tok}(h:r <:+ ts):r=ts.drop (ts.length-r.length):=List.suffix_iff_eq_drop.1 h
theorem EU{ts:List Tok}{a:Nat}{k:PK}{e:Ex}{r:List Tok}(ha:a≤ts.length)(h:par k (ts.drop a)=.ok e r):r=ts.drop (ts.length-r.length)/\a≤ts.length-r.length/\ts.length-r.length≤ts.length/\(k.eats=true->a<ts.length-r.length):=by
 have ht:=lW k (ts.drop a);rw[h]at ht;have h1:=ht.1.length_le;have h2:=ht.2;rw[T7]at h1 h2;exact⟨xZ (ht.1.trans (List.drop_suffix _ _)),by omega,by omega,fun e=>by have:=h2 e;omega⟩
theorem Do(ts:List Tok)(a:Nat)(ha:a≤ts.length):eL (ts.drop a)=.bad (fM ts a) (ts.drop a):=by
 unfold fM;by_cases h:a<ts.length
 .rw[if_pos h,TZ h];rfl
 .rw[if_neg h,TY (by omega)];rfl
theorem jJ(ts:List Tok)(a:Nat)(ha:a≤ts.length):ts.length-(ts.drop a).length=a:=by rw[T7];omega
end Go.Proofs.YtnhphlmblenapaaGreatDoor
