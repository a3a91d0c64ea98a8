import Derived.Test.YtnhphlmblenapaaGreatDoorK6
set_option linter.unusedVariables false
set_option linter.unusedSimpArgs false
set_option linter.unusedSectionVars false
set_option maxRecDepth 100000
set_option maxHeartbeats 1200000
open Bool renaming false_eq_true->TJ
open Int renaming ofNat_lt->TK
open List renaming take_left->TL,getElem?_eq_getElem->TM,drop_eq_nil_of_le->TN,drop_eq_getElem_cons->TO,take_length->TP,getElem?_eq_none->TQ,length_set->TR,getElem?_append_right->TS,take_of_length_le->TT,length_drop->TU,find?_cons->TV
open Nat renaming le_refl->TW
namespace Go.Proofs.YtnhphlmblenapaaGreatDoor
open Go.RowKit
def c9:Cd:=sq [oM 2 (.mv (.k .nil)),oI 3 0,oI 4 0] [0] (sq [oV 10 0,oM 11 (.call 23 [.t 10,.k (.fn 24 [])]),oV 9 11,ZX 12 9 0,ZX 13 9 1,ZX 14 9 2,oV 5 12,oV 6 13,oV 7 14] [5,6,7] (.seq (sq [oV 15 7,Wn 16 15 0] [5,6,7,16] (.cond (.t 16) (sq [oV 17 6,oV 18 7,oM 2 (.mv (.k .nil)),oV 3 17,oV 4 18] [2,3,4] .ret) .skip)) (.seq (sq [oV 19 5,ZC 20 27 19,oV 8 20] [5,8] (sq [oV 21 8,Wn 22 21 0] [5,8,
 22] (.cond (.t 22) (sq [oV 23 8,oM 2 (.mv (.k .nil)),oI 3 0,oV 4 23] [2,3,4] .ret) .skip))) (sq [oV 24 5,oV 2 24,oI 3 0,oI 4 0] [2,3,4] .ret))))
def rs9:List RV:=[.t 2 false,.t 3 false,.t 4 false]
theorem k9:aE G.tab Tryz.f9 1 c9 rs9=true:=by kernel_rfl
def c12:Cd:=sq [oM 2 (.new 32 zz5),oI 3 0,oI 4 0] [0,2] (sq [oV 10 0,oM 11 (.call 32 [.t 10,.k (.fn 33 [])]),oV 9 11,ZX 12 9 0,ZX 13 9 1,ZX 14 9 2,oM 5 (.new 32 zz5),oS 4 5 12,oV 6 13,oV 7 14] [2,5,6,7] (.seq (sq [oV 15 7,Wn 16 15 0] [2,5,6,7,16] (.cond (.t 16) (sq [oM 17 (.bld zz5 []),oV 18 6,oV 19 7,oS 4 2 17,oV 3 18,oV 4 19] [2,3,4] .ret) .skip)) (.seq (sq [ZM 20 4 5,ZC 21 37 20,oV 8 21] [2,5,
 8] (.seq (.ops [oV 22 8,Wn 23 22 0] [2,5,8,23]) (.cond (.t 23) (sq [oM 24 (.bld zz5 []),oV 25 8,oS 4 2 24,oI 3 0,oV 4 25] [2,3,4] .ret) .skip))) (sq [ZM 26 4 5,oS 4 2 26,oI 3 0,oI 4 0] [2,3,4] .ret))))
def BI:List RV:=[.c 2 4 true,.t 3 false,.t 4 false]
theorem k12:aE G.tab Tryz.f12 1 c12 BI=true:=by kernel_rfl
def c24:Cd:=sq [oM 2 (.mv (.k .nil))] [0] (sq [oV 3 0,oV 4 0,oM 5 (.mkbd 26 [.t 4]),ZD 6 25 3 5,oV 2 6] [2] .ret)
def Sv:List RV:=[.t 2 false]
theorem k24:aE G.tab Tryz.f24 1 c24 Sv=true:=by kernel_rfl
def c33:Cd:=sq [oM 2 (.new 32 zz5)] [0,2] (sq [oV 4 0,ZC 5 34 4,oM 3 (.new 32 zz5),oS 4 3 5] [0,2,3] (.seq (sq [oV 6 0,ZC 7 35 6] [0,2,3,7] (.cond (.t 7) (.ops [oV 8 0,ZC 9 36 8] [2,3]) .skip)) (sq [ZM 10 4 3,oS 4 2 10] [2] .ret)))
def Pu:List RV:=[.c 2 4 true]
theorem k33:aE G.tab Tryz.f33 1 c33 Pu=true:=by kernel_rfl
def c25:Cd:=sq [oM 4 (.mv (.k .nil))] [0,1] (sq [oM 5 (.nilo 54 12)] [0,1,5] (.seq (.block 0 (.loop (.seq (sq [oV 6 0,ZC 7 35 6] [0,1,5,7] (.cond (.t 7) (.skip) (.exit 0))) (.block 1 (.ops [oM 8 (.mvo 5),oV 9 1,oM 10 (.callv (.t 9) []),oM 11 (.mks 54 12 [.t 10]),oM 12 (.app 54 12 216 8 (.t 11)),oM 5 (.mvo 12)] [0,1,5]))))) (sq [oV 13 5,oV 4 13] [4] .ret)))
def SV:List RV:=[.t 4 false]
theorem k25:aE G.tab Tryz.f25 2 c25 SV=true:=by kernel_rfl
def c23:CdD:=.seq (.ops [oM 4 (.new 23 [.nil]),oM 5 (.new 3 Bh),oM 6 (.new 24 Bh)] [0,1,4,5,6]) (.seq (.ops [oV 9 0,ZC 10 58 9,oV 8 10,ZX 11 8 0,ZX 12 8 1,ZX 13 8 2,oV 7 11,oS 1 5 12,oS 1 6 13] [1,4,5,6,7]) (.seq (.seq (.ops [ZL 14 1 6,Wn 15 14 0] [1,4,5,6,7,15]) (.cond (.t 15) (.seq (.drawg [(ZL 16 1 4,.calm 0 0),(ZL 17 1 5,.calm 0 1),(ZL 18 1 6,.calm 0 2),(oS 1 4 16,.act),(oS 1 5 17,.act),
 (oS 1 6 18,.act)] [4,5,6]) .ret) .skip)) (.dfr 19 59 [.t 4,.t 5,.t 6] (.seq (.ops [oV 20 1,oV 21 7,oM 22 (.bld Lc [(0,1,.t 21)]),ZB 23 103 22,oM 24 (.callv (.t 20) [.t 23]),oS 1 4 24,⟨none,.sto 1 (.t 5) (kI 0),none⟩,⟨none,.sto 1 (.t 6) (kI 0),none⟩] [4,5,6]) .ret))))
def uf:List RV:=[.c 4 1 false,.c 5 1 false,.c 6 1 false]
theorem k23:sO G.tab Tryz.f23 2 c23 uf=true:=by kernel_rfl
def c32:CdD:=.seq (.ops [oM 4 (.new 32 zz5),oM 5 (.new 3 Bh),oM 6 (.new 24 Bh)] [0,1,4,5,6]) (.seq (.ops [oV 9 0,ZC 10 58 9,oV 8 10,ZX 11 8 0,ZX 12 8 1,ZX 13 8 2,oV 7 11,oS 1 5 12,oS 1 6 13] [1,4,5,6,7]) (.seq (.seq (.ops [ZL 14 1 6,Wn 15 14 0] [1,4,5,6,7,15]) (.cond (.t 15) (.seq (.drawg [(ZM 16 4 4,.calm 0 0),(ZL 17 1 5,.calm 0 1),(ZL 18 1 6,.calm 0 2),(oS 4 4 16,.act),(oS 1 5 17,.act),
 (oS 1 6 18,.act)] [4,5,6]) .ret) (.skip))) (.dfr 19 81 [.t 4,.t 5,.t 6] (.seq (.ops [oV 20 1,oV 21 7,oM 22 (.bld Lc [(0,1,.t 21)]),ZB 23 103 22,oM 24 (.callv (.t 20) [.t 23]),oS 4 4 24,⟨none,.sto 1 (.t 5) (kI 0),none⟩,⟨none,.sto 1 (.t 6) (kI 0),none⟩] [4,5,6]) .ret))))
def um:List RV:=[.c 4 4 true,.c 5 1 false,.c 6 1 false]
theorem k32:sO G.tab Tryz.f32 2 c32 um=true:=by kernel_rfl
def c59:CdR:=.seq (.reg 7 [] [0,1,2,7]) (.block 0 (.seq (.ops [oM 9 (.nif false (.t 7))] [0,1,2,7,9]) (.cond (.t 9) (.ops [oV 3 7] []) (.seq (.ops [oM 10 (.tas 101 (.agg zz8) (.t 7)),ZX 11 10 1,ZX 12 10 0] [0,1,2,7,11,12]) (.cond (.t 11) (.seq (.ops [oM 4 (.new 101 zz8),oS 2 4 12] [0,1,2,4]) (.seq (.ops [oM 5 (.mv (.k .nil))] [0,1,2,4,5]) (.drawg [(oV 13 5,.free 0),(ZF 14 1 4,.free 0),(ZL 15 1 14,
 .calm 0 1),(ZF 16 0 4,.free 0),(ZL 17 1 16,.calm 0 2),(oS 1 0 13,.act),(oS 1 1 15,.act),(oS 1 2 17,.act)] []))) (.seq (.ops [oV 6 7] [6]) (.ops [oV 8 6,⟨none,.pan (.t 8),none⟩] [])))))))
theorem k59:sQ G.tab Tryz.f59 3 c59=true:=by kernel_rfl
def c81:CdR:=.seq (.reg 7 [] [0,1,2,7]) (.block 0 (.seq (.ops [oM 9 (.nif false (.t 7))] [0,1,2,7,9]) (.cond (.t 9) (.ops [oV 3 7] []) (.seq (.ops [oM 10 (.tas 101 (.agg zz8) (.t 7)),ZX 11 10 1,ZX 12 10 0] [0,1,2,7,11,12]) (.cond (.t 11) (.seq (.ops [oM 4 (.new 101 zz8),oS 2 4 12] [0,1,2,4]) (.seq (.ops [oM 5 (.new 32 zz5)] [0,1,2,4,5]) (.drawg [(ZM 13 4 5,.calm 0 0),(ZF 14 1 4,.free 0),
 (ZL 15 1 14,.calm 0 1),(ZF 16 0 4,.free 0),(ZL 17 1 16,.calm 0 2),(oS 4 0 13,.act),(oS 1 1 15,.act),(oS 1 2 17,.act)] []))) (.seq (.ops [oV 6 7] [6]) (.ops [oV 8 6,⟨none,.pan (.t 8),none⟩] [])))))))
theorem k81:sQ G.tab Tryz.f81 3 c81=true:=by kernel_rfl
def c37:Cd:=sq [ZB 1 32 0,oI 2 0] [1] (.seq (sq [ZM 7 4 1,ZC 8 45 7,oV 3 8] [1,3] (sq [oV 9 3,Wn 10 9 0] [1,3,10] (.cond (.t 10) (sq [oV 11 3,oV 2 11] [2] .ret) .skip))) (.seq (sq [ZF 12 3 1,ZL 13 1 12,ZN 14 13,oI 15 0] [13,14,15] (.block 0 (.loop (sq [Yl 16 15 14] [13,14,15,16] (.seq (.cond (.t 16) .skip (.exit 0)) (.seq (.block 1 (sq [ZI 17 2 13 15,ZM 18 2 17,oM 5 (.new 46 zz9),oS 2 5 18] [5,13,
 14,15] (sq [ZF 19 1 5,ZL 20 1 19,ZC 21 27 20,oV 6 21] [6,13,14,15] (sq [oV 22 6,Wn 23 22 0] [6,13,14,15,23] (.cond (.t 23) (sq [oV 24 6,oV 2 24] [2] .ret) .skip))))) (.ops [Wa 25 15 1,oV 15 25] [13,14,15]))))))) (sq [oI 2 0] [2] .ret)))
def So:List RV:=[.t 2 false]
theorem k37:aE G.tab Tryz.f37 1 c37 So=true:=by kernel_rfl
def c35:Cd:=sq [oM 2 (.mv kF)] [0] (.seq (.draw [oV 3 0,ZK 4 3,ZF 5 1 4,ZL 6 1 5,oV 7 0,ZK 8 7,ZF 9 0 8,ZL 10 1 9,ZN 11 10,Yl 12 6 11,oV 2 12] [2]) .ret)
def Tf:List RV:=[.t 2 false]
theorem k35:aE G.tab Tryz.f35 1 c35 Tf=true:=by kernel_rfl
def c36:Cd:=.seq (sq [oV 2 0,ZC 3 35 2] [0,3] (.cond (.t 3) (.ops [oV 4 0,oV 5 0,ZK 6 5,ZF 7 1 6,ZL 8 1 7,oM 9 (.call 87 [.t 4,.k (.d (.lit (.int .i64 5))),.t 8])] [0]) (.skip))) (.ops [oV 10 0,oV 11 0,ZK 12 11,ZF 13 1 12,ZL 14 1 13,oM 15 (.call 87 [.t 10,.k (.d (.lit (.int .i64 6))),.t 14])] [])
def Rq:List RV:=[]
theorem k36:aE G.tab Tryz.f36 1 c36 Rq=true:=by kernel_rfl
def c87:Cd:=sq [oI 6 0] [0,1,2,6] (.seq (sq [oV 8 0,ZK 9 8,ZF 10 0 9,ZL 11 1 10,ZN 12 11,oV 7 12] [0,1,2,6,7] (sq [oV 13 7,Wg 14 13 0] [0,1,2,6,7,14] (.cond (.t 14) (.ops [oV 15 0,ZK 16 15,ZF 17 0 16,ZL 18 1 17,oV 19 2,oV 20 7,Ws 21 20 1,oM 22 (.mx false (.t 19) (.t 21)),ZI 23 4 18 22,ZF 24 3 23,ZL 25 1 24,oV 6 25] [1,6]) .skip))) (.ops [oV 26 1,oV 27 6,oM 28 (.bld zz8 [(0,1,.t 26),(1,1,.t 27)]),
 oM 29 (.mki 101 (.t 28)),⟨none,.pan (.t 29),none⟩] []))
def Su:List RV:=[]
theorem k87:aE G.tab Tryz.f87 3 c87 Su=true:=by kernel_rfl
def c175:Cd:=sq [oM 6 (.mv kF)] [0,1,2] (.seq (.draw [oV 7 0,ZC 8 35 7,oV 9 8,oG 10 9 (.mv (.t 0)),oG 11 9 (zK 10),oG 12 9 (zF 0 11),oG 13 9 (zL 1 12),oG 14 9 (.mv (.t 0)),oG 15 9 (zK 14),oG 16 9 (zF 1 15),oG 17 9 (zL 1 16),oG 18 9 (zI 4 13 17),oG 19 9 (zF 0 18),oG 20 9 (zL 1 19),oG 21 9 (.mv (.t 1)),oG 22 9 (ye 20 21),ZQ 23 9 22,oV 24 23,oG 25 24 (.mv (.t 0)),oG 26 24 (zK 25),oG 27 24 (zF 0 26),
 oG 28 24 (zL 1 27),oG 29 24 (.mv (.t 0)),oG 30 24 (zK 29),oG 31 24 (zF 1 30),oG 32 24 (zL 1 31),oG 33 24 (zI 4 28 32),oG 34 24 (zF 2 33),oG 35 24 (zL 1 34),oG 36 24 (.mv (.t 2)),oG 37 24 (ye 35 36),ZQ 38 24 37,oV 6 38] [6]) .ret)
def LE:List RV:=[.t 6 false]
theorem SK:aE G.tab Tryz.f175 3 c175 LE=true:=by kernel_rfl
def NM:Cd:=sq [oM 6 (.mv kF)] [0,1,2] (sq [oV 8 0,oV 9 1,oV 10 2,ZE 11 175 8 9 10,oV 7 11] [0,7] (.seq (sq [oV 12 7] [0,7,12] (.cond (.t 12) (.ops [oV 13 0,ZK 14 13,ZF 15 1 14,ZL 16 1 15,Wa 17 16 1,ZK 18 13,ZF 19 1 18,oS 1 19 17] [7]) (.skip))) (sq [oV 20 7,oV 6 20] [6] .ret)))
def NA:List RV:=[.t 6 false]
theorem RA:aE G.tab Tryz.f117 3 NM NA=true:=by kernel_rfl
def c60:Cd:=sq [oM 4 (.mv kF)] [0,1] (sq [oV 5 0,oV 6 1,oM 7 (.call 117 [.t 5,.k (.d (.lit (.int .i64 2))),.t 6]),oV 4 7] [4] .ret)
def SZ:List RV:=[.t 4 false]
theorem k60:aE G.tab Tryz.f60 2 c60 SZ=true:=by kernel_rfl
def Of:Cd:=sq [oM 4 (.mv kF)] [0,1] (sq [oV 5 0,oV 6 1,oM 7 (.call 117 [.t 5,.k (.d (.lit (.int .i64 4))),.t 6]),oV 4 7] [4] .ret)
def L9:List RV:=[.t 4 false]
theorem TG:aE G.tab Tryz.f121 2 Of L9=true:=by kernel_rfl
def c84:Cd:=sq [oV 4 0,oV 5 1,ZD 6 121 4 5,ZU 7 6] [0,7] (.cond (.t 7) (.ops [oV 8 0,ZC 9 36 8] []) .skip)
def Q4:List RV:=[]
theorem k84:aE G.tab Tryz.f84 2 c84 Q4=true:=by kernel_rfl
def c82:Cd:=sq [oV 4 0,oV 5 1,ZD 6 60 4 5,ZU 7 6] [0,7] (.cond (.t 7) (.ops [oV 8 0,ZC 9 36 8] []) .skip)
def Sk:List RV:=[]
theorem k82:aE G.tab Tryz.f82 2 c82 Sk=true:=by kernel_rfl
def MW:Cd:=sq [oM 4 (.new 121 zz2)] [0,1,4] (.seq (.seq (.draw [oV 5 0,ZC 6 35 5,ZU 7 6,oV 8 7,oH 9 8 (.mv (.t 0)),oH 10 8 (zK 9),oH 11 8 (zF 0 10),oH 12 8 (zL 1 11),oH 13 8 (.mv (.t 0)),oH 14 8 (zK 13),oH 15 8 (zF 1 14),oH 16 8 (zL 1 15),oH 17 8 (zI 4 12 16),oH 18 8 (zF 0 17),oH 19 8 (zL 1 18),oH 20 8 (.mv (.t 1)),oH 21 8 (yn 19 20),ZP 22 8 21] [0,4,22]) (.cond (.t 22) (.ops [oV 23 0,
 ZC 24 36 23] [0,4]) .skip)) (sq [oV 25 0,ZK 26 25,ZF 27 1 26,ZL 28 1 27,Wa 29 28 1,ZK 30 25,ZF 31 1 30,oS 1 31 29] [0,4] (.seq (.drawg [(oV 32 0,.free 0),(ZK 33 32,.free 0),(ZF 34 0 33,.free 0),(ZL 35 1 34,.calm 0 0),(oV 36 0,.free 0),(ZK 37 36,.free 0),(ZF 38 1 37,.free 0),(ZL 39 1 38,.calm 0 0),(Ws 40 39 1,.free 0),(ZI 41 4 35 40,.free 0),(ZM 42 4 41,.calm 0 0),(oS 4 4 42,.act)] [4]) .ret)))
def Jc:List RV:=[.c 4 4 true]
theorem TB:aE G.tab Tryz.f139 2 MW Jc=true:=by kernel_rfl
def c83:Cd:=sq [oM 2 (.mv (kS ⟨#[]⟩))] [0] (sq [oV 3 0,oM 4 (.call 139 [.t 3,.k (.d (.lit (.int .i64 1)))]),oM 5 (.fld 2 1 false (.t 4)),oV 2 5] [2] .ret)
def Pp:List RV:=[.t 2 false]
theorem k83:aE G.tab Tryz.f83 1 c83 Pp=true:=by kernel_rfl
def Qc:Cd:=sq [oI 2 0] [0] (sq [oV 3 0,oM 4 (.call 139 [.t 3,.k (.d (.lit (.int .i64 3)))]),oM 5 (.fld 1 1 false (.t 4)),oV 2 5] [2] .ret)
def I7:List RV:=[.t 2 false]
theorem Rb:aE G.tab Tryz.f177 1 Qc I7=true:=by kernel_rfl
def Oz:Cd:=sq [oM 2 (.new 50 zz0)] [0,2] (.seq (.drawg [(oV 7 0,.free 0),(ZK 8 7,.free 0),(ZF 9 0 8,.free 0),(ZL 10 1 9,.calm 0 1),(oV 11 0,.free 0),(ZK 12 11,.free 0),(ZF 13 1 12,.free 0),(ZL 14 1 13,.calm 0 1),(ZD 15 176 10 14,.calm 0 1),(oV 6 15,.free 0),(ZX 16 6 0,.free 0),(ZX 17 6 1,.free 0),(ZX 18 6 2,.free 0),(oM 3 (.new 50 zz0),.act),(oS 4 3 16,.act),(oV 4 17,.free 2),(oV 5 18,
 .free 2)] [0,2,3,4,5]) (.seq (sq [oV 19 5] [0,2,3,4,5,19] (.block 0 (sq [We 24 19 0,oV 23 24] [0,2,3,4,5,19,23] (.cond (.t 23) (.ops [oV 25 0,oV 26 4,ZK 27 25,ZF 28 1 27,oS 1 28 26] [2,3]) (.seq (sq [We 30 19 5,oV 29 30] [0,2,3,4,5,19,29] (.cond (.t 29) .skip (sq [We 31 19 3,oV 29 31] [0,2,3,4,5,19,29] (.cond (.t 29) .skip (.ops [We 32 19 6,oV 29 32] [0,2,3,4,5,
 29]))))) (.cond (.t 29) (.ops [oV 33 0,oV 34 5,oV 35 4,ZE 36 87 33 34 35] [2,3]) (.ops [oV 20 5,oM 21 (.bld zz8 [(0,1,.t 20),(1,1,.k (.d (.lit (.int .i64 0))))]),oM 22 (.mki 101 (.t 21)),⟨none,.pan (.t 22),none⟩] [2,3]))))))) (sq [ZM 37 4 3,oS 4 2 37] [2] .ret)))
def Ah:List RV:=[.c 2 4 true]
theorem QV:aE G.tab Tryz.f118 1 Oz Ah=true:=by kernel_rfl
def P8:Cd:=sq [oM 2 (.mv (kS ⟨#[]⟩))] [0] (sq [oV 4 0,ZC 5 83 4,oV 3 5] [0,3] (.seq (sq [oV 6 0,oM 7 (.call 121 [.t 6,.k (.d (.lit (.string ⟨#[91]⟩)))])] [0,3,7] (.cond (.t 7) (sq [oV 8 3,oV 9 0,ZC 10 177 9,ZC 11 159 10,oM 12 (.bin .add (kS ⟨#[91]⟩) (.t 11)),oM 13 (.bin .add (.t 12) (kS ⟨#[93]⟩)),Ya 14 8 13,oV 3 14] [0,3] (.ops [oV 15 0,oM 16 (.call 84 [.t 15,
 .k (.d (.lit (.string ⟨#[93]⟩)))])] [3])) .skip)) (sq [oV 17 3,oV 2 17] [2] .ret)))
def Qq:List RV:=[.t 2 false]
theorem RI:aE G.tab Tryz.f119 1 P8 Qq=true:=by kernel_rfl
def Qr:Cd:=sq [oM 2 (.mv (.k .nil))] [0] (sq [oV 4 0,ZC 5 119 4,oM 6 (.mkso 9 1 [.t 5]),oM 3 (.mvo 6)] [0,3] (.seq (.block 0 (.loop (.seq (sq [oV 7 0,oM 8 (.call 121 [.t 7,.k (.d (.lit (.string ⟨#[44]⟩)))])] [0,3,8] (.cond (.t 8) .skip (.exit 0))) (.block 1 (.ops [oM 9 (.mvo 3),oV 10 0,ZC 11 119 10,oM 12 (.mks 9 1 [.t 11]),oM 13 (.app 9 1 16 9 (.t 12)),oM 3 (.mvo 13)] [0,3]))))) (sq [oV 14 3,
 oV 2 14] [2] .ret)))
def Qk:List RV:=[.t 2 false]
theorem Rw:aE G.tab Tryz.f122 1 Qr Qk=true:=by kernel_rfl
def PC:Cd:=sq [oM 2 (.new 56 zz7)] [0,2] (sq [oM 3 (.new 56 zz7)] [0,2,3] (sq [oV 4 0,ZC 5 177 4,ZF 6 0 3,oS 1 6 5] [0,2,3] (sq [ZF 7 0 3,ZL 8 1 7,ZF 9 1 3,oS 1 9 8] [0,2,3] (.seq (sq [oV 10 0,oM 11 (.call 121 [.t 10,.k (.d (.lit (.string ⟨#[46,46]⟩)))])] [0,2,3,11] (.cond (.t 11) (.ops [oV 12 0,ZC 13 177 12,ZF 14 1 3,oS 1 14 13] [0,2,3]) (.skip))) (sq [oV 15 0,oM 16 (.call 121 [.t 15,
 .k (.d (.lit (.string ⟨#[58,61]⟩)))]),ZF 17 3 3,oS 1 17 16] [0,2,3] (.seq (sq [ZF 18 3 3,ZL 19 1 18,ZU 20 19] [0,2,3,20] (.cond (.t 20) (.ops [oV 21 0,oM 22 (.call 84 [.t 21,.k (.d (.lit (.string ⟨#[58,47]⟩)))])] [0,2,3]) .skip)) (sq [oV 23 0,ZC 24 177 23,ZF 25 2 3,oS 1 25 24] [2,3] (sq [ZM 26 4 3,oS 4 2 26] [2] .ret))))))))
def Js:List RV:=[.c 2 4 true]
theorem QT:aE G.tab Tryz.f120 1 PC Js=true:=by kernel_rfl
def c62:Cd:=sq [oM 2 (.new 54 zz1)] [0,2] (sq [oV 4 0,ZC 5 119 4,oM 6 (.bld zz1 [(0,1,.k (.d (.lit (.int .i64 3)))),(5,1,.t 5)]),oM 3 (.new 54 zz1),oS 12 3 6] [0,2,3] (sq [oV 7 0,oM 8 (.call 84 [.t 7,.k (.d (.lit (.string ⟨#[123]⟩)))])] [0,2,3] (.seq (.raw [ZF 9 7 3,oM 10 (.ldo (.t 9)),oV 11 0,ZC 12 120 11,oM 13 (.mks 56 4 [.t 12]),oM 14 (.app 56 4 32 10 (.t 13)),ZF 15 7 3,⟨none,.stoo (.t 15) 14,
 none⟩] [[],[0],[],[2],[3],[1,4,3],[0,1,2,3,4,5],[6,5,5,0,1,2,3,4,5]] [0,2,3]) (.seq (.block 0 (.loop (.seq (sq [oV 16 0,oM 17 (.call 121 [.t 16,.k (.d (.lit (.string ⟨#[44]⟩)))])] [0,2,3,17] (.cond (.t 17) .skip (.exit 0))) (.block 1 (.raw [ZF 18 7 3,oM 19 (.ldo (.t 18)),oV 20 0,ZC 21 120 20,oM 22 (.mks 56 4 [.t 21]),oM 23 (.app 56 4 32 19 (.t 22)),ZF 24 7 3,⟨none,.stoo (.t 24) 23,none⟩] [[],[0],
 [],[2],[3],[1,4,3],[0,1,2,3,4,5],[6,5,5,0,1,2,3,4,5]] [0,2,3]))))) (sq [oV 25 0,oM 26 (.call 84 [.t 25,.k (.d (.lit (.string ⟨#[125]⟩)))])] [0,2,3] (sq [oV 27 0,oM 28 (.call 84 [.t 27,.k (.d (.lit (.string ⟨#[59]⟩)))])] [2,3] (sq [ZM 29 12 3,oS 12 2 29] [2] .ret)))))))
def IO:List RV:=[.c 2 12 true]
theorem k62:aE G.tab Tryz.f62 1 c62 IO=true:=by kernel_rfl
def c63:Cd:=sq [oM 2 (.new 54 zz1)] [0,2] (sq [oV 4 0,oM 5 (.call 84 [.t 4,.k (.d (.lit (.string ⟨#[40]⟩)))])] [0,2] (sq [oV 6 0,ZC 7 118 6,oM 8 (.bld zz1 [(0,1,.k (.d (.lit (.int .i64 4)))),(1,4,.t 7)]),oM 3 (.new 54 zz1),oS 12 3 8] [0,2,3] (sq [oV 9 0,oM 10 (.call 84 [.t 9,.k (.d (.lit (.string ⟨#[41]⟩)))])] [0,2,3] (sq [oV 11 0,ZC 12 86 11,ZF 13 8 3,oS 1 13 12] [0,2,3] (.seq (sq [oV 14 0,
 oM 15 (.call 60 [.t 14,.k (.d (.lit (.string ⟨#[101,108,115,101]⟩)))])] [0,2,3,15] (.cond (.t 15) (.ops [oV 16 0,ZC 17 86 16,ZF 18 9 3,oS 1 18 17] [2,3]) .skip)) (sq [ZM 19 12 3,oS 12 2 19] [2] .ret))))))
def KB:List RV:=[.c 2 12 true]
theorem k63:aE G.tab Tryz.f63 1 c63 KB=true:=by kernel_rfl
def c64:Cd:=sq [oM 2 (.new 54 zz1)] [0,2] (sq [oV 4 0,ZC 5 83 4,oM 6 (.bld zz1 [(0,1,.k (.d (.lit (.int .i64 5)))),(6,1,.t 5)]),oM 3 (.new 54 zz1),oS 12 3 6] [0,2,3] (sq [oV 7 0,oM 8 (.call 82 [.t 7,.k (.d (.lit (.string ⟨#[105,110]⟩)))])] [0,2,3] (sq [oV 9 0,ZC 10 83 9,ZF 11 5 3,oS 1 11 10] [0,2,3] (sq [oV 12 0,ZC 13 86 12,ZF 14 8 3,oS 1 14 13] [2,3] (sq [ZM 15 12 3,oS 12 2 15] [2] .ret)))))
def OW:List RV:=[.c 2 12 true]
theorem k64:aE G.tab Tryz.f64 1 c64 OW=true:=by kernel_rfl
def c65:Cd:=sq [oM 2 (.new 54 zz1)] [0,2] (sq [oV 4 0,ZC 5 122 4,oM 6 (.bld zz1 [(0,1,.k (.d (.lit (.int .i64 6)))),(10,1,.t 5)]),oM 3 (.new 54 zz1),oS 12 3 6] [0,2,3] (sq [oV 7 0,oM 8 (.call 82 [.t 7,.k (.d (.lit (.string ⟨#[98,101,102,111,114,101]⟩)))])] [0,2,3] (sq [oV 9 0,ZC 10 122 9,ZF 11 11 3,oS 1 11 10] [0,2,3] (sq [oV 12 0,oM 13 (.call 84 [.t 12,.k (.d (.lit (.string ⟨#[59]⟩)))])] [2,
 3] (sq [ZM 14 12 3,oS 12 2 14] [2] .ret)))))
def OL:List RV:=[.c 2 12 true]
theorem k65:aE G.tab Tryz.f65 1 c65 OL=true:=by kernel_rfl
def c61:Cd:=sq [oM 4 (.new 54 zz1)] [0,1,4] (sq [oV 6 1,oV 7 0,ZC 8 118 7,oM 9 (.bld zz1 [(0,1,.t 6),(1,4,.t 8)]),oM 5 (.new 54 zz1),oS 12 5 9] [0,4,5] (sq [oV 10 0,oM 11 (.call 84 [.t 10,.k (.d (.lit (.string ⟨#[59]⟩)))])] [4,5] (sq [ZM 12 12 5,oS 12 4 12] [4] (.ret))))
def PO:List RV:=[.c 4 12 true]
theorem k61:aE G.tab Tryz.f61 2 c61 PO=true:=by kernel_rfl
def c26:Cd:=sq [oM 2 (.new 54 zz1)] [0,2] (.seq (.block 0 (sq [oV 4 0,oM 5 (.call 60 [.t 4,.k (.d (.lit (.string ⟨#[115,111,102,116]⟩)))]),oV 3 5] [0,2,3] (.cond (.t 3) (sq [oV 6 0,oM 7 (.call 61 [.t 6,.k (.d (.lit (.int .i64 2)))]),oS 12 2 7] [2] .ret) (sq [oV 9 0,oM 10 (.call 60 [.t 9,.k (.d (.lit (.string ⟨#[100,105,115,116]⟩)))]),oV 8 10] [0,2,8] (.cond (.t 8) (sq [oV 11 0,ZC 12 62 11,
 oS 12 2 12] [2] .ret) (sq [oV 14 0,oM 15 (.call 60 [.t 14,.k (.d (.lit (.string ⟨#[105,102]⟩)))]),oV 13 15] [0,2,13] (.cond (.t 13) (sq [oV 16 0,ZC 17 63 16,oS 12 2 17] [2] .ret) (sq [oV 19 0,oM 20 (.call 60 [.t 19,.k (.d (.lit (.string ⟨#[101,97,99,104]⟩)))]),oV 18 20] [0,2,18] (.cond (.t 18) (sq [oV 21 0,ZC 22 64 21,oS 12 2 22] [2] .ret) (sq [oV 24 0,oM 25 (.call 60 [.t 24,
 .k (.d (.lit (.string ⟨#[115,111,108,118,101]⟩)))]),oV 23 25] [0,2,23] (.cond (.t 23) (sq [oV 26 0,ZC 27 65 26,oS 12 2 27] [2] .ret) .skip))))))))))) (sq [oV 28 0,oM 29 (.call 61 [.t 28,.k (.d (.lit (.int .i64 1)))]),oS 12 2 29] [2] .ret))
def JL:List RV:=[.c 2 12 true]
theorem k26:aE G.tab Tryz.f26 1 c26 JL=true:=by kernel_rfl
def c86:Cd:=sq [oM 2 (.mv (.k .nil))] [0] (sq [oV 4 0,oM 5 (.call 84 [.t 4,.k (.d (.lit (.string ⟨#[123]⟩)))])] [0] (sq [oM 3 (.nilo 54 12)] [0,3] (.seq (.block 0 (.loop (.seq (sq [oV 6 0,oM 7 (.call 121 [.t 6,.k (.d (.lit (.string ⟨#[125]⟩)))]),ZU 8 7] [0,3,8] (.cond (.t 8) .skip (.exit 0))) (.block 1 (.ops [oM 9 (.mvo 3),oV 10 0,ZC 11 26 10,oM 12 (.mks 54 12 [.t 11]),
 oM 13 (.app 54 12 216 9 (.t 12)),oM 3 (.mvo 13)] [0,3]))))) (sq [oV 14 3,oV 2 14] [2] .ret))))
def QS:List RV:=[.t 2 false]
theorem k86:aE G.tab Tryz.f86 1 c86 QS=true:=by kernel_rfl
def M9:Cd:=sq [oI 2 0] [0] (.seq (sq [oV 4 0,oM 5 (.call 121 [.t 4,.k (.d (.lit (.string ⟨#[91]⟩)))]),ZU 6 5] [0,6] (.cond (.t 6) (sq [oI 2 0] [2] (.ret)) .skip)) (sq [oV 7 0,ZC 8 177 7,oV 3 8] [0,3] (.seq (sq [oV 9 3,Wl 10 9 1] [0,3,10] (.cond (.t 10) (.ops [oV 11 0,oV 12 0,ZK 13 12,ZF 14 1 13,ZL 15 1 14,Ws 16 15 1,oM 17 (.call 87 [.t 11,.k (.d (.lit (.int .i64 5))),.t 16])] [0,
 3]) .skip)) (sq [oV 18 0,oM 19 (.call 84 [.t 18,.k (.d (.lit (.string ⟨#[93]⟩)))])] [3] (sq [oV 20 3,oV 2 20] [2] .ret)))))
def OS:List RV:=[.t 2 false]
theorem QY:aE G.tab Tryz.f198 1 M9 OS=true:=by kernel_rfl
def NO:Cd:=sq [oM 4 (.new 74 zz6)] [0,1,4] (sq [oV 6 0,ZC 7 83 6,oV 8 1,oM 9 (.bld zz6 [(0,1,.t 7),(3,1,.t 8)]),oM 5 (.new 74 zz6),oS 5 5 9] [0,1,4,5] (.seq (.ops [oV 10 0,ZC 11 198 10,ZF 12 2 5,oS 1 12 11] [0,1,4,5]) (sq [oV 13 0,oM 14 (.call 84 [.t 13,.k (.d (.lit (.string ⟨#[58]⟩)))])] [0,1,4,5] (sq [oV 15 0,ZC 16 177 15,ZF 17 1 5,oS 1 17 16] [0,1,4,5] (.seq (sq [oV 18 1,We 19 18 0] [0,4,5,
 19] (.cond (.t 19) (sq [oV 20 0,oM 21 (.call 84 [.t 20,.k (.d (.lit (.string ⟨#[61]⟩)))])] [0,4,5] (.ops [oV 22 0,ZC 23 177 22,ZF 24 4 5,oS 1 24 23] [0,4,5])) (.skip))) (sq [oV 25 0,oM 26 (.call 84 [.t 25,.k (.d (.lit (.string ⟨#[59]⟩)))])] [4,5] (sq [ZM 27 5 5,oS 5 4 27] [4] .ret)))))))
def Gi:List RV:=[.c 4 5 true]
theorem RE:aE G.tab Tryz.f140 2 NO Gi=true:=by kernel_rfl
def c85:Cd:=sq [oM 2 (.mv (.k .nil))] [0] (sq [oM 3 (.nilo 74 5)] [0,3] (.block 0 (.loop (.block 1 (.block 2 (sq [oV 6 0,oM 7 (.call 60 [.t 6,.k (.d (.lit (.string ⟨#[114,97,110,100]⟩)))]),oV 5 7] [0,3,5] (.cond (.t 5) (.ops [oM 8 (.mvo 3),oV 9 0,oM 10 (.call 140 [.t 9,.k (.d (.lit (.int .i64 1)))]),oM 11 (.mks 74 5 [.t 10]),oM 12 (.app 74 5 48 8 (.t 11)),oM 3 (.mvo 12)] [0,3]) (sq [oV 14 0,
 oM 15 (.call 60 [.t 14,.k (.d (.lit (.string ⟨#[114,97,110,100,99]⟩)))]),oV 13 15] [0,3,13] (.cond (.t 13) (.ops [oM 16 (.mvo 3),oV 17 0,oM 18 (.call 140 [.t 17,.k (.d (.lit (.int .i64 2)))]),oM 19 (.mks 74 5 [.t 18]),oM 20 (.app 74 5 48 16 (.t 19)),oM 3 (.mvo 20)] [0,3]) (sq [oV 22 0,oM 23 (.call 60 [.t 22,.k (.d (.lit (.string ⟨#[115,116,97,116,101]⟩)))]),oV 21 23] [0,3,
 21] (.cond (.t 21) (.ops [oM 24 (.mvo 3),oV 25 0,oM 26 (.call 140 [.t 25,.k (.d (.lit (.int .i64 0)))]),oM 27 (.mks 74 5 [.t 26]),oM 28 (.app 74 5 48 24 (.t 27)),oM 3 (.mvo 28)] [0,3]) (sq [oV 4 3,oV 2 4] [2] .ret))))))))))))
def Tu:List RV:=[.t 2 false]
theorem k85:aE G.tab Tryz.f85 1 c85 Tu=true:=by kernel_rfl
def c34:Cd:=sq [oM 2 (.new 32 zz5)] [0,2] (sq [oV 5 0,oM 6 (.call 82 [.t 5,.k (.d (.lit (.string ⟨#[99,108,97,115,115]⟩)))])] [0,2] (sq [oV 7 0,ZC 8 83 7,oM 9 (.bld zz5 [(0,1,.t 8)]),oM 3 (.new 32 zz5),oS 4 3 9] [0,2,3] (.seq (sq [oV 10 0,oM 11 (.call 60 [.t 10,.k (.d (.lit (.string ⟨#[101,120,116,101,110,100,115]⟩)))])] [0,2,3,11] (.cond (.t 11) (.ops [oV 12 0,ZC 13 83 12,ZF 14 1 3,
 oS 1 14 13] [0,2,3]) .skip)) (sq [oV 15 0,oM 16 (.call 84 [.t 15,.k (.d (.lit (.string ⟨#[123]⟩)))])] [0,2,3] (sq [oV 17 0,ZC 18 85 17,ZF 19 2 3,oS 1 19 18] [0,2,3] (.seq (.block 0 (.loop (.seq (sq [oV 20 0,oM 21 (.call 60 [.t 20,.k (.d (.lit (.string ⟨#[99,111,110,115,116,114,97,105,110,116]⟩)))])] [0,2,3,21] (.cond (.t 21) .skip (.exit 0))) (.block 1 (sq [oV 22 0,ZC 23 83 22,oM 24 (.bld zz9 [(0,
 1,.t 23)]),oM 4 (.new 46 zz9),oS 2 4 24] [0,2,3,4] (sq [oV 25 0,ZC 26 86 25,ZF 27 1 4,oS 1 27 26] [0,2,3,4] (.ops [ZF 28 3 3,oM 29 (.ldo (.t 28)),ZM 30 2 4,oM 31 (.mks 46 2 [.t 30]),oM 32 (.app 46 2 40 29 (.t 31)),ZF 33 3 3,⟨none,.stoo (.t 33) 32,none⟩] [0,2,3]))))))) (sq [oV 34 0,oM 35 (.call 84 [.t 34,.k (.d (.lit (.string ⟨#[125]⟩)))])] [2,3] (sq [ZM 36 4 3,oS 4 2 36] [2] .ret))))))))
def Pj:List RV:=[.c 2 4 true]
theorem k34:aE G.tab Tryz.f34 1 c34 Pj=true:=by kernel_rfl
def c8:Cd:=sq [oM 0 (.mv kF)] [] (sq [oM 11 (.call 12 [.k (.d (.lit (.string ⟨#[99,108,97,115,115,32,112,32,123,32,114,97,110,100,32,97,32,58,32,50,59,32,99,111,110,115,116,114,97,105,110,116,32,99,32,123,32,97,32,60,32,51,59,32,115,111,102,116,32,97,32,61,61,32,49,59,32,125,32,125]⟩)))]),oV 10 11,ZX 12 10 0,ZX 13 10 1,ZX 14 10 2,oM 1 (.new 32 zz5),oS 4 1 12,oV 2 13,oV 3 14] [1,2,
 3] (sq [oM 16 (.call 9 [.k (.d (.lit (.string ⟨#[100,105,115,116,32,97,32,123,32,48,32,58,61,32,50,44,32,49,32,46,46,32,51,32,58,47,32,54,32,125,59]⟩)))]),oV 15 16,ZX 17 15 0,ZX 18 15 1,ZX 19 15 2,oV 4 17,oV 5 18,oV 6 19] [1,2,3,4,5,6] (sq [oM 21 (.call 9 [.k (.d (.lit (.string ⟨#[97,32,60]⟩)))]),oV 20 21,ZX 22 20 0,ZX 23 20 1,ZX 24 20 2,oV 7 22,oV 8 23,oV 9 24] [1,2,3,4,5,6,8,9] (sq [ZF 25 2 1,
 ZL 26 1 25,ZN 27 26,We 28 27 1,oV 29 28,oG 30 29 (zF 3 1),oG 31 29 (zL 1 30),oG 32 29 (zN 31),oG 33 29 (we 32 1),ZQ 34 29 33,oV 35 34,oG 36 35 (zF 3 1),oG 37 35 (zL 1 36),oG 38 35 (.ia 2 (.t 37) (kI 0)),oG 39 35 (zF 1 38),oG 40 35 (zL 1 39),oG 41 35 (zN 40),oG 42 35 (we 41 2),ZQ 43 35 42,oV 44 43,oG 45 44 (.mv (.t 2)),oG 46 44 (we 45 0),ZQ 47 44 46,oV 48 47,oG 49 48 (.mv (.t 3)),
 oG 50 48 (we 49 0),ZQ 51 48 50,oV 52 51,oG 53 52 (.mv (.t 4)),oG 54 52 (zN 53),oG 55 52 (we 54 1),ZQ 56 52 55,oV 57 56,oG 58 57 (.mv (.t 4)),oG 59 57 (.ia 12 (.t 58) (kI 0)),oG 60 57 (zF 7 59),oG 61 57 (zL 1 60),oG 62 57 (zN 61),oG 63 57 (we 62 2),ZQ 64 57 63,oV 65 64,oG 66 65 (.mv (.t 4)),oG 67 65 (.ia 12 (.t 66) (kI 0)),oG 68 65 (zF 7 67),oG 69 65 (zL 1 68),oG 70 65 (.ia 4 (.t 69) (kI 1)),
 oG 71 65 (zM 4 70),⟨some 72,.bld zz7 [(0,1,.k (.d (.lit (.int .i64 1)))),(1,1,.k (.d (.lit (.int .i64 3)))),(2,1,.k (.d (.lit (.int .i64 6))))],(some (65,true))⟩,⟨some 73,.eqa false 56 [.i .i64,.i .i64,.i .i64,.b] (.t 71) (.t 72),(some (65,true))⟩,ZQ 74 65 73,oV 75 74,oG 76 75 (.mv (.t 5)),oG 77 75 (we 76 0),ZQ 78 75 77,oV 79 78,oG 80 79 (.mv (.t 6)),oG 81 79 (we 80 0),ZQ 82 79 81,oV 83 82,
 oG 84 83 (.mv (.t 8)),oG 85 83 (we 84 1),ZQ 86 83 85,oV 87 86,oG 88 87 (.mv (.t 9)),oG 89 87 (we 88 6),ZQ 90 87 89,oV 0 90] [0] .ret))))
def rs8:List RV:=[.t 0 false]
theorem k8:aE G.tab Tryz.f8 0 c8 rs8=true:=by kernel_rfl
def c21:Cd:=sq [ZB 1 32 0,oM 2 (.mv kF)] [1] (.seq (sq [ZM 4 4 1,ZC 5 45 4,Wn 6 5 0] [1,6] (.cond (.t 6) (.seq (.ops [oM 2 (.mv kF)] [2]) .ret) .skip)) (.seq (sq [oI 3 0] [1,3] (.block 0 (.loop (.seq (sq [oV 7 3,ZF 8 3 1,ZL 9 1 8,ZN 10 9,Yl 11 7 10] [1,3,11] (.cond (.t 11) .skip (.exit 0))) (.seq (.block 1 (sq [ZF 14 3 1,ZL 15 1 14,oV 16 3,ZI 17 2 15 16,ZF 18 1 17,ZL 19 1 18,ZC 20 27 19,
 Wn 21 20 0] [1,3,21] (.cond (.t 21) (sq [oM 2 (.mv kF)] [2] .ret) .skip))) (.ops [oV 12 3,Wa 13 12 1,oV 3 13] [1,3])))))) (sq [oM 2 (.mv kT)] [2] .ret)))
def c4:Cd:=sq [oM 2 (.mv kF)] [0] (.seq (sq [oV 9 0,oM 10 (.len true (.t 9)),Wg 11 10 1500] [0,11] (.cond (.t 11) (sq [oM 12 (.call 8 []),oV 2 12] [2] (.ret)) .skip)) (sq [oV 14 0,ZC 15 12 14,oV 13 15,ZX 16 13 0,ZX 17 13 1,ZX 18 13 2,oM 3 (.new 32 zz5),oS 4 3 16,oV 4 17,oV 5 18] [0,3,4,5] (sq [oV 20 0,ZC 21 13 20,oV 19 21,ZX 22 19 0,ZX 23 19 1,ZX 24 19 2,oM 6 (.new 32 zz5),oS 4 6 22,oV 7 23,
 oV 8 24] [3,4,5,6,7,8] (sq [ZM 25 4 3,ZM 26 4 6,ZD 27 14 25 26,oV 28 27,oG 29 28 (.mv (.t 4)),oG 30 28 (.mv (.t 7)),oG 31 28 (ye 29 30),ZQ 32 28 31,oV 33 32,oG 34 33 (.mv (.t 5)),oG 35 33 (.mv (.t 8)),oG 36 33 (ye 34 35),ZQ 37 33 36,oV 38 37,oG 39 38 (.call 8 []),ZQ 40 38 39,oV 2 40] [2] .ret))))
def rs4:List RV:=[.t 2 false]
theorem k4:aE G.tab Tryz.f4 1 c4 rs4=true:=by kernel_rfl
end Go.Proofs.YtnhphlmblenapaaGreatDoor
namespace Go.Proofs.YtnhphlmblenapaaGreatDoor
open Go.RowKit
def ax(m:ByteArray)(ts:List Tok)(a:Nat):Bool:=(acc m (ts.drop a)).isSome
theorem bv{m:ByteArray}{ts:List Tok}{a:Nat}(h:ax m ts a=true):a<ts.length:=by
 apply Classical.byContradiction;intro hn;unfold ax at h;rw[TN (by omega)]at h;cases h
def pb(ts:List Tok)(a:Nat):List V:=[.d (.sl (ts.map di)),.d (ab a)]
def ef(e:Int)(a:Nat):V:=.iface 241 (.agg [.d (ab e),.d (ab a)])
theorem vF(t:Tok)(h:t.text.size≤1000)(σ:LLV):Fun G 327 [ea t] σ (aN (ao (bO t)) σ):=by
 refine ae Tryz.func327 Rr rfl fun hb hw=>?_;unfold Pw;have hj:=zo [t] (by simp) (by simpa using h);unfold z7 at hj;simp only[List.all_cons,List.all_nil,Bool.and_true]at hj;simp -dsimp only[aw,seval,ea];refine ac (by simpa only[List.map_cons,List.map_nil,di]using hj _) ?_;cases hv:bO t with
 | true=>
  simp -dsimp only[aw,seval];exact ak hb rfl rfl
 | false=>
  simp -dsimp only[aw,seval];exact ak hb rfl rfl
def fJ(ts:List Tok)(a:Nat):V:=match ts[a]? with
 | some t=>if bO t=true then .tup [ea t,ao true]else .tup [bT,ao false]
 | none=>.tup [bT,ao false]
theorem nG(ts:List Tok)(a i:Nat)(hz:∀t,t∈ts->t.text.size≤1000)(ha:a≤ts.length)(σ:LLV)(hi:σ[i]? = some (pb ts a)):
 Fun G 323 [.ptr i 0] σ (aN (fJ ts a) σ):=by
 refine ae Tryz.func323 Tz rfl fun hb hw=>?_;unfold L2;have hio:=fun t=>ah hi t;unfold pb at hio;by_cases hlt:a<ts.length
 .have d1:decide (((ts.length:Nat):Int)≤((a:Nat):Int))=false:=by rw[decide_eq_false_iff_not];omega
  have hn:fJ ts a=if bO ts[a]=true then .tup [ea ts[a],ao true]else .tup [bT,ao false]:=by unfold fJ;rw[TM hlt]
  have hv:=vF ts[a] (hz _ (List.getElem_mem hlt));simp -dsimp only[aw,seval,hio,d1,TM hlt,bG,di];refine bo (by simpa only[ea]using hv _) ?_;cases hvt:bO ts[a]with
  | true=>
   rw[hn,if_pos hvt];simp -dsimp only[aw,seval,hio,TM hlt,bG,di];exact az (v:=.tup [ea ts[a],ao true]) hb (by simp[Ap,aC,bZ,aQ,ea,aw,seval]) rfl TL ⟨rfl,rfl⟩
  | false=>
   rw[hn,if_neg (by rw[hvt];decide)];simp -dsimp only[aw,seval];exact az (v:=.tup [bT,ao false]) hb (by simp[Ap,aC,bZ,aQ,bT,cr,cJ,aw,seval]) rfl TL ⟨rfl,rfl⟩
 .have d1:decide (((ts.length:Nat):Int)≤((a:Nat):Int))=true:=by rw[decide_eq_true_eq];omega
  have hn:fJ ts a=.tup [bT,ao false]:=by unfold fJ;rw[TQ (by omega)]
  rw[hn];simp -dsimp only[aw,seval,hio,d1];exact az (v:=.tup [bT,ao false]) hb (by simp[Ap,aC,bZ,aQ,bT,cr,cJ,aw,seval]) rfl TL ⟨rfl,rfl⟩
theorem nI{m:ByteArray}{ts:List Tok}{a:Nat}(h:a<ts.length):ax m ts a=(bO ts[a]&&((decide (ts[a].kind=4)||decide (ts[a].kind=2))&&decide (ts[a].text=m))):=by
 unfold ax;rw[TO h];simp only[acc];rw[Bool.eq_iff_iff];split<;>simp_all
theorem fH{m:ByteArray}{ts:List Tok}{a:Nat}(h:¬a<ts.length):ax m ts a=false:=by
 unfold ax;rw[TN (by omega)];rfl
theorem GO(m:ByteArray)(ts:List Tok)(a i:Nat)(hz:∀t,t∈ts->t.text.size≤1000)(ha:a≤ts.length)(σ:LLV)(hi:σ[i]? = some (pb ts a)):
 Fun G 311 [.ptr i 0,.d (ai m)] σ (aN (ao (ax m ts a)) σ):=by
 refine ae Tryz.func311 Th rfl fun hb hw=>?_;unfold Qd;have hN:=nG ts a i hz ha σ hi;simp -dsimp only[aw,seval];refine ac hN ?_;by_cases hlt:a<ts.length
 .have hn:fJ ts a=if bO ts[a]=true then .tup [ea ts[a],ao true]else .tup [bT,ao false]:=by unfold fJ;rw[TM hlt]
  rw[hn,nI hlt];generalize ts[a]=t;cases hvt:bO t with
  | false=>
   rw[if_neg (by decide)];simp -dsimp only[aw,seval,bT,cr];exact ak hb rfl rfl
  | true=>
   rw[if_pos rfl];by_cases h4:t.kind=4
   .simp -dsimp only[aw,seval,ea,decide_eq_true h4];exact ak hb rfl rfl
   .by_cases h2:t.kind=2
    .simp -dsimp only[aw,seval,ea,decide_eq_false h4,decide_eq_true h2];exact ak hb rfl rfl
    .simp -dsimp only[aw,seval,ea,decide_eq_false h4,decide_eq_false h2];exact ak hb rfl rfl
 .have hn:fJ ts a=.tup [bT,ao false]:=by unfold fJ;rw[TQ (by omega)]
  rw[hn,fH hlt];simp -dsimp only[aw,seval,bT,cr];exact ak hb rfl rfl
theorem JM{σ:LLV}{i:Nat}{ts:List Tok}{a:Nat}(hi:σ[i]? = some (pb ts a)):σ.set i (pb ts a)=σ:=by
 have hlt:=(List.getElem?_eq_some_iff.1 hi).1;rw[<-(List.getElem?_eq_some_iff.1 hi).2];exact List.set_getElem_self hlt
theorem jy(m:ByteArray)(ts:List Tok)(a i:Nat)(hz:∀t,t∈ts->t.text.size≤1000)(hn:ts.length≤1200000)(ha:a≤ts.length)(σ:LLV)(hi:σ[i]? = some (pb ts a)):
 Fun G 285 [.ptr i 0,.d (ai m)] σ fun o σ'=>o=.ret (ao (ax m ts a))/\σ'=if ax m ts a=true then σ.set i (pb ts (a+1))else σ:=by
 have hlt:=(List.getElem?_eq_some_iff.1 hi).1;refine ae Tryz.func285 Sj rfl fun hb hw=>?_;unfold N1;have hS:=GO m ts a i hz ha σ hi;simp -dsimp only[aw,seval];refine ac hS ?_;cases hs:ax m ts a with
 | false=>
  simp -dsimp only[aw,seval,TJ,if_false];exact az hb rfl rfl TP ⟨rfl,rfl⟩
 | true=>
  unfold pb at hi;simp -dsimp only[aw,seval,hi,aA (show -9223372036854775808≤((a:Nat):Int)+1 by omega) (show((a:Nat):Int)+1≤9223372036854775807 by omega),if_true];exact bp (τ:=σ.set i (pb ts (a+1))) (bq hb rfl) rfl rfl (by rw[TT (by rw[TR];exact TW _)];rfl) ⟨rfl,rfl⟩
theorem qZ(ts:List Tok)(a i:Nat)(ha:a≤ts.length)(σ:LLV)(hi:σ[i]? = some (pb ts a)):
 Fun G 312 [.ptr i 0] σ fun o σ'=>o=.panic (ef (if a<ts.length then 5 else 6) a)/\σ'=σ:=by
 refine ae Tryz.func312 Ss rfl fun hb hw=>?_;unfold Ng;unfold pb at hi;by_cases hlt:a<ts.length
 .have d1:decide (((ts.length:Nat):Int)≤((a:Nat):Int))=false:=by rw[decide_eq_false_iff_not];omega
  rw[if_pos hlt];simp -dsimp only[aw,seval,hi,d1];exact⟨σ.length,TW _,by rw[TP];exact hb,rfl,rfl,TP⟩
 .have hae:a=ts.length:=by omega
  have d1:decide (((ts.length:Nat):Int)≤((a:Nat):Int))=true:=by rw[decide_eq_true_eq];omega
  rw[if_neg hlt];simp -dsimp only[aw,seval,hi,d1];rw[hae];exact⟨σ.length,TW _,by rw[TP];exact hb,rfl,rfl,TP⟩
theorem ey{σ σ' τ:LLV}{ρ:aj}{rs:List RV}{Q:Out->LLV->Prop}{v:V}(hb:am σ.length τ=true)(hσ:σ'.take σ.length=τ)(hv:V.under σ.length v=true)(hq:Q (.panic v) τ):fin σ.length rs Q (.panic v) ρ σ':=
 ⟨σ.length,TW _,by rw[hσ];exact hb,hv,by rw[hσ];exact hq⟩
theorem Fo{σ σ' τ:LLV}{ρ:aj}{rs:List RV}{Q:Out->LLV->Prop}(hb:am σ.length τ=true){v:V}(h:aC σ' ρ rs=some v)(hv:V.under σ.length v=true)(hσ:σ'.take σ.length=τ)(hq:Q (.ret v) τ):fin σ.length rs Q .normal ρ σ':=
 ⟨ρ,σ',.refl _ _ _,v,h,σ.length,TW _,by rw[hσ];exact hb,hv,by rw[hσ];exact hq⟩
theorem bi{K P:V->LLV->Prop}{v:V}{σ:LLV}:FW K P (.panic v) σ=P v σ:=rfl
def bQ(ts:List Tok)(a:Nat):Int:=if a<ts.length then 5 else 6
theorem cM{σ:LLV}(hb:am σ.length σ=true)(i:Nat)(ts:List Tok)(a:Nat):am σ.length (σ.set i (pb ts a))=true:=bq hb rfl
theorem wL{σ:LLV}(i:Nat)(X:List V):(σ.set i X).take σ.length=σ.set i X:=TT (by rw[TR];exact TW _)
theorem cO{σ:LLV}(i:Nat)(X:List V)(l:LLV):(σ.set i X++l).take σ.length=σ.set i X:=by
 rw[List.take_append_of_le_length (by simp),wL]
theorem xZ(m:ByteArray)(ts:List Tok)(a i:Nat)(hz:∀t,t∈ts->t.text.size≤1000)(hn:ts.length≤1200000)(ha:a≤ts.length)(σ:LLV)(hi:σ[i]? = some (pb ts a)):
 Fun G 286 [.ptr i 0,.d (ai m)] σ fun o σ'=>if ax m ts a=true then o=.ret (.tup [])/\σ'=σ.set i (pb ts (a+1))else o=.panic (ef (bQ ts a) a)/\σ'=σ:=by
 refine ae Tryz.func286 Ty rfl fun hb hw=>?_;unfold NH;have hA:=jy m ts a i hz hn ha σ hi;have hF:=qZ ts a i ha σ hi;simp -dsimp only[aw,seval];refine dm hA ?_;cases hs:ax m ts a with
 | true=>
  simp -dsimp only[aw,seval,if_true];exact Fo (τ:=σ.set i (pb ts (a+1))) (cM hb i ts _) rfl rfl (wL _ _) ⟨rfl,rfl⟩
 | false=>
  simp -dsimp only[aw,seval,TJ,if_false];refine aB hF fun o σ' ⟨e1,e2⟩=>?_;rw[e1,e2];simp -dsimp only[aw,seval,bi];exact ey hb TP rfl ⟨rfl,rfl⟩
theorem fM{ts:List Tok}{a:Nat}(h:a<ts.length):bW (ts.drop a)=if bO ts[a]=true/\ts[a].kind=1 then some (ts[a].text,ts.drop (a+1))else none:=by
 rw[TO h];rfl
theorem ez{ts:List Tok}{a:Nat}(h:a<ts.length):cB (ts.drop a)=if bO ts[a]=true/\ts[a].kind=3 then some (ts[a].num,ts.drop (a+1))else none:=by
 rw[TO h];rfl
theorem kz(t:Tok):ea t=.agg [.d (ab t.kind),.d (ab t.num),.d (ai t.text),.d (ab t.line)]:=rfl
theorem Ct(ts:List Tok)(a i:Nat)(hz:∀t,t∈ts->t.text.size≤1000)(hn:ts.length≤1200000)(ha:a≤ts.length)(σ:LLV)(hi:σ[i]? = some (pb ts a)):
 Fun G 330 [.ptr i 0] σ fun o σ'=>match bW (ts.drop a)with
  | some (s,_)=>o=.ret (.d (ai s))/\σ'=σ.set i (pb ts (a+1))
  | none=>o=.panic (ef (bQ ts a) a)/\σ'=σ:=by
 have hlt:=(List.getElem?_eq_some_iff.1 hi).1;have hN:=nG ts a i hz ha σ hi;have hF:=fun l=>qZ ts a i ha (σ++l) (ah hi l);have hbx:∀(X cs:List V),(σ.set i X++[cs])[σ.length]? = some cs:=fun X cs=>by rw[TS (by simp)];simp
 have hio:=fun t=>ah hi t;have hso:=fun l x=>be hi l x;unfold pb at hio;have hw1:IntKind.i64.wrap (((a:Nat):Int)+1)=((a+1:Nat):Int):=by rw[aA (by omega) (by omega)];omega
 refine ae Tryz.func330 Rh rfl fun hb hw=>?_;unfold OV;simp -dsimp only[aw,seval];refine ac hN ?_;by_cases hla:a<ts.length
 .have hnv:fJ ts a=if bO ts[a]=true then .tup [ea ts[a],ao true]else .tup [bT,ao false]:=by unfold fJ;rw[TM hla]
  rw[hnv,fM hla];generalize ts[a]=t;by_cases hv:bO t=true
  .rw[if_pos hv];by_cases hk:t.kind=1
   .rw[if_pos ⟨hv,hk⟩];simp -dsimp only[aw,seval,kz,decide_eq_true hk,hio,hw1,hso,hbx];exact bp (τ:=σ.set i (pb ts (a+1))) (cM hb i ts _) rfl rfl (cO _ _ _) ⟨rfl,rfl⟩
   .rw[if_neg (fun h=>hk h.2)];simp -dsimp only[aw,seval,kz,decide_eq_false hk];refine aB (hF _) fun o σ' ⟨e1,e2⟩=>?_;rw[e1,e2];simp -dsimp only[aw,seval,bi];exact ey hb TL rfl ⟨rfl,rfl⟩
  .rw[if_neg hv,if_neg (fun h=>hv h.1)];simp -dsimp only[aw,seval,bT,cr];refine aB (hF _) fun o σ' ⟨e1,e2⟩=>?_;rw[e1,e2];simp -dsimp only[aw,seval,bi];exact ey hb TL rfl ⟨rfl,rfl⟩
 .have hnv:fJ ts a=.tup [bT,ao false]:=by unfold fJ;rw[TQ (by omega)]
  rw[hnv,TN (show ts.length≤a by omega)];simp only[bW];simp -dsimp only[aw,seval,bT,cr];refine aB (hF _) fun o σ' ⟨e1,e2⟩=>?_;rw[e1,e2];simp -dsimp only[aw,seval,bi];exact ey hb TL rfl ⟨rfl,rfl⟩
theorem xE(ts:List Tok)(a i:Nat)(hz:∀t,t∈ts->t.text.size≤1000)(hn:ts.length≤1200000)(ha:a≤ts.length)(σ:LLV)(hi:σ[i]? = some (pb ts a)):
 Fun G 329 [.ptr i 0] σ fun o σ'=>match cB (ts.drop a)with
  | some (n,_)=>if 65535<n then o=.panic (ef 3 a)/\σ'=σ else o=.ret (.d (ab n))/\σ'=σ.set i (pb ts (a+1))
  | none=>o=.panic (ef (bQ ts a) a)/\σ'=σ:=by
 have hlt:=(List.getElem?_eq_some_iff.1 hi).1;have hN:=nG ts a i hz ha σ hi;have hF:=fun l=>qZ ts a i ha (σ++l) (ah hi l);have hbx:∀(X cs:List V),(σ.set i X++[cs])[σ.length]? = some cs:=fun X cs=>by rw[TS (by simp)];simp
 have hio:=fun t=>ah hi t;have hso:=fun l x=>be hi l x;unfold pb at hio;have hw1:IntKind.i64.wrap (((a:Nat):Int)+1)=((a+1:Nat):Int):=by rw[aA (by omega) (by omega)];omega
 refine ae Tryz.func329 Sq rfl fun hb hw=>?_;unfold Nw;simp -dsimp only[aw,seval];refine ac hN ?_;by_cases hla:a<ts.length
 .have hnv:fJ ts a=if bO ts[a]=true then .tup [ea ts[a],ao true]else .tup [bT,ao false]:=by unfold fJ;rw[TM hla]
  rw[hnv,ez hla];generalize ts[a]=t;by_cases hv:bO t=true
  .rw[if_pos hv];by_cases hk:t.kind=3
   .rw[if_pos ⟨hv,hk⟩];simp only;by_cases hbig:65535<t.num
    .simp -dsimp only[aw,seval,kz,decide_eq_true hk,hio,decide_eq_true hbig];exact ey hb TL rfl (by rw[if_pos hbig];exact⟨rfl,rfl⟩)
    .simp -dsimp only[aw,seval,kz,decide_eq_true hk,hio,decide_eq_false hbig,hw1,hso,hbx];exact bp (τ:=σ.set i (pb ts (a+1))) (cM hb i ts _) rfl rfl (cO _ _ _) (by rw[if_neg hbig];exact⟨rfl,rfl⟩)
   .rw[if_neg (fun h=>hk h.2)];simp -dsimp only[aw,seval,kz,decide_eq_false hk];refine aB (hF _) fun o σ' ⟨e1,e2⟩=>?_;rw[e1,e2];simp -dsimp only[aw,seval,bi];exact ey hb TL rfl ⟨rfl,rfl⟩
  .rw[if_neg hv,if_neg (fun h=>hv h.1)];simp -dsimp only[aw,seval,bT,cr];refine aB (hF _) fun o σ' ⟨e1,e2⟩=>?_;rw[e1,e2];simp -dsimp only[aw,seval,bi];exact ey hb TL rfl ⟨rfl,rfl⟩
 .have hnv:fJ ts a=.tup [bT,ao false]:=by unfold fJ;rw[TQ (by omega)]
  rw[hnv,TN (show ts.length≤a by omega)];simp only[cB];simp -dsimp only[aw,seval,bT,cr];refine aB (hF _) fun o σ' ⟨e1,e2⟩=>?_;rw[e1,e2];simp -dsimp only[aw,seval,bi];exact ey hb TL rfl ⟨rfl,rfl⟩
theorem eo(o:Int)(l:List Ex)(σ:LLV):Fun G 287 [.d (ab o),.d (.sl (l.map dex))] σ (aN (vex (aK o l)) σ):=by
 refine ae Tryz.func287 SJ rfl fun hb hw=>?_;unfold LU;simp -dsimp only[aw,seval];exact az (v:=vex (aK o l)) hb (by rw[au];simp[Jd,aC,aQ,aK,bt,aU,aH,aI,aw,seval]) (by rw[au];rfl) TL ⟨rfl,rfl⟩
def zb:V:=.agg [.d (ai ⟨#[]⟩),.d (ab 0),.d (ab 0)]
def fW(l:List (ByteArray×Int×Nat))(k:Nat)(ts:List Tok)(a:Nat):Option (ByteArray×Int×Nat):=l.find? fun b=>decide (b.2.2=k)&&ax b.1 ts a
theorem aT{m:ByteArray}{ts:List Tok}{a:Nat}:acc m (ts.drop a)=if ax m ts a=true then some (ts.drop (a+1))else none:=by
 by_cases h:a<ts.length
 .unfold ax;rw[TO h];simp only[acc];split<;>simp
 .rw[fH h,TN (by omega)];rfl
theorem mz(k:Nat)(ts:List Tok)(a:Nat):∀l,jp l k (ts.drop a)=(fW l k ts a).map fun b=>(b.2.1,ts.drop (a+1))
 | []=>rfl
 | b::l=>by
  have ih:=mz k ts a l;unfold fW at ih ⊢;simp only[jp,aT,TV];by_cases hk:b.2.2=k
  .rw[if_pos hk];by_cases hs:ax b.1 ts a=true
   .simp[hk,hs]
   .simp only[hs,hk,decide_true,Bool.true_and,if_false];simpa using ih
  .rw[if_neg hk];simp only[hk,decide_false,Bool.false_and];exact ih
def j7(ts:List Tok)(a:Nat)(k:Nat):V:=match fW cC k ts a with
 | some b=>.tup [.agg [.d (ai b.1),.d (ab b.2.1),.d (ab b.2.2)],ao false,ao true]
 | none=>if k=9/\ax (aa 62) ts a=true then .tup [.agg [.d (ai ⟨#[]⟩),.d (ab 17),.d (ab 0)],ao true,ao true]
  else if k=9/\ax (ba 62 61) ts a=true then .tup [.agg [.d (ai ⟨#[]⟩),.d (ab 18),.d (ab 0)],ao true,ao true]
  else .tup [zb,ao false,ao false]
def fc(ts:List Tok)(a:Nat)(k:Nat):Bool:=(fW cC k ts a).isSome||(decide (k=9)&&(ax (aa 62) ts a||ax (ba 62 61) ts a))
theorem uH(k:Nat)(hk:k≤100)(ts:List Tok)(a i:Nat)(hz:∀t,t∈ts->t.text.size≤1000)(hn:ts.length≤1200000)(ha:a≤ts.length)(σ:LLV)(hi:σ[i]? = some (pb ts a)):
 Fun G 322 [.ptr i 0,.d (ab k)] σ fun o σ'=>o=.ret (j7 ts a k)/\σ'=if fc ts a k=true then σ.set i (pb ts (a+1))else σ:=by
 have hlt:=(List.getElem?_eq_some_iff.1 hi).1;refine ae Tryz.func322 R3 rfl fun hb hw=>?_;unfold MK;have hA:=fun m l=>jy m ts a i hz hn ha (σ++l) (ah hi l);have hso:=fun l x=>be hi l x;obtain⟨σ1,hs1⟩:∃x,x=σ.set i (pb ts (a+1)):=⟨_,rfl⟩
 have hl1:σ1.length=σ.length:=by rw[hs1,TR]
 have hb1:am σ1.length σ1=true:=by rw[hl1,hs1];exact cM hb i ts _
 have h15:cC.length≤100:=by decide
 have fin1:∀(v:V) (ρ:aj) (l:LLV),j7 ts a k=v->fc ts a k=true->aC (σ1++l) ρ o5=some v->V.under σ1.length v=true->fin σ1.length o5 (fun o σ'=>o=.ret (j7 ts a k)/\σ'=if fc ts a k=true then σ1 else σ) .ret ρ (σ1++l):=fun v ρ l e1 e2 e3 e4=>
  bp (τ:=σ1) hb1 e3 e4 TL ⟨by rw[e1],by rw[e2,if_pos rfl]⟩
 simp -dsimp only[aw,seval];refine ac (sk _) ?_;generalize hl:cC=l at *;simp -dsimp only[aw,seval,mB];refine aL [0,1,4,9,10,11] (R:=fun(j:Nat) ρ σ'=>ρ=[(0,.ptr i 0),(1,.d (ab k)),(4,.ptr σ.length 0),(9,.d (.sl (mB l))),(10,aF .i64 l.length),(11,aF .i64 j)]/\σ'=σ++[[.d (ai ⟨#[]⟩),.d (ab 0),.d (ab 0)]]/\fW l k ts a=fW (l.drop j) k ts a) l.length ⟨rfl,rfl,rfl⟩ ?_ _;rintro j ρ' σ' hj ⟨rfl,rfl,hr⟩;by_cases hlj:j<l.length
 .have hd:fW (l.drop j) k ts a=if l[j].2.2=k/\ax l[j].1 ts a=true then some l[j]else fW (l.drop (j+1)) k ts a:=by
   rw[TO hlj];unfold fW;rw[TV];by_cases h1:l[j].2.2=k<;>by_cases h2:ax l[j].1 ts a=true<;>simp[h1,h2]
  have next:fW (l.drop j) k ts a=fW (l.drop (j+1)) k ts a->j<l.length/\Nxt σ.length (fun ρ σ'=>ρ=[(0,V.ptr i 0),(1,.d (ab k)),(4,.ptr σ.length 0),(9,.d (.sl (mB l))),(10,aF .i64 l.length),(11,aF .i64 ((j+1:Nat):Int))]/\σ'=σ++[[.d (ai ⟨#[]⟩),.d (ab 0),.d (ab 0)]]/\fW l k ts a=fW (l.drop (j+1)) k ts a) [(0,V.ptr i 0),(1,.d (ab k)),(4,.ptr σ.length 0),(9,.d (.sl (mB l))),(10,aF .i64 l.length),(11,aF .i64 ((j+1:Nat):Int))] (σ++[[.d (ai ⟨#[]⟩),.d (ab 0),.d (ab 0)],[.d (ai l[j].1),.d (ab l[j].2.1),.d (ab l[j].2.2)]]) .mk:=fun e=>
   ⟨hlj,Nxt.to (σ++[[.d (ai ⟨#[]⟩),.d (ab 0),.d (ab 0)]]) [[.d (ai l[j].1),.d (ab l[j].2.1),.d (ab l[j].2.2)]] (by simp) (by simp) (aq hb rfl) (by simp[an,V.under];omega) ⟨rfl,rfl,by rw[hr,e]⟩⟩
  by_cases h1:l[j].2.2=k
  .have h1':decide (((l[j].2.2:Nat):Int)=((k:Nat):Int))=true:=by rw[decide_eq_true_eq];omega
   simp -dsimp only[aw,seval,mB,TK,hlj,decide_true,TM hlj,h1'];refine dm (hA _ _) ?_;cases hs:ax l[j].1 ts a with
   | true=>
    rw[if_pos ⟨h1,hs⟩]at hd;rw[if_pos rfl,hso,<-hs1];rw[<-hl1];simp -dsimp only[aw,seval];refine fin1 (.tup [.agg [.d (ai l[j].1),.d (ab l[j].2.1),.d (ab l[j].2.2)],ao false,ao true]) _ _ ?_ ?_ ?_ ?_
    .unfold j7;rw[hl,hr,hd]
    .unfold fc;rw[hl,hr,hd];rfl
    .simp[o5,aC,bZ,aQ,aw,seval]
    .rfl
   | false=>
    rw[if_neg (fun h=>by rw[hs]at h;cases h.2)]at hd;simp -dsimp only[aw,seval,TJ,if_false,aJ hlj (show l.length≤9223372036854775807 by omega)];exact next hd
  .have h1':decide (((l[j].2.2:Nat):Int)=((k:Nat):Int))=false:=by rw[decide_eq_false_iff_not];omega
   rw[if_neg (fun h=>h1 h.1)]at hd;simp -dsimp only[aw,seval,mB,TK,hlj,decide_true,TM hlj,h1',aJ hlj (show l.length≤9223372036854775807 by omega)];exact(next hd).2
 .rw[TN (by omega),show fW [] k ts a=none from rfl]at hr;by_cases h9:k=9
  .subst h9;simp -dsimp only[aw,seval,TK,hlj,decide_false,show(((9:Nat):Int))=9 from rfl,decide_true];refine dm (hA _ _) ?_;have hf9:fW cC 9 ts a=none:=by rw[hl];exact hr
   cases hs:ax ⟨#[62]⟩ ts a with
   | true=>
    have hs':ax (aa 62) ts a=true:=hs;rw[if_pos rfl,hso,<-hs1];rw[<-hl1];simp -dsimp only[aw,seval];refine fin1 (.tup [.agg [.d (ai ⟨#[]⟩),.d (ab 17),.d (ab 0)],ao true,ao true]) _ _ ?_ ?_ ?_ ?_
    .unfold j7;rw[hf9];simp[hs']
    .unfold fc;rw[hf9];simp[hs']
    .simp[o5,aC,bZ,aQ,aw,seval]
    .rfl
   | false=>
    have hs':ax (aa 62) ts a=false:=hs;simp -dsimp only[aw,seval,TJ,if_false];refine dm (hA _ _) ?_;cases hs2:ax ⟨#[62,61]⟩ ts a with
    | true=>
     have hs2':ax (ba 62 61) ts a=true:=hs2;rw[if_pos rfl,hso,<-hs1];rw[<-hl1];simp -dsimp only[aw,seval];refine fin1 (.tup [.agg [.d (ai ⟨#[]⟩),.d (ab 18),.d (ab 0)],ao true,ao true]) _ _ ?_ ?_ ?_ ?_
     .unfold j7;rw[hf9];simp[hs',hs2']
     .unfold fc;rw[hf9];simp[hs',hs2']
     .simp[o5,aC,bZ,aQ,aw,seval]
     .rfl
    | false=>
     have hs2':ax (ba 62 61) ts a=false:=hs2;simp -dsimp only[aw,seval,TJ,if_false];exact az (v:=.tup [zb,ao false,ao false]) hb (by simp[o5,aC,bZ,aQ,zb,aw,seval]) rfl TL ⟨by unfold j7;rw[hf9];simp[hs',hs2'],by unfold fc;rw[hf9];simp[hs',hs2']⟩
  .have h9':decide (((k:Nat):Int)=9)=false:=by rw[decide_eq_false_iff_not];omega
   simp -dsimp only[aw,seval,TK,hlj,h9'];exact az (v:=.tup [zb,ao false,ao false]) hb (by simp[o5,aC,bZ,aQ,zb,aw,seval]) rfl TL ⟨by unfold j7;rw[hl,hr];simp[h9],by unfold fc;rw[hl,hr];simp[h9]⟩
def PQ(ts:List Tok)(i:Nat)(σ:LLV)(x:PR)(o:Out)(σ':LLV):Prop:=match x with
 | .ok e r=>o=.ret (vex e)/\σ'=σ.set i (pb ts (ts.length-r.length))
 | .bad c r=>o=.panic (ef c (ts.length-r.length))/\∃b,σ'=σ.set i (pb ts b)
 | .out=>False
theorem xf{ts r:List Tok}(h:r <:+ ts):r=ts.drop (ts.length-r.length):=List.suffix_iff_eq_drop.1 h
theorem FK{ts:List Tok}{a:Nat}{k:PK}{e:Ex}{r:List Tok}(ha:a≤ts.length)(h:par k (ts.drop a)=.ok e r):r=ts.drop (ts.length-r.length)/\a≤ts.length-r.length/\ts.length-r.length≤ts.length/\(k.eats=true->a<ts.length-r.length):=by
 have ht:=ji k (ts.drop a);rw[h]at ht;have h1:=ht.1.length_le;have h2:=ht.2;rw[TU]at h1 h2;exact⟨xf (ht.1.trans (List.drop_suffix _ _)),by omega,by omega,fun e=>by have:=h2 e;omega⟩
theorem dC(ts:List Tok)(a:Nat)(ha:a≤ts.length):eO (ts.drop a)=.bad (bQ ts a) (ts.drop a):=by
 unfold bQ;by_cases h:a<ts.length
 .rw[if_pos h,TO h];rfl
 .rw[if_neg h,TN (by omega)];rfl
theorem iE(ts:List Tok)(a:Nat)(ha:a≤ts.length):ts.length-(ts.drop a).length=a:=by rw[TU];omega
end Go.Proofs.YtnhphlmblenapaaGreatDoor
