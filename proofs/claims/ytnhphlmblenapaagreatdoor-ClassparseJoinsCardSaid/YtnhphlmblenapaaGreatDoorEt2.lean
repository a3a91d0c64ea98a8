import Derived.Lib.AtoiErrMem
import Derived.Test.YtnhphlmblenapaaGreatDoorK6
set_option linter.unusedVariables false
set_option linter.unusedSimpArgs false
set_option linter.unusedSectionVars false
set_option maxRecDepth 100000
set_option maxHeartbeats 1200000
open Bool renaming true_and->Pa,eq_iff_iff->Pb
open Int renaming reduceEq->Pd,ofNat_lt->Pe
open List renaming take_left->Pf,getElem?_eq_getElem->Pg,length_cons->Ph,length_map->Pi,length_append->Pj,take_length->Pk,length_nil->Pl,map_map->Pm
open Nat renaming le_refl->Pn,pow_succ->Po
namespace Go.Proofs.YtnhphlmblenapaaGreatDoor
open Go.RowKit
def c9:Cd:=sq [oM 2 (.mv (.k .nil)),oI 3 0,oI 4 0] [0] (sq [oV 10 0,oM 11 (.call 23 [.t 10,.k (.fn 24 [])]),oV 9 11,ZX 12 9 0,ZX 13 9 1,ZX 14 9 2,oV 5 12,oV 6 13,oV 7 14] [5,6,7] (.seq (sq [oV 15 7,Wn 16 15 0] [5,6,7,16] (.cond (.t 16) (sq [oV 17 6,oV 18 7,oM 2 (.mv (.k .nil)),oV 3 17,oV 4 18] [2,3,4] .ret) .skip)) (.seq (sq [oV 19 5,ZC 20 27 19,oV 8 20] [5,8] (sq [oV 21 8,Wn 22 21 0] [5,8,
 22] (.cond (.t 22) (sq [oV 23 8,oM 2 (.mv (.k .nil)),oI 3 0,oV 4 23] [2,3,4] .ret) .skip))) (sq [oV 24 5,oV 2 24,oI 3 0,oI 4 0] [2,3,4] .ret))))
def rs9:List RV:=[.t 2 false,.t 3 false,.t 4 false]
theorem k9:aP G.tab Tryz.f9 1 c9 rs9=true:=by kernel_rfl
def c12:Cd:=sq [oM 2 (.new 32 zz5),oI 3 0,oI 4 0] [0,2] (sq [oV 10 0,oM 11 (.call 32 [.t 10,.k (.fn 33 [])]),oV 9 11,ZX 12 9 0,ZX 13 9 1,ZX 14 9 2,oM 5 (.new 32 zz5),oS 4 5 12,oV 6 13,oV 7 14] [2,5,6,7] (.seq (sq [oV 15 7,Wn 16 15 0] [2,5,6,7,16] (.cond (.t 16) (sq [oM 17 (.bld zz5 []),oV 18 6,oV 19 7,oS 4 2 17,oV 3 18,oV 4 19] [2,3,4] .ret) .skip)) (.seq (sq [ZM 20 4 5,ZC 21 37 20,oV 8 21] [2,5,
 8] (.seq (.ops [oV 22 8,Wn 23 22 0] [2,5,8,23]) (.cond (.t 23) (sq [oM 24 (.bld zz5 []),oV 25 8,oS 4 2 24,oI 3 0,oV 4 25] [2,3,4] .ret) .skip))) (sq [ZM 26 4 5,oS 4 2 26,oI 3 0,oI 4 0] [2,3,4] .ret))))
def Aa:List RV:=[.c 2 4 true,.t 3 false,.t 4 false]
theorem k12:aP G.tab Tryz.f12 1 c12 Aa=true:=by kernel_rfl
def c15:Cd:=sq [oM 2 (.mv (.k .nil)),oI 3 0,oI 4 0] [0] (sq [oV 13 0,oM 14 (.call 41 [.t 13,.k (.fn 42 [])]),oV 12 14,ZX 15 12 0,ZX 16 12 1,ZX 17 12 2,oV 5 15,oV 6 16,oV 7 17] [5,6,7] (.seq (sq [oV 18 7,Wn 19 18 0] [5,6,7,19] (.cond (.t 19) (sq [oV 20 6,oV 21 7,oM 2 (.mv (.k .nil)),oV 3 20,oV 4 21] [2,3,4] .ret) .skip)) (.seq (sq [oV 22 5,ZN 23 22,oI 24 0] [5,22,23,
 24] (.block 0 (.loop (sq [Yl 25 24 23] [5,22,23,24,25] (.seq (.cond (.t 25) .skip (.exit 0)) (.seq (.block 1 (sq [ZI 26 4 22 24,ZM 27 4 26,oM 9 (.new 32 zz5),oS 4 9 27] [5,9,22,23,24] (sq [ZM 28 4 9,ZC 29 37 28,oV 10 29] [5,10,22,23,24] (sq [oV 30 10,Wn 31 30 0] [5,10,22,23,24,31] (.cond (.t 31) (sq [oV 32 10,oM 2 (.mv (.k .nil)),oI 3 0,oV 4 32] [2,3,4] .ret) .skip))))) (.ops [Wa 33 24 1,
 oV 24 33] [5,22,23,24]))))))) (.seq (sq [oV 34 5,ZC 35 18 34,oV 11 35] [5,11] (sq [oV 36 11,Wn 37 36 0] [5,11,37] (.cond (.t 37) (sq [oV 38 11,oM 2 (.mv (.k .nil)),oI 3 0,oV 4 38] [2,3,4] .ret) .skip))) (sq [oV 39 5,oV 2 39,oI 3 0,oI 4 0] [2,3,4] .ret)))))
def CO:List RV:=[.t 2 false,.t 3 false,.t 4 false]
theorem k15:aP G.tab Tryz.f15 1 c15 CO=true:=by kernel_rfl
def c24:Cd:=sq [oM 2 (.mv (.k .nil))] [0] (sq [oV 3 0,oV 4 0,oM 5 (.mkbd 26 [.t 4]),ZD 6 25 3 5,oV 2 6] [2] .ret)
def N0:List RV:=[.t 2 false]
theorem k24:aP G.tab Tryz.f24 1 c24 N0=true:=by kernel_rfl
def c33:Cd:=sq [oM 2 (.new 32 zz5)] [0,2] (sq [oV 4 0,ZC 5 34 4,oM 3 (.new 32 zz5),oS 4 3 5] [0,2,3] (.seq (sq [oV 6 0,ZC 7 35 6] [0,2,3,7] (.cond (.t 7) (.ops [oV 8 0,ZC 9 36 8] [2,3]) .skip)) (sq [ZM 10 4 3,oS 4 2 10] [2] .ret)))
def Mk:List RV:=[.c 2 4 true]
theorem k33:aP G.tab Tryz.f33 1 c33 Mk=true:=by kernel_rfl
def c42:Cd:=sq [oM 2 (.mv (.k .nil))] [0] (sq [oV 3 0,oV 4 0,oM 5 (.mkbd 34 [.t 4]),ZD 6 43 3 5,oV 2 6] [2] .ret)
def OS:List RV:=[.t 2 false]
theorem k42:aP G.tab Tryz.f42 1 c42 OS=true:=by kernel_rfl
def c25:Cd:=sq [oM 4 (.mv (.k .nil))] [0,1] (sq [oM 5 (.nilo 54 12)] [0,1,5] (.seq (.block 0 (.loop (.seq (sq [oV 6 0,ZC 7 35 6] [0,1,5,7] (.cond (.t 7) (.skip) (.exit 0))) (.block 1 (.ops [oM 8 (.mvo 5),oV 9 1,oM 10 (.callv (.t 9) []),oM 11 (.mks 54 12 [.t 10]),oM 12 (.app 54 12 216 8 (.t 11)),oM 5 (.mvo 12)] [0,1,5]))))) (sq [oV 13 5,oV 4 13] [4] .ret)))
def Nk:List RV:=[.t 4 false]
theorem k25:aP G.tab Tryz.f25 2 c25 Nk=true:=by kernel_rfl
def c43:Cd:=sq [oM 4 (.mv (.k .nil))] [0,1] (sq [oM 5 (.nilo 32 4)] [0,1,5] (.seq (.block 0 (.loop (.seq (sq [oV 6 0,ZC 7 35 6] [0,1,5,7] (.cond (.t 7) (.skip) (.exit 0))) (.block 1 (.ops [oM 8 (.mvo 5),oV 9 1,oM 10 (.callv (.t 9) []),oM 11 (.mks 32 4 [.t 10]),oM 12 (.app 32 4 80 8 (.t 11)),oM 5 (.mvo 12)] [0,1,5]))))) (sq [oV 13 5,oV 4 13] [4] (.ret))))
def NH:List RV:=[.t 4 false]
theorem k43:aP G.tab Tryz.f43 2 c43 NH=true:=by kernel_rfl
def c23:CdD:=.seq (.ops [oM 4 (.new 23 [.nil]),oM 5 (.new 3 zz9),oM 6 (.new 24 zz9)] [0,1,4,5,6]) (.seq (.ops [oV 9 0,ZC 10 58 9,oV 8 10,ZX 11 8 0,ZX 12 8 1,ZX 13 8 2,oV 7 11,oS 1 5 12,oS 1 6 13] [1,4,5,6,7]) (.seq (.seq (.ops [ZL 14 1 6,Wn 15 14 0] [1,4,5,6,7,15]) (.cond (.t 15) (.seq (.drawg [(ZL 16 1 4,.calm 0 0),(ZL 17 1 5,.calm 0 1),(ZL 18 1 6,.calm 0 2),(oS 1 4 16,.act),(oS 1 5 17,.act),
 (oS 1 6 18,.act)] [4,5,6]) .ret) .skip)) (.dfr 19 59 [.t 4,.t 5,.t 6] (.seq (.ops [oV 20 1,oV 21 7,oM 22 (.bld FK [(0,1,.t 21)]),ZB 23 103 22,oM 24 (.callv (.t 20) [.t 23]),oS 1 4 24,⟨none,.sto 1 (.t 5) (kI 0),none⟩,⟨none,.sto 1 (.t 6) (kI 0),none⟩] [4,5,6]) .ret))))
def sd:List RV:=[.c 4 1 false,.c 5 1 false,.c 6 1 false]
theorem k23:pO G.tab Tryz.f23 2 c23 sd=true:=by kernel_rfl
def c32:CdD:=.seq (.ops [oM 4 (.new 32 zz5),oM 5 (.new 3 zz9),oM 6 (.new 24 zz9)] [0,1,4,5,6]) (.seq (.ops [oV 9 0,ZC 10 58 9,oV 8 10,ZX 11 8 0,ZX 12 8 1,ZX 13 8 2,oV 7 11,oS 1 5 12,oS 1 6 13] [1,4,5,6,7]) (.seq (.seq (.ops [ZL 14 1 6,Wn 15 14 0] [1,4,5,6,7,15]) (.cond (.t 15) (.seq (.drawg [(ZM 16 4 4,.calm 0 0),(ZL 17 1 5,.calm 0 1),(ZL 18 1 6,.calm 0 2),(oS 4 4 16,.act),(oS 1 5 17,.act),
 (oS 1 6 18,.act)] [4,5,6]) .ret) (.skip))) (.dfr 19 81 [.t 4,.t 5,.t 6] (.seq (.ops [oV 20 1,oV 21 7,oM 22 (.bld FK [(0,1,.t 21)]),ZB 23 103 22,oM 24 (.callv (.t 20) [.t 23]),oS 4 4 24,⟨none,.sto 1 (.t 5) (kI 0),none⟩,⟨none,.sto 1 (.t 6) (kI 0),none⟩] [4,5,6]) .ret))))
def rV:List RV:=[.c 4 4 true,.c 5 1 false,.c 6 1 false]
theorem k32:pO G.tab Tryz.f32 2 c32 rV=true:=by kernel_rfl
def c41:CdD:=.seq (.ops [oM 4 (.new 36 [.nil]),oM 5 (.new 3 zz9),oM 6 (.new 24 zz9)] [0,1,4,5,6]) (.seq (.ops [oV 9 0,ZC 10 58 9,oV 8 10,ZX 11 8 0,ZX 12 8 1,ZX 13 8 2,oV 7 11,oS 1 5 12,oS 1 6 13] [1,4,5,6,7]) (.seq (.seq (.ops [ZL 14 1 6,Wn 15 14 0] [1,4,5,6,7,15]) (.cond (.t 15) (.seq (.drawg [(ZL 16 1 4,.calm 0 0),(ZL 17 1 5,.calm 0 1),(ZL 18 1 6,.calm 0 2),(oS 1 4 16,.act),(oS 1 5 17,.act),
 (oS 1 6 18,.act)] [4,5,6]) .ret) .skip)) (.dfr 19 91 [.t 4,.t 5,.t 6] (.seq (.ops [oV 20 1,oV 21 7,oM 22 (.bld FK [(0,1,.t 21)]),ZB 23 103 22,oM 24 (.callv (.t 20) [.t 23]),oS 1 4 24,⟨none,.sto 1 (.t 5) (kI 0),none⟩,⟨none,.sto 1 (.t 6) (kI 0),none⟩] [4,5,6]) .ret))))
def sx:List RV:=[.c 4 1 false,.c 5 1 false,.c 6 1 false]
theorem k41:pO G.tab Tryz.f41 2 c41 sx=true:=by kernel_rfl
def c59:CdR:=.seq (.reg 7 [] [0,1,2,7]) (.block 0 (.seq (.ops [oM 9 (.nif false (.t 7))] [0,1,2,7,9]) (.cond (.t 9) (.ops [oV 3 7] []) (.seq (.ops [oM 10 (.tas 101 (.agg zz7) (.t 7)),ZX 11 10 1,ZX 12 10 0] [0,1,2,7,11,12]) (.cond (.t 11) (.seq (.ops [oM 4 (.new 101 zz7),oS 2 4 12] [0,1,2,4]) (.seq (.ops [oM 5 (.mv (.k .nil))] [0,1,2,4,5]) (.drawg [(oV 13 5,.free 0),(ZF 14 1 4,.free 0),(ZL 15 1 14,
 .calm 0 1),(ZF 16 0 4,.free 0),(ZL 17 1 16,.calm 0 2),(oS 1 0 13,.act),(oS 1 1 15,.act),(oS 1 2 17,.act)] []))) (.seq (.ops [oV 6 7] [6]) (.ops [oV 8 6,⟨none,.pan (.t 8),none⟩] [])))))))
theorem k59:oU G.tab Tryz.f59 3 c59=true:=by kernel_rfl
def c81:CdR:=.seq (.reg 7 [] [0,1,2,7]) (.block 0 (.seq (.ops [oM 9 (.nif false (.t 7))] [0,1,2,7,9]) (.cond (.t 9) (.ops [oV 3 7] []) (.seq (.ops [oM 10 (.tas 101 (.agg zz7) (.t 7)),ZX 11 10 1,ZX 12 10 0] [0,1,2,7,11,12]) (.cond (.t 11) (.seq (.ops [oM 4 (.new 101 zz7),oS 2 4 12] [0,1,2,4]) (.seq (.ops [oM 5 (.new 32 zz5)] [0,1,2,4,5]) (.drawg [(ZM 13 4 5,.calm 0 0),(ZF 14 1 4,.free 0),
 (ZL 15 1 14,.calm 0 1),(ZF 16 0 4,.free 0),(ZL 17 1 16,.calm 0 2),(oS 4 0 13,.act),(oS 1 1 15,.act),(oS 1 2 17,.act)] []))) (.seq (.ops [oV 6 7] [6]) (.ops [oV 8 6,⟨none,.pan (.t 8),none⟩] [])))))))
theorem k81:oU G.tab Tryz.f81 3 c81=true:=by kernel_rfl
def c91:CdR:=.seq (.reg 7 [] [0,1,2,7]) (.block 0 (.seq (.ops [oM 9 (.nif false (.t 7))] [0,1,2,7,9]) (.cond (.t 9) (.ops [oV 3 7] []) (.seq (.ops [oM 10 (.tas 101 (.agg zz7) (.t 7)),ZX 11 10 1,ZX 12 10 0] [0,1,2,7,11,12]) (.cond (.t 11) (.seq (.ops [oM 4 (.new 101 zz7),oS 2 4 12] [0,1,2,4]) (.seq (.ops [oM 5 (.mv (.k .nil))] [0,1,2,4,5]) (.drawg [(oV 13 5,.free 0),(ZF 14 1 4,.free 0),(ZL 15 1 14,
 .calm 0 1),(ZF 16 0 4,.free 0),(ZL 17 1 16,.calm 0 2),(oS 1 0 13,.act),(oS 1 1 15,.act),(oS 1 2 17,.act)] []))) (.seq (.ops [oV 6 7] [6]) (.ops [oV 8 6,⟨none,.pan (.t 8),none⟩] [])))))))
theorem k91:oU G.tab Tryz.f91 3 c91=true:=by kernel_rfl
def c37:Cd:=sq [ZB 1 32 0,oI 2 0] [1] (.seq (sq [ZM 7 4 1,ZC 8 45 7,oV 3 8] [1,3] (sq [oV 9 3,Wn 10 9 0] [1,3,10] (.cond (.t 10) (sq [oV 11 3,oV 2 11] [2] .ret) .skip))) (.seq (sq [ZF 12 3 1,ZL 13 1 12,ZN 14 13,oI 15 0] [13,14,15] (.block 0 (.loop (sq [Yl 16 15 14] [13,14,15,16] (.seq (.cond (.t 16) .skip (.exit 0)) (.seq (.block 1 (sq [ZI 17 2 13 15,ZM 18 2 17,oM 5 (.new 46 zV),oS 2 5 18] [5,
 13,14,15] (sq [ZF 19 1 5,ZL 20 1 19,ZC 21 27 20,oV 6 21] [6,13,14,15] (sq [oV 22 6,Wn 23 22 0] [6,13,14,15,23] (.cond (.t 23) (sq [oV 24 6,oV 2 24] [2] .ret) .skip))))) (.ops [Wa 25 15 1,oV 15 25] [13,14,15]))))))) (sq [oI 2 0] [2] .ret)))
def OW:List RV:=[.t 2 false]
theorem k37:aP G.tab Tryz.f37 1 c37 OW=true:=by kernel_rfl
def c35:Cd:=sq [oM 2 (.mv kF)] [0] (.seq (.draw [oV 3 0,ZK 4 3,ZF 5 1 4,ZL 6 1 5,oV 7 0,ZK 8 7,ZF 9 0 8,ZL 10 1 9,ZN 11 10,Yl 12 6 11,oV 2 12] [2]) .ret)
def On:List RV:=[.t 2 false]
theorem k35:aP G.tab Tryz.f35 1 c35 On=true:=by kernel_rfl
def c36:Cd:=.seq (sq [oV 2 0,ZC 3 35 2] [0,3] (.cond (.t 3) (.ops [oV 4 0,oV 5 0,ZK 6 5,ZF 7 1 6,ZL 8 1 7,oM 9 (.call 87 [.t 4,.k (.d (.lit (.int .i64 5))),.t 8])] [0]) (.skip))) (.ops [oV 10 0,oV 11 0,ZK 12 11,ZF 13 1 12,ZL 14 1 13,oM 15 (.call 87 [.t 10,.k (.d (.lit (.int .i64 6))),.t 14])] [])
def M9:List RV:=[]
theorem k36:aP G.tab Tryz.f36 1 c36 M9=true:=by kernel_rfl
def c87:Cd:=sq [oI 6 0] [0,1,2,6] (.seq (sq [oV 8 0,ZK 9 8,ZF 10 0 9,ZL 11 1 10,ZN 12 11,oV 7 12] [0,1,2,6,7] (sq [oV 13 7,Wg 14 13 0] [0,1,2,6,7,14] (.cond (.t 14) (.ops [oV 15 0,ZK 16 15,ZF 17 0 16,ZL 18 1 17,oV 19 2,oV 20 7,Ws 21 20 1,oM 22 (.mx false (.t 19) (.t 21)),ZI 23 4 18 22,ZF 24 3 23,ZL 25 1 24,oV 6 25] [1,6]) .skip))) (.ops [oV 26 1,oV 27 6,oM 28 (.bld zz7 [(0,1,.t 26),(1,1,.t 27)]),
 oM 29 (.mki 101 (.t 28)),⟨none,.pan (.t 29),none⟩] []))
def M6:List RV:=[]
theorem k87:aP G.tab Tryz.f87 3 c87 M6=true:=by kernel_rfl
def c175:Cd:=sq [oM 6 (.mv kF)] [0,1,2] (.seq (.draw [oV 7 0,ZC 8 35 7,oV 9 8,oG 10 9 (.mv (.t 0)),oG 11 9 (zK 10),oG 12 9 (zF 0 11),oG 13 9 (zL 1 12),oG 14 9 (.mv (.t 0)),oG 15 9 (zK 14),oG 16 9 (zF 1 15),oG 17 9 (zL 1 16),oG 18 9 (zI 4 13 17),oG 19 9 (zF 0 18),oG 20 9 (zL 1 19),oG 21 9 (.mv (.t 1)),oG 22 9 (ye 20 21),ZQ 23 9 22,oV 24 23,oG 25 24 (.mv (.t 0)),oG 26 24 (zK 25),oG 27 24 (zF 0 26),
 oG 28 24 (zL 1 27),oG 29 24 (.mv (.t 0)),oG 30 24 (zK 29),oG 31 24 (zF 1 30),oG 32 24 (zL 1 31),oG 33 24 (zI 4 28 32),oG 34 24 (zF 2 33),oG 35 24 (zL 1 34),oG 36 24 (.mv (.t 2)),oG 37 24 (ye 35 36),ZQ 38 24 37,oV 6 38] [6]) .ret)
def K1:List RV:=[.t 6 false]
theorem Oq:aP G.tab Tryz.f175 3 c175 K1=true:=by kernel_rfl
def Lv:Cd:=sq [oM 6 (.mv kF)] [0,1,2] (sq [oV 8 0,oV 9 1,oV 10 2,ZE 11 175 8 9 10,oV 7 11] [0,7] (.seq (sq [oV 12 7] [0,7,12] (.cond (.t 12) (.ops [oV 13 0,ZK 14 13,ZF 15 1 14,ZL 16 1 15,Wa 17 16 1,ZK 18 13,ZF 19 1 18,oS 1 19 17] [7]) (.skip))) (sq [oV 20 7,oV 6 20] [6] .ret)))
def LF:List RV:=[.t 6 false]
theorem Oa:aP G.tab Tryz.f117 3 Lv LF=true:=by kernel_rfl
def c60:Cd:=sq [oM 4 (.mv kF)] [0,1] (sq [oV 5 0,oV 6 1,oM 7 (.call 117 [.t 5,.k (.d (.lit (.int .i64 2))),.t 6]),oV 4 7] [4] .ret)
def Oj:List RV:=[.t 4 false]
theorem k60:aP G.tab Tryz.f60 2 c60 Oj=true:=by kernel_rfl
def KQ:Cd:=sq [oM 4 (.mv kF)] [0,1] (sq [oV 5 0,oV 6 1,oM 7 (.call 117 [.t 5,.k (.d (.lit (.int .i64 4))),.t 6]),oV 4 7] [4] .ret)
def Jq:List RV:=[.t 4 false]
theorem Na:aP G.tab Tryz.f121 2 KQ Jq=true:=by kernel_rfl
def c84:Cd:=sq [oV 4 0,oV 5 1,ZD 6 121 4 5,ZU 7 6] [0,7] (.cond (.t 7) (.ops [oV 8 0,ZC 9 36 8] []) .skip)
def Ow:List RV:=[]
theorem k84:aP G.tab Tryz.f84 2 c84 Ow=true:=by kernel_rfl
def c82:Cd:=sq [oV 4 0,oV 5 1,ZD 6 60 4 5,ZU 7 6] [0,7] (.cond (.t 7) (.ops [oV 8 0,ZC 9 36 8] []) .skip)
def OH:List RV:=[]
theorem k82:aP G.tab Tryz.f82 2 c82 OH=true:=by kernel_rfl
def KH:Cd:=sq [oM 4 (.new 121 zz2)] [0,1,4] (.seq (.seq (.draw [oV 5 0,ZC 6 35 5,ZU 7 6,oV 8 7,oH 9 8 (.mv (.t 0)),oH 10 8 (zK 9),oH 11 8 (zF 0 10),oH 12 8 (zL 1 11),oH 13 8 (.mv (.t 0)),oH 14 8 (zK 13),oH 15 8 (zF 1 14),oH 16 8 (zL 1 15),oH 17 8 (zI 4 12 16),oH 18 8 (zF 0 17),oH 19 8 (zL 1 18),oH 20 8 (.mv (.t 1)),oH 21 8 (yn 19 20),ZP 22 8 21] [0,4,22]) (.cond (.t 22) (.ops [oV 23 0,
 ZC 24 36 23] [0,4]) .skip)) (sq [oV 25 0,ZK 26 25,ZF 27 1 26,ZL 28 1 27,Wa 29 28 1,ZK 30 25,ZF 31 1 30,oS 1 31 29] [0,4] (.seq (.drawg [(oV 32 0,.free 0),(ZK 33 32,.free 0),(ZF 34 0 33,.free 0),(ZL 35 1 34,.calm 0 0),(oV 36 0,.free 0),(ZK 37 36,.free 0),(ZF 38 1 37,.free 0),(ZL 39 1 38,.calm 0 0),(Ws 40 39 1,.free 0),(ZI 41 4 35 40,.free 0),(ZM 42 4 41,.calm 0 0),(oS 4 4 42,.act)] [4]) .ret)))
def GG:List RV:=[.c 4 4 true]
theorem NF:aP G.tab Tryz.f139 2 KH GG=true:=by kernel_rfl
def c83:Cd:=sq [oM 2 (.mv (kS ⟨#[]⟩))] [0] (sq [oV 3 0,oM 4 (.call 139 [.t 3,.k (.d (.lit (.int .i64 1)))]),oM 5 (.fld 2 1 false (.t 4)),oV 2 5] [2] .ret)
def Me:List RV:=[.t 2 false]
theorem k83:aP G.tab Tryz.f83 1 c83 Me=true:=by kernel_rfl
def Lt:Cd:=sq [oI 2 0] [0] (sq [oV 3 0,oM 4 (.call 139 [.t 3,.k (.d (.lit (.int .i64 3)))]),oM 5 (.fld 1 1 false (.t 4)),oV 2 5] [2] .ret)
def GL:List RV:=[.t 2 false]
theorem Nn:aP G.tab Tryz.f177 1 Lt GL=true:=by kernel_rfl
def JA:Cd:=sq [oM 2 (.new 50 zz0)] [0,2] (.seq (.drawg [(oV 7 0,.free 0),(ZK 8 7,.free 0),(ZF 9 0 8,.free 0),(ZL 10 1 9,.calm 0 1),(oV 11 0,.free 0),(ZK 12 11,.free 0),(ZF 13 1 12,.free 0),(ZL 14 1 13,.calm 0 1),(ZD 15 176 10 14,.calm 0 1),(oV 6 15,.free 0),(ZX 16 6 0,.free 0),(ZX 17 6 1,.free 0),(ZX 18 6 2,.free 0),(oM 3 (.new 50 zz0),.act),(oS 4 3 16,.act),(oV 4 17,.free 2),(oV 5 18,
 .free 2)] [0,2,3,4,5]) (.seq (sq [oV 19 5] [0,2,3,4,5,19] (.block 0 (sq [We 24 19 0,oV 23 24] [0,2,3,4,5,19,23] (.cond (.t 23) (.ops [oV 25 0,oV 26 4,ZK 27 25,ZF 28 1 27,oS 1 28 26] [2,3]) (.seq (sq [We 30 19 5,oV 29 30] [0,2,3,4,5,19,29] (.cond (.t 29) .skip (sq [We 31 19 3,oV 29 31] [0,2,3,4,5,19,29] (.cond (.t 29) .skip (.ops [We 32 19 6,oV 29 32] [0,2,3,4,5,
 29]))))) (.cond (.t 29) (.ops [oV 33 0,oV 34 5,oV 35 4,ZE 36 87 33 34 35] [2,3]) (.ops [oV 20 5,oM 21 (.bld zz7 [(0,1,.t 20),(1,1,.k (.d (.lit (.int .i64 0))))]),oM 22 (.mki 101 (.t 21)),⟨none,.pan (.t 22),none⟩] [2,3]))))))) (sq [ZM 37 4 3,oS 4 2 37] [2] .ret)))
def xY:List RV:=[.c 2 4 true]
theorem Oz:aP G.tab Tryz.f118 1 JA xY=true:=by kernel_rfl
def L4:Cd:=sq [oM 2 (.mv (kS ⟨#[]⟩))] [0] (sq [oV 4 0,ZC 5 83 4,oV 3 5] [0,3] (.seq (sq [oV 6 0,oM 7 (.call 121 [.t 6,.k (.d (.lit (.string ⟨#[91]⟩)))])] [0,3,7] (.cond (.t 7) (sq [oV 8 3,oV 9 0,ZC 10 177 9,ZC 11 159 10,oM 12 (.bin .add (kS ⟨#[91]⟩) (.t 11)),oM 13 (.bin .add (.t 12) (kS ⟨#[93]⟩)),Ya 14 8 13,oV 3 14] [0,3] (.ops [oV 15 0,oM 16 (.call 84 [.t 15,
 .k (.d (.lit (.string ⟨#[93]⟩)))])] [3])) .skip)) (sq [oV 17 3,oV 2 17] [2] .ret)))
def KR:List RV:=[.t 2 false]
theorem Nv:aP G.tab Tryz.f119 1 L4 KR=true:=by kernel_rfl
def L8:Cd:=sq [oM 2 (.mv (.k .nil))] [0] (sq [oV 4 0,ZC 5 119 4,oM 6 (.mkso 9 1 [.t 5]),oM 3 (.mvo 6)] [0,3] (.seq (.block 0 (.loop (.seq (sq [oV 7 0,oM 8 (.call 121 [.t 7,.k (.d (.lit (.string ⟨#[44]⟩)))])] [0,3,8] (.cond (.t 8) .skip (.exit 0))) (.block 1 (.ops [oM 9 (.mvo 3),oV 10 0,ZC 11 119 10,oM 12 (.mks 9 1 [.t 11]),oM 13 (.app 9 1 16 9 (.t 12)),oM 3 (.mvo 13)] [0,3]))))) (sq [oV 14 3,
 oV 2 14] [2] .ret)))
def LG:List RV:=[.t 2 false]
theorem Ox:aP G.tab Tryz.f122 1 L8 LG=true:=by kernel_rfl
def KP:Cd:=sq [oM 2 (.new 56 zz8)] [0,2] (sq [oM 3 (.new 56 zz8)] [0,2,3] (sq [oV 4 0,ZC 5 177 4,ZF 6 0 3,oS 1 6 5] [0,2,3] (sq [ZF 7 0 3,ZL 8 1 7,ZF 9 1 3,oS 1 9 8] [0,2,3] (.seq (sq [oV 10 0,oM 11 (.call 121 [.t 10,.k (.d (.lit (.string ⟨#[46,46]⟩)))])] [0,2,3,11] (.cond (.t 11) (.ops [oV 12 0,ZC 13 177 12,ZF 14 1 3,oS 1 14 13] [0,2,3]) (.skip))) (sq [oV 15 0,oM 16 (.call 121 [.t 15,
 .k (.d (.lit (.string ⟨#[58,61]⟩)))]),ZF 17 3 3,oS 1 17 16] [0,2,3] (.seq (sq [ZF 18 3 3,ZL 19 1 18,ZU 20 19] [0,2,3,20] (.cond (.t 20) (.ops [oV 21 0,oM 22 (.call 84 [.t 21,.k (.d (.lit (.string ⟨#[58,47]⟩)))])] [0,2,3]) .skip)) (sq [oV 23 0,ZC 24 177 23,ZF 25 2 3,oS 1 25 24] [2,3] (sq [ZM 26 4 3,oS 4 2 26] [2] .ret))))))))
def GM:List RV:=[.c 2 4 true]
theorem Nz:aP G.tab Tryz.f120 1 KP GM=true:=by kernel_rfl
def c62:Cd:=sq [oM 2 (.new 54 zz1)] [0,2] (sq [oV 4 0,ZC 5 119 4,oM 6 (.bld zz1 [(0,1,.k (.d (.lit (.int .i64 3)))),(5,1,.t 5)]),oM 3 (.new 54 zz1),oS 12 3 6] [0,2,3] (sq [oV 7 0,oM 8 (.call 84 [.t 7,.k (.d (.lit (.string ⟨#[123]⟩)))])] [0,2,3] (.seq (.raw [ZF 9 7 3,oM 10 (.ldo (.t 9)),oV 11 0,ZC 12 120 11,oM 13 (.mks 56 4 [.t 12]),oM 14 (.app 56 4 32 10 (.t 13)),ZF 15 7 3,⟨none,.stoo (.t 15) 14,
 none⟩] [[],[0],[],[2],[3],[1,4,3],[0,1,2,3,4,5],[6,5,5,0,1,2,3,4,5]] [0,2,3]) (.seq (.block 0 (.loop (.seq (sq [oV 16 0,oM 17 (.call 121 [.t 16,.k (.d (.lit (.string ⟨#[44]⟩)))])] [0,2,3,17] (.cond (.t 17) .skip (.exit 0))) (.block 1 (.raw [ZF 18 7 3,oM 19 (.ldo (.t 18)),oV 20 0,ZC 21 120 20,oM 22 (.mks 56 4 [.t 21]),oM 23 (.app 56 4 32 19 (.t 22)),ZF 24 7 3,⟨none,.stoo (.t 24) 23,none⟩] [[],[0],
 [],[2],[3],[1,4,3],[0,1,2,3,4,5],[6,5,5,0,1,2,3,4,5]] [0,2,3]))))) (sq [oV 25 0,oM 26 (.call 84 [.t 25,.k (.d (.lit (.string ⟨#[125]⟩)))])] [0,2,3] (sq [oV 27 0,oM 28 (.call 84 [.t 27,.k (.d (.lit (.string ⟨#[59]⟩)))])] [2,3] (sq [ZM 29 12 3,oS 12 2 29] [2] .ret)))))))
def E0:List RV:=[.c 2 12 true]
theorem k62:aP G.tab Tryz.f62 1 c62 E0=true:=by kernel_rfl
def c63:Cd:=sq [oM 2 (.new 54 zz1)] [0,2] (sq [oV 4 0,oM 5 (.call 84 [.t 4,.k (.d (.lit (.string ⟨#[40]⟩)))])] [0,2] (sq [oV 6 0,ZC 7 118 6,oM 8 (.bld zz1 [(0,1,.k (.d (.lit (.int .i64 4)))),(1,4,.t 7)]),oM 3 (.new 54 zz1),oS 12 3 8] [0,2,3] (sq [oV 9 0,oM 10 (.call 84 [.t 9,.k (.d (.lit (.string ⟨#[41]⟩)))])] [0,2,3] (sq [oV 11 0,ZC 12 86 11,ZF 13 8 3,oS 1 13 12] [0,2,3] (.seq (sq [oV 14 0,
 oM 15 (.call 60 [.t 14,.k (.d (.lit (.string ⟨#[101,108,115,101]⟩)))])] [0,2,3,15] (.cond (.t 15) (.ops [oV 16 0,ZC 17 86 16,ZF 18 9 3,oS 1 18 17] [2,3]) .skip)) (sq [ZM 19 12 3,oS 12 2 19] [2] .ret))))))
def Jg:List RV:=[.c 2 12 true]
theorem k63:aP G.tab Tryz.f63 1 c63 Jg=true:=by kernel_rfl
def c64:Cd:=sq [oM 2 (.new 54 zz1)] [0,2] (sq [oV 4 0,ZC 5 83 4,oM 6 (.bld zz1 [(0,1,.k (.d (.lit (.int .i64 5)))),(6,1,.t 5)]),oM 3 (.new 54 zz1),oS 12 3 6] [0,2,3] (sq [oV 7 0,oM 8 (.call 82 [.t 7,.k (.d (.lit (.string ⟨#[105,110]⟩)))])] [0,2,3] (sq [oV 9 0,ZC 10 83 9,ZF 11 5 3,oS 1 11 10] [0,2,3] (sq [oV 12 0,ZC 13 86 12,ZF 14 8 3,oS 1 14 13] [2,3] (sq [ZM 15 12 3,oS 12 2 15] [2] .ret)))))
def Mb:List RV:=[.c 2 12 true]
theorem k64:aP G.tab Tryz.f64 1 c64 Mb=true:=by kernel_rfl
def c65:Cd:=sq [oM 2 (.new 54 zz1)] [0,2] (sq [oV 4 0,ZC 5 122 4,oM 6 (.bld zz1 [(0,1,.k (.d (.lit (.int .i64 6)))),(10,1,.t 5)]),oM 3 (.new 54 zz1),oS 12 3 6] [0,2,3] (sq [oV 7 0,oM 8 (.call 82 [.t 7,.k (.d (.lit (.string ⟨#[98,101,102,111,114,101]⟩)))])] [0,2,3] (sq [oV 9 0,ZC 10 122 9,ZF 11 11 3,oS 1 11 10] [0,2,3] (sq [oV 12 0,oM 13 (.call 84 [.t 12,.k (.d (.lit (.string ⟨#[59]⟩)))])] [2,
 3] (sq [ZM 14 12 3,oS 12 2 14] [2] .ret)))))
def JI:List RV:=[.c 2 12 true]
theorem k65:aP G.tab Tryz.f65 1 c65 JI=true:=by kernel_rfl
def c61:Cd:=sq [oM 4 (.new 54 zz1)] [0,1,4] (sq [oV 6 1,oV 7 0,ZC 8 118 7,oM 9 (.bld zz1 [(0,1,.t 6),(1,4,.t 8)]),oM 5 (.new 54 zz1),oS 12 5 9] [0,4,5] (sq [oV 10 0,oM 11 (.call 84 [.t 10,.k (.d (.lit (.string ⟨#[59]⟩)))])] [4,5] (sq [ZM 12 12 5,oS 12 4 12] [4] (.ret))))
def K3:List RV:=[.c 4 12 true]
theorem k61:aP G.tab Tryz.f61 2 c61 K3=true:=by kernel_rfl
def c26:Cd:=sq [oM 2 (.new 54 zz1)] [0,2] (.seq (.block 0 (sq [oV 4 0,oM 5 (.call 60 [.t 4,.k (.d (.lit (.string ⟨#[115,111,102,116]⟩)))]),oV 3 5] [0,2,3] (.cond (.t 3) (sq [oV 6 0,oM 7 (.call 61 [.t 6,.k (.d (.lit (.int .i64 2)))]),oS 12 2 7] [2] .ret) (sq [oV 9 0,oM 10 (.call 60 [.t 9,.k (.d (.lit (.string ⟨#[100,105,115,116]⟩)))]),oV 8 10] [0,2,8] (.cond (.t 8) (sq [oV 11 0,ZC 12 62 11,
 oS 12 2 12] [2] .ret) (sq [oV 14 0,oM 15 (.call 60 [.t 14,.k (.d (.lit (.string ⟨#[105,102]⟩)))]),oV 13 15] [0,2,13] (.cond (.t 13) (sq [oV 16 0,ZC 17 63 16,oS 12 2 17] [2] .ret) (sq [oV 19 0,oM 20 (.call 60 [.t 19,.k (.d (.lit (.string ⟨#[101,97,99,104]⟩)))]),oV 18 20] [0,2,18] (.cond (.t 18) (sq [oV 21 0,ZC 22 64 21,oS 12 2 22] [2] .ret) (sq [oV 24 0,oM 25 (.call 60 [.t 24,
 .k (.d (.lit (.string ⟨#[115,111,108,118,101]⟩)))]),oV 23 25] [0,2,23] (.cond (.t 23) (sq [oV 26 0,ZC 27 65 26,oS 12 2 27] [2] .ret) .skip))))))))))) (sq [oV 28 0,oM 29 (.call 61 [.t 28,.k (.d (.lit (.int .i64 1)))]),oS 12 2 29] [2] .ret))
def Io:List RV:=[.c 2 12 true]
theorem k26:aP G.tab Tryz.f26 1 c26 Io=true:=by kernel_rfl
def c86:Cd:=sq [oM 2 (.mv (.k .nil))] [0] (sq [oV 4 0,oM 5 (.call 84 [.t 4,.k (.d (.lit (.string ⟨#[123]⟩)))])] [0] (sq [oM 3 (.nilo 54 12)] [0,3] (.seq (.block 0 (.loop (.seq (sq [oV 6 0,oM 7 (.call 121 [.t 6,.k (.d (.lit (.string ⟨#[125]⟩)))]),ZU 8 7] [0,3,8] (.cond (.t 8) .skip (.exit 0))) (.block 1 (.ops [oM 9 (.mvo 3),oV 10 0,ZC 11 26 10,oM 12 (.mks 54 12 [.t 11]),
 oM 13 (.app 54 12 216 9 (.t 12)),oM 3 (.mvo 13)] [0,3]))))) (sq [oV 14 3,oV 2 14] [2] .ret))))
def O0:List RV:=[.t 2 false]
theorem k86:aP G.tab Tryz.f86 1 c86 O0=true:=by kernel_rfl
def Mh:Cd:=sq [oI 2 0] [0] (.seq (sq [oV 4 0,oM 5 (.call 121 [.t 4,.k (.d (.lit (.string ⟨#[91]⟩)))]),ZU 6 5] [0,6] (.cond (.t 6) (sq [oI 2 0] [2] (.ret)) .skip)) (sq [oV 7 0,ZC 8 177 7,oV 3 8] [0,3] (.seq (sq [oV 9 3,Wl 10 9 1] [0,3,10] (.cond (.t 10) (.ops [oV 11 0,oV 12 0,ZK 13 12,ZF 14 1 13,ZL 15 1 14,Ws 16 15 1,oM 17 (.call 87 [.t 11,.k (.d (.lit (.int .i64 5))),.t 16])] [0,
 3]) .skip)) (sq [oV 18 0,oM 19 (.call 84 [.t 18,.k (.d (.lit (.string ⟨#[93]⟩)))])] [3] (sq [oV 20 3,oV 2 20] [2] .ret)))))
def My:List RV:=[.t 2 false]
theorem OZ:aP G.tab Tryz.f198 1 Mh My=true:=by kernel_rfl
def KV:Cd:=sq [oM 4 (.new 74 zz6)] [0,1,4] (sq [oV 6 0,ZC 7 83 6,oV 8 1,oM 9 (.bld zz6 [(0,1,.t 7),(3,1,.t 8)]),oM 5 (.new 74 zz6),oS 5 5 9] [0,1,4,5] (.seq (.ops [oV 10 0,ZC 11 198 10,ZF 12 2 5,oS 1 12 11] [0,1,4,5]) (sq [oV 13 0,oM 14 (.call 84 [.t 13,.k (.d (.lit (.string ⟨#[58]⟩)))])] [0,1,4,5] (sq [oV 15 0,ZC 16 177 15,ZF 17 1 5,oS 1 17 16] [0,1,4,5] (.seq (sq [oV 18 1,We 19 18 0] [0,4,5,
 19] (.cond (.t 19) (sq [oV 20 0,oM 21 (.call 84 [.t 20,.k (.d (.lit (.string ⟨#[61]⟩)))])] [0,4,5] (.ops [oV 22 0,ZC 23 177 22,ZF 24 4 5,oS 1 24 23] [0,4,5])) (.skip))) (sq [oV 25 0,oM 26 (.call 84 [.t 25,.k (.d (.lit (.string ⟨#[59]⟩)))])] [4,5] (sq [ZM 27 5 5,oS 5 4 27] [4] .ret)))))))
def Ea:List RV:=[.c 4 5 true]
theorem OO:aP G.tab Tryz.f140 2 KV Ea=true:=by kernel_rfl
def c85:Cd:=sq [oM 2 (.mv (.k .nil))] [0] (sq [oM 3 (.nilo 74 5)] [0,3] (.block 0 (.loop (.block 1 (.block 2 (sq [oV 6 0,oM 7 (.call 60 [.t 6,.k (.d (.lit (.string ⟨#[114,97,110,100]⟩)))]),oV 5 7] [0,3,5] (.cond (.t 5) (.ops [oM 8 (.mvo 3),oV 9 0,oM 10 (.call 140 [.t 9,.k (.d (.lit (.int .i64 1)))]),oM 11 (.mks 74 5 [.t 10]),oM 12 (.app 74 5 48 8 (.t 11)),oM 3 (.mvo 12)] [0,3]) (sq [oV 14 0,
 oM 15 (.call 60 [.t 14,.k (.d (.lit (.string ⟨#[114,97,110,100,99]⟩)))]),oV 13 15] [0,3,13] (.cond (.t 13) (.ops [oM 16 (.mvo 3),oV 17 0,oM 18 (.call 140 [.t 17,.k (.d (.lit (.int .i64 2)))]),oM 19 (.mks 74 5 [.t 18]),oM 20 (.app 74 5 48 16 (.t 19)),oM 3 (.mvo 20)] [0,3]) (sq [oV 22 0,oM 23 (.call 60 [.t 22,.k (.d (.lit (.string ⟨#[115,116,97,116,101]⟩)))]),oV 21 23] [0,3,
 21] (.cond (.t 21) (.ops [oM 24 (.mvo 3),oV 25 0,oM 26 (.call 140 [.t 25,.k (.d (.lit (.int .i64 0)))]),oM 27 (.mks 74 5 [.t 26]),oM 28 (.app 74 5 48 24 (.t 27)),oM 3 (.mvo 28)] [0,3]) (sq [oV 4 3,oV 2 4] [2] .ret))))))))))))
def OK:List RV:=[.t 2 false]
theorem k85:aP G.tab Tryz.f85 1 c85 OK=true:=by kernel_rfl
def c34:Cd:=sq [oM 2 (.new 32 zz5)] [0,2] (sq [oV 5 0,oM 6 (.call 82 [.t 5,.k (.d (.lit (.string ⟨#[99,108,97,115,115]⟩)))])] [0,2] (sq [oV 7 0,ZC 8 83 7,oM 9 (.bld zz5 [(0,1,.t 8)]),oM 3 (.new 32 zz5),oS 4 3 9] [0,2,3] (.seq (sq [oV 10 0,oM 11 (.call 60 [.t 10,.k (.d (.lit (.string ⟨#[101,120,116,101,110,100,115]⟩)))])] [0,2,3,11] (.cond (.t 11) (.ops [oV 12 0,ZC 13 83 12,ZF 14 1 3,
 oS 1 14 13] [0,2,3]) .skip)) (sq [oV 15 0,oM 16 (.call 84 [.t 15,.k (.d (.lit (.string ⟨#[123]⟩)))])] [0,2,3] (sq [oV 17 0,ZC 18 85 17,ZF 19 2 3,oS 1 19 18] [0,2,3] (.seq (.block 0 (.loop (.seq (sq [oV 20 0,oM 21 (.call 60 [.t 20,.k (.d (.lit (.string ⟨#[99,111,110,115,116,114,97,105,110,116]⟩)))])] [0,2,3,21] (.cond (.t 21) .skip (.exit 0))) (.block 1 (sq [oV 22 0,ZC 23 83 22,
 oM 24 (.bld zV [(0,1,.t 23)]),oM 4 (.new 46 zV),oS 2 4 24] [0,2,3,4] (sq [oV 25 0,ZC 26 86 25,ZF 27 1 4,oS 1 27 26] [0,2,3,4] (.ops [ZF 28 3 3,oM 29 (.ldo (.t 28)),ZM 30 2 4,oM 31 (.mks 46 2 [.t 30]),oM 32 (.app 46 2 40 29 (.t 31)),ZF 33 3 3,⟨none,.stoo (.t 33) 32,none⟩] [0,2,3]))))))) (sq [oV 34 0,oM 35 (.call 84 [.t 34,.k (.d (.lit (.string ⟨#[125]⟩)))])] [2,3] (sq [ZM 36 4 3,
 oS 4 2 36] [2] .ret))))))))
def JS:List RV:=[.c 2 4 true]
theorem k34:aP G.tab Tryz.f34 1 c34 JS=true:=by kernel_rfl
def c8:Cd:=sq [oM 0 (.mv kF)] [] (sq [oM 11 (.call 12 [.k (.d (.lit (.string ⟨#[99,108,97,115,115,32,112,32,123,32,114,97,110,100,32,97,32,58,32,50,59,32,99,111,110,115,116,114,97,105,110,116,32,99,32,123,32,97,32,60,32,51,59,32,115,111,102,116,32,97,32,61,61,32,49,59,32,125,32,125]⟩)))]),oV 10 11,ZX 12 10 0,ZX 13 10 1,ZX 14 10 2,oM 1 (.new 32 zz5),oS 4 1 12,oV 2 13,oV 3 14] [1,2,
 3] (sq [oM 16 (.call 9 [.k (.d (.lit (.string ⟨#[100,105,115,116,32,97,32,123,32,48,32,58,61,32,50,44,32,49,32,46,46,32,51,32,58,47,32,54,32,125,59]⟩)))]),oV 15 16,ZX 17 15 0,ZX 18 15 1,ZX 19 15 2,oV 4 17,oV 5 18,oV 6 19] [1,2,3,4,5,6] (sq [oM 21 (.call 9 [.k (.d (.lit (.string ⟨#[97,32,60]⟩)))]),oV 20 21,ZX 22 20 0,ZX 23 20 1,ZX 24 20 2,oV 7 22,oV 8 23,oV 9 24] [1,2,3,4,5,6,8,9] (sq [ZF 25 2 1,
 ZL 26 1 25,ZN 27 26,We 28 27 1,oV 29 28,oG 30 29 (zF 3 1),oG 31 29 (zL 1 30),oG 32 29 (zN 31),oG 33 29 (we 32 1),ZQ 34 29 33,oV 35 34,oG 36 35 (zF 3 1),oG 37 35 (zL 1 36),oG 38 35 (.ia 2 (.t 37) (kI 0)),oG 39 35 (zF 1 38),oG 40 35 (zL 1 39),oG 41 35 (zN 40),oG 42 35 (we 41 2),ZQ 43 35 42,oV 44 43,oG 45 44 (.mv (.t 2)),oG 46 44 (we 45 0),ZQ 47 44 46,oV 48 47,oG 49 48 (.mv (.t 3)),
 oG 50 48 (we 49 0),ZQ 51 48 50,oV 52 51,oG 53 52 (.mv (.t 4)),oG 54 52 (zN 53),oG 55 52 (we 54 1),ZQ 56 52 55,oV 57 56,oG 58 57 (.mv (.t 4)),oG 59 57 (.ia 12 (.t 58) (kI 0)),oG 60 57 (zF 7 59),oG 61 57 (zL 1 60),oG 62 57 (zN 61),oG 63 57 (we 62 2),ZQ 64 57 63,oV 65 64,oG 66 65 (.mv (.t 4)),oG 67 65 (.ia 12 (.t 66) (kI 0)),oG 68 65 (zF 7 67),oG 69 65 (zL 1 68),oG 70 65 (.ia 4 (.t 69) (kI 1)),
 oG 71 65 (zM 4 70),⟨some 72,.bld zz8 [(0,1,.k (.d (.lit (.int .i64 1)))),(1,1,.k (.d (.lit (.int .i64 3)))),(2,1,.k (.d (.lit (.int .i64 6))))],(some (65,true))⟩,⟨some 73,.eqa false 56 [.i .i64,.i .i64,.i .i64,.b] (.t 71) (.t 72),(some (65,true))⟩,ZQ 74 65 73,oV 75 74,oG 76 75 (.mv (.t 5)),oG 77 75 (we 76 0),ZQ 78 75 77,oV 79 78,oG 80 79 (.mv (.t 6)),oG 81 79 (we 80 0),ZQ 82 79 81,oV 83 82,
 oG 84 83 (.mv (.t 8)),oG 85 83 (we 84 1),ZQ 86 83 85,oV 87 86,oG 88 87 (.mv (.t 9)),oG 89 87 (we 88 6),ZQ 90 87 89,oV 0 90] [0] .ret))))
def rs8:List RV:=[.t 0 false]
theorem k8:aP G.tab Tryz.f8 0 c8 rs8=true:=by kernel_rfl
def c21:Cd:=sq [ZB 1 32 0,oM 2 (.mv kF)] [1] (.seq (sq [ZM 4 4 1,ZC 5 45 4,Wn 6 5 0] [1,6] (.cond (.t 6) (.seq (.ops [oM 2 (.mv kF)] [2]) .ret) .skip)) (.seq (sq [oI 3 0] [1,3] (.block 0 (.loop (.seq (sq [oV 7 3,ZF 8 3 1,ZL 9 1 8,ZN 10 9,Yl 11 7 10] [1,3,11] (.cond (.t 11) .skip (.exit 0))) (.seq (.block 1 (sq [ZF 14 3 1,ZL 15 1 14,oV 16 3,ZI 17 2 15 16,ZF 18 1 17,ZL 19 1 18,ZC 20 27 19,
 Wn 21 20 0] [1,3,21] (.cond (.t 21) (sq [oM 2 (.mv kF)] [2] .ret) .skip))) (.ops [oV 12 3,Wa 13 12 1,oV 3 13] [1,3])))))) (sq [oM 2 (.mv kT)] [2] .ret)))
def c17:Cd:=sq [oM 4 (.mv kF)] [0,1] (.seq (sq [oV 6 0,ZN 7 6,oV 8 1,ZN 9 8,Yn 10 7 9] [0,1,10] (.cond (.t 10) (sq [oM 4 (.mv kF)] [4] .ret) .skip)) (.seq (sq [oI 5 0] [0,1,5] (.block 0 (.loop (.seq (sq [oV 11 5,oV 12 0,ZN 13 12,Yl 14 11 13] [0,1,5,14] (.cond (.t 14) .skip (.exit 0))) (.seq (.block 1 (.seq (.draw [oV 17 0,oV 18 5,ZI 19 4 17 18,ZM 20 4 19,oV 21 1,oV 22 5,ZI 23 4 21 22,ZM 24 4 23,
 ZD 25 14 20 24,ZU 26 25] [0,1,5,26]) (.cond (.t 26) (sq [oM 4 (.mv kF)] [4] .ret) .skip))) (.ops [oV 15 5,Wa 16 15 1,oV 5 16] [0,1,5])))))) (sq [oM 4 (.mv kT)] [4] .ret)))
def O8:List RV:=[.t 4 false]
theorem k17:aP G.tab Tryz.f17 2 c17 O8=true:=by kernel_rfl
def c6:Cd:=sq [oM 4 (.mv kF)] [0,1] (.seq (sq [oV 16 0,oM 17 (.len true (.t 16)),Wg 18 17 1500,oV 19 18,oH 20 19 (.mv (.t 1)),oH 21 19 (.len true (.t 20)),oH 22 19 (wg 21 1500),ZP 23 19 22] [0,1,23] (.cond (.t 23) (sq [oM 24 (.call 8 []),oV 4 24] [4] .ret) .skip)) (sq [oV 26 0,ZC 27 15 26,oV 25 27,ZX 28 25 0,ZX 29 25 1,ZX 30 25 2,oV 5 28,oV 6 29,oV 7 30] [0,1,5,7] (sq [oV 32 1,ZC 33 15 32,
 oV 31 33,ZX 34 31 0,ZX 35 31 1,ZX 36 31 2,oV 8 34,oV 9 35,oV 10 36] [0,1,5,7,8,10] (.seq (sq [oV 37 7,Wn 38 37 0,oV 39 38,oH 40 39 (.mv (.t 10)),oH 41 39 (wn 40 0),ZP 42 39 41] [0,1,5,7,8,10,42] (.cond (.t 42) (sq [oV 43 7,We 44 43 0,oV 45 44,oH 46 45 (.mv (.t 5)),oH 47 45 (zN 46),oH 48 45 (we 47 0),ZP 49 45 48,oV 50 49,oG 51 50 (.mv (.t 10)),oG 52 50 (we 51 0),oG 53 50 (.mv (.t 52)),
 oH 54 53 (.mv (.t 8)),oH 55 53 (zN 54),oH 56 53 (we 55 0),oG 57 50 (zP 53 56),ZQ 58 50 57,oV 59 58,oG 60 59 (.call 8 []),ZQ 61 59 60,oV 4 61] [4] .ret) .skip)) (sq [oM 11 (.nilo 32 4)] [0,1,5,8,11] (sq [oM 62 (.mvo 11),oV 63 5,oM 64 (.app 32 4 80 62 (.t 63)),oM 11 (.mvo 64)] [0,1,8,11] (sq [oM 65 (.mvo 11),oV 66 8,oM 67 (.app 32 4 80 65 (.t 66)),oM 11 (.mvo 67)] [0,1,11] (sq [oV 69 0,
 oM 70 (.bin .add (.t 69) (kS ⟨#[10]⟩)),oV 71 1,Ya 72 70 71,ZC 73 15 72,oV 68 73,ZX 74 68 0,ZX 75 68 1,ZX 76 68 2,oV 12 74,oV 13 75,oV 14 76] [11,12,13,14] (sq [oV 77 11,ZC 78 18 77,oV 15 78] [11,12,13,14,15] (.seq (sq [oV 79 15,Wn 80 79 0] [11,12,13,14,15,80] (.cond (.t 80) (sq [oV 81 12,ZN 82 81,We 83 82 0,oV 84 83,oG 85 84 (.mv (.t 13)),oG 86 84 (we 85 0),ZQ 87 84 86,oV 88 87,
 oG 89 88 (.mv (.t 14)),oG 90 88 (.mv (.t 15)),oG 91 88 (ye 89 90),ZQ 92 88 91,oV 93 92,oG 94 93 (.call 8 []),ZQ 95 93 94,oV 4 95] [4] .ret) (.skip))) (sq [oV 96 13,We 97 96 0,oV 98 97,oG 99 98 (.mv (.t 14)),oG 100 98 (we 99 0),ZQ 101 98 100,oV 102 101,oG 103 102 (.mv (.t 12)),oG 104 102 (.mv (.t 11)),oG 105 102 (zD 17 103 104),ZQ 106 102 105,oV 107 106,oG 108 107 (.call 8 []),ZQ 109 107 108,
 oV 4 109] [4] .ret)))))))))))
def rs6:List RV:=[.t 4 false]
theorem k6:aP G.tab Tryz.f6 2 c6 rs6=true:=by kernel_rfl
end Go.Proofs.YtnhphlmblenapaaGreatDoor
namespace Go.Proofs.YtnhphlmblenapaaGreatDoor
open Go.RowKit
def ll:List ByteArray:=aV.map bs
theorem FI{σ:LLV}{ρ:ac}{rs:List RV}{v:V}{l:LLV}(hb:ai σ.length σ=true)(h:aL (σ++l) ρ rs=some v)(hv:V.under σ.length v=true):fin σ.length rs (aO v σ) .ret ρ (σ++l):=
 aF hb h hv Pf ⟨rfl,rfl⟩
theorem w8(l:Bs)(σ:LLV):Fun G 96 [.d (ae (bs l))] σ (aO (.d (.lit (.bool (cX (bs l))))) σ):=
 oi Tryz.func96 (by kernel_rfl) (by kernel_rfl) trivial fun M bm pr w v hG hM h1=>by
  have hs:(bs l).size≤9223372036854775807:=by
   cases h1 with|d h=>cases h with|lit _ hf=>exact hf
  cases eo h1;exact fQ (bs l) w hs (oC hG.1 hM)
theorem Af(l:List ByteArray)(s:ByteArray)(hl:l.length≤1200000)(σ:LLV):Fun G 237 [.d (dB l),.d (ae s)] σ fun o σ'=>∃i:Int,o=.ret (.d (aa i))/\σ'=σ/\decide (0≤i)=inB s l:=by
 refine al Tryz.func237 N5 rfl fun hb hw=>?_;unfold Jp;simp -dsimp only[aw,seval,dB];refine aI [0,1,7,8] (R:=fun(j:Nat) ρ σ'=>ρ=[(0,.d (.sl (l.map fun s=>[ae s]))),(1,.d (ae s)),(7,aC .i64 l.length),(8,aC .i64 j)]/\σ'=σ/\inB s l=inB s (l.drop j)) l.length ⟨rfl,rfl,rfl⟩ ?_ _;rintro j ρ' σ' hj ⟨rfl,rfl,hr⟩;by_cases hlt:j<l.length
 .have hd:inB s (l.drop j)=(decide (l[j]=s)||inB s (l.drop (j+1))):=by rw[List.drop_eq_getElem_cons hlt];rfl
  by_cases he:l[j]=s
  .simp -dsimp only[aw,seval,Pe,hlt,decide_true,Pg hlt,decide_eq_true he.symm];rw[hd,decide_eq_true he]at hr;exact aF hb rfl rfl Pk ⟨j,rfl,rfl,by rw[hr,decide_eq_true (by omega)];rfl⟩
  .simp -dsimp only[aw,seval,Pe,hlt,decide_true,Pg hlt,decide_eq_false (Ne.symm he),aJ hlt (show l.length≤9223372036854775807 by omega)];rw[hd,decide_eq_false he,Bool.false_or]at hr;exact Nxt.same (Pn _) hb rfl ⟨rfl,rfl,hr⟩
 .simp -dsimp only[aw,seval,Pe,hlt];rw[List.drop_eq_nil_of_le (by omega)]at hr;exact aF hb rfl rfl Pk ⟨-1,rfl,rfl,by rw[hr];rfl⟩
theorem rS(l:List ByteArray)(s:ByteArray)(hl:l.length≤1200000)(σ:LLV):Fun G 201 [.d (dB l),.d (ae s)] σ (aO (.d (.lit (.bool (inB s l)))) σ):=by
 refine al Tryz.func201 Nw rfl fun hb hw=>?_;unfold MQ;simp -dsimp only[aw,seval];refine aE (Af l s hl _) fun o σ' ⟨i,h1,h2,h3⟩=>?_;subst h1;subst h2;simp -dsimp only[aw,seval,aZ,h3];exact av hb rfl rfl
theorem Gq(l:Bs):inB (bs l) ll=aV.contains l:=by
 unfold inB ll;rw[List.any_map,List.contains_eq_any_beq];congr 1;funext x;rw[Pb];simp only[Function.comp,decide_eq_true_eq,vj,beq_iff_eq];exact eq_comm
theorem wW(l:Bs)(σ:LLV):Fun G 333 [.d (ae (bs l))] σ (aO (.d (.lit (.bool (aV.contains l)))) σ):=by
 refine al Tryz.func333 N8 rfl fun hb hw=>?_;unfold K6;have hg:∀ρ,ev G ρ (.g 1)=.row [.sl (aV.map fun s=>[.lit (.string (bs s))])] 0:=fun _=>rfl;simp -dsimp only[aw,seval,hg];refine aj (rS ll (bs l) (by decide) _) ?_;rw[Gq];simp -dsimp only[aw,seval];exact av hb rfl rfl
theorem xN:∀(k u:Nat),u<10^(k+1)->(Lib.decDigits u).length≤k+1
 | 0,u,h=>by rw[Lib.decDigits,dif_pos (by simpa using h)];exact Pn _
 | k+1,u,h=>by
  rw[Lib.decDigits];split
  .simp
  .rw[Pj];have:=xN k (u/10) (by rw[Po]at h;omega);simp;omega
theorem sR(n:Int)(h0:0≤n)(h1:n≤2147483647):(Lib.itoa n).length≤10:=by
 unfold Lib.itoa;rw[if_neg (by omega)];exact xN 9 _ (by omega)
def gU(t:Tok):V:=.agg [.d (aa t.kind),.d (aa t.num),.d (ae t.text),.d (aa t.line)]
theorem Cu(n:Int)(l:Bs)(ln:Int)(h0:0≤n):bS ⟨3,n,bs l,ln⟩=(decide (n≤2147483647)&&decide (bs l=bs (Lib.itoa n))):=by
 have e:Lib.itoa n=Lib.decDigits n.toNat:=by unfold Lib.itoa;rw[if_neg (by omega)]
 unfold bS;rw[if_pos rfl,e,d6,Cy,decide_eq_true h0,Pa];show(decide (n≤2147483647)&&(l==Lib.decDigits n.toNat))=_;congr 1;rw[Pb];simp
theorem CD(n:Int)(l:Bs)(ln:Int)(h0:¬0≤n):bS ⟨3,n,bs l,ln⟩=false:=by
 unfold bS;rw[if_pos rfl,decide_eq_false h0];rfl
theorem Kc(n:Int)(l:Bs)(ln:Int):bS ⟨1,n,bs l,ln⟩=(decide (n=0)&&cX (bs l)):=rfl
theorem Js(n:Int)(l:Bs)(ln:Int):bS ⟨2,n,bs l,ln⟩=(decide (n=0)&&inB (bs l) dU):=rfl
theorem Jm(n:Int)(l:Bs)(ln:Int):bS ⟨4,n,bs l,ln⟩=(decide (n=0)&&aV.contains l):=by
 unfold bS;rw[if_neg (by show ¬(4:Int)=3;decide),if_neg (by show ¬(4:Int)=1;decide),if_neg (by show ¬(4:Int)=2;decide),if_pos rfl,d6]
theorem JF(k n:Int)(l:Bs)(ln:Int)(h1:¬k=1)(h2:¬k=2)(h3:¬k=3)(h4:¬k=4):bS ⟨k,n,bs l,ln⟩=false:=by
 unfold bS;rw[if_neg h3,if_neg h1,if_neg h2,if_neg h4]
theorem rM(k n:Int)(l:Bs)(ln:Int)(σ:LLV):Fun G 332 [gU ⟨k,n,bs l,ln⟩] σ (aO (.d (.lit (.bool (bS ⟨k,n,bs l,ln⟩)))) σ):=by
 unfold gU;refine al Tryz.func332 Of rfl fun hb hw=>?_;have hn:=Ic (xB (hw 0 (by simp)) 1 (by simp));unfold MH;by_cases h3:k=3
 .subst h3;by_cases h0:0≤n
  .rw[Cu n l ln h0];by_cases hm:n≤2147483647
   .simp -dsimp only[aw,seval,Pd,decide_true,decide_false,decide_eq_true h0,decide_eq_true hm];refine bp (qd n (by omega) (by omega) (by have:=sR n h0 hm;unfold maxLen;omega) _) ?_;simp -dsimp only[aw,seval,Cy];rw[decide_eq_true hm,Pa];exact aF hb rfl rfl Pf ⟨rfl,rfl⟩
   .simp -dsimp only[aw,seval,Pd,decide_true,decide_false,decide_eq_true h0,decide_eq_false hm];exact aF hb rfl rfl Pf ⟨rfl,rfl⟩
  .rw[CD n l ln h0];simp -dsimp only[aw,seval,Pd,decide_true,decide_false,decide_eq_false h0];exact aF hb rfl rfl Pf ⟨rfl,rfl⟩
 by_cases h1:k=1
 .subst h1;rw[Kc];by_cases hz:n=0
  .simp -dsimp only[aw,seval,Pd,decide_true,decide_false,decide_eq_true hz];refine aj (w8 l _) ?_;simp -dsimp only[aw,seval];rw[decide_eq_true hz,Pa];exact aF hb rfl rfl Pf ⟨rfl,rfl⟩
  .simp -dsimp only[aw,seval,Pd,decide_true,decide_false,decide_eq_false hz];exact aF hb rfl rfl Pf ⟨rfl,rfl⟩
 by_cases h2:k=2
 .subst h2;rw[Js];by_cases hz:n=0
  .simp -dsimp only[aw,seval,Pd,decide_true,decide_false,decide_eq_true hz];refine aj (tv l _) ?_;simp -dsimp only[aw,seval];rw[decide_eq_true hz,Pa];exact aF hb rfl rfl Pf ⟨rfl,rfl⟩
  .simp -dsimp only[aw,seval,Pd,decide_true,decide_false,decide_eq_false hz];exact aF hb rfl rfl Pf ⟨rfl,rfl⟩
 by_cases h4:k=4
 .subst h4;rw[Jm];by_cases hz:n=0
  .simp -dsimp only[aw,seval,Pd,decide_true,decide_false,decide_eq_true hz];refine aj (wW l _) ?_;simp -dsimp only[aw,seval];rw[decide_eq_true hz,Pa];exact aF hb rfl rfl Pf ⟨rfl,rfl⟩
  .simp -dsimp only[aw,seval,Pd,decide_true,decide_false,decide_eq_false hz];exact aF hb rfl rfl Pf ⟨rfl,rfl⟩
 rw[JF k n l ln h1 h2 h3 h4];simp -dsimp only[aw,seval,decide_eq_false h1,decide_eq_false h2,decide_eq_false h3,decide_eq_false h4];exact aF hb rfl rfl Pf ⟨rfl,rfl⟩
theorem Hg(t:Tok):t=⟨t.kind,t.num,bs t.text.data.toList,t.line⟩:=by rw[lJ]
theorem tI(t:Tok)(σ:LLV):Fun G 332 [gU t] σ (aO (.d (.lit (.bool (bS t)))) σ):=by
 rw[Hg t];exact rM _ _ _ _ _
theorem F8(t:Tok):gU t=.agg [.d (aa t.kind),.d (aa t.num),.d (ae t.text),.d (aa t.line)]:=rfl
def xG(ts:List Tok):V:=if ts.all bS=true then .tup [.d (ae (bs (kg ts))),.d (aa 0)]else .tup [.d (ae ⟨#[]⟩),.d (aa 1)]
theorem rp(n:Nat):∀(l:List Tok),(∀t,t∈l->t.text.size≤n)->(kg l).length≤(n+1)*l.length
 | [],_=>by simp[kg]
 | [a],h=>by have:=h a (by simp);rw[Lib.size_eq]at this;simp only[kg,Ph,Pl];omega
 | a::b::r,h=>by
  have h1:=h a (by simp);have h2:=rp n (b::r) fun t ht=>h t (by simp at ht ⊢;exact .inr ht);rw[Lib.size_eq]at h1;have e:(n+1)*(a::b::r).length=(n+1)*(b::r).length+(n+1):=by rw[Ph (a:=a),Nat.mul_succ]
  rw[e];simp only[kg,Pj,Ph]at h2 ⊢;omega
theorem yd:∀ts:List Tok,Lib.join (ts.map fun t=>t.text.data.toList) [32]=kg ts
 | []=>rfl
 | [t]=>by simp[kg,Lib.join_one]
 | t::u::r=>by
  have:=yd (u::r);simp only[List.map_cons]at this ⊢;rw[Lib.join_cons]at this ⊢;simp only[kg,<-this];simp[Lib.joinTail]
theorem vX(ts:List Tok)(hl:ts.length≤1000)(ht:∀t,t∈ts->t.text.size≤1000)(σ:LLV):Fun G 331 [.d (.sl (ts.map kJ))] σ (aO (xG ts) σ):=by
 refine al Tryz.func331 Nt rfl fun hb hw=>?_;unfold L2;simp -dsimp only[aw,seval];refine aU (by first|omega|(simp only[Pi];omega)) ?_;simp -dsimp only[aw,seval];refine aI [4,10,11,12] (R:=fun(j:Nat) ρ σ'=>ρ=[(4,.own 9 1 ((ts.take j).map fun t=>[ae t.text])),(10,.d (.sl (ts.map kJ))),(11,aC .i64 ts.length),(12,aC .i64 j)]/\σ'=σ/\(ts.take j).all bS=true) ts.length ⟨by simp[Pi];rfl,rfl,rfl⟩ ?_ _;rintro j ρ' σ' hj ⟨rfl,rfl,hv⟩;by_cases hlt:j<ts.length
 .have htk:ts.take (j+1)=ts.take j++[ts[j]]:=by rw[List.take_add_one,Pg hlt];rfl
  have hall:(ts.take (j+1)).all bS=bS ts[j]:=by rw[htk,List.all_append,hv];simp
  simp -dsimp only[aw,seval,Pe,hlt,decide_true,Pg hlt,kJ];rw[<-F8];refine aj (tI ts[j] _) ?_;cases hvj:bS ts[j]with
  | false=>
   simp -dsimp only[aw,seval]
   have:ts.all bS=false:=by
    rw[List.all_eq_false];exact⟨_,List.getElem_mem hlt,by rw[hvj];decide⟩
   unfold xG;rw[if_neg (by rw[this];decide)];exact FI hb rfl rfl
  | true=>
   rw[hvj]at hall;simp -dsimp only[aw,seval];refine aU (by first|omega|(simp only[Pi,List.length_take];omega)) ?_;simp -dsimp only[aw,seval,aJ hlt (show ts.length≤9223372036854775807 by omega)];refine⟨hlt,Nxt.drop (Pn _) hb rfl ⟨?_,rfl,hall⟩⟩;rw[htk,List.map_append];rfl
 .simp -dsimp only[aw,seval,Pe,hlt];rw[List.take_of_length_le (by omega)]at hv ⊢;have hd:V.d (.sl (ts.map fun t=>[ae t.text]))=V.d (dB (ts.map Tok.text)):=by unfold dB;rw[Pm];rfl
  have hjl:=rp 1000 ts ht;have hjl2:(kg ts).length≤1001*1000:=Nat.le_trans hjl (Nat.mul_le_mul_left _ hl);have hjq:Lib.join ((ts.map Tok.text).map (·.data.toList)) [32]=kg ts:=by rw[<-yd,Pm];rfl
  rw[hd];refine aj (CE (ts.map Tok.text) (by rw[Pi];omega) (by rw[hjq];omega) _) ?_;rw[hjq];simp -dsimp only[aw,seval];unfold xG;rw[if_pos hv];exact av hb rfl rfl
theorem Nxt.to{n0:Nat}{R:ac->LLV->Prop}{ρ:ac}{S:LLV}(τ l:LLV)(h:S=τ++l)(hn:n0≤τ.length)(hb:ai τ.length τ=true)(hs:an τ.length ρ=true)(hR:R ρ τ):Nxt n0 R ρ S .mk:=by
 subst h;exact Nxt.drop hn hb hs hR
theorem gR(a b:Bs)(h:a.length+b.length≤9223372036854775807):co .add (V.d (ae (bs a))) (V.d (ae (bs b)))=some (V.d (ae (bs (a++b)))):=by
 rw[Dy,bW,bW,if_pos h,kx]
theorem tM{n:Int}(h:0≤n):Lib.itoa n=Lib.decDigits n.toNat:=by
 unfold Lib.itoa;rw[if_neg (by omega)]
theorem BB(k:Nat):∀u:Nat,u<10^(k+1)->(Lib.decDigits u).length≤k+1:=by
 induction k with
 | zero=>intro u h;rw[Lib.decDigits,dif_pos (by simpa using h)];simp
 | succ k ih=>
  intro u h;rw[Lib.decDigits];split
  .simp
  .have:=ih (u/10) (by rw[Po]at h;omega);simp only[Pj,Ph,Pl];omega
theorem xl{u:Nat}(h:u≤9223372036854775808):(Lib.decDigits u).length≤19:=BB 18 u (by omega)
theorem Dh{n:Int}(h0 : -9223372036854775808≤n)(h1:n≤9223372036854775807):(Lib.itoa n).length≤20:=by
 unfold Lib.itoa;split
 .have:=xl (u:=n.natAbs) (by omega);simp only[Ph];omega
 .have:=xl (u:=n.toNat) (by omega);omega
theorem o6(n:Int)(h0 : -9223372036854775808≤n)(h1:n≤9223372036854775807)(σ:LLV):Fun G 111 [.d (aa n)] σ (aO (.d (ae (bs (Lib.itoa n)))) σ):=by
 have h5:=Dh h0 h1;refine al Tryz.func111 OV rfl fun hb hw=>?_;unfold Mt;simp -dsimp only[aw,seval];refine aj (qd n h0 h1 (by unfold maxLen;omega) _) ?_;simp -dsimp only[aw,seval];exact av hb rfl rfl
theorem il(n:Int)(h0:0≤n)(h1:n≤65535)(σ:LLV):Fun G 111 [.d (aa n)] σ (aO (.d (ae (bs (Lib.decDigits n.toNat)))) σ):=by
 rw[<-tM h0];exact o6 n (by omega) (by omega) σ
def k7(l:List (ByteArray×Int×Nat)):LLD:=l.map fun b=>[ae b.1,aa b.2.1,aa b.2.2]
theorem qp(σ:LLV):Fun G 301 [] σ (aO (.d (.sl (k7 fp))) σ):=by
 refine al Tryz.func301 Og rfl fun hb hw=>?_;unfold Md;simp -dsimp only[aw,seval];exact aF hb rfl rfl Pk ⟨rfl,rfl⟩
theorem lp(o:Int)(σ:LLV):Fun G 273 [.d (aa o)] σ (aO (.d (ae (bs (BG o)))) σ):=by
 refine al Tryz.func273 Ot rfl fun hb hw=>?_;unfold LH BG;by_cases h4:o=4
 .rw[if_pos h4];simp -dsimp only[aw,seval,decide_eq_true h4];exact av hb rfl rfl
 by_cases h5:o=5
 .rw[if_neg h4,if_pos h5];simp -dsimp only[aw,seval,decide_eq_false h4,decide_eq_true h5];exact av hb rfl rfl
 by_cases h6:o=6
 .rw[if_neg h4,if_neg h5,if_pos h6];simp -dsimp only[aw,seval,decide_eq_false h4,decide_eq_false h5,decide_eq_true h6];exact av hb rfl rfl
 rw[if_neg h4,if_neg h5,if_neg h6];simp -dsimp only[aw,seval,decide_eq_false h4,decide_eq_false h5,decide_eq_false h6];exact av hb rfl rfl
end Go.Proofs.YtnhphlmblenapaaGreatDoor
