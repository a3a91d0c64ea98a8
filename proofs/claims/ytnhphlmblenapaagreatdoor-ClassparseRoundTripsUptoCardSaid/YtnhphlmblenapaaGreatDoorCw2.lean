import Derived.Test.YtnhphlmblenapaaGreatDoorCt5
set_option linter.unusedVariables false
set_option linter.unusedSimpArgs false
set_option linter.unusedSectionVars false
set_option maxRecDepth 100000
set_option maxHeartbeats 4000000
open Int renaming ofNat_lt->TU,reduceEq->TV
open List renaming length_map->TW,append_assoc->TX,length_append->TY,take_succ_eq_append_getElem->TZ,take_of_length_le->T0,getElem?_eq_getElem->T3,length_cons->T4,length_nil->T5,intercalate->T6,map_append->T7,map_cons->T8,map_nil->T9,flatMap_append->Ua,take_length->Ub,length_take->Uc,getElem_mem->Ud
open Nat renaming le_trans->Ue,le_refl->Uf
namespace Go.Proofs.YtnhphlmblenapaaGreatDoor
open Go.RowKit
open Nat renaming reduceLeDiff -> jA, reduceBEq -> jB, reduceLT -> jC, reduceEqDiff -> jD, reduceAdd -> jE, reduceSub -> jF, reduceMul -> jG
open V renaming copy -> jV, lend -> jW, lend1 -> jX, cells -> jY, boxable -> jZ
def c213:Cd:=sq [oM 2 (.mv (kS ⟨#[]⟩))] [0] (sq [oM 3 (.nilo 9 1)] [0,3] (.seq (sq [oV 6 0,ZN 7 6,oI 8 0] [3,6,7,8] (.block 0 (.loop (sq [Yl 9 8 7] [3,6,7,8,9] (.seq (.cond (.t 9) .skip (.exit 0)) (.seq (.block 1 (sq [ZI 10 4 6 8,ZM 11 4 10,oM 5 (.new 56 zz8),oS 4 5 11] [3,5,6,7,8] (.ops [oM 12 (.mvo 3),ZM 13 4 5,ZC 14 243 13,oM 15 (.mks 9 1 [.t 14]),oM 16 (.app 9 1 16 12 (.t 15)),
 oM 3 (.mvo 16)] [3,6,7,8]))) (.ops [Wa 17 8 1,oV 8 17] [3,6,7,8]))))))) (sq [oV 18 3,oM 19 (.call 244 [.t 18,.k (.d (.lit (.string ⟨#[44,32]⟩)))]),oV 2 19] [2] .ret)))
def Pp:List RV:=[.t 2 false]
theorem Rp:aG G.tab Tryz.f213 1 c213 Pp=true:=by kernel_rfl
def Qj:Cd:=sq [ZB 1 56 0,oM 2 (.mv (kS ⟨#[]⟩))] [1] (sq [ZF 4 0 1,ZL 5 1 4,ZC 6 111 5,oV 3 6] [1,3] (.seq (sq [ZF 7 1 1,ZL 8 1 7,ZF 9 0 1,ZL 10 1 9,Yn 11 8 10] [1,3,11] (.cond (.t 11) (.ops [oV 12 3,ZF 13 1 1,ZL 14 1 13,ZC 15 111 14,oM 16 (.bin .add (kS ⟨#[32,46,46,32]⟩) (.t 15)),Ya 17 12 16,oV 3 17] [1,3]) .skip)) (.seq (sq [ZF 18 3 1,ZL 19 1 18] [1,3,19] (.cond (.t 19) (sq [oV 20 3,
 oM 21 (.bin .add (.t 20) (kS ⟨#[32,58,61,32]⟩)),ZF 22 2 1,ZL 23 1 22,ZC 24 111 23,Ya 25 21 24,oV 2 25] [2] .ret) .skip)) (sq [oV 26 3,oM 27 (.bin .add (.t 26) (kS ⟨#[32,58,47,32]⟩)),ZF 28 2 1,ZL 29 1 28,ZC 30 111 29,Ya 31 27 30,oV 2 31] [2] .ret))))
def QH:List RV:=[.t 2 false]
theorem SW:aG G.tab Tryz.f243 1 Qj QH=true:=by kernel_rfl
def c212:Cd:=sq [oM 2 (.mv (kS ⟨#[]⟩))] [0] (.seq (sq [oV 7 0,oM 8 (.call 241 [.t 7,.k (.d (.lit (.string ⟨#[91]⟩)))]),oV 6 8,ZX 9 6 0,ZX 10 6 1,ZX 11 6 2,oV 3 9,oV 4 10,oV 5 11] [0,3,4,5] (sq [oV 12 5] [0,3,4,12] (.cond (.t 12) (sq [oV 13 3,oM 14 (.bin .add (.t 13) (kS ⟨#[91]⟩)),oV 15 4,oM 16 (.call 242 [.t 15,.k (.d (.lit (.string ⟨#[93]⟩)))]),Ya 17 14 16,oM 18 (.bin .add (.t 17) (kS ⟨#[93]⟩)),
 oV 2 18] [2] .ret) .skip))) (sq [oV 19 0,oV 2 19] [2] .ret))
def Ri:List RV:=[.t 2 false]
theorem TR:aG G.tab Tryz.f212 1 c212 Ri=true:=by kernel_rfl
def OX:Cd:=sq [oM 2 (.mv (kS ⟨#[]⟩))] [0] (sq [oM 3 (.nilo 9 1)] [0,3] (.seq (sq [oV 6 0,ZN 7 6,oI 8 0] [3,6,7,8] (.block 0 (.loop (sq [Yl 9 8 7] [3,6,7,8,9] (.seq (.cond (.t 9) .skip (.exit 0)) (.seq (.block 1 (sq [ZI 10 1 6 8,ZL 11 1 10,oV 5 11] [3,5,6,7,8] (.ops [oM 12 (.mvo 3),oV 13 5,ZC 14 212 13,oM 15 (.mks 9 1 [.t 14]),oM 16 (.app 9 1 16 12 (.t 15)),oM 3 (.mvo 16)] [3,6,7,
 8]))) (.ops [Wa 17 8 1,oV 8 17] [3,6,7,8]))))))) (sq [oV 18 3,oM 19 (.call 244 [.t 18,.k (.d (.lit (.string ⟨#[44,32]⟩)))]),oV 2 19] [2] .ret)))
def NC:List RV:=[.t 2 false]
theorem TP:aG G.tab Tryz.f217 1 OX NC=true:=by kernel_rfl
def c50:Cd:=sq [ZB 1 32 0,oM 2 (.mv kF)] [1] (.seq (sq [ZF 5 3 1,ZL 6 1 5,ZN 7 6,oI 8 0] [1,6,7,8] (.block 0 (.loop (sq [Yl 9 8 7] [1,6,7,8,9] (.seq (.cond (.t 9) .skip (.exit 0)) (.seq (.block 1 (sq [ZI 10 2 6 8,ZM 11 2 10,oM 4 (.new 46 zz9),oS 2 4 11] [1,4,6,7,8] (sq [ZF 12 1 4,ZL 13 1 12,ZC 14 27 13,Wn 15 14 0] [1,6,7,8,
 15] (.cond (.t 15) (sq [oM 2 (.mv kF)] [2] .ret) .skip)))) (.ops [Wa 16 8 1,oV 8 16] [1,6,7,8]))))))) (sq [ZM 17 4 1,ZC 18 45 17,We 19 18 0,oV 2 19] [2] .ret))
def TG:List RV:=[.t 2 false]
theorem k50:aG G.tab Tryz.f50 1 c50 TG=true:=by kernel_rfl
def c20:Cd:=sq [ZB 1 32 0,oM 2 (.mv (kS ⟨#[]⟩))] [1] (.seq (sq [ZM 5 4 1,ZC 6 50 5,ZU 7 6] [1,7] (.cond (.t 7) (.seq (.ops [oM 2 (.mv (kS ⟨#[]⟩))] [2]) .ret) .skip)) (sq [oM 8 (.bld [.d (.lit (.pointer none)),.nil,.d (.lit (.int .i64 0))] []),oM 9 (.boxt 91 (.t 8)),oM 3 (.new 85 [.d (.lit (.pointer none))]),oS 1 3 9] [1,3] (sq [oM 4 (.mv (kS ⟨#[]⟩))] [1,3,4] (.seq (sq [ZF 10 1 1,ZL 11 1 10,
 oM 12 (.bin .neq (.t 11) (kS ⟨#[]⟩))] [1,3,4,12] (.cond (.t 12) (.ops [ZF 13 1 1,ZL 14 1 13,oM 15 (.bin .add (kS ⟨#[32,101,120,116,101,110,100,115,32]⟩) (.t 14)),oV 4 15] [1,3,4]) .skip)) (sq [ZL 16 1 3,ZF 17 0 1,ZL 18 1 17,oV 19 4,oM 20 (.mks 9 1 [.k (.d (.lit (.string ⟨#[99,108,97,115,115,32]⟩))),.t 18,.t 19,.k (.d (.lit (.string ⟨#[32,123]⟩)))]),ZD 21 51 16 20] [1,3] (sq [ZL 22 1 3,
 oM 23 (.mkfn 53 [.t 1,.t 3]),ZD 24 52 22 23] [3] (sq [ZL 25 1 3,oM 26 (.mks 9 1 [.k (.d (.lit (.string ⟨#[125]⟩)))]),ZD 27 51 25 26] [3] (sq [ZL 28 1 3,ZK 29 28,ZF 30 0 29,ZC 31 56 30,oV 2 31] [2] .ret))))))))
def TJ:List RV:=[.t 2 false]
theorem k20:aG G.tab Tryz.f20 1 c20 TJ=true:=by kernel_rfl
def c22:Cd:=sq [oM 4 (.mv (kS ⟨#[]⟩))] [0,1] (.seq (sq [oV 6 0,ZC 7 27 6,Wn 8 7 0,oV 9 8,oH 10 9 (.mv (.t 1)),oH 11 9 (wl 10 0),ZP 12 9 11,oV 13 12,oH 14 13 (.mv (.t 1)),oH 15 13 (wg 14 32),ZP 16 13 15] [0,1,16] (.cond (.t 16) (sq [oM 4 (.mv (kS ⟨#[]⟩))] [4] .ret) .skip)) (sq [oV 17 1,oM 18 (.bld [.d (.lit (.pointer none)),.nil,.d (.lit (.int .i64 0))] [(2,1,.t 17)]),oM 19 (.boxt 91 (.t 18)),
 oV 5 19] [0,5] (sq [oV 20 5,oV 21 0,ZD 22 57 20 21] [5] (sq [oV 23 5,ZK 24 23,ZF 25 0 24,ZC 26 56 25,oV 4 26] [4] .ret))))
def Rr:List RV:=[.t 4 false]
theorem k22:aG G.tab Tryz.f22 2 c22 Rr=true:=by kernel_rfl
def c53:Cd:=.seq (sq [ZF 6 2 0,ZL 7 1 6,ZN 8 7,oI 9 0] [0,1,7,8,9] (.block 0 (.loop (sq [Yl 10 9 8] [0,1,7,8,9,10] (.seq (.cond (.t 10) .skip (.exit 0)) (.seq (.block 1 (sq [ZI 11 5 7 9,ZM 12 5 11,oM 3 (.new 74 zz6),oS 5 3 12] [0,1,3,7,8,9] (.ops [ZL 13 1 1,ZM 14 5 3,ZD 15 54 13 14] [0,1,7,8,9]))) (.ops [Wa 16 9 1,oV 9 16] [0,1,7,8,9]))))))) (sq [ZF 17 3 0,ZL 18 1 17,ZN 19 18,oI 20 0] [1,18,19,
 20] (.block 2 (.loop (sq [Yl 21 20 19] [1,18,19,20,21] (.seq (.cond (.t 21) .skip (.exit 2)) (.seq (.block 3 (sq [ZI 22 2 18 20,ZM 23 2 22,oM 5 (.new 46 zz9),oS 2 5 23] [1,5,18,19,20] (.ops [ZL 24 1 1,ZM 25 2 5,ZD 26 55 24 25] [1,18,19,20]))) (.ops [Wa 27 20 1,oV 20 27] [1,18,19,20])))))))
def SL:List RV:=[]
theorem k53:aG G.tab Tryz.f53 2 c53 SL=true:=by kernel_rfl
def c51:Cd:=.seq (.drawg [(oV 6 0,.free 0),(ZK 7 6,.free 0),(ZF 8 0 7,.free 0),(oV 9 0,.free 0),(ZK 10 9,.free 0),(ZF 11 2 10,.free 0),(ZL 12 1 11,.calm 0 0),(oM 13 (.call 110 [.k (.d (.lit (.string ⟨#[32,32,32,32]⟩))),.t 12]),.calm 0 0),(ZD 14 109 8 13,.act)] [0,1]) (.seq (sq [oV 15 1,ZN 16 15,oI 17 0] [0,15,16,17] (.block 0 (.loop (sq [Yl 18 17 16] [0,15,16,17,
 18] (.seq (.cond (.t 18) .skip (.exit 0)) (.seq (.block 1 (sq [ZI 19 1 15 17,ZL 20 1 19,oV 5 20] [0,5,15,16,17] (.ops [oV 21 0,ZK 22 21,ZF 23 0 22,oV 24 5,ZD 25 109 23 24] [0,15,16,17]))) (.ops [Wa 26 17 1,oV 17 26] [0,15,16,17]))))))) (.ops [oV 27 0,ZK 28 27,ZF 29 0 28,oM 30 (.call 109 [.t 29,.k (.d (.lit (.string ⟨#[10]⟩)))])] []))
def Tr:List RV:=[]
theorem k51:aG G.tab Tryz.f51 2 c51 Tr=true:=by kernel_rfl
def c52:Cd:=sq [oV 4 0,ZK 5 4,ZF 6 2 5,ZL 7 1 6,Wa 8 7 1,ZK 9 4,ZF 10 2 9,oS 1 10 8] [0,1] (sq [oV 11 1,oM 12 (.callv (.t 11) [])] [0] (.ops [oV 13 0,ZK 14 13,ZF 15 2 14,ZL 16 1 15,Ws 17 16 1,ZK 18 13,ZF 19 2 18,oS 1 19 17] []))
def RZ:List RV:=[]
theorem k52:aG G.tab Tryz.f52 2 c52 RZ=true:=by kernel_rfl
def c54:Cd:=sq [ZB 3 74 1] [0,3] (sq [oM 4 (.mv (kS ⟨#[]⟩)),oM 5 (.mv (kS ⟨#[]⟩))] [0,3,4,5] (.seq (sq [ZF 6 2 3,ZL 7 1 6,Wg 8 7 0] [0,3,4,5,8] (.cond (.t 8) (.ops [ZF 9 2 3,ZL 10 1 9,ZC 11 111 10,oM 12 (.bin .add (kS ⟨#[91]⟩) (.t 11)),oM 13 (.bin .add (.t 12) (kS ⟨#[93]⟩)),oV 4 13] [0,3,4,5]) .skip)) (.seq (sq [ZF 14 3 3,ZL 15 1 14,We 16 15 0] [0,3,4,5,16] (.cond (.t 16) (.ops [ZF 17 4 3,
 ZL 18 1 17,ZC 19 111 18,oM 20 (.bin .add (kS ⟨#[32,61,32]⟩) (.t 19)),oV 5 20] [0,3,4,5]) .skip)) (.drawg [(oV 21 0,.free 0),(ZF 22 3 3,.free 0),(ZL 23 1 22,.calm 0 0),(ZC 24 112 23,.calm 0 0),(ZF 25 0 3,.free 0),(ZL 26 1 25,.calm 0 0),(oV 27 4,.free 0),(ZF 28 1 3,.free 0),(ZL 29 1 28,.calm 0 0),(ZC 30 111 29,.calm 0 0),(oV 31 5,.free 0),(oM 32 (.mks 9 1 [.t 24,.t 26,.t 27,
 .k (.d (.lit (.string ⟨#[32,58,32]⟩))),.t 30,.t 31,.k (.d (.lit (.string ⟨#[59]⟩)))]),.free 0),(ZD 33 51 21 32,.act)] []))))
def Nn:List RV:=[]
theorem k54:aG G.tab Tryz.f54 2 c54 Nn=true:=by kernel_rfl
def c55:Cd:=sq [ZB 2 85 0,ZB 3 46 1] [2,3] (sq [ZL 4 1 2,ZF 5 0 3,ZL 6 1 5,oM 7 (.mks 9 1 [.k (.d (.lit (.string ⟨#[99,111,110,115,116,114,97,105,110,116,32]⟩))),.t 6,.k (.d (.lit (.string ⟨#[32,123]⟩)))]),ZD 8 51 4 7] [2,3] (sq [ZL 9 1 2,oM 10 (.mkfn 113 [.t 2,.t 3]),ZD 11 52 9 10] [2] (.ops [ZL 12 1 2,oM 13 (.mks 9 1 [.k (.d (.lit (.string ⟨#[125]⟩)))]),ZD 14 51 12 13] [])))
def RH:List RV:=[]
theorem k55:aG G.tab Tryz.f55 2 c55 RH=true:=by kernel_rfl
def Po:Cd:=.ops [ZL 2 1 0,ZF 3 1 1,ZL 4 1 3,ZD 5 57 2 4] []
def OA:List RV:=[]
theorem R0:aG G.tab Tryz.f113 2 Po OA=true:=by kernel_rfl
def c57:Cd:=sq [oV 6 1,ZN 7 6,oI 8 0] [0,6,7,8] (.block 0 (.loop (sq [Yl 9 8 7] [0,6,7,8,9] (.seq (.cond (.t 9) .skip (.exit 0)) (.seq (.block 1 (sq [ZI 10 12 6 8,ZM 11 12 10,oM 5 (.new 54 zz0),oS 12 5 11] [0,5,6,7,8] (.drawg [(ZF 12 0 5,.free 0),(ZL 13 1 12,.calm 0 0),(ZC 14 114 13,.calm 0 0),(oV 15 0,.free 0),(ZM 16 12 5,.calm 0 0),(oM 17 (.callv (.t 14) [.t 15,.t 16]),.act)] [0,6,7,
 8]))) (.ops [Wa 18 8 1,oV 8 18] [0,6,7,8]))))))
def TB:List RV:=[]
theorem k57:aG G.tab Tryz.f57 2 c57 TB=true:=by kernel_rfl
def Pq:Cd:=sq [oM 2 (.mv (.k (.d (.lit .nilFunc))))] [0] (.seq (sq [oV 3 0] [3] (.block 0 (sq [We 5 3 2,oV 4 5] [3,4] (.cond (.t 4) (sq [oM 2 (.mv (.k (.fn 160 [])))] [2] .ret) (sq [We 7 3 3,oV 6 7] [3,6] (.cond (.t 6) (sq [oM 2 (.mv (.k (.fn 161 [])))] [2] .ret) (sq [We 9 3 4,oV 8 9] [3,8] (.cond (.t 8) (sq [oM 2 (.mv (.k (.fn 162 [])))] [2] .ret) (sq [We 11 3 5,oV 10 11] [3,
 10] (.cond (.t 10) (sq [oM 2 (.mv (.k (.fn 163 [])))] [2] (.ret)) (sq [We 13 3 6,oV 12 13] [12] (.cond (.t 12) (sq [oM 2 (.mv (.k (.fn 164 [])))] [2] .ret) .skip)))))))))))) (sq [oM 2 (.mv (.k (.fn 165 [])))] [2] (.ret)))
def Nu:List RV:=[.t 2 false]
theorem R5:aG G.tab Tryz.f114 1 Pq Nu=true:=by kernel_rfl
def OE:Cd:=sq [oM 2 (.mv (kS ⟨#[]⟩))] [0] (.seq (sq [oV 3 0] [3] (.block 0 (sq [We 5 3 1,oV 4 5] [3,4] (.cond (.t 4) (sq [oM 2 (.mv (kS ⟨#[114,97,110,100,32]⟩))] [2] (.ret)) (sq [We 7 3 2,oV 6 7] [6] (.cond (.t 6) (sq [oM 2 (.mv (kS ⟨#[114,97,110,100,99,32]⟩))] [2] .ret) .skip)))))) (sq [oM 2 (.mv (kS ⟨#[115,116,97,116,101,32]⟩))] [2] (.ret)))
def Ok:List RV:=[.t 2 false]
theorem SH:aG G.tab Tryz.f112 1 OE Ok=true:=by kernel_rfl
def NU:Cd:=sq [ZB 3 54 1] [0,3] (.ops [oV 4 0,ZF 5 1 3,ZM 6 4 5,ZC 7 211 6,oM 8 (.mks 9 1 [.k (.d (.lit (.string ⟨#[115,111,102,116,32]⟩))),.t 7,.k (.d (.lit (.string ⟨#[59]⟩)))]),ZD 9 51 4 8] [])
def Qo:List RV:=[]
theorem Sp:aG G.tab Tryz.f160 2 NU Qo=true:=by kernel_rfl
def Nl:Cd:=sq [ZB 3 54 1] [0,3] (.drawg [(oV 4 0,.free 0),(ZF 5 5 3,.free 0),(ZL 6 1 5,.calm 0 0),(ZC 7 212 6,.calm 0 0),(ZF 8 7 3,.free 0),(ZL 9 1 8,.calm 0 0),(ZC 10 213 9,.calm 0 0),(oM 11 (.mks 9 1 [.k (.d (.lit (.string ⟨#[100,105,115,116,32]⟩))),.t 7,.k (.d (.lit (.string ⟨#[32,123,32]⟩))),.t 10,.k (.d (.lit (.string ⟨#[32,125,59]⟩)))]),.free 0),(ZD 12 51 4 11,.act)] [])
def Ol:List RV:=[]
theorem R6:aG G.tab Tryz.f161 2 Nl Ol=true:=by kernel_rfl
def Pf:Cd:=sq [ZB 2 85 0,ZB 3 54 1] [2,3] (.seq (.drawg [(ZL 4 1 2,.calm 0 0),(ZF 5 1 3,.free 0),(ZM 6 4 5,.calm 0 0),(ZC 7 211 6,.calm 0 0),(oM 8 (.mks 9 1 [.k (.d (.lit (.string ⟨#[105,102,32,40]⟩))),.t 7,.k (.d (.lit (.string ⟨#[41,32,123]⟩)))]),.free 0),(ZD 9 51 4 8,.act)] [2,3]) (sq [ZL 10 1 2,oM 11 (.mkfn 214 [.t 2,.t 3]),ZD 12 52 10 11] [2,3] (.seq (sq [ZF 13 9 3,ZL 14 1 13,ZN 15 14,
 Wg 16 15 0] [2,3,16] (.cond (.t 16) (sq [ZL 17 1 2,oM 18 (.mks 9 1 [.k (.d (.lit (.string ⟨#[125,32,101,108,115,101,32,123]⟩)))]),ZD 19 51 17 18] [2,3] (.ops [ZL 20 1 2,oM 21 (.mkfn 215 [.t 2,.t 3]),ZD 22 52 20 21] [2])) .skip)) (.ops [ZL 23 1 2,oM 24 (.mks 9 1 [.k (.d (.lit (.string ⟨#[125]⟩)))]),ZD 25 51 23 24] []))))
def OD:List RV:=[]
theorem RE:aG G.tab Tryz.f162 2 Pf OD=true:=by kernel_rfl
def Qh:Cd:=sq [ZB 2 85 0,ZB 3 54 1] [2,3] (sq [ZL 4 1 2,ZF 5 6 3,ZL 6 1 5,ZF 7 5 3,ZL 8 1 7,oM 9 (.mks 9 1 [.k (.d (.lit (.string ⟨#[101,97,99,104,32]⟩))),.t 6,.k (.d (.lit (.string ⟨#[32,105,110,32]⟩))),.t 8,.k (.d (.lit (.string ⟨#[32,123]⟩)))]),ZD 10 51 4 9] [2,3] (sq [ZL 11 1 2,oM 12 (.mkfn 216 [.t 2,.t 3]),ZD 13 52 11 12] [2] (.ops [ZL 14 1 2,
 oM 15 (.mks 9 1 [.k (.d (.lit (.string ⟨#[125]⟩)))]),ZD 16 51 14 15] [])))
def QS:List RV:=[]
theorem SS:aG G.tab Tryz.f163 2 Qh QS=true:=by kernel_rfl
def PS:Cd:=sq [ZB 3 54 1] [0,3] (.drawg [(oV 4 0,.free 0),(ZF 5 10 3,.free 0),(ZL 6 1 5,.calm 0 0),(ZC 7 217 6,.calm 0 0),(ZF 8 11 3,.free 0),(ZL 9 1 8,.calm 0 0),(ZC 10 217 9,.calm 0 0),(oM 11 (.mks 9 1 [.k (.d (.lit (.string ⟨#[115,111,108,118,101,32]⟩))),.t 7,.k (.d (.lit (.string ⟨#[32,98,101,102,111,114,101,32]⟩))),.t 10,.k (.d (.lit (.string ⟨#[59]⟩)))]),.free 0),(ZD 12 51 4 11,.act)] [])
def Qn:List RV:=[]
theorem Tx:aG G.tab Tryz.f164 2 PS Qn=true:=by kernel_rfl
def Q3:Cd:=sq [ZB 3 54 1] [0,3] (.ops [oV 4 0,ZF 5 1 3,ZM 6 4 5,ZC 7 211 6,oM 8 (.mks 9 1 [.t 7,.k (.d (.lit (.string ⟨#[59]⟩)))]),ZD 9 51 4 8] [])
def Rm:List RV:=[]
theorem Tu:aG G.tab Tryz.f165 2 Q3 Rm=true:=by kernel_rfl
def Ov:Cd:=.ops [ZL 2 1 0,ZF 3 8 1,ZL 4 1 3,ZD 5 57 2 4] []
def PE:List RV:=[]
theorem RN:aG G.tab Tryz.f214 2 Ov PE=true:=by kernel_rfl
def Oh:Cd:=.ops [ZL 2 1 0,ZF 3 9 1,ZL 4 1 3,ZD 5 57 2 4] []
def PG:List RV:=[]
theorem Sf:aG G.tab Tryz.f215 2 Oh PG=true:=by kernel_rfl
def OQ:Cd:=.ops [ZL 2 1 0,ZF 3 8 1,ZL 4 1 3,ZD 5 57 2 4] []
def Q8:List RV:=[]
theorem ST:aG G.tab Tryz.f216 2 OQ Q8=true:=by kernel_rfl
def c45:Cd:=sq [ZB 1 32 0,oI 2 0] [1] (.seq (.block 0 (sq [ZF 7 0 1,ZL 8 1 7,ZC 9 96 8,ZU 10 9,oV 11 10,oH 12 11 (zF 1 1),oH 13 11 (zL 1 12),oH 14 11 (.bin .neq (.t 13) (kS ⟨#[]⟩)),oH 15 11 (.mv (.t 14)),oG 16 15 (zF 1 1),oG 17 15 (zL 1 16),oG 18 15 (zC 96 17),oG 19 15 (zU 18),oH 20 11 (zQ 15 19),ZP 21 11 20,oV 6 21] [1,6] (.cond (.t 6) (sq [oI 2 7] [2] .ret) (sq [ZF 23 2 1,ZL 24 1 23,ZN 25 24,
 Wg 26 25 16,oV 27 26,oH 28 27 (zF 3 1),oH 29 27 (zL 1 28),oH 30 27 (zN 29),oH 31 27 (wg 30 16),ZP 32 27 31,oV 22 32] [1,22] (.cond (.t 22) (sq [oI 2 2] [2] .ret) .skip))))) (.seq (sq [ZF 33 2 1,ZL 34 1 33,ZN 35 34,oI 36 0] [1,34,35,36] (.block 1 (.loop (sq [Yl 37 36 35] [1,34,35,36,37] (.seq (.cond (.t 37) .skip (.exit 1)) (.seq (.block 2 (sq [ZI 38 5 34 36,ZM 39 5 38,oM 4 (.new 74 zz6),
 oS 5 4 39] [1,4,34,35,36] (sq [ZM 40 5 4,ZC 41 97 40,oV 5 41] [1,5,34,35,36] (sq [oV 42 5,Wn 43 42 0] [1,5,34,35,36,43] (.cond (.t 43) (.seq (.ops [oV 44 5,oV 2 44] [2]) .ret) .skip))))) (.ops [Wa 45 36 1,oV 36 45] [1,34,35,36]))))))) (.seq (sq [ZF 46 3 1,ZL 47 1 46,oM 48 (.call 98 [.t 47,.k (.fn 99 [])])] [1,48] (.cond (.t 48) (sq [oI 2 7] [2] .ret) .skip)) (.seq (sq [ZF 49 2 1,ZL 50 1 49,
 oM 51 (.call 100 [.t 50,.k (.fn 101 [])]),oV 52 51,oH 53 52 (zF 3 1),oH 54 52 (zL 1 53),⟨some 55,.call 102 [.t 54,.k (.fn 103 [])],(some (52,false))⟩,ZP 56 52 55] [56] (.cond (.t 56) (sq [oI 2 8] [2] (.ret)) .skip)) (sq [oI 2 0] [2] .ret)))))
def Ti:List RV:=[.t 2 false]
theorem k45:aG G.tab Tryz.f45 1 c45 Ti=true:=by kernel_rfl
def c99:Cd:=sq [ZB 1 46 0,oM 2 (.mv kF)] [1] (sq [ZF 3 0 1,ZL 4 1 3,ZC 5 96 4,ZU 6 5,oV 2 6] [2] .ret)
def Ts:List RV:=[.t 2 false]
theorem k99:aG G.tab Tryz.f99 1 c99 Ts=true:=by kernel_rfl
def c97:Cd:=sq [ZB 1 74 0,oI 2 0] [1] (.seq (.block 0 (sq [ZF 5 0 1,ZL 6 1 5,ZC 7 96 6,ZU 8 7,oV 4 8] [1,4] (.cond (.t 4) (sq [oI 2 7] [2] .ret) (sq [ZF 10 1 1,ZL 11 1 10,Wl 12 11 1,oV 13 12,oH 14 13 (zF 1 1),oH 15 13 (zL 1 14),oH 16 13 (wg 15 8),ZP 17 13 16,oV 18 17,oH 19 18 (zF 2 1),oH 20 18 (zL 1 19),oH 21 18 (wl 20 0),ZP 22 18 21,oV 23 22,oH 24 23 (zF 2 1),oH 25 23 (zL 1 24),
 oH 26 23 (wg 25 8),ZP 27 23 26,oV 9 27] [1,9] (.cond (.t 9) (sq [oI 2 1] [2] (.ret)) (sq [ZF 29 3 1,ZL 30 1 29,Wn 31 30 0,oV 32 31,oG 33 32 (zF 3 1),oG 34 32 (zL 1 33),oG 35 32 (wn 34 1),ZQ 36 32 35,oV 37 36,oG 38 37 (zF 3 1),oG 39 37 (zL 1 38),oG 40 37 (wn 39 2),ZQ 41 37 40,oV 28 41] [1,28] (.cond (.t 28) (sq [oI 2 1] [2] .ret) (sq [ZF 43 2 1,ZL 44 1 43,Wn 45 44 0,oV 46 45,oG 47 46 (zF 3 1),
 oG 48 46 (zL 1 47),oG 49 46 (we 48 2),ZQ 50 46 49,oV 42 50] [1,42] (.cond (.t 42) (sq [oI 2 1] [2] .ret) .skip))))))))) (sq [oI 3 0] [1,3] (.seq (sq [ZF 51 3 1,ZL 52 1 51,We 53 52 0] [1,3,53] (.cond (.t 53) (.ops [ZF 54 1 1,ZL 55 1 54,oM 56 (.bin .shl (kI 1) (.t 55)),Ws 57 56 1,oV 3 57] [1,3]) .skip)) (.seq (sq [ZF 58 4 1,ZL 59 1 58,Wl 60 59 0,oV 61 60,oH 62 61 (zF 4 1),oH 63 61 (zL 1 62),
 oH 64 61 (.mv (.t 3)),oH 65 61 (yg 63 64),ZP 66 61 65] [66] (.cond (.t 66) (sq [oI 2 1] [2] .ret) .skip)) (sq [oI 2 0] [2] (.ret))))))
def Sy:List RV:=[.t 2 false]
theorem k97:aG G.tab Tryz.f97 1 c97 Sy=true:=by kernel_rfl
def Qs:Cd:=sq [oM 4 (.mv kF)] [0,1] (.seq (sq [oV 7 0,ZN 8 7,oI 9 0] [0,1,8,9] (.block 0 (.loop (sq [Yl 10 9 8] [0,1,8,9,10] (.seq (.cond (.t 10) .skip (.exit 0)) (.seq (.block 1 (sq [oV 11 9,oV 5 11] [0,1,5,8,9] (sq [oV 12 5,oI 13 0] [0,1,5,8,9,12,13] (.block 2 (.loop (sq [Yl 14 13 12] [0,1,5,8,9,12,13,14] (.seq (.cond (.t 14) .skip (.exit 2)) (.seq (.block 3 (sq [oV 15 13,oV 6 15] [0,1,5,6,8,
 9,12,13] (.seq (.draw [oV 16 1,oV 17 0,oV 18 5,ZI 19 5 17 18,ZM 20 5 19,oM 21 (.callv (.t 16) [.t 20]),oV 22 1,oV 23 0,oV 24 6,ZI 25 5 23 24,ZM 26 5 25,oM 27 (.callv (.t 22) [.t 26]),Ye 28 21 27] [0,1,5,8,9,12,13,28]) (.cond (.t 28) (sq [oM 4 (.mv kT)] [4] .ret) .skip)))) (.ops [Wa 29 13 1,oV 13 29] [0,1,5,8,9,12,13]))))))))) (.ops [Wa 30 9 1,oV 9 30] [0,1,8,
 9]))))))) (sq [oM 4 (.mv kF)] [4] .ret))
def Om:List RV:=[.t 4 false]
theorem Tf:aG G.tab Tryz.f100 2 Qs Om=true:=by kernel_rfl
def Nw:Cd:=sq [oM 4 (.mv kF)] [0,1] (.seq (sq [oV 7 0,ZN 8 7,oI 9 0] [0,1,8,9] (.block 0 (.loop (sq [Yl 10 9 8] [0,1,8,9,10] (.seq (.cond (.t 10) .skip (.exit 0)) (.seq (.block 1 (sq [oV 11 9,oV 5 11] [0,1,5,8,9] (sq [oV 12 5,oI 13 0] [0,1,5,8,9,12,13] (.block 2 (.loop (sq [Yl 14 13 12] [0,1,5,8,9,12,13,14] (.seq (.cond (.t 14) .skip (.exit 2)) (.seq (.block 3 (sq [oV 15 13,oV 6 15] [0,1,5,6,8,
 9,12,13] (.seq (.draw [oV 16 1,oV 17 0,oV 18 5,ZI 19 2 17 18,ZM 20 2 19,oM 21 (.callv (.t 16) [.t 20]),oV 22 1,oV 23 0,oV 24 6,ZI 25 2 23 24,ZM 26 2 25,oM 27 (.callv (.t 22) [.t 26]),Ye 28 21 27] [0,1,5,8,9,12,13,28]) (.cond (.t 28) (sq [oM 4 (.mv kT)] [4] .ret) .skip)))) (.ops [Wa 29 13 1,oV 13 29] [0,1,5,8,9,12,13]))))))))) (.ops [Wa 30 9 1,oV 9 30] [0,1,8,
 9]))))))) (sq [oM 4 (.mv kF)] [4] .ret))
def Q7:List RV:=[.t 4 false]
theorem RD:aG G.tab Tryz.f102 2 Nw Q7=true:=by kernel_rfl
def Qz:Cd:=sq [ZB 1 74 0,oM 2 (.mv (kS ⟨#[]⟩))] [1] (sq [ZF 3 0 1,ZL 4 1 3,oV 2 4] [2] .ret)
def P8:List RV:=[.t 2 false]
theorem Rt:aG G.tab Tryz.f101 1 Qz P8=true:=by kernel_rfl
def PV:Cd:=sq [ZB 1 46 0,oM 2 (.mv (kS ⟨#[]⟩))] [1] (sq [ZF 3 0 1,ZL 4 1 3,oV 2 4] [2] .ret)
def NS:List RV:=[.t 2 false]
theorem Tb:aG G.tab Tryz.f103 1 PV NS=true:=by kernel_rfl
def c98:Cd:=sq [oM 4 (.mv kF)] [0,1] (sq [oV 5 0,oV 6 1,ZD 7 148 5 6,Wh 8 7 0,oV 4 8] [4] .ret)
def Ss:List RV:=[.t 4 false]
theorem k98:aG G.tab Tryz.f98 2 c98 Ss=true:=by kernel_rfl
def QE:Cd:=sq [oI 4 0] [0,1] (.seq (sq [oV 6 0,ZN 7 6,oI 8 0] [0,1,7,8] (.block 0 (.loop (sq [Yl 9 8 7] [0,1,7,8,9] (.seq (.cond (.t 9) .skip (.exit 0)) (.seq (.block 1 (sq [oV 10 8,oV 5 10] [0,1,5,7,8] (sq [oV 11 1,oV 12 0,oV 13 5,ZI 14 2 12 13,ZM 15 2 14,oM 16 (.callv (.t 11) [.t 15])] [0,1,5,7,8,16] (.cond (.t 16) (sq [oV 17 5,oV 4 17] [4] .ret) .skip)))) (.ops [Wa 18 8 1,oV 8 18] [0,1,7,
 8]))))))) (.seq (.ops [oI 4 (-1)] [4]) .ret))
def Qu:List RV:=[.t 4 false]
theorem RB:aG G.tab Tryz.f148 2 QE Qu=true:=by kernel_rfl
def c143:Cd:=sq [ZB 1 74 0,oI 2 0] [1] (.seq (sq [ZF 4 0 1,ZL 5 1 4,ZC 6 142 5,ZU 7 6] [1,7] (.cond (.t 7) (sq [oI 2 7] [2] .ret) .skip)) (.seq (sq [ZF 8 1 1,ZL 9 1 8,Wl 10 9 1,oV 11 10,oH 12 11 (zF 1 1),oH 13 11 (zL 1 12),oH 14 11 (wg 13 8),ZP 15 11 14,oV 16 15,oH 17 16 (zF 2 1),oH 18 16 (zL 1 17),oH 19 16 (wl 18 0),ZP 20 16 19,oV 21 20,oH 22 21 (zF 2 1),oH 23 21 (zL 1 22),oH 24 21 (wg 23 8),
 ZP 25 21 24,oV 26 25,oH 27 26 (zF 3 1),oH 28 26 (zL 1 27),oH 29 26 (wl 28 0),ZP 30 26 29,oV 31 30,oH 32 31 (zF 3 1),oH 33 31 (zL 1 32),oH 34 31 (wg 33 2),ZP 35 31 34] [1,35] (.cond (.t 35) (sq [oI 2 1] [2] (.ret)) .skip)) (.seq (sq [ZF 36 2 1,ZL 37 1 36,Wn 38 37 0,oV 39 38,oG 40 39 (zF 3 1),oG 41 39 (zL 1 40),oG 42 39 (we 41 2),ZQ 43 39 42] [1,
 43] (.cond (.t 43) (sq [oI 2 1] [2] .ret) .skip)) (sq [oI 3 0] [1,3] (.seq (sq [ZF 44 3 1,ZL 45 1 44,We 46 45 0] [1,3,46] (.cond (.t 46) (.ops [ZF 47 1 1,ZL 48 1 47,oM 49 (.conv .u64 (.t 48)),oM 50 (.bin .shl (kI 1) (.t 49)),Ws 51 50 1,oV 3 51] [1,3]) .skip)) (.seq (sq [ZF 52 4 1,ZL 53 1 52,Wl 54 53 0,oV 55 54,oH 56 55 (zF 4 1),oH 57 55 (zL 1 56),oH 58 55 (.mv (.t 3)),oH 59 55 (yg 57 58),
 ZP 60 55 59] [60] (.cond (.t 60) (sq [oI 2 1] [2] .ret) .skip)) (sq [oI 2 0] [2] .ret)))))))
def c145:Cd:=sq [oI 4 0] [0,1] (.seq (sq [oI 5 0] [0,1,5] (.block 0 (.loop (.seq (sq [oV 6 5,oV 7 0,ZN 8 7,Yl 9 6 8] [0,1,5,9] (.cond (.t 9) .skip (.exit 0))) (.seq (.block 1 (sq [oV 12 0,oV 13 5,ZI 14 2 12 13,ZF 15 0 14,ZL 16 1 15,oV 17 1,Ye 18 16 17] [0,1,5,18] (.cond (.t 18) (sq [oV 19 5,oV 4 19] [4] .ret) .skip))) (.ops [oV 10 5,Wa 11 10 1,oV 5 11] [0,1,5])))))) (sq [oI 4 (-1)] [4] .ret))
def c14:Cd:=sq [ZB 2 32 0,ZB 3 32 1,oM 4 (.mv kF)] [2,3] (.seq (sq [ZF 7 0 2,ZL 8 1 7,ZF 9 0 3,ZL 10 1 9,Yn 11 8 10,oV 12 11,oH 13 12 (zF 1 2),oH 14 12 (zL 1 13),oH 15 12 (zF 1 3),oH 16 12 (zL 1 15),oH 17 12 (yn 14 16),ZP 18 12 17,oV 19 18,oH 20 19 (zF 2 2),oH 21 19 (zL 1 20),oH 22 19 (zN 21),oH 23 19 (zF 2 3),oH 24 19 (zL 1 23),oH 25 19 (zN 24),oH 26 19 (yn 22 25),ZP 27 19 26,oV 28 27,
 oH 29 28 (zF 3 2),oH 30 28 (zL 1 29),oH 31 28 (zN 30),oH 32 28 (zF 3 3),oH 33 28 (zL 1 32),oH 34 28 (zN 33),oH 35 28 (yn 31 34),ZP 36 28 35] [2,3,36] (.cond (.t 36) (sq [oM 4 (.mv kF)] [4] .ret) .skip)) (.seq (sq [oI 5 0] [2,3,5] (.block 0 (.loop (.seq (sq [oV 37 5,ZF 38 2 2,ZL 39 1 38,ZN 40 39,Yl 41 37 40] [2,3,5,41] (.cond (.t 41) .skip (.exit 0))) (.seq (.block 1 (.seq (.draw [ZF 44 2 2,
 ZL 45 1 44,oV 46 5,ZI 47 5 45 46,ZM 48 5 47,ZF 49 2 3,ZL 50 1 49,oV 51 5,ZI 52 5 50 51,ZM 53 5 52,oM 54 (.eqa true 74 [.s,.i .i64,.i .i64,.i .i64,.i .i64] (.t 48) (.t 53))] [2,3,5,54]) (.cond (.t 54) (sq [oM 4 (.mv kF)] [4] (.ret)) .skip))) (.ops [oV 42 5,Wa 43 42 1,oV 5 43] [2,3,5])))))) (.seq (sq [oI 6 0] [2,3,6] (.block 2 (.loop (.seq (sq [oV 55 6,ZF 56 3 2,ZL 57 1 56,ZN 58 57,Yl 59 55 58] [2,
 3,6,59] (.cond (.t 59) .skip (.exit 2))) (.seq (.block 3 (.seq (.draw [ZF 62 3 2,ZL 63 1 62,oV 64 6,ZI 65 2 63 64,ZF 66 0 65,ZL 67 1 66,ZF 68 3 3,ZL 69 1 68,oV 70 6,ZI 71 2 69 70,ZF 72 0 71,ZL 73 1 72,Yn 74 67 73,oV 75 74,oH 76 75 (zF 3 2),oH 77 75 (zL 1 76),oH 78 75 (.mv (.t 6)),oH 79 75 (zI 2 77 78),oH 80 75 (zF 1 79),oH 81 75 (zL 1 80),oH 82 75 (zF 3 3),oH 83 75 (zL 1 82),oH 84 75 (.mv (.t 6)),
 oH 85 75 (zI 2 83 84),oH 86 75 (zF 1 85),oH 87 75 (zL 1 86),oH 88 75 (zD 11 81 87),oH 89 75 (zU 88),ZP 90 75 89] [2,3,6,90]) (.cond (.t 90) (sq [oM 4 (.mv kF)] [4] (.ret)) .skip))) (.ops [oV 60 6,Wa 61 60 1,oV 6 61] [2,3,6])))))) (sq [oM 4 (.mv kT)] [4] .ret))))
def TF:List RV:=[.t 4 false]
theorem k14:aG G.tab Tryz.f14 2 c14 TF=true:=by kernel_rfl
end Go.Proofs.YtnhphlmblenapaaGreatDoor
namespace Go.Proofs.YtnhphlmblenapaaGreatDoor
open Go.RowKit
open Nat renaming reduceLeDiff -> jA, reduceBEq -> jB, reduceLT -> jC, reduceEqDiff -> jD, reduceAdd -> jE, reduceSub -> jF, reduceMul -> jG
open V renaming copy -> jV, lend -> jW, lend1 -> jX, cells -> jY, boxable -> jZ
theorem cj{C:Cx}{f:FuncId}{args:List V}{σ σ1:LLV}{v:V}{K P:V->LLV->Prop}{s:Tag K}{t:Tag P}(h:Fun C f args σ (fun o σ'=>o=.ret v/\σ'=σ1))(hk:K v σ1):kf C f args σ K P s t:=
 h.mono fun o σ' ⟨e1,e2⟩=>by subst e1;subst e2;exact hk
theorem eT{n0 k:Nat}{σ' τ:LLV}{ρ:ah}{rs:List RV}{Q:Out->LLV->Prop}(hk:n0≤k)(ht:σ'.take k=τ)(hb:aj k τ=true){v:V}(h:be σ' ρ rs=some v)(hv:V.under k v=true)(hq:Q (.ret v) τ):fin n0 rs Q .normal ρ σ':=
 ⟨ρ,σ',.refl _ _ _,v,h,k,hk,by rw[ht];exact hb,hv,by rw[ht];exact hq⟩
theorem gm{σ:LLV}{k i:Nat}{cs:List V}(h:aj k σ=true)(hc:V.unders k cs=true):aj k (σ.set i cs)=true:=by
 unfold aj at h ⊢;rw[List.all_eq_true]at h ⊢;intro x hx;rcases List.mem_or_eq_of_mem_set hx with hx|rfl
 .exact h x hx
 .exact hc
theorem cv{i k n:Nat}{t:Option Bs}(h:i<n):V.unders n (pgc i t k)=true:=by
 cases t with
 | none=>rfl
 | some t=>simp[pgc,pgu,V.unders,V.under,h]
theorem KO(i:Nat)(t:Option Bs)(k:Int):(if 3≤(pgc i t k).length/\cJ (pgc i t k)=true then iR false (List.take 1 (List.drop 2 (pgc i t k)))else(tyL 1 2 (pgc i t k)).bind (iR false))=some (.d (ac k)):=by
 cases t with
 | none=>rw[if_neg (fun h=>by have:=h.1;simp[pgc,tyc]at this)];rfl
 | some t=>rw[if_pos ⟨by simp[pgc,pgu],rfl⟩];rfl
theorem B9:∀k,Lib.repeatL [32,32,32,32] k=blk k
 | 0=>rfl
 | k+1=>by
  rw[Lib.repeatL,B9 k,MA]
theorem BC(k:Nat):(blk k).length=4*k:=List.length_replicate
theorem z8(k:Nat)(hk:k≤1000)(σ:LLV):Fun G 110 [.d (ab ⟨#[32,32,32,32]⟩),.d (ac k)] σ (aP (.d (ab (bs (blk k)))) σ):=
 lX Tryz.func110 (by kernel_rfl) (by kernel_rfl) (by show(bs (blk k)).size≤maxLen;rw[bF,BC];unfold maxLen;omega) fun pr w _=>
  (Tryz.strings_Repeat ⟨#[32,32,32,32]⟩ k w (by omega) (by show 4*k≤_;omega)).mono fun e w' ⟨he,hb⟩=>⟨by rw[he];show _=Ending.returned (.string (bs (blk k)));rw[<-B9 k];rfl,hb⟩
theorem Lm(i:Nat)(t:Option Bs)(k:Int)(l:Bs)(hl:(t.getD []).length+l.length≤140737488355328)(σ:LLV)(hs:σ[i]? = some (pgc i t k)):
 Fun G 109 [.ptr i 0,.d (ab (bs l))] σ (fun o σ'=>o=.ret (.tup [.d (ac l.length),.d (.lit .nilIface)])/\σ'=σ.set i (pgc i (some (t.getD []++l)) k)):=by
 have h:=Fi i t k (bs l) (by rw[bF];exact hl) σ hs;rw[bJ,bF]at h;exact h
theorem zu(i:Nat)(t:Option Bs)(k:Nat)(ps:List ByteArray)(hk:k≤1000)(hl:(t.getD []).length+4*k+(ps.flatMap bw).length+1≤140737488355328)(hp:ps.length≤1000)(σ:LLV)(hs:σ[i]? = some (pgc i t k)):
 Fun G 51 [.ptr i 0,.d (dy ps)] σ (fun o σ'=>o=.ret (.tup [])/\σ'=σ.set i (pgc i (some (t.getD []++(blk k++(ps.flatMap bw++[10])))) k)):=by
 refine ai Tryz.func51 k51 rfl fun hb hw=>?_;have hi:i<σ.length:=(List.getElem?_eq_some_iff.1 hs).1;have h1:∀X:List V,(σ.set i X)[i]? = some X:=fun X=>List.getElem?_set_self hi;have h2:∀X Y:List V,(σ.set i X).set i Y=σ.set i Y:=fun X Y=>List.set_set X
 have bbt:∀t:Bs,aj (σ.set i (pgc i (some t) k)).length (σ.set i (pgc i (some t) k))=true:=fun t=>by
  rw[List.length_set];exact gm hb (cv hi)
 have hbk:=BC k;unfold c51;simp -dsimp only[aw,jV,jW,jX,jY,jZ,jA,reduceIte,reduceCtorEq,jB,jC,jD,jE,jF,jG,hs,KO];refine aA (z8 k hk _) ?_;simp -dsimp only[aw,jV,jW,jX,jY,jZ,jA,reduceIte,reduceCtorEq,jB,jC,jD,jE,jF,jG];refine fm (Lm i t k (blk k) (by omega) _ hs) ?_ ?_
 .simp -dsimp only[aw,jV,jW,jX,jY,jZ,jA,reduceIte,reduceCtorEq,jB,jC,jD,jE,jF,jG]
 simp -dsimp only[aw,jV,jW,jX,jY,jZ,jA,reduceIte,reduceCtorEq,jB,jC,jD,jE,jF,jG,dy,TW];refine aN [0,15,16,17] (fun(j:Nat) ρ σ'=>ρ=[(0,.ptr i 0),(15,.d (.sl (ps.map fun s=>[ab s]))),(16,aB .i64 ps.length),(17,aB .i64 j)]/\σ'=σ.set i (pgc i (some (t.getD []++blk k++(ps.take j).flatMap bw)) k)) ps.length ⟨rfl,by simp⟩ ?_ _;rintro j ρ' σ' hj ⟨rfl,rfl⟩
 have hlen:∀j,((ps.take j).flatMap bw).length≤(ps.flatMap bw).length:=fun j=>by
  have:=congrArg List.length (Ua (f:=bw) (xs:=ps.take j) (ys:=ps.drop j));rw[List.take_append_drop,TY]at this;omega
 by_cases hlt:j<ps.length
 .have wj:=aH hlt (show ps.length≤9223372036854775807 by omega);have hn:(ps.take (j+1)).flatMap bw=(ps.take j).flatMap bw++bw ps[j]:=by rw[TZ hlt,Ua];simp
  have hlj:=hlen (j+1);rw[hn,TY]at hlj;simp -dsimp only[aw,jV,jW,jX,jY,jZ,jA,reduceIte,reduceCtorEq,jB,jC,jD,jE,jF,jG,TU,hlt,decide_true,T3 hlt];refine cj (Fi i _ k ps[j] (by simp only[Option.getD_some,TY];have:ps[j].size=(bw ps[j]).length:=rfl;omega) _ (h1 _)) ?_;simp -dsimp only[aw,jV,jW,jX,jY,jZ,jA,reduceIte,reduceCtorEq,jB,jC,jD,jE,jF,jG,wj,h2];exact⟨hlt,Nxt.same (by simp) (bbt _) (by simp[aq,V.under];exact hi) ⟨rfl,by rw[hn];simp[bw,TX]⟩⟩
 .have hj':j=ps.length:=by omega
  subst hj';simp -dsimp only[aw,jV,jW,jX,jY,jZ,jA,reduceIte,reduceCtorEq,jB,jC,jD,jE,jF,jG,TU,hlt,decide_false];refine cj (Lm i _ k [10] (by simp only[Option.getD_some,TY,Ub,T4,T5];omega) _ (h1 _)) ?_;simp -dsimp only[aw,jV,jW,jX,jY,jZ,jA,reduceIte,reduceCtorEq,jB,jC,jD,jE,jF,jG,h2];refine eT (v:=.tup []) (k:=σ.length) (τ:=σ.set i (pgc i (some (t.getD []++blk k++(ps.take ps.length).flatMap bw++[10])) k)) (Uf _) ?_ (gm hb (cv hi)) rfl rfl ⟨rfl,?_⟩
  .rw[T0 (by simp)];simp[TX]
  .first|rfl|(rw[Ub,TX,TX,TX])|simp[TX]
theorem mF(sep:Bs):∀L:List Bs,Lib.join L sep=jk sep L
 | []=>rfl
 | [a]=>by simp[Lib.join,T6,jk]
 | a::b::r=>by
  have:=mF sep (b::r);unfold Lib.join T6 at this;rw[jk,<-this];simp[Lib.join,T6]
theorem Cf{s:ByteArray}(h:fc s=true):s.data.toList=(ff s 91).data.toList++91::(Lib.decDigits (ci s).toNat++[93]):=by
 obtain⟨-,-,-,g4⟩:=dX h;have:=congrArg (fun s:ByteArray=>s.data.toList) g4;simp only[iP,rH]at this;rw[<-this];simp[aa]
theorem Ko{s:ByteArray}(h:fc s=true):lS s 91=bs (Lib.decDigits (ci s).toNat++[93]):=by
 obtain⟨g1,-,-,-⟩:=dX h;have hl:=Cf h;have hix:=sd (ff s 91).data.toList (Lib.decDigits (ci s).toNat++[93]) (nu (nt g1));rw[<-hl]at hix;unfold lS;rw[hix,if_neg (by omega)];have hsz:s.size=s.data.toList.length:=rfl
 have key:(s.extract (((ff s 91).data.toList.length:Nat)+1) s.size).data.toList=Lib.decDigits (ci s).toNat++[93]:=by
  have e:(s.extract (((ff s 91).data.toList.length:Nat)+1) s.size).data.toList=s.data.toList.drop ((ff s 91).data.toList.length+1):=by
   simp;apply T0;rw[List.length_drop];have:s.size=s.data.size:=rfl;first|(simp;done)|(simp;omega)
  rw[e,hl,<-List.drop_drop,List.drop_left];rfl
 show s.extract ((((ff s 91).data.toList.length:Nat):Int).toNat+1) s.size=_;rw[Int.toNat_natCast,<-key,ec]
theorem E2{s:ByteArray}(h:fc s=true):mV s 91=true:=by
 unfold fc at h;simp only[Bool.and_eq_true]at h;exact h.1.1
theorem Ih{s:ByteArray}(h:aS s=true):mV s 91=false:=by
 unfold mV;rw[oA _ (nu (nt h))];rfl
theorem lA{a b c:Bs}(h:a++b=c)(hl:a.length+b.length≤9223372036854775807):bE .add (V.d (ab (bs a))) (V.d (ab (bs b)))=some (V.d (ab (bs c))):=by rw[bK _ _ hl,h]
theorem Ck(s:ByteArray)(σ:LLV):Fun G 241 [.d (ab s),.d (ab ⟨#[91]⟩)] σ (aP (.tup [.d (ab (ff s 91)),.d (ab (lS s 91)),.d (.lit (.bool (mV s 91)))]) σ):=
 xq Tryz.func241 (by kernel_rfl) (by kernel_rfl) (fun _ _ _ h=>by cases h) fun M bm w vs hG hM hl hr=>match vs,hl with
  | [v,v'],_=>by
   have h1:Rep M bm (.d (ab s)) v:=hr 0 (by simp) (by simp);have h2:Rep M bm (.d (ab ⟨#[91]⟩)) v':=hr 1 (by simp) (by simp);cases h1 with|d h1=>cases h1 with|lit _ hf=>cases h2 with|d h2=>cases h2 with|lit _ _=>
   have hf:s.size≤maxLen:=hf;refine(Bg s 91 w (by simpa[maxLen]using hf)).mono fun en w' ⟨g1,g2⟩=>⟨_,g1,g2,?_⟩
   refine .tup (vs:=[.string (ff s 91),.string (lS s 91),.bool (mV s 91)]) rfl fun i g g'=>?_
   match i,g with
   | 0,_=>exact .d (.lit _ (Ue (BV s 91) hf))
   | 1,_=>exact .d (.lit _ (Ue (A7 s 91) hf))
   | 2,_=>exact .d (.lit _ trivial)
theorem uT(s:ByteArray)(h:bv s=true)(σ:LLV):Fun G 212 [.d (ab s)] σ (aP (.d (ab s)) σ):=by
 refine ai Tryz.func212 TR rfl fun hb hw=>?_;unfold c212;have hc:=Ck s;by_cases hel:fc s=true
 .obtain⟨g1,g2,g3,-⟩:=dX hel;have hl:=dg g1;have h5:=jl (ci s).toNat (by omega);have hss:s=bs ((ff s 91).data.toList++91::(Lib.decDigits (ci s).toNat++[93])):=by rw[<-Cf hel,ec]
  have hA:ff s 91=bs (ff s 91).data.toList:=(ec _).symm;rw[E2 hel,Ko hel]at hc;generalize (ff s 91).data.toList=x at *;generalize Lib.decDigits (ci s).toNat=d at *;rw[hA]at hc;have a1:bE .add (V.d (ab (bs x))) (V.d (ab ⟨#[91]⟩))=some (V.d (ab (bs (x++[91])))):=bK x [91] (by simp;omega);have a2:=lA (a:=x++[91]) (b:=d) (c:=x++91::d) (by simp) (by simp;omega);have a3:bE .add (V.d (ab (bs (x++91::d)))) (V.d (ab ⟨#[93]⟩))=_:=lA (a:=x++91::d) (b:=[93]) (c:=x++91::(d++[93])) (by simp) (by simp;omega);simp -dsimp only[aw,jV,jW,jX,jY,jZ,jA,reduceIte,reduceCtorEq,jB,jC,jD,jE,jF,jG];refine ae (hc _) ?_;simp -dsimp only[aw,jV,jW,jX,jY,jZ,jA,reduceIte,reduceCtorEq,jB,jC,jD,jE,jF,jG,a1];refine ae (yb d (by omega) _) ?_;simp -dsimp only[aw,jV,jW,jX,jY,jZ,jA,reduceIte,reduceCtorEq,jB,jC,jD,jE,jF,jG,a2,a3];rw[<-hss]
  first|exact av hb rfl rfl|exact au hb rfl rfl
 .have hn:aS s=true:=by
   unfold bv at h;rw[Bool.or_eq_true]at h;exact h.resolve_left hel
  rw[Ih hn]at hc;simp -dsimp only[aw,jV,jW,jX,jY,jZ,jA,reduceIte,reduceCtorEq,jB,jC,jD,jE,jF,jG];refine ae (hc _) ?_;simp -dsimp only[aw,jV,jW,jX,jY,jZ,jA,reduceIte,reduceCtorEq,jB,jC,jD,jE,jF,jG];first|exact av hb rfl rfl|exact au hb rfl rfl
theorem tc(l:List ByteArray)(h:∀s,s∈l->bv s=true)(hl:l.length≤1200000)(σ:LLV):Fun G 217 [.d (dy l)] σ (aP (.d (ab (bs (jk [44,32] (l.map bw))))) σ):=by
 have hsl:=sU h;refine ai Tryz.func217 TP rfl fun hb hw=>?_;unfold OX;simp -dsimp only[aw,jV,jW,jX,jY,jZ,jA,reduceIte,reduceCtorEq,jB,jC,jD,jE,jF,jG,dy,TW];refine aN [3,6,7,8] (fun(j:Nat) ρ σ'=>ρ=[(3,.own 9 1 ((l.take j).map fun s=>[ab s])),(6,.d (.sl (l.map fun s=>[ab s]))),(7,aB .i64 l.length),(8,aB .i64 j)]/\σ'=σ) l.length ⟨rfl,rfl⟩ ?_ _;rintro j ρ' σ' hj ⟨rfl,rfl⟩;by_cases hlt:j<l.length
 .have wj:=aH hlt (show l.length≤9223372036854775807 by omega);simp -dsimp only[aw,jV,jW,jX,jY,jZ,jA,reduceIte,reduceCtorEq,jB,jC,jD,jE,jF,jG,TU,hlt,decide_true,T3 hlt];refine ae (uT l[j] (h _ (Ud hlt)) _) ?_;simp -dsimp only[aw,jV,jW,jX,jY,jZ,jA,reduceIte,reduceCtorEq,jB,jC,jD,jE,jF,jG];refine bI (by first|omega|(simp only[TW,Uc];omega)) ?_;simp -dsimp only[aw,jV,jW,jX,jY,jZ,jA,reduceIte,reduceCtorEq,jB,jC,jD,jE,jF,jG,wj];exact⟨hlt,Nxt.same (Uf _) hb (by simp[aq,V.under]) ⟨by rw[TZ hlt,T7];rfl,rfl⟩⟩
 .simp -dsimp only[aw,jV,jW,jX,jY,jZ,jA,reduceIte,reduceCtorEq,jB,jC,jD,jE,jF,jG,TU,hlt,decide_false];rw[T0 (by omega)];have hj:=qj [44,32] l (by omega) (by rw[mF];exact Ue hsl (by omega));rw[mF]at hj;refine ae (hj _) ?_;simp -dsimp only[aw,jV,jW,jX,jY,jZ,jA,reduceIte,reduceCtorEq,jB,jC,jD,jE,jF,jG];first|exact av hb rfl rfl|exact au hb rfl rfl
structure WtFit(w:Wt):Prop where
 l0 : -9223372036854775808≤w.lo
 l1:w.lo≤9223372036854775807
 h0 : -9223372036854775808≤w.hi
 h1:w.hi≤9223372036854775807
 w0 : -9223372036854775808≤w.w
 w1:w.w≤9223372036854775807
theorem E6{w:Wt}(h:wtB w=true):WtFit w:=by
 unfold wtB at h;simp only[Bool.and_eq_true,decide_eq_true_eq]at h;exact⟨by omega,by omega,by omega,by omega,by omega,by omega⟩
theorem JW{w:Wt}(h:WtFit w):(wtT w).length≤68:=by
 have h1:=gF h.l0 h.l1;have h2:=gF h.h0 h.h1;have h3:=gF h.w0 h.w1;unfold wtT lC;split<;>split<;>simp only[TY,T4,T5]<;>omega
theorem ze(w:Wt)(h:WtFit w)(σ:LLV):Fun G 243 [.agg ((dwt w).map V.d)] σ (aP (.d (ab (bs (wtT w)))) σ):=by
 have h1:=gF h.l0 h.l1;have h2:=gF h.h0 h.h1;have h3:=gF h.w0 h.w1;have f1:=fun σ=>du w.lo h.l0 h.l1 σ;have f2:=fun σ=>du w.hi h.h0 h.h1 σ;have f3:=fun σ=>du w.w h.w0 h.w1 σ;refine ai Tryz.func243 SW rfl fun hb hw=>?_;unfold Qj wtT lC;generalize Lib.itoa w.lo=A at *;generalize Lib.itoa w.hi=B at *;generalize Lib.itoa w.w=E at *;have len4:∀(c d:UInt8) (X:Bs),(32::58::c::d::X:Bs).length=X.length+4:=fun c d X=>by simp
 simp -dsimp only[aw,jV,jW,jX,jY,jZ,jA,reduceIte,reduceCtorEq,jB,jC,jD,jE,jF,jG,dwt,T8,T9];refine ae (f1 _) ?_;by_cases he:w.hi=w.lo
 .have u1:bE .add (V.d (ab (bs A))) (V.d (ab ⟨#[32,58,61,32]⟩))=_:=bK A [32,58,61,32] (by simp;omega);have u2:bE .add (V.d (ab (bs A))) (V.d (ab ⟨#[32,58,47,32]⟩))=_:=bK A [32,58,47,32] (by simp;omega);have v1:=lA (a:=A++[32,58,61,32]) (b:=E) (c:=A++32::58::61::32::E) (by simp) (by simp;omega);have v2:=lA (a:=A++[32,58,47,32]) (b:=E) (c:=A++32::58::47::32::E) (by simp) (by simp;omega);rw[if_pos he];cases hE:w.each with
  | true=>
   simp -dsimp only[aw,jV,jW,jX,jY,jZ,jA,reduceIte,reduceCtorEq,jB,jC,jD,jE,jF,jG,he,decide_true,decide_false,hE,u1];refine ae (f3 _) ?_;simp -dsimp only[aw,jV,jW,jX,jY,jZ,jA,reduceIte,reduceCtorEq,jB,jC,jD,jE,jF,jG,v1];first|exact av hb rfl rfl|exact au hb rfl rfl
  | false=>
   simp -dsimp only[aw,jV,jW,jX,jY,jZ,jA,reduceIte,reduceCtorEq,jB,jC,jD,jE,jF,jG,he,decide_true,decide_false,hE,u2];refine ae (f3 _) ?_;simp -dsimp only[aw,jV,jW,jX,jY,jZ,jA,reduceIte,reduceCtorEq,jB,jC,jD,jE,jF,jG,v2];first|exact av hb rfl rfl|exact au hb rfl rfl
 .have s1:bE .add (V.d (ab ⟨#[32,46,46,32]⟩)) (V.d (ab (bs B)))=some (V.d (ab (bs (32::46::46::32::B)))):=bK [32,46,46,32] B (by simp only[T4,T5];omega);have s2:=lA (a:=A) (b:=32::46::46::32::B) (c:=A++32::46::46::32::B) rfl (by simp;omega);have u1:bE .add (V.d (ab (bs (A++32::46::46::32::B)))) (V.d (ab ⟨#[32,58,61,32]⟩))=_:=lA (b:=[32,58,61,32]) (c:=A++32::46::46::32::(B++[32,58,61,32])) (by simp) (by simp;omega);have u2:bE .add (V.d (ab (bs (A++32::46::46::32::B)))) (V.d (ab ⟨#[32,58,47,32]⟩))=_:=lA (b:=[32,58,47,32]) (c:=A++32::46::46::32::(B++[32,58,47,32])) (by simp) (by simp;omega);have v1:=lA (a:=A++32::46::46::32::(B++[32,58,61,32])) (b:=E) (c:=A++32::46::46::32::(B++32::58::61::32::E)) (by simp) (by simp;omega)
  have v2:=lA (a:=A++32::46::46::32::(B++[32,58,47,32])) (b:=E) (c:=A++32::46::46::32::(B++32::58::47::32::E)) (by simp) (by simp;omega);rw[if_neg he];simp -dsimp only[aw,jV,jW,jX,jY,jZ,jA,reduceIte,reduceCtorEq,jB,jC,jD,jE,jF,jG,decide_eq_false he,decide_true,decide_false];refine ae (f2 _) ?_;cases hE:w.each with
  | true=>
   simp -dsimp only[aw,jV,jW,jX,jY,jZ,jA,reduceIte,reduceCtorEq,jB,jC,jD,jE,jF,jG,s1,s2,hE,u1];refine ae (f3 _) ?_;simp -dsimp only[aw,jV,jW,jX,jY,jZ,jA,reduceIte,reduceCtorEq,jB,jC,jD,jE,jF,jG,v1];first|exact av hb rfl rfl|exact au hb rfl rfl
  | false=>
   simp -dsimp only[aw,jV,jW,jX,jY,jZ,jA,reduceIte,reduceCtorEq,jB,jC,jD,jE,jF,jG,s1,s2,hE,u2];refine ae (f3 _) ?_;simp -dsimp only[aw,jV,jW,jX,jY,jZ,jA,reduceIte,reduceCtorEq,jB,jC,jD,jE,jF,jG,v2];first|exact av hb rfl rfl|exact au hb rfl rfl
theorem tS(l:List Wt)(h:∀w,w∈l->WtFit w)(hl:l.length≤1200000)(σ:LLV):Fun G 213 [.d (.sl (l.map dwt))] σ (aP (.d (ab (bs (rc l)))) σ):=by
 have hsl:=ro [44,32] 68 (l.map wtT) fun a ha=>by
  obtain⟨w,hw,rfl⟩:=List.mem_map.1 ha;exact JW (h w hw)
 rw[TW]at hsl;refine ai Tryz.func213 Rp rfl fun hb hw=>?_;unfold c213 rc;simp -dsimp only[aw,jV,jW,jX,jY,jZ,jA,reduceIte,reduceCtorEq,jB,jC,jD,jE,jF,jG,TW];refine aN [3,6,7,8] (fun(j:Nat) ρ σ'=>ρ=[(3,.own 9 1 (((l.take j).map fun w=>bs (wtT w)).map fun s=>[ab s])),(6,.d (.sl (l.map dwt))),(7,aB .i64 l.length),(8,aB .i64 j)]/\σ'=σ) l.length ⟨rfl,rfl⟩ ?_ _;rintro j ρ' σ' hj ⟨rfl,rfl⟩;by_cases hlt:j<l.length
 .have wj:=aH hlt (show l.length≤9223372036854775807 by omega);have hwf:=ze l[j] (h _ (Ud hlt));simp only[dwt,T8,T9]at hwf;have hdl:(dwt l[j])=[ac l[j].lo,ac l[j].hi,ac l[j].w,.lit (.bool l[j].each)]:=rfl;simp -dsimp only[aw,jV,jW,jX,jY,jZ,jA,reduceIte,reduceCtorEq,jB,jC,jD,jE,jF,jG,TU,hlt,decide_true,T3 hlt,hdl,T8,T9];refine ae (hwf _) ?_;simp -dsimp only[aw,jV,jW,jX,jY,jZ,jA,reduceIte,reduceCtorEq,jB,jC,jD,jE,jF,jG];refine bI (by first|omega|(simp only[TW,Uc];omega)) ?_;simp -dsimp only[aw,jV,jW,jX,jY,jZ,jA,reduceIte,reduceCtorEq,jB,jC,jD,jE,jF,jG,wj];exact⟨hlt,Nxt.drop (l:=[_]) (Uf _) hb (by simp[aq,V.under]) ⟨by rw[TZ hlt,T7,T7];rfl,rfl⟩⟩
 .simp -dsimp only[aw,jV,jW,jX,jY,jZ,jA,reduceIte,reduceCtorEq,jB,jC,jD,jE,jF,jG,TU,hlt,decide_false];rw[T0 (by omega)]
  have hm:(l.map fun w=>bs (wtT w)).map (·.data.toList)=l.map wtT:=by
   rw[List.map_map];exact List.map_congr_left fun w _=>bJ _
  have hj:=qj [44,32] (l.map fun w=>bs (wtT w)) (by rw[TW];omega) (by rw[mF,hm];exact Ue hsl (by simp only[T4,T5];omega));rw[mF,hm]at hj;simp only[dy]at hj;refine ae (hj _) ?_;simp -dsimp only[aw,jV,jW,jX,jY,jZ,jA,reduceIte,reduceCtorEq,jB,jC,jD,jE,jF,jG];first|exact av hb rfl rfl|exact au hb rfl rfl
theorem lb(m:Int)(σ:LLV):Fun G 112 [.d (ac m)] σ (aP (.d (ab (bs (nK m)))) σ):=by
 refine ai Tryz.func112 SH rfl fun hb hw=>?_;unfold OE nK;by_cases h1:m=1
 .rw[if_pos h1];simp -dsimp only[aw,jV,jW,jX,jY,jZ,jA,reduceIte,reduceCtorEq,jB,jC,jD,jE,jF,jG,h1,TV,decide_true,decide_false];first|exact av hb rfl rfl|exact au hb rfl rfl
 .rw[if_neg h1];by_cases h2:m=2
  .rw[if_pos h2];simp -dsimp only[aw,jV,jW,jX,jY,jZ,jA,reduceIte,reduceCtorEq,jB,jC,jD,jE,jF,jG,h2,TV,decide_true,decide_false];first|exact av hb rfl rfl|exact au hb rfl rfl
  .rw[if_neg h2];simp -dsimp only[aw,jV,jW,jX,jY,jZ,jA,reduceIte,reduceCtorEq,jB,jC,jD,jE,jF,jG,decide_eq_false h1,decide_eq_false h2];first|exact av hb rfl rfl|exact au hb rfl rfl
end Go.Proofs.YtnhphlmblenapaaGreatDoor
