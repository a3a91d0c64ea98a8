import Derived.Test.YthekkgfmagliiaaGreatDoorElem
set_option linter.unusedVariables false
set_option linter.unusedSimpArgs false
set_option linter.unusedSectionVars false
set_option maxRecDepth 100000
namespace Go.Proofs.YthekkgfmagliiaaGreatDoor
open Go.RowKit
def c7:Cd:=sq [oM 2 (.new 29 zz1),oI 3 0,oI 4 0] [0,2] (sq [oM 5 (.new 29 zz1)] [0,2,5] (sq [oV 9 0,oM 10 (.mkfn 23 [.t 5]),ZD 11 22 9 10,oV 8 11,ZX 12 8 0,ZX 13 8 1,oV 6 12,oV 7 13] [2,5,6,7] (.seq (sq [oV 14 7,We 15 14 0] [2,5,6,7,15] (.cond (.t 15) (.ops [ZM 16 21 5,ZC 17 25 16,oV 7 17] [2,5,6,7]) .skip)) (.seq (sq [oV 18 7,Wn 19 18 0] [2,5,6,7,19] (.cond (.t 19) (sq [oM 20 (.bld zz1 []),
 oV 21 6,oV 22 7,oS 21 2 20,oV 3 21,oV 4 22] [2,3,4] .ret) .skip)) (sq [ZM 23 21 5,oS 21 2 23,oI 3 0,oI 4 0] [2,3,4] .ret)))))
def rs7:List RV:=[.c 2 21 true,.t 3 false,.t 4 false]
theorem k7:aM G.tab Tryz.f7 1 c7 rs7=true:=by kernel_rfl
def c8:Cd:=sq [ZB 1 29 0,oM 2 (.mv (kS ⟨#[]⟩))] [1] (.seq (sq [ZM 4 21 1,ZC 5 25 4,Wn 6 5 0] [1,6] (.cond (.t 6) (sq [oM 2 (.mv (kS ⟨#[]⟩))] [2] .ret) .skip)) (sq [ZF 7 0 1,ZL 8 1 7,oM 9 (.bin .add (kS ⟨#[112,114,111,112,101,114,116,121,32]⟩) (.t 8)),oM 10 (.bin .add (.t 9) (kS ⟨#[58,32]⟩)),oV 3 10] [1,3] (.seq (.block 0 (sq [ZF 18 1 1,ZL 19 1 18,oV 17 19] [1,3,17] (.cond (.t 17) (.ops [oV 20 3,
 oM 21 (.bin .add (.t 20) (kS ⟨#[112,108,97,105,110,32]⟩)),oV 3 21] [1,3]) (sq [ZF 23 2 1,ZL 24 1 23,oV 22 24] [1,3,22] (.cond (.t 22) (.ops [oV 25 3,ZF 26 3 1,ZM 27 9 26,ZC 28 26 27,oM 29 (.bin .add (.t 28) (kS ⟨#[32,124,45,62,32]⟩)),Ya 30 25 29,oV 3 30] [1,3]) (.ops [oV 11 3,ZF 12 3 1,ZM 13 9 12,ZC 14 26 13,oM 15 (.bin .add (.t 14) (kS ⟨#[32,124,61,62,32]⟩)),Ya 16 11 15,oV 3 16] [1,
 3])))))) (sq [oV 31 3,ZF 32 12 1,ZM 33 9 32,ZC 34 26 33,Ya 35 31 34,oM 36 (.bin .add (.t 35) (kS ⟨#[59]⟩)),oV 2 36] [2] .ret))))
def rs8:List RV:=[.t 2 false]
theorem k8:aM G.tab Tryz.f8 1 c8 rs8=true:=by kernel_rfl
def c12:Cd:=sq [oM 2 (.new 27 zz0),oI 3 0,oI 4 0] [0,2] (sq [oM 5 (.new 27 zz0)] [0,2,5] (sq [oV 9 0,oM 10 (.mkfn 31 [.t 5]),ZD 11 22 9 10,oV 8 11,ZX 12 8 0,ZX 13 8 1,oV 6 12,oV 7 13] [2,5,6,7] (.seq (sq [oV 14 7,We 15 14 0] [2,5,6,7,15] (.cond (.t 15) (.ops [ZM 16 9 5,ZC 17 33 16,oV 7 17] [2,5,6,7]) .skip)) (.seq (sq [oV 18 7,Wn 19 18 0] [2,5,6,7,19] (.cond (.t 19) (sq [oM 20 (.bld zz0 []),
 oV 21 6,oV 22 7,oS 9 2 20,oV 3 21,oV 4 22] [2,3,4] .ret) .skip)) (sq [ZM 23 9 5,oS 9 2 23,oI 3 0,oI 4 0] [2,3,4] .ret)))))
def I8:List RV:=[.c 2 9 true,.t 3 false,.t 4 false]
theorem k12:aM G.tab Tryz.f12 1 c12 I8=true:=by kernel_rfl
def c15:Cd:=sq [ZB 1 27 0,oM 2 (.mv (kS ⟨#[]⟩))] [1] (.seq (sq [ZM 3 9 1,ZC 4 33 3,Wn 5 4 0] [1,5] (.cond (.t 5) (sq [oM 2 (.mv (kS ⟨#[]⟩))] [2] .ret) .skip)) (sq [ZM 6 9 1,ZC 7 26 6,oV 2 7] [2] .ret))
def Rm:List RV:=[.t 2 false]
theorem k15:aM G.tab Tryz.f15 1 c15 Rm=true:=by kernel_rfl
def c22:CdD:=.seq (.ops [oM 4 (.new 3 zz6),oM 5 (.new 30 zz6)] [0,1,4,5]) (.seq (.ops [oV 9 0,ZC 10 43 9,oV 8 10,ZX 11 8 0,ZX 12 8 1,ZX 13 8 2,oV 6 11,oS 1 4 12,oS 1 5 13] [1,4,5,6]) (.seq (.seq (.ops [ZL 14 1 5,Wn 15 14 0] [1,4,5,6,15]) (.cond (.t 15) (.seq (.drawg [(ZL 16 1 4,.calm 0 0),(ZL 17 1 5,.calm 0 1),(oS 1 4 16,.act),(oS 1 5 17,.act)] [4,5]) (.ret)) .skip)) (.dfr 18 44 [.t 4,
 .t 5] (.seq (.ops [oV 19 6,oM 20 (.bld [.nil,.d (.lit (.int .i64 0)),.d (.lit (.int .i64 0))] [(0,1,.t 19)]),ZB 21 72 20,oV 7 21] [1,4,5,7]) (.seq (.ops [oV 22 1,oV 23 7,oM 24 (.callv (.t 22) [.t 23])] [4,5,7]) (.seq (.seq (.draw [oV 25 7,ZK 26 25,ZF 27 1 26,ZL 28 1 27,oV 29 7,ZK 30 29,ZF 31 0 30,ZL 32 1 31,ZN 33 32,Yl 34 28 33] [4,5,7,34]) (.cond (.t 34) (.ops [oV 35 7,ZC 36 45 35] [4,5,
 7]) (.skip))) (.seq (.drawg [(oV 37 7,.free 0),(ZK 38 37,.free 0),(ZF 39 2 38,.free 0),(ZL 40 1 39,.calm 0 1),(⟨none,.sto 1 (.t 4) (kI 0),none⟩,.act),(oS 1 5 40,.act)] [4,5]) .ret)))))))
def xX:List RV:=[.c 4 1 false,.c 5 1 false]
theorem k22:xm G.tab Tryz.f22 2 c22 xX=true:=by kernel_rfl
def c23:Cd:=.ops [oV 3 0,ZC 4 24 3,oS 21 1 4] []
def Rq:List RV:=[]
theorem k23:aM G.tab Tryz.f23 2 c23 Rq=true:=by kernel_rfl
def c24:Cd:=sq [oM 2 (.new 29 zz1)] [0,2] (sq [oV 4 0,oM 5 (.mks 9 1 [.k (.d (.lit (.string ⟨#[112,114,111,112,101,114,116,121]⟩)))]),ZD 6 46 4 5] [0,2] (sq [oV 7 0,oM 8 (.call 47 [.t 7,.k (.d (.lit (.int .i64 1)))]),oM 9 (.fld 2 1 false (.t 8)),oM 10 (.bld zz1 [(0,1,.t 9)]),oM 3 (.new 29 zz1),oS 21 3 10] [0,2,3] (sq [oV 11 0,oM 12 (.mks 9 1 [.k (.d (.lit (.string ⟨#[58]⟩)))]),ZD 13 46 11 12] [0,
 2,3] (.seq (sq [oV 14 0,oM 15 (.call 48 [.t 14,.k (.d (.lit (.string ⟨#[112,108,97,105,110]⟩)))])] [0,2,3,15] (.cond (.t 15) (.ops [ZF 16 1 3,⟨none,.sto 1 (.t 16) kT,none⟩] [0,2,3]) (sq [oV 17 0,ZC 18 32 17,ZF 19 3 3,oS 9 19 18] [0,2,3] (sq [oV 20 0,oM 21 (.mks 9 1 [.k (.d (.lit (.string ⟨#[124]⟩)))]),ZD 22 46 20 21] [0,2,3] (sq [oV 23 0,oM 24 (.call 48 [.t 23,.k (.d (.lit (.string ⟨#[45,
 62]⟩)))]),ZF 25 2 3,oS 1 25 24] [0,2,3] (sq [ZF 26 2 3,ZL 27 1 26,ZU 28 27] [0,2,3,28] (.cond (.t 28) (.ops [oV 29 0,oM 30 (.mks 9 1 [.k (.d (.lit (.string ⟨#[61,62]⟩)))]),ZD 31 46 29 30] [0,2,3]) .skip))))))) (sq [oV 32 0,ZC 33 32 32,ZF 34 12 3,oS 9 34 33] [0,2,3] (sq [oV 35 0,oM 36 (.mks 9 1 [.k (.d (.lit (.string ⟨#[59]⟩)))]),ZD 37 46 35 36] [2,3] (sq [ZM 38 21 3,oS 21 2 38] [2] (.ret))))))))
def IB:List RV:=[.c 2 21 true]
theorem k24:aM G.tab Tryz.f24 1 c24 IB=true:=by kernel_rfl
def c26:Cd:=sq [ZB 1 27 0,oM 2 (.mv (kS ⟨#[]⟩))] [1] (.seq (sq [ZF 4 0 1,ZL 5 1 4] [1,5] (.block 0 (sq [We 7 5 4,oV 6 7] [1,5,6] (.cond (.t 6) (sq [ZF 8 8 1,ZL 9 1 8,oM 10 (.call 51 [.t 9,.k (.d (.lit (.string ⟨#[32,111,114,32]⟩))),.k (.d (.lit (.int .i64 2)))]),oV 2 10] [2] .ret) (sq [We 12 5 5,oV 11 12] [1,5,11] (.cond (.t 11) (sq [ZF 13 8 1,ZL 14 1 13,oM 15 (.call 51 [.t 14,
 .k (.d (.lit (.string ⟨#[32,97,110,100,32]⟩))),.k (.d (.lit (.int .i64 3)))]),oV 2 15] [2] .ret) (sq [We 17 5 2,oV 16 17] [1,5,16] (.cond (.t 16) (sq [ZM 18 9 1,ZC 19 52 18,oV 3 19] [1,3] (.seq (.seq (.ops [ZF 20 1 1,ZL 21 1 20,ZF 22 2 1,ZL 23 1 22,Yn 24 21 23] [1,3,24]) (.cond (.t 24) (.ops [oV 25 3,oM 26 (.bin .add (kS ⟨#[91]⟩) (.t 25)),oM 27 (.bin .add (.t 26) (kS ⟨#[93]⟩)),oV 3 27] [1,
 3]) .skip)) (.seq (.draw [ZF 28 8 1,ZL 29 1 28,oM 30 (.ia 9 (.t 29) (kI 0)),ZM 31 9 30,oM 32 (.call 53 [.t 31,.k (.d (.lit (.int .i64 3)))]),oM 33 (.bin .add (.t 32) (kS ⟨#[32,35,35]⟩)),oV 34 3,Ya 35 33 34,oM 36 (.bin .add (.t 35) (kS ⟨#[32]⟩)),ZF 37 8 1,ZL 38 1 37,oM 39 (.ia 9 (.t 38) (kI 1)),ZM 40 9 39,oM 41 (.call 53 [.t 40,.k (.d (.lit (.int .i64 4)))]),Ya 42 36 41,
 oV 2 42] [2]) .ret))) (sq [We 44 5 7,oV 43 44] [1,5,43] (.cond (.t 43) (.seq (.draw [ZF 45 3 1,ZM 46 4 45,ZC 47 54 46,oM 48 (.bin .add (kS ⟨#[104,111,108,100,32,123]⟩) (.t 47)),oM 49 (.bin .add (.t 48) (kS ⟨#[125,32,105,110,32]⟩)),ZF 50 8 1,ZL 51 1 50,oM 52 (.ia 9 (.t 51) (kI 0)),ZM 53 9 52,oM 54 (.call 53 [.t 53,.k (.d (.lit (.int .i64 4)))]),Ya 55 49 54,oV 2 55] [2]) .ret) (sq [We 57 5 3,
 oV 56 57] [1,5,56] (.cond (.t 56) (.seq (.draw [ZF 58 8 1,ZL 59 1 58,oM 60 (.ia 9 (.t 59) (kI 0)),ZM 61 9 60,oM 62 (.call 53 [.t 61,.k (.d (.lit (.int .i64 5)))]),oM 63 (.bin .add (.t 62) (kS ⟨#[32,91,42]⟩)),ZM 64 9 1,ZC 65 52 64,Ya 66 63 65,oM 67 (.bin .add (.t 66) (kS ⟨#[93]⟩)),oV 2 67] [2]) .ret) (sq [We 69 5 6,oV 68 69] [1,68] (.cond (.t 68) (.seq (.draw [ZF 70 8 1,ZL 71 1 70,
 oM 72 (.ia 9 (.t 71) (kI 0)),ZM 73 9 72,ZC 74 26 73,oM 75 (.bin .add (kS ⟨#[40]⟩) (.t 74)),oM 76 (.bin .add (.t 75) (kS ⟨#[44,32]⟩)),ZF 77 7 1,ZL 78 1 77,Ya 79 76 78,oM 80 (.bin .add (.t 79) (kS ⟨#[32,61,32]⟩)),ZF 81 3 1,ZM 82 4 81,ZC 83 54 82,Ya 84 80 83,oM 85 (.bin .add (.t 84) (kS ⟨#[41]⟩)),oV 2 85] [2]) .ret) .skip)))))))))))))) (sq [ZF 86 3 1,ZM 87 4 86,ZC 88 54 87,
 oM 89 (.bin .add (kS ⟨#[123]⟩) (.t 88)),oM 90 (.bin .add (.t 89) (kS ⟨#[125]⟩)),oV 2 90] [2] .ret))
def Q7:List RV:=[.t 2 false]
theorem k26:aM G.tab Tryz.f26 1 c26 Q7=true:=by kernel_rfl
def c31:Cd:=.ops [oV 3 0,ZC 4 32 3,oS 9 1 4] []
def QV:List RV:=[]
theorem k31:aM G.tab Tryz.f31 2 c31 QV=true:=by kernel_rfl
def c32:Cd:=sq [oM 2 (.new 27 zz0)] [0,2] (sq [oV 3 0,oV 4 0,oM 5 (.mkbd 65 [.t 4]),oM 6 (.call 64 [.t 3,.k (.d (.lit (.int .i64 4))),.k (.d (.lit (.string ⟨#[111,114]⟩))),.t 5]),oS 9 2 6] [2] .ret)
def Oc:List RV:=[.c 2 9 true]
theorem k32:aM G.tab Tryz.f32 1 c32 Oc=true:=by kernel_rfl
def c45:Cd:=.seq (.seq (.draw [oV 2 0,ZK 3 2,ZF 4 1 3,ZL 5 1 4,oV 6 0,ZK 7 6,ZF 8 0 7,ZL 9 1 8,ZN 10 9,Yh 11 5 10] [0,11]) (.cond (.t 11) (.ops [oV 12 0,ZC 13 82 12,oM 14 (.bld zz5 [(0,1,.t 13),(1,1,.k (.d (.lit (.int .i64 6))))]),oM 15 (.mki 75 (.t 14)),⟨none,.pan (.t 15),none⟩] [0]) .skip)) (.drawp [oV 16 0,ZK 17 16,ZF 18 0 17,ZL 19 1 18,oV 20 0,ZK 21 20,ZF 22 1 21,ZL 23 1 22,ZI 24 4 19 23,
 ZF 25 3 24,ZL 26 1 25,oM 27 (.bld zz5 [(0,1,.t 26),(1,1,.k (.d (.lit (.int .i64 5))))]),oM 28 (.mki 75 (.t 27))] (.t 28))
def Q8:List RV:=[]
theorem k45:aM G.tab Tryz.f45 1 c45 Q8=true:=by kernel_rfl
def c46:Cd:=sq [oV 6 1,ZN 7 6,oI 8 0] [0,6,7,8] (.block 0 (.loop (sq [Yl 9 8 7] [0,6,7,8,9] (.seq (.cond (.t 9) .skip (.exit 0)) (.seq (.block 1 (sq [ZI 10 1 6 8,ZL 11 1 10,oV 5 11] [0,5,6,7,8] (sq [oV 12 0,oV 13 5,ZD 14 48 12 13,ZU 15 14] [0,6,7,8,15] (.cond (.t 15) (.ops [oV 16 0,ZC 17 45 16] [0,6,7,8]) .skip)))) (.ops [Wa 18 8 1,oV 8 18] [0,6,7,8]))))))
def QZ:List RV:=[]
theorem k46:aM G.tab Tryz.f46 2 c46 QZ=true:=by kernel_rfl
def c47:Cd:=sq [oM 4 (.new 61 zz3)] [0,1,4] (.seq (.seq (.draw [oV 5 0,ZK 6 5,ZF 7 1 6,ZL 8 1 7,oV 9 0,ZK 10 9,ZF 11 0 10,ZL 12 1 11,ZN 13 12,Yh 14 8 13,oV 15 14,oH 16 15 (.mv (.t 0)),oH 17 15 (zK 16),oH 18 15 (zF 0 17),oH 19 15 (zL 1 18),oH 20 15 (.mv (.t 0)),oH 21 15 (zK 20),oH 22 15 (zF 1 21),oH 23 15 (zL 1 22),oH 24 15 (zI 4 19 23),oH 25 15 (zF 0 24),oH 26 15 (zL 1 25),oH 27 15 (.mv (.t 1)),
 oH 28 15 (yn 26 27),ZP 29 15 28] [0,4,29]) (.cond (.t 29) (.ops [oV 30 0,ZC 31 45 30] [0,4]) .skip)) (sq [oV 32 0,ZK 33 32,ZF 34 1 33,ZL 35 1 34,Wa 36 35 1,ZK 37 32,ZF 38 1 37,oS 1 38 36] [0,4] (.seq (.drawg [(oV 39 0,.free 0),(ZK 40 39,.free 0),(ZF 41 0 40,.free 0),(ZL 42 1 41,.calm 0 0),(oV 43 0,.free 0),(ZK 44 43,.free 0),(ZF 45 1 44,.free 0),(ZL 46 1 45,.calm 0 0),(Ws 47 46 1,.free 0),
 (ZI 48 4 42 47,.free 0),(ZM 49 4 48,.calm 0 0),(oS 4 4 49,.act)] [4]) .ret)))
def NP:List RV:=[.c 4 4 true]
theorem k47:aM G.tab Tryz.f47 2 c47 NP=true:=by kernel_rfl
def c48:Cd:=sq [oM 4 (.mv kF)] [0,1] (sq [oV 6 0,oV 7 1,oM 8 (.call 83 [.t 6,.k (.d (.lit (.int .i64 0))),.t 7]),oV 5 8] [0,5] (.seq (sq [oV 9 5] [0,5,9] (.cond (.t 9) (.ops [oV 10 0,ZK 11 10,ZF 12 1 11,ZL 13 1 12,Wa 14 13 1,ZK 15 10,ZF 16 1 15,oS 1 16 14] [5]) (.skip))) (sq [oV 17 5,oV 4 17] [4] .ret)))
def P0:List RV:=[.t 4 false]
theorem k48:aM G.tab Tryz.f48 2 c48 P0=true:=by kernel_rfl
def c51:Cd:=sq [oM 6 (.mv (kS ⟨#[]⟩))] [0,1,2] (sq [oM 7 (.nilo 9 1)] [0,1,2,7] (.seq (sq [oV 10 0,ZN 11 10,oI 12 0] [1,2,7,10,11,12] (.block 0 (.loop (sq [Yl 13 12 11] [1,2,7,10,11,12,13] (.seq (.cond (.t 13) .skip (.exit 0)) (.seq (.block 1 (sq [ZI 14 9 10 12,ZM 15 9 14,oM 9 (.new 27 zz0),oS 9 9 15] [1,2,7,9,10,11,12] (.ops [oM 16 (.mvo 7),ZM 17 9 9,oV 18 2,ZD 19 53 17 18,
 oM 20 (.mks 9 1 [.t 19]),oM 21 (.app 9 1 16 16 (.t 20)),oM 7 (.mvo 21)] [1,2,7,10,11,12]))) (.ops [Wa 22 12 1,oV 12 22] [1,2,7,10,11,12]))))))) (sq [oV 23 7,oV 24 1,ZD 25 88 23 24,oV 6 25] [6] (.ret))))
def RF:List RV:=[.t 6 false]
theorem k51:aM G.tab Tryz.f51 3 c51 RF=true:=by kernel_rfl
def c52:Cd:=sq [ZB 1 27 0,oM 2 (.mv (kS ⟨#[]⟩))] [1] (.seq (sq [ZF 3 1 1,ZL 4 1 3,ZF 5 2 1,ZL 6 1 5,Ye 7 4 6] [1,7] (.cond (.t 7) (sq [ZF 8 1 1,ZL 9 1 8,ZC 10 89 9,oV 2 10] [2] .ret) .skip)) (.seq (.draw [ZF 11 1 1,ZL 12 1 11,ZC 13 89 12,oM 14 (.bin .add (.t 13) (kS ⟨#[58]⟩)),ZF 15 2 1,ZL 16 1 15,ZC 17 89 16,Ya 18 14 17,oV 2 18] [2]) .ret))
def Rj:List RV:=[.t 2 false]
theorem k52:aM G.tab Tryz.f52 1 c52 Rj=true:=by kernel_rfl
def c53:Cd:=sq [ZB 2 27 0,oM 4 (.mv (kS ⟨#[]⟩))] [1,2] (.seq (sq [ZM 5 9 2,ZC 6 90 5,oV 7 1,Yl 8 6 7] [2,8] (.cond (.t 8) (sq [ZM 9 9 2,ZC 10 26 9,oM 11 (.bin .add (kS ⟨#[40]⟩) (.t 10)),oM 12 (.bin .add (.t 11) (kS ⟨#[41]⟩)),oV 4 12] [4] .ret) .skip)) (.seq (.ops [ZM 13 9 2,ZC 14 26 13,oV 4 14] [4]) .ret))
def QU:List RV:=[.t 4 false]
theorem k53:aM G.tab Tryz.f53 2 c53 QU=true:=by kernel_rfl
def c64:Cd:=sq [oM 8 (.new 27 zz0)] [0,1,2,3,8] (sq [oV 10 3,oM 11 (.callv (.t 10) []),oM 12 (.mkso 27 9 [.t 11]),oM 9 (.mvo 12)] [0,1,2,3,8,9] (.seq (.block 0 (.loop (.seq (sq [oV 13 0,oV 14 2,ZD 15 48 13 14] [0,1,2,3,8,9,15] (.cond (.t 15) .skip (.exit 0))) (.block 1 (.ops [oM 16 (.mvo 9),oV 17 3,oM 18 (.callv (.t 17) []),oM 19 (.mks 27 9 [.t 18]),oM 20 (.app 27 9 120 16 (.t 19)),
 oM 9 (.mvo 20)] [0,1,2,3,8,9]))))) (.seq (sq [oV 21 9,ZN 22 21,We 23 22 1] [1,8,9,23] (.cond (.t 23) (sq [oV 24 9,oM 25 (.ia 9 (.t 24) (kI 0)),ZM 26 9 25,oS 9 8 26] [8] .ret) .skip)) (sq [oV 27 1,oV 28 9,oM 29 (.bld zz0 [(0,1,.t 27),(8,1,.t 28)]),oS 9 8 29] [8] .ret))))
def KJ:List RV:=[.c 8 9 true]
theorem k64:aM G.tab Tryz.f64 4 c64 KJ=true:=by kernel_rfl
def c65:Cd:=sq [oM 2 (.new 27 zz0)] [0,2] (sq [oV 3 0,oV 4 0,oM 5 (.mkbd 100 [.t 4]),oM 6 (.call 64 [.t 3,.k (.d (.lit (.int .i64 5))),.k (.d (.lit (.string ⟨#[97,110,100]⟩))),.t 5]),oS 9 2 6] [2] (.ret))
def OH:List RV:=[.c 2 9 true]
theorem k65:aM G.tab Tryz.f65 1 c65 OH=true:=by kernel_rfl
def c82:Cd:=sq [oI 2 0] [0] (.seq (sq [oV 3 0,ZK 4 3,ZF 5 0 4,ZL 6 1 5,ZN 7 6,We 8 7 0] [0,8] (.cond (.t 8) (sq [oI 2 1] [2] .ret) .skip)) (.seq (.draw [oV 9 0,ZK 10 9,ZF 11 0 10,ZL 12 1 11,oV 13 0,ZK 14 13,ZF 15 0 14,ZL 16 1 15,ZN 17 16,Ws 18 17 1,ZI 19 4 12 18,ZF 20 3 19,ZL 21 1 20,oV 2 21] [2]) .ret))
def Q5:List RV:=[.t 2 false]
theorem k82:aM G.tab Tryz.f82 1 c82 Q5=true:=by kernel_rfl
def c83:Cd:=sq [oM 6 (.mv kF)] [0,1,2] (sq [oV 8 0,ZK 9 8,ZF 10 1 9,ZL 11 1 10,oV 12 1,Ya 13 11 12,oV 7 13] [0,2,7] (sq [oV 14 7,oV 15 0,ZK 16 15,ZF 17 0 16,ZL 18 1 17,ZN 19 18,Yl 20 14 19,oV 21 20,oG 22 21 (.mv (.t 0)),oG 23 21 (zK 22),oG 24 21 (zF 0 23),oG 25 21 (zL 1 24),oG 26 21 (.mv (.t 7)),oG 27 21 (zI 4 25 26),oG 28 21 (zF 0 27),oG 29 21 (zL 1 28),oG 30 21 (we 29 2),oG 31 21 (.mv (.t 30)),
 oH 32 31 (.mv (.t 0)),oH 33 31 (zK 32),oH 34 31 (zF 0 33),oH 35 31 (zL 1 34),oH 36 31 (.mv (.t 7)),oH 37 31 (zI 4 35 36),oH 38 31 (zF 0 37),oH 39 31 (zL 1 38),oH 40 31 (we 39 4),oG 41 21 (zP 31 40),ZQ 42 21 41,oV 43 42,oG 44 43 (.mv (.t 0)),oG 45 43 (zK 44),oG 46 43 (zF 0 45),oG 47 43 (zL 1 46),oG 48 43 (.mv (.t 7)),oG 49 43 (zI 4 47 48),oG 50 43 (zF 2 49),oG 51 43 (zL 1 50),oG 52 43 (.mv (.t 2)),
 oG 53 43 (ye 51 52),ZQ 54 43 53,oV 6 54] [6] .ret))
def Rf:List RV:=[.t 6 false]
theorem k83:aM G.tab Tryz.f83 3 c83 Rf=true:=by kernel_rfl
def c90:Cd:=sq [ZB 1 27 0,oI 2 0] [1] (.seq (sq [ZF 3 0 1,ZL 4 1 3] [4] (.block 0 (sq [We 6 4 4,oV 5 6] [4,5] (.cond (.t 5) (sq [oI 2 1] [2] .ret) (sq [We 8 4 5,oV 7 8] [4,7] (.cond (.t 7) (sq [oI 2 2] [2] .ret) (.seq (.ops [We 10 4 2,oV 9 10] [4,9]) (.cond (.t 9) (sq [oI 2 3] [2] .ret) (sq [We 12 4 7,oV 11 12] [4,11] (.cond (.t 11) (.seq (.ops [oI 2 4] [2]) .ret) (sq [We 14 4 3,
 oV 13 14] [13] (.cond (.t 13) (sq [oI 2 5] [2] .ret) .skip)))))))))))) (sq [oI 2 6] [2] (.ret)))
def QL:List RV:=[.t 2 false]
theorem k90:aM G.tab Tryz.f90 1 c90 QL=true:=by kernel_rfl
def Hy:Cd:=sq [oM 2 (.new 27 zz0)] [0,2] (sq [oV 5 0,ZC 6 138 5,oM 3 (.new 27 zz0),oS 9 3 6] [0,2,3] (.seq (.block 0 (.loop (.seq (sq [oV 7 0,oM 8 (.call 48 [.t 7,.k (.d (.lit (.string ⟨#[35,35]⟩)))])] [0,2,3,8] (.cond (.t 8) .skip (.exit 0))) (.block 1 (sq [oM 9 (.bld zz0 [(0,1,.k (.d (.lit (.int .i64 2))))]),oM 4 (.new 27 zz0),oS 9 4 9] [0,2,3,4] (.seq (sq [oV 10 0,oM 11 (.call 48 [.t 10,
 .k (.d (.lit (.string ⟨#[91]⟩)))])] [0,2,3,4,11] (.cond (.t 11) (sq [oV 12 0,oM 13 (.call 47 [.t 12,.k (.d (.lit (.int .i64 3)))]),oM 14 (.fld 1 1 false (.t 13)),ZF 15 1 4,oS 1 15 14] [0,2,3,4] (sq [oV 16 0,oM 17 (.mks 9 1 [.k (.d (.lit (.string ⟨#[58]⟩)))]),ZD 18 46 16 17] [0,2,3,4] (sq [oV 19 0,oM 20 (.call 47 [.t 19,.k (.d (.lit (.int .i64 3)))]),oM 21 (.fld 1 1 false (.t 20)),ZF 22 2 4,
 oS 1 22 21] [0,2,3,4] (.ops [oV 23 0,oM 24 (.mks 9 1 [.k (.d (.lit (.string ⟨#[93]⟩)))]),ZD 25 46 23 24] [0,2,3,4])))) (sq [oV 26 0,oM 27 (.call 47 [.t 26,.k (.d (.lit (.int .i64 3)))]),oM 28 (.fld 1 1 false (.t 27)),ZF 29 1 4,oS 1 29 28] [0,2,3,4] (.ops [ZF 30 1 4,ZL 31 1 30,ZF 32 2 4,oS 1 32 31] [0,2,3,4])))) (.seq (.drawg [(ZM 33 9 3,.calm 0 1),(oV 34 0,.free 0),(ZC 35 138 34,.act),
 (oM 36 (.mks 27 9 [.t 33,.t 35]),.free 1),(ZF 37 8 4,.free 1),(oS 1 37 36,.act)] [0,2,3,4]) (.ops [ZM 38 9 4,oS 9 3 38] [0,2,3])))))))) (sq [ZM 39 9 3,oS 9 2 39] [2] .ret)))
def Gi:List RV:=[.c 2 9 true]
theorem P7:aM G.tab Tryz.f100 1 Hy Gi=true:=by kernel_rfl
def OZ:Cd:=sq [oM 2 (.new 27 zz0)] [0,2] (.seq (sq [oV 4 0,oM 5 (.call 48 [.t 4,.k (.d (.lit (.string ⟨#[104,111,108,100]⟩)))]),ZU 6 5] [0,2,6] (.cond (.t 6) (sq [oV 7 0,ZC 8 169 7,oS 9 2 8] [2] (.ret)) .skip)) (sq [oV 9 0,oM 10 (.mks 9 1 [.k (.d (.lit (.string ⟨#[123]⟩)))]),ZD 11 46 9 10] [0,2] (sq [oV 12 0,ZC 13 170 12,oM 3 (.new 24 zz2),oS 4 3 13] [0,2,3] (sq [oV 14 0,
 oM 15 (.mks 9 1 [.k (.d (.lit (.string ⟨#[125]⟩))),.k (.d (.lit (.string ⟨#[105,110]⟩)))]),ZD 16 46 14 15] [0,2,3] (.seq (.drawg [(ZM 17 4 3,.calm 0 1),(oV 18 0,.free 0),(ZC 19 138 18,.act),(oM 20 (.mks 27 9 [.t 19]),.free 1),(oM 21 (.bld zz0 [(0,1,.k (.d (.lit (.int .i64 7)))),(3,4,.t 17),(8,1,.t 20)]),.free 1),(oS 9 2 21,.act)] [2]) .ret)))))
def Id:List RV:=[.c 2 9 true]
theorem QN:aM G.tab Tryz.f138 1 OZ Id=true:=by kernel_rfl
def PT:Cd:=sq [oM 2 (.new 27 zz0)] [0,2] (sq [oV 6 0,ZC 7 198 6,oM 3 (.new 27 zz0),oS 9 3 7] [0,2,3] (.seq (.block 0 (.loop (.seq (sq [oV 8 0,oM 9 (.call 48 [.t 8,.k (.d (.lit (.string ⟨#[91]⟩)))])] [0,2,3,9] (.cond (.t 9) .skip (.exit 0))) (.block 1 (sq [oV 10 0,oM 11 (.mks 9 1 [.k (.d (.lit (.string ⟨#[42]⟩)))]),ZD 12 46 10 11] [0,2,3] (sq [oV 14 0,ZC 15 199 14,oV 13 15,ZX 16 13 0,ZX 17 13 1,
 oV 4 16,oV 5 17] [0,2,3,4,5] (sq [oV 18 0,oM 19 (.mks 9 1 [.k (.d (.lit (.string ⟨#[93]⟩)))]),ZD 20 46 18 19] [0,2,3,4,5] (.ops [oV 21 4,oV 22 5,ZM 23 9 3,oM 24 (.mks 27 9 [.t 23]),oM 25 (.bld zz0 [(0,1,.k (.d (.lit (.int .i64 3)))),(1,1,.t 21),(2,1,.t 22),(8,1,.t 24)]),oS 9 3 25] [0,2,3])))))))) (sq [ZM 26 9 3,oS 9 2 26] [2] .ret)))
def F7:List RV:=[.c 2 9 true]
theorem Re:aM G.tab Tryz.f169 1 PT F7=true:=by kernel_rfl
def Ph:Cd:=sq [oM 2 (.new 24 zz2)] [0,2] (.seq (.drawg [(oV 7 0,.free 0),(ZK 8 7,.free 0),(ZF 9 0 8,.free 0),(ZL 10 1 9,.calm 0 1),(oV 11 0,.free 0),(ZK 12 11,.free 0),(ZF 13 1 12,.free 0),(ZL 14 1 13,.calm 0 1),(ZD 15 200 10 14,.calm 0 1),(oV 6 15,.free 0),(ZX 16 6 0,.free 0),(ZX 17 6 1,.free 0),(ZX 18 6 2,.free 0),(oM 3 (.new 24 zz2),.act),(oS 4 3 16,.act),(oV 4 17,.free 2),(oV 5 18,
 .free 2)] [0,2,3,4,5]) (.seq (sq [oV 19 5] [0,2,3,4,5,19] (.block 0 (sq [We 21 19 0,oV 20 21] [0,2,3,4,5,19,20] (.cond (.t 20) (sq [oV 22 0,oV 23 4,ZK 24 22,ZF 25 1 24,oS 1 25 23] [2,3] (sq [ZM 26 4 3,oS 4 2 26] [2] .ret)) (sq [We 28 19 6,oV 27 28] [0,2,4,5,19,27] (.cond (.t 27) (.ops [oV 29 0,ZC 30 82 29,oV 31 5,oM 32 (.bld zz5 [(0,1,.t 30),(1,1,.t 31)]),oM 33 (.mki 75 (.t 32)),⟨none,
 .pan (.t 33),none⟩] [0,2,5]) (.seq (sq [We 35 19 5,oV 34 35] [0,2,4,5,19,34] (.cond (.t 34) .skip (.ops [We 36 19 3,oV 34 36] [0,2,4,5,34]))) (.cond (.t 34) (sq [oV 37 0,oV 38 4,oM 39 (.mx true (.t 38) (kI 0)),oV 40 0,ZK 41 40,ZF 42 0 41,ZL 43 1 42,ZN 44 43,Ws 45 44 1,oM 46 (.mx false (.t 39) (.t 45)),ZK 47 37,ZF 48 1 47,oS 1 48 46] [0,2,5] (.drawp [oV 49 0,ZK 50 49,ZF 51 0 50,ZL 52 1 51,oV 53 0,
 ZK 54 53,ZF 55 1 54,ZL 56 1 55,ZI 57 4 52 56,ZF 58 3 57,ZL 59 1 58,oV 60 5,oM 61 (.bld zz5 [(0,1,.t 59),(1,1,.t 60)]),oM 62 (.mki 75 (.t 61))] (.t 62))) .skip)))))))) (.seq (sq [oV 63 0,ZK 64 63,ZF 65 2 64,ZL 66 1 65,We 67 66 0] [0,2,5,67] (.cond (.t 67) (.ops [oV 68 0,oV 69 5,ZK 70 68,ZF 71 2 70,oS 1 71 69] [0,2]) (.skip))) (sq [oV 72 0,oV 73 0,oV 74 0,ZK 75 74,ZF 76 1 75,ZL 77 1 76,
 ZD 78 201 73 77,ZK 79 72,ZF 80 1 79,oS 1 80 78] [2] (sq [oM 81 (.bld zz2 [(0,1,.k (.d (.lit (.int .i64 1))))]),oS 4 2 81] [2] (.ret))))))
def mD:List RV:=[.c 2 4 true]
theorem RJ:aM G.tab Tryz.f170 1 Ph mD=true:=by kernel_rfl
def Nk:Cd:=sq [oM 2 (.new 27 zz0)] [0,2] (.seq (sq [oV 5 0,oM 6 (.call 48 [.t 5,.k (.d (.lit (.string ⟨#[123]⟩)))])] [0,2,6] (.cond (.t 6) (sq [oV 7 0,ZC 8 170 7,oM 3 (.new 24 zz2),oS 4 3 8] [0,2,3] (sq [oV 9 0,oM 10 (.mks 9 1 [.k (.d (.lit (.string ⟨#[125]⟩)))]),ZD 11 46 9 10] [2,3] (sq [ZM 12 4 3,oM 13 (.bld zz0 [(0,1,.k (.d (.lit (.int .i64 1)))),(3,4,.t 12)]),
 oS 9 2 13] [2] .ret))) .skip)) (sq [oV 14 0,oM 15 (.mks 9 1 [.k (.d (.lit (.string ⟨#[40]⟩)))]),ZD 16 46 14 15] [0,2] (sq [oV 17 0,ZC 18 32 17,oM 4 (.new 27 zz0),oS 9 4 18] [0,2,4] (.seq (sq [oV 19 0,oM 20 (.call 48 [.t 19,.k (.d (.lit (.string ⟨#[44]⟩)))])] [0,2,4,20] (.cond (.t 20) (.seq (.drawg [(oV 21 0,.free 0),(oM 22 (.call 47 [.t 21,.k (.d (.lit (.int .i64 1)))]),.act),
 (oM 23 (.fld 2 1 false (.t 22)),.free 1),(ZM 24 9 4,.calm 0 1),(oM 25 (.mks 27 9 [.t 24]),.free 0),(oM 26 (.bld zz0 [(0,1,.k (.d (.lit (.int .i64 6)))),(7,1,.t 23),(8,1,.t 25)]),.free 1),(oS 9 4 26,.act)] [0,2,4]) (sq [oV 27 0,oM 28 (.mks 9 1 [.k (.d (.lit (.string ⟨#[61]⟩)))]),ZD 29 46 27 28] [0,2,4] (.ops [oV 30 0,ZC 31 170 30,ZF 32 3 4,oS 4 32 31] [0,2,4]))) .skip)) (sq [oV 33 0,
 oM 34 (.mks 9 1 [.k (.d (.lit (.string ⟨#[41]⟩)))]),ZD 35 46 33 34] [2,4] (sq [ZM 36 9 4,oS 9 2 36] [2] .ret))))))
def BT:List RV:=[.c 2 9 true]
theorem Qu:aM G.tab Tryz.f198 1 Nk BT=true:=by kernel_rfl
def NW:Cd:=sq [oI 2 0,oI 3 0] [0] (sq [oV 5 0,oM 6 (.call 47 [.t 5,.k (.d (.lit (.int .i64 3)))]),oM 7 (.fld 1 1 false (.t 6)),oV 4 7] [0,4] (.seq (sq [oV 8 0,oM 9 (.call 48 [.t 8,.k (.d (.lit (.string ⟨#[58]⟩)))])] [0,4,9] (.cond (.t 9) (sq [oV 10 4,oV 11 0,oM 12 (.call 47 [.t 11,.k (.d (.lit (.int .i64 3)))]),oM 13 (.fld 1 1 false (.t 12)),oV 2 10,oV 3 13] [2,3] .ret) .skip)) (sq [oV 14 4,
 oV 15 4,oV 2 14,oV 3 15] [2,3] .ret)))
def Pg:List RV:=[.t 2 false,.t 3 false]
theorem Rk:aM G.tab Tryz.f199 1 NW Pg=true:=by kernel_rfl
def Mu:Cd:=sq [oI 4 0] [0,1] (sq [oI 5 0] [0,1,5] (.block 0 (.loop (.block 1 (sq [oV 6 0,oV 7 1,ZD 8 224 6 7,oV 1 8] [0,1,5] (.seq (.block 2 (.loop (.seq (sq [oV 9 1,oV 10 0,ZK 11 10,ZF 12 0 11,ZL 13 1 12,ZN 14 13,Yl 15 9 14,oV 16 15,oG 17 16 (.mv (.t 0)),oG 18 16 (zK 17),oG 19 16 (zF 0 18),oG 20 16 (zL 1 19),oG 21 16 (.mv (.t 1)),oG 22 16 (zI 4 20 21),oG 23 16 (zF 0 22),oG 24 16 (zL 1 23),
 oG 25 16 (we 24 2),ZQ 26 16 25,oV 27 26,oG 28 27 (.mv (.t 0)),oG 29 27 (zK 28),oG 30 27 (zF 0 29),oG 31 27 (zL 1 30),oG 32 27 (.mv (.t 1)),oG 33 27 (zI 4 31 32),oG 34 27 (zF 2 33),oG 35 27 (zL 1 34),oG 36 27 (.bin .eql (.t 35) (kS ⟨#[105,110,115,105,100,101]⟩)),ZQ 37 27 36] [0,1,5,37] (.cond (.t 37) .skip (.exit 2))) (.block 3 (.ops [oV 38 0,oV 39 1,Wa 40 39 1,ZD 41 225 38 40,oV 1 41] [0,1,
 5]))))) (.seq (.block 4 (sq [oV 44 0,oV 45 1,oM 46 (.mks 9 1 [.k (.d (.lit (.string ⟨#[63]⟩)))]),ZE 47 226 44 45 46,oV 43 47] [0,1,5,43] (.cond (.t 43) (.ops [oV 48 5,Wa 49 48 1,oV 5 49] [0,1,5]) (sq [oV 51 0,oV 52 1,oM 53 (.mks 9 1 [.k (.d (.lit (.string ⟨#[58]⟩)))]),ZE 54 226 51 52 53,oV 55 54,oG 56 55 (.mv (.t 5)),oG 57 55 (wg 56 0),ZQ 58 55 57,oV 50 58] [0,1,5,
 50] (.cond (.t 50) (.ops [oV 59 5,Ws 60 59 1,oV 5 60] [0,1,5]) (sq [oV 62 0,oV 63 1,oM 64 (.mks 9 1 [.k (.d (.lit (.string ⟨#[61,62]⟩))),.k (.d (.lit (.string ⟨#[124,124]⟩))),.k (.d (.lit (.string ⟨#[38,38]⟩))),.k (.d (.lit (.string ⟨#[124]⟩))),.k (.d (.lit (.string ⟨#[94]⟩))),.k (.d (.lit (.string ⟨#[38]⟩))),.k (.d (.lit (.string ⟨#[61,61]⟩))),.k (.d (.lit (.string ⟨#[33,61]⟩))),
 .k (.d (.lit (.string ⟨#[60]⟩))),.k (.d (.lit (.string ⟨#[60,61]⟩))),.k (.d (.lit (.string ⟨#[62]⟩))),.k (.d (.lit (.string ⟨#[62,61]⟩))),.k (.d (.lit (.string ⟨#[60,60]⟩))),.k (.d (.lit (.string ⟨#[62,62]⟩))),.k (.d (.lit (.string ⟨#[43]⟩))),.k (.d (.lit (.string ⟨#[45]⟩))),.k (.d (.lit (.string ⟨#[42]⟩)))]),ZE 65 226 62 63 64,oV 61 65] [0,1,5,61] (.cond (.t 61) .skip (sq [oV 42 1,
 oV 4 42] [4] .ret)))))))) (.ops [oV 66 1,Wa 67 66 1,oV 1 67] [0,1,5]))))))))
def Mr:List RV:=[.t 4 false]
theorem RN:aM G.tab Tryz.f201 2 Mu Mr=true:=by kernel_rfl
def MG:Cd:=sq [oI 4 0] [0,1] (.seq (.block 0 (.loop (.seq (sq [oV 6 0,oV 7 1,oM 8 (.mks 9 1 [.k (.d (.lit (.string ⟨#[33]⟩))),.k (.d (.lit (.string ⟨#[126]⟩))),.k (.d (.lit (.string ⟨#[45]⟩)))]),ZE 9 226 6 7 8] [0,1,9] (.cond (.t 9) .skip (.exit 0))) (.block 1 (.ops [oV 10 1,Wa 11 10 1,oV 1 11] [0,1]))))) (.seq (sq [oV 12 0,oV 13 1,oM 14 (.mks 9 1 [.k (.d (.lit (.string ⟨#[40]⟩)))]),
 ZE 15 226 12 13 14] [0,1,15] (.cond (.t 15) (sq [oV 16 0,oV 17 1,ZD 18 225 16 17,oV 4 18] [4] (.ret)) .skip)) (sq [oV 19 1,Wa 20 19 1,oV 1 20] [0,1] (.seq (sq [oV 21 1,oV 22 0,ZK 23 22,ZF 24 0 23,ZL 25 1 24,ZN 26 25,Yg 27 21 26,oV 28 27,oH 29 28 (.mv (.t 0)),oH 30 28 (zK 29),oH 31 28 (zF 0 30),oH 32 28 (zL 1 31),oH 33 28 (.mv (.t 1)),oH 34 28 (ws 33 1),oH 35 28 (zI 4 32 34),oH 36 28 (zF 0 35),
 oH 37 28 (zL 1 36),oH 38 28 (wn 37 1),ZP 39 28 38] [0,1,39] (.cond (.t 39) (sq [oV 40 1,oV 4 40] [4] .ret) .skip)) (.seq (sq [oV 41 0,ZK 42 41,ZF 43 0 42,ZL 44 1 43,oV 45 1,Ws 46 45 1,ZI 47 4 44 46,ZF 48 2 47,ZL 49 1 48,oV 5 49] [0,1,5] (.block 2 (sq [oV 51 0,oV 52 1,oM 53 (.mks 9 1 [.k (.d (.lit (.string ⟨#[91]⟩)))]),ZE 54 226 51 52 53,oV 55 54,oH 56 55 (.mv (.t 0)),oH 57 55 (.mv (.t 1)),
 oH 58 55 (.mks 9 1 [.k (.d (.lit (.string ⟨#[40]⟩)))]),oH 59 55 (zE 226 56 57 58),oH 60 55 (.mv (.t 59)),oG 61 60 (.mv (.t 5)),oG 62 60 (.bin .eql (.t 61) (kS ⟨#[115,117,109]⟩)),oG 63 60 (.mv (.t 62)),oH 64 63 (.mv (.t 5)),oH 65 63 (.bin .eql (.t 64) (kS ⟨#[111,110,101,115]⟩)),oG 66 60 (zP 63 65),oH 67 55 (zQ 60 66),ZP 68 55 67,oV 50 68] [0,1,50] (.cond (.t 50) (sq [oV 69 0,oV 70 1,
 ZD 71 225 69 70,oV 4 71] [4] (.ret)) (sq [oV 73 0,oV 74 1,oM 75 (.mks 9 1 [.k (.d (.lit (.string ⟨#[64]⟩)))]),ZE 76 226 73 74 75,oV 72 76] [1,72] (.cond (.t 72) (sq [oV 77 1,Wa 78 77 2,oV 4 78] [4] .ret) .skip)))))) (sq [oV 79 1,oV 4 79] [4] .ret))))))
def PG:List RV:=[.t 4 false]
theorem Rh:aM G.tab Tryz.f224 2 MG PG=true:=by kernel_rfl
def OB:Cd:=sq [oI 4 0] [0,1] (.seq (sq [oI 5 0] [0,1,5] (.block 0 (.loop (.seq (sq [oV 6 1,oV 7 0,ZK 8 7,ZF 9 0 8,ZL 10 1 9,ZN 11 10,Yl 12 6 11] [0,1,5,12] (.cond (.t 12) .skip (.exit 0))) (.seq (.block 1 (.seq (sq [oV 15 0,ZK 16 15,ZF 17 0 16,ZL 18 1 17,oV 19 1,ZI 20 4 18 19,ZF 21 0 20,ZL 22 1 21,Wn 23 22 4] [0,1,5,23] (.cond (.t 23) (.exit 1) .skip)) (.seq (sq [oV 24 0,ZK 25 24,ZF 26 0 25,
 ZL 27 1 26,oV 28 1,ZI 29 4 27 28,ZF 30 2 29,ZL 31 1 30] [0,1,5,31] (.block 2 (.seq (sq [oM 33 (.bin .eql (.t 31) (kS ⟨#[40]⟩)),oV 32 33] [0,1,5,31,32] (.cond (.t 32) .skip (sq [oM 34 (.bin .eql (.t 31) (kS ⟨#[91]⟩)),oV 32 34] [0,1,5,31,32] (.cond (.t 32) .skip (.ops [oM 35 (.bin .eql (.t 31) (kS ⟨#[123]⟩)),oV 32 35] [0,1,5,31,32]))))) (.cond (.t 32) (.ops [oV 36 5,Wa 37 36 1,oV 5 37] [0,1,
 5]) (.seq (sq [oM 39 (.bin .eql (.t 31) (kS ⟨#[41]⟩)),oV 38 39] [0,1,5,31,38] (.cond (.t 38) .skip (sq [oM 40 (.bin .eql (.t 31) (kS ⟨#[93]⟩)),oV 38 40] [0,1,5,31,38] (.cond (.t 38) (.skip) (.ops [oM 41 (.bin .eql (.t 31) (kS ⟨#[125]⟩)),oV 38 41] [0,1,5,38]))))) (.cond (.t 38) (.ops [oV 42 5,Ws 43 42 1,oV 5 43] [0,1,5]) .skip)))))) (sq [oV 44 5,We 45 44 0] [0,1,5,45] (.cond (.t 45) (sq [oV 46 1,
 Wa 47 46 1,oV 4 47] [4] .ret) .skip))))) (.ops [oV 13 1,Wa 14 13 1,oV 1 14] [0,1,5])))))) (sq [oV 48 1,oV 4 48] [4] .ret))
def MY:List RV:=[.t 4 false]
theorem QQ:aM G.tab Tryz.f225 2 OB MY=true:=by kernel_rfl
def Om:Cd:=sq [oM 6 (.mv kF)] [0,1,2] (.seq (sq [oV 9 2,ZN 10 9,oI 11 0] [0,1,9,10,11] (.block 0 (.loop (sq [Yl 12 11 10] [0,1,9,10,11,12] (.seq (.cond (.t 12) .skip (.exit 0)) (.seq (.block 1 (sq [ZI 13 1 9 11,ZL 14 1 13,oV 8 14] [0,1,8,9,10,11] (sq [oV 15 1,oV 16 0,ZK 17 16,ZF 18 0 17,ZL 19 1 18,ZN 20 19,Yl 21 15 20,oV 22 21,oG 23 22 (.mv (.t 0)),oG 24 22 (zK 23),oG 25 22 (zF 0 24),
 oG 26 22 (zL 1 25),oG 27 22 (.mv (.t 1)),oG 28 22 (zI 4 26 27),oG 29 22 (zF 0 28),oG 30 22 (zL 1 29),oG 31 22 (we 30 4),ZQ 32 22 31,oV 33 32,oG 34 33 (.mv (.t 0)),oG 35 33 (zK 34),oG 36 33 (zF 0 35),oG 37 33 (zL 1 36),oG 38 33 (.mv (.t 1)),oG 39 33 (zI 4 37 38),oG 40 33 (zF 2 39),oG 41 33 (zL 1 40),oG 42 33 (.mv (.t 8)),oG 43 33 (ye 41 42),ZQ 44 33 43] [0,1,9,10,11,
 44] (.cond (.t 44) (sq [oM 6 (.mv kT)] [6] .ret) .skip)))) (.ops [Wa 45 11 1,oV 11 45] [0,1,9,10,11]))))))) (sq [oM 6 (.mv kF)] [6] .ret))
def Nn:List RV:=[.t 6 false]
theorem Rr:aM G.tab Tryz.f226 3 Om Nn=true:=by kernel_rfl
def c44:CdR:=.seq (.reg 5 [oM 6 (.tas 75 (.agg zz5) (.t 5)),oV 4 6,ZX 7 4 0,ZX 8 4 1,oM 2 (.new 75 zz5),oS 2 2 7,oV 3 8] [0,1,2,3]) (.seq (.ops [oV 9 3] [0,1,2,9]) (.cond (.t 9) (.drawg [(ZF 10 0 2,.free 0),(ZL 11 1 10,.calm 0 0),(ZF 12 1 2,.free 0),(ZL 13 1 12,.calm 0 1),(oS 1 0 11,.act),(oS 1 1 13,.act)] []) .skip))
theorem k44:yj G.tab Tryz.f44 2 c44=true:=by kernel_rfl
def c11:Cd:=sq [ZB 2 29 0,ZB 3 29 1,oM 4 (.mv kF)] [2,3] (sq [ZF 5 0 2,ZL 6 1 5,ZF 7 0 3,ZL 8 1 7,Ye 9 6 8,oV 10 9,oG 11 10 (zF 1 2),oG 12 10 (zL 1 11),oG 13 10 (zF 1 3),oG 14 10 (zL 1 13),oG 15 10 (.binb .eql (.t 12) (.t 14)),ZQ 16 10 15,oV 17 16,oG 18 17 (zF 2 2),oG 19 17 (zL 1 18),oG 20 17 (zF 2 3),oG 21 17 (zL 1 20),oG 22 17 (.binb .eql (.t 19) (.t 21)),ZQ 23 17 22,oV 24 23,oG 25 24 (zF 3 2),
 oG 26 24 (zM 9 25),oG 27 24 (zF 3 3),oG 28 24 (zM 9 27),oG 29 24 (zD 13 26 28),ZQ 30 24 29,oV 31 30,oG 32 31 (zF 12 2),oG 33 31 (zM 9 32),oG 34 31 (zF 12 3),oG 35 31 (zM 9 34),oG 36 31 (zD 13 33 35),ZQ 37 31 36,oV 4 37] [4] .ret)
def RC:List RV:=[.t 4 false]
theorem k11:aM G.tab Tryz.f11 2 c11 RC=true:=by kernel_rfl
def c14:Cd:=sq [oM 0 (.mv kF)] [] (sq [oM 16 (.call 12 [.k (.d (.lit (.string ⟨#[123,97,125,32,35,35,91,49,58,51,93,32,123,98,125,32,91,42,50,93,32,111,114,32,123,99,125]⟩)))]),oV 15 16,ZX 17 15 0,ZX 18 15 1,ZX 19 15 2,oM 1 (.new 27 zz0),oS 9 1 17,oV 2 18,oV 3 19] [1,2,3] (sq [oM 20 (.call 35 [.k (.d (.lit (.string ⟨#[97]⟩)))]),oM 21 (.call 35 [.k (.d (.lit (.string ⟨#[98]⟩)))]),
 oM 22 (.mks 27 9 [.t 21]),oM 23 (.bld zz0 [(0,1,.k (.d (.lit (.int .i64 3)))),(1,1,.k (.d (.lit (.int .i64 2)))),(2,1,.k (.d (.lit (.int .i64 2)))),(8,1,.t 22)]),oM 24 (.mks 27 9 [.t 20,.t 23]),oM 25 (.bld zz0 [(0,1,.k (.d (.lit (.int .i64 2)))),(1,1,.k (.d (.lit (.int .i64 1)))),(2,1,.k (.d (.lit (.int .i64 3)))),(8,1,.t 24)]),oM 26 (.call 35 [.k (.d (.lit (.string ⟨#[99]⟩)))]),
 oM 27 (.mks 27 9 [.t 25,.t 26]),oM 28 (.bld zz0 [(0,1,.k (.d (.lit (.int .i64 4)))),(8,1,.t 27)]),oM 4 (.new 27 zz0),oS 9 4 28] [1,2,3,4] (sq [oM 30 (.call 12 [.k (.d (.lit (.string ⟨#[123,97,125,32,35,35]⟩)))]),oV 29 30,ZX 31 29 0,ZX 32 29 1,ZX 33 29 2,oM 5 (.new 27 zz0),oS 9 5 31,oV 6 32,oV 7 33] [1,2,3,4,6,7] (sq [oM 35 (.call 12 [.k (.d (.lit (.string ⟨#[123,97,125,32,91,42,48,58,50,93]⟩)))]),
 oV 34 35,ZX 36 34 0,ZX 37 34 1,ZX 38 34 2,oM 8 (.new 27 zz0),oS 9 8 36,oV 9 37,oV 10 38] [1,2,3,4,6,7,9,10] (sq [oM 11 (.mv (kS ⟨#[112,114,111,112,101,114,116,121,32,112,58,32,40,123,114,101,113,125,44,32,120,32,61,32,105,100,41,32,124,45,62,32,123,49,125,32,35,35,49,32,123,97,99,107,32,38,38,32,105,100,32,61,61,32,120,125,59]⟩))] [1,2,3,4,6,7,9,10,11] (sq [oV 40 11,ZC 41 7 40,oV 39 41,ZX 42 39 0,
 ZX 43 39 1,ZX 44 39 2,oM 12 (.new 29 zz1),oS 21 12 42,oV 13 43,oV 14 44] [1,2,3,4,6,7,9,10,11,12,14] (sq [ZM 45 9 1,ZM 46 9 4,ZD 47 13 45 46,oV 48 47,oG 49 48 (.mv (.t 2)),oG 50 48 (we 49 0),ZQ 51 48 50,oV 52 51,oG 53 52 (.mv (.t 3)),oG 54 52 (we 53 0),ZQ 55 52 54,oV 56 55,oG 57 56 (.mv (.t 6)),oG 58 56 (we 57 1),ZQ 59 56 58,oV 60 59,oG 61 60 (.mv (.t 7)),oG 62 60 (we 61 6),ZQ 63 60 62,oV 64 63,
 oG 65 64 (.mv (.t 9)),oG 66 64 (we 65 0),ZQ 67 64 66,oV 68 67,oG 69 68 (.mv (.t 10)),oG 70 68 (we 69 1),ZQ 71 68 70,oV 72 71,oG 73 72 (.mv (.t 14)),oG 74 72 (we 73 0),ZQ 75 72 74,oV 76 75,oG 77 76 (zF 2 12),oG 78 76 (zL 1 77),ZQ 79 76 78,oV 80 79,oG 81 80 (zM 21 12),oG 82 80 (zC 8 81),oG 83 80 (.mv (.t 11)),oG 84 80 (ye 82 83),ZQ 85 80 84,oV 0 85] [0] .ret)))))))
def Rv:List RV:=[.t 0 false]
theorem k14:aM G.tab Tryz.f14 0 c14 Rv=true:=by kernel_rfl
def c35:Cd:=sq [oM 2 (.new 27 zz0)] [0,2] (sq [oV 3 0,oM 4 (.bld zz2 [(0,1,.k (.d (.lit (.int .i64 2)))),(2,1,.t 3)]),oM 5 (.bld zz0 [(0,1,.k (.d (.lit (.int .i64 1)))),(3,4,.t 4)]),oS 9 2 5] [2] .ret)
def NY:List RV:=[.c 2 9 true]
theorem k35:aM G.tab Tryz.f35 1 c35 NY=true:=by kernel_rfl
def c4:Cd:=sq [ZB 2 27 0,ZB 3 29 1,oM 4 (.mv kF)] [2,3] (.seq (.draw [ZM 5 9 2,ZC 6 15 5,ZM 7 9 2,ZC 8 16 7,Ye 9 6 8,oV 10 9,oG 11 10 (zM 21 3),oG 12 10 (zC 8 11),oG 13 10 (zM 21 3),oG 14 10 (zC 17 13),oG 15 10 (ye 12 14),ZQ 16 10 15,oV 17 16,oG 18 17 (.call 14 []),ZQ 19 17 18,oV 4 19] [4]) .ret)
def rs4:List RV:=[.t 4 false]
theorem k4:aM G.tab Tryz.f4 2 c4 rs4=true:=by kernel_rfl
def c5:Cd:=sq [ZB 2 29 0,ZB 3 29 1,oM 4 (.mv kF)] [2,3] (.seq (sq [ZM 7 21 2,ZC 8 18 7,Wn 9 8 0,oV 10 9,oH 11 10 (zM 21 3),oH 12 10 (zC 18 11),oH 13 10 (wn 12 0),ZP 14 10 13] [2,3,14] (.cond (.t 14) (sq [oM 15 (.call 14 []),oV 4 15] [4] .ret) .skip)) (.seq (.draw [ZF 16 12 2,ZM 17 9 16,ZC 18 15 17,ZF 19 12 3,ZM 20 9 19,ZC 21 15 20,oV 5 18,oV 6 21] [2,3,5,6]) (.seq (.draw [oV 22 5,oV 23 6,
 Ye 24 22 23,ZF 25 12 2,ZM 26 9 25,ZF 27 12 3,ZM 28 9 27,ZD 29 13 26 28,oM 30 (.binb .eql (.t 24) (.t 29)),oV 31 30,oG 32 31 (zM 21 2),oG 33 31 (zC 8 32),oG 34 31 (zM 21 3),oG 35 31 (zC 8 34),oG 36 31 (ye 33 35),oG 37 31 (zM 21 2),oG 38 31 (zM 21 3),oG 39 31 (zD 11 37 38),oG 40 31 (.binb .eql (.t 36) (.t 39)),ZQ 41 31 40,oV 42 41,oG 43 42 (.call 14 []),ZQ 44 42 43,oV 4 44] [4]) .ret)))
def rs5:List RV:=[.t 4 false]
theorem k5:aM G.tab Tryz.f5 2 c5 rs5=true:=by kernel_rfl
end Go.Proofs.YthekkgfmagliiaaGreatDoor
