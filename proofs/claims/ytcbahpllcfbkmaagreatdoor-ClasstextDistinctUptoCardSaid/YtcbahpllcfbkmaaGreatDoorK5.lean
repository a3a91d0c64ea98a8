import Derived.Test.YtcbahpllcfbkmaaGreatDoorProg
import Derived.Test.YtcbahpllcfbkmaaGreatDoorA20
import Derived.KernelRfl
import Derived.Test.YtcbahpllcfbkmaaGreatDoorK3
namespace Go.Proofs.YtcbahpllcfbkmaaGreatDoor
open Go.RowKit
set_option maxRecDepth 100000
set_option linter.unusedVariables false
set_option linter.unusedSimpArgs false
def c10:Cd:=sq [oM 2 (.mv (kS ⟨#[]⟩))] [0] (sq [oM 3 (.nilo 9 1)] [0,3] (.seq (sq [oV 6 0,ZN 7 6,oI 8 0] [3,6,7,8] (.block 0 (.loop (sq [Yl 9 8 7] [3,6,7,8,9] (.seq (.cond (.t 9) .skip (.exit 0)) (.seq (.block 1 (sq [ZI 10 4 6 8,ZM 11 4 10,oM 5 (.new 45 zz3),oS 4 5 11] [3,5,6,7,8] (.ops [oM 12 (.mvo 3),ZM 13 4 5,ZC 14 23 13,oM 15 (.mks 9 1 [.t 14]),oM 16 (.app 9 1 16 12 (.t 15)),
 oM 3 (.mvo 16)] [3,6,7,8]))) (.ops [Wa 17 8 1,oV 8 17] [3,6,7,8]))))))) (sq [oV 18 3,oM 19 (.call 24 [.t 18,.k (.d (.lit (.string ⟨#[44,32]⟩)))]),oV 2 19] [2] .ret)))
def GU:List RV:=[.t 2 false]
theorem k10:bj G.tab Tryz.f10 1 c10 GU=true:=by kernel_rfl
def c23:Cd:=sq [ZB 1 45 0,oM 2 (.mv (kS ⟨#[]⟩))] [1] (sq [ZF 4 0 1,ZL 5 1 4,ZC 6 42 5,oV 3 6] [1,3] (.seq (sq [ZF 7 1 1,ZL 8 1 7,ZF 9 0 1,ZL 10 1 9,Yn 11 8 10] [1,3,11] (.cond (.t 11) (.ops [oV 12 3,ZF 13 1 1,ZL 14 1 13,ZC 15 42 14,oM 16 (.bin .add (kS ⟨#[32,46,46,32]⟩) (.t 15)),Ya 17 12 16,oV 3 17] [1,3]) .skip)) (.seq (sq [ZF 18 3 1,ZL 19 1 18] [1,3,19] (.cond (.t 19) (sq [oV 20 3,
 oM 21 (.bin .add (.t 20) (kS ⟨#[32,58,61,32]⟩)),ZF 22 2 1,ZL 23 1 22,ZC 24 42 23,Ya 25 21 24,oV 2 25] [2] .ret) .skip)) (sq [oV 26 3,oM 27 (.bin .add (.t 26) (kS ⟨#[32,58,47,32]⟩)),ZF 28 2 1,ZL 29 1 28,ZC 30 42 29,Ya 31 27 30,oV 2 31] [2] .ret))))
def Il:List RV:=[.t 2 false]
theorem k23:bj G.tab Tryz.f23 1 c23 Il=true:=by kernel_rfl
def Gt:Cd:=sq [oM 2 (.mv (kS ⟨#[]⟩))] [0] (.seq (sq [oV 7 0,oM 8 (.call 144 [.t 7,.k (.d (.lit (.string ⟨#[91]⟩)))]),oV 6 8,ZX 9 6 0,ZX 10 6 1,ZX 11 6 2,oV 3 9,oV 4 10,oV 5 11] [0,3,4,5] (sq [oV 12 5] [0,3,4,12] (.cond (.t 12) (sq [oV 13 3,oM 14 (.bin .add (.t 13) (kS ⟨#[91]⟩)),oV 15 4,oM 16 (.call 145 [.t 15,.k (.d (.lit (.string ⟨#[93]⟩)))]),Ya 17 14 16,oM 18 (.bin .add (.t 17) (kS ⟨#[93]⟩)),
 oV 2 18] [2] .ret) .skip))) (sq [oV 19 0,oV 2 19] [2] .ret))
def Fg:List RV:=[.t 2 false]
theorem IK:bj G.tab Tryz.f122 1 Gt Fg=true:=by kernel_rfl
def Fa:Cd:=sq [oM 2 (.mv (kS ⟨#[]⟩))] [0] (sq [oM 3 (.nilo 9 1)] [0,3] (.seq (sq [oV 6 0,ZN 7 6,oI 8 0] [3,6,7,8] (.block 0 (.loop (sq [Yl 9 8 7] [3,6,7,8,9] (.seq (.cond (.t 9) .skip (.exit 0)) (.seq (.block 1 (sq [ZI 10 1 6 8,ZL 11 1 10,oV 5 11] [3,5,6,7,8] (.ops [oM 12 (.mvo 3),oV 13 5,ZC 14 122 13,oM 15 (.mks 9 1 [.t 14]),oM 16 (.app 9 1 16 12 (.t 15)),oM 3 (.mvo 16)] [3,6,7,
 8]))) (.ops [Wa 17 8 1,oV 8 17] [3,6,7,8]))))))) (sq [oV 18 3,oM 19 (.call 24 [.t 18,.k (.d (.lit (.string ⟨#[44,32]⟩)))]),oV 2 19] [2] .ret)))
def Gr:List RV:=[.t 2 false]
theorem Ib:bj G.tab Tryz.f126 1 Fa Gr=true:=by kernel_rfl
def c27:Cd:=sq [ZB 1 29 0,oM 2 (.mv kF)] [1] (.seq (sq [ZF 5 3 1,ZL 6 1 5,ZN 7 6,oI 8 0] [1,6,7,8] (.block 0 (.loop (sq [Yl 9 8 7] [1,6,7,8,9] (.seq (.cond (.t 9) .skip (.exit 0)) (.seq (.block 1 (sq [ZI 10 2 6 8,ZM 11 2 10,oM 4 (.new 57 zz7),oS 2 4 11] [1,4,6,7,8] (sq [ZF 12 1 4,ZL 13 1 12,ZC 14 38 13,Wn 15 14 0] [1,6,7,8,
 15] (.cond (.t 15) (sq [oM 2 (.mv kF)] [2] .ret) .skip)))) (.ops [Wa 16 8 1,oV 8 16] [1,6,7,8]))))))) (sq [ZM 17 4 1,ZC 18 46 17,We 19 18 0,oV 2 19] [2] .ret))
def H8:List RV:=[.t 2 false]
theorem k27:bj G.tab Tryz.f27 1 c27 H8=true:=by kernel_rfl
def c13:Cd:=sq [ZB 1 29 0,oM 2 (.mv (kS ⟨#[]⟩))] [1] (.seq (sq [ZM 5 4 1,ZC 6 27 5,ZU 7 6] [1,7] (.cond (.t 7) (.seq (.ops [oM 2 (.mv (kS ⟨#[]⟩))] [2]) .ret) .skip)) (sq [oM 8 (.bld [.d (.lit (.pointer none)),.nil,.d (.lit (.int .i64 0))] []),oM 9 (.boxt 64 (.t 8)),oM 3 (.new 58 [.d (.lit (.pointer none))]),oS 1 3 9] [1,3] (sq [oM 4 (.mv (kS ⟨#[]⟩))] [1,3,4] (.seq (sq [ZF 10 1 1,ZL 11 1 10,
 oM 12 (.bin .neq (.t 11) (kS ⟨#[]⟩))] [1,3,4,12] (.cond (.t 12) (.ops [ZF 13 1 1,ZL 14 1 13,oM 15 (.bin .add (kS ⟨#[32,101,120,116,101,110,100,115,32]⟩) (.t 14)),oV 4 15] [1,3,4]) .skip)) (sq [ZL 16 1 3,ZF 17 0 1,ZL 18 1 17,oV 19 4,oM 20 (.mks 9 1 [.k (.d (.lit (.string ⟨#[99,108,97,115,115,32]⟩))),.t 18,.t 19,.k (.d (.lit (.string ⟨#[32,123]⟩)))]),ZD 21 28 16 20] [1,3] (sq [ZL 22 1 3,
 oM 23 (.mkfn 30 [.t 1,.t 3]),ZD 24 29 22 23] [3] (sq [ZL 25 1 3,oM 26 (.mks 9 1 [.k (.d (.lit (.string ⟨#[125]⟩)))]),ZD 27 28 25 26] [3] (sq [ZL 28 1 3,ZK 29 28,ZF 30 0 29,ZC 31 33 30,oV 2 31] [2] .ret))))))))
def Hj:List RV:=[.t 2 false]
theorem k13:bj G.tab Tryz.f13 1 c13 Hj=true:=by kernel_rfl
def c30:Cd:=.seq (sq [ZF 6 2 0,ZL 7 1 6,ZN 8 7,oI 9 0] [0,1,7,8,9] (.block 0 (.loop (sq [Yl 10 9 8] [0,1,7,8,9,10] (.seq (.cond (.t 10) .skip (.exit 0)) (.seq (.block 1 (sq [ZI 11 5 7 9,ZM 12 5 11,oM 3 (.new 55 zz5),oS 5 3 12] [0,1,3,7,8,9] (.ops [ZL 13 1 1,ZM 14 5 3,ZD 15 31 13 14] [0,1,7,8,9]))) (.ops [Wa 16 9 1,oV 9 16] [0,1,7,8,9]))))))) (sq [ZF 17 3 0,ZL 18 1 17,ZN 19 18,oI 20 0] [1,18,19,
 20] (.block 2 (.loop (sq [Yl 21 20 19] [1,18,19,20,21] (.seq (.cond (.t 21) .skip (.exit 2)) (.seq (.block 3 (sq [ZI 22 2 18 20,ZM 23 2 22,oM 5 (.new 57 zz7),oS 2 5 23] [1,5,18,19,20] (.ops [ZL 24 1 1,ZM 25 2 5,ZD 26 32 24 25] [1,18,19,20]))) (.ops [Wa 27 20 1,oV 20 27] [1,18,19,20])))))))
def G7:List RV:=[]
theorem k30:bj G.tab Tryz.f30 2 c30 G7=true:=by kernel_rfl
def c28:Cd:=.seq (.drawg [(oV 6 0,.free 0),(ZK 7 6,.free 0),(ZF 8 0 7,.free 0),(oV 9 0,.free 0),(ZK 10 9,.free 0),(ZF 11 2 10,.free 0),(ZL 12 1 11,.calm 0 0),(oM 13 (.call 47 [.k (.d (.lit (.string ⟨#[32,32,32,32]⟩))),.t 12]),.calm 0 0),(ZD 14 44 8 13,.act)] [0,1]) (.seq (sq [oV 15 1,ZN 16 15,oI 17 0] [0,15,16,17] (.block 0 (.loop (sq [Yl 18 17 16] [0,15,16,17,
 18] (.seq (.cond (.t 18) .skip (.exit 0)) (.seq (.block 1 (sq [ZI 19 1 15 17,ZL 20 1 19,oV 5 20] [0,5,15,16,17] (.ops [oV 21 0,ZK 22 21,ZF 23 0 22,oV 24 5,ZD 25 44 23 24] [0,15,16,17]))) (.ops [Wa 26 17 1,oV 17 26] [0,15,16,17]))))))) (.ops [oV 27 0,ZK 28 27,ZF 29 0 28,oM 30 (.call 44 [.t 29,.k (.d (.lit (.string ⟨#[10]⟩)))])] []))
def Hc:List RV:=[]
theorem k28:bj G.tab Tryz.f28 2 c28 Hc=true:=by kernel_rfl
def c29:Cd:=sq [oV 4 0,ZK 5 4,ZF 6 2 5,ZL 7 1 6,Wa 8 7 1,ZK 9 4,ZF 10 2 9,oS 1 10 8] [0,1] (sq [oV 11 1,oM 12 (.callv (.t 11) [])] [0] (.ops [oV 13 0,ZK 14 13,ZF 15 2 14,ZL 16 1 15,Ws 17 16 1,ZK 18 13,ZF 19 2 18,oS 1 19 17] []))
def IE:List RV:=[]
theorem k29:bj G.tab Tryz.f29 2 c29 IE=true:=by kernel_rfl
def c31:Cd:=sq [ZB 3 55 1] [0,3] (sq [oM 4 (.mv (kS ⟨#[]⟩)),oM 5 (.mv (kS ⟨#[]⟩))] [0,3,4,5] (.seq (sq [ZF 6 2 3,ZL 7 1 6,Wg 8 7 0] [0,3,4,5,8] (.cond (.t 8) (.ops [ZF 9 2 3,ZL 10 1 9,ZC 11 42 10,oM 12 (.bin .add (kS ⟨#[91]⟩) (.t 11)),oM 13 (.bin .add (.t 12) (kS ⟨#[93]⟩)),oV 4 13] [0,3,4,5]) .skip)) (.seq (sq [ZF 14 3 3,ZL 15 1 14,We 16 15 0] [0,3,4,5,16] (.cond (.t 16) (.ops [ZF 17 4 3,
 ZL 18 1 17,ZC 19 42 18,oM 20 (.bin .add (kS ⟨#[32,61,32]⟩) (.t 19)),oV 5 20] [0,3,4,5]) .skip)) (.drawg [(oV 21 0,.free 0),(ZF 22 3 3,.free 0),(ZL 23 1 22,.calm 0 0),(ZC 24 48 23,.calm 0 0),(ZF 25 0 3,.free 0),(ZL 26 1 25,.calm 0 0),(oV 27 4,.free 0),(ZF 28 1 3,.free 0),(ZL 29 1 28,.calm 0 0),(ZC 30 42 29,.calm 0 0),(oV 31 5,.free 0),(oM 32 (.mks 9 1 [.t 24,.t 26,.t 27,.k (.d (.lit (.string ⟨#[32,
 58,32]⟩))),.t 30,.t 31,.k (.d (.lit (.string ⟨#[59]⟩)))]),.free 0),(ZD 33 28 21 32,.act)] []))))
def FN:List RV:=[]
theorem k31:bj G.tab Tryz.f31 2 c31 FN=true:=by kernel_rfl
def c32:Cd:=sq [ZB 2 58 0,ZB 3 57 1] [2,3] (sq [ZL 4 1 2,ZF 5 0 3,ZL 6 1 5,oM 7 (.mks 9 1 [.k (.d (.lit (.string ⟨#[99,111,110,115,116,114,97,105,110,116,32]⟩))),.t 6,.k (.d (.lit (.string ⟨#[32,123]⟩)))]),ZD 8 28 4 7] [2,3] (sq [ZL 9 1 2,oM 10 (.mkfn 49 [.t 2,.t 3]),ZD 11 29 9 10] [2] (.ops [ZL 12 1 2,oM 13 (.mks 9 1 [.k (.d (.lit (.string ⟨#[125]⟩)))]),ZD 14 28 12 13] [])))
def GN:List RV:=[]
theorem k32:bj G.tab Tryz.f32 2 c32 GN=true:=by kernel_rfl
def c49:Cd:=.ops [ZL 2 1 0,ZF 3 1 1,ZL 4 1 3,ZD 5 39 2 4] []
def H5:List RV:=[]
theorem k49:bj G.tab Tryz.f49 2 c49 H5=true:=by kernel_rfl
def c39:Cd:=sq [oV 6 1,ZN 7 6,oI 8 0] [0,6,7,8] (.block 0 (.loop (sq [Yl 9 8 7] [0,6,7,8,9] (.seq (.cond (.t 9) .skip (.exit 0)) (.seq (.block 1 (sq [ZI 10 12 6 8,ZM 11 12 10,oM 5 (.new 53 zz2),oS 12 5 11] [0,5,6,7,8] (.drawg [(ZF 12 0 5,.free 0),(ZL 13 1 12,.calm 0 0),(ZC 14 59 13,.calm 0 0),(oV 15 0,.free 0),(ZM 16 12 5,.calm 0 0),(oM 17 (.callv (.t 14) [.t 15,.t 16]),.act)] [0,6,7,
 8]))) (.ops [Wa 18 8 1,oV 8 18] [0,6,7,8]))))))
def G2:List RV:=[]
theorem k39:bj G.tab Tryz.f39 2 c39 G2=true:=by kernel_rfl
def c59:Cd:=sq [oM 2 (.mv (.k (.d (.lit .nilFunc))))] [0] (.seq (sq [oV 3 0] [3] (.block 0 (sq [We 5 3 2,oV 4 5] [3,4] (.cond (.t 4) (sq [oM 2 (.mv (.k (.fn 90 [])))] [2] .ret) (sq [We 7 3 3,oV 6 7] [3,6] (.cond (.t 6) (sq [oM 2 (.mv (.k (.fn 91 [])))] [2] .ret) (sq [We 9 3 4,oV 8 9] [3,8] (.cond (.t 8) (sq [oM 2 (.mv (.k (.fn 92 [])))] [2] .ret) (sq [We 11 3 5,oV 10 11] [3,
 10] (.cond (.t 10) (sq [oM 2 (.mv (.k (.fn 93 [])))] [2] (.ret)) (sq [We 13 3 6,oV 12 13] [12] (.cond (.t 12) (sq [oM 2 (.mv (.k (.fn 94 [])))] [2] .ret) .skip)))))))))))) (sq [oM 2 (.mv (.k (.fn 95 [])))] [2] (.ret)))
def G0:List RV:=[.t 2 false]
theorem k59:bj G.tab Tryz.f59 1 c59 G0=true:=by kernel_rfl
def c48:Cd:=sq [oM 2 (.mv (kS ⟨#[]⟩))] [0] (.seq (sq [oV 3 0] [3] (.block 0 (sq [We 5 3 1,oV 4 5] [3,4] (.cond (.t 4) (sq [oM 2 (.mv (kS ⟨#[114,97,110,100,32]⟩))] [2] (.ret)) (sq [We 7 3 2,oV 6 7] [6] (.cond (.t 6) (sq [oM 2 (.mv (kS ⟨#[114,97,110,100,99,32]⟩))] [2] .ret) .skip)))))) (sq [oM 2 (.mv (kS ⟨#[115,116,97,116,101,32]⟩))] [2] (.ret)))
def IR:List RV:=[.t 2 false]
theorem k48:bj G.tab Tryz.f48 1 c48 IR=true:=by kernel_rfl
def c90:Cd:=sq [ZB 3 53 1] [0,3] (.ops [oV 4 0,ZF 5 1 3,ZM 6 4 5,ZC 7 121 6,oM 8 (.mks 9 1 [.k (.d (.lit (.string ⟨#[115,111,102,116,32]⟩))),.t 7,.k (.d (.lit (.string ⟨#[59]⟩)))]),ZD 9 28 4 8] [])
def Ha:List RV:=[]
theorem k90:bj G.tab Tryz.f90 2 c90 Ha=true:=by kernel_rfl
def c91:Cd:=sq [ZB 3 53 1] [0,3] (.drawg [(oV 4 0,.free 0),(ZF 5 5 3,.free 0),(ZL 6 1 5,.calm 0 0),(ZC 7 122 6,.calm 0 0),(ZF 8 7 3,.free 0),(ZL 9 1 8,.calm 0 0),(ZC 10 10 9,.calm 0 0),(oM 11 (.mks 9 1 [.k (.d (.lit (.string ⟨#[100,105,115,116,32]⟩))),.t 7,.k (.d (.lit (.string ⟨#[32,123,32]⟩))),.t 10,.k (.d (.lit (.string ⟨#[32,125,59]⟩)))]),.free 0),(ZD 12 28 4 11,.act)] [])
def Iz:List RV:=[]
theorem k91:bj G.tab Tryz.f91 2 c91 Iz=true:=by kernel_rfl
def c92:Cd:=sq [ZB 2 58 0,ZB 3 53 1] [2,3] (.seq (.drawg [(ZL 4 1 2,.calm 0 0),(ZF 5 1 3,.free 0),(ZM 6 4 5,.calm 0 0),(ZC 7 121 6,.calm 0 0),(oM 8 (.mks 9 1 [.k (.d (.lit (.string ⟨#[105,102,32,40]⟩))),.t 7,.k (.d (.lit (.string ⟨#[41,32,123]⟩)))]),.free 0),(ZD 9 28 4 8,.act)] [2,3]) (sq [ZL 10 1 2,oM 11 (.mkfn 123 [.t 2,.t 3]),ZD 12 29 10 11] [2,3] (.seq (sq [ZF 13 9 3,ZL 14 1 13,ZN 15 14,
 Wg 16 15 0] [2,3,16] (.cond (.t 16) (sq [ZL 17 1 2,oM 18 (.mks 9 1 [.k (.d (.lit (.string ⟨#[125,32,101,108,115,101,32,123]⟩)))]),ZD 19 28 17 18] [2,3] (.ops [ZL 20 1 2,oM 21 (.mkfn 124 [.t 2,.t 3]),ZD 22 29 20 21] [2])) .skip)) (.ops [ZL 23 1 2,oM 24 (.mks 9 1 [.k (.d (.lit (.string ⟨#[125]⟩)))]),ZD 25 28 23 24] []))))
def Hi:List RV:=[]
theorem k92:bj G.tab Tryz.f92 2 c92 Hi=true:=by kernel_rfl
def c93:Cd:=sq [ZB 2 58 0,ZB 3 53 1] [2,3] (sq [ZL 4 1 2,ZF 5 6 3,ZL 6 1 5,ZF 7 5 3,ZL 8 1 7,oM 9 (.mks 9 1 [.k (.d (.lit (.string ⟨#[101,97,99,104,32]⟩))),.t 6,.k (.d (.lit (.string ⟨#[32,105,110,32]⟩))),.t 8,.k (.d (.lit (.string ⟨#[32,123]⟩)))]),ZD 10 28 4 9] [2,3] (sq [ZL 11 1 2,oM 12 (.mkfn 125 [.t 2,.t 3]),ZD 13 29 11 12] [2] (.ops [ZL 14 1 2,
 oM 15 (.mks 9 1 [.k (.d (.lit (.string ⟨#[125]⟩)))]),ZD 16 28 14 15] [])))
def Hb:List RV:=[]
theorem k93:bj G.tab Tryz.f93 2 c93 Hb=true:=by kernel_rfl
def c94:Cd:=sq [ZB 3 53 1] [0,3] (.drawg [(oV 4 0,.free 0),(ZF 5 10 3,.free 0),(ZL 6 1 5,.calm 0 0),(ZC 7 126 6,.calm 0 0),(ZF 8 11 3,.free 0),(ZL 9 1 8,.calm 0 0),(ZC 10 126 9,.calm 0 0),(oM 11 (.mks 9 1 [.k (.d (.lit (.string ⟨#[115,111,108,118,101,32]⟩))),.t 7,.k (.d (.lit (.string ⟨#[32,98,101,102,111,114,101,32]⟩))),.t 10,.k (.d (.lit (.string ⟨#[59]⟩)))]),.free 0),(ZD 12 28 4 11,.act)] [])
def HU:List RV:=[]
theorem k94:bj G.tab Tryz.f94 2 c94 HU=true:=by kernel_rfl
def c95:Cd:=sq [ZB 3 53 1] [0,3] (.ops [oV 4 0,ZF 5 1 3,ZM 6 4 5,ZC 7 121 6,oM 8 (.mks 9 1 [.t 7,.k (.d (.lit (.string ⟨#[59]⟩)))]),ZD 9 28 4 8] [])
def Id:List RV:=[]
theorem k95:bj G.tab Tryz.f95 2 c95 Id=true:=by kernel_rfl
def Fq:Cd:=.ops [ZL 2 1 0,ZF 3 8 1,ZL 4 1 3,ZD 5 39 2 4] []
def E4:List RV:=[]
theorem Hp:bj G.tab Tryz.f123 2 Fq E4=true:=by kernel_rfl
def ES:Cd:=.ops [ZL 2 1 0,ZF 3 9 1,ZL 4 1 3,ZD 5 39 2 4] []
def FH:List RV:=[]
theorem Io:bj G.tab Tryz.f124 2 ES FH=true:=by kernel_rfl
def FL:Cd:=.ops [ZL 2 1 0,ZF 3 8 1,ZL 4 1 3,ZD 5 39 2 4] []
def Gh:List RV:=[]
theorem HA:bj G.tab Tryz.f125 2 FL Gh=true:=by kernel_rfl
def c46:Cd:=sq [ZB 1 29 0,oI 2 0] [1] (.seq (.block 0 (sq [ZF 7 0 1,ZL 8 1 7,ZC 9 65 8,ZU 10 9,oV 11 10,oH 12 11 (zF 1 1),oH 13 11 (zL 1 12),oH 14 11 (.bin .neq (.t 13) (kS ⟨#[]⟩)),oH 15 11 (.mv (.t 14)),oG 16 15 (zF 1 1),oG 17 15 (zL 1 16),oG 18 15 (zC 65 17),oG 19 15 (zU 18),oH 20 11 (zQ 15 19),ZP 21 11 20,oV 6 21] [1,6] (.cond (.t 6) (sq [oI 2 7] [2] .ret) (sq [ZF 23 2 1,ZL 24 1 23,ZN 25 24,
 Wg 26 25 16,oV 27 26,oH 28 27 (zF 3 1),oH 29 27 (zL 1 28),oH 30 27 (zN 29),oH 31 27 (wg 30 16),ZP 32 27 31,oV 22 32] [1,22] (.cond (.t 22) (sq [oI 2 2] [2] .ret) .skip))))) (.seq (sq [ZF 33 2 1,ZL 34 1 33,ZN 35 34,oI 36 0] [1,34,35,36] (.block 1 (.loop (sq [Yl 37 36 35] [1,34,35,36,37] (.seq (.cond (.t 37) .skip (.exit 1)) (.seq (.block 2 (sq [ZI 38 5 34 36,ZM 39 5 38,oM 4 (.new 55 zz5),
 oS 5 4 39] [1,4,34,35,36] (sq [ZM 40 5 4,ZC 41 66 40,oV 5 41] [1,5,34,35,36] (sq [oV 42 5,Wn 43 42 0] [1,5,34,35,36,43] (.cond (.t 43) (.seq (.ops [oV 44 5,oV 2 44] [2]) .ret) .skip))))) (.ops [Wa 45 36 1,oV 36 45] [1,34,35,36]))))))) (.seq (sq [ZF 46 3 1,ZL 47 1 46,oM 48 (.call 67 [.t 47,.k (.fn 68 [])])] [1,48] (.cond (.t 48) (sq [oI 2 7] [2] .ret) .skip)) (.seq (sq [ZF 49 2 1,ZL 50 1 49,
 oM 51 (.call 69 [.t 50,.k (.fn 70 [])]),oV 52 51,oH 53 52 (zF 3 1),oH 54 52 (zL 1 53),⟨some 55,.call 71 [.t 54,.k (.fn 72 [])],(some (52,false))⟩,ZP 56 52 55] [56] (.cond (.t 56) (sq [oI 2 8] [2] (.ret)) .skip)) (sq [oI 2 0] [2] .ret)))))
def Ii:List RV:=[.t 2 false]
theorem k46:bj G.tab Tryz.f46 1 c46 Ii=true:=by kernel_rfl
def c68:Cd:=sq [ZB 1 57 0,oM 2 (.mv kF)] [1] (sq [ZF 3 0 1,ZL 4 1 3,ZC 5 65 4,ZU 6 5,oV 2 6] [2] .ret)
def H7:List RV:=[.t 2 false]
theorem k68:bj G.tab Tryz.f68 1 c68 H7=true:=by kernel_rfl
def c66:Cd:=sq [ZB 1 55 0,oI 2 0] [1] (.seq (.block 0 (sq [ZF 5 0 1,ZL 6 1 5,ZC 7 65 6,ZU 8 7,oV 4 8] [1,4] (.cond (.t 4) (sq [oI 2 7] [2] .ret) (sq [ZF 10 1 1,ZL 11 1 10,Wl 12 11 1,oV 13 12,oH 14 13 (zF 1 1),oH 15 13 (zL 1 14),oH 16 13 (wg 15 8),ZP 17 13 16,oV 18 17,oH 19 18 (zF 2 1),oH 20 18 (zL 1 19),oH 21 18 (wl 20 0),ZP 22 18 21,oV 23 22,oH 24 23 (zF 2 1),oH 25 23 (zL 1 24),
 oH 26 23 (wg 25 8),ZP 27 23 26,oV 9 27] [1,9] (.cond (.t 9) (sq [oI 2 1] [2] (.ret)) (sq [ZF 29 3 1,ZL 30 1 29,Wn 31 30 0,oV 32 31,oG 33 32 (zF 3 1),oG 34 32 (zL 1 33),oG 35 32 (wn 34 1),ZQ 36 32 35,oV 37 36,oG 38 37 (zF 3 1),oG 39 37 (zL 1 38),oG 40 37 (wn 39 2),ZQ 41 37 40,oV 28 41] [1,28] (.cond (.t 28) (sq [oI 2 1] [2] .ret) (sq [ZF 43 2 1,ZL 44 1 43,Wn 45 44 0,oV 46 45,oG 47 46 (zF 3 1),
 oG 48 46 (zL 1 47),oG 49 46 (we 48 2),ZQ 50 46 49,oV 42 50] [1,42] (.cond (.t 42) (sq [oI 2 1] [2] .ret) .skip))))))))) (sq [oI 3 0] [1,3] (.seq (sq [ZF 51 3 1,ZL 52 1 51,We 53 52 0] [1,3,53] (.cond (.t 53) (.ops [ZF 54 1 1,ZL 55 1 54,oM 56 (.bin .shl (kI 1) (.t 55)),Ws 57 56 1,oV 3 57] [1,3]) .skip)) (.seq (sq [ZF 58 4 1,ZL 59 1 58,Wl 60 59 0,oV 61 60,oH 62 61 (zF 4 1),oH 63 61 (zL 1 62),
 oH 64 61 (.mv (.t 3)),oH 65 61 (yg 63 64),ZP 66 61 65] [66] (.cond (.t 66) (sq [oI 2 1] [2] .ret) .skip)) (sq [oI 2 0] [2] (.ret))))))
def IQ:List RV:=[.t 2 false]
theorem k66:bj G.tab Tryz.f66 1 c66 IQ=true:=by kernel_rfl
def c69:Cd:=sq [oM 4 (.mv kF)] [0,1] (.seq (sq [oV 7 0,ZN 8 7,oI 9 0] [0,1,8,9] (.block 0 (.loop (sq [Yl 10 9 8] [0,1,8,9,10] (.seq (.cond (.t 10) .skip (.exit 0)) (.seq (.block 1 (sq [oV 11 9,oV 5 11] [0,1,5,8,9] (sq [oV 12 5,oI 13 0] [0,1,5,8,9,12,13] (.block 2 (.loop (sq [Yl 14 13 12] [0,1,5,8,9,12,13,14] (.seq (.cond (.t 14) .skip (.exit 2)) (.seq (.block 3 (sq [oV 15 13,oV 6 15] [0,1,5,6,8,9,
 12,13] (.seq (.draw [oV 16 1,oV 17 0,oV 18 5,ZI 19 5 17 18,ZM 20 5 19,oM 21 (.callv (.t 16) [.t 20]),oV 22 1,oV 23 0,oV 24 6,ZI 25 5 23 24,ZM 26 5 25,oM 27 (.callv (.t 22) [.t 26]),Ye 28 21 27] [0,1,5,8,9,12,13,28]) (.cond (.t 28) (sq [oM 4 (.mv kT)] [4] .ret) .skip)))) (.ops [Wa 29 13 1,oV 13 29] [0,1,5,8,9,12,13]))))))))) (.ops [Wa 30 9 1,oV 9 30] [0,1,8,9]))))))) (sq [oM 4 (.mv kF)] [4] .ret))
def Hy:List RV:=[.t 4 false]
theorem k69:bj G.tab Tryz.f69 2 c69 Hy=true:=by kernel_rfl
def c71:Cd:=sq [oM 4 (.mv kF)] [0,1] (.seq (sq [oV 7 0,ZN 8 7,oI 9 0] [0,1,8,9] (.block 0 (.loop (sq [Yl 10 9 8] [0,1,8,9,10] (.seq (.cond (.t 10) .skip (.exit 0)) (.seq (.block 1 (sq [oV 11 9,oV 5 11] [0,1,5,8,9] (sq [oV 12 5,oI 13 0] [0,1,5,8,9,12,13] (.block 2 (.loop (sq [Yl 14 13 12] [0,1,5,8,9,12,13,14] (.seq (.cond (.t 14) .skip (.exit 2)) (.seq (.block 3 (sq [oV 15 13,oV 6 15] [0,1,5,6,8,9,
 12,13] (.seq (.draw [oV 16 1,oV 17 0,oV 18 5,ZI 19 2 17 18,ZM 20 2 19,oM 21 (.callv (.t 16) [.t 20]),oV 22 1,oV 23 0,oV 24 6,ZI 25 2 23 24,ZM 26 2 25,oM 27 (.callv (.t 22) [.t 26]),Ye 28 21 27] [0,1,5,8,9,12,13,28]) (.cond (.t 28) (sq [oM 4 (.mv kT)] [4] .ret) .skip)))) (.ops [Wa 29 13 1,oV 13 29] [0,1,5,8,9,12,13]))))))))) (.ops [Wa 30 9 1,oV 9 30] [0,1,8,9]))))))) (sq [oM 4 (.mv kF)] [4] .ret))
def G8:List RV:=[.t 4 false]
theorem k71:bj G.tab Tryz.f71 2 c71 G8=true:=by kernel_rfl
def c70:Cd:=sq [ZB 1 55 0,oM 2 (.mv (kS ⟨#[]⟩))] [1] (sq [ZF 3 0 1,ZL 4 1 3,oV 2 4] [2] .ret)
def He:List RV:=[.t 2 false]
theorem k70:bj G.tab Tryz.f70 1 c70 He=true:=by kernel_rfl
def c72:Cd:=sq [ZB 1 57 0,oM 2 (.mv (kS ⟨#[]⟩))] [1] (sq [ZF 3 0 1,ZL 4 1 3,oV 2 4] [2] .ret)
def IA:List RV:=[.t 2 false]
theorem k72:bj G.tab Tryz.f72 1 c72 IA=true:=by kernel_rfl
def c67:Cd:=sq [oM 4 (.mv kF)] [0,1] (sq [oV 5 0,oV 6 1,ZD 7 106 5 6,Wh 8 7 0,oV 4 8] [4] .ret)
def G6:List RV:=[.t 4 false]
theorem k67:bj G.tab Tryz.f67 2 c67 G6=true:=by kernel_rfl
def Fm:Cd:=sq [oI 4 0] [0,1] (.seq (sq [oV 6 0,ZN 7 6,oI 8 0] [0,1,7,8] (.block 0 (.loop (sq [Yl 9 8 7] [0,1,7,8,9] (.seq (.cond (.t 9) .skip (.exit 0)) (.seq (.block 1 (sq [oV 10 8,oV 5 10] [0,1,5,7,8] (sq [oV 11 1,oV 12 0,oV 13 5,ZI 14 2 12 13,ZM 15 2 14,oM 16 (.callv (.t 11) [.t 15])] [0,1,5,7,8,16] (.cond (.t 16) (sq [oV 17 5,oV 4 17] [4] .ret) .skip)))) (.ops [Wa 18 8 1,oV 8 18] [0,1,7,
 8]))))))) (.seq (.ops [oI 4 (-1)] [4]) .ret))
def Gv:List RV:=[.t 4 false]
theorem GZ:bj G.tab Tryz.f106 2 Fm Gv=true:=by kernel_rfl
def c25:Cd:=sq [oM 2 (.mv (kS ⟨#[]⟩))] [0] (sq [oV 4 0,ZC 5 45 4,oV 3 5] [3] (sq [oV 6 3,oV 7 3,oM 8 (.len true (.t 7)),Ws 9 8 1,oM 10 (.sub true 0 (.t 6) none (some (.t 9))),oV 2 10] [2] .ret))
def c15:Cd:=sq [ZB 1 29 0,oM 2 (.mv kF)] [1] (.seq (sq [ZM 4 4 1,ZC 5 36 4,Wn 6 5 0] [1,6] (.cond (.t 6) (.seq (.ops [oM 2 (.mv kF)] [2]) .ret) .skip)) (.seq (sq [oI 3 0] [1,3] (.block 0 (.loop (.seq (sq [oV 7 3,ZF 8 3 1,ZL 9 1 8,ZN 10 9,Yl 11 7 10] [1,3,11] (.cond (.t 11) .skip (.exit 0))) (.seq (.block 1 (sq [ZF 14 3 1,ZL 15 1 14,oV 16 3,ZI 17 2 15 16,ZF 18 1 17,ZL 19 1 18,ZC 20 20 19,
 Wn 21 20 0] [1,3,21] (.cond (.t 21) (sq [oM 2 (.mv kF)] [2] .ret) .skip))) (.ops [oV 12 3,Wa 13 12 1,oV 3 13] [1,3])))))) (sq [oM 2 (.mv kT)] [2] .ret)))
def IC:List RV:=[.t 2 false]
theorem k15:bj G.tab Tryz.f15 1 c15 IC=true:=by kernel_rfl
def c22:Cd:=sq [oM 2 (.mv (kS ⟨#[]⟩))] [0] (sq [oM 3 (.mv (kS ⟨#[]⟩))] [0,3] (.seq (sq [oI 4 0] [0,3,4] (.block 0 (.loop (.seq (sq [oV 5 4,oV 6 0,ZN 7 6,Yl 8 5 7] [0,3,4,8] (.cond (.t 8) .skip (.exit 0))) (.seq (.block 1 (.seq (sq [oV 11 0,oV 12 4,ZI 13 4 11 12,ZM 14 4 13,ZC 15 15 14,ZU 16 15] [0,3,4,16] (.cond (.t 16) (sq [oM 2 (.mv (kS ⟨#[]⟩))] [2] .ret) .skip)) (.seq (sq [oV 17 4,
 Wg 18 17 0] [0,3,4,18] (.cond (.t 18) (.ops [oV 19 3,oM 20 (.bin .add (.t 19) (kS ⟨#[10]⟩)),oV 3 20] [0,3,4]) .skip)) (.ops [oV 21 3,oV 22 0,oV 23 4,ZI 24 4 22 23,ZM 25 4 24,ZC 26 14 25,Ya 27 21 26,oV 3 27] [0,3,4])))) (.ops [oV 9 4,Wa 10 9 1,oV 4 10] [0,3,4])))))) (sq [oV 28 3,oV 2 28] [2] .ret)))
def c36:Cd:=sq [ZB 1 29 0,oI 2 0] [1] (.seq (sq [ZF 8 0 1,ZL 9 1 8,ZC 10 51 9,ZU 11 10,oV 12 11,oH 13 12 (zF 1 1),oH 14 12 (zL 1 13),oH 15 12 (.bin .neq (.t 14) (kS ⟨#[]⟩)),oH 16 12 (.mv (.t 15)),oG 17 16 (zF 1 1),oG 18 16 (zL 1 17),oG 19 16 (zC 51 18),oG 20 16 (zU 19),oH 21 12 (zQ 16 20),ZP 22 12 21] [1,22] (.cond (.t 22) (sq [oI 2 7] [2] .ret) .skip)) (.seq (sq [ZF 23 2 1,ZL 24 1 23,ZN 25 24,
 Wg 26 25 16,oV 27 26,oH 28 27 (zF 3 1),oH 29 27 (zL 1 28),oH 30 27 (zN 29),oH 31 27 (wg 30 16),ZP 32 27 31] [1,32] (.cond (.t 32) (sq [oI 2 2] [2] .ret) .skip)) (.seq (sq [oI 3 0] [1,3] (.block 0 (.loop (.seq (sq [oV 33 3,ZF 34 2 1,ZL 35 1 34,ZN 36 35,Yl 37 33 36] [1,3,37] (.cond (.t 37) .skip (.exit 0))) (.seq (.block 1 (sq [ZF 40 2 1,ZL 41 1 40,oV 42 3,ZI 43 5 41 42,ZM 44 5 43,ZC 45 52 44,
 oV 4 45] [1,3,4] (sq [oV 46 4,Wn 47 46 0] [1,3,4,47] (.cond (.t 47) (sq [oV 48 4,oV 2 48] [2] .ret) .skip)))) (.ops [oV 38 3,Wa 39 38 1,oV 3 39] [1,3])))))) (.seq (sq [oI 5 0] [1,5] (.block 2 (.loop (.seq (sq [oV 49 5,ZF 50 3 1,ZL 51 1 50,ZN 52 51,Yl 53 49 52] [1,5,53] (.cond (.t 53) .skip (.exit 2))) (.seq (.block 3 (sq [ZF 56 3 1,ZL 57 1 56,oV 58 5,ZI 59 2 57 58,ZF 60 0 59,ZL 61 1 60,
 ZC 62 51 61,ZU 63 62] [1,5,63] (.cond (.t 63) (sq [oI 2 7] [2] .ret) .skip))) (.ops [oV 54 5,Wa 55 54 1,oV 5 55] [1,5])))))) (.seq (sq [oI 6 0] [1,6] (.block 4 (.loop (.seq (sq [oV 64 6,ZF 65 2 1,ZL 66 1 65,ZN 67 66,Yl 68 64 67] [1,6,68] (.cond (.t 68) .skip (.exit 4))) (.seq (.block 5 (.seq (.draw [ZF 71 2 1,ZL 72 1 71,oV 73 6,oM 74 (.sub false 5 (.t 72) none (some (.t 73))),ZF 75 2 1,ZL 76 1 75,
 oV 77 6,ZI 78 5 76 77,ZF 79 0 78,ZL 80 1 79,ZD 81 53 74 80] [1,6,81]) (.cond (.t 81) (sq [oI 2 8] [2] .ret) (.skip)))) (.ops [oV 69 6,Wa 70 69 1,oV 6 70] [1,6])))))) (.seq (sq [oI 7 0] [1,7] (.block 6 (.loop (.seq (sq [oV 82 7,ZF 83 3 1,ZL 84 1 83,ZN 85 84,Yl 86 82 85] [1,7,86] (.cond (.t 86) .skip (.exit 6))) (.seq (.block 7 (.seq (.draw [ZF 89 3 1,ZL 90 1 89,oV 91 7,
 oM 92 (.sub false 2 (.t 90) none (some (.t 91))),ZF 93 3 1,ZL 94 1 93,oV 95 7,ZI 96 2 94 95,ZF 97 0 96,ZL 98 1 97,ZD 99 54 92 98,Wh 100 99 0] [1,7,100]) (.cond (.t 100) (sq [oI 2 8] [2] .ret) .skip))) (.ops [oV 87 7,Wa 88 87 1,oV 7 88] [1,7])))))) (.seq (.ops [oI 2 0] [2]) .ret)))))))
def Ie:List RV:=[.t 2 false]
theorem k36:bj G.tab Tryz.f36 1 c36 Ie=true:=by kernel_rfl
def c52:Cd:=sq [ZB 1 55 0,oI 2 0] [1] (.seq (sq [ZF 4 0 1,ZL 5 1 4,ZC 6 51 5,ZU 7 6] [1,7] (.cond (.t 7) (sq [oI 2 7] [2] .ret) .skip)) (.seq (sq [ZF 8 1 1,ZL 9 1 8,Wl 10 9 1,oV 11 10,oH 12 11 (zF 1 1),oH 13 11 (zL 1 12),oH 14 11 (wg 13 8),ZP 15 11 14,oV 16 15,oH 17 16 (zF 2 1),oH 18 16 (zL 1 17),oH 19 16 (wl 18 0),ZP 20 16 19,oV 21 20,oH 22 21 (zF 2 1),oH 23 21 (zL 1 22),oH 24 21 (wg 23 8),
 ZP 25 21 24,oV 26 25,oH 27 26 (zF 3 1),oH 28 26 (zL 1 27),oH 29 26 (wl 28 0),ZP 30 26 29,oV 31 30,oH 32 31 (zF 3 1),oH 33 31 (zL 1 32),oH 34 31 (wg 33 2),ZP 35 31 34] [1,35] (.cond (.t 35) (sq [oI 2 1] [2] (.ret)) .skip)) (.seq (sq [ZF 36 2 1,ZL 37 1 36,Wn 38 37 0,oV 39 38,oG 40 39 (zF 3 1),oG 41 39 (zL 1 40),oG 42 39 (we 41 2),ZQ 43 39 42] [1,
 43] (.cond (.t 43) (sq [oI 2 1] [2] .ret) .skip)) (sq [oI 3 0] [1,3] (.seq (sq [ZF 44 3 1,ZL 45 1 44,We 46 45 0] [1,3,46] (.cond (.t 46) (.ops [ZF 47 1 1,ZL 48 1 47,oM 49 (.conv .u64 (.t 48)),oM 50 (.bin .shl (kI 1) (.t 49)),Ws 51 50 1,oV 3 51] [1,3]) .skip)) (.seq (sq [ZF 52 4 1,ZL 53 1 52,Wl 54 53 0,oV 55 54,oH 56 55 (zF 4 1),oH 57 55 (zL 1 56),oH 58 55 (.mv (.t 3)),oH 59 55 (yg 57 58),
 ZP 60 55 59] [60] (.cond (.t 60) (sq [oI 2 1] [2] .ret) .skip)) (sq [oI 2 0] [2] .ret)))))))
def II:List RV:=[.t 2 false]
theorem k52:bj G.tab Tryz.f52 1 c52 II=true:=by kernel_rfl
def c53:Cd:=sq [oM 4 (.mv kF)] [0,1] (.seq (sq [oI 5 0] [0,1,5] (.block 0 (.loop (.seq (sq [oV 6 5,oV 7 0,ZN 8 7,Yl 9 6 8] [0,1,5,9] (.cond (.t 9) .skip (.exit 0))) (.seq (.block 1 (sq [oV 12 0,oV 13 5,ZI 14 5 12 13,ZF 15 0 14,ZL 16 1 15,oV 17 1,Ye 18 16 17] [0,1,5,18] (.cond (.t 18) (sq [oM 4 (.mv kT)] [4] .ret) .skip))) (.ops [oV 10 5,Wa 11 10 1,oV 5 11] [0,1,
 5])))))) (sq [oM 4 (.mv kF)] [4] .ret))
def IO:List RV:=[.t 4 false]
theorem k53:bj G.tab Tryz.f53 2 c53 IO=true:=by kernel_rfl
def c54:Cd:=sq [oI 4 0] [0,1] (.seq (sq [oI 5 0] [0,1,5] (.block 0 (.loop (.seq (sq [oV 6 5,oV 7 0,ZN 8 7,Yl 9 6 8] [0,1,5,9] (.cond (.t 9) .skip (.exit 0))) (.seq (.block 1 (sq [oV 12 0,oV 13 5,ZI 14 2 12 13,ZF 15 0 14,ZL 16 1 15,oV 17 1,Ye 18 16 17] [0,1,5,18] (.cond (.t 18) (sq [oV 19 5,oV 4 19] [4] .ret) .skip))) (.ops [oV 10 5,Wa 11 10 1,oV 5 11] [0,1,5])))))) (sq [oI 4 (-1)] [4] .ret))
def IB:List RV:=[.t 4 false]
theorem k54:bj G.tab Tryz.f54 2 c54 IB=true:=by kernel_rfl
def c16:Cd:=sq [ZB 2 29 0,ZB 3 29 1,oM 4 (.mv kF)] [2,3] (.seq (sq [ZF 7 0 2,ZL 8 1 7,ZF 9 0 3,ZL 10 1 9,Yn 11 8 10,oV 12 11,oH 13 12 (zF 1 2),oH 14 12 (zL 1 13),oH 15 12 (zF 1 3),oH 16 12 (zL 1 15),oH 17 12 (yn 14 16),ZP 18 12 17,oV 19 18,oH 20 19 (zF 2 2),oH 21 19 (zL 1 20),oH 22 19 (zN 21),oH 23 19 (zF 2 3),oH 24 19 (zL 1 23),oH 25 19 (zN 24),oH 26 19 (yn 22 25),ZP 27 19 26,oV 28 27,
 oH 29 28 (zF 3 2),oH 30 28 (zL 1 29),oH 31 28 (zN 30),oH 32 28 (zF 3 3),oH 33 28 (zL 1 32),oH 34 28 (zN 33),oH 35 28 (yn 31 34),ZP 36 28 35] [2,3,36] (.cond (.t 36) (sq [oM 4 (.mv kF)] [4] .ret) .skip)) (.seq (sq [oI 5 0] [2,3,5] (.block 0 (.loop (.seq (sq [oV 37 5,ZF 38 2 2,ZL 39 1 38,ZN 40 39,Yl 41 37 40] [2,3,5,41] (.cond (.t 41) .skip (.exit 0))) (.seq (.block 1 (.seq (.draw [ZF 44 2 2,
 ZL 45 1 44,oV 46 5,ZI 47 5 45 46,ZM 48 5 47,ZF 49 2 3,ZL 50 1 49,oV 51 5,ZI 52 5 50 51,ZM 53 5 52,oM 54 (.eqa true 55 [.s,.i .i64,.i .i64,.i .i64,.i .i64] (.t 48) (.t 53))] [2,3,5,54]) (.cond (.t 54) (sq [oM 4 (.mv kF)] [4] (.ret)) .skip))) (.ops [oV 42 5,Wa 43 42 1,oV 5 43] [2,3,5])))))) (.seq (sq [oI 6 0] [2,3,6] (.block 2 (.loop (.seq (sq [oV 55 6,ZF 56 3 2,ZL 57 1 56,ZN 58 57,Yl 59 55 58] [2,
 3,6,59] (.cond (.t 59) .skip (.exit 2))) (.seq (.block 3 (.seq (.draw [ZF 62 3 2,ZL 63 1 62,oV 64 6,ZI 65 2 63 64,ZF 66 0 65,ZL 67 1 66,ZF 68 3 3,ZL 69 1 68,oV 70 6,ZI 71 2 69 70,ZF 72 0 71,ZL 73 1 72,Yn 74 67 73,oV 75 74,oH 76 75 (zF 3 2),oH 77 75 (zL 1 76),oH 78 75 (.mv (.t 6)),oH 79 75 (zI 2 77 78),oH 80 75 (zF 1 79),oH 81 75 (zL 1 80),oH 82 75 (zF 3 3),oH 83 75 (zL 1 82),oH 84 75 (.mv (.t 6)),
 oH 85 75 (zI 2 83 84),oH 86 75 (zF 1 85),oH 87 75 (zL 1 86),oH 88 75 (zD 37 81 87),oH 89 75 (zU 88),ZP 90 75 89] [2,3,6,90]) (.cond (.t 90) (sq [oM 4 (.mv kF)] [4] (.ret)) .skip))) (.ops [oV 60 6,Wa 61 60 1,oV 6 61] [2,3,6])))))) (sq [oM 4 (.mv kT)] [4] .ret))))
def GP:List RV:=[.t 4 false]
theorem k16:bj G.tab Tryz.f16 2 c16 GP=true:=by kernel_rfl
def c3:Cd:=sq [oM 2 (.mv kF)] [0] (sq [oV 3 0,oV 4 0,ZN 5 4,oM 6 (.mx false (.t 5) (kI 40)),oM 7 (.sub false 4 (.t 3) none (some (.t 6))),oV 0 7] [0] (.seq (.ops [oV 8 0,ZC 9 10 8,oV 10 0,ZC 11 11 10,Ye 12 9 11,oV 13 12,oG 14 13 (.call 12 []),ZQ 15 13 14,oV 2 15] [2]) (.ret)))
def rs3:List RV:=[.t 2 false]
theorem k3:bj G.tab Tryz.f3 1 c3 rs3=true:=by kernel_rfl
def c4:Cd:=sq [ZB 1 29 0,oM 2 (.mv kF)] [1] (.seq (.draw [ZM 3 4 1,ZC 4 13 3,ZM 5 4 1,ZC 6 14 5,Ye 7 4 6,oV 8 7,oG 9 8 (.call 12 []),ZQ 10 8 9,oV 2 10] [2]) .ret)
def rs4:List RV:=[.t 2 false]
theorem k4:bj G.tab Tryz.f4 1 c4 rs4=true:=by kernel_rfl
def c5:Cd:=sq [ZB 2 29 0,ZB 3 29 1,oM 4 (.mv kF)] [2,3] (.seq (sq [ZM 7 4 2,ZC 8 15 7,ZU 9 8,oV 10 9,oH 11 10 (zM 4 3),oH 12 10 (zC 15 11),oH 13 10 (zU 12),ZP 14 10 13] [2,3,14] (.cond (.t 14) (sq [oM 15 (.call 12 []),oV 4 15] [4] .ret) .skip)) (.seq (.draw [ZM 16 4 2,ZC 17 13 16,ZM 18 4 3,ZC 19 13 18,oV 5 17,oV 6 19] [2,3,5,6]) (sq [oV 20 5,oM 21 (.bin .neq (.t 20) (kS ⟨#[]⟩)),oV 22 21,
 oG 23 22 (.mv (.t 6)),oG 24 22 (.bin .neq (.t 23) (kS ⟨#[]⟩)),ZQ 25 22 24,oV 26 25,oG 27 26 (.mv (.t 5)),oG 28 26 (.mv (.t 6)),oG 29 26 (ye 27 28),oG 30 26 (zM 4 2),oG 31 26 (zM 4 3),oG 32 26 (zD 16 30 31),oG 33 26 (.binb .eql (.t 29) (.t 32)),ZQ 34 26 33,oV 35 34,oG 36 35 (.call 12 []),ZQ 37 35 36,oV 4 37] [4] .ret)))
def rs5:List RV:=[.t 4 false]
theorem k5:bj G.tab Tryz.f5 2 c5 rs5=true:=by kernel_rfl
def c6:Cd:=sq [oM 4 (.mv kF)] [0,1] (sq [oV 5 0,oV 6 1,ZD 7 17 5 6,oV 8 0,oV 9 1,ZD 10 18 8 9,Ye 11 7 10,oV 12 11,oG 13 12 (.call 12 []),ZQ 14 12 13,oV 4 14] [4] .ret)
def rs6:List RV:=[.t 4 false]
theorem k6:bj G.tab Tryz.f6 2 c6 rs6=true:=by kernel_rfl
def c7:Cd:=sq [oM 6 (.mv kF)] [0,1,2] (sq [oM 13 (.mkso 53 12 []),oV 14 0,oM 15 (.app 53 12 216 13 (.t 14)),oV 16 1,oM 17 (.app 53 12 216 15 (.t 16)),oV 7 17] [0,1,2,7] (.seq (sq [oV 18 7,ZC 19 19 18,ZU 20 19,oV 21 20,oH 22 21 (.mv (.t 7)),oH 23 21 (zC 20 22),oH 24 21 (wn 23 0),ZP 25 21 24] [0,1,2,7,25] (.cond (.t 25) (sq [oM 26 (.call 12 []),oV 6 26] [6] .ret) .skip)) (sq [oV 27 2,
 oM 28 (.conv .i64 (.t 27)),oM 29 (.bin .rem (.t 28) (kI 32)),oV 8 29] [0,1,7,8] (sq [oV 30 7,oV 31 8,ZD 32 17 30 31,oV 9 32] [0,1,7,8,9] (.seq (sq [oV 33 9,oV 34 0,oV 35 8,ZD 36 17 34 35,oV 37 1,oV 38 8,ZD 39 17 37 38,Ya 40 36 39,Yn 41 33 40] [7,8,9,41] (.cond (.t 41) (sq [oM 6 (.mv kF)] [6] .ret) .skip)) (.seq (.ops [oM 10 (.mv (kS ⟨#[]⟩)),oM 11 (.mv kT)] [7,8,9,10,11]) (.seq (sq [oI 12 0] [7,8,
 9,10,11,12] (.block 0 (.loop (.seq (sq [oV 42 12,oV 43 9,oM 44 (.len true (.t 43)),Yl 45 42 44] [7,8,9,10,11,12,45] (.cond (.t 45) .skip (.exit 0))) (.seq (.block 1 (.seq (sq [oV 48 11] [7,8,9,10,12,48] (.cond (.t 48) (.ops [oV 49 10,oM 50 (.bin .add (.t 49) (kS ⟨#[32,32,32,32]⟩)),oV 10 50] [7,8,9,10,12]) .skip)) (sq [oV 51 10,oV 52 9,oV 53 12,oV 54 12,Wa 55 54 1,
 oM 56 (.sub true 0 (.t 52) (some (.t 53)) (some (.t 55))),Ya 57 51 56,oV 10 57] [7,8,9,10,12] (.ops [oV 58 9,oV 59 12,oM 60 (.ix (.t 58) (.t 59)),oM 61 (.bin .eql (.t 60) (.k (.d (.lit (.int .u8 10))))),oV 11 61] [7,8,9,10,11,12])))) (.ops [oV 46 12,Wa 47 46 1,oV 12 47] [7,8,9,10,11,12])))))) (sq [oV 62 7,oV 63 8,Wa 64 63 1,ZD 65 17 62 64,oV 66 10,Ye 67 65 66,oV 68 67,oG 69 68 (.call 12 []),
 ZQ 70 68 69,oV 6 70] [6] .ret))))))))
def rs7:List RV:=[.t 6 false]
theorem k7:bj G.tab Tryz.f7 3 c7 rs7=true:=by kernel_rfl
def c8:Cd:=sq [oM 2 (.mv kF)] [0] (sq [oV 3 0,oV 4 0,ZN 5 4,oM 6 (.mx false (.t 5) (kI 6)),oM 7 (.sub false 4 (.t 3) none (some (.t 6))),oV 0 7] [0] (.seq (.ops [oV 8 0,ZC 9 21 8,oV 10 0,ZC 11 22 10,Ye 12 9 11,oV 13 12,oG 14 13 (.call 12 []),ZQ 15 13 14,oV 2 15] [2]) (.ret)))
def rs8:List RV:=[.t 2 false]
theorem k8:bj G.tab Tryz.f8 1 c8 rs8=true:=by kernel_rfl
def c12:Cd:=sq [oM 0 (.mv kF)] [] (sq [oM 5 (.bld zz4 [(0,1,.k (.d (.lit (.int .i64 2)))),(2,1,.k (.d (.lit (.string ⟨#[107,105,110,100]⟩))))]),oM 1 (.new 51 zz4),oS 4 1 5] [1] (sq [ZM 6 4 1,oM 7 (.bld zz4 [(0,1,.k (.d (.lit (.int .i64 1)))),(1,1,.k (.d (.lit (.int .i64 3))))]),oM 8 (.mks 51 4 [.t 6,.t 7]),oM 9 (.bld zz4 [(0,1,.k (.d (.lit (.int .i64 17)))),(3,1,.t 8)]),oM 10 (.bld zz2 [(0,1,
 .k (.d (.lit (.int .i64 1)))),(1,4,.t 9)]),oM 2 (.new 53 zz2),oS 12 2 10] [2] (sq [oM 11 (.bld zz5 [(0,1,.k (.d (.lit (.string ⟨#[107,105,110,100]⟩)))),(1,1,.k (.d (.lit (.int .i64 2)))),(3,1,.k (.d (.lit (.int .i64 1))))]),oM 12 (.mks 55 5 [.t 11]),ZM 13 12 2,oM 14 (.mks 53 12 [.t 13]),oM 15 (.bld zz7 [(0,1,.k (.d (.lit (.string ⟨#[108,101,103,97,108]⟩)))),(1,1,.t 14)]),oM 16 (.mks 57 2 [.t 15]),
 oM 17 (.bld [.d (.lit (.string ⟨#[]⟩)),.d (.lit (.string ⟨#[]⟩)),.nil,.nil] [(0,1,.k (.d (.lit (.string ⟨#[112]⟩)))),(1,1,.k (.d (.lit (.string ⟨#[98,97,115,101]⟩)))),(2,1,.t 12),(3,1,.t 16)]),oM 3 (.new 29 [.d (.lit (.string ⟨#[]⟩)),.d (.lit (.string ⟨#[]⟩)),.nil,.nil]),oS 4 3 17] [3] (sq [oM 18 (.bld zz3 [(2,1,.k (.d (.lit (.int .i64 2)))),(3,1,.k (.d (.lit (.bool true))))]),oM 19 (.bld zz3 [(0,
 1,.k (.d (.lit (.int .i64 1)))),(1,1,.k (.d (.lit (.int .i64 3)))),(2,1,.k (.d (.lit (.int .i64 6))))]),oM 20 (.mks 45 4 [.t 18,.t 19]),oV 4 20] [3,4] (sq [oV 21 4,ZC 22 10 21,oM 23 (.bin .eql (.t 22) (kS ⟨#[48,32,58,61,32,50,44,32,49,32,46,46,32,51,32,58,47,32,54]⟩)),oV 24 23,oG 25 24 (zM 4 3),oG 26 24 (zC 13 25),oG 27 24 (.bin .eql (.t 26) (kS ⟨#[99,108,97,115,115,32,112,32,101,120,116,101,110,
 100,115,32,98,97,115,101,32,123,10,32,32,32,32,114,97,110,100,32,107,105,110,100,32,58,32,50,59,10,32,32,32,32,99,111,110,115,116,114,97,105,110,116,32,108,101,103,97,108,32,123,10,32,32,32,32,32,32,32,32,107,105,110,100,32,60,32,51,59,10,32,32,32,32,125,10,125,10]⟩)),ZQ 28 24 27,oV 0 28] [0] .ret)))))
def ID:List RV:=[.t 0 false]
theorem k12:bj G.tab Tryz.f12 0 c12 ID=true:=by kernel_rfl
end Go.Proofs.YtcbahpllcfbkmaaGreatDoor
