import Derived.Test.YtcbahpllcfbkmaaGreatDoorProg
import Derived.Test.YtcbahpllcfbkmaaGreatDoorA20
import Derived.KernelRfl
import Derived.Test.YtcbahpllcfbkmaaGreatDoorK
import Derived.Test.YtcbahpllcfbkmaaGreatDoorRefs8
namespace Go.Proofs.YtcbahpllcfbkmaaGreatDoor
open Go.RowKit
set_option maxRecDepth 100000
set_option linter.unusedVariables false
set_option linter.unusedSimpArgs false
def c56:Cd:=sq [oI 2 0] [0] (sq [oI 3 0] [0,3] (.seq (sq [oV 6 0,ZN 7 6,oI 8 0] [3,6,7,8] (.block 0 (.loop (.seq (.ops [Yl 9 8 7] [3,6,7,8,9]) (.seq (.cond (.t 9) .skip (.exit 0)) (.seq (.block 1 (sq [ZI 10 12 6 8,ZM 11 12 10,oM 5 (.new 53 zz2),oS 12 5 11] [3,5,6,7,8] (.draw [oV 12 3,ZF 13 8 5,ZL 14 1 13,ZC 15 56 14,oM 16 (.bin .add (kI 1) (.t 15)),ZF 17 9 5,ZL 18 1 17,ZC 19 56 18,Ya 20 16 19,
 Ya 21 12 20,oV 3 21] [3,6,7,8]))) (.ops [Wa 22 8 1,oV 8 22] [3,6,7,8]))))))) (sq [oV 23 3,oV 2 23] [2] .ret)))
def Hf:List RV:=[.t 2 false]
theorem k56:bj G.tab Tryz.f56 1 c56 Hf=true:=by kernel_rfl
def c38:Cd:=sq [oI 2 0] [0] (.seq (sq [oV 3 0,ZC 4 56 3,Wg 5 4 64] [0,5] (.cond (.t 5) (sq [oI 2 2] [2] .ret) (.skip))) (sq [oV 6 0,oM 7 (.bld zz6 []),oM 8 (.call 57 [.t 6,.t 7,.k (.fn 58 [])]),oV 2 8] [2] .ret))
def Hz:List RV:=[.t 2 false]
theorem k38:bj G.tab Tryz.f38 1 c38 Hz=true:=by kernel_rfl
def c57:Cd:=sq [ZB 4 91 1,oI 6 0] [0,2,4] (.seq (sq [oV 14 0,ZN 15 14,oI 16 0] [2,4,14,15,16] (.block 0 (.loop (.seq (.ops [Yl 17 16 15] [2,4,14,15,16,17]) (.seq (.cond (.t 17) .skip (.exit 0)) (.seq (.block 1 (sq [ZI 18 12 14 16,ZM 19 12 18,oM 8 (.new 53 zz2),oS 12 8 19] [2,4,8,14,15,16] (.seq (sq [oV 20 2,ZM 21 12 8,ZM 22 2 4,oM 23 (.callv (.t 20) [.t 21,.t 22]),oV 9 23] [2,4,8,9,14,15,
 16] (sq [oV 24 9,Wn 25 24 0] [2,4,8,9,14,15,16,25] (.cond (.t 25) (sq [oV 26 9,oV 6 26] [6] .ret) .skip))) (sq [ZF 27 0 4,ZL 28 1 27,ZF 29 1 4,ZL 30 1 29,oM 31 (.bld zz6 [(0,1,.t 28),(1,1,.t 30)]),oM 10 (.new 91 zz6),oS 2 10 31] [2,4,8,10,14,15,16] (.seq (sq [ZF 32 0 8,ZL 33 1 32,We 34 33 4,oV 35 34,oH 36 35 (zF 0 8),oH 37 35 (zL 1 36),oH 38 35 (we 37 5),ZP 39 35 38] [2,4,8,10,14,15,16,
 39] (.cond (.t 39) (.ops [ZF 40 0 10,ZL 41 1 40,Wa 42 41 1,ZF 43 0 10,oS 1 43 42] [2,4,8,10,14,15,16]) .skip)) (sq [ZM 44 2 10,oM 11 (.new 91 zz6),oS 2 11 44] [2,4,8,10,11,14,15,16] (.seq (sq [ZF 45 0 8,ZL 46 1 45,We 47 46 5] [2,4,8,10,11,14,15,16,47] (.cond (.t 47) (.drawg [(ZF 48 1 4,.free 0),(ZL 49 1 48,.calm 0 0),(ZC 50 83 49,.act),(ZF 51 6 8,.free 0),(ZL 52 1 51,.calm 0 1),
 (oM 53 (.mks 9 1 [.t 52]),.free 0),(oM 54 (.app 9 1 16 50 (.t 53)),.slot 1),(ZF 55 1 10,.free 1),(⟨none,.stoo (.t 55) 54,none⟩,.act)] [2,4,8,10,11,14,15,16]) .skip)) (.seq (sq [ZF 56 8 8,ZL 57 1 56,ZM 58 2 10,oV 59 2,ZE 60 57 57 58 59,oV 12 60] [2,4,8,11,12,14,15,16] (sq [oV 61 12,Wn 62 61 0] [2,4,8,11,12,14,15,16,62] (.cond (.t 62) (sq [oV 63 12,oV 6 63] [6] .ret) .skip))) (sq [ZF 64 9 8,
 ZL 65 1 64,ZM 66 2 11,oV 67 2,ZE 68 57 65 66 67,oV 13 68] [2,4,13,14,15,16] (sq [oV 69 13,Wn 70 69 0] [2,4,13,14,15,16,70] (.cond (.t 70) (sq [oV 71 13,oV 6 71] [6] .ret) .skip))))))))))) (.ops [Wa 72 16 1,oV 16 72] [2,4,14,15,16]))))))) (sq [oI 6 0] [6] .ret))
def HJ:List RV:=[.t 6 false]
theorem k57:bj G.tab Tryz.f57 3 c57 HJ=true:=by kernel_rfl
def c84:Cd:=sq [oM 0 (.mv (.k (.d (.lit (.map none)))))] [] (sq [oM 1 (.mmk false),oM 2 (.bld zz1 [(0,1,.k (.d (.lit (.bool true))))]),⟨none,.mst false (.t 1) (kI 1) (.t 2),none⟩,oM 3 (.bld zz1 [(0,1,.k (.d (.lit (.bool true))))]),⟨none,.mst false (.t 1) (kI 2) (.t 3),none⟩,oM 4 (.bld zz1 [(1,1,.k (.d (.lit (.bool true)))),(3,1,.k (.d (.lit (.bool true))))]),⟨none,.mst false (.t 1) (kI 3) (.t 4),
 none⟩,oM 5 (.bld zz1 [(0,1,.k (.d (.lit (.bool true)))),(4,1,.k (.d (.lit (.bool true)))),(5,1,.k (.d (.lit (.bool true))))]),⟨none,.mst false (.t 1) (kI 4) (.t 5),none⟩,oM 6 (.bld zz1 [(1,1,.k (.d (.lit (.bool true)))),(2,1,.k (.d (.lit (.bool true)))),(4,1,.k (.d (.lit (.bool true))))]),⟨none,.mst false (.t 1) (kI 5) (.t 6),none⟩,oM 7 (.bld zz1 [(6,1,.k (.d (.lit (.bool true))))]),⟨none,
 .mst false (.t 1) (kI 6) (.t 7),none⟩,oV 8 1,oV 0 8] [0] .ret)
def Ij:List RV:=[.t 0 false]
theorem k84:bj G.tab Tryz.f84 0 c84 Ij=true:=by kernel_rfl
def c85:Cd:=sq [ZB 2 53 0,ZB 3 112 1,oM 4 (.mv kF)] [2,3] (sq [ZF 5 0 3,ZL 6 1 5,oV 7 6,oH 8 7 (zF 1 2),oH 9 7 (zM 4 8),oH 10 7 (zC 114 9),ZP 11 7 10,oV 12 11,oG 13 12 (zF 1 3),oG 14 12 (zL 1 13),oG 15 12 (.mv (.t 14)),oH 16 15 (zF 5 2),oH 17 15 (zL 1 16),oH 18 15 (.bin .eql (.t 17) (kS ⟨#[]⟩)),oG 19 12 (zP 15 18),ZQ 20 12 19,oV 21 20,oG 22 21 (zF 2 3),oG 23 21 (zL 1 22),oG 24 21 (.mv (.t 23)),
 oH 25 24 (zF 6 2),oH 26 24 (zL 1 25),oH 27 24 (.bin .eql (.t 26) (kS ⟨#[]⟩)),oG 28 21 (zP 24 27),ZQ 29 21 28,oV 30 29,oG 31 30 (zF 3 3),oG 32 30 (zL 1 31),oG 33 30 (.mv (.t 32)),oH 34 33 (zF 7 2),oH 35 33 (zL 1 34),oH 36 33 (zN 35),oH 37 33 (we 36 0),oG 38 30 (zP 33 37),ZQ 39 30 38,oV 40 39,oG 41 40 (zF 4 3),oG 42 40 (zL 1 41),oG 43 40 (.mv (.t 42)),oH 44 43 (zF 8 2),oH 45 43 (zL 1 44),
 oH 46 43 (zN 45),oH 47 43 (we 46 0),oG 48 40 (zP 43 47),ZQ 49 40 48,oV 50 49,oG 51 50 (zF 5 3),oG 52 50 (zL 1 51),oG 53 50 (.mv (.t 52)),oH 54 53 (zF 9 2),oH 55 53 (zL 1 54),oH 56 53 (zN 55),oH 57 53 (we 56 0),oG 58 50 (zP 53 57),ZQ 59 50 58,oV 60 59,oG 61 60 (zF 6 3),oG 62 60 (zL 1 61),oG 63 60 (.mv (.t 62)),oH 64 63 (zF 10 2),oH 65 63 (zL 1 64),oH 66 63 (zN 65),oH 67 63 (zF 11 2),
 oH 68 63 (zL 1 67),oH 69 63 (zN 68),oH 70 63 (ya 66 69),oH 71 63 (we 70 0),oG 72 60 (zP 63 71),ZQ 73 60 72,oV 4 73] [4] .ret)
def Hr:List RV:=[.t 4 false]
theorem k85:bj G.tab Tryz.f85 2 c85 Hr=true:=by kernel_rfl
def c86:Cd:=sq [oI 2 0] [0] (.seq (.block 0 (sq [oV 6 0,ZN 7 6,Wg 8 7 16,oV 5 8] [0,5] (.cond (.t 5) (sq [oI 2 2] [2] (.ret)) (sq [oV 10 0,ZN 11 10,We 12 11 0,oV 9 12] [0,9] (.cond (.t 9) (sq [oI 2 1] [2] .ret) .skip))))) (.seq (sq [oV 13 0,ZN 14 13,oI 15 0] [13,14,15] (.block 1 (.loop (sq [Yl 16 15 14] [13,14,15,16] (.seq (.cond (.t 16) .skip (.exit 1)) (.seq (.block 2 (sq [ZI 17 4 13 15,
 ZM 18 4 17,oM 4 (.new 45 zz3),oS 4 4 18] [4,13,14,15] (sq [ZF 19 0 4,ZL 20 1 19,Wl 21 20 0,oV 22 21,oH 23 22 (zF 0 4),oH 24 22 (zL 1 23),oH 25 22 (zF 1 4),oH 26 22 (zL 1 25),oH 27 22 (yg 24 26),ZP 28 22 27,oV 29 28,oH 30 29 (zF 1 4),oH 31 29 (zL 1 30),oH 32 29 (wg 31 65535),ZP 33 29 32,oV 34 33,oH 35 34 (zF 2 4),oH 36 34 (zL 1 35),oH 37 34 (wl 36 0),ZP 38 34 37,oV 39 38,oH 40 39 (zF 2 4),
 oH 41 39 (zL 1 40),oH 42 39 (wg 41 1000),ZP 43 39 42] [13,14,15,43] (.cond (.t 43) (sq [oI 2 1] [2] .ret) .skip)))) (.ops [Wa 44 15 1,oV 15 44] [13,14,15]))))))) (.seq (.ops [oI 2 0] [2]) .ret)))
def Iu:List RV:=[.t 2 false]
theorem k86:bj G.tab Tryz.f86 1 c86 Iu=true:=by kernel_rfl
def c87:Cd:=sq [oM 2 (.mv kF)] [0] (sq [oV 3 0,oM 4 (.bld zz4 [(0,1,.k (.d (.lit (.int .i64 2)))),(2,1,.t 3)]),ZC 5 89 4,We 6 5 0,oV 2 6] [2] .ret)
def IL:List RV:=[.t 2 false]
theorem k87:bj G.tab Tryz.f87 1 c87 IL=true:=by kernel_rfl
def c58:Cd:=sq [ZB 2 53 0,ZB 3 91 1,oI 4 0] [2,3] (.seq (.raw [oM 11 (.call 84 []),ZF 12 0 2,ZL 13 1 12,oM 14 (.mlk false true (.agg zz1) (.t 11) (.t 13)),oV 10 14,ZX 15 10 0,ZX 16 10 1,oM 5 (.new 112 zz1),oS 7 5 15,oV 6 16] [[],[],[1],[0,2],[3],[4],[4],[],[7,5,0,0,1,2,3,4,5,7],[6,8,0,1,2,3,4,5,6,7,8]] [2,3,5,6]) (.seq (sq [oV 17 6,ZU 18 17,oV 19 18,oH 20 19 (zM 12 2),oH 21 19 (zM 7 5),
 oH 22 19 (zD 85 20 21),oH 23 19 (zU 22),ZP 24 19 23,oV 25 24,oH 26 25 (zF 0 3),oH 27 25 (zL 1 26),oH 28 25 (wg 27 4),ZP 29 25 28,oV 30 29,oH 31 30 (zF 0 3),oH 32 30 (zL 1 31),oH 33 30 (wg 32 0),oH 34 30 (.mv (.t 33)),oG 35 34 (zF 0 2),oG 36 34 (zL 1 35),oG 37 34 (we 36 3),oG 38 34 (.mv (.t 37)),oH 39 38 (zF 0 2),oH 40 38 (zL 1 39),oH 41 38 (we 40 6),oG 42 34 (zP 38 41),oH 43 30 (zQ 34 42),
 ZP 44 30 43] [2,44] (.cond (.t 44) (sq [oI 4 1] [4] .ret) .skip)) (.seq (sq [ZF 45 0 2,ZL 46 1 45] [2,46] (.block 0 (sq [We 51 46 3,oV 50 51] [2,46,50] (.cond (.t 50) (.seq (sq [ZF 52 7 2,ZL 53 1 52,ZC 54 86 53,oV 7 54] [2,7] (sq [oV 55 7,Wn 56 55 0] [2,7,56] (.cond (.t 56) (sq [oV 57 7,oV 4 57] [4] .ret) .skip))) (sq [ZF 58 5 2,ZL 59 1 58,ZC 60 87 59,
 ZU 61 60] [61] (.cond (.t 61) (sq [oI 4 7] [4] .ret) .skip))) (sq [We 63 46 6,oV 62 63] [2,46,62] (.cond (.t 62) (.seq (sq [ZF 64 10 2,ZL 65 1 64,ZN 66 65,We 67 66 0,oV 68 67,oH 69 68 (zF 11 2),oH 70 68 (zL 1 69),oH 71 68 (zN 70),oH 72 68 (we 71 0),ZP 73 68 72] [2,73] (.cond (.t 73) (sq [oI 4 1] [4] .ret) .skip)) (sq [ZF 74 10 2,ZL 75 1 74,ZF 76 11 2,ZL 77 1 76,oM 78 (.mks 43 1 [.t 75,.t 77]),
 ZC 79 88 78,ZN 80 79,oI 81 0] [79,80,81] (.block 1 (.loop (sq [Yl 82 81 80] [79,80,81,82] (.seq (.cond (.t 82) .skip (.exit 1)) (.seq (.block 2 (sq [ZI 83 1 79 81,ZL 84 1 83,oV 9 84] [9,79,80,81] (sq [oV 85 9,ZC 86 87 85,ZU 87 86] [79,80,81,87] (.cond (.t 87) (sq [oI 4 7] [4] .ret) .skip)))) (.ops [Wa 88 81 1,oV 81 88] [79,80,81])))))))) (sq [We 90 46 5,oV 89 90] [2,
 89] (.cond (.t 89) (sq [ZF 91 5 2,ZL 92 1 91,ZC 93 65 92,ZU 94 93,oV 95 94,oH 96 95 (zF 6 2),oH 97 95 (zL 1 96),oH 98 95 (zC 65 97),oH 99 95 (zU 98),ZP 100 95 99] [100] (.cond (.t 100) (sq [oI 4 7] [4] .ret) (.skip))) (sq [ZF 47 1 2,ZM 48 4 47,ZC 49 89 48,oV 4 49] [4] .ret))))))))) (sq [oI 4 0] [4] .ret))))
def HP:List RV:=[.t 4 false]
theorem k58:bj G.tab Tryz.f58 2 c58 HP=true:=by kernel_rfl
def Gm:Cd:=sq [ZB 1 51 0,oM 2 (.mv kF)] [1] (sq [ZF 3 0 1,ZL 4 1 3,We 5 4 0,oV 6 5,oG 7 6 (zF 1 1),oG 8 6 (zL 1 7),oG 9 6 (we 8 0),ZQ 10 6 9,oV 11 10,oG 12 11 (zF 2 1),oG 13 11 (zL 1 12),oG 14 11 (.bin .eql (.t 13) (kS ⟨#[]⟩)),ZQ 15 11 14,oV 16 15,oG 17 16 (zF 3 1),oG 18 16 (zL 1 17),oG 19 16 (zN 18),oG 20 16 (we 19 0),ZQ 21 16 20,oV 2 21] [2] .ret)
def Ft:List RV:=[.t 2 false]
theorem Im:bj G.tab Tryz.f114 1 Gm Ft=true:=by kernel_rfl
end Go.Proofs.YtcbahpllcfbkmaaGreatDoor
namespace Go.Proofs.YtcbahpllcfbkmaaGreatDoor
open Go.RowKit
end Go.Proofs.YtcbahpllcfbkmaaGreatDoor
