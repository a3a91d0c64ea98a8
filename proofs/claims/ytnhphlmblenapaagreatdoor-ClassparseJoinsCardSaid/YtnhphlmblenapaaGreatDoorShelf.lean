import Derived.Lib.AppendStr
import Derived.Shelf.SlicesE.Clone
import Derived.Shelf.SlicesG.Clone
import Derived.Shelf.Strings.OnBuilder
import Derived.Shelf.LaysM
import Derived.Shelf.Strconv.Itoa3
import Derived.Shelf.LaysC
import Derived.Shelf.Strconv.ParseIntPublic10
import Derived.Shelf.Strings.Count
import Derived.Shelf.Small.Strs
import Derived.Shelf.Small.Utf8
import Derived.Shelf.Strings.Prefix
import Derived.Shelf.Strings.Runes
import Derived.Shelf.Strings.Repeat
import Derived.Test.YtnhphlmblenapaaGreatDoorK
import Derived.Test.YtnhphlmblenapaaGreatDoorChecked
set_option linter.unusedVariables false
set_option linter.unusedSimpArgs false
set_option linter.unusedSectionVars false
set_option maxRecDepth 100000
namespace Go.Proofs.YtnhphlmblenapaaGreatDoor
open Go.RowKit
def c66:Cd:=sq [oI 2 0] [0] (sq [oI 3 0] [0,3] (.seq (sq [oV 6 0,ZN 7 6,oI 8 0] [3,6,7,8] (.block 0 (.loop (.seq (.ops [Yl 9 8 7] [3,6,7,8,9]) (.seq (.cond (.t 9) .skip (.exit 0)) (.seq (.block 1 (sq [ZI 10 12 6 8,ZM 11 12 10,oM 5 (.new 54 zz1),oS 12 5 11] [3,5,6,7,8] (.draw [oV 12 3,ZF 13 8 5,ZL 14 1 13,ZC 15 66 14,oM 16 (.bin .add (kI 1) (.t 15)),ZF 17 9 5,ZL 18 1 17,ZC 19 66 18,Ya 20 16 19,
 Ya 21 12 20,oV 3 21] [3,6,7,8]))) (.ops [Wa 22 8 1,oV 8 22] [3,6,7,8]))))))) (sq [oV 23 3,oV 2 23] [2] .ret)))
def NP:List RV:=[.t 2 false]
theorem k66:aP G.tab Tryz.f66 1 c66 NP=true:=by kernel_rfl
def c27:Cd:=sq [oI 2 0] [0] (.seq (sq [oV 3 0,ZC 4 66 3,Wg 5 4 64] [0,5] (.cond (.t 5) (sq [oI 2 2] [2] .ret) (.skip))) (sq [oV 6 0,oM 7 (.bld Fg []),oM 8 (.call 67 [.t 6,.t 7,.k (.fn 68 [])]),oV 2 8] [2] .ret))
def NZ:List RV:=[.t 2 false]
theorem k27:aP G.tab Tryz.f27 1 c27 NZ=true:=by kernel_rfl
def c67:Cd:=sq [ZB 4 107 1,oI 6 0] [0,2,4] (.seq (sq [oV 14 0,ZN 15 14,oI 16 0] [2,4,14,15,16] (.block 0 (.loop (.seq (.ops [Yl 17 16 15] [2,4,14,15,16,17]) (.seq (.cond (.t 17) .skip (.exit 0)) (.seq (.block 1 (sq [ZI 18 12 14 16,ZM 19 12 18,oM 8 (.new 54 zz1),oS 12 8 19] [2,4,8,14,15,16] (.seq (sq [oV 20 2,ZM 21 12 8,ZM 22 2 4,oM 23 (.callv (.t 20) [.t 21,.t 22]),oV 9 23] [2,4,8,9,14,15,
 16] (sq [oV 24 9,Wn 25 24 0] [2,4,8,9,14,15,16,25] (.cond (.t 25) (sq [oV 26 9,oV 6 26] [6] .ret) .skip))) (sq [ZF 27 0 4,ZL 28 1 27,ZF 29 1 4,ZL 30 1 29,oM 31 (.bld Fg [(0,1,.t 28),(1,1,.t 30)]),oM 10 (.new 107 Fg),oS 2 10 31] [2,4,8,10,14,15,16] (.seq (sq [ZF 32 0 8,ZL 33 1 32,We 34 33 4,oV 35 34,oH 36 35 (zF 0 8),oH 37 35 (zL 1 36),oH 38 35 (we 37 5),ZP 39 35 38] [2,4,8,10,14,15,16,
 39] (.cond (.t 39) (.ops [ZF 40 0 10,ZL 41 1 40,Wa 42 41 1,ZF 43 0 10,oS 1 43 42] [2,4,8,10,14,15,16]) .skip)) (sq [ZM 44 2 10,oM 11 (.new 107 Fg),oS 2 11 44] [2,4,8,10,11,14,15,16] (.seq (sq [ZF 45 0 8,ZL 46 1 45,We 47 46 5] [2,4,8,10,11,14,15,16,47] (.cond (.t 47) (.drawg [(ZF 48 1 4,.free 0),(ZL 49 1 48,.calm 0 0),(ZC 50 123 49,.act),(ZF 51 6 8,.free 0),(ZL 52 1 51,.calm 0 1),
 (oM 53 (.mks 9 1 [.t 52]),.free 0),(oM 54 (.app 9 1 16 50 (.t 53)),.slot 1),(ZF 55 1 10,.free 1),(⟨none,.stoo (.t 55) 54,none⟩,.act)] [2,4,8,10,11,14,15,16]) .skip)) (.seq (sq [ZF 56 8 8,ZL 57 1 56,ZM 58 2 10,oV 59 2,ZE 60 67 57 58 59,oV 12 60] [2,4,8,11,12,14,15,16] (sq [oV 61 12,Wn 62 61 0] [2,4,8,11,12,14,15,16,62] (.cond (.t 62) (sq [oV 63 12,oV 6 63] [6] .ret) .skip))) (sq [ZF 64 9 8,
 ZL 65 1 64,ZM 66 2 11,oV 67 2,ZE 68 67 65 66 67,oV 13 68] [2,4,13,14,15,16] (sq [oV 69 13,Wn 70 69 0] [2,4,13,14,15,16,70] (.cond (.t 70) (sq [oV 71 13,oV 6 71] [6] .ret) .skip))))))))))) (.ops [Wa 72 16 1,oV 16 72] [2,4,14,15,16]))))))) (sq [oI 6 0] [6] .ret))
def OB:List RV:=[.t 6 false]
theorem k67:aP G.tab Tryz.f67 3 c67 OB=true:=by kernel_rfl
def Jo:Cd:=sq [oM 0 (.mv (.k (.d (.lit (.map none)))))] [] (sq [oM 1 (.mmk false),oM 2 (.bld zz4 [(0,1,.k (.d (.lit (.bool true))))]),⟨none,.mst false (.t 1) (kI 1) (.t 2),none⟩,oM 3 (.bld zz4 [(0,1,.k (.d (.lit (.bool true))))]),⟨none,.mst false (.t 1) (kI 2) (.t 3),none⟩,oM 4 (.bld zz4 [(1,1,.k (.d (.lit (.bool true)))),(3,1,.k (.d (.lit (.bool true))))]),⟨none,.mst false (.t 1) (kI 3) (.t 4),
 none⟩,oM 5 (.bld zz4 [(0,1,.k (.d (.lit (.bool true)))),(4,1,.k (.d (.lit (.bool true)))),(5,1,.k (.d (.lit (.bool true))))]),⟨none,.mst false (.t 1) (kI 4) (.t 5),none⟩,oM 6 (.bld zz4 [(1,1,.k (.d (.lit (.bool true)))),(2,1,.k (.d (.lit (.bool true)))),(4,1,.k (.d (.lit (.bool true))))]),⟨none,.mst false (.t 1) (kI 5) (.t 6),none⟩,oM 7 (.bld zz4 [(6,1,.k (.d (.lit (.bool true))))]),⟨none,
 .mst false (.t 1) (kI 6) (.t 7),none⟩,oV 8 1,oV 0 8] [0] .ret)
def Mq:List RV:=[.t 0 false]
theorem Nj:aP G.tab Tryz.f124 0 Jo Mq=true:=by kernel_rfl
def Ki:Cd:=sq [ZB 2 54 0,ZB 3 157 1,oM 4 (.mv kF)] [2,3] (sq [ZF 5 0 3,ZL 6 1 5,oV 7 6,oH 8 7 (zF 1 2),oH 9 7 (zM 4 8),oH 10 7 (zC 178 9),ZP 11 7 10,oV 12 11,oG 13 12 (zF 1 3),oG 14 12 (zL 1 13),oG 15 12 (.mv (.t 14)),oH 16 15 (zF 5 2),oH 17 15 (zL 1 16),oH 18 15 (.bin .eql (.t 17) (kS ⟨#[]⟩)),oG 19 12 (zP 15 18),ZQ 20 12 19,oV 21 20,oG 22 21 (zF 2 3),oG 23 21 (zL 1 22),oG 24 21 (.mv (.t 23)),
 oH 25 24 (zF 6 2),oH 26 24 (zL 1 25),oH 27 24 (.bin .eql (.t 26) (kS ⟨#[]⟩)),oG 28 21 (zP 24 27),ZQ 29 21 28,oV 30 29,oG 31 30 (zF 3 3),oG 32 30 (zL 1 31),oG 33 30 (.mv (.t 32)),oH 34 33 (zF 7 2),oH 35 33 (zL 1 34),oH 36 33 (zN 35),oH 37 33 (we 36 0),oG 38 30 (zP 33 37),ZQ 39 30 38,oV 40 39,oG 41 40 (zF 4 3),oG 42 40 (zL 1 41),oG 43 40 (.mv (.t 42)),oH 44 43 (zF 8 2),oH 45 43 (zL 1 44),
 oH 46 43 (zN 45),oH 47 43 (we 46 0),oG 48 40 (zP 43 47),ZQ 49 40 48,oV 50 49,oG 51 50 (zF 5 3),oG 52 50 (zL 1 51),oG 53 50 (.mv (.t 52)),oH 54 53 (zF 9 2),oH 55 53 (zL 1 54),oH 56 53 (zN 55),oH 57 53 (we 56 0),oG 58 50 (zP 53 57),ZQ 59 50 58,oV 60 59,oG 61 60 (zF 6 3),oG 62 60 (zL 1 61),oG 63 60 (.mv (.t 62)),oH 64 63 (zF 10 2),oH 65 63 (zL 1 64),oH 66 63 (zN 65),oH 67 63 (zF 11 2),
 oH 68 63 (zL 1 67),oH 69 63 (zN 68),oH 70 63 (ya 66 69),oH 71 63 (we 70 0),oG 72 60 (zP 63 71),ZQ 73 60 72,oV 4 73] [4] .ret)
def JQ:List RV:=[.t 4 false]
theorem MZ:aP G.tab Tryz.f125 2 Ki JQ=true:=by kernel_rfl
def Lw:Cd:=sq [oI 2 0] [0] (.seq (.block 0 (sq [oV 6 0,ZN 7 6,Wg 8 7 16,oV 5 8] [0,5] (.cond (.t 5) (sq [oI 2 2] [2] (.ret)) (sq [oV 10 0,ZN 11 10,We 12 11 0,oV 9 12] [0,9] (.cond (.t 9) (sq [oI 2 1] [2] .ret) .skip))))) (.seq (sq [oV 13 0,ZN 14 13,oI 15 0] [13,14,15] (.block 1 (.loop (sq [Yl 16 15 14] [13,14,15,16] (.seq (.cond (.t 16) .skip (.exit 1)) (.seq (.block 2 (sq [ZI 17 4 13 15,
 ZM 18 4 17,oM 4 (.new 56 zz8),oS 4 4 18] [4,13,14,15] (sq [ZF 19 0 4,ZL 20 1 19,Wl 21 20 0,oV 22 21,oH 23 22 (zF 0 4),oH 24 22 (zL 1 23),oH 25 22 (zF 1 4),oH 26 22 (zL 1 25),oH 27 22 (yg 24 26),ZP 28 22 27,oV 29 28,oH 30 29 (zF 1 4),oH 31 29 (zL 1 30),oH 32 29 (wg 31 65535),ZP 33 29 32,oV 34 33,oH 35 34 (zF 2 4),oH 36 34 (zL 1 35),oH 37 34 (wl 36 0),ZP 38 34 37,oV 39 38,oH 40 39 (zF 2 4),
 oH 41 39 (zL 1 40),oH 42 39 (wg 41 1000),ZP 43 39 42] [13,14,15,43] (.cond (.t 43) (sq [oI 2 1] [2] .ret) .skip)))) (.ops [Wa 44 15 1,oV 15 44] [13,14,15]))))))) (.seq (.ops [oI 2 0] [2]) .ret)))
def Lc:List RV:=[.t 2 false]
theorem Or:aP G.tab Tryz.f126 1 Lw Lc=true:=by kernel_rfl
def c127:Cd:=sq [oM 2 (.mv kF)] [0] (sq [oV 3 0,oM 4 (.bld zz0 [(0,1,.k (.d (.lit (.int .i64 2)))),(2,1,.t 3)]),ZC 5 129 4,We 6 5 0,oV 2 6] [2] .ret)
def JV:List RV:=[.t 2 false]
theorem OU:aP G.tab Tryz.f127 1 c127 JV=true:=by kernel_rfl
def c68:Cd:=sq [ZB 2 54 0,ZB 3 107 1,oI 4 0] [2,3] (.seq (.raw [oM 11 (.call 124 []),ZF 12 0 2,ZL 13 1 12,oM 14 (.mlk false true (.agg zz4) (.t 11) (.t 13)),oV 10 14,ZX 15 10 0,ZX 16 10 1,oM 5 (.new 157 zz4),oS 7 5 15,oV 6 16] [[],[],[1],[0,2],[3],[4],[4],[],[7,5,0,0,1,2,3,4,5,7],[6,8,0,1,2,3,4,5,6,7,8]] [2,3,5,6]) (.seq (sq [oV 17 6,ZU 18 17,oV 19 18,oH 20 19 (zM 12 2),oH 21 19 (zM 7 5),
 oH 22 19 (zD 125 20 21),oH 23 19 (zU 22),ZP 24 19 23,oV 25 24,oH 26 25 (zF 0 3),oH 27 25 (zL 1 26),oH 28 25 (wg 27 4),ZP 29 25 28,oV 30 29,oH 31 30 (zF 0 3),oH 32 30 (zL 1 31),oH 33 30 (wg 32 0),oH 34 30 (.mv (.t 33)),oG 35 34 (zF 0 2),oG 36 34 (zL 1 35),oG 37 34 (we 36 3),oG 38 34 (.mv (.t 37)),oH 39 38 (zF 0 2),oH 40 38 (zL 1 39),oH 41 38 (we 40 6),oG 42 34 (zP 38 41),oH 43 30 (zQ 34 42),
 ZP 44 30 43] [2,44] (.cond (.t 44) (sq [oI 4 1] [4] .ret) .skip)) (.seq (sq [ZF 45 0 2,ZL 46 1 45] [2,46] (.block 0 (sq [We 51 46 3,oV 50 51] [2,46,50] (.cond (.t 50) (.seq (sq [ZF 52 7 2,ZL 53 1 52,ZC 54 126 53,oV 7 54] [2,7] (sq [oV 55 7,Wn 56 55 0] [2,7,56] (.cond (.t 56) (sq [oV 57 7,oV 4 57] [4] .ret) .skip))) (sq [ZF 58 5 2,ZL 59 1 58,ZC 60 127 59,
 ZU 61 60] [61] (.cond (.t 61) (sq [oI 4 7] [4] .ret) .skip))) (sq [We 63 46 6,oV 62 63] [2,46,62] (.cond (.t 62) (.seq (sq [ZF 64 10 2,ZL 65 1 64,ZN 66 65,We 67 66 0,oV 68 67,oH 69 68 (zF 11 2),oH 70 68 (zL 1 69),oH 71 68 (zN 70),oH 72 68 (we 71 0),ZP 73 68 72] [2,73] (.cond (.t 73) (sq [oI 4 1] [4] .ret) .skip)) (sq [ZF 74 10 2,ZL 75 1 74,ZF 76 11 2,ZL 77 1 76,oM 78 (.mks 52 1 [.t 75,.t 77]),
 ZC 79 128 78,ZN 80 79,oI 81 0] [79,80,81] (.block 1 (.loop (sq [Yl 82 81 80] [79,80,81,82] (.seq (.cond (.t 82) .skip (.exit 1)) (.seq (.block 2 (sq [ZI 83 1 79 81,ZL 84 1 83,oV 9 84] [9,79,80,81] (sq [oV 85 9,ZC 86 127 85,ZU 87 86] [79,80,81,87] (.cond (.t 87) (sq [oI 4 7] [4] .ret) .skip)))) (.ops [Wa 88 81 1,oV 81 88] [79,80,81])))))))) (sq [We 90 46 5,oV 89 90] [2,
 89] (.cond (.t 89) (sq [ZF 91 5 2,ZL 92 1 91,ZC 93 96 92,ZU 94 93,oV 95 94,oH 96 95 (zF 6 2),oH 97 95 (zL 1 96),oH 98 95 (zC 96 97),oH 99 95 (zU 98),ZP 100 95 99] [100] (.cond (.t 100) (sq [oI 4 7] [4] .ret) (.skip))) (sq [ZF 47 1 2,ZM 48 4 47,ZC 49 129 48,oV 4 49] [4] .ret))))))))) (sq [oI 4 0] [4] .ret))))
def NG:List RV:=[.t 4 false]
theorem k68:aP G.tab Tryz.f68 2 c68 NG=true:=by kernel_rfl
def JU:Cd:=sq [ZB 1 50 0,oM 2 (.mv kF)] [1] (sq [ZF 3 0 1,ZL 4 1 3,We 5 4 0,oV 6 5,oG 7 6 (zF 1 1),oG 8 6 (zL 1 7),oG 9 6 (we 8 0),ZQ 10 6 9,oV 11 10,oG 12 11 (zF 2 1),oG 13 11 (zL 1 12),oG 14 11 (.bin .eql (.t 13) (kS ⟨#[]⟩)),ZQ 15 11 14,oV 16 15,oG 17 16 (zF 3 1),oG 18 16 (zL 1 17),oG 19 16 (zN 18),oG 20 16 (we 19 0),ZQ 21 16 20,oV 2 21] [2] .ret)
def J6:List RV:=[.t 2 false]
theorem NA:aP G.tab Tryz.f178 1 JU J6=true:=by kernel_rfl
end Go.Proofs.YtnhphlmblenapaaGreatDoor
namespace Go.Proofs.YtnhphlmblenapaaGreatDoor
open Go.RowKit
section
variable {P : Program}
end
end Go.Proofs.YtnhphlmblenapaaGreatDoor
namespace Go.Proofs.YtnhphlmblenapaaGreatDoor
open Go.Shelf
def Tryz.lays156_ren:Go.Shelf.Ren:=⟨fun|156=>244|165=>157|166=>109|169=>56|240=>154|241=>209|276=>205|277=>238|n=>n,fun|31=>52|9=>9|3=>3|4=>4|0=>0|20=>20|72=>89|76=>141|70=>86|37=>87|75=>140|127=>145|164=>202|5=>5|80=>96|n=>n,fun|n=>n⟩
theorem Tryz.lays156:Go.Proofs.Lays.n156 Tryz.prog Tryz.lays156_ren:={
 mixed:=by kernel_rfl
 f156:=Tryz.func244.trans (congrArg some (by kernel_rfl))
 f165:=Tryz.func157.trans (congrArg some (by kernel_rfl))
 f166:=Tryz.func109.trans (congrArg some (by kernel_rfl))
 f169:=Tryz.func56.trans (congrArg some (by kernel_rfl))
 f240:=Tryz.func154.trans (congrArg some (by kernel_rfl))
 f241:=Tryz.func209.trans (congrArg some (by kernel_rfl))
 f276:=Tryz.func205.trans (congrArg some (by kernel_rfl))
 f277:=Tryz.func238.trans (congrArg some (by kernel_rfl))
 t0:=Tryz.underlying0
 a0:=Tryz.isAgg0
 z0:=Tryz.sizeOf0
 v0:=Tryz.zeroValue0
 t3:=Tryz.underlying3
 a3:=Tryz.isAgg3
 z3:=Tryz.sizeOf3
 v3:=Tryz.zeroValue3
 t4:=Tryz.underlying4
 a4:=Tryz.isAgg4
 z4:=Tryz.sizeOf4
 v4:=Tryz.zeroValue4
 t9:=Tryz.underlying9
 a9:=Tryz.isAgg9
 z9:=Tryz.sizeOf9
 v9:=Tryz.zeroValue9
 t20:=Tryz.underlying20
 a20:=Tryz.isAgg20
 z20:=Tryz.sizeOf20
 v20:=Tryz.zeroValue20
 t31:=Tryz.underlying52
 a31:=Tryz.isAgg52
 z31:=Tryz.sizeOf52
 v31:=Tryz.zeroValue52
 t37:=Tryz.underlying87
 a37:=Tryz.isAgg87
 z37:=Tryz.sizeOf87
 v37:=Tryz.zeroValue87
 t70:=Tryz.underlying86
 a70:=Tryz.isAgg86
 z70:=Tryz.sizeOf86
 v70:=Tryz.zeroValue86
 t72:=Tryz.underlying89
 a72:=Tryz.isAgg89
 z72:=Tryz.sizeOf89
 v72:=Tryz.zeroValue89
 t75:=Tryz.underlying140
 a75:=Tryz.isAgg140
 z75:=Tryz.sizeOf140
 v75:=Tryz.zeroValue140
 t76:=Tryz.underlying141
 a76:=Tryz.isAgg141
 z76:=Tryz.sizeOf141
 v76:=Tryz.zeroValue141
 t127:=Tryz.underlying145
 a127:=Tryz.isAgg145
 z127:=Tryz.sizeOf145
 v127:=Tryz.zeroValue145
 t164:=Tryz.underlying202
 a164:=Tryz.isAgg202
 z164:=Tryz.sizeOf202
 v164:=Tryz.zeroValue202}
theorem Tryz.Builder_Extra_156:Builder.Extra Tryz.prog Tryz.lays156_ren:={
 sizeBuilder:=by kernel_rfl
 liesBuilder:=by kernel_rfl
 t5:=Tryz.underlying5
 a5:=Tryz.isAgg5
 z5:=Tryz.sizeOf5
 v5:=Tryz.zeroValue5
 infoByte:=by kernel_rfl
 cellsByte:=by kernel_rfl
 sizeByte:=by kernel_rfl
 neB5:=by decide}
open Go.RowKit in
theorem Tryz.strings_Join_none(a:Option Addr)(c:Nat)(sep:ByteArray)(w:World):
 Calls Tryz.prog 244 #[.slice a 0 c,.string sep] w fun e w'=>e=.returned (.string ⟨#[]⟩)/\w'=w:=Any.strings_Join_none Tryz.lays156 Tryz.Builder_Extra_156 a c sep w
open Go.RowKit in
theorem Tryz.strings_Join(bk o c:Nat)(xs:List ByteArray)(sep:ByteArray)(w:World)(hcells:∀(j:Nat) x,xs[j]? = some x->w.cell? ⟨bk,o+j,none⟩=some (.string x))(hbk:bk<w.heap.size)(hN:xs.length≤140737488355328)(hcap:xs.length≤c)(hlen:(Lib.join (xs.map (·.data.toList)) sep.data.toList).length≤140737488355328):
 Calls Tryz.prog 244 #[.slice (some ⟨bk,o,none⟩) xs.length c,.string sep] w fun e w'=>e=.returned (.string ⟨(Lib.join (xs.map (·.data.toList)) sep.data.toList).toArray⟩)/\Below w.heap.size w w':=Any.strings_Join Tryz.lays156 Tryz.Builder_Extra_156 bk o c xs sep w hcells hbk hN hcap hlen
def Tryz.lays119_ren:Go.Shelf.Ren:=⟨fun|119=>249|n=>n,fun|21=>21|4=>4|n=>n,fun|n=>n⟩
theorem Tryz.lays119:Go.Proofs.Lays.n119 Tryz.prog Tryz.lays119_ren:={
 mixed:=by kernel_rfl
 f119:=Tryz.func249.trans (congrArg some (by kernel_rfl))
 t4:=Tryz.underlying4
 a4:=Tryz.isAgg4
 z4:=Tryz.sizeOf4
 v4:=Tryz.zeroValue4
 t21:=Tryz.underlying21
 a21:=Tryz.isAgg21
 z21:=Tryz.sizeOf21
 v21:=Tryz.zeroValue21}
theorem Tryz.utf8_ValidRune(r:Int)(w:World):
 Calls Tryz.prog 249 #[.int .i32 r] w fun e w'=>e=.returned (.bool (Lib.validRune r))/\w'=w:=Any.utf8_ValidRune Tryz.lays119 r w
def Tryz.lays137_ren:Go.Shelf.Ren:=⟨fun|137=>248|217=>278|266=>305|n=>n,fun|9=>9|5=>5|3=>3|n=>n,fun|n=>n⟩
theorem Tryz.lays137:Go.Proofs.Lays.n137 Tryz.prog Tryz.lays137_ren:={
 mixed:=by kernel_rfl
 f137:=Tryz.func248.trans (congrArg some (by kernel_rfl))
 f217:=Tryz.func278.trans (congrArg some (by kernel_rfl))
 f266:=Tryz.func305.trans (congrArg some (by kernel_rfl))
 t3:=Tryz.underlying3
 a3:=Tryz.isAgg3
 z3:=Tryz.sizeOf3
 v3:=Tryz.zeroValue3
 t5:=Tryz.underlying5
 a5:=Tryz.isAgg5
 z5:=Tryz.sizeOf5
 v5:=Tryz.zeroValue5
 t9:=Tryz.underlying9
 a9:=Tryz.isAgg9
 z9:=Tryz.sizeOf9
 v9:=Tryz.zeroValue9}
open Go.RowKit in
theorem Tryz.strings_IndexByte(s:ByteArray)(c:Int)(w:World):
 Calls Tryz.prog 248 #[.string s,.int .u8 c] w fun e w'=>e=.returned (.int .i64 (Lib.indexByte s.data.toList c.toNat.toUInt8))/\w'=w:=Any.strings_IndexByte Tryz.lays137 s c w
def Tryz.laysM171_ren:Go.Shelf.Ren:=⟨fun|171=>159|243=>210|246=>239|283=>267|284=>268|285=>269|286=>270|129=>297|317=>296|318=>298|319=>299|320=>300|337=>317|338=>318|n=>n,fun|3=>3|9=>9|2=>2|4=>4|171=>251|0=>0|53=>207|37=>87|5=>5|173=>254|212=>271|51=>204|20=>20|213=>272|46=>178|232=>290|233=>291|n=>n,fun|17=>3|18=>6|19=>7|n=>n⟩
theorem Tryz.laysM171:Go.Proofs.LaysM.n171 Tryz.prog Tryz.laysM171_ren:={
 mixed:=by kernel_rfl
 f129:=Tryz.func297.trans (congrArg some (by kernel_rfl))
 f171:=Tryz.func159.trans (congrArg some (by kernel_rfl))
 f243:=Tryz.func210.trans (congrArg some (by kernel_rfl))
 f246:=Tryz.func239.trans (congrArg some (by kernel_rfl))
 f283:=Tryz.func267.trans (congrArg some (by kernel_rfl))
 f284:=Tryz.func268.trans (congrArg some (by kernel_rfl))
 f285:=Tryz.func269.trans (congrArg some (by kernel_rfl))
 f286:=Tryz.func270.trans (congrArg some (by kernel_rfl))
 f317:=Tryz.func296.trans (congrArg some (by kernel_rfl))
 f318:=Tryz.func298.trans (congrArg some (by kernel_rfl))
 f319:=Tryz.func299.trans (congrArg some (by kernel_rfl))
 f320:=Tryz.func300.trans (congrArg some (by kernel_rfl))
 f337:=Tryz.func317.trans (congrArg some (by kernel_rfl))
 f338:=Tryz.func318.trans (congrArg some (by kernel_rfl))
 t0:=Tryz.underlying0
 a0:=Tryz.isAgg0
 z0:=Tryz.sizeOf0
 v0:=Tryz.zeroValue0
 t2:=Tryz.underlying2
 a2:=Tryz.isAgg2
 z2:=Tryz.sizeOf2
 v2:=Tryz.zeroValue2
 t3:=Tryz.underlying3
 a3:=Tryz.isAgg3
 z3:=Tryz.sizeOf3
 v3:=Tryz.zeroValue3
 t4:=Tryz.underlying4
 a4:=Tryz.isAgg4
 z4:=Tryz.sizeOf4
 v4:=Tryz.zeroValue4
 t5:=Tryz.underlying5
 a5:=Tryz.isAgg5
 z5:=Tryz.sizeOf5
 v5:=Tryz.zeroValue5
 t9:=Tryz.underlying9
 a9:=Tryz.isAgg9
 z9:=Tryz.sizeOf9
 v9:=Tryz.zeroValue9
 t20:=Tryz.underlying20
 a20:=Tryz.isAgg20
 z20:=Tryz.sizeOf20
 v20:=Tryz.zeroValue20
 t37:=Tryz.underlying87
 a37:=Tryz.isAgg87
 z37:=Tryz.sizeOf87
 v37:=Tryz.zeroValue87
 t46:=Tryz.underlying178
 a46:=Tryz.isAgg178
 z46:=Tryz.sizeOf178
 v46:=Tryz.zeroValue178
 t51:=Tryz.underlying204
 a51:=Tryz.isAgg204
 z51:=Tryz.sizeOf204
 v51:=Tryz.zeroValue204
 t53:=Tryz.underlying207
 a53:=Tryz.isAgg207
 z53:=Tryz.sizeOf207
 v53:=Tryz.zeroValue207
 t171:=Tryz.underlying251
 a171:=Tryz.isAgg251
 z171:=Tryz.sizeOf251
 v171:=Tryz.zeroValue251
 t173:=Tryz.underlying254
 a173:=Tryz.isAgg254
 z173:=Tryz.sizeOf254
 v173:=Tryz.zeroValue254
 t212:=Tryz.underlying271
 a212:=Tryz.isAgg271
 z212:=Tryz.sizeOf271
 v212:=Tryz.zeroValue271
 t213:=Tryz.underlying272
 a213:=Tryz.isAgg272
 z213:=Tryz.sizeOf272
 t232:=Tryz.underlying290
 a232:=Tryz.isAgg290
 z232:=Tryz.sizeOf290
 v232:=Tryz.zeroValue290
 t233:=Tryz.underlying291
 a233:=Tryz.isAgg291
 z233:=Tryz.sizeOf291
 v233:=Tryz.zeroValue291
 g17:=by kernel_rfl
 g18:=by kernel_rfl
 g19:=by kernel_rfl
 i0:=by kernel_rfl
 i2:=by kernel_rfl
 i3:=by kernel_rfl
 i4:=by kernel_rfl
 i5:=by kernel_rfl
 i9:=by kernel_rfl
 i20:=by kernel_rfl
 i37:=by kernel_rfl
 i46:=by kernel_rfl
 i51:=by kernel_rfl
 i53:=by kernel_rfl
 i171:=by kernel_rfl
 i173:=by kernel_rfl
 i212:=by kernel_rfl
 i232:=by kernel_rfl
 i233:=by kernel_rfl
 m17:=by kernel_rfl
 m18:=by kernel_rfl
 m19:=by kernel_rfl}
open Go.RowKit Go.Sort Go.Lib in
theorem Tryz.strconv_Itoa(n:Int)(h0 : -9223372036854775808≤n)(h1:n≤9223372036854775807)(w:World)(htab:Lib.TabIs Tryz.prog w "internal/strconv.uint64pow10" .u64 Lib.pow10Tab):
 Calls Tryz.prog 159 #[.int .i64 n] w fun e w'=>e=.returned (.string ⟨(Lib.itoa n).toArray⟩)/\∃k os,w'=grow (w.drewN k) os:=Any.strconv_Itoa Tryz.laysM171 n h0 h1 w htab
def Tryz.laysC174_ren:Go.Shelf.Ren:=⟨fun|174=>220|247=>252|245=>253|287=>279|279=>280|280=>281|281=>282|282=>283|321=>306|322=>307|316=>308|171=>159|205=>309|243=>210|246=>239|283=>267|284=>268|285=>269|286=>270|129=>297|317=>296|318=>298|319=>299|320=>300|337=>317|338=>318|n=>n,fun|9=>9|3=>3|2=>2|75=>140|85=>216|4=>4|167=>261|5=>5|53=>207|175=>262|46=>178|168=>264|37=>87|0=>0|210=>278|21=>21|127=>145|145=>285|143=>283|171=>251|173=>254|212=>271|51=>204|20=>20|213=>272|232=>290|233=>291|80=>96|n=>n,fun|15=>4|16=>5|17=>3|18=>6|19=>7|n=>n⟩
theorem Tryz.laysC174:Go.Proofs.LaysC.n174 Tryz.prog Tryz.laysC174_ren:={
 mixed:=by kernel_rfl
 f129:=Tryz.func297.trans (congrArg some (by kernel_rfl))
 f171:=Tryz.func159.trans (congrArg some (by kernel_rfl))
 f174:=Tryz.func220.trans (congrArg some (by kernel_rfl))
 f205:=Tryz.func309.trans (congrArg some (by kernel_rfl))
 f243:=Tryz.func210.trans (congrArg some (by kernel_rfl))
 f245:=Tryz.func253.trans (congrArg some (by kernel_rfl))
 f246:=Tryz.func239.trans (congrArg some (by kernel_rfl))
 f247:=Tryz.func252.trans (congrArg some (by kernel_rfl))
 f279:=Tryz.func280.trans (congrArg some (by kernel_rfl))
 f280:=Tryz.func281.trans (congrArg some (by kernel_rfl))
 f281:=Tryz.func282.trans (congrArg some (by kernel_rfl))
 f282:=Tryz.func283.trans (congrArg some (by kernel_rfl))
 f283:=Tryz.func267.trans (congrArg some (by kernel_rfl))
 f284:=Tryz.func268.trans (congrArg some (by kernel_rfl))
 f285:=Tryz.func269.trans (congrArg some (by kernel_rfl))
 f286:=Tryz.func270.trans (congrArg some (by kernel_rfl))
 f287:=Tryz.func279.trans (congrArg some (by kernel_rfl))
 f316:=Tryz.func308.trans (congrArg some (by kernel_rfl))
 f317:=Tryz.func296.trans (congrArg some (by kernel_rfl))
 f318:=Tryz.func298.trans (congrArg some (by kernel_rfl))
 f319:=Tryz.func299.trans (congrArg some (by kernel_rfl))
 f320:=Tryz.func300.trans (congrArg some (by kernel_rfl))
 f321:=Tryz.func306.trans (congrArg some (by kernel_rfl))
 f322:=Tryz.func307.trans (congrArg some (by kernel_rfl))
 f337:=Tryz.func317.trans (congrArg some (by kernel_rfl))
 f338:=Tryz.func318.trans (congrArg some (by kernel_rfl))
 t0:=Tryz.underlying0
 a0:=Tryz.isAgg0
 z0:=Tryz.sizeOf0
 v0:=Tryz.zeroValue0
 t2:=Tryz.underlying2
 a2:=Tryz.isAgg2
 z2:=Tryz.sizeOf2
 v2:=Tryz.zeroValue2
 t3:=Tryz.underlying3
 a3:=Tryz.isAgg3
 z3:=Tryz.sizeOf3
 v3:=Tryz.zeroValue3
 t4:=Tryz.underlying4
 a4:=Tryz.isAgg4
 z4:=Tryz.sizeOf4
 v4:=Tryz.zeroValue4
 t5:=Tryz.underlying5
 a5:=Tryz.isAgg5
 z5:=Tryz.sizeOf5
 v5:=Tryz.zeroValue5
 t9:=Tryz.underlying9
 a9:=Tryz.isAgg9
 z9:=Tryz.sizeOf9
 v9:=Tryz.zeroValue9
 t20:=Tryz.underlying20
 a20:=Tryz.isAgg20
 z20:=Tryz.sizeOf20
 v20:=Tryz.zeroValue20
 t21:=Tryz.underlying21
 a21:=Tryz.isAgg21
 z21:=Tryz.sizeOf21
 v21:=Tryz.zeroValue21
 t37:=Tryz.underlying87
 a37:=Tryz.isAgg87
 z37:=Tryz.sizeOf87
 v37:=Tryz.zeroValue87
 t46:=Tryz.underlying178
 a46:=Tryz.isAgg178
 z46:=Tryz.sizeOf178
 v46:=Tryz.zeroValue178
 t51:=Tryz.underlying204
 a51:=Tryz.isAgg204
 z51:=Tryz.sizeOf204
 v51:=Tryz.zeroValue204
 t53:=Tryz.underlying207
 a53:=Tryz.isAgg207
 z53:=Tryz.sizeOf207
 v53:=Tryz.zeroValue207
 t75:=Tryz.underlying140
 a75:=Tryz.isAgg140
 z75:=Tryz.sizeOf140
 v75:=Tryz.zeroValue140
 t85:=Tryz.underlying216
 a85:=Tryz.isAgg216
 z85:=Tryz.sizeOf216
 v85:=Tryz.zeroValue216
 t127:=Tryz.underlying145
 a127:=Tryz.isAgg145
 z127:=Tryz.sizeOf145
 v127:=Tryz.zeroValue145
 t143:=Tryz.underlying283
 a143:=Tryz.isAgg283
 z143:=Tryz.sizeOf283
 v143:=Tryz.zeroValue283
 t145:=Tryz.underlying285
 a145:=Tryz.isAgg285
 z145:=Tryz.sizeOf285
 v145:=Tryz.zeroValue285
 t167:=Tryz.underlying261
 a167:=Tryz.isAgg261
 z167:=Tryz.sizeOf261
 v167:=Tryz.zeroValue261
 t168:=Tryz.underlying264
 a168:=Tryz.isAgg264
 z168:=Tryz.sizeOf264
 v168:=Tryz.zeroValue264
 t171:=Tryz.underlying251
 a171:=Tryz.isAgg251
 z171:=Tryz.sizeOf251
 v171:=Tryz.zeroValue251
 t173:=Tryz.underlying254
 a173:=Tryz.isAgg254
 z173:=Tryz.sizeOf254
 v173:=Tryz.zeroValue254
 t175:=Tryz.underlying262
 a175:=Tryz.isAgg262
 z175:=Tryz.sizeOf262
 v175:=Tryz.zeroValue262
 t210:=Tryz.underlying278
 a210:=Tryz.isAgg278
 z210:=Tryz.sizeOf278
 v210:=Tryz.zeroValue278
 t212:=Tryz.underlying271
 a212:=Tryz.isAgg271
 z212:=Tryz.sizeOf271
 v212:=Tryz.zeroValue271
 t213:=Tryz.underlying272
 a213:=Tryz.isAgg272
 z213:=Tryz.sizeOf272
 t232:=Tryz.underlying290
 a232:=Tryz.isAgg290
 z232:=Tryz.sizeOf290
 v232:=Tryz.zeroValue290
 t233:=Tryz.underlying291
 a233:=Tryz.isAgg291
 z233:=Tryz.sizeOf291
 v233:=Tryz.zeroValue291
 g15:=by kernel_rfl
 g16:=by kernel_rfl
 g17:=by kernel_rfl
 g18:=by kernel_rfl
 g19:=by kernel_rfl
 t80:=Tryz.underlying96
 a80:=Tryz.isAgg96
 z80:=Tryz.sizeOf96
 v80:=Tryz.zeroValue96
 i0:=by kernel_rfl
 i2:=by kernel_rfl
 i3:=by kernel_rfl
 i4:=by kernel_rfl
 i5:=by kernel_rfl
 i9:=by kernel_rfl
 i20:=by kernel_rfl
 i21:=by kernel_rfl
 i37:=by kernel_rfl
 i46:=by kernel_rfl
 i51:=by kernel_rfl
 i53:=by kernel_rfl
 i75:=by kernel_rfl
 i80:=by kernel_rfl
 i85:=by kernel_rfl
 i127:=by kernel_rfl
 i143:=by kernel_rfl
 i145:=by kernel_rfl
 i167:=by kernel_rfl
 i168:=by kernel_rfl
 i171:=by kernel_rfl
 i173:=by kernel_rfl
 i175:=by kernel_rfl
 i210:=by kernel_rfl
 i212:=by kernel_rfl
 i232:=by kernel_rfl
 i233:=by kernel_rfl
 m15:=by kernel_rfl
 m16:=by kernel_rfl
 m17:=by kernel_rfl
 m18:=by kernel_rfl
 m19:=by kernel_rfl
 c0:=by kernel_rfl
 c2:=by kernel_rfl
 c3:=by kernel_rfl
 c4:=by kernel_rfl
 c5:=by kernel_rfl
 c9:=by kernel_rfl
 c20:=by kernel_rfl
 c21:=by kernel_rfl
 c37:=by kernel_rfl
 c46:=by kernel_rfl
 c51:=by kernel_rfl
 c53:=by kernel_rfl
 c75:=by kernel_rfl
 c80:=by kernel_rfl
 c85:=by kernel_rfl
 c127:=by kernel_rfl
 c143:=by kernel_rfl
 c145:=by kernel_rfl
 c167:=by kernel_rfl
 c168:=by kernel_rfl
 c171:=by kernel_rfl
 c173:=by kernel_rfl
 c175:=by kernel_rfl
 c210:=by kernel_rfl
 c212:=by kernel_rfl
 c213:=by kernel_rfl
 c232:=by kernel_rfl
 c233:=by kernel_rfl}
open Go.RowKit in
theorem Tryz.strconv_ParseInt_10_at64_ok(s:ByteArray)(hmax:s.size≤9223372036854775806)(v:Int)(h:Lib.parseIntB 64 s.data.toList=.ok v)(w:World):
 Calls Tryz.prog 220 #[.string s,.int .i64 10,.int .i64 64] w fun e w'=>e=.returned (.tuple #[.int .i64 v,.nilIface])/\(w'=w\/∃t,w'=Lib.bytesWorld w 5 t):=Any.strconv_ParseInt_10_at64_ok Tryz.laysC174 s hmax v h w
open Go.RowKit in
theorem Tryz.strconv_ParseInt_10_at64_range(s:ByteArray)(hlim:s.size≤281474976710656)(h:Lib.parseIntB 64 s.data.toList=.range)(ev:Value)(w:World)(hv:w.cell? ⟨5,0,none⟩=some ev)(hev:ev=.nilIface\/∃te pe,ev=.iface te pe):
 Calls Tryz.prog 220 #[.string s,.int .i64 10,.int .i64 64] w fun e w'=>∃N,e=.returned (.tuple #[.int .i64 (Lib.intSat 64 s.data.toList),.iface 264 (.pointer (some ⟨N,0,none⟩))])/\w.heap.size≤N/\w'.heap[N]? = some (.cells #[.string ⟨#[80,97,114,115,101,73,110,116]⟩,.string s,ev] 278 (0,0))/\Below w.heap.size w w':=Any.strconv_ParseInt_10_at64_range Tryz.laysC174 s hlim h ev w hv hev
def Tryz.lays138_ren:Go.Shelf.Ren:=⟨fun|138=>218|195=>245|218=>246|143=>247|219=>277|217=>278|225=>251|224=>250|267=>304|266=>305|314=>319|n=>n,fun|9=>9|3=>3|4=>4|5=>5|0=>0|46=>178|146=>205|51=>204|n=>n,fun|1=>2|n=>n⟩
theorem Tryz.lays138:Go.Proofs.Lays.n138 Tryz.prog Tryz.lays138_ren:={
 mixed:=by kernel_rfl
 f138:=Tryz.func218.trans (congrArg some (by kernel_rfl))
 f143:=Tryz.func247.trans (congrArg some (by kernel_rfl))
 f195:=Tryz.func245.trans (congrArg some (by kernel_rfl))
 f217:=Tryz.func278.trans (congrArg some (by kernel_rfl))
 f218:=Tryz.func246.trans (congrArg some (by kernel_rfl))
 f219:=Tryz.func277.trans (congrArg some (by kernel_rfl))
 f224:=Tryz.func250.trans (congrArg some (by kernel_rfl))
 f225:=Tryz.func251.trans (congrArg some (by kernel_rfl))
 f266:=Tryz.func305.trans (congrArg some (by kernel_rfl))
 f267:=Tryz.func304.trans (congrArg some (by kernel_rfl))
 f314:=Tryz.func319.trans (congrArg some (by kernel_rfl))
 t0:=Tryz.underlying0
 a0:=Tryz.isAgg0
 z0:=Tryz.sizeOf0
 v0:=Tryz.zeroValue0
 t3:=Tryz.underlying3
 a3:=Tryz.isAgg3
 z3:=Tryz.sizeOf3
 v3:=Tryz.zeroValue3
 t4:=Tryz.underlying4
 a4:=Tryz.isAgg4
 z4:=Tryz.sizeOf4
 v4:=Tryz.zeroValue4
 t5:=Tryz.underlying5
 a5:=Tryz.isAgg5
 z5:=Tryz.sizeOf5
 v5:=Tryz.zeroValue5
 t9:=Tryz.underlying9
 a9:=Tryz.isAgg9
 z9:=Tryz.sizeOf9
 v9:=Tryz.zeroValue9
 t46:=Tryz.underlying178
 a46:=Tryz.isAgg178
 z46:=Tryz.sizeOf178
 v46:=Tryz.zeroValue178
 t51:=Tryz.underlying204
 a51:=Tryz.isAgg204
 z51:=Tryz.sizeOf204
 v51:=Tryz.zeroValue204
 t146:=Tryz.underlying205
 a146:=Tryz.isAgg205
 z146:=Tryz.sizeOf205
 v146:=Tryz.zeroValue205
 g1:=by kernel_rfl}
open Go.RowKit Go.Lib in
theorem Tryz.strings_Count_one(s:ByteArray)(c:UInt8)(w:World):
 Calls Tryz.prog 218 #[.string s,.string ⟨#[c]⟩] w fun e w'=>e=.returned (.int .i64 (Lib.countByte s.data.toList c))/\w'=w:=Any.strings_Count_one Tryz.lays138 s c w
def Tryz.lays99_ren:Go.Shelf.Ren:=⟨fun|99=>156|206=>208|n=>n,fun|9=>9|4=>4|3=>3|n=>n,fun|n=>n⟩
theorem Tryz.lays99:Go.Proofs.Lays.n99 Tryz.prog Tryz.lays99_ren:={
 mixed:=by kernel_rfl
 f99:=Tryz.func156.trans (congrArg some (by kernel_rfl))
 f206:=Tryz.func208.trans (congrArg some (by kernel_rfl))
 t3:=Tryz.underlying3
 a3:=Tryz.isAgg3
 z3:=Tryz.sizeOf3
 v3:=Tryz.zeroValue3
 t4:=Tryz.underlying4
 a4:=Tryz.isAgg4
 z4:=Tryz.sizeOf4
 v4:=Tryz.zeroValue4
 t9:=Tryz.underlying9
 a9:=Tryz.isAgg9
 z9:=Tryz.sizeOf9
 v9:=Tryz.zeroValue9}
open Go.RowKit Go.Lib in
theorem Tryz.strings_HasPrefix(s p:ByteArray)(w:World):
 Calls Tryz.prog 156 #[.string s,.string p] w fun e w'=>e=.returned (.bool (Lib.hasPrefix s.data.toList p.data.toList))/\w'=w:=Any.strings_HasPrefix Tryz.lays99 s p w
def Tryz.lays151_ren:Go.Shelf.Ren:=⟨fun|151=>169|152=>219|137=>248|119=>249|224=>250|225=>251|217=>278|266=>305|n=>n,fun|9=>9|21=>21|4=>4|3=>3|5=>5|0=>0|46=>178|n=>n,fun|n=>n⟩
theorem Tryz.lays151:Go.Proofs.Lays.n151 Tryz.prog Tryz.lays151_ren:={
 mixed:=by kernel_rfl
 f119:=Tryz.func249.trans (congrArg some (by kernel_rfl))
 f137:=Tryz.func248.trans (congrArg some (by kernel_rfl))
 f151:=Tryz.func169.trans (congrArg some (by kernel_rfl))
 f152:=Tryz.func219.trans (congrArg some (by kernel_rfl))
 f217:=Tryz.func278.trans (congrArg some (by kernel_rfl))
 f224:=Tryz.func250.trans (congrArg some (by kernel_rfl))
 f225:=Tryz.func251.trans (congrArg some (by kernel_rfl))
 f266:=Tryz.func305.trans (congrArg some (by kernel_rfl))
 t0:=Tryz.underlying0
 a0:=Tryz.isAgg0
 z0:=Tryz.sizeOf0
 v0:=Tryz.zeroValue0
 t3:=Tryz.underlying3
 a3:=Tryz.isAgg3
 z3:=Tryz.sizeOf3
 v3:=Tryz.zeroValue3
 t4:=Tryz.underlying4
 a4:=Tryz.isAgg4
 z4:=Tryz.sizeOf4
 v4:=Tryz.zeroValue4
 t5:=Tryz.underlying5
 a5:=Tryz.isAgg5
 z5:=Tryz.sizeOf5
 v5:=Tryz.zeroValue5
 t9:=Tryz.underlying9
 a9:=Tryz.isAgg9
 z9:=Tryz.sizeOf9
 v9:=Tryz.zeroValue9
 t21:=Tryz.underlying21
 a21:=Tryz.isAgg21
 z21:=Tryz.sizeOf21
 v21:=Tryz.zeroValue21
 t46:=Tryz.underlying178
 a46:=Tryz.isAgg178
 z46:=Tryz.sizeOf178
 v46:=Tryz.zeroValue178}
open Go.RowKit Go.Lib in
theorem Tryz.strings_ContainsRune_ascii(s:ByteArray)(r:Int)(w:World)(h0:0≤r)(h1:r<128):
 Calls Tryz.prog 169 #[.string s,.int .i32 r] w fun e w'=>e=.returned (.bool (decide (0≤Lib.indexByte s.data.toList r.toNat.toUInt8)))/\w'=w:=Any.strings_ContainsRune_ascii Tryz.lays151 s r w h0 h1
open Go.Shelf
def Tryz.cloneSA_ren:Go.Shelf.Ren:=⟨fun|41=>123|n=>n,fun|22=>52|23=>9|4=>4|n=>n,fun|n=>n⟩
theorem Tryz.cloneSA:Go.Proofs.SlLaysE0.n41 Tryz.prog Tryz.cloneSA_ren:={
 mixed:=by kernel_rfl
 f41:=⟨Tryz.f123.name,by decide,Tryz.func123.trans (congrArg some (by kernel_rfl))⟩
 t4:=Tryz.underlying4
 a4:=Tryz.isAgg4
 z4:=Tryz.sizeOf4
 v4:=Tryz.zeroValue4
 t22:=Tryz.underlying52
 a22:=Tryz.isAgg52
 z22:=Tryz.sizeOf52
 v22:=Tryz.zeroValue52}
def Tryz.cloneZA_ren:Go.Shelf.Ren:=⟨fun|42=>123|n=>n,fun|25=>52|26=>9|4=>4|n=>n,fun|n=>n⟩
theorem Tryz.cloneZA:Go.Proofs.SlLaysN.n42 Tryz.prog Tryz.cloneZA_ren:={
 mixed:=by kernel_rfl
 f42:=⟨Tryz.f123.name,by decide,Tryz.func123.trans (congrArg some (by kernel_rfl))⟩
 t4:=Tryz.underlying4
 a4:=Tryz.isAgg4
 z4:=Tryz.sizeOf4
 v4:=Tryz.zeroValue4
 t25:=Tryz.underlying52
 a25:=Tryz.isAgg52
 z25:=Tryz.sizeOf52
 v25:=Tryz.zeroValue52
 t26:=Tryz.underlying9
 a26:=Tryz.isAgg9
 z26:=Tryz.sizeOf9
 v26:=Tryz.zeroValue9
 i26:=by kernel_rfl}
def Tryz.cloneWA_ren:Go.Shelf.Ren:=⟨fun|41=>204|n=>n,fun|22=>51|23=>56|4=>4|n=>n,fun|n=>n⟩
theorem Tryz.cloneWA:Go.Proofs.SlLaysE0.n41 Tryz.prog Tryz.cloneWA_ren:={
 mixed:=by kernel_rfl
 f41:=⟨Tryz.f204.name,by decide,Tryz.func204.trans (congrArg some (by kernel_rfl))⟩
 t4:=Tryz.underlying4
 a4:=Tryz.isAgg4
 z4:=Tryz.sizeOf4
 v4:=Tryz.zeroValue4
 t22:=Tryz.underlying51
 a22:=Tryz.isAgg51
 z22:=Tryz.sizeOf51
 v22:=Tryz.zeroValue51}
end Go.Proofs.YtnhphlmblenapaaGreatDoor
