import Derived.Test.YtcbahpllcfbkmaaGreatDoorProg
import Derived.Test.YtcbahpllcfbkmaaGreatDoorA20
import Derived.KernelRfl
import Derived.Lib.ItoaNum
import Derived.Lib.LaidTab
import Derived.Test.YtcbahpllcfbkmaaGreatDoorNames
namespace Go.Proofs.YtcbahpllcfbkmaaGreatDoor
open Go.RowKit
set_option maxRecDepth 100000
set_option linter.unusedVariables false
set_option linter.unusedSimpArgs false
noncomputable def G:Cx:=cxk Tryz.prog (fun g=>if g=1 then some [.sl (dz.map fun s=>[.lit (.string s)])]else none) (fun g=>if g=2 then some (fun cs=>cs=(Lib.pow10Tab.map fun z=>Value.int .u64 z).toArray)else none) (by kernel_rfl)
abbrev oM(n:Nat)(o:OP):O:=⟨some n,o,none⟩
abbrev oV(n t:Nat):O:=⟨some n,.mv (.t t),none⟩
abbrev kI(z:Int):X:=.k (.d (.lit (.int .i64 z)))
abbrev kS(s:ByteArray):X:=.k (.d (.lit (.string s)))
abbrev kT:X:=.k (.d (.lit (.bool true)))
abbrev kF:X:=.k (.d (.lit (.bool false)))
abbrev oI(n:Nat)(z:Int):O:=oM n (.mv (kI z))
abbrev oG(n g:Nat)(o:OP):O:=⟨some n,o,some (g,true)⟩
abbrev oH(n g:Nat)(o:OP):O:=⟨some n,o,some (g,false)⟩
abbrev oS(k a b:Nat):O:=⟨none,.sto k (.t a) (.t b),none⟩
abbrev sq(l:List O)(m:List Nat)(c:Cd):Cd:=.seq (.ops l m) c
abbrev zL(k a:Nat):OP:=.load k false (.t a)
abbrev zM(k a:Nat):OP:=.load k true (.t a)
abbrev zF(k a:Nat):OP:=.fa k (.t a)
abbrev zI(k a b:Nat):OP:=.ia k (.t a) (.t b)
abbrev zP(a b:Nat):OP:=.pick (.t a) kT (.t b)
abbrev zQ(a b:Nat):OP:=.pick (.t a) (.t b) kF
abbrev zB(k a:Nat):OP:=.box k (.t a)
abbrev zN(a:Nat):OP:=.len false (.t a)
abbrev zU(a:Nat):OP:=.un .not (.t a)
abbrev zX(a k:Nat):OP:=.ext (.t a) k
abbrev zC(f a:Nat):OP:=.call f [.t a]
abbrev zD(f a b:Nat):OP:=.call f [.t a,.t b]
abbrev zE(f a b c:Nat):OP:=.call f [.t a,.t b,.t c]
abbrev zK(a:Nat):OP:=.nilck (.t a)
abbrev ye(a b:Nat):OP:=.bin .eql (.t a) (.t b)
abbrev we(a:Nat)(z:Int):OP:=.bin .eql (.t a) (kI z)
abbrev yn(a b:Nat):OP:=.bin .neq (.t a) (.t b)
abbrev wn(a:Nat)(z:Int):OP:=.bin .neq (.t a) (kI z)
abbrev ya(a b:Nat):OP:=.bin .add (.t a) (.t b)
abbrev wa(a:Nat)(z:Int):OP:=.bin .add (.t a) (kI z)
abbrev ys(a b:Nat):OP:=.bin .sub (.t a) (.t b)
abbrev ws(a:Nat)(z:Int):OP:=.bin .sub (.t a) (kI z)
abbrev yl(a b:Nat):OP:=.bin .lss (.t a) (.t b)
abbrev wl(a:Nat)(z:Int):OP:=.bin .lss (.t a) (kI z)
abbrev yg(a b:Nat):OP:=.bin .gtr (.t a) (.t b)
abbrev wg(a:Nat)(z:Int):OP:=.bin .gtr (.t a) (kI z)
abbrev yh(a b:Nat):OP:=.bin .geq (.t a) (.t b)
abbrev wh(a:Nat)(z:Int):OP:=.bin .geq (.t a) (kI z)
abbrev ZL(n k a:Nat):O:=oM n (zL k a)
abbrev ZM(n k a:Nat):O:=oM n (zM k a)
abbrev ZF(n k a:Nat):O:=oM n (zF k a)
abbrev ZI(n k a b:Nat):O:=oM n (zI k a b)
abbrev ZP(n a b:Nat):O:=oM n (zP a b)
abbrev ZQ(n a b:Nat):O:=oM n (zQ a b)
abbrev ZB(n k a:Nat):O:=oM n (zB k a)
abbrev ZN(n a:Nat):O:=oM n (zN a)
abbrev ZU(n a:Nat):O:=oM n (zU a)
abbrev ZX(n a k:Nat):O:=oM n (zX a k)
abbrev ZC(n f a:Nat):O:=oM n (zC f a)
abbrev ZD(n f a b:Nat):O:=oM n (zD f a b)
abbrev ZE(n f a b c:Nat):O:=oM n (zE f a b c)
abbrev ZK(n a:Nat):O:=oM n (zK a)
abbrev Ye(n a b:Nat):O:=oM n (ye a b)
abbrev We(n a:Nat)(z:Int):O:=oM n (we a z)
abbrev Yn(n a b:Nat):O:=oM n (yn a b)
abbrev Wn(n a:Nat)(z:Int):O:=oM n (wn a z)
abbrev Ya(n a b:Nat):O:=oM n (ya a b)
abbrev Wa(n a:Nat)(z:Int):O:=oM n (wa a z)
abbrev Ys(n a b:Nat):O:=oM n (ys a b)
abbrev Ws(n a:Nat)(z:Int):O:=oM n (ws a z)
abbrev Yl(n a b:Nat):O:=oM n (yl a b)
abbrev Wl(n a:Nat)(z:Int):O:=oM n (wl a z)
abbrev Wg(n a:Nat)(z:Int):O:=oM n (wg a z)
abbrev Yh(n a b:Nat):O:=oM n (yh a b)
abbrev Wh(n a:Nat)(z:Int):O:=oM n (wh a z)
abbrev zz0:List V:=[.d (.lit (.string ⟨#[]⟩)),.d (.lit (.int .i64 0)),.d (.lit (.int .i64 0))]
abbrev zz1:List V:=[.d (.lit (.bool false)),.d (.lit (.bool false)),.d (.lit (.bool false)),.d (.lit (.bool false)),.d (.lit (.bool false)),.d (.lit (.bool false)),.d (.lit (.bool false))]
abbrev zz2:List V:=[.d (.lit (.int .i64 0)),.d (.lit (.int .i64 0)),.d (.lit (.int .i64 0)),.d (.lit (.string ⟨#[]⟩)),.nil,.d (.lit (.string ⟨#[]⟩)),.d (.lit (.string ⟨#[]⟩)),.nil,.nil,.nil,.nil,.nil]
abbrev zz3:List V:=[.d (.lit (.int .i64 0)),.d (.lit (.int .i64 0)),.d (.lit (.int .i64 0)),.d (.lit (.bool false))]
abbrev zz4:List V:=[.d (.lit (.int .i64 0)),.d (.lit (.int .i64 0)),.d (.lit (.string ⟨#[]⟩)),.nil]
abbrev zz5:List V:=[.d (.lit (.string ⟨#[]⟩)),.d (.lit (.int .i64 0)),.d (.lit (.int .i64 0)),.d (.lit (.int .i64 0)),.d (.lit (.int .i64 0))]
abbrev zz6:List V:=[.d (.lit (.int .i64 0)),.nil]
abbrev zz7:List V:=[.d (.lit (.string ⟨#[]⟩)),.nil]
def c81:Cd:=sq [ZB 2 51 0,ZB 3 51 1,oM 4 (.mv kF)] [2,3] (.seq (sq [ZF 6 0 2,ZL 7 1 6,ZF 8 0 3,ZL 9 1 8,Yn 10 7 9,oV 11 10,oH 12 11 (zF 1 2),oH 13 11 (zL 1 12),oH 14 11 (zF 1 3),oH 15 11 (zL 1 14),oH 16 11 (yn 13 15),ZP 17 11 16,oV 18 17,oH 19 18 (zF 2 2),oH 20 18 (zL 1 19),oH 21 18 (zF 2 3),oH 22 18 (zL 1 21),oH 23 18 (yn 20 22),ZP 24 18 23,oV 25 24,oH 26 25 (zF 3 2),oH 27 25 (zL 1 26),
 oH 28 25 (zN 27),oH 29 25 (zF 3 3),oH 30 25 (zL 1 29),oH 31 25 (zN 30),oH 32 25 (yn 28 31),ZP 33 25 32] [2,3,33] (.cond (.t 33) (sq [oM 4 (.mv kF)] [4] (.ret)) .skip)) (.seq (sq [oI 5 0] [2,3,5] (.block 0 (.loop (.seq (sq [oV 34 5,ZF 35 3 2,ZL 36 1 35,ZN 37 36,Yl 38 34 37] [2,3,5,38] (.cond (.t 38) .skip (.exit 0))) (.seq (.block 1 (.seq (.draw [ZF 41 3 2,ZL 42 1 41,oV 43 5,ZI 44 4 42 43,
 ZM 45 4 44,ZF 46 3 3,ZL 47 1 46,oV 48 5,ZI 49 4 47 48,ZM 50 4 49,ZD 51 81 45 50,ZU 52 51] [2,3,5,52]) (.cond (.t 52) (sq [oM 4 (.mv kF)] [4] .ret) .skip))) (.ops [oV 39 5,Wa 40 39 1,oV 5 40] [2,3,5])))))) (sq [oM 4 (.mv kT)] [4] .ret)))
def FC:List RV:=[.t 4 false]
theorem k81:bj G.tab Tryz.f81 2 c81 FC=true:=by kernel_rfl
def c88:Cd:=sq [oM 2 (.nilo 9 1)] [0] (sq [oI 3 0] [0,3] (.seq (sq [oV 9 0,ZN 10 9,oI 11 0] [0,3,9,10,11] (.block 0 (.loop (sq [Yl 12 11 10] [0,3,9,10,11,12] (.seq (.cond (.t 12) .skip (.exit 0)) (.seq (.block 1 (sq [ZI 13 1 9 11,ZL 14 1 13,oV 5 14] [0,3,5,9,10,11] (sq [oV 15 3,oV 16 5,ZN 17 16,Ya 18 15 17,oV 3 18] [0,3,9,10,11] (sq [oV 19 3,Wl 20 19 0] [0,3,9,10,11,
 20] (.cond (.t 20) (.ops [oM 21 (.mki 9 (kS ⟨#[108,101,110,32,111,117,116,32,111,102,32,114,97,110,103,101]⟩)),⟨none,.pan (.t 21),none⟩] [0,3,9,10,11]) .skip))))) (.ops [Wa 22 11 1,oV 11 22] [0,3,9,10,11]))))))) (sq [oV 23 3,oM 24 (.calln 115 [.k .nil,.t 23]),oM 6 (.mvo 24)] [0,6] (.seq (sq [oV 25 0,ZN 26 25,oI 27 0] [6,25,26,27] (.block 2 (.loop (sq [Yl 28 27 26] [6,25,26,27,
 28] (.seq (.cond (.t 28) .skip (.exit 2)) (.seq (.block 3 (sq [ZI 29 1 25 27,ZL 30 1 29,oV 8 30] [6,8,25,26,27] (.ops [oM 31 (.mvo 6),oV 32 8,oM 33 (.app 9 1 16 31 (.t 32)),oM 6 (.mvo 33)] [6,25,26,27]))) (.ops [Wa 34 27 1,oV 27 34] [6,25,26,27]))))))) (sq [oM 35 (.mvo 6),oM 2 (.mvo 35)] [2] .ret)))))
def Hu:List RV:=[.t 2 true]
theorem k88:bj G.tab Tryz.f88 1 c88 Hu=true:=by kernel_rfl
def FS:Cd:=sq [ZB 1 51 0,oM 2 (.mv (kS ⟨#[]⟩))] [1] (.seq (sq [ZM 3 4 1,ZC 4 89 3,Wn 5 4 0] [1,5] (.cond (.t 5) (sq [oM 2 (.mv (kS ⟨#[]⟩))] [2] .ret) .skip)) (sq [ZM 6 4 1,ZC 7 143 6,oV 2 7] [2] .ret))
def Gn:List RV:=[.t 2 false]
theorem Iw:bj G.tab Tryz.f121 1 FS Gn=true:=by kernel_rfl
def FJ:Cd:=sq [ZB 1 51 0,oM 2 (.mv (kS ⟨#[]⟩))] [1] (.seq (sq [ZF 11 0 1,ZL 12 1 11,ZC 13 156 12,oV 10 13,ZX 14 10 0,ZX 15 10 1,oM 3 (.new 167 zz0),oS 3 3 14,oV 4 15] [1,3,4] (sq [oV 16 4] [1,3,16] (.cond (.t 16) (.seq (.draw [ZF 17 2 3,ZL 18 1 17,ZF 19 2 3,ZL 20 1 19,Wa 21 20 1,oV 5 18,oV 6 21] [1,3,5,6]) (.seq (sq [ZF 22 2 3,ZL 23 1 22,We 24 23 2] [1,3,5,6,24] (.cond (.t 24) (.ops [oI 5 3,
 oI 6 2] [1,3,5,6]) (.skip))) (.seq (.draw [ZF 25 3 1,ZL 26 1 25,oM 27 (.ia 4 (.t 26) (kI 0)),ZM 28 4 27,oV 29 5,ZD 30 157 28 29,oM 31 (.bin .add (.t 30) (kS ⟨#[32]⟩)),ZF 32 0 3,ZL 33 1 32,Ya 34 31 33,oM 35 (.bin .add (.t 34) (kS ⟨#[32]⟩)),ZF 36 3 1,ZL 37 1 36,oM 38 (.ia 4 (.t 37) (kI 1)),ZM 39 4 38,oV 40 6,ZD 41 157 39 40,Ya 42 35 41,oV 2 42] [2]) .ret))) .skip))) (.seq (sq [ZF 43 0 1,ZL 44 1 43,
 ZC 45 158 44,oV 7 45] [1,7] (sq [oV 46 7,oM 47 (.bin .neq (.t 46) (kS ⟨#[]⟩))] [1,7,47] (.cond (.t 47) (sq [oV 48 7,ZF 49 3 1,ZL 50 1 49,oM 51 (.ia 4 (.t 50) (kI 0)),ZM 52 4 51,oM 53 (.call 157 [.t 52,.k (.d (.lit (.int .i64 13)))]),Ya 54 48 53,oV 2 54] [2] .ret) .skip))) (.seq (.seq (.ops [ZF 55 0 1,ZL 56 1 55] [1,56]) (.block 0 (sq [We 58 56 22,oV 57 58] [1,56,
 57] (.cond (.t 57) (.seq (.draw [ZF 59 3 1,ZL 60 1 59,oM 61 (.ia 4 (.t 60) (kI 0)),ZM 62 4 61,oM 63 (.call 157 [.t 62,.k (.d (.lit (.int .i64 2)))]),oM 64 (.bin .add (.t 63) (kS ⟨#[32,63,32]⟩)),ZF 65 3 1,ZL 66 1 65,oM 67 (.ia 4 (.t 66) (kI 1)),ZM 68 4 67,oM 69 (.call 157 [.t 68,.k (.d (.lit (.int .i64 1)))]),Ya 70 64 69,oM 71 (.bin .add (.t 70) (kS ⟨#[32,58,32]⟩)),ZF 72 3 1,ZL 73 1 72,
 oM 74 (.ia 4 (.t 73) (kI 2)),ZM 75 4 74,oM 76 (.call 157 [.t 75,.k (.d (.lit (.int .i64 1)))]),Ya 77 71 76,oV 2 77] [2]) .ret) (sq [We 79 56 23,oV 78 79] [1,56,78] (.cond (.t 78) (sq [oM 8 (.nilo 9 1)] [1,8] (.seq (sq [oI 9 1] [1,8,9] (.block 1 (.loop (.seq (sq [oV 80 9,Wa 81 80 1,ZF 82 3 1,ZL 83 1 82,ZN 84 83,Yl 85 81 84] [1,8,9,
 85] (.cond (.t 85) .skip (.exit 1))) (.seq (.block 2 (.drawb 8 88 105 9 1 16 (.t 104) [ZF 89 3 1,ZL 90 1 89,oV 91 9,ZI 92 4 90 91,ZM 93 4 92,ZC 94 143 93,oM 95 (.bin .add (.t 94) (kS ⟨#[32,46,46,32]⟩)),ZF 96 3 1,ZL 97 1 96,oV 98 9,Wa 99 98 1,ZI 100 4 97 99,ZM 101 4 100,ZC 102 143 101,Ya 103 95 102,oM 104 (.mks 9 1 [.t 103])] [1,8,9])) (.ops [oV 86 9,Wa 87 86 2,oV 9 87] [1,8,
 9])))))) (sq [ZF 106 3 1,ZL 107 1 106,oM 108 (.ia 4 (.t 107) (kI 0)),ZM 109 4 108,oM 110 (.call 157 [.t 109,.k (.d (.lit (.int .i64 9)))]),oM 111 (.bin .add (.t 110) (kS ⟨#[32,105,110,115,105,100,101,32,123,32]⟩)),oV 112 8,oM 113 (.call 24 [.t 112,.k (.d (.lit (.string ⟨#[44,32]⟩)))]),Ya 114 111 113,oM 115 (.bin .add (.t 114) (kS ⟨#[32,125]⟩)),oV 2 115] [2] .ret))) (sq [We 117 56 1,oV 116 117] [1,
 56,116] (.cond (.t 116) (sq [ZF 118 1 1,ZL 119 1 118,ZC 120 42 119,oV 2 120] [2] .ret) (sq [We 122 56 3,oV 121 122] [1,56,121] (.cond (.t 121) (.seq (.draw [ZF 123 2 1,ZL 124 1 123,oM 125 (.bin .add (.t 124) (kS ⟨#[91]⟩)),ZF 126 3 1,ZL 127 1 126,oM 128 (.ia 4 (.t 127) (kI 0)),ZM 129 4 128,ZC 130 143 129,Ya 131 125 130,oM 132 (.bin .add (.t 131) (kS ⟨#[93]⟩)),oV 2 132] [2]) .ret) (sq [We 134 56 24,
 oV 133 134] [1,56,133] (.cond (.t 133) (sq [ZF 135 2 1,ZL 136 1 135,oM 137 (.bin .add (kS ⟨#[115,117,109,40]⟩) (.t 136)),oM 138 (.bin .add (.t 137) (kS ⟨#[41]⟩)),oV 2 138] [2] .ret) (sq [We 140 56 25,oV 139 140] [1,139] (.cond (.t 139) (sq [ZF 141 3 1,ZL 142 1 141,oM 143 (.ia 4 (.t 142) (kI 0)),ZM 144 4 143,ZC 145 143 144,oM 146 (.bin .add (kS ⟨#[111,110,101,115,40]⟩) (.t 145)),
 oM 147 (.bin .add (.t 146) (kS ⟨#[41]⟩)),oV 2 147] [2] (.ret)) .skip)))))))))))))) (sq [ZF 148 2 1,ZL 149 1 148,ZC 150 159 149,oV 2 150] [2] .ret))))
def Gq:List RV:=[.t 2 false]
theorem H6:bj G.tab Tryz.f143 1 FJ Gq=true:=by kernel_rfl
def FA:Cd:=sq [ZB 2 51 0,oM 4 (.mv (kS ⟨#[]⟩))] [1,2] (.seq (sq [ZM 5 4 2,ZC 6 170 5,oV 7 1,Yl 8 6 7] [2,8] (.cond (.t 8) (sq [ZM 9 4 2,ZC 10 143 9,oM 11 (.bin .add (kS ⟨#[40]⟩) (.t 10)),oM 12 (.bin .add (.t 11) (kS ⟨#[41]⟩)),oV 4 12] [4] .ret) .skip)) (.seq (.ops [ZM 13 4 2,ZC 14 143 13,oV 4 14] [4]) .ret))
def FX:List RV:=[.t 4 false]
theorem Hl:bj G.tab Tryz.f157 2 FA FX=true:=by kernel_rfl
def FF:Cd:=sq [oM 2 (.new 167 zz0),oM 3 (.mv kF)] [0,2] (.seq (sq [oM 6 (.call 169 []),ZN 7 6,oI 8 0] [0,2,6,7,8] (.block 0 (.loop (sq [Yl 9 8 7] [0,2,6,7,8,9] (.seq (.cond (.t 9) .skip (.exit 0)) (.seq (.block 1 (sq [ZI 10 3 6 8,ZM 11 3 10,oM 5 (.new 167 zz0),oS 3 5 11] [0,2,5,6,7,8] (sq [ZF 12 1 5,ZL 13 1 12,oV 14 0,Ye 15 13 14] [0,2,5,6,7,8,15] (.cond (.t 15) (sq [ZM 16 3 5,oS 3 2 16,
 oM 3 (.mv kT)] [2,3] (.ret)) .skip)))) (.ops [Wa 17 8 1,oV 8 17] [0,2,6,7,8]))))))) (sq [oM 18 (.bld zz0 []),oS 3 2 18,oM 3 (.mv kF)] [2,3] .ret))
def zd:List RV:=[.c 2 3 true,.t 3 false]
theorem Iy:bj G.tab Tryz.f156 1 FF zd=true:=by kernel_rfl
def Fi:Cd:=sq [oM 2 (.mv (kS ⟨#[]⟩))] [0] (.seq (sq [oV 3 0] [3] (.block 0 (sq [We 5 3 4,oV 4 5] [3,4] (.cond (.t 4) (sq [oM 2 (.mv (kS ⟨#[33]⟩))] [2] (.ret)) (sq [We 7 3 5,oV 6 7] [3,6] (.cond (.t 6) (sq [oM 2 (.mv (kS ⟨#[126]⟩))] [2] .ret) (sq [We 9 3 6,oV 8 9] [8] (.cond (.t 8) (sq [oM 2 (.mv (kS ⟨#[45]⟩))] [2] .ret) .skip)))))))) (sq [oM 2 (.mv (kS ⟨#[]⟩))] [2] .ret))
def EZ:List RV:=[.t 2 false]
theorem Hs:bj G.tab Tryz.f158 1 Fi EZ=true:=by kernel_rfl
def Fn:Cd:=sq [oM 2 (.mv (kS ⟨#[]⟩))] [0] (.seq (sq [oV 4 0,oM 5 (.call 171 [.t 4,.k (.d (.lit (.int .u8 91)))]),oV 3 5] [0,3] (sq [oV 6 3,Wh 7 6 0] [0,3,7] (.cond (.t 7) (.seq (.draw [oV 8 0,oV 9 3,oM 10 (.sub true 0 (.t 8) none (some (.t 9))),oM 11 (.bin .add (.t 10) (kS ⟨#[64]⟩)),oV 12 0,oV 13 3,Wa 14 13 1,oM 15 (.sub true 0 (.t 12) (some (.t 14)) none),oM 16 (.call 145 [.t 15,
 .k (.d (.lit (.string ⟨#[93]⟩)))]),Ya 17 11 16,oV 2 17] [2]) .ret) .skip))) (sq [oV 18 0,oV 2 18] [2] .ret))
def FD:List RV:=[.t 2 false]
theorem Ir:bj G.tab Tryz.f159 1 Fn FD=true:=by kernel_rfl
def EU:Cd:=sq [oM 0 (.mv (.k .nil))] [] (sq [oM 1 (.bld zz0 [(0,1,.k (.d (.lit (.string ⟨#[61,62]⟩)))),(1,1,.k (.d (.lit (.int .i64 21)))),(2,1,.k (.d (.lit (.int .i64 2))))]),oM 2 (.bld zz0 [(0,1,.k (.d (.lit (.string ⟨#[124,124]⟩)))),(1,1,.k (.d (.lit (.int .i64 20)))),(2,1,.k (.d (.lit (.int .i64 3))))]),oM 3 (.bld zz0 [(0,1,.k (.d (.lit (.string ⟨#[38,38]⟩)))),(1,1,
 .k (.d (.lit (.int .i64 19)))),(2,1,.k (.d (.lit (.int .i64 4))))]),oM 4 (.bld zz0 [(0,1,.k (.d (.lit (.string ⟨#[124]⟩)))),(1,1,.k (.d (.lit (.int .i64 11)))),(2,1,.k (.d (.lit (.int .i64 5))))]),oM 5 (.bld zz0 [(0,1,.k (.d (.lit (.string ⟨#[94]⟩)))),(1,1,.k (.d (.lit (.int .i64 12)))),(2,1,.k (.d (.lit (.int .i64 6))))]),oM 6 (.bld zz0 [(0,1,.k (.d (.lit (.string ⟨#[38]⟩)))),(1,1,
 .k (.d (.lit (.int .i64 10)))),(2,1,.k (.d (.lit (.int .i64 7))))]),oM 7 (.bld zz0 [(0,1,.k (.d (.lit (.string ⟨#[61,61]⟩)))),(1,1,.k (.d (.lit (.int .i64 15)))),(2,1,.k (.d (.lit (.int .i64 8))))]),oM 8 (.bld zz0 [(0,1,.k (.d (.lit (.string ⟨#[33,61]⟩)))),(1,1,.k (.d (.lit (.int .i64 16)))),(2,1,.k (.d (.lit (.int .i64 8))))]),oM 9 (.bld zz0 [(0,1,.k (.d (.lit (.string ⟨#[60]⟩)))),(1,1,
 .k (.d (.lit (.int .i64 17)))),(2,1,.k (.d (.lit (.int .i64 9))))]),oM 10 (.bld zz0 [(0,1,.k (.d (.lit (.string ⟨#[60,61]⟩)))),(1,1,.k (.d (.lit (.int .i64 18)))),(2,1,.k (.d (.lit (.int .i64 9))))]),oM 11 (.bld zz0 [(0,1,.k (.d (.lit (.string ⟨#[60,60]⟩)))),(1,1,.k (.d (.lit (.int .i64 13)))),(2,1,.k (.d (.lit (.int .i64 10))))]),oM 12 (.bld zz0 [(0,1,.k (.d (.lit (.string ⟨#[62,62]⟩)))),(1,1,
 .k (.d (.lit (.int .i64 14)))),(2,1,.k (.d (.lit (.int .i64 10))))]),oM 13 (.bld zz0 [(0,1,.k (.d (.lit (.string ⟨#[43]⟩)))),(1,1,.k (.d (.lit (.int .i64 7)))),(2,1,.k (.d (.lit (.int .i64 11))))]),oM 14 (.bld zz0 [(0,1,.k (.d (.lit (.string ⟨#[45]⟩)))),(1,1,.k (.d (.lit (.int .i64 8)))),(2,1,.k (.d (.lit (.int .i64 11))))]),oM 15 (.bld zz0 [(0,1,.k (.d (.lit (.string ⟨#[42]⟩)))),(1,1,
 .k (.d (.lit (.int .i64 9)))),(2,1,.k (.d (.lit (.int .i64 12))))]),oM 16 (.mks 167 3 [.t 1,.t 2,.t 3,.t 4,.t 5,.t 6,.t 7,.t 8,.t 9,.t 10,.t 11,.t 12,.t 13,.t 14,.t 15]),oV 0 16] [0] .ret)
def Fj:List RV:=[.t 0 false]
theorem IG:bj G.tab Tryz.f169 0 EU Fj=true:=by kernel_rfl
def FE:Cd:=sq [ZB 1 51 0,oI 2 0] [1] (.seq (sq [ZF 6 0 1,ZL 7 1 6,ZC 8 156 7,oV 5 8,ZX 9 5 0,ZX 10 5 1,oM 3 (.new 167 zz0),oS 3 3 9,oV 4 10] [1,3,4] (sq [oV 11 4] [1,3,11] (.cond (.t 11) (sq [ZF 12 2 3,ZL 13 1 12,oV 2 13] [2] .ret) .skip))) (.seq (.block 0 (sq [ZF 15 0 1,ZL 16 1 15,We 17 16 22,oV 14 17] [1,14] (.cond (.t 14) (sq [oI 2 1] [2] .ret) (sq [ZF 19 0 1,ZL 20 1 19,We 21 20 23,
 oV 18 21] [1,18] (.cond (.t 18) (sq [oI 2 9] [2] .ret) (sq [ZF 23 0 1,ZL 24 1 23,ZC 25 158 24,oM 26 (.bin .neq (.t 25) (kS ⟨#[]⟩)),oV 22 26] [22] (.cond (.t 22) (sq [oI 2 13] [2] .ret) .skip))))))) (sq [oI 2 14] [2] .ret)))
def Fs:List RV:=[.t 2 false]
theorem Is:bj G.tab Tryz.f170 1 FE Fs=true:=by kernel_rfl
def c42:Cd:=sq [oM 2 (.mv (kS ⟨#[]⟩))] [0] (sq [oV 3 0,ZC 4 61 3,oV 2 4] [2] .ret)
def HG:List RV:=[.t 2 false]
theorem k42:bj G.tab Tryz.f42 1 c42 HG=true:=by kernel_rfl
def GF:Cd:=sq [oM 4 (.mv (kS ⟨#[]⟩))] [0,1] (sq [oV 5 0,oV 6 1,ZD 7 161 5 6,oV 4 7] [4] .ret)
def FQ:List RV:=[.t 4 false]
theorem GX:bj G.tab Tryz.f145 2 GF FQ=true:=by kernel_rfl
def Fv:Cd:=sq [oM 4 (.mv (kS ⟨#[]⟩))] [0,1] (.seq (sq [oV 5 0,oV 6 1,ZD 7 173 5 6] [0,1,7] (.cond (.t 7) (sq [oV 8 0,oV 9 0,oM 10 (.len true (.t 9)),oV 11 1,oM 12 (.len true (.t 11)),Ys 13 10 12,oM 14 (.sub true 0 (.t 8) none (some (.t 13))),oV 4 14] [4] .ret) .skip)) (sq [oV 15 0,oV 4 15] [4] .ret))
def FR:List RV:=[.t 4 false]
theorem Hn:bj G.tab Tryz.f161 2 Fv FR=true:=by kernel_rfl
def FY:Cd:=sq [oM 4 (.mv kF)] [0,1] (sq [oV 5 0,oM 6 (.len true (.t 5)),oV 7 1,oM 8 (.len true (.t 7)),Yh 9 6 8,oV 10 9,oG 11 10 (.mv (.t 0)),oG 12 10 (.mv (.t 0)),oG 13 10 (.len true (.t 12)),oG 14 10 (.mv (.t 1)),oG 15 10 (.len true (.t 14)),oG 16 10 (ys 13 15),oG 17 10 (.sub true 0 (.t 11) (some (.t 16)) none),oG 18 10 (.mv (.t 1)),oG 19 10 (ye 17 18),ZQ 20 10 19,oV 4 20] [4] .ret)
def FV:List RV:=[.t 4 false]
theorem Hg:bj G.tab Tryz.f173 2 FY FV=true:=by kernel_rfl
end Go.Proofs.YtcbahpllcfbkmaaGreatDoor
