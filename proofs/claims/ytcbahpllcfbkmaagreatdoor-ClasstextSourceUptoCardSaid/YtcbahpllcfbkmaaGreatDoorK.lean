import Derived.Test.YtcbahpllcfbkmaaGreatDoorProg
import Derived.Test.YtcbahpllcfbkmaaGreatDoorA20
import Derived.KernelRfl
import Derived.Lib.ItoaNum
import Derived.Lib.LaidTab
import Derived.Test.YtcbahpllcfbkmaaGreatDoorNames
namespace Go.Proofs.YtcbahpllcfbkmaaGreatDoor
open Go.RowKit
set_option maxRecDepth 100000
set_option linter.unusedVariables false
set_option linter.unusedSimpArgs false
noncomputable def G:Cx:=cxk Tryz.prog (fun g=>if g=1 then some [.sl (cE.map fun s=>[.lit (.string s)])]else none) (fun g=>if g=2 then some (fun cs=>cs=(Lib.pow10Tab.map fun z=>Value.int .u64 z).toArray)else none) (by kernel_rfl)
abbrev oM(n:Nat)(o:OP):O:=⟨some n,o,none⟩
abbrev oV(n t:Nat):O:=⟨some n,.mv (.t t),none⟩
abbrev kI(z:Int):X:=.k (.d (.lit (.int .i64 z)))
abbrev kS(s:ByteArray):X:=.k (.d (.lit (.string s)))
abbrev kT:X:=.k (.d (.lit (.bool true)))
abbrev kF:X:=.k (.d (.lit (.bool false)))
abbrev oI(n:Nat)(z:Int):O:=oM n (.mv (kI z))
abbrev oG(n g:Nat)(o:OP):O:=⟨some n,o,some (g,true)⟩
abbrev oH(n g:Nat)(o:OP):O:=⟨some n,o,some (g,false)⟩
abbrev oS(k a b:Nat):O:=⟨none,.sto k (.t a) (.t b),none⟩
abbrev sq(l:List O)(m:List Nat)(c:Cd):Cd:=.seq (.ops l m) c
abbrev zL(k a:Nat):OP:=.load k false (.t a)
abbrev zM(k a:Nat):OP:=.load k true (.t a)
abbrev zF(k a:Nat):OP:=.fa k (.t a)
abbrev zI(k a b:Nat):OP:=.ia k (.t a) (.t b)
abbrev zP(a b:Nat):OP:=.pick (.t a) kT (.t b)
abbrev zQ(a b:Nat):OP:=.pick (.t a) (.t b) kF
abbrev zB(k a:Nat):OP:=.box k (.t a)
abbrev zN(a:Nat):OP:=.len false (.t a)
abbrev zU(a:Nat):OP:=.un .not (.t a)
abbrev zX(a k:Nat):OP:=.ext (.t a) k
abbrev zC(f a:Nat):OP:=.call f [.t a]
abbrev zD(f a b:Nat):OP:=.call f [.t a,.t b]
abbrev zE(f a b c:Nat):OP:=.call f [.t a,.t b,.t c]
abbrev zK(a:Nat):OP:=.nilck (.t a)
abbrev ye(a b:Nat):OP:=.bin .eql (.t a) (.t b)
abbrev we(a:Nat)(z:Int):OP:=.bin .eql (.t a) (kI z)
abbrev yn(a b:Nat):OP:=.bin .neq (.t a) (.t b)
abbrev wn(a:Nat)(z:Int):OP:=.bin .neq (.t a) (kI z)
abbrev ya(a b:Nat):OP:=.bin .add (.t a) (.t b)
abbrev wa(a:Nat)(z:Int):OP:=.bin .add (.t a) (kI z)
abbrev ys(a b:Nat):OP:=.bin .sub (.t a) (.t b)
abbrev ws(a:Nat)(z:Int):OP:=.bin .sub (.t a) (kI z)
abbrev yl(a b:Nat):OP:=.bin .lss (.t a) (.t b)
abbrev wl(a:Nat)(z:Int):OP:=.bin .lss (.t a) (kI z)
abbrev yg(a b:Nat):OP:=.bin .gtr (.t a) (.t b)
abbrev wg(a:Nat)(z:Int):OP:=.bin .gtr (.t a) (kI z)
abbrev yh(a b:Nat):OP:=.bin .geq (.t a) (.t b)
abbrev wh(a:Nat)(z:Int):OP:=.bin .geq (.t a) (kI z)
abbrev ZL(n k a:Nat):O:=oM n (zL k a)
abbrev ZM(n k a:Nat):O:=oM n (zM k a)
abbrev ZF(n k a:Nat):O:=oM n (zF k a)
abbrev ZI(n k a b:Nat):O:=oM n (zI k a b)
abbrev ZP(n a b:Nat):O:=oM n (zP a b)
abbrev ZQ(n a b:Nat):O:=oM n (zQ a b)
abbrev ZB(n k a:Nat):O:=oM n (zB k a)
abbrev ZN(n a:Nat):O:=oM n (zN a)
abbrev ZU(n a:Nat):O:=oM n (zU a)
abbrev ZX(n a k:Nat):O:=oM n (zX a k)
abbrev ZC(n f a:Nat):O:=oM n (zC f a)
abbrev ZD(n f a b:Nat):O:=oM n (zD f a b)
abbrev ZE(n f a b c:Nat):O:=oM n (zE f a b c)
abbrev ZK(n a:Nat):O:=oM n (zK a)
abbrev Ye(n a b:Nat):O:=oM n (ye a b)
abbrev We(n a:Nat)(z:Int):O:=oM n (we a z)
abbrev Yn(n a b:Nat):O:=oM n (yn a b)
abbrev Wn(n a:Nat)(z:Int):O:=oM n (wn a z)
abbrev Ya(n a b:Nat):O:=oM n (ya a b)
abbrev Wa(n a:Nat)(z:Int):O:=oM n (wa a z)
abbrev Ys(n a b:Nat):O:=oM n (ys a b)
abbrev Ws(n a:Nat)(z:Int):O:=oM n (ws a z)
abbrev Yl(n a b:Nat):O:=oM n (yl a b)
abbrev Wl(n a:Nat)(z:Int):O:=oM n (wl a z)
abbrev Wg(n a:Nat)(z:Int):O:=oM n (wg a z)
abbrev Yh(n a b:Nat):O:=oM n (yh a b)
abbrev Wh(n a:Nat)(z:Int):O:=oM n (wh a z)
abbrev zz0:List V:=[.d (.lit (.string ⟨#[]⟩)),.d (.lit (.int .i64 0)),.d (.lit (.int .i64 0))]
abbrev zz1:List V:=[.d (.lit (.bool false)),.d (.lit (.bool false)),.d (.lit (.bool false)),.d (.lit (.bool false)),.d (.lit (.bool false)),.d (.lit (.bool false)),.d (.lit (.bool false))]
abbrev zz2:List V:=[.d (.lit (.int .i64 0)),.d (.lit (.int .i64 0)),.d (.lit (.int .i64 0)),.d (.lit (.string ⟨#[]⟩)),.nil,.d (.lit (.string ⟨#[]⟩)),.d (.lit (.string ⟨#[]⟩)),.nil,.nil,.nil,.nil,.nil]
abbrev zz3:List V:=[.d (.lit (.int .i64 0)),.d (.lit (.int .i64 0)),.d (.lit (.int .i64 0)),.d (.lit (.bool false))]
abbrev zz4:List V:=[.d (.lit (.int .i64 0)),.d (.lit (.int .i64 0)),.d (.lit (.string ⟨#[]⟩)),.nil]
abbrev zz5:List V:=[.d (.lit (.string ⟨#[]⟩)),.d (.lit (.int .i64 0)),.d (.lit (.int .i64 0)),.d (.lit (.int .i64 0)),.d (.lit (.int .i64 0))]
abbrev zz6:List V:=[.d (.lit (.string ⟨#[]⟩)),.d (.lit (.string ⟨#[]⟩)),.nil,.nil]
abbrev zz7:List V:=[.d (.lit (.int .i64 0)),.nil]
abbrev zz8:List V:=[.d (.lit (.string ⟨#[]⟩)),.nil]
def c51:Cd:=sq [oM 2 (.mv kF)] [0] (.seq (sq [oV 4 0,oM 5 (.bin .eql (.t 4) (kS ⟨#[]⟩)),oV 6 5,oH 7 6 (.mv (.t 0)),oH 8 6 (.len true (.t 7)),oH 9 6 (wg 8 16),ZP 10 6 9,oV 11 10,oH 12 11 (.mv (.t 0)),oH 13 11 (.ix (.t 12) (kI 0)),oH 14 11 (zC 78 13),oH 15 11 (zU 14),ZP 16 11 15,oV 17 16,oH 18 17 (.mv (.t 0)),oH 19 17 (zC 79 18),ZP 20 17 19] [0,
 20] (.cond (.t 20) (sq [oM 2 (.mv kF)] [2] .ret) .skip)) (.seq (sq [oI 3 0] [0,3] (.block 0 (.loop (.seq (sq [oV 21 3,oV 22 0,oM 23 (.len true (.t 22)),Yl 24 21 23] [0,3,24] (.cond (.t 24) .skip (.exit 0))) (.seq (.block 1 (sq [oV 27 0,oV 28 3,oM 29 (.ix (.t 27) (.t 28)),ZC 30 80 29,ZU 31 30] [0,3,31] (.cond (.t 31) (sq [oM 2 (.mv kF)] [2] .ret) .skip))) (.ops [oV 25 3,Wa 26 25 1,oV 3 26] [0,
 3])))))) (sq [oM 2 (.mv kT)] [2] .ret)))
def EJ:List RV:=[.t 2 false]
theorem k51:a6 G.tab Tryz.f51 1 c51 EJ=true:=by kernel_rfl
def c79:Cd:=sq [oM 2 (.mv kF)] [0] (sq [oM 3 (.call 112 []),oV 4 0,ZD 5 111 3 4,oV 2 5] [2] .ret)
def ES:List RV:=[.t 2 false]
theorem k79:a6 G.tab Tryz.f79 1 c79 ES=true:=by kernel_rfl
def c78:Cd:=sq [oM 2 (.mv kF)] [0] (sq [oV 3 0,oM 4 (.bin .geq (.t 3) (.k (.d (.lit (.int .u8 97))))),oV 5 4,oG 6 5 (.mv (.t 0)),oG 7 5 (.bin .leq (.t 6) (.k (.d (.lit (.int .u8 122))))),ZQ 8 5 7,oV 2 8] [2] .ret)
def Fx:List RV:=[.t 2 false]
theorem k78:a6 G.tab Tryz.f78 1 c78 Fx=true:=by kernel_rfl
def c80:Cd:=sq [oM 2 (.mv kF)] [0] (sq [oV 3 0,ZC 4 78 3,oV 5 4,oH 6 5 (.mv (.t 0)),oH 7 5 (zC 113 6),ZP 8 5 7,oV 9 8,oH 10 9 (.mv (.t 0)),oH 11 9 (.bin .geq (.t 10) (.k (.d (.lit (.int .u8 65))))),oH 12 9 (.mv (.t 11)),oG 13 12 (.mv (.t 0)),oG 14 12 (.bin .leq (.t 13) (.k (.d (.lit (.int .u8 90))))),oH 15 9 (zQ 12 14),ZP 16 9 15,oV 17 16,oH 18 17 (.mv (.t 0)),
 oH 19 17 (.bin .eql (.t 18) (.k (.d (.lit (.int .u8 95))))),ZP 20 17 19,oV 2 20] [2] .ret)
def EL:List RV:=[.t 2 false]
theorem k80:a6 G.tab Tryz.f80 1 c80 EL=true:=by kernel_rfl
def Dt:Cd:=sq [oM 2 (.mv kF)] [0] (sq [oV 3 0,oM 4 (.bin .geq (.t 3) (.k (.d (.lit (.int .u8 48))))),oV 5 4,oG 6 5 (.mv (.t 0)),oG 7 5 (.bin .leq (.t 6) (.k (.d (.lit (.int .u8 57))))),ZQ 8 5 7,oV 2 8] [2] .ret)
def Dl:List RV:=[.t 2 false]
theorem EW:a6 G.tab Tryz.f113 1 Dt Dl=true:=by kernel_rfl
def CG:Cd:=sq [oM 4 (.mv kF)] [0,1] (.seq (sq [oI 5 0] [0,1,5] (.block 0 (.loop (.seq (sq [oV 6 5,oV 7 0,ZN 8 7,Yl 9 6 8] [0,1,5,9] (.cond (.t 9) .skip (.exit 0))) (.seq (.block 1 (sq [oV 12 0,oV 13 5,ZI 14 1 12 13,ZL 15 1 14,oV 16 1,Ye 17 15 16] [0,1,5,17] (.cond (.t 17) (sq [oM 4 (.mv kT)] [4] .ret) .skip))) (.ops [oV 10 5,Wa 11 10 1,oV 5 11] [0,1,5])))))) (sq [oM 4 (.mv kF)] [4] .ret))
def B9:List RV:=[.t 4 false]
theorem EX:a6 G.tab Tryz.f111 2 CG B9=true:=by kernel_rfl
def BV:Cd:=sq [oM 0 (.mv (.k .nil))] [] (sq [oM 1 (.mks 9 1 [.k (.d (.lit (.string ⟨#[99,108,97,115,115]⟩))),.k (.d (.lit (.string ⟨#[101,120,116,101,110,100,115]⟩))),.k (.d (.lit (.string ⟨#[114,97,110,100]⟩))),.k (.d (.lit (.string ⟨#[114,97,110,100,99]⟩))),.k (.d (.lit (.string ⟨#[115,116,97,116,101]⟩))),.k (.d (.lit (.string ⟨#[99,111,110,115,116,114,97,105,110,116]⟩))),
 .k (.d (.lit (.string ⟨#[115,111,102,116]⟩))),.k (.d (.lit (.string ⟨#[100,105,115,116]⟩))),.k (.d (.lit (.string ⟨#[105,102]⟩))),.k (.d (.lit (.string ⟨#[101,108,115,101]⟩))),.k (.d (.lit (.string ⟨#[101,97,99,104]⟩))),.k (.d (.lit (.string ⟨#[105,110]⟩))),.k (.d (.lit (.string ⟨#[115,111,108,118,101]⟩))),.k (.d (.lit (.string ⟨#[98,101,102,111,114,101]⟩))),.k (.d (.lit (.string ⟨#[105,110,115,
 105,100,101]⟩))),.k (.d (.lit (.string ⟨#[112,114,111,112,101,114,116,121]⟩))),.k (.d (.lit (.string ⟨#[115,101,113]⟩))),.k (.d (.lit (.string ⟨#[97,110,100]⟩))),.k (.d (.lit (.string ⟨#[111,114]⟩))),.k (.d (.lit (.string ⟨#[110,111,116]⟩))),.k (.d (.lit (.string ⟨#[115,101,116]⟩))),.k (.d (.lit (.string ⟨#[104,111,108,100]⟩))),.k (.d (.lit (.string ⟨#[112,108,97,105,110]⟩))),
 .k (.d (.lit (.string ⟨#[114,101,112,101,97,116]⟩)))]),oV 0 1] [0] .ret)
def Ct:List RV:=[.t 0 false]
theorem Fo:a6 G.tab Tryz.f112 0 BV Ct=true:=by kernel_rfl
def c81:Cd:=sq [ZB 2 51 0,ZB 3 51 1,oM 4 (.mv kF)] [2,3] (.seq (sq [ZF 6 0 2,ZL 7 1 6,ZF 8 0 3,ZL 9 1 8,Yn 10 7 9,oV 11 10,oH 12 11 (zF 1 2),oH 13 11 (zL 1 12),oH 14 11 (zF 1 3),oH 15 11 (zL 1 14),oH 16 11 (yn 13 15),ZP 17 11 16,oV 18 17,oH 19 18 (zF 2 2),oH 20 18 (zL 1 19),oH 21 18 (zF 2 3),oH 22 18 (zL 1 21),oH 23 18 (yn 20 22),ZP 24 18 23,oV 25 24,oH 26 25 (zF 3 2),oH 27 25 (zL 1 26),
 oH 28 25 (zN 27),oH 29 25 (zF 3 3),oH 30 25 (zL 1 29),oH 31 25 (zN 30),oH 32 25 (yn 28 31),ZP 33 25 32] [2,3,33] (.cond (.t 33) (sq [oM 4 (.mv kF)] [4] (.ret)) .skip)) (.seq (sq [oI 5 0] [2,3,5] (.block 0 (.loop (.seq (sq [oV 34 5,ZF 35 3 2,ZL 36 1 35,ZN 37 36,Yl 38 34 37] [2,3,5,38] (.cond (.t 38) .skip (.exit 0))) (.seq (.block 1 (.seq (.draw [ZF 41 3 2,ZL 42 1 41,oV 43 5,ZI 44 4 42 43,
 ZM 45 4 44,ZF 46 3 3,ZL 47 1 46,oV 48 5,ZI 49 4 47 48,ZM 50 4 49,ZD 51 81 45 50,ZU 52 51] [2,3,5,52]) (.cond (.t 52) (sq [oM 4 (.mv kF)] [4] .ret) .skip))) (.ops [oV 39 5,Wa 40 39 1,oV 5 40] [2,3,5])))))) (sq [oM 4 (.mv kT)] [4] .ret)))
def Dm:List RV:=[.t 4 false]
theorem k81:a6 G.tab Tryz.f81 2 c81 Dm=true:=by kernel_rfl
def AC:Cd:=sq [oM 2 (.mv (kS ⟨#[]⟩)),oI 3 0,oM 4 (.mv kF)] [0] (.seq (sq [oV 7 0,oM 8 (.len true (.t 7)),Wl 9 8 4,oV 10 9,oH 11 10 (.mv (.t 0)),oH 12 10 (.mv (.t 0)),oH 13 10 (.len true (.t 12)),oH 14 10 (ws 13 1),oH 15 10 (.ix (.t 11) (.t 14)),oH 16 10 (.bin .neq (.t 15) (.k (.d (.lit (.int .u8 93))))),ZP 17 10 16,oV 18 17,oH 19 18 (.mv (.t 0)),oH 20 18 (.mv (.t 0)),
 oH 21 18 (.len true (.t 20)),oH 22 18 (ws 21 3),oH 23 18 (.ix (.t 19) (.t 22)),oH 24 18 (.bin .neq (.t 23) (.k (.d (.lit (.int .u8 91))))),ZP 25 18 24] [0,25] (.cond (.t 25) (sq [oM 2 (.mv (kS ⟨#[]⟩)),oI 3 0,oM 4 (.mv kF)] [2,3,4] .ret) .skip)) (sq [oV 26 0,oV 27 0,oM 28 (.len true (.t 27)),Ws 29 28 2,oM 30 (.ix (.t 26) (.t 29)),oM 31 (.conv .i64 (.t 30)),Ws 32 31 48,oV 5 32] [0,5] (sq [oV 33 0,
 oV 34 0,oM 35 (.len true (.t 34)),Ws 36 35 3,oM 37 (.sub true 0 (.t 33) none (some (.t 36))),oV 6 37] [5,6] (.seq (sq [oV 38 5,Wl 39 38 0,oV 40 39,oH 41 40 (.mv (.t 5)),oH 42 40 (wh 41 8),ZP 43 40 42,oV 44 43,oH 45 44 (.mv (.t 6)),oH 46 44 (zC 51 45),oH 47 44 (zU 46),ZP 48 44 47] [5,6,48] (.cond (.t 48) (sq [oM 2 (.mv (kS ⟨#[]⟩)),oI 3 0,oM 4 (.mv kF)] [2,3,4] .ret) .skip)) (sq [oV 49 6,oV 50 5,
 oV 2 49,oV 3 50,oM 4 (.mv kT)] [2,3,4] .ret)))))
def Co:List RV:=[.t 2 false,.t 3 false,.t 4 false]
theorem CL:a6 G.tab Tryz.f137 1 AC Co=true:=by kernel_rfl
def c88:Cd:=sq [oM 2 (.nilo 9 1)] [0] (sq [oI 3 0] [0,3] (.seq (sq [oV 9 0,ZN 10 9,oI 11 0] [0,3,9,10,11] (.block 0 (.loop (sq [Yl 12 11 10] [0,3,9,10,11,12] (.seq (.cond (.t 12) .skip (.exit 0)) (.seq (.block 1 (sq [ZI 13 1 9 11,ZL 14 1 13,oV 5 14] [0,3,5,9,10,11] (sq [oV 15 3,oV 16 5,ZN 17 16,Ya 18 15 17,oV 3 18] [0,3,9,10,11] (sq [oV 19 3,Wl 20 19 0] [0,3,9,10,11,
 20] (.cond (.t 20) (.ops [oM 21 (.mki 9 (kS ⟨#[108,101,110,32,111,117,116,32,111,102,32,114,97,110,103,101]⟩)),⟨none,.pan (.t 21),none⟩] [0,3,9,10,11]) .skip))))) (.ops [Wa 22 11 1,oV 11 22] [0,3,9,10,11]))))))) (sq [oV 23 3,oM 24 (.calln 115 [.k .nil,.t 23]),oM 6 (.mvo 24)] [0,6] (.seq (sq [oV 25 0,ZN 26 25,oI 27 0] [6,25,26,27] (.block 2 (.loop (sq [Yl 28 27 26] [6,25,26,27,
 28] (.seq (.cond (.t 28) .skip (.exit 2)) (.seq (.block 3 (sq [ZI 29 1 25 27,ZL 30 1 29,oV 8 30] [6,8,25,26,27] (.ops [oM 31 (.mvo 6),oV 32 8,oM 33 (.app 9 1 16 31 (.t 32)),oM 6 (.mvo 33)] [6,25,26,27]))) (.ops [Wa 34 27 1,oV 27 34] [6,25,26,27]))))))) (sq [oM 35 (.mvo 6),oM 2 (.mvo 35)] [2] .ret)))))
def FG:List RV:=[.t 2 true]
theorem k88:a6 G.tab Tryz.f88 1 c88 FG=true:=by kernel_rfl
def c77:Cd:=sq [ZB 1 51 0,oM 2 (.mv (kS ⟨#[]⟩))] [1] (.seq (sq [ZM 3 4 1,ZC 4 99 3,Wn 5 4 0] [1,5] (.cond (.t 5) (sq [oM 2 (.mv (kS ⟨#[]⟩))] [2] .ret) .skip)) (sq [ZM 6 4 1,ZC 7 110 6,oV 2 7] [2] .ret))
def En:List RV:=[.t 2 false]
theorem k77:a6 G.tab Tryz.f77 1 c77 En=true:=by kernel_rfl
def CP:Cd:=sq [ZB 1 51 0,oM 2 (.mv (kS ⟨#[]⟩))] [1] (sq [ZF 11 0 1,ZL 12 1 11,ZC 13 134 12,oV 10 13,ZX 14 10 0,ZX 15 10 1,oV 3 14,oV 4 15] [1,3,4] (.seq (sq [oV 16 4,Wg 17 16 0] [1,3,4,17] (.cond (.t 17) (.seq (.draw [ZF 18 3 1,ZL 19 1 18,oM 20 (.ia 4 (.t 19) (kI 0)),ZM 21 4 20,oV 22 4,ZD 23 135 21 22,oM 24 (.bin .add (.t 23) (kS ⟨#[32]⟩)),oV 25 3,Ya 26 24 25,
 oM 27 (.bin .add (.t 26) (kS ⟨#[32]⟩)),ZF 28 3 1,ZL 29 1 28,oM 30 (.ia 4 (.t 29) (kI 1)),ZM 31 4 30,oV 32 4,Wa 33 32 1,ZD 34 135 31 33,Ya 35 27 34,oV 2 35] [2]) .ret) .skip)) (.seq (sq [ZF 36 0 1,ZL 37 1 36,ZC 38 136 37,oM 39 (.bin .neq (.t 38) (kS ⟨#[]⟩))] [1,39] (.cond (.t 39) (.seq (.draw [ZF 40 0 1,ZL 41 1 40,ZC 42 136 41,ZF 43 3 1,ZL 44 1 43,oM 45 (.ia 4 (.t 44) (kI 0)),ZM 46 4 45,
 oM 47 (.call 135 [.t 46,.k (.d (.lit (.int .i64 13)))]),Ya 48 42 47,oV 2 48] [2]) .ret) .skip)) (.seq (sq [ZF 49 0 1,ZL 50 1 49] [1,50] (.block 0 (sq [We 52 50 22,oV 51 52] [1,50,51] (.cond (.t 51) (.seq (.draw [ZF 53 3 1,ZL 54 1 53,oM 55 (.ia 4 (.t 54) (kI 0)),ZM 56 4 55,oM 57 (.call 135 [.t 56,.k (.d (.lit (.int .i64 2)))]),oM 58 (.bin .add (.t 57) (kS ⟨#[32,63,32]⟩)),ZF 59 3 1,ZL 60 1 59,
 oM 61 (.ia 4 (.t 60) (kI 1)),ZM 62 4 61,oM 63 (.call 135 [.t 62,.k (.d (.lit (.int .i64 1)))]),Ya 64 58 63,oM 65 (.bin .add (.t 64) (kS ⟨#[32,58,32]⟩)),ZF 66 3 1,ZL 67 1 66,oM 68 (.ia 4 (.t 67) (kI 2)),ZM 69 4 68,oM 70 (.call 135 [.t 69,.k (.d (.lit (.int .i64 1)))]),Ya 71 65 70,oV 2 71] [2]) .ret) (sq [We 73 50 21,oV 72 73] [1,50,72] (.cond (.t 72) (.seq (.draw [ZF 74 3 1,ZL 75 1 74,
 oM 76 (.ia 4 (.t 75) (kI 0)),ZM 77 4 76,oM 78 (.call 135 [.t 77,.k (.d (.lit (.int .i64 3)))]),oM 79 (.bin .add (.t 78) (kS ⟨#[32,61,62,32]⟩)),ZF 80 3 1,ZL 81 1 80,oM 82 (.ia 4 (.t 81) (kI 1)),ZM 83 4 82,oM 84 (.call 135 [.t 83,.k (.d (.lit (.int .i64 2)))]),Ya 85 79 84,oV 2 85] [2]) .ret) (sq [We 87 50 23,oV 86 87] [1,50,86] (.cond (.t 86) (sq [ZF 88 3 1,ZL 89 1 88,oM 90 (.ia 4 (.t 89) (kI 0)),
 ZM 91 4 90,oM 92 (.call 135 [.t 91,.k (.d (.lit (.int .i64 9)))]),oM 93 (.bin .add (.t 92) (kS ⟨#[32,105,110,115,105,100,101,32,123,32]⟩)),oV 5 93] [1,5] (.seq (.seq (.ops [oI 6 1] [1,5,6]) (.block 1 (.loop (.seq (sq [oV 94 6,Wa 95 94 1,ZF 96 3 1,ZL 97 1 96,ZN 98 97,Yl 99 95 98] [1,5,6,99] (.cond (.t 99) .skip (.exit 1))) (.seq (.block 2 (.seq (sq [oV 102 6,Wg 103 102 1] [1,5,6,
 103] (.cond (.t 103) (.ops [oV 104 5,oM 105 (.bin .add (.t 104) (kS ⟨#[44,32]⟩)),oV 5 105] [1,5,6]) .skip)) (.draw [oV 106 5,ZF 107 3 1,ZL 108 1 107,oV 109 6,ZI 110 4 108 109,ZM 111 4 110,oM 112 (.call 135 [.t 111,.k (.d (.lit (.int .i64 1)))]),Ya 113 106 112,oM 114 (.bin .add (.t 113) (kS ⟨#[32,46,46,32]⟩)),ZF 115 3 1,ZL 116 1 115,oV 117 6,Wa 118 117 1,ZI 119 4 116 118,ZM 120 4 119,
 oM 121 (.call 135 [.t 120,.k (.d (.lit (.int .i64 1)))]),Ya 122 114 121,oV 5 122] [1,5,6]))) (.ops [oV 100 6,Wa 101 100 2,oV 6 101] [1,5,6])))))) (sq [oV 123 5,oM 124 (.bin .add (.t 123) (kS ⟨#[32,125]⟩)),oV 2 124] [2] .ret))) (sq [We 126 50 3,oV 125 126] [1,50,125] (.cond (.t 125) (.seq (.draw [ZF 127 2 1,ZL 128 1 127,oM 129 (.bin .add (.t 128) (kS ⟨#[91]⟩)),ZF 130 3 1,ZL 131 1 130,
 oM 132 (.ia 4 (.t 131) (kI 0)),ZM 133 4 132,oM 134 (.call 135 [.t 133,.k (.d (.lit (.int .i64 1)))]),Ya 135 129 134,oM 136 (.bin .add (.t 135) (kS ⟨#[93]⟩)),oV 2 136] [2]) .ret) (.seq (.ops [We 138 50 24,oV 137 138] [1,50,137]) (.cond (.t 137) (sq [ZF 139 2 1,ZL 140 1 139,oM 141 (.bin .add (kS ⟨#[115,117,109,40]⟩) (.t 140)),oM 142 (.bin .add (.t 141) (kS ⟨#[41]⟩)),
 oV 2 142] [2] .ret) (sq [We 144 50 25,oV 143 144] [1,50,143] (.cond (.t 143) (sq [ZF 145 3 1,ZL 146 1 145,oM 147 (.ia 4 (.t 146) (kI 0)),ZM 148 4 147,oM 149 (.call 135 [.t 148,.k (.d (.lit (.int .i64 1)))]),oM 150 (.bin .add (kS ⟨#[111,110,101,115,40]⟩) (.t 149)),oM 151 (.bin .add (.t 150) (kS ⟨#[41]⟩)),oV 2 151] [2] .ret) (sq [We 153 50 2,oV 152 153] [1,152] (.cond (.t 152) (sq [ZF 155 2 1,
 ZL 156 1 155,ZC 157 137 156,oV 154 157,ZX 158 154 0,ZX 159 154 1,ZX 160 154 2,oV 7 158,oV 8 159,oV 9 160] [1,7,8,9] (.seq (sq [oV 161 9] [1,7,8,161] (.cond (.t 161) (.seq (.ops [oV 162 7,oM 163 (.bin .add (.t 162) (kS ⟨#[64]⟩)),oV 164 8,ZC 165 138 164,Ya 166 163 165,oV 2 166] [2]) .ret) .skip)) (sq [ZF 167 2 1,ZL 168 1 167,oV 2 168] [2] .ret))) .skip)))))))))))))))) (sq [ZF 169 1 1,ZL 170 1 169,
 ZC 171 138 170,oV 2 171] [2] .ret)))))
def Dc:List RV:=[.t 2 false]
theorem EP:a6 G.tab Tryz.f110 1 CP Dc=true:=by kernel_rfl
def DF:Cd:=sq [ZB 2 51 0,oM 4 (.mv (kS ⟨#[]⟩))] [1,2] (sq [ZM 6 4 2,ZC 7 110 6,oV 5 7] [1,2,5] (.seq (sq [ZF 8 0 2,ZL 9 1 8,ZC 10 153 9,oV 11 1,Yl 12 10 11] [5,12] (.cond (.t 12) (sq [oV 13 5,oM 14 (.bin .add (kS ⟨#[40]⟩) (.t 13)),oM 15 (.bin .add (.t 14) (kS ⟨#[41]⟩)),oV 4 15] [4] .ret) .skip)) (sq [oV 16 5,oV 4 16] [4] .ret)))
def DL:List RV:=[.t 4 false]
theorem D6:a6 G.tab Tryz.f135 2 DF DL=true:=by kernel_rfl
def BK:Cd:=sq [oM 2 (.mv (kS ⟨#[]⟩)),oI 3 0] [0] (.seq (sq [oV 4 0] [4] (.block 0 (sq [We 6 4 20,oV 5 6] [4,5] (.cond (.t 5) (.seq (.ops [oM 2 (.mv (kS ⟨#[124,124]⟩)),oI 3 3] [2,3]) .ret) (sq [We 8 4 19,oV 7 8] [4,7] (.cond (.t 7) (sq [oM 2 (.mv (kS ⟨#[38,38]⟩)),oI 3 4] [2,3] (.ret)) (sq [We 10 4 11,oV 9 10] [4,9] (.cond (.t 9) (sq [oM 2 (.mv (kS ⟨#[124]⟩)),oI 3 5] [2,3] .ret) (sq [We 12 4 12,
 oV 11 12] [4,11] (.cond (.t 11) (sq [oM 2 (.mv (kS ⟨#[94]⟩)),oI 3 6] [2,3] .ret) (sq [We 14 4 10,oV 13 14] [4,13] (.cond (.t 13) (sq [oM 2 (.mv (kS ⟨#[38]⟩)),oI 3 7] [2,3] .ret) (sq [We 16 4 15,oV 15 16] [4,15] (.cond (.t 15) (sq [oM 2 (.mv (kS ⟨#[61,61]⟩)),oI 3 8] [2,3] (.ret)) (sq [We 18 4 16,oV 17 18] [4,17] (.cond (.t 17) (sq [oM 2 (.mv (kS ⟨#[33,61]⟩)),oI 3 8] [2,3] .ret) (sq [We 20 4 17,
 oV 19 20] [4,19] (.cond (.t 19) (sq [oM 2 (.mv (kS ⟨#[60]⟩)),oI 3 9] [2,3] .ret) (sq [We 22 4 18,oV 21 22] [4,21] (.cond (.t 21) (sq [oM 2 (.mv (kS ⟨#[60,61]⟩)),oI 3 9] [2,3] .ret) (sq [We 24 4 13,oV 23 24] [4,23] (.cond (.t 23) (sq [oM 2 (.mv (kS ⟨#[60,60]⟩)),oI 3 10] [2,3] (.ret)) (sq [We 26 4 14,oV 25 26] [4,25] (.cond (.t 25) (sq [oM 2 (.mv (kS ⟨#[62,62]⟩)),oI 3 10] [2,3] .ret) (sq [We 28 4 7,
 oV 27 28] [4,27] (.cond (.t 27) (sq [oM 2 (.mv (kS ⟨#[43]⟩)),oI 3 11] [2,3] .ret) (sq [We 30 4 8,oV 29 30] [4,29] (.cond (.t 29) (sq [oM 2 (.mv (kS ⟨#[45]⟩)),oI 3 11] [2,3] .ret) (sq [We 32 4 9,oV 31 32] [31] (.cond (.t 31) (sq [oM 2 (.mv (kS ⟨#[42]⟩)),oI 3 12] [2,3] (.ret)) .skip)))))))))))))))))))))))))))))) (sq [oM 2 (.mv (kS ⟨#[]⟩)),oI 3 0] [2,3] .ret))
def Cv:List RV:=[.t 2 false,.t 3 false]
theorem FK:a6 G.tab Tryz.f134 1 BK Cv=true:=by kernel_rfl
def DT:Cd:=sq [oM 2 (.mv (kS ⟨#[]⟩))] [0] (.seq (sq [oV 3 0] [3] (.block 0 (sq [We 5 3 4,oV 4 5] [3,4] (.cond (.t 4) (sq [oM 2 (.mv (kS ⟨#[33]⟩))] [2] (.ret)) (sq [We 7 3 5,oV 6 7] [3,6] (.cond (.t 6) (sq [oM 2 (.mv (kS ⟨#[126]⟩))] [2] .ret) (sq [We 9 3 6,oV 8 9] [8] (.cond (.t 8) (sq [oM 2 (.mv (kS ⟨#[45]⟩))] [2] .ret) .skip)))))))) (sq [oM 2 (.mv (kS ⟨#[]⟩))] [2] .ret))
def DW:List RV:=[.t 2 false]
theorem D7:a6 G.tab Tryz.f136 1 DT DW=true:=by kernel_rfl
def BL:Cd:=sq [oI 2 0] [0] (sq [oV 6 0,ZC 7 134 6,oV 5 7,ZX 8 5 0,ZX 9 5 1,oV 3 8,oV 4 9] [0,4] (.seq (sq [oV 10 4,Wg 11 10 0] [0,4,11] (.cond (.t 11) (sq [oV 12 4,oV 2 12] [2] .ret) .skip)) (.seq (sq [oV 13 0,We 14 13 22] [0,14] (.cond (.t 14) (sq [oI 2 1] [2] .ret) .skip)) (.seq (sq [oV 15 0,We 16 15 21] [0,16] (.cond (.t 16) (sq [oI 2 2] [2] .ret) .skip)) (.seq (sq [oV 17 0,We 18 17 23] [0,
 18] (.cond (.t 18) (sq [oI 2 9] [2] .ret) .skip)) (.seq (sq [oV 19 0,ZC 20 136 19,oM 21 (.bin .neq (.t 20) (kS ⟨#[]⟩))] [21] (.cond (.t 21) (sq [oI 2 13] [2] .ret) .skip)) (sq [oI 2 14] [2] .ret)))))))
def DH:List RV:=[.t 2 false]
theorem EF:a6 G.tab Tryz.f153 1 BL DH=true:=by kernel_rfl
def Cj:Cd:=sq [oM 2 (.mv (kS ⟨#[]⟩))] [0] (sq [oV 4 0,ZC 5 45 4,oV 3 5] [3] (sq [oV 6 3,oV 7 3,oM 8 (.len true (.t 7)),Ws 9 8 1,oM 10 (.sub true 0 (.t 6) none (some (.t 9))),oV 2 10] [2] .ret))
def Cn:List RV:=[.t 2 false]
theorem Fv:a6 G.tab Tryz.f138 1 Cj Cn=true:=by kernel_rfl
def c45:Cd:=sq [oM 2 (.mv (kS ⟨#[]⟩))] [0] (sq [oV 3 0,ZC 4 64 3,oM 5 (.bin .add (.t 4) (kS ⟨#[59]⟩)),oV 2 5] [2] .ret)
def Et:List RV:=[.t 2 false]
theorem k45:a6 G.tab Tryz.f45 1 c45 Et=true:=by kernel_rfl
def c64:Cd:=sq [oM 2 (.mv (kS ⟨#[]⟩))] [0] (.seq (sq [oV 3 0,Wl 4 3 0] [0,4] (.cond (.t 4) (sq [oV 5 0,ZC 6 103 5,oM 7 (.bin .add (kS ⟨#[45]⟩) (.t 6)),oV 2 7] [2] .ret) .skip)) (sq [oV 8 0,oM 9 (.un .neg (.t 8)),ZC 10 103 9,oV 2 10] [2] .ret))
def Fs:List RV:=[.t 2 false]
theorem k64:a6 G.tab Tryz.f64 1 c64 Fs=true:=by kernel_rfl
def Cf:Cd:=sq [oM 2 (.mv (kS ⟨#[]⟩))] [0] (.seq (sq [oV 3 0,Wg 4 3 (-10)] [0,4] (.cond (.t 4) (sq [oV 5 0,oM 6 (.bin .sub (kI 48) (.t 5)),oM 7 (.conv .u8 (.t 6)),oM 8 (.mks 5 1 [.t 7]),oM 9 (.cbs (.t 8)),oV 2 9] [2] .ret) .skip)) (.seq (.draw [oV 10 0,oM 11 (.bin .quo (.t 10) (kI 10)),ZC 12 103 11,oV 13 0,oM 14 (.bin .rem (.t 13) (kI 10)),oM 15 (.bin .sub (kI 48) (.t 14)),
 oM 16 (.conv .u8 (.t 15)),oM 17 (.mks 5 1 [.t 16]),oM 18 (.cbs (.t 17)),Ya 19 12 18,oV 2 19] [2]) .ret))
def B6:List RV:=[.t 2 false]
theorem El:a6 G.tab Tryz.f103 1 Cf B6=true:=by kernel_rfl
def BP:Cd:=sq [ZB 1 51 0,oM 2 (.mv (kS ⟨#[]⟩))] [1] (.seq (sq [ZM 3 4 1,ZC 4 89 3,Wn 5 4 0] [1,5] (.cond (.t 5) (sq [oM 2 (.mv (kS ⟨#[]⟩))] [2] .ret) .skip)) (sq [ZM 6 4 1,ZC 7 143 6,oV 2 7] [2] .ret))
def C6:List RV:=[.t 2 false]
theorem Fw:a6 G.tab Tryz.f121 1 BP C6=true:=by kernel_rfl
def CN:Cd:=sq [ZB 1 51 0,oM 2 (.mv (kS ⟨#[]⟩))] [1] (.seq (sq [ZF 11 0 1,ZL 12 1 11,ZC 13 156 12,oV 10 13,ZX 14 10 0,ZX 15 10 1,oM 3 (.new 167 zz0),oS 3 3 14,oV 4 15] [1,3,4] (sq [oV 16 4] [1,3,16] (.cond (.t 16) (.seq (.draw [ZF 17 2 3,ZL 18 1 17,ZF 19 2 3,ZL 20 1 19,Wa 21 20 1,oV 5 18,oV 6 21] [1,3,5,6]) (.seq (sq [ZF 22 2 3,ZL 23 1 22,We 24 23 2] [1,3,5,6,24] (.cond (.t 24) (.ops [oI 5 3,
 oI 6 2] [1,3,5,6]) (.skip))) (.seq (.draw [ZF 25 3 1,ZL 26 1 25,oM 27 (.ia 4 (.t 26) (kI 0)),ZM 28 4 27,oV 29 5,ZD 30 157 28 29,oM 31 (.bin .add (.t 30) (kS ⟨#[32]⟩)),ZF 32 0 3,ZL 33 1 32,Ya 34 31 33,oM 35 (.bin .add (.t 34) (kS ⟨#[32]⟩)),ZF 36 3 1,ZL 37 1 36,oM 38 (.ia 4 (.t 37) (kI 1)),ZM 39 4 38,oV 40 6,ZD 41 157 39 40,Ya 42 35 41,oV 2 42] [2]) .ret))) .skip))) (.seq (sq [ZF 43 0 1,ZL 44 1 43,
 ZC 45 158 44,oV 7 45] [1,7] (sq [oV 46 7,oM 47 (.bin .neq (.t 46) (kS ⟨#[]⟩))] [1,7,47] (.cond (.t 47) (sq [oV 48 7,ZF 49 3 1,ZL 50 1 49,oM 51 (.ia 4 (.t 50) (kI 0)),ZM 52 4 51,oM 53 (.call 157 [.t 52,.k (.d (.lit (.int .i64 13)))]),Ya 54 48 53,oV 2 54] [2] .ret) .skip))) (.seq (.seq (.ops [ZF 55 0 1,ZL 56 1 55] [1,56]) (.block 0 (sq [We 58 56 22,oV 57 58] [1,56,
 57] (.cond (.t 57) (.seq (.draw [ZF 59 3 1,ZL 60 1 59,oM 61 (.ia 4 (.t 60) (kI 0)),ZM 62 4 61,oM 63 (.call 157 [.t 62,.k (.d (.lit (.int .i64 2)))]),oM 64 (.bin .add (.t 63) (kS ⟨#[32,63,32]⟩)),ZF 65 3 1,ZL 66 1 65,oM 67 (.ia 4 (.t 66) (kI 1)),ZM 68 4 67,oM 69 (.call 157 [.t 68,.k (.d (.lit (.int .i64 1)))]),Ya 70 64 69,oM 71 (.bin .add (.t 70) (kS ⟨#[32,58,32]⟩)),ZF 72 3 1,ZL 73 1 72,
 oM 74 (.ia 4 (.t 73) (kI 2)),ZM 75 4 74,oM 76 (.call 157 [.t 75,.k (.d (.lit (.int .i64 1)))]),Ya 77 71 76,oV 2 77] [2]) .ret) (sq [We 79 56 23,oV 78 79] [1,56,78] (.cond (.t 78) (sq [oM 8 (.nilo 9 1)] [1,8] (.seq (sq [oI 9 1] [1,8,9] (.block 1 (.loop (.seq (sq [oV 80 9,Wa 81 80 1,ZF 82 3 1,ZL 83 1 82,ZN 84 83,Yl 85 81 84] [1,8,9,
 85] (.cond (.t 85) .skip (.exit 1))) (.seq (.block 2 (.drawb 8 88 105 9 1 16 (.t 104) [ZF 89 3 1,ZL 90 1 89,oV 91 9,ZI 92 4 90 91,ZM 93 4 92,ZC 94 143 93,oM 95 (.bin .add (.t 94) (kS ⟨#[32,46,46,32]⟩)),ZF 96 3 1,ZL 97 1 96,oV 98 9,Wa 99 98 1,ZI 100 4 97 99,ZM 101 4 100,ZC 102 143 101,Ya 103 95 102,oM 104 (.mks 9 1 [.t 103])] [1,8,9])) (.ops [oV 86 9,Wa 87 86 2,oV 9 87] [1,8,
 9])))))) (sq [ZF 106 3 1,ZL 107 1 106,oM 108 (.ia 4 (.t 107) (kI 0)),ZM 109 4 108,oM 110 (.call 157 [.t 109,.k (.d (.lit (.int .i64 9)))]),oM 111 (.bin .add (.t 110) (kS ⟨#[32,105,110,115,105,100,101,32,123,32]⟩)),oV 112 8,oM 113 (.call 24 [.t 112,.k (.d (.lit (.string ⟨#[44,32]⟩)))]),Ya 114 111 113,oM 115 (.bin .add (.t 114) (kS ⟨#[32,125]⟩)),oV 2 115] [2] .ret))) (sq [We 117 56 1,oV 116 117] [1,
 56,116] (.cond (.t 116) (sq [ZF 118 1 1,ZL 119 1 118,ZC 120 42 119,oV 2 120] [2] .ret) (sq [We 122 56 3,oV 121 122] [1,56,121] (.cond (.t 121) (.seq (.draw [ZF 123 2 1,ZL 124 1 123,oM 125 (.bin .add (.t 124) (kS ⟨#[91]⟩)),ZF 126 3 1,ZL 127 1 126,oM 128 (.ia 4 (.t 127) (kI 0)),ZM 129 4 128,ZC 130 143 129,Ya 131 125 130,oM 132 (.bin .add (.t 131) (kS ⟨#[93]⟩)),oV 2 132] [2]) .ret) (sq [We 134 56 24,
 oV 133 134] [1,56,133] (.cond (.t 133) (sq [ZF 135 2 1,ZL 136 1 135,oM 137 (.bin .add (kS ⟨#[115,117,109,40]⟩) (.t 136)),oM 138 (.bin .add (.t 137) (kS ⟨#[41]⟩)),oV 2 138] [2] .ret) (sq [We 140 56 25,oV 139 140] [1,139] (.cond (.t 139) (sq [ZF 141 3 1,ZL 142 1 141,oM 143 (.ia 4 (.t 142) (kI 0)),ZM 144 4 143,ZC 145 143 144,oM 146 (.bin .add (kS ⟨#[111,110,101,115,40]⟩) (.t 145)),
 oM 147 (.bin .add (.t 146) (kS ⟨#[41]⟩)),oV 2 147] [2] (.ret)) .skip)))))))))))))) (sq [ZF 148 2 1,ZL 149 1 148,ZC 150 159 149,oV 2 150] [2] .ret))))
def CX:List RV:=[.t 2 false]
theorem Fr:a6 G.tab Tryz.f143 1 CN CX=true:=by kernel_rfl
def CD:Cd:=sq [ZB 2 51 0,oM 4 (.mv (kS ⟨#[]⟩))] [1,2] (.seq (sq [ZM 5 4 2,ZC 6 170 5,oV 7 1,Yl 8 6 7] [2,8] (.cond (.t 8) (sq [ZM 9 4 2,ZC 10 143 9,oM 11 (.bin .add (kS ⟨#[40]⟩) (.t 10)),oM 12 (.bin .add (.t 11) (kS ⟨#[41]⟩)),oV 4 12] [4] .ret) .skip)) (.seq (.ops [ZM 13 4 2,ZC 14 143 13,oV 4 14] [4]) .ret))
def DI:List RV:=[.t 4 false]
theorem EA:a6 G.tab Tryz.f157 2 CD DI=true:=by kernel_rfl
def De:Cd:=sq [oM 2 (.new 167 zz0),oM 3 (.mv kF)] [0,2] (.seq (sq [oM 6 (.call 169 []),ZN 7 6,oI 8 0] [0,2,6,7,8] (.block 0 (.loop (sq [Yl 9 8 7] [0,2,6,7,8,9] (.seq (.cond (.t 9) .skip (.exit 0)) (.seq (.block 1 (sq [ZI 10 3 6 8,ZM 11 3 10,oM 5 (.new 167 zz0),oS 3 5 11] [0,2,5,6,7,8] (sq [ZF 12 1 5,ZL 13 1 12,oV 14 0,Ye 15 13 14] [0,2,5,6,7,8,15] (.cond (.t 15) (sq [ZM 16 3 5,oS 3 2 16,
 oM 3 (.mv kT)] [2,3] (.ret)) .skip)))) (.ops [Wa 17 8 1,oV 8 17] [0,2,6,7,8]))))))) (sq [oM 18 (.bld zz0 []),oS 3 2 18,oM 3 (.mv kF)] [2,3] .ret))
def vP:List RV:=[.c 2 3 true,.t 3 false]
theorem D4:a6 G.tab Tryz.f156 1 De vP=true:=by kernel_rfl
def Ds:Cd:=sq [oM 2 (.mv (kS ⟨#[]⟩))] [0] (.seq (sq [oV 3 0] [3] (.block 0 (sq [We 5 3 4,oV 4 5] [3,4] (.cond (.t 4) (sq [oM 2 (.mv (kS ⟨#[33]⟩))] [2] (.ret)) (sq [We 7 3 5,oV 6 7] [3,6] (.cond (.t 6) (sq [oM 2 (.mv (kS ⟨#[126]⟩))] [2] .ret) (sq [We 9 3 6,oV 8 9] [8] (.cond (.t 8) (sq [oM 2 (.mv (kS ⟨#[45]⟩))] [2] .ret) .skip)))))))) (sq [oM 2 (.mv (kS ⟨#[]⟩))] [2] .ret))
def Ci:List RV:=[.t 2 false]
theorem Fz:a6 G.tab Tryz.f158 1 Ds Ci=true:=by kernel_rfl
def Dd:Cd:=sq [oM 2 (.mv (kS ⟨#[]⟩))] [0] (.seq (sq [oV 4 0,oM 5 (.call 171 [.t 4,.k (.d (.lit (.int .u8 91)))]),oV 3 5] [0,3] (sq [oV 6 3,Wh 7 6 0] [0,3,7] (.cond (.t 7) (.seq (.draw [oV 8 0,oV 9 3,oM 10 (.sub true 0 (.t 8) none (some (.t 9))),oM 11 (.bin .add (.t 10) (kS ⟨#[64]⟩)),oV 12 0,oV 13 3,Wa 14 13 1,oM 15 (.sub true 0 (.t 12) (some (.t 14)) none),oM 16 (.call 145 [.t 15,
 .k (.d (.lit (.string ⟨#[93]⟩)))]),Ya 17 11 16,oV 2 17] [2]) .ret) .skip))) (sq [oV 18 0,oV 2 18] [2] .ret))
def Cc:List RV:=[.t 2 false]
theorem FO:a6 G.tab Tryz.f159 1 Dd Cc=true:=by kernel_rfl
def Cu:Cd:=sq [oM 0 (.mv (.k .nil))] [] (sq [oM 1 (.bld zz0 [(0,1,.k (.d (.lit (.string ⟨#[61,62]⟩)))),(1,1,.k (.d (.lit (.int .i64 21)))),(2,1,.k (.d (.lit (.int .i64 2))))]),oM 2 (.bld zz0 [(0,1,.k (.d (.lit (.string ⟨#[124,124]⟩)))),(1,1,.k (.d (.lit (.int .i64 20)))),(2,1,.k (.d (.lit (.int .i64 3))))]),oM 3 (.bld zz0 [(0,1,.k (.d (.lit (.string ⟨#[38,38]⟩)))),(1,1,
 .k (.d (.lit (.int .i64 19)))),(2,1,.k (.d (.lit (.int .i64 4))))]),oM 4 (.bld zz0 [(0,1,.k (.d (.lit (.string ⟨#[124]⟩)))),(1,1,.k (.d (.lit (.int .i64 11)))),(2,1,.k (.d (.lit (.int .i64 5))))]),oM 5 (.bld zz0 [(0,1,.k (.d (.lit (.string ⟨#[94]⟩)))),(1,1,.k (.d (.lit (.int .i64 12)))),(2,1,.k (.d (.lit (.int .i64 6))))]),oM 6 (.bld zz0 [(0,1,.k (.d (.lit (.string ⟨#[38]⟩)))),(1,1,
 .k (.d (.lit (.int .i64 10)))),(2,1,.k (.d (.lit (.int .i64 7))))]),oM 7 (.bld zz0 [(0,1,.k (.d (.lit (.string ⟨#[61,61]⟩)))),(1,1,.k (.d (.lit (.int .i64 15)))),(2,1,.k (.d (.lit (.int .i64 8))))]),oM 8 (.bld zz0 [(0,1,.k (.d (.lit (.string ⟨#[33,61]⟩)))),(1,1,.k (.d (.lit (.int .i64 16)))),(2,1,.k (.d (.lit (.int .i64 8))))]),oM 9 (.bld zz0 [(0,1,.k (.d (.lit (.string ⟨#[60]⟩)))),(1,1,
 .k (.d (.lit (.int .i64 17)))),(2,1,.k (.d (.lit (.int .i64 9))))]),oM 10 (.bld zz0 [(0,1,.k (.d (.lit (.string ⟨#[60,61]⟩)))),(1,1,.k (.d (.lit (.int .i64 18)))),(2,1,.k (.d (.lit (.int .i64 9))))]),oM 11 (.bld zz0 [(0,1,.k (.d (.lit (.string ⟨#[60,60]⟩)))),(1,1,.k (.d (.lit (.int .i64 13)))),(2,1,.k (.d (.lit (.int .i64 10))))]),oM 12 (.bld zz0 [(0,1,.k (.d (.lit (.string ⟨#[62,62]⟩)))),(1,1,
 .k (.d (.lit (.int .i64 14)))),(2,1,.k (.d (.lit (.int .i64 10))))]),oM 13 (.bld zz0 [(0,1,.k (.d (.lit (.string ⟨#[43]⟩)))),(1,1,.k (.d (.lit (.int .i64 7)))),(2,1,.k (.d (.lit (.int .i64 11))))]),oM 14 (.bld zz0 [(0,1,.k (.d (.lit (.string ⟨#[45]⟩)))),(1,1,.k (.d (.lit (.int .i64 8)))),(2,1,.k (.d (.lit (.int .i64 11))))]),oM 15 (.bld zz0 [(0,1,.k (.d (.lit (.string ⟨#[42]⟩)))),(1,1,
 .k (.d (.lit (.int .i64 9)))),(2,1,.k (.d (.lit (.int .i64 12))))]),oM 16 (.mks 167 3 [.t 1,.t 2,.t 3,.t 4,.t 5,.t 6,.t 7,.t 8,.t 9,.t 10,.t 11,.t 12,.t 13,.t 14,.t 15]),oV 0 16] [0] .ret)
def C5:List RV:=[.t 0 false]
theorem DY:a6 G.tab Tryz.f169 0 Cu C5=true:=by kernel_rfl
def Dg:Cd:=sq [ZB 1 51 0,oI 2 0] [1] (.seq (sq [ZF 6 0 1,ZL 7 1 6,ZC 8 156 7,oV 5 8,ZX 9 5 0,ZX 10 5 1,oM 3 (.new 167 zz0),oS 3 3 9,oV 4 10] [1,3,4] (sq [oV 11 4] [1,3,11] (.cond (.t 11) (sq [ZF 12 2 3,ZL 13 1 12,oV 2 13] [2] .ret) .skip))) (.seq (.block 0 (sq [ZF 15 0 1,ZL 16 1 15,We 17 16 22,oV 14 17] [1,14] (.cond (.t 14) (sq [oI 2 1] [2] .ret) (sq [ZF 19 0 1,ZL 20 1 19,We 21 20 23,
 oV 18 21] [1,18] (.cond (.t 18) (sq [oI 2 9] [2] .ret) (sq [ZF 23 0 1,ZL 24 1 23,ZC 25 158 24,oM 26 (.bin .neq (.t 25) (kS ⟨#[]⟩)),oV 22 26] [22] (.cond (.t 22) (sq [oI 2 13] [2] .ret) .skip))))))) (sq [oI 2 14] [2] .ret)))
def CS:List RV:=[.t 2 false]
theorem EU:a6 G.tab Tryz.f170 1 Dg CS=true:=by kernel_rfl
def c42:Cd:=sq [oM 2 (.mv (kS ⟨#[]⟩))] [0] (sq [oV 3 0,ZC 4 61 3,oV 2 4] [2] .ret)
def Ey:List RV:=[.t 2 false]
theorem k42:a6 G.tab Tryz.f42 1 c42 Ey=true:=by kernel_rfl
def Cb:Cd:=sq [oM 4 (.mv (kS ⟨#[]⟩))] [0,1] (sq [oV 5 0,oV 6 1,ZD 7 161 5 6,oV 4 7] [4] .ret)
def B1:List RV:=[.t 4 false]
theorem Es:a6 G.tab Tryz.f145 2 Cb B1=true:=by kernel_rfl
def DO:Cd:=sq [oM 4 (.mv (kS ⟨#[]⟩))] [0,1] (.seq (sq [oV 5 0,oV 6 1,ZD 7 173 5 6] [0,1,7] (.cond (.t 7) (sq [oV 8 0,oV 9 0,oM 10 (.len true (.t 9)),oV 11 1,oM 12 (.len true (.t 11)),Ys 13 10 12,oM 14 (.sub true 0 (.t 8) none (some (.t 13))),oV 4 14] [4] .ret) .skip)) (sq [oV 15 0,oV 4 15] [4] .ret))
def C4:List RV:=[.t 4 false]
theorem Fp:a6 G.tab Tryz.f161 2 DO C4=true:=by kernel_rfl
def Cq:Cd:=sq [oM 4 (.mv kF)] [0,1] (sq [oV 5 0,oM 6 (.len true (.t 5)),oV 7 1,oM 8 (.len true (.t 7)),Yh 9 6 8,oV 10 9,oG 11 10 (.mv (.t 0)),oG 12 10 (.mv (.t 0)),oG 13 10 (.len true (.t 12)),oG 14 10 (.mv (.t 1)),oG 15 10 (.len true (.t 14)),oG 16 10 (ys 13 15),oG 17 10 (.sub true 0 (.t 11) (some (.t 16)) none),oG 18 10 (.mv (.t 1)),oG 19 10 (ye 17 18),ZQ 20 10 19,oV 4 20] [4] .ret)
def DR:List RV:=[.t 4 false]
theorem FC:a6 G.tab Tryz.f173 2 Cq DR=true:=by kernel_rfl
end Go.Proofs.YtcbahpllcfbkmaaGreatDoor
