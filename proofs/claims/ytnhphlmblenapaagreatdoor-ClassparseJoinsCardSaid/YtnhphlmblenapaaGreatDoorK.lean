import Derived.KernelRfl
import Derived.Lib.LaidTab
import Derived.Test.YtnhphlmblenapaaGreatDoorProg
import Derived.Test.YtnhphlmblenapaaGreatDoorRefs8
set_option linter.unusedVariables false
set_option linter.unusedSimpArgs false
set_option linter.unusedSectionVars false
set_option maxRecDepth 100000
namespace Go.Proofs.YtnhphlmblenapaaGreatDoor
open Go.RowKit
noncomputable def G:Cx:=cxk Tryz.prog (fun g=>if g=0 then some [.sl (dU.map fun s=>[.lit (.string s)])]else if g=1 then some [.sl (aV.map fun s=>[.lit (.string (bs s))])]else none) (fun g=>if g=3 then some (fun cs=>cs=(Lib.pow10Tab.map fun z=>Value.int .u64 z).toArray)else if g=5 then some (fun cs=>∃t x,cs[0]? = some (.iface t x))else none) (by kernel_rfl)
abbrev oM(n:Nat)(o:OP):O:=⟨some n,o,none⟩
abbrev oV(n t:Nat):O:=⟨some n,.mv (.t t),none⟩
abbrev kI(z:Int):X:=.k (.d (.lit (.int .i64 z)))
abbrev kS(s:ByteArray):X:=.k (.d (.lit (.string s)))
abbrev kT:X:=.k (.d (.lit (.bool true)))
abbrev kF:X:=.k (.d (.lit (.bool false)))
abbrev oI(n:Nat)(z:Int):O:=oM n (.mv (kI z))
abbrev oG(n g:Nat)(o:OP):O:=⟨some n,o,some (g,true)⟩
abbrev oH(n g:Nat)(o:OP):O:=⟨some n,o,some (g,false)⟩
abbrev oS(k a b:Nat):O:=⟨none,.sto k (.t a) (.t b),none⟩
abbrev sq(l:List O)(m:List Nat)(c:Cd):Cd:=.seq (.ops l m) c
abbrev zL(k a:Nat):OP:=.load k false (.t a)
abbrev zM(k a:Nat):OP:=.load k true (.t a)
abbrev zF(k a:Nat):OP:=.fa k (.t a)
abbrev zI(k a b:Nat):OP:=.ia k (.t a) (.t b)
abbrev zP(a b:Nat):OP:=.pick (.t a) kT (.t b)
abbrev zQ(a b:Nat):OP:=.pick (.t a) (.t b) kF
abbrev zB(k a:Nat):OP:=.box k (.t a)
abbrev zN(a:Nat):OP:=.len false (.t a)
abbrev zU(a:Nat):OP:=.un .not (.t a)
abbrev zX(a k:Nat):OP:=.ext (.t a) k
abbrev zC(f a:Nat):OP:=.call f [.t a]
abbrev zD(f a b:Nat):OP:=.call f [.t a,.t b]
abbrev zE(f a b c:Nat):OP:=.call f [.t a,.t b,.t c]
abbrev zK(a:Nat):OP:=.nilck (.t a)
abbrev ye(a b:Nat):OP:=.bin .eql (.t a) (.t b)
abbrev we(a:Nat)(z:Int):OP:=.bin .eql (.t a) (kI z)
abbrev yn(a b:Nat):OP:=.bin .neq (.t a) (.t b)
abbrev wn(a:Nat)(z:Int):OP:=.bin .neq (.t a) (kI z)
abbrev ya(a b:Nat):OP:=.bin .add (.t a) (.t b)
abbrev wa(a:Nat)(z:Int):OP:=.bin .add (.t a) (kI z)
abbrev ws(a:Nat)(z:Int):OP:=.bin .sub (.t a) (kI z)
abbrev yl(a b:Nat):OP:=.bin .lss (.t a) (.t b)
abbrev wl(a:Nat)(z:Int):OP:=.bin .lss (.t a) (kI z)
abbrev yg(a b:Nat):OP:=.bin .gtr (.t a) (.t b)
abbrev wg(a:Nat)(z:Int):OP:=.bin .gtr (.t a) (kI z)
abbrev wq(a:Nat)(z:Int):OP:=.bin .leq (.t a) (kI z)
abbrev yh(a b:Nat):OP:=.bin .geq (.t a) (.t b)
abbrev wh(a:Nat)(z:Int):OP:=.bin .geq (.t a) (kI z)
abbrev ZL(n k a:Nat):O:=oM n (zL k a)
abbrev ZM(n k a:Nat):O:=oM n (zM k a)
abbrev ZF(n k a:Nat):O:=oM n (zF k a)
abbrev ZI(n k a b:Nat):O:=oM n (zI k a b)
abbrev ZP(n a b:Nat):O:=oM n (zP a b)
abbrev ZQ(n a b:Nat):O:=oM n (zQ a b)
abbrev ZB(n k a:Nat):O:=oM n (zB k a)
abbrev ZN(n a:Nat):O:=oM n (zN a)
abbrev ZU(n a:Nat):O:=oM n (zU a)
abbrev ZX(n a k:Nat):O:=oM n (zX a k)
abbrev ZC(n f a:Nat):O:=oM n (zC f a)
abbrev ZD(n f a b:Nat):O:=oM n (zD f a b)
abbrev ZE(n f a b c:Nat):O:=oM n (zE f a b c)
abbrev ZK(n a:Nat):O:=oM n (zK a)
abbrev Ye(n a b:Nat):O:=oM n (ye a b)
abbrev We(n a:Nat)(z:Int):O:=oM n (we a z)
abbrev Yn(n a b:Nat):O:=oM n (yn a b)
abbrev Wn(n a:Nat)(z:Int):O:=oM n (wn a z)
abbrev Ya(n a b:Nat):O:=oM n (ya a b)
abbrev Wa(n a:Nat)(z:Int):O:=oM n (wa a z)
abbrev Ws(n a:Nat)(z:Int):O:=oM n (ws a z)
abbrev Yl(n a b:Nat):O:=oM n (yl a b)
abbrev Wl(n a:Nat)(z:Int):O:=oM n (wl a z)
abbrev Yg(n a b:Nat):O:=oM n (yg a b)
abbrev Wg(n a:Nat)(z:Int):O:=oM n (wg a z)
abbrev Wq(n a:Nat)(z:Int):O:=oM n (wq a z)
abbrev Yh(n a b:Nat):O:=oM n (yh a b)
abbrev Wh(n a:Nat)(z:Int):O:=oM n (wh a z)
abbrev zz0:List V:=[.d (.lit (.int .i64 0)),.d (.lit (.int .i64 0)),.d (.lit (.string ⟨#[]⟩)),.nil]
abbrev zz1:List V:=[.d (.lit (.int .i64 0)),.d (.lit (.int .i64 0)),.d (.lit (.int .i64 0)),.d (.lit (.string ⟨#[]⟩)),.nil,.d (.lit (.string ⟨#[]⟩)),.d (.lit (.string ⟨#[]⟩)),.nil,.nil,.nil,.nil,.nil]
abbrev zz2:List V:=[.d (.lit (.int .i64 0)),.d (.lit (.int .i64 0)),.d (.lit (.string ⟨#[]⟩)),.d (.lit (.int .i64 0))]
abbrev zz3:List V:=[.d (.lit (.string ⟨#[]⟩)),.d (.lit (.int .i64 0)),.d (.lit (.int .i64 0))]
abbrev zz4:List V:=[.d (.lit (.bool false)),.d (.lit (.bool false)),.d (.lit (.bool false)),.d (.lit (.bool false)),.d (.lit (.bool false)),.d (.lit (.bool false)),.d (.lit (.bool false))]
abbrev zz5:List V:=[.d (.lit (.string ⟨#[]⟩)),.d (.lit (.string ⟨#[]⟩)),.nil,.nil]
abbrev zz6:List V:=[.d (.lit (.string ⟨#[]⟩)),.d (.lit (.int .i64 0)),.d (.lit (.int .i64 0)),.d (.lit (.int .i64 0)),.d (.lit (.int .i64 0))]
abbrev zz7:List V:=[.d (.lit (.int .i64 0)),.d (.lit (.int .i64 0))]
abbrev zz8:List V:=[.d (.lit (.int .i64 0)),.d (.lit (.int .i64 0)),.d (.lit (.int .i64 0)),.d (.lit (.bool false))]
abbrev zz9:List V:=[.d (.lit (.int .i64 0))]
abbrev zV:List V:=[.d (.lit (.string ⟨#[]⟩)),.nil]
abbrev FK:List V:=[.nil,.d (.lit (.int .i64 0))]
abbrev Fg:List V:=[.d (.lit (.int .i64 0)),.nil]
def c79:Cd:=sq [ZB 2 50 0,ZB 3 50 1,oM 4 (.mv kF)] [2,3] (.seq (sq [ZF 6 0 2,ZL 7 1 6,ZF 8 0 3,ZL 9 1 8,Yn 10 7 9,oV 11 10,oH 12 11 (zF 1 2),oH 13 11 (zL 1 12),oH 14 11 (zF 1 3),oH 15 11 (zL 1 14),oH 16 11 (yn 13 15),ZP 17 11 16,oV 18 17,oH 19 18 (zF 2 2),oH 20 18 (zL 1 19),oH 21 18 (zF 2 3),oH 22 18 (zL 1 21),oH 23 18 (yn 20 22),ZP 24 18 23,oV 25 24,oH 26 25 (zF 3 2),oH 27 25 (zL 1 26),
 oH 28 25 (zN 27),oH 29 25 (zF 3 3),oH 30 25 (zL 1 29),oH 31 25 (zN 30),oH 32 25 (yn 28 31),ZP 33 25 32] [2,3,33] (.cond (.t 33) (sq [oM 4 (.mv kF)] [4] (.ret)) .skip)) (.seq (sq [oI 5 0] [2,3,5] (.block 0 (.loop (.seq (sq [oV 34 5,ZF 35 3 2,ZL 36 1 35,ZN 37 36,Yl 38 34 37] [2,3,5,38] (.cond (.t 38) .skip (.exit 0))) (.seq (.block 1 (.seq (.draw [ZF 41 3 2,ZL 42 1 41,oV 43 5,ZI 44 4 42 43,
 ZM 45 4 44,ZF 46 3 3,ZL 47 1 46,oV 48 5,ZI 49 4 47 48,ZM 50 4 49,ZD 51 79 45 50,ZU 52 51] [2,3,5,52]) (.cond (.t 52) (sq [oM 4 (.mv kF)] [4] .ret) .skip))) (.ops [oV 39 5,Wa 40 39 1,oV 5 40] [2,3,5])))))) (sq [oM 4 (.mv kT)] [4] .ret)))
def Mj:List RV:=[.t 4 false]
theorem k79:aP G.tab Tryz.f79 2 c79 Mj=true:=by kernel_rfl
def KW:Cd:=sq [oM 2 (.nilo 9 1)] [0] (sq [oI 3 0] [0,3] (.seq (sq [oV 9 0,ZN 10 9,oI 11 0] [0,3,9,10,11] (.block 0 (.loop (sq [Yl 12 11 10] [0,3,9,10,11,12] (.seq (.cond (.t 12) .skip (.exit 0)) (.seq (.block 1 (sq [ZI 13 1 9 11,ZL 14 1 13,oV 5 14] [0,3,5,9,10,11] (sq [oV 15 3,oV 16 5,ZN 17 16,Ya 18 15 17,oV 3 18] [0,3,9,10,11] (sq [oV 19 3,Wl 20 19 0] [0,3,9,10,11,
 20] (.cond (.t 20) (.ops [oM 21 (.mki 9 (kS ⟨#[108,101,110,32,111,117,116,32,111,102,32,114,97,110,103,101]⟩)),⟨none,.pan (.t 21),none⟩] [0,3,9,10,11]) .skip))))) (.ops [Wa 22 11 1,oV 11 22] [0,3,9,10,11]))))))) (sq [oV 23 3,oM 24 (.calln 179 [.k .nil,.t 23]),oM 6 (.mvo 24)] [0,6] (.seq (sq [oV 25 0,ZN 26 25,oI 27 0] [6,25,26,27] (.block 2 (.loop (sq [Yl 28 27 26] [6,25,26,27,
 28] (.seq (.cond (.t 28) .skip (.exit 2)) (.seq (.block 3 (sq [ZI 29 1 25 27,ZL 30 1 29,oV 8 30] [6,8,25,26,27] (.ops [oM 31 (.mvo 6),oV 32 8,oM 33 (.app 9 1 16 31 (.t 32)),oM 6 (.mvo 33)] [6,25,26,27]))) (.ops [Wa 34 27 1,oV 27 34] [6,25,26,27]))))))) (sq [oM 35 (.mvo 6),oM 2 (.mvo 35)] [2] .ret)))))
def Jt:List RV:=[.t 2 true]
theorem ON:aP G.tab Tryz.f128 1 KW Jt=true:=by kernel_rfl
def LH:Cd:=sq [oM 2 (.mv (kS ⟨#[]⟩))] [0] (.seq (sq [oV 3 0] [3] (.block 0 (sq [We 5 3 4,oV 4 5] [3,4] (.cond (.t 4) (sq [oM 2 (.mv (kS ⟨#[33]⟩))] [2] (.ret)) (sq [We 7 3 5,oV 6 7] [3,6] (.cond (.t 6) (sq [oM 2 (.mv (kS ⟨#[126]⟩))] [2] .ret) (sq [We 9 3 6,oV 8 9] [8] (.cond (.t 8) (sq [oM 2 (.mv (kS ⟨#[45]⟩))] [2] .ret) .skip)))))))) (sq [oM 2 (.mv (kS ⟨#[]⟩))] [2] .ret))
def Kh:List RV:=[.t 2 false]
theorem Ot:aP G.tab Tryz.f273 1 LH Kh=true:=by kernel_rfl
def Md:Cd:=sq [oM 0 (.mv (.k .nil))] [] (sq [oM 1 (.bld zz3 [(0,1,.k (.d (.lit (.string ⟨#[61,62]⟩)))),(1,1,.k (.d (.lit (.int .i64 21)))),(2,1,.k (.d (.lit (.int .i64 2))))]),oM 2 (.bld zz3 [(0,1,.k (.d (.lit (.string ⟨#[124,124]⟩)))),(1,1,.k (.d (.lit (.int .i64 20)))),(2,1,.k (.d (.lit (.int .i64 3))))]),oM 3 (.bld zz3 [(0,1,.k (.d (.lit (.string ⟨#[38,38]⟩)))),(1,1,
 .k (.d (.lit (.int .i64 19)))),(2,1,.k (.d (.lit (.int .i64 4))))]),oM 4 (.bld zz3 [(0,1,.k (.d (.lit (.string ⟨#[124]⟩)))),(1,1,.k (.d (.lit (.int .i64 11)))),(2,1,.k (.d (.lit (.int .i64 5))))]),oM 5 (.bld zz3 [(0,1,.k (.d (.lit (.string ⟨#[94]⟩)))),(1,1,.k (.d (.lit (.int .i64 12)))),(2,1,.k (.d (.lit (.int .i64 6))))]),oM 6 (.bld zz3 [(0,1,.k (.d (.lit (.string ⟨#[38]⟩)))),(1,1,
 .k (.d (.lit (.int .i64 10)))),(2,1,.k (.d (.lit (.int .i64 7))))]),oM 7 (.bld zz3 [(0,1,.k (.d (.lit (.string ⟨#[61,61]⟩)))),(1,1,.k (.d (.lit (.int .i64 15)))),(2,1,.k (.d (.lit (.int .i64 8))))]),oM 8 (.bld zz3 [(0,1,.k (.d (.lit (.string ⟨#[33,61]⟩)))),(1,1,.k (.d (.lit (.int .i64 16)))),(2,1,.k (.d (.lit (.int .i64 8))))]),oM 9 (.bld zz3 [(0,1,.k (.d (.lit (.string ⟨#[60]⟩)))),(1,1,
 .k (.d (.lit (.int .i64 17)))),(2,1,.k (.d (.lit (.int .i64 9))))]),oM 10 (.bld zz3 [(0,1,.k (.d (.lit (.string ⟨#[60,61]⟩)))),(1,1,.k (.d (.lit (.int .i64 18)))),(2,1,.k (.d (.lit (.int .i64 9))))]),oM 11 (.bld zz3 [(0,1,.k (.d (.lit (.string ⟨#[60,60]⟩)))),(1,1,.k (.d (.lit (.int .i64 13)))),(2,1,.k (.d (.lit (.int .i64 10))))]),oM 12 (.bld zz3 [(0,1,.k (.d (.lit (.string ⟨#[62,62]⟩)))),(1,1,
 .k (.d (.lit (.int .i64 14)))),(2,1,.k (.d (.lit (.int .i64 10))))]),oM 13 (.bld zz3 [(0,1,.k (.d (.lit (.string ⟨#[43]⟩)))),(1,1,.k (.d (.lit (.int .i64 7)))),(2,1,.k (.d (.lit (.int .i64 11))))]),oM 14 (.bld zz3 [(0,1,.k (.d (.lit (.string ⟨#[45]⟩)))),(1,1,.k (.d (.lit (.int .i64 8)))),(2,1,.k (.d (.lit (.int .i64 11))))]),oM 15 (.bld zz3 [(0,1,.k (.d (.lit (.string ⟨#[42]⟩)))),(1,1,
 .k (.d (.lit (.int .i64 9)))),(2,1,.k (.d (.lit (.int .i64 12))))]),oM 16 (.mks 257 3 [.t 1,.t 2,.t 3,.t 4,.t 5,.t 6,.t 7,.t 8,.t 9,.t 10,.t 11,.t 12,.t 13,.t 14,.t 15]),oV 0 16] [0] .ret)
def Ln:List RV:=[.t 0 false]
theorem Og:aP G.tab Tryz.f301 0 Md Ln=true:=by kernel_rfl
def Mt:Cd:=sq [oM 2 (.mv (kS ⟨#[]⟩))] [0] (sq [oV 3 0,ZC 4 159 3,oV 2 4] [2] .ret)
def JB:List RV:=[.t 2 false]
theorem OV:aP G.tab Tryz.f111 1 Mt JB=true:=by kernel_rfl
def Kb:Cd:=sq [oM 4 (.new 50 zz0),oI 5 0,oI 6 0] [0,1,4] (.seq (sq [oV 11 1,Wl 12 11 0,oV 13 12,oH 14 13 (.mv (.t 1)),oH 15 13 (.mv (.t 0)),oH 16 13 (zN 15),oH 17 13 (yg 14 16),ZP 18 13 17] [0,1,4,18] (.cond (.t 18) (sq [oM 19 (.bld zz0 []),oS 4 4 19,oI 5 0,oI 6 1] [4,5,6] .ret) .skip)) (sq [oV 21 0,oV 22 1,ZD 23 221 21 22,oV 20 23,ZX 24 20 0,ZX 25 20 1,ZX 26 20 2,oM 7 (.new 50 zz0),oS 4 7 24,
 oV 8 25,oV 9 26] [4,7,8,9] (.seq (sq [oV 27 9,Wn 28 27 0] [4,7,8,9,28] (.cond (.t 28) (sq [oM 29 (.bld zz0 []),oV 30 8,oV 31 9,oS 4 4 29,oV 5 30,oV 6 31] [4,5,6] (.ret)) .skip)) (.seq (sq [ZM 32 4 7,ZC 33 129 32,oV 10 33] [4,7,8,10] (sq [oV 34 10,Wn 35 34 0] [4,7,8,10,35] (.cond (.t 35) (sq [oM 36 (.bld zz0 []),oV 37 10,oS 4 4 36,oI 5 0,oV 6 37] [4,5,6] (.ret)) .skip))) (sq [ZM 38 4 7,oV 39 8,
 oS 4 4 38,oV 5 39,oI 6 0] [4,5,6] .ret)))))
def xh:List RV:=[.c 4 4 true,.t 5 false,.t 6 false]
theorem NE:aP G.tab Tryz.f176 2 Kb xh=true:=by kernel_rfl
def Kz:Cd:=sq [oM 4 (.new 50 zz0)] [0,1,4] (sq [oV 5 0,oV 6 1,oM 7 (.bld zz0 [(0,1,.t 5),(3,1,.t 6)]),oS 4 4 7] [4] .ret)
def G0:List RV:=[.c 4 4 true]
theorem Nu:aP G.tab Tryz.f287 2 Kz G0=true:=by kernel_rfl
def Le:Cd:=sq [oM 2 (.new 50 zz0)] [0,2] (sq [oV 5 0,ZC 6 284 5,oM 3 (.new 50 zz0),oS 4 3 6] [0,2,3] (.seq (sq [oV 7 0,oM 8 (.call 285 [.t 7,.k (.d (.lit (.string ⟨#[63]⟩)))]),ZU 9 8] [0,2,3,9] (.cond (.t 9) (sq [ZM 10 4 3,oS 4 2 10] [2] .ret) .skip)) (sq [oV 11 0,ZC 12 255 11,oM 4 (.new 50 zz0),oS 4 4 12] [0,2,3,4] (sq [oV 13 0,oM 14 (.call 286 [.t 13,.k (.d (.lit (.string ⟨#[58]⟩)))])] [0,2,3,
 4] (.seq (.drawg [(ZM 15 4 3,.calm 0 1),(ZM 16 4 4,.calm 0 1),(oV 17 0,.free 0),(ZC 18 255 17,.act),(oM 19 (.mks 50 4 [.t 15,.t 16,.t 18]),.free 1),(oM 20 (.call 287 [.k (.d (.lit (.int .i64 22))),.t 19]),.calm 1 1),(oS 4 2 20,.act)] [2]) .ret)))))
def Cp:List RV:=[.c 2 4 true]
theorem NN:aP G.tab Tryz.f255 1 Le Cp=true:=by kernel_rfl
def Ll:Cd:=sq [oM 2 (.new 50 zz0)] [0,2] (sq [oV 4 0,oM 5 (.call 310 [.t 4,.k (.d (.lit (.int .i64 3)))]),oM 3 (.new 50 zz0),oS 4 3 5] [0,2,3] (.seq (sq [oV 6 0,oM 7 (.call 285 [.t 6,.k (.d (.lit (.string ⟨#[61,62]⟩)))]),ZU 8 7] [0,2,3,8] (.cond (.t 8) (sq [ZM 9 4 3,oS 4 2 9] [2] .ret) .skip)) (.seq (.drawg [(ZM 10 4 3,.calm 0 1),(oV 11 0,.free 0),(ZC 12 284 11,.act),(oM 13 (.mks 50 4 [.t 10,
 .t 12]),.free 1),(oM 14 (.call 287 [.k (.d (.lit (.int .i64 21))),.t 13]),.calm 1 1),(oS 4 2 14,.act)] [2]) (.ret))))
def Ck:List RV:=[.c 2 4 true]
theorem OY:aP G.tab Tryz.f284 1 Ll Ck=true:=by kernel_rfl
def MP:Cd:=sq [oM 4 (.new 50 zz0)] [0,1,4] (.seq (sq [oV 10 1,Wg 11 10 12] [0,1,4,11] (.cond (.t 11) (sq [oV 12 0,ZC 13 320 12,oS 4 4 13] [4] .ret) .skip)) (sq [oV 14 0,oV 15 1,Wa 16 15 1,ZD 17 310 14 16,oM 5 (.new 50 zz0),oS 4 5 17] [0,1,4,5] (.block 0 (.loop (.block 1 (.seq (sq [oV 18 1,We 19 18 9,oV 20 19,oG 21 20 (.mv (.t 0)),⟨some 22,.call 285 [.t 21,.k (.d (.lit (.string ⟨#[105,110,115,
 105,100,101]⟩)))],(some (20,true))⟩,ZQ 23 20 22] [0,1,4,5,23] (.cond (.t 23) (sq [oV 24 0,ZM 25 4 5,ZD 26 321 24 25,oS 4 5 26] [0,1,4,5] (.exit 1)) .skip)) (sq [oV 28 0,oV 29 1,ZD 30 322 28 29,oV 27 30,ZX 31 27 0,ZX 32 27 1,ZX 33 27 2,oM 6 (.new 257 zz3),oS 3 6 31,oV 7 32,oV 8 33] [0,1,4,5,6,7,8] (.seq (sq [oV 34 8,ZU 35 34] [0,1,4,5,6,7,35] (.cond (.t 35) (sq [ZM 36 4 5,
 oS 4 4 36] [4] .ret) .skip)) (sq [oV 37 0,oV 38 1,Wa 39 38 1,ZD 40 310 37 39,oM 9 (.new 50 zz0),oS 4 9 40] [0,1,4,5,6,7,9] (.seq (sq [oV 41 7] [0,1,4,5,6,9,41] (.cond (.t 41) (.ops [ZM 42 4 9,ZM 43 4 5,oS 4 5 42,oS 4 9 43] [0,1,4,5,6,9]) .skip)) (.ops [ZF 44 1 6,ZL 45 1 44,ZM 46 4 5,ZM 47 4 9,oM 48 (.mks 50 4 [.t 46,.t 47]),ZD 49 287 45 48,oS 4 5 49] [0,1,4,5])))))))))))
def xW:List RV:=[.c 4 4 true]
theorem NC:aP G.tab Tryz.f310 2 MP xW=true:=by kernel_rfl
def J0:Cd:=sq [oM 2 (.new 50 zz0)] [0,2] (.seq (sq [oM 5 (.mks 3 1 [.k (.d (.lit (.int .i64 4))),.k (.d (.lit (.int .i64 5))),.k (.d (.lit (.int .i64 6)))]),ZN 6 5,oI 7 0] [0,2,5,6,7] (.block 0 (.loop (sq [Yl 8 7 6] [0,2,5,6,7,8] (.seq (.cond (.t 8) .skip (.exit 0)) (.seq (.block 1 (sq [ZI 9 1 5 7,ZL 10 1 9,oV 4 10] [0,2,4,5,6,7] (sq [oV 11 0,oV 12 4,ZC 13 273 12,ZD 14 285 11 13] [0,2,4,5,6,7,
 14] (.cond (.t 14) (sq [oV 15 4,oV 16 0,ZC 17 320 16,oM 18 (.mks 50 4 [.t 17]),ZD 19 287 15 18,oS 4 2 19] [2] .ret) .skip)))) (.ops [Wa 20 7 1,oV 7 20] [0,2,5,6,7]))))))) (sq [oV 21 0,ZC 22 326 21,oS 4 2 22] [2] .ret))
def uv:List RV:=[.c 2 4 true]
theorem Ns:aP G.tab Tryz.f320 1 J0 uv=true:=by kernel_rfl
def JT:Cd:=sq [ZB 3 50 1,oM 4 (.new 50 zz0)] [0,3,4] (sq [ZM 7 4 3,oM 8 (.mkso 50 4 [.t 7]),oM 5 (.mvo 8)] [0,4,5] (sq [oV 9 0,oM 10 (.call 286 [.t 9,.k (.d (.lit (.string ⟨#[123]⟩)))])] [0,4,5] (.seq (.block 0 (.loop (.block 1 (sq [oV 11 0,ZC 12 255 11,oM 6 (.new 50 zz0),oS 4 6 12] [0,4,5,6] (sq [oV 13 0,oM 14 (.call 286 [.t 13,.k (.d (.lit (.string ⟨#[46,46]⟩)))])] [0,4,5,
 6] (.seq (.drawg [(oM 15 (.mvo 5),.slot 0),(ZM 16 4 6,.calm 0 1),(oV 17 0,.free 0),(ZC 18 255 17,.act),(oM 19 (.mks 50 4 [.t 16,.t 18]),.free 1),(oM 20 (.app 50 4 56 15 (.t 19)),.slot 1),(oM 5 (.mvo 20),.slot 1)] [0,4,5]) (sq [oV 21 0,oM 22 (.call 285 [.t 21,.k (.d (.lit (.string ⟨#[44]⟩)))]),ZU 23 22] [0,4,5,23] (.cond (.t 23) (.exit 0) .skip)))))))) (sq [oV 24 0,oM 25 (.call 286 [.t 24,
 .k (.d (.lit (.string ⟨#[125]⟩)))])] [4,5] (sq [oV 26 5,oM 27 (.call 287 [.k (.d (.lit (.int .i64 23))),.t 26]),oS 4 4 27] [4] .ret)))))
def GY:List RV:=[.c 4 4 true]
theorem Nf:aP G.tab Tryz.f321 2 JT GY=true:=by kernel_rfl
def Ju:Cd:=sq [oM 4 (.new 257 zz3),oM 5 (.mv kF),oM 6 (.mv kF)] [0,1,4] (.seq (sq [oM 9 (.call 301 []),ZN 10 9,oI 11 0] [0,1,4,9,10,11] (.block 0 (.loop (sq [Yl 12 11 10] [0,1,4,9,10,11,12] (.seq (.cond (.t 12) .skip (.exit 0)) (.seq (.block 1 (sq [ZI 13 3 9 11,ZM 14 3 13,oM 8 (.new 257 zz3),oS 3 8 14] [0,1,4,8,9,10,11] (sq [ZF 15 2 8,ZL 16 1 15,oV 17 1,Ye 18 16 17,oV 19 18,
 oG 20 19 (.mv (.t 0)),oG 21 19 (zF 0 8),oG 22 19 (zL 1 21),oG 23 19 (zD 285 20 22),ZQ 24 19 23] [0,1,4,8,9,10,11,24] (.cond (.t 24) (sq [ZM 25 3 8,oS 3 4 25,oM 5 (.mv kF),oM 6 (.mv kT)] [4,5,6] .ret) .skip)))) (.ops [Wa 26 11 1,oV 11 26] [0,1,4,9,10,11]))))))) (.seq (sq [oV 27 1,Wn 28 27 9] [0,4,28] (.cond (.t 28) (sq [oM 29 (.bld zz3 []),oS 3 4 29,oM 5 (.mv kF),oM 6 (.mv kF)] [4,5,
 6] .ret) .skip)) (.seq (sq [oV 30 0,oM 31 (.call 285 [.t 30,.k (.d (.lit (.string ⟨#[62]⟩)))])] [0,4,31] (.cond (.t 31) (sq [oM 32 (.bld zz3 [(1,1,.k (.d (.lit (.int .i64 17))))]),oS 3 4 32,oM 5 (.mv kT),oM 6 (.mv kT)] [4,5,6] .ret) .skip)) (.seq (sq [oV 33 0,oM 34 (.call 285 [.t 33,.k (.d (.lit (.string ⟨#[62,61]⟩)))])] [4,34] (.cond (.t 34) (sq [oM 35 (.bld zz3 [(1,1,
 .k (.d (.lit (.int .i64 18))))]),oS 3 4 35,oM 5 (.mv kT),oM 6 (.mv kT)] [4,5,6] .ret) .skip)) (sq [oM 36 (.bld zz3 []),oS 3 4 36,oM 5 (.mv kF),oM 6 (.mv kF)] [4,5,6] .ret)))))
def nS:List RV:=[.c 4 3 true,.t 5 false,.t 6 false]
theorem N7:aP G.tab Tryz.f322 2 Ju nS=true:=by kernel_rfl
def Ky:Cd:=sq [oM 2 (.new 50 zz0)] [0,2] (.seq (sq [oV 10 0,oM 11 (.call 285 [.t 10,.k (.d (.lit (.string ⟨#[40]⟩)))])] [0,2,11] (.cond (.t 11) (sq [oV 12 0,ZC 13 255 12,oM 3 (.new 50 zz0),oS 4 3 13] [0,2,3] (sq [oV 14 0,oM 15 (.call 286 [.t 14,.k (.d (.lit (.string ⟨#[41]⟩)))])] [2,3] (sq [ZM 16 4 3,oS 4 2 16] [2] .ret))) .skip)) (.seq (sq [oV 18 0,ZC 19 323 18,oV 17 19,ZX 20 17 0,ZX 21 17 1,
 oM 4 (.new 121 zz2),oS 4 4 20,oV 5 21] [0,2,4,5] (sq [oV 22 5,oV 23 22,oG 24 23 (zF 0 4),oG 25 23 (zL 1 24),oG 26 23 (we 25 3),ZQ 27 23 26] [0,2,27] (.cond (.t 27) (sq [oV 28 0,ZC 29 329 28,oM 30 (.bld zz0 [(0,1,.k (.d (.lit (.int .i64 1)))),(1,1,.t 29)]),oS 4 2 30] [2] .ret) .skip))) (sq [oV 31 0,ZC 32 330 31,oV 6 32] [0,2,6] (.seq (.block 0 (sq [oV 34 6,oM 35 (.bin .eql (.t 34) (kS ⟨#[115,117,
 109]⟩)),oV 36 35,oG 37 36 (.mv (.t 0)),⟨some 38,.call 285 [.t 37,.k (.d (.lit (.string ⟨#[40]⟩)))],(some (36,true))⟩,ZQ 39 36 38,oV 33 39] [0,2,6,33] (.cond (.t 33) (sq [oV 40 0,ZC 41 330 40,oV 7 41] [0,2,7] (sq [oV 42 0,oM 43 (.call 286 [.t 42,.k (.d (.lit (.string ⟨#[41]⟩)))])] [2,7] (sq [oV 44 7,oM 45 (.bld zz0 [(0,1,.k (.d (.lit (.int .i64 24)))),(2,1,.t 44)]),
 oS 4 2 45] [2] .ret))) (sq [oV 47 6,oM 48 (.bin .eql (.t 47) (kS ⟨#[111,110,101,115]⟩)),oV 49 48,oG 50 49 (.mv (.t 0)),⟨some 51,.call 285 [.t 50,.k (.d (.lit (.string ⟨#[40]⟩)))],(some (49,true))⟩,ZQ 52 49 51,oV 46 52] [0,2,6,46] (.cond (.t 46) (sq [oV 53 0,ZC 54 255 53,oM 8 (.new 50 zz0),oS 4 8 54] [0,2,8] (sq [oV 55 0,oM 56 (.call 286 [.t 55,.k (.d (.lit (.string ⟨#[41]⟩)))])] [2,
 8] (sq [ZM 57 4 8,oM 58 (.mks 50 4 [.t 57]),oM 59 (.call 287 [.k (.d (.lit (.int .i64 25))),.t 58]),oS 4 2 59] [2] .ret))) (sq [oV 61 0,oM 62 (.call 285 [.t 61,.k (.d (.lit (.string ⟨#[91]⟩)))]),oV 60 62] [0,2,6,60] (.cond (.t 60) (sq [oV 63 0,ZC 64 255 63,oM 9 (.new 50 zz0),oS 4 9 64] [0,2,6,9] (sq [oV 65 0,oM 66 (.call 286 [.t 65,.k (.d (.lit (.string ⟨#[93]⟩)))])] [2,6,9] (sq [oV 67 6,
 ZM 68 4 9,oM 69 (.mks 50 4 [.t 68]),oM 70 (.bld zz0 [(0,1,.k (.d (.lit (.int .i64 3)))),(2,1,.t 67),(3,1,.t 69)]),oS 4 2 70] [2] .ret))) (sq [oV 72 0,oM 73 (.call 285 [.t 72,.k (.d (.lit (.string ⟨#[64]⟩)))]),oV 71 73] [0,2,6,71] (.cond (.t 71) (sq [oV 74 6,oM 75 (.bin .add (.t 74) (kS ⟨#[91]⟩)),oV 76 0,ZC 77 329 76,ZC 78 111 77,Ya 79 75 78,oM 80 (.bin .add (.t 79) (kS ⟨#[93]⟩)),
 oM 81 (.bld zz0 [(0,1,.k (.d (.lit (.int .i64 2)))),(2,1,.t 80)]),oS 4 2 81] [2] .ret) .skip))))))))) (sq [oV 82 6,oM 83 (.bld zz0 [(0,1,.k (.d (.lit (.int .i64 2)))),(2,1,.t 82)]),oS 4 2 83] [2] .ret)))))
def ij:List RV:=[.c 2 4 true]
theorem OD:aP G.tab Tryz.f326 1 Ky ij=true:=by kernel_rfl
def Ls:Cd:=sq [oI 2 0] [0] (sq [oV 6 0,ZC 7 323 6,oV 5 7,ZX 8 5 0,ZX 9 5 1,oM 3 (.new 121 zz2),oS 4 3 8,oV 4 9] [0,3,4] (.seq (sq [oV 10 4,ZU 11 10,oV 12 11,oH 13 12 (zF 0 3),oH 14 12 (zL 1 13),oH 15 12 (wn 14 3),ZP 16 12 15] [0,3,16] (.cond (.t 16) (.ops [oV 17 0,ZC 18 312 17] [0,3]) .skip)) (.seq (sq [ZF 19 1 3,ZL 20 1 19,Wg 21 20 65535] [0,3,21] (.cond (.t 21) (.ops [oV 22 0,ZK 23 22,
 ZF 24 1 23,ZL 25 1 24,oM 26 (.bld zz7 [(0,1,.k (.d (.lit (.int .i64 3)))),(1,1,.t 25)]),oM 27 (.mki 241 (.t 26)),⟨none,.pan (.t 27),none⟩] [0,3]) .skip)) (.seq (.ops [oV 28 0,ZK 29 28,ZF 30 1 29,ZL 31 1 30,Wa 32 31 1,ZK 33 28,ZF 34 1 33,oS 1 34 32] [3]) (sq [ZF 35 1 3,ZL 36 1 35,oV 2 36] [2] .ret)))))
def L9:List RV:=[.t 2 false]
theorem Oc:aP G.tab Tryz.f329 1 Ls L9=true:=by kernel_rfl
def KE:Cd:=sq [oM 2 (.mv (kS ⟨#[]⟩))] [0] (sq [oV 6 0,ZC 7 323 6,oV 5 7,ZX 8 5 0,ZX 9 5 1,oM 3 (.new 121 zz2),oS 4 3 8,oV 4 9] [0,3,4] (.seq (sq [oV 10 4,ZU 11 10,oV 12 11,oH 13 12 (zF 0 3),oH 14 12 (zL 1 13),oH 15 12 (wn 14 1),ZP 16 12 15] [0,3,16] (.cond (.t 16) (.ops [oV 17 0,ZC 18 312 17] [0,3]) .skip)) (sq [oV 19 0,ZK 20 19,ZF 21 1 20,ZL 22 1 21,Wa 23 22 1,ZK 24 19,ZF 25 1 24,
 oS 1 25 23] [3] (sq [ZF 26 2 3,ZL 27 1 26,oV 2 27] [2] .ret))))
def La:List RV:=[.t 2 false]
theorem N6:aP G.tab Tryz.f330 1 KE La=true:=by kernel_rfl
def LS:Cd:=sq [oM 2 (.new 121 zz2),oM 3 (.mv kF)] [0,2] (.seq (.seq (.draw [oV 4 0,ZK 5 4,ZF 6 1 5,ZL 7 1 6,oV 8 0,ZK 9 8,ZF 10 0 9,ZL 11 1 10,ZN 12 11,Yh 13 7 12,oV 14 13,oH 15 14 (.mv (.t 0)),oH 16 14 (zK 15),oH 17 14 (zF 0 16),oH 18 14 (zL 1 17),oH 19 14 (.mv (.t 0)),oH 20 14 (zK 19),oH 21 14 (zF 1 20),oH 22 14 (zL 1 21),oH 23 14 (zI 4 18 22),oH 24 14 (zM 4 23),oH 25 14 (zC 327 24),
 oH 26 14 (zU 25),ZP 27 14 26] [0,2,27]) (.cond (.t 27) (sq [oM 28 (.bld zz2 []),oS 4 2 28,oM 3 (.mv kF)] [2,3] (.ret)) .skip)) (.seq (.drawg [(oV 29 0,.free 0),(ZK 30 29,.free 0),(ZF 31 0 30,.free 0),(ZL 32 1 31,.calm 0 0),(oV 33 0,.free 0),(ZK 34 33,.free 0),(ZF 35 1 34,.free 0),(ZL 36 1 35,.calm 0 0),(ZI 37 4 32 36,.free 0),(ZM 38 4 37,.calm 0 0),(oS 4 2 38,.act),(oM 3 (.mv kT),.free 1)] [2,
 3]) .ret))
def yb:List RV:=[.c 2 4 true,.t 3 false]
theorem NX:aP G.tab Tryz.f323 1 LS yb=true:=by kernel_rfl
def J1:Cd:=.seq (.seq (.draw [oV 2 0,ZK 3 2,ZF 4 1 3,ZL 5 1 4,oV 6 0,ZK 7 6,ZF 8 0 7,ZL 9 1 8,ZN 10 9,Yh 11 5 10] [0,11]) (.cond (.t 11) (.ops [oV 12 0,ZK 13 12,ZF 14 0 13,ZL 15 1 14,ZN 16 15,oM 17 (.bld zz7 [(0,1,.k (.d (.lit (.int .i64 6)))),(1,1,.t 16)]),oM 18 (.mki 241 (.t 17)),⟨none,.pan (.t 18),none⟩] [0]) .skip)) (.ops [oV 19 0,ZK 20 19,ZF 21 1 20,ZL 22 1 21,oM 23 (.bld zz7 [(0,1,
 .k (.d (.lit (.int .i64 5)))),(1,1,.t 22)]),oM 24 (.mki 241 (.t 23)),⟨none,.pan (.t 24),none⟩] [])
def L7:List RV:=[]
theorem OT:aP G.tab Tryz.f312 1 J1 L7=true:=by kernel_rfl
def JY:Cd:=sq [oM 4 (.mv kF)] [0,1] (sq [oV 8 0,ZC 9 323 8,oV 7 9,ZX 10 7 0,ZX 11 7 1,oM 5 (.new 121 zz2),oS 4 5 10,oV 6 11] [1,5,6] (sq [oV 12 6,oV 13 12,oG 14 13 (zF 0 5),oG 15 13 (zL 1 14),oG 16 13 (we 15 4),oG 17 13 (.mv (.t 16)),oH 18 17 (zF 0 5),oH 19 17 (zL 1 18),oH 20 17 (we 19 2),oG 21 13 (zP 17 20),ZQ 22 13 21,oV 23 22,oG 24 23 (zF 2 5),oG 25 23 (zL 1 24),oG 26 23 (.mv (.t 1)),
 oG 27 23 (ye 25 26),ZQ 28 23 27,oV 4 28] [4] .ret))
def Li:List RV:=[.t 4 false]
theorem NT:aP G.tab Tryz.f311 2 JY Li=true:=by kernel_rfl
def JW:Cd:=sq [oM 4 (.mv kF)] [0,1] (.seq (sq [oV 5 0,oV 6 1,ZD 7 311 5 6,ZU 8 7] [0,8] (.cond (.t 8) (sq [oM 4 (.mv kF)] [4] .ret) (.skip))) (sq [oV 9 0,ZK 10 9,ZF 11 1 10,ZL 12 1 11,Wa 13 12 1,ZK 14 9,ZF 15 1 14,oS 1 15 13] [] (sq [oM 4 (.mv kT)] [4] .ret)))
def KC:List RV:=[.t 4 false]
theorem NR:aP G.tab Tryz.f285 2 JW KC=true:=by kernel_rfl
def ME:Cd:=sq [oV 4 0,oV 5 1,ZD 6 285 4 5,ZU 7 6] [0,7] (.cond (.t 7) (.ops [oV 8 0,ZC 9 312 8] []) .skip)
def Lh:List RV:=[]
theorem NK:aP G.tab Tryz.f286 2 ME Lh=true:=by kernel_rfl
def K8:CdD:=.seq (.ops [oM 4 (.new 50 zz0),oM 5 (.new 3 zz9),oM 6 (.new 24 zz9)] [0,1,4,5,6]) (.dfr 8 254 [.t 4,.t 5,.t 6] (.seq (.ops [oV 9 0,oV 10 1,oM 11 (.bld FK [(0,1,.t 9),(1,1,.t 10)]),ZB 12 245 11,oV 7 12] [4,5,6,7]) (.seq (.ops [oV 13 7,ZC 14 255 13,oS 4 4 14] [4,5,6,7]) (.seq (.drawg [(ZM 15 4 4,.calm 0 0),(oV 16 7,.free 0),(ZK 17 16,.free 0),(ZF 18 1 17,.free 0),(ZL 19 1 18,
 .calm 0 1),(oS 4 4 15,.act),(oS 1 5 19,.act),(⟨none,.sto 1 (.t 6) (kI 0),none⟩,.act)] [4,5,6]) (.ret)))))
def Br:List RV:=[.c 4 4 true,.c 5 1 false,.c 6 1 false]
theorem Oe:pO G.tab Tryz.f221 2 K8 Br=true:=by kernel_rfl
def Hl:CdR:=.seq (.reg 6 [oV 3 6] [0,1,2,3]) (.seq (.ops [oV 8 3,oM 9 (.tas 241 (.agg zz7) (.t 8)),oV 7 9,ZX 10 7 0,ZX 11 7 1,oM 4 (.new 241 zz7),oS 2 4 10,oV 5 11] [0,1,2,3,4,5]) (.seq (.ops [oV 12 5] [0,1,2,3,4,12]) (.cond (.t 12) (.drawg [(oM 13 (.bld zz0 []),.free 0),(ZF 14 1 4,.free 0),(ZL 15 1 14,.calm 0 1),(ZF 16 0 4,.free 0),(ZL 17 1 16,.calm 0 2),(oS 4 0 13,.act),(oS 1 1 15,.act),
 (oS 1 2 17,.act)] []) (.seq (.ops [oV 18 3,oM 19 (.nif true (.t 18))] [3,19]) (.cond (.t 19) (.ops [oV 20 3,⟨none,.pan (.t 20),none⟩] []) .skip)))))
theorem Lb:oU G.tab Tryz.f254 3 Hl=true:=by kernel_rfl
def Lo:Cd:=sq [ZB 1 121 0,oM 2 (.mv kF)] [1] (sq [ZM 6 4 1,oM 7 (.mks 121 4 [.t 6]),ZC 8 331 7,oV 5 8,ZX 9 5 0,ZX 10 5 1,oV 3 9,oV 4 10] [4] (sq [oV 11 4,We 12 11 0,oV 2 12] [2] .ret))
def KM:List RV:=[.t 2 false]
theorem MY:aP G.tab Tryz.f327 1 Lo KM=true:=by kernel_rfl
def c232:Cd:=sq [oI 2 0] [0] (.seq (sq [oV 3 0,Wg 4 3 0] [0,4] (.cond (.t 4) (sq [oV 5 0,oM 6 (.un .neg (.t 5)),oV 2 6] [2] .ret) (.skip))) (sq [oV 7 0,oV 2 7] [2] .ret))
def c58:Cd:=sq [oM 2 (.mv (.k .nil)),oI 3 0,oI 4 0] [0] (.seq (sq [oV 10 0,oM 11 (.len true (.t 10)),Wg 12 11 16384] [0,12] (.cond (.t 12) (sq [oM 2 (.mv (.k .nil)),oI 3 0,oI 4 2] [2,3,4] .ret) .skip)) (sq [oV 13 0,oM 14 (.bld [.d (.lit (.string ⟨#[]⟩)),.d (.lit (.int .i64 0))] [(0,1,.t 13),(1,1,.k (.d (.lit (.int .i64 1))))]),ZB 15 150 14,oV 5 15] [5] (sq [oM 6 (.nilo 121 4)] [5,
 6] (.seq (sq [oV 16 5,ZC 17 115 16] [5,6] (.block 0 (.loop (.seq (sq [oV 18 5,ZK 19 18,ZF 20 0 19,ZL 21 1 20,oM 22 (.bin .neq (.t 21) (kS ⟨#[]⟩))] [5,6,22] (.cond (.t 22) .skip (.exit 0))) (.seq (.block 1 (sq [oV 25 5,ZK 26 25,ZF 27 1 26,ZL 28 1 27,oV 7 28] [5,6,7] (sq [oV 30 5,ZC 31 116 30,oV 29 31,ZX 32 29 0,ZX 33 29 1,oM 8 (.new 121 zz2),oS 4 8 32,oV 9 33] [5,6,7,8,9] (.seq (sq [oV 34 9,
 Wn 35 34 0] [5,6,7,8,9,35] (.cond (.t 35) (sq [oV 36 7,oV 37 9,oM 2 (.mv (.k .nil)),oV 3 36,oV 4 37] [2,3,4] .ret) .skip)) (.ops [oM 38 (.mvo 6),ZM 39 4 8,oM 40 (.mks 121 4 [.t 39]),oM 41 (.app 121 4 40 38 (.t 40)),oM 6 (.mvo 41)] [5,6]))))) (.ops [oV 23 5,ZC 24 115 23] [5,6])))))) (sq [oV 42 6,oV 2 42,oI 3 0,oI 4 0] [2,3,4] .ret)))))
def NM:List RV:=[.t 2 false,.t 3 false,.t 4 false]
theorem k58:aP G.tab Tryz.f58 1 c58 NM=true:=by kernel_rfl
def L2:Cd:=sq [oM 2 (.mv (kS ⟨#[]⟩)),oI 3 0] [0] (sq [oV 7 0,ZN 8 7,oM 9 (.mkc 9 1 16 (.t 8)),oM 4 (.mvo 9)] [0,4] (.seq (sq [oV 10 0,ZN 11 10,oI 12 0] [4,10,11,12] (.block 0 (.loop (sq [Yl 13 12 11] [4,10,11,12,13] (.seq (.cond (.t 13) .skip (.exit 0)) (.seq (.block 1 (sq [ZI 14 4 10 12,ZM 15 4 14,oM 6 (.new 121 zz2),oS 4 6 15] [4,6,10,11,12] (.seq (sq [ZM 16 4 6,ZC 17 332 16,ZU 18 17] [4,6,10,
 11,12,18] (.cond (.t 18) (sq [oM 2 (.mv (kS ⟨#[]⟩)),oI 3 1] [2,3] .ret) .skip)) (.ops [oM 19 (.mvo 4),ZF 20 2 6,ZL 21 1 20,oM 22 (.mks 9 1 [.t 21]),oM 23 (.app 9 1 16 19 (.t 22)),oM 4 (.mvo 23)] [4,10,11,12])))) (.ops [Wa 24 12 1,oV 12 24] [4,10,11,12]))))))) (sq [oV 25 4,oM 26 (.call 244 [.t 25,.k (.d (.lit (.string ⟨#[32]⟩)))]),oV 2 26,oI 3 0] [2,3] .ret)))
def L1:List RV:=[.t 2 false,.t 3 false]
theorem Nt:aP G.tab Tryz.f331 1 L2 L1=true:=by kernel_rfl
def MH:Cd:=sq [ZB 1 121 0,oM 2 (.mv kF)] [1] (.seq (sq [ZF 3 0 1,ZL 4 1 3] [1,4] (.block 0 (sq [We 6 4 3,oV 5 6] [1,4,5] (.cond (.t 5) (.seq (.draw [ZF 7 1 1,ZL 8 1 7,Wh 9 8 0,oV 10 9,oG 11 10 (zF 1 1),oG 12 10 (zL 1 11),oG 13 10 (wq 12 2147483647),ZQ 14 10 13,oV 15 14,oG 16 15 (zF 2 1),oG 17 15 (zL 1 16),oG 18 15 (zF 1 1),oG 19 15 (zL 1 18),oG 20 15 (zC 159 19),oG 21 15 (ye 17 20),ZQ 22 15 21,
 oV 2 22] [2]) .ret) (sq [We 24 4 1,oV 23 24] [1,4,23] (.cond (.t 23) (sq [ZF 25 1 1,ZL 26 1 25,We 27 26 0,oV 28 27,oG 29 28 (zF 2 1),oG 30 28 (zL 1 29),oG 31 28 (zC 96 30),ZQ 32 28 31,oV 2 32] [2] .ret) (sq [We 34 4 2,oV 33 34] [1,4,33] (.cond (.t 33) (sq [ZF 35 1 1,ZL 36 1 35,We 37 36 0,oV 38 37,oG 39 38 (zF 2 1),oG 40 38 (zL 1 39),oG 41 38 (zC 147 40),ZQ 42 38 41,
 oV 2 42] [2] (.ret)) (sq [We 44 4 4,oV 43 44] [1,43] (.cond (.t 43) (sq [ZF 45 1 1,ZL 46 1 45,We 47 46 0,oV 48 47,oG 49 48 (zF 2 1),oG 50 48 (zL 1 49),oG 51 48 (zC 333 50),ZQ 52 48 51,oV 2 52] [2] .ret) .skip)))))))))) (sq [oM 2 (.mv kF)] [2] (.ret)))
def Kv:List RV:=[.t 2 false]
theorem Of:aP G.tab Tryz.f332 1 MH Kv=true:=by kernel_rfl
def MC:Cd:=.block 0 (.loop (.block 1 (.block 2 (sq [oV 3 0,ZK 4 3,ZF 5 0 4,ZL 6 1 5,oM 7 (.call 156 [.t 6,.k (.d (.lit (.string ⟨#[47,47]⟩)))]),oV 2 7] [0,2] (.cond (.t 2) (.ops [oV 8 0,oV 9 0,ZK 10 9,ZF 11 0 10,ZL 12 1 11,oM 13 (.call 167 [.t 12,.k (.fn 168 [])]),ZD 14 166 8 13] [0]) (sq [oV 16 0,ZK 17 16,ZF 18 0 17,ZL 19 1 18,oM 20 (.bin .neq (.t 19) (kS ⟨#[]⟩)),oV 21 20,oG 22 21 (.mv (.t 0)),
 oG 23 21 (zK 22),oG 24 21 (zF 0 23),oG 25 21 (zL 1 24),oG 26 21 (.ix (.t 25) (kI 0)),oG 27 21 (.conv .i32 (.t 26)),⟨some 28,.call 169 [.k (.d (.lit (.string ⟨#[32,9,10]⟩))),.t 27],(some (21,true))⟩,ZQ 29 21 28,oV 15 29] [0,15] (.cond (.t 15) (.ops [oV 30 0,oM 31 (.call 166 [.t 30,.k (.d (.lit (.int .i64 1)))])] [0]) .ret)))))))
def KL:List RV:=[]
theorem Nd:aP G.tab Tryz.f115 1 MC KL=true:=by kernel_rfl
def Kx:Cd:=sq [oM 2 (.new 121 zz2),oI 3 0] [0,2] (.seq (sq [oV 5 0,ZK 6 5,ZF 7 0 6,ZL 8 1 7,oM 9 (.ix (.t 8) (kI 0)),oM 10 (.conv .i32 (.t 9)),oV 4 10] [0,2,4] (.block 0 (sq [oV 12 4,ZC 13 170 12,oV 11 13] [0,2,4,11] (.cond (.t 11) (sq [oV 14 0,ZC 15 171 14,ZX 16 15 0,ZX 17 15 1,oS 4 2 16,oV 3 17] [2,3] .ret) (sq [oV 19 4,ZC 20 172 19,oV 18 20] [0,2,18] (.cond (.t 18) (sq [oV 21 0,ZC 22 173 21,
 ZX 23 22 0,ZX 24 22 1,oS 4 2 23,oV 3 24] [2,3] .ret) .skip)))))) (sq [oV 25 0,ZC 26 174 25,ZX 27 26 0,ZX 28 26 1,oS 4 2 27,oV 3 28] [2,3] .ret))
def Dt:List RV:=[.c 2 4 true,.t 3 false]
theorem Nq:aP G.tab Tryz.f116 1 Kx Dt=true:=by kernel_rfl
def Lg:Cd:=sq [oM 4 (.mv (kS ⟨#[]⟩))] [0,1] (sq [oV 6 0,ZK 7 6,ZF 8 0 7,ZL 9 1 8,oV 10 1,oM 11 (.sub true 0 (.t 9) none (some (.t 10))),oV 5 11] [0,1,5] (sq [oV 12 0,oV 13 0,ZK 14 13,ZF 15 0 14,ZL 16 1 15,oV 17 1,oM 18 (.sub true 0 (.t 16) (some (.t 17)) none),ZK 19 12,ZF 20 0 19,oS 1 20 18] [0,5] (.seq (.drawg [(oV 21 0,.free 0),(ZK 22 21,.free 0),(ZF 23 1 22,.free 0),(ZL 24 1 23,.calm 0 0),
 (oV 25 5,.free 0),(oM 26 (.call 218 [.t 25,.k (.d (.lit (.string ⟨#[10]⟩)))]),.calm 0 0),(Ya 27 24 26,.free 0),(ZK 28 21,.free 0),(ZF 29 1 28,.free 0),(oS 1 29 27,.act)] [5]) (sq [oV 30 5,oV 4 30] [4] .ret))))
def Mi:List RV:=[.t 4 false]
theorem Oy:aP G.tab Tryz.f166 2 Lg Mi=true:=by kernel_rfl
def c171:Cd:=sq [oM 2 (.new 121 zz2),oI 3 0] [0,2] (sq [oV 5 0,ZK 6 5,ZF 7 1 6,ZL 8 1 7,oM 9 (.bld zz2 [(0,1,.k (.d (.lit (.int .i64 1)))),(3,1,.t 8)]),oM 4 (.new 121 zz2),oS 4 4 9] [0,2,4] (sq [oV 10 0,oV 11 0,ZK 12 11,ZF 13 0 12,ZL 14 1 13,oM 15 (.call 167 [.t 14,.k (.fn 200 [])]),ZD 16 166 10 15,ZF 17 2 4,oS 1 17 16] [2,4] (.seq (.block 0 (sq [ZF 19 2 4,ZL 20 1 19,oM 21 (.len true (.t 20)),
 Wg 22 21 16,oV 18 22] [2,4,18] (.cond (.t 18) (sq [oM 23 (.bld zz2 []),oS 4 2 23,oI 3 2] [2,3] .ret) (sq [ZF 25 2 4,ZL 26 1 25,ZC 27 147 26,oV 24 27] [2,4,24] (.cond (.t 24) (.ops [ZF 28 0 4,⟨none,.sto 1 (.t 28) (kI 2),none⟩] [2,4]) .skip))))) (sq [ZM 29 4 4,oS 4 2 29,oI 3 0] [2,3] .ret))))
def x9:List RV:=[.c 2 4 true,.t 3 false]
theorem OR:aP G.tab Tryz.f171 1 c171 x9=true:=by kernel_rfl
def c173:Cd:=sq [oM 2 (.new 121 zz2),oI 3 0] [0,2] (sq [oV 7 0,ZK 8 7,ZF 9 1 8,ZL 10 1 9,oM 11 (.bld zz2 [(0,1,.k (.d (.lit (.int .i64 3)))),(3,1,.t 10)]),oM 4 (.new 121 zz2),oS 4 4 11] [0,2,4] (sq [oV 12 0,oV 13 0,ZK 14 13,ZF 15 0 14,ZL 16 1 15,oM 17 (.call 167 [.t 16,.k (.fn 172 [])]),ZD 18 166 12 17,ZF 19 2 4,oS 1 19 18] [0,2,4] (.seq (sq [ZF 20 2 4,ZL 21 1 20,oM 22 (.len true (.t 21)),
 Wg 23 22 1,oV 24 23,oG 25 24 (zF 2 4),oG 26 24 (zL 1 25),oG 27 24 (.ix (.t 26) (kI 0)),oG 28 24 (.bin .eql (.t 27) (.k (.d (.lit (.int .u8 48))))),ZQ 29 24 28,oV 30 29,oH 31 30 (.mv (.t 0)),oH 32 30 (zK 31),oH 33 30 (zF 0 32),oH 34 30 (zL 1 33),⟨some 35,.call 167 [.t 34,.k (.fn 200 [])],(some (30,false))⟩,oH 36 30 (wg 35 0),ZP 37 30 36] [2,4,37] (.cond (.t 37) (sq [oM 38 (.bld zz2 []),oS 4 2 38,
 oI 3 5] [2,3] .ret) .skip)) (sq [ZF 40 2 4,ZL 41 1 40,oM 42 (.call 220 [.t 41,.k (.d (.lit (.int .i64 10))),.k (.d (.lit (.int .i64 64)))]),oV 39 42,ZX 43 39 0,ZX 44 39 1,oV 5 43,oV 6 44] [2,4,5,6] (.seq (sq [oV 45 6,oM 46 (.nif true (.t 45)),oV 47 46,oH 48 47 (.mv (.t 5)),oH 49 47 (wg 48 2147483647),ZP 50 47 49] [2,4,5,50] (.cond (.t 50) (sq [oM 51 (.bld zz2 []),oS 4 2 51,oI 3 3] [2,
 3] .ret) .skip)) (sq [oV 52 5,ZF 53 1 4,oS 1 53 52] [2,4] (sq [ZM 54 4 4,oS 4 2 54,oI 3 0] [2,3] .ret)))))))
def kU:List RV:=[.c 2 4 true,.t 3 false]
theorem Nr:aP G.tab Tryz.f173 1 c173 kU=true:=by kernel_rfl
def Jz:Cd:=sq [oM 2 (.new 121 zz2),oI 3 0] [0,2] (sq [oI 4 0] [0,2,4] (.seq (sq [oM 8 (.load 1 false (.g 1)),ZN 9 8,oI 10 0] [0,2,4,8,9,10] (.block 0 (.loop (sq [Yl 11 10 9] [0,2,4,8,9,10,11] (.seq (.cond (.t 11) .skip (.exit 0)) (.seq (.block 1 (sq [ZI 12 1 8 10,ZL 13 1 12,oV 6 13] [0,2,4,6,8,9,10] (sq [oV 14 6,oM 15 (.len true (.t 14)),oV 16 4,Yg 17 15 16,oV 18 17,oG 19 18 (.mv (.t 0)),
 oG 20 18 (zK 19),oG 21 18 (zF 0 20),oG 22 18 (zL 1 21),oG 23 18 (.mv (.t 6)),oG 24 18 (zD 156 22 23),ZQ 25 18 24] [0,2,4,6,8,9,10,25] (.cond (.t 25) (.ops [oV 26 6,oM 27 (.len true (.t 26)),oV 4 27] [0,2,4,8,9,10]) .skip)))) (.ops [Wa 28 10 1,oV 10 28] [0,2,4,8,9,10]))))))) (.seq (sq [oV 29 4,We 30 29 0] [0,2,4,30] (.cond (.t 30) (sq [oM 31 (.bld zz2 []),oS 4 2 31,oI 3 5] [2,
 3] (.ret)) .skip)) (sq [oV 32 0,ZK 33 32,ZF 34 1 33,ZL 35 1 34,oM 36 (.bld zz2 [(0,1,.k (.d (.lit (.int .i64 4)))),(3,1,.t 35)]),oM 7 (.new 121 zz2),oS 4 7 36] [0,2,4,7] (sq [oV 37 0,oV 38 4,ZD 39 166 37 38,ZF 40 2 7,oS 1 40 39] [2,7] (sq [ZM 41 4 7,oS 4 2 41,oI 3 0] [2,3] (.ret)))))))
def B2:List RV:=[.c 2 4 true,.t 3 false]
theorem NI:aP G.tab Tryz.f174 1 Jz B2=true:=by kernel_rfl
def c168:Cd:=sq [oM 2 (.mv kF)] [0] (sq [oV 3 0,oM 4 (.bin .neq (.t 3) (.k (.d (.lit (.int .i32 10))))),oV 2 4] [2] .ret)
def K6:Cd:=sq [oM 2 (.mv kF)] [0] (sq [oM 3 (.load 1 false (.g 1)),oV 4 0,ZD 5 201 3 4,oV 2 5] [2] .ret)
def J4:List RV:=[.t 2 false]
theorem N8:aP G.tab Tryz.f333 1 K6 J4=true:=by kernel_rfl
def MQ:Cd:=sq [oM 4 (.mv kF)] [0,1] (sq [oV 5 0,oV 6 1,ZD 7 237 5 6,Wh 8 7 0,oV 4 8] [4] .ret)
def LC:List RV:=[.t 4 false]
theorem Nw:aP G.tab Tryz.f201 2 MQ LC=true:=by kernel_rfl
def Jp:Cd:=sq [oI 4 0] [0,1] (.seq (sq [oV 6 0,ZN 7 6,oI 8 0] [0,1,7,8] (.block 0 (.loop (sq [Yl 9 8 7] [0,1,7,8,9] (.seq (.cond (.t 9) .skip (.exit 0)) (.seq (.block 1 (sq [oV 10 8,oV 5 10] [0,1,5,7,8] (sq [oV 11 1,oV 12 0,oV 13 5,ZI 14 1 12 13,ZL 15 1 14,Ye 16 11 15] [0,1,5,7,8,16] (.cond (.t 16) (sq [oV 17 5,oV 4 17] [4] .ret) .skip)))) (.ops [Wa 18 8 1,oV 8 18] [0,1,7,
 8]))))))) (.seq (.ops [oI 4 (-1)] [4]) .ret))
def MV:List RV:=[.t 4 false]
theorem N5:aP G.tab Tryz.f237 2 Jp MV=true:=by kernel_rfl
end Go.Proofs.YtnhphlmblenapaaGreatDoor
