import Derived.Test.YtnhphlmblenapaaGreatDoorPg2
set_option linter.unusedVariables false
set_option linter.unusedSimpArgs false
set_option linter.unusedSectionVars false
set_option maxRecDepth 100000
set_option maxHeartbeats 4000000
open Int renaming reduceEq->Pa,ofNat_lt->Pb
open List renaming getElem?_eq_getElem->Pd,map_cons->Pe,getElem?_map->Pf,map_nil->Pg,length_map->Ph
open Nat renaming le_refl->Pi
open Prod renaming fst->Pj
namespace Go.Proofs.YtnhphlmblenapaaGreatDoor
open Go.RowKit
def Kg(o:Int):Option (ByteArray×Nat):=(fp.find? fun b=>decide (b.2.1=o)).map fun b=>(b.1,b.2.2)
def MD(o:Int):Nat:=match Kg o with
 | some (_,l)=>l
 | none=>if o=22 then 1 else if o=23 then 9 else if o=4\/o=5\/o=6 then 13 else 14
def tm(m:ByteArray):Tok:=⟨4,0,m,1⟩
def tw(m:ByteArray):Tok:=⟨2,0,m,1⟩
def tn(s:ByteArray):Tok:=⟨1,0,s,1⟩
def td(n:Int):Tok:=⟨3,n,Fx n,1⟩
def FS(s:ByteArray):Int:=(((sb s 91).data.toList.headD 0).toNat:Int)-48
def LD(s:ByteArray):List Tok:=if pj s=true then[tn (su s 91),tm (ah 64),td (FS s)]else[tn s]
structure Stop(k:Nat)(r:List Tok):Prop where
 q:k≤1->acc (ah 63) r=none
 im:k≤2->acc (bL 61 62) r=none
 op:∀j,k≤j->3≤j->dw j r=none
 ins:k≤9->acc dF r=none
 b:acc (ah 91) r=none
 a:acc (ah 64) r=none
 p:acc (ah 40) r=none
theorem Eu(k:Nat):Stop k []:=by
 refine⟨fun _=>rfl,fun _=>rfl,fun j _ _=>?_,fun _=>rfl,rfl,rfl,rfl⟩
 have:∀l:List (ByteArray×Int×Nat),fm l j []=none:=by
  intro l
  induction l with
  | nil=>rfl
  | cons b l ih=>simp only[fm,acc];split<;>exact ih
 unfold dw;rw[this];simp only[acc];split<;>rfl
abbrev Pc:=List (Option Tok)
def txt:Pc->Bs
 | []=>[]
 | none::r=>32::txt r
 | some t::r=>t.text.data.toList++txt r
structure Fine(t:Tok)(q:Bs):Prop where
 v:bS t=true
 n:t.text.data.toList≠[]
 r:cP (t.text.data.toList++q)=.tok t.kind t.num t.text.data.toList.length
 s:bQ (t.text.data.toList++q)=t.text.data.toList++q
def good:Pc->Bs->Prop
 | [],_=>True
 | none::r,q=>good r q
 | some t::r,q=>Fine t (txt r++q)/\good r q
def sf(k:Nat)(a:Int×Pc):Pc:=if MD a.1<k then some (tm (ah 40))::(a.2++[some (tm (ah 41))])else a.2
def xg:List (Int×Pc)->Pc
 | []=>[]
 | [_]=>[]
 | [a,b]=>a.2++none::some (tm (bL 46 46))::none::b.2
 | a::b::c::r=>a.2++none::some (tm (bL 46 46))::none::(b.2++some (tm (ah 44))::none::xg (c::r))
def IO(o n:Int)(s:ByteArray)(xs:List (Int×Pc)):Pc:=match Kg o with
 | some (m,l)=>sf (if l=2 then 3 else l) (xs.getD 0 (1,[]))++none::some (tm m)::none::sf (if l=2 then 2 else l+1) (xs.getD 1 (1,[]))
 | none=>
  if o=4 then some (tm (ah 33))::sf 13 (xs.getD 0 (1,[]))
  else if o=5 then some (tm (ah 126))::sf 13 (xs.getD 0 (1,[]))
  else if o=6 then some (tm (ah 45))::sf 13 (xs.getD 0 (1,[]))
  else if o=22 then sf 2 (xs.getD 0 (1,[]))++none::some (tm (ah 63))::none::(sf 1 (xs.getD 1 (1,[]))++none::some (tm (ah 58))::none::sf 1 (xs.getD 2 (1,[])))
  else if o=23 then sf 9 (xs.getD 0 (1,[]))++none::some (tw dF)::none::some (tm (ah 123))::none::(xg xs.tail++[none,some (tm (ah 125))])
  else if o=1 then[some (td n)]
  else if o=3 then some (tn s)::some (tm (ah 91))::((xs.getD 0 (1,[])).2++[some (tm (ah 93))])
  else if o=24 then[some (tn qu),some (tm (ah 40)),some (tn s),some (tm (ah 41))]
  else if o=25 then some (tn jS)::some (tm (ah 40))::((xs.getD 0 (1,[])).2++[some (tm (ah 41))])
  else(LD s).map some
mutual
def pcE:Ex->Pc
 | .mk o n s l=>IO o n s (LI l)
def LI:List Ex->List (Int×Pc)
 | []=>[]
 | a::r=>(a.op,pcE a)::LI r
end
def G7(e:Ex):Bs:=txt (pcE e)
def opS(k:Nat)(x:Ex):Bs:=if MD x.op<k then 40::(G7 x++[41])else G7 x
def BG(o:Int):Bs:=if o=4 then[33]else if o=5 then[126]else if o=6 then[45]else[]
theorem CM(u:Nat)(h:u≤65535):(Lib.decDigits u).length≤5:=by
 have H:∀(k u:Nat),u<10^(k+1)->(Lib.decDigits u).length≤k+1:=by
  intro k
  induction k with
  | zero=>intro u h;rw[Lib.decDigits,dif_pos (by simpa using h)];simp
  | succ k ih=>
   intro u h;rw[Lib.decDigits];split
   .simp
   .have:=ih (u/10) (by rw[Nat.pow_succ]at h;omega);rw[List.length_append,List.length_singleton];omega
 exact H 4 u (by omega)
structure Fl where
 name:ByteArray
 width:Int
 size:Int
 mode:Int
 init:Int
structure Kl where
 name:ByteArray
 par:ByteArray
 flds:List Fl
 blks:List (ByteArray×List It)
def dfl(f:Fl):List D:=[ae f.name,aa f.width,aa f.size,aa f.mode,aa f.init]
abbrev Bk:=ByteArray×List It
def dbk(b:Bk):List D:=[ae b.1,cT b.2]
abbrev vkl(c:Kl):V:=.agg [.d (ae c.name),.d (ae c.par),.d (.sl (c.flds.map dfl)),.d (.sl (c.blks.map dbk))]
def c213:Cd:=sq [oM 2 (.mv (kS ⟨#[]⟩))] [0] (sq [oM 3 (.nilo 9 1)] [0,3] (.seq (sq [oV 6 0,ZN 7 6,oI 8 0] [3,6,7,8] (.block 0 (.loop (sq [Yl 9 8 7] [3,6,7,8,9] (.seq (.cond (.t 9) .skip (.exit 0)) (.seq (.block 1 (sq [ZI 10 4 6 8,ZM 11 4 10,oM 5 (.new 56 zz8),oS 4 5 11] [3,5,6,7,8] (.ops [oM 12 (.mvo 3),ZM 13 4 5,ZC 14 243 13,oM 15 (.mks 9 1 [.t 14]),oM 16 (.app 9 1 16 12 (.t 15)),
 oM 3 (.mvo 16)] [3,6,7,8]))) (.ops [Wa 17 8 1,oV 8 17] [3,6,7,8]))))))) (sq [oV 18 3,oM 19 (.call 244 [.t 18,.k (.d (.lit (.string ⟨#[44,32]⟩)))]),oV 2 19] [2] .ret)))
def c212:Cd:=sq [oM 2 (.mv (kS ⟨#[]⟩))] [0] (.seq (sq [oV 7 0,oM 8 (.call 241 [.t 7,.k (.d (.lit (.string ⟨#[91]⟩)))]),oV 6 8,ZX 9 6 0,ZX 10 6 1,ZX 11 6 2,oV 3 9,oV 4 10,oV 5 11] [0,3,4,5] (sq [oV 12 5] [0,3,4,12] (.cond (.t 12) (sq [oV 13 3,oM 14 (.bin .add (.t 13) (kS ⟨#[91]⟩)),oV 15 4,oM 16 (.call 242 [.t 15,.k (.d (.lit (.string ⟨#[93]⟩)))]),Ya 17 14 16,oM 18 (.bin .add (.t 17) (kS ⟨#[93]⟩)),
 oV 2 18] [2] .ret) .skip))) (sq [oV 19 0,oV 2 19] [2] .ret))
def c20:Cd:=sq [ZB 1 32 0,oM 2 (.mv (kS ⟨#[]⟩))] [1] (.seq (sq [ZM 5 4 1,ZC 6 50 5,ZU 7 6] [1,7] (.cond (.t 7) (.seq (.ops [oM 2 (.mv (kS ⟨#[]⟩))] [2]) .ret) .skip)) (sq [oM 8 (.bld [.d (.lit (.pointer none)),.nil,.d (.lit (.int .i64 0))] []),oM 9 (.boxt 91 (.t 8)),oM 3 (.new 85 [.d (.lit (.pointer none))]),oS 1 3 9] [1,3] (sq [oM 4 (.mv (kS ⟨#[]⟩))] [1,3,4] (.seq (sq [ZF 10 1 1,ZL 11 1 10,
 oM 12 (.bin .neq (.t 11) (kS ⟨#[]⟩))] [1,3,4,12] (.cond (.t 12) (.ops [ZF 13 1 1,ZL 14 1 13,oM 15 (.bin .add (kS ⟨#[32,101,120,116,101,110,100,115,32]⟩) (.t 14)),oV 4 15] [1,3,4]) .skip)) (sq [ZL 16 1 3,ZF 17 0 1,ZL 18 1 17,oV 19 4,oM 20 (.mks 9 1 [.k (.d (.lit (.string ⟨#[99,108,97,115,115,32]⟩))),.t 18,.t 19,.k (.d (.lit (.string ⟨#[32,123]⟩)))]),ZD 21 51 16 20] [1,3] (sq [ZL 22 1 3,
 oM 23 (.mkfn 53 [.t 1,.t 3]),ZD 24 52 22 23] [3] (sq [ZL 25 1 3,oM 26 (.mks 9 1 [.k (.d (.lit (.string ⟨#[125]⟩)))]),ZD 27 51 25 26] [3] (sq [ZL 28 1 3,ZK 29 28,ZF 30 0 29,ZC 31 56 30,oV 2 31] [2] .ret))))))))
def c53:Cd:=.seq (sq [ZF 6 2 0,ZL 7 1 6,ZN 8 7,oI 9 0] [0,1,7,8,9] (.block 0 (.loop (sq [Yl 10 9 8] [0,1,7,8,9,10] (.seq (.cond (.t 10) .skip (.exit 0)) (.seq (.block 1 (sq [ZI 11 5 7 9,ZM 12 5 11,oM 3 (.new 74 zz6),oS 5 3 12] [0,1,3,7,8,9] (.ops [ZL 13 1 1,ZM 14 5 3,ZD 15 54 13 14] [0,1,7,8,9]))) (.ops [Wa 16 9 1,oV 9 16] [0,1,7,8,9]))))))) (sq [ZF 17 3 0,ZL 18 1 17,ZN 19 18,oI 20 0] [1,18,19,
 20] (.block 2 (.loop (sq [Yl 21 20 19] [1,18,19,20,21] (.seq (.cond (.t 21) .skip (.exit 2)) (.seq (.block 3 (sq [ZI 22 2 18 20,ZM 23 2 22,oM 5 (.new 46 zV),oS 2 5 23] [1,5,18,19,20] (.ops [ZL 24 1 1,ZM 25 2 5,ZD 26 55 24 25] [1,18,19,20]))) (.ops [Wa 27 20 1,oV 20 27] [1,18,19,20])))))))
def c51:Cd:=.seq (.drawg [(oV 6 0,.free 0),(ZK 7 6,.free 0),(ZF 8 0 7,.free 0),(oV 9 0,.free 0),(ZK 10 9,.free 0),(ZF 11 2 10,.free 0),(ZL 12 1 11,.calm 0 0),(oM 13 (.call 110 [.k (.d (.lit (.string ⟨#[32,32,32,32]⟩))),.t 12]),.calm 0 0),(ZD 14 109 8 13,.act)] [0,1]) (.seq (sq [oV 15 1,ZN 16 15,oI 17 0] [0,15,16,17] (.block 0 (.loop (sq [Yl 18 17 16] [0,15,16,17,
 18] (.seq (.cond (.t 18) .skip (.exit 0)) (.seq (.block 1 (sq [ZI 19 1 15 17,ZL 20 1 19,oV 5 20] [0,5,15,16,17] (.ops [oV 21 0,ZK 22 21,ZF 23 0 22,oV 24 5,ZD 25 109 23 24] [0,15,16,17]))) (.ops [Wa 26 17 1,oV 17 26] [0,15,16,17]))))))) (.ops [oV 27 0,ZK 28 27,ZF 29 0 28,oM 30 (.call 109 [.t 29,.k (.d (.lit (.string ⟨#[10]⟩)))])] []))
def c45:Cd:=sq [ZB 1 32 0,oI 2 0] [1] (.seq (.block 0 (sq [ZF 7 0 1,ZL 8 1 7,ZC 9 96 8,ZU 10 9,oV 11 10,oH 12 11 (zF 1 1),oH 13 11 (zL 1 12),oH 14 11 (.bin .neq (.t 13) (kS ⟨#[]⟩)),oH 15 11 (.mv (.t 14)),oG 16 15 (zF 1 1),oG 17 15 (zL 1 16),oG 18 15 (zC 96 17),oG 19 15 (zU 18),oH 20 11 (zQ 15 19),ZP 21 11 20,oV 6 21] [1,6] (.cond (.t 6) (sq [oI 2 7] [2] .ret) (sq [ZF 23 2 1,ZL 24 1 23,ZN 25 24,
 Wg 26 25 16,oV 27 26,oH 28 27 (zF 3 1),oH 29 27 (zL 1 28),oH 30 27 (zN 29),oH 31 27 (wg 30 16),ZP 32 27 31,oV 22 32] [1,22] (.cond (.t 22) (sq [oI 2 2] [2] .ret) .skip))))) (.seq (sq [ZF 33 2 1,ZL 34 1 33,ZN 35 34,oI 36 0] [1,34,35,36] (.block 1 (.loop (sq [Yl 37 36 35] [1,34,35,36,37] (.seq (.cond (.t 37) .skip (.exit 1)) (.seq (.block 2 (sq [ZI 38 5 34 36,ZM 39 5 38,oM 4 (.new 74 zz6),
 oS 5 4 39] [1,4,34,35,36] (sq [ZM 40 5 4,ZC 41 97 40,oV 5 41] [1,5,34,35,36] (sq [oV 42 5,Wn 43 42 0] [1,5,34,35,36,43] (.cond (.t 43) (.seq (.ops [oV 44 5,oV 2 44] [2]) .ret) .skip))))) (.ops [Wa 45 36 1,oV 36 45] [1,34,35,36]))))))) (.seq (sq [ZF 46 3 1,ZL 47 1 46,oM 48 (.call 98 [.t 47,.k (.fn 99 [])])] [1,48] (.cond (.t 48) (sq [oI 2 7] [2] .ret) .skip)) (.seq (sq [ZF 49 2 1,ZL 50 1 49,
 oM 51 (.call 100 [.t 50,.k (.fn 101 [])]),oV 52 51,oH 53 52 (zF 3 1),oH 54 52 (zL 1 53),⟨some 55,.call 102 [.t 54,.k (.fn 103 [])],(some (52,false))⟩,ZP 56 52 55] [56] (.cond (.t 56) (sq [oI 2 8] [2] (.ret)) .skip)) (sq [oI 2 0] [2] .ret)))))
def NV:List RV:=[.t 2 false]
theorem k45:aP G.tab Tryz.f45 1 c45 NV=true:=by kernel_rfl
def c99:Cd:=sq [ZB 1 46 0,oM 2 (.mv kF)] [1] (sq [ZF 3 0 1,ZL 4 1 3,ZC 5 96 4,ZU 6 5,oV 2 6] [2] .ret)
def O7:List RV:=[.t 2 false]
theorem k99:aP G.tab Tryz.f99 1 c99 O7=true:=by kernel_rfl
def c97:Cd:=sq [ZB 1 74 0,oI 2 0] [1] (.seq (.block 0 (sq [ZF 5 0 1,ZL 6 1 5,ZC 7 96 6,ZU 8 7,oV 4 8] [1,4] (.cond (.t 4) (sq [oI 2 7] [2] .ret) (sq [ZF 10 1 1,ZL 11 1 10,Wl 12 11 1,oV 13 12,oH 14 13 (zF 1 1),oH 15 13 (zL 1 14),oH 16 13 (wg 15 8),ZP 17 13 16,oV 18 17,oH 19 18 (zF 2 1),oH 20 18 (zL 1 19),oH 21 18 (wl 20 0),ZP 22 18 21,oV 23 22,oH 24 23 (zF 2 1),oH 25 23 (zL 1 24),
 oH 26 23 (wg 25 8),ZP 27 23 26,oV 9 27] [1,9] (.cond (.t 9) (sq [oI 2 1] [2] (.ret)) (sq [ZF 29 3 1,ZL 30 1 29,Wn 31 30 0,oV 32 31,oG 33 32 (zF 3 1),oG 34 32 (zL 1 33),oG 35 32 (wn 34 1),ZQ 36 32 35,oV 37 36,oG 38 37 (zF 3 1),oG 39 37 (zL 1 38),oG 40 37 (wn 39 2),ZQ 41 37 40,oV 28 41] [1,28] (.cond (.t 28) (sq [oI 2 1] [2] .ret) (sq [ZF 43 2 1,ZL 44 1 43,Wn 45 44 0,oV 46 45,oG 47 46 (zF 3 1),
 oG 48 46 (zL 1 47),oG 49 46 (we 48 2),ZQ 50 46 49,oV 42 50] [1,42] (.cond (.t 42) (sq [oI 2 1] [2] .ret) .skip))))))))) (sq [oI 3 0] [1,3] (.seq (sq [ZF 51 3 1,ZL 52 1 51,We 53 52 0] [1,3,53] (.cond (.t 53) (.ops [ZF 54 1 1,ZL 55 1 54,oM 56 (.bin .shl (kI 1) (.t 55)),Ws 57 56 1,oV 3 57] [1,3]) .skip)) (.seq (sq [ZF 58 4 1,ZL 59 1 58,Wl 60 59 0,oV 61 60,oH 62 61 (zF 4 1),oH 63 61 (zL 1 62),
 oH 64 61 (.mv (.t 3)),oH 65 61 (yg 63 64),ZP 66 61 65] [66] (.cond (.t 66) (sq [oI 2 1] [2] .ret) .skip)) (sq [oI 2 0] [2] (.ret))))))
def M7:List RV:=[.t 2 false]
theorem k97:aP G.tab Tryz.f97 1 c97 M7=true:=by kernel_rfl
def Jn:Cd:=sq [oM 4 (.mv kF)] [0,1] (.seq (sq [oV 7 0,ZN 8 7,oI 9 0] [0,1,8,9] (.block 0 (.loop (sq [Yl 10 9 8] [0,1,8,9,10] (.seq (.cond (.t 10) .skip (.exit 0)) (.seq (.block 1 (sq [oV 11 9,oV 5 11] [0,1,5,8,9] (sq [oV 12 5,oI 13 0] [0,1,5,8,9,12,13] (.block 2 (.loop (sq [Yl 14 13 12] [0,1,5,8,9,12,13,14] (.seq (.cond (.t 14) .skip (.exit 2)) (.seq (.block 3 (sq [oV 15 13,oV 6 15] [0,1,5,6,8,
 9,12,13] (.seq (.draw [oV 16 1,oV 17 0,oV 18 5,ZI 19 5 17 18,ZM 20 5 19,oM 21 (.callv (.t 16) [.t 20]),oV 22 1,oV 23 0,oV 24 6,ZI 25 5 23 24,ZM 26 5 25,oM 27 (.callv (.t 22) [.t 26]),Ye 28 21 27] [0,1,5,8,9,12,13,28]) (.cond (.t 28) (sq [oM 4 (.mv kT)] [4] .ret) .skip)))) (.ops [Wa 29 13 1,oV 13 29] [0,1,5,8,9,12,13]))))))))) (.ops [Wa 30 9 1,oV 9 30] [0,1,8,
 9]))))))) (sq [oM 4 (.mv kF)] [4] .ret))
def L0:List RV:=[.t 4 false]
theorem Nl:aP G.tab Tryz.f100 2 Jn L0=true:=by kernel_rfl
def MO:Cd:=sq [oM 4 (.mv kF)] [0,1] (.seq (sq [oV 7 0,ZN 8 7,oI 9 0] [0,1,8,9] (.block 0 (.loop (sq [Yl 10 9 8] [0,1,8,9,10] (.seq (.cond (.t 10) .skip (.exit 0)) (.seq (.block 1 (sq [oV 11 9,oV 5 11] [0,1,5,8,9] (sq [oV 12 5,oI 13 0] [0,1,5,8,9,12,13] (.block 2 (.loop (sq [Yl 14 13 12] [0,1,5,8,9,12,13,14] (.seq (.cond (.t 14) .skip (.exit 2)) (.seq (.block 3 (sq [oV 15 13,oV 6 15] [0,1,5,6,8,
 9,12,13] (.seq (.draw [oV 16 1,oV 17 0,oV 18 5,ZI 19 2 17 18,ZM 20 2 19,oM 21 (.callv (.t 16) [.t 20]),oV 22 1,oV 23 0,oV 24 6,ZI 25 2 23 24,ZM 26 2 25,oM 27 (.callv (.t 22) [.t 26]),Ye 28 21 27] [0,1,5,8,9,12,13,28]) (.cond (.t 28) (sq [oM 4 (.mv kT)] [4] .ret) .skip)))) (.ops [Wa 29 13 1,oV 13 29] [0,1,5,8,9,12,13]))))))))) (.ops [Wa 30 9 1,oV 9 30] [0,1,8,
 9]))))))) (sq [oM 4 (.mv kF)] [4] .ret))
def JG:List RV:=[.t 4 false]
theorem M4:aP G.tab Tryz.f102 2 MO JG=true:=by kernel_rfl
def Ks:Cd:=sq [ZB 1 74 0,oM 2 (.mv (kS ⟨#[]⟩))] [1] (sq [ZF 3 0 1,ZL 4 1 3,oV 2 4] [2] .ret)
def MT:List RV:=[.t 2 false]
theorem M5:aP G.tab Tryz.f101 1 Ks MT=true:=by kernel_rfl
def JK:Cd:=sq [ZB 1 46 0,oM 2 (.mv (kS ⟨#[]⟩))] [1] (sq [ZF 3 0 1,ZL 4 1 3,oV 2 4] [2] .ret)
def Ku:List RV:=[.t 2 false]
theorem Od:aP G.tab Tryz.f103 1 JK Ku=true:=by kernel_rfl
def c98:Cd:=sq [oM 4 (.mv kF)] [0,1] (sq [oV 5 0,oV 6 1,ZD 7 148 5 6,Wh 8 7 0,oV 4 8] [4] .ret)
def Ni:List RV:=[.t 4 false]
theorem k98:aP G.tab Tryz.f98 2 c98 Ni=true:=by kernel_rfl
def Hh:Cd:=sq [oI 4 0] [0,1] (.seq (sq [oV 6 0,ZN 7 6,oI 8 0] [0,1,7,8] (.block 0 (.loop (sq [Yl 9 8 7] [0,1,7,8,9] (.seq (.cond (.t 9) .skip (.exit 0)) (.seq (.block 1 (sq [oV 10 8,oV 5 10] [0,1,5,7,8] (sq [oV 11 1,oV 12 0,oV 13 5,ZI 14 2 12 13,ZM 15 2 14,oM 16 (.callv (.t 11) [.t 15])] [0,1,5,7,8,16] (.cond (.t 16) (sq [oV 17 5,oV 4 17] [4] .ret) .skip)))) (.ops [Wa 18 8 1,oV 8 18] [0,1,7,
 8]))))))) (.seq (.ops [oI 4 (-1)] [4]) .ret))
def JO:List RV:=[.t 4 false]
theorem K4:aP G.tab Tryz.f148 2 Hh JO=true:=by kernel_rfl
def c143:Cd:=sq [ZB 1 74 0,oI 2 0] [1] (.seq (sq [ZF 4 0 1,ZL 5 1 4,ZC 6 142 5,ZU 7 6] [1,7] (.cond (.t 7) (sq [oI 2 7] [2] .ret) .skip)) (.seq (sq [ZF 8 1 1,ZL 9 1 8,Wl 10 9 1,oV 11 10,oH 12 11 (zF 1 1),oH 13 11 (zL 1 12),oH 14 11 (wg 13 8),ZP 15 11 14,oV 16 15,oH 17 16 (zF 2 1),oH 18 16 (zL 1 17),oH 19 16 (wl 18 0),ZP 20 16 19,oV 21 20,oH 22 21 (zF 2 1),oH 23 21 (zL 1 22),oH 24 21 (wg 23 8),
 ZP 25 21 24,oV 26 25,oH 27 26 (zF 3 1),oH 28 26 (zL 1 27),oH 29 26 (wl 28 0),ZP 30 26 29,oV 31 30,oH 32 31 (zF 3 1),oH 33 31 (zL 1 32),oH 34 31 (wg 33 2),ZP 35 31 34] [1,35] (.cond (.t 35) (sq [oI 2 1] [2] (.ret)) .skip)) (.seq (sq [ZF 36 2 1,ZL 37 1 36,Wn 38 37 0,oV 39 38,oG 40 39 (zF 3 1),oG 41 39 (zL 1 40),oG 42 39 (we 41 2),ZQ 43 39 42] [1,
 43] (.cond (.t 43) (sq [oI 2 1] [2] .ret) .skip)) (sq [oI 3 0] [1,3] (.seq (sq [ZF 44 3 1,ZL 45 1 44,We 46 45 0] [1,3,46] (.cond (.t 46) (.ops [ZF 47 1 1,ZL 48 1 47,oM 49 (.conv .u64 (.t 48)),oM 50 (.bin .shl (kI 1) (.t 49)),Ws 51 50 1,oV 3 51] [1,3]) .skip)) (.seq (sq [ZF 52 4 1,ZL 53 1 52,Wl 54 53 0,oV 55 54,oH 56 55 (zF 4 1),oH 57 55 (zL 1 56),oH 58 55 (.mv (.t 3)),oH 59 55 (yg 57 58),
 ZP 60 55 59] [60] (.cond (.t 60) (sq [oI 2 1] [2] .ret) .skip)) (sq [oI 2 0] [2] .ret)))))))
def c145:Cd:=sq [oI 4 0] [0,1] (.seq (sq [oI 5 0] [0,1,5] (.block 0 (.loop (.seq (sq [oV 6 5,oV 7 0,ZN 8 7,Yl 9 6 8] [0,1,5,9] (.cond (.t 9) .skip (.exit 0))) (.seq (.block 1 (sq [oV 12 0,oV 13 5,ZI 14 2 12 13,ZF 15 0 14,ZL 16 1 15,oV 17 1,Ye 18 16 17] [0,1,5,18] (.cond (.t 18) (sq [oV 19 5,oV 4 19] [4] .ret) .skip))) (.ops [oV 10 5,Wa 11 10 1,oV 5 11] [0,1,5])))))) (sq [oI 4 (-1)] [4] .ret))
def c14:Cd:=sq [ZB 2 32 0,ZB 3 32 1,oM 4 (.mv kF)] [2,3] (.seq (sq [ZF 7 0 2,ZL 8 1 7,ZF 9 0 3,ZL 10 1 9,Yn 11 8 10,oV 12 11,oH 13 12 (zF 1 2),oH 14 12 (zL 1 13),oH 15 12 (zF 1 3),oH 16 12 (zL 1 15),oH 17 12 (yn 14 16),ZP 18 12 17,oV 19 18,oH 20 19 (zF 2 2),oH 21 19 (zL 1 20),oH 22 19 (zN 21),oH 23 19 (zF 2 3),oH 24 19 (zL 1 23),oH 25 19 (zN 24),oH 26 19 (yn 22 25),ZP 27 19 26,oV 28 27,
 oH 29 28 (zF 3 2),oH 30 28 (zL 1 29),oH 31 28 (zN 30),oH 32 28 (zF 3 3),oH 33 28 (zL 1 32),oH 34 28 (zN 33),oH 35 28 (yn 31 34),ZP 36 28 35] [2,3,36] (.cond (.t 36) (sq [oM 4 (.mv kF)] [4] .ret) .skip)) (.seq (sq [oI 5 0] [2,3,5] (.block 0 (.loop (.seq (sq [oV 37 5,ZF 38 2 2,ZL 39 1 38,ZN 40 39,Yl 41 37 40] [2,3,5,41] (.cond (.t 41) .skip (.exit 0))) (.seq (.block 1 (.seq (.draw [ZF 44 2 2,
 ZL 45 1 44,oV 46 5,ZI 47 5 45 46,ZM 48 5 47,ZF 49 2 3,ZL 50 1 49,oV 51 5,ZI 52 5 50 51,ZM 53 5 52,oM 54 (.eqa true 74 [.s,.i .i64,.i .i64,.i .i64,.i .i64] (.t 48) (.t 53))] [2,3,5,54]) (.cond (.t 54) (sq [oM 4 (.mv kF)] [4] (.ret)) .skip))) (.ops [oV 42 5,Wa 43 42 1,oV 5 43] [2,3,5])))))) (.seq (sq [oI 6 0] [2,3,6] (.block 2 (.loop (.seq (sq [oV 55 6,ZF 56 3 2,ZL 57 1 56,ZN 58 57,Yl 59 55 58] [2,
 3,6,59] (.cond (.t 59) .skip (.exit 2))) (.seq (.block 3 (.seq (.draw [ZF 62 3 2,ZL 63 1 62,oV 64 6,ZI 65 2 63 64,ZF 66 0 65,ZL 67 1 66,ZF 68 3 3,ZL 69 1 68,oV 70 6,ZI 71 2 69 70,ZF 72 0 71,ZL 73 1 72,Yn 74 67 73,oV 75 74,oH 76 75 (zF 3 2),oH 77 75 (zL 1 76),oH 78 75 (.mv (.t 6)),oH 79 75 (zI 2 77 78),oH 80 75 (zF 1 79),oH 81 75 (zL 1 80),oH 82 75 (zF 3 3),oH 83 75 (zL 1 82),oH 84 75 (.mv (.t 6)),
 oH 85 75 (zI 2 83 84),oH 86 75 (zF 1 85),oH 87 75 (zL 1 86),oH 88 75 (zD 11 81 87),oH 89 75 (zU 88),ZP 90 75 89] [2,3,6,90]) (.cond (.t 90) (sq [oM 4 (.mv kF)] [4] (.ret)) .skip))) (.ops [oV 60 6,Wa 61 60 1,oV 6 61] [2,3,6])))))) (sq [oM 4 (.mv kT)] [4] .ret))))
def Ol:List RV:=[.t 4 false]
theorem k14:aP G.tab Tryz.f14 2 c14 Ol=true:=by kernel_rfl
end Go.Proofs.YtnhphlmblenapaaGreatDoor
namespace Go.Proofs.YtnhphlmblenapaaGreatDoor
open Go.RowKit
def wF(f:Fl):Int:=
 if cX f.name=false then 7 else if f.width<1\/8<f.width\/f.size<0\/8<f.size then 1 else if f.mode≠0/\f.mode≠1/\f.mode≠2 then 1 else if f.size≠0/\f.mode=2 then 1
 else if f.init<0\/(if f.mode=0 then 2^f.width.toNat-1 else 0)<f.init then 1 else 0
def mc:List Fl->Int
 | []=>0
 | f::r=>if wF f≠0 then wF f else mc r
def sB:List Bk->Int->Int
 | [],_=>-1
 | b::r,k=>if cX b.1=false then k else sB r (k+1)
def qn(c:Kl):Int:=
 if cX c.name=false\/(c.par≠⟨#[]⟩/\cX c.par=false)then 7 else if 16<c.flds.length\/16<c.blks.length then 2 else if mc c.flds≠0 then mc c.flds
 else if 0≤sB c.blks 0 then 7 else if ¬(c.flds.map Fl.name).Nodup\/¬(c.blks.map Pj).Nodup then 8 else 0
theorem Gg{n:Int}(h0:1≤n)(h1:n≤8):co .shl (.d (.lit (.int .i64 1))) (.d (aa n))=some (.d (aa (2^n.toNat)))/\(2:Int)^n.toNat≤256/\(1:Int)≤2^n.toNat:=by
 have hn:n=1\/n=2\/n=3\/n=4\/n=5\/n=6\/n=7\/n=8:=by omega
 rcases hn with rfl|rfl|rfl|rfl|rfl|rfl|rfl|rfl<;>exact⟨by rw[GT];rfl,by decide,by decide⟩
theorem vW(f:Fl)(σ:LLV):Fun G 97 [.agg ((dfl f).map V.d)] σ (aO (.d (aa (wF f))) σ):=by
 refine al Tryz.func97 k97 rfl fun hb hw=>?_;unfold c97 wF;obtain⟨nm,wd,sz,md,ini⟩:=f;simp only;simp -dsimp only[aw,seval,dfl,Pe,Pg];refine aj (ey nm _) ?_;cases hn:cX nm with
 | false=>
  rw[if_pos rfl];simp -dsimp only[aw,seval];exact av hb rfl rfl
 | true=>
 rw[if_neg (show ¬(true=false)by simp)];by_cases a1:wd<1
 .rw[if_pos (.inl a1)];simp -dsimp only[aw,seval,decide_eq_true a1];exact av hb rfl rfl
 by_cases a2:8<wd
 .rw[if_pos (.inr (.inl a2))];simp -dsimp only[aw,seval,decide_eq_false a1,decide_eq_true a2];exact av hb rfl rfl
 by_cases a3:sz<0
 .rw[if_pos (.inr (.inr (.inl a3)))];simp -dsimp only[aw,seval,decide_eq_false a1,decide_eq_false a2,decide_eq_true a3];exact av hb rfl rfl
 by_cases a4:8<sz
 .rw[if_pos (.inr (.inr (.inr a4)))];simp -dsimp only[aw,seval,decide_eq_false a1,decide_eq_false a2,decide_eq_false a3,decide_eq_true a4];exact av hb rfl rfl
 rw[if_neg (by omega)];obtain⟨q1,q2,q3⟩:=Gg (n:=wd) (by omega) (by omega);have q4:IntKind.i64.wrap ((2:Int)^wd.toNat-1)=2^wd.toNat-1:=bI (by omega) (by omega);generalize (2:Int)^wd.toNat=top at *;by_cases m0:md=0
 .subst m0;rw[if_neg (show ¬((0:Int)≠0/\(0:Int)≠1/\(0:Int)≠2)by omega),if_neg (show ¬(sz≠0/\(0:Int)=2)by omega),if_pos (rfl:(0:Int)=0)];by_cases i1:ini<0
  .rw[if_pos (.inl i1)];cases hz:decide (sz=0)
   all_goals
    simp -dsimp only[aw,seval,decide_eq_false a1,decide_eq_false a2,decide_eq_false a3,decide_eq_false a4,decide_true,decide_false,Pa,hz,q1,q4,decide_eq_true i1];exact av hb rfl rfl
  .by_cases i2:top-1<ini
   .rw[if_pos (.inr i2)];cases hz:decide (sz=0)
    all_goals
     simp -dsimp only[aw,seval,decide_eq_false a1,decide_eq_false a2,decide_eq_false a3,decide_eq_false a4,decide_true,decide_false,Pa,hz,q1,q4,decide_eq_false i1,decide_eq_true i2];exact av hb rfl rfl
   .rw[if_neg (by omega)];cases hz:decide (sz=0)
    all_goals
     simp -dsimp only[aw,seval,decide_eq_false a1,decide_eq_false a2,decide_eq_false a3,decide_eq_false a4,decide_true,decide_false,Pa,hz,q1,q4,decide_eq_false i1,decide_eq_false i2];exact av hb rfl rfl
 .by_cases m1:md=1
  .subst m1;rw[if_neg (show ¬((1:Int)≠0/\(1:Int)≠1/\(1:Int)≠2)by omega),if_neg (show ¬(sz≠0/\(1:Int)=2)by omega),if_neg (show ¬(1:Int)=0 by omega)];by_cases i1:ini<0
   .rw[if_pos (.inl i1)];cases hz:decide (sz=0)
    all_goals
     simp -dsimp only[aw,seval,decide_eq_false a1,decide_eq_false a2,decide_eq_false a3,decide_eq_false a4,decide_true,decide_false,Pa,hz,decide_eq_true i1];exact av hb rfl rfl
   .by_cases i2:0<ini
    .rw[if_pos (.inr i2)];cases hz:decide (sz=0)
     all_goals
      simp -dsimp only[aw,seval,decide_eq_false a1,decide_eq_false a2,decide_eq_false a3,decide_eq_false a4,decide_true,decide_false,Pa,hz,decide_eq_false i1,decide_eq_true i2];exact av hb rfl rfl
    .rw[if_neg (by omega)];cases hz:decide (sz=0)
     all_goals
      simp -dsimp only[aw,seval,decide_eq_false a1,decide_eq_false a2,decide_eq_false a3,decide_eq_false a4,decide_true,decide_false,Pa,hz,decide_eq_false i1,decide_eq_false i2];exact av hb rfl rfl
  .by_cases m2:md=2
   .subst m2;rw[if_neg (show ¬((2:Int)≠0/\(2:Int)≠1/\(2:Int)≠2)by omega)];by_cases z:sz=0
    .rw[if_neg (show ¬(sz≠0/\(2:Int)=2)by omega),if_neg (show ¬(2:Int)=0 by omega)];by_cases i1:ini<0
     .rw[if_pos (.inl i1)];simp -dsimp only[aw,seval,decide_eq_false a1,decide_eq_false a2,decide_eq_false a3,decide_eq_false a4,decide_true,decide_false,Pa,decide_eq_true z,decide_eq_true i1];exact av hb rfl rfl
     .by_cases i2:0<ini
      .rw[if_pos (.inr i2)];simp -dsimp only[aw,seval,decide_eq_false a1,decide_eq_false a2,decide_eq_false a3,decide_eq_false a4,decide_true,decide_false,Pa,decide_eq_true z,decide_eq_false i1,decide_eq_true i2];exact av hb rfl rfl
      .rw[if_neg (by omega)];simp -dsimp only[aw,seval,decide_eq_false a1,decide_eq_false a2,decide_eq_false a3,decide_eq_false a4,decide_true,decide_false,Pa,decide_eq_true z,decide_eq_false i1,decide_eq_false i2];exact av hb rfl rfl
    .rw[if_pos ⟨z,rfl⟩];simp -dsimp only[aw,seval,decide_eq_false a1,decide_eq_false a2,decide_eq_false a3,decide_eq_false a4,decide_true,decide_false,Pa,decide_eq_false z];exact av hb rfl rfl
   .rw[if_pos ⟨m0,m1,m2⟩];simp -dsimp only[aw,seval,decide_eq_false a1,decide_eq_false a2,decide_eq_false a3,decide_eq_false a4,decide_true,decide_false,Pa,decide_eq_false m0,decide_eq_false m1,decide_eq_false m2];exact av hb rfl rfl
theorem qZ(f:Fl)(σ:LLV):Fun G 101 [.agg ((dfl f).map V.d)] σ (aO (.d (ae f.name)) σ):=by
 refine al Tryz.func101 M5 rfl fun hb hw=>?_;unfold Ks;simp -dsimp only[aw,seval,dfl,Pe,Pg];exact av hb rfl rfl
theorem qU(b:Bk)(σ:LLV):Fun G 103 [.agg ((dbk b).map V.d)] σ (aO (.d (ae b.1)) σ):=by
 refine al Tryz.func103 Od rfl fun hb hw=>?_;unfold JK;simp -dsimp only[aw,seval,dbk,Pe,Pg];exact av hb rfl rfl
theorem vC{L:List ByteArray}(h:∀a b,a<b->b<L.length->L[a]? ≠ L[b]?):L.Nodup:=List.pairwise_iff_getElem.2 fun i j hi hj hij e=>h i j hij hj (by rw[Pd hi,Pd hj,e])
theorem rZ{L:List ByteArray}{a b:Nat}(h:a<b)(hb:b<L.length)(e:L[a]? = L[b]?):¬L.Nodup:=fun hn=>List.pairwise_iff_getElem.1 hn a b (by omega) hb h (by
 rw[Pd (show a<L.length by omega),Pd hb]at e;exact Option.some.inj e)
theorem Bz(l:List Fl)(hl:l.length≤1200000)(σ:LLV):Fun G 100 [.d (.sl (l.map dfl)),.fn 101 []] σ (aO (ak (decide (¬(l.map Fl.name).Nodup))) σ):=by
 refine al Tryz.func100 Nl rfl fun hb hw=>?_;unfold Jn;simp -dsimp only[aw,seval,Ph];refine aI [0,1,8,9] (fun(j:Nat) ρ σ'=>ρ=[(0,.d (.sl (l.map dfl))),(1,.fn 101 []),(8,aC .i64 l.length),(9,aC .i64 j)]/\σ'=σ/\∀a b,a<b->b<j->(l.map Fl.name)[a]? ≠ (l.map Fl.name)[b]?) l.length ⟨rfl,rfl,fun a b _ h=>by omega⟩ ?_ _;rintro j ρ' σ' hj ⟨rfl,rfl,hN⟩;by_cases hlt:j<l.length
 .have wj:=aJ hlt (show l.length≤9223372036854775807 by omega);simp -dsimp only[aw,seval,Pb,hlt];refine aI [0,1,5,8,9,12,13] (fun(m:Nat) ρ σ2=>ρ=[(0,.d (.sl (l.map dfl))),(1,.fn 101 []),(5,aC .i64 j),(8,aC .i64 l.length),(9,aC .i64 j),(12,aC .i64 j),(13,aC .i64 m)]/\σ2=σ'/\∀a,a<m->(l.map Fl.name)[a]? ≠ (l.map Fl.name)[j]?) j ⟨rfl,rfl,fun a h=>by omega⟩ ?_ _;rintro m ρ' σ2 hm ⟨rfl,rfl,hM⟩;by_cases hlm:m<j
  .have wm:=aJ hlm (show j≤9223372036854775807 by omega);have hml:m<l.length:=by omega
   have e1:(l.map dfl)[j]? = some (dfl l[j]):=by rw[Pf,Pd hlt];rfl
   have e2:(l.map dfl)[m]? = some (dfl l[m]):=by rw[Pf,Pd hml];rfl
   have n1:(l.map Fl.name)[j]? = some l[j].name:=by rw[Pf,Pd hlt];rfl
   have n2:(l.map Fl.name)[m]? = some l[m].name:=by rw[Pf,Pd hml];rfl
   have d1:∀f:Fl,dfl f=[ae f.name,aa f.width,aa f.size,aa f.mode,aa f.init]:=fun _=>rfl;have f1:=qZ l[j];have f2:=qZ l[m];simp only[d1,Pe,Pg]at f1 f2;simp -dsimp only[aw,seval,Pb,hlm,e1,e2,d1,Pe,Pg];refine bp (f1 _) ?_;simp -dsimp only[aw,seval,e1,e2,d1,Pe,Pg];refine bp (f2 _) ?_;by_cases hq:l[j].name=l[m].name
   .have hd:decide (¬(l.map Fl.name).Nodup)=true:=decide_eq_true (rZ hlm (by rw[Ph];exact hlt) (by rw[n1,n2,hq]));rw[hd];simp -dsimp only[aw,seval,hq];exact av hb rfl rfl
   .simp -dsimp only[aw,seval,decide_eq_false hq,wm]
    exact⟨hlm,Nxt.same (Pi _) hb (by simp[an,V.under,V.unders]) ⟨rfl,rfl,fun a ha=>by
     by_cases e:a=m
     .subst e;rw[n1,n2];exact fun h=>hq (Option.some.inj h).symm
     .exact hM a (by omega)⟩⟩
  .simp -dsimp only[aw,seval,Pb,hlm,wj]
   exact⟨hlt,Nxt.same (Pi _) hb (by simp[an,V.under,V.unders]) ⟨rfl,rfl,fun a b hab hbj=>by
    by_cases e:b=j
    .subst e;exact hM a (by omega)
    .exact hN a b hab (by omega)⟩⟩
 .have hd:decide (¬(l.map Fl.name).Nodup)=false:=decide_eq_false (fun h=>h (vC fun a b hab hbl=>hN a b hab (by rw[Ph]at hbl;omega)));rw[hd];simp -dsimp only[aw,seval,Pb,hlt];exact av hb rfl rfl
theorem CL(l:List Bk)(hl:l.length≤1200000)(σ:LLV):Fun G 102 [.d (.sl (l.map dbk)),.fn 103 []] σ (aO (ak (decide (¬(l.map Pj).Nodup))) σ):=by
 refine al Tryz.func102 M4 rfl fun hb hw=>?_;unfold MO;simp -dsimp only[aw,seval,Ph];refine aI [0,1,8,9] (fun(j:Nat) ρ σ'=>ρ=[(0,.d (.sl (l.map dbk))),(1,.fn 103 []),(8,aC .i64 l.length),(9,aC .i64 j)]/\σ'=σ/\∀a b,a<b->b<j->(l.map Pj)[a]? ≠ (l.map Pj)[b]?) l.length ⟨rfl,rfl,fun a b _ h=>by omega⟩ ?_ _;rintro j ρ' σ' hj ⟨rfl,rfl,hN⟩;by_cases hlt:j<l.length
 .have wj:=aJ hlt (show l.length≤9223372036854775807 by omega);simp -dsimp only[aw,seval,Pb,hlt];refine aI [0,1,5,8,9,12,13] (fun(m:Nat) ρ σ2=>ρ=[(0,.d (.sl (l.map dbk))),(1,.fn 103 []),(5,aC .i64 j),(8,aC .i64 l.length),(9,aC .i64 j),(12,aC .i64 j),(13,aC .i64 m)]/\σ2=σ'/\∀a,a<m->(l.map Pj)[a]? ≠ (l.map Pj)[j]?) j ⟨rfl,rfl,fun a h=>by omega⟩ ?_ _;rintro m ρ' σ2 hm ⟨rfl,rfl,hM⟩;by_cases hlm:m<j
  .have wm:=aJ hlm (show j≤9223372036854775807 by omega);have hml:m<l.length:=by omega
   have e1:(l.map dbk)[j]? = some (dbk l[j]):=by rw[Pf,Pd hlt];rfl
   have e2:(l.map dbk)[m]? = some (dbk l[m]):=by rw[Pf,Pd hml];rfl
   have n1:(l.map Pj)[j]? = some l[j].1:=by rw[Pf,Pd hlt];rfl
   have n2:(l.map Pj)[m]? = some l[m].1:=by rw[Pf,Pd hml];rfl
   have d1:∀b:Bk,dbk b=[ae b.1,cT b.2]:=fun _=>rfl;have f1:=qU l[j];have f2:=qU l[m];simp only[d1,Pe,Pg]at f1 f2;simp -dsimp only[aw,seval,Pb,hlm,e1,e2,d1,Pe,Pg];refine bp (f1 _) ?_;simp -dsimp only[aw,seval,e1,e2,d1,Pe,Pg];refine bp (f2 _) ?_;by_cases hq:l[j].1=l[m].1
   .have hd:decide (¬(l.map Pj).Nodup)=true:=decide_eq_true (rZ hlm (by rw[Ph];exact hlt) (by rw[n1,n2,hq]));rw[hd];simp -dsimp only[aw,seval,hq];exact av hb rfl rfl
   .simp -dsimp only[aw,seval,decide_eq_false hq,wm]
    exact⟨hlm,Nxt.same (Pi _) hb (by simp[an,V.under,V.unders]) ⟨rfl,rfl,fun a ha=>by
     by_cases e:a=m
     .subst e;rw[n1,n2];exact fun h=>hq (Option.some.inj h).symm
     .exact hM a (by omega)⟩⟩
  .simp -dsimp only[aw,seval,Pb,hlm,wj]
   exact⟨hlt,Nxt.same (Pi _) hb (by simp[an,V.under,V.unders]) ⟨rfl,rfl,fun a b hab hbj=>by
    by_cases e:b=j
    .subst e;exact hM a (by omega)
    .exact hN a b hab (by omega)⟩⟩
 .have hd:decide (¬(l.map Pj).Nodup)=false:=decide_eq_false (fun h=>h (vC fun a b hab hbl=>hN a b hab (by rw[Ph]at hbl;omega)));rw[hd];simp -dsimp only[aw,seval,Pb,hlt];exact av hb rfl rfl
theorem Dn(b:Bk)(σ:LLV):Fun G 99 [.agg ((dbk b).map V.d)] σ (aO (ak (!cX b.1)) σ):=by
 refine al Tryz.func99 k99 rfl fun hb hw=>?_;unfold c99;simp -dsimp only[aw,seval,dbk,Pe,Pg];refine aj (ey b.1 _) ?_;simp -dsimp only[aw,seval];exact av hb rfl rfl
theorem Gy(l:List Bk)(hl:l.length≤1200000)(σ:LLV):Fun G 148 [.d (.sl (l.map dbk)),.fn 99 []] σ (aO (.d (aa (sB l 0))) σ):=by
 refine al Tryz.func148 K4 rfl fun hb hw=>?_;unfold Hh;simp -dsimp only[aw,seval,Ph];refine aI [0,1,7,8] (fun(j:Nat) ρ σ'=>ρ=[(0,.d (.sl (l.map dbk))),(1,.fn 99 []),(7,aC .i64 l.length),(8,aC .i64 j)]/\σ'=σ/\sB l 0=sB (l.drop j) j) l.length ⟨rfl,rfl,rfl⟩ ?_ _;rintro j ρ' σ' hj ⟨rfl,rfl,hI⟩;by_cases hlt:j<l.length
 .have wj:=aJ hlt (show l.length≤9223372036854775807 by omega);have e1:(l.map dbk)[j]? = some (dbk l[j]):=by rw[Pf,Pd hlt];rfl
  have d1:∀b:Bk,dbk b=[ae b.1,cT b.2]:=fun _=>rfl;have f1:=Dn l[j];simp only[d1,Pe,Pg]at f1;rw[List.drop_eq_getElem_cons hlt,sB]at hI;rw[hI];simp -dsimp only[aw,seval,Pb,hlt,e1,d1,Pe,Pg];refine aj (f1 _) ?_;cases hn:cX l[j].1 with
  | false=>
   rw[if_pos rfl];simp -dsimp only[aw,seval];exact av hb rfl rfl
  | true=>
   rw[if_neg (show ¬(true=false)by simp)];rw[hn,if_neg (show ¬(true=false)by simp)]at hI;simp -dsimp only[aw,seval,wj];exact⟨hlt,Nxt.same (Pi _) hb (by simp[an,V.under,V.unders]) ⟨rfl,rfl,by rw[show((j+1:Nat):Int)=(j:Int)+1 by omega]⟩⟩
 .rw[List.drop_eq_nil_of_le (by omega),sB]at hI;rw[hI];simp -dsimp only[aw,seval,Pb,hlt];exact av hb rfl rfl
theorem Dj(l:List Bk)(hl:l.length≤1200000)(σ:LLV):Fun G 98 [.d (.sl (l.map dbk)),.fn 99 []] σ (aO (ak (decide (0≤sB l 0))) σ):=by
 refine al Tryz.func98 k98 rfl fun hb hw=>?_;unfold c98;simp -dsimp only[aw,seval];refine aj (Gy l hl _) ?_;simp -dsimp only[aw,seval];exact av hb rfl rfl
end Go.Proofs.YtnhphlmblenapaaGreatDoor
