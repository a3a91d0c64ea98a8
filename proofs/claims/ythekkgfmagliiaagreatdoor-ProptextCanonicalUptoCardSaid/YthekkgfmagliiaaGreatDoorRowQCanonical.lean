import Derived.LaidLaws
import Derived.OpenShut
import Derived.ChangeSame
import Derived.ChangeVars
import Derived.JoinedOf
import Derived.RowKitTokens
import Derived.ChangeOld
import Derived.Below
import Derived.Deep.DeepHandedRow
import Derived.Deep.DeepWitnessRowRef
import Derived.Test.YthekkgfmagliiaaGreatDoorQm10
set_option maxRecDepth 100000
set_option maxHeartbeats 4000000
set_option linter.unusedVariables false
set_option linter.unusedSimpArgs false
set_option linter.unusedSectionVars false
open List renaming getElem?_eq_getElem->Rs,length_map->Ru
namespace Go.Proofs.YthekkgfmagliiaaGreatDoor
open Go.RowKit
open Nat renaming reduceLeDiff -> jA, reduceBEq -> jB, reduceLT -> jC, reduceEqDiff -> jD, reduceAdd -> jE, reduceSub -> jF, reduceMul -> jG
open V renaming copy -> jV, lend -> jW, lend1 -> jX, cells -> jY, boxable -> jZ
abbrev zE0:Ex:=.mk 0 0 ⟨#[]⟩ []
def cyc(n:ByteArray):Ts:=.mk 1 0 0 (.mk 2 0 n []) ⟨#[]⟩ []
def aqW:Ts:=.mk 4 0 0 zE0 ⟨#[]⟩ [.mk 2 1 3 zE0 ⟨#[]⟩ [cyc ⟨#[97]⟩,.mk 3 2 2 zE0 ⟨#[]⟩ [cyc ⟨#[98]⟩]],cyc ⟨#[99]⟩]
def aqP:Pr:=⟨⟨#[112]⟩,false,true,.mk 6 0 0 (.mk 2 0 ⟨#[105,100]⟩ []) ⟨#[120]⟩ [cyc ⟨#[114,101,113]⟩],.mk 2 1 1 zE0 ⟨#[]⟩ [.mk 1 0 0 (.mk 1 1 ⟨#[]⟩ []) ⟨#[]⟩ [],.mk 1 0 0 (.mk 19 0 ⟨#[]⟩ [.mk 2 0 ⟨#[97,99,107]⟩ [],.mk 15 0 ⟨#[]⟩ [.mk 2 0 ⟨#[105,100]⟩ [],.mk 2 0 ⟨#[120]⟩ []]]) ⟨#[]⟩ []]⟩
theorem aq1:kE [123,97,125,32,35,35,91,49,58,51,93,32,123,98,125,32,91,42,50,93,32,111,114,32,123,99,125]=some (aqW,0,0):=by kernel_rfl
theorem aq2:kE [123,97,125,32,35,35]=some (zT,1,6):=by kernel_rfl
theorem aq3:kE [123,97,125,32,91,42,48,58,50,93]=some (zT,0,1):=by kernel_rfl
def aqT:Bs:=[112,114,111,112,101,114,116,121,32,112,58,32,40,123,114,101,113,125,44,32,120,32,61,32,105,100,41,32,124,45,62,32,123,49,125,32,35,35,49,32,123,97,99,107,32,38,38,32,105,100,32,61,61,32,120,125,59]
theorem aq4:jp aqT=some (aqP,0,0):=by kernel_rfl
theorem aq5:xj aqP=aqT:=by kernel_rfl
theorem aq6:cl aqP.cond≤1000000/\cl aqP.then_≤1000000/\cl aqW≤1000000:=by decide +kernel
theorem jq{l:Bs}{v:Ts}{n e:Int}(h:kE l=some (v,n,e))(σ:LLV):Fun G 12 [.d (ae (bs l))] σ (aA (.tup [vts v,.d (ab n),.d (ab e)]) σ):=by
 refine(ka l σ).mono fun o σ' hr=>?_;obtain⟨e1,v',n',e',e2,e3⟩:=hr;rw[h]at e3;cases (show(v,n,e)=(v',n',e')from e3);exact⟨e2,e1⟩
theorem eZ{l:Bs}{v:Pr}{n e:Int}(h:jp l=some (v,n,e))(σ:LLV):Fun G 7 [.d (ae (bs l))] σ (aA (.tup [vpr v,.d (ab n),.d (ab e)]) σ):=by
 refine(rp l σ).mono fun o σ' hr=>?_;obtain⟨e1,v',n',e',e2,e3⟩:=hr;rw[h]at e3;cases (show(v,n,e)=(v',n',e')from e3);exact⟨e2,e1⟩
theorem oe(n:ByteArray)(σ:LLV):Fun G 35 [.d (ae n)] σ (aA (vts (cyc n)) σ):=by
 refine ai Tryz.func35 k35 rfl fun hb hw=>?_;unfold c35;simp -dsimp only[aw,jV,jW,jX,jY,jZ,jA,reduceIte,reduceCtorEq,jB,jC,jD,jE,jF,jG];exact al (v:=vts (cyc n)) hb (by rw[am];simp[OD,aU,bq,cyc,Ts.op,Ts.lo,Ts.hi,Ts.ex,Ts.name,Ts.args,Ex.op,Ex.num,Ex.name,Ex.args,aw,jV,jW,jX,jY,jZ,jA,reduceIte,reduceCtorEq,jB,jC,jD,jE,jF,jG]) (by rw[am];rfl) List.take_left ⟨rfl,rfl⟩
theorem Mw(n:ByteArray):vts (cyc n)=.agg [.d (ab 1),.d (ab 0),.d (ab 0),.d (ab 2),.d (ab 0),.d (ae n),.d (.sl []),.d (ae ⟨#[]⟩),.d (.sl [])]:=by
 rw[am];rfl
theorem P8:vts aqW=.agg [.d (ab 4),.d (ab 0),.d (ab 0),.d (ab 0),.d (ab 0),.d (ae ⟨#[]⟩),.d (.sl []),.d (ae ⟨#[]⟩),.d (.sl [dts (.mk 2 1 3 zE0 ⟨#[]⟩ [cyc ⟨#[97]⟩,.mk 3 2 2 zE0 ⟨#[]⟩ [cyc ⟨#[98]⟩]]),dts (cyc ⟨#[99]⟩)])]:=by
 rw[am];rfl
theorem vzT:vts zT=.agg [.d (ab 0),.d (ab 0),.d (ab 0),.d (ab 0),.d (ab 0),.d (ae ⟨#[]⟩),.d (.sl []),.d (ae ⟨#[]⟩),.d (.sl [])]:=by
 rw[am];rfl
theorem nX(σ:LLV):Fun G 14 [] σ (aA (aq true) σ):=by
 have h1:=fun σ=>jq aq1 σ;have h2:=fun σ=>jq aq2 σ;have h3:=fun σ=>jq aq3 σ;have h4:=fun σ=>eZ aq4 σ;have h5:=fun σ=>pE aqP aq6.1 aq6.2.1 σ;have h6:=fun σ=>ko aqW aqW aq6.2.2 σ;rw[(jP aqW aqW).2 rfl]at h6;rw[aq5]at h5;have hov:aqP.over=true:=rfl;generalize aqP=P at *;rw[b9,hov]at h4 h5;rw[P8]at h1 h6;rw[vzT]at h2 h3;have ht:decide (bs aqT=(⟨#[112,114,111,112,101,114,116,121,32,112,58,32,40,123,114,101,113,125,44,32,120,32,61,32,105,100,41,32,124,45,62,32,123,49,125,32,35,35,49,32,123,97,99,107,32,38,38,32,105,100,32,61,61,32,120,125,59]⟩:ByteArray))=true:=rfl;have hg:(⟨#[112,114,111,112,101,114,116,121,32,112,58,32,40,123,114,101,113,125,44,32,120,32,61,32,105,100,41,32,124,45,62,32,123,49,125,32,35,35,49,32,123,97,99,107,32,38,38,32,105,100,32,61,61,32,120,125,59]⟩:ByteArray)=bs aqT:=rfl
 refine ai Tryz.func14 k14 rfl fun hb hw=>?_;unfold c14;rw[hg];generalize bs aqT=T at *;simp -dsimp only[aw,jV,jW,jX,jY,jZ,jA,reduceIte,reduceCtorEq,jB,jC,jD,jE,jF,jG];refine ac (h1 _) ?_;simp -dsimp only[aw,jV,jW,jX,jY,jZ,jA,reduceIte,reduceCtorEq,jB,jC,jD,jE,jF,jG];refine ac (oe ⟨#[97]⟩ _) ?_;simp -dsimp only[aw,jV,jW,jX,jY,jZ,jA,reduceIte,reduceCtorEq,jB,jC,jD,jE,jF,jG];refine ac (oe ⟨#[98]⟩ _) ?_;simp -dsimp only[aw,jV,jW,jX,jY,jZ,jA,reduceIte,reduceCtorEq,jB,jC,jD,jE,jF,jG,Mw];refine ac (oe ⟨#[99]⟩ _) ?_;simp -dsimp only[aw,jV,jW,jX,jY,jZ,jA,reduceIte,reduceCtorEq,jB,jC,jD,jE,jF,jG,Mw];refine ac (h2 _) ?_;simp -dsimp only[aw,jV,jW,jX,jY,jZ,jA,reduceIte,reduceCtorEq,jB,jC,jD,jE,jF,jG];refine ac (h3 _) ?_;simp -dsimp only[aw,jV,jW,jX,jY,jZ,jA,reduceIte,reduceCtorEq,jB,jC,jD,jE,jF,jG];refine ac (h4 _) ?_
 simp -dsimp only[aw,jV,jW,jX,jY,jZ,jA,reduceIte,reduceCtorEq,jB,jC,jD,jE,jF,jG];refine ac (h6 _) ?_;simp -dsimp only[aw,jV,jW,jX,jY,jZ,jA,reduceIte,reduceCtorEq,jB,jC,jD,jE,jF,jG,Int.reduceEq,decide_true,hov];refine ac (h5 _) ?_;simp -dsimp only[aw,jV,jW,jX,jY,jZ,jA,reduceIte,reduceCtorEq,jB,jC,jD,jE,jF,jG,decide_true];first|exact au hb rfl rfl|exact av hb rfl rfl
def iQ(p q:Pr):Bool:=decide (p.name=q.name)&&(p.plain==q.plain)&&(p.over==q.over)&&fA p.cond q.cond&&fA p.then_ q.then_
theorem xW(p q:Pr):iQ p q=true↔p=q:=by
 unfold iQ;simp only[Bool.and_eq_true,decide_eq_true_eq,beq_iff_eq,jP];cases p;cases q;simp only[Pr.mk.injEq,and_assoc]
theorem sn(p q:Pr)(h1:cl p.cond≤1000000)(h2:cl p.then_≤1000000)(σ:LLV):Fun G 11 [vpr p,vpr q] σ (aA (aq (iQ p q)) σ):=by
 have f1:=fun σ=>ko p.cond q.cond h1 σ;have f2:=fun σ=>ko p.then_ q.then_ h2 σ;rw[am,am]at f1 f2;by_cases hn:p.name=q.name
 case neg=>
  have hv:iQ p q=false:=by unfold iQ;rw[decide_eq_false hn];simp
  rw[hv];refine ai Tryz.func11 k11 (by simp only[b9];rfl) fun hb hw=>?_;unfold c11;simp -dsimp only[aw,jV,jW,jX,jY,jZ,jA,reduceIte,reduceCtorEq,jB,jC,jD,jE,jF,jG,b9,decide_eq_false hn];first|exact au hb rfl rfl|exact av hb rfl rfl
 by_cases hp:p.plain=q.plain
 case neg=>
  have e1:(p.plain==q.plain)=false:=by simpa using hp
  have hv:iQ p q=false:=by unfold iQ;rw[e1];simp
  rw[hv];refine ai Tryz.func11 k11 (by simp only[b9];rfl) fun hb hw=>?_;unfold c11;simp -dsimp only[aw,jV,jW,jX,jY,jZ,jA,reduceIte,reduceCtorEq,jB,jC,jD,jE,jF,jG,b9,decide_eq_true hn,e1];first|exact au hb rfl rfl|exact av hb rfl rfl
 have e1:(p.plain==q.plain)=true:=by simpa using hp
 by_cases ho:p.over=q.over
 case neg=>
  have e2:(p.over==q.over)=false:=by simpa using ho
  have hv:iQ p q=false:=by unfold iQ;rw[e2];simp
  rw[hv];refine ai Tryz.func11 k11 (by simp only[b9];rfl) fun hb hw=>?_;unfold c11;simp -dsimp only[aw,jV,jW,jX,jY,jZ,jA,reduceIte,reduceCtorEq,jB,jC,jD,jE,jF,jG,b9,decide_eq_true hn,e1,e2];first|exact au hb rfl rfl|exact av hb rfl rfl
 have e2:(p.over==q.over)=true:=by simpa using ho
 have hv:iQ p q=(fA p.cond q.cond&&fA p.then_ q.then_):=by unfold iQ;rw[decide_eq_true hn,e1,e2];simp
 rw[hv];generalize fA p.cond q.cond=x at *;generalize fA p.then_ q.then_=y at *;refine ai Tryz.func11 k11 (by simp only[b9];rfl) fun hb hw=>?_;unfold c11;simp -dsimp only[aw,jV,jW,jX,jY,jZ,jA,reduceIte,reduceCtorEq,jB,jC,jD,jE,jF,jG,b9,decide_eq_true hn,e1,e2];refine ac (f1 _) ?_;cases x with
 | false=>
  simp -dsimp only[aw,jV,jW,jX,jY,jZ,jA,reduceIte,reduceCtorEq,jB,jC,jD,jE,jF,jG];first|exact au hb rfl rfl|exact av hb rfl rfl
 | true=>
  simp -dsimp only[aw,jV,jW,jX,jY,jZ,jA,reduceIte,reduceCtorEq,jB,jC,jD,jE,jF,jG];refine ac (f2 _) ?_;simp -dsimp only[aw,jV,jW,jX,jY,jZ,jA,reduceIte,reduceCtorEq,jB,jC,jD,jE,jF,jG];first|exact au hb rfl rfl|exact av hb rfl rfl
def c20:Cd:=sq [oM 2 (.mv (.k .nil)),oI 3 0,oI 4 0] [0] (sq [oM 5 (.new 48 [.nil])] [0,5] (sq [oV 9 0,oM 10 (.mkfn 41 [.t 5]),ZD 11 22 9 10,oV 8 11,ZX 12 8 0,ZX 13 8 1,oV 6 12,oV 7 13] [5,6,7] (.seq (sq [oV 14 7,We 15 14 0] [5,6,7,15] (.cond (.t 15) (.ops [ZL 16 1 5,ZC 17 42 16,oV 7 17] [5,6,7]) .skip)) (.seq (sq [oV 18 7,Wn 19 18 0] [5,6,7,19] (.cond (.t 19) (sq [oV 20 6,oV 21 7,
 oM 2 (.mv (.k .nil)),oV 3 20,oV 4 21] [2,3,4] .ret) .skip)) (sq [ZL 22 1 5,oV 2 22,oI 3 0,oI 4 0] [2,3,4] .ret)))))
def c21:Cd:=sq [oM 4 (.mv kF)] [0,1] (.seq (sq [oV 6 0,ZN 7 6,oV 8 1,ZN 9 8,Yn 10 7 9] [0,1,10] (.cond (.t 10) (sq [oM 4 (.mv kF)] [4] .ret) .skip)) (.seq (sq [oI 5 0] [0,1,5] (.block 0 (.loop (.seq (sq [oV 11 5,oV 12 0,ZN 13 12,Yl 14 11 13] [0,1,5,14] (.cond (.t 14) .skip (.exit 0))) (.seq (.block 1 (.seq (.draw [oV 17 0,oV 18 5,ZI 19 21 17 18,ZM 20 21 19,oV 21 1,oV 22 5,ZI 23 21 21 22,
 ZM 24 21 23,ZD 25 11 20 24,ZU 26 25] [0,1,5,26]) (.cond (.t 26) (sq [oM 4 (.mv kF)] [4] .ret) .skip))) (.ops [oV 15 5,Wa 16 15 1,oV 5 16] [0,1,5])))))) (sq [oM 4 (.mv kT)] [4] .ret)))
def c3:Cd:=sq [oM 2 (.mv kF)] [0] (sq [oV 25 0,ZC 26 7 25,oV 24 26,ZX 27 24 0,ZX 28 24 1,ZX 29 24 2,oM 3 (.new 29 zz1),oS 21 3 27,oV 4 28,oV 5 29] [0,3,5] (.seq (sq [oV 30 5,We 31 30 0] [0,3,31] (.cond (.t 31) (sq [ZM 32 21 3,ZC 33 8 32,oV 6 33] [0,3,6] (sq [oV 35 6,ZC 36 7 35,oV 34 36,ZX 37 34 0,ZX 38 34 1,ZX 39 34 2,oM 7 (.new 29 zz1),oS 21 7 37,oV 8 38,oV 9 39] [0,3,6,7,9] (sq [oV 41 0,
 ZC 42 9 41,oV 40 42,ZX 43 40 0,ZX 44 40 1,ZX 45 40 2,oV 10 43,oV 11 44,oV 12 45] [0,3,6,7,9,10] (sq [oV 47 10,ZC 48 10 47,oV 46 48,ZX 49 46 0,ZX 50 46 1,oV 13 49,oV 14 50] [0,3,6,7,9,13] (sq [oV 52 13,ZC 53 7 52,oV 51 53,ZX 54 51 0,ZX 55 51 1,ZX 56 51 2,oM 15 (.new 29 zz1),oS 21 15 54,oV 16 55,oV 17 56] [0,3,6,7,9,13,15,17] (sq [oV 57 6,oM 58 (.len true (.t 57)),Wq 59 58 16384,oV 60 59,
 oG 61 60 (.mv (.t 9)),oG 62 60 (wn 61 0),oG 63 60 (.mv (.t 62)),oH 64 63 (zM 21 7),oH 65 63 (zM 21 3),oH 66 63 (zD 11 64 65),oH 67 63 (zU 66),oG 68 60 (zP 63 67),oG 69 60 (.mv (.t 68)),oH 70 69 (zM 21 7),oH 71 69 (zC 8 70),oH 72 69 (.mv (.t 6)),oH 73 69 (yn 71 72),oG 74 60 (zP 69 73),ZQ 75 60 74,oV 76 75,oH 77 76 (.mv (.t 13)),oH 78 76 (.len true (.t 77)),oH 79 76 (wq 78 16384),
 oH 80 76 (.mv (.t 79)),oG 81 80 (.mv (.t 17)),oG 82 80 (wn 81 0),oG 83 80 (.mv (.t 82)),oH 84 83 (zM 21 15),oH 85 83 (zM 21 3),oH 86 83 (zD 11 84 85),oH 87 83 (zU 86),oG 88 80 (zP 83 87),oH 89 76 (zQ 80 88),ZP 90 76 89] [0,90] (.cond (.t 90) (sq [oM 2 (.mv kF)] [2] .ret) .skip))))))) .skip)) (sq [oV 92 0,ZC 93 12 92,oV 91 93,ZX 94 91 0,ZX 95 91 1,ZX 96 91 2,oM 18 (.new 27 zz0),oS 9 18 94,oV 19 95,
 oV 20 96] [0,18,20] (sq [oV 98 0,oM 99 (.bin .add (kS ⟨#[40]⟩) (.t 98)),oM 100 (.bin .add (.t 99) (kS ⟨#[10,41]⟩)),ZC 101 12 100,oV 97 101,ZX 102 97 0,ZX 103 97 1,ZX 104 97 2,oM 21 (.new 27 zz0),oS 9 21 102,oV 22 103,oV 23 104] [0,18,20,21,23] (sq [oV 105 20,Wn 106 105 0,oV 107 106,oH 108 107 (.mv (.t 0)),oH 109 107 (.len true (.t 108)),oH 110 107 (wa 109 3),oH 111 107 (wg 110 16384),
 ZP 112 107 111,oV 113 112,oH 114 113 (.mv (.t 23)),oH 115 113 (we 114 0),oH 116 113 (.mv (.t 115)),oG 117 116 (zM 9 18),oG 118 116 (zM 9 21),oG 119 116 (zD 13 117 118),oH 120 113 (zQ 116 119),ZP 121 113 120,oV 122 121,oG 123 122 (.call 14 []),ZQ 124 122 123,oV 2 124] [2] .ret)))))
def rs3:List RV:=[.t 2 false]
theorem k3:aM G.tab Tryz.f3 1 c3 rs3=true:=by kernel_rfl
end Go.Proofs.YthekkgfmagliiaaGreatDoor
namespace Go.Proofs.YthekkgfmagliiaaGreatDoor
open Go.RowKit
open Nat renaming reduceLeDiff -> jA, reduceBEq -> jB, reduceLT -> jC, reduceEqDiff -> jD, reduceAdd -> jE, reduceSub -> jF, reduceMul -> jG
open V renaming copy -> jV, lend -> jW, lend1 -> jX, cells -> jY, boxable -> jZ
theorem um(l:Bs)(σ:LLV):Fun G 9 [.d (ae (bs l))] σ (aA (jL l) σ):=by
 by_cases hbig:16384<l.length
 .refine ai Tryz.func9 k9 rfl fun hb hw=>?_;unfold c9;have hbig':(16384:Int)<((l.length:Nat):Int):=by omega
  simp -dsimp only[aw,jV,jW,jX,jY,jZ,jA,reduceIte,reduceCtorEq,jB,jC,jD,jE,jF,jG,ay,decide_eq_true hbig'];exact al hb (v:=jL l) (by unfold jL;rw[if_pos hbig];rfl) (by unfold jL;rw[if_pos hbig];rfl) List.take_length ⟨rfl,rfl⟩
 .exact uH l (by omega) σ
theorem rj{l:Bs}{v:Pr}{n:Int}(h:jp l=some (v,n,0)):l.length≤16384/\eY v=0/\cl v.cond≤1000000/\cl v.then_≤1000000/\∃ts,cS l=.ok ts:=by
 obtain⟨hl,-,hv,ts,ht,hf⟩:=pX (fun ts=>w9) h;have h2:=(eo ht).2;obtain⟨b1,b2⟩:=wv hf;exact⟨hl,hv,by omega,by omega,ts,ht⟩
theorem Hw{l:Bs}{v:Ts}{n:Int}(h:kE l=some (v,n,0)):l.length≤16384/\cl v≤1000000:=by
 obtain⟨hl,-,hv,ts,ht,hf⟩:=pX (fun ts=>oQ) h;have h2:=(eo ht).2;have:=oC hf;exact⟨hl,by omega⟩
abbrev bxP(p:Pr):List V:=[.d (ae p.name),.d (.lit (.bool p.plain)),.d (.lit (.bool p.over)),
 .d (ab p.cond.op),.d (ab p.cond.lo),.d (ab p.cond.hi),.d (ab p.cond.ex.op),.d (ab p.cond.ex.num),.d (ae p.cond.ex.name),.d (.sl (p.cond.ex.args.map dex)),.d (ae p.cond.name),.d (.sl (p.cond.args.map dts)),
 .d (ab p.then_.op),.d (ab p.then_.lo),.d (ab p.then_.hi),.d (ab p.then_.ex.op),.d (ab p.then_.ex.num),.d (ae p.then_.ex.name),.d (.sl (p.then_.ex.args.map dex)),.d (ae p.then_.name),.d (.sl (p.then_.args.map dts))]
abbrev bxS(s:Ts):List V:=[.d (ab s.op),.d (ab s.lo),.d (ab s.hi),.d (ab s.ex.op),.d (ab s.ex.num),.d (ae s.ex.name),.d (.sl (s.ex.args.map dex)),.d (ae s.name),.d (.sl (s.args.map dts))]
theorem GI(l:Bs)(hl:l.length≤2000000):Fun G 3 [.d (ae (bs l))] [] (aA (aq true) []):=by
 refine ai Tryz.func3 k3 rfl fun hb hw=>?_;unfold c3;refine p3 [(0,.d (ae (bs l)))] [] ?_ ?_
 .simp -dsimp only[aw,jV,jW,jX,jY,jZ,jA,reduceIte,reduceCtorEq,jB,jC,jD,jE,jF,jG]
 refine m9 (fun ρ σ'=>∃v n e,ρ=[(0,.d (ae (bs l))),(3,.ptr 0 0),(5,.d (ab e))]/\σ'=[bxP v]/\rB zPr (jp l) v n e) ?_ ?_
 .simp -dsimp only[aw,jV,jW,jX,jY,jZ,jA,reduceIte,reduceCtorEq,jB,jC,jD,jE,jF,jG];refine aR (rp l _) fun out σ' ⟨e1,v,n,e,e2,hf⟩=>?_;subst e1;subst e2;simp -dsimp only[aw,jV,jW,jX,jY,jZ,jA,reduceIte,reduceCtorEq,jB,jC,jD,jE,jF,jG,bc,b9];exact Mid.mk ⟨v,n,e,rfl,rfl,hf⟩
 rintro ρ1 σ1 ⟨v,n,e,rfl,rfl,hf⟩;refine m9 (fun ρ σ'=>ρ=[(0,.d (ae (bs l))),(3,.ptr 0 0),(31,aq false)]\/ρ=[(0,.d (ae (bs l))),(90,aq false)]) ?_ ?_
 .by_cases he:e=0
  .have hok:=hf.ok he;obtain⟨-,hv,b1,b2,ts,ht⟩:=rj hok;obtain⟨ts',ht',hj⟩:=yu hok;cases (show _=_ from ht.symm.trans ht')
   have hlR:jL l=.tup [.d (.sl (ts.map dF)),.d (ab 0),.d (ab 0)]:=by
    unfold jL;rw[if_neg (by have:=(rj hok).1;omega),ht];rfl
   have h1:=fun σ=>pE v b1 b2 σ;have hpr:xj v=mg v:=by unfold xj;rw[if_pos hv]
   rw[hpr]at h1;have h2:=fun σ=>um l σ;rw[hlR]at h2;obtain⟨hgood,hlen⟩:=eo ht;have h3:=fun σ=>xS ts (by have:=(rj hok).1;omega) (fun t h=>by have:=(hgood t h).2;omega) σ;have hj':mP ts=.tup [.d (ae (bs (cR ts))),.d (ab 0)]:=by unfold mP;rw[if_pos (List.all_eq_true.2 fun t h=>(hgood t h).1)]
   rw[hj']at h3;have h5:=fun σ=>sn v v b1 b2 σ;rw[(xW v v).2 rfl]at h5;have hb1:=yB hv;generalize mg v=T at *;generalize cR ts=J at *;simp only[b9]at h1 h5;simp -dsimp only[aw,jV,jW,jX,jY,jZ,jA,reduceIte,reduceCtorEq,jB,jC,jD,jE,jF,jG,decide_eq_true he];refine ac (h1 _) ?_;simp -dsimp only[aw,jV,jW,jX,jY,jZ,jA,reduceIte,reduceCtorEq,jB,jC,jD,jE,jF,jG];by_cases hT:16384<T.length
   .rw[if_pos hT]at hb1;have h4:=fun σ=>eZ hb1 σ;have hT':¬((T.length:Nat):Int)≤16384:=by omega
    simp only[b9]at h4;refine ac (h4 _) ?_;simp -dsimp only[aw,jV,jW,jX,jY,jZ,jA,reduceIte,reduceCtorEq,jB,jC,jD,jE,jF,jG];refine ac (h2 _) ?_;simp -dsimp only[aw,jV,jW,jX,jY,jZ,jA,reduceIte,reduceCtorEq,jB,jC,jD,jE,jF,jG];refine ac (h3 _) ?_;simp -dsimp only[aw,jV,jW,jX,jY,jZ,jA,reduceIte,reduceCtorEq,jB,jC,jD,jE,jF,jG];by_cases hJ:16384<J.length
    .rw[if_pos hJ]at hj;have h6:=fun σ=>eZ hj σ;have hJ':¬((J.length:Nat):Int)≤16384:=by omega
     simp only[b9]at h6;refine ac (h6 _) ?_;simp -dsimp only[aw,jV,jW,jX,jY,jZ,jA,reduceIte,reduceCtorEq,jB,jC,jD,jE,jF,jG,ay,decide_eq_false hT',decide_eq_false hJ'];exact Mid.mk (.inr rfl)
    .rw[if_neg hJ]at hj;have h6:=fun σ=>eZ hj σ;have hJ':((J.length:Nat):Int)≤16384:=by omega
     simp only[b9]at h6;refine ac (h6 _) ?_;simp -dsimp only[aw,jV,jW,jX,jY,jZ,jA,reduceIte,reduceCtorEq,jB,jC,jD,jE,jF,jG,ay,decide_eq_false hT',decide_eq_true hJ',decide_true];refine ac (h5 _) ?_;simp -dsimp only[aw,jV,jW,jX,jY,jZ,jA,reduceIte,reduceCtorEq,jB,jC,jD,jE,jF,jG];exact Mid.mk (.inr rfl)
   .rw[if_neg hT]at hb1;have h4:=fun σ=>eZ hb1 σ;have hT':((T.length:Nat):Int)≤16384:=by omega
    simp only[b9]at h4;refine ac (h4 _) ?_;simp -dsimp only[aw,jV,jW,jX,jY,jZ,jA,reduceIte,reduceCtorEq,jB,jC,jD,jE,jF,jG];refine ac (h2 _) ?_;simp -dsimp only[aw,jV,jW,jX,jY,jZ,jA,reduceIte,reduceCtorEq,jB,jC,jD,jE,jF,jG];refine ac (h3 _) ?_;simp -dsimp only[aw,jV,jW,jX,jY,jZ,jA,reduceIte,reduceCtorEq,jB,jC,jD,jE,jF,jG];by_cases hJ:16384<J.length
    .rw[if_pos hJ]at hj;have h6:=fun σ=>eZ hj σ;have hJ':¬((J.length:Nat):Int)≤16384:=by omega
     simp only[b9]at h6;refine ac (h6 _) ?_;simp -dsimp only[aw,jV,jW,jX,jY,jZ,jA,reduceIte,reduceCtorEq,jB,jC,jD,jE,jF,jG,ay,decide_eq_true hT',decide_true];refine ac (h5 _) ?_;simp -dsimp only[aw,jV,jW,jX,jY,jZ,jA,reduceIte,reduceCtorEq,jB,jC,jD,jE,jF,jG];refine ac (h1 _) ?_;simp -dsimp only[aw,jV,jW,jX,jY,jZ,jA,reduceIte,reduceCtorEq,jB,jC,jD,jE,jF,jG,ay,decide_eq_false hJ',decide_true];exact Mid.mk (.inr rfl)
    .rw[if_neg hJ]at hj;have h6:=fun σ=>eZ hj σ;have hJ':((J.length:Nat):Int)≤16384:=by omega
     simp only[b9]at h6;refine ac (h6 _) ?_;simp -dsimp only[aw,jV,jW,jX,jY,jZ,jA,reduceIte,reduceCtorEq,jB,jC,jD,jE,jF,jG,ay,decide_eq_true hT',decide_true];refine ac (h5 _) ?_;simp -dsimp only[aw,jV,jW,jX,jY,jZ,jA,reduceIte,reduceCtorEq,jB,jC,jD,jE,jF,jG];refine ac (h1 _) ?_;simp -dsimp only[aw,jV,jW,jX,jY,jZ,jA,reduceIte,reduceCtorEq,jB,jC,jD,jE,jF,jG,ay,decide_eq_true hJ',decide_true];refine ac (h5 _) ?_;simp -dsimp only[aw,jV,jW,jX,jY,jZ,jA,reduceIte,reduceCtorEq,jB,jC,jD,jE,jF,jG];exact Mid.mk (.inr rfl)
  .simp -dsimp only[aw,jV,jW,jX,jY,jZ,jA,reduceIte,reduceCtorEq,jB,jC,jD,jE,jF,jG,decide_eq_false he];exact Mid.mk (.inl rfl)
 intro ρ1 σ1 hρ;clear hf;refine m9 (fun ρ σ'=>∃v n e,ρ=[(0,.d (ae (bs l))),(18,.ptr σ1.length 0),(20,.d (ab e))]/\σ'=σ1++[bxS v]/\rB zT (kE l) v n e) ?_ ?_
 .rcases hρ with rfl|rfl
  all_goals
   simp -dsimp only[aw,jV,jW,jX,jY,jZ,jA,reduceIte,reduceCtorEq,jB,jC,jD,jE,jF,jG];refine aR (ka l _) fun out σ' ⟨e1,v,n,e,e2,hf⟩=>?_;subst e1;subst e2;simp -dsimp only[aw,jV,jW,jX,jY,jZ,jA,reduceIte,reduceCtorEq,jB,jC,jD,jE,jF,jG,bc,am];exact Mid.mk ⟨v,n,e,rfl,rfl,hf⟩
 rintro ρ2 σ2 ⟨s,n1,f,rfl,rfl,hs⟩;have a1:aQ .add (V.d (ae ⟨#[40]⟩)) (V.d (ae (bs l)))=some (V.d (ae (bs (40::l)))):=bX [40] l (by simp;omega);have a2:aQ .add (V.d (ae (bs (40::l)))) (V.d (ae ⟨#[10,41]⟩))=some (V.d (ae (bs (40::(l++[10,41]))))):=bX (40::l) [10,41] (by simp;omega);refine m9 (fun ρ σ'=>∃v n e,ρ=[(0,.d (ae (bs l))),(18,.ptr σ1.length 0),(20,.d (ab f)),(21,.ptr (σ1++[bxS s]).length 0),(23,.d (ab e))]/\σ'=(σ1++[bxS s])++[bxS v]/\rB zT (kE (40::(l++[10,41]))) v n e) ?_ ?_
 .generalize σ1++[bxS s]=σ3 at *;simp -dsimp only[aw,jV,jW,jX,jY,jZ,jA,reduceIte,reduceCtorEq,jB,jC,jD,jE,jF,jG,a1,a2];refine aR (ka _ _) fun out σ' ⟨e1,v,n,e,e2,hf⟩=>?_;subst e1;subst e2;simp -dsimp only[aw,jV,jW,jX,jY,jZ,jA,reduceIte,reduceCtorEq,jB,jC,jD,jE,jF,jG,bc,am];exact Mid.mk ⟨v,n,e,rfl,rfl,hf⟩
 rintro ρ3 σ3 ⟨s2,n2,g,rfl,rfl,hs2⟩;have hw3:IntKind.i64.wrap (((l.length:Nat):Int)+3)=((l.length:Nat):Int)+3:=aJ (by omega) (by omega);by_cases hf0:f=0
 .by_cases hq:16384<l.length+3
  .have hq':(16384:Int)<((l.length:Nat):Int)+3:=by omega
   simp -dsimp only[aw,jV,jW,jX,jY,jZ,jA,reduceIte,reduceCtorEq,jB,jC,jD,jE,jF,jG,decide_eq_true hf0,ay,hw3,decide_eq_true hq'];refine ac (nX _) ?_;simp -dsimp only[aw,jV,jW,jX,jY,jZ,jA,reduceIte,reduceCtorEq,jB,jC,jD,jE,jF,jG];exact al hb rfl rfl rfl ⟨rfl,rfl⟩
  .have hq':¬(16384:Int)<((l.length:Nat):Int)+3:=by omega
   have hok:=hs.ok hf0;have hb2:=(Hw hok).2;have hp:=yp hok;rw[if_neg hq]at hp;rw[hp]at hs2;cases (show _=_ from hs2);have h5:=fun σ=>ko s s hb2 σ;rw[(jP s s).2 rfl]at h5;simp only[am]at h5;simp -dsimp only[aw,jV,jW,jX,jY,jZ,jA,reduceIte,reduceCtorEq,jB,jC,jD,jE,jF,jG,decide_eq_true hf0,ay,hw3,decide_eq_false hq',decide_true];refine ac (h5 _) ?_;simp -dsimp only[aw,jV,jW,jX,jY,jZ,jA,reduceIte,reduceCtorEq,jB,jC,jD,jE,jF,jG];refine ac (nX _) ?_;simp -dsimp only[aw,jV,jW,jX,jY,jZ,jA,reduceIte,reduceCtorEq,jB,jC,jD,jE,jF,jG];exact al hb rfl rfl rfl ⟨rfl,rfl⟩
 .simp -dsimp only[aw,jV,jW,jX,jY,jZ,jA,reduceIte,reduceCtorEq,jB,jC,jD,jE,jF,jG,decide_eq_false hf0];refine ac (nX _) ?_;simp -dsimp only[aw,jV,jW,jX,jY,jZ,jA,reduceIte,reduceCtorEq,jB,jC,jD,jE,jF,jG];exact al hb rfl rfl rfl ⟨rfl,rfl⟩
section
variable {H : Type} {enc : TypeId × Value -> H} {P : Program} {W : World} {base : Nat} {spare : Nat -> Bool} {held : Bool} {fuel : Nat} {t : TypeId} {cs : List Value} {x : DataW H × List MemPlace}
end
end Go.Proofs.YthekkgfmagliiaaGreatDoor
namespace Go.Proofs.YthekkgfmagliiaaGreatDoor
open Go.RowKit
open Nat renaming reduceLeDiff -> jA, reduceBEq -> jB, reduceLT -> jC, reduceEqDiff -> jD, reduceAdd -> jE, reduceSub -> jF, reduceMul -> jG
open V renaming copy -> jV, lend -> jW, lend1 -> jX, cells -> jY, boxable -> jZ
theorem pm{P:Program}{W:World}{n:String}{d:DataW Unit}:∀{l:List (String×DataW Unit)} {ps:List MemPlace},DataW.LaidVars P W l ps->(n,d)∈l->
 ∃g t cs fuel p,P.globalNamed n=some g/\(P.globals[g]?).map (·.type)=some t/\W.var? P n=some cs/\DataW.trod (fun _=>()) P W 0 (fun _=>true) false fuel t cs.toList=some (d,p)
 | [],_,_,h=>by cases h
 | (n',d')::r,ps,hv,h=>by
  obtain⟨g,t,cs,fuel,p,q,h1,h2,h3,h4,h5,-⟩:=hv;rcases List.mem_cons.1 h with h|h
  .cases h;exact⟨g,t,cs,fuel,p,h1,h2,h3,h4⟩
  .exact pm h5 h
theorem m7{W:World}{n:String}{g:Nat}{l:List ByteArray}{d:DataW Unit}(hg:Tryz.prog.globalNamed n=some g)(ht:(Tryz.prog.globals[g]?).map (·.type)=some 92)(hd:d=.slice (l.map fun s=>.lit (.string s.data.toList)) [])(hl:0<l.length)
 {cs:Array Value}{fuel:Nat}{p:List MemPlace}(hvar:W.var? Tryz.prog n=some cs)(hr:DataW.trod (fun _=>()) Tryz.prog W 0 (fun _=>true) false fuel 92 cs.toList=some (d,p)):∃v,W.cell? ⟨g,0,none⟩=some v/\fC W l v:=by
 subst hd;rcases DataW.trod_slice Tryz.underlying92 hr with⟨-,hx⟩|⟨ad,len,cap,elems,rest,n',hn',g3,hx,hb,hl',hm,hlen2,hel,-,-⟩
 .simp at hx
 .simp only[Prod.mk.injEq,DataW.slice.injEq]at hx;obtain⟨⟨hx1,-⟩,-⟩:=hx;have hlen:len=l.length:=by have h9:=congrArg List.length hx1;rw[Ru,Ru]at h9;rw[<-hlen2,h9]
  have hc0:=World.var?_cell hg hvar 0;have hv:cs.toList[0]? = some (.slice (some ad) len cap):=by rw[g3];rfl
  refine⟨.slice (some ad) len cap,by rw[hc0];simpa using hv,?_⟩
  have hcell:∀i (hi:i<len),∃s:ByteArray,W.cell? (ad.add i)=some (.string s)/\l[i]? = some s:=by
   intro i hi;have h1:=hel i hi;rw[show Tryz.prog.cellsOf 9=1 by kernel_rfl,Nat.mul_one,Rs (by omega)]at h1;obtain⟨cs',hc,ht⟩:=Option.bind_eq_some_iff.1 h1;obtain⟨-,hcl,hcc⟩:=World.cells?_some hc;obtain⟨s,rfl,hs,-⟩:=DataW.trod_string Tryz.underlying9 ht;have h2:=hcc 0 (by omega);refine⟨s,by simpa[Addr.add]using h2,?_⟩;have h3:=congrArg (·[i]?) hx1;simp only[List.getElem?_map,Rs (show i<elems.length by omega),Option.map_some,hs]at h3;rw[Option.map_eq_some_iff]at h3;obtain⟨s',h4,h5⟩:=h3;rw[h4];simp only[DataW.lit.injEq,Lit.string.injEq]at h5;congr 1;cases s';cases s;simp at h5;simp[h5]
  have hsp:ad.spot=none:=by
   obtain⟨s,h1,-⟩:=hcell 0 (by rw[hlen];exact hl);have:=BI h1;simpa[Addr.add]using this
  rw[hlen];refine⟨some ad,cap,rfl,by omega,hm,fun i s hi=>⟨ad.block,ad.off,by cases ad;simp_all,?_⟩⟩;obtain⟨s',h1,h2⟩:=hcell i (by rw[hlen];exact(List.getElem?_eq_some_iff.1 hi).1);rw[hi]at h2;cases h2
  have ha:ad.add i=⟨ad.block,ad.off+i,none⟩:=by
   cases ad;simp only at hsp;subst hsp;unfold Addr.add;by_cases h:i=0
   .subst h;simp
   .simp[h]
  rw[ha]at h1;exact h1
theorem xZ{w:World}{l:List ByteArray}{v:Value}(h:fC w l v)(hs:∀s,s∈l->s.size≤maxLen):DRep (mem w) (dw l) v:=by
 obtain⟨p,cap,rfl,h4,h5,h6⟩:=h;have hlen:l.length=(l.map fun s=>[ae s]).length:=by simp
 unfold dw;rw[hlen];refine .sl _ 1 p cap (fun i _=>.string (l[i]?.getD ⟨#[]⟩)) (fun r hr=>?_) (fun i j hi hj=>?_) (fun i hi=>?_) (by omega) h5
 .obtain⟨s,-,rfl⟩:=List.mem_map.1 hr;rfl
 .have hi':i<l.length:=by simpa using hi
  have hj0:j=0:=by simpa using hj
  subst hj0;simp only[List.getElem_map,List.getElem_cons_zero,Rs hi',Option.getD_some];exact .lit _ (hs _ (List.getElem_mem hi'))
 .have hi':i<l.length:=by simpa using hi
  obtain⟨b,off,h7,h8⟩:=h6 i _ (Rs hi');refine⟨b,off,h7,fun j hj=>?_⟩;have hj0:j=0:=by omega
  subst hj0;simp only[Rs hi',Option.getD_some];simpa[mem]using h8
def u3:List (String×DataW Unit):=[("math/bits.deBruijn32tab",Rows.laid_math_bits_deBruijn32tab),("math/bits.deBruijn64tab",Rows.laid_math_bits_deBruijn64tab),("internal/strconv.uint64pow10",Rows.laid_internal_strconv_uint64pow10),("strconv.ErrRange",Rows.laid_strconv_ErrRange),("strconv.ErrSyntax",Rows.laid_strconv_ErrSyntax),("testbench/lexer.keywords",Rows.laid_testbench_lexer_keywords),("testbench/lexer.marks",Rows.laid_testbench_lexer_marks)]
theorem MV{w:World}(h:laidMet Tryz.prog u3 w):G.glob (mem w) (fun b=>b<w.heap.size) w:=by
 obtain⟨ps,hv,-,hpl⟩:=h;have at':=fun n d=>@pm Tryz.prog w n d u3 ps hv;refine⟨fun g cs hg=>?_,fun g p hg=>?_⟩
 .change (if g=0 then some [dw dk]else if g=1 then some [.sl (aC.map fun s=>[.lit (.string (bs s))])]else none)=some cs at hg
  have fin:∀(l:List ByteArray),(∃v,w.cell? ⟨g,0,none⟩=some v/\fC w l v)->(∀s,s∈l->s.size≤maxLen)->cs=[dw l]->∃val:Nat->Value,(∀j,j<cs.length->mem w g j=some (val j))/\∀j (h:j<cs.length),DRep (mem w) cs[j] (val j):=by
   rintro l ⟨v,h1,h2⟩ hs rfl;refine⟨fun _=>v,fun j hj=>?_,fun j hj=>?_⟩
   .have hj0:j=0:=by simpa using hj
    subst hj0;exact h1
   .have hj0:j=0:=by simpa using hj
    subst hj0;exact xZ h2 hs
  split at hg
  .rename_i e;subst e;obtain⟨g',t,vs,fuel,p,h1,h2,h3,h4⟩:=at' "testbench/lexer.keywords" Rows.laid_testbench_lexer_keywords (by simp[u3]);obtain rfl:=Option.some.inj ((show Tryz.prog.globalNamed "testbench/lexer.keywords" = some 0 by kernel_rfl).symm.trans h1);obtain rfl:=Option.some.inj ((show(Tryz.prog.globals[0]?).map (·.type)=some 92 by kernel_rfl).symm.trans h2);exact fin dk (m7 h1 h2 (show Rows.laid_testbench_lexer_keywords (H:=Unit)=.slice (dk.map fun s=>.lit (.string s.data.toList)) []by kernel_rfl) (by decide) h3 h4) (by decide +kernel) (by simpa using hg.symm)
  .split at hg
   .rename_i e;subst e;obtain⟨g',t,vs,fuel,p,h1,h2,h3,h4⟩:=at' "testbench/lexer.marks" Rows.laid_testbench_lexer_marks (by simp[u3]);obtain rfl:=Option.some.inj ((show Tryz.prog.globalNamed "testbench/lexer.marks" = some 1 by kernel_rfl).symm.trans h1);obtain rfl:=Option.some.inj ((show(Tryz.prog.globals[1]?).map (·.type)=some 92 by kernel_rfl).symm.trans h2);exact fin gC (m7 h1 h2 (show Rows.laid_testbench_lexer_marks (H:=Unit)=.slice (gC.map fun s=>.lit (.string s.data.toList)) []by kernel_rfl) (by decide) h3 h4) (by decide +kernel) (by have:=Option.some.inj hg;rw[<-this];unfold dw gC;rw[List.map_map];rfl)
   .cases hg
 .have block:∀{n:String} {g:Nat} {cs:Array Value},Tryz.prog.globalNamed n=some g->w.var? Tryz.prog n=some cs->g<w.heap.size/\∃T z,w.heap[g]? = some (.cells cs T z):=by
   intro n g cs h1 h2;unfold World.var? at h2;rw[h1,Option.bind_some]at h2;split at h2
   .rename_i cs' T z hh;cases h2;exact⟨(Array.getElem?_eq_some_iff.1 hh).1,T,z,hh⟩
   .cases h2
  change (if g=3 then some (fun cs=>cs=(Lib.pow10Tab.map fun z=>Value.int .u64 z).toArray)else if g=5 then some (fun cs=>∃t x,cs[0]? = some (.iface t x))else none)=some p at hg;split at hg
  .rename_i e;subst e;cases hg;obtain⟨g',t,vs,fuel,p,h1,h2,h3,h4⟩:=at' "internal/strconv.uint64pow10" Rows.laid_internal_strconv_uint64pow10 (by simp[u3]);obtain rfl:=Option.some.inj ((show Tryz.prog.globalNamed "internal/strconv.uint64pow10" = some 3 by kernel_rfl).symm.trans h1);obtain rfl:=Option.some.inj ((show(Tryz.prog.globals[3]?).map (·.type)=some 189 by kernel_rfl).symm.trans h2);obtain⟨k1,T,z,k2⟩:=block h1 h3;refine⟨k1,vs,T,z,k2,?_⟩;have e:Rows.laid_internal_strconv_uint64pow10 (H:=Unit)=Lib.tabData .u64 Lib.pow10Tab:=by kernel_rfl
   rw[e]at h4;have:=Lib.cells_of_tab (n:=20) Tryz.underlying189 Tryz.underlying171 (by kernel_rfl) (by kernel_rfl) h4;rw[<-this]
  .split at hg
   .rename_i e;subst e;cases hg;obtain⟨g',t,vs,fuel,p,h1,h2,h3,h4⟩:=at' "strconv.ErrRange" Rows.laid_strconv_ErrRange (by simp[u3]);obtain rfl:=Option.some.inj ((show Tryz.prog.globalNamed "strconv.ErrRange" = some 5 by kernel_rfl).symm.trans h1);obtain rfl:=Option.some.inj ((show(Tryz.prog.globals[5]?).map (·.type)=some 126 by kernel_rfl).symm.trans h2);obtain⟨k1,T,z,k2⟩:=block h1 h3;refine⟨k1,vs,T,z,k2,?_⟩;cases fuel with
    | zero=>simp[DataW.trod]at h4
    | succ fuel=>
     obtain⟨ms,hms⟩:∃ms,Tryz.prog.underlying 126=some (.interface ms):=⟨_,Tryz.underlying126⟩
     unfold DataW.trod at h4;rw[hms]at h4
     have hl:∃a,vs.toList=[a]/\∃t x,a=.iface t x:=by
      split at h4<;>simp_all[Rows.laid_strconv_ErrRange]
     obtain⟨a,ha,t,x,rfl⟩:=hl;exact⟨t,x,by rw[<-Array.getElem?_toList,ha];rfl⟩
   .cases hg
theorem si{f:FuncId}{args:List V}{vs:List Value}{u:Value}{w:World}(hk:laidMet Tryz.prog u3 w)(h:Fun G f args [] (aA (.d (.lit u)) []))(hl:vs.length=args.length)
 (hr:∀i (h:i<args.length) (h':i<vs.length),Rep (mem w) [] args[i] vs[i]):Calls Tryz.prog f vs.toArray w fun e w'=>e=.returned u/\Ext w w':=by
 refine(h.2 _ _ _ _ _ _ (MV hk) (BQ w) (fun _=>rfl) hl hr).mono fun e w' ⟨M',bm',tk',σ',o,⟨h1,h2⟩,h3,h4,h5⟩=>?_;subst h1;obtain⟨v,h6,h7,-⟩:=h5.1 _ rfl;cases h7 with
 | d h7=>
 cases h7 with
 | lit _ _=>exact⟨h6,h4.os,h4.tape,h4.output,h4.size,fun b hb=>h4.keep b hb⟩
end Go.Proofs.YthekkgfmagliiaaGreatDoor
namespace Go.Proofs.YthekkgfmagliiaaGreatDoor
open Go.ChangeShapes Go.WideShapes Go.RowKit
theorem Tryz.own:ownKnob Tryz.prog.godebug=none:=by kernel_rfl
theorem Tryz.laidOut:laidOutB Tryz.prog=true:=by kernel_rfl
def iZ(w:World)(g:Nat)(cs:Array Value):World:=
 {w with heap:=w.heap.modify g fun
   | .cells _ t frozen=>.cells cs t frozen
   | o=>o}
noncomputable def nN(os:Os):World:=
 let w0:=World.holding Tryz.prog os ⟨#[],#[],[]⟩;let n:=w0.heap.size;let w1:=(((w0.alloc (.cells (dk.map Value.string).toArray 9)).alloc (.cells (gC.map Value.string).toArray 9)).alloc (.cells #[.string ⟨#[118,97,108,117,101,32,111,117,116,32,111,102,32,114,97,110,103,101]⟩] 212)).alloc (.cells #[.string ⟨#[105,110,118,97,108,105,100,32,115,121,110,116,97,120]⟩] 212);let w2:=iZ w1 0 #[.slice (some ⟨n,0,none⟩) 24 24];let w3:=iZ w2 1 #[.slice (some ⟨n+1,0,none⟩) 36 36];let w4:=iZ w3 5 #[.iface 210 (.pointer (some ⟨n+2,0,none⟩))];let w5:=iZ w4 4 #[.iface 210 (.pointer (some ⟨n+3,0,none⟩))];let w6:=iZ w5 3 (Lib.pow10Tab.map fun z=>Value.int .u64 z).toArray;let w7:=iZ w6 6 (([0,1,28,2,29,14,24,3,30,22,20,15,25,17,4,8,31,27,13,23,21,19,16,7,26,12,18,6,11,5,10,9]:List Int).map fun z=>Value.int .u8 z).toArray
 iZ w7 7 (([0,1,56,2,57,49,28,3,61,58,42,50,38,29,17,4,62,47,59,36,45,43,51,22,53,39,33,30,24,18,12,5,63,55,48,27,60,41,37,16,46,35,44,21,52,32,23,11,54,26,40,15,34,20,31,10,25,14,19,9,13,8,7,6]:List Int).map fun z=>Value.int .u8 z).toArray
theorem sg(os:Os)(args:Array Value):laidMet Tryz.prog u3 ((nN os).forCall (fun _ _=>0) ⟨#[],args,[]⟩).memory:=
 laidMet_of_run' 8 (by kernel_rfl) (by kernel_rfl)
theorem Ext.below{w w':World}(h:Ext w w'):Below w.heap.size w w':=⟨h.os,h.tape,h.output,h.size,h.block⟩
theorem yV{H:Type}{enc:TypeId×Value->H}{w:World}{t:TypeId}{v:Value}{d:DataW H}{p:List MemPlace}{base:Nat}{spare:Nat->Bool}{held:Bool}(h:DataW.Trod enc Tryz.prog w base spare held t v d p):∀x∈p,x.block<w.heap.size:=by
 obtain⟨m,hm⟩:=h;exact DataW.trod_lt m _ _ _ hm
section
variable {H : Type} {enc : TypeId × Value -> H} {w : World} {v : Value} {d : DataW H} {p : List MemPlace} {base : Nat} {spare : Nat -> Bool} {held : Bool}
instance:Inhabited Tok:=⟨⟨0,0,⟨#[]⟩,0⟩⟩
end
end Go.Proofs.YthekkgfmagliiaaGreatDoor
namespace Go.Proofs.YthekkgfmagliiaaGreatDoor
open Go.ChangeShapes Go.WideShapes Go.ChangeAt Go.RowKit
instance:Inhabited Ex:=⟨.mk 0 0 ⟨#[]⟩ []⟩
instance:Inhabited Ts:=⟨.mk 0 0 0 (.mk 0 0 ⟨#[]⟩ []) ⟨#[]⟩ []⟩
instance:Inhabited Pr:=⟨zPr⟩
section
variable {H : Type} {enc : TypeId × Value -> H} {w : World} {v : Value} {d : DataW H} {p : List MemPlace} {base : Nat} {spare : Nat -> Bool} {held : Bool}
theorem DP(h:DataW.Trod enc Tryz.prog w base spare held 9 v d p)(hv:Value.okWide Tryz.prog w .any base 9 v):∃l:Bs,Rep (mem w) [] (V.d (ae (bs l))) v/\l.length≤Rows.uptoBulk d:=by
 obtain⟨n,rfl⟩:=okWide_string Tryz.underlying9 hv;obtain⟨fuel,hf⟩:=h;obtain⟨o,g0,g1,w0⟩:=DataW.trod_string Tryz.underlying9 hf;cases g0;cases g1;exact⟨n.data.toList,by rw[fl];exact .d (.lit _ w0),by unfold Rows.uptoBulk;omega⟩
end
end Go.Proofs.YthekkgfmagliiaaGreatDoor
namespace Go.Proofs.YthekkgfmagliiaaGreatDoor
open Go.ChangeShapes Go.WideShapes Go.ChangeAt Go.RowKit
theorem iR(H:Type)(enc:TypeId×Value->H)(W:World)(base:Nat)(args:Array Value)(ds gs:List (DataW H))(before:List MemPlace)
 (hval:∀(j:Nat) t v,Tryz.f3.params[j]? = some t->args[j]? = some v->Value.okWide Tryz.prog W .any base t v)
 (hW:DataW.Whole enc Tryz.prog Tryz.f3.params.toList Rows.proptextCanonicalSpec.vars false W args.toList ds gs before)(hL:laidMetH Tryz.prog u3 W)(hk:Rows.uptoSmall H (ds++gs)=true):
 Calls Tryz.prog 3 args W fun e W'=>∃v,e=.returned v/\Rows.proptextCanonicalSpec.post enc Tryz.prog Tryz.f3 false true false false W args v W':=by
 have hW':=hW;obtain⟨p,q,hA0,hV0,rfl,hfz,hnd⟩:=hW;have hA:DataW.TrodAll enc Tryz.prog W 0 (fun _=>true) true Tryz.f3.params.toList args.toList ds p:=hA0;have hV:DataW.TrodVars enc Tryz.prog W (fun _=>true) [] gs q:=hV0;rw[Tryz.params3]at hA hval;obtain⟨v0,d0,rfl,rfl,h0⟩:=trodAll_one hA;obtain⟨rfl,rfl⟩:=trodVars_none hV;have lt0:=yV h0;obtain⟨l0,hv0,hb0⟩:=DP h0 (hval 0 9 v0 rfl rfl)
 have hbd:Rows.uptoBulk d0+0≤1048576:=by
  have:=of_decide_eq_true hk;simpa only[List.cons_append,List.nil_append,Rows.uptoBulkAll]using this
 have e1:Rows.proptextCanonicalSpec.fn H ([d0]++[])={results:=[.lit (.bool true)],args:=[d0]}:=by simp[Rows.proptextCanonicalSpec]
 refine(si (vs:=[v0]) hL (GI l0 (by omega)) rfl (fun i h h'=>?_)).mono fun en W' ⟨he,hx⟩=>?_
 .match i,h with
  | 0,_=>exact hv0
 subst he;have bel:=hx.below;refine⟨_,rfl,_,_,_,[],p,[],hW',?_,?_,?_,bel.frame _,fun h=>by cases h⟩
 .rw[e1];exact trodAll_mk1 (shut_bool Tryz.underlying4 true)
 .rw[e1];exact trodAll_mk1 (Below.trod Tryz.laidOut (by kernel_rfl) (of_decide_eq_true (by kernel_rfl)) h0 bel lt0)
 .rw[e1];rfl
theorem jw(os:Os)(started:os.Started)(H:Type)(enc:TypeId×Value->H)(F:Stop.Interp):
 ReturnsInHanded {} Tryz.checked os 3 .any ((Rows.OpenSpec.upto Rows.proptextCanonicalSpec).preRow enc Tryz.prog Tryz.f3 Rows.proptextCanonicalUptoRow.domain false Rows.proptextCanonicalUptoRow.laid) (((Rows.OpenSpec.upto Rows.proptextCanonicalSpec).at F).post enc Tryz.prog Tryz.f3 false true false false):=by
 have hx:DataW.whole enc Tryz.prog ((nN os).forCall (fun _ _=>0) ⟨#[],#[.string ⟨#[]⟩],[]⟩).memory Tryz.f3.params.toList Rows.proptextCanonicalSpec.vars false #[Value.string ⟨#[]⟩].toList 8=some ([.lit (.string [])],[],[]):=by kernel_rfl
 refine returnsInHanded_of_row (C:=Tryz.checked) (s:=Rows.OpenSpec.upto Rows.proptextCanonicalSpec) Tryz.own started (by kernel_rfl) Tryz.func3
  (witness_row_atRef (enc:=enc) (C:=Tryz.checked) false (nN os) #[.string ⟨#[]⟩] rfl (by kernel_rfl) (by kernel_rfl) (by kernel_rfl)
    (OpenSpec.preRow_of_cond 8 hx (by kernel_rfl) (fun k hk=>by cases hk;kernel_rfl) (by kernel_rfl) (sg os _))) ?_
 intro W base args ds gs before hval hW _ hcond _ hL _ _;exact iR H enc W base args ds gs before hval hW hL (hcond _ rfl)
theorem ge:Rows.ProptextCanonicalUptoSaid:=
 OpenClaim.holds_of_cond 3 Tryz.f3 rfl rfl rfl rfl rfl rfl rfl ⟨rfl,rfl,rfl,rfl,rfl⟩ rfl rfl rfl rfl rfl (by kernel_rfl) Tryz.func3 (by kernel_rfl)
  (of_decide_eq_true (by kernel_rfl)) (by unfold Func.isWrapper;first|(rw[if_pos (by decide +kernel)];kernel_rfl)|(rw[if_neg (by decide +kernel)];exact⟨rfl,rfl⟩))
  (fun os started H enc _ F=>by rw[OpenClaim.pre_eq_preRow];exact jw os started H enc F)
#print axioms ge
end Go.Proofs.YthekkgfmagliiaaGreatDoor
