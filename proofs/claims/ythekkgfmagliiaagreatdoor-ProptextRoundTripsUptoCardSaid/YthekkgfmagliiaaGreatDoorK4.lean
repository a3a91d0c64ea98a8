import Derived.Test.YthekkgfmagliiaaGreatDoorQm9
set_option linter.unusedVariables false
set_option linter.unusedSimpArgs false
set_option linter.unusedSectionVars false
set_option maxRecDepth 100000
set_option maxHeartbeats 4000000
open List renaming take_left->RS,getElem?_set_ne->RU,take_length->RW,append_nil->RX,map_cons->RY,take_of_length_le->RZ,set_getElem_self->R0,length_set->R5
open Nat renaming zero_le->R6,le_refl->R7
namespace Go.Proofs.YthekkgfmagliiaaGreatDoor
open Go.RowKit
open Nat renaming reduceLeDiff -> jA, reduceBEq -> jB, reduceLT -> jC, reduceEqDiff -> jD, reduceAdd -> jE, reduceSub -> jF, reduceMul -> jG
open V renaming copy -> jV, lend -> jW, lend1 -> jX, cells -> jY, boxable -> jZ
section
variable {α : Type} {mk : α -> V} {σ0 σ : LLV} {i : Nat} {ts : List Tok} {a : Nat} {L : Int} {K P : V -> LLV -> Prop} {s : Tag K} {t : Tag P} {f : FuncId} {args : List V} {y : QF α}
theorem AU(S:Pst σ0 i ts a L σ)(hne:y≠.out)(h:Fun G f args σ (QC mk ts i σ y))(ht:∀v a2 L2,y=.ok v a2 L2->∀σ',Pst σ0 i ts a2 L2 σ'->σ'.length=σ.length->K (mk v) σ')(hf:∀l' e b L2,y=.bad l' e->∀σ',Pst σ0 i ts b L2 σ'->σ'.length=σ.length->P (gL l' e) σ'):
 jN G f args σ K P s t:=by
 have:=fi (l:=[]) (K:=K) (P:=P) (s:=s) (t:=t) (args:=args) (f:=f) S hne (by rw[RX];exact h) (fun v a2 L2 h1 σ' h2 h3=>by rw[RX];exact ht v a2 L2 h1 σ' h2 h3) (fun l' e b L2 h1 σ' h2 h3=>by rw[RX];exact hf l' e b L2 h1 σ' h2 h3);rwa[RX]at this
end
def xH(s:Ts):List V:=(dts s).map V.d
def prC(p:Pr):List V:=(dpr p).map V.d
theorem lV(s:Ts):xH s=[.d (ab s.op),.d (ab s.lo),.d (ab s.hi),.d (ab s.ex.op),.d (ab s.ex.num),.d (ae s.ex.name),.d (.sl (s.ex.args.map dex)),.d (ae s.name),.d (.sl (s.args.map dts))]:=by unfold xH;rw[bw];rfl
theorem Fy(p:Pr):prC p=.d (ae p.name)::.d (.lit (.bool p.plain))::.d (.lit (.bool p.over))::(xH p.cond++xH p.then_):=by unfold prC dpr xH;rw[RY,RY,RY,List.map_append]
theorem qe(l:List D)(n:Nat):V.unders n (l.map V.d)=true:=by
 induction l with
 | nil=>rfl
 | cons a l ih=>simp only[RY,V.unders,V.under,ih,Bool.and_self]
theorem AE(ts:List Tok)(H:TsV ts)(i o:Nat)(τ:LLV)(hoi:o<i)(hi:τ[i]? = some (pq ts 0 0))(ho:τ[o]? = some Z9):
 Fun G 31 [.ptr i 0,.ptr o 0] τ (JX xH ts i o τ (ff ts (pfl ts) .S 0 0)):=by
 refine ai Tryz.func31 k31 rfl fun hb hw=>?_;have S:=Pst.init hi hb;have hn:aC ts .S 0≤pfl ts:=by simp only[aC,QK.cost,pfl];omega
 have hS:=(A6 ts i H (pfl ts)).1 0 0 (R6 _) hn τ hi;have hg:=fw (pfl ts) .S 0 0 (R6 _) hn;generalize ff ts (pfl ts) .S 0 0=y at *;unfold c31;simp -dsimp only[aw,jV,jW,jX,jY,jZ,jA,reduceIte,reduceCtorEq,jB,jC,jD,jE,jF,jG];refine AU S hg.ne hS (fun s a2 L2 hs σ1 S1 hl1=>?_) (fun l' e b L2 hs σ1 S1 hl1=>?_)
 .have ho1:σ1[o]? = some Z9:=by rw[S1.eq,RU (by omega)];exact ho
  have hol:=(List.getElem?_eq_some_iff.1 ho1).1;subst hs;rw[<-hl1];simp -dsimp only[aw,jV,jW,jX,jY,jZ,jA,reduceIte,reduceCtorEq,jB,jC,jD,jE,jF,jG,ak,ho1];refine nc (τ:=σ1.set o (xH s)) (bv S1.bb (qe _ _)) rfl rfl ?_ ⟨rfl,by rw[S1.eq]⟩;rw[RZ (by rw[R5];exact R7 _),lV]
 .have ho1:σ1[o]? = some Z9:=by rw[S1.eq,RU (by omega)];exact ho
  have hol:=(List.getElem?_eq_some_iff.1 ho1).1;subst hs;rw[<-hl1];simp -dsimp only[aw,jV,jW,jX,jY,jZ,jA,reduceIte,reduceCtorEq,jB,jC,jD,jE,jF,jG];refine⟨σ1.length,R7 _,by rw[RW];exact S1.bb,rfl,rfl,b,L2,Z9,?_,fun n=>rfl⟩;rw[RW,<-S1.eq,<-(List.getElem?_eq_some_iff.1 ho1).2,R0]
theorem wi(ts:List Tok)(H:TsV ts)(i o:Nat)(τ:LLV)(hoi:o<i)(hi:τ[i]? = some (pq ts 0 0))(ho:τ[o]? = some Z21):
 Fun G 23 [.ptr i 0,.ptr o 0] τ (JX prC ts i o τ (ip ts (pfl ts) 0 0)):=by
 refine ai Tryz.func23 k23 rfl fun hb hw=>?_;have S:=Pst.init hi hb;have hS:=uh ts i H 0 0 (R6 _) τ hi;have hg:=qg (ts:=ts) (n:=pfl ts) (a:=0) (L:=0) (R6 _) (R7 _);generalize ip ts (pfl ts) 0 0=y at *;unfold c23;simp -dsimp only[aw,jV,jW,jX,jY,jZ,jA,reduceIte,reduceCtorEq,jB,jC,jD,jE,jF,jG];refine AU S hg.ne hS (fun p a2 L2 hs σ1 S1 hl1=>?_) (fun l' e b L2 hs σ1 S1 hl1=>?_)
 .have ho1:σ1[o]? = some Z21:=by rw[S1.eq,RU (by omega)];exact ho
  have hol:=(List.getElem?_eq_some_iff.1 ho1).1;subst hs;rw[<-hl1];simp -dsimp only[aw,jV,jW,jX,jY,jZ,jA,reduceIte,reduceCtorEq,jB,jC,jD,jE,jF,jG,bW,ho1];refine nc (τ:=σ1.set o (prC p)) (bv S1.bb (qe _ _)) rfl rfl ?_ ⟨rfl,by rw[S1.eq]⟩;rw[RZ (by rw[R5];exact R7 _),Fy,lV,lV];rfl
 .have ho1:σ1[o]? = some Z21:=by rw[S1.eq,RU (by omega)];exact ho
  have hol:=(List.getElem?_eq_some_iff.1 ho1).1;subst hs;rw[<-hl1];simp -dsimp only[aw,jV,jW,jX,jY,jZ,jA,reduceIte,reduceCtorEq,jB,jC,jD,jE,jF,jG];refine⟨σ1.length,R7 _,by rw[RW];exact S1.bb,rfl,rfl,b,L2,Z21,?_,fun n=>rfl⟩;rw[RW,<-S1.eq,<-(List.getElem?_eq_some_iff.1 ho1).2,R0]
def Lw{α:Type}(mk:α->V)(z:α)(x:Option (α×Int×Int))(σ:LLV):Out->LLV->Prop:=fun out σ'=>σ'=σ/\∃v n e,out=.ret (.tup [mk v,.d (ab n),.d (ab e)])/\Gx z x v n e
theorem yd{N:Int}{r r1:List Tok}{p:Pr}(h:i6 N r=.ok p r1):bd p.cond≤2*r.length+2/\bd p.then_≤2*r.length+2:=by
 unfold i6 at h
 have jK:∀{m:ByteArray} {q:List Tok} {f:List Tok->QR Pr},cz N m q f=.ok p r1->∃q1,q1.length<q.length/\f q1=.ok p r1:=fun{m q f} h=>by
  unfold cz at h;cases ha:acc m q with
  | none=>rw[ha]at h;cases q<;>cases h
  | some q1=>rw[ha]at h;exact⟨q1,(ay ha).2,h⟩
 have bind:∀{x:QR Ts} {f:Ts->List Tok->QR Pr},x.bind f=.ok p r1->∃s q,x=.ok s q/\f s q=.ok p r1:=fun{x f} h=>by
  cases x with
  | ok s q=>exact⟨s,q,rfl,h⟩
  | _=>cases h
 obtain⟨q1,l1,h⟩:=jK h;unfold iy at h;cases hn:bA q1 with
 | none=>rw[hn]at h;cases q1<;>cases h
 | some pn=>
  obtain⟨nm,q2⟩:=pn;rw[hn]at h;have l2:=(fq hn).2;obtain⟨q3,l3,h⟩:=jK h;have z2:bd zT=2:=rfl;cases hp:acc jh q3 with
  | some q4=>
   rw[hp]at h;have l4:=(ay hp).2;obtain⟨s,q5,h5,h⟩:=bind h;obtain⟨q6,l6,h⟩:=jK h;have:=rx h5;cases h;simp only;omega
  | none=>
   rw[hp]at h;obtain⟨c,q5,h5,h⟩:=bind h;obtain⟨q6,l6,h⟩:=jK h;have b5:=rx h5;have e5:=oW h5;simp only[QK.eats]at e5;cases ho:acc (aE 45 62) q6 with
   | some q7=>
    rw[ho]at h;have l7:=(ay ho).2;obtain⟨s,q8,h8,h⟩:=bind h;obtain⟨q9,l9,h⟩:=jK h;have:=rx h8;cases h;simp only;omega
   | none=>
    rw[ho]at h;obtain⟨q7,l7,h⟩:=jK h;obtain⟨s,q8,h8,h⟩:=bind h;obtain⟨q9,l9,h⟩:=jK h;have:=rx h8;cases h;simp only;omega
def BM(ts:List Tok):QF Ts:=ff ts (pfl ts) .S 0 0
theorem Ei(ts:List Tok):Fit ts 0 (BM ts) (PD ts):=oT _ _ _ _
theorem xp(ts:List Tok):GF ts 0 (BM ts):=(fw (pfl ts) .S 0 0 (R6 _) (by simp only[aC,QK.cost,pfl];omega)).weak (R6 _)
theorem uB:vts zT=.agg [.d (ab 0),.d (ab 0),.d (ab 0),.d (ab 0),.d (ab 0),.d (ae ⟨#[]⟩),.d (.sl []),.d (ae ⟨#[]⟩),.d (.sl [])]:=by rw[ak];rfl
theorem og(l:Bs)(σ:LLV):Fun G 12 [.d (ae (bs l))] σ (Lw vts zT (nU l) σ):=by
 refine ai Tryz.func12 k12 rfl fun hb hw=>?_;have hP:=mT xH BM 31 l (σ.length+1) Z9 (σ++[Z9,Z9]) (by rw[mJ];rfl) (fun n=>rfl) (fun v n=>qe _ n) xp (fun ts H hl i τ hoi hi ho=>AE ts H i _ τ hoi hi ho);obtain⟨f1,f2⟩:=pj zT cy l Ei xp;generalize hr:kG BM l=r at *;obtain⟨n,e,w⟩:=r;simp only at f1 f2;unfold c12;simp -dsimp only[aw,jV,jW,jX,jY,jZ,jA,reduceIte,reduceCtorEq,jB,jC,jD,jE,jF,jG];refine aW hP fun out σ' ⟨e1,X,e2,hX,hXu⟩=>?_;subst e1;subst e2;rw[lw];by_cases h0:e=0
 .obtain⟨v,ts,e3,e4,hl16,ht,hf,hsrc⟩:=f2 h0;have hXv:=hX v e3;subst hXv;have hts:=(gE ht).2;have hbig:=rx (N:=dm ts) hf;have hV:=fun σ=>je v (by omega) σ;simp only[ak]at hV;rw[lV];by_cases hv:cy v=0
  .rw[if_pos hv]at hsrc;simp -dsimp only[aw,jV,jW,jX,jY,jZ,jA,reduceIte,reduceCtorEq,jB,jC,jD,jE,jF,jG,bg,decide_eq_true h0];refine ac (hV _) ?_;simp -dsimp only[aw,jV,jW,jX,jY,jZ,jA,reduceIte,reduceCtorEq,jB,jC,jD,jE,jF,jG,decide_eq_true hv];refine ao hb (v:=.tup [vts v,.d (ab 0),.d (ab 0)]) ?_ ?_ RS ⟨rfl,v,0,0,rfl,by unfold nU;rw[hsrc];rfl⟩
   .rw[ak];simp[I8,aU,di,bu,aw,jV,jW,jX,jY,jZ,jA,reduceIte,reduceCtorEq,jB,jC,jD,jE,jF,jG]
   .rw[ak];rfl
  .rw[if_neg hv]at hsrc;simp -dsimp only[aw,jV,jW,jX,jY,jZ,jA,reduceIte,reduceCtorEq,jB,jC,jD,jE,jF,jG,bg,decide_eq_true h0];refine ac (hV _) ?_;simp -dsimp only[aw,jV,jW,jX,jY,jZ,jA,reduceIte,reduceCtorEq,jB,jC,jD,jE,jF,jG,decide_eq_false hv];refine ao hb (v:=.tup [vts zT,.d (ab n),.d (ab (cy v))]) ?_ ?_ RS ⟨rfl,zT,n,cy v,rfl,by unfold nU;rw[hsrc,e4];rfl⟩
   .rw[uB];simp[I8,aU,di,bu,aw,jV,jW,jX,jY,jZ,jA,reduceIte,reduceCtorEq,jB,jC,jD,jE,jF,jG]
   .rw[uB];rfl
 .have hfit:=f1 h0;simp -dsimp only[aw,jV,jW,jX,jY,jZ,jA,reduceIte,reduceCtorEq,jB,jC,jD,jE,jF,jG,bg,decide_eq_false h0];refine ao hb (v:=.tup [vts zT,.d (ab n),.d (ab e)]) ?_ ?_ RS ⟨rfl,zT,n,e,rfl,hfit⟩
  .rw[uB];simp[I8,aU,di,bu,aw,jV,jW,jX,jY,jZ,jA,reduceIte,reduceCtorEq,jB,jC,jD,jE,jF,jG]
  .rw[uB];rfl
def qm(ts:List Tok):QF Pr:=ip ts (pfl ts) 0 0
theorem yD(ts:List Tok):Fit ts 0 (qm ts) (Ko ts):=xE _ _ _ _
theorem qX(ts:List Tok):GF ts 0 (qm ts):=(qg (R6 _) (R7 _)).weak (R6 _)
theorem Br:vpr zPr=.agg [.d (ae ⟨#[]⟩),.d (.lit (.bool false)),.d (.lit (.bool false)),.d (ab 0),.d (ab 0),.d (ab 0),.d (ab 0),.d (ab 0),.d (ae ⟨#[]⟩),.d (.sl []),.d (ae ⟨#[]⟩),.d (.sl []),.d (ab 0),.d (ab 0),.d (ab 0),.d (ab 0),.d (ab 0),.d (ae ⟨#[]⟩),.d (.sl []),.d (ae ⟨#[]⟩),.d (.sl [])]:=by rw[bW];rfl
theorem za(l:Bs)(σ:LLV):Fun G 7 [.d (ae (bs l))] σ (Lw vpr zPr (m8 l) σ):=by
 refine ai Tryz.func7 k7 rfl fun hb hw=>?_;have hP:=mT prC qm 23 l (σ.length+1) Z21 (σ++[Z21,Z21]) (by rw[mJ];rfl) (fun n=>rfl) (fun v n=>qe _ n) qX (fun ts H hl i τ hoi hi ho=>wi ts H i _ τ hoi hi ho);obtain⟨f1,f2⟩:=pj zPr cm l yD qX;generalize hr:kG qm l=r at *;obtain⟨n,e,w⟩:=r;simp only at f1 f2;unfold c7;simp -dsimp only[aw,jV,jW,jX,jY,jZ,jA,reduceIte,reduceCtorEq,jB,jC,jD,jE,jF,jG];refine aW hP fun out σ' ⟨e1,X,e2,hX,hXu⟩=>?_;subst e1;subst e2;rw[lw];by_cases h0:e=0
 .obtain⟨v,ts,e3,e4,hl16,ht,hf,hsrc⟩:=f2 h0;have hXv:=hX v e3;subst hXv;have hts:=(gE ht).2;obtain⟨b1,b2⟩:=yd hf;have hV:=fun σ=>jJ v (by omega) (by omega) σ;simp only[bW]at hV;rw[Fy,lV,lV];by_cases hv:cm v=0
  .rw[if_pos hv]at hsrc;simp -dsimp only[aw,jV,jW,jX,jY,jZ,jA,reduceIte,reduceCtorEq,jB,jC,jD,jE,jF,jG,bg,decide_eq_true h0];refine ac (hV _) ?_;simp -dsimp only[aw,jV,jW,jX,jY,jZ,jA,reduceIte,reduceCtorEq,jB,jC,jD,jE,jF,jG,decide_eq_true hv];refine ao hb (v:=.tup [vpr v,.d (ab 0),.d (ab 0)]) ?_ ?_ RS ⟨rfl,v,0,0,rfl,by unfold m8;rw[hsrc];rfl⟩
   .rw[bW];simp[rs7,aU,di,bu,aw,jV,jW,jX,jY,jZ,jA,reduceIte,reduceCtorEq,jB,jC,jD,jE,jF,jG]
   .rw[bW];rfl
  .rw[if_neg hv]at hsrc;simp -dsimp only[aw,jV,jW,jX,jY,jZ,jA,reduceIte,reduceCtorEq,jB,jC,jD,jE,jF,jG,bg,decide_eq_true h0];refine ac (hV _) ?_;simp -dsimp only[aw,jV,jW,jX,jY,jZ,jA,reduceIte,reduceCtorEq,jB,jC,jD,jE,jF,jG,decide_eq_false hv];refine ao hb (v:=.tup [vpr zPr,.d (ab n),.d (ab (cm v))]) ?_ ?_ RS ⟨rfl,zPr,n,cm v,rfl,by unfold m8;rw[hsrc,e4];rfl⟩
   .rw[Br];simp[rs7,aU,di,bu,aw,jV,jW,jX,jY,jZ,jA,reduceIte,reduceCtorEq,jB,jC,jD,jE,jF,jG]
   .rw[Br];rfl
 .have hfit:=f1 h0;simp -dsimp only[aw,jV,jW,jX,jY,jZ,jA,reduceIte,reduceCtorEq,jB,jC,jD,jE,jF,jG,bg,decide_eq_false h0];refine ao hb (v:=.tup [vpr zPr,.d (ab n),.d (ab e)]) ?_ ?_ RS ⟨rfl,zPr,n,e,rfl,hfit⟩
  .rw[Br];simp[rs7,aU,di,bu,aw,jV,jW,jX,jY,jZ,jA,reduceIte,reduceCtorEq,jB,jC,jD,jE,jF,jG]
  .rw[Br];rfl
end Go.Proofs.YthekkgfmagliiaaGreatDoor
namespace Go.Proofs.YthekkgfmagliiaaGreatDoor
open Go.RowKit
open Nat renaming reduceLeDiff -> jA, reduceBEq -> jB, reduceLT -> jC, reduceEqDiff -> jD, reduceAdd -> jE, reduceSub -> jF, reduceMul -> jG
open V renaming copy -> jV, lend -> jW, lend1 -> jX, cells -> jY, boxable -> jZ
abbrev zE0:Ex:=.mk 0 0 ⟨#[]⟩ []
def cyc(n:ByteArray):Ts:=.mk 1 0 0 (.mk 2 0 n []) ⟨#[]⟩ []
def aqW:Ts:=.mk 4 0 0 zE0 ⟨#[]⟩ [.mk 2 1 3 zE0 ⟨#[]⟩ [cyc ⟨#[97]⟩,.mk 3 2 2 zE0 ⟨#[]⟩ [cyc ⟨#[98]⟩]],cyc ⟨#[99]⟩]
def aqP:Pr:=⟨⟨#[112]⟩,false,true,.mk 6 0 0 (.mk 2 0 ⟨#[105,100]⟩ []) ⟨#[120]⟩ [cyc ⟨#[114,101,113]⟩],.mk 2 1 1 zE0 ⟨#[]⟩ [.mk 1 0 0 (.mk 1 1 ⟨#[]⟩ []) ⟨#[]⟩ [],.mk 1 0 0 (.mk 19 0 ⟨#[]⟩ [.mk 2 0 ⟨#[97,99,107]⟩ [],.mk 15 0 ⟨#[]⟩ [.mk 2 0 ⟨#[105,100]⟩ [],.mk 2 0 ⟨#[120]⟩ []]]) ⟨#[]⟩ []]⟩
theorem aq1:nU [123,97,125,32,35,35,91,49,58,51,93,32,123,98,125,32,91,42,50,93,32,111,114,32,123,99,125]=some (aqW,0,0):=by kernel_rfl
theorem aq2:nU [123,97,125,32,35,35]=some (zT,1,6):=by kernel_rfl
theorem aq3:nU [123,97,125,32,91,42,48,58,50,93]=some (zT,0,1):=by kernel_rfl
def aqT:Bs:=[112,114,111,112,101,114,116,121,32,112,58,32,40,123,114,101,113,125,44,32,120,32,61,32,105,100,41,32,124,45,62,32,123,49,125,32,35,35,49,32,123,97,99,107,32,38,38,32,105,100,32,61,61,32,120,125,59]
theorem aq4:m8 aqT=some (aqP,0,0):=by kernel_rfl
theorem aq5:xd aqP=aqT:=by kernel_rfl
theorem aq6:bd aqP.cond≤1000000/\bd aqP.then_≤1000000/\bd aqW≤1000000:=by decide +kernel
theorem jM{l:Bs}{v:Ts}{n e:Int}(h:nU l=some (v,n,e))(σ:LLV):Fun G 12 [.d (ae (bs l))] σ (az (.tup [vts v,.d (ab n),.d (ab e)]) σ):=by
 refine(og l σ).mono fun o σ' hr=>?_;obtain⟨e1,v',n',e',e2,e3⟩:=hr;rw[h]at e3;cases (show(v,n,e)=(v',n',e')from e3);exact⟨e2,e1⟩
theorem pG{l:Bs}{v:Pr}{n e:Int}(h:m8 l=some (v,n,e))(σ:LLV):Fun G 7 [.d (ae (bs l))] σ (az (.tup [vpr v,.d (ab n),.d (ab e)]) σ):=by
 refine(za l σ).mono fun o σ' hr=>?_;obtain⟨e1,v',n',e',e2,e3⟩:=hr;rw[h]at e3;cases (show(v,n,e)=(v',n',e')from e3);exact⟨e2,e1⟩
theorem ot(n:ByteArray)(σ:LLV):Fun G 35 [.d (ae n)] σ (az (vts (cyc n)) σ):=by
 refine ai Tryz.func35 k35 rfl fun hb hw=>?_;unfold c35;simp -dsimp only[aw,jV,jW,jX,jY,jZ,jA,reduceIte,reduceCtorEq,jB,jC,jD,jE,jF,jG];exact ao (v:=vts (cyc n)) hb (by rw[ak];simp[NY,aU,bu,cyc,Ts.op,Ts.lo,Ts.hi,Ts.ex,Ts.name,Ts.args,Ex.op,Ex.num,Ex.name,Ex.args,aw,jV,jW,jX,jY,jZ,jA,reduceIte,reduceCtorEq,jB,jC,jD,jE,jF,jG]) (by rw[ak];rfl) RS ⟨rfl,rfl⟩
theorem MP(n:ByteArray):vts (cyc n)=.agg [.d (ab 1),.d (ab 0),.d (ab 0),.d (ab 2),.d (ab 0),.d (ae n),.d (.sl []),.d (ae ⟨#[]⟩),.d (.sl [])]:=by
 rw[ak];rfl
theorem RH:vts aqW=.agg [.d (ab 4),.d (ab 0),.d (ab 0),.d (ab 0),.d (ab 0),.d (ae ⟨#[]⟩),.d (.sl []),.d (ae ⟨#[]⟩),.d (.sl [dts (.mk 2 1 3 zE0 ⟨#[]⟩ [cyc ⟨#[97]⟩,.mk 3 2 2 zE0 ⟨#[]⟩ [cyc ⟨#[98]⟩]]),dts (cyc ⟨#[99]⟩)])]:=by
 rw[ak];rfl
theorem vzT:vts zT=.agg [.d (ab 0),.d (ab 0),.d (ab 0),.d (ab 0),.d (ab 0),.d (ae ⟨#[]⟩),.d (.sl []),.d (ae ⟨#[]⟩),.d (.sl [])]:=by
 rw[ak];rfl
theorem tv(σ:LLV):Fun G 14 [] σ (az (an true) σ):=by
 have h1:=fun σ=>jM aq1 σ;have h2:=fun σ=>jM aq2 σ;have h3:=fun σ=>jM aq3 σ;have h4:=fun σ=>pG aq4 σ;have h5:=fun σ=>px aqP aq6.1 aq6.2.1 σ;have h6:=fun σ=>kK aqW aqW aq6.2.2 σ;rw[(j0 aqW aqW).2 rfl]at h6;rw[aq5]at h5;have hov:aqP.over=true:=rfl;generalize aqP=P at *;rw[bW,hov]at h4 h5;rw[RH]at h1 h6;rw[vzT]at h2 h3;have ht:decide (bs aqT=(⟨#[112,114,111,112,101,114,116,121,32,112,58,32,40,123,114,101,113,125,44,32,120,32,61,32,105,100,41,32,124,45,62,32,123,49,125,32,35,35,49,32,123,97,99,107,32,38,38,32,105,100,32,61,61,32,120,125,59]⟩:ByteArray))=true:=rfl;have hg:(⟨#[112,114,111,112,101,114,116,121,32,112,58,32,40,123,114,101,113,125,44,32,120,32,61,32,105,100,41,32,124,45,62,32,123,49,125,32,35,35,49,32,123,97,99,107,32,38,38,32,105,100,32,61,61,32,120,125,59]⟩:ByteArray)=bs aqT:=rfl
 refine ai Tryz.func14 k14 rfl fun hb hw=>?_;unfold c14;rw[hg];generalize bs aqT=T at *;simp -dsimp only[aw,jV,jW,jX,jY,jZ,jA,reduceIte,reduceCtorEq,jB,jC,jD,jE,jF,jG];refine ac (h1 _) ?_;simp -dsimp only[aw,jV,jW,jX,jY,jZ,jA,reduceIte,reduceCtorEq,jB,jC,jD,jE,jF,jG];refine ac (ot ⟨#[97]⟩ _) ?_;simp -dsimp only[aw,jV,jW,jX,jY,jZ,jA,reduceIte,reduceCtorEq,jB,jC,jD,jE,jF,jG];refine ac (ot ⟨#[98]⟩ _) ?_;simp -dsimp only[aw,jV,jW,jX,jY,jZ,jA,reduceIte,reduceCtorEq,jB,jC,jD,jE,jF,jG,MP];refine ac (ot ⟨#[99]⟩ _) ?_;simp -dsimp only[aw,jV,jW,jX,jY,jZ,jA,reduceIte,reduceCtorEq,jB,jC,jD,jE,jF,jG,MP];refine ac (h2 _) ?_;simp -dsimp only[aw,jV,jW,jX,jY,jZ,jA,reduceIte,reduceCtorEq,jB,jC,jD,jE,jF,jG];refine ac (h3 _) ?_;simp -dsimp only[aw,jV,jW,jX,jY,jZ,jA,reduceIte,reduceCtorEq,jB,jC,jD,jE,jF,jG];refine ac (h4 _) ?_
 simp -dsimp only[aw,jV,jW,jX,jY,jZ,jA,reduceIte,reduceCtorEq,jB,jC,jD,jE,jF,jG];refine ac (h6 _) ?_;simp -dsimp only[aw,jV,jW,jX,jY,jZ,jA,reduceIte,reduceCtorEq,jB,jC,jD,jE,jF,jG,Int.reduceEq,decide_true,hov];refine ac (h5 _) ?_;simp -dsimp only[aw,jV,jW,jX,jY,jZ,jA,reduceIte,reduceCtorEq,jB,jC,jD,jE,jF,jG,decide_true];first|exact aA hb rfl rfl|exact aB hb rfl rfl
def iR(p q:Pr):Bool:=decide (p.name=q.name)&&(p.plain==q.plain)&&(p.over==q.over)&&fE p.cond q.cond&&fE p.then_ q.then_
theorem qP(p q:Pr):iR p q=true↔p=q:=by
 unfold iR;simp only[Bool.and_eq_true,decide_eq_true_eq,beq_iff_eq,j0];cases p;cases q;simp only[Pr.mk.injEq,and_assoc]
theorem mC(p q:Pr)(h1:bd p.cond≤1000000)(h2:bd p.then_≤1000000)(σ:LLV):Fun G 11 [vpr p,vpr q] σ (az (an (iR p q)) σ):=by
 have f1:=fun σ=>kK p.cond q.cond h1 σ;have f2:=fun σ=>kK p.then_ q.then_ h2 σ;rw[ak,ak]at f1 f2;by_cases hn:p.name=q.name
 case neg=>
  have hv:iR p q=false:=by unfold iR;rw[decide_eq_false hn];simp
  rw[hv];refine ai Tryz.func11 k11 (by simp only[bW];rfl) fun hb hw=>?_;unfold c11;simp -dsimp only[aw,jV,jW,jX,jY,jZ,jA,reduceIte,reduceCtorEq,jB,jC,jD,jE,jF,jG,bW,decide_eq_false hn];first|exact aA hb rfl rfl|exact aB hb rfl rfl
 by_cases hp:p.plain=q.plain
 case neg=>
  have e1:(p.plain==q.plain)=false:=by simpa using hp
  have hv:iR p q=false:=by unfold iR;rw[e1];simp
  rw[hv];refine ai Tryz.func11 k11 (by simp only[bW];rfl) fun hb hw=>?_;unfold c11;simp -dsimp only[aw,jV,jW,jX,jY,jZ,jA,reduceIte,reduceCtorEq,jB,jC,jD,jE,jF,jG,bW,decide_eq_true hn,e1];first|exact aA hb rfl rfl|exact aB hb rfl rfl
 have e1:(p.plain==q.plain)=true:=by simpa using hp
 by_cases ho:p.over=q.over
 case neg=>
  have e2:(p.over==q.over)=false:=by simpa using ho
  have hv:iR p q=false:=by unfold iR;rw[e2];simp
  rw[hv];refine ai Tryz.func11 k11 (by simp only[bW];rfl) fun hb hw=>?_;unfold c11;simp -dsimp only[aw,jV,jW,jX,jY,jZ,jA,reduceIte,reduceCtorEq,jB,jC,jD,jE,jF,jG,bW,decide_eq_true hn,e1,e2];first|exact aA hb rfl rfl|exact aB hb rfl rfl
 have e2:(p.over==q.over)=true:=by simpa using ho
 have hv:iR p q=(fE p.cond q.cond&&fE p.then_ q.then_):=by unfold iR;rw[decide_eq_true hn,e1,e2];simp
 rw[hv];generalize fE p.cond q.cond=x at *;generalize fE p.then_ q.then_=y at *;refine ai Tryz.func11 k11 (by simp only[bW];rfl) fun hb hw=>?_;unfold c11;simp -dsimp only[aw,jV,jW,jX,jY,jZ,jA,reduceIte,reduceCtorEq,jB,jC,jD,jE,jF,jG,bW,decide_eq_true hn,e1,e2];refine ac (f1 _) ?_;cases x with
 | false=>
  simp -dsimp only[aw,jV,jW,jX,jY,jZ,jA,reduceIte,reduceCtorEq,jB,jC,jD,jE,jF,jG];first|exact aA hb rfl rfl|exact aB hb rfl rfl
 | true=>
  simp -dsimp only[aw,jV,jW,jX,jY,jZ,jA,reduceIte,reduceCtorEq,jB,jC,jD,jE,jF,jG];refine ac (f2 _) ?_;simp -dsimp only[aw,jV,jW,jX,jY,jZ,jA,reduceIte,reduceCtorEq,jB,jC,jD,jE,jF,jG];first|exact aA hb rfl rfl|exact aB hb rfl rfl
def c20:Cd:=sq [oM 2 (.mv (.k .nil)),oI 3 0,oI 4 0] [0] (sq [oM 5 (.new 48 [.nil])] [0,5] (sq [oV 9 0,oM 10 (.mkfn 41 [.t 5]),ZD 11 22 9 10,oV 8 11,ZX 12 8 0,ZX 13 8 1,oV 6 12,oV 7 13] [5,6,7] (.seq (sq [oV 14 7,We 15 14 0] [5,6,7,15] (.cond (.t 15) (.ops [ZL 16 1 5,ZC 17 42 16,oV 7 17] [5,6,7]) .skip)) (.seq (sq [oV 18 7,Wn 19 18 0] [5,6,7,19] (.cond (.t 19) (sq [oV 20 6,oV 21 7,
 oM 2 (.mv (.k .nil)),oV 3 20,oV 4 21] [2,3,4] .ret) .skip)) (sq [ZL 22 1 5,oV 2 22,oI 3 0,oI 4 0] [2,3,4] .ret)))))
def Ji:List RV:=[.t 2 false,.t 3 false,.t 4 false]
theorem k20:aM G.tab Tryz.f20 1 c20 Ji=true:=by kernel_rfl
def c41:Cd:=.block 0 (.loop (.seq (.seq (.draw [oV 3 0,ZK 4 3,ZF 5 1 4,ZL 6 1 5,oV 7 0,ZK 8 7,ZF 9 0 8,ZL 10 1 9,ZN 11 10,Yl 12 6 11] [0,1,12]) (.cond (.t 12) .skip (.exit 0))) (.block 1 (.raw [oM 13 (.ldo (.t 1)),oV 14 0,ZC 15 24 14,oM 16 (.mks 29 21 [.t 15]),oM 17 (.app 29 21 264 13 (.t 16)),⟨none,.stoo (.t 1) 17,none⟩] [[],[],[1],[2],[0,3,2],[4,4,0,1,2,3,4]] [0,1]))))
def PZ:List RV:=[]
theorem k41:aM G.tab Tryz.f41 2 c41 PZ=true:=by kernel_rfl
def c42:Cd:=sq [oI 2 0] [0] (sq [oM 7 (.mmk true),oV 3 7] [0,3] (.seq (sq [oV 8 0,ZN 9 8,oI 10 0] [3,8,9,10] (.block 0 (.loop (sq [Yl 11 10 9] [3,8,9,10,11] (.seq (.cond (.t 11) .skip (.exit 0)) (.seq (.block 1 (sq [ZI 12 21 8 10,ZM 13 21 12,oM 5 (.new 29 zz1),oS 21 5 13] [3,5,8,9,10] (.seq (sq [oV 14 3,ZF 15 0 5,ZL 16 1 15,oM 17 (.mlk true false (.d (.lit (.bool false))) (.t 14) (.t 16))] [3,5,8,
 9,10,17] (.cond (.t 17) (sq [oI 2 8] [2] .ret) .skip)) (sq [oV 18 3,ZF 19 0 5,ZL 20 1 19,⟨none,.mst true (.t 18) (.t 20) kT,none⟩] [3,5,8,9,10] (sq [ZM 21 21 5,ZC 22 25 21,oV 6 22] [3,6,8,9,10] (sq [oV 23 6,Wn 24 23 0] [3,6,8,9,10,24] (.cond (.t 24) (sq [oV 25 6,oV 2 25] [2] .ret) .skip))))))) (.ops [Wa 26 10 1,oV 10 26] [3,8,9,10]))))))) (sq [oI 2 0] [2] .ret)))
def RR:List RV:=[.t 2 false]
theorem k42:aM G.tab Tryz.f42 1 c42 RR=true:=by kernel_rfl
def c21:Cd:=sq [oM 4 (.mv kF)] [0,1] (.seq (sq [oV 6 0,ZN 7 6,oV 8 1,ZN 9 8,Yn 10 7 9] [0,1,10] (.cond (.t 10) (sq [oM 4 (.mv kF)] [4] .ret) .skip)) (.seq (sq [oI 5 0] [0,1,5] (.block 0 (.loop (.seq (sq [oV 11 5,oV 12 0,ZN 13 12,Yl 14 11 13] [0,1,5,14] (.cond (.t 14) .skip (.exit 0))) (.seq (.block 1 (.seq (.draw [oV 17 0,oV 18 5,ZI 19 21 17 18,ZM 20 21 19,oV 21 1,oV 22 5,ZI 23 21 21 22,
 ZM 24 21 23,ZD 25 11 20 24,ZU 26 25] [0,1,5,26]) (.cond (.t 26) (sq [oM 4 (.mv kF)] [4] .ret) .skip))) (.ops [oV 15 5,Wa 16 15 1,oV 5 16] [0,1,5])))))) (sq [oM 4 (.mv kT)] [4] .ret)))
def Qj:List RV:=[.t 4 false]
theorem k21:aM G.tab Tryz.f21 2 c21 Qj=true:=by kernel_rfl
def c6:Cd:=sq [ZB 2 27 0,oM 4 (.mv kF)] [1,2] (sq [ZM 23 9 2,ZC 24 15 23,oV 5 24] [1,2,5] (sq [oV 26 5,ZC 27 12 26,oV 25 27,ZX 28 25 0,ZX 29 25 1,ZX 30 25 2,oM 6 (.new 27 zz0),oS 9 6 28,oV 7 29,oV 8 30] [1,2,5,6,7,8] (.seq (sq [ZM 31 9 2,ZC 32 19 31,We 33 32 0,oV 34 33,oG 35 34 (.mv (.t 5)),oG 36 34 (.len true (.t 35)),oG 37 34 (wq 36 16384),ZQ 38 34 37,oV 39 38,oG 40 39 (zM 9 6),
 oG 41 39 (zM 9 2),oG 42 39 (zD 13 40 41),oG 43 39 (zU 42),oG 44 39 (.mv (.t 43)),oH 45 44 (.mv (.t 7)),oH 46 44 (wn 45 0),oG 47 39 (zP 44 46),oG 48 39 (.mv (.t 47)),oH 49 48 (.mv (.t 8)),oH 50 48 (wn 49 0),oG 51 39 (zP 48 50),ZQ 52 39 51] [1,52] (.cond (.t 52) (sq [oM 4 (.mv kF)] [4] (.ret)) .skip)) (sq [oM 9 (.mv (kS ⟨#[]⟩))] [1,9] (sq [oM 10 (.nilo 29 21)] [1,9,10] (.seq (sq [oV 53 1,oV 54 1,
 ZN 55 54,oM 56 (.mx false (.t 55) (kI 6)),oM 57 (.sub false 21 (.t 53) none (some (.t 56))),ZN 58 57,oI 59 0] [9,10,57,58,59] (.block 0 (.loop (sq [Yl 60 59 58] [9,10,57,58,59,60] (.seq (.cond (.t 60) .skip (.exit 0)) (.seq (.block 1 (sq [ZI 61 21 57 59,ZM 62 21 61,oM 12 (.new 29 zz1),oS 21 12 62] [9,10,12,57,58,59] (.seq (sq [ZM 63 21 12,ZC 64 18 63,Wn 65 64 0] [9,10,12,57,58,59,
 65] (.cond (.t 65) (.exit 1) .skip)) (sq [ZM 66 21 12,ZC 67 8 66,oV 13 67] [9,10,12,13,57,58,59] (sq [oV 69 13,ZC 70 7 69,oV 68 70,ZX 71 68 0,ZX 72 68 1,ZX 73 68 2,oM 14 (.new 29 zz1),oS 21 14 71,oV 15 72,oV 16 73] [9,10,12,13,14,16,57,58,59] (.seq (sq [oV 74 13,oM 75 (.len true (.t 74)),Wq 76 75 16384,oV 77 76,oG 78 77 (.mv (.t 16)),oG 79 77 (wn 78 0),oG 80 77 (.mv (.t 79)),oH 81 80 (zM 21 12),
 oH 82 80 (zM 21 14),oH 83 80 (zD 11 81 82),oH 84 80 (zU 83),oG 85 77 (zP 80 84),ZQ 86 77 85] [9,10,12,13,57,58,59,86] (.cond (.t 86) (sq [oM 4 (.mv kF)] [4] .ret) .skip)) (sq [oM 17 (.mv kT)] [9,10,12,13,17,57,58,59] (.seq (sq [oV 87 10,ZN 88 87,oI 89 0] [9,10,12,13,17,57,58,59,87,88,89] (.block 2 (.loop (sq [Yl 90 89 88] [9,10,12,13,17,57,58,59,87,88,89,
 90] (.seq (.cond (.t 90) .skip (.exit 2)) (.seq (.block 3 (sq [ZI 91 21 87 89,ZM 92 21 91,oM 19 (.new 29 zz1),oS 21 19 92] [9,10,12,13,17,19,57,58,59,87,88,89] (.ops [oV 93 17,oV 94 93,oG 95 94 (zF 0 19),oG 96 94 (zL 1 95),oG 97 94 (zF 0 12),oG 98 94 (zL 1 97),oG 99 94 (yn 96 98),ZQ 100 94 99,oV 17 100] [9,10,12,13,17,57,58,59,87,88,89]))) (.ops [Wa 101 89 1,oV 89 101] [9,10,12,13,17,57,58,59,87,
 88,89]))))))) (sq [oV 102 17] [9,10,12,13,57,58,59,102] (.cond (.t 102) (sq [oM 103 (.mvo 10),ZM 104 21 12,oM 105 (.mks 29 21 [.t 104]),oM 106 (.app 29 21 264 103 (.t 105)),oM 10 (.mvo 106)] [9,10,13,57,58,59] (.ops [oV 107 9,oV 108 13,Ya 109 107 108,oM 110 (.bin .add (.t 109) (kS ⟨#[10]⟩)),oV 9 110] [9,10,57,58,59])) .skip)))))))))) (.ops [Wa 111 59 1,oV 59 111] [9,10,57,58,
 59]))))))) (sq [oV 113 9,ZC 114 20 113,oV 112 114,ZX 115 112 0,ZX 116 112 1,ZX 117 112 2,oV 20 115,oV 21 116,oV 22 117] [9,10,20,22] (sq [oV 118 9,oM 119 (.len true (.t 118)),Wg 120 119 16384,oV 121 120,oH 122 121 (.mv (.t 22)),oH 123 121 (we 122 0),oH 124 121 (.mv (.t 123)),oG 125 124 (.mv (.t 20)),oG 126 124 (.mv (.t 10)),oG 127 124 (zD 21 125 126),oH 128 121 (zQ 124 127),ZP 129 121 128,
 oV 130 129,oG 131 130 (.call 14 []),ZQ 132 130 131,oV 4 132] [4] .ret))))))))
def rs6:List RV:=[.t 4 false]
theorem k6:aM G.tab Tryz.f6 2 c6 rs6=true:=by kernel_rfl
def c3:Cd:=sq [oM 2 (.mv kF)] [0] (sq [oV 25 0,ZC 26 7 25,oV 24 26,ZX 27 24 0,ZX 28 24 1,ZX 29 24 2,oM 3 (.new 29 zz1),oS 21 3 27,oV 4 28,oV 5 29] [0,3,5] (.seq (sq [oV 30 5,We 31 30 0] [0,3,31] (.cond (.t 31) (sq [ZM 32 21 3,ZC 33 8 32,oV 6 33] [0,3,6] (sq [oV 35 6,ZC 36 7 35,oV 34 36,ZX 37 34 0,ZX 38 34 1,ZX 39 34 2,oM 7 (.new 29 zz1),oS 21 7 37,oV 8 38,oV 9 39] [0,3,6,7,9] (sq [oV 41 0,
 ZC 42 9 41,oV 40 42,ZX 43 40 0,ZX 44 40 1,ZX 45 40 2,oV 10 43,oV 11 44,oV 12 45] [0,3,6,7,9,10] (sq [oV 47 10,ZC 48 10 47,oV 46 48,ZX 49 46 0,ZX 50 46 1,oV 13 49,oV 14 50] [0,3,6,7,9,13] (sq [oV 52 13,ZC 53 7 52,oV 51 53,ZX 54 51 0,ZX 55 51 1,ZX 56 51 2,oM 15 (.new 29 zz1),oS 21 15 54,oV 16 55,oV 17 56] [0,3,6,7,9,13,15,17] (sq [oV 57 6,oM 58 (.len true (.t 57)),Wq 59 58 16384,oV 60 59,
 oG 61 60 (.mv (.t 9)),oG 62 60 (wn 61 0),oG 63 60 (.mv (.t 62)),oH 64 63 (zM 21 7),oH 65 63 (zM 21 3),oH 66 63 (zD 11 64 65),oH 67 63 (zU 66),oG 68 60 (zP 63 67),oG 69 60 (.mv (.t 68)),oH 70 69 (zM 21 7),oH 71 69 (zC 8 70),oH 72 69 (.mv (.t 6)),oH 73 69 (yn 71 72),oG 74 60 (zP 69 73),ZQ 75 60 74,oV 76 75,oH 77 76 (.mv (.t 13)),oH 78 76 (.len true (.t 77)),oH 79 76 (wq 78 16384),
 oH 80 76 (.mv (.t 79)),oG 81 80 (.mv (.t 17)),oG 82 80 (wn 81 0),oG 83 80 (.mv (.t 82)),oH 84 83 (zM 21 15),oH 85 83 (zM 21 3),oH 86 83 (zD 11 84 85),oH 87 83 (zU 86),oG 88 80 (zP 83 87),oH 89 76 (zQ 80 88),ZP 90 76 89] [0,90] (.cond (.t 90) (sq [oM 2 (.mv kF)] [2] .ret) .skip))))))) .skip)) (sq [oV 92 0,ZC 93 12 92,oV 91 93,ZX 94 91 0,ZX 95 91 1,ZX 96 91 2,oM 18 (.new 27 zz0),oS 9 18 94,oV 19 95,
 oV 20 96] [0,18,20] (sq [oV 98 0,oM 99 (.bin .add (kS ⟨#[40]⟩) (.t 98)),oM 100 (.bin .add (.t 99) (kS ⟨#[10,41]⟩)),ZC 101 12 100,oV 97 101,ZX 102 97 0,ZX 103 97 1,ZX 104 97 2,oM 21 (.new 27 zz0),oS 9 21 102,oV 22 103,oV 23 104] [0,18,20,21,23] (sq [oV 105 20,Wn 106 105 0,oV 107 106,oH 108 107 (.mv (.t 0)),oH 109 107 (.len true (.t 108)),oH 110 107 (wa 109 3),oH 111 107 (wg 110 16384),
 ZP 112 107 111,oV 113 112,oH 114 113 (.mv (.t 23)),oH 115 113 (we 114 0),oH 116 113 (.mv (.t 115)),oG 117 116 (zM 9 18),oG 118 116 (zM 9 21),oG 119 116 (zD 13 117 118),oH 120 113 (zQ 116 119),ZP 121 113 120,oV 122 121,oG 123 122 (.call 14 []),ZQ 124 122 123,oV 2 124] [2] .ret)))))
def rs3:List RV:=[.t 2 false]
theorem k3:aM G.tab Tryz.f3 1 c3 rs3=true:=by kernel_rfl
end Go.Proofs.YthekkgfmagliiaaGreatDoor
