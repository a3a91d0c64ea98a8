import Derived.LaidLaws
import Derived.OpenShut
import Derived.ChangeSame
import Derived.ChangeVars
import Derived.JoinedOf
import Derived.RowKitTokens
import Derived.ChangeOld
import Derived.Below
import Derived.Test.YtnhphlmblenapaaGreatDoorRd2
set_option linter.unusedVariables false
set_option linter.unusedSimpArgs false
set_option linter.unusedSectionVars false
set_option maxRecDepth 100000
set_option maxHeartbeats 8000000
open Bool renaming and_eq_true->Sq
open Int renaming ofNat_lt->Ss,reduceEq->Su
open List renaming getElem?_eq_getElem->Sv,length_map->Sw,getElem?_map->Sx,take_of_length_le->Sy,take_succ_eq_append_getElem->SA,getElem_mem->SB,map_nil->SC,map_cons->SD
open Nat renaming le_refl->SE,sub_self->SF,zero_le->SG
namespace Go.Proofs.YtnhphlmblenapaaGreatDoor
open Go.RowKit
def bgT(l:Bs):List Tok:=match cR l with
 | .ok ts=>ts
 | .err _ _=>[]
def bgS(l:Bs):PS:=match cR l with
 | .ok _=>(0,0,0)
 | .err n e=>(0,n,e)
theorem IF{l:Bs}(hl:l.length≤16384):TsV (bgT l)/\(bgT l).length≤16384:=by
 unfold bgT;cases hx:cR l with
 | ok ts=>exact⟨xv hx hl,by have:=(fQ hx).2;simp only;omega⟩
 | err n e=>exact⟨⟨⟨fun t h=>(by cases h),SG _⟩,fun t h=>(by cases h)⟩,SG _⟩
theorem yH{l:Bs}(hl:l.length≤16384)(σ:LLV):Fun G 28 [.d (aj (bs l))] σ fun o σ'=>o=.ret (.ptr σ.length 0)/\σ'=σ++[rp (bgT l) (bgS l)]:=by
 have hT:=ub l (by omega);have hR:jO l=kE (cR l):=by unfold jO;rw[if_neg (by omega)]
 rw[hR]at hT;refine ae Tryz.func28 k28 rfl fun hb hw=>?_;unfold c28 bgT bgS
 have done:∀(ts:List Tok) (s:PS) (ρ:ai),aC (σ++[rp ts s]) ρ Kc=some (.ptr σ.length 0)->fin σ.length Kc (fun o σ'=>o=.ret (.ptr σ.length 0)/\σ'=σ++[rp ts s]) .ret ρ (σ++[rp ts s]):=fun ts s ρ h=>
  ⟨ρ,_,.refl _ _ _,_,h,σ.length+1,by omega,by rw[Sy (by simp)];have:=aq hb (l:=[rp ts s]) rfl;rwa[List.length_append,List.length_singleton]at this,by simp[V.under],rfl,by rw[Sy (by simp)]⟩
 cases hx:cR l with
 | ok ts=>
  rw[hx]at hT;unfold kE at hT;simp -dsimp only[aw,seval];refine ac (hT _) ?_;simp -dsimp only[aw,seval];exact done ts (0,0,0) _ rfl
 | err n e=>
  rw[hx]at hT;unfold kE at hT;simp -dsimp only[aw,seval];refine ac (hT _) ?_;simp -dsimp only[aw,seval];exact done [] (0,n,e) _ rfl
theorem JM{f:FuncId}{args:List V}{v:V}{i:Nat}{ts:List Tok}{s':PS}{A:LLV}{B:List V->LLV}{K P:V->LLV->Prop}{tK:Tag K}{tP:Tag P}(hset:∀Z,A.set i Z=B Z)(h:Fun G f args A (RP v A i ts s'))(hk:K v (B (rp ts s'))):e8 G f args A K P tK tP:=by
 refine aB h fun o σ' ⟨e1,e2⟩=>?_;subst e1;rw[hset]at e2;subst e2;rw[aP];exact hk
theorem Gm(σ:LLV)(X Z:List V):(σ++[X]).set σ.length Z=σ++[Z]:=by rw[List.set_append_right _ _ (SE _),SF];rfl
theorem GU(σ:LLV)(X:List V):(σ++[X])[σ.length]? = some X:=by rw[List.getElem?_append_right (SE _),SF];rfl
def rq(p:List It×PS):List It×Int×Int:=if p.2.2.2=0 then(if eR p.1=0 then(p.1,0,0)else([],0,eR p.1))else([],p.2.2.1,p.2.2.2)
theorem yb{l:Bs}(hl:l.length≤16384){N:Nat}(hN:N≤100000000){p:List It×PS}(h:itL (bgT l) N ((bgT l).length+2) [] (bgS l)=some p)(hsz:p.2.2.2=0->bi p.1≤1100000)(σ:LLV):Fun G 10 [.d (aj (bs l))] σ (aN (eT jd (rq p)) σ):=by
 have hB:=fun σ=>yH hl σ;obtain⟨H,hlen⟩:=IF hl;generalize bgT l=ts at *;generalize bgS l=s0 at *;obtain⟨lw,s1⟩:=p;simp only at hsz;refine ae Tryz.func10 k10 rfl fun hb hw=>?_;unfold c10
 have fin:∀(v:List It) (n e:Int) (x:LLV) ρ,rq (lw,s1)=(v,n,e)->aC (σ++x) ρ Bx=some (.tup [.d (.sl (v.map dit)),.d (ab n),.d (ab e)])->fin σ.length Bx (aN (eT jd (rq (lw,s1))) σ) .ret ρ (σ++x):=fun v n e x ρ he h=>by
  rw[he];exact az hb h rfl List.take_left ⟨rfl,rfl⟩
 simp -dsimp only[aw,seval];refine aB (hB _) fun o σ' ⟨g1,g2⟩=>?_;subst g1;subst g2;simp -dsimp only[aw,seval,aP];refine aS [5,6] (R:=fun(j:Nat) ρ σ'=>∃(s2:PS) (l:List It),ρ=[(5,.ptr σ.length 0),(6,.own 54 12 (l.map dit))]/\σ'=σ++[rp ts s2]/\l.length=j/\itL ts N (ts.length+2-j) l s2=some (lw,s1)) (ts.length+2) ⟨s0,[],rfl,rfl,rfl,h⟩ ?_ _;rintro j ρ' σ' hj ⟨s2,l,rfl,rfl,h5,h⟩
 obtain⟨m,hm⟩:∃m,ts.length+2-j=m+1:=⟨ts.length+1-j,by
  have:ts.length+2-j≠0:=fun h0=>by rw[h0]at h;cases h
  omega⟩
 rw[hm]at h;unfold itL at h;have hrp:rp ts s2=[.d (.sl (ts.map dA)),.d (ab s2.1),.d (ab s2.2.1),.d (ab s2.2.2)]:=rfl;by_cases c:s2.2.2=0/\s2.1<ts.length
 .rw[if_pos c]at h;obtain⟨⟨y,s3⟩,e1,h⟩:=Option.bind_eq_some_iff.1 h;have d1:decide (((s2.1:Nat):Int)<((ts.length:Nat):Int))=true:=decide_eq_true (by omega);simp -dsimp only[aw,seval,hrp,decide_eq_true c.1,d1];rw[<-hrp];refine JM (B:=fun Z=>σ++[Z]) (Gm σ _) (wZ H (by omega) N hN _ _ y e1 _ _ (GU σ _)) ?_;simp -dsimp only[aw,seval,aJ];refine bh (by omega) ?_;simp -dsimp only[aw,seval];exact⟨by omega,Nxt.same (by simp) (aq hb rfl) (by simp[au,V.under]) ⟨s3,l++[y],by rw[List.map_append,SD,SC,dq],rfl,by simp[h5],by rw[show ts.length+2-(j+1)=m by omega];exact h⟩⟩
 rw[if_neg c]at h;cases h;by_cases he:s1.2.2=0
 .have hlt:¬s1.1<ts.length:=fun h=>c ⟨he,h⟩;have d1:decide (((s1.1:Nat):Int)<((ts.length:Nat):Int))=false:=decide_eq_false (by omega);have hv:=fun σ=>wJ lw (by have:=hsz he;omega) σ;unfold gR at hv;simp -dsimp only[aw,seval,hrp,decide_eq_true he,d1];refine ac (hv _) ?_;by_cases h0:eR lw=0
  .simp -dsimp only[aw,seval,decide_eq_true h0];exact fin lw 0 0 _ _ (by unfold rq;rw[if_pos he,if_pos h0]) (by simp[Bx,aC,bY,aO,aw,seval])
  .simp -dsimp only[aw,seval,decide_eq_false h0];exact fin [] 0 (eR lw) _ _ (by unfold rq;rw[if_pos he,if_neg h0]) (by simp[Bx,aC,bY,aO,aw,seval])
 .simp -dsimp only[aw,seval,hrp,decide_eq_false he];exact fin [] s1.2.1 s1.2.2 _ _ (by unfold rq;rw[if_neg he]) (by simp[Bx,aC,bY,aO,aw,seval])
def awV:Ex:=.mk 2 0 ⟨#[97]⟩ []
def awK:Kl:=⟨⟨#[112]⟩,⟨#[]⟩,[⟨⟨#[97]⟩,2,0,1,0⟩],[(⟨#[99]⟩,[.mk 1 (aI 17 [awV,.mk 1 3 ⟨#[]⟩ []]) ⟨#[]⟩ ⟨#[]⟩ [] [] [] [] [],.mk 2 (aI 15 [awV,.mk 1 1 ⟨#[]⟩ []]) ⟨#[]⟩ ⟨#[]⟩ [] [] [] [] []])]⟩
def awI:It:=.mk 3 exZ ⟨#[97]⟩ ⟨#[]⟩ [⟨0,0,2,true⟩,⟨1,3,6,false⟩] [] [] [] []
theorem Na:t7 [99,108,97,115,115,32,112,32,123,32,114,97,110,100,32,97,32,58,32,50,59,32,99,111,110,115,116,114,97,105,110,116,32,99,32,123,32,97,32,60,32,51,59,32,115,111,102,116,32,97,32,61,61,32,49,59,32,125,32,125]=(awK,0,0):=by kernel_rfl
theorem Nd:gp [100,105,115,116,32,97,32,123,32,48,32,58,61,32,50,44,32,49,32,46,46,32,51,32,58,47,32,54,32,125,59]=([awI],0,0):=by kernel_rfl
theorem OJ:gp [97,32,60]=([],1,6):=by kernel_rfl
theorem oO(σ:LLV):Fun G 8 [] σ (aN (an true) σ):=by
 have h1:=fun σ=>xP [99,108,97,115,115,32,112,32,123,32,114,97,110,100,32,97,32,58,32,50,59,32,99,111,110,115,116,114,97,105,110,116,32,99,32,123,32,97,32,60,32,51,59,32,115,111,102,116,32,97,32,61,61,32,49,59,32,125,32,125] σ;have h2:=fun σ=>ml [100,105,115,116,32,97,32,123,32,48,32,58,61,32,50,44,32,49,32,46,46,32,51,32,58,47,32,54,32,125,59] σ;have h3:=fun σ=>ml [97,32,60] σ;rw[Na]at h1;rw[Nd]at h2;rw[OJ]at h3
 have e1:vkl awK=.agg [.d (aj ⟨#[112]⟩),.d (aj ⟨#[]⟩),.d (.sl [[aj ⟨#[97]⟩,ab 2,ab 0,ab 1,ab 0]]),.d (.sl [[aj ⟨#[99]⟩,.sl [dit (.mk 1 (aI 17 [awV,.mk 1 3 ⟨#[]⟩ []]) ⟨#[]⟩ ⟨#[]⟩ [] [] [] [] []),dit (.mk 2 (aI 15 [awV,.mk 1 1 ⟨#[]⟩ []]) ⟨#[]⟩ ⟨#[]⟩ [] [] [] [] [])]]])]:=by
  show V.agg [_,_,_,V.d (.sl [[_,gR _]])]=_;unfold gR;rfl
 have hit:[awI].map dit=[[ab 3,ab 0,ab 0,aj ⟨#[]⟩,.sl [],aj ⟨#[97]⟩,aj ⟨#[]⟩,.sl [[ab 0,ab 0,ab 2,dbl true],[ab 1,ab 3,ab 6,dbl false]],.sl [],.sl [],.sl [],.sl []]]:=by
  rw[SD,SC,dq];rfl
 unfold eT at h1 h2 h3;unfold jd at h2 h3;simp only[hit,SC]at h2 h3;rw[e1]at h1;refine ae Tryz.func8 k8 rfl fun hb hw=>?_;unfold c8;simp -dsimp only[aw,seval];refine ac (h1 _) ?_;simp -dsimp only[aw,seval];refine ac (h2 _) ?_;simp -dsimp only[aw,seval];refine ac (h3 _) ?_;have q1:decide (((1:Nat):Int)=1)=true:=rfl;have q2:decide (((2:Nat):Int)=2)=true:=rfl;have j1:∀x y:D,iaV 2 (.d (.sl [[x,y]])) (.d (.lit (.int .i64 0)))=some (.row [x,y] 0):=fun x y=>rfl;have j2:∀a b c d e f g h i j k l:D,iaV 12 (.d (.sl [[a,b,c,d,e,f,g,h,i,j,k,l]])) (.d (.lit (.int .i64 0)))=some (.row [a,b,c,d,e,f,g,h,i,j,k,l] 0):=fun a b c d e f g h i j k l=>rfl
 have j3:∀a b c d e f g h:D,iaV 4 (.d (.sl [[a,b,c,d],[e,f,g,h]])) (.d (.lit (.int .i64 1)))=some (.row [e,f,g,h] 0):=fun a b c d e f g h=>rfl;simp -dsimp only[aw,seval,List.length_cons,List.length_nil,Su,decide_true,q1,q2,j1,j2,j3];refine bh (show G.eqs 56=true by kernel_rfl) ?_;have q3:mh false [.i .i64,.i .i64,.i .i64,.b] (V.agg [.d (ab 1),.d (ab 3),.d (ab 6),.d (dbl false)]) (V.agg [.d (.lit (.int .i64 1)),.d (.lit (.int .i64 3)),.d (.lit (.int .i64 6)),.d (.lit (.bool false))])=some (an true):=by simp[mh,cU,nj]
 simp -dsimp only[aw,seval,q3,Su,decide_true];first|exact al hb rfl rfl|exact am hb rfl rfl
theorem jT{α:Type}{l m:List α}{j:Nat}(h:j<l.length)(h':j<m.length)(ht:l.take j=m.take j)(e:l[j]=m[j]):l.take (j+1)=m.take (j+1):=by
 rw[SA h,SA h',ht,e]
theorem qY{α:Type}{l m:List α}{j:Nat}(h:l.length≤j)(e:l.length=m.length)(ht:l.take j=m.take j):l=m:=by
 rwa[Sy h,Sy (by omega)]at ht
theorem xj{α:Type}{l m:List α}{j:Nat}(h:j<l.length)(h':j<m.length)(e:l[j]≠m[j]):l≠m:=fun q=>e (by subst q;rfl)
theorem sG:∀(l m:List Ex),(∀a,a∈l->∀b,kN a b=true↔a=b)->(iz l m=true↔l=m)
 | [],[],_=>⟨fun _=>rfl,fun _=>rfl⟩
 | [],_::_,_=>⟨fun h=>(by cases h),fun h=>(by cases h)⟩
 | _::_,[],_=>⟨fun h=>(by cases h),fun h=>(by cases h)⟩
 | a::r,b::s,h=>by
  rw[iz,Sq,h a (by simp),sG r s fun x hx=>h x (by simp[hx]),List.cons.injEq]
theorem rC(a:Ex):∀b,kN a b=true↔a=b:=by
 induction a using Ex.ind2 with
 | h a ih=>
 intro b;rw[vX,Sq,Sq,Sq,decide_eq_true_eq,decide_eq_true_eq,decide_eq_true_eq,sG _ _ ih];cases a;cases b
 exact⟨fun⟨h1,h2,h3,h4⟩=>by
  have h1:_=_:=h1;have h2:_=_:=h2;have h3:_=_:=h3;have h4:_=_:=h4;simp only[Ex.op,Ex.num,Ex.name,Ex.args]at h1 h2 h3 h4;subst h1 h2 h3 h4;rfl,fun h=>by cases h;exact⟨rfl,rfl,rfl,rfl⟩⟩
theorem iF{p:Prop}{r:Bool}(hr:r=true↔p)(h:¬p):r=false:=by
 cases r with
 | false=>rfl
 | true=>exact absurd (hr.1 rfl) h
theorem nu(p:Prop):∃r:Bool,r=true↔p:=by
 by_cases h:p
 .exact⟨true,fun _=>h,fun _=>rfl⟩
 .exact⟨false,fun e=>(by cases e),fun e=>absurd e h⟩
theorem nv(l m:List ByteArray)(r:Bool)(hr:r=true↔l=m)(hl:l.length≤1200000)(σ:LLV):Fun G 80 [.d (.sl (l.map fun s=>[aj s])),.d (.sl (m.map fun s=>[aj s]))] σ (aN (an r) σ):=by
 refine ae Tryz.func80 k80 rfl fun hb hw=>?_;unfold c80;by_cases hlen:l.length=m.length
 case neg=>
  obtain rfl:=iF hr fun e=>hlen (by rw[e]);have d0:decide (((l.length:Nat):Int)=(m.length:Nat))=false:=decide_eq_false (by omega);simp -dsimp only[aw,seval,Sw,d0];first|exact al hb rfl rfl|exact am hb rfl rfl
 have d0:decide (((l.length:Nat):Int)=(m.length:Nat))=true:=decide_eq_true (by omega);simp -dsimp only[aw,seval,Sw,d0];refine aS [0,1,5] (fun(j:Nat) ρ σ'=>ρ=[(0,.d (.sl (l.map fun s=>[aj s]))),(1,.d (.sl (m.map fun s=>[aj s]))),(5,aK .i64 j)]/\σ'=σ/\l.take j=m.take j) l.length ⟨rfl,rfl,rfl⟩ ?_ _;rintro j ρ' σ' hj ⟨rfl,rfl,hI⟩;by_cases hlt:j<l.length
 .have hlt':j<m.length:=by omega
  have wj:=aT hlt (show l.length≤9223372036854775807 by omega);have e1:(l.map fun s=>[aj s])[j]? = some [aj l[j]]:=by rw[Sx,Sv hlt];rfl
  have e2:(m.map fun s=>[aj s])[j]? = some [aj m[j]]:=by rw[Sx,Sv hlt'];rfl
  by_cases hq:l[j]=m[j]
  .simp -dsimp only[aw,seval,Sw,Ss,hlt,decide_true,e1,e2,decide_eq_true hq,wj];have fin:=fun(ρ:ai) (hs)=>Nxt.same (n0:=σ'.length) (R:=fun ρ s=>ρ=[(0,V.d (.sl (l.map fun s=>[aj s]))),(1,.d (.sl (m.map fun s=>[aj s]))),(5,aK .i64 ((j+1:Nat):Int))]/\s=σ'/\l.take (j+1)=m.take (j+1)) (ρ:=[(0,V.d (.sl (l.map fun s=>[aj s]))),(1,.d (.sl (m.map fun s=>[aj s]))),(5,aK .i64 ((j+1:Nat):Int))]) (SE _) hb hs ⟨rfl,rfl,jT hlt hlt' hI hq⟩;have fin:=fin [] (by simp[au,V.under]);first|exact fin|exact⟨hlt,fin⟩
  .obtain rfl:=iF hr (xj hlt hlt' hq);simp -dsimp only[aw,seval,Sw,Ss,hlt,decide_true,e1,e2,decide_eq_false hq];first|exact al hb rfl rfl|exact am hb rfl rfl
 .obtain rfl:=hr.2 (qY (by omega) hlen hI);simp -dsimp only[aw,seval,Sw,Ss,hlt,decide_false];first|exact al hb rfl rfl|exact am hb rfl rfl
theorem J8(w v:Wt):mh true [.i .i64,.i .i64,.i .i64,.b] (V.agg [.d (ab w.lo),.d (ab w.hi),.d (ab w.w),.d (dbl w.each)]) (V.agg [.d (ab v.lo),.d (ab v.hi),.d (ab v.w),.d (dbl v.each)])=some (an (!(decide (w.lo=v.lo)&&(decide (w.hi=v.hi)&&(decide (w.w=v.w)&&(w.each==v.each)))))):=by
 simp[mh,cU,nj]
theorem I7(w v:Wt):(decide (w.lo=v.lo)&&(decide (w.hi=v.hi)&&(decide (w.w=v.w)&&(w.each==v.each))))=true↔w=v:=by
 obtain⟨a,b,c,d⟩:=w;obtain⟨a',b',c',d'⟩:=v;simp[Wt.mk.injEq]
def IV(l:List It):Prop:=bi l≤1100000->∀(m:List It) (r:Bool),(r=true↔l=m)->∀σ:LLV,Fun G 11 [.d (gR l),.d (gR m)] σ (aN (an r) σ)
theorem Jt(x y:It):x=y↔x.kind=y.kind/\x.ex=y.ex/\x.name=y.name/\x.idx=y.idx/\x.ws=y.ws/\x.items=y.items/\x.els=y.els/\x.bef=y.bef/\x.aft=y.aft:=by
 cases x;cases y;constructor
 .intro h;cases h;exact⟨rfl,rfl,rfl,rfl,rfl,rfl,rfl,rfl,rfl⟩
 .rintro⟨h1,h2,h3,h4,h5,h6,h7,h8,h9⟩;simp only[It.kind,It.ex,It.name,It.idx,It.ws,It.items,It.els,It.bef,It.aft]at h1 h2 h3 h4 h5 h6 h7 h8 h9;subst h1 h2 h3 h4 h5 h6 h7 h8 h9;rfl
theorem xZ(x y:It)(h1:IV x.items)(h2:IV x.els)(hbig:fN x≤1100000)(r:Bool)(hr:r=true↔x=y)(σ:LLV):Fun G 31 [vit x,vit y] σ (aN (an r) σ):=by
 have hbx:=ep x;rw[Jt]at hr;obtain⟨r1,hr1⟩:=nu (x.items=y.items);obtain⟨r2,hr2⟩:=nu (x.els=y.els);obtain⟨r3,hr3⟩:=nu (x.bef=y.bef);obtain⟨r4,hr4⟩:=nu (x.aft=y.aft);have f0:=fun σ=>rX x.ex y.ex σ;have f1:=fun σ=>h1 (by omega) y.items r1 hr1 σ;have f2:=fun σ=>h2 (by omega) y.els r2 hr2 σ;have f3:=fun σ=>nv x.bef y.bef r3 hr3 (by omega) σ;have f4:=fun σ=>nv x.aft y.aft r4 hr4 (by omega) σ;simp only[ao]at f0;refine ae Tryz.func31 k31 (by simp only[aJ];rfl) fun hb hw=>?_;unfold c31;by_cases hk:x.kind=y.kind
 case neg=>
  obtain rfl:=iF hr fun e=>hk e.1;simp -dsimp only[aw,seval,aJ,decide_eq_false hk];first|exact al hb rfl rfl|exact am hb rfl rfl
 simp -dsimp only[aw,seval,aJ,decide_eq_true hk];refine ac (f0 _) ?_;cases he:kN x.ex y.ex with
 | false=>
  obtain rfl:=iF hr fun e=>by rw[(rC _ _).2 e.2.1]at he;cases he
  simp -dsimp only[aw,seval];first|exact al hb rfl rfl|exact am hb rfl rfl
 | true=>
 have he:=(rC _ _).1 he;by_cases hn:x.name=y.name
 case neg=>
  obtain rfl:=iF hr fun e=>hn e.2.2.1;simp -dsimp only[aw,seval,decide_eq_false hn];first|exact al hb rfl rfl|exact am hb rfl rfl
 by_cases hi:x.idx=y.idx
 case neg=>
  obtain rfl:=iF hr fun e=>hi e.2.2.2.1;simp -dsimp only[aw,seval,decide_eq_true hn,decide_eq_false hi];first|exact al hb rfl rfl|exact am hb rfl rfl
 by_cases hlen:x.ws.length=y.ws.length
 case neg=>
  obtain rfl:=iF hr fun e=>hlen (by rw[e.2.2.2.2.1]);have d0:decide (((x.ws.length:Nat):Int)=(y.ws.length:Nat))=false:=decide_eq_false (by omega);simp -dsimp only[aw,seval,decide_eq_true hn,decide_eq_true hi,Sw,d0];first|exact al hb rfl rfl|exact am hb rfl rfl
 have d0:decide (((x.ws.length:Nat):Int)=(y.ws.length:Nat))=true:=decide_eq_true (by omega);simp -dsimp only[aw,seval,decide_eq_true hn,decide_eq_true hi,Sw,d0];generalize hbx2:[[V.d (ab x.kind),V.d (ab x.ex.op),V.d (ab x.ex.num),V.d (aj x.ex.name),V.d (.sl (x.ex.args.map dex)),V.d (aj x.name),V.d (aj x.idx),V.d (.sl (x.ws.map dwt)),V.d (.sl (x.items.map dit)),V.d (.sl (x.els.map dit)),V.d (.sl (x.bef.map fun s=>[aj s])),V.d (.sl (x.aft.map fun s=>[aj s]))],[V.d (ab y.kind),V.d (ab y.ex.op),V.d (ab y.ex.num),V.d (aj y.ex.name),V.d (.sl (y.ex.args.map dex)),V.d (aj y.name),V.d (aj y.idx),V.d (.sl (y.ws.map dwt)),V.d (.sl (y.items.map dit)),V.d (.sl (y.els.map dit)),V.d (.sl (y.bef.map fun s=>[aj s])),V.d (.sl (y.aft.map fun s=>[aj s]))]]=bx
 have hbb:ak (σ++bx).length (σ++bx)=true:=by rw[<-hbx2];exact aq hb rfl
 refine aS [2,3,5] (fun(j:Nat) ρ σ'=>ρ=[(2,.ptr σ.length 0),(3,.ptr (σ.length+1) 0),(5,aK .i64 j)]/\σ'=σ++bx/\x.ws.take j=y.ws.take j) x.ws.length ⟨rfl,rfl,rfl⟩ ?_ _;rintro j ρ' σ' hj ⟨rfl,rfl,hI⟩;have hb2:2=bx.length:=by rw[<-hbx2];rfl
 have fin:=fun hs (e:x.ws.take (j+1)=y.ws.take (j+1))=>Nxt.same (n0:=σ.length) (σ:=σ++bx) (R:=fun ρ s=>ρ=[(2,.ptr σ.length 0),(3,.ptr (σ.length+1) 0),(5,aK .i64 ((j+1:Nat):Int))]/\s=σ++bx/\x.ws.take (j+1)=y.ws.take (j+1)) (ρ:=[(2,.ptr σ.length 0),(3,.ptr (σ.length+1) 0),(5,aK .i64 ((j+1:Nat):Int))]) (by simp) hbb hs ⟨rfl,rfl,e⟩;have fin:=fin (by simp[au,V.under,<-hb2]);subst hbx2;by_cases hlt:j<x.ws.length
 .have hlt':j<y.ws.length:=by omega
  have wj:=aT hlt (show x.ws.length≤9223372036854775807 by omega);have e1:(x.ws.map dwt)[j]? = some [ab x.ws[j].lo,ab x.ws[j].hi,ab x.ws[j].w,dbl x.ws[j].each]:=by rw[Sx,Sv hlt];rfl
  have e2:(y.ws.map dwt)[j]? = some [ab y.ws[j].lo,ab y.ws[j].hi,ab y.ws[j].w,dbl y.ws[j].each]:=by rw[Sx,Sv hlt'];rfl
  have q1:=J8 x.ws[j] y.ws[j];have q2:=I7 x.ws[j] y.ws[j];generalize (decide (x.ws[j].lo=y.ws[j].lo)&&(decide (x.ws[j].hi=y.ws[j].hi)&&(decide (x.ws[j].w=y.ws[j].w)&&(x.ws[j].each==y.ws[j].each))))=b at q1 q2;simp -dsimp only[aw,seval,Sw,Ss,hlt,decide_true,e1,e2];refine bh (by kernel_rfl) ?_;cases b with
  | true=>
   simp -dsimp only[aw,seval,q1,wj];first|exact fin (jT hlt hlt' hI (q2.1 rfl))|exact⟨hlt,fin (jT hlt hlt' hI (q2.1 rfl))⟩
  | false=>
   obtain rfl:=iF hr fun e=>xj hlt hlt' (fun h=>by cases q2.2 h) e.2.2.2.2.1;simp -dsimp only[aw,seval,q1];first|exact al hb rfl rfl|exact am hb rfl rfl
 .have hws:=qY (by omega) hlen hI;simp -dsimp only[aw,seval,Sw,Ss,hlt,decide_false];refine ac (f1 _) ?_;cases r1 with
  | false=>
   obtain rfl:=iF hr fun e=>by cases hr1.2 e.2.2.2.2.2.1
   simp -dsimp only[aw,seval];first|exact al hb rfl rfl|exact am hb rfl rfl
  | true=>
  simp -dsimp only[aw,seval];refine ac (f2 _) ?_;cases r2 with
  | false=>
   obtain rfl:=iF hr fun e=>by cases hr2.2 e.2.2.2.2.2.2.1
   simp -dsimp only[aw,seval];first|exact al hb rfl rfl|exact am hb rfl rfl
  | true=>
  simp -dsimp only[aw,seval];refine ac (f3 _) ?_;cases r3 with
  | false=>
   obtain rfl:=iF hr fun e=>by cases hr3.2 e.2.2.2.2.2.2.2.1
   simp -dsimp only[aw,seval];first|exact al hb rfl rfl|exact am hb rfl rfl
  | true=>
  simp -dsimp only[aw,seval];refine ac (f4 _) ?_;cases r4 with
  | false=>
   obtain rfl:=iF hr fun e=>by cases hr4.2 e.2.2.2.2.2.2.2.2
   simp -dsimp only[aw,seval];first|exact al hb rfl rfl|exact am hb rfl rfl
  | true=>
  obtain rfl:=hr.2 ⟨hk,he,hn,hi,hws,hr1.1 rfl,hr2.1 rfl,hr3.1 rfl,hr4.1 rfl⟩;simp -dsimp only[aw,seval];first|exact al hb rfl rfl|exact am hb rfl rfl
theorem wv:∀l:List It,IV l:=by
 refine jR fun l ih hbig m r hr σ=>?_;have hll:=nJ l;refine ae Tryz.func11 k11 rfl fun hb hw=>?_;unfold c11;by_cases hlen:l.length=m.length
 case neg=>
  obtain rfl:=iF hr fun e=>hlen (by rw[e]);have d0:decide (((l.length:Nat):Int)=(m.length:Nat))=false:=decide_eq_false (by omega);simp -dsimp only[aw,seval,gR,Sw,d0];first|exact al hb rfl rfl|exact am hb rfl rfl
 have d0:decide (((l.length:Nat):Int)=(m.length:Nat))=true:=decide_eq_true (by omega);simp -dsimp only[aw,seval,gR,Sw,d0];refine aS [0,1,5] (fun(j:Nat) ρ σ'=>ρ=[(0,.d (.sl (l.map dit))),(1,.d (.sl (m.map dit))),(5,aK .i64 j)]/\σ'=σ/\l.take j=m.take j) l.length ⟨rfl,rfl,rfl⟩ ?_ _;rintro j ρ' σ' hj ⟨rfl,rfl,hI⟩;have fin:=fun hs (e:l.take (j+1)=m.take (j+1))=>Nxt.same (n0:=σ'.length) (σ:=σ') (R:=fun ρ s=>ρ=[(0,V.d (.sl (l.map dit))),(1,.d (.sl (m.map dit))),(5,aK .i64 ((j+1:Nat):Int))]/\s=σ'/\l.take (j+1)=m.take (j+1)) (ρ:=[(0,V.d (.sl (l.map dit))),(1,.d (.sl (m.map dit))),(5,aK .i64 ((j+1:Nat):Int))]) (SE _) hb hs ⟨rfl,rfl,e⟩;have fin:=fin (by simp[au,V.under]);by_cases hlt:j<l.length
 .have hlt':j<m.length:=by omega
  have wj:=aT hlt (show l.length≤9223372036854775807 by omega);have e1:(l.map dit)[j]? = some (dit l[j]):=by rw[Sx,Sv hlt];rfl
  have e2:(m.map dit)[j]? = some (dit m[j]):=by rw[Sx,Sv hlt'];rfl
  obtain⟨i1,i2⟩:=ih _ (SB hlt);have hm:=gV (SB hlt);obtain⟨s,hs⟩:=nu (l[j]=m[j]);have f1:=fun σ=>xZ l[j] m[j] i1 i2 (by omega) s hs σ;simp only[aJ]at f1;simp -dsimp only[aw,seval,Sw,Ss,hlt,decide_true,e1,e2,dq];refine bA (f1 _) ?_;cases s with
  | true=>
   simp -dsimp only[aw,seval,wj];first|exact fin (jT hlt hlt' hI (hs.1 rfl))|exact⟨hlt,fin (jT hlt hlt' hI (hs.1 rfl))⟩
  | false=>
   obtain rfl:=iF hr (xj hlt hlt' fun h=>by cases hs.2 h);simp -dsimp only[aw,seval];first|exact al hb rfl rfl|exact am hb rfl rfl
 .obtain rfl:=hr.2 (qY (by omega) hlen hI);simp -dsimp only[aw,seval,Sw,Ss,hlt,decide_false];first|exact al hb rfl rfl|exact am hb rfl rfl
theorem Ht{l:Bs}(hl:l.length≤16384):∃(N:Nat) (p:List It×PS),N≤100000000/\itL (bgT l) N ((bgT l).length+2) [] (bgS l)=some p/\(p.2.2.2=0->bi p.1≤1100000)/\rq p=gp l/\bi (gp l).1≤1100000:=by
 refine⟨2*(bgT l).length+4,?_⟩;have hT:=(IF hl).2
 have hR:fi [] (fun ts=>iD (zLs ts) ts) l=match cR l with
  | .err n e=>([],n,e)
  | .ok ts=>qy [] (iD (zLs ts) ts):=by unfold fi;rw[if_neg (by omega)];cases cR l<;>rfl
 unfold gp;rw[hR];unfold bgT bgS at *;cases hx:cR l with
 | err n e=>
  have he:=nH hx;rw[hx]at hT;simp only;refine⟨([],(0,n,e)),by decide,if_neg fun c=>he c.1,fun _=>by simp[bi],?_⟩;unfold rq;simp only[if_neg he];exact⟨trivial,by simp[bi]⟩
 | ok ts=>
  rw[hx]at hT;simp only at hT ⊢;have hA:=KB (ts:=ts) (N:=2*ts.length+4) (SE _);have hk:=mT (zLs ts) ts;cases hy:iD (zLs ts) ts with
  | out=>exact absurd hy hk.ne
  | bad e n=>
   rw[hy]at hA;obtain⟨he,v,b,hb⟩:=hA;refine⟨(v,(b,n,e)),by omega,hb,fun h=>absurd h he,?_⟩;unfold rq qy;simp only[if_neg he];exact⟨trivial,by simp[bi]⟩
  | ok v q=>
   rw[hy]at hA hk;obtain⟨b,hb,rfl,h⟩:=hA;have hs:=hk.2;refine⟨(v,(b,0,0)),by omega,h,fun _=>by simp only;omega,?_⟩;unfold rq qy;simp only[if_true];refine⟨trivial,?_⟩;split
   .simp only;omega
   .simp[bi]
theorem CV(l:Bs)(σ:LLV):Fun G 3 [.d (aj (bs l))] σ (aN (an true) σ):=by
 refine ae Tryz.func3 k3 rfl fun hb hw=>?_;unfold c3;by_cases hbig:1500<l.length
 .have d0:decide ((1500:Int)<((l.length:Nat):Int))=true:=decide_eq_true (by omega);simp -dsimp only[aw,seval,aE,d0];refine ac (oO _) ?_;simp -dsimp only[aw,seval];first|exact al hb rfl rfl|exact am hb rfl rfl
 have d0:decide ((1500:Int)<((l.length:Nat):Int))=false:=decide_eq_false (by omega);obtain⟨N,p,hN,h,hsz,he,hz⟩:=Ht (l:=l) (by omega);have p1:=fun σ=>ml l σ;have p2:=fun σ=>yb (l:=l) (by omega) hN h hsz σ;rw[he]at p2;have p3:=fun σ=>wv (gp l).1 (by omega) (gp l).1 true ⟨fun _=>rfl,fun _=>rfl⟩ σ;unfold gR at p3;unfold eT jd at p1 p2;generalize gp l=r at *;obtain⟨v,n,e⟩:=r;have dn:decide (n=n)=true:=decide_eq_true rfl;have de:decide (e=e)=true:=decide_eq_true rfl;simp only at p1 p2 p3;simp -dsimp only[aw,seval,aE,d0];refine ac (p1 _) ?_;simp -dsimp only[aw,seval];refine ac (p2 _) ?_;simp -dsimp only[aw,seval];refine ac (p3 _) ?_
 simp -dsimp only[aw,seval,dn,de,decide_true];refine ac (oO _) ?_;simp -dsimp only[aw,seval];first|exact al hb rfl rfl|exact am hb rfl rfl
theorem oL{P:Program}{W:World}{n:String}{d:DataW Unit}:∀{l:List (String×DataW Unit)} {ps:List MemPlace},DataW.LaidVars P W l ps->(n,d)∈l->
 ∃g t cs fuel p,P.globalNamed n=some g/\(P.globals[g]?).map (·.type)=some t/\W.var? P n=some cs/\DataW.trod (fun _=>()) P W 0 (fun _=>true) false fuel t cs.toList=some (d,p)
 | [],_,_,h=>by cases h
 | (n',d')::r,ps,hv,h=>by
  obtain⟨g,t,cs,fuel,p,q,h1,h2,h3,h4,h5,-⟩:=hv;rcases List.mem_cons.1 h with h|h
  .cases h;exact⟨g,t,cs,fuel,p,h1,h2,h3,h4⟩
  .exact oL h5 h
theorem mZ{W:World}{n:String}{g:Nat}{l:List ByteArray}{d:DataW Unit}(hg:Tryz.prog.globalNamed n=some g)(ht:(Tryz.prog.globals[g]?).map (·.type)=some 52)(hd:d=.slice (l.map fun s=>.lit (.string s.data.toList)) [])(hl:0<l.length)
 {cs:Array Value}{fuel:Nat}{p:List MemPlace}(hvar:W.var? Tryz.prog n=some cs)(hr:DataW.trod (fun _=>()) Tryz.prog W 0 (fun _=>true) false fuel 52 cs.toList=some (d,p)):∃v,W.cell? ⟨g,0,none⟩=some v/\dm W l v:=by
 subst hd;rcases DataW.trod_slice Tryz.underlying52 hr with⟨-,hx⟩|⟨ad,len,cap,elems,rest,n',hn',g3,hx,hb,hl',hm,hlen2,hel,-,-⟩
 .simp at hx
 .simp only[Prod.mk.injEq,DataW.slice.injEq]at hx;obtain⟨⟨hx1,-⟩,-⟩:=hx;have hlen:len=l.length:=by have h9:=congrArg List.length hx1;rw[Sw,Sw]at h9;rw[<-hlen2,h9]
  have hc0:=World.var?_cell hg hvar 0;have hv:cs.toList[0]? = some (.slice (some ad) len cap):=by rw[g3];rfl
  refine⟨.slice (some ad) len cap,by rw[hc0];simpa using hv,?_⟩
  have hcell:∀i (hi:i<len),∃s:ByteArray,W.cell? (ad.add i)=some (.string s)/\l[i]? = some s:=by
   intro i hi;have h1:=hel i hi;rw[show Tryz.prog.cellsOf 9=1 by kernel_rfl,Nat.mul_one,Sv (by omega)]at h1;obtain⟨cs',hc,ht⟩:=Option.bind_eq_some_iff.1 h1;obtain⟨-,hcl,hcc⟩:=World.cells?_some hc;obtain⟨s,rfl,hs,-⟩:=DataW.trod_string Tryz.underlying9 ht;have h2:=hcc 0 (by omega);refine⟨s,by simpa[Addr.add]using h2,?_⟩;have h3:=congrArg (·[i]?) hx1;simp only[Sx,Sv (show i<elems.length by omega),Option.map_some,hs]at h3;rw[Option.map_eq_some_iff]at h3;obtain⟨s',h4,h5⟩:=h3;rw[h4];simp only[DataW.lit.injEq,Lit.string.injEq]at h5;congr 1;cases s';cases s;simp at h5;simp[h5]
  have hsp:ad.spot=none:=by
   obtain⟨s,h1,-⟩:=hcell 0 (by rw[hlen];exact hl);have:=B3 h1;simpa[Addr.add]using this
  rw[hlen];refine⟨some ad,cap,rfl,by omega,hm,fun i s hi=>⟨ad.block,ad.off,by cases ad;simp_all,?_⟩⟩;obtain⟨s',h1,h2⟩:=hcell i (by rw[hlen];exact(List.getElem?_eq_some_iff.1 hi).1);rw[hi]at h2;cases h2
  have ha:ad.add i=⟨ad.block,ad.off+i,none⟩:=by
   cases ad;simp only at hsp;subst hsp;unfold Addr.add;by_cases h:i=0
   .subst h;simp
   .simp[h]
  rw[ha]at h1;exact h1
theorem yI{w:World}{l:List ByteArray}{v:Value}(h:dm w l v)(hs:∀s,s∈l->s.size≤maxLen):DRep (mem w) (cT l) v:=by
 obtain⟨p,cap,rfl,h4,h5,h6⟩:=h;have hlen:l.length=(l.map fun s=>[aj s]).length:=by simp
 unfold cT;rw[hlen];refine .sl _ 1 p cap (fun i _=>.string (l[i]?.getD ⟨#[]⟩)) (fun r hr=>?_) (fun i j hi hj=>?_) (fun i hi=>?_) (by omega) h5
 .obtain⟨s,-,rfl⟩:=List.mem_map.1 hr;rfl
 .have hi':i<l.length:=by simpa using hi
  have hj0:j=0:=by simpa using hj
  subst hj0;simp only[List.getElem_map,List.getElem_cons_zero,Sv hi',Option.getD_some];exact .lit _ (hs _ (SB hi'))
 .have hi':i<l.length:=by simpa using hi
  obtain⟨b,off,h7,h8⟩:=h6 i _ (Sv hi');refine⟨b,off,h7,fun j hj=>?_⟩;have hj0:j=0:=by omega
  subst hj0;simp only[Sv hi',Option.getD_some];simpa[mem]using h8
def rg:List (String×DataW Unit):=[("math/bits.deBruijn32tab",Rows.laid_math_bits_deBruijn32tab),("math/bits.deBruijn64tab",Rows.laid_math_bits_deBruijn64tab),("internal/strconv.uint64pow10",Rows.laid_internal_strconv_uint64pow10),("strconv.ErrRange",Rows.laid_strconv_ErrRange),("strconv.ErrSyntax",Rows.laid_strconv_ErrSyntax),("testbench/lexer.keywords",Rows.laid_testbench_lexer_keywords),("testbench/lexer.marks",Rows.laid_testbench_lexer_marks)]
theorem My{w:World}(h:laidMet Tryz.prog rg w):G.glob (mem w) (fun b=>b<w.heap.size) w:=by
 obtain⟨ps,hv,-,hpl⟩:=h;have at':=fun n d=>@oL Tryz.prog w n d rg ps hv;refine⟨fun g cs hg=>?_,fun g p hg=>?_⟩
 .change (if g=0 then some [cT ch]else if g=1 then some [.sl (aM.map fun s=>[.lit (.string (bs s))])]else none)=some cs at hg
  have fin:∀(l:List ByteArray),(∃v,w.cell? ⟨g,0,none⟩=some v/\dm w l v)->(∀s,s∈l->s.size≤maxLen)->cs=[cT l]->∃val:Nat->Value,(∀j,j<cs.length->mem w g j=some (val j))/\∀j (h:j<cs.length),DRep (mem w) cs[j] (val j):=by
   rintro l ⟨v,h1,h2⟩ hs rfl;refine⟨fun _=>v,fun j hj=>?_,fun j hj=>?_⟩
   .have hj0:j=0:=by simpa using hj
    subst hj0;exact h1
   .have hj0:j=0:=by simpa using hj
    subst hj0;exact yI h2 hs
  split at hg
  .rename_i e;subst e;obtain⟨g',t,vs,fuel,p,h1,h2,h3,h4⟩:=at' "testbench/lexer.keywords" Rows.laid_testbench_lexer_keywords (by simp[rg]);obtain rfl:=Option.some.inj ((show Tryz.prog.globalNamed "testbench/lexer.keywords" = some 0 by kernel_rfl).symm.trans h1);obtain rfl:=Option.some.inj ((show(Tryz.prog.globals[0]?).map (·.type)=some 52 by kernel_rfl).symm.trans h2);exact fin ch (mZ h1 h2 (show Rows.laid_testbench_lexer_keywords (H:=Unit)=.slice (ch.map fun s=>.lit (.string s.data.toList)) []by kernel_rfl) (by decide) h3 h4) (by decide +kernel) (by simpa using hg.symm)
  .split at hg
   .rename_i e;subst e;obtain⟨g',t,vs,fuel,p,h1,h2,h3,h4⟩:=at' "testbench/lexer.marks" Rows.laid_testbench_lexer_marks (by simp[rg]);obtain rfl:=Option.some.inj ((show Tryz.prog.globalNamed "testbench/lexer.marks" = some 1 by kernel_rfl).symm.trans h1);obtain rfl:=Option.some.inj ((show(Tryz.prog.globals[1]?).map (·.type)=some 52 by kernel_rfl).symm.trans h2);exact fin gb (mZ h1 h2 (show Rows.laid_testbench_lexer_marks (H:=Unit)=.slice (gb.map fun s=>.lit (.string s.data.toList)) []by kernel_rfl) (by decide) h3 h4) (by decide +kernel) (by have:=Option.some.inj hg;rw[<-this];unfold cT gb;rw[List.map_map];rfl)
   .cases hg
 .have block:∀{n:String} {g:Nat} {cs:Array Value},Tryz.prog.globalNamed n=some g->w.var? Tryz.prog n=some cs->g<w.heap.size/\∃T z,w.heap[g]? = some (.cells cs T z):=by
   intro n g cs h1 h2;unfold World.var? at h2;rw[h1,Option.bind_some]at h2;split at h2
   .rename_i cs' T z hh;cases h2;exact⟨(Array.getElem?_eq_some_iff.1 hh).1,T,z,hh⟩
   .cases h2
  change (if g=3 then some (fun cs=>cs=(Lib.pow10Tab.map fun z=>Value.int .u64 z).toArray)else if g=5 then some (fun cs=>∃t x,cs[0]? = some (.iface t x))else none)=some p at hg;split at hg
  .rename_i e;subst e;cases hg;obtain⟨g',t,vs,fuel,p,h1,h2,h3,h4⟩:=at' "internal/strconv.uint64pow10" Rows.laid_internal_strconv_uint64pow10 (by simp[rg]);obtain rfl:=Option.some.inj ((show Tryz.prog.globalNamed "internal/strconv.uint64pow10" = some 3 by kernel_rfl).symm.trans h1);obtain rfl:=Option.some.inj ((show(Tryz.prog.globals[3]?).map (·.type)=some 271 by kernel_rfl).symm.trans h2);obtain⟨k1,T,z,k2⟩:=block h1 h3;refine⟨k1,vs,T,z,k2,?_⟩;have e:Rows.laid_internal_strconv_uint64pow10 (H:=Unit)=Lib.tabData .u64 Lib.pow10Tab:=by kernel_rfl
   rw[e]at h4;have:=Lib.cells_of_tab (n:=20) Tryz.underlying271 Tryz.underlying207 (by kernel_rfl) (by kernel_rfl) h4;rw[<-this]
  .split at hg
   .rename_i e;subst e;cases hg;obtain⟨g',t,vs,fuel,p,h1,h2,h3,h4⟩:=at' "strconv.ErrRange" Rows.laid_strconv_ErrRange (by simp[rg]);obtain rfl:=Option.some.inj ((show Tryz.prog.globalNamed "strconv.ErrRange" = some 5 by kernel_rfl).symm.trans h1);obtain rfl:=Option.some.inj ((show(Tryz.prog.globals[5]?).map (·.type)=some 140 by kernel_rfl).symm.trans h2);obtain⟨k1,T,z,k2⟩:=block h1 h3;refine⟨k1,vs,T,z,k2,?_⟩;cases fuel with
    | zero=>simp[DataW.trod]at h4
    | succ fuel=>
     obtain⟨ms,hms⟩:∃ms,Tryz.prog.underlying 140=some (.interface ms):=⟨_,Tryz.underlying140⟩
     unfold DataW.trod at h4;rw[hms]at h4
     have hl:∃a,vs.toList=[a]/\∃t x,a=.iface t x:=by
      split at h4<;>simp_all[Rows.laid_strconv_ErrRange]
     obtain⟨a,ha,t,x,rfl⟩:=hl;exact⟨t,x,by rw[<-Array.getElem?_toList,ha];rfl⟩
   .cases hg
theorem rr{f:FuncId}{args:List V}{vs:List Value}{u:Value}{w:World}(hk:laidMet Tryz.prog rg w)(h:Fun G f args [] (aN (.d (.lit u)) []))(hl:vs.length=args.length)
 (hr:∀i (h:i<args.length) (h':i<vs.length),Rep (mem w) [] args[i] vs[i]):Calls Tryz.prog f vs.toArray w fun e w'=>e=.returned u/\Ext w w':=by
 refine(h.2 _ _ _ _ _ _ (My hk) (zZ w) (fun _=>rfl) hl hr).mono fun e w' ⟨M',bm',tk',σ',o,⟨h1,h2⟩,h3,h4,h5⟩=>?_;subst h1;obtain⟨v,h6,h7,-⟩:=h5.1 _ rfl;cases h7 with
 | d h7=>
 cases h7 with
 | lit _ _=>exact⟨h6,h4.os,h4.tape,h4.output,h4.size,fun b hb=>h4.keep b hb⟩
end Go.Proofs.YtnhphlmblenapaaGreatDoor
namespace Go.Proofs.YtnhphlmblenapaaGreatDoor
open Go.ChangeShapes Go.WideShapes Go.RowKit
theorem Tryz.own:ownKnob Tryz.prog.godebug=none:=by kernel_rfl
theorem Tryz.laidOut:laidOutB Tryz.prog=true:=by kernel_rfl
def ig(w:World)(g:Nat)(cs:Array Value):World:=
 {w with heap:=w.heap.modify g fun
   | .cells _ t frozen=>.cells cs t frozen
   | o=>o}
noncomputable def rE(os:Os):World:=
 let w0:=World.holding Tryz.prog os ⟨#[],#[],[]⟩;let n:=w0.heap.size;let w1:=(((w0.alloc (.cells (ch.map Value.string).toArray 9)).alloc (.cells (gb.map Value.string).toArray 9)).alloc (.cells #[.string ⟨#[118,97,108,117,101,32,111,117,116,32,111,102,32,114,97,110,103,101]⟩] 285)).alloc (.cells #[.string ⟨#[105,110,118,97,108,105,100,32,115,121,110,116,97,120]⟩] 285);let w2:=ig w1 0 #[.slice (some ⟨n,0,none⟩) 24 24];let w3:=ig w2 1 #[.slice (some ⟨n+1,0,none⟩) 36 36];let w4:=ig w3 5 #[.iface 283 (.pointer (some ⟨n+2,0,none⟩))];let w5:=ig w4 4 #[.iface 283 (.pointer (some ⟨n+3,0,none⟩))];let w6:=ig w5 3 (Lib.pow10Tab.map fun z=>Value.int .u64 z).toArray;let w7:=ig w6 6 (([0,1,28,2,29,14,24,3,30,22,20,15,25,17,4,8,31,27,13,23,21,19,16,7,26,12,18,6,11,5,10,9]:List Int).map fun z=>Value.int .u8 z).toArray
 ig w7 7 (([0,1,56,2,57,49,28,3,61,58,42,50,38,29,17,4,62,47,59,36,45,43,51,22,53,39,33,30,24,18,12,5,63,55,48,27,60,41,37,16,46,35,44,21,52,32,23,11,54,26,40,15,34,20,31,10,25,14,19,9,13,8,7,6]:List Int).map fun z=>Value.int .u8 z).toArray
theorem rl(os:Os)(args:Array Value):laidMet Tryz.prog rg ((rE os).forCall (fun _ _=>0) ⟨#[],args,[]⟩).memory:=
 laidMet_of_run' 8 (by kernel_rfl) (by kernel_rfl)
theorem Ext.below{w w':World}(h:Ext w w'):Below w.heap.size w w':=⟨h.os,h.tape,h.output,h.size,h.block⟩
theorem xU{H:Type}{enc:TypeId×Value->H}{w:World}{t:TypeId}{v:Value}{d:DataW H}{p:List MemPlace}{base:Nat}{spare:Nat->Bool}{held:Bool}(h:DataW.Trod enc Tryz.prog w base spare held t v d p):∀x∈p,x.block<w.heap.size:=by
 obtain⟨m,hm⟩:=h;exact DataW.trod_lt m _ _ _ hm
section
variable {H : Type} {enc : TypeId × Value -> H} {w : World} {v : Value} {d : DataW H} {p : List MemPlace} {base : Nat} {spare : Nat -> Bool} {held : Bool}
theorem Fd(h:DataW.Trod enc Tryz.prog w base spare held 9 v d p)(hv:Value.okWide Tryz.prog w .any base 9 v):∃l:Bs,Rep (mem w) [] (V.d (aj (bs l))) v:=by
 obtain⟨n,rfl⟩:=okWide_string Tryz.underlying9 hv;obtain⟨fuel,hf⟩:=h;cases fuel with
 | zero=>simp[DataW.trod]at hf
 | succ m=>
  obtain⟨o,g0,-,w0⟩:=DataW.trod_string Tryz.underlying9 hf;cases g0;exact⟨n.data.toList,by rw[jk];exact .d (.lit _ w0)⟩
instance:Inhabited Tok:=⟨⟨0,0,⟨#[]⟩,0⟩⟩
end
end Go.Proofs.YtnhphlmblenapaaGreatDoor
namespace Go.Proofs.YtnhphlmblenapaaGreatDoor
open Go.ChangeShapes Go.WideShapes Go.RowKit
theorem jn(os:Os)(started:os.Started)(H:Type)(enc:TypeId×Value->H):
 ReturnsInHanded {} Tryz.checked os 3 .any (fun w args=>(Rows.classparseItemsSpec.pre enc Tryz.prog Tryz.f3 [] false w args/\laidMetH Tryz.prog rg w)/\sizedMet enc Tryz.prog Tryz.f3 (OpenSpec.ofChange Rows.classparseItemsSpec) false w args)
  (Rows.classparseItemsSpec.post enc Tryz.prog Tryz.f3 false true false false):=by
 refine returnsInHanded_of_change_and (C:=Tryz.checked) (X:=fun w _=>laidMetH Tryz.prog rg w) (fun _ _ _ hh h=>h.of_heap hh) Tryz.own started (by kernel_rfl) Tryz.func3
  (ChangeSpec.witness_shaped (enc:=enc) (C:=Tryz.checked) (os:=os) (X:=fun w _=>laidMetH Tryz.prog rg w) false (rE os) #[.string ⟨#[]⟩] 8 rfl (World.shaped_of_RefB (by kernel_rfl) (by kernel_rfl)) (by kernel_rfl) (by kernel_rfl) (by kernel_rfl) (rl os _)) ?_
 intro W base args ds gs before hval0 hW _ _ hL _;have hval:∀(j:Nat) t v,Tryz.f3.params[j]? = some t->args[j]? = some v->Value.okWide Tryz.prog W .any base t v:=hval0;have hW':=hW;obtain⟨p,q,hA0,hV0,rfl,hfz,hnd⟩:=hW;have hA:DataW.TrodAll enc Tryz.prog W 0 (fun _=>true) true Tryz.f3.params.toList args.toList ds p:=hA0;have hV:DataW.TrodVars enc Tryz.prog W (fun _=>true) [] gs q:=hV0;rw[Tryz.params3]at hA hval;obtain⟨v0,d0,rfl,rfl,h0⟩:=trodAll_one hA;obtain⟨rfl,rfl⟩:=trodVars_none hV;have lt0:=xU h0;obtain⟨l,hv0⟩:=Fd h0 (hval 0 9 v0 rfl rfl);have e1:Rows.classparseItemsSpec.fn H ([d0]++[])={results:=[.lit (.bool true)],args:=[d0]}:=by simp[Rows.classparseItemsSpec]
 refine(rr (vs:=[v0]) hL (CV l []) rfl (fun i h h'=>?_)).mono fun en W' ⟨he,hx⟩=>?_
 .match i,h with
  | 0,_=>exact hv0
 subst he;have bel:=hx.below;refine⟨_,rfl,_,_,_,[],p,[],hW',?_,?_,?_,bel.frame _,fun h=>by cases h⟩
 .rw[e1];exact trodAll_mk1 (shut_bool Tryz.underlying4 true)
 .rw[e1];exact trodAll_mk1 (Below.trod Tryz.laidOut (by kernel_rfl) (of_decide_eq_true (by kernel_rfl)) h0 bel lt0)
 .rw[e1];rfl
theorem lO:Tryz.pinned.checked.prog.inPlace 3=Rows.classparseItemsRow.inPlace:=by kernel_rfl
theorem lX:Tryz.pinned.checked.prog.unfollowed 3=Rows.classparseItemsRow.unfollowed:=by kernel_rfl
theorem lN:Tryz.pinned.checked.prog.recurses 3=Rows.classparseItemsRow.recurses:=by kernel_rfl
theorem lU:Tryz.pinned.checked.prog.varsNamed 3=Rows.classparseItemsRow.named:=by kernel_rfl
theorem jv:joinedFacts Tryz.pinned.checked.prog 3 Tryz.f3 Rows.classparseItemsSpec Rows.classparseItemsRow=true:=by
 unfold joinedFacts;rw[lO,lX,lN,lU];kernel_rfl
theorem fH:Rows.ClassparseItemsSaid:=
 OpenClaim.holds_of_wide 3 Tryz.f3 rfl rfl rfl rfl rfl rfl rfl ⟨rfl,rfl,rfl,rfl,rfl⟩ rfl rfl rfl rfl rfl (by kernel_rfl) Tryz.func3 jv
  (of_decide_eq_true (by kernel_rfl)) (by unfold Func.isWrapper;first|(rw[if_pos (by decide +kernel)];kernel_rfl)|(rw[if_neg (by decide +kernel)];exact⟨rfl,rfl⟩))
  (fun os started H enc _=>jn os started H enc)
#print axioms fH
end Go.Proofs.YtnhphlmblenapaaGreatDoor
