import Derived.LaidLaws
import Derived.OpenShut
import Derived.ChangeSame
import Derived.ChangeVars
import Derived.JoinedOf
import Derived.RowKitTokens
import Derived.ChangeOld
import Derived.Below
import Derived.Test.YtnhphlmblenapaaGreatDoorCz5
set_option linter.unusedVariables false
set_option linter.unusedSimpArgs false
set_option linter.unusedSectionVars false
set_option maxRecDepth 100000
set_option maxHeartbeats 8000000
open Bool renaming and_eq_true->Pa
open Int renaming ofNat_lt->Pb
open List renaming length_map->Pd,getElem?_eq_getElem->Pe,getElem?_map->Pf,getElem_mem->Pg,length_nil->Ph,take_succ_eq_append_getElem->Pi,map_nil->Pj,map_append->Pk,take_of_length_le->Pl,map_map->Pm
open Nat renaming le_refl->Pn
namespace Go.Proofs.YtnhphlmblenapaaGreatDoor
open Go.RowKit
theorem fw{α:Type}{l m:List α}{j:Nat}(h:j<l.length)(h':j<m.length)(ht:l.take j=m.take j)(e:l[j]=m[j]):l.take (j+1)=m.take (j+1):=by
 rw[Pi h,Pi h',ht,e]
theorem jv{α:Type}{l m:List α}{j:Nat}(h:l.length≤j)(e:l.length=m.length)(ht:l.take j=m.take j):l=m:=by
 rwa[Pl h,Pl (by omega)]at ht
theorem ng{α:Type}{l m:List α}{j:Nat}(h:j<l.length)(h':j<m.length)(e:l[j]≠m[j]):l≠m:=fun q=>e (by subst q;rfl)
theorem qM:∀(l m:List Ex),(∀a,a∈l->∀b,lM a b=true↔a=b)->(jg l m=true↔l=m)
 | [],[],_=>⟨fun _=>rfl,fun _=>rfl⟩
 | [],_::_,_=>⟨fun h=>(by cases h),fun h=>(by cases h)⟩
 | _::_,[],_=>⟨fun h=>(by cases h),fun h=>(by cases h)⟩
 | a::r,b::s,h=>by
  rw[jg,Pa,h a (by simp),qM r s fun x hx=>h x (by simp[hx]),List.cons.injEq]
theorem rt(a:Ex):∀b,lM a b=true↔a=b:=by
 induction a using Ex.ind2 with
 | h a ih=>
 intro b;rw[tG,Pa,Pa,Pa,decide_eq_true_eq,decide_eq_true_eq,decide_eq_true_eq,qM _ _ ih];cases a;cases b
 exact⟨fun⟨h1,h2,h3,h4⟩=>by
  have h1:_=_:=h1;have h2:_=_:=h2;have h3:_=_:=h3;have h4:_=_:=h4;simp only[Ex.op,Ex.num,Ex.name,Ex.args]at h1 h2 h3 h4;subst h1 h2 h3 h4;rfl,fun h=>by cases h;exact⟨rfl,rfl,rfl,rfl⟩⟩
theorem eN{p:Prop}{r:Bool}(hr:r=true↔p)(h:¬p):r=false:=by
 cases r with
 | false=>rfl
 | true=>exact absurd (hr.1 rfl) h
theorem ku(p:Prop):∃r:Bool,r=true↔p:=by
 by_cases h:p
 .exact⟨true,fun _=>h,fun _=>rfl⟩
 .exact⟨false,fun e=>(by cases e),fun e=>absurd e h⟩
theorem my(l m:List ByteArray)(r:Bool)(hr:r=true↔l=m)(hl:l.length≤1200000)(σ:LLV):Fun G 80 [.d (.sl (l.map fun s=>[ae s])),.d (.sl (m.map fun s=>[ae s]))] σ (aO (ak r) σ):=by
 refine al Tryz.func80 k80 rfl fun hb hw=>?_;unfold c80;by_cases hlen:l.length=m.length
 case neg=>
  obtain rfl:=eN hr fun e=>hlen (by rw[e]);have d0:decide (((l.length:Nat):Int)=(m.length:Nat))=false:=decide_eq_false (by omega);simp -dsimp only[aw,seval,Pd,d0];exact av hb rfl rfl
 have d0:decide (((l.length:Nat):Int)=(m.length:Nat))=true:=decide_eq_true (by omega);simp -dsimp only[aw,seval,Pd,d0];refine aI [0,1,5] (fun(j:Nat) ρ σ'=>ρ=[(0,.d (.sl (l.map fun s=>[ae s]))),(1,.d (.sl (m.map fun s=>[ae s]))),(5,aC .i64 j)]/\σ'=σ/\l.take j=m.take j) l.length ⟨rfl,rfl,rfl⟩ ?_ _;rintro j ρ' σ' hj ⟨rfl,rfl,hI⟩;by_cases hlt:j<l.length
 .have hlt':j<m.length:=by omega
  have wj:=aJ hlt (show l.length≤9223372036854775807 by omega);have e1:(l.map fun s=>[ae s])[j]? = some [ae l[j]]:=by rw[Pf,Pe hlt];rfl
  have e2:(m.map fun s=>[ae s])[j]? = some [ae m[j]]:=by rw[Pf,Pe hlt'];rfl
  by_cases hq:l[j]=m[j]
  .simp -dsimp only[aw,seval,Pd,Pb,hlt,decide_true,e1,e2,decide_eq_true hq,wj];have fin:=fun(ρ:ac) (hs)=>Nxt.same (n0:=σ'.length) (R:=fun ρ s=>ρ=[(0,V.d (.sl (l.map fun s=>[ae s]))),(1,.d (.sl (m.map fun s=>[ae s]))),(5,aC .i64 ((j+1:Nat):Int))]/\s=σ'/\l.take (j+1)=m.take (j+1)) (ρ:=[(0,V.d (.sl (l.map fun s=>[ae s]))),(1,.d (.sl (m.map fun s=>[ae s]))),(5,aC .i64 ((j+1:Nat):Int))]) (Pn _) hb hs ⟨rfl,rfl,fw hlt hlt' hI hq⟩;have fin:=fin [] (by simp[an,V.under]);first|exact fin|exact⟨hlt,fin⟩
  .obtain rfl:=eN hr (ng hlt hlt' hq);simp -dsimp only[aw,seval,Pd,Pb,hlt,decide_true,e1,e2,decide_eq_false hq];exact av hb rfl rfl
 .obtain rfl:=hr.2 (jv (by omega) hlen hI);simp -dsimp only[aw,seval,Pd,Pb,hlt];exact av hb rfl rfl
theorem Iv(w v:Wt):iY true [.i .i64,.i .i64,.i .i64,.b] (V.agg [.d (aa w.lo),.d (aa w.hi),.d (aa w.w),.d (dbl w.each)]) (V.agg [.d (aa v.lo),.d (aa v.hi),.d (aa v.w),.d (dbl v.each)])=some (ak (!(decide (w.lo=v.lo)&&(decide (w.hi=v.hi)&&(decide (w.w=v.w)&&(w.each==v.each)))))):=by
 simp[iY,cJ,kW]
theorem Hi(w v:Wt):(decide (w.lo=v.lo)&&(decide (w.hi=v.hi)&&(decide (w.w=v.w)&&(w.each==v.each))))=true↔w=v:=by
 obtain⟨a,b,c,d⟩:=w;obtain⟨a',b',c',d'⟩:=v;simp[Wt.mk.injEq]
theorem IV(w v:Fl):iY true [.s,.i .i64,.i .i64,.i .i64,.i .i64] (V.agg [.d (ae w.name),.d (aa w.width),.d (aa w.size),.d (aa w.mode),.d (aa w.init)]) (V.agg [.d (ae v.name),.d (aa v.width),.d (aa v.size),.d (aa v.mode),.d (aa v.init)])=some (ak (!(decide (w.name=v.name)&&(decide (w.width=v.width)&&(decide (w.size=v.size)&&(decide (w.mode=v.mode)&&decide (w.init=v.init))))))):=by
 simp[iY,cJ,kW]
theorem Ij(w v:Fl):(decide (w.name=v.name)&&(decide (w.width=v.width)&&(decide (w.size=v.size)&&(decide (w.mode=v.mode)&&decide (w.init=v.init)))))=true↔w=v:=by
 obtain⟨a,b,c,d,e⟩:=w;obtain⟨a',b',c',d',e'⟩:=v;simp[Fl.mk.injEq]
def Hn(l:List It):Prop:=bi l≤1100000->∀(m:List It) (r:Bool),(r=true↔l=m)->∀σ:LLV,Fun G 11 [.d (cT l),.d (cT m)] σ (aO (ak r) σ)
theorem Il(x y:It):x=y↔x.kind=y.kind/\x.ex=y.ex/\x.name=y.name/\x.idx=y.idx/\x.ws=y.ws/\x.items=y.items/\x.els=y.els/\x.bef=y.bef/\x.aft=y.aft:=by
 cases x;cases y;constructor
 .intro h;cases h;exact⟨rfl,rfl,rfl,rfl,rfl,rfl,rfl,rfl,rfl⟩
 .rintro⟨h1,h2,h3,h4,h5,h6,h7,h8,h9⟩;simp only[It.kind,It.ex,It.name,It.idx,It.ws,It.items,It.els,It.bef,It.aft]at h1 h2 h3 h4 h5 h6 h7 h8 h9;subst h1 h2 h3 h4 h5 h6 h7 h8 h9;rfl
theorem wo(x y:It)(h1:Hn x.items)(h2:Hn x.els)(hbig:gq x≤1100000)(r:Bool)(hr:r=true↔x=y)(σ:LLV):Fun G 31 [vit x,vit y] σ (aO (ak r) σ):=by
 have hbx:=fU x;rw[Il]at hr;obtain⟨r1,hr1⟩:=ku (x.items=y.items);obtain⟨r2,hr2⟩:=ku (x.els=y.els);obtain⟨r3,hr3⟩:=ku (x.bef=y.bef);obtain⟨r4,hr4⟩:=ku (x.aft=y.aft);have f0:=fun σ=>y4 x.ex y.ex σ;have f1:=fun σ=>h1 (by omega) y.items r1 hr1 σ;have f2:=fun σ=>h2 (by omega) y.els r2 hr2 σ;have f3:=fun σ=>my x.bef y.bef r3 hr3 (by omega) σ;have f4:=fun σ=>my x.aft y.aft r4 hr4 (by omega) σ;simp only[au]at f0;refine al Tryz.func31 k31 (by simp only[bw];rfl) fun hb hw=>?_;unfold c31;by_cases hk:x.kind=y.kind
 case neg=>
  obtain rfl:=eN hr fun e=>hk e.1;simp -dsimp only[aw,seval,bw,decide_eq_false hk];exact av hb rfl rfl
 simp -dsimp only[aw,seval,bw,decide_eq_true hk];refine aj (f0 _) ?_;cases he:lM x.ex y.ex with
 | false=>
  obtain rfl:=eN hr fun e=>by rw[(rt _ _).2 e.2.1]at he;cases he
  simp -dsimp only[aw,seval];exact av hb rfl rfl
 | true=>
 have he:=(rt _ _).1 he;by_cases hn:x.name=y.name
 case neg=>
  obtain rfl:=eN hr fun e=>hn e.2.2.1;simp -dsimp only[aw,seval,decide_eq_false hn];exact av hb rfl rfl
 by_cases hi:x.idx=y.idx
 case neg=>
  obtain rfl:=eN hr fun e=>hi e.2.2.2.1;simp -dsimp only[aw,seval,decide_eq_true hn,decide_eq_false hi];exact av hb rfl rfl
 by_cases hlen:x.ws.length=y.ws.length
 case neg=>
  obtain rfl:=eN hr fun e=>hlen (by rw[e.2.2.2.2.1]);have d0:decide (((x.ws.length:Nat):Int)=(y.ws.length:Nat))=false:=decide_eq_false (by omega);simp -dsimp only[aw,seval,decide_eq_true hn,decide_eq_true hi,Pd,d0];exact av hb rfl rfl
 have d0:decide (((x.ws.length:Nat):Int)=(y.ws.length:Nat))=true:=decide_eq_true (by omega);simp -dsimp only[aw,seval,decide_eq_true hn,decide_eq_true hi,Pd,d0];generalize hbx2:[[V.d (aa x.kind),V.d (aa x.ex.op),V.d (aa x.ex.num),V.d (ae x.ex.name),V.d (.sl (x.ex.args.map dex)),V.d (ae x.name),V.d (ae x.idx),V.d (.sl (x.ws.map dwt)),V.d (.sl (x.items.map dit)),V.d (.sl (x.els.map dit)),V.d (.sl (x.bef.map fun s=>[ae s])),V.d (.sl (x.aft.map fun s=>[ae s]))],[V.d (aa y.kind),V.d (aa y.ex.op),V.d (aa y.ex.num),V.d (ae y.ex.name),V.d (.sl (y.ex.args.map dex)),V.d (ae y.name),V.d (ae y.idx),V.d (.sl (y.ws.map dwt)),V.d (.sl (y.items.map dit)),V.d (.sl (y.els.map dit)),V.d (.sl (y.bef.map fun s=>[ae s])),V.d (.sl (y.aft.map fun s=>[ae s]))]]=bx
 have hbb:ai (σ++bx).length (σ++bx)=true:=by rw[<-hbx2];exact aq hb rfl
 refine aI [2,3,5] (fun(j:Nat) ρ σ'=>ρ=[(2,.ptr σ.length 0),(3,.ptr (σ.length+1) 0),(5,aC .i64 j)]/\σ'=σ++bx/\x.ws.take j=y.ws.take j) x.ws.length ⟨rfl,rfl,rfl⟩ ?_ _;rintro j ρ' σ' hj ⟨rfl,rfl,hI⟩;have hb2:2=bx.length:=by rw[<-hbx2];rfl
 have fin:=fun hs (e:x.ws.take (j+1)=y.ws.take (j+1))=>Nxt.same (n0:=σ.length) (σ:=σ++bx) (R:=fun ρ s=>ρ=[(2,.ptr σ.length 0),(3,.ptr (σ.length+1) 0),(5,aC .i64 ((j+1:Nat):Int))]/\s=σ++bx/\x.ws.take (j+1)=y.ws.take (j+1)) (ρ:=[(2,.ptr σ.length 0),(3,.ptr (σ.length+1) 0),(5,aC .i64 ((j+1:Nat):Int))]) (by simp) hbb hs ⟨rfl,rfl,e⟩;have fin:=fin (by simp[an,V.under,<-hb2]);subst hbx2;by_cases hlt:j<x.ws.length
 .have hlt':j<y.ws.length:=by omega
  have wj:=aJ hlt (show x.ws.length≤9223372036854775807 by omega);have e1:(x.ws.map dwt)[j]? = some [aa x.ws[j].lo,aa x.ws[j].hi,aa x.ws[j].w,dbl x.ws[j].each]:=by rw[Pf,Pe hlt];rfl
  have e2:(y.ws.map dwt)[j]? = some [aa y.ws[j].lo,aa y.ws[j].hi,aa y.ws[j].w,dbl y.ws[j].each]:=by rw[Pf,Pe hlt'];rfl
  have q1:=Iv x.ws[j] y.ws[j];have q2:=Hi x.ws[j] y.ws[j];generalize (decide (x.ws[j].lo=y.ws[j].lo)&&(decide (x.ws[j].hi=y.ws[j].hi)&&(decide (x.ws[j].w=y.ws[j].w)&&(x.ws[j].each==y.ws[j].each))))=b at q1 q2;simp -dsimp only[aw,seval,Pd,Pb,hlt,e1,e2];refine aU (by kernel_rfl) ?_;cases b with
  | true=>
   simp -dsimp only[aw,seval,q1,wj];first|exact fin (fw hlt hlt' hI (q2.1 rfl))|exact⟨hlt,fin (fw hlt hlt' hI (q2.1 rfl))⟩
  | false=>
   obtain rfl:=eN hr fun e=>ng hlt hlt' (fun h=>by cases q2.2 h) e.2.2.2.2.1;simp -dsimp only[aw,seval,q1];exact av hb rfl rfl
 .have hws:=jv (by omega) hlen hI;simp -dsimp only[aw,seval,Pd,Pb,hlt];refine aj (f1 _) ?_;cases r1 with
  | false=>
   obtain rfl:=eN hr fun e=>by cases hr1.2 e.2.2.2.2.2.1
   simp -dsimp only[aw,seval];exact av hb rfl rfl
  | true=>
  simp -dsimp only[aw,seval];refine aj (f2 _) ?_;cases r2 with
  | false=>
   obtain rfl:=eN hr fun e=>by cases hr2.2 e.2.2.2.2.2.2.1
   simp -dsimp only[aw,seval];exact av hb rfl rfl
  | true=>
  simp -dsimp only[aw,seval];refine aj (f3 _) ?_;cases r3 with
  | false=>
   obtain rfl:=eN hr fun e=>by cases hr3.2 e.2.2.2.2.2.2.2.1
   simp -dsimp only[aw,seval];exact av hb rfl rfl
  | true=>
  simp -dsimp only[aw,seval];refine aj (f4 _) ?_;cases r4 with
  | false=>
   obtain rfl:=eN hr fun e=>by cases hr4.2 e.2.2.2.2.2.2.2.2
   simp -dsimp only[aw,seval];exact av hb rfl rfl
  | true=>
  obtain rfl:=hr.2 ⟨hk,he,hn,hi,hws,hr1.1 rfl,hr2.1 rfl,hr3.1 rfl,hr4.1 rfl⟩;simp -dsimp only[aw,seval];exact av hb rfl rfl
theorem tl:∀l:List It,Hn l:=by
 refine pz fun l ih hbig m r hr σ=>?_;have hll:=nf l;refine al Tryz.func11 k11 rfl fun hb hw=>?_;unfold c11;by_cases hlen:l.length=m.length
 case neg=>
  obtain rfl:=eN hr fun e=>hlen (by rw[e]);have d0:decide (((l.length:Nat):Int)=(m.length:Nat))=false:=decide_eq_false (by omega);simp -dsimp only[aw,seval,cT,Pd,d0];exact av hb rfl rfl
 have d0:decide (((l.length:Nat):Int)=(m.length:Nat))=true:=decide_eq_true (by omega);simp -dsimp only[aw,seval,cT,Pd,d0];refine aI [0,1,5] (fun(j:Nat) ρ σ'=>ρ=[(0,.d (.sl (l.map dit))),(1,.d (.sl (m.map dit))),(5,aC .i64 j)]/\σ'=σ/\l.take j=m.take j) l.length ⟨rfl,rfl,rfl⟩ ?_ _;rintro j ρ' σ' hj ⟨rfl,rfl,hI⟩;have fin:=fun hs (e:l.take (j+1)=m.take (j+1))=>Nxt.same (n0:=σ'.length) (σ:=σ') (R:=fun ρ s=>ρ=[(0,V.d (.sl (l.map dit))),(1,.d (.sl (m.map dit))),(5,aC .i64 ((j+1:Nat):Int))]/\s=σ'/\l.take (j+1)=m.take (j+1)) (ρ:=[(0,V.d (.sl (l.map dit))),(1,.d (.sl (m.map dit))),(5,aC .i64 ((j+1:Nat):Int))]) (Pn _) hb hs ⟨rfl,rfl,e⟩;have fin:=fin (by simp[an,V.under]);by_cases hlt:j<l.length
 .have hlt':j<m.length:=by omega
  have wj:=aJ hlt (show l.length≤9223372036854775807 by omega);have e1:(l.map dit)[j]? = some (dit l[j]):=by rw[Pf,Pe hlt];rfl
  have e2:(m.map dit)[j]? = some (dit m[j]):=by rw[Pf,Pe hlt'];rfl
  obtain⟨i1,i2⟩:=ih _ (Pg hlt);have hm:=gz (Pg hlt);obtain⟨s,hs⟩:=ku (l[j]=m[j]);have f1:=fun σ=>wo l[j] m[j] i1 i2 (by omega) s hs σ;simp only[bw]at f1;simp -dsimp only[aw,seval,Pd,Pb,hlt,e1,e2,eV];refine bp (f1 _) ?_;cases s with
  | true=>
   simp -dsimp only[aw,seval,wj];first|exact fin (fw hlt hlt' hI (hs.1 rfl))|exact⟨hlt,fin (fw hlt hlt' hI (hs.1 rfl))⟩
  | false=>
   obtain rfl:=eN hr (ng hlt hlt' fun h=>by cases hs.2 h);simp -dsimp only[aw,seval];exact av hb rfl rfl
 .obtain rfl:=hr.2 (jv (by omega) hlen hI);simp -dsimp only[aw,seval,Pd,Pb,hlt];exact av hb rfl rfl
theorem Hy(a b:Kl):a=b↔a.name=b.name/\a.par=b.par/\a.flds=b.flds/\a.blks=b.blks:=by
 cases a;cases b
 exact⟨fun h=>by cases h;exact⟨rfl,rfl,rfl,rfl⟩,fun⟨h1,h2,h3,h4⟩=>by
  simp only at h1 h2 h3 h4;subst h1 h2 h3 h4;rfl⟩
theorem vp(a b:Kl)(hk:Bc a≤1100000)(hf:a.flds.length≤1200000)(hbk:a.blks.length≤1200000)(r:Bool)(hr:r=true↔a=b)(σ:LLV):Fun G 14 [vkl a,vkl b] σ (aO (ak r) σ):=by
 rw[Hy]at hr;refine al Tryz.func14 k14 rfl fun hb hw=>?_;unfold c14;by_cases n1:a.name=b.name
 case neg=>
  obtain rfl:=eN hr fun e=>n1 e.1;simp -dsimp only[aw,seval,decide_eq_false n1];exact av hb rfl rfl
 by_cases n2:a.par=b.par
 case neg=>
  obtain rfl:=eN hr fun e=>n2 e.2.1;simp -dsimp only[aw,seval,decide_eq_true n1,decide_eq_false n2];exact av hb rfl rfl
 by_cases l1:a.flds.length=b.flds.length
 case neg=>
  obtain rfl:=eN hr fun e=>l1 (by rw[e.2.2.1]);have d1:decide (((a.flds.length:Nat):Int)=(b.flds.length:Nat))=false:=decide_eq_false (by omega);simp -dsimp only[aw,seval,decide_eq_true n1,decide_eq_true n2,Pd,d1];exact av hb rfl rfl
 have d1:decide (((a.flds.length:Nat):Int)=(b.flds.length:Nat))=true:=decide_eq_true (by omega);by_cases l2:a.blks.length=b.blks.length
 case neg=>
  obtain rfl:=eN hr fun e=>l2 (by rw[e.2.2.2]);have d2:decide (((a.blks.length:Nat):Int)=(b.blks.length:Nat))=false:=decide_eq_false (by omega);simp -dsimp only[aw,seval,decide_eq_true n1,decide_eq_true n2,Pd,d1,d2];exact av hb rfl rfl
 have d2:decide (((a.blks.length:Nat):Int)=(b.blks.length:Nat))=true:=decide_eq_true (by omega);simp -dsimp only[aw,seval,decide_eq_true n1,decide_eq_true n2,Pd,d1,d2];generalize hbx:[[V.d (ae a.name),V.d (ae a.par),V.d (.sl (a.flds.map dfl)),V.d (.sl (a.blks.map dbk))],[V.d (ae b.name),V.d (ae b.par),V.d (.sl (b.flds.map dfl)),V.d (.sl (b.blks.map dbk))]]=bx;have hbb:ai (σ++bx).length (σ++bx)=true:=by rw[<-hbx];exact aq hb rfl
 have hb2:2=bx.length:=by rw[<-hbx];rfl
 refine aI [2,3,5] (fun(j:Nat) ρ σ'=>ρ=[(2,.ptr σ.length 0),(3,.ptr (σ.length+1) 0),(5,aC .i64 j)]/\σ'=σ++bx/\a.flds.take j=b.flds.take j) a.flds.length ⟨rfl,rfl,rfl⟩ ?_ _;rintro j ρ' σ' hj ⟨rfl,rfl,hI⟩;have fin0:=fun hs (e:a.flds.take (j+1)=b.flds.take (j+1))=>Nxt.same (n0:=σ.length) (σ:=σ++bx) (R:=fun ρ s=>ρ=[(2,.ptr σ.length 0),(3,.ptr (σ.length+1) 0),(5,aC .i64 ((j+1:Nat):Int))]/\s=σ++bx/\a.flds.take (j+1)=b.flds.take (j+1)) (ρ:=[(2,.ptr σ.length 0),(3,.ptr (σ.length+1) 0),(5,aC .i64 ((j+1:Nat):Int))]) (by simp) hbb hs ⟨rfl,rfl,e⟩;have fin:=fin0 (by simp[an,V.under,<-hb2]);by_cases hlt:j<a.flds.length
 .subst hbx;have hlt':j<b.flds.length:=by omega
  have wj:=aJ hlt (show a.flds.length≤9223372036854775807 by omega);have e1:(a.flds.map dfl)[j]? = some (dfl a.flds[j]):=by rw[Pf,Pe hlt];rfl
  have e2:(b.flds.map dfl)[j]? = some (dfl b.flds[j]):=by rw[Pf,Pe hlt'];rfl
  have q1:=IV a.flds[j] b.flds[j];have q2:=Ij a.flds[j] b.flds[j];generalize (decide (a.flds[j].name=b.flds[j].name)&&(decide (a.flds[j].width=b.flds[j].width)&&(decide (a.flds[j].size=b.flds[j].size)&&(decide (a.flds[j].mode=b.flds[j].mode)&&decide (a.flds[j].init=b.flds[j].init)))))=u at q1 q2;simp -dsimp only[aw,seval,Pd,Pb,hlt,decide_true,e1,e2,D5 a.flds[j],D5 b.flds[j]];refine aU (by kernel_rfl) ?_;cases u with
  | true=>
   simp -dsimp only[aw,seval,q1,wj];first|exact fin (fw hlt hlt' hI (q2.1 rfl))|exact⟨hlt,fin (fw hlt hlt' hI (q2.1 rfl))⟩
  | false=>
   obtain rfl:=eN hr fun e=>ng hlt hlt' (fun h=>by cases q2.2 h) e.2.2.1;simp -dsimp only[aw,seval,q1];exact av hb rfl rfl
 have hfl:=jv (by omega) l1 hI;clear fin fin0;subst hbx;simp -dsimp only[aw,seval,Pd,Pb,hlt];clear hI hlt hj j;generalize hbx:[[V.d (ae a.name),V.d (ae a.par),V.d (.sl (a.flds.map dfl)),V.d (.sl (a.blks.map dbk))],[V.d (ae b.name),V.d (ae b.par),V.d (.sl (b.flds.map dfl)),V.d (.sl (b.blks.map dbk))]]=bx;rw[hbx]at hbb hb2;refine aI [2,3,6] (fun(j:Nat) ρ σ'=>ρ=[(2,.ptr σ.length 0),(3,.ptr (σ.length+1) 0),(6,aC .i64 j)]/\σ'=σ++bx/\a.blks.take j=b.blks.take j) a.blks.length ⟨rfl,rfl,rfl⟩ ?_ _;rintro j ρ' σ' hj ⟨rfl,rfl,hI⟩
 have fin:=fun hs (e:a.blks.take (j+1)=b.blks.take (j+1))=>Nxt.same (n0:=σ.length) (σ:=σ++bx) (R:=fun ρ s=>ρ=[(2,.ptr σ.length 0),(3,.ptr (σ.length+1) 0),(6,aC .i64 ((j+1:Nat):Int))]/\s=σ++bx/\a.blks.take (j+1)=b.blks.take (j+1)) (ρ:=[(2,.ptr σ.length 0),(3,.ptr (σ.length+1) 0),(6,aC .i64 ((j+1:Nat):Int))]) (by simp) hbb hs ⟨rfl,rfl,e⟩;have fin:=fin (by simp[an,V.under,<-hb2]);subst hbx;by_cases hlt:j<a.blks.length
 .have hlt':j<b.blks.length:=by omega
  have wj:=aJ hlt (show a.blks.length≤9223372036854775807 by omega);have e1:(a.blks.map dbk)[j]? = some (dbk a.blks[j]):=by rw[Pf,Pe hlt];rfl
  have e2:(b.blks.map dbk)[j]? = some (dbk b.blks[j]):=by rw[Pf,Pe hlt'];rfl
  have hm:=CG (Pg hlt);obtain⟨s,hs⟩:=ku (a.blks[j].2=b.blks[j].2);have f1:=fun σ=>tl a.blks[j].2 (by omega) b.blks[j].2 s hs σ;by_cases hq:a.blks[j].1=b.blks[j].1
  case neg=>
   obtain rfl:=eN hr fun e=>ng hlt hlt' (fun h=>hq (by rw[h])) e.2.2.2;simp -dsimp only[aw,seval,Pd,Pb,hlt,decide_true,e1,e2,rL a.blks[j],rL b.blks[j],decide_eq_false hq];exact av hb rfl rfl
  simp -dsimp only[aw,seval,Pd,Pb,hlt,decide_true,e1,e2,rL a.blks[j],rL b.blks[j],decide_eq_true hq];refine bp (f1 _) ?_;cases s with
  | true=>
   have he:a.blks[j]=b.blks[j]:=Prod.ext hq (hs.1 rfl);simp -dsimp only[aw,seval,wj];first|exact fin (fw hlt hlt' hI he)|exact⟨hlt,fin (fw hlt hlt' hI he)⟩
  | false=>
   obtain rfl:=eN hr fun e=>ng hlt hlt' (fun h=>by have:=hs.2 (by rw[h]);cases this) e.2.2.2;simp -dsimp only[aw,seval];exact av hb rfl rfl
 .obtain rfl:=hr.2 ⟨n1,n2,hfl,jv (by omega) l2 hI⟩;simp -dsimp only[aw,seval,Pd,Pb,hlt];exact av hb rfl rfl
theorem Iq{N:Int}:∀(n:Nat) (r:List Tok) (l a:List Kl) (r1:List Tok),r.length≤n->bY (hH N) l r=.ok a r1->r1=[]:=by
 intro n
 induction n with
 | zero=>
  intro r l a r1 hr hx;obtain rfl:r=[]:=List.eq_nil_of_length_eq_zero (by omega);rw[oF]at hx;cases hx;rfl
 | succ n ih=>
  intro r l a r1 hr hx;by_cases h:r=[]
  .subst h;rw[oF]at hx;cases hx;rfl
  .rw[rW h]at hx;have ht:=gb N r;cases hc:dR N r with
   | out=>rw[hc]at hx;cases hx
   | bad e n=>rw[hc]at hx;cases hx
   | ok c r2=>
    rw[hc]at hx ht;have:=ht.2;have h1:=oA c;exact ih r2 _ a r1 (by omega) hx
theorem xd{l:Bs}(hl:l.length≤16384)(h:(ja l).2.2=0):∃ts,dj l=.ok ts/\fB (zLs ts) ts=.ok (ja l).1 []:=by
 unfold ja dk at h ⊢;rw[if_neg (by omega)]at h ⊢;cases hx:dj l with
 | err n e=>rw[hx]at h;exact absurd h (kw hx)
 | ok ts=>
  rw[hx]at h;refine⟨ts,rfl,?_⟩;simp only at h ⊢;have ht:=ma (z:=zLs ts) ts;cases hy:fB (zLs ts) ts with
  | out=>rw[hy]at ht;exact ht.elim
  | bad e n=>rw[hy]at h ht;exact absurd h ht
  | ok v r=>
   have:=Iq ts.length ts [] v r (Pn _) hy;subst this;rfl
theorem Fn{l:Bs}{ts:List Tok}{v:List Kl}(hl:l.length≤16384)(h1:dj l=.ok ts)(h2:fB (zLs ts) ts=.ok v []):ja l=(v,0,0):=by
 unfold ja dk;rw[if_neg (by omega),h1];simp only[h2];rfl
theorem pU{l:Bs}(h:(dr l).2.2≠0):(dr l).1=[]:=by
 unfold dr at h ⊢;split at h
 .rename_i h1;split at h
  .rename_i h2;split at h
   .exact absurd rfl h
   .rename_i h3;rw[if_pos h1,if_pos h2,if_neg h3]
  .rename_i h2;rw[if_pos h1,if_neg h2]
 .rename_i h1;rw[if_neg h1]
theorem rP{l:Bs}(h:(dr l).2.2=0):(ja l).2.2=0/\jL (ja l).1=0/\(dr l).1=(ja l).1:=by
 unfold dr at h ⊢;split at h
 .rename_i h1;split at h
  .rename_i h2;split at h
   .rename_i h3;rw[if_pos h1,if_pos h2,if_pos h3];exact⟨h1,h2,rfl⟩
   .rename_i h3;exact absurd h h3
  .rename_i h2;exact absurd h h2
 .rename_i h1;exact absurd h h1
theorem Gl(d:Int)(r:List Tok):Sq r (r.map (Tok.down d)):=by
 unfold Sq;rw[Pm];rfl
theorem Ay{s t:Bs}(hs:s.length≤1500)(ht:t.length≤1500)(h1:(dr s).2.2=0)(h2:(dr t).2.2=0):
 dr (s++10::t)=(if qv ((dr s).1++(dr t).1)=0 then((dr s).1++(dr t).1,0,0)else([],0,qv ((dr s).1++(dr t).1)))/\jL ((dr s).1++(dr t).1)=0/\li ((dr s).1++(dr t).1)≤40000:=by
 obtain⟨a1,a2,a3⟩:=rP h1;obtain⟨b1,b2,b3⟩:=rP h2;obtain⟨ts,k1,k2⟩:=xd (by omega) a1;obtain⟨us,m1,m2⟩:=xd (by omega) b1;have hsa:=ow s;have hsb:=ow t;rw[a3,b3];have hj:dj (s++10::t)=.ok (ts++us.map (Tok.down (1+(s.count 10:Nat)))):=by rw[wS s t ts k1,m1];rfl
 have hv:=Bq a2 b2;have hu:=Fn (by simp;omega) hj (wX k2 m2 (Gl _ us));refine⟨?_,hv,?_⟩
 .unfold dr;rw[hu];simp only[if_true];rw[if_pos hv]
 .simp only[li,Pk,List.sum_append]at hsa hsb ⊢;omega
theorem FD(d:Kl):Bc d≤ksz d/\d.flds.length≤ksz d/\d.blks.length≤ksz d:=by
 have h1:=xq d.blks
 have h2:Bc d≤bsz d.blks:=by
  unfold Bc bsz;generalize d.blks=l
  induction l with
  | nil=>exact Pn _
  | cons a r ih=>simp only[List.map_cons,List.sum_cons];omega
 unfold ksz;omega
theorem tE(l:List Kl)(hz:li l≤40000)(σ:LLV):Fun G 17 [.d (.sl (l.map dkk)),.d (.sl (l.map dkk))] σ (aO (ak true) σ):=by
 refine al Tryz.func17 k17 rfl fun hb hw=>?_;unfold c17;have hl:=lL l;have d1:∀c:Kl,dkk c=[ae c.name,ae c.par,.sl (c.flds.map dfl),.sl (c.blks.map dbk)]:=fun _=>rfl;simp -dsimp only[aw,seval,Pd];refine aI [0,1,5] (fun(j:Nat) ρ σ'=>ρ=[(0,.d (.sl (l.map dkk))),(1,.d (.sl (l.map dkk))),(5,aC .i64 j)]/\σ'=σ) l.length ⟨rfl,rfl⟩ ?_ _;rintro j ρ' σ' hj ⟨rfl,rfl⟩;by_cases hlt:j<l.length
 .have wj:=aJ hlt (show l.length≤9223372036854775807 by omega);have e1:(l.map dkk)[j]? = some (dkk l[j]):=by rw[Pf,Pe hlt];rfl
  have hks:=oW (Pg hlt);generalize l[j]=x at e1 hks;obtain⟨k1,k2,k3⟩:=FD x;simp -dsimp only[aw,seval,Pb,hlt,e1,d1,Pd];refine bp (v:=ak true) (vp x x (by omega) (by omega) (by omega) true (by simp) _) ?_;simp -dsimp only[aw,seval,wj];exact⟨hlt,Nxt.same (Pn _) hb (by simp[an,V.under]) ⟨rfl,rfl⟩⟩
 .simp -dsimp only[aw,seval,Pb,hlt,Pd];exact av hb rfl rfl
theorem tB(l:Bs):(dr l).1.length≤16384:=by
 by_cases h:(dr l).2.2=0
 .rw[(rP h).2.2];exact Nat.le_trans (lL _) (ow l)
 .rw[pU h];simp
theorem Ga(s t:Bs):Fun G 6 [.d (ae (bs s)),.d (ae (bs t))] [] (aO (ak true) []):=by
 refine al Tryz.func6 k6 rfl fun hb hw=>?_;unfold c6;by_cases hs:1500<s.length
 .simp -dsimp only[aw,seval,bW,decide_eq_true (show(1500:Int)<((s.length:Nat):Int)by omega)];refine aj (ea _) ?_;simp -dsimp only[aw,seval];exact aF hb rfl rfl rfl ⟨rfl,rfl⟩
 have hs':=decide_eq_false (show ¬(1500:Int)<((s.length:Nat):Int)by omega);by_cases ht:1500<t.length
 .simp -dsimp only[aw,seval,bW,hs',decide_eq_true (show(1500:Int)<((t.length:Nat):Int)by omega)];refine aj (ea _) ?_;simp -dsimp only[aw,seval];exact aF hb rfl rfl rfl ⟨rfl,rfl⟩
 have ht':=decide_eq_false (show ¬(1500:Int)<((t.length:Nat):Int)by omega);have h1:=fun σ=>jM s σ;have h2:=fun σ=>jM t σ;have h3:=fun σ=>jM (s++10::t) σ;have hj:=Ay (s:=s) (t:=t) (by omega) (by omega);have la:=tB s;have lb:=tB t;have na:=pU (l:=s);have nb:=pU (l:=t);have a1:co .add (V.d (ae (bs s))) (V.d (ae ⟨#[10]⟩))=some (V.d (ae (bs (s++[10])))):=gR s [10] (by simp;omega)
 have a2:co .add (V.d (ae (bs (s++[10])))) (V.d (ae (bs t)))=some (V.d (ae (bs (s++10::t)))):=by
  rw[gR (s++[10]) t (by simp;omega),List.append_assoc];rfl
 generalize dr (s++10::t)=w at *;generalize s++[10]=s1 at *;generalize dr s=x at *;generalize dr t=y at *;obtain⟨a,n1,e1⟩:=x;obtain⟨b,n2,e2⟩:=y;simp only at hj la lb na nb;unfold dp jz at h1 h2 h3;simp only at h1 h2;have dz:decide (((0:Nat):Int)=0)=true:=by decide
 simp -dsimp only[aw,seval,bW,hs',ht'];refine aj (h1 _) ?_;simp -dsimp only[aw,seval];refine aj (h2 _) ?_;by_cases he1:e1=0
 case neg=>
  obtain rfl:=na he1;by_cases he2:e2=0
  .simp -dsimp only[aw,seval,decide_eq_false he1,decide_eq_true he2,Pj,Ph,dz];refine aj (ea _) ?_;simp -dsimp only[aw,seval];exact aF hb rfl rfl rfl ⟨rfl,rfl⟩
  .obtain rfl:=nb he2;simp -dsimp only[aw,seval,decide_eq_false he1,decide_eq_false he2,Pj,Ph,dz];refine aj (ea _) ?_;simp -dsimp only[aw,seval];exact aF hb rfl rfl rfl ⟨rfl,rfl⟩
 by_cases he2:e2=0
 case neg=>
  obtain rfl:=nb he2;simp -dsimp only[aw,seval,decide_eq_true he1,decide_eq_false he2,Pj,Ph,dz];refine aj (ea _) ?_;simp -dsimp only[aw,seval];exact aF hb rfl rfl rfl ⟨rfl,rfl⟩
 obtain⟨hw',hv,hz⟩:=hj he1 he2;subst hw';have hchk:=fun σ=>yj (a++b) (B5 hv (by omega)) (by have:=lL (a++b);omega) σ;have hcls:=fun σ=>tE (a++b) hz σ;rw[Pk]at hchk hcls;have al4:∀l:List Kl,(l.map dkk).all (fun r=>r.length==4)=true:=fun l=>by simp[dkk]
 simp -dsimp only[aw,seval,decide_eq_true he1,decide_eq_true he2];refine aU ⟨al4 a,by omega⟩ ?_;simp -dsimp only[aw,seval];refine aU ⟨al4 b,by first|omega|(simp only[Pd];omega)⟩ ?_;by_cases hc:qv (a++b)=0
 .simp only[if_pos hc,Pk]at h3;simp -dsimp only[aw,seval,a1,a2];refine aj (h3 _) ?_;simp -dsimp only[aw,seval];refine aj (hchk _) ?_;simp -dsimp only[aw,seval,decide_eq_true hc,decide_true];refine aj (hcls _) ?_;simp -dsimp only[aw,seval];refine aj (ea _) ?_;simp -dsimp only[aw,seval];exact aF hb rfl rfl rfl ⟨rfl,rfl⟩
 .simp only[if_neg hc,Pj]at h3;simp -dsimp only[aw,seval,a1,a2];refine aj (h3 _) ?_;simp -dsimp only[aw,seval];refine aj (hchk _) ?_;simp -dsimp only[aw,seval,decide_eq_false hc,Ph,dz,decide_true];refine aj (ea _) ?_;simp -dsimp only[aw,seval];exact aF hb rfl rfl rfl ⟨rfl,rfl⟩
theorem Bm{w:World}{a:Addr}{v:Value}(h:w.cell? a=some v):a.spot=none:=by
 unfold World.cell? at h;split at h
 .split at h
  .cases h
  .rename_i hs;simpa using hs
 .cases h
instance:Inhabited Ex:=⟨.mk 0 0 ⟨#[]⟩ []⟩
theorem nG{P:Program}{W:World}{n:String}{d:DataW Unit}:∀{l:List (String×DataW Unit)} {ps:List MemPlace},DataW.LaidVars P W l ps->(n,d)∈l->
 ∃g t cs fuel p,P.globalNamed n=some g/\(P.globals[g]?).map (·.type)=some t/\W.var? P n=some cs/\DataW.trod (fun _=>()) P W 0 (fun _=>true) false fuel t cs.toList=some (d,p)
 | [],_,_,h=>by cases h
 | (n',d')::r,ps,hv,h=>by
  obtain⟨g,t,cs,fuel,p,q,h1,h2,h3,h4,h5,-⟩:=hv;rcases List.mem_cons.1 h with h|h
  .cases h;exact⟨g,t,cs,fuel,p,h1,h2,h3,h4⟩
  .exact nG h5 h
theorem mj{W:World}{n:String}{g:Nat}{l:List ByteArray}{d:DataW Unit}(hg:Tryz.prog.globalNamed n=some g)(ht:(Tryz.prog.globals[g]?).map (·.type)=some 52)(hd:d=.slice (l.map fun s=>.lit (.string s.data.toList)) [])(hl:0<l.length)
 {cs:Array Value}{fuel:Nat}{p:List MemPlace}(hvar:W.var? Tryz.prog n=some cs)(hr:DataW.trod (fun _=>()) Tryz.prog W 0 (fun _=>true) false fuel 52 cs.toList=some (d,p)):∃v,W.cell? ⟨g,0,none⟩=some v/\ez W l v:=by
 subst hd;rcases DataW.trod_slice Tryz.underlying52 hr with⟨-,hx⟩|⟨ad,len,cap,elems,rest,n',hn',g3,hx,hb,hl',hm,hlen2,hel,-,-⟩
 .simp at hx
 .simp only[Prod.mk.injEq,DataW.slice.injEq]at hx;obtain⟨⟨hx1,-⟩,-⟩:=hx;have hlen:len=l.length:=by have h9:=congrArg List.length hx1;rw[Pd,Pd]at h9;rw[<-hlen2,h9]
  have hc0:=World.var?_cell hg hvar 0;have hv:cs.toList[0]? = some (.slice (some ad) len cap):=by rw[g3];rfl
  refine⟨.slice (some ad) len cap,by rw[hc0];simpa using hv,?_⟩
  have hcell:∀i (hi:i<len),∃s:ByteArray,W.cell? (ad.add i)=some (.string s)/\l[i]? = some s:=by
   intro i hi;have h1:=hel i hi;rw[show Tryz.prog.cellsOf 9=1 by kernel_rfl,Nat.mul_one,Pe (by omega)]at h1;obtain⟨cs',hc,ht⟩:=Option.bind_eq_some_iff.1 h1;obtain⟨-,hcl,hcc⟩:=World.cells?_some hc;obtain⟨s,rfl,hs,-⟩:=DataW.trod_string Tryz.underlying9 ht;have h2:=hcc 0 (by omega);refine⟨s,by simpa[Addr.add]using h2,?_⟩;have h3:=congrArg (·[i]?) hx1;simp only[Pf,Pe (show i<elems.length by omega),Option.map_some,hs]at h3;rw[Option.map_eq_some_iff]at h3;obtain⟨s',h4,h5⟩:=h3;rw[h4];simp only[DataW.lit.injEq,Lit.string.injEq]at h5;congr 1;cases s';cases s;simp at h5;simp[h5]
  have hsp:ad.spot=none:=by
   obtain⟨s,h1,-⟩:=hcell 0 (by rw[hlen];exact hl);have:=Bm h1;simpa[Addr.add]using this
  rw[hlen];refine⟨some ad,cap,rfl,by omega,hm,fun i s hi=>⟨ad.block,ad.off,by cases ad;simp_all,?_⟩⟩;obtain⟨s',h1,h2⟩:=hcell i (by rw[hlen];exact(List.getElem?_eq_some_iff.1 hi).1);rw[hi]at h2;cases h2
  have ha:ad.add i=⟨ad.block,ad.off+i,none⟩:=by
   cases ad;simp only at hsp;subst hsp;unfold Addr.add;by_cases h:i=0
   .subst h;simp
   .simp[h]
  rw[ha]at h1;exact h1
theorem wi{w:World}{l:List ByteArray}{v:Value}(h:ez w l v)(hs:∀s,s∈l->s.size≤maxLen):DRep (mem w) (dB l) v:=by
 obtain⟨p,cap,rfl,h4,h5,h6⟩:=h;have hlen:l.length=(l.map fun s=>[ae s]).length:=by simp
 unfold dB;rw[hlen];refine .sl _ 1 p cap (fun i _=>.string (l[i]?.getD ⟨#[]⟩)) (fun r hr=>?_) (fun i j hi hj=>?_) (fun i hi=>?_) (by omega) h5
 .obtain⟨s,-,rfl⟩:=List.mem_map.1 hr;rfl
 .have hi':i<l.length:=by simpa using hi
  have hj0:j=0:=by simpa using hj
  subst hj0;simp only[List.getElem_map,List.getElem_cons_zero,Pe hi',Option.getD_some];exact .lit _ (hs _ (Pg hi'))
 .have hi':i<l.length:=by simpa using hi
  obtain⟨b,off,h7,h8⟩:=h6 i _ (Pe hi');refine⟨b,off,h7,fun j hj=>?_⟩;have hj0:j=0:=by omega
  subst hj0;simp only[Pe hi',Option.getD_some];simpa[mem]using h8
def pg:List (String×DataW Unit):=[("math/bits.deBruijn32tab",Rows.laid_math_bits_deBruijn32tab),("math/bits.deBruijn64tab",Rows.laid_math_bits_deBruijn64tab),("internal/strconv.uint64pow10",Rows.laid_internal_strconv_uint64pow10),("strconv.ErrRange",Rows.laid_strconv_ErrRange),("strconv.ErrSyntax",Rows.laid_strconv_ErrSyntax),("testbench/lexer.keywords",Rows.laid_testbench_lexer_keywords),("testbench/lexer.marks",Rows.laid_testbench_lexer_marks)]
theorem Kn{w:World}(h:laidMet Tryz.prog pg w):G.glob (mem w) (fun b=>b<w.heap.size) w:=by
 obtain⟨ps,hv,-,hpl⟩:=h;have at':=fun n d=>@nG Tryz.prog w n d pg ps hv;refine⟨fun g cs hg=>?_,fun g p hg=>?_⟩
 .change (if g=0 then some [dB dU]else if g=1 then some [.sl (aV.map fun s=>[.lit (.string (bs s))])]else none)=some cs at hg
  have fin:∀(l:List ByteArray),(∃v,w.cell? ⟨g,0,none⟩=some v/\ez w l v)->(∀s,s∈l->s.size≤maxLen)->cs=[dB l]->∃val:Nat->Value,(∀j,j<cs.length->mem w g j=some (val j))/\∀j (h:j<cs.length),DRep (mem w) cs[j] (val j):=by
   rintro l ⟨v,h1,h2⟩ hs rfl;refine⟨fun _=>v,fun j hj=>?_,fun j hj=>?_⟩
   .have hj0:j=0:=by simpa using hj
    subst hj0;exact h1
   .have hj0:j=0:=by simpa using hj
    subst hj0;exact wi h2 hs
  split at hg
  .rename_i e;subst e;obtain⟨g',t,vs,fuel,p,h1,h2,h3,h4⟩:=at' "testbench/lexer.keywords" Rows.laid_testbench_lexer_keywords (by simp[pg]);obtain rfl:=Option.some.inj ((show Tryz.prog.globalNamed "testbench/lexer.keywords" = some 0 by kernel_rfl).symm.trans h1);obtain rfl:=Option.some.inj ((show(Tryz.prog.globals[0]?).map (·.type)=some 52 by kernel_rfl).symm.trans h2);exact fin dU (mj h1 h2 (show Rows.laid_testbench_lexer_keywords (H:=Unit)=.slice (dU.map fun s=>.lit (.string s.data.toList)) []by kernel_rfl) (by decide) h3 h4) (by decide +kernel) (by simpa using hg.symm)
  .split at hg
   .rename_i e;subst e;obtain⟨g',t,vs,fuel,p,h1,h2,h3,h4⟩:=at' "testbench/lexer.marks" Rows.laid_testbench_lexer_marks (by simp[pg]);obtain rfl:=Option.some.inj ((show Tryz.prog.globalNamed "testbench/lexer.marks" = some 1 by kernel_rfl).symm.trans h1);obtain rfl:=Option.some.inj ((show(Tryz.prog.globals[1]?).map (·.type)=some 52 by kernel_rfl).symm.trans h2);exact fin ll (mj h1 h2 (show Rows.laid_testbench_lexer_marks (H:=Unit)=.slice (ll.map fun s=>.lit (.string s.data.toList)) []by kernel_rfl) (by decide) h3 h4) (by decide +kernel) (by have:=Option.some.inj hg;rw[<-this];unfold dB ll;rw[Pm];rfl)
   .cases hg
 .have block:∀{n:String} {g:Nat} {cs:Array Value},Tryz.prog.globalNamed n=some g->w.var? Tryz.prog n=some cs->g<w.heap.size/\∃T z,w.heap[g]? = some (.cells cs T z):=by
   intro n g cs h1 h2;unfold World.var? at h2;rw[h1,Option.bind_some]at h2;split at h2
   .rename_i cs' T z hh;cases h2;exact⟨(Array.getElem?_eq_some_iff.1 hh).1,T,z,hh⟩
   .cases h2
  change (if g=3 then some (fun cs=>cs=(Lib.pow10Tab.map fun z=>Value.int .u64 z).toArray)else if g=5 then some (fun cs=>∃t x,cs[0]? = some (.iface t x))else none)=some p at hg;split at hg
  .rename_i e;subst e;cases hg;obtain⟨g',t,vs,fuel,p,h1,h2,h3,h4⟩:=at' "internal/strconv.uint64pow10" Rows.laid_internal_strconv_uint64pow10 (by simp[pg]);obtain rfl:=Option.some.inj ((show Tryz.prog.globalNamed "internal/strconv.uint64pow10" = some 3 by kernel_rfl).symm.trans h1);obtain rfl:=Option.some.inj ((show(Tryz.prog.globals[3]?).map (·.type)=some 271 by kernel_rfl).symm.trans h2);obtain⟨k1,T,z,k2⟩:=block h1 h3;refine⟨k1,vs,T,z,k2,?_⟩;have e:Rows.laid_internal_strconv_uint64pow10 (H:=Unit)=Lib.tabData .u64 Lib.pow10Tab:=by kernel_rfl
   rw[e]at h4;have:=Lib.cells_of_tab (n:=20) Tryz.underlying271 Tryz.underlying207 (by kernel_rfl) (by kernel_rfl) h4;rw[<-this]
  .split at hg
   .rename_i e;subst e;cases hg;obtain⟨g',t,vs,fuel,p,h1,h2,h3,h4⟩:=at' "strconv.ErrRange" Rows.laid_strconv_ErrRange (by simp[pg]);obtain rfl:=Option.some.inj ((show Tryz.prog.globalNamed "strconv.ErrRange" = some 5 by kernel_rfl).symm.trans h1);obtain rfl:=Option.some.inj ((show(Tryz.prog.globals[5]?).map (·.type)=some 140 by kernel_rfl).symm.trans h2);obtain⟨k1,T,z,k2⟩:=block h1 h3;refine⟨k1,vs,T,z,k2,?_⟩;cases fuel with
    | zero=>simp[DataW.trod]at h4
    | succ fuel=>
     obtain⟨ms,hms⟩:∃ms,Tryz.prog.underlying 140=some (.interface ms):=⟨_,Tryz.underlying140⟩
     unfold DataW.trod at h4;rw[hms]at h4
     have hl:∃a,vs.toList=[a]/\∃t x,a=.iface t x:=by
      split at h4<;>simp_all[Rows.laid_strconv_ErrRange]
     obtain⟨a,ha,t,x,rfl⟩:=hl;exact⟨t,x,by rw[<-Array.getElem?_toList,ha];rfl⟩
   .cases hg
theorem qt{f:FuncId}{args:List V}{vs:List Value}{u:Value}{w:World}(hk:laidMet Tryz.prog pg w)(h:Fun G f args [] (aO (.d (.lit u)) []))(hl:vs.length=args.length)
 (hr:∀i (h:i<args.length) (h':i<vs.length),Rep (mem w) [] args[i] vs[i]):Calls Tryz.prog f vs.toArray w fun e w'=>e=.returned u/\Ext w w':=by
 refine(h.2 _ _ _ _ _ _ (Kn hk) (yp w) (fun _=>rfl) hl hr).mono fun e w' ⟨M',bm',tk',σ',o,⟨h1,h2⟩,h3,h4,h5⟩=>?_;subst h1;obtain⟨v,h6,h7,-⟩:=h5.1 _ rfl;cases h7 with
 | d h7=>
 cases h7 with
 | lit _ _=>exact⟨h6,h4.os,h4.tape,h4.output,h4.size,fun b hb=>h4.keep b hb⟩
end Go.Proofs.YtnhphlmblenapaaGreatDoor
namespace Go.Proofs.YtnhphlmblenapaaGreatDoor
open Go.ChangeShapes Go.WideShapes Go.RowKit
theorem Tryz.own:ownKnob Tryz.prog.godebug=none:=by kernel_rfl
theorem Tryz.laidOut:laidOutB Tryz.prog=true:=by kernel_rfl
def gL(w:World)(g:Nat)(cs:Array Value):World:=
 {w with heap:=w.heap.modify g fun
   | .cells _ t frozen=>.cells cs t frozen
   | o=>o}
noncomputable def qS(os:Os):World:=
 let w0:=World.holding Tryz.prog os ⟨#[],#[],[]⟩;let n:=w0.heap.size;let w1:=(((w0.alloc (.cells (dU.map Value.string).toArray 9)).alloc (.cells (ll.map Value.string).toArray 9)).alloc (.cells #[.string ⟨#[118,97,108,117,101,32,111,117,116,32,111,102,32,114,97,110,103,101]⟩] 285)).alloc (.cells #[.string ⟨#[105,110,118,97,108,105,100,32,115,121,110,116,97,120]⟩] 285);let w2:=gL w1 0 #[.slice (some ⟨n,0,none⟩) 24 24];let w3:=gL w2 1 #[.slice (some ⟨n+1,0,none⟩) 36 36];let w4:=gL w3 5 #[.iface 283 (.pointer (some ⟨n+2,0,none⟩))];let w5:=gL w4 4 #[.iface 283 (.pointer (some ⟨n+3,0,none⟩))];let w6:=gL w5 3 (Lib.pow10Tab.map fun z=>Value.int .u64 z).toArray;let w7:=gL w6 6 (([0,1,28,2,29,14,24,3,30,22,20,15,25,17,4,8,31,27,13,23,21,19,16,7,26,12,18,6,11,5,10,9]:List Int).map fun z=>Value.int .u8 z).toArray
 gL w7 7 (([0,1,56,2,57,49,28,3,61,58,42,50,38,29,17,4,62,47,59,36,45,43,51,22,53,39,33,30,24,18,12,5,63,55,48,27,60,41,37,16,46,35,44,21,52,32,23,11,54,26,40,15,34,20,31,10,25,14,19,9,13,8,7,6]:List Int).map fun z=>Value.int .u8 z).toArray
theorem qq(os:Os)(args:Array Value):laidMet Tryz.prog pg ((qS os).forCall (fun _ _=>0) ⟨#[],args,[]⟩).memory:=
 laidMet_of_run' 8 (by kernel_rfl) (by kernel_rfl)
theorem Ext.below{w w':World}(h:Ext w w'):Below w.heap.size w w':=⟨h.os,h.tape,h.output,h.size,h.block⟩
theorem pd{H:Type}{enc:TypeId×Value->H}{w:World}{t:TypeId}{v:Value}{d:DataW H}{p:List MemPlace}{base:Nat}{spare:Nat->Bool}{held:Bool}(h:DataW.Trod enc Tryz.prog w base spare held t v d p):∀x∈p,x.block<w.heap.size:=by
 obtain⟨m,hm⟩:=h;exact DataW.trod_lt m _ _ _ hm
section
variable {H : Type} {enc : TypeId × Value -> H} {w : World} {v : Value} {d : DataW H} {p : List MemPlace} {base : Nat} {spare : Nat -> Bool} {held : Bool}
theorem uE(h:DataW.Trod enc Tryz.prog w base spare held 9 v d p)(hv:Value.okWide Tryz.prog w .any base 9 v):∃l:Bs,Rep (mem w) [] (V.d (ae (bs l))) v:=by
 obtain⟨n,rfl⟩:=okWide_string Tryz.underlying9 hv;obtain⟨fuel,hf⟩:=h;cases fuel with
 | zero=>simp[DataW.trod]at hf
 | succ m=>
  obtain⟨o,g0,-,w0⟩:=DataW.trod_string Tryz.underlying9 hf;cases g0;exact⟨n.data.toList,by rw[lJ];exact .d (.lit _ w0)⟩
instance:Inhabited Tok:=⟨⟨0,0,⟨#[]⟩,0⟩⟩
end
end Go.Proofs.YtnhphlmblenapaaGreatDoor
namespace Go.Proofs.YtnhphlmblenapaaGreatDoor
open Go.ChangeShapes Go.WideShapes Go.RowKit
theorem iO(os:Os)(started:os.Started)(H:Type)(enc:TypeId×Value->H):
 ReturnsInHanded {} Tryz.checked os 6 .any (fun w args=>(Rows.classparseJoinsSpec.pre enc Tryz.prog Tryz.f6 [] false w args/\laidMetH Tryz.prog pg w)/\sizedMet enc Tryz.prog Tryz.f6 (OpenSpec.ofChange Rows.classparseJoinsSpec) false w args)
  (Rows.classparseJoinsSpec.post enc Tryz.prog Tryz.f6 false true false false):=by
 refine returnsInHanded_of_change_and (C:=Tryz.checked) (X:=fun w _=>laidMetH Tryz.prog pg w) (fun _ _ _ hh h=>h.of_heap hh) Tryz.own started (by kernel_rfl) Tryz.func6
  (ChangeSpec.witness_shaped (enc:=enc) (C:=Tryz.checked) (os:=os) (X:=fun w _=>laidMetH Tryz.prog pg w) false (qS os) #[.string ⟨#[]⟩,.string ⟨#[]⟩] 8 rfl (World.shaped_of_RefB (by kernel_rfl) (by kernel_rfl)) (by kernel_rfl) (by kernel_rfl) (by kernel_rfl) (qq os _)) ?_
 intro W base args ds gs before hval0 hW _ _ hL _;have hval:∀(j:Nat) t v,Tryz.f6.params[j]? = some t->args[j]? = some v->Value.okWide Tryz.prog W .any base t v:=hval0;have hW':=hW;obtain⟨p,q,hA0,hV0,rfl,hfz,hnd⟩:=hW;have hA:DataW.TrodAll enc Tryz.prog W 0 (fun _=>true) true Tryz.f6.params.toList args.toList ds p:=hA0;have hV:DataW.TrodVars enc Tryz.prog W (fun _=>true) [] gs q:=hV0;rw[Tryz.params6]at hA hval;obtain⟨v0,v1,d0,d1,p0,p1,rfl,rfl,rfl,h0,h1⟩:=trodAll_two hA;obtain⟨rfl,rfl⟩:=trodVars_none hV;have lt0:=pd h0;obtain⟨l,hv0⟩:=uE h0 (hval 0 9 v0 rfl rfl);have lt1:=pd h1;obtain⟨m,hv1⟩:=uE h1 (hval 1 9 v1 rfl rfl);have e1:Rows.classparseJoinsSpec.fn H ([d0,d1]++[])={results:=[.lit (.bool true)],args:=[d0,d1]}:=by simp[Rows.classparseJoinsSpec]
 refine(qt (vs:=[v0,v1]) hL (Ga l m) rfl (fun i h h'=>?_)).mono fun en W' ⟨he,hx⟩=>?_
 .match i,h with
  | 0,_=>exact hv0
  | 1,_=>exact hv1
 subst he;have bel:=hx.below;refine⟨_,rfl,_,_,_,[],p0++p1,[],hW',?_,?_,?_,bel.frame _,fun h=>by cases h⟩
 .rw[e1];exact trodAll_mk1 (shut_bool Tryz.underlying4 true)
 .rw[e1];exact trodAll_mk2 (Below.trod Tryz.laidOut (by kernel_rfl) (of_decide_eq_true (by kernel_rfl)) h0 bel lt0) (Below.trod Tryz.laidOut (by kernel_rfl) (of_decide_eq_true (by kernel_rfl)) h1 bel lt1)
 .rw[e1];rfl
theorem lf:Tryz.pinned.checked.prog.inPlace 6=Rows.classparseJoinsRow.inPlace:=by kernel_rfl
theorem lC:Tryz.pinned.checked.prog.unfollowed 6=Rows.classparseJoinsRow.unfollowed:=by kernel_rfl
theorem lB:Tryz.pinned.checked.prog.recurses 6=Rows.classparseJoinsRow.recurses:=by kernel_rfl
theorem ly:Tryz.pinned.checked.prog.varsNamed 6=Rows.classparseJoinsRow.named:=by kernel_rfl
theorem iR:joinedFacts Tryz.pinned.checked.prog 6 Tryz.f6 Rows.classparseJoinsSpec Rows.classparseJoinsRow=true:=by
 unfold joinedFacts;rw[lf,lC,lB,ly];kernel_rfl
theorem fH:Rows.ClassparseJoinsSaid:=
 OpenClaim.holds_of_wide 6 Tryz.f6 rfl rfl rfl rfl rfl rfl rfl ⟨rfl,rfl,rfl,rfl,rfl⟩ rfl rfl rfl rfl rfl (by kernel_rfl) Tryz.func6 iR
  (of_decide_eq_true (by kernel_rfl)) (by unfold Func.isWrapper;first|(rw[if_pos (by decide +kernel)];kernel_rfl)|(rw[if_neg (by decide +kernel)];exact⟨rfl,rfl⟩))
  (fun os started H enc _=>iO os started H enc)
#print axioms fH
end Go.Proofs.YtnhphlmblenapaaGreatDoor
