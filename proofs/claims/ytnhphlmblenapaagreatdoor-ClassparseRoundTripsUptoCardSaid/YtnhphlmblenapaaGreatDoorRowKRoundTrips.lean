import Derived.Test.YtnhphlmblenapaaGreatDoorCz5
set_option linter.unusedVariables false
set_option linter.unusedSimpArgs false
set_option linter.unusedSectionVars false
set_option maxRecDepth 100000
set_option maxHeartbeats 8000000
open Bool renaming and_eq_true->TU
open Int renaming ofNat_lt->TV
open List renaming length_map->TW,getElem?_eq_getElem->TX,getElem?_map->TY,length_append->TZ,getElem_mem->T0,take_succ_eq_append_getElem->T3,take_of_length_le->T4,sum_cons->T5,map_cons->T6
open Nat renaming le_refl->T7,reduceAdd->T8
namespace Go.Proofs.YtnhphlmblenapaaGreatDoor
open Go.RowKit
open Nat renaming reduceLeDiff -> jA, reduceBEq -> jB, reduceLT -> jC, reduceEqDiff -> jD, reduceAdd -> jE, reduceSub -> jF, reduceMul -> jG
open V renaming copy -> jV, lend -> jW, lend1 -> jX, cells -> jY, boxable -> jZ
theorem gz{α:Type}{l m:List α}{j:Nat}(h:j<l.length)(h':j<m.length)(ht:l.take j=m.take j)(e:l[j]=m[j]):l.take (j+1)=m.take (j+1):=by
 rw[T3 h,T3 h',ht,e]
theorem mg{α:Type}{l m:List α}{j:Nat}(h:l.length≤j)(e:l.length=m.length)(ht:l.take j=m.take j):l=m:=by
 rwa[T4 h,T4 (by omega)]at ht
theorem ql{α:Type}{l m:List α}{j:Nat}(h:j<l.length)(h':j<m.length)(e:l[j]≠m[j]):l≠m:=fun q=>e (by subst q;rfl)
theorem uo:∀(l m:List Ex),(∀a,a∈l->∀b,pw a b=true↔a=b)->(lQ l m=true↔l=m)
 | [],[],_=>⟨fun _=>rfl,fun _=>rfl⟩
 | [],_::_,_=>⟨fun h=>(by cases h),fun h=>(by cases h)⟩
 | _::_,[],_=>⟨fun h=>(by cases h),fun h=>(by cases h)⟩
 | a::r,b::s,h=>by
  rw[lQ,TU,h a (by simp),uo r s fun x hx=>h x (by simp[hx]),List.cons.injEq]
theorem t7(a:Ex):∀b,pw a b=true↔a=b:=by
 induction a using Ex.ind2 with
 | h a ih=>
 intro b;rw[xU,TU,TU,TU,decide_eq_true_eq,decide_eq_true_eq,decide_eq_true_eq,uo _ _ ih];cases a;cases b
 exact⟨fun⟨h1,h2,h3,h4⟩=>by
  have h1:_=_:=h1;have h2:_=_:=h2;have h3:_=_:=h3;have h4:_=_:=h4;simp only[Ex.op,Ex.num,Ex.name,Ex.args]at h1 h2 h3 h4;subst h1 h2 h3 h4;rfl,fun h=>by cases h;exact⟨rfl,rfl,rfl,rfl⟩⟩
theorem fQ{p:Prop}{r:Bool}(hr:r=true↔p)(h:¬p):r=false:=by
 cases r with
 | false=>rfl
 | true=>exact absurd (hr.1 rfl) h
theorem mW(p:Prop):∃r:Bool,r=true↔p:=by
 by_cases h:p
 .exact⟨true,fun _=>h,fun _=>rfl⟩
 .exact⟨false,fun e=>(by cases e),fun e=>absurd e h⟩
theorem o5(l m:List ByteArray)(r:Bool)(hr:r=true↔l=m)(hl:l.length≤1200000)(σ:LLV):Fun G 80 [.d (.sl (l.map fun s=>[ab s])),.d (.sl (m.map fun s=>[ab s]))] σ (aP (ak r) σ):=by
 refine ai Tryz.func80 k80 rfl fun hb hw=>?_;unfold c80;by_cases hlen:l.length=m.length
 case neg=>
  obtain rfl:=fQ hr fun e=>hlen (by rw[e]);have d0:decide (((l.length:Nat):Int)=(m.length:Nat))=false:=decide_eq_false (by omega);simp -dsimp only[aw,jV,jW,jX,jY,jZ,jA,reduceIte,reduceCtorEq,jB,jC,jD,jE,jF,jG,TW,d0];first|exact av hb rfl rfl|exact au hb rfl rfl
 have d0:decide (((l.length:Nat):Int)=(m.length:Nat))=true:=decide_eq_true (by omega);simp -dsimp only[aw,jV,jW,jX,jY,jZ,jA,reduceIte,reduceCtorEq,jB,jC,jD,jE,jF,jG,TW,d0];refine aN [0,1,5] (fun(j:Nat) ρ σ'=>ρ=[(0,.d (.sl (l.map fun s=>[ab s]))),(1,.d (.sl (m.map fun s=>[ab s]))),(5,aB .i64 j)]/\σ'=σ/\l.take j=m.take j) l.length ⟨rfl,rfl,rfl⟩ ?_ _;rintro j ρ' σ' hj ⟨rfl,rfl,hI⟩;by_cases hlt:j<l.length
 .have hlt':j<m.length:=by omega
  have wj:=aH hlt (show l.length≤9223372036854775807 by omega);have e1:(l.map fun s=>[ab s])[j]? = some [ab l[j]]:=by rw[TY,TX hlt];rfl
  have e2:(m.map fun s=>[ab s])[j]? = some [ab m[j]]:=by rw[TY,TX hlt'];rfl
  by_cases hq:l[j]=m[j]
  .simp -dsimp only[aw,jV,jW,jX,jY,jZ,jA,reduceIte,reduceCtorEq,jB,jC,jD,jE,jF,jG,TW,TV,hlt,decide_true,e1,e2,decide_eq_true hq,wj];have fin:=fun(ρ:ah) (hs)=>Nxt.same (n0:=σ'.length) (R:=fun ρ s=>ρ=[(0,V.d (.sl (l.map fun s=>[ab s]))),(1,.d (.sl (m.map fun s=>[ab s]))),(5,aB .i64 ((j+1:Nat):Int))]/\s=σ'/\l.take (j+1)=m.take (j+1)) (ρ:=[(0,V.d (.sl (l.map fun s=>[ab s]))),(1,.d (.sl (m.map fun s=>[ab s]))),(5,aB .i64 ((j+1:Nat):Int))]) (T7 _) hb hs ⟨rfl,rfl,gz hlt hlt' hI hq⟩;have fin:=fin [] (by simp[aq,V.under]);first|exact fin|exact⟨hlt,fin⟩
  .obtain rfl:=fQ hr (ql hlt hlt' hq);simp -dsimp only[aw,jV,jW,jX,jY,jZ,jA,reduceIte,reduceCtorEq,jB,jC,jD,jE,jF,jG,TW,TV,hlt,decide_true,e1,e2,decide_eq_false hq];first|exact av hb rfl rfl|exact au hb rfl rfl
 .obtain rfl:=hr.2 (mg (by omega) hlen hI);simp -dsimp only[aw,jV,jW,jX,jY,jZ,jA,reduceIte,reduceCtorEq,jB,jC,jD,jE,jF,jG,TW,TV,hlt,decide_false];first|exact av hb rfl rfl|exact au hb rfl rfl
theorem LK(w v:Wt):mi true [.i .i64,.i .i64,.i .i64,.b] (V.agg [.d (ac w.lo),.d (ac w.hi),.d (ac w.w),.d (dbl w.each)]) (V.agg [.d (ac v.lo),.d (ac v.hi),.d (ac v.w),.d (dbl v.each)])=some (ak (!(decide (w.lo=v.lo)&&(decide (w.hi=v.hi)&&(decide (w.w=v.w)&&(w.each==v.each)))))):=by
 simp[mi,dl,nI]
theorem Mz(w v:Wt):(decide (w.lo=v.lo)&&(decide (w.hi=v.hi)&&(decide (w.w=v.w)&&(w.each==v.each))))=true↔w=v:=by
 obtain⟨a,b,c,d⟩:=w;obtain⟨a',b',c',d'⟩:=v;simp[Wt.mk.injEq]
theorem Mk(w v:Fl):mi true [.s,.i .i64,.i .i64,.i .i64,.i .i64] (V.agg [.d (ab w.name),.d (ac w.width),.d (ac w.size),.d (ac w.mode),.d (ac w.init)]) (V.agg [.d (ab v.name),.d (ac v.width),.d (ac v.size),.d (ac v.mode),.d (ac v.init)])=some (ak (!(decide (w.name=v.name)&&(decide (w.width=v.width)&&(decide (w.size=v.size)&&(decide (w.mode=v.mode)&&decide (w.init=v.init))))))):=by
 simp[mi,dl,nI]
theorem M9(w v:Fl):(decide (w.name=v.name)&&(decide (w.width=v.width)&&(decide (w.size=v.size)&&(decide (w.mode=v.mode)&&decide (w.init=v.init)))))=true↔w=v:=by
 obtain⟨a,b,c,d,e⟩:=w;obtain⟨a',b',c',d',e'⟩:=v;simp[Fl.mk.injEq]
def MP(l:List It):Prop:=aF l≤1100000->∀(m:List It) (r:Bool),(r=true↔l=m)->∀σ:LLV,Fun G 11 [.d (fF l),.d (fF m)] σ (aP (ak r) σ)
theorem LZ(x y:It):x=y↔x.kind=y.kind/\x.ex=y.ex/\x.name=y.name/\x.idx=y.idx/\x.ws=y.ws/\x.items=y.items/\x.els=y.els/\x.bef=y.bef/\x.aft=y.aft:=by
 cases x;cases y;constructor
 .intro h;cases h;exact⟨rfl,rfl,rfl,rfl,rfl,rfl,rfl,rfl,rfl⟩
 .rintro⟨h1,h2,h3,h4,h5,h6,h7,h8,h9⟩;simp only[It.kind,It.ex,It.name,It.idx,It.ws,It.items,It.els,It.bef,It.aft]at h1 h2 h3 h4 h5 h6 h7 h8 h9;subst h1 h2 h3 h4 h5 h6 h7 h8 h9;rfl
theorem AB(x y:It)(h1:MP x.items)(h2:MP x.els)(hbig:fg x≤1100000)(r:Bool)(hr:r=true↔x=y)(σ:LLV):Fun G 31 [vit x,vit y] σ (aP (ak r) σ):=by
 have hbx:=dI x;rw[LZ]at hr;obtain⟨r1,hr1⟩:=mW (x.items=y.items);obtain⟨r2,hr2⟩:=mW (x.els=y.els);obtain⟨r3,hr3⟩:=mW (x.bef=y.bef);obtain⟨r4,hr4⟩:=mW (x.aft=y.aft);have f0:=fun σ=>Cz x.ex y.ex σ;have f1:=fun σ=>h1 (by omega) y.items r1 hr1 σ;have f2:=fun σ=>h2 (by omega) y.els r2 hr2 σ;have f3:=fun σ=>o5 x.bef y.bef r3 hr3 (by omega) σ;have f4:=fun σ=>o5 x.aft y.aft r4 hr4 (by omega) σ;simp only[an]at f0;refine ai Tryz.func31 k31 (by simp only[bg];rfl) fun hb hw=>?_;unfold c31;by_cases hk:x.kind=y.kind
 case neg=>
  obtain rfl:=fQ hr fun e=>hk e.1;simp -dsimp only[aw,jV,jW,jX,jY,jZ,jA,reduceIte,reduceCtorEq,jB,jC,jD,jE,jF,jG,bg,decide_eq_false hk];first|exact av hb rfl rfl|exact au hb rfl rfl
 simp -dsimp only[aw,jV,jW,jX,jY,jZ,jA,reduceIte,reduceCtorEq,jB,jC,jD,jE,jF,jG,bg,decide_eq_true hk];refine ae (f0 _) ?_;cases he:pw x.ex y.ex with
 | false=>
  obtain rfl:=fQ hr fun e=>by rw[(t7 _ _).2 e.2.1]at he;cases he
  simp -dsimp only[aw,jV,jW,jX,jY,jZ,jA,reduceIte,reduceCtorEq,jB,jC,jD,jE,jF,jG];first|exact av hb rfl rfl|exact au hb rfl rfl
 | true=>
 have he:=(t7 _ _).1 he;by_cases hn:x.name=y.name
 case neg=>
  obtain rfl:=fQ hr fun e=>hn e.2.2.1;simp -dsimp only[aw,jV,jW,jX,jY,jZ,jA,reduceIte,reduceCtorEq,jB,jC,jD,jE,jF,jG,decide_eq_false hn];first|exact av hb rfl rfl|exact au hb rfl rfl
 by_cases hi:x.idx=y.idx
 case neg=>
  obtain rfl:=fQ hr fun e=>hi e.2.2.2.1;simp -dsimp only[aw,jV,jW,jX,jY,jZ,jA,reduceIte,reduceCtorEq,jB,jC,jD,jE,jF,jG,decide_eq_true hn,decide_eq_false hi];first|exact av hb rfl rfl|exact au hb rfl rfl
 by_cases hlen:x.ws.length=y.ws.length
 case neg=>
  obtain rfl:=fQ hr fun e=>hlen (by rw[e.2.2.2.2.1]);have d0:decide (((x.ws.length:Nat):Int)=(y.ws.length:Nat))=false:=decide_eq_false (by omega);simp -dsimp only[aw,jV,jW,jX,jY,jZ,jA,reduceIte,reduceCtorEq,jB,jC,jD,jE,jF,jG,decide_eq_true hn,decide_eq_true hi,TW,d0];first|exact av hb rfl rfl|exact au hb rfl rfl
 have d0:decide (((x.ws.length:Nat):Int)=(y.ws.length:Nat))=true:=decide_eq_true (by omega);simp -dsimp only[aw,jV,jW,jX,jY,jZ,jA,reduceIte,reduceCtorEq,jB,jC,jD,jE,jF,jG,decide_eq_true hn,decide_eq_true hi,TW,d0];generalize hbx2:[[V.d (ac x.kind),V.d (ac x.ex.op),V.d (ac x.ex.num),V.d (ab x.ex.name),V.d (.sl (x.ex.args.map dex)),V.d (ab x.name),V.d (ab x.idx),V.d (.sl (x.ws.map dwt)),V.d (.sl (x.items.map dit)),V.d (.sl (x.els.map dit)),V.d (.sl (x.bef.map fun s=>[ab s])),V.d (.sl (x.aft.map fun s=>[ab s]))],[V.d (ac y.kind),V.d (ac y.ex.op),V.d (ac y.ex.num),V.d (ab y.ex.name),V.d (.sl (y.ex.args.map dex)),V.d (ab y.name),V.d (ab y.idx),V.d (.sl (y.ws.map dwt)),V.d (.sl (y.items.map dit)),V.d (.sl (y.els.map dit)),V.d (.sl (y.bef.map fun s=>[ab s])),V.d (.sl (y.aft.map fun s=>[ab s]))]]=bx
 have hbb:aj (σ++bx).length (σ++bx)=true:=by rw[<-hbx2];exact ax hb rfl
 refine aN [2,3,5] (fun(j:Nat) ρ σ'=>ρ=[(2,.ptr σ.length 0),(3,.ptr (σ.length+1) 0),(5,aB .i64 j)]/\σ'=σ++bx/\x.ws.take j=y.ws.take j) x.ws.length ⟨rfl,rfl,rfl⟩ ?_ _;rintro j ρ' σ' hj ⟨rfl,rfl,hI⟩;have hb2:2=bx.length:=by rw[<-hbx2];rfl
 have fin:=fun hs (e:x.ws.take (j+1)=y.ws.take (j+1))=>Nxt.same (n0:=σ.length) (σ:=σ++bx) (R:=fun ρ s=>ρ=[(2,.ptr σ.length 0),(3,.ptr (σ.length+1) 0),(5,aB .i64 ((j+1:Nat):Int))]/\s=σ++bx/\x.ws.take (j+1)=y.ws.take (j+1)) (ρ:=[(2,.ptr σ.length 0),(3,.ptr (σ.length+1) 0),(5,aB .i64 ((j+1:Nat):Int))]) (by simp) hbb hs ⟨rfl,rfl,e⟩;have fin:=fin (by simp[aq,V.under,<-hb2]);subst hbx2;by_cases hlt:j<x.ws.length
 .have hlt':j<y.ws.length:=by omega
  have wj:=aH hlt (show x.ws.length≤9223372036854775807 by omega);have e1:(x.ws.map dwt)[j]? = some [ac x.ws[j].lo,ac x.ws[j].hi,ac x.ws[j].w,dbl x.ws[j].each]:=by rw[TY,TX hlt];rfl
  have e2:(y.ws.map dwt)[j]? = some [ac y.ws[j].lo,ac y.ws[j].hi,ac y.ws[j].w,dbl y.ws[j].each]:=by rw[TY,TX hlt'];rfl
  have q1:=LK x.ws[j] y.ws[j];have q2:=Mz x.ws[j] y.ws[j];generalize (decide (x.ws[j].lo=y.ws[j].lo)&&(decide (x.ws[j].hi=y.ws[j].hi)&&(decide (x.ws[j].w=y.ws[j].w)&&(x.ws[j].each==y.ws[j].each))))=b at q1 q2;simp -dsimp only[aw,jV,jW,jX,jY,jZ,jA,reduceIte,reduceCtorEq,jB,jC,jD,jE,jF,jG,TW,TV,hlt,decide_true,e1,e2];refine bI (by kernel_rfl) ?_;cases b with
  | true=>
   simp -dsimp only[aw,jV,jW,jX,jY,jZ,jA,reduceIte,reduceCtorEq,jB,jC,jD,jE,jF,jG,q1,wj];first|exact fin (gz hlt hlt' hI (q2.1 rfl))|exact⟨hlt,fin (gz hlt hlt' hI (q2.1 rfl))⟩
  | false=>
   obtain rfl:=fQ hr fun e=>ql hlt hlt' (fun h=>by cases q2.2 h) e.2.2.2.2.1;simp -dsimp only[aw,jV,jW,jX,jY,jZ,jA,reduceIte,reduceCtorEq,jB,jC,jD,jE,jF,jG,q1];first|exact av hb rfl rfl|exact au hb rfl rfl
 .have hws:=mg (by omega) hlen hI;simp -dsimp only[aw,jV,jW,jX,jY,jZ,jA,reduceIte,reduceCtorEq,jB,jC,jD,jE,jF,jG,TW,TV,hlt,decide_false];refine ae (f1 _) ?_;cases r1 with
  | false=>
   obtain rfl:=fQ hr fun e=>by cases hr1.2 e.2.2.2.2.2.1
   simp -dsimp only[aw,jV,jW,jX,jY,jZ,jA,reduceIte,reduceCtorEq,jB,jC,jD,jE,jF,jG];first|exact av hb rfl rfl|exact au hb rfl rfl
  | true=>
  simp -dsimp only[aw,jV,jW,jX,jY,jZ,jA,reduceIte,reduceCtorEq,jB,jC,jD,jE,jF,jG];refine ae (f2 _) ?_;cases r2 with
  | false=>
   obtain rfl:=fQ hr fun e=>by cases hr2.2 e.2.2.2.2.2.2.1
   simp -dsimp only[aw,jV,jW,jX,jY,jZ,jA,reduceIte,reduceCtorEq,jB,jC,jD,jE,jF,jG];first|exact av hb rfl rfl|exact au hb rfl rfl
  | true=>
  simp -dsimp only[aw,jV,jW,jX,jY,jZ,jA,reduceIte,reduceCtorEq,jB,jC,jD,jE,jF,jG];refine ae (f3 _) ?_;cases r3 with
  | false=>
   obtain rfl:=fQ hr fun e=>by cases hr3.2 e.2.2.2.2.2.2.2.1
   simp -dsimp only[aw,jV,jW,jX,jY,jZ,jA,reduceIte,reduceCtorEq,jB,jC,jD,jE,jF,jG];first|exact av hb rfl rfl|exact au hb rfl rfl
  | true=>
  simp -dsimp only[aw,jV,jW,jX,jY,jZ,jA,reduceIte,reduceCtorEq,jB,jC,jD,jE,jF,jG];refine ae (f4 _) ?_;cases r4 with
  | false=>
   obtain rfl:=fQ hr fun e=>by cases hr4.2 e.2.2.2.2.2.2.2.2
   simp -dsimp only[aw,jV,jW,jX,jY,jZ,jA,reduceIte,reduceCtorEq,jB,jC,jD,jE,jF,jG];first|exact av hb rfl rfl|exact au hb rfl rfl
  | true=>
  obtain rfl:=hr.2 ⟨hk,he,hn,hi,hws,hr1.1 rfl,hr2.1 rfl,hr3.1 rfl,hr4.1 rfl⟩;simp -dsimp only[aw,jV,jW,jX,jY,jZ,jA,reduceIte,reduceCtorEq,jB,jC,jD,jE,jF,jG];first|exact av hb rfl rfl|exact au hb rfl rfl
theorem qW:∀l:List It,MP l:=by
 refine l9 fun l ih hbig m r hr σ=>?_;have hll:=ns l;refine ai Tryz.func11 k11 rfl fun hb hw=>?_;unfold c11;by_cases hlen:l.length=m.length
 case neg=>
  obtain rfl:=fQ hr fun e=>hlen (by rw[e]);have d0:decide (((l.length:Nat):Int)=(m.length:Nat))=false:=decide_eq_false (by omega);simp -dsimp only[aw,jV,jW,jX,jY,jZ,jA,reduceIte,reduceCtorEq,jB,jC,jD,jE,jF,jG,fF,TW,d0];first|exact av hb rfl rfl|exact au hb rfl rfl
 have d0:decide (((l.length:Nat):Int)=(m.length:Nat))=true:=decide_eq_true (by omega);simp -dsimp only[aw,jV,jW,jX,jY,jZ,jA,reduceIte,reduceCtorEq,jB,jC,jD,jE,jF,jG,fF,TW,d0];refine aN [0,1,5] (fun(j:Nat) ρ σ'=>ρ=[(0,.d (.sl (l.map dit))),(1,.d (.sl (m.map dit))),(5,aB .i64 j)]/\σ'=σ/\l.take j=m.take j) l.length ⟨rfl,rfl,rfl⟩ ?_ _;rintro j ρ' σ' hj ⟨rfl,rfl,hI⟩;have fin:=fun hs (e:l.take (j+1)=m.take (j+1))=>Nxt.same (n0:=σ'.length) (σ:=σ') (R:=fun ρ s=>ρ=[(0,V.d (.sl (l.map dit))),(1,.d (.sl (m.map dit))),(5,aB .i64 ((j+1:Nat):Int))]/\s=σ'/\l.take (j+1)=m.take (j+1)) (ρ:=[(0,V.d (.sl (l.map dit))),(1,.d (.sl (m.map dit))),(5,aB .i64 ((j+1:Nat):Int))]) (T7 _) hb hs ⟨rfl,rfl,e⟩;have fin:=fin (by simp[aq,V.under]);by_cases hlt:j<l.length
 .have hlt':j<m.length:=by omega
  have wj:=aH hlt (show l.length≤9223372036854775807 by omega);have e1:(l.map dit)[j]? = some (dit l[j]):=by rw[TY,TX hlt];rfl
  have e2:(m.map dit)[j]? = some (dit m[j]):=by rw[TY,TX hlt'];rfl
  obtain⟨i1,i2⟩:=ih _ (T0 hlt);have hm:=ib (T0 hlt);obtain⟨s,hs⟩:=mW (l[j]=m[j]);have f1:=fun σ=>AB l[j] m[j] i1 i2 (by omega) s hs σ;simp only[bg]at f1;simp -dsimp only[aw,jV,jW,jX,jY,jZ,jA,reduceIte,reduceCtorEq,jB,jC,jD,jE,jF,jG,TW,TV,hlt,decide_true,e1,e2,ea];refine aA (f1 _) ?_;cases s with
  | true=>
   simp -dsimp only[aw,jV,jW,jX,jY,jZ,jA,reduceIte,reduceCtorEq,jB,jC,jD,jE,jF,jG,wj];first|exact fin (gz hlt hlt' hI (hs.1 rfl))|exact⟨hlt,fin (gz hlt hlt' hI (hs.1 rfl))⟩
  | false=>
   obtain rfl:=fQ hr (ql hlt hlt' fun h=>by cases hs.2 h);simp -dsimp only[aw,jV,jW,jX,jY,jZ,jA,reduceIte,reduceCtorEq,jB,jC,jD,jE,jF,jG];first|exact av hb rfl rfl|exact au hb rfl rfl
 .obtain rfl:=hr.2 (mg (by omega) hlen hI);simp -dsimp only[aw,jV,jW,jX,jY,jZ,jA,reduceIte,reduceCtorEq,jB,jC,jD,jE,jF,jG,TW,TV,hlt,decide_false];first|exact av hb rfl rfl|exact au hb rfl rfl
theorem Nh(a b:Kl):a=b↔a.name=b.name/\a.par=b.par/\a.flds=b.flds/\a.blks=b.blks:=by
 cases a;cases b
 exact⟨fun h=>by cases h;exact⟨rfl,rfl,rfl,rfl⟩,fun⟨h1,h2,h3,h4⟩=>by
  simp only at h1 h2 h3 h4;subst h1 h2 h3 h4;rfl⟩
theorem nX(a b:Kl)(hk:mR a≤1100000)(hf:a.flds.length≤1200000)(hbk:a.blks.length≤1200000)(r:Bool)(hr:r=true↔a=b)(σ:LLV):Fun G 14 [vkl a,vkl b] σ (aP (ak r) σ):=by
 rw[Nh]at hr;refine ai Tryz.func14 k14 rfl fun hb hw=>?_;unfold c14;by_cases n1:a.name=b.name
 case neg=>
  obtain rfl:=fQ hr fun e=>n1 e.1;simp -dsimp only[aw,jV,jW,jX,jY,jZ,jA,reduceIte,reduceCtorEq,jB,jC,jD,jE,jF,jG,decide_eq_false n1];first|exact av hb rfl rfl|exact au hb rfl rfl
 by_cases n2:a.par=b.par
 case neg=>
  obtain rfl:=fQ hr fun e=>n2 e.2.1;simp -dsimp only[aw,jV,jW,jX,jY,jZ,jA,reduceIte,reduceCtorEq,jB,jC,jD,jE,jF,jG,decide_eq_true n1,decide_eq_false n2];first|exact av hb rfl rfl|exact au hb rfl rfl
 by_cases l1:a.flds.length=b.flds.length
 case neg=>
  obtain rfl:=fQ hr fun e=>l1 (by rw[e.2.2.1]);have d1:decide (((a.flds.length:Nat):Int)=(b.flds.length:Nat))=false:=decide_eq_false (by omega);simp -dsimp only[aw,jV,jW,jX,jY,jZ,jA,reduceIte,reduceCtorEq,jB,jC,jD,jE,jF,jG,decide_eq_true n1,decide_eq_true n2,TW,d1];first|exact av hb rfl rfl|exact au hb rfl rfl
 have d1:decide (((a.flds.length:Nat):Int)=(b.flds.length:Nat))=true:=decide_eq_true (by omega);by_cases l2:a.blks.length=b.blks.length
 case neg=>
  obtain rfl:=fQ hr fun e=>l2 (by rw[e.2.2.2]);have d2:decide (((a.blks.length:Nat):Int)=(b.blks.length:Nat))=false:=decide_eq_false (by omega);simp -dsimp only[aw,jV,jW,jX,jY,jZ,jA,reduceIte,reduceCtorEq,jB,jC,jD,jE,jF,jG,decide_eq_true n1,decide_eq_true n2,TW,d1,d2];first|exact av hb rfl rfl|exact au hb rfl rfl
 have d2:decide (((a.blks.length:Nat):Int)=(b.blks.length:Nat))=true:=decide_eq_true (by omega);simp -dsimp only[aw,jV,jW,jX,jY,jZ,jA,reduceIte,reduceCtorEq,jB,jC,jD,jE,jF,jG,decide_eq_true n1,decide_eq_true n2,TW,d1,d2];generalize hbx:[[V.d (ab a.name),V.d (ab a.par),V.d (.sl (a.flds.map dfl)),V.d (.sl (a.blks.map dbk))],[V.d (ab b.name),V.d (ab b.par),V.d (.sl (b.flds.map dfl)),V.d (.sl (b.blks.map dbk))]]=bx;have hbb:aj (σ++bx).length (σ++bx)=true:=by rw[<-hbx];exact ax hb rfl
 have hb2:2=bx.length:=by rw[<-hbx];rfl
 refine aN [2,3,5] (fun(j:Nat) ρ σ'=>ρ=[(2,.ptr σ.length 0),(3,.ptr (σ.length+1) 0),(5,aB .i64 j)]/\σ'=σ++bx/\a.flds.take j=b.flds.take j) a.flds.length ⟨rfl,rfl,rfl⟩ ?_ _;rintro j ρ' σ' hj ⟨rfl,rfl,hI⟩;have fin0:=fun hs (e:a.flds.take (j+1)=b.flds.take (j+1))=>Nxt.same (n0:=σ.length) (σ:=σ++bx) (R:=fun ρ s=>ρ=[(2,.ptr σ.length 0),(3,.ptr (σ.length+1) 0),(5,aB .i64 ((j+1:Nat):Int))]/\s=σ++bx/\a.flds.take (j+1)=b.flds.take (j+1)) (ρ:=[(2,.ptr σ.length 0),(3,.ptr (σ.length+1) 0),(5,aB .i64 ((j+1:Nat):Int))]) (by simp) hbb hs ⟨rfl,rfl,e⟩;have fin:=fin0 (by simp[aq,V.under,<-hb2]);by_cases hlt:j<a.flds.length
 .subst hbx;have hlt':j<b.flds.length:=by omega
  have wj:=aH hlt (show a.flds.length≤9223372036854775807 by omega);have e1:(a.flds.map dfl)[j]? = some (dfl a.flds[j]):=by rw[TY,TX hlt];rfl
  have e2:(b.flds.map dfl)[j]? = some (dfl b.flds[j]):=by rw[TY,TX hlt'];rfl
  have q1:=Mk a.flds[j] b.flds[j];have q2:=M9 a.flds[j] b.flds[j];generalize (decide (a.flds[j].name=b.flds[j].name)&&(decide (a.flds[j].width=b.flds[j].width)&&(decide (a.flds[j].size=b.flds[j].size)&&(decide (a.flds[j].mode=b.flds[j].mode)&&decide (a.flds[j].init=b.flds[j].init)))))=u at q1 q2;simp -dsimp only[aw,jV,jW,jX,jY,jZ,jA,reduceIte,reduceCtorEq,jB,jC,jD,jE,jF,jG,TW,TV,hlt,decide_true,e1,e2,wo a.flds[j],wo b.flds[j]];refine bI (by kernel_rfl) ?_;cases u with
  | true=>
   simp -dsimp only[aw,jV,jW,jX,jY,jZ,jA,reduceIte,reduceCtorEq,jB,jC,jD,jE,jF,jG,q1,wj];first|exact fin (gz hlt hlt' hI (q2.1 rfl))|exact⟨hlt,fin (gz hlt hlt' hI (q2.1 rfl))⟩
  | false=>
   obtain rfl:=fQ hr fun e=>ql hlt hlt' (fun h=>by cases q2.2 h) e.2.2.1;simp -dsimp only[aw,jV,jW,jX,jY,jZ,jA,reduceIte,reduceCtorEq,jB,jC,jD,jE,jF,jG,q1];first|exact av hb rfl rfl|exact au hb rfl rfl
 have hfl:=mg (by omega) l1 hI;clear fin fin0;subst hbx;simp -dsimp only[aw,jV,jW,jX,jY,jZ,jA,reduceIte,reduceCtorEq,jB,jC,jD,jE,jF,jG,TW,TV,hlt,decide_false];clear hI hlt hj j;generalize hbx:[[V.d (ab a.name),V.d (ab a.par),V.d (.sl (a.flds.map dfl)),V.d (.sl (a.blks.map dbk))],[V.d (ab b.name),V.d (ab b.par),V.d (.sl (b.flds.map dfl)),V.d (.sl (b.blks.map dbk))]]=bx;rw[hbx]at hbb hb2;refine aN [2,3,6] (fun(j:Nat) ρ σ'=>ρ=[(2,.ptr σ.length 0),(3,.ptr (σ.length+1) 0),(6,aB .i64 j)]/\σ'=σ++bx/\a.blks.take j=b.blks.take j) a.blks.length ⟨rfl,rfl,rfl⟩ ?_ _;rintro j ρ' σ' hj ⟨rfl,rfl,hI⟩
 have fin:=fun hs (e:a.blks.take (j+1)=b.blks.take (j+1))=>Nxt.same (n0:=σ.length) (σ:=σ++bx) (R:=fun ρ s=>ρ=[(2,.ptr σ.length 0),(3,.ptr (σ.length+1) 0),(6,aB .i64 ((j+1:Nat):Int))]/\s=σ++bx/\a.blks.take (j+1)=b.blks.take (j+1)) (ρ:=[(2,.ptr σ.length 0),(3,.ptr (σ.length+1) 0),(6,aB .i64 ((j+1:Nat):Int))]) (by simp) hbb hs ⟨rfl,rfl,e⟩;have fin:=fin (by simp[aq,V.under,<-hb2]);subst hbx;by_cases hlt:j<a.blks.length
 .have hlt':j<b.blks.length:=by omega
  have wj:=aH hlt (show a.blks.length≤9223372036854775807 by omega);have e1:(a.blks.map dbk)[j]? = some (dbk a.blks[j]):=by rw[TY,TX hlt];rfl
  have e2:(b.blks.map dbk)[j]? = some (dbk b.blks[j]):=by rw[TY,TX hlt'];rfl
  have hm:=km (T0 hlt);obtain⟨s,hs⟩:=mW (a.blks[j].2=b.blks[j].2);have f1:=fun σ=>qW a.blks[j].2 (by omega) b.blks[j].2 s hs σ;by_cases hq:a.blks[j].1=b.blks[j].1
  case neg=>
   obtain rfl:=fQ hr fun e=>ql hlt hlt' (fun h=>hq (by rw[h])) e.2.2.2;simp -dsimp only[aw,jV,jW,jX,jY,jZ,jA,reduceIte,reduceCtorEq,jB,jC,jD,jE,jF,jG,TW,TV,hlt,decide_true,e1,e2,oq a.blks[j],oq b.blks[j],decide_eq_false hq];first|exact av hb rfl rfl|exact au hb rfl rfl
  simp -dsimp only[aw,jV,jW,jX,jY,jZ,jA,reduceIte,reduceCtorEq,jB,jC,jD,jE,jF,jG,TW,TV,hlt,decide_true,e1,e2,oq a.blks[j],oq b.blks[j],decide_eq_true hq];refine aA (f1 _) ?_;cases s with
  | true=>
   have he:a.blks[j]=b.blks[j]:=Prod.ext hq (hs.1 rfl);simp -dsimp only[aw,jV,jW,jX,jY,jZ,jA,reduceIte,reduceCtorEq,jB,jC,jD,jE,jF,jG,wj];first|exact fin (gz hlt hlt' hI he)|exact⟨hlt,fin (gz hlt hlt' hI he)⟩
  | false=>
   obtain rfl:=fQ hr fun e=>ql hlt hlt' (fun h=>by have:=hs.2 (by rw[h]);cases this) e.2.2.2;simp -dsimp only[aw,jV,jW,jX,jY,jZ,jA,reduceIte,reduceCtorEq,jB,jC,jD,jE,jF,jG];first|exact av hb rfl rfl|exact au hb rfl rfl
 .obtain rfl:=hr.2 ⟨n1,n2,hfl,mg (by omega) l2 hI⟩;simp -dsimp only[aw,jV,jW,jX,jY,jZ,jA,reduceIte,reduceCtorEq,jB,jC,jD,jE,jF,jG,TW,TV,hlt,decide_false];first|exact av hb rfl rfl|exact au hb rfl rfl
theorem IO(l:List Bk):vt l=0↔∀b,b∈l->cN b.2=0:=by
 induction l with
 | nil=>exact⟨fun _ b hb=>(by cases hb),fun _=>rfl⟩
 | cons a r ih=>
  rw[vt];by_cases h:cN a.2=0
  .rw[if_pos h,ih];exact⟨fun g b hb=>(List.mem_cons.1 hb).elim (fun e=>by rw[e];exact h) (g b),fun g b hb=>g b (List.mem_cons_of_mem _ hb)⟩
  .rw[if_neg h];exact⟨fun g=>absurd g h,fun g=>absurd (g a (by simp)) h⟩
theorem xi(c:Kl):tI c=0↔KlV c:=by
 unfold tI;by_cases h:pY c=0
 .rw[if_pos h,IO];exact⟨fun g=>⟨h,g⟩,fun g=>g.its⟩
 .rw[if_neg h];exact⟨fun g=>absurd g h,fun g=>absurd g.cls h⟩
theorem vU(l:Bs):(∃n e,jO l=(kZ,n,e)/\e≠0)\/∃d,jO l=(d,0,0)/\KlV d/\ksz d≤16384:=by
 have hsz:=vC (z:=kZ) (fun ts=>vJ (zLs ts) ts) (by decide) l;unfold jO;simp only;split
 .split
  .rename_i h;exact .inr ⟨_,rfl,(xi _).1 h,hsz⟩
  .rename_i h;exact .inl ⟨_,_,rfl,h⟩
 .rename_i h;exact .inl ⟨_,_,rfl,h⟩
theorem qR{c:Kl}(h:KlV c)(hl:(fY c).length≤16384):jO (fY c)=(c,0,0):=by
 have e:ft kZ (fun ts=>pz (zLs ts) ts) (fY c)=(c,0,0):=by rw[xz h,if_neg (by omega)]
 unfold jO;rw[e];exact if_pos ((xi _).2 h)
theorem B5{j k:Nat}(h:j≤k):∀l:List Ln,(aZ j l).length≤(aZ k l).length
 | []=>T7 _
 | x::r=>by
  have:=B5 h r;rw[aM,aM,TZ,TZ,eJ,eJ];omega
theorem Mw{c:Kl}{b:Bk}(h:b∈c.blks):(aZ 2 (lns b.2)).length≤(fY c).length:=by
 have key:∀l:List Bk,b∈l->(aZ 2 (lns b.2)).length≤(aZ 1 (l.flatMap gw)).length:=by
  intro l
  induction l with
  | nil=>intro h;cases h
  | cons a r ih=>
   intro h;rw[List.flatMap_cons,bj,TZ];rcases List.mem_cons.1 h with rfl|h
   .rw[gw,aM,bj,ed,TZ,TZ];simp only[T8];omega
   .have:=ih h;omega
 have:=key c.blks h;unfold fY Ez;rw[aM,bj,ed,bj,TZ,TZ,TZ];simp only[T8];omega
theorem yt{l:List It}(hv:cN l=0){k:Nat}(hk:k≤2)(hl:(aZ 2 (lns l)).length≤16384):m5 (fX l k)=(l,0,0):=by
 have h2:=B5 hk (lns l);have e:ft [] (fun ts=>iS (zLs ts) ts) (aZ k (lns l))=(l,0,0):=by rw[zT l hv k,if_neg (by omega)]
 have e2:fX l k=aZ k (lns l):=by unfold fX;rw[if_pos (show cN l=0/\(0:Int)≤k/\(k:Int)≤32 from⟨hv,by omega,by omega⟩),Int.toNat_natCast]
 rw[e2];unfold m5;rw[e];exact if_pos hv
theorem KC(d:Kl):mR d+d.flds.length+d.blks.length≤ksz d:=by
 have key:∀l:List Bk,(l.map fun b=>aF b.2).sum+l.length≤bsz l:=by
  intro l
  induction l with
  | nil=>exact T7 _
  | cons a r ih=>unfold bsz at *;rw[T6,T5,T6,T5,List.length_cons];omega
 have:mR d+d.blks.length≤bsz d.blks:=key d.blks;unfold ksz;omega
theorem rN(c:Kl):0<(fY c).length:=by
 unfold fY Ez;rw[aM,TZ,eJ];omega
theorem Ja(c:Kl)(l:Bs)(hk:mR c≤1100000)(hf:c.flds.length≤1200000)(hbk:c.blks.length≤1200000):Fun G 7 [vkl c,.d (ab (bs l))] [] (aP (ak true) []):=by
 have f1:=fun σ=>xX c hk hf hbk σ;generalize (decide (c.flds.length≤16)&&(decide (c.blks.length≤16)&&decide (ndS (c.blks.take 17)≤20)))=b at f1;have f2:=fun σ=>ug c hk hf hbk σ;have f3:=fun σ=>qG c hk hf hbk σ;refine ai Tryz.func7 k7 rfl fun hb hw=>?_;unfold c7;have hbx:aj ([]++[bxK c]).length ([]++[bxK c])=true:=ax hb rfl;by_cases hc:b=true/\l.length≤1500
 case neg=>
  cases b with
  | false=>
   simp -dsimp only[aw,jV,jW,jX,jY,jZ,jA,reduceIte,reduceCtorEq,jB,jC,jD,jE,jF,jG];refine ae (f1 _) ?_;simp -dsimp only[aw,jV,jW,jX,jY,jZ,jA,reduceIte,reduceCtorEq,jB,jC,jD,jE,jF,jG];refine ae (iq _) ?_;simp -dsimp only[aw,jV,jW,jX,jY,jZ,jA,reduceIte,reduceCtorEq,jB,jC,jD,jE,jF,jG];exact aO hb rfl rfl rfl ⟨rfl,rfl⟩
  | true=>
   have hl:(1500:Int)<((l.length:Nat):Int):=by have:¬l.length≤1500:=fun h=>hc ⟨rfl,h⟩;omega
   simp -dsimp only[aw,jV,jW,jX,jY,jZ,jA,reduceIte,reduceCtorEq,jB,jC,jD,jE,jF,jG];refine ae (f1 _) ?_;simp -dsimp only[aw,jV,jW,jX,jY,jZ,jA,reduceIte,reduceCtorEq,jB,jC,jD,jE,jF,jG,bF,decide_eq_true hl];refine ae (iq _) ?_;simp -dsimp only[aw,jV,jW,jX,jY,jZ,jA,reduceIte,reduceCtorEq,jB,jC,jD,jE,jF,jG];exact aO hb rfl rfl rfl ⟨rfl,rfl⟩
 obtain⟨rfl,hl⟩:=hc;have hl':¬(1500:Int)<((l.length:Nat):Int):=by omega
 refine mK 4 (fun ρ σ'=>(ρ=[(1,.d (ab (bs l))),(2,.ptr 0 0),(5,.d (ab (bs (lw c)))),(42,ak false)]/\σ'=[bxK c])\/∃n:Int,ρ=[(1,.d (ab (bs l))),(2,.ptr 0 0),(9,aB .i64 n),(65,ak false)]/\σ'=[bxK c,bxK c]) ?_ ?_
 .simp only[kM];by_cases hp:ke c=true/\(fY c).length≤16384
  case neg=>
   cases hp2:ke c with
   | false=>
    rw[hp2]at f3;simp -dsimp only[aw,jV,jW,jX,jY,jZ,jA,reduceIte,reduceCtorEq,jB,jC,jD,jE,jF,jG];refine ae (f1 _) ?_;simp -dsimp only[aw,jV,jW,jX,jY,jZ,jA,reduceIte,reduceCtorEq,jB,jC,jD,jE,jF,jG,bF,decide_eq_false hl'];refine ae (f2 _) ?_;simp -dsimp only[aw,jV,jW,jX,jY,jZ,jA,reduceIte,reduceCtorEq,jB,jC,jD,jE,jF,jG];refine ae (f3 _) ?_;simp -dsimp only[aw,jV,jW,jX,jY,jZ,jA,reduceIte,reduceCtorEq,jB,jC,jD,jE,jF,jG];exact Mid.mk (.inl ⟨rfl,rfl⟩)
   | true=>
    rw[hp2]at f3;have hT:lw c=fY c:=by unfold lw;rw[if_pos hp2]
    have h0:=rN c;have d1:decide ((0:Int)<(((fY c).length:Nat):Int))=true:=decide_eq_true (by omega);have d2:decide ((((fY c).length:Nat):Int)≤16384)=false:=decide_eq_false fun h=>hp ⟨hp2,by omega⟩;rw[hT]at f2 ⊢;simp -dsimp only[aw,jV,jW,jX,jY,jZ,jA,reduceIte,reduceCtorEq,jB,jC,jD,jE,jF,jG];refine ae (f1 _) ?_;simp -dsimp only[aw,jV,jW,jX,jY,jZ,jA,reduceIte,reduceCtorEq,jB,jC,jD,jE,jF,jG,bF,decide_eq_false hl'];refine ae (f2 _) ?_;simp -dsimp only[aw,jV,jW,jX,jY,jZ,jA,reduceIte,reduceCtorEq,jB,jC,jD,jE,jF,jG];refine ae (f3 _) ?_;simp -dsimp only[aw,jV,jW,jX,jY,jZ,jA,reduceIte,reduceCtorEq,jB,jC,jD,jE,jF,jG,bF,d1,d2];exact Mid.mk (.inl ⟨rfl,rfl⟩)
  obtain⟨hp,hT16⟩:=hp;have hV:=(nV c).1 hp;have hT:lw c=fY c:=by unfold lw;rw[if_pos hp]
  have h0:=rN c;have d1:decide ((0:Int)<(((fY c).length:Nat):Int))=true:=decide_eq_true (by omega);have d2:decide ((((fY c).length:Nat):Int)≤16384)=true:=decide_eq_true (by omega);have f4:=fun σ=>lD (fY c) σ;rw[qR hV hT16]at f4;have f5:=fun σ=>nX c c hk hf hbk true ⟨fun _=>rfl,fun _=>rfl⟩ σ;unfold fN at f4;rw[hp]at f3;rw[hT]at f2 ⊢;simp -dsimp only[aw,jV,jW,jX,jY,jZ,jA,reduceIte,reduceCtorEq,jB,jC,jD,jE,jF,jG];refine ae (f1 _) ?_;simp -dsimp only[aw,jV,jW,jX,jY,jZ,jA,reduceIte,reduceCtorEq,jB,jC,jD,jE,jF,jG,bF,decide_eq_false hl'];refine ae (f2 _) ?_;simp -dsimp only[aw,jV,jW,jX,jY,jZ,jA,reduceIte,reduceCtorEq,jB,jC,jD,jE,jF,jG];refine ae (f3 _) ?_;simp -dsimp only[aw,jV,jW,jX,jY,jZ,jA,reduceIte,reduceCtorEq,jB,jC,jD,jE,jF,jG,bF,d1,d2];refine ae (f4 _) ?_
  simp -dsimp only[aw,jV,jW,jX,jY,jZ,jA,reduceIte,reduceCtorEq,jB,jC,jD,jE,jF,jG,decide_true];refine ae (f5 _) ?_;simp -dsimp only[aw,jV,jW,jX,jY,jZ,jA,reduceIte,reduceCtorEq,jB,jC,jD,jE,jF,jG];refine aN [1,2,9] (fun(j:Nat) ρ σ'=>ρ=[(1,.d (ab (bs l))),(2,.ptr 0 0),(9,aB .i64 j)]/\σ'=[bxK c,bxK c]) c.blks.length ⟨rfl,rfl⟩ ?_ _;rintro j ρ' σ' hj ⟨rfl,rfl⟩;by_cases hlt:j<c.blks.length
  .have wj:=aH hlt (show c.blks.length≤9223372036854775807 by omega);have e1:(c.blks.map dbk)[j]? = some (dbk c.blks[j]):=by rw[TY,TX hlt];rfl
   have hmem:=T0 hlt;have hm:=km hmem;have hvi:=hV.its _ hmem;have hbl:=Mw hmem;have hd:dbk c.blks[j]=[ab c.blks[j].1,fF c.blks[j].2]:=rfl;generalize c.blks[j]=b at *;obtain⟨k,hk3,hkj⟩:∃k:Nat,((j:Nat):Int).tmod 3=(k:Int)/\k≤2:=⟨j%3,rfl,by omega⟩
   have g1:=fun σ=>yA b.2 k (by omega) σ;have g2:=fun σ=>nO (fX b.2 k) σ;rw[yt hvi hkj (by omega)]at g2;have g3:=fun σ=>qW b.2 (by omega) b.2 true ⟨fun _=>rfl,fun _=>rfl⟩ σ;unfold fN my at g2;simp only[fF]at g1 g3 hd;have n3:((3:Int)=0)=False:=by simp
   simp -dsimp only[aw,jV,jW,jX,jY,jZ,jA,reduceIte,reduceCtorEq,jB,jC,jD,jE,jF,jG,TW,TV,hlt,decide_true,e1,hd,hk3,n3,if_false];refine ae (g1 _) ?_;simp -dsimp only[aw,jV,jW,jX,jY,jZ,jA,reduceIte,reduceCtorEq,jB,jC,jD,jE,jF,jG];refine ae (g2 _) ?_;simp -dsimp only[aw,jV,jW,jX,jY,jZ,jA,reduceIte,reduceCtorEq,jB,jC,jD,jE,jF,jG,decide_true,e1,hd];refine ae (g3 _) ?_;simp -dsimp only[aw,jV,jW,jX,jY,jZ,jA,reduceIte,reduceCtorEq,jB,jC,jD,jE,jF,jG,wj];exact⟨hlt,Nxt.same (by simp) rfl (by simp[aq,V.under]) ⟨rfl,rfl⟩⟩
  .simp -dsimp only[aw,jV,jW,jX,jY,jZ,jA,reduceIte,reduceCtorEq,jB,jC,jD,jE,jF,jG,TW,TV,hlt,decide_false];exact Mid.mk (.inr ⟨_,rfl,rfl⟩)
 rintro ρ1 σ1 h;simp only[kM];have fz:=fun σ=>nX kZ kZ (by decide) (by decide) (by decide) true ⟨fun _=>rfl,fun _=>rfl⟩ σ;have p1:=fun σ=>lD l σ;unfold fN at p1;rcases vU l with⟨n,e,hr,he⟩|⟨d,hr,hd,hsz⟩
 .rw[hr]at p1;rcases h with⟨rfl,rfl⟩|⟨_,rfl,rfl⟩
  all_goals
   simp -dsimp only[aw,jV,jW,jX,jY,jZ,jA,reduceIte,reduceCtorEq,jB,jC,jD,jE,jF,jG];refine ae (p1 _) ?_;simp -dsimp only[aw,jV,jW,jX,jY,jZ,jA,reduceIte,reduceCtorEq,jB,jC,jD,jE,jF,jG,decide_eq_false he];refine ae (fz _) ?_;simp -dsimp only[aw,jV,jW,jX,jY,jZ,jA,reduceIte,reduceCtorEq,jB,jC,jD,jE,jF,jG];refine ae (iq _) ?_;simp -dsimp only[aw,jV,jW,jX,jY,jZ,jA,reduceIte,reduceCtorEq,jB,jC,jD,jE,jF,jG];exact aO hb rfl rfl rfl ⟨rfl,rfl⟩
 .rw[hr]at p1;have hbd:=KC d;have hp:=(nV d).2 hd;have hT:lw d=fY d:=by unfold lw;rw[if_pos hp]
  have h0:=rN d;have p2:=fun σ=>ug d (by omega) (by omega) (by omega) σ;have p3:=fun σ=>qG d (by omega) (by omega) (by omega) σ;have p4:=fun σ=>lD (fY d) σ;have p5:=fun σ=>nX d d (by omega) (by omega) (by omega) true ⟨fun _=>rfl,fun _=>rfl⟩ σ;unfold fN at p4;rw[hT]at p2;rw[hp]at p3;by_cases hT16:(fY d).length≤16384
  .have d1:decide ((((fY d).length:Nat):Int)=0)=false:=decide_eq_false (by omega);have d2:decide ((16384:Int)<(((fY d).length:Nat):Int))=false:=decide_eq_false (by omega);rw[qR hd hT16]at p4;rcases h with⟨rfl,rfl⟩|⟨_,rfl,rfl⟩
   all_goals
    simp -dsimp only[aw,jV,jW,jX,jY,jZ,jA,reduceIte,reduceCtorEq,jB,jC,jD,jE,jF,jG];refine ae (p1 _) ?_;simp -dsimp only[aw,jV,jW,jX,jY,jZ,jA,reduceIte,reduceCtorEq,jB,jC,jD,jE,jF,jG,decide_true];refine ae (p2 _) ?_;simp -dsimp only[aw,jV,jW,jX,jY,jZ,jA,reduceIte,reduceCtorEq,jB,jC,jD,jE,jF,jG,decide_true];refine ae (p3 _) ?_;simp -dsimp only[aw,jV,jW,jX,jY,jZ,jA,reduceIte,reduceCtorEq,jB,jC,jD,jE,jF,jG,bF,d1,d2];refine ae (p4 _) ?_;simp -dsimp only[aw,jV,jW,jX,jY,jZ,jA,reduceIte,reduceCtorEq,jB,jC,jD,jE,jF,jG,decide_true];refine ae (p5 _) ?_;simp -dsimp only[aw,jV,jW,jX,jY,jZ,jA,reduceIte,reduceCtorEq,jB,jC,jD,jE,jF,jG];refine ae (iq _) ?_;simp -dsimp only[aw,jV,jW,jX,jY,jZ,jA,reduceIte,reduceCtorEq,jB,jC,jD,jE,jF,jG];exact aO hb rfl rfl rfl ⟨rfl,rfl⟩
  .have d1:decide ((((fY d).length:Nat):Int)=0)=false:=decide_eq_false (by omega);have d2:decide ((16384:Int)<(((fY d).length:Nat):Int))=true:=decide_eq_true (by omega);rcases h with⟨rfl,rfl⟩|⟨_,rfl,rfl⟩
   all_goals
    simp -dsimp only[aw,jV,jW,jX,jY,jZ,jA,reduceIte,reduceCtorEq,jB,jC,jD,jE,jF,jG];refine ae (p1 _) ?_;simp -dsimp only[aw,jV,jW,jX,jY,jZ,jA,reduceIte,reduceCtorEq,jB,jC,jD,jE,jF,jG,decide_true];refine ae (p2 _) ?_;simp -dsimp only[aw,jV,jW,jX,jY,jZ,jA,reduceIte,reduceCtorEq,jB,jC,jD,jE,jF,jG,decide_true];refine ae (p3 _) ?_;simp -dsimp only[aw,jV,jW,jX,jY,jZ,jA,reduceIte,reduceCtorEq,jB,jC,jD,jE,jF,jG,bF,d1,d2];refine ae (iq _) ?_;simp -dsimp only[aw,jV,jW,jX,jY,jZ,jA,reduceIte,reduceCtorEq,jB,jC,jD,jE,jF,jG];exact aO hb rfl rfl rfl ⟨rfl,rfl⟩
end Go.Proofs.YtnhphlmblenapaaGreatDoor
namespace Go.Proofs.YtnhphlmblenapaaGreatDoor
open Go.ChangeShapes Go.WideShapes Go.ChangeAt Go.RowKit
theorem iE(H:Type)(enc:TypeId×Value->H)(W:World)(base:Nat)(args:Array Value)(ds gs:List (DataW H))(before:List MemPlace)
 (hval:∀(j:Nat) t v,Tryz.f7.params[j]? = some t->args[j]? = some v->Value.okWide Tryz.prog W .any base t v)
 (hW:DataW.Whole enc Tryz.prog Tryz.f7.params.toList Rows.classparseRoundTripsSpec.vars false W args.toList ds gs before)(hL:laidMetH Tryz.prog vp W)(hk:Rows.uptoSmall H (ds++gs)=true):
 Calls Tryz.prog 7 args W fun e W'=>∃v,e=.returned v/\Rows.classparseRoundTripsSpec.post enc Tryz.prog Tryz.f7 false true false false W args v W':=by
 have hW':=hW;obtain⟨p,q,hA0,hV0,rfl,hfz,hnd⟩:=hW;have hA:DataW.TrodAll enc Tryz.prog W 0 (fun _=>true) true Tryz.f7.params.toList args.toList ds p:=hA0;have hV:DataW.TrodVars enc Tryz.prog W (fun _=>true) [] gs q:=hV0;rw[Tryz.params7]at hA hval;obtain⟨v0,v1,d0,d1,p0,p1,rfl,rfl,rfl,h0,h1⟩:=trodAll_two hA;obtain⟨rfl,rfl⟩:=trodVars_none hV;have lt0:=sp h0;obtain⟨c0,hv0,hb0⟩:=Kf h0 (hval 0 32 v0 rfl rfl);have lt1:=sp h1;obtain⟨l1,hv1⟩:=FO h1 (hval 1 9 v1 rfl rfl)
 have hbd:Rows.uptoBulk d0+(Rows.uptoBulk d1+0)≤1048576:=by
  have:=of_decide_eq_true hk;simpa only[List.cons_append,List.nil_append,Rows.uptoBulkAll]using this
 have e1:Rows.classparseRoundTripsSpec.fn H ([d0,d1]++[])={results:=[.lit (.bool true)],args:=[d0,d1]}:=by simp[Rows.classparseRoundTripsSpec]
 refine(tQ (vs:=[v0,v1]) hL (Ja c0 l1 (by omega) (by omega) (by omega)) rfl (fun i h h'=>?_)).mono fun en W' ⟨he,hx⟩=>?_
 .match i,h with
  | 0,_=>exact hv0
  | 1,_=>exact hv1
 subst he;have bel:=hx.below;refine⟨_,rfl,_,_,_,[],p0++p1,[],hW',?_,?_,?_,bel.frame _,fun h=>by cases h⟩
 .rw[e1];exact trodAll_mk1 (shut_bool Tryz.underlying4 true)
 .rw[e1];exact trodAll_mk2 (Below.trod Tryz.laidOut (by kernel_rfl) (of_decide_eq_true (by kernel_rfl)) h0 bel lt0) (Below.trod Tryz.laidOut (by kernel_rfl) (of_decide_eq_true (by kernel_rfl)) h1 bel lt1)
 .rw[e1];rfl
theorem iW(os:Os)(started:os.Started)(H:Type)(enc:TypeId×Value->H)(F:Stop.Interp):
 ReturnsInHanded {} Tryz.checked os 7 .any ((Rows.OpenSpec.upto Rows.classparseRoundTripsSpec).preRow enc Tryz.prog Tryz.f7 Rows.classparseRoundTripsUptoRow.domain false Rows.classparseRoundTripsUptoRow.laid) (((Rows.OpenSpec.upto Rows.classparseRoundTripsSpec).at F).post enc Tryz.prog Tryz.f7 false true false false):=by
 have hx:DataW.whole enc Tryz.prog ((pL os).forCall (fun _ _=>0) ⟨#[],#[.agg #[.string ⟨#[]⟩,.string ⟨#[]⟩,.slice none 0 0,.slice none 0 0],.string ⟨#[]⟩],[]⟩).memory Tryz.f7.params.toList Rows.classparseRoundTripsSpec.vars false #[Value.agg #[.string ⟨#[]⟩,.string ⟨#[]⟩,.slice none 0 0,.slice none 0 0],Value.string ⟨#[]⟩].toList 8=some ([.agg [.lit (.string []),.lit (.string []),.nil,.nil],.lit (.string [])],[],[]):=by kernel_rfl
 refine returnsInHanded_of_row (C:=Tryz.checked) (s:=Rows.OpenSpec.upto Rows.classparseRoundTripsSpec) Tryz.own started (by kernel_rfl) Tryz.func7
  (witness_row_atRef (enc:=enc) (C:=Tryz.checked) false (pL os) #[.agg #[.string ⟨#[]⟩,.string ⟨#[]⟩,.slice none 0 0,.slice none 0 0],.string ⟨#[]⟩] rfl (by kernel_rfl) (by kernel_rfl) (by kernel_rfl)
    (OpenSpec.preRow_of_cond 8 hx (by kernel_rfl) (fun k hk=>by cases hk;kernel_rfl) (by kernel_rfl) (tN os _))) ?_
 intro W base args ds gs before hval hW _ hcond _ hL _ _;exact iE H enc W base args ds gs before hval hW hL (hcond _ rfl)
theorem ky:Tryz.pinned.checked.prog.inPlace 7=Rows.classparseRoundTripsUptoRow.inPlace:=by kernel_rfl
theorem kE:Tryz.pinned.checked.prog.unfollowed 7=Rows.classparseRoundTripsUptoRow.unfollowed:=by kernel_rfl
theorem kJ:Tryz.pinned.checked.prog.recurses 7=Rows.classparseRoundTripsUptoRow.recurses:=by kernel_rfl
theorem kD:Tryz.pinned.checked.prog.varsNamed 7=Rows.classparseRoundTripsUptoRow.named:=by kernel_rfl
theorem iU:joinedFacts Tryz.pinned.checked.prog 7 Tryz.f7 (Rows.OpenSpec.upto Rows.classparseRoundTripsSpec).bare Rows.classparseRoundTripsUptoRow=true:=by
 unfold joinedFacts;rw[ky,kE,kJ,kD];kernel_rfl
theorem fD:Rows.ClassparseRoundTripsUptoSaid:=
 OpenClaim.holds_of_cond 7 Tryz.f7 rfl rfl rfl rfl rfl rfl rfl ⟨rfl,rfl,rfl,rfl,rfl⟩ rfl rfl rfl rfl rfl (by kernel_rfl) Tryz.func7 iU
  (of_decide_eq_true (by kernel_rfl)) (by unfold Func.isWrapper;first|(rw[if_pos (by decide +kernel)];kernel_rfl)|(rw[if_neg (by decide +kernel)];exact⟨rfl,rfl⟩))
  (fun os started H enc _ F=>by rw[OpenClaim.pre_eq_preRow];exact iW os started H enc F)
#print axioms fD
end Go.Proofs.YtnhphlmblenapaaGreatDoor
