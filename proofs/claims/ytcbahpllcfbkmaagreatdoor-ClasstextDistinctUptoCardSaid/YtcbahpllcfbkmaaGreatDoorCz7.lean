import Derived.Test.YtcbahpllcfbkmaaGreatDoorCz5
import Derived.Test.YtcbahpllcfbkmaaGreatDoorSame9
import Derived.Test.YtcbahpllcfbkmaaGreatDoorIs3
set_option linter.unusedVariables false
set_option linter.unusedSimpArgs false
set_option linter.unusedSectionVars false
namespace Go.Proofs.YtcbahpllcfbkmaaGreatDoor
open Go.RowKit
theorem ed{α:Type}{l m:List α}{j:Nat}(h:j<l.length)(h':j<m.length)(ht:l.take j=m.take j)(e:l[j]=m[j]):l.take (j+1)=m.take (j+1):=by
 rw[List.take_succ_eq_append_getElem h,List.take_succ_eq_append_getElem h',ht,e]
theorem iY{α:Type}{l m:List α}{j:Nat}(h:l.length≤j)(e:l.length=m.length)(ht:l.take j=m.take j):l=m:=by
 rwa[List.take_of_length_le h,List.take_of_length_le (by omega)]at ht
theorem ld{α:Type}{l m:List α}{j:Nat}(h:j<l.length)(h':j<m.length)(e:l[j]≠m[j]):l≠m:=fun q=>e (by subst q;rfl)
theorem oJ:∀(l m:List Ex),(∀a,a∈l→∀b,iF a b=true↔a=b)→(gg l m=true↔l=m)
 | [],[],_=>⟨fun _=>rfl,fun _=>rfl⟩
 | [],_::_,_=>⟨fun h=>(by cases h),fun h=>(by cases h)⟩
 | _::_,[],_=>⟨fun h=>(by cases h),fun h=>(by cases h)⟩
 | a::r,b::s,h=>by
  rw[gg,Bool.and_eq_true,h a (by simp),oJ r s fun x hx=>h x (by simp[hx]),List.cons.injEq]
theorem oK(a:Ex):∀b,iF a b=true↔a=b:=by
 induction a using Ex.ind2 with
 | h a ih=>
 intro b;rw[qA,Bool.and_eq_true,Bool.and_eq_true,Bool.and_eq_true,decide_eq_true_eq,decide_eq_true_eq,decide_eq_true_eq,oJ _ _ ih];cases a;cases b
 exact⟨fun⟨h1,h2,h3,h4⟩=>by
  have h1:_=_:=h1;have h2:_=_:=h2;have h3:_=_:=h3;have h4:_=_:=h4;simp only[Ex.op,Ex.num,Ex.name,Ex.args]at h1 h2 h3 h4;subst h1 h2 h3 h4;rfl,fun h=>by cases h;exact⟨rfl,rfl,rfl,rfl⟩⟩
theorem dL{p:Prop}{r:Bool}(hr:r=true↔p)(h:¬p):r=false:=by
 cases r with
 | false=>rfl
 | true=>exact absurd (hr.1 rfl) h
theorem gS(p:Prop):∃r:Bool,r=true↔p:=by
 by_cases h:p
 ·exact⟨true,fun _=>h,fun _=>rfl⟩
 ·exact⟨false,fun e=>(by cases e),fun e=>absurd e h⟩
theorem kR(l m:List ByteArray)(r:Bool)(hr:r=true↔l=m)(hl:l.length≤1200000)(σ:List (List V)):Fun G 82 [.d (.sl (l.map fun s=>[an s])),.d (.sl (m.map fun s=>[an s]))] σ (aZ (aA r) σ):=by
 refine ay Tryz.func82 k82 rfl fun hb hw=>?_;unfold c82;by_cases hlen:l.length=m.length
 case neg=>
  obtain rfl:=dL hr fun e=>hlen (by rw[e]);have d0:decide (((l.length:Nat):Int)=(m.length:Nat))=false:=decide_eq_false (by omega);simp -dsimp -implicitDefEqProofs only[aw,ah,V.copy,V.lend,V.lend1,V.cells,V.boxable,over,ak,ae,ac,ai,V.plain,Nat.reduceLeDiff,cond_true,cond_false,implies_true,eq_self,ne_eq,reduceIte,reduceCtorEq,Nat.reduceBEq,Nat.reduceLT,Nat.reduceEqDiff,Nat.reduceAdd,Nat.reduceSub,Nat.reduceMul,List.length_map,d0];first|exact aj hb rfl rfl List.take_length ⟨rfl,rfl⟩|exact aj hb rfl rfl List.take_left ⟨rfl,rfl⟩|(trace_state;fail "fin")
 have d0:decide (((l.length:Nat):Int)=(m.length:Nat))=true:=decide_eq_true (by omega);simp -dsimp -implicitDefEqProofs only[aw,ah,V.copy,V.lend,V.lend1,V.cells,V.boxable,over,ak,ae,ac,ai,V.plain,Nat.reduceLeDiff,cond_true,cond_false,implies_true,eq_self,ne_eq,reduceIte,reduceCtorEq,Nat.reduceBEq,Nat.reduceLT,Nat.reduceEqDiff,Nat.reduceAdd,Nat.reduceSub,Nat.reduceMul,List.length_map,d0];refine aS [0,1,5] (fun(j:Nat) ρ σ'=>ρ=[(0,.d (.sl (l.map fun s=>[an s]))),(1,.d (.sl (m.map fun s=>[an s]))),(5,aI .i64 j)]∧σ'=σ∧l.take j=m.take j) l.length ⟨rfl,rfl,rfl⟩ ?_ _;rintro j ρ' σ' hj ⟨rfl,rfl,hI⟩;by_cases hlt:j<l.length
 ·have hlt':j<m.length:=by omega
  have wj:=aJ hlt (show l.length≤9223372036854775807 by omega);have e1:(l.map fun s=>[an s])[j]? = some [an l[j]]:=by rw[List.getElem?_map,List.getElem?_eq_getElem hlt];rfl
  have e2:(m.map fun s=>[an s])[j]? = some [an m[j]]:=by rw[List.getElem?_map,List.getElem?_eq_getElem hlt'];rfl
  by_cases hq:l[j]=m[j]
  ·simp -dsimp -implicitDefEqProofs only[aw,ah,V.copy,V.lend,V.lend1,V.cells,V.boxable,over,ak,ae,ac,ai,V.plain,Nat.reduceLeDiff,cond_true,cond_false,implies_true,eq_self,ne_eq,reduceIte,reduceCtorEq,Nat.reduceBEq,Nat.reduceLT,Nat.reduceEqDiff,Nat.reduceAdd,Nat.reduceSub,Nat.reduceMul,List.length_map,Int.ofNat_lt,hlt,decide_true,e1,e2,decide_eq_true hq,wj];have fin:=fun(ρ:am) (hs)=>Nxt.same (n0:=σ'.length) (R:=fun ρ s=>ρ=[(0,V.d (.sl (l.map fun s=>[an s]))),(1,.d (.sl (m.map fun s=>[an s]))),(5,aI .i64 ((j+1:Nat):Int))]∧s=σ'∧l.take (j+1)=m.take (j+1)) (ρ:=[(0,V.d (.sl (l.map fun s=>[an s]))),(1,.d (.sl (m.map fun s=>[an s]))),(5,aI .i64 ((j+1:Nat):Int))]) (Nat.le_refl _) hb hs ⟨rfl,rfl,ed hlt hlt' hI hq⟩;have fin:=fin [] (by simp[ax,V.under]);first|exact fin|exact⟨hlt,fin⟩
  ·obtain rfl:=dL hr (ld hlt hlt' hq);simp -dsimp -implicitDefEqProofs only[aw,ah,V.copy,V.lend,V.lend1,V.cells,V.boxable,over,ak,ae,ac,ai,V.plain,Nat.reduceLeDiff,cond_true,cond_false,implies_true,eq_self,ne_eq,reduceIte,reduceCtorEq,Nat.reduceBEq,Nat.reduceLT,Nat.reduceEqDiff,Nat.reduceAdd,Nat.reduceSub,Nat.reduceMul,List.length_map,Int.ofNat_lt,hlt,decide_true,e1,e2,decide_eq_false hq];first|exact aj hb rfl rfl List.take_length ⟨rfl,rfl⟩|exact aj hb rfl rfl List.take_left ⟨rfl,rfl⟩|(trace_state;fail "fin")
 ·obtain rfl:=hr.2 (iY (by omega) hlen hI);simp -dsimp -implicitDefEqProofs only[aw,ah,V.copy,V.lend,V.lend1,V.cells,V.boxable,over,ak,ae,ac,ai,V.plain,Nat.reduceLeDiff,cond_true,cond_false,implies_true,eq_self,ne_eq,reduceIte,reduceCtorEq,Nat.reduceBEq,Nat.reduceLT,Nat.reduceEqDiff,Nat.reduceAdd,Nat.reduceSub,Nat.reduceMul,List.length_map,Int.ofNat_lt,hlt,decide_false];first|exact aj hb rfl rfl List.take_length ⟨rfl,rfl⟩|exact aj hb rfl rfl List.take_left ⟨rfl,rfl⟩|(trace_state;fail "fin")
theorem DY(w v:Wt):jO true [.i .i64,.i .i64,.i .i64,.b] (V.agg [.d (az w.lo),.d (az w.hi),.d (az w.w),.d (dbl w.each)]) (V.agg [.d (az v.lo),.d (az v.hi),.d (az v.w),.d (dbl v.each)])=some (aA (!(decide (w.lo=v.lo)&&(decide (w.hi=v.hi)&&(decide (w.w=v.w)&&(w.each==v.each)))))):=by
 simp[jO,cy,kN]
theorem Eu(w v:Wt):(decide (w.lo=v.lo)&&(decide (w.hi=v.hi)&&(decide (w.w=v.w)&&(w.each==v.each))))=true↔w=v:=by
 obtain⟨a,b,c,d⟩:=w;obtain⟨a',b',c',d'⟩:=v;simp[Wt.mk.injEq]
theorem EO(w v:Fl):jO true [.s,.i .i64,.i .i64,.i .i64,.i .i64] (V.agg [.d (an w.name),.d (az w.width),.d (az w.size),.d (az w.mode),.d (az w.init)]) (V.agg [.d (an v.name),.d (az v.width),.d (az v.size),.d (az v.mode),.d (az v.init)])=some (aA (!(decide (w.name=v.name)&&(decide (w.width=v.width)&&(decide (w.size=v.size)&&(decide (w.mode=v.mode)&&decide (w.init=v.init))))))):=by
 simp[jO,cy,kN]
theorem Du(w v:Fl):(decide (w.name=v.name)&&(decide (w.width=v.width)&&(decide (w.size=v.size)&&(decide (w.mode=v.mode)&&decide (w.init=v.init)))))=true↔w=v:=by
 obtain⟨a,b,c,d,e⟩:=w;obtain⟨a',b',c',d',e'⟩:=v;simp[Fl.mk.injEq]
def Dq(l:List It):Prop:=bN l≤1100000→∀(m:List It) (r:Bool),(r=true↔l=m)→∀σ:List (List V),Fun G 37 [.d (fr l),.d (fr m)] σ (aZ (aA r) σ)
theorem Dh(x y:It):x=y↔x.kind=y.kind∧x.ex=y.ex∧x.name=y.name∧x.idx=y.idx∧x.ws=y.ws∧x.items=y.items∧x.els=y.els∧x.bef=y.bef∧x.aft=y.aft:=by
 cases x;cases y;constructor
 ·intro h;cases h;exact⟨rfl,rfl,rfl,rfl,rfl,rfl,rfl,rfl,rfl⟩
 ·rintro⟨h1,h2,h3,h4,h5,h6,h7,h8,h9⟩;simp only[It.kind,It.ex,It.name,It.idx,It.ws,It.items,It.els,It.bef,It.aft]at h1 h2 h3 h4 h5 h6 h7 h8 h9;subst h1 h2 h3 h4 h5 h6 h7 h8 h9;rfl
set_option maxHeartbeats 8000000 in
theorem tu(x y:It)(h1:Dq x.items)(h2:Dq x.els)(hbig:fY x≤1100000)(r:Bool)(hr:r=true↔x=y)(σ:List (List V)):Fun G 55 [vit x,vit y] σ (aZ (aA r) σ):=by
 have hbx:=cA x;rw[Dh]at hr;obtain⟨r1,hr1⟩:=gS (x.items=y.items);obtain⟨r2,hr2⟩:=gS (x.els=y.els);obtain⟨r3,hr3⟩:=gS (x.bef=y.bef);obtain⟨r4,hr4⟩:=gS (x.aft=y.aft);have f0:=fun σ=>ov x.ex y.ex σ;have f1:=fun σ=>h1 (by omega) y.items r1 hr1 σ;have f2:=fun σ=>h2 (by omega) y.els r2 hr2 σ;have f3:=fun σ=>kR x.bef y.bef r3 hr3 (by omega) σ;have f4:=fun σ=>kR x.aft y.aft r4 hr4 (by omega) σ;simp only[be]at f0;refine ay Tryz.func55 k55 (by simp only[aV];rfl) fun hb hw=>?_;unfold c55;by_cases hk:x.kind=y.kind
 case neg=>
  obtain rfl:=dL hr fun e=>hk e.1;simp -dsimp -implicitDefEqProofs only[aw,ah,V.copy,V.lend,V.lend1,V.cells,V.boxable,over,ak,ae,ac,ai,V.plain,Nat.reduceLeDiff,cond_true,cond_false,implies_true,eq_self,ne_eq,reduceIte,reduceCtorEq,Nat.reduceBEq,Nat.reduceLT,Nat.reduceEqDiff,Nat.reduceAdd,Nat.reduceSub,Nat.reduceMul,aV,decide_eq_false hk];first|exact aj hb rfl rfl List.take_length ⟨rfl,rfl⟩|exact aj hb rfl rfl List.take_left ⟨rfl,rfl⟩|(trace_state;fail "fin")
 simp -dsimp -implicitDefEqProofs only[aw,ah,V.copy,V.lend,V.lend1,V.cells,V.boxable,over,ak,ae,ac,ai,V.plain,Nat.reduceLeDiff,cond_true,cond_false,implies_true,eq_self,ne_eq,reduceIte,reduceCtorEq,Nat.reduceBEq,Nat.reduceLT,Nat.reduceEqDiff,Nat.reduceAdd,Nat.reduceSub,Nat.reduceMul,aV,decide_eq_true hk];refine aq (f0 _) ?_;cases he:iF x.ex y.ex with
 | false=>
  obtain rfl:=dL hr fun e=>by rw[(oK _ _).2 e.2.1]at he;cases he
  simp -dsimp -implicitDefEqProofs only[aw,ah,V.copy,V.lend,V.lend1,V.cells,V.boxable,over,ak,ae,ac,ai,V.plain,Nat.reduceLeDiff,cond_true,cond_false,implies_true,eq_self,ne_eq,reduceIte,reduceCtorEq,Nat.reduceBEq,Nat.reduceLT,Nat.reduceEqDiff,Nat.reduceAdd,Nat.reduceSub,Nat.reduceMul];first|exact aj hb rfl rfl List.take_length ⟨rfl,rfl⟩|exact aj hb rfl rfl List.take_left ⟨rfl,rfl⟩|(trace_state;fail "fin")
 | true=>
 have he:=(oK _ _).1 he;by_cases hn:x.name=y.name
 case neg=>
  obtain rfl:=dL hr fun e=>hn e.2.2.1;simp -dsimp -implicitDefEqProofs only[aw,ah,V.copy,V.lend,V.lend1,V.cells,V.boxable,over,ak,ae,ac,ai,V.plain,Nat.reduceLeDiff,cond_true,cond_false,implies_true,eq_self,ne_eq,reduceIte,reduceCtorEq,Nat.reduceBEq,Nat.reduceLT,Nat.reduceEqDiff,Nat.reduceAdd,Nat.reduceSub,Nat.reduceMul,decide_eq_false hn];first|exact aj hb rfl rfl List.take_length ⟨rfl,rfl⟩|exact aj hb rfl rfl List.take_left ⟨rfl,rfl⟩|(trace_state;fail "fin")
 by_cases hi:x.idx=y.idx
 case neg=>
  obtain rfl:=dL hr fun e=>hi e.2.2.2.1;simp -dsimp -implicitDefEqProofs only[aw,ah,V.copy,V.lend,V.lend1,V.cells,V.boxable,over,ak,ae,ac,ai,V.plain,Nat.reduceLeDiff,cond_true,cond_false,implies_true,eq_self,ne_eq,reduceIte,reduceCtorEq,Nat.reduceBEq,Nat.reduceLT,Nat.reduceEqDiff,Nat.reduceAdd,Nat.reduceSub,Nat.reduceMul,decide_eq_true hn,decide_eq_false hi];first|exact aj hb rfl rfl List.take_length ⟨rfl,rfl⟩|exact aj hb rfl rfl List.take_left ⟨rfl,rfl⟩|(trace_state;fail "fin")
 by_cases hlen:x.ws.length=y.ws.length
 case neg=>
  obtain rfl:=dL hr fun e=>hlen (by rw[e.2.2.2.2.1]);have d0:decide (((x.ws.length:Nat):Int)=(y.ws.length:Nat))=false:=decide_eq_false (by omega);simp -dsimp -implicitDefEqProofs only[aw,ah,V.copy,V.lend,V.lend1,V.cells,V.boxable,over,ak,ae,ac,ai,V.plain,Nat.reduceLeDiff,cond_true,cond_false,implies_true,eq_self,ne_eq,reduceIte,reduceCtorEq,Nat.reduceBEq,Nat.reduceLT,Nat.reduceEqDiff,Nat.reduceAdd,Nat.reduceSub,Nat.reduceMul,decide_eq_true hn,decide_eq_true hi,List.length_map,d0];first|exact aj hb rfl rfl List.take_length ⟨rfl,rfl⟩|exact aj hb rfl rfl List.take_left ⟨rfl,rfl⟩|(trace_state;fail "fin")
 have d0:decide (((x.ws.length:Nat):Int)=(y.ws.length:Nat))=true:=decide_eq_true (by omega);simp -dsimp -implicitDefEqProofs only[aw,ah,V.copy,V.lend,V.lend1,V.cells,V.boxable,over,ak,ae,ac,ai,V.plain,Nat.reduceLeDiff,cond_true,cond_false,implies_true,eq_self,ne_eq,reduceIte,reduceCtorEq,Nat.reduceBEq,Nat.reduceLT,Nat.reduceEqDiff,Nat.reduceAdd,Nat.reduceSub,Nat.reduceMul,decide_eq_true hn,decide_eq_true hi,List.length_map,d0]
 generalize hbx2:[[V.d (az x.kind),V.d (az x.ex.op),V.d (az x.ex.num),V.d (an x.ex.name),V.d (.sl (x.ex.args.map dex)),V.d (an x.name),V.d (an x.idx),V.d (.sl (x.ws.map dwt)),V.d (.sl (x.items.map dit)),V.d (.sl (x.els.map dit)),V.d (.sl (x.bef.map fun s=>[an s])),V.d (.sl (x.aft.map fun s=>[an s]))],[V.d (az y.kind),V.d (az y.ex.op),V.d (az y.ex.num),V.d (an y.ex.name),V.d (.sl (y.ex.args.map dex)),V.d (an y.name),V.d (an y.idx),V.d (.sl (y.ws.map dwt)),V.d (.sl (y.items.map dit)),V.d (.sl (y.els.map dit)),V.d (.sl (y.bef.map fun s=>[an s])),V.d (.sl (y.aft.map fun s=>[an s]))]]=bx;have hbb:aB (σ++bx).length (σ++bx)=true:=by rw[←hbx2];exact aQ hb rfl
 refine aS [2,3,5] (fun(j:Nat) ρ σ'=>ρ=[(2,.ptr σ.length 0),(3,.ptr (σ.length+1) 0),(5,aI .i64 j)]∧σ'=σ++bx∧x.ws.take j=y.ws.take j) x.ws.length ⟨rfl,rfl,rfl⟩ ?_ _;rintro j ρ' σ' hj ⟨rfl,rfl,hI⟩;have hb2:2=bx.length:=by rw[←hbx2];rfl
 have fin:=fun hs (e:x.ws.take (j+1)=y.ws.take (j+1))=>Nxt.same (n0:=σ.length) (σ:=σ++bx) (R:=fun ρ s=>ρ=[(2,.ptr σ.length 0),(3,.ptr (σ.length+1) 0),(5,aI .i64 ((j+1:Nat):Int))]∧s=σ++bx∧x.ws.take (j+1)=y.ws.take (j+1)) (ρ:=[(2,.ptr σ.length 0),(3,.ptr (σ.length+1) 0),(5,aI .i64 ((j+1:Nat):Int))]) (by simp) hbb hs ⟨rfl,rfl,e⟩;have fin:=fin (by simp[ax,V.under,←hb2]);subst hbx2;by_cases hlt:j<x.ws.length
 ·have hlt':j<y.ws.length:=by omega
  have wj:=aJ hlt (show x.ws.length≤9223372036854775807 by omega);have e1:(x.ws.map dwt)[j]? = some [az x.ws[j].lo,az x.ws[j].hi,az x.ws[j].w,dbl x.ws[j].each]:=by rw[List.getElem?_map,List.getElem?_eq_getElem hlt];rfl
  have e2:(y.ws.map dwt)[j]? = some [az y.ws[j].lo,az y.ws[j].hi,az y.ws[j].w,dbl y.ws[j].each]:=by rw[List.getElem?_map,List.getElem?_eq_getElem hlt'];rfl
  have q1:=DY x.ws[j] y.ws[j];have q2:=Eu x.ws[j] y.ws[j];generalize (decide (x.ws[j].lo=y.ws[j].lo)&&(decide (x.ws[j].hi=y.ws[j].hi)&&(decide (x.ws[j].w=y.ws[j].w)&&(x.ws[j].each==y.ws[j].each))))=b at q1 q2;simp -dsimp -implicitDefEqProofs only[aw,ah,V.copy,V.lend,V.lend1,V.cells,V.boxable,over,ak,ae,ac,ai,V.plain,Nat.reduceLeDiff,cond_true,cond_false,implies_true,eq_self,ne_eq,reduceIte,reduceCtorEq,Nat.reduceBEq,Nat.reduceLT,Nat.reduceEqDiff,Nat.reduceAdd,Nat.reduceSub,Nat.reduceMul,List.length_map,Int.ofNat_lt,hlt,decide_true,e1,e2];refine eL (by kernel_rfl) ?_;cases b with
  | true=>
   simp -dsimp -implicitDefEqProofs only[aw,ah,V.copy,V.lend,V.lend1,V.cells,V.boxable,over,ak,ae,ac,ai,V.plain,Nat.reduceLeDiff,cond_true,cond_false,implies_true,eq_self,ne_eq,reduceIte,reduceCtorEq,Nat.reduceBEq,Nat.reduceLT,Nat.reduceEqDiff,Nat.reduceAdd,Nat.reduceSub,Nat.reduceMul,q1,wj];first|exact fin (ed hlt hlt' hI (q2.1 rfl))|exact⟨hlt,fin (ed hlt hlt' hI (q2.1 rfl))⟩
  | false=>
   obtain rfl:=dL hr fun e=>ld hlt hlt' (fun h=>by cases q2.2 h) e.2.2.2.2.1;simp -dsimp -implicitDefEqProofs only[aw,ah,V.copy,V.lend,V.lend1,V.cells,V.boxable,over,ak,ae,ac,ai,V.plain,Nat.reduceLeDiff,cond_true,cond_false,implies_true,eq_self,ne_eq,reduceIte,reduceCtorEq,Nat.reduceBEq,Nat.reduceLT,Nat.reduceEqDiff,Nat.reduceAdd,Nat.reduceSub,Nat.reduceMul,q1];first|exact aj hb rfl rfl List.take_length ⟨rfl,rfl⟩|exact aj hb rfl rfl List.take_left ⟨rfl,rfl⟩|(trace_state;fail "fin")
 ·have hws:=iY (by omega) hlen hI;simp -dsimp -implicitDefEqProofs only[aw,ah,V.copy,V.lend,V.lend1,V.cells,V.boxable,over,ak,ae,ac,ai,V.plain,Nat.reduceLeDiff,cond_true,cond_false,implies_true,eq_self,ne_eq,reduceIte,reduceCtorEq,Nat.reduceBEq,Nat.reduceLT,Nat.reduceEqDiff,Nat.reduceAdd,Nat.reduceSub,Nat.reduceMul,List.length_map,Int.ofNat_lt,hlt,decide_false];refine aq (f1 _) ?_;cases r1 with
  | false=>
   obtain rfl:=dL hr fun e=>by cases hr1.2 e.2.2.2.2.2.1
   simp -dsimp -implicitDefEqProofs only[aw,ah,V.copy,V.lend,V.lend1,V.cells,V.boxable,over,ak,ae,ac,ai,V.plain,Nat.reduceLeDiff,cond_true,cond_false,implies_true,eq_self,ne_eq,reduceIte,reduceCtorEq,Nat.reduceBEq,Nat.reduceLT,Nat.reduceEqDiff,Nat.reduceAdd,Nat.reduceSub,Nat.reduceMul];first|exact aj hb rfl rfl List.take_length ⟨rfl,rfl⟩|exact aj hb rfl rfl List.take_left ⟨rfl,rfl⟩|(trace_state;fail "fin")
  | true=>
  simp -dsimp -implicitDefEqProofs only[aw,ah,V.copy,V.lend,V.lend1,V.cells,V.boxable,over,ak,ae,ac,ai,V.plain,Nat.reduceLeDiff,cond_true,cond_false,implies_true,eq_self,ne_eq,reduceIte,reduceCtorEq,Nat.reduceBEq,Nat.reduceLT,Nat.reduceEqDiff,Nat.reduceAdd,Nat.reduceSub,Nat.reduceMul];refine aq (f2 _) ?_;cases r2 with
  | false=>
   obtain rfl:=dL hr fun e=>by cases hr2.2 e.2.2.2.2.2.2.1
   simp -dsimp -implicitDefEqProofs only[aw,ah,V.copy,V.lend,V.lend1,V.cells,V.boxable,over,ak,ae,ac,ai,V.plain,Nat.reduceLeDiff,cond_true,cond_false,implies_true,eq_self,ne_eq,reduceIte,reduceCtorEq,Nat.reduceBEq,Nat.reduceLT,Nat.reduceEqDiff,Nat.reduceAdd,Nat.reduceSub,Nat.reduceMul];first|exact aj hb rfl rfl List.take_length ⟨rfl,rfl⟩|exact aj hb rfl rfl List.take_left ⟨rfl,rfl⟩|(trace_state;fail "fin")
  | true=>
  simp -dsimp -implicitDefEqProofs only[aw,ah,V.copy,V.lend,V.lend1,V.cells,V.boxable,over,ak,ae,ac,ai,V.plain,Nat.reduceLeDiff,cond_true,cond_false,implies_true,eq_self,ne_eq,reduceIte,reduceCtorEq,Nat.reduceBEq,Nat.reduceLT,Nat.reduceEqDiff,Nat.reduceAdd,Nat.reduceSub,Nat.reduceMul];refine aq (f3 _) ?_;cases r3 with
  | false=>
   obtain rfl:=dL hr fun e=>by cases hr3.2 e.2.2.2.2.2.2.2.1
   simp -dsimp -implicitDefEqProofs only[aw,ah,V.copy,V.lend,V.lend1,V.cells,V.boxable,over,ak,ae,ac,ai,V.plain,Nat.reduceLeDiff,cond_true,cond_false,implies_true,eq_self,ne_eq,reduceIte,reduceCtorEq,Nat.reduceBEq,Nat.reduceLT,Nat.reduceEqDiff,Nat.reduceAdd,Nat.reduceSub,Nat.reduceMul];first|exact aj hb rfl rfl List.take_length ⟨rfl,rfl⟩|exact aj hb rfl rfl List.take_left ⟨rfl,rfl⟩|(trace_state;fail "fin")
  | true=>
  simp -dsimp -implicitDefEqProofs only[aw,ah,V.copy,V.lend,V.lend1,V.cells,V.boxable,over,ak,ae,ac,ai,V.plain,Nat.reduceLeDiff,cond_true,cond_false,implies_true,eq_self,ne_eq,reduceIte,reduceCtorEq,Nat.reduceBEq,Nat.reduceLT,Nat.reduceEqDiff,Nat.reduceAdd,Nat.reduceSub,Nat.reduceMul];refine aq (f4 _) ?_;cases r4 with
  | false=>
   obtain rfl:=dL hr fun e=>by cases hr4.2 e.2.2.2.2.2.2.2.2
   simp -dsimp -implicitDefEqProofs only[aw,ah,V.copy,V.lend,V.lend1,V.cells,V.boxable,over,ak,ae,ac,ai,V.plain,Nat.reduceLeDiff,cond_true,cond_false,implies_true,eq_self,ne_eq,reduceIte,reduceCtorEq,Nat.reduceBEq,Nat.reduceLT,Nat.reduceEqDiff,Nat.reduceAdd,Nat.reduceSub,Nat.reduceMul];first|exact aj hb rfl rfl List.take_length ⟨rfl,rfl⟩|exact aj hb rfl rfl List.take_left ⟨rfl,rfl⟩|(trace_state;fail "fin")
  | true=>
  obtain rfl:=hr.2 ⟨hk,he,hn,hi,hws,hr1.1 rfl,hr2.1 rfl,hr3.1 rfl,hr4.1 rfl⟩;simp -dsimp -implicitDefEqProofs only[aw,ah,V.copy,V.lend,V.lend1,V.cells,V.boxable,over,ak,ae,ac,ai,V.plain,Nat.reduceLeDiff,cond_true,cond_false,implies_true,eq_self,ne_eq,reduceIte,reduceCtorEq,Nat.reduceBEq,Nat.reduceLT,Nat.reduceEqDiff,Nat.reduceAdd,Nat.reduceSub,Nat.reduceMul];first|exact aj hb rfl rfl List.take_length ⟨rfl,rfl⟩|exact aj hb rfl rfl List.take_left ⟨rfl,rfl⟩|(trace_state;fail "fin")
set_option maxHeartbeats 4000000 in
theorem rJ:∀l:List It,Dq l:=by
 refine gK fun l ih hbig m r hr σ=>?_;have hll:=gO l;refine ay Tryz.func37 k37 rfl fun hb hw=>?_;unfold c37;by_cases hlen:l.length=m.length
 case neg=>
  obtain rfl:=dL hr fun e=>hlen (by rw[e]);have d0:decide (((l.length:Nat):Int)=(m.length:Nat))=false:=decide_eq_false (by omega);simp -dsimp -implicitDefEqProofs only[aw,ah,V.copy,V.lend,V.lend1,V.cells,V.boxable,over,ak,ae,ac,ai,V.plain,Nat.reduceLeDiff,cond_true,cond_false,implies_true,eq_self,ne_eq,reduceIte,reduceCtorEq,Nat.reduceBEq,Nat.reduceLT,Nat.reduceEqDiff,Nat.reduceAdd,Nat.reduceSub,Nat.reduceMul,fr,List.length_map,d0];first|exact aj hb rfl rfl List.take_length ⟨rfl,rfl⟩|exact aj hb rfl rfl List.take_left ⟨rfl,rfl⟩|(trace_state;fail "fin")
 have d0:decide (((l.length:Nat):Int)=(m.length:Nat))=true:=decide_eq_true (by omega);simp -dsimp -implicitDefEqProofs only[aw,ah,V.copy,V.lend,V.lend1,V.cells,V.boxable,over,ak,ae,ac,ai,V.plain,Nat.reduceLeDiff,cond_true,cond_false,implies_true,eq_self,ne_eq,reduceIte,reduceCtorEq,Nat.reduceBEq,Nat.reduceLT,Nat.reduceEqDiff,Nat.reduceAdd,Nat.reduceSub,Nat.reduceMul,fr,List.length_map,d0];refine aS [0,1,5] (fun(j:Nat) ρ σ'=>ρ=[(0,.d (.sl (l.map dit))),(1,.d (.sl (m.map dit))),(5,aI .i64 j)]∧σ'=σ∧l.take j=m.take j) l.length ⟨rfl,rfl,rfl⟩ ?_ _;rintro j ρ' σ' hj ⟨rfl,rfl,hI⟩
 have fin:=fun hs (e:l.take (j+1)=m.take (j+1))=>Nxt.same (n0:=σ'.length) (σ:=σ') (R:=fun ρ s=>ρ=[(0,V.d (.sl (l.map dit))),(1,.d (.sl (m.map dit))),(5,aI .i64 ((j+1:Nat):Int))]∧s=σ'∧l.take (j+1)=m.take (j+1)) (ρ:=[(0,V.d (.sl (l.map dit))),(1,.d (.sl (m.map dit))),(5,aI .i64 ((j+1:Nat):Int))]) (Nat.le_refl _) hb hs ⟨rfl,rfl,e⟩;have fin:=fin (by simp[ax,V.under]);by_cases hlt:j<l.length
 ·have hlt':j<m.length:=by omega
  have wj:=aJ hlt (show l.length≤9223372036854775807 by omega);have e1:(l.map dit)[j]? = some (dit l[j]):=by rw[List.getElem?_map,List.getElem?_eq_getElem hlt];rfl
  have e2:(m.map dit)[j]? = some (dit m[j]):=by rw[List.getElem?_map,List.getElem?_eq_getElem hlt'];rfl
  obtain⟨i1,i2⟩:=ih _ (List.getElem_mem hlt);have hm:=d6 (List.getElem_mem hlt);obtain⟨s,hs⟩:=gS (l[j]=m[j]);have f1:=fun σ=>tu l[j] m[j] i1 i2 (by omega) s hs σ;simp only[aV]at f1;simp -dsimp -implicitDefEqProofs only[aw,ah,V.copy,V.lend,V.lend1,V.cells,V.boxable,over,ak,ae,ac,ai,V.plain,Nat.reduceLeDiff,cond_true,cond_false,implies_true,eq_self,ne_eq,reduceIte,reduceCtorEq,Nat.reduceBEq,Nat.reduceLT,Nat.reduceEqDiff,Nat.reduceAdd,Nat.reduceSub,Nat.reduceMul,List.length_map,Int.ofNat_lt,hlt,decide_true,e1,e2,fk];refine aK (f1 _) ?_;cases s with
  | true=>
   simp -dsimp -implicitDefEqProofs only[aw,ah,V.copy,V.lend,V.lend1,V.cells,V.boxable,over,ak,ae,ac,ai,V.plain,Nat.reduceLeDiff,cond_true,cond_false,implies_true,eq_self,ne_eq,reduceIte,reduceCtorEq,Nat.reduceBEq,Nat.reduceLT,Nat.reduceEqDiff,Nat.reduceAdd,Nat.reduceSub,Nat.reduceMul,wj];first|exact fin (ed hlt hlt' hI (hs.1 rfl))|exact⟨hlt,fin (ed hlt hlt' hI (hs.1 rfl))⟩
  | false=>
   obtain rfl:=dL hr (ld hlt hlt' fun h=>by cases hs.2 h);simp -dsimp -implicitDefEqProofs only[aw,ah,V.copy,V.lend,V.lend1,V.cells,V.boxable,over,ak,ae,ac,ai,V.plain,Nat.reduceLeDiff,cond_true,cond_false,implies_true,eq_self,ne_eq,reduceIte,reduceCtorEq,Nat.reduceBEq,Nat.reduceLT,Nat.reduceEqDiff,Nat.reduceAdd,Nat.reduceSub,Nat.reduceMul];first|exact aj hb rfl rfl List.take_length ⟨rfl,rfl⟩|exact aj hb rfl rfl List.take_left ⟨rfl,rfl⟩|(trace_state;fail "fin")
 ·obtain rfl:=hr.2 (iY (by omega) hlen hI);simp -dsimp -implicitDefEqProofs only[aw,ah,V.copy,V.lend,V.lend1,V.cells,V.boxable,over,ak,ae,ac,ai,V.plain,Nat.reduceLeDiff,cond_true,cond_false,implies_true,eq_self,ne_eq,reduceIte,reduceCtorEq,Nat.reduceBEq,Nat.reduceLT,Nat.reduceEqDiff,Nat.reduceAdd,Nat.reduceSub,Nat.reduceMul,List.length_map,Int.ofNat_lt,hlt,decide_false];first|exact aj hb rfl rfl List.take_length ⟨rfl,rfl⟩|exact aj hb rfl rfl List.take_left ⟨rfl,rfl⟩|(trace_state;fail "fin")
end Go.Proofs.YtcbahpllcfbkmaaGreatDoor
