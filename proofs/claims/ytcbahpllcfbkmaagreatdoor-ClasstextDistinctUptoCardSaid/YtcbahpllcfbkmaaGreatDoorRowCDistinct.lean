import Derived.Test.YtcbahpllcfbkmaaGreatDoorCz7
import Derived.Test.YtcbahpllcfbkmaaGreatDoorIs3
set_option linter.unusedVariables false
set_option linter.unusedSimpArgs false
set_option linter.unusedSectionVars false
namespace Go.Proofs.YtcbahpllcfbkmaaGreatDoor
open Go.RowKit
theorem Ep(a b:Kl):a=b↔a.name=b.name∧a.par=b.par∧a.flds=b.flds∧a.blks=b.blks:=by
 cases a;cases b
 exact⟨fun h=>by cases h;exact⟨rfl,rfl,rfl,rfl⟩,fun⟨h1,h2,h3,h4⟩=>by
  simp only at h1 h2 h3 h4;subst h1 h2 h3 h4;rfl⟩
set_option maxHeartbeats 8000000 in
theorem tv(a b:Kl)(hk:jQ a≤1100000)(hf:a.flds.length≤1200000)(hbk:a.blks.length≤1200000)(r:Bool)(hr:r=true↔a=b)(σ:List (List V)):Fun G 16 [vkl a,vkl b] σ (aZ (aA r) σ):=by
 rw[Ep]at hr;refine ay Tryz.func16 k16 rfl fun hb hw=>?_;unfold c16;by_cases n1:a.name=b.name
 case neg=>
  obtain rfl:=dL hr fun e=>n1 e.1;simp -dsimp -implicitDefEqProofs only[aw,ah,V.copy,V.lend,V.lend1,V.cells,V.boxable,over,ak,ae,ac,ai,V.plain,Nat.reduceLeDiff,cond_true,cond_false,implies_true,eq_self,ne_eq,reduceIte,reduceCtorEq,Nat.reduceBEq,Nat.reduceLT,Nat.reduceEqDiff,Nat.reduceAdd,Nat.reduceSub,Nat.reduceMul,decide_eq_false n1];first|exact aj hb rfl rfl List.take_length ⟨rfl,rfl⟩|exact aj hb rfl rfl List.take_left ⟨rfl,rfl⟩|(trace_state;fail "fin")
 by_cases n2:a.par=b.par
 case neg=>
  obtain rfl:=dL hr fun e=>n2 e.2.1;simp -dsimp -implicitDefEqProofs only[aw,ah,V.copy,V.lend,V.lend1,V.cells,V.boxable,over,ak,ae,ac,ai,V.plain,Nat.reduceLeDiff,cond_true,cond_false,implies_true,eq_self,ne_eq,reduceIte,reduceCtorEq,Nat.reduceBEq,Nat.reduceLT,Nat.reduceEqDiff,Nat.reduceAdd,Nat.reduceSub,Nat.reduceMul,decide_eq_true n1,decide_eq_false n2];first|exact aj hb rfl rfl List.take_length ⟨rfl,rfl⟩|exact aj hb rfl rfl List.take_left ⟨rfl,rfl⟩|(trace_state;fail "fin")
 by_cases l1:a.flds.length=b.flds.length
 case neg=>
  obtain rfl:=dL hr fun e=>l1 (by rw[e.2.2.1]);have d1:decide (((a.flds.length:Nat):Int)=(b.flds.length:Nat))=false:=decide_eq_false (by omega);simp -dsimp -implicitDefEqProofs only[aw,ah,V.copy,V.lend,V.lend1,V.cells,V.boxable,over,ak,ae,ac,ai,V.plain,Nat.reduceLeDiff,cond_true,cond_false,implies_true,eq_self,ne_eq,reduceIte,reduceCtorEq,Nat.reduceBEq,Nat.reduceLT,Nat.reduceEqDiff,Nat.reduceAdd,Nat.reduceSub,Nat.reduceMul,decide_eq_true n1,decide_eq_true n2,List.length_map,d1];first|exact aj hb rfl rfl List.take_length ⟨rfl,rfl⟩|exact aj hb rfl rfl List.take_left ⟨rfl,rfl⟩|(trace_state;fail "fin")
 have d1:decide (((a.flds.length:Nat):Int)=(b.flds.length:Nat))=true:=decide_eq_true (by omega);by_cases l2:a.blks.length=b.blks.length
 case neg=>
  obtain rfl:=dL hr fun e=>l2 (by rw[e.2.2.2]);have d2:decide (((a.blks.length:Nat):Int)=(b.blks.length:Nat))=false:=decide_eq_false (by omega);simp -dsimp -implicitDefEqProofs only[aw,ah,V.copy,V.lend,V.lend1,V.cells,V.boxable,over,ak,ae,ac,ai,V.plain,Nat.reduceLeDiff,cond_true,cond_false,implies_true,eq_self,ne_eq,reduceIte,reduceCtorEq,Nat.reduceBEq,Nat.reduceLT,Nat.reduceEqDiff,Nat.reduceAdd,Nat.reduceSub,Nat.reduceMul,decide_eq_true n1,decide_eq_true n2,List.length_map,d1,d2];first|exact aj hb rfl rfl List.take_length ⟨rfl,rfl⟩|exact aj hb rfl rfl List.take_left ⟨rfl,rfl⟩|(trace_state;fail "fin")
 have d2:decide (((a.blks.length:Nat):Int)=(b.blks.length:Nat))=true:=decide_eq_true (by omega);simp -dsimp -implicitDefEqProofs only[aw,ah,V.copy,V.lend,V.lend1,V.cells,V.boxable,over,ak,ae,ac,ai,V.plain,Nat.reduceLeDiff,cond_true,cond_false,implies_true,eq_self,ne_eq,reduceIte,reduceCtorEq,Nat.reduceBEq,Nat.reduceLT,Nat.reduceEqDiff,Nat.reduceAdd,Nat.reduceSub,Nat.reduceMul,decide_eq_true n1,decide_eq_true n2,List.length_map,d1,d2];generalize hbx:[[V.d (an a.name),V.d (an a.par),V.d (.sl (a.flds.map dfl)),V.d (.sl (a.blks.map dbk))],[V.d (an b.name),V.d (an b.par),V.d (.sl (b.flds.map dfl)),V.d (.sl (b.blks.map dbk))]]=bx;have hbb:aB (σ++bx).length (σ++bx)=true:=by rw[←hbx];exact aQ hb rfl
 have hb2:2=bx.length:=by rw[←hbx];rfl
 refine aS [2,3,5] (fun(j:Nat) ρ σ'=>ρ=[(2,.ptr σ.length 0),(3,.ptr (σ.length+1) 0),(5,aI .i64 j)]∧σ'=σ++bx∧a.flds.take j=b.flds.take j) a.flds.length ⟨rfl,rfl,rfl⟩ ?_ _;rintro j ρ' σ' hj ⟨rfl,rfl,hI⟩;have fin0:=fun hs (e:a.flds.take (j+1)=b.flds.take (j+1))=>Nxt.same (n0:=σ.length) (σ:=σ++bx) (R:=fun ρ s=>ρ=[(2,.ptr σ.length 0),(3,.ptr (σ.length+1) 0),(5,aI .i64 ((j+1:Nat):Int))]∧s=σ++bx∧a.flds.take (j+1)=b.flds.take (j+1)) (ρ:=[(2,.ptr σ.length 0),(3,.ptr (σ.length+1) 0),(5,aI .i64 ((j+1:Nat):Int))]) (by simp) hbb hs ⟨rfl,rfl,e⟩;have fin:=fin0 (by simp[ax,V.under,←hb2]);by_cases hlt:j<a.flds.length
 ·subst hbx;have hlt':j<b.flds.length:=by omega
  have wj:=aJ hlt (show a.flds.length≤9223372036854775807 by omega);have e1:(a.flds.map dfl)[j]? = some (dfl a.flds[j]):=by rw[List.getElem?_map,List.getElem?_eq_getElem hlt];rfl
  have e2:(b.flds.map dfl)[j]? = some (dfl b.flds[j]):=by rw[List.getElem?_map,List.getElem?_eq_getElem hlt'];rfl
  have q1:=EO a.flds[j] b.flds[j];have q2:=Du a.flds[j] b.flds[j];generalize (decide (a.flds[j].name=b.flds[j].name)&&(decide (a.flds[j].width=b.flds[j].width)&&(decide (a.flds[j].size=b.flds[j].size)&&(decide (a.flds[j].mode=b.flds[j].mode)&&decide (a.flds[j].init=b.flds[j].init)))))=u at q1 q2;simp -dsimp -implicitDefEqProofs only[aw,ah,V.copy,V.lend,V.lend1,V.cells,V.boxable,over,ak,ae,ac,ai,V.plain,Nat.reduceLeDiff,cond_true,cond_false,implies_true,eq_self,ne_eq,reduceIte,reduceCtorEq,Nat.reduceBEq,Nat.reduceLT,Nat.reduceEqDiff,Nat.reduceAdd,Nat.reduceSub,Nat.reduceMul,List.length_map,Int.ofNat_lt,hlt,decide_true,e1,e2,io a.flds[j],io b.flds[j]];refine eL (by kernel_rfl) ?_;cases u with
  | true=>
   simp -dsimp -implicitDefEqProofs only[aw,ah,V.copy,V.lend,V.lend1,V.cells,V.boxable,over,ak,ae,ac,ai,V.plain,Nat.reduceLeDiff,cond_true,cond_false,implies_true,eq_self,ne_eq,reduceIte,reduceCtorEq,Nat.reduceBEq,Nat.reduceLT,Nat.reduceEqDiff,Nat.reduceAdd,Nat.reduceSub,Nat.reduceMul,q1,wj];first|exact fin (ed hlt hlt' hI (q2.1 rfl))|exact⟨hlt,fin (ed hlt hlt' hI (q2.1 rfl))⟩
  | false=>
   obtain rfl:=dL hr fun e=>ld hlt hlt' (fun h=>by cases q2.2 h) e.2.2.1;simp -dsimp -implicitDefEqProofs only[aw,ah,V.copy,V.lend,V.lend1,V.cells,V.boxable,over,ak,ae,ac,ai,V.plain,Nat.reduceLeDiff,cond_true,cond_false,implies_true,eq_self,ne_eq,reduceIte,reduceCtorEq,Nat.reduceBEq,Nat.reduceLT,Nat.reduceEqDiff,Nat.reduceAdd,Nat.reduceSub,Nat.reduceMul,q1];first|exact aj hb rfl rfl List.take_length ⟨rfl,rfl⟩|exact aj hb rfl rfl List.take_left ⟨rfl,rfl⟩|(trace_state;fail "fin")
 have hfl:=iY (by omega) l1 hI;clear fin fin0;subst hbx;simp -dsimp -implicitDefEqProofs only[aw,ah,V.copy,V.lend,V.lend1,V.cells,V.boxable,over,ak,ae,ac,ai,V.plain,Nat.reduceLeDiff,cond_true,cond_false,implies_true,eq_self,ne_eq,reduceIte,reduceCtorEq,Nat.reduceBEq,Nat.reduceLT,Nat.reduceEqDiff,Nat.reduceAdd,Nat.reduceSub,Nat.reduceMul,List.length_map,Int.ofNat_lt,hlt,decide_false];clear hI hlt hj j;generalize hbx:[[V.d (an a.name),V.d (an a.par),V.d (.sl (a.flds.map dfl)),V.d (.sl (a.blks.map dbk))],[V.d (an b.name),V.d (an b.par),V.d (.sl (b.flds.map dfl)),V.d (.sl (b.blks.map dbk))]]=bx;rw[hbx]at hbb hb2;refine aS [2,3,6] (fun(j:Nat) ρ σ'=>ρ=[(2,.ptr σ.length 0),(3,.ptr (σ.length+1) 0),(6,aI .i64 j)]∧σ'=σ++bx∧a.blks.take j=b.blks.take j) a.blks.length ⟨rfl,rfl,rfl⟩ ?_ _;rintro j ρ' σ' hj ⟨rfl,rfl,hI⟩
 have fin:=fun hs (e:a.blks.take (j+1)=b.blks.take (j+1))=>Nxt.same (n0:=σ.length) (σ:=σ++bx) (R:=fun ρ s=>ρ=[(2,.ptr σ.length 0),(3,.ptr (σ.length+1) 0),(6,aI .i64 ((j+1:Nat):Int))]∧s=σ++bx∧a.blks.take (j+1)=b.blks.take (j+1)) (ρ:=[(2,.ptr σ.length 0),(3,.ptr (σ.length+1) 0),(6,aI .i64 ((j+1:Nat):Int))]) (by simp) hbb hs ⟨rfl,rfl,e⟩;have fin:=fin (by simp[ax,V.under,←hb2]);subst hbx;by_cases hlt:j<a.blks.length
 ·have hlt':j<b.blks.length:=by omega
  have wj:=aJ hlt (show a.blks.length≤9223372036854775807 by omega);have e1:(a.blks.map dbk)[j]? = some (dbk a.blks[j]):=by rw[List.getElem?_map,List.getElem?_eq_getElem hlt];rfl
  have e2:(b.blks.map dbk)[j]? = some (dbk b.blks[j]):=by rw[List.getElem?_map,List.getElem?_eq_getElem hlt'];rfl
  have hm:=kV (List.getElem_mem hlt);obtain⟨s,hs⟩:=gS (a.blks[j].2=b.blks[j].2);have f1:=fun σ=>rJ a.blks[j].2 (by omega) b.blks[j].2 s hs σ;by_cases hq:a.blks[j].1=b.blks[j].1
  case neg=>
   obtain rfl:=dL hr fun e=>ld hlt hlt' (fun h=>hq (by rw[h])) e.2.2.2;simp -dsimp -implicitDefEqProofs only[aw,ah,V.copy,V.lend,V.lend1,V.cells,V.boxable,over,ak,ae,ac,ai,V.plain,Nat.reduceLeDiff,cond_true,cond_false,implies_true,eq_self,ne_eq,reduceIte,reduceCtorEq,Nat.reduceBEq,Nat.reduceLT,Nat.reduceEqDiff,Nat.reduceAdd,Nat.reduceSub,Nat.reduceMul,List.length_map,Int.ofNat_lt,hlt,decide_true,e1,e2,fm a.blks[j],fm b.blks[j],decide_eq_false hq];first|exact aj hb rfl rfl List.take_length ⟨rfl,rfl⟩|exact aj hb rfl rfl List.take_left ⟨rfl,rfl⟩|(trace_state;fail "fin")
  simp -dsimp -implicitDefEqProofs only[aw,ah,V.copy,V.lend,V.lend1,V.cells,V.boxable,over,ak,ae,ac,ai,V.plain,Nat.reduceLeDiff,cond_true,cond_false,implies_true,eq_self,ne_eq,reduceIte,reduceCtorEq,Nat.reduceBEq,Nat.reduceLT,Nat.reduceEqDiff,Nat.reduceAdd,Nat.reduceSub,Nat.reduceMul,List.length_map,Int.ofNat_lt,hlt,decide_true,e1,e2,fm a.blks[j],fm b.blks[j],decide_eq_true hq];refine aK (f1 _) ?_;cases s with
  | true=>
   have he:a.blks[j]=b.blks[j]:=Prod.ext hq (hs.1 rfl);simp -dsimp -implicitDefEqProofs only[aw,ah,V.copy,V.lend,V.lend1,V.cells,V.boxable,over,ak,ae,ac,ai,V.plain,Nat.reduceLeDiff,cond_true,cond_false,implies_true,eq_self,ne_eq,reduceIte,reduceCtorEq,Nat.reduceBEq,Nat.reduceLT,Nat.reduceEqDiff,Nat.reduceAdd,Nat.reduceSub,Nat.reduceMul,wj];first|exact fin (ed hlt hlt' hI he)|exact⟨hlt,fin (ed hlt hlt' hI he)⟩
  | false=>
   obtain rfl:=dL hr fun e=>ld hlt hlt' (fun h=>by have:=hs.2 (by rw[h]);cases this) e.2.2.2;simp -dsimp -implicitDefEqProofs only[aw,ah,V.copy,V.lend,V.lend1,V.cells,V.boxable,over,ak,ae,ac,ai,V.plain,Nat.reduceLeDiff,cond_true,cond_false,implies_true,eq_self,ne_eq,reduceIte,reduceCtorEq,Nat.reduceBEq,Nat.reduceLT,Nat.reduceEqDiff,Nat.reduceAdd,Nat.reduceSub,Nat.reduceMul];first|exact aj hb rfl rfl List.take_length ⟨rfl,rfl⟩|exact aj hb rfl rfl List.take_left ⟨rfl,rfl⟩|(trace_state;fail "fin")
 ·obtain rfl:=hr.2 ⟨n1,n2,hfl,iY (by omega) l2 hI⟩;simp -dsimp -implicitDefEqProofs only[aw,ah,V.copy,V.lend,V.lend1,V.cells,V.boxable,over,ak,ae,ac,ai,V.plain,Nat.reduceLeDiff,cond_true,cond_false,implies_true,eq_self,ne_eq,reduceIte,reduceCtorEq,Nat.reduceBEq,Nat.reduceLT,Nat.reduceEqDiff,Nat.reduceAdd,Nat.reduceSub,Nat.reduceMul,List.length_map,Int.ofNat_lt,hlt,decide_false];first|exact aj hb rfl rfl List.take_length ⟨rfl,rfl⟩|exact aj hb rfl rfl List.take_left ⟨rfl,rfl⟩|(trace_state;fail "fin")
set_option maxHeartbeats 4000000 in
theorem qy(a b:Kl)(ha:jQ a≤1100000)(hfa:a.flds.length≤1200000)(hba:a.blks.length≤1200000)(hb':jQ b≤1100000)(hfb:b.flds.length≤1200000)(hbb':b.blks.length≤1200000)(σ:List (List V)):
 Fun G 5 [vkl a,vkl b] σ (aZ (aA true) σ):=by
 have f1:=fun σ=>iD a ha hfa hba σ;have f2:=fun σ=>iD b hb' hfb hbb' σ;have f3:=fun σ=>lB a ha hfa hba σ;have f4:=fun σ=>lB b hb' hfb hbb' σ;obtain⟨r,hr⟩:=gS (a=b);have f5:=fun σ=>tv a b ha hfa hba r hr σ;refine ay Tryz.func5 k5 rfl fun hb hw=>?_;unfold c5;simp -dsimp -implicitDefEqProofs only[aw,ah,V.copy,V.lend,V.lend1,V.cells,V.boxable,over,ak,ae,ac,ai,V.plain,Nat.reduceLeDiff,cond_true,cond_false,implies_true,eq_self,ne_eq,reduceIte,reduceCtorEq,Nat.reduceBEq,Nat.reduceLT,Nat.reduceEqDiff,Nat.reduceAdd,Nat.reduceSub,Nat.reduceMul];refine aq (f1 _) ?_;cases p1:em a with
 | false=>
  simp -dsimp -implicitDefEqProofs only[aw,ah,V.copy,V.lend,V.lend1,V.cells,V.boxable,over,ak,ae,ac,ai,V.plain,Nat.reduceLeDiff,cond_true,cond_false,implies_true,eq_self,ne_eq,reduceIte,reduceCtorEq,Nat.reduceBEq,Nat.reduceLT,Nat.reduceEqDiff,Nat.reduceAdd,Nat.reduceSub,Nat.reduceMul];refine aq (lh _) ?_;simp -dsimp -implicitDefEqProofs only[aw,ah,V.copy,V.lend,V.lend1,V.cells,V.boxable,over,ak,ae,ac,ai,V.plain,Nat.reduceLeDiff,cond_true,cond_false,implies_true,eq_self,ne_eq,reduceIte,reduceCtorEq,Nat.reduceBEq,Nat.reduceLT,Nat.reduceEqDiff,Nat.reduceAdd,Nat.reduceSub,Nat.reduceMul];first|exact aj hb rfl rfl List.take_length ⟨rfl,rfl⟩|exact aj hb rfl rfl List.take_left ⟨rfl,rfl⟩|(trace_state;fail "fin")
 | true=>
 simp -dsimp -implicitDefEqProofs only[aw,ah,V.copy,V.lend,V.lend1,V.cells,V.boxable,over,ak,ae,ac,ai,V.plain,Nat.reduceLeDiff,cond_true,cond_false,implies_true,eq_self,ne_eq,reduceIte,reduceCtorEq,Nat.reduceBEq,Nat.reduceLT,Nat.reduceEqDiff,Nat.reduceAdd,Nat.reduceSub,Nat.reduceMul];refine aq (f2 _) ?_;cases p2:em b with
 | false=>
  simp -dsimp -implicitDefEqProofs only[aw,ah,V.copy,V.lend,V.lend1,V.cells,V.boxable,over,ak,ae,ac,ai,V.plain,Nat.reduceLeDiff,cond_true,cond_false,implies_true,eq_self,ne_eq,reduceIte,reduceCtorEq,Nat.reduceBEq,Nat.reduceLT,Nat.reduceEqDiff,Nat.reduceAdd,Nat.reduceSub,Nat.reduceMul];refine aq (lh _) ?_;simp -dsimp -implicitDefEqProofs only[aw,ah,V.copy,V.lend,V.lend1,V.cells,V.boxable,over,ak,ae,ac,ai,V.plain,Nat.reduceLeDiff,cond_true,cond_false,implies_true,eq_self,ne_eq,reduceIte,reduceCtorEq,Nat.reduceBEq,Nat.reduceLT,Nat.reduceEqDiff,Nat.reduceAdd,Nat.reduceSub,Nat.reduceMul];first|exact aj hb rfl rfl List.take_length ⟨rfl,rfl⟩|exact aj hb rfl rfl List.take_left ⟨rfl,rfl⟩|(trace_state;fail "fin")
 | true=>
 have v1:=(jY _).1 p1;have v2:=(jY _).1 p2;have t1:jU a=jZ a:=by unfold jU;rw[if_pos p1]
 have t2:jU b=jZ b:=by unfold jU;rw[if_pos p2]
 rw[t1]at f3;rw[t2]at f4;have g1:decide (bs (jZ a)=⟨#[]⟩)=false:=decide_eq_false (by rw[pf];exact uw _);have g2:decide (bs (jZ b)=⟨#[]⟩)=false:=decide_eq_false (by rw[pf];exact uw _)
 have g3:decide (bs (jZ a)=bs (jZ b))=r:=by
  cases r with
  | true=>rw[hr.1 rfl];exact decide_eq_true rfl
  | false=>
   refine decide_eq_false fun h=>?_;have:=hr.2 (BI v1.ok v2.ok (sf.1 h));cases this
 simp -dsimp -implicitDefEqProofs only[aw,ah,V.copy,V.lend,V.lend1,V.cells,V.boxable,over,ak,ae,ac,ai,V.plain,Nat.reduceLeDiff,cond_true,cond_false,implies_true,eq_self,ne_eq,reduceIte,reduceCtorEq,Nat.reduceBEq,Nat.reduceLT,Nat.reduceEqDiff,Nat.reduceAdd,Nat.reduceSub,Nat.reduceMul];refine aK (f3 _) ?_;simp -dsimp -implicitDefEqProofs only[aw,ah,V.copy,V.lend,V.lend1,V.cells,V.boxable,over,ak,ae,ac,ai,V.plain,Nat.reduceLeDiff,cond_true,cond_false,implies_true,eq_self,ne_eq,reduceIte,reduceCtorEq,Nat.reduceBEq,Nat.reduceLT,Nat.reduceEqDiff,Nat.reduceAdd,Nat.reduceSub,Nat.reduceMul];refine aK (f4 _) ?_
 simp -dsimp -implicitDefEqProofs only[aw,ah,V.copy,V.lend,V.lend1,V.cells,V.boxable,over,ak,ae,ac,ai,V.plain,Nat.reduceLeDiff,cond_true,cond_false,implies_true,eq_self,ne_eq,reduceIte,reduceCtorEq,Nat.reduceBEq,Nat.reduceLT,Nat.reduceEqDiff,Nat.reduceAdd,Nat.reduceSub,Nat.reduceMul,g1,g2,g3];refine aq (f5 _) ?_;have rr:(r==r)=true:=by cases r<;>rfl
 simp -dsimp -implicitDefEqProofs only[aw,ah,V.copy,V.lend,V.lend1,V.cells,V.boxable,over,ak,ae,ac,ai,V.plain,Nat.reduceLeDiff,cond_true,cond_false,implies_true,eq_self,ne_eq,reduceIte,reduceCtorEq,Nat.reduceBEq,Nat.reduceLT,Nat.reduceEqDiff,Nat.reduceAdd,Nat.reduceSub,Nat.reduceMul,rr];refine aq (lh _) ?_;simp -dsimp -implicitDefEqProofs only[aw,ah,V.copy,V.lend,V.lend1,V.cells,V.boxable,over,ak,ae,ac,ai,V.plain,Nat.reduceLeDiff,cond_true,cond_false,implies_true,eq_self,ne_eq,reduceIte,reduceCtorEq,Nat.reduceBEq,Nat.reduceLT,Nat.reduceEqDiff,Nat.reduceAdd,Nat.reduceSub,Nat.reduceMul];first|exact aj hb rfl rfl List.take_length ⟨rfl,rfl⟩|exact aj hb rfl rfl List.take_left ⟨rfl,rfl⟩|(trace_state;fail "fin")
end Go.Proofs.YtcbahpllcfbkmaaGreatDoor
namespace Go.Proofs.YtcbahpllcfbkmaaGreatDoor
open Go.ChangeShapes Go.WideShapes Go.ChangeAt Go.RowKit
set_option maxRecDepth 100000 in
theorem fQ(H:Type)(enc:TypeId×Value→H)(W:World)(base:Nat)(args:Array Value)(ds gs:List (DataW H))(before:List MemPlace)
 (hval:∀(j:Nat) t v,Tryz.f5.params[j]? = some t→args[j]? = some v→Value.okWide Tryz.prog W .any base t v)
 (hW:DataW.Whole enc Tryz.prog Tryz.f5.params.toList Rows.classtextDistinctSpec.vars false W args.toList ds gs before)(hL:laidMetH Tryz.prog mX W)(hk:Rows.uptoSmall H (ds++gs)=true):
 Calls Tryz.prog 5 args W fun e W'=>∃v,e=.returned v∧Rows.classtextDistinctSpec.post enc Tryz.prog Tryz.f5 false true false false W args v W':=by
 have hW':=hW;obtain⟨p,q,hA0,hV0,rfl,hfz,hnd⟩:=hW;have hA:DataW.TrodAll enc Tryz.prog W 0 (fun _=>true) true Tryz.f5.params.toList args.toList ds p:=hA0;have hV:DataW.TrodVars enc Tryz.prog W (fun _=>true) [] gs q:=hV0;rw[Tryz.params5]at hA hval;obtain⟨v0,v1,d0,d1,p0,p1,rfl,rfl,rfl,h0,h1⟩:=trodAll_two hA;obtain⟨rfl,rfl⟩:=trodVars_none hV;have lt0:=ny h0;obtain⟨c0,hv0,hb0⟩:=us h0 (hval 0 29 v0 rfl rfl);have lt1:=ny h1;obtain⟨c1,hv1,hb1⟩:=us h1 (hval 1 29 v1 rfl rfl)
 have hbd:Rows.uptoBulk d0+(Rows.uptoBulk d1+0)≤1048576:=by
  have:=of_decide_eq_true hk;simpa only[List.cons_append,List.nil_append,Rows.uptoBulkAll]using this
 have e1:Rows.classtextDistinctSpec.fn H ([d0,d1]++[])={results:=[.lit (.bool true)],args:=[d0,d1]}:=by simp[Rows.classtextDistinctSpec]
 refine(nj (vs:=[v0,v1]) hL (qy c0 c1 (by omega) (by omega) (by omega) (by omega) (by omega) (by omega) []) rfl (fun i h h'=>?_)).mono fun en W' ⟨he,hx⟩=>?_
 ·match i,h with
  | 0,_=>exact hv0
  | 1,_=>exact hv1
 subst he;have bel:=hx.below;refine⟨_,rfl,_,_,_,[],p0++p1,[],hW',?_,?_,?_,bel.frame _,fun h=>by cases h⟩
 ·rw[e1];exact trodAll_mk1 (shut_bool Tryz.underlying4 true)
 ·rw[e1];exact trodAll_mk2 (Below.trod Tryz.laidOut (by kernel_rfl) (of_decide_eq_true (by kernel_rfl)) h0 bel lt0) (Below.trod Tryz.laidOut (by kernel_rfl) (of_decide_eq_true (by kernel_rfl)) h1 bel lt1)
 ·rw[e1];rfl
set_option maxRecDepth 100000 in
theorem gA(os:Os)(started:os.Started)(H:Type)(enc:TypeId×Value→H)(F:Stop.Interp):
 ReturnsInHanded {} Tryz.checked os 5 .any ((Rows.OpenSpec.upto Rows.classtextDistinctSpec).preRow enc Tryz.prog Tryz.f5 Rows.classtextDistinctUptoRow.domain false Rows.classtextDistinctUptoRow.laid) (((Rows.OpenSpec.upto Rows.classtextDistinctSpec).at F).post enc Tryz.prog Tryz.f5 false true false false):=by
 have hx:DataW.whole enc Tryz.prog ((lz os).forCall (fun _ _=>0) ⟨#[],#[.agg #[.string ⟨#[]⟩,.string ⟨#[]⟩,.slice none 0 0,.slice none 0 0],.agg #[.string ⟨#[]⟩,.string ⟨#[]⟩,.slice none 0 0,.slice none 0 0]],[]⟩).memory Tryz.f5.params.toList Rows.classtextDistinctSpec.vars false #[Value.agg #[.string ⟨#[]⟩,.string ⟨#[]⟩,.slice none 0 0,.slice none 0 0],Value.agg #[.string ⟨#[]⟩,.string ⟨#[]⟩,.slice none 0 0,.slice none 0 0]].toList 8=some ([.agg [.lit (.string []),.lit (.string []),.nil,.nil],.agg [.lit (.string []),.lit (.string []),.nil,.nil]],[],[]):=by kernel_rfl
 refine returnsInHanded_of_row (C:=Tryz.checked) (s:=Rows.OpenSpec.upto Rows.classtextDistinctSpec) Tryz.own started (by kernel_rfl) Tryz.func5
  (witness_row_atRef (enc:=enc) (C:=Tryz.checked) false (lz os) #[.agg #[.string ⟨#[]⟩,.string ⟨#[]⟩,.slice none 0 0,.slice none 0 0],.agg #[.string ⟨#[]⟩,.string ⟨#[]⟩,.slice none 0 0,.slice none 0 0]] rfl (by kernel_rfl) (by kernel_rfl) (by kernel_rfl)
    (OpenSpec.preRow_of_cond 8 hx (by kernel_rfl) (fun k hk=>by cases hk;kernel_rfl) (by kernel_rfl) (nR os _))) ?_
 intro W base args ds gs before hval hW _ hcond _ hL _ _;exact fQ H enc W base args ds gs before hval hW hL (hcond _ rfl)
theorem ey:Rows.ClasstextDistinctUptoSaid:=
 OpenClaim.holds_of_cond 5 Tryz.f5 rfl rfl rfl rfl rfl rfl rfl ⟨rfl,rfl,rfl,rfl,rfl⟩ rfl rfl rfl rfl rfl (by kernel_rfl) Tryz.func5 (by kernel_rfl)
  (of_decide_eq_true (by kernel_rfl)) (by unfold Func.isWrapper;first|(rw[if_pos (by decide +kernel)];kernel_rfl)|(rw[if_neg (by decide +kernel)];exact⟨rfl,rfl⟩))
  (fun os started H enc _ F=>by rw[OpenClaim.pre_eq_preRow];exact gA os started H enc F)
#print axioms ey
end Go.Proofs.YtcbahpllcfbkmaaGreatDoor
