import Derived.Test.YthekkgfmagliiaaGreatDoorGrow
import Derived.Test.YthekkgfmagliiaaGreatDoorTInt
set_option linter.unusedVariables false
set_option linter.unusedSimpArgs false
set_option linter.unusedSectionVars false
namespace Go.Proofs.YthekkgfmagliiaaGreatDoor
open Go.RowKit
abbrev ke(l:List ByteArray):V:=.own 9 1 (l.map fun s=>[ak s])
theorem tS(val:Ts→List ByteArray)(f:FuncId)(P:Ts→Prop)(hP:∀s,P s→∀a,a∈s.args→P a)(hB:∀s,P s→bC s≤1000000)
 (hf:∀s,P s→∀σ,gK G f [vts s] 92 1 (s.args.map fun a=>[D.sl ((val a).map fun s=>[ak s])]) [] σ (aB (ke (val s)) σ))(s:Ts):
 P s→∀σ,Fun G 171 [vts s,.fn f []] σ (aB (ke (val s)) σ):=by
 induction s using Ts.ind with
 | h s ih=>
 intro hs σ;have hbig:=hB s hs;have hln:=cU s;refine ax Tryz.func171 IB (by simp only[aq];rfl) fun hb hw=>?_;unfold c171;simp -dsimp -implicitDefEqProofs only[aw,ac,V.copy,V.lend,V.lend1,V.cells,V.boxable,over,al,ah,ae,ai,V.plain,Nat.reduceLeDiff,cond_true,cond_false,implies_true,eq_self,ne_eq,reduceIte,reduceCtorEq,Nat.reduceBEq,Nat.reduceLT,Nat.reduceEqDiff,Nat.reduceAdd,Nat.reduceSub,Nat.reduceMul,aq];refine cX (by omega) ?_;simp -dsimp -implicitDefEqProofs only[aw,ac,V.copy,V.lend,V.lend1,V.cells,V.boxable,over,al,ah,ae,ai,V.plain,Nat.reduceLeDiff,cond_true,cond_false,implies_true,eq_self,ne_eq,reduceIte,reduceCtorEq,Nat.reduceBEq,Nat.reduceLT,Nat.reduceEqDiff,Nat.reduceAdd,Nat.reduceSub,Nat.reduceMul]
 refine bD [1,2,5,13,14,15] (R:=fun(j:Nat) ρ σ'=>ρ=[(1,.fn f []),(2,.ptr σ.length 0),(5,.own 92 1 ((s.args.take j).map fun a=>[D.sl ((val a).map fun s=>[ak s])])),(13,.d (.sl (s.args.map dts))),(14,aU .i64 s.args.length),(15,aU .i64 j)]∧σ'=σ++[[.d (an s.op),.d (an s.lo),.d (an s.hi),.d (an s.ex.op),.d (an s.ex.num),.d (ak s.ex.name),.d (.sl (s.ex.args.map dex)),.d (ak s.name),.d (.sl (s.args.map dts))]]) s.args.length ⟨rfl,rfl⟩ ?_ _;rintro j ρ' σ' hj ⟨rfl,rfl⟩;by_cases hlt:j<s.args.length
 ·simp -dsimp -implicitDefEqProofs only[aw,ac,V.copy,V.lend,V.lend1,V.cells,V.boxable,over,al,ah,ae,ai,V.plain,Nat.reduceLeDiff,cond_true,cond_false,implies_true,eq_self,ne_eq,reduceIte,reduceCtorEq,Nat.reduceBEq,Nat.reduceLT,Nat.reduceEqDiff,Nat.reduceAdd,Nat.reduceSub,Nat.reduceMul,Int.ofNat_lt,hlt,decide_true,List.getElem?_eq_getElem hlt,aW s.args[j]];refine ao (by simpa only[aq]using ih s.args[j] (List.getElem_mem hlt) (hP s hs _ (List.getElem_mem hlt)) _) ?_;have ht:s.args.take (j+1)=s.args.take j++[s.args[j]]:=by rw[List.take_add_one,List.getElem?_eq_getElem hlt];rfl
  simp -dsimp -implicitDefEqProofs only[aw,ac,V.copy,V.lend,V.lend1,V.cells,V.boxable,over,al,ah,ae,ai,V.plain,Nat.reduceLeDiff,cond_true,cond_false,implies_true,eq_self,ne_eq,reduceIte,reduceCtorEq,Nat.reduceBEq,Nat.reduceLT,Nat.reduceEqDiff,Nat.reduceAdd,Nat.reduceSub,Nat.reduceMul];refine cX (by first|omega|(simp only[List.length_map,List.length_take];omega)) ?_;simp -dsimp -implicitDefEqProofs only[aw,ac,V.copy,V.lend,V.lend1,V.cells,V.boxable,over,al,ah,ae,ai,V.plain,Nat.reduceLeDiff,cond_true,cond_false,implies_true,eq_self,ne_eq,reduceIte,reduceCtorEq,Nat.reduceBEq,Nat.reduceLT,Nat.reduceEqDiff,Nat.reduceAdd,Nat.reduceSub,Nat.reduceMul,be hlt (show s.args.length≤9223372036854775807 by omega)];refine⟨hlt,Nxt.drop1 (Nat.le_refl _) (aS hb rfl) (by simp[aN,V.under,V.unders]) ⟨?_,rfl⟩⟩;rw[ht,List.map_append];rfl
 ·simp -dsimp -implicitDefEqProofs only[aw,ac,V.copy,V.lend,V.lend1,V.cells,V.boxable,over,al,ah,ae,ai,V.plain,Nat.reduceLeDiff,cond_true,cond_false,implies_true,eq_self,ne_eq,reduceIte,reduceCtorEq,Nat.reduceBEq,Nat.reduceLT,Nat.reduceEqDiff,Nat.reduceAdd,Nat.reduceSub,Nat.reduceMul,Int.ofNat_lt,hlt,decide_false];rw[List.take_of_length_le (show s.args.length≤j by omega)];refine mf (by simpa only[aq]using hf s hs _) ?_;simp -dsimp -implicitDefEqProofs only[aw,ac,V.copy,V.lend,V.lend1,V.cells,V.boxable,over,al,ah,ae,ai,V.plain,Nat.reduceLeDiff,cond_true,cond_false,implies_true,eq_self,ne_eq,reduceIte,reduceCtorEq,Nat.reduceBEq,Nat.reduceLT,Nat.reduceEqDiff,Nat.reduceAdd,Nat.reduceSub,Nat.reduceMul];exact aj hb rfl rfl List.take_left ⟨rfl,rfl⟩
mutual
def tnm:Ts→List ByteArray
 | .mk o _ _ _ s l=>AM l++(if o=6 then[s]else[])
def AM:List Ts→List ByteArray
 | []=>[]
 | a::r=>tnm a++AM r
end
theorem wo(l:List Ts):AM l=(l.map tnm).flatten:=by
 induction l with
 | nil=>rfl
 | cons a r ih=>simp only[AM,ih,List.map_cons,List.flatten_cons]
theorem sM(s:Ts):tnm s=(s.args.map tnm).flatten++(if s.op=6 then[s.name]else[]):=by cases s;simp only[tnm,wo,Ts.args,Ts.op,Ts.name];rfl
theorem oU(s:Ts):(tnm s).length≤tsz s:=by
 induction s using Ts.ind with
 | h s ih=>
 rw[sM,jI,List.length_append,List.length_flatten,List.map_map]
 have H:∀l:List Ts,(∀a,a∈l→(tnm a).length≤tsz a)→(l.map (List.length ∘ tnm)).sum≤(l.map tsz).sum:=by
  intro l
  induction l with
  | nil=>intro _;simp
  | cons a r ihr=>
   intro h;have h1:=h a (by simp);have h2:=ihr (fun x hx=>h x (by simp[hx]));show(tnm a).length+(r.map (List.length ∘ tnm)).sum≤tsz a+(r.map tsz).sum;omega
 have:=H s.args ih;split<;>simp only[List.length_cons,List.length_nil]<;>omega
theorem yU(s:Ts)(hs:bC s≤1000000)(σ:List (List V)):gK G 172 [vts s] 92 1 (s.args.map fun a=>[D.sl ((tnm a).map fun s=>[ak s])]) [] σ (aB (ke (tnm s)) σ):=by
 have h1:=sM s;have h2:=oU s;have h3:=cU s;have h4:=ri s;have h5:((s.args.map tnm).map List.length).sum≤(tnm s).length:=by rw[h1,List.length_append,List.length_flatten];omega
 refine ic Tryz.func172 I7 (by simp only[aq];rfl) fun hb hw=>?_;unfold Em;simp -dsimp -implicitDefEqProofs only[aw,ac,V.copy,V.lend,V.lend1,V.cells,V.boxable,over,al,ah,ae,ai,V.plain,Nat.reduceLeDiff,cond_true,cond_false,implies_true,eq_self,ne_eq,reduceIte,reduceCtorEq,Nat.reduceBEq,Nat.reduceLT,Nat.reduceEqDiff,Nat.reduceAdd,Nat.reduceSub,Nat.reduceMul,aq];have hc:=sJ (s.args.map tnm) (by omega) (by rw[List.length_map];omega) (σ++[[.d (an s.op),.d (an s.lo),.d (an s.hi),.d (an s.ex.op),.d (an s.ex.num),.d (ak s.ex.name),.d (.sl (s.ex.args.map dex)),.d (ak s.name),.d (.sl (s.args.map dts))]]);rw[List.map_map]at hc;refine ao hc ?_;by_cases ho:s.op=6
 ·rw[if_pos ho]at h1;have h6:(tnm s).length=((s.args.map tnm).flatten.map fun s=>[ak s]).length+1:=by rw[h1,List.length_append,List.length_map];rfl
  simp -dsimp -implicitDefEqProofs only[aw,ac,V.copy,V.lend,V.lend1,V.cells,V.boxable,over,al,ah,ae,ai,V.plain,Nat.reduceLeDiff,cond_true,cond_false,implies_true,eq_self,ne_eq,reduceIte,reduceCtorEq,Nat.reduceBEq,Nat.reduceLT,Nat.reduceEqDiff,Nat.reduceAdd,Nat.reduceSub,Nat.reduceMul,decide_eq_true ho];refine cX (by simp only[List.length_map]at h6 ⊢;omega) ?_;simp -dsimp -implicitDefEqProofs only[aw,ac,V.copy,V.lend,V.lend1,V.cells,V.boxable,over,al,ah,ae,ai,V.plain,Nat.reduceLeDiff,cond_true,cond_false,implies_true,eq_self,ne_eq,reduceIte,reduceCtorEq,Nat.reduceBEq,Nat.reduceLT,Nat.reduceEqDiff,Nat.reduceAdd,Nat.reduceSub,Nat.reduceMul]
  exact aj (v:=ke (tnm s)) hb (by rw[h1];simp[CA,j6,tQ,ke,aw,ac,V.copy,V.lend,V.lend1,V.cells,V.boxable,over,al,ah,ae,ai,V.plain,Nat.reduceLeDiff,cond_true,cond_false,implies_true,eq_self,ne_eq,reduceIte,reduceCtorEq,Nat.reduceBEq,Nat.reduceLT,Nat.reduceEqDiff,Nat.reduceAdd,Nat.reduceSub,Nat.reduceMul]) rfl List.take_left ⟨rfl,rfl⟩
 ·rw[if_neg ho,List.append_nil]at h1;simp -dsimp -implicitDefEqProofs only[aw,ac,V.copy,V.lend,V.lend1,V.cells,V.boxable,over,al,ah,ae,ai,V.plain,Nat.reduceLeDiff,cond_true,cond_false,implies_true,eq_self,ne_eq,reduceIte,reduceCtorEq,Nat.reduceBEq,Nat.reduceLT,Nat.reduceEqDiff,Nat.reduceAdd,Nat.reduceSub,Nat.reduceMul,decide_eq_false ho];exact aj (v:=ke (tnm s)) hb (by rw[h1];rfl) rfl List.take_left ⟨rfl,rfl⟩
theorem Bf(s:Ts)(hs:bC s≤1000000)(σ:List (List V)):Fun G 142 [vts s] σ (aB (ke (tnm s)) σ):=by
 refine ax Tryz.func142 JC (by simp only[aq];rfl) fun hb hw=>?_;unfold Hn;simp -dsimp -implicitDefEqProofs only[aw,ac,V.copy,V.lend,V.lend1,V.cells,V.boxable,over,al,ah,ae,ai,V.plain,Nat.reduceLeDiff,cond_true,cond_false,implies_true,eq_self,ne_eq,reduceIte,reduceCtorEq,Nat.reduceBEq,Nat.reduceLT,Nat.reduceEqDiff,Nat.reduceAdd,Nat.reduceSub,Nat.reduceMul,aq];refine ao (by simpa only[aq]using tS tnm 172 (fun s=>bC s≤1000000) (fun s h a ha=>by have:=ct ha;omega) (fun s h=>h) (fun s h σ=>yU s h σ) s hs _) ?_;simp -dsimp -implicitDefEqProofs only[aw,ac,V.copy,V.lend,V.lend1,V.cells,V.boxable,over,al,ah,ae,ai,V.plain,Nat.reduceLeDiff,cond_true,cond_false,implies_true,eq_self,ne_eq,reduceIte,reduceCtorEq,Nat.reduceBEq,Nat.reduceLT,Nat.reduceEqDiff,Nat.reduceAdd,Nat.reduceSub,Nat.reduceMul]
 first|exact aj hb rfl rfl List.take_length ⟨rfl,rfl⟩|exact aj hb rfl rfl List.take_left ⟨rfl,rfl⟩|(trace_state;fail "fin")
end Go.Proofs.YthekkgfmagliiaaGreatDoor
