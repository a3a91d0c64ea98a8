import Derived.Test.YthekkgfmagliiaaGreatDoorTInt
set_option linter.unusedVariables false
set_option linter.unusedSimpArgs false
set_option linter.unusedSectionVars false
namespace Go.Proofs.YthekkgfmagliiaaGreatDoor
open Go.RowKit
abbrev my(l:List ByteArray):V:=.own 9 1 (l.map fun s=>[an s])
theorem Bc(val:Ts→List ByteArray)(f:FuncId)(P:Ts→Prop)(hP:∀s,P s→∀a,a∈s.args→P a)(hB:∀s,P s→bq s≤1000000)
 (hf:∀s,P s→∀σ,jx G f [vts s] 92 1 (s.args.map fun a=>[D.sl ((val a).map fun s=>[an s])]) [] σ (aG (my (val s)) σ))(s:Ts):
 P s→∀σ,Fun G 171 [vts s,.fn f []] σ (aG (my (val s)) σ):=by
 induction s using Ts.ind with
 | h s ih=>
 intro hs σ;have hbig:=hB s hs;have hln:=dC s;refine aD Tryz.func171 Oi (by simp only[ax];rfl) fun hb hw=>?_;unfold c171;simp -dsimp -implicitDefEqProofs only[aw,ac,V.copy,V.lend,V.lend1,V.cells,V.boxable,over,al,ah,ae,ai,V.plain,Nat.reduceLeDiff,cond_true,cond_false,implies_true,eq_self,ne_eq,reduceIte,reduceCtorEq,Nat.reduceBEq,Nat.reduceLT,Nat.reduceEqDiff,Nat.reduceAdd,Nat.reduceSub,Nat.reduceMul,ax];refine dG (by omega) ?_;simp -dsimp -implicitDefEqProofs only[aw,ac,V.copy,V.lend,V.lend1,V.cells,V.boxable,over,al,ah,ae,ai,V.plain,Nat.reduceLeDiff,cond_true,cond_false,implies_true,eq_self,ne_eq,reduceIte,reduceCtorEq,Nat.reduceBEq,Nat.reduceLT,Nat.reduceEqDiff,Nat.reduceAdd,Nat.reduceSub,Nat.reduceMul]
 refine ce [1,2,5,13,14,15] (R:=fun(j:Nat) ρ σ'=>ρ=[(1,.fn f []),(2,.ptr σ.length 0),(5,.own 92 1 ((s.args.take j).map fun a=>[D.sl ((val a).map fun s=>[an s])])),(13,.d (.sl (s.args.map dts))),(14,aW .i64 s.args.length),(15,aW .i64 j)]∧σ'=σ++[[.d (ao s.op),.d (ao s.lo),.d (ao s.hi),.d (ao s.ex.op),.d (ao s.ex.num),.d (an s.ex.name),.d (.sl (s.ex.args.map dex)),.d (an s.name),.d (.sl (s.args.map dts))]]) s.args.length ⟨rfl,rfl⟩ ?_ _;rintro j ρ' σ' hj ⟨rfl,rfl⟩;by_cases hlt:j<s.args.length
 ·simp -dsimp -implicitDefEqProofs only[aw,ac,V.copy,V.lend,V.lend1,V.cells,V.boxable,over,al,ah,ae,ai,V.plain,Nat.reduceLeDiff,cond_true,cond_false,implies_true,eq_self,ne_eq,reduceIte,reduceCtorEq,Nat.reduceBEq,Nat.reduceLT,Nat.reduceEqDiff,Nat.reduceAdd,Nat.reduceSub,Nat.reduceMul,Int.ofNat_lt,hlt,decide_true,List.getElem?_eq_getElem hlt,bP s.args[j]];refine aq (by simpa only[ax]using ih s.args[j] (List.getElem_mem hlt) (hP s hs _ (List.getElem_mem hlt)) _) ?_;have ht:s.args.take (j+1)=s.args.take j++[s.args[j]]:=by rw[List.take_add_one,List.getElem?_eq_getElem hlt];rfl
  simp -dsimp -implicitDefEqProofs only[aw,ac,V.copy,V.lend,V.lend1,V.cells,V.boxable,over,al,ah,ae,ai,V.plain,Nat.reduceLeDiff,cond_true,cond_false,implies_true,eq_self,ne_eq,reduceIte,reduceCtorEq,Nat.reduceBEq,Nat.reduceLT,Nat.reduceEqDiff,Nat.reduceAdd,Nat.reduceSub,Nat.reduceMul];refine dG (by first|omega|(simp only[List.length_map,List.length_take];omega)) ?_;simp -dsimp -implicitDefEqProofs only[aw,ac,V.copy,V.lend,V.lend1,V.cells,V.boxable,over,al,ah,ae,ai,V.plain,Nat.reduceLeDiff,cond_true,cond_false,implies_true,eq_self,ne_eq,reduceIte,reduceCtorEq,Nat.reduceBEq,Nat.reduceLT,Nat.reduceEqDiff,Nat.reduceAdd,Nat.reduceSub,Nat.reduceMul,bE hlt (show s.args.length≤9223372036854775807 by omega)];refine⟨hlt,Nxt.drop1 (Nat.le_refl _) (bj hb rfl) (by simp[aP,V.under,V.unders]) ⟨?_,rfl⟩⟩;rw[ht,List.map_append];rfl
 ·simp -dsimp -implicitDefEqProofs only[aw,ac,V.copy,V.lend,V.lend1,V.cells,V.boxable,over,al,ah,ae,ai,V.plain,Nat.reduceLeDiff,cond_true,cond_false,implies_true,eq_self,ne_eq,reduceIte,reduceCtorEq,Nat.reduceBEq,Nat.reduceLT,Nat.reduceEqDiff,Nat.reduceAdd,Nat.reduceSub,Nat.reduceMul,Int.ofNat_lt,hlt,decide_false];rw[List.take_of_length_le (show s.args.length≤j by omega)];refine ow (by simpa only[ax]using hf s hs _) ?_;simp -dsimp -implicitDefEqProofs only[aw,ac,V.copy,V.lend,V.lend1,V.cells,V.boxable,over,al,ah,ae,ai,V.plain,Nat.reduceLeDiff,cond_true,cond_false,implies_true,eq_self,ne_eq,reduceIte,reduceCtorEq,Nat.reduceBEq,Nat.reduceLT,Nat.reduceEqDiff,Nat.reduceAdd,Nat.reduceSub,Nat.reduceMul];exact am hb rfl rfl List.take_left ⟨rfl,rfl⟩
mutual
def tnm:Ts→List ByteArray
 | .mk o _ _ _ s l=>F9 l++(if o=6 then[s]else[])
def F9:List Ts→List ByteArray
 | []=>[]
 | a::r=>tnm a++F9 r
end
theorem AG(l:List Ts):F9 l=(l.map tnm).flatten:=by
 induction l with
 | nil=>rfl
 | cons a r ih=>simp only[F9,ih,List.map_cons,List.flatten_cons]
theorem vX(s:Ts):tnm s=(s.args.map tnm).flatten++(if s.op=6 then[s.name]else[]):=by cases s;simp only[tnm,AG,Ts.args,Ts.op,Ts.name];rfl
theorem sk(s:Ts):(tnm s).length≤tsz s:=by
 induction s using Ts.ind with
 | h s ih=>
 rw[vX,mJ,List.length_append,List.length_flatten,List.map_map]
 have H:∀l:List Ts,(∀a,a∈l→(tnm a).length≤tsz a)→(l.map (List.length ∘ tnm)).sum≤(l.map tsz).sum:=by
  intro l
  induction l with
  | nil=>intro _;simp
  | cons a r ihr=>
   intro h;have h1:=h a (by simp);have h2:=ihr (fun x hx=>h x (by simp[hx]));show(tnm a).length+(r.map (List.length ∘ tnm)).sum≤tsz a+(r.map tsz).sum;omega
 have:=H s.args ih;split<;>simp only[List.length_cons,List.length_nil]<;>omega
theorem CG(s:Ts)(hs:bq s≤1000000)(σ:List (List V)):jx G 172 [vts s] 92 1 (s.args.map fun a=>[D.sl ((tnm a).map fun s=>[an s])]) [] σ (aG (my (tnm s)) σ):=by
 have h1:=vX s;have h2:=sk s;have h3:=dC s;have h4:=u6 s;have h5:((s.args.map tnm).map List.length).sum≤(tnm s).length:=by rw[h1,List.length_append,List.length_flatten];omega
 refine j6 Tryz.func172 M8 (by simp only[ax];rfl) fun hb hw=>?_;unfold L0;simp -dsimp -implicitDefEqProofs only[aw,ac,V.copy,V.lend,V.lend1,V.cells,V.boxable,over,al,ah,ae,ai,V.plain,Nat.reduceLeDiff,cond_true,cond_false,implies_true,eq_self,ne_eq,reduceIte,reduceCtorEq,Nat.reduceBEq,Nat.reduceLT,Nat.reduceEqDiff,Nat.reduceAdd,Nat.reduceSub,Nat.reduceMul,ax];have hc:=wF (s.args.map tnm) (by omega) (by rw[List.length_map];omega) (σ++[[.d (ao s.op),.d (ao s.lo),.d (ao s.hi),.d (ao s.ex.op),.d (ao s.ex.num),.d (an s.ex.name),.d (.sl (s.ex.args.map dex)),.d (an s.name),.d (.sl (s.args.map dts))]]);rw[List.map_map]at hc;refine aq hc ?_;by_cases ho:s.op=6
 ·rw[if_pos ho]at h1;have h6:(tnm s).length=((s.args.map tnm).flatten.map fun s=>[an s]).length+1:=by rw[h1,List.length_append,List.length_map];rfl
  simp -dsimp -implicitDefEqProofs only[aw,ac,V.copy,V.lend,V.lend1,V.cells,V.boxable,over,al,ah,ae,ai,V.plain,Nat.reduceLeDiff,cond_true,cond_false,implies_true,eq_self,ne_eq,reduceIte,reduceCtorEq,Nat.reduceBEq,Nat.reduceLT,Nat.reduceEqDiff,Nat.reduceAdd,Nat.reduceSub,Nat.reduceMul,decide_eq_true ho];refine dG (by simp only[List.length_map]at h6 ⊢;omega) ?_;simp -dsimp -implicitDefEqProofs only[aw,ac,V.copy,V.lend,V.lend1,V.cells,V.boxable,over,al,ah,ae,ai,V.plain,Nat.reduceLeDiff,cond_true,cond_false,implies_true,eq_self,ne_eq,reduceIte,reduceCtorEq,Nat.reduceBEq,Nat.reduceLT,Nat.reduceEqDiff,Nat.reduceAdd,Nat.reduceSub,Nat.reduceMul]
  exact am (v:=my (tnm s)) hb (by rw[h1];simp[Gs,lZ,zc,my,aw,ac,V.copy,V.lend,V.lend1,V.cells,V.boxable,over,al,ah,ae,ai,V.plain,Nat.reduceLeDiff,cond_true,cond_false,implies_true,eq_self,ne_eq,reduceIte,reduceCtorEq,Nat.reduceBEq,Nat.reduceLT,Nat.reduceEqDiff,Nat.reduceAdd,Nat.reduceSub,Nat.reduceMul]) rfl List.take_left ⟨rfl,rfl⟩
 ·rw[if_neg ho,List.append_nil]at h1;simp -dsimp -implicitDefEqProofs only[aw,ac,V.copy,V.lend,V.lend1,V.cells,V.boxable,over,al,ah,ae,ai,V.plain,Nat.reduceLeDiff,cond_true,cond_false,implies_true,eq_self,ne_eq,reduceIte,reduceCtorEq,Nat.reduceBEq,Nat.reduceLT,Nat.reduceEqDiff,Nat.reduceAdd,Nat.reduceSub,Nat.reduceMul,decide_eq_false ho];exact am (v:=my (tnm s)) hb (by rw[h1];rfl) rfl List.take_left ⟨rfl,rfl⟩
theorem EH(s:Ts)(hs:bq s≤1000000)(σ:List (List V)):Fun G 142 [vts s] σ (aG (my (tnm s)) σ):=by
 refine aD Tryz.func142 N7 (by simp only[ax];rfl) fun hb hw=>?_;unfold Mq;simp -dsimp -implicitDefEqProofs only[aw,ac,V.copy,V.lend,V.lend1,V.cells,V.boxable,over,al,ah,ae,ai,V.plain,Nat.reduceLeDiff,cond_true,cond_false,implies_true,eq_self,ne_eq,reduceIte,reduceCtorEq,Nat.reduceBEq,Nat.reduceLT,Nat.reduceEqDiff,Nat.reduceAdd,Nat.reduceSub,Nat.reduceMul,ax];refine aq (by simpa only[ax]using Bc tnm 172 (fun s=>bq s≤1000000) (fun s h a ha=>by have:=di ha;omega) (fun s h=>h) (fun s h σ=>CG s h σ) s hs _) ?_;simp -dsimp -implicitDefEqProofs only[aw,ac,V.copy,V.lend,V.lend1,V.cells,V.boxable,over,al,ah,ae,ai,V.plain,Nat.reduceLeDiff,cond_true,cond_false,implies_true,eq_self,ne_eq,reduceIte,reduceCtorEq,Nat.reduceBEq,Nat.reduceLT,Nat.reduceEqDiff,Nat.reduceAdd,Nat.reduceSub,Nat.reduceMul]
 first|exact am hb rfl rfl List.take_length ⟨rfl,rfl⟩|exact am hb rfl rfl List.take_left ⟨rfl,rfl⟩|(trace_state;fail "fin")
end Go.Proofs.YthekkgfmagliiaaGreatDoor
