import Derived.Test.YthekkgfmagliiaaGreatDoorTFold
set_option linter.unusedVariables false
set_option linter.unusedSimpArgs false
set_option linter.unusedSectionVars false
namespace Go.Proofs.YthekkgfmagliiaaGreatDoor
open Go.RowKit
abbrev qe(l:List Int):List (List D):=l.map fun n=>[an n]
theorem Ao(l:List Nat)(hl:l.sum≤1000000)(hn:l.length≤1000000)(σ:List (List V)):Fun G 105 [.d (.sl (qe (l.map fun n:Nat=>(n:Int))))] σ (aB (.d (an (l.sum:Nat))) σ):=by
 refine ax Tryz.func105 IV rfl fun hb hw=>?_;unfold Ev;simp -dsimp -implicitDefEqProofs only[aw,ac,V.copy,V.lend,V.lend1,V.cells,V.boxable,over,al,ah,ae,ai,V.plain,Nat.reduceLeDiff,cond_true,cond_false,implies_true,eq_self,ne_eq,reduceIte,reduceCtorEq,Nat.reduceBEq,Nat.reduceLT,Nat.reduceEqDiff,Nat.reduceAdd,Nat.reduceSub,Nat.reduceMul];refine bD [3,6,7,8] (R:=fun(j:Nat) ρ σ'=>ρ=[(3,aU .i64 ((l.take j).sum:Nat)),(6,.d (.sl (qe (l.map fun n:Nat=>(n:Int))))),(7,aU .i64 l.length),(8,aU .i64 j)]∧σ'=σ) l.length ⟨rfl,rfl⟩ ?_ _;rintro j ρ' σ' hj ⟨rfl,rfl⟩;by_cases hlt:j<l.length
 ·have ht:(l.take (j+1)).sum=(l.take j).sum+l[j]:=by rw[List.take_add_one,List.getElem?_eq_getElem hlt,List.sum_append];show _+(l[j]+0)=_;omega
  have hle:(l.take (j+1)).sum≤l.sum:=by
   conv=>rhs;rw[←List.take_append_drop (j+1) l]
   rw[List.sum_append];omega
  have hw1:IntKind.i64.wrap (((l.take j).sum:Nat)+(l[j]:Int))=((l.take (j+1)).sum:Nat):=by rw[bd (by omega) (by omega),ht];omega
  simp -dsimp -implicitDefEqProofs only[aw,ac,V.copy,V.lend,V.lend1,V.cells,V.boxable,over,al,ah,ae,ai,V.plain,Nat.reduceLeDiff,cond_true,cond_false,implies_true,eq_self,ne_eq,reduceIte,reduceCtorEq,Nat.reduceBEq,Nat.reduceLT,Nat.reduceEqDiff,Nat.reduceAdd,Nat.reduceSub,Nat.reduceMul,Int.ofNat_lt,hlt,decide_true,List.getElem?_eq_getElem hlt,hw1,be hlt (show l.length≤9223372036854775807 by omega)];exact Nxt.same (Nat.le_refl _) hb rfl ⟨rfl,rfl⟩
 ·simp -dsimp -implicitDefEqProofs only[aw,ac,V.copy,V.lend,V.lend1,V.cells,V.boxable,over,al,ah,ae,ai,V.plain,Nat.reduceLeDiff,cond_true,cond_false,implies_true,eq_self,ne_eq,reduceIte,reduceCtorEq,Nat.reduceBEq,Nat.reduceLT,Nat.reduceEqDiff,Nat.reduceAdd,Nat.reduceSub,Nat.reduceMul,Int.ofNat_lt,hlt,decide_false];rw[List.take_of_length_le (show l.length≤j by omega)];first|exact aj hb rfl rfl List.take_length ⟨rfl,rfl⟩|exact aj hb rfl rfl List.take_left ⟨rfl,rfl⟩|(trace_state;fail "fin")
def Bd:List Int→Int
 | []=>0
 | a::r=>r.foldl max a
theorem Am(a:Int)(r:List Int)(hn:r.length≤1000000)(σ:List (List V)):Fun G 103 [.d (.sl (qe (a::r)))] σ (aB (.d (an (Bd (a::r)))) σ):=by
 refine ax Tryz.func103 JI rfl fun hb hw=>?_;unfold FZ;have e0:iaV 1 (.d (.sl ([an a]::List.map (fun n=>[an n]) r))) (V.d (D.lit (Value.int IntKind.i64 0)))=some (.row [an a] 0):=rfl;have l1:¬((r.length:Int)+1<1):=by omega
 simp -dsimp -implicitDefEqProofs only[aw,ac,V.copy,V.lend,V.lend1,V.cells,V.boxable,over,al,ah,ae,ai,V.plain,Nat.reduceLeDiff,cond_true,cond_false,implies_true,eq_self,ne_eq,reduceIte,reduceCtorEq,Nat.reduceBEq,Nat.reduceLT,Nat.reduceEqDiff,Nat.reduceAdd,Nat.reduceSub,Nat.reduceMul,e0,decide_eq_false l1,Int.natCast_add,Int.natCast_one,Int.cast_ofNat_Int];refine bD [0,3,4] (R:=fun(j:Nat) ρ σ'=>ρ=[(0,.d (.sl ([an a]::List.map (fun n=>[an n]) r))),(3,aU .i64 ((r.take j).foldl max a)),(4,aU .i64 ((j+1:Nat):Int))]∧σ'=σ) r.length ⟨rfl,rfl⟩ ?_ _;rintro j ρ' σ' hj ⟨rfl,rfl⟩;by_cases hlt:j<r.length
 ·have ht:(r.take (j+1)).foldl max a=max ((r.take j).foldl max a) r[j]:=by rw[List.take_add_one,List.getElem?_eq_getElem hlt,List.foldl_append];rfl
  have hlt':j+1<r.length+1:=by omega
  simp -dsimp -implicitDefEqProofs only[aw,ac,V.copy,V.lend,V.lend1,V.cells,V.boxable,over,al,ah,ae,ai,V.plain,Nat.reduceLeDiff,cond_true,cond_false,implies_true,eq_self,ne_eq,reduceIte,reduceCtorEq,Nat.reduceBEq,Nat.reduceLT,Nat.reduceEqDiff,Nat.reduceAdd,Nat.reduceSub,Nat.reduceMul,Int.ofNat_lt,hlt',decide_true,List.getElem?_eq_getElem hlt,←ht,if_true,be hlt' (show r.length+1≤9223372036854775807 by omega)];exact⟨hlt,Nxt.same (Nat.le_refl _) hb rfl ⟨rfl,rfl⟩⟩
 ·have hlt':¬j+1<r.length+1:=by omega
  simp -dsimp -implicitDefEqProofs only[aw,ac,V.copy,V.lend,V.lend1,V.cells,V.boxable,over,al,ah,ae,ai,V.plain,Nat.reduceLeDiff,cond_true,cond_false,implies_true,eq_self,ne_eq,reduceIte,reduceCtorEq,Nat.reduceBEq,Nat.reduceLT,Nat.reduceEqDiff,Nat.reduceAdd,Nat.reduceSub,Nat.reduceMul,Int.ofNat_lt,hlt',decide_false];rw[List.take_of_length_le (show r.length≤j by omega)];first|exact aj hb rfl rfl List.take_length ⟨rfl,rfl⟩|exact aj hb rfl rfl List.take_left ⟨rfl,rfl⟩|(trace_state;fail "fin")
theorem AH(l:List Int)(h:l≠[])(hn:l.length≤1000000)(σ:List (List V)):Fun G 103 [.d (.sl (qe l))] σ (aB (.d (an (Bd l))) σ):=by
 cases l with
 | nil=>exact absurd rfl h
 | cons a r=>exact Am a r (by simp only[List.length_cons]at hn;omega) σ
theorem rP(s:Ts)(hs:bC s≤1000000)(σ:List (List V)):gK G 104 [vts s] 3 1 ((s.args.map fun a=>(tsz a:Int)).map fun n=>[an n]) [] σ (aB (.d (an (tsz s))) σ):=by
 have h1:=jI s;have h2:=ri s;have h3:=cU s;refine ic Tryz.func104 Ij (by simp only[aq];rfl) fun hb hw=>?_;unfold F5;simp -dsimp -implicitDefEqProofs only[aw,ac,V.copy,V.lend,V.lend1,V.cells,V.boxable,over,al,ah,ae,ai,V.plain,Nat.reduceLeDiff,cond_true,cond_false,implies_true,eq_self,ne_eq,reduceIte,reduceCtorEq,Nat.reduceBEq,Nat.reduceLT,Nat.reduceEqDiff,Nat.reduceAdd,Nat.reduceSub,Nat.reduceMul,aq];have hc:=Ao (s.args.map tsz) (by omega) (by rw[List.length_map];omega) (σ++[[.d (an s.op),.d (an s.lo),.d (an s.hi),.d (an s.ex.op),.d (an s.ex.num),.d (ak s.ex.name),.d (.sl (s.ex.args.map dex)),.d (ak s.name),.d (.sl (s.args.map dts))]]);rw[List.map_map]at hc;refine ao hc ?_;have hw1:IntKind.i64.wrap (1+((s.args.map tsz).sum:Nat))=(tsz s:Int):=by rw[bd (by omega) (by omega),h1];omega
 simp -dsimp -implicitDefEqProofs only[aw,ac,V.copy,V.lend,V.lend1,V.cells,V.boxable,over,al,ah,ae,ai,V.plain,Nat.reduceLeDiff,cond_true,cond_false,implies_true,eq_self,ne_eq,reduceIte,reduceCtorEq,Nat.reduceBEq,Nat.reduceLT,Nat.reduceEqDiff,Nat.reduceAdd,Nat.reduceSub,Nat.reduceMul,hw1];exact aj hb rfl rfl List.take_left ⟨rfl,rfl⟩
theorem uc(s:Ts)(hs:bC s≤1000000)(σ:List (List V)):Fun G 67 [vts s] σ (aB (.d (an (tsz s))) σ):=by
 refine ax Tryz.func67 k67 (by simp only[aq];rfl) fun hb hw=>?_;unfold c67;simp -dsimp -implicitDefEqProofs only[aw,ac,V.copy,V.lend,V.lend1,V.cells,V.boxable,over,al,ah,ae,ai,V.plain,Nat.reduceLeDiff,cond_true,cond_false,implies_true,eq_self,ne_eq,reduceIte,reduceCtorEq,Nat.reduceBEq,Nat.reduceLT,Nat.reduceEqDiff,Nat.reduceAdd,Nat.reduceSub,Nat.reduceMul,aq];refine ao (by simpa only[aq]using nR (fun s=>(tsz s:Int)) 104 (fun s=>bC s≤1000000) (fun s h a ha=>by have:=ct ha;omega) (fun s h=>h) (fun s h σ=>rP s h σ) s hs _) ?_;simp -dsimp -implicitDefEqProofs only[aw,ac,V.copy,V.lend,V.lend1,V.cells,V.boxable,over,al,ah,ae,ai,V.plain,Nat.reduceLeDiff,cond_true,cond_false,implies_true,eq_self,ne_eq,reduceIte,reduceCtorEq,Nat.reduceBEq,Nat.reduceLT,Nat.reduceEqDiff,Nat.reduceAdd,Nat.reduceSub,Nat.reduceMul]
 exact aj hb rfl rfl List.take_left ⟨rfl,rfl⟩
theorem Ag(l:List Ts):Bd ((l.map fun a=>(tdp a:Int))++[0])=(gM l:Nat):=by
 have H:∀(l:List Ts) (m:Int),0≤m→((l.map fun a=>(tdp a:Int))++[0]).foldl max m=max m (gM l:Nat):=by
  intro l
  induction l with
  | nil=>intro m hm;simp only[List.map_nil,List.nil_append,List.foldl_cons,List.foldl_nil,gM];rfl
  | cons a r ih=>intro m hm;simp only[List.map_cons,List.cons_append,List.foldl_cons,gM];rw[ih _ (by omega)];omega
 cases l with
 | nil=>rfl
 | cons a r=>simp only[List.map_cons,List.cons_append,Bd,gM];rw[H r _ (by omega)];omega
theorem qt(s:Ts)(hs:bC s≤1000000)(σ:List (List V)):gK G 102 [vts s] 3 1 ((s.args.map fun a=>(tdp a:Int)).map fun n=>[an n]) [] σ (aB (.d (an (tdp s))) σ):=by
 have h1:=oQ s;have h2:=CG s;have h3:=cU s;refine ic Tryz.func102 IU (by simp only[aq];rfl) fun hb hw=>?_;unfold En;simp -dsimp -implicitDefEqProofs only[aw,ac,V.copy,V.lend,V.lend1,V.cells,V.boxable,over,al,ah,ae,ai,V.plain,Nat.reduceLeDiff,cond_true,cond_false,implies_true,eq_self,ne_eq,reduceIte,reduceCtorEq,Nat.reduceBEq,Nat.reduceLT,Nat.reduceEqDiff,Nat.reduceAdd,Nat.reduceSub,Nat.reduceMul,aq];refine cX (by first|omega|(simp only[List.length_map];omega)) ?_;simp -dsimp -implicitDefEqProofs only[aw,ac,V.copy,V.lend,V.lend1,V.cells,V.boxable,over,al,ah,ae,ai,V.plain,Nat.reduceLeDiff,cond_true,cond_false,implies_true,eq_self,ne_eq,reduceIte,reduceCtorEq,Nat.reduceBEq,Nat.reduceLT,Nat.reduceEqDiff,Nat.reduceAdd,Nat.reduceSub,Nat.reduceMul]
 have hc:=AH ((s.args.map fun a=>(tdp a:Int))++[0]) (by simp) (by simp only[List.length_append,List.length_map,List.length_cons,List.length_nil];omega) (σ++[[.d (an s.op),.d (an s.lo),.d (an s.hi),.d (an s.ex.op),.d (an s.ex.num),.d (ak s.ex.name),.d (.sl (s.ex.args.map dex)),.d (ak s.name),.d (.sl (s.args.map dts))]]);rw[Ag,qe,List.map_append]at hc;refine ao hc ?_;have hw1:IntKind.i64.wrap (1+((gM s.args:Nat):Int))=(tdp s:Int):=by rw[bd (by omega) (by omega),h1];omega
 simp -dsimp -implicitDefEqProofs only[aw,ac,V.copy,V.lend,V.lend1,V.cells,V.boxable,over,al,ah,ae,ai,V.plain,Nat.reduceLeDiff,cond_true,cond_false,implies_true,eq_self,ne_eq,reduceIte,reduceCtorEq,Nat.reduceBEq,Nat.reduceLT,Nat.reduceEqDiff,Nat.reduceAdd,Nat.reduceSub,Nat.reduceMul,hw1];exact aj hb rfl rfl List.take_left ⟨rfl,rfl⟩
theorem rG(s:Ts)(hs:bC s≤1000000)(σ:List (List V)):Fun G 66 [vts s] σ (aB (.d (an (tdp s))) σ):=by
 refine ax Tryz.func66 k66 (by simp only[aq];rfl) fun hb hw=>?_;unfold c66;simp -dsimp -implicitDefEqProofs only[aw,ac,V.copy,V.lend,V.lend1,V.cells,V.boxable,over,al,ah,ae,ai,V.plain,Nat.reduceLeDiff,cond_true,cond_false,implies_true,eq_self,ne_eq,reduceIte,reduceCtorEq,Nat.reduceBEq,Nat.reduceLT,Nat.reduceEqDiff,Nat.reduceAdd,Nat.reduceSub,Nat.reduceMul,aq];refine ao (by simpa only[aq]using nR (fun s=>(tdp s:Int)) 102 (fun s=>bC s≤1000000) (fun s h a ha=>by have:=ct ha;omega) (fun s h=>h) (fun s h σ=>qt s h σ) s hs _) ?_;simp -dsimp -implicitDefEqProofs only[aw,ac,V.copy,V.lend,V.lend1,V.cells,V.boxable,over,al,ah,ae,ai,V.plain,Nat.reduceLeDiff,cond_true,cond_false,implies_true,eq_self,ne_eq,reduceIte,reduceCtorEq,Nat.reduceBEq,Nat.reduceLT,Nat.reduceEqDiff,Nat.reduceAdd,Nat.reduceSub,Nat.reduceMul]
 exact aj hb rfl rfl List.take_left ⟨rfl,rfl⟩
end Go.Proofs.YthekkgfmagliiaaGreatDoor
