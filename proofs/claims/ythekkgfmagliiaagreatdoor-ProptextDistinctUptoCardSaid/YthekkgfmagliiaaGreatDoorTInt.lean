import Derived.Test.YthekkgfmagliiaaGreatDoorTFold
import Derived.Lib.AppendZerosOnto
import Derived.Lib.SliceRun
import Derived.Lib.Walk
set_option linter.unusedVariables false
set_option linter.unusedSimpArgs false
set_option linter.unusedSectionVars false
namespace Go.Proofs.YthekkgfmagliiaaGreatDoor
open Go.RowKit
theorem Tryz.under_strs:Tryz.prog.underlying 92=some (.slice 9):=by kernel_rfl
theorem Tryz.under_int:Tryz.prog.underlying 3=some (.int .i64):=by kernel_rfl
theorem zq(w:World):Calls Tryz.prog 202 #[.slice none 0 0,.int .i64 0] w fun e w'=>e=.returned (.slice none 0 0)∧w'=w:=by
 have h2:wrap64 ((0:Int)-(0:Int))=0:=by unfold wrap64;omega
 go_enter Tryz.func202,Tryz.ntmps202;go_wp2_with fail;go_ret;exact⟨rfl,rfl⟩
set_option maxHeartbeats 2000000 in
theorem CC(n:Nat)(h0:0<n)(hn:n≤1000000)(w:World):Calls Tryz.prog 202 #[.slice none 0 0,.int .i64 n] w fun e w'=>
 e=.returned (.slice (some ⟨w.heap.size,0,none⟩) 0 (grownCap w n 0 9))∧
  w'=w.drew.alloc (.cells (Builtin.zeroCells #[.string ⟨#[]⟩] n++Builtin.zeroCells #[.string ⟨#[]⟩] (grownCap w n 0 9-n)) 9):=by
 obtain⟨i0,hi0,hz0,hs0,hb0⟩:∃i0,Tryz.prog.info? 9=some i0∧i0.zero=some (.string ⟨#[]⟩)∧i0.size=1∧i0.bytes=16:=by
  have h:=Tryz.infoS;cases hi:Tryz.prog.info? 9 with
  | none=>rw[hi]at h;cases h
  | some i0=>rw[hi]at h;simp only[Option.map_some,Option.some.injEq,Prod.mk.injEq]at h;exact⟨i0,rfl,h.1,h.2.1,h.2.2⟩
 have h1:¬((n:Int)<0):=by omega
 have h2:wrap64 ((0:Int)-(0:Int))=0:=by unfold wrap64;omega
 have h3:wrap64 ((n:Int)-0)=n:=by unfold wrap64;omega
 have h4:(n:Int)>0:=by omega
 have hold:(Builtin.firstCells i0.size 0 (.slice none 0 0)).run Tryz.prog w.drew=.ok (#[]:Array Value) w.drew:=run_firstCells_none w.drew i0.size 0 0 0
 have hrz:∀ty,(Builtin.append_ #[92,3] ty #[.slice none 0 0,.int .i64 (n:Int)]).run Tryz.prog w=
  .ok (.slice (some ⟨w.heap.size,0,none⟩) n (grownCap w n 0 9)) (w.drew.alloc (.cells (Builtin.zeroCells #[.string ⟨#[]⟩] n++Builtin.zeroCells #[.string ⟨#[]⟩] (grownCap w n 0 9-n)) 9)):=fun ty=>by
  have h:=Lib.run_append_grow_zeros w 92 3 ty 9 i0 _ .i64 .i64 Tryz.under_strs Tryz.under_int hi0 hz0 none 0 0 [] hold n (by omega) (by omega) (by omega) (by omega) (by rw[hb0];omega)
   (growslice_fits (by omega) (by rw[hb0];omega))
  simp only[Nat.zero_add]at h;rw[h];simp[Value.cells]
 have hGn:n≤grownCap w n 0 9:=grownCap_ge w _ _ _;obtain⟨G,hG⟩:∃G,G=grownCap w n 0 9:=⟨_,rfl⟩
 rw[←hG]at hrz hGn ⊢
 have hG63:G≤9223372036854775807:=by
  have:=grownCap_le_maxLen w n 0 9 (by unfold maxLen;omega);rw[←hG]at this;unfold maxLen at this;omega
 clear hold hG;go_enter Tryz.func202,Tryz.ntmps202;go_wp2_with (at_builtin;refine Lib.wpList_append_run _ rfl _ _ _ _ rfl _ _ rfl rfl _ _ (hrz _) ?_);all_goals (go_ret;exact⟨rfl,rfl⟩)
theorem Ce(n:Nat)(hn:n≤1000000)(σ:List (List V)):Fun G 202 [.nil,.d (ao n)] σ (aG (.own 9 1 []) σ):=
 rQ (l:=[]) Tryz.func202 (by kernel_rfl) (by kernel_rfl) fun M bm w vs hG hM hl hr=>match vs,hl with
  | [v,u],_=>by
   refine⟨by simp,?_⟩;have h1:Rep M bm .nil v:=hr 0 (by simp) (by simp);have h2:Rep M bm (.d (ao n)) u:=hr 1 (by simp) (by simp);cases h1 with
   | nil=>cases h2 with
    | d h2=>cases h2 with
     | lit _ _=>
      by_cases h0:n=0
      ·subst h0;refine(zq w).mono fun e w' ⟨h3,h4⟩=>?_;subst h4;exact⟨_,h3,⟨rfl,.inl ⟨rfl,rfl⟩⟩,(fun k hk=>by cases hk),Ext.refl _⟩
      ·refine(CC n (by omega) hn w).mono fun e w' ⟨h3,h4⟩=>?_;subst h4;have hGn:n≤grownCap w n 0 9:=grownCap_ge w _ _ _;have hGm:=grownCap_le_maxLen w n 0 9 (by unfold maxLen;omega);refine⟨_,h3,⟨rfl,.inr ⟨w.heap.size,_,_,rfl,Nat.zero_le _,heap_alloc_new w.drew _,Nat.zero_le _,hGm,?_,rfl⟩⟩,fun k hk=>?_,((Ext.refl w).drew).alloc _⟩
       ·simp only[Array.size_append,size_zeroCells,List.size_toArray,List.length_cons,List.length_nil];omega
       ·simp only[Value.ownBlock,Option.some.injEq]at hk;omega
theorem wF(ls:List (List ByteArray))(hs:(ls.map List.length).sum≤1000000)(hn:ls.length≤1000000)(σ:List (List V)):
 Fun G 173 [.d (.sl (ls.map fun l=>[D.sl (l.map fun s=>[an s])]))] σ (aG (.own 9 1 (ls.flatten.map fun s=>[an s])) σ):=by
 refine aD Tryz.func173 OH rfl fun hb hw=>?_;unfold c173;generalize hrows:(ls.map fun l=>[D.sl (l.map fun s=>[an s])])=rows;have hrl:rows.length=ls.length:=by rw[←hrows,List.length_map]
 have hre:∀j (h:j<ls.length),rows[j]? = some [D.sl (ls[j].map fun s=>[an s])]:=fun j h=>by rw[←hrows,List.getElem?_map,List.getElem?_eq_getElem h];rfl
 have hle:∀j,((ls.take j).map List.length).sum≤(ls.map List.length).sum:=fun j=>by
  conv=>rhs;rw[←List.take_append_drop j ls]
  rw[List.map_append,List.sum_append];omega
 simp -dsimp -implicitDefEqProofs only[aw,ac,V.copy,V.lend,V.lend1,V.cells,V.boxable,over,al,ah,ae,ai,V.plain,Nat.reduceLeDiff,cond_true,cond_false,implies_true,eq_self,ne_eq,reduceIte,reduceCtorEq,Nat.reduceBEq,Nat.reduceLT,Nat.reduceEqDiff,Nat.reduceAdd,Nat.reduceSub,Nat.reduceMul,hrl];refine ce [0,3,9,10,11] (R:=fun(j:Nat) ρ σ'=>ρ=[(0,.d (.sl rows)),(3,aW .i64 (((ls.take j).map List.length).sum:Nat)),(9,.d (.sl rows)),(10,aW .i64 ls.length),(11,aW .i64 j)]∧σ'=σ) ls.length ⟨rfl,rfl⟩ ?_ _;rintro j ρ' σ' hj ⟨rfl,rfl⟩;by_cases hlt:j<ls.length
 ·have ht:((ls.take (j+1)).map List.length).sum=((ls.take j).map List.length).sum+ls[j].length:=by
   rw[List.take_add_one,List.getElem?_eq_getElem hlt,List.map_append,List.sum_append];show _+(ls[j].length+0)=_;omega
  have h1:=hle (j+1);have hw1:IntKind.i64.wrap ((((ls.take j).map List.length).sum:Nat)+(ls[j].length:Int))=(((ls.take (j+1)).map List.length).sum:Nat):=by rw[df (by omega) (by omega),ht];omega
  have hng:¬((((ls.take (j+1)).map List.length).sum:Nat):Int)<0:=by omega
  simp -dsimp -implicitDefEqProofs only[aw,ac,V.copy,V.lend,V.lend1,V.cells,V.boxable,over,al,ah,ae,ai,V.plain,Nat.reduceLeDiff,cond_true,cond_false,implies_true,eq_self,ne_eq,reduceIte,reduceCtorEq,Nat.reduceBEq,Nat.reduceLT,Nat.reduceEqDiff,Nat.reduceAdd,Nat.reduceSub,Nat.reduceMul,Int.ofNat_lt,hlt,decide_true,hre j hlt,hw1,decide_eq_false hng,bE hlt (show ls.length≤9223372036854775807 by omega)];exact Nxt.same (Nat.le_refl _) hb rfl ⟨rfl,rfl⟩
 ·simp -dsimp -implicitDefEqProofs only[aw,ac,V.copy,V.lend,V.lend1,V.cells,V.boxable,over,al,ah,ae,ai,V.plain,Nat.reduceLeDiff,cond_true,cond_false,implies_true,eq_self,ne_eq,reduceIte,reduceCtorEq,Nat.reduceBEq,Nat.reduceLT,Nat.reduceEqDiff,Nat.reduceAdd,Nat.reduceSub,Nat.reduceMul,Int.ofNat_lt,hlt,decide_false];rw[List.take_of_length_le (show ls.length≤j by omega)];refine aq (Ce _ hs _) ?_;simp -dsimp -implicitDefEqProofs only[aw,ac,V.copy,V.lend,V.lend1,V.cells,V.boxable,over,al,ah,ae,ai,V.plain,Nat.reduceLeDiff,cond_true,cond_false,implies_true,eq_self,ne_eq,reduceIte,reduceCtorEq,Nat.reduceBEq,Nat.reduceLT,Nat.reduceEqDiff,Nat.reduceAdd,Nat.reduceSub,Nat.reduceMul,hrl]
  refine ce [6,25,26,27] (R:=fun(j:Nat) ρ σ''=>ρ=[(6,.own 9 1 ((ls.take j).flatten.map fun s=>[an s])),(25,.d (.sl rows)),(26,aW .i64 ls.length),(27,aW .i64 j)]∧σ''=σ') ls.length ⟨rfl,rfl⟩ ?_ _;rintro j ρ' σ'' hj ⟨rfl,rfl⟩;by_cases hlt:j<ls.length
  ·have ht:(ls.take (j+1)).flatten=(ls.take j).flatten++ls[j]:=by
    rw[List.take_add_one,List.getElem?_eq_getElem hlt,List.flatten_append];simp
   have h1:=hle (j+1);have h2:((ls.take j).flatten++ls[j]).length=((ls.take (j+1)).map List.length).sum:=by rw[←ht,List.length_flatten]
   rw[List.length_append]at h2;have hal:(ls[j].map fun s=>[an s]).all (fun r=>r.length==1)=true:=by rw[List.all_map];exact List.all_eq_true.2 fun _ _=>rfl
   simp -dsimp -implicitDefEqProofs only[aw,ac,V.copy,V.lend,V.lend1,V.cells,V.boxable,over,al,ah,ae,ai,V.plain,Nat.reduceLeDiff,cond_true,cond_false,implies_true,eq_self,ne_eq,reduceIte,reduceCtorEq,Nat.reduceBEq,Nat.reduceLT,Nat.reduceEqDiff,Nat.reduceAdd,Nat.reduceSub,Nat.reduceMul,Int.ofNat_lt,hlt,decide_true,hre j hlt,hal];refine dG (by first|omega|(simp only[List.length_map];omega)) ?_;simp -dsimp -implicitDefEqProofs only[aw,ac,V.copy,V.lend,V.lend1,V.cells,V.boxable,over,al,ah,ae,ai,V.plain,Nat.reduceLeDiff,cond_true,cond_false,implies_true,eq_self,ne_eq,reduceIte,reduceCtorEq,Nat.reduceBEq,Nat.reduceLT,Nat.reduceEqDiff,Nat.reduceAdd,Nat.reduceSub,Nat.reduceMul,bE hlt (show ls.length≤9223372036854775807 by omega)];refine⟨hlt,Nxt.same (Nat.le_refl _) hb rfl ⟨?_,rfl⟩⟩;rw[ht,List.map_append]
  ·simp -dsimp -implicitDefEqProofs only[aw,ac,V.copy,V.lend,V.lend1,V.cells,V.boxable,over,al,ah,ae,ai,V.plain,Nat.reduceLeDiff,cond_true,cond_false,implies_true,eq_self,ne_eq,reduceIte,reduceCtorEq,Nat.reduceBEq,Nat.reduceLT,Nat.reduceEqDiff,Nat.reduceAdd,Nat.reduceSub,Nat.reduceMul,Int.ofNat_lt,hlt,decide_false];rw[List.take_of_length_le (show ls.length≤j by omega)];first|exact am hb rfl rfl List.take_length ⟨rfl,rfl⟩|exact am hb rfl rfl List.take_left ⟨rfl,rfl⟩|(trace_state;fail "fin")
abbrev uC(l:List Int):List (List D):=l.map fun n=>[ao n]
theorem ET(l:List Nat)(hl:l.sum≤1000000)(hn:l.length≤1000000)(σ:List (List V)):Fun G 105 [.d (.sl (uC (l.map fun n:Nat=>(n:Int))))] σ (aG (.d (ao (l.sum:Nat))) σ):=by
 refine aD Tryz.func105 Nj rfl fun hb hw=>?_;unfold LT;simp -dsimp -implicitDefEqProofs only[aw,ac,V.copy,V.lend,V.lend1,V.cells,V.boxable,over,al,ah,ae,ai,V.plain,Nat.reduceLeDiff,cond_true,cond_false,implies_true,eq_self,ne_eq,reduceIte,reduceCtorEq,Nat.reduceBEq,Nat.reduceLT,Nat.reduceEqDiff,Nat.reduceAdd,Nat.reduceSub,Nat.reduceMul];refine ce [3,6,7,8] (R:=fun(j:Nat) ρ σ'=>ρ=[(3,aW .i64 ((l.take j).sum:Nat)),(6,.d (.sl (uC (l.map fun n:Nat=>(n:Int))))),(7,aW .i64 l.length),(8,aW .i64 j)]∧σ'=σ) l.length ⟨rfl,rfl⟩ ?_ _;rintro j ρ' σ' hj ⟨rfl,rfl⟩;by_cases hlt:j<l.length
 ·have ht:(l.take (j+1)).sum=(l.take j).sum+l[j]:=by rw[List.take_add_one,List.getElem?_eq_getElem hlt,List.sum_append];show _+(l[j]+0)=_;omega
  have hle:(l.take (j+1)).sum≤l.sum:=by
   conv=>rhs;rw[←List.take_append_drop (j+1) l]
   rw[List.sum_append];omega
  have hw1:IntKind.i64.wrap (((l.take j).sum:Nat)+(l[j]:Int))=((l.take (j+1)).sum:Nat):=by rw[df (by omega) (by omega),ht];omega
  simp -dsimp -implicitDefEqProofs only[aw,ac,V.copy,V.lend,V.lend1,V.cells,V.boxable,over,al,ah,ae,ai,V.plain,Nat.reduceLeDiff,cond_true,cond_false,implies_true,eq_self,ne_eq,reduceIte,reduceCtorEq,Nat.reduceBEq,Nat.reduceLT,Nat.reduceEqDiff,Nat.reduceAdd,Nat.reduceSub,Nat.reduceMul,Int.ofNat_lt,hlt,decide_true,List.getElem?_eq_getElem hlt,hw1,bE hlt (show l.length≤9223372036854775807 by omega)];exact Nxt.same (Nat.le_refl _) hb rfl ⟨rfl,rfl⟩
 ·simp -dsimp -implicitDefEqProofs only[aw,ac,V.copy,V.lend,V.lend1,V.cells,V.boxable,over,al,ah,ae,ai,V.plain,Nat.reduceLeDiff,cond_true,cond_false,implies_true,eq_self,ne_eq,reduceIte,reduceCtorEq,Nat.reduceBEq,Nat.reduceLT,Nat.reduceEqDiff,Nat.reduceAdd,Nat.reduceSub,Nat.reduceMul,Int.ofNat_lt,hlt,decide_false];rw[List.take_of_length_le (show l.length≤j by omega)];first|exact am hb rfl rfl List.take_length ⟨rfl,rfl⟩|exact am hb rfl rfl List.take_left ⟨rfl,rfl⟩|(trace_state;fail "fin")
def FB:List Int→Int
 | []=>0
 | a::r=>r.foldl max a
theorem EN(a:Int)(r:List Int)(hn:r.length≤1000000)(σ:List (List V)):Fun G 103 [.d (.sl (uC (a::r)))] σ (aG (.d (ao (FB (a::r)))) σ):=by
 refine aD Tryz.func103 NH rfl fun hb hw=>?_;unfold LE;have e0:iaV 1 (.d (.sl ([ao a]::List.map (fun n=>[ao n]) r))) (V.d (D.lit (Value.int IntKind.i64 0)))=some (.row [ao a] 0):=rfl;have l1:¬((r.length:Int)+1<1):=by omega
 simp -dsimp -implicitDefEqProofs only[aw,ac,V.copy,V.lend,V.lend1,V.cells,V.boxable,over,al,ah,ae,ai,V.plain,Nat.reduceLeDiff,cond_true,cond_false,implies_true,eq_self,ne_eq,reduceIte,reduceCtorEq,Nat.reduceBEq,Nat.reduceLT,Nat.reduceEqDiff,Nat.reduceAdd,Nat.reduceSub,Nat.reduceMul,e0,decide_eq_false l1,Int.natCast_add,Int.natCast_one,Int.cast_ofNat_Int];refine ce [0,3,4] (R:=fun(j:Nat) ρ σ'=>ρ=[(0,.d (.sl ([ao a]::List.map (fun n=>[ao n]) r))),(3,aW .i64 ((r.take j).foldl max a)),(4,aW .i64 ((j+1:Nat):Int))]∧σ'=σ) r.length ⟨rfl,rfl⟩ ?_ _;rintro j ρ' σ' hj ⟨rfl,rfl⟩;by_cases hlt:j<r.length
 ·have ht:(r.take (j+1)).foldl max a=max ((r.take j).foldl max a) r[j]:=by rw[List.take_add_one,List.getElem?_eq_getElem hlt,List.foldl_append];rfl
  have hlt':j+1<r.length+1:=by omega
  simp -dsimp -implicitDefEqProofs only[aw,ac,V.copy,V.lend,V.lend1,V.cells,V.boxable,over,al,ah,ae,ai,V.plain,Nat.reduceLeDiff,cond_true,cond_false,implies_true,eq_self,ne_eq,reduceIte,reduceCtorEq,Nat.reduceBEq,Nat.reduceLT,Nat.reduceEqDiff,Nat.reduceAdd,Nat.reduceSub,Nat.reduceMul,Int.ofNat_lt,hlt',decide_true,List.getElem?_eq_getElem hlt,←ht,if_true,bE hlt' (show r.length+1≤9223372036854775807 by omega)];exact⟨hlt,Nxt.same (Nat.le_refl _) hb rfl ⟨rfl,rfl⟩⟩
 ·have hlt':¬j+1<r.length+1:=by omega
  simp -dsimp -implicitDefEqProofs only[aw,ac,V.copy,V.lend,V.lend1,V.cells,V.boxable,over,al,ah,ae,ai,V.plain,Nat.reduceLeDiff,cond_true,cond_false,implies_true,eq_self,ne_eq,reduceIte,reduceCtorEq,Nat.reduceBEq,Nat.reduceLT,Nat.reduceEqDiff,Nat.reduceAdd,Nat.reduceSub,Nat.reduceMul,Int.ofNat_lt,hlt',decide_false];rw[List.take_of_length_le (show r.length≤j by omega)];first|exact am hb rfl rfl List.take_length ⟨rfl,rfl⟩|exact am hb rfl rfl List.take_left ⟨rfl,rfl⟩|(trace_state;fail "fin")
theorem EV(l:List Int)(h:l≠[])(hn:l.length≤1000000)(σ:List (List V)):Fun G 103 [.d (.sl (uC l))] σ (aG (.d (ao (FB l))) σ):=by
 cases l with
 | nil=>exact absurd rfl h
 | cons a r=>exact EN a r (by simp only[List.length_cons]at hn;omega) σ
theorem vd(s:Ts)(hs:bq s≤1000000)(σ:List (List V)):jx G 104 [vts s] 3 1 ((s.args.map fun a=>(tsz a:Int)).map fun n=>[ao n]) [] σ (aG (.d (ao (tsz s))) σ):=by
 have h1:=mJ s;have h2:=u6 s;have h3:=dC s;refine j6 Tryz.func104 N9 (by simp only[ax];rfl) fun hb hw=>?_;unfold KG;simp -dsimp -implicitDefEqProofs only[aw,ac,V.copy,V.lend,V.lend1,V.cells,V.boxable,over,al,ah,ae,ai,V.plain,Nat.reduceLeDiff,cond_true,cond_false,implies_true,eq_self,ne_eq,reduceIte,reduceCtorEq,Nat.reduceBEq,Nat.reduceLT,Nat.reduceEqDiff,Nat.reduceAdd,Nat.reduceSub,Nat.reduceMul,ax];have hc:=ET (s.args.map tsz) (by omega) (by rw[List.length_map];omega) (σ++[[.d (ao s.op),.d (ao s.lo),.d (ao s.hi),.d (ao s.ex.op),.d (ao s.ex.num),.d (an s.ex.name),.d (.sl (s.ex.args.map dex)),.d (an s.name),.d (.sl (s.args.map dts))]]);rw[List.map_map]at hc;refine aq hc ?_;have hw1:IntKind.i64.wrap (1+((s.args.map tsz).sum:Nat))=(tsz s:Int):=by rw[df (by omega) (by omega),h1];omega
 simp -dsimp -implicitDefEqProofs only[aw,ac,V.copy,V.lend,V.lend1,V.cells,V.boxable,over,al,ah,ae,ai,V.plain,Nat.reduceLeDiff,cond_true,cond_false,implies_true,eq_self,ne_eq,reduceIte,reduceCtorEq,Nat.reduceBEq,Nat.reduceLT,Nat.reduceEqDiff,Nat.reduceAdd,Nat.reduceSub,Nat.reduceMul,hw1];exact am hb rfl rfl List.take_left ⟨rfl,rfl⟩
theorem Bj(s:Ts)(hs:bq s≤1000000)(σ:List (List V)):Fun G 67 [vts s] σ (aG (.d (ao (tsz s))) σ):=by
 refine aD Tryz.func67 k67 (by simp only[ax];rfl) fun hb hw=>?_;unfold c67;simp -dsimp -implicitDefEqProofs only[aw,ac,V.copy,V.lend,V.lend1,V.cells,V.boxable,over,al,ah,ae,ai,V.plain,Nat.reduceLeDiff,cond_true,cond_false,implies_true,eq_self,ne_eq,reduceIte,reduceCtorEq,Nat.reduceBEq,Nat.reduceLT,Nat.reduceEqDiff,Nat.reduceAdd,Nat.reduceSub,Nat.reduceMul,ax];refine aq (by simpa only[ax]using rt (fun s=>(tsz s:Int)) 104 (fun s=>bq s≤1000000) (fun s h a ha=>by have:=di ha;omega) (fun s h=>h) (fun s h σ=>vd s h σ) s hs _) ?_;simp -dsimp -implicitDefEqProofs only[aw,ac,V.copy,V.lend,V.lend1,V.cells,V.boxable,over,al,ah,ae,ai,V.plain,Nat.reduceLeDiff,cond_true,cond_false,implies_true,eq_self,ne_eq,reduceIte,reduceCtorEq,Nat.reduceBEq,Nat.reduceLT,Nat.reduceEqDiff,Nat.reduceAdd,Nat.reduceSub,Nat.reduceMul]
 exact am hb rfl rfl List.take_left ⟨rfl,rfl⟩
theorem EC(l:List Ts):FB ((l.map fun a=>(tdp a:Int))++[0])=(jF l:Nat):=by
 have H:∀(l:List Ts) (m:Int),0≤m→((l.map fun a=>(tdp a:Int))++[0]).foldl max m=max m (jF l:Nat):=by
  intro l
  induction l with
  | nil=>intro m hm;simp only[List.map_nil,List.nil_append,List.foldl_cons,List.foldl_nil,jF];rfl
  | cons a r ih=>intro m hm;simp only[List.map_cons,List.cons_append,List.foldl_cons,jF];rw[ih _ (by omega)];omega
 cases l with
 | nil=>rfl
 | cons a r=>simp only[List.map_cons,List.cons_append,FB,jF];rw[H r _ (by omega)];omega
theorem tc(s:Ts)(hs:bq s≤1000000)(σ:List (List V)):jx G 102 [vts s] 3 1 ((s.args.map fun a=>(tdp a:Int)).map fun n=>[ao n]) [] σ (aG (.d (ao (tdp s))) σ):=by
 have h1:=rS s;have h2:=Hr s;have h3:=dC s;refine j6 Tryz.func102 Ns (by simp only[ax];rfl) fun hb hw=>?_;unfold JC;simp -dsimp -implicitDefEqProofs only[aw,ac,V.copy,V.lend,V.lend1,V.cells,V.boxable,over,al,ah,ae,ai,V.plain,Nat.reduceLeDiff,cond_true,cond_false,implies_true,eq_self,ne_eq,reduceIte,reduceCtorEq,Nat.reduceBEq,Nat.reduceLT,Nat.reduceEqDiff,Nat.reduceAdd,Nat.reduceSub,Nat.reduceMul,ax];refine dG (by first|omega|(simp only[List.length_map];omega)) ?_;simp -dsimp -implicitDefEqProofs only[aw,ac,V.copy,V.lend,V.lend1,V.cells,V.boxable,over,al,ah,ae,ai,V.plain,Nat.reduceLeDiff,cond_true,cond_false,implies_true,eq_self,ne_eq,reduceIte,reduceCtorEq,Nat.reduceBEq,Nat.reduceLT,Nat.reduceEqDiff,Nat.reduceAdd,Nat.reduceSub,Nat.reduceMul]
 have hc:=EV ((s.args.map fun a=>(tdp a:Int))++[0]) (by simp) (by simp only[List.length_append,List.length_map,List.length_cons,List.length_nil];omega) (σ++[[.d (ao s.op),.d (ao s.lo),.d (ao s.hi),.d (ao s.ex.op),.d (ao s.ex.num),.d (an s.ex.name),.d (.sl (s.ex.args.map dex)),.d (an s.name),.d (.sl (s.args.map dts))]]);rw[EC,uC,List.map_append]at hc;refine aq hc ?_;have hw1:IntKind.i64.wrap (1+((jF s.args:Nat):Int))=(tdp s:Int):=by rw[df (by omega) (by omega),h1];omega
 simp -dsimp -implicitDefEqProofs only[aw,ac,V.copy,V.lend,V.lend1,V.cells,V.boxable,over,al,ah,ae,ai,V.plain,Nat.reduceLeDiff,cond_true,cond_false,implies_true,eq_self,ne_eq,reduceIte,reduceCtorEq,Nat.reduceBEq,Nat.reduceLT,Nat.reduceEqDiff,Nat.reduceAdd,Nat.reduceSub,Nat.reduceMul,hw1];exact am hb rfl rfl List.take_left ⟨rfl,rfl⟩
theorem vK(s:Ts)(hs:bq s≤1000000)(σ:List (List V)):Fun G 66 [vts s] σ (aG (.d (ao (tdp s))) σ):=by
 refine aD Tryz.func66 k66 (by simp only[ax];rfl) fun hb hw=>?_;unfold c66;simp -dsimp -implicitDefEqProofs only[aw,ac,V.copy,V.lend,V.lend1,V.cells,V.boxable,over,al,ah,ae,ai,V.plain,Nat.reduceLeDiff,cond_true,cond_false,implies_true,eq_self,ne_eq,reduceIte,reduceCtorEq,Nat.reduceBEq,Nat.reduceLT,Nat.reduceEqDiff,Nat.reduceAdd,Nat.reduceSub,Nat.reduceMul,ax];refine aq (by simpa only[ax]using rt (fun s=>(tdp s:Int)) 102 (fun s=>bq s≤1000000) (fun s h a ha=>by have:=di ha;omega) (fun s h=>h) (fun s h σ=>tc s h σ) s hs _) ?_;simp -dsimp -implicitDefEqProofs only[aw,ac,V.copy,V.lend,V.lend1,V.cells,V.boxable,over,al,ah,ae,ai,V.plain,Nat.reduceLeDiff,cond_true,cond_false,implies_true,eq_self,ne_eq,reduceIte,reduceCtorEq,Nat.reduceBEq,Nat.reduceLT,Nat.reduceEqDiff,Nat.reduceAdd,Nat.reduceSub,Nat.reduceMul]
 exact am hb rfl rfl List.take_left ⟨rfl,rfl⟩
end Go.Proofs.YthekkgfmagliiaaGreatDoor
