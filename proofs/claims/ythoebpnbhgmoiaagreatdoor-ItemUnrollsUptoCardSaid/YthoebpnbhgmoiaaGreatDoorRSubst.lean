import Derived.Test.YthoebpnbhgmoiaaGreatDoorBrief
import Derived.Test.YthoebpnbhgmoiaaGreatDoorK
set_option linter.unusedVariables false
set_option linter.unusedSimpArgs false
set_option linter.unusedSectionVars false
namespace Go.Proofs.YthoebpnbhgmoiaaGreatDoor
open Go.RowKit
theorem Ex.ind3{P:Ex→Prop}(h:∀e:Ex,(∀a,a∈e.args→P a)→P e):∀e,P e:=Ex.ind fun o n s l ih=>h (.mk o n s l) ih
theorem subE_eq(nm:ByteArray)(b e:Ex):subE nm b e=if(e.op==2&&decide (e.name=nm))then b else .mk e.op e.num e.name (e.args.map (subE nm b)):=by
 cases e;rw[subE,subsE_map];rfl
theorem args_size{e a:Ex}(h:a∈e.args):esize a≤esize e:=by
 cases e with
 | mk o n s l=>
 have H:∀(l:List Ex),a∈l→esize a≤esizes l:=by
  intro l
  induction l with
  | nil=>intro h;cases h
  | cons x r ih=>
   intro h;simp only[esizes];rcases List.mem_cons.1 h with rfl|h
   ·omega
   ·have:=ih h;omega
 have:=H l h;simp only[esize];omega
theorem rsubst_fun(nm:ByteArray)(b:Ex)(e:Ex):esize e≤1000000→∀(σ:List (List V)),Fun G 122 [vex e,.d (dstr nm),vex b] σ (RetV (vex (subE nm b e)) σ):=by
 induction e using Ex.ind3 with
 | h e ih=>
 intro hs σ;refine fun_code Tryz.func122 k122 (by simp only[vex_eq];rfl) fun hb hw=>?_;have h0:=hw 0 (by simp);simp only[List.getElem_cons_zero,vex_eq]at h0;have hm:=wf_len (wf_cell h0 3 (by simp));simp only[List.length_map]at hm;have hq:=subE_eq nm b e
 have hln:e.args.length≤1000000:=by
  have:=len_le e.args;have h2:esizes e.args≤esize e:=by cases e;simp only[esize,Ex.args];omega
  omega
 delta c122 oM oV kI kS kT kF;simp -dsimp -implicitDefEqProofs only[aw,slots0,V.copy,V.cells,V.boxable,Nat.reduceLeDiff,eq_self,reduceIte,reduceCtorEq,Nat.reduceBEq,Nat.reduceLT,Nat.reduceEqDiff,Nat.reduceAdd,vex_eq];refine iteT_intro (fun h1=>?a) (fun h1=>?b);case' a=>(simp -dsimp -implicitDefEqProofs only[aw,V.copy,Nat.reduceLeDiff,cond_true,eq_self,reduceIte,Nat.reduceBEq,Nat.reduceLT,Nat.reduceEqDiff,Nat.reduceAdd,vex_eq];refine iteT_intro (fun h2=>?c) (fun h2=>?d))
 case c=>(simp -dsimp -implicitDefEqProofs only[aw,V.copy,V.cells,V.boxable,over,Nat.reduceLeDiff,eq_self,reduceIte,Nat.reduceBEq,Nat.reduceLT,Nat.reduceEqDiff,Nat.reduceAdd,vex_eq];exact fin_ret (v:=vex b) hb (by rw[vex_eq];simp[rs122,resV,res1,aw,V.copy,V.lend,V.lend1,eq_self,reduceIte,Nat.reduceAdd]) (by rw[vex_eq];rfl) List.take_left ⟨by rw[hq,if_pos (by simp_all),vex_eq],rfl⟩)
 all_goals (have hb2:(e.op==2&&decide (e.name=nm))=false:=by simp_all)
 all_goals (rw[hb2,if_neg (by simp)]at hq)
 all_goals simp -dsimp -implicitDefEqProofs only[aw,V.copy,V.cells,V.boxable,over,bldV,Nat.reduceLeDiff,eq_self,reduceIte,Nat.reduceBEq,Nat.reduceLT,Nat.reduceEqDiff,Nat.reduceAdd,vex_eq]
 all_goals (refine awp_forU (R:=fun(j:Nat) ρ σ'=>ρ=[(1,.d (dstr nm)),(3,.ptr σ.length 0),(5,.ptr (σ.length+1) 0),(6,.ptr (σ.length+2) 0),(7,.ptr (σ.length+3) 0),(8,vint .i64 j)]∧σ'=σ++[[.d (dint e.op),.d (dint e.num),.d (dstr e.name),.d (.sl (e.args.map dex))],[.d (dint b.op),.d (dint b.num),.d (dstr b.name),.d (.sl (b.args.map dex))],[.d (dint 0),.d (dint 0),.d (dstr ⟨#[]⟩),.nil],[.d (dint e.op),.d (dint e.num),.d (dstr e.name),.own 38 4 ((e.args.take j).map fun a=>dex (subE nm b a))]]) e.args.length (.step (i:=σ.length+3) (off:=3) (cs:=[.d (dint e.op),.d (dint e.num),.d (dstr e.name),.nil]) 38 4 (by simp only[box_at,List.getElem?_cons_succ,List.getElem?_cons_zero]) rfl (.refl _)) ⟨rfl,by simp[]⟩ ?_ _)
 all_goals (rintro j ρ' σ' hj ⟨rfl,rfl⟩)
 all_goals (by_cases hlt:j<e.args.length)
 case pos=>
  simp -dsimp -implicitDefEqProofs only[aw,V.copy,Nat.reduceLeDiff,eq_self,reduceIte,Nat.reduceBEq,Nat.reduceLT,Nat.reduceEqDiff,Nat.reduceAdd,Nat.reduceSub,Int.ofNat_lt,hlt,decide_true,List.getElem?_eq_getElem hlt];simp -dsimp -implicitDefEqProofs only[aw,V.copy,V.lend,V.lend1,Nat.reduceLeDiff,eq_self,reduceIte,Nat.reduceLT,Nat.reduceEqDiff,Nat.reduceAdd,Nat.reduceSub,dex_eq e.args[j]];have hsz:=args_size (List.getElem_mem hlt);refine calm_ret (v:=vex (subE nm b e.args[j])) (by simpa only[vex_eq]using ih _ (List.getElem_mem hlt) (by omega) _) ?_;simp -dsimp -implicitDefEqProofs only[aw,V.lend,V.lend1,eq_self,reduceIte,Nat.reduceLT,Nat.reduceEqDiff,Nat.reduceSub,vex_eq];refine onT_intro ?_ ?_
  ·refine onT_intro (calm_ret (v:=vex (subE nm b e.args[j])) (by simpa only[vex_eq]using ih _ (List.getElem_mem hlt) (by omega) _) ?_) ?_
   ·simp -dsimp -implicitDefEqProofs only[aw,eq_self,reduceIte,Nat.reduceLT,Nat.reduceEqDiff,vex_eq]
   ·simp -dsimp -implicitDefEqProofs only[aw]
  simp -dsimp -implicitDefEqProofs only[aw,V.copy,V.cells,rowsOf,plains,V.plain,eq_self,reduceIte,Nat.reduceBEq,Nat.reduceLT,Nat.reduceEqDiff,Nat.reduceAdd];refine onT_intro (by rw[List.length_take];omega) ?_;simp -dsimp -implicitDefEqProofs only[aw,V.copy,over,eq_self,reduceIte,Nat.reduceBEq,Nat.reduceLT,Nat.reduceEqDiff,Nat.reduceAdd,wrap_nat hlt hm];refine⟨hlt,Nxt.same (by simp) (boxesBelow_app hb rfl) ?_ ?_⟩
  ·simp[slotsBelow,V.under]
  ·refine⟨rfl,?_⟩;have ht:e.args.take (j+1)=e.args.take j++[e.args[j]]:=by rw[List.take_add_one,List.getElem?_eq_getElem hlt];rfl
   rw[ht,List.map_append];simp only[List.map_cons,List.map_nil,dex_eq (subE nm b e.args[j])]
 case neg=>
  simp -dsimp -implicitDefEqProofs only[aw,V.copy,V.cells,V.boxable,over,Nat.reduceLeDiff,eq_self,reduceIte,Nat.reduceBEq,Nat.reduceLT,Nat.reduceEqDiff,Nat.reduceAdd,Int.ofNat_lt,hlt,decide_false];rw[List.take_of_length_le (by omega)];exact fin_ret (v:=vex (.mk e.op e.num e.name (e.args.map (subE nm b)))) hb (by rw[vex_eq];simp[rs122,resV,res1,Ex.op,Ex.num,Ex.name,Ex.args,Function.comp_def,aw,V.copy,V.lend,V.lend1,eq_self,reduceIte,Nat.reduceLT,Nat.reduceAdd]) (by rw[vex_eq];rfl) List.take_left ⟨by rw[hq],rfl⟩
 case pos=>
  simp -dsimp -implicitDefEqProofs only[aw,V.copy,Nat.reduceLeDiff,eq_self,reduceIte,Nat.reduceBEq,Nat.reduceLT,Nat.reduceEqDiff,Nat.reduceAdd,Nat.reduceSub,Int.ofNat_lt,hlt,decide_true,List.getElem?_eq_getElem hlt];simp -dsimp -implicitDefEqProofs only[aw,V.copy,V.lend,V.lend1,Nat.reduceLeDiff,eq_self,reduceIte,Nat.reduceLT,Nat.reduceEqDiff,Nat.reduceAdd,Nat.reduceSub,dex_eq e.args[j]];have hsz:=args_size (List.getElem_mem hlt);refine calm_ret (v:=vex (subE nm b e.args[j])) (by simpa only[vex_eq]using ih _ (List.getElem_mem hlt) (by omega) _) ?_;simp -dsimp -implicitDefEqProofs only[aw,V.lend,V.lend1,eq_self,reduceIte,Nat.reduceLT,Nat.reduceEqDiff,Nat.reduceSub,vex_eq];refine onT_intro ?_ ?_
  ·refine onT_intro (calm_ret (v:=vex (subE nm b e.args[j])) (by simpa only[vex_eq]using ih _ (List.getElem_mem hlt) (by omega) _) ?_) ?_
   ·simp -dsimp -implicitDefEqProofs only[aw,eq_self,reduceIte,Nat.reduceLT,Nat.reduceEqDiff,vex_eq]
   ·simp -dsimp -implicitDefEqProofs only[aw]
  simp -dsimp -implicitDefEqProofs only[aw,V.copy,V.cells,rowsOf,plains,V.plain,eq_self,reduceIte,Nat.reduceBEq,Nat.reduceLT,Nat.reduceEqDiff,Nat.reduceAdd];refine onT_intro (by rw[List.length_take];omega) ?_;simp -dsimp -implicitDefEqProofs only[aw,V.copy,over,eq_self,reduceIte,Nat.reduceBEq,Nat.reduceLT,Nat.reduceEqDiff,Nat.reduceAdd,wrap_nat hlt hm];refine⟨hlt,Nxt.same (by simp) (boxesBelow_app hb rfl) ?_ ?_⟩
  ·simp[slotsBelow,V.under]
  ·refine⟨rfl,?_⟩;have ht:e.args.take (j+1)=e.args.take j++[e.args[j]]:=by rw[List.take_add_one,List.getElem?_eq_getElem hlt];rfl
   rw[ht,List.map_append];simp only[List.map_cons,List.map_nil,dex_eq (subE nm b e.args[j])]
 case neg=>
  simp -dsimp -implicitDefEqProofs only[aw,V.copy,V.cells,V.boxable,over,Nat.reduceLeDiff,eq_self,reduceIte,Nat.reduceBEq,Nat.reduceLT,Nat.reduceEqDiff,Nat.reduceAdd,Int.ofNat_lt,hlt,decide_false];rw[List.take_of_length_le (by omega)];exact fin_ret (v:=vex (.mk e.op e.num e.name (e.args.map (subE nm b)))) hb (by rw[vex_eq];simp[rs122,resV,res1,Ex.op,Ex.num,Ex.name,Ex.args,Function.comp_def,aw,V.copy,V.lend,V.lend1,eq_self,reduceIte,Nat.reduceLT,Nat.reduceAdd]) (by rw[vex_eq];rfl) List.take_left ⟨by rw[hq],rfl⟩
end Go.Proofs.YthoebpnbhgmoiaaGreatDoor
