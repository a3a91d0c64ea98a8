import Derived.Test.YtcbahpllcfbkmaaGreatDoorIr1
set_option linter.unusedVariables false
set_option linter.unusedSimpArgs false
set_option linter.unusedSectionVars false
namespace Go.Proofs.YtcbahpllcfbkmaaGreatDoor
open Go.RowKit
set_option maxHeartbeats 4000000 in
theorem wrong_fun(x:It)(d:Nat)(hbig:ibig x≤1200000)(hd:d≤1200000)(σ:List (List V)):Fun G 60 [vit x,.d (dint d)] σ (RetV (.d (dint (shapeE x d))) σ):=by
 have hb0:=ibig_eq x;refine fun_code Tryz.func60 k60 (by simp only[vit_eq];rfl) fun hb hw=>?_;unfold c60;by_cases q1:x.kind<1
 ·have hs:shapeE x d=1:=by unfold shapeE;rw[if_pos (.inl (by omega))]
  rw[hs];simp -dsimp -implicitDefEqProofs only[aw,slots0,V.copy,V.cells,V.boxable,Nat.reduceLeDiff,eq_self,reduceIte,reduceCtorEq,Nat.reduceBEq,Nat.reduceLT,Nat.reduceEqDiff,Nat.reduceAdd,vit_eq,decide_eq_true q1];first|exact fin_ret hb rfl rfl List.take_length ⟨rfl,rfl⟩|exact fin_ret hb rfl rfl List.take_left ⟨rfl,rfl⟩|(trace_state;fail "fin")
 by_cases q6:6<x.kind
 ·have hs:shapeE x d=1:=by unfold shapeE;rw[if_pos (.inl (by omega))]
  rw[hs];simp -dsimp -implicitDefEqProofs only[aw,slots0,V.copy,V.cells,V.boxable,Nat.reduceLeDiff,cond_false,eq_self,reduceIte,reduceCtorEq,Nat.reduceBEq,Nat.reduceLT,Nat.reduceEqDiff,Nat.reduceAdd,vit_eq,decide_eq_false q1,decide_eq_true q6];first|exact fin_ret hb rfl rfl List.take_length ⟨rfl,rfl⟩|exact fin_ret hb rfl rfl List.take_left ⟨rfl,rfl⟩|(trace_state;fail "fin")
 have hk:1≤x.kind∧x.kind≤6:=by omega
 have hun:=fun σ=>unused_fun x hbig hk σ;simp only[vit_eq]at hun;simp -dsimp -implicitDefEqProofs only[aw,slots0,V.copy,V.lend,V.lend1,V.cells,V.boxable,Nat.reduceLeDiff,cond_false,eq_self,reduceIte,reduceCtorEq,Nat.reduceBEq,Nat.reduceLT,Nat.reduceEqDiff,Nat.reduceAdd,vit_eq,decide_eq_false q1,decide_eq_false q6];refine fun_ret (hun _) ?_;cases hp:plainB x with
 | false=>
  have hs:shapeE x d=1:=by unfold shapeE;rw[if_pos (.inr (.inl hp))]
  rw[hs];simp -dsimp -implicitDefEqProofs only[aw,V.copy,cond_false,eq_self,reduceIte,Nat.reduceBEq,Nat.reduceLT,Nat.reduceEqDiff];first|exact fin_ret hb rfl rfl List.take_length ⟨rfl,rfl⟩|exact fin_ret hb rfl rfl List.take_left ⟨rfl,rfl⟩|(trace_state;fail "fin")
 | true=>
 by_cases h4:4<d
 ·have hs:shapeE x d=1:=by unfold shapeE;rw[if_pos (.inr (.inr (.inl h4)))]
  have h4':(4:Int)<(d:Int):=by omega
  rw[hs];simp -dsimp -implicitDefEqProofs only[aw,V.copy,cond_false,eq_self,reduceIte,Nat.reduceBEq,Nat.reduceLT,Nat.reduceEqDiff,decide_eq_true h4'];first|exact fin_ret hb rfl rfl List.take_length ⟨rfl,rfl⟩|exact fin_ret hb rfl rfl List.take_left ⟨rfl,rfl⟩|(trace_state;fail "fin")
 have h4':¬(4:Int)<(d:Int):=by omega
 by_cases hdd:0<d∧(x.kind=3∨x.kind=6)
 ·have hs:shapeE x d=1:=by unfold shapeE;rw[if_pos (.inr (.inr (.inr hdd)))]
  have h0:(0:Int)<(d:Int):=by omega
  rw[hs];rcases hdd.2 with k|k
  all_goals
   simp -dsimp -implicitDefEqProofs only[aw,V.copy,Nat.reduceLeDiff,cond_true,cond_false,eq_self,reduceIte,Nat.reduceBEq,Nat.reduceLT,Nat.reduceEqDiff,Nat.reduceAdd,decide_eq_false h4',decide_eq_true h0,k,Int.reduceEq,decide_true,decide_false];first|exact fin_ret hb rfl rfl List.take_length ⟨rfl,rfl⟩|exact fin_ret hb rfl rfl List.take_left ⟨rfl,rfl⟩|(trace_state;fail "fin")
 have hs:shapeE x d=if x.kind=3 then distE x else if x.kind=6 then solveE x else if x.kind=5 then eachE x else validE x.ex:=by
  unfold shapeE;rw[if_neg];rintro(h|h|h|h)
  ·exact h hk
  ·rw[hp]at h;cases h
  ·exact h4 h
  ·exact hdd h
 rw[hs];have hv:=fun σ=>fun_rvalid x.ex (by omega) (by have:=depth_le x.ex;omega) σ;simp only[vex_eq]at hv;have hds:=fun σ=>dist_fun x hbig σ;simp only[vit_eq]at hds;by_cases k3:x.kind=3
 ·have h0:¬(0:Int)<(d:Int):=by have:¬0<d:=fun h=>hdd ⟨h,.inl k3⟩;omega
  rw[if_pos k3];rw[k3]at hds;simp -dsimp -implicitDefEqProofs only[aw,V.copy,V.lend,V.lend1,Nat.reduceLeDiff,cond_false,eq_self,reduceIte,Nat.reduceBEq,Nat.reduceLT,Nat.reduceEqDiff,Nat.reduceAdd,decide_eq_false h4',decide_eq_false h0,k3,decide_true];refine fun_ret (hds _) ?_;simp -dsimp -implicitDefEqProofs only[aw,V.copy,eq_self,reduceIte,Nat.reduceBEq,Nat.reduceLT,Nat.reduceEqDiff];first|exact fin_ret hb rfl rfl List.take_length ⟨rfl,rfl⟩|exact fin_ret hb rfl rfl List.take_left ⟨rfl,rfl⟩|(trace_state;fail "fin")
 by_cases k6:x.kind=6
 ·have h0:¬(0:Int)<(d:Int):=by have:¬0<d:=fun h=>hdd ⟨h,.inr k6⟩;omega
  rw[if_neg k3,if_pos k6];have hvb:=fun σ=>vars_fun x.bef (by omega) σ;have hva:=fun σ=>vars_fun x.aft (by omega) σ;simp only[dstrs]at hvb hva;have hsol:solveE x=if x.bef=[]∨x.aft=[]then 1 else if(x.bef.all isVarB&&x.aft.all isVarB)=true then 0 else 7:=by unfold solveE;rw[List.all_append]
  rw[hsol];by_cases hB:x.bef=[]
  ·have e:decide (((x.bef.length:Nat):Int)=0)=true:=by simp[hB]
   rw[if_pos (.inl hB)];simp -dsimp -implicitDefEqProofs only[aw,V.copy,Nat.reduceLeDiff,cond_false,eq_self,reduceIte,Nat.reduceBEq,Nat.reduceLT,Nat.reduceEqDiff,Nat.reduceAdd,decide_eq_false h4',decide_eq_false h0,k6,Int.reduceEq,decide_true,decide_false,e];first|exact fin_ret hb rfl rfl List.take_length ⟨rfl,rfl⟩|exact fin_ret hb rfl rfl List.take_left ⟨rfl,rfl⟩|(trace_state;fail "fin")
  have eB:decide (((x.bef.length:Nat):Int)=0)=false:=by have:=List.length_pos_iff.2 hB;simp;omega
  by_cases hA:x.aft=[]
  ·have e:decide (((x.aft.length:Nat):Int)=0)=true:=by simp[hA]
   rw[if_pos (.inr hA)];simp -dsimp -implicitDefEqProofs only[aw,V.copy,Nat.reduceLeDiff,cond_false,eq_self,reduceIte,Nat.reduceBEq,Nat.reduceLT,Nat.reduceEqDiff,Nat.reduceAdd,decide_eq_false h4',decide_eq_false h0,k6,Int.reduceEq,decide_true,decide_false,eB,e];first|exact fin_ret hb rfl rfl List.take_length ⟨rfl,rfl⟩|exact fin_ret hb rfl rfl List.take_left ⟨rfl,rfl⟩|(trace_state;fail "fin")
  have eA:decide (((x.aft.length:Nat):Int)=0)=false:=by have:=List.length_pos_iff.2 hA;simp;omega
  rw[if_neg (fun h=>h.elim hB hA)];simp -dsimp -implicitDefEqProofs only[aw,V.copy,V.lend,Nat.reduceLeDiff,cond_false,eq_self,reduceIte,Nat.reduceBEq,Nat.reduceLT,Nat.reduceEqDiff,Nat.reduceAdd,decide_eq_false h4',decide_eq_false h0,k6,Int.reduceEq,decide_true,decide_false,eB,eA];refine fun_ret (hvb _) ?_;cases h1:x.bef.all isVarB with
  | false=>
   rw[Bool.false_and,if_neg Bool.false_ne_true];simp -dsimp -implicitDefEqProofs only[aw,V.copy,eq_self,reduceIte,Nat.reduceBEq,Nat.reduceLT,Nat.reduceEqDiff];first|exact fin_ret hb rfl rfl List.take_length ⟨rfl,rfl⟩|exact fin_ret hb rfl rfl List.take_left ⟨rfl,rfl⟩|(trace_state;fail "fin")
  | true=>
   simp -dsimp -implicitDefEqProofs only[aw,V.copy,V.lend,Nat.reduceLeDiff,eq_self,reduceIte,Nat.reduceLT,Nat.reduceEqDiff,Nat.reduceAdd];refine fun_ret (hva _) ?_;cases h2:x.aft.all isVarB with
   | false=>
    rw[Bool.true_and,if_neg Bool.false_ne_true];simp -dsimp -implicitDefEqProofs only[aw,V.copy,cond_false,eq_self,reduceIte,Nat.reduceBEq,Nat.reduceLT,Nat.reduceEqDiff];first|exact fin_ret hb rfl rfl List.take_length ⟨rfl,rfl⟩|exact fin_ret hb rfl rfl List.take_left ⟨rfl,rfl⟩|(trace_state;fail "fin")
   | true=>
    rw[Bool.true_and,if_pos rfl];simp -dsimp -implicitDefEqProofs only[aw,V.copy,cond_false,eq_self,reduceIte,Nat.reduceBEq,Nat.reduceLT,Nat.reduceEqDiff];first|exact fin_ret hb rfl rfl List.take_length ⟨rfl,rfl⟩|exact fin_ret hb rfl rfl List.take_left ⟨rfl,rfl⟩|(trace_state;fail "fin")
 rw[if_neg k3,if_neg k6];by_cases k5:x.kind=5
 ·rw[if_pos k5];unfold eachE;by_cases h0:(0:Int)<(d:Int)
  all_goals
   simp -dsimp -implicitDefEqProofs only[aw,V.copy,V.lend,Nat.reduceLeDiff,cond_true,cond_false,eq_self,reduceIte,Nat.reduceBEq,Nat.reduceLT,Nat.reduceEqDiff,Nat.reduceAdd,decide_eq_false h4',h0,k5,Int.reduceEq,decide_true,decide_false];refine fun_ret (fun_isnm8 x.name _) ?_;cases hn:nameB x.name with
   | false=>
    rw[if_neg (by simp)];simp -dsimp -implicitDefEqProofs only[aw,V.copy,eq_self,reduceIte,Nat.reduceBEq,Nat.reduceLT,Nat.reduceEqDiff];first|exact fin_ret hb rfl rfl List.take_length ⟨rfl,rfl⟩|exact fin_ret hb rfl rfl List.take_left ⟨rfl,rfl⟩|(trace_state;fail "fin")
   | true=>
    simp -dsimp -implicitDefEqProofs only[aw,V.copy,V.lend,Nat.reduceLeDiff,eq_self,reduceIte,Nat.reduceLT,Nat.reduceEqDiff,Nat.reduceAdd];refine fun_ret (fun_isnm8 x.idx _) ?_;cases hx:nameB x.idx with
    | false=>
     rw[if_neg (by simp)];simp -dsimp -implicitDefEqProofs only[aw,V.copy,cond_false,eq_self,reduceIte,Nat.reduceBEq,Nat.reduceLT,Nat.reduceEqDiff];first|exact fin_ret hb rfl rfl List.take_length ⟨rfl,rfl⟩|exact fin_ret hb rfl rfl List.take_left ⟨rfl,rfl⟩|(trace_state;fail "fin")
    | true=>
     rw[if_pos ⟨rfl,rfl⟩];simp -dsimp -implicitDefEqProofs only[aw,V.copy,cond_false,eq_self,reduceIte,Nat.reduceBEq,Nat.reduceLT,Nat.reduceEqDiff];first|exact fin_ret hb rfl rfl List.take_length ⟨rfl,rfl⟩|exact fin_ret hb rfl rfl List.take_left ⟨rfl,rfl⟩|(trace_state;fail "fin")
 rw[if_neg k5];by_cases h0:(0:Int)<(d:Int)
 all_goals
  simp -dsimp -implicitDefEqProofs only[aw,V.copy,V.lend,V.lend1,Nat.reduceLeDiff,cond_true,cond_false,eq_self,reduceIte,Nat.reduceBEq,Nat.reduceLT,Nat.reduceEqDiff,Nat.reduceAdd,decide_eq_false h4',h0,decide_eq_false k3,decide_eq_false k5,decide_eq_false k6,decide_true,decide_false];refine fun_ret (hv _) ?_;simp -dsimp -implicitDefEqProofs only[aw,V.copy,eq_self,reduceIte,Nat.reduceBEq,Nat.reduceLT,Nat.reduceEqDiff];first|exact fin_ret hb rfl rfl List.take_length ⟨rfl,rfl⟩|exact fin_ret hb rfl rfl List.take_left ⟨rfl,rfl⟩|(trace_state;fail "fin")
set_option maxHeartbeats 2000000 in
theorem rvalid_list:∀l:List It,ibigs l≤1200000→∀(d:Nat),d+ibigs l≤1200000→∀σ,Fun G 41 [.d (ditl l),.d (dint d)] σ (RetV (.d (dint (rvl l d))) σ):=by
 refine its_ind2 fun l ih hs d hd σ=>?_;have hln:=ibigs_len l;refine fun_code Tryz.func41 k41 rfl fun hb hw=>?_;unfold c41;simp -dsimp -implicitDefEqProofs only[aw,slots0,V.copy,eq_self,reduceIte,reduceCtorEq,Nat.reduceBEq,Nat.reduceLT,Nat.reduceEqDiff];refine awp_for (R:=fun(j:Nat) ρ σ'=>ρ=[(0,.d (ditl l)),(1,.d (dint d)),(5,vint .i64 j)]∧σ'=σ∧rvl l d=rvl (l.drop j) d) l.length ⟨rfl,rfl,rfl⟩ ?_ _;rintro j ρ' σ' hj ⟨rfl,rfl,hr⟩;by_cases hlt:j<l.length
 ·rw[List.drop_eq_getElem_cons hlt,rvl,rv1_eq]at hr;obtain⟨i1,i2⟩:=ih _ (List.getElem_mem hlt);have hm:=ibigs_mem (List.getElem_mem hlt);have hxx:l[j]? = some l[j]:=List.getElem?_eq_getElem hlt;generalize l[j]=x at hr i1 i2 hm hxx;have hbx:=ibig_eq x;have hwr:=fun σ=>wrong_fun x d (by omega) (by omega) σ;have h1:=fun σ=>i1 (by omega) (d+1) (by omega) σ;have h2:=fun σ=>i2 (by omega) (d+1) (by omega) σ;have w1:IntKind.i64.wrap ((d:Int)+1)=((d+1:Nat):Int):=by rw[wrap_i64 (by omega) (by omega)];omega
  have wj:=wrap_nat hlt (show l.length≤9223372036854775807 by omega);simp only[vit_eq]at hwr;simp -dsimp -implicitDefEqProofs only[aw,V.copy,V.lend,V.lend1,Nat.reduceLeDiff,eq_self,reduceIte,reduceCtorEq,Nat.reduceBEq,Nat.reduceLT,Nat.reduceEqDiff,Nat.reduceAdd,Int.ofNat_lt,hlt,decide_true,hxx,dit_eq x];refine fun_ret (hwr _) ?_;by_cases s1:shapeE x d=0
  case neg=>
   rw[if_neg s1,if_neg s1]at hr;rw[hr];simp -dsimp -implicitDefEqProofs only[aw,V.copy,eq_self,reduceIte,reduceCtorEq,Nat.reduceBEq,Nat.reduceLT,Nat.reduceEqDiff,decide_eq_false s1];first|exact fin_ret hb rfl rfl List.take_length ⟨rfl,rfl⟩|exact fin_ret hb rfl rfl List.take_left ⟨rfl,rfl⟩|(trace_state;fail "fin")
  rw[if_pos s1]at hr;simp -dsimp -implicitDefEqProofs only[aw,V.copy,V.lend,Nat.reduceLeDiff,eq_self,reduceIte,reduceCtorEq,Nat.reduceBEq,Nat.reduceLT,Nat.reduceEqDiff,Nat.reduceAdd,s1,decide_true,hxx,dit_eq x,w1];refine fun_ret (h1 _) ?_;by_cases s2:rvl x.items (d+1)=0
  case neg=>
   rw[if_neg s2,if_neg s2]at hr;rw[hr];simp -dsimp -implicitDefEqProofs only[aw,V.copy,eq_self,reduceIte,reduceCtorEq,Nat.reduceBEq,Nat.reduceLT,Nat.reduceEqDiff,decide_eq_false s2];first|exact fin_ret hb rfl rfl List.take_length ⟨rfl,rfl⟩|exact fin_ret hb rfl rfl List.take_left ⟨rfl,rfl⟩|(trace_state;fail "fin")
  rw[if_pos s2]at hr;simp -dsimp -implicitDefEqProofs only[aw,V.copy,V.lend,Nat.reduceLeDiff,eq_self,reduceIte,reduceCtorEq,Nat.reduceBEq,Nat.reduceLT,Nat.reduceEqDiff,Nat.reduceAdd,s2,decide_true,hxx,dit_eq x,w1];refine fun_ret (h2 _) ?_;by_cases s3:rvl x.els (d+1)=0
  case neg=>
   rw[if_neg s3]at hr;rw[hr];simp -dsimp -implicitDefEqProofs only[aw,V.copy,eq_self,reduceIte,reduceCtorEq,Nat.reduceBEq,Nat.reduceLT,Nat.reduceEqDiff,decide_eq_false s3];first|exact fin_ret hb rfl rfl List.take_length ⟨rfl,rfl⟩|exact fin_ret hb rfl rfl List.take_left ⟨rfl,rfl⟩|(trace_state;fail "fin")
  rw[if_pos s3]at hr;simp -dsimp -implicitDefEqProofs only[aw,V.copy,eq_self,reduceIte,reduceCtorEq,Nat.reduceBEq,Nat.reduceLT,Nat.reduceEqDiff,s3,decide_true,wj];exact⟨hlt,Nxt.same (Nat.le_refl _) hb (by simp[slotsBelow,V.under]) ⟨rfl,rfl,hr⟩⟩
 ·rw[List.drop_eq_nil_of_le (by omega),rvl]at hr;rw[hr];simp -dsimp -implicitDefEqProofs only[aw,V.copy,eq_self,reduceIte,reduceCtorEq,Nat.reduceBEq,Nat.reduceLT,Nat.reduceEqDiff,Int.ofNat_lt,hlt,decide_false];first|exact fin_ret hb rfl rfl List.take_length ⟨rfl,rfl⟩|exact fin_ret hb rfl rfl List.take_left ⟨rfl,rfl⟩|(trace_state;fail "fin")
theorem rvalid_item(l:List It)(hl:ibigs l≤1100000)(σ:List (List V)):Fun G 20 [.d (ditl l)] σ (RetV (.d (dint (validI l))) σ):=by
 refine fun_code Tryz.func20 k20 rfl fun hb hw=>?_;unfold c20 validI;simp -dsimp -implicitDefEqProofs only[aw,slots0,V.copy,V.lend,eq_self,reduceIte,reduceCtorEq,Nat.reduceBEq,Nat.reduceLT];refine fun_ret (risize_fun l (by have:=isz_big l;omega) _) ?_;by_cases h:64<iszs l
 ·have h':(64:Int)<(iszs l:Int):=by omega
  rw[if_pos h];simp -dsimp -implicitDefEqProofs only[aw,V.copy,V.lend,eq_self,reduceIte,reduceCtorEq,Nat.reduceBEq,Nat.reduceLT,Nat.reduceEqDiff,decide_eq_true h'];first|exact fin_ret hb rfl rfl List.take_length ⟨rfl,rfl⟩|exact fin_ret hb rfl rfl List.take_left ⟨rfl,rfl⟩|(trace_state;fail "fin")
 ·have h':¬(64:Int)<(iszs l:Int):=by omega
  rw[if_neg h];simp -dsimp -implicitDefEqProofs only[aw,V.copy,V.lend,eq_self,reduceIte,reduceCtorEq,Nat.reduceBEq,Nat.reduceLT,Nat.reduceEqDiff,decide_eq_false h'];refine fun_ret (rvalid_list l (by omega) 0 (by omega) _) ?_;simp -dsimp -implicitDefEqProofs only[aw,V.copy,eq_self,reduceIte,reduceCtorEq,Nat.reduceBEq,Nat.reduceLT,Nat.reduceEqDiff];first|exact fin_ret hb rfl rfl List.take_length ⟨rfl,rfl⟩|exact fin_ret hb rfl rfl List.take_left ⟨rfl,rfl⟩|(trace_state;fail "fin")
end Go.Proofs.YtcbahpllcfbkmaaGreatDoor
