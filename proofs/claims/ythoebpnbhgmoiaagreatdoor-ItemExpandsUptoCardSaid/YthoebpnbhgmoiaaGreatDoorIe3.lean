import Derived.Test.YthoebpnbhgmoiaaGreatDoorIe2
set_option linter.unusedVariables false
set_option linter.unusedSimpArgs false
set_option linter.unusedSectionVars false
namespace Go.Proofs.YthoebpnbhgmoiaaGreatDoor
open Go.RowKit
theorem Nxt.drop5{n0:Nat}{R:Slots→List (List V)→Prop}{ρ:Slots}{σ:List (List V)}{a b c d e:List V}(hn:n0≤σ.length)(hb:boxesBelow (σ++[a,b,c,d]).length (σ++[a,b,c,d])=true)(hs:slotsBelow (σ++[a,b,c,d]).length ρ=true)(hR:R ρ (σ++[a,b,c,d])):Nxt n0 R ρ (σ++[a,b,c,d,e]) .mk:=by
 have h:σ++[a,b,c,d,e]=(σ++[a,b,c,d])++[e]:=by simp
 rw[h];exact Nxt.drop (by rw[List.length_append];omega) hb hs hR
theorem list_fun(fs:List (ByteArray×Int))(hz:Sz8 fs):∀k,LF fs k:=by
 intro k
 induction k with
 | zero=>
  intro l d q hk hfr hd hX hW hbig hq σ i m s cv hs hf hx hc
  have hl:l=[]:=by
   cases l with
   | nil=>rfl
   | cons a r=>rw[iszs]at hk;have:=isz_pos a;omega
  subst hl;exact list_walk [] (by simp) (fun _=>[]) q cv i m fs s σ hs hf hx hc (fun x hx=>by cases hx)
 | succ k ih=>
  intro l d q hk hfr hd hX hW hbig hq σ i m s cv hs hf hx hc;have hln:=ibigs_len l;rw[exps_eq];refine list_walk l (by omega) (fun x=>exp1 fs k x q) q cv i m fs s σ hs hf hx hc fun x hxl τ s hs hf hx hc=>?_;have h1:=iszs_mem hxl;have h2:=isz_eq x;have h3:=ibigs_mem hxl;exact one_fun fs hz k ih x d q (frm_mem hfr hxl) (allX_mem hX hxl) (wsOk_mem hW hxl) (by omega) (by omega) (by omega) hq τ i m s cv hs hf hx hc
theorem okN_nodes(e:Ex):(∀n,n∈nodesE e→n.op=2→n.name≠⟨#[]⟩)→okN e=true:=by
 induction e using Ex.ind with
 | h o m s l ih=>
 intro h;rw[okN,Bool.and_eq_true,okNs_mem];rw[nodesE]at h;refine⟨?_,fun a ha=>ih a ha fun n hn=>h n (List.mem_cons_of_mem _ (nodesL_mem.2 ⟨a,ha,hn⟩))⟩;have:=h _ (List.mem_cons_self ..);simp only[Ex.op,Ex.name]at this;by_cases ho:o=2
 ·simp[ho,this ho]
 ·simp[ho]
theorem eok_valid{e:Ex}(h:validE e=0):EOk e:=by
 refine⟨okN_nodes e fun n hn ho he=>?_,(valid_size h).1⟩;have:=vars_ok e (validE_err h) n hn ho;rw[he]at this
 revert this
 decide
theorem allX_valid:∀(l:List It) (d:Nat),rvl l d=0→allX l:=by
 refine its_ind (fun d h=>by rw[allX];trivial) fun x r h1 h2 h3 d h=>?_;obtain⟨g1,g2,g3⟩:=vldX_mem h (List.mem_cons_self ..);rw[allX,allX1_eq];refine⟨⟨?_,h1 _ g2,h2 _ g3⟩,h3 d ?_⟩
 ·by_cases hk:x.kind=1∨x.kind=2∨x.kind=4
  ·exact eok_valid (shape_expr g1 hk)
  ·obtain⟨-,hp,-⟩:=shape_zero g1;unfold plainB at hp;simp only[Bool.and_eq_true,Bool.or_eq_true,decide_eq_true_eq]at hp;have hbk:=hp.1.1.1.1.1.1.resolve_left hk;cases x with
   | mk k e s ix ws l m bf af=>
   cases e with
   | mk o n s2 a=>
   unfold blankB at hbk;simp only[It.ex,Ex.op,Ex.num,Ex.name,Ex.args,Bool.and_eq_true,List.isEmpty_iff]at hbk;obtain⟨⟨⟨h1,h2⟩,h3⟩,h4⟩:=hbk;have h1:=of_decide_eq_true h1;subst h1;subst h4;exact⟨by simp[It.ex,okN,okNs],by simp[It.ex,esize,esizes]⟩
 ·rw[rvl]at h;split at h
  ·exact h
  ·rename_i hn;exact absurd h hn
theorem exps_sz(fs:List (ByteArray×Int)):∀(k:Nat) (l:List It) (d:Nat) (q:Option Ex),frm l d→d≤5→allX l→QOk d q→∀y,y∈exps fs k l q→esize y.ex≤3000:=by
 intro k
 induction k with
 | zero=>intro l d q _ _ _ _ y hy;cases hy
 | succ k ih=>
  intro l d q hf hd hX hq y hy;rw[exps_eq]at hy;obtain⟨x,hx,hy⟩:=List.mem_flatMap.1 hy;obtain⟨-,-,hd4,hf1,hf2⟩:=(frm1_eq x d).1 (frm_mem hf hx);obtain⟨hX0,hX1,hX2⟩:=(allX1_eq x).1 (allX_mem hX hx);unfold exp1 at hy;split at hy
  ·simp only[List.mem_singleton]at hy;subst hy;have:=(under_ok hq 21 (by decide) hX0.nm (by have:=hX0.sz;omega)).2;show esize (underE 21 q x.ex)≤3000;omega
  ·split at hy
   ·rcases List.mem_append.1 hy with hy|hy
    ·exact ih _ _ _ hf1 (by omega) hX1 (under_q hq hX0.nm (by have:=hX0.sz;omega)) y hy
    ·exact ih _ _ _ hf2 (by omega) hX2 (under_q hq (not_ok hX0).1 (not_ok hX0).2) y hy
   ·split at hy
    ·obtain⟨j,-,hy⟩:=List.mem_flatMap.1 hy;exact ih _ _ _ (frm_sub _ _ _ _ hf1) (by omega) (allX_sub _ _ _ hX1) hq.mono y hy
    ·split at hy
     ·simp only[List.mem_singleton]at hy;subst hy;show esize zeroE≤3000;unfold zeroE;simp[esize,esizes]
     ·simp only[List.mem_singleton]at hy;subst hy;show esize zeroE≤3000;unfold zeroE;simp[esize,esizes]
def vldB(x:It):Bool:=!(decide (x.kind=1)||decide (x.kind=2))||decide (validE x.ex=0)
abbrev clsC(c:Cl):List V:=[.d (dstr c.name),.d (dstr c.par),.d (.sl (c.fields.map dfd)),.d c.blocks]
def expandI(spl:ByteArray→Option (ByteArray×Int))(fs:List (ByteArray×Int))(l:List It):List It×Int:=
 if checkI spl fs l≠0 then([],checkI spl fs l)else if 400<(exps fs (iszs l) l none).length then([],2)else if(exps fs (iszs l) l none).all vldB=true then(exps fs (iszs l) l none,0)else([],2)
set_option maxHeartbeats 4000000 in
theorem expand_item(l:List It)(c:Cl)(hl:ibigs l≤900000)(hs:SmallF (fldS c))(hc:c.fields.length≤1000000)(σ:List (List V)):Fun G 14 [.d (ditl l),vcl c] σ (RetV (.tup [.d (ditl (expandI splE (fldS c) l).1),.d (dint (expandI splE (fldS c) l).2)]) σ):=by
 have hz:=sz8_of hs;refine fun_code Tryz.func14 k14 rfl fun hb hw=>?_;delta c14 oM oV kI kS kT kF;unfold expandI;have hch:=fun σ=>check_item l c hl hs hc σ;simp -dsimp -implicitDefEqProofs only[aw,slots0,V.copy,V.lend,V.lend1,V.cells,V.boxable,Nat.reduceLeDiff,eq_self,ne_eq,reduceIte,reduceCtorEq,Nat.reduceBEq,Nat.reduceLT,Nat.reduceEqDiff,Nat.reduceAdd];refine fun_ret (hch _) ?_;by_cases h0:checkI splE (fldS c) l=0
 case neg=>
  rw[if_pos h0];simp -dsimp -implicitDefEqProofs only[aw,V.copy,eq_self,reduceIte,reduceCtorEq,Nat.reduceBEq,Nat.reduceLT,Nat.reduceEqDiff,decide_eq_false h0];first|exact fin_ret hb rfl rfl List.take_length ⟨rfl,rfl⟩|exact fin_ret hb rfl rfl List.take_left ⟨rfl,rfl⟩
 rw[if_neg (by simp[h0])]
 have hv:rvl l 0=0:=by
  unfold checkI at h0;by_cases hv:validI l=0
  ·unfold validI at hv;split at hv
   ·cases hv
   ·exact hv
  ·rw[if_pos hv]at h0;exact absurd h0 hv
 have hfr:=frm_valid l 0 hv;have hX:=allX_valid l 0 hv;have hsz:=exps_sz (fldS c) (iszs l) l 0 none hfr (by omega) hX (.none 0);simp -dsimp -implicitDefEqProofs only[aw,V.copy,V.lend,V.lend1,Nat.reduceLeDiff,eq_self,reduceIte,reduceCtorEq,Nat.reduceBEq,Nat.reduceLT,Nat.reduceEqDiff,Nat.reduceAdd,h0,decide_true];refine fun_mono (of_fun c hs hc _) ?_;rintro o σ' ⟨rfl,rfl⟩;rw[retK_ret];simp -dsimp -implicitDefEqProofs only[aw,V.copy,V.lend,V.cells,V.boxable,over,bldV,Nat.reduceLeDiff,eq_self,reduceIte,reduceCtorEq,Nat.reduceBEq,Nat.reduceLT,Nat.reduceEqDiff,Nat.reduceAdd]
 have hFB:FB (σ++[clsC c,clsC c,[V.mapc true (kvF (fldS c))],[V.mp (σ.length+1+1),V.nil,V.d (D.lit (Value.bool false))]]) (σ.length+1+1) (fldS c):=by
  unfold FB;rw[List.getElem?_append_right (by omega),show σ.length+1+1-σ.length=2 by omega];rfl
 have hL:=list_fun (fldS c) hz (iszs l) l 0 none (Nat.le_refl _) hfr (by omega) hX (wsOk_valid l 0 hv) (by omega) (.none 0) (σ++[clsC c,clsC c,[V.mapc true (kvF (fldS c))],[V.mp (σ.length+1+1),V.nil,V.d (D.lit (Value.bool false))]]) (σ.length+3) (σ.length+1+1) ([],false) (.d (.lit (.pointer none)))
  ⟨by simp,by simp⟩ hFB (.inr ⟨rfl,by rw[List.getElem?_append_right (by omega),show σ.length+3-σ.length=3 by omega];rfl⟩) rfl
 rw[push_all]at hL;generalize exps (fldS c) (iszs l) l none=X at hL hsz ⊢;refine fun_mono hL ?_;rintro o σ' ⟨rfl,rfl⟩
 have hset:∀e:List V,(σ++[clsC c,clsC c,[V.mapc true (kvF (fldS c))],[V.mp (σ.length+1+1),V.nil,V.d (D.lit (Value.bool false))]]).set (σ.length+3) e=σ++[clsC c,clsC c,[V.mapc true (kvF (fldS c))],e]:=fun e=>by
  rw[List.set_append_right _ _ (by omega),show σ.length+3-σ.length=3 by omega];rfl
 rw[retK_ret,hset];by_cases h4:400<X.length
 ·rw[if_pos h4];simp -dsimp -implicitDefEqProofs only[aw,V.copy,Nat.reduceLeDiff,eq_self,reduceIte,reduceCtorEq,Nat.reduceBEq,Nat.reduceLT,Nat.reduceEqDiff,Nat.reduceAdd,decide_eq_true h4];first|exact fin_ret hb rfl rfl List.take_length ⟨rfl,rfl⟩|exact fin_ret hb rfl rfl List.take_left ⟨rfl,rfl⟩
 rw[if_neg h4,List.take_of_length_le (by omega)];simp -dsimp -implicitDefEqProofs only[aw,V.copy,Nat.reduceLeDiff,eq_self,reduceIte,reduceCtorEq,Nat.reduceBEq,Nat.reduceLT,Nat.reduceEqDiff,Nat.reduceAdd,decide_eq_false h4];refine awp_for (R:=fun(j:Nat) ρ σ'=>ρ=[(7,.ptr (σ.length+3) 0),(30,.d (ditl X)),(31,vint .i64 X.length),(32,vint .i64 j)]∧σ'=σ++[clsC c,clsC c,[V.mapc true (kvF (fldS c))],xbox (σ.length+1+1) (X,false)]∧X.all vldB=(X.drop j).all vldB) X.length ⟨rfl,rfl,rfl⟩ ?_ _
 have hbB:boxesBelow (σ++[clsC c,clsC c,[V.mapc true (kvF (fldS c))],xbox (σ.length+1+1) (X,false)]).length (σ++[clsC c,clsC c,[V.mapc true (kvF (fldS c))],xbox (σ.length+1+1) (X,false)])=true:=by
  have:∀k,V.underkv k (kvF (fldS c))=true:=fun k=>underkv_F _ k;exact boxesBelow_app hb (by simp[V.unders,V.under,this])
 rintro j ρ' σ' hj ⟨rfl,rfl,hr⟩;by_cases hlt:j<X.length
 ·rw[List.drop_eq_getElem_cons hlt,List.all_cons]at hr;have hxx:X[j]? = some X[j]:=List.getElem?_eq_getElem hlt;have hsx:=hsz _ (List.getElem_mem hlt);generalize X[j]=x at hxx hsx hr;have wj:=wrap_nat hlt (show X.length≤9223372036854775807 by omega);have hvx:=fun σ=>fun_valid x.ex (by omega) (by have:=depth_le x.ex;omega) σ;simp only[vex_eq]at hvx;have good:vldB x=true→X.all vldB=(X.drop (j+1)).all vldB:=fun h=>by rw[hr,h,Bool.true_and]
  by_cases k12:x.kind=1∨x.kind=2
  ·by_cases hv0:validE x.ex=0
   ·have hg:=good (by unfold vldB;simp[hv0]);rcases k12 with k|k
    all_goals
     simp -dsimp -implicitDefEqProofs only[aw,V.copy,V.lend,V.lend1,V.cells,V.boxable,over,Nat.reduceLeDiff,cond_false,eq_self,reduceIte,Nat.reduceBEq,Nat.reduceLT,Nat.reduceEqDiff,Nat.reduceAdd,Int.ofNat_lt,hlt,decide_true,hxx,dit_eq x,k,Int.reduceEq,decide_false];refine fun_ret (hvx _) ?_;simp -dsimp -implicitDefEqProofs only[aw,V.copy,cond_true,eq_self,reduceIte,Nat.reduceBEq,Nat.reduceLT,Nat.reduceEqDiff,hv0,decide_true,wj];exact⟨hlt,Nxt.drop5 (Nat.le_refl _) hbB (by simp[slotsBelow,V.under]) ⟨rfl,rfl,hg⟩⟩
   ·have hf:X.all vldB=false:=by rw[hr,show vldB x=false by unfold vldB;rcases k12 with k|k<;>simp[k,hv0],Bool.false_and]
    rw[hf,if_neg Bool.false_ne_true];rcases k12 with k|k
    all_goals
     simp -dsimp -implicitDefEqProofs only[aw,V.copy,V.lend,V.lend1,V.cells,V.boxable,over,Nat.reduceLeDiff,cond_false,eq_self,reduceIte,Nat.reduceBEq,Nat.reduceLT,Nat.reduceEqDiff,Nat.reduceAdd,Int.ofNat_lt,hlt,decide_true,hxx,dit_eq x,k,Int.reduceEq,decide_false];refine fun_ret (hvx _) ?_;simp -dsimp -implicitDefEqProofs only[aw,V.copy,cond_true,eq_self,reduceIte,Nat.reduceBEq,Nat.reduceLT,Nat.reduceEqDiff,decide_eq_false hv0];first|exact fin_ret hb rfl rfl List.take_length ⟨rfl,rfl⟩|exact fin_ret hb rfl rfl List.take_left ⟨rfl,rfl⟩
  ·have n1:¬x.kind=1:=fun h=>k12 (.inl h);have n2:¬x.kind=2:=fun h=>k12 (.inr h);have hg:=good (by unfold vldB;simp[n1,n2]);simp -dsimp -implicitDefEqProofs only[aw,V.copy,V.cells,V.boxable,over,Nat.reduceLeDiff,cond_false,eq_self,reduceIte,Nat.reduceBEq,Nat.reduceLT,Nat.reduceEqDiff,Nat.reduceAdd,Int.ofNat_lt,hlt,decide_true,hxx,dit_eq x,decide_eq_false n1,decide_eq_false n2,wj];exact Nxt.drop5 (Nat.le_refl _) hbB (by simp[slotsBelow,V.under]) ⟨rfl,rfl,hg⟩
 ·rw[List.drop_eq_nil_of_le (by omega)]at hr;rw[hr,List.all_nil,if_pos rfl];simp -dsimp -implicitDefEqProofs only[aw,V.copy,Nat.reduceLeDiff,eq_self,reduceIte,Nat.reduceBEq,Nat.reduceLT,Nat.reduceEqDiff,Nat.reduceAdd,Int.ofNat_lt,hlt,decide_false];first|exact fin_ret hb rfl rfl List.take_length ⟨rfl,rfl⟩|exact fin_ret hb rfl rfl List.take_left ⟨rfl,rfl⟩
end Go.Proofs.YthoebpnbhgmoiaaGreatDoor
