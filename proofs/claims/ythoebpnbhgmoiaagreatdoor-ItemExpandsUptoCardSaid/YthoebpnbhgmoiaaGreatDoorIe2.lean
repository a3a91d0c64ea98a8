import Derived.Test.YthoebpnbhgmoiaaGreatDoorIe1
set_option linter.unusedVariables false
set_option linter.unusedSimpArgs false
set_option linter.unusedSectionVars false
namespace Go.Proofs.YthoebpnbhgmoiaaGreatDoor
open Go.RowKit
mutual
def wsOk:List It→Prop
 | []=>True
 | x::r=>wsOk1 x∧wsOk r
def wsOk1:It→Prop
 | .mk k _ _ _ ws l m _ _=>(k=3→ws≠[])∧wsOk l∧wsOk m
end
theorem wsOk1_eq(x:It):wsOk1 x↔(x.kind=3→x.ws≠[])∧wsOk x.items∧wsOk x.els:=by cases x;rw[wsOk1];rfl
theorem wsOk_mem{l:List It}(h:wsOk l){x:It}(hx:x∈l):wsOk1 x:=by
 induction l with
 | nil=>cases hx
 | cons a r ih=>
  rw[wsOk]at h;rcases List.mem_cons.1 hx with rfl|hx
  ·exact h.1
  ·exact ih h.2 hx
theorem wsOk_sub(nm:ByteArray)(b:Ex):∀l:List It,wsOk l→wsOk (subIs nm b l):=by
 refine its_ind (fun h=>by rw[subIs,wsOk];trivial) fun x r h1 h2 h3 h=>?_;rw[wsOk,wsOk1_eq]at h;rw[subIs,wsOk,wsOk1_eq,subI_eq];exact⟨⟨h.1.1,h1 h.1.2.1,h2 h.1.2.2⟩,h3 h.2⟩
theorem wsOk_valid:∀(l:List It) (d:Nat),rvl l d=0→wsOk l:=by
 refine its_ind (fun d h=>by rw[wsOk];trivial) fun x r h1 h2 h3 d h=>?_;obtain⟨g1,g2,g3⟩:=vldX_mem h (List.mem_cons_self ..);rw[wsOk,wsOk1_eq];refine⟨⟨fun hk he=>?_,h1 _ g2,h2 _ g3⟩,h3 d ?_⟩
 ·have:=shape_body g1;rw[if_pos hk]at this;unfold distE at this;rw[he]at this;simp at this
 ·rw[rvl]at h;split at h
  ·exact h
  ·rename_i hn;exact absurd h hn
theorem ibigs_sub(nm:ByteArray)(n:Int):∀l:List It,ibigs (subIs nm (constE n) l)≤ibigs l:=by
 refine its_ind (by rw[subIs];exact Nat.le_refl _) fun x r h1 h2 h3=>?_;rw[subIs,ibigs,ibigs,ibig_eq,ibig_eq x,subI_eq];show 1+esize (subE nm (constE n) x.ex)+x.ws.length+x.bef.length+x.aft.length+ibigs (subIs nm (constE n) x.items)+ibigs (subIs nm (constE n) x.els)+_≤_;have:=size_sub nm n x.ex;omega
theorem under_cv(op:Int)(e:Ex){σ:List (List V)}{q:Option Ex}{cv:V}(hc:CV σ q cv):Fun G 114 [cv,.d (dint op),vex e] σ (RetV (vex (underE op q e)) σ):=by
 cases q with
 | none=>have:cv=_:=hc;rw[this];exact under_none op e σ
 | some c=>obtain⟨j,rfl,hj⟩:=hc;exact under_some op j c e σ hj
theorem vit_itE(k:Int)(e:Ex):vit (itE k e)=.agg [.d (dint k),.d (dint e.op),.d (dint e.num),.d (dstr e.name),.d (.sl (e.args.map dex)),.d (dstr ⟨#[]⟩),.d (dstr ⟨#[]⟩),.d (.sl []),.d (.sl []),.d (.sl []),.d (.sl []),.d (.sl [])]:=by rw[vit_eq];rfl
theorem vit_itD(x:It):vit (itD x)=.agg [.d (dint x.kind),.d (dint 0),.d (dint 0),.d (dstr ⟨#[]⟩),.d (.sl []),.d (dstr x.name),.d (dstr ⟨#[]⟩),.d (.sl (x.ws.map dwt)),.d (.sl []),.d (.sl []),.d (.sl []),.d (.sl [])]:=by rw[vit_eq];rfl
theorem vit_itS(x:It):vit (itS x)=.agg [.d (dint x.kind),.d (dint 0),.d (dint 0),.d (dstr ⟨#[]⟩),.d (.sl []),.d (dstr ⟨#[]⟩),.d (dstr ⟨#[]⟩),.d (.sl []),.d (.sl []),.d (.sl []),.d (.sl (x.bef.map fun s=>[dstr s])),.d (.sl (x.aft.map fun s=>[dstr s]))]:=by rw[vit_eq];rfl
def LF(fs:List (ByteArray×Int))(k:Nat):Prop:=∀(l:List It) (d:Nat) (q:Option Ex),iszs l≤k→frm l d→d≤5→allX l→wsOk l→ibigs l≤1000000→QOk d q→∀(σ:List (List V)) (i m:Nat) (s:List It×Bool) (cv:V),Sok s→FB σ m fs→
 (σ[i]? = some (xbox m s)∨s=([],false)∧σ[i]? = some [.mp m,.nil,vbool false])→CV σ q cv→Fun G 40 [.ptr i 0,.d (ditl l),cv] σ (fun o σ'=>o=.ret (.tup [])∧σ'=σ.set i (xbox m (push s (exps fs k l q))))
theorem add_push(i m:Nat)(s:List It×Bool)(hs:Sok s)(x:It)(σ:List (List V))(hx:σ[i]? = some (xbox m s)):Fun G 112 [.ptr i 0,vit x] σ (fun o σ'=>o=.ret (.tup [])∧σ'=σ.set i (xbox m (push s [x]))):=
 (add_fun i m s.1 s.2 x hs.1 σ hx).mono fun o σ' ⟨e1,e2⟩=>⟨e1,by
   rw[e2,push_one s hs];by_cases h:400≤s.1.length
   ·rw[if_pos h,if_pos h]
   ·rw[if_neg h,if_neg h]⟩
set_option maxHeartbeats 4000000 in
theorem one_fun(fs:List (ByteArray×Int))(hz:Sz8 fs)(k:Nat)(IH:LF fs k)(x:It)(d:Nat)(q:Option Ex)(hfr:frm1 x d)(hX:allX1 x)(hW:wsOk1 x)(hbig:ibig x≤1000000)(hz1:iszs x.items≤k)(hz2:iszs x.els≤k)(hq:QOk d q)
 (σ:List (List V))(i m:Nat)(s:List It×Bool)(cv:V)(hs:Sok s)(hf:FB σ m fs)(hx:σ[i]? = some (xbox m s))(hc:CV σ q cv):
 Fun G 73 [.ptr i 0,vit x,cv] σ (fun o σ'=>o=.ret (.tup [])∧σ'=σ.set i (xbox m (push s (exp1 fs k x q)))):=by
 have hb0:=ibig_eq x;have hcv:=hc.val;obtain⟨hk6,hpl,hd4,hf1,hf2⟩:=(frm1_eq x d).1 hfr;obtain⟨hX0,hX1,hX2⟩:=(allX1_eq x).1 hX;obtain⟨hW0,hW1,hW2⟩:=(wsOk1_eq x).1 hW;refine fun_code Tryz.func73 k73 (by simp only[vit_eq];rcases hcv with rfl|⟨j,rfl,_⟩<;>rfl) fun hb hw=>?_;have hlm:cv.lend=cv:=by rcases hcv with rfl|⟨j,rfl,_⟩<;>rfl
 have hcm:cv.copy=cv:=by rcases hcv with rfl|⟨j,rfl,_⟩<;>rfl
 have hun:V.under σ.length cv=true:=by
  rcases hcv with rfl|⟨j,rfl,h⟩
  ·rfl
  ·simp[V.under,h]
 unfold V.lend at hlm;unfold V.copy at hcm;have hm:=hf.lt;have hi:i<σ.length:=(List.getElem?_eq_some_iff.1 hx).1;have hbx:∀L,(σ++L)[i]? = some (xbox m s):=fun L=>by rw[List.getElem?_append_left hi];exact hx
 have hbb:∀s,boxesBelow (σ.set i (xbox m s)).length (σ.set i (xbox m s))=true:=fun s=>by
  rw[List.length_set];exact bb_set hb (by simp[V.unders,V.under,hm])
 have hsa:∀L cs,(σ++L).set i cs=σ.set i cs++L:=fun L cs=>List.set_append_left _ _ hi
 have fin:∀(X:List It) (L:List (List V)) ρ,exp1 fs k x q=X→fin σ.length rs73 (fun o σ'=>o=.ret (.tup [])∧σ'=σ.set i (xbox m (push s (exp1 fs k x q)))) .ret ρ (σ.set i (xbox m (push s X))++L):=fun X L ρ e=>
  fin_at (n0:=σ.length) (Q:=fun o σ'=>o=.ret (.tup [])∧σ'=σ.set i (xbox m (push s (exp1 fs k x q)))) (v:=.tup []) (k:=(σ.set i (xbox m (push s X))).length) (τ:=σ.set i (xbox m (push s X))) (by simp) List.take_left (hbb _) rfl rfl ⟨rfl,by rw[e]⟩
 delta c73 oM oV kI kS kT kF;by_cases k12:x.kind=1∨x.kind=2
 ·have e1:exp1 fs k x q=[itE x.kind (underE 21 q x.ex)]:=by unfold exp1;rw[if_pos k12]
  obtain⟨u1,u2⟩:=under_ok hq 21 (by decide) hX0.nm (by have:=hX0.sz;omega);have hu:=fun L=>under_cv 21 x.ex (hc.app L);have hcp:=fun σ=>copied_fun (underE 21 q x.ex) u1 (by omega) σ;have ha:=fun L=>add_push i m s hs (itE x.kind (underE 21 q x.ex)) (σ++L) (hbx L);simp only[vit_itE,hsa]at ha;generalize underE 21 q x.ex=u at hu hcp ha e1;simp only[vex_eq]at hu hcp;rcases k12 with k|k
  all_goals
   rw[k]at ha;simp -dsimp -implicitDefEqProofs only[aw,slots0,V.copy,V.lend,V.lend1,V.cells,V.boxable,Nat.reduceLeDiff,eq_self,reduceIte,reduceCtorEq,Nat.reduceBEq,Nat.reduceLT,Nat.reduceEqDiff,Nat.reduceAdd,Nat.reduceSub,vit_eq,k,Int.reduceEq,decide_true,decide_false,hcm,hlm];refine calm_ret (hu _) ?_;simp -dsimp -implicitDefEqProofs only[aw,V.lend,V.lend1,eq_self,reduceIte,reduceCtorEq,Nat.reduceLT,Nat.reduceEqDiff,Nat.reduceSub];refine calm_ret (hcp _) ?_;simp -dsimp -implicitDefEqProofs only[aw,V.copy,V.lend,V.lend1,V.cells,over,bldV,Nat.reduceLeDiff,eq_self,reduceIte,reduceCtorEq,Nat.reduceLT,Nat.reduceEqDiff,Nat.reduceAdd,Nat.reduceSub];refine actG_ret (ha _) ?_ ?_
   ·simp -dsimp -implicitDefEqProofs only[aw]
   simp -dsimp -implicitDefEqProofs only[aw,reduceIte,reduceCtorEq,Nat.reduceLT,Nat.reduceEqDiff];exact fin _ _ _ (by rw[e1,k])
 have n1:¬x.kind=1:=fun h=>k12 (.inl h);have n2:¬x.kind=2:=fun h=>k12 (.inr h);by_cases k4:x.kind=4
 ·have e1:exp1 fs k x q=exps fs k x.items (some (underE 19 q x.ex))++exps fs k x.els (some (underE 19 q (notE x.ex))):=by unfold exp1;rw[if_neg k12,if_pos k4]
  have hq1:=under_q hq hX0.nm (by have:=hX0.sz;omega);have hq2:=under_q hq (not_ok hX0).1 (not_ok hX0).2;have hu:=fun L=>under_cv 19 x.ex (hc.app L);have hu2:=fun cs L=>under_cv 19 (notE x.ex) (hc.upd (cs:=cs) hx L);have vn:vex (notE x.ex)=.agg [.d (dint 4),.d (dint 0),.d (dstr ⟨#[]⟩),.d (.sl [[dint x.ex.op,dint x.ex.num,dstr x.ex.name,.sl (x.ex.args.map dex)]])]:=by rw[←dex_eq x.ex,vex_eq];rfl
  rw[vn]at hu2;generalize underE 19 q x.ex=c1 at hu hq1 e1;generalize underE 19 q (notE x.ex)=c2 at hu2 hq2 e1;have hl1:=fun L cv' (h:CV (σ++L) (some c1) cv')=>IH x.items (d+1) (some c1) hz1 hf1 (by omega) hX1 hW1 (by omega) hq1 (σ++L) i m s cv' hs (hf.app L) (.inl (hbx L)) h;have hs1:=push_ok s hs (exps fs k x.items (some c1));generalize exps fs k x.items (some c1)=A at e1 hl1 hs1;have hx1:∀L,(σ.set i (xbox m (push s A))++L)[i]? = some (xbox m (push s A)):=fun L=>by rw[List.getElem?_append_left (by simpa using hi),List.getElem?_set_self hi]
  have hl2:=fun L cv' (h:CV (σ.set i (xbox m (push s A))++L) (some c2) cv')=>IH x.els (d+1) (some c2) hz2 hf2 (by omega) hX2 hW2 (by omega) hq2 (σ.set i (xbox m (push s A))++L) i m (push s A) cv' hs1 (hf.upd hx L) (.inl (hx1 L)) h;generalize exps fs k x.els (some c2)=B at e1 hl2;have hsa2:∀L cs,(σ.set i (xbox m (push s A))++L).set i cs=σ.set i cs++L:=fun L cs=>by rw[List.set_append_left _ _ (by simpa using hi),List.set_set]
  simp only[hsa,hsa2,push_push]at hl1 hl2;simp only[vex_eq]at hu hu2;simp -dsimp -implicitDefEqProofs only[aw,slots0,V.copy,V.lend,V.lend1,V.cells,V.boxable,Nat.reduceLeDiff,eq_self,reduceIte,reduceCtorEq,Nat.reduceBEq,Nat.reduceLT,Nat.reduceEqDiff,Nat.reduceAdd,vit_eq,k4,Int.reduceEq,decide_true,decide_false,hcm,hlm];refine fun_ret (hu _) ?_;simp -dsimp -implicitDefEqProofs only[aw,V.copy,V.lend,V.cells,V.boxable,over,Nat.reduceLeDiff,eq_self,reduceIte,reduceCtorEq,Nat.reduceBEq,Nat.reduceLT,Nat.reduceEqDiff,Nat.reduceAdd];refine fun_mono (hl1 _ _ ⟨σ.length+1,rfl,by unfold QB;simp only[box_at];rfl⟩) ?_;rintro o σ' ⟨rfl,rfl⟩;rw[retK_ret];have h0:∀(cs c:List V) (L:List (List V)),(σ.set i cs++c::L)[σ.length]? = some c:=fun cs c L=>by rw[List.getElem?_append_right (by simp)];simp
  simp -dsimp -implicitDefEqProofs only[aw,V.copy,V.lend,V.lend1,V.cells,over,bldV,rowsOf,plains,V.plain,Nat.reduceLeDiff,eq_self,reduceIte,reduceCtorEq,Nat.reduceBEq,Nat.reduceLT,Nat.reduceEqDiff,Nat.reduceAdd,hcm,hlm,h0];refine fun_ret (hu2 _ _) ?_;simp -dsimp -implicitDefEqProofs only[aw,V.copy,V.lend,V.cells,V.boxable,over,Nat.reduceLeDiff,eq_self,reduceIte,reduceCtorEq,Nat.reduceBEq,Nat.reduceLT,Nat.reduceEqDiff,Nat.reduceAdd,h0];refine fun_mono (hl2 _ _ ⟨_,rfl,by unfold QB;simp only[box_at];rfl⟩) ?_;rintro o σ' ⟨rfl,rfl⟩;rw[retK_ret];simp -dsimp -implicitDefEqProofs only[aw,reduceIte,reduceCtorEq,Nat.reduceLT,Nat.reduceEqDiff];exact fin _ _ _ e1
 have hf5:x.kind=5→frm x.items (d+1):=fun _=>hf1;by_cases k5:x.kind=5
 ·have e1:exp1 fs k x q=(List.range (fszN fs x.name)).flatMap fun(j:Nat)=>exps fs k (subIs x.idx (constE (j:Int)) x.items) q:=by unfold exp1;rw[if_neg k12,if_neg k4,if_pos k5]
  have hN:∃n:Nat,n≤8∧mres false (V.d (D.lit (Value.int IntKind.i64 0))) ((fsz fs x.name).map fun n=>V.d (dint n))=.d (dint n)∧fszN fs x.name=n:=by
   unfold fszN;cases hfz:fsz fs x.name with
   | none=>exact⟨0,by omega,rfl,rfl⟩
   | some n=>
    obtain⟨h1,h2⟩:=hz _ _ hfz;exact⟨n.toNat,by omega,by show V.d (dint n)=V.d (dint (n.toNat:Nat));rw[show((n.toNat:Nat):Int)=n by omega],rfl⟩
  obtain⟨n,hn8,hmr,hfn⟩:=hN;rw[hfn]at e1;simp -dsimp -implicitDefEqProofs only[aw,slots0,V.copy,V.cells,V.boxable,Nat.reduceLeDiff,eq_self,reduceIte,reduceCtorEq,Nat.reduceBEq,Nat.reduceLT,Nat.reduceEqDiff,Nat.reduceAdd,vit_eq,k5,Int.reduceEq,decide_true,decide_false,hbx,hf.at2,mget_kvF];rw[hmr];have h0:∀(cs c:List V) (L:List (List V)),(σ.set i cs++c::L)[σ.length]? = some c:=fun cs c L=>by rw[List.getElem?_append_right (by simp)];simp
  refine awp_for (R:=fun(j:Nat) ρ σ'=>ρ=[(0,.ptr i 0),(2,cv),(4,.ptr σ.length 0),(52,.d (dint n)),(53,vint .i64 j)]∧σ'=σ.set i (xbox m (push s ((List.range j).flatMap fun(j:Nat)=>exps fs k (subIs x.idx (constE (j:Int)) x.items) q))) ++
   [[V.d (dint 5),V.d (dint x.ex.op),V.d (dint x.ex.num),V.d (dstr x.ex.name),V.d (D.sl (List.map dex x.ex.args)),V.d (dstr x.name),V.d (dstr x.idx),V.d (D.sl (List.map dwt x.ws)),V.d (D.sl (List.map dit x.items)),V.d (D.sl (List.map dit x.els)),V.d (D.sl (List.map (fun s=>[dstr s]) x.bef)),V.d (D.sl (List.map (fun s=>[dstr s]) x.aft))]]) n ⟨rfl,by rw[show List.range 0=[]from rfl,List.flatMap_nil,push_nil s hs,set_self hx]⟩ ?_ _
  rintro j ρ' σ' hj ⟨rfl,rfl⟩
  have hr:push s ((List.range (j+1)).flatMap fun(j:Nat)=>exps fs k (subIs x.idx (constE (j:Int)) x.items) q)=push (push s ((List.range j).flatMap fun(j:Nat)=>exps fs k (subIs x.idx (constE (j:Int)) x.items) q)) (exps fs k (subIs x.idx (constE (j:Int)) x.items) q):=by
   rw[push_push,List.range_succ,List.flatMap_append,List.flatMap_cons,List.flatMap_nil,List.append_nil]
  have hsj:=push_ok s hs ((List.range j).flatMap fun(j:Nat)=>exps fs k (subIs x.idx (constE (j:Int)) x.items) q);by_cases hlt:j<n
  ·generalize push s ((List.range j).flatMap fun(j:Nat)=>exps fs k (subIs x.idx (constE (j:Int)) x.items) q)=sj at hr hsj ⊢;have hxj:∀L,(σ.set i (xbox m sj)++L)[i]? = some (xbox m sj):=fun L=>by rw[List.getElem?_append_left (by simpa using hi),List.getElem?_set_self hi]
   have hsub:=fun σ=>substituted_fun x.idx (constE (j:Int)) (by unfold constE;simp[esize,esizes]) x.items (by omega) σ;have vc:vex (constE (j:Int))=.agg [.d (dint 1),.d (dint j),.d (dstr ⟨#[]⟩),.d (.sl [])]:=by rw[vex_eq];rfl
   rw[vc]at hsub;have hib:=ibigs_sub x.idx (j:Int) x.items;have hl:=fun L=>IH (subIs x.idx (constE (j:Int)) x.items) (d+1) q (by rw[subIs_size];exact hz1) (frm_sub _ _ _ _ hf1) (by omega) (allX_sub _ _ _ hX1) (wsOk_sub _ _ _ hW1) (by omega) hq.mono (σ.set i (xbox m sj)++L) i m sj cv hsj (hf.upd hx L) (.inl (hxj L)) (hc.upd hx L);have hsa2:∀L cs,(σ.set i (xbox m sj)++L).set i cs=σ.set i cs++L:=fun L cs=>by rw[List.set_append_left _ _ (by simpa using hi),List.set_set]
   simp only[hsa2]at hl;have wj:=wrap_nat hlt (show n≤9223372036854775807 by omega);simp -dsimp -implicitDefEqProofs only[aw,V.copy,V.lend,V.lend1,V.cells,over,bldV,Nat.reduceLeDiff,eq_self,reduceIte,reduceCtorEq,Nat.reduceBEq,Nat.reduceLT,Nat.reduceEqDiff,Nat.reduceAdd,Int.ofNat_lt,hlt,decide_true,h0];refine fun_ret (hsub _) ?_;simp -dsimp -implicitDefEqProofs only[aw,V.copy,V.lend,eq_self,reduceIte,reduceCtorEq,Nat.reduceLT,Nat.reduceEqDiff,hcm,hlm];refine fun_mono (hl _) ?_;rintro o σ' ⟨rfl,rfl⟩;rw[retK_ret,←hr];simp -dsimp -implicitDefEqProofs only[aw,V.copy,eq_self,reduceIte,reduceCtorEq,Nat.reduceBEq,Nat.reduceLT,Nat.reduceEqDiff,wj];exact⟨hlt,Nxt.same (by simp) (boxesBelow_app (hbb _) rfl) (by simp[slotsBelow,V.under];exact⟨by omega,V.under_mono (by omega) _ hun⟩) ⟨rfl,rfl⟩⟩
  ·simp -dsimp -implicitDefEqProofs only[aw,V.copy,eq_self,reduceIte,reduceCtorEq,Nat.reduceBEq,Nat.reduceLT,Nat.reduceEqDiff,Int.ofNat_lt,hlt,decide_false];have:j=n:=by omega
   subst this;exact fin _ _ _ e1
 have n5:=k5;by_cases k3:x.kind=3
 ·have e1:exp1 fs k x q=[itD x]:=by unfold exp1;rw[if_neg k12,if_neg k4,if_neg k5,if_pos k3]
  have ha:=fun L=>add_push i m s hs (itD x) (σ++L) (hbx L);simp only[vit_itD,hsa,k3]at ha;simp -dsimp -implicitDefEqProofs only[aw,slots0,V.copy,V.lend,V.cells,V.boxable,Nat.reduceLeDiff,eq_self,reduceIte,reduceCtorEq,Nat.reduceBEq,Nat.reduceLT,Nat.reduceEqDiff,Nat.reduceAdd,Nat.reduceSub,vit_eq,k3,Int.reduceEq,decide_true,decide_false];refine calm_ret (clone_wts x.ws (hW0 k3) (by omega) _) ?_;simp -dsimp -implicitDefEqProofs only[aw,V.copy,V.lend,V.lend1,V.cells,over,bldV,Nat.reduceLeDiff,eq_self,reduceIte,reduceCtorEq,Nat.reduceLT,Nat.reduceEqDiff,Nat.reduceAdd,Nat.reduceSub];refine actG_ret (ha _) ?_ ?_
  ·simp -dsimp -implicitDefEqProofs only[aw]
  simp -dsimp -implicitDefEqProofs only[aw,reduceIte,reduceCtorEq,Nat.reduceLT,Nat.reduceEqDiff];exact fin _ _ _ e1
 have k6:x.kind=6:=by omega
 have e1:exp1 fs k x q=[itS x]:=by unfold exp1;rw[if_neg k12,if_neg k4,if_neg k5,if_neg k3]
 have ha:=fun L=>add_push i m s hs (itS x) (σ++L) (hbx L);simp only[vit_itS,hsa,k6]at ha;simp -dsimp -implicitDefEqProofs only[aw,slots0,V.copy,V.lend,V.cells,V.boxable,Nat.reduceLeDiff,eq_self,reduceIte,reduceCtorEq,Nat.reduceBEq,Nat.reduceLT,Nat.reduceEqDiff,Nat.reduceAdd,Nat.reduceSub,vit_eq,k6,Int.reduceEq,decide_true,decide_false];refine actG_ret (clone_strs x.bef (by omega) _) ?_ ?_
 ·simp -dsimp -implicitDefEqProofs only[aw,V.copy,Nat.reduceLeDiff,eq_self,reduceIte,reduceCtorEq,Nat.reduceLT,Nat.reduceEqDiff,Nat.reduceAdd]
 simp -dsimp -implicitDefEqProofs only[aw,V.copy,V.lend,Nat.reduceLeDiff,eq_self,reduceIte,reduceCtorEq,Nat.reduceLT,Nat.reduceEqDiff,Nat.reduceAdd,Nat.reduceSub];refine actG_ret (clone_strs x.aft (by omega) _) ?_ ?_
 ·simp -dsimp -implicitDefEqProofs only[aw,V.copy,Nat.reduceLeDiff,eq_self,reduceIte,reduceCtorEq,Nat.reduceLT,Nat.reduceEqDiff,Nat.reduceAdd]
 simp -dsimp -implicitDefEqProofs only[aw,V.copy,V.lend,V.lend1,V.cells,over,bldV,Nat.reduceLeDiff,eq_self,reduceIte,reduceCtorEq,Nat.reduceLT,Nat.reduceEqDiff,Nat.reduceAdd,dstrs];refine actG_ret (ha _) ?_ ?_
 ·simp -dsimp -implicitDefEqProofs only[aw,Nat.reduceLeDiff,eq_self,reduceIte,reduceCtorEq,Nat.reduceEqDiff,Nat.reduceAdd]
 simp -dsimp -implicitDefEqProofs only[aw,reduceIte,reduceCtorEq,Nat.reduceLT,Nat.reduceEqDiff,Nat.reduceAdd];exact fin _ _ _ e1
end Go.Proofs.YthoebpnbhgmoiaaGreatDoor
