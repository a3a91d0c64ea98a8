import Derived.Test.YthoebpnbhgmoiaaGreatDoorReplE
set_option linter.unusedVariables false
set_option linter.unusedSimpArgs false
set_option linter.unusedSectionVars false
namespace Go.Proofs.YthoebpnbhgmoiaaGreatDoor
open Go.RowKit
def hlds(fs:List (ByteArray×Int))(v:List Sig→Ex→Int):Nat→List It→List Sig→Bool
 | 0,_,_=>true
 | k+1,l,env=>l.all fun x=>
  (!decide (x.kind=1) || !decide (v env x.ex=0))&&(!decide (x.kind=4)||(if v env x.ex=0 then hlds fs v k x.els env else hlds fs v k x.items env)) &&
  (!decide (x.kind=5)||(List.range (fszN fs x.name)).all fun(j:Nat)=>hlds fs v k x.items (⟨x.idx,(j:Int)⟩::env))
def vE(env:List Sig)(e:Ex):Int:=(evalE e env).1
section
variable (spl : ByteArray → Option (ByteArray × Int)) (fs : List (ByteArray × Int))
structure EnvOk(bd:List ByteArray)(env:List Sig):Prop where
 var:∀s,varE spl fs s=0→(findS env s).isSome=true
 arr:∀s,arrE fs s=0→(findS env (elemName s 0)).isSome=true
 bnd:∀s,inB s bd=true→(findS env s).isSome=true
theorem find_more{nm:ByteArray}{x:Int}{env:List Sig}{s:ByteArray}(h:(findS env s).isSome=true):(findS (⟨nm,x⟩::env) s).isSome=true:=by
 simp only[findS];split
 ·rfl
 ·exact h
theorem EnvOk.more{bd:List ByteArray}{env:List Sig}(h:EnvOk spl fs bd env)(nm:ByteArray)(x:Int):EnvOk spl fs (bd++[nm]) (⟨nm,x⟩::env):=
 ⟨fun s hs=>find_more (h.var s hs),fun s hs=>find_more (h.arr s hs),fun s hs=>by
   rw[inB_app,inB_one,Bool.or_eq_true,decide_eq_true_eq]at hs;rcases hs with hs|rfl
   ·exact find_more (h.bnd s hs)
   ·simp only[findS,if_true];rfl⟩
theorem allN_nodes(ops:List Int)(P:ByteArray→Prop)(e:Ex):(∀n,n∈nodesE e→n.op∈ops→P n.name)→allN ops P e:=by
 induction e using Ex.ind with
 | h o n s l ih=>
 intro h;rw[allN];refine⟨fun ho=>h (.mk o n s l) (by rw[nodesE];exact List.mem_cons_self ..) ho,?_⟩
 have:∀r:List Ex,(∀a,a∈r→a∈l)→allNs ops P r:=by
  intro r
  induction r with
  | nil=>intro _;rw[allNs];trivial
  | cons a r ihr=>
   intro hm;rw[allNs];exact⟨ih a (hm a (List.mem_cons_self ..)) fun n hn=>h n (by rw[nodesE];exact List.mem_cons_of_mem _ (nodesL_mem.2 ⟨a,hm a (List.mem_cons_self ..),hn⟩)),ihr fun x hx=>hm x (List.mem_cons_of_mem _ hx)⟩
 exact this l fun _ h=>h
theorem known_of{bd:List ByteArray}{env:List Sig}(h:EnvOk spl fs bd env){e:Ex}(he:exprC spl fs bd e=0):knownB env e=true:=by
 rw[exprC_zero]at he;rw[known_iff];refine⟨allN_nodes _ _ _ fun n hn ho=>?_,allN_nodes _ _ _ fun n hn ho=>?_⟩
 ·have h2:n.op=2:=by simpa using ho
  have:=he n hn;unfold nodeC at this;rw[if_pos h2]at this;by_cases hb:inB n.name bd=true
  ·exact h.bnd _ hb
  ·rw[if_neg hb]at this;exact h.var _ this
 ·have h2:n.op=3∨n.op=24:=by simpa using ho
  have:=he n hn;unfold nodeC at this;rw[if_neg (by omega),if_pos h2]at this;exact h.arr _ this
theorem vE_val{bd:List ByteArray}{env:List Sig}(h:EnvOk spl fs bd env){e:Ex}(hv:validE e=0)(he:exprC spl fs bd e=0):vE env e=valE env e:=by
 unfold vE evalE;rw[if_pos hv,if_pos (known_of spl fs h he)]
theorem vldX_mem{l:List It}{d:Nat}(h:rvl l d=0){x:It}(hx:x∈l):shapeE x d=0∧rvl x.items (d+1)=0∧rvl x.els (d+1)=0:=by
 induction l with
 | nil=>cases hx
 | cons a r ih=>
  rw[rvl,rv1_eq]at h;by_cases h1:shapeE a d=0
  ·rw[if_pos h1]at h;by_cases h2:rvl a.items (d+1)=0
   ·rw[if_pos h2]at h;by_cases h3:rvl a.els (d+1)=0
    ·rw[if_pos h3]at h;rcases List.mem_cons.1 hx with rfl|hx
     ·exact⟨h1,h2,h3⟩
     ·exact ih h hx
    ·rw[if_neg h3]at h;exact absurd h h3
   ·rw[if_neg h2,if_neg h2]at h;exact absurd h h2
  ·rw[if_neg h1,if_neg h1]at h;exact absurd h h1
theorem shape_expr{x:It}{d:Nat}(h:shapeE x d=0)(hk:x.kind=1∨x.kind=2∨x.kind=4):validE x.ex=0:=by
 unfold shapeE at h;split at h
 ·cases h
 ·rw[if_neg (by omega),if_neg (by omega),if_neg (by omega)]at h;exact h
theorem shape_each{x:It}{d:Nat}(h:shapeE x d=0)(hk:x.kind=5):nameB x.idx=true:=by
 have hn:¬(¬(1≤x.kind∧x.kind≤6)∨plainB x=false∨4<d∨0<d∧(x.kind=3∨x.kind=6)):=fun hh=>by
  unfold shapeE at h;rw[if_pos hh]at h;cases h
 have e:shapeE x d=eachE x:=by
  unfold shapeE;rw[if_neg hn,if_neg (show ¬x.kind=3 by omega),if_neg (show ¬x.kind=6 by omega),if_pos hk]
 rw[e]at h;unfold eachE at h;by_cases hb:nameB x.name=true∧nameB x.idx=true
 ·exact hb.2
 ·rw[if_neg hb]at h;cases h
theorem hlds_val:∀(k:Nat) (l:List It) (d:Nat) (bd:List ByteArray) (env:List Sig),rvl l d=0→wkE (oneE spl fs) l d bd=0→EnvOk spl fs bd env→hlds fs vE k l env=hlds fs valE k l env:=by
 intro k
 induction k with
 | zero=>intro l d bd env _ _ _;rfl
 | succ k ih=>
  intro l d bd env hv hl he;rw[hlds,hlds]
  have hall:∀(f g:It→Bool),(∀x,x∈l→f x=g x)→l.all f=l.all g:=by
   intro f g h;rw[Bool.eq_iff_iff,List.all_eq_true,List.all_eq_true];exact⟨fun hh x hx=>by rw[←h x hx];exact hh x hx,fun hh x hx=>by rw[h x hx];exact hh x hx⟩
  refine hall _ _ fun x hx=>?_;obtain⟨s1,s2,s3⟩:=vldX_mem hv hx;obtain⟨h1,h2,h3⟩:=(wkE_mem _ _ _ _).1 hl x hx;unfold oneE at h1;by_cases k1:x.kind=1
  ·rw[if_neg (by omega),if_neg (by omega),if_neg (by omega)]at h1;rw[vE_val spl fs he (shape_expr s1 (.inl k1)) h1];simp[k1]
  ·by_cases k4:x.kind=4
   ·rw[if_neg (by omega),if_neg (by omega),if_neg (by omega)]at h1;have hb:bnd x bd=bd:=if_neg (by omega);have hd:dep x d=d+1:=if_pos (.inl k4);rw[hb,hd]at h2;rw[hd]at h3;rw[vE_val spl fs he (shape_expr s1 (.inr (.inr k4))) h1,ih _ _ _ _ s2 h2 he,ih _ _ _ _ s3 h3 he];simp[k4]
   ·by_cases k5:x.kind=5
    ·have hb:bnd x bd=bd++[x.idx]:=if_pos k5;have hd:dep x d=d+1:=if_pos (.inr k5);rw[hb,hd]at h2;simp only[fun(j:Nat)=>ih _ _ _ _ s2 h2 (he.more spl fs x.idx (j:Int))];simp[k5]
    ·simp[k1,k4,k5]
mutual
def noIx(ix:ByteArray):List It→Prop
 | []=>True
 | x::r=>noIx1 ix x∧noIx ix r
def noIx1(ix:ByteArray):It→Prop
 | .mk k _ _ i _ l m _ _=>(k=5→i≠ix)∧noIx ix l∧noIx ix m
end
theorem noIx1_eq(ix:ByteArray)(x:It):noIx1 ix x↔(x.kind=5→x.idx≠ix)∧noIx ix x.items∧noIx ix x.els:=by cases x;rw[noIx1];rfl
theorem noIx_mem{ix:ByteArray}{l:List It}(h:noIx ix l){x:It}(hx:x∈l):noIx1 ix x:=by
 induction l with
 | nil=>cases hx
 | cons a r ih=>
  rw[noIx]at h;rcases List.mem_cons.1 hx with rfl|hx
  ·exact h.1
  ·exact ih h.2 hx
theorem noIx_chk(ix:ByteArray):∀(l:List It) (d:Nat) (bd:List ByteArray),inB ix bd=true→wkE (oneE spl fs) l d bd=0→noIx ix l:=by
 refine its_ind (fun d bd _ _=>by rw[noIx];trivial) fun x r h1 h2 h3 d bd hb h=>?_;rw[wkE_mem]at h;obtain⟨g1,g2,g3⟩:=h x (List.mem_cons_self ..);rw[noIx,noIx1_eq];refine⟨⟨fun hk hx=>?_,h1 _ _ ?_ g2,h2 _ _ hb g3⟩,h3 _ _ hb ((wkE_mem _ _ _ _).2 fun y hy=>h y (List.mem_cons_of_mem _ hy))⟩
 ·unfold oneE at g1;rw[if_neg (by omega),if_neg (by omega),if_pos hk]at g1;by_cases ha:arrE fs x.name≠0
  ·rw[if_pos ha]at g1;exact absurd g1 ha
  ·rw[if_neg ha,if_pos (.inr (by rw[hx];exact hb))]at g1;cases g1
 ·unfold bnd;split
  ·rw[inB_app,hb];rfl
  ·exact hb
mutual
theorem valE_congr{env env':List Sig}(h:∀s,findS env s=findS env' s):∀e,valE env e=valE env' e
 | .mk o n s l=>by
  have h2:∀k,sumTo env s k=sumTo env' s k:=by
   intro k
   induction k with
   | zero=>rfl
   | succ k ih=>simp only[sumTo,ih,h]
  rw[valE,valE,valL_congr h l];unfold leafS;rw[h s,h2];cases valL env' l<;>simp only[atS,h]
theorem valL_congr{env env':List Sig}(h:∀s,findS env s=findS env' s):∀l,valL env l=valL env' l
 | []=>rfl
 | a::r=>by rw[valL,valL,valE_congr h a,valL_congr h r]
end
theorem hlds_congr:∀(k:Nat) (l:List It) (env env':List Sig),(∀s,findS env s=findS env' s)→hlds fs valE k l env=hlds fs valE k l env':=by
 intro k
 induction k with
 | zero=>intro l env env' _;rfl
 | succ k ih=>
  intro l env env' h;rw[hlds,hlds];simp only[valE_congr h,fun l=>ih l env env' h,fun l (y:Sig)=>ih l (y::env) (y::env') fun s=>by simp only[findS,h]]
theorem val_const(env:List Sig)(j:Int):valE env (constE j)=j:=by
 unfold constE;rw[valE];unfold leafS;rw[if_pos rfl]
theorem hlds_sub{ix:ByteArray}(hn:nameB ix=true){j:Int}(hj:Wd j):∀(k:Nat) (l:List It) (env:List Sig),noIx ix l→hlds fs valE k (subIs ix (constE j) l) env=hlds fs valE k l (⟨ix,j⟩::env):=by
 intro k
 induction k with
 | zero=>intro l env _;rfl
 | succ k ih=>
  intro l env hl;rw[hlds,hlds,subIs_map,List.all_map]
  have hall:∀(f g:It→Bool),(∀x,x∈l→f x=g x)→l.all f=l.all g:=by
   intro f g h;rw[Bool.eq_iff_iff,List.all_eq_true,List.all_eq_true];exact⟨fun hh x hx=>by rw[←h x hx];exact hh x hx,fun hh x hx=>by rw[h x hx];exact hh x hx⟩
  refine hall _ _ fun x hx=>?_;obtain⟨g1,g2,g3⟩:=(noIx1_eq _ _).1 (noIx_mem hl hx);rw[Function.comp,subI_eq]
  show((!decide (x.kind=1) || !decide (valE env (subE ix (constE j) x.ex)=0))&&(!decide (x.kind=4)||(if valE env (subE ix (constE j) x.ex)=0 then hlds fs valE k (subIs ix (constE j) x.els) env else hlds fs valE k (subIs ix (constE j) x.items) env)) &&
   (!decide (x.kind=5)||(List.range (fszN fs x.name)).all fun(i:Nat)=>hlds fs valE k (subIs ix (constE j) x.items) (⟨x.idx,(i:Int)⟩::env)))=_
  have hv:=subst_val hn (constE j) (val_const env j) hj x.ex;generalize valE env (subE ix (constE j) x.ex)=u at hv ⊢;subst hv;rw[ih _ env g2,ih _ env g3];simp only[fun env=>ih _ env g2];by_cases k5:x.kind=5
  ·have hne:=g1 k5
   have:∀i:Nat,hlds fs valE k x.items (⟨ix,j⟩::⟨x.idx,(i:Int)⟩::env)=hlds fs valE k x.items (⟨x.idx,(i:Int)⟩::⟨ix,j⟩::env):=fun i=>hlds_congr fs k _ _ _ fun s=>by
    simp only[findS];by_cases h1:ix=s
    ·have h2:¬x.idx=s:=fun h=>hne (h.trans h1.symm);simp only[if_pos h1,if_neg h2]
    ·simp only[if_neg h1]
   simp only[this]
  ·simp[k5]
def hard(v:Ex→Int)(X:List It):Bool:=X.all fun x=>!decide (x.kind=1) || !decide (v x.ex=0)
def offB(env:List Sig)(q:Option Ex):Bool:=match q with|none=>false|some c=>decide (valE env c=0)
theorem val_not(env:List Sig)(e:Ex):valE env (notE e)=0↔¬valE env e=0:=by
 have:valE env (notE e)=b2i (valE env e==0):=by
  unfold notE;rw[valE,valL,valL];simp[leafS,operS,singleS]
 rw[this];by_cases h:valE env e=0
 ·simp[h,b2i]
 ·simp[h,b2i]
theorem val_two(env:List Sig)(op:Int)(h1:op=19∨op=21)(c e:Ex):valE env (.mk op 0 ⟨#[]⟩ [c,e])=doubleS op (valE env c) (valE env e):=by
 rw[valE,valL,valL,valL];rcases h1 with rfl|rfl<;>simp[leafS,operS]
theorem hard_app(v:Ex→Int)(X Y:List It):hard v (X++Y)=(hard v X&&hard v Y):=by unfold hard;rw[List.all_append]
theorem hard_flat{α:Type}(v:Ex→Int)(f:α→List It)(l:List α):hard v (l.flatMap f)=l.all fun a=>hard v (f a):=by
 induction l with
 | nil=>rfl
 | cons a r ih=>rw[List.flatMap_cons,hard_app,ih];rfl
theorem off_both(env:List Sig)(q:Option Ex)(e:Ex):offB env (some (underE 19 q e))=(offB env q||decide (valE env e=0)):=by
 cases q with
 | none=>rfl
 | some c=>
  show decide (valE env (.mk 19 0 ⟨#[]⟩ [c,e])=0)=(decide (valE env c=0)||decide (valE env e=0))
  rw[val_two env 19 (.inl rfl)];by_cases h1:valE env c=0<;>by_cases h2:valE env e=0<;>simp[doubleS,b2i,h1,h2]
theorem off_impl(env:List Sig)(q:Option Ex)(e:Ex):decide (valE env (underE 21 q e)=0)=(!offB env q&&decide (valE env e=0)):=by
 cases q with
 | none=>rfl
 | some c=>
  show decide (valE env (.mk 21 0 ⟨#[]⟩ [c,e])=0)=(!decide (valE env c=0)&&decide (valE env e=0))
  rw[val_two env 21 (.inr rfl)];by_cases h1:valE env c=0<;>by_cases h2:valE env e=0<;>simp[doubleS,b2i,h1,h2]
mutual
def ixOk:List It→Prop
 | []=>True
 | x::r=>ixOk1 x∧ixOk r
def ixOk1:It→Prop
 | .mk k _ _ i _ l m _ _=>(k=5→nameB i=true∧noIx i l)∧ixOk l∧ixOk m
end
theorem ixOk1_eq(x:It):ixOk1 x↔(x.kind=5→nameB x.idx=true∧noIx x.idx x.items)∧ixOk x.items∧ixOk x.els:=by cases x;rw[ixOk1];rfl
theorem ixOk_mem{l:List It}(h:ixOk l){x:It}(hx:x∈l):ixOk1 x:=by
 induction l with
 | nil=>cases hx
 | cons a r ih=>
  rw[ixOk]at h;rcases List.mem_cons.1 hx with rfl|hx
  ·exact h.1
  ·exact ih h.2 hx
theorem noIx_sub(ix nm:ByteArray)(b:Ex):∀l:List It,noIx ix l→noIx ix (subIs nm b l):=by
 refine its_ind (fun h=>by rw[subIs];exact h) fun x r h1 h2 h3 h=>?_;rw[noIx,noIx1_eq]at h;rw[subIs,noIx,noIx1_eq,subI_eq];exact⟨⟨h.1.1,h1 h.1.2.1,h2 h.1.2.2⟩,h3 h.2⟩
theorem ixOk_sub(nm:ByteArray)(b:Ex):∀l:List It,ixOk l→ixOk (subIs nm b l):=by
 refine its_ind (fun h=>by rw[subIs];exact h) fun x r h1 h2 h3 h=>?_;rw[ixOk,ixOk1_eq]at h;rw[subIs,ixOk,ixOk1_eq,subI_eq];exact⟨⟨fun hk=>⟨(h.1.1 hk).1,noIx_sub _ _ _ _ (h.1.1 hk).2⟩,h1 h.1.2.1,h2 h.1.2.2⟩,h3 h.2⟩
theorem ixOk_chk:∀(l:List It) (d d':Nat) (bd:List ByteArray),rvl l d=0→wkE (oneE spl fs) l d' bd=0→ixOk l:=by
 refine its_ind (fun d d' bd _ _=>by rw[ixOk];trivial) fun x r h1 h2 h3 d d' bd hv hl=>?_;obtain⟨s1,s2,s3⟩:=vldX_mem hv (List.mem_cons_self ..);have hl':=(wkE_mem _ _ _ _).1 hl;obtain⟨g1,g2,g3⟩:=hl' x (List.mem_cons_self ..)
 have hr:rvl r d=0:=by
  rw[rvl]at hv;split at hv
  ·exact hv
  ·rename_i hn;exact absurd hv hn
 rw[ixOk,ixOk1_eq];refine⟨⟨fun hk=>⟨shape_each s1 hk,noIx_chk spl fs x.idx _ _ _ ?_ g2⟩,h1 _ _ _ s2 g2,h2 _ _ _ s3 g3⟩,h3 _ _ _ hr ((wkE_mem _ _ _ _).2 fun y hy=>hl' y (List.mem_cons_of_mem _ hy))⟩;rw[show bnd x bd=bd++[x.idx]from if_pos hk,inB_app,inB_one,decide_eq_true rfl,Bool.or_true]
theorem all_or{α:Type}(c:Bool)(f:α→Bool)(l:List α):(l.all fun a=>c||f a)=(c||l.all f):=by
 induction l with
 | nil=>cases c<;>rfl
 | cons a r ih=>rw[List.all_cons,List.all_cons,ih];cases c<;>rfl
theorem all_congr{α:Type}{l:List α}{f g:α→Bool}(h:∀x,x∈l→f x=g x):l.all f=l.all g:=by
 rw[Bool.eq_iff_iff,List.all_eq_true,List.all_eq_true];exact⟨fun hh x hx=>by rw[←h x hx];exact hh x hx,fun hh x hx=>by rw[h x hx];exact hh x hx⟩
theorem hard_exps(hf:∀s,fszN fs s≤8):∀(k:Nat) (l:List It) (q:Option Ex) (env:List Sig),ixOk l→hard (valE env) (exps fs k l q)=(offB env q||hlds fs valE k l env):=by
 intro k
 induction k with
 | zero=>intro l q env _;show true=(_||true);rw[Bool.or_true]
 | succ k ih=>
  intro l q env hl;rw[exps_eq,hard_flat,hlds,←all_or];refine all_congr fun x hx=>?_;obtain⟨g1,g2,g3⟩:=(ixOk1_eq x).1 (ixOk_mem hl hx);unfold exp1;by_cases k1:x.kind=1∨x.kind=2
  ·rw[if_pos k1];have e4:¬x.kind=4:=by omega
   have e5:¬x.kind=5:=by omega
   show((!decide (x.kind=1) || !decide (valE env (underE 21 q x.ex)=0))&&true)=_;rw[off_impl];rcases k1 with k1|k1
   ·simp[k1]
   ·simp[k1]
  ·rw[if_neg k1];have e1:¬x.kind=1:=fun h=>k1 (.inl h);by_cases k4:x.kind=4
   ·rw[if_pos k4,hard_app,ih _ _ _ g2,ih _ _ _ g3,off_both,off_both];have hn:=val_not env x.ex;by_cases hv:valE env x.ex=0
    ·have:¬valE env (notE x.ex)=0:=fun h=>hn.1 h hv;simp[k4,hv,this]
    ·have:=hn.2 hv;simp[k4,hv,this]
   ·rw[if_neg k4];by_cases k5:x.kind=5
    ·rw[if_pos k5,hard_flat]
     have e:∀j,j∈List.range (fszN fs x.name)→hard (valE env) (exps fs k (subIs x.idx (constE (j:Int)) x.items) q)=(offB env q||hlds fs valE k x.items (⟨x.idx,(j:Int)⟩::env)):=fun j hj=>by
      have hj:=List.mem_range.1 hj;have:=hf x.name;rw[ih _ _ _ (ixOk_sub _ _ _ g2),hlds_sub fs (g1 k5).1 ⟨by omega,by omega⟩ k _ env (g1 k5).2]
     rw[all_congr e,all_or];simp[k5]
    ·rw[if_neg k5];split
     ·rename_i k3;show((!decide (x.kind=1)||_)&&true)=_;simp[k3]
     ·show((!decide (x.kind=1)||_)&&true)=_;simp[e1,k4,k5]
end
end Go.Proofs.YthoebpnbhgmoiaaGreatDoor
