import Derived.Test.YthoebpnbhgmoiaaGreatDoorIw4
import Derived.Test.YthoebpnbhgmoiaaGreatDoorAddF
set_option linter.unusedVariables false
set_option linter.unusedSimpArgs false
set_option linter.unusedSectionVars false
namespace Go.Proofs.YthoebpnbhgmoiaaGreatDoor
open Go.RowKit
abbrev xbox(m:Nat)(s:List It×Bool):List V:=[.mp m,.own 51 12 (s.1.map dit),vbool s.2]
def CV(σ:List (List V))(q:Option Ex)(cv:V):Prop:=match q with
 | none=>cv=.d (.lit (.pointer none))
 | some c=>∃j,cv=.ptr j 0∧QB σ j c
theorem QB.lt{σ:List (List V)}{j:Nat}{c:Ex}(h:QB σ j c):j<σ.length:=(List.getElem?_eq_some_iff.1 h).1
theorem get_upd{σ:List (List V)}{i j:Nat}{cs u v:List V}(L:List (List V))(hi:σ[i]? = some u)(hj:σ[j]? = some v)(hne:u≠v):(σ.set i cs++L)[j]? = some v:=by
 have h1:j<σ.length:=(List.getElem?_eq_some_iff.1 hj).1;have h2:i≠j:=fun e=>by subst e;rw[hi]at hj;cases hj;exact hne rfl
 rw[List.getElem?_append_left (by simpa using h1),List.getElem?_set_ne h2];exact hj
theorem CV.upd{σ:List (List V)}{q:Option Ex}{cv:V}(h:CV σ q cv){i m:Nat}{r cs:List V}(hx:σ[i]? = some (.mp m::r))(L:List (List V)):CV (σ.set i cs++L) q cv:=by
 cases q with
 | none=>exact h
 | some c=>
  obtain⟨j,e,hj⟩:=h;exact⟨j,e,get_upd L hx hj (fun e=>by cases e)⟩
theorem FB.upd{σ:List (List V)}{m0:Nat}{fs:List (ByteArray×Int)}(h:FB σ m0 fs){i m:Nat}{r cs:List V}(hx:σ[i]? = some (.mp m::r))(L:List (List V)):FB (σ.set i cs++L) m0 fs:=
 get_upd L hx h (fun e=>by cases e)
theorem CV.app{σ:List (List V)}{q:Option Ex}{cv:V}(h:CV σ q cv)(L:List (List V)):CV (σ++L) q cv:=by
 cases q with
 | none=>exact h
 | some c=>obtain⟨j,e,hj⟩:=h;exact⟨j,e,hj.app L⟩
theorem CV.val{σ:List (List V)}{q:Option Ex}{cv:V}(h:CV σ q cv):cv=.d (.lit (.pointer none))∨∃j,cv=.ptr j 0∧j<σ.length:=by
 cases q with
 | none=>exact .inl h
 | some c=>obtain⟨j,e,hj⟩:=h;exact .inr ⟨j,e,hj.lt⟩
theorem bb_set{σ:List (List V)}{k i:Nat}{cs:List V}(h:boxesBelow k σ=true)(hc:V.unders k cs=true):boxesBelow k (σ.set i cs)=true:=by
 unfold boxesBelow at h ⊢;rw[List.all_eq_true]at h ⊢;intro x hx;rcases List.mem_or_eq_of_mem_set hx with hx|rfl
 ·exact h x hx
 ·exact hc
theorem set_self{σ:List (List V)}{i:Nat}{cs:List V}(h:σ[i]? = some cs):σ.set i cs=σ:=by
 obtain⟨h1,h2⟩:=List.getElem?_eq_some_iff.1 h;rw[←h2,List.set_getElem_self]
set_option maxHeartbeats 4000000 in
theorem list_walk(l:List It)(hl:l.length≤1000000)(e:It→List It)(q:Option Ex)(cv:V)(i m:Nat)(fs:List (ByteArray×Int))(s:List It×Bool)(σ:List (List V))(hs:Sok s)(hf:FB σ m fs)
 (hx:σ[i]? = some (xbox m s)∨s=([],false)∧σ[i]? = some [.mp m,.nil,vbool false])(hc:CV σ q cv)
 (hone:∀x,x∈l→∀τ s,Sok s→FB τ m fs→τ[i]? = some (xbox m s)→CV τ q cv→Fun G 73 [.ptr i 0,vit x,cv] τ (fun o σ'=>o=.ret (.tup [])∧σ'=τ.set i (xbox m (push s (e x))))):
 Fun G 40 [.ptr i 0,.d (ditl l),cv] σ (fun o σ'=>o=.ret (.tup [])∧σ'=σ.set i (xbox m (push s (l.flatMap e)))):=by
 have hcv:=hc.val;refine fun_code Tryz.func40 k40 (by rcases hcv with rfl|⟨j,rfl,_⟩<;>rfl) fun hb hw=>?_;have hlm:cv.lend=cv:=by rcases hcv with rfl|⟨j,rfl,_⟩<;>rfl
 have hcm:cv.copy=cv:=by rcases hcv with rfl|⟨j,rfl,_⟩<;>rfl
 have hun:V.under σ.length cv=true:=by
  rcases hcv with rfl|⟨j,rfl,h⟩
  ·rfl
  ·simp[V.under,h]
 unfold V.lend at hlm;unfold V.copy at hcm;have hm:=hf.lt;have hi:i<σ.length:=by rcases hx with h|⟨-,h⟩<;>exact(List.getElem?_eq_some_iff.1 h).1
 have hhd:∃r,σ[i]? = some (.mp m::r):=by rcases hx with h|⟨-,h⟩<;>exact⟨_,h⟩
 obtain⟨r0,hr0⟩:=hhd;delta c40 oM oV kI kS kT kF;simp -dsimp -implicitDefEqProofs only[aw,slots0,V.copy,eq_self,reduceIte,reduceCtorEq,Nat.reduceBEq,Nat.reduceLT,Nat.reduceEqDiff,Nat.reduceAdd]
 have hu:Up σ (σ.set i (xbox m (push s []))):=by
  rw[push_nil s hs];rcases hx with h|⟨rfl,h⟩
  ·rw[set_self h];exact .refl _
  ·exact .step (i:=i) (off:=1) (cs:=[.mp m,.nil,vbool false]) 51 12 h rfl (.refl _)
 refine awp_forU (R:=fun(j:Nat) ρ σ'=>ρ=[(0,.ptr i 0),(2,cv),(8,.d (ditl l)),(9,vint .i64 l.length),(10,vint .i64 j)]∧σ'=σ.set i (xbox m (push s ((l.take j).flatMap e)))) l.length hu ⟨rfl,rfl⟩ ?_ _;rintro j ρ' σ' hj ⟨rfl,rfl⟩;by_cases hlt:j<l.length
 ·have ht:push s ((l.take (j+1)).flatMap e)=push (push s ((l.take j).flatMap e)) (e l[j]):=by
   rw[flat_take e l hlt,push_push]
  have hrest:push s (l.flatMap e)=push (push s ((l.take j).flatMap e)) ((l.drop j).flatMap e):=by
   rw[push_push,←List.flatMap_append,List.take_append_drop]
  have hok:=push_ok s hs ((l.take j).flatMap e);generalize push s ((l.take j).flatMap e)=sj at ht hrest hok ⊢;have hxx:l[j]? = some l[j]:=List.getElem?_eq_getElem hlt;have hone:=hone l[j] (List.getElem_mem hlt);generalize l[j]=x at hxx hone ht;have hbx:∀L,(σ.set i (xbox m sj)++L)[i]? = some (xbox m sj):=fun L=>by rw[List.getElem?_append_left (by simpa using hi),List.getElem?_set_self hi]
  have hbb:∀s,boxesBelow (σ.set i (xbox m s)).length (σ.set i (xbox m s))=true:=fun s=>by
   rw[List.length_set];exact bb_set hb (by simp[V.unders,V.under,hm])
  have wj:=wrap_nat hlt (show l.length≤9223372036854775807 by omega);cases hfl:sj.2 with
  | true=>
   have hp:=push_full sj hok hfl ((l.drop j).flatMap e);rw[hp]at hrest;simp -dsimp -implicitDefEqProofs only[aw,V.copy,V.cells,V.boxable,over,Nat.reduceLeDiff,eq_self,reduceIte,reduceCtorEq,Nat.reduceBEq,Nat.reduceLT,Nat.reduceEqDiff,Nat.reduceAdd,Int.ofNat_lt,hlt,decide_true,hxx,dit_eq x,hbx,hfl];exact fin_at (n0:=σ.length) (Q:=fun o σ'=>o=Out.ret (V.tup [])∧σ'=σ.set i (xbox m (push s (l.flatMap e)))) (v:=.tup []) (k:=(σ.set i (xbox m sj)).length) (τ:=σ.set i (xbox m sj)) (by simp) List.take_left (hbb sj) rfl rfl ⟨rfl,by rw[hrest]⟩
  | false=>
   have hone:=fun L=>hone (σ.set i (xbox m sj)++L) sj hok (hf.upd hr0 L) (hbx L) (hc.upd hr0 L);simp only[vit_eq]at hone;simp -dsimp -implicitDefEqProofs only[aw,V.copy,V.lend,V.lend1,V.cells,V.boxable,over,Nat.reduceLeDiff,eq_self,reduceIte,reduceCtorEq,Nat.reduceBEq,Nat.reduceLT,Nat.reduceEqDiff,Nat.reduceAdd,Int.ofNat_lt,hlt,decide_true,hxx,dit_eq x,hbx,hfl,hcm,hlm];refine fun_mono (hone _) ?_;rintro o σ' ⟨rfl,rfl⟩;rw[retK_ret,List.set_append_left _ _ (by simpa using hi),List.set_set,←ht];simp -dsimp -implicitDefEqProofs only[aw,V.copy,eq_self,reduceIte,reduceCtorEq,Nat.reduceBEq,Nat.reduceLT,Nat.reduceEqDiff,wj];exact⟨hlt,Nxt.drop (by simp) (hbb _) (by rw[List.length_set];simp[slotsBelow,V.under,hi,hun]) ⟨rfl,rfl⟩⟩
 ·simp -dsimp -implicitDefEqProofs only[aw,eq_self,reduceIte,reduceCtorEq,Nat.reduceBEq,Nat.reduceLT,Nat.reduceEqDiff,Int.ofNat_lt,hlt,decide_false];rw[List.take_of_length_le (by omega)];exact fin_at (n0:=σ.length) (Q:=fun o σ'=>o=Out.ret (V.tup [])∧σ'=σ.set i (xbox m (push s (l.flatMap e)))) (v:=.tup []) (k:=(σ.set i (xbox m (push s (l.flatMap e)))).length) (τ:=σ.set i (xbox m (push s (l.flatMap e)))) (by simp) (List.take_length ..) (by rw[List.length_set];exact bb_set hb (by simp[V.unders,V.under,hm])) rfl rfl ⟨rfl,rfl⟩
end Go.Proofs.YthoebpnbhgmoiaaGreatDoor
