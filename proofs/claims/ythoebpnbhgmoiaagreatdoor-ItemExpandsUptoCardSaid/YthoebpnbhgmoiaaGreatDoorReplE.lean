import Derived.Test.YthoebpnbhgmoiaaGreatDoorProg
import Derived.Test.YthoebpnbhgmoiaaGreatDoorA20
import Derived.KernelRfl
import Derived.Test.YthoebpnbhgmoiaaGreatDoorK3
import Derived.Test.YthoebpnbhgmoiaaGreatDoorBr8
import Derived.Test.YthoebpnbhgmoiaaGreatDoorRaw
import Derived.Test.YthoebpnbhgmoiaaGreatDoorSha
import Derived.Test.YthoebpnbhgmoiaaGreatDoorRSubst
import Derived.Test.YthoebpnbhgmoiaaGreatDoorIt1
import Derived.Test.YthoebpnbhgmoiaaGreatDoorItv
import Derived.Test.YthoebpnbhgmoiaaGreatDoorBrief
namespace Go.Proofs.YthoebpnbhgmoiaaGreatDoor
open Go.RowKit
set_option maxRecDepth 100000
set_option linter.unusedVariables false
set_option linter.unusedSimpArgs false
end Go.Proofs.YthoebpnbhgmoiaaGreatDoor
namespace Go.Proofs.YthoebpnbhgmoiaaGreatDoor
open Go.RowKit
section
variable {C : Cx} {n0 : Nat}
end
end Go.Proofs.YthoebpnbhgmoiaaGreatDoor
namespace Go.Proofs.YthoebpnbhgmoiaaGreatDoor
open Go.RowKit
theorem inB_app(s:ByteArray)(l r:List ByteArray):inB s (l++r)=(inB s l||inB s r):=by
 unfold inB;rw[List.any_append]
theorem inB_one(s t:ByteArray):inB s [t]=decide (t=s):=by unfold inB;simp
theorem wkE_mem(f:It→Nat→List ByteArray→Int)(l:List It)(d:Nat)(bd:List ByteArray):wkE f l d bd=0↔∀x,x∈l→f x d bd=0∧wkE f x.items (dep x d) (bnd x bd)=0∧wkE f x.els (dep x d) bd=0:=by
 induction l with
 | nil=>simp[wkE_nil]
 | cons a r ih=>
  rw[wkE_cons,List.forall_mem_cons,←ih];by_cases h1:f a d bd=0
  ·rw[if_pos h1];by_cases h2:wkE f a.items (dep a d) (bnd a bd)=0
   ·rw[if_pos h2];by_cases h3:wkE f a.els (dep a d) bd=0
    ·rw[if_pos h3];exact⟨fun h=>⟨⟨h1,h2,h3⟩,h⟩,fun h=>h.2⟩
    ·rw[if_neg h3];exact⟨fun h=>absurd h h3,fun h=>absurd h.1.2.2 h3⟩
   ·rw[if_neg h2];exact⟨fun h=>absurd h h2,fun h=>absurd h.1.2.1 h2⟩
  ·rw[if_neg h1];exact⟨fun h=>absurd h h1,fun h=>absurd h.1.1 h1⟩
theorem nodesL_mem{l:List Ex}{n:Ex}:n∈nodesL l↔∃a,a∈l∧n∈nodesE a:=by
 induction l with
 | nil=>simp[nodesL]
 | cons b r ih=>rw[nodesL,List.mem_append,ih];simp
theorem nodes_sub(nm:ByteArray)(c:Int)(e:Ex):∀n,n∈nodesE (subE nm (constE c) e)→n.op=1∨∃m,m∈nodesE e∧m.op=n.op∧m.name=n.name∧¬(n.op=2∧n.name=nm):=by
 induction e using Ex.ind with
 | h o k s l ih=>
 intro n hn;rw[subE]at hn;split at hn
 ·left;unfold constE at hn;rw[nodesE,nodesL]at hn;rw[List.mem_singleton.1 hn];rfl
 ·rename_i hc;rw[nodesE]at hn;rcases List.mem_cons.1 hn with rfl|hn
  ·refine .inr ⟨.mk o k s l,by rw[nodesE];exact List.mem_cons_self ..,rfl,rfl,fun h=>hc ?_⟩;have h:o=2∧s=nm:=h;simp[h.1,h.2]
  ·rw[subsE_map,nodesL_mem]at hn;obtain⟨a,ha,hn⟩:=hn;obtain⟨b,hb,rfl⟩:=List.mem_map.1 ha;rcases ih b hb n hn with h|⟨m,h1,h2⟩
   ·exact .inl h
   ·exact .inr ⟨m,by rw[nodesE];exact List.mem_cons_of_mem _ (nodesL_mem.2 ⟨b,hb,h1⟩),h2⟩
section
variable (spl : ByteArray → Option (ByteArray × Int)) (fs : List (ByteArray × Int))
theorem first_zero(l:List Int):firstE l=0↔∀a,a∈l→a=0:=by
 unfold firstE;cases h:l.find? (· ≠ 0)with
 | none=>
  rw[List.find?_eq_none]at h;exact⟨fun _ a ha=>by have:=h a ha;simpa using this,fun _=>rfl⟩
 | some x=>
  have h1:=List.find?_some h;have h2:=List.mem_of_find?_eq_some h;have h1:x≠0:=by simpa using h1
  exact⟨fun hx=>absurd hx h1,fun hx=>absurd (hx x h2) h1⟩
theorem exprC_zero(bd:List ByteArray)(e:Ex):exprC spl fs bd e=0↔∀n,n∈nodesE e→nodeC spl fs bd n=0:=by
 unfold exprC;rw[first_zero];simp
def Less(ix:ByteArray)(bd' bd:List ByteArray):Prop:=∀s,inB s bd'=(inB s bd||decide (s=ix))
theorem Less.app{ix:ByteArray}{bd' bd:List ByteArray}(h:Less ix bd' bd)(y:ByteArray):Less ix (bd'++[y]) (bd++[y]):=fun s=>by
 rw[inB_app,inB_app,h s];cases inB s bd<;>cases inB s [y]<;>cases decide (s=ix)<;>rfl
theorem Less.start(ix:ByteArray)(bd:List ByteArray):Less ix (bd++[ix]) bd:=fun s=>by
 rw[inB_app,inB_one];congr 1;exact decide_eq_decide.2 ⟨Eq.symm,Eq.symm⟩
theorem exprC_sub{ix:ByteArray}{bd' bd:List ByteArray}(h:Less ix bd' bd)(c:Int){e:Ex}(he:exprC spl fs bd' e=0):exprC spl fs bd (subE ix (constE c) e)=0:=by
 rw[exprC_zero]at he ⊢;intro n hn;rcases nodes_sub ix c e n hn with h1|⟨m,h1,h2,h3,h4⟩
 ·unfold nodeC;rw[h1];rfl
 ·have:=he m h1;unfold nodeC at this ⊢;rw[h2,h3]at this;by_cases e2:n.op=2
  ·rw[if_pos e2]at this ⊢;have e3:¬n.name=ix:=fun h=>h4 ⟨e2,h⟩;rw[h n.name,decide_eq_false e3,Bool.or_false]at this;exact this
  ·rw[if_neg e2]at this ⊢;exact this
theorem one_sub{ix:ByteArray}{bd' bd:List ByteArray}(h:Less ix bd' bd)(c:Int){x:It}{d:Nat}(hx:oneE spl fs x d bd'=0):oneE spl fs (subI ix (constE c) x) d bd=0:=by
 rw[subI_eq];unfold oneE at hx ⊢;show(if x.kind=3 then _ else if x.kind=6 then _ else if x.kind=5 then _ else exprC spl fs bd (subE ix (constE c) x.ex))=0;split
 ·rename_i h3;rw[if_pos h3]at hx;exact hx
 ·rename_i h3;rw[if_neg h3]at hx;split
  ·rename_i h6;rw[if_pos h6]at hx;exact hx
  ·rename_i h6;rw[if_neg h6]at hx;split
   ·rename_i h5;rw[if_pos h5]at hx;show(if arrE fs x.name≠0 then arrE fs x.name else if(fsz fs x.idx).isSome=true∨inB x.idx bd=true then 8 else 0)=0;by_cases ha:arrE fs x.name≠0
    ·rw[if_pos ha]at hx;exact absurd hx ha
    ·rw[if_neg ha]at hx ⊢;by_cases hb:(fsz fs x.idx).isSome=true∨inB x.idx bd'=true
     ·rw[if_pos hb]at hx;cases hx
     ·rw[if_neg fun hh=>hb (hh.imp_right fun hh=>by rw[h x.idx,hh];rfl)]
   ·rename_i h5;rw[if_neg h5]at hx;exact exprC_sub spl fs h c hx
theorem chk_sub(ix:ByteArray)(c:Int):∀(l:List It) (d:Nat) (bd' bd:List ByteArray),Less ix bd' bd→wkE (oneE spl fs) l d bd'=0→wkE (oneE spl fs) (subIs ix (constE c) l) d bd=0:=by
 refine its_ind (fun d bd' bd _ _=>by rw[subIs,wkE_nil]) fun x r h1 h2 h3 d bd' bd hb h=>?_;rw[wkE_mem]at h;have hx:=h x (List.mem_cons_self ..);rw[subIs,wkE_mem,List.forall_mem_cons,←wkE_mem];have ek:(subI ix (constE c) x).kind=x.kind:=by rw[subI_eq];rfl
 have ei:(subI ix (constE c) x).idx=x.idx:=by rw[subI_eq];rfl
 have e1:(subI ix (constE c) x).items=subIs ix (constE c) x.items:=by rw[subI_eq];rfl
 have e2:(subI ix (constE c) x).els=subIs ix (constE c) x.els:=by rw[subI_eq];rfl
 have ed:dep (subI ix (constE c) x) d=dep x d:=by unfold dep;rw[ek]
 have eb:bnd (subI ix (constE c) x) bd=bnd x bd:=by unfold bnd;rw[ek,ei]
 rw[ed,eb,e1,e2];refine⟨⟨one_sub spl fs hb c hx.1,h1 _ _ _ ?_ hx.2.1,h2 _ _ _ hb hx.2.2⟩,h3 _ _ _ hb ((wkE_mem _ _ _ _).2 fun y hy=>h y (List.mem_cons_of_mem _ hy))⟩;unfold bnd;split
 ·exact hb.app _
 ·exact hb
theorem exprC_under{op:Int}(ho:op≠2∧op≠3∧op≠24){q:Option Ex}(hq:∀c,q=some c→exprC spl fs [] c=0){e:Ex}(he:exprC spl fs [] e=0):exprC spl fs [] (underE op q e)=0:=by
 cases q with
 | none=>exact he
 | some c=>
  have hc:=hq c rfl;rw[exprC_zero]at hc he ⊢;intro n hn;unfold underE at hn;rw[nodesE,nodesL,nodesL,nodesL,List.append_nil,List.mem_cons,List.mem_append]at hn;rcases hn with rfl|hn|hn
  ·unfold nodeC;rw[if_neg (show ¬(Ex.mk op 0 ⟨#[]⟩ [c,e]).op=2 from ho.1),if_neg (show ¬((Ex.mk op 0 ⟨#[]⟩ [c,e]).op=3∨(Ex.mk op 0 ⟨#[]⟩ [c,e]).op=24)from fun h=>h.elim ho.2.1 ho.2.2)]
  ·exact hc n hn
  ·exact he n hn
theorem exprC_not{e:Ex}(he:exprC spl fs [] e=0):exprC spl fs [] (notE e)=0:=by
 rw[exprC_zero]at he ⊢;intro n hn;unfold notE at hn;rw[nodesE,nodesL,nodesL,List.append_nil,List.mem_cons]at hn;rcases hn with rfl|hn
 ·rfl
 ·exact he n hn
structure Flat(y:It):Prop where
 one:oneE spl fs y 0 []=0
 form:(∃e,y=itE y.kind e∧(y.kind=1∨y.kind=2))∨(itD y=y∧y.kind=3)∨(itS y=y∧y.kind=6)
theorem exps_flat:∀(k:Nat) (l:List It) (d:Nat) (q:Option Ex),frm l d→wkE (oneE spl fs) l d []=0→(∀c,q=some c→exprC spl fs [] c=0)→∀y,y∈exps fs k l q→Flat spl fs y:=by
 intro k
 induction k with
 | zero=>intro l d q _ _ _ y hy;cases hy
 | succ k ih=>
  intro l d q hf hl hq y hy;rw[exps_eq,List.mem_flatMap]at hy;obtain⟨x,hx,hy⟩:=hy;obtain⟨h1,h2,h3⟩:=(wkE_mem _ _ _ _).1 hl x hx;obtain⟨g1,g2,g3,g4,g5⟩:=(frm1_eq x d).1 (frm_mem hf hx);unfold exp1 at hy;unfold oneE at h1;split at hy
  ·rename_i hk;rw[if_neg (by omega),if_neg (by omega),if_neg (by omega)]at h1;rw[List.mem_singleton.1 hy];refine⟨?_,.inl ⟨_,rfl,hk⟩⟩;unfold oneE;show(if x.kind=3 then _ else if x.kind=6 then _ else if x.kind=5 then _ else exprC spl fs [] (underE 21 q x.ex))=0;rw[if_neg (by omega),if_neg (by omega),if_neg (by omega)];exact exprC_under spl fs (by decide) hq h1
  ·split at hy
   ·rename_i hk;rw[if_neg (by omega),if_neg (by omega),if_neg (by omega)]at h1;have hb:bnd x []=[]:=if_neg (by omega);have hd:dep x d=d+1:=if_pos (.inl hk);rw[hb,hd]at h2;rw[hd]at h3;rcases List.mem_append.1 hy with hy|hy
    ·exact ih _ _ _ g4 h2 (fun c hc=>by cases hc;exact exprC_under spl fs (by decide) hq h1) y hy
    ·exact ih _ _ _ g5 h3 (fun c hc=>by cases hc;exact exprC_under spl fs (by decide) hq (exprC_not spl fs h1)) y hy
   ·split at hy
    ·rename_i hk;rw[List.mem_flatMap]at hy;obtain⟨j,-,hy⟩:=hy;have hb:bnd x []=[]++[x.idx]:=if_pos hk;have hd:dep x d=d+1:=if_pos (.inr hk);rw[hb,hd]at h2;exact ih _ _ _ (frm_sub _ _ _ _ g4) (chk_sub spl fs _ _ _ _ _ _ (.start _ _) h2) hq y hy
    ·split at hy
     ·rename_i hk;rw[if_pos hk]at h1;rw[List.mem_singleton.1 hy];refine⟨?_,.inr (.inl ⟨rfl,hk⟩)⟩;unfold oneE;show(if x.kind=3 then(if eithB spl fs x.name=true then 0 else 7)else _)=0;rw[if_pos hk];exact h1
     ·rename_i hk;have hk6:x.kind=6:=by omega
      rw[if_neg hk,if_pos hk6]at h1;rw[List.mem_singleton.1 hy];refine⟨?_,.inr (.inr ⟨rfl,hk6⟩)⟩;unfold oneE;show(if x.kind=3 then _ else if x.kind=6 then(if(x.bef++x.aft).all (eithB spl fs)=true then 0 else 7)else _)=0;rw[if_neg hk,if_pos hk6];exact h1
end
end Go.Proofs.YthoebpnbhgmoiaaGreatDoor
namespace Go.Proofs.YthoebpnbhgmoiaaGreatDoor
open Go.RowKit
mutual
def allN(ops:List Int)(P:ByteArray→Prop):Ex→Prop
 | .mk o _ s l=>(o∈ops→P s)∧allNs ops P l
def allNs(ops:List Int)(P:ByteArray→Prop):List Ex→Prop
 | []=>True
 | a::r=>allN ops P a∧allNs ops P r
end
theorem addName_all(ops:List Int)(P:ByteArray→Prop)(l:List ByteArray)(o:Int)(s:ByteArray):(∀t,t∈addName ops l o s→P t)↔(∀t,t∈l→P t)∧(o∈ops→P s):=by
 unfold addName;by_cases h1:o∈ops
 ·by_cases h2:s∈l
  ·have:inB s l=true:=by cases h:inB s l with|true=>rfl|false=>exact absurd h2 (inB_not.1 h)
   simp only[this,h1,true_and,Bool.true_eq_false,if_false,true_implies];exact⟨fun h=>⟨h,h s h2⟩,fun h=>h.1⟩
  ·have:inB s l=false:=inB_not.2 h2;simp only[this,h1,true_and,if_true,true_implies,List.mem_append,List.mem_singleton];exact⟨fun h=>⟨fun t ht=>h t (.inl ht),h s (.inr rfl)⟩,fun h t ht=>ht.elim (h.1 t) (fun e=>e▸h.2)⟩
 ·simp only[h1,false_and,if_false,false_implies,and_true]
theorem walk_all(ops:List Int)(P:ByteArray→Prop)(e:Ex):∀x,(∀s,s∈(walkE (nextName ops) e x).1→P s)↔(∀s,s∈x→P s)∧allN ops P e:=by
 induction e using Ex.ind with
 | h o m s l ih=>
 intro x
 have hL:∀(r:List Ex),(∀a,a∈r→a∈l)→∀y,(∀s,s∈(walkL (nextName ops) r y).1→P s)↔(∀s,s∈y→P s)∧allNs ops P r:=by
  intro r
  induction r with
  | nil=>intro _ y;simp[walkL,allNs]
  | cons a r ihr=>
   intro hm y;simp only[walkL,allNs,nameWalk_true,if_true];rw[ihr (fun x hx=>hm x (by simp[hx])),ih a (hm a (by simp)),and_assoc]
 simp only[walkE,allN,nextName,if_true];rw[hL l (fun _ h=>h),addName_all,and_assoc];rfl
theorem names_all(ops:List Int)(P:ByteArray→Prop)(e:Ex):(∀s,s∈namesOf ops e→P s)↔allN ops P e:=by
 have:=walk_all ops P e [];simpa[namesOf]using this
theorem elem_not{nm:ByteArray}(h:nameB nm=true)(a:ByteArray)(i:Nat):nm≠elemName a i:=by
 intro he;subst he;have hw:=nameB_word h;have hsz:(elemName a i).size=a.size+3:=by simp only[elemName,ByteArray.size,List.size_toArray,List.length_append,Array.length_toList,List.length_cons,List.length_nil]
 have h1:=wordB_no hw (k:=a.size) (by omega)
 have h2:(elemName a i)[a.size]'(by omega)=91:=by
  have h3:=get_list (elemName a i) a.size (by omega)
  have h4:(elemName a i).data.toList[a.size]? = some 91:=by
   simp only[elemName];rw[List.getElem?_append_right (by rw[Array.length_toList];exact Nat.le_refl _),Array.length_toList,show a.size-a.data.size=0 from Nat.sub_self _];rfl
  rw[h4]at h3;exact(Option.some.inj h3).symm
 rw[h2]at h1
 revert h1
 decide
section
variable {nm : ByteArray} {x : Int} {env : List Sig}
theorem find_ne(s:ByteArray)(h:nm≠s):findS (⟨nm,x⟩::env) s=findS env s:=by simp only[findS,if_neg h]
theorem find_eq(hx:Wd x):findS (⟨nm,x⟩::env) nm=some x:=by
 unfold Wd at hx;simp only[findS,if_true];congr 1;omega
theorem sumTo_ne(hnm:nameB nm=true)(a:ByteArray):∀k,sumTo (⟨nm,x⟩::env) a k=sumTo env a k
 | 0=>rfl
 | k+1=>by simp only[sumTo,sumTo_ne hnm a k,find_ne _ (elem_not hnm a k)]
theorem subst_val(hnm:nameB nm=true)(b:Ex)(hb:valE env b=x)(hx:Wd x)(e:Ex):valE env (subE nm b e)=valE (⟨nm,x⟩::env) e:=by
 induction e using Ex.ind with
 | h o m s l ih=>
 have hL:∀(r:List Ex),(∀a,a∈r→a∈l)→valL env (subsE nm b r)=valL (⟨nm,x⟩::env) r:=by
  intro r
  induction r with
  | nil=>intro _;rfl
  | cons a r ihr=>
   intro hm;simp only[subsE,valL];rw[ihr (fun x hx=>hm x (by simp[hx])),ih a (hm a (by simp))]
 rw[subE];by_cases hc:o=2∧s=nm
 ·obtain⟨rfl,rfl⟩:=hc;rw[if_pos (by simp),hb];simp only[valE,leafS];rw[if_neg (by decide)];simp only[if_true,find_eq hx];rfl
 ·rw[if_neg (by simp only[Bool.and_eq_true,beq_iff_eq,decide_eq_true_eq];exact hc)];simp only[valE,hL l (fun _ h=>h)];unfold leafS;by_cases h1:o=1
  ·simp only[if_pos h1]
  simp only[if_neg h1];by_cases h2:o=2
  ·have:nm≠s:=fun h=>hc ⟨h2,h.symm⟩;simp only[if_pos h2,find_ne s this]
  simp only[if_neg h2];by_cases h3:o=3
  ·simp only[if_pos h3];cases valL (⟨nm,x⟩::env) l with
   | nil=>rfl
   | cons y r=>simp only[atS,find_ne _ (elem_not hnm s y.toNat)]
  simp only[if_neg h3];by_cases h4:o=24
  ·simp only[if_pos h4,sumTo_ne hnm]
  ·simp only[if_neg h4]
theorem known_iff(env:List Sig)(e:Ex):knownB env e=true↔allN [2] (fun s=>(findS env s).isSome=true) e∧allN [3,24] (fun s=>(findS env (elemName s 0)).isSome=true) e:=by
 simp only[knownB,Bool.and_eq_true,List.all_eq_true];rw[names_all [2] (fun s=>(findS env s).isSome=true),names_all [3,24] (fun s=>(findS env (elemName s 0)).isSome=true)]
end
end Go.Proofs.YthoebpnbhgmoiaaGreatDoor
