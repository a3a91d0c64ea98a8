import Derived.Test.YthoebpnbhgmoiaaGreatDoorRaw
set_option linter.unusedVariables false
set_option linter.unusedSimpArgs false
set_option linter.unusedSectionVars false
namespace Go.Proofs.YthoebpnbhgmoiaaGreatDoor
open Go.RowKit
abbrev Z12:List V:=[.d (.lit (.int .i64 0)),.d (.lit (.int .i64 0)),.d (.lit (.int .i64 0)),.d (.lit (.string ⟨#[]⟩)),.nil,.d (.lit (.string ⟨#[]⟩)),.d (.lit (.string ⟨#[]⟩)),.nil,.nil,.nil,.nil,.nil]
abbrev twoOps(T:TypeId):List O:=[⟨some 19,.mv (.t 0),none⟩,⟨some 20,.mv (.t 5),none⟩,⟨some 21,.ia 12 (.t 19) (.t 20),none⟩,⟨some 22,.load 12 true (.t 21),none⟩,⟨some 23,.mv (.t 1),none⟩,⟨some 24,.mv (.t 5),none⟩,⟨some 25,.ia 12 (.t 23) (.t 24),none⟩,⟨some 26,.load 12 true (.t 25),none⟩,
 ⟨some 6,.new T Z12,none⟩,⟨some 7,.new T Z12,none⟩,⟨none,.sto 12 (.t 6) (.t 22),none⟩,⟨none,.sto 12 (.t 7) (.t 26),none⟩]
abbrev twoEs:List (List Nat):=[[],[],[0,1],[2],[],[],[4,5],[6],[],[],[8,3,0,1,2,3,8,9],[9,7,10,0,1,2,3,4,5,6,7,8,9,10]]
def twoV(ρ0:Slots)(A I R X:V)(S:Nat→Bool)(p q:Nat)(t:Nat):V:=
 if t=19 then(if S 0 then A else get ρ0 19)else if t=20 then(if S 1 then I else get ρ0 20)else if t=21 then(if S 2 then R else get ρ0 21)else if t=22 then(if S 3 then X else get ρ0 22)else
 if t=23 then(if S 4 then A else get ρ0 23)else if t=24 then(if S 5 then I else get ρ0 24)else if t=25 then(if S 6 then R else get ρ0 25)else if t=26 then(if S 7 then X else get ρ0 26)else
 if t=6 then(if S 8 then .ptr p 0 else get ρ0 6)else if t=7 then(if S 9 then .ptr q 0 else get ρ0 7)else get ρ0 t
def twoS(σ0:List (List V))(X:List V)(S:Nat→Bool)(p q:Nat)(σ:List (List V)):Prop:=
 (S 8=false∧S 9=false∧σ=σ0)∨(S 8=true∧S 9=false∧p=σ0.length∧σ=σ0++[Z12])∨(S 8=false∧S 9=true∧q=σ0.length∧σ=σ0++[Z12])∨
 (S 8=true∧S 9=true∧p=σ0.length∧q=σ0.length+1∧σ=σ0++[if S 10 then X else Z12,if S 11 then X else Z12])∨(S 8=true∧S 9=true∧q=σ0.length∧p=σ0.length+1∧σ=σ0++[if S 11 then X else Z12,if S 10 then X else Z12])
def twoR(ρ0:Slots)(σ0:List (List V))(A I R:V)(X:List V)(S:Nat→Bool)(ρ:Slots)(σ:List (List V)):Prop:=
 ∃p q,twoS σ0 X S p q σ∧∀t,get ρ t=twoV ρ0 A I R (.agg X) S p q t
section
variable {C : Cx} {n0 : Nat}
theorem twoR_put{ρ0 ρ:Slots}{σ0 σ':List (List V)}{A I R:V}{X:List V}{p q p' q':Nat}{S:Nat→Bool}{i d:Nat}{v:V}(hS:twoS σ0 X (fun j=>j==i||S j) p' q' σ')
 (hv:∀t,get ρ t=twoV ρ0 A I R (.agg X) S p q t)(h1:∀t,t≠d→twoV ρ0 A I R (.agg X) (fun j=>j==i||S j) p' q' t=twoV ρ0 A I R (.agg X) S p q t)
 (h2:twoV ρ0 A I R (.agg X) (fun j=>j==i||S j) p' q' d=v):twoR ρ0 σ0 A I R X (fun j=>j==i||S j) (put ρ d v) σ':=by
 refine⟨p',q',hS,fun t=>?_⟩;rw[get_put2];by_cases e:d=t
 ·subst e;rw[if_pos rfl,h2]
 ·rw[if_neg e,hv t,h1 t (Ne.symm e)]
set_option maxHeartbeats 2000000 in
theorem two_region{T:TypeId}{ρ0:Slots}{σ0:List (List V)}{Q:APost}{a:D}{I R:V}{x0 x1 x2 x3 x4 x5 x6 x7 x8 x9 x10 x11:D}
 (h0:get ρ0 0=.d a)(h1:get ρ0 1=.d a)(h5:get ρ0 5=I)(hI:I.copy=I)(hia:iaV 12 (.d a) I=some R)(hld:∀σ,loadV σ 12 true R=some (.agg [.d x0,.d x1,.d x2,.d x3,.d x4,.d x5,.d x6,.d x7,.d x8,.d x9,.d x10,.d x11]))
 (hq:∀p q,(p=σ0.length∧q=σ0.length+1∨p=σ0.length+1∧q=σ0.length)→
   Q .normal [(0,.d a),(1,.d a),(5,I),(6,.ptr p 0),(7,.ptr q 0)] (σ0++[[.d x0,.d x1,.d x2,.d x3,.d x4,.d x5,.d x6,.d x7,.d x8,.d x9,.d x10,.d x11],[.d x0,.d x1,.d x2,.d x3,.d x4,.d x5,.d x6,.d x7,.d x8,.d x9,.d x10,.d x11]])):
 RawWp C n0 (twoOps T) twoEs ρ0 σ0 Q:=by
 generalize hX:[V.d x0,.d x1,.d x2,.d x3,.d x4,.d x5,.d x6,.d x7,.d x8,.d x9,.d x10,.d x11]=X at hld hq;have hXl:X.length=12:=by rw[←hX];rfl
 have hXb:(V.agg X).boxable=true:=by rw[←hX];rfl
 have hXc:(V.agg X).cells=X:=by rw[←hX];rfl
 intro pr M0 bm0 w0 id ops n M bm tk a' w hG hbm hok hes hl h;obtain⟨hlen,hget⟩:=okOs_get hok;have hsz:ops.size=12:=by rw[←Array.length_toList,←hlen];rfl
 have hedge:∀(i:Nat) (o:Oper),ops.toList[i]? = some o→twoEs[i]? = some (edgesOf o):=fun i o ho=>by rw[←hes,List.getElem?_map,ho];rfl
 have hwant:∀(p:O) (o':Oper),okO C.tab n ops p o'=true→p.g=none→∀a:Act,Region.wanted o' (yielded ops a.tmps)=true:=by
  intro p o' hoo hg a;have hgd:=hoo;unfold okO at hgd;simp only[Bool.and_eq_true]at hgd;replace hgd:=hgd.2;rw[hg]at hgd;split at hgd
  ·rename_i hg2;simp[Region.wanted,hg2]
  ·rename_i e _;cases e
  ·cases hgd
 refine wp_mono (draw_rel (M:=M) (bm:=bm) (tk:=tk) (Q:=fun x ρ σ=>x=.normal∧twoR ρ0 σ0 (.d a) I R X (fun _=>true) ρ σ) (twoR ρ0 σ0 (.d a) I R X) (fun i o ho j hj=>?_) (fun S S' ρ σ hS hR=>?_) hl h ⟨0,0,.inl ⟨rfl,rfl,rfl⟩,fun t=>?_⟩ (fun ρ σ hR=>⟨ρ,⟨rfl,hR⟩,fun t=>rfl⟩) (fun S i o ho hSi hclo hed M bm tk a' w ρ σ hl hR h=>?_)) (fun e a' w hL=>?_)
 ·have he:=hedge i o ho;have hi:i<12:=by have:=(List.getElem?_eq_some_iff.1 ho).1;simp at this;omega
  have key:∀i,i<12→∀l,twoEs[i]? = some l→∀j∈l,j<i:=by decide
  exact key i hi _ he j hj
 ·rw[hsz]at hS;simp only[twoR,twoS,twoV,hS 0 (by omega),hS 1 (by omega),hS 2 (by omega),hS 3 (by omega),hS 4 (by omega),hS 5 (by omega),hS 6 (by omega),hS 7 (by omega),hS 8 (by omega),hS 9 (by omega),hS 10 (by omega),hS 11 (by omega)]at hR ⊢;exact hR
 ·unfold twoV;simp only[Bool.false_eq_true,if_false];repeat' split
  all_goals first|rfl|(subst_vars;rfl)
 ·have he:=hedge i o ho;have hi:i<12:=by have:=(List.getElem?_eq_some_iff.1 ho).1;simp at this;omega
  have hed:∀l,twoEs[i]? = some l→∀e∈l,S e=true:=fun l hl e hm=>by rw[hl]at he;cases he;exact hed e hm
  clear he;obtain⟨p,q,hS,hv⟩:=hR
  have s10:S 10=true→S 8=true∧S 9=true:=fun hs=>by
   have h8:ops.toList[10]? = some (ops.toList[10]'(by rw[←hlen];show 10<12;omega)):=List.getElem?_eq_getElem _;have ee:[8,3,0,1,2,3,8,9]=edgesOf _:=Option.some.inj (hedge 10 _ h8);exact⟨hclo 10 _ h8 hs 8 (by rw[←ee];simp),hclo 10 _ h8 hs 9 (by rw[←ee];simp)⟩
  have s11:S 11=true→S 8=true∧S 9=true:=fun hs=>by
   have h8:ops.toList[11]? = some (ops.toList[11]'(by rw[←hlen];show 11<12;omega)):=List.getElem?_eq_getElem _;have ee:[9,7,10,0,1,2,3,4,5,6,7,8,9,10]=edgesOf _:=Option.some.inj (hedge 11 _ h8);exact⟨hclo 11 _ h8 hs 8 (by rw[←ee];simp),hclo 11 _ h8 hs 9 (by rw[←ee];simp)⟩
  have go:∀(o':O),(twoOps T)[i]? = some o'→o'.g=none→runO C o'.op o'.dst ρ σ (twoR ρ0 σ0 (.d a) I R X fun j=>j==i||S j) (fun _ _ _=>False)→(if Region.wanted o (yielded ops a'.tmps)then o.wp C.P a' w (Lift M bm pr w n (twoR ρ0 σ0 (.d a) I R X fun j=>j==i||S j)) (LiftX M bm pr w n fun _ _ _=>False)
   else ∃ρ',twoR ρ0 σ0 (.d a) I R X (fun j=>j==i||S j) ρ' σ∧SRel M bm tk pr ρ' σ n (a'.put o.dst undef) w):=by
   intro o' hp hg hr;have hoo:=hget i o' o hp ho;rw[if_pos (hwant o' o hoo hg a')];exact runO_sound (hG.mono hl) h hoo hr
  have pure:∀(d:Nat) (op:OP) (v:V),(twoOps T)[i]? = some ⟨some d,op,none⟩→(∀K,pv C op ρ σ=some v→K (put ρ d v) σ→runO C op (some d) ρ σ K (fun _ _ _=>False))→pv C op ρ σ=some v→twoR ρ0 σ0 (.d a) I R X (fun j=>j==i||S j) (put ρ d v) σ→(if Region.wanted o (yielded ops a'.tmps)then o.wp C.P a' w (Lift M bm pr w n (twoR ρ0 σ0 (.d a) I R X fun j=>j==i||S j)) (LiftX M bm pr w n fun _ _ _=>False)
   else ∃ρ',twoR ρ0 σ0 (.d a) I R X (fun j=>j==i||S j) ρ' σ∧SRel M bm tk pr ρ' σ n (a'.put o.dst undef) w):=fun d op v h1 h2 h3 h4=>go _ h1 rfl (h2 _ h3 h4)
  have hcp:(V.d a).copy=.d a:=rfl
  have same:i<8→twoS σ0 X (fun j=>j==i||S j) p q σ:=fun h8=>by
   have e8:((8==i)=false):=by simp;omega
   have e9:((9==i)=false):=by simp;omega
   have e10:((10==i)=false):=by simp;omega
   have e11:((11==i)=false):=by simp;omega
   unfold twoS at hS ⊢;simp only[e8,e9,e10,e11,Bool.false_or];exact hS
  have hi':i=0∨i=1∨i=2∨i=3∨i=4∨i=5∨i=6∨i=7∨i=8∨i=9∨i=10∨i=11:=by omega
  rcases hi' with rfl|rfl|rfl|rfl|rfl|rfl|rfl|rfl|rfl|rfl|rfl|rfl
  ·have e:get ρ 0=.d a:=by rw[hv 0,←h0];rfl
   refine pure 19 _ (.d a) rfl (fun K h1 h2=>by simp only[runO,h1];exact h2) (by show some (get ρ 0).copy=_;rw[e];rfl) ?_;exact twoR_put (p':=p) (q':=q) (same (by omega)) hv (fun t ht=>by simp[twoV,ht]) rfl
  ·have e:get ρ 5=I:=by rw[hv 5,←h5];rfl
   refine pure 20 _ I rfl (fun K h1 h2=>by simp only[runO,h1];exact h2) (by show some (get ρ 5).copy=_;rw[e,hI]) ?_;exact twoR_put (p':=p) (q':=q) (same (by omega)) hv (fun t ht=>by simp[twoV,ht]) rfl
  ·have e1:=hed _ rfl 0 (by simp);have e2:=hed _ rfl 1 (by simp);have e:get ρ 19=.d a:=by rw[hv 19];simp[twoV,e1]
   have e':get ρ 20=I:=by rw[hv 20];simp[twoV,e2]
   refine pure 21 _ R rfl (fun K h1 h2=>by simp only[runO,h1];exact h2) (by show iaV 12 (get ρ 19) (get ρ 20)=_;rw[e,e',hia]) ?_;exact twoR_put (p':=p) (q':=q) (same (by omega)) hv (fun t ht=>by simp[twoV,ht]) rfl
  ·have e1:=hed _ rfl 2 (by simp);have e:get ρ 21=R:=by rw[hv 21];simp[twoV,e1]
   refine pure 22 _ (.agg X) rfl (fun K h1 h2=>by simp only[runO,h1];exact h2) (by show loadV σ 12 true (get ρ 21)=_;rw[e,hld]) ?_;exact twoR_put (p':=p) (q':=q) (same (by omega)) hv (fun t ht=>by simp[twoV,ht]) rfl
  ·have e:get ρ 1=.d a:=by rw[hv 1,←h1];rfl
   refine pure 23 _ (.d a) rfl (fun K h1 h2=>by simp only[runO,h1];exact h2) (by show some (get ρ 1).copy=_;rw[e];rfl) ?_;exact twoR_put (p':=p) (q':=q) (same (by omega)) hv (fun t ht=>by simp[twoV,ht]) rfl
  ·have e:get ρ 5=I:=by rw[hv 5,←h5];rfl
   refine pure 24 _ I rfl (fun K h1 h2=>by simp only[runO,h1];exact h2) (by show some (get ρ 5).copy=_;rw[e,hI]) ?_;exact twoR_put (p':=p) (q':=q) (same (by omega)) hv (fun t ht=>by simp[twoV,ht]) rfl
  ·have e1:=hed _ rfl 4 (by simp);have e2:=hed _ rfl 5 (by simp);have e:get ρ 23=.d a:=by rw[hv 23];simp[twoV,e1]
   have e':get ρ 24=I:=by rw[hv 24];simp[twoV,e2]
   refine pure 25 _ R rfl (fun K h1 h2=>by simp only[runO,h1];exact h2) (by show iaV 12 (get ρ 23) (get ρ 24)=_;rw[e,e',hia]) ?_;exact twoR_put (p':=p) (q':=q) (same (by omega)) hv (fun t ht=>by simp[twoV,ht]) rfl
  ·have e1:=hed _ rfl 6 (by simp);have e:get ρ 25=R:=by rw[hv 25];simp[twoV,e1]
   refine pure 26 _ (.agg X) rfl (fun K h1 h2=>by simp only[runO,h1];exact h2) (by show loadV σ 12 true (get ρ 25)=_;rw[e,hld]) ?_;exact twoR_put (p':=p) (q':=q) (same (by omega)) hv (fun t ht=>by simp[twoV,ht]) rfl
  ·refine go _ rfl rfl ?_
   have n10:S 10=false:=by
    cases hs:S 10 with
    | false=>rfl
    | true=>have:=(s10 hs).1;rw[this]at hSi;cases hSi
   have n11:S 11=false:=by
    cases hs:S 11 with
    | false=>rfl
    | true=>have:=(s11 hs).1;rw[this]at hSi;cases hSi
   show twoR ρ0 σ0 (.d a) I R X _ (put ρ 6 (.ptr σ.length 0)) (σ++[Z12]);rcases hS with⟨s8,s9,rfl⟩|⟨s8,-,-,-⟩|⟨s8,s9,rfl,rfl⟩|⟨s8,-,-,-,-⟩|⟨s8,-,-,-,-⟩
   ·exact twoR_put (p':=σ.length) (q':=q) (.inr (.inl ⟨rfl,s9,rfl,rfl⟩)) hv (fun t ht=>by simp[twoV,ht]) rfl
   ·rw[s8]at hSi;cases hSi
   ·exact twoR_put (p':=(σ0++[Z12]).length) (q':=σ0.length) (.inr (.inr (.inr (.inr ⟨rfl,s9,rfl,by simp,by simp[n10,n11]⟩)))) hv (fun t ht=>by simp[twoV,ht]) rfl
   ·rw[s8]at hSi;cases hSi
   ·rw[s8]at hSi;cases hSi
  ·refine go _ rfl rfl ?_
   have n10:S 10=false:=by
    cases hs:S 10 with
    | false=>rfl
    | true=>have:=(s10 hs).2;rw[this]at hSi;cases hSi
   have n11:S 11=false:=by
    cases hs:S 11 with
    | false=>rfl
    | true=>have:=(s11 hs).2;rw[this]at hSi;cases hSi
   show twoR ρ0 σ0 (.d a) I R X _ (put ρ 7 (.ptr σ.length 0)) (σ++[Z12]);rcases hS with⟨s8,s9,rfl⟩|⟨s8,s9,rfl,rfl⟩|⟨s8,s9,-,-⟩|⟨s8,s9,-,-,-⟩|⟨s8,s9,-,-,-⟩
   ·exact twoR_put (p':=p) (q':=σ.length) (.inr (.inr (.inl ⟨s8,rfl,rfl,rfl⟩))) hv (fun t ht=>by simp[twoV,ht]) rfl
   ·exact twoR_put (p':=σ0.length) (q':=(σ0++[Z12]).length) (.inr (.inr (.inr (.inl ⟨s8,rfl,rfl,by simp,by simp[n10,n11]⟩)))) hv (fun t ht=>by simp[twoV,ht]) rfl
   ·rw[s9]at hSi;cases hSi
   ·rw[s9]at hSi;cases hSi
   ·rw[s9]at hSi;cases hSi
  ·have e8:=hed _ rfl 8 (by simp);have e9:=hed _ rfl 9 (by simp);have e3:=hed _ rfl 3 (by simp);have g6:get ρ 6=.ptr p 0:=by rw[hv 6];simp[twoV,e8]
   have g22:get ρ 22=.agg X:=by rw[hv 22];simp[twoV,e3]
   refine go _ rfl rfl ?_
   have key:∀σ',σ[p]? = some Z12→σ'=σ.set p X→twoS σ0 X (fun j=>j==10||S j) p q σ'→runO C (.sto 12 (.t 6) (.t 22)) none ρ σ (twoR ρ0 σ0 (.d a) I R X fun j=>j==10||S j) (fun _ _ _=>False):=by
    intro σ' k1 k2 k3;have x6:ev C ρ (.t 6)=.ptr p 0:=g6;have x22:ev C ρ (.t 22)=.agg X:=g22;simp only[runO,x6,x22,k1];refine⟨⟨hXb,by rw[hXc];exact hXl,by simp,rfl⟩,p,q,?_,fun t=>?_⟩
    ·have:σ'=σ.set p (over Z12 0 (V.agg X).cells):=by rw[k2,hXc,←hX];rfl
     rw[←this];exact k3
    ·rw[hv t];simp[twoV]
   rcases hS with⟨s8,s9,rfl⟩|⟨s8,s9,-,rfl⟩|⟨s8,s9,rfl,rfl⟩|⟨s8,s9,rfl,rfl,rfl⟩|⟨s8,s9,rfl,rfl,rfl⟩
   ·rw[s8]at e8;cases e8
   ·rw[s9]at e9;cases e9
   ·rw[s8]at e8;cases e8
   ·exact key (σ0++[X,if S 11 then X else Z12]) (by simp[hSi]) (by simp) (.inr (.inr (.inr (.inl ⟨s8,s9,rfl,rfl,rfl⟩))))
   ·exact key (σ0++[if S 11 then X else Z12,X]) (by simp[hSi]) (by simp) (.inr (.inr (.inr (.inr ⟨s8,s9,rfl,rfl,rfl⟩))))
  ·have e8:=hed _ rfl 8 (by simp);have e9:=hed _ rfl 9 (by simp);have e7:=hed _ rfl 7 (by simp);have g7:get ρ 7=.ptr q 0:=by rw[hv 7];simp[twoV,e9]
   have g26:get ρ 26=.agg X:=by rw[hv 26];simp[twoV,e7]
   refine go _ rfl rfl ?_
   have key:∀σ',σ[q]? = some Z12→σ'=σ.set q X→twoS σ0 X (fun j=>j==11||S j) p q σ'→runO C (.sto 12 (.t 7) (.t 26)) none ρ σ (twoR ρ0 σ0 (.d a) I R X fun j=>j==11||S j) (fun _ _ _=>False):=by
    intro σ' k1 k2 k3;have x6:ev C ρ (.t 7)=.ptr q 0:=g7;have x22:ev C ρ (.t 26)=.agg X:=g26;simp only[runO,x6,x22,k1];refine⟨⟨hXb,by rw[hXc];exact hXl,by simp,rfl⟩,p,q,?_,fun t=>?_⟩
    ·have:σ'=σ.set q (over Z12 0 (V.agg X).cells):=by rw[k2,hXc,←hX];rfl
     rw[←this];exact k3
    ·rw[hv t];simp[twoV]
   rcases hS with⟨s8,s9,rfl⟩|⟨s8,s9,-,rfl⟩|⟨s8,s9,rfl,rfl⟩|⟨s8,s9,rfl,rfl,rfl⟩|⟨s8,s9,rfl,rfl,rfl⟩
   ·rw[s8]at e8;cases e8
   ·rw[s9]at e9;cases e9
   ·rw[s8]at e8;cases e8
   ·exact key (σ0++[if S 10 then X else Z12,X]) (by simp[hSi]) (by simp) (.inr (.inr (.inr (.inl ⟨s8,s9,rfl,rfl,rfl⟩))))
   ·exact key (σ0++[X,if S 10 then X else Z12]) (by simp[hSi]) (by simp) (.inr (.inr (.inr (.inr ⟨s8,s9,rfl,rfl,rfl⟩))))
 ·obtain⟨M',bm',tk',ρ',σ',x,⟨rfl,p,q,hS,hv⟩,hx,hs,hlat⟩:=hL
  have hsl:∀t,t∈[0,1,5,6,7]→get ρ' t=get [(0,.d a),(1,.d a),(5,I),(6,.ptr p 0),(7,.ptr q 0)] t:=fun t ht=>by
   simp only[List.mem_cons,List.not_mem_nil,or_false]at ht;rcases ht with rfl|rfl|rfl|rfl|rfl
   ·rw[hv 0];exact h0
   ·rw[hv 1];exact h1
   ·rw[hv 5];exact h5
   ·rw[hv 6];rfl
   ·rw[hv 7];rfl
  have hs2:SRel M' bm' tk' pr [(0,.d a),(1,.d a),(5,I),(6,.ptr p 0),(7,.ptr q 0)] σ' n a' w:=by
   refine⟨hs.inv,hs.defers,hs.size,fun t=>?_⟩;by_cases ht:t∈[0,1,5,6,7]
   ·rw[←hsl t ht];exact hs.slots t
   ·have:get [(0,V.d a),(1,.d a),(5,I),(6,.ptr p 0),(7,.ptr q 0)] t=.junk:=by
     simp only[List.mem_cons,List.not_mem_nil,or_false,not_or]at ht;obtain⟨a0,a1,a2,a3,a4⟩:=ht;simp[get,Ne.symm a0,Ne.symm a1,Ne.symm a2,Ne.symm a3,Ne.symm a4]
    rw[this];exact⟨.junk _,fun T k rows e=>by cases e⟩
  cases hx;rcases hS with⟨s8,-⟩|⟨-,s9,-⟩|⟨s8,-⟩|⟨-,-,hp,hq2,rfl⟩|⟨-,-,hq2,hp,rfl⟩
  ·cases s8
  ·cases s9
  ·cases s8
  ·exact⟨M',bm',tk',_,_,.normal,hq p q (.inl ⟨hp,hq2⟩),.normal,hs2,hlat⟩
  ·exact⟨M',bm',tk',_,_,.normal,hq p q (.inr ⟨hp,hq2⟩),.normal,hs2,hlat⟩
end
end Go.Proofs.YthoebpnbhgmoiaaGreatDoor
