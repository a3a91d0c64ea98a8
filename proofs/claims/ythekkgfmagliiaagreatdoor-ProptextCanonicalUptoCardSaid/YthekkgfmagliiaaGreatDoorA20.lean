import Derived.Test.YthekkgfmagliiaaGreatDoorA18
open And renaming intro->Rs
open Array renaming replicate->Ru,getD_eq_getD_getElem?->Rv,getElem?_append_left->Rw,getElem?_toList->Rx
open Bool renaming and_eq_true->Ry,false_eq_true->Rz,not_eq_true'->RA,and_true->RB
open Int renaming toNat_natCast->RC
open List renaming getElem_mem->RD,getElem?_eq_getElem->RE,getElem?_eq_none->RF,take_length->RG,take_left->RH,range'->RI,range'_succ->RJ,length_cons->RK,length_set->RL,all_append->RM,mapM_cons->RN
open Nat renaming sub_zero->RO,zero_le->RP,zero_add->RQ
open Option renaming getD_some->RR,getD_none->RS
namespace Go.Proofs.YthekkgfmagliiaaGreatDoor
open Go.RowKit
section
variable {C : Cx} {pr : Prot} {n : Nat} {Q : AEx -> ah -> LLV -> Prop}
structure AV where
 d:Nat
 T:Nat
 bytes:Nat
 z:V
 s:Nat
 y:X
 st:Bool
 x:X
 k:X
 v:X
def reV(C:Cx)(σ1:LLV):List (O×ah×V)->Prop
 | []=>True
 | (o,ρ,v)::r=>bI C o.op ρ σ1 (fun u=>u=v)/\reV C σ1 r
def Ll(C:Cx)(p:AV)(K:ah->LLV->Prop)(ρ:ah)(σ1:LLV):Prop:=
 ∃kv key,qc p.st σ1 (ev C ρ p.x)=some kv/\xa p.st (ev C ρ p.k)=some key/\K ρ (z6 σ1 p.st (tW key (ev C ρ p.v).copy kv) (ev C ρ p.x))
def Id(C:Cx)(p:AV)(σ:LLV)(K:ah->LLV->Prop):List O->List (O×ah×V)->ah->Prop
 | [],pend,ρ=>∃src,Df σ (ev C ρ p.y)=some src/\0<src.length/\Ju σ (get ρ p.s) src p.bytes p.z fun u σ1=>reV C σ1 pend/\Ll C p K (put ρ p.d u) σ1
 | o::r,pend,ρ=>o.g=none/\bI C o.op ρ σ fun v=>Id C p σ K r ((o,ρ,v)::pend) (putd ρ o.dst v)
end
end Go.Proofs.YthekkgfmagliiaaGreatDoor
namespace Go.Proofs.YthekkgfmagliiaaGreatDoor
open Go.RowKit
def eJ(n0:Nat)(ρ:ah)(σ:LLV)(ρ':ah)(σ':LLV):Prop:=
 ∀(M:an) (bm:List Nat) (tk:bP) (pr:Prot) (n:Nat) (a:Act) (w:World),SRel M bm tk pr ρ σ n a w->
  ∃M' bm',SRel M' bm' tk pr ρ' σ' n a w/\∀M0 bm0 w0,bm0.length=n0->Later M0 bm0 pr w0 M bm w->Later M0 bm0 pr w0 M' bm' w
theorem eJ.refl(n0:Nat)(ρ:ah)(σ:LLV):eJ n0 ρ σ ρ σ:=fun M bm _ _ _ _ _ h=>⟨M,bm,h,fun _ _ _ _ h=>h⟩
theorem eJ.trans{n0:Nat}{ρ ρ' ρ'':ah}{σ σ' σ'':LLV}(h:eJ n0 ρ σ ρ' σ')(k:eJ n0 ρ' σ' ρ'' σ''):eJ n0 ρ σ ρ'' σ'':=fun M bm tk pr n a w hs=>by
 obtain⟨M1,b1,h1,h2⟩:=h M bm tk pr n a w hs;obtain⟨M2,b2,h3,h4⟩:=k M1 b1 tk pr n a w h1;exact⟨M2,b2,h3,fun M0 bm0 w0 e hl=>h4 M0 bm0 w0 e (h2 M0 bm0 w0 e hl)⟩
theorem eJ.keep(n0:Nat)(l:List Nat)(ρ:ah)(σ:LLV):eJ n0 ρ σ (aK l ρ) σ:=fun M bm _ _ _ _ _ h=>⟨M,bm,h.keep l,fun _ _ _ _ h=>h⟩
theorem eJ.cut{n0 k:Nat}{ρ:ah}{σ:LLV}(hk:n0≤k)(h1:aj k (σ.take k)=true)(h2:ao k ρ=true):eJ n0 ρ σ ρ (σ.take k):=fun M bm _ _ _ _ _ h=>
 ⟨M,bm.take k,h.drop h1 h2,fun _ _ _ e hl=>hl.drop (by omega)⟩
section
variable {M : an} {bm : List Nat} {tk : bP} {pr : Prot} {ρ : ah} {σ : LLV} {n : Nat} {a : Act} {w : World} {k : Nat}
end
end Go.Proofs.YthekkgfmagliiaaGreatDoor
namespace Go.Proofs.YthekkgfmagliiaaGreatDoor
open Go.RowKit
inductive Cd where
 | skip
 | ops (l:List O) (keep:List Nat)
 | draw (l:List O) (keep:List Nat)
 | draws (l:List O) (keep:List Nat)
 | drawb (s d0 d1 T k bytes:Nat) (y:X) (l:List O) (keep:List Nat)
 | drawx (pre:List O) (d:Option Nat) (f:FuncId) (args:List X) (post:List O) (kk:Nat) (y z:X) (keep:List Nat)
 | drawg (l:List (O×GK)) (keep:List Nat)
 | drawp (l:List O) (x:X)
 | seq (a b:Cd)
 | cond (x:X) (a b:Cd)
 | block (id:Nat) (a:Cd)
 | loop (a:Cd)
 | exit (id:Nat)
 | ret
abbrev cX:=AEx->ah->LLV->Prop
def andThen(next:ah->LLV->Prop)(Q:cX):cX:=fun e ρ σ=>match e with
 | .normal=>next ρ σ
 | e=>Q e ρ σ
def pg(id:Nat)(Q:cX):cX:=fun e ρ σ=>match e with
 | .exit j=>if j=id then Q .normal ρ σ else Q (.exit j) ρ σ
 | e=>Q e ρ σ
inductive Up:LLV->LLV->Prop
 | refl (σ:LLV):Up σ σ
 | step {σ σ':LLV} {i:Nat} {cs:List V} {off:Nat} (T:TypeId) (k:Nat) (h1:σ[i]? = some cs) (h2:cs[off]? = some .nil) (h:Up (σ.set i (cs.set off (.own T k []))) σ'):Up σ σ'
theorem SRel.nil_own{M:an}{bm:List Nat}{tk:bP}{pr:Prot}{ρ:ah}{σ:LLV}{n:Nat}{a:Act}{w:World}(h:SRel M bm tk pr ρ σ n a w){i:Nat}{cs:List V}{off:Nat}(T:TypeId)(k:Nat)(h1:σ[i]? = some cs)(h2:cs[off]? = some .nil):SRel M bm tk pr ρ (σ.set i (cs.set off (.own T k []))) n a w:=by
 refine⟨⟨h.inv.facts,by rw[RL];exact h.inv.len,fun i' b cs' hi hc=>?_,h.inv.free,h.inv.bmnd,h.inv.tok,h.inv.inj,h.inv.prlt⟩,h.defers,h.size,h.slots⟩;by_cases e:i'=i
 .subst e;obtain⟨vs,T',g1,g2,g3⟩:=(h.inv.box i' b cs hi h1).resolve_right fun hb=>by rcases hb with⟨st,kv,es,clock,rfl,-⟩|⟨T,k,rfl,-⟩<;>cases off<;>simp[tyc]at h2
  have hl:i'<σ.length:=(List.getElem?_eq_some_iff.1 h1).1;rw[List.getElem?_set_self hl]at hc;cases hc;refine .inl ⟨vs,T',g1,by rw[RL];exact g2,fun j hj hj'=>?_⟩;have hj0:j<cs.length:=by simpa using hj
  obtain⟨k1,k2⟩:=g3 j hj0 hj';by_cases e2:j=off
  .subst e2;have hn:cs[j]=.nil:=(List.getElem?_eq_some_iff.1 h2).2;rw[List.getElem_set_self];refine⟨?_,k2⟩;have hr:=k1.rep;rw[hn]at hr;generalize vs[j]=v at hr ⊢;cases hr;exact⟨.own (DRep.nil M),fun T2 k2 rows e=>by cases e;exact .inl ⟨rfl,rfl⟩⟩
  .rw[List.getElem_set_ne (Ne.symm e2)];exact⟨k1,k2⟩
 .rw[List.getElem?_set_ne (Ne.symm e)]at hc;exact h.inv.box i' b cs' hi hc
theorem SRel.up{M:an}{bm:List Nat}{tk:bP}{pr:Prot}{ρ:ah}{σ σ':LLV}{n:Nat}{a:Act}{w:World}(hu:Up σ σ')(h:SRel M bm tk pr ρ σ n a w):SRel M bm tk pr ρ σ' n a w:=by
 induction hu with
 | refl σ=>exact h
 | step T k h1 h2 _ ih=>exact ih (h.nil_own T k h1 h2)
theorem eJ.up(n0:Nat)(ρ:ah){σ σ':LLV}(hu:Up σ σ'):eJ n0 ρ σ ρ σ':=fun M bm _ _ _ _ _ h=>⟨M,bm,h.up hu,fun _ _ _ _ h=>h⟩
def awp(C:Cx)(n0:Nat):Cd->ah->LLV->cX->Prop
 | .skip,ρ,σ,Q=>Q .normal ρ σ
 | .ops l keep,ρ,σ,Q=>dl C l ρ σ fun e ρ' σ'=>Q e (aK keep ρ') σ'
 | .draw l keep,ρ,σ,Q=>aS C l ρ σ fun ρ'=>Q .normal (aK keep ρ') σ
 | .draws l keep,ρ,σ,Q=>ik C σ l ρ none fun ρ' σ'=>Q .normal (aK keep ρ') σ'
 | .drawx pre d f args post kk y z keep,ρ,σ,Q=>HT C pre d f args post kk y z ρ σ (fun ρ' σ'=>Q .normal (aK keep ρ') σ') (fun u σ'=>∀ρ',Q (.panic u) (aK keep ρ') σ')
 | .drawb s d0 d1 T k bytes y l keep,ρ,σ,Q=>Cj C s d0 d1 T k bytes y l ρ σ fun ρ'=>Q .normal (aK keep ρ') σ
 | .drawg l keep,ρ,σ,Q=>fx C (fun u σ'=>∀ρ',Q (.panic u) (aK keep ρ') σ') (fun ρ' σ'=>Q .normal (aK keep ρ') σ') l 0 [] [] ρ σ
 | .drawp l x,ρ,σ,Q=>aS C l ρ σ fun ρ'=>∃ty u,ev C ρ' x=.iface ty u/\∀ρ2,Q (.panic (.iface ty u)) ρ2 σ
 | .seq a b,ρ,σ,Q=>awp C n0 a ρ σ (andThen (fun ρ' σ'=>awp C n0 b ρ' σ' Q) Q)
 | .cond x a b,ρ,σ,Q=>match ev C ρ x with
  | .d (.lit (.bool t))=>(t=true->awp C n0 a ρ σ Q)/\(t=false->awp C n0 b ρ σ Q)
  | _=>False
 | .block id a,ρ,σ,Q=>awp C n0 a ρ σ (pg id Q)
 | .loop a,ρ,σ,Q=>∃(ρ1:ah) (σ1:LLV),eJ n0 ρ σ ρ1 σ1/\∃I:Nat->ah->LLV->Prop,(∃m,I m ρ1 σ1)/\∀m ρ' σ',I m ρ' σ'->awp C n0 a ρ' σ' (andThen (fun ρ'' σ''=>∃m',m'<m/\∃ρ3 σ3,eJ n0 ρ'' σ'' ρ3 σ3/\I m' ρ3 σ3) Q)
 | .exit id,ρ,σ,Q=>Q (.exit id) ρ σ
 | .ret,ρ,σ,Q=>Q .ret ρ σ
def okC(tab:Tab)(n:Nat):Cd->Code->Bool
 | .skip,.skip=>true
 | .ops l _,.region _ ops false=>fQ tab n ops l ops.toList
 | .draw l _,.region _ ops true=>fQ tab n ops l ops.toList&&qB l ops.toList
 | .draws l _,.region _ ops true=>fQ tab n ops l ops.toList&&pM l ops.toList
 | .drawx pre d f args post kk y z _,.region _ ops true=>fQ tab n ops (xL pre d f args post kk y z) ops.toList&&gO pre.length post.length (xL pre d f args post kk y z) ops.toList
 | .drawb s d0 d1 T k bytes y l _,.region _ ops true=>fQ tab n ops (bL s d0 d1 T k bytes y l) ops.toList&&nv s d0 d1 y l ops.toList
 | .drawg l _,.region _ ops true=>fQ tab n ops (l.map (·.1)) ops.toList&&mL l ops.toList
 | .drawp l x,.region _ ops true=>fQ tab n ops (l++[⟨none,.pan x,none⟩]) ops.toList&&(gO (l.length-1) 0 (l++[⟨none,.pan x,none⟩]) ops.toList&&decide (1≤l.length))
 | .seq a b,.seq a' b'=>okC tab n a a'&&okC tab n b b'
 | .cond x a b,.cond x' a' b'=>okX x x'&&okC tab n a a'&&okC tab n b b'
 | .block i a,.block i' a'=>i==i'&&okC tab n a a'
 | .loop a,.loop a'=>okC tab n a a'
 | .exit i,.exit i'=>i==i'
 | .ret,.ret=>true
 | _,_=>false
section
variable {C : Cx} {n0 n : Nat} {pr : Prot} {M0 : an} {bm0 : List Nat} {w0 : World}
theorem bC.imp{M:an}{bm:List Nat}{w:World}{Q Q':cX}{e:Exit}{a:Act}{w':World}(hq:∀x ρ σ,Q x ρ σ->Q' x ρ σ)(h:bC M bm pr w n Q e a w'):bC M bm pr w n Q' e a w':=by
 obtain⟨M',bm',tk',ρ',σ',x,h1,h2⟩:=h;exact⟨M',bm',tk',ρ',σ',x,hq _ _ _ h1,h2⟩
theorem bC.keep{M:an}{bm:List Nat}{w:World}{Q:cX}{l:List Nat}{e:Exit}{a:Act}{w':World}(h:bC M bm pr w n (fun x ρ σ=>Q x (aK l ρ) σ) e a w'):bC M bm pr w n Q e a w':=by
 obtain⟨M',bm',tk',ρ',σ',x,h1,h2,h3,h4⟩:=h;exact⟨M',bm',tk',_,σ',x,h1,h2,h3.keep l,h4⟩
theorem lE(hG:C.glob M0 pr w0)(hn0:bm0.length=n0):∀{c:Cd} {c':Code} {M:an} {bm:List Nat} {tk:bP} {ρ:ah} {σ:LLV} {a:Act} {w:World} {Q:cX},okC C.tab n c c'=true->Later M0 bm0 pr w0 M bm w->SRel M bm tk pr ρ σ n a w->
 awp C n0 c ρ σ Q->c'.wp C.P (bC M0 bm0 pr w0 n Q) a w:=by
 intro c
 induction c with
 | skip=>
  intro c' M bm tk ρ σ a w Q hok hl h hq;cases c'<;>simp only[okC]at hok<;>first|(cases hok;done)|skip
  exact wp_skip ⟨M,bm,tk,ρ,σ,_,hq,.normal,h,hl⟩
 | ops l keep=>
  intro c' M bm tk ρ σ a w Q hok hl h hq;cases c' with
  | region id ops draw=>
   cases draw with
   | false=>
    have hok:fQ C.tab n ops l ops.toList=true:=hok;exact wp_mono (wp_region_list (fV hG hok hl h hq)) (fun e a w hL=>bC.keep (l:=keep) hL)
   | true=>cases hok
  | _=>cases hok
 | draw l keep=>
  intro c' M bm tk ρ σ a w Q hok hl h hq;cases c' with
  | region id ops draw=>
   cases draw with
   | true=>
    have hok:(fQ C.tab n ops l ops.toList&&qB l ops.toList)=true:=hok;simp only[Ry]at hok;exact wp_mono (x3 (Q:=fun x ρ σ=>Q x (aK keep ρ) σ) hG hok.1 hok.2 hl h hq) (fun e a w hL=>bC.keep (l:=keep) hL)
   | false=>cases hok
  | _=>cases hok
 | draws l keep=>
  intro c' M bm tk ρ σ a w Q hok hl h hq;cases c' with
  | region id ops draw=>
   cases draw with
   | true=>
    have hok:(fQ C.tab n ops l ops.toList&&pM l ops.toList)=true:=hok;simp only[Ry]at hok;exact wp_mono (vm (Q:=fun x ρ σ=>Q x (aK keep ρ) σ) hG hok.1 hok.2 hl h hq) (fun e a w hL=>bC.keep (l:=keep) hL)
   | false=>cases hok
  | _=>cases hok
 | drawp l x=>
  intro c' M bm tk ρ σ a w Q hok hl h hq;cases c' with
  | region id ops draw=>
   cases draw with
   | true=>
    have hok:(fQ C.tab n ops (l++[⟨none,.pan x,none⟩]) ops.toList&&(gO (l.length-1) 0 (l++[⟨none,.pan x,none⟩]) ops.toList&&decide (1≤l.length)))=true:=hok;simp only[Ry,decide_eq_true_eq]at hok;exact wO hG hok.1 hok.2.1 hok.2.2 hl h hq
   | false=>cases hok
  | _=>cases hok
 | drawb s0 d0 d1 T k bytes y l keep=>
  intro c' M bm tk ρ σ a w Q hok hl h hq;cases c' with
  | region id ops draw=>
   cases draw with
   | true=>
    have hok:(fQ C.tab n ops (bL s0 d0 d1 T k bytes y l) ops.toList&&nv s0 d0 d1 y l ops.toList)=true:=hok;simp only[Ry]at hok;exact wp_mono (xr (Q:=fun x ρ σ=>Q x (aK keep ρ) σ) hG hok.1 hok.2 hl h hq) (fun e a w hL=>bC.keep (l:=keep) hL)
   | false=>cases hok
  | _=>cases hok
 | drawx pre d f args post kk y z keep=>
  intro c' M bm tk ρ σ a w Q hok hl h hq;cases c' with
  | region id ops draw=>
   cases draw with
   | true=>
    have hok:(fQ C.tab n ops (xL pre d f args post kk y z) ops.toList&&gO pre.length post.length (xL pre d f args post kk y z) ops.toList)=true:=hok;simp only[Ry]at hok;exact wp_mono (wI (Q:=fun x ρ σ=>Q x (aK keep ρ) σ) hG hok.1 hok.2 hl h hq) (fun e a w hL=>bC.keep (l:=keep) hL)
   | false=>cases hok
  | _=>cases hok
 | drawg l keep=>
  intro c' M bm tk ρ σ a w Q hok hl h hq;cases c' with
  | region id ops draw=>
   cases draw with
   | true=>
    have hok:(fQ C.tab n ops (l.map (·.1)) ops.toList&&mL l ops.toList)=true:=hok;simp only[Ry]at hok;exact wp_mono (vX (Q:=fun x ρ σ=>Q x (aK keep ρ) σ) hG hok.1 hok.2 hl h hq) (fun e a w hL=>bC.keep (l:=keep) hL)
   | false=>cases hok
  | _=>cases hok
 | seq x y ihx ihy=>
  intro c' M bm tk ρ σ a w Q hok hl h hq;cases c'<;>simp only[okC,Ry]at hok<;>first|(cases hok;done)|skip
  refine wp_seq (wp_mono (ihx hok.1 hl h hq) (fun e a' w' hL=>?_));obtain⟨M',bm',tk',ρ',σ',x,k1,k2,k3,k4⟩:=hL;cases k2 with
  | normal=>exact ihy hok.2 k4 k3 k1
  | ret=>exact⟨M',bm',tk',ρ',σ',_,k1,.ret,k3,k4⟩
  | exit id=>exact⟨M',bm',tk',ρ',σ',_,k1,.exit id,k3,k4⟩
  | panic hp=>exact⟨M',bm',tk',ρ',σ',_,k1,.panic hp,k3,k4⟩
 | cond x y z ihy ihz=>
  intro c' M bm tk ρ σ a w Q hok hl h hq;cases c'<;>simp only[okC,Ry]at hok<;>first|(cases hok;done)|skip
  have hx:=aG (hG.mono hl) h hok.1.1;simp only[awp]at hq;split at hq
  .rename_i t e;rw[e]at hx;have hv:=hx.bool_inv;cases t with
   | true=>exact wp_cond_true hv (ihy hok.1.2 hl h (hq.1 rfl))
   | false=>exact wp_cond_false hv (ihz hok.2 hl h (hq.2 rfl))
  .exact hq.elim
 | block id x ih=>
  intro c' M bm tk ρ σ a w Q hok hl h hq;cases c'<;>simp only[okC,Ry,beq_iff_eq]at hok<;>first|(cases hok;done)|skip
  obtain⟨rfl,hok⟩:=hok;refine wp_block (wp_mono (ih hok hl h hq) (fun e a' w' hL=>?_));obtain⟨M',bm',tk',ρ',σ',x,k1,k2,k3,k4⟩:=hL;cases k2 with
  | normal=>exact⟨M',bm',tk',ρ',σ',_,k1,.normal,k3,k4⟩
  | ret=>exact⟨M',bm',tk',ρ',σ',_,k1,.ret,k3,k4⟩
  | exit j=>
   simp only[pg]at k1;simp only[Exit.inBlock];split
   .rename_i e;rw[if_pos e]at k1;exact⟨M',bm',tk',ρ',σ',_,k1,.normal,k3,k4⟩
   .rename_i e;rw[if_neg e]at k1;exact⟨M',bm',tk',ρ',σ',_,k1,.exit j,k3,k4⟩
  | panic hp=>exact⟨M',bm',tk',ρ',σ',_,k1,.panic hp,k3,k4⟩
 | loop x ih=>
  intro c' M bm tk ρ σ a w Q hok hl h hq;cases c'<;>simp only[okC]at hok<;>first|(cases hok;done)|skip
  obtain⟨ρ1,σ1,hsh,I,⟨m,hm⟩,hI⟩:=hq;obtain⟨M1,bm1,h1,h2⟩:=hsh M bm tk pr n a w h;have hl1:=h2 M0 bm0 w0 hn0 hl;rename_i c';intro b k cs
  have key:∀(m:Nat) (M:an) (bm:List Nat) (tk:bP) (ρ:ah) (σ:LLV) (a:Act) (w:World),Later M0 bm0 pr w0 M bm w->SRel M bm tk pr ρ σ n a w->I m ρ σ->
   ∃e a' w',bC M0 bm0 pr w0 n Q e a' w'/\Arrives C.P (lone (b.at a (.code c'::.inLoop c'::k)) cs w) b k cs e a' w':=by
   intro m
   induction m using Nat.strongRecOn with
   | _ m ihm=>
   intro M bm tk ρ σ a w hl h hm;obtain⟨e,a₁,w₁,hq,harr⟩:=ih hok hl h (hI m ρ σ hm) b (.inLoop c'::k) cs;obtain⟨M',bm',tk',ρ',σ',x,k1,k2,k3,k4⟩:=hq;cases k2 with
   | normal=>
    obtain⟨m',hlt,ρ3,σ3,g1,g4⟩:=k1;obtain⟨M3,bm3,g2,g3⟩:=g1 M' bm' tk' pr n a₁ w₁ k3;obtain⟨e₂,a₂,w₂,hq₂,harr₂⟩:=ihm m' hlt M3 bm3 tk' ρ3 σ3 a₁ w₁ (g3 M0 bm0 w0 hn0 k4) g2 g4;exact⟨e₂,a₂,w₂,hq₂,.of_steps (Steps.trans harr (.one step_inLoop)) harr₂⟩
   | ret=>exact⟨_,a₁,w₁,⟨M',bm',tk',ρ',σ',_,k1,.ret,k3,k4⟩,.pass (x:=.inLoop c') rfl (fun _ _=>.inl (by simp)) harr⟩
   | exit id=>exact⟨_,a₁,w₁,⟨M',bm',tk',ρ',σ',_,k1,.exit id,k3,k4⟩,.pass (x:=.inLoop c') rfl (fun _ _=>.inl (by simp)) harr⟩
   | panic hp=>exact⟨_,a₁,w₁,⟨M',bm',tk',ρ',σ',_,k1,.panic hp,k3,k4⟩,.pass (x:=.inLoop c') rfl (fun _ _=>.inl (by simp)) harr⟩
  obtain⟨e,a',w',hq,harr⟩:=key m M1 bm1 tk _ σ1 a w hl1 h1 hm;exact⟨e,a',w',hq,.of_steps (.one step_loop) harr⟩
 | exit id=>
  intro c' M bm tk ρ σ a w Q hok hl h hq;cases c'<;>simp only[okC,beq_iff_eq]at hok<;>first|(cases hok;done)|skip
  subst hok;exact wp_exit ⟨M,bm,tk,ρ,σ,_,hq,.exit id,h,hl⟩
 | ret=>
  intro c' M bm tk ρ σ a w Q hok hl h hq;cases c'<;>simp only[okC]at hok<;>first|(cases hok;done)|skip
  exact wp_ret ⟨M,bm,tk,ρ,σ,_,hq,.ret,h,hl⟩
end
end Go.Proofs.YthekkgfmagliiaaGreatDoor
namespace Go.Proofs.YthekkgfmagliiaaGreatDoor
open Go.RowKit
inductive D.Wf:D->Prop
 | lit (v:Value) (h:dQ v):D.Wf (.lit v)
 | sl (rows:LLD) (hl:rows.length≤maxLen) (h:∀i j (hi:i<rows.length) (hj:j<rows[i].length),D.Wf rows[i][j]):D.Wf (.sl rows)
theorem DRep.wf{M:an}{x:D}{v:Value}(h:DRep M x v):x.Wf:=by
 induction h with
 | lit v h=>exact .lit v h
 | sl rows k p cap val hk hd hf hc hm ih=>exact .sl rows (by omega) ih
inductive V.Wf:V->Prop
 | d {x:D} (h:x.Wf):V.Wf (.d x)
 | own {T k:Nat} {rows:LLD} (h:(D.sl rows).Wf):V.Wf (.own T k rows)
 | agg {cs:List V} (h:∀i (h:i<cs.length),V.Wf cs[i]):V.Wf (.agg cs)
 | nil:V.Wf .nil
 | tup (cs:List V):V.Wf (.tup cs)
 | ptr (i o:Nat):V.Wf (.ptr i o)
 | bsl (i o n k:Nat):V.Wf (.bsl i o n k)
 | row (cs:List D) (o:Nat):V.Wf (.row cs o)
 | fn (f:FuncId) (cs:List V):V.Wf (.fn f cs)
 | bnd (f:FuncId) (cs:List V):V.Wf (.bnd f cs)
 | iface (t:TypeId) (v:V):V.Wf (.iface t v)
 | mp (i:Nat):V.Wf (.mp i)
 | bsc (i n c:Nat):V.Wf (.bsc i n c)
 | junk:V.Wf .junk
theorem Rep.wf{M:an}{bm:List Nat}{x:V}{v:Value}(h:Rep M bm x v):x.Wf:=by
 induction h with
 | d h=>exact .d h.wf
 | own h=>exact .own h.wf
 | nil=>exact .nil
 | agg hl h h1 ih=>exact .agg fun i hi=>ih i hi (by omega)
 | tup hl h ih=>exact .tup _
 | ptr h=>exact .ptr _ _
 | bsl h hc hm=>exact .bsl _ _ _ _
 | row val hf hd=>exact .row _ _
 | fn hl h ih=>exact .fn _ _
 | bnd hl h ih=>exact .bnd _ _
 | iface h ih=>exact .iface _ _
 | mp h=>exact .mp _
 | bsc h hc hm=>exact .bsc _ _ _
 | junk v=>exact .junk
inductive RV where
 | t (n:Nat) (own:Bool)
 | c (n k:Nat) (ag:Bool)
def bq(σ:LLV)(ρ:ah):RV->Option V
 | .t n true=>some (get ρ n)
 | .t n false=>some (get ρ n).lend
 | .c n k ag=>(jU σ k ag (get ρ n)).map V.lend
def cY(σ:LLV)(ρ:ah):List RV->Option (List V)
 | []=>some []
 | r::rs=>match bq σ ρ r,cY σ ρ rs with|some v,some l=>some (v.lend::l)|_,_=>none
def aU(σ:LLV)(ρ:ah):List RV->Option V
 | [r]=>bq σ ρ r
 | rs=>(cY σ ρ rs).map V.tup
def Kg(tab:Tab):RV->ResultVar->Bool
 | .t n _,.tmp m=>n==m
 | .c n k ag,.cell m t=>n==m&&(match tab t with|some i=>i.sz==k&&i.agg==ag|none=>false)
 | _,_=>false
def mW(tab:Tab):List RV->List ResultVar->Bool
 | [],[]=>true
 | r::rs,r'::rs'=>Kg tab r r'&&mW tab rs rs'
 | _,_=>false
def aM(tab:Tab)(fn:Func)(m:Nat)(c:Cd)(rs:List RV):Bool:=
 (match fn.body with|some b=>okC tab fn.ntmps c b|none=>false)&&mW tab rs fn.results.toList&&decide (m≤fn.ntmps) && !(fn.name == "runtime.NumGoroutine")
def fin(n0:Nat)(rs:List RV)(Q:Out->LLV->Prop):cX:=fun e ρ σ'=>match e with
 | .normal=>∃ρ2 σ2,eJ n0 ρ σ' ρ2 σ2/\∃v,aU σ2 ρ2 rs=some v/\∃k,n0≤k/\aj k (σ2.take k)=true/\V.under k v=true/\Q (.ret v) (σ2.take k)
 | .ret=>∃ρ2 σ2,eJ n0 ρ σ' ρ2 σ2/\∃v,aU σ2 ρ2 rs=some v/\∃k,n0≤k/\aj k (σ2.take k)=true/\V.under k v=true/\Q (.ret v) (σ2.take k)
 | .panic v=>∃k,n0≤k/\aj k (σ'.take k)=true/\V.under k v=true/\Q (.panic v) (σ'.take k)
 | .exit _=>False
def eD:Nat->List V->ah
 | _,[]=>[]
 | i,v::r=>(i,v)::eD (i+1) r
def H7(tmps:Array Value):ResultVar->Sem Value
 | .tmp t=>pure (tmps.getD t undef)
 | .cell a t=>do loadVar t (<-asAddr (tmps.getD a undef))
theorem qj(fn:Func)(tmps:Array Value):results fn tmps=(do
 let vs <-fn.results.mapM (H7 tmps)
 pure (if h:vs.size=1 then vs[0]else .tuple vs)):=by
 unfold results;congr 1
section
variable {C : Cx} {M : an} {bm : List Nat} {tk : bP} {pr : Prot} {ρ : ah} {σ : LLV} {n : Nat} {a : Act} {w : World}
theorem rC(h:SRel M bm tk pr ρ σ n a w){r:RV}{r':ResultVar}(hok:Kg C.tab r r'=true){x:V}(hx:bq σ ρ r=some x):
 ∃v,(H7 a.tmps r').run C.P w=.ok v w/\∃t,CellOK M bm w x v t/\(t=none\/∃s,t=tk none s):=by
 unfold Kg at hok;split at hok
 .rename_i m own m';simp only[beq_iff_eq]at hok;subst hok;cases own with
  | true=>cases hx;exact⟨_,rfl,_,h.slots m,.inr ⟨m,rfl⟩⟩
  | false=>cases hx;exact⟨_,rfl,none,⟨(h.slots m).rep.lend,fun _ _ _ e=>absurd e V.lend_own⟩,.inl rfl⟩
 .rename_i m k ag m' t;simp only[Ry,beq_iff_eq]at hok;obtain⟨rfl,h2⟩:=hok;split at h2
  .rename_i i hi;simp only[Ry,beq_iff_eq]at h2;obtain⟨rfl,rfl⟩:=h2;obtain⟨y,hy,rfl⟩:=Option.map_eq_some_iff.1 hx;obtain⟨v,h3,h4,h5⟩:=ry h.inv hi hy (h.slots m).rep;refine⟨v,?_,none,⟨h4.lend,fun _ _ _ e=>absurd e V.lend_own⟩,.inl rfl⟩
   have hptr:∃ad,a.tmps.getD m undef=.pointer (some ad):=by
    have hr:=(h.slots m).rep;unfold jU at hy;obtain⟨cs,hcs,-⟩:=Option.bind_eq_some_iff.1 hy;obtain⟨ad,vs,e,-⟩:=kW h.inv hcs hr;exact⟨ad,e⟩
   obtain⟨ad,e⟩:=hptr;simp only[H7];rw[e]at h3 ⊢;simpa[Instr.loadAt,Instr.sureAddr,asAddr]using h3
  .cases h2
 .cases hok
theorem qo(h:SRel M bm tk pr ρ σ n a w):∀{rs:List RV} {rs':List ResultVar} {xs:List V},mW C.tab rs rs'=true->cY σ ρ rs=some xs->
 ∃vs:List Value,(rs'.mapM (H7 a.tmps)).run C.P w=.ok vs w/\vs.length=xs.length/\rs'.length=xs.length/\∀i (h:i<xs.length) (h':i<vs.length),Rep M bm xs[i] vs[i]
 | [],[],xs,_,hx=>by cases hx;exact⟨[],rfl,rfl,rfl,fun i h=>by simp at h⟩
 | r::rs,r'::rs',xs,hok,hx=>by
  simp only[mW,Ry]at hok;simp only[cY]at hx;split at hx
  .rename_i v l hv hl;cases hx;obtain⟨u,g1,t,g2,-⟩:=rC h hok.1 hv;obtain⟨vs,k1,k2,k3,k4⟩:=qo h hok.2 hl;refine⟨u::vs,?_,by simp[k2],by simp[k3],fun i h1 h2=>?_⟩
   .rw[RN,Sem.run_bind,g1,Result.andThen_ok,Sem.run_bind,k1];rfl
   .cases i with
    | zero=>exact g2.rep.lend
    | succ i=>exact k4 i (by simpa using h1) (by simpa using h2)
  .cases hx
 | [],_::_,_,hok,_=>by cases hok
 | _::_,[],_,hok,_=>by cases hok
theorem rV(h:SRel M bm tk pr ρ σ n a w){rs:List RV}{fn:Func}{x:V}(hok:mW C.tab rs fn.results.toList=true)(hx:aU σ ρ rs=some x):
 ∃v,(results fn a.tmps).run C.P w=.ok v w/\∃t,CellOK M bm w x v t/\(t=none\/∃s,t=tk none s):=by
 rw[qj,Array.mapM_eq_mapM_toList];unfold aU at hx;split at hx
 .rename_i r
  match hrs:fn.results.toList,hok with
  | [r'],hok=>
   simp only[mW,RB]at hok;obtain⟨v,g1,g2⟩:=rC h hok hx;refine⟨v,?_,g2⟩;simp only[RN,List.mapM_nil,Sem.run_bind,Sem.run_map,g1,Result.andThen_ok,Sem.run_pure];rfl
  | [],hok=>cases hok
  | _::_::_,hok=>simp[mW]at hok
 .rename_i hne;obtain⟨xs,hxs,rfl⟩:=Option.map_eq_some_iff.1 hx;obtain⟨vs,k1,k2,k3,k4⟩:=qo h hok hxs;refine⟨.tuple vs.toArray,?_,none,⟨.tup k2 k4,fun _ _ _ e=>by cases e⟩,.inl rfl⟩;simp only[Sem.run_bind,Sem.run_map,k1,Result.andThen_ok,Sem.run_pure]
  have hl:¬vs.toArray.size=1:=by
   intro e;have:fn.results.toList.length=1:=by rw[k3,<-k2];simpa using e
   match rs,hne,hok with
   | [],_,hok=>match hrs:fn.results.toList,hok with | [],_=>rw[hrs]at this;cases this
   | [r],hne,_=>exact hne r rfl
   | _::_::_,_,hok=>match hrs:fn.results.toList,hok with
    | [_],hok=>simp[mW]at hok
    | _::_::_,_=>rw[hrs]at this;simp at this
  rw[dif_neg hl]
theorem j6:∀(args:List V) (i t:Nat),get (eD i args) t=if i≤t then(args[t-i]?).getD .junk else .junk
 | [],i,t=>by simp[eD,get]
 | v::r,i,t=>by
  simp only[eD,get];split
  .rename_i e;subst e;simp
  .rename_i e;rw[j6 r (i+1) t];by_cases h:i≤t
   .rw[if_pos (by omega),if_pos h,show t-i=(t-(i+1))+1 by omega];rfl
   .rw[if_neg (by omega),if_neg h]
theorem bU{P:Program}{f:FuncId}{fn:Func}(hf:P.funcs[f]? = some fn)(hn:(fn.name == "runtime.NumGoroutine")=false)(hb:fn.body.isNone=false):
 ∀args w,(callFunc f args).run P w=.ok (.enter f args) w:=fun args w=>by
 have h1:fn.name ≠ "runtime.NumGoroutine" := by simpa using hn
 have h2:fn.body≠none:=fun h=>by rw[h]at hb;cases hb
 simp[callFunc,hf,h1,h2]
theorem sT{f:FuncId}{fn:Func}{c:Cd}{rs:List RV}{args:List V}{Q:Out->LLV->Prop}(hf:C.P.funcs[f]? = some fn)(hok:aM C.tab fn args.length c rs=true)
 (h:aj σ.length σ=true->(∀i (h:i<args.length),V.Wf args[i])->awp C σ.length c (eD 0 args) σ (fin σ.length rs Q)):
 (∀as w,(callFunc f as).run C.P w=.ok (.enter f as) w)/\
 ∀(M:an) (bm:List Nat) (tk:bP) (pr:Nat->Prop) (w:World) (vs:List Value),C.glob M pr w->Inv M bm σ tk pr w->vs.length=args.length->(∀i (h:i<args.length) (h':i<vs.length),CellOK M bm w args[i] vs[i] (tk none i))->
  Calls C.P f vs.toArray w fun e w'=>∃M' bm' tk' σ' o,Q o σ'/\Inv M' bm' σ' tk' pr w'/\Later M bm pr w M' bm' w'/\OutOK M' bm' w' tk' o e:=by
 unfold aM at hok;simp only[Ry,decide_eq_true_eq,RA]at hok;obtain⟨⟨⟨h1,h2⟩,h3⟩,h4⟩:=hok;cases hb:fn.body with
 | none=>rw[hb]at h1;cases h1
 | some body=>
 rw[hb]at h1;refine⟨bU hf h4 (by rw[hb];rfl),fun M bm tk pr0 w vs hG hI hl hr=>?_⟩;obtain⟨pr,rfl,hds⟩:∃pr:Prot,pr.p=pr0/\pr.ds=[]:=⟨⟨pr0,[]⟩,rfl,rfl⟩
 have hq:=h hI.under (fun i hi=>(hr i hi (by omega)).rep.wf);refine calls_of_wp hf hb ?_
 have hs:SRel M bm tk pr (eD 0 args) σ fn.ntmps {tmps:=vs.toArray++Ru (fn.ntmps-vs.toArray.size) undef,defers:=[]} w:=by
  refine⟨hI,hds.symm,by simp;omega,fun t=>?_⟩;rw[j6,if_pos (RP _),RO];by_cases hlt:t<args.length
  .rw[RE hlt,RR]
   have hv:(vs.toArray++Ru (fn.ntmps-vs.toArray.size) undef).getD t undef=vs[t]'(by omega):=by
    rw[Rv,Rw (by simp;omega)];simp[show t<vs.length by omega]
   rw[hv];exact hr t hlt (by omega)
  .rw[RF (by omega),RS];exact CellOK.junk ..
 refine wp_mono (lE hG hI.len h1 (Later.refl M bm pr w) hs hq) (fun e a' w' hL=>?_);obtain⟨M',bm',tk',ρ',σ',x,k1,k2,k3,k4⟩:=hL
 have cut:∀{M':an} {bm':List Nat} {ρ':ah} {σ':LLV} {k:Nat} (o:Option Nat),SRel M' bm' tk' pr ρ' σ' fn.ntmps a' w'->Later M bm pr w M' bm' w'->σ.length≤k->aj k (σ'.take k)=true->(o=none\/∃s,o=tk' none s)->
  Inv M' (bm'.take k) (σ'.take k) (fun i j=>match i with|none=>if j=0 then o else none|some i=>tk' (some i) j) pr w'/\Later M bm pr w M' (bm'.take k) w':=by
  intro M' bm' ρ' σ' k o k3 k4 hk hbk ho;have hd:=k3.inv.drop hbk;refine⟨⟨hd.facts,hd.len,hd.box,hd.free,hd.bmnd,fun i j g hg=>?_,fun i j i' j' g g1 g2=>?_,hd.prlt⟩,k4.drop (by rw[hI.len];exact hk)⟩
  .cases i with
   | some i=>exact hd.tok _ _ _ hg
   | none=>
    simp only at hg;split at hg
    .rcases ho with rfl|⟨s,rfl⟩
     .cases hg
     .exact hd.tok _ _ _ hg
    .cases hg
  .cases i with
   | some i=>cases i' with
    | some i'=>exact hd.inj _ _ _ _ _ g1 g2
    | none=>
     simp only at g2;split at g2
     .rcases ho with rfl|⟨s,rfl⟩
      .cases g2
      .have:=hd.inj _ _ _ _ _ g1 g2;simp at this
     .cases g2
   | none=>cases i' with
    | some i'=>
     simp only at g1;split at g1
     .rcases ho with rfl|⟨s,rfl⟩
      .cases g1
      .have:=hd.inj _ _ _ _ _ g1 g2;simp at this
     .cases g1
    | none=>
     simp only at g1 g2;split at g1
     .split at g2
      .exact⟨rfl,by omega⟩
      .cases g2
     .cases g1
 have ret:∀ρ2 σ2,eJ σ.length ρ' σ' ρ2 σ2->∀v,aU σ2 ρ2 rs=some v->(∃k,σ.length≤k/\aj k (σ2.take k)=true/\V.under k v=true/\Q (.ret v) (σ2.take k))->
  a'.defers=[]/\∃u,(results fn a'.tmps).run C.P w'=.ok u w'/\∃M' bm' tk' σ' o,Q o σ'/\Inv M' bm' σ' tk' pr w'/\Later M bm pr w M' bm' w'/\OutOK M' bm' w' tk' o (.returned u):=by
  rintro ρ2 σ2 hsh v hv ⟨k,g1,g2,g3,g4⟩;obtain⟨M2,bm2,s1,s2⟩:=hsh M' bm' tk' pr fn.ntmps a' w' k3;obtain⟨u,r1,t,r2,r3⟩:=rV s1 h2 hv;obtain⟨c1,c2⟩:=cut t s1 (s2 M bm w hI.len k4) g1 g2 r3;refine⟨k3.defers.trans hds,u,r1,M2,bm2.take k,_,σ2.take k,.ret v,g4,c1,c2,fun v' e=>?_,fun v' e=>by cases e⟩;cases e;exact⟨u,rfl,r2.rep.drop g3,by simpa using r2.own⟩
 cases k2 with
 | normal=>obtain⟨ρ2,σ2,g0,v,g1,g2⟩:=k1;exact ret ρ2 σ2 g0 v g1 g2
 | ret=>obtain⟨ρ2,σ2,g0,v,g1,g2⟩:=k1;exact ret ρ2 σ2 g0 v g1 g2
 | exit id=>exact k1.elim
 | panic hp=>
  obtain⟨k,g1,g2,g3,g4⟩:=k1;obtain⟨c1,c2⟩:=cut none k3 k4 g1 g2 (.inl rfl);exact⟨k3.defers.trans hds,M',bm'.take k,_,σ'.take k,_,g4,c1,c2,(fun v' e=>by cases e),fun v' e=>by cases e;exact⟨_,rfl,hp.drop g3⟩⟩
theorem DV{f:FuncId}{fn:Func}{c:Cd}{rs:List RV}{args:List V}{Q:Out->LLV->Prop}(hf:C.P.funcs[f]? = some fn)(hok:aM C.tab fn args.length c rs=true)(hno:args.all (! ·.isOwn)=true)
 (h:aj σ.length σ=true->(∀i (h:i<args.length),V.Wf args[i])->awp C σ.length c (eD 0 args) σ (fin σ.length rs Q)):Fun C f args σ Q:=by
 obtain⟨h1,h2⟩:=sT hf hok h;refine⟨h1,fun M bm tk pr w vs hG hI _ hl hr=>h2 M bm tk pr w vs hG hI hl fun i g1 g2=>⟨hr i g1 g2,fun T k rows e=>?_⟩⟩;have:=List.all_eq_true.1 hno args[i] (RD g1);rw[e]at this;cases this
theorem x7{f:FuncId}{fn:Func}{c:Cd}{rs:List RV}{pre post:List V}{T k:Nat}{rows:LLD}{Q:Out->LLV->Prop}(hf:C.P.funcs[f]? = some fn)(hok:aM C.tab fn (pre++.own T k rows::post).length c rs=true)(hno:(pre++post).all (! ·.isOwn)=true)
 (h:aj σ.length σ=true->(∀i (h:i<(pre++.own T k rows::post).length),V.Wf (pre++.own T k rows::post)[i])->awp C σ.length c (eD 0 (pre++.own T k rows::post)) σ (fin σ.length rs Q)):nC C f pre T k rows post σ Q:=by
 obtain⟨h1,h2⟩:=sT hf hok h;refine⟨h1,fun M bm tk pr w vs hG hI hl hr ho=>h2 M bm tk pr w vs hG hI hl fun i g1 g2=>⟨hr i g1 g2,fun T' k' rows' e=>?_⟩⟩;rw[RM,Ry]at hno;by_cases hi:i<pre.length
 .rw[List.getElem_append_left hi]at e;have:=List.all_eq_true.1 hno.1 _ (RD hi);rw[e]at this;cases this
 .rw[List.getElem_append_right (by omega)]at e;by_cases hm:i=pre.length
  .subst hm;simp only[Nat.sub_self,List.getElem_cons_zero]at e;cases e;have e3:vs.getD pre.length undef=vs[pre.length]:=by simp[List.getD,g2]
   rw[e3]at ho;exact ho
  .obtain⟨m,hm2⟩:∃m,i-pre.length=m+1:=⟨i-pre.length-1,by omega⟩
   simp only[hm2,List.getElem_cons_succ]at e;have:=List.all_eq_true.1 hno.2 _ (RD (l:=post) (n:=m) (by simp only[List.length_append,RK]at g1;omega));rw[e]at this;cases this
end
end Go.Proofs.YthekkgfmagliiaaGreatDoor
namespace Go.Proofs.YthekkgfmagliiaaGreatDoor
open Go.RowKit
inductive Tag{α:Type}(a:α):Type where
 | mk
def cF(o:Option V)(f:V->Prop)(_:Tag f):Prop:=match o with|some v=>f v|none=>False
theorem Ce(v:V)(f:V->Prop)(t:Tag f):cF (some v) f t=f v:=rfl
def fnT(v:V)(f:FuncId->List V->Prop)(_:Tag f):Prop:=match v with | .fn g cap=>f g cap|_=>False
theorem Li(g:FuncId)(cap:List V)(f:FuncId->List V->Prop)(t:Tag f):fnT (.fn g cap) f t=f g cap:=rfl
def J5(v:V)(as:List V)(f:FuncId->List V->Prop)(_:Tag f):Prop:=match v with | .fn g cap=>f g (as++cap) | .bnd g first=>f g (first++as)|_=>False
theorem Jq(g:FuncId)(cap as:List V)(f:FuncId->List V->Prop)(t:Tag f):J5 (.fn g cap) as f t=f g (as++cap):=rfl
theorem EF(g:FuncId)(first as:List V)(f:FuncId->List V->Prop)(t:Tag f):J5 (.bnd g first) as f t=f g (first++as):=rfl
def yA(v:V)(f:Nat->Nat->Prop)(_:Tag f):Prop:=match v with | .ptr i o=>f i o|_=>False
theorem GH(i o:Nat)(f:Nat->Nat->Prop)(t:Tag f):yA (.ptr i o) f t=f i o:=rfl
def wA(v:V)(f:Nat->Nat->LLD->Prop)(_:Tag f):Prop:=match v with | .own T k rows=>f T k rows|_=>False
theorem Hj(T k:Nat)(rows:LLD)(f:Nat->Nat->LLD->Prop)(t:Tag f):wA (.own T k rows) f t=f T k rows:=rfl
def ifT(v:V)(f:Nat->V->Prop)(_:Tag f):Prop:=match v with | .iface t v=>f t v|_=>False
theorem BK(ty:Nat)(v:V)(f:Nat->V->Prop)(t:Tag f):ifT (.iface ty v) f t=f ty v:=rfl
def bxT(o:Option (List V))(f:List V->Prop)(_:Tag f):Prop:=match o with|some cs=>f cs|none=>False
theorem Gq(cs:List V)(f:List V->Prop)(t:Tag f):bxT (some cs) f t=f cs:=rfl
def rwT(o:Option LLD)(f:LLD->Prop)(_:Tag f):Prop:=match o with|some rows=>f rows|none=>False
theorem FP(rows:LLD)(f:LLD->Prop)(t:Tag f):rwT (some rows) f t=f rows:=rfl
def JF(v:V)(f:Bool->Prop)(_:Tag f):Prop:=match v with | .d (.lit (.bool c))=>f c|_=>False
theorem xY(c:Bool)(f:Bool->Prop)(t:Tag f):JF (.d (.lit (.bool c))) f t=f c:=rfl
def sU(v:V)(f:Bool->Prop)(u:Unit->Prop)(_:Tag f)(_:Tag u):Prop:=match v with
 | .d (.lit (.bool c))=>f c
 | .tup []=>u ()
 | _=>False
theorem ym(c:Bool)(f:Bool->Prop)(u:Unit->Prop)(s:Tag f)(t:Tag u):sU (.d (.lit (.bool c))) f u s t=f c:=rfl
theorem Ft(f:Bool->Prop)(u:Unit->Prop)(s:Tag f)(t:Tag u):sU (.tup []) f u s t=u ():=rfl
def sw(c:Bool)(A B:Unit->Prop)(_:Tag A)(_:Tag B):Prop:=(c=true->A ())/\(c=false->B ())
theorem B7(A B:Unit->Prop)(s:Tag A)(t:Tag B):sw true A B s t=A ():=by simp[sw]
theorem zw(A B:Unit->Prop)(s:Tag A)(t:Tag B):sw false A B s t=B ():=by simp[sw]
theorem bA{c:Bool}{A B:Unit->Prop}{s:Tag A}{t:Tag B}(h1:c=true->A ())(h2:c=false->B ()):sw c A B s t:=⟨h1,h2⟩
theorem Hz(b:Bool):(b==true)=b:=by cases b<;>rfl
theorem EE(b:Bool):(b==false) = !b:=by cases b<;>rfl
def onT(p:Prop)(A:Unit->Prop)(_:Tag A):Prop:=p/\A ()
theorem bQ{p:Prop}{A:Unit->Prop}{t:Tag A}(h1:p)(h2:A ()):onT p A t:=⟨h1,h2⟩
theorem FC(A:Unit->Prop)(t:Tag A):onT True A t=A ():=by simp[onT]
def dK(C:Cx)(n0:Nat)(c:Cd)(ρ:ah)(σ:LLV)(Q:cX)(_:Tag Q):Prop:=awp C n0 c ρ σ Q
def bD(C:Cx)(l:List O)(ρ:ah)(σ:LLV)(Q:cX)(_:Tag Q):Prop:=dl C l ρ σ Q
def bh(C:Cx)(l:List O)(ρ:ah)(σ:LLV)(K:ah->Prop)(_:Tag K):Prop:=aS C l ρ σ K
def Ds(K:V->LLV->Prop)(P:V->LLV->Prop):Out->LLV->Prop:=fun o σ'=>match o with
 | .ret v=>K v σ'
 | .panic v=>P v σ'
def js(C:Cx)(f:FuncId)(args:List V)(σ:LLV)(K:V->LLV->Prop)(P:V->LLV->Prop)(_:Tag K)(_:Tag P):Prop:=Fun C f args σ (Ds K P)
def D8(C:Cx)(f:FuncId)(pre:List V)(T k:Nat)(rows:LLD)(post:List V)(σ:LLV)(K:V->LLV->Prop)(P:V->LLV->Prop)(_:Tag K)(_:Tag P):Prop:=nC C f pre T k rows post σ (Ds K P)
def EN(C:Cx)(f:FuncId)(args:List V)(σ:LLV)(k:V->Prop)(_:Tag k):Prop:=∃v,Fun C f args σ (fun o σ'=>o=.ret v/\σ'=σ)/\k v
def KH(x:V)(k:Int->Prop)(_:Tag k):Prop:=match x with
 | .d (.lit (.int _ n))=>k n
 | _=>False
theorem He(kd:IntKind)(n:Int){k:Int->Prop}(t:Tag k):KH (.d (.lit (.int kd n))) k t=k n:=rfl
def stT(C:Cx)(l:List O)(ρ:ah)(σ:LLV)(acc:Option LLV)(K:ah->LLV->Prop)(_:Tag K):Prop:=ik C σ l ρ acc K
def Gn(P:Program):Tab:=fun t=>
 match P.underlying t,P.info? t with
 | some d,some i=>match i.zero with
  | some z=>if z.cells.size=i.size then some ⟨d,i.size,i.bytes,z⟩else none
  | none=>none
 | _,_=>none
theorem Gu(P:Program):JL P (Gn P):=by
 intro t i h;unfold Gn at h;split at h
 .rename_i d inf h1 h2;split at h
  .rename_i z hz;split at h
   .rename_i hs;cases h;exact⟨h1,inf,h2,rfl,rfl,hz,hs⟩
   .cases h
  .cases h
 .cases h
def cxk(P:Program)(gl:Nat->Option (List D))(kp:Nat->Option (Array Value->Prop))(h:P.follows .mixedOrders=true):Cx:=⟨P,Gn P,gl,kp,Gu P,h,fun t=>!P.stoodInHeld t && !P.eqGuardType P.depth t,fun t ht=>by simpa using ht⟩
section
variable {C : Cx} {ρ : ah} {σ σ2 : LLV} {Q : cX} {K : ah -> Prop} {KA : ah -> LLD -> Prop} {cc : Cell} {acc : Option LLD} {KN : ah -> List V -> Prop} {cn : List V} {accn : Option (List V)} {KS : ah -> LLV -> Prop} {accs : Option LLV} {n0 : Nat}
theorem Qr(n:Nat):ev C ρ (.t n)=get ρ n:=rfl
theorem Rg(v:V):ev C ρ (.k v)=v:=rfl
theorem EO(s:Nat)(u:V)(r:ah)(t:Nat):get ((s,u)::r) t=if s=t then u else get r t:=rfl
theorem Jg(t:Nat):get [] t=.junk:=rfl
theorem GJ(s:Nat)(u:V)(r:ah)(t:Nat)(v:V):put ((s,u)::r) t v=if t<s then(t,v)::(s,u)::r else if t=s then(t,v)::r else(s,u)::put r t v:=rfl
theorem HU(t:Nat)(v:V):put [] t v=[(t,v)]:=rfl
theorem Bk(t:Nat)(v:V):putd ρ (some t) v=put ρ t v:=rfl
theorem BS(v:V):putd ρ none v=ρ:=rfl
theorem tN(l:List Nat):aK l []=[]:=rfl
theorem sd(l:List Nat)(s:Nat)(u:V)(r:ah):aK l ((s,u)::r)=if l.contains s=true then(s,u)::aK l r else aK l r:=by
 unfold aK;rw[List.filter_cons]
theorem Pl(x:X)(d:Option Nat)(r:List O)(t:Tag Q):bD C (⟨d,.mv x,none⟩::r) ρ σ Q t=bD C r (putd ρ d (ev C ρ x).copy) σ Q .mk:=rfl
theorem Rr(x:X)(d:Option Nat)(r:List O)(t:Tag K):bh C (⟨d,.mv x,none⟩::r) ρ σ K t=bh C r (putd ρ d (ev C ρ x).copy) σ K .mk:=rfl
theorem JV(x y z:X)(d:Option Nat)(r:List O)(t:Tag Q):bD C (⟨d,.pick x y z,none⟩::r) ρ σ Q t=cF (kU (ev C ρ x) (ev C ρ y) (ev C ρ z)) (fun v=>bD C r (putd ρ d v) σ Q .mk) .mk:=rfl
theorem Kr(x y z:X)(d:Option Nat)(r:List O)(t:Tag K):bh C (⟨d,.pick x y z,none⟩::r) ρ σ K t=cF (kU (ev C ρ x) (ev C ρ y) (ev C ρ z)) (fun v=>bh C r (putd ρ d v) σ K .mk) .mk:=by
 unfold bh cF;simp only[aS,bI,cH,pv];cases kU (ev C ρ x) (ev C ρ y) (ev C ρ z)<;>rfl
theorem LK(o:BinOp)(x y:X)(d:Option Nat)(r:List O)(t:Tag Q):bD C (⟨d,.bin o x y,none⟩::r) ρ σ Q t=cF (aQ o (ev C ρ x) (ev C ρ y)) (fun v=>bD C r (putd ρ d v) σ Q .mk) .mk:=rfl
theorem LJ(o:BinOp)(x y:X)(d:Option Nat)(r:List O)(t:Tag K):bh C (⟨d,.bin o x y,none⟩::r) ρ σ K t=cF (aQ o (ev C ρ x) (ev C ρ y)) (fun v=>bh C r (putd ρ d v) σ K .mk) .mk:=by
 unfold bh cF;simp only[aS,bI,cH,pv];cases aQ o (ev C ρ x) (ev C ρ y)<;>rfl
theorem KB(o:BinOp)(x y:X)(d:Option Nat)(r:List O)(t:Tag Q):bD C (⟨d,.binb o x y,none⟩::r) ρ σ Q t=cF (oW o (ev C ρ x) (ev C ρ y)) (fun v=>bD C r (putd ρ d v) σ Q .mk) .mk:=rfl
theorem Ky(o:BinOp)(x y:X)(d:Option Nat)(r:List O)(t:Tag K):bh C (⟨d,.binb o x y,none⟩::r) ρ σ K t=cF (oW o (ev C ρ x) (ev C ρ y)) (fun v=>bh C r (putd ρ d v) σ K .mk) .mk:=by
 unfold bh cF;simp only[aS,bI,cH,pv];cases oW o (ev C ρ x) (ev C ρ y)<;>rfl
theorem M8(neq:Bool)(x:X)(d:Option Nat)(r:List O)(t:Tag Q):bD C (⟨d,.nif neq x,none⟩::r) ρ σ Q t=cF (zp neq (ev C ρ x)) (fun v=>bD C r (putd ρ d v) σ Q .mk) .mk:=by
 unfold bD cF;simp only[dl,fS,cH,pv];cases zp neq (ev C ρ x)<;>simp
theorem KI(f:FuncId)(first:List X)(d:Option Nat)(r:List O)(t:Tag Q):bD C (⟨d,.mkbd f first,none⟩::r) ρ σ Q t=bD C r (putd ρ d (.bnd f (first.map (ev C ρ)))) σ Q .mk:=rfl
theorem Qa(o:UnOp)(x:X)(d:Option Nat)(r:List O)(t:Tag Q):bD C (⟨d,.un o x,none⟩::r) ρ σ Q t=cF (unV o (ev C ρ x)) (fun v=>bD C r (putd ρ d v) σ Q .mk) .mk:=rfl
theorem PS(o:UnOp)(x:X)(d:Option Nat)(r:List O)(t:Tag K):bh C (⟨d,.un o x,none⟩::r) ρ σ K t=cF (unV o (ev C ρ x)) (fun v=>bh C r (putd ρ d v) σ K .mk) .mk:=by
 unfold bh cF;simp only[aS,bI,cH,pv];cases unV o (ev C ρ x)<;>rfl
theorem K7(kd:IntKind)(x:X)(d:Option Nat)(r:List O)(t:Tag Q):bD C (⟨d,.conv kd x,none⟩::r) ρ σ Q t=cF (A9 kd (ev C ρ x)) (fun v=>bD C r (putd ρ d v) σ Q .mk) .mk:=rfl
theorem LY(x:X)(d:Option Nat)(r:List O)(t:Tag Q):bD C (⟨d,.cbs x,none⟩::r) ρ σ Q t=cF (FG σ (ev C ρ x)) (fun v=>bD C r (putd ρ d v) σ Q .mk) .mk:=rfl
theorem Jl(x:X)(d:Option Nat)(r:List O)(t:Tag Q):bD C (⟨d,.nilck x,none⟩::r) ρ σ Q t=cF (jr (ev C ρ x)) (fun v=>bD C r (putd ρ d v) σ Q .mk) .mk:=rfl
theorem I7(x:X)(d:Option Nat)(r:List O)(t:Tag K):bh C (⟨d,.nilck x,none⟩::r) ρ σ K t=cF (jr (ev C ρ x)) (fun v=>bh C r (putd ρ d v) σ K .mk) .mk:=by
 unfold bh cF;simp only[aS,bI,cH,pv];cases jr (ev C ρ x)<;>rfl
theorem jk{op:OP}{ρ:ah}{σ:LLV}{C:Cx}{k k':V->Prop}(hk:∀v,k v->k' v)(h:bI C op ρ σ k):bI C op ρ σ k':=by
 obtain⟨v,h1,h2⟩:=fN h;unfold bI at h1 ⊢;split at h1
 .obtain⟨u,g1,g2⟩:=h1;subst g2;exact⟨u,g1,hk _ h2⟩
 .split at h1
  .obtain⟨u,g1,g2⟩:=h1;subst g2;exact⟨u,g1,hk _ h2⟩
  .exact h1.elim
 .split at h1
  .exact⟨h1.1,by rw[h1.2];exact hk _ h2⟩
  .exact h1.elim
 .obtain⟨u,g1,g2⟩:=h1;subst g2;exact⟨u,g1,hk _ h2⟩
 .split at h1
  .subst h1;exact hk _ h2
  .exact h1.elim
def kvT(a:Option (List (Key×V)))(b:Option Key)(f:List (Key×V)->Key->Prop)(_:Tag f):Prop:=match a,b with|some kv,some key=>f kv key|_,_=>False
theorem ED(kv:List (Key×V))(key:Key)(f:List (Key×V)->Key->Prop)(t:Tag f):kvT (some kv) (some key) f t=f kv key:=rfl
def N7(v:V)(f:Nat->Nat->Nat->Prop)(_:Tag f):Prop:=match asB v with|some (i,off,n)=>f i off n|none=>False
theorem Fs(i off n:Nat)(f:Nat->Nat->Nat->Prop)(t:Tag f):N7 (.bsl i off n 1) f t=f i off n:=rfl
theorem GO(i n c:Nat)(f:Nat->Nat->Nat->Prop)(t:Tag f):N7 (.bsc i n c) f t=f i 0 n:=rfl
def Ln(v:V)(f g:Unit->Prop)(_:Tag f)(_:Tag g):Prop:=if JZ v=true then f ()else g ()
theorem J4(f g:Unit->Prop)(s:Tag f)(t:Tag g):Ln (.d (.sl [])) f g s t=f ():=rfl
theorem FS(i off n:Nat)(f g:Unit->Prop)(s:Tag f)(t:Tag g):Ln (.bsl i off n 1) f g s t=g ():=rfl
theorem F9(i n c:Nat)(f g:Unit->Prop)(s:Tag f)(t:Tag g):Ln (.bsc i n c) f g s t=g ():=rfl
def avT(x:V)(src:List V)(bytes:Nat)(z:V)(σ:LLV)(f:V->LLV->Prop)(_:Tag f):Prop:=Ju σ x src bytes z f
theorem Jf(src:List V)(bytes:Nat)(z:V)(σ:LLV)(f:V->LLV->Prop)(t:Tag f):avT .nil src bytes z σ f t=(src.length*bytes≤140737488355328/\∀c,src.length≤c->f (.bsc σ.length src.length c) (σ++[src++List.replicate (c-src.length) z])):=rfl
theorem FN:lZ []=some []:=rfl
theorem Gc(i o n k:Nat)(r:List V):lZ (.bsl i o n k::r)=(lZ r).map fun l=>.bsl i o n k::l:=by
 simp only[lZ,V.boxable1];cases lZ r<;>rfl
theorem Kz(x:D)(r:List V):lZ (.d x::r)=(lZ r).map fun l=>.d x::l:=by
 simp only[lZ,V.boxable1];cases lZ r<;>rfl
theorem Bo(i n c:Nat):pJ false (.bsc i n c)=some (aL .i64 n):=rfl
theorem F0(b n c:Nat)(kd:IntKind)(j:Nat):iaV 1 (.bsc b n c) (.d (.lit (.int kd (j:Int))))=if j<n then some (.ptr b j)else none:=by
 unfold iaV;simp only[RC,and_true,Nat.mul_one,RQ];by_cases h:j<n
 .rw[if_pos h,if_pos (by omega)]
 .rw[if_neg h,if_neg (by omega)]
theorem Kk(i n c:Nat):(V.bsc i n c).copy=.bsc i n c:=rfl
def J8(st ok:Bool)(z:V)(a:Option (List (Key×V)))(b:Option Key):Option V:=match a,b with|some kv,some key=>some (yM ok z (x8 key kv))|_,_=>none
theorem MO(st ok:Bool)(z:V)(i:Nat)(y:V):OT st ok z σ (.mp i) y=J8 st ok z (Ev st σ[i]?) (xa st y):=by
 unfold OT J8 qc;rfl
theorem Bn(st ok:Bool)(z:V)(kv:List (Key×V))(key:Key):J8 st ok z (some kv) (some key)=some (yM ok z (x8 key kv)):=rfl
theorem Dm(st:Bool)(kv:List (Key×V)):Ev st (some [.mapc st kv])=some kv:=by simp[Ev]
theorem IK(n:Int):xa false (.d (.lit (.int .i64 n)))=some (.i n):=rfl
theorem Ir(s:ByteArray):xa true (.d (.lit (.string s)))=some (.s s):=rfl
theorem E2(st:Bool)(i:Nat):qc st σ (.mp i)=Ev st σ[i]? := rfl
theorem Ek(st:Bool)(kv:List (Key×V))(i:Nat):z6 σ st kv (.mp i)=σ.set i [.mapc st kv]:=rfl
def Ms(b:Option (List V)):Option V:=match b with|some [.mapc _ kv]=>if kv.length≤1000000000 then some (aL .i64 kv.length)else none|_=>none
theorem O6(i:Nat):Qc σ (.mp i)=Ms σ[i]? := rfl
theorem BB(st:Bool)(kv:List (Key×V)):Ms (some [.mapc st kv])=if kv.length≤1000000000 then some (aL .i64 kv.length)else none:=rfl
theorem Ki(z v:V):yM false z (some v)=v:=rfl
theorem Ig(z:V):yM false z none=z:=rfl
theorem Kc(z v:V):yM true z (some v)=.tup [v,aq true]:=rfl
theorem Ia(z:V):yM true z none=.tup [z,aq false]:=rfl
theorem QZ(x:D):(V.d x).copy=.d x:=rfl
theorem Lb(i o n k:Nat):(V.bsl i o n k).copy=.bsl i o n k:=rfl
theorem Km(T k:Nat)(rows:LLD):(V.own T k rows).copy=.d (.sl rows):=rfl
theorem KO:V.nil.copy=.nil:=rfl
theorem KE(cs:List V):(V.agg cs).copy=.agg cs:=rfl
theorem LO(i:Nat):(V.mp i).copy=.mp i:=rfl
def Lh(n off:Nat)(b:Option (List V)):Option (List V):=match b with|some cs=>if off+n≤cs.length/\cV cs=true then some (((cs.drop off).take n).map V.copy)else(tyL n off cs).map fun l=>l.map V.copy|none=>none
theorem Cp(n off:Nat)(cs:List V):Lh n off (some cs)=if off+n≤cs.length/\cV cs=true then some (((cs.drop off).take n).map V.copy)else(tyL n off cs).map fun l=>l.map V.copy:=rfl
theorem B5(i off n:Nat):Df σ (.bsl i off n 1)=Lh n off σ[i]? := by
 unfold Df Lh lk;simp only;cases σ[i]? with
 | none=>rfl
 | some cs=>simp only;split<;>rfl
theorem Iv(rows:LLD):Df σ (.d (.sl rows))=if rows.all (fun r=>r.length==1)=true then some (rows.flatten.map V.d)else none:=rfl
theorem PJ(off:Nat)(x:X)(d:Option Nat)(r:List O)(t:Tag Q):bD C (⟨d,.fa off x,none⟩::r) ρ σ Q t=cF (faV off (ev C ρ x)) (fun v=>bD C r (putd ρ d v) σ Q .mk) .mk:=rfl
theorem Qj(off:Nat)(x:X)(d:Option Nat)(r:List O)(t:Tag K):bh C (⟨d,.fa off x,none⟩::r) ρ σ K t=cF (faV off (ev C ρ x)) (fun v=>bh C r (putd ρ d v) σ K .mk) .mk:=by
 unfold bh cF;simp only[aS,bI,cH,pv];cases faV off (ev C ρ x)<;>rfl
theorem PT(kk:Nat)(x i:X)(d:Option Nat)(r:List O)(t:Tag Q):bD C (⟨d,.ia kk x i,none⟩::r) ρ σ Q t=cF (iaV kk (ev C ρ x) (ev C ρ i)) (fun v=>bD C r (putd ρ d v) σ Q .mk) .mk:=rfl
theorem PC(kk:Nat)(x i:X)(d:Option Nat)(r:List O)(t:Tag K):bh C (⟨d,.ia kk x i,none⟩::r) ρ σ K t=cF (iaV kk (ev C ρ x) (ev C ρ i)) (fun v=>bh C r (putd ρ d v) σ K .mk) .mk:=by
 unfold bh cF;simp only[aS,bI,cH,pv];cases iaV kk (ev C ρ x) (ev C ρ i)<;>rfl
theorem Qo(x i:X)(d:Option Nat)(r:List O)(t:Tag Q):bD C (⟨d,.ix x i,none⟩::r) ρ σ Q t=cF (ixV (ev C ρ x) (ev C ρ i)) (fun v=>bD C r (putd ρ d v) σ Q .mk) .mk:=rfl
theorem Oh(off kk:Nat)(ag:Bool)(x:X)(d:Option Nat)(r:List O)(t:Tag Q):bD C (⟨d,.fld off kk ag x,none⟩::r) ρ σ Q t=cF (xX off kk ag (ev C ρ x)) (fun v=>bD C r (putd ρ d v) σ Q .mk) .mk:=rfl
theorem Md(off kk:Nat)(ag:Bool)(x:X)(d:Option Nat)(r:List O)(t:Tag K):bh C (⟨d,.fld off kk ag x,none⟩::r) ρ σ K t=cF (xX off kk ag (ev C ρ x)) (fun v=>bh C r (putd ρ d v) σ K .mk) .mk:=by
 unfold bh cF;simp only[aS,bI,cH,pv];cases xX off kk ag (ev C ρ x)<;>rfl
theorem M7(s:Bool)(x:X)(d:Option Nat)(r:List O)(t:Tag Q):bD C (⟨d,.len s x,none⟩::r) ρ σ Q t=cF (pJ s (ev C ρ x)) (fun v=>bD C r (putd ρ d v) σ Q .mk) .mk:=rfl
theorem Nz(s:Bool)(x:X)(d:Option Nat)(r:List O)(t:Tag K):bh C (⟨d,.len s x,none⟩::r) ρ σ K t=cF (pJ s (ev C ρ x)) (fun v=>bh C r (putd ρ d v) σ K .mk) .mk:=by
 unfold bh cF;simp only[aS,bI,cH,pv];cases pJ s (ev C ρ x)<;>rfl
theorem NX(x:X)(i:Nat)(d:Option Nat)(r:List O)(t:Tag Q):bD C (⟨d,.ext x i,none⟩::r) ρ σ Q t=cF (yx (ev C ρ x) i) (fun v=>bD C r (putd ρ d v) σ Q .mk) .mk:=rfl
theorem LV(x:X)(i:Nat)(d:Option Nat)(r:List O)(t:Tag K):bh C (⟨d,.ext x i,none⟩::r) ρ σ K t=cF (yx (ev C ρ x) i) (fun v=>bh C r (putd ρ d v) σ K .mk) .mk:=by
 unfold bh cF;simp only[aS,bI,cH,pv];cases yx (ev C ρ x) i<;>rfl
theorem Kv(kk:Nat)(ag:Bool)(x:X)(d:Option Nat)(r:List O)(t:Tag Q):bD C (⟨d,.load kk ag x,none⟩::r) ρ σ Q t=cF (jU σ kk ag (ev C ρ x)) (fun v=>bD C r (putd ρ d v) σ Q .mk) .mk:=rfl
theorem Ka(kk:Nat)(ag:Bool)(x:X)(d:Option Nat)(r:List O)(t:Tag K):bh C (⟨d,.load kk ag x,none⟩::r) ρ σ K t=cF (jU σ kk ag (ev C ρ x)) (fun v=>bh C r (putd ρ d v) σ K .mk) .mk:=by
 unfold bh cF;simp only[aS,bI,cH,pv];cases jU σ kk ag (ev C ρ x)<;>rfl
theorem Mb(zs:List V)(ps:List (Nat×Nat×X))(d:Option Nat)(r:List O)(t:Tag Q):bD C (⟨d,.bld zs ps,none⟩::r) ρ σ Q t=cF ((lV (ev C ρ) zs ps).map V.agg) (fun v=>bD C r (putd ρ d v) σ Q .mk) .mk:=rfl
theorem OL(zs:List V)(ps:List (Nat×Nat×X))(d:Option Nat)(r:List O)(t:Tag K):bh C (⟨d,.bld zs ps,none⟩::r) ρ σ K t=cF ((lV (ev C ρ) zs ps).map V.agg) (fun v=>bh C r (putd ρ d v) σ K .mk) .mk:=by
 unfold bh cF;simp only[aS,bI,cH,pv];cases lV (ev C ρ) zs ps<;>rfl
theorem Ly(s:Bool)(kk:Nat)(x:X)(lo hi:Option X)(d:Option Nat)(r:List O)(t:Tag Q):bD C (⟨d,.sub s kk x lo hi,none⟩::r) ρ σ Q t=cF (nM s kk (ev C ρ x) (lo.map (ev C ρ)) (hi.map (ev C ρ))) (fun v=>bD C r (putd ρ d v) σ Q .mk) .mk:=rfl
theorem LS(s:Bool)(kk:Nat)(x:X)(lo hi:Option X)(d:Option Nat)(r:List O)(t:Tag K):bh C (⟨d,.sub s kk x lo hi,none⟩::r) ρ σ K t=cF (nM s kk (ev C ρ x) (lo.map (ev C ρ)) (hi.map (ev C ρ))) (fun v=>bh C r (putd ρ d v) σ K .mk) .mk:=by
 unfold bh cF;simp only[aS,bI,cH,pv];cases nM s kk (ev C ρ x) (lo.map (ev C ρ)) (hi.map (ev C ρ))<;>rfl
theorem K9(f:FuncId)(cap:List X)(d:Option Nat)(r:List O)(t:Tag Q):bD C (⟨d,.mkfn f cap,none⟩::r) ρ σ Q t=bD C r (putd ρ d (.fn f (cap.map (ev C ρ)))) σ Q .mk:=rfl
theorem NH(ty:TypeId)(x:X)(d:Option Nat)(r:List O)(t:Tag Q):bD C (⟨d,.mki ty x,none⟩::r) ρ σ Q t=cF (Fe ty (ev C ρ x)) (fun v=>bD C r (putd ρ d v) σ Q .mk) .mk:=rfl
theorem Qp(g:Bool)(x y:X)(d:Option Nat)(r:List O)(t:Tag Q):bD C (⟨d,.mx g x y,none⟩::r) ρ σ Q t=cF (mxV g (ev C ρ x) (ev C ρ y)) (fun v=>bD C r (putd ρ d v) σ Q .mk) .mk:=rfl
theorem JY(f:FuncId)(args:List X)(d:Option Nat)(r:List O)(t:Tag Q):bD C (⟨d,.call f args,none⟩::r) ρ σ Q t=js C f (args.map fun x=>(ev C ρ x).lend) σ (fun v σ'=>bD C r (putd ρ d v) σ' Q .mk) (fun v σ'=>Q (.panic v) ρ σ') .mk .mk:=rfl
theorem Ih(x:X)(args:List X)(d:Option Nat)(r:List O)(t:Tag Q):bD C (⟨d,.callv x args,none⟩::r) ρ σ Q t=J5 (ev C ρ x) (args.map fun x=>(ev C ρ x).lend) (fun f as=>js C f as σ (fun v σ'=>bD C r (putd ρ d v) σ' Q .mk) (fun v σ'=>Q (.panic v) ρ σ') .mk .mk) .mk:=rfl
theorem MJ(T:Nat)(cs:List V)(d:Option Nat)(r:List O)(t:Tag Q):bD C (⟨d,.new T cs,none⟩::r) ρ σ Q t=bD C r (putd ρ d (.ptr σ.length 0)) (σ++[cs]) Q .mk:=rfl
theorem ML(T:Nat)(x:X)(d:Option Nat)(r:List O)(t:Tag Q):bD C (⟨d,.box T x,none⟩::r) ρ σ Q t=onT ((ev C ρ x).boxable=true) (fun _=>bD C r (putd ρ d (.ptr σ.length 0)) (σ++[(ev C ρ x).cells]) Q .mk) .mk:=rfl
theorem Kh(k:Int)(K:Int->Prop):tyT (.agg [.d (.lit (.pointer none)),.nil,.d (.lit (.int .i64 k))]) K=K k:=rfl
theorem NT(kk:Nat)(x y:X)(d:Option Nat)(r:List O)(t:Tag Q):bD C (⟨d,.sto kk x y,none⟩::r) ρ σ Q t=yA (ev C ρ x) (fun i o=>bxT σ[i]? (fun cs=>onT ((ev C ρ y).boxable=true/\(ev C ρ y).cells.length=kk/\o+kk≤cs.length/\cV cs=true) (fun _=>bD C r ρ (σ.set i (over cs o (ev C ρ y).cells)) Q .mk) .mk) .mk) .mk:=rfl
theorem LD(s:Nat)(d:Option Nat)(r:List O)(t:Tag Q):bD C (⟨d,.mvo s,none⟩::r) ρ σ Q t=wA (get ρ s) (fun T k rows=>bD C r (putd (put ρ s (.d (.sl rows))) d (.own T k rows)) σ Q .mk) .mk:=rfl
theorem KZ(T k:Nat)(d:Option Nat)(r:List O)(t:Tag Q):bD C (⟨d,.nilo T k,none⟩::r) ρ σ Q t=bD C r (putd ρ d (.own T k [])) σ Q .mk:=rfl
theorem L9(T k bytes s:Nat)(y:X)(d:Option Nat)(r:List O)(t:Tag Q):bD C (⟨d,.app T k bytes s y,none⟩::r) ρ σ Q t=wA (get ρ s) (fun T' k' rows=>rwT (fw (ev C ρ y)) (fun rows2=>onT (T'=T/\k'=k/\rows2.all (fun r=>r.length==k)=true/\(rows.length+rows2.length)*bytes≤140737488355328) (fun _=>bD C r (putd (put ρ s (.d (.sl rows))) d (.own T k (rows++rows2))) σ Q .mk) .mk) .mk) .mk:=by
 unfold bD wA rwT onT;simp only[dl,fS];cases get ρ s<;>simp only
 cases fw (ev C ρ y)<;>rfl
theorem OE(T k:Nat)(xs:List X)(d:Option Nat)(r:List O)(t:Tag Q):bD C (⟨d,.mks T k xs,none⟩::r) ρ σ Q t=rwT (fq (xs.map (ev C ρ))) (fun rows=>onT (rows.all (fun r=>r.length==k)=true) (fun _=>bD C r (putd ρ d (.d (.sl rows))) σ Q .mk) .mk) .mk:=rfl
theorem Or(T k bytes:Nat)(x:X)(d:Option Nat)(r:List O)(t:Tag Q):bD C (⟨d,.mkc T k bytes x,none⟩::r) ρ σ Q t=KH (ev C ρ x) (fun n=>onT (0≤n/\n*bytes≤140737488355328) (fun _=>bD C r (putd ρ d (.own T k [])) σ Q .mk) .mk) .mk:=by
 unfold bD KH onT;simp only[dl,fS];cases ev C ρ x with
 | d z=>cases z with
  | lit v=>cases v<;>rfl
  | sl rows=>rfl
 | _=>rfl
theorem KL(T k:Nat)(xs:List X)(d:Option Nat)(r:List O)(t:Tag Q):bD C (⟨d,.mkso T k xs,none⟩::r) ρ σ Q t=rwT (fq (xs.map (ev C ρ))) (fun rows=>onT (rows.all (fun r=>r.length==k)=true) (fun _=>bD C r (putd ρ d (.own T k rows)) σ Q .mk) .mk) .mk:=rfl
theorem LT(T:TypeId)(z:V)(x:X)(d:Option Nat)(r:List O)(t:Tag Q):bD C (⟨d,.tas T z x,none⟩::r) ρ σ Q t=cF (F1 T z (ev C ρ x)) (fun v=>bD C r (putd ρ d v) σ Q .mk) .mk:=rfl
theorem Oj(x:X)(d:Option Nat)(r:List O)(t:Tag Q):bD C (⟨d,.pan x,none⟩::r) ρ σ Q t=ifT (ev C ρ x) (fun ty v=>Q (.panic (.iface ty v)) ρ σ) .mk:=rfl
theorem IL(d:Option Nat)(op:OP)(s:Nat)(b:Bool)(r:List O)(t:Tag Q):bD C (⟨d,op,some (s,b)⟩::r) ρ σ Q t=sU (get ρ s) (fun c=>sw (c==b) (fun _=>bD C (⟨d,op,none⟩::r) (put ρ s (.d (.lit (.bool b)))) σ Q .mk) (fun _=>bD C r (putd (put ρ s (.d (.lit (.bool (!b))))) d (.tup [])) σ Q .mk) .mk .mk) (fun _=>bD C r (putd ρ d (.tup [])) σ Q .mk) .mk .mk:=by
 unfold bD sU sw;simp only[dl,beq_iff_eq,beq_eq_false_iff_ne,ne_eq];all_goals rfl
theorem Oe(t:Tag Q):bD C [] ρ σ Q t=Q .normal ρ σ:=rfl
theorem J9(f:FuncId)(args:List X)(d:Option Nat)(r:List O)(t:Tag K):bh C (⟨d,.call f args,none⟩::r) ρ σ K t=EN C f (args.map fun x=>(ev C ρ x).lend) σ (fun v=>bh C r (putd ρ d v) σ K .mk) .mk:=rfl
theorem IA(f:FuncId)(args:List X)(d:Option Nat)(r:List O)(t:Tag Q):bD C (⟨d,.calln f args,none⟩::r) ρ σ Q t=js C f (args.map fun x=>(ev C ρ x).copy) σ (fun v σ'=>bD C r (putd ρ d v) σ' Q .mk) (fun v σ'=>Q (.panic v) ρ σ') .mk .mk:=rfl
theorem Jb(x:X)(args:List X)(s:Nat)(d:Option Nat)(r:List O)(t:Tag Q):bD C (⟨d,.callm x args s,none⟩::r) ρ σ Q t=fnT (ev C ρ x) (fun f cap=>wA (get ρ s) (fun T k rows=>D8 C f (args.map fun x=>(ev C ρ x).lend) T k rows cap σ (fun v σ'=>bD C r (putd (put ρ s (.d (.sl rows))) d v) σ' Q .mk) (fun v σ'=>Q (.panic v) (put ρ s (.d (.sl rows))) σ') .mk .mk) .mk) .mk:=by
 unfold fnT wA D8 bD;simp only[dl,fS];cases ev C ρ x<;>cases get ρ s<;>rfl
theorem Oy(T k:Nat)(xs:List X)(d:Option Nat)(r:List O)(t:Tag K):bh C (⟨d,.mks T k xs,none⟩::r) ρ σ K t=rwT (fq (xs.map (ev C ρ))) (fun rows=>onT (rows.all (fun r=>r.length==k)=true) (fun _=>bh C r (putd ρ d (.d (.sl rows))) σ K .mk) .mk) .mk:=rfl
theorem Jt(d:Option Nat)(op:OP)(s:Nat)(b:Bool)(r:List O)(t:Tag K):bh C (⟨d,op,some (s,b)⟩::r) ρ σ K t=sU (get ρ s) (fun c=>sw (c==b) (fun _=>bh C (⟨d,op,none⟩::r) (put ρ s (.d (.lit (.bool b)))) σ K .mk) (fun _=>bh C r (putd (put ρ s (.d (.lit (.bool (!b))))) d (.tup [])) σ K .mk) .mk .mk) (fun _=>bh C r (putd ρ d (.tup [])) σ K .mk) .mk .mk:=by
 unfold bh sU sw;simp only[aS,beq_iff_eq,beq_eq_false_iff_ne,ne_eq];all_goals rfl
theorem Mm(t:Tag K):bh C [] ρ σ K t=K ρ:=rfl
theorem Q3(x:X)(d:Option Nat)(r:List O)(t:Tag KS):stT C (⟨d,.mv x,none⟩::r) ρ σ accs KS t=stT C r (putd ρ d (ev C ρ x).copy) σ accs KS .mk:=rfl
theorem M5(o:BinOp)(x y:X)(d:Option Nat)(r:List O)(t:Tag KS):stT C (⟨d,.bin o x y,none⟩::r) ρ σ accs KS t=cF (aQ o (ev C ρ x) (ev C ρ y)) (fun v=>stT C r (putd ρ d v) σ accs KS .mk) .mk:=by
 unfold stT cF;simp only[ik,bI,cH,pv];cases aQ o (ev C ρ x) (ev C ρ y)<;>rfl
theorem H6(x:X)(d:Option Nat)(r:List O)(t:Tag KS):stT C (⟨d,.nilck x,none⟩::r) ρ σ accs KS t=cF (jr (ev C ρ x)) (fun v=>stT C r (putd ρ d v) σ accs KS .mk) .mk:=by
 unfold stT cF;simp only[ik,bI,cH,pv];cases jr (ev C ρ x)<;>rfl
theorem Rj(off:Nat)(x:X)(d:Option Nat)(r:List O)(t:Tag KS):stT C (⟨d,.fa off x,none⟩::r) ρ σ accs KS t=cF (faV off (ev C ρ x)) (fun v=>stT C r (putd ρ d v) σ accs KS .mk) .mk:=by
 unfold stT cF;simp only[ik,bI,cH,pv];cases faV off (ev C ρ x)<;>rfl
theorem Pz(kk:Nat)(x i:X)(d:Option Nat)(r:List O)(t:Tag KS):stT C (⟨d,.ia kk x i,none⟩::r) ρ σ accs KS t=cF (iaV kk (ev C ρ x) (ev C ρ i)) (fun v=>stT C r (putd ρ d v) σ accs KS .mk) .mk:=by
 unfold stT cF;simp only[ik,bI,cH,pv];cases iaV kk (ev C ρ x) (ev C ρ i)<;>rfl
theorem Lu(kk:Nat)(ag:Bool)(x:X)(d:Option Nat)(r:List O)(t:Tag KS):stT C (⟨d,.load kk ag x,none⟩::r) ρ σ accs KS t=cF (jU σ kk ag (ev C ρ x)) (fun v=>stT C r (putd ρ d v) σ accs KS .mk) .mk:=by
 unfold stT cF;simp only[ik,bI,cH,pv];cases jU σ kk ag (ev C ρ x)<;>rfl
theorem LW(zs:List V)(ps:List (Nat×Nat×X))(d:Option Nat)(r:List O)(t:Tag KS):stT C (⟨d,.bld zs ps,none⟩::r) ρ σ accs KS t=cF ((lV (ev C ρ) zs ps).map V.agg) (fun v=>stT C r (putd ρ d v) σ accs KS .mk) .mk:=by
 unfold stT cF;simp only[ik,bI,cH,pv];cases lV (ev C ρ) zs ps<;>rfl
theorem Kn(f:FuncId)(args:List X)(d:Option Nat)(r:List O)(t:Tag KS):stT C (⟨d,.call f args,none⟩::r) ρ σ accs KS t=EN C f (args.map fun x=>(ev C ρ x).lend) σ (fun v=>stT C r (putd ρ d v) σ accs KS .mk) .mk:=rfl
theorem OB(T k:Nat)(xs:List X)(d:Option Nat)(r:List O)(t:Tag KS):stT C (⟨d,.mks T k xs,none⟩::r) ρ σ accs KS t=rwT (fq (xs.map (ev C ρ))) (fun rows=>onT (rows.all (fun r=>r.length==k)=true) (fun _=>stT C r (putd ρ d (.d (.sl rows))) σ accs KS .mk) .mk) .mk:=rfl
theorem Nx(kk:Nat)(y z:X)(r:List O)(t:Tag KS):stT C (⟨none,.sto kk y z,none⟩::r) ρ σ none KS t=yA (ev C ρ y) (fun i off=>bxT σ[i]? (fun cs=>onT ((ev C ρ z).boxable=true/\(ev C ρ z).cells.length=kk/\off+kk≤cs.length/\cV cs=true) (fun _=>stT C r ρ σ (some (σ.set i (over cs off (ev C ρ z).cells))) KS .mk) .mk) .mk) .mk:=by
 unfold stT onT yA bxT;simp only[ik,true_and];cases ev C ρ y<;>first|rfl|(simp only;done)|(simp only;rfl)
theorem Lw(σf:LLV)(t:Tag KS):stT C [] ρ σ (some σf) KS t=KS ρ σf:=rfl
theorem Il(l:List O)(keep:List Nat)(t:Tag Q):dK C n0 (.draws l keep) ρ σ Q t=stT C l ρ σ none (fun ρ' σ'=>Q .normal (aK keep ρ') σ') .mk:=rfl
theorem H5(s d0 d1 T k bytes:Nat)(y:X)(l:List O)(keep:List Nat)(t:Tag Q):dK C n0 (.drawb s d0 d1 T k bytes y l keep) ρ σ Q t=wA (get ρ s) (fun T' k' rows=>onT (T'=T/\k'=k) (fun _=>bh C l ρ σ (fun ρ'=>rwT (fw (ev C ρ' y)) (fun r2=>onT (r2.all (fun r=>r.length==k)=true/\(rows.length+r2.length)*bytes≤140737488355328) (fun _=>Q .normal (aK keep (put (put (put ρ' s (.own T k (rows++r2))) d0 (.d (.sl rows))) d1 (.d (.sl (rows++r2))))) σ) .mk) .mk) .mk) .mk) .mk:=by
 unfold dK wA rwT onT bh;first|(simp only[awp,Cj,sc,and_assoc];done)|(simp only[awp,Cj,sc,and_assoc];rfl)
def FT(C:Cx)(f:FuncId)(vs:List V)(pre:List O)(ρ ρ1:ah)(σ:LLV)(k:V->LLV->Prop)(P:V->LLV->Prop)(_:Tag k)(_:Tag P):Prop:=
 (∃v σ1,Fun C f vs σ (fun o σ'=>o=.ret v/\σ'=σ1)/\aS C pre ρ σ1 (fun ρ'=>ρ'=ρ1)/\k v σ1)\/Fun C f vs σ (fun o σ'=>∃u,o=.panic u/\P u σ')
theorem ui{f:FuncId}{vs:List V}{pre:List O}{ρ ρ1:ah}{σ σ1:LLV}{k:V->LLV->Prop}{P:V->LLV->Prop}{s:Tag k}{t:Tag P}{v:V}(h:Fun C f vs σ (fun o σ'=>o=.ret v/\σ'=σ1))(h2:bh C pre ρ σ1 (fun ρ'=>ρ'=ρ1) .mk)(h3:k v σ1):FT C f vs pre ρ ρ1 σ k P s t:=.inl ⟨v,σ1,h,h2,h3⟩
theorem uu{f:FuncId}{vs:List V}{pre:List O}{ρ ρ1:ah}{σ:LLV}{k:V->LLV->Prop}{P:V->LLV->Prop}{s:Tag k}{t:Tag P}(h:Fun C f vs σ (fun o σ'=>∃u,o=.panic u/\P u σ')):FT C f vs pre ρ ρ1 σ k P s t:=.inr h
theorem Jn(pre:List O)(d:Option Nat)(f:FuncId)(args:List X)(post:List O)(kk:Nat)(y z:X)(keep:List Nat)(t:Tag Q):dK C n0 (.drawx pre d f args post kk y z keep) ρ σ Q t=bh C pre ρ σ (fun ρ1=>FT C f (args.map fun x=>(ev C ρ1 x).lend) pre ρ ρ1 σ (fun v σ1=>bh C post (putd ρ1 d v) σ1 (fun ρ2=>yA (ev C ρ2 y) (fun i off=>bxT σ1[i]? (fun cs=>onT ((ev C ρ2 z).boxable=true/\(ev C ρ2 z).cells.length=kk/\off+kk≤cs.length/\cV cs=true) (fun _=>Q .normal (aK keep ρ2) (σ1.set i (over cs off (ev C ρ2 z).cells))) .mk) .mk) .mk) .mk) (fun u σ'=>∀ρ',Q (.panic u) (aK keep ρ') σ') .mk .mk) .mk:=by
 have key:∀(ρ2:ah) (σ1:LLV),(∃i off cs,ev C ρ2 y=.ptr i off/\σ1[i]? = some cs/\((ev C ρ2 z).boxable=true/\(ev C ρ2 z).cells.length=kk/\off+kk≤cs.length/\cV cs=true)/\Q .normal (aK keep ρ2) (σ1.set i (over cs off (ev C ρ2 z).cells)))=yA (ev C ρ2 y) (fun i off=>bxT σ1[i]? (fun cs=>onT ((ev C ρ2 z).boxable=true/\(ev C ρ2 z).cells.length=kk/\off+kk≤cs.length/\cV cs=true) (fun _=>Q .normal (aK keep ρ2) (σ1.set i (over cs off (ev C ρ2 z).cells))) .mk) .mk) .mk:=by
  intro ρ2 σ1;unfold yA bxT onT;apply propext;constructor
  .rintro⟨i,off,cs,h1,h2,h3,h4⟩;rw[h1];simp only[h2];exact⟨h3,h4⟩
  .intro h;cases hy:ev C ρ2 y<;>rw[hy]at h<;>simp only at h<;>first|exact h.elim|skip
   rename_i i off;cases hc:σ1[i]? with
   | none=>rw[hc]at h;exact h.elim
   | some cs=>rw[hc]at h;exact⟨i,off,cs,rfl,hc,h.1,h.2⟩
 unfold dK bh FT;simp only[awp,HT,key]
def gT(C:Cx)(l:List (O×GK))(m:Nat)(h:List LLV)(p:List PendG)(ρ:ah)(σ:LLV)(k:ah->LLV->Prop)(P:V->LLV->Prop)(_:Tag k)(_:Tag P):Prop:=fx C P k l m h p ρ σ
def gnx(F:ah->LLV->Prop):cX:=fun e ρ σ=>e=.normal/\F ρ σ
theorem xU(F:ah->LLV->Prop):gnx F .normal ρ σ=F ρ σ:=by simp[gnx]
section
variable {m : Nat} {h : List LLV} {p : List PendG} {k : ah -> LLV -> Prop} {P : V -> LLV -> Prop} {r : List (O × GK)}
theorem Ma(s:Tag k)(t:Tag P):gT C [] m h p ρ σ k P s t=k ρ σ:=rfl
theorem Lj(o:O)(lo:Nat)(s:Tag k)(t:Tag P):gT C ((o,.free lo)::r) m h p ρ σ k P s t=bh C [o] ρ σ (fun ρ'=>gT C r m h p ρ' σ k P .mk .mk) .mk:=rfl
theorem Ls(o:O)(lo hi:Nat)(s:Tag k)(t:Tag P):gT C ((o,.calm lo hi)::r) m h p ρ σ k P s t=bh C [o] ρ σ (fun ρ'=>onT (mK C o ρ ρ' (m-lo) h) (fun _=>gT C r m h (vJ m hi ⟨o,ρ,ρ',hi⟩ p) ρ' σ k P .mk .mk) .mk) .mk:=rfl
theorem Kw(o:O)(lo:Nat)(s:Tag k)(t:Tag P):gT C ((o,.slot lo)::r) m h p ρ σ k P s t=bD C [o] ρ σ (gnx fun ρ' σ'=>gT C r m h p ρ' σ' k P .mk .mk) .mk:=rfl
def CT(C:Cx)(f:FuncId)(vs:List V)(σ:LLV)(R:LLV->Prop)(kk:V->LLV->Prop)(P:V->LLV->Prop)(pn:Unit->Prop)(_:Tag R)(_:Tag kk)(_:Tag P)(_:Tag pn):Prop:=
 (∃v σ1,Fun C f vs σ (fun o σ'=>o=.ret v/\σ'=σ1)/\R σ1/\kk v σ1)\/(Fun C f vs σ (fun o σ'=>∃u,o=.panic u/\P u σ')/\pn ())
theorem vM{f:FuncId}{vs:List V}{R:LLV->Prop}{kk P:V->LLV->Prop}{pn:Unit->Prop}{t1:Tag R}{t2:Tag kk}{t3:Tag P}{t4:Tag pn}{v:V}{σ1:LLV}(h1:Fun C f vs σ (fun o σ'=>o=.ret v/\σ'=σ1))(h2:R σ1)(h3:kk v σ1):CT C f vs σ R kk P pn t1 t2 t3 t4:=.inl ⟨v,σ1,h1,h2,h3⟩
theorem wL{f:FuncId}{vs:List V}{R:LLV->Prop}{kk P:V->LLV->Prop}{pn:Unit->Prop}{t1:Tag R}{t2:Tag kk}{t3:Tag P}{t4:Tag pn}(h1:Fun C f vs σ (fun o σ'=>∃u,o=.panic u/\P u σ'))(h2:pn ()):CT C f vs σ R kk P pn t1 t2 t3 t4:=.inr ⟨h1,h2⟩
theorem K5(d:Option Nat)(f:FuncId)(args:List X)(s:Tag k)(t:Tag P):gT C ((⟨d,.call f args,none⟩,.act)::r) m h p ρ σ k P s t=CT C f (args.map fun x=>(ev C ρ x).lend) σ (fun σ1=>reG C (m+1) σ1 p) (fun v σ1=>gT C r (m+1) (σ::h) p (putd ρ d v) σ1 k P .mk .mk) P (fun _=>fJ C r m h (putd ρ d .junk) σ) .mk .mk .mk .mk:=by
 unfold gT CT;simp only[fx]
theorem OO(d:Option Nat)(kk:Nat)(x y:X)(s:Tag k)(t:Tag P):gT C ((⟨d,.sto kk x y,none⟩,.act)::r) m h p ρ σ k P s t=bD C [⟨d,.sto kk x y,none⟩] ρ σ (gnx fun ρ' σ'=>onT (reG C (m+1) σ' p) (fun _=>gT C r (m+1) (σ::h) p ρ' σ' k P .mk .mk) .mk) .mk:=by
 unfold gT;simp only[fx];rfl
theorem O4(d:Option Nat)(T:Nat)(cs:List V)(s:Tag k)(t:Tag P):gT C ((⟨d,.new T cs,none⟩,.act)::r) m h p ρ σ k P s t=bD C [⟨d,.new T cs,none⟩] ρ σ (gnx fun ρ' σ'=>onT (reG C (m+1) σ' p) (fun _=>gT C r (m+1) (σ::h) p ρ' σ' k P .mk .mk) .mk) .mk:=by
 unfold gT;simp only[fx];rfl
theorem KY(σ':LLV):reG C m σ' []=True:=rfl
theorem IO(o:O)(ρ1 ρ2:ah)(hi:Nat)(σ':LLV):reG C m σ' (⟨o,ρ1,ρ2,hi⟩::p)=onT (if m≤hi then bh C [o] ρ1 σ' (fun ρ'=>ρ'=ρ2) .mk else True) (fun _=>reG C m σ' p) .mk:=rfl
theorem C2(o:O)(ρ1 ρ2:ah):mK C o ρ1 ρ2 0 h=True:=by cases h<;>rfl
theorem CD(o:O)(ρ1 ρ2:ah)(n:Nat):mK C o ρ1 ρ2 (n+1) (σ::h)=onT (bh C [o] ρ1 σ (fun ρ'=>ρ'=ρ2) .mk) (fun _=>mK C o ρ1 ρ2 n h) .mk:=rfl
theorem Ho(hi:Nat)(x:PendG):vJ m hi x p=if m<hi then x::p else p:=rfl
theorem Nj:fJ C [] m h ρ σ=True:=rfl
theorem J7(o:O)(lo:Nat):fJ C ((o,.free lo)::r) m h ρ σ=if lo≤m then bh C [o] ρ σ (fun ρ'=>fJ C r m h ρ' σ) .mk else fJ C r m h (ap o (.junk,.junk) ρ) σ:=rfl
theorem KQ(o:O)(lo hi:Nat):fJ C ((o,.calm lo hi)::r) m h ρ σ=if lo≤m then bh C [o] ρ σ (fun ρ'=>onT (mK C o ρ ρ' (m-lo) h) (fun _=>fJ C r m h ρ' σ) .mk) .mk else fJ C r m h (ap o (.junk,.junk) ρ) σ:=rfl
theorem JU(o:O)(lo:Nat):fJ C ((o,.slot lo)::r) m h ρ σ=if lo≤m then bD C [o] ρ σ (gnx fun ρ' _=>fJ C r m h ρ' σ) .mk else fJ C r m h (ap o (.junk,.junk) ρ) σ:=rfl
theorem LI(o:O):fJ C ((o,.act)::r) m h ρ σ=fJ C r m h (ap o (.junk,.junk) ρ) σ:=rfl
end
theorem Ji(l:List (O×GK))(keep:List Nat)(t:Tag Q):dK C n0 (.drawg l keep) ρ σ Q t=gT C l 0 [] [] ρ σ (fun ρ' σ'=>Q .normal (aK keep ρ') σ') (fun u σ'=>∀ρ',Q (.panic u) (aK keep ρ') σ') .mk .mk:=rfl
def vT(C:Cx)(p:AV)(σ:LLV)(K:ah->LLV->Prop)(l:List O)(pend:List (O×ah×V))(ρ:ah)(_:Tag K):Prop:=Id C p σ K l pend ρ
theorem Je(l:List O)(x:X)(t:Tag Q):dK C n0 (.drawp l x) ρ σ Q t=bh C l ρ σ (fun ρ'=>ifT (ev C ρ' x) (fun ty u=>∀ρ2,Q (.panic (.iface ty u)) ρ2 σ) .mk) .mk:=by
 unfold dK bh;simp only[awp];congr 1;funext ρ';unfold ifT;split
 .rename_i ty u e;exact propext ⟨fun⟨_,_,e1,h⟩=>by rw[e]at e1;cases e1;exact h,fun h=>⟨_,_,e,h⟩⟩
 .rename_i hne;exact propext ⟨fun⟨ty,u,e,_⟩=>hne ty u e,fun h=>h.elim⟩
theorem Jj(p:AV)(K:ah->LLV->Prop)(d:Option Nat)(op:OP)(r:List O)(pend:List (O×ah×V))(t:Tag K):vT C p σ K (⟨d,op,none⟩::r) pend ρ t=bh C [⟨some 0,op,none⟩] ρ σ (fun ρ'=>vT C p σ K r ((⟨d,op,none⟩,ρ,get ρ' 0)::pend) (putd ρ d (get ρ' 0)) .mk) .mk:=by
 unfold vT bh;simp only[Id,aS,true_and,putd];refine propext ⟨jk fun v hh=>?_,jk fun v hh=>?_⟩
 .simpa only[cr,if_true]using hh
 .simpa only[cr,if_true]using hh
theorem K0(d T bytes:Nat)(z:V)(s:Nat)(y:X)(st:Bool)(x k v:X)(K:ah->LLV->Prop)(pend:List (O×ah×V))(t:Tag K):vT C ⟨d,T,bytes,z,s,y,st,x,k,v⟩ σ K [] pend ρ t=bxT (Df σ (ev C ρ y)) (fun src=>onT (0<src.length) (fun _=>avT (get ρ s) src bytes z σ (fun u σ1=>onT (reV C σ1 pend) (fun _=>
 kvT (qc st σ1 (ev C (put ρ d u) x)) (xa st (ev C (put ρ d u) k)) (fun kv key=>K (put ρ d u) (z6 σ1 st (tW key (ev C (put ρ d u) v).copy kv) (ev C (put ρ d u) x))) .mk) .mk) .mk) .mk) .mk:=by
 unfold vT bxT onT avT;simp only[Id]
 have inner:∀u σ1,(reV C σ1 pend/\Ll C ⟨d,T,bytes,z,s,y,st,x,k,v⟩ K (put ρ d u) σ1)=(reV C σ1 pend/\kvT (qc st σ1 (ev C (put ρ d u) x)) (xa st (ev C (put ρ d u) k)) (fun kv key=>K (put ρ d u) (z6 σ1 st (tW key (ev C (put ρ d u) v).copy kv) (ev C (put ρ d u) x))) .mk):=fun u σ1=>by
  unfold Ll kvT;simp only;cases qc st σ1 (ev C (put ρ d u) x)<;>cases xa st (ev C (put ρ d u) k)<;>simp
 simp only[inner];cases Df σ (ev C ρ y)<;>simp
theorem H8:reV C σ []=True:=rfl
theorem Gr(d:Option Nat)(op:OP)(g:Option (Nat×Bool))(ρ1:ah)(v:V)(r:List (O×ah×V)):reV C σ ((⟨d,op,g⟩,ρ1,v)::r)=onT (bh C [⟨some 0,op,none⟩] ρ1 σ (fun ρ'=>get ρ' 0=v) .mk) (fun _=>reV C σ r) .mk:=by
 unfold onT bh;simp only[reV,aS,putd];refine propext ⟨fun⟨h1,h2⟩=>⟨jk (fun u hh=>?_) h1,h2⟩,fun⟨h1,h2⟩=>⟨jk (fun u hh=>?_) h1,h2⟩⟩
 .simpa only[cr,if_true]using hh
 .simpa only[cr,if_true]using hh
theorem Ks(t:Tag Q):dK C n0 .skip ρ σ Q t=Q .normal ρ σ:=rfl
theorem OV(l:List O)(keep:List Nat)(t:Tag Q):dK C n0 (.ops l keep) ρ σ Q t=bD C l ρ σ (fun e ρ' σ'=>Q e (aK keep ρ') σ') .mk:=rfl
theorem J3(l:List O)(keep:List Nat)(t:Tag Q):dK C n0 (.draw l keep) ρ σ Q t=bh C l ρ σ (fun ρ'=>Q .normal (aK keep ρ') σ) .mk:=rfl
theorem DY(a b:Cd)(t:Tag Q):dK C n0 (.seq a b) ρ σ Q t=dK C n0 a ρ σ (andThen (fun ρ' σ'=>dK C n0 b ρ' σ' Q .mk) Q) .mk:=rfl
theorem Lk(x:X)(a b:Cd)(t:Tag Q):dK C n0 (.cond x a b) ρ σ Q t=JF (ev C ρ x) (fun c=>sw c (fun _=>dK C n0 a ρ σ Q .mk) (fun _=>dK C n0 b ρ σ Q .mk) .mk .mk) .mk:=rfl
theorem Iz(id:Nat)(a:Cd)(t:Tag Q):dK C n0 (.block id a) ρ σ Q t=dK C n0 a ρ σ (pg id Q) .mk:=rfl
theorem JT(id:Nat)(t:Tag Q):dK C n0 (.exit id) ρ σ Q t=Q (.exit id) ρ σ:=rfl
theorem Nq(t:Tag Q):dK C n0 .ret ρ σ Q t=Q .ret ρ σ:=rfl
theorem xH(next:ah->LLV->Prop):andThen next Q .normal ρ σ=next ρ σ:=rfl
theorem Gk(next:ah->LLV->Prop):andThen next Q .ret ρ σ=Q .ret ρ σ:=rfl
theorem Bu(next:ah->LLV->Prop)(i:Nat):andThen next Q (.exit i) ρ σ=Q (.exit i) ρ σ:=rfl
theorem yN(next:ah->LLV->Prop)(v:V):andThen next Q (.panic v) ρ σ=Q (.panic v) ρ σ:=rfl
theorem zk(id:Nat):pg id Q .normal ρ σ=Q .normal ρ σ:=rfl
theorem IY(id:Nat):pg id Q .ret ρ σ=Q .ret ρ σ:=rfl
theorem GG(id j:Nat):pg id Q (.exit j) ρ σ=if j=id then Q .normal ρ σ else Q (.exit j) ρ σ:=rfl
theorem Cy(id:Nat)(v:V):pg id Q (.panic v) ρ σ=Q (.panic v) ρ σ:=rfl
theorem eU{Q':cX}(hq:∀e ρ σ,Q e ρ σ->Q' e ρ σ):∀{l:List O} {ρ:ah} {σ:LLV},dl C l ρ σ Q->dl C l ρ σ Q'
 | [],ρ,σ,h=>hq _ _ _ h
 | o::r,ρ,σ,h=>by
  have step:∀{ρ:ah} {K K':ah->LLV->Prop},(∀ρ σ,K ρ σ->K' ρ σ)->fS C o.op o.dst ρ σ K Q->fS C o.op o.dst ρ σ K' Q':=by
   intro ρ K K' hk hr
   have hout:∀(o':Out) (σ':LLV),(match o' with | .ret v=>K (putd ρ o.dst v) σ' | .panic v=>Q (.panic v) ρ σ')->(match o' with | .ret v=>K' (putd ρ o.dst v) σ' | .panic v=>Q' (.panic v) ρ σ'):=by
    intro o' σ' hh;cases o' with
    | ret v=>exact hk _ _ hh
    | panic v=>exact hq _ _ _ hh
   generalize o.op=op at hr ⊢;unfold fS at hr ⊢;cases op<;>(try simp only at hr ⊢)
   case call f args=>exact hr.mono hout
   case callv x args=>generalize ev C ρ x=z at hr ⊢;cases z<;>(try simp only at hr ⊢)<;>first|exact hr.elim|exact hr.mono hout
   case calln f args=>exact hr.mono hout
   case callm x args t=>
    generalize ev C ρ x=z at hr ⊢;generalize get ρ t=z' at hr ⊢;split at hr;case h_2=>exact hr.elim
    refine hr.mono fun o' σ' hh=>?_;cases o' with
    | ret v=>exact hk _ _ hh
    | panic v=>exact hq _ _ _ hh
   case new T cs=>exact hk _ _ hr
   case box T x=>exact⟨hr.1,hk _ _ hr.2⟩
   case sto k x y=>
    generalize ev C ρ x=z at hr ⊢;cases z<;>(try simp only at hr ⊢)<;>first|exact hr.elim|skip
    rename_i i off;generalize σ[i]? = z at hr ⊢;cases z<;>(try simp only at hr ⊢)<;>first|exact hr.elim|exact⟨hr.1,hk _ _ hr.2⟩
   case mvo t=>generalize get ρ t=z at hr ⊢;cases z<;>(try simp only at hr ⊢)<;>first|exact hr.elim|exact hk _ _ hr
   case nilo T k=>exact hk _ _ hr
   case app T k b t y=>
    generalize get ρ t=z at hr ⊢;cases z<;>(try simp only at hr ⊢)<;>first|exact hr.elim|skip
    generalize fw (ev C ρ y)=z at hr ⊢;cases z<;>(try simp only at hr ⊢)<;>first|exact hr.elim|exact⟨hr.1,hk _ _ hr.2⟩
   case mks T k xs=>generalize fq (xs.map (ev C ρ))=z at hr ⊢;cases z<;>(try simp only at hr ⊢)<;>first|exact hr.elim|exact⟨hr.1,hk _ _ hr.2⟩
   case mkso T k xs=>generalize fq (xs.map (ev C ρ))=z at hr ⊢;cases z<;>(try simp only at hr ⊢)<;>first|exact hr.elim|exact⟨hr.1,hk _ _ hr.2⟩
   case mkc T k bytes x=>
    generalize ev C ρ x=z at hr ⊢;cases z<;>(try simp only at hr ⊢)<;>first|exact hr.elim|skip
    rename_i z;cases z<;>(try simp only at hr ⊢)<;>first|exact hr.elim|skip
    rename_i z;cases z<;>(try simp only at hr ⊢)<;>first|exact hr.elim|exact⟨hr.1,hk _ _ hr.2⟩
   case pan x=>generalize ev C ρ x=z at hr ⊢;cases z<;>(try simp only at hr ⊢)<;>first|exact hr.elim|exact hq _ _ _ hr
   all_goals ((try unfold tyT at hr ⊢);split at hr<;>first|exact hk _ _ hr|exact hr.elim)
  simp only[dl]at h ⊢;cases hg:o.g with
  | none=>rw[hg]at h;exact step (fun _ _ hh=>eU hq hh) h
  | some p=>
   obtain⟨t,want⟩:=p;rw[hg]at h;simp only at h ⊢;split at h
   .rename_i b hb;exact⟨fun e=>step (fun _ _ hh=>eU hq hh) (h.1 e),fun e=>eU hq (h.2 e)⟩
   .rename_i hb;exact eU hq h
   .exact h.elim
theorem j4{op:OP}{k k':V->Prop}(hk:∀v,k v->k' v)(h:bI C op ρ σ k):bI C op ρ σ k':=by
 obtain⟨v,h1,h2⟩:=fN h;unfold bI at h1 ⊢;split at h1
 .obtain⟨u,g1,g2⟩:=h1;subst g2;exact⟨u,g1,hk _ h2⟩
 .split at h1
  .obtain⟨u,g1,g2⟩:=h1;subst g2;exact⟨u,g1,hk _ h2⟩
  .exact h1.elim
 .split at h1
  .exact⟨h1.1,hk _ (h1.2▸h2)⟩
  .exact h1.elim
 .obtain⟨u,g1,g2⟩:=h1;subst g2;exact⟨u,g1,hk _ h2⟩
 .split at h1
  .subst h1;exact hk _ h2
  .exact h1.elim
theorem cI{K K':ah->Prop}(hk:∀ρ,K ρ->K' ρ):∀{l:List O} {ρ:ah},aS C l ρ σ K->aS C l ρ σ K'
 | [],ρ,h=>hk _ h
 | o::r,ρ,h=>by
  simp only[aS]at h ⊢;cases hg:o.g with
  | none=>rw[hg]at h;exact j4 (fun _ hh=>cI hk hh) h
  | some p=>
   obtain⟨t,want⟩:=p;rw[hg]at h;simp only at h ⊢;split at h
   .rename_i b hb;exact⟨fun e=>j4 (fun _ hh=>cI hk hh) (h.1 e),fun e=>cI hk (h.2 e)⟩
   .rename_i hb;exact cI hk h
   .exact h.elim
theorem iE{K K':ah->LLV->Prop}(hk:∀ρ r,K ρ r->K' ρ r):∀{l:List O} {ρ:ah} {acc:Option LLV},ik C σ l ρ acc K->ik C σ l ρ acc K'
 | [],ρ,acc,h=>by
  cases acc with
  | none=>exact h.elim
  | some r=>exact hk _ _ h
 | o::r,ρ,acc,h=>by
  unfold ik at h ⊢;split at h
  .refine⟨h.1,h.2.1,?_⟩;have h2:=h.2.2;split at h2
   .split at h2
    .exact⟨h2.1,iE hk h2.2⟩
    .exact h2.elim
   .exact h2.elim
  .split at h
   .exact j4 (fun v hh=>iE hk hh) h
   .split at h
    .exact⟨fun e=>j4 (fun v hh=>iE hk hh) (h.1 e),fun e=>iE hk (h.2 e)⟩
    .exact iE hk h
    .exact h.elim
theorem iF{K K':ah->LLV->Prop}{P P':V->LLV->Prop}(hk:∀ρ r,K ρ r->K' ρ r)(hp:∀u r,P u r->P' u r):∀{l:List (O×GK)} {m:Nat} {h:List LLV} {p:List PendG} {ρ:ah} {σ:LLV},fx C P K l m h p ρ σ->fx C P' K' l m h p ρ σ
 | [],_,_,_,_,_,hg=>hk _ _ hg
 | (o,.free _)::r,_,_,_,_,_,hg=>by
  simp only[fx]at hg ⊢;exact cI (fun ρ' hh=>iF hk hp hh) hg
 | (o,.calm _ _)::r,_,_,_,_,_,hg=>by
  simp only[fx]at hg ⊢;exact cI (fun ρ' hh=>⟨hh.1,iF hk hp hh.2⟩) hg
 | (o,.slot _)::r,_,_,_,_,_,hg=>by
  simp only[fx]at hg ⊢;exact eU (fun e ρ' σ' hh=>⟨hh.1,iF hk hp hh.2⟩) hg
 | (⟨d,op,g⟩,.act)::r,m,h,p,ρ,σ,hg=>by
  have call:∀{f:FuncId} {vs:List V},((∃v σ1,Fun C f vs σ (fun o σ'=>o=.ret v/\σ'=σ1)/\reG C (m+1) σ1 p/\fx C P K r (m+1) (σ::h) p (putd ρ d v) σ1)\/(Fun C f vs σ (fun o σ'=>∃u,o=.panic u/\P u σ')/\fJ C r m h (putd ρ d .junk) σ))->
   ((∃v σ1,Fun C f vs σ (fun o σ'=>o=.ret v/\σ'=σ1)/\reG C (m+1) σ1 p/\fx C P' K' r (m+1) (σ::h) p (putd ρ d v) σ1)\/(Fun C f vs σ (fun o σ'=>∃u,o=.panic u/\P' u σ')/\fJ C r m h (putd ρ d .junk) σ)):=fun{f vs} hh=>by
   rcases hh with⟨v,σ1,h1,h2,h3⟩|⟨h1,h2⟩
   .exact .inl ⟨v,σ1,h1,h2,iF hk hp h3⟩
   .exact .inr ⟨h1.mono fun o σ' ⟨u,e1,e2⟩=>⟨u,e1,hp _ _ e2⟩,h2⟩
  cases op;case call f args=>simp only[fx]at hg ⊢;exact call hg
  case callv x args=>
   simp only[fx]at hg ⊢;obtain⟨f,cap,e,hh⟩:=hg;exact⟨f,cap,e,call hh⟩
  all_goals
   simp only[fx]at hg ⊢;exact eU (fun e ρ' σ' hh=>⟨hh.1,hh.2.1,iF hk hp hh.2.2⟩) hg
theorem jJ:∀{c:Cd} {ρ:ah} {σ:LLV} {Q Q':cX},(∀e ρ σ,Q e ρ σ->Q' e ρ σ)->awp C n0 c ρ σ Q->awp C n0 c ρ σ Q':=by
 intro c
 induction c with
 | skip=>exact fun hq h=>hq _ _ _ h
 | ops l keep=>exact fun hq h=>eU (fun e ρ σ=>hq e _ σ) h
 | draw l keep=>exact fun hq h=>cI (fun ρ=>hq _ _ _) h
 | draws l keep=>exact fun hq h=>iE (fun ρ r hh=>hq _ _ _ hh) h
 | drawx pre d f args post kk y z keep=>
  intro ρ σ Q Q' hq h;simp only[awp,HT]at h ⊢;refine cI (fun ρ1 hh=>?_) h;rcases hh with⟨v,σ1,h1,h2,h3⟩|h1
  .exact .inl ⟨v,σ1,h1,h2,cI (fun ρ2 ⟨i,off,cs,k1,k2,k3,k4⟩=>⟨i,off,cs,k1,k2,k3,hq _ _ _ k4⟩) h3⟩
  .exact .inr (h1.mono fun o σ' ⟨u,e1,e2⟩=>⟨u,e1,fun ρ'=>hq _ _ _ (e2 ρ')⟩)
 | drawp l x=>exact fun hq h=>cI (fun ρ ⟨ty,u,e,hh⟩=>⟨ty,u,e,fun ρ2=>hq _ _ _ (hh ρ2)⟩) h
 | drawg l keep=>
  intro ρ σ Q Q' hq h;exact iF (fun ρ σ hh=>hq _ _ _ hh) (fun u σ hh ρ'=>hq _ _ _ (hh ρ')) h
 | drawb s d0 d1 T k bytes y l keep=>
  intro ρ σ Q Q' hq h;simp only[awp,Cj]at h ⊢;split at h
  .refine⟨h.1,h.2.1,cI (fun ρ' hh=>?_) h.2.2⟩;split at hh
   .exact⟨hh.1,hq _ _ _ hh.2⟩
   .exact hh.elim
  .exact h.elim
 | seq a b iha ihb=>
  exact fun hq h=>iha (fun e ρ σ hh=>by
   cases e with
   | normal=>exact ihb hq hh
   | ret=>exact hq _ _ _ hh
   | exit i=>exact hq _ _ _ hh
   | panic v=>exact hq _ _ _ hh) h
 | cond x a b iha ihb=>
  intro ρ σ Q Q' hq h;simp only[awp]at h ⊢;generalize ev C ρ x=z at h ⊢;cases z<;>(try simp only at h ⊢)<;>first|exact h.elim|skip
  rename_i x;cases x<;>(try simp only at h ⊢)<;>first|exact h.elim|skip
  rename_i v;cases v<;>(try simp only at h ⊢)<;>first|exact h.elim|skip
  exact⟨fun e=>iha hq (h.1 e),fun e=>ihb hq (h.2 e)⟩
 | block id a ih=>
  exact fun hq h=>ih (fun e ρ σ hh=>by
   cases e with
   | normal=>exact hq _ _ _ hh
   | ret=>exact hq _ _ _ hh
   | exit i=>
    simp only[pg]at hh ⊢;split
    .rename_i e;rw[if_pos e]at hh;exact hq _ _ _ hh
    .rename_i e;rw[if_neg e]at hh;exact hq _ _ _ hh
   | panic v=>exact hq _ _ _ hh) h
 | loop a ih=>
  intro ρ σ Q Q' hq h;obtain⟨ρ1,σ1,h0,I,h1,h2⟩:=h
  exact⟨ρ1,σ1,h0,I,h1,fun m ρ' σ' hI=>ih (fun e ρ σ hh=>by
   cases e with
   | normal=>exact hh
   | ret=>exact hq _ _ _ hh
   | exit i=>exact hq _ _ _ hh
   | panic v=>exact hq _ _ _ hh) (h2 m ρ' σ' hI)⟩
 | exit id=>exact fun hq h=>hq _ _ _ h
 | ret=>exact fun hq h=>hq _ _ _ h
theorem tE{a:Cd}(I:Nat->ah->LLV->Prop)(m:Nat){ρ1:ah}{σ1:LLV}(hu:eJ n0 ρ σ ρ1 σ1)(h0:I m ρ1 σ1)
 (h:∀m ρ' σ',I m ρ' σ'->awp C n0 a ρ' σ' (andThen (fun ρ'' σ''=>∃m',m'<m/\∃ρ3 σ3,eJ n0 ρ'' σ'' ρ3 σ3/\I m' ρ3 σ3) Q)):awp C n0 (.loop a) ρ σ Q:=
 ⟨ρ1,σ1,hu,I,⟨m,h0⟩,h⟩
theorem pf{R R':ah->LLV->Prop}{Q:cX}(h:∀ρ σ,R ρ σ->R' ρ σ):∀e ρ σ,andThen R Q e ρ σ->andThen R' Q e ρ σ:=fun e ρ σ hh=>by
 cases e with
 | normal=>exact h _ _ hh
 | ret=>exact hh
 | exit i=>exact hh
 | panic v=>exact hh
theorem FH{a:Cd}(I:Nat->ah->LLV->Prop)(m:Nat){σ1:LLV}(hu:Up σ σ1)(h0:I m ρ σ1)
 (h:∀m ρ' σ',I m ρ' σ'->awp C n0 a ρ' σ' (andThen (fun ρ'' σ''=>∃m',m'<m/\∃k,n0≤k/\aj k (σ''.take k)=true/\ao k ρ''=true/\I m' ρ'' (σ''.take k)) Q)):awp C n0 (.loop a) ρ σ Q:=
 tE I m (eJ.up n0 ρ hu) h0 fun m ρ' σ' hI=>jJ (pf fun ρ'' σ'' ⟨m',h1,k,h2,h3,h4,h5⟩=>⟨m',h1,ρ'',σ''.take k,.cut h2 h3 h4,h5⟩) (h m ρ' σ' hI)
theorem DC{a:Cd}(ks:List Nat)(I:Nat->ah->LLV->Prop)(m:Nat){σ1:LLV}(hu:Up σ σ1)(h0:I m (aK ks ρ) σ1)
 (h:∀m ρ' σ',I m ρ' σ'->awp C n0 a ρ' σ' (andThen (fun ρ'' σ''=>∃m',m'<m/\∃k,n0≤k/\aj k (σ''.take k)=true/\ao k (aK ks ρ'')=true/\I m' (aK ks ρ'') (σ''.take k)) Q)):awp C n0 (.loop a) ρ σ Q:=
 tE I m ((eJ.keep n0 ks ρ σ).trans (eJ.up n0 _ hu)) h0 fun m ρ' σ' hI=>jJ (pf fun ρ'' σ'' ⟨m',h1,k,h2,h3,h4,h5⟩=>⟨m',h1,_,σ''.take k,(eJ.keep n0 ks ρ'' σ'').trans (.cut h2 h3 h4),h5⟩) (h m ρ' σ' hI)
end
mutual
theorem V.under_mono{k j:Nat}(hj:k≤j):∀v:V,V.under k v=true->V.under j v=true
 | .agg cs,h=>by simp only[V.under]at h ⊢;exact V.unders_mono hj cs h
 | .tup cs,h=>by simp only[V.under]at h ⊢;exact V.unders_mono hj cs h
 | .fn _ cs,h=>by simp only[V.under]at h ⊢;exact V.unders_mono hj cs h
 | .bnd _ cs,h=>by simp only[V.under]at h ⊢;exact V.unders_mono hj cs h
 | .iface _ v,h=>by simp only[V.under]at h ⊢;exact V.under_mono hj v h
 | .ptr i o,h=>by simp only[V.under,decide_eq_true_eq]at h ⊢;omega
 | .bsl i o n m,h=>by simp only[V.under,decide_eq_true_eq]at h ⊢;omega
 | .mp i,h=>by simp only[V.under,decide_eq_true_eq]at h ⊢;omega
 | .bsc i n c,h=>by simp only[V.under,decide_eq_true_eq]at h ⊢;omega
 | .mapc _ kv,h=>by simp only[V.under]at h ⊢;exact V.underkv_mono hj kv h
 | .d _,_=>rfl
 | .own _ _ _,_=>rfl
 | .nil,_=>rfl
 | .row _ _,_=>rfl
 | .junk,_=>rfl
theorem V.unders_mono{k j:Nat}(hj:k≤j):∀cs:List V,V.unders k cs=true->V.unders j cs=true
 | [],_=>rfl
 | x::r,h=>by
  simp only[V.unders,Ry]at h ⊢;exact⟨V.under_mono hj x h.1,V.unders_mono hj r h.2⟩
theorem V.underkv_mono{k j:Nat}(hj:k≤j):∀kv:List (Key×V),V.underkv k kv=true->V.underkv j kv=true
 | [],_=>rfl
 | (q,x)::r,h=>by
  simp only[V.underkv,V.underp,Ry]at h ⊢;exact⟨V.under_mono hj x h.1,V.underkv_mono hj r h.2⟩
end
theorem pF{σ:LLV}{k j:Nat}(h:aj k σ=true)(hj:k≤j):aj j σ=true:=by
 unfold aj at *;rw[List.all_eq_true]at h ⊢;exact fun cs hcs=>V.unders_mono hj cs (h cs hcs)
theorem aE{σ l:LLV}(h:aj σ.length σ=true)(hl:l.all (fun cs=>V.unders (σ++l).length cs)=true):aj (σ++l).length (σ++l)=true:=by
 have:=pF h (j:=(σ++l).length) (by simp);unfold aj at *;rw[RM,this,hl];rfl
theorem al{σ σ':LLV}{ρ:ah}{rs:List RV}{Q:Out->LLV->Prop}(hb:aj σ.length σ=true){v:V}(h:aU σ' ρ rs=some v)(hv:V.under σ.length v=true)(hσ:σ'.take σ.length=σ)(hq:Q (.ret v) σ):fin σ.length rs Q .ret ρ σ':=
 ⟨ρ,σ',.refl _ _ _,v,h,σ.length,Nat.le_refl _,by rw[hσ];exact hb,hv,by rw[hσ];exact hq⟩
def Nxt(n0:Nat)(R:ah->LLV->Prop)(ρ:ah)(σ:LLV)(_:Tag R):Prop:=∃k,n0≤k/\aj k (σ.take k)=true/\ao k ρ=true/\R ρ (σ.take k)
theorem Nxt.same{n0:Nat}{R:ah->LLV->Prop}{ρ:ah}{σ:LLV}(hn:n0≤σ.length)(hb:aj σ.length σ=true)(hs:ao σ.length ρ=true)(hR:R ρ σ):Nxt n0 R ρ σ .mk:=
 ⟨σ.length,hn,by rw[RG];exact hb,hs,by rw[RG];exact hR⟩
theorem Nxt.drop{n0:Nat}{R:ah->LLV->Prop}{ρ:ah}{σ l:LLV}(hn:n0≤σ.length)(hb:aj σ.length σ=true)(hs:ao σ.length ρ=true)(hR:R ρ σ):Nxt n0 R ρ (σ++l) .mk:=
 ⟨σ.length,hn,by rw[RH];exact hb,hs,by rw[RH];exact hR⟩
theorem EJ{C:Cx}{n0:Nat}{ρ:ah}{σ:LLV}{Q:cX}{a:Cd}(R:Nat->ah->LLV->Prop)(n:Nat){σ1:LLV}(hu:Up σ σ1)(h0:R 0 ρ σ1)
 (h:∀j ρ' σ',j≤n->R j ρ' σ'->dK C n0 a ρ' σ' (andThen (fun ρ'' σ''=>j<n/\Nxt n0 (R (j+1)) ρ'' σ'' .mk) Q) .mk)(t:Tag Q):dK C n0 (.loop a) ρ σ Q t:=
 FH (fun m ρ σ=>∃j,j≤n/\m=n-j/\R j ρ σ) n hu ⟨0,by omega,by omega,h0⟩ fun m ρ' σ' ⟨j,hj,hm,hR⟩=>by
  have hi:∀e ρ'' σ'',andThen (fun ρ'' σ''=>j<n/\Nxt n0 (R (j+1)) ρ'' σ'' .mk) Q e ρ'' σ''->andThen (fun ρ'' σ''=>∃m',m'<m/\∃k,n0≤k/\aj k (σ''.take k)=true/\ao k ρ''=true/\∃j,j≤n/\m'=n-j/\R j ρ'' (σ''.take k)) Q e ρ'' σ'':=by
   intro e ρ'' σ'' h;cases e with
   | normal=>
    obtain⟨h1,k,h2,h3,h4,h5⟩:=h;exact⟨n-(j+1),by omega,k,h2,h3,h4,j+1,by omega,rfl,h5⟩
   | ret=>exact h
   | exit i=>exact h
   | panic v=>exact h
  exact jJ hi (h j ρ' σ' hj hR)
theorem Da{C:Cx}{n0:Nat}{ρ:ah}{σ:LLV}{Q:cX}{a:Cd}(ks:List Nat)(R:Nat->ah->LLV->Prop)(n:Nat){σ1:LLV}(hu:Up σ σ1)(h0:R 0 (aK ks ρ) σ1)
 (h:∀j ρ' σ',j≤n->R j ρ' σ'->dK C n0 a ρ' σ' (andThen (fun ρ'' σ''=>j<n/\Nxt n0 (R (j+1)) (aK ks ρ'') σ'' .mk) Q) .mk)(t:Tag Q):dK C n0 (.loop a) ρ σ Q t:=
 DC ks (fun m ρ σ=>∃j,j≤n/\m=n-j/\R j ρ σ) n hu ⟨0,by omega,by omega,h0⟩ fun m ρ' σ' ⟨j,hj,hm,hR⟩=>by
  have hi:∀e ρ'' σ'',andThen (fun ρ'' σ''=>j<n/\Nxt n0 (R (j+1)) (aK ks ρ'') σ'' .mk) Q e ρ'' σ''->andThen (fun ρ'' σ''=>∃m',m'<m/\∃k,n0≤k/\aj k (σ''.take k)=true/\ao k (aK ks ρ'')=true/\∃j,j≤n/\m'=n-j/\R j (aK ks ρ'') (σ''.take k)) Q e ρ'' σ'':=by
   intro e ρ'' σ'' h;cases e with
   | normal=>
    obtain⟨h1,k,h2,h3,h4,h5⟩:=h;exact⟨n-(j+1),by omega,k,h2,h3,h4,j+1,by omega,rfl,h5⟩
   | ret=>exact h
   | exit i=>exact h
   | panic v=>exact h
  exact jJ hi (h j ρ' σ' hj hR)
theorem bj{C:Cx}{n0:Nat}{ρ:ah}{σ:LLV}{Q:cX}{a:Cd}(ks:List Nat)(R:Nat->ah->LLV->Prop)(n:Nat)(h0:R 0 (aK ks ρ) σ)
 (h:∀j ρ' σ',j≤n->R j ρ' σ'->dK C n0 a ρ' σ' (andThen (fun ρ'' σ''=>j<n/\Nxt n0 (R (j+1)) (aK ks ρ'') σ'' .mk) Q) .mk)(t:Tag Q):dK C n0 (.loop a) ρ σ Q t:=Da ks R n (.refl σ) h0 h t
theorem fT{C:Cx}{n0:Nat}{ρ:ah}{σ:LLV}{Q:cX}{a:Cd}(R:Nat->ah->LLV->Prop)(n:Nat)(h0:R 0 ρ σ)
 (h:∀j ρ' σ',j≤n->R j ρ' σ'->dK C n0 a ρ' σ' (andThen (fun ρ'' σ''=>j<n/\Nxt n0 (R (j+1)) ρ'' σ'' .mk) Q) .mk)(t:Tag Q):dK C n0 (.loop a) ρ σ Q t:=EJ R n (.refl σ) h0 h t
def aA(v:V)(σ:LLV):Out->LLV->Prop:=fun o σ'=>o=.ret v/\σ'=σ
theorem au{σ:LLV}{ρ:ah}{rs:List RV}(hb:aj σ.length σ=true){v:V}(h:aU σ ρ rs=some v)(hv:V.under σ.length v=true):fin σ.length rs (aA v σ) .ret ρ σ:=al hb h hv RG ⟨rfl,rfl⟩
theorem av{σ τ:LLV}{ρ:ah}{rs:List RV}(hb:aj σ.length σ=true){v:V}(h:aU (σ++τ) ρ rs=some v)(hv:V.under σ.length v=true):fin σ.length rs (aA v σ) .ret ρ (σ++τ):=al hb h hv RH ⟨rfl,rfl⟩
theorem ac{C:Cx}{f:FuncId}{args:List V}{σ:LLV}{v:V}{K P:V->LLV->Prop}{s:Tag K}{t:Tag P}(h:Fun C f args σ (aA v σ))(hk:K v σ):js C f args σ K P s t:=
 h.mono fun o σ' ⟨e1,e2⟩=>by subst e1;subst e2;exact hk
theorem bd{C:Cx}{f:FuncId}{args:List V}{σ:LLV}{v:V}{k:V->Prop}{t:Tag k}(h:Fun C f args σ (aA v σ))(hk:k v):EN C f args σ k t:=⟨v,h,hk⟩
theorem aR{C:Cx}{f:FuncId}{args:List V}{σ:LLV}{K P:V->LLV->Prop}{s:Tag K}{t:Tag P}{Q:Out->LLV->Prop}(h:Fun C f args σ Q)(hk:∀o σ',Q o σ'->Ds K P o σ'):js C f args σ K P s t:=h.mono hk
theorem ai{C:Cx}{f:FuncId}{fn:Func}{c:Cd}{rs:List RV}{args:List V}{σ:LLV}{Q:Out->LLV->Prop}(hf:C.P.funcs[f]? = some fn)(hok:aM C.tab fn args.length c rs=true)(hno:args.all (! ·.isOwn)=true)
 (h:aj σ.length σ=true->(∀i (h:i<args.length),V.Wf args[i])->dK C σ.length c (eD 0 args) σ (fin σ.length rs Q) .mk):Fun C f args σ Q:=DV hf hok hno h
theorem wQ{C:Cx}{f:FuncId}{pre post:List V}{T k:Nat}{rows:LLD}{σ:LLV}{v:V}{K P:V->LLV->Prop}{s:Tag K}{t:Tag P}(h:nC C f pre T k rows post σ (aA v σ))(hk:K v σ):D8 C f pre T k rows post σ K P s t:=
 h.mono fun o σ' ⟨e1,e2⟩=>by subst e1;subst e2;exact hk
theorem oa{C:Cx}{f:FuncId}{fn:Func}{c:Cd}{rs:List RV}{pre post:List V}{T k:Nat}{rows:LLD}{σ:LLV}{Q:Out->LLV->Prop}(hf:C.P.funcs[f]? = some fn)(hok:aM C.tab fn (pre++.own T k rows::post).length c rs=true)(hno:(pre++post).all (! ·.isOwn)=true)
 (h:aj σ.length σ=true->(∀i (h:i<(pre++.own T k rows::post).length),V.Wf (pre++.own T k rows::post)[i])->dK C σ.length c (eD 0 (pre++.own T k rows::post)) σ (fin σ.length rs Q) .mk):nC C f pre T k rows post σ Q:=x7 hf hok hno h
section
variable {σ : LLV}
theorem H1(rows:LLD):pJ false (.d (.sl rows))=some (aL .i64 rows.length):=rfl
theorem CR(T k:Nat)(rows:LLD):pJ false (.own T k rows)=some (aL .i64 rows.length):=rfl
theorem CY:pJ false .nil=some (aL .i64 0):=rfl
theorem CI(s:ByteArray):pJ true (.d (.lit (.string s)))=some (aL .i64 s.size):=rfl
theorem Fd(rows:LLD):fw (.d (.sl rows))=some rows:=rfl
theorem zV(T k:Nat)(rows:LLD):fw (.own T k rows)=some rows:=rfl
theorem yQ:fw .nil=some []:=rfl
theorem MG(k:IntKind)(a b:Int):aQ .add (.d (.lit (.int k a))) (.d (.lit (.int k b)))=some (aL k (k.wrap (a+b))):=by simp[aQ,du,lS]
theorem NF(k:IntKind)(a b:Int):aQ .sub (.d (.lit (.int k a))) (.d (.lit (.int k b)))=some (aL k (k.wrap (a-b))):=by simp[aQ,du,lS]
theorem L0(k:IntKind)(a b:Int):aQ .mul (.d (.lit (.int k a))) (.d (.lit (.int k b)))=some (aL k (k.wrap (a*b))):=by simp[aQ,du,lS]
theorem ON(k:IntKind)(a b:Int):aQ .quo (.d (.lit (.int k a))) (.d (.lit (.int k b)))=if b=0 then none else some (aL k (k.wrap (a.tdiv b))):=by simp[aQ,du,lS]
theorem LC(k:IntKind)(a b:Int):aQ .rem (.d (.lit (.int k a))) (.d (.lit (.int k b)))=if b=0 then none else some (aL k (a.tmod b)):=by simp[aQ,du,lS]
theorem Le(k:IntKind)(a b:Int):aQ .and (.d (.lit (.int k a))) (.d (.lit (.int k b)))=some (aL k (k.wrap (BitVec.ofInt k.bits a &&& BitVec.ofInt k.bits b).toNat)):=by simp only[aQ,du,Rz,if_false,if_true,lS]
theorem NK(k:IntKind)(a b:Int):aQ .or (.d (.lit (.int k a))) (.d (.lit (.int k b)))=some (aL k (k.wrap (BitVec.ofInt k.bits a ||| BitVec.ofInt k.bits b).toNat)):=by simp only[aQ,du,Rz,if_false,if_true,lS]
theorem KT(k:IntKind)(a b:Int):aQ .xor (.d (.lit (.int k a))) (.d (.lit (.int k b)))=some (aL k (k.wrap (BitVec.ofInt k.bits a ^^^ BitVec.ofInt k.bits b).toNat)):=by simp only[aQ,du,Rz,if_false,if_true,lS]
theorem LQ(k:IntKind)(a b:Int):aQ .eql (.d (.lit (.int k a))) (.d (.lit (.int k b)))=some (aq (decide (a=b))):=by simp[aQ,du,lS];rfl
theorem NJ(k:IntKind)(a b:Int):aQ .neq (.d (.lit (.int k a))) (.d (.lit (.int k b)))=some (aq (!decide (a=b))):=by simp[aQ,du,lS];rfl
theorem Me(k:IntKind)(a b:Int):aQ .lss (.d (.lit (.int k a))) (.d (.lit (.int k b)))=some (aq (decide (a<b))):=by simp[aQ,du,lS]
theorem OC(k:IntKind)(a b:Int):aQ .leq (.d (.lit (.int k a))) (.d (.lit (.int k b)))=some (aq (decide (a≤b))):=by simp[aQ,du,lS]
theorem Mi(k:IntKind)(a b:Int):aQ .gtr (.d (.lit (.int k a))) (.d (.lit (.int k b)))=some (aq (decide (b<a))):=by simp[aQ,du,lS]
theorem Ob(k:IntKind)(a b:Int):aQ .geq (.d (.lit (.int k a))) (.d (.lit (.int k b)))=some (aq (decide (b≤a))):=by simp[aQ,du,lS]
theorem MD(k k':IntKind)(a b:Int):aQ .shl (.d (.lit (.int k a))) (.d (.lit (.int k' b)))=if b<0 then none else some (aL k (k.wrap (a*2^(min b.toNat k.bits)))):=by simp[aQ,du,Bb]
theorem LZ(k k':IntKind)(a b:Int):aQ .shr (.d (.lit (.int k a))) (.d (.lit (.int k' b)))=if b<0 then none else some (aL k (a.fdiv (2^(min b.toNat k.bits)))):=by simp[aQ,du,Bb]
theorem vz(a b:ByteArray):(a.toList==b.toList)=decide (a=b):=by
 rw[ByteArray.toList_eq,ByteArray.toList_eq,Bool.eq_iff_iff];simp only[beq_iff_eq,decide_eq_true_eq];constructor
 .intro h;cases a;cases b;simp only[ByteArray.mk.injEq];exact Array.toList_inj.1 h
 .intro h;rw[h]
theorem Lm(a b:ByteArray):aQ .eql (.d (.lit (.string a))) (.d (.lit (.string b)))=some (aq (decide (a=b))):=by simp only[aQ,Hn,vz]
theorem Lt(a b:ByteArray):aQ .neq (.d (.lit (.string a))) (.d (.lit (.string b)))=some (aq (!decide (a=b))):=by simp only[aQ,Hn,vz]
theorem rH(a b:ByteArray):aQ .add (.d (.lit (.string a))) (.d (.lit (.string b)))=if a.size+b.size≤9223372036854775807 then some (xP (a++b))else none:=rfl
theorem Ke(a b:ByteArray):aQ .lss (.d (.lit (.string a))) (.d (.lit (.string b)))=some (aq (Op.bytesLess a.toList b.toList)):=rfl
theorem M9:gb [] [] []=some true:=rfl
theorem OG(k:IntKind)(ks:List Kd)(a b:Int)(r s:List V):gb (.i k::ks) (.d (.lit (.int k a))::r) (.d (.lit (.int k b))::s)=(gb ks r s).map fun z=>decide (a=b)&&z:=by
 simp only[gb,A1,and_self,if_true];cases gb ks r s<;>rfl
theorem MC(ks:List Kd)(a b:ByteArray)(r s:List V):gb (.s::ks) (.d (.lit (.string a))::r) (.d (.lit (.string b))::s)=(gb ks r s).map fun z=>decide (a=b)&&z:=by
 simp only[gb,A1];cases gb ks r s<;>rfl
theorem KP(ks:List Kd)(a b:Bool)(r s:List V):gb (.b::ks) (.d (.lit (.bool a))::r) (.d (.lit (.bool b))::s)=(gb ks r s).map fun z=>(a==b)&&z:=by
 simp only[gb,A1];cases gb ks r s<;>rfl
theorem Cg(neq:Bool):zp neq (.d (.lit .nilIface))=some (aq (!neq)):=rfl
theorem Ec(neq:Bool)(t:TypeId)(x:V):zp neq (.iface t x)=some (aq neq):=rfl
theorem Cv(neq:Bool):Mq neq (.d (.lit (.pointer none)))=some (aq (!neq)):=rfl
theorem Bt(neq:Bool)(i o:Nat):Mq neq (.ptr i o)=some (aq neq):=rfl
theorem JX(f:FuncId)(cs:List V):V.copy (.bnd f cs)=.bnd f cs:=rfl
theorem KK(f:FuncId)(cs:List V):V.lend (.bnd f cs)=.bnd f cs:=rfl
theorem La(a b:Bool):oW .eql (.d (.lit (.bool a))) (.d (.lit (.bool b)))=some (aq (a==b)):=rfl
theorem Lv(a b:Bool):oW .neq (.d (.lit (.bool a))) (.d (.lit (.bool b)))=some (aq (!(a==b))):=rfl
theorem Nh(b:Bool):unV .not (.d (.lit (.bool b)))=some (aq (!b)):=rfl
theorem MQ(k:IntKind)(n:Int):unV .neg (.d (.lit (.int k n)))=some (aL k (k.wrap (0-n))):=rfl
theorem K8(c a b:Bool):kU (.d (.lit (.bool c))) (.d (.lit (.bool a))) (.d (.lit (.bool b)))=some (aq (bif c then a else b)):=rfl
theorem Do(b:Bool):kU (.d (.lit (.bool false))) (.tup []) (.d (.lit (.bool b)))=some (aq b):=rfl
theorem B4(a:Bool):kU (.d (.lit (.bool true))) (.d (.lit (.bool a))) (.tup [])=some (aq a):=rfl
theorem DM(b:Bool):kU (.d (.lit (.bool false))) .junk (.d (.lit (.bool b)))=some (aq b):=rfl
theorem CW(a:Bool):kU (.d (.lit (.bool true))) (.d (.lit (.bool a))) .junk=some (aq a):=rfl
theorem F5(off i o:Nat):faV off (.ptr i o)=some (.ptr i (o+off)):=rfl
theorem Eh(off:Nat)(cs:List D)(o:Nat):faV off (.row cs o)=some (.row cs (o+off)):=rfl
def iaK(k:Nat)(o:Option (List D)):Option V:=match o with|some r=>if r.length=k then some (.row r 0)else none|none=>none
theorem bv(k:Nat)(r:List D):iaK k (some r)=if r.length=k then some (.row r 0)else none:=rfl
theorem xu(k:Nat)(y:D)(kd:IntKind)(j:Nat):iaV k (.d y) (.d (.lit (.int kd (j:Int))))=(fw (.d y)).bind fun rows=>iaK k rows[j]? := by
 unfold iaV;cases h:fw (.d y)with
 | none=>simp only[h];rfl
 | some rows=>simp only[h,Option.bind_some,RC];rw[if_pos (by omega)];rfl
theorem Ei(k T k':Nat)(rows:LLD)(kd:IntKind)(j:Nat):iaV k (.own T k' rows) (.d (.lit (.int kd (j:Int))))=iaK k rows[j]? := by
 unfold iaV;simp only[fw,RC];rw[if_pos (by omega)];rfl
theorem Fu(k b off n:Nat)(kd:IntKind)(j:Nat):iaV k (.bsl b off n k) (.d (.lit (.int kd (j:Int))))=if j<n then some (.ptr b (off+j*k))else none:=by
 unfold iaV;simp only[RC,and_true];by_cases h:j<n
 .rw[if_pos h,if_pos (by omega)]
 .rw[if_neg h,if_neg (by omega)]
theorem Ca(b off n k:Nat):pJ false (.bsl b off n k)=some (aL .i64 n):=rfl
def ixK(o:Option UInt8):Option V:=match o with|some b=>some (aL .u8 b.toNat)|none=>none
theorem cJ(b:UInt8):ixK (some b)=some (aL .u8 b.toNat):=rfl
theorem E5(s:ByteArray)(kd:IntKind)(j:Nat):ixV (.d (.lit (.string s))) (.d (.lit (.int kd (j:Int))))=ixK s.data.toList[j]? := by
 simp only[ixV,RC];rw[if_pos (by omega)];rfl
theorem MY(off k:Nat)(ag:Bool)(cs:List V):xX off k ag (.agg cs)=if off+k≤cs.length then jc ag ((cs.drop off).take k)else none:=rfl
theorem Hx(c:V):jc false [c]=some c.copy:=rfl
theorem ID(cs:List V):jc true cs=some (.agg (cs.map V.copy)):=rfl
theorem Nr(cs:List V)(i:Nat):yx (.tup cs) i=(cs[i]?).map V.copy:=by simp only[yx];cases cs[i]?<;>rfl
theorem KD(k k':IntKind)(n:Int):A9 k (.d (.lit (.int k' n)))=some (aL k (k.wrap n)):=rfl
theorem wY(i o:Nat):jr (.ptr i o)=some (.ptr i o):=rfl
theorem xo(cs:List D)(o:Nat):jr (.row cs o)=some (.row cs o):=rfl
theorem yI(f:FuncId)(cs:List V):jr (.fn f cs)=some (.fn f cs):=rfl
theorem Ri(g:Bool)(k:IntKind)(a b:Int):mxV g (.d (.lit (.int k a))) (.d (.lit (.int k b)))=some (aL k (if g then max a b else min a b)):=by
 have h1:(if b>a then b else a)=max a b:=by rw[Int.max_def];split<;>split<;>omega
 have h2:(if b<a then b else a)=min a b:=by rw[Int.min_def];split<;>split<;>omega
 cases g
 .simp only[mxV,if_true,Rz,if_false,h2]
 .simp only[mxV,if_true,h1]
theorem FM(T t:TypeId)(z u:V):F1 T z (.iface t u)=if t=T then some (.tup [u,aq true])else some (.tup [z,aq false]):=rfl
theorem Lr(rows:LLD)(k1 k2:IntKind)(a b:Int):Nl (.d (.sl rows)) (.d (.lit (.int k1 a))) (.d (.lit (.int k2 b)))=if a=rows.length/\b=rows.length then some (.d (.sl rows))else none:=rfl
theorem DH(T:TypeId)(z:V):F1 T z (.d (.lit .nilIface))=some (.tup [z,aq false]):=rfl
theorem HA(t:TypeId)(x:D):Fe t (.d x)=some (.iface t (.d x)):=rfl
theorem BN(t:TypeId)(cs:List V):Fe t (.agg cs)=some (.iface t (.agg (cs.map V.copy))):=rfl
theorem zm(k:Nat)(ag:Bool)(cs:List D)(o:Nat):jU σ k ag (.row cs o)=(if o+k≤cs.length then some (((cs.drop o).take k).map V.d)else none).bind (jc ag):=rfl
def ldK(k:Nat)(ag:Bool)(o:Nat)(b:Option (List V)):Option V:=match b with|some cs=>if o+k≤cs.length/\cV cs=true then jc ag ((cs.drop o).take k)else(tyL k o cs).bind (jc ag)|none=>none
theorem D2(k:Nat)(ag:Bool)(o:Nat)(cs:List V):ldK k ag o (some cs)=if o+k≤cs.length/\cV cs=true then jc ag ((cs.drop o).take k)else(tyL k o cs).bind (jc ag):=rfl
theorem y5(k:Nat)(ag:Bool)(i o:Nat):jU σ k ag (.ptr i o)=ldK k ag o σ[i]? := by
 unfold jU lk ldK;simp only;cases σ[i]? with
 | none=>rfl
 | some cs=>simp only;split<;>rfl
theorem mq(l:LLV)(j:Nat):(σ++l)[σ.length+j]? = l[j]? := by rw[List.getElem?_append_right (by omega)];congr 1;omega
theorem pS(l:LLV):(σ++l)[σ.length]? = l[0]? := mq l 0
theorem ar{i:Nat}{cs:List V}(h:σ[i]? = some cs)(l:LLV):(σ++l)[i]? = some cs:=by rw[List.getElem?_append_left (List.getElem?_eq_some_iff.1 h).1];exact h
theorem lp(l:LLV)(j:Nat)(x:List V):(σ++l).set (σ.length+j) x=σ++l.set j x:=by rw[List.set_append_right _ _ (by omega)];congr 2;omega
theorem nI(l:LLV)(x:List V):(σ++l).set σ.length x=σ++l.set 0 x:=lp l 0 x
theorem aI{i:Nat}{cs:List V}(h:σ[i]? = some cs)(l:LLV)(x:List V):(σ++l).set i x=σ.set i x++l:=by rw[List.set_append_left _ _ (List.getElem?_eq_some_iff.1 h).1]
theorem aJ{a:Int}(h1 : -9223372036854775808≤a)(h2:a≤9223372036854775807):IntKind.i64.wrap a=a:=by
 simp[IntKind.wrap,IntKind.bits,IntKind.signed];split<;>omega
end
theorem D7{rows:LLD}(h:V.Wf (.d (.sl rows))):rows.length≤9223372036854775807:=by
 cases h with|d h=>cases h with|sl _ h _=>exact h
theorem Fg{k:IntKind}{n:Int}(h:V.Wf (.d (.lit (.int k n)))):k.min≤n/\n≤k.max:=by
 cases h with|d h=>cases h with|lit _ h=>exact h
theorem uh{cs:List V}(h:V.Wf (.agg cs))(i:Nat)(hi:i<cs.length):V.Wf cs[i]:=by
 cases h with|agg h=>exact h i hi
theorem ba{j n:Nat}(h:j<n)(hn:n≤9223372036854775807):IntKind.i64.wrap ((j:Int)+1)=((j+1:Nat):Int):=by
 rw[aJ (by omega) (by omega)];rfl
set_option linter.defProp false in
def aw:=Rs (Rs (Rs (Rs (Rs (Rs (Rs (Rs @eD.eq_1 @eD.eq_2) (Rs @over.eq_1 (Rs @lV.eq_1 @lV.eq_2))) (Rs (Rs @fq.eq_1 @fq.eq_2) (Rs @lf.eq_1 (Rs @lf.eq_2 @fI.eq_1)))) (Rs (Rs (Rs @fI.eq_2 @V.plain.eq_1) (Rs @V.plain.eq_2 (Rs @V.plain.eq_3 @cond_true.{1}))) (Rs (Rs @cond_false.{1} @implies_true.{0}) (Rs @implies_true.{1} (Rs @eq_self.{1} @ne_eq.{1}))))) (Rs (Rs (Rs (Rs @Kh @Je) (Rs @KI (Rs @Cv @Bt))) (Rs (Rs @JX @KK) (Rs @Jq (Rs @EF @Jj)))) (Rs (Rs (Rs @K0 @H8) (Rs @Gr (Rs @J4 @FS))) (Rs (Rs @F9 (Rs @Jf @FN)) (Rs @Gc (Rs @Kz @Bo)))))) (Rs (Rs (Rs (Rs (Rs @F0 @Kk) (Rs @GO (Rs @Co @ED))) (Rs (Rs @Fs @MO) (Rs @Bn (Rs @Dm @IK)))) (Rs (Rs (Rs @Ir @E2) (Rs @Ek (Rs @O6 @BB))) (Rs (Rs @Ki @Ig) (Rs @Kc (Rs @Ia @QZ))))) (Rs (Rs (Rs (Rs @Lb @Km) (Rs @KO (Rs @KE @LO))) (Rs (Rs @Cp @B5) (Rs @Iv (Rs @Dr @HF)))) (Rs (Rs (Rs @BD @xJ) (Rs @Bv (Rs @CS @Ci))) (Rs (Rs @Et (Rs @vR @E7)) (Rs @xK (Rs @CH @Dw))))))) (Rs (Rs (Rs (Rs (Rs (Rs @DQ @Q3) (Rs @M5 (Rs @H6 @Rj))) (Rs (Rs @Pz @Lu) (Rs @LW (Rs @Kn @OB)))) (Rs (Rs (Rs @Nx @Lw) (Rs @Il (Rs @H5 @Jn))) (Rs (Rs @Ma @Lj) (Rs @Ls (Rs @Kw @K5))))) (Rs (Rs (Rs (Rs @OO @O4) (Rs @xU (Rs @Ji @KY))) (Rs (Rs @IO @C2) (Rs @CD (Rs @Ho @Nj)))) (Rs (Rs (Rs @J7 @KQ) (Rs @JU (Rs @LI @LT))) (Rs (Rs @Lr (Rs @FM @DH)) (Rs @Qr (Rs @Rg @EO)))))) (Rs (Rs (Rs (Rs (Rs @Jg @GJ) (Rs @HU (Rs @Bk @BS))) (Rs (Rs @tN @sd) (Rs @Ce (Rs @Li @GH)))) (Rs (Rs (Rs @Hj @BK) (Rs @Gq (Rs @FP @xY))) (Rs (Rs @B7 (Rs @zw @FC)) (Rs @Pl (Rs @Rr @JV))))) (Rs (Rs (Rs (Rs @Kr @LK) (Rs @LJ (Rs @KB @Ky))) (Rs (Rs @M8 @M9) (Rs @OG (Rs @MC @KP)))) (Rs (Rs (Rs @Cg @Ec) (Rs @Qa (Rs @PS @K7))) (Rs (Rs @LY (Rs @Jl @I7)) (Rs @PJ (Rs @Qj @PT)))))))) (Rs (Rs (Rs (Rs (Rs (Rs (Rs @PC @Qo) (Rs @Oh (Rs @Md @M7))) (Rs (Rs @Nz @NX) (Rs @LV (Rs @Kv @Ka)))) (Rs (Rs (Rs @Mb @OL) (Rs @Ly (Rs @LS @K9))) (Rs (Rs @NH @Qp) (Rs @JY (Rs @IA @Jb))))) (Rs (Rs (Rs (Rs @Ih @MJ) (Rs @ML (Rs @NT @LD))) (Rs (Rs @KZ @L9) (Rs @OE (Rs @KL @Or)))) (Rs (Rs (Rs @He @Oj) (Rs @IL (Rs @Oe @J9))) (Rs (Rs @Oy (Rs @Jt @Mm)) (Rs @Ks (Rs @OV @J3)))))) (Rs (Rs (Rs (Rs (Rs @DY @Lk) (Rs @Iz (Rs @JT @Nq))) (Rs (Rs @xH @Gk) (Rs @Bu (Rs @yN @zk)))) (Rs (Rs (Rs @IY @GG) (Rs @Cy (Rs @H1 @CR))) (Rs (Rs @CY (Rs @Ca @Ei)) (Rs @Fu (Rs @CI @Fd))))) (Rs (Rs (Rs (Rs @zV @yQ) (Rs @MG (Rs @NF @L0))) (Rs (Rs @ON @LC) (Rs @Le (Rs @NK @KT)))) (Rs (Rs (Rs @LQ @NJ) (Rs @Me (Rs @OC @Mi))) (Rs (Rs @Ob (Rs @MD @LZ)) (Rs @Lm (Rs @Lt @rH))))))) (Rs (Rs (Rs (Rs (Rs (Rs @Ke @La) (Rs @Lv (Rs @Nh @MQ))) (Rs (Rs @K8 @Do) (Rs @B4 (Rs @ym @Ft)))) (Rs (Rs (Rs @DM @CW) (Rs @F5 (Rs @Eh @bv))) (Rs (Rs @xu @cJ) (Rs @E5 (Rs @MY @Hx))))) (Rs (Rs (Rs (Rs @ID @Nr) (Rs @KD (Rs @wY @xo))) (Rs (Rs @yI @Ri) (Rs @HA (Rs @BN @zm)))) (Rs (Rs (Rs @D2 @y5) (Rs @mq (Rs @pS @lp))) (Rs (Rs @nI (Rs @Option.bind_some.{0,0} @Option.map_some.{0,0})) (Rs @Option.map_none.{0,0} (Rs @List.getElem?_map.{0,0} @List.length_map.{0,0})))))) (Rs (Rs (Rs (Rs (Rs @List.length_append.{0} @List.append_assoc.{0}) (Rs @List.cons_append.{0} (Rs @List.nil_append.{0} @List.drop_succ_cons.{0}))) (Rs (Rs @List.drop_zero.{0} @List.take_succ_cons.{0}) (Rs @List.take_zero.{0} (Rs @List.length_cons.{0} @List.length_nil.{0})))) (Rs (Rs (Rs @List.getElem?_cons_zero.{0} @List.getElem?_cons_succ.{0}) (Rs @List.set_cons_zero.{0} (Rs @List.set_cons_succ.{0} @RQ))) (Rs (Rs @and_true (Rs @true_and @true_implies)) (Rs @not_true_eq_false (Rs @not_false_eq_true @false_implies))))) (Rs (Rs (Rs (Rs @Bool.not_true @Bool.not_false) (Rs @List.contains_cons.{0} (Rs @List.contains_nil.{0} @List.map_cons.{0,0}))) (Rs (Rs @List.map_nil.{0,0} @Bool.or_false) (Rs @Bool.false_or (Rs @Bool.or_true @Bool.true_or)))) (Rs (Rs (Rs @Rz @Bool.true_eq_false) (Rs @Hz (Rs @EE @Bool.not_not))) (Rs (Rs @decide_not (Rs @List.all_cons.{0} @List.all_nil.{0})) (Rs @RB (Rs @List.getD_cons_zero.{0} @List.getD_cons_succ.{0}))))))))
end Go.Proofs.YthekkgfmagliiaaGreatDoor
namespace Go.Proofs.YthekkgfmagliiaaGreatDoor
open Go.RowKit
inductive CdD where
 | seq (a:Cd) (b:CdD)
 | dfr (s:Nat) (g:FuncId) (cap:List X) (rest:Cd)
def Bg(tab:Tab)(n:Nat)(s:Nat)(g:FuncId)(cap:List X):List Oper->Bool
 | [⟨d1,.makeFunc (.func g') first cap',_,_,_,none⟩,⟨d2,.defer {callee:=.value y,args:=args,argTypes:=_},_,_,_,none⟩]=>d1==some s&&decide (s<n)&&g==g'&&first.isEmpty&&j8 cap cap'.toList&&d2==none&&okX (.t s) y&&args.isEmpty
 | _=>false
def okD(tab:Tab)(n:Nat):CdD->Code->Bool
 | .seq a b,.seq a' b'=>okC tab n a a'&&okD tab n b b'
 | .dfr s g cap rest,.seq (.region _ ops false) r=>Bg tab n s g cap ops.toList&&okC tab n rest r
 | _,_=>false
abbrev rZ:=FuncId->List V->cX
def Jm(C:Cx)(n0:Nat):CdD->ah->LLV->cX->rZ->Prop
 | .seq a b,ρ,σ,Q,QD=>awp C n0 a ρ σ (andThen (fun ρ' σ'=>Jm C n0 b ρ' σ' Q QD) Q)
 | .dfr s g cap rest,ρ,σ,_,QD=>awp C σ.length rest (put ρ s (.fn g (cap.map (ev C ρ)))) σ (QD g (cap.map (ev C ρ)))
section
variable {C : Cx} {pr : Prot} {n n0 : Nat}
def DX(M0:an)(bm0:List Nat)(p:Nat->Prop)(w0:World)(n:Nat)(QD:rZ)(e:Exit)(a':Act)(w':World):Prop:=
 ∃(M1:an) (bm1:List Nat) (w1:World) (g:FuncId) (caps:List V) (vs:List Value),Later M0 bm0 p w0 M1 bm1 w1/\vs.length=caps.length/\(∀i (h:i<caps.length) (h':i<vs.length),Rep M1 bm1 caps[i] vs[i])/\
  bC M1 bm1 ⟨p,[{target:=.fn (.func g) vs.toArray,args := #[]}]⟩ w1 n (QD g caps) e a' w'
theorem yK{M0:an}{bm0:List Nat}{w0:World}(hG:C.glob M0 pr w0)(hn0:bm0.length=n0)(hds:pr.ds=[]):∀{c:CdD} {c':Code} {M:an} {bm:List Nat} {tk:bP} {ρ:ah} {σ:LLV} {a:Act} {w:World} {Q:cX} {QD:rZ},okD C.tab n c c'=true->Later M0 bm0 pr w0 M bm w->SRel M bm tk pr ρ σ n a w->
 Jm C n0 c ρ σ Q QD->c'.wp C.P (fun e a' w'=>bC M0 bm0 pr w0 n Q e a' w'\/DX M0 bm0 pr w0 n QD e a' w') a w:=by
 intro c
 induction c with
 | seq x y ih=>
  intro c' M bm tk ρ σ a w Q QD hok hl h hq
  obtain⟨a',b',rfl,ok2⟩:∃a' b',c'=.seq a' b'/\okC C.tab n x a'=true/\okD C.tab n y b'=true:=by
   cases c' with
   | seq a' b'=>
    have hok:(okC C.tab n x a'&&okD C.tab n y b')=true:=hok;rw[Ry]at hok;exact⟨_,_,rfl,hok⟩
   | _=>cases hok
  refine wp_seq (wp_mono (lE hG hn0 ok2.1 hl h hq) (fun e a' w' hL=>?_));obtain⟨M',bm',tk',ρ',σ',x,k1,k2,k3,k4⟩:=hL;cases k2 with
  | normal=>exact ih ok2.2 k4 k3 k1
  | ret=>exact .inl ⟨M',bm',tk',ρ',σ',_,k1,.ret,k3,k4⟩
  | exit id=>exact .inl ⟨M',bm',tk',ρ',σ',_,k1,.exit id,k3,k4⟩
  | panic hp=>exact .inl ⟨M',bm',tk',ρ',σ',_,k1,.panic hp,k3,k4⟩
 | dfr s g cap rest=>
  intro c' M bm tk ρ σ a w Q QD hok hl h hq
  obtain⟨id,ops,r,rfl,hok1,hok2⟩:∃id ops r,c'=.seq (.region id ops false) r/\Bg C.tab n s g cap ops.toList=true/\okC C.tab n rest r=true:=by
   cases c' with
   | seq a' r=>
    cases a' with
    | region id ops draw=>
     cases draw with
     | false=>
      have hok:(Bg C.tab n s g cap ops.toList&&okC C.tab n rest r)=true:=hok;rw[Ry]at hok;exact⟨_,_,_,rfl,hok⟩
     | true=>cases hok
    | _=>cases hok
   | _=>cases hok
  unfold Bg at hok1;split at hok1
  .rename_i d1 g' first cap' ty1 po1 af1 d2 y args at_ ty2 po2 af2 hops
   simp only[Ry,beq_iff_eq,decide_eq_true_eq]at hok1;obtain⟨⟨⟨⟨⟨⟨⟨rfl,hs⟩,rfl⟩,h1⟩,h2⟩,rfl⟩,h4⟩,h5⟩:=hok1;have hf:first = #[]:=by simpa using h1
   have ha:args = #[]:=by simpa using h5
   subst hf;subst ha;obtain⟨l1,l2⟩:=fF (hG.mono hl) h h2;have hr:=Rep.fn (f:=g) l1 l2;have e9:(cap'.toList.map a.eval).toArray=cap'.map a.eval:=by rw[<-Array.toList_map]
   refine wp_seq (wp_region_list ?_);rw[hops];have w1:∀(a:Act) (d:Option Tmp) (o:Op) (t:TypeId) (p:String) (af:Array Edge),Region.wanted ⟨d,o,t,p,af,none⟩ (yielded ops a.tmps)=true:=fun _ _ _ _ _ _=>rfl;simp only[wpList];rw[if_pos (w1 _ _ _ _ _ _)];left;unfold Oper.wp
   have run1:(execOp a.eval ⟨some s,.makeFunc (.func g) #[] cap',ty1,po1,af1,none⟩).run C.P w=.ok (.value (.func (.func g) #[] (cap'.map a.eval))) w:=by
    simp[execOp,Instr.makeFunc]
   rw[run1];simp only[Oper.upon_value];rw[if_pos (w1 _ _ _ _ _ _)];left;rw[e9]at hr;have h6:=h.puts hs hr (by simp)
   have hy:(a.put (some s) (.func (.func g) #[] (cap'.map a.eval))).eval y=.func (.func g) #[] (cap'.map a.eval):=by
    unfold okX at h4;split at h4
    .rename_i m m' e;cases e;simp only[beq_iff_eq]at h4;subst h4;simp only[Act.eval];have:=iO a s s (.func (.func g) #[] (cap'.map a.eval)) (by rw[h.size];exact hs);rw[if_pos rfl]at this;exact this
    .rename_i e;cases e
    .rename_i e;cases e
    .rename_i e;cases e
    .cases h4
   have run2:(execOp (a.put (some s) (.func (.func g) #[] (cap'.map a.eval))).eval ⟨none,.defer {callee:=.value y,args := #[],argTypes:=at_},ty2,po2,af2,none⟩).run C.P w=.ok (.defer {target:=.fn (.func g) (cap'.map a.eval),args := #[]}) w:=by
    simp[execOp,resolve,hy,Deferred.ofValue]
   rw[run2];simp only[Oper.upon_defer]
   have h7:SRel M bm tk ⟨pr.p,[{target:=.fn (.func g) (cap'.map a.eval),args := #[]}]⟩ (put ρ s (.fn g (cap.map (ev C ρ)))) σ n ({(a.put (some s) (.func (.func g) #[] (cap'.map a.eval)))with defers:={target:=.fn (.func g) (cap'.map a.eval),args := #[]}::(a.put (some s) (.func (.func g) #[] (cap'.map a.eval))).defers}.put none undef) w:=
    ⟨h6.inv,by show _::_=_;rw[h6.defers,hds],h6.size,h6.slots⟩
   refine wp_mono (lE (pr:=⟨pr.p,[{target:=.fn (.func g) (cap'.map a.eval),args := #[]}]⟩) (hG.mono hl) (n0:=σ.length) h.inv.len hok2 (Later.refl _ _ _ _) h7 hq) (fun e a' w' hL=>.inr ⟨M,bm,w,g,cap.map (ev C ρ),cap'.toList.map a.eval,hl,l1,l2,?_⟩);rw[e9];exact hL
  .cases hok1
def gJ(C:Cx)(g:FuncId)(caps:List V)(σ:LLV)(x:Option V)(R:LLV->Prop):Prop:=
 (∀as w,(callFunc g as).run C.P w=.ok (.enter g as) w)/\
 ∀(M:an) (bm:List Nat) (tk:bP) (pr:Nat->Prop) (w:World) (vs:List Value) (u:FrameMode),C.glob M pr w->Inv M bm σ tk pr w->(∀t,tk none t=none)->vs.length=caps.length->(∀i (h:i<caps.length) (h':i<vs.length),Rep M bm caps[i] vs[i])->
  (match x with|none=>u=.returning|some v=>∃y,u=.panicking [{v:=y,recovered:=false}]/\Rep M bm v y)->
  CallsD C.P g vs.toArray u w fun e u' w'=>(∃y,e=.returned y)/\settle u'=.returning/\∃M' bm' tk' σ',R σ'/\Inv M' bm' σ' tk' pr w'/\Later M bm pr w M' bm' w'
theorem uc{M':an}{bm':List Nat}{tk':bP}{ρ':ah}{σ':LLV}{a':Act}{w':World}{k:Nat}(o:Option Nat)(k3:SRel M' bm' tk' pr ρ' σ' n a' w')(hbk:aj k (σ'.take k)=true)(ho:o=none\/∃s,o=tk' none s):
 Inv M' (bm'.take k) (σ'.take k) (fun i j=>match i with|none=>if j=0 then o else none|some i=>tk' (some i) j) pr w':=by
 have hd:=k3.inv.drop hbk;refine⟨hd.facts,hd.len,hd.box,hd.free,hd.bmnd,fun i j g hg=>?_,fun i j i' j' g g1 g2=>?_,hd.prlt⟩
 .cases i with
  | some i=>exact hd.tok _ _ _ hg
  | none=>
   simp only at hg;split at hg
   .rcases ho with rfl|⟨s,rfl⟩
    .cases hg
    .exact hd.tok _ _ _ hg
   .cases hg
 .cases i with
  | some i=>cases i' with
   | some i'=>exact hd.inj _ _ _ _ _ g1 g2
   | none=>
    simp only at g2;split at g2
    .rcases ho with rfl|⟨s,rfl⟩
     .cases g2
     .have:=hd.inj _ _ _ _ _ g1 g2;simp at this
    .cases g2
  | none=>cases i' with
   | some i'=>
    simp only at g1;split at g1
    .rcases ho with rfl|⟨s,rfl⟩
     .cases g1
     .have:=hd.inj _ _ _ _ _ g1 g2;simp at this
    .cases g1
   | none=>
    simp only at g1 g2;split at g1
    .split at g2
     .exact⟨rfl,by omega⟩
     .cases g2
    .cases g1
def Hr(n0:Nat)(rs:List RV)(Q:Out->LLV->Prop)(ρ:ah)(σ2:LLV):Prop:=
 ∃v,aU σ2 ρ rs=some v/\∃k,n0≤k/\aj k (σ2.take k)=true/\V.under k v=true/\Q (.ret v) (σ2.take k)
def OX(C:Cx)(n0:Nat)(rs:List RV)(Q:Out->LLV->Prop):rZ:=fun g caps e ρ σ'=>match e with
 | .normal=>gJ C g caps σ' none (Hr n0 rs Q ρ)
 | .ret=>gJ C g caps σ' none (Hr n0 rs Q ρ)
 | .panic v=>gJ C g caps σ' (some v) (Hr n0 rs Q ρ)
 | .exit _=>False
def vv(tab:Tab)(fn:Func)(m:Nat)(c:CdD)(rs:List RV):Bool:=
 (match fn.body with|some b=>okD tab fn.ntmps c b|none=>false)&&mW tab rs fn.results.toList&&decide (m≤fn.ntmps) && !(fn.name == "runtime.NumGoroutine")
theorem CQ{f:FuncId}{fn:Func}{c:CdD}{rs:List RV}{args:List V}{σ:LLV}{Q:Out->LLV->Prop}(hf:C.P.funcs[f]? = some fn)(hok:vv C.tab fn args.length c rs=true)(hno:args.all (! ·.isOwn)=true)
 (h:aj σ.length σ=true->(∀i (h:i<args.length),V.Wf args[i])->Jm C σ.length c (eD 0 args) σ (fin σ.length rs Q) (OX C σ.length rs Q)):Fun C f args σ Q:=by
 unfold vv at hok;simp only[Ry,decide_eq_true_eq,RA]at hok;obtain⟨⟨⟨h1,h2⟩,h3⟩,h4⟩:=hok;cases hb:fn.body with
 | none=>rw[hb]at h1;cases h1
 | some body=>
 rw[hb]at h1;refine⟨bU hf h4 (by rw[hb];rfl),fun M bm tk pr0 w vs hG hI htk hl hr=>?_⟩;obtain⟨pr,rfl,hds⟩:∃pr:Prot,pr.p=pr0/\pr.ds=[]:=⟨⟨pr0,[]⟩,rfl,rfl⟩
 have hq:=h hI.under (fun i hi=>(hr i hi (by omega)).wf);refine calls_of_wp_defers hf hb ?_
 have hs:SRel M bm tk pr (eD 0 args) σ fn.ntmps {tmps:=vs.toArray++Ru (fn.ntmps-vs.toArray.size) undef,defers:=[]} w:=by
  refine⟨hI,hds.symm,by simp;omega,fun t=>?_⟩;rw[j6,if_pos (RP _),RO];by_cases hlt:t<args.length
  .rw[RE hlt,RR]
   have hv:(vs.toArray++Ru (fn.ntmps-vs.toArray.size) undef).getD t undef=vs[t]'(by omega):=by
    rw[Rv,Rw (by simp;omega)];simp[show t<vs.length by omega]
   rw[hv];refine⟨hr t hlt (by omega),fun T k rows e=>?_⟩;have:=List.all_eq_true.1 hno args[t] (RD hlt);rw[e]at this;cases this
  .rw[RF (by omega),RS];exact CellOK.junk ..
 refine wp_mono (yK hG hI.len hds h1 (Later.refl M bm pr w) hs hq) (fun e a' w' hL=>?_)
 have ret:∀{p2:Prot} {M2:an} {bm2:List Nat} {tk2:bP} {ρ2:ah} {σ2:LLV} {w2:World},p2.p=pr.p->SRel M2 bm2 tk2 p2 ρ2 σ2 fn.ntmps a' w2->Later M bm pr w M2 bm2 w2->∀v,aU σ2 ρ2 rs=some v->(∃k,σ.length≤k/\aj k (σ2.take k)=true/\V.under k v=true/\Q (.ret v) (σ2.take k))->
  ∃u,(results fn a'.tmps).run C.P w2=.ok u w2/\∃M' bm' tk' σ' o,Q o σ'/\Inv M' bm' σ' tk' pr w2/\Later M bm pr w M' bm' w2/\OutOK M' bm' w2 tk' o (.returned u):=by
  rintro p2 M2 bm2 tk2 ρ2 σ2 w2 hp s1 s2 v hv ⟨k,g1,g2,g3,g4⟩;obtain⟨u,r1,t,r2,r3⟩:=rV s1 h2 hv;have c1:=uc t s1 g2 r3;rw[hp]at c1;refine⟨u,r1,M2,bm2.take k,_,σ2.take k,.ret v,g4,c1,s2.drop (by rw[hI.len];exact g1),fun v' e=>?_,fun v' e=>by cases e⟩;cases e;exact⟨u,rfl,r2.rep.drop g3,by simpa using r2.own⟩
 rcases hL with⟨M',bm',tk',ρ',σ',x,k1,k2,k3,k4⟩|⟨M1,bm1,w1,g,caps,us,d1,d2,d3,M',bm',tk',ρ',σ',x,k1,k2,k3,k4⟩
 .have hnil:a'.defers=[]:=k3.defers.trans hds
  have plain:(∃ρ2 σ2,eJ σ.length ρ' σ' ρ2 σ2/\∃v,aU σ2 ρ2 rs=some v/\∃k,σ.length≤k/\aj k (σ2.take k)=true/\V.under k v=true/\Q (.ret v) (σ2.take k))->Leaves C.P fn a'.tmps (fun e w'=>∃M' bm' tk' σ' o,Q o σ'/\Inv M' bm' σ' tk' pr w'/\Later M bm pr w M' bm' w'/\OutOK M' bm' w' tk' o e) a'.defers .returning w':=by
   rintro⟨ρ2,σ2,g0,v,g1,g2⟩;obtain⟨M2,bm2,s1,s2⟩:=g0 M' bm' tk' pr fn.ntmps a' w' k3;rw[hnil];exact ret rfl s1 (s2 M bm w hI.len k4) v g1 g2
  cases k2 with
  | normal=>exact plain k1
  | ret=>exact plain k1
  | exit id=>exact k1.elim
  | panic hp=>
   obtain⟨k,g1,g2,g3,g4⟩:=k1;have c1:=uc none k3 g2 (.inl rfl);show Leaves C.P fn a'.tmps _ a'.defers (.panicking _) w';rw[hnil];exact⟨M',bm'.take k,_,σ'.take k,_,g4,c1,k4.drop (by rw[hI.len];exact g1),(fun v' e=>by cases e),fun v' e=>by cases e;exact⟨_,rfl,hp.drop g3⟩⟩
 .have hdl:Later M bm pr.p w M' bm' w':=d1.trans k4 (fun _ h=>h);have hrc:∀i (h:i<caps.length) (h':i<us.length),Rep M' bm' caps[i] us[i]:=fun i g1 g2=>k4.rep (d3 i g1 g2)
  have late:∀(x:Option V) (u:FrameMode),u≠.run->(match x with|none=>u=.returning|some v=>∃y,u=.panicking [{v:=y,recovered:=false}]/\Rep M' bm' v y)->gJ C g caps σ' x (Hr σ.length rs Q ρ')->
   Leaves C.P fn a'.tmps (fun e w'=>∃M' bm' tk' σ' o,Q o σ'/\Inv M' bm' σ' tk' pr w'/\Later M bm pr w M' bm' w'/\OutOK M' bm' w' tk' o e) a'.defers u w':=fun x u hu hx hF=>by
   rw[k3.defers];refine leaves_cons hu ?_ ((hF.2 M' bm' (uB tk') (prot tk' pr.p) w' us u ((hG.mono hdl).prot fun _ hb=>.inl hb) k3.callee (fun _=>rfl) d2 hrc hx).mono ?_)
   .have:=hF.1 us.toArray w';simpa[invoke]using this
   .rintro e u' w2 ⟨⟨y,rfl⟩,hset,M2,bm2,tk2,σ2,hfin,hi2,hl2⟩;obtain⟨⟨tk3,s1⟩,-,s2⟩:=k3.called hi2 hl2;obtain⟨v,hv,hk⟩:=hfin;show Leaves C.P fn a'.tmps _ [] (settle u') w2;rw[hset];exact ret (by exact rfl) s1 (hdl.trans s2 (fun _ h=>h)) v hv hk
  cases k2 with
  | normal=>exact late none .returning (by simp) rfl k1
  | ret=>exact late none .returning (by simp) rfl k1
  | exit id=>exact k1.elim
  | panic hp=>exact late (some _) (.panicking _) (by simp) ⟨_,rfl,hp⟩ k1
inductive CdR where
 | reg (s:Nat) (l:List O) (keep:List Nat)
 | seq (a:CdR) (b:Cd)
def u5(n s:Nat):List Oper->Bool
 | ⟨d,.call {callee:=.builtin .recover,args:=args,argTypes:=_},_,_,_,none⟩::_=>d==some s&&decide (s<n)&&args.isEmpty
 | _=>false
def okR(tab:Tab)(n:Nat):CdR->Code->Bool
 | .reg s l _,.region _ ops false=>u5 n s ops.toList&&fQ tab n ops l ops.toList.tail
 | .seq a b,.seq a' b'=>okR tab n a a'&&okC tab n b b'
 | _,_=>false
def Hm(C:Cx)(n0:Nat)(x:V):CdR->ah->LLV->cX->Prop
 | .reg s l keep,ρ,σ,Q=>dl C l (put ρ s x) σ fun e ρ' σ'=>Q e (aK keep ρ') σ'
 | .seq a b,ρ,σ,Q=>Hm C n0 x a ρ σ (andThen (fun ρ' σ'=>awp C n0 b ρ' σ' Q) Q)
theorem mz{P:Program}{ops:Array Oper}{Q Q':Exit->Act->World->Prop}(hq:∀e a w,Q e a w->Q' e a w):∀(l:List Oper) (a:Act) (w:World),wpList P ops Q l a w->wpList P ops Q' l a w
 | [],_,_,h=>hq _ _ _ h
 | o::l,a,w,h=>by
  simp only[wpList]at h ⊢;split
  .rename_i hw;rw[if_pos hw]at h;rcases h with h|⟨h1,a',w',h2⟩
   .exact .inl (Oper.wp_mono2 (fun a' w' hh=>mz hq l a' w' hh) hq h)
   .exact .inr ⟨h1,a',w',hq _ _ _ h2⟩
  .rename_i hw;rw[if_neg hw]at h;exact mz hq l _ w h
theorem A2{P:Program}{c:Code}{Q Q':Exit->Act->List Frame->World->Prop}{a:Act}{cs:List Frame}{w:World}(h:c.wpS P Q a cs w)(hq:∀e a cs w,Q e a cs w->Q' e a cs w):c.wpS P Q' a cs w:=
 fun b k hb hr=>let ⟨e,a',cs',w',q,r⟩:=h b k hb hr;⟨e,a',cs',w',hq _ _ _ _ q,r⟩
theorem iL{P:Program}{ops:Array Oper}{Q:Exit->Act->World->Prop}{cs:List Frame}(hno:¬LetsOut Q):∀(l:List Oper) (k:Nat) (a:Act) (w:World),(∀j,l[j]? = ops[k+j]?)->wpList P ops Q l a w->wpOpsS P ops (fun e a cs' w=>cs'=cs/\Q e a w) (RI k l.length) a cs w
 | [],_,_,_,_,h=>⟨rfl,h⟩
 | o::l,k,a,w,hj,h=>by
  have h0:ops[k]? = some o:=by simpa using(hj 0).symm
  have hj':∀j,l[j]? = ops[k+1+j]? := fun j=>by have:=hj (j+1);simpa[Nat.add_assoc,Nat.add_comm 1 j]using this
  simp only[RK,RJ,wpOpsS,h0];simp only[wpList]at h;split
  .rename_i hw;rw[if_pos hw]at h;have h:=h.resolve_right fun hh=>hno hh.2;have h2:o.wp P a w (fun a' w'=>wpOpsS P ops (fun e a cs' w=>cs'=cs/\Q e a w) (RI (k+1) l.length) a' cs w') (fun e a' w'=>True/\Q e a' w'):=Oper.wp_mono2 (fun a' w' hh=>iL hno l (k+1) a' w' hj' hh) (fun e a' w' hh=>⟨trivial,hh⟩) h;unfold Oper.wp at h2;generalize (execOp a.eval o).run P w=r at h2;split
   .exact h2.elim
   .exact h2
  .rename_i hw;rw[if_neg hw]at h;exact iL hno l (k+1) _ w hj' h
theorem bC.noOut{M:an}{bm:List Nat}{w:World}{Q:cX}:¬LetsOut (bC M bm pr w n Q):=by
 rintro⟨a,w',M',bm',tk',ρ',σ',x,h1,h2,h3⟩;cases h2
theorem yc{M0:an}{bm0:List Nat}{w0:World}(hG:C.glob M0 pr w0)(hn0:bm0.length=n0){x:V}{cs cs2:List Frame}{y:Value}(hrec:recoverD cs=some (y,cs2)\/(recoverD cs=none/\cs2=cs/\y=.nilIface))(hx:Rep M0 bm0 x y)(hxo:∀T k rows,x≠.own T k rows):
 ∀{c:CdR} {c':Code} {tk:bP} {ρ:ah} {σ:LLV} {a:Act} {Q:cX},okR C.tab n c c'=true->SRel M0 bm0 tk pr ρ σ n a w0->
 Hm C n0 x c ρ σ Q->c'.wpS C.P (fun e a' cs' w'=>cs'=cs2/\bC M0 bm0 pr w0 n Q e a' w') a cs w0:=by
 intro c
 induction c with
 | reg s l keep=>
  intro c' tk ρ σ a Q hok h hq
  obtain⟨id,ops,rfl,hok1,hok2⟩:∃id ops,c'=.region id ops false/\u5 n s ops.toList=true/\fQ C.tab n ops l ops.toList.tail=true:=by
   cases c' with
   | region id ops draw=>
    cases draw with
    | false=>
     have hok:(u5 n s ops.toList&&fQ C.tab n ops l ops.toList.tail)=true:=hok;rw[Ry]at hok;exact⟨_,_,rfl,hok⟩
    | true=>cases hok
   | _=>cases hok
  unfold u5 at hok1;split at hok1
  .rename_i d args at_ ty po af r hops;simp only[Ry,beq_iff_eq,decide_eq_true_eq]at hok1;obtain⟨⟨rfl,hs⟩,h5⟩:=hok1;have ha:args = #[]:=by simpa using h5
   subst ha;rw[hops,List.tail_cons]at hok2;refine wpS_region ?_;have hsz:ops.size=r.length+1:=by rw[<-Array.length_toList,hops];rfl
   have h0:ops[0]? = some ⟨some s,.call {callee:=.builtin .recover,args := #[],argTypes:=at_},ty,po,af,none⟩:=by rw[<-Rx,hops];rfl
   have hj:∀j,r[j]? = ops[0+1+j]? := fun j=>by rw[<-Rx,hops,show 0+1+j=j+1 by omega];rfl
   rw[hsz,List.range_eq_range',RJ];simp only[wpOpsS,h0];rw[if_pos (show Region.wanted ⟨some s,.call {callee:=.builtin .recover,args := #[],argTypes:=at_},ty,po,af,none⟩ (yielded ops a.tmps)=true from rfl)]
   have run1:(execOp a.eval ⟨some s,.call {callee:=.builtin .recover,args := #[],argTypes:=at_},ty,po,af,none⟩).run C.P w0=.ok .recover w0:=by
    simp[execOp,resolve,invoke,builtin]
   rw[run1]
   have go:wpOpsS C.P ops (fun e a' cs' w'=>cs'=cs2/\bC M0 bm0 pr w0 n Q e a' w') (RI (0+1) r.length) (a.put (some s) y) cs2 w0:=by
    refine iL bC.noOut r (0+1) _ _ hj ?_;have h6:=h.puts hs hx hxo;exact mz (fun e a w hL=>bC.keep (l:=keep) hL) _ _ _ (fV (Q:=fun e ρ' σ'=>Q e (aK keep ρ') σ') hG hok2 (Later.refl _ _ _ _) h6 hq)
   rcases hrec with hrec|⟨hrec,rfl,rfl⟩
   .rw[hrec];exact go
   .rw[hrec];exact go
  .cases hok1
 | seq x1 b ih=>
  intro c' tk ρ σ a Q hok h hq
  obtain⟨a',b',rfl,ok2⟩:∃a' b',c'=.seq a' b'/\okR C.tab n x1 a'=true/\okC C.tab n b b'=true:=by
   cases c' with
   | seq a' b'=>
    have hok:(okR C.tab n x1 a'&&okC C.tab n b b')=true:=hok;rw[Ry]at hok;exact⟨_,_,rfl,hok⟩
   | _=>cases hok
  refine wpS_seq (A2 (ih ok2.1 h hq) (fun e a' cs' w' ⟨hcs,hL⟩=>?_));subst hcs;obtain⟨M',bm',tk',ρ',σ',z,k1,k2,k3,k4⟩:=hL;cases k2 with
  | normal=>exact wpS_of_wp (wp_mono (lE hG hn0 ok2.2 k4 k3 k1) fun e a w hh=>⟨rfl,hh⟩)
  | ret=>exact⟨rfl,M',bm',tk',ρ',σ',_,k1,.ret,k3,k4⟩
  | exit id=>exact⟨rfl,M',bm',tk',ρ',σ',_,k1,.exit id,k3,k4⟩
  | panic hp=>exact⟨rfl,M',bm',tk',ρ',σ',_,k1,.panic hp,k3,k4⟩
def Ml(n0:Nat)(R:LLV->Prop):cX:=fun e _ σ'=>match e with
 | .normal=>∃k,n0≤k/\aj k (σ'.take k)=true/\R (σ'.take k)
 | .ret=>∃k,n0≤k/\aj k (σ'.take k)=true/\R (σ'.take k)
 | _=>False
def vU(tab:Tab)(fn:Func)(m:Nat)(c:CdR):Bool:=
 (match fn.body with|some b=>okR tab fn.ntmps c b|none=>false)&&fn.results.isEmpty&&decide (m≤fn.ntmps) && !(fn.name == "runtime.NumGoroutine")
theorem Fo{g:FuncId}{fn:Func}{c:CdR}{caps:List V}{σ:LLV}{x:Option V}{R:LLV->Prop}(hf:C.P.funcs[g]? = some fn)(hok:vU C.tab fn caps.length c=true)(hno:caps.all (! ·.isOwn)=true)(hx:∀v,x=some v->v.isOwn=false)
 (h:aj σ.length σ=true->Hm C σ.length (x.getD (.d (.lit .nilIface))) c (eD 0 caps) σ (Ml σ.length R)):gJ C g caps σ x R:=by
 unfold vU at hok;simp only[Ry,decide_eq_true_eq,RA]at hok;obtain⟨⟨⟨h1,h2⟩,h3⟩,h4⟩:=hok;have hres:fn.results = #[]:=by simpa using h2
 cases hb:fn.body with
 | none=>rw[hb]at h1;cases h1
 | some body=>
 rw[hb]at h1;refine⟨bU hf h4 (by rw[hb];rfl),fun M bm tk pr0 w vs u hG hI htk hl hr hu=>?_⟩;obtain⟨pr,rfl,hds⟩:∃pr:Prot,pr.p=pr0/\pr.ds=[]:=⟨⟨pr0,[]⟩,rfl,rfl⟩
 have hq:=h hI.under;refine callsD_of_wpS hf hb fun c₀ cs hc=>?_
 have hs:SRel M bm tk pr (eD 0 caps) σ fn.ntmps {tmps:=vs.toArray++Ru (fn.ntmps-vs.toArray.size) undef,defers:=[]} w:=by
  refine⟨hI,hds.symm,by simp;omega,fun t=>?_⟩;rw[j6,if_pos (RP _),RO];by_cases hlt:t<caps.length
  .rw[RE hlt,RR]
   have hv:(vs.toArray++Ru (fn.ntmps-vs.toArray.size) undef).getD t undef=vs[t]'(by omega):=by
    rw[Rv,Rw (by simp;omega)];simp[show t<vs.length by omega]
   rw[hv];refine⟨hr t hlt (by omega),fun T k rows e=>?_⟩;have:=List.all_eq_true.1 hno caps[t] (RD hlt);rw[e]at this;cases this
  .rw[RF (by omega),RS];exact CellOK.junk ..
 have key:∀(y:Value) (cs2:List Frame),(recoverD (c₀::cs)=some (y,cs2)\/(recoverD (c₀::cs)=none/\cs2=c₀::cs/\y=.nilIface))->Rep M bm (x.getD (.d (.lit .nilIface))) y->(∃u',cs2={c₀ with mode:=u'}::cs/\settle u'=.returning)->
  body.wpS C.P (bodyPostS C.P fn c₀ cs fun e u' w'=>(∃y,e=.returned y)/\settle u'=.returning/\∃M' bm' tk' σ',R σ'/\Inv M' bm' σ' tk' pr w'/\Later M bm pr w M' bm' w') {tmps:=vs.toArray++Ru (fn.ntmps-vs.toArray.size) undef,defers:=[]} (c₀::cs) w:=by
  rintro y cs2 hrec hy ⟨u',rfl,hset⟩;refine A2 (yc hG hI.len hrec hy ?_ h1 hs hq) (fun e a' cs' w' ⟨hcs,hL⟩=>?_)
  .intro T k rows e;cases x with
   | none=>cases e
   | some v=>have:=hx v rfl;rw[RR]at e;rw[e]at this;cases this
  subst hcs;obtain⟨M',bm',tk',ρ',σ',z,k1,k2,k3,k4⟩:=hL
  have fin:(∃k,σ.length≤k/\aj k (σ'.take k)=true/\R (σ'.take k))->a'.defers=[]/\∃u'',({c₀ with mode:=u'}::cs:List Frame)={c₀ with mode:=u''}::cs/\∃v,(results fn a'.tmps).run C.P w'=.ok v w'/\((∃y,Ending.returned v=.returned y)/\settle u''=.returning/\∃M' bm' tk' σ',R σ'/\Inv M' bm' σ' tk' pr w'/\Later M bm pr w M' bm' w'):=by
   rintro⟨k,g1,g2,g3⟩;have c1:=uc none k3 g2 (.inl rfl);refine⟨k3.defers.trans hds,u',rfl,.tuple #[],?_,⟨_,rfl⟩,hset,M',bm'.take k,_,σ'.take k,g3,c1,k4.drop (by rw[hI.len];exact g1)⟩;rw[qj,hres];simp
  cases k2 with
  | normal=>exact fin k1
  | ret=>exact fin k1
  | exit id=>exact k1.elim
  | panic hp=>exact k1.elim
 cases x with
 | none=>
  simp only at hu;subst hu;exact key .nilIface (c₀::cs) (.inr ⟨by simp[recoverD,hc],rfl,rfl⟩) (.d (.lit _ trivial)) ⟨.returning,by rw[<-hc],rfl⟩
 | some v=>
  simp only at hu;obtain⟨y,rfl,hy⟩:=hu;exact key y ({c₀ with mode:=.panicking [{v:=y,recovered:=true}]}::cs) (.inl (by simp[recoverD,hc])) hy ⟨_,rfl,rfl⟩
def dT(C:Cx)(n0:Nat)(c:CdD)(ρ:ah)(σ:LLV)(Q:cX)(QD:rZ)(_:Tag Q)(_:Tag QD):Prop:=Jm C n0 c ρ σ Q QD
theorem rg{ρ:ah}{σ:LLV}{Q:cX}{QD:rZ}(a:Cd)(b:CdD)(s:Tag Q)(t:Tag QD):dT C n0 (.seq a b) ρ σ Q QD s t=dK C n0 a ρ σ (andThen (fun ρ' σ'=>dT C n0 b ρ' σ' Q QD .mk .mk) Q) .mk:=rfl
theorem JJ{ρ:ah}{σ:LLV}{Q:cX}{QD:rZ}(i:Nat)(g:FuncId)(cap:List X)(rest:Cd)(s:Tag Q)(t:Tag QD):dT C n0 (.dfr i g cap rest) ρ σ Q QD s t=dK C σ.length rest (put ρ i (.fn g (cap.map (ev C ρ)))) σ (QD g (cap.map (ev C ρ))) .mk:=rfl
def rT(C:Cx)(n0:Nat)(x:V)(c:CdR)(ρ:ah)(σ:LLV)(Q:cX)(_:Tag Q):Prop:=Hm C n0 x c ρ σ Q
theorem Ac{x:V}{ρ:ah}{σ:LLV}{Q:cX}(i:Nat)(l:List O)(keep:List Nat)(t:Tag Q):rT C n0 x (.reg i l keep) ρ σ Q t=bD C l (put ρ i x) σ (fun e ρ' σ'=>Q e (aK keep ρ') σ') .mk:=rfl
theorem AE{x:V}{ρ:ah}{σ:LLV}{Q:cX}(a:CdR)(b:Cd)(t:Tag Q):rT C n0 x (.seq a b) ρ σ Q t=rT C n0 x a ρ σ (andThen (fun ρ' σ'=>dK C n0 b ρ' σ' Q .mk) Q) .mk:=rfl
theorem rL{f:FuncId}{fn:Func}{c:CdD}{rs:List RV}{args:List V}{σ:LLV}{Q:Out->LLV->Prop}(hf:C.P.funcs[f]? = some fn)(hok:vv C.tab fn args.length c rs=true)(hno:args.all (! ·.isOwn)=true)
 (h:aj σ.length σ=true->(∀i (h:i<args.length),V.Wf args[i])->dT C σ.length c (eD 0 args) σ (fin σ.length rs Q) (OX C σ.length rs Q) .mk .mk):Fun C f args σ Q:=CQ hf hok hno h
theorem iw{g:FuncId}{fn:Func}{c:CdR}{caps:List V}{σ:LLV}{x:Option V}{R:LLV->Prop}(hf:C.P.funcs[g]? = some fn)(hok:vU C.tab fn caps.length c=true)(hno:caps.all (! ·.isOwn)=true)(hx:∀v,x=some v->v.isOwn=false)
 (h:aj σ.length σ=true->rT C σ.length (x.getD (.d (.lit .nilIface))) c (eD 0 caps) σ (Ml σ.length R) .mk):gJ C g caps σ x R:=Fo hf hok hno hx h
theorem gJ.mono{g:FuncId}{caps:List V}{σ:LLV}{x:Option V}{R R':LLV->Prop}(h:gJ C g caps σ x R)(hr:∀σ',R σ'->R' σ'):gJ C g caps σ x R':=
 ⟨h.1,fun M bm tk pr w vs u hG hI ht hl hrep hu=>(h.2 M bm tk pr w vs u hG hI ht hl hrep hu).mono fun e u' w' ⟨h1,h2,M',bm',tk',σ',h3,h4⟩=>⟨h1,h2,M',bm',tk',σ',hr _ h3,h4⟩⟩
end
end Go.Proofs.YthekkgfmagliiaaGreatDoor
