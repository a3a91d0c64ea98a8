import Derived.Test.YtnhphlmblenapaaGreatDoorA18
set_option linter.unusedVariables false
set_option linter.unusedSimpArgs false
set_option linter.unusedSectionVars false
open And renaming intro->Pa
open Array renaming replicate->Pb,getD_eq_getD_getElem?->Pd,getElem?_append_left->Pe,getElem?_toList->Pf
open Bool renaming and_eq_true->Pg,false_eq_true->Ph,not_eq_true'->Pi,and_true->Pj
open Int renaming toNat_natCast->Pk
open List renaming getElem?_eq_getElem->Pl,getElem?_eq_none->Pm,take_length->Pn,getElem_mem->Po,take_left->Pp,range'->Pq,range'_succ->Pr,length_set->Ps,mapM_cons->Pt
open Nat renaming sub_zero->Pu,zero_le->Pv,zero_add->Pw
open Option renaming getD_some->Px,getD_none->Py
namespace Go.Proofs.YtnhphlmblenapaaGreatDoor
open Go.RowKit
def d5(n0:Nat)(ρ:ac)(σ:LLV)(ρ':ac)(σ':LLV):Prop:=
 ∀(M:ao) (bm:List Nat) (tk:be) (pr:Prot) (n:Nat) (a:Act) (w:World),SRel M bm tk pr ρ σ n a w->
  ∃M' bm',SRel M' bm' tk pr ρ' σ' n a w/\∀M0 bm0 w0,bm0.length=n0->Later M0 bm0 pr w0 M bm w->Later M0 bm0 pr w0 M' bm' w
theorem d5.refl(n0:Nat)(ρ:ac)(σ:LLV):d5 n0 ρ σ ρ σ:=fun M bm _ _ _ _ _ h=>⟨M,bm,h,fun _ _ _ _ h=>h⟩
theorem d5.trans{n0:Nat}{ρ ρ' ρ'':ac}{σ σ' σ'':LLV}(h:d5 n0 ρ σ ρ' σ')(k:d5 n0 ρ' σ' ρ'' σ''):d5 n0 ρ σ ρ'' σ'':=fun M bm tk pr n a w hs=>by
 obtain⟨M1,b1,h1,h2⟩:=h M bm tk pr n a w hs;obtain⟨M2,b2,h3,h4⟩:=k M1 b1 tk pr n a w h1;exact⟨M2,b2,h3,fun M0 bm0 w0 e hl=>h4 M0 bm0 w0 e (h2 M0 bm0 w0 e hl)⟩
theorem d5.keep(n0:Nat)(l:List Nat)(ρ:ac)(σ:LLV):d5 n0 ρ σ (aG l ρ) σ:=fun M bm _ _ _ _ _ h=>⟨M,bm,h.keep l,fun _ _ _ _ h=>h⟩
theorem d5.cut{n0 k:Nat}{ρ:ac}{σ:LLV}(hk:n0≤k)(h1:ai k (σ.take k)=true)(h2:an k ρ=true):d5 n0 ρ σ ρ (σ.take k):=fun M bm _ _ _ _ _ h=>
 ⟨M,bm.take k,h.drop h1 h2,fun _ _ _ e hl=>hl.drop (by omega)⟩
section
variable {M : ao} {bm : List Nat} {tk : be} {pr : Prot} {ρ : ac} {σ : LLV} {n : Nat} {a : Act} {w : World} {k : Nat}
end
end Go.Proofs.YtnhphlmblenapaaGreatDoor
namespace Go.Proofs.YtnhphlmblenapaaGreatDoor
open Go.RowKit
inductive Cd where
 | skip
 | ops (l:List O) (keep:List Nat)
 | draw (l:List O) (keep:List Nat)
 | drawa (l:List O) (keep:List Nat)
 | draws (l:List O) (keep:List Nat)
 | drawg (l:List (O×GK)) (keep:List Nat)
 | drawt (p:AV) (l m:List O) (keep:List Nat)
 | drawp (l:List O) (x:X)
 | raw (l:List O) (es:List (List Nat)) (keep:List Nat)
 | seq (a b:Cd)
 | cond (x:X) (a b:Cd)
 | block (id:Nat) (a:Cd)
 | loop (a:Cd)
 | exit (id:Nat)
 | ret
abbrev ce:=AEx->ac->LLV->Prop
def andThen(next:ac->LLV->Prop)(Q:ce):ce:=fun e ρ σ=>match e with
 | .normal=>next ρ σ
 | e=>Q e ρ σ
def nI(id:Nat)(Q:ce):ce:=fun e ρ σ=>match e with
 | .exit j=>if j=id then Q .normal ρ σ else Q (.exit j) ρ σ
 | e=>Q e ρ σ
inductive Up:LLV->LLV->Prop
 | refl (σ:LLV):Up σ σ
 | step {σ σ':LLV} {i:Nat} {cs:List V} {off:Nat} (T:TypeId) (k:Nat) (h1:σ[i]? = some cs) (h2:cs[off]? = some .nil) (h:Up (σ.set i (cs.set off (.own T k []))) σ'):Up σ σ'
theorem SRel.nil_own{M:ao}{bm:List Nat}{tk:be}{pr:Prot}{ρ:ac}{σ:LLV}{n:Nat}{a:Act}{w:World}(h:SRel M bm tk pr ρ σ n a w){i:Nat}{cs:List V}{off:Nat}(T:TypeId)(k:Nat)(h1:σ[i]? = some cs)(h2:cs[off]? = some .nil):SRel M bm tk pr ρ (σ.set i (cs.set off (.own T k []))) n a w:=by
 refine⟨⟨h.inv.facts,by rw[Ps];exact h.inv.len,fun i' b cs' hi hc=>?_,h.inv.free,h.inv.bmnd,h.inv.tok,h.inv.inj,h.inv.prlt⟩,h.defers,h.size,h.slots⟩;by_cases e:i'=i
 .subst e;obtain⟨vs,T',g1,g2,g3⟩:=(h.inv.box i' b cs hi h1).resolve_right fun hb=>by rcases hb with⟨st,kv,es,clock,rfl,-⟩|⟨T,k,rfl,-⟩<;>cases off<;>simp[tyc]at h2
  have hl:i'<σ.length:=(List.getElem?_eq_some_iff.1 h1).1;rw[List.getElem?_set_self hl]at hc;cases hc;refine .inl ⟨vs,T',g1,by rw[Ps];exact g2,fun j hj hj'=>?_⟩;have hj0:j<cs.length:=by simpa using hj
  obtain⟨k1,k2⟩:=g3 j hj0 hj';by_cases e2:j=off
  .subst e2;have hn:cs[j]=.nil:=(List.getElem?_eq_some_iff.1 h2).2;rw[List.getElem_set_self];refine⟨?_,k2⟩;have hr:=k1.rep;rw[hn]at hr;generalize vs[j]=v at hr ⊢;cases hr;exact⟨.own (DRep.nil M),fun T2 k2 rows e=>by cases e;exact .inl ⟨rfl,rfl⟩⟩
  .rw[List.getElem_set_ne (Ne.symm e2)];exact⟨k1,k2⟩
 .rw[List.getElem?_set_ne (Ne.symm e)]at hc;exact h.inv.box i' b cs' hi hc
theorem SRel.up{M:ao}{bm:List Nat}{tk:be}{pr:Prot}{ρ:ac}{σ σ':LLV}{n:Nat}{a:Act}{w:World}(hu:Up σ σ')(h:SRel M bm tk pr ρ σ n a w):SRel M bm tk pr ρ σ' n a w:=by
 induction hu with
 | refl σ=>exact h
 | step T k h1 h2 _ ih=>exact ih (h.nil_own T k h1 h2)
theorem d5.up(n0:Nat)(ρ:ac){σ σ':LLV}(hu:Up σ σ'):d5 n0 ρ σ ρ σ':=fun M bm _ _ _ _ _ h=>⟨M,bm,h.up hu,fun _ _ _ _ h=>h⟩
def jH(C:Cx)(n0:Nat)(l:List O)(es:List (List Nat))(ρ:ac)(σ:LLV)(Q:ce):Prop:=
 ∀(pr:Prot) (M0:ao) (bm0:List Nat) (w0:World) (id:Nat) (ops:Array Oper) (n:Nat) (M:ao) (bm:List Nat) (tk:be) (a:Act) (w:World),C.glob M0 pr w0->bm0.length=n0->eX C.tab n ops l ops.toList=true->ops.toList.map aB=es->
  Later M0 bm0 pr w0 M bm w->SRel M bm tk pr ρ σ n a w->(Code.region id ops true).wp C.P (aY M0 bm0 pr w0 n Q) a w
def awp(C:Cx)(n0:Nat):Cd->ac->LLV->ce->Prop
 | .skip,ρ,σ,Q=>Q .normal ρ σ
 | .ops l keep,ρ,σ,Q=>bM C l ρ σ fun e ρ' σ'=>Q e (aG keep ρ') σ'
 | .draw l keep,ρ,σ,Q=>aQ C l ρ σ fun ρ'=>Q .normal (aG keep ρ') σ
 | .drawa l keep,ρ,σ,Q=>∃(c:Cell) (cs:List V),σ[c.i]? = some cs/\cs[c.off]? = some (.own c.T c.k c.rows)/\
  cM C c σ (σ.set c.i (cs.set c.off (.d (.sl c.rows)))) l ρ none fun ρ' rows2=>Q .normal (aG keep ρ') ((σ.set c.i (cs.set c.off (.d (.sl c.rows)))).set c.i (over (cs.set c.off (.d (.sl c.rows))) c.off [.own c.T c.k (c.rows++rows2)]))
 | .draws l keep,ρ,σ,Q=>gX C σ l ρ none fun ρ' σ'=>Q .normal (aG keep ρ') σ'
 | .drawg l keep,ρ,σ,Q=>eE C (fun u σ'=>∀ρ',Q (.panic u) (aG keep ρ') σ') (fun ρ' σ'=>Q .normal (aG keep ρ') σ') l 0 [] [] ρ σ
 | .drawp l x,ρ,σ,Q=>aQ C l ρ σ fun ρ'=>∃ty u,ev C ρ' x=.iface ty u/\∀ρ2,Q (.panic (.iface ty u)) ρ2 σ
 | .drawt p l m keep,ρ,σ,Q=>aQ C l ρ σ fun ρ1=>bM C (p.A::m) ρ1 σ (gnx fun ρ' σ'=>Q .normal (aG keep ρ') σ')
 | .raw l es keep,ρ,σ,Q=>jH C n0 l es ρ σ fun e ρ' σ'=>Q e (aG keep ρ') σ'
 | .seq a b,ρ,σ,Q=>awp C n0 a ρ σ (andThen (fun ρ' σ'=>awp C n0 b ρ' σ' Q) Q)
 | .cond x a b,ρ,σ,Q=>match ev C ρ x with
  | .d (.lit (.bool t))=>(t=true->awp C n0 a ρ σ Q)/\(t=false->awp C n0 b ρ σ Q)
  | _=>False
 | .block id a,ρ,σ,Q=>awp C n0 a ρ σ (nI id Q)
 | .loop a,ρ,σ,Q=>∃(ρ1:ac) (σ1:LLV),d5 n0 ρ σ ρ1 σ1/\∃I:Nat->ac->LLV->Prop,(∃m,I m ρ1 σ1)/\∀m ρ' σ',I m ρ' σ'->awp C n0 a ρ' σ' (andThen (fun ρ'' σ''=>∃m',m'<m/\∃ρ3 σ3,d5 n0 ρ'' σ'' ρ3 σ3/\I m' ρ3 σ3) Q)
 | .exit id,ρ,σ,Q=>Q (.exit id) ρ σ
 | .ret,ρ,σ,Q=>Q .ret ρ σ
def okC(tab:Tab)(n:Nat):Cd->Code->Bool
 | .skip,.skip=>true
 | .ops l _,.region _ ops false=>eX tab n ops l ops.toList
 | .draw l _,.region _ ops true=>eX tab n ops l ops.toList&&pW l ops.toList
 | .drawa l _,.region _ ops true=>eX tab n ops l ops.toList&&oq l ops.toList
 | .draws l _,.region _ ops true=>eX tab n ops l ops.toList&&oz l ops.toList
 | .drawg l _,.region _ ops true=>eX tab n ops (l.map (·.1)) ops.toList&&mm l ops.toList
 | .drawp l x,.region _ ops true=>eX tab n ops (l++[⟨none,.pan x,none⟩]) ops.toList&&(mq (l.length-1) 0 (l++[⟨none,.pan x,none⟩]) ops.toList&&decide (1≤l.length))
 | .drawt p l m _,.region _ ops true=>eX tab n ops (l++p.A::m) ops.toList&&mo l.length (l++p.A::m) ops.toList
 | .raw l es _,.region _ ops true=>eX tab n ops l ops.toList&&(ops.toList.map aB==es)
 | .seq a b,.seq a' b'=>okC tab n a a'&&okC tab n b b'
 | .cond x a b,.cond x' a' b'=>okX x x'&&okC tab n a a'&&okC tab n b b'
 | .block i a,.block i' a'=>i==i'&&okC tab n a a'
 | .loop a,.loop a'=>okC tab n a a'
 | .exit i,.exit i'=>i==i'
 | .ret,.ret=>true
 | _,_=>false
section
variable {C : Cx} {n0 n : Nat} {pr : Prot} {M0 : ao} {bm0 : List Nat} {w0 : World}
theorem aY.imp{M:ao}{bm:List Nat}{w:World}{Q Q':ce}{e:Exit}{a:Act}{w':World}(hq:∀x ρ σ,Q x ρ σ->Q' x ρ σ)(h:aY M bm pr w n Q e a w'):aY M bm pr w n Q' e a w':=by
 obtain⟨M',bm',tk',ρ',σ',x,h1,h2⟩:=h;exact⟨M',bm',tk',ρ',σ',x,hq _ _ _ h1,h2⟩
theorem aY.keep{M:ao}{bm:List Nat}{w:World}{Q:ce}{l:List Nat}{e:Exit}{a:Act}{w':World}(h:aY M bm pr w n (fun x ρ σ=>Q x (aG l ρ) σ) e a w'):aY M bm pr w n Q e a w':=by
 obtain⟨M',bm',tk',ρ',σ',x,h1,h2,h3,h4⟩:=h;exact⟨M',bm',tk',_,σ',x,h1,h2,h3.keep l,h4⟩
theorem kq(hG:C.glob M0 pr w0)(hn0:bm0.length=n0):∀{c:Cd} {c':Code} {M:ao} {bm:List Nat} {tk:be} {ρ:ac} {σ:LLV} {a:Act} {w:World} {Q:ce},okC C.tab n c c'=true->Later M0 bm0 pr w0 M bm w->SRel M bm tk pr ρ σ n a w->
 awp C n0 c ρ σ Q->c'.wp C.P (aY M0 bm0 pr w0 n Q) a w:=by
 intro c
 induction c with
 | skip=>
  intro c' M bm tk ρ σ a w Q hok hl h hq;cases c'<;>simp only[okC]at hok<;>first|(cases hok;done)|skip
  exact wp_skip ⟨M,bm,tk,ρ,σ,_,hq,.normal,h,hl⟩
 | ops l keep=>
  intro c' M bm tk ρ σ a w Q hok hl h hq;cases c' with
  | region id ops draw=>
   cases draw with
   | false=>
    have hok:eX C.tab n ops l ops.toList=true:=hok;exact wp_mono (wp_region_list (fh hG hok hl h hq)) (fun e a w hL=>aY.keep (l:=keep) hL)
   | true=>cases hok
  | _=>cases hok
 | draw l keep=>
  intro c' M bm tk ρ σ a w Q hok hl h hq;cases c' with
  | region id ops draw=>
   cases draw with
   | true=>
    have hok:(eX C.tab n ops l ops.toList&&pW l ops.toList)=true:=hok;simp only[Pg]at hok;exact wp_mono (u3 (Q:=fun x ρ σ=>Q x (aG keep ρ) σ) hG hok.1 hok.2 hl h hq) (fun e a w hL=>aY.keep (l:=keep) hL)
   | false=>cases hok
  | _=>cases hok
 | drawa l keep=>
  intro c' M bm tk ρ σ a w Q hok hl h hq;cases c' with
  | region id ops draw=>
   cases draw with
   | true=>
    have hok:(eX C.tab n ops l ops.toList&&oq l ops.toList)=true:=hok;simp only[Pg]at hok;obtain⟨c,cs,h1,h2,h3⟩:=hq;exact wp_mono (uD (Q:=fun x ρ σ=>Q x (aG keep ρ) σ) hG hok.1 hok.2 hl h h1 h2 h3) (fun e a w hL=>aY.keep (l:=keep) hL)
   | false=>cases hok
  | _=>cases hok
 | draws l keep=>
  intro c' M bm tk ρ σ a w Q hok hl h hq;cases c' with
  | region id ops draw=>
   cases draw with
   | true=>
    have hok:(eX C.tab n ops l ops.toList&&oz l ops.toList)=true:=hok;simp only[Pg]at hok;exact wp_mono (uG (Q:=fun x ρ σ=>Q x (aG keep ρ) σ) hG hok.1 hok.2 hl h hq) (fun e a w hL=>aY.keep (l:=keep) hL)
   | false=>cases hok
  | _=>cases hok
 | drawt p l m keep=>
  intro c' M bm tk ρ σ a w Q hok hl h hq;cases c' with
  | region id ops draw=>
   cases draw with
   | true=>
    have hok:(eX C.tab n ops (l++p.A::m) ops.toList&&mo l.length (l++p.A::m) ops.toList)=true:=hok;simp only[Pg]at hok;exact wp_mono (t7 (Q:=fun x ρ σ=>Q x (aG keep ρ) σ) hG hok.1 hok.2 hl h hq) (fun e a w hL=>aY.keep (l:=keep) hL)
   | false=>cases hok
  | _=>cases hok
 | drawp l x=>
  intro c' M bm tk ρ σ a w Q hok hl h hq;cases c' with
  | region id ops draw=>
   cases draw with
   | true=>
    have hok:(eX C.tab n ops (l++[⟨none,.pan x,none⟩]) ops.toList&&(mq (l.length-1) 0 (l++[⟨none,.pan x,none⟩]) ops.toList&&decide (1≤l.length)))=true:=hok;simp only[Pg,decide_eq_true_eq]at hok;exact uz hG hok.1 hok.2.1 hok.2.2 hl h hq
   | false=>cases hok
  | _=>cases hok
 | drawg l keep=>
  intro c' M bm tk ρ σ a w Q hok hl h hq;cases c' with
  | region id ops draw=>
   cases draw with
   | true=>
    have hok:(eX C.tab n ops (l.map (·.1)) ops.toList&&mm l ops.toList)=true:=hok;simp only[Pg]at hok;exact wp_mono (sV (Q:=fun x ρ σ=>Q x (aG keep ρ) σ) hG hok.1 hok.2 hl h hq) (fun e a w hL=>aY.keep (l:=keep) hL)
   | false=>cases hok
  | _=>cases hok
 | raw l es keep=>
  intro c' M bm tk ρ σ a w Q hok hl h hq;cases c' with
  | region id ops draw=>
   cases draw with
   | true=>
    have hok:(eX C.tab n ops l ops.toList&&(ops.toList.map aB==es))=true:=hok;simp only[Pg,beq_iff_eq]at hok;have hq:jH C n0 l es ρ σ fun e ρ' σ'=>Q e (aG keep ρ') σ':=hq;exact wp_mono (hq pr M0 bm0 w0 id ops n M bm tk a w hG hn0 hok.1 hok.2 hl h) (fun e a w hL=>aY.keep (l:=keep) hL)
   | false=>cases hok
  | _=>cases hok
 | seq x y ihx ihy=>
  intro c' M bm tk ρ σ a w Q hok hl h hq;cases c'<;>simp only[okC,Pg]at hok<;>first|(cases hok;done)|skip
  refine wp_seq (wp_mono (ihx hok.1 hl h hq) (fun e a' w' hL=>?_));obtain⟨M',bm',tk',ρ',σ',x,k1,k2,k3,k4⟩:=hL;cases k2 with
  | normal=>exact ihy hok.2 k4 k3 k1
  | ret=>exact⟨M',bm',tk',ρ',σ',_,k1,.ret,k3,k4⟩
  | exit id=>exact⟨M',bm',tk',ρ',σ',_,k1,.exit id,k3,k4⟩
  | panic hp=>exact⟨M',bm',tk',ρ',σ',_,k1,.panic hp,k3,k4⟩
 | cond x y z ihy ihz=>
  intro c' M bm tk ρ σ a w Q hok hl h hq;cases c'<;>simp only[okC,Pg]at hok<;>first|(cases hok;done)|skip
  have hx:=ay (hG.mono hl) h hok.1.1;simp only[awp]at hq;split at hq
  .rename_i t e;rw[e]at hx;have hv:=hx.bool_inv;cases t with
   | true=>exact wp_cond_true hv (ihy hok.1.2 hl h (hq.1 rfl))
   | false=>exact wp_cond_false hv (ihz hok.2 hl h (hq.2 rfl))
  .exact hq.elim
 | block id x ih=>
  intro c' M bm tk ρ σ a w Q hok hl h hq;cases c'<;>simp only[okC,Pg,beq_iff_eq]at hok<;>first|(cases hok;done)|skip
  obtain⟨rfl,hok⟩:=hok;refine wp_block (wp_mono (ih hok hl h hq) (fun e a' w' hL=>?_));obtain⟨M',bm',tk',ρ',σ',x,k1,k2,k3,k4⟩:=hL;cases k2 with
  | normal=>exact⟨M',bm',tk',ρ',σ',_,k1,.normal,k3,k4⟩
  | ret=>exact⟨M',bm',tk',ρ',σ',_,k1,.ret,k3,k4⟩
  | exit j=>
   simp only[nI]at k1;simp only[Exit.inBlock];split
   .rename_i e;rw[if_pos e]at k1;exact⟨M',bm',tk',ρ',σ',_,k1,.normal,k3,k4⟩
   .rename_i e;rw[if_neg e]at k1;exact⟨M',bm',tk',ρ',σ',_,k1,.exit j,k3,k4⟩
  | panic hp=>exact⟨M',bm',tk',ρ',σ',_,k1,.panic hp,k3,k4⟩
 | loop x ih=>
  intro c' M bm tk ρ σ a w Q hok hl h hq;cases c'<;>simp only[okC]at hok<;>first|(cases hok;done)|skip
  obtain⟨ρ1,σ1,hsh,I,⟨m,hm⟩,hI⟩:=hq;obtain⟨M1,bm1,h1,h2⟩:=hsh M bm tk pr n a w h;have hl1:=h2 M0 bm0 w0 hn0 hl;rename_i c';intro b k cs
  have key:∀(m:Nat) (M:ao) (bm:List Nat) (tk:be) (ρ:ac) (σ:LLV) (a:Act) (w:World),Later M0 bm0 pr w0 M bm w->SRel M bm tk pr ρ σ n a w->I m ρ σ->
   ∃e a' w',aY M0 bm0 pr w0 n Q e a' w'/\Arrives C.P (lone (b.at a (.code c'::.inLoop c'::k)) cs w) b k cs e a' w':=by
   intro m
   induction m using Nat.strongRecOn with
   | _ m ihm=>
   intro M bm tk ρ σ a w hl h hm;obtain⟨e,a₁,w₁,hq,harr⟩:=ih hok hl h (hI m ρ σ hm) b (.inLoop c'::k) cs;obtain⟨M',bm',tk',ρ',σ',x,k1,k2,k3,k4⟩:=hq;cases k2 with
   | normal=>
    obtain⟨m',hlt,ρ3,σ3,g1,g4⟩:=k1;obtain⟨M3,bm3,g2,g3⟩:=g1 M' bm' tk' pr n a₁ w₁ k3;obtain⟨e₂,a₂,w₂,hq₂,harr₂⟩:=ihm m' hlt M3 bm3 tk' ρ3 σ3 a₁ w₁ (g3 M0 bm0 w0 hn0 k4) g2 g4;exact⟨e₂,a₂,w₂,hq₂,.of_steps (Steps.trans harr (.one step_inLoop)) harr₂⟩
   | ret=>exact⟨_,a₁,w₁,⟨M',bm',tk',ρ',σ',_,k1,.ret,k3,k4⟩,.pass (x:=.inLoop c') rfl (fun _ _=>.inl (by simp)) harr⟩
   | exit id=>exact⟨_,a₁,w₁,⟨M',bm',tk',ρ',σ',_,k1,.exit id,k3,k4⟩,.pass (x:=.inLoop c') rfl (fun _ _=>.inl (by simp)) harr⟩
   | panic hp=>exact⟨_,a₁,w₁,⟨M',bm',tk',ρ',σ',_,k1,.panic hp,k3,k4⟩,.pass (x:=.inLoop c') rfl (fun _ _=>.inl (by simp)) harr⟩
  obtain⟨e,a',w',hq,harr⟩:=key m M1 bm1 tk _ σ1 a w hl1 h1 hm;exact⟨e,a',w',hq,.of_steps (.one step_loop) harr⟩
 | exit id=>
  intro c' M bm tk ρ σ a w Q hok hl h hq;cases c'<;>simp only[okC,beq_iff_eq]at hok<;>first|(cases hok;done)|skip
  subst hok;exact wp_exit ⟨M,bm,tk,ρ,σ,_,hq,.exit id,h,hl⟩
 | ret=>
  intro c' M bm tk ρ σ a w Q hok hl h hq;cases c'<;>simp only[okC]at hok<;>first|(cases hok;done)|skip
  exact wp_ret ⟨M,bm,tk,ρ,σ,_,hq,.ret,h,hl⟩
end
end Go.Proofs.YtnhphlmblenapaaGreatDoor
namespace Go.Proofs.YtnhphlmblenapaaGreatDoor
open Go.RowKit
inductive D.Wf:D->Prop
 | lit (v:Value) (h:c7 v):D.Wf (.lit v)
 | sl (rows:LLD) (hl:rows.length≤maxLen) (h:∀i j (hi:i<rows.length) (hj:j<rows[i].length),D.Wf rows[i][j]):D.Wf (.sl rows)
theorem DRep.wf{M:ao}{x:D}{v:Value}(h:DRep M x v):x.Wf:=by
 induction h with
 | lit v h=>exact .lit v h
 | sl rows k p cap val hk hd hf hc hm ih=>exact .sl rows (by omega) ih
inductive V.Wf:V->Prop
 | d {x:D} (h:x.Wf):V.Wf (.d x)
 | own {T k:Nat} {rows:LLD} (h:(D.sl rows).Wf):V.Wf (.own T k rows)
 | agg {cs:List V} (h:∀i (h:i<cs.length),V.Wf cs[i]):V.Wf (.agg cs)
 | nil:V.Wf .nil
 | tup (cs:List V):V.Wf (.tup cs)
 | ptr (i o:Nat):V.Wf (.ptr i o)
 | bsl (i o n k:Nat):V.Wf (.bsl i o n k)
 | row (cs:List D) (o:Nat):V.Wf (.row cs o)
 | fn (f:FuncId) (cs:List V):V.Wf (.fn f cs)
 | bnd (f:FuncId) (cs:List V):V.Wf (.bnd f cs)
 | iface (t:TypeId) (v:V):V.Wf (.iface t v)
 | mp (i:Nat):V.Wf (.mp i)
 | bsc (i n c:Nat):V.Wf (.bsc i n c)
 | junk:V.Wf .junk
theorem Rep.wf{M:ao}{bm:List Nat}{x:V}{v:Value}(h:Rep M bm x v):x.Wf:=by
 induction h with
 | d h=>exact .d h.wf
 | own h=>exact .own h.wf
 | nil=>exact .nil
 | agg hl h h1 ih=>exact .agg fun i hi=>ih i hi (by omega)
 | tup hl h ih=>exact .tup _
 | ptr h=>exact .ptr _ _
 | bsl h hc hm=>exact .bsl _ _ _ _
 | row val hf hd=>exact .row _ _
 | fn hl h ih=>exact .fn _ _
 | bnd hl h ih=>exact .bnd _ _
 | iface h ih=>exact .iface _ _
 | mp h=>exact .mp _
 | bsc h hc hm=>exact .bsc _ _ _
 | junk v=>exact .junk
inductive RV where
 | t (n:Nat) (own:Bool)
 | c (n k:Nat) (ag:Bool)
def bc(σ:LLV)(ρ:ac):RV->Option V
 | .t n true=>some (get ρ n)
 | .t n false=>some (get ρ n).lend
 | .c n k ag=>(fI σ k ag (get ρ n)).map V.lend
def cv(σ:LLV)(ρ:ac):List RV->Option (List V)
 | []=>some []
 | r::rs=>match bc σ ρ r,cv σ ρ rs with|some v,some l=>some (v.lend::l)|_,_=>none
def aL(σ:LLV)(ρ:ac):List RV->Option V
 | [r]=>bc σ ρ r
 | rs=>(cv σ ρ rs).map V.tup
def Jh(tab:Tab):RV->ResultVar->Bool
 | .t n _,.tmp m=>n==m
 | .c n k ag,.cell m t=>n==m&&(match tab t with|some i=>i.sz==k&&i.agg==ag|none=>false)
 | _,_=>false
def lP(tab:Tab):List RV->List ResultVar->Bool
 | [],[]=>true
 | r::rs,r'::rs'=>Jh tab r r'&&lP tab rs rs'
 | _,_=>false
def aP(tab:Tab)(fn:Func)(m:Nat)(c:Cd)(rs:List RV):Bool:=
 (match fn.body with|some b=>okC tab fn.ntmps c b|none=>false)&&lP tab rs fn.results.toList&&decide (m≤fn.ntmps) && !(fn.name == "runtime.NumGoroutine")
def fin(n0:Nat)(rs:List RV)(Q:Out->LLV->Prop):ce:=fun e ρ σ'=>match e with
 | .normal=>∃ρ2 σ2,d5 n0 ρ σ' ρ2 σ2/\∃v,aL σ2 ρ2 rs=some v/\∃k,n0≤k/\ai k (σ2.take k)=true/\V.under k v=true/\Q (.ret v) (σ2.take k)
 | .ret=>∃ρ2 σ2,d5 n0 ρ σ' ρ2 σ2/\∃v,aL σ2 ρ2 rs=some v/\∃k,n0≤k/\ai k (σ2.take k)=true/\V.under k v=true/\Q (.ret v) (σ2.take k)
 | .panic v=>∃k,n0≤k/\ai k (σ'.take k)=true/\V.under k v=true/\Q (.panic v) (σ'.take k)
 | .exit _=>False
def eF:Nat->List V->ac
 | _,[]=>[]
 | i,v::r=>(i,v)::eF (i+1) r
def F2(tmps:Array Value):ResultVar->Sem Value
 | .tmp t=>pure (tmps.getD t undef)
 | .cell a t=>do loadVar t (<-asAddr (tmps.getD a undef))
theorem qi(fn:Func)(tmps:Array Value):results fn tmps=(do
 let vs <-fn.results.mapM (F2 tmps)
 pure (if h:vs.size=1 then vs[0]else .tuple vs)):=by
 unfold results;congr 1
section
variable {C : Cx} {M : ao} {bm : List Nat} {tk : be} {pr : Prot} {ρ : ac} {σ : LLV} {n : Nat} {a : Act} {w : World}
theorem qc(h:SRel M bm tk pr ρ σ n a w){r:RV}{r':ResultVar}(hok:Jh C.tab r r'=true){x:V}(hx:bc σ ρ r=some x):
 ∃v,(F2 a.tmps r').run C.P w=.ok v w/\∃t,CellOK M bm w x v t/\(t=none\/∃s,t=tk none s):=by
 unfold Jh at hok;split at hok
 .rename_i m own m';simp only[beq_iff_eq]at hok;subst hok;cases own with
  | true=>cases hx;exact⟨_,rfl,_,h.slots m,.inr ⟨m,rfl⟩⟩
  | false=>cases hx;exact⟨_,rfl,none,⟨(h.slots m).rep.lend,fun _ _ _ e=>absurd e V.lend_own⟩,.inl rfl⟩
 .rename_i m k ag m' t;simp only[Pg,beq_iff_eq]at hok;obtain⟨rfl,h2⟩:=hok;split at h2
  .rename_i i hi;simp only[Pg,beq_iff_eq]at h2;obtain⟨rfl,rfl⟩:=h2;obtain⟨y,hy,rfl⟩:=Option.map_eq_some_iff.1 hx;obtain⟨v,h3,h4,h5⟩:=oK h.inv hi hy (h.slots m).rep;refine⟨v,?_,none,⟨h4.lend,fun _ _ _ e=>absurd e V.lend_own⟩,.inl rfl⟩
   have hptr:∃ad,a.tmps.getD m undef=.pointer (some ad):=by
    have hr:=(h.slots m).rep;unfold fI at hy;obtain⟨cs,hcs,-⟩:=Option.bind_eq_some_iff.1 hy;obtain⟨ad,vs,e,-⟩:=nz h.inv hcs hr;exact⟨ad,e⟩
   obtain⟨ad,e⟩:=hptr;simp only[F2];rw[e]at h3 ⊢;simpa[Instr.loadAt,Instr.sureAddr,asAddr]using h3
  .cases h2
 .cases hok
theorem p3(h:SRel M bm tk pr ρ σ n a w):∀{rs:List RV} {rs':List ResultVar} {xs:List V},lP C.tab rs rs'=true->cv σ ρ rs=some xs->
 ∃vs:List Value,(rs'.mapM (F2 a.tmps)).run C.P w=.ok vs w/\vs.length=xs.length/\rs'.length=xs.length/\∀i (h:i<xs.length) (h':i<vs.length),Rep M bm xs[i] vs[i]
 | [],[],xs,_,hx=>by cases hx;exact⟨[],rfl,rfl,rfl,fun i h=>by simp at h⟩
 | r::rs,r'::rs',xs,hok,hx=>by
  simp only[lP,Pg]at hok;simp only[cv]at hx;split at hx
  .rename_i v l hv hl;cases hx;obtain⟨u,g1,t,g2,-⟩:=qc h hok.1 hv;obtain⟨vs,k1,k2,k3,k4⟩:=p3 h hok.2 hl;refine⟨u::vs,?_,by simp[k2],by simp[k3],fun i h1 h2=>?_⟩
   .rw[Pt,Sem.run_bind,g1,Result.andThen_ok,Sem.run_bind,k1];rfl
   .cases i with
    | zero=>exact g2.rep.lend
    | succ i=>exact k4 i (by simpa using h1) (by simpa using h2)
  .cases hx
 | [],_::_,_,hok,_=>by cases hok
 | _::_,[],_,hok,_=>by cases hok
theorem o7(h:SRel M bm tk pr ρ σ n a w){rs:List RV}{fn:Func}{x:V}(hok:lP C.tab rs fn.results.toList=true)(hx:aL σ ρ rs=some x):
 ∃v,(results fn a.tmps).run C.P w=.ok v w/\∃t,CellOK M bm w x v t/\(t=none\/∃s,t=tk none s):=by
 rw[qi,Array.mapM_eq_mapM_toList];unfold aL at hx;split at hx
 .rename_i r
  match hrs:fn.results.toList,hok with
  | [r'],hok=>
   simp only[lP,Pj]at hok;obtain⟨v,g1,g2⟩:=qc h hok hx;refine⟨v,?_,g2⟩;simp only[Pt,List.mapM_nil,Sem.run_bind,Sem.run_map,g1,Result.andThen_ok,Sem.run_pure];rfl
  | [],hok=>cases hok
  | _::_::_,hok=>simp[lP]at hok
 .rename_i hne;obtain⟨xs,hxs,rfl⟩:=Option.map_eq_some_iff.1 hx;obtain⟨vs,k1,k2,k3,k4⟩:=p3 h hok hxs;refine⟨.tuple vs.toArray,?_,none,⟨.tup k2 k4,fun _ _ _ e=>by cases e⟩,.inl rfl⟩;simp only[Sem.run_bind,Sem.run_map,k1,Result.andThen_ok,Sem.run_pure]
  have hl:¬vs.toArray.size=1:=by
   intro e;have:fn.results.toList.length=1:=by rw[k3,<-k2];simpa using e
   match rs,hne,hok with
   | [],_,hok=>match hrs:fn.results.toList,hok with | [],_=>rw[hrs]at this;cases this
   | [r],hne,_=>exact hne r rfl
   | _::_::_,_,hok=>match hrs:fn.results.toList,hok with
    | [_],hok=>simp[lP]at hok
    | _::_::_,_=>rw[hrs]at this;simp at this
  rw[dif_neg hl]
theorem iP:∀(args:List V) (i t:Nat),get (eF i args) t=if i≤t then(args[t-i]?).getD .junk else .junk
 | [],i,t=>by simp[eF,get]
 | v::r,i,t=>by
  simp only[eF,get];split
  .rename_i e;subst e;simp
  .rename_i e;rw[iP r (i+1) t];by_cases h:i≤t
   .rw[if_pos (by omega),if_pos h,show t-i=(t-(i+1))+1 by omega];rfl
   .rw[if_neg (by omega),if_neg h]
theorem bE{P:Program}{f:FuncId}{fn:Func}(hf:P.funcs[f]? = some fn)(hn:(fn.name == "runtime.NumGoroutine")=false)(hb:fn.body.isNone=false):
 ∀args w,(callFunc f args).run P w=.ok (.enter f args) w:=fun args w=>by
 have h1:fn.name ≠ "runtime.NumGoroutine" := by simpa using hn
 have h2:fn.body≠none:=fun h=>by rw[h]at hb;cases hb
 simp[callFunc,hf,h1,h2]
theorem zZ{f:FuncId}{fn:Func}{c:Cd}{rs:List RV}{args:List V}{Q:Out->LLV->Prop}(hf:C.P.funcs[f]? = some fn)(hok:aP C.tab fn args.length c rs=true)
 (h:ai σ.length σ=true->(∀i (h:i<args.length),V.Wf args[i])->awp C σ.length c (eF 0 args) σ (fin σ.length rs Q)):
 (∀as w,(callFunc f as).run C.P w=.ok (.enter f as) w)/\
 ∀(M:ao) (bm:List Nat) (tk:be) (pr:Nat->Prop) (w:World) (vs:List Value),C.glob M pr w->Inv M bm σ tk pr w->vs.length=args.length->(∀i (h:i<args.length) (h':i<vs.length),CellOK M bm w args[i] vs[i] (tk none i))->
  Calls C.P f vs.toArray w fun e w'=>∃M' bm' tk' σ' o,Q o σ'/\Inv M' bm' σ' tk' pr w'/\Later M bm pr w M' bm' w'/\OutOK M' bm' w' tk' o e:=by
 unfold aP at hok;simp only[Pg,decide_eq_true_eq,Pi]at hok;obtain⟨⟨⟨h1,h2⟩,h3⟩,h4⟩:=hok;cases hb:fn.body with
 | none=>rw[hb]at h1;cases h1
 | some body=>
 rw[hb]at h1;refine⟨bE hf h4 (by rw[hb];rfl),fun M bm tk pr0 w vs hG hI hl hr=>?_⟩;obtain⟨pr,rfl,hds⟩:∃pr:Prot,pr.p=pr0/\pr.ds=[]:=⟨⟨pr0,[]⟩,rfl,rfl⟩
 have hq:=h hI.under (fun i hi=>(hr i hi (by omega)).rep.wf);refine calls_of_wp hf hb ?_
 have hs:SRel M bm tk pr (eF 0 args) σ fn.ntmps {tmps:=vs.toArray++Pb (fn.ntmps-vs.toArray.size) undef,defers:=[]} w:=by
  refine⟨hI,hds.symm,by simp;omega,fun t=>?_⟩;rw[iP,if_pos (Pv _),Pu];by_cases hlt:t<args.length
  .rw[Pl hlt,Px]
   have hv:(vs.toArray++Pb (fn.ntmps-vs.toArray.size) undef).getD t undef=vs[t]'(by omega):=by
    rw[Pd,Pe (by simp;omega)];simp[show t<vs.length by omega]
   rw[hv];exact hr t hlt (by omega)
  .rw[Pm (by omega),Py];exact CellOK.junk ..
 refine wp_mono (kq hG hI.len h1 (Later.refl M bm pr w) hs hq) (fun e a' w' hL=>?_);obtain⟨M',bm',tk',ρ',σ',x,k1,k2,k3,k4⟩:=hL
 have cut:∀{M':ao} {bm':List Nat} {ρ':ac} {σ':LLV} {k:Nat} (o:Option Nat),SRel M' bm' tk' pr ρ' σ' fn.ntmps a' w'->Later M bm pr w M' bm' w'->σ.length≤k->ai k (σ'.take k)=true->(o=none\/∃s,o=tk' none s)->
  Inv M' (bm'.take k) (σ'.take k) (fun i j=>match i with|none=>if j=0 then o else none|some i=>tk' (some i) j) pr w'/\Later M bm pr w M' (bm'.take k) w':=by
  intro M' bm' ρ' σ' k o k3 k4 hk hbk ho;have hd:=k3.inv.drop hbk;refine⟨⟨hd.facts,hd.len,hd.box,hd.free,hd.bmnd,fun i j g hg=>?_,fun i j i' j' g g1 g2=>?_,hd.prlt⟩,k4.drop (by rw[hI.len];exact hk)⟩
  .cases i with
   | some i=>exact hd.tok _ _ _ hg
   | none=>
    simp only at hg;split at hg
    .rcases ho with rfl|⟨s,rfl⟩
     .cases hg
     .exact hd.tok _ _ _ hg
    .cases hg
  .cases i with
   | some i=>cases i' with
    | some i'=>exact hd.inj _ _ _ _ _ g1 g2
    | none=>
     simp only at g2;split at g2
     .rcases ho with rfl|⟨s,rfl⟩
      .cases g2
      .have:=hd.inj _ _ _ _ _ g1 g2;simp at this
     .cases g2
   | none=>cases i' with
    | some i'=>
     simp only at g1;split at g1
     .rcases ho with rfl|⟨s,rfl⟩
      .cases g1
      .have:=hd.inj _ _ _ _ _ g1 g2;simp at this
     .cases g1
    | none=>
     simp only at g1 g2;split at g1
     .split at g2
      .exact⟨rfl,by omega⟩
      .cases g2
     .cases g1
 have ret:∀ρ2 σ2,d5 σ.length ρ' σ' ρ2 σ2->∀v,aL σ2 ρ2 rs=some v->(∃k,σ.length≤k/\ai k (σ2.take k)=true/\V.under k v=true/\Q (.ret v) (σ2.take k))->
  a'.defers=[]/\∃u,(results fn a'.tmps).run C.P w'=.ok u w'/\∃M' bm' tk' σ' o,Q o σ'/\Inv M' bm' σ' tk' pr w'/\Later M bm pr w M' bm' w'/\OutOK M' bm' w' tk' o (.returned u):=by
  rintro ρ2 σ2 hsh v hv ⟨k,g1,g2,g3,g4⟩;obtain⟨M2,bm2,s1,s2⟩:=hsh M' bm' tk' pr fn.ntmps a' w' k3;obtain⟨u,r1,t,r2,r3⟩:=o7 s1 h2 hv;obtain⟨c1,c2⟩:=cut t s1 (s2 M bm w hI.len k4) g1 g2 r3;refine⟨k3.defers.trans hds,u,r1,M2,bm2.take k,_,σ2.take k,.ret v,g4,c1,c2,fun v' e=>?_,fun v' e=>by cases e⟩;cases e;exact⟨u,rfl,r2.rep.drop g3,by simpa using r2.own⟩
 cases k2 with
 | normal=>obtain⟨ρ2,σ2,g0,v,g1,g2⟩:=k1;exact ret ρ2 σ2 g0 v g1 g2
 | ret=>obtain⟨ρ2,σ2,g0,v,g1,g2⟩:=k1;exact ret ρ2 σ2 g0 v g1 g2
 | exit id=>exact k1.elim
 | panic hp=>
  obtain⟨k,g1,g2,g3,g4⟩:=k1;obtain⟨c1,c2⟩:=cut none k3 k4 g1 g2 (.inl rfl);exact⟨k3.defers.trans hds,M',bm'.take k,_,σ'.take k,_,g4,c1,c2,(fun v' e=>by cases e),fun v' e=>by cases e;exact⟨_,rfl,hp.drop g3⟩⟩
theorem zY{f:FuncId}{fn:Func}{c:Cd}{rs:List RV}{args:List V}{Q:Out->LLV->Prop}(hf:C.P.funcs[f]? = some fn)(hok:aP C.tab fn args.length c rs=true)(hno:args.all (! ·.isOwn)=true)
 (h:ai σ.length σ=true->(∀i (h:i<args.length),V.Wf args[i])->awp C σ.length c (eF 0 args) σ (fin σ.length rs Q)):Fun C f args σ Q:=by
 obtain⟨h1,h2⟩:=zZ hf hok h;refine⟨h1,fun M bm tk pr w vs hG hI _ hl hr=>h2 M bm tk pr w vs hG hI hl fun i g1 g2=>⟨hr i g1 g2,fun T k rows e=>?_⟩⟩;have:=List.all_eq_true.1 hno args[i] (Po g1);rw[e]at this;cases this
end
end Go.Proofs.YtnhphlmblenapaaGreatDoor
namespace Go.Proofs.YtnhphlmblenapaaGreatDoor
open Go.RowKit
inductive Tag{α:Type}(a:α):Type where
 | mk
def bq(o:Option V)(f:V->Prop)(_:Tag f):Prop:=match o with|some v=>f v|none=>False
theorem Bn(v:V)(f:V->Prop)(t:Tag f):bq (some v) f t=f v:=rfl
def fnT(v:V)(f:FuncId->List V->Prop)(_:Tag f):Prop:=match v with | .fn g cap=>f g cap|_=>False
theorem HM(g:FuncId)(cap:List V)(f:FuncId->List V->Prop)(t:Tag f):fnT (.fn g cap) f t=f g cap:=rfl
def Gs(v:V)(as:List V)(f:FuncId->List V->Prop)(_:Tag f):Prop:=match v with | .fn g cap=>f g (as++cap) | .bnd g first=>f g (first++as)|_=>False
theorem Fq(g:FuncId)(cap as:List V)(f:FuncId->List V->Prop)(t:Tag f):Gs (.fn g cap) as f t=f g (as++cap):=rfl
theorem Dp(g:FuncId)(first as:List V)(f:FuncId->List V->Prop)(t:Tag f):Gs (.bnd g first) as f t=f g (first++as):=rfl
def tT(v:V)(f:Nat->Nat->Prop)(_:Tag f):Prop:=match v with | .ptr i o=>f i o|_=>False
theorem C7(i o:Nat)(f:Nat->Nat->Prop)(t:Tag f):tT (.ptr i o) f t=f i o:=rfl
def uP(v:V)(f:Nat->Nat->LLD->Prop)(_:Tag f):Prop:=match v with | .own T k rows=>f T k rows|_=>False
theorem Ey(T k:Nat)(rows:LLD)(f:Nat->Nat->LLD->Prop)(t:Tag f):uP (.own T k rows) f t=f T k rows:=rfl
def ifT(v:V)(f:Nat->V->Prop)(_:Tag f):Prop:=match v with | .iface t v=>f t v|_=>False
theorem yM(ty:Nat)(v:V)(f:Nat->V->Prop)(t:Tag f):ifT (.iface ty v) f t=f ty v:=rfl
def bxT(o:Option (List V))(f:List V->Prop)(_:Tag f):Prop:=match o with|some cs=>f cs|none=>False
theorem BO(cs:List V)(f:List V->Prop)(t:Tag f):bxT (some cs) f t=f cs:=rfl
def rwT(o:Option LLD)(f:LLD->Prop)(_:Tag f):Prop:=match o with|some rows=>f rows|none=>False
theorem BD(rows:LLD)(f:LLD->Prop)(t:Tag f):rwT (some rows) f t=f rows:=rfl
def GW(v:V)(f:Bool->Prop)(_:Tag f):Prop:=match v with | .d (.lit (.bool c))=>f c|_=>False
theorem wz(c:Bool)(f:Bool->Prop)(t:Tag f):GW (.d (.lit (.bool c))) f t=f c:=rfl
def qC(v:V)(f:Bool->Prop)(u:Unit->Prop)(_:Tag f)(_:Tag u):Prop:=match v with
 | .d (.lit (.bool c))=>f c
 | .tup []=>u ()
 | _=>False
theorem uZ(c:Bool)(f:Bool->Prop)(u:Unit->Prop)(s:Tag f)(t:Tag u):qC (.d (.lit (.bool c))) f u s t=f c:=rfl
theorem DH(f:Bool->Prop)(u:Unit->Prop)(s:Tag f)(t:Tag u):qC (.tup []) f u s t=u ():=rfl
def qo(c:Bool)(A B:Unit->Prop)(_:Tag A)(_:Tag B):Prop:=(c=true->A ())/\(c=false->B ())
theorem Bd(A B:Unit->Prop)(s:Tag A)(t:Tag B):qo true A B s t=A ():=by simp[qo]
theorem ww(A B:Unit->Prop)(s:Tag A)(t:Tag B):qo false A B s t=B ():=by simp[qo]
theorem cA{c:Bool}{A B:Unit->Prop}{s:Tag A}{t:Tag B}(h1:c=true->A ())(h2:c=false->B ()):qo c A B s t:=⟨h1,h2⟩
theorem Fw(b:Bool):(b==true)=b:=by cases b<;>rfl
theorem Bp(b:Bool):(b==false) = !b:=by cases b<;>rfl
def onT(p:Prop)(A:Unit->Prop)(_:Tag A):Prop:=p/\A ()
theorem aU{p:Prop}{A:Unit->Prop}{t:Tag A}(h1:p)(h2:A ()):onT p A t:=⟨h1,h2⟩
theorem CB(A:Unit->Prop)(t:Tag A):onT True A t=A ():=by simp[onT]
def d7(C:Cx)(n0:Nat)(c:Cd)(ρ:ac)(σ:LLV)(Q:ce)(_:Tag Q):Prop:=awp C n0 c ρ σ Q
def aR(C:Cx)(l:List O)(ρ:ac)(σ:LLV)(Q:ce)(_:Tag Q):Prop:=bM C l ρ σ Q
def bt(C:Cx)(l:List O)(ρ:ac)(σ:LLV)(K:ac->Prop)(_:Tag K):Prop:=aQ C l ρ σ K
def C4(K:V->LLV->Prop)(P:V->LLV->Prop):Out->LLV->Prop:=fun o σ'=>match o with
 | .ret v=>K v σ'
 | .panic v=>P v σ'
def iq(C:Cx)(f:FuncId)(args:List V)(σ:LLV)(K:V->LLV->Prop)(P:V->LLV->Prop)(_:Tag K)(_:Tag P):Prop:=Fun C f args σ (C4 K P)
def CU(C:Cx)(f:FuncId)(args:List V)(σ:LLV)(k:V->Prop)(_:Tag k):Prop:=∃v,Fun C f args σ (fun o σ'=>o=.ret v/\σ'=σ)/\k v
def bF(C:Cx)(c:Cell)(σ σ2:LLV)(l:List O)(ρ:ac)(acc:Option LLD)(K:ac->LLD->Prop)(_:Tag K):Prop:=cM C c σ σ2 l ρ acc K
def I9(x:V)(k:Int->Prop)(_:Tag k):Prop:=match x with
 | .d (.lit (.int _ n))=>k n
 | _=>False
theorem DS(kd:IntKind)(n:Int){k:Int->Prop}(t:Tag k):I9 (.d (.lit (.int kd n))) k t=k n:=rfl
def stT(C:Cx)(l:List O)(ρ:ac)(σ:LLV)(acc:Option LLV)(K:ac->LLV->Prop)(_:Tag K):Prop:=gX C σ l ρ acc K
def Db(C:Cx)(f:FuncId)(args:List V)(σ σ2:LLV)(k:V->Prop)(_:Tag k):Prop:=∃v,Fun C f args σ (fun o σ'=>o=.ret v/\σ'=σ)/\Fun C f args σ2 (fun o σ'=>o=.ret v/\σ'=σ2)/\k v
def Ca(C:Cx)(l:List O)(ρ:ac)(σ:LLV)(K:ac->LLV->Prop)(_:Tag K):Prop:=
 ∃(c:Cell) (cs:List V),σ[c.i]? = some cs/\cs[c.off]? = some (.own c.T c.k c.rows)/\
  cM C c σ (σ.set c.i (cs.set c.off (.d (.sl c.rows)))) l ρ none fun ρ' rows2=>K ρ' ((σ.set c.i (cs.set c.off (.d (.sl c.rows)))).set c.i (over (cs.set c.off (.d (.sl c.rows))) c.off [.own c.T c.k (c.rows++rows2)]))
def D9(P:Program):Tab:=fun t=>
 match P.underlying t,P.info? t with
 | some d,some i=>match i.zero with
  | some z=>if z.cells.size=i.size then some ⟨d,i.size,i.bytes,z⟩else none
  | none=>none
 | _,_=>none
theorem DJ(P:Program):nC P (D9 P):=by
 intro t i h;unfold D9 at h;split at h
 .rename_i d inf h1 h2;split at h
  .rename_i z hz;split at h
   .rename_i hs;cases h;exact⟨h1,inf,h2,rfl,rfl,hz,hs⟩
   .cases h
  .cases h
 .cases h
def cxk(P:Program)(gl:Nat->Option (List D))(kp:Nat->Option (Array Value->Prop))(h:P.follows .mixedOrders=true):Cx:=⟨P,D9 P,gl,kp,DJ P,h,fun t=>!P.stoodInHeld t && !P.eqGuardType P.depth t,fun t ht=>by simpa using ht⟩
section
variable {C : Cx} {ρ : ac} {σ σ2 : LLV} {Q : ce} {K : ac -> Prop} {KA : ac -> LLD -> Prop} {cc : Cell} {acc : Option LLD} {KN : ac -> List V -> Prop} {cn : List V} {accn : Option (List V)} {KS : ac -> LLV -> Prop} {accs : Option LLV} {n0 : Nat}
theorem Ny(n:Nat):ev C ρ (.t n)=get ρ n:=rfl
theorem Oi(v:V):ev C ρ (.k v)=v:=rfl
theorem BS(s:Nat)(u:V)(r:ac)(t:Nat):get ((s,u)::r) t=if s=t then u else get r t:=rfl
theorem EN(t:Nat):get [] t=.junk:=rfl
theorem Cs(s:Nat)(u:V)(r:ac)(t:Nat)(v:V):put ((s,u)::r) t v=if t<s then(t,v)::(s,u)::r else if t=s then(t,v)::r else(s,u)::put r t v:=rfl
theorem Fv(t:Nat)(v:V):put [] t v=[(t,v)]:=rfl
theorem A4(t:Nat)(v:V):putd ρ (some t) v=put ρ t v:=rfl
theorem yO(v:V):putd ρ none v=ρ:=rfl
theorem so(l:List Nat):aG l []=[]:=rfl
theorem qr(l:List Nat)(s:Nat)(u:V)(r:ac):aG l ((s,u)::r)=if l.contains s=true then(s,u)::aG l r else aG l r:=by
 unfold aG;rw[List.filter_cons]
theorem Nx(x:X)(d:Option Nat)(r:List O)(t:Tag Q):aR C (⟨d,.mv x,none⟩::r) ρ σ Q t=aR C r (putd ρ d (ev C ρ x).copy) σ Q .mk:=rfl
theorem OQ(x:X)(d:Option Nat)(r:List O)(t:Tag K):bt C (⟨d,.mv x,none⟩::r) ρ σ K t=bt C r (putd ρ d (ev C ρ x).copy) σ K .mk:=rfl
theorem Ig(x y z:X)(d:Option Nat)(r:List O)(t:Tag Q):aR C (⟨d,.pick x y z,none⟩::r) ρ σ Q t=bq (iJ (ev C ρ x) (ev C ρ y) (ev C ρ z)) (fun v=>aR C r (putd ρ d v) σ Q .mk) .mk:=rfl
theorem Hf(x y z:X)(d:Option Nat)(r:List O)(t:Tag K):bt C (⟨d,.pick x y z,none⟩::r) ρ σ K t=bq (iJ (ev C ρ x) (ev C ρ y) (ev C ρ z)) (fun v=>bt C r (putd ρ d v) σ K .mk) .mk:=by
 unfold bt bq;simp only[aQ,aN,ba,pv];cases iJ (ev C ρ x) (ev C ρ y) (ev C ρ z)<;>rfl
theorem Lf(o:BinOp)(x y:X)(d:Option Nat)(r:List O)(t:Tag Q):aR C (⟨d,.bin o x y,none⟩::r) ρ σ Q t=bq (co o (ev C ρ x) (ev C ρ y)) (fun v=>aR C r (putd ρ d v) σ Q .mk) .mk:=rfl
theorem Mx(o:BinOp)(x y:X)(d:Option Nat)(r:List O)(t:Tag K):bt C (⟨d,.bin o x y,none⟩::r) ρ σ K t=bq (co o (ev C ρ x) (ev C ρ y)) (fun v=>bt C r (putd ρ d v) σ K .mk) .mk:=by
 unfold bt bq;simp only[aQ,aN,ba,pv];cases co o (ev C ρ x) (ev C ρ y)<;>rfl
theorem Lr(neq:Bool)(T:TypeId)(ks:List Kd)(x y:X)(d:Option Nat)(r:List O)(t:Tag Q):aR C (⟨d,.eqa neq T ks x y,none⟩::r) ρ σ Q t=onT (C.eqs T=true) (fun _=>bq (iY neq ks (ev C ρ x) (ev C ρ y)) (fun v=>aR C r (putd ρ d v) σ Q .mk) .mk) .mk:=by
 unfold aR bq onT;by_cases h:C.eqs T=true
 .simp only[bM,cw,ba,pv,h,if_true,true_and];cases iY neq ks (ev C ρ x) (ev C ρ y)<;>simp
 .simp only[bM,cw,ba,pv,if_neg h];simp[h]
theorem LN(neq:Bool)(x:X)(d:Option Nat)(r:List O)(t:Tag Q):aR C (⟨d,.nif neq x,none⟩::r) ρ σ Q t=bq (sa neq (ev C ρ x)) (fun v=>aR C r (putd ρ d v) σ Q .mk) .mk:=by
 unfold aR bq;simp only[bM,cw,ba,pv];cases sa neq (ev C ρ x)<;>simp
theorem Iy(f:FuncId)(first:List X)(d:Option Nat)(r:List O)(t:Tag Q):aR C (⟨d,.mkbd f first,none⟩::r) ρ σ Q t=aR C r (putd ρ d (.bnd f (first.map (ev C ρ)))) σ Q .mk:=rfl
theorem LP(neq:Bool)(T:TypeId)(ks:List Kd)(x y:X)(d:Option Nat)(r:List O)(t:Tag K):bt C (⟨d,.eqa neq T ks x y,none⟩::r) ρ σ K t=onT (C.eqs T=true) (fun _=>bq (iY neq ks (ev C ρ x) (ev C ρ y)) (fun v=>bt C r (putd ρ d v) σ K .mk) .mk) .mk:=by
 unfold bt bq onT;by_cases h:C.eqs T=true
 .simp only[aQ,aN,ba,pv,h,if_true,true_and];cases iY neq ks (ev C ρ x) (ev C ρ y)<;>simp
 .simp only[aQ,aN,ba,pv,if_neg h];simp[h]
theorem NS(o:UnOp)(x:X)(d:Option Nat)(r:List O)(t:Tag Q):aR C (⟨d,.un o x,none⟩::r) ρ σ Q t=bq (unV o (ev C ρ x)) (fun v=>aR C r (putd ρ d v) σ Q .mk) .mk:=rfl
theorem Ok(o:UnOp)(x:X)(d:Option Nat)(r:List O)(t:Tag K):bt C (⟨d,.un o x,none⟩::r) ρ σ K t=bq (unV o (ev C ρ x)) (fun v=>bt C r (putd ρ d v) σ K .mk) .mk:=by
 unfold bt bq;simp only[aQ,aN,ba,pv];cases unV o (ev C ρ x)<;>rfl
theorem Ie(kd:IntKind)(x:X)(d:Option Nat)(r:List O)(t:Tag Q):aR C (⟨d,.conv kd x,none⟩::r) ρ σ Q t=bq (rq kd (ev C ρ x)) (fun v=>aR C r (putd ρ d v) σ Q .mk) .mk:=rfl
theorem E1(x:X)(d:Option Nat)(r:List O)(t:Tag Q):aR C (⟨d,.nilck x,none⟩::r) ρ σ Q t=bq (gi (ev C ρ x)) (fun v=>aR C r (putd ρ d v) σ Q .mk) .mk:=rfl
theorem FH(x:X)(d:Option Nat)(r:List O)(t:Tag K):bt C (⟨d,.nilck x,none⟩::r) ρ σ K t=bq (gi (ev C ρ x)) (fun v=>bt C r (putd ρ d v) σ K .mk) .mk:=by
 unfold bt bq;simp only[aQ,aN,ba,pv];cases gi (ev C ρ x)<;>rfl
def kvT(a:Option (List (Key×V)))(b:Option Key)(f:List (Key×V)->Key->Prop)(_:Tag f):Prop:=match a,b with|some kv,some key=>f kv key|_,_=>False
theorem Cq(kv:List (Key×V))(key:Key)(f:List (Key×V)->Key->Prop)(t:Tag f):kvT (some kv) (some key) f t=f kv key:=rfl
def LM(v:V)(f:Nat->Nat->Nat->Prop)(_:Tag f):Prop:=match asB v with|some (i,off,n)=>f i off n|none=>False
theorem CJ(i off n:Nat)(f:Nat->Nat->Nat->Prop)(t:Tag f):LM (.bsl i off n 1) f t=f i off n:=rfl
theorem DR(i n c:Nat)(f:Nat->Nat->Nat->Prop)(t:Tag f):LM (.bsc i n c) f t=f i 0 n:=rfl
theorem MX(st ok:Bool)(z:V)(x y:X)(d:Option Nat)(r:List O)(t:Tag Q):aR C (⟨d,.mlk st ok z x y,none⟩::r) ρ σ Q t=bq (vR st ok z σ (ev C ρ x) (ev C ρ y)) (fun v=>aR C r (putd ρ d v) σ Q .mk) .mk:=rfl
theorem JP(st:Bool)(d:Option Nat)(r:List O)(t:Tag Q):aR C (⟨d,.mmk st,none⟩::r) ρ σ Q t=aR C r (putd ρ d (.mp σ.length)) (σ++[[.mapc st []]]) Q .mk:=rfl
theorem LZ(st:Bool)(x y z:X)(d:Option Nat)(r:List O)(t:Tag Q):aR C (⟨d,.mst st x y z,none⟩::r) ρ σ Q t=kvT (jo st σ (ev C ρ x)) (nU st (ev C ρ y)) (fun kv key=>aR C r ρ (um σ st (nZ key (ev C ρ z).copy kv) (ev C ρ x)) Q .mk) .mk:=by
 unfold aR kvT;simp only[bM,cw];cases jo st σ (ev C ρ x)<;>cases nU st (ev C ρ y)<;>rfl
def I1(v:V)(f g:Unit->Prop)(_:Tag f)(_:Tag g):Prop:=if IC v=true then f ()else g ()
theorem Ik(f g:Unit->Prop)(s:Tag f)(t:Tag g):I1 (.d (.sl [])) f g s t=f ():=rfl
theorem Da(i off n:Nat)(f g:Unit->Prop)(s:Tag f)(t:Tag g):I1 (.bsl i off n 1) f g s t=g ():=rfl
theorem Di(i n c:Nat)(f g:Unit->Prop)(s:Tag f)(t:Tag g):I1 (.bsc i n c) f g s t=g ():=rfl
def avT(x:V)(src:List V)(bytes:Nat)(z:List V)(σ:LLV)(f:V->LLV->Prop)(_:Tag f):Prop:=iB σ x src bytes z f
theorem EL(src:List V)(bytes:Nat)(z:List V)(σ:LLV)(f:V->LLV->Prop)(t:Tag f):avT .nil src bytes z σ f t=(bytes≤140737488355328/\∀c,1≤c->f (.bsc σ.length 1 c) (σ++[src++cC z (c-1)])):=rfl
theorem Df:kR []=some []:=rfl
theorem Ee(i o n k:Nat)(r:List V):kR (.bsl i o n k::r)=(kR r).map fun l=>.bsl i o n k::l:=by
 simp only[kR,V.boxable1];cases kR r<;>rfl
theorem Iw(x:D)(r:List V):kR (.d x::r)=(kR r).map fun l=>.d x::l:=by
 simp only[kR,V.boxable1];cases kR r<;>rfl
theorem H7(T bytes:Nat)(z:List V)(s:Nat)(y:X)(d:Option Nat)(r:List O)(t:Tag Q):aR C (⟨d,.appv T bytes z s y,none⟩::r) ρ σ Q t=bxT (nB (ev C ρ y)) (fun src=>onT (0<src.length/\src.length=z.length) (fun _=>avT (get ρ s) src bytes z σ (fun v σ'=>aR C r (putd ρ d v) σ' Q .mk) .mk) .mk) .mk:=by
 unfold aR bxT onT avT;simp only[bM,cw];cases nB (ev C ρ y)<;>simp
theorem Jc(r:List D):nB (.d (.sl [r]))=some (r.map V.d):=rfl
theorem zh(i n c:Nat):lj false (.bsc i n c)=some (aC .i64 n):=rfl
theorem Du(k b n c:Nat)(kd:IntKind)(j:Nat):iaV k (.bsc b n c) (.d (.lit (.int kd (j:Int))))=if j<n then some (.ptr b (j*k))else none:=by
 unfold iaV;simp only[Pk,Pw];by_cases h:j<n
 .rw[if_pos h,if_pos (by omega)]
 .rw[if_neg h,if_neg (by omega)]
theorem H8(i n c:Nat):(V.bsc i n c).copy=.bsc i n c:=rfl
def Jd(st ok:Bool)(z:V)(a:Option (List (Key×V)))(b:Option Key):Option V:=match a,b with|some kv,some key=>some (o8 ok z (kK key kv))|_,_=>none
theorem GX(st ok:Bool)(z:V)(i:Nat)(y:V):vR st ok z σ (.mp i) y=Jd st ok z (zg st σ[i]?) (nU st y):=by
 unfold vR Jd jo;rfl
theorem qx(st ok:Bool)(z:V)(kv:List (Key×V))(key:Key):Jd st ok z (some kv) (some key)=some (o8 ok z (kK key kv)):=rfl
theorem qJ(st:Bool)(kv:List (Key×V)):zg st (some [.mapc st kv])=some kv:=by simp[zg]
theorem xu(n:Int):nU false (.d (.lit (.int .i64 n)))=some (.i n):=rfl
theorem Fj(s:ByteArray):nU true (.d (.lit (.string s)))=some (.s s):=rfl
theorem Ct(st:Bool)(i:Nat):jo st σ (.mp i)=zg st σ[i]? := rfl
theorem BJ(st:Bool)(kv:List (Key×V))(i:Nat):um σ st kv (.mp i)=σ.set i [.mapc st kv]:=rfl
def Kj(b:Option (List V)):Option V:=match b with|some [.mapc _ kv]=>if kv.length≤1000000000 then some (aC .i64 kv.length)else none|_=>none
theorem KX(i:Nat):N1 σ (.mp i)=Kj σ[i]? := rfl
theorem y9(st:Bool)(kv:List (Key×V)):Kj (some [.mapc st kv])=if kv.length≤1000000000 then some (aC .i64 kv.length)else none:=rfl
theorem Jj(z v:V):o8 false z (some v)=v:=rfl
theorem Fs(z:V):o8 false z none=z:=rfl
theorem Hd(z v:V):o8 true z (some v)=.tup [v,ak true]:=rfl
theorem Fz(z:V):o8 true z none=.tup [z,ak false]:=rfl
theorem ND(x:D):(V.d x).copy=.d x:=rfl
theorem Hj(i o n k:Nat):(V.bsl i o n k).copy=.bsl i o n k:=rfl
theorem Ih(T k:Nat)(rows:LLD):(V.own T k rows).copy=.d (.sl rows):=rfl
theorem Jk:V.nil.copy=.nil:=rfl
theorem IA(cs:List V):(V.agg cs).copy=.agg cs:=rfl
theorem J2(i:Nat):(V.mp i).copy=.mp i:=rfl
def IZ(n off:Nat)(b:Option (List V)):Option (List V):=match b with|some cs=>if off+n≤cs.length/\bT cs=true then some (((cs.drop off).take n).map V.copy)else(tyL n off cs).map fun l=>l.map V.copy|none=>none
theorem yq(n off:Nat)(cs:List V):IZ n off (some cs)=if off+n≤cs.length/\bT cs=true then some (((cs.drop off).take n).map V.copy)else(tyL n off cs).map fun l=>l.map V.copy:=rfl
theorem Bf(i off n:Nat):I8 σ (.bsl i off n 1)=IZ n off σ[i]? := by
 unfold I8 IZ lq;simp only;cases σ[i]? with
 | none=>rfl
 | some cs=>simp only;split<;>rfl
theorem FG(rows:LLD):I8 σ (.d (.sl rows))=if rows.all (fun r=>r.length==1)=true then some (rows.flatten.map V.d)else none:=rfl
theorem NU(off:Nat)(x:X)(d:Option Nat)(r:List O)(t:Tag Q):aR C (⟨d,.fa off x,none⟩::r) ρ σ Q t=bq (faV off (ev C ρ x)) (fun v=>aR C r (putd ρ d v) σ Q .mk) .mk:=rfl
theorem O5(off:Nat)(x:X)(d:Option Nat)(r:List O)(t:Tag K):bt C (⟨d,.fa off x,none⟩::r) ρ σ K t=bq (faV off (ev C ρ x)) (fun v=>bt C r (putd ρ d v) σ K .mk) .mk:=by
 unfold bt bq;simp only[aQ,aN,ba,pv];cases faV off (ev C ρ x)<;>rfl
theorem Ob(kk:Nat)(x i:X)(d:Option Nat)(r:List O)(t:Tag Q):aR C (⟨d,.ia kk x i,none⟩::r) ρ σ Q t=bq (iaV kk (ev C ρ x) (ev C ρ i)) (fun v=>aR C r (putd ρ d v) σ Q .mk) .mk:=rfl
theorem OJ(kk:Nat)(x i:X)(d:Option Nat)(r:List O)(t:Tag K):bt C (⟨d,.ia kk x i,none⟩::r) ρ σ K t=bq (iaV kk (ev C ρ x) (ev C ρ i)) (fun v=>bt C r (putd ρ d v) σ K .mk) .mk:=by
 unfold bt bq;simp only[aQ,aN,ba,pv];cases iaV kk (ev C ρ x) (ev C ρ i)<;>rfl
theorem Np(x i:X)(d:Option Nat)(r:List O)(t:Tag Q):aR C (⟨d,.ix x i,none⟩::r) ρ σ Q t=bq (ixV (ev C ρ x) (ev C ρ i)) (fun v=>aR C r (putd ρ d v) σ Q .mk) .mk:=rfl
theorem KY(off kk:Nat)(ag:Bool)(x:X)(d:Option Nat)(r:List O)(t:Tag Q):aR C (⟨d,.fld off kk ag x,none⟩::r) ρ σ Q t=bq (vF off kk ag (ev C ρ x)) (fun v=>aR C r (putd ρ d v) σ Q .mk) .mk:=rfl
theorem MK(s:Bool)(x:X)(d:Option Nat)(r:List O)(t:Tag Q):aR C (⟨d,.len s x,none⟩::r) ρ σ Q t=bq (lj s (ev C ρ x)) (fun v=>aR C r (putd ρ d v) σ Q .mk) .mk:=rfl
theorem LU(s:Bool)(x:X)(d:Option Nat)(r:List O)(t:Tag K):bt C (⟨d,.len s x,none⟩::r) ρ σ K t=bq (lj s (ev C ρ x)) (fun v=>bt C r (putd ρ d v) σ K .mk) .mk:=by
 unfold bt bq;simp only[aQ,aN,ba,pv];cases lj s (ev C ρ x)<;>rfl
theorem Mv(x:X)(i:Nat)(d:Option Nat)(r:List O)(t:Tag Q):aR C (⟨d,.ext x i,none⟩::r) ρ σ Q t=bq (pc (ev C ρ x) i) (fun v=>aR C r (putd ρ d v) σ Q .mk) .mk:=rfl
theorem MU(x:X)(i:Nat)(d:Option Nat)(r:List O)(t:Tag K):bt C (⟨d,.ext x i,none⟩::r) ρ σ K t=bq (pc (ev C ρ x) i) (fun v=>bt C r (putd ρ d v) σ K .mk) .mk:=by
 unfold bt bq;simp only[aQ,aN,ba,pv];cases pc (ev C ρ x) i<;>rfl
theorem Ht(kk:Nat)(ag:Bool)(x:X)(d:Option Nat)(r:List O)(t:Tag Q):aR C (⟨d,.load kk ag x,none⟩::r) ρ σ Q t=bq (fI σ kk ag (ev C ρ x)) (fun v=>aR C r (putd ρ d v) σ Q .mk) .mk:=rfl
theorem I3(kk:Nat)(ag:Bool)(x:X)(d:Option Nat)(r:List O)(t:Tag K):bt C (⟨d,.load kk ag x,none⟩::r) ρ σ K t=bq (fI σ kk ag (ev C ρ x)) (fun v=>bt C r (putd ρ d v) σ K .mk) .mk:=by
 unfold bt bq;simp only[aQ,aN,ba,pv];cases fI σ kk ag (ev C ρ x)<;>rfl
theorem KT(zs:List V)(ps:List (Nat×Nat×X))(d:Option Nat)(r:List O)(t:Tag Q):aR C (⟨d,.bld zs ps,none⟩::r) ρ σ Q t=bq ((kH (ev C ρ) zs ps).map V.agg) (fun v=>aR C r (putd ρ d v) σ Q .mk) .mk:=rfl
theorem KG(zs:List V)(ps:List (Nat×Nat×X))(d:Option Nat)(r:List O)(t:Tag K):bt C (⟨d,.bld zs ps,none⟩::r) ρ σ K t=bq ((kH (ev C ρ) zs ps).map V.agg) (fun v=>bt C r (putd ρ d v) σ K .mk) .mk:=by
 unfold bt bq;simp only[aQ,aN,ba,pv];cases kH (ev C ρ) zs ps<;>rfl
theorem L5(s:Bool)(kk:Nat)(x:X)(lo hi:Option X)(d:Option Nat)(r:List O)(t:Tag Q):aR C (⟨d,.sub s kk x lo hi,none⟩::r) ρ σ Q t=bq (qw s kk (ev C ρ x) (lo.map (ev C ρ)) (hi.map (ev C ρ))) (fun v=>aR C r (putd ρ d v) σ Q .mk) .mk:=rfl
theorem Id(f:FuncId)(cap:List X)(d:Option Nat)(r:List O)(t:Tag Q):aR C (⟨d,.mkfn f cap,none⟩::r) ρ σ Q t=aR C r (putd ρ d (.fn f (cap.map (ev C ρ)))) σ Q .mk:=rfl
theorem Mz(ty:TypeId)(x:X)(d:Option Nat)(r:List O)(t:Tag Q):aR C (⟨d,.mki ty x,none⟩::r) ρ σ Q t=bq (vz ty (ev C ρ x)) (fun v=>aR C r (putd ρ d v) σ Q .mk) .mk:=rfl
theorem O4(g:Bool)(x y:X)(d:Option Nat)(r:List O)(t:Tag Q):aR C (⟨d,.mx g x y,none⟩::r) ρ σ Q t=bq (mxV g (ev C ρ x) (ev C ρ y)) (fun v=>aR C r (putd ρ d v) σ Q .mk) .mk:=rfl
theorem HG(f:FuncId)(args:List X)(d:Option Nat)(r:List O)(t:Tag Q):aR C (⟨d,.call f args,none⟩::r) ρ σ Q t=iq C f (args.map fun x=>(ev C ρ x).lend) σ (fun v σ'=>aR C r (putd ρ d v) σ' Q .mk) (fun v σ'=>Q (.panic v) ρ σ') .mk .mk:=rfl
theorem E2(x:X)(args:List X)(d:Option Nat)(r:List O)(t:Tag Q):aR C (⟨d,.callv x args,none⟩::r) ρ σ Q t=Gs (ev C ρ x) (args.map fun x=>(ev C ρ x).lend) (fun f as=>iq C f as σ (fun v σ'=>aR C r (putd ρ d v) σ' Q .mk) (fun v σ'=>Q (.panic v) ρ σ') .mk .mk) .mk:=rfl
theorem LY(T:Nat)(cs:List V)(d:Option Nat)(r:List O)(t:Tag Q):aR C (⟨d,.new T cs,none⟩::r) ρ σ Q t=aR C r (putd ρ d (.ptr σ.length 0)) (σ++[cs]) Q .mk:=rfl
theorem Ka(T:Nat)(x:X)(d:Option Nat)(r:List O)(t:Tag Q):aR C (⟨d,.box T x,none⟩::r) ρ σ Q t=onT ((ev C ρ x).boxable=true) (fun _=>aR C r (putd ρ d (.ptr σ.length 0)) (σ++[(ev C ρ x).cells]) Q .mk) .mk:=rfl
theorem HJ(T:Nat)(x:X)(d:Option Nat)(r:List O)(t:Tag Q):aR C (⟨d,.boxt T x,none⟩::r) ρ σ Q t=tyT (ev C ρ x) (fun k=>aR C r (putd ρ d (.ptr σ.length 0)) (σ++[tyc T k]) Q .mk):=rfl
theorem Ia(k:Int)(K:Int->Prop):tyT (.agg [.d (.lit (.pointer none)),.nil,.d (.lit (.int .i64 k))]) K=K k:=rfl
theorem JL(kk:Nat)(x y:X)(d:Option Nat)(r:List O)(t:Tag Q):aR C (⟨d,.sto kk x y,none⟩::r) ρ σ Q t=tT (ev C ρ x) (fun i o=>bxT σ[i]? (fun cs=>onT ((ev C ρ y).boxable=true/\(ev C ρ y).cells.length=kk/\o+kk≤cs.length/\bT cs=true) (fun _=>aR C r ρ (σ.set i (over cs o (ev C ρ y).cells)) Q .mk) .mk) .mk) .mk:=rfl
theorem Is(x:X)(s:Nat)(d:Option Nat)(r:List O)(t:Tag Q):aR C (⟨d,.stoo x s,none⟩::r) ρ σ Q t=tT (ev C ρ x) (fun i o=>uP (get ρ s) (fun T k rows=>bxT σ[i]? (fun cs=>onT (o<cs.length/\bT cs=true) (fun _=>aR C r (put ρ s (.d (.sl rows))) (σ.set i (over cs o [.own T k rows])) Q .mk) .mk) .mk) .mk) .mk:=by
 unfold aR tT uP bxT onT;simp only[bM,cw];cases ev C ρ x<;>simp only
 cases get ρ s<;>rfl
theorem MA(x:X)(d:Option Nat)(r:List O)(t:Tag Q):aR C (⟨d,.ldo x,none⟩::r) ρ σ Q t=tT (ev C ρ x) (fun i o=>bxT σ[i]? (fun cs=>uP (cs.getD o .junk) (fun T k rows=>aR C r (putd ρ d (.own T k rows)) (σ.set i (cs.set o (.d (.sl rows)))) Q .mk) .mk) .mk) .mk:=by
 unfold aR tT uP bxT;simp only[bM,cw];cases ev C ρ x<;>simp only
 rename_i i o;cases σ[i]?<;>simp only
 rename_i cs;rw[List.getD_eq_getElem?_getD];cases cs[o]? with
 | none=>rfl
 | some v=>cases v<;>rfl
theorem KD(s:Nat)(d:Option Nat)(r:List O)(t:Tag Q):aR C (⟨d,.mvo s,none⟩::r) ρ σ Q t=uP (get ρ s) (fun T k rows=>aR C r (putd (put ρ s (.d (.sl rows))) d (.own T k rows)) σ Q .mk) .mk:=rfl
theorem Hs(T k:Nat)(d:Option Nat)(r:List O)(t:Tag Q):aR C (⟨d,.nilo T k,none⟩::r) ρ σ Q t=aR C r (putd ρ d (.own T k [])) σ Q .mk:=rfl
theorem L3(T k bytes s:Nat)(y:X)(d:Option Nat)(r:List O)(t:Tag Q):aR C (⟨d,.app T k bytes s y,none⟩::r) ρ σ Q t=uP (get ρ s) (fun T' k' rows=>rwT (eC (ev C ρ y)) (fun rows2=>onT (T'=T/\k'=k/\rows2.all (fun r=>r.length==k)=true/\(rows.length+rows2.length)*bytes≤140737488355328) (fun _=>aR C r (putd (put ρ s (.d (.sl rows))) d (.own T k (rows++rows2))) σ Q .mk) .mk) .mk) .mk:=by
 unfold aR uP rwT onT;simp only[bM,cw];cases get ρ s<;>simp only
 cases eC (ev C ρ y)<;>rfl
theorem L6(T k:Nat)(xs:List X)(d:Option Nat)(r:List O)(t:Tag Q):aR C (⟨d,.mks T k xs,none⟩::r) ρ σ Q t=rwT (dh (xs.map (ev C ρ))) (fun rows=>onT (rows.all (fun r=>r.length==k)=true) (fun _=>aR C r (putd ρ d (.d (.sl rows))) σ Q .mk) .mk) .mk:=rfl
theorem MJ(T k bytes:Nat)(x:X)(d:Option Nat)(r:List O)(t:Tag Q):aR C (⟨d,.mkc T k bytes x,none⟩::r) ρ σ Q t=I9 (ev C ρ x) (fun n=>onT (0≤n/\n*bytes≤140737488355328) (fun _=>aR C r (putd ρ d (.own T k [])) σ Q .mk) .mk) .mk:=by
 unfold aR I9 onT;simp only[bM,cw];cases ev C ρ x with
 | d z=>cases z with
  | lit v=>cases v<;>rfl
  | sl rows=>rfl
 | _=>rfl
theorem Im(T k:Nat)(xs:List X)(d:Option Nat)(r:List O)(t:Tag Q):aR C (⟨d,.mkso T k xs,none⟩::r) ρ σ Q t=rwT (dh (xs.map (ev C ρ))) (fun rows=>onT (rows.all (fun r=>r.length==k)=true) (fun _=>aR C r (putd ρ d (.own T k rows)) σ Q .mk) .mk) .mk:=rfl
theorem Mm(T:TypeId)(z:V)(x:X)(d:Option Nat)(r:List O)(t:Tag Q):aR C (⟨d,.tas T z x,none⟩::r) ρ σ Q t=bq (Bu T z (ev C ρ x)) (fun v=>aR C r (putd ρ d v) σ Q .mk) .mk:=rfl
theorem Lk(x:X)(d:Option Nat)(r:List O)(t:Tag Q):aR C (⟨d,.pan x,none⟩::r) ρ σ Q t=ifT (ev C ρ x) (fun ty v=>Q (.panic (.iface ty v)) ρ σ) .mk:=rfl
theorem FU(d:Option Nat)(op:OP)(s:Nat)(b:Bool)(r:List O)(t:Tag Q):aR C (⟨d,op,some (s,b)⟩::r) ρ σ Q t=qC (get ρ s) (fun c=>qo (c==b) (fun _=>aR C (⟨d,op,none⟩::r) (put ρ s (.d (.lit (.bool b)))) σ Q .mk) (fun _=>aR C r (putd (put ρ s (.d (.lit (.bool (!b))))) d (.tup [])) σ Q .mk) .mk .mk) (fun _=>aR C r (putd ρ d (.tup [])) σ Q .mk) .mk .mk:=by
 unfold aR qC qo;simp only[bM,beq_iff_eq,beq_eq_false_iff_ne,ne_eq];all_goals rfl
theorem K0(t:Tag Q):aR C [] ρ σ Q t=Q .normal ρ σ:=rfl
theorem II(f:FuncId)(args:List X)(d:Option Nat)(r:List O)(t:Tag K):bt C (⟨d,.call f args,none⟩::r) ρ σ K t=CU C f (args.map fun x=>(ev C ρ x).lend) σ (fun v=>bt C r (putd ρ d v) σ K .mk) .mk:=rfl
theorem Gw(f:FuncId)(args:List X)(d:Option Nat)(r:List O)(t:Tag Q):aR C (⟨d,.calln f args,none⟩::r) ρ σ Q t=iq C f (args.map fun x=>(ev C ρ x).copy) σ (fun v σ'=>aR C r (putd ρ d v) σ' Q .mk) (fun v σ'=>Q (.panic v) ρ σ') .mk .mk:=rfl
theorem Gi(x:X)(args:List X)(d:Option Nat)(r:List O)(t:Tag K):bt C (⟨d,.callv x args,none⟩::r) ρ σ K t=fnT (ev C ρ x) (fun f cap=>CU C f ((args.map fun x=>(ev C ρ x).lend)++cap) σ (fun v=>bt C r (putd ρ d v) σ K .mk) .mk) .mk:=rfl
theorem Lj(T k:Nat)(xs:List X)(d:Option Nat)(r:List O)(t:Tag K):bt C (⟨d,.mks T k xs,none⟩::r) ρ σ K t=rwT (dh (xs.map (ev C ρ))) (fun rows=>onT (rows.all (fun r=>r.length==k)=true) (fun _=>bt C r (putd ρ d (.d (.sl rows))) σ K .mk) .mk) .mk:=rfl
theorem EM(d:Option Nat)(op:OP)(s:Nat)(b:Bool)(r:List O)(t:Tag K):bt C (⟨d,op,some (s,b)⟩::r) ρ σ K t=qC (get ρ s) (fun c=>qo (c==b) (fun _=>bt C (⟨d,op,none⟩::r) (put ρ s (.d (.lit (.bool b)))) σ K .mk) (fun _=>bt C r (putd (put ρ s (.d (.lit (.bool (!b))))) d (.tup [])) σ K .mk) .mk .mk) (fun _=>bt C r (putd ρ d (.tup [])) σ K .mk) .mk .mk:=by
 unfold bt qC qo;simp only[aQ,beq_iff_eq,beq_eq_false_iff_ne,ne_eq];all_goals rfl
theorem MG(t:Tag K):bt C [] ρ σ K t=K ρ:=rfl
theorem Ng(x:X)(d:Option Nat)(r:List O)(t:Tag KA):bF C cc σ σ2 (⟨d,.mv x,none⟩::r) ρ acc KA t=bF C cc σ σ2 r (putd ρ d (ev C ρ x).copy) acc KA .mk:=by
 unfold bF;simp only[cM,cz,aN,ba,pv,true_and]
theorem IB(x y z:X)(d:Option Nat)(r:List O)(t:Tag KA):bF C cc σ σ2 (⟨d,.pick x y z,none⟩::r) ρ acc KA t=bq (iJ (ev C ρ x) (ev C ρ y) (ev C ρ z)) (fun v=>bF C cc σ σ2 r (putd ρ d v) acc KA .mk) .mk:=by
 unfold bF bq;simp only[cM,cz,aN,ba,pv];cases (iJ (ev C ρ x) (ev C ρ y) (ev C ρ z))<;>simp
theorem KF(o:BinOp)(x y:X)(d:Option Nat)(r:List O)(t:Tag KA):bF C cc σ σ2 (⟨d,.bin o x y,none⟩::r) ρ acc KA t=bq (co o (ev C ρ x) (ev C ρ y)) (fun v=>bF C cc σ σ2 r (putd ρ d v) acc KA .mk) .mk:=by
 unfold bF bq;simp only[cM,cz,aN,ba,pv];cases (co o (ev C ρ x) (ev C ρ y))<;>simp
theorem LL(neq:Bool)(T:TypeId)(ks:List Kd)(x y:X)(d:Option Nat)(r:List O)(t:Tag KA):bF C cc σ σ2 (⟨d,.eqa neq T ks x y,none⟩::r) ρ acc KA t=onT (C.eqs T=true) (fun _=>bq (iY neq ks (ev C ρ x) (ev C ρ y)) (fun v=>bF C cc σ σ2 r (putd ρ d v) acc KA .mk) .mk) .mk:=by
 unfold bF bq onT;by_cases h:C.eqs T=true
 .simp only[cM,cz,aN,ba,pv,h,if_true,true_and];cases iY neq ks (ev C ρ x) (ev C ρ y)<;>simp
 .simp only[cM,cz,aN,ba,pv,if_neg h];simp[h]
theorem ML(neq:Bool)(x:X)(d:Option Nat)(r:List O)(t:Tag KA):bF C cc σ σ2 (⟨d,.nif neq x,none⟩::r) ρ acc KA t=bq (sa neq (ev C ρ x)) (fun v=>bF C cc σ σ2 r (putd ρ d v) acc KA .mk) .mk:=by
 unfold bF bq;simp only[cM,cz,aN,ba,pv];cases sa neq (ev C ρ x)<;>simp
theorem NQ(o:UnOp)(x:X)(d:Option Nat)(r:List O)(t:Tag KA):bF C cc σ σ2 (⟨d,.un o x,none⟩::r) ρ acc KA t=bq (unV o (ev C ρ x)) (fun v=>bF C cc σ σ2 r (putd ρ d v) acc KA .mk) .mk:=by
 unfold bF bq;simp only[cM,cz,aN,ba,pv];cases (unV o (ev C ρ x))<;>simp
theorem I6(kd:IntKind)(x:X)(d:Option Nat)(r:List O)(t:Tag KA):bF C cc σ σ2 (⟨d,.conv kd x,none⟩::r) ρ acc KA t=bq (rq kd (ev C ρ x)) (fun v=>bF C cc σ σ2 r (putd ρ d v) acc KA .mk) .mk:=by
 unfold bF bq;simp only[cM,cz,aN,ba,pv];cases (rq kd (ev C ρ x))<;>simp
theorem FR(x:X)(d:Option Nat)(r:List O)(t:Tag KA):bF C cc σ σ2 (⟨d,.nilck x,none⟩::r) ρ acc KA t=bq (gi (ev C ρ x)) (fun v=>bF C cc σ σ2 r (putd ρ d v) acc KA .mk) .mk:=by
 unfold bF bq;simp only[cM,cz,aN,ba,pv];cases (gi (ev C ρ x))<;>simp
theorem NO(off:Nat)(x:X)(d:Option Nat)(r:List O)(t:Tag KA):bF C cc σ σ2 (⟨d,.fa off x,none⟩::r) ρ acc KA t=bq (faV off (ev C ρ x)) (fun v=>bF C cc σ σ2 r (putd ρ d v) acc KA .mk) .mk:=by
 unfold bF bq;simp only[cM,cz,aN,ba,pv];cases (faV off (ev C ρ x))<;>simp
theorem OX(kk:Nat)(x i:X)(d:Option Nat)(r:List O)(t:Tag KA):bF C cc σ σ2 (⟨d,.ia kk x i,none⟩::r) ρ acc KA t=bq (iaV kk (ev C ρ x) (ev C ρ i)) (fun v=>bF C cc σ σ2 r (putd ρ d v) acc KA .mk) .mk:=by
 unfold bF bq;simp only[cM,cz,aN,ba,pv];cases (iaV kk (ev C ρ x) (ev C ρ i))<;>simp
theorem Nm(x i:X)(d:Option Nat)(r:List O)(t:Tag KA):bF C cc σ σ2 (⟨d,.ix x i,none⟩::r) ρ acc KA t=bq (ixV (ev C ρ x) (ev C ρ i)) (fun v=>bF C cc σ σ2 r (putd ρ d v) acc KA .mk) .mk:=by
 unfold bF bq;simp only[cM,cz,aN,ba,pv];cases (ixV (ev C ρ x) (ev C ρ i))<;>simp
theorem JX(off kk:Nat)(ag:Bool)(x:X)(d:Option Nat)(r:List O)(t:Tag KA):bF C cc σ σ2 (⟨d,.fld off kk ag x,none⟩::r) ρ acc KA t=bq (vF off kk ag (ev C ρ x)) (fun v=>bF C cc σ σ2 r (putd ρ d v) acc KA .mk) .mk:=by
 unfold bF bq;simp only[cM,cz,aN,ba,pv];cases (vF off kk ag (ev C ρ x))<;>simp
theorem JR(s:Bool)(x:X)(d:Option Nat)(r:List O)(t:Tag KA):bF C cc σ σ2 (⟨d,.len s x,none⟩::r) ρ acc KA t=bq (lj s (ev C ρ x)) (fun v=>bF C cc σ σ2 r (putd ρ d v) acc KA .mk) .mk:=by
 unfold bF bq;simp only[cM,cz,aN,ba,pv];cases (lj s (ev C ρ x))<;>simp
theorem J8(x:X)(i:Nat)(d:Option Nat)(r:List O)(t:Tag KA):bF C cc σ σ2 (⟨d,.ext x i,none⟩::r) ρ acc KA t=bq (pc (ev C ρ x) i) (fun v=>bF C cc σ σ2 r (putd ρ d v) acc KA .mk) .mk:=by
 unfold bF bq;simp only[cM,cz,aN,ba,pv];cases (pc (ev C ρ x) i)<;>simp
theorem Jw(zs:List V)(ps:List (Nat×Nat×X))(d:Option Nat)(r:List O)(t:Tag KA):bF C cc σ σ2 (⟨d,.bld zs ps,none⟩::r) ρ acc KA t=bq ((kH (ev C ρ) zs ps).map V.agg) (fun v=>bF C cc σ σ2 r (putd ρ d v) acc KA .mk) .mk:=by
 unfold bF bq;simp only[cM,cz,aN,ba,pv];cases ((kH (ev C ρ) zs ps).map V.agg)<;>simp
theorem Jv(s:Bool)(kk:Nat)(x:X)(lo hi:Option X)(d:Option Nat)(r:List O)(t:Tag KA):bF C cc σ σ2 (⟨d,.sub s kk x lo hi,none⟩::r) ρ acc KA t=bq (qw s kk (ev C ρ x) (lo.map (ev C ρ)) (hi.map (ev C ρ))) (fun v=>bF C cc σ σ2 r (putd ρ d v) acc KA .mk) .mk:=by
 unfold bF bq;simp only[cM,cz,aN,ba,pv];cases (qw s kk (ev C ρ x) (lo.map (ev C ρ)) (hi.map (ev C ρ)))<;>simp
theorem IG(f:FuncId)(cap:List X)(d:Option Nat)(r:List O)(t:Tag KA):bF C cc σ σ2 (⟨d,.mkfn f cap,none⟩::r) ρ acc KA t=bF C cc σ σ2 r (putd ρ d (.fn f (cap.map (ev C ρ)))) acc KA .mk:=by
 unfold bF;simp only[cM,cz,aN,ba,pv,true_and]
theorem JD(ty:TypeId)(x:X)(d:Option Nat)(r:List O)(t:Tag KA):bF C cc σ σ2 (⟨d,.mki ty x,none⟩::r) ρ acc KA t=bq (vz ty (ev C ρ x)) (fun v=>bF C cc σ σ2 r (putd ρ d v) acc KA .mk) .mk:=by
 unfold bF bq;simp only[cM,cz,aN,ba,pv];cases (vz ty (ev C ρ x))<;>simp
theorem O9(g:Bool)(x y:X)(d:Option Nat)(r:List O)(t:Tag KA):bF C cc σ σ2 (⟨d,.mx g x y,none⟩::r) ρ acc KA t=bq (mxV g (ev C ρ x) (ev C ρ y)) (fun v=>bF C cc σ σ2 r (putd ρ d v) acc KA .mk) .mk:=by
 unfold bF bq;simp only[cM,cz,aN,ba,pv];cases (mxV g (ev C ρ x) (ev C ρ y))<;>simp
theorem IM(kk:Nat)(ag:Bool)(x:X)(d:Option Nat)(r:List O)(t:Tag KA):bF C cc σ σ2 (⟨d,.load kk ag x,none⟩::r) ρ acc KA t=bq (fI σ kk ag (ev C ρ x)) (fun v=>onT (fI σ2 kk ag (ev C ρ x)=some v) (fun _=>bF C cc σ σ2 r (putd ρ d v) acc KA .mk) .mk) .mk:=by
 unfold bF bq onT;simp only[cM,cz,aN,ba,pv];cases fI σ kk ag (ev C ρ x)<;>simp only
 rename_i v;cases fI σ2 kk ag (ev C ρ x)<;>simp
theorem IQ(f:FuncId)(args:List X)(d:Option Nat)(r:List O)(t:Tag KA):bF C cc σ σ2 (⟨d,.call f args,none⟩::r) ρ acc KA t=Db C f (args.map fun x=>(ev C ρ x).lend) σ σ2 (fun v=>bF C cc σ σ2 r (putd ρ d v) acc KA .mk) .mk:=by
 unfold bF Db;simp only[cM,cz,aN];exact propext ⟨fun⟨v,h1,⟨u,h2,h3⟩,h4⟩=>⟨v,h1,h3▸h2,h4⟩,fun⟨v,h1,h2,h3⟩=>⟨v,h1,⟨v,h2,rfl⟩,h3⟩⟩
theorem Lz(T k:Nat)(xs:List X)(d:Option Nat)(r:List O)(t:Tag KA):bF C cc σ σ2 (⟨d,.mks T k xs,none⟩::r) ρ acc KA t=rwT (dh (xs.map (ev C ρ))) (fun rows=>onT (rows.all (fun r=>r.length==k)=true) (fun _=>bF C cc σ σ2 r (putd ρ d (.d (.sl rows))) acc KA .mk) .mk) .mk:=by
 unfold bF rwT onT;simp only[cM,cz,aN];cases dh (xs.map (ev C ρ))<;>simp only
 rename_i rows;exact propext ⟨fun⟨h1,_,h2⟩=>⟨h1,h2⟩,fun⟨h1,h2⟩=>⟨h1,⟨h1,trivial⟩,h2⟩⟩
theorem LQ(y:X)(d:Option Nat)(r:List O)(t:Tag KA):bF C cc σ σ2 (⟨d,.ldo y,none⟩::r) ρ acc KA t=onT (ev C ρ y=.ptr cc.i cc.off) (fun _=>bF C cc σ σ2 r (putd ρ d (.d (.sl cc.rows))) acc KA .mk) .mk:=by
 unfold bF onT;simp only[cM,true_and]
theorem Jr(T k bytes s:Nat)(y:X)(d:Option Nat)(r:List O)(t:Tag KA):bF C cc σ σ2 (⟨d,.app T k bytes s y,none⟩::r) ρ none KA t=rwT (eC (ev C ρ y)) (fun rows2=>onT (cc.T=T/\cc.k=k/\rows2.all (fun r=>r.length==k)=true/\(cc.rows.length+rows2.length)*bytes≤140737488355328) (fun _=>bF C cc σ σ2 r (putd ρ d (.d (.sl (cc.rows++rows2)))) (some rows2) KA .mk) .mk) .mk:=by
 unfold bF rwT onT;simp only[cM,true_and];cases eC (ev C ρ y)<;>rfl
theorem Ir(y:X)(s:Nat)(r:List O)(t:Tag KA):bF C cc σ σ2 (⟨none,.stoo y s,none⟩::r) ρ acc KA t=onT (ev C ρ y=.ptr cc.i cc.off) (fun _=>bF C cc σ σ2 r ρ acc KA .mk) .mk:=by
 unfold bF onT;simp only[cM,true_and]
theorem KI(rows2:LLD)(t:Tag KA):bF C cc σ σ2 [] ρ (some rows2) KA t=KA ρ rows2:=rfl
theorem EQ(l:List O)(keep:List Nat)(t:Tag Q):d7 C n0 (.drawa l keep) ρ σ Q t=Ca C l ρ σ (fun ρ' σ'=>Q .normal (aG keep ρ') σ') .mk:=rfl
theorem Oh(x:X)(d:Option Nat)(r:List O)(t:Tag KS):stT C (⟨d,.mv x,none⟩::r) ρ σ accs KS t=stT C r (putd ρ d (ev C ρ x).copy) σ accs KS .mk:=rfl
theorem Fk(x:X)(d:Option Nat)(r:List O)(t:Tag KS):stT C (⟨d,.nilck x,none⟩::r) ρ σ accs KS t=bq (gi (ev C ρ x)) (fun v=>stT C r (putd ρ d v) σ accs KS .mk) .mk:=by
 unfold stT bq;simp only[gX,aN,ba,pv];cases gi (ev C ρ x)<;>rfl
theorem OI(off:Nat)(x:X)(d:Option Nat)(r:List O)(t:Tag KS):stT C (⟨d,.fa off x,none⟩::r) ρ σ accs KS t=bq (faV off (ev C ρ x)) (fun v=>stT C r (putd ρ d v) σ accs KS .mk) .mk:=by
 unfold stT bq;simp only[gX,aN,ba,pv];cases faV off (ev C ρ x)<;>rfl
theorem OM(kk:Nat)(x i:X)(d:Option Nat)(r:List O)(t:Tag KS):stT C (⟨d,.ia kk x i,none⟩::r) ρ σ accs KS t=bq (iaV kk (ev C ρ x) (ev C ρ i)) (fun v=>stT C r (putd ρ d v) σ accs KS .mk) .mk:=by
 unfold stT bq;simp only[gX,aN,ba,pv];cases iaV kk (ev C ρ x) (ev C ρ i)<;>rfl
theorem Hk(kk:Nat)(ag:Bool)(x:X)(d:Option Nat)(r:List O)(t:Tag KS):stT C (⟨d,.load kk ag x,none⟩::r) ρ σ accs KS t=bq (fI σ kk ag (ev C ρ x)) (fun v=>stT C r (putd ρ d v) σ accs KS .mk) .mk:=by
 unfold stT bq;simp only[gX,aN,ba,pv];cases fI σ kk ag (ev C ρ x)<;>rfl
theorem MI(kk:Nat)(y z:X)(r:List O)(t:Tag KS):stT C (⟨none,.sto kk y z,none⟩::r) ρ σ none KS t=tT (ev C ρ y) (fun i off=>bxT σ[i]? (fun cs=>onT ((ev C ρ z).boxable=true/\(ev C ρ z).cells.length=kk/\off+kk≤cs.length/\bT cs=true) (fun _=>stT C r ρ σ (some (σ.set i (over cs off (ev C ρ z).cells))) KS .mk) .mk) .mk) .mk:=by
 unfold stT onT tT bxT;simp only[gX,true_and];cases ev C ρ y<;>first|rfl|(simp only;done)|(simp only;rfl)
theorem Ml(σf:LLV)(t:Tag KS):stT C [] ρ σ (some σf) KS t=KS ρ σf:=rfl
theorem FX(l:List O)(keep:List Nat)(t:Tag Q):d7 C n0 (.draws l keep) ρ σ Q t=stT C l ρ σ none (fun ρ' σ'=>Q .normal (aG keep ρ') σ') .mk:=rfl
def gT(C:Cx)(l:List (O×GK))(m:Nat)(h:List LLV)(p:List PendG)(ρ:ac)(σ:LLV)(k:ac->LLV->Prop)(P:V->LLV->Prop)(_:Tag k)(_:Tag P):Prop:=eE C P k l m h p ρ σ
theorem wJ(F:ac->LLV->Prop):gnx F .normal ρ σ=F ρ σ:=by simp[gnx]
section
variable {m : Nat} {h : List LLV} {p : List PendG} {k : ac -> LLV -> Prop} {P : V -> LLV -> Prop} {r : List (O × GK)}
theorem K9(s:Tag k)(t:Tag P):gT C [] m h p ρ σ k P s t=k ρ σ:=rfl
theorem I4(o:O)(lo:Nat)(s:Tag k)(t:Tag P):gT C ((o,.free lo)::r) m h p ρ σ k P s t=bt C [o] ρ σ (fun ρ'=>gT C r m h p ρ' σ k P .mk .mk) .mk:=rfl
theorem Hw(o:O)(lo hi:Nat)(s:Tag k)(t:Tag P):gT C ((o,.calm lo hi)::r) m h p ρ σ k P s t=bt C [o] ρ σ (fun ρ'=>onT (l9 C o ρ ρ' (m-lo) h) (fun _=>gT C r m h (ti m hi ⟨o,ρ,ρ',hi⟩ p) ρ' σ k P .mk .mk) .mk) .mk:=rfl
theorem Hx(o:O)(lo:Nat)(s:Tag k)(t:Tag P):gT C ((o,.slot lo)::r) m h p ρ σ k P s t=aR C [o] ρ σ (gnx fun ρ' σ'=>gT C r m h p ρ' σ' k P .mk .mk) .mk:=rfl
def B7(C:Cx)(f:FuncId)(vs:List V)(σ:LLV)(R:LLV->Prop)(kk:V->LLV->Prop)(P:V->LLV->Prop)(pn:Unit->Prop)(_:Tag R)(_:Tag kk)(_:Tag P)(_:Tag pn):Prop:=
 (∃v σ1,Fun C f vs σ (fun o σ'=>o=.ret v/\σ'=σ1)/\R σ1/\kk v σ1)\/(Fun C f vs σ (fun o σ'=>∃u,o=.panic u/\P u σ')/\pn ())
theorem uf{f:FuncId}{vs:List V}{R:LLV->Prop}{kk P:V->LLV->Prop}{pn:Unit->Prop}{t1:Tag R}{t2:Tag kk}{t3:Tag P}{t4:Tag pn}{v:V}{σ1:LLV}(h1:Fun C f vs σ (fun o σ'=>o=.ret v/\σ'=σ1))(h2:R σ1)(h3:kk v σ1):B7 C f vs σ R kk P pn t1 t2 t3 t4:=.inl ⟨v,σ1,h1,h2,h3⟩
theorem BU{f:FuncId}{vs:List V}{R:LLV->Prop}{kk P:V->LLV->Prop}{pn:Unit->Prop}{t1:Tag R}{t2:Tag kk}{t3:Tag P}{t4:Tag pn}(h1:Fun C f vs σ (fun o σ'=>∃u,o=.panic u/\P u σ'))(h2:pn ()):B7 C f vs σ R kk P pn t1 t2 t3 t4:=.inr ⟨h1,h2⟩
theorem I2(d:Option Nat)(f:FuncId)(args:List X)(s:Tag k)(t:Tag P):gT C ((⟨d,.call f args,none⟩,.act)::r) m h p ρ σ k P s t=B7 C f (args.map fun x=>(ev C ρ x).lend) σ (fun σ1=>reG C (m+1) σ1 p) (fun v σ1=>gT C r (m+1) (σ::h) p (putd ρ d v) σ1 k P .mk .mk) P (fun _=>eT C r m h (putd ρ d .junk) σ) .mk .mk .mk .mk:=by
 unfold gT B7;simp only[eE]
theorem Ld(d:Option Nat)(kk:Nat)(x y:X)(s:Tag k)(t:Tag P):gT C ((⟨d,.sto kk x y,none⟩,.act)::r) m h p ρ σ k P s t=aR C [⟨d,.sto kk x y,none⟩] ρ σ (gnx fun ρ' σ'=>onT (reG C (m+1) σ' p) (fun _=>gT C r (m+1) (σ::h) p ρ' σ' k P .mk .mk) .mk) .mk:=by
 unfold gT;simp only[eE];rfl
theorem Jb(d:Option Nat)(x:X)(y:Nat)(s:Tag k)(t:Tag P):gT C ((⟨d,.stoo x y,none⟩,.act)::r) m h p ρ σ k P s t=aR C [⟨d,.stoo x y,none⟩] ρ σ (gnx fun ρ' σ'=>onT (reG C (m+1) σ' p) (fun _=>gT C r (m+1) (σ::h) p ρ' σ' k P .mk .mk) .mk) .mk:=by
 unfold gT;simp only[eE];rfl
theorem Mn(d:Option Nat)(T:Nat)(cs:List V)(s:Tag k)(t:Tag P):gT C ((⟨d,.new T cs,none⟩,.act)::r) m h p ρ σ k P s t=aR C [⟨d,.new T cs,none⟩] ρ σ (gnx fun ρ' σ'=>onT (reG C (m+1) σ' p) (fun _=>gT C r (m+1) (σ::h) p ρ' σ' k P .mk .mk) .mk) .mk:=by
 unfold gT;simp only[eE];rfl
theorem Ho(σ':LLV):reG C m σ' []=True:=rfl
theorem GC(o:O)(ρ1 ρ2:ac)(hi:Nat)(σ':LLV):reG C m σ' (⟨o,ρ1,ρ2,hi⟩::p)=onT (if m≤hi then bt C [o] ρ1 σ' (fun ρ'=>ρ'=ρ2) .mk else True) (fun _=>reG C m σ' p) .mk:=rfl
theorem Bg(o:O)(ρ1 ρ2:ac):l9 C o ρ1 ρ2 0 h=True:=by cases h<;>rfl
theorem zT(o:O)(ρ1 ρ2:ac)(n:Nat):l9 C o ρ1 ρ2 (n+1) (σ::h)=onT (bt C [o] ρ1 σ (fun ρ'=>ρ'=ρ2) .mk) (fun _=>l9 C o ρ1 ρ2 n h) .mk:=rfl
theorem ET(hi:Nat)(x:PendG):ti m hi x p=if m<hi then x::p else p:=rfl
theorem Mu:eT C [] m h ρ σ=True:=rfl
theorem Hu(o:O)(lo:Nat):eT C ((o,.free lo)::r) m h ρ σ=if lo≤m then bt C [o] ρ σ (fun ρ'=>eT C r m h ρ' σ) .mk else eT C r m h (ap o (.junk,.junk) ρ) σ:=rfl
theorem HU(o:O)(lo hi:Nat):eT C ((o,.calm lo hi)::r) m h ρ σ=if lo≤m then bt C [o] ρ σ (fun ρ'=>onT (l9 C o ρ ρ' (m-lo) h) (fun _=>eT C r m h ρ' σ) .mk) .mk else eT C r m h (ap o (.junk,.junk) ρ) σ:=rfl
theorem Hm(o:O)(lo:Nat):eT C ((o,.slot lo)::r) m h ρ σ=if lo≤m then aR C [o] ρ σ (gnx fun ρ' _=>eT C r m h ρ' σ) .mk else eT C r m h (ap o (.junk,.junk) ρ) σ:=rfl
theorem K7(o:O):eT C ((o,.act)::r) m h ρ σ=eT C r m h (ap o (.junk,.junk) ρ) σ:=rfl
end
theorem E8(l:List (O×GK))(keep:List Nat)(t:Tag Q):d7 C n0 (.drawg l keep) ρ σ Q t=gT C l 0 [] [] ρ σ (fun ρ' σ'=>Q .normal (aG keep ρ') σ') (fun u σ'=>∀ρ',Q (.panic u) (aG keep ρ') σ') .mk .mk:=rfl
theorem Fh(l:List O)(x:X)(t:Tag Q):d7 C n0 (.drawp l x) ρ σ Q t=bt C l ρ σ (fun ρ'=>ifT (ev C ρ' x) (fun ty u=>∀ρ2,Q (.panic (.iface ty u)) ρ2 σ) .mk) .mk:=by
 unfold d7 bt;simp only[awp];congr 1;funext ρ';unfold ifT;split
 .rename_i ty u e;exact propext ⟨fun⟨_,_,e1,h⟩=>by rw[e]at e1;cases e1;exact h,fun h=>⟨_,_,e,h⟩⟩
 .rename_i hne;exact propext ⟨fun⟨ty,u,e,_⟩=>hne ty u e,fun h=>h.elim⟩
theorem F1(d T bytes:Nat)(z:List V)(s:Nat)(y:X)(l m:List O)(keep:List Nat)(t:Tag Q):d7 C n0 (.drawt ⟨d,T,bytes,z,s,y⟩ l m keep) ρ σ Q t=bt C l ρ σ (fun ρ1=>aR C (⟨some d,.appv T bytes z s y,none⟩::m) ρ1 σ (gnx fun ρ' σ'=>Q .normal (aG keep ρ') σ') .mk) .mk:=rfl
theorem I0(c:Cell){l:List O}{K:ac->LLV->Prop}{t:Tag K}{cs:List V}(h1:σ[c.i]? = some cs)(h2:cs[c.off]? = some (.own c.T c.k c.rows))
 (h:bF C c σ (σ.set c.i (cs.set c.off (.d (.sl c.rows)))) l ρ none (fun ρ' rows2=>K ρ' ((σ.set c.i (cs.set c.off (.d (.sl c.rows)))).set c.i (over (cs.set c.off (.d (.sl c.rows))) c.off [.own c.T c.k (c.rows++rows2)]))) .mk):Ca C l ρ σ K t:=⟨c,cs,h1,h2,h⟩
theorem IW(t:Tag Q):d7 C n0 .skip ρ σ Q t=Q .normal ρ σ:=rfl
theorem LV(l:List O)(keep:List Nat)(t:Tag Q):d7 C n0 (.ops l keep) ρ σ Q t=aR C l ρ σ (fun e ρ' σ'=>Q e (aG keep ρ') σ') .mk:=rfl
theorem H5(l:List O)(keep:List Nat)(t:Tag Q):d7 C n0 (.draw l keep) ρ σ Q t=bt C l ρ σ (fun ρ'=>Q .normal (aG keep ρ') σ) .mk:=rfl
theorem KJ(a b:Cd)(t:Tag Q):d7 C n0 (.seq a b) ρ σ Q t=d7 C n0 a ρ σ (andThen (fun ρ' σ'=>d7 C n0 b ρ' σ' Q .mk) Q) .mk:=rfl
theorem Hc(x:X)(a b:Cd)(t:Tag Q):d7 C n0 (.cond x a b) ρ σ Q t=GW (ev C ρ x) (fun c=>qo c (fun _=>d7 C n0 a ρ σ Q .mk) (fun _=>d7 C n0 b ρ σ Q .mk) .mk .mk) .mk:=rfl
theorem EK(id:Nat)(a:Cd)(t:Tag Q):d7 C n0 (.block id a) ρ σ Q t=d7 C n0 a ρ σ (nI id Q) .mk:=rfl
theorem Hr(id:Nat)(t:Tag Q):d7 C n0 (.exit id) ρ σ Q t=Q (.exit id) ρ σ:=rfl
theorem Kk(t:Tag Q):d7 C n0 .ret ρ σ Q t=Q .ret ρ σ:=rfl
theorem ta(next:ac->LLV->Prop):andThen next Q .normal ρ σ=next ρ σ:=rfl
theorem Ed(next:ac->LLV->Prop):andThen next Q .ret ρ σ=Q .ret ρ σ:=rfl
theorem zm(next:ac->LLV->Prop)(i:Nat):andThen next Q (.exit i) ρ σ=Q (.exit i) ρ σ:=rfl
theorem vK(next:ac->LLV->Prop)(v:V):andThen next Q (.panic v) ρ σ=Q (.panic v) ρ σ:=rfl
theorem wO(id:Nat):nI id Q .normal ρ σ=Q .normal ρ σ:=rfl
theorem Gf(id:Nat):nI id Q .ret ρ σ=Q .ret ρ σ:=rfl
theorem Dv(id j:Nat):nI id Q (.exit j) ρ σ=if j=id then Q .normal ρ σ else Q (.exit j) ρ σ:=rfl
theorem yo(id:Nat)(v:V):nI id Q (.panic v) ρ σ=Q (.panic v) ρ σ:=rfl
theorem dy{Q':ce}(hq:∀e ρ σ,Q e ρ σ->Q' e ρ σ):∀{l:List O} {ρ:ac} {σ:LLV},bM C l ρ σ Q->bM C l ρ σ Q'
 | [],ρ,σ,h=>hq _ _ _ h
 | o::r,ρ,σ,h=>by
  have step:∀{ρ:ac} {K K':ac->LLV->Prop},(∀ρ σ,K ρ σ->K' ρ σ)->cw C o.op o.dst ρ σ K Q->cw C o.op o.dst ρ σ K' Q':=by
   intro ρ K K' hk hr
   have hout:∀(o':Out) (σ':LLV),(match o' with | .ret v=>K (putd ρ o.dst v) σ' | .panic v=>Q (.panic v) ρ σ')->(match o' with | .ret v=>K' (putd ρ o.dst v) σ' | .panic v=>Q' (.panic v) ρ σ'):=by
    intro o' σ' hh;cases o' with
    | ret v=>exact hk _ _ hh
    | panic v=>exact hq _ _ _ hh
   generalize o.op=op at hr ⊢;unfold cw at hr ⊢;cases op<;>(try simp only at hr ⊢)
   case call f args=>exact hr.mono hout
   case callv x args=>generalize ev C ρ x=z at hr ⊢;cases z<;>(try simp only at hr ⊢)<;>first|exact hr.elim|exact hr.mono hout
   case calln f args=>exact hr.mono hout
   case new T cs=>exact hk _ _ hr
   case box T x=>exact⟨hr.1,hk _ _ hr.2⟩
   case sto k x y=>
    generalize ev C ρ x=z at hr ⊢;cases z<;>(try simp only at hr ⊢)<;>first|exact hr.elim|skip
    rename_i i off;generalize σ[i]? = z at hr ⊢;cases z<;>(try simp only at hr ⊢)<;>first|exact hr.elim|exact⟨hr.1,hk _ _ hr.2⟩
   case stoo x t=>
    generalize ev C ρ x=z at hr ⊢;cases z<;>(try simp only at hr ⊢)<;>first|exact hr.elim|skip
    rename_i i off;generalize get ρ t=z at hr ⊢;cases z<;>(try simp only at hr ⊢)<;>first|exact hr.elim|skip
    generalize σ[i]? = z at hr ⊢;cases z<;>(try simp only at hr ⊢)<;>first|exact hr.elim|exact⟨hr.1,hk _ _ hr.2⟩
   case ldo x=>
    generalize ev C ρ x=z at hr ⊢;cases z<;>(try simp only at hr ⊢)<;>first|exact hr.elim|skip
    rename_i i off;generalize σ[i]? = z at hr ⊢;cases z<;>(try simp only at hr ⊢)<;>first|exact hr.elim|skip
    rename_i cs;generalize cs[off]? = z at hr ⊢;cases z<;>(try simp only at hr ⊢)<;>first|exact hr.elim|skip
    rename_i v;cases v<;>(try simp only at hr ⊢)<;>first|exact hr.elim|exact hk _ _ hr
   case mvo t=>generalize get ρ t=z at hr ⊢;cases z<;>(try simp only at hr ⊢)<;>first|exact hr.elim|exact hk _ _ hr
   case nilo T k=>exact hk _ _ hr
   case app T k b t y=>
    generalize get ρ t=z at hr ⊢;cases z<;>(try simp only at hr ⊢)<;>first|exact hr.elim|skip
    generalize eC (ev C ρ y)=z at hr ⊢;cases z<;>(try simp only at hr ⊢)<;>first|exact hr.elim|exact⟨hr.1,hk _ _ hr.2⟩
   case mks T k xs=>generalize dh (xs.map (ev C ρ))=z at hr ⊢;cases z<;>(try simp only at hr ⊢)<;>first|exact hr.elim|exact⟨hr.1,hk _ _ hr.2⟩
   case mkso T k xs=>generalize dh (xs.map (ev C ρ))=z at hr ⊢;cases z<;>(try simp only at hr ⊢)<;>first|exact hr.elim|exact⟨hr.1,hk _ _ hr.2⟩
   case mkc T k bytes x=>
    generalize ev C ρ x=z at hr ⊢;cases z<;>(try simp only at hr ⊢)<;>first|exact hr.elim|skip
    rename_i z;cases z<;>(try simp only at hr ⊢)<;>first|exact hr.elim|skip
    rename_i z;cases z<;>(try simp only at hr ⊢)<;>first|exact hr.elim|exact⟨hr.1,hk _ _ hr.2⟩
   case pan x=>generalize ev C ρ x=z at hr ⊢;cases z<;>(try simp only at hr ⊢)<;>first|exact hr.elim|exact hq _ _ _ hr
   case mmk st=>exact hk _ _ hr
   case appv T bytes z t y=>
    generalize nB (ev C ρ y)=q at hr ⊢;cases q<;>(try simp only at hr ⊢)<;>first|exact hr.elim|exact⟨hr.1,u6 (fun v σ' hh=>hk _ _ hh) hr.2⟩
   case mst st x k v=>
    generalize jo st σ (ev C ρ x)=z at hr ⊢;cases z<;>(try simp only at hr ⊢)<;>first|exact hr.elim|skip
    generalize nU st (ev C ρ k)=z at hr ⊢;cases z<;>(try simp only at hr ⊢)<;>first|exact hr.elim|exact hk _ _ hr
   all_goals ((try unfold tyT at hr ⊢);split at hr<;>first|exact hk _ _ hr|exact hr.elim)
  simp only[bM]at h ⊢;cases hg:o.g with
  | none=>rw[hg]at h;exact step (fun _ _ hh=>dy hq hh) h
  | some p=>
   obtain⟨t,want⟩:=p;rw[hg]at h;simp only at h ⊢;split at h
   .rename_i b hb;exact⟨fun e=>step (fun _ _ hh=>dy hq hh) (h.1 e),fun e=>dy hq (h.2 e)⟩
   .rename_i hb;exact dy hq h
   .exact h.elim
theorem fR{op:OP}{k k':V->Prop}(hk:∀v,k v->k' v)(h:aN C op ρ σ k):aN C op ρ σ k':=by
 obtain⟨v,h1,h2⟩:=fg h;unfold aN at h1 ⊢;split at h1
 .obtain⟨u,g1,g2⟩:=h1;subst g2;exact⟨u,g1,hk _ h2⟩
 .split at h1
  .obtain⟨u,g1,g2⟩:=h1;subst g2;exact⟨u,g1,hk _ h2⟩
  .exact h1.elim
 .split at h1
  .exact⟨h1.1,hk _ (h1.2▸h2)⟩
  .exact h1.elim
 .obtain⟨u,g1,g2⟩:=h1;subst g2;exact⟨u,g1,hk _ h2⟩
 .split at h1
  .subst h1;exact hk _ h2
  .exact h1.elim
theorem cK{K K':ac->Prop}(hk:∀ρ,K ρ->K' ρ):∀{l:List O} {ρ:ac},aQ C l ρ σ K->aQ C l ρ σ K'
 | [],ρ,h=>hk _ h
 | o::r,ρ,h=>by
  simp only[aQ]at h ⊢;cases hg:o.g with
  | none=>rw[hg]at h;exact fR (fun _ hh=>cK hk hh) h
  | some p=>
   obtain⟨t,want⟩:=p;rw[hg]at h;simp only at h ⊢;split at h
   .rename_i b hb;exact⟨fun e=>fR (fun _ hh=>cK hk hh) (h.1 e),fun e=>cK hk (h.2 e)⟩
   .rename_i hb;exact cK hk h
   .exact h.elim
theorem fe{c:Cell}{K K':ac->LLD->Prop}(hk:∀ρ r,K ρ r->K' ρ r):∀{l:List O} {ρ:ac} {acc:Option LLD},cM C c σ σ2 l ρ acc K->cM C c σ σ2 l ρ acc K'
 | [],ρ,acc,h=>by
  cases acc with
  | none=>exact h.elim
  | some r=>exact hk _ _ h
 | o::r,ρ,acc,h=>by
  unfold cM at h ⊢;split at h
  .exact⟨h.1,h.2.1,fe hk h.2.2⟩
  .refine⟨h.1,?_⟩;have h2:=h.2;split at h2
   .exact⟨h2.1,fe hk h2.2⟩
   .exact h2.elim
  .exact⟨h.1,h.2.1,h.2.2.1,fe hk h.2.2.2⟩
  .split at h
   .exact fR (fun v hh=>⟨hh.1,fe hk hh.2⟩) h
   .split at h
    .exact⟨fun e=>fR (fun v hh=>⟨hh.1,fe hk hh.2⟩) (h.1 e),fun e=>fe hk (h.2 e)⟩
    .exact fe hk h
    .exact h.elim
theorem gE{K K':ac->LLV->Prop}(hk:∀ρ r,K ρ r->K' ρ r):∀{l:List O} {ρ:ac} {acc:Option LLV},gX C σ l ρ acc K->gX C σ l ρ acc K'
 | [],ρ,acc,h=>by
  cases acc with
  | none=>exact h.elim
  | some r=>exact hk _ _ h
 | o::r,ρ,acc,h=>by
  unfold gX at h ⊢;split at h
  .refine⟨h.1,h.2.1,?_⟩;have h2:=h.2.2;split at h2
   .split at h2
    .exact⟨h2.1,gE hk h2.2⟩
    .exact h2.elim
   .exact h2.elim
  .split at h
   .exact fR (fun v hh=>gE hk hh) h
   .split at h
    .exact⟨fun e=>fR (fun v hh=>gE hk hh) (h.1 e),fun e=>gE hk (h.2 e)⟩
    .exact gE hk h
    .exact h.elim
theorem gD{K K':ac->LLV->Prop}{P P':V->LLV->Prop}(hk:∀ρ r,K ρ r->K' ρ r)(hp:∀u r,P u r->P' u r):∀{l:List (O×GK)} {m:Nat} {h:List LLV} {p:List PendG} {ρ:ac} {σ:LLV},eE C P K l m h p ρ σ->eE C P' K' l m h p ρ σ
 | [],_,_,_,_,_,hg=>hk _ _ hg
 | (o,.free _)::r,_,_,_,_,_,hg=>by
  simp only[eE]at hg ⊢;exact cK (fun ρ' hh=>gD hk hp hh) hg
 | (o,.calm _ _)::r,_,_,_,_,_,hg=>by
  simp only[eE]at hg ⊢;exact cK (fun ρ' hh=>⟨hh.1,gD hk hp hh.2⟩) hg
 | (o,.slot _)::r,_,_,_,_,_,hg=>by
  simp only[eE]at hg ⊢;exact dy (fun e ρ' σ' hh=>⟨hh.1,gD hk hp hh.2⟩) hg
 | (⟨d,op,g⟩,.act)::r,m,h,p,ρ,σ,hg=>by
  have call:∀{f:FuncId} {vs:List V},((∃v σ1,Fun C f vs σ (fun o σ'=>o=.ret v/\σ'=σ1)/\reG C (m+1) σ1 p/\eE C P K r (m+1) (σ::h) p (putd ρ d v) σ1)\/(Fun C f vs σ (fun o σ'=>∃u,o=.panic u/\P u σ')/\eT C r m h (putd ρ d .junk) σ))->
   ((∃v σ1,Fun C f vs σ (fun o σ'=>o=.ret v/\σ'=σ1)/\reG C (m+1) σ1 p/\eE C P' K' r (m+1) (σ::h) p (putd ρ d v) σ1)\/(Fun C f vs σ (fun o σ'=>∃u,o=.panic u/\P' u σ')/\eT C r m h (putd ρ d .junk) σ)):=fun{f vs} hh=>by
   rcases hh with⟨v,σ1,h1,h2,h3⟩|⟨h1,h2⟩
   .exact .inl ⟨v,σ1,h1,h2,gD hk hp h3⟩
   .exact .inr ⟨h1.mono fun o σ' ⟨u,e1,e2⟩=>⟨u,e1,hp _ _ e2⟩,h2⟩
  cases op;case call f args=>simp only[eE]at hg ⊢;exact call hg
  case callv x args=>
   simp only[eE]at hg ⊢;obtain⟨f,cap,e,hh⟩:=hg;exact⟨f,cap,e,call hh⟩
  all_goals
   simp only[eE]at hg ⊢;exact dy (fun e ρ' σ' hh=>⟨hh.1,hh.2.1,gD hk hp hh.2.2⟩) hg
theorem iI:∀{c:Cd} {ρ:ac} {σ:LLV} {Q Q':ce},(∀e ρ σ,Q e ρ σ->Q' e ρ σ)->awp C n0 c ρ σ Q->awp C n0 c ρ σ Q':=by
 intro c
 induction c with
 | skip=>exact fun hq h=>hq _ _ _ h
 | ops l keep=>exact fun hq h=>dy (fun e ρ σ=>hq e _ σ) h
 | raw l es keep=>exact fun hq h pr M0 bm0 w0 id ops n M bm tk a w h1 h2 h3 h4 h5 h6=>wp_mono (h pr M0 bm0 w0 id ops n M bm tk a w h1 h2 h3 h4 h5 h6) (fun e a w hL=>hL.imp fun x ρ σ=>hq x _ σ)
 | draw l keep=>exact fun hq h=>cK (fun ρ=>hq _ _ _) h
 | drawa l keep=>
  intro ρ σ Q Q' hq h;obtain⟨c,cs,h1,h2,h3⟩:=h;exact⟨c,cs,h1,h2,fe (fun ρ r hh=>hq _ _ _ hh) h3⟩
 | draws l keep=>exact fun hq h=>gE (fun ρ r hh=>hq _ _ _ hh) h
 | drawp l x=>exact fun hq h=>cK (fun ρ ⟨ty,u,e,hh⟩=>⟨ty,u,e,fun ρ2=>hq _ _ _ (hh ρ2)⟩) h
 | drawt p l m keep=>exact fun hq h=>cK (fun ρ hh=>dy (fun e ρ σ h=>⟨h.1,hq _ _ _ h.2⟩) hh) h
 | drawg l keep=>
  intro ρ σ Q Q' hq h;exact gD (fun ρ σ hh=>hq _ _ _ hh) (fun u σ hh ρ'=>hq _ _ _ (hh ρ')) h
 | seq a b iha ihb=>
  exact fun hq h=>iha (fun e ρ σ hh=>by
   cases e with
   | normal=>exact ihb hq hh
   | ret=>exact hq _ _ _ hh
   | exit i=>exact hq _ _ _ hh
   | panic v=>exact hq _ _ _ hh) h
 | cond x a b iha ihb=>
  intro ρ σ Q Q' hq h;simp only[awp]at h ⊢;generalize ev C ρ x=z at h ⊢;cases z<;>(try simp only at h ⊢)<;>first|exact h.elim|skip
  rename_i x;cases x<;>(try simp only at h ⊢)<;>first|exact h.elim|skip
  rename_i v;cases v<;>(try simp only at h ⊢)<;>first|exact h.elim|skip
  exact⟨fun e=>iha hq (h.1 e),fun e=>ihb hq (h.2 e)⟩
 | block id a ih=>
  exact fun hq h=>ih (fun e ρ σ hh=>by
   cases e with
   | normal=>exact hq _ _ _ hh
   | ret=>exact hq _ _ _ hh
   | exit i=>
    simp only[nI]at hh ⊢;split
    .rename_i e;rw[if_pos e]at hh;exact hq _ _ _ hh
    .rename_i e;rw[if_neg e]at hh;exact hq _ _ _ hh
   | panic v=>exact hq _ _ _ hh) h
 | loop a ih=>
  intro ρ σ Q Q' hq h;obtain⟨ρ1,σ1,h0,I,h1,h2⟩:=h
  exact⟨ρ1,σ1,h0,I,h1,fun m ρ' σ' hI=>ih (fun e ρ σ hh=>by
   cases e with
   | normal=>exact hh
   | ret=>exact hq _ _ _ hh
   | exit i=>exact hq _ _ _ hh
   | panic v=>exact hq _ _ _ hh) (h2 m ρ' σ' hI)⟩
 | exit id=>exact fun hq h=>hq _ _ _ h
 | ret=>exact fun hq h=>hq _ _ _ h
theorem qB{a:Cd}(I:Nat->ac->LLV->Prop)(m:Nat){ρ1:ac}{σ1:LLV}(hu:d5 n0 ρ σ ρ1 σ1)(h0:I m ρ1 σ1)
 (h:∀m ρ' σ',I m ρ' σ'->awp C n0 a ρ' σ' (andThen (fun ρ'' σ''=>∃m',m'<m/\∃ρ3 σ3,d5 n0 ρ'' σ'' ρ3 σ3/\I m' ρ3 σ3) Q)):awp C n0 (.loop a) ρ σ Q:=
 ⟨ρ1,σ1,hu,I,⟨m,h0⟩,h⟩
theorem nR{R R':ac->LLV->Prop}{Q:ce}(h:∀ρ σ,R ρ σ->R' ρ σ):∀e ρ σ,andThen R Q e ρ σ->andThen R' Q e ρ σ:=fun e ρ σ hh=>by
 cases e with
 | normal=>exact h _ _ hh
 | ret=>exact hh
 | exit i=>exact hh
 | panic v=>exact hh
theorem Dd{a:Cd}(I:Nat->ac->LLV->Prop)(m:Nat){σ1:LLV}(hu:Up σ σ1)(h0:I m ρ σ1)
 (h:∀m ρ' σ',I m ρ' σ'->awp C n0 a ρ' σ' (andThen (fun ρ'' σ''=>∃m',m'<m/\∃k,n0≤k/\ai k (σ''.take k)=true/\an k ρ''=true/\I m' ρ'' (σ''.take k)) Q)):awp C n0 (.loop a) ρ σ Q:=
 qB I m (d5.up n0 ρ hu) h0 fun m ρ' σ' hI=>iI (nR fun ρ'' σ'' ⟨m',h1,k,h2,h3,h4,h5⟩=>⟨m',h1,ρ'',σ''.take k,.cut h2 h3 h4,h5⟩) (h m ρ' σ' hI)
theorem Av{a:Cd}(ks:List Nat)(I:Nat->ac->LLV->Prop)(m:Nat){σ1:LLV}(hu:Up σ σ1)(h0:I m (aG ks ρ) σ1)
 (h:∀m ρ' σ',I m ρ' σ'->awp C n0 a ρ' σ' (andThen (fun ρ'' σ''=>∃m',m'<m/\∃k,n0≤k/\ai k (σ''.take k)=true/\an k (aG ks ρ'')=true/\I m' (aG ks ρ'') (σ''.take k)) Q)):awp C n0 (.loop a) ρ σ Q:=
 qB I m ((d5.keep n0 ks ρ σ).trans (d5.up n0 _ hu)) h0 fun m ρ' σ' hI=>iI (nR fun ρ'' σ'' ⟨m',h1,k,h2,h3,h4,h5⟩=>⟨m',h1,_,σ''.take k,(d5.keep n0 ks ρ'' σ'').trans (.cut h2 h3 h4),h5⟩) (h m ρ' σ' hI)
end
mutual
theorem V.under_mono{k j:Nat}(hj:k≤j):∀v:V,V.under k v=true->V.under j v=true
 | .agg cs,h=>by simp only[V.under]at h ⊢;exact V.unders_mono hj cs h
 | .tup cs,h=>by simp only[V.under]at h ⊢;exact V.unders_mono hj cs h
 | .fn _ cs,h=>by simp only[V.under]at h ⊢;exact V.unders_mono hj cs h
 | .bnd _ cs,h=>by simp only[V.under]at h ⊢;exact V.unders_mono hj cs h
 | .iface _ v,h=>by simp only[V.under]at h ⊢;exact V.under_mono hj v h
 | .ptr i o,h=>by simp only[V.under,decide_eq_true_eq]at h ⊢;omega
 | .bsl i o n m,h=>by simp only[V.under,decide_eq_true_eq]at h ⊢;omega
 | .mp i,h=>by simp only[V.under,decide_eq_true_eq]at h ⊢;omega
 | .bsc i n c,h=>by simp only[V.under,decide_eq_true_eq]at h ⊢;omega
 | .mapc _ kv,h=>by simp only[V.under]at h ⊢;exact V.underkv_mono hj kv h
 | .d _,_=>rfl
 | .own _ _ _,_=>rfl
 | .nil,_=>rfl
 | .row _ _,_=>rfl
 | .junk,_=>rfl
theorem V.unders_mono{k j:Nat}(hj:k≤j):∀cs:List V,V.unders k cs=true->V.unders j cs=true
 | [],_=>rfl
 | x::r,h=>by
  simp only[V.unders,Pg]at h ⊢;exact⟨V.under_mono hj x h.1,V.unders_mono hj r h.2⟩
theorem V.underkv_mono{k j:Nat}(hj:k≤j):∀kv:List (Key×V),V.underkv k kv=true->V.underkv j kv=true
 | [],_=>rfl
 | (q,x)::r,h=>by
  simp only[V.underkv,V.underp,Pg]at h ⊢;exact⟨V.under_mono hj x h.1,V.underkv_mono hj r h.2⟩
end
theorem nV{σ:LLV}{k j:Nat}(h:ai k σ=true)(hj:k≤j):ai j σ=true:=by
 unfold ai at *;rw[List.all_eq_true]at h ⊢;exact fun cs hcs=>V.unders_mono hj cs (h cs hcs)
theorem aq{σ l:LLV}(h:ai σ.length σ=true)(hl:l.all (fun cs=>V.unders (σ++l).length cs)=true):ai (σ++l).length (σ++l)=true:=by
 have:=nV h (j:=(σ++l).length) (by simp);unfold ai at *;rw[List.all_append,this,hl];rfl
theorem aF{σ σ':LLV}{ρ:ac}{rs:List RV}{Q:Out->LLV->Prop}(hb:ai σ.length σ=true){v:V}(h:aL σ' ρ rs=some v)(hv:V.under σ.length v=true)(hσ:σ'.take σ.length=σ)(hq:Q (.ret v) σ):fin σ.length rs Q .ret ρ σ':=
 ⟨ρ,σ',.refl _ _ _,v,h,σ.length,Nat.le_refl _,by rw[hσ];exact hb,hv,by rw[hσ];exact hq⟩
def Nxt(n0:Nat)(R:ac->LLV->Prop)(ρ:ac)(σ:LLV)(_:Tag R):Prop:=∃k,n0≤k/\ai k (σ.take k)=true/\an k ρ=true/\R ρ (σ.take k)
theorem Nxt.same{n0:Nat}{R:ac->LLV->Prop}{ρ:ac}{σ:LLV}(hn:n0≤σ.length)(hb:ai σ.length σ=true)(hs:an σ.length ρ=true)(hR:R ρ σ):Nxt n0 R ρ σ .mk:=
 ⟨σ.length,hn,by rw[Pn];exact hb,hs,by rw[Pn];exact hR⟩
theorem Nxt.drop{n0:Nat}{R:ac->LLV->Prop}{ρ:ac}{σ l:LLV}(hn:n0≤σ.length)(hb:ai σ.length σ=true)(hs:an σ.length ρ=true)(hR:R ρ σ):Nxt n0 R ρ (σ++l) .mk:=
 ⟨σ.length,hn,by rw[Pp];exact hb,hs,by rw[Pp];exact hR⟩
theorem DO{C:Cx}{n0:Nat}{ρ:ac}{σ:LLV}{Q:ce}{a:Cd}(R:Nat->ac->LLV->Prop)(n:Nat){σ1:LLV}(hu:Up σ σ1)(h0:R 0 ρ σ1)
 (h:∀j ρ' σ',j≤n->R j ρ' σ'->d7 C n0 a ρ' σ' (andThen (fun ρ'' σ''=>j<n/\Nxt n0 (R (j+1)) ρ'' σ'' .mk) Q) .mk)(t:Tag Q):d7 C n0 (.loop a) ρ σ Q t:=
 Dd (fun m ρ σ=>∃j,j≤n/\m=n-j/\R j ρ σ) n hu ⟨0,by omega,by omega,h0⟩ fun m ρ' σ' ⟨j,hj,hm,hR⟩=>by
  have hi:∀e ρ'' σ'',andThen (fun ρ'' σ''=>j<n/\Nxt n0 (R (j+1)) ρ'' σ'' .mk) Q e ρ'' σ''->andThen (fun ρ'' σ''=>∃m',m'<m/\∃k,n0≤k/\ai k (σ''.take k)=true/\an k ρ''=true/\∃j,j≤n/\m'=n-j/\R j ρ'' (σ''.take k)) Q e ρ'' σ'':=by
   intro e ρ'' σ'' h;cases e with
   | normal=>
    obtain⟨h1,k,h2,h3,h4,h5⟩:=h;exact⟨n-(j+1),by omega,k,h2,h3,h4,j+1,by omega,rfl,h5⟩
   | ret=>exact h
   | exit i=>exact h
   | panic v=>exact h
  exact iI hi (h j ρ' σ' hj hR)
theorem qy{C:Cx}{n0:Nat}{ρ:ac}{σ:LLV}{Q:ce}{a:Cd}(ks:List Nat)(R:Nat->ac->LLV->Prop)(n:Nat){σ1:LLV}(hu:Up σ σ1)(h0:R 0 (aG ks ρ) σ1)
 (h:∀j ρ' σ',j≤n->R j ρ' σ'->d7 C n0 a ρ' σ' (andThen (fun ρ'' σ''=>j<n/\Nxt n0 (R (j+1)) (aG ks ρ'') σ'' .mk) Q) .mk)(t:Tag Q):d7 C n0 (.loop a) ρ σ Q t:=
 Av ks (fun m ρ σ=>∃j,j≤n/\m=n-j/\R j ρ σ) n hu ⟨0,by omega,by omega,h0⟩ fun m ρ' σ' ⟨j,hj,hm,hR⟩=>by
  have hi:∀e ρ'' σ'',andThen (fun ρ'' σ''=>j<n/\Nxt n0 (R (j+1)) (aG ks ρ'') σ'' .mk) Q e ρ'' σ''->andThen (fun ρ'' σ''=>∃m',m'<m/\∃k,n0≤k/\ai k (σ''.take k)=true/\an k (aG ks ρ'')=true/\∃j,j≤n/\m'=n-j/\R j (aG ks ρ'') (σ''.take k)) Q e ρ'' σ'':=by
   intro e ρ'' σ'' h;cases e with
   | normal=>
    obtain⟨h1,k,h2,h3,h4,h5⟩:=h;exact⟨n-(j+1),by omega,k,h2,h3,h4,j+1,by omega,rfl,h5⟩
   | ret=>exact h
   | exit i=>exact h
   | panic v=>exact h
  exact iI hi (h j ρ' σ' hj hR)
theorem aI{C:Cx}{n0:Nat}{ρ:ac}{σ:LLV}{Q:ce}{a:Cd}(ks:List Nat)(R:Nat->ac->LLV->Prop)(n:Nat)(h0:R 0 (aG ks ρ) σ)
 (h:∀j ρ' σ',j≤n->R j ρ' σ'->d7 C n0 a ρ' σ' (andThen (fun ρ'' σ''=>j<n/\Nxt n0 (R (j+1)) (aG ks ρ'') σ'' .mk) Q) .mk)(t:Tag Q):d7 C n0 (.loop a) ρ σ Q t:=qy ks R n (.refl σ) h0 h t
theorem oc{C:Cx}{n0:Nat}{ρ:ac}{σ:LLV}{Q:ce}{a:Cd}(R:Nat->ac->LLV->Prop)(n:Nat)(h0:R 0 ρ σ)
 (h:∀j ρ' σ',j≤n->R j ρ' σ'->d7 C n0 a ρ' σ' (andThen (fun ρ'' σ''=>j<n/\Nxt n0 (R (j+1)) ρ'' σ'' .mk) Q) .mk)(t:Tag Q):d7 C n0 (.loop a) ρ σ Q t:=DO R n (.refl σ) h0 h t
def aO(v:V)(σ:LLV):Out->LLV->Prop:=fun o σ'=>o=.ret v/\σ'=σ
theorem av{σ σ2:LLV}{ρ:ac}{rs:List RV}(hb:ai σ.length σ=true){v:V}(h:aL σ2 ρ rs=some v)(hv:V.under σ.length v=true)(ht:σ2.take σ.length=σ:=by first|exact List.take_length|exact List.take_left):fin σ.length rs (aO v σ) .ret ρ σ2:=aF hb h hv ht ⟨rfl,rfl⟩
theorem ax{σ τ:LLV}{ρ:ac}{rs:List RV}(hb:ai σ.length σ=true){v:V}(h:aL (σ++τ) ρ rs=some v)(hv:V.under σ.length v=true):fin σ.length rs (aO v σ) .ret ρ (σ++τ):=aF hb h hv Pp ⟨rfl,rfl⟩
theorem aj{C:Cx}{f:FuncId}{args:List V}{σ:LLV}{v:V}{K P:V->LLV->Prop}{s:Tag K}{t:Tag P}(h:Fun C f args σ (aO v σ))(hk:K v σ):iq C f args σ K P s t:=
 h.mono fun o σ' ⟨e1,e2⟩=>by subst e1;subst e2;exact hk
theorem bp{C:Cx}{f:FuncId}{args:List V}{σ:LLV}{v:V}{k:V->Prop}{t:Tag k}(h:Fun C f args σ (aO v σ))(hk:k v):CU C f args σ k t:=⟨v,h,hk⟩
theorem aE{C:Cx}{f:FuncId}{args:List V}{σ:LLV}{K P:V->LLV->Prop}{s:Tag K}{t:Tag P}{Q:Out->LLV->Prop}(h:Fun C f args σ Q)(hk:∀o σ',Q o σ'->C4 K P o σ'):iq C f args σ K P s t:=h.mono hk
theorem al{C:Cx}{f:FuncId}{fn:Func}{c:Cd}{rs:List RV}{args:List V}{σ:LLV}{Q:Out->LLV->Prop}(hf:C.P.funcs[f]? = some fn)(hok:aP C.tab fn args.length c rs=true)(hno:args.all (! ·.isOwn)=true)
 (h:ai σ.length σ=true->(∀i (h:i<args.length),V.Wf args[i])->d7 C σ.length c (eF 0 args) σ (fin σ.length rs Q) .mk):Fun C f args σ Q:=zY hf hok hno h
section
variable {σ : LLV}
theorem EZ(rows:LLD):lj false (.d (.sl rows))=some (aC .i64 rows.length):=rfl
theorem yW(T k:Nat)(rows:LLD):lj false (.own T k rows)=some (aC .i64 rows.length):=rfl
theorem Au:lj false .nil=some (aC .i64 0):=rfl
theorem AH(s:ByteArray):lj true (.d (.lit (.string s)))=some (aC .i64 s.size):=rfl
theorem Cb(rows:LLD):eC (.d (.sl rows))=some rows:=rfl
theorem uY(T k:Nat)(rows:LLD):eC (.own T k rows)=some rows:=rfl
theorem vL:eC .nil=some []:=rfl
theorem KU(k:IntKind)(a b:Int):co .add (.d (.lit (.int k a))) (.d (.lit (.int k b)))=some (aC k (k.wrap (a+b))):=by simp[co,cI,kM]
theorem LW(k:IntKind)(a b:Int):co .sub (.d (.lit (.int k a))) (.d (.lit (.int k b)))=some (aC k (k.wrap (a-b))):=by simp[co,cI,kM]
theorem LO(k:IntKind)(a b:Int):co .mul (.d (.lit (.int k a))) (.d (.lit (.int k b)))=some (aC k (k.wrap (a*b))):=by simp[co,cI,kM]
theorem Ly(k:IntKind)(a b:Int):co .quo (.d (.lit (.int k a))) (.d (.lit (.int k b)))=if b=0 then none else some (aC k (k.wrap (a.tdiv b))):=by simp[co,cI,kM]
theorem JE(k:IntKind)(a b:Int):co .rem (.d (.lit (.int k a))) (.d (.lit (.int k b)))=if b=0 then none else some (aC k (a.tmod b)):=by simp[co,cI,kM]
theorem HF(k:IntKind)(a b:Int):co .and (.d (.lit (.int k a))) (.d (.lit (.int k b)))=some (aC k (k.wrap (BitVec.ofInt k.bits a &&& BitVec.ofInt k.bits b).toNat)):=by simp only[co,cI,Ph,if_false,if_true,kM]
theorem MW(k:IntKind)(a b:Int):co .or (.d (.lit (.int k a))) (.d (.lit (.int k b)))=some (aC k (k.wrap (BitVec.ofInt k.bits a ||| BitVec.ofInt k.bits b).toNat)):=by simp only[co,cI,Ph,if_false,if_true,kM]
theorem IE(k:IntKind)(a b:Int):co .xor (.d (.lit (.int k a))) (.d (.lit (.int k b)))=some (aC k (k.wrap (BitVec.ofInt k.bits a ^^^ BitVec.ofInt k.bits b).toNat)):=by simp only[co,cI,Ph,if_false,if_true,kM]
theorem Ko(k:IntKind)(a b:Int):co .eql (.d (.lit (.int k a))) (.d (.lit (.int k b)))=some (ak (decide (a=b))):=by simp[co,cI,kM];rfl
theorem LA(k:IntKind)(a b:Int):co .neq (.d (.lit (.int k a))) (.d (.lit (.int k b)))=some (ak (!decide (a=b))):=by simp[co,cI,kM];rfl
theorem Mc(k:IntKind)(a b:Int):co .lss (.d (.lit (.int k a))) (.d (.lit (.int k b)))=some (ak (decide (a<b))):=by simp[co,cI,kM]
theorem MF(k:IntKind)(a b:Int):co .leq (.d (.lit (.int k a))) (.d (.lit (.int k b)))=some (ak (decide (a≤b))):=by simp[co,cI,kM]
theorem Lm(k:IntKind)(a b:Int):co .gtr (.d (.lit (.int k a))) (.d (.lit (.int k b)))=some (ak (decide (b<a))):=by simp[co,cI,kM]
theorem K5(k:IntKind)(a b:Int):co .geq (.d (.lit (.int k a))) (.d (.lit (.int k b)))=some (ak (decide (b≤a))):=by simp[co,cI,kM]
theorem GT(k k':IntKind)(a b:Int):co .shl (.d (.lit (.int k a))) (.d (.lit (.int k' b)))=if b<0 then none else some (aC k (k.wrap (a*2^(min b.toNat k.bits)))):=by simp[co,cI,xx]
theorem J7(k k':IntKind)(a b:Int):co .shr (.d (.lit (.int k a))) (.d (.lit (.int k' b)))=if b<0 then none else some (aC k (a.fdiv (2^(min b.toNat k.bits)))):=by simp[co,cI,xx]
theorem uc(a b:ByteArray):(a.toList==b.toList)=decide (a=b):=by
 rw[ByteArray.toList_eq,ByteArray.toList_eq,Bool.eq_iff_iff];simp only[beq_iff_eq,decide_eq_true_eq];constructor
 .intro h;cases a;cases b;simp only[ByteArray.mk.injEq];exact Array.toList_inj.1 h
 .intro h;rw[h]
theorem HA(a b:ByteArray):co .eql (.d (.lit (.string a))) (.d (.lit (.string b)))=some (ak (decide (a=b))):=by simp only[co,Gm,uc]
theorem Hb(a b:ByteArray):co .neq (.d (.lit (.string a))) (.d (.lit (.string b)))=some (ak (!decide (a=b))):=by simp only[co,Gm,uc]
theorem Dy(a b:ByteArray):co .add (.d (.lit (.string a))) (.d (.lit (.string b)))=if a.size+b.size≤9223372036854775807 then some (wP (a++b))else none:=rfl
theorem Hv(a b:ByteArray):co .lss (.d (.lit (.string a))) (.d (.lit (.string b)))=some (ak (Op.bytesLess a.toList b.toList)):=rfl
theorem J5(neq:Bool)(ks:List Kd)(a b:List V):iY neq ks (.agg a) (.agg b)=(cJ ks a b).map fun r=>ak (bif neq then !r else r):=by
 unfold iY;simp only;cases cJ ks a b<;>rfl
theorem Mw:cJ [] [] []=some true:=rfl
theorem LX(k:IntKind)(ks:List Kd)(a b:Int)(r s:List V):cJ (.i k::ks) (.d (.lit (.int k a))::r) (.d (.lit (.int k b))::s)=(cJ ks r s).map fun z=>decide (a=b)&&z:=by
 simp only[cJ,kW,and_self,if_true];cases cJ ks r s<;>rfl
theorem MM(ks:List Kd)(a b:ByteArray)(r s:List V):cJ (.s::ks) (.d (.lit (.string a))::r) (.d (.lit (.string b))::s)=(cJ ks r s).map fun z=>decide (a=b)&&z:=by
 simp only[cJ,kW];cases cJ ks r s<;>rfl
theorem He(ks:List Kd)(a b:Bool)(r s:List V):cJ (.b::ks) (.d (.lit (.bool a))::r) (.d (.lit (.bool b))::s)=(cJ ks r s).map fun z=>(a==b)&&z:=by
 simp only[cJ,kW];cases cJ ks r s<;>rfl
theorem z8(neq:Bool):sa neq (.d (.lit .nilIface))=some (ak (!neq)):=rfl
theorem De(neq:Bool)(t:TypeId)(x:V):sa neq (.iface t x)=some (ak neq):=rfl
theorem AE(neq:Bool):MN neq (.d (.lit (.pointer none)))=some (ak (!neq)):=rfl
theorem AU(neq:Bool)(i o:Nat):MN neq (.ptr i o)=some (ak neq):=rfl
theorem IY(f:FuncId)(cs:List V):V.copy (.bnd f cs)=.bnd f cs:=rfl
theorem Iu(f:FuncId)(cs:List V):V.lend (.bnd f cs)=.bnd f cs:=rfl
theorem IX(a b:Bool):GI .eql (.d (.lit (.bool a))) (.d (.lit (.bool b)))=some (ak (a==b)):=rfl
theorem H1(a b:Bool):GI .neq (.d (.lit (.bool a))) (.d (.lit (.bool b)))=some (ak (!(a==b))):=rfl
theorem LT(b:Bool):unV .not (.d (.lit (.bool b)))=some (ak (!b)):=rfl
theorem KK(k:IntKind)(n:Int):unV .neg (.d (.lit (.int k n)))=some (aC k (k.wrap (0-n))):=rfl
theorem Hq(c a b:Bool):iJ (.d (.lit (.bool c))) (.d (.lit (.bool a))) (.d (.lit (.bool b)))=some (ak (bif c then a else b)):=rfl
theorem zz(b:Bool):iJ (.d (.lit (.bool false))) (.tup []) (.d (.lit (.bool b)))=some (ak b):=rfl
theorem Aj(a:Bool):iJ (.d (.lit (.bool true))) (.d (.lit (.bool a))) (.tup [])=some (ak a):=rfl
theorem y8(b:Bool):iJ (.d (.lit (.bool false))) .junk (.d (.lit (.bool b)))=some (ak b):=rfl
theorem zv(a:Bool):iJ (.d (.lit (.bool true))) (.d (.lit (.bool a))) .junk=some (ak a):=rfl
theorem DE(off i o:Nat):faV off (.ptr i o)=some (.ptr i (o+off)):=rfl
theorem Er(off:Nat)(cs:List D)(o:Nat):faV off (.row cs o)=some (.row cs (o+off)):=rfl
def iaK(k:Nat)(o:Option (List D)):Option V:=match o with|some r=>if r.length=k then some (.row r 0)else none|none=>none
theorem ge(k:Nat)(r:List D):iaK k (some r)=if r.length=k then some (.row r 0)else none:=rfl
theorem DW(k:Nat)(y:D)(kd:IntKind)(j:Nat):iaV k (.d y) (.d (.lit (.int kd (j:Int))))=(eC (.d y)).bind fun rows=>iaK k rows[j]? := by
 unfold iaV;cases h:eC (.d y)with
 | none=>simp only[h];rfl
 | some rows=>simp only[h,Option.bind_some,Pk];rw[if_pos (by omega)];rfl
theorem BR(k T k':Nat)(rows:LLD)(kd:IntKind)(j:Nat):iaV k (.own T k' rows) (.d (.lit (.int kd (j:Int))))=iaK k rows[j]? := by
 unfold iaV;simp only[eC,Pk];rw[if_pos (by omega)];rfl
theorem Dq(k b off n:Nat)(kd:IntKind)(j:Nat):iaV k (.bsl b off n k) (.d (.lit (.int kd (j:Int))))=if j<n then some (.ptr b (off+j*k))else none:=by
 unfold iaV;simp only[Pk,and_true];by_cases h:j<n
 .rw[if_pos h,if_pos (by omega)]
 .rw[if_neg h,if_neg (by omega)]
theorem yG(b off n k:Nat):lj false (.bsl b off n k)=some (aC .i64 n):=rfl
def ixK(o:Option UInt8):Option V:=match o with|some b=>some (aC .u8 b.toNat)|none=>none
theorem D3(b:UInt8):ixK (some b)=some (aC .u8 b.toNat):=rfl
theorem CA(s:ByteArray)(kd:IntKind)(j:Nat):ixV (.d (.lit (.string s))) (.d (.lit (.int kd (j:Int))))=ixK s.data.toList[j]? := by
 simp only[ixV,Pk];rw[if_pos (by omega)];rfl
theorem LB(off k:Nat)(ag:Bool)(cs:List V):vF off k ag (.agg cs)=if off+k≤cs.length then ii ag ((cs.drop off).take k)else none:=rfl
theorem E7(c:V):ii false [c]=some c.copy:=rfl
theorem F0(cs:List V):ii true cs=some (.agg (cs.map V.copy)):=rfl
theorem Ms(cs:List V)(i:Nat):pc (.tup cs) i=(cs[i]?).map V.copy:=by simp only[pc];cases cs[i]?<;>rfl
theorem Ib(k k':IntKind)(n:Int):rq k (.d (.lit (.int k' n)))=some (aC k (k.wrap n)):=rfl
theorem uA(i o:Nat):gi (.ptr i o)=some (.ptr i o):=rfl
theorem s9(cs:List D)(o:Nat):gi (.row cs o)=some (.row cs o):=rfl
theorem vU(f:FuncId)(cs:List V):gi (.fn f cs)=some (.fn f cs):=rfl
theorem Oo(g:Bool)(k:IntKind)(a b:Int):mxV g (.d (.lit (.int k a))) (.d (.lit (.int k b)))=some (aC k (if g then max a b else min a b)):=by
 have h1:(if b>a then b else a)=max a b:=by rw[Int.max_def];split<;>split<;>omega
 have h2:(if b<a then b else a)=min a b:=by rw[Int.min_def];split<;>split<;>omega
 cases g
 .simp only[mxV,if_true,Ph,if_false,h2]
 .simp only[mxV,if_true,h1]
theorem CF(T t:TypeId)(z u:V):Bu T z (.iface t u)=if t=T then some (.tup [u,ak true])else some (.tup [z,ak false]):=rfl
theorem Ii(rows:LLD)(k1 k2:IntKind)(a b:Int):KZ (.d (.sl rows)) (.d (.lit (.int k1 a))) (.d (.lit (.int k2 b)))=if a=rows.length/\b=rows.length then some (.d (.sl rows))else none:=rfl
theorem za(T:TypeId)(z:V):Bu T z (.d (.lit .nilIface))=some (.tup [z,ak false]):=rfl
theorem EU(t:TypeId)(x:D):vz t (.d x)=some (.iface t (.d x)):=rfl
theorem A9(t:TypeId)(cs:List V):vz t (.agg cs)=some (.iface t (.agg (cs.map V.copy))):=rfl
theorem xa(k:Nat)(ag:Bool)(cs:List D)(o:Nat):fI σ k ag (.row cs o)=(if o+k≤cs.length then some (((cs.drop o).take k).map V.d)else none).bind (ii ag):=rfl
def ldK(k:Nat)(ag:Bool)(o:Nat)(b:Option (List V)):Option V:=match b with|some cs=>if o+k≤cs.length/\bT cs=true then ii ag ((cs.drop o).take k)else(tyL k o cs).bind (ii ag)|none=>none
theorem uL(k:Nat)(ag:Bool)(o:Nat)(cs:List V):ldK k ag o (some cs)=if o+k≤cs.length/\bT cs=true then ii ag ((cs.drop o).take k)else(tyL k o cs).bind (ii ag):=rfl
theorem pX(k:Nat)(ag:Bool)(i o:Nat):fI σ k ag (.ptr i o)=ldK k ag o σ[i]? := by
 unfold fI lq ldK;simp only;cases σ[i]? with
 | none=>rfl
 | some cs=>simp only;split<;>rfl
theorem mW(l:LLV)(j:Nat):(σ++l)[σ.length+j]? = l[j]? := by rw[List.getElem?_append_right (by omega)];congr 1;omega
theorem ko(l:LLV):(σ++l)[σ.length]? = l[0]? := mW l 0
theorem am{i:Nat}{cs:List V}(h:σ[i]? = some cs)(l:LLV):(σ++l)[i]? = some cs:=by rw[List.getElem?_append_left (List.getElem?_eq_some_iff.1 h).1];exact h
theorem ik(l:LLV)(j:Nat)(x:List V):(σ++l).set (σ.length+j) x=σ++l.set j x:=by rw[List.set_append_right _ _ (by omega)];congr 2;omega
theorem mu(l:LLV)(x:List V):(σ++l).set σ.length x=σ++l.set 0 x:=ik l 0 x
theorem bj{i:Nat}{cs:List V}(h:σ[i]? = some cs)(l:LLV)(x:List V):(σ++l).set i x=σ.set i x++l:=by rw[List.set_append_left _ _ (List.getElem?_eq_some_iff.1 h).1]
theorem bI{a:Int}(h1 : -9223372036854775808≤a)(h2:a≤9223372036854775807):IntKind.i64.wrap a=a:=by
 simp[IntKind.wrap,IntKind.bits,IntKind.signed];split<;>omega
end
theorem Ji{rows:LLD}(h:V.Wf (.d (.sl rows))):rows.length≤9223372036854775807:=by
 cases h with|d h=>cases h with|sl _ h _=>exact h
theorem Ic{k:IntKind}{n:Int}(h:V.Wf (.d (.lit (.int k n)))):k.min≤n/\n≤k.max:=by
 cases h with|d h=>cases h with|lit _ h=>exact h
theorem xB{cs:List V}(h:V.Wf (.agg cs))(i:Nat)(hi:i<cs.length):V.Wf cs[i]:=by
 cases h with|agg h=>exact h i hi
theorem aJ{j n:Nat}(h:j<n)(hn:n≤9223372036854775807):IntKind.i64.wrap ((j:Int)+1)=((j+1:Nat):Int):=by
 rw[bI (by omega) (by omega)];rfl
set_option linter.defProp false in
def aw:=Pa (Pa (Pa (Pa (Pa (Pa (Pa (Pa (Pa @eF.eq_1 @eF.eq_2) (Pa @over.eq_1 (Pa @kH.eq_1 @kH.eq_2))) (Pa (Pa @dh.eq_1 (Pa @dh.eq_2 @io.eq_1)) (Pa @io.eq_2 (Pa @fy.eq_1 @fy.eq_2)))) (Pa (Pa (Pa @V.plain.eq_1 @V.plain.eq_2) (Pa @V.plain.eq_3 (Pa @cond_true.{1} @cond_false.{1}))) (Pa (Pa @implies_true.{0} (Pa @implies_true.{1} @eq_self.{1})) (Pa @ne_eq.{1} (Pa @HJ @Ia))))) (Pa (Pa (Pa (Pa @Fh @Iy) (Pa @AE (Pa @AU @IY))) (Pa (Pa @Iu (Pa @Fq @Dp)) (Pa @F1 (Pa @Jc @Ik)))) (Pa (Pa (Pa @Da @Di) (Pa @EL (Pa @Df @Ee))) (Pa (Pa @Iw (Pa @H7 @zh)) (Pa @Du (Pa @H8 @DR)))))) (Pa (Pa (Pa (Pa (Pa @zO @MX) (Pa @JP (Pa @LZ @Cq))) (Pa (Pa @CJ (Pa @GX @qx)) (Pa @qJ (Pa @xu @Fj)))) (Pa (Pa (Pa @Ct @BJ) (Pa @KX (Pa @y9 @Jj))) (Pa (Pa @Fs (Pa @Hd @Fz)) (Pa @ND (Pa @Hj @Ih))))) (Pa (Pa (Pa (Pa @Jk @IA) (Pa @J2 (Pa @yq @Bf))) (Pa (Pa @FG (Pa @zJ @Gv)) (Pa @Az (Pa @ve @zu)))) (Pa (Pa (Pa @zp (Pa @Am @BX)) (Pa @ua (Pa @CW @vm))) (Pa (Pa @yX (Pa @A2 @rG)) (Pa @Ng (Pa @IB @KF))))))) (Pa (Pa (Pa (Pa (Pa (Pa @NQ @I6) (Pa @FR (Pa @NO @OX))) (Pa (Pa @Nm (Pa @JX @JR)) (Pa @J8 (Pa @Jw @Jv)))) (Pa (Pa (Pa @IG @JD) (Pa @O9 (Pa @IM @IQ))) (Pa (Pa @Lz (Pa @LQ @Jr)) (Pa @Ir (Pa @KI @EQ))))) (Pa (Pa (Pa (Pa @Oh @Fk) (Pa @OI (Pa @OM @Hk))) (Pa (Pa @MI (Pa @Ml @FX)) (Pa @K9 (Pa @I4 @Hw)))) (Pa (Pa (Pa @Hx @I2) (Pa @Ld (Pa @Jb @Mn))) (Pa (Pa @wJ (Pa @E8 @Ho)) (Pa @GC (Pa @Bg @zT)))))) (Pa (Pa (Pa (Pa (Pa @ET @Mu) (Pa @Hu (Pa @HU @Hm))) (Pa (Pa @K7 (Pa @Mm @Ii)) (Pa @CF (Pa @za @Ny)))) (Pa (Pa (Pa @Oi @BS) (Pa @EN (Pa @Cs @Fv))) (Pa (Pa @A4 (Pa @yO @so)) (Pa @qr (Pa @Bn @HM))))) (Pa (Pa (Pa (Pa @C7 @Ey) (Pa @yM (Pa @BO @BD))) (Pa (Pa @wz (Pa @Bd @ww)) (Pa @CB (Pa @Nx @OQ)))) (Pa (Pa (Pa @Ig (Pa @Hf @Lf)) (Pa @Mx (Pa @Lr @LP))) (Pa (Pa @LN (Pa @LL @ML)) (Pa @J5 (Pa @Mw @LX)))))))) (Pa (Pa (Pa (Pa (Pa (Pa (Pa @MM @He) (Pa @z8 (Pa @De @NS))) (Pa (Pa @Ok (Pa @Ie @E1)) (Pa @FH (Pa @NU @O5)))) (Pa (Pa (Pa @Ob @OJ) (Pa @Np (Pa @KY @MK))) (Pa (Pa @LU (Pa @Mv @MU)) (Pa @Ht (Pa @I3 @KT))))) (Pa (Pa (Pa (Pa @KG @L5) (Pa @Id (Pa @Mz @O4))) (Pa (Pa @HG (Pa @Gw @E2)) (Pa @LY (Pa @Ka @JL)))) (Pa (Pa (Pa @Is @MA) (Pa @KD (Pa @Hs @L3))) (Pa (Pa @L6 (Pa @Im @MJ)) (Pa @DS (Pa @Lk @FU)))))) (Pa (Pa (Pa (Pa (Pa @K0 @II) (Pa @Gi (Pa @Lj @EM))) (Pa (Pa @MG (Pa @IW @LV)) (Pa @H5 (Pa @KJ @Hc)))) (Pa (Pa (Pa @EK @Hr) (Pa @Kk (Pa @ta @Ed))) (Pa (Pa @zm (Pa @vK @wO)) (Pa @Gf (Pa @Dv @yo))))) (Pa (Pa (Pa (Pa @EZ @yW) (Pa @Au (Pa @yG @BR))) (Pa (Pa @Dq (Pa @AH @Cb)) (Pa @uY (Pa @vL @KU)))) (Pa (Pa (Pa @LW (Pa @LO @Ly)) (Pa @JE (Pa @HF @MW))) (Pa (Pa @IE (Pa @Ko @LA)) (Pa @Mc (Pa @MF @Lm))))))) (Pa (Pa (Pa (Pa (Pa (Pa @K5 @GT) (Pa @J7 (Pa @HA @Hb))) (Pa (Pa @Dy (Pa @Hv @IX)) (Pa @H1 (Pa @LT @KK)))) (Pa (Pa (Pa @Hq @zz) (Pa @Aj (Pa @uZ @DH))) (Pa (Pa @y8 (Pa @zv @DE)) (Pa @Er (Pa @ge @DW))))) (Pa (Pa (Pa (Pa @D3 @CA) (Pa @LB (Pa @E7 @F0))) (Pa (Pa @Ms (Pa @Ib @uA)) (Pa @s9 (Pa @vU @Oo)))) (Pa (Pa (Pa @EU @A9) (Pa @xa (Pa @uL @pX))) (Pa (Pa @mW (Pa @ko @ik)) (Pa @mu (Pa @Option.bind_some.{0,0} @Option.map_some.{0,0})))))) (Pa (Pa (Pa (Pa (Pa @Option.map_none.{0,0} @List.getElem?_map.{0,0}) (Pa @List.length_map.{0,0} (Pa @List.length_append.{0} @List.append_assoc.{0}))) (Pa (Pa @List.cons_append.{0} (Pa @List.nil_append.{0} @List.drop_succ_cons.{0})) (Pa @List.drop_zero.{0} (Pa @List.take_succ_cons.{0} @List.take_zero.{0})))) (Pa (Pa (Pa @List.length_cons.{0} @List.length_nil.{0}) (Pa @List.getElem?_cons_zero.{0} (Pa @List.getElem?_cons_succ.{0} @List.set_cons_zero.{0}))) (Pa (Pa @List.set_cons_succ.{0} (Pa @Pw @and_true)) (Pa @true_and (Pa @true_implies @not_true_eq_false))))) (Pa (Pa (Pa (Pa @not_false_eq_true @false_implies) (Pa @Bool.not_true (Pa @Bool.not_false @List.contains_cons.{0}))) (Pa (Pa @List.contains_nil.{0} (Pa @List.map_cons.{0,0} @List.map_nil.{0,0})) (Pa @Bool.or_false (Pa @Bool.false_or @Bool.or_true)))) (Pa (Pa (Pa @Bool.true_or (Pa @Ph @Bool.true_eq_false)) (Pa @Fw (Pa @Bp @Bool.not_not))) (Pa (Pa @decide_not (Pa @List.all_cons.{0} @List.all_nil.{0})) (Pa @Pj (Pa @List.getD_cons_zero.{0} @List.getD_cons_succ.{0})))))))))
 (Pa (Pa (Pa (Pa (Pa (Pa (@id (∀x,V.copy (.d x)=.d x) fun x=>rfl) (@id (∀x,V.lend1 (.d x)=.d x) fun x=>rfl)) (Pa (@id (∀x,V.lend (.d x)=.d x) fun x=>rfl) (@id (∀x,V.cells (.d x)=[.d x]) fun x=>rfl))) (Pa (Pa (@id (∀x,V.boxable (.d x)=true) fun x=>rfl) (@id (∀x y z,V.copy (.own x y z)=.d (.sl z)) fun x y z=>rfl)) (Pa (@id (∀x y z,V.lend1 (.own x y z)=.d (.sl z)) fun x y z=>rfl) (Pa (@id (∀x y z,V.lend (.own x y z)=.d (.sl z)) fun x y z=>rfl) (@id (∀x y z,V.cells (.own x y z)=[.d (.sl z)]) fun x y z=>rfl))))) (Pa (Pa (Pa (@id (∀x y z,V.boxable (.own x y z)=true) fun x y z=>rfl) (@id (V.copy .nil=.nil) rfl)) (Pa (@id (V.lend1 .nil=.d (.sl [])) rfl) (Pa (@id (V.lend .nil=.d (.sl [])) rfl) (@id (V.cells .nil=[.nil]) rfl)))) (Pa (Pa (@id (V.boxable .nil=true) rfl) (@id (∀x,V.copy (.agg x)=.agg x) fun x=>rfl)) (Pa (@id (∀x,V.lend1 (.agg x)=.agg x) fun x=>rfl) (Pa (@id (∀x,V.lend (.agg x)=.agg (x.map V.lend1)) fun x=>rfl) (@id (∀x,V.cells (.agg x)=x.map V.copy) fun x=>rfl)))))) (Pa (Pa (Pa (Pa (@id (∀x,V.boxable (.agg x)=true) fun x=>rfl) (@id (∀x,V.copy (.tup x)=.tup x) fun x=>rfl)) (Pa (@id (∀x,V.lend1 (.tup x)=.tup x) fun x=>rfl) (@id (∀x,V.lend (.tup x)=.tup x) fun x=>rfl))) (Pa (Pa (@id (∀x,V.cells (.tup x)=[.tup x]) fun x=>rfl) (@id (∀x,V.boxable (.tup x)=false) fun x=>rfl)) (Pa (@id (∀x y,V.copy (.ptr x y)=.ptr x y) fun x y=>rfl) (Pa (@id (∀x y,V.lend1 (.ptr x y)=.ptr x y) fun x y=>rfl) (@id (∀x y,V.lend (.ptr x y)=.ptr x y) fun x y=>rfl))))) (Pa (Pa (Pa (@id (∀x y,V.cells (.ptr x y)=[.ptr x y]) fun x y=>rfl) (@id (∀x y,V.boxable (.ptr x y)=true) fun x y=>rfl)) (Pa (@id (∀x y,V.copy (.row x y)=.row x y) fun x y=>rfl) (Pa (@id (∀x y,V.lend1 (.row x y)=.row x y) fun x y=>rfl) (@id (∀x y,V.lend (.row x y)=.row x y) fun x y=>rfl)))) (Pa (Pa (@id (∀x y,V.cells (.row x y)=[.row x y]) fun x y=>rfl) (@id (∀x y,V.boxable (.row x y)=true) fun x y=>rfl)) (Pa (@id (∀x y z w,V.copy (.bsl x y z w)=.bsl x y z w) fun x y z w=>rfl) (Pa (@id (∀x y z w,V.lend1 (.bsl x y z w)=.bsl x y z w) fun x y z w=>rfl) (@id (∀x y z w,V.lend (.bsl x y z w)=.bsl x y z w) fun x y z w=>rfl))))))) (Pa (Pa (Pa (Pa (Pa (@id (∀x y z w,V.cells (.bsl x y z w)=[.bsl x y z w]) fun x y z w=>rfl) (@id (∀x y z w,V.boxable (.bsl x y z w)=true) fun x y z w=>rfl)) (Pa (@id (∀x y,V.copy (.fn x y)=.fn x y) fun x y=>rfl) (@id (∀x y,V.lend1 (.fn x y)=.fn x y) fun x y=>rfl))) (Pa (Pa (@id (∀x y,V.lend (.fn x y)=.fn x y) fun x y=>rfl) (@id (∀x y,V.cells (.fn x y)=[.fn x y]) fun x y=>rfl)) (Pa (@id (∀x y,V.boxable (.fn x y)=true) fun x y=>rfl) (Pa (@id (∀x y,V.copy (.bnd x y)=.bnd x y) fun x y=>rfl) (@id (∀x y,V.lend1 (.bnd x y)=.bnd x y) fun x y=>rfl))))) (Pa (Pa (Pa (@id (∀x y,V.lend (.bnd x y)=.bnd x y) fun x y=>rfl) (@id (∀x y,V.cells (.bnd x y)=[.bnd x y]) fun x y=>rfl)) (Pa (@id (∀x y,V.boxable (.bnd x y)=true) fun x y=>rfl) (Pa (@id (∀x y,V.copy (.iface x y)=.iface x y) fun x y=>rfl) (@id (∀x y,V.lend1 (.iface x y)=.iface x y) fun x y=>rfl)))) (Pa (Pa (@id (∀x y,V.lend (.iface x y)=.iface x y) fun x y=>rfl) (@id (∀x y,V.cells (.iface x y)=[.iface x y]) fun x y=>rfl)) (Pa (@id (∀x y,V.boxable (.iface x y)=true) fun x y=>rfl) (Pa (@id (∀x,V.copy (.mp x)=.mp x) fun x=>rfl) (@id (∀x,V.lend1 (.mp x)=.mp x) fun x=>rfl)))))) (Pa (Pa (Pa (Pa (@id (∀x,V.lend (.mp x)=.mp x) fun x=>rfl) (@id (∀x,V.cells (.mp x)=[.mp x]) fun x=>rfl)) (Pa (@id (∀x,V.boxable (.mp x)=true) fun x=>rfl) (Pa (@id (∀x y z,V.copy (.bsc x y z)=.bsc x y z) fun x y z=>rfl) (@id (∀x y z,V.lend1 (.bsc x y z)=.bsc x y z) fun x y z=>rfl)))) (Pa (Pa (@id (∀x y z,V.lend (.bsc x y z)=.bsc x y z) fun x y z=>rfl) (@id (∀x y z,V.cells (.bsc x y z)=[.bsc x y z]) fun x y z=>rfl)) (Pa (@id (∀x y z,V.boxable (.bsc x y z)=true) fun x y z=>rfl) (Pa (@id (∀x y,V.copy (.mapc x y)=.mapc x y) fun x y=>rfl) (@id (∀x y,V.lend1 (.mapc x y)=.mapc x y) fun x y=>rfl))))) (Pa (Pa (Pa (@id (∀x y,V.lend (.mapc x y)=.mapc x y) fun x y=>rfl) (@id (∀x y,V.cells (.mapc x y)=[.mapc x y]) fun x y=>rfl)) (Pa (@id (∀x y,V.boxable (.mapc x y)=true) fun x y=>rfl) (Pa (@id (V.copy .junk=.junk) rfl) (@id (V.lend1 .junk=.junk) rfl)))) (Pa (Pa (@id (V.lend .junk=.junk) rfl) (@id (V.cells .junk=[.junk]) rfl)) (Pa (@id (V.boxable .junk=false) rfl) (Pa (@decide_true) (@decide_false))))))))
end Go.Proofs.YtnhphlmblenapaaGreatDoor
namespace Go.Proofs.YtnhphlmblenapaaGreatDoor
open Go.RowKit
inductive CdD where
 | seq (a:Cd) (b:CdD)
 | dfr (s:Nat) (g:FuncId) (cap:List X) (rest:Cd)
def xc(tab:Tab)(n:Nat)(s:Nat)(g:FuncId)(cap:List X):List Oper->Bool
 | [⟨d1,.makeFunc (.func g') first cap',_,_,_,none⟩,⟨d2,.defer {callee:=.value y,args:=args,argTypes:=_},_,_,_,none⟩]=>d1==some s&&decide (s<n)&&g==g'&&first.isEmpty&&nr cap cap'.toList&&d2==none&&okX (.t s) y&&args.isEmpty
 | _=>false
def okD(tab:Tab)(n:Nat):CdD->Code->Bool
 | .seq a b,.seq a' b'=>okC tab n a a'&&okD tab n b b'
 | .dfr s g cap rest,.seq (.region _ ops false) r=>xc tab n s g cap ops.toList&&okC tab n rest r
 | _,_=>false
abbrev qj:=FuncId->List V->ce
def GB(C:Cx)(n0:Nat):CdD->ac->LLV->ce->qj->Prop
 | .seq a b,ρ,σ,Q,QD=>awp C n0 a ρ σ (andThen (fun ρ' σ'=>GB C n0 b ρ' σ' Q QD) Q)
 | .dfr s g cap rest,ρ,σ,_,QD=>awp C σ.length rest (put ρ s (.fn g (cap.map (ev C ρ)))) σ (QD g (cap.map (ev C ρ)))
section
variable {C : Cx} {pr : Prot} {n n0 : Nat}
def DX(M0:ao)(bm0:List Nat)(p:Nat->Prop)(w0:World)(n:Nat)(QD:qj)(e:Exit)(a':Act)(w':World):Prop:=
 ∃(M1:ao) (bm1:List Nat) (w1:World) (g:FuncId) (caps:List V) (vs:List Value),Later M0 bm0 p w0 M1 bm1 w1/\vs.length=caps.length/\(∀i (h:i<caps.length) (h':i<vs.length),Rep M1 bm1 caps[i] vs[i])/\
  aY M1 bm1 ⟨p,[{target:=.fn (.func g) vs.toArray,args := #[]}]⟩ w1 n (QD g caps) e a' w'
theorem vE{M0:ao}{bm0:List Nat}{w0:World}(hG:C.glob M0 pr w0)(hn0:bm0.length=n0)(hds:pr.ds=[]):∀{c:CdD} {c':Code} {M:ao} {bm:List Nat} {tk:be} {ρ:ac} {σ:LLV} {a:Act} {w:World} {Q:ce} {QD:qj},okD C.tab n c c'=true->Later M0 bm0 pr w0 M bm w->SRel M bm tk pr ρ σ n a w->
 GB C n0 c ρ σ Q QD->c'.wp C.P (fun e a' w'=>aY M0 bm0 pr w0 n Q e a' w'\/DX M0 bm0 pr w0 n QD e a' w') a w:=by
 intro c
 induction c with
 | seq x y ih=>
  intro c' M bm tk ρ σ a w Q QD hok hl h hq
  obtain⟨a',b',rfl,ok2⟩:∃a' b',c'=.seq a' b'/\okC C.tab n x a'=true/\okD C.tab n y b'=true:=by
   cases c' with
   | seq a' b'=>
    have hok:(okC C.tab n x a'&&okD C.tab n y b')=true:=hok;rw[Pg]at hok;exact⟨_,_,rfl,hok⟩
   | _=>cases hok
  refine wp_seq (wp_mono (kq hG hn0 ok2.1 hl h hq) (fun e a' w' hL=>?_));obtain⟨M',bm',tk',ρ',σ',x,k1,k2,k3,k4⟩:=hL;cases k2 with
  | normal=>exact ih ok2.2 k4 k3 k1
  | ret=>exact .inl ⟨M',bm',tk',ρ',σ',_,k1,.ret,k3,k4⟩
  | exit id=>exact .inl ⟨M',bm',tk',ρ',σ',_,k1,.exit id,k3,k4⟩
  | panic hp=>exact .inl ⟨M',bm',tk',ρ',σ',_,k1,.panic hp,k3,k4⟩
 | dfr s g cap rest=>
  intro c' M bm tk ρ σ a w Q QD hok hl h hq
  obtain⟨id,ops,r,rfl,hok1,hok2⟩:∃id ops r,c'=.seq (.region id ops false) r/\xc C.tab n s g cap ops.toList=true/\okC C.tab n rest r=true:=by
   cases c' with
   | seq a' r=>
    cases a' with
    | region id ops draw=>
     cases draw with
     | false=>
      have hok:(xc C.tab n s g cap ops.toList&&okC C.tab n rest r)=true:=hok;rw[Pg]at hok;exact⟨_,_,_,rfl,hok⟩
     | true=>cases hok
    | _=>cases hok
   | _=>cases hok
  unfold xc at hok1;split at hok1
  .rename_i d1 g' first cap' ty1 po1 af1 d2 y args at_ ty2 po2 af2 hops
   simp only[Pg,beq_iff_eq,decide_eq_true_eq]at hok1;obtain⟨⟨⟨⟨⟨⟨⟨rfl,hs⟩,rfl⟩,h1⟩,h2⟩,rfl⟩,h4⟩,h5⟩:=hok1;have hf:first = #[]:=by simpa using h1
   have ha:args = #[]:=by simpa using h5
   subst hf;subst ha;obtain⟨l1,l2⟩:=eW (hG.mono hl) h h2;have hr:=Rep.fn (f:=g) l1 l2;have e9:(cap'.toList.map a.eval).toArray=cap'.map a.eval:=by rw[<-Array.toList_map]
   refine wp_seq (wp_region_list ?_);rw[hops];have w1:∀(a:Act) (d:Option Tmp) (o:Op) (t:TypeId) (p:String) (af:Array Edge),Region.wanted ⟨d,o,t,p,af,none⟩ (yielded ops a.tmps)=true:=fun _ _ _ _ _ _=>rfl;simp only[wpList];rw[if_pos (w1 _ _ _ _ _ _)];left;unfold Oper.wp
   have run1:(execOp a.eval ⟨some s,.makeFunc (.func g) #[] cap',ty1,po1,af1,none⟩).run C.P w=.ok (.value (.func (.func g) #[] (cap'.map a.eval))) w:=by
    simp[execOp,Instr.makeFunc]
   rw[run1];simp only[Oper.upon_value];rw[if_pos (w1 _ _ _ _ _ _)];left;rw[e9]at hr;have h6:=h.puts hs hr (by simp)
   have hy:(a.put (some s) (.func (.func g) #[] (cap'.map a.eval))).eval y=.func (.func g) #[] (cap'.map a.eval):=by
    unfold okX at h4;split at h4
    .rename_i m m' e;cases e;simp only[beq_iff_eq]at h4;subst h4;simp only[Act.eval];have:=f5 a s s (.func (.func g) #[] (cap'.map a.eval)) (by rw[h.size];exact hs);rw[if_pos rfl]at this;exact this
    .rename_i e;cases e
    .rename_i e;cases e
    .rename_i e;cases e
    .cases h4
   have run2:(execOp (a.put (some s) (.func (.func g) #[] (cap'.map a.eval))).eval ⟨none,.defer {callee:=.value y,args := #[],argTypes:=at_},ty2,po2,af2,none⟩).run C.P w=.ok (.defer {target:=.fn (.func g) (cap'.map a.eval),args := #[]}) w:=by
    simp[execOp,resolve,hy,Deferred.ofValue]
   rw[run2];simp only[Oper.upon_defer]
   have h7:SRel M bm tk ⟨pr.p,[{target:=.fn (.func g) (cap'.map a.eval),args := #[]}]⟩ (put ρ s (.fn g (cap.map (ev C ρ)))) σ n ({(a.put (some s) (.func (.func g) #[] (cap'.map a.eval)))with defers:={target:=.fn (.func g) (cap'.map a.eval),args := #[]}::(a.put (some s) (.func (.func g) #[] (cap'.map a.eval))).defers}.put none undef) w:=
    ⟨h6.inv,by show _::_=_;rw[h6.defers,hds],h6.size,h6.slots⟩
   refine wp_mono (kq (pr:=⟨pr.p,[{target:=.fn (.func g) (cap'.map a.eval),args := #[]}]⟩) (hG.mono hl) (n0:=σ.length) h.inv.len hok2 (Later.refl _ _ _ _) h7 hq) (fun e a' w' hL=>.inr ⟨M,bm,w,g,cap.map (ev C ρ),cap'.toList.map a.eval,hl,l1,l2,?_⟩);rw[e9];exact hL
  .cases hok1
def ed(C:Cx)(g:FuncId)(caps:List V)(σ:LLV)(x:Option V)(R:LLV->Prop):Prop:=
 (∀as w,(callFunc g as).run C.P w=.ok (.enter g as) w)/\
 ∀(M:ao) (bm:List Nat) (tk:be) (pr:Nat->Prop) (w:World) (vs:List Value) (u:FrameMode),C.glob M pr w->Inv M bm σ tk pr w->(∀t,tk none t=none)->vs.length=caps.length->(∀i (h:i<caps.length) (h':i<vs.length),Rep M bm caps[i] vs[i])->
  (match x with|none=>u=.returning|some v=>∃y,u=.panicking [{v:=y,recovered:=false}]/\Rep M bm v y)->
  CallsD C.P g vs.toArray u w fun e u' w'=>(∃y,e=.returned y)/\settle u'=.returning/\∃M' bm' tk' σ',R σ'/\Inv M' bm' σ' tk' pr w'/\Later M bm pr w M' bm' w'
theorem sL{M':ao}{bm':List Nat}{tk':be}{ρ':ac}{σ':LLV}{a':Act}{w':World}{k:Nat}(o:Option Nat)(k3:SRel M' bm' tk' pr ρ' σ' n a' w')(hbk:ai k (σ'.take k)=true)(ho:o=none\/∃s,o=tk' none s):
 Inv M' (bm'.take k) (σ'.take k) (fun i j=>match i with|none=>if j=0 then o else none|some i=>tk' (some i) j) pr w':=by
 have hd:=k3.inv.drop hbk;refine⟨hd.facts,hd.len,hd.box,hd.free,hd.bmnd,fun i j g hg=>?_,fun i j i' j' g g1 g2=>?_,hd.prlt⟩
 .cases i with
  | some i=>exact hd.tok _ _ _ hg
  | none=>
   simp only at hg;split at hg
   .rcases ho with rfl|⟨s,rfl⟩
    .cases hg
    .exact hd.tok _ _ _ hg
   .cases hg
 .cases i with
  | some i=>cases i' with
   | some i'=>exact hd.inj _ _ _ _ _ g1 g2
   | none=>
    simp only at g2;split at g2
    .rcases ho with rfl|⟨s,rfl⟩
     .cases g2
     .have:=hd.inj _ _ _ _ _ g1 g2;simp at this
    .cases g2
  | none=>cases i' with
   | some i'=>
    simp only at g1;split at g1
    .rcases ho with rfl|⟨s,rfl⟩
     .cases g1
     .have:=hd.inj _ _ _ _ _ g1 g2;simp at this
    .cases g1
   | none=>
    simp only at g1 g2;split at g1
    .split at g2
     .exact⟨rfl,by omega⟩
     .cases g2
    .cases g1
def wK(n0:Nat)(rs:List RV)(Q:Out->LLV->Prop)(ρ:ac)(σ2:LLV):Prop:=
 ∃v,aL σ2 ρ rs=some v/\∃k,n0≤k/\ai k (σ2.take k)=true/\V.under k v=true/\Q (.ret v) (σ2.take k)
def JC(C:Cx)(n0:Nat)(rs:List RV)(Q:Out->LLV->Prop):qj:=fun g caps e ρ σ'=>match e with
 | .normal=>ed C g caps σ' none (wK n0 rs Q ρ)
 | .ret=>ed C g caps σ' none (wK n0 rs Q ρ)
 | .panic v=>ed C g caps σ' (some v) (wK n0 rs Q ρ)
 | .exit _=>False
def pO(tab:Tab)(fn:Func)(m:Nat)(c:CdD)(rs:List RV):Bool:=
 (match fn.body with|some b=>okD tab fn.ntmps c b|none=>false)&&lP tab rs fn.results.toList&&decide (m≤fn.ntmps) && !(fn.name == "runtime.NumGoroutine")
theorem AK{f:FuncId}{fn:Func}{c:CdD}{rs:List RV}{args:List V}{σ:LLV}{Q:Out->LLV->Prop}(hf:C.P.funcs[f]? = some fn)(hok:pO C.tab fn args.length c rs=true)(hno:args.all (! ·.isOwn)=true)
 (h:ai σ.length σ=true->(∀i (h:i<args.length),V.Wf args[i])->GB C σ.length c (eF 0 args) σ (fin σ.length rs Q) (JC C σ.length rs Q)):Fun C f args σ Q:=by
 unfold pO at hok;simp only[Pg,decide_eq_true_eq,Pi]at hok;obtain⟨⟨⟨h1,h2⟩,h3⟩,h4⟩:=hok;cases hb:fn.body with
 | none=>rw[hb]at h1;cases h1
 | some body=>
 rw[hb]at h1;refine⟨bE hf h4 (by rw[hb];rfl),fun M bm tk pr0 w vs hG hI htk hl hr=>?_⟩;obtain⟨pr,rfl,hds⟩:∃pr:Prot,pr.p=pr0/\pr.ds=[]:=⟨⟨pr0,[]⟩,rfl,rfl⟩
 have hq:=h hI.under (fun i hi=>(hr i hi (by omega)).wf);refine calls_of_wp_defers hf hb ?_
 have hs:SRel M bm tk pr (eF 0 args) σ fn.ntmps {tmps:=vs.toArray++Pb (fn.ntmps-vs.toArray.size) undef,defers:=[]} w:=by
  refine⟨hI,hds.symm,by simp;omega,fun t=>?_⟩;rw[iP,if_pos (Pv _),Pu];by_cases hlt:t<args.length
  .rw[Pl hlt,Px]
   have hv:(vs.toArray++Pb (fn.ntmps-vs.toArray.size) undef).getD t undef=vs[t]'(by omega):=by
    rw[Pd,Pe (by simp;omega)];simp[show t<vs.length by omega]
   rw[hv];refine⟨hr t hlt (by omega),fun T k rows e=>?_⟩;have:=List.all_eq_true.1 hno args[t] (Po hlt);rw[e]at this;cases this
  .rw[Pm (by omega),Py];exact CellOK.junk ..
 refine wp_mono (vE hG hI.len hds h1 (Later.refl M bm pr w) hs hq) (fun e a' w' hL=>?_)
 have ret:∀{p2:Prot} {M2:ao} {bm2:List Nat} {tk2:be} {ρ2:ac} {σ2:LLV} {w2:World},p2.p=pr.p->SRel M2 bm2 tk2 p2 ρ2 σ2 fn.ntmps a' w2->Later M bm pr w M2 bm2 w2->∀v,aL σ2 ρ2 rs=some v->(∃k,σ.length≤k/\ai k (σ2.take k)=true/\V.under k v=true/\Q (.ret v) (σ2.take k))->
  ∃u,(results fn a'.tmps).run C.P w2=.ok u w2/\∃M' bm' tk' σ' o,Q o σ'/\Inv M' bm' σ' tk' pr w2/\Later M bm pr w M' bm' w2/\OutOK M' bm' w2 tk' o (.returned u):=by
  rintro p2 M2 bm2 tk2 ρ2 σ2 w2 hp s1 s2 v hv ⟨k,g1,g2,g3,g4⟩;obtain⟨u,r1,t,r2,r3⟩:=o7 s1 h2 hv;have c1:=sL t s1 g2 r3;rw[hp]at c1;refine⟨u,r1,M2,bm2.take k,_,σ2.take k,.ret v,g4,c1,s2.drop (by rw[hI.len];exact g1),fun v' e=>?_,fun v' e=>by cases e⟩;cases e;exact⟨u,rfl,r2.rep.drop g3,by simpa using r2.own⟩
 rcases hL with⟨M',bm',tk',ρ',σ',x,k1,k2,k3,k4⟩|⟨M1,bm1,w1,g,caps,us,d1,d2,d3,M',bm',tk',ρ',σ',x,k1,k2,k3,k4⟩
 .have hnil:a'.defers=[]:=k3.defers.trans hds
  have plain:(∃ρ2 σ2,d5 σ.length ρ' σ' ρ2 σ2/\∃v,aL σ2 ρ2 rs=some v/\∃k,σ.length≤k/\ai k (σ2.take k)=true/\V.under k v=true/\Q (.ret v) (σ2.take k))->Leaves C.P fn a'.tmps (fun e w'=>∃M' bm' tk' σ' o,Q o σ'/\Inv M' bm' σ' tk' pr w'/\Later M bm pr w M' bm' w'/\OutOK M' bm' w' tk' o e) a'.defers .returning w':=by
   rintro⟨ρ2,σ2,g0,v,g1,g2⟩;obtain⟨M2,bm2,s1,s2⟩:=g0 M' bm' tk' pr fn.ntmps a' w' k3;rw[hnil];exact ret rfl s1 (s2 M bm w hI.len k4) v g1 g2
  cases k2 with
  | normal=>exact plain k1
  | ret=>exact plain k1
  | exit id=>exact k1.elim
  | panic hp=>
   obtain⟨k,g1,g2,g3,g4⟩:=k1;have c1:=sL none k3 g2 (.inl rfl);show Leaves C.P fn a'.tmps _ a'.defers (.panicking _) w';rw[hnil];exact⟨M',bm'.take k,_,σ'.take k,_,g4,c1,k4.drop (by rw[hI.len];exact g1),(fun v' e=>by cases e),fun v' e=>by cases e;exact⟨_,rfl,hp.drop g3⟩⟩
 .have hdl:Later M bm pr.p w M' bm' w':=d1.trans k4 (fun _ h=>h);have hrc:∀i (h:i<caps.length) (h':i<us.length),Rep M' bm' caps[i] us[i]:=fun i g1 g2=>k4.rep (d3 i g1 g2)
  have late:∀(x:Option V) (u:FrameMode),u≠.run->(match x with|none=>u=.returning|some v=>∃y,u=.panicking [{v:=y,recovered:=false}]/\Rep M' bm' v y)->ed C g caps σ' x (wK σ.length rs Q ρ')->
   Leaves C.P fn a'.tmps (fun e w'=>∃M' bm' tk' σ' o,Q o σ'/\Inv M' bm' σ' tk' pr w'/\Later M bm pr w M' bm' w'/\OutOK M' bm' w' tk' o e) a'.defers u w':=fun x u hu hx hF=>by
   rw[k3.defers];refine leaves_cons hu ?_ ((hF.2 M' bm' (noSlots tk') (prot tk' pr.p) w' us u ((hG.mono hdl).prot fun _ hb=>.inl hb) k3.callee (fun _=>rfl) d2 hrc hx).mono ?_)
   .have:=hF.1 us.toArray w';simpa[invoke]using this
   .rintro e u' w2 ⟨⟨y,rfl⟩,hset,M2,bm2,tk2,σ2,hfin,hi2,hl2⟩;obtain⟨⟨tk3,s1⟩,-,s2⟩:=k3.called hi2 hl2;obtain⟨v,hv,hk⟩:=hfin;show Leaves C.P fn a'.tmps _ [] (settle u') w2;rw[hset];exact ret (by exact rfl) s1 (hdl.trans s2 (fun _ h=>h)) v hv hk
  cases k2 with
  | normal=>exact late none .returning (by simp) rfl k1
  | ret=>exact late none .returning (by simp) rfl k1
  | exit id=>exact k1.elim
  | panic hp=>exact late (some _) (.panicking _) (by simp) ⟨_,rfl,hp⟩ k1
inductive CdR where
 | reg (s:Nat) (l:List O) (keep:List Nat)
 | seq (a:CdR) (b:Cd)
def rN(n s:Nat):List Oper->Bool
 | ⟨d,.call {callee:=.builtin .recover,args:=args,argTypes:=_},_,_,_,none⟩::_=>d==some s&&decide (s<n)&&args.isEmpty
 | _=>false
def okR(tab:Tab)(n:Nat):CdR->Code->Bool
 | .reg s l _,.region _ ops false=>rN n s ops.toList&&eX tab n ops l ops.toList.tail
 | .seq a b,.seq a' b'=>okR tab n a a'&&okC tab n b b'
 | _,_=>false
def E9(C:Cx)(n0:Nat)(x:V):CdR->ac->LLV->ce->Prop
 | .reg s l keep,ρ,σ,Q=>bM C l (put ρ s x) σ fun e ρ' σ'=>Q e (aG keep ρ') σ'
 | .seq a b,ρ,σ,Q=>E9 C n0 x a ρ σ (andThen (fun ρ' σ'=>awp C n0 b ρ' σ' Q) Q)
theorem kX{P:Program}{ops:Array Oper}{Q Q':Exit->Act->World->Prop}(hq:∀e a w,Q e a w->Q' e a w):∀(l:List Oper) (a:Act) (w:World),wpList P ops Q l a w->wpList P ops Q' l a w
 | [],_,_,h=>hq _ _ _ h
 | o::l,a,w,h=>by
  simp only[wpList]at h ⊢;split
  .rename_i hw;rw[if_pos hw]at h;rcases h with h|⟨h1,a',w',h2⟩
   .exact .inl (Oper.wp_mono2 (fun a' w' hh=>kX hq l a' w' hh) hq h)
   .exact .inr ⟨h1,a',w',hq _ _ _ h2⟩
  .rename_i hw;rw[if_neg hw]at h;exact kX hq l _ w h
theorem x8{P:Program}{c:Code}{Q Q':Exit->Act->List Frame->World->Prop}{a:Act}{cs:List Frame}{w:World}(h:c.wpS P Q a cs w)(hq:∀e a cs w,Q e a cs w->Q' e a cs w):c.wpS P Q' a cs w:=
 fun b k hb hr=>let ⟨e,a',cs',w',q,r⟩:=h b k hb hr;⟨e,a',cs',w',hq _ _ _ _ q,r⟩
theorem gN{P:Program}{ops:Array Oper}{Q:Exit->Act->World->Prop}{cs:List Frame}(hno:¬LetsOut Q):∀(l:List Oper) (k:Nat) (a:Act) (w:World),(∀j,l[j]? = ops[k+j]?)->wpList P ops Q l a w->wpOpsS P ops (fun e a cs' w=>cs'=cs/\Q e a w) (Pq k l.length) a cs w
 | [],_,_,_,_,h=>⟨rfl,h⟩
 | o::l,k,a,w,hj,h=>by
  have h0:ops[k]? = some o:=by simpa using(hj 0).symm
  have hj':∀j,l[j]? = ops[k+1+j]? := fun j=>by have:=hj (j+1);simpa[Nat.add_assoc,Nat.add_comm 1 j]using this
  simp only[List.length_cons,Pr,wpOpsS,h0];simp only[wpList]at h;split
  .rename_i hw;rw[if_pos hw]at h;have h:=h.resolve_right fun hh=>hno hh.2;have h2:o.wp P a w (fun a' w'=>wpOpsS P ops (fun e a cs' w=>cs'=cs/\Q e a w) (Pq (k+1) l.length) a' cs w') (fun e a' w'=>True/\Q e a' w'):=Oper.wp_mono2 (fun a' w' hh=>gN hno l (k+1) a' w' hj' hh) (fun e a' w' hh=>⟨trivial,hh⟩) h;unfold Oper.wp at h2;generalize (execOp a.eval o).run P w=r at h2;split
   .exact h2.elim
   .exact h2
  .rename_i hw;rw[if_neg hw]at h;exact gN hno l (k+1) _ w hj' h
theorem aY.noOut{M:ao}{bm:List Nat}{w:World}{Q:ce}:¬LetsOut (aY M bm pr w n Q):=by
 rintro⟨a,w',M',bm',tk',ρ',σ',x,h1,h2,h3⟩;cases h2
theorem wc{M0:ao}{bm0:List Nat}{w0:World}(hG:C.glob M0 pr w0)(hn0:bm0.length=n0){x:V}{cs cs2:List Frame}{y:Value}(hrec:recoverD cs=some (y,cs2)\/(recoverD cs=none/\cs2=cs/\y=.nilIface))(hx:Rep M0 bm0 x y)(hxo:∀T k rows,x≠.own T k rows):
 ∀{c:CdR} {c':Code} {tk:be} {ρ:ac} {σ:LLV} {a:Act} {Q:ce},okR C.tab n c c'=true->SRel M0 bm0 tk pr ρ σ n a w0->
 E9 C n0 x c ρ σ Q->c'.wpS C.P (fun e a' cs' w'=>cs'=cs2/\aY M0 bm0 pr w0 n Q e a' w') a cs w0:=by
 intro c
 induction c with
 | reg s l keep=>
  intro c' tk ρ σ a Q hok h hq
  obtain⟨id,ops,rfl,hok1,hok2⟩:∃id ops,c'=.region id ops false/\rN n s ops.toList=true/\eX C.tab n ops l ops.toList.tail=true:=by
   cases c' with
   | region id ops draw=>
    cases draw with
    | false=>
     have hok:(rN n s ops.toList&&eX C.tab n ops l ops.toList.tail)=true:=hok;rw[Pg]at hok;exact⟨_,_,rfl,hok⟩
    | true=>cases hok
   | _=>cases hok
  unfold rN at hok1;split at hok1
  .rename_i d args at_ ty po af r hops;simp only[Pg,beq_iff_eq,decide_eq_true_eq]at hok1;obtain⟨⟨rfl,hs⟩,h5⟩:=hok1;have ha:args = #[]:=by simpa using h5
   subst ha;rw[hops,List.tail_cons]at hok2;refine wpS_region ?_;have hsz:ops.size=r.length+1:=by rw[<-Array.length_toList,hops];rfl
   have h0:ops[0]? = some ⟨some s,.call {callee:=.builtin .recover,args := #[],argTypes:=at_},ty,po,af,none⟩:=by rw[<-Pf,hops];rfl
   have hj:∀j,r[j]? = ops[0+1+j]? := fun j=>by rw[<-Pf,hops,show 0+1+j=j+1 by omega];rfl
   rw[hsz,List.range_eq_range',Pr];simp only[wpOpsS,h0];rw[if_pos (show Region.wanted ⟨some s,.call {callee:=.builtin .recover,args := #[],argTypes:=at_},ty,po,af,none⟩ (yielded ops a.tmps)=true from rfl)]
   have run1:(execOp a.eval ⟨some s,.call {callee:=.builtin .recover,args := #[],argTypes:=at_},ty,po,af,none⟩).run C.P w0=.ok .recover w0:=by
    simp[execOp,resolve,invoke,builtin]
   rw[run1]
   have go:wpOpsS C.P ops (fun e a' cs' w'=>cs'=cs2/\aY M0 bm0 pr w0 n Q e a' w') (Pq (0+1) r.length) (a.put (some s) y) cs2 w0:=by
    refine gN aY.noOut r (0+1) _ _ hj ?_;have h6:=h.puts hs hx hxo;exact kX (fun e a w hL=>aY.keep (l:=keep) hL) _ _ _ (fh (Q:=fun e ρ' σ'=>Q e (aG keep ρ') σ') hG hok2 (Later.refl _ _ _ _) h6 hq)
   rcases hrec with hrec|⟨hrec,rfl,rfl⟩
   .rw[hrec];exact go
   .rw[hrec];exact go
  .cases hok1
 | seq x1 b ih=>
  intro c' tk ρ σ a Q hok h hq
  obtain⟨a',b',rfl,ok2⟩:∃a' b',c'=.seq a' b'/\okR C.tab n x1 a'=true/\okC C.tab n b b'=true:=by
   cases c' with
   | seq a' b'=>
    have hok:(okR C.tab n x1 a'&&okC C.tab n b b')=true:=hok;rw[Pg]at hok;exact⟨_,_,rfl,hok⟩
   | _=>cases hok
  refine wpS_seq (x8 (ih ok2.1 h hq) (fun e a' cs' w' ⟨hcs,hL⟩=>?_));subst hcs;obtain⟨M',bm',tk',ρ',σ',z,k1,k2,k3,k4⟩:=hL;cases k2 with
  | normal=>exact wpS_of_wp (wp_mono (kq hG hn0 ok2.2 k4 k3 k1) fun e a w hh=>⟨rfl,hh⟩)
  | ret=>exact⟨rfl,M',bm',tk',ρ',σ',_,k1,.ret,k3,k4⟩
  | exit id=>exact⟨rfl,M',bm',tk',ρ',σ',_,k1,.exit id,k3,k4⟩
  | panic hp=>exact⟨rfl,M',bm',tk',ρ',σ',_,k1,.panic hp,k3,k4⟩
def Kf(n0:Nat)(R:LLV->Prop):ce:=fun e _ σ'=>match e with
 | .normal=>∃k,n0≤k/\ai k (σ'.take k)=true/\R (σ'.take k)
 | .ret=>∃k,n0≤k/\ai k (σ'.take k)=true/\R (σ'.take k)
 | _=>False
def oU(tab:Tab)(fn:Func)(m:Nat)(c:CdR):Bool:=
 (match fn.body with|some b=>okR tab fn.ntmps c b|none=>false)&&fn.results.isEmpty&&decide (m≤fn.ntmps) && !(fn.name == "runtime.NumGoroutine")
theorem Ec{g:FuncId}{fn:Func}{c:CdR}{caps:List V}{σ:LLV}{x:Option V}{R:LLV->Prop}(hf:C.P.funcs[g]? = some fn)(hok:oU C.tab fn caps.length c=true)(hno:caps.all (! ·.isOwn)=true)(hx:∀v,x=some v->v.isOwn=false)
 (h:ai σ.length σ=true->E9 C σ.length (x.getD (.d (.lit .nilIface))) c (eF 0 caps) σ (Kf σ.length R)):ed C g caps σ x R:=by
 unfold oU at hok;simp only[Pg,decide_eq_true_eq,Pi]at hok;obtain⟨⟨⟨h1,h2⟩,h3⟩,h4⟩:=hok;have hres:fn.results = #[]:=by simpa using h2
 cases hb:fn.body with
 | none=>rw[hb]at h1;cases h1
 | some body=>
 rw[hb]at h1;refine⟨bE hf h4 (by rw[hb];rfl),fun M bm tk pr0 w vs u hG hI htk hl hr hu=>?_⟩;obtain⟨pr,rfl,hds⟩:∃pr:Prot,pr.p=pr0/\pr.ds=[]:=⟨⟨pr0,[]⟩,rfl,rfl⟩
 have hq:=h hI.under;refine callsD_of_wpS hf hb fun c₀ cs hc=>?_
 have hs:SRel M bm tk pr (eF 0 caps) σ fn.ntmps {tmps:=vs.toArray++Pb (fn.ntmps-vs.toArray.size) undef,defers:=[]} w:=by
  refine⟨hI,hds.symm,by simp;omega,fun t=>?_⟩;rw[iP,if_pos (Pv _),Pu];by_cases hlt:t<caps.length
  .rw[Pl hlt,Px]
   have hv:(vs.toArray++Pb (fn.ntmps-vs.toArray.size) undef).getD t undef=vs[t]'(by omega):=by
    rw[Pd,Pe (by simp;omega)];simp[show t<vs.length by omega]
   rw[hv];refine⟨hr t hlt (by omega),fun T k rows e=>?_⟩;have:=List.all_eq_true.1 hno caps[t] (Po hlt);rw[e]at this;cases this
  .rw[Pm (by omega),Py];exact CellOK.junk ..
 have key:∀(y:Value) (cs2:List Frame),(recoverD (c₀::cs)=some (y,cs2)\/(recoverD (c₀::cs)=none/\cs2=c₀::cs/\y=.nilIface))->Rep M bm (x.getD (.d (.lit .nilIface))) y->(∃u',cs2={c₀ with mode:=u'}::cs/\settle u'=.returning)->
  body.wpS C.P (bodyPostS C.P fn c₀ cs fun e u' w'=>(∃y,e=.returned y)/\settle u'=.returning/\∃M' bm' tk' σ',R σ'/\Inv M' bm' σ' tk' pr w'/\Later M bm pr w M' bm' w') {tmps:=vs.toArray++Pb (fn.ntmps-vs.toArray.size) undef,defers:=[]} (c₀::cs) w:=by
  rintro y cs2 hrec hy ⟨u',rfl,hset⟩;refine x8 (wc hG hI.len hrec hy ?_ h1 hs hq) (fun e a' cs' w' ⟨hcs,hL⟩=>?_)
  .intro T k rows e;cases x with
   | none=>cases e
   | some v=>have:=hx v rfl;rw[Px]at e;rw[e]at this;cases this
  subst hcs;obtain⟨M',bm',tk',ρ',σ',z,k1,k2,k3,k4⟩:=hL
  have fin:(∃k,σ.length≤k/\ai k (σ'.take k)=true/\R (σ'.take k))->a'.defers=[]/\∃u'',({c₀ with mode:=u'}::cs:List Frame)={c₀ with mode:=u''}::cs/\∃v,(results fn a'.tmps).run C.P w'=.ok v w'/\((∃y,Ending.returned v=.returned y)/\settle u''=.returning/\∃M' bm' tk' σ',R σ'/\Inv M' bm' σ' tk' pr w'/\Later M bm pr w M' bm' w'):=by
   rintro⟨k,g1,g2,g3⟩;have c1:=sL none k3 g2 (.inl rfl);refine⟨k3.defers.trans hds,u',rfl,.tuple #[],?_,⟨_,rfl⟩,hset,M',bm'.take k,_,σ'.take k,g3,c1,k4.drop (by rw[hI.len];exact g1)⟩;rw[qi,hres];simp
  cases k2 with
  | normal=>exact fin k1
  | ret=>exact fin k1
  | exit id=>exact k1.elim
  | panic hp=>exact k1.elim
 cases x with
 | none=>
  simp only at hu;subst hu;exact key .nilIface (c₀::cs) (.inr ⟨by simp[recoverD,hc],rfl,rfl⟩) (.d (.lit _ trivial)) ⟨.returning,by rw[<-hc],rfl⟩
 | some v=>
  simp only at hu;obtain⟨y,rfl,hy⟩:=hu;exact key y ({c₀ with mode:=.panicking [{v:=y,recovered:=true}]}::cs) (.inl (by simp[recoverD,hc])) hy ⟨_,rfl,rfl⟩
def dT(C:Cx)(n0:Nat)(c:CdD)(ρ:ac)(σ:LLV)(Q:ce)(QD:qj)(_:Tag Q)(_:Tag QD):Prop:=GB C n0 c ρ σ Q QD
theorem fj{ρ:ac}{σ:LLV}{Q:ce}{QD:qj}(a:Cd)(b:CdD)(s:Tag Q)(t:Tag QD):dT C n0 (.seq a b) ρ σ Q QD s t=d7 C n0 a ρ σ (andThen (fun ρ' σ'=>dT C n0 b ρ' σ' Q QD .mk .mk) Q) .mk:=rfl
theorem xJ{ρ:ac}{σ:LLV}{Q:ce}{QD:qj}(i:Nat)(g:FuncId)(cap:List X)(rest:Cd)(s:Tag Q)(t:Tag QD):dT C n0 (.dfr i g cap rest) ρ σ Q QD s t=d7 C σ.length rest (put ρ i (.fn g (cap.map (ev C ρ)))) σ (QD g (cap.map (ev C ρ))) .mk:=rfl
def rT(C:Cx)(n0:Nat)(x:V)(c:CdR)(ρ:ac)(σ:LLV)(Q:ce)(_:Tag Q):Prop:=E9 C n0 x c ρ σ Q
theorem nQ{x:V}{ρ:ac}{σ:LLV}{Q:ce}(i:Nat)(l:List O)(keep:List Nat)(t:Tag Q):rT C n0 x (.reg i l keep) ρ σ Q t=aR C l (put ρ i x) σ (fun e ρ' σ'=>Q e (aG keep ρ') σ') .mk:=rfl
theorem nD{x:V}{ρ:ac}{σ:LLV}{Q:ce}(a:CdR)(b:Cd)(t:Tag Q):rT C n0 x (.seq a b) ρ σ Q t=rT C n0 x a ρ σ (andThen (fun ρ' σ'=>d7 C n0 b ρ' σ' Q .mk) Q) .mk:=rfl
theorem iV{f:FuncId}{fn:Func}{c:CdD}{rs:List RV}{args:List V}{σ:LLV}{Q:Out->LLV->Prop}(hf:C.P.funcs[f]? = some fn)(hok:pO C.tab fn args.length c rs=true)(hno:args.all (! ·.isOwn)=true)
 (h:ai σ.length σ=true->(∀i (h:i<args.length),V.Wf args[i])->dT C σ.length c (eF 0 args) σ (fin σ.length rs Q) (JC C σ.length rs Q) .mk .mk):Fun C f args σ Q:=AK hf hok hno h
theorem cV{g:FuncId}{fn:Func}{c:CdR}{caps:List V}{σ:LLV}{x:Option V}{R:LLV->Prop}(hf:C.P.funcs[g]? = some fn)(hok:oU C.tab fn caps.length c=true)(hno:caps.all (! ·.isOwn)=true)(hx:∀v,x=some v->v.isOwn=false)
 (h:ai σ.length σ=true->rT C σ.length (x.getD (.d (.lit .nilIface))) c (eF 0 caps) σ (Kf σ.length R) .mk):ed C g caps σ x R:=Ec hf hok hno hx h
theorem ed.mono{g:FuncId}{caps:List V}{σ:LLV}{x:Option V}{R R':LLV->Prop}(h:ed C g caps σ x R)(hr:∀σ',R σ'->R' σ'):ed C g caps σ x R':=
 ⟨h.1,fun M bm tk pr w vs u hG hI ht hl hrep hu=>(h.2 M bm tk pr w vs u hG hI ht hl hrep hu).mono fun e u' w' ⟨h1,h2,M',bm',tk',σ',h3,h4⟩=>⟨h1,h2,M',bm',tk',σ',hr _ h3,h4⟩⟩
end
end Go.Proofs.YtnhphlmblenapaaGreatDoor
