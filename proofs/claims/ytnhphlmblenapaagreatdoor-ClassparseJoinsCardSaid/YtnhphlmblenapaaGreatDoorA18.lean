import Derived.Orders
import Derived.RowKit
import Derived.Recover
import Derived.Test.YtnhphlmblenapaaGreatDoorA13
set_option linter.unusedVariables false
set_option linter.unusedSimpArgs false
set_option linter.unusedSectionVars false
open Array renaming getD_eq_getD_getElem?->Pa,getElem?_eq_getElem->Pb,getElem?_setIfInBounds_self_of_lt->Pd,getElem?_toList->Pe,getElem?_setIfInBounds_ne->Pf,replicate->Pg,all_toList->Ph,getElem?_replicate->Pi,toList_setIfInBounds->Pj
open Bool renaming and_eq_true->Pk,false_eq_true->Pl,or_eq_true->Pm,not_eq_true'->Pn,false_or->Po,not_false->Pp,true_and->Pq,true_or->Pr,and_false->Ps,not_true->Pt,and_true->Pu,false_and->Pv,or_self->Pw
open Classical renaming byContradiction->Px
open List renaming getElem?_eq_getElem->Py,all_eq_true->Pz,getElem_of_mem->PA,range->PB,mem_range->PC,mem_filter->PD,filter_eq_nil_iff->PE,map_congr_left->PF,length_cons->PG,eq_nil_of_length_eq_zero->PH,getElem?_take_of_lt->PI,getElem?_append_left->PJ,getD_eq_getElem?_getD->PL,getElem_append_right->PM,getElem_append_left->PN,mem_append->PO,mem_append_right->PS,cons_append->PT,getElem?_append_right->PU,getElem_cons_zero->PV,getElem_cons_succ->PW,mem_of_mem_take->PX,length_nil->PY
open Nat renaming zero_add->PZ,le_refl->P0,strongRecOn->P1,add_zero->P2,add_assoc->P3,zero_le->P4
open Ne renaming symm->P5
open Option renaming getD_some->P6,isNone_iff_eq_none->P7,map_some->P8,bind_some->P9
namespace Go.Proofs.YtnhphlmblenapaaGreatDoor
open Go.RowKit
mutual
def V.under(k:Nat):V->Bool
 | .agg cs=>V.unders k cs
 | .tup cs=>V.unders k cs
 | .fn _ cs=>V.unders k cs
 | .bnd _ cs=>V.unders k cs
 | .ptr i _=>decide (i<k)
 | .bsl i _ _ _=>decide (i<k)
 | .iface _ v=>V.under k v
 | .mp i=>decide (i<k)
 | .bsc i _ _=>decide (i<k)
 | .mapc _ kv=>V.underkv k kv
 | .d _=>true
 | .own _ _ _=>true
 | .nil=>true
 | .row _ _=>true
 | .junk=>true
def V.unders(k:Nat):List V->Bool
 | []=>true
 | x::r=>V.under k x&&V.unders k r
def V.underkv(k:Nat):List (Key×V)->Bool
 | []=>true
 | p::r=>V.underp k p&&V.underkv k r
def V.underp(k:Nat):Key×V->Bool
 | (_,x)=>V.under k x
end
theorem V.unders_get{k:Nat}:∀{cs:List V},V.unders k cs=true->∀i (h:i<cs.length),V.under k cs[i]=true
 | x::r,h,i,hi=>by
  simp only[V.unders,Pk]at h;cases i with
  | zero=>exact h.1
  | succ i=>exact V.unders_get h.2 i (by simpa using hi)
theorem V.unders_of{k:Nat}:∀{cs:List V},(∀i (h:i<cs.length),V.under k cs[i]=true)->V.unders k cs=true
 | [],_=>rfl
 | x::r,h=>by
  simp only[V.unders,Pk];exact⟨h 0 (by simp),V.unders_of fun i hi=>h (i+1) (by simpa using hi)⟩
theorem Rep.drop{M:ao}{bm:List Nat}{k:Nat}{x:V}{v:Value}(h:Rep M bm x v):V.under k x=true->Rep M (bm.take k) x v:=by
 induction h with
 | d h=>exact fun _=>.d h
 | own h=>exact fun _=>.own h
 | nil=>exact fun _=>.nil
 | agg hl h h1 ih=>exact fun hb=>.agg hl (fun i g1 g2=>ih i g1 g2 (V.unders_get (by simpa only[V.under]using hb) i g1)) h1
 | tup hl h ih=>exact fun hb=>.tup hl (fun i g1 g2=>ih i g1 g2 (V.unders_get (by simpa only[V.under]using hb) i g1))
 | ptr h=>exact fun hb=>.ptr (by
  simp only[V.under,decide_eq_true_eq]at hb;rw[PI hb];exact h)
 | row val hf hd=>exact fun _=>.row val hf hd
 | bsl h hc hm=>exact fun hb=>.bsl (by
  simp only[V.under,decide_eq_true_eq]at hb;rw[PI hb];exact h) hc hm
 | fn hl h ih=>exact fun hb=>.fn hl (fun i g1 g2=>ih i g1 g2 (V.unders_get (by simpa only[V.under]using hb) i g1))
 | bnd hl h ih=>exact fun hb=>.bnd hl (fun i g1 g2=>ih i g1 g2 (V.unders_get (by simpa only[V.under]using hb) i g1))
 | iface h ih=>exact fun hb=>.iface (ih (by simpa only[V.under]using hb))
 | mp h=>exact fun hb=>.mp (by
  simp only[V.under,decide_eq_true_eq]at hb;rw[PI hb];exact h)
 | bsc h hc hm=>exact fun hb=>.bsc (by
  simp only[V.under,decide_eq_true_eq]at hb;rw[PI hb];exact h) hc hm
 | junk v=>exact fun _=>.junk v
theorem Rep.under{M:ao}{bm:List Nat}{x:V}{v:Value}(h:Rep M bm x v):V.under bm.length x=true:=by
 induction h with
 | d h=>rfl
 | own h=>rfl
 | nil=>rfl
 | agg hl h h1 ih=>simp only[V.under];exact V.unders_of fun i hi=>ih i hi (by omega)
 | tup hl h ih=>simp only[V.under];exact V.unders_of fun i hi=>ih i hi (by omega)
 | ptr h=>simp only[V.under,decide_eq_true_eq];exact(List.getElem?_eq_some_iff.1 h).1
 | row val hf hd=>rfl
 | bsl h hc hm=>simp only[V.under,decide_eq_true_eq];exact(List.getElem?_eq_some_iff.1 h).1
 | fn hl h ih=>simp only[V.under];exact V.unders_of fun i hi=>ih i hi (by omega)
 | bnd hl h ih=>simp only[V.under];exact V.unders_of fun i hi=>ih i hi (by omega)
 | iface h ih=>simpa only[V.under]using ih
 | mp h=>simp only[V.under,decide_eq_true_eq];exact(List.getElem?_eq_some_iff.1 h).1
 | bsc h hc hm=>simp only[V.under,decide_eq_true_eq];exact(List.getElem?_eq_some_iff.1 h).1
 | junk v=>rfl
theorem MR.drop{M:ao}{bm:List Nat}{k:Nat}{st:Bool}{kv:List (Key×V)}{es:List MapEntry}(h:MR M bm st kv es):V.underkv k kv=true->MR M (bm.take k) st kv es:=by
 induction h with
 | nil=>exact fun _=>.nil
 | cons hk hs hx ho _ ih=>
  intro hb;simp only[V.underkv,V.underp,Pk]at hb;exact .cons hk hs (hx.drop hb.1) ho (ih hb.2)
theorem MR.under{M:ao}{bm:List Nat}{st:Bool}{kv:List (Key×V)}{es:List MapEntry}(h:MR M bm st kv es):V.underkv bm.length kv=true:=by
 induction h with
 | nil=>rfl
 | cons hk hs hx ho _ ih=>simp only[V.underkv,V.underp,Pk];exact⟨hx.under,ih⟩
def ai(k:Nat)(σ:LLV):Bool:=σ.all fun cs=>V.unders k cs
def an(k:Nat)(ρ:ac):Bool:=ρ.all fun p=>V.under k p.2
section
variable {C : Cx} {M : ao} {bm : List Nat} {tk : be} {pr : Prot} {ρ : ac} {σ : LLV} {n : Nat} {a : Act} {w : World} {K : ac -> LLV -> Prop} {Q : AEx -> ac -> LLV -> Prop}
theorem Inv.drop(h:Inv M bm σ tk pr w){k:Nat}(hb:ai k (σ.take k)=true):Inv M (bm.take k) (σ.take k) tk pr w:=by
 refine⟨h.facts,by simp[h.len],fun i b cs hi hc=>?_,fun b hb=>h.free b (PX hb),h.bmnd.sublist (List.take_sublist _ _),fun i j g hg=>?_,h.inj,h.prlt⟩
 .have hik:i<k:=by have:=(List.getElem?_eq_some_iff.1 hi).1;simp at this;omega
  have hmem:=List.mem_of_getElem? hc;rw[PI hik]at hi hc;have hbl:V.unders k cs=true:=List.all_eq_true.1 hb cs hmem;rcases h.box i b cs hi hc with⟨vs,T,h1,h2,h3⟩|⟨st,kv,es,clock,rfl,h1,h2,h3⟩|h1;case inr.inr=>exact .inr (.inr h1)
  case inr.inl=>exact .inr (.inl ⟨st,kv,es,clock,rfl,h1,h2,h3.drop (by simpa[V.unders,V.under]using hbl)⟩)
  exact .inl ⟨vs,T,h1,h2,fun j g1 g2=>⟨⟨(h3 j g1 g2).1.rep.drop (V.unders_get hbl j g1),(h3 j g1 g2).1.own⟩,(h3 j g1 g2).2⟩⟩
 .obtain⟨t1,t2,t3⟩:=h.tok i j g hg;exact⟨t1,fun hm=>t2 (PX hm),t3⟩
theorem Inv.under(h:Inv M bm σ tk pr w):ai σ.length σ=true:=by
 rw[ai,Pz];intro cs hcs;obtain⟨i,hi,rfl⟩:=PA hcs;rcases h.box i (bm[i]'(by rw[h.len];exact hi)) σ[i] (Py _) (Py _)with⟨vs,T,h1,h2,h3⟩|⟨st,kv,es,clock,e,h1,h2,h3⟩|⟨T,k,e,-⟩
 case inr.inr=>rw[e];simp[tyc,V.unders,V.under]
 case inr.inl=>rw[e];simp only[V.unders,V.under,Pu];rw[<-h.len];exact h3.under
 refine V.unders_of fun j hj=>?_;rw[<-h.len];exact(h3 j hj (by omega)).1.rep.under
theorem AM{k:Nat}(h:an k ρ=true)(t:Nat):V.under k (get ρ t)=true:=by
 induction ρ with
 | nil=>rfl
 | cons p r ih=>
  obtain⟨s,u⟩:=p;simp only[an,List.all_cons,Pk]at h;simp only[get];split
  .exact h.1
  .exact ih h.2
theorem SRel.drop(h:SRel M bm tk pr ρ σ n a w){k:Nat}(h1:ai k (σ.take k)=true)(h2:an k ρ=true):SRel M (bm.take k) tk pr ρ (σ.take k) n a w:=
 ⟨h.inv.drop h1,h.defers,h.size,fun t=>⟨(h.slots t).rep.drop (AM h2 t),(h.slots t).own⟩⟩
theorem Later.drop{M':ao}{bm':List Nat}{w':World}(h:Later M bm pr w M' bm' w'){k:Nat}(hk:bm.length≤k):Later M bm pr w M' (bm'.take k) w':=by
 obtain⟨t,ht⟩:=h.pre;exact⟨h.le,⟨t.take (k-bm.length),by rw[ht,List.take_append,List.take_of_length_le hk]⟩,h.keep,h.facts,h.os,h.tape,h.output,h.size⟩
theorem Oper.wp_mono2{P:Program}{o:Oper}{a:Act}{w:World}{K K':Act->World->Prop}{Q Q':Exit->Act->World->Prop}(h1:∀a w,K a w->K' a w)(h2:∀e a w,Q e a w->Q' e a w)(hh:o.wp P a w K Q):o.wp P a w K' Q':=by
 unfold Oper.wp at *;generalize (execOp a.eval o).run P w=r at *;cases r with
 | ok n w'=>
  cases n<;>simp only[Oper.upon]at hh ⊢ <;>
   first
    | exact h1 _ _ hh
    | exact Calls.mono hh (fun e w'' he=>by
     cases e with
     | returned v=>exact h1 _ _ he
     | panicked c=>exact h2 _ _ _ he
     | outgrown=>obtain⟨a,w,hq⟩:=he;exact⟨a,w,h2 _ _ _ hq⟩)
    | exact Rows.mono hh (fun _ _ he=>h1 _ _ he)
    | exact hh
 | halt x w'=>cases x<;>simp only[Oper.upon]at hh ⊢ <;>first|exact h2 _ _ _ hh|exact hh
theorem eY(h:SRel M bm tk pr ρ σ n a w){ops:Array Oper}{t j:Nat}{b:Bool}(hg:get ρ t=.d (.lit (.bool b)))(hj:(match ops[j]? with|some q=>q.dst==some t|none=>false)=true):yielded ops a.tmps j=some b:=by
 split at hj
 .rename_i q hq;have hq2:q.dst=some t:=by simpa using hj
  have hr:=(h.slots t).rep;rw[hg]at hr;have hv:=hr.bool_inv;unfold yielded;rw[hq];simp only[P9,hq2];cases ht:a.tmps[t]? with
  | none=>
   simp only[Pa,ht,Option.getD_none]at hv;cases hv
  | some v=>
   simp only[Pa,ht,P6]at hv;subst hv;rfl
 .cases hj
theorem gj{M:ao}{bm:List Nat}:Rep M bm (.tup []) undef:=.tup (vs:=[]) rfl fun i h=>by simp at h
theorem ip(h:SRel M bm tk pr ρ σ n a w){ops:Array Oper}{t j:Nat}(hg:get ρ t=.tup [])(hj:(match ops[j]? with|some q=>q.dst==some t|none=>false)=true):yielded ops a.tmps j=none:=by
 split at hj
 .rename_i q hq;have hq2:q.dst=some t:=by simpa using hj
  have hr:=(h.slots t).rep;rw[hg]at hr;unfold yielded;rw[hq];simp only[P9,hq2];cases ht:a.tmps[t]? with
  | none=>rfl
  | some v=>
   simp only[Pa,ht,P6]at hr;cases hr with
   | tup _ _=>rfl
 .cases hj
theorem SRel.know(h:SRel M bm tk pr ρ σ n a w){t:Nat}{b:Bool}(hb:get ρ t=.d (.lit (.bool b))){c:Bool}(hc:b=c):SRel M bm tk pr (put ρ t (.d (.lit (.bool c)))) σ n a w:=
 ⟨h.inv,h.defers,h.size,fun s=>by
   rw[bg];split
   .rename_i e;subst e;subst hc;rw[<-hb];exact h.slots s
   .exact h.slots s⟩
theorem fh{M0:ao}{bm0:List Nat}{w0:World}(hG:C.glob M0 pr w0){ops:Array Oper}:∀{l:List O} {l':List Oper} {M:ao} {bm:List Nat} {tk:be} {ρ:ac} {σ:LLV} {a:Act} {w:World},
 eX C.tab n ops l l'=true->Later M0 bm0 pr w0 M bm w->SRel M bm tk pr ρ σ n a w->bM C l ρ σ Q->wpList C.P ops (aY M0 bm0 pr w0 n Q) l' a w
 | [],[],M,bm,tk,ρ,σ,a,w,_,hl,h,hq=>⟨M,bm,tk,ρ,σ,_,hq,.normal,h,hl⟩
 | o::r,o'::r',M,bm,tk,ρ,σ,a,w,hok,hl,h,hq=>by
  simp only[eX,Pk]at hok;obtain⟨h1,h2⟩:=hok;have hG':=hG.mono hl
  have step:∀{ρ:ac},SRel M bm tk pr ρ σ n a w->cw C o.op o.dst ρ σ (fun ρ' σ'=>bM C r ρ' σ' Q) Q->o'.wp C.P a w (wpList C.P ops (aY M0 bm0 pr w0 n Q) r') (aY M0 bm0 pr w0 n Q):=fun h hr=>by
   refine Oper.wp_mono2 (fun a' w' hL=>?_) (fun e a' w' hL=>hL.trans hl) (bO hG' h h1 hr);obtain⟨M',bm',tk',ρ',σ',k1,k2,k3⟩:=hL;exact fh hG h2 (hl.trans k3 (fun _ h=>h)) k2 k1
  have hgd:∀g,o.g=g->(match g,o'.guard with
   | none,none=>true
   | some (t,b),some (j,b')=>b==b'&&(match ops[j]? with|some q=>q.dst==some t|none=>false)
   | _,_=>false)=true:=fun g hg=>by
   subst hg;unfold okO at h1;simp only[Pk]at h1;exact h1.2
  have hdst:o.dst=o'.dst:=by
   unfold okO at h1;simp only[Pk,beq_iff_eq]at h1;exact h1.1.1.2
  have hdn:∀d,o'.dst=some d->d<n:=by
   unfold okO at h1;simp only[Pk]at h1;intro d hd;have:=h1.1.2;rw[hd]at this;simpa using this
  unfold wpList;simp only[bM]at hq;split at hq
  .rename_i hg;have:=hgd none hg;split at this
   .rename_i hg2;rw[if_pos (by simp[Region.wanted,hg2])];exact .inl (step h hq)
   .rename_i e _;cases e
   .cases this
  .rename_i t want hg;have:=hgd _ hg;split at this
   .rename_i e _;cases e
   .rename_i t' b' j b'' e hg2;cases e;simp only[Pk,beq_iff_eq]at this;obtain⟨rfl,hj⟩:=this;split at hq
    .rename_i b hb;have hy:=eY h hb hj;by_cases hbw:b=want
     .rw[if_pos (by simp[Region.wanted,hg2,hy,hbw])];exact .inl (step (h.know hb hbw) (hq.1 hbw))
     .rw[if_neg (by simp[Region.wanted,hg2,hy,hbw])];have:=hq.2 hbw;rw[hdst]at this;exact fh hG h2 hl ((h.know hb (c:=!want) (by cases b<;>cases want<;>simp_all)).putd hdn gj (by simp)) this
    .rename_i hb;have hy:=ip h hb hj;rw[if_neg (by simp[Region.wanted,hg2,hy])];rw[hdst]at hq;exact fh hG h2 hl (h.putd hdn gj (by simp)) hq
    .exact hq.elim
   .cases this
 | [],_::_,_,_,_,_,_,_,_,hok,_,_,_=>by cases hok
 | _::_,[],_,_,_,_,_,_,_,hok,_,_,_=>by cases hok
end
end Go.Proofs.YtnhphlmblenapaaGreatDoor
namespace Go.Proofs.YtnhphlmblenapaaGreatDoor
open Go.RowKit
def X.slots:X->List Nat
 | .t n=>[n]
 | _=>[]
def OP.slots:OP->List Nat
 | .mv x | .un _ x | .conv _ x | .nilck x | .fa _ x | .fld _ _ _ x | .len _ x | .ext x _ | .load _ _ x | .mki _ x | .tas _ _ x=>x.slots
 | .pick c a b=>c.slots++(a.slots++b.slots)
 | .mlk _ _ _ x k=>x.slots++k.slots
 | .nif _ x=>x.slots
 | .eqa _ _ _ x y=>x.slots++y.slots
 | .bin _ x y | .ia _ x y | .ix x y | .mx _ x y=>x.slots++y.slots
 | .bld _ ps=>ps.flatMap fun p=>p.2.2.slots
 | .sub _ _ x lo hi=>x.slots++(lo.toList++hi.toList).flatMap X.slots
 | .mkfn _ cap=>cap.flatMap X.slots
 | .mkbd _ first=>first.flatMap X.slots
 | .mks _ _ xs=>xs.flatMap X.slots
 | .call _ args=>args.flatMap X.slots
 | .callv x args=>x.slots++args.flatMap X.slots
 | .calln _ args=>args.flatMap X.slots
 | _=>[]
def aN(C:Cx)(op:OP)(ρ:ac)(σ:LLV)(k:V->Prop):Prop:=
 match op with
 | .call f args=>∃v,Fun C f (args.map fun x=>(ev C ρ x).lend) σ (fun o σ'=>o=.ret v/\σ'=σ)/\k v
 | .callv x args=>match ev C ρ x with
  | .fn f cap=>∃v,Fun C f ((args.map fun x=>(ev C ρ x).lend)++cap) σ (fun o σ'=>o=.ret v/\σ'=σ)/\k v
  | _=>False
 | .mks _ kk xs=>match dh (xs.map (ev C ρ))with
  | some rows=>rows.all (fun r=>r.length==kk)=true/\k (.d (.sl rows))
  | none=>False
 | .calln f args=>∃v,Fun C f (args.map fun x=>(ev C ρ x).copy) σ (fun o σ'=>o=.ret v/\σ'=σ)/\k v
 | op=>match ba op,pv C op ρ σ with
  | true,some v=>k v
  | _,_=>False
def aQ(C:Cx):List O->ac->LLV->(ac->Prop)->Prop
 | [],ρ,_,K=>K ρ
 | o::r,ρ,σ,K=>match o.g with
  | none=>aN C o.op ρ σ fun v=>aQ C r (putd ρ o.dst v) σ K
  | some (t,want)=>match get ρ t with
   | .d (.lit (.bool b))=>(b=want->aN C o.op (put ρ t (.d (.lit (.bool want)))) σ fun v=>aQ C r (putd (put ρ t (.d (.lit (.bool want)))) o.dst v) σ K)/\(b≠want->aQ C r (putd (put ρ t (.d (.lit (.bool (!want))))) o.dst (.tup [])) σ K)
   | .tup []=>aQ C r (putd ρ o.dst (.tup [])) σ K
   | _=>False
def aD:List (Option Nat×V×Bool)->ac->ac
 | [],ρ=>ρ
 | (d,x,b)::r,ρ=>aD r (if b then putd ρ d x else ρ)
theorem bZ(ρ:ac)(d:Option Nat)(x:V)(t:Nat):get (putd ρ d x) t=if d=some t then x else get ρ t:=by
 cases d with
 | none=>simp[putd]
 | some d=>simp only[putd,bg,Option.some.injEq];split<;>split<;>first|rfl|omega
theorem gB:∀(l:List (Option Nat×V×Bool)) (ρ ρ':ac) (t:Nat),get ρ t=get ρ' t->get (aD l ρ) t=get (aD l ρ') t
 | [],_,_,_,h=>h
 | (d,x,b)::r,ρ,ρ',t,h=>by
  simp only[aD];apply gB r;cases b
  .exact h
  .simp only[if_true,bZ];split
   .rfl
   .exact h
theorem bG:∀(l l':List (Option Nat×V×Bool)) (ρ:ac) (t:Nat),l.length=l'.length->(∀i (h:i<l.length) (h':i<l'.length),l[i].1=l'[i].1/\l[i].2.1=l'[i].2.1/\(l[i].1=some t->l[i].2.2=l'[i].2.2))->get (aD l ρ) t=get (aD l' ρ) t
 | [],[],_,_,_,_=>rfl
 | (d,x,b)::r,(d',x',b')::r',ρ,t,hl,h=>by
  simp only[aD];obtain⟨h1,h2,h3⟩:=h 0 (by simp) (by simp);simp only[PV]at h1 h2 h3;subst h1;subst h2;have hr:=fun ρ=>bG r r' ρ t (by simpa using hl) (fun i g1 g2=>h (i+1) (by simpa using g1) (by simpa using g2));by_cases e:d=some t
  .rw[h3 e];exact hr _
  .rw[<-hr];apply gB;cases b<;>cases b'<;>simp[bZ,e]
 | [],_::_,_,_,hl,_=>by simp at hl
 | _::_,[],_,_,hl,_=>by simp at hl
theorem dJ:∀(l:List (Option Nat×V×Bool)) (ρ:ac) (t:Nat),(∀p∈l,p.1=some t->p.2.2=false)->get (aD l ρ) t=get ρ t
 | [],_,_,_=>rfl
 | (d,x,b)::r,ρ,t,h=>by
  simp only[aD];rw[dJ r _ t (fun p hp=>h p (by simp[hp]))];cases b
  .rfl
  .simp only[if_true,bZ];split
   .rename_i e;have:=h (d,x,true) (by simp) e;cases this
   .rfl
theorem em:∀(l l':List (Option Nat×V×Bool)) (ρ:ac),aD (l++l') ρ=aD l' (aD l ρ)
 | [],_,_=>rfl
 | (d,x,b)::r,l',ρ=>by simp only[PT,aD];exact em r l' _
theorem eU(l:List (Option Nat×V×Bool))(ρ:ac)(i:Nat)(h:i<l.length)(t:Nat)(hd:l[i].1=some t)(hb:l[i].2.2=true)(hn:∀j (hj:j<l.length),i<j->l[j].1=some t->l[j].2.2=false):get (aD l ρ) t=l[i].2.1:=by
 have e:aD l ρ=aD (l.take i++(l[i]::l.drop (i+1))) ρ:=by rw[List.getElem_cons_drop,List.take_append_drop]
 rw[e,em];generalize aD (l.take i) ρ=ρ1;generalize hli:l[i]=p at hd hb;obtain⟨d,x,b⟩:=p;simp only at hd hb;subst hd;subst hb;simp only[aD,if_true];rw[dJ]
 .simp[bZ]
 .intro p hp hpt;obtain⟨j,hj,rfl⟩:=PA hp;simp only[List.getElem_drop]at hpt ⊢;exact hn (i+1+j) (by simp at hj;omega) (by omega) hpt
def O.looks(o:O):List Nat:=o.op.slots++(match o.g with|some (t,_)=>[t]|none=>[])
def aB(o:Oper):List Nat:=(o.after.toList.filter fun e=>Region.binds .any e).map (·.on)
def aM:List Oper->List (List Nat)->List (List Nat)
 | [],acc=>acc
 | o::r,acc=>aM r (acc++[aB o++(aB o).flatMap fun j=>acc.getD j []])
def pW(l:List O)(os:List Oper):Bool:=
 let bf:=aM os []
 (PB os.length).all fun i=>
   (match os[i]? with|some o=>(aB o).all fun j=>decide (j<i)|none=>true) &&
   (match l[i]? with
   | some o=>(o.looks++o.dst.toList).all fun t=>(PB l.length).all fun j=>j==i||(match l[j]? with
    | some p=>p.dst != some t||(if j<i then(bf.getD i []).contains j else(bf.getD j []).contains i)
    | none=>true)
   | none=>true)
def aA:List O->List V->Nat->(Nat->Bool)->List (Option Nat×V×Bool)
 | o::l,x::xs,k,S=>(o.dst,x,S k)::aA l xs (k+1) S
 | _,_,_,_=>[]
theorem du:∀(l:List O) (xs:List V) (k:Nat) (S:Nat->Bool),xs.length=l.length->(aA l xs k S).length=l.length
 | [],[],_,_,_=>rfl
 | o::l,x::xs,k,S,h=>by simp only[aA,PG];rw[du l xs (k+1) S (by simpa using h)]
 | [],_::_,_,_,h=>by simp at h
 | _::_,[],_,_,h=>by simp at h
theorem dt:∀(l:List O) (xs:List V) (k:Nat) (S:Nat->Bool) (i:Nat) (h:i<(aA l xs k S).length) (h1:i<l.length) (h2:i<xs.length),(aA l xs k S)[i]=(l[i].dst,xs[i],S (k+i))
 | o::l,x::xs,k,S,0,h,h1,h2=>rfl
 | o::l,x::xs,k,S,i+1,h,h1,h2=>by
  have:=dt l xs (k+1) S i (by simpa[aA]using h) (by simpa using h1) (by simpa using h2);simp only[aA,PW];rw[this,show k+1+i=k+(i+1)by omega]
def Loc(C:Cx)(o:O)(ρ:ac)(σ:LLV)(x:V):Prop:=
 match o.g with
 | none=>aN C o.op ρ σ fun v=>v=x
 | some (t,want)=>match get ρ t with
  | .d (.lit (.bool b))=>(b=want->aN C o.op ρ σ fun v=>v=x)/\(b≠want->x=.tup [])
  | .tup []=>x=.tup []
  | _=>False
section
variable {C : Cx} {pr : Prot} {σ : LLV} {n : Nat} {Q : AEx -> ac -> LLV -> Prop}
theorem fg{op:OP}{ρ:ac}{k:V->Prop}(h:aN C op ρ σ k):∃v,aN C op ρ σ (fun u=>u=v)/\k v:=by
 unfold aN at h;split at h
 .obtain⟨v,h1,h2⟩:=h;exact⟨v,by simp only[aN];exact⟨v,h1,rfl⟩,h2⟩
 .rename_i x args;split at h
  .rename_i f cap e;obtain⟨v,h1,h2⟩:=h;exact⟨v,by simp only[aN,e];exact⟨v,h1,rfl⟩,h2⟩
  .exact h.elim
 .split at h
  .rename_i rows e;obtain⟨h1,h2⟩:=h;exact⟨_,by simp only[aN,e];exact⟨h1,trivial⟩,h2⟩
  .exact h.elim
 .obtain⟨v,h1,h2⟩:=h;exact⟨v,by simp only[aN];exact⟨v,h1,rfl⟩,h2⟩
 .rename_i n1 n2 n3 n4;split at h
  .rename_i v hp e;refine⟨v,?_,h⟩;unfold aN;split
   .exact absurd rfl (n1 _ _)
   .exact absurd rfl (n2 _ _)
   .exact absurd rfl (n3 _ _ _)
   .exact absurd rfl (n4 _ _)
   .rw[hp,e]
  .exact h.elim
theorem bz{ρ ρ':ac}{x:X}(h:∀t∈x.slots,get ρ t=get ρ' t):ev C ρ x=ev C ρ' x:=by
 cases x with
 | t n=>exact h n (by simp[X.slots])
 | k v=>rfl
 | g n=>rfl
theorem je{ρ ρ':ac}{xs:List X}(h:∀t∈xs.flatMap X.slots,get ρ t=get ρ' t):xs.map (ev C ρ)=xs.map (ev C ρ'):=
 PF fun x hx=>bz fun t ht=>h t (List.mem_flatMap.2 ⟨x,hx,ht⟩)
theorem rl{ρ ρ':ac}:∀{ps:List (Nat×Nat×X)} {cs:List V},(∀t∈ps.flatMap (fun p=>p.2.2.slots),get ρ t=get ρ' t)->kH (ev C ρ) cs ps=kH (ev C ρ') cs ps
 | [],cs,_=>rfl
 | (off,k,x)::ps,cs,h=>by
  have e:ev C ρ x=ev C ρ' x:=bz fun t ht=>h t (by simp[ht]);simp only[kH,e];have:=fun cs=>rl (ps:=ps) (cs:=cs) (fun t ht=>h t (by simp only[List.flatMap_cons,PO];exact .inr ht));split
  .split<;>first|rfl|exact this _
  .rfl
theorem EA{ρ ρ':ac}{op:OP}(h:∀t∈op.slots,get ρ t=get ρ' t):pv C op ρ σ=pv C op ρ' σ:=by
 have two:∀{x y:X},(∀t∈x.slots++y.slots,get ρ t=get ρ' t)->ev C ρ x=ev C ρ' x/\ev C ρ y=ev C ρ' y:=fun h=>
  ⟨bz fun t ht=>h t (by simp[ht]),bz fun t ht=>h t (by simp[ht])⟩
 cases op<;>simp only[OP.slots]at h<;>simp only[pv]
 case pick c a b=>
  have e1:ev C ρ c=ev C ρ' c:=bz fun t ht=>h t (by simp[ht]);have e2:ev C ρ a=ev C ρ' a:=bz fun t ht=>h t (by simp[ht]);have e3:ev C ρ b=ev C ρ' b:=bz fun t ht=>h t (by simp[ht]);rw[e1,e2,e3]
 case bin o x y=>rw[(two h).1,(two h).2]
 case ia k x y=>rw[(two h).1,(two h).2]
 case ix x y=>rw[(two h).1,(two h).2]
 case mx g x y=>rw[(two h).1,(two h).2]
 case mlk st ok z x y=>rw[(two h).1,(two h).2]
 case bld zs ps=>rw[rl h]
 case mkfn f cap=>rw[je h]
 case mkbd f first=>rw[je h]
 case sub s k x lo hi=>
  have e1:ev C ρ x=ev C ρ' x:=bz fun t ht=>h t (by simp[ht])
  have e2:lo.map (ev C ρ)=lo.map (ev C ρ'):=by
   cases lo with
   | none=>rfl
   | some y=>simp only[P8];rw[bz fun t ht=>h t (by simp[ht])]
  have e3:hi.map (ev C ρ)=hi.map (ev C ρ'):=by
   cases hi with
   | none=>rfl
   | some y=>simp only[P8];rw[bz fun t ht=>h t (by simp[ht])]
  rw[e1,e2,e3]
 case eqa neq T ks x y=>
  have e1:ev C ρ x=ev C ρ' x:=bz fun t ht=>h t (by simp[ht]);have e2:ev C ρ y=ev C ρ' y:=bz fun t ht=>h t (by simp[ht]);rw[e1,e2]
 all_goals first
  | rfl
  | rw[bz h]
theorem e6{ρ ρ':ac}{op:OP}{k:V->Prop}(h:∀t∈op.slots,get ρ t=get ρ' t)(hc:aN C op ρ σ k):aN C op ρ' σ k:=by
 unfold aN at hc;split at hc
 .rename_i f args;have e:(args.map fun x=>(ev C ρ x).lend)=args.map fun x=>(ev C ρ' x).lend:=PF fun x hx=>by rw[bz fun t ht=>h t (List.mem_flatMap.2 ⟨x,hx,ht⟩)]
  rw[e]at hc;exact hc
 .rename_i x args;simp only[OP.slots]at h;have e:(args.map fun x=>(ev C ρ x).lend)=args.map fun x=>(ev C ρ' x).lend:=PF fun x hx=>by rw[bz fun t ht=>h t (PS _ (List.mem_flatMap.2 ⟨x,hx,ht⟩))]
  have e2:ev C ρ x=ev C ρ' x:=bz fun t ht=>h t (by simp[ht]);rw[e,e2]at hc;exact hc
 .rename_i T kk xs;rw[je (C:=C) h]at hc;exact hc
 .rename_i f args;have e:(args.map fun x=>(ev C ρ x).copy)=args.map fun x=>(ev C ρ' x).copy:=PF fun x hx=>by rw[bz fun t ht=>h t (List.mem_flatMap.2 ⟨x,hx,ht⟩)]
  rw[e]at hc;exact hc
 .rename_i n1 n2 n3 n4;rw[EA h]at hc;unfold aN;split
  .exact absurd rfl (n1 _ _)
  .exact absurd rfl (n2 _ _)
  .exact absurd rfl (n3 _ _ _)
  .exact absurd rfl (n4 _ _)
  .exact hc
theorem Loc.congr{ρ ρ':ac}{o:O}{x:V}(h:∀t∈o.looks,get ρ t=get ρ' t)(hc:Loc C o ρ σ x):Loc C o ρ' σ x:=by
 unfold O.looks at h;unfold Loc at hc ⊢;split at hc
 .rename_i hg;rw[hg]at h;exact e6 (fun t ht=>h t (by simp[ht])) hc
 .rename_i t want hg;rw[hg]at h;have e:get ρ t=get ρ' t:=h t (by simp);rw[e]at hc;split at hc
  .rename_i b hb;exact⟨fun hw=>e6 (fun t ht=>h t (by simp[ht])) (hc.1 hw),hc.2⟩
  .exact hc
  .exact hc.elim
theorem mB:∀{l:List O} {ρ:ac} {k:Nat} {K:ac->Prop},aQ C l ρ σ K->
 ∃xs:List V,xs.length=l.length/\(∃ρ',K ρ'/\∀t,get ρ' t=get (aD (aA l xs k fun _=>true) ρ) t)/\
  ∀i (h:i<l.length) (h':i<xs.length),∃ρi,Loc C l[i] ρi σ xs[i]/\∀t,get ρi t=get (aD (aA l xs k fun j=>decide (j<k+i)) ρ) t
 | [],ρ,k,K,h=>⟨[],rfl,⟨ρ,h,fun _=>rfl⟩,fun i h=>by simp at h⟩
 | o::r,ρ,k,K,h=>by
  have key:∀x ρ2,(∀t,get ρ2 t=get ρ t)->Loc C o ρ σ x->aQ C r (putd ρ2 o.dst x) σ K->∃xs:List V,xs.length=(o::r).length/\(∃ρ',K ρ'/\∀t,get ρ' t=get (aD (aA (o::r) xs k fun _=>true) ρ) t)/\
   ∀i (h:i<(o::r).length) (h':i<xs.length),∃ρi,Loc C (o::r)[i] ρi σ xs[i]/\∀t,get ρi t=get (aD (aA (o::r) xs k fun j=>decide (j<k+i)) ρ) t:=by
   intro x ρ2 h2e hx hr;obtain⟨xs,h1,⟨ρ',h2,h3⟩,h4⟩:=mB (k:=k+1) hr;have hput:∀t,get (putd ρ2 o.dst x) t=get (putd ρ o.dst x) t:=fun t=>by rw[bZ,bZ,h2e]
   refine⟨x::xs,by simp[h1],⟨ρ',h2,fun t=>?_⟩,fun i hi hi'=>?_⟩
   .simp only[aA,aD,if_true];rw[h3 t];exact gB _ _ _ _ (hput t)
   .cases i with
    | zero=>
     refine⟨ρ,hx,fun t=>?_⟩;rw[dJ];intro p hp _;obtain⟨j,hj,rfl⟩:=PA hp;have hl:=du (o::r) (x::xs) k (fun j=>decide (j<k+0)) (by simp[h1]);rw[hl]at hj;rw[dt _ _ _ _ _ (by rw[hl];exact hj) hj (by simp[h1];simpa using hj)];simp
    | succ i=>
     obtain⟨ρi,g1,g2⟩:=h4 i (by simpa using hi) (by simpa using hi');refine⟨ρi,g1,fun t=>?_⟩;simp only[aA,aD];rw[if_pos (by simp),g2 t,show k+1+i=k+(i+1)by omega];exact gB _ _ _ _ (hput t)
  have know:∀{t:Nat} {b c:Bool},get ρ t=.d (.lit (.bool b))->b=c->∀s,get (put ρ t (.d (.lit (.bool c)))) s=get ρ s:=fun hb hc s=>by
   rw[bg];split
   .rename_i e;subst e;subst hc;exact hb.symm
   .rfl
  simp only[aQ]at h;split at h
  .rename_i hg;obtain⟨v,h1,h2⟩:=fg h;exact key v ρ (fun _=>rfl) (by unfold Loc;rw[hg];exact h1) h2
  .rename_i t want hg;split at h
   .rename_i b hb;by_cases e:b=want
    .obtain⟨v,h1,h2⟩:=fg (h.1 e);exact key v _ (know hb e) (by unfold Loc;rw[hg];simp only;rw[hb];exact⟨fun _=>e6 (fun s _=>know hb e s) h1,fun ne=>absurd e ne⟩) h2
    .exact key (.tup []) _ (know hb (c:=!want) (by cases b<;>cases want<;>simp_all)) (by unfold Loc;rw[hg];simp only;rw[hb];exact⟨(fun ee=>absurd ee e),(fun _=>by trivial)⟩) (h.2 e)
   .rename_i hb;exact key (.tup []) ρ (fun _=>rfl) (by unfold Loc;rw[hg];simp only;rw[hb];trivial) h
   .exact h.elim
end
end Go.Proofs.YtnhphlmblenapaaGreatDoor
namespace Go.Proofs.YtnhphlmblenapaaGreatDoor
open Go.RowKit
theorem nT:∀(os:List Oper) (acc:List (List Nat)),(aM os acc).length=acc.length+os.length/\∀i,i<acc.length->(aM os acc)[i]? = acc[i]?
 | [],acc=>⟨rfl,fun _ _=>rfl⟩
 | o::r,acc=>by
  obtain⟨h1,h2⟩:=nT r (acc++[aB o++(aB o).flatMap fun j=>acc.getD j []]);simp only[aM];refine⟨by rw[h1];simp;omega,fun i hi=>?_⟩;rw[h2 i (by simp;omega),PJ hi]
theorem vY(os:List Oper):∀(acc:List (List Nat)) (i:Nat) (o:Oper),os[i]? = some o->∃pre:List (List Nat),(aM os acc)[acc.length+i]? = some (aB o++(aB o).flatMap fun j=>pre.getD j [])/\∀j,j<acc.length+i->pre[j]? = (aM os acc)[j]? := by
 induction os with
 | nil=>intro acc i o h;simp at h
 | cons o' r ih=>
  intro acc i o h;simp only[aM];cases i with
  | zero=>
   simp at h;subst h;obtain⟨h1,h2⟩:=nT r (acc++[aB o'++(aB o').flatMap fun j=>acc.getD j []]);refine⟨acc,?_,fun j hj=>?_⟩
   .rw[h2 _ (by simp)];rw[PU (by simp)];simp
   .rw[h2 j (by simp;omega),PJ (by omega)]
  | succ i=>
   obtain⟨pre,h1,h2⟩:=ih (acc++[aB o'++(aB o').flatMap fun j=>acc.getD j []]) i o (by simpa using h);rw[List.length_append,List.length_singleton]at h1 h2;rw[show acc.length+(i+1)=acc.length+1+i by omega];exact⟨pre,h1,h2⟩
theorem bP{os:List Oper}(hlt:∀(i:Nat) (o:Oper),os[i]? = some o->∀j∈aB o,j<i){S:Nat->Prop}(hcl:∀(i:Nat) (o:Oper),os[i]? = some o->S i->∀j∈aB o,S j):
 ∀(i:Nat) (o:Oper),os[i]? = some o->(∀j∈aB o,S j)->∀j∈(aM os []).getD i [],S j:=by
 intro i
 induction i using P1 with
 | _ i ih=>
 intro o ho he j hj;obtain⟨pre,h1,h2⟩:=vY os [] i o ho;simp only[PY,PZ]at h1 h2;rw[PL,h1,P6]at hj;rcases List.mem_append.1 hj with hj|hj
 .exact he j hj
 .obtain⟨e,g1,g2⟩:=List.mem_flatMap.1 hj;have hei:=hlt i o ho e g1;rw[PL,h2 e hei,<-PL]at g2;have hlen:e<os.length:=by have:=(List.getElem?_eq_some_iff.1 ho).1;omega
  exact ih e hei os[e] (Py hlen) (hcl e _ (Py hlen) (he e g1)) j g2
theorem sF{l:List O}{os:List Oper}(hl:l.length=os.length)(h:pW l os=true):
 (∀(i:Nat) (o:Oper),os[i]? = some o->∀j∈aB o,j<i)/\
 ∀(i:Nat) (o:O),l[i]? = some o->∀t∈o.looks++o.dst.toList,∀(j:Nat) (p:O),l[j]? = some p->p.dst=some t->j≠i->(j<i/\j∈(aM os []).getD i [])\/(i<j/\i∈(aM os []).getD j []):=by
 unfold pW at h;simp only[Pz,PC,Pk]at h;refine⟨fun i o ho j hj=>?_,fun i o ho t ht j p hp hd hne=>?_⟩
 .have:=(h i (List.getElem?_eq_some_iff.1 ho).1).1;rw[ho]at this;simpa using List.all_eq_true.1 this j hj
 .have h1:=(h i (by rw[<-hl];exact(List.getElem?_eq_some_iff.1 ho).1)).2;rw[ho]at h1;simp only[Pz,PC]at h1;have h2:=h1 t ht j (List.getElem?_eq_some_iff.1 hp).1;rw[hp]at h2;simp only[hd,Pm,beq_iff_eq,bne_self_eq_false,Pl,false_or]at h2;rcases h2 with h2|h2
  .exact absurd h2 hne
  .split at h2
   .exact .inl ⟨by assumption,by simpa using h2⟩
   .exact .inr ⟨by omega,by simpa using h2⟩
theorem fr{tab:Tab}{n:Nat}{ops:Array Oper}:∀{l:List O} {os:List Oper},eX tab n ops l os=true->l.length=os.length/\∀(i:Nat) (o:O) (o':Oper),l[i]? = some o->os[i]? = some o'->okO tab n ops o o'=true
 | [],[],_=>⟨rfl,fun i o o' h=>by simp at h⟩
 | o::l,o'::os,h=>by
  simp only[eX,Pk]at h;obtain⟨h1,h2⟩:=fr h.2;refine⟨by simp[h1],fun i p p' hp hp'=>?_⟩;cases i with
  | zero=>simp at hp hp';subst hp;subst hp';exact h.1
  | succ i=>exact h2 i p p' (by simpa using hp) (by simpa using hp')
 | [],_::_,h=>by cases h
 | _::_,[],h=>by cases h
section
variable {C : Cx} {pr : Prot} {ρ : ac} {σ : LLV} {n : Nat} {Q : AEx -> ac -> LLV -> Prop}
theorem SRel.congr{M:ao}{bm:List Nat}{tk:be}{ρ ρ':ac}{a:Act}{w:World}(h:SRel M bm tk pr ρ σ n a w)(he:∀t,get ρ' t=get ρ t):SRel M bm tk pr ρ' σ n a w:=
 ⟨h.inv,h.defers,h.size,fun t=>by rw[he];exact h.slots t⟩
theorem jK{op:OP}{ρ:ac}{x:V}{dst:Option Nat}(h:aN C op ρ σ fun v=>v=x):cw C op dst ρ σ (fun ρ' σ'=>ρ'=putd ρ dst x/\σ'=σ) (fun _ _ _=>False):=by
 unfold aN at h;split at h
 .obtain⟨v,h1,rfl⟩:=h;exact h1.mono fun o σ' ⟨e1,e2⟩=>by subst e1;exact⟨rfl,e2⟩
 .split at h
  .rename_i f cap e;obtain⟨v,h1,rfl⟩:=h;simp only[cw,e];exact h1.mono fun o σ' ⟨e1,e2⟩=>by subst e1;exact⟨rfl,e2⟩
  .exact h.elim
 .split at h
  .rename_i rows e;obtain⟨h1,rfl⟩:=h;simp only[cw,e];exact⟨h1,trivial,trivial⟩
  .exact h.elim
 .obtain⟨v,h1,rfl⟩:=h;exact h1.mono fun o σ' ⟨e1,e2⟩=>by subst e1;exact⟨rfl,e2⟩
 .split at h
  .rename_i v hp e;subst h;cases op<;>simp only[ba]at hp<;>first|(cases hp;done)|skip
   all_goals
    unfold cw;simp only;rw[e];constructor<;>trivial
  .exact h.elim
theorem iF:∀(l:List Bool) (i:Nat),l[i]? = some false->((l.set i true).filter (! ·)).length+1=(l.filter (! ·)).length
 | b::l,0,h=>by simp at h;subst h;simp
 | b::l,i+1,h=>by
  have:=iF l i (by simpa using h);cases b<;>simp only[List.set_cons_succ,List.filter_cons]<;>simp<;>omega
theorem u3{M0:ao}{bm0:List Nat}{w0:World}(hG:C.glob M0 pr w0){id:Nat}{ops:Array Oper}{l:List O}{M:ao}{bm:List Nat}{tk:be}{a:Act}{w:World}(hok:eX C.tab n ops l ops.toList=true)(hdr:pW l ops.toList=true)
 (hl:Later M0 bm0 pr w0 M bm w)(h:SRel M bm tk pr ρ σ n a w)(hq:aQ C l ρ σ fun ρ'=>Q .normal ρ' σ):(Code.region id ops true).wp C.P (aY M0 bm0 pr w0 n Q) a w:=by
 obtain⟨hlen,hget⟩:=fr hok;obtain⟨hlt,hcmp⟩:=sF hlen hdr;obtain⟨xs,hxl,⟨ρf,hρf,hρe⟩,hloc⟩:=mB (k:=0) hq;have hnl:l.length=ops.size:=by rw[hlen];simp
 refine wp_region_any C.mixed ?_;have hsteps:∀S:Nat->Bool,(aA l xs 0 S).length=l.length:=fun S=>du l xs 0 S hxl
 have hsg:∀(S:Nat->Bool) (i:Nat) (hi:i<(aA l xs 0 S).length) (h1:i<l.length),(aA l xs 0 S)[i]=(l[i].dst,xs[i]'(by omega),S i):=fun S i hi h1=>by
  have:=dt l xs 0 S i hi h1 (by omega);simpa using this
 suffices H:∀(fuel:Nat) (listed:Array Bool) (M:ao) (tk:be) (a:Act) (w:World),Later M0 bm0 pr w0 M bm w->SRel M bm tk pr (aD (aA l xs 0 fun i=>listed.getD i false) ρ) σ n a w->listed.size=l.length->
  (∀(i:Nat) (o:Oper),ops.toList[i]? = some o->listed.getD i false=true->∀j∈aB o,listed.getD j false=true)->(listed.toList.filter (! ·)).length=fuel->wpAny C.P .any ops (aY M0 bm0 pr w0 n Q) fuel listed a w by
  obtain⟨h1,h2⟩:=h.ext (cO.drew w);refine H ops.size (Pg ops.size false) M tk a w.drew (hl.trans h2 (fun _ h=>h)) (h1.congr fun t=>?_) (by simp[hnl]) (fun i o ho hi=>?_) (by simp)
  .rw[dJ];intro p hp _;obtain⟨j,hj,rfl⟩:=PA hp;rw[hsteps]at hj;rw[hsg _ j (by rw[hsteps];exact hj) hj];simp[Pa,Pi];split<;>rfl
  .simp[Pa,Pi]at hi;split at hi<;>cases hi
 intro fuel
 induction fuel with
 | zero=>
  intro listed M tk a w hl h hsz hcl hcnt
  have hall:∀i,i<l.length->listed.getD i false=true:=fun i hi=>by
   have hb:listed[i]? = some (listed[i]'(by omega)):=Pb _;rw[Pa,hb,P6];have hne:listed.toList.filter (! ·)=[]:=PH hcnt;have:=List.filter_eq_nil_iff.1 hne (listed[i]'(by omega)) (by simp);simpa using this
  refine⟨?_,M,bm,tk,ρf,σ,.normal,hρf,.normal,h.congr (fun t=>?_),hl⟩
  .unfold Region.ready;rw[PE];intro i hi;have hi':i<l.length:=by rw[hnl];simpa using hi
   have h9:=hall i hi'
   have:listed.getD i true=true:=by
    have hb:listed[i]? = some (listed[i]'(by omega)):=Pb _;rw[Pa,hb,P6]at h9 ⊢;exact h9
   simp[this]
  .rw[hρe t];refine bG _ _ ρ t (by rw[hsteps,hsteps]) (fun i g1 g2=>?_);rw[hsteps]at g1;rw[hsg _ i (by rw[hsteps];exact g1) g1,hsg _ i (by rw[hsteps];exact g1) g1];exact⟨rfl,rfl,fun _=>(hall i g1).symm⟩
 | succ fuel ih=>
  intro listed M tk a w hl h hsz hcl hcnt;refine⟨fun hnil=>?_,fun i hi=>?_⟩
  .exfalso
   have hex:∃i,i<l.length/\listed.getD i false=false:=by
    apply Px;intro hno
    have hne:listed.toList.filter (! ·)=[]:=by
     rw[PE];intro b hb;obtain⟨i,hi,rfl⟩:=PA hb;have hi':i<listed.size:=by simpa using hi
     have h9:¬listed.getD i false=false:=fun e=>hno ⟨i,by omega,e⟩;have hb:listed[i]? = some listed[i]:=Pb hi';rw[Pa,hb,P6]at h9;simpa using h9
    rw[hne]at hcnt;simp at hcnt
   have hmin:∃i,i<l.length/\listed.getD i false=false/\∀j,j<i->listed.getD j false=true:=by
    obtain⟨i,h1,h2⟩:=hex
    induction i using P1 with
    | _ i ihm=>
    by_cases hj:∃j,j<i/\listed.getD j false=false
    .obtain⟨j,g1,g2⟩:=hj;exact ihm j g1 (by omega) g2
    .exact⟨i,h1,h2,fun j hji=>by
      cases hb:listed.getD j false with
      | true=>rfl
      | false=>exact absurd ⟨j,hji,hb⟩ hj⟩
   obtain⟨i,h1,h2,h3⟩:=hmin;have hio:i<ops.toList.length:=by rw[<-hlen];exact h1
   have:i∈Region.ready .any ops listed:=by
    unfold Region.ready;rw[PD];refine⟨by simp;omega,?_⟩
    have ht:listed.getD i true=false:=by
     have hb:listed[i]? = some (listed[i]'(by omega)):=Pb _;rw[Pa,hb,P6]at h2 ⊢;exact h2
    have ho:ops[i]? = some (ops[i]'(by omega)):=Pb _;rw[ht,ho];simp only[Pp,Pq,P8,P6];rw[<-Ph,Pz];intro e he;cases hb:Region.binds .any e with
    | false=>rfl
    | true=>
     have:e.on∈aB (ops[i]'(by omega)):=by
      unfold aB;exact List.mem_map.2 ⟨e,List.mem_filter.2 ⟨he,hb⟩,rfl⟩
     simp[h3 e.on (hlt i _ (by rw[Py hio];simp) e.on this)]
   rw[hnil]at this;cases this
  .unfold Region.ready at hi;rw[PD]at hi;obtain⟨hir,hic⟩:=hi;have hi1:i<ops.size:=by simpa using hir
   have hi2:i<l.length:=by omega
   have ho:ops[i]? = some ops[i]:=Pb hi1;have hoL:ops.toList[i]? = some ops[i]:=by rw[Pe];exact ho
   rw[ho]at hic;simp only[P8,P6,Pk,Pn]at hic;obtain⟨hun,hed⟩:=hic
   have hun':listed[i]? = some false:=by
    have hb:listed[i]? = some (listed[i]'(by omega)):=Pb _;rw[Pa,hb,P6]at hun;rw[hb,hun]
   have hunf:listed.getD i false=false:=by rw[Pa,hun'];rfl
   have hedge:∀j∈aB ops[i],listed.getD j false=true:=by
    intro j hj;unfold aB at hj;obtain⟨e,he,rfl⟩:=List.mem_map.1 hj;rw[PD]at he;rw[<-Ph,Pz]at hed;have:=hed e he.1;simpa[he.2]using this
   have hbef:=bP hlt (S:=fun j=>listed.getD j false=true) hcl i _ hoL hedge
   have hlist:∀j p,l[j]? = some p->listed.getD j false=true->∀q∈(aM ops.toList []).getD j [],listed.getD q false=true:=fun j p hj hjl=>by
    have hjo:j<ops.toList.length:=by rw[<-hlen];exact(List.getElem?_eq_some_iff.1 hj).1
    exact bP hlt (S:=fun j=>listed.getD j false=true) hcl j _ (Py hjo) (hcl j _ (Py hjo) hjl)
   have hsame:∀t∈l[i].looks++l[i].dst.toList,∀j (hj:j<l.length),j≠i->l[j].dst=some t->(listed.getD j false=decide (j<i)):=by
    intro t ht j hj hne hd;rcases hcmp i l[i] (Py hi2) t ht j l[j] (Py hj) hd hne with⟨g1,g2⟩|⟨g1,g2⟩
    .rw[hbef j g2];simp[g1]
    .have:¬listed.getD j false=true:=fun hjl=>by
      have:=hlist j l[j] (Py hj) hjl i g2;rw[hunf]at this;cases this
     have e:listed.getD j false=false:=by simpa using this
     rw[e];simp;omega
   obtain⟨ρi,hL,hρi⟩:=hloc i hi2 (by omega)
   have hgetL:∀t∈l[i].looks,get ρi t=get (aD (aA l xs 0 fun i=>listed.getD i false) ρ) t:=by
    intro t ht;rw[hρi t];refine bG _ _ ρ t (by rw[hsteps,hsteps]) (fun j g1 g2=>?_);rw[hsteps]at g1;rw[hsg _ j (by rw[hsteps];exact g1) g1,hsg _ j (by rw[hsteps];exact g1) g1];refine⟨rfl,rfl,fun hd=>?_⟩;simp only[PZ];by_cases e:j=i
    .subst e;rw[hunf];simp
    .exact(hsame t (by simp[ht]) j g1 e hd).symm
   have hL2:=hL.congr hgetL
   have hnext:∀t,get (aD (aA l xs 0 fun j=>(listed.setIfInBounds i true).getD j false) ρ) t=get (putd (aD (aA l xs 0 fun j=>listed.getD j false) ρ) l[i].dst (xs[i]'(by omega))) t:=by
    intro t
    have hset:∀j,(listed.setIfInBounds i true).getD j false=if j=i then true else listed.getD j false:=fun j=>by
     rw[Pa,Pa];split
     .rename_i e;subst e;rw[Pd (by omega)];rfl
     .rename_i e;rw[Pf (P5 e)]
    rw[bZ];split
    .rename_i e
     have:=eU (aA l xs 0 fun j=>(listed.setIfInBounds i true).getD j false) ρ i (by rw[hsteps];exact hi2) t (by rw[hsg _ i _ hi2];exact e) (by rw[hsg _ i _ hi2,hset];simp) (fun j hj hij hd=>by
      rw[hsteps]at hj;rw[hsg _ j _ hj]at hd ⊢;simp only at hd ⊢;rw[hset,if_neg (by omega),hsame t (by simp[e]) j hj (by omega) hd];simp;omega)
     rw[this,hsg _ i _ hi2]
    .rename_i e;refine bG _ _ ρ t (by rw[hsteps,hsteps]) (fun j g1 g2=>?_);rw[hsteps]at g1;rw[hsg _ j (by rw[hsteps];exact g1) g1,hsg _ j (by rw[hsteps];exact g1) g1];refine⟨rfl,rfl,fun hd=>?_⟩;simp only at hd ⊢;rw[hset,if_neg (fun ee=>by subst ee;exact e hd)]
   have hnextcl:∀(q:Nat) (o:Oper),ops.toList[q]? = some o->(listed.setIfInBounds i true).getD q false=true->∀j∈aB o,(listed.setIfInBounds i true).getD j false=true:=by
    have hset:∀j,(listed.setIfInBounds i true).getD j false=if j=i then true else listed.getD j false:=fun j=>by
     rw[Pa,Pa];split
     .rename_i e;subst e;rw[Pd (by omega)];rfl
     .rename_i e;rw[Pf (P5 e)]
    intro q o hqo hql j hj;rw[hset]at hql ⊢;split
    .rfl
    .split at hql
     .rename_i e;subst e;rw[hoL]at hqo;cases hqo;exact hedge j hj
     .exact hcl q o hqo hql j hj
   have hnextc:((listed.setIfInBounds i true).toList.filter (! ·)).length=fuel:=by
    have:=iF listed.toList i (by rw[Pe];exact hun');rw[Pj];omega
   have hoo:=hget i l[i] ops[i] (Py hi2) hoL
   have hdst:l[i].dst=ops[i].dst:=by
    unfold okO at hoo;simp only[Pk,beq_iff_eq]at hoo;exact hoo.1.1.2
   have hdn:∀d,ops[i].dst=some d->d<n:=by
    unfold okO at hoo;simp only[Pk]at hoo;intro d hd;have:=hoo.1.2;rw[hd]at this;simpa using this
   have hgd:=hoo;unfold okO at hgd;simp only[Pk]at hgd;replace hgd:=hgd.2
   have exec:aN C l[i].op (aD (aA l xs 0 fun i=>listed.getD i false) ρ) σ (fun v=>v=xs[i]'(by omega))->(ops[i]).wp C.P a w (wpAny C.P .any ops (aY M0 bm0 pr w0 n Q) fuel (listed.setIfInBounds i true)) (aY M0 bm0 pr w0 n Q):=fun hc=>by
    refine Oper.wp_mono2 (fun a' w' hL=>?_) (fun e a' w' hL=>?_) (bO (hG.mono hl) h hoo (jK hc))
    .obtain⟨M',bm',tk',ρ',σ',⟨rfl,rfl⟩,k2,k3⟩:=hL
     have hbm:bm'=bm:=by
      obtain⟨t,rfl⟩:=k3.pre;have e1:=k2.inv.len;have e2:=h.inv.len;have:t=[]:=PH (by simp at e1;omega);simp[this]
     subst hbm;exact ih _ M' tk' a' w' (hl.trans k3 (fun _ h=>h)) (k2.congr hnext) (by simp[hsz]) hnextcl hnextc
    .obtain⟨_,_,_,_,_,_,hf,_⟩:=hL;exact hf.elim
   unfold wpOp;rw[ho];simp only;unfold Loc at hL2;split at hL2
   .rename_i hg;rw[hg]at hgd;split at hgd
    .rename_i hg2;rw[if_pos (by simp[Region.wanted,hg2])];exact .inl (exec hL2)
    .rename_i e _;cases e
    .cases hgd
   .rename_i t want hg;rw[hg]at hgd;split at hgd
    .rename_i e _;cases e
    .rename_i t' b' j b'' e hg2;cases e;simp only[Pk,beq_iff_eq]at hgd;obtain⟨rfl,hj⟩:=hgd;split at hL2
     .rename_i b hb;have hy:=eY h hb hj;by_cases hbw:b=want
      .rw[if_pos (by simp[Region.wanted,hg2,hy,hbw])];exact .inl (exec (hL2.1 hbw))
      .rw[if_neg (by simp[Region.wanted,hg2,hy,hbw])];have hx:=hL2.2 hbw;refine ih _ M tk _ w hl ((h.putd hdn gj (by simp)).congr fun t=>?_) (by simp[hsz]) hnextcl hnextc;rw[hnext t,hx,hdst]
     .rename_i hb;have hy:=ip h hb hj;rw[if_neg (by simp[Region.wanted,hg2,hy])];refine ih _ M tk _ w hl ((h.putd hdn gj (by simp)).congr fun t=>?_) (by simp[hsz]) hnextcl hnextc;rw[hnext t,hL2,hdst]
     .exact hL2.elim
    .cases hgd
end
end Go.Proofs.YtnhphlmblenapaaGreatDoor
namespace Go.Proofs.YtnhphlmblenapaaGreatDoor
open Go.RowKit
section
variable {C : Cx} {pr : Prot} {n : Nat} {Q : AEx -> ac -> LLV -> Prop}
theorem uS{M0:ao}{bm0:List Nat}{w0:World}{id:Nat}{ops:Array Oper}{M:ao}{bm:List Nat}{tk:be}{a:Act}{w:World}(St:(Nat->Bool)->ac)(Sg:(Nat->Bool)->LLV)(ρf:ac)(σf:LLV)
 (hlt:∀(i:Nat) (o:Oper),ops.toList[i]? = some o->∀j∈aB o,j<i)
 (hext:∀S S',(∀j,j<ops.size->S j=S' j)->(∀t,get (St S) t=get (St S') t)/\Sg S=Sg S')
 (hl:Later M0 bm0 pr w0 M bm w)(h:SRel M bm tk pr (St fun _=>false) (Sg fun _=>false) n a w)
 (hf:(∀t,get ρf t=get (St fun _=>true) t)/\σf=Sg fun _=>true)(hq:Q .normal ρf σf)
 (step:∀(S:Nat->Bool) (i:Nat) (o:Oper),ops.toList[i]? = some o->S i=false->(∀(j:Nat) (p:Oper),ops.toList[j]? = some p->S j=true->∀e∈aB p,S e=true)->(∀e∈aB o,S e=true)->
   ∀(M:ao) (bm:List Nat) (tk:be) (a:Act) (w:World),Later M0 bm0 pr w0 M bm w->SRel M bm tk pr (St S) (Sg S) n a w->
    if Region.wanted o (yielded ops a.tmps)then o.wp C.P a w (g8 M bm pr w n fun ρ' σ'=>(∀t,get ρ' t=get (St fun j=>j==i||S j) t)/\σ'=Sg fun j=>j==i||S j) (aY M bm pr w n fun _ _ _=>False)
    else SRel M bm tk pr (St fun j=>j==i||S j) (Sg fun j=>j==i||S j) n (a.put o.dst undef) w):
 (Code.region id ops true).wp C.P (aY M0 bm0 pr w0 n Q) a w:=by
 refine wp_region_any C.mixed ?_
 suffices H:∀(fuel:Nat) (listed:Array Bool) (M:ao) (bm:List Nat) (tk:be) (a:Act) (w:World),Later M0 bm0 pr w0 M bm w->SRel M bm tk pr (St fun i=>listed.getD i false) (Sg fun i=>listed.getD i false) n a w->listed.size=ops.size->
  (∀(i:Nat) (o:Oper),ops.toList[i]? = some o->listed.getD i false=true->∀j∈aB o,listed.getD j false=true)->(listed.toList.filter (! ·)).length=fuel->wpAny C.P .any ops (aY M0 bm0 pr w0 n Q) fuel listed a w by
  obtain⟨h1,h2⟩:=h.ext (cO.drew w)
  have hrep:∀j,(Pg ops.size false).getD j false=false:=fun j=>by
   simp only[Pa,Pi];split<;>rfl
  obtain⟨e1,e2⟩:=hext (fun i=>(Pg ops.size false).getD i false) (fun _=>false) (fun j _=>hrep j);refine H ops.size (Pg ops.size false) M bm tk a w.drew (hl.trans h2 (fun _ h=>h)) ?_ (by simp) (fun i o ho hi=>?_) (by simp)
  .rw[e2];exact h1.congr e1
  .rw[hrep]at hi;cases hi
 intro fuel
 induction fuel with
 | zero=>
  intro listed M bm tk a w hl h hsz hcl hcnt
  have hall:∀i,i<ops.size->listed.getD i false=true:=fun i hi=>by
   have hb:listed[i]? = some (listed[i]'(by omega)):=Pb _;rw[Pa,hb,P6];have hne:listed.toList.filter (! ·)=[]:=PH hcnt;have:=List.filter_eq_nil_iff.1 hne (listed[i]'(by omega)) (by simp);simpa using this
  obtain⟨e1,e2⟩:=hext (fun i=>listed.getD i false) (fun _=>true) hall;refine⟨?_,M,bm,tk,ρf,σf,.normal,hq,.normal,?_,hl⟩
  .unfold Region.ready;rw[PE];intro i hi;have hi':i<ops.size:=by simpa using hi
   have h9:=hall i hi'
   have:listed.getD i true=true:=by
    have hb:listed[i]? = some (listed[i]'(by omega)):=Pb _;rw[Pa,hb,P6]at h9 ⊢;exact h9
   simp[this]
  .rw[hf.2,<-e2];exact h.congr fun t=>(hf.1 t).trans (e1 t).symm
 | succ fuel ih=>
  intro listed M bm tk a w hl h hsz hcl hcnt;refine⟨fun hnil=>?_,fun i hi=>?_⟩
  .exfalso
   have hex:∃i,i<ops.size/\listed.getD i false=false:=by
    apply Px;intro hno
    have hne:listed.toList.filter (! ·)=[]:=by
     rw[PE];intro b hb;obtain⟨i,hi,rfl⟩:=PA hb;have hi':i<listed.size:=by simpa using hi
     have h9:¬listed.getD i false=false:=fun e=>hno ⟨i,by omega,e⟩;have hb:listed[i]? = some listed[i]:=Pb hi';rw[Pa,hb,P6]at h9;simpa using h9
    rw[hne]at hcnt;simp at hcnt
   have hmin:∃i,i<ops.size/\listed.getD i false=false/\∀j,j<i->listed.getD j false=true:=by
    obtain⟨i,h1,h2⟩:=hex
    induction i using P1 with
    | _ i ihm=>
    by_cases hj:∃j,j<i/\listed.getD j false=false
    .obtain⟨j,g1,g2⟩:=hj;exact ihm j g1 (by omega) g2
    .exact⟨i,h1,h2,fun j hji=>by
      cases hb:listed.getD j false with
      | true=>rfl
      | false=>exact absurd ⟨j,hji,hb⟩ hj⟩
   obtain⟨i,h1,h2,h3⟩:=hmin;have hio:i<ops.toList.length:=by simpa using h1
   have:i∈Region.ready .any ops listed:=by
    unfold Region.ready;rw[PD];refine⟨by simp;omega,?_⟩
    have ht:listed.getD i true=false:=by
     have hb:listed[i]? = some (listed[i]'(by omega)):=Pb _;rw[Pa,hb,P6]at h2 ⊢;exact h2
    have ho:ops[i]? = some (ops[i]'(by omega)):=Pb _;rw[ht,ho];simp only[Pp,Pq,P8,P6];rw[<-Ph,Pz];intro e he;cases hb:Region.binds .any e with
    | false=>rfl
    | true=>
     have:e.on∈aB (ops[i]'(by omega)):=by
      unfold aB;exact List.mem_map.2 ⟨e,List.mem_filter.2 ⟨he,hb⟩,rfl⟩
     simp[h3 e.on (hlt i _ (by rw[Py hio];simp) e.on this)]
   rw[hnil]at this;cases this
  .unfold Region.ready at hi;rw[PD]at hi;obtain⟨hir,hic⟩:=hi;have hi1:i<ops.size:=by simpa using hir
   have ho:ops[i]? = some ops[i]:=Pb hi1;have hoL:ops.toList[i]? = some ops[i]:=by rw[Pe];exact ho
   rw[ho]at hic;simp only[P8,P6,Pk,Pn]at hic;obtain⟨hun,hed⟩:=hic
   have hun':listed[i]? = some false:=by
    have hb:listed[i]? = some (listed[i]'(by omega)):=Pb _;rw[Pa,hb,P6]at hun;rw[hb,hun]
   have hunf:listed.getD i false=false:=by rw[Pa,hun'];rfl
   have hedge:∀j∈aB ops[i],listed.getD j false=true:=by
    intro j hj;unfold aB at hj;obtain⟨e,he,rfl⟩:=List.mem_map.1 hj;rw[PD]at he;rw[<-Ph,Pz]at hed;have:=hed e he.1;simpa[he.2]using this
   have hset:∀j,(listed.setIfInBounds i true).getD j false=(j==i||listed.getD j false):=fun j=>by
    rw[Pa,Pa];by_cases e:j=i
    .subst e;rw[Pd (by omega)];simp
    .rw[Pf (P5 e)];simp[e]
   have hnextcl:∀(q:Nat) (o:Oper),ops.toList[q]? = some o->(listed.setIfInBounds i true).getD q false=true->∀j∈aB o,(listed.setIfInBounds i true).getD j false=true:=by
    intro q o hqo hql j hj;rw[hset]at hql ⊢;simp only[Pm,beq_iff_eq]at hql ⊢;rcases hql with rfl|hql
    .rw[hoL]at hqo;cases hqo;exact .inr (hedge j hj)
    .exact .inr (hcl q o hqo hql j hj)
   have hnextc:((listed.setIfInBounds i true).toList.filter (! ·)).length=fuel:=by
    have:=iF listed.toList i (by rw[Pe];exact hun');rw[Pj];omega
   obtain⟨e1,e2⟩:=hext (fun j=>(listed.setIfInBounds i true).getD j false) (fun j=>j==i||listed.getD j false) (fun j _=>hset j);have hst:=step (fun j=>listed.getD j false) i ops[i] hoL hunf hcl hedge M bm tk a w hl h;unfold wpOp;rw[ho];simp only;split at hst
   .rename_i hw;rw[if_pos hw];refine .inl (Oper.wp_mono2 (fun a' w' hL=>?_) (fun e a' w' hL=>?_) hst)
    .obtain⟨M',bm',tk',ρ',σ',⟨k0,rfl⟩,k2,k3⟩:=hL;refine ih _ M' bm' tk' a' w' (hl.trans k3 (fun _ h=>h)) ?_ (by simp[hsz]) hnextcl hnextc;rw[e2];exact k2.congr fun t=>(e1 t).trans (k0 t).symm
    .obtain⟨_,_,_,_,_,_,hf,_⟩:=hL;exact hf.elim
   .rename_i hw;rw[if_neg hw];refine ih _ M bm tk _ w hl ?_ (by simp[hsz]) hnextcl hnextc;rw[e2];exact hst.congr e1
end
end Go.Proofs.YtnhphlmblenapaaGreatDoor
namespace Go.Proofs.YtnhphlmblenapaaGreatDoor
open Go.RowKit
def OP.slotsA:OP->List Nat
 | .ldo x=>x.slots
 | .app _ _ _ t y=>t::y.slots
 | .stoo x t=>x.slots++[t]
 | op=>op.slots
def OP.special:OP->Bool
 | .ldo _=>true
 | .app _ _ _ _ _=>true
 | .stoo _ _=>true
 | _=>false
def O.looksA(o:O):List Nat:=o.op.slotsA++(match o.g with|some (t,_)=>[t]|none=>[])
def ny(L:O->ac->V->Prop):List O->ac->(ac->Prop)->Prop
 | [],ρ,K=>K ρ
 | o::r,ρ,K=>∃x ρ2,(∀t,get ρ2 t=get ρ t)/\L o ρ x/\ny L r (putd ρ2 o.dst x) K
theorem pY{L:O->ac->V->Prop}:∀{l:List O} {ρ:ac} {k:Nat} {K:ac->Prop},ny L l ρ K->
 ∃xs:List V,xs.length=l.length/\(∃ρ',K ρ'/\∀t,get ρ' t=get (aD (aA l xs k fun _=>true) ρ) t)/\
  ∀i (h:i<l.length) (h':i<xs.length),∃ρi,L l[i] ρi xs[i]/\∀t,get ρi t=get (aD (aA l xs k fun j=>decide (j<k+i)) ρ) t
 | [],ρ,k,K,h=>⟨[],rfl,⟨ρ,h,fun _=>rfl⟩,fun i h=>by simp at h⟩
 | o::r,ρ,k,K,h=>by
  obtain⟨x,ρ2,h2e,hx,hr⟩:=h;obtain⟨xs,h1,⟨ρ',h2,h3⟩,h4⟩:=pY (k:=k+1) hr;have hput:∀t,get (putd ρ2 o.dst x) t=get (putd ρ o.dst x) t:=fun t=>by rw[bZ,bZ,h2e]
  refine⟨x::xs,by simp[h1],⟨ρ',h2,fun t=>?_⟩,fun i hi hi'=>?_⟩
  .simp only[aA,aD,if_true];rw[h3 t];exact gB _ _ _ _ (hput t)
  .cases i with
   | zero=>
    refine⟨ρ,hx,fun t=>?_⟩;rw[dJ];intro p hp _;obtain⟨j,hj,rfl⟩:=PA hp;have hl:=du (o::r) (x::xs) k (fun j=>decide (j<k+0)) (by simp[h1]);rw[hl]at hj;rw[dt _ _ _ _ _ (by rw[hl];exact hj) hj (by simp[h1];simpa using hj)];simp
   | succ i=>
    obtain⟨ρi,g1,g2⟩:=h4 i (by simpa using hi) (by simpa using hi');refine⟨ρi,g1,fun t=>?_⟩;simp only[aA,aD];rw[if_pos (by simp),g2 t,show k+1+i=k+(i+1)by omega];exact gB _ _ _ _ (hput t)
structure Cell where
 i:Nat
 off:Nat
 T:TypeId
 k:Nat
 rows:LLD
section
variable {C : Cx} {pr : Prot} {ρ : ac} {n : Nat} {Q : AEx -> ac -> LLV -> Prop}
def mL(C:Cx)(c:Cell)(rows2:LLD)(σ σ2:LLV)(o:O)(ρ:ac)(x:V):Prop:=
 match o.op with
 | .ldo y=>o.g=none/\ev C ρ y=.ptr c.i c.off/\x=.d (.sl c.rows)
 | .app T' k' bytes _ y=>o.g=none/\eC (ev C ρ y)=some rows2/\(c.T=T'/\c.k=k'/\rows2.all (fun r=>r.length==k')=true/\(c.rows.length+rows2.length)*bytes≤140737488355328)/\x=.d (.sl (c.rows++rows2))
 | .stoo y _=>o.g=none/\ev C ρ y=.ptr c.i c.off
 | _=>Loc C o ρ σ x/\Loc C o ρ σ2 x
def cz(C:Cx)(op:OP)(ρ:ac)(σ σ2:LLV)(k:V->Prop):Prop:=aN C op ρ σ fun v=>aN C op ρ σ2 (fun u=>u=v)/\k v
def cM(C:Cx)(c:Cell)(σ σ2:LLV):List O->ac->Option LLD->(ac->LLD->Prop)->Prop
 | [],ρ,acc,K=>match acc with|some rows2=>K ρ rows2|none=>False
 | o::r,ρ,acc,K=>match o.op with
  | .ldo y=>o.g=none/\ev C ρ y=.ptr c.i c.off/\cM C c σ σ2 r (putd ρ o.dst (.d (.sl c.rows))) acc K
  | .app T' k' bytes _ y=>o.g=none/\match acc,eC (ev C ρ y)with
   | none,some rows2=>(c.T=T'/\c.k=k'/\rows2.all (fun r=>r.length==k')=true/\(c.rows.length+rows2.length)*bytes≤140737488355328)/\cM C c σ σ2 r (putd ρ o.dst (.d (.sl (c.rows++rows2)))) (some rows2) K
   | _,_=>False
  | .stoo y _=>o.g=none/\o.dst=none/\ev C ρ y=.ptr c.i c.off/\cM C c σ σ2 r ρ acc K
  | op=>match o.g with
   | none=>cz C op ρ σ σ2 fun v=>cM C c σ σ2 r (putd ρ o.dst v) acc K
   | some (t,want)=>match get ρ t with
    | .d (.lit (.bool b))=>(b=want->cz C op (put ρ t (.d (.lit (.bool want)))) σ σ2 fun v=>cM C c σ σ2 r (putd (put ρ t (.d (.lit (.bool want)))) o.dst v) acc K)/\(b≠want->cM C c σ σ2 r (putd (put ρ t (.d (.lit (.bool (!want))))) o.dst (.tup [])) acc K)
    | .tup []=>cM C c σ σ2 r (putd ρ o.dst (.tup [])) acc K
    | _=>False
theorem mz{op:OP}{ρ:ac}{σ σ2:LLV}{k:V->Prop}(h:cz C op ρ σ σ2 k):∃v,aN C op ρ σ (fun u=>u=v)/\aN C op ρ σ2 (fun u=>u=v)/\k v:=by
 obtain⟨v,h1,h2,h3⟩:=fg h;exact⟨v,h1,h2,h3⟩
theorem gS{c:Cell}{σ σ2:LLV}:∀{l:List O} {ρ:ac} {acc:Option LLD} {K:ac->LLD->Prop},cM C c σ σ2 l ρ acc K->
 ∃rows2,(∀r,acc=some r->r=rows2)/\ny (mL C c rows2 σ σ2) l ρ fun ρ'=>K ρ' rows2
 | [],ρ,acc,K,h=>by
  cases acc with
  | none=>exact h.elim
  | some r=>exact⟨r,fun r' e=>by cases e;rfl,h⟩
 | o::r,ρ,acc,K,h=>by
  have know:∀{t:Nat} {b c:Bool},get ρ t=.d (.lit (.bool b))->b=c->∀s,get (put ρ t (.d (.lit (.bool c)))) s=get ρ s:=fun hb hc s=>by
   rw[bg];split
   .rename_i e;subst e;subst hc;exact hb.symm
   .rfl
  have other:o.op.special=false->(match o.g with
   | none=>cz C o.op ρ σ σ2 fun v=>cM C c σ σ2 r (putd ρ o.dst v) acc K
   | some (t,want)=>match get ρ t with
    | .d (.lit (.bool b))=>(b=want->cz C o.op (put ρ t (.d (.lit (.bool want)))) σ σ2 fun v=>cM C c σ σ2 r (putd (put ρ t (.d (.lit (.bool want)))) o.dst v) acc K)/\(b≠want->cM C c σ σ2 r (putd (put ρ t (.d (.lit (.bool (!want))))) o.dst (.tup [])) acc K)
    | .tup []=>cM C c σ σ2 r (putd ρ o.dst (.tup [])) acc K
    | _=>False)->∃rows2,(∀r,acc=some r->r=rows2)/\ny (mL C c rows2 σ σ2) (o::r) ρ fun ρ'=>K ρ' rows2:=by
   intro hs h
   have fin:∀x ρ2,(∀t,get ρ2 t=get ρ t)->Loc C o ρ σ x->Loc C o ρ σ2 x->cM C c σ σ2 r (putd ρ2 o.dst x) acc K->∃rows2,(∀r,acc=some r->r=rows2)/\ny (mL C c rows2 σ σ2) (o::r) ρ fun ρ'=>K ρ' rows2:=by
    intro x ρ2 h1 h2 h3 h4;obtain⟨rows2,h5,h6⟩:=gS h4;refine⟨rows2,h5,x,ρ2,h1,?_,h6⟩;unfold mL;split<;>first|exact⟨h2,h3⟩|(rename_i e;rw[e]at hs;cases hs)
   split at h
   .rename_i hg;obtain⟨v,h1,h2,h3⟩:=mz h;exact fin v ρ (fun _=>rfl) (by unfold Loc;rw[hg];exact h1) (by unfold Loc;rw[hg];exact h2) h3
   .rename_i t want hg;split at h
    .rename_i b hb;by_cases e:b=want
     .obtain⟨v,h1,h2,h3⟩:=mz (h.1 e)
      exact fin v _ (know hb e) (by unfold Loc;rw[hg];simp only;rw[hb];exact⟨fun _=>e6 (fun s _=>know hb e s) h1,fun ne=>absurd e ne⟩)
       (by unfold Loc;rw[hg];simp only;rw[hb];exact⟨fun _=>e6 (fun s _=>know hb e s) h2,fun ne=>absurd e ne⟩) h3
     .exact fin (.tup []) _ (know hb (c:=!want) (by cases b<;>cases want<;>simp_all)) (by unfold Loc;rw[hg];simp only;rw[hb];exact⟨(fun ee=>absurd ee e),(fun _=>by trivial)⟩)
       (by unfold Loc;rw[hg];simp only;rw[hb];exact⟨(fun ee=>absurd ee e),(fun _=>by trivial)⟩) (h.2 e)
    .rename_i hb;exact fin (.tup []) ρ (fun _=>rfl) (by unfold Loc;rw[hg];simp only;rw[hb];trivial) (by unfold Loc;rw[hg];simp only;rw[hb];trivial) h
    .exact h.elim
  unfold cM at h;split at h
  .rename_i y ho;obtain⟨h1,h2,h3⟩:=h;obtain⟨rows2,h5,h6⟩:=gS h3;exact⟨rows2,h5,_,ρ,fun _=>rfl,by unfold mL;rw[ho];exact⟨h1,h2,rfl⟩,h6⟩
  .rename_i T' k' bytes t y ho;obtain⟨h1,h2⟩:=h;split at h2
   .rename_i rows2 he;obtain⟨h3,h4⟩:=h2;obtain⟨rows3,h5,h6⟩:=gS h4;have:=h5 _ rfl;subst this;exact⟨rows2,(fun r e=>by cases e),_,ρ,fun _=>rfl,by unfold mL;rw[ho];exact⟨h1,he,h3,rfl⟩,h6⟩
   .exact h2.elim
  .rename_i y t ho;obtain⟨h1,h2,h3,h4⟩:=h;obtain⟨rows2,h5,h6⟩:=gS h4;exact⟨rows2,h5,.junk,ρ,fun _=>rfl,by unfold mL;rw[ho];exact⟨h1,h3⟩,by rw[h2];exact h6⟩
  .rename_i n1 n2 n3;refine other ?_ h;cases ho:o.op<;>first|rfl|exact absurd ho (n1 _)|exact absurd ho (n2 _ _ _ _ _)|exact absurd ho (n3 _ _)
structure Pos where
 iL:Nat
 iA:Nat
 iS:Nat
 tL:Nat
 tA:Nat
def tU(p:OP->Bool):List O->Nat->Option Nat
 | [],_=>none
 | o::r,i=>if p o.op then some i else tU p r (i+1)
def Lu(l:List O):Option Pos:=
 match tU (fun op=>match op with | .ldo _=>true|_=>false) l 0,tU (fun op=>match op with | .app _ _ _ _ _=>true|_=>false) l 0,tU (fun op=>match op with | .stoo _ _=>true|_=>false) l 0 with
 | some a,some b,some c=>match (l[a]?).bind O.dst,(l[b]?).bind O.dst with
  | some t,some u=>some ⟨a,b,c,t,u⟩
  | _,_=>none
 | _,_,_=>none
def isL(p:Pos):O->Bool
 | ⟨some t,.ldo _,none⟩=>t==p.tL
 | _=>false
def isA(p:Pos):O->Bool
 | ⟨some t,.app _ _ _ s y,none⟩=>t==p.tA&&(s==p.tL && !y.slots.contains p.tL)
 | _=>false
def isS(p:Pos):O->Bool
 | ⟨none,.stoo y s,none⟩=>s==p.tA && !y.slots.contains p.tA
 | _=>false
def vg(p:Pos)(l:List O)(os:List Oper):Bool:=
 let bf:=aM os []
 ((PB os.length).all fun i=>match os[i]? with|some o=>(aB o).all fun j=>decide (j<i)|none=>true) &&
 (((PB l.length).all fun i=>match l[i]? with
   | some o=>((o.looksA++o.dst.toList).all fun t=>(PB l.length).all fun j=>j==i||(match l[j]? with
    | some q=>q.dst != some t||(if j<i then(bf.getD i []).contains j else(bf.getD j []).contains i)
    | none=>true)) &&
    ((o.op.special==(i==p.iL||i==p.iA||i==p.iS))&&((i==p.iA || !o.looksA.contains p.tL)&&((i==p.iL||o.dst != some p.tL)&&((i==p.iS || !o.looksA.contains p.tA)&&((i==p.iA||o.dst != some p.tA)&&(i==p.iS||(bf.getD p.iS []).contains i))))))
   | none=>true) &&
 (((l[p.iL]?).any (isL p)&&((l[p.iA]?).any (isA p)&&(l[p.iS]?).any (isS p)))&&((bf.getD p.iA []).contains p.iL&&p.tL != p.tA)))
def oq(l:List O)(os:List Oper):Bool:=match Lu l with
 | some p=>vg p l os
 | none=>false
structure OKA(p:Pos)(l:List O)(os:List Oper):Prop where
 lt:∀(i:Nat) (o:Oper),os[i]? = some o->∀j∈aB o,j<i
 cmp:∀(i:Nat) (o:O),l[i]? = some o->∀t∈o.looksA++o.dst.toList,∀(j:Nat) (q:O),l[j]? = some q->q.dst=some t->j≠i->(j<i/\j∈(aM os []).getD i [])\/(i<j/\i∈(aM os []).getD j [])
 spec:∀(i:Nat) (o:O),l[i]? = some o->(o.op.special=true↔i=p.iL\/i=p.iA\/i=p.iS)
 lookL:∀(i:Nat) (o:O),l[i]? = some o->i≠p.iA->p.tL∉o.looksA
 dstL:∀(i:Nat) (o:O),l[i]? = some o->i≠p.iL->o.dst≠some p.tL
 lookA:∀(i:Nat) (o:O),l[i]? = some o->i≠p.iS->p.tA∉o.looksA
 dstA:∀(i:Nat) (o:O),l[i]? = some o->i≠p.iA->o.dst≠some p.tA
 last:∀(i:Nat) (o:O),l[i]? = some o->i≠p.iS->i∈(aM os []).getD p.iS []
 opL:∃y,l[p.iL]? = some ⟨some p.tL,.ldo y,none⟩
 opA:∃T k b y,l[p.iA]? = some ⟨some p.tA,.app T k b p.tL y,none⟩/\p.tL∉y.slots
 opS:∃y,l[p.iS]? = some ⟨none,.stoo y p.tA,none⟩/\p.tA∉y.slots
 ab:p.iL∈(aM os []).getD p.iA []
 ne:p.tL≠p.tA
theorem AF{p:Pos}{l:List O}{os:List Oper}(hl:l.length=os.length)(h:vg p l os=true):OKA p l os:=by
 unfold vg at h;simp only[Pk]at h;obtain⟨h1,h2,⟨h3,h4,h5⟩,h6,h7⟩:=h;simp only[Pz,PC]at h1 h2
 have one:∀(i:Nat) (o:O),l[i]? = some o->_:=fun i o ho=>by
  have:=h2 i (List.getElem?_eq_some_iff.1 ho).1;rw[ho]at this;simp only[Pk]at this;exact this
 refine⟨fun i o ho j hj=>?_,fun i o ho t ht j q hp hd hne=>?_,fun i o ho=>?_,fun i o ho hne=>?_,fun i o ho hne=>?_,fun i o ho hne=>?_,fun i o ho hne=>?_,fun i o ho hne=>?_,?_,?_,?_,by simpa using h6,by simpa using h7⟩
 .have:=h1 i (List.getElem?_eq_some_iff.1 ho).1;rw[ho]at this;simpa using List.all_eq_true.1 this j hj
 .have h1:=(one i o ho).1;simp only[Pz,PC]at h1;have h2:=h1 t ht j (List.getElem?_eq_some_iff.1 hp).1;rw[hp]at h2;simp only[hd,Pm,beq_iff_eq,bne_self_eq_false,Pl,false_or]at h2;rcases h2 with h2|h2
  .exact absurd h2 hne
  .split at h2
   .exact .inl ⟨by assumption,by simpa using h2⟩
   .exact .inr ⟨by omega,by simpa using h2⟩
 .have:=(one i o ho).2.1;rw[beq_iff_eq]at this;rw[this];simp[or_assoc]
 .have:=(one i o ho).2.2.1;simpa[hne]using this
 .have:=(one i o ho).2.2.2.1;simpa[hne]using this
 .have:=(one i o ho).2.2.2.2.1;simpa[hne]using this
 .have:=(one i o ho).2.2.2.2.2.1;simpa[hne]using this
 .have:=(one i o ho).2.2.2.2.2.2;simpa[hne]using this
 .cases ho:l[p.iL]? with
  | none=>rw[ho]at h3;cases h3
  | some o=>
  rw[ho]at h3;have hp:isL p o=true:=h3;clear h3;unfold isL at hp;split at hp
  .rw[beq_iff_eq]at hp;subst hp;exact⟨_,rfl⟩
  .cases hp
 .cases ho:l[p.iA]? with
  | none=>rw[ho]at h4;cases h4
  | some o=>
  rw[ho]at h4;have hp:isA p o=true:=h4;clear h4;unfold isA at hp;split at hp
  .simp only[Pk,beq_iff_eq,Pn]at hp;obtain⟨rfl,rfl,hp⟩:=hp;exact⟨_,_,_,_,rfl,by simpa using hp⟩
  .cases hp
 .cases ho:l[p.iS]? with
  | none=>rw[ho]at h5;cases h5
  | some o=>
  rw[ho]at h5;have hp:isS p o=true:=h5;clear h5;unfold isS at hp;split at hp
  .simp only[Pk,beq_iff_eq,Pn]at hp;obtain⟨rfl,hp⟩:=hp;exact⟨_,rfl,by simpa using hp⟩
  .cases hp
def ch(p:Pos)(c:Cell)(rows2:LLD)(S:Nat->Bool)(ρ:ac):ac:=
 if S p.iS then ρ else if S p.iA then put ρ p.tA (.own c.T c.k (c.rows++rows2))else if S p.iL then put ρ p.tL (.own c.T c.k c.rows)else ρ
theorem uD{M0:ao}{bm0:List Nat}{w0:World}(hG:C.glob M0 pr w0){id:Nat}{ops:Array Oper}{l:List O}{M:ao}{bm:List Nat}{tk:be}{σ:LLV}{a:Act}{w:World}(hok:eX C.tab n ops l ops.toList=true)(hdr:oq l ops.toList=true)
 (hl:Later M0 bm0 pr w0 M bm w)(h:SRel M bm tk pr ρ σ n a w){c:Cell}{cs:List V}(hcs:σ[c.i]? = some cs)(hcell:cs[c.off]? = some (.own c.T c.k c.rows))
 (hq:cM C c σ (σ.set c.i (cs.set c.off (.d (.sl c.rows)))) l ρ none fun ρ' rows2=>Q .normal ρ' ((σ.set c.i (cs.set c.off (.d (.sl c.rows)))).set c.i (over (cs.set c.off (.d (.sl c.rows))) c.off [.own c.T c.k (c.rows++rows2)]))):
 (Code.region id ops true).wp C.P (aY M0 bm0 pr w0 n Q) a w:=by
 obtain⟨hlen,hget⟩:=fr hok;unfold oq at hdr;split at hdr;case h_2=>cases hdr
 rename_i p _;have D:=AF hlen hdr;obtain⟨rows2,-,hch⟩:=gS hq;obtain⟨xs,hxl,⟨ρf,hρf,hρe⟩,hloc⟩:=pY (k:=0) hch;generalize hσ2:σ.set c.i (cs.set c.off (.d (.sl c.rows)))=σ2 at *;generalize hσf:σ2.set c.i (over (cs.set c.off (.d (.sl c.rows))) c.off [.own c.T c.k (c.rows++rows2)])=σf at *;have hnl:l.length=ops.size:=by rw[hlen];simp
 have hsteps:∀S:Nat->Bool,(aA l xs 0 S).length=l.length:=fun S=>du l xs 0 S hxl
 have hsg:∀(S:Nat->Bool) (i:Nat) (hi:i<(aA l xs 0 S).length) (h1:i<l.length),(aA l xs 0 S)[i]=(l[i].dst,xs[i]'(by omega),S i):=fun S i hi h1=>by
  have:=dt l xs 0 S i hi h1 (by omega);simpa using this
 obtain⟨yL,hoL⟩:=D.opL;obtain⟨T',k',bb,yA,hoA,hnA⟩:=D.opA;obtain⟨yS,hoS,hnS⟩:=D.opS;have iLl:p.iL<l.length:=(List.getElem?_eq_some_iff.1 hoL).1;have iAl:p.iA<l.length:=(List.getElem?_eq_some_iff.1 hoA).1;have iSl:p.iS<l.length:=(List.getElem?_eq_some_iff.1 hoS).1;have eL:l[p.iL]=⟨some p.tL,.ldo yL,none⟩:=(List.getElem?_eq_some_iff.1 hoL).2;have eA:l[p.iA]=⟨some p.tA,.app T' k' bb p.tL yA,none⟩:=(List.getElem?_eq_some_iff.1 hoA).2;have eS:l[p.iS]=⟨none,.stoo yS p.tA,none⟩:=(List.getElem?_eq_some_iff.1 hoS).2;obtain⟨ρL,hLL,hρL⟩:=hloc p.iL iLl (by omega);obtain⟨ρA,hLA,hρA⟩:=hloc p.iA iAl (by omega);obtain⟨ρS,hLS,hρS⟩:=hloc p.iS iSl (by omega)
 have xL:xs[p.iL]'(by omega)=.d (.sl c.rows):=by
  unfold mL at hLL;rw[eL]at hLL;exact hLL.2.2
 have xA:xs[p.iA]'(by omega)=.d (.sl (c.rows++rows2)):=by
  unfold mL at hLA;rw[eA]at hLA;exact hLA.2.2.2
 have base:∀S S',(∀j,j<l.length->S j=S' j)->∀t,get (aD (aA l xs 0 S) ρ) t=get (aD (aA l xs 0 S') ρ) t:=fun S S' hS t=>by
  refine bG _ _ ρ t (by rw[hsteps,hsteps]) (fun i g1 g2=>?_);rw[hsteps]at g1;rw[hsg _ i (by rw[hsteps];exact g1) g1,hsg _ i (by rw[hsteps];exact g1) g1];exact⟨rfl,rfl,fun _=>hS i g1⟩
 have baseL:∀S,S p.iL=true->get (aD (aA l xs 0 S) ρ) p.tL=.d (.sl c.rows):=fun S hS=>by
  have:=eU (aA l xs 0 S) ρ p.iL (by rw[hsteps];exact iLl) p.tL (by rw[hsg _ _ _ iLl,eL]) (by rw[hsg _ _ _ iLl];exact hS) (fun j hj hij hd=>by
   rw[hsteps]at hj;rw[hsg _ j _ hj]at hd;exact absurd hd (D.dstL j _ (Py hj) (by omega)))
  rw[this,hsg _ _ _ iLl];exact xL
 have baseA:∀S,S p.iA=true->get (aD (aA l xs 0 S) ρ) p.tA=.d (.sl (c.rows++rows2)):=fun S hS=>by
  have:=eU (aA l xs 0 S) ρ p.iA (by rw[hsteps];exact iAl) p.tA (by rw[hsg _ _ _ iAl,eA]) (by rw[hsg _ _ _ iAl];exact hS) (fun j hj hij hd=>by
   rw[hsteps]at hj;rw[hsg _ j _ hj]at hd;exact absurd hd (D.dstA j _ (Py hj) (by omega)))
  rw[this,hsg _ _ _ iAl];exact xA
 have over_get:∀S ρ' t,t≠p.tL->t≠p.tA->get (ch p c rows2 S ρ') t=get ρ' t:=fun S ρ' t h1 h2=>by
  unfold ch;split
  .rfl
  .split
   .rw[bg,if_neg h2]
   .split
    .rw[bg,if_neg h1]
    .rfl
 have over_congr:∀S ρ1 ρ2,(∀t,get ρ1 t=get ρ2 t)->∀t,get (ch p c rows2 S ρ1) t=get (ch p c rows2 S ρ2) t:=fun S ρ1 ρ2 hh t=>by
  unfold ch;split
  .exact hh t
  .split
   .rw[bg,bg,hh]
   .split
    .rw[bg,bg,hh]
    .exact hh t
 refine uS (M:=M) (bm:=bm) (tk:=tk) (fun S=>ch p c rows2 S (aD (aA l xs 0 S) ρ)) (fun S=>if S p.iS then σf else if S p.iL then σ2 else σ) ρf σf D.lt (fun S S' hS=>?_) hl ?_ ⟨fun t=>?_,?_⟩ hρf ?_
 .have e1:=hS p.iL (by omega);have e2:=hS p.iA (by omega);have e3:=hS p.iS (by omega);refine⟨fun t=>?_,by rw[e1,e3]⟩;rw[over_congr S _ _ (base S S' fun j hj=>hS j (by omega)) t];unfold ch;rw[e1,e2,e3]
 .have:∀t,get (ch p c rows2 (fun _=>false) (aD (aA l xs 0 fun _=>false) ρ)) t=get ρ t:=fun t=>by
   unfold ch;simp only[Pl,if_false];rw[dJ];intro q hq _;obtain⟨j,hj,rfl⟩:=PA hq;rw[hsteps]at hj;rw[hsg _ j (by rw[hsteps];exact hj) hj]
  simp only[Pl,if_false];exact h.congr this
 .rw[hρe t];unfold ch;simp only[if_true]
 .simp only[if_true]
 intro S i o' ho' hSi hclo hedge M bm tk a w hl h;have hi1:i<ops.toList.length:=(List.getElem?_eq_some_iff.1 ho').1;have hi2:i<l.length:=by omega
 have hlo:l[i]? = some l[i]:=Py hi2;have hbef:∀j∈(aM ops.toList []).getD i [],S j=true:=bP D.lt (S:=fun j=>S j=true) hclo i o' ho' hedge
 have hbefj:∀q,q<l.length->S q=true->∀j∈(aM ops.toList []).getD q [],S j=true:=fun q hq hSq=>by
  have hq2:ops.toList[q]? = some ops.toList[q]:=Py (by omega);exact bP D.lt (S:=fun j=>S j=true) hclo q _ hq2 (hclo q _ hq2 hSq)
 have hsame:∀t∈l[i].looksA++l[i].dst.toList,∀j (hj:j<l.length),j≠i->l[j].dst=some t->(S j=decide (j<i)):=by
  intro t ht j hj hne hd;rcases D.cmp i l[i] hlo t ht j l[j] (Py hj) hd hne with⟨g1,g2⟩|⟨g1,g2⟩
  .rw[hbef j g2];simp[g1]
  .have:¬S j=true:=fun hjl=>by
    have:=hbefj j hj hjl i g2;rw[hSi]at this;cases this
   have e:S j=false:=by simpa using this
   rw[e];simp;omega
 obtain⟨ρi,hL,hρi⟩:=hloc i hi2 (by omega)
 have hgetL:∀t∈l[i].looksA,get ρi t=get (aD (aA l xs 0 S) ρ) t:=by
  intro t ht;rw[hρi t];refine bG _ _ ρ t (by rw[hsteps,hsteps]) (fun j g1 g2=>?_);rw[hsteps]at g1;rw[hsg _ j (by rw[hsteps];exact g1) g1,hsg _ j (by rw[hsteps];exact g1) g1];refine⟨rfl,rfl,fun hd=>?_⟩;simp only[PZ];by_cases e:j=i
  .subst e;rw[hSi];simp
  .exact(hsame t (by simp[ht]) j g1 e hd).symm
 have hnext:∀t,get (aD (aA l xs 0 fun j=>j==i||S j) ρ) t=get (Go.Proofs.YtnhphlmblenapaaGreatDoor.putd (aD (aA l xs 0 S) ρ) l[i].dst (xs[i]'(by omega))) t:=by
  intro t;rw[bZ];split
  .rename_i e
   have:=eU (aA l xs 0 fun j=>j==i||S j) ρ i (by rw[hsteps];exact hi2) t (by rw[hsg _ i _ hi2];exact e) (by rw[hsg _ i _ hi2];simp) (fun j hj hij hd=>by
    rw[hsteps]at hj;rw[hsg _ j _ hj]at hd ⊢;simp only at hd ⊢;rw[hsame t (by simp[e]) j hj (by omega) hd];simp;omega)
   rw[this,hsg _ i _ hi2]
  .rename_i e;refine bG _ _ ρ t (by rw[hsteps,hsteps]) (fun j g1 g2=>?_);rw[hsteps]at g1;rw[hsg _ j (by rw[hsteps];exact g1) g1,hsg _ j (by rw[hsteps];exact g1) g1];refine⟨rfl,rfl,fun hd=>?_⟩;simp only at hd ⊢;have hne:j≠i:=fun ee=>by subst ee;exact e hd
   simp[hne]
 have hoo:=hget i l[i] o' hlo ho'
 have hdst:l[i].dst=o'.dst:=by
  have:=hoo;unfold okO at this;simp only[Pk,beq_iff_eq]at this;exact this.1.1.2
 have hdn:∀d,o'.dst=some d->d<n:=by
  have:=hoo;unfold okO at this;simp only[Pk]at this;intro d hd;have:=this.1.2;rw[hd]at this;simpa using this
 have hgd:=hoo;unfold okO at hgd;simp only[Pk]at hgd;replace hgd:=hgd.2
 have hwant:l[i].g=none->Region.wanted o' (yielded ops a.tmps)=true:=fun hg=>by
  rw[hg]at hgd;split at hgd
  .rename_i hg2;simp[Region.wanted,hg2]
  .rename_i e _;cases e
  .cases hgd
 have neLA:p.iL≠p.iA:=fun e=>by rw[e]at hoL;rw[hoL]at hoA;have:=congrArg (fun o=>o.map fun o=>match o.op with | .ldo _=>true|_=>false) hoA;simp at this
 have neLS:p.iL≠p.iS:=fun e=>by rw[e]at hoL;rw[hoL]at hoS;cases hoS
 have neAS:p.iA≠p.iS:=fun e=>by rw[e]at hoA;rw[hoA]at hoS;cases hoS
 have bLA:(p.iL==p.iA)=false:=by simpa using neLA
 have bLS:(p.iL==p.iS)=false:=by simpa using neLS
 have bAS:(p.iA==p.iS)=false:=by simpa using neAS
 have bAL:(p.iA==p.iL)=false:=by simpa using P5 neLA
 have bSL:(p.iS==p.iL)=false:=by simpa using P5 neLS
 have bSA:(p.iS==p.iA)=false:=by simpa using P5 neAS
 have done:∀(K:ac->LLV->Prop) (R:AEx->ac->LLV->Prop),(∀ρ' σ',K ρ' σ'->(∀t,get ρ' t=get (ch p c rows2 (fun j=>j==i||S j) (aD (aA l xs 0 fun j=>j==i||S j) ρ)) t)/\σ'=if(p.iS==i||S p.iS)=true then σf else if(p.iL==i||S p.iL)=true then σ2 else σ)->
  o'.wp C.P a w (g8 M bm pr w n K) (aY M bm pr w n fun _ _ _=>False)->o'.wp C.P a w (g8 M bm pr w n fun ρ' σ'=>(∀t,get ρ' t=get (ch p c rows2 (fun j=>j==i||S j) (aD (aA l xs 0 fun j=>j==i||S j) ρ)) t)/\σ'=if(p.iS==i||S p.iS)=true then σf else if(p.iL==i||S p.iL)=true then σ2 else σ) (aY M bm pr w n fun _ _ _=>False):=fun K R hK hw=>
  Oper.wp_mono2 (fun a' w' ⟨M',bm',tk',ρ',σ',e1,k2,k3⟩=>⟨M',bm',tk',ρ',σ',hK _ _ e1,k2,k3⟩) (fun e a' w' hh=>hh) hw
 by_cases hS:i=p.iS
 .subst hS;have hall:∀j,j<l.length->j≠p.iS->S j=true:=fun j hj hne=>hbef j (D.last j l[j] (Py hj) hne);have hSL:=hall p.iL iLl neLS;have hSA:=hall p.iA iAl neAS;simp only[ch,hSi,hSL,hSA,Pl,if_false,if_true]at h;unfold mL at hL;rw[eS]at hL hgetL hnext;obtain⟨-,hL⟩:=hL;rw[if_pos (hwant (by rw[eS]))];refine done (fun ρ' σ'=>ρ'=put (put (aD (aA l xs 0 S) ρ) p.tA (.own c.T c.k (c.rows++rows2))) p.tA (.d (.sl (c.rows++rows2)))/\σ'=σf) (fun _ _ _=>False) (fun ρ' σ' ⟨e1,e2⟩=>?_) (bO (hG.mono hl) h hoo ?_)
  .subst e1;subst e2;refine⟨fun t=>?_,by simp⟩;simp only[ch,BEq.rfl,Pr,if_true];rw[hnext t];simp only[Go.Proofs.YtnhphlmblenapaaGreatDoor.putd,bg];split
   .rename_i e;subst e;rw[baseA S hSA]
   .rfl
  .rw[eS]
   have hev:ev C (put (aD (aA l xs 0 S) ρ) p.tA (.own c.T c.k (c.rows++rows2))) yS=.ptr c.i c.off:=by
    rw[<-hL];refine(bz fun t ht=>?_).symm;rw[bg,if_neg (fun e=>hnS (by subst e;exact ht))];exact hgetL t (by simp[O.looksA,OP.slotsA,ht])
   have hlt:c.i<σ.length:=(List.getElem?_eq_some_iff.1 hcs).1;have hlo2:c.off<cs.length:=(List.getElem?_eq_some_iff.1 hcell).1;have hs2:σ2[c.i]? = some (cs.set c.off (.d (.sl c.rows))):=by rw[<-hσ2];simp[hlt]
   simp only[cw,hev,bg,if_true,hs2];exact⟨⟨by simpa using hlo2,rB _ hlo2⟩,trivial,hσf⟩
 have hSS:S p.iS=false:=by
  have:¬S p.iS=true:=fun hh=>by
   have:=hbefj p.iS iSl hh i (D.last i l[i] hlo hS);rw[hSi]at this;cases this
  simpa using this
 have hSi':(p.iS==i)=false:=by simpa using P5 hS
 by_cases hA:i=p.iA
 .subst hA;have hSL:S p.iL=true:=hbef _ D.ab;simp only[ch,hSS,hSi,hSL,Pl,if_false,if_true]at h;unfold mL at hL;rw[eA]at hL hgetL hnext;obtain⟨-,hL1,hL2,-⟩:=hL;rw[if_pos (hwant (by rw[eA]))];refine done (fun ρ' σ'=>ρ'=Go.Proofs.YtnhphlmblenapaaGreatDoor.putd (put (put (aD (aA l xs 0 S) ρ) p.tL (.own c.T c.k c.rows)) p.tL (.d (.sl c.rows))) (some p.tA) (.own c.T c.k (c.rows++rows2))/\σ'=σ2) (fun _ _ _=>False) (fun ρ' σ' ⟨e1,e2⟩=>?_) (bO (hG.mono hl) h hoo ?_)
  .subst e1;subst e2;refine⟨fun t=>?_,by simp[hSS,hSL,bSA]⟩;simp only[ch,BEq.rfl,Pr,bSA,hSS,Pw,Pl,if_false,if_true];simp only[Go.Proofs.YtnhphlmblenapaaGreatDoor.putd,bg];split
   .rfl
   .rename_i hne;rw[hnext t];simp only[Go.Proofs.YtnhphlmblenapaaGreatDoor.putd,bg,hne,if_false];split
    .rename_i e;subst e;rw[baseL S hSL]
    .rfl
  .rw[eA]
   have hev:ev C (put (aD (aA l xs 0 S) ρ) p.tL (.own c.T c.k c.rows)) yA=ev C ρi yA:=by
    refine(bz fun t ht=>?_).symm;rw[bg,if_neg (fun e=>hnA (by subst e;exact ht))];exact hgetL t (by simp[O.looksA,OP.slotsA,ht])
   obtain⟨q1,q2,q3,q4⟩:=hL2;simp only[cw,bg,if_true,hev,hL1];refine⟨⟨q1,q2,q3,q4⟩,?_,trivial⟩;rw[q1,q2]
 have hSA':(p.iA==i)=false:=by simpa using P5 hA
 by_cases hLd:i=p.iL
 .subst hLd
  have hSA:S p.iA=false:=by
   have:¬S p.iA=true:=fun hh=>by
    have:=hbefj p.iA iAl hh _ D.ab;rw[hSi]at this;cases this
   simpa using this
  simp only[ch,hSS,hSi,hSA,Pl,if_false]at h;unfold mL at hL;rw[eL]at hL hgetL hnext;obtain⟨-,hL1,-⟩:=hL;rw[if_pos (hwant (by rw[eL]))];refine done (fun ρ' σ'=>ρ'=Go.Proofs.YtnhphlmblenapaaGreatDoor.putd (aD (aA l xs 0 S) ρ) (some p.tL) (.own c.T c.k c.rows)/\σ'=σ2) (fun _ _ _=>False) (fun ρ' σ' ⟨e1,e2⟩=>?_) (bO (hG.mono hl) h hoo ?_)
  .subst e1;subst e2;refine⟨fun t=>?_,by simp[hSS,bSL]⟩;simp only[ch,BEq.rfl,Pr,bSL,bAL,hSS,hSA,Pw,Pl,if_false,if_true];simp only[Go.Proofs.YtnhphlmblenapaaGreatDoor.putd,bg];split
   .rfl
   .rename_i hne;rw[hnext t];simp only[Go.Proofs.YtnhphlmblenapaaGreatDoor.putd,bg,hne,if_false]
  .rw[eL]
   have hev:ev C (aD (aA l xs 0 S) ρ) yL=.ptr c.i c.off:=by
    rw[<-hL1];refine(bz fun t ht=>?_).symm;exact hgetL t (by simp[O.looksA,OP.slotsA,ht])
   simp only[cw,hev,hcs,hcell];exact⟨trivial,hσ2⟩
 have hSL':(p.iL==i)=false:=by simpa using P5 hLd
 have hns:l[i].op.special=false:=by
  have:=D.spec i l[i] hlo;cases hsp:l[i].op.special with
  | false=>rfl
  | true=>rcases this.1 hsp with e|e|e;exact absurd e hLd;exact absurd e hA;exact absurd e hS
 have hLL2:Loc C l[i] ρi σ (xs[i]'(by omega))/\Loc C l[i] ρi σ2 (xs[i]'(by omega)):=by
  unfold mL at hL;split at hL
  .rename_i e;rw[e]at hns;cases hns
  .rename_i e;rw[e]at hns;cases hns
  .rename_i e;rw[e]at hns;cases hns
  .exact hL
 have hlk:l[i].looks=l[i].looksA:=by
  unfold O.looks O.looksA
  have:l[i].op.slots=l[i].op.slotsA:=by
   cases ho:l[i].op<;>first|rfl|(rw[ho]at hns;cases hns)
  rw[this];all_goals rfl
 have hσS:Loc C l[i] ρi (if S p.iL=true then σ2 else σ) (xs[i]'(by omega)):=by split;exact hLL2.2;exact hLL2.1
 have hL2:Loc C l[i] (ch p c rows2 S (aD (aA l xs 0 S) ρ)) (if S p.iL=true then σ2 else σ) (xs[i]'(by omega)):=hσS.congr fun t ht=>by
  rw[hlk]at ht;rw[hgetL t ht,over_get S _ t (fun e=>D.lookL i _ hlo hA (by subst e;exact ht)) (fun e=>D.lookA i _ hlo hS (by subst e;exact ht))]
 have hnextSt:∀t,get (ch p c rows2 (fun j=>j==i||S j) (aD (aA l xs 0 fun j=>j==i||S j) ρ)) t=get (Go.Proofs.YtnhphlmblenapaaGreatDoor.putd (ch p c rows2 S (aD (aA l xs 0 S) ρ)) l[i].dst (xs[i]'(by omega))) t:=fun t=>by
  rw[over_congr _ _ _ hnext t];have d1:=D.dstL i _ hlo hLd;have d2:=D.dstA i _ hlo hA;simp only[ch,hSi',hSA',hSL',Po];split
  .rfl
  .split
   .rw[bZ,bg,bg,bZ];by_cases e1:t=p.tA
    .subst e1;simp[d2]
    .simp[e1]
   .split
    .rw[bZ,bg,bg,bZ];by_cases e1:t=p.tL
     .subst e1;simp[d1]
     .simp[e1]
    .rfl
 simp only[hSS,hSi',hSL',Po,Pl,if_false]at h done ⊢
 have exec:aN C l[i].op (ch p c rows2 S (aD (aA l xs 0 S) ρ)) (if S p.iL=true then σ2 else σ) (fun v=>v=xs[i]'(by omega))->o'.wp C.P a w (g8 M bm pr w n fun ρ' σ'=>(∀t,get ρ' t=get (ch p c rows2 (fun j=>j==i||S j) (aD (aA l xs 0 fun j=>j==i||S j) ρ)) t)/\σ'=if S p.iL=true then σ2 else σ) (aY M bm pr w n fun _ _ _=>False):=fun hc=>
  done _ (fun _ _ _=>False) (fun ρ' σ' ⟨e1,e2⟩=>⟨fun t=>by rw[e1];exact(hnextSt t).symm,e2⟩) (bO (hG.mono hl) h hoo (jK hc))
 unfold Loc at hL2;split at hL2
 .rename_i hg;rw[if_pos (hwant hg)];exact exec hL2
 .rename_i t want hg;rw[hg]at hgd;split at hgd
  .rename_i e _;cases e
  .rename_i t' b' j b'' e hg2;cases e;simp only[Pk,beq_iff_eq]at hgd;obtain⟨rfl,hj⟩:=hgd;split at hL2
   .rename_i b hb;have hy:=eY h hb hj;by_cases hbw:b=want
    .rw[if_pos (by simp[Region.wanted,hg2,hy,hbw])];exact exec (hL2.1 hbw)
    .rw[if_neg (by simp[Region.wanted,hg2,hy,hbw])];have hx:=hL2.2 hbw;refine(h.putd hdn gj (by simp)).congr fun t=>?_;rw[hnextSt t,hx,hdst]
   .rename_i hb;have hy:=ip h hb hj;rw[if_neg (by simp[Region.wanted,hg2,hy])];refine(h.putd hdn gj (by simp)).congr fun t=>?_;rw[hnextSt t,hL2,hdst]
   .exact hL2.elim
  .cases hgd
end
end Go.Proofs.YtnhphlmblenapaaGreatDoor
namespace Go.Proofs.YtnhphlmblenapaaGreatDoor
open Go.RowKit
def OP.slotsN:OP->List Nat
 | .sto _ x y=>x.slots++y.slots
 | op=>op.slots
def O.looksN(o:O):List Nat:=o.op.slotsN++(match o.g with|some (t,_)=>[t]|none=>[])
section
variable {C : Cx} {pr : Prot} {ρ : ac} {n : Nat} {Q : AEx -> ac -> LLV -> Prop}
def Ja:O->Bool
 | ⟨none,.sto _ _ _,none⟩=>true
 | _=>false
end
end Go.Proofs.YtnhphlmblenapaaGreatDoor
namespace Go.Proofs.YtnhphlmblenapaaGreatDoor
open Go.RowKit
def OP.specialS:OP->Bool
 | .sto _ _ _=>true
 | _=>false
section
variable {C : Cx} {pr : Prot} {ρ : ac} {n : Nat} {Q : AEx -> ac -> LLV -> Prop}
def wV(C:Cx)(σf:LLV)(σ:LLV)(o:O)(ρ:ac)(x:V):Prop:=
 match o.op with
 | .sto kk y z=>o.g=none/\∃i off cs,ev C ρ y=.ptr i off/\σ[i]? = some cs/\((ev C ρ z).boxable=true/\(ev C ρ z).cells.length=kk/\off+kk≤cs.length/\bT cs=true)/\σf=σ.set i (over cs off (ev C ρ z).cells)
 | _=>Loc C o ρ σ x
def gX(C:Cx)(σ:LLV):List O->ac->Option LLV->(ac->LLV->Prop)->Prop
 | [],ρ,acc,K=>match acc with|some σf=>K ρ σf|none=>False
 | o::r,ρ,acc,K=>match o.op with
  | .sto kk y z=>o.g=none/\o.dst=none/\match acc,ev C ρ y with
   | none,.ptr i off=>match σ[i]? with
    | some cs=>((ev C ρ z).boxable=true/\(ev C ρ z).cells.length=kk/\off+kk≤cs.length/\bT cs=true)/\gX C σ r ρ (some (σ.set i (over cs off (ev C ρ z).cells))) K
    | none=>False
   | _,_=>False
  | op=>match o.g with
   | none=>aN C op ρ σ fun v=>gX C σ r (putd ρ o.dst v) acc K
   | some (t,want)=>match get ρ t with
    | .d (.lit (.bool b))=>(b=want->aN C op (put ρ t (.d (.lit (.bool want)))) σ fun v=>gX C σ r (putd (put ρ t (.d (.lit (.bool want)))) o.dst v) acc K)/\(b≠want->gX C σ r (putd (put ρ t (.d (.lit (.bool (!want))))) o.dst (.tup [])) acc K)
    | .tup []=>gX C σ r (putd ρ o.dst (.tup [])) acc K
    | _=>False
theorem lw{σ:LLV}:∀{l:List O} {ρ:ac} {acc:Option LLV} {K:ac->LLV->Prop},gX C σ l ρ acc K->
 ∃σf,(∀r,acc=some r->r=σf)/\ny (wV C σf σ) l ρ fun ρ'=>K ρ' σf
 | [],ρ,acc,K,h=>by
  cases acc with
  | none=>exact h.elim
  | some r=>exact⟨r,fun r' e=>by cases e;rfl,h⟩
 | o::r,ρ,acc,K,h=>by
  have know:∀{t:Nat} {b c:Bool},get ρ t=.d (.lit (.bool b))->b=c->∀s,get (put ρ t (.d (.lit (.bool c)))) s=get ρ s:=fun hb hc s=>by
   rw[bg];split
   .rename_i e;subst e;subst hc;exact hb.symm
   .rfl
  have other:o.op.specialS=false->(match o.g with
   | none=>aN C o.op ρ σ fun v=>gX C σ r (putd ρ o.dst v) acc K
   | some (t,want)=>match get ρ t with
    | .d (.lit (.bool b))=>(b=want->aN C o.op (put ρ t (.d (.lit (.bool want)))) σ fun v=>gX C σ r (putd (put ρ t (.d (.lit (.bool want)))) o.dst v) acc K)/\(b≠want->gX C σ r (putd (put ρ t (.d (.lit (.bool (!want))))) o.dst (.tup [])) acc K)
    | .tup []=>gX C σ r (putd ρ o.dst (.tup [])) acc K
    | _=>False)->∃σf,(∀r,acc=some r->r=σf)/\ny (wV C σf σ) (o::r) ρ fun ρ'=>K ρ' σf:=by
   intro hs h
   have fin:∀x ρ2,(∀t,get ρ2 t=get ρ t)->Loc C o ρ σ x->gX C σ r (putd ρ2 o.dst x) acc K->∃σf,(∀r,acc=some r->r=σf)/\ny (wV C σf σ) (o::r) ρ fun ρ'=>K ρ' σf:=by
    intro x ρ2 h1 h2 h4;obtain⟨rows2,h5,h6⟩:=lw h4;refine⟨rows2,h5,x,ρ2,h1,?_,h6⟩;unfold wV;split<;>first|exact h2|(rename_i e;rw[e]at hs;cases hs)
   split at h
   .rename_i hg;obtain⟨v,h1,h2⟩:=fg h;exact fin v ρ (fun _=>rfl) (by unfold Loc;rw[hg];exact h1) h2
   .rename_i t want hg;split at h
    .rename_i b hb;by_cases e:b=want
     .obtain⟨v,h1,h2⟩:=fg (h.1 e);exact fin v _ (know hb e) (by unfold Loc;rw[hg];simp only;rw[hb];exact⟨fun _=>e6 (fun s _=>know hb e s) h1,fun ne=>absurd e ne⟩) h2
     .exact fin (.tup []) _ (know hb (c:=!want) (by cases b<;>cases want<;>simp_all)) (by unfold Loc;rw[hg];simp only;rw[hb];exact⟨(fun ee=>absurd ee e),(fun _=>by trivial)⟩) (h.2 e)
    .rename_i hb;exact fin (.tup []) ρ (fun _=>rfl) (by unfold Loc;rw[hg];simp only;rw[hb];trivial) h
    .exact h.elim
  unfold gX at h;split at h
  .rename_i kk y z ho;obtain⟨h1,h2,h3⟩:=h;split at h3
   .rename_i i off he;split at h3
    .rename_i cs hcs;obtain⟨h5,h6⟩:=h3;obtain⟨σf,h7,h8⟩:=lw h6;have:=h7 _ rfl;subst this;exact⟨_,(fun r e=>by cases e),.junk,ρ,fun _=>rfl,by unfold wV;rw[ho];exact⟨h1,i,off,cs,he,hcs,h5,rfl⟩,by rw[h2];exact h8⟩
    .exact h3.elim
   .exact h3.elim
  .rename_i n2;refine other ?_ h;cases ho:o.op<;>first|rfl|exact absurd ho (n2 _ _ _)
def O.free(o:O):Bool:=match o.op,o.g with
 | .mv (.k _),none=>true
 | _,_=>false
def uW(iS:Nat)(l:List O)(os:List Oper):Bool:=
 let bf:=aM os []
 ((PB os.length).all fun i=>match os[i]? with|some o=>(aB o).all fun j=>decide (j<i)|none=>true) &&
 (((PB l.length).all fun i=>match l[i]? with
   | some o=>((o.looksN++o.dst.toList).all fun t=>(PB l.length).all fun j=>j==i||(match l[j]? with
    | some q=>q.dst != some t||(if j<i then(bf.getD i []).contains j else(bf.getD j []).contains i)
    | none=>true)) &&
    ((o.op.specialS==(i==iS))&&(i==iS||(o.free||(bf.getD iS []).contains i)))
   | none=>true) &&
 ((l[iS]?).any Ja))
def oz(l:List O)(os:List Oper):Bool:=match tU (fun op=>match op with | .sto _ _ _=>true|_=>false) l 0 with
 | some p=>uW p l os
 | none=>false
structure OKS(iS:Nat)(l:List O)(os:List Oper):Prop where
 lt:∀(i:Nat) (o:Oper),os[i]? = some o->∀j∈aB o,j<i
 cmp:∀(i:Nat) (o:O),l[i]? = some o->∀t∈o.looksN++o.dst.toList,∀(j:Nat) (q:O),l[j]? = some q->q.dst=some t->j≠i->(j<i/\j∈(aM os []).getD i [])\/(i<j/\i∈(aM os []).getD j [])
 spec:∀(i:Nat) (o:O),l[i]? = some o->(o.op.specialS=true↔i=iS)
 last:∀(i:Nat) (o:O),l[i]? = some o->i≠iS->o.free=true\/i∈(aM os []).getD iS []
 opS:∃kk y z,l[iS]? = some ⟨none,.sto kk y z,none⟩
theorem AO{iS:Nat}{l:List O}{os:List Oper}(hl:l.length=os.length)(h:uW iS l os=true):OKS iS l os:=by
 unfold uW at h;simp only[Pk]at h;obtain⟨h1,h2,h5⟩:=h;simp only[Pz,PC]at h1 h2
 have one:∀(i:Nat) (o:O),l[i]? = some o->_:=fun i o ho=>by
  have:=h2 i (List.getElem?_eq_some_iff.1 ho).1;rw[ho]at this;simp only[Pk]at this;exact this
 refine⟨fun i o ho j hj=>?_,fun i o ho t ht j q hp hd hne=>?_,fun i o ho=>?_,fun i o ho hne=>?_,?_⟩
 .have:=h1 i (List.getElem?_eq_some_iff.1 ho).1;rw[ho]at this;simpa using List.all_eq_true.1 this j hj
 .have h1:=(one i o ho).1;simp only[Pz,PC]at h1;have h2:=h1 t ht j (List.getElem?_eq_some_iff.1 hp).1;rw[hp]at h2;simp only[hd,Pm,beq_iff_eq,bne_self_eq_false,Pl,false_or]at h2;rcases h2 with h2|h2
  .exact absurd h2 hne
  .split at h2
   .exact .inl ⟨by assumption,by simpa using h2⟩
   .exact .inr ⟨by omega,by simpa using h2⟩
 .have:=(one i o ho).2.1;rw[beq_iff_eq]at this;rw[this];simp
 .have:=(one i o ho).2.2;simpa[hne]using this
 .cases ho:l[iS]? with
  | none=>rw[ho]at h5;cases h5
  | some o=>
  rw[ho]at h5;have hp:Ja o=true:=h5;clear h5;unfold Ja at hp;split at hp
  .exact⟨_,_,_,rfl⟩
  .cases hp
theorem uG{M0:ao}{bm0:List Nat}{w0:World}(hG:C.glob M0 pr w0){id:Nat}{ops:Array Oper}{l:List O}{M:ao}{bm:List Nat}{tk:be}{σ:LLV}{a:Act}{w:World}(hok:eX C.tab n ops l ops.toList=true)(hdr:oz l ops.toList=true)
 (hl:Later M0 bm0 pr w0 M bm w)(h:SRel M bm tk pr ρ σ n a w)
 (hq:gX C σ l ρ none fun ρ' σf=>Q .normal ρ' σf):
 (Code.region id ops true).wp C.P (aY M0 bm0 pr w0 n Q) a w:=by
 obtain⟨hlen,hget⟩:=fr hok;unfold oz at hdr;split at hdr;case h_2=>cases hdr
 rename_i p _;have D:=AO hlen hdr;obtain⟨σf,-,hch⟩:=lw hq;obtain⟨xs,hxl,⟨ρf,hρf,hρe⟩,hloc⟩:=pY (k:=0) hch;have hnl:l.length=ops.size:=by rw[hlen];simp
 have hsteps:∀S:Nat->Bool,(aA l xs 0 S).length=l.length:=fun S=>du l xs 0 S hxl
 have hsg:∀(S:Nat->Bool) (i:Nat) (hi:i<(aA l xs 0 S).length) (h1:i<l.length),(aA l xs 0 S)[i]=(l[i].dst,xs[i]'(by omega),S i):=fun S i hi h1=>by
  have:=dt l xs 0 S i hi h1 (by omega);simpa using this
 obtain⟨kS,yS,zS,hoS⟩:=D.opS;have iSl:p<l.length:=(List.getElem?_eq_some_iff.1 hoS).1;have eS:l[p]=⟨none,.sto kS yS zS,none⟩:=(List.getElem?_eq_some_iff.1 hoS).2
 have base:∀S S',(∀j,j<l.length->S j=S' j)->∀t,get (aD (aA l xs 0 S) ρ) t=get (aD (aA l xs 0 S') ρ) t:=fun S S' hS t=>by
  refine bG _ _ ρ t (by rw[hsteps,hsteps]) (fun i g1 g2=>?_);rw[hsteps]at g1;rw[hsg _ i (by rw[hsteps];exact g1) g1,hsg _ i (by rw[hsteps];exact g1) g1];exact⟨rfl,rfl,fun _=>hS i g1⟩
 refine uS (M:=M) (bm:=bm) (tk:=tk) (fun S=>aD (aA l xs 0 S) ρ) (fun S=>if S p then σf else σ) ρf σf D.lt (fun S S' hS=>?_) hl ?_ ⟨fun t=>?_,?_⟩ hρf ?_
 .have e3:=hS p (by omega);exact⟨base S S' fun j hj=>hS j (by omega),by rw[e3]⟩
 .have:∀t,get (aD (aA l xs 0 fun _=>false) ρ) t=get ρ t:=fun t=>by
   rw[dJ];intro q hq _;obtain⟨j,hj,rfl⟩:=PA hq;rw[hsteps]at hj;rw[hsg _ j (by rw[hsteps];exact hj) hj]
  simp only[Pl,if_false];exact h.congr this
 .rw[hρe t]
 .simp only[if_true]
 intro S i o' ho' hSi hclo hedge M bm tk a w hl h;have hi1:i<ops.toList.length:=(List.getElem?_eq_some_iff.1 ho').1;have hi2:i<l.length:=by omega
 have hlo:l[i]? = some l[i]:=Py hi2;have hbef:∀j∈(aM ops.toList []).getD i [],S j=true:=bP D.lt (S:=fun j=>S j=true) hclo i o' ho' hedge
 have hbefj:∀q,q<l.length->S q=true->∀j∈(aM ops.toList []).getD q [],S j=true:=fun q hq hSq=>by
  have hq2:ops.toList[q]? = some ops.toList[q]:=Py (by omega);exact bP D.lt (S:=fun j=>S j=true) hclo q _ hq2 (hclo q _ hq2 hSq)
 have hsame:∀t∈l[i].looksN++l[i].dst.toList,∀j (hj:j<l.length),j≠i->l[j].dst=some t->(S j=decide (j<i)):=by
  intro t ht j hj hne hd;rcases D.cmp i l[i] hlo t ht j l[j] (Py hj) hd hne with⟨g1,g2⟩|⟨g1,g2⟩
  .rw[hbef j g2];simp[g1]
  .have:¬S j=true:=fun hjl=>by
    have:=hbefj j hj hjl i g2;rw[hSi]at this;cases this
   have e:S j=false:=by simpa using this
   rw[e];simp;omega
 obtain⟨ρi,hL,hρi⟩:=hloc i hi2 (by omega)
 have hgetL:∀t∈l[i].looksN,get ρi t=get (aD (aA l xs 0 S) ρ) t:=by
  intro t ht;rw[hρi t];refine bG _ _ ρ t (by rw[hsteps,hsteps]) (fun j g1 g2=>?_);rw[hsteps]at g1;rw[hsg _ j (by rw[hsteps];exact g1) g1,hsg _ j (by rw[hsteps];exact g1) g1];refine⟨rfl,rfl,fun hd=>?_⟩;simp only[PZ];by_cases e:j=i
  .subst e;rw[hSi];simp
  .exact(hsame t (by simp[ht]) j g1 e hd).symm
 have hnext:∀t,get (aD (aA l xs 0 fun j=>j==i||S j) ρ) t=get (Go.Proofs.YtnhphlmblenapaaGreatDoor.putd (aD (aA l xs 0 S) ρ) l[i].dst (xs[i]'(by omega))) t:=by
  intro t;rw[bZ];split
  .rename_i e
   have:=eU (aA l xs 0 fun j=>j==i||S j) ρ i (by rw[hsteps];exact hi2) t (by rw[hsg _ i _ hi2];exact e) (by rw[hsg _ i _ hi2];simp) (fun j hj hij hd=>by
    rw[hsteps]at hj;rw[hsg _ j _ hj]at hd ⊢;simp only at hd ⊢;rw[hsame t (by simp[e]) j hj (by omega) hd];simp;omega)
   rw[this,hsg _ i _ hi2]
  .rename_i e;refine bG _ _ ρ t (by rw[hsteps,hsteps]) (fun j g1 g2=>?_);rw[hsteps]at g1;rw[hsg _ j (by rw[hsteps];exact g1) g1,hsg _ j (by rw[hsteps];exact g1) g1];refine⟨rfl,rfl,fun hd=>?_⟩;simp only at hd ⊢;have hne:j≠i:=fun ee=>by subst ee;exact e hd
   simp[hne]
 have hoo:=hget i l[i] o' hlo ho'
 have hdst:l[i].dst=o'.dst:=by
  have:=hoo;unfold okO at this;simp only[Pk,beq_iff_eq]at this;exact this.1.1.2
 have hdn:∀d,o'.dst=some d->d<n:=by
  have:=hoo;unfold okO at this;simp only[Pk]at this;intro d hd;have:=this.1.2;rw[hd]at this;simpa using this
 have hgd:=hoo;unfold okO at hgd;simp only[Pk]at hgd;replace hgd:=hgd.2
 have hwant:l[i].g=none->Region.wanted o' (yielded ops a.tmps)=true:=fun hg=>by
  rw[hg]at hgd;split at hgd
  .rename_i hg2;simp[Region.wanted,hg2]
  .rename_i e _;cases e
  .cases hgd
 have done:∀(K:ac->LLV->Prop) (R:AEx->ac->LLV->Prop),(∀ρ' σ',K ρ' σ'->(∀t,get ρ' t=get (aD (aA l xs 0 fun j=>j==i||S j) ρ) t)/\σ'=if(p==i||S p)=true then σf else σ)->
  o'.wp C.P a w (g8 M bm pr w n K) (aY M bm pr w n fun _ _ _=>False)->o'.wp C.P a w (g8 M bm pr w n fun ρ' σ'=>(∀t,get ρ' t=get (aD (aA l xs 0 fun j=>j==i||S j) ρ) t)/\σ'=if(p==i||S p)=true then σf else σ) (aY M bm pr w n fun _ _ _=>False):=fun K R hK hw=>
  Oper.wp_mono2 (fun a' w' ⟨M',bm',tk',ρ',σ',e1,k2,k3⟩=>⟨M',bm',tk',ρ',σ',hK _ _ e1,k2,k3⟩) (fun e a' w' hh=>hh) hw
 by_cases hS:i=p
 .subst hS;simp only[hSi,Pl,if_false]at h;unfold wV at hL;rw[eS]at hL hgetL hnext;obtain⟨-,i0,off,cs,hL1,hcs,hL2,hL3⟩:=hL
  have evy:ev C (aD (aA l xs 0 S) ρ) yS=.ptr i0 off:=by
   rw[<-hL1];exact(bz fun t ht=>hgetL t (by simp[O.looksN,OP.slotsN,ht])).symm
  have evz:ev C (aD (aA l xs 0 S) ρ) zS=ev C ρi zS:=(bz fun t ht=>hgetL t (by simp[O.looksN,OP.slotsN,ht])).symm;rw[if_pos (hwant (by rw[eS]))];refine done (fun ρ' σ'=>ρ'=aD (aA l xs 0 S) ρ/\σ'=σf) (fun _ _ _=>False) (fun ρ' σ' ⟨e1,e2⟩=>?_) (bO (hG.mono hl) h hoo ?_)
  .subst e1;subst e2;refine⟨fun t=>?_,by simp⟩;rw[hnext t];rfl
  .rw[eS];simp only[cw,evy,evz,hcs];exact⟨hL2,trivial,hL3.symm⟩
 have hSS:l[i].free=true\/S p=false:=by
  rcases D.last i l[i] hlo hS with g|g
  .exact .inl g
  .refine .inr ?_
   have:¬S p=true:=fun hh=>by
    have:=hbefj p iSl hh i g;rw[hSi]at this;cases this
   simpa using this
 have hSi':(p==i)=false:=by simpa using P5 hS
 have hns:l[i].op.specialS=false:=by
  have:=D.spec i l[i] hlo;cases hsp:l[i].op.specialS with
  | false=>rfl
  | true=>exact absurd (this.1 hsp) hS
 have hLL2:Loc C l[i] ρi σ (xs[i]'(by omega)):=by
  unfold wV at hL;split at hL
  .rename_i e;rw[e]at hns;cases hns
  .exact hL
 have hlk:l[i].looks=l[i].looksN:=by
  unfold O.looks O.looksN
  have:l[i].op.slots=l[i].op.slotsN:=by
   cases ho:l[i].op<;>first|rfl|(rw[ho]at hns;cases hns)
  rw[this];all_goals rfl
 have hL0:Loc C l[i] (aD (aA l xs 0 S) ρ) σ (xs[i]'(by omega)):=hLL2.congr fun t ht=>by
  rw[hlk]at ht;exact hgetL t ht
 obtain⟨σ2,hσ2⟩:∃σ2,σ2=if S p=true then σf else σ:=⟨_,rfl⟩
 have hL2:Loc C l[i] (aD (aA l xs 0 S) ρ) σ2 (xs[i]'(by omega)):=by
  rcases hSS with hf|hs
  .unfold O.free at hf;split at hf
   .rename_i v ho hg;unfold Loc at hL0 ⊢;rw[hg]at hL0 ⊢;rw[ho]at hL0 ⊢;exact hL0
   .cases hf
  .rw[hσ2,hs];exact hL0
 simp only[hSi',Po]at h done ⊢;rw[<-hσ2]at h done ⊢
 have exec:aN C l[i].op (aD (aA l xs 0 S) ρ) σ2 (fun v=>v=xs[i]'(by omega))->o'.wp C.P a w (g8 M bm pr w n fun ρ' σ'=>(∀t,get ρ' t=get (aD (aA l xs 0 fun j=>j==i||S j) ρ) t)/\σ'=σ2) (aY M bm pr w n fun _ _ _=>False):=fun hc=>
  done _ (fun _ _ _=>False) (fun ρ' σ' ⟨e1,e2⟩=>⟨fun t=>by rw[e1];exact(hnext t).symm,e2⟩) (bO (hG.mono hl) h hoo (jK hc))
 unfold Loc at hL2;split at hL2
 .rename_i hg;rw[if_pos (hwant hg)];exact exec hL2
 .rename_i t want hg;rw[hg]at hgd;split at hgd
  .rename_i e _;cases e
  .rename_i t' b' j b'' e hg2;cases e;simp only[Pk,beq_iff_eq]at hgd;obtain⟨rfl,hj⟩:=hgd;split at hL2
   .rename_i b hb;have hy:=eY h hb hj;by_cases hbw:b=want
    .rw[if_pos (by simp[Region.wanted,hg2,hy,hbw])];exact exec (hL2.1 hbw)
    .rw[if_neg (by simp[Region.wanted,hg2,hy,hbw])];have hx:=hL2.2 hbw;refine(h.putd hdn gj (by simp)).congr fun t=>?_;rw[hnext t,hx,hdst]
   .rename_i hb;have hy:=ip h hb hj;rw[if_neg (by simp[Region.wanted,hg2,hy])];refine(h.putd hdn gj (by simp)).congr fun t=>?_;rw[hnext t,hL2,hdst]
   .exact hL2.elim
  .cases hgd
end
end Go.Proofs.YtnhphlmblenapaaGreatDoor
namespace Go.Proofs.YtnhphlmblenapaaGreatDoor
open Go.RowKit
section
variable {C : Cx} {pr : Prot} {ρ : ac} {σ : LLV} {n : Nat} {Q : AEx -> ac -> LLV -> Prop}
end
end Go.Proofs.YtnhphlmblenapaaGreatDoor
namespace Go.Proofs.YtnhphlmblenapaaGreatDoor
open Go.RowKit
section
variable {C : Cx} {pr : Prot} {n : Nat} {Q : AEx -> ac -> LLV -> Prop}
theorem nk{M0:ao}{bm0:List Nat}{w0:World}{id:Nat}{ops:Array Oper}{M:ao}{bm:List Nat}{tk:be}{a:Act}{w:World}(St:(Nat->Bool)->ac)(Sg:(Nat->Bool)->LLV)(ρf:ac)(σf:LLV)(I:(Nat->Bool)->Prop)(hI0:I fun _=>false)(hIext:∀S S',(∀j,j<ops.size->S j=S' j)->I S->I S')
 (hlt:∀(i:Nat) (o:Oper),ops.toList[i]? = some o->∀j∈aB o,j<i)
 (hext:∀S S',(∀j,j<ops.size->S j=S' j)->(∀t,get (St S) t=get (St S') t)/\Sg S=Sg S')
 (hl:Later M0 bm0 pr w0 M bm w)(h:SRel M bm tk pr (St fun _=>false) (Sg fun _=>false) n a w)
 (hf:I (fun _=>true)->((∀t,get ρf t=get (St fun _=>true) t)/\σf=Sg fun _=>true)/\Q .normal ρf σf)
 (step:∀(S:Nat->Bool) (i:Nat) (o:Oper),ops.toList[i]? = some o->S i=false->(∀(j:Nat) (p:Oper),ops.toList[j]? = some p->S j=true->∀e∈aB p,S e=true)->(∀e∈aB o,S e=true)->
   I S->∀(M:ao) (bm:List Nat) (tk:be) (a:Act) (w:World),Later M0 bm0 pr w0 M bm w->SRel M bm tk pr (St S) (Sg S) n a w->
    if Region.wanted o (yielded ops a.tmps)then o.wp C.P a w (g8 M bm pr w n fun ρ' σ'=>(∀t,get ρ' t=get (St fun j=>j==i||S j) t)/\σ'=(Sg fun j=>j==i||S j)/\I fun j=>j==i||S j) (aY M bm pr w n Q)
    else SRel M bm tk pr (St fun j=>j==i||S j) (Sg fun j=>j==i||S j) n (a.put o.dst undef) w/\I fun j=>j==i||S j):
 (Code.region id ops true).wp C.P (aY M0 bm0 pr w0 n Q) a w:=by
 refine wp_region_any C.mixed ?_
 suffices H:∀(fuel:Nat) (listed:Array Bool) (M:ao) (bm:List Nat) (tk:be) (a:Act) (w:World),Later M0 bm0 pr w0 M bm w->SRel M bm tk pr (St fun i=>listed.getD i false) (Sg fun i=>listed.getD i false) n a w->I (fun i=>listed.getD i false)->listed.size=ops.size->
  (∀(i:Nat) (o:Oper),ops.toList[i]? = some o->listed.getD i false=true->∀j∈aB o,listed.getD j false=true)->(listed.toList.filter (! ·)).length=fuel->wpAny C.P .any ops (aY M0 bm0 pr w0 n Q) fuel listed a w by
  obtain⟨h1,h2⟩:=h.ext (cO.drew w)
  have hrep:∀j,(Pg ops.size false).getD j false=false:=fun j=>by
   simp only[Pa,Pi];split<;>rfl
  obtain⟨e1,e2⟩:=hext (fun i=>(Pg ops.size false).getD i false) (fun _=>false) (fun j _=>hrep j);refine H ops.size (Pg ops.size false) M bm tk a w.drew (hl.trans h2 (fun _ h=>h)) ?_ (hIext _ _ (fun j _=>(hrep j).symm) hI0) (by simp) (fun i o ho hi=>?_) (by simp)
  .rw[e2];exact h1.congr e1
  .rw[hrep]at hi;cases hi
 intro fuel
 induction fuel with
 | zero=>
  intro listed M bm tk a w hl h hI hsz hcl hcnt
  have hall:∀i,i<ops.size->listed.getD i false=true:=fun i hi=>by
   have hb:listed[i]? = some (listed[i]'(by omega)):=Pb _;rw[Pa,hb,P6];have hne:listed.toList.filter (! ·)=[]:=PH hcnt;have:=List.filter_eq_nil_iff.1 hne (listed[i]'(by omega)) (by simp);simpa using this
  obtain⟨e1,e2⟩:=hext (fun i=>listed.getD i false) (fun _=>true) hall;obtain⟨hf,hq⟩:=hf (hIext _ _ hall hI);refine⟨?_,M,bm,tk,ρf,σf,.normal,hq,.normal,?_,hl⟩
  .unfold Region.ready;rw[PE];intro i hi;have hi':i<ops.size:=by simpa using hi
   have h9:=hall i hi'
   have:listed.getD i true=true:=by
    have hb:listed[i]? = some (listed[i]'(by omega)):=Pb _;rw[Pa,hb,P6]at h9 ⊢;exact h9
   simp[this]
  .rw[hf.2,<-e2];exact h.congr fun t=>(hf.1 t).trans (e1 t).symm
 | succ fuel ih=>
  intro listed M bm tk a w hl h hI hsz hcl hcnt;refine⟨fun hnil=>?_,fun i hi=>?_⟩
  .exfalso
   have hex:∃i,i<ops.size/\listed.getD i false=false:=by
    apply Px;intro hno
    have hne:listed.toList.filter (! ·)=[]:=by
     rw[PE];intro b hb;obtain⟨i,hi,rfl⟩:=PA hb;have hi':i<listed.size:=by simpa using hi
     have h9:¬listed.getD i false=false:=fun e=>hno ⟨i,by omega,e⟩;have hb:listed[i]? = some listed[i]:=Pb hi';rw[Pa,hb,P6]at h9;simpa using h9
    rw[hne]at hcnt;simp at hcnt
   have hmin:∃i,i<ops.size/\listed.getD i false=false/\∀j,j<i->listed.getD j false=true:=by
    obtain⟨i,h1,h2⟩:=hex
    induction i using P1 with
    | _ i ihm=>
    by_cases hj:∃j,j<i/\listed.getD j false=false
    .obtain⟨j,g1,g2⟩:=hj;exact ihm j g1 (by omega) g2
    .exact⟨i,h1,h2,fun j hji=>by
      cases hb:listed.getD j false with
      | true=>rfl
      | false=>exact absurd ⟨j,hji,hb⟩ hj⟩
   obtain⟨i,h1,h2,h3⟩:=hmin;have hio:i<ops.toList.length:=by simpa using h1
   have:i∈Region.ready .any ops listed:=by
    unfold Region.ready;rw[PD];refine⟨by simp;omega,?_⟩
    have ht:listed.getD i true=false:=by
     have hb:listed[i]? = some (listed[i]'(by omega)):=Pb _;rw[Pa,hb,P6]at h2 ⊢;exact h2
    have ho:ops[i]? = some (ops[i]'(by omega)):=Pb _;rw[ht,ho];simp only[Pp,Pq,P8,P6];rw[<-Ph,Pz];intro e he;cases hb:Region.binds .any e with
    | false=>rfl
    | true=>
     have:e.on∈aB (ops[i]'(by omega)):=by
      unfold aB;exact List.mem_map.2 ⟨e,List.mem_filter.2 ⟨he,hb⟩,rfl⟩
     simp[h3 e.on (hlt i _ (by rw[Py hio];simp) e.on this)]
   rw[hnil]at this;cases this
  .unfold Region.ready at hi;rw[PD]at hi;obtain⟨hir,hic⟩:=hi;have hi1:i<ops.size:=by simpa using hir
   have ho:ops[i]? = some ops[i]:=Pb hi1;have hoL:ops.toList[i]? = some ops[i]:=by rw[Pe];exact ho
   rw[ho]at hic;simp only[P8,P6,Pk,Pn]at hic;obtain⟨hun,hed⟩:=hic
   have hun':listed[i]? = some false:=by
    have hb:listed[i]? = some (listed[i]'(by omega)):=Pb _;rw[Pa,hb,P6]at hun;rw[hb,hun]
   have hunf:listed.getD i false=false:=by rw[Pa,hun'];rfl
   have hedge:∀j∈aB ops[i],listed.getD j false=true:=by
    intro j hj;unfold aB at hj;obtain⟨e,he,rfl⟩:=List.mem_map.1 hj;rw[PD]at he;rw[<-Ph,Pz]at hed;have:=hed e he.1;simpa[he.2]using this
   have hset:∀j,(listed.setIfInBounds i true).getD j false=(j==i||listed.getD j false):=fun j=>by
    rw[Pa,Pa];by_cases e:j=i
    .subst e;rw[Pd (by omega)];simp
    .rw[Pf (P5 e)];simp[e]
   have hnextcl:∀(q:Nat) (o:Oper),ops.toList[q]? = some o->(listed.setIfInBounds i true).getD q false=true->∀j∈aB o,(listed.setIfInBounds i true).getD j false=true:=by
    intro q o hqo hql j hj;rw[hset]at hql ⊢;simp only[Pm,beq_iff_eq]at hql ⊢;rcases hql with rfl|hql
    .rw[hoL]at hqo;cases hqo;exact .inr (hedge j hj)
    .exact .inr (hcl q o hqo hql j hj)
   have hnextc:((listed.setIfInBounds i true).toList.filter (! ·)).length=fuel:=by
    have:=iF listed.toList i (by rw[Pe];exact hun');rw[Pj];omega
   obtain⟨e1,e2⟩:=hext (fun j=>(listed.setIfInBounds i true).getD j false) (fun j=>j==i||listed.getD j false) (fun j _=>hset j);have hst:=step (fun j=>listed.getD j false) i ops[i] hoL hunf hcl hedge hI M bm tk a w hl h;unfold wpOp;rw[ho];simp only;split at hst
   .rename_i hw;rw[if_pos hw];refine .inl (Oper.wp_mono2 (fun a' w' hL=>?_) (fun e a' w' hL=>?_) hst)
    .obtain⟨M',bm',tk',ρ',σ',⟨k0,rfl,kI⟩,k2,k3⟩:=hL;refine ih _ M' bm' tk' a' w' (hl.trans k3 (fun _ h=>h)) ?_ (hIext _ _ (fun j _=>(hset j).symm) kI) (by simp[hsz]) hnextcl hnextc;rw[e2];exact k2.congr fun t=>(e1 t).trans (k0 t).symm
    .exact aY.trans hl hL
   .rename_i hw;rw[if_neg hw];refine ih _ M bm tk _ w hl ?_ (hIext _ _ (fun j _=>(hset j).symm) hst.2) (by simp[hsz]) hnextcl hnextc;rw[e2];exact hst.1.congr e1
end
def xL(pre:List O)(d:Option Nat)(f:FuncId)(args:List X)(post:List O)(kk:Nat)(y z:X):List O:=pre++⟨d,.call f args,none⟩::(post++[⟨none,.sto kk y z,none⟩])
section
variable {pre post : List O} {d : Option Nat} {f : FuncId} {args : List X} {kk : Nat} {y z : X}
end
def mq(np nq:Nat)(l:List O)(os:List Oper):Bool:=
 let bf:=aM os []
 ((PB os.length).all fun i=>match os[i]? with|some o=>(aB o).all fun j=>decide (j<i)|none=>true) &&
 (((PB l.length).all fun i=>match l[i]? with
   | some o=>(o.looksN++o.dst.toList).all fun t=>(PB l.length).all fun j=>j==i||(match l[j]? with
    | some q=>q.dst != some t||(if j<i then(bf.getD i []).contains j else(bf.getD j []).contains i)
    | none=>true)
   | none=>true) &&
 (((PB nq).all fun m=>(bf.getD (np+1+m) []).contains np) &&
 (((PB (np+1+nq)).all fun i=>(bf.getD (np+1+nq) []).contains i) &&
 ((PB np).all fun i=>match l[i]? with
   | some o=>o.dst.isSome&&(PB np).all fun j=>j==i||(match l[j]? with|some q=>q.dst != o.dst|none=>true)
   | none=>true))))
structure OKX(np nq:Nat)(l:List O)(os:List Oper):Prop where
 lt:∀(i:Nat) (o:Oper),os[i]? = some o->∀j∈aB o,j<i
 cmp:∀(i:Nat) (o:O),l[i]? = some o->∀t∈o.looksN++o.dst.toList,∀(j:Nat) (q:O),l[j]? = some q->q.dst=some t->j≠i->(j<i/\j∈(aM os []).getD i [])\/(i<j/\i∈(aM os []).getD j [])
 after:∀m,m<nq->np∈(aM os []).getD (np+1+m) []
 last:∀i,i<np+1+nq->i∈(aM os []).getD (np+1+nq) []
 pdst:∀(i:Nat) (o:O),i<np->l[i]? = some o->∃t,o.dst=some t/\∀(j:Nat) (q:O),j<np->l[j]? = some q->j≠i->q.dst≠some t
theorem vO{np nq:Nat}{l:List O}{os:List Oper}(h:mq np nq l os=true):OKX np nq l os:=by
 unfold mq at h;simp only[Pk]at h;obtain⟨h1,h2,h3,h4,h5⟩:=h;simp only[Pz,PC]at h1 h2 h3 h4 h5;refine⟨fun i o ho j hj=>?_,fun i o ho t ht j q hp hd hne=>?_,fun m hm=>by simpa using h3 m hm,fun i hi=>by simpa using h4 i hi,fun i o hi ho=>?_⟩
 .have:=h1 i (List.getElem?_eq_some_iff.1 ho).1;rw[ho]at this;simpa using List.all_eq_true.1 this j hj
 .have h1:=h2 i (List.getElem?_eq_some_iff.1 ho).1;rw[ho]at h1;simp only[Pz,PC]at h1;have h2:=h1 t ht j (List.getElem?_eq_some_iff.1 hp).1;rw[hp]at h2;simp only[hd,Pm,beq_iff_eq,bne_self_eq_false,Pl,false_or]at h2;rcases h2 with h2|h2
  .exact absurd h2 hne
  .split at h2
   .exact .inl ⟨by assumption,by simpa using h2⟩
   .exact .inr ⟨by omega,by simpa using h2⟩
 .have:=h5 i hi;rw[ho]at this;simp only[Pk,Pz,PC]at this;obtain⟨g1,g2⟩:=this;obtain⟨t,ht⟩:=Option.isSome_iff_exists.1 g1;refine⟨t,ht,fun j q hj hq hne hd=>?_⟩;have:=g2 j hj;rw[hq]at this;simp only[hd,ht,Pm,beq_iff_eq,bne_self_eq_false,Pl,or_false]at this;exact hne this
theorem qO:∀{l:List O} {xs:List V} {k:Nat} {S:Nat->Bool},(∀j,k≤j->S j=false)->∀p∈aA l xs k S,p.2.2=false
 | [],_,_,_,_,p,hp=>by simp[aA]at hp
 | _::_,[],_,_,_,p,hp=>by simp[aA]at hp
 | o::l,x::xs,k,S,h,p,hp=>by
  simp only[aA,List.mem_cons]at hp;rcases hp with rfl|hp
  .exact h k (P0 _)
  .exact qO (fun j hj=>h j (by omega)) p hp
theorem lv:∀{l:List O} {xs:List V} {k:Nat} {S S':Nat->Bool},(∀j,k≤j->j<k+l.length->S j=S' j)->aA l xs k S=aA l xs k S'
 | [],_,_,_,_,_=>by simp[aA]
 | _::_,[],_,_,_,_=>by simp[aA]
 | o::l,x::xs,k,S,S',h=>by
  simp only[aA];rw[h k (P0 _) (by simp),lv (l:=l) (xs:=xs) (k:=k+1) fun j h1 h2=>h j (by omega) (by simp only[PG];omega)]
theorem qT:∀{a b:List O} {xs ys:List V} {k:Nat} {S:Nat->Bool},xs.length=a.length->aA (a++b) (xs++ys) k S=aA a xs k S++aA b ys (k+a.length) S
 | [],_,[],_,_,_,_=>rfl
 | o::a,b,x::xs,ys,k,S,h=>by
  simp only[PT,aA,PG];rw[qT (by simpa using h),show k+1+a.length=k+(a.length+1)by omega]
 | [],_,_::_,_,_,_,h=>by simp at h
 | _::_,_,[],_,_,_,h=>by simp at h
theorem Bi{l:List (Option Nat×V×Bool)}(h:∀p∈l,p.2.2=false)(ρ:ac)(t:Nat):get (aD l ρ) t=get ρ t:=dJ l ρ t fun p hp _=>h p hp
section
variable {C : Cx} {pr : Prot} {ρ : ac} {σ : LLV} {n : Nat} {Q : AEx -> ac -> LLV -> Prop}
theorem uM{M:ao}{bm:List Nat}{tk:be}{a:Act}{w:World}{ops:Array Oper}{o:O}{o':Oper}{x:V}(hG:C.glob M pr w)(h:SRel M bm tk pr ρ σ n a w)(hoo:okO C.tab n ops o o'=true)(hL:Loc C o ρ σ x):
 if Region.wanted o' (yielded ops a.tmps)then o'.wp C.P a w (g8 M bm pr w n fun ρ' σ'=>ρ'=putd ρ o.dst x/\σ'=σ) (aY M bm pr w n Q)else SRel M bm tk pr (putd ρ o.dst x) σ n (a.put o'.dst undef) w:=by
 have hdst:o.dst=o'.dst:=by
  have:=hoo;unfold okO at this;simp only[Pk,beq_iff_eq]at this;exact this.1.1.2
 have hdn:∀d,o'.dst=some d->d<n:=by
  have:=hoo;unfold okO at this;simp only[Pk]at this;intro d hd;have:=this.1.2;rw[hd]at this;simpa using this
 have hgd:=hoo;unfold okO at hgd;simp only[Pk]at hgd;replace hgd:=hgd.2
 have exec:aN C o.op ρ σ (fun v=>v=x)->o'.wp C.P a w (g8 M bm pr w n fun ρ' σ'=>ρ'=putd ρ o.dst x/\σ'=σ) (aY M bm pr w n Q):=fun hc=>
  Oper.wp_mono2 (fun _ _ hh=>hh) (fun e a' w' ⟨_,_,_,_,_,_,hf,_⟩=>hf.elim) (bO (Q:=fun _ _ _=>False) hG h hoo (jK hc))
 unfold Loc at hL;split at hL
 .rename_i hg;rw[hg]at hgd;split at hgd
  .rename_i hg2;rw[if_pos (by simp[Region.wanted,hg2])];exact exec hL
  .rename_i e _;cases e
  .cases hgd
 .rename_i t want hg;rw[hg]at hgd;split at hgd
  .rename_i e _;cases e
  .rename_i t' b' j b'' e hg2;cases e;simp only[Pk,beq_iff_eq]at hgd;obtain⟨rfl,hj⟩:=hgd;split at hL
   .rename_i b hb;have hy:=eY h hb hj;by_cases hbw:b=want
    .rw[if_pos (by simp[Region.wanted,hg2,hy,hbw])];exact exec (hL.1 hbw)
    .rw[if_neg (by simp[Region.wanted,hg2,hy,hbw])];rw[hL.2 hbw,hdst];exact h.putd hdn gj (by simp)
   .rename_i hb;have hy:=ip h hb hj;rw[if_neg (by simp[Region.wanted,hg2,hy])];rw[hL,hdst];exact h.putd hdn gj (by simp)
   .exact hL.elim
  .cases hgd
theorem yT(o:O):∀t∈o.looks,t∈o.looksN:=by
 intro t ht;unfold O.looks at ht;unfold O.looksN;rw[PO]at ht ⊢;refine ht.imp (fun h=>?_) id;cases ho:o.op<;>rw[ho]at h<;>first|exact h|(simp[OP.slots]at h)
theorem Kq{L:List O}{X:List V}(hX:X.length=L.length)(ρ:ac){S:Nat->Bool}{i:Nat}{o:O}{x:V}(ho:L[i]? = some o)(hx:X[i]? = some x)(hSi:S i=false)
 (hsame:∀t∈o.looksN++o.dst.toList,∀(j:Nat) (q:O),L[j]? = some q->j≠i->q.dst=some t->S j=decide (j<i)):
 (∀t∈o.looksN,get (aD (aA L X 0 fun j=>decide (j<i)) ρ) t=get (aD (aA L X 0 S) ρ) t)/\
 ∀t,get (aD (aA L X 0 fun j=>j==i||S j) ρ) t=get (putd (aD (aA L X 0 S) ρ) o.dst x) t:=by
 have hi:=(List.getElem?_eq_some_iff.1 ho).1;have hoi:L[i]=o:=(List.getElem?_eq_some_iff.1 ho).2;have hxi:X[i]'(by omega)=x:=by rw[Py (by omega)]at hx;exact Option.some.inj hx
 have hsteps:∀S:Nat->Bool,(aA L X 0 S).length=L.length:=fun S=>du L X 0 S hX
 have hsg:∀(S:Nat->Bool) (i:Nat) (hi:i<(aA L X 0 S).length) (h1:i<L.length),(aA L X 0 S)[i]=(L[i].dst,X[i]'(by omega),S i):=fun S i hi h1=>by
  have:=dt L X 0 S i hi h1 (by omega);simpa using this
 refine⟨fun t ht=>?_,fun t=>?_⟩
 .refine bG _ _ ρ t (by rw[hsteps,hsteps]) (fun j g1 g2=>?_);rw[hsteps]at g1;rw[hsg _ j (by rw[hsteps];exact g1) g1,hsg _ j (by rw[hsteps];exact g1) g1];refine⟨rfl,rfl,fun hd=>?_⟩;by_cases e:j=i
  .subst e;rw[hSi];simp
  .exact(hsame t (by simp[ht]) j _ (Py g1) e hd).symm
 .rw[bZ];split
  .rename_i e
   have:=eU (aA L X 0 fun j=>j==i||S j) ρ i (by rw[hsteps];exact hi) t (by rw[hsg _ i _ hi,hoi];exact e) (by rw[hsg _ i _ hi];simp) (fun j hj hij hd=>by
    rw[hsteps]at hj;rw[hsg _ j _ hj]at hd ⊢;simp only at hd ⊢;rw[hsame t (by simp[e]) j _ (Py hj) (by omega) hd];simp;omega)
   rw[this,hsg _ i _ hi,hxi]
  .rename_i e;refine bG _ _ ρ t (by rw[hsteps,hsteps]) (fun j g1 g2=>?_);rw[hsteps]at g1;rw[hsg _ j (by rw[hsteps];exact g1) g1,hsg _ j (by rw[hsteps];exact g1) g1];refine⟨rfl,rfl,fun hd=>?_⟩;simp only at hd ⊢;have hne:j≠i:=fun ee=>by subst ee;rw[hoi]at hd;exact e hd
   simp[hne]
theorem uz{M0:ao}{bm0:List Nat}{w0:World}(hG:C.glob M0 pr w0){id:Nat}{ops:Array Oper}{pre:List O}{x:X}{M:ao}{bm:List Nat}{tk:be}{a:Act}{w:World}(hok:eX C.tab n ops (pre++[⟨none,.pan x,none⟩]) ops.toList=true)(hdr:mq (pre.length-1) 0 (pre++[⟨none,.pan x,none⟩]) ops.toList=true)(hnp:1≤pre.length)
 (hl:Later M0 bm0 pr w0 M bm w)(h:SRel M bm tk pr ρ σ n a w)(hq:aQ C pre ρ σ fun ρ'=>∃ty u,ev C ρ' x=.iface ty u/\∀ρ2,Q (.panic (.iface ty u)) ρ2 σ):
 (Code.region id ops true).wp C.P (aY M0 bm0 pr w0 n Q) a w:=by
 obtain⟨hlen,hget⟩:=fr hok;have D:=vO hdr;obtain⟨xs,hxl,⟨ρ1,⟨ty,u,he,hQ⟩,hρe⟩,hloc⟩:=mB (k:=0) hq;have gpre:∀i (hi:i<pre.length),(pre++[(⟨none,.pan x,none⟩:O)])[i]? = some pre[i]:=fun i hi=>by rw[PJ hi,Py hi]
 have gpan:(pre++[(⟨none,.pan x,none⟩:O)])[pre.length]? = some ⟨none,.pan x,none⟩:=by rw[PU (P0 _)];simp
 have hLl:(pre++[(⟨none,.pan x,none⟩:O)]).length=pre.length+1:=by simp
 have conv:∀S,aD (aA (pre++[(⟨none,.pan x,none⟩:O)]) (xs++[.junk]) 0 S) ρ=aD (aA pre xs 0 S) ρ:=fun S=>by
  rw[qT hxl,em];simp only[aA,aD,putd];split<;>rfl
 generalize hL:pre++[(⟨none,.pan x,none⟩:O)]=L at *;obtain⟨X,hX⟩:∃X,X=xs++[V.junk]:=⟨_,rfl⟩
 rw[<-hX]at conv
 have hXl:X.length=L.length:=by rw[hLl,hX];simp[hxl]
 have xpre:∀i (hi:i<xs.length),X[i]? = some xs[i]:=fun i hi=>by rw[hX,PJ hi,Py hi]
 have hnl:L.length=ops.size:=by rw[hlen];simp
 refine nk (M:=M) (bm:=bm) (tk:=tk) (fun S=>aD (aA L X 0 S) ρ) (fun _=>σ) ρ σ (fun S=>S pre.length=false) rfl (fun S S' hS hI=>by rw[<-hS _ (by omega)];exact hI) D.lt (fun S S' hS=>⟨fun t=>?_,rfl⟩) hl ?_ (fun hI=>by cases hI) ?_
 .show get (aD (aA L X 0 S) ρ) t=get (aD (aA L X 0 S') ρ) t;rw[lv (l:=L) (xs:=X) (k:=0) (S:=S) (S':=S') fun j _ hj=>hS j (by omega)]
 .exact h.congr fun t=>Bi (qO fun _ _=>rfl) ρ t
 intro S i o' ho' hSi hclo hedge hI M bm tk a w hl h;have hi1:i<ops.toList.length:=(List.getElem?_eq_some_iff.1 ho').1;have hi2:i<L.length:=by omega
 have hbef:∀j∈(aM ops.toList []).getD i [],S j=true:=bP D.lt (S:=fun j=>S j=true) hclo i o' ho' hedge
 have hbefj:∀q,q<L.length->S q=true->∀j∈(aM ops.toList []).getD q [],S j=true:=fun q hq hSq=>by
  have hq2:ops.toList[q]? = some ops.toList[q]:=Py (by omega);exact bP D.lt (S:=fun j=>S j=true) hclo q _ hq2 (hclo q _ hq2 hSq)
 have hsame:∀o,L[i]? = some o->∀t∈o.looksN++o.dst.toList,∀(j:Nat) (q:O),L[j]? = some q->j≠i->q.dst=some t->S j=decide (j<i):=by
  intro o hlo t ht j q hj hne hd;rcases D.cmp i o hlo t ht j q hj hd hne with⟨g1,g2⟩|⟨g1,g2⟩
  .rw[hbef j g2];simp[g1]
  .have:¬S j=true:=fun hjl=>by
    have:=hbefj j (List.getElem?_eq_some_iff.1 hj).1 hjl i g2;rw[hSi]at this;cases this
   have e:S j=false:=by simpa using this
   rw[e];simp;omega
 by_cases c1:i<pre.length
 .obtain⟨ρi,g2,g1⟩:=hloc i c1 (by omega);simp only[PZ]at g1;obtain⟨hgl,hn⟩:=Kq hXl ρ (gpre i c1) (xpre i (by omega)) hSi (hsame _ (gpre i c1))
  have hI':(pre.length==i||S pre.length)=false:=by
   have:(pre.length==i)=false:=by simp;omega
   rw[this,hI];rfl
  have:=uM (Q:=Q) (hG.mono hl) h (hget i _ o' (gpre i c1) ho') (g2.congr fun t ht=>by rw[g1 t,<-conv];exact hgl t (yT _ t ht));split at this
  .rename_i hw;rw[if_pos hw];exact Oper.wp_mono2 (fun a' w' ⟨M',bm',tk',ρ',σ',⟨k1,k2⟩,k3,k4⟩=>⟨M',bm',tk',ρ',σ',⟨fun t=>by rw[k1];exact(hn t).symm,k2,hI'⟩,k3,k4⟩) (fun e a' w' hh=>hh) this
  .rename_i hw;rw[if_neg hw];exact⟨this.congr fun t=>hn t,hI'⟩
 .have c2:i=pre.length:=by omega
  subst c2;have hoo:=hget pre.length _ o' gpan ho'
  have hwant:Region.wanted o' (yielded ops a.tmps)=true:=by
   have hgd:=hoo;unfold okO at hgd;simp only[Pk]at hgd;replace hgd:=hgd.2;split at hgd
   .rename_i hg2;simp[Region.wanted,hg2]
   .rename_i e _;cases e
   .cases hgd
  have hev:ev C (aD (aA L X 0 S) ρ) x=.iface ty u:=by
   rw[<-he];refine bz fun t _=>?_;rw[hρe t,conv,lv (l:=pre) (xs:=xs) (k:=0) (S:=S) (S':=fun _=>true) fun j _ hj=>hbef j (by have:=D.last j (by omega);rwa[show pre.length-1+1+0=pre.length by omega]at this)]
  rw[if_pos hwant];refine Oper.wp_mono2 (fun a' w' ⟨M',bm',tk',ρ',σ',hf,k3,k4⟩=>hf.elim) (fun e a' w' hh=>hh) (bO (K:=fun _ _=>False) (Q:=Q) (hG.mono hl) h hoo ?_);simp only[cw,hev];exact hQ _
end
end Go.Proofs.YtnhphlmblenapaaGreatDoor
namespace Go.Proofs.YtnhphlmblenapaaGreatDoor
open Go.RowKit
inductive GK where
 | free (lo:Nat)
 | calm (lo hi:Nat)
 | slot (lo:Nat)
 | act
def GK.isAct:GK->Bool
 | .act=>true
 | _=>false
def OP.w1:OP->Option Nat
 | .mvo t=>some t
 | .app _ _ _ t _=>some t
 | .stoo _ t=>some t
 | _=>none
def OP.slotsG:OP->List Nat
 | .mvo t=>[t]
 | .app _ _ _ t y=>t::y.slots
 | .mkso _ _ xs=>xs.flatMap X.slots
 | .mkc _ _ _ x=>x.slots
 | .box _ x=>x.slots
 | .sto _ x y=>x.slots++y.slots
 | .stoo x t=>t::x.slots
 | .ldo x=>x.slots
 | .appv _ _ _ t y=>t::y.slots
 | .mst _ x y z=>x.slots++(y.slots++z.slots)
 | op=>op.slots
def O.looksG(o:O):List Nat:=o.op.slotsG++(match o.g with|some (t,_)=>[t]|none=>[])
def OP.isFree:OP->Bool
 | .load _ _ _ | .mlk _ _ _ _ _ | .call _ _ | .callv _ _ | .calln _ _=>false
 | .mks _ _ _=>true
 | op=>ba op
def OP.isCalm:OP->Bool
 | .call _ _ | .callv _ _ | .calln _ _ | .mks _ _ _=>true
 | op=>ba op
def OP.isSlot:OP->Bool
 | .mvo _ | .nilo _ _ | .app _ _ _ _ _ | .mkso _ _ _ | .mkc _ _ _ _=>true
 | _=>false
def OP.isActG:OP->Option Nat->Bool
 | .sto _ _ _,d=>d.isNone
 | .stoo _ _,d=>d.isNone
 | .mst _ _ _ _,d=>d.isNone
 | .new _ _,_ | .box _ _,_ | .ldo _,_ | .call _ _,_ | .callv _ _,_=>true
 | _,_=>false
section
variable {C : Cx} {pr : Prot} {ρ : ac} {σ : LLV} {n : Nat} {Q : AEx -> ac -> LLV -> Prop}
theorem p5{o:O}(h:o.op.isCalm=true):o.looks=o.looksG:=by
 unfold O.looks O.looksG
 have:o.op.slots=o.op.slotsG:=by
  cases ho:o.op<;>rw[ho]at h<;>first|rfl|(simp[OP.isCalm,ba]at h)
 rw[this]<;>(cases o.g<;>rfl)
theorem Gk{op:OP}(h:op.isFree=true)(σ σ2:LLV):pv C op ρ σ=pv C op ρ σ2:=by
 cases op<;>first|rfl|(simp[OP.isFree,ba]at h)
theorem qe{op:OP}(h:op.isFree=true){k:V->Prop}(σ2:LLV)(hc:aN C op ρ σ k):aN C op ρ σ2 k:=by
 unfold aN at hc;split at hc
 .cases h
 .cases h
 .exact hc
 .cases h
 .rename_i n1 n2 n3 n4;rw[Gk h σ σ2]at hc;unfold aN;split
  .exact absurd rfl (n1 _ _)
  .exact absurd rfl (n2 _ _)
  .exact absurd rfl (n3 _ _ _)
  .exact absurd rfl (n4 _ _)
  .exact hc
theorem Loc.free{o:O}(h:o.op.isFree=true){x:V}(σ2:LLV)(hc:Loc C o ρ σ x):Loc C o ρ σ2 x:=by
 unfold Loc at hc ⊢;split at hc
 .exact qe h σ2 hc
 .split at hc
  .exact⟨fun e=>qe h σ2 (hc.1 e),hc.2⟩
  .exact hc
  .exact hc.elim
def nX(C:Cx)(op:OP)(ρ:ac)(σ:LLV)(a b:V)(σ':LLV):Prop:=match op with
 | .mvo t=>∃T k rows,get ρ t=.own T k rows/\a=.d (.sl rows)/\b=.own T k rows/\σ'=σ
 | .nilo T k=>b=.own T k []/\σ'=σ
 | .app T k bytes t y=>∃rows rows2,get ρ t=.own T k rows/\eC (ev C ρ y)=some rows2/\(rows2.all (fun r=>r.length==k)=true/\(rows.length+rows2.length)*bytes≤140737488355328)/\a=.d (.sl rows)/\b=.own T k (rows++rows2)/\σ'=σ
 | .mkso T k xs=>∃rows,dh (xs.map (ev C ρ))=some rows/\rows.all (fun r=>r.length==k)=true/\b=.own T k rows/\σ'=σ
 | .mkc T k bytes x=>∃kd n,ev C ρ x=.d (.lit (.int kd n))/\(0≤n/\n*bytes≤140737488355328)/\b=.own T k []/\σ'=σ
 | .new _ cs=>b=.ptr σ.length 0/\σ'=σ++[cs]
 | .box _ x=>(ev C ρ x).boxable=true/\b=.ptr σ.length 0/\σ'=σ++[(ev C ρ x).cells]
 | .sto k x y=>∃i o cs,ev C ρ x=.ptr i o/\σ[i]? = some cs/\((ev C ρ y).boxable=true/\(ev C ρ y).cells.length=k/\o+k≤cs.length/\bT cs=true)/\σ'=σ.set i (over cs o (ev C ρ y).cells)
 | .stoo x t=>∃i o T k rows cs,ev C ρ x=.ptr i o/\get ρ t=.own T k rows/\σ[i]? = some cs/\(o<cs.length/\bT cs=true)/\a=.d (.sl rows)/\σ'=σ.set i (over cs o [.own T k rows])
 | .ldo x=>∃i o cs T k rows,ev C ρ x=.ptr i o/\σ[i]? = some cs/\cs[o]? = some (.own T k rows)/\b=.own T k rows/\σ'=σ.set i (cs.set o (.d (.sl rows)))
 | .mst st x k v=>∃kv key,jo st σ (ev C ρ x)=some kv/\nU st (ev C ρ k)=some key/\σ'=um σ st (nZ key (ev C ρ v).copy kv) (ev C ρ x)
 | .call f args=>Fun C f (args.map fun x=>(ev C ρ x).lend) σ (fun o σ''=>o=.ret b/\σ''=σ')
 | .callv x args=>∃f cap,ev C ρ x=.fn f cap/\Fun C f ((args.map fun x=>(ev C ρ x).lend)++cap) σ (fun o σ''=>o=.ret b/\σ''=σ')
 | _=>False
def ap(o:O)(w:V×V)(ρ:ac):ac:=putd (putd ρ o.op.w1 w.1) o.dst w.2
theorem pJ(o:O)(w:V×V)(ρ:ac)(t:Nat):get (ap o w ρ) t=if o.dst=some t then w.2 else if o.op.w1=some t then w.1 else get ρ t:=by
 unfold ap;rw[bZ,bZ]
theorem Dm{o:O}{a b:V}{σ':LLV}(hc:o.op.isSlot=true\/o.op.isActG o.dst=true)(h:nX C o.op ρ σ a b σ'):cw C o.op o.dst ρ σ (fun ρ' σ''=>ρ'=ap o (a,b) ρ/\σ''=σ') Q:=by
 obtain⟨d,op,g⟩:=o;unfold ap;cases op<;>simp only[nX]at h<;>simp only[cw,OP.w1,putd]<;>first|exact h.elim|skip
 case mvo t=>obtain⟨T,k,rows,h1,rfl,rfl,rfl⟩:=h;rw[h1];first|exact⟨rfl,rfl⟩|exact⟨trivial,trivial⟩
 case nilo=>obtain⟨rfl,rfl⟩:=h;first|exact⟨rfl,rfl⟩|exact⟨trivial,trivial⟩
 case app=>obtain⟨rows,rows2,h1,h2,h3,rfl,rfl,rfl⟩:=h;rw[h1,h2];exact⟨⟨rfl,rfl,h3⟩,rfl,rfl⟩
 case mkso=>obtain⟨rows,h1,h2,rfl,rfl⟩:=h;rw[h1];exact⟨h2,rfl,rfl⟩
 case mkc=>obtain⟨kd,m,h1,h2,rfl,rfl⟩:=h;rw[h1];exact⟨h2,rfl,rfl⟩
 case new=>obtain⟨rfl,rfl⟩:=h;first|exact⟨rfl,rfl⟩|exact⟨trivial,trivial⟩
 case box=>obtain⟨h1,rfl,rfl⟩:=h;first|exact⟨h1,rfl,rfl⟩|exact⟨h1,trivial,trivial⟩
 case sto=>
  have hd:d=none:=by simpa[OP.isSlot,OP.isActG]using hc
  subst hd;obtain⟨i,o,cs,h1,h2,h3,rfl⟩:=h;rw[h1];simp only[h2];first|exact⟨h3,rfl,rfl⟩|exact⟨h3,trivial,trivial⟩
 case stoo=>
  have hd:d=none:=by simpa[OP.isSlot,OP.isActG]using hc
  subst hd;obtain⟨i,o,T,k,rows,cs,h1,h2,h3,h4,rfl,rfl⟩:=h;rw[h1,h2];simp only[h3];first|exact⟨h4,rfl,rfl⟩|exact⟨h4,trivial,trivial⟩
 case ldo=>obtain⟨i,o,cs,T,k,rows,h1,h2,h3,rfl,rfl⟩:=h;rw[h1];simp only[h2,h3];first|exact⟨rfl,rfl⟩|exact⟨trivial,trivial⟩
 case mst=>
  have hd:d=none:=by simpa[OP.isSlot,OP.isActG]using hc
  subst hd;obtain⟨kv,key,h1,h2,rfl⟩:=h;rw[h1];simp only[h2];first|exact⟨rfl,rfl⟩|exact⟨trivial,trivial⟩
 case call=>exact h.mono fun o σ'' ⟨e1,e2⟩=>by subst e1;exact⟨rfl,e2⟩
 case callv=>
  obtain⟨f,cap,h1,h2⟩:=h;rw[h1];exact h2.mono fun o σ'' ⟨e1,e2⟩=>by subst e1;exact⟨rfl,e2⟩
theorem lc{o:O}(hc:o.op.isSlot=true\/(o.op.isActG o.dst=true/\(∀f args,o.op≠.call f args)/\∀x args,o.op≠.callv x args)){K:ac->LLV->Prop}(h:cw C o.op o.dst ρ σ K Q):∃a b σ',nX C o.op ρ σ a b σ'/\K (ap o (a,b) ρ) σ'/\(o.op.isSlot=true->σ'=σ):=by
 obtain⟨d,op,g⟩:=o;unfold ap;cases op<;>first|(exfalso;simp[OP.isSlot,OP.isActG]at hc;done)|skip
 all_goals simp only[cw]at h
 case mvo t=>
  split at h
  .rename_i T k rows e;exact⟨_,_,σ,⟨T,k,rows,e,rfl,rfl,rfl⟩,h,fun _=>rfl⟩
  .exact h.elim
 case nilo T k=>exact⟨.junk,_,σ,⟨rfl,rfl⟩,h,fun _=>rfl⟩
 case app T k bytes t y=>
  split at h
  .rename_i T' k' rows rows2 e1 e2;obtain⟨⟨rfl,rfl,h1⟩,h2⟩:=h;exact⟨_,_,σ,⟨rows,rows2,e1,e2,h1,rfl,rfl,rfl⟩,h2,fun _=>rfl⟩
  .exact h.elim
 case mkso=>
  split at h
  .rename_i rows e;exact⟨.junk,_,σ,⟨rows,e,h.1,rfl,rfl⟩,h.2,fun _=>rfl⟩
  .exact h.elim
 case mkc=>
  split at h
  .rename_i kd m e;exact⟨.junk,_,σ,⟨kd,m,e,h.1,rfl,rfl⟩,h.2,fun _=>rfl⟩
  .exact h.elim
 case new=>exact⟨.junk,_,_,⟨rfl,rfl⟩,h,fun e=>by cases e⟩
 case box=>exact⟨.junk,_,_,⟨h.1,rfl,rfl⟩,h.2,fun e=>by cases e⟩
 case sto=>
  have hd:d=none:=by simpa[OP.isSlot,OP.isActG]using hc
  subst hd;split at h
  .rename_i i o e;split at h
   .rename_i cs e2;exact⟨.junk,.junk,_,⟨i,o,cs,e,e2,h.1,rfl⟩,h.2,fun e=>by cases e⟩
   .exact h.elim
  .exact h.elim
 case stoo=>
  have hd:d=none:=by simpa[OP.isSlot,OP.isActG]using hc
  subst hd;split at h
  .rename_i i o T k rows e e1;split at h
   .rename_i cs e2;exact⟨_,.junk,_,⟨i,o,T,k,rows,cs,e,e1,e2,h.1,rfl,rfl⟩,h.2,fun e=>by cases e⟩
   .exact h.elim
  .exact h.elim
 case ldo=>
  split at h
  .rename_i i o e;split at h
   .rename_i cs e2;split at h
    .rename_i T k rows e3;exact⟨.junk,_,_,⟨i,o,cs,T,k,rows,e,e2,e3,rfl,rfl⟩,h,fun e=>by cases e⟩
    .exact h.elim
   .exact h.elim
  .exact h.elim
 case mst=>
  have hd:d=none:=by simpa[OP.isSlot,OP.isActG]using hc
  subst hd;split at h
  .rename_i kv key e1 e2;exact⟨.junk,.junk,_,⟨kv,key,e1,e2,rfl⟩,h,fun e=>by cases e⟩
  .exact h.elim
theorem vI{op:OP}{ρ ρ':ac}{a b:V}{σ':LLV}(h:∀t∈op.slotsG,get ρ t=get ρ' t)(hr:nX C op ρ σ a b σ'):nX C op ρ' σ a b σ':=by
 have e1:∀(x:X),(∀t∈x.slots,t∈op.slotsG)->ev C ρ x=ev C ρ' x:=fun x hx=>bz fun t ht=>h t (hx t ht);cases op<;>simp only[nX]at hr ⊢ <;>simp only[OP.slotsG,OP.slots]at h e1<;>first|exact hr.elim|exact hr|skip
 case mvo t=>rw[<-h t (by simp)];exact hr
 case app T k bytes t y=>rw[<-h t (by simp),<-e1 y (fun t ht=>by simp[ht])];exact hr
 case mkso=>rw[<-je h];exact hr
 case mkc x=>rw[<-e1 x (fun t ht=>ht)];exact hr
 case box x=>rw[<-e1 x (fun t ht=>ht)];exact hr
 case sto x y=>rw[<-e1 x (fun t ht=>by simp[ht]),<-e1 y (fun t ht=>by simp[ht])];exact hr
 case stoo x t=>rw[<-h t (by simp),<-e1 x (fun t ht=>by simp[ht])];exact hr
 case ldo x=>rw[<-e1 x (fun t ht=>ht)];exact hr
 case mst st x y z=>rw[<-e1 x (fun t ht=>by simp[ht]),<-e1 y (fun t ht=>by simp[ht]),<-e1 z (fun t ht=>by simp[ht])];exact hr
 case call f args=>
  have:(args.map fun x=>(ev C ρ' x).lend)=args.map fun x=>(ev C ρ x).lend:=PF fun x hx=>by rw[e1 x fun t ht=>List.mem_flatMap.2 ⟨x,hx,ht⟩]
  rw[this];exact hr
 case callv y args=>
  have:(args.map fun x=>(ev C ρ' x).lend)=args.map fun x=>(ev C ρ x).lend:=PF fun x hx=>by rw[e1 x fun t ht=>PS _ (List.mem_flatMap.2 ⟨x,hx,ht⟩)]
  rw[this,<-e1 y (fun t ht=>by simp[ht])];exact hr
def zi(C:Cx)(op:OP)(ρ:ac)(σ:LLV)(P:V->LLV->Prop):Prop:=match op with
 | .call f args=>Fun C f (args.map fun x=>(ev C ρ x).lend) σ (fun o σ'=>∃u,o=.panic u/\P u σ')
 | .callv x args=>∃f cap,ev C ρ x=.fn f cap/\Fun C f ((args.map fun x=>(ev C ρ x).lend)++cap) σ (fun o σ'=>∃u,o=.panic u/\P u σ')
 | _=>False
theorem Ef{o:O}{P:V->LLV->Prop}(h:zi C o.op ρ σ P):cw C o.op o.dst ρ σ (fun _ _=>False) (fun e _ σ'=>∃u,e=.panic u/\P u σ'):=by
 obtain⟨d,op,g⟩:=o;cases op;case call=>exact Fun.mono h fun o σ'' ⟨u,e1,e2⟩=>by subst e1;exact⟨u,rfl,e2⟩
 case callv=>
  obtain⟨f,cap,h1,h2⟩:=h;simp only[cw];rw[h1];exact h2.mono fun o σ'' ⟨u,e1,e2⟩=>by subst e1;exact⟨u,rfl,e2⟩
 all_goals exact h.elim
theorem wR{op:OP}{ρ ρ':ac}{P:V->LLV->Prop}(h:∀t∈op.slotsG,get ρ t=get ρ' t)(hr:zi C op ρ σ P):zi C op ρ' σ P:=by
 have e1:∀(x:X),(∀t∈x.slots,t∈op.slotsG)->ev C ρ x=ev C ρ' x:=fun x hx=>bz fun t ht=>h t (hx t ht);cases op<;>simp only[zi]at hr ⊢ <;>simp only[OP.slotsG,OP.slots]at h e1<;>first|exact hr.elim|exact hr|skip
 case call f args=>
  have:(args.map fun x=>(ev C ρ' x).lend)=args.map fun x=>(ev C ρ x).lend:=PF fun x hx=>by rw[e1 x fun t ht=>List.mem_flatMap.2 ⟨x,hx,ht⟩]
  rw[this];exact hr
 case callv y args=>
  have:(args.map fun x=>(ev C ρ' x).lend)=args.map fun x=>(ev C ρ x).lend:=PF fun x hx=>by rw[e1 x fun t ht=>PS _ (List.mem_flatMap.2 ⟨x,hx,ht⟩)]
  rw[this,<-e1 y (fun t ht=>by simp[ht])];exact hr
structure PendG where
 o:O
 ρ:ac
 ρ':ac
 hi:Nat
def reG(C:Cx)(m:Nat)(σ':LLV):List PendG->Prop
 | []=>True
 | p::r=>(if m≤p.hi then aQ C [p.o] p.ρ σ' (fun ρ'=>ρ'=p.ρ')else True)/\reG C m σ' r
def l9(C:Cx)(o:O)(ρ ρ':ac):Nat->List LLV->Prop
 | 0,_=>True
 | _+1,[]=>False
 | k+1,σ::h=>aQ C [o] ρ σ (fun ρ''=>ρ''=ρ')/\l9 C o ρ ρ' k h
def ti(m hi:Nat)(x:PendG)(p:List PendG):List PendG:=if m<hi then x::p else p
def eT(C:Cx):List (O×GK)->Nat->List LLV->ac->LLV->Prop
 | [],_,_,_,_=>True
 | (o,.free lo)::r,m,h,ρ,σ=>if lo≤m then aQ C [o] ρ σ fun ρ'=>eT C r m h ρ' σ else eT C r m h (ap o (.junk,.junk) ρ) σ
 | (o,.calm lo _)::r,m,h,ρ,σ=>if lo≤m then aQ C [o] ρ σ fun ρ'=>l9 C o ρ ρ' (m-lo) h/\eT C r m h ρ' σ else eT C r m h (ap o (.junk,.junk) ρ) σ
 | (o,.slot lo)::r,m,h,ρ,σ=>if lo≤m then bM C [o] ρ σ (fun e ρ' _=>e=.normal/\eT C r m h ρ' σ)else eT C r m h (ap o (.junk,.junk) ρ) σ
 | (o,.act)::r,m,h,ρ,σ=>eT C r m h (ap o (.junk,.junk) ρ) σ
def eE(C:Cx)(P:V->LLV->Prop)(K:ac->LLV->Prop):List (O×GK)->Nat->List LLV->List PendG->ac->LLV->Prop
 | [],_,_,_,ρ,σ=>K ρ σ
 | (o,.free _)::r,m,h,p,ρ,σ=>aQ C [o] ρ σ fun ρ'=>eE C P K r m h p ρ' σ
 | (o,.calm lo hi)::r,m,h,p,ρ,σ=>aQ C [o] ρ σ fun ρ'=>l9 C o ρ ρ' (m-lo) h/\eE C P K r m h (ti m hi ⟨o,ρ,ρ',hi⟩ p) ρ' σ
 | (o,.slot _)::r,m,h,p,ρ,σ=>bM C [o] ρ σ fun e ρ' σ'=>e=.normal/\eE C P K r m h p ρ' σ'
 | (⟨d,.call f args,g⟩,.act)::r,m,h,p,ρ,σ=>
  (∃v σ1,Fun C f (args.map fun x=>(ev C ρ x).lend) σ (fun o σ'=>o=.ret v/\σ'=σ1)/\reG C (m+1) σ1 p/\eE C P K r (m+1) (σ::h) p (putd ρ d v) σ1)\/
  (Fun C f (args.map fun x=>(ev C ρ x).lend) σ (fun o σ'=>∃u,o=.panic u/\P u σ')/\eT C r m h (putd ρ d .junk) σ)
 | (⟨d,.callv x args,g⟩,.act)::r,m,h,p,ρ,σ=>∃f cap,ev C ρ x=.fn f cap/\
  ((∃v σ1,Fun C f ((args.map fun x=>(ev C ρ x).lend)++cap) σ (fun o σ'=>o=.ret v/\σ'=σ1)/\reG C (m+1) σ1 p/\eE C P K r (m+1) (σ::h) p (putd ρ d v) σ1)\/
  (Fun C f ((args.map fun x=>(ev C ρ x).lend)++cap) σ (fun o σ'=>∃u,o=.panic u/\P u σ')/\eT C r m h (putd ρ d .junk) σ))
 | (o,.act)::r,m,h,p,ρ,σ=>bM C [o] ρ σ fun e ρ' σ'=>e=.normal/\reG C (m+1) σ' p/\eE C P K r (m+1) (σ::h) p ρ' σ'
def cR:List (O×GK)->(Nat->V×V)->Nat->(Nat->Bool)->ac->ac
 | [],_,_,_,ρ=>ρ
 | e::l,W,k,S,ρ=>cR l W (k+1) S (if S k then ap e.1 (W k) ρ else ρ)
theorem lU:∀(l:List (O×GK)) (W:Nat->V×V) (k:Nat) (S:Nat->Bool) (ρ ρ':ac) (t:Nat),get ρ t=get ρ' t->get (cR l W k S ρ) t=get (cR l W k S ρ') t
 | [],_,_,_,_,_,_,h=>h
 | e::l,W,k,S,ρ,ρ',t,h=>by
  simp only[cR];apply lU l;cases S k
  .exact h
  .simp only[if_true,pJ,h]
def O.writes(o:O)(t:Nat):Prop:=o.dst=some t\/o.op.w1=some t
theorem gP:∀(l:List (O×GK)) (W:Nat->V×V) (k:Nat) (S S':Nat->Bool) (ρ:ac) (t:Nat),(∀i e,l[i]? = some e->e.1.writes t->S (k+i)=S' (k+i))->get (cR l W k S ρ) t=get (cR l W k S' ρ) t
 | [],_,_,_,_,_,_,_=>rfl
 | e::l,W,k,S,S',ρ,t,h=>by
  simp only[cR];rw[gP l W (k+1) S S' _ t fun i e' he hw=>by have:=h (i+1) e' (by simpa using he) hw;rwa[show k+(i+1)=k+1+i by omega]at this];apply lU;have h0:=h 0 e (by simp);by_cases hw:e.1.writes t
  .rw[show S k=S' k from h0 hw]
  .unfold O.writes at hw;have h1:¬e.1.dst=some t:=fun h=>hw (.inl h);have h2:¬e.1.op.w1=some t:=fun h=>hw (.inr h);cases S k<;>cases S' k<;>simp[pJ,h1,h2]
theorem vA:∀(l:List (O×GK)) (W W':Nat->V×V) (k:Nat) (S:Nat->Bool) (ρ:ac),(∀i,k≤i->W i=W' i)->cR l W k S ρ=cR l W' k S ρ
 | [],_,_,_,_,_,_=>rfl
 | e::l,W,W',k,S,ρ,h=>by
  simp only[cR];rw[h k (P0 _),vA l W W' (k+1) S _ fun i hi=>h i (by omega)]
theorem jp:∀(l:List (O×GK)) (W:Nat->V×V) (k:Nat) (S:Nat->Bool) (ρ:ac),(∀j,k≤j->S j=false)->cR l W k S ρ=ρ
 | [],_,_,_,_,_=>rfl
 | e::l,W,k,S,ρ,h=>by
  simp only[cR];rw[h k (P0 _),jp l W (k+1) S _ fun j hj=>h j (by omega)];rfl
theorem mE:∀(l:List (O×GK)) (W:Nat->V×V) (k:Nat) (ρ:ac) (i:Nat) (e:O×GK),l[i]? = some e->cR l W k (fun j=>decide (j<k+i+1)) ρ=ap e.1 (W (k+i)) (cR l W k (fun j=>decide (j<k+i)) ρ)
 | [],_,_,_,_,_,h=>by simp at h
 | e'::l,W,k,ρ,0,e,h=>by
  simp at h;subst h;simp only[cR];rw[jp _ _ _ _ _ (fun j hj=>by simp;omega),jp _ _ _ _ _ (fun j hj=>by simp;omega)];simp
 | e'::l,W,k,ρ,i+1,e,h=>by
  simp only[cR];have:=mE l W (k+1) ρ i e (by simpa using h);rw[if_pos (by simp;omega),if_pos (by simp)];have e1:k+(i+1)=k+1+i:=by omega
  rw[e1];exact mE l W (k+1) _ i e (by simpa using h)
theorem zx{l:List (O×GK)}(W:Nat->V×V)(ρ:ac){S:Nat->Bool}{i:Nat}{e:O×GK}(he:l[i]? = some e)(hSi:S i=false)
 (hsame:∀t,(t∈e.1.looksG\/e.1.writes t)->∀(j:Nat) (q:O×GK),l[j]? = some q->j≠i->q.1.writes t->S j=decide (j<i)):
 (∀t∈e.1.looksG,get (cR l W 0 (fun j=>decide (j<i)) ρ) t=get (cR l W 0 S ρ) t)/\
 ∀t,get (cR l W 0 (fun j=>j==i||S j) ρ) t=get (ap e.1 (W i) (cR l W 0 S ρ)) t:=by
 refine⟨fun t ht=>?_,fun t=>?_⟩
 .refine gP l W 0 _ _ ρ t fun j q hq hw=>?_;rw[PZ];by_cases e:j=i
  .subst e;rw[hSi];simp
  .exact(hsame t (.inl ht) j q hq e hw).symm
 .by_cases hw:e.1.writes t
  .have h1:=mE l W 0 ρ i e he;rw[PZ]at h1
   have h2:get (cR l W 0 (fun j=>j==i||S j) ρ) t=get (cR l W 0 (fun j=>decide (j<i+1)) ρ) t:=gP l W 0 _ _ ρ t fun j q hq hw'=>by
    rw[PZ];by_cases e:j=i
    .subst e;simp
    .simp only[hsame t (.inr hw) j q hq e hw'];have:(j==i)=false:=by simp[e]
     rw[this,Po,decide_eq_decide];omega
   rw[h2,h1,pJ,pJ];unfold O.writes at hw;split
   .rfl
   .rename_i h3;rw[if_pos (hw.resolve_left h3),if_pos (hw.resolve_left h3)]
  .have h1:¬e.1.dst=some t:=fun h=>hw (.inl h);have h2:¬e.1.op.w1=some t:=fun h=>hw (.inr h);rw[pJ,if_neg h1,if_neg h2];refine gP l W 0 _ _ ρ t fun j q hq hw'=>?_;rw[PZ]
   have:(j==i)=false:=by
    rw[beq_eq_false_iff_ne];intro ee;subst ee;rw[he]at hq;cases hq;exact hw hw'
   simp[this]
def nA:List (O×GK)->Nat->(Nat->Bool)->Nat
 | [],_,_=>0
 | e::l,k,S=>(if(e.2.isAct&&S k)=true then 1 else 0)+nA l (k+1) S
def nb:List (O×GK)->Nat->Nat
 | _,0=>0
 | [],_+1=>0
 | e::l,i+1=>(if e.2.isAct=true then 1 else 0)+nb l i
theorem me:∀(l:List (O×GK)) (k:Nat) (S S':Nat->Bool),(∀j,j<l.length->S (k+j)=S' (k+j))->nA l k S=nA l k S'
 | [],_,_,_,_=>rfl
 | e::l,k,S,S',h=>by
  simp only[nA];rw[show S k=S' k from h 0 (by simp),me l (k+1) S S' fun j hj=>by have:=h (j+1) (by simpa using hj);rwa[show k+(j+1)=k+1+j by omega]at this]
theorem vd:∀(l:List (O×GK)) (k:Nat),nA l k (fun _=>true)=nb l l.length
 | [],_=>rfl
 | e::l,k=>by simp only[nA,PG,nb,Pu];rw[vd l (k+1)]
theorem ss:∀(l:List (O×GK)) (k:Nat),nA l k (fun _=>false)=0
 | [],_=>rfl
 | e::l,k=>by simp only[nA,Ps];rw[ss l (k+1)];rfl
theorem GZ:∀(l:List (O×GK)) (k:Nat) (S:Nat->Bool) (c lo:Nat),(∀j e,l[j]? = some e->e.2.isAct=true->c+nb l j<lo->S (k+j)=true)->min lo (c+nb l l.length)≤c+nA l k S
 | [],k,S,c,lo,h=>by simp only[nA,PY,nb];omega
 | e::l,k,S,c,lo,h=>by
  simp only[nA,PG,nb]
  have ih:=fun c' (hc':∀j,c'+nb l j<lo->c+((if e.2.isAct=true then 1 else 0)+nb l j)<lo)=>GZ l (k+1) S c' lo (fun j e' he ha hn=>by
   have:=h (j+1) e' (by simpa using he) ha (by simp only[nb];exact hc' j hn);rwa[show k+(j+1)=k+1+j by omega]at this)
  cases ha:e.2.isAct with
  | false=>
   have:=ih c (fun j hn=>by simp only[ha];simp;omega);simp only[Pv];simp;omega
  | true=>
   have:=ih (c+1) (fun j hn=>by simp only[ha];simp;omega);by_cases hlt:c<lo
   .have h0:=h 0 e (by simp) ha (by simp only[nb];omega);simp only[P2]at h0;simp only[h0,Bool.and_self];simp;omega
   .omega
theorem GQ:∀(l:List (O×GK)) (k:Nat) (S:Nat->Bool) (c hi:Nat),(∀j e,l[j]? = some e->e.2.isAct=true->hi≤c+nb l j->S (k+j)=false)->c+nA l k S≤max c hi
 | [],k,S,c,hi,h=>by simp only[nA];omega
 | e::l,k,S,c,hi,h=>by
  simp only[nA]
  have ih:=fun c' (hc':∀j,hi≤c'+nb l j->hi≤c+((if e.2.isAct=true then 1 else 0)+nb l j))=>GQ l (k+1) S c' hi (fun j e' he ha hn=>by
   have:=h (j+1) e' (by simpa using he) ha (by simp only[nb];exact hc' j hn);rwa[show k+(j+1)=k+1+j by omega]at this)
  cases ha:e.2.isAct with
  | false=>
   have:=ih c (fun j hn=>by simp only[ha];simp;omega);simp only[Pv];simp;omega
  | true=>
   have:=ih (c+1) (fun j hn=>by simp only[ha];simp;omega);by_cases hlt:c<hi
   .split<;>omega
   .have h0:=h 0 e (by simp) ha (by simp only[nb];omega);simp only[P2]at h0;simp only[h0,Ps];simp;omega
theorem DM:∀(l:List (O×GK)) (k:Nat) (S:Nat->Bool) (i:Nat) (e:O×GK),l[i]? = some e->S (k+i)=false->nA l k (fun j=>j==k+i||S j)=nA l k S+if e.2.isAct=true then 1 else 0
 | [],_,_,_,_,h,_=>by simp at h
 | e'::l,k,S,0,e,h,hS=>by
  simp at h;subst h;simp only[P2]at hS ⊢;simp only[nA,hS,Ps,beq_self_eq_true,Pr,Pu]
  rw[me l (k+1) (fun j=>j==k||S j) S fun j hj=>by
   have:(k+1+j==k)=false:=by simp;omega
   simp[this]]
  simp;omega
 | e'::l,k,S,i+1,e,h,hS=>by
  simp only[nA];have e1:k+(i+1)=k+1+i:=by omega
  rw[e1]at hS ⊢;rw[DM l (k+1) S i e (by simpa using h) hS];have:(k==k+1+i)=false:=by simp;omega
  simp only[this,Po];omega
def lT(C:Cx)(P:V->LLV->Prop)(e:O×GK)(k z:Nat)(sq:Nat->LLV)(ρi:ac)(w:V×V):Prop:=match e.2 with
 | .free lo=>lo≤z->∀σ,Loc C e.1 ρi σ w.2
 | .calm lo hi=>lo≤z->∀q,lo≤q->q≤hi->q≤z->Loc C e.1 ρi (sq q) w.2
 | .slot lo=>lo≤z->∀σ,nX C e.1.op ρi σ w.1 w.2 σ
 | .act=>(k<z->nX C e.1.op ρi (sq k) w.1 w.2 (sq (k+1)))/\(k=z->zi C e.1.op ρi (sq z) P)
def jl(e:O×GK)(k:Nat):Bool:=match e.2 with
 | .free lo=>e.1.op.isFree&&e.1.op.isCalm&&decide (lo≤k)
 | .calm lo hi=>e.1.op.isCalm&&e.1.dst.isSome&&decide (lo≤k)&&decide (k≤hi)
 | .slot lo=>e.1.op.isSlot&&e.1.g.isNone&&decide (lo≤k)
 | .act=>e.1.op.isActG e.1.dst&&e.1.g.isNone
theorem pD{o:O}{K:ac->Prop}(h:aQ C [o] ρ σ K):∃x ρ',Loc C o ρ σ x/\K ρ'/\∀t,get ρ' t=get (putd ρ o.dst x) t:=by
 obtain⟨xs,hl,⟨ρ',h1,h2⟩,h3⟩:=mB (k:=0) h
 match xs,hl with
 | [x],_=>
  obtain⟨ρi,g1,g2⟩:=h3 0 (by simp) (by simp);refine⟨x,ρ',g1.congr fun t _=>?_,h1,fun t=>?_⟩
  .rw[g2 t];simp[aA,aD]
  .rw[h2 t];simp[aA,aD]
theorem oJ{o:O}{ρ':ac}{x:V}{d:Nat}(hd:o.dst=some d)(hg:∀t,get ρ' t=get (putd ρ o.dst x) t)(h:aQ C [o] ρ σ fun ρ''=>ρ''=ρ'):Loc C o ρ σ x:=by
 obtain⟨x2,ρ2,h1,rfl,h3⟩:=pD h;have h4:=h3 d;have h5:=hg d;rw[bZ,if_pos hd]at h4 h5;rw[<-h5,h4];exact h1
theorem xw{o:O}(h:o.op.isCalm=true):o.op.w1=none:=by
 cases ho:o.op<;>rw[ho]at h<;>first|rfl|(simp[OP.isCalm,ba]at h)
theorem oh{o:O}(h:o.op.isCalm=true)(a x:V)(ρ:ac):ap o (a,x) ρ=putd ρ o.dst x:=by
 unfold ap;rw[xw h];rfl
theorem pi{o:O}{ρ':ac}:∀{n:Nat} {h:List LLV},l9 C o ρ ρ' n h->∀r,r<n->∃σ,h[r]? = some σ/\aQ C [o] ρ σ fun ρ''=>ρ''=ρ'
 | 0,_,_,r,hr=>by omega
 | n+1,[],hb,_,_=>hb.elim
 | n+1,σ::h,hb,0,_=>⟨σ,rfl,hb.1⟩
 | n+1,σ::h,hb,r+1,hr=>by
  obtain⟨σ',h1,h2⟩:=pi hb.2 r (by omega);exact⟨σ',by simpa using h1,h2⟩
theorem Cr{m:Nat}{σ':LLV}:∀{p:List PendG},reG C m σ' p->∀q∈p,m≤q.hi->aQ C [q.o] q.ρ σ' fun ρ'=>ρ'=q.ρ'
 | [],_,_,hq,_=>by simp at hq
 | x::p,h,q,hq,hm=>by
  rcases List.mem_cons.1 hq with rfl|hq
  .have:=h.1;rwa[if_pos hm]at this
  .exact Cr h.2 q hq hm
theorem fJ{P:V->LLV->Prop}{e:O×GK}{l:List (O×GK)}{k m m' z:Nat}{sq:Nat->LLV}{ρ ρ2:ac}{w:V×V}{W:Nat->V×V}(hm:m'=m+if e.2.isAct=true then 1 else 0)
 (h0:lT C P e m z sq ρ w)(hρ2:∀t,get ρ2 t=get (ap e.1 w ρ) t)
 (ht:∀i (hi:i<l.length),∃ρi,(∀t,get ρi t=get (cR l W (k+1) (fun j=>decide (j<k+1+i)) ρ2) t)/\lT C P l[i] (m'+nb l i) z sq ρi (W (k+1+i))):
 ∀i (hi:i<(e::l).length),∃ρi,(∀t,get ρi t=get (cR (e::l) (fun i=>if i=k then w else W i) k (fun j=>decide (j<k+i)) ρ) t)/\lT C P (e::l)[i] (m+nb (e::l) i) z sq ρi (if k+i=k then w else W (k+i)):=by
 intro i hi;cases i with
 | zero=>
  refine⟨ρ,fun t=>?_,?_⟩
  .rw[jp _ _ _ _ _ fun j hj=>by simp;omega]
  .simpa[nb]using h0
 | succ i=>
  obtain⟨ρi,g1,g2⟩:=ht i (by simpa using hi);refine⟨ρi,fun t=>?_,?_⟩
  .rw[g1 t];simp only[cR,if_pos (show decide (k<k+(i+1))=true by simp),if_true];rw[vA l (fun i=>if i=k then w else W i) W (k+1) _ _ fun j hj=>if_neg (by omega),show k+(i+1)=k+1+i by omega];exact lU _ _ _ _ _ _ _ (hρ2 t)
  .simp only[PW,nb];have hne:¬(k+(i+1)=k):=by omega
   simp only[if_neg hne];rw[show k+(i+1)=k+1+i by omega,<-P3,<-hm];exact g2
theorem lZ{P:V->LLV->Prop}{m:Nat}{h:List LLV}{sq:Nat->LLV}(hs:sq m=σ)(hh:∀r,r<m->h[r]? = some (sq (m-1-r))):∀(l:List (O×GK)) (k c:Nat) (ρ:ac),m<c->(∀i e,l[i]? = some e->jl e (c+nb l i)=true)->eT C l m h ρ σ->
 ∃W:Nat->V×V,∀i (hi:i<l.length),∃ρi,(∀t,get ρi t=get (cR l W k (fun j=>decide (j<k+i)) ρ) t)/\lT C P l[i] (c+nb l i) m sq ρi (W (k+i))
 | [],_,_,_,_,_,_=>⟨fun _=>(.junk,.junk),fun i hi=>by simp at hi⟩
 | (o,g)::l,k,c,ρ,hmc,hok,hp=>by
  have hok0:=hok 0 _ rfl;simp only[nb,P2]at hok0
  have hokt:∀c',c'=c+(if g.isAct=true then 1 else 0)->∀i e,l[i]? = some e->jl e (c'+nb l i)=true:=fun c' hc' i e he=>by
   have:=hok (i+1) e (by simpa using he);simp only[nb]at this;rw[hc',P3];exact this
  have skip:∀c',c'=c+(if g.isAct=true then 1 else 0)->lT C P (o,g) c m sq ρ (.junk,.junk)->eT C l m h (ap o (.junk,.junk) ρ) σ->∃W:Nat->V×V,∀i (hi:i<((o,g)::l).length),∃ρi,(∀t,get ρi t=get (cR ((o,g)::l) W k (fun j=>decide (j<k+i)) ρ) t)/\lT C P ((o,g)::l)[i] (c+nb ((o,g)::l) i) m sq ρi (W (k+i)):=fun c' hc' h0 hr=>by
   obtain⟨W,hW⟩:=lZ hs hh l (k+1) c' (ap o (.junk,.junk) ρ) (by omega) (hokt c' hc') hr;exact⟨_,fJ hc' h0 (fun _=>rfl) hW⟩
  cases g with
  | free lo=>
   simp only[eT]at hp;simp only[jl,Pk]at hok0;split at hp
   .obtain⟨x,ρ',h1,h2,h3⟩:=pD hp;obtain⟨W,hW⟩:=lZ hs hh l (k+1) c ρ' hmc (hokt c rfl) h2;exact⟨_,fJ (e:=(o,.free lo)) (w:=(.junk,x)) rfl (fun _ σ2=>h1.free hok0.1.1 σ2) (fun t=>by rw[h3 t,oh hok0.1.2]) hW⟩
   .exact skip c rfl (fun hz=>absurd hz (by assumption)) hp
  | calm lo hi=>
   simp only[eT]at hp;simp only[jl,Pk,decide_eq_true_eq]at hok0;split at hp
   .rename_i hlo;obtain⟨x,ρ',h1,⟨h2,h4⟩,h3⟩:=pD hp;obtain⟨d,hd⟩:=Option.isSome_iff_exists.1 hok0.1.1.2;obtain⟨W,hW⟩:=lZ hs hh l (k+1) c ρ' hmc (hokt c rfl) h4;refine⟨_,fJ (e:=(o,.calm lo hi)) (w:=(.junk,x)) rfl (fun _ q q1 q2 q3=>?_) (fun t=>by rw[h3 t,oh hok0.1.1.1]) hW⟩;by_cases e:q=m
    .subst e;rw[hs];exact h1
    .obtain⟨σ',g1,g2⟩:=pi h2 (m-1-q) (by omega);rw[hh _ (by omega),show m-1-(m-1-q)=q by omega]at g1;cases g1;exact oJ hd h3 g2
   .exact skip c rfl (fun hz=>absurd hz (by assumption)) hp
  | slot lo=>
   simp only[eT]at hp;simp only[jl,Pk,P7]at hok0;split at hp
   .simp only[bM,hok0.1.2]at hp;obtain⟨a,b,σ',h1,⟨-,h2⟩,h3⟩:=lc (.inl hok0.1.1) hp;have hσ:=h3 hok0.1.1;rw[hσ]at h1;obtain⟨W,hW⟩:=lZ hs hh l (k+1) c _ hmc (hokt c rfl) h2;refine⟨_,fJ (e:=(o,.slot lo)) (w:=(a,b)) rfl (fun _ σ2=>?_) (fun t=>rfl) hW⟩;cases ho:o.op<;>rw[ho]at h1 hok0<;>first|(simp[OP.isSlot]at hok0;done)|skip
    all_goals (simp only[nX]at h1 ⊢;simpa using h1)
   .exact skip c rfl (fun hz=>absurd hz (by assumption)) hp
  | act=>
   simp only[eT]at hp;exact skip (c+1) rfl ⟨fun hz=>by omega,fun hz=>by omega⟩ hp
def ExG(C:Cx)(P:V->LLV->Prop)(K:ac->LLV->Prop)(l:List (O×GK))(k m:Nat)(p:List PendG)(ρ:ac)(sq0:Nat->LLV):Prop:=
 ∃(W:Nat->V×V) (sq:Nat->LLV) (z:Nat),(∀q,q≤m->sq q=sq0 q)/\m≤z/\z≤m+nb l l.length/\
  (∀q∈p,∀r,m<r->r≤z->r≤q.hi->aQ C [q.o] q.ρ (sq r) fun ρ'=>ρ'=q.ρ')/\
  (∀i (hi:i<l.length),∃ρi,(∀t,get ρi t=get (cR l W k (fun j=>decide (j<k+i)) ρ) t)/\lT C P l[i] (m+nb l i) z sq ρi (W (k+i)))/\
  (z=m+nb l l.length->∃ρf,K ρf (sq z)/\∀t,get ρf t=get (cR l W k (fun _=>true) ρ) t)
theorem rU{P:V->LLV->Prop}{K:ac->LLV->Prop}:∀(l:List (O×GK)) (k m:Nat) (h:List LLV) (p:List PendG) (ρ:ac) (σ:LLV) (sq0:Nat->LLV),sq0 m=σ->(∀r,r<m->h[r]? = some (sq0 (m-1-r)))->
 (∀i e,l[i]? = some e->jl e (m+nb l i)=true)->eE C P K l m h p ρ σ->
 ExG C P K l k m p ρ sq0
 | [],k,m,h,p,ρ,σ,sq0,hs,hh,hok,hg=>⟨fun _=>(.junk,.junk),sq0,m,fun _ _=>rfl,P0 _,by simp[nb],fun q hq r h1 h2=>by omega,fun i hi=>by simp at hi,fun _=>⟨ρ,by rw[hs];exact hg,fun _=>rfl⟩⟩
 | (o,g)::l,k,m,h,p,ρ,σ,sq0,hs,hh,hok,hg=>by
  have hok0:=hok 0 _ rfl;simp only[nb,P2]at hok0
  have hokt:∀c',c'=m+(if g.isAct=true then 1 else 0)->∀i e,l[i]? = some e->jl e (c'+nb l i)=true:=fun c' hc' i e he=>by
   have:=hok (i+1) e (by simpa using he);simp only[nb]at this;rw[hc',P3];exact this
  have fin:∀{W:Nat->V×V} {w:V×V} {ρ2:ac},(∀t,get ρ2 t=get (ap o w ρ) t)->∀{ρf:ac},(∀t,get ρf t=get (cR l W (k+1) (fun _=>true) ρ2) t)->∀t,get ρf t=get (cR ((o,g)::l) (fun i=>if i=k then w else W i) k (fun _=>true) ρ) t:=fun{W w ρ2} h1 {ρf} h2 t=>by
   simp only[cR,if_true];rw[h2 t,vA l (fun i=>if i=k then w else W i) W (k+1) _ _ fun j hj=>if_neg (by omega)];exact lU _ _ _ _ _ _ _ (h1 t)
  have calm:g.isAct=false->∀(p':List PendG) (ρ':ac) (w:V×V),(∀q∈p,q∈p')->(∀t,get ρ' t=get (ap o w ρ) t)->eE C P K l m h p' ρ' σ->
   (∀(sq:Nat->LLV) (z:Nat),m≤z->(∀q,q≤m->sq q=sq0 q)->(∀q∈p',∀r,m<r->r≤z->r≤q.hi->aQ C [q.o] q.ρ (sq r) fun ρ'=>ρ'=q.ρ')->lT C P (o,g) m z sq ρ w)->ExG C P K ((o,g)::l) k m p ρ sq0:=fun hna p' ρ' w hp hρ hr hf=>by
   obtain⟨W,sq,z,g1,g2,g3,g4,g5,g6⟩:=rU l (k+1) m h p' ρ' σ sq0 hs hh (hokt m (by simp[hna])) hr;have hn:nb ((o,g)::l) ((o,g)::l).length=nb l l.length:=by simp[nb,hna]
   exact⟨fun i=>if i=k then w else W i,sq,z,g1,g2,by rw[hn];exact g3,fun q hq=>g4 q (hp q hq),fJ (by simp[hna]) (hf sq z g2 g1 g4) hρ g5,fun hz=>by
    rw[hn]at hz;obtain⟨ρf,k1,k2⟩:=g6 hz;exact⟨ρf,k1,fin hρ k2⟩⟩
  have acts:g=.act->∀(ρ':ac) (w:V×V) (σ1:LLV),(∀t,get ρ' t=get (ap o w ρ) t)->nX C o.op ρ σ w.1 w.2 σ1->reG C (m+1) σ1 p->eE C P K l (m+1) (σ::h) p ρ' σ1->ExG C P K ((o,g)::l) k m p ρ sq0:=fun hg ρ' w σ1 hρ hE hre hr=>by
   subst hg
   obtain⟨W,sq,z,g1,g2,g3,g4,g5,g6⟩:=rU l (k+1) (m+1) (σ::h) p ρ' σ1 (fun q=>if q≤m then sq0 q else σ1) (if_neg (by omega)) (fun r hr=>by
    cases r with
    | zero=>simp[hs]
    | succ r=>
     have:=hh r (by omega);simp only[List.getElem?_cons_succ,this];rw[if_pos (by omega),show m+1-1-(r+1)=m-1-r by omega]) (hokt (m+1) rfl) hr
   have hn:m+nb ((o,.act)::l) ((o,GK.act)::l).length=m+1+nb l l.length:=by simp[nb,GK.isAct];omega
   have e1:∀q,q≤m->sq q=sq0 q:=fun q hq=>(g1 q (by omega)).trans (if_pos hq);have e2:sq (m+1)=σ1:=(g1 _ (P0 _)).trans (if_neg (by omega));refine⟨fun i=>if i=k then w else W i,sq,z,e1,by omega,by rw[hn];exact g3,fun q hq r h1 h2 h3=>?_,fJ (e:=(o,.act)) rfl ⟨fun _=>?_,fun hz=>by omega⟩ hρ g5,fun hz=>?_⟩
   .by_cases e:r=m+1
    .subst e;rw[e2];exact Cr hre q hq h3
    .exact g4 q hq r (by omega) h2 h3
   .rw[e2,e1 m (P0 _),hs];exact hE
   .rw[hn]at hz;obtain⟨ρf,k1,k2⟩:=g6 hz;exact⟨ρf,k1,fin hρ k2⟩
  have pans:g=.act->zi C o.op ρ σ P->eT C l m h (ap o (.junk,.junk) ρ) σ->ExG C P K ((o,g)::l) k m p ρ sq0:=fun hg hE hr=>by
   subst hg;obtain⟨W,hW⟩:=lZ (P:=P) (sq:=sq0) hs hh l (k+1) (m+1) _ (by omega) (hokt (m+1) rfl) hr;exact⟨fun i=>if i=k then(.junk,.junk)else W i,sq0,m,fun _ _=>rfl,P0 _,Nat.le_add_right _ _,fun q hq r h1 h2=>by omega,fJ (e:=(o,.act)) rfl ⟨fun hz=>by omega,fun _=>by rw[hs];exact hE⟩ (fun _=>rfl) hW,fun hz=>by simp[nb,GK.isAct]at hz⟩
  cases g with
  | free lo=>
   simp only[eE]at hg;simp only[jl,Pk]at hok0;obtain⟨x,ρ',h1,h2,h3⟩:=pD hg;exact calm rfl p ρ' (.junk,x) (fun _ h=>h) (fun t=>by rw[h3 t,oh hok0.1.2]) h2 fun sq z _ _ _ _ σ2=>h1.free hok0.1.1 σ2
  | calm lo hi=>
   simp only[eE]at hg;simp only[jl,Pk,decide_eq_true_eq]at hok0;obtain⟨x,ρ',h1,⟨h2,h4⟩,h3⟩:=pD hg;obtain⟨d,hd⟩:=Option.isSome_iff_exists.1 hok0.1.1.2;refine calm rfl _ ρ' (.junk,x) (fun q hq=>?_) (fun t=>by rw[h3 t,oh hok0.1.1.1]) h4 fun sq z hz hsq hpd _ q q1 q2 q3=>?_
   .unfold ti;split
    .exact List.mem_cons_of_mem _ hq
    .exact hq
   .by_cases e:q=m
    .subst e;rw[hsq q (P0 _),hs];exact h1
    .by_cases e2:q<m
     .obtain⟨σ',k1,k2⟩:=pi h2 (m-1-q) (by omega);rw[hh _ (by omega),show m-1-(m-1-q)=q by omega]at k1;cases k1;rw[hsq q (by omega)];exact oJ hd h3 k2
     .have:=hpd ⟨o,ρ,ρ',hi⟩ (by unfold ti;rw[if_pos (by omega)];simp) q (by omega) q3 q2;exact oJ hd h3 this
  | slot lo=>
   simp only[eE]at hg;simp only[jl,Pk,P7]at hok0;simp only[bM,hok0.1.2]at hg;obtain⟨a,b,σ',h1,⟨-,h2⟩,h3⟩:=lc (.inl hok0.1.1) hg;have hσ:=h3 hok0.1.1;rw[hσ]at h1 h2;refine calm rfl p _ (a,b) (fun _ h=>h) (fun _=>rfl) h2 fun sq z _ _ _ _ σ2=>?_;cases ho:o.op<;>rw[ho]at h1 hok0<;>first|(simp[OP.isSlot]at hok0;done)|skip
   all_goals (simp only[nX]at h1 ⊢;simpa using h1)
  | act=>
   simp only[jl,Pk,P7]at hok0;obtain⟨d,op,gd⟩:=o
   have det:(∀f args,op≠.call f args)->(∀x args,op≠.callv x args)->(bM C [⟨d,op,gd⟩] ρ σ fun e ρ' σ'=>e=.normal/\reG C (m+1) σ' p/\eE C P K l (m+1) (σ::h) p ρ' σ')->ExG C P K ((⟨d,op,gd⟩,.act)::l) k m p ρ sq0:=fun n1 n2 hg=>by
    simp only at hok0;simp only[bM,hok0.2]at hg;obtain⟨a,b,σ',h1,⟨-,h2,h4⟩,h3⟩:=lc (o:=⟨d,op,gd⟩) (.inr ⟨hok0.1,n1,n2⟩) hg;exact acts rfl _ (a,b) σ' (fun _=>rfl) h1 h2 h4
   cases op
   case call f args=>
    simp only[eE]at hg;rcases hg with⟨v,σ1,h1,h2,h3⟩|⟨h1,h2⟩
    .exact acts rfl _ (.junk,v) σ1 (fun _=>rfl) h1 h2 h3
    .exact pans rfl h1 h2
   case callv x args=>
    simp only[eE]at hg;obtain⟨f,cap,he,hg⟩:=hg;rcases hg with⟨v,σ1,h1,h2,h3⟩|⟨h1,h2⟩
    .exact acts rfl _ (.junk,v) σ1 (fun _=>rfl) ⟨f,cap,he,h1⟩ h2 h3
    .exact pans rfl ⟨f,cap,he,h1⟩ h2
   all_goals exact det (fun _ _ h=>by cases h) (fun _ _ h=>by cases h) (by simpa only[eE]using hg)
def O.wl(o:O):List Nat:=o.dst.toList++o.op.w1.toList
def loG(e:O×GK)(k:Nat):Nat:=match e.2 with
 | .free lo=>lo
 | .calm lo _=>lo
 | .slot lo=>lo
 | .act=>k
def hiG(e:O×GK)(k:Nat):Option Nat:=match e.2 with
 | .calm _ hi=>some hi
 | .act=>some k
 | _=>none
def mm(l:List (O×GK))(os:List Oper):Bool:=
 let bf:=aM os []
 ((PB os.length).all fun i=>match os[i]? with|some o=>(aB o).all fun j=>decide (j<i)|none=>true) &&
 ((PB l.length).all fun i=>match l[i]? with
   | some e=>jl e (nb l i)&&((PB l.length).all fun j=>j==i||(match l[j]? with
    | some q=>(!((e.1.looksG++e.1.wl).any fun t=>q.1.wl.contains t)||(if j<i then(bf.getD i []).contains j else(bf.getD j []).contains i)) &&
     (!q.2.isAct||((!decide (nb l j<loG e (nb l i))||(bf.getD i []).contains j)&&(match hiG e (nb l i)with|some hi=>!decide (hi≤nb l j)||(bf.getD j []).contains i|none=>true)))
    | none=>true))
   | none=>true)
structure OKG(l:List (O×GK))(os:List Oper):Prop where
 lt:∀(i:Nat) (o:Oper),os[i]? = some o->∀j∈aB o,j<i
 one:∀(i:Nat) (e:O×GK),l[i]? = some e->jl e (nb l i)=true
 cmp:∀(i:Nat) (e:O×GK),l[i]? = some e->∀t,(t∈e.1.looksG\/e.1.writes t)->∀(j:Nat) (q:O×GK),l[j]? = some q->j≠i->q.1.writes t->(j<i/\j∈(aM os []).getD i [])\/(i<j/\i∈(aM os []).getD j [])
 lo:∀(i:Nat) (e:O×GK),l[i]? = some e->∀(j:Nat) (q:O×GK),l[j]? = some q->j≠i->q.2.isAct=true->nb l j<loG e (nb l i)->j∈(aM os []).getD i []
 hi:∀(i:Nat) (e:O×GK),l[i]? = some e->∀(j:Nat) (q:O×GK),l[j]? = some q->j≠i->q.2.isAct=true->∀h,hiG e (nb l i)=some h->h≤nb l j->i∈(aM os []).getD j []
theorem rc{o:O}{t:Nat}:t∈o.wl↔o.writes t:=by
 unfold O.wl O.writes;simp[PO]
theorem vq{l:List (O×GK)}{os:List Oper}(h:mm l os=true):OKG l os:=by
 unfold mm at h;simp only[Pk]at h;obtain⟨h1,h2⟩:=h;simp only[Pz,PC]at h1 h2
 have two:∀(i:Nat) (e:O×GK),l[i]? = some e->jl e (nb l i)=true/\∀(j:Nat) (q:O×GK),l[j]? = some q->j≠i->_:=fun i e he=>by
  have:=h2 i (List.getElem?_eq_some_iff.1 he).1;rw[he]at this;simp only[Pk,Pz,PC]at this;refine⟨this.1,fun j q hq hne=>?_⟩;have h3:=this.2 j (List.getElem?_eq_some_iff.1 hq).1;rw[hq]at h3;have hne':(j==i)=false:=by simp[hne]
  rw[hne',Po,Pk]at h3;exact h3
 refine⟨fun i o ho j hj=>?_,fun i e he=>(two i e he).1,fun i e he t ht j q hq hne hw=>?_,fun i e he j q hq hne ha hlt=>?_,fun i e he j q hq hne ha hh eh hle=>?_⟩
 .have:=h1 i (List.getElem?_eq_some_iff.1 ho).1;rw[ho]at this;simpa using List.all_eq_true.1 this j hj
 .have h3:=((two i e he).2 j q hq hne).1
  have hany:((e.1.looksG++e.1.wl).any fun t=>q.1.wl.contains t)=true:=by
   rw[List.any_eq_true];refine⟨t,?_,by rw[List.contains_iff_mem];exact rc.2 hw⟩;rw[PO];exact ht.imp id rc.2
  rw[hany]at h3;simp only[Pt,Po]at h3;split at h3
  .exact .inl ⟨by assumption,by simpa using h3⟩
  .exact .inr ⟨by omega,by simpa using h3⟩
 .have h3:=((two i e he).2 j q hq hne).2;simp only[ha,Pt,Po,Pk,Pm,Pn,decide_eq_false_iff_not]at h3;rcases h3.1 with h4|h4
  .exact absurd hlt h4
  .simpa using h4
 .have h3:=((two i e he).2 j q hq hne).2;simp only[ha,Pt,Po,Pk,eh,Pm,Pn,decide_eq_false_iff_not]at h3;rcases h3.2 with h4|h4
  .exact absurd hle h4
  .simpa using h4
theorem xQ:∀(l:List (O×GK)) (i:Nat),nb l i≤nb l l.length
 | [],0=>P0 _
 | [],_+1=>P0 _
 | e::l,0=>P4 _
 | e::l,i+1=>by simp only[nb,PG];have:=xQ l i;omega
theorem GO:∀(l:List (O×GK)) (i:Nat) (e:O×GK),l[i]? = some e->e.2.isAct=true->nb l i<nb l l.length
 | [],_,_,h,_=>by simp at h
 | e'::l,0,e,h,ha=>by simp at h;subst h;simp only[nb,PG,ha];simp;omega
 | e'::l,i+1,e,h,ha=>by simp only[nb,PG];have:=GO l i e (by simpa using h) ha;omega
theorem sV{M0:ao}{bm0:List Nat}{w0:World}(hG:C.glob M0 pr w0){id:Nat}{ops:Array Oper}{l:List (O×GK)}{M:ao}{bm:List Nat}{tk:be}{a:Act}{w:World}(hok:eX C.tab n ops (l.map (·.1)) ops.toList=true)(hdr:mm l ops.toList=true)
 (hl:Later M0 bm0 pr w0 M bm w)(h:SRel M bm tk pr ρ σ n a w)
 (hq:eE C (fun u σ'=>∀ρ',Q (.panic u) ρ' σ') (fun ρ' σ'=>Q .normal ρ' σ') l 0 [] [] ρ σ):
 (Code.region id ops true).wp C.P (aY M0 bm0 pr w0 n Q) a w:=by
 obtain⟨hlen,hget⟩:=fr hok;have D:=vq hdr;have hnl:l.length=ops.size:=by have:=hlen;simp at this;exact this
 obtain⟨W,sq,z,e0,-,e2,-,facts,fin⟩:=rU l 0 0 [] [] ρ σ (fun _=>σ) rfl (fun r hr=>by omega) (fun i e he=>by rw[PZ];exact D.one i e he) hq;simp only[PZ]at e2 facts fin;have sq0:sq 0=σ:=e0 0 (P0 _)
 have fact:∀(i:Nat) (e:O×GK),l[i]? = some e->∃ρi,(∀t,get ρi t=get (cR l W 0 (fun j=>decide (j<i)) ρ) t)/\lT C (fun u σ'=>∀ρ',Q (.panic u) ρ' σ') e (nb l i) z sq ρi (W i):=fun i e he=>by
  obtain⟨hi,rfl⟩:=List.getElem?_eq_some_iff.1 he;exact facts i hi
 obtain⟨ρe,hρe⟩:∃ρe,∀t,get ρe t=get (cR l W 0 (fun _=>true) ρ) t:=⟨_,fun _=>rfl⟩
 have pick:∃ρf,(∀t,get ρf t=get (cR l W 0 (fun _=>true) ρ) t)/\(z=nb l l.length->Q .normal ρf (sq z)):=by
  by_cases hz:z=nb l l.length
  .obtain⟨ρf,k1,k2⟩:=fin hz;exact⟨ρf,k2,fun _=>k1⟩
  .exact⟨ρe,hρe,fun e=>absurd e hz⟩
 obtain⟨ρf,f1,f2⟩:=pick;refine nk (M:=M) (bm:=bm) (tk:=tk) (fun S=>cR l W 0 S ρ) (fun S=>sq (nA l 0 S)) ρf (sq (nb l l.length)) (fun S=>nA l 0 S≤z) (by rw[ss];exact P4 _) (fun S S' hS hI=>by rw[<-me l 0 S S' fun j hj=>by rw[PZ];exact hS j (by omega)];exact hI) D.lt (fun S S' hS=>⟨fun t=>?_,?_⟩) hl ?_ (fun hI=>?_) ?_
 .refine gP l W 0 S S' ρ t fun i e he _=>?_;rw[PZ];exact hS i (by have:=(List.getElem?_eq_some_iff.1 he).1;omega)
 .show sq _=sq _;rw[me l 0 S S' fun j hj=>by rw[PZ];exact hS j (by omega)]
 .rw[ss,sq0,jp _ _ _ _ _ fun _ _=>rfl];exact h
 .rw[vd]at hI;have hz:z=nb l l.length:=by omega
  refine⟨⟨f1,by rw[vd]⟩,?_⟩;have:=f2 hz;rwa[hz]at this
 intro S i o' ho' hSi hclo hedge hI M bm tk a w hl h;have hi1:i<ops.toList.length:=(List.getElem?_eq_some_iff.1 ho').1;have hi2:i<l.length:=by rw[hnl];simpa using hi1
 obtain⟨e,he⟩:∃e,l[i]? = some e:=⟨_,Py hi2⟩
 have hlo:(l.map (·.1))[i]? = some e.1:=by rw[List.getElem?_map,he];rfl
 have hoo:=hget i _ o' hlo ho';have hbef:∀j∈(aM ops.toList []).getD i [],S j=true:=bP D.lt (S:=fun j=>S j=true) hclo i o' ho' hedge
 have hbefj:∀q,q<l.length->S q=true->∀j∈(aM ops.toList []).getD q [],S j=true:=fun q hq hSq=>by
  have hq2:ops.toList[q]? = some (ops.toList[q]'(by simp;omega)):=Py _;exact bP D.lt (S:=fun j=>S j=true) hclo q _ hq2 (hclo q _ hq2 hSq)
 have hno:∀(j:Nat) (q:O×GK),l[j]? = some q->i∈(aM ops.toList []).getD j []->S j=false:=fun j q hj hm=>by
  have:¬S j=true:=fun hjl=>by
   have:=hbefj j (List.getElem?_eq_some_iff.1 hj).1 hjl i hm;rw[hSi]at this;cases this
  simpa using this
 have hsame:∀t,(t∈e.1.looksG\/e.1.writes t)->∀(j:Nat) (q:O×GK),l[j]? = some q->j≠i->q.1.writes t->S j=decide (j<i):=by
  intro t ht j q hj hne hw;rcases D.cmp i e he t ht j q hj hne hw with⟨g1,g2⟩|⟨g1,g2⟩
  .rw[hbef j g2];simp[g1]
  .rw[hno j q hj g2];simp;omega
 obtain⟨hgl,hn⟩:=zx W ρ he hSi hsame;obtain⟨ρi,g1,g2⟩:=fact i e he;have cg:∀t∈e.1.looksG,get ρi t=get (cR l W 0 S ρ) t:=fun t ht=>by rw[g1 t];exact hgl t ht
 have cgo:∀t∈e.1.op.slotsG,get ρi t=get (cR l W 0 S ρ) t:=fun t ht=>cg t (by unfold O.looksG;simp[ht]);have one:=D.one i e he;have hadd:=DM l 0 S i e he (by rw[PZ];exact hSi);simp only[PZ]at hadd
 have hlow:loG e (nb l i)≤nb l l.length->loG e (nb l i)≤nA l 0 S:=fun hle=>by
  have:=GZ l 0 S 0 (loG e (nb l i)) fun j q hj ha hlt=>by
   rw[PZ]at hlt ⊢;by_cases hne:j=i
   .subst hne;rw[he]at hj;cases hj;unfold loG at hlt;unfold GK.isAct at ha
    revert ha hlt
    cases e.2<;>simp
   .exact hbef j (D.lo i e he j q hj hne ha hlt)
  omega
 have hhigh:∀h,hiG e (nb l i)=some h->nA l 0 S≤h:=fun h eh=>by
  have:=GQ l 0 S 0 h fun j q hj ha hle=>by
   rw[PZ]at hle ⊢;by_cases hne:j=i
   .subst hne;exact hSi
   .exact hno j q hj (D.hi i e he j q hj hne ha h eh hle)
  omega
 have wantNone:e.1.g=none->Region.wanted o' (yielded ops a.tmps)=true:=fun hg=>by
  have hgd:=hoo;unfold okO at hgd;simp only[Pk]at hgd;replace hgd:=hgd.2;rw[hg]at hgd;split at hgd
  .rename_i hg2;simp[Region.wanted,hg2]
  .rename_i e _;cases e
  .cases hgd
 have wrapC:e.2.isAct=false->e.1.op.isCalm=true->Loc C e.1 ρi (sq (nA l 0 S)) (W i).2->
  if Region.wanted o' (yielded ops a.tmps)then o'.wp C.P a w (g8 M bm pr w n fun ρ' σ'=>(∀t,get ρ' t=get (cR l W 0 (fun j=>j==i||S j) ρ) t)/\σ'=sq (nA l 0 fun j=>j==i||S j)/\nA l 0 (fun j=>j==i||S j)≤z) (aY M bm pr w n Q)
  else SRel M bm tk pr (cR l W 0 (fun j=>j==i||S j) ρ) (sq (nA l 0 fun j=>j==i||S j)) n (a.put o'.dst undef) w/\nA l 0 (fun j=>j==i||S j)≤z:=fun hna hc hL=>by
  have e3:nA l 0 (fun j=>j==i||S j)=nA l 0 S:=by rw[hadd,hna];simp
  rw[e3];have hap:∀t,get (ap e.1 (W i) (cR l W 0 S ρ)) t=get (putd (cR l W 0 S ρ) e.1.dst (W i).2) t:=fun t=>by unfold ap;rw[xw hc];rfl
  have:=uM (Q:=Q) (hG.mono hl) h hoo (hL.congr fun t ht=>cg t (by rw[<-p5 hc];exact ht));split at this
  .rename_i hw;rw[if_pos hw];exact Oper.wp_mono2 (fun a' w' ⟨M',bm',tk',ρ',σ',⟨k1,k2⟩,k3,k4⟩=>⟨M',bm',tk',ρ',σ',⟨fun t=>by rw[k1,hn t,hap t],k2,hI⟩,k3,k4⟩) (fun e a' w' hh=>hh) this
  .rename_i hw;rw[if_neg hw];exact⟨this.congr fun t=>by rw[hn t,hap t],hI⟩
 have wrapE:e.1.g=none->(e.1.op.isSlot=true\/e.1.op.isActG e.1.dst=true)->nA l 0 (fun j=>j==i||S j)≤z->nX C e.1.op ρi (sq (nA l 0 S)) (W i).1 (W i).2 (sq (nA l 0 fun j=>j==i||S j))->
  if Region.wanted o' (yielded ops a.tmps)then o'.wp C.P a w (g8 M bm pr w n fun ρ' σ'=>(∀t,get ρ' t=get (cR l W 0 (fun j=>j==i||S j) ρ) t)/\σ'=sq (nA l 0 fun j=>j==i||S j)/\nA l 0 (fun j=>j==i||S j)≤z) (aY M bm pr w n Q)
  else SRel M bm tk pr (cR l W 0 (fun j=>j==i||S j) ρ) (sq (nA l 0 fun j=>j==i||S j)) n (a.put o'.dst undef) w/\nA l 0 (fun j=>j==i||S j)≤z:=fun hg hc hz hE=>by
  rw[if_pos (wantNone hg)];refine Oper.wp_mono2 (fun a' w' ⟨M',bm',tk',ρ',σ',⟨k1,k2⟩,k3,k4⟩=>⟨M',bm',tk',ρ',σ',⟨fun t=>by rw[k1,hn t],k2,hz⟩,k3,k4⟩) (fun e a' w' ⟨_,_,_,_,_,_,hf,_⟩=>hf.elim) (bO (Q:=fun _ _ _=>False) (hG.mono hl) h hoo (Dm hc (vI cgo hE)))
 obtain⟨o,g⟩:=e;cases g with
 | free lo=>
  simp only[jl,Pk,decide_eq_true_eq]at one;have:=hlow (by simp only[loG];have:=xQ l i;omega);exact wrapC rfl one.1.2 (g2 (by simp only[loG]at this;omega) _)
 | calm lo hi=>
  simp only[jl,Pk,decide_eq_true_eq]at one;have h1:=hlow (by simp only[loG];have:=xQ l i;omega);have h2:=hhigh hi rfl;simp only[loG]at h1;exact wrapC rfl one.1.1.1 (g2 (by omega) _ h1 h2 hI)
 | slot lo=>
  simp only[jl,Pk,P7,decide_eq_true_eq]at one;have h1:=hlow (by simp only[loG];have:=xQ l i;omega);simp only[loG]at h1;have e3:nA l 0 (fun j=>j==i||S j)=nA l 0 S:=by rw[hadd];simp[GK.isAct]
  exact wrapE one.1.2 (.inl one.1.1) (by rw[e3];exact hI) (by rw[e3];exact g2 (by omega) _)
 | act=>
  simp only[jl,Pk,P7]at one;have hlt:=GO l i _ he rfl;have h1:=hlow (by simp only[loG];omega);have h2:=hhigh _ rfl;simp only[loG]at h1;have hc:nA l 0 S=nb l i:=by omega
  have e3:nA l 0 (fun j=>j==i||S j)=nb l i+1:=by rw[hadd,hc];simp[GK.isAct]
  by_cases hz:nb l i<z
  .exact wrapE one.2 (.inr one.1) (by rw[e3];omega) (by rw[e3,hc];exact g2.1 hz)
  .have hzz:nb l i=z:=by omega
   have hp:=g2.2 hzz;rw[if_pos (wantNone one.2)];have hE:=Ef (o:=o) (wR (ρ':=cR l W 0 S ρ) cgo hp);rw[<-hzz,<-hc]at hE;refine Oper.wp_mono2 (fun a' w' ⟨M',bm',tk',ρ',σ',hf,k3,k4⟩=>hf.elim) (fun e a' w' ⟨M',bm',tk',ρ',σ',x,⟨u,k1,k2⟩,k3⟩=>⟨M',bm',tk',ρ',σ',x,by subst k1;exact k2 ρ',k3⟩) (bO (K:=fun _ _=>False) (Q:=fun e _ σ'=>∃u,e=.panic u/\∀ρ',Q (.panic u) ρ' σ') (hG.mono hl) h hoo hE)
end
end Go.Proofs.YtnhphlmblenapaaGreatDoor
namespace Go.Proofs.YtnhphlmblenapaaGreatDoor
open Go.RowKit
section
variable {C : Cx} {pr : Prot} {n : Nat} {Q : AEx -> ac -> LLV -> Prop}
theorem uC{M0:ao}{bm0:List Nat}{w0:World}{id:Nat}{ops:Array Oper}{M:ao}{bm:List Nat}{tk:be}{a:Act}{w:World}(R:(Nat->Bool)->ac->LLV->Prop){ρ0:ac}{σ0:LLV}
 (hlt:∀(i:Nat) (o:Oper),ops.toList[i]? = some o->∀j∈aB o,j<i)
 (hext:∀S S' ρ σ,(∀j,j<ops.size->S j=S' j)->R S ρ σ->R S' ρ σ)
 (hl:Later M0 bm0 pr w0 M bm w)(h:SRel M bm tk pr ρ0 σ0 n a w)(h0:R (fun _=>false) ρ0 σ0)
 (hq:∀ρ σ,R (fun _=>true) ρ σ->∃ρ2,Q .normal ρ2 σ/\∀t,get ρ t=get ρ2 t)
 (step:∀(S:Nat->Bool) (i:Nat) (o:Oper),ops.toList[i]? = some o->S i=false->(∀(j:Nat) (p:Oper),ops.toList[j]? = some p->S j=true->∀e∈aB p,S e=true)->(∀e∈aB o,S e=true)->
   ∀(M:ao) (bm:List Nat) (tk:be) (a:Act) (w:World) (ρ:ac) (σ:LLV),Later M0 bm0 pr w0 M bm w->R S ρ σ->SRel M bm tk pr ρ σ n a w->
    if Region.wanted o (yielded ops a.tmps)then o.wp C.P a w (g8 M bm pr w n (R fun j=>j==i||S j)) (aY M bm pr w n fun _ _ _=>False)
    else ∃ρ',R (fun j=>j==i||S j) ρ' σ/\SRel M bm tk pr ρ' σ n (a.put o.dst undef) w):
 (Code.region id ops true).wp C.P (aY M0 bm0 pr w0 n Q) a w:=by
 refine wp_region_any C.mixed ?_
 suffices H:∀(fuel:Nat) (listed:Array Bool) (M:ao) (bm:List Nat) (tk:be) (a:Act) (w:World) (ρ:ac) (σ:LLV),Later M0 bm0 pr w0 M bm w->R (fun i=>listed.getD i false) ρ σ->SRel M bm tk pr ρ σ n a w->listed.size=ops.size->
  (∀(i:Nat) (o:Oper),ops.toList[i]? = some o->listed.getD i false=true->∀j∈aB o,listed.getD j false=true)->(listed.toList.filter (! ·)).length=fuel->wpAny C.P .any ops (aY M0 bm0 pr w0 n Q) fuel listed a w by
  obtain⟨h1,h2⟩:=h.ext (cO.drew w)
  have hrep:∀j,(Pg ops.size false).getD j false=false:=fun j=>by
   simp only[Pa,Pi];split<;>rfl
  refine H ops.size (Pg ops.size false) M bm tk a w.drew ρ0 σ0 (hl.trans h2 (fun _ h=>h)) (hext _ _ _ _ (fun j _=>(hrep j).symm) h0) h1 (by simp) (fun i o ho hi=>?_) (by simp)
  .rw[hrep]at hi;cases hi
 intro fuel
 induction fuel with
 | zero=>
  intro listed M bm tk a w ρ σ hl hR h hsz hcl hcnt
  have hall:∀i,i<ops.size->listed.getD i false=true:=fun i hi=>by
   have hb:listed[i]? = some (listed[i]'(by omega)):=Pb _;rw[Pa,hb,P6];have hne:listed.toList.filter (! ·)=[]:=PH hcnt;have:=List.filter_eq_nil_iff.1 hne (listed[i]'(by omega)) (by simp);simpa using this
  obtain⟨ρ2,q1,q2⟩:=hq _ _ (hext _ _ _ _ hall hR);refine⟨?_,M,bm,tk,ρ2,σ,.normal,q1,.normal,h.congr fun t=>(q2 t).symm,hl⟩
  .unfold Region.ready;rw[PE];intro i hi;have hi':i<ops.size:=by simpa using hi
   have h9:=hall i hi'
   have:listed.getD i true=true:=by
    have hb:listed[i]? = some (listed[i]'(by omega)):=Pb _;rw[Pa,hb,P6]at h9 ⊢;exact h9
   simp[this]
 | succ fuel ih=>
  intro listed M bm tk a w ρ σ hl hR h hsz hcl hcnt;refine⟨fun hnil=>?_,fun i hi=>?_⟩
  .exfalso
   have hex:∃i,i<ops.size/\listed.getD i false=false:=by
    apply Px;intro hno
    have hne:listed.toList.filter (! ·)=[]:=by
     rw[PE];intro b hb;obtain⟨i,hi,rfl⟩:=PA hb;have hi':i<listed.size:=by simpa using hi
     have h9:¬listed.getD i false=false:=fun e=>hno ⟨i,by omega,e⟩;have hb:listed[i]? = some listed[i]:=Pb hi';rw[Pa,hb,P6]at h9;simpa using h9
    rw[hne]at hcnt;simp at hcnt
   have hmin:∃i,i<ops.size/\listed.getD i false=false/\∀j,j<i->listed.getD j false=true:=by
    obtain⟨i,h1,h2⟩:=hex
    induction i using P1 with
    | _ i ihm=>
    by_cases hj:∃j,j<i/\listed.getD j false=false
    .obtain⟨j,g1,g2⟩:=hj;exact ihm j g1 (by omega) g2
    .exact⟨i,h1,h2,fun j hji=>by
      cases hb:listed.getD j false with
      | true=>rfl
      | false=>exact absurd ⟨j,hji,hb⟩ hj⟩
   obtain⟨i,h1,h2,h3⟩:=hmin;have hio:i<ops.toList.length:=by simpa using h1
   have:i∈Region.ready .any ops listed:=by
    unfold Region.ready;rw[PD];refine⟨by simp;omega,?_⟩
    have ht:listed.getD i true=false:=by
     have hb:listed[i]? = some (listed[i]'(by omega)):=Pb _;rw[Pa,hb,P6]at h2 ⊢;exact h2
    have ho:ops[i]? = some (ops[i]'(by omega)):=Pb _;rw[ht,ho];simp only[Pp,Pq,P8,P6];rw[<-Ph,Pz];intro e he;cases hb:Region.binds .any e with
    | false=>rfl
    | true=>
     have:e.on∈aB (ops[i]'(by omega)):=by
      unfold aB;exact List.mem_map.2 ⟨e,List.mem_filter.2 ⟨he,hb⟩,rfl⟩
     simp[h3 e.on (hlt i _ (by rw[Py hio];simp) e.on this)]
   rw[hnil]at this;cases this
  .unfold Region.ready at hi;rw[PD]at hi;obtain⟨hir,hic⟩:=hi;have hi1:i<ops.size:=by simpa using hir
   have ho:ops[i]? = some ops[i]:=Pb hi1;have hoL:ops.toList[i]? = some ops[i]:=by rw[Pe];exact ho
   rw[ho]at hic;simp only[P8,P6,Pk,Pn]at hic;obtain⟨hun,hed⟩:=hic
   have hun':listed[i]? = some false:=by
    have hb:listed[i]? = some (listed[i]'(by omega)):=Pb _;rw[Pa,hb,P6]at hun;rw[hb,hun]
   have hunf:listed.getD i false=false:=by rw[Pa,hun'];rfl
   have hedge:∀j∈aB ops[i],listed.getD j false=true:=by
    intro j hj;unfold aB at hj;obtain⟨e,he,rfl⟩:=List.mem_map.1 hj;rw[PD]at he;rw[<-Ph,Pz]at hed;have:=hed e he.1;simpa[he.2]using this
   have hset:∀j,(listed.setIfInBounds i true).getD j false=(j==i||listed.getD j false):=fun j=>by
    rw[Pa,Pa];by_cases e:j=i
    .subst e;rw[Pd (by omega)];simp
    .rw[Pf (P5 e)];simp[e]
   have hnextcl:∀(q:Nat) (o:Oper),ops.toList[q]? = some o->(listed.setIfInBounds i true).getD q false=true->∀j∈aB o,(listed.setIfInBounds i true).getD j false=true:=by
    intro q o hqo hql j hj;rw[hset]at hql ⊢;simp only[Pm,beq_iff_eq]at hql ⊢;rcases hql with rfl|hql
    .rw[hoL]at hqo;cases hqo;exact .inr (hedge j hj)
    .exact .inr (hcl q o hqo hql j hj)
   have hnextc:((listed.setIfInBounds i true).toList.filter (! ·)).length=fuel:=by
    have:=iF listed.toList i (by rw[Pe];exact hun');rw[Pj];omega
   have hst:=step (fun j=>listed.getD j false) i ops[i] hoL hunf hcl hedge M bm tk a w ρ σ hl hR h;unfold wpOp;rw[ho];simp only;split at hst
   .rename_i hw;rw[if_pos hw];refine .inl (Oper.wp_mono2 (fun a' w' hL=>?_) (fun e a' w' hL=>?_) hst)
    .obtain⟨M',bm',tk',ρ',σ',k0,k2,k3⟩:=hL;exact ih _ M' bm' tk' a' w' ρ' σ' (hl.trans k3 (fun _ h=>h)) (hext _ _ _ _ (fun j _=>(hset j).symm) k0) k2 (by simp[hsz]) hnextcl hnextc
    .obtain⟨_,_,_,_,_,_,hf,_⟩:=hL;exact hf.elim
   .rename_i hw;rw[if_neg hw];obtain⟨ρ',k0,k2⟩:=hst;exact ih _ M bm tk _ w ρ' σ hl (hext _ _ _ _ (fun j _=>(hset j).symm) k0) k2 (by simp[hsz]) hnextcl hnextc
def gnx(F:ac->LLV->Prop):AEx->ac->LLV->Prop:=fun e ρ σ=>e=.normal/\F ρ σ
theorem IL{ρ:ac}{σ:LLV}{op:OP}{dst:Option Nat}{K:ac->LLV->Prop}{Q Q':AEx->ac->LLV->Prop}(hq:∀v ρ σ,Q (.panic v) ρ σ->Q' (.panic v) ρ σ)(h:cw C op dst ρ σ K Q):cw C op dst ρ σ K Q':=by
 have hout:∀(k:V->ac) (ρ:ac) (o':Out) (σ':LLV),(match o' with | .ret v=>K (k v) σ' | .panic v=>Q (.panic v) ρ σ')->(match o' with | .ret v=>K (k v) σ' | .panic v=>Q' (.panic v) ρ σ'):=by
  intro k ρ o' σ' hh;cases o' with
  | ret v=>exact hh
  | panic v=>exact hq _ _ _ hh
 unfold cw at h ⊢;cases op<;>(try simp only at h ⊢)
 case call f args=>exact h.mono (hout _ _)
 case callv x args=>generalize ev C ρ x=z at h ⊢;cases z<;>(try simp only at h ⊢)<;>first|exact h.elim|exact h.mono (hout _ _)
 case calln f args=>exact h.mono (hout _ _)
 case pan x=>generalize ev C ρ x=z at h ⊢;cases z<;>(try simp only at h ⊢)<;>first|exact h.elim|exact hq _ _ _ h
 all_goals exact h
def wv(σ:LLV)(x:V)(src:List V)(z:List V)(v:V)(σ1:LLV):Prop:=match x with
 | .nil=>∃c,1≤c/\v=.bsc σ.length 1 c/\σ1=σ++[src++cC z (c-1)]
 | .bsc i m c=>∃cs,σ[i]? = some cs/\((m+1≤c/\v=.bsc i (m+1) c/\σ1=σ.set i (over cs (m*z.length) src))\/
  (c<m+1/\∃c',m+1≤c'/\v=.bsc σ.length (m+1) c'/\σ1=σ++[(cs.take (m*z.length)).map V.copy++src++cC z (c'-(m+1))]))
 | _=>False
theorem zy{σ:LLV}{x:V}{src:List V}{bytes:Nat}{z:List V}{K:V->LLV->Prop}(h:iB σ x src bytes z K){v:V}{σ1:LLV}(ho:wv σ x src z v σ1):K v σ1:=by
 unfold iB at h;unfold wv at ho;cases x<;>simp only at h ho<;>first|exact h.elim|exact ho.elim|skip
 .obtain⟨c,h1,rfl,rfl⟩:=ho;exact h.2 c h1
 .obtain⟨cs,hs,ho⟩:=ho;rw[hs]at h;rcases ho with⟨h1,rfl,rfl⟩|⟨h1,c',h2,rfl,rfl⟩
  .exact h.2.1 h1
  .exact h.2.2 h1 c' h2
theorem yJ{σ:LLV}{x:V}{src:List V}{bytes:Nat}{z:List V}{K K':V->LLV->Prop}(h:iB σ x src bytes z K)(hk:∀v σ1,wv σ x src z v σ1->K' v σ1):iB σ x src bytes z K':=by
 unfold iB at h ⊢;cases x<;>simp only at h ⊢ <;>first|exact h.elim|skip
 .exact⟨h.1,fun c hc=>hk _ _ ⟨c,hc,rfl,rfl⟩⟩
 .rename_i i m c;cases hs:σ[i]? with
  | none=>rw[hs]at h;exact h.elim
  | some cs=>
   rw[hs]at h;exact⟨h.1,fun hc=>hk _ _ ⟨cs,hs,.inl ⟨hc,rfl,rfl⟩⟩,fun hc c' hc'=>hk _ _ ⟨cs,hs,.inr ⟨hc,c',hc',rfl,rfl⟩⟩⟩
structure AV where
 d:Nat
 T:Nat
 bytes:Nat
 z:List V
 s:Nat
 y:X
def AV.A(p:AV):O:=⟨some p.d,.appv p.T p.bytes p.z p.s p.y,none⟩
def mo(k:Nat)(l:List O)(os:List Oper):Bool:=
 let bf:=aM os []
 ((PB os.length).all fun i=>match os[i]? with|some o=>(aB o).all fun j=>decide (j<i)|none=>true) &&
 ((PB l.length).all fun i=>match l[i]? with
   | some o=>if i≤k then((o.looksG++o.dst.toList).all fun t=>(PB (k+1)).all fun j=>j==i||(match l[j]? with
    | some q=>q.dst != some t||(if j<i then(bf.getD i []).contains j else(bf.getD j []).contains i)
    | none=>true))&&(i==k||(o.op.isCalm&&((bf.getD k []).contains i||(o.op.isFree&&o.g.isNone))))
    else o.g.isNone&&(PB i).all fun j=>(bf.getD i []).contains j
   | none=>true)
structure OKT(k:Nat)(l:List O)(os:List Oper):Prop where
 lt:∀(i:Nat) (o:Oper),os[i]? = some o->∀j∈aB o,j<i
 cmp:∀(i:Nat) (o:O),l[i]? = some o->i≤k->∀t∈o.looksG++o.dst.toList,∀(j:Nat) (q:O),j≤k->l[j]? = some q->q.dst=some t->j≠i->(j<i/\j∈(aM os []).getD i [])\/(i<j/\i∈(aM os []).getD j [])
 calm:∀(i:Nat) (o:O),l[i]? = some o->i<k->o.op.isCalm=true/\(i∈(aM os []).getD k []\/o.op.isFree=true/\o.g=none)
 last:∀(i:Nat) (o:O),l[i]? = some o->k<i->o.g=none/\∀j,j<i->j∈(aM os []).getD i []
theorem wI{k:Nat}{l:List O}{os:List Oper}(h:mo k l os=true):OKT k l os:=by
 unfold mo at h;simp only[Pk]at h;obtain⟨h1,h2⟩:=h;simp only[Pz,PC]at h1 h2;refine⟨fun i o ho j hj=>?_,fun i o ho hi t ht j q hjk hp hd hne=>?_,fun i o ho hi=>?_,fun i o ho hi=>?_⟩
 .have:=h1 i (List.getElem?_eq_some_iff.1 ho).1;rw[ho]at this;simpa using List.all_eq_true.1 this j hj
 .have h1:=h2 i (List.getElem?_eq_some_iff.1 ho).1;rw[ho]at h1;simp only[if_pos hi,Pk,Pz,PC]at h1;have h3:=h1.1 t ht j (by omega);rw[hp]at h3;simp only[hd,Pm,beq_iff_eq,bne_self_eq_false,Pl,false_or]at h3;rcases h3 with h3|h3
  .exact absurd h3 hne
  .split at h3
   .exact .inl ⟨by assumption,by simpa using h3⟩
   .exact .inr ⟨by omega,by simpa using h3⟩
 .have h1:=h2 i (List.getElem?_eq_some_iff.1 ho).1;rw[ho]at h1;simp only[if_pos (Nat.le_of_lt hi),Pk,Pm,beq_iff_eq,P7]at h1;rcases h1.2 with h3|h3
  .omega
  .exact⟨h3.1,h3.2.imp (fun e=>by simpa using e) id⟩
 .have h1:=h2 i (List.getElem?_eq_some_iff.1 ho).1;rw[ho]at h1;simp only[if_neg (Nat.not_le.2 hi),Pk,Pz,PC,P7]at h1;exact⟨h1.1,fun j hj=>by simpa using h1.2 j hj⟩
theorem rk:∀(l l':List (Option Nat×V×Bool)) (ρ:ac),l.length=l'.length->(∀i (h:i<l.length) (h':i<l'.length),l[i].1=l'[i].1/\l[i].2.2=l'[i].2.2/\(l[i].2.2=true->l[i].2.1=l'[i].2.1))->aD l ρ=aD l' ρ
 | [],[],_,_,_=>rfl
 | (d,x,b)::r,(d',x',b')::r',ρ,hl,h=>by
  obtain⟨h1,h2,h3⟩:=h 0 (by simp) (by simp);simp only[PV]at h1 h2 h3;subst h1;subst h2
  have e:(if b=true then putd ρ d x else ρ)=if b=true then putd ρ d x' else ρ:=by
   cases b
   .rfl
   .rw[h3 rfl]
  simp only[aD];rw[e];exact rk r r' _ (by simpa using hl) fun i g1 g2=>h (i+1) (by simpa using g1) (by simpa using g2)
 | [],_::_,_,hl,_=>by simp at hl
 | _::_,[],_,hl,_=>by simp at hl
theorem o5:∀(l:List O) (xs:List V) (k:Nat) (S:Nat->Bool) (l2:List O) (xs2:List V),xs.length=l.length->aA (l++l2) (xs++xs2) k S=aA l xs k S++aA l2 xs2 (k+l.length) S
 | [],[],k,S,l2,xs2,_=>by simp[aA]
 | o::l,x::xs,k,S,l2,xs2,h=>by
  simp only[PT,aA,PG];rw[o5 l xs (k+1) S l2 xs2 (by simpa using h),show k+1+l.length=k+(l.length+1)by omega]
 | [],_::_,_,_,_,_,h=>by simp at h
 | _::_,[],_,_,_,_,h=>by simp at h
theorem t7{ρ:ac}{σ:LLV}{M0:ao}{bm0:List Nat}{w0:World}(hG:C.glob M0 pr w0){id:Nat}{ops:Array Oper}{l:List O}{p:AV}{m:List O}{M:ao}{bm:List Nat}{tk:be}{a:Act}{w:World}(hok:eX C.tab n ops (l++p.A::m) ops.toList=true)(hdr:mo l.length (l++p.A::m) ops.toList=true)
 (hl:Later M0 bm0 pr w0 M bm w)(h:SRel M bm tk pr ρ σ n a w)(hq:aQ C l ρ σ fun ρ1=>bM C (p.A::m) ρ1 σ (gnx fun ρ3 σ3=>Q .normal ρ3 σ3)):
 (Code.region id ops true).wp C.P (aY M0 bm0 pr w0 n Q) a w:=by
 obtain⟨hlen,hget⟩:=fr hok;have D:=wI hdr;obtain⟨xs,hxl,⟨ρf,hρf,hρe⟩,hloc⟩:=mB (k:=0) hq;unfold bM at hρf;simp only[AV.A,cw]at hρf;split at hρf;case h_2=>exact hρf.elim
 rename_i src f1;obtain⟨f2,f4⟩:=hρf;generalize hll:l++p.A::m=L at *;have hL2:L.length=l.length+1+m.length:=by rw[<-hll];simp;omega
 have hnl:L.length=ops.size:=by rw[hlen];simp
 have getp:∀i (h1:i<l.length) (h2:i<L.length),L[i]=l[i]:=fun i h1 h2=>by subst hll;exact PN h1
 have getA:∀(h2:l.length<L.length),L[l.length]=p.A:=fun h2=>by subst hll;simp
 have getm:∀j (h1:j<m.length) (h2:l.length+1+j<L.length),L[l.length+1+j]=m[j]:=fun j h1 h2=>by
  subst hll;rw[PM (by omega),List.getElem_cons,dif_neg (by omega)];congr 1;omega
 let st:V->(Nat->Bool)->List (Option Nat×V×Bool):=fun u S=>aA (l++[p.A]) (xs++[u]) 0 S;have hsteps:∀u S,(st u S).length=l.length+1:=fun u S=>by show(aA _ _ _ _).length=_;rw[du _ _ _ _ (by simp[hxl])];simp
 have hsa:∀u S,st u S=aA l xs 0 S++[(some p.d,u,S l.length)]:=fun u S=>by
  show aA (l++[p.A]) (xs++[u]) 0 S=_;rw[o5 l xs 0 S _ _ hxl,PZ];rfl
 have hsg:∀u (S:Nat->Bool) (i:Nat) (hi:i<(st u S).length) (h1:i<l.length),(st u S)[i]=(l[i].dst,xs[i]'(by omega),S i):=fun u S i hi h1=>by
  have:=dt (l++[p.A]) (xs++[u]) 0 S i hi (by simp;omega) (by simp;omega);rw[PZ,PN h1,PN (by omega)]at this;exact this
 have hsA:∀u (S:Nat->Bool) (hi:l.length<(st u S).length),(st u S)[l.length]=(some p.d,u,S l.length):=fun u S hi=>by
  have:=dt (l++[p.A]) (xs++[u]) 0 S l.length hi (by simp) (by simp;omega);rw[PZ,PM (P0 _),PM (by omega)]at this;simp only[hxl,Nat.sub_self,List.getElem_singleton]at this;exact this
 have hdst:∀u S i (hi:i<(st u S).length) (h1:i<L.length),(st u S)[i].1=L[i].dst/\(st u S)[i].2.2=S i:=fun u S i hi h1=>by
  rw[hsteps]at hi;by_cases e:i<l.length
  .rw[hsg u S i _ e,getp i e];exact⟨rfl,rfl⟩
  .obtain rfl:i=l.length:=by omega
   rw[hsA,getA];exact⟨rfl,rfl⟩
 have base:∀u S S',(∀j,j<l.length+1->S j=S' j)->∀t,get (aD (st u S) ρ) t=get (aD (st u S') ρ) t:=fun u S S' hS t=>by
  refine bG _ _ ρ t (by rw[hsteps,hsteps]) (fun i g1 g2=>?_);rw[hsteps]at g1;by_cases e:i<l.length
  .rw[hsg u S i _ e,hsg u S' i _ e];exact⟨rfl,rfl,fun _=>hS i g1⟩
  .obtain rfl:i=l.length:=by omega
   rw[hsA,hsA];exact⟨rfl,rfl,fun _=>hS _ g1⟩
 have ghost:∀u u' S,S l.length=false->aD (st u S) ρ=aD (st u' S) ρ:=fun u u' S hS=>by
  refine rk _ _ ρ (by rw[hsteps,hsteps]) fun i g1 g2=>?_;have g3:=g1;rw[hsteps]at g3;by_cases e:i<l.length
  .rw[hsg u S i _ e,hsg u' S i _ e];exact⟨rfl,rfl,fun _=>rfl⟩
  .obtain rfl:i=l.length:=by omega
   rw[hsA,hsA];exact⟨rfl,rfl,fun hh=>by rw[hS]at hh;cases hh⟩
 have atE:∀u t,get (aD (st u fun _=>true) ρ) t=get (put ρf p.d u) t:=fun u t=>by
  rw[hsa,em];simp only[aD,if_true,putd];rw[bg,bg,<-hρe t]
 let R:(Nat->Bool)->ac->LLV->Prop:=fun S ρ' σ'=>
  ((∃i,i<l.length+1/\S i=false)/\(∀j,j<m.length->S (l.length+1+j)=false)/\∃u σ1,(∀t,get ρ' t=get (aD (st u S) ρ) t)/\(S l.length=true->wv σ (get ρf p.s) src p.z u σ1)/\σ'=if S l.length=true then σ1 else σ)\/
  ((∀i,i<l.length+1->S i=true)/\∃k,k≤m.length/\(∀j,j<m.length->S (l.length+1+j)=decide (j<k))/\∃ρ2,(∀t,get ρ' t=get ρ2 t)/\bM C (m.drop k) ρ2 σ' (gnx fun ρ3 σ3=>Q .normal ρ3 σ3))
 have full:∀(S:Nat->Bool) ρ' σ',(∀j,j<m.length->S (l.length+1+j)=false)->(∃u σ1,(∀t,get ρ' t=get (aD (st u S) ρ) t)/\(S l.length=true->wv σ (get ρf p.s) src p.z u σ1)/\σ'=if S l.length=true then σ1 else σ)->R S ρ' σ':=fun S ρ' σ' h1 ⟨u,σ1,h2,h3,h4⟩=>by
  by_cases hall:∀i,i<l.length+1->S i=true
  .have hA:=hall l.length (by omega);rw[hA]at h4;simp only[if_true]at h4;subst h4;refine .inr ⟨hall,0,P4 _,fun j hj=>by rw[h1 j hj];simp,put ρf p.d u,fun t=>?_,zy f4 (h3 hA)⟩;rw[h2,<-atE];exact base u _ _ (fun j hj=>hall j hj) t
  .refine .inl ⟨?_,h1,u,σ1,h2,h3,h4⟩;apply Px;intro hno
   exact hall fun i hi=>by
    cases hb:S i with
    | true=>rfl
    | false=>exact absurd ⟨i,hi,hb⟩ hno
 have iA:l.length<L.length:=by omega
 refine uC (M:=M) (bm:=bm) (tk:=tk) R D.lt (fun S S' ρ' σ' hS hR=>?_) hl h (full _ _ _ (fun j _=>rfl) ⟨.junk,σ,(fun t=>?_),(fun e=>by cases e),by simp⟩) (fun ρ' σ' hR=>?_) ?_
 .rcases hR with⟨⟨i,h1,h2⟩,h3,u,σ1,h4,h5,h6⟩|⟨h1,k,h2,h3,h4⟩
  .exact .inl ⟨⟨i,h1,by rw[<-hS i (by omega)];exact h2⟩,fun j hj=>by rw[<-hS _ (by omega)];exact h3 j hj,u,σ1,fun t=>by rw[h4];exact base u S S' (fun j hj=>hS j (by omega)) t,by rw[<-hS _ (by omega)];exact h5,by rw[<-hS _ (by omega)];exact h6⟩
  .exact .inr ⟨fun i hi=>by rw[<-hS i (by omega)];exact h1 i hi,k,h2,fun j hj=>by rw[<-hS _ (by omega)];exact h3 j hj,h4⟩
 .rw[dJ];intro q hq hb;obtain⟨j,hj,rfl⟩:=PA hq;have hj2:=hj;rw[hsteps]at hj2;rw[(hdst _ _ j hj (by omega)).2]
 .rcases hR with⟨⟨i,h1,h2⟩,-⟩|⟨h1,k,h2,h3,ρ2,h4,h5⟩
  .cases h2
  .have hk:k=m.length:=by
    apply Px;intro hne;have:=h3 k (by omega);simp at this
   subst hk;rw[List.drop_length]at h5;exact⟨ρ2,h5.2,h4⟩
 intro S i o' ho' hSi hclo hedge M bm tk a w ρ' σ' hl hR hrel;have hi1:i<ops.toList.length:=(List.getElem?_eq_some_iff.1 ho').1;have hi2:i<L.length:=by omega
 have hlo:L[i]? = some L[i]:=Py hi2;have hbef:∀j∈(aM ops.toList []).getD i [],S j=true:=bP D.lt (S:=fun j=>S j=true) hclo i o' ho' hedge
 have hbefj:∀q,q<ops.toList.length->S q=true->∀j∈(aM ops.toList []).getD q [],S j=true:=fun q hq hSq=>by
  have hq2:ops.toList[q]? = some ops.toList[q]:=Py hq;exact bP D.lt (S:=fun j=>S j=true) hclo q _ hq2 (hclo q _ hq2 hSq)
 have hoo:=hget i _ o' hlo ho';have hgd:=hoo;unfold okO at hgd;simp only[Pk]at hgd;have hdst':L[i].dst=o'.dst:=by simpa using hgd.1.1.2
 have hdn:∀d,o'.dst=some d->d<n:=by
  intro d hd;have:=hgd.1.2;rw[hd]at this;simpa using this
 replace hgd:=hgd.2
 have hwant:L[i].g=none->Region.wanted o' (yielded ops a.tmps)=true:=fun hg=>by
  rw[hg]at hgd;split at hgd
  .rename_i hg2;simp[Region.wanted,hg2]
  .rename_i e _;cases e
  .cases hgd
 have done:∀(K:ac->LLV->Prop) (R':ac->LLV->Prop),(∀ρ'' σ'',K ρ'' σ''->R' ρ'' σ'')->o'.wp C.P a w (g8 M bm pr w n K) (aY M bm pr w n fun _ _ _=>False)->o'.wp C.P a w (g8 M bm pr w n R') (aY M bm pr w n fun _ _ _=>False):=fun K R' hK hw=>
  Oper.wp_mono2 (fun a' w' ⟨M',bm',tk',ρ',σ',e1,k2,k3⟩=>⟨M',bm',tk',ρ',σ',hK _ _ e1,k2,k3⟩) (fun e a' w' hh=>hh) hw
 by_cases hi:i≤l.length
 .
  have hTf:∀j,j<m.length->S (l.length+1+j)=false:=fun j hj=>by
   have:¬S (l.length+1+j)=true:=fun hh=>by
    have g:=(D.last (l.length+1+j) _ (Py (by omega)) (by omega)).2 i (by omega);have:=hbefj _ (by omega) hh i g;rw[hSi]at this;cases this
   simpa using this
  have hTf':∀j,j<m.length->(l.length+1+j==i||S (l.length+1+j))=false:=fun j hj=>by
   have:(l.length+1+j==i)=false:=by simp;omega
   rw[this,hTf j hj];rfl
  have hR1:∃u σ1,(∀t,get ρ' t=get (aD (st u S) ρ) t)/\(S l.length=true->wv σ (get ρf p.s) src p.z u σ1)/\σ'=if S l.length=true then σ1 else σ:=by
   rcases hR with⟨-,-,h4⟩|⟨h1,-⟩
   .exact h4
   .rw[h1 i (by omega)]at hSi;cases hSi
  obtain⟨u,σ1,e1,e2,e3⟩:=hR1
  have hsame:∀t∈L[i].looksG++L[i].dst.toList,∀j (hj:j≤l.length) (hj2:j<L.length),j≠i->L[j].dst=some t->(S j=decide (j<i)):=by
   intro t ht j hj hj2 hne hd;rcases D.cmp i L[i] hlo hi t ht j L[j] hj (Py hj2) hd hne with⟨g1,g2⟩|⟨g1,g2⟩
   .rw[hbef j g2];simp[g1]
   .have:¬S j=true:=fun hjl=>by
     have:=hbefj j (by omega) hjl i g2;rw[hSi]at this;cases this
    have e:S j=false:=by simpa using this
    rw[e];simp;omega
  have hgetL:∀t∈L[i].looksG,get (aD (st u fun j=>decide (j<i)) ρ) t=get ρ' t:=by
   intro t ht;rw[e1];refine bG _ _ ρ t (by rw[hsteps,hsteps]) (fun j g1 g2=>?_);have g3:=g1;rw[hsteps]at g3;have k1:=hdst u (fun j=>decide (j<i)) j g1 (by omega);have k2:=hdst u S j g2 (by omega);refine⟨by rw[k1.1,k2.1],?_,fun hd=>?_⟩
   .by_cases e:j<l.length
    .rw[hsg u _ j _ e,hsg u _ j _ e]
    .obtain rfl:j=l.length:=by omega
     rw[hsA,hsA]
   .rw[k1.2,k2.2];rw[k1.1]at hd;by_cases e:j=i
    .subst e;rw[hSi];simp
    .exact(hsame t (by simp[ht]) j (by omega) (by omega) e hd).symm
  have hnext:∀u' x,(i=l.length\/u'=u)->(∀(hh:i<(st u' S).length),(st u' S)[i].2.1=x)->∀t,get (aD (st u' fun j=>j==i||S j) ρ) t=get (Go.Proofs.YtnhphlmblenapaaGreatDoor.putd ρ' L[i].dst x) t:=by
   intro u' x hu hx t
   have hρ':∀t,get ρ' t=get (aD (st u' S) ρ) t:=fun t=>by
    rw[e1];rcases hu with rfl|rfl
    .rw[ghost u u' S hSi]
    .rfl
   have hval:∀S' j (g1:j<(st u' S').length) (g2:j<(st u' S).length),(st u' S')[j].2.1=(st u' S)[j].2.1:=fun S' j g1 g2=>by
    rw[hsteps]at g1;by_cases e:j<l.length
    .rw[hsg u' _ j _ e,hsg u' _ j _ e]
    .obtain rfl:j=l.length:=by omega
     rw[hsA,hsA]
   have hii:i<(st u' fun j=>j==i||S j).length:=by rw[hsteps];omega
   have hii2:i<(st u' S).length:=by rw[hsteps];omega
   rw[bZ];split
   .rename_i e
    have:=eU (st u' fun j=>j==i||S j) ρ i hii t (by rw[(hdst _ _ i _ hi2).1];exact e) (by rw[(hdst _ _ i _ hi2).2];simp) (fun j hj hij hd=>by
     have hj3:=hj;rw[hsteps]at hj3;rw[(hdst _ _ j hj (by omega)).1]at hd;rw[(hdst _ _ j hj (by omega)).2];rw[hsame t (by simp[e]) j (by omega) (by omega) (by omega) hd];simp;omega)
    rw[this,hval _ i hii hii2,hx]
   .rename_i e;rw[hρ'];refine bG _ _ ρ t (by rw[hsteps,hsteps]) (fun j g1 g2=>?_);have g3:=g1;rw[hsteps]at g3;refine⟨by rw[(hdst _ _ j g1 (by omega)).1,(hdst _ _ j g2 (by omega)).1],hval _ j g1 g2,fun hd=>?_⟩;rw[(hdst _ _ j g1 (by omega)).1]at hd;rw[(hdst _ _ j g1 (by omega)).2,(hdst _ _ j g2 (by omega)).2];have hne:j≠i:=fun ee=>by subst ee;exact e hd
    simp[hne]
  rcases Nat.lt_or_eq_of_le hi with hi|rfl
  .
   obtain⟨hcalm,hor⟩:=D.calm i L[i] hlo hi;have hlk:=p5 hcalm;obtain⟨ρi,hL,hρi⟩:=hloc i hi (by omega);rw[getp i hi hi2]at hcalm hor hlk hgetL hnext hoo hwant hgd hdst'
   have hρi2:∀t,get ρi t=get (aD (st u fun j=>decide (j<i)) ρ) t:=fun t=>by
    rw[hρi t,hsa,em];simp only[aD,PZ,show decide (l.length<i)=false from decide_eq_false (by omega),Pl,if_false]
   have hcur:Loc C l[i] ρ' σ' (xs[i]'(by omega)):=by
    have h0:Loc C l[i] ρi σ' (xs[i]'(by omega)):=by
     rw[e3];cases hA:S l.length
     .simpa using hL
     .rcases hor with hor|hor
      .have:=hbefj l.length (by omega) hA i hor;rw[hSi]at this;cases this
      .simpa using Loc.free hor.1 σ1 hL
    refine h0.congr fun t ht=>?_;rw[hlk]at ht;rw[hρi2 t];exact hgetL t ht
   have nA:(l.length==i)=false:=by simp;omega
   have fin:∀ρ'',(∀t,get ρ'' t=get (putd ρ' l[i].dst (xs[i]'(by omega))) t)->R (fun j=>j==i||S j) ρ'' σ':=fun ρ'' hh=>by
    refine full _ _ _ hTf' ⟨u,σ1,fun t=>?_,by simpa[nA]using e2,by simpa[nA]using e3⟩;rw[hh,hnext u _ (.inr rfl) (fun g=>by rw[hsg u S i g hi])]
   have exec:aN C l[i].op ρ' σ' (fun v=>v=xs[i]'(by omega))->o'.wp C.P a w (g8 M bm pr w n (R fun j=>j==i||S j)) (aY M bm pr w n fun _ _ _=>False):=fun hc=>
    done _ _ (fun ρ'' σ'' ⟨k1,k2⟩=>by subst k1;subst k2;exact fin _ fun t=>rfl) (bO (hG.mono hl) hrel hoo (jK hc))
   unfold Loc at hcur;split at hcur
   .rename_i hg;rw[if_pos (hwant hg)];exact exec hcur
   .rename_i t want hg;rw[hg]at hgd;split at hgd
    .rename_i e _;cases e
    .rename_i t' b' j b'' e hg2;cases e;simp only[Pk,beq_iff_eq]at hgd;obtain⟨rfl,hj⟩:=hgd;split at hcur
     .rename_i b hb;have hy:=eY hrel hb hj;by_cases hbw:b=want
      .rw[if_pos (by simp[Region.wanted,hg2,hy,hbw])];exact exec (hcur.1 hbw)
      .rw[if_neg (by simp[Region.wanted,hg2,hy,hbw])];have hx:=hcur.2 hbw;exact⟨_,fin _ fun t=>rfl,by rw[hx,hdst'];exact hrel.putd hdn gj (by simp)⟩
     .rename_i hb;have hy:=ip hrel hb hj;rw[if_neg (by simp[Region.wanted,hg2,hy])];exact⟨_,fin _ fun t=>rfl,by rw[hcur,hdst'];exact hrel.putd hdn gj (by simp)⟩
     .exact hcur.elim
    .cases hgd
  .
   rw[hSi]at e3;simp only[Pl,if_false]at e3;subst e3;rw[getA iA]at hgetL hoo hwant hnext
   have atA:∀t,get ρf t=get (aD (st u fun j=>decide (j<l.length)) ρ) t:=fun t=>by
    rw[hρe t,hsa,em];simp only[aD,Nat.lt_irrefl,decide_false,Pl,if_false];refine bG _ _ ρ t (by rw[du _ _ _ _ hxl,du _ _ _ _ hxl]) (fun i g1 g2=>?_);rw[du _ _ _ _ hxl]at g1;rw[dt l xs 0 _ i _ g1 (by omega),dt l xs 0 _ i _ g1 (by omega)];exact⟨rfl,rfl,fun _=>by simp[g1]⟩
   have hs:get ρ' p.s=get ρf p.s:=by rw[atA];exact(hgetL p.s (by simp[AV.A,O.looksG,OP.slotsG])).symm
   have hy:ev C ρ' p.y=ev C ρf p.y:=bz fun t ht=>by rw[atA];exact(hgetL t (by simp[AV.A,O.looksG,OP.slotsG,ht])).symm
   rw[if_pos (hwant rfl)];refine done (fun ρ'' σ''=>∃u',wv σ' (get ρf p.s) src p.z u' σ''/\ρ''=put ρ' p.d u') _ (fun ρ'' σ'' ⟨u',k1,k2⟩=>?_) (bO (hG.mono hl) hrel hoo ?_)
   .refine full _ _ _ hTf' ⟨u',σ'',fun t=>?_,fun _=>k1,by simp⟩;rw[k2,hnext u' u' (.inl rfl) (fun g=>by rw[hsA]) t];rfl
   .simp only[AV.A,cw];rw[hy,f1];simp only;refine⟨f2,?_⟩;rw[hs];exact yJ f4 fun v σ'' ho=>⟨v,ho,rfl⟩
 .
  obtain⟨q,rfl⟩:∃q,i=l.length+1+q:=⟨i-(l.length+1),by omega⟩
  have hqm:q<m.length:=by omega
  have getq:=getm q hqm hi2;obtain⟨hgn,hlast⟩:=D.last _ _ hlo (by omega);rw[if_pos (hwant hgn)];rw[getq]at hoo hgn;rcases hR with⟨⟨j,h1,h2⟩,-⟩|⟨h1,k,h2,h3,ρ2,h4,h5⟩
  .rw[hbef j (hlast j (by omega))]at h2;cases h2
  .have hk:k=q:=by
    have e1:=h3 q hqm;rw[hSi]at e1;have e2:¬q<k:=by simpa using e1.symm
    apply Px;intro hne;have e3:=h3 k (by omega);rw[hbef _ (hlast _ (by omega))]at e3;simp at e3
   subst hk;rw[List.drop_eq_getElem_cons hqm]at h5;unfold bM at h5;rw[hgn]at h5;refine done _ _ (fun ρ'' σ'' hh=>.inr ⟨fun j hj=>by simp[h1 j hj],k+1,by omega,fun j hj=>?_,ρ'',fun t=>rfl,hh⟩) (bO (hG.mono hl) (hrel.congr fun t=>(h4 t).symm) hoo (IL (fun v ρ σ hh=>by have:=hh.1;cases this) h5));by_cases e:j=k
   .subst e;simp
   .have:(l.length+1+j==l.length+1+k)=false:=by simp;omega
    show(l.length+1+j==l.length+1+k||S (l.length+1+j))=_;rw[this,Po,h3 j hj];simp;omega
end
end Go.Proofs.YtnhphlmblenapaaGreatDoor
