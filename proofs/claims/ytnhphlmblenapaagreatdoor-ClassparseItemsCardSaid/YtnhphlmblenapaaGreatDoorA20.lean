import Derived.Orders
import Derived.RowKit
import Derived.Recover
import Derived.Test.YtnhphlmblenapaaGreatDoorA13
set_option linter.unusedVariables false
set_option linter.unusedSimpArgs false
set_option linter.unusedSectionVars false
open And renaming intro->Sq
open Array renaming getD_eq_getD_getElem?->Ss,getElem?_eq_getElem->Su,replicate->Sv,getElem?_toList->Sw,getElem?_setIfInBounds_self_of_lt->Sx,getElem?_setIfInBounds_ne->Sy,all_toList->SA,getElem?_replicate->SB,toList_setIfInBounds->SC,getElem?_append_left->SD
open Bool renaming and_eq_true->SE,false_eq_true->SF,not_eq_true'->SG,or_eq_true->SH,false_or->SI,and_true->SJ,not_false->SK,not_true->SL,and_false->SM,true_and->SN,false_and->SO,true_or->SP
open Classical renaming byContradiction->SQ
open Int renaming toNat_natCast->SR
open List renaming getElem?_eq_getElem->SS,all_eq_true->SU,map_congr_left->SV,length_cons->SW,mem_filter->SX,getElem_of_mem->SY,filter_eq_nil_iff->SZ,getElem?_append_left->S0,range->S9,getElem?_take_of_lt->Ta,eq_nil_of_length_eq_zero->Tb,mem_range->Tc,getD_eq_getElem?_getD->Td,getElem?_append_right->Te,mem_append->Tf,mem_append_right->Tg,getElem?_eq_none->Th,take_length->Ti,getElem_mem->Tj,take_left->Tl,getElem_cons_succ->Tm,range'->Tn,mem_of_mem_take->To,range'_succ->Tp,filter_cons->Tq,cons_append->Tr,length_set->Ts,length_nil->Tt,mapM_cons->Tu
open Nat renaming zero_add->Tv,le_refl->Tw,strongRecOn->Tx,add_zero->Ty,zero_le->Tz,add_assoc->TA,sub_zero->TB
open Ne renaming symm->TC
open Option renaming getD_some->TD,isNone_iff_eq_none->TE,map_some->TF,getD_none->TG,bind_some->TH
namespace Go.Proofs.YtnhphlmblenapaaGreatDoor
open Go.RowKit
mutual
def V.under(k:Nat):V->Bool
 | .agg cs=>V.unders k cs
 | .tup cs=>V.unders k cs
 | .fn _ cs=>V.unders k cs
 | .bnd _ cs=>V.unders k cs
 | .ptr i _=>decide (i<k)
 | .bsl i _ _ _=>decide (i<k)
 | .iface _ v=>V.under k v
 | .mp i=>decide (i<k)
 | .bsc i _ _=>decide (i<k)
 | .mapc _ kv=>V.underkv k kv
 | .d _=>true
 | .own _ _ _=>true
 | .nil=>true
 | .row _ _=>true
 | .junk=>true
def V.unders(k:Nat):List V->Bool
 | []=>true
 | x::r=>V.under k x&&V.unders k r
def V.underkv(k:Nat):List (Key×V)->Bool
 | []=>true
 | p::r=>V.underp k p&&V.underkv k r
def V.underp(k:Nat):Key×V->Bool
 | (_,x)=>V.under k x
end
theorem V.unders_get{k:Nat}:∀{cs:List V},V.unders k cs=true->∀i (h:i<cs.length),V.under k cs[i]=true
 | x::r,h,i,hi=>by
  simp only[V.unders,SE]at h;cases i with
  | zero=>exact h.1
  | succ i=>exact V.unders_get h.2 i (by simpa using hi)
theorem V.unders_of{k:Nat}:∀{cs:List V},(∀i (h:i<cs.length),V.under k cs[i]=true)->V.unders k cs=true
 | [],_=>rfl
 | x::r,h=>by
  simp only[V.unders,SE];exact⟨h 0 (by simp),V.unders_of fun i hi=>h (i+1) (by simpa using hi)⟩
theorem Rep.drop{M:av}{bm:List Nat}{k:Nat}{x:V}{v:Value}(h:Rep M bm x v):V.under k x=true->Rep M (bm.take k) x v:=by
 induction h with
 | d h=>exact fun _=>.d h
 | own h=>exact fun _=>.own h
 | nil=>exact fun _=>.nil
 | agg hl h h1 ih=>exact fun hb=>.agg hl (fun i g1 g2=>ih i g1 g2 (V.unders_get (by simpa only[V.under]using hb) i g1)) h1
 | tup hl h ih=>exact fun hb=>.tup hl (fun i g1 g2=>ih i g1 g2 (V.unders_get (by simpa only[V.under]using hb) i g1))
 | ptr h=>exact fun hb=>.ptr (by
  simp only[V.under,decide_eq_true_eq]at hb;rw[Ta hb];exact h)
 | row val hf hd=>exact fun _=>.row val hf hd
 | bsl h hc hm=>exact fun hb=>.bsl (by
  simp only[V.under,decide_eq_true_eq]at hb;rw[Ta hb];exact h) hc hm
 | fn hl h ih=>exact fun hb=>.fn hl (fun i g1 g2=>ih i g1 g2 (V.unders_get (by simpa only[V.under]using hb) i g1))
 | bnd hl h ih=>exact fun hb=>.bnd hl (fun i g1 g2=>ih i g1 g2 (V.unders_get (by simpa only[V.under]using hb) i g1))
 | iface h ih=>exact fun hb=>.iface (ih (by simpa only[V.under]using hb))
 | mp h=>exact fun hb=>.mp (by
  simp only[V.under,decide_eq_true_eq]at hb;rw[Ta hb];exact h)
 | bsc h hc hm=>exact fun hb=>.bsc (by
  simp only[V.under,decide_eq_true_eq]at hb;rw[Ta hb];exact h) hc hm
 | junk v=>exact fun _=>.junk v
theorem Rep.under{M:av}{bm:List Nat}{x:V}{v:Value}(h:Rep M bm x v):V.under bm.length x=true:=by
 induction h with
 | d h=>rfl
 | own h=>rfl
 | nil=>rfl
 | agg hl h h1 ih=>simp only[V.under];exact V.unders_of fun i hi=>ih i hi (by omega)
 | tup hl h ih=>simp only[V.under];exact V.unders_of fun i hi=>ih i hi (by omega)
 | ptr h=>simp only[V.under,decide_eq_true_eq];exact(List.getElem?_eq_some_iff.1 h).1
 | row val hf hd=>rfl
 | bsl h hc hm=>simp only[V.under,decide_eq_true_eq];exact(List.getElem?_eq_some_iff.1 h).1
 | fn hl h ih=>simp only[V.under];exact V.unders_of fun i hi=>ih i hi (by omega)
 | bnd hl h ih=>simp only[V.under];exact V.unders_of fun i hi=>ih i hi (by omega)
 | iface h ih=>simpa only[V.under]using ih
 | mp h=>simp only[V.under,decide_eq_true_eq];exact(List.getElem?_eq_some_iff.1 h).1
 | bsc h hc hm=>simp only[V.under,decide_eq_true_eq];exact(List.getElem?_eq_some_iff.1 h).1
 | junk v=>rfl
theorem MR.drop{M:av}{bm:List Nat}{k:Nat}{st:Bool}{kv:List (Key×V)}{es:List MapEntry}(h:MR M bm st kv es):V.underkv k kv=true->MR M (bm.take k) st kv es:=by
 induction h with
 | nil=>exact fun _=>.nil
 | cons hk hs hx ho _ ih=>
  intro hb;simp only[V.underkv,V.underp,SE]at hb;exact .cons hk hs (hx.drop hb.1) ho (ih hb.2)
theorem MR.under{M:av}{bm:List Nat}{st:Bool}{kv:List (Key×V)}{es:List MapEntry}(h:MR M bm st kv es):V.underkv bm.length kv=true:=by
 induction h with
 | nil=>rfl
 | cons hk hs hx ho _ ih=>simp only[V.underkv,V.underp,SE];exact⟨hx.under,ih⟩
def ak(k:Nat)(σ:LLV):Bool:=σ.all fun cs=>V.unders k cs
def au(k:Nat)(ρ:ai):Bool:=ρ.all fun p=>V.under k p.2
section
variable {C : Cx} {M : av} {bm : List Nat} {tk : bv} {pr : Prot} {ρ : ai} {σ : LLV} {n : Nat} {a : Act} {w : World} {K : ai -> LLV -> Prop} {Q : AEx -> ai -> LLV -> Prop}
theorem Inv.drop(h:Inv M bm σ tk pr w){k:Nat}(hb:ak k (σ.take k)=true):Inv M (bm.take k) (σ.take k) tk pr w:=by
 refine⟨h.facts,by simp[h.len],fun i b cs hi hc=>?_,fun b hb=>h.free b (To hb),h.bmnd.sublist (List.take_sublist _ _),fun i j g hg=>?_,h.inj,h.prlt⟩
 .have hik:i<k:=by have:=(List.getElem?_eq_some_iff.1 hi).1;simp at this;omega
  have hmem:=List.mem_of_getElem? hc;rw[Ta hik]at hi hc;have hbl:V.unders k cs=true:=List.all_eq_true.1 hb cs hmem;rcases h.box i b cs hi hc with⟨vs,T,h1,h2,h3⟩|⟨st,kv,es,clock,rfl,h1,h2,h3⟩|h1;case inr.inr=>exact .inr (.inr h1)
  case inr.inl=>exact .inr (.inl ⟨st,kv,es,clock,rfl,h1,h2,h3.drop (by simpa[V.unders,V.under]using hbl)⟩)
  exact .inl ⟨vs,T,h1,h2,fun j g1 g2=>⟨⟨(h3 j g1 g2).1.rep.drop (V.unders_get hbl j g1),(h3 j g1 g2).1.own⟩,(h3 j g1 g2).2⟩⟩
 .obtain⟨t1,t2,t3⟩:=h.tok i j g hg;exact⟨t1,fun hm=>t2 (To hm),t3⟩
theorem Inv.under(h:Inv M bm σ tk pr w):ak σ.length σ=true:=by
 rw[ak,SU];intro cs hcs;obtain⟨i,hi,rfl⟩:=SY hcs;rcases h.box i (bm[i]'(by rw[h.len];exact hi)) σ[i] (SS _) (SS _)with⟨vs,T,h1,h2,h3⟩|⟨st,kv,es,clock,e,h1,h2,h3⟩|⟨T,k,e,-⟩
 case inr.inr=>rw[e];simp[tyc,V.unders,V.under]
 case inr.inl=>rw[e];simp only[V.unders,V.under,SJ];rw[<-h.len];exact h3.under
 refine V.unders_of fun j hj=>?_;rw[<-h.len];exact(h3 j hj (by omega)).1.rep.under
theorem Aw{k:Nat}(h:au k ρ=true)(t:Nat):V.under k (get ρ t)=true:=by
 induction ρ with
 | nil=>rfl
 | cons p r ih=>
  obtain⟨s,u⟩:=p;simp only[au,List.all_cons,SE]at h;simp only[get];split
  .exact h.1
  .exact ih h.2
theorem SRel.drop(h:SRel M bm tk pr ρ σ n a w){k:Nat}(h1:ak k (σ.take k)=true)(h2:au k ρ=true):SRel M (bm.take k) tk pr ρ (σ.take k) n a w:=
 ⟨h.inv.drop h1,h.defers,h.size,fun t=>⟨(h.slots t).rep.drop (Aw h2 t),(h.slots t).own⟩⟩
theorem Later.drop{M':av}{bm':List Nat}{w':World}(h:Later M bm pr w M' bm' w'){k:Nat}(hk:bm.length≤k):Later M bm pr w M' (bm'.take k) w':=by
 obtain⟨t,ht⟩:=h.pre;exact⟨h.le,⟨t.take (k-bm.length),by rw[ht,List.take_append,List.take_of_length_le hk]⟩,h.keep,h.facts,h.os,h.tape,h.output,h.size⟩
theorem Oper.wp_mono2{P:Program}{o:Oper}{a:Act}{w:World}{K K':Act->World->Prop}{Q Q':Exit->Act->World->Prop}(h1:∀a w,K a w->K' a w)(h2:∀e a w,Q e a w->Q' e a w)(hh:o.wp P a w K Q):o.wp P a w K' Q':=by
 unfold Oper.wp at *;generalize (execOp a.eval o).run P w=r at *;cases r with
 | ok n w'=>
  cases n<;>simp only[Oper.upon]at hh ⊢ <;>
   first
    | exact h1 _ _ hh
    | exact Calls.mono hh (fun e w'' he=>by
     cases e with
     | returned v=>exact h1 _ _ he
     | panicked c=>exact h2 _ _ _ he
     | outgrown=>obtain⟨a,w,hq⟩:=he;exact⟨a,w,h2 _ _ _ hq⟩)
    | exact Rows.mono hh (fun _ _ he=>h1 _ _ he)
    | exact hh
 | halt x w'=>cases x<;>simp only[Oper.upon]at hh ⊢ <;>first|exact h2 _ _ _ hh|exact hh
theorem ke(h:SRel M bm tk pr ρ σ n a w){ops:Array Oper}{t j:Nat}{b:Bool}(hg:get ρ t=.d (.lit (.bool b)))(hj:(match ops[j]? with|some q=>q.dst==some t|none=>false)=true):yielded ops a.tmps j=some b:=by
 split at hj
 .rename_i q hq;have hq2:q.dst=some t:=by simpa using hj
  have hr:=(h.slots t).rep;rw[hg]at hr;have hv:=hr.bool_inv;unfold yielded;rw[hq];simp only[TH,hq2];cases ht:a.tmps[t]? with
  | none=>
   simp only[Ss,ht,TG]at hv;cases hv
  | some v=>
   simp only[Ss,ht,TD]at hv;subst hv;rfl
 .cases hj
theorem nV{M:av}{bm:List Nat}:Rep M bm (.tup []) undef:=.tup (vs:=[]) rfl fun i h=>by simp at h
theorem qD(h:SRel M bm tk pr ρ σ n a w){ops:Array Oper}{t j:Nat}(hg:get ρ t=.tup [])(hj:(match ops[j]? with|some q=>q.dst==some t|none=>false)=true):yielded ops a.tmps j=none:=by
 split at hj
 .rename_i q hq;have hq2:q.dst=some t:=by simpa using hj
  have hr:=(h.slots t).rep;rw[hg]at hr;unfold yielded;rw[hq];simp only[TH,hq2];cases ht:a.tmps[t]? with
  | none=>rfl
  | some v=>
   simp only[Ss,ht,TD]at hr;cases hr with
   | tup _ _=>rfl
 .cases hj
theorem SRel.know(h:SRel M bm tk pr ρ σ n a w){t:Nat}{b:Bool}(hb:get ρ t=.d (.lit (.bool b))){c:Bool}(hc:b=c):SRel M bm tk pr (put ρ t (.d (.lit (.bool c)))) σ n a w:=
 ⟨h.inv,h.defers,h.size,fun s=>by
   rw[cM];split
   .rename_i e;subst e;subst hc;rw[<-hb];exact h.slots s
   .exact h.slots s⟩
theorem fj{M0:av}{bm0:List Nat}{w0:World}(hG:C.glob M0 pr w0){ops:Array Oper}:∀{l:List O} {l':List Oper} {M:av} {bm:List Nat} {tk:bv} {ρ:ai} {σ:LLV} {a:Act} {w:World},
 ip C.tab n ops l l'=true->Later M0 bm0 pr w0 M bm w->SRel M bm tk pr ρ σ n a w->ck C l ρ σ Q->wpList C.P ops (bG M0 bm0 pr w0 n Q) l' a w
 | [],[],M,bm,tk,ρ,σ,a,w,_,hl,h,hq=>⟨M,bm,tk,ρ,σ,_,hq,.normal,h,hl⟩
 | o::r,o'::r',M,bm,tk,ρ,σ,a,w,hok,hl,h,hq=>by
  simp only[ip,SE]at hok;obtain⟨h1,h2⟩:=hok;have hG':=hG.mono hl
  have step:∀{ρ:ai},SRel M bm tk pr ρ σ n a w->cS C o.op o.dst ρ σ (fun ρ' σ'=>ck C r ρ' σ' Q) Q->o'.wp C.P a w (wpList C.P ops (bG M0 bm0 pr w0 n Q) r') (bG M0 bm0 pr w0 n Q):=fun h hr=>by
   refine Oper.wp_mono2 (fun a' w' hL=>?_) (fun e a' w' hL=>hL.trans hl) (d9 hG' h h1 hr);obtain⟨M',bm',tk',ρ',σ',k1,k2,k3⟩:=hL;exact fj hG h2 (hl.trans k3 (fun _ h=>h)) k2 k1
  have hgd:∀g,o.g=g->(match g,o'.guard with
   | none,none=>true
   | some (t,b),some (j,b')=>b==b'&&(match ops[j]? with|some q=>q.dst==some t|none=>false)
   | _,_=>false)=true:=fun g hg=>by
   subst hg;unfold okO at h1;simp only[SE]at h1;exact h1.2
  have hdst:o.dst=o'.dst:=by
   unfold okO at h1;simp only[SE,beq_iff_eq]at h1;exact h1.1.1.2
  have hdn:∀d,o'.dst=some d->d<n:=by
   unfold okO at h1;simp only[SE]at h1;intro d hd;have:=h1.1.2;rw[hd]at this;simpa using this
  unfold wpList;simp only[ck]at hq;split at hq
  .rename_i hg;have:=hgd none hg;split at this
   .rename_i hg2;rw[if_pos (by simp[Region.wanted,hg2])];exact .inl (step h hq)
   .rename_i e _;cases e
   .cases this
  .rename_i t want hg;have:=hgd _ hg;split at this
   .rename_i e _;cases e
   .rename_i t' b' j b'' e hg2;cases e;simp only[SE,beq_iff_eq]at this;obtain⟨rfl,hj⟩:=this;split at hq
    .rename_i b hb;have hy:=ke h hb hj;by_cases hbw:b=want
     .rw[if_pos (by simp[Region.wanted,hg2,hy,hbw])];exact .inl (step (h.know hb hbw) (hq.1 hbw))
     .rw[if_neg (by simp[Region.wanted,hg2,hy,hbw])];have:=hq.2 hbw;rw[hdst]at this;exact fj hG h2 hl ((h.know hb (c:=!want) (by cases b<;>cases want<;>simp_all)).putd hdn nV (by simp)) this
    .rename_i hb;have hy:=qD h hb hj;rw[if_neg (by simp[Region.wanted,hg2,hy])];rw[hdst]at hq;exact fj hG h2 hl (h.putd hdn nV (by simp)) hq
    .exact hq.elim
   .cases this
 | [],_::_,_,_,_,_,_,_,_,hok,_,_,_=>by cases hok
 | _::_,[],_,_,_,_,_,_,_,hok,_,_,_=>by cases hok
end
end Go.Proofs.YtnhphlmblenapaaGreatDoor
namespace Go.Proofs.YtnhphlmblenapaaGreatDoor
open Go.RowKit
def X.slots:X->List Nat
 | .t n=>[n]
 | _=>[]
def OP.slots:OP->List Nat
 | .mv x | .un _ x | .conv _ x | .cbs x | .nilck x | .fa _ x | .fld _ _ _ x | .len _ x | .ext x _ | .load _ _ x | .mki _ x | .tas _ _ x=>x.slots
 | .pick c a b=>c.slots++(a.slots++b.slots)
 | .mlk _ _ _ x k=>x.slots++k.slots
 | .nif _ x=>x.slots
 | .eqa _ _ _ x y=>x.slots++y.slots
 | .bin _ x y | .ia _ x y | .ix x y | .mx _ x y=>x.slots++y.slots
 | .bld _ ps=>ps.flatMap fun p=>p.2.2.slots
 | .sub _ _ x lo hi=>x.slots++(lo.toList++hi.toList).flatMap X.slots
 | .mkfn _ cap=>cap.flatMap X.slots
 | .mkbd _ first=>first.flatMap X.slots
 | .mks _ _ xs=>xs.flatMap X.slots
 | .call _ args=>args.flatMap X.slots
 | .callv x args=>x.slots++args.flatMap X.slots
 | .calln _ args=>args.flatMap X.slots
 | _=>[]
def bI(C:Cx)(op:OP)(ρ:ai)(σ:LLV)(k:V->Prop):Prop:=
 match op with
 | .call f args=>∃v,Fun C f (args.map fun x=>(ev C ρ x).lend) σ (fun o σ'=>o=.ret v/\σ'=σ)/\k v
 | .callv x args=>match ev C ρ x with
  | .fn f cap=>∃v,Fun C f ((args.map fun x=>(ev C ρ x).lend)++cap) σ (fun o σ'=>o=.ret v/\σ'=σ)/\k v
  | _=>False
 | .mks _ kk xs=>match dE (xs.map (ev C ρ))with
  | some rows=>rows.all (fun r=>r.length==kk)=true/\k (.d (.sl rows))
  | none=>False
 | .calln f args=>∃v,Fun C f (args.map fun x=>(ev C ρ x).copy) σ (fun o σ'=>o=.ret v/\σ'=σ)/\k v
 | op=>match cB op,pv C op ρ σ with
  | true,some v=>k v
  | _,_=>False
def ba(C:Cx):List O->ai->LLV->(ai->Prop)->Prop
 | [],ρ,_,K=>K ρ
 | o::r,ρ,σ,K=>match o.g with
  | none=>bI C o.op ρ σ fun v=>ba C r (putd ρ o.dst v) σ K
  | some (t,want)=>match get ρ t with
   | .d (.lit (.bool b))=>(b=want->bI C o.op (put ρ t (.d (.lit (.bool want)))) σ fun v=>ba C r (putd (put ρ t (.d (.lit (.bool want)))) o.dst v) σ K)/\(b≠want->ba C r (putd (put ρ t (.d (.lit (.bool (!want))))) o.dst (.tup [])) σ K)
   | .tup []=>ba C r (putd ρ o.dst (.tup [])) σ K
   | _=>False
def bW:List (Option Nat×V×Bool)->ai->ai
 | [],ρ=>ρ
 | (d,x,b)::r,ρ=>bW r (if b then putd ρ d x else ρ)
theorem el(ρ:ai)(d:Option Nat)(x:V)(t:Nat):get (putd ρ d x) t=if d=some t then x else get ρ t:=by
 cases d with
 | none=>simp[putd]
 | some d=>simp only[putd,cM,Option.some.injEq];split<;>split<;>first|rfl|omega
theorem k7:∀(l:List (Option Nat×V×Bool)) (ρ ρ':ai) (t:Nat),get ρ t=get ρ' t->get (bW l ρ) t=get (bW l ρ') t
 | [],_,_,_,h=>h
 | (d,x,b)::r,ρ,ρ',t,h=>by
  simp only[bW];apply k7 r;cases b
  .exact h
  .simp only[if_true,el];split
   .rfl
   .exact h
theorem fg:∀(l l':List (Option Nat×V×Bool)) (ρ:ai) (t:Nat),l.length=l'.length->(∀i (h:i<l.length) (h':i<l'.length),l[i].1=l'[i].1/\l[i].2.1=l'[i].2.1/\(l[i].1=some t->l[i].2.2=l'[i].2.2))->get (bW l ρ) t=get (bW l' ρ) t
 | [],[],_,_,_,_=>rfl
 | (d,x,b)::r,(d',x',b')::r',ρ,t,hl,h=>by
  simp only[bW];obtain⟨h1,h2,h3⟩:=h 0 (by simp) (by simp);simp only[List.getElem_cons_zero]at h1 h2 h3;subst h1;subst h2;have hr:=fun ρ=>fg r r' ρ t (by simpa using hl) (fun i g1 g2=>h (i+1) (by simpa using g1) (by simpa using g2));by_cases e:d=some t
  .rw[h3 e];exact hr _
  .rw[<-hr];apply k7;cases b<;>cases b'<;>simp[el,e]
 | [],_::_,_,_,hl,_=>by simp at hl
 | _::_,[],_,_,hl,_=>by simp at hl
theorem im:∀(l:List (Option Nat×V×Bool)) (ρ:ai) (t:Nat),(∀p∈l,p.1=some t->p.2.2=false)->get (bW l ρ) t=get ρ t
 | [],_,_,_=>rfl
 | (d,x,b)::r,ρ,t,h=>by
  simp only[bW];rw[im r _ t (fun p hp=>h p (by simp[hp]))];cases b
  .rfl
  .simp only[if_true,el];split
   .rename_i e;have:=h (d,x,true) (by simp) e;cases this
   .rfl
theorem ji:∀(l l':List (Option Nat×V×Bool)) (ρ:ai),bW (l++l') ρ=bW l' (bW l ρ)
 | [],_,_=>rfl
 | (d,x,b)::r,l',ρ=>by simp only[Tr,bW];exact ji r l' _
theorem qm(l:List (Option Nat×V×Bool))(ρ:ai)(i:Nat)(h:i<l.length)(t:Nat)(hd:l[i].1=some t)(hb:l[i].2.2=true)(hn:∀j (hj:j<l.length),i<j->l[j].1=some t->l[j].2.2=false):get (bW l ρ) t=l[i].2.1:=by
 have e:bW l ρ=bW (l.take i++(l[i]::l.drop (i+1))) ρ:=by rw[List.getElem_cons_drop,List.take_append_drop]
 rw[e,ji];generalize bW (l.take i) ρ=ρ1;generalize hli:l[i]=p at hd hb;obtain⟨d,x,b⟩:=p;simp only at hd hb;subst hd;subst hb;simp only[bW,if_true];rw[im]
 .simp[el]
 .intro p hp hpt;obtain⟨j,hj,rfl⟩:=SY hp;simp only[List.getElem_drop]at hpt ⊢;exact hn (i+1+j) (by simp at hj;omega) (by omega) hpt
def O.looks(o:O):List Nat:=o.op.slots++(match o.g with|some (t,_)=>[t]|none=>[])
def aW(o:Oper):List Nat:=(o.after.toList.filter fun e=>Region.binds .any e).map (·.on)
def bP:List Oper->List (List Nat)->List (List Nat)
 | [],acc=>acc
 | o::r,acc=>bP r (acc++[aW o++(aW o).flatMap fun j=>acc.getD j []])
def pN(l:List O)(os:List Oper):Bool:=
 let bf:=bP os []
 (S9 os.length).all fun i=>
   (match os[i]? with|some o=>(aW o).all fun j=>decide (j<i)|none=>true) &&
   (match l[i]? with
   | some o=>(o.looks++o.dst.toList).all fun t=>(S9 l.length).all fun j=>j==i||(match l[j]? with
    | some p=>p.dst != some t||(if j<i then(bf.getD i []).contains j else(bf.getD j []).contains i)
    | none=>true)
   | none=>true)
def bE:List O->List V->Nat->(Nat->Bool)->List (Option Nat×V×Bool)
 | o::l,x::xs,k,S=>(o.dst,x,S k)::bE l xs (k+1) S
 | _,_,_,_=>[]
theorem lp:∀(l:List O) (xs:List V) (k:Nat) (S:Nat->Bool),xs.length=l.length->(bE l xs k S).length=l.length
 | [],[],_,_,_=>rfl
 | o::l,x::xs,k,S,h=>by simp only[bE,SW];rw[lp l xs (k+1) S (by simpa using h)]
 | [],_::_,_,_,h=>by simp at h
 | _::_,[],_,_,h=>by simp at h
theorem lh:∀(l:List O) (xs:List V) (k:Nat) (S:Nat->Bool) (i:Nat) (h:i<(bE l xs k S).length) (h1:i<l.length) (h2:i<xs.length),(bE l xs k S)[i]=(l[i].dst,xs[i],S (k+i))
 | o::l,x::xs,k,S,0,h,h1,h2=>rfl
 | o::l,x::xs,k,S,i+1,h,h1,h2=>by
  have:=lh l xs (k+1) S i (by simpa[bE]using h) (by simpa using h1) (by simpa using h2);simp only[bE,Tm];rw[this,show k+1+i=k+(i+1)by omega]
def Loc(C:Cx)(o:O)(ρ:ai)(σ:LLV)(x:V):Prop:=
 match o.g with
 | none=>bI C o.op ρ σ fun v=>v=x
 | some (t,want)=>match get ρ t with
  | .d (.lit (.bool b))=>(b=want->bI C o.op ρ σ fun v=>v=x)/\(b≠want->x=.tup [])
  | .tup []=>x=.tup []
  | _=>False
section
variable {C : Cx} {pr : Prot} {σ : LLV} {n : Nat} {Q : AEx -> ai -> LLV -> Prop}
theorem iy{op:OP}{ρ:ai}{k:V->Prop}(h:bI C op ρ σ k):∃v,bI C op ρ σ (fun u=>u=v)/\k v:=by
 unfold bI at h;split at h
 .obtain⟨v,h1,h2⟩:=h;exact⟨v,by simp only[bI];exact⟨v,h1,rfl⟩,h2⟩
 .rename_i x args;split at h
  .rename_i f cap e;obtain⟨v,h1,h2⟩:=h;exact⟨v,by simp only[bI,e];exact⟨v,h1,rfl⟩,h2⟩
  .exact h.elim
 .split at h
  .rename_i rows e;obtain⟨h1,h2⟩:=h;exact⟨_,by simp only[bI,e];exact⟨h1,trivial⟩,h2⟩
  .exact h.elim
 .obtain⟨v,h1,h2⟩:=h;exact⟨v,by simp only[bI];exact⟨v,h1,rfl⟩,h2⟩
 .rename_i n1 n2 n3 n4;split at h
  .rename_i v hp e;refine⟨v,?_,h⟩;unfold bI;split
   .exact absurd rfl (n1 _ _)
   .exact absurd rfl (n2 _ _)
   .exact absurd rfl (n3 _ _ _)
   .exact absurd rfl (n4 _ _)
   .rw[hp,e]
  .exact h.elim
theorem ca{ρ ρ':ai}{x:X}(h:∀t∈x.slots,get ρ t=get ρ' t):ev C ρ x=ev C ρ' x:=by
 cases x with
 | t n=>exact h n (by simp[X.slots])
 | k v=>rfl
 | g n=>rfl
theorem jq{ρ ρ':ai}{xs:List X}(h:∀t∈xs.flatMap X.slots,get ρ t=get ρ' t):xs.map (ev C ρ)=xs.map (ev C ρ'):=
 SV fun x hx=>ca fun t ht=>h t (List.mem_flatMap.2 ⟨x,hx,ht⟩)
theorem rO{ρ ρ':ai}:∀{ps:List (Nat×Nat×X)} {cs:List V},(∀t∈ps.flatMap (fun p=>p.2.2.slots),get ρ t=get ρ' t)->mS (ev C ρ) cs ps=mS (ev C ρ') cs ps
 | [],cs,_=>rfl
 | (off,k,x)::ps,cs,h=>by
  have e:ev C ρ x=ev C ρ' x:=ca fun t ht=>h t (by simp[ht]);simp only[mS,e];have:=fun cs=>rO (ps:=ps) (cs:=cs) (fun t ht=>h t (by simp only[List.flatMap_cons,Tf];exact .inr ht));split
  .split<;>first|rfl|exact this _
  .rfl
theorem CH{ρ ρ':ai}{op:OP}(h:∀t∈op.slots,get ρ t=get ρ' t):pv C op ρ σ=pv C op ρ' σ:=by
 have two:∀{x y:X},(∀t∈x.slots++y.slots,get ρ t=get ρ' t)->ev C ρ x=ev C ρ' x/\ev C ρ y=ev C ρ' y:=fun h=>
  ⟨ca fun t ht=>h t (by simp[ht]),ca fun t ht=>h t (by simp[ht])⟩
 cases op<;>simp only[OP.slots]at h<;>simp only[pv]
 case pick c a b=>
  have e1:ev C ρ c=ev C ρ' c:=ca fun t ht=>h t (by simp[ht]);have e2:ev C ρ a=ev C ρ' a:=ca fun t ht=>h t (by simp[ht]);have e3:ev C ρ b=ev C ρ' b:=ca fun t ht=>h t (by simp[ht]);rw[e1,e2,e3]
 case bin o x y=>rw[(two h).1,(two h).2]
 case ia k x y=>rw[(two h).1,(two h).2]
 case ix x y=>rw[(two h).1,(two h).2]
 case mx g x y=>rw[(two h).1,(two h).2]
 case mlk st ok z x y=>rw[(two h).1,(two h).2]
 case bld zs ps=>rw[rO h]
 case mkfn f cap=>rw[jq h]
 case mkbd f first=>rw[jq h]
 case sub s k x lo hi=>
  have e1:ev C ρ x=ev C ρ' x:=ca fun t ht=>h t (by simp[ht])
  have e2:lo.map (ev C ρ)=lo.map (ev C ρ'):=by
   cases lo with
   | none=>rfl
   | some y=>simp only[TF];rw[ca fun t ht=>h t (by simp[ht])]
  have e3:hi.map (ev C ρ)=hi.map (ev C ρ'):=by
   cases hi with
   | none=>rfl
   | some y=>simp only[TF];rw[ca fun t ht=>h t (by simp[ht])]
  rw[e1,e2,e3]
 case eqa neq T ks x y=>
  have e1:ev C ρ x=ev C ρ' x:=ca fun t ht=>h t (by simp[ht]);have e2:ev C ρ y=ev C ρ' y:=ca fun t ht=>h t (by simp[ht]);rw[e1,e2]
 all_goals first
  | rfl
  | rw[ca h]
theorem jU{ρ ρ':ai}{op:OP}{k:V->Prop}(h:∀t∈op.slots,get ρ t=get ρ' t)(hc:bI C op ρ σ k):bI C op ρ' σ k:=by
 unfold bI at hc;split at hc
 .rename_i f args;have e:(args.map fun x=>(ev C ρ x).lend)=args.map fun x=>(ev C ρ' x).lend:=SV fun x hx=>by rw[ca fun t ht=>h t (List.mem_flatMap.2 ⟨x,hx,ht⟩)]
  rw[e]at hc;exact hc
 .rename_i x args;simp only[OP.slots]at h;have e:(args.map fun x=>(ev C ρ x).lend)=args.map fun x=>(ev C ρ' x).lend:=SV fun x hx=>by rw[ca fun t ht=>h t (Tg _ (List.mem_flatMap.2 ⟨x,hx,ht⟩))]
  have e2:ev C ρ x=ev C ρ' x:=ca fun t ht=>h t (by simp[ht]);rw[e,e2]at hc;exact hc
 .rename_i T kk xs;rw[jq (C:=C) h]at hc;exact hc
 .rename_i f args;have e:(args.map fun x=>(ev C ρ x).copy)=args.map fun x=>(ev C ρ' x).copy:=SV fun x hx=>by rw[ca fun t ht=>h t (List.mem_flatMap.2 ⟨x,hx,ht⟩)]
  rw[e]at hc;exact hc
 .rename_i n1 n2 n3 n4;rw[CH h]at hc;unfold bI;split
  .exact absurd rfl (n1 _ _)
  .exact absurd rfl (n2 _ _)
  .exact absurd rfl (n3 _ _ _)
  .exact absurd rfl (n4 _ _)
  .exact hc
theorem Loc.congr{ρ ρ':ai}{o:O}{x:V}(h:∀t∈o.looks,get ρ t=get ρ' t)(hc:Loc C o ρ σ x):Loc C o ρ' σ x:=by
 unfold O.looks at h;unfold Loc at hc ⊢;split at hc
 .rename_i hg;rw[hg]at h;exact jU (fun t ht=>h t (by simp[ht])) hc
 .rename_i t want hg;rw[hg]at h;have e:get ρ t=get ρ' t:=h t (by simp);rw[e]at hc;split at hc
  .rename_i b hb;exact⟨fun hw=>jU (fun t ht=>h t (by simp[ht])) (hc.1 hw),hc.2⟩
  .exact hc
  .exact hc.elim
theorem o2:∀{l:List O} {ρ:ai} {k:Nat} {K:ai->Prop},ba C l ρ σ K->
 ∃xs:List V,xs.length=l.length/\(∃ρ',K ρ'/\∀t,get ρ' t=get (bW (bE l xs k fun _=>true) ρ) t)/\
  ∀i (h:i<l.length) (h':i<xs.length),∃ρi,Loc C l[i] ρi σ xs[i]/\∀t,get ρi t=get (bW (bE l xs k fun j=>decide (j<k+i)) ρ) t
 | [],ρ,k,K,h=>⟨[],rfl,⟨ρ,h,fun _=>rfl⟩,fun i h=>by simp at h⟩
 | o::r,ρ,k,K,h=>by
  have key:∀x ρ2,(∀t,get ρ2 t=get ρ t)->Loc C o ρ σ x->ba C r (putd ρ2 o.dst x) σ K->∃xs:List V,xs.length=(o::r).length/\(∃ρ',K ρ'/\∀t,get ρ' t=get (bW (bE (o::r) xs k fun _=>true) ρ) t)/\
   ∀i (h:i<(o::r).length) (h':i<xs.length),∃ρi,Loc C (o::r)[i] ρi σ xs[i]/\∀t,get ρi t=get (bW (bE (o::r) xs k fun j=>decide (j<k+i)) ρ) t:=by
   intro x ρ2 h2e hx hr;obtain⟨xs,h1,⟨ρ',h2,h3⟩,h4⟩:=o2 (k:=k+1) hr;have hput:∀t,get (putd ρ2 o.dst x) t=get (putd ρ o.dst x) t:=fun t=>by rw[el,el,h2e]
   refine⟨x::xs,by simp[h1],⟨ρ',h2,fun t=>?_⟩,fun i hi hi'=>?_⟩
   .simp only[bE,bW,if_true];rw[h3 t];exact k7 _ _ _ _ (hput t)
   .cases i with
    | zero=>
     refine⟨ρ,hx,fun t=>?_⟩;rw[im];intro p hp _;obtain⟨j,hj,rfl⟩:=SY hp;have hl:=lp (o::r) (x::xs) k (fun j=>decide (j<k+0)) (by simp[h1]);rw[hl]at hj;rw[lh _ _ _ _ _ (by rw[hl];exact hj) hj (by simp[h1];simpa using hj)];simp
    | succ i=>
     obtain⟨ρi,g1,g2⟩:=h4 i (by simpa using hi) (by simpa using hi');refine⟨ρi,g1,fun t=>?_⟩;simp only[bE,bW];rw[if_pos (by simp),g2 t,show k+1+i=k+(i+1)by omega];exact k7 _ _ _ _ (hput t)
  have know:∀{t:Nat} {b c:Bool},get ρ t=.d (.lit (.bool b))->b=c->∀s,get (put ρ t (.d (.lit (.bool c)))) s=get ρ s:=fun hb hc s=>by
   rw[cM];split
   .rename_i e;subst e;subst hc;exact hb.symm
   .rfl
  simp only[ba]at h;split at h
  .rename_i hg;obtain⟨v,h1,h2⟩:=iy h;exact key v ρ (fun _=>rfl) (by unfold Loc;rw[hg];exact h1) h2
  .rename_i t want hg;split at h
   .rename_i b hb;by_cases e:b=want
    .obtain⟨v,h1,h2⟩:=iy (h.1 e);exact key v _ (know hb e) (by unfold Loc;rw[hg];simp only;rw[hb];exact⟨fun _=>jU (fun s _=>know hb e s) h1,fun ne=>absurd e ne⟩) h2
    .exact key (.tup []) _ (know hb (c:=!want) (by cases b<;>cases want<;>simp_all)) (by unfold Loc;rw[hg];simp only;rw[hb];exact⟨(fun ee=>absurd ee e),(fun _=>by trivial)⟩) (h.2 e)
   .rename_i hb;exact key (.tup []) ρ (fun _=>rfl) (by unfold Loc;rw[hg];simp only;rw[hb];trivial) h
   .exact h.elim
end
end Go.Proofs.YtnhphlmblenapaaGreatDoor
namespace Go.Proofs.YtnhphlmblenapaaGreatDoor
open Go.RowKit
theorem oJ:∀(os:List Oper) (acc:List (List Nat)),(bP os acc).length=acc.length+os.length/\∀i,i<acc.length->(bP os acc)[i]? = acc[i]?
 | [],acc=>⟨rfl,fun _ _=>rfl⟩
 | o::r,acc=>by
  obtain⟨h1,h2⟩:=oJ r (acc++[aW o++(aW o).flatMap fun j=>acc.getD j []]);simp only[bP];refine⟨by rw[h1];simp;omega,fun i hi=>?_⟩;rw[h2 i (by simp;omega),S0 hi]
theorem yu(os:List Oper):∀(acc:List (List Nat)) (i:Nat) (o:Oper),os[i]? = some o->∃pre:List (List Nat),(bP os acc)[acc.length+i]? = some (aW o++(aW o).flatMap fun j=>pre.getD j [])/\∀j,j<acc.length+i->pre[j]? = (bP os acc)[j]? := by
 induction os with
 | nil=>intro acc i o h;simp at h
 | cons o' r ih=>
  intro acc i o h;simp only[bP];cases i with
  | zero=>
   simp at h;subst h;obtain⟨h1,h2⟩:=oJ r (acc++[aW o'++(aW o').flatMap fun j=>acc.getD j []]);refine⟨acc,?_,fun j hj=>?_⟩
   .rw[h2 _ (by simp)];rw[Te (by simp)];simp
   .rw[h2 j (by simp;omega),S0 (by omega)]
  | succ i=>
   obtain⟨pre,h1,h2⟩:=ih (acc++[aW o'++(aW o').flatMap fun j=>acc.getD j []]) i o (by simpa using h);rw[List.length_append,List.length_singleton]at h1 h2;rw[show acc.length+(i+1)=acc.length+1+i by omega];exact⟨pre,h1,h2⟩
theorem dU{os:List Oper}(hlt:∀(i:Nat) (o:Oper),os[i]? = some o->∀j∈aW o,j<i){S:Nat->Prop}(hcl:∀(i:Nat) (o:Oper),os[i]? = some o->S i->∀j∈aW o,S j):
 ∀(i:Nat) (o:Oper),os[i]? = some o->(∀j∈aW o,S j)->∀j∈(bP os []).getD i [],S j:=by
 intro i
 induction i using Tx with
 | _ i ih=>
 intro o ho he j hj;obtain⟨pre,h1,h2⟩:=yu os [] i o ho;simp only[Tt,Tv]at h1 h2;rw[Td,h1,TD]at hj;rcases List.mem_append.1 hj with hj|hj
 .exact he j hj
 .obtain⟨e,g1,g2⟩:=List.mem_flatMap.1 hj;have hei:=hlt i o ho e g1;rw[Td,h2 e hei,<-Td]at g2;have hlen:e<os.length:=by have:=(List.getElem?_eq_some_iff.1 ho).1;omega
  exact ih e hei os[e] (SS hlen) (hcl e _ (SS hlen) (he e g1)) j g2
theorem tr{l:List O}{os:List Oper}(hl:l.length=os.length)(h:pN l os=true):
 (∀(i:Nat) (o:Oper),os[i]? = some o->∀j∈aW o,j<i)/\
 ∀(i:Nat) (o:O),l[i]? = some o->∀t∈o.looks++o.dst.toList,∀(j:Nat) (p:O),l[j]? = some p->p.dst=some t->j≠i->(j<i/\j∈(bP os []).getD i [])\/(i<j/\i∈(bP os []).getD j []):=by
 unfold pN at h;simp only[SU,Tc,SE]at h;refine⟨fun i o ho j hj=>?_,fun i o ho t ht j p hp hd hne=>?_⟩
 .have:=(h i (List.getElem?_eq_some_iff.1 ho).1).1;rw[ho]at this;simpa using List.all_eq_true.1 this j hj
 .have h1:=(h i (by rw[<-hl];exact(List.getElem?_eq_some_iff.1 ho).1)).2;rw[ho]at h1;simp only[SU,Tc]at h1;have h2:=h1 t ht j (List.getElem?_eq_some_iff.1 hp).1;rw[hp]at h2;simp only[hd,SH,beq_iff_eq,bne_self_eq_false,SF,false_or]at h2;rcases h2 with h2|h2
  .exact absurd h2 hne
  .split at h2
   .exact .inl ⟨by assumption,by simpa using h2⟩
   .exact .inr ⟨by omega,by simpa using h2⟩
theorem iZ{tab:Tab}{n:Nat}{ops:Array Oper}:∀{l:List O} {os:List Oper},ip tab n ops l os=true->l.length=os.length/\∀(i:Nat) (o:O) (o':Oper),l[i]? = some o->os[i]? = some o'->okO tab n ops o o'=true
 | [],[],_=>⟨rfl,fun i o o' h=>by simp at h⟩
 | o::l,o'::os,h=>by
  simp only[ip,SE]at h;obtain⟨h1,h2⟩:=iZ h.2;refine⟨by simp[h1],fun i p p' hp hp'=>?_⟩;cases i with
  | zero=>simp at hp hp';subst hp;subst hp';exact h.1
  | succ i=>exact h2 i p p' (by simpa using hp) (by simpa using hp')
 | [],_::_,h=>by cases h
 | _::_,[],h=>by cases h
section
variable {C : Cx} {pr : Prot} {ρ : ai} {σ : LLV} {n : Nat} {Q : AEx -> ai -> LLV -> Prop}
theorem SRel.congr{M:av}{bm:List Nat}{tk:bv}{ρ ρ':ai}{a:Act}{w:World}(h:SRel M bm tk pr ρ σ n a w)(he:∀t,get ρ' t=get ρ t):SRel M bm tk pr ρ' σ n a w:=
 ⟨h.inv,h.defers,h.size,fun t=>by rw[he];exact h.slots t⟩
theorem vY{op:OP}{ρ:ai}{x:V}{dst:Option Nat}(h:bI C op ρ σ fun v=>v=x):cS C op dst ρ σ (fun ρ' σ'=>ρ'=putd ρ dst x/\σ'=σ) (fun _ _ _=>False):=by
 unfold bI at h;split at h
 .obtain⟨v,h1,rfl⟩:=h;exact h1.mono fun o σ' ⟨e1,e2⟩=>by subst e1;exact⟨rfl,e2⟩
 .split at h
  .rename_i f cap e;obtain⟨v,h1,rfl⟩:=h;simp only[cS,e];exact h1.mono fun o σ' ⟨e1,e2⟩=>by subst e1;exact⟨rfl,e2⟩
  .exact h.elim
 .split at h
  .rename_i rows e;obtain⟨h1,rfl⟩:=h;simp only[cS,e];exact⟨h1,trivial,trivial⟩
  .exact h.elim
 .obtain⟨v,h1,rfl⟩:=h;exact h1.mono fun o σ' ⟨e1,e2⟩=>by subst e1;exact⟨rfl,e2⟩
 .split at h
  .rename_i v hp e;subst h;cases op<;>simp only[cB]at hp<;>first|(cases hp;done)|skip
   all_goals
    unfold cS;simp only;rw[e];constructor<;>trivial
  .exact h.elim
theorem lc:∀(l:List Bool) (i:Nat),l[i]? = some false->((l.set i true).filter (! ·)).length+1=(l.filter (! ·)).length
 | b::l,0,h=>by simp at h;subst h;simp
 | b::l,i+1,h=>by
  have:=lc l i (by simpa using h);cases b<;>simp only[List.set_cons_succ,Tq]<;>simp<;>omega
theorem yN{M0:av}{bm0:List Nat}{w0:World}(hG:C.glob M0 pr w0){id:Nat}{ops:Array Oper}{l:List O}{M:av}{bm:List Nat}{tk:bv}{a:Act}{w:World}(hok:ip C.tab n ops l ops.toList=true)(hdr:pN l ops.toList=true)
 (hl:Later M0 bm0 pr w0 M bm w)(h:SRel M bm tk pr ρ σ n a w)(hq:ba C l ρ σ fun ρ'=>Q .normal ρ' σ):(Code.region id ops true).wp C.P (bG M0 bm0 pr w0 n Q) a w:=by
 obtain⟨hlen,hget⟩:=iZ hok;obtain⟨hlt,hcmp⟩:=tr hlen hdr;obtain⟨xs,hxl,⟨ρf,hρf,hρe⟩,hloc⟩:=o2 (k:=0) hq;have hnl:l.length=ops.size:=by rw[hlen];simp
 refine wp_region_any C.mixed ?_;have hsteps:∀S:Nat->Bool,(bE l xs 0 S).length=l.length:=fun S=>lp l xs 0 S hxl
 have hsg:∀(S:Nat->Bool) (i:Nat) (hi:i<(bE l xs 0 S).length) (h1:i<l.length),(bE l xs 0 S)[i]=(l[i].dst,xs[i]'(by omega),S i):=fun S i hi h1=>by
  have:=lh l xs 0 S i hi h1 (by omega);simpa using this
 suffices H:∀(fuel:Nat) (listed:Array Bool) (M:av) (tk:bv) (a:Act) (w:World),Later M0 bm0 pr w0 M bm w->SRel M bm tk pr (bW (bE l xs 0 fun i=>listed.getD i false) ρ) σ n a w->listed.size=l.length->
  (∀(i:Nat) (o:Oper),ops.toList[i]? = some o->listed.getD i false=true->∀j∈aW o,listed.getD j false=true)->(listed.toList.filter (! ·)).length=fuel->wpAny C.P .any ops (bG M0 bm0 pr w0 n Q) fuel listed a w by
  obtain⟨h1,h2⟩:=h.ext (dK.drew w);refine H ops.size (Sv ops.size false) M tk a w.drew (hl.trans h2 (fun _ h=>h)) (h1.congr fun t=>?_) (by simp[hnl]) (fun i o ho hi=>?_) (by simp)
  .rw[im];intro p hp _;obtain⟨j,hj,rfl⟩:=SY hp;rw[hsteps]at hj;rw[hsg _ j (by rw[hsteps];exact hj) hj];simp[Ss,SB];split<;>rfl
  .simp[Ss,SB]at hi;split at hi<;>cases hi
 intro fuel
 induction fuel with
 | zero=>
  intro listed M tk a w hl h hsz hcl hcnt
  have hall:∀i,i<l.length->listed.getD i false=true:=fun i hi=>by
   have hb:listed[i]? = some (listed[i]'(by omega)):=Su _;rw[Ss,hb,TD];have hne:listed.toList.filter (! ·)=[]:=Tb hcnt;have:=List.filter_eq_nil_iff.1 hne (listed[i]'(by omega)) (by simp);simpa using this
  refine⟨?_,M,bm,tk,ρf,σ,.normal,hρf,.normal,h.congr (fun t=>?_),hl⟩
  .unfold Region.ready;rw[SZ];intro i hi;have hi':i<l.length:=by rw[hnl];simpa using hi
   have h9:=hall i hi'
   have:listed.getD i true=true:=by
    have hb:listed[i]? = some (listed[i]'(by omega)):=Su _;rw[Ss,hb,TD]at h9 ⊢;exact h9
   simp[this]
  .rw[hρe t];refine fg _ _ ρ t (by rw[hsteps,hsteps]) (fun i g1 g2=>?_);rw[hsteps]at g1;rw[hsg _ i (by rw[hsteps];exact g1) g1,hsg _ i (by rw[hsteps];exact g1) g1];exact⟨rfl,rfl,fun _=>(hall i g1).symm⟩
 | succ fuel ih=>
  intro listed M tk a w hl h hsz hcl hcnt;refine⟨fun hnil=>?_,fun i hi=>?_⟩
  .exfalso
   have hex:∃i,i<l.length/\listed.getD i false=false:=by
    apply SQ;intro hno
    have hne:listed.toList.filter (! ·)=[]:=by
     rw[SZ];intro b hb;obtain⟨i,hi,rfl⟩:=SY hb;have hi':i<listed.size:=by simpa using hi
     have h9:¬listed.getD i false=false:=fun e=>hno ⟨i,by omega,e⟩;have hb:listed[i]? = some listed[i]:=Su hi';rw[Ss,hb,TD]at h9;simpa using h9
    rw[hne]at hcnt;simp at hcnt
   have hmin:∃i,i<l.length/\listed.getD i false=false/\∀j,j<i->listed.getD j false=true:=by
    obtain⟨i,h1,h2⟩:=hex
    induction i using Tx with
    | _ i ihm=>
    by_cases hj:∃j,j<i/\listed.getD j false=false
    .obtain⟨j,g1,g2⟩:=hj;exact ihm j g1 (by omega) g2
    .exact⟨i,h1,h2,fun j hji=>by
      cases hb:listed.getD j false with
      | true=>rfl
      | false=>exact absurd ⟨j,hji,hb⟩ hj⟩
   obtain⟨i,h1,h2,h3⟩:=hmin;have hio:i<ops.toList.length:=by rw[<-hlen];exact h1
   have:i∈Region.ready .any ops listed:=by
    unfold Region.ready;rw[SX];refine⟨by simp;omega,?_⟩
    have ht:listed.getD i true=false:=by
     have hb:listed[i]? = some (listed[i]'(by omega)):=Su _;rw[Ss,hb,TD]at h2 ⊢;exact h2
    have ho:ops[i]? = some (ops[i]'(by omega)):=Su _;rw[ht,ho];simp only[SK,SN,TF,TD];rw[<-SA,SU];intro e he;cases hb:Region.binds .any e with
    | false=>rfl
    | true=>
     have:e.on∈aW (ops[i]'(by omega)):=by
      unfold aW;exact List.mem_map.2 ⟨e,List.mem_filter.2 ⟨he,hb⟩,rfl⟩
     simp[h3 e.on (hlt i _ (by rw[SS hio];simp) e.on this)]
   rw[hnil]at this;cases this
  .unfold Region.ready at hi;rw[SX]at hi;obtain⟨hir,hic⟩:=hi;have hi1:i<ops.size:=by simpa using hir
   have hi2:i<l.length:=by omega
   have ho:ops[i]? = some ops[i]:=Su hi1;have hoL:ops.toList[i]? = some ops[i]:=by rw[Sw];exact ho
   rw[ho]at hic;simp only[TF,TD,SE,SG]at hic;obtain⟨hun,hed⟩:=hic
   have hun':listed[i]? = some false:=by
    have hb:listed[i]? = some (listed[i]'(by omega)):=Su _;rw[Ss,hb,TD]at hun;rw[hb,hun]
   have hunf:listed.getD i false=false:=by rw[Ss,hun'];rfl
   have hedge:∀j∈aW ops[i],listed.getD j false=true:=by
    intro j hj;unfold aW at hj;obtain⟨e,he,rfl⟩:=List.mem_map.1 hj;rw[SX]at he;rw[<-SA,SU]at hed;have:=hed e he.1;simpa[he.2]using this
   have hbef:=dU hlt (S:=fun j=>listed.getD j false=true) hcl i _ hoL hedge
   have hlist:∀j p,l[j]? = some p->listed.getD j false=true->∀q∈(bP ops.toList []).getD j [],listed.getD q false=true:=fun j p hj hjl=>by
    have hjo:j<ops.toList.length:=by rw[<-hlen];exact(List.getElem?_eq_some_iff.1 hj).1
    exact dU hlt (S:=fun j=>listed.getD j false=true) hcl j _ (SS hjo) (hcl j _ (SS hjo) hjl)
   have hsame:∀t∈l[i].looks++l[i].dst.toList,∀j (hj:j<l.length),j≠i->l[j].dst=some t->(listed.getD j false=decide (j<i)):=by
    intro t ht j hj hne hd;rcases hcmp i l[i] (SS hi2) t ht j l[j] (SS hj) hd hne with⟨g1,g2⟩|⟨g1,g2⟩
    .rw[hbef j g2];simp[g1]
    .have:¬listed.getD j false=true:=fun hjl=>by
      have:=hlist j l[j] (SS hj) hjl i g2;rw[hunf]at this;cases this
     have e:listed.getD j false=false:=by simpa using this
     rw[e];simp;omega
   obtain⟨ρi,hL,hρi⟩:=hloc i hi2 (by omega)
   have hgetL:∀t∈l[i].looks,get ρi t=get (bW (bE l xs 0 fun i=>listed.getD i false) ρ) t:=by
    intro t ht;rw[hρi t];refine fg _ _ ρ t (by rw[hsteps,hsteps]) (fun j g1 g2=>?_);rw[hsteps]at g1;rw[hsg _ j (by rw[hsteps];exact g1) g1,hsg _ j (by rw[hsteps];exact g1) g1];refine⟨rfl,rfl,fun hd=>?_⟩;simp only[Tv];by_cases e:j=i
    .subst e;rw[hunf];simp
    .exact(hsame t (by simp[ht]) j g1 e hd).symm
   have hL2:=hL.congr hgetL
   have hnext:∀t,get (bW (bE l xs 0 fun j=>(listed.setIfInBounds i true).getD j false) ρ) t=get (putd (bW (bE l xs 0 fun j=>listed.getD j false) ρ) l[i].dst (xs[i]'(by omega))) t:=by
    intro t
    have hset:∀j,(listed.setIfInBounds i true).getD j false=if j=i then true else listed.getD j false:=fun j=>by
     rw[Ss,Ss];split
     .rename_i e;subst e;rw[Sx (by omega)];rfl
     .rename_i e;rw[Sy (TC e)]
    rw[el];split
    .rename_i e
     have:=qm (bE l xs 0 fun j=>(listed.setIfInBounds i true).getD j false) ρ i (by rw[hsteps];exact hi2) t (by rw[hsg _ i _ hi2];exact e) (by rw[hsg _ i _ hi2,hset];simp) (fun j hj hij hd=>by
      rw[hsteps]at hj;rw[hsg _ j _ hj]at hd ⊢;simp only at hd ⊢;rw[hset,if_neg (by omega),hsame t (by simp[e]) j hj (by omega) hd];simp;omega)
     rw[this,hsg _ i _ hi2]
    .rename_i e;refine fg _ _ ρ t (by rw[hsteps,hsteps]) (fun j g1 g2=>?_);rw[hsteps]at g1;rw[hsg _ j (by rw[hsteps];exact g1) g1,hsg _ j (by rw[hsteps];exact g1) g1];refine⟨rfl,rfl,fun hd=>?_⟩;simp only at hd ⊢;rw[hset,if_neg (fun ee=>by subst ee;exact e hd)]
   have hnextcl:∀(q:Nat) (o:Oper),ops.toList[q]? = some o->(listed.setIfInBounds i true).getD q false=true->∀j∈aW o,(listed.setIfInBounds i true).getD j false=true:=by
    have hset:∀j,(listed.setIfInBounds i true).getD j false=if j=i then true else listed.getD j false:=fun j=>by
     rw[Ss,Ss];split
     .rename_i e;subst e;rw[Sx (by omega)];rfl
     .rename_i e;rw[Sy (TC e)]
    intro q o hqo hql j hj;rw[hset]at hql ⊢;split
    .rfl
    .split at hql
     .rename_i e;subst e;rw[hoL]at hqo;cases hqo;exact hedge j hj
     .exact hcl q o hqo hql j hj
   have hnextc:((listed.setIfInBounds i true).toList.filter (! ·)).length=fuel:=by
    have:=lc listed.toList i (by rw[Sw];exact hun');rw[SC];omega
   have hoo:=hget i l[i] ops[i] (SS hi2) hoL
   have hdst:l[i].dst=ops[i].dst:=by
    unfold okO at hoo;simp only[SE,beq_iff_eq]at hoo;exact hoo.1.1.2
   have hdn:∀d,ops[i].dst=some d->d<n:=by
    unfold okO at hoo;simp only[SE]at hoo;intro d hd;have:=hoo.1.2;rw[hd]at this;simpa using this
   have hgd:=hoo;unfold okO at hgd;simp only[SE]at hgd;replace hgd:=hgd.2
   have exec:bI C l[i].op (bW (bE l xs 0 fun i=>listed.getD i false) ρ) σ (fun v=>v=xs[i]'(by omega))->(ops[i]).wp C.P a w (wpAny C.P .any ops (bG M0 bm0 pr w0 n Q) fuel (listed.setIfInBounds i true)) (bG M0 bm0 pr w0 n Q):=fun hc=>by
    refine Oper.wp_mono2 (fun a' w' hL=>?_) (fun e a' w' hL=>?_) (d9 (hG.mono hl) h hoo (vY hc))
    .obtain⟨M',bm',tk',ρ',σ',⟨rfl,rfl⟩,k2,k3⟩:=hL
     have hbm:bm'=bm:=by
      obtain⟨t,rfl⟩:=k3.pre;have e1:=k2.inv.len;have e2:=h.inv.len;have:t=[]:=Tb (by simp at e1;omega);simp[this]
     subst hbm;exact ih _ M' tk' a' w' (hl.trans k3 (fun _ h=>h)) (k2.congr hnext) (by simp[hsz]) hnextcl hnextc
    .obtain⟨_,_,_,_,_,_,hf,_⟩:=hL;exact hf.elim
   unfold wpOp;rw[ho];simp only;unfold Loc at hL2;split at hL2
   .rename_i hg;rw[hg]at hgd;split at hgd
    .rename_i hg2;rw[if_pos (by simp[Region.wanted,hg2])];exact .inl (exec hL2)
    .rename_i e _;cases e
    .cases hgd
   .rename_i t want hg;rw[hg]at hgd;split at hgd
    .rename_i e _;cases e
    .rename_i t' b' j b'' e hg2;cases e;simp only[SE,beq_iff_eq]at hgd;obtain⟨rfl,hj⟩:=hgd;split at hL2
     .rename_i b hb;have hy:=ke h hb hj;by_cases hbw:b=want
      .rw[if_pos (by simp[Region.wanted,hg2,hy,hbw])];exact .inl (exec (hL2.1 hbw))
      .rw[if_neg (by simp[Region.wanted,hg2,hy,hbw])];have hx:=hL2.2 hbw;refine ih _ M tk _ w hl ((h.putd hdn nV (by simp)).congr fun t=>?_) (by simp[hsz]) hnextcl hnextc;rw[hnext t,hx,hdst]
     .rename_i hb;have hy:=qD h hb hj;rw[if_neg (by simp[Region.wanted,hg2,hy])];refine ih _ M tk _ w hl ((h.putd hdn nV (by simp)).congr fun t=>?_) (by simp[hsz]) hnextcl hnextc;rw[hnext t,hL2,hdst]
     .exact hL2.elim
    .cases hgd
end
end Go.Proofs.YtnhphlmblenapaaGreatDoor
namespace Go.Proofs.YtnhphlmblenapaaGreatDoor
open Go.RowKit
section
variable {C : Cx} {pr : Prot} {n : Nat} {Q : AEx -> ai -> LLV -> Prop}
end
end Go.Proofs.YtnhphlmblenapaaGreatDoor
namespace Go.Proofs.YtnhphlmblenapaaGreatDoor
open Go.RowKit
structure Cell where
 i:Nat
 off:Nat
 T:TypeId
 k:Nat
 rows:LLD
section
variable {C : Cx} {pr : Prot} {ρ : ai} {n : Nat} {Q : AEx -> ai -> LLV -> Prop}
end
end Go.Proofs.YtnhphlmblenapaaGreatDoor
namespace Go.Proofs.YtnhphlmblenapaaGreatDoor
open Go.RowKit
def OP.slotsN:OP->List Nat
 | .sto _ x y=>x.slots++y.slots
 | op=>op.slots
def O.looksN(o:O):List Nat:=o.op.slotsN++(match o.g with|some (t,_)=>[t]|none=>[])
section
variable {C : Cx} {pr : Prot} {ρ : ai} {n : Nat} {Q : AEx -> ai -> LLV -> Prop}
end
end Go.Proofs.YtnhphlmblenapaaGreatDoor
namespace Go.Proofs.YtnhphlmblenapaaGreatDoor
open Go.RowKit
section
variable {C : Cx} {pr : Prot} {ρ : ai} {n : Nat} {Q : AEx -> ai -> LLV -> Prop}
def zW(C:Cx)(σ:LLV):List O->ai->Option LLV->(ai->LLV->Prop)->Prop
 | [],ρ,acc,K=>match acc with|some σf=>K ρ σf|none=>False
 | o::r,ρ,acc,K=>match o.op with
  | .sto kk y z=>o.g=none/\o.dst=none/\match acc,ev C ρ y with
   | none,.ptr i off=>match σ[i]? with
    | some cs=>((ev C ρ z).boxable=true/\(ev C ρ z).cells.length=kk/\off+kk≤cs.length/\cy cs=true)/\zW C σ r ρ (some (σ.set i (over cs off (ev C ρ z).cells))) K
    | none=>False
   | _,_=>False
  | op=>match o.g with
   | none=>bI C op ρ σ fun v=>zW C σ r (putd ρ o.dst v) acc K
   | some (t,want)=>match get ρ t with
    | .d (.lit (.bool b))=>(b=want->bI C op (put ρ t (.d (.lit (.bool want)))) σ fun v=>zW C σ r (putd (put ρ t (.d (.lit (.bool want)))) o.dst v) acc K)/\(b≠want->zW C σ r (putd (put ρ t (.d (.lit (.bool (!want))))) o.dst (.tup [])) acc K)
    | .tup []=>zW C σ r (putd ρ o.dst (.tup [])) acc K
    | _=>False
def O.free(o:O):Bool:=match o.op,o.g with
 | .mv (.k _),none=>true
 | _,_=>false
end
end Go.Proofs.YtnhphlmblenapaaGreatDoor
namespace Go.Proofs.YtnhphlmblenapaaGreatDoor
open Go.RowKit
section
variable {C : Cx} {pr : Prot} {ρ : ai} {σ : LLV} {n : Nat} {Q : AEx -> ai -> LLV -> Prop}
end
end Go.Proofs.YtnhphlmblenapaaGreatDoor
namespace Go.Proofs.YtnhphlmblenapaaGreatDoor
open Go.RowKit
section
variable {C : Cx} {pr : Prot} {n : Nat} {Q : AEx -> ai -> LLV -> Prop}
theorem nB{M0:av}{bm0:List Nat}{w0:World}{id:Nat}{ops:Array Oper}{M:av}{bm:List Nat}{tk:bv}{a:Act}{w:World}(St:(Nat->Bool)->ai)(Sg:(Nat->Bool)->LLV)(ρf:ai)(σf:LLV)(I:(Nat->Bool)->Prop)(hI0:I fun _=>false)(hIext:∀S S',(∀j,j<ops.size->S j=S' j)->I S->I S')
 (hlt:∀(i:Nat) (o:Oper),ops.toList[i]? = some o->∀j∈aW o,j<i)
 (hext:∀S S',(∀j,j<ops.size->S j=S' j)->(∀t,get (St S) t=get (St S') t)/\Sg S=Sg S')
 (hl:Later M0 bm0 pr w0 M bm w)(h:SRel M bm tk pr (St fun _=>false) (Sg fun _=>false) n a w)
 (hf:I (fun _=>true)->((∀t,get ρf t=get (St fun _=>true) t)/\σf=Sg fun _=>true)/\Q .normal ρf σf)
 (step:∀(S:Nat->Bool) (i:Nat) (o:Oper),ops.toList[i]? = some o->S i=false->(∀(j:Nat) (p:Oper),ops.toList[j]? = some p->S j=true->∀e∈aW p,S e=true)->(∀e∈aW o,S e=true)->
   I S->∀(M:av) (bm:List Nat) (tk:bv) (a:Act) (w:World),Later M0 bm0 pr w0 M bm w->SRel M bm tk pr (St S) (Sg S) n a w->
    if Region.wanted o (yielded ops a.tmps)then o.wp C.P a w (oP M bm pr w n fun ρ' σ'=>(∀t,get ρ' t=get (St fun j=>j==i||S j) t)/\σ'=(Sg fun j=>j==i||S j)/\I fun j=>j==i||S j) (bG M bm pr w n Q)
    else SRel M bm tk pr (St fun j=>j==i||S j) (Sg fun j=>j==i||S j) n (a.put o.dst undef) w/\I fun j=>j==i||S j):
 (Code.region id ops true).wp C.P (bG M0 bm0 pr w0 n Q) a w:=by
 refine wp_region_any C.mixed ?_
 suffices H:∀(fuel:Nat) (listed:Array Bool) (M:av) (bm:List Nat) (tk:bv) (a:Act) (w:World),Later M0 bm0 pr w0 M bm w->SRel M bm tk pr (St fun i=>listed.getD i false) (Sg fun i=>listed.getD i false) n a w->I (fun i=>listed.getD i false)->listed.size=ops.size->
  (∀(i:Nat) (o:Oper),ops.toList[i]? = some o->listed.getD i false=true->∀j∈aW o,listed.getD j false=true)->(listed.toList.filter (! ·)).length=fuel->wpAny C.P .any ops (bG M0 bm0 pr w0 n Q) fuel listed a w by
  obtain⟨h1,h2⟩:=h.ext (dK.drew w)
  have hrep:∀j,(Sv ops.size false).getD j false=false:=fun j=>by
   simp only[Ss,SB];split<;>rfl
  obtain⟨e1,e2⟩:=hext (fun i=>(Sv ops.size false).getD i false) (fun _=>false) (fun j _=>hrep j);refine H ops.size (Sv ops.size false) M bm tk a w.drew (hl.trans h2 (fun _ h=>h)) ?_ (hIext _ _ (fun j _=>(hrep j).symm) hI0) (by simp) (fun i o ho hi=>?_) (by simp)
  .rw[e2];exact h1.congr e1
  .rw[hrep]at hi;cases hi
 intro fuel
 induction fuel with
 | zero=>
  intro listed M bm tk a w hl h hI hsz hcl hcnt
  have hall:∀i,i<ops.size->listed.getD i false=true:=fun i hi=>by
   have hb:listed[i]? = some (listed[i]'(by omega)):=Su _;rw[Ss,hb,TD];have hne:listed.toList.filter (! ·)=[]:=Tb hcnt;have:=List.filter_eq_nil_iff.1 hne (listed[i]'(by omega)) (by simp);simpa using this
  obtain⟨e1,e2⟩:=hext (fun i=>listed.getD i false) (fun _=>true) hall;obtain⟨hf,hq⟩:=hf (hIext _ _ hall hI);refine⟨?_,M,bm,tk,ρf,σf,.normal,hq,.normal,?_,hl⟩
  .unfold Region.ready;rw[SZ];intro i hi;have hi':i<ops.size:=by simpa using hi
   have h9:=hall i hi'
   have:listed.getD i true=true:=by
    have hb:listed[i]? = some (listed[i]'(by omega)):=Su _;rw[Ss,hb,TD]at h9 ⊢;exact h9
   simp[this]
  .rw[hf.2,<-e2];exact h.congr fun t=>(hf.1 t).trans (e1 t).symm
 | succ fuel ih=>
  intro listed M bm tk a w hl h hI hsz hcl hcnt;refine⟨fun hnil=>?_,fun i hi=>?_⟩
  .exfalso
   have hex:∃i,i<ops.size/\listed.getD i false=false:=by
    apply SQ;intro hno
    have hne:listed.toList.filter (! ·)=[]:=by
     rw[SZ];intro b hb;obtain⟨i,hi,rfl⟩:=SY hb;have hi':i<listed.size:=by simpa using hi
     have h9:¬listed.getD i false=false:=fun e=>hno ⟨i,by omega,e⟩;have hb:listed[i]? = some listed[i]:=Su hi';rw[Ss,hb,TD]at h9;simpa using h9
    rw[hne]at hcnt;simp at hcnt
   have hmin:∃i,i<ops.size/\listed.getD i false=false/\∀j,j<i->listed.getD j false=true:=by
    obtain⟨i,h1,h2⟩:=hex
    induction i using Tx with
    | _ i ihm=>
    by_cases hj:∃j,j<i/\listed.getD j false=false
    .obtain⟨j,g1,g2⟩:=hj;exact ihm j g1 (by omega) g2
    .exact⟨i,h1,h2,fun j hji=>by
      cases hb:listed.getD j false with
      | true=>rfl
      | false=>exact absurd ⟨j,hji,hb⟩ hj⟩
   obtain⟨i,h1,h2,h3⟩:=hmin;have hio:i<ops.toList.length:=by simpa using h1
   have:i∈Region.ready .any ops listed:=by
    unfold Region.ready;rw[SX];refine⟨by simp;omega,?_⟩
    have ht:listed.getD i true=false:=by
     have hb:listed[i]? = some (listed[i]'(by omega)):=Su _;rw[Ss,hb,TD]at h2 ⊢;exact h2
    have ho:ops[i]? = some (ops[i]'(by omega)):=Su _;rw[ht,ho];simp only[SK,SN,TF,TD];rw[<-SA,SU];intro e he;cases hb:Region.binds .any e with
    | false=>rfl
    | true=>
     have:e.on∈aW (ops[i]'(by omega)):=by
      unfold aW;exact List.mem_map.2 ⟨e,List.mem_filter.2 ⟨he,hb⟩,rfl⟩
     simp[h3 e.on (hlt i _ (by rw[SS hio];simp) e.on this)]
   rw[hnil]at this;cases this
  .unfold Region.ready at hi;rw[SX]at hi;obtain⟨hir,hic⟩:=hi;have hi1:i<ops.size:=by simpa using hir
   have ho:ops[i]? = some ops[i]:=Su hi1;have hoL:ops.toList[i]? = some ops[i]:=by rw[Sw];exact ho
   rw[ho]at hic;simp only[TF,TD,SE,SG]at hic;obtain⟨hun,hed⟩:=hic
   have hun':listed[i]? = some false:=by
    have hb:listed[i]? = some (listed[i]'(by omega)):=Su _;rw[Ss,hb,TD]at hun;rw[hb,hun]
   have hunf:listed.getD i false=false:=by rw[Ss,hun'];rfl
   have hedge:∀j∈aW ops[i],listed.getD j false=true:=by
    intro j hj;unfold aW at hj;obtain⟨e,he,rfl⟩:=List.mem_map.1 hj;rw[SX]at he;rw[<-SA,SU]at hed;have:=hed e he.1;simpa[he.2]using this
   have hset:∀j,(listed.setIfInBounds i true).getD j false=(j==i||listed.getD j false):=fun j=>by
    rw[Ss,Ss];by_cases e:j=i
    .subst e;rw[Sx (by omega)];simp
    .rw[Sy (TC e)];simp[e]
   have hnextcl:∀(q:Nat) (o:Oper),ops.toList[q]? = some o->(listed.setIfInBounds i true).getD q false=true->∀j∈aW o,(listed.setIfInBounds i true).getD j false=true:=by
    intro q o hqo hql j hj;rw[hset]at hql ⊢;simp only[SH,beq_iff_eq]at hql ⊢;rcases hql with rfl|hql
    .rw[hoL]at hqo;cases hqo;exact .inr (hedge j hj)
    .exact .inr (hcl q o hqo hql j hj)
   have hnextc:((listed.setIfInBounds i true).toList.filter (! ·)).length=fuel:=by
    have:=lc listed.toList i (by rw[Sw];exact hun');rw[SC];omega
   obtain⟨e1,e2⟩:=hext (fun j=>(listed.setIfInBounds i true).getD j false) (fun j=>j==i||listed.getD j false) (fun j _=>hset j);have hst:=step (fun j=>listed.getD j false) i ops[i] hoL hunf hcl hedge hI M bm tk a w hl h;unfold wpOp;rw[ho];simp only;split at hst
   .rename_i hw;rw[if_pos hw];refine .inl (Oper.wp_mono2 (fun a' w' hL=>?_) (fun e a' w' hL=>?_) hst)
    .obtain⟨M',bm',tk',ρ',σ',⟨k0,rfl,kI⟩,k2,k3⟩:=hL;refine ih _ M' bm' tk' a' w' (hl.trans k3 (fun _ h=>h)) ?_ (hIext _ _ (fun j _=>(hset j).symm) kI) (by simp[hsz]) hnextcl hnextc;rw[e2];exact k2.congr fun t=>(e1 t).trans (k0 t).symm
    .exact bG.trans hl hL
   .rename_i hw;rw[if_neg hw];refine ih _ M bm tk _ w hl ?_ (hIext _ _ (fun j _=>(hset j).symm) hst.2) (by simp[hsz]) hnextcl hnextc;rw[e2];exact hst.1.congr e1
end
section
variable {pre post : List O} {d : Option Nat} {f : FuncId} {args : List X} {kk : Nat} {y z : X}
end
def mX(np nq:Nat)(l:List O)(os:List Oper):Bool:=
 let bf:=bP os []
 ((S9 os.length).all fun i=>match os[i]? with|some o=>(aW o).all fun j=>decide (j<i)|none=>true) &&
 (((S9 l.length).all fun i=>match l[i]? with
   | some o=>(o.looksN++o.dst.toList).all fun t=>(S9 l.length).all fun j=>j==i||(match l[j]? with
    | some q=>q.dst != some t||(if j<i then(bf.getD i []).contains j else(bf.getD j []).contains i)
    | none=>true)
   | none=>true) &&
 (((S9 nq).all fun m=>(bf.getD (np+1+m) []).contains np) &&
 (((S9 (np+1+nq)).all fun i=>(bf.getD (np+1+nq) []).contains i) &&
 ((S9 np).all fun i=>match l[i]? with
   | some o=>o.dst.isSome&&(S9 np).all fun j=>j==i||(match l[j]? with|some q=>q.dst != o.dst|none=>true)
   | none=>true))))
structure OKX(np nq:Nat)(l:List O)(os:List Oper):Prop where
 lt:∀(i:Nat) (o:Oper),os[i]? = some o->∀j∈aW o,j<i
 cmp:∀(i:Nat) (o:O),l[i]? = some o->∀t∈o.looksN++o.dst.toList,∀(j:Nat) (q:O),l[j]? = some q->q.dst=some t->j≠i->(j<i/\j∈(bP os []).getD i [])\/(i<j/\i∈(bP os []).getD j [])
 after:∀m,m<nq->np∈(bP os []).getD (np+1+m) []
 last:∀i,i<np+1+nq->i∈(bP os []).getD (np+1+nq) []
 pdst:∀(i:Nat) (o:O),i<np->l[i]? = some o->∃t,o.dst=some t/\∀(j:Nat) (q:O),j<np->l[j]? = some q->j≠i->q.dst≠some t
theorem yJ{np nq:Nat}{l:List O}{os:List Oper}(h:mX np nq l os=true):OKX np nq l os:=by
 unfold mX at h;simp only[SE]at h;obtain⟨h1,h2,h3,h4,h5⟩:=h;simp only[SU,Tc]at h1 h2 h3 h4 h5;refine⟨fun i o ho j hj=>?_,fun i o ho t ht j q hp hd hne=>?_,fun m hm=>by simpa using h3 m hm,fun i hi=>by simpa using h4 i hi,fun i o hi ho=>?_⟩
 .have:=h1 i (List.getElem?_eq_some_iff.1 ho).1;rw[ho]at this;simpa using List.all_eq_true.1 this j hj
 .have h1:=h2 i (List.getElem?_eq_some_iff.1 ho).1;rw[ho]at h1;simp only[SU,Tc]at h1;have h2:=h1 t ht j (List.getElem?_eq_some_iff.1 hp).1;rw[hp]at h2;simp only[hd,SH,beq_iff_eq,bne_self_eq_false,SF,false_or]at h2;rcases h2 with h2|h2
  .exact absurd h2 hne
  .split at h2
   .exact .inl ⟨by assumption,by simpa using h2⟩
   .exact .inr ⟨by omega,by simpa using h2⟩
 .have:=h5 i hi;rw[ho]at this;simp only[SE,SU,Tc]at this;obtain⟨g1,g2⟩:=this;obtain⟨t,ht⟩:=Option.isSome_iff_exists.1 g1;refine⟨t,ht,fun j q hj hq hne hd=>?_⟩;have:=g2 j hj;rw[hq]at this;simp only[hd,ht,SH,beq_iff_eq,bne_self_eq_false,SF,or_false]at this;exact hne this
theorem rS:∀{l:List O} {xs:List V} {k:Nat} {S:Nat->Bool},(∀j,k≤j->S j=false)->∀p∈bE l xs k S,p.2.2=false
 | [],_,_,_,_,p,hp=>by simp[bE]at hp
 | _::_,[],_,_,_,p,hp=>by simp[bE]at hp
 | o::l,x::xs,k,S,h,p,hp=>by
  simp only[bE,List.mem_cons]at hp;rcases hp with rfl|hp
  .exact h k (Tw _)
  .exact rS (fun j hj=>h j (by omega)) p hp
theorem mj:∀{l:List O} {xs:List V} {k:Nat} {S S':Nat->Bool},(∀j,k≤j->j<k+l.length->S j=S' j)->bE l xs k S=bE l xs k S'
 | [],_,_,_,_,_=>by simp[bE]
 | _::_,[],_,_,_,_=>by simp[bE]
 | o::l,x::xs,k,S,S',h=>by
  simp only[bE];rw[h k (Tw _) (by simp),mj (l:=l) (xs:=xs) (k:=k+1) fun j h1 h2=>h j (by omega) (by simp only[SW];omega)]
theorem sm:∀{a b:List O} {xs ys:List V} {k:Nat} {S:Nat->Bool},xs.length=a.length->bE (a++b) (xs++ys) k S=bE a xs k S++bE b ys (k+a.length) S
 | [],_,[],_,_,_,_=>rfl
 | o::a,b,x::xs,ys,k,S,h=>by
  simp only[Tr,bE,SW];rw[sm (by simpa using h),show k+1+a.length=k+(a.length+1)by omega]
 | [],_,_::_,_,_,_,h=>by simp at h
 | _::_,_,[],_,_,_,h=>by simp at h
theorem As{l:List (Option Nat×V×Bool)}(h:∀p∈l,p.2.2=false)(ρ:ai)(t:Nat):get (bW l ρ) t=get ρ t:=im l ρ t fun p hp _=>h p hp
section
variable {C : Cx} {pr : Prot} {ρ : ai} {σ : LLV} {n : Nat} {Q : AEx -> ai -> LLV -> Prop}
theorem vH{M:av}{bm:List Nat}{tk:bv}{a:Act}{w:World}{ops:Array Oper}{o:O}{o':Oper}{x:V}(hG:C.glob M pr w)(h:SRel M bm tk pr ρ σ n a w)(hoo:okO C.tab n ops o o'=true)(hL:Loc C o ρ σ x):
 if Region.wanted o' (yielded ops a.tmps)then o'.wp C.P a w (oP M bm pr w n fun ρ' σ'=>ρ'=putd ρ o.dst x/\σ'=σ) (bG M bm pr w n Q)else SRel M bm tk pr (putd ρ o.dst x) σ n (a.put o'.dst undef) w:=by
 have hdst:o.dst=o'.dst:=by
  have:=hoo;unfold okO at this;simp only[SE,beq_iff_eq]at this;exact this.1.1.2
 have hdn:∀d,o'.dst=some d->d<n:=by
  have:=hoo;unfold okO at this;simp only[SE]at this;intro d hd;have:=this.1.2;rw[hd]at this;simpa using this
 have hgd:=hoo;unfold okO at hgd;simp only[SE]at hgd;replace hgd:=hgd.2
 have exec:bI C o.op ρ σ (fun v=>v=x)->o'.wp C.P a w (oP M bm pr w n fun ρ' σ'=>ρ'=putd ρ o.dst x/\σ'=σ) (bG M bm pr w n Q):=fun hc=>
  Oper.wp_mono2 (fun _ _ hh=>hh) (fun e a' w' ⟨_,_,_,_,_,_,hf,_⟩=>hf.elim) (d9 (Q:=fun _ _ _=>False) hG h hoo (vY hc))
 unfold Loc at hL;split at hL
 .rename_i hg;rw[hg]at hgd;split at hgd
  .rename_i hg2;rw[if_pos (by simp[Region.wanted,hg2])];exact exec hL
  .rename_i e _;cases e
  .cases hgd
 .rename_i t want hg;rw[hg]at hgd;split at hgd
  .rename_i e _;cases e
  .rename_i t' b' j b'' e hg2;cases e;simp only[SE,beq_iff_eq]at hgd;obtain⟨rfl,hj⟩:=hgd;split at hL
   .rename_i b hb;have hy:=ke h hb hj;by_cases hbw:b=want
    .rw[if_pos (by simp[Region.wanted,hg2,hy,hbw])];exact exec (hL.1 hbw)
    .rw[if_neg (by simp[Region.wanted,hg2,hy,hbw])];rw[hL.2 hbw,hdst];exact h.putd hdn nV (by simp)
   .rename_i hb;have hy:=qD h hb hj;rw[if_neg (by simp[Region.wanted,hg2,hy])];rw[hL,hdst];exact h.putd hdn nV (by simp)
   .exact hL.elim
  .cases hgd
theorem Bo(o:O):∀t∈o.looks,t∈o.looksN:=by
 intro t ht;unfold O.looks at ht;unfold O.looksN;rw[Tf]at ht ⊢;refine ht.imp (fun h=>?_) id;cases ho:o.op<;>rw[ho]at h<;>first|exact h|(simp[OP.slots]at h)
theorem K5{L:List O}{X:List V}(hX:X.length=L.length)(ρ:ai){S:Nat->Bool}{i:Nat}{o:O}{x:V}(ho:L[i]? = some o)(hx:X[i]? = some x)(hSi:S i=false)
 (hsame:∀t∈o.looksN++o.dst.toList,∀(j:Nat) (q:O),L[j]? = some q->j≠i->q.dst=some t->S j=decide (j<i)):
 (∀t∈o.looksN,get (bW (bE L X 0 fun j=>decide (j<i)) ρ) t=get (bW (bE L X 0 S) ρ) t)/\
 ∀t,get (bW (bE L X 0 fun j=>j==i||S j) ρ) t=get (putd (bW (bE L X 0 S) ρ) o.dst x) t:=by
 have hi:=(List.getElem?_eq_some_iff.1 ho).1;have hoi:L[i]=o:=(List.getElem?_eq_some_iff.1 ho).2;have hxi:X[i]'(by omega)=x:=by rw[SS (by omega)]at hx;exact Option.some.inj hx
 have hsteps:∀S:Nat->Bool,(bE L X 0 S).length=L.length:=fun S=>lp L X 0 S hX
 have hsg:∀(S:Nat->Bool) (i:Nat) (hi:i<(bE L X 0 S).length) (h1:i<L.length),(bE L X 0 S)[i]=(L[i].dst,X[i]'(by omega),S i):=fun S i hi h1=>by
  have:=lh L X 0 S i hi h1 (by omega);simpa using this
 refine⟨fun t ht=>?_,fun t=>?_⟩
 .refine fg _ _ ρ t (by rw[hsteps,hsteps]) (fun j g1 g2=>?_);rw[hsteps]at g1;rw[hsg _ j (by rw[hsteps];exact g1) g1,hsg _ j (by rw[hsteps];exact g1) g1];refine⟨rfl,rfl,fun hd=>?_⟩;by_cases e:j=i
  .subst e;rw[hSi];simp
  .exact(hsame t (by simp[ht]) j _ (SS g1) e hd).symm
 .rw[el];split
  .rename_i e
   have:=qm (bE L X 0 fun j=>j==i||S j) ρ i (by rw[hsteps];exact hi) t (by rw[hsg _ i _ hi,hoi];exact e) (by rw[hsg _ i _ hi];simp) (fun j hj hij hd=>by
    rw[hsteps]at hj;rw[hsg _ j _ hj]at hd ⊢;simp only at hd ⊢;rw[hsame t (by simp[e]) j _ (SS hj) (by omega) hd];simp;omega)
   rw[this,hsg _ i _ hi,hxi]
  .rename_i e;refine fg _ _ ρ t (by rw[hsteps,hsteps]) (fun j g1 g2=>?_);rw[hsteps]at g1;rw[hsg _ j (by rw[hsteps];exact g1) g1,hsg _ j (by rw[hsteps];exact g1) g1];refine⟨rfl,rfl,fun hd=>?_⟩;simp only at hd ⊢;have hne:j≠i:=fun ee=>by subst ee;rw[hoi]at hd;exact e hd
   simp[hne]
theorem vR{M0:av}{bm0:List Nat}{w0:World}(hG:C.glob M0 pr w0){id:Nat}{ops:Array Oper}{pre:List O}{x:X}{M:av}{bm:List Nat}{tk:bv}{a:Act}{w:World}(hok:ip C.tab n ops (pre++[⟨none,.pan x,none⟩]) ops.toList=true)(hdr:mX (pre.length-1) 0 (pre++[⟨none,.pan x,none⟩]) ops.toList=true)(hnp:1≤pre.length)
 (hl:Later M0 bm0 pr w0 M bm w)(h:SRel M bm tk pr ρ σ n a w)(hq:ba C pre ρ σ fun ρ'=>∃ty u,ev C ρ' x=.iface ty u/\∀ρ2,Q (.panic (.iface ty u)) ρ2 σ):
 (Code.region id ops true).wp C.P (bG M0 bm0 pr w0 n Q) a w:=by
 obtain⟨hlen,hget⟩:=iZ hok;have D:=yJ hdr;obtain⟨xs,hxl,⟨ρ1,⟨ty,u,he,hQ⟩,hρe⟩,hloc⟩:=o2 (k:=0) hq;have gpre:∀i (hi:i<pre.length),(pre++[(⟨none,.pan x,none⟩:O)])[i]? = some pre[i]:=fun i hi=>by rw[S0 hi,SS hi]
 have gpan:(pre++[(⟨none,.pan x,none⟩:O)])[pre.length]? = some ⟨none,.pan x,none⟩:=by rw[Te (Tw _)];simp
 have hLl:(pre++[(⟨none,.pan x,none⟩:O)]).length=pre.length+1:=by simp
 have conv:∀S,bW (bE (pre++[(⟨none,.pan x,none⟩:O)]) (xs++[.junk]) 0 S) ρ=bW (bE pre xs 0 S) ρ:=fun S=>by
  rw[sm hxl,ji];simp only[bE,bW,putd];split<;>rfl
 generalize hL:pre++[(⟨none,.pan x,none⟩:O)]=L at *;obtain⟨X,hX⟩:∃X,X=xs++[V.junk]:=⟨_,rfl⟩
 rw[<-hX]at conv
 have hXl:X.length=L.length:=by rw[hLl,hX];simp[hxl]
 have xpre:∀i (hi:i<xs.length),X[i]? = some xs[i]:=fun i hi=>by rw[hX,S0 hi,SS hi]
 have hnl:L.length=ops.size:=by rw[hlen];simp
 refine nB (M:=M) (bm:=bm) (tk:=tk) (fun S=>bW (bE L X 0 S) ρ) (fun _=>σ) ρ σ (fun S=>S pre.length=false) rfl (fun S S' hS hI=>by rw[<-hS _ (by omega)];exact hI) D.lt (fun S S' hS=>⟨fun t=>?_,rfl⟩) hl ?_ (fun hI=>by cases hI) ?_
 .show get (bW (bE L X 0 S) ρ) t=get (bW (bE L X 0 S') ρ) t;rw[mj (l:=L) (xs:=X) (k:=0) (S:=S) (S':=S') fun j _ hj=>hS j (by omega)]
 .exact h.congr fun t=>As (rS fun _ _=>rfl) ρ t
 intro S i o' ho' hSi hclo hedge hI M bm tk a w hl h;have hi1:i<ops.toList.length:=(List.getElem?_eq_some_iff.1 ho').1;have hi2:i<L.length:=by omega
 have hbef:∀j∈(bP ops.toList []).getD i [],S j=true:=dU D.lt (S:=fun j=>S j=true) hclo i o' ho' hedge
 have hbefj:∀q,q<L.length->S q=true->∀j∈(bP ops.toList []).getD q [],S j=true:=fun q hq hSq=>by
  have hq2:ops.toList[q]? = some ops.toList[q]:=SS (by omega);exact dU D.lt (S:=fun j=>S j=true) hclo q _ hq2 (hclo q _ hq2 hSq)
 have hsame:∀o,L[i]? = some o->∀t∈o.looksN++o.dst.toList,∀(j:Nat) (q:O),L[j]? = some q->j≠i->q.dst=some t->S j=decide (j<i):=by
  intro o hlo t ht j q hj hne hd;rcases D.cmp i o hlo t ht j q hj hd hne with⟨g1,g2⟩|⟨g1,g2⟩
  .rw[hbef j g2];simp[g1]
  .have:¬S j=true:=fun hjl=>by
    have:=hbefj j (List.getElem?_eq_some_iff.1 hj).1 hjl i g2;rw[hSi]at this;cases this
   have e:S j=false:=by simpa using this
   rw[e];simp;omega
 by_cases c1:i<pre.length
 .obtain⟨ρi,g2,g1⟩:=hloc i c1 (by omega);simp only[Tv]at g1;obtain⟨hgl,hn⟩:=K5 hXl ρ (gpre i c1) (xpre i (by omega)) hSi (hsame _ (gpre i c1))
  have hI':(pre.length==i||S pre.length)=false:=by
   have:(pre.length==i)=false:=by simp;omega
   rw[this,hI];rfl
  have:=vH (Q:=Q) (hG.mono hl) h (hget i _ o' (gpre i c1) ho') (g2.congr fun t ht=>by rw[g1 t,<-conv];exact hgl t (Bo _ t ht));split at this
  .rename_i hw;rw[if_pos hw];exact Oper.wp_mono2 (fun a' w' ⟨M',bm',tk',ρ',σ',⟨k1,k2⟩,k3,k4⟩=>⟨M',bm',tk',ρ',σ',⟨fun t=>by rw[k1];exact(hn t).symm,k2,hI'⟩,k3,k4⟩) (fun e a' w' hh=>hh) this
  .rename_i hw;rw[if_neg hw];exact⟨this.congr fun t=>hn t,hI'⟩
 .have c2:i=pre.length:=by omega
  subst c2;have hoo:=hget pre.length _ o' gpan ho'
  have hwant:Region.wanted o' (yielded ops a.tmps)=true:=by
   have hgd:=hoo;unfold okO at hgd;simp only[SE]at hgd;replace hgd:=hgd.2;split at hgd
   .rename_i hg2;simp[Region.wanted,hg2]
   .rename_i e _;cases e
   .cases hgd
  have hev:ev C (bW (bE L X 0 S) ρ) x=.iface ty u:=by
   rw[<-he];refine ca fun t _=>?_;rw[hρe t,conv,mj (l:=pre) (xs:=xs) (k:=0) (S:=S) (S':=fun _=>true) fun j _ hj=>hbef j (by have:=D.last j (by omega);rwa[show pre.length-1+1+0=pre.length by omega]at this)]
  rw[if_pos hwant];refine Oper.wp_mono2 (fun a' w' ⟨M',bm',tk',ρ',σ',hf,k3,k4⟩=>hf.elim) (fun e a' w' hh=>hh) (d9 (K:=fun _ _=>False) (Q:=Q) (hG.mono hl) h hoo ?_);simp only[cS,hev];exact hQ _
end
end Go.Proofs.YtnhphlmblenapaaGreatDoor
namespace Go.Proofs.YtnhphlmblenapaaGreatDoor
open Go.RowKit
inductive GK where
 | free (lo:Nat)
 | calm (lo hi:Nat)
 | slot (lo:Nat)
 | act
def GK.isAct:GK->Bool
 | .act=>true
 | _=>false
def OP.w1:OP->Option Nat
 | .mvo t=>some t
 | .app _ _ _ t _=>some t
 | .stoo _ t=>some t
 | _=>none
def OP.slotsG:OP->List Nat
 | .mvo t=>[t]
 | .app _ _ _ t y=>t::y.slots
 | .mkso _ _ xs=>xs.flatMap X.slots
 | .mkc _ _ _ x=>x.slots
 | .box _ x=>x.slots
 | .sto _ x y=>x.slots++y.slots
 | .stoo x t=>t::x.slots
 | .ldo x=>x.slots
 | .mst _ x y z=>x.slots++(y.slots++z.slots)
 | op=>op.slots
def O.looksG(o:O):List Nat:=o.op.slotsG++(match o.g with|some (t,_)=>[t]|none=>[])
def OP.isFree:OP->Bool
 | .load _ _ _ | .cbs _ | .mlk _ _ _ _ _ | .call _ _ | .callv _ _ | .calln _ _=>false
 | .mks _ _ _=>true
 | op=>cB op
def OP.isCalm:OP->Bool
 | .call _ _ | .callv _ _ | .calln _ _ | .mks _ _ _=>true
 | op=>cB op
def OP.isSlot:OP->Bool
 | .mvo _ | .nilo _ _ | .app _ _ _ _ _ | .mkso _ _ _ | .mkc _ _ _ _=>true
 | _=>false
def OP.isActG:OP->Option Nat->Bool
 | .sto _ _ _,d=>d.isNone
 | .stoo _ _,d=>d.isNone
 | .mst _ _ _ _,d=>d.isNone
 | .new _ _,_ | .box _ _,_ | .ldo _,_ | .call _ _,_ | .callv _ _,_=>true
 | _,_=>false
section
variable {C : Cx} {pr : Prot} {ρ : ai} {σ : LLV} {n : Nat} {Q : AEx -> ai -> LLV -> Prop}
theorem yo{o:O}(h:o.op.isCalm=true):o.looks=o.looksG:=by
 unfold O.looks O.looksG
 have:o.op.slots=o.op.slotsG:=by
  cases ho:o.op<;>rw[ho]at h<;>first|rfl|(simp[OP.isCalm,cB]at h)
 rw[this]<;>(cases o.g<;>rfl)
theorem Ga{op:OP}(h:op.isFree=true)(σ σ2:LLV):pv C op ρ σ=pv C op ρ σ2:=by
 cases op<;>first|rfl|(simp[OP.isFree,cB]at h)
theorem qT{op:OP}(h:op.isFree=true){k:V->Prop}(σ2:LLV)(hc:bI C op ρ σ k):bI C op ρ σ2 k:=by
 unfold bI at hc;split at hc
 .cases h
 .cases h
 .exact hc
 .cases h
 .rename_i n1 n2 n3 n4;rw[Ga h σ σ2]at hc;unfold bI;split
  .exact absurd rfl (n1 _ _)
  .exact absurd rfl (n2 _ _)
  .exact absurd rfl (n3 _ _ _)
  .exact absurd rfl (n4 _ _)
  .exact hc
theorem Loc.free{o:O}(h:o.op.isFree=true){x:V}(σ2:LLV)(hc:Loc C o ρ σ x):Loc C o ρ σ2 x:=by
 unfold Loc at hc ⊢;split at hc
 .exact qT h σ2 hc
 .split at hc
  .exact⟨fun e=>qT h σ2 (hc.1 e),hc.2⟩
  .exact hc
  .exact hc.elim
def oQ(C:Cx)(op:OP)(ρ:ai)(σ:LLV)(a b:V)(σ':LLV):Prop:=match op with
 | .mvo t=>∃T k rows,get ρ t=.own T k rows/\a=.d (.sl rows)/\b=.own T k rows/\σ'=σ
 | .nilo T k=>b=.own T k []/\σ'=σ
 | .app T k bytes t y=>∃rows rows2,get ρ t=.own T k rows/\fy (ev C ρ y)=some rows2/\(rows2.all (fun r=>r.length==k)=true/\(rows.length+rows2.length)*bytes≤140737488355328)/\a=.d (.sl rows)/\b=.own T k (rows++rows2)/\σ'=σ
 | .mkso T k xs=>∃rows,dE (xs.map (ev C ρ))=some rows/\rows.all (fun r=>r.length==k)=true/\b=.own T k rows/\σ'=σ
 | .mkc T k bytes x=>∃kd n,ev C ρ x=.d (.lit (.int kd n))/\(0≤n/\n*bytes≤140737488355328)/\b=.own T k []/\σ'=σ
 | .new _ cs=>b=.ptr σ.length 0/\σ'=σ++[cs]
 | .box _ x=>(ev C ρ x).boxable=true/\b=.ptr σ.length 0/\σ'=σ++[(ev C ρ x).cells]
 | .sto k x y=>∃i o cs,ev C ρ x=.ptr i o/\σ[i]? = some cs/\((ev C ρ y).boxable=true/\(ev C ρ y).cells.length=k/\o+k≤cs.length/\cy cs=true)/\σ'=σ.set i (over cs o (ev C ρ y).cells)
 | .stoo x t=>∃i o T k rows cs,ev C ρ x=.ptr i o/\get ρ t=.own T k rows/\σ[i]? = some cs/\(o<cs.length/\cy cs=true)/\a=.d (.sl rows)/\σ'=σ.set i (over cs o [.own T k rows])
 | .ldo x=>∃i o cs T k rows,ev C ρ x=.ptr i o/\σ[i]? = some cs/\cs[o]? = some (.own T k rows)/\b=.own T k rows/\σ'=σ.set i (cs.set o (.d (.sl rows)))
 | .mst st x k v=>∃kv key,ii st σ (ev C ρ x)=some kv/\lu st (ev C ρ k)=some key/\σ'=ou σ st (lV key (ev C ρ v).copy kv) (ev C ρ x)
 | .call f args=>Fun C f (args.map fun x=>(ev C ρ x).lend) σ (fun o σ''=>o=.ret b/\σ''=σ')
 | .callv x args=>∃f cap,ev C ρ x=.fn f cap/\Fun C f ((args.map fun x=>(ev C ρ x).lend)++cap) σ (fun o σ''=>o=.ret b/\σ''=σ')
 | _=>False
def ap(o:O)(w:V×V)(ρ:ai):ai:=putd (putd ρ o.op.w1 w.1) o.dst w.2
theorem qM(o:O)(w:V×V)(ρ:ai)(t:Nat):get (ap o w ρ) t=if o.dst=some t then w.2 else if o.op.w1=some t then w.1 else get ρ t:=by
 unfold ap;rw[el,el]
theorem Eu{o:O}{a b:V}{σ':LLV}(hc:o.op.isSlot=true\/o.op.isActG o.dst=true)(h:oQ C o.op ρ σ a b σ'):cS C o.op o.dst ρ σ (fun ρ' σ''=>ρ'=ap o (a,b) ρ/\σ''=σ') Q:=by
 obtain⟨d,op,g⟩:=o;unfold ap;cases op<;>simp only[oQ]at h<;>simp only[cS,OP.w1,putd]<;>first|exact h.elim|skip
 case mvo t=>obtain⟨T,k,rows,h1,rfl,rfl,rfl⟩:=h;rw[h1];first|exact⟨rfl,rfl⟩|exact⟨trivial,trivial⟩
 case nilo=>obtain⟨rfl,rfl⟩:=h;first|exact⟨rfl,rfl⟩|exact⟨trivial,trivial⟩
 case app=>obtain⟨rows,rows2,h1,h2,h3,rfl,rfl,rfl⟩:=h;rw[h1,h2];exact⟨⟨rfl,rfl,h3⟩,rfl,rfl⟩
 case mkso=>obtain⟨rows,h1,h2,rfl,rfl⟩:=h;rw[h1];exact⟨h2,rfl,rfl⟩
 case mkc=>obtain⟨kd,m,h1,h2,rfl,rfl⟩:=h;rw[h1];exact⟨h2,rfl,rfl⟩
 case new=>obtain⟨rfl,rfl⟩:=h;first|exact⟨rfl,rfl⟩|exact⟨trivial,trivial⟩
 case box=>obtain⟨h1,rfl,rfl⟩:=h;first|exact⟨h1,rfl,rfl⟩|exact⟨h1,trivial,trivial⟩
 case sto=>
  have hd:d=none:=by simpa[OP.isSlot,OP.isActG]using hc
  subst hd;obtain⟨i,o,cs,h1,h2,h3,rfl⟩:=h;rw[h1];simp only[h2];first|exact⟨h3,rfl,rfl⟩|exact⟨h3,trivial,trivial⟩
 case stoo=>
  have hd:d=none:=by simpa[OP.isSlot,OP.isActG]using hc
  subst hd;obtain⟨i,o,T,k,rows,cs,h1,h2,h3,h4,rfl,rfl⟩:=h;rw[h1,h2];simp only[h3];first|exact⟨h4,rfl,rfl⟩|exact⟨h4,trivial,trivial⟩
 case ldo=>obtain⟨i,o,cs,T,k,rows,h1,h2,h3,rfl,rfl⟩:=h;rw[h1];simp only[h2,h3];first|exact⟨rfl,rfl⟩|exact⟨trivial,trivial⟩
 case mst=>
  have hd:d=none:=by simpa[OP.isSlot,OP.isActG]using hc
  subst hd;obtain⟨kv,key,h1,h2,rfl⟩:=h;rw[h1];simp only[h2];first|exact⟨rfl,rfl⟩|exact⟨trivial,trivial⟩
 case call=>exact h.mono fun o σ'' ⟨e1,e2⟩=>by subst e1;exact⟨rfl,e2⟩
 case callv=>
  obtain⟨f,cap,h1,h2⟩:=h;rw[h1];exact h2.mono fun o σ'' ⟨e1,e2⟩=>by subst e1;exact⟨rfl,e2⟩
theorem l8{o:O}(hc:o.op.isSlot=true\/(o.op.isActG o.dst=true/\(∀f args,o.op≠.call f args)/\∀x args,o.op≠.callv x args)){K:ai->LLV->Prop}(h:cS C o.op o.dst ρ σ K Q):∃a b σ',oQ C o.op ρ σ a b σ'/\K (ap o (a,b) ρ) σ'/\(o.op.isSlot=true->σ'=σ):=by
 obtain⟨d,op,g⟩:=o;unfold ap;cases op<;>first|(exfalso;simp[OP.isSlot,OP.isActG]at hc;done)|skip
 all_goals simp only[cS]at h
 case mvo t=>
  split at h
  .rename_i T k rows e;exact⟨_,_,σ,⟨T,k,rows,e,rfl,rfl,rfl⟩,h,fun _=>rfl⟩
  .exact h.elim
 case nilo T k=>exact⟨.junk,_,σ,⟨rfl,rfl⟩,h,fun _=>rfl⟩
 case app T k bytes t y=>
  split at h
  .rename_i T' k' rows rows2 e1 e2;obtain⟨⟨rfl,rfl,h1⟩,h2⟩:=h;exact⟨_,_,σ,⟨rows,rows2,e1,e2,h1,rfl,rfl,rfl⟩,h2,fun _=>rfl⟩
  .exact h.elim
 case mkso=>
  split at h
  .rename_i rows e;exact⟨.junk,_,σ,⟨rows,e,h.1,rfl,rfl⟩,h.2,fun _=>rfl⟩
  .exact h.elim
 case mkc=>
  split at h
  .rename_i kd m e;exact⟨.junk,_,σ,⟨kd,m,e,h.1,rfl,rfl⟩,h.2,fun _=>rfl⟩
  .exact h.elim
 case new=>exact⟨.junk,_,_,⟨rfl,rfl⟩,h,fun e=>by cases e⟩
 case box=>exact⟨.junk,_,_,⟨h.1,rfl,rfl⟩,h.2,fun e=>by cases e⟩
 case sto=>
  have hd:d=none:=by simpa[OP.isSlot,OP.isActG]using hc
  subst hd;split at h
  .rename_i i o e;split at h
   .rename_i cs e2;exact⟨.junk,.junk,_,⟨i,o,cs,e,e2,h.1,rfl⟩,h.2,fun e=>by cases e⟩
   .exact h.elim
  .exact h.elim
 case stoo=>
  have hd:d=none:=by simpa[OP.isSlot,OP.isActG]using hc
  subst hd;split at h
  .rename_i i o T k rows e e1;split at h
   .rename_i cs e2;exact⟨_,.junk,_,⟨i,o,T,k,rows,cs,e,e1,e2,h.1,rfl,rfl⟩,h.2,fun e=>by cases e⟩
   .exact h.elim
  .exact h.elim
 case ldo=>
  split at h
  .rename_i i o e;split at h
   .rename_i cs e2;split at h
    .rename_i T k rows e3;exact⟨.junk,_,_,⟨i,o,cs,T,k,rows,e,e2,e3,rfl,rfl⟩,h,fun e=>by cases e⟩
    .exact h.elim
   .exact h.elim
  .exact h.elim
 case mst=>
  have hd:d=none:=by simpa[OP.isSlot,OP.isActG]using hc
  subst hd;split at h
  .rename_i kv key e1 e2;exact⟨.junk,.junk,_,⟨kv,key,e1,e2,rfl⟩,h,fun e=>by cases e⟩
  .exact h.elim
theorem xM{op:OP}{ρ ρ':ai}{a b:V}{σ':LLV}(h:∀t∈op.slotsG,get ρ t=get ρ' t)(hr:oQ C op ρ σ a b σ'):oQ C op ρ' σ a b σ':=by
 have e1:∀(x:X),(∀t∈x.slots,t∈op.slotsG)->ev C ρ x=ev C ρ' x:=fun x hx=>ca fun t ht=>h t (hx t ht);cases op<;>simp only[oQ]at hr ⊢ <;>simp only[OP.slotsG,OP.slots]at h e1<;>first|exact hr.elim|exact hr|skip
 case mvo t=>rw[<-h t (by simp)];exact hr
 case app T k bytes t y=>rw[<-h t (by simp),<-e1 y (fun t ht=>by simp[ht])];exact hr
 case mkso=>rw[<-jq h];exact hr
 case mkc x=>rw[<-e1 x (fun t ht=>ht)];exact hr
 case box x=>rw[<-e1 x (fun t ht=>ht)];exact hr
 case sto x y=>rw[<-e1 x (fun t ht=>by simp[ht]),<-e1 y (fun t ht=>by simp[ht])];exact hr
 case stoo x t=>rw[<-h t (by simp),<-e1 x (fun t ht=>by simp[ht])];exact hr
 case ldo x=>rw[<-e1 x (fun t ht=>ht)];exact hr
 case mst st x y z=>rw[<-e1 x (fun t ht=>by simp[ht]),<-e1 y (fun t ht=>by simp[ht]),<-e1 z (fun t ht=>by simp[ht])];exact hr
 case call f args=>
  have:(args.map fun x=>(ev C ρ' x).lend)=args.map fun x=>(ev C ρ x).lend:=SV fun x hx=>by rw[e1 x fun t ht=>List.mem_flatMap.2 ⟨x,hx,ht⟩]
  rw[this];exact hr
 case callv y args=>
  have:(args.map fun x=>(ev C ρ' x).lend)=args.map fun x=>(ev C ρ x).lend:=SV fun x hx=>by rw[e1 x fun t ht=>Tg _ (List.mem_flatMap.2 ⟨x,hx,ht⟩)]
  rw[this,<-e1 y (fun t ht=>by simp[ht])];exact hr
def BU(C:Cx)(op:OP)(ρ:ai)(σ:LLV)(P:V->LLV->Prop):Prop:=match op with
 | .call f args=>Fun C f (args.map fun x=>(ev C ρ x).lend) σ (fun o σ'=>∃u,o=.panic u/\P u σ')
 | .callv x args=>∃f cap,ev C ρ x=.fn f cap/\Fun C f ((args.map fun x=>(ev C ρ x).lend)++cap) σ (fun o σ'=>∃u,o=.panic u/\P u σ')
 | _=>False
theorem Dc{o:O}{P:V->LLV->Prop}(h:BU C o.op ρ σ P):cS C o.op o.dst ρ σ (fun _ _=>False) (fun e _ σ'=>∃u,e=.panic u/\P u σ'):=by
 obtain⟨d,op,g⟩:=o;cases op;case call=>exact Fun.mono h fun o σ'' ⟨u,e1,e2⟩=>by subst e1;exact⟨u,rfl,e2⟩
 case callv=>
  obtain⟨f,cap,h1,h2⟩:=h;simp only[cS];rw[h1];exact h2.mono fun o σ'' ⟨u,e1,e2⟩=>by subst e1;exact⟨u,rfl,e2⟩
 all_goals exact h.elim
theorem xa{op:OP}{ρ ρ':ai}{P:V->LLV->Prop}(h:∀t∈op.slotsG,get ρ t=get ρ' t)(hr:BU C op ρ σ P):BU C op ρ' σ P:=by
 have e1:∀(x:X),(∀t∈x.slots,t∈op.slotsG)->ev C ρ x=ev C ρ' x:=fun x hx=>ca fun t ht=>h t (hx t ht);cases op<;>simp only[BU]at hr ⊢ <;>simp only[OP.slotsG,OP.slots]at h e1<;>first|exact hr.elim|exact hr|skip
 case call f args=>
  have:(args.map fun x=>(ev C ρ' x).lend)=args.map fun x=>(ev C ρ x).lend:=SV fun x hx=>by rw[e1 x fun t ht=>List.mem_flatMap.2 ⟨x,hx,ht⟩]
  rw[this];exact hr
 case callv y args=>
  have:(args.map fun x=>(ev C ρ' x).lend)=args.map fun x=>(ev C ρ x).lend:=SV fun x hx=>by rw[e1 x fun t ht=>Tg _ (List.mem_flatMap.2 ⟨x,hx,ht⟩)]
  rw[this,<-e1 y (fun t ht=>by simp[ht])];exact hr
structure PendG where
 o:O
 ρ:ai
 ρ':ai
 hi:Nat
def reG(C:Cx)(m:Nat)(σ':LLV):List PendG->Prop
 | []=>True
 | p::r=>(if m≤p.hi then ba C [p.o] p.ρ σ' (fun ρ'=>ρ'=p.ρ')else True)/\reG C m σ' r
def mw(C:Cx)(o:O)(ρ ρ':ai):Nat->List LLV->Prop
 | 0,_=>True
 | _+1,[]=>False
 | k+1,σ::h=>ba C [o] ρ σ (fun ρ''=>ρ''=ρ')/\mw C o ρ ρ' k h
def wB(m hi:Nat)(x:PendG)(p:List PendG):List PendG:=if m<hi then x::p else p
def eZ(C:Cx):List (O×GK)->Nat->List LLV->ai->LLV->Prop
 | [],_,_,_,_=>True
 | (o,.free lo)::r,m,h,ρ,σ=>if lo≤m then ba C [o] ρ σ fun ρ'=>eZ C r m h ρ' σ else eZ C r m h (ap o (.junk,.junk) ρ) σ
 | (o,.calm lo _)::r,m,h,ρ,σ=>if lo≤m then ba C [o] ρ σ fun ρ'=>mw C o ρ ρ' (m-lo) h/\eZ C r m h ρ' σ else eZ C r m h (ap o (.junk,.junk) ρ) σ
 | (o,.slot lo)::r,m,h,ρ,σ=>if lo≤m then ck C [o] ρ σ (fun e ρ' _=>e=.normal/\eZ C r m h ρ' σ)else eZ C r m h (ap o (.junk,.junk) ρ) σ
 | (o,.act)::r,m,h,ρ,σ=>eZ C r m h (ap o (.junk,.junk) ρ) σ
def eG(C:Cx)(P:V->LLV->Prop)(K:ai->LLV->Prop):List (O×GK)->Nat->List LLV->List PendG->ai->LLV->Prop
 | [],_,_,_,ρ,σ=>K ρ σ
 | (o,.free _)::r,m,h,p,ρ,σ=>ba C [o] ρ σ fun ρ'=>eG C P K r m h p ρ' σ
 | (o,.calm lo hi)::r,m,h,p,ρ,σ=>ba C [o] ρ σ fun ρ'=>mw C o ρ ρ' (m-lo) h/\eG C P K r m h (wB m hi ⟨o,ρ,ρ',hi⟩ p) ρ' σ
 | (o,.slot _)::r,m,h,p,ρ,σ=>ck C [o] ρ σ fun e ρ' σ'=>e=.normal/\eG C P K r m h p ρ' σ'
 | (⟨d,.call f args,g⟩,.act)::r,m,h,p,ρ,σ=>
  (∃v σ1,Fun C f (args.map fun x=>(ev C ρ x).lend) σ (fun o σ'=>o=.ret v/\σ'=σ1)/\reG C (m+1) σ1 p/\eG C P K r (m+1) (σ::h) p (putd ρ d v) σ1)\/
  (Fun C f (args.map fun x=>(ev C ρ x).lend) σ (fun o σ'=>∃u,o=.panic u/\P u σ')/\eZ C r m h (putd ρ d .junk) σ)
 | (⟨d,.callv x args,g⟩,.act)::r,m,h,p,ρ,σ=>∃f cap,ev C ρ x=.fn f cap/\
  ((∃v σ1,Fun C f ((args.map fun x=>(ev C ρ x).lend)++cap) σ (fun o σ'=>o=.ret v/\σ'=σ1)/\reG C (m+1) σ1 p/\eG C P K r (m+1) (σ::h) p (putd ρ d v) σ1)\/
  (Fun C f ((args.map fun x=>(ev C ρ x).lend)++cap) σ (fun o σ'=>∃u,o=.panic u/\P u σ')/\eZ C r m h (putd ρ d .junk) σ))
 | (o,.act)::r,m,h,p,ρ,σ=>ck C [o] ρ σ fun e ρ' σ'=>e=.normal/\reG C (m+1) σ' p/\eG C P K r (m+1) (σ::h) p ρ' σ'
def c7:List (O×GK)->(Nat->V×V)->Nat->(Nat->Bool)->ai->ai
 | [],_,_,_,ρ=>ρ
 | e::l,W,k,S,ρ=>c7 l W (k+1) S (if S k then ap e.1 (W k) ρ else ρ)
theorem nw:∀(l:List (O×GK)) (W:Nat->V×V) (k:Nat) (S:Nat->Bool) (ρ ρ':ai) (t:Nat),get ρ t=get ρ' t->get (c7 l W k S ρ) t=get (c7 l W k S ρ') t
 | [],_,_,_,_,_,_,h=>h
 | e::l,W,k,S,ρ,ρ',t,h=>by
  simp only[c7];apply nw l;cases S k
  .exact h
  .simp only[if_true,qM,h]
def O.writes(o:O)(t:Nat):Prop:=o.dst=some t\/o.op.w1=some t
theorem hH:∀(l:List (O×GK)) (W:Nat->V×V) (k:Nat) (S S':Nat->Bool) (ρ:ai) (t:Nat),(∀i e,l[i]? = some e->e.1.writes t->S (k+i)=S' (k+i))->get (c7 l W k S ρ) t=get (c7 l W k S' ρ) t
 | [],_,_,_,_,_,_,_=>rfl
 | e::l,W,k,S,S',ρ,t,h=>by
  simp only[c7];rw[hH l W (k+1) S S' _ t fun i e' he hw=>by have:=h (i+1) e' (by simpa using he) hw;rwa[show k+(i+1)=k+1+i by omega]at this];apply nw;have h0:=h 0 e (by simp);by_cases hw:e.1.writes t
  .rw[show S k=S' k from h0 hw]
  .unfold O.writes at hw;have h1:¬e.1.dst=some t:=fun h=>hw (.inl h);have h2:¬e.1.op.w1=some t:=fun h=>hw (.inr h);cases S k<;>cases S' k<;>simp[qM,h1,h2]
theorem xL:∀(l:List (O×GK)) (W W':Nat->V×V) (k:Nat) (S:Nat->Bool) (ρ:ai),(∀i,k≤i->W i=W' i)->c7 l W k S ρ=c7 l W' k S ρ
 | [],_,_,_,_,_,_=>rfl
 | e::l,W,W',k,S,ρ,h=>by
  simp only[c7];rw[h k (Tw _),xL l W W' (k+1) S _ fun i hi=>h i (by omega)]
theorem j5:∀(l:List (O×GK)) (W:Nat->V×V) (k:Nat) (S:Nat->Bool) (ρ:ai),(∀j,k≤j->S j=false)->c7 l W k S ρ=ρ
 | [],_,_,_,_,_=>rfl
 | e::l,W,k,S,ρ,h=>by
  simp only[c7];rw[h k (Tw _),j5 l W (k+1) S _ fun j hj=>h j (by omega)];rfl
theorem nW:∀(l:List (O×GK)) (W:Nat->V×V) (k:Nat) (ρ:ai) (i:Nat) (e:O×GK),l[i]? = some e->c7 l W k (fun j=>decide (j<k+i+1)) ρ=ap e.1 (W (k+i)) (c7 l W k (fun j=>decide (j<k+i)) ρ)
 | [],_,_,_,_,_,h=>by simp at h
 | e'::l,W,k,ρ,0,e,h=>by
  simp at h;subst h;simp only[c7];rw[j5 _ _ _ _ _ (fun j hj=>by simp;omega),j5 _ _ _ _ _ (fun j hj=>by simp;omega)];simp
 | e'::l,W,k,ρ,i+1,e,h=>by
  simp only[c7];have:=nW l W (k+1) ρ i e (by simpa using h);rw[if_pos (by simp;omega),if_pos (by simp)];have e1:k+(i+1)=k+1+i:=by omega
  rw[e1];exact nW l W (k+1) _ i e (by simpa using h)
theorem AZ{l:List (O×GK)}(W:Nat->V×V)(ρ:ai){S:Nat->Bool}{i:Nat}{e:O×GK}(he:l[i]? = some e)(hSi:S i=false)
 (hsame:∀t,(t∈e.1.looksG\/e.1.writes t)->∀(j:Nat) (q:O×GK),l[j]? = some q->j≠i->q.1.writes t->S j=decide (j<i)):
 (∀t∈e.1.looksG,get (c7 l W 0 (fun j=>decide (j<i)) ρ) t=get (c7 l W 0 S ρ) t)/\
 ∀t,get (c7 l W 0 (fun j=>j==i||S j) ρ) t=get (ap e.1 (W i) (c7 l W 0 S ρ)) t:=by
 refine⟨fun t ht=>?_,fun t=>?_⟩
 .refine hH l W 0 _ _ ρ t fun j q hq hw=>?_;rw[Tv];by_cases e:j=i
  .subst e;rw[hSi];simp
  .exact(hsame t (.inl ht) j q hq e hw).symm
 .by_cases hw:e.1.writes t
  .have h1:=nW l W 0 ρ i e he;rw[Tv]at h1
   have h2:get (c7 l W 0 (fun j=>j==i||S j) ρ) t=get (c7 l W 0 (fun j=>decide (j<i+1)) ρ) t:=hH l W 0 _ _ ρ t fun j q hq hw'=>by
    rw[Tv];by_cases e:j=i
    .subst e;simp
    .simp only[hsame t (.inr hw) j q hq e hw'];have:(j==i)=false:=by simp[e]
     rw[this,SI,decide_eq_decide];omega
   rw[h2,h1,qM,qM];unfold O.writes at hw;split
   .rfl
   .rename_i h3;rw[if_pos (hw.resolve_left h3),if_pos (hw.resolve_left h3)]
  .have h1:¬e.1.dst=some t:=fun h=>hw (.inl h);have h2:¬e.1.op.w1=some t:=fun h=>hw (.inr h);rw[qM,if_neg h1,if_neg h2];refine hH l W 0 _ _ ρ t fun j q hq hw'=>?_;rw[Tv]
   have:(j==i)=false:=by
    rw[beq_eq_false_iff_ne];intro ee;subst ee;rw[he]at hq;cases hq;exact hw hw'
   simp[this]
def nA:List (O×GK)->Nat->(Nat->Bool)->Nat
 | [],_,_=>0
 | e::l,k,S=>(if(e.2.isAct&&S k)=true then 1 else 0)+nA l (k+1) S
def nb:List (O×GK)->Nat->Nat
 | _,0=>0
 | [],_+1=>0
 | e::l,i+1=>(if e.2.isAct=true then 1 else 0)+nb l i
theorem mz:∀(l:List (O×GK)) (k:Nat) (S S':Nat->Bool),(∀j,j<l.length->S (k+j)=S' (k+j))->nA l k S=nA l k S'
 | [],_,_,_,_=>rfl
 | e::l,k,S,S',h=>by
  simp only[nA];rw[show S k=S' k from h 0 (by simp),mz l (k+1) S S' fun j hj=>by have:=h (j+1) (by simpa using hj);rwa[show k+(j+1)=k+1+j by omega]at this]
theorem yK:∀(l:List (O×GK)) (k:Nat),nA l k (fun _=>true)=nb l l.length
 | [],_=>rfl
 | e::l,k=>by simp only[nA,SW,nb,SJ];rw[yK l (k+1)]
theorem tj:∀(l:List (O×GK)) (k:Nat),nA l k (fun _=>false)=0
 | [],_=>rfl
 | e::l,k=>by simp only[nA,SM];rw[tj l (k+1)];rfl
theorem Ik:∀(l:List (O×GK)) (k:Nat) (S:Nat->Bool) (c lo:Nat),(∀j e,l[j]? = some e->e.2.isAct=true->c+nb l j<lo->S (k+j)=true)->min lo (c+nb l l.length)≤c+nA l k S
 | [],k,S,c,lo,h=>by simp only[nA,Tt,nb];omega
 | e::l,k,S,c,lo,h=>by
  simp only[nA,SW,nb]
  have ih:=fun c' (hc':∀j,c'+nb l j<lo->c+((if e.2.isAct=true then 1 else 0)+nb l j)<lo)=>Ik l (k+1) S c' lo (fun j e' he ha hn=>by
   have:=h (j+1) e' (by simpa using he) ha (by simp only[nb];exact hc' j hn);rwa[show k+(j+1)=k+1+j by omega]at this)
  cases ha:e.2.isAct with
  | false=>
   have:=ih c (fun j hn=>by simp only[ha];simp;omega);simp only[SO];simp;omega
  | true=>
   have:=ih (c+1) (fun j hn=>by simp only[ha];simp;omega);by_cases hlt:c<lo
   .have h0:=h 0 e (by simp) ha (by simp only[nb];omega);simp only[Ty]at h0;simp only[h0,Bool.and_self];simp;omega
   .omega
theorem IQ:∀(l:List (O×GK)) (k:Nat) (S:Nat->Bool) (c hi:Nat),(∀j e,l[j]? = some e->e.2.isAct=true->hi≤c+nb l j->S (k+j)=false)->c+nA l k S≤max c hi
 | [],k,S,c,hi,h=>by simp only[nA];omega
 | e::l,k,S,c,hi,h=>by
  simp only[nA]
  have ih:=fun c' (hc':∀j,hi≤c'+nb l j->hi≤c+((if e.2.isAct=true then 1 else 0)+nb l j))=>IQ l (k+1) S c' hi (fun j e' he ha hn=>by
   have:=h (j+1) e' (by simpa using he) ha (by simp only[nb];exact hc' j hn);rwa[show k+(j+1)=k+1+j by omega]at this)
  cases ha:e.2.isAct with
  | false=>
   have:=ih c (fun j hn=>by simp only[ha];simp;omega);simp only[SO];simp;omega
  | true=>
   have:=ih (c+1) (fun j hn=>by simp only[ha];simp;omega);by_cases hlt:c<hi
   .split<;>omega
   .have h0:=h 0 e (by simp) ha (by simp only[nb];omega);simp only[Ty]at h0;simp only[h0,SM];simp;omega
theorem DJ:∀(l:List (O×GK)) (k:Nat) (S:Nat->Bool) (i:Nat) (e:O×GK),l[i]? = some e->S (k+i)=false->nA l k (fun j=>j==k+i||S j)=nA l k S+if e.2.isAct=true then 1 else 0
 | [],_,_,_,_,h,_=>by simp at h
 | e'::l,k,S,0,e,h,hS=>by
  simp at h;subst h;simp only[Ty]at hS ⊢;simp only[nA,hS,SM,beq_self_eq_true,SP,SJ]
  rw[mz l (k+1) (fun j=>j==k||S j) S fun j hj=>by
   have:(k+1+j==k)=false:=by simp;omega
   simp[this]]
  simp;omega
 | e'::l,k,S,i+1,e,h,hS=>by
  simp only[nA];have e1:k+(i+1)=k+1+i:=by omega
  rw[e1]at hS ⊢;rw[DJ l (k+1) S i e (by simpa using h) hS];have:(k==k+1+i)=false:=by simp;omega
  simp only[this,SI];omega
def mA(C:Cx)(P:V->LLV->Prop)(e:O×GK)(k z:Nat)(sq:Nat->LLV)(ρi:ai)(w:V×V):Prop:=match e.2 with
 | .free lo=>lo≤z->∀σ,Loc C e.1 ρi σ w.2
 | .calm lo hi=>lo≤z->∀q,lo≤q->q≤hi->q≤z->Loc C e.1 ρi (sq q) w.2
 | .slot lo=>lo≤z->∀σ,oQ C e.1.op ρi σ w.1 w.2 σ
 | .act=>(k<z->oQ C e.1.op ρi (sq k) w.1 w.2 (sq (k+1)))/\(k=z->BU C e.1.op ρi (sq z) P)
def jL(e:O×GK)(k:Nat):Bool:=match e.2 with
 | .free lo=>e.1.op.isFree&&e.1.op.isCalm&&decide (lo≤k)
 | .calm lo hi=>e.1.op.isCalm&&e.1.dst.isSome&&decide (lo≤k)&&decide (k≤hi)
 | .slot lo=>e.1.op.isSlot&&e.1.g.isNone&&decide (lo≤k)
 | .act=>e.1.op.isActG e.1.dst&&e.1.g.isNone
theorem pQ{o:O}{K:ai->Prop}(h:ba C [o] ρ σ K):∃x ρ',Loc C o ρ σ x/\K ρ'/\∀t,get ρ' t=get (putd ρ o.dst x) t:=by
 obtain⟨xs,hl,⟨ρ',h1,h2⟩,h3⟩:=o2 (k:=0) h
 match xs,hl with
 | [x],_=>
  obtain⟨ρi,g1,g2⟩:=h3 0 (by simp) (by simp);refine⟨x,ρ',g1.congr fun t _=>?_,h1,fun t=>?_⟩
  .rw[g2 t];simp[bE,bW]
  .rw[h2 t];simp[bE,bW]
theorem qe{o:O}{ρ':ai}{x:V}{d:Nat}(hd:o.dst=some d)(hg:∀t,get ρ' t=get (putd ρ o.dst x) t)(h:ba C [o] ρ σ fun ρ''=>ρ''=ρ'):Loc C o ρ σ x:=by
 obtain⟨x2,ρ2,h1,rfl,h3⟩:=pQ h;have h4:=h3 d;have h5:=hg d;rw[el,if_pos hd]at h4 h5;rw[<-h5,h4];exact h1
theorem ze{o:O}(h:o.op.isCalm=true):o.op.w1=none:=by
 cases ho:o.op<;>rw[ho]at h<;>first|rfl|(simp[OP.isCalm,cB]at h)
theorem pj{o:O}(h:o.op.isCalm=true)(a x:V)(ρ:ai):ap o (a,x) ρ=putd ρ o.dst x:=by
 unfold ap;rw[ze h];rfl
theorem qO{o:O}{ρ':ai}:∀{n:Nat} {h:List LLV},mw C o ρ ρ' n h->∀r,r<n->∃σ,h[r]? = some σ/\ba C [o] ρ σ fun ρ''=>ρ''=ρ'
 | 0,_,_,r,hr=>by omega
 | n+1,[],hb,_,_=>hb.elim
 | n+1,σ::h,hb,0,_=>⟨σ,rfl,hb.1⟩
 | n+1,σ::h,hb,r+1,hr=>by
  obtain⟨σ',h1,h2⟩:=qO hb.2 r (by omega);exact⟨σ',by simpa using h1,h2⟩
theorem D5{m:Nat}{σ':LLV}:∀{p:List PendG},reG C m σ' p->∀q∈p,m≤q.hi->ba C [q.o] q.ρ σ' fun ρ'=>ρ'=q.ρ'
 | [],_,_,hq,_=>by simp at hq
 | x::p,h,q,hq,hm=>by
  rcases List.mem_cons.1 hq with rfl|hq
  .have:=h.1;rwa[if_pos hm]at this
  .exact D5 h.2 q hq hm
theorem fP{P:V->LLV->Prop}{e:O×GK}{l:List (O×GK)}{k m m' z:Nat}{sq:Nat->LLV}{ρ ρ2:ai}{w:V×V}{W:Nat->V×V}(hm:m'=m+if e.2.isAct=true then 1 else 0)
 (h0:mA C P e m z sq ρ w)(hρ2:∀t,get ρ2 t=get (ap e.1 w ρ) t)
 (ht:∀i (hi:i<l.length),∃ρi,(∀t,get ρi t=get (c7 l W (k+1) (fun j=>decide (j<k+1+i)) ρ2) t)/\mA C P l[i] (m'+nb l i) z sq ρi (W (k+1+i))):
 ∀i (hi:i<(e::l).length),∃ρi,(∀t,get ρi t=get (c7 (e::l) (fun i=>if i=k then w else W i) k (fun j=>decide (j<k+i)) ρ) t)/\mA C P (e::l)[i] (m+nb (e::l) i) z sq ρi (if k+i=k then w else W (k+i)):=by
 intro i hi;cases i with
 | zero=>
  refine⟨ρ,fun t=>?_,?_⟩
  .rw[j5 _ _ _ _ _ fun j hj=>by simp;omega]
  .simpa[nb]using h0
 | succ i=>
  obtain⟨ρi,g1,g2⟩:=ht i (by simpa using hi);refine⟨ρi,fun t=>?_,?_⟩
  .rw[g1 t];simp only[c7,if_pos (show decide (k<k+(i+1))=true by simp),if_true];rw[xL l (fun i=>if i=k then w else W i) W (k+1) _ _ fun j hj=>if_neg (by omega),show k+(i+1)=k+1+i by omega];exact nw _ _ _ _ _ _ _ (hρ2 t)
  .simp only[Tm,nb];have hne:¬(k+(i+1)=k):=by omega
   simp only[if_neg hne];rw[show k+(i+1)=k+1+i by omega,<-TA,<-hm];exact g2
theorem ni{P:V->LLV->Prop}{m:Nat}{h:List LLV}{sq:Nat->LLV}(hs:sq m=σ)(hh:∀r,r<m->h[r]? = some (sq (m-1-r))):∀(l:List (O×GK)) (k c:Nat) (ρ:ai),m<c->(∀i e,l[i]? = some e->jL e (c+nb l i)=true)->eZ C l m h ρ σ->
 ∃W:Nat->V×V,∀i (hi:i<l.length),∃ρi,(∀t,get ρi t=get (c7 l W k (fun j=>decide (j<k+i)) ρ) t)/\mA C P l[i] (c+nb l i) m sq ρi (W (k+i))
 | [],_,_,_,_,_,_=>⟨fun _=>(.junk,.junk),fun i hi=>by simp at hi⟩
 | (o,g)::l,k,c,ρ,hmc,hok,hp=>by
  have hok0:=hok 0 _ rfl;simp only[nb,Ty]at hok0
  have hokt:∀c',c'=c+(if g.isAct=true then 1 else 0)->∀i e,l[i]? = some e->jL e (c'+nb l i)=true:=fun c' hc' i e he=>by
   have:=hok (i+1) e (by simpa using he);simp only[nb]at this;rw[hc',TA];exact this
  have skip:∀c',c'=c+(if g.isAct=true then 1 else 0)->mA C P (o,g) c m sq ρ (.junk,.junk)->eZ C l m h (ap o (.junk,.junk) ρ) σ->∃W:Nat->V×V,∀i (hi:i<((o,g)::l).length),∃ρi,(∀t,get ρi t=get (c7 ((o,g)::l) W k (fun j=>decide (j<k+i)) ρ) t)/\mA C P ((o,g)::l)[i] (c+nb ((o,g)::l) i) m sq ρi (W (k+i)):=fun c' hc' h0 hr=>by
   obtain⟨W,hW⟩:=ni hs hh l (k+1) c' (ap o (.junk,.junk) ρ) (by omega) (hokt c' hc') hr;exact⟨_,fP hc' h0 (fun _=>rfl) hW⟩
  cases g with
  | free lo=>
   simp only[eZ]at hp;simp only[jL,SE]at hok0;split at hp
   .obtain⟨x,ρ',h1,h2,h3⟩:=pQ hp;obtain⟨W,hW⟩:=ni hs hh l (k+1) c ρ' hmc (hokt c rfl) h2;exact⟨_,fP (e:=(o,.free lo)) (w:=(.junk,x)) rfl (fun _ σ2=>h1.free hok0.1.1 σ2) (fun t=>by rw[h3 t,pj hok0.1.2]) hW⟩
   .exact skip c rfl (fun hz=>absurd hz (by assumption)) hp
  | calm lo hi=>
   simp only[eZ]at hp;simp only[jL,SE,decide_eq_true_eq]at hok0;split at hp
   .rename_i hlo;obtain⟨x,ρ',h1,⟨h2,h4⟩,h3⟩:=pQ hp;obtain⟨d,hd⟩:=Option.isSome_iff_exists.1 hok0.1.1.2;obtain⟨W,hW⟩:=ni hs hh l (k+1) c ρ' hmc (hokt c rfl) h4;refine⟨_,fP (e:=(o,.calm lo hi)) (w:=(.junk,x)) rfl (fun _ q q1 q2 q3=>?_) (fun t=>by rw[h3 t,pj hok0.1.1.1]) hW⟩;by_cases e:q=m
    .subst e;rw[hs];exact h1
    .obtain⟨σ',g1,g2⟩:=qO h2 (m-1-q) (by omega);rw[hh _ (by omega),show m-1-(m-1-q)=q by omega]at g1;cases g1;exact qe hd h3 g2
   .exact skip c rfl (fun hz=>absurd hz (by assumption)) hp
  | slot lo=>
   simp only[eZ]at hp;simp only[jL,SE,TE]at hok0;split at hp
   .simp only[ck,hok0.1.2]at hp;obtain⟨a,b,σ',h1,⟨-,h2⟩,h3⟩:=l8 (.inl hok0.1.1) hp;have hσ:=h3 hok0.1.1;rw[hσ]at h1;obtain⟨W,hW⟩:=ni hs hh l (k+1) c _ hmc (hokt c rfl) h2;refine⟨_,fP (e:=(o,.slot lo)) (w:=(a,b)) rfl (fun _ σ2=>?_) (fun t=>rfl) hW⟩;cases ho:o.op<;>rw[ho]at h1 hok0<;>first|(simp[OP.isSlot]at hok0;done)|skip
    all_goals (simp only[oQ]at h1 ⊢;simpa using h1)
   .exact skip c rfl (fun hz=>absurd hz (by assumption)) hp
  | act=>
   simp only[eZ]at hp;exact skip (c+1) rfl ⟨fun hz=>by omega,fun hz=>by omega⟩ hp
def ExG(C:Cx)(P:V->LLV->Prop)(K:ai->LLV->Prop)(l:List (O×GK))(k m:Nat)(p:List PendG)(ρ:ai)(sq0:Nat->LLV):Prop:=
 ∃(W:Nat->V×V) (sq:Nat->LLV) (z:Nat),(∀q,q≤m->sq q=sq0 q)/\m≤z/\z≤m+nb l l.length/\
  (∀q∈p,∀r,m<r->r≤z->r≤q.hi->ba C [q.o] q.ρ (sq r) fun ρ'=>ρ'=q.ρ')/\
  (∀i (hi:i<l.length),∃ρi,(∀t,get ρi t=get (c7 l W k (fun j=>decide (j<k+i)) ρ) t)/\mA C P l[i] (m+nb l i) z sq ρi (W (k+i)))/\
  (z=m+nb l l.length->∃ρf,K ρf (sq z)/\∀t,get ρf t=get (c7 l W k (fun _=>true) ρ) t)
theorem uD{P:V->LLV->Prop}{K:ai->LLV->Prop}:∀(l:List (O×GK)) (k m:Nat) (h:List LLV) (p:List PendG) (ρ:ai) (σ:LLV) (sq0:Nat->LLV),sq0 m=σ->(∀r,r<m->h[r]? = some (sq0 (m-1-r)))->
 (∀i e,l[i]? = some e->jL e (m+nb l i)=true)->eG C P K l m h p ρ σ->
 ExG C P K l k m p ρ sq0
 | [],k,m,h,p,ρ,σ,sq0,hs,hh,hok,hg=>⟨fun _=>(.junk,.junk),sq0,m,fun _ _=>rfl,Tw _,by simp[nb],fun q hq r h1 h2=>by omega,fun i hi=>by simp at hi,fun _=>⟨ρ,by rw[hs];exact hg,fun _=>rfl⟩⟩
 | (o,g)::l,k,m,h,p,ρ,σ,sq0,hs,hh,hok,hg=>by
  have hok0:=hok 0 _ rfl;simp only[nb,Ty]at hok0
  have hokt:∀c',c'=m+(if g.isAct=true then 1 else 0)->∀i e,l[i]? = some e->jL e (c'+nb l i)=true:=fun c' hc' i e he=>by
   have:=hok (i+1) e (by simpa using he);simp only[nb]at this;rw[hc',TA];exact this
  have fin:∀{W:Nat->V×V} {w:V×V} {ρ2:ai},(∀t,get ρ2 t=get (ap o w ρ) t)->∀{ρf:ai},(∀t,get ρf t=get (c7 l W (k+1) (fun _=>true) ρ2) t)->∀t,get ρf t=get (c7 ((o,g)::l) (fun i=>if i=k then w else W i) k (fun _=>true) ρ) t:=fun{W w ρ2} h1 {ρf} h2 t=>by
   simp only[c7,if_true];rw[h2 t,xL l (fun i=>if i=k then w else W i) W (k+1) _ _ fun j hj=>if_neg (by omega)];exact nw _ _ _ _ _ _ _ (h1 t)
  have calm:g.isAct=false->∀(p':List PendG) (ρ':ai) (w:V×V),(∀q∈p,q∈p')->(∀t,get ρ' t=get (ap o w ρ) t)->eG C P K l m h p' ρ' σ->
   (∀(sq:Nat->LLV) (z:Nat),m≤z->(∀q,q≤m->sq q=sq0 q)->(∀q∈p',∀r,m<r->r≤z->r≤q.hi->ba C [q.o] q.ρ (sq r) fun ρ'=>ρ'=q.ρ')->mA C P (o,g) m z sq ρ w)->ExG C P K ((o,g)::l) k m p ρ sq0:=fun hna p' ρ' w hp hρ hr hf=>by
   obtain⟨W,sq,z,g1,g2,g3,g4,g5,g6⟩:=uD l (k+1) m h p' ρ' σ sq0 hs hh (hokt m (by simp[hna])) hr;have hn:nb ((o,g)::l) ((o,g)::l).length=nb l l.length:=by simp[nb,hna]
   exact⟨fun i=>if i=k then w else W i,sq,z,g1,g2,by rw[hn];exact g3,fun q hq=>g4 q (hp q hq),fP (by simp[hna]) (hf sq z g2 g1 g4) hρ g5,fun hz=>by
    rw[hn]at hz;obtain⟨ρf,k1,k2⟩:=g6 hz;exact⟨ρf,k1,fin hρ k2⟩⟩
  have acts:g=.act->∀(ρ':ai) (w:V×V) (σ1:LLV),(∀t,get ρ' t=get (ap o w ρ) t)->oQ C o.op ρ σ w.1 w.2 σ1->reG C (m+1) σ1 p->eG C P K l (m+1) (σ::h) p ρ' σ1->ExG C P K ((o,g)::l) k m p ρ sq0:=fun hg ρ' w σ1 hρ hE hre hr=>by
   subst hg
   obtain⟨W,sq,z,g1,g2,g3,g4,g5,g6⟩:=uD l (k+1) (m+1) (σ::h) p ρ' σ1 (fun q=>if q≤m then sq0 q else σ1) (if_neg (by omega)) (fun r hr=>by
    cases r with
    | zero=>simp[hs]
    | succ r=>
     have:=hh r (by omega);simp only[List.getElem?_cons_succ,this];rw[if_pos (by omega),show m+1-1-(r+1)=m-1-r by omega]) (hokt (m+1) rfl) hr
   have hn:m+nb ((o,.act)::l) ((o,GK.act)::l).length=m+1+nb l l.length:=by simp[nb,GK.isAct];omega
   have e1:∀q,q≤m->sq q=sq0 q:=fun q hq=>(g1 q (by omega)).trans (if_pos hq);have e2:sq (m+1)=σ1:=(g1 _ (Tw _)).trans (if_neg (by omega));refine⟨fun i=>if i=k then w else W i,sq,z,e1,by omega,by rw[hn];exact g3,fun q hq r h1 h2 h3=>?_,fP (e:=(o,.act)) rfl ⟨fun _=>?_,fun hz=>by omega⟩ hρ g5,fun hz=>?_⟩
   .by_cases e:r=m+1
    .subst e;rw[e2];exact D5 hre q hq h3
    .exact g4 q hq r (by omega) h2 h3
   .rw[e2,e1 m (Tw _),hs];exact hE
   .rw[hn]at hz;obtain⟨ρf,k1,k2⟩:=g6 hz;exact⟨ρf,k1,fin hρ k2⟩
  have pans:g=.act->BU C o.op ρ σ P->eZ C l m h (ap o (.junk,.junk) ρ) σ->ExG C P K ((o,g)::l) k m p ρ sq0:=fun hg hE hr=>by
   subst hg;obtain⟨W,hW⟩:=ni (P:=P) (sq:=sq0) hs hh l (k+1) (m+1) _ (by omega) (hokt (m+1) rfl) hr;exact⟨fun i=>if i=k then(.junk,.junk)else W i,sq0,m,fun _ _=>rfl,Tw _,Nat.le_add_right _ _,fun q hq r h1 h2=>by omega,fP (e:=(o,.act)) rfl ⟨fun hz=>by omega,fun _=>by rw[hs];exact hE⟩ (fun _=>rfl) hW,fun hz=>by simp[nb,GK.isAct]at hz⟩
  cases g with
  | free lo=>
   simp only[eG]at hg;simp only[jL,SE]at hok0;obtain⟨x,ρ',h1,h2,h3⟩:=pQ hg;exact calm rfl p ρ' (.junk,x) (fun _ h=>h) (fun t=>by rw[h3 t,pj hok0.1.2]) h2 fun sq z _ _ _ _ σ2=>h1.free hok0.1.1 σ2
  | calm lo hi=>
   simp only[eG]at hg;simp only[jL,SE,decide_eq_true_eq]at hok0;obtain⟨x,ρ',h1,⟨h2,h4⟩,h3⟩:=pQ hg;obtain⟨d,hd⟩:=Option.isSome_iff_exists.1 hok0.1.1.2;refine calm rfl _ ρ' (.junk,x) (fun q hq=>?_) (fun t=>by rw[h3 t,pj hok0.1.1.1]) h4 fun sq z hz hsq hpd _ q q1 q2 q3=>?_
   .unfold wB;split
    .exact List.mem_cons_of_mem _ hq
    .exact hq
   .by_cases e:q=m
    .subst e;rw[hsq q (Tw _),hs];exact h1
    .by_cases e2:q<m
     .obtain⟨σ',k1,k2⟩:=qO h2 (m-1-q) (by omega);rw[hh _ (by omega),show m-1-(m-1-q)=q by omega]at k1;cases k1;rw[hsq q (by omega)];exact qe hd h3 k2
     .have:=hpd ⟨o,ρ,ρ',hi⟩ (by unfold wB;rw[if_pos (by omega)];simp) q (by omega) q3 q2;exact qe hd h3 this
  | slot lo=>
   simp only[eG]at hg;simp only[jL,SE,TE]at hok0;simp only[ck,hok0.1.2]at hg;obtain⟨a,b,σ',h1,⟨-,h2⟩,h3⟩:=l8 (.inl hok0.1.1) hg;have hσ:=h3 hok0.1.1;rw[hσ]at h1 h2;refine calm rfl p _ (a,b) (fun _ h=>h) (fun _=>rfl) h2 fun sq z _ _ _ _ σ2=>?_;cases ho:o.op<;>rw[ho]at h1 hok0<;>first|(simp[OP.isSlot]at hok0;done)|skip
   all_goals (simp only[oQ]at h1 ⊢;simpa using h1)
  | act=>
   simp only[jL,SE,TE]at hok0;obtain⟨d,op,gd⟩:=o
   have det:(∀f args,op≠.call f args)->(∀x args,op≠.callv x args)->(ck C [⟨d,op,gd⟩] ρ σ fun e ρ' σ'=>e=.normal/\reG C (m+1) σ' p/\eG C P K l (m+1) (σ::h) p ρ' σ')->ExG C P K ((⟨d,op,gd⟩,.act)::l) k m p ρ sq0:=fun n1 n2 hg=>by
    simp only at hok0;simp only[ck,hok0.2]at hg;obtain⟨a,b,σ',h1,⟨-,h2,h4⟩,h3⟩:=l8 (o:=⟨d,op,gd⟩) (.inr ⟨hok0.1,n1,n2⟩) hg;exact acts rfl _ (a,b) σ' (fun _=>rfl) h1 h2 h4
   cases op
   case call f args=>
    simp only[eG]at hg;rcases hg with⟨v,σ1,h1,h2,h3⟩|⟨h1,h2⟩
    .exact acts rfl _ (.junk,v) σ1 (fun _=>rfl) h1 h2 h3
    .exact pans rfl h1 h2
   case callv x args=>
    simp only[eG]at hg;obtain⟨f,cap,he,hg⟩:=hg;rcases hg with⟨v,σ1,h1,h2,h3⟩|⟨h1,h2⟩
    .exact acts rfl _ (.junk,v) σ1 (fun _=>rfl) ⟨f,cap,he,h1⟩ h2 h3
    .exact pans rfl ⟨f,cap,he,h1⟩ h2
   all_goals exact det (fun _ _ h=>by cases h) (fun _ _ h=>by cases h) (by simpa only[eG]using hg)
def O.wl(o:O):List Nat:=o.dst.toList++o.op.w1.toList
def loG(e:O×GK)(k:Nat):Nat:=match e.2 with
 | .free lo=>lo
 | .calm lo _=>lo
 | .slot lo=>lo
 | .act=>k
def hiG(e:O×GK)(k:Nat):Option Nat:=match e.2 with
 | .calm _ hi=>some hi
 | .act=>some k
 | _=>none
def nd(l:List (O×GK))(os:List Oper):Bool:=
 let bf:=bP os []
 ((S9 os.length).all fun i=>match os[i]? with|some o=>(aW o).all fun j=>decide (j<i)|none=>true) &&
 ((S9 l.length).all fun i=>match l[i]? with
   | some e=>jL e (nb l i)&&((S9 l.length).all fun j=>j==i||(match l[j]? with
    | some q=>(!((e.1.looksG++e.1.wl).any fun t=>q.1.wl.contains t)||(if j<i then(bf.getD i []).contains j else(bf.getD j []).contains i)) &&
     (!q.2.isAct||((!decide (nb l j<loG e (nb l i))||(bf.getD i []).contains j)&&(match hiG e (nb l i)with|some hi=>!decide (hi≤nb l j)||(bf.getD j []).contains i|none=>true)))
    | none=>true))
   | none=>true)
structure OKG(l:List (O×GK))(os:List Oper):Prop where
 lt:∀(i:Nat) (o:Oper),os[i]? = some o->∀j∈aW o,j<i
 one:∀(i:Nat) (e:O×GK),l[i]? = some e->jL e (nb l i)=true
 cmp:∀(i:Nat) (e:O×GK),l[i]? = some e->∀t,(t∈e.1.looksG\/e.1.writes t)->∀(j:Nat) (q:O×GK),l[j]? = some q->j≠i->q.1.writes t->(j<i/\j∈(bP os []).getD i [])\/(i<j/\i∈(bP os []).getD j [])
 lo:∀(i:Nat) (e:O×GK),l[i]? = some e->∀(j:Nat) (q:O×GK),l[j]? = some q->j≠i->q.2.isAct=true->nb l j<loG e (nb l i)->j∈(bP os []).getD i []
 hi:∀(i:Nat) (e:O×GK),l[i]? = some e->∀(j:Nat) (q:O×GK),l[j]? = some q->j≠i->q.2.isAct=true->∀h,hiG e (nb l i)=some h->h≤nb l j->i∈(bP os []).getD j []
theorem sC{o:O}{t:Nat}:t∈o.wl↔o.writes t:=by
 unfold O.wl O.writes;simp[Tf]
theorem xD{l:List (O×GK)}{os:List Oper}(h:nd l os=true):OKG l os:=by
 unfold nd at h;simp only[SE]at h;obtain⟨h1,h2⟩:=h;simp only[SU,Tc]at h1 h2
 have two:∀(i:Nat) (e:O×GK),l[i]? = some e->jL e (nb l i)=true/\∀(j:Nat) (q:O×GK),l[j]? = some q->j≠i->_:=fun i e he=>by
  have:=h2 i (List.getElem?_eq_some_iff.1 he).1;rw[he]at this;simp only[SE,SU,Tc]at this;refine⟨this.1,fun j q hq hne=>?_⟩;have h3:=this.2 j (List.getElem?_eq_some_iff.1 hq).1;rw[hq]at h3;have hne':(j==i)=false:=by simp[hne]
  rw[hne',SI,SE]at h3;exact h3
 refine⟨fun i o ho j hj=>?_,fun i e he=>(two i e he).1,fun i e he t ht j q hq hne hw=>?_,fun i e he j q hq hne ha hlt=>?_,fun i e he j q hq hne ha hh eh hle=>?_⟩
 .have:=h1 i (List.getElem?_eq_some_iff.1 ho).1;rw[ho]at this;simpa using List.all_eq_true.1 this j hj
 .have h3:=((two i e he).2 j q hq hne).1
  have hany:((e.1.looksG++e.1.wl).any fun t=>q.1.wl.contains t)=true:=by
   rw[List.any_eq_true];refine⟨t,?_,by rw[List.contains_iff_mem];exact sC.2 hw⟩;rw[Tf];exact ht.imp id sC.2
  rw[hany]at h3;simp only[SL,SI]at h3;split at h3
  .exact .inl ⟨by assumption,by simpa using h3⟩
  .exact .inr ⟨by omega,by simpa using h3⟩
 .have h3:=((two i e he).2 j q hq hne).2;simp only[ha,SL,SI,SE,SH,SG,decide_eq_false_iff_not]at h3;rcases h3.1 with h4|h4
  .exact absurd hlt h4
  .simpa using h4
 .have h3:=((two i e he).2 j q hq hne).2;simp only[ha,SL,SI,SE,eh,SH,SG,decide_eq_false_iff_not]at h3;rcases h3.2 with h4|h4
  .exact absurd hle h4
  .simpa using h4
theorem yR:∀(l:List (O×GK)) (i:Nat),nb l i≤nb l l.length
 | [],0=>Tw _
 | [],_+1=>Tw _
 | e::l,0=>Tz _
 | e::l,i+1=>by simp only[nb,SW];have:=yR l i;omega
theorem Il:∀(l:List (O×GK)) (i:Nat) (e:O×GK),l[i]? = some e->e.2.isAct=true->nb l i<nb l l.length
 | [],_,_,h,_=>by simp at h
 | e'::l,0,e,h,ha=>by simp at h;subst h;simp only[nb,SW,ha];simp;omega
 | e'::l,i+1,e,h,ha=>by simp only[nb,SW];have:=Il l i e (by simpa using h) ha;omega
theorem vg{M0:av}{bm0:List Nat}{w0:World}(hG:C.glob M0 pr w0){id:Nat}{ops:Array Oper}{l:List (O×GK)}{M:av}{bm:List Nat}{tk:bv}{a:Act}{w:World}(hok:ip C.tab n ops (l.map (·.1)) ops.toList=true)(hdr:nd l ops.toList=true)
 (hl:Later M0 bm0 pr w0 M bm w)(h:SRel M bm tk pr ρ σ n a w)
 (hq:eG C (fun u σ'=>∀ρ',Q (.panic u) ρ' σ') (fun ρ' σ'=>Q .normal ρ' σ') l 0 [] [] ρ σ):
 (Code.region id ops true).wp C.P (bG M0 bm0 pr w0 n Q) a w:=by
 obtain⟨hlen,hget⟩:=iZ hok;have D:=xD hdr;have hnl:l.length=ops.size:=by have:=hlen;simp at this;exact this
 obtain⟨W,sq,z,e0,-,e2,-,facts,fin⟩:=uD l 0 0 [] [] ρ σ (fun _=>σ) rfl (fun r hr=>by omega) (fun i e he=>by rw[Tv];exact D.one i e he) hq;simp only[Tv]at e2 facts fin;have sq0:sq 0=σ:=e0 0 (Tw _)
 have fact:∀(i:Nat) (e:O×GK),l[i]? = some e->∃ρi,(∀t,get ρi t=get (c7 l W 0 (fun j=>decide (j<i)) ρ) t)/\mA C (fun u σ'=>∀ρ',Q (.panic u) ρ' σ') e (nb l i) z sq ρi (W i):=fun i e he=>by
  obtain⟨hi,rfl⟩:=List.getElem?_eq_some_iff.1 he;exact facts i hi
 obtain⟨ρe,hρe⟩:∃ρe,∀t,get ρe t=get (c7 l W 0 (fun _=>true) ρ) t:=⟨_,fun _=>rfl⟩
 have pick:∃ρf,(∀t,get ρf t=get (c7 l W 0 (fun _=>true) ρ) t)/\(z=nb l l.length->Q .normal ρf (sq z)):=by
  by_cases hz:z=nb l l.length
  .obtain⟨ρf,k1,k2⟩:=fin hz;exact⟨ρf,k2,fun _=>k1⟩
  .exact⟨ρe,hρe,fun e=>absurd e hz⟩
 obtain⟨ρf,f1,f2⟩:=pick;refine nB (M:=M) (bm:=bm) (tk:=tk) (fun S=>c7 l W 0 S ρ) (fun S=>sq (nA l 0 S)) ρf (sq (nb l l.length)) (fun S=>nA l 0 S≤z) (by rw[tj];exact Tz _) (fun S S' hS hI=>by rw[<-mz l 0 S S' fun j hj=>by rw[Tv];exact hS j (by omega)];exact hI) D.lt (fun S S' hS=>⟨fun t=>?_,?_⟩) hl ?_ (fun hI=>?_) ?_
 .refine hH l W 0 S S' ρ t fun i e he _=>?_;rw[Tv];exact hS i (by have:=(List.getElem?_eq_some_iff.1 he).1;omega)
 .show sq _=sq _;rw[mz l 0 S S' fun j hj=>by rw[Tv];exact hS j (by omega)]
 .rw[tj,sq0,j5 _ _ _ _ _ fun _ _=>rfl];exact h
 .rw[yK]at hI;have hz:z=nb l l.length:=by omega
  refine⟨⟨f1,by rw[yK]⟩,?_⟩;have:=f2 hz;rwa[hz]at this
 intro S i o' ho' hSi hclo hedge hI M bm tk a w hl h;have hi1:i<ops.toList.length:=(List.getElem?_eq_some_iff.1 ho').1;have hi2:i<l.length:=by rw[hnl];simpa using hi1
 obtain⟨e,he⟩:∃e,l[i]? = some e:=⟨_,SS hi2⟩
 have hlo:(l.map (·.1))[i]? = some e.1:=by rw[List.getElem?_map,he];rfl
 have hoo:=hget i _ o' hlo ho';have hbef:∀j∈(bP ops.toList []).getD i [],S j=true:=dU D.lt (S:=fun j=>S j=true) hclo i o' ho' hedge
 have hbefj:∀q,q<l.length->S q=true->∀j∈(bP ops.toList []).getD q [],S j=true:=fun q hq hSq=>by
  have hq2:ops.toList[q]? = some (ops.toList[q]'(by simp;omega)):=SS _;exact dU D.lt (S:=fun j=>S j=true) hclo q _ hq2 (hclo q _ hq2 hSq)
 have hno:∀(j:Nat) (q:O×GK),l[j]? = some q->i∈(bP ops.toList []).getD j []->S j=false:=fun j q hj hm=>by
  have:¬S j=true:=fun hjl=>by
   have:=hbefj j (List.getElem?_eq_some_iff.1 hj).1 hjl i hm;rw[hSi]at this;cases this
  simpa using this
 have hsame:∀t,(t∈e.1.looksG\/e.1.writes t)->∀(j:Nat) (q:O×GK),l[j]? = some q->j≠i->q.1.writes t->S j=decide (j<i):=by
  intro t ht j q hj hne hw;rcases D.cmp i e he t ht j q hj hne hw with⟨g1,g2⟩|⟨g1,g2⟩
  .rw[hbef j g2];simp[g1]
  .rw[hno j q hj g2];simp;omega
 obtain⟨hgl,hn⟩:=AZ W ρ he hSi hsame;obtain⟨ρi,g1,g2⟩:=fact i e he;have cg:∀t∈e.1.looksG,get ρi t=get (c7 l W 0 S ρ) t:=fun t ht=>by rw[g1 t];exact hgl t ht
 have cgo:∀t∈e.1.op.slotsG,get ρi t=get (c7 l W 0 S ρ) t:=fun t ht=>cg t (by unfold O.looksG;simp[ht]);have one:=D.one i e he;have hadd:=DJ l 0 S i e he (by rw[Tv];exact hSi);simp only[Tv]at hadd
 have hlow:loG e (nb l i)≤nb l l.length->loG e (nb l i)≤nA l 0 S:=fun hle=>by
  have:=Ik l 0 S 0 (loG e (nb l i)) fun j q hj ha hlt=>by
   rw[Tv]at hlt ⊢;by_cases hne:j=i
   .subst hne;rw[he]at hj;cases hj;unfold loG at hlt;unfold GK.isAct at ha
    revert ha hlt
    cases e.2<;>simp
   .exact hbef j (D.lo i e he j q hj hne ha hlt)
  omega
 have hhigh:∀h,hiG e (nb l i)=some h->nA l 0 S≤h:=fun h eh=>by
  have:=IQ l 0 S 0 h fun j q hj ha hle=>by
   rw[Tv]at hle ⊢;by_cases hne:j=i
   .subst hne;exact hSi
   .exact hno j q hj (D.hi i e he j q hj hne ha h eh hle)
  omega
 have wantNone:e.1.g=none->Region.wanted o' (yielded ops a.tmps)=true:=fun hg=>by
  have hgd:=hoo;unfold okO at hgd;simp only[SE]at hgd;replace hgd:=hgd.2;rw[hg]at hgd;split at hgd
  .rename_i hg2;simp[Region.wanted,hg2]
  .rename_i e _;cases e
  .cases hgd
 have wrapC:e.2.isAct=false->e.1.op.isCalm=true->Loc C e.1 ρi (sq (nA l 0 S)) (W i).2->
  if Region.wanted o' (yielded ops a.tmps)then o'.wp C.P a w (oP M bm pr w n fun ρ' σ'=>(∀t,get ρ' t=get (c7 l W 0 (fun j=>j==i||S j) ρ) t)/\σ'=sq (nA l 0 fun j=>j==i||S j)/\nA l 0 (fun j=>j==i||S j)≤z) (bG M bm pr w n Q)
  else SRel M bm tk pr (c7 l W 0 (fun j=>j==i||S j) ρ) (sq (nA l 0 fun j=>j==i||S j)) n (a.put o'.dst undef) w/\nA l 0 (fun j=>j==i||S j)≤z:=fun hna hc hL=>by
  have e3:nA l 0 (fun j=>j==i||S j)=nA l 0 S:=by rw[hadd,hna];simp
  rw[e3];have hap:∀t,get (ap e.1 (W i) (c7 l W 0 S ρ)) t=get (putd (c7 l W 0 S ρ) e.1.dst (W i).2) t:=fun t=>by unfold ap;rw[ze hc];rfl
  have:=vH (Q:=Q) (hG.mono hl) h hoo (hL.congr fun t ht=>cg t (by rw[<-yo hc];exact ht));split at this
  .rename_i hw;rw[if_pos hw];exact Oper.wp_mono2 (fun a' w' ⟨M',bm',tk',ρ',σ',⟨k1,k2⟩,k3,k4⟩=>⟨M',bm',tk',ρ',σ',⟨fun t=>by rw[k1,hn t,hap t],k2,hI⟩,k3,k4⟩) (fun e a' w' hh=>hh) this
  .rename_i hw;rw[if_neg hw];exact⟨this.congr fun t=>by rw[hn t,hap t],hI⟩
 have wrapE:e.1.g=none->(e.1.op.isSlot=true\/e.1.op.isActG e.1.dst=true)->nA l 0 (fun j=>j==i||S j)≤z->oQ C e.1.op ρi (sq (nA l 0 S)) (W i).1 (W i).2 (sq (nA l 0 fun j=>j==i||S j))->
  if Region.wanted o' (yielded ops a.tmps)then o'.wp C.P a w (oP M bm pr w n fun ρ' σ'=>(∀t,get ρ' t=get (c7 l W 0 (fun j=>j==i||S j) ρ) t)/\σ'=sq (nA l 0 fun j=>j==i||S j)/\nA l 0 (fun j=>j==i||S j)≤z) (bG M bm pr w n Q)
  else SRel M bm tk pr (c7 l W 0 (fun j=>j==i||S j) ρ) (sq (nA l 0 fun j=>j==i||S j)) n (a.put o'.dst undef) w/\nA l 0 (fun j=>j==i||S j)≤z:=fun hg hc hz hE=>by
  rw[if_pos (wantNone hg)];refine Oper.wp_mono2 (fun a' w' ⟨M',bm',tk',ρ',σ',⟨k1,k2⟩,k3,k4⟩=>⟨M',bm',tk',ρ',σ',⟨fun t=>by rw[k1,hn t],k2,hz⟩,k3,k4⟩) (fun e a' w' ⟨_,_,_,_,_,_,hf,_⟩=>hf.elim) (d9 (Q:=fun _ _ _=>False) (hG.mono hl) h hoo (Eu hc (xM cgo hE)))
 obtain⟨o,g⟩:=e;cases g with
 | free lo=>
  simp only[jL,SE,decide_eq_true_eq]at one;have:=hlow (by simp only[loG];have:=yR l i;omega);exact wrapC rfl one.1.2 (g2 (by simp only[loG]at this;omega) _)
 | calm lo hi=>
  simp only[jL,SE,decide_eq_true_eq]at one;have h1:=hlow (by simp only[loG];have:=yR l i;omega);have h2:=hhigh hi rfl;simp only[loG]at h1;exact wrapC rfl one.1.1.1 (g2 (by omega) _ h1 h2 hI)
 | slot lo=>
  simp only[jL,SE,TE,decide_eq_true_eq]at one;have h1:=hlow (by simp only[loG];have:=yR l i;omega);simp only[loG]at h1;have e3:nA l 0 (fun j=>j==i||S j)=nA l 0 S:=by rw[hadd];simp[GK.isAct]
  exact wrapE one.1.2 (.inl one.1.1) (by rw[e3];exact hI) (by rw[e3];exact g2 (by omega) _)
 | act=>
  simp only[jL,SE,TE]at one;have hlt:=Il l i _ he rfl;have h1:=hlow (by simp only[loG];omega);have h2:=hhigh _ rfl;simp only[loG]at h1;have hc:nA l 0 S=nb l i:=by omega
  have e3:nA l 0 (fun j=>j==i||S j)=nb l i+1:=by rw[hadd,hc];simp[GK.isAct]
  by_cases hz:nb l i<z
  .exact wrapE one.2 (.inr one.1) (by rw[e3];omega) (by rw[e3,hc];exact g2.1 hz)
  .have hzz:nb l i=z:=by omega
   have hp:=g2.2 hzz;rw[if_pos (wantNone one.2)];have hE:=Dc (o:=o) (xa (ρ':=c7 l W 0 S ρ) cgo hp);rw[<-hzz,<-hc]at hE;refine Oper.wp_mono2 (fun a' w' ⟨M',bm',tk',ρ',σ',hf,k3,k4⟩=>hf.elim) (fun e a' w' ⟨M',bm',tk',ρ',σ',x,⟨u,k1,k2⟩,k3⟩=>⟨M',bm',tk',ρ',σ',x,by subst k1;exact k2 ρ',k3⟩) (d9 (K:=fun _ _=>False) (Q:=fun e _ σ'=>∃u,e=.panic u/\∀ρ',Q (.panic u) ρ' σ') (hG.mono hl) h hoo hE)
end
end Go.Proofs.YtnhphlmblenapaaGreatDoor
namespace Go.Proofs.YtnhphlmblenapaaGreatDoor
open Go.RowKit
section
variable {C : Cx} {pr : Prot} {n : Nat} {Q : AEx -> ai -> LLV -> Prop}
theorem C7{M0:av}{bm0:List Nat}{w0:World}{id:Nat}{ops:Array Oper}{M:av}{bm:List Nat}{tk:bv}{a:Act}{w:World}(R:(Nat->Bool)->ai->LLV->Prop){ρ0:ai}{σ0:LLV}
 (hlt:∀(i:Nat) (o:Oper),ops.toList[i]? = some o->∀j∈aW o,j<i)
 (hext:∀S S' ρ σ,(∀j,j<ops.size->S j=S' j)->R S ρ σ->R S' ρ σ)
 (hl:Later M0 bm0 pr w0 M bm w)(h:SRel M bm tk pr ρ0 σ0 n a w)(h0:R (fun _=>false) ρ0 σ0)
 (hq:∀ρ σ,R (fun _=>true) ρ σ->∃ρ2,Q .normal ρ2 σ/\∀t,get ρ t=get ρ2 t)
 (step:∀(S:Nat->Bool) (i:Nat) (o:Oper),ops.toList[i]? = some o->S i=false->(∀(j:Nat) (p:Oper),ops.toList[j]? = some p->S j=true->∀e∈aW p,S e=true)->(∀e∈aW o,S e=true)->
   ∀(M:av) (bm:List Nat) (tk:bv) (a:Act) (w:World) (ρ:ai) (σ:LLV),Later M0 bm0 pr w0 M bm w->R S ρ σ->SRel M bm tk pr ρ σ n a w->
    if Region.wanted o (yielded ops a.tmps)then o.wp C.P a w (oP M bm pr w n (R fun j=>j==i||S j)) (bG M bm pr w n fun _ _ _=>False)
    else ∃ρ',R (fun j=>j==i||S j) ρ' σ/\SRel M bm tk pr ρ' σ n (a.put o.dst undef) w):
 (Code.region id ops true).wp C.P (bG M0 bm0 pr w0 n Q) a w:=by
 refine wp_region_any C.mixed ?_
 suffices H:∀(fuel:Nat) (listed:Array Bool) (M:av) (bm:List Nat) (tk:bv) (a:Act) (w:World) (ρ:ai) (σ:LLV),Later M0 bm0 pr w0 M bm w->R (fun i=>listed.getD i false) ρ σ->SRel M bm tk pr ρ σ n a w->listed.size=ops.size->
  (∀(i:Nat) (o:Oper),ops.toList[i]? = some o->listed.getD i false=true->∀j∈aW o,listed.getD j false=true)->(listed.toList.filter (! ·)).length=fuel->wpAny C.P .any ops (bG M0 bm0 pr w0 n Q) fuel listed a w by
  obtain⟨h1,h2⟩:=h.ext (dK.drew w)
  have hrep:∀j,(Sv ops.size false).getD j false=false:=fun j=>by
   simp only[Ss,SB];split<;>rfl
  refine H ops.size (Sv ops.size false) M bm tk a w.drew ρ0 σ0 (hl.trans h2 (fun _ h=>h)) (hext _ _ _ _ (fun j _=>(hrep j).symm) h0) h1 (by simp) (fun i o ho hi=>?_) (by simp)
  .rw[hrep]at hi;cases hi
 intro fuel
 induction fuel with
 | zero=>
  intro listed M bm tk a w ρ σ hl hR h hsz hcl hcnt
  have hall:∀i,i<ops.size->listed.getD i false=true:=fun i hi=>by
   have hb:listed[i]? = some (listed[i]'(by omega)):=Su _;rw[Ss,hb,TD];have hne:listed.toList.filter (! ·)=[]:=Tb hcnt;have:=List.filter_eq_nil_iff.1 hne (listed[i]'(by omega)) (by simp);simpa using this
  obtain⟨ρ2,q1,q2⟩:=hq _ _ (hext _ _ _ _ hall hR);refine⟨?_,M,bm,tk,ρ2,σ,.normal,q1,.normal,h.congr fun t=>(q2 t).symm,hl⟩
  .unfold Region.ready;rw[SZ];intro i hi;have hi':i<ops.size:=by simpa using hi
   have h9:=hall i hi'
   have:listed.getD i true=true:=by
    have hb:listed[i]? = some (listed[i]'(by omega)):=Su _;rw[Ss,hb,TD]at h9 ⊢;exact h9
   simp[this]
 | succ fuel ih=>
  intro listed M bm tk a w ρ σ hl hR h hsz hcl hcnt;refine⟨fun hnil=>?_,fun i hi=>?_⟩
  .exfalso
   have hex:∃i,i<ops.size/\listed.getD i false=false:=by
    apply SQ;intro hno
    have hne:listed.toList.filter (! ·)=[]:=by
     rw[SZ];intro b hb;obtain⟨i,hi,rfl⟩:=SY hb;have hi':i<listed.size:=by simpa using hi
     have h9:¬listed.getD i false=false:=fun e=>hno ⟨i,by omega,e⟩;have hb:listed[i]? = some listed[i]:=Su hi';rw[Ss,hb,TD]at h9;simpa using h9
    rw[hne]at hcnt;simp at hcnt
   have hmin:∃i,i<ops.size/\listed.getD i false=false/\∀j,j<i->listed.getD j false=true:=by
    obtain⟨i,h1,h2⟩:=hex
    induction i using Tx with
    | _ i ihm=>
    by_cases hj:∃j,j<i/\listed.getD j false=false
    .obtain⟨j,g1,g2⟩:=hj;exact ihm j g1 (by omega) g2
    .exact⟨i,h1,h2,fun j hji=>by
      cases hb:listed.getD j false with
      | true=>rfl
      | false=>exact absurd ⟨j,hji,hb⟩ hj⟩
   obtain⟨i,h1,h2,h3⟩:=hmin;have hio:i<ops.toList.length:=by simpa using h1
   have:i∈Region.ready .any ops listed:=by
    unfold Region.ready;rw[SX];refine⟨by simp;omega,?_⟩
    have ht:listed.getD i true=false:=by
     have hb:listed[i]? = some (listed[i]'(by omega)):=Su _;rw[Ss,hb,TD]at h2 ⊢;exact h2
    have ho:ops[i]? = some (ops[i]'(by omega)):=Su _;rw[ht,ho];simp only[SK,SN,TF,TD];rw[<-SA,SU];intro e he;cases hb:Region.binds .any e with
    | false=>rfl
    | true=>
     have:e.on∈aW (ops[i]'(by omega)):=by
      unfold aW;exact List.mem_map.2 ⟨e,List.mem_filter.2 ⟨he,hb⟩,rfl⟩
     simp[h3 e.on (hlt i _ (by rw[SS hio];simp) e.on this)]
   rw[hnil]at this;cases this
  .unfold Region.ready at hi;rw[SX]at hi;obtain⟨hir,hic⟩:=hi;have hi1:i<ops.size:=by simpa using hir
   have ho:ops[i]? = some ops[i]:=Su hi1;have hoL:ops.toList[i]? = some ops[i]:=by rw[Sw];exact ho
   rw[ho]at hic;simp only[TF,TD,SE,SG]at hic;obtain⟨hun,hed⟩:=hic
   have hun':listed[i]? = some false:=by
    have hb:listed[i]? = some (listed[i]'(by omega)):=Su _;rw[Ss,hb,TD]at hun;rw[hb,hun]
   have hunf:listed.getD i false=false:=by rw[Ss,hun'];rfl
   have hedge:∀j∈aW ops[i],listed.getD j false=true:=by
    intro j hj;unfold aW at hj;obtain⟨e,he,rfl⟩:=List.mem_map.1 hj;rw[SX]at he;rw[<-SA,SU]at hed;have:=hed e he.1;simpa[he.2]using this
   have hset:∀j,(listed.setIfInBounds i true).getD j false=(j==i||listed.getD j false):=fun j=>by
    rw[Ss,Ss];by_cases e:j=i
    .subst e;rw[Sx (by omega)];simp
    .rw[Sy (TC e)];simp[e]
   have hnextcl:∀(q:Nat) (o:Oper),ops.toList[q]? = some o->(listed.setIfInBounds i true).getD q false=true->∀j∈aW o,(listed.setIfInBounds i true).getD j false=true:=by
    intro q o hqo hql j hj;rw[hset]at hql ⊢;simp only[SH,beq_iff_eq]at hql ⊢;rcases hql with rfl|hql
    .rw[hoL]at hqo;cases hqo;exact .inr (hedge j hj)
    .exact .inr (hcl q o hqo hql j hj)
   have hnextc:((listed.setIfInBounds i true).toList.filter (! ·)).length=fuel:=by
    have:=lc listed.toList i (by rw[Sw];exact hun');rw[SC];omega
   have hst:=step (fun j=>listed.getD j false) i ops[i] hoL hunf hcl hedge M bm tk a w ρ σ hl hR h;unfold wpOp;rw[ho];simp only;split at hst
   .rename_i hw;rw[if_pos hw];refine .inl (Oper.wp_mono2 (fun a' w' hL=>?_) (fun e a' w' hL=>?_) hst)
    .obtain⟨M',bm',tk',ρ',σ',k0,k2,k3⟩:=hL;exact ih _ M' bm' tk' a' w' ρ' σ' (hl.trans k3 (fun _ h=>h)) (hext _ _ _ _ (fun j _=>(hset j).symm) k0) k2 (by simp[hsz]) hnextcl hnextc
    .obtain⟨_,_,_,_,_,_,hf,_⟩:=hL;exact hf.elim
   .rename_i hw;rw[if_neg hw];obtain⟨ρ',k0,k2⟩:=hst;exact ih _ M bm tk _ w ρ' σ hl (hext _ _ _ _ (fun j _=>(hset j).symm) k0) k2 (by simp[hsz]) hnextcl hnextc
structure AV where
 d:Nat
 T:Nat
 bytes:Nat
 z:V
 s:Nat
 y:X
 st:Bool
 x:X
 k:X
 v:X
def AV.B(p:AV):O:=⟨none,.mst p.st p.x p.k p.v,none⟩
def reV(C:Cx)(σ1:LLV):List (O×ai×V)->Prop
 | []=>True
 | (o,ρ,v)::r=>bI C o.op ρ σ1 (fun u=>u=v)/\reV C σ1 r
def J9(C:Cx)(p:AV)(K:ai->LLV->Prop)(ρ:ai)(σ1:LLV):Prop:=
 ∃kv key,ii p.st σ1 (ev C ρ p.x)=some kv/\lu p.st (ev C ρ p.k)=some key/\K ρ (ou σ1 p.st (lV key (ev C ρ p.v).copy kv) (ev C ρ p.x))
def H7(C:Cx)(p:AV)(σ:LLV)(K:ai->LLV->Prop):List O->List (O×ai×V)->ai->Prop
 | [],pend,ρ=>∃src,An σ (ev C ρ p.y)=some src/\0<src.length/\IK σ (get ρ p.s) src p.bytes p.z fun u σ1=>reV C σ1 pend/\J9 C p K (put ρ p.d u) σ1
 | o::r,pend,ρ=>o.g=none/\bI C o.op ρ σ fun v=>H7 C p σ K r ((o,ρ,v)::pend) (putd ρ o.dst v)
end
end Go.Proofs.YtnhphlmblenapaaGreatDoor
namespace Go.Proofs.YtnhphlmblenapaaGreatDoor
open Go.RowKit
def dY(n0:Nat)(ρ:ai)(σ:LLV)(ρ':ai)(σ':LLV):Prop:=
 ∀(M:av) (bm:List Nat) (tk:bv) (pr:Prot) (n:Nat) (a:Act) (w:World),SRel M bm tk pr ρ σ n a w->
  ∃M' bm',SRel M' bm' tk pr ρ' σ' n a w/\∀M0 bm0 w0,bm0.length=n0->Later M0 bm0 pr w0 M bm w->Later M0 bm0 pr w0 M' bm' w
theorem dY.refl(n0:Nat)(ρ:ai)(σ:LLV):dY n0 ρ σ ρ σ:=fun M bm _ _ _ _ _ h=>⟨M,bm,h,fun _ _ _ _ h=>h⟩
theorem dY.trans{n0:Nat}{ρ ρ' ρ'':ai}{σ σ' σ'':LLV}(h:dY n0 ρ σ ρ' σ')(k:dY n0 ρ' σ' ρ'' σ''):dY n0 ρ σ ρ'' σ'':=fun M bm tk pr n a w hs=>by
 obtain⟨M1,b1,h1,h2⟩:=h M bm tk pr n a w hs;obtain⟨M2,b2,h3,h4⟩:=k M1 b1 tk pr n a w h1;exact⟨M2,b2,h3,fun M0 bm0 w0 e hl=>h4 M0 bm0 w0 e (h2 M0 bm0 w0 e hl)⟩
theorem dY.keep(n0:Nat)(l:List Nat)(ρ:ai)(σ:LLV):dY n0 ρ σ (aY l ρ) σ:=fun M bm _ _ _ _ _ h=>⟨M,bm,h.keep l,fun _ _ _ _ h=>h⟩
theorem dY.cut{n0 k:Nat}{ρ:ai}{σ:LLV}(hk:n0≤k)(h1:ak k (σ.take k)=true)(h2:au k ρ=true):dY n0 ρ σ ρ (σ.take k):=fun M bm _ _ _ _ _ h=>
 ⟨M,bm.take k,h.drop h1 h2,fun _ _ _ e hl=>hl.drop (by omega)⟩
section
variable {M : av} {bm : List Nat} {tk : bv} {pr : Prot} {ρ : ai} {σ : LLV} {n : Nat} {a : Act} {w : World} {k : Nat}
end
end Go.Proofs.YtnhphlmblenapaaGreatDoor
namespace Go.Proofs.YtnhphlmblenapaaGreatDoor
open Go.RowKit
inductive Cd where
 | skip
 | ops (l:List O) (keep:List Nat)
 | draw (l:List O) (keep:List Nat)
 | drawg (l:List (O×GK)) (keep:List Nat)
 | drawp (l:List O) (x:X)
 | raw (l:List O) (es:List (List Nat)) (keep:List Nat)
 | seq (a b:Cd)
 | cond (x:X) (a b:Cd)
 | block (id:Nat) (a:Cd)
 | loop (a:Cd)
 | exit (id:Nat)
 | ret
abbrev bX:=AEx->ai->LLV->Prop
def andThen(next:ai->LLV->Prop)(Q:bX):bX:=fun e ρ σ=>match e with
 | .normal=>next ρ σ
 | e=>Q e ρ σ
def ov(id:Nat)(Q:bX):bX:=fun e ρ σ=>match e with
 | .exit j=>if j=id then Q .normal ρ σ else Q (.exit j) ρ σ
 | e=>Q e ρ σ
inductive Up:LLV->LLV->Prop
 | refl (σ:LLV):Up σ σ
 | step {σ σ':LLV} {i:Nat} {cs:List V} {off:Nat} (T:TypeId) (k:Nat) (h1:σ[i]? = some cs) (h2:cs[off]? = some .nil) (h:Up (σ.set i (cs.set off (.own T k []))) σ'):Up σ σ'
theorem SRel.nil_own{M:av}{bm:List Nat}{tk:bv}{pr:Prot}{ρ:ai}{σ:LLV}{n:Nat}{a:Act}{w:World}(h:SRel M bm tk pr ρ σ n a w){i:Nat}{cs:List V}{off:Nat}(T:TypeId)(k:Nat)(h1:σ[i]? = some cs)(h2:cs[off]? = some .nil):SRel M bm tk pr ρ (σ.set i (cs.set off (.own T k []))) n a w:=by
 refine⟨⟨h.inv.facts,by rw[Ts];exact h.inv.len,fun i' b cs' hi hc=>?_,h.inv.free,h.inv.bmnd,h.inv.tok,h.inv.inj,h.inv.prlt⟩,h.defers,h.size,h.slots⟩;by_cases e:i'=i
 .subst e;obtain⟨vs,T',g1,g2,g3⟩:=(h.inv.box i' b cs hi h1).resolve_right fun hb=>by rcases hb with⟨st,kv,es,clock,rfl,-⟩|⟨T,k,rfl,-⟩<;>cases off<;>simp[tyc]at h2
  have hl:i'<σ.length:=(List.getElem?_eq_some_iff.1 h1).1;rw[List.getElem?_set_self hl]at hc;cases hc;refine .inl ⟨vs,T',g1,by rw[Ts];exact g2,fun j hj hj'=>?_⟩;have hj0:j<cs.length:=by simpa using hj
  obtain⟨k1,k2⟩:=g3 j hj0 hj';by_cases e2:j=off
  .subst e2;have hn:cs[j]=.nil:=(List.getElem?_eq_some_iff.1 h2).2;rw[List.getElem_set_self];refine⟨?_,k2⟩;have hr:=k1.rep;rw[hn]at hr;generalize vs[j]=v at hr ⊢;cases hr;exact⟨.own (DRep.nil M),fun T2 k2 rows e=>by cases e;exact .inl ⟨rfl,rfl⟩⟩
  .rw[List.getElem_set_ne (TC e2)];exact⟨k1,k2⟩
 .rw[List.getElem?_set_ne (TC e)]at hc;exact h.inv.box i' b cs' hi hc
theorem SRel.up{M:av}{bm:List Nat}{tk:bv}{pr:Prot}{ρ:ai}{σ σ':LLV}{n:Nat}{a:Act}{w:World}(hu:Up σ σ')(h:SRel M bm tk pr ρ σ n a w):SRel M bm tk pr ρ σ' n a w:=by
 induction hu with
 | refl σ=>exact h
 | step T k h1 h2 _ ih=>exact ih (h.nil_own T k h1 h2)
theorem dY.up(n0:Nat)(ρ:ai){σ σ':LLV}(hu:Up σ σ'):dY n0 ρ σ ρ σ':=fun M bm _ _ _ _ _ h=>⟨M,bm,h.up hu,fun _ _ _ _ h=>h⟩
def iQ(C:Cx)(n0:Nat)(l:List O)(es:List (List Nat))(ρ:ai)(σ:LLV)(Q:bX):Prop:=
 ∀(pr:Prot) (M0:av) (bm0:List Nat) (w0:World) (id:Nat) (ops:Array Oper) (n:Nat) (M:av) (bm:List Nat) (tk:bv) (a:Act) (w:World),C.glob M0 pr w0->bm0.length=n0->ip C.tab n ops l ops.toList=true->ops.toList.map aW=es->
  Later M0 bm0 pr w0 M bm w->SRel M bm tk pr ρ σ n a w->(Code.region id ops true).wp C.P (bG M0 bm0 pr w0 n Q) a w
def awp(C:Cx)(n0:Nat):Cd->ai->LLV->bX->Prop
 | .skip,ρ,σ,Q=>Q .normal ρ σ
 | .ops l keep,ρ,σ,Q=>ck C l ρ σ fun e ρ' σ'=>Q e (aY keep ρ') σ'
 | .draw l keep,ρ,σ,Q=>ba C l ρ σ fun ρ'=>Q .normal (aY keep ρ') σ
 | .drawg l keep,ρ,σ,Q=>eG C (fun u σ'=>∀ρ',Q (.panic u) (aY keep ρ') σ') (fun ρ' σ'=>Q .normal (aY keep ρ') σ') l 0 [] [] ρ σ
 | .drawp l x,ρ,σ,Q=>ba C l ρ σ fun ρ'=>∃ty u,ev C ρ' x=.iface ty u/\∀ρ2,Q (.panic (.iface ty u)) ρ2 σ
 | .raw l es keep,ρ,σ,Q=>iQ C n0 l es ρ σ fun e ρ' σ'=>Q e (aY keep ρ') σ'
 | .seq a b,ρ,σ,Q=>awp C n0 a ρ σ (andThen (fun ρ' σ'=>awp C n0 b ρ' σ' Q) Q)
 | .cond x a b,ρ,σ,Q=>match ev C ρ x with
  | .d (.lit (.bool t))=>(t=true->awp C n0 a ρ σ Q)/\(t=false->awp C n0 b ρ σ Q)
  | _=>False
 | .block id a,ρ,σ,Q=>awp C n0 a ρ σ (ov id Q)
 | .loop a,ρ,σ,Q=>∃(ρ1:ai) (σ1:LLV),dY n0 ρ σ ρ1 σ1/\∃I:Nat->ai->LLV->Prop,(∃m,I m ρ1 σ1)/\∀m ρ' σ',I m ρ' σ'->awp C n0 a ρ' σ' (andThen (fun ρ'' σ''=>∃m',m'<m/\∃ρ3 σ3,dY n0 ρ'' σ'' ρ3 σ3/\I m' ρ3 σ3) Q)
 | .exit id,ρ,σ,Q=>Q (.exit id) ρ σ
 | .ret,ρ,σ,Q=>Q .ret ρ σ
def okC(tab:Tab)(n:Nat):Cd->Code->Bool
 | .skip,.skip=>true
 | .ops l _,.region _ ops false=>ip tab n ops l ops.toList
 | .draw l _,.region _ ops true=>ip tab n ops l ops.toList&&pN l ops.toList
 | .drawg l _,.region _ ops true=>ip tab n ops (l.map (·.1)) ops.toList&&nd l ops.toList
 | .drawp l x,.region _ ops true=>ip tab n ops (l++[⟨none,.pan x,none⟩]) ops.toList&&(mX (l.length-1) 0 (l++[⟨none,.pan x,none⟩]) ops.toList&&decide (1≤l.length))
 | .raw l es _,.region _ ops true=>ip tab n ops l ops.toList&&(ops.toList.map aW==es)
 | .seq a b,.seq a' b'=>okC tab n a a'&&okC tab n b b'
 | .cond x a b,.cond x' a' b'=>okX x x'&&okC tab n a a'&&okC tab n b b'
 | .block i a,.block i' a'=>i==i'&&okC tab n a a'
 | .loop a,.loop a'=>okC tab n a a'
 | .exit i,.exit i'=>i==i'
 | .ret,.ret=>true
 | _,_=>false
section
variable {C : Cx} {n0 n : Nat} {pr : Prot} {M0 : av} {bm0 : List Nat} {w0 : World}
theorem bG.imp{M:av}{bm:List Nat}{w:World}{Q Q':bX}{e:Exit}{a:Act}{w':World}(hq:∀x ρ σ,Q x ρ σ->Q' x ρ σ)(h:bG M bm pr w n Q e a w'):bG M bm pr w n Q' e a w':=by
 obtain⟨M',bm',tk',ρ',σ',x,h1,h2⟩:=h;exact⟨M',bm',tk',ρ',σ',x,hq _ _ _ h1,h2⟩
theorem bG.keep{M:av}{bm:List Nat}{w:World}{Q:bX}{l:List Nat}{e:Exit}{a:Act}{w':World}(h:bG M bm pr w n (fun x ρ σ=>Q x (aY l ρ) σ) e a w'):bG M bm pr w n Q e a w':=by
 obtain⟨M',bm',tk',ρ',σ',x,h1,h2,h3,h4⟩:=h;exact⟨M',bm',tk',_,σ',x,h1,h2,h3.keep l,h4⟩
theorem kW(hG:C.glob M0 pr w0)(hn0:bm0.length=n0):∀{c:Cd} {c':Code} {M:av} {bm:List Nat} {tk:bv} {ρ:ai} {σ:LLV} {a:Act} {w:World} {Q:bX},okC C.tab n c c'=true->Later M0 bm0 pr w0 M bm w->SRel M bm tk pr ρ σ n a w->
 awp C n0 c ρ σ Q->c'.wp C.P (bG M0 bm0 pr w0 n Q) a w:=by
 intro c
 induction c with
 | skip=>
  intro c' M bm tk ρ σ a w Q hok hl h hq;cases c'<;>simp only[okC]at hok<;>first|(cases hok;done)|skip
  exact wp_skip ⟨M,bm,tk,ρ,σ,_,hq,.normal,h,hl⟩
 | ops l keep=>
  intro c' M bm tk ρ σ a w Q hok hl h hq;cases c' with
  | region id ops draw=>
   cases draw with
   | false=>
    have hok:ip C.tab n ops l ops.toList=true:=hok;exact wp_mono (wp_region_list (fj hG hok hl h hq)) (fun e a w hL=>bG.keep (l:=keep) hL)
   | true=>cases hok
  | _=>cases hok
 | draw l keep=>
  intro c' M bm tk ρ σ a w Q hok hl h hq;cases c' with
  | region id ops draw=>
   cases draw with
   | true=>
    have hok:(ip C.tab n ops l ops.toList&&pN l ops.toList)=true:=hok;simp only[SE]at hok;exact wp_mono (yN (Q:=fun x ρ σ=>Q x (aY keep ρ) σ) hG hok.1 hok.2 hl h hq) (fun e a w hL=>bG.keep (l:=keep) hL)
   | false=>cases hok
  | _=>cases hok
 | drawp l x=>
  intro c' M bm tk ρ σ a w Q hok hl h hq;cases c' with
  | region id ops draw=>
   cases draw with
   | true=>
    have hok:(ip C.tab n ops (l++[⟨none,.pan x,none⟩]) ops.toList&&(mX (l.length-1) 0 (l++[⟨none,.pan x,none⟩]) ops.toList&&decide (1≤l.length)))=true:=hok;simp only[SE,decide_eq_true_eq]at hok;exact vR hG hok.1 hok.2.1 hok.2.2 hl h hq
   | false=>cases hok
  | _=>cases hok
 | drawg l keep=>
  intro c' M bm tk ρ σ a w Q hok hl h hq;cases c' with
  | region id ops draw=>
   cases draw with
   | true=>
    have hok:(ip C.tab n ops (l.map (·.1)) ops.toList&&nd l ops.toList)=true:=hok;simp only[SE]at hok;exact wp_mono (vg (Q:=fun x ρ σ=>Q x (aY keep ρ) σ) hG hok.1 hok.2 hl h hq) (fun e a w hL=>bG.keep (l:=keep) hL)
   | false=>cases hok
  | _=>cases hok
 | raw l es keep=>
  intro c' M bm tk ρ σ a w Q hok hl h hq;cases c' with
  | region id ops draw=>
   cases draw with
   | true=>
    have hok:(ip C.tab n ops l ops.toList&&(ops.toList.map aW==es))=true:=hok;simp only[SE,beq_iff_eq]at hok;have hq:iQ C n0 l es ρ σ fun e ρ' σ'=>Q e (aY keep ρ') σ':=hq;exact wp_mono (hq pr M0 bm0 w0 id ops n M bm tk a w hG hn0 hok.1 hok.2 hl h) (fun e a w hL=>bG.keep (l:=keep) hL)
   | false=>cases hok
  | _=>cases hok
 | seq x y ihx ihy=>
  intro c' M bm tk ρ σ a w Q hok hl h hq;cases c'<;>simp only[okC,SE]at hok<;>first|(cases hok;done)|skip
  refine wp_seq (wp_mono (ihx hok.1 hl h hq) (fun e a' w' hL=>?_));obtain⟨M',bm',tk',ρ',σ',x,k1,k2,k3,k4⟩:=hL;cases k2 with
  | normal=>exact ihy hok.2 k4 k3 k1
  | ret=>exact⟨M',bm',tk',ρ',σ',_,k1,.ret,k3,k4⟩
  | exit id=>exact⟨M',bm',tk',ρ',σ',_,k1,.exit id,k3,k4⟩
  | panic hp=>exact⟨M',bm',tk',ρ',σ',_,k1,.panic hp,k3,k4⟩
 | cond x y z ihy ihz=>
  intro c' M bm tk ρ σ a w Q hok hl h hq;cases c'<;>simp only[okC,SE]at hok<;>first|(cases hok;done)|skip
  have hx:=ay (hG.mono hl) h hok.1.1;simp only[awp]at hq;split at hq
  .rename_i t e;rw[e]at hx;have hv:=hx.bool_inv;cases t with
   | true=>exact wp_cond_true hv (ihy hok.1.2 hl h (hq.1 rfl))
   | false=>exact wp_cond_false hv (ihz hok.2 hl h (hq.2 rfl))
  .exact hq.elim
 | block id x ih=>
  intro c' M bm tk ρ σ a w Q hok hl h hq;cases c'<;>simp only[okC,SE,beq_iff_eq]at hok<;>first|(cases hok;done)|skip
  obtain⟨rfl,hok⟩:=hok;refine wp_block (wp_mono (ih hok hl h hq) (fun e a' w' hL=>?_));obtain⟨M',bm',tk',ρ',σ',x,k1,k2,k3,k4⟩:=hL;cases k2 with
  | normal=>exact⟨M',bm',tk',ρ',σ',_,k1,.normal,k3,k4⟩
  | ret=>exact⟨M',bm',tk',ρ',σ',_,k1,.ret,k3,k4⟩
  | exit j=>
   simp only[ov]at k1;simp only[Exit.inBlock];split
   .rename_i e;rw[if_pos e]at k1;exact⟨M',bm',tk',ρ',σ',_,k1,.normal,k3,k4⟩
   .rename_i e;rw[if_neg e]at k1;exact⟨M',bm',tk',ρ',σ',_,k1,.exit j,k3,k4⟩
  | panic hp=>exact⟨M',bm',tk',ρ',σ',_,k1,.panic hp,k3,k4⟩
 | loop x ih=>
  intro c' M bm tk ρ σ a w Q hok hl h hq;cases c'<;>simp only[okC]at hok<;>first|(cases hok;done)|skip
  obtain⟨ρ1,σ1,hsh,I,⟨m,hm⟩,hI⟩:=hq;obtain⟨M1,bm1,h1,h2⟩:=hsh M bm tk pr n a w h;have hl1:=h2 M0 bm0 w0 hn0 hl;rename_i c';intro b k cs
  have key:∀(m:Nat) (M:av) (bm:List Nat) (tk:bv) (ρ:ai) (σ:LLV) (a:Act) (w:World),Later M0 bm0 pr w0 M bm w->SRel M bm tk pr ρ σ n a w->I m ρ σ->
   ∃e a' w',bG M0 bm0 pr w0 n Q e a' w'/\Arrives C.P (lone (b.at a (.code c'::.inLoop c'::k)) cs w) b k cs e a' w':=by
   intro m
   induction m using Tx with
   | _ m ihm=>
   intro M bm tk ρ σ a w hl h hm;obtain⟨e,a₁,w₁,hq,harr⟩:=ih hok hl h (hI m ρ σ hm) b (.inLoop c'::k) cs;obtain⟨M',bm',tk',ρ',σ',x,k1,k2,k3,k4⟩:=hq;cases k2 with
   | normal=>
    obtain⟨m',hlt,ρ3,σ3,g1,g4⟩:=k1;obtain⟨M3,bm3,g2,g3⟩:=g1 M' bm' tk' pr n a₁ w₁ k3;obtain⟨e₂,a₂,w₂,hq₂,harr₂⟩:=ihm m' hlt M3 bm3 tk' ρ3 σ3 a₁ w₁ (g3 M0 bm0 w0 hn0 k4) g2 g4;exact⟨e₂,a₂,w₂,hq₂,.of_steps (Steps.trans harr (.one step_inLoop)) harr₂⟩
   | ret=>exact⟨_,a₁,w₁,⟨M',bm',tk',ρ',σ',_,k1,.ret,k3,k4⟩,.pass (x:=.inLoop c') rfl (fun _ _=>.inl (by simp)) harr⟩
   | exit id=>exact⟨_,a₁,w₁,⟨M',bm',tk',ρ',σ',_,k1,.exit id,k3,k4⟩,.pass (x:=.inLoop c') rfl (fun _ _=>.inl (by simp)) harr⟩
   | panic hp=>exact⟨_,a₁,w₁,⟨M',bm',tk',ρ',σ',_,k1,.panic hp,k3,k4⟩,.pass (x:=.inLoop c') rfl (fun _ _=>.inl (by simp)) harr⟩
  obtain⟨e,a',w',hq,harr⟩:=key m M1 bm1 tk _ σ1 a w hl1 h1 hm;exact⟨e,a',w',hq,.of_steps (.one step_loop) harr⟩
 | exit id=>
  intro c' M bm tk ρ σ a w Q hok hl h hq;cases c'<;>simp only[okC,beq_iff_eq]at hok<;>first|(cases hok;done)|skip
  subst hok;exact wp_exit ⟨M,bm,tk,ρ,σ,_,hq,.exit id,h,hl⟩
 | ret=>
  intro c' M bm tk ρ σ a w Q hok hl h hq;cases c'<;>simp only[okC]at hok<;>first|(cases hok;done)|skip
  exact wp_ret ⟨M,bm,tk,ρ,σ,_,hq,.ret,h,hl⟩
end
end Go.Proofs.YtnhphlmblenapaaGreatDoor
namespace Go.Proofs.YtnhphlmblenapaaGreatDoor
open Go.RowKit
inductive D.Wf:D->Prop
 | lit (v:Value) (h:da v):D.Wf (.lit v)
 | sl (rows:LLD) (hl:rows.length≤maxLen) (h:∀i j (hi:i<rows.length) (hj:j<rows[i].length),D.Wf rows[i][j]):D.Wf (.sl rows)
theorem DRep.wf{M:av}{x:D}{v:Value}(h:DRep M x v):x.Wf:=by
 induction h with
 | lit v h=>exact .lit v h
 | sl rows k p cap val hk hd hf hc hm ih=>exact .sl rows (by omega) ih
inductive V.Wf:V->Prop
 | d {x:D} (h:x.Wf):V.Wf (.d x)
 | own {T k:Nat} {rows:LLD} (h:(D.sl rows).Wf):V.Wf (.own T k rows)
 | agg {cs:List V} (h:∀i (h:i<cs.length),V.Wf cs[i]):V.Wf (.agg cs)
 | nil:V.Wf .nil
 | tup (cs:List V):V.Wf (.tup cs)
 | ptr (i o:Nat):V.Wf (.ptr i o)
 | bsl (i o n k:Nat):V.Wf (.bsl i o n k)
 | row (cs:List D) (o:Nat):V.Wf (.row cs o)
 | fn (f:FuncId) (cs:List V):V.Wf (.fn f cs)
 | bnd (f:FuncId) (cs:List V):V.Wf (.bnd f cs)
 | iface (t:TypeId) (v:V):V.Wf (.iface t v)
 | mp (i:Nat):V.Wf (.mp i)
 | bsc (i n c:Nat):V.Wf (.bsc i n c)
 | junk:V.Wf .junk
theorem Rep.wf{M:av}{bm:List Nat}{x:V}{v:Value}(h:Rep M bm x v):x.Wf:=by
 induction h with
 | d h=>exact .d h.wf
 | own h=>exact .own h.wf
 | nil=>exact .nil
 | agg hl h h1 ih=>exact .agg fun i hi=>ih i hi (by omega)
 | tup hl h ih=>exact .tup _
 | ptr h=>exact .ptr _ _
 | bsl h hc hm=>exact .bsl _ _ _ _
 | row val hf hd=>exact .row _ _
 | fn hl h ih=>exact .fn _ _
 | bnd hl h ih=>exact .bnd _ _
 | iface h ih=>exact .iface _ _
 | mp h=>exact .mp _
 | bsc h hc hm=>exact .bsc _ _ _
 | junk v=>exact .junk
inductive RV where
 | t (n:Nat) (own:Bool)
 | c (n k:Nat) (ag:Bool)
def aO(σ:LLV)(ρ:ai):RV->Option V
 | .t n true=>some (get ρ n)
 | .t n false=>some (get ρ n).lend
 | .c n k ag=>(jJ σ k ag (get ρ n)).map V.lend
def bY(σ:LLV)(ρ:ai):List RV->Option (List V)
 | []=>some []
 | r::rs=>match aO σ ρ r,bY σ ρ rs with|some v,some l=>some (v.lend::l)|_,_=>none
def aC(σ:LLV)(ρ:ai):List RV->Option V
 | [r]=>aO σ ρ r
 | rs=>(bY σ ρ rs).map V.tup
def Kz(tab:Tab):RV->ResultVar->Bool
 | .t n _,.tmp m=>n==m
 | .c n k ag,.cell m t=>n==m&&(match tab t with|some i=>i.sz==k&&i.agg==ag|none=>false)
 | _,_=>false
def mK(tab:Tab):List RV->List ResultVar->Bool
 | [],[]=>true
 | r::rs,r'::rs'=>Kz tab r r'&&mK tab rs rs'
 | _,_=>false
def aF(tab:Tab)(fn:Func)(m:Nat)(c:Cd)(rs:List RV):Bool:=
 (match fn.body with|some b=>okC tab fn.ntmps c b|none=>false)&&mK tab rs fn.results.toList&&decide (m≤fn.ntmps) && !(fn.name == "runtime.NumGoroutine")
def fin(n0:Nat)(rs:List RV)(Q:Out->LLV->Prop):bX:=fun e ρ σ'=>match e with
 | .normal=>∃ρ2 σ2,dY n0 ρ σ' ρ2 σ2/\∃v,aC σ2 ρ2 rs=some v/\∃k,n0≤k/\ak k (σ2.take k)=true/\V.under k v=true/\Q (.ret v) (σ2.take k)
 | .ret=>∃ρ2 σ2,dY n0 ρ σ' ρ2 σ2/\∃v,aC σ2 ρ2 rs=some v/\∃k,n0≤k/\ak k (σ2.take k)=true/\V.under k v=true/\Q (.ret v) (σ2.take k)
 | .panic v=>∃k,n0≤k/\ak k (σ'.take k)=true/\V.under k v=true/\Q (.panic v) (σ'.take k)
 | .exit _=>False
def eH:Nat->List V->ai
 | _,[]=>[]
 | i,v::r=>(i,v)::eH (i+1) r
def Gn(tmps:Array Value):ResultVar->Sem Value
 | .tmp t=>pure (tmps.getD t undef)
 | .cell a t=>do loadVar t (<-asAddr (tmps.getD a undef))
theorem qC(fn:Func)(tmps:Array Value):results fn tmps=(do
 let vs <-fn.results.mapM (Gn tmps)
 pure (if h:vs.size=1 then vs[0]else .tuple vs)):=by
 unfold results;congr 1
section
variable {C : Cx} {M : av} {bm : List Nat} {tk : bv} {pr : Prot} {ρ : ai} {σ : LLV} {n : Nat} {a : Act} {w : World}
theorem pO(h:SRel M bm tk pr ρ σ n a w){r:RV}{r':ResultVar}(hok:Kz C.tab r r'=true){x:V}(hx:aO σ ρ r=some x):
 ∃v,(Gn a.tmps r').run C.P w=.ok v w/\∃t,CellOK M bm w x v t/\(t=none\/∃s,t=tk none s):=by
 unfold Kz at hok;split at hok
 .rename_i m own m';simp only[beq_iff_eq]at hok;subst hok;cases own with
  | true=>cases hx;exact⟨_,rfl,_,h.slots m,.inr ⟨m,rfl⟩⟩
  | false=>cases hx;exact⟨_,rfl,none,⟨(h.slots m).rep.lend,fun _ _ _ e=>absurd e V.lend_own⟩,.inl rfl⟩
 .rename_i m k ag m' t;simp only[SE,beq_iff_eq]at hok;obtain⟨rfl,h2⟩:=hok;split at h2
  .rename_i i hi;simp only[SE,beq_iff_eq]at h2;obtain⟨rfl,rfl⟩:=h2;obtain⟨y,hy,rfl⟩:=Option.map_eq_some_iff.1 hx;obtain⟨v,h3,h4,h5⟩:=qG h.inv hi hy (h.slots m).rep;refine⟨v,?_,none,⟨h4.lend,fun _ _ _ e=>absurd e V.lend_own⟩,.inl rfl⟩
   have hptr:∃ad,a.tmps.getD m undef=.pointer (some ad):=by
    have hr:=(h.slots m).rep;unfold jJ at hy;obtain⟨cs,hcs,-⟩:=Option.bind_eq_some_iff.1 hy;obtain⟨ad,vs,e,-⟩:=kh h.inv hcs hr;exact⟨ad,e⟩
   obtain⟨ad,e⟩:=hptr;simp only[Gn];rw[e]at h3 ⊢;simpa[Instr.loadAt,Instr.sureAddr,asAddr]using h3
  .cases h2
 .cases hok
theorem p7(h:SRel M bm tk pr ρ σ n a w):∀{rs:List RV} {rs':List ResultVar} {xs:List V},mK C.tab rs rs'=true->bY σ ρ rs=some xs->
 ∃vs:List Value,(rs'.mapM (Gn a.tmps)).run C.P w=.ok vs w/\vs.length=xs.length/\rs'.length=xs.length/\∀i (h:i<xs.length) (h':i<vs.length),Rep M bm xs[i] vs[i]
 | [],[],xs,_,hx=>by cases hx;exact⟨[],rfl,rfl,rfl,fun i h=>by simp at h⟩
 | r::rs,r'::rs',xs,hok,hx=>by
  simp only[mK,SE]at hok;simp only[bY]at hx;split at hx
  .rename_i v l hv hl;cases hx;obtain⟨u,g1,t,g2,-⟩:=pO h hok.1 hv;obtain⟨vs,k1,k2,k3,k4⟩:=p7 h hok.2 hl;refine⟨u::vs,?_,by simp[k2],by simp[k3],fun i h1 h2=>?_⟩
   .rw[Tu,Sem.run_bind,g1,Result.andThen_ok,Sem.run_bind,k1];rfl
   .cases i with
    | zero=>exact g2.rep.lend
    | succ i=>exact k4 i (by simpa using h1) (by simpa using h2)
  .cases hx
 | [],_::_,_,hok,_=>by cases hok
 | _::_,[],_,hok,_=>by cases hok
theorem qk(h:SRel M bm tk pr ρ σ n a w){rs:List RV}{fn:Func}{x:V}(hok:mK C.tab rs fn.results.toList=true)(hx:aC σ ρ rs=some x):
 ∃v,(results fn a.tmps).run C.P w=.ok v w/\∃t,CellOK M bm w x v t/\(t=none\/∃s,t=tk none s):=by
 rw[qC,Array.mapM_eq_mapM_toList];unfold aC at hx;split at hx
 .rename_i r
  match hrs:fn.results.toList,hok with
  | [r'],hok=>
   simp only[mK,SJ]at hok;obtain⟨v,g1,g2⟩:=pO h hok hx;refine⟨v,?_,g2⟩;simp only[Tu,List.mapM_nil,Sem.run_bind,Sem.run_map,g1,Result.andThen_ok,Sem.run_pure];rfl
  | [],hok=>cases hok
  | _::_::_,hok=>simp[mK]at hok
 .rename_i hne;obtain⟨xs,hxs,rfl⟩:=Option.map_eq_some_iff.1 hx;obtain⟨vs,k1,k2,k3,k4⟩:=p7 h hok hxs;refine⟨.tuple vs.toArray,?_,none,⟨.tup k2 k4,fun _ _ _ e=>by cases e⟩,.inl rfl⟩;simp only[Sem.run_bind,Sem.run_map,k1,Result.andThen_ok,Sem.run_pure]
  have hl:¬vs.toArray.size=1:=by
   intro e;have:fn.results.toList.length=1:=by rw[k3,<-k2];simpa using e
   match rs,hne,hok with
   | [],_,hok=>match hrs:fn.results.toList,hok with | [],_=>rw[hrs]at this;cases this
   | [r],hne,_=>exact hne r rfl
   | _::_::_,_,hok=>match hrs:fn.results.toList,hok with
    | [_],hok=>simp[mK]at hok
    | _::_::_,_=>rw[hrs]at this;simp at this
  rw[dif_neg hl]
theorem je:∀(args:List V) (i t:Nat),get (eH i args) t=if i≤t then(args[t-i]?).getD .junk else .junk
 | [],i,t=>by simp[eH,get]
 | v::r,i,t=>by
  simp only[eH,get];split
  .rename_i e;subst e;simp
  .rename_i e;rw[je r (i+1) t];by_cases h:i≤t
   .rw[if_pos (by omega),if_pos h,show t-i=(t-(i+1))+1 by omega];rfl
   .rw[if_neg (by omega),if_neg h]
theorem bN{P:Program}{f:FuncId}{fn:Func}(hf:P.funcs[f]? = some fn)(hn:(fn.name == "runtime.NumGoroutine")=false)(hb:fn.body.isNone=false):
 ∀args w,(callFunc f args).run P w=.ok (.enter f args) w:=fun args w=>by
 have h1:fn.name ≠ "runtime.NumGoroutine" := by simpa using hn
 have h2:fn.body≠none:=fun h=>by rw[h]at hb;cases hb
 simp[callFunc,hf,h1,h2]
theorem BF{f:FuncId}{fn:Func}{c:Cd}{rs:List RV}{args:List V}{Q:Out->LLV->Prop}(hf:C.P.funcs[f]? = some fn)(hok:aF C.tab fn args.length c rs=true)
 (h:ak σ.length σ=true->(∀i (h:i<args.length),V.Wf args[i])->awp C σ.length c (eH 0 args) σ (fin σ.length rs Q)):
 (∀as w,(callFunc f as).run C.P w=.ok (.enter f as) w)/\
 ∀(M:av) (bm:List Nat) (tk:bv) (pr:Nat->Prop) (w:World) (vs:List Value),C.glob M pr w->Inv M bm σ tk pr w->vs.length=args.length->(∀i (h:i<args.length) (h':i<vs.length),CellOK M bm w args[i] vs[i] (tk none i))->
  Calls C.P f vs.toArray w fun e w'=>∃M' bm' tk' σ' o,Q o σ'/\Inv M' bm' σ' tk' pr w'/\Later M bm pr w M' bm' w'/\OutOK M' bm' w' tk' o e:=by
 unfold aF at hok;simp only[SE,decide_eq_true_eq,SG]at hok;obtain⟨⟨⟨h1,h2⟩,h3⟩,h4⟩:=hok;cases hb:fn.body with
 | none=>rw[hb]at h1;cases h1
 | some body=>
 rw[hb]at h1;refine⟨bN hf h4 (by rw[hb];rfl),fun M bm tk pr0 w vs hG hI hl hr=>?_⟩;obtain⟨pr,rfl,hds⟩:∃pr:Prot,pr.p=pr0/\pr.ds=[]:=⟨⟨pr0,[]⟩,rfl,rfl⟩
 have hq:=h hI.under (fun i hi=>(hr i hi (by omega)).rep.wf);refine calls_of_wp hf hb ?_
 have hs:SRel M bm tk pr (eH 0 args) σ fn.ntmps {tmps:=vs.toArray++Sv (fn.ntmps-vs.toArray.size) undef,defers:=[]} w:=by
  refine⟨hI,hds.symm,by simp;omega,fun t=>?_⟩;rw[je,if_pos (Tz _),TB];by_cases hlt:t<args.length
  .rw[SS hlt,TD]
   have hv:(vs.toArray++Sv (fn.ntmps-vs.toArray.size) undef).getD t undef=vs[t]'(by omega):=by
    rw[Ss,SD (by simp;omega)];simp[show t<vs.length by omega]
   rw[hv];exact hr t hlt (by omega)
  .rw[Th (by omega),TG];exact CellOK.junk ..
 refine wp_mono (kW hG hI.len h1 (Later.refl M bm pr w) hs hq) (fun e a' w' hL=>?_);obtain⟨M',bm',tk',ρ',σ',x,k1,k2,k3,k4⟩:=hL
 have cut:∀{M':av} {bm':List Nat} {ρ':ai} {σ':LLV} {k:Nat} (o:Option Nat),SRel M' bm' tk' pr ρ' σ' fn.ntmps a' w'->Later M bm pr w M' bm' w'->σ.length≤k->ak k (σ'.take k)=true->(o=none\/∃s,o=tk' none s)->
  Inv M' (bm'.take k) (σ'.take k) (fun i j=>match i with|none=>if j=0 then o else none|some i=>tk' (some i) j) pr w'/\Later M bm pr w M' (bm'.take k) w':=by
  intro M' bm' ρ' σ' k o k3 k4 hk hbk ho;have hd:=k3.inv.drop hbk;refine⟨⟨hd.facts,hd.len,hd.box,hd.free,hd.bmnd,fun i j g hg=>?_,fun i j i' j' g g1 g2=>?_,hd.prlt⟩,k4.drop (by rw[hI.len];exact hk)⟩
  .cases i with
   | some i=>exact hd.tok _ _ _ hg
   | none=>
    simp only at hg;split at hg
    .rcases ho with rfl|⟨s,rfl⟩
     .cases hg
     .exact hd.tok _ _ _ hg
    .cases hg
  .cases i with
   | some i=>cases i' with
    | some i'=>exact hd.inj _ _ _ _ _ g1 g2
    | none=>
     simp only at g2;split at g2
     .rcases ho with rfl|⟨s,rfl⟩
      .cases g2
      .have:=hd.inj _ _ _ _ _ g1 g2;simp at this
     .cases g2
   | none=>cases i' with
    | some i'=>
     simp only at g1;split at g1
     .rcases ho with rfl|⟨s,rfl⟩
      .cases g1
      .have:=hd.inj _ _ _ _ _ g1 g2;simp at this
     .cases g1
    | none=>
     simp only at g1 g2;split at g1
     .split at g2
      .exact⟨rfl,by omega⟩
      .cases g2
     .cases g1
 have ret:∀ρ2 σ2,dY σ.length ρ' σ' ρ2 σ2->∀v,aC σ2 ρ2 rs=some v->(∃k,σ.length≤k/\ak k (σ2.take k)=true/\V.under k v=true/\Q (.ret v) (σ2.take k))->
  a'.defers=[]/\∃u,(results fn a'.tmps).run C.P w'=.ok u w'/\∃M' bm' tk' σ' o,Q o σ'/\Inv M' bm' σ' tk' pr w'/\Later M bm pr w M' bm' w'/\OutOK M' bm' w' tk' o (.returned u):=by
  rintro ρ2 σ2 hsh v hv ⟨k,g1,g2,g3,g4⟩;obtain⟨M2,bm2,s1,s2⟩:=hsh M' bm' tk' pr fn.ntmps a' w' k3;obtain⟨u,r1,t,r2,r3⟩:=qk s1 h2 hv;obtain⟨c1,c2⟩:=cut t s1 (s2 M bm w hI.len k4) g1 g2 r3;refine⟨k3.defers.trans hds,u,r1,M2,bm2.take k,_,σ2.take k,.ret v,g4,c1,c2,fun v' e=>?_,fun v' e=>by cases e⟩;cases e;exact⟨u,rfl,r2.rep.drop g3,by simpa using r2.own⟩
 cases k2 with
 | normal=>obtain⟨ρ2,σ2,g0,v,g1,g2⟩:=k1;exact ret ρ2 σ2 g0 v g1 g2
 | ret=>obtain⟨ρ2,σ2,g0,v,g1,g2⟩:=k1;exact ret ρ2 σ2 g0 v g1 g2
 | exit id=>exact k1.elim
 | panic hp=>
  obtain⟨k,g1,g2,g3,g4⟩:=k1;obtain⟨c1,c2⟩:=cut none k3 k4 g1 g2 (.inl rfl);exact⟨k3.defers.trans hds,M',bm'.take k,_,σ'.take k,_,g4,c1,c2,(fun v' e=>by cases e),fun v' e=>by cases e;exact⟨_,rfl,hp.drop g3⟩⟩
theorem Ah{f:FuncId}{fn:Func}{c:Cd}{rs:List RV}{args:List V}{Q:Out->LLV->Prop}(hf:C.P.funcs[f]? = some fn)(hok:aF C.tab fn args.length c rs=true)(hno:args.all (! ·.isOwn)=true)
 (h:ak σ.length σ=true->(∀i (h:i<args.length),V.Wf args[i])->awp C σ.length c (eH 0 args) σ (fin σ.length rs Q)):Fun C f args σ Q:=by
 obtain⟨h1,h2⟩:=BF hf hok h;refine⟨h1,fun M bm tk pr w vs hG hI _ hl hr=>h2 M bm tk pr w vs hG hI hl fun i g1 g2=>⟨hr i g1 g2,fun T k rows e=>?_⟩⟩;have:=List.all_eq_true.1 hno args[i] (Tj g1);rw[e]at this;cases this
end
end Go.Proofs.YtnhphlmblenapaaGreatDoor
namespace Go.Proofs.YtnhphlmblenapaaGreatDoor
open Go.RowKit
inductive Tag{α:Type}(a:α):Type where
 | mk
def cK(o:Option V)(f:V->Prop)(_:Tag f):Prop:=match o with|some v=>f v|none=>False
theorem Ck(v:V)(f:V->Prop)(t:Tag f):cK (some v) f t=f v:=rfl
def fnT(v:V)(f:FuncId->List V->Prop)(_:Tag f):Prop:=match v with | .fn g cap=>f g cap|_=>False
theorem Jj(g:FuncId)(cap:List V)(f:FuncId->List V->Prop)(t:Tag f):fnT (.fn g cap) f t=f g cap:=rfl
def GS(v:V)(as:List V)(f:FuncId->List V->Prop)(_:Tag f):Prop:=match v with | .fn g cap=>f g (as++cap) | .bnd g first=>f g (first++as)|_=>False
theorem Hw(g:FuncId)(cap as:List V)(f:FuncId->List V->Prop)(t:Tag f):GS (.fn g cap) as f t=f g (as++cap):=rfl
theorem Ee(g:FuncId)(first as:List V)(f:FuncId->List V->Prop)(t:Tag f):GS (.bnd g first) as f t=f g (first++as):=rfl
def Cr(v:V)(f:Nat->Nat->Prop)(_:Tag f):Prop:=match v with | .ptr i o=>f i o|_=>False
theorem Fo(i o:Nat)(f:Nat->Nat->Prop)(t:Tag f):Cr (.ptr i o) f t=f i o:=rfl
def wH(v:V)(f:Nat->Nat->LLD->Prop)(_:Tag f):Prop:=match v with | .own T k rows=>f T k rows|_=>False
theorem Du(T k:Nat)(rows:LLD)(f:Nat->Nat->LLD->Prop)(t:Tag f):wH (.own T k rows) f t=f T k rows:=rfl
def ifT(v:V)(f:Nat->V->Prop)(_:Tag f):Prop:=match v with | .iface t v=>f t v|_=>False
theorem BZ(ty:Nat)(v:V)(f:Nat->V->Prop)(t:Tag f):ifT (.iface ty v) f t=f ty v:=rfl
def bxT(o:Option (List V))(f:List V->Prop)(_:Tag f):Prop:=match o with|some cs=>f cs|none=>False
theorem DQ(cs:List V)(f:List V->Prop)(t:Tag f):bxT (some cs) f t=f cs:=rfl
def rwT(o:Option LLD)(f:LLD->Prop)(_:Tag f):Prop:=match o with|some rows=>f rows|none=>False
theorem CO(rows:LLD)(f:LLD->Prop)(t:Tag f):rwT (some rows) f t=f rows:=rfl
def Iq(v:V)(f:Bool->Prop)(_:Tag f):Prop:=match v with | .d (.lit (.bool c))=>f c|_=>False
theorem xS(c:Bool)(f:Bool->Prop)(t:Tag f):Iq (.d (.lit (.bool c))) f t=f c:=rfl
def sa(v:V)(f:Bool->Prop)(u:Unit->Prop)(_:Tag f)(_:Tag u):Prop:=match v with
 | .d (.lit (.bool c))=>f c
 | .tup []=>u ()
 | _=>False
theorem yt(c:Bool)(f:Bool->Prop)(u:Unit->Prop)(s:Tag f)(t:Tag u):sa (.d (.lit (.bool c))) f u s t=f c:=rfl
theorem EW(f:Bool->Prop)(u:Unit->Prop)(s:Tag f)(t:Tag u):sa (.tup []) f u s t=u ():=rfl
def rm(c:Bool)(A B:Unit->Prop)(_:Tag A)(_:Tag B):Prop:=(c=true->A ())/\(c=false->B ())
theorem AD(A B:Unit->Prop)(s:Tag A)(t:Tag B):rm true A B s t=A ():=by simp[rm]
theorem xb(A B:Unit->Prop)(s:Tag A)(t:Tag B):rm false A B s t=B ():=by simp[rm]
theorem cx{c:Bool}{A B:Unit->Prop}{s:Tag A}{t:Tag B}(h1:c=true->A ())(h2:c=false->B ()):rm c A B s t:=⟨h1,h2⟩
theorem Gc(b:Bool):(b==true)=b:=by cases b<;>rfl
theorem FQ(b:Bool):(b==false) = !b:=by cases b<;>rfl
def onT(p:Prop)(A:Unit->Prop)(_:Tag A):Prop:=p/\A ()
theorem bh{p:Prop}{A:Unit->Prop}{t:Tag A}(h1:p)(h2:A ()):onT p A t:=⟨h1,h2⟩
theorem DS(A:Unit->Prop)(t:Tag A):onT True A t=A ():=by simp[onT]
def eI(C:Cx)(n0:Nat)(c:Cd)(ρ:ai)(σ:LLV)(Q:bX)(_:Tag Q):Prop:=awp C n0 c ρ σ Q
def be(C:Cx)(l:List O)(ρ:ai)(σ:LLV)(Q:bX)(_:Tag Q):Prop:=ck C l ρ σ Q
def bj(C:Cx)(l:List O)(ρ:ai)(σ:LLV)(K:ai->Prop)(_:Tag K):Prop:=ba C l ρ σ K
def DU(K:V->LLV->Prop)(P:V->LLV->Prop):Out->LLV->Prop:=fun o σ'=>match o with
 | .ret v=>K v σ'
 | .panic v=>P v σ'
def e8(C:Cx)(f:FuncId)(args:List V)(σ:LLV)(K:V->LLV->Prop)(P:V->LLV->Prop)(_:Tag K)(_:Tag P):Prop:=Fun C f args σ (DU K P)
def EL(C:Cx)(f:FuncId)(args:List V)(σ:LLV)(k:V->Prop)(_:Tag k):Prop:=∃v,Fun C f args σ (fun o σ'=>o=.ret v/\σ'=σ)/\k v
def JO(x:V)(k:Int->Prop)(_:Tag k):Prop:=match x with
 | .d (.lit (.int _ n))=>k n
 | _=>False
theorem E9(kd:IntKind)(n:Int){k:Int->Prop}(t:Tag k):JO (.d (.lit (.int kd n))) k t=k n:=rfl
def stT(C:Cx)(l:List O)(ρ:ai)(σ:LLV)(acc:Option LLV)(K:ai->LLV->Prop)(_:Tag K):Prop:=zW C σ l ρ acc K
def Fj(P:Program):Tab:=fun t=>
 match P.underlying t,P.info? t with
 | some d,some i=>match i.zero with
  | some z=>if z.cells.size=i.size then some ⟨d,i.size,i.bytes,z⟩else none
  | none=>none
 | _,_=>none
theorem D2(P:Program):ol P (Fj P):=by
 intro t i h;unfold Fj at h;split at h
 .rename_i d inf h1 h2;split at h
  .rename_i z hz;split at h
   .rename_i hs;cases h;exact⟨h1,inf,h2,rfl,rfl,hz,hs⟩
   .cases h
  .cases h
 .cases h
def cxk(P:Program)(gl:Nat->Option (List D))(kp:Nat->Option (Array Value->Prop))(h:P.follows .mixedOrders=true):Cx:=⟨P,Fj P,gl,kp,D2 P,h,fun t=>!P.stoodInHeld t && !P.eqGuardType P.depth t,fun t ht=>by simpa using ht⟩
section
variable {C : Cx} {ρ : ai} {σ σ2 : LLV} {Q : bX} {K : ai -> Prop} {KA : ai -> LLD -> Prop} {cc : Cell} {acc : Option LLD} {KN : ai -> List V -> Prop} {cn : List V} {accn : Option (List V)} {KS : ai -> LLV -> Prop} {accs : Option LLV} {n0 : Nat}
theorem Rw(n:Nat):ev C ρ (.t n)=get ρ n:=rfl
theorem QC(v:V):ev C ρ (.k v)=v:=rfl
theorem Fs(s:Nat)(u:V)(r:ai)(t:Nat):get ((s,u)::r) t=if s=t then u else get r t:=rfl
theorem F2(t:Nat):get [] t=.junk:=rfl
theorem FT(s:Nat)(u:V)(r:ai)(t:Nat)(v:V):put ((s,u)::r) t v=if t<s then(t,v)::(s,u)::r else if t=s then(t,v)::r else(s,u)::put r t v:=rfl
theorem Gp(t:Nat)(v:V):put [] t v=[(t,v)]:=rfl
theorem BO(t:Nat)(v:V):putd ρ (some t) v=put ρ t v:=rfl
theorem B7(v:V):putd ρ none v=ρ:=rfl
theorem uc(l:List Nat):aY l []=[]:=rfl
theorem rj(l:List Nat)(s:Nat)(u:V)(r:ai):aY l ((s,u)::r)=if l.contains s=true then(s,u)::aY l r else aY l r:=by
 unfold aY;rw[Tq]
theorem PH(x:X)(d:Option Nat)(r:List O)(t:Tag Q):be C (⟨d,.mv x,none⟩::r) ρ σ Q t=be C r (putd ρ d (ev C ρ x).copy) σ Q .mk:=rfl
theorem Qo(x:X)(d:Option Nat)(r:List O)(t:Tag K):bj C (⟨d,.mv x,none⟩::r) ρ σ K t=bj C r (putd ρ d (ev C ρ x).copy) σ K .mk:=rfl
theorem JT(x y z:X)(d:Option Nat)(r:List O)(t:Tag Q):be C (⟨d,.pick x y z,none⟩::r) ρ σ Q t=cK (j8 (ev C ρ x) (ev C ρ y) (ev C ρ z)) (fun v=>be C r (putd ρ d v) σ Q .mk) .mk:=rfl
theorem Jv(x y z:X)(d:Option Nat)(r:List O)(t:Tag K):bj C (⟨d,.pick x y z,none⟩::r) ρ σ K t=cK (j8 (ev C ρ x) (ev C ρ y) (ev C ρ z)) (fun v=>bj C r (putd ρ d v) σ K .mk) .mk:=by
 unfold bj cK;simp only[ba,bI,cB,pv];cases j8 (ev C ρ x) (ev C ρ y) (ev C ρ z)<;>rfl
theorem O6(o:BinOp)(x y:X)(d:Option Nat)(r:List O)(t:Tag Q):be C (⟨d,.bin o x y,none⟩::r) ρ σ Q t=cK (cf o (ev C ρ x) (ev C ρ y)) (fun v=>be C r (putd ρ d v) σ Q .mk) .mk:=rfl
theorem Ox(o:BinOp)(x y:X)(d:Option Nat)(r:List O)(t:Tag K):bj C (⟨d,.bin o x y,none⟩::r) ρ σ K t=cK (cf o (ev C ρ x) (ev C ρ y)) (fun v=>bj C r (putd ρ d v) σ K .mk) .mk:=by
 unfold bj cK;simp only[ba,bI,cB,pv];cases cf o (ev C ρ x) (ev C ρ y)<;>rfl
theorem Of(neq:Bool)(T:TypeId)(ks:List Kd)(x y:X)(d:Option Nat)(r:List O)(t:Tag Q):be C (⟨d,.eqa neq T ks x y,none⟩::r) ρ σ Q t=onT (C.eqs T=true) (fun _=>cK (mh neq ks (ev C ρ x) (ev C ρ y)) (fun v=>be C r (putd ρ d v) σ Q .mk) .mk) .mk:=by
 unfold be cK onT;by_cases h:C.eqs T=true
 .simp only[ck,cS,cB,pv,h,if_true,true_and];cases mh neq ks (ev C ρ x) (ev C ρ y)<;>simp
 .simp only[ck,cS,cB,pv,if_neg h];simp[h]
theorem OD(neq:Bool)(x:X)(d:Option Nat)(r:List O)(t:Tag Q):be C (⟨d,.nif neq x,none⟩::r) ρ σ Q t=cK (xI neq (ev C ρ x)) (fun v=>be C r (putd ρ d v) σ Q .mk) .mk:=by
 unfold be cK;simp only[ck,cS,cB,pv];cases xI neq (ev C ρ x)<;>simp
theorem Jg(f:FuncId)(first:List X)(d:Option Nat)(r:List O)(t:Tag Q):be C (⟨d,.mkbd f first,none⟩::r) ρ σ Q t=be C r (putd ρ d (.bnd f (first.map (ev C ρ)))) σ Q .mk:=rfl
theorem KL(neq:Bool)(T:TypeId)(ks:List Kd)(x y:X)(d:Option Nat)(r:List O)(t:Tag K):bj C (⟨d,.eqa neq T ks x y,none⟩::r) ρ σ K t=onT (C.eqs T=true) (fun _=>cK (mh neq ks (ev C ρ x) (ev C ρ y)) (fun v=>bj C r (putd ρ d v) σ K .mk) .mk) .mk:=by
 unfold bj cK onT;by_cases h:C.eqs T=true
 .simp only[ba,bI,cB,pv,h,if_true,true_and];cases mh neq ks (ev C ρ x) (ev C ρ y)<;>simp
 .simp only[ba,bI,cB,pv,if_neg h];simp[h]
theorem Q8(o:UnOp)(x:X)(d:Option Nat)(r:List O)(t:Tag Q):be C (⟨d,.un o x,none⟩::r) ρ σ Q t=cK (unV o (ev C ρ x)) (fun v=>be C r (putd ρ d v) σ Q .mk) .mk:=rfl
theorem QY(o:UnOp)(x:X)(d:Option Nat)(r:List O)(t:Tag K):bj C (⟨d,.un o x,none⟩::r) ρ σ K t=cK (unV o (ev C ρ x)) (fun v=>bj C r (putd ρ d v) σ K .mk) .mk:=by
 unfold bj cK;simp only[ba,bI,cB,pv];cases unV o (ev C ρ x)<;>rfl
theorem Kw(kd:IntKind)(x:X)(d:Option Nat)(r:List O)(t:Tag Q):be C (⟨d,.conv kd x,none⟩::r) ρ σ Q t=cK (sb kd (ev C ρ x)) (fun v=>be C r (putd ρ d v) σ Q .mk) .mk:=rfl
theorem JZ(kd:IntKind)(x:X)(d:Option Nat)(r:List O)(t:Tag K):bj C (⟨d,.conv kd x,none⟩::r) ρ σ K t=cK (sb kd (ev C ρ x)) (fun v=>bj C r (putd ρ d v) σ K .mk) .mk:=by
 unfold bj cK;simp only[ba,bI,cB,pv];cases sb kd (ev C ρ x)<;>rfl
theorem Ni(x:X)(d:Option Nat)(r:List O)(t:Tag Q):be C (⟨d,.cbs x,none⟩::r) ρ σ Q t=cK (tv σ (ev C ρ x)) (fun v=>be C r (putd ρ d v) σ Q .mk) .mk:=rfl
theorem Mg(x:X)(d:Option Nat)(r:List O)(t:Tag K):bj C (⟨d,.cbs x,none⟩::r) ρ σ K t=cK (tv σ (ev C ρ x)) (fun v=>bj C r (putd ρ d v) σ K .mk) .mk:=by
 unfold bj cK;simp only[ba,bI,cB,pv];cases tv σ (ev C ρ x)<;>rfl
theorem Hi(x:X)(d:Option Nat)(r:List O)(t:Tag Q):be C (⟨d,.nilck x,none⟩::r) ρ σ Q t=cK (kC (ev C ρ x)) (fun v=>be C r (putd ρ d v) σ Q .mk) .mk:=rfl
theorem Gy(x:X)(d:Option Nat)(r:List O)(t:Tag K):bj C (⟨d,.nilck x,none⟩::r) ρ σ K t=cK (kC (ev C ρ x)) (fun v=>bj C r (putd ρ d v) σ K .mk) .mk:=by
 unfold bj cK;simp only[ba,bI,cB,pv];cases kC (ev C ρ x)<;>rfl
theorem iq{op:OP}{ρ:ai}{σ:LLV}{C:Cx}{k k':V->Prop}(hk:∀v,k v->k' v)(h:bI C op ρ σ k):bI C op ρ σ k':=by
 obtain⟨v,h1,h2⟩:=iy h;unfold bI at h1 ⊢;split at h1
 .obtain⟨u,g1,g2⟩:=h1;subst g2;exact⟨u,g1,hk _ h2⟩
 .split at h1
  .obtain⟨u,g1,g2⟩:=h1;subst g2;exact⟨u,g1,hk _ h2⟩
  .exact h1.elim
 .split at h1
  .exact⟨h1.1,by rw[h1.2];exact hk _ h2⟩
  .exact h1.elim
 .obtain⟨u,g1,g2⟩:=h1;subst g2;exact⟨u,g1,hk _ h2⟩
 .split at h1
  .subst h1;exact hk _ h2
  .exact h1.elim
def kvT(a:Option (List (Key×V)))(b:Option Key)(f:List (Key×V)->Key->Prop)(_:Tag f):Prop:=match a,b with|some kv,some key=>f kv key|_,_=>False
theorem DC(kv:List (Key×V))(key:Key)(f:List (Key×V)->Key->Prop)(t:Tag f):kvT (some kv) (some key) f t=f kv key:=rfl
def Ll(v:V)(f:Nat->Nat->Nat->Prop)(_:Tag f):Prop:=match asB v with|some (i,off,n)=>f i off n|none=>False
theorem Dm(i off n:Nat)(f:Nat->Nat->Nat->Prop)(t:Tag f):Ll (.bsl i off n 1) f t=f i off n:=rfl
theorem Dk(i n c:Nat)(f:Nat->Nat->Nat->Prop)(t:Tag f):Ll (.bsc i n c) f t=f i 0 n:=rfl
theorem OA(st ok:Bool)(z:V)(x y:X)(d:Option Nat)(r:List O)(t:Tag Q):be C (⟨d,.mlk st ok z x y,none⟩::r) ρ σ Q t=cK (yc st ok z σ (ev C ρ x) (ev C ρ y)) (fun v=>be C r (putd ρ d v) σ Q .mk) .mk:=rfl
theorem Me(st:Bool)(d:Option Nat)(r:List O)(t:Tag Q):be C (⟨d,.mmk st,none⟩::r) ρ σ Q t=be C r (putd ρ d (.mp σ.length)) (σ++[[.mapc st []]]) Q .mk:=rfl
theorem LQ(st:Bool)(x y z:X)(d:Option Nat)(r:List O)(t:Tag Q):be C (⟨d,.mst st x y z,none⟩::r) ρ σ Q t=kvT (ii st σ (ev C ρ x)) (lu st (ev C ρ y)) (fun kv key=>be C r ρ (ou σ st (lV key (ev C ρ z).copy kv) (ev C ρ x)) Q .mk) .mk:=by
 unfold be kvT;simp only[ck,cS];cases ii st σ (ev C ρ x)<;>cases lu st (ev C ρ y)<;>rfl
def I5(v:V)(f g:Unit->Prop)(_:Tag f)(_:Tag g):Prop:=if Ji v=true then f ()else g ()
theorem IR(f g:Unit->Prop)(s:Tag f)(t:Tag g):I5 (.d (.sl [])) f g s t=f ():=rfl
theorem FK(i off n:Nat)(f g:Unit->Prop)(s:Tag f)(t:Tag g):I5 (.bsl i off n 1) f g s t=g ():=rfl
theorem C5(i n c:Nat)(f g:Unit->Prop)(s:Tag f)(t:Tag g):I5 (.bsc i n c) f g s t=g ():=rfl
def avT(x:V)(src:List V)(bytes:Nat)(z:V)(σ:LLV)(f:V->LLV->Prop)(_:Tag f):Prop:=IK σ x src bytes z f
theorem Gf(src:List V)(bytes:Nat)(z:V)(σ:LLV)(f:V->LLV->Prop)(t:Tag f):avT .nil src bytes z σ f t=(src.length*bytes≤140737488355328/\∀c,src.length≤c->f (.bsc σ.length src.length c) (σ++[src++List.replicate (c-src.length) z])):=rfl
theorem CX:lF []=some []:=rfl
theorem Fz(i o n k:Nat)(r:List V):lF (.bsl i o n k::r)=(lF r).map fun l=>.bsl i o n k::l:=by
 simp only[lF,V.boxable1];cases lF r<;>rfl
theorem JP(x:D)(r:List V):lF (.d x::r)=(lF r).map fun l=>.d x::l:=by
 simp only[lF,V.boxable1];cases lF r<;>rfl
theorem z8(i n c:Nat):oT false (.bsc i n c)=some (aK .i64 n):=rfl
theorem CK(b n c:Nat)(kd:IntKind)(j:Nat):iaV 1 (.bsc b n c) (.d (.lit (.int kd (j:Int))))=if j<n then some (.ptr b j)else none:=by
 unfold iaV;simp only[SR,and_true,Nat.mul_one,Tv];by_cases h:j<n
 .rw[if_pos h,if_pos (by omega)]
 .rw[if_neg h,if_neg (by omega)]
theorem J3(i n c:Nat):(V.bsc i n c).copy=.bsc i n c:=rfl
def Jq(st ok:Bool)(z:V)(a:Option (List (Key×V)))(b:Option Key):Option V:=match a,b with|some kv,some key=>some (qo ok z (lv key kv))|_,_=>none
theorem Ii(st ok:Bool)(z:V)(i:Nat)(y:V):yc st ok z σ (.mp i) y=Jq st ok z (A4 st σ[i]?) (lu st y):=by
 unfold yc Jq ii;rfl
theorem rQ(st ok:Bool)(z:V)(kv:List (Key×V))(key:Key):Jq st ok z (some kv) (some key)=some (qo ok z (lv key kv)):=rfl
theorem sr(st:Bool)(kv:List (Key×V)):A4 st (some [.mapc st kv])=some kv:=by simp[A4]
theorem y6(n:Int):lu false (.d (.lit (.int .i64 n)))=some (.i n):=rfl
theorem He(s:ByteArray):lu true (.d (.lit (.string s)))=some (.s s):=rfl
theorem Fb(st:Bool)(i:Nat):ii st σ (.mp i)=A4 st σ[i]? := rfl
theorem FE(st:Bool)(kv:List (Key×V))(i:Nat):ou σ st kv (.mp i)=σ.set i [.mapc st kv]:=rfl
def Oo(b:Option (List V)):Option V:=match b with|some [.mapc _ kv]=>if kv.length≤1000000000 then some (aK .i64 kv.length)else none|_=>none
theorem LK(i:Nat):R6 σ (.mp i)=Oo σ[i]? := rfl
theorem Co(st:Bool)(kv:List (Key×V)):Oo (some [.mapc st kv])=if kv.length≤1000000000 then some (aK .i64 kv.length)else none:=rfl
theorem J7(z v:V):qo false z (some v)=v:=rfl
theorem G7(z:V):qo false z none=z:=rfl
theorem Jf(z v:V):qo true z (some v)=.tup [v,an true]:=rfl
theorem Ho(z:V):qo true z none=.tup [z,an false]:=rfl
theorem PJ(x:D):(V.d x).copy=.d x:=rfl
theorem JG(i o n k:Nat):(V.bsl i o n k).copy=.bsl i o n k:=rfl
theorem Jm(T k:Nat)(rows:LLD):(V.own T k rows).copy=.d (.sl rows):=rfl
theorem IX:V.nil.copy=.nil:=rfl
theorem I6(cs:List V):(V.agg cs).copy=.agg cs:=rfl
theorem Nc(i:Nat):(V.mp i).copy=.mp i:=rfl
def JU(n off:Nat)(b:Option (List V)):Option (List V):=match b with|some cs=>if off+n≤cs.length/\cy cs=true then some (((cs.drop off).take n).map V.copy)else(tyL n off cs).map fun l=>l.map V.copy|none=>none
theorem AJ(n off:Nat)(cs:List V):JU n off (some cs)=if off+n≤cs.length/\cy cs=true then some (((cs.drop off).take n).map V.copy)else(tyL n off cs).map fun l=>l.map V.copy:=rfl
theorem BH(i off n:Nat):An σ (.bsl i off n 1)=JU n off σ[i]? := by
 unfold An JU kB;simp only;cases σ[i]? with
 | none=>rfl
 | some cs=>simp only;split<;>rfl
theorem G9(rows:LLD):An σ (.d (.sl rows))=if rows.all (fun r=>r.length==1)=true then some (rows.flatten.map V.d)else none:=rfl
theorem P3(off:Nat)(x:X)(d:Option Nat)(r:List O)(t:Tag Q):be C (⟨d,.fa off x,none⟩::r) ρ σ Q t=cK (faV off (ev C ρ x)) (fun v=>be C r (putd ρ d v) σ Q .mk) .mk:=rfl
theorem Rf(off:Nat)(x:X)(d:Option Nat)(r:List O)(t:Tag K):bj C (⟨d,.fa off x,none⟩::r) ρ σ K t=cK (faV off (ev C ρ x)) (fun v=>bj C r (putd ρ d v) σ K .mk) .mk:=by
 unfold bj cK;simp only[ba,bI,cB,pv];cases faV off (ev C ρ x)<;>rfl
theorem Si(kk:Nat)(x i:X)(d:Option Nat)(r:List O)(t:Tag Q):be C (⟨d,.ia kk x i,none⟩::r) ρ σ Q t=cK (iaV kk (ev C ρ x) (ev C ρ i)) (fun v=>be C r (putd ρ d v) σ Q .mk) .mk:=rfl
theorem RW(kk:Nat)(x i:X)(d:Option Nat)(r:List O)(t:Tag K):bj C (⟨d,.ia kk x i,none⟩::r) ρ σ K t=cK (iaV kk (ev C ρ x) (ev C ρ i)) (fun v=>bj C r (putd ρ d v) σ K .mk) .mk:=by
 unfold bj cK;simp only[ba,bI,cB,pv];cases iaV kk (ev C ρ x) (ev C ρ i)<;>rfl
theorem Qp(x i:X)(d:Option Nat)(r:List O)(t:Tag Q):be C (⟨d,.ix x i,none⟩::r) ρ σ Q t=cK (ixV (ev C ρ x) (ev C ρ i)) (fun v=>be C r (putd ρ d v) σ Q .mk) .mk:=rfl
theorem KU(off kk:Nat)(ag:Bool)(x:X)(d:Option Nat)(r:List O)(t:Tag Q):be C (⟨d,.fld off kk ag x,none⟩::r) ρ σ Q t=cK (DB off kk ag (ev C ρ x)) (fun v=>be C r (putd ρ d v) σ Q .mk) .mk:=rfl
theorem NJ(s:Bool)(x:X)(d:Option Nat)(r:List O)(t:Tag Q):be C (⟨d,.len s x,none⟩::r) ρ σ Q t=cK (oT s (ev C ρ x)) (fun v=>be C r (putd ρ d v) σ Q .mk) .mk:=rfl
theorem LZ(s:Bool)(x:X)(d:Option Nat)(r:List O)(t:Tag K):bj C (⟨d,.len s x,none⟩::r) ρ σ K t=cK (oT s (ev C ρ x)) (fun v=>bj C r (putd ρ d v) σ K .mk) .mk:=by
 unfold bj cK;simp only[ba,bI,cB,pv];cases oT s (ev C ρ x)<;>rfl
theorem KF(x:X)(i:Nat)(d:Option Nat)(r:List O)(t:Tag Q):be C (⟨d,.ext x i,none⟩::r) ρ σ Q t=cK (uJ (ev C ρ x) i) (fun v=>be C r (putd ρ d v) σ Q .mk) .mk:=rfl
theorem L7(x:X)(i:Nat)(d:Option Nat)(r:List O)(t:Tag K):bj C (⟨d,.ext x i,none⟩::r) ρ σ K t=cK (uJ (ev C ρ x) i) (fun v=>bj C r (putd ρ d v) σ K .mk) .mk:=by
 unfold bj cK;simp only[ba,bI,cB,pv];cases uJ (ev C ρ x) i<;>rfl
theorem JS(kk:Nat)(ag:Bool)(x:X)(d:Option Nat)(r:List O)(t:Tag Q):be C (⟨d,.load kk ag x,none⟩::r) ρ σ Q t=cK (jJ σ kk ag (ev C ρ x)) (fun v=>be C r (putd ρ d v) σ Q .mk) .mk:=rfl
theorem I2(kk:Nat)(ag:Bool)(x:X)(d:Option Nat)(r:List O)(t:Tag K):bj C (⟨d,.load kk ag x,none⟩::r) ρ σ K t=cK (jJ σ kk ag (ev C ρ x)) (fun v=>bj C r (putd ρ d v) σ K .mk) .mk:=by
 unfold bj cK;simp only[ba,bI,cB,pv];cases jJ σ kk ag (ev C ρ x)<;>rfl
theorem NH(zs:List V)(ps:List (Nat×Nat×X))(d:Option Nat)(r:List O)(t:Tag Q):be C (⟨d,.bld zs ps,none⟩::r) ρ σ Q t=cK ((mS (ev C ρ) zs ps).map V.agg) (fun v=>be C r (putd ρ d v) σ Q .mk) .mk:=rfl
theorem Mf(zs:List V)(ps:List (Nat×Nat×X))(d:Option Nat)(r:List O)(t:Tag K):bj C (⟨d,.bld zs ps,none⟩::r) ρ σ K t=cK ((mS (ev C ρ) zs ps).map V.agg) (fun v=>bj C r (putd ρ d v) σ K .mk) .mk:=by
 unfold bj cK;simp only[ba,bI,cB,pv];cases mS (ev C ρ) zs ps<;>rfl
theorem Ma(s:Bool)(kk:Nat)(x:X)(lo hi:Option X)(d:Option Nat)(r:List O)(t:Tag Q):be C (⟨d,.sub s kk x lo hi,none⟩::r) ρ σ Q t=cK (rf s kk (ev C ρ x) (lo.map (ev C ρ)) (hi.map (ev C ρ))) (fun v=>be C r (putd ρ d v) σ Q .mk) .mk:=rfl
theorem Km(f:FuncId)(cap:List X)(d:Option Nat)(r:List O)(t:Tag Q):be C (⟨d,.mkfn f cap,none⟩::r) ρ σ Q t=be C r (putd ρ d (.fn f (cap.map (ev C ρ)))) σ Q .mk:=rfl
theorem OH(ty:TypeId)(x:X)(d:Option Nat)(r:List O)(t:Tag Q):be C (⟨d,.mki ty x,none⟩::r) ρ σ Q t=cK (Dj ty (ev C ρ x)) (fun v=>be C r (putd ρ d v) σ Q .mk) .mk:=rfl
theorem PD(g:Bool)(x y:X)(d:Option Nat)(r:List O)(t:Tag Q):be C (⟨d,.mx g x y,none⟩::r) ρ σ Q t=cK (mxV g (ev C ρ x) (ev C ρ y)) (fun v=>be C r (putd ρ d v) σ Q .mk) .mk:=rfl
theorem Kk(f:FuncId)(args:List X)(d:Option Nat)(r:List O)(t:Tag Q):be C (⟨d,.call f args,none⟩::r) ρ σ Q t=e8 C f (args.map fun x=>(ev C ρ x).lend) σ (fun v σ'=>be C r (putd ρ d v) σ' Q .mk) (fun v σ'=>Q (.panic v) ρ σ') .mk .mk:=rfl
theorem Hf(x:X)(args:List X)(d:Option Nat)(r:List O)(t:Tag Q):be C (⟨d,.callv x args,none⟩::r) ρ σ Q t=GS (ev C ρ x) (args.map fun x=>(ev C ρ x).lend) (fun f as=>e8 C f as σ (fun v σ'=>be C r (putd ρ d v) σ' Q .mk) (fun v σ'=>Q (.panic v) ρ σ') .mk .mk) .mk:=rfl
theorem KQ(T:Nat)(cs:List V)(d:Option Nat)(r:List O)(t:Tag Q):be C (⟨d,.new T cs,none⟩::r) ρ σ Q t=be C r (putd ρ d (.ptr σ.length 0)) (σ++[cs]) Q .mk:=rfl
theorem LF(T:Nat)(x:X)(d:Option Nat)(r:List O)(t:Tag Q):be C (⟨d,.box T x,none⟩::r) ρ σ Q t=onT ((ev C ρ x).boxable=true) (fun _=>be C r (putd ρ d (.ptr σ.length 0)) (σ++[(ev C ρ x).cells]) Q .mk) .mk:=rfl
theorem Ju(T:Nat)(x:X)(d:Option Nat)(r:List O)(t:Tag Q):be C (⟨d,.boxt T x,none⟩::r) ρ σ Q t=tyT (ev C ρ x) (fun k=>be C r (putd ρ d (.ptr σ.length 0)) (σ++[tyc T k]) Q .mk):=rfl
theorem Jb(k:Int)(K:Int->Prop):tyT (.agg [.d (.lit (.pointer none)),.nil,.d (.lit (.int .i64 k))]) K=K k:=rfl
theorem OY(kk:Nat)(x y:X)(d:Option Nat)(r:List O)(t:Tag Q):be C (⟨d,.sto kk x y,none⟩::r) ρ σ Q t=Cr (ev C ρ x) (fun i o=>bxT σ[i]? (fun cs=>onT ((ev C ρ y).boxable=true/\(ev C ρ y).cells.length=kk/\o+kk≤cs.length/\cy cs=true) (fun _=>be C r ρ (σ.set i (over cs o (ev C ρ y).cells)) Q .mk) .mk) .mk) .mk:=rfl
theorem JK(x:X)(s:Nat)(d:Option Nat)(r:List O)(t:Tag Q):be C (⟨d,.stoo x s,none⟩::r) ρ σ Q t=Cr (ev C ρ x) (fun i o=>wH (get ρ s) (fun T k rows=>bxT σ[i]? (fun cs=>onT (o<cs.length/\cy cs=true) (fun _=>be C r (put ρ s (.d (.sl rows))) (σ.set i (over cs o [.own T k rows])) Q .mk) .mk) .mk) .mk) .mk:=by
 unfold be Cr wH bxT onT;simp only[ck,cS];cases ev C ρ x<;>simp only
 cases get ρ s<;>rfl
theorem Le(x:X)(d:Option Nat)(r:List O)(t:Tag Q):be C (⟨d,.ldo x,none⟩::r) ρ σ Q t=Cr (ev C ρ x) (fun i o=>bxT σ[i]? (fun cs=>wH (cs.getD o .junk) (fun T k rows=>be C r (putd ρ d (.own T k rows)) (σ.set i (cs.set o (.d (.sl rows)))) Q .mk) .mk) .mk) .mk:=by
 unfold be Cr wH bxT;simp only[ck,cS];cases ev C ρ x<;>simp only
 rename_i i o;cases σ[i]?<;>simp only
 rename_i cs;rw[Td];cases cs[o]? with
 | none=>rfl
 | some v=>cases v<;>rfl
theorem LW(s:Nat)(d:Option Nat)(r:List O)(t:Tag Q):be C (⟨d,.mvo s,none⟩::r) ρ σ Q t=wH (get ρ s) (fun T k rows=>be C r (putd (put ρ s (.d (.sl rows))) d (.own T k rows)) σ Q .mk) .mk:=rfl
theorem J6(T k:Nat)(d:Option Nat)(r:List O)(t:Tag Q):be C (⟨d,.nilo T k,none⟩::r) ρ σ Q t=be C r (putd ρ d (.own T k [])) σ Q .mk:=rfl
theorem NC(T k bytes s:Nat)(y:X)(d:Option Nat)(r:List O)(t:Tag Q):be C (⟨d,.app T k bytes s y,none⟩::r) ρ σ Q t=wH (get ρ s) (fun T' k' rows=>rwT (fy (ev C ρ y)) (fun rows2=>onT (T'=T/\k'=k/\rows2.all (fun r=>r.length==k)=true/\(rows.length+rows2.length)*bytes≤140737488355328) (fun _=>be C r (putd (put ρ s (.d (.sl rows))) d (.own T k (rows++rows2))) σ Q .mk) .mk) .mk) .mk:=by
 unfold be wH rwT onT;simp only[ck,cS];cases get ρ s<;>simp only
 cases fy (ev C ρ y)<;>rfl
theorem On(T k:Nat)(xs:List X)(d:Option Nat)(r:List O)(t:Tag Q):be C (⟨d,.mks T k xs,none⟩::r) ρ σ Q t=rwT (dE (xs.map (ev C ρ))) (fun rows=>onT (rows.all (fun r=>r.length==k)=true) (fun _=>be C r (putd ρ d (.d (.sl rows))) σ Q .mk) .mk) .mk:=rfl
theorem Mw(T k bytes:Nat)(x:X)(d:Option Nat)(r:List O)(t:Tag Q):be C (⟨d,.mkc T k bytes x,none⟩::r) ρ σ Q t=JO (ev C ρ x) (fun n=>onT (0≤n/\n*bytes≤140737488355328) (fun _=>be C r (putd ρ d (.own T k [])) σ Q .mk) .mk) .mk:=by
 unfold be JO onT;simp only[ck,cS];cases ev C ρ x with
 | d z=>cases z with
  | lit v=>cases v<;>rfl
  | sl rows=>rfl
 | _=>rfl
theorem I0(T k:Nat)(xs:List X)(d:Option Nat)(r:List O)(t:Tag Q):be C (⟨d,.mkso T k xs,none⟩::r) ρ σ Q t=rwT (dE (xs.map (ev C ρ))) (fun rows=>onT (rows.all (fun r=>r.length==k)=true) (fun _=>be C r (putd ρ d (.own T k rows)) σ Q .mk) .mk) .mk:=rfl
theorem Oq(T:TypeId)(z:V)(x:X)(d:Option Nat)(r:List O)(t:Tag Q):be C (⟨d,.tas T z x,none⟩::r) ρ σ Q t=cK (C8 T z (ev C ρ x)) (fun v=>be C r (putd ρ d v) σ Q .mk) .mk:=rfl
theorem Lu(x:X)(d:Option Nat)(r:List O)(t:Tag Q):be C (⟨d,.pan x,none⟩::r) ρ σ Q t=ifT (ev C ρ x) (fun ty v=>Q (.panic (.iface ty v)) ρ σ) .mk:=rfl
theorem F5(d:Option Nat)(op:OP)(s:Nat)(b:Bool)(r:List O)(t:Tag Q):be C (⟨d,op,some (s,b)⟩::r) ρ σ Q t=sa (get ρ s) (fun c=>rm (c==b) (fun _=>be C (⟨d,op,none⟩::r) (put ρ s (.d (.lit (.bool b)))) σ Q .mk) (fun _=>be C r (putd (put ρ s (.d (.lit (.bool (!b))))) d (.tup [])) σ Q .mk) .mk .mk) (fun _=>be C r (putd ρ d (.tup [])) σ Q .mk) .mk .mk:=by
 unfold be sa rm;simp only[ck,beq_iff_eq,beq_eq_false_iff_ne,ne_eq];all_goals rfl
theorem Nh(t:Tag Q):be C [] ρ σ Q t=Q .normal ρ σ:=rfl
theorem Kx(f:FuncId)(args:List X)(d:Option Nat)(r:List O)(t:Tag K):bj C (⟨d,.call f args,none⟩::r) ρ σ K t=EL C f (args.map fun x=>(ev C ρ x).lend) σ (fun v=>bj C r (putd ρ d v) σ K .mk) .mk:=rfl
theorem Ha(f:FuncId)(args:List X)(d:Option Nat)(r:List O)(t:Tag Q):be C (⟨d,.calln f args,none⟩::r) ρ σ Q t=e8 C f (args.map fun x=>(ev C ρ x).copy) σ (fun v σ'=>be C r (putd ρ d v) σ' Q .mk) (fun v σ'=>Q (.panic v) ρ σ') .mk .mk:=rfl
theorem Hp(x:X)(args:List X)(d:Option Nat)(r:List O)(t:Tag K):bj C (⟨d,.callv x args,none⟩::r) ρ σ K t=fnT (ev C ρ x) (fun f cap=>EL C f ((args.map fun x=>(ev C ρ x).lend)++cap) σ (fun v=>bj C r (putd ρ d v) σ K .mk) .mk) .mk:=rfl
theorem ON(T k:Nat)(xs:List X)(d:Option Nat)(r:List O)(t:Tag K):bj C (⟨d,.mks T k xs,none⟩::r) ρ σ K t=rwT (dE (xs.map (ev C ρ))) (fun rows=>onT (rows.all (fun r=>r.length==k)=true) (fun _=>bj C r (putd ρ d (.d (.sl rows))) σ K .mk) .mk) .mk:=rfl
theorem Gk(d:Option Nat)(op:OP)(s:Nat)(b:Bool)(r:List O)(t:Tag K):bj C (⟨d,op,some (s,b)⟩::r) ρ σ K t=sa (get ρ s) (fun c=>rm (c==b) (fun _=>bj C (⟨d,op,none⟩::r) (put ρ s (.d (.lit (.bool b)))) σ K .mk) (fun _=>bj C r (putd (put ρ s (.d (.lit (.bool (!b))))) d (.tup [])) σ K .mk) .mk .mk) (fun _=>bj C r (putd ρ d (.tup [])) σ K .mk) .mk .mk:=by
 unfold bj sa rm;simp only[ba,beq_iff_eq,beq_eq_false_iff_ne,ne_eq];all_goals rfl
theorem Ph(t:Tag K):bj C [] ρ σ K t=K ρ:=rfl
theorem N9(σf:LLV)(t:Tag KS):stT C [] ρ σ (some σf) KS t=KS ρ σf:=rfl
def gT(C:Cx)(l:List (O×GK))(m:Nat)(h:List LLV)(p:List PendG)(ρ:ai)(σ:LLV)(k:ai->LLV->Prop)(P:V->LLV->Prop)(_:Tag k)(_:Tag P):Prop:=eG C P k l m h p ρ σ
def gnx(F:ai->LLV->Prop):bX:=fun e ρ σ=>e=.normal/\F ρ σ
theorem yk(F:ai->LLV->Prop):gnx F .normal ρ σ=F ρ σ:=by simp[gnx]
section
variable {m : Nat} {h : List LLV} {p : List PendG} {k : ai -> LLV -> Prop} {P : V -> LLV -> Prop} {r : List (O × GK)}
theorem MD(s:Tag k)(t:Tag P):gT C [] m h p ρ σ k P s t=k ρ σ:=rfl
theorem JC(o:O)(lo:Nat)(s:Tag k)(t:Tag P):gT C ((o,.free lo)::r) m h p ρ σ k P s t=bj C [o] ρ σ (fun ρ'=>gT C r m h p ρ' σ k P .mk .mk) .mk:=rfl
theorem JJ(o:O)(lo hi:Nat)(s:Tag k)(t:Tag P):gT C ((o,.calm lo hi)::r) m h p ρ σ k P s t=bj C [o] ρ σ (fun ρ'=>onT (mw C o ρ ρ' (m-lo) h) (fun _=>gT C r m h (wB m hi ⟨o,ρ,ρ',hi⟩ p) ρ' σ k P .mk .mk) .mk) .mk:=rfl
theorem Kp(o:O)(lo:Nat)(s:Tag k)(t:Tag P):gT C ((o,.slot lo)::r) m h p ρ σ k P s t=be C [o] ρ σ (gnx fun ρ' σ'=>gT C r m h p ρ' σ' k P .mk .mk) .mk:=rfl
def DL(C:Cx)(f:FuncId)(vs:List V)(σ:LLV)(R:LLV->Prop)(kk:V->LLV->Prop)(P:V->LLV->Prop)(pn:Unit->Prop)(_:Tag R)(_:Tag kk)(_:Tag P)(_:Tag pn):Prop:=
 (∃v σ1,Fun C f vs σ (fun o σ'=>o=.ret v/\σ'=σ1)/\R σ1/\kk v σ1)\/(Fun C f vs σ (fun o σ'=>∃u,o=.panic u/\P u σ')/\pn ())
theorem vu{f:FuncId}{vs:List V}{R:LLV->Prop}{kk P:V->LLV->Prop}{pn:Unit->Prop}{t1:Tag R}{t2:Tag kk}{t3:Tag P}{t4:Tag pn}{v:V}{σ1:LLV}(h1:Fun C f vs σ (fun o σ'=>o=.ret v/\σ'=σ1))(h2:R σ1)(h3:kk v σ1):DL C f vs σ R kk P pn t1 t2 t3 t4:=.inl ⟨v,σ1,h1,h2,h3⟩
theorem ER{f:FuncId}{vs:List V}{R:LLV->Prop}{kk P:V->LLV->Prop}{pn:Unit->Prop}{t1:Tag R}{t2:Tag kk}{t3:Tag P}{t4:Tag pn}(h1:Fun C f vs σ (fun o σ'=>∃u,o=.panic u/\P u σ'))(h2:pn ()):DL C f vs σ R kk P pn t1 t2 t3 t4:=.inr ⟨h1,h2⟩
theorem Ku(d:Option Nat)(f:FuncId)(args:List X)(s:Tag k)(t:Tag P):gT C ((⟨d,.call f args,none⟩,.act)::r) m h p ρ σ k P s t=DL C f (args.map fun x=>(ev C ρ x).lend) σ (fun σ1=>reG C (m+1) σ1 p) (fun v σ1=>gT C r (m+1) (σ::h) p (putd ρ d v) σ1 k P .mk .mk) P (fun _=>eZ C r m h (putd ρ d .junk) σ) .mk .mk .mk .mk:=by
 unfold gT DL;simp only[eG]
theorem Pa(d:Option Nat)(kk:Nat)(x y:X)(s:Tag k)(t:Tag P):gT C ((⟨d,.sto kk x y,none⟩,.act)::r) m h p ρ σ k P s t=be C [⟨d,.sto kk x y,none⟩] ρ σ (gnx fun ρ' σ'=>onT (reG C (m+1) σ' p) (fun _=>gT C r (m+1) (σ::h) p ρ' σ' k P .mk .mk) .mk) .mk:=by
 unfold gT;simp only[eG];rfl
theorem IU(d:Option Nat)(x:X)(y:Nat)(s:Tag k)(t:Tag P):gT C ((⟨d,.stoo x y,none⟩,.act)::r) m h p ρ σ k P s t=be C [⟨d,.stoo x y,none⟩] ρ σ (gnx fun ρ' σ'=>onT (reG C (m+1) σ' p) (fun _=>gT C r (m+1) (σ::h) p ρ' σ' k P .mk .mk) .mk) .mk:=by
 unfold gT;simp only[eG];rfl
theorem OS(d:Option Nat)(T:Nat)(cs:List V)(s:Tag k)(t:Tag P):gT C ((⟨d,.new T cs,none⟩,.act)::r) m h p ρ σ k P s t=be C [⟨d,.new T cs,none⟩] ρ σ (gnx fun ρ' σ'=>onT (reG C (m+1) σ' p) (fun _=>gT C r (m+1) (σ::h) p ρ' σ' k P .mk .mk) .mk) .mk:=by
 unfold gT;simp only[eG];rfl
theorem Jh(σ':LLV):reG C m σ' []=True:=rfl
theorem G0(o:O)(ρ1 ρ2:ai)(hi:Nat)(σ':LLV):reG C m σ' (⟨o,ρ1,ρ2,hi⟩::p)=onT (if m≤hi then bj C [o] ρ1 σ' (fun ρ'=>ρ'=ρ2) .mk else True) (fun _=>reG C m σ' p) .mk:=rfl
theorem BT(o:O)(ρ1 ρ2:ai):mw C o ρ1 ρ2 0 h=True:=by cases h<;>rfl
theorem Bw(o:O)(ρ1 ρ2:ai)(n:Nat):mw C o ρ1 ρ2 (n+1) (σ::h)=onT (bj C [o] ρ1 σ (fun ρ'=>ρ'=ρ2) .mk) (fun _=>mw C o ρ1 ρ2 n h) .mk:=rfl
theorem GR(hi:Nat)(x:PendG):wB m hi x p=if m<hi then x::p else p:=rfl
theorem Mm:eZ C [] m h ρ σ=True:=rfl
theorem Jc(o:O)(lo:Nat):eZ C ((o,.free lo)::r) m h ρ σ=if lo≤m then bj C [o] ρ σ (fun ρ'=>eZ C r m h ρ' σ) .mk else eZ C r m h (ap o (.junk,.junk) ρ) σ:=rfl
theorem JW(o:O)(lo hi:Nat):eZ C ((o,.calm lo hi)::r) m h ρ σ=if lo≤m then bj C [o] ρ σ (fun ρ'=>onT (mw C o ρ ρ' (m-lo) h) (fun _=>eZ C r m h ρ' σ) .mk) .mk else eZ C r m h (ap o (.junk,.junk) ρ) σ:=rfl
theorem I1(o:O)(lo:Nat):eZ C ((o,.slot lo)::r) m h ρ σ=if lo≤m then be C [o] ρ σ (gnx fun ρ' _=>eZ C r m h ρ' σ) .mk else eZ C r m h (ap o (.junk,.junk) ρ) σ:=rfl
theorem Og(o:O):eZ C ((o,.act)::r) m h ρ σ=eZ C r m h (ap o (.junk,.junk) ρ) σ:=rfl
end
theorem Gs(l:List (O×GK))(keep:List Nat)(t:Tag Q):eI C n0 (.drawg l keep) ρ σ Q t=gT C l 0 [] [] ρ σ (fun ρ' σ'=>Q .normal (aY keep ρ') σ') (fun u σ'=>∀ρ',Q (.panic u) (aY keep ρ') σ') .mk .mk:=rfl
def vT(C:Cx)(p:AV)(σ:LLV)(K:ai->LLV->Prop)(l:List O)(pend:List (O×ai×V))(ρ:ai)(_:Tag K):Prop:=H7 C p σ K l pend ρ
theorem Gj(l:List O)(x:X)(t:Tag Q):eI C n0 (.drawp l x) ρ σ Q t=bj C l ρ σ (fun ρ'=>ifT (ev C ρ' x) (fun ty u=>∀ρ2,Q (.panic (.iface ty u)) ρ2 σ) .mk) .mk:=by
 unfold eI bj;simp only[awp];congr 1;funext ρ';unfold ifT;split
 .rename_i ty u e;exact propext ⟨fun⟨_,_,e1,h⟩=>by rw[e]at e1;cases e1;exact h,fun h=>⟨_,_,e,h⟩⟩
 .rename_i hne;exact propext ⟨fun⟨ty,u,e,_⟩=>hne ty u e,fun h=>h.elim⟩
theorem Gu(p:AV)(K:ai->LLV->Prop)(d:Option Nat)(op:OP)(r:List O)(pend:List (O×ai×V))(t:Tag K):vT C p σ K (⟨d,op,none⟩::r) pend ρ t=bj C [⟨some 0,op,none⟩] ρ σ (fun ρ'=>vT C p σ K r ((⟨d,op,none⟩,ρ,get ρ' 0)::pend) (putd ρ d (get ρ' 0)) .mk) .mk:=by
 unfold vT bj;simp only[H7,ba,true_and,putd];refine propext ⟨iq fun v hh=>?_,iq fun v hh=>?_⟩
 .simpa only[cM,if_true]using hh
 .simpa only[cM,if_true]using hh
theorem J1(d T bytes:Nat)(z:V)(s:Nat)(y:X)(st:Bool)(x k v:X)(K:ai->LLV->Prop)(pend:List (O×ai×V))(t:Tag K):vT C ⟨d,T,bytes,z,s,y,st,x,k,v⟩ σ K [] pend ρ t=bxT (An σ (ev C ρ y)) (fun src=>onT (0<src.length) (fun _=>avT (get ρ s) src bytes z σ (fun u σ1=>onT (reV C σ1 pend) (fun _=>
 kvT (ii st σ1 (ev C (put ρ d u) x)) (lu st (ev C (put ρ d u) k)) (fun kv key=>K (put ρ d u) (ou σ1 st (lV key (ev C (put ρ d u) v).copy kv) (ev C (put ρ d u) x))) .mk) .mk) .mk) .mk) .mk:=by
 unfold vT bxT onT avT;simp only[H7]
 have inner:∀u σ1,(reV C σ1 pend/\J9 C ⟨d,T,bytes,z,s,y,st,x,k,v⟩ K (put ρ d u) σ1)=(reV C σ1 pend/\kvT (ii st σ1 (ev C (put ρ d u) x)) (lu st (ev C (put ρ d u) k)) (fun kv key=>K (put ρ d u) (ou σ1 st (lV key (ev C (put ρ d u) v).copy kv) (ev C (put ρ d u) x))) .mk):=fun u σ1=>by
  unfold J9 kvT;simp only;cases ii st σ1 (ev C (put ρ d u) x)<;>cases lu st (ev C (put ρ d u) k)<;>simp
 simp only[inner];cases An σ (ev C ρ y)<;>simp
theorem Hh:reV C σ []=True:=rfl
theorem FI(d:Option Nat)(op:OP)(g:Option (Nat×Bool))(ρ1:ai)(v:V)(r:List (O×ai×V)):reV C σ ((⟨d,op,g⟩,ρ1,v)::r)=onT (bj C [⟨some 0,op,none⟩] ρ1 σ (fun ρ'=>get ρ' 0=v) .mk) (fun _=>reV C σ r) .mk:=by
 unfold onT bj;simp only[reV,ba,putd];refine propext ⟨fun⟨h1,h2⟩=>⟨iq (fun u hh=>?_) h1,h2⟩,fun⟨h1,h2⟩=>⟨iq (fun u hh=>?_) h1,h2⟩⟩
 .simpa only[cM,if_true]using hh
 .simpa only[cM,if_true]using hh
theorem IW(t:Tag Q):eI C n0 .skip ρ σ Q t=Q .normal ρ σ:=rfl
theorem LX(l:List O)(keep:List Nat)(t:Tag Q):eI C n0 (.ops l keep) ρ σ Q t=be C l ρ σ (fun e ρ' σ'=>Q e (aY keep ρ') σ') .mk:=rfl
theorem JR(l:List O)(keep:List Nat)(t:Tag Q):eI C n0 (.draw l keep) ρ σ Q t=bj C l ρ σ (fun ρ'=>Q .normal (aY keep ρ') σ) .mk:=rfl
theorem Nz(a b:Cd)(t:Tag Q):eI C n0 (.seq a b) ρ σ Q t=eI C n0 a ρ σ (andThen (fun ρ' σ'=>eI C n0 b ρ' σ' Q .mk) Q) .mk:=rfl
theorem Jl(x:X)(a b:Cd)(t:Tag Q):eI C n0 (.cond x a b) ρ σ Q t=Iq (ev C ρ x) (fun c=>rm c (fun _=>eI C n0 a ρ σ Q .mk) (fun _=>eI C n0 b ρ σ Q .mk) .mk .mk) .mk:=rfl
theorem GB(id:Nat)(a:Cd)(t:Tag Q):eI C n0 (.block id a) ρ σ Q t=eI C n0 a ρ σ (ov id Q) .mk:=rfl
theorem Ki(id:Nat)(t:Tag Q):eI C n0 (.exit id) ρ σ Q t=Q (.exit id) ρ σ:=rfl
theorem K7(t:Tag Q):eI C n0 .ret ρ σ Q t=Q .ret ρ σ:=rfl
theorem vL(next:ai->LLV->Prop):andThen next Q .normal ρ σ=next ρ σ:=rfl
theorem CL(next:ai->LLV->Prop):andThen next Q .ret ρ σ=Q .ret ρ σ:=rfl
theorem Al(next:ai->LLV->Prop)(i:Nat):andThen next Q (.exit i) ρ σ=Q (.exit i) ρ σ:=rfl
theorem w8(next:ai->LLV->Prop)(v:V):andThen next Q (.panic v) ρ σ=Q (.panic v) ρ σ:=rfl
theorem xH(id:Nat):ov id Q .normal ρ σ=Q .normal ρ σ:=rfl
theorem GO(id:Nat):ov id Q .ret ρ σ=Q .ret ρ σ:=rfl
theorem DE(id j:Nat):ov id Q (.exit j) ρ σ=if j=id then Q .normal ρ σ else Q (.exit j) ρ σ:=rfl
theorem Ay(id:Nat)(v:V):ov id Q (.panic v) ρ σ=Q (.panic v) ρ σ:=rfl
theorem ei{Q':bX}(hq:∀e ρ σ,Q e ρ σ->Q' e ρ σ):∀{l:List O} {ρ:ai} {σ:LLV},ck C l ρ σ Q->ck C l ρ σ Q'
 | [],ρ,σ,h=>hq _ _ _ h
 | o::r,ρ,σ,h=>by
  have step:∀{ρ:ai} {K K':ai->LLV->Prop},(∀ρ σ,K ρ σ->K' ρ σ)->cS C o.op o.dst ρ σ K Q->cS C o.op o.dst ρ σ K' Q':=by
   intro ρ K K' hk hr
   have hout:∀(o':Out) (σ':LLV),(match o' with | .ret v=>K (putd ρ o.dst v) σ' | .panic v=>Q (.panic v) ρ σ')->(match o' with | .ret v=>K' (putd ρ o.dst v) σ' | .panic v=>Q' (.panic v) ρ σ'):=by
    intro o' σ' hh;cases o' with
    | ret v=>exact hk _ _ hh
    | panic v=>exact hq _ _ _ hh
   generalize o.op=op at hr ⊢;unfold cS at hr ⊢;cases op<;>(try simp only at hr ⊢)
   case call f args=>exact hr.mono hout
   case callv x args=>generalize ev C ρ x=z at hr ⊢;cases z<;>(try simp only at hr ⊢)<;>first|exact hr.elim|exact hr.mono hout
   case calln f args=>exact hr.mono hout
   case new T cs=>exact hk _ _ hr
   case box T x=>exact⟨hr.1,hk _ _ hr.2⟩
   case sto k x y=>
    generalize ev C ρ x=z at hr ⊢;cases z<;>(try simp only at hr ⊢)<;>first|exact hr.elim|skip
    rename_i i off;generalize σ[i]? = z at hr ⊢;cases z<;>(try simp only at hr ⊢)<;>first|exact hr.elim|exact⟨hr.1,hk _ _ hr.2⟩
   case stoo x t=>
    generalize ev C ρ x=z at hr ⊢;cases z<;>(try simp only at hr ⊢)<;>first|exact hr.elim|skip
    rename_i i off;generalize get ρ t=z at hr ⊢;cases z<;>(try simp only at hr ⊢)<;>first|exact hr.elim|skip
    generalize σ[i]? = z at hr ⊢;cases z<;>(try simp only at hr ⊢)<;>first|exact hr.elim|exact⟨hr.1,hk _ _ hr.2⟩
   case ldo x=>
    generalize ev C ρ x=z at hr ⊢;cases z<;>(try simp only at hr ⊢)<;>first|exact hr.elim|skip
    rename_i i off;generalize σ[i]? = z at hr ⊢;cases z<;>(try simp only at hr ⊢)<;>first|exact hr.elim|skip
    rename_i cs;generalize cs[off]? = z at hr ⊢;cases z<;>(try simp only at hr ⊢)<;>first|exact hr.elim|skip
    rename_i v;cases v<;>(try simp only at hr ⊢)<;>first|exact hr.elim|exact hk _ _ hr
   case mvo t=>generalize get ρ t=z at hr ⊢;cases z<;>(try simp only at hr ⊢)<;>first|exact hr.elim|exact hk _ _ hr
   case nilo T k=>exact hk _ _ hr
   case app T k b t y=>
    generalize get ρ t=z at hr ⊢;cases z<;>(try simp only at hr ⊢)<;>first|exact hr.elim|skip
    generalize fy (ev C ρ y)=z at hr ⊢;cases z<;>(try simp only at hr ⊢)<;>first|exact hr.elim|exact⟨hr.1,hk _ _ hr.2⟩
   case mks T k xs=>generalize dE (xs.map (ev C ρ))=z at hr ⊢;cases z<;>(try simp only at hr ⊢)<;>first|exact hr.elim|exact⟨hr.1,hk _ _ hr.2⟩
   case mkso T k xs=>generalize dE (xs.map (ev C ρ))=z at hr ⊢;cases z<;>(try simp only at hr ⊢)<;>first|exact hr.elim|exact⟨hr.1,hk _ _ hr.2⟩
   case mkc T k bytes x=>
    generalize ev C ρ x=z at hr ⊢;cases z<;>(try simp only at hr ⊢)<;>first|exact hr.elim|skip
    rename_i z;cases z<;>(try simp only at hr ⊢)<;>first|exact hr.elim|skip
    rename_i z;cases z<;>(try simp only at hr ⊢)<;>first|exact hr.elim|exact⟨hr.1,hk _ _ hr.2⟩
   case pan x=>generalize ev C ρ x=z at hr ⊢;cases z<;>(try simp only at hr ⊢)<;>first|exact hr.elim|exact hq _ _ _ hr
   case mmk st=>exact hk _ _ hr
   case mst st x k v=>
    generalize ii st σ (ev C ρ x)=z at hr ⊢;cases z<;>(try simp only at hr ⊢)<;>first|exact hr.elim|skip
    generalize lu st (ev C ρ k)=z at hr ⊢;cases z<;>(try simp only at hr ⊢)<;>first|exact hr.elim|exact hk _ _ hr
   all_goals ((try unfold tyT at hr ⊢);split at hr<;>first|exact hk _ _ hr|exact hr.elim)
  simp only[ck]at h ⊢;cases hg:o.g with
  | none=>rw[hg]at h;exact step (fun _ _ hh=>ei hq hh) h
  | some p=>
   obtain⟨t,want⟩:=p;rw[hg]at h;simp only at h ⊢;split at h
   .rename_i b hb;exact⟨fun e=>step (fun _ _ hh=>ei hq hh) (h.1 e),fun e=>ei hq (h.2 e)⟩
   .rename_i hb;exact ei hq h
   .exact h.elim
theorem pV{op:OP}{k k':V->Prop}(hk:∀v,k v->k' v)(h:bI C op ρ σ k):bI C op ρ σ k':=by
 obtain⟨v,h1,h2⟩:=iy h;unfold bI at h1 ⊢;split at h1
 .obtain⟨u,g1,g2⟩:=h1;subst g2;exact⟨u,g1,hk _ h2⟩
 .split at h1
  .obtain⟨u,g1,g2⟩:=h1;subst g2;exact⟨u,g1,hk _ h2⟩
  .exact h1.elim
 .split at h1
  .exact⟨h1.1,hk _ (h1.2▸h2)⟩
  .exact h1.elim
 .obtain⟨u,g1,g2⟩:=h1;subst g2;exact⟨u,g1,hk _ h2⟩
 .split at h1
  .subst h1;exact hk _ h2
  .exact h1.elim
theorem di{K K':ai->Prop}(hk:∀ρ,K ρ->K' ρ):∀{l:List O} {ρ:ai},ba C l ρ σ K->ba C l ρ σ K'
 | [],ρ,h=>hk _ h
 | o::r,ρ,h=>by
  simp only[ba]at h ⊢;cases hg:o.g with
  | none=>rw[hg]at h;exact pV (fun _ hh=>di hk hh) h
  | some p=>
   obtain⟨t,want⟩:=p;rw[hg]at h;simp only at h ⊢;split at h
   .rename_i b hb;exact⟨fun e=>pV (fun _ hh=>di hk hh) (h.1 e),fun e=>di hk (h.2 e)⟩
   .rename_i hb;exact di hk h
   .exact h.elim
theorem gU{K K':ai->LLV->Prop}{P P':V->LLV->Prop}(hk:∀ρ r,K ρ r->K' ρ r)(hp:∀u r,P u r->P' u r):∀{l:List (O×GK)} {m:Nat} {h:List LLV} {p:List PendG} {ρ:ai} {σ:LLV},eG C P K l m h p ρ σ->eG C P' K' l m h p ρ σ
 | [],_,_,_,_,_,hg=>hk _ _ hg
 | (o,.free _)::r,_,_,_,_,_,hg=>by
  simp only[eG]at hg ⊢;exact di (fun ρ' hh=>gU hk hp hh) hg
 | (o,.calm _ _)::r,_,_,_,_,_,hg=>by
  simp only[eG]at hg ⊢;exact di (fun ρ' hh=>⟨hh.1,gU hk hp hh.2⟩) hg
 | (o,.slot _)::r,_,_,_,_,_,hg=>by
  simp only[eG]at hg ⊢;exact ei (fun e ρ' σ' hh=>⟨hh.1,gU hk hp hh.2⟩) hg
 | (⟨d,op,g⟩,.act)::r,m,h,p,ρ,σ,hg=>by
  have call:∀{f:FuncId} {vs:List V},((∃v σ1,Fun C f vs σ (fun o σ'=>o=.ret v/\σ'=σ1)/\reG C (m+1) σ1 p/\eG C P K r (m+1) (σ::h) p (putd ρ d v) σ1)\/(Fun C f vs σ (fun o σ'=>∃u,o=.panic u/\P u σ')/\eZ C r m h (putd ρ d .junk) σ))->
   ((∃v σ1,Fun C f vs σ (fun o σ'=>o=.ret v/\σ'=σ1)/\reG C (m+1) σ1 p/\eG C P' K' r (m+1) (σ::h) p (putd ρ d v) σ1)\/(Fun C f vs σ (fun o σ'=>∃u,o=.panic u/\P' u σ')/\eZ C r m h (putd ρ d .junk) σ)):=fun{f vs} hh=>by
   rcases hh with⟨v,σ1,h1,h2,h3⟩|⟨h1,h2⟩
   .exact .inl ⟨v,σ1,h1,h2,gU hk hp h3⟩
   .exact .inr ⟨h1.mono fun o σ' ⟨u,e1,e2⟩=>⟨u,e1,hp _ _ e2⟩,h2⟩
  cases op;case call f args=>simp only[eG]at hg ⊢;exact call hg
  case callv x args=>
   simp only[eG]at hg ⊢;obtain⟨f,cap,e,hh⟩:=hg;exact⟨f,cap,e,call hh⟩
  all_goals
   simp only[eG]at hg ⊢;exact ei (fun e ρ' σ' hh=>⟨hh.1,hh.2.1,gU hk hp hh.2.2⟩) hg
theorem iS:∀{c:Cd} {ρ:ai} {σ:LLV} {Q Q':bX},(∀e ρ σ,Q e ρ σ->Q' e ρ σ)->awp C n0 c ρ σ Q->awp C n0 c ρ σ Q':=by
 intro c
 induction c with
 | skip=>exact fun hq h=>hq _ _ _ h
 | ops l keep=>exact fun hq h=>ei (fun e ρ σ=>hq e _ σ) h
 | raw l es keep=>exact fun hq h pr M0 bm0 w0 id ops n M bm tk a w h1 h2 h3 h4 h5 h6=>wp_mono (h pr M0 bm0 w0 id ops n M bm tk a w h1 h2 h3 h4 h5 h6) (fun e a w hL=>hL.imp fun x ρ σ=>hq x _ σ)
 | draw l keep=>exact fun hq h=>di (fun ρ=>hq _ _ _) h
 | drawp l x=>exact fun hq h=>di (fun ρ ⟨ty,u,e,hh⟩=>⟨ty,u,e,fun ρ2=>hq _ _ _ (hh ρ2)⟩) h
 | drawg l keep=>
  intro ρ σ Q Q' hq h;exact gU (fun ρ σ hh=>hq _ _ _ hh) (fun u σ hh ρ'=>hq _ _ _ (hh ρ')) h
 | seq a b iha ihb=>
  exact fun hq h=>iha (fun e ρ σ hh=>by
   cases e with
   | normal=>exact ihb hq hh
   | ret=>exact hq _ _ _ hh
   | exit i=>exact hq _ _ _ hh
   | panic v=>exact hq _ _ _ hh) h
 | cond x a b iha ihb=>
  intro ρ σ Q Q' hq h;simp only[awp]at h ⊢;generalize ev C ρ x=z at h ⊢;cases z<;>(try simp only at h ⊢)<;>first|exact h.elim|skip
  rename_i x;cases x<;>(try simp only at h ⊢)<;>first|exact h.elim|skip
  rename_i v;cases v<;>(try simp only at h ⊢)<;>first|exact h.elim|skip
  exact⟨fun e=>iha hq (h.1 e),fun e=>ihb hq (h.2 e)⟩
 | block id a ih=>
  exact fun hq h=>ih (fun e ρ σ hh=>by
   cases e with
   | normal=>exact hq _ _ _ hh
   | ret=>exact hq _ _ _ hh
   | exit i=>
    simp only[ov]at hh ⊢;split
    .rename_i e;rw[if_pos e]at hh;exact hq _ _ _ hh
    .rename_i e;rw[if_neg e]at hh;exact hq _ _ _ hh
   | panic v=>exact hq _ _ _ hh) h
 | loop a ih=>
  intro ρ σ Q Q' hq h;obtain⟨ρ1,σ1,h0,I,h1,h2⟩:=h
  exact⟨ρ1,σ1,h0,I,h1,fun m ρ' σ' hI=>ih (fun e ρ σ hh=>by
   cases e with
   | normal=>exact hh
   | ret=>exact hq _ _ _ hh
   | exit i=>exact hq _ _ _ hh
   | panic v=>exact hq _ _ _ hh) (h2 m ρ' σ' hI)⟩
 | exit id=>exact fun hq h=>hq _ _ _ h
 | ret=>exact fun hq h=>hq _ _ _ h
theorem rH{a:Cd}(I:Nat->ai->LLV->Prop)(m:Nat){ρ1:ai}{σ1:LLV}(hu:dY n0 ρ σ ρ1 σ1)(h0:I m ρ1 σ1)
 (h:∀m ρ' σ',I m ρ' σ'->awp C n0 a ρ' σ' (andThen (fun ρ'' σ''=>∃m',m'<m/\∃ρ3 σ3,dY n0 ρ'' σ'' ρ3 σ3/\I m' ρ3 σ3) Q)):awp C n0 (.loop a) ρ σ Q:=
 ⟨ρ1,σ1,hu,I,⟨m,h0⟩,h⟩
theorem oC{R R':ai->LLV->Prop}{Q:bX}(h:∀ρ σ,R ρ σ->R' ρ σ):∀e ρ σ,andThen R Q e ρ σ->andThen R' Q e ρ σ:=fun e ρ σ hh=>by
 cases e with
 | normal=>exact h _ _ hh
 | ret=>exact hh
 | exit i=>exact hh
 | panic v=>exact hh
theorem Dr{a:Cd}(I:Nat->ai->LLV->Prop)(m:Nat){σ1:LLV}(hu:Up σ σ1)(h0:I m ρ σ1)
 (h:∀m ρ' σ',I m ρ' σ'->awp C n0 a ρ' σ' (andThen (fun ρ'' σ''=>∃m',m'<m/\∃k,n0≤k/\ak k (σ''.take k)=true/\au k ρ''=true/\I m' ρ'' (σ''.take k)) Q)):awp C n0 (.loop a) ρ σ Q:=
 rH I m (dY.up n0 ρ hu) h0 fun m ρ' σ' hI=>iS (oC fun ρ'' σ'' ⟨m',h1,k,h2,h3,h4,h5⟩=>⟨m',h1,ρ'',σ''.take k,.cut h2 h3 h4,h5⟩) (h m ρ' σ' hI)
theorem A0{a:Cd}(ks:List Nat)(I:Nat->ai->LLV->Prop)(m:Nat){σ1:LLV}(hu:Up σ σ1)(h0:I m (aY ks ρ) σ1)
 (h:∀m ρ' σ',I m ρ' σ'->awp C n0 a ρ' σ' (andThen (fun ρ'' σ''=>∃m',m'<m/\∃k,n0≤k/\ak k (σ''.take k)=true/\au k (aY ks ρ'')=true/\I m' (aY ks ρ'') (σ''.take k)) Q)):awp C n0 (.loop a) ρ σ Q:=
 rH I m ((dY.keep n0 ks ρ σ).trans (dY.up n0 _ hu)) h0 fun m ρ' σ' hI=>iS (oC fun ρ'' σ'' ⟨m',h1,k,h2,h3,h4,h5⟩=>⟨m',h1,_,σ''.take k,(dY.keep n0 ks ρ'' σ'').trans (.cut h2 h3 h4),h5⟩) (h m ρ' σ' hI)
end
mutual
theorem V.under_mono{k j:Nat}(hj:k≤j):∀v:V,V.under k v=true->V.under j v=true
 | .agg cs,h=>by simp only[V.under]at h ⊢;exact V.unders_mono hj cs h
 | .tup cs,h=>by simp only[V.under]at h ⊢;exact V.unders_mono hj cs h
 | .fn _ cs,h=>by simp only[V.under]at h ⊢;exact V.unders_mono hj cs h
 | .bnd _ cs,h=>by simp only[V.under]at h ⊢;exact V.unders_mono hj cs h
 | .iface _ v,h=>by simp only[V.under]at h ⊢;exact V.under_mono hj v h
 | .ptr i o,h=>by simp only[V.under,decide_eq_true_eq]at h ⊢;omega
 | .bsl i o n m,h=>by simp only[V.under,decide_eq_true_eq]at h ⊢;omega
 | .mp i,h=>by simp only[V.under,decide_eq_true_eq]at h ⊢;omega
 | .bsc i n c,h=>by simp only[V.under,decide_eq_true_eq]at h ⊢;omega
 | .mapc _ kv,h=>by simp only[V.under]at h ⊢;exact V.underkv_mono hj kv h
 | .d _,_=>rfl
 | .own _ _ _,_=>rfl
 | .nil,_=>rfl
 | .row _ _,_=>rfl
 | .junk,_=>rfl
theorem V.unders_mono{k j:Nat}(hj:k≤j):∀cs:List V,V.unders k cs=true->V.unders j cs=true
 | [],_=>rfl
 | x::r,h=>by
  simp only[V.unders,SE]at h ⊢;exact⟨V.under_mono hj x h.1,V.unders_mono hj r h.2⟩
theorem V.underkv_mono{k j:Nat}(hj:k≤j):∀kv:List (Key×V),V.underkv k kv=true->V.underkv j kv=true
 | [],_=>rfl
 | (q,x)::r,h=>by
  simp only[V.underkv,V.underp,SE]at h ⊢;exact⟨V.under_mono hj x h.1,V.underkv_mono hj r h.2⟩
end
theorem oW{σ:LLV}{k j:Nat}(h:ak k σ=true)(hj:k≤j):ak j σ=true:=by
 unfold ak at *;rw[SU]at h ⊢;exact fun cs hcs=>V.unders_mono hj cs (h cs hcs)
theorem aq{σ l:LLV}(h:ak σ.length σ=true)(hl:l.all (fun cs=>V.unders (σ++l).length cs)=true):ak (σ++l).length (σ++l)=true:=by
 have:=oW h (j:=(σ++l).length) (by simp);unfold ak at *;rw[List.all_append,this,hl];rfl
theorem az{σ σ':LLV}{ρ:ai}{rs:List RV}{Q:Out->LLV->Prop}(hb:ak σ.length σ=true){v:V}(h:aC σ' ρ rs=some v)(hv:V.under σ.length v=true)(hσ:σ'.take σ.length=σ)(hq:Q (.ret v) σ):fin σ.length rs Q .ret ρ σ':=
 ⟨ρ,σ',.refl _ _ _,v,h,σ.length,Tw _,by rw[hσ];exact hb,hv,by rw[hσ];exact hq⟩
def Nxt(n0:Nat)(R:ai->LLV->Prop)(ρ:ai)(σ:LLV)(_:Tag R):Prop:=∃k,n0≤k/\ak k (σ.take k)=true/\au k ρ=true/\R ρ (σ.take k)
theorem Nxt.same{n0:Nat}{R:ai->LLV->Prop}{ρ:ai}{σ:LLV}(hn:n0≤σ.length)(hb:ak σ.length σ=true)(hs:au σ.length ρ=true)(hR:R ρ σ):Nxt n0 R ρ σ .mk:=
 ⟨σ.length,hn,by rw[Ti];exact hb,hs,by rw[Ti];exact hR⟩
theorem Nxt.drop{n0:Nat}{R:ai->LLV->Prop}{ρ:ai}{σ l:LLV}(hn:n0≤σ.length)(hb:ak σ.length σ=true)(hs:au σ.length ρ=true)(hR:R ρ σ):Nxt n0 R ρ (σ++l) .mk:=
 ⟨σ.length,hn,by rw[Tl];exact hb,hs,by rw[Tl];exact hR⟩
theorem EN{C:Cx}{n0:Nat}{ρ:ai}{σ:LLV}{Q:bX}{a:Cd}(R:Nat->ai->LLV->Prop)(n:Nat){σ1:LLV}(hu:Up σ σ1)(h0:R 0 ρ σ1)
 (h:∀j ρ' σ',j≤n->R j ρ' σ'->eI C n0 a ρ' σ' (andThen (fun ρ'' σ''=>j<n/\Nxt n0 (R (j+1)) ρ'' σ'' .mk) Q) .mk)(t:Tag Q):eI C n0 (.loop a) ρ σ Q t:=
 Dr (fun m ρ σ=>∃j,j≤n/\m=n-j/\R j ρ σ) n hu ⟨0,by omega,by omega,h0⟩ fun m ρ' σ' ⟨j,hj,hm,hR⟩=>by
  have hi:∀e ρ'' σ'',andThen (fun ρ'' σ''=>j<n/\Nxt n0 (R (j+1)) ρ'' σ'' .mk) Q e ρ'' σ''->andThen (fun ρ'' σ''=>∃m',m'<m/\∃k,n0≤k/\ak k (σ''.take k)=true/\au k ρ''=true/\∃j,j≤n/\m'=n-j/\R j ρ'' (σ''.take k)) Q e ρ'' σ'':=by
   intro e ρ'' σ'' h;cases e with
   | normal=>
    obtain⟨h1,k,h2,h3,h4,h5⟩:=h;exact⟨n-(j+1),by omega,k,h2,h3,h4,j+1,by omega,rfl,h5⟩
   | ret=>exact h
   | exit i=>exact h
   | panic v=>exact h
  exact iS hi (h j ρ' σ' hj hR)
theorem nO{C:Cx}{n0:Nat}{ρ:ai}{σ:LLV}{Q:bX}{a:Cd}(ks:List Nat)(R:Nat->ai->LLV->Prop)(n:Nat){σ1:LLV}(hu:Up σ σ1)(h0:R 0 (aY ks ρ) σ1)
 (h:∀j ρ' σ',j≤n->R j ρ' σ'->eI C n0 a ρ' σ' (andThen (fun ρ'' σ''=>j<n/\Nxt n0 (R (j+1)) (aY ks ρ'') σ'' .mk) Q) .mk)(t:Tag Q):eI C n0 (.loop a) ρ σ Q t:=
 A0 ks (fun m ρ σ=>∃j,j≤n/\m=n-j/\R j ρ σ) n hu ⟨0,by omega,by omega,h0⟩ fun m ρ' σ' ⟨j,hj,hm,hR⟩=>by
  have hi:∀e ρ'' σ'',andThen (fun ρ'' σ''=>j<n/\Nxt n0 (R (j+1)) (aY ks ρ'') σ'' .mk) Q e ρ'' σ''->andThen (fun ρ'' σ''=>∃m',m'<m/\∃k,n0≤k/\ak k (σ''.take k)=true/\au k (aY ks ρ'')=true/\∃j,j≤n/\m'=n-j/\R j (aY ks ρ'') (σ''.take k)) Q e ρ'' σ'':=by
   intro e ρ'' σ'' h;cases e with
   | normal=>
    obtain⟨h1,k,h2,h3,h4,h5⟩:=h;exact⟨n-(j+1),by omega,k,h2,h3,h4,j+1,by omega,rfl,h5⟩
   | ret=>exact h
   | exit i=>exact h
   | panic v=>exact h
  exact iS hi (h j ρ' σ' hj hR)
theorem aS{C:Cx}{n0:Nat}{ρ:ai}{σ:LLV}{Q:bX}{a:Cd}(ks:List Nat)(R:Nat->ai->LLV->Prop)(n:Nat)(h0:R 0 (aY ks ρ) σ)
 (h:∀j ρ' σ',j≤n->R j ρ' σ'->eI C n0 a ρ' σ' (andThen (fun ρ'' σ''=>j<n/\Nxt n0 (R (j+1)) (aY ks ρ'') σ'' .mk) Q) .mk)(t:Tag Q):eI C n0 (.loop a) ρ σ Q t:=nO ks R n (.refl σ) h0 h t
theorem eu{C:Cx}{n0:Nat}{ρ:ai}{σ:LLV}{Q:bX}{a:Cd}(R:Nat->ai->LLV->Prop)(n:Nat)(h0:R 0 ρ σ)
 (h:∀j ρ' σ',j≤n->R j ρ' σ'->eI C n0 a ρ' σ' (andThen (fun ρ'' σ''=>j<n/\Nxt n0 (R (j+1)) ρ'' σ'' .mk) Q) .mk)(t:Tag Q):eI C n0 (.loop a) ρ σ Q t:=EN R n (.refl σ) h0 h t
def aN(v:V)(σ:LLV):Out->LLV->Prop:=fun o σ'=>o=.ret v/\σ'=σ
theorem al{σ:LLV}{ρ:ai}{rs:List RV}(hb:ak σ.length σ=true){v:V}(h:aC σ ρ rs=some v)(hv:V.under σ.length v=true):fin σ.length rs (aN v σ) .ret ρ σ:=az hb h hv Ti ⟨rfl,rfl⟩
theorem am{σ τ:LLV}{ρ:ai}{rs:List RV}(hb:ak σ.length σ=true){v:V}(h:aC (σ++τ) ρ rs=some v)(hv:V.under σ.length v=true):fin σ.length rs (aN v σ) .ret ρ (σ++τ):=az hb h hv Tl ⟨rfl,rfl⟩
theorem ac{C:Cx}{f:FuncId}{args:List V}{σ:LLV}{v:V}{K P:V->LLV->Prop}{s:Tag K}{t:Tag P}(h:Fun C f args σ (aN v σ))(hk:K v σ):e8 C f args σ K P s t:=
 h.mono fun o σ' ⟨e1,e2⟩=>by subst e1;subst e2;exact hk
theorem bA{C:Cx}{f:FuncId}{args:List V}{σ:LLV}{v:V}{k:V->Prop}{t:Tag k}(h:Fun C f args σ (aN v σ))(hk:k v):EL C f args σ k t:=⟨v,h,hk⟩
theorem aB{C:Cx}{f:FuncId}{args:List V}{σ:LLV}{K P:V->LLV->Prop}{s:Tag K}{t:Tag P}{Q:Out->LLV->Prop}(h:Fun C f args σ Q)(hk:∀o σ',Q o σ'->DU K P o σ'):e8 C f args σ K P s t:=h.mono hk
theorem ae{C:Cx}{f:FuncId}{fn:Func}{c:Cd}{rs:List RV}{args:List V}{σ:LLV}{Q:Out->LLV->Prop}(hf:C.P.funcs[f]? = some fn)(hok:aF C.tab fn args.length c rs=true)(hno:args.all (! ·.isOwn)=true)
 (h:ak σ.length σ=true->(∀i (h:i<args.length),V.Wf args[i])->eI C σ.length c (eH 0 args) σ (fin σ.length rs Q) .mk):Fun C f args σ Q:=Ah hf hok hno h
section
variable {σ : LLV}
theorem Gt(rows:LLD):oT false (.d (.sl rows))=some (aK .i64 rows.length):=rfl
theorem Bi(T k:Nat)(rows:LLD):oT false (.own T k rows)=some (aK .i64 rows.length):=rfl
theorem AE:oT false .nil=some (aK .i64 0):=rfl
theorem A2(s:ByteArray):oT true (.d (.lit (.string s)))=some (aK .i64 s.size):=rfl
theorem Dz(rows:LLD):fy (.d (.sl rows))=some rows:=rfl
theorem xR(T k:Nat)(rows:LLD):fy (.own T k rows)=some rows:=rfl
theorem yL:fy .nil=some []:=rfl
theorem K9(k:IntKind)(a b:Int):cf .add (.d (.lit (.int k a))) (.d (.lit (.int k b)))=some (aK k (k.wrap (a+b))):=by simp[cf,cN,lx]
theorem KK(k:IntKind)(a b:Int):cf .sub (.d (.lit (.int k a))) (.d (.lit (.int k b)))=some (aK k (k.wrap (a-b))):=by simp[cf,cN,lx]
theorem Pq(k:IntKind)(a b:Int):cf .mul (.d (.lit (.int k a))) (.d (.lit (.int k b)))=some (aK k (k.wrap (a*b))):=by simp[cf,cN,lx]
theorem NV(k:IntKind)(a b:Int):cf .quo (.d (.lit (.int k a))) (.d (.lit (.int k b)))=if b=0 then none else some (aK k (k.wrap (a.tdiv b))):=by simp[cf,cN,lx]
theorem Or(k:IntKind)(a b:Int):cf .rem (.d (.lit (.int k a))) (.d (.lit (.int k b)))=if b=0 then none else some (aK k (a.tmod b)):=by simp[cf,cN,lx]
theorem JD(k:IntKind)(a b:Int):cf .and (.d (.lit (.int k a))) (.d (.lit (.int k b)))=some (aK k (k.wrap (BitVec.ofInt k.bits a &&& BitVec.ofInt k.bits b).toNat)):=by simp only[cf,cN,SF,if_false,if_true,lx]
theorem KP(k:IntKind)(a b:Int):cf .or (.d (.lit (.int k a))) (.d (.lit (.int k b)))=some (aK k (k.wrap (BitVec.ofInt k.bits a ||| BitVec.ofInt k.bits b).toNat)):=by simp only[cf,cN,SF,if_false,if_true,lx]
theorem JL(k:IntKind)(a b:Int):cf .xor (.d (.lit (.int k a))) (.d (.lit (.int k b)))=some (aK k (k.wrap (BitVec.ofInt k.bits a ^^^ BitVec.ofInt k.bits b).toNat)):=by simp only[cf,cN,SF,if_false,if_true,lx]
theorem OV(k:IntKind)(a b:Int):cf .eql (.d (.lit (.int k a))) (.d (.lit (.int k b)))=some (an (decide (a=b))):=by simp[cf,cN,lx];rfl
theorem MB(k:IntKind)(a b:Int):cf .neq (.d (.lit (.int k a))) (.d (.lit (.int k b)))=some (an (!decide (a=b))):=by simp[cf,cN,lx];rfl
theorem Pr(k:IntKind)(a b:Int):cf .lss (.d (.lit (.int k a))) (.d (.lit (.int k b)))=some (an (decide (a<b))):=by simp[cf,cN,lx]
theorem K2(k:IntKind)(a b:Int):cf .leq (.d (.lit (.int k a))) (.d (.lit (.int k b)))=some (an (decide (a≤b))):=by simp[cf,cN,lx]
theorem Ml(k:IntKind)(a b:Int):cf .gtr (.d (.lit (.int k a))) (.d (.lit (.int k b)))=some (an (decide (b<a))):=by simp[cf,cN,lx]
theorem Nf(k:IntKind)(a b:Int):cf .geq (.d (.lit (.int k a))) (.d (.lit (.int k b)))=some (an (decide (b≤a))):=by simp[cf,cN,lx]
theorem Iw(k k':IntKind)(a b:Int):cf .shl (.d (.lit (.int k a))) (.d (.lit (.int k' b)))=if b<0 then none else some (aK k (k.wrap (a*2^(min b.toNat k.bits)))):=by simp[cf,cN,yX]
theorem NA(k k':IntKind)(a b:Int):cf .shr (.d (.lit (.int k a))) (.d (.lit (.int k' b)))=if b<0 then none else some (aK k (a.fdiv (2^(min b.toNat k.bits)))):=by simp[cf,cN,yX]
theorem vS(a b:ByteArray):(a.toList==b.toList)=decide (a=b):=by
 rw[ByteArray.toList_eq,ByteArray.toList_eq,Bool.eq_iff_iff];simp only[beq_iff_eq,decide_eq_true_eq];constructor
 .intro h;cases a;cases b;simp only[ByteArray.mk.injEq];exact Array.toList_inj.1 h
 .intro h;rw[h]
theorem Kt(a b:ByteArray):cf .eql (.d (.lit (.string a))) (.d (.lit (.string b)))=some (an (decide (a=b))):=by simp only[cf,GX,vS]
theorem Jo(a b:ByteArray):cf .neq (.d (.lit (.string a))) (.d (.lit (.string b)))=some (an (!decide (a=b))):=by simp only[cf,GX,vS]
theorem Fa(a b:ByteArray):cf .add (.d (.lit (.string a))) (.d (.lit (.string b)))=if a.size+b.size≤9223372036854775807 then some (xq (a++b))else none:=rfl
theorem Jn(a b:ByteArray):cf .lss (.d (.lit (.string a))) (.d (.lit (.string b)))=some (an (Op.bytesLess a.toList b.toList)):=rfl
theorem LB(neq:Bool)(ks:List Kd)(a b:List V):mh neq ks (.agg a) (.agg b)=(cU ks a b).map fun r=>an (bif neq then !r else r):=by
 unfold mh;simp only;cases cU ks a b<;>rfl
theorem KD:cU [] [] []=some true:=rfl
theorem Lh(k:IntKind)(ks:List Kd)(a b:Int)(r s:List V):cU (.i k::ks) (.d (.lit (.int k a))::r) (.d (.lit (.int k b))::s)=(cU ks r s).map fun z=>decide (a=b)&&z:=by
 simp only[cU,nj,and_self,if_true];cases cU ks r s<;>rfl
theorem NG(ks:List Kd)(a b:ByteArray)(r s:List V):cU (.s::ks) (.d (.lit (.string a))::r) (.d (.lit (.string b))::s)=(cU ks r s).map fun z=>decide (a=b)&&z:=by
 simp only[cU,nj];cases cU ks r s<;>rfl
theorem JE(ks:List Kd)(a b:Bool)(r s:List V):cU (.b::ks) (.d (.lit (.bool a))::r) (.d (.lit (.bool b))::s)=(cU ks r s).map fun z=>(a==b)&&z:=by
 simp only[cU,nj];cases cU ks r s<;>rfl
theorem AQ(neq:Bool):xI neq (.d (.lit .nilIface))=some (an (!neq)):=rfl
theorem Fk(neq:Bool)(t:TypeId)(x:V):xI neq (.iface t x)=some (an neq):=rfl
theorem Bd(neq:Bool):LU neq (.d (.lit (.pointer none)))=some (an (!neq)):=rfl
theorem Aj(neq:Bool)(i o:Nat):LU neq (.ptr i o)=some (an neq):=rfl
theorem J4(f:FuncId)(cs:List V):V.copy (.bnd f cs)=.bnd f cs:=rfl
theorem JI(f:FuncId)(cs:List V):V.lend (.bnd f cs)=.bnd f cs:=rfl
theorem JF(a b:Bool):Io .eql (.d (.lit (.bool a))) (.d (.lit (.bool b)))=some (an (a==b)):=rfl
theorem JA(a b:Bool):Io .neq (.d (.lit (.bool a))) (.d (.lit (.bool b)))=some (an (!(a==b))):=rfl
theorem Mc(b:Bool):unV .not (.d (.lit (.bool b)))=some (an (!b)):=rfl
theorem Lt(k:IntKind)(n:Int):unV .neg (.d (.lit (.int k n)))=some (aK k (k.wrap (0-n))):=rfl
theorem Jr(c a b:Bool):j8 (.d (.lit (.bool c))) (.d (.lit (.bool a))) (.d (.lit (.bool b)))=some (an (bif c then a else b)):=rfl
theorem BX(b:Bool):j8 (.d (.lit (.bool false))) (.tup []) (.d (.lit (.bool b)))=some (an b):=rfl
theorem AX(a:Bool):j8 (.d (.lit (.bool true))) (.d (.lit (.bool a))) (.tup [])=some (an a):=rfl
theorem Ct(b:Bool):j8 (.d (.lit (.bool false))) .junk (.d (.lit (.bool b)))=some (an b):=rfl
theorem Bj(a:Bool):j8 (.d (.lit (.bool true))) (.d (.lit (.bool a))) .junk=some (an a):=rfl
theorem EV(off i o:Nat):faV off (.ptr i o)=some (.ptr i (o+off)):=rfl
theorem FZ(off:Nat)(cs:List D)(o:Nat):faV off (.row cs o)=some (.row cs (o+off)):=rfl
def iaK(k:Nat)(o:Option (List D)):Option V:=match o with|some r=>if r.length=k then some (.row r 0)else none|none=>none
theorem bM(k:Nat)(r:List D):iaK k (some r)=if r.length=k then some (.row r 0)else none:=rfl
theorem Dv(k:Nat)(y:D)(kd:IntKind)(j:Nat):iaV k (.d y) (.d (.lit (.int kd (j:Int))))=(fy (.d y)).bind fun rows=>iaK k rows[j]? := by
 unfold iaV;cases h:fy (.d y)with
 | none=>simp only[h];rfl
 | some rows=>simp only[h,TH,SR];rw[if_pos (by omega)];rfl
theorem FD(k T k':Nat)(rows:LLD)(kd:IntKind)(j:Nat):iaV k (.own T k' rows) (.d (.lit (.int kd (j:Int))))=iaK k rows[j]? := by
 unfold iaV;simp only[fy,SR];rw[if_pos (by omega)];rfl
theorem Et(k b off n:Nat)(kd:IntKind)(j:Nat):iaV k (.bsl b off n k) (.d (.lit (.int kd (j:Int))))=if j<n then some (.ptr b (off+j*k))else none:=by
 unfold iaV;simp only[SR,and_true];by_cases h:j<n
 .rw[if_pos h,if_pos (by omega)]
 .rw[if_neg h,if_neg (by omega)]
theorem Ci(b off n k:Nat):oT false (.bsl b off n k)=some (aK .i64 n):=rfl
def ixK(o:Option UInt8):Option V:=match o with|some b=>some (aK .u8 b.toNat)|none=>none
theorem cj(b:UInt8):ixK (some b)=some (aK .u8 b.toNat):=rfl
theorem Fg(s:ByteArray)(kd:IntKind)(j:Nat):ixV (.d (.lit (.string s))) (.d (.lit (.int kd (j:Int))))=ixK s.data.toList[j]? := by
 simp only[ixV,SR];rw[if_pos (by omega)];rfl
theorem K1(off k:Nat)(ag:Bool)(cs:List V):DB off k ag (.agg cs)=if off+k≤cs.length then iu ag ((cs.drop off).take k)else none:=rfl
theorem Hc(c:V):iu false [c]=some c.copy:=rfl
theorem GH(cs:List V):iu true cs=some (.agg (cs.map V.copy)):=rfl
theorem Oc(cs:List V)(i:Nat):uJ (.tup cs) i=(cs[i]?).map V.copy:=by simp only[uJ];cases cs[i]?<;>rfl
theorem I4(k k':IntKind)(n:Int):sb k (.d (.lit (.int k' n)))=some (aK k (k.wrap n)):=rfl
theorem uV(i o:Nat):kC (.ptr i o)=some (.ptr i o):=rfl
theorem wy(cs:List D)(o:Nat):kC (.row cs o)=some (.row cs o):=rfl
theorem yO(f:FuncId)(cs:List V):kC (.fn f cs)=some (.fn f cs):=rfl
theorem QR(g:Bool)(k:IntKind)(a b:Int):mxV g (.d (.lit (.int k a))) (.d (.lit (.int k b)))=some (aK k (if g then max a b else min a b)):=by
 have h1:(if b>a then b else a)=max a b:=by rw[Int.max_def];split<;>split<;>omega
 have h2:(if b<a then b else a)=min a b:=by rw[Int.min_def];split<;>split<;>omega
 cases g
 .simp only[mxV,if_true,SF,if_false,h2]
 .simp only[mxV,if_true,h1]
theorem EE(T t:TypeId)(z u:V):C8 T z (.iface t u)=if t=T then some (.tup [u,an true])else some (.tup [z,an false]):=rfl
theorem JH(rows:LLD)(k1 k2:IntKind)(a b:Int):K4 (.d (.sl rows)) (.d (.lit (.int k1 a))) (.d (.lit (.int k2 b)))=if a=rows.length/\b=rows.length then some (.d (.sl rows))else none:=rfl
theorem z6(T:TypeId)(z:V):C8 T z (.d (.lit .nilIface))=some (.tup [z,an false]):=rfl
theorem H1(t:TypeId)(x:D):Dj t (.d x)=some (.iface t (.d x)):=rfl
theorem B2(t:TypeId)(cs:List V):Dj t (.agg cs)=some (.iface t (.agg (cs.map V.copy))):=rfl
theorem xg(k:Nat)(ag:Bool)(cs:List D)(o:Nat):jJ σ k ag (.row cs o)=(if o+k≤cs.length then some (((cs.drop o).take k).map V.d)else none).bind (iu ag):=rfl
def ldK(k:Nat)(ag:Bool)(o:Nat)(b:Option (List V)):Option V:=match b with|some cs=>if o+k≤cs.length/\cy cs=true then iu ag ((cs.drop o).take k)else(tyL k o cs).bind (iu ag)|none=>none
theorem uM(k:Nat)(ag:Bool)(o:Nat)(cs:List V):ldK k ag o (some cs)=if o+k≤cs.length/\cy cs=true then iu ag ((cs.drop o).take k)else(tyL k o cs).bind (iu ag):=rfl
theorem qQ(k:Nat)(ag:Bool)(i o:Nat):jJ σ k ag (.ptr i o)=ldK k ag o σ[i]? := by
 unfold jJ kB ldK;simp only;cases σ[i]? with
 | none=>rfl
 | some cs=>simp only;split<;>rfl
theorem qt(l:LLV)(j:Nat):(σ++l)[σ.length+j]? = l[j]? := by rw[Te (by omega)];congr 1;omega
theorem pz(l:LLV):(σ++l)[σ.length]? = l[0]? := qt l 0
theorem ah{i:Nat}{cs:List V}(h:σ[i]? = some cs)(l:LLV):(σ++l)[i]? = some cs:=by rw[S0 (List.getElem?_eq_some_iff.1 h).1];exact h
theorem kx(l:LLV)(j:Nat)(x:List V):(σ++l).set (σ.length+j) x=σ++l.set j x:=by rw[List.set_append_right _ _ (by omega)];congr 2;omega
theorem my(l:LLV)(x:List V):(σ++l).set σ.length x=σ++l.set 0 x:=kx l 0 x
theorem bc{i:Nat}{cs:List V}(h:σ[i]? = some cs)(l:LLV)(x:List V):(σ++l).set i x=σ.set i x++l:=by rw[List.set_append_left _ _ (List.getElem?_eq_some_iff.1 h).1]
theorem aA{a:Int}(h1 : -9223372036854775808≤a)(h2:a≤9223372036854775807):IntKind.i64.wrap a=a:=by
 simp[IntKind.wrap,IntKind.bits,IntKind.signed];split<;>omega
end
theorem Kh{rows:LLD}(h:V.Wf (.d (.sl rows))):rows.length≤9223372036854775807:=by
 cases h with|d h=>cases h with|sl _ h _=>exact h
theorem Jk{k:IntKind}{n:Int}(h:V.Wf (.d (.lit (.int k n)))):k.min≤n/\n≤k.max:=by
 cases h with|d h=>cases h with|lit _ h=>exact h
theorem zS{cs:List V}(h:V.Wf (.agg cs))(i:Nat)(hi:i<cs.length):V.Wf cs[i]:=by
 cases h with|agg h=>exact h i hi
theorem aT{j n:Nat}(h:j<n)(hn:n≤9223372036854775807):IntKind.i64.wrap ((j:Int)+1)=((j+1:Nat):Int):=by
 rw[aA (by omega) (by omega)];rfl
set_option linter.defProp false in
def aw:=Sq (Sq (Sq (Sq (Sq (Sq (Sq (Sq (Sq @eH.eq_1 @eH.eq_2) (Sq @over.eq_1 (Sq @mS.eq_1 @mS.eq_2))) (Sq (Sq @dE.eq_1 @dE.eq_2) (Sq @iI.eq_1 (Sq @iI.eq_2 @eV.eq_1)))) (Sq (Sq (Sq @eV.eq_2 @V.plain.eq_1) (Sq @V.plain.eq_2 (Sq @V.plain.eq_3 @cond_true.{1}))) (Sq (Sq @cond_false.{1} @implies_true.{0}) (Sq @implies_true.{1} (Sq @eq_self.{1} @ne_eq.{1}))))) (Sq (Sq (Sq (Sq @Ju @Jb) (Sq @Gj (Sq @Jg @Bd))) (Sq (Sq @Aj @J4) (Sq @JI (Sq @Hw @Ee)))) (Sq (Sq (Sq @Gu @J1) (Sq @Hh (Sq @FI @IR))) (Sq (Sq @FK @C5) (Sq @Gf (Sq @CX @Fz)))))) (Sq (Sq (Sq (Sq (Sq @JP @z8) (Sq @CK (Sq @J3 @Dk))) (Sq (Sq @Cn @OA) (Sq @Me (Sq @LQ @DC)))) (Sq (Sq (Sq @Dm @Ii) (Sq @rQ (Sq @sr @y6))) (Sq (Sq @He @Fb) (Sq @FE (Sq @LK @Co))))) (Sq (Sq (Sq (Sq @J7 @G7) (Sq @Jf (Sq @Ho @PJ))) (Sq (Sq @JG @Jm) (Sq @IX (Sq @I6 @Nc)))) (Sq (Sq (Sq @AJ @BH) (Sq @G9 (Sq @BG @GZ))) (Sq (Sq @Cl (Sq @wR @A8)) (Sq @Af (Sq @zV @DM))))))) (Sq (Sq (Sq (Sq (Sq (Sq @uP @CU) (Sq @xy (Sq @Bf @AF))) (Sq (Sq @BA @N9) (Sq @MD (Sq @JC @JJ)))) (Sq (Sq (Sq @Kp @Ku) (Sq @Pa (Sq @IU @OS))) (Sq (Sq @yk @Gs) (Sq @Jh (Sq @G0 @BT))))) (Sq (Sq (Sq (Sq @Bw @GR) (Sq @Mm (Sq @Jc @JW))) (Sq (Sq @I1 @Og) (Sq @Oq (Sq @JH @EE)))) (Sq (Sq (Sq @z6 @Rw) (Sq @QC (Sq @Fs @F2))) (Sq (Sq @FT (Sq @Gp @BO)) (Sq @B7 (Sq @uc @rj)))))) (Sq (Sq (Sq (Sq (Sq @Ck @Jj) (Sq @Fo (Sq @Du @BZ))) (Sq (Sq @DQ @CO) (Sq @xS (Sq @AD @xb)))) (Sq (Sq (Sq @DS @PH) (Sq @Qo (Sq @JT @Jv))) (Sq (Sq @O6 @Ox) (Sq @Of (Sq @KL @OD))))) (Sq (Sq (Sq (Sq @LB @KD) (Sq @Lh (Sq @NG @JE))) (Sq (Sq @AQ @Fk) (Sq @Q8 (Sq @QY @Kw)))) (Sq (Sq (Sq @JZ @Ni) (Sq @Mg (Sq @Hi @Gy))) (Sq (Sq @P3 (Sq @Rf @Si)) (Sq @RW (Sq @Qp @KU)))))))) (Sq (Sq (Sq (Sq (Sq (Sq (Sq @NJ @LZ) (Sq @KF (Sq @L7 @JS))) (Sq (Sq @I2 @NH) (Sq @Mf (Sq @Ma @Km)))) (Sq (Sq (Sq @OH @PD) (Sq @Kk (Sq @Ha @Hf))) (Sq (Sq @KQ @LF) (Sq @OY (Sq @JK @Le))))) (Sq (Sq (Sq (Sq @LW @J6) (Sq @NC (Sq @On @I0))) (Sq (Sq @Mw @E9) (Sq @Lu (Sq @F5 @Nh)))) (Sq (Sq (Sq @Kx @Hp) (Sq @ON (Sq @Gk @Ph))) (Sq (Sq @IW @LX) (Sq @JR (Sq @Nz @Jl)))))) (Sq (Sq (Sq (Sq (Sq @GB @Ki) (Sq @K7 (Sq @vL @CL))) (Sq (Sq @Al @w8) (Sq @xH (Sq @GO @DE)))) (Sq (Sq (Sq @Ay @Gt) (Sq @Bi (Sq @AE @Ci))) (Sq (Sq @FD @Et) (Sq @A2 (Sq @Dz @xR))))) (Sq (Sq (Sq (Sq @yL @K9) (Sq @KK (Sq @Pq @NV))) (Sq (Sq @Or @JD) (Sq @KP (Sq @JL @OV)))) (Sq (Sq (Sq @MB @Pr) (Sq @K2 (Sq @Ml @Nf))) (Sq (Sq @Iw (Sq @NA @Kt)) (Sq @Jo (Sq @Fa @Jn))))))) (Sq (Sq (Sq (Sq (Sq (Sq @JF @JA) (Sq @Mc (Sq @Lt @Jr))) (Sq (Sq @BX @AX) (Sq @yt (Sq @EW @Ct)))) (Sq (Sq (Sq @Bj @EV) (Sq @FZ (Sq @bM @Dv))) (Sq (Sq @cj @Fg) (Sq @K1 (Sq @Hc @GH))))) (Sq (Sq (Sq (Sq @Oc @I4) (Sq @uV (Sq @wy @yO))) (Sq (Sq @QR @H1) (Sq @B2 (Sq @xg @uM)))) (Sq (Sq (Sq @qQ @qt) (Sq @pz (Sq @kx @my))) (Sq (Sq @Option.bind_some.{0,0} (Sq @Option.map_some.{0,0} @Option.map_none.{0,0})) (Sq @List.getElem?_map.{0,0} (Sq @List.length_map.{0,0} @List.length_append.{0})))))) (Sq (Sq (Sq (Sq (Sq @List.append_assoc.{0} @List.cons_append.{0}) (Sq @List.nil_append.{0} (Sq @List.drop_succ_cons.{0} @List.drop_zero.{0}))) (Sq (Sq @List.take_succ_cons.{0} @List.take_zero.{0}) (Sq @List.length_cons.{0} (Sq @List.length_nil.{0} @List.getElem?_cons_zero.{0})))) (Sq (Sq (Sq @List.getElem?_cons_succ.{0} @List.set_cons_zero.{0}) (Sq @List.set_cons_succ.{0} (Sq @Tv @and_true))) (Sq (Sq @true_and @true_implies) (Sq @not_true_eq_false (Sq @not_false_eq_true @false_implies))))) (Sq (Sq (Sq (Sq @SL @SK) (Sq @List.contains_cons.{0} (Sq @List.contains_nil.{0} @List.map_cons.{0,0}))) (Sq (Sq @List.map_nil.{0,0} @Bool.or_false) (Sq @SI (Sq @Bool.or_true @SP)))) (Sq (Sq (Sq @SF @Bool.true_eq_false) (Sq @Gc (Sq @FQ @Bool.not_not))) (Sq (Sq @decide_not (Sq @List.all_cons.{0} @List.all_nil.{0})) (Sq @SJ (Sq @List.getD_cons_zero.{0} @List.getD_cons_succ.{0})))))))))
 (Sq (Sq (Sq (Sq (Sq (Sq (@id (∀x,V.copy (.d x)=.d x) fun x=>rfl) (@id (∀x,V.lend1 (.d x)=.d x) fun x=>rfl)) (Sq (@id (∀x,V.lend (.d x)=.d x) fun x=>rfl) (@id (∀x,V.cells (.d x)=[.d x]) fun x=>rfl))) (Sq (Sq (@id (∀x,V.boxable (.d x)=true) fun x=>rfl) (@id (∀x y z,V.copy (.own x y z)=.d (.sl z)) fun x y z=>rfl)) (Sq (@id (∀x y z,V.lend1 (.own x y z)=.d (.sl z)) fun x y z=>rfl) (Sq (@id (∀x y z,V.lend (.own x y z)=.d (.sl z)) fun x y z=>rfl) (@id (∀x y z,V.cells (.own x y z)=[.d (.sl z)]) fun x y z=>rfl))))) (Sq (Sq (Sq (@id (∀x y z,V.boxable (.own x y z)=true) fun x y z=>rfl) (@id (V.copy .nil=.nil) rfl)) (Sq (@id (V.lend1 .nil=.d (.sl [])) rfl) (Sq (@id (V.lend .nil=.d (.sl [])) rfl) (@id (V.cells .nil=[.nil]) rfl)))) (Sq (Sq (@id (V.boxable .nil=true) rfl) (@id (∀x,V.copy (.agg x)=.agg x) fun x=>rfl)) (Sq (@id (∀x,V.lend1 (.agg x)=.agg x) fun x=>rfl) (Sq (@id (∀x,V.lend (.agg x)=.agg (x.map V.lend1)) fun x=>rfl) (@id (∀x,V.cells (.agg x)=x.map V.copy) fun x=>rfl)))))) (Sq (Sq (Sq (Sq (@id (∀x,V.boxable (.agg x)=true) fun x=>rfl) (@id (∀x,V.copy (.tup x)=.tup x) fun x=>rfl)) (Sq (@id (∀x,V.lend1 (.tup x)=.tup x) fun x=>rfl) (@id (∀x,V.lend (.tup x)=.tup x) fun x=>rfl))) (Sq (Sq (@id (∀x,V.cells (.tup x)=[.tup x]) fun x=>rfl) (@id (∀x,V.boxable (.tup x)=false) fun x=>rfl)) (Sq (@id (∀x y,V.copy (.ptr x y)=.ptr x y) fun x y=>rfl) (Sq (@id (∀x y,V.lend1 (.ptr x y)=.ptr x y) fun x y=>rfl) (@id (∀x y,V.lend (.ptr x y)=.ptr x y) fun x y=>rfl))))) (Sq (Sq (Sq (@id (∀x y,V.cells (.ptr x y)=[.ptr x y]) fun x y=>rfl) (@id (∀x y,V.boxable (.ptr x y)=true) fun x y=>rfl)) (Sq (@id (∀x y,V.copy (.row x y)=.row x y) fun x y=>rfl) (Sq (@id (∀x y,V.lend1 (.row x y)=.row x y) fun x y=>rfl) (@id (∀x y,V.lend (.row x y)=.row x y) fun x y=>rfl)))) (Sq (Sq (@id (∀x y,V.cells (.row x y)=[.row x y]) fun x y=>rfl) (@id (∀x y,V.boxable (.row x y)=true) fun x y=>rfl)) (Sq (@id (∀x y z w,V.copy (.bsl x y z w)=.bsl x y z w) fun x y z w=>rfl) (Sq (@id (∀x y z w,V.lend1 (.bsl x y z w)=.bsl x y z w) fun x y z w=>rfl) (@id (∀x y z w,V.lend (.bsl x y z w)=.bsl x y z w) fun x y z w=>rfl))))))) (Sq (Sq (Sq (Sq (Sq (@id (∀x y z w,V.cells (.bsl x y z w)=[.bsl x y z w]) fun x y z w=>rfl) (@id (∀x y z w,V.boxable (.bsl x y z w)=true) fun x y z w=>rfl)) (Sq (@id (∀x y,V.copy (.fn x y)=.fn x y) fun x y=>rfl) (@id (∀x y,V.lend1 (.fn x y)=.fn x y) fun x y=>rfl))) (Sq (Sq (@id (∀x y,V.lend (.fn x y)=.fn x y) fun x y=>rfl) (@id (∀x y,V.cells (.fn x y)=[.fn x y]) fun x y=>rfl)) (Sq (@id (∀x y,V.boxable (.fn x y)=true) fun x y=>rfl) (Sq (@id (∀x y,V.copy (.bnd x y)=.bnd x y) fun x y=>rfl) (@id (∀x y,V.lend1 (.bnd x y)=.bnd x y) fun x y=>rfl))))) (Sq (Sq (Sq (@id (∀x y,V.lend (.bnd x y)=.bnd x y) fun x y=>rfl) (@id (∀x y,V.cells (.bnd x y)=[.bnd x y]) fun x y=>rfl)) (Sq (@id (∀x y,V.boxable (.bnd x y)=true) fun x y=>rfl) (Sq (@id (∀x y,V.copy (.iface x y)=.iface x y) fun x y=>rfl) (@id (∀x y,V.lend1 (.iface x y)=.iface x y) fun x y=>rfl)))) (Sq (Sq (@id (∀x y,V.lend (.iface x y)=.iface x y) fun x y=>rfl) (@id (∀x y,V.cells (.iface x y)=[.iface x y]) fun x y=>rfl)) (Sq (@id (∀x y,V.boxable (.iface x y)=true) fun x y=>rfl) (Sq (@id (∀x,V.copy (.mp x)=.mp x) fun x=>rfl) (@id (∀x,V.lend1 (.mp x)=.mp x) fun x=>rfl)))))) (Sq (Sq (Sq (Sq (@id (∀x,V.lend (.mp x)=.mp x) fun x=>rfl) (@id (∀x,V.cells (.mp x)=[.mp x]) fun x=>rfl)) (Sq (@id (∀x,V.boxable (.mp x)=true) fun x=>rfl) (Sq (@id (∀x y z,V.copy (.bsc x y z)=.bsc x y z) fun x y z=>rfl) (@id (∀x y z,V.lend1 (.bsc x y z)=.bsc x y z) fun x y z=>rfl)))) (Sq (Sq (@id (∀x y z,V.lend (.bsc x y z)=.bsc x y z) fun x y z=>rfl) (@id (∀x y z,V.cells (.bsc x y z)=[.bsc x y z]) fun x y z=>rfl)) (Sq (@id (∀x y z,V.boxable (.bsc x y z)=true) fun x y z=>rfl) (Sq (@id (∀x y,V.copy (.mapc x y)=.mapc x y) fun x y=>rfl) (@id (∀x y,V.lend1 (.mapc x y)=.mapc x y) fun x y=>rfl))))) (Sq (Sq (Sq (@id (∀x y,V.lend (.mapc x y)=.mapc x y) fun x y=>rfl) (@id (∀x y,V.cells (.mapc x y)=[.mapc x y]) fun x y=>rfl)) (Sq (@id (∀x y,V.boxable (.mapc x y)=true) fun x y=>rfl) (Sq (@id (V.copy .junk=.junk) rfl) (@id (V.lend1 .junk=.junk) rfl)))) (Sq (Sq (@id (V.lend .junk=.junk) rfl) (@id (V.cells .junk=[.junk]) rfl)) (Sq (@id (V.boxable .junk=false) rfl) (Sq (@decide_true) (@decide_false))))))))
end Go.Proofs.YtnhphlmblenapaaGreatDoor
namespace Go.Proofs.YtnhphlmblenapaaGreatDoor
open Go.RowKit
inductive CdD where
 | seq (a:Cd) (b:CdD)
 | dfr (s:Nat) (g:FuncId) (cap:List X) (rest:Cd)
def zz(tab:Tab)(n:Nat)(s:Nat)(g:FuncId)(cap:List X):List Oper->Bool
 | [⟨d1,.makeFunc (.func g') first cap',_,_,_,none⟩,⟨d2,.defer {callee:=.value y,args:=args,argTypes:=_},_,_,_,none⟩]=>d1==some s&&decide (s<n)&&g==g'&&first.isEmpty&&nQ cap cap'.toList&&d2==none&&okX (.t s) y&&args.isEmpty
 | _=>false
def okD(tab:Tab)(n:Nat):CdD->Code->Bool
 | .seq a b,.seq a' b'=>okC tab n a a'&&okD tab n b b'
 | .dfr s g cap rest,.seq (.region _ ops false) r=>zz tab n s g cap ops.toList&&okC tab n rest r
 | _,_=>false
abbrev pR:=FuncId->List V->bX
def Hy(C:Cx)(n0:Nat):CdD->ai->LLV->bX->pR->Prop
 | .seq a b,ρ,σ,Q,QD=>awp C n0 a ρ σ (andThen (fun ρ' σ'=>Hy C n0 b ρ' σ' Q QD) Q)
 | .dfr s g cap rest,ρ,σ,_,QD=>awp C σ.length rest (put ρ s (.fn g (cap.map (ev C ρ)))) σ (QD g (cap.map (ev C ρ)))
section
variable {C : Cx} {pr : Prot} {n n0 : Nat}
def DX(M0:av)(bm0:List Nat)(p:Nat->Prop)(w0:World)(n:Nat)(QD:pR)(e:Exit)(a':Act)(w':World):Prop:=
 ∃(M1:av) (bm1:List Nat) (w1:World) (g:FuncId) (caps:List V) (vs:List Value),Later M0 bm0 p w0 M1 bm1 w1/\vs.length=caps.length/\(∀i (h:i<caps.length) (h':i<vs.length),Rep M1 bm1 caps[i] vs[i])/\
  bG M1 bm1 ⟨p,[{target:=.fn (.func g) vs.toArray,args := #[]}]⟩ w1 n (QD g caps) e a' w'
theorem wW{M0:av}{bm0:List Nat}{w0:World}(hG:C.glob M0 pr w0)(hn0:bm0.length=n0)(hds:pr.ds=[]):∀{c:CdD} {c':Code} {M:av} {bm:List Nat} {tk:bv} {ρ:ai} {σ:LLV} {a:Act} {w:World} {Q:bX} {QD:pR},okD C.tab n c c'=true->Later M0 bm0 pr w0 M bm w->SRel M bm tk pr ρ σ n a w->
 Hy C n0 c ρ σ Q QD->c'.wp C.P (fun e a' w'=>bG M0 bm0 pr w0 n Q e a' w'\/DX M0 bm0 pr w0 n QD e a' w') a w:=by
 intro c
 induction c with
 | seq x y ih=>
  intro c' M bm tk ρ σ a w Q QD hok hl h hq
  obtain⟨a',b',rfl,ok2⟩:∃a' b',c'=.seq a' b'/\okC C.tab n x a'=true/\okD C.tab n y b'=true:=by
   cases c' with
   | seq a' b'=>
    have hok:(okC C.tab n x a'&&okD C.tab n y b')=true:=hok;rw[SE]at hok;exact⟨_,_,rfl,hok⟩
   | _=>cases hok
  refine wp_seq (wp_mono (kW hG hn0 ok2.1 hl h hq) (fun e a' w' hL=>?_));obtain⟨M',bm',tk',ρ',σ',x,k1,k2,k3,k4⟩:=hL;cases k2 with
  | normal=>exact ih ok2.2 k4 k3 k1
  | ret=>exact .inl ⟨M',bm',tk',ρ',σ',_,k1,.ret,k3,k4⟩
  | exit id=>exact .inl ⟨M',bm',tk',ρ',σ',_,k1,.exit id,k3,k4⟩
  | panic hp=>exact .inl ⟨M',bm',tk',ρ',σ',_,k1,.panic hp,k3,k4⟩
 | dfr s g cap rest=>
  intro c' M bm tk ρ σ a w Q QD hok hl h hq
  obtain⟨id,ops,r,rfl,hok1,hok2⟩:∃id ops r,c'=.seq (.region id ops false) r/\zz C.tab n s g cap ops.toList=true/\okC C.tab n rest r=true:=by
   cases c' with
   | seq a' r=>
    cases a' with
    | region id ops draw=>
     cases draw with
     | false=>
      have hok:(zz C.tab n s g cap ops.toList&&okC C.tab n rest r)=true:=hok;rw[SE]at hok;exact⟨_,_,_,rfl,hok⟩
     | true=>cases hok
    | _=>cases hok
   | _=>cases hok
  unfold zz at hok1;split at hok1
  .rename_i d1 g' first cap' ty1 po1 af1 d2 y args at_ ty2 po2 af2 hops
   simp only[SE,beq_iff_eq,decide_eq_true_eq]at hok1;obtain⟨⟨⟨⟨⟨⟨⟨rfl,hs⟩,rfl⟩,h1⟩,h2⟩,rfl⟩,h4⟩,h5⟩:=hok1;have hf:first = #[]:=by simpa using h1
   have ha:args = #[]:=by simpa using h5
   subst hf;subst ha;obtain⟨l1,l2⟩:=eU (hG.mono hl) h h2;have hr:=Rep.fn (f:=g) l1 l2;have e9:(cap'.toList.map a.eval).toArray=cap'.map a.eval:=by rw[<-Array.toList_map]
   refine wp_seq (wp_region_list ?_);rw[hops];have w1:∀(a:Act) (d:Option Tmp) (o:Op) (t:TypeId) (p:String) (af:Array Edge),Region.wanted ⟨d,o,t,p,af,none⟩ (yielded ops a.tmps)=true:=fun _ _ _ _ _ _=>rfl;simp only[wpList];rw[if_pos (w1 _ _ _ _ _ _)];left;unfold Oper.wp
   have run1:(execOp a.eval ⟨some s,.makeFunc (.func g) #[] cap',ty1,po1,af1,none⟩).run C.P w=.ok (.value (.func (.func g) #[] (cap'.map a.eval))) w:=by
    simp[execOp,Instr.makeFunc]
   rw[run1];simp only[Oper.upon_value];rw[if_pos (w1 _ _ _ _ _ _)];left;rw[e9]at hr;have h6:=h.puts hs hr (by simp)
   have hy:(a.put (some s) (.func (.func g) #[] (cap'.map a.eval))).eval y=.func (.func g) #[] (cap'.map a.eval):=by
    unfold okX at h4;split at h4
    .rename_i m m' e;cases e;simp only[beq_iff_eq]at h4;subst h4;simp only[Act.eval];have:=gy a s s (.func (.func g) #[] (cap'.map a.eval)) (by rw[h.size];exact hs);rw[if_pos rfl]at this;exact this
    .rename_i e;cases e
    .rename_i e;cases e
    .rename_i e;cases e
    .cases h4
   have run2:(execOp (a.put (some s) (.func (.func g) #[] (cap'.map a.eval))).eval ⟨none,.defer {callee:=.value y,args := #[],argTypes:=at_},ty2,po2,af2,none⟩).run C.P w=.ok (.defer {target:=.fn (.func g) (cap'.map a.eval),args := #[]}) w:=by
    simp[execOp,resolve,hy,Deferred.ofValue]
   rw[run2];simp only[Oper.upon_defer]
   have h7:SRel M bm tk ⟨pr.p,[{target:=.fn (.func g) (cap'.map a.eval),args := #[]}]⟩ (put ρ s (.fn g (cap.map (ev C ρ)))) σ n ({(a.put (some s) (.func (.func g) #[] (cap'.map a.eval)))with defers:={target:=.fn (.func g) (cap'.map a.eval),args := #[]}::(a.put (some s) (.func (.func g) #[] (cap'.map a.eval))).defers}.put none undef) w:=
    ⟨h6.inv,by show _::_=_;rw[h6.defers,hds],h6.size,h6.slots⟩
   refine wp_mono (kW (pr:=⟨pr.p,[{target:=.fn (.func g) (cap'.map a.eval),args := #[]}]⟩) (hG.mono hl) (n0:=σ.length) h.inv.len hok2 (Later.refl _ _ _ _) h7 hq) (fun e a' w' hL=>.inr ⟨M,bm,w,g,cap.map (ev C ρ),cap'.toList.map a.eval,hl,l1,l2,?_⟩);rw[e9];exact hL
  .cases hok1
def eW(C:Cx)(g:FuncId)(caps:List V)(σ:LLV)(x:Option V)(R:LLV->Prop):Prop:=
 (∀as w,(callFunc g as).run C.P w=.ok (.enter g as) w)/\
 ∀(M:av) (bm:List Nat) (tk:bv) (pr:Nat->Prop) (w:World) (vs:List Value) (u:FrameMode),C.glob M pr w->Inv M bm σ tk pr w->(∀t,tk none t=none)->vs.length=caps.length->(∀i (h:i<caps.length) (h':i<vs.length),Rep M bm caps[i] vs[i])->
  (match x with|none=>u=.returning|some v=>∃y,u=.panicking [{v:=y,recovered:=false}]/\Rep M bm v y)->
  CallsD C.P g vs.toArray u w fun e u' w'=>(∃y,e=.returned y)/\settle u'=.returning/\∃M' bm' tk' σ',R σ'/\Inv M' bm' σ' tk' pr w'/\Later M bm pr w M' bm' w'
theorem tC{M':av}{bm':List Nat}{tk':bv}{ρ':ai}{σ':LLV}{a':Act}{w':World}{k:Nat}(o:Option Nat)(k3:SRel M' bm' tk' pr ρ' σ' n a' w')(hbk:ak k (σ'.take k)=true)(ho:o=none\/∃s,o=tk' none s):
 Inv M' (bm'.take k) (σ'.take k) (fun i j=>match i with|none=>if j=0 then o else none|some i=>tk' (some i) j) pr w':=by
 have hd:=k3.inv.drop hbk;refine⟨hd.facts,hd.len,hd.box,hd.free,hd.bmnd,fun i j g hg=>?_,fun i j i' j' g g1 g2=>?_,hd.prlt⟩
 .cases i with
  | some i=>exact hd.tok _ _ _ hg
  | none=>
   simp only at hg;split at hg
   .rcases ho with rfl|⟨s,rfl⟩
    .cases hg
    .exact hd.tok _ _ _ hg
   .cases hg
 .cases i with
  | some i=>cases i' with
   | some i'=>exact hd.inj _ _ _ _ _ g1 g2
   | none=>
    simp only at g2;split at g2
    .rcases ho with rfl|⟨s,rfl⟩
     .cases g2
     .have:=hd.inj _ _ _ _ _ g1 g2;simp at this
    .cases g2
  | none=>cases i' with
   | some i'=>
    simp only at g1;split at g1
    .rcases ho with rfl|⟨s,rfl⟩
     .cases g1
     .have:=hd.inj _ _ _ _ _ g1 g2;simp at this
    .cases g1
   | none=>
    simp only at g1 g2;split at g1
    .split at g2
     .exact⟨rfl,by omega⟩
     .cases g2
    .cases g1
def CE(n0:Nat)(rs:List RV)(Q:Out->LLV->Prop)(ρ:ai)(σ2:LLV):Prop:=
 ∃v,aC σ2 ρ rs=some v/\∃k,n0≤k/\ak k (σ2.take k)=true/\V.under k v=true/\Q (.ret v) (σ2.take k)
def MP(C:Cx)(n0:Nat)(rs:List RV)(Q:Out->LLV->Prop):pR:=fun g caps e ρ σ'=>match e with
 | .normal=>eW C g caps σ' none (CE n0 rs Q ρ)
 | .ret=>eW C g caps σ' none (CE n0 rs Q ρ)
 | .panic v=>eW C g caps σ' (some v) (CE n0 rs Q ρ)
 | .exit _=>False
def sN(tab:Tab)(fn:Func)(m:Nat)(c:CdD)(rs:List RV):Bool:=
 (match fn.body with|some b=>okD tab fn.ntmps c b|none=>false)&&mK tab rs fn.results.toList&&decide (m≤fn.ntmps) && !(fn.name == "runtime.NumGoroutine")
theorem AP{f:FuncId}{fn:Func}{c:CdD}{rs:List RV}{args:List V}{σ:LLV}{Q:Out->LLV->Prop}(hf:C.P.funcs[f]? = some fn)(hok:sN C.tab fn args.length c rs=true)(hno:args.all (! ·.isOwn)=true)
 (h:ak σ.length σ=true->(∀i (h:i<args.length),V.Wf args[i])->Hy C σ.length c (eH 0 args) σ (fin σ.length rs Q) (MP C σ.length rs Q)):Fun C f args σ Q:=by
 unfold sN at hok;simp only[SE,decide_eq_true_eq,SG]at hok;obtain⟨⟨⟨h1,h2⟩,h3⟩,h4⟩:=hok;cases hb:fn.body with
 | none=>rw[hb]at h1;cases h1
 | some body=>
 rw[hb]at h1;refine⟨bN hf h4 (by rw[hb];rfl),fun M bm tk pr0 w vs hG hI htk hl hr=>?_⟩;obtain⟨pr,rfl,hds⟩:∃pr:Prot,pr.p=pr0/\pr.ds=[]:=⟨⟨pr0,[]⟩,rfl,rfl⟩
 have hq:=h hI.under (fun i hi=>(hr i hi (by omega)).wf);refine calls_of_wp_defers hf hb ?_
 have hs:SRel M bm tk pr (eH 0 args) σ fn.ntmps {tmps:=vs.toArray++Sv (fn.ntmps-vs.toArray.size) undef,defers:=[]} w:=by
  refine⟨hI,hds.symm,by simp;omega,fun t=>?_⟩;rw[je,if_pos (Tz _),TB];by_cases hlt:t<args.length
  .rw[SS hlt,TD]
   have hv:(vs.toArray++Sv (fn.ntmps-vs.toArray.size) undef).getD t undef=vs[t]'(by omega):=by
    rw[Ss,SD (by simp;omega)];simp[show t<vs.length by omega]
   rw[hv];refine⟨hr t hlt (by omega),fun T k rows e=>?_⟩;have:=List.all_eq_true.1 hno args[t] (Tj hlt);rw[e]at this;cases this
  .rw[Th (by omega),TG];exact CellOK.junk ..
 refine wp_mono (wW hG hI.len hds h1 (Later.refl M bm pr w) hs hq) (fun e a' w' hL=>?_)
 have ret:∀{p2:Prot} {M2:av} {bm2:List Nat} {tk2:bv} {ρ2:ai} {σ2:LLV} {w2:World},p2.p=pr.p->SRel M2 bm2 tk2 p2 ρ2 σ2 fn.ntmps a' w2->Later M bm pr w M2 bm2 w2->∀v,aC σ2 ρ2 rs=some v->(∃k,σ.length≤k/\ak k (σ2.take k)=true/\V.under k v=true/\Q (.ret v) (σ2.take k))->
  ∃u,(results fn a'.tmps).run C.P w2=.ok u w2/\∃M' bm' tk' σ' o,Q o σ'/\Inv M' bm' σ' tk' pr w2/\Later M bm pr w M' bm' w2/\OutOK M' bm' w2 tk' o (.returned u):=by
  rintro p2 M2 bm2 tk2 ρ2 σ2 w2 hp s1 s2 v hv ⟨k,g1,g2,g3,g4⟩;obtain⟨u,r1,t,r2,r3⟩:=qk s1 h2 hv;have c1:=tC t s1 g2 r3;rw[hp]at c1;refine⟨u,r1,M2,bm2.take k,_,σ2.take k,.ret v,g4,c1,s2.drop (by rw[hI.len];exact g1),fun v' e=>?_,fun v' e=>by cases e⟩;cases e;exact⟨u,rfl,r2.rep.drop g3,by simpa using r2.own⟩
 rcases hL with⟨M',bm',tk',ρ',σ',x,k1,k2,k3,k4⟩|⟨M1,bm1,w1,g,caps,us,d1,d2,d3,M',bm',tk',ρ',σ',x,k1,k2,k3,k4⟩
 .have hnil:a'.defers=[]:=k3.defers.trans hds
  have plain:(∃ρ2 σ2,dY σ.length ρ' σ' ρ2 σ2/\∃v,aC σ2 ρ2 rs=some v/\∃k,σ.length≤k/\ak k (σ2.take k)=true/\V.under k v=true/\Q (.ret v) (σ2.take k))->Leaves C.P fn a'.tmps (fun e w'=>∃M' bm' tk' σ' o,Q o σ'/\Inv M' bm' σ' tk' pr w'/\Later M bm pr w M' bm' w'/\OutOK M' bm' w' tk' o e) a'.defers .returning w':=by
   rintro⟨ρ2,σ2,g0,v,g1,g2⟩;obtain⟨M2,bm2,s1,s2⟩:=g0 M' bm' tk' pr fn.ntmps a' w' k3;rw[hnil];exact ret rfl s1 (s2 M bm w hI.len k4) v g1 g2
  cases k2 with
  | normal=>exact plain k1
  | ret=>exact plain k1
  | exit id=>exact k1.elim
  | panic hp=>
   obtain⟨k,g1,g2,g3,g4⟩:=k1;have c1:=tC none k3 g2 (.inl rfl);show Leaves C.P fn a'.tmps _ a'.defers (.panicking _) w';rw[hnil];exact⟨M',bm'.take k,_,σ'.take k,_,g4,c1,k4.drop (by rw[hI.len];exact g1),(fun v' e=>by cases e),fun v' e=>by cases e;exact⟨_,rfl,hp.drop g3⟩⟩
 .have hdl:Later M bm pr.p w M' bm' w':=d1.trans k4 (fun _ h=>h);have hrc:∀i (h:i<caps.length) (h':i<us.length),Rep M' bm' caps[i] us[i]:=fun i g1 g2=>k4.rep (d3 i g1 g2)
  have late:∀(x:Option V) (u:FrameMode),u≠.run->(match x with|none=>u=.returning|some v=>∃y,u=.panicking [{v:=y,recovered:=false}]/\Rep M' bm' v y)->eW C g caps σ' x (CE σ.length rs Q ρ')->
   Leaves C.P fn a'.tmps (fun e w'=>∃M' bm' tk' σ' o,Q o σ'/\Inv M' bm' σ' tk' pr w'/\Later M bm pr w M' bm' w'/\OutOK M' bm' w' tk' o e) a'.defers u w':=fun x u hu hx hF=>by
   rw[k3.defers];refine leaves_cons hu ?_ ((hF.2 M' bm' (uC tk') (prot tk' pr.p) w' us u ((hG.mono hdl).prot fun _ hb=>.inl hb) k3.callee (fun _=>rfl) d2 hrc hx).mono ?_)
   .have:=hF.1 us.toArray w';simpa[invoke]using this
   .rintro e u' w2 ⟨⟨y,rfl⟩,hset,M2,bm2,tk2,σ2,hfin,hi2,hl2⟩;obtain⟨⟨tk3,s1⟩,-,s2⟩:=k3.called hi2 hl2;obtain⟨v,hv,hk⟩:=hfin;show Leaves C.P fn a'.tmps _ [] (settle u') w2;rw[hset];exact ret (by exact rfl) s1 (hdl.trans s2 (fun _ h=>h)) v hv hk
  cases k2 with
  | normal=>exact late none .returning (by simp) rfl k1
  | ret=>exact late none .returning (by simp) rfl k1
  | exit id=>exact k1.elim
  | panic hp=>exact late (some _) (.panicking _) (by simp) ⟨_,rfl,hp⟩ k1
inductive CdR where
 | reg (s:Nat) (l:List O) (keep:List Nat)
 | seq (a:CdR) (b:Cd)
def tH(n s:Nat):List Oper->Bool
 | ⟨d,.call {callee:=.builtin .recover,args:=args,argTypes:=_},_,_,_,none⟩::_=>d==some s&&decide (s<n)&&args.isEmpty
 | _=>false
def okR(tab:Tab)(n:Nat):CdR->Code->Bool
 | .reg s l _,.region _ ops false=>tH n s ops.toList&&ip tab n ops l ops.toList.tail
 | .seq a b,.seq a' b'=>okR tab n a a'&&okC tab n b b'
 | _,_=>false
def Gl(C:Cx)(n0:Nat)(x:V):CdR->ai->LLV->bX->Prop
 | .reg s l keep,ρ,σ,Q=>ck C l (put ρ s x) σ fun e ρ' σ'=>Q e (aY keep ρ') σ'
 | .seq a b,ρ,σ,Q=>Gl C n0 x a ρ σ (andThen (fun ρ' σ'=>awp C n0 b ρ' σ' Q) Q)
theorem l9{P:Program}{ops:Array Oper}{Q Q':Exit->Act->World->Prop}(hq:∀e a w,Q e a w->Q' e a w):∀(l:List Oper) (a:Act) (w:World),wpList P ops Q l a w->wpList P ops Q' l a w
 | [],_,_,h=>hq _ _ _ h
 | o::l,a,w,h=>by
  simp only[wpList]at h ⊢;split
  .rename_i hw;rw[if_pos hw]at h;rcases h with h|⟨h1,a',w',h2⟩
   .exact .inl (Oper.wp_mono2 (fun a' w' hh=>l9 hq l a' w' hh) hq h)
   .exact .inr ⟨h1,a',w',hq _ _ _ h2⟩
  .rename_i hw;rw[if_neg hw]at h;exact l9 hq l _ w h
theorem zu{P:Program}{c:Code}{Q Q':Exit->Act->List Frame->World->Prop}{a:Act}{cs:List Frame}{w:World}(h:c.wpS P Q a cs w)(hq:∀e a cs w,Q e a cs w->Q' e a cs w):c.wpS P Q' a cs w:=
 fun b k hb hr=>let ⟨e,a',cs',w',q,r⟩:=h b k hb hr;⟨e,a',cs',w',hq _ _ _ _ q,r⟩
theorem gY{P:Program}{ops:Array Oper}{Q:Exit->Act->World->Prop}{cs:List Frame}(hno:¬LetsOut Q):∀(l:List Oper) (k:Nat) (a:Act) (w:World),(∀j,l[j]? = ops[k+j]?)->wpList P ops Q l a w->wpOpsS P ops (fun e a cs' w=>cs'=cs/\Q e a w) (Tn k l.length) a cs w
 | [],_,_,_,_,h=>⟨rfl,h⟩
 | o::l,k,a,w,hj,h=>by
  have h0:ops[k]? = some o:=by simpa using(hj 0).symm
  have hj':∀j,l[j]? = ops[k+1+j]? := fun j=>by have:=hj (j+1);simpa[TA,Nat.add_comm 1 j]using this
  simp only[SW,Tp,wpOpsS,h0];simp only[wpList]at h;split
  .rename_i hw;rw[if_pos hw]at h;have h:=h.resolve_right fun hh=>hno hh.2;have h2:o.wp P a w (fun a' w'=>wpOpsS P ops (fun e a cs' w=>cs'=cs/\Q e a w) (Tn (k+1) l.length) a' cs w') (fun e a' w'=>True/\Q e a' w'):=Oper.wp_mono2 (fun a' w' hh=>gY hno l (k+1) a' w' hj' hh) (fun e a' w' hh=>⟨trivial,hh⟩) h;unfold Oper.wp at h2;generalize (execOp a.eval o).run P w=r at h2;split
   .exact h2.elim
   .exact h2
  .rename_i hw;rw[if_neg hw]at h;exact gY hno l (k+1) _ w hj' h
theorem bG.noOut{M:av}{bm:List Nat}{w:World}{Q:bX}:¬LetsOut (bG M bm pr w n Q):=by
 rintro⟨a,w',M',bm',tk',ρ',σ',x,h1,h2,h3⟩;cases h2
theorem x9{M0:av}{bm0:List Nat}{w0:World}(hG:C.glob M0 pr w0)(hn0:bm0.length=n0){x:V}{cs cs2:List Frame}{y:Value}(hrec:recoverD cs=some (y,cs2)\/(recoverD cs=none/\cs2=cs/\y=.nilIface))(hx:Rep M0 bm0 x y)(hxo:∀T k rows,x≠.own T k rows):
 ∀{c:CdR} {c':Code} {tk:bv} {ρ:ai} {σ:LLV} {a:Act} {Q:bX},okR C.tab n c c'=true->SRel M0 bm0 tk pr ρ σ n a w0->
 Gl C n0 x c ρ σ Q->c'.wpS C.P (fun e a' cs' w'=>cs'=cs2/\bG M0 bm0 pr w0 n Q e a' w') a cs w0:=by
 intro c
 induction c with
 | reg s l keep=>
  intro c' tk ρ σ a Q hok h hq
  obtain⟨id,ops,rfl,hok1,hok2⟩:∃id ops,c'=.region id ops false/\tH n s ops.toList=true/\ip C.tab n ops l ops.toList.tail=true:=by
   cases c' with
   | region id ops draw=>
    cases draw with
    | false=>
     have hok:(tH n s ops.toList&&ip C.tab n ops l ops.toList.tail)=true:=hok;rw[SE]at hok;exact⟨_,_,rfl,hok⟩
    | true=>cases hok
   | _=>cases hok
  unfold tH at hok1;split at hok1
  .rename_i d args at_ ty po af r hops;simp only[SE,beq_iff_eq,decide_eq_true_eq]at hok1;obtain⟨⟨rfl,hs⟩,h5⟩:=hok1;have ha:args = #[]:=by simpa using h5
   subst ha;rw[hops,List.tail_cons]at hok2;refine wpS_region ?_;have hsz:ops.size=r.length+1:=by rw[<-Array.length_toList,hops];rfl
   have h0:ops[0]? = some ⟨some s,.call {callee:=.builtin .recover,args := #[],argTypes:=at_},ty,po,af,none⟩:=by rw[<-Sw,hops];rfl
   have hj:∀j,r[j]? = ops[0+1+j]? := fun j=>by rw[<-Sw,hops,show 0+1+j=j+1 by omega];rfl
   rw[hsz,List.range_eq_range',Tp];simp only[wpOpsS,h0];rw[if_pos (show Region.wanted ⟨some s,.call {callee:=.builtin .recover,args := #[],argTypes:=at_},ty,po,af,none⟩ (yielded ops a.tmps)=true from rfl)]
   have run1:(execOp a.eval ⟨some s,.call {callee:=.builtin .recover,args := #[],argTypes:=at_},ty,po,af,none⟩).run C.P w0=.ok .recover w0:=by
    simp[execOp,resolve,invoke,builtin]
   rw[run1]
   have go:wpOpsS C.P ops (fun e a' cs' w'=>cs'=cs2/\bG M0 bm0 pr w0 n Q e a' w') (Tn (0+1) r.length) (a.put (some s) y) cs2 w0:=by
    refine gY bG.noOut r (0+1) _ _ hj ?_;have h6:=h.puts hs hx hxo;exact l9 (fun e a w hL=>bG.keep (l:=keep) hL) _ _ _ (fj (Q:=fun e ρ' σ'=>Q e (aY keep ρ') σ') hG hok2 (Later.refl _ _ _ _) h6 hq)
   rcases hrec with hrec|⟨hrec,rfl,rfl⟩
   .rw[hrec];exact go
   .rw[hrec];exact go
  .cases hok1
 | seq x1 b ih=>
  intro c' tk ρ σ a Q hok h hq
  obtain⟨a',b',rfl,ok2⟩:∃a' b',c'=.seq a' b'/\okR C.tab n x1 a'=true/\okC C.tab n b b'=true:=by
   cases c' with
   | seq a' b'=>
    have hok:(okR C.tab n x1 a'&&okC C.tab n b b')=true:=hok;rw[SE]at hok;exact⟨_,_,rfl,hok⟩
   | _=>cases hok
  refine wpS_seq (zu (ih ok2.1 h hq) (fun e a' cs' w' ⟨hcs,hL⟩=>?_));subst hcs;obtain⟨M',bm',tk',ρ',σ',z,k1,k2,k3,k4⟩:=hL;cases k2 with
  | normal=>exact wpS_of_wp (wp_mono (kW hG hn0 ok2.2 k4 k3 k1) fun e a w hh=>⟨rfl,hh⟩)
  | ret=>exact⟨rfl,M',bm',tk',ρ',σ',_,k1,.ret,k3,k4⟩
  | exit id=>exact⟨rfl,M',bm',tk',ρ',σ',_,k1,.exit id,k3,k4⟩
  | panic hp=>exact⟨rfl,M',bm',tk',ρ',σ',_,k1,.panic hp,k3,k4⟩
def NS(n0:Nat)(R:LLV->Prop):bX:=fun e _ σ'=>match e with
 | .normal=>∃k,n0≤k/\ak k (σ'.take k)=true/\R (σ'.take k)
 | .ret=>∃k,n0≤k/\ak k (σ'.take k)=true/\R (σ'.take k)
 | _=>False
def sn(tab:Tab)(fn:Func)(m:Nat)(c:CdR):Bool:=
 (match fn.body with|some b=>okR tab fn.ntmps c b|none=>false)&&fn.results.isEmpty&&decide (m≤fn.ntmps) && !(fn.name == "runtime.NumGoroutine")
theorem Ei{g:FuncId}{fn:Func}{c:CdR}{caps:List V}{σ:LLV}{x:Option V}{R:LLV->Prop}(hf:C.P.funcs[g]? = some fn)(hok:sn C.tab fn caps.length c=true)(hno:caps.all (! ·.isOwn)=true)(hx:∀v,x=some v->v.isOwn=false)
 (h:ak σ.length σ=true->Gl C σ.length (x.getD (.d (.lit .nilIface))) c (eH 0 caps) σ (NS σ.length R)):eW C g caps σ x R:=by
 unfold sn at hok;simp only[SE,decide_eq_true_eq,SG]at hok;obtain⟨⟨⟨h1,h2⟩,h3⟩,h4⟩:=hok;have hres:fn.results = #[]:=by simpa using h2
 cases hb:fn.body with
 | none=>rw[hb]at h1;cases h1
 | some body=>
 rw[hb]at h1;refine⟨bN hf h4 (by rw[hb];rfl),fun M bm tk pr0 w vs u hG hI htk hl hr hu=>?_⟩;obtain⟨pr,rfl,hds⟩:∃pr:Prot,pr.p=pr0/\pr.ds=[]:=⟨⟨pr0,[]⟩,rfl,rfl⟩
 have hq:=h hI.under;refine callsD_of_wpS hf hb fun c₀ cs hc=>?_
 have hs:SRel M bm tk pr (eH 0 caps) σ fn.ntmps {tmps:=vs.toArray++Sv (fn.ntmps-vs.toArray.size) undef,defers:=[]} w:=by
  refine⟨hI,hds.symm,by simp;omega,fun t=>?_⟩;rw[je,if_pos (Tz _),TB];by_cases hlt:t<caps.length
  .rw[SS hlt,TD]
   have hv:(vs.toArray++Sv (fn.ntmps-vs.toArray.size) undef).getD t undef=vs[t]'(by omega):=by
    rw[Ss,SD (by simp;omega)];simp[show t<vs.length by omega]
   rw[hv];refine⟨hr t hlt (by omega),fun T k rows e=>?_⟩;have:=List.all_eq_true.1 hno caps[t] (Tj hlt);rw[e]at this;cases this
  .rw[Th (by omega),TG];exact CellOK.junk ..
 have key:∀(y:Value) (cs2:List Frame),(recoverD (c₀::cs)=some (y,cs2)\/(recoverD (c₀::cs)=none/\cs2=c₀::cs/\y=.nilIface))->Rep M bm (x.getD (.d (.lit .nilIface))) y->(∃u',cs2={c₀ with mode:=u'}::cs/\settle u'=.returning)->
  body.wpS C.P (bodyPostS C.P fn c₀ cs fun e u' w'=>(∃y,e=.returned y)/\settle u'=.returning/\∃M' bm' tk' σ',R σ'/\Inv M' bm' σ' tk' pr w'/\Later M bm pr w M' bm' w') {tmps:=vs.toArray++Sv (fn.ntmps-vs.toArray.size) undef,defers:=[]} (c₀::cs) w:=by
  rintro y cs2 hrec hy ⟨u',rfl,hset⟩;refine zu (x9 hG hI.len hrec hy ?_ h1 hs hq) (fun e a' cs' w' ⟨hcs,hL⟩=>?_)
  .intro T k rows e;cases x with
   | none=>cases e
   | some v=>have:=hx v rfl;rw[TD]at e;rw[e]at this;cases this
  subst hcs;obtain⟨M',bm',tk',ρ',σ',z,k1,k2,k3,k4⟩:=hL
  have fin:(∃k,σ.length≤k/\ak k (σ'.take k)=true/\R (σ'.take k))->a'.defers=[]/\∃u'',({c₀ with mode:=u'}::cs:List Frame)={c₀ with mode:=u''}::cs/\∃v,(results fn a'.tmps).run C.P w'=.ok v w'/\((∃y,Ending.returned v=.returned y)/\settle u''=.returning/\∃M' bm' tk' σ',R σ'/\Inv M' bm' σ' tk' pr w'/\Later M bm pr w M' bm' w'):=by
   rintro⟨k,g1,g2,g3⟩;have c1:=tC none k3 g2 (.inl rfl);refine⟨k3.defers.trans hds,u',rfl,.tuple #[],?_,⟨_,rfl⟩,hset,M',bm'.take k,_,σ'.take k,g3,c1,k4.drop (by rw[hI.len];exact g1)⟩;rw[qC,hres];simp
  cases k2 with
  | normal=>exact fin k1
  | ret=>exact fin k1
  | exit id=>exact k1.elim
  | panic hp=>exact k1.elim
 cases x with
 | none=>
  simp only at hu;subst hu;exact key .nilIface (c₀::cs) (.inr ⟨by simp[recoverD,hc],rfl,rfl⟩) (.d (.lit _ trivial)) ⟨.returning,by rw[<-hc],rfl⟩
 | some v=>
  simp only at hu;obtain⟨y,rfl,hy⟩:=hu;exact key y ({c₀ with mode:=.panicking [{v:=y,recovered:=true}]}::cs) (.inl (by simp[recoverD,hc])) hy ⟨_,rfl,rfl⟩
def dT(C:Cx)(n0:Nat)(c:CdD)(ρ:ai)(σ:LLV)(Q:bX)(QD:pR)(_:Tag Q)(_:Tag QD):Prop:=Hy C n0 c ρ σ Q QD
theorem i7{ρ:ai}{σ:LLV}{Q:bX}{QD:pR}(a:Cd)(b:CdD)(s:Tag Q)(t:Tag QD):dT C n0 (.seq a b) ρ σ Q QD s t=eI C n0 a ρ σ (andThen (fun ρ' σ'=>dT C n0 b ρ' σ' Q QD .mk .mk) Q) .mk:=rfl
theorem Dn{ρ:ai}{σ:LLV}{Q:bX}{QD:pR}(i:Nat)(g:FuncId)(cap:List X)(rest:Cd)(s:Tag Q)(t:Tag QD):dT C n0 (.dfr i g cap rest) ρ σ Q QD s t=eI C σ.length rest (put ρ i (.fn g (cap.map (ev C ρ)))) σ (QD g (cap.map (ev C ρ))) .mk:=rfl
def rT(C:Cx)(n0:Nat)(x:V)(c:CdR)(ρ:ai)(σ:LLV)(Q:bX)(_:Tag Q):Prop:=Gl C n0 x c ρ σ Q
theorem si{x:V}{ρ:ai}{σ:LLV}{Q:bX}(i:Nat)(l:List O)(keep:List Nat)(t:Tag Q):rT C n0 x (.reg i l keep) ρ σ Q t=be C l (put ρ i x) σ (fun e ρ' σ'=>Q e (aY keep ρ') σ') .mk:=rfl
theorem rW{x:V}{ρ:ai}{σ:LLV}{Q:bX}(a:CdR)(b:Cd)(t:Tag Q):rT C n0 x (.seq a b) ρ σ Q t=rT C n0 x a ρ σ (andThen (fun ρ' σ'=>eI C n0 b ρ' σ' Q .mk) Q) .mk:=rfl
theorem mg{f:FuncId}{fn:Func}{c:CdD}{rs:List RV}{args:List V}{σ:LLV}{Q:Out->LLV->Prop}(hf:C.P.funcs[f]? = some fn)(hok:sN C.tab fn args.length c rs=true)(hno:args.all (! ·.isOwn)=true)
 (h:ak σ.length σ=true->(∀i (h:i<args.length),V.Wf args[i])->dT C σ.length c (eH 0 args) σ (fin σ.length rs Q) (MP C σ.length rs Q) .mk .mk):Fun C f args σ Q:=AP hf hok hno h
theorem eD{g:FuncId}{fn:Func}{c:CdR}{caps:List V}{σ:LLV}{x:Option V}{R:LLV->Prop}(hf:C.P.funcs[g]? = some fn)(hok:sn C.tab fn caps.length c=true)(hno:caps.all (! ·.isOwn)=true)(hx:∀v,x=some v->v.isOwn=false)
 (h:ak σ.length σ=true->rT C σ.length (x.getD (.d (.lit .nilIface))) c (eH 0 caps) σ (NS σ.length R) .mk):eW C g caps σ x R:=Ei hf hok hno hx h
theorem eW.mono{g:FuncId}{caps:List V}{σ:LLV}{x:Option V}{R R':LLV->Prop}(h:eW C g caps σ x R)(hr:∀σ',R σ'->R' σ'):eW C g caps σ x R':=
 ⟨h.1,fun M bm tk pr w vs u hG hI ht hl hrep hu=>(h.2 M bm tk pr w vs u hG hI ht hl hrep hu).mono fun e u' w' ⟨h1,h2,M',bm',tk',σ',h3,h4⟩=>⟨h1,h2,M',bm',tk',σ',hr _ h3,h4⟩⟩
end
end Go.Proofs.YtnhphlmblenapaaGreatDoor
