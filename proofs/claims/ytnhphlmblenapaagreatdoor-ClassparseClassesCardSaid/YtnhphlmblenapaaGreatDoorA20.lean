import Derived.Orders
import Derived.RowKit
import Derived.Recover
import Derived.Test.YtnhphlmblenapaaGreatDoorA13
set_option linter.unusedVariables false
set_option linter.unusedSimpArgs false
set_option linter.unusedSectionVars false
open And renaming intro->TJ
open Array renaming getD_eq_getD_getElem?->TK,getElem?_eq_getElem->TL,replicate->TM,getElem?_toList->TN,getElem?_setIfInBounds_self_of_lt->TO,getElem?_setIfInBounds_ne->TP,all_toList->TQ,getElem?_replicate->TR,toList_setIfInBounds->TS,getElem?_append_left->TT
open Bool renaming and_eq_true->TU,false_eq_true->TV,not_eq_true'->TW,or_eq_true->TX,false_or->TY,and_true->TZ,not_false->T0,not_true->T1,and_false->T3,true_and->T4,false_and->T5,true_or->T6
open Classical renaming byContradiction->T7
open Int renaming toNat_natCast->T8
open List renaming getElem?_eq_getElem->T9,all_eq_true->Ua,map_congr_left->Ub,length_cons->Uc,mem_filter->Ud,getElem_of_mem->Ue,filter_eq_nil_iff->Uf,getElem?_append_left->Ug,range->Uh,getElem?_take_of_lt->Ui,eq_nil_of_length_eq_zero->Uj,mem_range->Uk,getD_eq_getElem?_getD->Ul,getElem?_append_right->Um,mem_append->Un,mem_append_right->Uo,getElem?_eq_none->Uq,take_length->Ur,getElem_mem->Us,take_left->Ut,getElem_cons_succ->Uu,range'->Uv,mem_of_mem_take->Uw,range'_succ->Ux,filter_cons->Uy,cons_append->Uz,length_set->UA,length_nil->UB,mapM_cons->UC
open Nat renaming zero_add->UD,le_refl->UE,strongRecOn->UF,add_zero->UG,zero_le->UH,add_assoc->UI,sub_zero->UJ
open Ne renaming symm->UK
open Option renaming getD_some->UL,isNone_iff_eq_none->UM,map_some->UN,getD_none->UO,bind_some->UP
namespace Go.Proofs.YtnhphlmblenapaaGreatDoor
open Go.RowKit
mutual
def V.under(k:Nat):V->Bool
 | .agg cs=>V.unders k cs
 | .tup cs=>V.unders k cs
 | .fn _ cs=>V.unders k cs
 | .bnd _ cs=>V.unders k cs
 | .ptr i _=>decide (i<k)
 | .bsl i _ _ _=>decide (i<k)
 | .iface _ v=>V.under k v
 | .mp i=>decide (i<k)
 | .bsc i _ _=>decide (i<k)
 | .mapc _ kv=>V.underkv k kv
 | .d _=>true
 | .own _ _ _=>true
 | .nil=>true
 | .row _ _=>true
 | .junk=>true
def V.unders(k:Nat):List V->Bool
 | []=>true
 | x::r=>V.under k x&&V.unders k r
def V.underkv(k:Nat):List (Key×V)->Bool
 | []=>true
 | p::r=>V.underp k p&&V.underkv k r
def V.underp(k:Nat):Key×V->Bool
 | (_,x)=>V.under k x
end
theorem V.unders_get{k:Nat}:∀{cs:List V},V.unders k cs=true->∀i (h:i<cs.length),V.under k cs[i]=true
 | x::r,h,i,hi=>by
  simp only[V.unders,TU]at h;cases i with
  | zero=>exact h.1
  | succ i=>exact V.unders_get h.2 i (by simpa using hi)
theorem V.unders_of{k:Nat}:∀{cs:List V},(∀i (h:i<cs.length),V.under k cs[i]=true)->V.unders k cs=true
 | [],_=>rfl
 | x::r,h=>by
  simp only[V.unders,TU];exact⟨h 0 (by simp),V.unders_of fun i hi=>h (i+1) (by simpa using hi)⟩
theorem Rep.drop{M:av}{bm:List Nat}{k:Nat}{x:V}{v:Value}(h:Rep M bm x v):V.under k x=true->Rep M (bm.take k) x v:=by
 induction h with
 | d h=>exact fun _=>.d h
 | own h=>exact fun _=>.own h
 | nil=>exact fun _=>.nil
 | agg hl h h1 ih=>exact fun hb=>.agg hl (fun i g1 g2=>ih i g1 g2 (V.unders_get (by simpa only[V.under]using hb) i g1)) h1
 | tup hl h ih=>exact fun hb=>.tup hl (fun i g1 g2=>ih i g1 g2 (V.unders_get (by simpa only[V.under]using hb) i g1))
 | ptr h=>exact fun hb=>.ptr (by
  simp only[V.under,decide_eq_true_eq]at hb;rw[Ui hb];exact h)
 | row val hf hd=>exact fun _=>.row val hf hd
 | bsl h hc hm=>exact fun hb=>.bsl (by
  simp only[V.under,decide_eq_true_eq]at hb;rw[Ui hb];exact h) hc hm
 | fn hl h ih=>exact fun hb=>.fn hl (fun i g1 g2=>ih i g1 g2 (V.unders_get (by simpa only[V.under]using hb) i g1))
 | bnd hl h ih=>exact fun hb=>.bnd hl (fun i g1 g2=>ih i g1 g2 (V.unders_get (by simpa only[V.under]using hb) i g1))
 | iface h ih=>exact fun hb=>.iface (ih (by simpa only[V.under]using hb))
 | mp h=>exact fun hb=>.mp (by
  simp only[V.under,decide_eq_true_eq]at hb;rw[Ui hb];exact h)
 | bsc h hc hm=>exact fun hb=>.bsc (by
  simp only[V.under,decide_eq_true_eq]at hb;rw[Ui hb];exact h) hc hm
 | junk v=>exact fun _=>.junk v
theorem Rep.under{M:av}{bm:List Nat}{x:V}{v:Value}(h:Rep M bm x v):V.under bm.length x=true:=by
 induction h with
 | d h=>rfl
 | own h=>rfl
 | nil=>rfl
 | agg hl h h1 ih=>simp only[V.under];exact V.unders_of fun i hi=>ih i hi (by omega)
 | tup hl h ih=>simp only[V.under];exact V.unders_of fun i hi=>ih i hi (by omega)
 | ptr h=>simp only[V.under,decide_eq_true_eq];exact(List.getElem?_eq_some_iff.1 h).1
 | row val hf hd=>rfl
 | bsl h hc hm=>simp only[V.under,decide_eq_true_eq];exact(List.getElem?_eq_some_iff.1 h).1
 | fn hl h ih=>simp only[V.under];exact V.unders_of fun i hi=>ih i hi (by omega)
 | bnd hl h ih=>simp only[V.under];exact V.unders_of fun i hi=>ih i hi (by omega)
 | iface h ih=>simpa only[V.under]using ih
 | mp h=>simp only[V.under,decide_eq_true_eq];exact(List.getElem?_eq_some_iff.1 h).1
 | bsc h hc hm=>simp only[V.under,decide_eq_true_eq];exact(List.getElem?_eq_some_iff.1 h).1
 | junk v=>rfl
theorem MR.drop{M:av}{bm:List Nat}{k:Nat}{st:Bool}{kv:List (Key×V)}{es:List MapEntry}(h:MR M bm st kv es):V.underkv k kv=true->MR M (bm.take k) st kv es:=by
 induction h with
 | nil=>exact fun _=>.nil
 | cons hk hs hx ho _ ih=>
  intro hb;simp only[V.underkv,V.underp,TU]at hb;exact .cons hk hs (hx.drop hb.1) ho (ih hb.2)
theorem MR.under{M:av}{bm:List Nat}{st:Bool}{kv:List (Key×V)}{es:List MapEntry}(h:MR M bm st kv es):V.underkv bm.length kv=true:=by
 induction h with
 | nil=>rfl
 | cons hk hs hx ho _ ih=>simp only[V.underkv,V.underp,TU];exact⟨hx.under,ih⟩
def am(k:Nat)(σ:LLV):Bool:=σ.all fun cs=>V.unders k cs
def an(k:Nat)(ρ:aj):Bool:=ρ.all fun p=>V.under k p.2
section
variable {C : Cx} {M : av} {bm : List Nat} {tk : bA} {pr : Prot} {ρ : aj} {σ : LLV} {n : Nat} {a : Act} {w : World} {K : aj -> LLV -> Prop} {Q : AEx -> aj -> LLV -> Prop}
theorem Inv.drop(h:Inv M bm σ tk pr w){k:Nat}(hb:am k (σ.take k)=true):Inv M (bm.take k) (σ.take k) tk pr w:=by
 refine⟨h.facts,by simp[h.len],fun i b cs hi hc=>?_,fun b hb=>h.free b (Uw hb),h.bmnd.sublist (List.take_sublist _ _),fun i j g hg=>?_,h.inj,h.prlt⟩
 .have hik:i<k:=by have:=(List.getElem?_eq_some_iff.1 hi).1;simp at this;omega
  have hmem:=List.mem_of_getElem? hc;rw[Ui hik]at hi hc;have hbl:V.unders k cs=true:=List.all_eq_true.1 hb cs hmem;rcases h.box i b cs hi hc with⟨vs,T,h1,h2,h3⟩|⟨st,kv,es,clock,rfl,h1,h2,h3⟩|h1;case inr.inr=>exact .inr (.inr h1)
  case inr.inl=>exact .inr (.inl ⟨st,kv,es,clock,rfl,h1,h2,h3.drop (by simpa[V.unders,V.under]using hbl)⟩)
  exact .inl ⟨vs,T,h1,h2,fun j g1 g2=>⟨⟨(h3 j g1 g2).1.rep.drop (V.unders_get hbl j g1),(h3 j g1 g2).1.own⟩,(h3 j g1 g2).2⟩⟩
 .obtain⟨t1,t2,t3⟩:=h.tok i j g hg;exact⟨t1,fun hm=>t2 (Uw hm),t3⟩
theorem Inv.under(h:Inv M bm σ tk pr w):am σ.length σ=true:=by
 rw[am,Ua];intro cs hcs;obtain⟨i,hi,rfl⟩:=Ue hcs;rcases h.box i (bm[i]'(by rw[h.len];exact hi)) σ[i] (T9 _) (T9 _)with⟨vs,T,h1,h2,h3⟩|⟨st,kv,es,clock,e,h1,h2,h3⟩|⟨T,k,e,-⟩
 case inr.inr=>rw[e];simp[tyc,V.unders,V.under]
 case inr.inl=>rw[e];simp only[V.unders,V.under,TZ];rw[<-h.len];exact h3.under
 refine V.unders_of fun j hj=>?_;rw[<-h.len];exact(h3 j hj (by omega)).1.rep.under
theorem Dg{k:Nat}(h:an k ρ=true)(t:Nat):V.under k (get ρ t)=true:=by
 induction ρ with
 | nil=>rfl
 | cons p r ih=>
  obtain⟨s,u⟩:=p;simp only[an,List.all_cons,TU]at h;simp only[get];split
  .exact h.1
  .exact ih h.2
theorem SRel.drop(h:SRel M bm tk pr ρ σ n a w){k:Nat}(h1:am k (σ.take k)=true)(h2:an k ρ=true):SRel M (bm.take k) tk pr ρ (σ.take k) n a w:=
 ⟨h.inv.drop h1,h.defers,h.size,fun t=>⟨(h.slots t).rep.drop (Dg h2 t),(h.slots t).own⟩⟩
theorem Later.drop{M':av}{bm':List Nat}{w':World}(h:Later M bm pr w M' bm' w'){k:Nat}(hk:bm.length≤k):Later M bm pr w M' (bm'.take k) w':=by
 obtain⟨t,ht⟩:=h.pre;exact⟨h.le,⟨t.take (k-bm.length),by rw[ht,List.take_append,List.take_of_length_le hk]⟩,h.keep,h.facts,h.os,h.tape,h.output,h.size⟩
theorem Oper.wp_mono2{P:Program}{o:Oper}{a:Act}{w:World}{K K':Act->World->Prop}{Q Q':Exit->Act->World->Prop}(h1:∀a w,K a w->K' a w)(h2:∀e a w,Q e a w->Q' e a w)(hh:o.wp P a w K Q):o.wp P a w K' Q':=by
 unfold Oper.wp at *;generalize (execOp a.eval o).run P w=r at *;cases r with
 | ok n w'=>
  cases n<;>simp only[Oper.upon]at hh ⊢ <;>
   first
    | exact h1 _ _ hh
    | exact Calls.mono hh (fun e w'' he=>by
     cases e with
     | returned v=>exact h1 _ _ he
     | panicked c=>exact h2 _ _ _ he
     | outgrown=>obtain⟨a,w,hq⟩:=he;exact⟨a,w,h2 _ _ _ hq⟩)
    | exact Rows.mono hh (fun _ _ he=>h1 _ _ he)
    | exact hh
 | halt x w'=>cases x<;>simp only[Oper.upon]at hh ⊢ <;>first|exact h2 _ _ _ hh|exact hh
theorem kQ(h:SRel M bm tk pr ρ σ n a w){ops:Array Oper}{t j:Nat}{b:Bool}(hg:get ρ t=.d (.lit (.bool b)))(hj:(match ops[j]? with|some q=>q.dst==some t|none=>false)=true):yielded ops a.tmps j=some b:=by
 split at hj
 .rename_i q hq;have hq2:q.dst=some t:=by simpa using hj
  have hr:=(h.slots t).rep;rw[hg]at hr;have hv:=hr.bool_inv;unfold yielded;rw[hq];simp only[UP,hq2];cases ht:a.tmps[t]? with
  | none=>
   simp only[TK,ht,UO]at hv;cases hv
  | some v=>
   simp only[TK,ht,UL]at hv;subst hv;rfl
 .cases hj
theorem oX{M:av}{bm:List Nat}:Rep M bm (.tup []) undef:=.tup (vs:=[]) rfl fun i h=>by simp at h
theorem rA(h:SRel M bm tk pr ρ σ n a w){ops:Array Oper}{t j:Nat}(hg:get ρ t=.tup [])(hj:(match ops[j]? with|some q=>q.dst==some t|none=>false)=true):yielded ops a.tmps j=none:=by
 split at hj
 .rename_i q hq;have hq2:q.dst=some t:=by simpa using hj
  have hr:=(h.slots t).rep;rw[hg]at hr;unfold yielded;rw[hq];simp only[UP,hq2];cases ht:a.tmps[t]? with
  | none=>rfl
  | some v=>
   simp only[TK,ht,UL]at hr;cases hr with
   | tup _ _=>rfl
 .cases hj
theorem SRel.know(h:SRel M bm tk pr ρ σ n a w){t:Nat}{b:Bool}(hb:get ρ t=.d (.lit (.bool b))){c:Bool}(hc:b=c):SRel M bm tk pr (put ρ t (.d (.lit (.bool c)))) σ n a w:=
 ⟨h.inv,h.defers,h.size,fun s=>by
   rw[cN];split
   .rename_i e;subst e;subst hc;rw[<-hb];exact h.slots s
   .exact h.slots s⟩
theorem fS{M0:av}{bm0:List Nat}{w0:World}(hG:C.glob M0 pr w0){ops:Array Oper}:∀{l:List O} {l':List Oper} {M:av} {bm:List Nat} {tk:bA} {ρ:aj} {σ:LLV} {a:Act} {w:World},
 iJ C.tab n ops l l'=true->Later M0 bm0 pr w0 M bm w->SRel M bm tk pr ρ σ n a w->cl C l ρ σ Q->wpList C.P ops (bJ M0 bm0 pr w0 n Q) l' a w
 | [],[],M,bm,tk,ρ,σ,a,w,_,hl,h,hq=>⟨M,bm,tk,ρ,σ,_,hq,.normal,h,hl⟩
 | o::r,o'::r',M,bm,tk,ρ,σ,a,w,hok,hl,h,hq=>by
  simp only[iJ,TU]at hok;obtain⟨h1,h2⟩:=hok;have hG':=hG.mono hl
  have step:∀{ρ:aj},SRel M bm tk pr ρ σ n a w->cU C o.op o.dst ρ σ (fun ρ' σ'=>cl C r ρ' σ' Q) Q->o'.wp C.P a w (wpList C.P ops (bJ M0 bm0 pr w0 n Q) r') (bJ M0 bm0 pr w0 n Q):=fun h hr=>by
   refine Oper.wp_mono2 (fun a' w' hL=>?_) (fun e a' w' hL=>hL.trans hl) (em hG' h h1 hr);obtain⟨M',bm',tk',ρ',σ',k1,k2,k3⟩:=hL;exact fS hG h2 (hl.trans k3 (fun _ h=>h)) k2 k1
  have hgd:∀g,o.g=g->(match g,o'.guard with
   | none,none=>true
   | some (t,b),some (j,b')=>b==b'&&(match ops[j]? with|some q=>q.dst==some t|none=>false)
   | _,_=>false)=true:=fun g hg=>by
   subst hg;unfold okO at h1;simp only[TU]at h1;exact h1.2
  have hdst:o.dst=o'.dst:=by
   unfold okO at h1;simp only[TU,beq_iff_eq]at h1;exact h1.1.1.2
  have hdn:∀d,o'.dst=some d->d<n:=by
   unfold okO at h1;simp only[TU]at h1;intro d hd;have:=h1.1.2;rw[hd]at this;simpa using this
  unfold wpList;simp only[cl]at hq;split at hq
  .rename_i hg;have:=hgd none hg;split at this
   .rename_i hg2;rw[if_pos (by simp[Region.wanted,hg2])];exact .inl (step h hq)
   .rename_i e _;cases e
   .cases this
  .rename_i t want hg;have:=hgd _ hg;split at this
   .rename_i e _;cases e
   .rename_i t' b' j b'' e hg2;cases e;simp only[TU,beq_iff_eq]at this;obtain⟨rfl,hj⟩:=this;split at hq
    .rename_i b hb;have hy:=kQ h hb hj;by_cases hbw:b=want
     .rw[if_pos (by simp[Region.wanted,hg2,hy,hbw])];exact .inl (step (h.know hb hbw) (hq.1 hbw))
     .rw[if_neg (by simp[Region.wanted,hg2,hy,hbw])];have:=hq.2 hbw;rw[hdst]at this;exact fS hG h2 hl ((h.know hb (c:=!want) (by cases b<;>cases want<;>simp_all)).putd hdn oX (by simp)) this
    .rename_i hb;have hy:=rA h hb hj;rw[if_neg (by simp[Region.wanted,hg2,hy])];rw[hdst]at hq;exact fS hG h2 hl (h.putd hdn oX (by simp)) hq
    .exact hq.elim
   .cases this
 | [],_::_,_,_,_,_,_,_,_,hok,_,_,_=>by cases hok
 | _::_,[],_,_,_,_,_,_,_,hok,_,_,_=>by cases hok
end
end Go.Proofs.YtnhphlmblenapaaGreatDoor
namespace Go.Proofs.YtnhphlmblenapaaGreatDoor
open Go.RowKit
def X.slots:X->List Nat
 | .t n=>[n]
 | _=>[]
def OP.slots:OP->List Nat
 | .mv x | .un _ x | .conv _ x | .cbs x | .nilck x | .fa _ x | .fld _ _ _ x | .len _ x | .ext x _ | .load _ _ x | .mki _ x | .tas _ _ x=>x.slots
 | .pick c a b=>c.slots++(a.slots++b.slots)
 | .mlk _ _ _ x k=>x.slots++k.slots
 | .nif _ x=>x.slots
 | .eqa _ _ _ x y=>x.slots++y.slots
 | .bin _ x y | .ia _ x y | .ix x y | .mx _ x y=>x.slots++y.slots
 | .bld _ ps=>ps.flatMap fun p=>p.2.2.slots
 | .sub _ _ x lo hi=>x.slots++(lo.toList++hi.toList).flatMap X.slots
 | .mkfn _ cap=>cap.flatMap X.slots
 | .mkbd _ first=>first.flatMap X.slots
 | .mks _ _ xs=>xs.flatMap X.slots
 | .call _ args=>args.flatMap X.slots
 | .callv x args=>x.slots++args.flatMap X.slots
 | .calln _ args=>args.flatMap X.slots
 | _=>[]
def bK(C:Cx)(op:OP)(ρ:aj)(σ:LLV)(k:V->Prop):Prop:=
 match op with
 | .call f args=>∃v,Fun C f (args.map fun x=>(ev C ρ x).lend) σ (fun o σ'=>o=.ret v/\σ'=σ)/\k v
 | .callv x args=>match ev C ρ x with
  | .fn f cap=>∃v,Fun C f ((args.map fun x=>(ev C ρ x).lend)++cap) σ (fun o σ'=>o=.ret v/\σ'=σ)/\k v
  | _=>False
 | .mks _ kk xs=>match dw (xs.map (ev C ρ))with
  | some rows=>rows.all (fun r=>r.length==kk)=true/\k (.d (.sl rows))
  | none=>False
 | .calln f args=>∃v,Fun C f (args.map fun x=>(ev C ρ x).copy) σ (fun o σ'=>o=.ret v/\σ'=σ)/\k v
 | op=>match cy op,pv C op ρ σ with
  | true,some v=>k v
  | _,_=>False
def aZ(C:Cx):List O->aj->LLV->(aj->Prop)->Prop
 | [],ρ,_,K=>K ρ
 | o::r,ρ,σ,K=>match o.g with
  | none=>bK C o.op ρ σ fun v=>aZ C r (putd ρ o.dst v) σ K
  | some (t,want)=>match get ρ t with
   | .d (.lit (.bool b))=>(b=want->bK C o.op (put ρ t (.d (.lit (.bool want)))) σ fun v=>aZ C r (putd (put ρ t (.d (.lit (.bool want)))) o.dst v) σ K)/\(b≠want->aZ C r (putd (put ρ t (.d (.lit (.bool (!want))))) o.dst (.tup [])) σ K)
   | .tup []=>aZ C r (putd ρ o.dst (.tup [])) σ K
   | _=>False
def bY:List (Option Nat×V×Bool)->aj->aj
 | [],ρ=>ρ
 | (d,x,b)::r,ρ=>bY r (if b then putd ρ d x else ρ)
theorem ed(ρ:aj)(d:Option Nat)(x:V)(t:Nat):get (putd ρ d x) t=if d=some t then x else get ρ t:=by
 cases d with
 | none=>simp[putd]
 | some d=>simp only[putd,cN,Option.some.injEq];split<;>split<;>first|rfl|omega
theorem lF:∀(l:List (Option Nat×V×Bool)) (ρ ρ':aj) (t:Nat),get ρ t=get ρ' t->get (bY l ρ) t=get (bY l ρ') t
 | [],_,_,_,h=>h
 | (d,x,b)::r,ρ,ρ',t,h=>by
  simp only[bY];apply lF r;cases b
  .exact h
  .simp only[if_true,ed];split
   .rfl
   .exact h
theorem fx:∀(l l':List (Option Nat×V×Bool)) (ρ:aj) (t:Nat),l.length=l'.length->(∀i (h:i<l.length) (h':i<l'.length),l[i].1=l'[i].1/\l[i].2.1=l'[i].2.1/\(l[i].1=some t->l[i].2.2=l'[i].2.2))->get (bY l ρ) t=get (bY l' ρ) t
 | [],[],_,_,_,_=>rfl
 | (d,x,b)::r,(d',x',b')::r',ρ,t,hl,h=>by
  simp only[bY];obtain⟨h1,h2,h3⟩:=h 0 (by simp) (by simp);simp only[List.getElem_cons_zero]at h1 h2 h3;subst h1;subst h2;have hr:=fun ρ=>fx r r' ρ t (by simpa using hl) (fun i g1 g2=>h (i+1) (by simpa using g1) (by simpa using g2));by_cases e:d=some t
  .rw[h3 e];exact hr _
  .rw[<-hr];apply lF;cases b<;>cases b'<;>simp[ed,e]
 | [],_::_,_,_,hl,_=>by simp at hl
 | _::_,[],_,_,hl,_=>by simp at hl
theorem iv:∀(l:List (Option Nat×V×Bool)) (ρ:aj) (t:Nat),(∀p∈l,p.1=some t->p.2.2=false)->get (bY l ρ) t=get ρ t
 | [],_,_,_=>rfl
 | (d,x,b)::r,ρ,t,h=>by
  simp only[bY];rw[iv r _ t (fun p hp=>h p (by simp[hp]))];cases b
  .rfl
  .simp only[if_true,ed];split
   .rename_i e;have:=h (d,x,true) (by simp) e;cases this
   .rfl
theorem js:∀(l l':List (Option Nat×V×Bool)) (ρ:aj),bY (l++l') ρ=bY l' (bY l ρ)
 | [],_,_=>rfl
 | (d,x,b)::r,l',ρ=>by simp only[Uz,bY];exact js r l' _
theorem qo(l:List (Option Nat×V×Bool))(ρ:aj)(i:Nat)(h:i<l.length)(t:Nat)(hd:l[i].1=some t)(hb:l[i].2.2=true)(hn:∀j (hj:j<l.length),i<j->l[j].1=some t->l[j].2.2=false):get (bY l ρ) t=l[i].2.1:=by
 have e:bY l ρ=bY (l.take i++(l[i]::l.drop (i+1))) ρ:=by rw[List.getElem_cons_drop,List.take_append_drop]
 rw[e,js];generalize bY (l.take i) ρ=ρ1;generalize hli:l[i]=p at hd hb;obtain⟨d,x,b⟩:=p;simp only at hd hb;subst hd;subst hb;simp only[bY,if_true];rw[iv]
 .simp[ed]
 .intro p hp hpt;obtain⟨j,hj,rfl⟩:=Ue hp;simp only[List.getElem_drop]at hpt ⊢;exact hn (i+1+j) (by simp at hj;omega) (by omega) hpt
def O.looks(o:O):List Nat:=o.op.slots++(match o.g with|some (t,_)=>[t]|none=>[])
def aW(o:Oper):List Nat:=(o.after.toList.filter fun e=>Region.binds .any e).map (·.on)
def bS:List Oper->List (List Nat)->List (List Nat)
 | [],acc=>acc
 | o::r,acc=>bS r (acc++[aW o++(aW o).flatMap fun j=>acc.getD j []])
def rK(l:List O)(os:List Oper):Bool:=
 let bf:=bS os []
 (Uh os.length).all fun i=>
   (match os[i]? with|some o=>(aW o).all fun j=>decide (j<i)|none=>true) &&
   (match l[i]? with
   | some o=>(o.looks++o.dst.toList).all fun t=>(Uh l.length).all fun j=>j==i||(match l[j]? with
    | some p=>p.dst != some t||(if j<i then(bf.getD i []).contains j else(bf.getD j []).contains i)
    | none=>true)
   | none=>true)
def bH:List O->List V->Nat->(Nat->Bool)->List (Option Nat×V×Bool)
 | o::l,x::xs,k,S=>(o.dst,x,S k)::bH l xs (k+1) S
 | _,_,_,_=>[]
theorem lW:∀(l:List O) (xs:List V) (k:Nat) (S:Nat->Bool),xs.length=l.length->(bH l xs k S).length=l.length
 | [],[],_,_,_=>rfl
 | o::l,x::xs,k,S,h=>by simp only[bH,Uc];rw[lW l xs (k+1) S (by simpa using h)]
 | [],_::_,_,_,h=>by simp at h
 | _::_,[],_,_,h=>by simp at h
theorem lT:∀(l:List O) (xs:List V) (k:Nat) (S:Nat->Bool) (i:Nat) (h:i<(bH l xs k S).length) (h1:i<l.length) (h2:i<xs.length),(bH l xs k S)[i]=(l[i].dst,xs[i],S (k+i))
 | o::l,x::xs,k,S,0,h,h1,h2=>rfl
 | o::l,x::xs,k,S,i+1,h,h1,h2=>by
  have:=lT l xs (k+1) S i (by simpa[bH]using h) (by simpa using h1) (by simpa using h2);simp only[bH,Uu];rw[this,show k+1+i=k+(i+1)by omega]
def Loc(C:Cx)(o:O)(ρ:aj)(σ:LLV)(x:V):Prop:=
 match o.g with
 | none=>bK C o.op ρ σ fun v=>v=x
 | some (t,want)=>match get ρ t with
  | .d (.lit (.bool b))=>(b=want->bK C o.op ρ σ fun v=>v=x)/\(b≠want->x=.tup [])
  | .tup []=>x=.tup []
  | _=>False
section
variable {C : Cx} {pr : Prot} {σ : LLV} {n : Nat} {Q : AEx -> aj -> LLV -> Prop}
theorem iV{op:OP}{ρ:aj}{k:V->Prop}(h:bK C op ρ σ k):∃v,bK C op ρ σ (fun u=>u=v)/\k v:=by
 unfold bK at h;split at h
 .obtain⟨v,h1,h2⟩:=h;exact⟨v,by simp only[bK];exact⟨v,h1,rfl⟩,h2⟩
 .rename_i x args;split at h
  .rename_i f cap e;obtain⟨v,h1,h2⟩:=h;exact⟨v,by simp only[bK,e];exact⟨v,h1,rfl⟩,h2⟩
  .exact h.elim
 .split at h
  .rename_i rows e;obtain⟨h1,h2⟩:=h;exact⟨_,by simp only[bK,e];exact⟨h1,trivial⟩,h2⟩
  .exact h.elim
 .obtain⟨v,h1,h2⟩:=h;exact⟨v,by simp only[bK];exact⟨v,h1,rfl⟩,h2⟩
 .rename_i n1 n2 n3 n4;split at h
  .rename_i v hp e;refine⟨v,?_,h⟩;unfold bK;split
   .exact absurd rfl (n1 _ _)
   .exact absurd rfl (n2 _ _)
   .exact absurd rfl (n3 _ _ _)
   .exact absurd rfl (n4 _ _)
   .rw[hp,e]
  .exact h.elim
theorem ch{ρ ρ':aj}{x:X}(h:∀t∈x.slots,get ρ t=get ρ' t):ev C ρ x=ev C ρ' x:=by
 cases x with
 | t n=>exact h n (by simp[X.slots])
 | k v=>rfl
 | g n=>rfl
theorem ju{ρ ρ':aj}{xs:List X}(h:∀t∈xs.flatMap X.slots,get ρ t=get ρ' t):xs.map (ev C ρ)=xs.map (ev C ρ'):=
 Ub fun x hx=>ch fun t ht=>h t (List.mem_flatMap.2 ⟨x,hx,ht⟩)
theorem tz{ρ ρ':aj}:∀{ps:List (Nat×Nat×X)} {cs:List V},(∀t∈ps.flatMap (fun p=>p.2.2.slots),get ρ t=get ρ' t)->ni (ev C ρ) cs ps=ni (ev C ρ') cs ps
 | [],cs,_=>rfl
 | (off,k,x)::ps,cs,h=>by
  have e:ev C ρ x=ev C ρ' x:=ch fun t ht=>h t (by simp[ht]);simp only[ni,e];have:=fun cs=>tz (ps:=ps) (cs:=cs) (fun t ht=>h t (by simp only[List.flatMap_cons,Un];exact .inr ht));split
  .split<;>first|rfl|exact this _
  .rfl
theorem D0{ρ ρ':aj}{op:OP}(h:∀t∈op.slots,get ρ t=get ρ' t):pv C op ρ σ=pv C op ρ' σ:=by
 have two:∀{x y:X},(∀t∈x.slots++y.slots,get ρ t=get ρ' t)->ev C ρ x=ev C ρ' x/\ev C ρ y=ev C ρ' y:=fun h=>
  ⟨ch fun t ht=>h t (by simp[ht]),ch fun t ht=>h t (by simp[ht])⟩
 cases op<;>simp only[OP.slots]at h<;>simp only[pv]
 case pick c a b=>
  have e1:ev C ρ c=ev C ρ' c:=ch fun t ht=>h t (by simp[ht]);have e2:ev C ρ a=ev C ρ' a:=ch fun t ht=>h t (by simp[ht]);have e3:ev C ρ b=ev C ρ' b:=ch fun t ht=>h t (by simp[ht]);rw[e1,e2,e3]
 case bin o x y=>rw[(two h).1,(two h).2]
 case ia k x y=>rw[(two h).1,(two h).2]
 case ix x y=>rw[(two h).1,(two h).2]
 case mx g x y=>rw[(two h).1,(two h).2]
 case mlk st ok z x y=>rw[(two h).1,(two h).2]
 case bld zs ps=>rw[tz h]
 case mkfn f cap=>rw[ju h]
 case mkbd f first=>rw[ju h]
 case sub s k x lo hi=>
  have e1:ev C ρ x=ev C ρ' x:=ch fun t ht=>h t (by simp[ht])
  have e2:lo.map (ev C ρ)=lo.map (ev C ρ'):=by
   cases lo with
   | none=>rfl
   | some y=>simp only[UN];rw[ch fun t ht=>h t (by simp[ht])]
  have e3:hi.map (ev C ρ)=hi.map (ev C ρ'):=by
   cases hi with
   | none=>rfl
   | some y=>simp only[UN];rw[ch fun t ht=>h t (by simp[ht])]
  rw[e1,e2,e3]
 case eqa neq T ks x y=>
  have e1:ev C ρ x=ev C ρ' x:=ch fun t ht=>h t (by simp[ht]);have e2:ev C ρ y=ev C ρ' y:=ch fun t ht=>h t (by simp[ht]);rw[e1,e2]
 all_goals first
  | rfl
  | rw[ch h]
theorem kG{ρ ρ':aj}{op:OP}{k:V->Prop}(h:∀t∈op.slots,get ρ t=get ρ' t)(hc:bK C op ρ σ k):bK C op ρ' σ k:=by
 unfold bK at hc;split at hc
 .rename_i f args;have e:(args.map fun x=>(ev C ρ x).lend)=args.map fun x=>(ev C ρ' x).lend:=Ub fun x hx=>by rw[ch fun t ht=>h t (List.mem_flatMap.2 ⟨x,hx,ht⟩)]
  rw[e]at hc;exact hc
 .rename_i x args;simp only[OP.slots]at h;have e:(args.map fun x=>(ev C ρ x).lend)=args.map fun x=>(ev C ρ' x).lend:=Ub fun x hx=>by rw[ch fun t ht=>h t (Uo _ (List.mem_flatMap.2 ⟨x,hx,ht⟩))]
  have e2:ev C ρ x=ev C ρ' x:=ch fun t ht=>h t (by simp[ht]);rw[e,e2]at hc;exact hc
 .rename_i T kk xs;rw[ju (C:=C) h]at hc;exact hc
 .rename_i f args;have e:(args.map fun x=>(ev C ρ x).copy)=args.map fun x=>(ev C ρ' x).copy:=Ub fun x hx=>by rw[ch fun t ht=>h t (List.mem_flatMap.2 ⟨x,hx,ht⟩)]
  rw[e]at hc;exact hc
 .rename_i n1 n2 n3 n4;rw[D0 h]at hc;unfold bK;split
  .exact absurd rfl (n1 _ _)
  .exact absurd rfl (n2 _ _)
  .exact absurd rfl (n3 _ _ _)
  .exact absurd rfl (n4 _ _)
  .exact hc
theorem Loc.congr{ρ ρ':aj}{o:O}{x:V}(h:∀t∈o.looks,get ρ t=get ρ' t)(hc:Loc C o ρ σ x):Loc C o ρ' σ x:=by
 unfold O.looks at h;unfold Loc at hc ⊢;split at hc
 .rename_i hg;rw[hg]at h;exact kG (fun t ht=>h t (by simp[ht])) hc
 .rename_i t want hg;rw[hg]at h;have e:get ρ t=get ρ' t:=h t (by simp);rw[e]at hc;split at hc
  .rename_i b hb;exact⟨fun hw=>kG (fun t ht=>h t (by simp[ht])) (hc.1 hw),hc.2⟩
  .exact hc
  .exact hc.elim
theorem p8:∀{l:List O} {ρ:aj} {k:Nat} {K:aj->Prop},aZ C l ρ σ K->
 ∃xs:List V,xs.length=l.length/\(∃ρ',K ρ'/\∀t,get ρ' t=get (bY (bH l xs k fun _=>true) ρ) t)/\
  ∀i (h:i<l.length) (h':i<xs.length),∃ρi,Loc C l[i] ρi σ xs[i]/\∀t,get ρi t=get (bY (bH l xs k fun j=>decide (j<k+i)) ρ) t
 | [],ρ,k,K,h=>⟨[],rfl,⟨ρ,h,fun _=>rfl⟩,fun i h=>by simp at h⟩
 | o::r,ρ,k,K,h=>by
  have key:∀x ρ2,(∀t,get ρ2 t=get ρ t)->Loc C o ρ σ x->aZ C r (putd ρ2 o.dst x) σ K->∃xs:List V,xs.length=(o::r).length/\(∃ρ',K ρ'/\∀t,get ρ' t=get (bY (bH (o::r) xs k fun _=>true) ρ) t)/\
   ∀i (h:i<(o::r).length) (h':i<xs.length),∃ρi,Loc C (o::r)[i] ρi σ xs[i]/\∀t,get ρi t=get (bY (bH (o::r) xs k fun j=>decide (j<k+i)) ρ) t:=by
   intro x ρ2 h2e hx hr;obtain⟨xs,h1,⟨ρ',h2,h3⟩,h4⟩:=p8 (k:=k+1) hr;have hput:∀t,get (putd ρ2 o.dst x) t=get (putd ρ o.dst x) t:=fun t=>by rw[ed,ed,h2e]
   refine⟨x::xs,by simp[h1],⟨ρ',h2,fun t=>?_⟩,fun i hi hi'=>?_⟩
   .simp only[bH,bY,if_true];rw[h3 t];exact lF _ _ _ _ (hput t)
   .cases i with
    | zero=>
     refine⟨ρ,hx,fun t=>?_⟩;rw[iv];intro p hp _;obtain⟨j,hj,rfl⟩:=Ue hp;have hl:=lW (o::r) (x::xs) k (fun j=>decide (j<k+0)) (by simp[h1]);rw[hl]at hj;rw[lT _ _ _ _ _ (by rw[hl];exact hj) hj (by simp[h1];simpa using hj)];simp
    | succ i=>
     obtain⟨ρi,g1,g2⟩:=h4 i (by simpa using hi) (by simpa using hi');refine⟨ρi,g1,fun t=>?_⟩;simp only[bH,bY];rw[if_pos (by simp),g2 t,show k+1+i=k+(i+1)by omega];exact lF _ _ _ _ (hput t)
  have know:∀{t:Nat} {b c:Bool},get ρ t=.d (.lit (.bool b))->b=c->∀s,get (put ρ t (.d (.lit (.bool c)))) s=get ρ s:=fun hb hc s=>by
   rw[cN];split
   .rename_i e;subst e;subst hc;exact hb.symm
   .rfl
  simp only[aZ]at h;split at h
  .rename_i hg;obtain⟨v,h1,h2⟩:=iV h;exact key v ρ (fun _=>rfl) (by unfold Loc;rw[hg];exact h1) h2
  .rename_i t want hg;split at h
   .rename_i b hb;by_cases e:b=want
    .obtain⟨v,h1,h2⟩:=iV (h.1 e);exact key v _ (know hb e) (by unfold Loc;rw[hg];simp only;rw[hb];exact⟨fun _=>kG (fun s _=>know hb e s) h1,fun ne=>absurd e ne⟩) h2
    .exact key (.tup []) _ (know hb (c:=!want) (by cases b<;>cases want<;>simp_all)) (by unfold Loc;rw[hg];simp only;rw[hb];exact⟨(fun ee=>absurd ee e),(fun _=>by trivial)⟩) (h.2 e)
   .rename_i hb;exact key (.tup []) ρ (fun _=>rfl) (by unfold Loc;rw[hg];simp only;rw[hb];trivial) h
   .exact h.elim
end
end Go.Proofs.YtnhphlmblenapaaGreatDoor
namespace Go.Proofs.YtnhphlmblenapaaGreatDoor
open Go.RowKit
theorem pj:∀(os:List Oper) (acc:List (List Nat)),(bS os acc).length=acc.length+os.length/\∀i,i<acc.length->(bS os acc)[i]? = acc[i]?
 | [],acc=>⟨rfl,fun _ _=>rfl⟩
 | o::r,acc=>by
  obtain⟨h1,h2⟩:=pj r (acc++[aW o++(aW o).flatMap fun j=>acc.getD j []]);simp only[bS];refine⟨by rw[h1];simp;omega,fun i hi=>?_⟩;rw[h2 i (by simp;omega),Ug hi]
theorem xI(os:List Oper):∀(acc:List (List Nat)) (i:Nat) (o:Oper),os[i]? = some o->∃pre:List (List Nat),(bS os acc)[acc.length+i]? = some (aW o++(aW o).flatMap fun j=>pre.getD j [])/\∀j,j<acc.length+i->pre[j]? = (bS os acc)[j]? := by
 induction os with
 | nil=>intro acc i o h;simp at h
 | cons o' r ih=>
  intro acc i o h;simp only[bS];cases i with
  | zero=>
   simp at h;subst h;obtain⟨h1,h2⟩:=pj r (acc++[aW o'++(aW o').flatMap fun j=>acc.getD j []]);refine⟨acc,?_,fun j hj=>?_⟩
   .rw[h2 _ (by simp)];rw[Um (by simp)];simp
   .rw[h2 j (by simp;omega),Ug (by omega)]
  | succ i=>
   obtain⟨pre,h1,h2⟩:=ih (acc++[aW o'++(aW o').flatMap fun j=>acc.getD j []]) i o (by simpa using h);rw[List.length_append,List.length_singleton]at h1 h2;rw[show acc.length+(i+1)=acc.length+1+i by omega];exact⟨pre,h1,h2⟩
theorem dW{os:List Oper}(hlt:∀(i:Nat) (o:Oper),os[i]? = some o->∀j∈aW o,j<i){S:Nat->Prop}(hcl:∀(i:Nat) (o:Oper),os[i]? = some o->S i->∀j∈aW o,S j):
 ∀(i:Nat) (o:Oper),os[i]? = some o->(∀j∈aW o,S j)->∀j∈(bS os []).getD i [],S j:=by
 intro i
 induction i using UF with
 | _ i ih=>
 intro o ho he j hj;obtain⟨pre,h1,h2⟩:=xI os [] i o ho;simp only[UB,UD]at h1 h2;rw[Ul,h1,UL]at hj;rcases List.mem_append.1 hj with hj|hj
 .exact he j hj
 .obtain⟨e,g1,g2⟩:=List.mem_flatMap.1 hj;have hei:=hlt i o ho e g1;rw[Ul,h2 e hei,<-Ul]at g2;have hlen:e<os.length:=by have:=(List.getElem?_eq_some_iff.1 ho).1;omega
  exact ih e hei os[e] (T9 hlen) (hcl e _ (T9 hlen) (he e g1)) j g2
theorem uU{l:List O}{os:List Oper}(hl:l.length=os.length)(h:rK l os=true):
 (∀(i:Nat) (o:Oper),os[i]? = some o->∀j∈aW o,j<i)/\
 ∀(i:Nat) (o:O),l[i]? = some o->∀t∈o.looks++o.dst.toList,∀(j:Nat) (p:O),l[j]? = some p->p.dst=some t->j≠i->(j<i/\j∈(bS os []).getD i [])\/(i<j/\i∈(bS os []).getD j []):=by
 unfold rK at h;simp only[Ua,Uk,TU]at h;refine⟨fun i o ho j hj=>?_,fun i o ho t ht j p hp hd hne=>?_⟩
 .have:=(h i (List.getElem?_eq_some_iff.1 ho).1).1;rw[ho]at this;simpa using List.all_eq_true.1 this j hj
 .have h1:=(h i (by rw[<-hl];exact(List.getElem?_eq_some_iff.1 ho).1)).2;rw[ho]at h1;simp only[Ua,Uk]at h1;have h2:=h1 t ht j (List.getElem?_eq_some_iff.1 hp).1;rw[hp]at h2;simp only[hd,TX,beq_iff_eq,bne_self_eq_false,TV,false_or]at h2;rcases h2 with h2|h2
  .exact absurd h2 hne
  .split at h2
   .exact .inl ⟨by assumption,by simpa using h2⟩
   .exact .inr ⟨by omega,by simpa using h2⟩
theorem jl{tab:Tab}{n:Nat}{ops:Array Oper}:∀{l:List O} {os:List Oper},iJ tab n ops l os=true->l.length=os.length/\∀(i:Nat) (o:O) (o':Oper),l[i]? = some o->os[i]? = some o'->okO tab n ops o o'=true
 | [],[],_=>⟨rfl,fun i o o' h=>by simp at h⟩
 | o::l,o'::os,h=>by
  simp only[iJ,TU]at h;obtain⟨h1,h2⟩:=jl h.2;refine⟨by simp[h1],fun i p p' hp hp'=>?_⟩;cases i with
  | zero=>simp at hp hp';subst hp;subst hp';exact h.1
  | succ i=>exact h2 i p p' (by simpa using hp) (by simpa using hp')
 | [],_::_,h=>by cases h
 | _::_,[],h=>by cases h
section
variable {C : Cx} {pr : Prot} {ρ : aj} {σ : LLV} {n : Nat} {Q : AEx -> aj -> LLV -> Prop}
theorem SRel.congr{M:av}{bm:List Nat}{tk:bA}{ρ ρ':aj}{a:Act}{w:World}(h:SRel M bm tk pr ρ σ n a w)(he:∀t,get ρ' t=get ρ t):SRel M bm tk pr ρ' σ n a w:=
 ⟨h.inv,h.defers,h.size,fun t=>by rw[he];exact h.slots t⟩
theorem xd{op:OP}{ρ:aj}{x:V}{dst:Option Nat}(h:bK C op ρ σ fun v=>v=x):cU C op dst ρ σ (fun ρ' σ'=>ρ'=putd ρ dst x/\σ'=σ) (fun _ _ _=>False):=by
 unfold bK at h;split at h
 .obtain⟨v,h1,rfl⟩:=h;exact h1.mono fun o σ' ⟨e1,e2⟩=>by subst e1;exact⟨rfl,e2⟩
 .split at h
  .rename_i f cap e;obtain⟨v,h1,rfl⟩:=h;simp only[cU,e];exact h1.mono fun o σ' ⟨e1,e2⟩=>by subst e1;exact⟨rfl,e2⟩
  .exact h.elim
 .split at h
  .rename_i rows e;obtain⟨h1,rfl⟩:=h;simp only[cU,e];exact⟨h1,trivial,trivial⟩
  .exact h.elim
 .obtain⟨v,h1,rfl⟩:=h;exact h1.mono fun o σ' ⟨e1,e2⟩=>by subst e1;exact⟨rfl,e2⟩
 .split at h
  .rename_i v hp e;subst h;cases op<;>simp only[cy]at hp<;>first|(cases hp;done)|skip
   all_goals
    unfold cU;simp only;rw[e];constructor<;>trivial
  .exact h.elim
theorem lV:∀(l:List Bool) (i:Nat),l[i]? = some false->((l.set i true).filter (! ·)).length+1=(l.filter (! ·)).length
 | b::l,0,h=>by simp at h;subst h;simp
 | b::l,i+1,h=>by
  have:=lV l i (by simpa using h);cases b<;>simp only[List.set_cons_succ,Uy]<;>simp<;>omega
theorem zd{M0:av}{bm0:List Nat}{w0:World}(hG:C.glob M0 pr w0){id:Nat}{ops:Array Oper}{l:List O}{M:av}{bm:List Nat}{tk:bA}{a:Act}{w:World}(hok:iJ C.tab n ops l ops.toList=true)(hdr:rK l ops.toList=true)
 (hl:Later M0 bm0 pr w0 M bm w)(h:SRel M bm tk pr ρ σ n a w)(hq:aZ C l ρ σ fun ρ'=>Q .normal ρ' σ):(Code.region id ops true).wp C.P (bJ M0 bm0 pr w0 n Q) a w:=by
 obtain⟨hlen,hget⟩:=jl hok;obtain⟨hlt,hcmp⟩:=uU hlen hdr;obtain⟨xs,hxl,⟨ρf,hρf,hρe⟩,hloc⟩:=p8 (k:=0) hq;have hnl:l.length=ops.size:=by rw[hlen];simp
 refine wp_region_any C.mixed ?_;have hsteps:∀S:Nat->Bool,(bH l xs 0 S).length=l.length:=fun S=>lW l xs 0 S hxl
 have hsg:∀(S:Nat->Bool) (i:Nat) (hi:i<(bH l xs 0 S).length) (h1:i<l.length),(bH l xs 0 S)[i]=(l[i].dst,xs[i]'(by omega),S i):=fun S i hi h1=>by
  have:=lT l xs 0 S i hi h1 (by omega);simpa using this
 suffices H:∀(fuel:Nat) (listed:Array Bool) (M:av) (tk:bA) (a:Act) (w:World),Later M0 bm0 pr w0 M bm w->SRel M bm tk pr (bY (bH l xs 0 fun i=>listed.getD i false) ρ) σ n a w->listed.size=l.length->
  (∀(i:Nat) (o:Oper),ops.toList[i]? = some o->listed.getD i false=true->∀j∈aW o,listed.getD j false=true)->(listed.toList.filter (! ·)).length=fuel->wpAny C.P .any ops (bJ M0 bm0 pr w0 n Q) fuel listed a w by
  obtain⟨h1,h2⟩:=h.ext (dJ.drew w);refine H ops.size (TM ops.size false) M tk a w.drew (hl.trans h2 (fun _ h=>h)) (h1.congr fun t=>?_) (by simp[hnl]) (fun i o ho hi=>?_) (by simp)
  .rw[iv];intro p hp _;obtain⟨j,hj,rfl⟩:=Ue hp;rw[hsteps]at hj;rw[hsg _ j (by rw[hsteps];exact hj) hj];simp[TK,TR];split<;>rfl
  .simp[TK,TR]at hi;split at hi<;>cases hi
 intro fuel
 induction fuel with
 | zero=>
  intro listed M tk a w hl h hsz hcl hcnt
  have hall:∀i,i<l.length->listed.getD i false=true:=fun i hi=>by
   have hb:listed[i]? = some (listed[i]'(by omega)):=TL _;rw[TK,hb,UL];have hne:listed.toList.filter (! ·)=[]:=Uj hcnt;have:=List.filter_eq_nil_iff.1 hne (listed[i]'(by omega)) (by simp);simpa using this
  refine⟨?_,M,bm,tk,ρf,σ,.normal,hρf,.normal,h.congr (fun t=>?_),hl⟩
  .unfold Region.ready;rw[Uf];intro i hi;have hi':i<l.length:=by rw[hnl];simpa using hi
   have h9:=hall i hi'
   have:listed.getD i true=true:=by
    have hb:listed[i]? = some (listed[i]'(by omega)):=TL _;rw[TK,hb,UL]at h9 ⊢;exact h9
   simp[this]
  .rw[hρe t];refine fx _ _ ρ t (by rw[hsteps,hsteps]) (fun i g1 g2=>?_);rw[hsteps]at g1;rw[hsg _ i (by rw[hsteps];exact g1) g1,hsg _ i (by rw[hsteps];exact g1) g1];exact⟨rfl,rfl,fun _=>(hall i g1).symm⟩
 | succ fuel ih=>
  intro listed M tk a w hl h hsz hcl hcnt;refine⟨fun hnil=>?_,fun i hi=>?_⟩
  .exfalso
   have hex:∃i,i<l.length/\listed.getD i false=false:=by
    apply T7;intro hno
    have hne:listed.toList.filter (! ·)=[]:=by
     rw[Uf];intro b hb;obtain⟨i,hi,rfl⟩:=Ue hb;have hi':i<listed.size:=by simpa using hi
     have h9:¬listed.getD i false=false:=fun e=>hno ⟨i,by omega,e⟩;have hb:listed[i]? = some listed[i]:=TL hi';rw[TK,hb,UL]at h9;simpa using h9
    rw[hne]at hcnt;simp at hcnt
   have hmin:∃i,i<l.length/\listed.getD i false=false/\∀j,j<i->listed.getD j false=true:=by
    obtain⟨i,h1,h2⟩:=hex
    induction i using UF with
    | _ i ihm=>
    by_cases hj:∃j,j<i/\listed.getD j false=false
    .obtain⟨j,g1,g2⟩:=hj;exact ihm j g1 (by omega) g2
    .exact⟨i,h1,h2,fun j hji=>by
      cases hb:listed.getD j false with
      | true=>rfl
      | false=>exact absurd ⟨j,hji,hb⟩ hj⟩
   obtain⟨i,h1,h2,h3⟩:=hmin;have hio:i<ops.toList.length:=by rw[<-hlen];exact h1
   have:i∈Region.ready .any ops listed:=by
    unfold Region.ready;rw[Ud];refine⟨by simp;omega,?_⟩
    have ht:listed.getD i true=false:=by
     have hb:listed[i]? = some (listed[i]'(by omega)):=TL _;rw[TK,hb,UL]at h2 ⊢;exact h2
    have ho:ops[i]? = some (ops[i]'(by omega)):=TL _;rw[ht,ho];simp only[T0,T4,UN,UL];rw[<-TQ,Ua];intro e he;cases hb:Region.binds .any e with
    | false=>rfl
    | true=>
     have:e.on∈aW (ops[i]'(by omega)):=by
      unfold aW;exact List.mem_map.2 ⟨e,List.mem_filter.2 ⟨he,hb⟩,rfl⟩
     simp[h3 e.on (hlt i _ (by rw[T9 hio];simp) e.on this)]
   rw[hnil]at this;cases this
  .unfold Region.ready at hi;rw[Ud]at hi;obtain⟨hir,hic⟩:=hi;have hi1:i<ops.size:=by simpa using hir
   have hi2:i<l.length:=by omega
   have ho:ops[i]? = some ops[i]:=TL hi1;have hoL:ops.toList[i]? = some ops[i]:=by rw[TN];exact ho
   rw[ho]at hic;simp only[UN,UL,TU,TW]at hic;obtain⟨hun,hed⟩:=hic
   have hun':listed[i]? = some false:=by
    have hb:listed[i]? = some (listed[i]'(by omega)):=TL _;rw[TK,hb,UL]at hun;rw[hb,hun]
   have hunf:listed.getD i false=false:=by rw[TK,hun'];rfl
   have hedge:∀j∈aW ops[i],listed.getD j false=true:=by
    intro j hj;unfold aW at hj;obtain⟨e,he,rfl⟩:=List.mem_map.1 hj;rw[Ud]at he;rw[<-TQ,Ua]at hed;have:=hed e he.1;simpa[he.2]using this
   have hbef:=dW hlt (S:=fun j=>listed.getD j false=true) hcl i _ hoL hedge
   have hlist:∀j p,l[j]? = some p->listed.getD j false=true->∀q∈(bS ops.toList []).getD j [],listed.getD q false=true:=fun j p hj hjl=>by
    have hjo:j<ops.toList.length:=by rw[<-hlen];exact(List.getElem?_eq_some_iff.1 hj).1
    exact dW hlt (S:=fun j=>listed.getD j false=true) hcl j _ (T9 hjo) (hcl j _ (T9 hjo) hjl)
   have hsame:∀t∈l[i].looks++l[i].dst.toList,∀j (hj:j<l.length),j≠i->l[j].dst=some t->(listed.getD j false=decide (j<i)):=by
    intro t ht j hj hne hd;rcases hcmp i l[i] (T9 hi2) t ht j l[j] (T9 hj) hd hne with⟨g1,g2⟩|⟨g1,g2⟩
    .rw[hbef j g2];simp[g1]
    .have:¬listed.getD j false=true:=fun hjl=>by
      have:=hlist j l[j] (T9 hj) hjl i g2;rw[hunf]at this;cases this
     have e:listed.getD j false=false:=by simpa using this
     rw[e];simp;omega
   obtain⟨ρi,hL,hρi⟩:=hloc i hi2 (by omega)
   have hgetL:∀t∈l[i].looks,get ρi t=get (bY (bH l xs 0 fun i=>listed.getD i false) ρ) t:=by
    intro t ht;rw[hρi t];refine fx _ _ ρ t (by rw[hsteps,hsteps]) (fun j g1 g2=>?_);rw[hsteps]at g1;rw[hsg _ j (by rw[hsteps];exact g1) g1,hsg _ j (by rw[hsteps];exact g1) g1];refine⟨rfl,rfl,fun hd=>?_⟩;simp only[UD];by_cases e:j=i
    .subst e;rw[hunf];simp
    .exact(hsame t (by simp[ht]) j g1 e hd).symm
   have hL2:=hL.congr hgetL
   have hnext:∀t,get (bY (bH l xs 0 fun j=>(listed.setIfInBounds i true).getD j false) ρ) t=get (putd (bY (bH l xs 0 fun j=>listed.getD j false) ρ) l[i].dst (xs[i]'(by omega))) t:=by
    intro t
    have hset:∀j,(listed.setIfInBounds i true).getD j false=if j=i then true else listed.getD j false:=fun j=>by
     rw[TK,TK];split
     .rename_i e;subst e;rw[TO (by omega)];rfl
     .rename_i e;rw[TP (UK e)]
    rw[ed];split
    .rename_i e
     have:=qo (bH l xs 0 fun j=>(listed.setIfInBounds i true).getD j false) ρ i (by rw[hsteps];exact hi2) t (by rw[hsg _ i _ hi2];exact e) (by rw[hsg _ i _ hi2,hset];simp) (fun j hj hij hd=>by
      rw[hsteps]at hj;rw[hsg _ j _ hj]at hd ⊢;simp only at hd ⊢;rw[hset,if_neg (by omega),hsame t (by simp[e]) j hj (by omega) hd];simp;omega)
     rw[this,hsg _ i _ hi2]
    .rename_i e;refine fx _ _ ρ t (by rw[hsteps,hsteps]) (fun j g1 g2=>?_);rw[hsteps]at g1;rw[hsg _ j (by rw[hsteps];exact g1) g1,hsg _ j (by rw[hsteps];exact g1) g1];refine⟨rfl,rfl,fun hd=>?_⟩;simp only at hd ⊢;rw[hset,if_neg (fun ee=>by subst ee;exact e hd)]
   have hnextcl:∀(q:Nat) (o:Oper),ops.toList[q]? = some o->(listed.setIfInBounds i true).getD q false=true->∀j∈aW o,(listed.setIfInBounds i true).getD j false=true:=by
    have hset:∀j,(listed.setIfInBounds i true).getD j false=if j=i then true else listed.getD j false:=fun j=>by
     rw[TK,TK];split
     .rename_i e;subst e;rw[TO (by omega)];rfl
     .rename_i e;rw[TP (UK e)]
    intro q o hqo hql j hj;rw[hset]at hql ⊢;split
    .rfl
    .split at hql
     .rename_i e;subst e;rw[hoL]at hqo;cases hqo;exact hedge j hj
     .exact hcl q o hqo hql j hj
   have hnextc:((listed.setIfInBounds i true).toList.filter (! ·)).length=fuel:=by
    have:=lV listed.toList i (by rw[TN];exact hun');rw[TS];omega
   have hoo:=hget i l[i] ops[i] (T9 hi2) hoL
   have hdst:l[i].dst=ops[i].dst:=by
    unfold okO at hoo;simp only[TU,beq_iff_eq]at hoo;exact hoo.1.1.2
   have hdn:∀d,ops[i].dst=some d->d<n:=by
    unfold okO at hoo;simp only[TU]at hoo;intro d hd;have:=hoo.1.2;rw[hd]at this;simpa using this
   have hgd:=hoo;unfold okO at hgd;simp only[TU]at hgd;replace hgd:=hgd.2
   have exec:bK C l[i].op (bY (bH l xs 0 fun i=>listed.getD i false) ρ) σ (fun v=>v=xs[i]'(by omega))->(ops[i]).wp C.P a w (wpAny C.P .any ops (bJ M0 bm0 pr w0 n Q) fuel (listed.setIfInBounds i true)) (bJ M0 bm0 pr w0 n Q):=fun hc=>by
    refine Oper.wp_mono2 (fun a' w' hL=>?_) (fun e a' w' hL=>?_) (em (hG.mono hl) h hoo (xd hc))
    .obtain⟨M',bm',tk',ρ',σ',⟨rfl,rfl⟩,k2,k3⟩:=hL
     have hbm:bm'=bm:=by
      obtain⟨t,rfl⟩:=k3.pre;have e1:=k2.inv.len;have e2:=h.inv.len;have:t=[]:=Uj (by simp at e1;omega);simp[this]
     subst hbm;exact ih _ M' tk' a' w' (hl.trans k3 (fun _ h=>h)) (k2.congr hnext) (by simp[hsz]) hnextcl hnextc
    .obtain⟨_,_,_,_,_,_,hf,_⟩:=hL;exact hf.elim
   unfold wpOp;rw[ho];simp only;unfold Loc at hL2;split at hL2
   .rename_i hg;rw[hg]at hgd;split at hgd
    .rename_i hg2;rw[if_pos (by simp[Region.wanted,hg2])];exact .inl (exec hL2)
    .rename_i e _;cases e
    .cases hgd
   .rename_i t want hg;rw[hg]at hgd;split at hgd
    .rename_i e _;cases e
    .rename_i t' b' j b'' e hg2;cases e;simp only[TU,beq_iff_eq]at hgd;obtain⟨rfl,hj⟩:=hgd;split at hL2
     .rename_i b hb;have hy:=kQ h hb hj;by_cases hbw:b=want
      .rw[if_pos (by simp[Region.wanted,hg2,hy,hbw])];exact .inl (exec (hL2.1 hbw))
      .rw[if_neg (by simp[Region.wanted,hg2,hy,hbw])];have hx:=hL2.2 hbw;refine ih _ M tk _ w hl ((h.putd hdn oX (by simp)).congr fun t=>?_) (by simp[hsz]) hnextcl hnextc;rw[hnext t,hx,hdst]
     .rename_i hb;have hy:=rA h hb hj;rw[if_neg (by simp[Region.wanted,hg2,hy])];refine ih _ M tk _ w hl ((h.putd hdn oX (by simp)).congr fun t=>?_) (by simp[hsz]) hnextcl hnextc;rw[hnext t,hL2,hdst]
     .exact hL2.elim
    .cases hgd
end
end Go.Proofs.YtnhphlmblenapaaGreatDoor
namespace Go.Proofs.YtnhphlmblenapaaGreatDoor
open Go.RowKit
section
variable {C : Cx} {pr : Prot} {n : Nat} {Q : AEx -> aj -> LLV -> Prop}
end
end Go.Proofs.YtnhphlmblenapaaGreatDoor
namespace Go.Proofs.YtnhphlmblenapaaGreatDoor
open Go.RowKit
structure Cell where
 i:Nat
 off:Nat
 T:TypeId
 k:Nat
 rows:LLD
section
variable {C : Cx} {pr : Prot} {ρ : aj} {n : Nat} {Q : AEx -> aj -> LLV -> Prop}
end
end Go.Proofs.YtnhphlmblenapaaGreatDoor
namespace Go.Proofs.YtnhphlmblenapaaGreatDoor
open Go.RowKit
def OP.slotsN:OP->List Nat
 | .sto _ x y=>x.slots++y.slots
 | op=>op.slots
def O.looksN(o:O):List Nat:=o.op.slotsN++(match o.g with|some (t,_)=>[t]|none=>[])
section
variable {C : Cx} {pr : Prot} {ρ : aj} {n : Nat} {Q : AEx -> aj -> LLV -> Prop}
end
end Go.Proofs.YtnhphlmblenapaaGreatDoor
namespace Go.Proofs.YtnhphlmblenapaaGreatDoor
open Go.RowKit
section
variable {C : Cx} {pr : Prot} {ρ : aj} {n : Nat} {Q : AEx -> aj -> LLV -> Prop}
def BC(C:Cx)(σ:LLV):List O->aj->Option LLV->(aj->LLV->Prop)->Prop
 | [],ρ,acc,K=>match acc with|some σf=>K ρ σf|none=>False
 | o::r,ρ,acc,K=>match o.op with
  | .sto kk y z=>o.g=none/\o.dst=none/\match acc,ev C ρ y with
   | none,.ptr i off=>match σ[i]? with
    | some cs=>((ev C ρ z).boxable=true/\(ev C ρ z).cells.length=kk/\off+kk≤cs.length/\cA cs=true)/\BC C σ r ρ (some (σ.set i (over cs off (ev C ρ z).cells))) K
    | none=>False
   | _,_=>False
  | op=>match o.g with
   | none=>bK C op ρ σ fun v=>BC C σ r (putd ρ o.dst v) acc K
   | some (t,want)=>match get ρ t with
    | .d (.lit (.bool b))=>(b=want->bK C op (put ρ t (.d (.lit (.bool want)))) σ fun v=>BC C σ r (putd (put ρ t (.d (.lit (.bool want)))) o.dst v) acc K)/\(b≠want->BC C σ r (putd (put ρ t (.d (.lit (.bool (!want))))) o.dst (.tup [])) acc K)
    | .tup []=>BC C σ r (putd ρ o.dst (.tup [])) acc K
    | _=>False
def O.free(o:O):Bool:=match o.op,o.g with
 | .mv (.k _),none=>true
 | _,_=>false
end
end Go.Proofs.YtnhphlmblenapaaGreatDoor
namespace Go.Proofs.YtnhphlmblenapaaGreatDoor
open Go.RowKit
section
variable {C : Cx} {pr : Prot} {ρ : aj} {σ : LLV} {n : Nat} {Q : AEx -> aj -> LLV -> Prop}
end
end Go.Proofs.YtnhphlmblenapaaGreatDoor
namespace Go.Proofs.YtnhphlmblenapaaGreatDoor
open Go.RowKit
section
variable {C : Cx} {pr : Prot} {n : Nat} {Q : AEx -> aj -> LLV -> Prop}
theorem oK{M0:av}{bm0:List Nat}{w0:World}{id:Nat}{ops:Array Oper}{M:av}{bm:List Nat}{tk:bA}{a:Act}{w:World}(St:(Nat->Bool)->aj)(Sg:(Nat->Bool)->LLV)(ρf:aj)(σf:LLV)(I:(Nat->Bool)->Prop)(hI0:I fun _=>false)(hIext:∀S S',(∀j,j<ops.size->S j=S' j)->I S->I S')
 (hlt:∀(i:Nat) (o:Oper),ops.toList[i]? = some o->∀j∈aW o,j<i)
 (hext:∀S S',(∀j,j<ops.size->S j=S' j)->(∀t,get (St S) t=get (St S') t)/\Sg S=Sg S')
 (hl:Later M0 bm0 pr w0 M bm w)(h:SRel M bm tk pr (St fun _=>false) (Sg fun _=>false) n a w)
 (hf:I (fun _=>true)->((∀t,get ρf t=get (St fun _=>true) t)/\σf=Sg fun _=>true)/\Q .normal ρf σf)
 (step:∀(S:Nat->Bool) (i:Nat) (o:Oper),ops.toList[i]? = some o->S i=false->(∀(j:Nat) (p:Oper),ops.toList[j]? = some p->S j=true->∀e∈aW p,S e=true)->(∀e∈aW o,S e=true)->
   I S->∀(M:av) (bm:List Nat) (tk:bA) (a:Act) (w:World),Later M0 bm0 pr w0 M bm w->SRel M bm tk pr (St S) (Sg S) n a w->
    if Region.wanted o (yielded ops a.tmps)then o.wp C.P a w (pD M bm pr w n fun ρ' σ'=>(∀t,get ρ' t=get (St fun j=>j==i||S j) t)/\σ'=(Sg fun j=>j==i||S j)/\I fun j=>j==i||S j) (bJ M bm pr w n Q)
    else SRel M bm tk pr (St fun j=>j==i||S j) (Sg fun j=>j==i||S j) n (a.put o.dst undef) w/\I fun j=>j==i||S j):
 (Code.region id ops true).wp C.P (bJ M0 bm0 pr w0 n Q) a w:=by
 refine wp_region_any C.mixed ?_
 suffices H:∀(fuel:Nat) (listed:Array Bool) (M:av) (bm:List Nat) (tk:bA) (a:Act) (w:World),Later M0 bm0 pr w0 M bm w->SRel M bm tk pr (St fun i=>listed.getD i false) (Sg fun i=>listed.getD i false) n a w->I (fun i=>listed.getD i false)->listed.size=ops.size->
  (∀(i:Nat) (o:Oper),ops.toList[i]? = some o->listed.getD i false=true->∀j∈aW o,listed.getD j false=true)->(listed.toList.filter (! ·)).length=fuel->wpAny C.P .any ops (bJ M0 bm0 pr w0 n Q) fuel listed a w by
  obtain⟨h1,h2⟩:=h.ext (dJ.drew w)
  have hrep:∀j,(TM ops.size false).getD j false=false:=fun j=>by
   simp only[TK,TR];split<;>rfl
  obtain⟨e1,e2⟩:=hext (fun i=>(TM ops.size false).getD i false) (fun _=>false) (fun j _=>hrep j);refine H ops.size (TM ops.size false) M bm tk a w.drew (hl.trans h2 (fun _ h=>h)) ?_ (hIext _ _ (fun j _=>(hrep j).symm) hI0) (by simp) (fun i o ho hi=>?_) (by simp)
  .rw[e2];exact h1.congr e1
  .rw[hrep]at hi;cases hi
 intro fuel
 induction fuel with
 | zero=>
  intro listed M bm tk a w hl h hI hsz hcl hcnt
  have hall:∀i,i<ops.size->listed.getD i false=true:=fun i hi=>by
   have hb:listed[i]? = some (listed[i]'(by omega)):=TL _;rw[TK,hb,UL];have hne:listed.toList.filter (! ·)=[]:=Uj hcnt;have:=List.filter_eq_nil_iff.1 hne (listed[i]'(by omega)) (by simp);simpa using this
  obtain⟨e1,e2⟩:=hext (fun i=>listed.getD i false) (fun _=>true) hall;obtain⟨hf,hq⟩:=hf (hIext _ _ hall hI);refine⟨?_,M,bm,tk,ρf,σf,.normal,hq,.normal,?_,hl⟩
  .unfold Region.ready;rw[Uf];intro i hi;have hi':i<ops.size:=by simpa using hi
   have h9:=hall i hi'
   have:listed.getD i true=true:=by
    have hb:listed[i]? = some (listed[i]'(by omega)):=TL _;rw[TK,hb,UL]at h9 ⊢;exact h9
   simp[this]
  .rw[hf.2,<-e2];exact h.congr fun t=>(hf.1 t).trans (e1 t).symm
 | succ fuel ih=>
  intro listed M bm tk a w hl h hI hsz hcl hcnt;refine⟨fun hnil=>?_,fun i hi=>?_⟩
  .exfalso
   have hex:∃i,i<ops.size/\listed.getD i false=false:=by
    apply T7;intro hno
    have hne:listed.toList.filter (! ·)=[]:=by
     rw[Uf];intro b hb;obtain⟨i,hi,rfl⟩:=Ue hb;have hi':i<listed.size:=by simpa using hi
     have h9:¬listed.getD i false=false:=fun e=>hno ⟨i,by omega,e⟩;have hb:listed[i]? = some listed[i]:=TL hi';rw[TK,hb,UL]at h9;simpa using h9
    rw[hne]at hcnt;simp at hcnt
   have hmin:∃i,i<ops.size/\listed.getD i false=false/\∀j,j<i->listed.getD j false=true:=by
    obtain⟨i,h1,h2⟩:=hex
    induction i using UF with
    | _ i ihm=>
    by_cases hj:∃j,j<i/\listed.getD j false=false
    .obtain⟨j,g1,g2⟩:=hj;exact ihm j g1 (by omega) g2
    .exact⟨i,h1,h2,fun j hji=>by
      cases hb:listed.getD j false with
      | true=>rfl
      | false=>exact absurd ⟨j,hji,hb⟩ hj⟩
   obtain⟨i,h1,h2,h3⟩:=hmin;have hio:i<ops.toList.length:=by simpa using h1
   have:i∈Region.ready .any ops listed:=by
    unfold Region.ready;rw[Ud];refine⟨by simp;omega,?_⟩
    have ht:listed.getD i true=false:=by
     have hb:listed[i]? = some (listed[i]'(by omega)):=TL _;rw[TK,hb,UL]at h2 ⊢;exact h2
    have ho:ops[i]? = some (ops[i]'(by omega)):=TL _;rw[ht,ho];simp only[T0,T4,UN,UL];rw[<-TQ,Ua];intro e he;cases hb:Region.binds .any e with
    | false=>rfl
    | true=>
     have:e.on∈aW (ops[i]'(by omega)):=by
      unfold aW;exact List.mem_map.2 ⟨e,List.mem_filter.2 ⟨he,hb⟩,rfl⟩
     simp[h3 e.on (hlt i _ (by rw[T9 hio];simp) e.on this)]
   rw[hnil]at this;cases this
  .unfold Region.ready at hi;rw[Ud]at hi;obtain⟨hir,hic⟩:=hi;have hi1:i<ops.size:=by simpa using hir
   have ho:ops[i]? = some ops[i]:=TL hi1;have hoL:ops.toList[i]? = some ops[i]:=by rw[TN];exact ho
   rw[ho]at hic;simp only[UN,UL,TU,TW]at hic;obtain⟨hun,hed⟩:=hic
   have hun':listed[i]? = some false:=by
    have hb:listed[i]? = some (listed[i]'(by omega)):=TL _;rw[TK,hb,UL]at hun;rw[hb,hun]
   have hunf:listed.getD i false=false:=by rw[TK,hun'];rfl
   have hedge:∀j∈aW ops[i],listed.getD j false=true:=by
    intro j hj;unfold aW at hj;obtain⟨e,he,rfl⟩:=List.mem_map.1 hj;rw[Ud]at he;rw[<-TQ,Ua]at hed;have:=hed e he.1;simpa[he.2]using this
   have hset:∀j,(listed.setIfInBounds i true).getD j false=(j==i||listed.getD j false):=fun j=>by
    rw[TK,TK];by_cases e:j=i
    .subst e;rw[TO (by omega)];simp
    .rw[TP (UK e)];simp[e]
   have hnextcl:∀(q:Nat) (o:Oper),ops.toList[q]? = some o->(listed.setIfInBounds i true).getD q false=true->∀j∈aW o,(listed.setIfInBounds i true).getD j false=true:=by
    intro q o hqo hql j hj;rw[hset]at hql ⊢;simp only[TX,beq_iff_eq]at hql ⊢;rcases hql with rfl|hql
    .rw[hoL]at hqo;cases hqo;exact .inr (hedge j hj)
    .exact .inr (hcl q o hqo hql j hj)
   have hnextc:((listed.setIfInBounds i true).toList.filter (! ·)).length=fuel:=by
    have:=lV listed.toList i (by rw[TN];exact hun');rw[TS];omega
   obtain⟨e1,e2⟩:=hext (fun j=>(listed.setIfInBounds i true).getD j false) (fun j=>j==i||listed.getD j false) (fun j _=>hset j);have hst:=step (fun j=>listed.getD j false) i ops[i] hoL hunf hcl hedge hI M bm tk a w hl h;unfold wpOp;rw[ho];simp only;split at hst
   .rename_i hw;rw[if_pos hw];refine .inl (Oper.wp_mono2 (fun a' w' hL=>?_) (fun e a' w' hL=>?_) hst)
    .obtain⟨M',bm',tk',ρ',σ',⟨k0,rfl,kI⟩,k2,k3⟩:=hL;refine ih _ M' bm' tk' a' w' (hl.trans k3 (fun _ h=>h)) ?_ (hIext _ _ (fun j _=>(hset j).symm) kI) (by simp[hsz]) hnextcl hnextc;rw[e2];exact k2.congr fun t=>(e1 t).trans (k0 t).symm
    .exact bJ.trans hl hL
   .rename_i hw;rw[if_neg hw];refine ih _ M bm tk _ w hl ?_ (hIext _ _ (fun j _=>(hset j).symm) hst.2) (by simp[hsz]) hnextcl hnextc;rw[e2];exact hst.1.congr e1
end
section
variable {pre post : List O} {d : Option Nat} {f : FuncId} {args : List X} {kk : Nat} {y z : X}
end
def nZ(np nq:Nat)(l:List O)(os:List Oper):Bool:=
 let bf:=bS os []
 ((Uh os.length).all fun i=>match os[i]? with|some o=>(aW o).all fun j=>decide (j<i)|none=>true) &&
 (((Uh l.length).all fun i=>match l[i]? with
   | some o=>(o.looksN++o.dst.toList).all fun t=>(Uh l.length).all fun j=>j==i||(match l[j]? with
    | some q=>q.dst != some t||(if j<i then(bf.getD i []).contains j else(bf.getD j []).contains i)
    | none=>true)
   | none=>true) &&
 (((Uh nq).all fun m=>(bf.getD (np+1+m) []).contains np) &&
 (((Uh (np+1+nq)).all fun i=>(bf.getD (np+1+nq) []).contains i) &&
 ((Uh np).all fun i=>match l[i]? with
   | some o=>o.dst.isSome&&(Uh np).all fun j=>j==i||(match l[j]? with|some q=>q.dst != o.dst|none=>true)
   | none=>true))))
structure OKX(np nq:Nat)(l:List O)(os:List Oper):Prop where
 lt:∀(i:Nat) (o:Oper),os[i]? = some o->∀j∈aW o,j<i
 cmp:∀(i:Nat) (o:O),l[i]? = some o->∀t∈o.looksN++o.dst.toList,∀(j:Nat) (q:O),l[j]? = some q->q.dst=some t->j≠i->(j<i/\j∈(bS os []).getD i [])\/(i<j/\i∈(bS os []).getD j [])
 after:∀m,m<nq->np∈(bS os []).getD (np+1+m) []
 last:∀i,i<np+1+nq->i∈(bS os []).getD (np+1+nq) []
 pdst:∀(i:Nat) (o:O),i<np->l[i]? = some o->∃t,o.dst=some t/\∀(j:Nat) (q:O),j<np->l[j]? = some q->j≠i->q.dst≠some t
theorem ym{np nq:Nat}{l:List O}{os:List Oper}(h:nZ np nq l os=true):OKX np nq l os:=by
 unfold nZ at h;simp only[TU]at h;obtain⟨h1,h2,h3,h4,h5⟩:=h;simp only[Ua,Uk]at h1 h2 h3 h4 h5;refine⟨fun i o ho j hj=>?_,fun i o ho t ht j q hp hd hne=>?_,fun m hm=>by simpa using h3 m hm,fun i hi=>by simpa using h4 i hi,fun i o hi ho=>?_⟩
 .have:=h1 i (List.getElem?_eq_some_iff.1 ho).1;rw[ho]at this;simpa using List.all_eq_true.1 this j hj
 .have h1:=h2 i (List.getElem?_eq_some_iff.1 ho).1;rw[ho]at h1;simp only[Ua,Uk]at h1;have h2:=h1 t ht j (List.getElem?_eq_some_iff.1 hp).1;rw[hp]at h2;simp only[hd,TX,beq_iff_eq,bne_self_eq_false,TV,false_or]at h2;rcases h2 with h2|h2
  .exact absurd h2 hne
  .split at h2
   .exact .inl ⟨by assumption,by simpa using h2⟩
   .exact .inr ⟨by omega,by simpa using h2⟩
 .have:=h5 i hi;rw[ho]at this;simp only[TU,Ua,Uk]at this;obtain⟨g1,g2⟩:=this;obtain⟨t,ht⟩:=Option.isSome_iff_exists.1 g1;refine⟨t,ht,fun j q hj hq hne hd=>?_⟩;have:=g2 j hj;rw[hq]at this;simp only[hd,ht,TX,beq_iff_eq,bne_self_eq_false,TV,or_false]at this;exact hne this
theorem tr:∀{l:List O} {xs:List V} {k:Nat} {S:Nat->Bool},(∀j,k≤j->S j=false)->∀p∈bH l xs k S,p.2.2=false
 | [],_,_,_,_,p,hp=>by simp[bH]at hp
 | _::_,[],_,_,_,p,hp=>by simp[bH]at hp
 | o::l,x::xs,k,S,h,p,hp=>by
  simp only[bH,List.mem_cons]at hp;rcases hp with rfl|hp
  .exact h k (UE _)
  .exact tr (fun j hj=>h j (by omega)) p hp
theorem mA:∀{l:List O} {xs:List V} {k:Nat} {S S':Nat->Bool},(∀j,k≤j->j<k+l.length->S j=S' j)->bH l xs k S=bH l xs k S'
 | [],_,_,_,_,_=>by simp[bH]
 | _::_,[],_,_,_,_=>by simp[bH]
 | o::l,x::xs,k,S,S',h=>by
  simp only[bH];rw[h k (UE _) (by simp),mA (l:=l) (xs:=xs) (k:=k+1) fun j h1 h2=>h j (by omega) (by simp only[Uc];omega)]
theorem tL:∀{a b:List O} {xs ys:List V} {k:Nat} {S:Nat->Bool},xs.length=a.length->bH (a++b) (xs++ys) k S=bH a xs k S++bH b ys (k+a.length) S
 | [],_,[],_,_,_,_=>rfl
 | o::a,b,x::xs,ys,k,S,h=>by
  simp only[Uz,bH,Uc];rw[tL (by simpa using h),show k+1+a.length=k+(a.length+1)by omega]
 | [],_,_::_,_,_,_,h=>by simp at h
 | _::_,_,[],_,_,_,h=>by simp at h
theorem B3{l:List (Option Nat×V×Bool)}(h:∀p∈l,p.2.2=false)(ρ:aj)(t:Nat):get (bY l ρ) t=get ρ t:=iv l ρ t fun p hp _=>h p hp
section
variable {C : Cx} {pr : Prot} {ρ : aj} {σ : LLV} {n : Nat} {Q : AEx -> aj -> LLV -> Prop}
theorem wo{M:av}{bm:List Nat}{tk:bA}{a:Act}{w:World}{ops:Array Oper}{o:O}{o':Oper}{x:V}(hG:C.glob M pr w)(h:SRel M bm tk pr ρ σ n a w)(hoo:okO C.tab n ops o o'=true)(hL:Loc C o ρ σ x):
 if Region.wanted o' (yielded ops a.tmps)then o'.wp C.P a w (pD M bm pr w n fun ρ' σ'=>ρ'=putd ρ o.dst x/\σ'=σ) (bJ M bm pr w n Q)else SRel M bm tk pr (putd ρ o.dst x) σ n (a.put o'.dst undef) w:=by
 have hdst:o.dst=o'.dst:=by
  have:=hoo;unfold okO at this;simp only[TU,beq_iff_eq]at this;exact this.1.1.2
 have hdn:∀d,o'.dst=some d->d<n:=by
  have:=hoo;unfold okO at this;simp only[TU]at this;intro d hd;have:=this.1.2;rw[hd]at this;simpa using this
 have hgd:=hoo;unfold okO at hgd;simp only[TU]at hgd;replace hgd:=hgd.2
 have exec:bK C o.op ρ σ (fun v=>v=x)->o'.wp C.P a w (pD M bm pr w n fun ρ' σ'=>ρ'=putd ρ o.dst x/\σ'=σ) (bJ M bm pr w n Q):=fun hc=>
  Oper.wp_mono2 (fun _ _ hh=>hh) (fun e a' w' ⟨_,_,_,_,_,_,hf,_⟩=>hf.elim) (em (Q:=fun _ _ _=>False) hG h hoo (xd hc))
 unfold Loc at hL;split at hL
 .rename_i hg;rw[hg]at hgd;split at hgd
  .rename_i hg2;rw[if_pos (by simp[Region.wanted,hg2])];exact exec hL
  .rename_i e _;cases e
  .cases hgd
 .rename_i t want hg;rw[hg]at hgd;split at hgd
  .rename_i e _;cases e
  .rename_i t' b' j b'' e hg2;cases e;simp only[TU,beq_iff_eq]at hgd;obtain⟨rfl,hj⟩:=hgd;split at hL
   .rename_i b hb;have hy:=kQ h hb hj;by_cases hbw:b=want
    .rw[if_pos (by simp[Region.wanted,hg2,hy,hbw])];exact exec (hL.1 hbw)
    .rw[if_neg (by simp[Region.wanted,hg2,hy,hbw])];rw[hL.2 hbw,hdst];exact h.putd hdn oX (by simp)
   .rename_i hb;have hy:=rA h hb hj;rw[if_neg (by simp[Region.wanted,hg2,hy])];rw[hL,hdst];exact h.putd hdn oX (by simp)
   .exact hL.elim
  .cases hgd
theorem Ck(o:O):∀t∈o.looks,t∈o.looksN:=by
 intro t ht;unfold O.looks at ht;unfold O.looksN;rw[Un]at ht ⊢;refine ht.imp (fun h=>?_) id;cases ho:o.op<;>rw[ho]at h<;>first|exact h|(simp[OP.slots]at h)
theorem Qv{L:List O}{X:List V}(hX:X.length=L.length)(ρ:aj){S:Nat->Bool}{i:Nat}{o:O}{x:V}(ho:L[i]? = some o)(hx:X[i]? = some x)(hSi:S i=false)
 (hsame:∀t∈o.looksN++o.dst.toList,∀(j:Nat) (q:O),L[j]? = some q->j≠i->q.dst=some t->S j=decide (j<i)):
 (∀t∈o.looksN,get (bY (bH L X 0 fun j=>decide (j<i)) ρ) t=get (bY (bH L X 0 S) ρ) t)/\
 ∀t,get (bY (bH L X 0 fun j=>j==i||S j) ρ) t=get (putd (bY (bH L X 0 S) ρ) o.dst x) t:=by
 have hi:=(List.getElem?_eq_some_iff.1 ho).1;have hoi:L[i]=o:=(List.getElem?_eq_some_iff.1 ho).2;have hxi:X[i]'(by omega)=x:=by rw[T9 (by omega)]at hx;exact Option.some.inj hx
 have hsteps:∀S:Nat->Bool,(bH L X 0 S).length=L.length:=fun S=>lW L X 0 S hX
 have hsg:∀(S:Nat->Bool) (i:Nat) (hi:i<(bH L X 0 S).length) (h1:i<L.length),(bH L X 0 S)[i]=(L[i].dst,X[i]'(by omega),S i):=fun S i hi h1=>by
  have:=lT L X 0 S i hi h1 (by omega);simpa using this
 refine⟨fun t ht=>?_,fun t=>?_⟩
 .refine fx _ _ ρ t (by rw[hsteps,hsteps]) (fun j g1 g2=>?_);rw[hsteps]at g1;rw[hsg _ j (by rw[hsteps];exact g1) g1,hsg _ j (by rw[hsteps];exact g1) g1];refine⟨rfl,rfl,fun hd=>?_⟩;by_cases e:j=i
  .subst e;rw[hSi];simp
  .exact(hsame t (by simp[ht]) j _ (T9 g1) e hd).symm
 .rw[ed];split
  .rename_i e
   have:=qo (bH L X 0 fun j=>j==i||S j) ρ i (by rw[hsteps];exact hi) t (by rw[hsg _ i _ hi,hoi];exact e) (by rw[hsg _ i _ hi];simp) (fun j hj hij hd=>by
    rw[hsteps]at hj;rw[hsg _ j _ hj]at hd ⊢;simp only at hd ⊢;rw[hsame t (by simp[e]) j _ (T9 hj) (by omega) hd];simp;omega)
   rw[this,hsg _ i _ hi,hxi]
  .rename_i e;refine fx _ _ ρ t (by rw[hsteps,hsteps]) (fun j g1 g2=>?_);rw[hsteps]at g1;rw[hsg _ j (by rw[hsteps];exact g1) g1,hsg _ j (by rw[hsteps];exact g1) g1];refine⟨rfl,rfl,fun hd=>?_⟩;simp only at hd ⊢;have hne:j≠i:=fun ee=>by subst ee;rw[hoi]at hd;exact e hd
   simp[hne]
theorem xx{M0:av}{bm0:List Nat}{w0:World}(hG:C.glob M0 pr w0){id:Nat}{ops:Array Oper}{pre:List O}{x:X}{M:av}{bm:List Nat}{tk:bA}{a:Act}{w:World}(hok:iJ C.tab n ops (pre++[⟨none,.pan x,none⟩]) ops.toList=true)(hdr:nZ (pre.length-1) 0 (pre++[⟨none,.pan x,none⟩]) ops.toList=true)(hnp:1≤pre.length)
 (hl:Later M0 bm0 pr w0 M bm w)(h:SRel M bm tk pr ρ σ n a w)(hq:aZ C pre ρ σ fun ρ'=>∃ty u,ev C ρ' x=.iface ty u/\∀ρ2,Q (.panic (.iface ty u)) ρ2 σ):
 (Code.region id ops true).wp C.P (bJ M0 bm0 pr w0 n Q) a w:=by
 obtain⟨hlen,hget⟩:=jl hok;have D:=ym hdr;obtain⟨xs,hxl,⟨ρ1,⟨ty,u,he,hQ⟩,hρe⟩,hloc⟩:=p8 (k:=0) hq;have gpre:∀i (hi:i<pre.length),(pre++[(⟨none,.pan x,none⟩:O)])[i]? = some pre[i]:=fun i hi=>by rw[Ug hi,T9 hi]
 have gpan:(pre++[(⟨none,.pan x,none⟩:O)])[pre.length]? = some ⟨none,.pan x,none⟩:=by rw[Um (UE _)];simp
 have hLl:(pre++[(⟨none,.pan x,none⟩:O)]).length=pre.length+1:=by simp
 have conv:∀S,bY (bH (pre++[(⟨none,.pan x,none⟩:O)]) (xs++[.junk]) 0 S) ρ=bY (bH pre xs 0 S) ρ:=fun S=>by
  rw[tL hxl,js];simp only[bH,bY,putd];split<;>rfl
 generalize hL:pre++[(⟨none,.pan x,none⟩:O)]=L at *;obtain⟨X,hX⟩:∃X,X=xs++[V.junk]:=⟨_,rfl⟩
 rw[<-hX]at conv
 have hXl:X.length=L.length:=by rw[hLl,hX];simp[hxl]
 have xpre:∀i (hi:i<xs.length),X[i]? = some xs[i]:=fun i hi=>by rw[hX,Ug hi,T9 hi]
 have hnl:L.length=ops.size:=by rw[hlen];simp
 refine oK (M:=M) (bm:=bm) (tk:=tk) (fun S=>bY (bH L X 0 S) ρ) (fun _=>σ) ρ σ (fun S=>S pre.length=false) rfl (fun S S' hS hI=>by rw[<-hS _ (by omega)];exact hI) D.lt (fun S S' hS=>⟨fun t=>?_,rfl⟩) hl ?_ (fun hI=>by cases hI) ?_
 .show get (bY (bH L X 0 S) ρ) t=get (bY (bH L X 0 S') ρ) t;rw[mA (l:=L) (xs:=X) (k:=0) (S:=S) (S':=S') fun j _ hj=>hS j (by omega)]
 .exact h.congr fun t=>B3 (tr fun _ _=>rfl) ρ t
 intro S i o' ho' hSi hclo hedge hI M bm tk a w hl h;have hi1:i<ops.toList.length:=(List.getElem?_eq_some_iff.1 ho').1;have hi2:i<L.length:=by omega
 have hbef:∀j∈(bS ops.toList []).getD i [],S j=true:=dW D.lt (S:=fun j=>S j=true) hclo i o' ho' hedge
 have hbefj:∀q,q<L.length->S q=true->∀j∈(bS ops.toList []).getD q [],S j=true:=fun q hq hSq=>by
  have hq2:ops.toList[q]? = some ops.toList[q]:=T9 (by omega);exact dW D.lt (S:=fun j=>S j=true) hclo q _ hq2 (hclo q _ hq2 hSq)
 have hsame:∀o,L[i]? = some o->∀t∈o.looksN++o.dst.toList,∀(j:Nat) (q:O),L[j]? = some q->j≠i->q.dst=some t->S j=decide (j<i):=by
  intro o hlo t ht j q hj hne hd;rcases D.cmp i o hlo t ht j q hj hd hne with⟨g1,g2⟩|⟨g1,g2⟩
  .rw[hbef j g2];simp[g1]
  .have:¬S j=true:=fun hjl=>by
    have:=hbefj j (List.getElem?_eq_some_iff.1 hj).1 hjl i g2;rw[hSi]at this;cases this
   have e:S j=false:=by simpa using this
   rw[e];simp;omega
 by_cases c1:i<pre.length
 .obtain⟨ρi,g2,g1⟩:=hloc i c1 (by omega);simp only[UD]at g1;obtain⟨hgl,hn⟩:=Qv hXl ρ (gpre i c1) (xpre i (by omega)) hSi (hsame _ (gpre i c1))
  have hI':(pre.length==i||S pre.length)=false:=by
   have:(pre.length==i)=false:=by simp;omega
   rw[this,hI];rfl
  have:=wo (Q:=Q) (hG.mono hl) h (hget i _ o' (gpre i c1) ho') (g2.congr fun t ht=>by rw[g1 t,<-conv];exact hgl t (Ck _ t ht));split at this
  .rename_i hw;rw[if_pos hw];exact Oper.wp_mono2 (fun a' w' ⟨M',bm',tk',ρ',σ',⟨k1,k2⟩,k3,k4⟩=>⟨M',bm',tk',ρ',σ',⟨fun t=>by rw[k1];exact(hn t).symm,k2,hI'⟩,k3,k4⟩) (fun e a' w' hh=>hh) this
  .rename_i hw;rw[if_neg hw];exact⟨this.congr fun t=>hn t,hI'⟩
 .have c2:i=pre.length:=by omega
  subst c2;have hoo:=hget pre.length _ o' gpan ho'
  have hwant:Region.wanted o' (yielded ops a.tmps)=true:=by
   have hgd:=hoo;unfold okO at hgd;simp only[TU]at hgd;replace hgd:=hgd.2;split at hgd
   .rename_i hg2;simp[Region.wanted,hg2]
   .rename_i e _;cases e
   .cases hgd
  have hev:ev C (bY (bH L X 0 S) ρ) x=.iface ty u:=by
   rw[<-he];refine ch fun t _=>?_;rw[hρe t,conv,mA (l:=pre) (xs:=xs) (k:=0) (S:=S) (S':=fun _=>true) fun j _ hj=>hbef j (by have:=D.last j (by omega);rwa[show pre.length-1+1+0=pre.length by omega]at this)]
  rw[if_pos hwant];refine Oper.wp_mono2 (fun a' w' ⟨M',bm',tk',ρ',σ',hf,k3,k4⟩=>hf.elim) (fun e a' w' hh=>hh) (em (K:=fun _ _=>False) (Q:=Q) (hG.mono hl) h hoo ?_);simp only[cU,hev];exact hQ _
end
end Go.Proofs.YtnhphlmblenapaaGreatDoor
namespace Go.Proofs.YtnhphlmblenapaaGreatDoor
open Go.RowKit
inductive GK where
 | free (lo:Nat)
 | calm (lo hi:Nat)
 | slot (lo:Nat)
 | act
def GK.isAct:GK->Bool
 | .act=>true
 | _=>false
def OP.w1:OP->Option Nat
 | .mvo t=>some t
 | .app _ _ _ t _=>some t
 | .stoo _ t=>some t
 | _=>none
def OP.slotsG:OP->List Nat
 | .mvo t=>[t]
 | .app _ _ _ t y=>t::y.slots
 | .mkso _ _ xs=>xs.flatMap X.slots
 | .mkc _ _ _ x=>x.slots
 | .box _ x=>x.slots
 | .sto _ x y=>x.slots++y.slots
 | .stoo x t=>t::x.slots
 | .ldo x=>x.slots
 | .mst _ x y z=>x.slots++(y.slots++z.slots)
 | op=>op.slots
def O.looksG(o:O):List Nat:=o.op.slotsG++(match o.g with|some (t,_)=>[t]|none=>[])
def OP.isFree:OP->Bool
 | .load _ _ _ | .cbs _ | .mlk _ _ _ _ _ | .call _ _ | .callv _ _ | .calln _ _=>false
 | .mks _ _ _=>true
 | op=>cy op
def OP.isCalm:OP->Bool
 | .call _ _ | .callv _ _ | .calln _ _ | .mks _ _ _=>true
 | op=>cy op
def OP.isSlot:OP->Bool
 | .mvo _ | .nilo _ _ | .app _ _ _ _ _ | .mkso _ _ _ | .mkc _ _ _ _=>true
 | _=>false
def OP.isActG:OP->Option Nat->Bool
 | .sto _ _ _,d=>d.isNone
 | .stoo _ _,d=>d.isNone
 | .mst _ _ _ _,d=>d.isNone
 | .new _ _,_ | .box _ _,_ | .ldo _,_ | .call _ _,_ | .callv _ _,_=>true
 | _,_=>false
section
variable {C : Cx} {pr : Prot} {ρ : aj} {σ : LLV} {n : Nat} {Q : AEx -> aj -> LLV -> Prop}
theorem yH{o:O}(h:o.op.isCalm=true):o.looks=o.looksG:=by
 unfold O.looks O.looksG
 have:o.op.slots=o.op.slotsG:=by
  cases ho:o.op<;>rw[ho]at h<;>first|rfl|(simp[OP.isCalm,cy]at h)
 rw[this]<;>(cases o.g<;>rfl)
theorem IK{op:OP}(h:op.isFree=true)(σ σ2:LLV):pv C op ρ σ=pv C op ρ σ2:=by
 cases op<;>first|rfl|(simp[OP.isFree,cy]at h)
theorem qV{op:OP}(h:op.isFree=true){k:V->Prop}(σ2:LLV)(hc:bK C op ρ σ k):bK C op ρ σ2 k:=by
 unfold bK at hc;split at hc
 .cases h
 .cases h
 .exact hc
 .cases h
 .rename_i n1 n2 n3 n4;rw[IK h σ σ2]at hc;unfold bK;split
  .exact absurd rfl (n1 _ _)
  .exact absurd rfl (n2 _ _)
  .exact absurd rfl (n3 _ _ _)
  .exact absurd rfl (n4 _ _)
  .exact hc
theorem Loc.free{o:O}(h:o.op.isFree=true){x:V}(σ2:LLV)(hc:Loc C o ρ σ x):Loc C o ρ σ2 x:=by
 unfold Loc at hc ⊢;split at hc
 .exact qV h σ2 hc
 .split at hc
  .exact⟨fun e=>qV h σ2 (hc.1 e),hc.2⟩
  .exact hc
  .exact hc.elim
def pI(C:Cx)(op:OP)(ρ:aj)(σ:LLV)(a b:V)(σ':LLV):Prop:=match op with
 | .mvo t=>∃T k rows,get ρ t=.own T k rows/\a=.d (.sl rows)/\b=.own T k rows/\σ'=σ
 | .nilo T k=>b=.own T k []/\σ'=σ
 | .app T k bytes t y=>∃rows rows2,get ρ t=.own T k rows/\fw (ev C ρ y)=some rows2/\(rows2.all (fun r=>r.length==k)=true/\(rows.length+rows2.length)*bytes≤140737488355328)/\a=.d (.sl rows)/\b=.own T k (rows++rows2)/\σ'=σ
 | .mkso T k xs=>∃rows,dw (xs.map (ev C ρ))=some rows/\rows.all (fun r=>r.length==k)=true/\b=.own T k rows/\σ'=σ
 | .mkc T k bytes x=>∃kd n,ev C ρ x=.d (.lit (.int kd n))/\(0≤n/\n*bytes≤140737488355328)/\b=.own T k []/\σ'=σ
 | .new _ cs=>b=.ptr σ.length 0/\σ'=σ++[cs]
 | .box _ x=>(ev C ρ x).boxable=true/\b=.ptr σ.length 0/\σ'=σ++[(ev C ρ x).cells]
 | .sto k x y=>∃i o cs,ev C ρ x=.ptr i o/\σ[i]? = some cs/\((ev C ρ y).boxable=true/\(ev C ρ y).cells.length=k/\o+k≤cs.length/\cA cs=true)/\σ'=σ.set i (over cs o (ev C ρ y).cells)
 | .stoo x t=>∃i o T k rows cs,ev C ρ x=.ptr i o/\get ρ t=.own T k rows/\σ[i]? = some cs/\(o<cs.length/\cA cs=true)/\a=.d (.sl rows)/\σ'=σ.set i (over cs o [.own T k rows])
 | .ldo x=>∃i o cs T k rows,ev C ρ x=.ptr i o/\σ[i]? = some cs/\cs[o]? = some (.own T k rows)/\b=.own T k rows/\σ'=σ.set i (cs.set o (.d (.sl rows)))
 | .mst st x k v=>∃kv key,iz st σ (ev C ρ x)=some kv/\l9 st (ev C ρ k)=some key/\σ'=ph σ st (mR key (ev C ρ v).copy kv) (ev C ρ x)
 | .call f args=>Fun C f (args.map fun x=>(ev C ρ x).lend) σ (fun o σ''=>o=.ret b/\σ''=σ')
 | .callv x args=>∃f cap,ev C ρ x=.fn f cap/\Fun C f ((args.map fun x=>(ev C ρ x).lend)++cap) σ (fun o σ''=>o=.ret b/\σ''=σ')
 | _=>False
def ap(o:O)(w:V×V)(ρ:aj):aj:=putd (putd ρ o.op.w1 w.1) o.dst w.2
theorem qy(o:O)(w:V×V)(ρ:aj)(t:Nat):get (ap o w ρ) t=if o.dst=some t then w.2 else if o.op.w1=some t then w.1 else get ρ t:=by
 unfold ap;rw[ed,ed]
theorem Dy{o:O}{a b:V}{σ':LLV}(hc:o.op.isSlot=true\/o.op.isActG o.dst=true)(h:pI C o.op ρ σ a b σ'):cU C o.op o.dst ρ σ (fun ρ' σ''=>ρ'=ap o (a,b) ρ/\σ''=σ') Q:=by
 obtain⟨d,op,g⟩:=o;unfold ap;cases op<;>simp only[pI]at h<;>simp only[cU,OP.w1,putd]<;>first|exact h.elim|skip
 case mvo t=>obtain⟨T,k,rows,h1,rfl,rfl,rfl⟩:=h;rw[h1];first|exact⟨rfl,rfl⟩|exact⟨trivial,trivial⟩
 case nilo=>obtain⟨rfl,rfl⟩:=h;first|exact⟨rfl,rfl⟩|exact⟨trivial,trivial⟩
 case app=>obtain⟨rows,rows2,h1,h2,h3,rfl,rfl,rfl⟩:=h;rw[h1,h2];exact⟨⟨rfl,rfl,h3⟩,rfl,rfl⟩
 case mkso=>obtain⟨rows,h1,h2,rfl,rfl⟩:=h;rw[h1];exact⟨h2,rfl,rfl⟩
 case mkc=>obtain⟨kd,m,h1,h2,rfl,rfl⟩:=h;rw[h1];exact⟨h2,rfl,rfl⟩
 case new=>obtain⟨rfl,rfl⟩:=h;first|exact⟨rfl,rfl⟩|exact⟨trivial,trivial⟩
 case box=>obtain⟨h1,rfl,rfl⟩:=h;first|exact⟨h1,rfl,rfl⟩|exact⟨h1,trivial,trivial⟩
 case sto=>
  have hd:d=none:=by simpa[OP.isSlot,OP.isActG]using hc
  subst hd;obtain⟨i,o,cs,h1,h2,h3,rfl⟩:=h;rw[h1];simp only[h2];first|exact⟨h3,rfl,rfl⟩|exact⟨h3,trivial,trivial⟩
 case stoo=>
  have hd:d=none:=by simpa[OP.isSlot,OP.isActG]using hc
  subst hd;obtain⟨i,o,T,k,rows,cs,h1,h2,h3,h4,rfl,rfl⟩:=h;rw[h1,h2];simp only[h3];first|exact⟨h4,rfl,rfl⟩|exact⟨h4,trivial,trivial⟩
 case ldo=>obtain⟨i,o,cs,T,k,rows,h1,h2,h3,rfl,rfl⟩:=h;rw[h1];simp only[h2,h3];first|exact⟨rfl,rfl⟩|exact⟨trivial,trivial⟩
 case mst=>
  have hd:d=none:=by simpa[OP.isSlot,OP.isActG]using hc
  subst hd;obtain⟨kv,key,h1,h2,rfl⟩:=h;rw[h1];simp only[h2];first|exact⟨rfl,rfl⟩|exact⟨trivial,trivial⟩
 case call=>exact h.mono fun o σ'' ⟨e1,e2⟩=>by subst e1;exact⟨rfl,e2⟩
 case callv=>
  obtain⟨f,cap,h1,h2⟩:=h;rw[h1];exact h2.mono fun o σ'' ⟨e1,e2⟩=>by subst e1;exact⟨rfl,e2⟩
theorem mP{o:O}(hc:o.op.isSlot=true\/(o.op.isActG o.dst=true/\(∀f args,o.op≠.call f args)/\∀x args,o.op≠.callv x args)){K:aj->LLV->Prop}(h:cU C o.op o.dst ρ σ K Q):∃a b σ',pI C o.op ρ σ a b σ'/\K (ap o (a,b) ρ) σ'/\(o.op.isSlot=true->σ'=σ):=by
 obtain⟨d,op,g⟩:=o;unfold ap;cases op<;>first|(exfalso;simp[OP.isSlot,OP.isActG]at hc;done)|skip
 all_goals simp only[cU]at h
 case mvo t=>
  split at h
  .rename_i T k rows e;exact⟨_,_,σ,⟨T,k,rows,e,rfl,rfl,rfl⟩,h,fun _=>rfl⟩
  .exact h.elim
 case nilo T k=>exact⟨.junk,_,σ,⟨rfl,rfl⟩,h,fun _=>rfl⟩
 case app T k bytes t y=>
  split at h
  .rename_i T' k' rows rows2 e1 e2;obtain⟨⟨rfl,rfl,h1⟩,h2⟩:=h;exact⟨_,_,σ,⟨rows,rows2,e1,e2,h1,rfl,rfl,rfl⟩,h2,fun _=>rfl⟩
  .exact h.elim
 case mkso=>
  split at h
  .rename_i rows e;exact⟨.junk,_,σ,⟨rows,e,h.1,rfl,rfl⟩,h.2,fun _=>rfl⟩
  .exact h.elim
 case mkc=>
  split at h
  .rename_i kd m e;exact⟨.junk,_,σ,⟨kd,m,e,h.1,rfl,rfl⟩,h.2,fun _=>rfl⟩
  .exact h.elim
 case new=>exact⟨.junk,_,_,⟨rfl,rfl⟩,h,fun e=>by cases e⟩
 case box=>exact⟨.junk,_,_,⟨h.1,rfl,rfl⟩,h.2,fun e=>by cases e⟩
 case sto=>
  have hd:d=none:=by simpa[OP.isSlot,OP.isActG]using hc
  subst hd;split at h
  .rename_i i o e;split at h
   .rename_i cs e2;exact⟨.junk,.junk,_,⟨i,o,cs,e,e2,h.1,rfl⟩,h.2,fun e=>by cases e⟩
   .exact h.elim
  .exact h.elim
 case stoo=>
  have hd:d=none:=by simpa[OP.isSlot,OP.isActG]using hc
  subst hd;split at h
  .rename_i i o T k rows e e1;split at h
   .rename_i cs e2;exact⟨_,.junk,_,⟨i,o,T,k,rows,cs,e,e1,e2,h.1,rfl,rfl⟩,h.2,fun e=>by cases e⟩
   .exact h.elim
  .exact h.elim
 case ldo=>
  split at h
  .rename_i i o e;split at h
   .rename_i cs e2;split at h
    .rename_i T k rows e3;exact⟨.junk,_,_,⟨i,o,cs,T,k,rows,e,e2,e3,rfl,rfl⟩,h,fun e=>by cases e⟩
    .exact h.elim
   .exact h.elim
  .exact h.elim
 case mst=>
  have hd:d=none:=by simpa[OP.isSlot,OP.isActG]using hc
  subst hd;split at h
  .rename_i kv key e1 e2;exact⟨.junk,.junk,_,⟨kv,key,e1,e2,rfl⟩,h,fun e=>by cases e⟩
  .exact h.elim
theorem xY{op:OP}{ρ ρ':aj}{a b:V}{σ':LLV}(h:∀t∈op.slotsG,get ρ t=get ρ' t)(hr:pI C op ρ σ a b σ'):pI C op ρ' σ a b σ':=by
 have e1:∀(x:X),(∀t∈x.slots,t∈op.slotsG)->ev C ρ x=ev C ρ' x:=fun x hx=>ch fun t ht=>h t (hx t ht);cases op<;>simp only[pI]at hr ⊢ <;>simp only[OP.slotsG,OP.slots]at h e1<;>first|exact hr.elim|exact hr|skip
 case mvo t=>rw[<-h t (by simp)];exact hr
 case app T k bytes t y=>rw[<-h t (by simp),<-e1 y (fun t ht=>by simp[ht])];exact hr
 case mkso=>rw[<-ju h];exact hr
 case mkc x=>rw[<-e1 x (fun t ht=>ht)];exact hr
 case box x=>rw[<-e1 x (fun t ht=>ht)];exact hr
 case sto x y=>rw[<-e1 x (fun t ht=>by simp[ht]),<-e1 y (fun t ht=>by simp[ht])];exact hr
 case stoo x t=>rw[<-h t (by simp),<-e1 x (fun t ht=>by simp[ht])];exact hr
 case ldo x=>rw[<-e1 x (fun t ht=>ht)];exact hr
 case mst st x y z=>rw[<-e1 x (fun t ht=>by simp[ht]),<-e1 y (fun t ht=>by simp[ht]),<-e1 z (fun t ht=>by simp[ht])];exact hr
 case call f args=>
  have:(args.map fun x=>(ev C ρ' x).lend)=args.map fun x=>(ev C ρ x).lend:=Ub fun x hx=>by rw[e1 x fun t ht=>List.mem_flatMap.2 ⟨x,hx,ht⟩]
  rw[this];exact hr
 case callv y args=>
  have:(args.map fun x=>(ev C ρ' x).lend)=args.map fun x=>(ev C ρ x).lend:=Ub fun x hx=>by rw[e1 x fun t ht=>Uo _ (List.mem_flatMap.2 ⟨x,hx,ht⟩)]
  rw[this,<-e1 y (fun t ht=>by simp[ht])];exact hr
def BS(C:Cx)(op:OP)(ρ:aj)(σ:LLV)(P:V->LLV->Prop):Prop:=match op with
 | .call f args=>Fun C f (args.map fun x=>(ev C ρ x).lend) σ (fun o σ'=>∃u,o=.panic u/\P u σ')
 | .callv x args=>∃f cap,ev C ρ x=.fn f cap/\Fun C f ((args.map fun x=>(ev C ρ x).lend)++cap) σ (fun o σ'=>∃u,o=.panic u/\P u σ')
 | _=>False
theorem Ea{o:O}{P:V->LLV->Prop}(h:BS C o.op ρ σ P):cU C o.op o.dst ρ σ (fun _ _=>False) (fun e _ σ'=>∃u,e=.panic u/\P u σ'):=by
 obtain⟨d,op,g⟩:=o;cases op;case call=>exact Fun.mono h fun o σ'' ⟨u,e1,e2⟩=>by subst e1;exact⟨u,rfl,e2⟩
 case callv=>
  obtain⟨f,cap,h1,h2⟩:=h;simp only[cU];rw[h1];exact h2.mono fun o σ'' ⟨u,e1,e2⟩=>by subst e1;exact⟨u,rfl,e2⟩
 all_goals exact h.elim
theorem yu{op:OP}{ρ ρ':aj}{P:V->LLV->Prop}(h:∀t∈op.slotsG,get ρ t=get ρ' t)(hr:BS C op ρ σ P):BS C op ρ' σ P:=by
 have e1:∀(x:X),(∀t∈x.slots,t∈op.slotsG)->ev C ρ x=ev C ρ' x:=fun x hx=>ch fun t ht=>h t (hx t ht);cases op<;>simp only[BS]at hr ⊢ <;>simp only[OP.slotsG,OP.slots]at h e1<;>first|exact hr.elim|exact hr|skip
 case call f args=>
  have:(args.map fun x=>(ev C ρ' x).lend)=args.map fun x=>(ev C ρ x).lend:=Ub fun x hx=>by rw[e1 x fun t ht=>List.mem_flatMap.2 ⟨x,hx,ht⟩]
  rw[this];exact hr
 case callv y args=>
  have:(args.map fun x=>(ev C ρ' x).lend)=args.map fun x=>(ev C ρ x).lend:=Ub fun x hx=>by rw[e1 x fun t ht=>Uo _ (List.mem_flatMap.2 ⟨x,hx,ht⟩)]
  rw[this,<-e1 y (fun t ht=>by simp[ht])];exact hr
structure PendG where
 o:O
 ρ:aj
 ρ':aj
 hi:Nat
def reG(C:Cx)(m:Nat)(σ':LLV):List PendG->Prop
 | []=>True
 | p::r=>(if m≤p.hi then aZ C [p.o] p.ρ σ' (fun ρ'=>ρ'=p.ρ')else True)/\reG C m σ' r
def nE(C:Cx)(o:O)(ρ ρ':aj):Nat->List LLV->Prop
 | 0,_=>True
 | _+1,[]=>False
 | k+1,σ::h=>aZ C [o] ρ σ (fun ρ''=>ρ''=ρ')/\nE C o ρ ρ' k h
def xt(m hi:Nat)(x:PendG)(p:List PendG):List PendG:=if m<hi then x::p else p
def fd(C:Cx):List (O×GK)->Nat->List LLV->aj->LLV->Prop
 | [],_,_,_,_=>True
 | (o,.free lo)::r,m,h,ρ,σ=>if lo≤m then aZ C [o] ρ σ fun ρ'=>fd C r m h ρ' σ else fd C r m h (ap o (.junk,.junk) ρ) σ
 | (o,.calm lo _)::r,m,h,ρ,σ=>if lo≤m then aZ C [o] ρ σ fun ρ'=>nE C o ρ ρ' (m-lo) h/\fd C r m h ρ' σ else fd C r m h (ap o (.junk,.junk) ρ) σ
 | (o,.slot lo)::r,m,h,ρ,σ=>if lo≤m then cl C [o] ρ σ (fun e ρ' _=>e=.normal/\fd C r m h ρ' σ)else fd C r m h (ap o (.junk,.junk) ρ) σ
 | (o,.act)::r,m,h,ρ,σ=>fd C r m h (ap o (.junk,.junk) ρ) σ
def eT(C:Cx)(P:V->LLV->Prop)(K:aj->LLV->Prop):List (O×GK)->Nat->List LLV->List PendG->aj->LLV->Prop
 | [],_,_,_,ρ,σ=>K ρ σ
 | (o,.free _)::r,m,h,p,ρ,σ=>aZ C [o] ρ σ fun ρ'=>eT C P K r m h p ρ' σ
 | (o,.calm lo hi)::r,m,h,p,ρ,σ=>aZ C [o] ρ σ fun ρ'=>nE C o ρ ρ' (m-lo) h/\eT C P K r m h (xt m hi ⟨o,ρ,ρ',hi⟩ p) ρ' σ
 | (o,.slot _)::r,m,h,p,ρ,σ=>cl C [o] ρ σ fun e ρ' σ'=>e=.normal/\eT C P K r m h p ρ' σ'
 | (⟨d,.call f args,g⟩,.act)::r,m,h,p,ρ,σ=>
  (∃v σ1,Fun C f (args.map fun x=>(ev C ρ x).lend) σ (fun o σ'=>o=.ret v/\σ'=σ1)/\reG C (m+1) σ1 p/\eT C P K r (m+1) (σ::h) p (putd ρ d v) σ1)\/
  (Fun C f (args.map fun x=>(ev C ρ x).lend) σ (fun o σ'=>∃u,o=.panic u/\P u σ')/\fd C r m h (putd ρ d .junk) σ)
 | (⟨d,.callv x args,g⟩,.act)::r,m,h,p,ρ,σ=>∃f cap,ev C ρ x=.fn f cap/\
  ((∃v σ1,Fun C f ((args.map fun x=>(ev C ρ x).lend)++cap) σ (fun o σ'=>o=.ret v/\σ'=σ1)/\reG C (m+1) σ1 p/\eT C P K r (m+1) (σ::h) p (putd ρ d v) σ1)\/
  (Fun C f ((args.map fun x=>(ev C ρ x).lend)++cap) σ (fun o σ'=>∃u,o=.panic u/\P u σ')/\fd C r m h (putd ρ d .junk) σ))
 | (o,.act)::r,m,h,p,ρ,σ=>cl C [o] ρ σ fun e ρ' σ'=>e=.normal/\reG C (m+1) σ' p/\eT C P K r (m+1) (σ::h) p ρ' σ'
def da:List (O×GK)->(Nat->V×V)->Nat->(Nat->Bool)->aj->aj
 | [],_,_,_,ρ=>ρ
 | e::l,W,k,S,ρ=>da l W (k+1) S (if S k then ap e.1 (W k) ρ else ρ)
theorem oc:∀(l:List (O×GK)) (W:Nat->V×V) (k:Nat) (S:Nat->Bool) (ρ ρ':aj) (t:Nat),get ρ t=get ρ' t->get (da l W k S ρ) t=get (da l W k S ρ') t
 | [],_,_,_,_,_,_,h=>h
 | e::l,W,k,S,ρ,ρ',t,h=>by
  simp only[da];apply oc l;cases S k
  .exact h
  .simp only[if_true,qy,h]
def O.writes(o:O)(t:Nat):Prop:=o.dst=some t\/o.op.w1=some t
theorem ir:∀(l:List (O×GK)) (W:Nat->V×V) (k:Nat) (S S':Nat->Bool) (ρ:aj) (t:Nat),(∀i e,l[i]? = some e->e.1.writes t->S (k+i)=S' (k+i))->get (da l W k S ρ) t=get (da l W k S' ρ) t
 | [],_,_,_,_,_,_,_=>rfl
 | e::l,W,k,S,S',ρ,t,h=>by
  simp only[da];rw[ir l W (k+1) S S' _ t fun i e' he hw=>by have:=h (i+1) e' (by simpa using he) hw;rwa[show k+(i+1)=k+1+i by omega]at this];apply oc;have h0:=h 0 e (by simp);by_cases hw:e.1.writes t
  .rw[show S k=S' k from h0 hw]
  .unfold O.writes at hw;have h1:¬e.1.dst=some t:=fun h=>hw (.inl h);have h2:¬e.1.op.w1=some t:=fun h=>hw (.inr h);cases S k<;>cases S' k<;>simp[qy,h1,h2]
theorem zu:∀(l:List (O×GK)) (W W':Nat->V×V) (k:Nat) (S:Nat->Bool) (ρ:aj),(∀i,k≤i->W i=W' i)->da l W k S ρ=da l W' k S ρ
 | [],_,_,_,_,_,_=>rfl
 | e::l,W,W',k,S,ρ,h=>by
  simp only[da];rw[h k (UE _),zu l W W' (k+1) S _ fun i hi=>h i (by omega)]
theorem kx:∀(l:List (O×GK)) (W:Nat->V×V) (k:Nat) (S:Nat->Bool) (ρ:aj),(∀j,k≤j->S j=false)->da l W k S ρ=ρ
 | [],_,_,_,_,_=>rfl
 | e::l,W,k,S,ρ,h=>by
  simp only[da];rw[h k (UE _),kx l W (k+1) S _ fun j hj=>h j (by omega)];rfl
theorem oO:∀(l:List (O×GK)) (W:Nat->V×V) (k:Nat) (ρ:aj) (i:Nat) (e:O×GK),l[i]? = some e->da l W k (fun j=>decide (j<k+i+1)) ρ=ap e.1 (W (k+i)) (da l W k (fun j=>decide (j<k+i)) ρ)
 | [],_,_,_,_,_,h=>by simp at h
 | e'::l,W,k,ρ,0,e,h=>by
  simp at h;subst h;simp only[da];rw[kx _ _ _ _ _ (fun j hj=>by simp;omega),kx _ _ _ _ _ (fun j hj=>by simp;omega)];simp
 | e'::l,W,k,ρ,i+1,e,h=>by
  simp only[da];have:=oO l W (k+1) ρ i e (by simpa using h);rw[if_pos (by simp;omega),if_pos (by simp)];have e1:k+(i+1)=k+1+i:=by omega
  rw[e1];exact oO l W (k+1) _ i e (by simpa using h)
theorem AX{l:List (O×GK)}(W:Nat->V×V)(ρ:aj){S:Nat->Bool}{i:Nat}{e:O×GK}(he:l[i]? = some e)(hSi:S i=false)
 (hsame:∀t,(t∈e.1.looksG\/e.1.writes t)->∀(j:Nat) (q:O×GK),l[j]? = some q->j≠i->q.1.writes t->S j=decide (j<i)):
 (∀t∈e.1.looksG,get (da l W 0 (fun j=>decide (j<i)) ρ) t=get (da l W 0 S ρ) t)/\
 ∀t,get (da l W 0 (fun j=>j==i||S j) ρ) t=get (ap e.1 (W i) (da l W 0 S ρ)) t:=by
 refine⟨fun t ht=>?_,fun t=>?_⟩
 .refine ir l W 0 _ _ ρ t fun j q hq hw=>?_;rw[UD];by_cases e:j=i
  .subst e;rw[hSi];simp
  .exact(hsame t (.inl ht) j q hq e hw).symm
 .by_cases hw:e.1.writes t
  .have h1:=oO l W 0 ρ i e he;rw[UD]at h1
   have h2:get (da l W 0 (fun j=>j==i||S j) ρ) t=get (da l W 0 (fun j=>decide (j<i+1)) ρ) t:=ir l W 0 _ _ ρ t fun j q hq hw'=>by
    rw[UD];by_cases e:j=i
    .subst e;simp
    .simp only[hsame t (.inr hw) j q hq e hw'];have:(j==i)=false:=by simp[e]
     rw[this,TY,decide_eq_decide];omega
   rw[h2,h1,qy,qy];unfold O.writes at hw;split
   .rfl
   .rename_i h3;rw[if_pos (hw.resolve_left h3),if_pos (hw.resolve_left h3)]
  .have h1:¬e.1.dst=some t:=fun h=>hw (.inl h);have h2:¬e.1.op.w1=some t:=fun h=>hw (.inr h);rw[qy,if_neg h1,if_neg h2];refine ir l W 0 _ _ ρ t fun j q hq hw'=>?_;rw[UD]
   have:(j==i)=false:=by
    rw[beq_eq_false_iff_ne];intro ee;subst ee;rw[he]at hq;cases hq;exact hw hw'
   simp[this]
def nA:List (O×GK)->Nat->(Nat->Bool)->Nat
 | [],_,_=>0
 | e::l,k,S=>(if(e.2.isAct&&S k)=true then 1 else 0)+nA l (k+1) S
def nb:List (O×GK)->Nat->Nat
 | _,0=>0
 | [],_+1=>0
 | e::l,i+1=>(if e.2.isAct=true then 1 else 0)+nb l i
theorem nC:∀(l:List (O×GK)) (k:Nat) (S S':Nat->Bool),(∀j,j<l.length->S (k+j)=S' (k+j))->nA l k S=nA l k S'
 | [],_,_,_,_=>rfl
 | e::l,k,S,S',h=>by
  simp only[nA];rw[show S k=S' k from h 0 (by simp),nC l (k+1) S S' fun j hj=>by have:=h (j+1) (by simpa using hj);rwa[show k+(j+1)=k+1+j by omega]at this]
theorem xW:∀(l:List (O×GK)) (k:Nat),nA l k (fun _=>true)=nb l l.length
 | [],_=>rfl
 | e::l,k=>by simp only[nA,Uc,nb,TZ];rw[xW l (k+1)]
theorem u2:∀(l:List (O×GK)) (k:Nat),nA l k (fun _=>false)=0
 | [],_=>rfl
 | e::l,k=>by simp only[nA,T3];rw[u2 l (k+1)];rfl
theorem JA:∀(l:List (O×GK)) (k:Nat) (S:Nat->Bool) (c lo:Nat),(∀j e,l[j]? = some e->e.2.isAct=true->c+nb l j<lo->S (k+j)=true)->min lo (c+nb l l.length)≤c+nA l k S
 | [],k,S,c,lo,h=>by simp only[nA,UB,nb];omega
 | e::l,k,S,c,lo,h=>by
  simp only[nA,Uc,nb]
  have ih:=fun c' (hc':∀j,c'+nb l j<lo->c+((if e.2.isAct=true then 1 else 0)+nb l j)<lo)=>JA l (k+1) S c' lo (fun j e' he ha hn=>by
   have:=h (j+1) e' (by simpa using he) ha (by simp only[nb];exact hc' j hn);rwa[show k+(j+1)=k+1+j by omega]at this)
  cases ha:e.2.isAct with
  | false=>
   have:=ih c (fun j hn=>by simp only[ha];simp;omega);simp only[T5];simp;omega
  | true=>
   have:=ih (c+1) (fun j hn=>by simp only[ha];simp;omega);by_cases hlt:c<lo
   .have h0:=h 0 e (by simp) ha (by simp only[nb];omega);simp only[UG]at h0;simp only[h0,Bool.and_self];simp;omega
   .omega
theorem Jy:∀(l:List (O×GK)) (k:Nat) (S:Nat->Bool) (c hi:Nat),(∀j e,l[j]? = some e->e.2.isAct=true->hi≤c+nb l j->S (k+j)=false)->c+nA l k S≤max c hi
 | [],k,S,c,hi,h=>by simp only[nA];omega
 | e::l,k,S,c,hi,h=>by
  simp only[nA]
  have ih:=fun c' (hc':∀j,hi≤c'+nb l j->hi≤c+((if e.2.isAct=true then 1 else 0)+nb l j))=>Jy l (k+1) S c' hi (fun j e' he ha hn=>by
   have:=h (j+1) e' (by simpa using he) ha (by simp only[nb];exact hc' j hn);rwa[show k+(j+1)=k+1+j by omega]at this)
  cases ha:e.2.isAct with
  | false=>
   have:=ih c (fun j hn=>by simp only[ha];simp;omega);simp only[T5];simp;omega
  | true=>
   have:=ih (c+1) (fun j hn=>by simp only[ha];simp;omega);by_cases hlt:c<hi
   .split<;>omega
   .have h0:=h 0 e (by simp) ha (by simp only[nb];omega);simp only[UG]at h0;simp only[h0,T3];simp;omega
theorem FS:∀(l:List (O×GK)) (k:Nat) (S:Nat->Bool) (i:Nat) (e:O×GK),l[i]? = some e->S (k+i)=false->nA l k (fun j=>j==k+i||S j)=nA l k S+if e.2.isAct=true then 1 else 0
 | [],_,_,_,_,h,_=>by simp at h
 | e'::l,k,S,0,e,h,hS=>by
  simp at h;subst h;simp only[UG]at hS ⊢;simp only[nA,hS,T3,beq_self_eq_true,T6,TZ]
  rw[nC l (k+1) (fun j=>j==k||S j) S fun j hj=>by
   have:(k+1+j==k)=false:=by simp;omega
   simp[this]]
  simp;omega
 | e'::l,k,S,i+1,e,h,hS=>by
  simp only[nA];have e1:k+(i+1)=k+1+i:=by omega
  rw[e1]at hS ⊢;rw[FS l (k+1) S i e (by simpa using h) hS];have:(k==k+1+i)=false:=by simp;omega
  simp only[this,TY];omega
def nk(C:Cx)(P:V->LLV->Prop)(e:O×GK)(k z:Nat)(sq:Nat->LLV)(ρi:aj)(w:V×V):Prop:=match e.2 with
 | .free lo=>lo≤z->∀σ,Loc C e.1 ρi σ w.2
 | .calm lo hi=>lo≤z->∀q,lo≤q->q≤hi->q≤z->Loc C e.1 ρi (sq q) w.2
 | .slot lo=>lo≤z->∀σ,pI C e.1.op ρi σ w.1 w.2 σ
 | .act=>(k<z->pI C e.1.op ρi (sq k) w.1 w.2 (sq (k+1)))/\(k=z->BS C e.1.op ρi (sq z) P)
def ke(e:O×GK)(k:Nat):Bool:=match e.2 with
 | .free lo=>e.1.op.isFree&&e.1.op.isCalm&&decide (lo≤k)
 | .calm lo hi=>e.1.op.isCalm&&e.1.dst.isSome&&decide (lo≤k)&&decide (k≤hi)
 | .slot lo=>e.1.op.isSlot&&e.1.g.isNone&&decide (lo≤k)
 | .act=>e.1.op.isActG e.1.dst&&e.1.g.isNone
theorem ry{o:O}{K:aj->Prop}(h:aZ C [o] ρ σ K):∃x ρ',Loc C o ρ σ x/\K ρ'/\∀t,get ρ' t=get (putd ρ o.dst x) t:=by
 obtain⟨xs,hl,⟨ρ',h1,h2⟩,h3⟩:=p8 (k:=0) h
 match xs,hl with
 | [x],_=>
  obtain⟨ρi,g1,g2⟩:=h3 0 (by simp) (by simp);refine⟨x,ρ',g1.congr fun t _=>?_,h1,fun t=>?_⟩
  .rw[g2 t];simp[bH,bY]
  .rw[h2 t];simp[bH,bY]
theorem qe{o:O}{ρ':aj}{x:V}{d:Nat}(hd:o.dst=some d)(hg:∀t,get ρ' t=get (putd ρ o.dst x) t)(h:aZ C [o] ρ σ fun ρ''=>ρ''=ρ'):Loc C o ρ σ x:=by
 obtain⟨x2,ρ2,h1,rfl,h3⟩:=ry h;have h4:=h3 d;have h5:=hg d;rw[ed,if_pos hd]at h4 h5;rw[<-h5,h4];exact h1
theorem AA{o:O}(h:o.op.isCalm=true):o.op.w1=none:=by
 cases ho:o.op<;>rw[ho]at h<;>first|rfl|(simp[OP.isCalm,cy]at h)
theorem pQ{o:O}(h:o.op.isCalm=true)(a x:V)(ρ:aj):ap o (a,x) ρ=putd ρ o.dst x:=by
 unfold ap;rw[AA h];rfl
theorem rc{o:O}{ρ':aj}:∀{n:Nat} {h:List LLV},nE C o ρ ρ' n h->∀r,r<n->∃σ,h[r]? = some σ/\aZ C [o] ρ σ fun ρ''=>ρ''=ρ'
 | 0,_,_,r,hr=>by omega
 | n+1,[],hb,_,_=>hb.elim
 | n+1,σ::h,hb,0,_=>⟨σ,rfl,hb.1⟩
 | n+1,σ::h,hb,r+1,hr=>by
  obtain⟨σ',h1,h2⟩:=rc hb.2 r (by omega);exact⟨σ',by simpa using h1,h2⟩
theorem Dq{m:Nat}{σ':LLV}:∀{p:List PendG},reG C m σ' p->∀q∈p,m≤q.hi->aZ C [q.o] q.ρ σ' fun ρ'=>ρ'=q.ρ'
 | [],_,_,hq,_=>by simp at hq
 | x::p,h,q,hq,hm=>by
  rcases List.mem_cons.1 hq with rfl|hq
  .have:=h.1;rwa[if_pos hm]at this
  .exact Dq h.2 q hq hm
theorem gq{P:V->LLV->Prop}{e:O×GK}{l:List (O×GK)}{k m m' z:Nat}{sq:Nat->LLV}{ρ ρ2:aj}{w:V×V}{W:Nat->V×V}(hm:m'=m+if e.2.isAct=true then 1 else 0)
 (h0:nk C P e m z sq ρ w)(hρ2:∀t,get ρ2 t=get (ap e.1 w ρ) t)
 (ht:∀i (hi:i<l.length),∃ρi,(∀t,get ρi t=get (da l W (k+1) (fun j=>decide (j<k+1+i)) ρ2) t)/\nk C P l[i] (m'+nb l i) z sq ρi (W (k+1+i))):
 ∀i (hi:i<(e::l).length),∃ρi,(∀t,get ρi t=get (da (e::l) (fun i=>if i=k then w else W i) k (fun j=>decide (j<k+i)) ρ) t)/\nk C P (e::l)[i] (m+nb (e::l) i) z sq ρi (if k+i=k then w else W (k+i)):=by
 intro i hi;cases i with
 | zero=>
  refine⟨ρ,fun t=>?_,?_⟩
  .rw[kx _ _ _ _ _ fun j hj=>by simp;omega]
  .simpa[nb]using h0
 | succ i=>
  obtain⟨ρi,g1,g2⟩:=ht i (by simpa using hi);refine⟨ρi,fun t=>?_,?_⟩
  .rw[g1 t];simp only[da,if_pos (show decide (k<k+(i+1))=true by simp),if_true];rw[zu l (fun i=>if i=k then w else W i) W (k+1) _ _ fun j hj=>if_neg (by omega),show k+(i+1)=k+1+i by omega];exact oc _ _ _ _ _ _ _ (hρ2 t)
  .simp only[Uu,nb];have hne:¬(k+(i+1)=k):=by omega
   simp only[if_neg hne];rw[show k+(i+1)=k+1+i by omega,<-UI,<-hm];exact g2
theorem nR{P:V->LLV->Prop}{m:Nat}{h:List LLV}{sq:Nat->LLV}(hs:sq m=σ)(hh:∀r,r<m->h[r]? = some (sq (m-1-r))):∀(l:List (O×GK)) (k c:Nat) (ρ:aj),m<c->(∀i e,l[i]? = some e->ke e (c+nb l i)=true)->fd C l m h ρ σ->
 ∃W:Nat->V×V,∀i (hi:i<l.length),∃ρi,(∀t,get ρi t=get (da l W k (fun j=>decide (j<k+i)) ρ) t)/\nk C P l[i] (c+nb l i) m sq ρi (W (k+i))
 | [],_,_,_,_,_,_=>⟨fun _=>(.junk,.junk),fun i hi=>by simp at hi⟩
 | (o,g)::l,k,c,ρ,hmc,hok,hp=>by
  have hok0:=hok 0 _ rfl;simp only[nb,UG]at hok0
  have hokt:∀c',c'=c+(if g.isAct=true then 1 else 0)->∀i e,l[i]? = some e->ke e (c'+nb l i)=true:=fun c' hc' i e he=>by
   have:=hok (i+1) e (by simpa using he);simp only[nb]at this;rw[hc',UI];exact this
  have skip:∀c',c'=c+(if g.isAct=true then 1 else 0)->nk C P (o,g) c m sq ρ (.junk,.junk)->fd C l m h (ap o (.junk,.junk) ρ) σ->∃W:Nat->V×V,∀i (hi:i<((o,g)::l).length),∃ρi,(∀t,get ρi t=get (da ((o,g)::l) W k (fun j=>decide (j<k+i)) ρ) t)/\nk C P ((o,g)::l)[i] (c+nb ((o,g)::l) i) m sq ρi (W (k+i)):=fun c' hc' h0 hr=>by
   obtain⟨W,hW⟩:=nR hs hh l (k+1) c' (ap o (.junk,.junk) ρ) (by omega) (hokt c' hc') hr;exact⟨_,gq hc' h0 (fun _=>rfl) hW⟩
  cases g with
  | free lo=>
   simp only[fd]at hp;simp only[ke,TU]at hok0;split at hp
   .obtain⟨x,ρ',h1,h2,h3⟩:=ry hp;obtain⟨W,hW⟩:=nR hs hh l (k+1) c ρ' hmc (hokt c rfl) h2;exact⟨_,gq (e:=(o,.free lo)) (w:=(.junk,x)) rfl (fun _ σ2=>h1.free hok0.1.1 σ2) (fun t=>by rw[h3 t,pQ hok0.1.2]) hW⟩
   .exact skip c rfl (fun hz=>absurd hz (by assumption)) hp
  | calm lo hi=>
   simp only[fd]at hp;simp only[ke,TU,decide_eq_true_eq]at hok0;split at hp
   .rename_i hlo;obtain⟨x,ρ',h1,⟨h2,h4⟩,h3⟩:=ry hp;obtain⟨d,hd⟩:=Option.isSome_iff_exists.1 hok0.1.1.2;obtain⟨W,hW⟩:=nR hs hh l (k+1) c ρ' hmc (hokt c rfl) h4;refine⟨_,gq (e:=(o,.calm lo hi)) (w:=(.junk,x)) rfl (fun _ q q1 q2 q3=>?_) (fun t=>by rw[h3 t,pQ hok0.1.1.1]) hW⟩;by_cases e:q=m
    .subst e;rw[hs];exact h1
    .obtain⟨σ',g1,g2⟩:=rc h2 (m-1-q) (by omega);rw[hh _ (by omega),show m-1-(m-1-q)=q by omega]at g1;cases g1;exact qe hd h3 g2
   .exact skip c rfl (fun hz=>absurd hz (by assumption)) hp
  | slot lo=>
   simp only[fd]at hp;simp only[ke,TU,UM]at hok0;split at hp
   .simp only[cl,hok0.1.2]at hp;obtain⟨a,b,σ',h1,⟨-,h2⟩,h3⟩:=mP (.inl hok0.1.1) hp;have hσ:=h3 hok0.1.1;rw[hσ]at h1;obtain⟨W,hW⟩:=nR hs hh l (k+1) c _ hmc (hokt c rfl) h2;refine⟨_,gq (e:=(o,.slot lo)) (w:=(a,b)) rfl (fun _ σ2=>?_) (fun t=>rfl) hW⟩;cases ho:o.op<;>rw[ho]at h1 hok0<;>first|(simp[OP.isSlot]at hok0;done)|skip
    all_goals (simp only[pI]at h1 ⊢;simpa using h1)
   .exact skip c rfl (fun hz=>absurd hz (by assumption)) hp
  | act=>
   simp only[fd]at hp;exact skip (c+1) rfl ⟨fun hz=>by omega,fun hz=>by omega⟩ hp
def ExG(C:Cx)(P:V->LLV->Prop)(K:aj->LLV->Prop)(l:List (O×GK))(k m:Nat)(p:List PendG)(ρ:aj)(sq0:Nat->LLV):Prop:=
 ∃(W:Nat->V×V) (sq:Nat->LLV) (z:Nat),(∀q,q≤m->sq q=sq0 q)/\m≤z/\z≤m+nb l l.length/\
  (∀q∈p,∀r,m<r->r≤z->r≤q.hi->aZ C [q.o] q.ρ (sq r) fun ρ'=>ρ'=q.ρ')/\
  (∀i (hi:i<l.length),∃ρi,(∀t,get ρi t=get (da l W k (fun j=>decide (j<k+i)) ρ) t)/\nk C P l[i] (m+nb l i) z sq ρi (W (k+i)))/\
  (z=m+nb l l.length->∃ρf,K ρf (sq z)/\∀t,get ρf t=get (da l W k (fun _=>true) ρ) t)
theorem uI{P:V->LLV->Prop}{K:aj->LLV->Prop}:∀(l:List (O×GK)) (k m:Nat) (h:List LLV) (p:List PendG) (ρ:aj) (σ:LLV) (sq0:Nat->LLV),sq0 m=σ->(∀r,r<m->h[r]? = some (sq0 (m-1-r)))->
 (∀i e,l[i]? = some e->ke e (m+nb l i)=true)->eT C P K l m h p ρ σ->
 ExG C P K l k m p ρ sq0
 | [],k,m,h,p,ρ,σ,sq0,hs,hh,hok,hg=>⟨fun _=>(.junk,.junk),sq0,m,fun _ _=>rfl,UE _,by simp[nb],fun q hq r h1 h2=>by omega,fun i hi=>by simp at hi,fun _=>⟨ρ,by rw[hs];exact hg,fun _=>rfl⟩⟩
 | (o,g)::l,k,m,h,p,ρ,σ,sq0,hs,hh,hok,hg=>by
  have hok0:=hok 0 _ rfl;simp only[nb,UG]at hok0
  have hokt:∀c',c'=m+(if g.isAct=true then 1 else 0)->∀i e,l[i]? = some e->ke e (c'+nb l i)=true:=fun c' hc' i e he=>by
   have:=hok (i+1) e (by simpa using he);simp only[nb]at this;rw[hc',UI];exact this
  have fin:∀{W:Nat->V×V} {w:V×V} {ρ2:aj},(∀t,get ρ2 t=get (ap o w ρ) t)->∀{ρf:aj},(∀t,get ρf t=get (da l W (k+1) (fun _=>true) ρ2) t)->∀t,get ρf t=get (da ((o,g)::l) (fun i=>if i=k then w else W i) k (fun _=>true) ρ) t:=fun{W w ρ2} h1 {ρf} h2 t=>by
   simp only[da,if_true];rw[h2 t,zu l (fun i=>if i=k then w else W i) W (k+1) _ _ fun j hj=>if_neg (by omega)];exact oc _ _ _ _ _ _ _ (h1 t)
  have calm:g.isAct=false->∀(p':List PendG) (ρ':aj) (w:V×V),(∀q∈p,q∈p')->(∀t,get ρ' t=get (ap o w ρ) t)->eT C P K l m h p' ρ' σ->
   (∀(sq:Nat->LLV) (z:Nat),m≤z->(∀q,q≤m->sq q=sq0 q)->(∀q∈p',∀r,m<r->r≤z->r≤q.hi->aZ C [q.o] q.ρ (sq r) fun ρ'=>ρ'=q.ρ')->nk C P (o,g) m z sq ρ w)->ExG C P K ((o,g)::l) k m p ρ sq0:=fun hna p' ρ' w hp hρ hr hf=>by
   obtain⟨W,sq,z,g1,g2,g3,g4,g5,g6⟩:=uI l (k+1) m h p' ρ' σ sq0 hs hh (hokt m (by simp[hna])) hr;have hn:nb ((o,g)::l) ((o,g)::l).length=nb l l.length:=by simp[nb,hna]
   exact⟨fun i=>if i=k then w else W i,sq,z,g1,g2,by rw[hn];exact g3,fun q hq=>g4 q (hp q hq),gq (by simp[hna]) (hf sq z g2 g1 g4) hρ g5,fun hz=>by
    rw[hn]at hz;obtain⟨ρf,k1,k2⟩:=g6 hz;exact⟨ρf,k1,fin hρ k2⟩⟩
  have acts:g=.act->∀(ρ':aj) (w:V×V) (σ1:LLV),(∀t,get ρ' t=get (ap o w ρ) t)->pI C o.op ρ σ w.1 w.2 σ1->reG C (m+1) σ1 p->eT C P K l (m+1) (σ::h) p ρ' σ1->ExG C P K ((o,g)::l) k m p ρ sq0:=fun hg ρ' w σ1 hρ hE hre hr=>by
   subst hg
   obtain⟨W,sq,z,g1,g2,g3,g4,g5,g6⟩:=uI l (k+1) (m+1) (σ::h) p ρ' σ1 (fun q=>if q≤m then sq0 q else σ1) (if_neg (by omega)) (fun r hr=>by
    cases r with
    | zero=>simp[hs]
    | succ r=>
     have:=hh r (by omega);simp only[List.getElem?_cons_succ,this];rw[if_pos (by omega),show m+1-1-(r+1)=m-1-r by omega]) (hokt (m+1) rfl) hr
   have hn:m+nb ((o,.act)::l) ((o,GK.act)::l).length=m+1+nb l l.length:=by simp[nb,GK.isAct];omega
   have e1:∀q,q≤m->sq q=sq0 q:=fun q hq=>(g1 q (by omega)).trans (if_pos hq);have e2:sq (m+1)=σ1:=(g1 _ (UE _)).trans (if_neg (by omega));refine⟨fun i=>if i=k then w else W i,sq,z,e1,by omega,by rw[hn];exact g3,fun q hq r h1 h2 h3=>?_,gq (e:=(o,.act)) rfl ⟨fun _=>?_,fun hz=>by omega⟩ hρ g5,fun hz=>?_⟩
   .by_cases e:r=m+1
    .subst e;rw[e2];exact Dq hre q hq h3
    .exact g4 q hq r (by omega) h2 h3
   .rw[e2,e1 m (UE _),hs];exact hE
   .rw[hn]at hz;obtain⟨ρf,k1,k2⟩:=g6 hz;exact⟨ρf,k1,fin hρ k2⟩
  have pans:g=.act->BS C o.op ρ σ P->fd C l m h (ap o (.junk,.junk) ρ) σ->ExG C P K ((o,g)::l) k m p ρ sq0:=fun hg hE hr=>by
   subst hg;obtain⟨W,hW⟩:=nR (P:=P) (sq:=sq0) hs hh l (k+1) (m+1) _ (by omega) (hokt (m+1) rfl) hr;exact⟨fun i=>if i=k then(.junk,.junk)else W i,sq0,m,fun _ _=>rfl,UE _,Nat.le_add_right _ _,fun q hq r h1 h2=>by omega,gq (e:=(o,.act)) rfl ⟨fun hz=>by omega,fun _=>by rw[hs];exact hE⟩ (fun _=>rfl) hW,fun hz=>by simp[nb,GK.isAct]at hz⟩
  cases g with
  | free lo=>
   simp only[eT]at hg;simp only[ke,TU]at hok0;obtain⟨x,ρ',h1,h2,h3⟩:=ry hg;exact calm rfl p ρ' (.junk,x) (fun _ h=>h) (fun t=>by rw[h3 t,pQ hok0.1.2]) h2 fun sq z _ _ _ _ σ2=>h1.free hok0.1.1 σ2
  | calm lo hi=>
   simp only[eT]at hg;simp only[ke,TU,decide_eq_true_eq]at hok0;obtain⟨x,ρ',h1,⟨h2,h4⟩,h3⟩:=ry hg;obtain⟨d,hd⟩:=Option.isSome_iff_exists.1 hok0.1.1.2;refine calm rfl _ ρ' (.junk,x) (fun q hq=>?_) (fun t=>by rw[h3 t,pQ hok0.1.1.1]) h4 fun sq z hz hsq hpd _ q q1 q2 q3=>?_
   .unfold xt;split
    .exact List.mem_cons_of_mem _ hq
    .exact hq
   .by_cases e:q=m
    .subst e;rw[hsq q (UE _),hs];exact h1
    .by_cases e2:q<m
     .obtain⟨σ',k1,k2⟩:=rc h2 (m-1-q) (by omega);rw[hh _ (by omega),show m-1-(m-1-q)=q by omega]at k1;cases k1;rw[hsq q (by omega)];exact qe hd h3 k2
     .have:=hpd ⟨o,ρ,ρ',hi⟩ (by unfold xt;rw[if_pos (by omega)];simp) q (by omega) q3 q2;exact qe hd h3 this
  | slot lo=>
   simp only[eT]at hg;simp only[ke,TU,UM]at hok0;simp only[cl,hok0.1.2]at hg;obtain⟨a,b,σ',h1,⟨-,h2⟩,h3⟩:=mP (.inl hok0.1.1) hg;have hσ:=h3 hok0.1.1;rw[hσ]at h1 h2;refine calm rfl p _ (a,b) (fun _ h=>h) (fun _=>rfl) h2 fun sq z _ _ _ _ σ2=>?_;cases ho:o.op<;>rw[ho]at h1 hok0<;>first|(simp[OP.isSlot]at hok0;done)|skip
   all_goals (simp only[pI]at h1 ⊢;simpa using h1)
  | act=>
   simp only[ke,TU,UM]at hok0;obtain⟨d,op,gd⟩:=o
   have det:(∀f args,op≠.call f args)->(∀x args,op≠.callv x args)->(cl C [⟨d,op,gd⟩] ρ σ fun e ρ' σ'=>e=.normal/\reG C (m+1) σ' p/\eT C P K l (m+1) (σ::h) p ρ' σ')->ExG C P K ((⟨d,op,gd⟩,.act)::l) k m p ρ sq0:=fun n1 n2 hg=>by
    simp only at hok0;simp only[cl,hok0.2]at hg;obtain⟨a,b,σ',h1,⟨-,h2,h4⟩,h3⟩:=mP (o:=⟨d,op,gd⟩) (.inr ⟨hok0.1,n1,n2⟩) hg;exact acts rfl _ (a,b) σ' (fun _=>rfl) h1 h2 h4
   cases op
   case call f args=>
    simp only[eT]at hg;rcases hg with⟨v,σ1,h1,h2,h3⟩|⟨h1,h2⟩
    .exact acts rfl _ (.junk,v) σ1 (fun _=>rfl) h1 h2 h3
    .exact pans rfl h1 h2
   case callv x args=>
    simp only[eT]at hg;obtain⟨f,cap,he,hg⟩:=hg;rcases hg with⟨v,σ1,h1,h2,h3⟩|⟨h1,h2⟩
    .exact acts rfl _ (.junk,v) σ1 (fun _=>rfl) ⟨f,cap,he,h1⟩ h2 h3
    .exact pans rfl ⟨f,cap,he,h1⟩ h2
   all_goals exact det (fun _ _ h=>by cases h) (fun _ _ h=>by cases h) (by simpa only[eT]using hg)
def O.wl(o:O):List Nat:=o.dst.toList++o.op.w1.toList
def loG(e:O×GK)(k:Nat):Nat:=match e.2 with
 | .free lo=>lo
 | .calm lo _=>lo
 | .slot lo=>lo
 | .act=>k
def hiG(e:O×GK)(k:Nat):Option Nat:=match e.2 with
 | .calm _ hi=>some hi
 | .act=>some k
 | _=>none
def no(l:List (O×GK))(os:List Oper):Bool:=
 let bf:=bS os []
 ((Uh os.length).all fun i=>match os[i]? with|some o=>(aW o).all fun j=>decide (j<i)|none=>true) &&
 ((Uh l.length).all fun i=>match l[i]? with
   | some e=>ke e (nb l i)&&((Uh l.length).all fun j=>j==i||(match l[j]? with
    | some q=>(!((e.1.looksG++e.1.wl).any fun t=>q.1.wl.contains t)||(if j<i then(bf.getD i []).contains j else(bf.getD j []).contains i)) &&
     (!q.2.isAct||((!decide (nb l j<loG e (nb l i))||(bf.getD i []).contains j)&&(match hiG e (nb l i)with|some hi=>!decide (hi≤nb l j)||(bf.getD j []).contains i|none=>true)))
    | none=>true))
   | none=>true)
structure OKG(l:List (O×GK))(os:List Oper):Prop where
 lt:∀(i:Nat) (o:Oper),os[i]? = some o->∀j∈aW o,j<i
 one:∀(i:Nat) (e:O×GK),l[i]? = some e->ke e (nb l i)=true
 cmp:∀(i:Nat) (e:O×GK),l[i]? = some e->∀t,(t∈e.1.looksG\/e.1.writes t)->∀(j:Nat) (q:O×GK),l[j]? = some q->j≠i->q.1.writes t->(j<i/\j∈(bS os []).getD i [])\/(i<j/\i∈(bS os []).getD j [])
 lo:∀(i:Nat) (e:O×GK),l[i]? = some e->∀(j:Nat) (q:O×GK),l[j]? = some q->j≠i->q.2.isAct=true->nb l j<loG e (nb l i)->j∈(bS os []).getD i []
 hi:∀(i:Nat) (e:O×GK),l[i]? = some e->∀(j:Nat) (q:O×GK),l[j]? = some q->j≠i->q.2.isAct=true->∀h,hiG e (nb l i)=some h->h≤nb l j->i∈(bS os []).getD j []
theorem tj{o:O}{t:Nat}:t∈o.wl↔o.writes t:=by
 unfold O.wl O.writes;simp[Un]
theorem yk{l:List (O×GK)}{os:List Oper}(h:no l os=true):OKG l os:=by
 unfold no at h;simp only[TU]at h;obtain⟨h1,h2⟩:=h;simp only[Ua,Uk]at h1 h2
 have two:∀(i:Nat) (e:O×GK),l[i]? = some e->ke e (nb l i)=true/\∀(j:Nat) (q:O×GK),l[j]? = some q->j≠i->_:=fun i e he=>by
  have:=h2 i (List.getElem?_eq_some_iff.1 he).1;rw[he]at this;simp only[TU,Ua,Uk]at this;refine⟨this.1,fun j q hq hne=>?_⟩;have h3:=this.2 j (List.getElem?_eq_some_iff.1 hq).1;rw[hq]at h3;have hne':(j==i)=false:=by simp[hne]
  rw[hne',TY,TU]at h3;exact h3
 refine⟨fun i o ho j hj=>?_,fun i e he=>(two i e he).1,fun i e he t ht j q hq hne hw=>?_,fun i e he j q hq hne ha hlt=>?_,fun i e he j q hq hne ha hh eh hle=>?_⟩
 .have:=h1 i (List.getElem?_eq_some_iff.1 ho).1;rw[ho]at this;simpa using List.all_eq_true.1 this j hj
 .have h3:=((two i e he).2 j q hq hne).1
  have hany:((e.1.looksG++e.1.wl).any fun t=>q.1.wl.contains t)=true:=by
   rw[List.any_eq_true];refine⟨t,?_,by rw[List.contains_iff_mem];exact tj.2 hw⟩;rw[Un];exact ht.imp id tj.2
  rw[hany]at h3;simp only[T1,TY]at h3;split at h3
  .exact .inl ⟨by assumption,by simpa using h3⟩
  .exact .inr ⟨by omega,by simpa using h3⟩
 .have h3:=((two i e he).2 j q hq hne).2;simp only[ha,T1,TY,TU,TX,TW,decide_eq_false_iff_not]at h3;rcases h3.1 with h4|h4
  .exact absurd hlt h4
  .simpa using h4
 .have h3:=((two i e he).2 j q hq hne).2;simp only[ha,T1,TY,TU,eh,TX,TW,decide_eq_false_iff_not]at h3;rcases h3.2 with h4|h4
  .exact absurd hle h4
  .simpa using h4
theorem Ae:∀(l:List (O×GK)) (i:Nat),nb l i≤nb l l.length
 | [],0=>UE _
 | [],_+1=>UE _
 | e::l,0=>UH _
 | e::l,i+1=>by simp only[nb,Uc];have:=Ae l i;omega
theorem Jm:∀(l:List (O×GK)) (i:Nat) (e:O×GK),l[i]? = some e->e.2.isAct=true->nb l i<nb l l.length
 | [],_,_,h,_=>by simp at h
 | e'::l,0,e,h,ha=>by simp at h;subst h;simp only[nb,Uc,ha];simp;omega
 | e'::l,i+1,e,h,ha=>by simp only[nb,Uc];have:=Jm l i e (by simpa using h) ha;omega
theorem xh{M0:av}{bm0:List Nat}{w0:World}(hG:C.glob M0 pr w0){id:Nat}{ops:Array Oper}{l:List (O×GK)}{M:av}{bm:List Nat}{tk:bA}{a:Act}{w:World}(hok:iJ C.tab n ops (l.map (·.1)) ops.toList=true)(hdr:no l ops.toList=true)
 (hl:Later M0 bm0 pr w0 M bm w)(h:SRel M bm tk pr ρ σ n a w)
 (hq:eT C (fun u σ'=>∀ρ',Q (.panic u) ρ' σ') (fun ρ' σ'=>Q .normal ρ' σ') l 0 [] [] ρ σ):
 (Code.region id ops true).wp C.P (bJ M0 bm0 pr w0 n Q) a w:=by
 obtain⟨hlen,hget⟩:=jl hok;have D:=yk hdr;have hnl:l.length=ops.size:=by have:=hlen;simp at this;exact this
 obtain⟨W,sq,z,e0,-,e2,-,facts,fin⟩:=uI l 0 0 [] [] ρ σ (fun _=>σ) rfl (fun r hr=>by omega) (fun i e he=>by rw[UD];exact D.one i e he) hq;simp only[UD]at e2 facts fin;have sq0:sq 0=σ:=e0 0 (UE _)
 have fact:∀(i:Nat) (e:O×GK),l[i]? = some e->∃ρi,(∀t,get ρi t=get (da l W 0 (fun j=>decide (j<i)) ρ) t)/\nk C (fun u σ'=>∀ρ',Q (.panic u) ρ' σ') e (nb l i) z sq ρi (W i):=fun i e he=>by
  obtain⟨hi,rfl⟩:=List.getElem?_eq_some_iff.1 he;exact facts i hi
 obtain⟨ρe,hρe⟩:∃ρe,∀t,get ρe t=get (da l W 0 (fun _=>true) ρ) t:=⟨_,fun _=>rfl⟩
 have pick:∃ρf,(∀t,get ρf t=get (da l W 0 (fun _=>true) ρ) t)/\(z=nb l l.length->Q .normal ρf (sq z)):=by
  by_cases hz:z=nb l l.length
  .obtain⟨ρf,k1,k2⟩:=fin hz;exact⟨ρf,k2,fun _=>k1⟩
  .exact⟨ρe,hρe,fun e=>absurd e hz⟩
 obtain⟨ρf,f1,f2⟩:=pick;refine oK (M:=M) (bm:=bm) (tk:=tk) (fun S=>da l W 0 S ρ) (fun S=>sq (nA l 0 S)) ρf (sq (nb l l.length)) (fun S=>nA l 0 S≤z) (by rw[u2];exact UH _) (fun S S' hS hI=>by rw[<-nC l 0 S S' fun j hj=>by rw[UD];exact hS j (by omega)];exact hI) D.lt (fun S S' hS=>⟨fun t=>?_,?_⟩) hl ?_ (fun hI=>?_) ?_
 .refine ir l W 0 S S' ρ t fun i e he _=>?_;rw[UD];exact hS i (by have:=(List.getElem?_eq_some_iff.1 he).1;omega)
 .show sq _=sq _;rw[nC l 0 S S' fun j hj=>by rw[UD];exact hS j (by omega)]
 .rw[u2,sq0,kx _ _ _ _ _ fun _ _=>rfl];exact h
 .rw[xW]at hI;have hz:z=nb l l.length:=by omega
  refine⟨⟨f1,by rw[xW]⟩,?_⟩;have:=f2 hz;rwa[hz]at this
 intro S i o' ho' hSi hclo hedge hI M bm tk a w hl h;have hi1:i<ops.toList.length:=(List.getElem?_eq_some_iff.1 ho').1;have hi2:i<l.length:=by rw[hnl];simpa using hi1
 obtain⟨e,he⟩:∃e,l[i]? = some e:=⟨_,T9 hi2⟩
 have hlo:(l.map (·.1))[i]? = some e.1:=by rw[List.getElem?_map,he];rfl
 have hoo:=hget i _ o' hlo ho';have hbef:∀j∈(bS ops.toList []).getD i [],S j=true:=dW D.lt (S:=fun j=>S j=true) hclo i o' ho' hedge
 have hbefj:∀q,q<l.length->S q=true->∀j∈(bS ops.toList []).getD q [],S j=true:=fun q hq hSq=>by
  have hq2:ops.toList[q]? = some (ops.toList[q]'(by simp;omega)):=T9 _;exact dW D.lt (S:=fun j=>S j=true) hclo q _ hq2 (hclo q _ hq2 hSq)
 have hno:∀(j:Nat) (q:O×GK),l[j]? = some q->i∈(bS ops.toList []).getD j []->S j=false:=fun j q hj hm=>by
  have:¬S j=true:=fun hjl=>by
   have:=hbefj j (List.getElem?_eq_some_iff.1 hj).1 hjl i hm;rw[hSi]at this;cases this
  simpa using this
 have hsame:∀t,(t∈e.1.looksG\/e.1.writes t)->∀(j:Nat) (q:O×GK),l[j]? = some q->j≠i->q.1.writes t->S j=decide (j<i):=by
  intro t ht j q hj hne hw;rcases D.cmp i e he t ht j q hj hne hw with⟨g1,g2⟩|⟨g1,g2⟩
  .rw[hbef j g2];simp[g1]
  .rw[hno j q hj g2];simp;omega
 obtain⟨hgl,hn⟩:=AX W ρ he hSi hsame;obtain⟨ρi,g1,g2⟩:=fact i e he;have cg:∀t∈e.1.looksG,get ρi t=get (da l W 0 S ρ) t:=fun t ht=>by rw[g1 t];exact hgl t ht
 have cgo:∀t∈e.1.op.slotsG,get ρi t=get (da l W 0 S ρ) t:=fun t ht=>cg t (by unfold O.looksG;simp[ht]);have one:=D.one i e he;have hadd:=FS l 0 S i e he (by rw[UD];exact hSi);simp only[UD]at hadd
 have hlow:loG e (nb l i)≤nb l l.length->loG e (nb l i)≤nA l 0 S:=fun hle=>by
  have:=JA l 0 S 0 (loG e (nb l i)) fun j q hj ha hlt=>by
   rw[UD]at hlt ⊢;by_cases hne:j=i
   .subst hne;rw[he]at hj;cases hj;unfold loG at hlt;unfold GK.isAct at ha
    revert ha hlt
    cases e.2<;>simp
   .exact hbef j (D.lo i e he j q hj hne ha hlt)
  omega
 have hhigh:∀h,hiG e (nb l i)=some h->nA l 0 S≤h:=fun h eh=>by
  have:=Jy l 0 S 0 h fun j q hj ha hle=>by
   rw[UD]at hle ⊢;by_cases hne:j=i
   .subst hne;exact hSi
   .exact hno j q hj (D.hi i e he j q hj hne ha h eh hle)
  omega
 have wantNone:e.1.g=none->Region.wanted o' (yielded ops a.tmps)=true:=fun hg=>by
  have hgd:=hoo;unfold okO at hgd;simp only[TU]at hgd;replace hgd:=hgd.2;rw[hg]at hgd;split at hgd
  .rename_i hg2;simp[Region.wanted,hg2]
  .rename_i e _;cases e
  .cases hgd
 have wrapC:e.2.isAct=false->e.1.op.isCalm=true->Loc C e.1 ρi (sq (nA l 0 S)) (W i).2->
  if Region.wanted o' (yielded ops a.tmps)then o'.wp C.P a w (pD M bm pr w n fun ρ' σ'=>(∀t,get ρ' t=get (da l W 0 (fun j=>j==i||S j) ρ) t)/\σ'=sq (nA l 0 fun j=>j==i||S j)/\nA l 0 (fun j=>j==i||S j)≤z) (bJ M bm pr w n Q)
  else SRel M bm tk pr (da l W 0 (fun j=>j==i||S j) ρ) (sq (nA l 0 fun j=>j==i||S j)) n (a.put o'.dst undef) w/\nA l 0 (fun j=>j==i||S j)≤z:=fun hna hc hL=>by
  have e3:nA l 0 (fun j=>j==i||S j)=nA l 0 S:=by rw[hadd,hna];simp
  rw[e3];have hap:∀t,get (ap e.1 (W i) (da l W 0 S ρ)) t=get (putd (da l W 0 S ρ) e.1.dst (W i).2) t:=fun t=>by unfold ap;rw[AA hc];rfl
  have:=wo (Q:=Q) (hG.mono hl) h hoo (hL.congr fun t ht=>cg t (by rw[<-yH hc];exact ht));split at this
  .rename_i hw;rw[if_pos hw];exact Oper.wp_mono2 (fun a' w' ⟨M',bm',tk',ρ',σ',⟨k1,k2⟩,k3,k4⟩=>⟨M',bm',tk',ρ',σ',⟨fun t=>by rw[k1,hn t,hap t],k2,hI⟩,k3,k4⟩) (fun e a' w' hh=>hh) this
  .rename_i hw;rw[if_neg hw];exact⟨this.congr fun t=>by rw[hn t,hap t],hI⟩
 have wrapE:e.1.g=none->(e.1.op.isSlot=true\/e.1.op.isActG e.1.dst=true)->nA l 0 (fun j=>j==i||S j)≤z->pI C e.1.op ρi (sq (nA l 0 S)) (W i).1 (W i).2 (sq (nA l 0 fun j=>j==i||S j))->
  if Region.wanted o' (yielded ops a.tmps)then o'.wp C.P a w (pD M bm pr w n fun ρ' σ'=>(∀t,get ρ' t=get (da l W 0 (fun j=>j==i||S j) ρ) t)/\σ'=sq (nA l 0 fun j=>j==i||S j)/\nA l 0 (fun j=>j==i||S j)≤z) (bJ M bm pr w n Q)
  else SRel M bm tk pr (da l W 0 (fun j=>j==i||S j) ρ) (sq (nA l 0 fun j=>j==i||S j)) n (a.put o'.dst undef) w/\nA l 0 (fun j=>j==i||S j)≤z:=fun hg hc hz hE=>by
  rw[if_pos (wantNone hg)];refine Oper.wp_mono2 (fun a' w' ⟨M',bm',tk',ρ',σ',⟨k1,k2⟩,k3,k4⟩=>⟨M',bm',tk',ρ',σ',⟨fun t=>by rw[k1,hn t],k2,hz⟩,k3,k4⟩) (fun e a' w' ⟨_,_,_,_,_,_,hf,_⟩=>hf.elim) (em (Q:=fun _ _ _=>False) (hG.mono hl) h hoo (Dy hc (xY cgo hE)))
 obtain⟨o,g⟩:=e;cases g with
 | free lo=>
  simp only[ke,TU,decide_eq_true_eq]at one;have:=hlow (by simp only[loG];have:=Ae l i;omega);exact wrapC rfl one.1.2 (g2 (by simp only[loG]at this;omega) _)
 | calm lo hi=>
  simp only[ke,TU,decide_eq_true_eq]at one;have h1:=hlow (by simp only[loG];have:=Ae l i;omega);have h2:=hhigh hi rfl;simp only[loG]at h1;exact wrapC rfl one.1.1.1 (g2 (by omega) _ h1 h2 hI)
 | slot lo=>
  simp only[ke,TU,UM,decide_eq_true_eq]at one;have h1:=hlow (by simp only[loG];have:=Ae l i;omega);simp only[loG]at h1;have e3:nA l 0 (fun j=>j==i||S j)=nA l 0 S:=by rw[hadd];simp[GK.isAct]
  exact wrapE one.1.2 (.inl one.1.1) (by rw[e3];exact hI) (by rw[e3];exact g2 (by omega) _)
 | act=>
  simp only[ke,TU,UM]at one;have hlt:=Jm l i _ he rfl;have h1:=hlow (by simp only[loG];omega);have h2:=hhigh _ rfl;simp only[loG]at h1;have hc:nA l 0 S=nb l i:=by omega
  have e3:nA l 0 (fun j=>j==i||S j)=nb l i+1:=by rw[hadd,hc];simp[GK.isAct]
  by_cases hz:nb l i<z
  .exact wrapE one.2 (.inr one.1) (by rw[e3];omega) (by rw[e3,hc];exact g2.1 hz)
  .have hzz:nb l i=z:=by omega
   have hp:=g2.2 hzz;rw[if_pos (wantNone one.2)];have hE:=Ea (o:=o) (yu (ρ':=da l W 0 S ρ) cgo hp);rw[<-hzz,<-hc]at hE;refine Oper.wp_mono2 (fun a' w' ⟨M',bm',tk',ρ',σ',hf,k3,k4⟩=>hf.elim) (fun e a' w' ⟨M',bm',tk',ρ',σ',x,⟨u,k1,k2⟩,k3⟩=>⟨M',bm',tk',ρ',σ',x,by subst k1;exact k2 ρ',k3⟩) (em (K:=fun _ _=>False) (Q:=fun e _ σ'=>∃u,e=.panic u/\∀ρ',Q (.panic u) ρ' σ') (hG.mono hl) h hoo hE)
end
end Go.Proofs.YtnhphlmblenapaaGreatDoor
namespace Go.Proofs.YtnhphlmblenapaaGreatDoor
open Go.RowKit
section
variable {C : Cx} {pr : Prot} {n : Nat} {Q : AEx -> aj -> LLV -> Prop}
theorem F9{M0:av}{bm0:List Nat}{w0:World}{id:Nat}{ops:Array Oper}{M:av}{bm:List Nat}{tk:bA}{a:Act}{w:World}(R:(Nat->Bool)->aj->LLV->Prop){ρ0:aj}{σ0:LLV}
 (hlt:∀(i:Nat) (o:Oper),ops.toList[i]? = some o->∀j∈aW o,j<i)
 (hext:∀S S' ρ σ,(∀j,j<ops.size->S j=S' j)->R S ρ σ->R S' ρ σ)
 (hl:Later M0 bm0 pr w0 M bm w)(h:SRel M bm tk pr ρ0 σ0 n a w)(h0:R (fun _=>false) ρ0 σ0)
 (hq:∀ρ σ,R (fun _=>true) ρ σ->∃ρ2,Q .normal ρ2 σ/\∀t,get ρ t=get ρ2 t)
 (step:∀(S:Nat->Bool) (i:Nat) (o:Oper),ops.toList[i]? = some o->S i=false->(∀(j:Nat) (p:Oper),ops.toList[j]? = some p->S j=true->∀e∈aW p,S e=true)->(∀e∈aW o,S e=true)->
   ∀(M:av) (bm:List Nat) (tk:bA) (a:Act) (w:World) (ρ:aj) (σ:LLV),Later M0 bm0 pr w0 M bm w->R S ρ σ->SRel M bm tk pr ρ σ n a w->
    if Region.wanted o (yielded ops a.tmps)then o.wp C.P a w (pD M bm pr w n (R fun j=>j==i||S j)) (bJ M bm pr w n fun _ _ _=>False)
    else ∃ρ',R (fun j=>j==i||S j) ρ' σ/\SRel M bm tk pr ρ' σ n (a.put o.dst undef) w):
 (Code.region id ops true).wp C.P (bJ M0 bm0 pr w0 n Q) a w:=by
 refine wp_region_any C.mixed ?_
 suffices H:∀(fuel:Nat) (listed:Array Bool) (M:av) (bm:List Nat) (tk:bA) (a:Act) (w:World) (ρ:aj) (σ:LLV),Later M0 bm0 pr w0 M bm w->R (fun i=>listed.getD i false) ρ σ->SRel M bm tk pr ρ σ n a w->listed.size=ops.size->
  (∀(i:Nat) (o:Oper),ops.toList[i]? = some o->listed.getD i false=true->∀j∈aW o,listed.getD j false=true)->(listed.toList.filter (! ·)).length=fuel->wpAny C.P .any ops (bJ M0 bm0 pr w0 n Q) fuel listed a w by
  obtain⟨h1,h2⟩:=h.ext (dJ.drew w)
  have hrep:∀j,(TM ops.size false).getD j false=false:=fun j=>by
   simp only[TK,TR];split<;>rfl
  refine H ops.size (TM ops.size false) M bm tk a w.drew ρ0 σ0 (hl.trans h2 (fun _ h=>h)) (hext _ _ _ _ (fun j _=>(hrep j).symm) h0) h1 (by simp) (fun i o ho hi=>?_) (by simp)
  .rw[hrep]at hi;cases hi
 intro fuel
 induction fuel with
 | zero=>
  intro listed M bm tk a w ρ σ hl hR h hsz hcl hcnt
  have hall:∀i,i<ops.size->listed.getD i false=true:=fun i hi=>by
   have hb:listed[i]? = some (listed[i]'(by omega)):=TL _;rw[TK,hb,UL];have hne:listed.toList.filter (! ·)=[]:=Uj hcnt;have:=List.filter_eq_nil_iff.1 hne (listed[i]'(by omega)) (by simp);simpa using this
  obtain⟨ρ2,q1,q2⟩:=hq _ _ (hext _ _ _ _ hall hR);refine⟨?_,M,bm,tk,ρ2,σ,.normal,q1,.normal,h.congr fun t=>(q2 t).symm,hl⟩
  .unfold Region.ready;rw[Uf];intro i hi;have hi':i<ops.size:=by simpa using hi
   have h9:=hall i hi'
   have:listed.getD i true=true:=by
    have hb:listed[i]? = some (listed[i]'(by omega)):=TL _;rw[TK,hb,UL]at h9 ⊢;exact h9
   simp[this]
 | succ fuel ih=>
  intro listed M bm tk a w ρ σ hl hR h hsz hcl hcnt;refine⟨fun hnil=>?_,fun i hi=>?_⟩
  .exfalso
   have hex:∃i,i<ops.size/\listed.getD i false=false:=by
    apply T7;intro hno
    have hne:listed.toList.filter (! ·)=[]:=by
     rw[Uf];intro b hb;obtain⟨i,hi,rfl⟩:=Ue hb;have hi':i<listed.size:=by simpa using hi
     have h9:¬listed.getD i false=false:=fun e=>hno ⟨i,by omega,e⟩;have hb:listed[i]? = some listed[i]:=TL hi';rw[TK,hb,UL]at h9;simpa using h9
    rw[hne]at hcnt;simp at hcnt
   have hmin:∃i,i<ops.size/\listed.getD i false=false/\∀j,j<i->listed.getD j false=true:=by
    obtain⟨i,h1,h2⟩:=hex
    induction i using UF with
    | _ i ihm=>
    by_cases hj:∃j,j<i/\listed.getD j false=false
    .obtain⟨j,g1,g2⟩:=hj;exact ihm j g1 (by omega) g2
    .exact⟨i,h1,h2,fun j hji=>by
      cases hb:listed.getD j false with
      | true=>rfl
      | false=>exact absurd ⟨j,hji,hb⟩ hj⟩
   obtain⟨i,h1,h2,h3⟩:=hmin;have hio:i<ops.toList.length:=by simpa using h1
   have:i∈Region.ready .any ops listed:=by
    unfold Region.ready;rw[Ud];refine⟨by simp;omega,?_⟩
    have ht:listed.getD i true=false:=by
     have hb:listed[i]? = some (listed[i]'(by omega)):=TL _;rw[TK,hb,UL]at h2 ⊢;exact h2
    have ho:ops[i]? = some (ops[i]'(by omega)):=TL _;rw[ht,ho];simp only[T0,T4,UN,UL];rw[<-TQ,Ua];intro e he;cases hb:Region.binds .any e with
    | false=>rfl
    | true=>
     have:e.on∈aW (ops[i]'(by omega)):=by
      unfold aW;exact List.mem_map.2 ⟨e,List.mem_filter.2 ⟨he,hb⟩,rfl⟩
     simp[h3 e.on (hlt i _ (by rw[T9 hio];simp) e.on this)]
   rw[hnil]at this;cases this
  .unfold Region.ready at hi;rw[Ud]at hi;obtain⟨hir,hic⟩:=hi;have hi1:i<ops.size:=by simpa using hir
   have ho:ops[i]? = some ops[i]:=TL hi1;have hoL:ops.toList[i]? = some ops[i]:=by rw[TN];exact ho
   rw[ho]at hic;simp only[UN,UL,TU,TW]at hic;obtain⟨hun,hed⟩:=hic
   have hun':listed[i]? = some false:=by
    have hb:listed[i]? = some (listed[i]'(by omega)):=TL _;rw[TK,hb,UL]at hun;rw[hb,hun]
   have hunf:listed.getD i false=false:=by rw[TK,hun'];rfl
   have hedge:∀j∈aW ops[i],listed.getD j false=true:=by
    intro j hj;unfold aW at hj;obtain⟨e,he,rfl⟩:=List.mem_map.1 hj;rw[Ud]at he;rw[<-TQ,Ua]at hed;have:=hed e he.1;simpa[he.2]using this
   have hset:∀j,(listed.setIfInBounds i true).getD j false=(j==i||listed.getD j false):=fun j=>by
    rw[TK,TK];by_cases e:j=i
    .subst e;rw[TO (by omega)];simp
    .rw[TP (UK e)];simp[e]
   have hnextcl:∀(q:Nat) (o:Oper),ops.toList[q]? = some o->(listed.setIfInBounds i true).getD q false=true->∀j∈aW o,(listed.setIfInBounds i true).getD j false=true:=by
    intro q o hqo hql j hj;rw[hset]at hql ⊢;simp only[TX,beq_iff_eq]at hql ⊢;rcases hql with rfl|hql
    .rw[hoL]at hqo;cases hqo;exact .inr (hedge j hj)
    .exact .inr (hcl q o hqo hql j hj)
   have hnextc:((listed.setIfInBounds i true).toList.filter (! ·)).length=fuel:=by
    have:=lV listed.toList i (by rw[TN];exact hun');rw[TS];omega
   have hst:=step (fun j=>listed.getD j false) i ops[i] hoL hunf hcl hedge M bm tk a w ρ σ hl hR h;unfold wpOp;rw[ho];simp only;split at hst
   .rename_i hw;rw[if_pos hw];refine .inl (Oper.wp_mono2 (fun a' w' hL=>?_) (fun e a' w' hL=>?_) hst)
    .obtain⟨M',bm',tk',ρ',σ',k0,k2,k3⟩:=hL;exact ih _ M' bm' tk' a' w' ρ' σ' (hl.trans k3 (fun _ h=>h)) (hext _ _ _ _ (fun j _=>(hset j).symm) k0) k2 (by simp[hsz]) hnextcl hnextc
    .obtain⟨_,_,_,_,_,_,hf,_⟩:=hL;exact hf.elim
   .rename_i hw;rw[if_neg hw];obtain⟨ρ',k0,k2⟩:=hst;exact ih _ M bm tk _ w ρ' σ hl (hext _ _ _ _ (fun j _=>(hset j).symm) k0) k2 (by simp[hsz]) hnextcl hnextc
structure AV where
 d:Nat
 T:Nat
 bytes:Nat
 z:V
 s:Nat
 y:X
 st:Bool
 x:X
 k:X
 v:X
def AV.B(p:AV):O:=⟨none,.mst p.st p.x p.k p.v,none⟩
def reV(C:Cx)(σ1:LLV):List (O×aj×V)->Prop
 | []=>True
 | (o,ρ,v)::r=>bK C o.op ρ σ1 (fun u=>u=v)/\reV C σ1 r
def Ka(C:Cx)(p:AV)(K:aj->LLV->Prop)(ρ:aj)(σ1:LLV):Prop:=
 ∃kv key,iz p.st σ1 (ev C ρ p.x)=some kv/\l9 p.st (ev C ρ p.k)=some key/\K ρ (ph σ1 p.st (mR key (ev C ρ p.v).copy kv) (ev C ρ p.x))
def IE(C:Cx)(p:AV)(σ:LLV)(K:aj->LLV->Prop):List O->List (O×aj×V)->aj->Prop
 | [],pend,ρ=>∃src,AZ σ (ev C ρ p.y)=some src/\0<src.length/\Jg σ (get ρ p.s) src p.bytes p.z fun u σ1=>reV C σ1 pend/\Ka C p K (put ρ p.d u) σ1
 | o::r,pend,ρ=>o.g=none/\bK C o.op ρ σ fun v=>IE C p σ K r ((o,ρ,v)::pend) (putd ρ o.dst v)
end
end Go.Proofs.YtnhphlmblenapaaGreatDoor
namespace Go.Proofs.YtnhphlmblenapaaGreatDoor
open Go.RowKit
def dZ(n0:Nat)(ρ:aj)(σ:LLV)(ρ':aj)(σ':LLV):Prop:=
 ∀(M:av) (bm:List Nat) (tk:bA) (pr:Prot) (n:Nat) (a:Act) (w:World),SRel M bm tk pr ρ σ n a w->
  ∃M' bm',SRel M' bm' tk pr ρ' σ' n a w/\∀M0 bm0 w0,bm0.length=n0->Later M0 bm0 pr w0 M bm w->Later M0 bm0 pr w0 M' bm' w
theorem dZ.refl(n0:Nat)(ρ:aj)(σ:LLV):dZ n0 ρ σ ρ σ:=fun M bm _ _ _ _ _ h=>⟨M,bm,h,fun _ _ _ _ h=>h⟩
theorem dZ.trans{n0:Nat}{ρ ρ' ρ'':aj}{σ σ' σ'':LLV}(h:dZ n0 ρ σ ρ' σ')(k:dZ n0 ρ' σ' ρ'' σ''):dZ n0 ρ σ ρ'' σ'':=fun M bm tk pr n a w hs=>by
 obtain⟨M1,b1,h1,h2⟩:=h M bm tk pr n a w hs;obtain⟨M2,b2,h3,h4⟩:=k M1 b1 tk pr n a w h1;exact⟨M2,b2,h3,fun M0 bm0 w0 e hl=>h4 M0 bm0 w0 e (h2 M0 bm0 w0 e hl)⟩
theorem dZ.keep(n0:Nat)(l:List Nat)(ρ:aj)(σ:LLV):dZ n0 ρ σ (aY l ρ) σ:=fun M bm _ _ _ _ _ h=>⟨M,bm,h.keep l,fun _ _ _ _ h=>h⟩
theorem dZ.cut{n0 k:Nat}{ρ:aj}{σ:LLV}(hk:n0≤k)(h1:am k (σ.take k)=true)(h2:an k ρ=true):dZ n0 ρ σ ρ (σ.take k):=fun M bm _ _ _ _ _ h=>
 ⟨M,bm.take k,h.drop h1 h2,fun _ _ _ e hl=>hl.drop (by omega)⟩
section
variable {M : av} {bm : List Nat} {tk : bA} {pr : Prot} {ρ : aj} {σ : LLV} {n : Nat} {a : Act} {w : World} {k : Nat}
end
end Go.Proofs.YtnhphlmblenapaaGreatDoor
namespace Go.Proofs.YtnhphlmblenapaaGreatDoor
open Go.RowKit
inductive Cd where
 | skip
 | ops (l:List O) (keep:List Nat)
 | draw (l:List O) (keep:List Nat)
 | drawg (l:List (O×GK)) (keep:List Nat)
 | drawp (l:List O) (x:X)
 | raw (l:List O) (es:List (List Nat)) (keep:List Nat)
 | seq (a b:Cd)
 | cond (x:X) (a b:Cd)
 | block (id:Nat) (a:Cd)
 | loop (a:Cd)
 | exit (id:Nat)
 | ret
abbrev bV:=AEx->aj->LLV->Prop
def andThen(next:aj->LLV->Prop)(Q:bV):bV:=fun e ρ σ=>match e with
 | .normal=>next ρ σ
 | e=>Q e ρ σ
def pp(id:Nat)(Q:bV):bV:=fun e ρ σ=>match e with
 | .exit j=>if j=id then Q .normal ρ σ else Q (.exit j) ρ σ
 | e=>Q e ρ σ
inductive Up:LLV->LLV->Prop
 | refl (σ:LLV):Up σ σ
 | step {σ σ':LLV} {i:Nat} {cs:List V} {off:Nat} (T:TypeId) (k:Nat) (h1:σ[i]? = some cs) (h2:cs[off]? = some .nil) (h:Up (σ.set i (cs.set off (.own T k []))) σ'):Up σ σ'
theorem SRel.nil_own{M:av}{bm:List Nat}{tk:bA}{pr:Prot}{ρ:aj}{σ:LLV}{n:Nat}{a:Act}{w:World}(h:SRel M bm tk pr ρ σ n a w){i:Nat}{cs:List V}{off:Nat}(T:TypeId)(k:Nat)(h1:σ[i]? = some cs)(h2:cs[off]? = some .nil):SRel M bm tk pr ρ (σ.set i (cs.set off (.own T k []))) n a w:=by
 refine⟨⟨h.inv.facts,by rw[UA];exact h.inv.len,fun i' b cs' hi hc=>?_,h.inv.free,h.inv.bmnd,h.inv.tok,h.inv.inj,h.inv.prlt⟩,h.defers,h.size,h.slots⟩;by_cases e:i'=i
 .subst e;obtain⟨vs,T',g1,g2,g3⟩:=(h.inv.box i' b cs hi h1).resolve_right fun hb=>by rcases hb with⟨st,kv,es,clock,rfl,-⟩|⟨T,k,rfl,-⟩<;>cases off<;>simp[tyc]at h2
  have hl:i'<σ.length:=(List.getElem?_eq_some_iff.1 h1).1;rw[List.getElem?_set_self hl]at hc;cases hc;refine .inl ⟨vs,T',g1,by rw[UA];exact g2,fun j hj hj'=>?_⟩;have hj0:j<cs.length:=by simpa using hj
  obtain⟨k1,k2⟩:=g3 j hj0 hj';by_cases e2:j=off
  .subst e2;have hn:cs[j]=.nil:=(List.getElem?_eq_some_iff.1 h2).2;rw[List.getElem_set_self];refine⟨?_,k2⟩;have hr:=k1.rep;rw[hn]at hr;generalize vs[j]=v at hr ⊢;cases hr;exact⟨.own (DRep.nil M),fun T2 k2 rows e=>by cases e;exact .inl ⟨rfl,rfl⟩⟩
  .rw[List.getElem_set_ne (UK e2)];exact⟨k1,k2⟩
 .rw[List.getElem?_set_ne (UK e)]at hc;exact h.inv.box i' b cs' hi hc
theorem SRel.up{M:av}{bm:List Nat}{tk:bA}{pr:Prot}{ρ:aj}{σ σ':LLV}{n:Nat}{a:Act}{w:World}(hu:Up σ σ')(h:SRel M bm tk pr ρ σ n a w):SRel M bm tk pr ρ σ' n a w:=by
 induction hu with
 | refl σ=>exact h
 | step T k h1 h2 _ ih=>exact ih (h.nil_own T k h1 h2)
theorem dZ.up(n0:Nat)(ρ:aj){σ σ':LLV}(hu:Up σ σ'):dZ n0 ρ σ ρ σ':=fun M bm _ _ _ _ _ h=>⟨M,bm,h.up hu,fun _ _ _ _ h=>h⟩
def ib(C:Cx)(n0:Nat)(l:List O)(es:List (List Nat))(ρ:aj)(σ:LLV)(Q:bV):Prop:=
 ∀(pr:Prot) (M0:av) (bm0:List Nat) (w0:World) (id:Nat) (ops:Array Oper) (n:Nat) (M:av) (bm:List Nat) (tk:bA) (a:Act) (w:World),C.glob M0 pr w0->bm0.length=n0->iJ C.tab n ops l ops.toList=true->ops.toList.map aW=es->
  Later M0 bm0 pr w0 M bm w->SRel M bm tk pr ρ σ n a w->(Code.region id ops true).wp C.P (bJ M0 bm0 pr w0 n Q) a w
def awp(C:Cx)(n0:Nat):Cd->aj->LLV->bV->Prop
 | .skip,ρ,σ,Q=>Q .normal ρ σ
 | .ops l keep,ρ,σ,Q=>cl C l ρ σ fun e ρ' σ'=>Q e (aY keep ρ') σ'
 | .draw l keep,ρ,σ,Q=>aZ C l ρ σ fun ρ'=>Q .normal (aY keep ρ') σ
 | .drawg l keep,ρ,σ,Q=>eT C (fun u σ'=>∀ρ',Q (.panic u) (aY keep ρ') σ') (fun ρ' σ'=>Q .normal (aY keep ρ') σ') l 0 [] [] ρ σ
 | .drawp l x,ρ,σ,Q=>aZ C l ρ σ fun ρ'=>∃ty u,ev C ρ' x=.iface ty u/\∀ρ2,Q (.panic (.iface ty u)) ρ2 σ
 | .raw l es keep,ρ,σ,Q=>ib C n0 l es ρ σ fun e ρ' σ'=>Q e (aY keep ρ') σ'
 | .seq a b,ρ,σ,Q=>awp C n0 a ρ σ (andThen (fun ρ' σ'=>awp C n0 b ρ' σ' Q) Q)
 | .cond x a b,ρ,σ,Q=>match ev C ρ x with
  | .d (.lit (.bool t))=>(t=true->awp C n0 a ρ σ Q)/\(t=false->awp C n0 b ρ σ Q)
  | _=>False
 | .block id a,ρ,σ,Q=>awp C n0 a ρ σ (pp id Q)
 | .loop a,ρ,σ,Q=>∃(ρ1:aj) (σ1:LLV),dZ n0 ρ σ ρ1 σ1/\∃I:Nat->aj->LLV->Prop,(∃m,I m ρ1 σ1)/\∀m ρ' σ',I m ρ' σ'->awp C n0 a ρ' σ' (andThen (fun ρ'' σ''=>∃m',m'<m/\∃ρ3 σ3,dZ n0 ρ'' σ'' ρ3 σ3/\I m' ρ3 σ3) Q)
 | .exit id,ρ,σ,Q=>Q (.exit id) ρ σ
 | .ret,ρ,σ,Q=>Q .ret ρ σ
def okC(tab:Tab)(n:Nat):Cd->Code->Bool
 | .skip,.skip=>true
 | .ops l _,.region _ ops false=>iJ tab n ops l ops.toList
 | .draw l _,.region _ ops true=>iJ tab n ops l ops.toList&&rK l ops.toList
 | .drawg l _,.region _ ops true=>iJ tab n ops (l.map (·.1)) ops.toList&&no l ops.toList
 | .drawp l x,.region _ ops true=>iJ tab n ops (l++[⟨none,.pan x,none⟩]) ops.toList&&(nZ (l.length-1) 0 (l++[⟨none,.pan x,none⟩]) ops.toList&&decide (1≤l.length))
 | .raw l es _,.region _ ops true=>iJ tab n ops l ops.toList&&(ops.toList.map aW==es)
 | .seq a b,.seq a' b'=>okC tab n a a'&&okC tab n b b'
 | .cond x a b,.cond x' a' b'=>okX x x'&&okC tab n a a'&&okC tab n b b'
 | .block i a,.block i' a'=>i==i'&&okC tab n a a'
 | .loop a,.loop a'=>okC tab n a a'
 | .exit i,.exit i'=>i==i'
 | .ret,.ret=>true
 | _,_=>false
section
variable {C : Cx} {n0 n : Nat} {pr : Prot} {M0 : av} {bm0 : List Nat} {w0 : World}
theorem bJ.imp{M:av}{bm:List Nat}{w:World}{Q Q':bV}{e:Exit}{a:Act}{w':World}(hq:∀x ρ σ,Q x ρ σ->Q' x ρ σ)(h:bJ M bm pr w n Q e a w'):bJ M bm pr w n Q' e a w':=by
 obtain⟨M',bm',tk',ρ',σ',x,h1,h2⟩:=h;exact⟨M',bm',tk',ρ',σ',x,hq _ _ _ h1,h2⟩
theorem bJ.keep{M:av}{bm:List Nat}{w:World}{Q:bV}{l:List Nat}{e:Exit}{a:Act}{w':World}(h:bJ M bm pr w n (fun x ρ σ=>Q x (aY l ρ) σ) e a w'):bJ M bm pr w n Q e a w':=by
 obtain⟨M',bm',tk',ρ',σ',x,h1,h2,h3,h4⟩:=h;exact⟨M',bm',tk',_,σ',x,h1,h2,h3.keep l,h4⟩
theorem lS(hG:C.glob M0 pr w0)(hn0:bm0.length=n0):∀{c:Cd} {c':Code} {M:av} {bm:List Nat} {tk:bA} {ρ:aj} {σ:LLV} {a:Act} {w:World} {Q:bV},okC C.tab n c c'=true->Later M0 bm0 pr w0 M bm w->SRel M bm tk pr ρ σ n a w->
 awp C n0 c ρ σ Q->c'.wp C.P (bJ M0 bm0 pr w0 n Q) a w:=by
 intro c
 induction c with
 | skip=>
  intro c' M bm tk ρ σ a w Q hok hl h hq;cases c'<;>simp only[okC]at hok<;>first|(cases hok;done)|skip
  exact wp_skip ⟨M,bm,tk,ρ,σ,_,hq,.normal,h,hl⟩
 | ops l keep=>
  intro c' M bm tk ρ σ a w Q hok hl h hq;cases c' with
  | region id ops draw=>
   cases draw with
   | false=>
    have hok:iJ C.tab n ops l ops.toList=true:=hok;exact wp_mono (wp_region_list (fS hG hok hl h hq)) (fun e a w hL=>bJ.keep (l:=keep) hL)
   | true=>cases hok
  | _=>cases hok
 | draw l keep=>
  intro c' M bm tk ρ σ a w Q hok hl h hq;cases c' with
  | region id ops draw=>
   cases draw with
   | true=>
    have hok:(iJ C.tab n ops l ops.toList&&rK l ops.toList)=true:=hok;simp only[TU]at hok;exact wp_mono (zd (Q:=fun x ρ σ=>Q x (aY keep ρ) σ) hG hok.1 hok.2 hl h hq) (fun e a w hL=>bJ.keep (l:=keep) hL)
   | false=>cases hok
  | _=>cases hok
 | drawp l x=>
  intro c' M bm tk ρ σ a w Q hok hl h hq;cases c' with
  | region id ops draw=>
   cases draw with
   | true=>
    have hok:(iJ C.tab n ops (l++[⟨none,.pan x,none⟩]) ops.toList&&(nZ (l.length-1) 0 (l++[⟨none,.pan x,none⟩]) ops.toList&&decide (1≤l.length)))=true:=hok;simp only[TU,decide_eq_true_eq]at hok;exact xx hG hok.1 hok.2.1 hok.2.2 hl h hq
   | false=>cases hok
  | _=>cases hok
 | drawg l keep=>
  intro c' M bm tk ρ σ a w Q hok hl h hq;cases c' with
  | region id ops draw=>
   cases draw with
   | true=>
    have hok:(iJ C.tab n ops (l.map (·.1)) ops.toList&&no l ops.toList)=true:=hok;simp only[TU]at hok;exact wp_mono (xh (Q:=fun x ρ σ=>Q x (aY keep ρ) σ) hG hok.1 hok.2 hl h hq) (fun e a w hL=>bJ.keep (l:=keep) hL)
   | false=>cases hok
  | _=>cases hok
 | raw l es keep=>
  intro c' M bm tk ρ σ a w Q hok hl h hq;cases c' with
  | region id ops draw=>
   cases draw with
   | true=>
    have hok:(iJ C.tab n ops l ops.toList&&(ops.toList.map aW==es))=true:=hok;simp only[TU,beq_iff_eq]at hok;have hq:ib C n0 l es ρ σ fun e ρ' σ'=>Q e (aY keep ρ') σ':=hq;exact wp_mono (hq pr M0 bm0 w0 id ops n M bm tk a w hG hn0 hok.1 hok.2 hl h) (fun e a w hL=>bJ.keep (l:=keep) hL)
   | false=>cases hok
  | _=>cases hok
 | seq x y ihx ihy=>
  intro c' M bm tk ρ σ a w Q hok hl h hq;cases c'<;>simp only[okC,TU]at hok<;>first|(cases hok;done)|skip
  refine wp_seq (wp_mono (ihx hok.1 hl h hq) (fun e a' w' hL=>?_));obtain⟨M',bm',tk',ρ',σ',x,k1,k2,k3,k4⟩:=hL;cases k2 with
  | normal=>exact ihy hok.2 k4 k3 k1
  | ret=>exact⟨M',bm',tk',ρ',σ',_,k1,.ret,k3,k4⟩
  | exit id=>exact⟨M',bm',tk',ρ',σ',_,k1,.exit id,k3,k4⟩
  | panic hp=>exact⟨M',bm',tk',ρ',σ',_,k1,.panic hp,k3,k4⟩
 | cond x y z ihy ihz=>
  intro c' M bm tk ρ σ a w Q hok hl h hq;cases c'<;>simp only[okC,TU]at hok<;>first|(cases hok;done)|skip
  have hx:=ay (hG.mono hl) h hok.1.1;simp only[awp]at hq;split at hq
  .rename_i t e;rw[e]at hx;have hv:=hx.bool_inv;cases t with
   | true=>exact wp_cond_true hv (ihy hok.1.2 hl h (hq.1 rfl))
   | false=>exact wp_cond_false hv (ihz hok.2 hl h (hq.2 rfl))
  .exact hq.elim
 | block id x ih=>
  intro c' M bm tk ρ σ a w Q hok hl h hq;cases c'<;>simp only[okC,TU,beq_iff_eq]at hok<;>first|(cases hok;done)|skip
  obtain⟨rfl,hok⟩:=hok;refine wp_block (wp_mono (ih hok hl h hq) (fun e a' w' hL=>?_));obtain⟨M',bm',tk',ρ',σ',x,k1,k2,k3,k4⟩:=hL;cases k2 with
  | normal=>exact⟨M',bm',tk',ρ',σ',_,k1,.normal,k3,k4⟩
  | ret=>exact⟨M',bm',tk',ρ',σ',_,k1,.ret,k3,k4⟩
  | exit j=>
   simp only[pp]at k1;simp only[Exit.inBlock];split
   .rename_i e;rw[if_pos e]at k1;exact⟨M',bm',tk',ρ',σ',_,k1,.normal,k3,k4⟩
   .rename_i e;rw[if_neg e]at k1;exact⟨M',bm',tk',ρ',σ',_,k1,.exit j,k3,k4⟩
  | panic hp=>exact⟨M',bm',tk',ρ',σ',_,k1,.panic hp,k3,k4⟩
 | loop x ih=>
  intro c' M bm tk ρ σ a w Q hok hl h hq;cases c'<;>simp only[okC]at hok<;>first|(cases hok;done)|skip
  obtain⟨ρ1,σ1,hsh,I,⟨m,hm⟩,hI⟩:=hq;obtain⟨M1,bm1,h1,h2⟩:=hsh M bm tk pr n a w h;have hl1:=h2 M0 bm0 w0 hn0 hl;rename_i c';intro b k cs
  have key:∀(m:Nat) (M:av) (bm:List Nat) (tk:bA) (ρ:aj) (σ:LLV) (a:Act) (w:World),Later M0 bm0 pr w0 M bm w->SRel M bm tk pr ρ σ n a w->I m ρ σ->
   ∃e a' w',bJ M0 bm0 pr w0 n Q e a' w'/\Arrives C.P (lone (b.at a (.code c'::.inLoop c'::k)) cs w) b k cs e a' w':=by
   intro m
   induction m using UF with
   | _ m ihm=>
   intro M bm tk ρ σ a w hl h hm;obtain⟨e,a₁,w₁,hq,harr⟩:=ih hok hl h (hI m ρ σ hm) b (.inLoop c'::k) cs;obtain⟨M',bm',tk',ρ',σ',x,k1,k2,k3,k4⟩:=hq;cases k2 with
   | normal=>
    obtain⟨m',hlt,ρ3,σ3,g1,g4⟩:=k1;obtain⟨M3,bm3,g2,g3⟩:=g1 M' bm' tk' pr n a₁ w₁ k3;obtain⟨e₂,a₂,w₂,hq₂,harr₂⟩:=ihm m' hlt M3 bm3 tk' ρ3 σ3 a₁ w₁ (g3 M0 bm0 w0 hn0 k4) g2 g4;exact⟨e₂,a₂,w₂,hq₂,.of_steps (Steps.trans harr (.one step_inLoop)) harr₂⟩
   | ret=>exact⟨_,a₁,w₁,⟨M',bm',tk',ρ',σ',_,k1,.ret,k3,k4⟩,.pass (x:=.inLoop c') rfl (fun _ _=>.inl (by simp)) harr⟩
   | exit id=>exact⟨_,a₁,w₁,⟨M',bm',tk',ρ',σ',_,k1,.exit id,k3,k4⟩,.pass (x:=.inLoop c') rfl (fun _ _=>.inl (by simp)) harr⟩
   | panic hp=>exact⟨_,a₁,w₁,⟨M',bm',tk',ρ',σ',_,k1,.panic hp,k3,k4⟩,.pass (x:=.inLoop c') rfl (fun _ _=>.inl (by simp)) harr⟩
  obtain⟨e,a',w',hq,harr⟩:=key m M1 bm1 tk _ σ1 a w hl1 h1 hm;exact⟨e,a',w',hq,.of_steps (.one step_loop) harr⟩
 | exit id=>
  intro c' M bm tk ρ σ a w Q hok hl h hq;cases c'<;>simp only[okC,beq_iff_eq]at hok<;>first|(cases hok;done)|skip
  subst hok;exact wp_exit ⟨M,bm,tk,ρ,σ,_,hq,.exit id,h,hl⟩
 | ret=>
  intro c' M bm tk ρ σ a w Q hok hl h hq;cases c'<;>simp only[okC]at hok<;>first|(cases hok;done)|skip
  exact wp_ret ⟨M,bm,tk,ρ,σ,_,hq,.ret,h,hl⟩
end
end Go.Proofs.YtnhphlmblenapaaGreatDoor
namespace Go.Proofs.YtnhphlmblenapaaGreatDoor
open Go.RowKit
inductive D.Wf:D->Prop
 | lit (v:Value) (h:df v):D.Wf (.lit v)
 | sl (rows:LLD) (hl:rows.length≤maxLen) (h:∀i j (hi:i<rows.length) (hj:j<rows[i].length),D.Wf rows[i][j]):D.Wf (.sl rows)
theorem DRep.wf{M:av}{x:D}{v:Value}(h:DRep M x v):x.Wf:=by
 induction h with
 | lit v h=>exact .lit v h
 | sl rows k p cap val hk hd hf hc hm ih=>exact .sl rows (by omega) ih
inductive V.Wf:V->Prop
 | d {x:D} (h:x.Wf):V.Wf (.d x)
 | own {T k:Nat} {rows:LLD} (h:(D.sl rows).Wf):V.Wf (.own T k rows)
 | agg {cs:List V} (h:∀i (h:i<cs.length),V.Wf cs[i]):V.Wf (.agg cs)
 | nil:V.Wf .nil
 | tup (cs:List V):V.Wf (.tup cs)
 | ptr (i o:Nat):V.Wf (.ptr i o)
 | bsl (i o n k:Nat):V.Wf (.bsl i o n k)
 | row (cs:List D) (o:Nat):V.Wf (.row cs o)
 | fn (f:FuncId) (cs:List V):V.Wf (.fn f cs)
 | bnd (f:FuncId) (cs:List V):V.Wf (.bnd f cs)
 | iface (t:TypeId) (v:V):V.Wf (.iface t v)
 | mp (i:Nat):V.Wf (.mp i)
 | bsc (i n c:Nat):V.Wf (.bsc i n c)
 | junk:V.Wf .junk
theorem Rep.wf{M:av}{bm:List Nat}{x:V}{v:Value}(h:Rep M bm x v):x.Wf:=by
 induction h with
 | d h=>exact .d h.wf
 | own h=>exact .own h.wf
 | nil=>exact .nil
 | agg hl h h1 ih=>exact .agg fun i hi=>ih i hi (by omega)
 | tup hl h ih=>exact .tup _
 | ptr h=>exact .ptr _ _
 | bsl h hc hm=>exact .bsl _ _ _ _
 | row val hf hd=>exact .row _ _
 | fn hl h ih=>exact .fn _ _
 | bnd hl h ih=>exact .bnd _ _
 | iface h ih=>exact .iface _ _
 | mp h=>exact .mp _
 | bsc h hc hm=>exact .bsc _ _ _
 | junk v=>exact .junk
inductive RV where
 | t (n:Nat) (own:Bool)
 | c (n k:Nat) (ag:Bool)
def aQ(σ:LLV)(ρ:aj):RV->Option V
 | .t n true=>some (get ρ n)
 | .t n false=>some (get ρ n).lend
 | .c n k ag=>(j5 σ k ag (get ρ n)).map V.lend
def bZ(σ:LLV)(ρ:aj):List RV->Option (List V)
 | []=>some []
 | r::rs=>match aQ σ ρ r,bZ σ ρ rs with|some v,some l=>some (v.lend::l)|_,_=>none
def aC(σ:LLV)(ρ:aj):List RV->Option V
 | [r]=>aQ σ ρ r
 | rs=>(bZ σ ρ rs).map V.tup
def Ks(tab:Tab):RV->ResultVar->Bool
 | .t n _,.tmp m=>n==m
 | .c n k ag,.cell m t=>n==m&&(match tab t with|some i=>i.sz==k&&i.agg==ag|none=>false)
 | _,_=>false
def nd(tab:Tab):List RV->List ResultVar->Bool
 | [],[]=>true
 | r::rs,r'::rs'=>Ks tab r r'&&nd tab rs rs'
 | _,_=>false
def aE(tab:Tab)(fn:Func)(m:Nat)(c:Cd)(rs:List RV):Bool:=
 (match fn.body with|some b=>okC tab fn.ntmps c b|none=>false)&&nd tab rs fn.results.toList&&decide (m≤fn.ntmps) && !(fn.name == "runtime.NumGoroutine")
def fin(n0:Nat)(rs:List RV)(Q:Out->LLV->Prop):bV:=fun e ρ σ'=>match e with
 | .normal=>∃ρ2 σ2,dZ n0 ρ σ' ρ2 σ2/\∃v,aC σ2 ρ2 rs=some v/\∃k,n0≤k/\am k (σ2.take k)=true/\V.under k v=true/\Q (.ret v) (σ2.take k)
 | .ret=>∃ρ2 σ2,dZ n0 ρ σ' ρ2 σ2/\∃v,aC σ2 ρ2 rs=some v/\∃k,n0≤k/\am k (σ2.take k)=true/\V.under k v=true/\Q (.ret v) (σ2.take k)
 | .panic v=>∃k,n0≤k/\am k (σ'.take k)=true/\V.under k v=true/\Q (.panic v) (σ'.take k)
 | .exit _=>False
def eP:Nat->List V->aj
 | _,[]=>[]
 | i,v::r=>(i,v)::eP (i+1) r
def Hw(tmps:Array Value):ResultVar->Sem Value
 | .tmp t=>pure (tmps.getD t undef)
 | .cell a t=>do loadVar t (<-asAddr (tmps.getD a undef))
theorem qX(fn:Func)(tmps:Array Value):results fn tmps=(do
 let vs <-fn.results.mapM (Hw tmps)
 pure (if h:vs.size=1 then vs[0]else .tuple vs)):=by
 unfold results;congr 1
section
variable {C : Cx} {M : av} {bm : List Nat} {tk : bA} {pr : Prot} {ρ : aj} {σ : LLV} {n : Nat} {a : Act} {w : World}
theorem qv(h:SRel M bm tk pr ρ σ n a w){r:RV}{r':ResultVar}(hok:Ks C.tab r r'=true){x:V}(hx:aQ σ ρ r=some x):
 ∃v,(Hw a.tmps r').run C.P w=.ok v w/\∃t,CellOK M bm w x v t/\(t=none\/∃s,t=tk none s):=by
 unfold Ks at hok;split at hok
 .rename_i m own m';simp only[beq_iff_eq]at hok;subst hok;cases own with
  | true=>cases hx;exact⟨_,rfl,_,h.slots m,.inr ⟨m,rfl⟩⟩
  | false=>cases hx;exact⟨_,rfl,none,⟨(h.slots m).rep.lend,fun _ _ _ e=>absurd e V.lend_own⟩,.inl rfl⟩
 .rename_i m k ag m' t;simp only[TU,beq_iff_eq]at hok;obtain⟨rfl,h2⟩:=hok;split at h2
  .rename_i i hi;simp only[TU,beq_iff_eq]at h2;obtain⟨rfl,rfl⟩:=h2;obtain⟨y,hy,rfl⟩:=Option.map_eq_some_iff.1 hx;obtain⟨v,h3,h4,h5⟩:=rX h.inv hi hy (h.slots m).rep;refine⟨v,?_,none,⟨h4.lend,fun _ _ _ e=>absurd e V.lend_own⟩,.inl rfl⟩
   have hptr:∃ad,a.tmps.getD m undef=.pointer (some ad):=by
    have hr:=(h.slots m).rep;unfold j5 at hy;obtain⟨cs,hcs,-⟩:=Option.bind_eq_some_iff.1 hy;obtain⟨ad,vs,e,-⟩:=lc h.inv hcs hr;exact⟨ad,e⟩
   obtain⟨ad,e⟩:=hptr;simp only[Hw];rw[e]at h3 ⊢;simpa[Instr.loadAt,Instr.sureAddr,asAddr]using h3
  .cases h2
 .cases hok
theorem rO(h:SRel M bm tk pr ρ σ n a w):∀{rs:List RV} {rs':List ResultVar} {xs:List V},nd C.tab rs rs'=true->bZ σ ρ rs=some xs->
 ∃vs:List Value,(rs'.mapM (Hw a.tmps)).run C.P w=.ok vs w/\vs.length=xs.length/\rs'.length=xs.length/\∀i (h:i<xs.length) (h':i<vs.length),Rep M bm xs[i] vs[i]
 | [],[],xs,_,hx=>by cases hx;exact⟨[],rfl,rfl,rfl,fun i h=>by simp at h⟩
 | r::rs,r'::rs',xs,hok,hx=>by
  simp only[nd,TU]at hok;simp only[bZ]at hx;split at hx
  .rename_i v l hv hl;cases hx;obtain⟨u,g1,t,g2,-⟩:=qv h hok.1 hv;obtain⟨vs,k1,k2,k3,k4⟩:=rO h hok.2 hl;refine⟨u::vs,?_,by simp[k2],by simp[k3],fun i h1 h2=>?_⟩
   .rw[UC,Sem.run_bind,g1,Result.andThen_ok,Sem.run_bind,k1];rfl
   .cases i with
    | zero=>exact g2.rep.lend
    | succ i=>exact k4 i (by simpa using h1) (by simpa using h2)
  .cases hx
 | [],_::_,_,hok,_=>by cases hok
 | _::_,[],_,hok,_=>by cases hok
theorem qU(h:SRel M bm tk pr ρ σ n a w){rs:List RV}{fn:Func}{x:V}(hok:nd C.tab rs fn.results.toList=true)(hx:aC σ ρ rs=some x):
 ∃v,(results fn a.tmps).run C.P w=.ok v w/\∃t,CellOK M bm w x v t/\(t=none\/∃s,t=tk none s):=by
 rw[qX,Array.mapM_eq_mapM_toList];unfold aC at hx;split at hx
 .rename_i r
  match hrs:fn.results.toList,hok with
  | [r'],hok=>
   simp only[nd,TZ]at hok;obtain⟨v,g1,g2⟩:=qv h hok hx;refine⟨v,?_,g2⟩;simp only[UC,List.mapM_nil,Sem.run_bind,Sem.run_map,g1,Result.andThen_ok,Sem.run_pure];rfl
  | [],hok=>cases hok
  | _::_::_,hok=>simp[nd]at hok
 .rename_i hne;obtain⟨xs,hxs,rfl⟩:=Option.map_eq_some_iff.1 hx;obtain⟨vs,k1,k2,k3,k4⟩:=rO h hok hxs;refine⟨.tuple vs.toArray,?_,none,⟨.tup k2 k4,fun _ _ _ e=>by cases e⟩,.inl rfl⟩;simp only[Sem.run_bind,Sem.run_map,k1,Result.andThen_ok,Sem.run_pure]
  have hl:¬vs.toArray.size=1:=by
   intro e;have:fn.results.toList.length=1:=by rw[k3,<-k2];simpa using e
   match rs,hne,hok with
   | [],_,hok=>match hrs:fn.results.toList,hok with | [],_=>rw[hrs]at this;cases this
   | [r],hne,_=>exact hne r rfl
   | _::_::_,_,hok=>match hrs:fn.results.toList,hok with
    | [_],hok=>simp[nd]at hok
    | _::_::_,_=>rw[hrs]at this;simp at this
  rw[dif_neg hl]
theorem jT:∀(args:List V) (i t:Nat),get (eP i args) t=if i≤t then(args[t-i]?).getD .junk else .junk
 | [],i,t=>by simp[eP,get]
 | v::r,i,t=>by
  simp only[eP,get];split
  .rename_i e;subst e;simp
  .rename_i e;rw[jT r (i+1) t];by_cases h:i≤t
   .rw[if_pos (by omega),if_pos h,show t-i=(t-(i+1))+1 by omega];rfl
   .rw[if_neg (by omega),if_neg h]
theorem bP{P:Program}{f:FuncId}{fn:Func}(hf:P.funcs[f]? = some fn)(hn:(fn.name == "runtime.NumGoroutine")=false)(hb:fn.body.isNone=false):
 ∀args w,(callFunc f args).run P w=.ok (.enter f args) w:=fun args w=>by
 have h1:fn.name ≠ "runtime.NumGoroutine" := by simpa using hn
 have h2:fn.body≠none:=fun h=>by rw[h]at hb;cases hb
 simp[callFunc,hf,h1,h2]
theorem Ba{f:FuncId}{fn:Func}{c:Cd}{rs:List RV}{args:List V}{Q:Out->LLV->Prop}(hf:C.P.funcs[f]? = some fn)(hok:aE C.tab fn args.length c rs=true)
 (h:am σ.length σ=true->(∀i (h:i<args.length),V.Wf args[i])->awp C σ.length c (eP 0 args) σ (fin σ.length rs Q)):
 (∀as w,(callFunc f as).run C.P w=.ok (.enter f as) w)/\
 ∀(M:av) (bm:List Nat) (tk:bA) (pr:Nat->Prop) (w:World) (vs:List Value),C.glob M pr w->Inv M bm σ tk pr w->vs.length=args.length->(∀i (h:i<args.length) (h':i<vs.length),CellOK M bm w args[i] vs[i] (tk none i))->
  Calls C.P f vs.toArray w fun e w'=>∃M' bm' tk' σ' o,Q o σ'/\Inv M' bm' σ' tk' pr w'/\Later M bm pr w M' bm' w'/\OutOK M' bm' w' tk' o e:=by
 unfold aE at hok;simp only[TU,decide_eq_true_eq,TW]at hok;obtain⟨⟨⟨h1,h2⟩,h3⟩,h4⟩:=hok;cases hb:fn.body with
 | none=>rw[hb]at h1;cases h1
 | some body=>
 rw[hb]at h1;refine⟨bP hf h4 (by rw[hb];rfl),fun M bm tk pr0 w vs hG hI hl hr=>?_⟩;obtain⟨pr,rfl,hds⟩:∃pr:Prot,pr.p=pr0/\pr.ds=[]:=⟨⟨pr0,[]⟩,rfl,rfl⟩
 have hq:=h hI.under (fun i hi=>(hr i hi (by omega)).rep.wf);refine calls_of_wp hf hb ?_
 have hs:SRel M bm tk pr (eP 0 args) σ fn.ntmps {tmps:=vs.toArray++TM (fn.ntmps-vs.toArray.size) undef,defers:=[]} w:=by
  refine⟨hI,hds.symm,by simp;omega,fun t=>?_⟩;rw[jT,if_pos (UH _),UJ];by_cases hlt:t<args.length
  .rw[T9 hlt,UL]
   have hv:(vs.toArray++TM (fn.ntmps-vs.toArray.size) undef).getD t undef=vs[t]'(by omega):=by
    rw[TK,TT (by simp;omega)];simp[show t<vs.length by omega]
   rw[hv];exact hr t hlt (by omega)
  .rw[Uq (by omega),UO];exact CellOK.junk ..
 refine wp_mono (lS hG hI.len h1 (Later.refl M bm pr w) hs hq) (fun e a' w' hL=>?_);obtain⟨M',bm',tk',ρ',σ',x,k1,k2,k3,k4⟩:=hL
 have cut:∀{M':av} {bm':List Nat} {ρ':aj} {σ':LLV} {k:Nat} (o:Option Nat),SRel M' bm' tk' pr ρ' σ' fn.ntmps a' w'->Later M bm pr w M' bm' w'->σ.length≤k->am k (σ'.take k)=true->(o=none\/∃s,o=tk' none s)->
  Inv M' (bm'.take k) (σ'.take k) (fun i j=>match i with|none=>if j=0 then o else none|some i=>tk' (some i) j) pr w'/\Later M bm pr w M' (bm'.take k) w':=by
  intro M' bm' ρ' σ' k o k3 k4 hk hbk ho;have hd:=k3.inv.drop hbk;refine⟨⟨hd.facts,hd.len,hd.box,hd.free,hd.bmnd,fun i j g hg=>?_,fun i j i' j' g g1 g2=>?_,hd.prlt⟩,k4.drop (by rw[hI.len];exact hk)⟩
  .cases i with
   | some i=>exact hd.tok _ _ _ hg
   | none=>
    simp only at hg;split at hg
    .rcases ho with rfl|⟨s,rfl⟩
     .cases hg
     .exact hd.tok _ _ _ hg
    .cases hg
  .cases i with
   | some i=>cases i' with
    | some i'=>exact hd.inj _ _ _ _ _ g1 g2
    | none=>
     simp only at g2;split at g2
     .rcases ho with rfl|⟨s,rfl⟩
      .cases g2
      .have:=hd.inj _ _ _ _ _ g1 g2;simp at this
     .cases g2
   | none=>cases i' with
    | some i'=>
     simp only at g1;split at g1
     .rcases ho with rfl|⟨s,rfl⟩
      .cases g1
      .have:=hd.inj _ _ _ _ _ g1 g2;simp at this
     .cases g1
    | none=>
     simp only at g1 g2;split at g1
     .split at g2
      .exact⟨rfl,by omega⟩
      .cases g2
     .cases g1
 have ret:∀ρ2 σ2,dZ σ.length ρ' σ' ρ2 σ2->∀v,aC σ2 ρ2 rs=some v->(∃k,σ.length≤k/\am k (σ2.take k)=true/\V.under k v=true/\Q (.ret v) (σ2.take k))->
  a'.defers=[]/\∃u,(results fn a'.tmps).run C.P w'=.ok u w'/\∃M' bm' tk' σ' o,Q o σ'/\Inv M' bm' σ' tk' pr w'/\Later M bm pr w M' bm' w'/\OutOK M' bm' w' tk' o (.returned u):=by
  rintro ρ2 σ2 hsh v hv ⟨k,g1,g2,g3,g4⟩;obtain⟨M2,bm2,s1,s2⟩:=hsh M' bm' tk' pr fn.ntmps a' w' k3;obtain⟨u,r1,t,r2,r3⟩:=qU s1 h2 hv;obtain⟨c1,c2⟩:=cut t s1 (s2 M bm w hI.len k4) g1 g2 r3;refine⟨k3.defers.trans hds,u,r1,M2,bm2.take k,_,σ2.take k,.ret v,g4,c1,c2,fun v' e=>?_,fun v' e=>by cases e⟩;cases e;exact⟨u,rfl,r2.rep.drop g3,by simpa using r2.own⟩
 cases k2 with
 | normal=>obtain⟨ρ2,σ2,g0,v,g1,g2⟩:=k1;exact ret ρ2 σ2 g0 v g1 g2
 | ret=>obtain⟨ρ2,σ2,g0,v,g1,g2⟩:=k1;exact ret ρ2 σ2 g0 v g1 g2
 | exit id=>exact k1.elim
 | panic hp=>
  obtain⟨k,g1,g2,g3,g4⟩:=k1;obtain⟨c1,c2⟩:=cut none k3 k4 g1 g2 (.inl rfl);exact⟨k3.defers.trans hds,M',bm'.take k,_,σ'.take k,_,g4,c1,c2,(fun v' e=>by cases e),fun v' e=>by cases e;exact⟨_,rfl,hp.drop g3⟩⟩
theorem B9{f:FuncId}{fn:Func}{c:Cd}{rs:List RV}{args:List V}{Q:Out->LLV->Prop}(hf:C.P.funcs[f]? = some fn)(hok:aE C.tab fn args.length c rs=true)(hno:args.all (! ·.isOwn)=true)
 (h:am σ.length σ=true->(∀i (h:i<args.length),V.Wf args[i])->awp C σ.length c (eP 0 args) σ (fin σ.length rs Q)):Fun C f args σ Q:=by
 obtain⟨h1,h2⟩:=Ba hf hok h;refine⟨h1,fun M bm tk pr w vs hG hI _ hl hr=>h2 M bm tk pr w vs hG hI hl fun i g1 g2=>⟨hr i g1 g2,fun T k rows e=>?_⟩⟩;have:=List.all_eq_true.1 hno args[i] (Us g1);rw[e]at this;cases this
end
end Go.Proofs.YtnhphlmblenapaaGreatDoor
namespace Go.Proofs.YtnhphlmblenapaaGreatDoor
open Go.RowKit
inductive Tag{α:Type}(a:α):Type where
 | mk
def cF(o:Option V)(f:V->Prop)(_:Tag f):Prop:=match o with|some v=>f v|none=>False
theorem AM(v:V)(f:V->Prop)(t:Tag f):cF (some v) f t=f v:=rfl
def fnT(v:V)(f:FuncId->List V->Prop)(_:Tag f):Prop:=match v with | .fn g cap=>f g cap|_=>False
theorem J6(g:FuncId)(cap:List V)(f:FuncId->List V->Prop)(t:Tag f):fnT (.fn g cap) f t=f g cap:=rfl
def Io(v:V)(as:List V)(f:FuncId->List V->Prop)(_:Tag f):Prop:=match v with | .fn g cap=>f g (as++cap) | .bnd g first=>f g (first++as)|_=>False
theorem H5(g:FuncId)(cap as:List V)(f:FuncId->List V->Prop)(t:Tag f):Io (.fn g cap) as f t=f g (as++cap):=rfl
theorem Eg(g:FuncId)(first as:List V)(f:FuncId->List V->Prop)(t:Tag f):Io (.bnd g first) as f t=f g (first++as):=rfl
def Bb(v:V)(f:Nat->Nat->Prop)(_:Tag f):Prop:=match v with | .ptr i o=>f i o|_=>False
theorem D8(i o:Nat)(f:Nat->Nat->Prop)(t:Tag f):Bb (.ptr i o) f t=f i o:=rfl
def vX(v:V)(f:Nat->Nat->LLD->Prop)(_:Tag f):Prop:=match v with | .own T k rows=>f T k rows|_=>False
theorem E6(T k:Nat)(rows:LLD)(f:Nat->Nat->LLD->Prop)(t:Tag f):vX (.own T k rows) f t=f T k rows:=rfl
def ifT(v:V)(f:Nat->V->Prop)(_:Tag f):Prop:=match v with | .iface t v=>f t v|_=>False
theorem BJ(ty:Nat)(v:V)(f:Nat->V->Prop)(t:Tag f):ifT (.iface ty v) f t=f ty v:=rfl
def bxT(o:Option (List V))(f:List V->Prop)(_:Tag f):Prop:=match o with|some cs=>f cs|none=>False
theorem EC(cs:List V)(f:List V->Prop)(t:Tag f):bxT (some cs) f t=f cs:=rfl
def rwT(o:Option LLD)(f:LLD->Prop)(_:Tag f):Prop:=match o with|some rows=>f rows|none=>False
theorem Eu(rows:LLD)(f:LLD->Prop)(t:Tag f):rwT (some rows) f t=f rows:=rfl
def Ju(v:V)(f:Bool->Prop)(_:Tag f):Prop:=match v with | .d (.lit (.bool c))=>f c|_=>False
theorem yK(c:Bool)(f:Bool->Prop)(t:Tag f):Ju (.d (.lit (.bool c))) f t=f c:=rfl
def tC(v:V)(f:Bool->Prop)(u:Unit->Prop)(_:Tag f)(_:Tag u):Prop:=match v with
 | .d (.lit (.bool c))=>f c
 | .tup []=>u ()
 | _=>False
theorem zy(c:Bool)(f:Bool->Prop)(u:Unit->Prop)(s:Tag f)(t:Tag u):tC (.d (.lit (.bool c))) f u s t=f c:=rfl
theorem DM(f:Bool->Prop)(u:Unit->Prop)(s:Tag f)(t:Tag u):tC (.tup []) f u s t=u ():=rfl
def si(c:Bool)(A B:Unit->Prop)(_:Tag A)(_:Tag B):Prop:=(c=true->A ())/\(c=false->B ())
theorem BG(A B:Unit->Prop)(s:Tag A)(t:Tag B):si true A B s t=A ():=by simp[si]
theorem xM(A B:Unit->Prop)(s:Tag A)(t:Tag B):si false A B s t=B ():=by simp[si]
theorem cz{c:Bool}{A B:Unit->Prop}{s:Tag A}{t:Tag B}(h1:c=true->A ())(h2:c=false->B ()):si c A B s t:=⟨h1,h2⟩
theorem Ic(b:Bool):(b==true)=b:=by cases b<;>rfl
theorem F1(b:Bool):(b==false) = !b:=by cases b<;>rfl
def onT(p:Prop)(A:Unit->Prop)(_:Tag A):Prop:=p/\A ()
theorem bg{p:Prop}{A:Unit->Prop}{t:Tag A}(h1:p)(h2:A ()):onT p A t:=⟨h1,h2⟩
theorem DA(A:Unit->Prop)(t:Tag A):onT True A t=A ():=by simp[onT]
def eQ(C:Cx)(n0:Nat)(c:Cd)(ρ:aj)(σ:LLV)(Q:bV)(_:Tag Q):Prop:=awp C n0 c ρ σ Q
def bh(C:Cx)(l:List O)(ρ:aj)(σ:LLV)(Q:bV)(_:Tag Q):Prop:=cl C l ρ σ Q
def bc(C:Cx)(l:List O)(ρ:aj)(σ:LLV)(K:aj->Prop)(_:Tag K):Prop:=aZ C l ρ σ K
def FW(K:V->LLV->Prop)(P:V->LLV->Prop):Out->LLV->Prop:=fun o σ'=>match o with
 | .ret v=>K v σ'
 | .panic v=>P v σ'
def fk(C:Cx)(f:FuncId)(args:List V)(σ:LLV)(K:V->LLV->Prop)(P:V->LLV->Prop)(_:Tag K)(_:Tag P):Prop:=Fun C f args σ (FW K P)
def Fe(C:Cx)(f:FuncId)(args:List V)(σ:LLV)(k:V->Prop)(_:Tag k):Prop:=∃v,Fun C f args σ (fun o σ'=>o=.ret v/\σ'=σ)/\k v
def K3(x:V)(k:Int->Prop)(_:Tag k):Prop:=match x with
 | .d (.lit (.int _ n))=>k n
 | _=>False
theorem E7(kd:IntKind)(n:Int){k:Int->Prop}(t:Tag k):K3 (.d (.lit (.int kd n))) k t=k n:=rfl
def stT(C:Cx)(l:List O)(ρ:aj)(σ:LLV)(acc:Option LLV)(K:aj->LLV->Prop)(_:Tag K):Prop:=BC C σ l ρ acc K
def Ge(P:Program):Tab:=fun t=>
 match P.underlying t,P.info? t with
 | some d,some i=>match i.zero with
  | some z=>if z.cells.size=i.size then some ⟨d,i.size,i.bytes,z⟩else none
  | none=>none
 | _,_=>none
theorem EP(P:Program):pt P (Ge P):=by
 intro t i h;unfold Ge at h;split at h
 .rename_i d inf h1 h2;split at h
  .rename_i z hz;split at h
   .rename_i hs;cases h;exact⟨h1,inf,h2,rfl,rfl,hz,hs⟩
   .cases h
  .cases h
 .cases h
def cxk(P:Program)(gl:Nat->Option (List D))(kp:Nat->Option (Array Value->Prop))(h:P.follows .mixedOrders=true):Cx:=⟨P,Ge P,gl,kp,EP P,h,fun t=>!P.stoodInHeld t && !P.eqGuardType P.depth t,fun t ht=>by simpa using ht⟩
section
variable {C : Cx} {ρ : aj} {σ σ2 : LLV} {Q : bV} {K : aj -> Prop} {KA : aj -> LLD -> Prop} {cc : Cell} {acc : Option LLD} {KN : aj -> List V -> Prop} {cn : List V} {accn : Option (List V)} {KS : aj -> LLV -> Prop} {accs : Option LLV} {n0 : Nat}
theorem SG(n:Nat):ev C ρ (.t n)=get ρ n:=rfl
theorem RD(v:V):ev C ρ (.k v)=v:=rfl
theorem FE(s:Nat)(u:V)(r:aj)(t:Nat):get ((s,u)::r) t=if s=t then u else get r t:=rfl
theorem Ii(t:Nat):get [] t=.junk:=rfl
theorem Gb(s:Nat)(u:V)(r:aj)(t:Nat)(v:V):put ((s,u)::r) t v=if t<s then(t,v)::(s,u)::r else if t=s then(t,v)::r else(s,u)::put r t v:=rfl
theorem Ho(t:Nat)(v:V):put [] t v=[(t,v)]:=rfl
theorem Bg(t:Nat)(v:V):putd ρ (some t) v=put ρ t v:=rfl
theorem BQ(v:V):putd ρ none v=ρ:=rfl
theorem vd(l:List Nat):aY l []=[]:=rfl
theorem sa(l:List Nat)(s:Nat)(u:V)(r:aj):aY l ((s,u)::r)=if l.contains s=true then(s,u)::aY l r else aY l r:=by
 unfold aY;rw[Uy]
theorem RO(x:X)(d:Option Nat)(r:List O)(t:Tag Q):bh C (⟨d,.mv x,none⟩::r) ρ σ Q t=bh C r (putd ρ d (ev C ρ x).copy) σ Q .mk:=rfl
theorem SP(x:X)(d:Option Nat)(r:List O)(t:Tag K):bc C (⟨d,.mv x,none⟩::r) ρ σ K t=bc C r (putd ρ d (ev C ρ x).copy) σ K .mk:=rfl
theorem Kn(x y z:X)(d:Option Nat)(r:List O)(t:Tag Q):bh C (⟨d,.pick x y z,none⟩::r) ρ σ Q t=cF (lv (ev C ρ x) (ev C ρ y) (ev C ρ z)) (fun v=>bh C r (putd ρ d v) σ Q .mk) .mk:=rfl
theorem KI(x y z:X)(d:Option Nat)(r:List O)(t:Tag K):bc C (⟨d,.pick x y z,none⟩::r) ρ σ K t=cF (lv (ev C ρ x) (ev C ρ y) (ev C ρ z)) (fun v=>bc C r (putd ρ d v) σ K .mk) .mk:=by
 unfold bc cF;simp only[aZ,bK,cy,pv];cases lv (ev C ρ x) (ev C ρ y) (ev C ρ z)<;>rfl
theorem PJ(o:BinOp)(x y:X)(d:Option Nat)(r:List O)(t:Tag Q):bh C (⟨d,.bin o x y,none⟩::r) ρ σ Q t=cF (cd o (ev C ρ x) (ev C ρ y)) (fun v=>bh C r (putd ρ d v) σ Q .mk) .mk:=rfl
theorem Ow(o:BinOp)(x y:X)(d:Option Nat)(r:List O)(t:Tag K):bc C (⟨d,.bin o x y,none⟩::r) ρ σ K t=cF (cd o (ev C ρ x) (ev C ρ y)) (fun v=>bc C r (putd ρ d v) σ K .mk) .mk:=by
 unfold bc cF;simp only[aZ,bK,cy,pv];cases cd o (ev C ρ x) (ev C ρ y)<;>rfl
theorem Me(neq:Bool)(T:TypeId)(ks:List Kd)(x y:X)(d:Option Nat)(r:List O)(t:Tag Q):bh C (⟨d,.eqa neq T ks x y,none⟩::r) ρ σ Q t=onT (C.eqs T=true) (fun _=>cF (kr neq ks (ev C ρ x) (ev C ρ y)) (fun v=>bh C r (putd ρ d v) σ Q .mk) .mk) .mk:=by
 unfold bh cF onT;by_cases h:C.eqs T=true
 .simp only[cl,cU,cy,pv,h,if_true,true_and];cases kr neq ks (ev C ρ x) (ev C ρ y)<;>simp
 .simp only[cl,cU,cy,pv,if_neg h];simp[h]
theorem P9(neq:Bool)(x:X)(d:Option Nat)(r:List O)(t:Tag Q):bh C (⟨d,.nif neq x,none⟩::r) ρ σ Q t=cF (yo neq (ev C ρ x)) (fun v=>bh C r (putd ρ d v) σ Q .mk) .mk:=by
 unfold bh cF;simp only[cl,cU,cy,pv];cases yo neq (ev C ρ x)<;>simp
theorem KV(f:FuncId)(first:List X)(d:Option Nat)(r:List O)(t:Tag Q):bh C (⟨d,.mkbd f first,none⟩::r) ρ σ Q t=bh C r (putd ρ d (.bnd f (first.map (ev C ρ)))) σ Q .mk:=rfl
theorem Om(neq:Bool)(T:TypeId)(ks:List Kd)(x y:X)(d:Option Nat)(r:List O)(t:Tag K):bc C (⟨d,.eqa neq T ks x y,none⟩::r) ρ σ K t=onT (C.eqs T=true) (fun _=>cF (kr neq ks (ev C ρ x) (ev C ρ y)) (fun v=>bc C r (putd ρ d v) σ K .mk) .mk) .mk:=by
 unfold bc cF onT;by_cases h:C.eqs T=true
 .simp only[aZ,bK,cy,pv,h,if_true,true_and];cases kr neq ks (ev C ρ x) (ev C ρ y)<;>simp
 .simp only[aZ,bK,cy,pv,if_neg h];simp[h]
theorem Sx(o:UnOp)(x:X)(d:Option Nat)(r:List O)(t:Tag Q):bh C (⟨d,.un o x,none⟩::r) ρ σ Q t=cF (unV o (ev C ρ x)) (fun v=>bh C r (putd ρ d v) σ Q .mk) .mk:=rfl
theorem R9(o:UnOp)(x:X)(d:Option Nat)(r:List O)(t:Tag K):bc C (⟨d,.un o x,none⟩::r) ρ σ K t=cF (unV o (ev C ρ x)) (fun v=>bc C r (putd ρ d v) σ K .mk) .mk:=by
 unfold bc cF;simp only[aZ,bK,cy,pv];cases unV o (ev C ρ x)<;>rfl
theorem KG(kd:IntKind)(x:X)(d:Option Nat)(r:List O)(t:Tag Q):bh C (⟨d,.conv kd x,none⟩::r) ρ σ Q t=cF (sT kd (ev C ρ x)) (fun v=>bh C r (putd ρ d v) σ Q .mk) .mk:=rfl
theorem KJ(kd:IntKind)(x:X)(d:Option Nat)(r:List O)(t:Tag K):bc C (⟨d,.conv kd x,none⟩::r) ρ σ K t=cF (sT kd (ev C ρ x)) (fun v=>bc C r (putd ρ d v) σ K .mk) .mk:=by
 unfold bc cF;simp only[aZ,bK,cy,pv];cases sT kd (ev C ρ x)<;>rfl
theorem Mv(x:X)(d:Option Nat)(r:List O)(t:Tag Q):bh C (⟨d,.cbs x,none⟩::r) ρ σ Q t=cF (ub σ (ev C ρ x)) (fun v=>bh C r (putd ρ d v) σ Q .mk) .mk:=rfl
theorem MZ(x:X)(d:Option Nat)(r:List O)(t:Tag K):bc C (⟨d,.cbs x,none⟩::r) ρ σ K t=cF (ub σ (ev C ρ x)) (fun v=>bc C r (putd ρ d v) σ K .mk) .mk:=by
 unfold bc cF;simp only[aZ,bK,cy,pv];cases ub σ (ev C ρ x)<;>rfl
theorem Ix(x:X)(d:Option Nat)(r:List O)(t:Tag Q):bh C (⟨d,.nilck x,none⟩::r) ρ σ Q t=cF (lA (ev C ρ x)) (fun v=>bh C r (putd ρ d v) σ Q .mk) .mk:=rfl
theorem IR(x:X)(d:Option Nat)(r:List O)(t:Tag K):bc C (⟨d,.nilck x,none⟩::r) ρ σ K t=cF (lA (ev C ρ x)) (fun v=>bc C r (putd ρ d v) σ K .mk) .mk:=by
 unfold bc cF;simp only[aZ,bK,cy,pv];cases lA (ev C ρ x)<;>rfl
theorem iN{op:OP}{ρ:aj}{σ:LLV}{C:Cx}{k k':V->Prop}(hk:∀v,k v->k' v)(h:bK C op ρ σ k):bK C op ρ σ k':=by
 obtain⟨v,h1,h2⟩:=iV h;unfold bK at h1 ⊢;split at h1
 .obtain⟨u,g1,g2⟩:=h1;subst g2;exact⟨u,g1,hk _ h2⟩
 .split at h1
  .obtain⟨u,g1,g2⟩:=h1;subst g2;exact⟨u,g1,hk _ h2⟩
  .exact h1.elim
 .split at h1
  .exact⟨h1.1,by rw[h1.2];exact hk _ h2⟩
  .exact h1.elim
 .obtain⟨u,g1,g2⟩:=h1;subst g2;exact⟨u,g1,hk _ h2⟩
 .split at h1
  .subst h1;exact hk _ h2
  .exact h1.elim
def kvT(a:Option (List (Key×V)))(b:Option Key)(f:List (Key×V)->Key->Prop)(_:Tag f):Prop:=match a,b with|some kv,some key=>f kv key|_,_=>False
theorem GH(kv:List (Key×V))(key:Key)(f:List (Key×V)->Key->Prop)(t:Tag f):kvT (some kv) (some key) f t=f kv key:=rfl
def Qm(v:V)(f:Nat->Nat->Nat->Prop)(_:Tag f):Prop:=match asB v with|some (i,off,n)=>f i off n|none=>False
theorem ED(i off n:Nat)(f:Nat->Nat->Nat->Prop)(t:Tag f):Qm (.bsl i off n 1) f t=f i off n:=rfl
theorem Ew(i n c:Nat)(f:Nat->Nat->Nat->Prop)(t:Tag f):Qm (.bsc i n c) f t=f i 0 n:=rfl
theorem Oy(st ok:Bool)(z:V)(x y:X)(d:Option Nat)(r:List O)(t:Tag Q):bh C (⟨d,.mlk st ok z x y,none⟩::r) ρ σ Q t=cF (yf st ok z σ (ev C ρ x) (ev C ρ y)) (fun v=>bh C r (putd ρ d v) σ Q .mk) .mk:=rfl
theorem Qs(st:Bool)(d:Option Nat)(r:List O)(t:Tag Q):bh C (⟨d,.mmk st,none⟩::r) ρ σ Q t=bh C r (putd ρ d (.mp σ.length)) (σ++[[.mapc st []]]) Q .mk:=rfl
theorem OR(st:Bool)(x y z:X)(d:Option Nat)(r:List O)(t:Tag Q):bh C (⟨d,.mst st x y z,none⟩::r) ρ σ Q t=kvT (iz st σ (ev C ρ x)) (l9 st (ev C ρ y)) (fun kv key=>bh C r ρ (ph σ st (mR key (ev C ρ z).copy kv) (ev C ρ x)) Q .mk) .mk:=by
 unfold bh kvT;simp only[cl,cU];cases iz st σ (ev C ρ x)<;>cases l9 st (ev C ρ y)<;>rfl
def JS(v:V)(f g:Unit->Prop)(_:Tag f)(_:Tag g):Prop:=if Kt v=true then f ()else g ()
theorem K8(f g:Unit->Prop)(s:Tag f)(t:Tag g):JS (.d (.sl [])) f g s t=f ():=rfl
theorem Fw(i off n:Nat)(f g:Unit->Prop)(s:Tag f)(t:Tag g):JS (.bsl i off n 1) f g s t=g ():=rfl
theorem DQ(i n c:Nat)(f g:Unit->Prop)(s:Tag f)(t:Tag g):JS (.bsc i n c) f g s t=g ():=rfl
def avT(x:V)(src:List V)(bytes:Nat)(z:V)(σ:LLV)(f:V->LLV->Prop)(_:Tag f):Prop:=Jg σ x src bytes z f
theorem Iq(src:List V)(bytes:Nat)(z:V)(σ:LLV)(f:V->LLV->Prop)(t:Tag f):avT .nil src bytes z σ f t=(src.length*bytes≤140737488355328/\∀c,src.length≤c->f (.bsc σ.length src.length c) (σ++[src++List.replicate (c-src.length) z])):=rfl
theorem DE:mu []=some []:=rfl
theorem Ek(i o n k:Nat)(r:List V):mu (.bsl i o n k::r)=(mu r).map fun l=>.bsl i o n k::l:=by
 simp only[mu,V.boxable1];cases mu r<;>rfl
theorem K0(x:D)(r:List V):mu (.d x::r)=(mu r).map fun l=>.d x::l:=by
 simp only[mu,V.boxable1];cases mu r<;>rfl
theorem Cy(i n c:Nat):pF false (.bsc i n c)=some (aF .i64 n):=rfl
theorem Fx(b n c:Nat)(kd:IntKind)(j:Nat):iaV 1 (.bsc b n c) (.d (.lit (.int kd (j:Int))))=if j<n then some (.ptr b j)else none:=by
 unfold iaV;simp only[T8,and_true,Nat.mul_one,UD];by_cases h:j<n
 .rw[if_pos h,if_pos (by omega)]
 .rw[if_neg h,if_neg (by omega)]
theorem KH(i n c:Nat):(V.bsc i n c).copy=.bsc i n c:=rfl
def JK(st ok:Bool)(z:V)(a:Option (List (Key×V)))(b:Option Key):Option V:=match a,b with|some kv,some key=>some (qt ok z (lZ key kv))|_,_=>none
theorem Jw(st ok:Bool)(z:V)(i:Nat)(y:V):yf st ok z σ (.mp i) y=JK st ok z (Cv st σ[i]?) (l9 st y):=by
 unfold yf JK iz;rfl
theorem tc(st ok:Bool)(z:V)(kv:List (Key×V))(key:Key):JK st ok z (some kv) (some key)=some (qt ok z (lZ key kv)):=rfl
theorem sJ(st:Bool)(kv:List (Key×V)):Cv st (some [.mapc st kv])=some kv:=by simp[Cv]
theorem Aw(n:Int):l9 false (.d (.lit (.int .i64 n)))=some (.i n):=rfl
theorem II(s:ByteArray):l9 true (.d (.lit (.string s)))=some (.s s):=rfl
theorem FC(st:Bool)(i:Nat):iz st σ (.mp i)=Cv st σ[i]? := rfl
theorem DK(st:Bool)(kv:List (Key×V))(i:Nat):ph σ st kv (.mp i)=σ.set i [.mapc st kv]:=rfl
def PY(b:Option (List V)):Option V:=match b with|some [.mapc _ kv]=>if kv.length≤1000000000 then some (aF .i64 kv.length)else none|_=>none
theorem M7(i:Nat):SY σ (.mp i)=PY σ[i]? := rfl
theorem AK(st:Bool)(kv:List (Key×V)):PY (some [.mapc st kv])=if kv.length≤1000000000 then some (aF .i64 kv.length)else none:=rfl
theorem KQ(z v:V):qt false z (some v)=v:=rfl
theorem HU(z:V):qt false z none=z:=rfl
theorem KT(z v:V):qt true z (some v)=.tup [v,ao true]:=rfl
theorem GX(z:V):qt true z none=.tup [z,ao false]:=rfl
theorem R7(x:D):(V.d x).copy=.d x:=rfl
theorem JX(i o n k:Nat):(V.bsl i o n k).copy=.bsl i o n k:=rfl
theorem JZ(T k:Nat)(rows:LLD):(V.own T k rows).copy=.d (.sl rows):=rfl
theorem Lm:V.nil.copy=.nil:=rfl
theorem J2(cs:List V):(V.agg cs).copy=.agg cs:=rfl
theorem PE(i:Nat):(V.mp i).copy=.mp i:=rfl
def Kb(n off:Nat)(b:Option (List V)):Option (List V):=match b with|some cs=>if off+n≤cs.length/\cA cs=true then some (((cs.drop off).take n).map V.copy)else(tyL n off cs).map fun l=>l.map V.copy|none=>none
theorem Cf(n off:Nat)(cs:List V):Kb n off (some cs)=if off+n≤cs.length/\cA cs=true then some (((cs.drop off).take n).map V.copy)else(tyL n off cs).map fun l=>l.map V.copy:=rfl
theorem C1(i off n:Nat):AZ σ (.bsl i off n 1)=Kb n off σ[i]? := by
 unfold AZ Kb kV;simp only;cases σ[i]? with
 | none=>rfl
 | some cs=>simp only;split<;>rfl
theorem Hs(rows:LLD):AZ σ (.d (.sl rows))=if rows.all (fun r=>r.length==1)=true then some (rows.flatten.map V.d)else none:=rfl
theorem SS(off:Nat)(x:X)(d:Option Nat)(r:List O)(t:Tag Q):bh C (⟨d,.fa off x,none⟩::r) ρ σ Q t=cF (faV off (ev C ρ x)) (fun v=>bh C r (putd ρ d v) σ Q .mk) .mk:=rfl
theorem Sy(off:Nat)(x:X)(d:Option Nat)(r:List O)(t:Tag K):bc C (⟨d,.fa off x,none⟩::r) ρ σ K t=cF (faV off (ev C ρ x)) (fun v=>bc C r (putd ρ d v) σ K .mk) .mk:=by
 unfold bc cF;simp only[aZ,bK,cy,pv];cases faV off (ev C ρ x)<;>rfl
theorem QR(kk:Nat)(x i:X)(d:Option Nat)(r:List O)(t:Tag Q):bh C (⟨d,.ia kk x i,none⟩::r) ρ σ Q t=cF (iaV kk (ev C ρ x) (ev C ρ i)) (fun v=>bh C r (putd ρ d v) σ Q .mk) .mk:=rfl
theorem Q2(kk:Nat)(x i:X)(d:Option Nat)(r:List O)(t:Tag K):bc C (⟨d,.ia kk x i,none⟩::r) ρ σ K t=cF (iaV kk (ev C ρ x) (ev C ρ i)) (fun v=>bc C r (putd ρ d v) σ K .mk) .mk:=by
 unfold bc cF;simp only[aZ,bK,cy,pv];cases iaV kk (ev C ρ x) (ev C ρ i)<;>rfl
theorem QJ(x i:X)(d:Option Nat)(r:List O)(t:Tag Q):bh C (⟨d,.ix x i,none⟩::r) ρ σ Q t=cF (ixV (ev C ρ x) (ev C ρ i)) (fun v=>bh C r (putd ρ d v) σ Q .mk) .mk:=rfl
theorem PU(off kk:Nat)(ag:Bool)(x:X)(d:Option Nat)(r:List O)(t:Tag Q):bh C (⟨d,.fld off kk ag x,none⟩::r) ρ σ Q t=cF (EQ off kk ag (ev C ρ x)) (fun v=>bh C r (putd ρ d v) σ Q .mk) .mk:=rfl
theorem L7(s:Bool)(x:X)(d:Option Nat)(r:List O)(t:Tag Q):bh C (⟨d,.len s x,none⟩::r) ρ σ Q t=cF (pF s (ev C ρ x)) (fun v=>bh C r (putd ρ d v) σ Q .mk) .mk:=rfl
theorem NY(s:Bool)(x:X)(d:Option Nat)(r:List O)(t:Tag K):bc C (⟨d,.len s x,none⟩::r) ρ σ K t=cF (pF s (ev C ρ x)) (fun v=>bc C r (putd ρ d v) σ K .mk) .mk:=by
 unfold bc cF;simp only[aZ,bK,cy,pv];cases pF s (ev C ρ x)<;>rfl
theorem NZ(x:X)(i:Nat)(d:Option Nat)(r:List O)(t:Tag Q):bh C (⟨d,.ext x i,none⟩::r) ρ σ Q t=cF (vz (ev C ρ x) i) (fun v=>bh C r (putd ρ d v) σ Q .mk) .mk:=rfl
theorem MQ(x:X)(i:Nat)(d:Option Nat)(r:List O)(t:Tag K):bc C (⟨d,.ext x i,none⟩::r) ρ σ K t=cF (vz (ev C ρ x) i) (fun v=>bc C r (putd ρ d v) σ K .mk) .mk:=by
 unfold bc cF;simp only[aZ,bK,cy,pv];cases vz (ev C ρ x) i<;>rfl
theorem Lk(kk:Nat)(ag:Bool)(x:X)(d:Option Nat)(r:List O)(t:Tag Q):bh C (⟨d,.load kk ag x,none⟩::r) ρ σ Q t=cF (j5 σ kk ag (ev C ρ x)) (fun v=>bh C r (putd ρ d v) σ Q .mk) .mk:=rfl
theorem K6(kk:Nat)(ag:Bool)(x:X)(d:Option Nat)(r:List O)(t:Tag K):bc C (⟨d,.load kk ag x,none⟩::r) ρ σ K t=cF (j5 σ kk ag (ev C ρ x)) (fun v=>bc C r (putd ρ d v) σ K .mk) .mk:=by
 unfold bc cF;simp only[aZ,bK,cy,pv];cases j5 σ kk ag (ev C ρ x)<;>rfl
theorem PB(zs:List V)(ps:List (Nat×Nat×X))(d:Option Nat)(r:List O)(t:Tag Q):bh C (⟨d,.bld zs ps,none⟩::r) ρ σ Q t=cF ((ni (ev C ρ) zs ps).map V.agg) (fun v=>bh C r (putd ρ d v) σ Q .mk) .mk:=rfl
theorem Mn(zs:List V)(ps:List (Nat×Nat×X))(d:Option Nat)(r:List O)(t:Tag K):bc C (⟨d,.bld zs ps,none⟩::r) ρ σ K t=cF ((ni (ev C ρ) zs ps).map V.agg) (fun v=>bc C r (putd ρ d v) σ K .mk) .mk:=by
 unfold bc cF;simp only[aZ,bK,cy,pv];cases ni (ev C ρ) zs ps<;>rfl
theorem L6(s:Bool)(kk:Nat)(x:X)(lo hi:Option X)(d:Option Nat)(r:List O)(t:Tag Q):bh C (⟨d,.sub s kk x lo hi,none⟩::r) ρ σ Q t=cF (mC s kk (ev C ρ x) (lo.map (ev C ρ)) (hi.map (ev C ρ))) (fun v=>bh C r (putd ρ d v) σ Q .mk) .mk:=rfl
theorem Pl(s:Bool)(kk:Nat)(x:X)(lo hi:Option X)(d:Option Nat)(r:List O)(t:Tag K):bc C (⟨d,.sub s kk x lo hi,none⟩::r) ρ σ K t=cF (mC s kk (ev C ρ x) (lo.map (ev C ρ)) (hi.map (ev C ρ))) (fun v=>bc C r (putd ρ d v) σ K .mk) .mk:=by
 unfold bc cF;simp only[aZ,bK,cy,pv];cases mC s kk (ev C ρ x) (lo.map (ev C ρ)) (hi.map (ev C ρ))<;>rfl
theorem Ky(f:FuncId)(cap:List X)(d:Option Nat)(r:List O)(t:Tag Q):bh C (⟨d,.mkfn f cap,none⟩::r) ρ σ Q t=bh C r (putd ρ d (.fn f (cap.map (ev C ρ)))) σ Q .mk:=rfl
theorem Py(ty:TypeId)(x:X)(d:Option Nat)(r:List O)(t:Tag Q):bh C (⟨d,.mki ty x,none⟩::r) ρ σ Q t=cF (E5 ty (ev C ρ x)) (fun v=>bh C r (putd ρ d v) σ Q .mk) .mk:=rfl
theorem Sw(g:Bool)(x y:X)(d:Option Nat)(r:List O)(t:Tag Q):bh C (⟨d,.mx g x y,none⟩::r) ρ σ Q t=cF (mxV g (ev C ρ x) (ev C ρ y)) (fun v=>bh C r (putd ρ d v) σ Q .mk) .mk:=rfl
theorem JJ(f:FuncId)(args:List X)(d:Option Nat)(r:List O)(t:Tag Q):bh C (⟨d,.call f args,none⟩::r) ρ σ Q t=fk C f (args.map fun x=>(ev C ρ x).lend) σ (fun v σ'=>bh C r (putd ρ d v) σ' Q .mk) (fun v σ'=>Q (.panic v) ρ σ') .mk .mk:=rfl
theorem G0(x:X)(args:List X)(d:Option Nat)(r:List O)(t:Tag Q):bh C (⟨d,.callv x args,none⟩::r) ρ σ Q t=Io (ev C ρ x) (args.map fun x=>(ev C ρ x).lend) (fun f as=>fk C f as σ (fun v σ'=>bh C r (putd ρ d v) σ' Q .mk) (fun v σ'=>Q (.panic v) ρ σ') .mk .mk) .mk:=rfl
theorem Qg(T:Nat)(cs:List V)(d:Option Nat)(r:List O)(t:Tag Q):bh C (⟨d,.new T cs,none⟩::r) ρ σ Q t=bh C r (putd ρ d (.ptr σ.length 0)) (σ++[cs]) Q .mk:=rfl
theorem L4(T:Nat)(x:X)(d:Option Nat)(r:List O)(t:Tag Q):bh C (⟨d,.box T x,none⟩::r) ρ σ Q t=onT ((ev C ρ x).boxable=true) (fun _=>bh C r (putd ρ d (.ptr σ.length 0)) (σ++[(ev C ρ x).cells]) Q .mk) .mk:=rfl
theorem Lo(T:Nat)(x:X)(d:Option Nat)(r:List O)(t:Tag Q):bh C (⟨d,.boxt T x,none⟩::r) ρ σ Q t=tyT (ev C ρ x) (fun k=>bh C r (putd ρ d (.ptr σ.length 0)) (σ++[tyc T k]) Q .mk):=rfl
theorem KX(k:Int)(K:Int->Prop):tyT (.agg [.d (.lit (.pointer none)),.nil,.d (.lit (.int .i64 k))]) K=K k:=rfl
theorem M5(kk:Nat)(x y:X)(d:Option Nat)(r:List O)(t:Tag Q):bh C (⟨d,.sto kk x y,none⟩::r) ρ σ Q t=Bb (ev C ρ x) (fun i o=>bxT σ[i]? (fun cs=>onT ((ev C ρ y).boxable=true/\(ev C ρ y).cells.length=kk/\o+kk≤cs.length/\cA cs=true) (fun _=>bh C r ρ (σ.set i (over cs o (ev C ρ y).cells)) Q .mk) .mk) .mk) .mk:=rfl
theorem J1(x:X)(s:Nat)(d:Option Nat)(r:List O)(t:Tag Q):bh C (⟨d,.stoo x s,none⟩::r) ρ σ Q t=Bb (ev C ρ x) (fun i o=>vX (get ρ s) (fun T k rows=>bxT σ[i]? (fun cs=>onT (o<cs.length/\cA cs=true) (fun _=>bh C r (put ρ s (.d (.sl rows))) (σ.set i (over cs o [.own T k rows])) Q .mk) .mk) .mk) .mk) .mk:=by
 unfold bh Bb vX bxT onT;simp only[cl,cU];cases ev C ρ x<;>simp only
 cases get ρ s<;>rfl
theorem OI(x:X)(d:Option Nat)(r:List O)(t:Tag Q):bh C (⟨d,.ldo x,none⟩::r) ρ σ Q t=Bb (ev C ρ x) (fun i o=>bxT σ[i]? (fun cs=>vX (cs.getD o .junk) (fun T k rows=>bh C r (putd ρ d (.own T k rows)) (σ.set i (cs.set o (.d (.sl rows)))) Q .mk) .mk) .mk) .mk:=by
 unfold bh Bb vX bxT;simp only[cl,cU];cases ev C ρ x<;>simp only
 rename_i i o;cases σ[i]?<;>simp only
 rename_i cs;rw[Ul];cases cs[o]? with
 | none=>rfl
 | some v=>cases v<;>rfl
theorem O6(s:Nat)(d:Option Nat)(r:List O)(t:Tag Q):bh C (⟨d,.mvo s,none⟩::r) ρ σ Q t=vX (get ρ s) (fun T k rows=>bh C r (putd (put ρ s (.d (.sl rows))) d (.own T k rows)) σ Q .mk) .mk:=rfl
theorem Kr(T k:Nat)(d:Option Nat)(r:List O)(t:Tag Q):bh C (⟨d,.nilo T k,none⟩::r) ρ σ Q t=bh C r (putd ρ d (.own T k [])) σ Q .mk:=rfl
theorem LO(T k bytes s:Nat)(y:X)(d:Option Nat)(r:List O)(t:Tag Q):bh C (⟨d,.app T k bytes s y,none⟩::r) ρ σ Q t=vX (get ρ s) (fun T' k' rows=>rwT (fw (ev C ρ y)) (fun rows2=>onT (T'=T/\k'=k/\rows2.all (fun r=>r.length==k)=true/\(rows.length+rows2.length)*bytes≤140737488355328) (fun _=>bh C r (putd (put ρ s (.d (.sl rows))) d (.own T k (rows++rows2))) σ Q .mk) .mk) .mk) .mk:=by
 unfold bh vX rwT onT;simp only[cl,cU];cases get ρ s<;>simp only
 cases fw (ev C ρ y)<;>rfl
theorem OX(T k:Nat)(xs:List X)(d:Option Nat)(r:List O)(t:Tag Q):bh C (⟨d,.mks T k xs,none⟩::r) ρ σ Q t=rwT (dw (xs.map (ev C ρ))) (fun rows=>onT (rows.all (fun r=>r.length==k)=true) (fun _=>bh C r (putd ρ d (.d (.sl rows))) σ Q .mk) .mk) .mk:=rfl
theorem Ox(T k bytes:Nat)(x:X)(d:Option Nat)(r:List O)(t:Tag Q):bh C (⟨d,.mkc T k bytes x,none⟩::r) ρ σ Q t=K3 (ev C ρ x) (fun n=>onT (0≤n/\n*bytes≤140737488355328) (fun _=>bh C r (putd ρ d (.own T k [])) σ Q .mk) .mk) .mk:=by
 unfold bh K3 onT;simp only[cl,cU];cases ev C ρ x with
 | d z=>cases z with
  | lit v=>cases v<;>rfl
  | sl rows=>rfl
 | _=>rfl
theorem Kh(T k:Nat)(xs:List X)(d:Option Nat)(r:List O)(t:Tag Q):bh C (⟨d,.mkso T k xs,none⟩::r) ρ σ Q t=rwT (dw (xs.map (ev C ρ))) (fun rows=>onT (rows.all (fun r=>r.length==k)=true) (fun _=>bh C r (putd ρ d (.own T k rows)) σ Q .mk) .mk) .mk:=rfl
theorem Oa(T:TypeId)(z:V)(x:X)(d:Option Nat)(r:List O)(t:Tag Q):bh C (⟨d,.tas T z x,none⟩::r) ρ σ Q t=cF (Gl T z (ev C ρ x)) (fun v=>bh C r (putd ρ d v) σ Q .mk) .mk:=rfl
theorem NN(x:X)(d:Option Nat)(r:List O)(t:Tag Q):bh C (⟨d,.pan x,none⟩::r) ρ σ Q t=ifT (ev C ρ x) (fun ty v=>Q (.panic (.iface ty v)) ρ σ) .mk:=rfl
theorem IM(d:Option Nat)(op:OP)(s:Nat)(b:Bool)(r:List O)(t:Tag Q):bh C (⟨d,op,some (s,b)⟩::r) ρ σ Q t=tC (get ρ s) (fun c=>si (c==b) (fun _=>bh C (⟨d,op,none⟩::r) (put ρ s (.d (.lit (.bool b)))) σ Q .mk) (fun _=>bh C r (putd (put ρ s (.d (.lit (.bool (!b))))) d (.tup [])) σ Q .mk) .mk .mk) (fun _=>bh C r (putd ρ d (.tup [])) σ Q .mk) .mk .mk:=by
 unfold bh tC si;simp only[cl,beq_iff_eq,beq_eq_false_iff_ne,ne_eq];all_goals rfl
theorem Nn(t:Tag Q):bh C [] ρ σ Q t=Q .normal ρ σ:=rfl
theorem La(f:FuncId)(args:List X)(d:Option Nat)(r:List O)(t:Tag K):bc C (⟨d,.call f args,none⟩::r) ρ σ K t=Fe C f (args.map fun x=>(ev C ρ x).lend) σ (fun v=>bc C r (putd ρ d v) σ K .mk) .mk:=rfl
theorem Hx(f:FuncId)(args:List X)(d:Option Nat)(r:List O)(t:Tag Q):bh C (⟨d,.calln f args,none⟩::r) ρ σ Q t=fk C f (args.map fun x=>(ev C ρ x).copy) σ (fun v σ'=>bh C r (putd ρ d v) σ' Q .mk) (fun v σ'=>Q (.panic v) ρ σ') .mk .mk:=rfl
theorem Ha(x:X)(args:List X)(d:Option Nat)(r:List O)(t:Tag K):bc C (⟨d,.callv x args,none⟩::r) ρ σ K t=fnT (ev C ρ x) (fun f cap=>Fe C f ((args.map fun x=>(ev C ρ x).lend)++cap) σ (fun v=>bc C r (putd ρ d v) σ K .mk) .mk) .mk:=rfl
theorem Mh(T k:Nat)(xs:List X)(d:Option Nat)(r:List O)(t:Tag K):bc C (⟨d,.mks T k xs,none⟩::r) ρ σ K t=rwT (dw (xs.map (ev C ρ))) (fun rows=>onT (rows.all (fun r=>r.length==k)=true) (fun _=>bc C r (putd ρ d (.d (.sl rows))) σ K .mk) .mk) .mk:=rfl
theorem He(d:Option Nat)(op:OP)(s:Nat)(b:Bool)(r:List O)(t:Tag K):bc C (⟨d,op,some (s,b)⟩::r) ρ σ K t=tC (get ρ s) (fun c=>si (c==b) (fun _=>bc C (⟨d,op,none⟩::r) (put ρ s (.d (.lit (.bool b)))) σ K .mk) (fun _=>bc C r (putd (put ρ s (.d (.lit (.bool (!b))))) d (.tup [])) σ K .mk) .mk .mk) (fun _=>bc C r (putd ρ d (.tup [])) σ K .mk) .mk .mk:=by
 unfold bc tC si;simp only[aZ,beq_iff_eq,beq_eq_false_iff_ne,ne_eq];all_goals rfl
theorem N2(t:Tag K):bc C [] ρ σ K t=K ρ:=rfl
theorem MD(σf:LLV)(t:Tag KS):stT C [] ρ σ (some σf) KS t=KS ρ σf:=rfl
def gT(C:Cx)(l:List (O×GK))(m:Nat)(h:List LLV)(p:List PendG)(ρ:aj)(σ:LLV)(k:aj->LLV->Prop)(P:V->LLV->Prop)(_:Tag k)(_:Tag P):Prop:=eT C P k l m h p ρ σ
def gnx(F:aj->LLV->Prop):bV:=fun e ρ σ=>e=.normal/\F ρ σ
theorem zi(F:aj->LLV->Prop):gnx F .normal ρ σ=F ρ σ:=by simp[gnx]
section
variable {m : Nat} {h : List LLV} {p : List PendG} {k : aj -> LLV -> Prop} {P : V -> LLV -> Prop} {r : List (O × GK)}
theorem Oe(s:Tag k)(t:Tag P):gT C [] m h p ρ σ k P s t=k ρ σ:=rfl
theorem J4(o:O)(lo:Nat)(s:Tag k)(t:Tag P):gT C ((o,.free lo)::r) m h p ρ σ k P s t=bc C [o] ρ σ (fun ρ'=>gT C r m h p ρ' σ k P .mk .mk) .mk:=rfl
theorem JV(o:O)(lo hi:Nat)(s:Tag k)(t:Tag P):gT C ((o,.calm lo hi)::r) m h p ρ σ k P s t=bc C [o] ρ σ (fun ρ'=>onT (nE C o ρ ρ' (m-lo) h) (fun _=>gT C r m h (xt m hi ⟨o,ρ,ρ',hi⟩ p) ρ' σ k P .mk .mk) .mk) .mk:=rfl
theorem KO(o:O)(lo:Nat)(s:Tag k)(t:Tag P):gT C ((o,.slot lo)::r) m h p ρ σ k P s t=bh C [o] ρ σ (gnx fun ρ' σ'=>gT C r m h p ρ' σ' k P .mk .mk) .mk:=rfl
def GA(C:Cx)(f:FuncId)(vs:List V)(σ:LLV)(R:LLV->Prop)(kk:V->LLV->Prop)(P:V->LLV->Prop)(pn:Unit->Prop)(_:Tag R)(_:Tag kk)(_:Tag P)(_:Tag pn):Prop:=
 (∃v σ1,Fun C f vs σ (fun o σ'=>o=.ret v/\σ'=σ1)/\R σ1/\kk v σ1)\/(Fun C f vs σ (fun o σ'=>∃u,o=.panic u/\P u σ')/\pn ())
theorem vS{f:FuncId}{vs:List V}{R:LLV->Prop}{kk P:V->LLV->Prop}{pn:Unit->Prop}{t1:Tag R}{t2:Tag kk}{t3:Tag P}{t4:Tag pn}{v:V}{σ1:LLV}(h1:Fun C f vs σ (fun o σ'=>o=.ret v/\σ'=σ1))(h2:R σ1)(h3:kk v σ1):GA C f vs σ R kk P pn t1 t2 t3 t4:=.inl ⟨v,σ1,h1,h2,h3⟩
theorem Gg{f:FuncId}{vs:List V}{R:LLV->Prop}{kk P:V->LLV->Prop}{pn:Unit->Prop}{t1:Tag R}{t2:Tag kk}{t3:Tag P}{t4:Tag pn}(h1:Fun C f vs σ (fun o σ'=>∃u,o=.panic u/\P u σ'))(h2:pn ()):GA C f vs σ R kk P pn t1 t2 t3 t4:=.inr ⟨h1,h2⟩
theorem J9(d:Option Nat)(f:FuncId)(args:List X)(s:Tag k)(t:Tag P):gT C ((⟨d,.call f args,none⟩,.act)::r) m h p ρ σ k P s t=GA C f (args.map fun x=>(ev C ρ x).lend) σ (fun σ1=>reG C (m+1) σ1 p) (fun v σ1=>gT C r (m+1) (σ::h) p (putd ρ d v) σ1 k P .mk .mk) P (fun _=>fd C r m h (putd ρ d .junk) σ) .mk .mk .mk .mk:=by
 unfold gT GA;simp only[eT]
theorem My(d:Option Nat)(kk:Nat)(x y:X)(s:Tag k)(t:Tag P):gT C ((⟨d,.sto kk x y,none⟩,.act)::r) m h p ρ σ k P s t=bh C [⟨d,.sto kk x y,none⟩] ρ σ (gnx fun ρ' σ'=>onT (reG C (m+1) σ' p) (fun _=>gT C r (m+1) (σ::h) p ρ' σ' k P .mk .mk) .mk) .mk:=by
 unfold gT;simp only[eT];rfl
theorem JE(d:Option Nat)(x:X)(y:Nat)(s:Tag k)(t:Tag P):gT C ((⟨d,.stoo x y,none⟩,.act)::r) m h p ρ σ k P s t=bh C [⟨d,.stoo x y,none⟩] ρ σ (gnx fun ρ' σ'=>onT (reG C (m+1) σ' p) (fun _=>gT C r (m+1) (σ::h) p ρ' σ' k P .mk .mk) .mk) .mk:=by
 unfold gT;simp only[eT];rfl
theorem Qo(d:Option Nat)(T:Nat)(cs:List V)(s:Tag k)(t:Tag P):gT C ((⟨d,.new T cs,none⟩,.act)::r) m h p ρ σ k P s t=bh C [⟨d,.new T cs,none⟩] ρ σ (gnx fun ρ' σ'=>onT (reG C (m+1) σ' p) (fun _=>gT C r (m+1) (σ::h) p ρ' σ' k P .mk .mk) .mk) .mk:=by
 unfold gT;simp only[eT];rfl
theorem JI(σ':LLV):reG C m σ' []=True:=rfl
theorem Hh(o:O)(ρ1 ρ2:aj)(hi:Nat)(σ':LLV):reG C m σ' (⟨o,ρ1,ρ2,hi⟩::p)=onT (if m≤hi then bc C [o] ρ1 σ' (fun ρ'=>ρ'=ρ2) .mk else True) (fun _=>reG C m σ' p) .mk:=rfl
theorem Df(o:O)(ρ1 ρ2:aj):nE C o ρ1 ρ2 0 h=True:=by cases h<;>rfl
theorem BN(o:O)(ρ1 ρ2:aj)(n:Nat):nE C o ρ1 ρ2 (n+1) (σ::h)=onT (bc C [o] ρ1 σ (fun ρ'=>ρ'=ρ2) .mk) (fun _=>nE C o ρ1 ρ2 n h) .mk:=rfl
theorem GZ(hi:Nat)(x:PendG):xt m hi x p=if m<hi then x::p else p:=rfl
theorem LZ:fd C [] m h ρ σ=True:=rfl
theorem JF(o:O)(lo:Nat):fd C ((o,.free lo)::r) m h ρ σ=if lo≤m then bc C [o] ρ σ (fun ρ'=>fd C r m h ρ' σ) .mk else fd C r m h (ap o (.junk,.junk) ρ) σ:=rfl
theorem KK(o:O)(lo hi:Nat):fd C ((o,.calm lo hi)::r) m h ρ σ=if lo≤m then bc C [o] ρ σ (fun ρ'=>onT (nE C o ρ ρ' (m-lo) h) (fun _=>fd C r m h ρ' σ) .mk) .mk else fd C r m h (ap o (.junk,.junk) ρ) σ:=rfl
theorem JO(o:O)(lo:Nat):fd C ((o,.slot lo)::r) m h ρ σ=if lo≤m then bh C [o] ρ σ (gnx fun ρ' _=>fd C r m h ρ' σ) .mk else fd C r m h (ap o (.junk,.junk) ρ) σ:=rfl
theorem Lw(o:O):fd C ((o,.act)::r) m h ρ σ=fd C r m h (ap o (.junk,.junk) ρ) σ:=rfl
end
theorem IZ(l:List (O×GK))(keep:List Nat)(t:Tag Q):eQ C n0 (.drawg l keep) ρ σ Q t=gT C l 0 [] [] ρ σ (fun ρ' σ'=>Q .normal (aY keep ρ') σ') (fun u σ'=>∀ρ',Q (.panic u) (aY keep ρ') σ') .mk .mk:=rfl
def vT(C:Cx)(p:AV)(σ:LLV)(K:aj->LLV->Prop)(l:List O)(pend:List (O×aj×V))(ρ:aj)(_:Tag K):Prop:=IE C p σ K l pend ρ
theorem GW(l:List O)(x:X)(t:Tag Q):eQ C n0 (.drawp l x) ρ σ Q t=bc C l ρ σ (fun ρ'=>ifT (ev C ρ' x) (fun ty u=>∀ρ2,Q (.panic (.iface ty u)) ρ2 σ) .mk) .mk:=by
 unfold eQ bc;simp only[awp];congr 1;funext ρ';unfold ifT;split
 .rename_i ty u e;exact propext ⟨fun⟨_,_,e1,h⟩=>by rw[e]at e1;cases e1;exact h,fun h=>⟨_,_,e,h⟩⟩
 .rename_i hne;exact propext ⟨fun⟨ty,u,e,_⟩=>hne ty u e,fun h=>h.elim⟩
theorem Ht(p:AV)(K:aj->LLV->Prop)(d:Option Nat)(op:OP)(r:List O)(pend:List (O×aj×V))(t:Tag K):vT C p σ K (⟨d,op,none⟩::r) pend ρ t=bc C [⟨some 0,op,none⟩] ρ σ (fun ρ'=>vT C p σ K r ((⟨d,op,none⟩,ρ,get ρ' 0)::pend) (putd ρ d (get ρ' 0)) .mk) .mk:=by
 unfold vT bc;simp only[IE,aZ,true_and,putd];refine propext ⟨iN fun v hh=>?_,iN fun v hh=>?_⟩
 .simpa only[cN,if_true]using hh
 .simpa only[cN,if_true]using hh
theorem JG(d T bytes:Nat)(z:V)(s:Nat)(y:X)(st:Bool)(x k v:X)(K:aj->LLV->Prop)(pend:List (O×aj×V))(t:Tag K):vT C ⟨d,T,bytes,z,s,y,st,x,k,v⟩ σ K [] pend ρ t=bxT (AZ σ (ev C ρ y)) (fun src=>onT (0<src.length) (fun _=>avT (get ρ s) src bytes z σ (fun u σ1=>onT (reV C σ1 pend) (fun _=>
 kvT (iz st σ1 (ev C (put ρ d u) x)) (l9 st (ev C (put ρ d u) k)) (fun kv key=>K (put ρ d u) (ph σ1 st (mR key (ev C (put ρ d u) v).copy kv) (ev C (put ρ d u) x))) .mk) .mk) .mk) .mk) .mk:=by
 unfold vT bxT onT avT;simp only[IE]
 have inner:∀u σ1,(reV C σ1 pend/\Ka C ⟨d,T,bytes,z,s,y,st,x,k,v⟩ K (put ρ d u) σ1)=(reV C σ1 pend/\kvT (iz st σ1 (ev C (put ρ d u) x)) (l9 st (ev C (put ρ d u) k)) (fun kv key=>K (put ρ d u) (ph σ1 st (mR key (ev C (put ρ d u) v).copy kv) (ev C (put ρ d u) x))) .mk):=fun u σ1=>by
  unfold Ka kvT;simp only;cases iz st σ1 (ev C (put ρ d u) x)<;>cases l9 st (ev C (put ρ d u) k)<;>simp
 simp only[inner];cases AZ σ (ev C ρ y)<;>simp
theorem IJ:reV C σ []=True:=rfl
theorem EX(d:Option Nat)(op:OP)(g:Option (Nat×Bool))(ρ1:aj)(v:V)(r:List (O×aj×V)):reV C σ ((⟨d,op,g⟩,ρ1,v)::r)=onT (bc C [⟨some 0,op,none⟩] ρ1 σ (fun ρ'=>get ρ' 0=v) .mk) (fun _=>reV C σ r) .mk:=by
 unfold onT bc;simp only[reV,aZ,putd];refine propext ⟨fun⟨h1,h2⟩=>⟨iN (fun u hh=>?_) h1,h2⟩,fun⟨h1,h2⟩=>⟨iN (fun u hh=>?_) h1,h2⟩⟩
 .simpa only[cN,if_true]using hh
 .simpa only[cN,if_true]using hh
theorem Kf(t:Tag Q):eQ C n0 .skip ρ σ Q t=Q .normal ρ σ:=rfl
theorem Ot(l:List O)(keep:List Nat)(t:Tag Q):eQ C n0 (.ops l keep) ρ σ Q t=bh C l ρ σ (fun e ρ' σ'=>Q e (aY keep ρ') σ') .mk:=rfl
theorem Kc(l:List O)(keep:List Nat)(t:Tag Q):eQ C n0 (.draw l keep) ρ σ Q t=bc C l ρ σ (fun ρ'=>Q .normal (aY keep ρ') σ) .mk:=rfl
theorem ON(a b:Cd)(t:Tag Q):eQ C n0 (.seq a b) ρ σ Q t=eQ C n0 a ρ σ (andThen (fun ρ' σ'=>eQ C n0 b ρ' σ' Q .mk) Q) .mk:=rfl
theorem K7(x:X)(a b:Cd)(t:Tag Q):eQ C n0 (.cond x a b) ρ σ Q t=Ju (ev C ρ x) (fun c=>si c (fun _=>eQ C n0 a ρ σ Q .mk) (fun _=>eQ C n0 b ρ σ Q .mk) .mk .mk) .mk:=rfl
theorem GY(id:Nat)(a:Cd)(t:Tag Q):eQ C n0 (.block id a) ρ σ Q t=eQ C n0 a ρ σ (pp id Q) .mk:=rfl
theorem Kw(id:Nat)(t:Tag Q):eQ C n0 (.exit id) ρ σ Q t=Q (.exit id) ρ σ:=rfl
theorem Lu(t:Tag Q):eQ C n0 .ret ρ σ Q t=Q .ret ρ σ:=rfl
theorem wT(next:aj->LLV->Prop):andThen next Q .normal ρ σ=next ρ σ:=rfl
theorem FV(next:aj->LLV->Prop):andThen next Q .ret ρ σ=Q .ret ρ σ:=rfl
theorem BX(next:aj->LLV->Prop)(i:Nat):andThen next Q (.exit i) ρ σ=Q (.exit i) ρ σ:=rfl
theorem yr(next:aj->LLV->Prop)(v:V):andThen next Q (.panic v) ρ σ=Q (.panic v) ρ σ:=rfl
theorem y9(id:Nat):pp id Q .normal ρ σ=Q .normal ρ σ:=rfl
theorem IG(id:Nat):pp id Q .ret ρ σ=Q .ret ρ σ:=rfl
theorem D3(id j:Nat):pp id Q (.exit j) ρ σ=if j=id then Q .normal ρ σ else Q (.exit j) ρ σ:=rfl
theorem C2(id:Nat)(v:V):pp id Q (.panic v) ρ σ=Q (.panic v) ρ σ:=rfl
theorem el{Q':bV}(hq:∀e ρ σ,Q e ρ σ->Q' e ρ σ):∀{l:List O} {ρ:aj} {σ:LLV},cl C l ρ σ Q->cl C l ρ σ Q'
 | [],ρ,σ,h=>hq _ _ _ h
 | o::r,ρ,σ,h=>by
  have step:∀{ρ:aj} {K K':aj->LLV->Prop},(∀ρ σ,K ρ σ->K' ρ σ)->cU C o.op o.dst ρ σ K Q->cU C o.op o.dst ρ σ K' Q':=by
   intro ρ K K' hk hr
   have hout:∀(o':Out) (σ':LLV),(match o' with | .ret v=>K (putd ρ o.dst v) σ' | .panic v=>Q (.panic v) ρ σ')->(match o' with | .ret v=>K' (putd ρ o.dst v) σ' | .panic v=>Q' (.panic v) ρ σ'):=by
    intro o' σ' hh;cases o' with
    | ret v=>exact hk _ _ hh
    | panic v=>exact hq _ _ _ hh
   generalize o.op=op at hr ⊢;unfold cU at hr ⊢;cases op<;>(try simp only at hr ⊢)
   case call f args=>exact hr.mono hout
   case callv x args=>generalize ev C ρ x=z at hr ⊢;cases z<;>(try simp only at hr ⊢)<;>first|exact hr.elim|exact hr.mono hout
   case calln f args=>exact hr.mono hout
   case new T cs=>exact hk _ _ hr
   case box T x=>exact⟨hr.1,hk _ _ hr.2⟩
   case sto k x y=>
    generalize ev C ρ x=z at hr ⊢;cases z<;>(try simp only at hr ⊢)<;>first|exact hr.elim|skip
    rename_i i off;generalize σ[i]? = z at hr ⊢;cases z<;>(try simp only at hr ⊢)<;>first|exact hr.elim|exact⟨hr.1,hk _ _ hr.2⟩
   case stoo x t=>
    generalize ev C ρ x=z at hr ⊢;cases z<;>(try simp only at hr ⊢)<;>first|exact hr.elim|skip
    rename_i i off;generalize get ρ t=z at hr ⊢;cases z<;>(try simp only at hr ⊢)<;>first|exact hr.elim|skip
    generalize σ[i]? = z at hr ⊢;cases z<;>(try simp only at hr ⊢)<;>first|exact hr.elim|exact⟨hr.1,hk _ _ hr.2⟩
   case ldo x=>
    generalize ev C ρ x=z at hr ⊢;cases z<;>(try simp only at hr ⊢)<;>first|exact hr.elim|skip
    rename_i i off;generalize σ[i]? = z at hr ⊢;cases z<;>(try simp only at hr ⊢)<;>first|exact hr.elim|skip
    rename_i cs;generalize cs[off]? = z at hr ⊢;cases z<;>(try simp only at hr ⊢)<;>first|exact hr.elim|skip
    rename_i v;cases v<;>(try simp only at hr ⊢)<;>first|exact hr.elim|exact hk _ _ hr
   case mvo t=>generalize get ρ t=z at hr ⊢;cases z<;>(try simp only at hr ⊢)<;>first|exact hr.elim|exact hk _ _ hr
   case nilo T k=>exact hk _ _ hr
   case app T k b t y=>
    generalize get ρ t=z at hr ⊢;cases z<;>(try simp only at hr ⊢)<;>first|exact hr.elim|skip
    generalize fw (ev C ρ y)=z at hr ⊢;cases z<;>(try simp only at hr ⊢)<;>first|exact hr.elim|exact⟨hr.1,hk _ _ hr.2⟩
   case mks T k xs=>generalize dw (xs.map (ev C ρ))=z at hr ⊢;cases z<;>(try simp only at hr ⊢)<;>first|exact hr.elim|exact⟨hr.1,hk _ _ hr.2⟩
   case mkso T k xs=>generalize dw (xs.map (ev C ρ))=z at hr ⊢;cases z<;>(try simp only at hr ⊢)<;>first|exact hr.elim|exact⟨hr.1,hk _ _ hr.2⟩
   case mkc T k bytes x=>
    generalize ev C ρ x=z at hr ⊢;cases z<;>(try simp only at hr ⊢)<;>first|exact hr.elim|skip
    rename_i z;cases z<;>(try simp only at hr ⊢)<;>first|exact hr.elim|skip
    rename_i z;cases z<;>(try simp only at hr ⊢)<;>first|exact hr.elim|exact⟨hr.1,hk _ _ hr.2⟩
   case pan x=>generalize ev C ρ x=z at hr ⊢;cases z<;>(try simp only at hr ⊢)<;>first|exact hr.elim|exact hq _ _ _ hr
   case mmk st=>exact hk _ _ hr
   case mst st x k v=>
    generalize iz st σ (ev C ρ x)=z at hr ⊢;cases z<;>(try simp only at hr ⊢)<;>first|exact hr.elim|skip
    generalize l9 st (ev C ρ k)=z at hr ⊢;cases z<;>(try simp only at hr ⊢)<;>first|exact hr.elim|exact hk _ _ hr
   all_goals ((try unfold tyT at hr ⊢);split at hr<;>first|exact hk _ _ hr|exact hr.elim)
  simp only[cl]at h ⊢;cases hg:o.g with
  | none=>rw[hg]at h;exact step (fun _ _ hh=>el hq hh) h
  | some p=>
   obtain⟨t,want⟩:=p;rw[hg]at h;simp only at h ⊢;split at h
   .rename_i b hb;exact⟨fun e=>step (fun _ _ hh=>el hq hh) (h.1 e),fun e=>el hq (h.2 e)⟩
   .rename_i hb;exact el hq h
   .exact h.elim
theorem rx{op:OP}{k k':V->Prop}(hk:∀v,k v->k' v)(h:bK C op ρ σ k):bK C op ρ σ k':=by
 obtain⟨v,h1,h2⟩:=iV h;unfold bK at h1 ⊢;split at h1
 .obtain⟨u,g1,g2⟩:=h1;subst g2;exact⟨u,g1,hk _ h2⟩
 .split at h1
  .obtain⟨u,g1,g2⟩:=h1;subst g2;exact⟨u,g1,hk _ h2⟩
  .exact h1.elim
 .split at h1
  .exact⟨h1.1,hk _ (h1.2▸h2)⟩
  .exact h1.elim
 .obtain⟨u,g1,g2⟩:=h1;subst g2;exact⟨u,g1,hk _ h2⟩
 .split at h1
  .subst h1;exact hk _ h2
  .exact h1.elim
theorem dp{K K':aj->Prop}(hk:∀ρ,K ρ->K' ρ):∀{l:List O} {ρ:aj},aZ C l ρ σ K->aZ C l ρ σ K'
 | [],ρ,h=>hk _ h
 | o::r,ρ,h=>by
  simp only[aZ]at h ⊢;cases hg:o.g with
  | none=>rw[hg]at h;exact rx (fun _ hh=>dp hk hh) h
  | some p=>
   obtain⟨t,want⟩:=p;rw[hg]at h;simp only at h ⊢;split at h
   .rename_i b hb;exact⟨fun e=>rx (fun _ hh=>dp hk hh) (h.1 e),fun e=>dp hk (h.2 e)⟩
   .rename_i hb;exact dp hk h
   .exact h.elim
theorem ip{K K':aj->LLV->Prop}{P P':V->LLV->Prop}(hk:∀ρ r,K ρ r->K' ρ r)(hp:∀u r,P u r->P' u r):∀{l:List (O×GK)} {m:Nat} {h:List LLV} {p:List PendG} {ρ:aj} {σ:LLV},eT C P K l m h p ρ σ->eT C P' K' l m h p ρ σ
 | [],_,_,_,_,_,hg=>hk _ _ hg
 | (o,.free _)::r,_,_,_,_,_,hg=>by
  simp only[eT]at hg ⊢;exact dp (fun ρ' hh=>ip hk hp hh) hg
 | (o,.calm _ _)::r,_,_,_,_,_,hg=>by
  simp only[eT]at hg ⊢;exact dp (fun ρ' hh=>⟨hh.1,ip hk hp hh.2⟩) hg
 | (o,.slot _)::r,_,_,_,_,_,hg=>by
  simp only[eT]at hg ⊢;exact el (fun e ρ' σ' hh=>⟨hh.1,ip hk hp hh.2⟩) hg
 | (⟨d,op,g⟩,.act)::r,m,h,p,ρ,σ,hg=>by
  have call:∀{f:FuncId} {vs:List V},((∃v σ1,Fun C f vs σ (fun o σ'=>o=.ret v/\σ'=σ1)/\reG C (m+1) σ1 p/\eT C P K r (m+1) (σ::h) p (putd ρ d v) σ1)\/(Fun C f vs σ (fun o σ'=>∃u,o=.panic u/\P u σ')/\fd C r m h (putd ρ d .junk) σ))->
   ((∃v σ1,Fun C f vs σ (fun o σ'=>o=.ret v/\σ'=σ1)/\reG C (m+1) σ1 p/\eT C P' K' r (m+1) (σ::h) p (putd ρ d v) σ1)\/(Fun C f vs σ (fun o σ'=>∃u,o=.panic u/\P' u σ')/\fd C r m h (putd ρ d .junk) σ)):=fun{f vs} hh=>by
   rcases hh with⟨v,σ1,h1,h2,h3⟩|⟨h1,h2⟩
   .exact .inl ⟨v,σ1,h1,h2,ip hk hp h3⟩
   .exact .inr ⟨h1.mono fun o σ' ⟨u,e1,e2⟩=>⟨u,e1,hp _ _ e2⟩,h2⟩
  cases op;case call f args=>simp only[eT]at hg ⊢;exact call hg
  case callv x args=>
   simp only[eT]at hg ⊢;obtain⟨f,cap,e,hh⟩:=hg;exact⟨f,cap,e,call hh⟩
  all_goals
   simp only[eT]at hg ⊢;exact el (fun e ρ' σ' hh=>⟨hh.1,hh.2.1,ip hk hp hh.2.2⟩) hg
theorem jd:∀{c:Cd} {ρ:aj} {σ:LLV} {Q Q':bV},(∀e ρ σ,Q e ρ σ->Q' e ρ σ)->awp C n0 c ρ σ Q->awp C n0 c ρ σ Q':=by
 intro c
 induction c with
 | skip=>exact fun hq h=>hq _ _ _ h
 | ops l keep=>exact fun hq h=>el (fun e ρ σ=>hq e _ σ) h
 | raw l es keep=>exact fun hq h pr M0 bm0 w0 id ops n M bm tk a w h1 h2 h3 h4 h5 h6=>wp_mono (h pr M0 bm0 w0 id ops n M bm tk a w h1 h2 h3 h4 h5 h6) (fun e a w hL=>hL.imp fun x ρ σ=>hq x _ σ)
 | draw l keep=>exact fun hq h=>dp (fun ρ=>hq _ _ _) h
 | drawp l x=>exact fun hq h=>dp (fun ρ ⟨ty,u,e,hh⟩=>⟨ty,u,e,fun ρ2=>hq _ _ _ (hh ρ2)⟩) h
 | drawg l keep=>
  intro ρ σ Q Q' hq h;exact ip (fun ρ σ hh=>hq _ _ _ hh) (fun u σ hh ρ'=>hq _ _ _ (hh ρ')) h
 | seq a b iha ihb=>
  exact fun hq h=>iha (fun e ρ σ hh=>by
   cases e with
   | normal=>exact ihb hq hh
   | ret=>exact hq _ _ _ hh
   | exit i=>exact hq _ _ _ hh
   | panic v=>exact hq _ _ _ hh) h
 | cond x a b iha ihb=>
  intro ρ σ Q Q' hq h;simp only[awp]at h ⊢;generalize ev C ρ x=z at h ⊢;cases z<;>(try simp only at h ⊢)<;>first|exact h.elim|skip
  rename_i x;cases x<;>(try simp only at h ⊢)<;>first|exact h.elim|skip
  rename_i v;cases v<;>(try simp only at h ⊢)<;>first|exact h.elim|skip
  exact⟨fun e=>iha hq (h.1 e),fun e=>ihb hq (h.2 e)⟩
 | block id a ih=>
  exact fun hq h=>ih (fun e ρ σ hh=>by
   cases e with
   | normal=>exact hq _ _ _ hh
   | ret=>exact hq _ _ _ hh
   | exit i=>
    simp only[pp]at hh ⊢;split
    .rename_i e;rw[if_pos e]at hh;exact hq _ _ _ hh
    .rename_i e;rw[if_neg e]at hh;exact hq _ _ _ hh
   | panic v=>exact hq _ _ _ hh) h
 | loop a ih=>
  intro ρ σ Q Q' hq h;obtain⟨ρ1,σ1,h0,I,h1,h2⟩:=h
  exact⟨ρ1,σ1,h0,I,h1,fun m ρ' σ' hI=>ih (fun e ρ σ hh=>by
   cases e with
   | normal=>exact hh
   | ret=>exact hq _ _ _ hh
   | exit i=>exact hq _ _ _ hh
   | panic v=>exact hq _ _ _ hh) (h2 m ρ' σ' hI)⟩
 | exit id=>exact fun hq h=>hq _ _ _ h
 | ret=>exact fun hq h=>hq _ _ _ h
theorem sR{a:Cd}(I:Nat->aj->LLV->Prop)(m:Nat){ρ1:aj}{σ1:LLV}(hu:dZ n0 ρ σ ρ1 σ1)(h0:I m ρ1 σ1)
 (h:∀m ρ' σ',I m ρ' σ'->awp C n0 a ρ' σ' (andThen (fun ρ'' σ''=>∃m',m'<m/\∃ρ3 σ3,dZ n0 ρ'' σ'' ρ3 σ3/\I m' ρ3 σ3) Q)):awp C n0 (.loop a) ρ σ Q:=
 ⟨ρ1,σ1,hu,I,⟨m,h0⟩,h⟩
theorem pg{R R':aj->LLV->Prop}{Q:bV}(h:∀ρ σ,R ρ σ->R' ρ σ):∀e ρ σ,andThen R Q e ρ σ->andThen R' Q e ρ σ:=fun e ρ σ hh=>by
 cases e with
 | normal=>exact h _ _ hh
 | ret=>exact hh
 | exit i=>exact hh
 | panic v=>exact hh
theorem EK{a:Cd}(I:Nat->aj->LLV->Prop)(m:Nat){σ1:LLV}(hu:Up σ σ1)(h0:I m ρ σ1)
 (h:∀m ρ' σ',I m ρ' σ'->awp C n0 a ρ' σ' (andThen (fun ρ'' σ''=>∃m',m'<m/\∃k,n0≤k/\am k (σ''.take k)=true/\an k ρ''=true/\I m' ρ'' (σ''.take k)) Q)):awp C n0 (.loop a) ρ σ Q:=
 sR I m (dZ.up n0 ρ hu) h0 fun m ρ' σ' hI=>jd (pg fun ρ'' σ'' ⟨m',h1,k,h2,h3,h4,h5⟩=>⟨m',h1,ρ'',σ''.take k,.cut h2 h3 h4,h5⟩) (h m ρ' σ' hI)
theorem C4{a:Cd}(ks:List Nat)(I:Nat->aj->LLV->Prop)(m:Nat){σ1:LLV}(hu:Up σ σ1)(h0:I m (aY ks ρ) σ1)
 (h:∀m ρ' σ',I m ρ' σ'->awp C n0 a ρ' σ' (andThen (fun ρ'' σ''=>∃m',m'<m/\∃k,n0≤k/\am k (σ''.take k)=true/\an k (aY ks ρ'')=true/\I m' (aY ks ρ'') (σ''.take k)) Q)):awp C n0 (.loop a) ρ σ Q:=
 sR I m ((dZ.keep n0 ks ρ σ).trans (dZ.up n0 _ hu)) h0 fun m ρ' σ' hI=>jd (pg fun ρ'' σ'' ⟨m',h1,k,h2,h3,h4,h5⟩=>⟨m',h1,_,σ''.take k,(dZ.keep n0 ks ρ'' σ'').trans (.cut h2 h3 h4),h5⟩) (h m ρ' σ' hI)
end
mutual
theorem V.under_mono{k j:Nat}(hj:k≤j):∀v:V,V.under k v=true->V.under j v=true
 | .agg cs,h=>by simp only[V.under]at h ⊢;exact V.unders_mono hj cs h
 | .tup cs,h=>by simp only[V.under]at h ⊢;exact V.unders_mono hj cs h
 | .fn _ cs,h=>by simp only[V.under]at h ⊢;exact V.unders_mono hj cs h
 | .bnd _ cs,h=>by simp only[V.under]at h ⊢;exact V.unders_mono hj cs h
 | .iface _ v,h=>by simp only[V.under]at h ⊢;exact V.under_mono hj v h
 | .ptr i o,h=>by simp only[V.under,decide_eq_true_eq]at h ⊢;omega
 | .bsl i o n m,h=>by simp only[V.under,decide_eq_true_eq]at h ⊢;omega
 | .mp i,h=>by simp only[V.under,decide_eq_true_eq]at h ⊢;omega
 | .bsc i n c,h=>by simp only[V.under,decide_eq_true_eq]at h ⊢;omega
 | .mapc _ kv,h=>by simp only[V.under]at h ⊢;exact V.underkv_mono hj kv h
 | .d _,_=>rfl
 | .own _ _ _,_=>rfl
 | .nil,_=>rfl
 | .row _ _,_=>rfl
 | .junk,_=>rfl
theorem V.unders_mono{k j:Nat}(hj:k≤j):∀cs:List V,V.unders k cs=true->V.unders j cs=true
 | [],_=>rfl
 | x::r,h=>by
  simp only[V.unders,TU]at h ⊢;exact⟨V.under_mono hj x h.1,V.unders_mono hj r h.2⟩
theorem V.underkv_mono{k j:Nat}(hj:k≤j):∀kv:List (Key×V),V.underkv k kv=true->V.underkv j kv=true
 | [],_=>rfl
 | (q,x)::r,h=>by
  simp only[V.underkv,V.underp,TU]at h ⊢;exact⟨V.under_mono hj x h.1,V.underkv_mono hj r h.2⟩
end
theorem pE{σ:LLV}{k j:Nat}(h:am k σ=true)(hj:k≤j):am j σ=true:=by
 unfold am at *;rw[Ua]at h ⊢;exact fun cs hcs=>V.unders_mono hj cs (h cs hcs)
theorem aq{σ l:LLV}(h:am σ.length σ=true)(hl:l.all (fun cs=>V.unders (σ++l).length cs)=true):am (σ++l).length (σ++l)=true:=by
 have:=pE h (j:=(σ++l).length) (by simp);unfold am at *;rw[List.all_append,this,hl];rfl
theorem az{σ σ':LLV}{ρ:aj}{rs:List RV}{Q:Out->LLV->Prop}(hb:am σ.length σ=true){v:V}(h:aC σ' ρ rs=some v)(hv:V.under σ.length v=true)(hσ:σ'.take σ.length=σ)(hq:Q (.ret v) σ):fin σ.length rs Q .ret ρ σ':=
 ⟨ρ,σ',.refl _ _ _,v,h,σ.length,UE _,by rw[hσ];exact hb,hv,by rw[hσ];exact hq⟩
def Nxt(n0:Nat)(R:aj->LLV->Prop)(ρ:aj)(σ:LLV)(_:Tag R):Prop:=∃k,n0≤k/\am k (σ.take k)=true/\an k ρ=true/\R ρ (σ.take k)
theorem Nxt.same{n0:Nat}{R:aj->LLV->Prop}{ρ:aj}{σ:LLV}(hn:n0≤σ.length)(hb:am σ.length σ=true)(hs:an σ.length ρ=true)(hR:R ρ σ):Nxt n0 R ρ σ .mk:=
 ⟨σ.length,hn,by rw[Ur];exact hb,hs,by rw[Ur];exact hR⟩
theorem Nxt.drop{n0:Nat}{R:aj->LLV->Prop}{ρ:aj}{σ l:LLV}(hn:n0≤σ.length)(hb:am σ.length σ=true)(hs:an σ.length ρ=true)(hR:R ρ σ):Nxt n0 R ρ (σ++l) .mk:=
 ⟨σ.length,hn,by rw[Ut];exact hb,hs,by rw[Ut];exact hR⟩
theorem Fh{C:Cx}{n0:Nat}{ρ:aj}{σ:LLV}{Q:bV}{a:Cd}(R:Nat->aj->LLV->Prop)(n:Nat){σ1:LLV}(hu:Up σ σ1)(h0:R 0 ρ σ1)
 (h:∀j ρ' σ',j≤n->R j ρ' σ'->eQ C n0 a ρ' σ' (andThen (fun ρ'' σ''=>j<n/\Nxt n0 (R (j+1)) ρ'' σ'' .mk) Q) .mk)(t:Tag Q):eQ C n0 (.loop a) ρ σ Q t:=
 EK (fun m ρ σ=>∃j,j≤n/\m=n-j/\R j ρ σ) n hu ⟨0,by omega,by omega,h0⟩ fun m ρ' σ' ⟨j,hj,hm,hR⟩=>by
  have hi:∀e ρ'' σ'',andThen (fun ρ'' σ''=>j<n/\Nxt n0 (R (j+1)) ρ'' σ'' .mk) Q e ρ'' σ''->andThen (fun ρ'' σ''=>∃m',m'<m/\∃k,n0≤k/\am k (σ''.take k)=true/\an k ρ''=true/\∃j,j≤n/\m'=n-j/\R j ρ'' (σ''.take k)) Q e ρ'' σ'':=by
   intro e ρ'' σ'' h;cases e with
   | normal=>
    obtain⟨h1,k,h2,h3,h4,h5⟩:=h;exact⟨n-(j+1),by omega,k,h2,h3,h4,j+1,by omega,rfl,h5⟩
   | ret=>exact h
   | exit i=>exact h
   | panic v=>exact h
  exact jd hi (h j ρ' σ' hj hR)
theorem i8{C:Cx}{n0:Nat}{ρ:aj}{σ:LLV}{Q:bV}{a:Cd}(ks:List Nat)(R:Nat->aj->LLV->Prop)(n:Nat){σ1:LLV}(hu:Up σ σ1)(h0:R 0 (aY ks ρ) σ1)
 (h:∀j ρ' σ',j≤n->R j ρ' σ'->eQ C n0 a ρ' σ' (andThen (fun ρ'' σ''=>j<n/\Nxt n0 (R (j+1)) (aY ks ρ'') σ'' .mk) Q) .mk)(t:Tag Q):eQ C n0 (.loop a) ρ σ Q t:=
 C4 ks (fun m ρ σ=>∃j,j≤n/\m=n-j/\R j ρ σ) n hu ⟨0,by omega,by omega,h0⟩ fun m ρ' σ' ⟨j,hj,hm,hR⟩=>by
  have hi:∀e ρ'' σ'',andThen (fun ρ'' σ''=>j<n/\Nxt n0 (R (j+1)) (aY ks ρ'') σ'' .mk) Q e ρ'' σ''->andThen (fun ρ'' σ''=>∃m',m'<m/\∃k,n0≤k/\am k (σ''.take k)=true/\an k (aY ks ρ'')=true/\∃j,j≤n/\m'=n-j/\R j (aY ks ρ'') (σ''.take k)) Q e ρ'' σ'':=by
   intro e ρ'' σ'' h;cases e with
   | normal=>
    obtain⟨h1,k,h2,h3,h4,h5⟩:=h;exact⟨n-(j+1),by omega,k,h2,h3,h4,j+1,by omega,rfl,h5⟩
   | ret=>exact h
   | exit i=>exact h
   | panic v=>exact h
  exact jd hi (h j ρ' σ' hj hR)
theorem aL{C:Cx}{n0:Nat}{ρ:aj}{σ:LLV}{Q:bV}{a:Cd}(ks:List Nat)(R:Nat->aj->LLV->Prop)(n:Nat)(h0:R 0 (aY ks ρ) σ)
 (h:∀j ρ' σ',j≤n->R j ρ' σ'->eQ C n0 a ρ' σ' (andThen (fun ρ'' σ''=>j<n/\Nxt n0 (R (j+1)) (aY ks ρ'') σ'' .mk) Q) .mk)(t:Tag Q):eQ C n0 (.loop a) ρ σ Q t:=i8 ks R n (.refl σ) h0 h t
theorem eJ{C:Cx}{n0:Nat}{ρ:aj}{σ:LLV}{Q:bV}{a:Cd}(R:Nat->aj->LLV->Prop)(n:Nat)(h0:R 0 ρ σ)
 (h:∀j ρ' σ',j≤n->R j ρ' σ'->eQ C n0 a ρ' σ' (andThen (fun ρ'' σ''=>j<n/\Nxt n0 (R (j+1)) ρ'' σ'' .mk) Q) .mk)(t:Tag Q):eQ C n0 (.loop a) ρ σ Q t:=Fh R n (.refl σ) h0 h t
def aN(v:V)(σ:LLV):Out->LLV->Prop:=fun o σ'=>o=.ret v/\σ'=σ
theorem ak{σ σ2:LLV}{ρ:aj}{rs:List RV}(hb:am σ.length σ=true){v:V}(h:aC σ2 ρ rs=some v)(hv:V.under σ.length v=true)(ht:σ2.take σ.length=σ:=by first|exact List.take_length|exact List.take_left):fin σ.length rs (aN v σ) .ret ρ σ2:=az hb h hv ht ⟨rfl,rfl⟩
theorem al{σ τ:LLV}{ρ:aj}{rs:List RV}(hb:am σ.length σ=true){v:V}(h:aC (σ++τ) ρ rs=some v)(hv:V.under σ.length v=true):fin σ.length rs (aN v σ) .ret ρ (σ++τ):=az hb h hv Ut ⟨rfl,rfl⟩
theorem ac{C:Cx}{f:FuncId}{args:List V}{σ:LLV}{v:V}{K P:V->LLV->Prop}{s:Tag K}{t:Tag P}(h:Fun C f args σ (aN v σ))(hk:K v σ):fk C f args σ K P s t:=
 h.mono fun o σ' ⟨e1,e2⟩=>by subst e1;subst e2;exact hk
theorem bo{C:Cx}{f:FuncId}{args:List V}{σ:LLV}{v:V}{k:V->Prop}{t:Tag k}(h:Fun C f args σ (aN v σ))(hk:k v):Fe C f args σ k t:=⟨v,h,hk⟩
theorem aB{C:Cx}{f:FuncId}{args:List V}{σ:LLV}{K P:V->LLV->Prop}{s:Tag K}{t:Tag P}{Q:Out->LLV->Prop}(h:Fun C f args σ Q)(hk:∀o σ',Q o σ'->FW K P o σ'):fk C f args σ K P s t:=h.mono hk
theorem ae{C:Cx}{f:FuncId}{fn:Func}{c:Cd}{rs:List RV}{args:List V}{σ:LLV}{Q:Out->LLV->Prop}(hf:C.P.funcs[f]? = some fn)(hok:aE C.tab fn args.length c rs=true)(hno:args.all (! ·.isOwn)=true)
 (h:am σ.length σ=true->(∀i (h:i<args.length),V.Wf args[i])->eQ C σ.length c (eP 0 args) σ (fin σ.length rs Q) .mk):Fun C f args σ Q:=B9 hf hok hno h
section
variable {σ : LLV}
theorem Ib(rows:LLD):pF false (.d (.sl rows))=some (aF .i64 rows.length):=rfl
theorem Dh(T k:Nat)(rows:LLD):pF false (.own T k rows)=some (aF .i64 rows.length):=rfl
theorem Cz:pF false .nil=some (aF .i64 0):=rfl
theorem CL(s:ByteArray):pF true (.d (.lit (.string s)))=some (aF .i64 s.size):=rfl
theorem EW(rows:LLD):fw (.d (.sl rows))=some rows:=rfl
theorem yq(T k:Nat)(rows:LLD):fw (.own T k rows)=some rows:=rfl
theorem zr:fw .nil=some []:=rfl
theorem O9(k:IntKind)(a b:Int):cd .add (.d (.lit (.int k a))) (.d (.lit (.int k b)))=some (aF k (k.wrap (a+b))):=by simp[cd,cP,lX]
theorem Ls(k:IntKind)(a b:Int):cd .sub (.d (.lit (.int k a))) (.d (.lit (.int k b)))=some (aF k (k.wrap (a-b))):=by simp[cd,cP,lX]
theorem N5(k:IntKind)(a b:Int):cd .mul (.d (.lit (.int k a))) (.d (.lit (.int k b)))=some (aF k (k.wrap (a*b))):=by simp[cd,cP,lX]
theorem MJ(k:IntKind)(a b:Int):cd .quo (.d (.lit (.int k a))) (.d (.lit (.int k b)))=if b=0 then none else some (aF k (k.wrap (a.tdiv b))):=by simp[cd,cP,lX]
theorem MM(k:IntKind)(a b:Int):cd .rem (.d (.lit (.int k a))) (.d (.lit (.int k b)))=if b=0 then none else some (aF k (a.tmod b)):=by simp[cd,cP,lX]
theorem KL(k:IntKind)(a b:Int):cd .and (.d (.lit (.int k a))) (.d (.lit (.int k b)))=some (aF k (k.wrap (BitVec.ofInt k.bits a &&& BitVec.ofInt k.bits b).toNat)):=by simp only[cd,cP,TV,if_false,if_true,lX]
theorem Nt(k:IntKind)(a b:Int):cd .or (.d (.lit (.int k a))) (.d (.lit (.int k b)))=some (aF k (k.wrap (BitVec.ofInt k.bits a ||| BitVec.ofInt k.bits b).toNat)):=by simp only[cd,cP,TV,if_false,if_true,lX]
theorem Le(k:IntKind)(a b:Int):cd .xor (.d (.lit (.int k a))) (.d (.lit (.int k b)))=some (aF k (k.wrap (BitVec.ofInt k.bits a ^^^ BitVec.ofInt k.bits b).toNat)):=by simp only[cd,cP,TV,if_false,if_true,lX]
theorem Mf(k:IntKind)(a b:Int):cd .eql (.d (.lit (.int k a))) (.d (.lit (.int k b)))=some (ao (decide (a=b))):=by simp[cd,cP,lX];rfl
theorem MP(k:IntKind)(a b:Int):cd .neq (.d (.lit (.int k a))) (.d (.lit (.int k b)))=some (ao (!decide (a=b))):=by simp[cd,cP,lX];rfl
theorem Nm(k:IntKind)(a b:Int):cd .lss (.d (.lit (.int k a))) (.d (.lit (.int k b)))=some (ao (decide (a<b))):=by simp[cd,cP,lX]
theorem OY(k:IntKind)(a b:Int):cd .leq (.d (.lit (.int k a))) (.d (.lit (.int k b)))=some (ao (decide (a≤b))):=by simp[cd,cP,lX]
theorem Mi(k:IntKind)(a b:Int):cd .gtr (.d (.lit (.int k a))) (.d (.lit (.int k b)))=some (ao (decide (b<a))):=by simp[cd,cP,lX]
theorem Mm(k:IntKind)(a b:Int):cd .geq (.d (.lit (.int k a))) (.d (.lit (.int k b)))=some (ao (decide (b≤a))):=by simp[cd,cP,lX]
theorem EH(k k':IntKind)(a b:Int):cd .shl (.d (.lit (.int k a))) (.d (.lit (.int k' b)))=if b<0 then none else some (aF k (k.wrap (a*2^(min b.toNat k.bits)))):=by simp[cd,cP,Ab]
theorem Pq(k k':IntKind)(a b:Int):cd .shr (.d (.lit (.int k a))) (.d (.lit (.int k' b)))=if b<0 then none else some (aF k (a.fdiv (2^(min b.toNat k.bits)))):=by simp[cd,cP,Ab]
theorem wD(a b:ByteArray):(a.toList==b.toList)=decide (a=b):=by
 rw[ByteArray.toList_eq,ByteArray.toList_eq,Bool.eq_iff_iff];simp only[beq_iff_eq,decide_eq_true_eq];constructor
 .intro h;cases a;cases b;simp only[ByteArray.mk.injEq];exact Array.toList_inj.1 h
 .intro h;rw[h]
theorem K4(a b:ByteArray):cd .eql (.d (.lit (.string a))) (.d (.lit (.string b)))=some (ao (decide (a=b))):=by simp only[cd,Ie,wD]
theorem KY(a b:ByteArray):cd .neq (.d (.lit (.string a))) (.d (.lit (.string b)))=some (ao (!decide (a=b))):=by simp only[cd,Ie,wD]
theorem FB(a b:ByteArray):cd .add (.d (.lit (.string a))) (.d (.lit (.string b)))=if a.size+b.size≤9223372036854775807 then some (xU (a++b))else none:=rfl
theorem JC(a b:ByteArray):cd .lss (.d (.lit (.string a))) (.d (.lit (.string b)))=some (ao (Op.bytesLess a.toList b.toList)):=rfl
theorem Ps(neq:Bool)(ks:List Kd)(a b:List V):kr neq ks (.agg a) (.agg b)=(cQ ks a b).map fun r=>ao (bif neq then !r else r):=by
 unfold kr;simp only;cases cQ ks a b<;>rfl
theorem LY:cQ [] [] []=some true:=rfl
theorem MV(k:IntKind)(ks:List Kd)(a b:Int)(r s:List V):cQ (.i k::ks) (.d (.lit (.int k a))::r) (.d (.lit (.int k b))::s)=(cQ ks r s).map fun z=>decide (a=b)&&z:=by
 simp only[cQ,mi,and_self,if_true];cases cQ ks r s<;>rfl
theorem MT(ks:List Kd)(a b:ByteArray)(r s:List V):cQ (.s::ks) (.d (.lit (.string a))::r) (.d (.lit (.string b))::s)=(cQ ks r s).map fun z=>decide (a=b)&&z:=by
 simp only[cQ,mi];cases cQ ks r s<;>rfl
theorem Ki(ks:List Kd)(a b:Bool)(r s:List V):cQ (.b::ks) (.d (.lit (.bool a))::r) (.d (.lit (.bool b))::s)=(cQ ks r s).map fun z=>(a==b)&&z:=by
 simp only[cQ,mi];cases cQ ks r s<;>rfl
theorem CC(neq:Bool):yo neq (.d (.lit .nilIface))=some (ao (!neq)):=rfl
theorem DD(neq:Bool)(t:TypeId)(x:V):yo neq (.iface t x)=some (ao neq):=rfl
theorem A5(neq:Bool):MC neq (.d (.lit (.pointer none)))=some (ao (!neq)):=rfl
theorem BM(neq:Bool)(i o:Nat):MC neq (.ptr i o)=some (ao neq):=rfl
theorem Lh(f:FuncId)(cs:List V):V.copy (.bnd f cs)=.bnd f cs:=rfl
theorem Kg(f:FuncId)(cs:List V):V.lend (.bnd f cs)=.bnd f cs:=rfl
theorem Lj(a b:Bool):Jv .eql (.d (.lit (.bool a))) (.d (.lit (.bool b)))=some (ao (a==b)):=rfl
theorem JY(a b:Bool):Jv .neq (.d (.lit (.bool a))) (.d (.lit (.bool b)))=some (ao (!(a==b))):=rfl
theorem LN(b:Bool):unV .not (.d (.lit (.bool b)))=some (ao (!b)):=rfl
theorem OJ(k:IntKind)(n:Int):unV .neg (.d (.lit (.int k n)))=some (aF k (k.wrap (0-n))):=rfl
theorem J3(c a b:Bool):lv (.d (.lit (.bool c))) (.d (.lit (.bool a))) (.d (.lit (.bool b)))=some (ao (bif c then a else b)):=rfl
theorem Bw(b:Bool):lv (.d (.lit (.bool false))) (.tup []) (.d (.lit (.bool b)))=some (ao b):=rfl
theorem BK(a:Bool):lv (.d (.lit (.bool true))) (.d (.lit (.bool a))) (.tup [])=some (ao a):=rfl
theorem BB(b:Bool):lv (.d (.lit (.bool false))) .junk (.d (.lit (.bool b)))=some (ao b):=rfl
theorem C6(a:Bool):lv (.d (.lit (.bool true))) (.d (.lit (.bool a))) .junk=some (ao a):=rfl
theorem GJ(off i o:Nat):faV off (.ptr i o)=some (.ptr i (o+off)):=rfl
theorem FZ(off:Nat)(cs:List D)(o:Nat):faV off (.row cs o)=some (.row cs (o+off)):=rfl
def iaK(k:Nat)(o:Option (List D)):Option V:=match o with|some r=>if r.length=k then some (.row r 0)else none|none=>none
theorem bG(k:Nat)(r:List D):iaK k (some r)=if r.length=k then some (.row r 0)else none:=rfl
theorem Do(k:Nat)(y:D)(kd:IntKind)(j:Nat):iaV k (.d y) (.d (.lit (.int kd (j:Int))))=(fw (.d y)).bind fun rows=>iaK k rows[j]? := by
 unfold iaV;cases h:fw (.d y)with
 | none=>simp only[h];rfl
 | some rows=>simp only[h,UP,T8];rw[if_pos (by omega)];rfl
theorem DH(k T k':Nat)(rows:LLD)(kd:IntKind)(j:Nat):iaV k (.own T k' rows) (.d (.lit (.int kd (j:Int))))=iaK k rows[j]? := by
 unfold iaV;simp only[fw,T8];rw[if_pos (by omega)];rfl
theorem Fk(k b off n:Nat)(kd:IntKind)(j:Nat):iaV k (.bsl b off n k) (.d (.lit (.int kd (j:Int))))=if j<n then some (.ptr b (off+j*k))else none:=by
 unfold iaV;simp only[T8,and_true];by_cases h:j<n
 .rw[if_pos h,if_pos (by omega)]
 .rw[if_neg h,if_neg (by omega)]
theorem Bl(b off n k:Nat):pF false (.bsl b off n k)=some (aF .i64 n):=rfl
def ixK(o:Option UInt8):Option V:=match o with|some b=>some (aF .u8 b.toNat)|none=>none
theorem cm(b:UInt8):ixK (some b)=some (aF .u8 b.toNat):=rfl
theorem D1(s:ByteArray)(kd:IntKind)(j:Nat):ixV (.d (.lit (.string s))) (.d (.lit (.int kd (j:Int))))=ixK s.data.toList[j]? := by
 simp only[ixV,T8];rw[if_pos (by omega)];rfl
theorem OU(off k:Nat)(ag:Bool)(cs:List V):EQ off k ag (.agg cs)=if off+k≤cs.length then iO ag ((cs.drop off).take k)else none:=rfl
theorem H1(c:V):iO false [c]=some c.copy:=rfl
theorem I1(cs:List V):iO true cs=some (.agg (cs.map V.copy)):=rfl
theorem O8(cs:List V)(i:Nat):vz (.tup cs) i=(cs[i]?).map V.copy:=by simp only[vz];cases cs[i]?<;>rfl
theorem Kk(k k':IntKind)(n:Int):sT k (.d (.lit (.int k' n)))=some (aF k (k.wrap n)):=rfl
theorem xi(i o:Nat):lA (.ptr i o)=some (.ptr i o):=rfl
theorem vD(cs:List D)(o:Nat):lA (.row cs o)=some (.row cs o):=rfl
theorem yb(f:FuncId)(cs:List V):lA (.fn f cs)=some (.fn f cs):=rfl
theorem Ro(g:Bool)(k:IntKind)(a b:Int):mxV g (.d (.lit (.int k a))) (.d (.lit (.int k b)))=some (aF k (if g then max a b else min a b)):=by
 have h1:(if b>a then b else a)=max a b:=by rw[Int.max_def];split<;>split<;>omega
 have h2:(if b<a then b else a)=min a b:=by rw[Int.min_def];split<;>split<;>omega
 cases g
 .simp only[mxV,if_true,TV,if_false,h2]
 .simp only[mxV,if_true,h1]
theorem DN(T t:TypeId)(z u:V):Gl T z (.iface t u)=if t=T then some (.tup [u,ao true])else some (.tup [z,ao false]):=rfl
theorem J0(rows:LLD)(k1 k2:IntKind)(a b:Int):Ov (.d (.sl rows)) (.d (.lit (.int k1 a))) (.d (.lit (.int k2 b)))=if a=rows.length/\b=rows.length then some (.d (.sl rows))else none:=rfl
theorem BT(T:TypeId)(z:V):Gl T z (.d (.lit .nilIface))=some (.tup [z,ao false]):=rfl
theorem Is(t:TypeId)(x:D):E5 t (.d x)=some (.iface t (.d x)):=rfl
theorem B8(t:TypeId)(cs:List V):E5 t (.agg cs)=some (.iface t (.agg (cs.map V.copy))):=rfl
theorem yO(k:Nat)(ag:Bool)(cs:List D)(o:Nat):j5 σ k ag (.row cs o)=(if o+k≤cs.length then some (((cs.drop o).take k).map V.d)else none).bind (iO ag):=rfl
def ldK(k:Nat)(ag:Bool)(o:Nat)(b:Option (List V)):Option V:=match b with|some cs=>if o+k≤cs.length/\cA cs=true then iO ag ((cs.drop o).take k)else(tyL k o cs).bind (iO ag)|none=>none
theorem xj(k:Nat)(ag:Bool)(o:Nat)(cs:List V):ldK k ag o (some cs)=if o+k≤cs.length/\cA cs=true then iO ag ((cs.drop o).take k)else(tyL k o cs).bind (iO ag):=rfl
theorem qi(k:Nat)(ag:Bool)(i o:Nat):j5 σ k ag (.ptr i o)=ldK k ag o σ[i]? := by
 unfold j5 kV ldK;simp only;cases σ[i]? with
 | none=>rfl
 | some cs=>simp only;split<;>rfl
theorem qj(l:LLV)(j:Nat):(σ++l)[σ.length+j]? = l[j]? := by rw[Um (by omega)];congr 1;omega
theorem p5(l:LLV):(σ++l)[σ.length]? = l[0]? := qj l 0
theorem ah{i:Nat}{cs:List V}(h:σ[i]? = some cs)(l:LLV):(σ++l)[i]? = some cs:=by rw[Ug (List.getElem?_eq_some_iff.1 h).1];exact h
theorem lp(l:LLV)(j:Nat)(x:List V):(σ++l).set (σ.length+j) x=σ++l.set j x:=by rw[List.set_append_right _ _ (by omega)];congr 2;omega
theorem nF(l:LLV)(x:List V):(σ++l).set σ.length x=σ++l.set 0 x:=lp l 0 x
theorem be{i:Nat}{cs:List V}(h:σ[i]? = some cs)(l:LLV)(x:List V):(σ++l).set i x=σ.set i x++l:=by rw[List.set_append_left _ _ (List.getElem?_eq_some_iff.1 h).1]
theorem aA{a:Int}(h1 : -9223372036854775808≤a)(h2:a≤9223372036854775807):IntKind.i64.wrap a=a:=by
 simp[IntKind.wrap,IntKind.bits,IntKind.signed];split<;>omega
end
theorem Ku{rows:LLD}(h:V.Wf (.d (.sl rows))):rows.length≤9223372036854775807:=by
 cases h with|d h=>cases h with|sl _ h _=>exact h
theorem KM{k:IntKind}{n:Int}(h:V.Wf (.d (.lit (.int k n)))):k.min≤n/\n≤k.max:=by
 cases h with|d h=>cases h with|lit _ h=>exact h
theorem zS{cs:List V}(h:V.Wf (.agg cs))(i:Nat)(hi:i<cs.length):V.Wf cs[i]:=by
 cases h with|agg h=>exact h i hi
theorem aJ{j n:Nat}(h:j<n)(hn:n≤9223372036854775807):IntKind.i64.wrap ((j:Int)+1)=((j+1:Nat):Int):=by
 rw[aA (by omega) (by omega)];rfl
set_option linter.defProp false in
def aw:=TJ (TJ (TJ (TJ (TJ (TJ (TJ (TJ (TJ @eP.eq_1 @eP.eq_2) (TJ @over.eq_1 (TJ @ni.eq_1 @ni.eq_2))) (TJ (TJ @dw.eq_1 @dw.eq_2) (TJ @iZ.eq_1 (TJ @iZ.eq_2 @eR.eq_1)))) (TJ (TJ (TJ @eR.eq_2 @V.plain.eq_1) (TJ @V.plain.eq_2 (TJ @V.plain.eq_3 @cond_true.{1}))) (TJ (TJ @cond_false.{1} @implies_true.{0}) (TJ @implies_true.{1} (TJ @eq_self.{1} @ne_eq.{1}))))) (TJ (TJ (TJ (TJ @Lo @KX) (TJ @GW (TJ @KV @A5))) (TJ (TJ @BM @Lh) (TJ @Kg (TJ @H5 @Eg)))) (TJ (TJ (TJ @Ht @JG) (TJ @IJ (TJ @EX @K8))) (TJ (TJ @Fw @DQ) (TJ @Iq (TJ @DE @Ek)))))) (TJ (TJ (TJ (TJ (TJ @K0 @Cy) (TJ @Fx (TJ @KH @Ew))) (TJ (TJ @A4 @Oy) (TJ @Qs (TJ @OR @GH)))) (TJ (TJ (TJ @ED @Jw) (TJ @tc (TJ @sJ @Aw))) (TJ (TJ @II @FC) (TJ @DK (TJ @M7 @AK))))) (TJ (TJ (TJ (TJ @KQ @HU) (TJ @KT (TJ @GX @R7))) (TJ (TJ @JX @JZ) (TJ @Lm (TJ @J2 @PE)))) (TJ (TJ (TJ @Cf @C1) (TJ @Hs (TJ @Cw @H8))) (TJ (TJ @Cr (TJ @y8 @A1)) (TJ @Dc (TJ @CX @GD))))))) (TJ (TJ (TJ (TJ (TJ (TJ @wv @Gx) (TJ @zg (TJ @Bp @A7))) (TJ (TJ @Bm @MD) (TJ @Oe (TJ @J4 @JV)))) (TJ (TJ (TJ @KO @J9) (TJ @My (TJ @JE @Qo))) (TJ (TJ @zi @IZ) (TJ @JI (TJ @Hh @Df))))) (TJ (TJ (TJ (TJ @BN @GZ) (TJ @LZ (TJ @JF @KK))) (TJ (TJ @JO @Lw) (TJ @Oa (TJ @J0 @DN)))) (TJ (TJ (TJ @BT @SG) (TJ @RD (TJ @FE @Ii))) (TJ (TJ @Gb (TJ @Ho @Bg)) (TJ @BQ (TJ @vd @sa)))))) (TJ (TJ (TJ (TJ (TJ @AM @J6) (TJ @D8 (TJ @E6 @BJ))) (TJ (TJ @EC @Eu) (TJ @yK (TJ @BG @xM)))) (TJ (TJ (TJ @DA @RO) (TJ @SP (TJ @Kn @KI))) (TJ (TJ @PJ @Ow) (TJ @Me (TJ @Om @P9))))) (TJ (TJ (TJ (TJ @Ps @LY) (TJ @MV (TJ @MT @Ki))) (TJ (TJ @CC @DD) (TJ @Sx (TJ @R9 @KG)))) (TJ (TJ (TJ @KJ @Mv) (TJ @MZ (TJ @Ix @IR))) (TJ (TJ @SS (TJ @Sy @QR)) (TJ @Q2 (TJ @QJ @PU)))))))) (TJ (TJ (TJ (TJ (TJ (TJ (TJ @L7 @NY) (TJ @NZ (TJ @MQ @Lk))) (TJ (TJ @K6 @PB) (TJ @Mn (TJ @L6 @Pl)))) (TJ (TJ (TJ @Ky @Py) (TJ @Sw (TJ @JJ @Hx))) (TJ (TJ @G0 @Qg) (TJ @L4 (TJ @M5 @J1))))) (TJ (TJ (TJ (TJ @OI @O6) (TJ @Kr (TJ @LO @OX))) (TJ (TJ @Kh @Ox) (TJ @E7 (TJ @NN @IM)))) (TJ (TJ (TJ @Nn @La) (TJ @Ha (TJ @Mh @He))) (TJ (TJ @N2 (TJ @Kf @Ot)) (TJ @Kc (TJ @ON @K7)))))) (TJ (TJ (TJ (TJ (TJ @GY @Kw) (TJ @Lu (TJ @wT @FV))) (TJ (TJ @BX @yr) (TJ @y9 (TJ @IG @D3)))) (TJ (TJ (TJ @C2 @Ib) (TJ @Dh (TJ @Cz @Bl))) (TJ (TJ @DH @Fk) (TJ @CL (TJ @EW @yq))))) (TJ (TJ (TJ (TJ @zr @O9) (TJ @Ls (TJ @N5 @MJ))) (TJ (TJ @MM @KL) (TJ @Nt (TJ @Le @Mf)))) (TJ (TJ (TJ @MP @Nm) (TJ @OY (TJ @Mi @Mm))) (TJ (TJ @EH (TJ @Pq @K4)) (TJ @KY (TJ @FB @JC))))))) (TJ (TJ (TJ (TJ (TJ (TJ @Lj @JY) (TJ @LN (TJ @OJ @J3))) (TJ (TJ @Bw @BK) (TJ @zy (TJ @DM @BB)))) (TJ (TJ (TJ @C6 @GJ) (TJ @FZ (TJ @bG @Do))) (TJ (TJ @cm @D1) (TJ @OU (TJ @H1 @I1))))) (TJ (TJ (TJ (TJ @O8 @Kk) (TJ @xi (TJ @vD @yb))) (TJ (TJ @Ro @Is) (TJ @B8 (TJ @yO @xj)))) (TJ (TJ (TJ @qi @qj) (TJ @p5 (TJ @lp @nF))) (TJ (TJ @Option.bind_some.{0,0} (TJ @Option.map_some.{0,0} @Option.map_none.{0,0})) (TJ @List.getElem?_map.{0,0} (TJ @List.length_map.{0,0} @List.length_append.{0})))))) (TJ (TJ (TJ (TJ (TJ @List.append_assoc.{0} @List.cons_append.{0}) (TJ @List.nil_append.{0} (TJ @List.drop_succ_cons.{0} @List.drop_zero.{0}))) (TJ (TJ @List.take_succ_cons.{0} @List.take_zero.{0}) (TJ @List.length_cons.{0} (TJ @List.length_nil.{0} @List.getElem?_cons_zero.{0})))) (TJ (TJ (TJ @List.getElem?_cons_succ.{0} @List.set_cons_zero.{0}) (TJ @List.set_cons_succ.{0} (TJ @UD @and_true))) (TJ (TJ @true_and @true_implies) (TJ @not_true_eq_false (TJ @not_false_eq_true @false_implies))))) (TJ (TJ (TJ (TJ @T1 @T0) (TJ @List.contains_cons.{0} (TJ @List.contains_nil.{0} @List.map_cons.{0,0}))) (TJ (TJ @List.map_nil.{0,0} @Bool.or_false) (TJ @TY (TJ @Bool.or_true @T6)))) (TJ (TJ (TJ @TV @Bool.true_eq_false) (TJ @Ic (TJ @F1 @Bool.not_not))) (TJ (TJ @decide_not (TJ @List.all_cons.{0} @List.all_nil.{0})) (TJ @TZ (TJ @List.getD_cons_zero.{0} @List.getD_cons_succ.{0})))))))))
 (TJ (TJ (TJ (TJ (TJ (TJ (@id (∀x,V.copy (.d x)=.d x) fun x=>rfl) (@id (∀x,V.lend1 (.d x)=.d x) fun x=>rfl)) (TJ (@id (∀x,V.lend (.d x)=.d x) fun x=>rfl) (@id (∀x,V.cells (.d x)=[.d x]) fun x=>rfl))) (TJ (TJ (@id (∀x,V.boxable (.d x)=true) fun x=>rfl) (@id (∀x y z,V.copy (.own x y z)=.d (.sl z)) fun x y z=>rfl)) (TJ (@id (∀x y z,V.lend1 (.own x y z)=.d (.sl z)) fun x y z=>rfl) (TJ (@id (∀x y z,V.lend (.own x y z)=.d (.sl z)) fun x y z=>rfl) (@id (∀x y z,V.cells (.own x y z)=[.d (.sl z)]) fun x y z=>rfl))))) (TJ (TJ (TJ (@id (∀x y z,V.boxable (.own x y z)=true) fun x y z=>rfl) (@id (V.copy .nil=.nil) rfl)) (TJ (@id (V.lend1 .nil=.d (.sl [])) rfl) (TJ (@id (V.lend .nil=.d (.sl [])) rfl) (@id (V.cells .nil=[.nil]) rfl)))) (TJ (TJ (@id (V.boxable .nil=true) rfl) (@id (∀x,V.copy (.agg x)=.agg x) fun x=>rfl)) (TJ (@id (∀x,V.lend1 (.agg x)=.agg x) fun x=>rfl) (TJ (@id (∀x,V.lend (.agg x)=.agg (x.map V.lend1)) fun x=>rfl) (@id (∀x,V.cells (.agg x)=x.map V.copy) fun x=>rfl)))))) (TJ (TJ (TJ (TJ (@id (∀x,V.boxable (.agg x)=true) fun x=>rfl) (@id (∀x,V.copy (.tup x)=.tup x) fun x=>rfl)) (TJ (@id (∀x,V.lend1 (.tup x)=.tup x) fun x=>rfl) (@id (∀x,V.lend (.tup x)=.tup x) fun x=>rfl))) (TJ (TJ (@id (∀x,V.cells (.tup x)=[.tup x]) fun x=>rfl) (@id (∀x,V.boxable (.tup x)=false) fun x=>rfl)) (TJ (@id (∀x y,V.copy (.ptr x y)=.ptr x y) fun x y=>rfl) (TJ (@id (∀x y,V.lend1 (.ptr x y)=.ptr x y) fun x y=>rfl) (@id (∀x y,V.lend (.ptr x y)=.ptr x y) fun x y=>rfl))))) (TJ (TJ (TJ (@id (∀x y,V.cells (.ptr x y)=[.ptr x y]) fun x y=>rfl) (@id (∀x y,V.boxable (.ptr x y)=true) fun x y=>rfl)) (TJ (@id (∀x y,V.copy (.row x y)=.row x y) fun x y=>rfl) (TJ (@id (∀x y,V.lend1 (.row x y)=.row x y) fun x y=>rfl) (@id (∀x y,V.lend (.row x y)=.row x y) fun x y=>rfl)))) (TJ (TJ (@id (∀x y,V.cells (.row x y)=[.row x y]) fun x y=>rfl) (@id (∀x y,V.boxable (.row x y)=true) fun x y=>rfl)) (TJ (@id (∀x y z w,V.copy (.bsl x y z w)=.bsl x y z w) fun x y z w=>rfl) (TJ (@id (∀x y z w,V.lend1 (.bsl x y z w)=.bsl x y z w) fun x y z w=>rfl) (@id (∀x y z w,V.lend (.bsl x y z w)=.bsl x y z w) fun x y z w=>rfl))))))) (TJ (TJ (TJ (TJ (TJ (@id (∀x y z w,V.cells (.bsl x y z w)=[.bsl x y z w]) fun x y z w=>rfl) (@id (∀x y z w,V.boxable (.bsl x y z w)=true) fun x y z w=>rfl)) (TJ (@id (∀x y,V.copy (.fn x y)=.fn x y) fun x y=>rfl) (@id (∀x y,V.lend1 (.fn x y)=.fn x y) fun x y=>rfl))) (TJ (TJ (@id (∀x y,V.lend (.fn x y)=.fn x y) fun x y=>rfl) (@id (∀x y,V.cells (.fn x y)=[.fn x y]) fun x y=>rfl)) (TJ (@id (∀x y,V.boxable (.fn x y)=true) fun x y=>rfl) (TJ (@id (∀x y,V.copy (.bnd x y)=.bnd x y) fun x y=>rfl) (@id (∀x y,V.lend1 (.bnd x y)=.bnd x y) fun x y=>rfl))))) (TJ (TJ (TJ (@id (∀x y,V.lend (.bnd x y)=.bnd x y) fun x y=>rfl) (@id (∀x y,V.cells (.bnd x y)=[.bnd x y]) fun x y=>rfl)) (TJ (@id (∀x y,V.boxable (.bnd x y)=true) fun x y=>rfl) (TJ (@id (∀x y,V.copy (.iface x y)=.iface x y) fun x y=>rfl) (@id (∀x y,V.lend1 (.iface x y)=.iface x y) fun x y=>rfl)))) (TJ (TJ (@id (∀x y,V.lend (.iface x y)=.iface x y) fun x y=>rfl) (@id (∀x y,V.cells (.iface x y)=[.iface x y]) fun x y=>rfl)) (TJ (@id (∀x y,V.boxable (.iface x y)=true) fun x y=>rfl) (TJ (@id (∀x,V.copy (.mp x)=.mp x) fun x=>rfl) (@id (∀x,V.lend1 (.mp x)=.mp x) fun x=>rfl)))))) (TJ (TJ (TJ (TJ (@id (∀x,V.lend (.mp x)=.mp x) fun x=>rfl) (@id (∀x,V.cells (.mp x)=[.mp x]) fun x=>rfl)) (TJ (@id (∀x,V.boxable (.mp x)=true) fun x=>rfl) (TJ (@id (∀x y z,V.copy (.bsc x y z)=.bsc x y z) fun x y z=>rfl) (@id (∀x y z,V.lend1 (.bsc x y z)=.bsc x y z) fun x y z=>rfl)))) (TJ (TJ (@id (∀x y z,V.lend (.bsc x y z)=.bsc x y z) fun x y z=>rfl) (@id (∀x y z,V.cells (.bsc x y z)=[.bsc x y z]) fun x y z=>rfl)) (TJ (@id (∀x y z,V.boxable (.bsc x y z)=true) fun x y z=>rfl) (TJ (@id (∀x y,V.copy (.mapc x y)=.mapc x y) fun x y=>rfl) (@id (∀x y,V.lend1 (.mapc x y)=.mapc x y) fun x y=>rfl))))) (TJ (TJ (TJ (@id (∀x y,V.lend (.mapc x y)=.mapc x y) fun x y=>rfl) (@id (∀x y,V.cells (.mapc x y)=[.mapc x y]) fun x y=>rfl)) (TJ (@id (∀x y,V.boxable (.mapc x y)=true) fun x y=>rfl) (TJ (@id (V.copy .junk=.junk) rfl) (@id (V.lend1 .junk=.junk) rfl)))) (TJ (TJ (@id (V.lend .junk=.junk) rfl) (@id (V.cells .junk=[.junk]) rfl)) (TJ (@id (V.boxable .junk=false) rfl) (TJ (@decide_true) (@decide_false))))))))
end Go.Proofs.YtnhphlmblenapaaGreatDoor
namespace Go.Proofs.YtnhphlmblenapaaGreatDoor
open Go.RowKit
inductive CdD where
 | seq (a:Cd) (b:CdD)
 | dfr (s:Nat) (g:FuncId) (cap:List X) (rest:Cd)
def Ac(tab:Tab)(n:Nat)(s:Nat)(g:FuncId)(cap:List X):List Oper->Bool
 | [⟨d1,.makeFunc (.func g') first cap',_,_,_,none⟩,⟨d2,.defer {callee:=.value y,args:=args,argTypes:=_},_,_,_,none⟩]=>d1==some s&&decide (s<n)&&g==g'&&first.isEmpty&&oJ cap cap'.toList&&d2==none&&okX (.t s) y&&args.isEmpty
 | _=>false
def okD(tab:Tab)(n:Nat):CdD->Code->Bool
 | .seq a b,.seq a' b'=>okC tab n a a'&&okD tab n b b'
 | .dfr s g cap rest,.seq (.region _ ops false) r=>Ac tab n s g cap ops.toList&&okC tab n rest r
 | _,_=>false
abbrev rI:=FuncId->List V->bV
def G5(C:Cx)(n0:Nat):CdD->aj->LLV->bV->rI->Prop
 | .seq a b,ρ,σ,Q,QD=>awp C n0 a ρ σ (andThen (fun ρ' σ'=>G5 C n0 b ρ' σ' Q QD) Q)
 | .dfr s g cap rest,ρ,σ,_,QD=>awp C σ.length rest (put ρ s (.fn g (cap.map (ev C ρ)))) σ (QD g (cap.map (ev C ρ)))
section
variable {C : Cx} {pr : Prot} {n n0 : Nat}
def DX(M0:av)(bm0:List Nat)(p:Nat->Prop)(w0:World)(n:Nat)(QD:rI)(e:Exit)(a':Act)(w':World):Prop:=
 ∃(M1:av) (bm1:List Nat) (w1:World) (g:FuncId) (caps:List V) (vs:List Value),Later M0 bm0 p w0 M1 bm1 w1/\vs.length=caps.length/\(∀i (h:i<caps.length) (h':i<vs.length),Rep M1 bm1 caps[i] vs[i])/\
  bJ M1 bm1 ⟨p,[{target:=.fn (.func g) vs.toArray,args := #[]}]⟩ w1 n (QD g caps) e a' w'
theorem y5{M0:av}{bm0:List Nat}{w0:World}(hG:C.glob M0 pr w0)(hn0:bm0.length=n0)(hds:pr.ds=[]):∀{c:CdD} {c':Code} {M:av} {bm:List Nat} {tk:bA} {ρ:aj} {σ:LLV} {a:Act} {w:World} {Q:bV} {QD:rI},okD C.tab n c c'=true->Later M0 bm0 pr w0 M bm w->SRel M bm tk pr ρ σ n a w->
 G5 C n0 c ρ σ Q QD->c'.wp C.P (fun e a' w'=>bJ M0 bm0 pr w0 n Q e a' w'\/DX M0 bm0 pr w0 n QD e a' w') a w:=by
 intro c
 induction c with
 | seq x y ih=>
  intro c' M bm tk ρ σ a w Q QD hok hl h hq
  obtain⟨a',b',rfl,ok2⟩:∃a' b',c'=.seq a' b'/\okC C.tab n x a'=true/\okD C.tab n y b'=true:=by
   cases c' with
   | seq a' b'=>
    have hok:(okC C.tab n x a'&&okD C.tab n y b')=true:=hok;rw[TU]at hok;exact⟨_,_,rfl,hok⟩
   | _=>cases hok
  refine wp_seq (wp_mono (lS hG hn0 ok2.1 hl h hq) (fun e a' w' hL=>?_));obtain⟨M',bm',tk',ρ',σ',x,k1,k2,k3,k4⟩:=hL;cases k2 with
  | normal=>exact ih ok2.2 k4 k3 k1
  | ret=>exact .inl ⟨M',bm',tk',ρ',σ',_,k1,.ret,k3,k4⟩
  | exit id=>exact .inl ⟨M',bm',tk',ρ',σ',_,k1,.exit id,k3,k4⟩
  | panic hp=>exact .inl ⟨M',bm',tk',ρ',σ',_,k1,.panic hp,k3,k4⟩
 | dfr s g cap rest=>
  intro c' M bm tk ρ σ a w Q QD hok hl h hq
  obtain⟨id,ops,r,rfl,hok1,hok2⟩:∃id ops r,c'=.seq (.region id ops false) r/\Ac C.tab n s g cap ops.toList=true/\okC C.tab n rest r=true:=by
   cases c' with
   | seq a' r=>
    cases a' with
    | region id ops draw=>
     cases draw with
     | false=>
      have hok:(Ac C.tab n s g cap ops.toList&&okC C.tab n rest r)=true:=hok;rw[TU]at hok;exact⟨_,_,_,rfl,hok⟩
     | true=>cases hok
    | _=>cases hok
   | _=>cases hok
  unfold Ac at hok1;split at hok1
  .rename_i d1 g' first cap' ty1 po1 af1 d2 y args at_ ty2 po2 af2 hops
   simp only[TU,beq_iff_eq,decide_eq_true_eq]at hok1;obtain⟨⟨⟨⟨⟨⟨⟨rfl,hs⟩,rfl⟩,h1⟩,h2⟩,rfl⟩,h4⟩,h5⟩:=hok1;have hf:first = #[]:=by simpa using h1
   have ha:args = #[]:=by simpa using h5
   subst hf;subst ha;obtain⟨l1,l2⟩:=fh (hG.mono hl) h h2;have hr:=Rep.fn (f:=g) l1 l2;have e9:(cap'.toList.map a.eval).toArray=cap'.map a.eval:=by rw[<-Array.toList_map]
   refine wp_seq (wp_region_list ?_);rw[hops];have w1:∀(a:Act) (d:Option Tmp) (o:Op) (t:TypeId) (p:String) (af:Array Edge),Region.wanted ⟨d,o,t,p,af,none⟩ (yielded ops a.tmps)=true:=fun _ _ _ _ _ _=>rfl;simp only[wpList];rw[if_pos (w1 _ _ _ _ _ _)];left;unfold Oper.wp
   have run1:(execOp a.eval ⟨some s,.makeFunc (.func g) #[] cap',ty1,po1,af1,none⟩).run C.P w=.ok (.value (.func (.func g) #[] (cap'.map a.eval))) w:=by
    simp[execOp,Instr.makeFunc]
   rw[run1];simp only[Oper.upon_value];rw[if_pos (w1 _ _ _ _ _ _)];left;rw[e9]at hr;have h6:=h.puts hs hr (by simp)
   have hy:(a.put (some s) (.func (.func g) #[] (cap'.map a.eval))).eval y=.func (.func g) #[] (cap'.map a.eval):=by
    unfold okX at h4;split at h4
    .rename_i m m' e;cases e;simp only[beq_iff_eq]at h4;subst h4;simp only[Act.eval];have:=gR a s s (.func (.func g) #[] (cap'.map a.eval)) (by rw[h.size];exact hs);rw[if_pos rfl]at this;exact this
    .rename_i e;cases e
    .rename_i e;cases e
    .rename_i e;cases e
    .cases h4
   have run2:(execOp (a.put (some s) (.func (.func g) #[] (cap'.map a.eval))).eval ⟨none,.defer {callee:=.value y,args := #[],argTypes:=at_},ty2,po2,af2,none⟩).run C.P w=.ok (.defer {target:=.fn (.func g) (cap'.map a.eval),args := #[]}) w:=by
    simp[execOp,resolve,hy,Deferred.ofValue]
   rw[run2];simp only[Oper.upon_defer]
   have h7:SRel M bm tk ⟨pr.p,[{target:=.fn (.func g) (cap'.map a.eval),args := #[]}]⟩ (put ρ s (.fn g (cap.map (ev C ρ)))) σ n ({(a.put (some s) (.func (.func g) #[] (cap'.map a.eval)))with defers:={target:=.fn (.func g) (cap'.map a.eval),args := #[]}::(a.put (some s) (.func (.func g) #[] (cap'.map a.eval))).defers}.put none undef) w:=
    ⟨h6.inv,by show _::_=_;rw[h6.defers,hds],h6.size,h6.slots⟩
   refine wp_mono (lS (pr:=⟨pr.p,[{target:=.fn (.func g) (cap'.map a.eval),args := #[]}]⟩) (hG.mono hl) (n0:=σ.length) h.inv.len hok2 (Later.refl _ _ _ _) h7 hq) (fun e a' w' hL=>.inr ⟨M,bm,w,g,cap.map (ev C ρ),cap'.toList.map a.eval,hl,l1,l2,?_⟩);rw[e9];exact hL
  .cases hok1
def fi(C:Cx)(g:FuncId)(caps:List V)(σ:LLV)(x:Option V)(R:LLV->Prop):Prop:=
 (∀as w,(callFunc g as).run C.P w=.ok (.enter g as) w)/\
 ∀(M:av) (bm:List Nat) (tk:bA) (pr:Nat->Prop) (w:World) (vs:List Value) (u:FrameMode),C.glob M pr w->Inv M bm σ tk pr w->(∀t,tk none t=none)->vs.length=caps.length->(∀i (h:i<caps.length) (h':i<vs.length),Rep M bm caps[i] vs[i])->
  (match x with|none=>u=.returning|some v=>∃y,u=.panicking [{v:=y,recovered:=false}]/\Rep M bm v y)->
  CallsD C.P g vs.toArray u w fun e u' w'=>(∃y,e=.returned y)/\settle u'=.returning/\∃M' bm' tk' σ',R σ'/\Inv M' bm' σ' tk' pr w'/\Later M bm pr w M' bm' w'
theorem uP{M':av}{bm':List Nat}{tk':bA}{ρ':aj}{σ':LLV}{a':Act}{w':World}{k:Nat}(o:Option Nat)(k3:SRel M' bm' tk' pr ρ' σ' n a' w')(hbk:am k (σ'.take k)=true)(ho:o=none\/∃s,o=tk' none s):
 Inv M' (bm'.take k) (σ'.take k) (fun i j=>match i with|none=>if j=0 then o else none|some i=>tk' (some i) j) pr w':=by
 have hd:=k3.inv.drop hbk;refine⟨hd.facts,hd.len,hd.box,hd.free,hd.bmnd,fun i j g hg=>?_,fun i j i' j' g g1 g2=>?_,hd.prlt⟩
 .cases i with
  | some i=>exact hd.tok _ _ _ hg
  | none=>
   simp only at hg;split at hg
   .rcases ho with rfl|⟨s,rfl⟩
    .cases hg
    .exact hd.tok _ _ _ hg
   .cases hg
 .cases i with
  | some i=>cases i' with
   | some i'=>exact hd.inj _ _ _ _ _ g1 g2
   | none=>
    simp only at g2;split at g2
    .rcases ho with rfl|⟨s,rfl⟩
     .cases g2
     .have:=hd.inj _ _ _ _ _ g1 g2;simp at this
    .cases g2
  | none=>cases i' with
   | some i'=>
    simp only at g1;split at g1
    .rcases ho with rfl|⟨s,rfl⟩
     .cases g1
     .have:=hd.inj _ _ _ _ _ g1 g2;simp at this
    .cases g1
   | none=>
    simp only at g1 g2;split at g1
    .split at g2
     .exact⟨rfl,by omega⟩
     .cases g2
    .cases g1
def Bu(n0:Nat)(rs:List RV)(Q:Out->LLV->Prop)(ρ:aj)(σ2:LLV):Prop:=
 ∃v,aC σ2 ρ rs=some v/\∃k,n0≤k/\am k (σ2.take k)=true/\V.under k v=true/\Q (.ret v) (σ2.take k)
def Mq(C:Cx)(n0:Nat)(rs:List RV)(Q:Out->LLV->Prop):rI:=fun g caps e ρ σ'=>match e with
 | .normal=>fi C g caps σ' none (Bu n0 rs Q ρ)
 | .ret=>fi C g caps σ' none (Bu n0 rs Q ρ)
 | .panic v=>fi C g caps σ' (some v) (Bu n0 rs Q ρ)
 | .exit _=>False
def sO(tab:Tab)(fn:Func)(m:Nat)(c:CdD)(rs:List RV):Bool:=
 (match fn.body with|some b=>okD tab fn.ntmps c b|none=>false)&&nd tab rs fn.results.toList&&decide (m≤fn.ntmps) && !(fn.name == "runtime.NumGoroutine")
theorem Bd{f:FuncId}{fn:Func}{c:CdD}{rs:List RV}{args:List V}{σ:LLV}{Q:Out->LLV->Prop}(hf:C.P.funcs[f]? = some fn)(hok:sO C.tab fn args.length c rs=true)(hno:args.all (! ·.isOwn)=true)
 (h:am σ.length σ=true->(∀i (h:i<args.length),V.Wf args[i])->G5 C σ.length c (eP 0 args) σ (fin σ.length rs Q) (Mq C σ.length rs Q)):Fun C f args σ Q:=by
 unfold sO at hok;simp only[TU,decide_eq_true_eq,TW]at hok;obtain⟨⟨⟨h1,h2⟩,h3⟩,h4⟩:=hok;cases hb:fn.body with
 | none=>rw[hb]at h1;cases h1
 | some body=>
 rw[hb]at h1;refine⟨bP hf h4 (by rw[hb];rfl),fun M bm tk pr0 w vs hG hI htk hl hr=>?_⟩;obtain⟨pr,rfl,hds⟩:∃pr:Prot,pr.p=pr0/\pr.ds=[]:=⟨⟨pr0,[]⟩,rfl,rfl⟩
 have hq:=h hI.under (fun i hi=>(hr i hi (by omega)).wf);refine calls_of_wp_defers hf hb ?_
 have hs:SRel M bm tk pr (eP 0 args) σ fn.ntmps {tmps:=vs.toArray++TM (fn.ntmps-vs.toArray.size) undef,defers:=[]} w:=by
  refine⟨hI,hds.symm,by simp;omega,fun t=>?_⟩;rw[jT,if_pos (UH _),UJ];by_cases hlt:t<args.length
  .rw[T9 hlt,UL]
   have hv:(vs.toArray++TM (fn.ntmps-vs.toArray.size) undef).getD t undef=vs[t]'(by omega):=by
    rw[TK,TT (by simp;omega)];simp[show t<vs.length by omega]
   rw[hv];refine⟨hr t hlt (by omega),fun T k rows e=>?_⟩;have:=List.all_eq_true.1 hno args[t] (Us hlt);rw[e]at this;cases this
  .rw[Uq (by omega),UO];exact CellOK.junk ..
 refine wp_mono (y5 hG hI.len hds h1 (Later.refl M bm pr w) hs hq) (fun e a' w' hL=>?_)
 have ret:∀{p2:Prot} {M2:av} {bm2:List Nat} {tk2:bA} {ρ2:aj} {σ2:LLV} {w2:World},p2.p=pr.p->SRel M2 bm2 tk2 p2 ρ2 σ2 fn.ntmps a' w2->Later M bm pr w M2 bm2 w2->∀v,aC σ2 ρ2 rs=some v->(∃k,σ.length≤k/\am k (σ2.take k)=true/\V.under k v=true/\Q (.ret v) (σ2.take k))->
  ∃u,(results fn a'.tmps).run C.P w2=.ok u w2/\∃M' bm' tk' σ' o,Q o σ'/\Inv M' bm' σ' tk' pr w2/\Later M bm pr w M' bm' w2/\OutOK M' bm' w2 tk' o (.returned u):=by
  rintro p2 M2 bm2 tk2 ρ2 σ2 w2 hp s1 s2 v hv ⟨k,g1,g2,g3,g4⟩;obtain⟨u,r1,t,r2,r3⟩:=qU s1 h2 hv;have c1:=uP t s1 g2 r3;rw[hp]at c1;refine⟨u,r1,M2,bm2.take k,_,σ2.take k,.ret v,g4,c1,s2.drop (by rw[hI.len];exact g1),fun v' e=>?_,fun v' e=>by cases e⟩;cases e;exact⟨u,rfl,r2.rep.drop g3,by simpa using r2.own⟩
 rcases hL with⟨M',bm',tk',ρ',σ',x,k1,k2,k3,k4⟩|⟨M1,bm1,w1,g,caps,us,d1,d2,d3,M',bm',tk',ρ',σ',x,k1,k2,k3,k4⟩
 .have hnil:a'.defers=[]:=k3.defers.trans hds
  have plain:(∃ρ2 σ2,dZ σ.length ρ' σ' ρ2 σ2/\∃v,aC σ2 ρ2 rs=some v/\∃k,σ.length≤k/\am k (σ2.take k)=true/\V.under k v=true/\Q (.ret v) (σ2.take k))->Leaves C.P fn a'.tmps (fun e w'=>∃M' bm' tk' σ' o,Q o σ'/\Inv M' bm' σ' tk' pr w'/\Later M bm pr w M' bm' w'/\OutOK M' bm' w' tk' o e) a'.defers .returning w':=by
   rintro⟨ρ2,σ2,g0,v,g1,g2⟩;obtain⟨M2,bm2,s1,s2⟩:=g0 M' bm' tk' pr fn.ntmps a' w' k3;rw[hnil];exact ret rfl s1 (s2 M bm w hI.len k4) v g1 g2
  cases k2 with
  | normal=>exact plain k1
  | ret=>exact plain k1
  | exit id=>exact k1.elim
  | panic hp=>
   obtain⟨k,g1,g2,g3,g4⟩:=k1;have c1:=uP none k3 g2 (.inl rfl);show Leaves C.P fn a'.tmps _ a'.defers (.panicking _) w';rw[hnil];exact⟨M',bm'.take k,_,σ'.take k,_,g4,c1,k4.drop (by rw[hI.len];exact g1),(fun v' e=>by cases e),fun v' e=>by cases e;exact⟨_,rfl,hp.drop g3⟩⟩
 .have hdl:Later M bm pr.p w M' bm' w':=d1.trans k4 (fun _ h=>h);have hrc:∀i (h:i<caps.length) (h':i<us.length),Rep M' bm' caps[i] us[i]:=fun i g1 g2=>k4.rep (d3 i g1 g2)
  have late:∀(x:Option V) (u:FrameMode),u≠.run->(match x with|none=>u=.returning|some v=>∃y,u=.panicking [{v:=y,recovered:=false}]/\Rep M' bm' v y)->fi C g caps σ' x (Bu σ.length rs Q ρ')->
   Leaves C.P fn a'.tmps (fun e w'=>∃M' bm' tk' σ' o,Q o σ'/\Inv M' bm' σ' tk' pr w'/\Later M bm pr w M' bm' w'/\OutOK M' bm' w' tk' o e) a'.defers u w':=fun x u hu hx hF=>by
   rw[k3.defers];refine leaves_cons hu ?_ ((hF.2 M' bm' (ux tk') (prot tk' pr.p) w' us u ((hG.mono hdl).prot fun _ hb=>.inl hb) k3.callee (fun _=>rfl) d2 hrc hx).mono ?_)
   .have:=hF.1 us.toArray w';simpa[invoke]using this
   .rintro e u' w2 ⟨⟨y,rfl⟩,hset,M2,bm2,tk2,σ2,hfin,hi2,hl2⟩;obtain⟨⟨tk3,s1⟩,-,s2⟩:=k3.called hi2 hl2;obtain⟨v,hv,hk⟩:=hfin;show Leaves C.P fn a'.tmps _ [] (settle u') w2;rw[hset];exact ret (by exact rfl) s1 (hdl.trans s2 (fun _ h=>h)) v hv hk
  cases k2 with
  | normal=>exact late none .returning (by simp) rfl k1
  | ret=>exact late none .returning (by simp) rfl k1
  | exit id=>exact k1.elim
  | panic hp=>exact late (some _) (.panicking _) (by simp) ⟨_,rfl,hp⟩ k1
inductive CdR where
 | reg (s:Nat) (l:List O) (keep:List Nat)
 | seq (a:CdR) (b:Cd)
def uM(n s:Nat):List Oper->Bool
 | ⟨d,.call {callee:=.builtin .recover,args:=args,argTypes:=_},_,_,_,none⟩::_=>d==some s&&decide (s<n)&&args.isEmpty
 | _=>false
def okR(tab:Tab)(n:Nat):CdR->Code->Bool
 | .reg s l _,.region _ ops false=>uM n s ops.toList&&iJ tab n ops l ops.toList.tail
 | .seq a b,.seq a' b'=>okR tab n a a'&&okC tab n b b'
 | _,_=>false
def Hf(C:Cx)(n0:Nat)(x:V):CdR->aj->LLV->bV->Prop
 | .reg s l keep,ρ,σ,Q=>cl C l (put ρ s x) σ fun e ρ' σ'=>Q e (aY keep ρ') σ'
 | .seq a b,ρ,σ,Q=>Hf C n0 x a ρ σ (andThen (fun ρ' σ'=>awp C n0 b ρ' σ' Q) Q)
theorem mJ{P:Program}{ops:Array Oper}{Q Q':Exit->Act->World->Prop}(hq:∀e a w,Q e a w->Q' e a w):∀(l:List Oper) (a:Act) (w:World),wpList P ops Q l a w->wpList P ops Q' l a w
 | [],_,_,h=>hq _ _ _ h
 | o::l,a,w,h=>by
  simp only[wpList]at h ⊢;split
  .rename_i hw;rw[if_pos hw]at h;rcases h with h|⟨h1,a',w',h2⟩
   .exact .inl (Oper.wp_mono2 (fun a' w' hh=>mJ hq l a' w' hh) hq h)
   .exact .inr ⟨h1,a',w',hq _ _ _ h2⟩
  .rename_i hw;rw[if_neg hw]at h;exact mJ hq l _ w h
theorem zZ{P:Program}{c:Code}{Q Q':Exit->Act->List Frame->World->Prop}{a:Act}{cs:List Frame}{w:World}(h:c.wpS P Q a cs w)(hq:∀e a cs w,Q e a cs w->Q' e a cs w):c.wpS P Q' a cs w:=
 fun b k hb hr=>let ⟨e,a',cs',w',q,r⟩:=h b k hb hr;⟨e,a',cs',w',hq _ _ _ _ q,r⟩
theorem iw{P:Program}{ops:Array Oper}{Q:Exit->Act->World->Prop}{cs:List Frame}(hno:¬LetsOut Q):∀(l:List Oper) (k:Nat) (a:Act) (w:World),(∀j,l[j]? = ops[k+j]?)->wpList P ops Q l a w->wpOpsS P ops (fun e a cs' w=>cs'=cs/\Q e a w) (Uv k l.length) a cs w
 | [],_,_,_,_,h=>⟨rfl,h⟩
 | o::l,k,a,w,hj,h=>by
  have h0:ops[k]? = some o:=by simpa using(hj 0).symm
  have hj':∀j,l[j]? = ops[k+1+j]? := fun j=>by have:=hj (j+1);simpa[UI,Nat.add_comm 1 j]using this
  simp only[Uc,Ux,wpOpsS,h0];simp only[wpList]at h;split
  .rename_i hw;rw[if_pos hw]at h;have h:=h.resolve_right fun hh=>hno hh.2;have h2:o.wp P a w (fun a' w'=>wpOpsS P ops (fun e a cs' w=>cs'=cs/\Q e a w) (Uv (k+1) l.length) a' cs w') (fun e a' w'=>True/\Q e a' w'):=Oper.wp_mono2 (fun a' w' hh=>iw hno l (k+1) a' w' hj' hh) (fun e a' w' hh=>⟨trivial,hh⟩) h;unfold Oper.wp at h2;generalize (execOp a.eval o).run P w=r at h2;split
   .exact h2.elim
   .exact h2
  .rename_i hw;rw[if_neg hw]at h;exact iw hno l (k+1) _ w hj' h
theorem bJ.noOut{M:av}{bm:List Nat}{w:World}{Q:bV}:¬LetsOut (bJ M bm pr w n Q):=by
 rintro⟨a,w',M',bm',tk',ρ',σ',x,h1,h2,h3⟩;cases h2
theorem xL{M0:av}{bm0:List Nat}{w0:World}(hG:C.glob M0 pr w0)(hn0:bm0.length=n0){x:V}{cs cs2:List Frame}{y:Value}(hrec:recoverD cs=some (y,cs2)\/(recoverD cs=none/\cs2=cs/\y=.nilIface))(hx:Rep M0 bm0 x y)(hxo:∀T k rows,x≠.own T k rows):
 ∀{c:CdR} {c':Code} {tk:bA} {ρ:aj} {σ:LLV} {a:Act} {Q:bV},okR C.tab n c c'=true->SRel M0 bm0 tk pr ρ σ n a w0->
 Hf C n0 x c ρ σ Q->c'.wpS C.P (fun e a' cs' w'=>cs'=cs2/\bJ M0 bm0 pr w0 n Q e a' w') a cs w0:=by
 intro c
 induction c with
 | reg s l keep=>
  intro c' tk ρ σ a Q hok h hq
  obtain⟨id,ops,rfl,hok1,hok2⟩:∃id ops,c'=.region id ops false/\uM n s ops.toList=true/\iJ C.tab n ops l ops.toList.tail=true:=by
   cases c' with
   | region id ops draw=>
    cases draw with
    | false=>
     have hok:(uM n s ops.toList&&iJ C.tab n ops l ops.toList.tail)=true:=hok;rw[TU]at hok;exact⟨_,_,rfl,hok⟩
    | true=>cases hok
   | _=>cases hok
  unfold uM at hok1;split at hok1
  .rename_i d args at_ ty po af r hops;simp only[TU,beq_iff_eq,decide_eq_true_eq]at hok1;obtain⟨⟨rfl,hs⟩,h5⟩:=hok1;have ha:args = #[]:=by simpa using h5
   subst ha;rw[hops,List.tail_cons]at hok2;refine wpS_region ?_;have hsz:ops.size=r.length+1:=by rw[<-Array.length_toList,hops];rfl
   have h0:ops[0]? = some ⟨some s,.call {callee:=.builtin .recover,args := #[],argTypes:=at_},ty,po,af,none⟩:=by rw[<-TN,hops];rfl
   have hj:∀j,r[j]? = ops[0+1+j]? := fun j=>by rw[<-TN,hops,show 0+1+j=j+1 by omega];rfl
   rw[hsz,List.range_eq_range',Ux];simp only[wpOpsS,h0];rw[if_pos (show Region.wanted ⟨some s,.call {callee:=.builtin .recover,args := #[],argTypes:=at_},ty,po,af,none⟩ (yielded ops a.tmps)=true from rfl)]
   have run1:(execOp a.eval ⟨some s,.call {callee:=.builtin .recover,args := #[],argTypes:=at_},ty,po,af,none⟩).run C.P w0=.ok .recover w0:=by
    simp[execOp,resolve,invoke,builtin]
   rw[run1]
   have go:wpOpsS C.P ops (fun e a' cs' w'=>cs'=cs2/\bJ M0 bm0 pr w0 n Q e a' w') (Uv (0+1) r.length) (a.put (some s) y) cs2 w0:=by
    refine iw bJ.noOut r (0+1) _ _ hj ?_;have h6:=h.puts hs hx hxo;exact mJ (fun e a w hL=>bJ.keep (l:=keep) hL) _ _ _ (fS (Q:=fun e ρ' σ'=>Q e (aY keep ρ') σ') hG hok2 (Later.refl _ _ _ _) h6 hq)
   rcases hrec with hrec|⟨hrec,rfl,rfl⟩
   .rw[hrec];exact go
   .rw[hrec];exact go
  .cases hok1
 | seq x1 b ih=>
  intro c' tk ρ σ a Q hok h hq
  obtain⟨a',b',rfl,ok2⟩:∃a' b',c'=.seq a' b'/\okR C.tab n x1 a'=true/\okC C.tab n b b'=true:=by
   cases c' with
   | seq a' b'=>
    have hok:(okR C.tab n x1 a'&&okC C.tab n b b')=true:=hok;rw[TU]at hok;exact⟨_,_,rfl,hok⟩
   | _=>cases hok
  refine wpS_seq (zZ (ih ok2.1 h hq) (fun e a' cs' w' ⟨hcs,hL⟩=>?_));subst hcs;obtain⟨M',bm',tk',ρ',σ',z,k1,k2,k3,k4⟩:=hL;cases k2 with
  | normal=>exact wpS_of_wp (wp_mono (lS hG hn0 ok2.2 k4 k3 k1) fun e a w hh=>⟨rfl,hh⟩)
  | ret=>exact⟨rfl,M',bm',tk',ρ',σ',_,k1,.ret,k3,k4⟩
  | exit id=>exact⟨rfl,M',bm',tk',ρ',σ',_,k1,.exit id,k3,k4⟩
  | panic hp=>exact⟨rfl,M',bm',tk',ρ',σ',_,k1,.panic hp,k3,k4⟩
def Oc(n0:Nat)(R:LLV->Prop):bV:=fun e _ σ'=>match e with
 | .normal=>∃k,n0≤k/\am k (σ'.take k)=true/\R (σ'.take k)
 | .ret=>∃k,n0≤k/\am k (σ'.take k)=true/\R (σ'.take k)
 | _=>False
def sQ(tab:Tab)(fn:Func)(m:Nat)(c:CdR):Bool:=
 (match fn.body with|some b=>okR tab fn.ntmps c b|none=>false)&&fn.results.isEmpty&&decide (m≤fn.ntmps) && !(fn.name == "runtime.NumGoroutine")
theorem Gj{g:FuncId}{fn:Func}{c:CdR}{caps:List V}{σ:LLV}{x:Option V}{R:LLV->Prop}(hf:C.P.funcs[g]? = some fn)(hok:sQ C.tab fn caps.length c=true)(hno:caps.all (! ·.isOwn)=true)(hx:∀v,x=some v->v.isOwn=false)
 (h:am σ.length σ=true->Hf C σ.length (x.getD (.d (.lit .nilIface))) c (eP 0 caps) σ (Oc σ.length R)):fi C g caps σ x R:=by
 unfold sQ at hok;simp only[TU,decide_eq_true_eq,TW]at hok;obtain⟨⟨⟨h1,h2⟩,h3⟩,h4⟩:=hok;have hres:fn.results = #[]:=by simpa using h2
 cases hb:fn.body with
 | none=>rw[hb]at h1;cases h1
 | some body=>
 rw[hb]at h1;refine⟨bP hf h4 (by rw[hb];rfl),fun M bm tk pr0 w vs u hG hI htk hl hr hu=>?_⟩;obtain⟨pr,rfl,hds⟩:∃pr:Prot,pr.p=pr0/\pr.ds=[]:=⟨⟨pr0,[]⟩,rfl,rfl⟩
 have hq:=h hI.under;refine callsD_of_wpS hf hb fun c₀ cs hc=>?_
 have hs:SRel M bm tk pr (eP 0 caps) σ fn.ntmps {tmps:=vs.toArray++TM (fn.ntmps-vs.toArray.size) undef,defers:=[]} w:=by
  refine⟨hI,hds.symm,by simp;omega,fun t=>?_⟩;rw[jT,if_pos (UH _),UJ];by_cases hlt:t<caps.length
  .rw[T9 hlt,UL]
   have hv:(vs.toArray++TM (fn.ntmps-vs.toArray.size) undef).getD t undef=vs[t]'(by omega):=by
    rw[TK,TT (by simp;omega)];simp[show t<vs.length by omega]
   rw[hv];refine⟨hr t hlt (by omega),fun T k rows e=>?_⟩;have:=List.all_eq_true.1 hno caps[t] (Us hlt);rw[e]at this;cases this
  .rw[Uq (by omega),UO];exact CellOK.junk ..
 have key:∀(y:Value) (cs2:List Frame),(recoverD (c₀::cs)=some (y,cs2)\/(recoverD (c₀::cs)=none/\cs2=c₀::cs/\y=.nilIface))->Rep M bm (x.getD (.d (.lit .nilIface))) y->(∃u',cs2={c₀ with mode:=u'}::cs/\settle u'=.returning)->
  body.wpS C.P (bodyPostS C.P fn c₀ cs fun e u' w'=>(∃y,e=.returned y)/\settle u'=.returning/\∃M' bm' tk' σ',R σ'/\Inv M' bm' σ' tk' pr w'/\Later M bm pr w M' bm' w') {tmps:=vs.toArray++TM (fn.ntmps-vs.toArray.size) undef,defers:=[]} (c₀::cs) w:=by
  rintro y cs2 hrec hy ⟨u',rfl,hset⟩;refine zZ (xL hG hI.len hrec hy ?_ h1 hs hq) (fun e a' cs' w' ⟨hcs,hL⟩=>?_)
  .intro T k rows e;cases x with
   | none=>cases e
   | some v=>have:=hx v rfl;rw[UL]at e;rw[e]at this;cases this
  subst hcs;obtain⟨M',bm',tk',ρ',σ',z,k1,k2,k3,k4⟩:=hL
  have fin:(∃k,σ.length≤k/\am k (σ'.take k)=true/\R (σ'.take k))->a'.defers=[]/\∃u'',({c₀ with mode:=u'}::cs:List Frame)={c₀ with mode:=u''}::cs/\∃v,(results fn a'.tmps).run C.P w'=.ok v w'/\((∃y,Ending.returned v=.returned y)/\settle u''=.returning/\∃M' bm' tk' σ',R σ'/\Inv M' bm' σ' tk' pr w'/\Later M bm pr w M' bm' w'):=by
   rintro⟨k,g1,g2,g3⟩;have c1:=uP none k3 g2 (.inl rfl);refine⟨k3.defers.trans hds,u',rfl,.tuple #[],?_,⟨_,rfl⟩,hset,M',bm'.take k,_,σ'.take k,g3,c1,k4.drop (by rw[hI.len];exact g1)⟩;rw[qX,hres];simp
  cases k2 with
  | normal=>exact fin k1
  | ret=>exact fin k1
  | exit id=>exact k1.elim
  | panic hp=>exact k1.elim
 cases x with
 | none=>
  simp only at hu;subst hu;exact key .nilIface (c₀::cs) (.inr ⟨by simp[recoverD,hc],rfl,rfl⟩) (.d (.lit _ trivial)) ⟨.returning,by rw[<-hc],rfl⟩
 | some v=>
  simp only at hu;obtain⟨y,rfl,hy⟩:=hu;exact key y ({c₀ with mode:=.panicking [{v:=y,recovered:=true}]}::cs) (.inl (by simp[recoverD,hc])) hy ⟨_,rfl,rfl⟩
def dT(C:Cx)(n0:Nat)(c:CdD)(ρ:aj)(σ:LLV)(Q:bV)(QD:rI)(_:Tag Q)(_:Tag QD):Prop:=G5 C n0 c ρ σ Q QD
theorem je{ρ:aj}{σ:LLV}{Q:bV}{QD:rI}(a:Cd)(b:CdD)(s:Tag Q)(t:Tag QD):dT C n0 (.seq a b) ρ σ Q QD s t=eQ C n0 a ρ σ (andThen (fun ρ' σ'=>dT C n0 b ρ' σ' Q QD .mk .mk) Q) .mk:=rfl
theorem F0{ρ:aj}{σ:LLV}{Q:bV}{QD:rI}(i:Nat)(g:FuncId)(cap:List X)(rest:Cd)(s:Tag Q)(t:Tag QD):dT C n0 (.dfr i g cap rest) ρ σ Q QD s t=eQ C σ.length rest (put ρ i (.fn g (cap.map (ev C ρ)))) σ (QD g (cap.map (ev C ρ))) .mk:=rfl
def rT(C:Cx)(n0:Nat)(x:V)(c:CdR)(ρ:aj)(σ:LLV)(Q:bV)(_:Tag Q):Prop:=Hf C n0 x c ρ σ Q
theorem sF{x:V}{ρ:aj}{σ:LLV}{Q:bV}(i:Nat)(l:List O)(keep:List Nat)(t:Tag Q):rT C n0 x (.reg i l keep) ρ σ Q t=bh C l (put ρ i x) σ (fun e ρ' σ'=>Q e (aY keep ρ') σ') .mk:=rfl
theorem tU{x:V}{ρ:aj}{σ:LLV}{Q:bV}(a:CdR)(b:Cd)(t:Tag Q):rT C n0 x (.seq a b) ρ σ Q t=rT C n0 x a ρ σ (andThen (fun ρ' σ'=>eQ C n0 b ρ' σ' Q .mk) Q) .mk:=rfl
theorem mT{f:FuncId}{fn:Func}{c:CdD}{rs:List RV}{args:List V}{σ:LLV}{Q:Out->LLV->Prop}(hf:C.P.funcs[f]? = some fn)(hok:sO C.tab fn args.length c rs=true)(hno:args.all (! ·.isOwn)=true)
 (h:am σ.length σ=true->(∀i (h:i<args.length),V.Wf args[i])->dT C σ.length c (eP 0 args) σ (fin σ.length rs Q) (Mq C σ.length rs Q) .mk .mk):Fun C f args σ Q:=Bd hf hok hno h
theorem eE{g:FuncId}{fn:Func}{c:CdR}{caps:List V}{σ:LLV}{x:Option V}{R:LLV->Prop}(hf:C.P.funcs[g]? = some fn)(hok:sQ C.tab fn caps.length c=true)(hno:caps.all (! ·.isOwn)=true)(hx:∀v,x=some v->v.isOwn=false)
 (h:am σ.length σ=true->rT C σ.length (x.getD (.d (.lit .nilIface))) c (eP 0 caps) σ (Oc σ.length R) .mk):fi C g caps σ x R:=Gj hf hok hno hx h
theorem fi.mono{g:FuncId}{caps:List V}{σ:LLV}{x:Option V}{R R':LLV->Prop}(h:fi C g caps σ x R)(hr:∀σ',R σ'->R' σ'):fi C g caps σ x R':=
 ⟨h.1,fun M bm tk pr w vs u hG hI ht hl hrep hu=>(h.2 M bm tk pr w vs u hG hI ht hl hrep hu).mono fun e u' w' ⟨h1,h2,M',bm',tk',σ',h3,h4⟩=>⟨h1,h2,M',bm',tk',σ',hr _ h3,h4⟩⟩
end
end Go.Proofs.YtnhphlmblenapaaGreatDoor
