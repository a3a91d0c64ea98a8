import Derived.Orders
import Derived.RowKit
import Derived.Recover
import Derived.Test.YthekkgfmagliiaaGreatDoorA13
set_option linter.unusedVariables false
set_option linter.unusedSimpArgs false
set_option linter.unusedSectionVars false
open Array renaming getD_eq_getD_getElem?->Rs,getElem?_eq_getElem->Ru,getElem?_setIfInBounds_self_of_lt->Rv,getElem?_toList->Rw,getElem?_setIfInBounds_ne->Rx,replicate->Ry,all_toList->Rz,getElem?_replicate->RA,toList_setIfInBounds->RB
open Bool renaming and_eq_true->RC,false_or->RD,or_eq_true->RE,false_eq_true->RF,not_eq_true'->RG,not_false->RH,and_false->RI,true_and->RJ,not_true->RK,and_true->RL,true_or->RM,false_and->RN
open Classical renaming byContradiction->RO
open List renaming getElem?_eq_getElem->RP,getElem?_append_right->RQ,all_eq_true->RR,getElem?_append_left->RS,getElem_of_mem->RU,map_congr_left->RW,getElem?_cons_succ->RX,range->RY,mem_range->RZ,mem_filter->R0,filter_eq_nil_iff->R5,length_cons->R6,getElem?_take_of_lt->R7,eq_nil_of_length_eq_zero->R8,getD_eq_getElem?_getD->R9,mem_append->Sa,mem_append_right->Sb,contains_iff_mem->Sc,getElem_cons_succ->Sd,mem_of_mem_take->Se,cons_append->Sf,length_nil->Si,append_nil->Sj,replicate->Sk
open Nat renaming zero_add->Sl,le_refl->Sm,add_zero->Sn,strongRecOn->So,add_assoc->Sr,zero_le->Ss
open Option renaming getD_some->Su,isNone_iff_eq_none->Sv,map_some->Sw,bind_some->Sx
namespace Go.Proofs.YthekkgfmagliiaaGreatDoor
open Go.RowKit
mutual
def V.under(k:Nat):V->Bool
 | .agg cs=>V.unders k cs
 | .tup cs=>V.unders k cs
 | .fn _ cs=>V.unders k cs
 | .bnd _ cs=>V.unders k cs
 | .ptr i _=>decide (i<k)
 | .bsl i _ _ _=>decide (i<k)
 | .iface _ v=>V.under k v
 | .mp i=>decide (i<k)
 | .bsc i _ _=>decide (i<k)
 | .mapc _ kv=>V.underkv k kv
 | .d _=>true
 | .own _ _ _=>true
 | .nil=>true
 | .row _ _=>true
 | .junk=>true
def V.unders(k:Nat):List V->Bool
 | []=>true
 | x::r=>V.under k x&&V.unders k r
def V.underkv(k:Nat):List (Key×V)->Bool
 | []=>true
 | p::r=>V.underp k p&&V.underkv k r
def V.underp(k:Nat):Key×V->Bool
 | (_,x)=>V.under k x
end
theorem V.unders_get{k:Nat}:∀{cs:List V},V.unders k cs=true->∀i (h:i<cs.length),V.under k cs[i]=true
 | x::r,h,i,hi=>by
  simp only[V.unders,RC]at h;cases i with
  | zero=>exact h.1
  | succ i=>exact V.unders_get h.2 i (by simpa using hi)
theorem V.unders_of{k:Nat}:∀{cs:List V},(∀i (h:i<cs.length),V.under k cs[i]=true)->V.unders k cs=true
 | [],_=>rfl
 | x::r,h=>by
  simp only[V.unders,RC];exact⟨h 0 (by simp),V.unders_of fun i hi=>h (i+1) (by simpa using hi)⟩
theorem Rep.drop{M:an}{bm:List Nat}{k:Nat}{x:V}{v:Value}(h:Rep M bm x v):V.under k x=true->Rep M (bm.take k) x v:=by
 induction h with
 | d h=>exact fun _=>.d h
 | own h=>exact fun _=>.own h
 | nil=>exact fun _=>.nil
 | agg hl h h1 ih=>exact fun hb=>.agg hl (fun i g1 g2=>ih i g1 g2 (V.unders_get (by simpa only[V.under]using hb) i g1)) h1
 | tup hl h ih=>exact fun hb=>.tup hl (fun i g1 g2=>ih i g1 g2 (V.unders_get (by simpa only[V.under]using hb) i g1))
 | ptr h=>exact fun hb=>.ptr (by
  simp only[V.under,decide_eq_true_eq]at hb;rw[R7 hb];exact h)
 | row val hf hd=>exact fun _=>.row val hf hd
 | bsl h hc hm=>exact fun hb=>.bsl (by
  simp only[V.under,decide_eq_true_eq]at hb;rw[R7 hb];exact h) hc hm
 | fn hl h ih=>exact fun hb=>.fn hl (fun i g1 g2=>ih i g1 g2 (V.unders_get (by simpa only[V.under]using hb) i g1))
 | bnd hl h ih=>exact fun hb=>.bnd hl (fun i g1 g2=>ih i g1 g2 (V.unders_get (by simpa only[V.under]using hb) i g1))
 | iface h ih=>exact fun hb=>.iface (ih (by simpa only[V.under]using hb))
 | mp h=>exact fun hb=>.mp (by
  simp only[V.under,decide_eq_true_eq]at hb;rw[R7 hb];exact h)
 | bsc h hc hm=>exact fun hb=>.bsc (by
  simp only[V.under,decide_eq_true_eq]at hb;rw[R7 hb];exact h) hc hm
 | junk v=>exact fun _=>.junk v
theorem Rep.under{M:an}{bm:List Nat}{x:V}{v:Value}(h:Rep M bm x v):V.under bm.length x=true:=by
 induction h with
 | d h=>rfl
 | own h=>rfl
 | nil=>rfl
 | agg hl h h1 ih=>simp only[V.under];exact V.unders_of fun i hi=>ih i hi (by omega)
 | tup hl h ih=>simp only[V.under];exact V.unders_of fun i hi=>ih i hi (by omega)
 | ptr h=>simp only[V.under,decide_eq_true_eq];exact(List.getElem?_eq_some_iff.1 h).1
 | row val hf hd=>rfl
 | bsl h hc hm=>simp only[V.under,decide_eq_true_eq];exact(List.getElem?_eq_some_iff.1 h).1
 | fn hl h ih=>simp only[V.under];exact V.unders_of fun i hi=>ih i hi (by omega)
 | bnd hl h ih=>simp only[V.under];exact V.unders_of fun i hi=>ih i hi (by omega)
 | iface h ih=>simpa only[V.under]using ih
 | mp h=>simp only[V.under,decide_eq_true_eq];exact(List.getElem?_eq_some_iff.1 h).1
 | bsc h hc hm=>simp only[V.under,decide_eq_true_eq];exact(List.getElem?_eq_some_iff.1 h).1
 | junk v=>rfl
theorem MR.drop{M:an}{bm:List Nat}{k:Nat}{st:Bool}{kv:List (Key×V)}{es:List MapEntry}(h:MR M bm st kv es):V.underkv k kv=true->MR M (bm.take k) st kv es:=by
 induction h with
 | nil=>exact fun _=>.nil
 | cons hk hs hx ho _ ih=>
  intro hb;simp only[V.underkv,V.underp,RC]at hb;exact .cons hk hs (hx.drop hb.1) ho (ih hb.2)
theorem MR.under{M:an}{bm:List Nat}{st:Bool}{kv:List (Key×V)}{es:List MapEntry}(h:MR M bm st kv es):V.underkv bm.length kv=true:=by
 induction h with
 | nil=>rfl
 | cons hk hs hx ho _ ih=>simp only[V.underkv,V.underp,RC];exact⟨hx.under,ih⟩
def aj(k:Nat)(σ:LLV):Bool:=σ.all fun cs=>V.unders k cs
def ao(k:Nat)(ρ:ah):Bool:=ρ.all fun p=>V.under k p.2
section
variable {C : Cx} {M : an} {bm : List Nat} {tk : bP} {pr : Prot} {ρ : ah} {σ : LLV} {n : Nat} {a : Act} {w : World} {K : ah -> LLV -> Prop} {Q : AEx -> ah -> LLV -> Prop}
theorem Inv.drop(h:Inv M bm σ tk pr w){k:Nat}(hb:aj k (σ.take k)=true):Inv M (bm.take k) (σ.take k) tk pr w:=by
 refine⟨h.facts,by simp[h.len],fun i b cs hi hc=>?_,fun b hb=>h.free b (Se hb),h.bmnd.sublist (List.take_sublist _ _),fun i j g hg=>?_,h.inj,h.prlt⟩
 .have hik:i<k:=by have:=(List.getElem?_eq_some_iff.1 hi).1;simp at this;omega
  have hmem:=List.mem_of_getElem? hc;rw[R7 hik]at hi hc;have hbl:V.unders k cs=true:=List.all_eq_true.1 hb cs hmem;rcases h.box i b cs hi hc with⟨vs,T,h1,h2,h3⟩|⟨st,kv,es,clock,rfl,h1,h2,h3⟩|h1;case inr.inr=>exact .inr (.inr h1)
  case inr.inl=>exact .inr (.inl ⟨st,kv,es,clock,rfl,h1,h2,h3.drop (by simpa[V.unders,V.under]using hbl)⟩)
  exact .inl ⟨vs,T,h1,h2,fun j g1 g2=>⟨⟨(h3 j g1 g2).1.rep.drop (V.unders_get hbl j g1),(h3 j g1 g2).1.own⟩,(h3 j g1 g2).2⟩⟩
 .obtain⟨t1,t2,t3⟩:=h.tok i j g hg;exact⟨t1,fun hm=>t2 (Se hm),t3⟩
theorem Inv.under(h:Inv M bm σ tk pr w):aj σ.length σ=true:=by
 rw[aj,RR];intro cs hcs;obtain⟨i,hi,rfl⟩:=RU hcs;rcases h.box i (bm[i]'(by rw[h.len];exact hi)) σ[i] (RP _) (RP _)with⟨vs,T,h1,h2,h3⟩|⟨st,kv,es,clock,e,h1,h2,h3⟩|⟨T,k,e,-⟩
 case inr.inr=>rw[e];simp[tyc,V.unders,V.under]
 case inr.inl=>rw[e];simp only[V.unders,V.under,RL];rw[<-h.len];exact h3.under
 refine V.unders_of fun j hj=>?_;rw[<-h.len];exact(h3 j hj (by omega)).1.rep.under
theorem Cm{k:Nat}(h:ao k ρ=true)(t:Nat):V.under k (get ρ t)=true:=by
 induction ρ with
 | nil=>rfl
 | cons p r ih=>
  obtain⟨s,u⟩:=p;simp only[ao,List.all_cons,RC]at h;simp only[get];split
  .exact h.1
  .exact ih h.2
theorem SRel.drop(h:SRel M bm tk pr ρ σ n a w){k:Nat}(h1:aj k (σ.take k)=true)(h2:ao k ρ=true):SRel M (bm.take k) tk pr ρ (σ.take k) n a w:=
 ⟨h.inv.drop h1,h.defers,h.size,fun t=>⟨(h.slots t).rep.drop (Cm h2 t),(h.slots t).own⟩⟩
theorem Later.drop{M':an}{bm':List Nat}{w':World}(h:Later M bm pr w M' bm' w'){k:Nat}(hk:bm.length≤k):Later M bm pr w M' (bm'.take k) w':=by
 obtain⟨t,ht⟩:=h.pre;exact⟨h.le,⟨t.take (k-bm.length),by rw[ht,List.take_append,List.take_of_length_le hk]⟩,h.keep,h.facts,h.os,h.tape,h.output,h.size⟩
theorem Oper.wp_mono2{P:Program}{o:Oper}{a:Act}{w:World}{K K':Act->World->Prop}{Q Q':Exit->Act->World->Prop}(h1:∀a w,K a w->K' a w)(h2:∀e a w,Q e a w->Q' e a w)(hh:o.wp P a w K Q):o.wp P a w K' Q':=by
 unfold Oper.wp at *;generalize (execOp a.eval o).run P w=r at *;cases r with
 | ok n w'=>
  cases n<;>simp only[Oper.upon]at hh ⊢ <;>
   first
    | exact h1 _ _ hh
    | exact Calls.mono hh (fun e w'' he=>by
     cases e with
     | returned v=>exact h1 _ _ he
     | panicked c=>exact h2 _ _ _ he
     | outgrown=>obtain⟨a,w,hq⟩:=he;exact⟨a,w,h2 _ _ _ hq⟩)
    | exact Rows.mono hh (fun _ _ he=>h1 _ _ he)
    | exact hh
 | halt x w'=>cases x<;>simp only[Oper.upon]at hh ⊢ <;>first|exact h2 _ _ _ hh|exact hh
theorem ic(h:SRel M bm tk pr ρ σ n a w){ops:Array Oper}{t j:Nat}{b:Bool}(hg:get ρ t=.d (.lit (.bool b)))(hj:(match ops[j]? with|some q=>q.dst==some t|none=>false)=true):yielded ops a.tmps j=some b:=by
 split at hj
 .rename_i q hq;have hq2:q.dst=some t:=by simpa using hj
  have hr:=(h.slots t).rep;rw[hg]at hr;have hv:=hr.bool_inv;unfold yielded;rw[hq];simp only[Sx,hq2];cases ht:a.tmps[t]? with
  | none=>
   simp only[Rs,ht,Option.getD_none]at hv;cases hv
  | some v=>
   simp only[Rs,ht,Su]at hv;subst hv;rfl
 .cases hj
theorem jt{M:an}{bm:List Nat}:Rep M bm (.tup []) undef:=.tup (vs:=[]) rfl fun i h=>by simp at h
theorem kP(h:SRel M bm tk pr ρ σ n a w){ops:Array Oper}{t j:Nat}(hg:get ρ t=.tup [])(hj:(match ops[j]? with|some q=>q.dst==some t|none=>false)=true):yielded ops a.tmps j=none:=by
 split at hj
 .rename_i q hq;have hq2:q.dst=some t:=by simpa using hj
  have hr:=(h.slots t).rep;rw[hg]at hr;unfold yielded;rw[hq];simp only[Sx,hq2];cases ht:a.tmps[t]? with
  | none=>rfl
  | some v=>
   simp only[Rs,ht,Su]at hr;cases hr with
   | tup _ _=>rfl
 .cases hj
theorem SRel.know(h:SRel M bm tk pr ρ σ n a w){t:Nat}{b:Bool}(hb:get ρ t=.d (.lit (.bool b))){c:Bool}(hc:b=c):SRel M bm tk pr (put ρ t (.d (.lit (.bool c)))) σ n a w:=
 ⟨h.inv,h.defers,h.size,fun s=>by
   rw[cr];split
   .rename_i e;subst e;subst hc;rw[<-hb];exact h.slots s
   .exact h.slots s⟩
theorem fV{M0:an}{bm0:List Nat}{w0:World}(hG:C.glob M0 pr w0){ops:Array Oper}:∀{l:List O} {l':List Oper} {M:an} {bm:List Nat} {tk:bP} {ρ:ah} {σ:LLV} {a:Act} {w:World},
 fQ C.tab n ops l l'=true->Later M0 bm0 pr w0 M bm w->SRel M bm tk pr ρ σ n a w->dl C l ρ σ Q->wpList C.P ops (bC M0 bm0 pr w0 n Q) l' a w
 | [],[],M,bm,tk,ρ,σ,a,w,_,hl,h,hq=>⟨M,bm,tk,ρ,σ,_,hq,.normal,h,hl⟩
 | o::r,o'::r',M,bm,tk,ρ,σ,a,w,hok,hl,h,hq=>by
  simp only[fQ,RC]at hok;obtain⟨h1,h2⟩:=hok;have hG':=hG.mono hl
  have step:∀{ρ:ah},SRel M bm tk pr ρ σ n a w->fS C o.op o.dst ρ σ (fun ρ' σ'=>dl C r ρ' σ' Q) Q->o'.wp C.P a w (wpList C.P ops (bC M0 bm0 pr w0 n Q) r') (bC M0 bm0 pr w0 n Q):=fun h hr=>by
   refine Oper.wp_mono2 (fun a' w' hL=>?_) (fun e a' w' hL=>hL.trans hl) (cy hG' h h1 hr);obtain⟨M',bm',tk',ρ',σ',k1,k2,k3⟩:=hL;exact fV hG h2 (hl.trans k3 (fun _ h=>h)) k2 k1
  have hgd:∀g,o.g=g->(match g,o'.guard with
   | none,none=>true
   | some (t,b),some (j,b')=>b==b'&&(match ops[j]? with|some q=>q.dst==some t|none=>false)
   | _,_=>false)=true:=fun g hg=>by
   subst hg;unfold okO at h1;simp only[RC]at h1;exact h1.2
  have hdst:o.dst=o'.dst:=by
   unfold okO at h1;simp only[RC,beq_iff_eq]at h1;exact h1.1.1.2
  have hdn:∀d,o'.dst=some d->d<n:=by
   unfold okO at h1;simp only[RC]at h1;intro d hd;have:=h1.1.2;rw[hd]at this;simpa using this
  unfold wpList;simp only[dl]at hq;split at hq
  .rename_i hg;have:=hgd none hg;split at this
   .rename_i hg2;rw[if_pos (by simp[Region.wanted,hg2])];exact .inl (step h hq)
   .rename_i e _;cases e
   .cases this
  .rename_i t want hg;have:=hgd _ hg;split at this
   .rename_i e _;cases e
   .rename_i t' b' j b'' e hg2;cases e;simp only[RC,beq_iff_eq]at this;obtain⟨rfl,hj⟩:=this;split at hq
    .rename_i b hb;have hy:=ic h hb hj;by_cases hbw:b=want
     .rw[if_pos (by simp[Region.wanted,hg2,hy,hbw])];exact .inl (step (h.know hb hbw) (hq.1 hbw))
     .rw[if_neg (by simp[Region.wanted,hg2,hy,hbw])];have:=hq.2 hbw;rw[hdst]at this;exact fV hG h2 hl ((h.know hb (c:=!want) (by cases b<;>cases want<;>simp_all)).putd hdn jt (by simp)) this
    .rename_i hb;have hy:=kP h hb hj;rw[if_neg (by simp[Region.wanted,hg2,hy])];rw[hdst]at hq;exact fV hG h2 hl (h.putd hdn jt (by simp)) hq
    .exact hq.elim
   .cases this
 | [],_::_,_,_,_,_,_,_,_,hok,_,_,_=>by cases hok
 | _::_,[],_,_,_,_,_,_,_,hok,_,_,_=>by cases hok
end
end Go.Proofs.YthekkgfmagliiaaGreatDoor
namespace Go.Proofs.YthekkgfmagliiaaGreatDoor
open Go.RowKit
def X.slots:X->List Nat
 | .t n=>[n]
 | _=>[]
def OP.slots:OP->List Nat
 | .mv x | .un _ x | .conv _ x | .cbs x | .nilck x | .fa _ x | .fld _ _ _ x | .len _ x | .ext x _ | .load _ _ x | .mki _ x | .tas _ _ x=>x.slots
 | .pick c a b=>c.slots++(a.slots++b.slots)
 | .nif _ x=>x.slots
 | .bin _ x y | .binb _ x y | .ia _ x y | .ix x y | .mx _ x y=>x.slots++y.slots
 | .bld _ ps=>ps.flatMap fun p=>p.2.2.slots
 | .sub _ _ x lo hi=>x.slots++(lo.toList++hi.toList).flatMap X.slots
 | .mkfn _ cap=>cap.flatMap X.slots
 | .mkbd _ first=>first.flatMap X.slots
 | .mks _ _ xs=>xs.flatMap X.slots
 | .call _ args=>args.flatMap X.slots
 | .callv x args=>x.slots++args.flatMap X.slots
 | .calln _ args=>args.flatMap X.slots
 | _=>[]
def bI(C:Cx)(op:OP)(ρ:ah)(σ:LLV)(k:V->Prop):Prop:=
 match op with
 | .call f args=>∃v,Fun C f (args.map fun x=>(ev C ρ x).lend) σ (fun o σ'=>o=.ret v/\σ'=σ)/\k v
 | .callv x args=>match ev C ρ x with
  | .fn f cap=>∃v,Fun C f ((args.map fun x=>(ev C ρ x).lend)++cap) σ (fun o σ'=>o=.ret v/\σ'=σ)/\k v
  | _=>False
 | .mks _ kk xs=>match fq (xs.map (ev C ρ))with
  | some rows=>rows.all (fun r=>r.length==kk)=true/\k (.d (.sl rows))
  | none=>False
 | .calln f args=>∃v,Fun C f (args.map fun x=>(ev C ρ x).copy) σ (fun o σ'=>o=.ret v/\σ'=σ)/\k v
 | op=>match cH op,pv C op ρ σ with
  | true,some v=>k v
  | _,_=>False
def aS(C:Cx):List O->ah->LLV->(ah->Prop)->Prop
 | [],ρ,_,K=>K ρ
 | o::r,ρ,σ,K=>match o.g with
  | none=>bI C o.op ρ σ fun v=>aS C r (putd ρ o.dst v) σ K
  | some (t,want)=>match get ρ t with
   | .d (.lit (.bool b))=>(b=want->bI C o.op (put ρ t (.d (.lit (.bool want)))) σ fun v=>aS C r (putd (put ρ t (.d (.lit (.bool want)))) o.dst v) σ K)/\(b≠want->aS C r (putd (put ρ t (.d (.lit (.bool (!want))))) o.dst (.tup [])) σ K)
   | .tup []=>aS C r (putd ρ o.dst (.tup [])) σ K
   | _=>False
def az:List (Option Nat×V×Bool)->ah->ah
 | [],ρ=>ρ
 | (d,x,b)::r,ρ=>az r (if b then putd ρ d x else ρ)
theorem cz(ρ:ah)(d:Option Nat)(x:V)(t:Nat):get (putd ρ d x) t=if d=some t then x else get ρ t:=by
 cases d with
 | none=>simp[putd]
 | some d=>simp only[putd,cr,Option.some.injEq];split<;>split<;>first|rfl|omega
theorem gx:∀(l:List (Option Nat×V×Bool)) (ρ ρ':ah) (t:Nat),get ρ t=get ρ' t->get (az l ρ) t=get (az l ρ') t
 | [],_,_,_,h=>h
 | (d,x,b)::r,ρ,ρ',t,h=>by
  simp only[az];apply gx r;cases b
  .exact h
  .simp only[if_true,cz];split
   .rfl
   .exact h
theorem cQ:∀(l l':List (Option Nat×V×Bool)) (ρ:ah) (t:Nat),l.length=l'.length->(∀i (h:i<l.length) (h':i<l'.length),l[i].1=l'[i].1/\l[i].2.1=l'[i].2.1/\(l[i].1=some t->l[i].2.2=l'[i].2.2))->get (az l ρ) t=get (az l' ρ) t
 | [],[],_,_,_,_=>rfl
 | (d,x,b)::r,(d',x',b')::r',ρ,t,hl,h=>by
  simp only[az];obtain⟨h1,h2,h3⟩:=h 0 (by simp) (by simp);simp only[List.getElem_cons_zero]at h1 h2 h3;subst h1;subst h2;have hr:=fun ρ=>cQ r r' ρ t (by simpa using hl) (fun i g1 g2=>h (i+1) (by simpa using g1) (by simpa using g2));by_cases e:d=some t
  .rw[h3 e];exact hr _
  .rw[<-hr];apply gx;cases b<;>cases b'<;>simp[cz,e]
 | [],_::_,_,_,hl,_=>by simp at hl
 | _::_,[],_,_,hl,_=>by simp at hl
theorem em:∀(l:List (Option Nat×V×Bool)) (ρ:ah) (t:Nat),(∀p∈l,p.1=some t->p.2.2=false)->get (az l ρ) t=get ρ t
 | [],_,_,_=>rfl
 | (d,x,b)::r,ρ,t,h=>by
  simp only[az];rw[em r _ t (fun p hp=>h p (by simp[hp]))];cases b
  .rfl
  .simp only[if_true,cz];split
   .rename_i e;have:=h (d,x,true) (by simp) e;cases this
   .rfl
theorem fU:∀(l l':List (Option Nat×V×Bool)) (ρ:ah),az (l++l') ρ=az l' (az l ρ)
 | [],_,_=>rfl
 | (d,x,b)::r,l',ρ=>by simp only[Sf,az];exact fU r l' _
theorem iW(l:List (Option Nat×V×Bool))(ρ:ah)(i:Nat)(h:i<l.length)(t:Nat)(hd:l[i].1=some t)(hb:l[i].2.2=true)(hn:∀j (hj:j<l.length),i<j->l[j].1=some t->l[j].2.2=false):get (az l ρ) t=l[i].2.1:=by
 have e:az l ρ=az (l.take i++(l[i]::l.drop (i+1))) ρ:=by rw[List.getElem_cons_drop,List.take_append_drop]
 rw[e,fU];generalize az (l.take i) ρ=ρ1;generalize hli:l[i]=p at hd hb;obtain⟨d,x,b⟩:=p;simp only at hd hb;subst hd;subst hb;simp only[az,if_true];rw[em]
 .simp[cz]
 .intro p hp hpt;obtain⟨j,hj,rfl⟩:=RU hp;simp only[List.getElem_drop]at hpt ⊢;exact hn (i+1+j) (by simp at hj;omega) (by omega) hpt
def O.looks(o:O):List Nat:=o.op.slots++(match o.g with|some (t,_)=>[t]|none=>[])
def aW(o:Oper):List Nat:=(o.after.toList.filter fun e=>Region.binds .any e).map (·.on)
def aY:List Oper->List (List Nat)->List (List Nat)
 | [],acc=>acc
 | o::r,acc=>aY r (acc++[aW o++(aW o).flatMap fun j=>acc.getD j []])
def qB(l:List O)(os:List Oper):Bool:=
 let bf:=aY os []
 (RY os.length).all fun i=>
   (match os[i]? with|some o=>(aW o).all fun j=>decide (j<i)|none=>true) &&
   (match l[i]? with
   | some o=>(o.looks++o.dst.toList).all fun t=>(RY l.length).all fun j=>j==i||(match l[j]? with
    | some p=>p.dst != some t||(if j<i then(bf.getD i []).contains j else(bf.getD j []).contains i)
    | none=>true)
   | none=>true)
def ax:List O->List V->Nat->(Nat->Bool)->List (Option Nat×V×Bool)
 | o::l,x::xs,k,S=>(o.dst,x,S k)::ax l xs (k+1) S
 | _,_,_,_=>[]
theorem fL:∀(l:List O) (xs:List V) (k:Nat) (S:Nat->Bool),xs.length=l.length->(ax l xs k S).length=l.length
 | [],[],_,_,_=>rfl
 | o::l,x::xs,k,S,h=>by simp only[ax,R6];rw[fL l xs (k+1) S (by simpa using h)]
 | [],_::_,_,_,h=>by simp at h
 | _::_,[],_,_,h=>by simp at h
theorem d9:∀(l:List O) (xs:List V) (k:Nat) (S:Nat->Bool) (i:Nat) (h:i<(ax l xs k S).length) (h1:i<l.length) (h2:i<xs.length),(ax l xs k S)[i]=(l[i].dst,xs[i],S (k+i))
 | o::l,x::xs,k,S,0,h,h1,h2=>rfl
 | o::l,x::xs,k,S,i+1,h,h1,h2=>by
  have:=d9 l xs (k+1) S i (by simpa[ax]using h) (by simpa using h1) (by simpa using h2);simp only[ax,Sd];rw[this,show k+1+i=k+(i+1)by omega]
def Loc(C:Cx)(o:O)(ρ:ah)(σ:LLV)(x:V):Prop:=
 match o.g with
 | none=>bI C o.op ρ σ fun v=>v=x
 | some (t,want)=>match get ρ t with
  | .d (.lit (.bool b))=>(b=want->bI C o.op ρ σ fun v=>v=x)/\(b≠want->x=.tup [])
  | .tup []=>x=.tup []
  | _=>False
section
variable {C : Cx} {pr : Prot} {σ : LLV} {n : Nat} {Q : AEx -> ah -> LLV -> Prop}
theorem fN{op:OP}{ρ:ah}{k:V->Prop}(h:bI C op ρ σ k):∃v,bI C op ρ σ (fun u=>u=v)/\k v:=by
 unfold bI at h;split at h
 .obtain⟨v,h1,h2⟩:=h;exact⟨v,by simp only[bI];exact⟨v,h1,rfl⟩,h2⟩
 .rename_i x args;split at h
  .rename_i f cap e;obtain⟨v,h1,h2⟩:=h;exact⟨v,by simp only[bI,e];exact⟨v,h1,rfl⟩,h2⟩
  .exact h.elim
 .split at h
  .rename_i rows e;obtain⟨h1,h2⟩:=h;exact⟨_,by simp only[bI,e];exact⟨h1,trivial⟩,h2⟩
  .exact h.elim
 .obtain⟨v,h1,h2⟩:=h;exact⟨v,by simp only[bI];exact⟨v,h1,rfl⟩,h2⟩
 .rename_i n1 n2 n3 n4;split at h
  .rename_i v hp e;refine⟨v,?_,h⟩;unfold bI;split
   .exact absurd rfl (n1 _ _)
   .exact absurd rfl (n2 _ _)
   .exact absurd rfl (n3 _ _ _)
   .exact absurd rfl (n4 _ _)
   .rw[hp,e]
  .exact h.elim
theorem bT{ρ ρ':ah}{x:X}(h:∀t∈x.slots,get ρ t=get ρ' t):ev C ρ x=ev C ρ' x:=by
 cases x with
 | t n=>exact h n (by simp[X.slots])
 | k v=>rfl
 | g n=>rfl
theorem kg{ρ ρ':ah}{xs:List X}(h:∀t∈xs.flatMap X.slots,get ρ t=get ρ' t):xs.map (ev C ρ)=xs.map (ev C ρ'):=
 RW fun x hx=>bT fun t ht=>h t (List.mem_flatMap.2 ⟨x,hx,ht⟩)
theorem tu{ρ ρ':ah}:∀{ps:List (Nat×Nat×X)} {cs:List V},(∀t∈ps.flatMap (fun p=>p.2.2.slots),get ρ t=get ρ' t)->lV (ev C ρ) cs ps=lV (ev C ρ') cs ps
 | [],cs,_=>rfl
 | (off,k,x)::ps,cs,h=>by
  have e:ev C ρ x=ev C ρ' x:=bT fun t ht=>h t (by simp[ht]);simp only[lV,e];have:=fun cs=>tu (ps:=ps) (cs:=cs) (fun t ht=>h t (by simp only[List.flatMap_cons,Sa];exact .inr ht));split
  .split<;>first|rfl|exact this _
  .rfl
theorem FV{ρ ρ':ah}{op:OP}(h:∀t∈op.slots,get ρ t=get ρ' t):pv C op ρ σ=pv C op ρ' σ:=by
 have two:∀{x y:X},(∀t∈x.slots++y.slots,get ρ t=get ρ' t)->ev C ρ x=ev C ρ' x/\ev C ρ y=ev C ρ' y:=fun h=>
  ⟨bT fun t ht=>h t (by simp[ht]),bT fun t ht=>h t (by simp[ht])⟩
 cases op<;>simp only[OP.slots]at h<;>simp only[pv]
 case pick c a b=>
  have e1:ev C ρ c=ev C ρ' c:=bT fun t ht=>h t (by simp[ht]);have e2:ev C ρ a=ev C ρ' a:=bT fun t ht=>h t (by simp[ht]);have e3:ev C ρ b=ev C ρ' b:=bT fun t ht=>h t (by simp[ht]);rw[e1,e2,e3]
 case bin o x y=>rw[(two h).1,(two h).2]
 case binb o x y=>rw[(two h).1,(two h).2]
 case ia k x y=>rw[(two h).1,(two h).2]
 case ix x y=>rw[(two h).1,(two h).2]
 case mx g x y=>rw[(two h).1,(two h).2]
 case bld zs ps=>rw[tu h]
 case mkfn f cap=>rw[kg h]
 case mkbd f first=>rw[kg h]
 case sub s k x lo hi=>
  have e1:ev C ρ x=ev C ρ' x:=bT fun t ht=>h t (by simp[ht])
  have e2:lo.map (ev C ρ)=lo.map (ev C ρ'):=by
   cases lo with
   | none=>rfl
   | some y=>simp only[Sw];rw[bT fun t ht=>h t (by simp[ht])]
  have e3:hi.map (ev C ρ)=hi.map (ev C ρ'):=by
   cases hi with
   | none=>rfl
   | some y=>simp only[Sw];rw[bT fun t ht=>h t (by simp[ht])]
  rw[e1,e2,e3]
 all_goals first
  | rfl
  | rw[bT h]
theorem ji{ρ ρ':ah}{op:OP}{k:V->Prop}(h:∀t∈op.slots,get ρ t=get ρ' t)(hc:bI C op ρ σ k):bI C op ρ' σ k:=by
 unfold bI at hc;split at hc
 .rename_i f args;have e:(args.map fun x=>(ev C ρ x).lend)=args.map fun x=>(ev C ρ' x).lend:=RW fun x hx=>by rw[bT fun t ht=>h t (List.mem_flatMap.2 ⟨x,hx,ht⟩)]
  rw[e]at hc;exact hc
 .rename_i x args;simp only[OP.slots]at h;have e:(args.map fun x=>(ev C ρ x).lend)=args.map fun x=>(ev C ρ' x).lend:=RW fun x hx=>by rw[bT fun t ht=>h t (Sb _ (List.mem_flatMap.2 ⟨x,hx,ht⟩))]
  have e2:ev C ρ x=ev C ρ' x:=bT fun t ht=>h t (by simp[ht]);rw[e,e2]at hc;exact hc
 .rename_i T kk xs;rw[kg (C:=C) h]at hc;exact hc
 .rename_i f args;have e:(args.map fun x=>(ev C ρ x).copy)=args.map fun x=>(ev C ρ' x).copy:=RW fun x hx=>by rw[bT fun t ht=>h t (List.mem_flatMap.2 ⟨x,hx,ht⟩)]
  rw[e]at hc;exact hc
 .rename_i n1 n2 n3 n4;rw[FV h]at hc;unfold bI;split
  .exact absurd rfl (n1 _ _)
  .exact absurd rfl (n2 _ _)
  .exact absurd rfl (n3 _ _ _)
  .exact absurd rfl (n4 _ _)
  .exact hc
theorem Loc.congr{ρ ρ':ah}{o:O}{x:V}(h:∀t∈o.looks,get ρ t=get ρ' t)(hc:Loc C o ρ σ x):Loc C o ρ' σ x:=by
 unfold O.looks at h;unfold Loc at hc ⊢;split at hc
 .rename_i hg;rw[hg]at h;exact ji (fun t ht=>h t (by simp[ht])) hc
 .rename_i t want hg;rw[hg]at h;have e:get ρ t=get ρ' t:=h t (by simp);rw[e]at hc;split at hc
  .rename_i b hb;exact⟨fun hw=>ji (fun t ht=>h t (by simp[ht])) (hc.1 hw),hc.2⟩
  .exact hc
  .exact hc.elim
theorem jd:∀{l:List O} {ρ:ah} {k:Nat} {K:ah->Prop},aS C l ρ σ K->
 ∃xs:List V,xs.length=l.length/\(∃ρ',K ρ'/\∀t,get ρ' t=get (az (ax l xs k fun _=>true) ρ) t)/\
  ∀i (h:i<l.length) (h':i<xs.length),∃ρi,Loc C l[i] ρi σ xs[i]/\∀t,get ρi t=get (az (ax l xs k fun j=>decide (j<k+i)) ρ) t
 | [],ρ,k,K,h=>⟨[],rfl,⟨ρ,h,fun _=>rfl⟩,fun i h=>by simp at h⟩
 | o::r,ρ,k,K,h=>by
  have key:∀x ρ2,(∀t,get ρ2 t=get ρ t)->Loc C o ρ σ x->aS C r (putd ρ2 o.dst x) σ K->∃xs:List V,xs.length=(o::r).length/\(∃ρ',K ρ'/\∀t,get ρ' t=get (az (ax (o::r) xs k fun _=>true) ρ) t)/\
   ∀i (h:i<(o::r).length) (h':i<xs.length),∃ρi,Loc C (o::r)[i] ρi σ xs[i]/\∀t,get ρi t=get (az (ax (o::r) xs k fun j=>decide (j<k+i)) ρ) t:=by
   intro x ρ2 h2e hx hr;obtain⟨xs,h1,⟨ρ',h2,h3⟩,h4⟩:=jd (k:=k+1) hr;have hput:∀t,get (putd ρ2 o.dst x) t=get (putd ρ o.dst x) t:=fun t=>by rw[cz,cz,h2e]
   refine⟨x::xs,by simp[h1],⟨ρ',h2,fun t=>?_⟩,fun i hi hi'=>?_⟩
   .simp only[ax,az,if_true];rw[h3 t];exact gx _ _ _ _ (hput t)
   .cases i with
    | zero=>
     refine⟨ρ,hx,fun t=>?_⟩;rw[em];intro p hp _;obtain⟨j,hj,rfl⟩:=RU hp;have hl:=fL (o::r) (x::xs) k (fun j=>decide (j<k+0)) (by simp[h1]);rw[hl]at hj;rw[d9 _ _ _ _ _ (by rw[hl];exact hj) hj (by simp[h1];simpa using hj)];simp
    | succ i=>
     obtain⟨ρi,g1,g2⟩:=h4 i (by simpa using hi) (by simpa using hi');refine⟨ρi,g1,fun t=>?_⟩;simp only[ax,az];rw[if_pos (by simp),g2 t,show k+1+i=k+(i+1)by omega];exact gx _ _ _ _ (hput t)
  have know:∀{t:Nat} {b c:Bool},get ρ t=.d (.lit (.bool b))->b=c->∀s,get (put ρ t (.d (.lit (.bool c)))) s=get ρ s:=fun hb hc s=>by
   rw[cr];split
   .rename_i e;subst e;subst hc;exact hb.symm
   .rfl
  simp only[aS]at h;split at h
  .rename_i hg;obtain⟨v,h1,h2⟩:=fN h;exact key v ρ (fun _=>rfl) (by unfold Loc;rw[hg];exact h1) h2
  .rename_i t want hg;split at h
   .rename_i b hb;by_cases e:b=want
    .obtain⟨v,h1,h2⟩:=fN (h.1 e);exact key v _ (know hb e) (by unfold Loc;rw[hg];simp only;rw[hb];exact⟨fun _=>ji (fun s _=>know hb e s) h1,fun ne=>absurd e ne⟩) h2
    .exact key (.tup []) _ (know hb (c:=!want) (by cases b<;>cases want<;>simp_all)) (by unfold Loc;rw[hg];simp only;rw[hb];exact⟨(fun ee=>absurd ee e),(fun _=>by trivial)⟩) (h.2 e)
   .rename_i hb;exact key (.tup []) ρ (fun _=>rfl) (by unfold Loc;rw[hg];simp only;rw[hb];trivial) h
   .exact h.elim
end
end Go.Proofs.YthekkgfmagliiaaGreatDoor
namespace Go.Proofs.YthekkgfmagliiaaGreatDoor
open Go.RowKit
theorem pj:∀(os:List Oper) (acc:List (List Nat)),(aY os acc).length=acc.length+os.length/\∀i,i<acc.length->(aY os acc)[i]? = acc[i]?
 | [],acc=>⟨rfl,fun _ _=>rfl⟩
 | o::r,acc=>by
  obtain⟨h1,h2⟩:=pj r (acc++[aW o++(aW o).flatMap fun j=>acc.getD j []]);simp only[aY];refine⟨by rw[h1];simp;omega,fun i hi=>?_⟩;rw[h2 i (by simp;omega),RS hi]
theorem zO(os:List Oper):∀(acc:List (List Nat)) (i:Nat) (o:Oper),os[i]? = some o->∃pre:List (List Nat),(aY os acc)[acc.length+i]? = some (aW o++(aW o).flatMap fun j=>pre.getD j [])/\∀j,j<acc.length+i->pre[j]? = (aY os acc)[j]? := by
 induction os with
 | nil=>intro acc i o h;simp at h
 | cons o' r ih=>
  intro acc i o h;simp only[aY];cases i with
  | zero=>
   simp at h;subst h;obtain⟨h1,h2⟩:=pj r (acc++[aW o'++(aW o').flatMap fun j=>acc.getD j []]);refine⟨acc,?_,fun j hj=>?_⟩
   .rw[h2 _ (by simp)];rw[RQ (by simp)];simp
   .rw[h2 j (by simp;omega),RS (by omega)]
  | succ i=>
   obtain⟨pre,h1,h2⟩:=ih (acc++[aW o'++(aW o').flatMap fun j=>acc.getD j []]) i o (by simpa using h);rw[List.length_append,List.length_singleton]at h1 h2;rw[show acc.length+(i+1)=acc.length+1+i by omega];exact⟨pre,h1,h2⟩
theorem bO{os:List Oper}(hlt:∀(i:Nat) (o:Oper),os[i]? = some o->∀j∈aW o,j<i){S:Nat->Prop}(hcl:∀(i:Nat) (o:Oper),os[i]? = some o->S i->∀j∈aW o,S j):
 ∀(i:Nat) (o:Oper),os[i]? = some o->(∀j∈aW o,S j)->∀j∈(aY os []).getD i [],S j:=by
 intro i
 induction i using So with
 | _ i ih=>
 intro o ho he j hj;obtain⟨pre,h1,h2⟩:=zO os [] i o ho;simp only[Si,Sl]at h1 h2;rw[R9,h1,Su]at hj;rcases List.mem_append.1 hj with hj|hj
 .exact he j hj
 .obtain⟨e,g1,g2⟩:=List.mem_flatMap.1 hj;have hei:=hlt i o ho e g1;rw[R9,h2 e hei,<-R9]at g2;have hlen:e<os.length:=by have:=(List.getElem?_eq_some_iff.1 ho).1;omega
  exact ih e hei os[e] (RP hlen) (hcl e _ (RP hlen) (he e g1)) j g2
theorem ve{l:List O}{os:List Oper}(hl:l.length=os.length)(h:qB l os=true):
 (∀(i:Nat) (o:Oper),os[i]? = some o->∀j∈aW o,j<i)/\
 ∀(i:Nat) (o:O),l[i]? = some o->∀t∈o.looks++o.dst.toList,∀(j:Nat) (p:O),l[j]? = some p->p.dst=some t->j≠i->(j<i/\j∈(aY os []).getD i [])\/(i<j/\i∈(aY os []).getD j []):=by
 unfold qB at h;simp only[RR,RZ,RC]at h;refine⟨fun i o ho j hj=>?_,fun i o ho t ht j p hp hd hne=>?_⟩
 .have:=(h i (List.getElem?_eq_some_iff.1 ho).1).1;rw[ho]at this;simpa using List.all_eq_true.1 this j hj
 .have h1:=(h i (by rw[<-hl];exact(List.getElem?_eq_some_iff.1 ho).1)).2;rw[ho]at h1;simp only[RR,RZ]at h1;have h2:=h1 t ht j (List.getElem?_eq_some_iff.1 hp).1;rw[hp]at h2;simp only[hd,RE,beq_iff_eq,bne_self_eq_false,RF,false_or]at h2;rcases h2 with h2|h2
  .exact absurd h2 hne
  .split at h2
   .exact .inl ⟨by assumption,by simpa using h2⟩
   .exact .inr ⟨by omega,by simpa using h2⟩
theorem g9{tab:Tab}{n:Nat}{ops:Array Oper}:∀{l:List O} {os:List Oper},fQ tab n ops l os=true->l.length=os.length/\∀(i:Nat) (o:O) (o':Oper),l[i]? = some o->os[i]? = some o'->okO tab n ops o o'=true
 | [],[],_=>⟨rfl,fun i o o' h=>by simp at h⟩
 | o::l,o'::os,h=>by
  simp only[fQ,RC]at h;obtain⟨h1,h2⟩:=g9 h.2;refine⟨by simp[h1],fun i p p' hp hp'=>?_⟩;cases i with
  | zero=>simp at hp hp';subst hp;subst hp';exact h.1
  | succ i=>exact h2 i p p' (by simpa using hp) (by simpa using hp')
 | [],_::_,h=>by cases h
 | _::_,[],h=>by cases h
section
variable {C : Cx} {pr : Prot} {ρ : ah} {σ : LLV} {n : Nat} {Q : AEx -> ah -> LLV -> Prop}
theorem SRel.congr{M:an}{bm:List Nat}{tk:bP}{ρ ρ':ah}{a:Act}{w:World}(h:SRel M bm tk pr ρ σ n a w)(he:∀t,get ρ' t=get ρ t):SRel M bm tk pr ρ' σ n a w:=
 ⟨h.inv,h.defers,h.size,fun t=>by rw[he];exact h.slots t⟩
theorem m3{op:OP}{ρ:ah}{x:V}{dst:Option Nat}(h:bI C op ρ σ fun v=>v=x):fS C op dst ρ σ (fun ρ' σ'=>ρ'=putd ρ dst x/\σ'=σ) (fun _ _ _=>False):=by
 unfold bI at h;split at h
 .obtain⟨v,h1,rfl⟩:=h;exact h1.mono fun o σ' ⟨e1,e2⟩=>by subst e1;exact⟨rfl,e2⟩
 .split at h
  .rename_i f cap e;obtain⟨v,h1,rfl⟩:=h;simp only[fS,e];exact h1.mono fun o σ' ⟨e1,e2⟩=>by subst e1;exact⟨rfl,e2⟩
  .exact h.elim
 .split at h
  .rename_i rows e;obtain⟨h1,rfl⟩:=h;simp only[fS,e];exact⟨h1,trivial,trivial⟩
  .exact h.elim
 .obtain⟨v,h1,rfl⟩:=h;exact h1.mono fun o σ' ⟨e1,e2⟩=>by subst e1;exact⟨rfl,e2⟩
 .split at h
  .rename_i v hp e;subst h;cases op<;>simp only[cH]at hp<;>first|(cases hp;done)|skip
   all_goals
    unfold fS;simp only;rw[e];constructor<;>trivial
  .exact h.elim
theorem lO:∀(l:List Bool) (i:Nat),l[i]? = some false->((l.set i true).filter (! ·)).length+1=(l.filter (! ·)).length
 | b::l,0,h=>by simp at h;subst h;simp
 | b::l,i+1,h=>by
  have:=lO l i (by simpa using h);cases b<;>simp only[List.set_cons_succ,List.filter_cons]<;>simp<;>omega
theorem x3{M0:an}{bm0:List Nat}{w0:World}(hG:C.glob M0 pr w0){id:Nat}{ops:Array Oper}{l:List O}{M:an}{bm:List Nat}{tk:bP}{a:Act}{w:World}(hok:fQ C.tab n ops l ops.toList=true)(hdr:qB l ops.toList=true)
 (hl:Later M0 bm0 pr w0 M bm w)(h:SRel M bm tk pr ρ σ n a w)(hq:aS C l ρ σ fun ρ'=>Q .normal ρ' σ):(Code.region id ops true).wp C.P (bC M0 bm0 pr w0 n Q) a w:=by
 obtain⟨hlen,hget⟩:=g9 hok;obtain⟨hlt,hcmp⟩:=ve hlen hdr;obtain⟨xs,hxl,⟨ρf,hρf,hρe⟩,hloc⟩:=jd (k:=0) hq;have hnl:l.length=ops.size:=by rw[hlen];simp
 refine wp_region_any C.mixed ?_;have hsteps:∀S:Nat->Bool,(ax l xs 0 S).length=l.length:=fun S=>fL l xs 0 S hxl
 have hsg:∀(S:Nat->Bool) (i:Nat) (hi:i<(ax l xs 0 S).length) (h1:i<l.length),(ax l xs 0 S)[i]=(l[i].dst,xs[i]'(by omega),S i):=fun S i hi h1=>by
  have:=d9 l xs 0 S i hi h1 (by omega);simpa using this
 suffices H:∀(fuel:Nat) (listed:Array Bool) (M:an) (tk:bP) (a:Act) (w:World),Later M0 bm0 pr w0 M bm w->SRel M bm tk pr (az (ax l xs 0 fun i=>listed.getD i false) ρ) σ n a w->listed.size=l.length->
  (∀(i:Nat) (o:Oper),ops.toList[i]? = some o->listed.getD i false=true->∀j∈aW o,listed.getD j false=true)->(listed.toList.filter (! ·)).length=fuel->wpAny C.P .any ops (bC M0 bm0 pr w0 n Q) fuel listed a w by
  obtain⟨h1,h2⟩:=h.ext (eW.drew w);refine H ops.size (Ry ops.size false) M tk a w.drew (hl.trans h2 (fun _ h=>h)) (h1.congr fun t=>?_) (by simp[hnl]) (fun i o ho hi=>?_) (by simp)
  .rw[em];intro p hp _;obtain⟨j,hj,rfl⟩:=RU hp;rw[hsteps]at hj;rw[hsg _ j (by rw[hsteps];exact hj) hj];simp[Rs,RA];split<;>rfl
  .simp[Rs,RA]at hi;split at hi<;>cases hi
 intro fuel
 induction fuel with
 | zero=>
  intro listed M tk a w hl h hsz hcl hcnt
  have hall:∀i,i<l.length->listed.getD i false=true:=fun i hi=>by
   have hb:listed[i]? = some (listed[i]'(by omega)):=Ru _;rw[Rs,hb,Su];have hne:listed.toList.filter (! ·)=[]:=R8 hcnt;have:=List.filter_eq_nil_iff.1 hne (listed[i]'(by omega)) (by simp);simpa using this
  refine⟨?_,M,bm,tk,ρf,σ,.normal,hρf,.normal,h.congr (fun t=>?_),hl⟩
  .unfold Region.ready;rw[R5];intro i hi;have hi':i<l.length:=by rw[hnl];simpa using hi
   have h9:=hall i hi'
   have:listed.getD i true=true:=by
    have hb:listed[i]? = some (listed[i]'(by omega)):=Ru _;rw[Rs,hb,Su]at h9 ⊢;exact h9
   simp[this]
  .rw[hρe t];refine cQ _ _ ρ t (by rw[hsteps,hsteps]) (fun i g1 g2=>?_);rw[hsteps]at g1;rw[hsg _ i (by rw[hsteps];exact g1) g1,hsg _ i (by rw[hsteps];exact g1) g1];exact⟨rfl,rfl,fun _=>(hall i g1).symm⟩
 | succ fuel ih=>
  intro listed M tk a w hl h hsz hcl hcnt;refine⟨fun hnil=>?_,fun i hi=>?_⟩
  .exfalso
   have hex:∃i,i<l.length/\listed.getD i false=false:=by
    apply RO;intro hno
    have hne:listed.toList.filter (! ·)=[]:=by
     rw[R5];intro b hb;obtain⟨i,hi,rfl⟩:=RU hb;have hi':i<listed.size:=by simpa using hi
     have h9:¬listed.getD i false=false:=fun e=>hno ⟨i,by omega,e⟩;have hb:listed[i]? = some listed[i]:=Ru hi';rw[Rs,hb,Su]at h9;simpa using h9
    rw[hne]at hcnt;simp at hcnt
   have hmin:∃i,i<l.length/\listed.getD i false=false/\∀j,j<i->listed.getD j false=true:=by
    obtain⟨i,h1,h2⟩:=hex
    induction i using So with
    | _ i ihm=>
    by_cases hj:∃j,j<i/\listed.getD j false=false
    .obtain⟨j,g1,g2⟩:=hj;exact ihm j g1 (by omega) g2
    .exact⟨i,h1,h2,fun j hji=>by
      cases hb:listed.getD j false with
      | true=>rfl
      | false=>exact absurd ⟨j,hji,hb⟩ hj⟩
   obtain⟨i,h1,h2,h3⟩:=hmin;have hio:i<ops.toList.length:=by rw[<-hlen];exact h1
   have:i∈Region.ready .any ops listed:=by
    unfold Region.ready;rw[R0];refine⟨by simp;omega,?_⟩
    have ht:listed.getD i true=false:=by
     have hb:listed[i]? = some (listed[i]'(by omega)):=Ru _;rw[Rs,hb,Su]at h2 ⊢;exact h2
    have ho:ops[i]? = some (ops[i]'(by omega)):=Ru _;rw[ht,ho];simp only[RH,RJ,Sw,Su];rw[<-Rz,RR];intro e he;cases hb:Region.binds .any e with
    | false=>rfl
    | true=>
     have:e.on∈aW (ops[i]'(by omega)):=by
      unfold aW;exact List.mem_map.2 ⟨e,List.mem_filter.2 ⟨he,hb⟩,rfl⟩
     simp[h3 e.on (hlt i _ (by rw[RP hio];simp) e.on this)]
   rw[hnil]at this;cases this
  .unfold Region.ready at hi;rw[R0]at hi;obtain⟨hir,hic⟩:=hi;have hi1:i<ops.size:=by simpa using hir
   have hi2:i<l.length:=by omega
   have ho:ops[i]? = some ops[i]:=Ru hi1;have hoL:ops.toList[i]? = some ops[i]:=by rw[Rw];exact ho
   rw[ho]at hic;simp only[Sw,Su,RC,RG]at hic;obtain⟨hun,hed⟩:=hic
   have hun':listed[i]? = some false:=by
    have hb:listed[i]? = some (listed[i]'(by omega)):=Ru _;rw[Rs,hb,Su]at hun;rw[hb,hun]
   have hunf:listed.getD i false=false:=by rw[Rs,hun'];rfl
   have hedge:∀j∈aW ops[i],listed.getD j false=true:=by
    intro j hj;unfold aW at hj;obtain⟨e,he,rfl⟩:=List.mem_map.1 hj;rw[R0]at he;rw[<-Rz,RR]at hed;have:=hed e he.1;simpa[he.2]using this
   have hbef:=bO hlt (S:=fun j=>listed.getD j false=true) hcl i _ hoL hedge
   have hlist:∀j p,l[j]? = some p->listed.getD j false=true->∀q∈(aY ops.toList []).getD j [],listed.getD q false=true:=fun j p hj hjl=>by
    have hjo:j<ops.toList.length:=by rw[<-hlen];exact(List.getElem?_eq_some_iff.1 hj).1
    exact bO hlt (S:=fun j=>listed.getD j false=true) hcl j _ (RP hjo) (hcl j _ (RP hjo) hjl)
   have hsame:∀t∈l[i].looks++l[i].dst.toList,∀j (hj:j<l.length),j≠i->l[j].dst=some t->(listed.getD j false=decide (j<i)):=by
    intro t ht j hj hne hd;rcases hcmp i l[i] (RP hi2) t ht j l[j] (RP hj) hd hne with⟨g1,g2⟩|⟨g1,g2⟩
    .rw[hbef j g2];simp[g1]
    .have:¬listed.getD j false=true:=fun hjl=>by
      have:=hlist j l[j] (RP hj) hjl i g2;rw[hunf]at this;cases this
     have e:listed.getD j false=false:=by simpa using this
     rw[e];simp;omega
   obtain⟨ρi,hL,hρi⟩:=hloc i hi2 (by omega)
   have hgetL:∀t∈l[i].looks,get ρi t=get (az (ax l xs 0 fun i=>listed.getD i false) ρ) t:=by
    intro t ht;rw[hρi t];refine cQ _ _ ρ t (by rw[hsteps,hsteps]) (fun j g1 g2=>?_);rw[hsteps]at g1;rw[hsg _ j (by rw[hsteps];exact g1) g1,hsg _ j (by rw[hsteps];exact g1) g1];refine⟨rfl,rfl,fun hd=>?_⟩;simp only[Sl];by_cases e:j=i
    .subst e;rw[hunf];simp
    .exact(hsame t (by simp[ht]) j g1 e hd).symm
   have hL2:=hL.congr hgetL
   have hnext:∀t,get (az (ax l xs 0 fun j=>(listed.setIfInBounds i true).getD j false) ρ) t=get (putd (az (ax l xs 0 fun j=>listed.getD j false) ρ) l[i].dst (xs[i]'(by omega))) t:=by
    intro t
    have hset:∀j,(listed.setIfInBounds i true).getD j false=if j=i then true else listed.getD j false:=fun j=>by
     rw[Rs,Rs];split
     .rename_i e;subst e;rw[Rv (by omega)];rfl
     .rename_i e;rw[Rx (Ne.symm e)]
    rw[cz];split
    .rename_i e
     have:=iW (ax l xs 0 fun j=>(listed.setIfInBounds i true).getD j false) ρ i (by rw[hsteps];exact hi2) t (by rw[hsg _ i _ hi2];exact e) (by rw[hsg _ i _ hi2,hset];simp) (fun j hj hij hd=>by
      rw[hsteps]at hj;rw[hsg _ j _ hj]at hd ⊢;simp only at hd ⊢;rw[hset,if_neg (by omega),hsame t (by simp[e]) j hj (by omega) hd];simp;omega)
     rw[this,hsg _ i _ hi2]
    .rename_i e;refine cQ _ _ ρ t (by rw[hsteps,hsteps]) (fun j g1 g2=>?_);rw[hsteps]at g1;rw[hsg _ j (by rw[hsteps];exact g1) g1,hsg _ j (by rw[hsteps];exact g1) g1];refine⟨rfl,rfl,fun hd=>?_⟩;simp only at hd ⊢;rw[hset,if_neg (fun ee=>by subst ee;exact e hd)]
   have hnextcl:∀(q:Nat) (o:Oper),ops.toList[q]? = some o->(listed.setIfInBounds i true).getD q false=true->∀j∈aW o,(listed.setIfInBounds i true).getD j false=true:=by
    have hset:∀j,(listed.setIfInBounds i true).getD j false=if j=i then true else listed.getD j false:=fun j=>by
     rw[Rs,Rs];split
     .rename_i e;subst e;rw[Rv (by omega)];rfl
     .rename_i e;rw[Rx (Ne.symm e)]
    intro q o hqo hql j hj;rw[hset]at hql ⊢;split
    .rfl
    .split at hql
     .rename_i e;subst e;rw[hoL]at hqo;cases hqo;exact hedge j hj
     .exact hcl q o hqo hql j hj
   have hnextc:((listed.setIfInBounds i true).toList.filter (! ·)).length=fuel:=by
    have:=lO listed.toList i (by rw[Rw];exact hun');rw[RB];omega
   have hoo:=hget i l[i] ops[i] (RP hi2) hoL
   have hdst:l[i].dst=ops[i].dst:=by
    unfold okO at hoo;simp only[RC,beq_iff_eq]at hoo;exact hoo.1.1.2
   have hdn:∀d,ops[i].dst=some d->d<n:=by
    unfold okO at hoo;simp only[RC]at hoo;intro d hd;have:=hoo.1.2;rw[hd]at this;simpa using this
   have hgd:=hoo;unfold okO at hgd;simp only[RC]at hgd;replace hgd:=hgd.2
   have exec:bI C l[i].op (az (ax l xs 0 fun i=>listed.getD i false) ρ) σ (fun v=>v=xs[i]'(by omega))->(ops[i]).wp C.P a w (wpAny C.P .any ops (bC M0 bm0 pr w0 n Q) fuel (listed.setIfInBounds i true)) (bC M0 bm0 pr w0 n Q):=fun hc=>by
    refine Oper.wp_mono2 (fun a' w' hL=>?_) (fun e a' w' hL=>?_) (cy (hG.mono hl) h hoo (m3 hc))
    .obtain⟨M',bm',tk',ρ',σ',⟨rfl,rfl⟩,k2,k3⟩:=hL
     have hbm:bm'=bm:=by
      obtain⟨t,rfl⟩:=k3.pre;have e1:=k2.inv.len;have e2:=h.inv.len;have:t=[]:=R8 (by simp at e1;omega);simp[this]
     subst hbm;exact ih _ M' tk' a' w' (hl.trans k3 (fun _ h=>h)) (k2.congr hnext) (by simp[hsz]) hnextcl hnextc
    .obtain⟨_,_,_,_,_,_,hf,_⟩:=hL;exact hf.elim
   unfold wpOp;rw[ho];simp only;unfold Loc at hL2;split at hL2
   .rename_i hg;rw[hg]at hgd;split at hgd
    .rename_i hg2;rw[if_pos (by simp[Region.wanted,hg2])];exact .inl (exec hL2)
    .rename_i e _;cases e
    .cases hgd
   .rename_i t want hg;rw[hg]at hgd;split at hgd
    .rename_i e _;cases e
    .rename_i t' b' j b'' e hg2;cases e;simp only[RC,beq_iff_eq]at hgd;obtain⟨rfl,hj⟩:=hgd;split at hL2
     .rename_i b hb;have hy:=ic h hb hj;by_cases hbw:b=want
      .rw[if_pos (by simp[Region.wanted,hg2,hy,hbw])];exact .inl (exec (hL2.1 hbw))
      .rw[if_neg (by simp[Region.wanted,hg2,hy,hbw])];have hx:=hL2.2 hbw;refine ih _ M tk _ w hl ((h.putd hdn jt (by simp)).congr fun t=>?_) (by simp[hsz]) hnextcl hnextc;rw[hnext t,hx,hdst]
     .rename_i hb;have hy:=kP h hb hj;rw[if_neg (by simp[Region.wanted,hg2,hy])];refine ih _ M tk _ w hl ((h.putd hdn jt (by simp)).congr fun t=>?_) (by simp[hsz]) hnextcl hnextc;rw[hnext t,hL2,hdst]
     .exact hL2.elim
    .cases hgd
end
end Go.Proofs.YthekkgfmagliiaaGreatDoor
namespace Go.Proofs.YthekkgfmagliiaaGreatDoor
open Go.RowKit
section
variable {C : Cx} {pr : Prot} {n : Nat} {Q : AEx -> ah -> LLV -> Prop}
theorem v8{M0:an}{bm0:List Nat}{w0:World}{id:Nat}{ops:Array Oper}{M:an}{bm:List Nat}{tk:bP}{a:Act}{w:World}(St:(Nat->Bool)->ah)(Sg:(Nat->Bool)->LLV)(ρf:ah)(σf:LLV)
 (hlt:∀(i:Nat) (o:Oper),ops.toList[i]? = some o->∀j∈aW o,j<i)
 (hext:∀S S',(∀j,j<ops.size->S j=S' j)->(∀t,get (St S) t=get (St S') t)/\Sg S=Sg S')
 (hl:Later M0 bm0 pr w0 M bm w)(h:SRel M bm tk pr (St fun _=>false) (Sg fun _=>false) n a w)
 (hf:(∀t,get ρf t=get (St fun _=>true) t)/\σf=Sg fun _=>true)(hq:Q .normal ρf σf)
 (step:∀(S:Nat->Bool) (i:Nat) (o:Oper),ops.toList[i]? = some o->S i=false->(∀(j:Nat) (p:Oper),ops.toList[j]? = some p->S j=true->∀e∈aW p,S e=true)->(∀e∈aW o,S e=true)->
   ∀(M:an) (bm:List Nat) (tk:bP) (a:Act) (w:World),Later M0 bm0 pr w0 M bm w->SRel M bm tk pr (St S) (Sg S) n a w->
    if Region.wanted o (yielded ops a.tmps)then o.wp C.P a w (lg M bm pr w n fun ρ' σ'=>(∀t,get ρ' t=get (St fun j=>j==i||S j) t)/\σ'=Sg fun j=>j==i||S j) (bC M bm pr w n fun _ _ _=>False)
    else SRel M bm tk pr (St fun j=>j==i||S j) (Sg fun j=>j==i||S j) n (a.put o.dst undef) w):
 (Code.region id ops true).wp C.P (bC M0 bm0 pr w0 n Q) a w:=by
 refine wp_region_any C.mixed ?_
 suffices H:∀(fuel:Nat) (listed:Array Bool) (M:an) (bm:List Nat) (tk:bP) (a:Act) (w:World),Later M0 bm0 pr w0 M bm w->SRel M bm tk pr (St fun i=>listed.getD i false) (Sg fun i=>listed.getD i false) n a w->listed.size=ops.size->
  (∀(i:Nat) (o:Oper),ops.toList[i]? = some o->listed.getD i false=true->∀j∈aW o,listed.getD j false=true)->(listed.toList.filter (! ·)).length=fuel->wpAny C.P .any ops (bC M0 bm0 pr w0 n Q) fuel listed a w by
  obtain⟨h1,h2⟩:=h.ext (eW.drew w)
  have hrep:∀j,(Ry ops.size false).getD j false=false:=fun j=>by
   simp only[Rs,RA];split<;>rfl
  obtain⟨e1,e2⟩:=hext (fun i=>(Ry ops.size false).getD i false) (fun _=>false) (fun j _=>hrep j);refine H ops.size (Ry ops.size false) M bm tk a w.drew (hl.trans h2 (fun _ h=>h)) ?_ (by simp) (fun i o ho hi=>?_) (by simp)
  .rw[e2];exact h1.congr e1
  .rw[hrep]at hi;cases hi
 intro fuel
 induction fuel with
 | zero=>
  intro listed M bm tk a w hl h hsz hcl hcnt
  have hall:∀i,i<ops.size->listed.getD i false=true:=fun i hi=>by
   have hb:listed[i]? = some (listed[i]'(by omega)):=Ru _;rw[Rs,hb,Su];have hne:listed.toList.filter (! ·)=[]:=R8 hcnt;have:=List.filter_eq_nil_iff.1 hne (listed[i]'(by omega)) (by simp);simpa using this
  obtain⟨e1,e2⟩:=hext (fun i=>listed.getD i false) (fun _=>true) hall;refine⟨?_,M,bm,tk,ρf,σf,.normal,hq,.normal,?_,hl⟩
  .unfold Region.ready;rw[R5];intro i hi;have hi':i<ops.size:=by simpa using hi
   have h9:=hall i hi'
   have:listed.getD i true=true:=by
    have hb:listed[i]? = some (listed[i]'(by omega)):=Ru _;rw[Rs,hb,Su]at h9 ⊢;exact h9
   simp[this]
  .rw[hf.2,<-e2];exact h.congr fun t=>(hf.1 t).trans (e1 t).symm
 | succ fuel ih=>
  intro listed M bm tk a w hl h hsz hcl hcnt;refine⟨fun hnil=>?_,fun i hi=>?_⟩
  .exfalso
   have hex:∃i,i<ops.size/\listed.getD i false=false:=by
    apply RO;intro hno
    have hne:listed.toList.filter (! ·)=[]:=by
     rw[R5];intro b hb;obtain⟨i,hi,rfl⟩:=RU hb;have hi':i<listed.size:=by simpa using hi
     have h9:¬listed.getD i false=false:=fun e=>hno ⟨i,by omega,e⟩;have hb:listed[i]? = some listed[i]:=Ru hi';rw[Rs,hb,Su]at h9;simpa using h9
    rw[hne]at hcnt;simp at hcnt
   have hmin:∃i,i<ops.size/\listed.getD i false=false/\∀j,j<i->listed.getD j false=true:=by
    obtain⟨i,h1,h2⟩:=hex
    induction i using So with
    | _ i ihm=>
    by_cases hj:∃j,j<i/\listed.getD j false=false
    .obtain⟨j,g1,g2⟩:=hj;exact ihm j g1 (by omega) g2
    .exact⟨i,h1,h2,fun j hji=>by
      cases hb:listed.getD j false with
      | true=>rfl
      | false=>exact absurd ⟨j,hji,hb⟩ hj⟩
   obtain⟨i,h1,h2,h3⟩:=hmin;have hio:i<ops.toList.length:=by simpa using h1
   have:i∈Region.ready .any ops listed:=by
    unfold Region.ready;rw[R0];refine⟨by simp;omega,?_⟩
    have ht:listed.getD i true=false:=by
     have hb:listed[i]? = some (listed[i]'(by omega)):=Ru _;rw[Rs,hb,Su]at h2 ⊢;exact h2
    have ho:ops[i]? = some (ops[i]'(by omega)):=Ru _;rw[ht,ho];simp only[RH,RJ,Sw,Su];rw[<-Rz,RR];intro e he;cases hb:Region.binds .any e with
    | false=>rfl
    | true=>
     have:e.on∈aW (ops[i]'(by omega)):=by
      unfold aW;exact List.mem_map.2 ⟨e,List.mem_filter.2 ⟨he,hb⟩,rfl⟩
     simp[h3 e.on (hlt i _ (by rw[RP hio];simp) e.on this)]
   rw[hnil]at this;cases this
  .unfold Region.ready at hi;rw[R0]at hi;obtain⟨hir,hic⟩:=hi;have hi1:i<ops.size:=by simpa using hir
   have ho:ops[i]? = some ops[i]:=Ru hi1;have hoL:ops.toList[i]? = some ops[i]:=by rw[Rw];exact ho
   rw[ho]at hic;simp only[Sw,Su,RC,RG]at hic;obtain⟨hun,hed⟩:=hic
   have hun':listed[i]? = some false:=by
    have hb:listed[i]? = some (listed[i]'(by omega)):=Ru _;rw[Rs,hb,Su]at hun;rw[hb,hun]
   have hunf:listed.getD i false=false:=by rw[Rs,hun'];rfl
   have hedge:∀j∈aW ops[i],listed.getD j false=true:=by
    intro j hj;unfold aW at hj;obtain⟨e,he,rfl⟩:=List.mem_map.1 hj;rw[R0]at he;rw[<-Rz,RR]at hed;have:=hed e he.1;simpa[he.2]using this
   have hset:∀j,(listed.setIfInBounds i true).getD j false=(j==i||listed.getD j false):=fun j=>by
    rw[Rs,Rs];by_cases e:j=i
    .subst e;rw[Rv (by omega)];simp
    .rw[Rx (Ne.symm e)];simp[e]
   have hnextcl:∀(q:Nat) (o:Oper),ops.toList[q]? = some o->(listed.setIfInBounds i true).getD q false=true->∀j∈aW o,(listed.setIfInBounds i true).getD j false=true:=by
    intro q o hqo hql j hj;rw[hset]at hql ⊢;simp only[RE,beq_iff_eq]at hql ⊢;rcases hql with rfl|hql
    .rw[hoL]at hqo;cases hqo;exact .inr (hedge j hj)
    .exact .inr (hcl q o hqo hql j hj)
   have hnextc:((listed.setIfInBounds i true).toList.filter (! ·)).length=fuel:=by
    have:=lO listed.toList i (by rw[Rw];exact hun');rw[RB];omega
   obtain⟨e1,e2⟩:=hext (fun j=>(listed.setIfInBounds i true).getD j false) (fun j=>j==i||listed.getD j false) (fun j _=>hset j);have hst:=step (fun j=>listed.getD j false) i ops[i] hoL hunf hcl hedge M bm tk a w hl h;unfold wpOp;rw[ho];simp only;split at hst
   .rename_i hw;rw[if_pos hw];refine .inl (Oper.wp_mono2 (fun a' w' hL=>?_) (fun e a' w' hL=>?_) hst)
    .obtain⟨M',bm',tk',ρ',σ',⟨k0,rfl⟩,k2,k3⟩:=hL;refine ih _ M' bm' tk' a' w' (hl.trans k3 (fun _ h=>h)) ?_ (by simp[hsz]) hnextcl hnextc;rw[e2];exact k2.congr fun t=>(e1 t).trans (k0 t).symm
    .obtain⟨_,_,_,_,_,_,hf,_⟩:=hL;exact hf.elim
   .rename_i hw;rw[if_neg hw];refine ih _ M bm tk _ w hl ?_ (by simp[hsz]) hnextcl hnextc;rw[e2];exact hst.congr e1
end
end Go.Proofs.YthekkgfmagliiaaGreatDoor
namespace Go.Proofs.YthekkgfmagliiaaGreatDoor
open Go.RowKit
def vZ(L:O->ah->V->Prop):List O->ah->(ah->Prop)->Prop
 | [],ρ,K=>K ρ
 | o::r,ρ,K=>∃x ρ2,(∀t,get ρ2 t=get ρ t)/\L o ρ x/\vZ L r (putd ρ2 o.dst x) K
theorem xA{L:O->ah->V->Prop}:∀{l:List O} {ρ:ah} {k:Nat} {K:ah->Prop},vZ L l ρ K->
 ∃xs:List V,xs.length=l.length/\(∃ρ',K ρ'/\∀t,get ρ' t=get (az (ax l xs k fun _=>true) ρ) t)/\
  ∀i (h:i<l.length) (h':i<xs.length),∃ρi,L l[i] ρi xs[i]/\∀t,get ρi t=get (az (ax l xs k fun j=>decide (j<k+i)) ρ) t
 | [],ρ,k,K,h=>⟨[],rfl,⟨ρ,h,fun _=>rfl⟩,fun i h=>by simp at h⟩
 | o::r,ρ,k,K,h=>by
  obtain⟨x,ρ2,h2e,hx,hr⟩:=h;obtain⟨xs,h1,⟨ρ',h2,h3⟩,h4⟩:=xA (k:=k+1) hr;have hput:∀t,get (putd ρ2 o.dst x) t=get (putd ρ o.dst x) t:=fun t=>by rw[cz,cz,h2e]
  refine⟨x::xs,by simp[h1],⟨ρ',h2,fun t=>?_⟩,fun i hi hi'=>?_⟩
  .simp only[ax,az,if_true];rw[h3 t];exact gx _ _ _ _ (hput t)
  .cases i with
   | zero=>
    refine⟨ρ,hx,fun t=>?_⟩;rw[em];intro p hp _;obtain⟨j,hj,rfl⟩:=RU hp;have hl:=fL (o::r) (x::xs) k (fun j=>decide (j<k+0)) (by simp[h1]);rw[hl]at hj;rw[d9 _ _ _ _ _ (by rw[hl];exact hj) hj (by simp[h1];simpa using hj)];simp
   | succ i=>
    obtain⟨ρi,g1,g2⟩:=h4 i (by simpa using hi) (by simpa using hi');refine⟨ρi,g1,fun t=>?_⟩;simp only[ax,az];rw[if_pos (by simp),g2 t,show k+1+i=k+(i+1)by omega];exact gx _ _ _ _ (hput t)
structure Cell where
 i:Nat
 off:Nat
 T:TypeId
 k:Nat
 rows:LLD
section
variable {C : Cx} {pr : Prot} {ρ : ah} {n : Nat} {Q : AEx -> ah -> LLV -> Prop}
def JA(p:OP->Bool):List O->Nat->Option Nat
 | [],_=>none
 | o::r,i=>if p o.op then some i else JA p r (i+1)
end
end Go.Proofs.YthekkgfmagliiaaGreatDoor
namespace Go.Proofs.YthekkgfmagliiaaGreatDoor
open Go.RowKit
def OP.slotsN:OP->List Nat
 | .sto _ x y=>x.slots++y.slots
 | op=>op.slots
def O.looksN(o:O):List Nat:=o.op.slotsN++(match o.g with|some (t,_)=>[t]|none=>[])
section
variable {C : Cx} {pr : Prot} {ρ : ah} {n : Nat} {Q : AEx -> ah -> LLV -> Prop}
def Lq:O->Bool
 | ⟨none,.sto _ _ _,none⟩=>true
 | _=>false
end
end Go.Proofs.YthekkgfmagliiaaGreatDoor
namespace Go.Proofs.YthekkgfmagliiaaGreatDoor
open Go.RowKit
def OP.specialS:OP->Bool
 | .sto _ _ _=>true
 | _=>false
section
variable {C : Cx} {pr : Prot} {ρ : ah} {n : Nat} {Q : AEx -> ah -> LLV -> Prop}
def yY(C:Cx)(σf:LLV)(σ:LLV)(o:O)(ρ:ah)(x:V):Prop:=
 match o.op with
 | .sto kk y z=>o.g=none/\∃i off cs,ev C ρ y=.ptr i off/\σ[i]? = some cs/\((ev C ρ z).boxable=true/\(ev C ρ z).cells.length=kk/\off+kk≤cs.length/\cV cs=true)/\σf=σ.set i (over cs off (ev C ρ z).cells)
 | _=>Loc C o ρ σ x
def ik(C:Cx)(σ:LLV):List O->ah->Option LLV->(ah->LLV->Prop)->Prop
 | [],ρ,acc,K=>match acc with|some σf=>K ρ σf|none=>False
 | o::r,ρ,acc,K=>match o.op with
  | .sto kk y z=>o.g=none/\o.dst=none/\match acc,ev C ρ y with
   | none,.ptr i off=>match σ[i]? with
    | some cs=>((ev C ρ z).boxable=true/\(ev C ρ z).cells.length=kk/\off+kk≤cs.length/\cV cs=true)/\ik C σ r ρ (some (σ.set i (over cs off (ev C ρ z).cells))) K
    | none=>False
   | _,_=>False
  | op=>match o.g with
   | none=>bI C op ρ σ fun v=>ik C σ r (putd ρ o.dst v) acc K
   | some (t,want)=>match get ρ t with
    | .d (.lit (.bool b))=>(b=want->bI C op (put ρ t (.d (.lit (.bool want)))) σ fun v=>ik C σ r (putd (put ρ t (.d (.lit (.bool want)))) o.dst v) acc K)/\(b≠want->ik C σ r (putd (put ρ t (.d (.lit (.bool (!want))))) o.dst (.tup [])) acc K)
    | .tup []=>ik C σ r (putd ρ o.dst (.tup [])) acc K
    | _=>False
theorem ml{σ:LLV}:∀{l:List O} {ρ:ah} {acc:Option LLV} {K:ah->LLV->Prop},ik C σ l ρ acc K->
 ∃σf,(∀r,acc=some r->r=σf)/\vZ (yY C σf σ) l ρ fun ρ'=>K ρ' σf
 | [],ρ,acc,K,h=>by
  cases acc with
  | none=>exact h.elim
  | some r=>exact⟨r,fun r' e=>by cases e;rfl,h⟩
 | o::r,ρ,acc,K,h=>by
  have know:∀{t:Nat} {b c:Bool},get ρ t=.d (.lit (.bool b))->b=c->∀s,get (put ρ t (.d (.lit (.bool c)))) s=get ρ s:=fun hb hc s=>by
   rw[cr];split
   .rename_i e;subst e;subst hc;exact hb.symm
   .rfl
  have other:o.op.specialS=false->(match o.g with
   | none=>bI C o.op ρ σ fun v=>ik C σ r (putd ρ o.dst v) acc K
   | some (t,want)=>match get ρ t with
    | .d (.lit (.bool b))=>(b=want->bI C o.op (put ρ t (.d (.lit (.bool want)))) σ fun v=>ik C σ r (putd (put ρ t (.d (.lit (.bool want)))) o.dst v) acc K)/\(b≠want->ik C σ r (putd (put ρ t (.d (.lit (.bool (!want))))) o.dst (.tup [])) acc K)
    | .tup []=>ik C σ r (putd ρ o.dst (.tup [])) acc K
    | _=>False)->∃σf,(∀r,acc=some r->r=σf)/\vZ (yY C σf σ) (o::r) ρ fun ρ'=>K ρ' σf:=by
   intro hs h
   have fin:∀x ρ2,(∀t,get ρ2 t=get ρ t)->Loc C o ρ σ x->ik C σ r (putd ρ2 o.dst x) acc K->∃σf,(∀r,acc=some r->r=σf)/\vZ (yY C σf σ) (o::r) ρ fun ρ'=>K ρ' σf:=by
    intro x ρ2 h1 h2 h4;obtain⟨rows2,h5,h6⟩:=ml h4;refine⟨rows2,h5,x,ρ2,h1,?_,h6⟩;unfold yY;split<;>first|exact h2|(rename_i e;rw[e]at hs;cases hs)
   split at h
   .rename_i hg;obtain⟨v,h1,h2⟩:=fN h;exact fin v ρ (fun _=>rfl) (by unfold Loc;rw[hg];exact h1) h2
   .rename_i t want hg;split at h
    .rename_i b hb;by_cases e:b=want
     .obtain⟨v,h1,h2⟩:=fN (h.1 e);exact fin v _ (know hb e) (by unfold Loc;rw[hg];simp only;rw[hb];exact⟨fun _=>ji (fun s _=>know hb e s) h1,fun ne=>absurd e ne⟩) h2
     .exact fin (.tup []) _ (know hb (c:=!want) (by cases b<;>cases want<;>simp_all)) (by unfold Loc;rw[hg];simp only;rw[hb];exact⟨(fun ee=>absurd ee e),(fun _=>by trivial)⟩) (h.2 e)
    .rename_i hb;exact fin (.tup []) ρ (fun _=>rfl) (by unfold Loc;rw[hg];simp only;rw[hb];trivial) h
    .exact h.elim
  unfold ik at h;split at h
  .rename_i kk y z ho;obtain⟨h1,h2,h3⟩:=h;split at h3
   .rename_i i off he;split at h3
    .rename_i cs hcs;obtain⟨h5,h6⟩:=h3;obtain⟨σf,h7,h8⟩:=ml h6;have:=h7 _ rfl;subst this;exact⟨_,(fun r e=>by cases e),.junk,ρ,fun _=>rfl,by unfold yY;rw[ho];exact⟨h1,i,off,cs,he,hcs,h5,rfl⟩,by rw[h2];exact h8⟩
    .exact h3.elim
   .exact h3.elim
  .rename_i n2;refine other ?_ h;cases ho:o.op<;>first|rfl|exact absurd ho (n2 _ _ _)
def O.free(o:O):Bool:=match o.op,o.g with
 | .mv (.k _),none=>true
 | _,_=>false
def yT(iS:Nat)(l:List O)(os:List Oper):Bool:=
 let bf:=aY os []
 ((RY os.length).all fun i=>match os[i]? with|some o=>(aW o).all fun j=>decide (j<i)|none=>true) &&
 (((RY l.length).all fun i=>match l[i]? with
   | some o=>((o.looksN++o.dst.toList).all fun t=>(RY l.length).all fun j=>j==i||(match l[j]? with
    | some q=>q.dst != some t||(if j<i then(bf.getD i []).contains j else(bf.getD j []).contains i)
    | none=>true)) &&
    ((o.op.specialS==(i==iS))&&(i==iS||(o.free||(bf.getD iS []).contains i)))
   | none=>true) &&
 ((l[iS]?).any Lq))
def pM(l:List O)(os:List Oper):Bool:=match JA (fun op=>match op with | .sto _ _ _=>true|_=>false) l 0 with
 | some p=>yT p l os
 | none=>false
structure OKS(iS:Nat)(l:List O)(os:List Oper):Prop where
 lt:∀(i:Nat) (o:Oper),os[i]? = some o->∀j∈aW o,j<i
 cmp:∀(i:Nat) (o:O),l[i]? = some o->∀t∈o.looksN++o.dst.toList,∀(j:Nat) (q:O),l[j]? = some q->q.dst=some t->j≠i->(j<i/\j∈(aY os []).getD i [])\/(i<j/\i∈(aY os []).getD j [])
 spec:∀(i:Nat) (o:O),l[i]? = some o->(o.op.specialS=true↔i=iS)
 last:∀(i:Nat) (o:O),l[i]? = some o->i≠iS->o.free=true\/i∈(aY os []).getD iS []
 opS:∃kk y z,l[iS]? = some ⟨none,.sto kk y z,none⟩
theorem CB{iS:Nat}{l:List O}{os:List Oper}(hl:l.length=os.length)(h:yT iS l os=true):OKS iS l os:=by
 unfold yT at h;simp only[RC]at h;obtain⟨h1,h2,h5⟩:=h;simp only[RR,RZ]at h1 h2
 have one:∀(i:Nat) (o:O),l[i]? = some o->_:=fun i o ho=>by
  have:=h2 i (List.getElem?_eq_some_iff.1 ho).1;rw[ho]at this;simp only[RC]at this;exact this
 refine⟨fun i o ho j hj=>?_,fun i o ho t ht j q hp hd hne=>?_,fun i o ho=>?_,fun i o ho hne=>?_,?_⟩
 .have:=h1 i (List.getElem?_eq_some_iff.1 ho).1;rw[ho]at this;simpa using List.all_eq_true.1 this j hj
 .have h1:=(one i o ho).1;simp only[RR,RZ]at h1;have h2:=h1 t ht j (List.getElem?_eq_some_iff.1 hp).1;rw[hp]at h2;simp only[hd,RE,beq_iff_eq,bne_self_eq_false,RF,false_or]at h2;rcases h2 with h2|h2
  .exact absurd h2 hne
  .split at h2
   .exact .inl ⟨by assumption,by simpa using h2⟩
   .exact .inr ⟨by omega,by simpa using h2⟩
 .have:=(one i o ho).2.1;rw[beq_iff_eq]at this;rw[this];simp
 .have:=(one i o ho).2.2;simpa[hne]using this
 .cases ho:l[iS]? with
  | none=>rw[ho]at h5;cases h5
  | some o=>
  rw[ho]at h5;have hp:Lq o=true:=h5;clear h5;unfold Lq at hp;split at hp
  .exact⟨_,_,_,rfl⟩
  .cases hp
theorem vm{M0:an}{bm0:List Nat}{w0:World}(hG:C.glob M0 pr w0){id:Nat}{ops:Array Oper}{l:List O}{M:an}{bm:List Nat}{tk:bP}{σ:LLV}{a:Act}{w:World}(hok:fQ C.tab n ops l ops.toList=true)(hdr:pM l ops.toList=true)
 (hl:Later M0 bm0 pr w0 M bm w)(h:SRel M bm tk pr ρ σ n a w)
 (hq:ik C σ l ρ none fun ρ' σf=>Q .normal ρ' σf):
 (Code.region id ops true).wp C.P (bC M0 bm0 pr w0 n Q) a w:=by
 obtain⟨hlen,hget⟩:=g9 hok;unfold pM at hdr;split at hdr;case h_2=>cases hdr
 rename_i p _;have D:=CB hlen hdr;obtain⟨σf,-,hch⟩:=ml hq;obtain⟨xs,hxl,⟨ρf,hρf,hρe⟩,hloc⟩:=xA (k:=0) hch;have hnl:l.length=ops.size:=by rw[hlen];simp
 have hsteps:∀S:Nat->Bool,(ax l xs 0 S).length=l.length:=fun S=>fL l xs 0 S hxl
 have hsg:∀(S:Nat->Bool) (i:Nat) (hi:i<(ax l xs 0 S).length) (h1:i<l.length),(ax l xs 0 S)[i]=(l[i].dst,xs[i]'(by omega),S i):=fun S i hi h1=>by
  have:=d9 l xs 0 S i hi h1 (by omega);simpa using this
 obtain⟨kS,yS,zS,hoS⟩:=D.opS;have iSl:p<l.length:=(List.getElem?_eq_some_iff.1 hoS).1;have eS:l[p]=⟨none,.sto kS yS zS,none⟩:=(List.getElem?_eq_some_iff.1 hoS).2
 have base:∀S S',(∀j,j<l.length->S j=S' j)->∀t,get (az (ax l xs 0 S) ρ) t=get (az (ax l xs 0 S') ρ) t:=fun S S' hS t=>by
  refine cQ _ _ ρ t (by rw[hsteps,hsteps]) (fun i g1 g2=>?_);rw[hsteps]at g1;rw[hsg _ i (by rw[hsteps];exact g1) g1,hsg _ i (by rw[hsteps];exact g1) g1];exact⟨rfl,rfl,fun _=>hS i g1⟩
 refine v8 (M:=M) (bm:=bm) (tk:=tk) (fun S=>az (ax l xs 0 S) ρ) (fun S=>if S p then σf else σ) ρf σf D.lt (fun S S' hS=>?_) hl ?_ ⟨fun t=>?_,?_⟩ hρf ?_
 .have e3:=hS p (by omega);exact⟨base S S' fun j hj=>hS j (by omega),by rw[e3]⟩
 .have:∀t,get (az (ax l xs 0 fun _=>false) ρ) t=get ρ t:=fun t=>by
   rw[em];intro q hq _;obtain⟨j,hj,rfl⟩:=RU hq;rw[hsteps]at hj;rw[hsg _ j (by rw[hsteps];exact hj) hj]
  simp only[RF,if_false];exact h.congr this
 .rw[hρe t]
 .simp only[if_true]
 intro S i o' ho' hSi hclo hedge M bm tk a w hl h;have hi1:i<ops.toList.length:=(List.getElem?_eq_some_iff.1 ho').1;have hi2:i<l.length:=by omega
 have hlo:l[i]? = some l[i]:=RP hi2;have hbef:∀j∈(aY ops.toList []).getD i [],S j=true:=bO D.lt (S:=fun j=>S j=true) hclo i o' ho' hedge
 have hbefj:∀q,q<l.length->S q=true->∀j∈(aY ops.toList []).getD q [],S j=true:=fun q hq hSq=>by
  have hq2:ops.toList[q]? = some ops.toList[q]:=RP (by omega);exact bO D.lt (S:=fun j=>S j=true) hclo q _ hq2 (hclo q _ hq2 hSq)
 have hsame:∀t∈l[i].looksN++l[i].dst.toList,∀j (hj:j<l.length),j≠i->l[j].dst=some t->(S j=decide (j<i)):=by
  intro t ht j hj hne hd;rcases D.cmp i l[i] hlo t ht j l[j] (RP hj) hd hne with⟨g1,g2⟩|⟨g1,g2⟩
  .rw[hbef j g2];simp[g1]
  .have:¬S j=true:=fun hjl=>by
    have:=hbefj j hj hjl i g2;rw[hSi]at this;cases this
   have e:S j=false:=by simpa using this
   rw[e];simp;omega
 obtain⟨ρi,hL,hρi⟩:=hloc i hi2 (by omega)
 have hgetL:∀t∈l[i].looksN,get ρi t=get (az (ax l xs 0 S) ρ) t:=by
  intro t ht;rw[hρi t];refine cQ _ _ ρ t (by rw[hsteps,hsteps]) (fun j g1 g2=>?_);rw[hsteps]at g1;rw[hsg _ j (by rw[hsteps];exact g1) g1,hsg _ j (by rw[hsteps];exact g1) g1];refine⟨rfl,rfl,fun hd=>?_⟩;simp only[Sl];by_cases e:j=i
  .subst e;rw[hSi];simp
  .exact(hsame t (by simp[ht]) j g1 e hd).symm
 have hnext:∀t,get (az (ax l xs 0 fun j=>j==i||S j) ρ) t=get (Go.Proofs.YthekkgfmagliiaaGreatDoor.putd (az (ax l xs 0 S) ρ) l[i].dst (xs[i]'(by omega))) t:=by
  intro t;rw[cz];split
  .rename_i e
   have:=iW (ax l xs 0 fun j=>j==i||S j) ρ i (by rw[hsteps];exact hi2) t (by rw[hsg _ i _ hi2];exact e) (by rw[hsg _ i _ hi2];simp) (fun j hj hij hd=>by
    rw[hsteps]at hj;rw[hsg _ j _ hj]at hd ⊢;simp only at hd ⊢;rw[hsame t (by simp[e]) j hj (by omega) hd];simp;omega)
   rw[this,hsg _ i _ hi2]
  .rename_i e;refine cQ _ _ ρ t (by rw[hsteps,hsteps]) (fun j g1 g2=>?_);rw[hsteps]at g1;rw[hsg _ j (by rw[hsteps];exact g1) g1,hsg _ j (by rw[hsteps];exact g1) g1];refine⟨rfl,rfl,fun hd=>?_⟩;simp only at hd ⊢;have hne:j≠i:=fun ee=>by subst ee;exact e hd
   simp[hne]
 have hoo:=hget i l[i] o' hlo ho'
 have hdst:l[i].dst=o'.dst:=by
  have:=hoo;unfold okO at this;simp only[RC,beq_iff_eq]at this;exact this.1.1.2
 have hdn:∀d,o'.dst=some d->d<n:=by
  have:=hoo;unfold okO at this;simp only[RC]at this;intro d hd;have:=this.1.2;rw[hd]at this;simpa using this
 have hgd:=hoo;unfold okO at hgd;simp only[RC]at hgd;replace hgd:=hgd.2
 have hwant:l[i].g=none->Region.wanted o' (yielded ops a.tmps)=true:=fun hg=>by
  rw[hg]at hgd;split at hgd
  .rename_i hg2;simp[Region.wanted,hg2]
  .rename_i e _;cases e
  .cases hgd
 have done:∀(K:ah->LLV->Prop) (R:AEx->ah->LLV->Prop),(∀ρ' σ',K ρ' σ'->(∀t,get ρ' t=get (az (ax l xs 0 fun j=>j==i||S j) ρ) t)/\σ'=if(p==i||S p)=true then σf else σ)->
  o'.wp C.P a w (lg M bm pr w n K) (bC M bm pr w n fun _ _ _=>False)->o'.wp C.P a w (lg M bm pr w n fun ρ' σ'=>(∀t,get ρ' t=get (az (ax l xs 0 fun j=>j==i||S j) ρ) t)/\σ'=if(p==i||S p)=true then σf else σ) (bC M bm pr w n fun _ _ _=>False):=fun K R hK hw=>
  Oper.wp_mono2 (fun a' w' ⟨M',bm',tk',ρ',σ',e1,k2,k3⟩=>⟨M',bm',tk',ρ',σ',hK _ _ e1,k2,k3⟩) (fun e a' w' hh=>hh) hw
 by_cases hS:i=p
 .subst hS;simp only[hSi,RF,if_false]at h;unfold yY at hL;rw[eS]at hL hgetL hnext;obtain⟨-,i0,off,cs,hL1,hcs,hL2,hL3⟩:=hL
  have evy:ev C (az (ax l xs 0 S) ρ) yS=.ptr i0 off:=by
   rw[<-hL1];exact(bT fun t ht=>hgetL t (by simp[O.looksN,OP.slotsN,ht])).symm
  have evz:ev C (az (ax l xs 0 S) ρ) zS=ev C ρi zS:=(bT fun t ht=>hgetL t (by simp[O.looksN,OP.slotsN,ht])).symm;rw[if_pos (hwant (by rw[eS]))];refine done (fun ρ' σ'=>ρ'=az (ax l xs 0 S) ρ/\σ'=σf) (fun _ _ _=>False) (fun ρ' σ' ⟨e1,e2⟩=>?_) (cy (hG.mono hl) h hoo ?_)
  .subst e1;subst e2;refine⟨fun t=>?_,by simp⟩;rw[hnext t];rfl
  .rw[eS];simp only[fS,evy,evz,hcs];exact⟨hL2,trivial,hL3.symm⟩
 have hSS:l[i].free=true\/S p=false:=by
  rcases D.last i l[i] hlo hS with g|g
  .exact .inl g
  .refine .inr ?_
   have:¬S p=true:=fun hh=>by
    have:=hbefj p iSl hh i g;rw[hSi]at this;cases this
   simpa using this
 have hSi':(p==i)=false:=by simpa using Ne.symm hS
 have hns:l[i].op.specialS=false:=by
  have:=D.spec i l[i] hlo;cases hsp:l[i].op.specialS with
  | false=>rfl
  | true=>exact absurd (this.1 hsp) hS
 have hLL2:Loc C l[i] ρi σ (xs[i]'(by omega)):=by
  unfold yY at hL;split at hL
  .rename_i e;rw[e]at hns;cases hns
  .exact hL
 have hlk:l[i].looks=l[i].looksN:=by
  unfold O.looks O.looksN
  have:l[i].op.slots=l[i].op.slotsN:=by
   cases ho:l[i].op<;>first|rfl|(rw[ho]at hns;cases hns)
  rw[this];all_goals rfl
 have hL0:Loc C l[i] (az (ax l xs 0 S) ρ) σ (xs[i]'(by omega)):=hLL2.congr fun t ht=>by
  rw[hlk]at ht;exact hgetL t ht
 obtain⟨σ2,hσ2⟩:∃σ2,σ2=if S p=true then σf else σ:=⟨_,rfl⟩
 have hL2:Loc C l[i] (az (ax l xs 0 S) ρ) σ2 (xs[i]'(by omega)):=by
  rcases hSS with hf|hs
  .unfold O.free at hf;split at hf
   .rename_i v ho hg;unfold Loc at hL0 ⊢;rw[hg]at hL0 ⊢;rw[ho]at hL0 ⊢;exact hL0
   .cases hf
  .rw[hσ2,hs];exact hL0
 simp only[hSi',RD]at h done ⊢;rw[<-hσ2]at h done ⊢
 have exec:bI C l[i].op (az (ax l xs 0 S) ρ) σ2 (fun v=>v=xs[i]'(by omega))->o'.wp C.P a w (lg M bm pr w n fun ρ' σ'=>(∀t,get ρ' t=get (az (ax l xs 0 fun j=>j==i||S j) ρ) t)/\σ'=σ2) (bC M bm pr w n fun _ _ _=>False):=fun hc=>
  done _ (fun _ _ _=>False) (fun ρ' σ' ⟨e1,e2⟩=>⟨fun t=>by rw[e1];exact(hnext t).symm,e2⟩) (cy (hG.mono hl) h hoo (m3 hc))
 unfold Loc at hL2;split at hL2
 .rename_i hg;rw[if_pos (hwant hg)];exact exec hL2
 .rename_i t want hg;rw[hg]at hgd;split at hgd
  .rename_i e _;cases e
  .rename_i t' b' j b'' e hg2;cases e;simp only[RC,beq_iff_eq]at hgd;obtain⟨rfl,hj⟩:=hgd;split at hL2
   .rename_i b hb;have hy:=ic h hb hj;by_cases hbw:b=want
    .rw[if_pos (by simp[Region.wanted,hg2,hy,hbw])];exact exec (hL2.1 hbw)
    .rw[if_neg (by simp[Region.wanted,hg2,hy,hbw])];have hx:=hL2.2 hbw;refine(h.putd hdn jt (by simp)).congr fun t=>?_;rw[hnext t,hx,hdst]
   .rename_i hb;have hy:=kP h hb hj;rw[if_neg (by simp[Region.wanted,hg2,hy])];refine(h.putd hdn jt (by simp)).congr fun t=>?_;rw[hnext t,hL2,hdst]
   .exact hL2.elim
  .cases hgd
end
end Go.Proofs.YthekkgfmagliiaaGreatDoor
namespace Go.Proofs.YthekkgfmagliiaaGreatDoor
open Go.RowKit
def bL(s d0 d1 T k bytes:Nat)(y:X)(mid:List O):List O:=⟨some d0,.mvo s,none⟩::(mid++[⟨some d1,.app T k bytes d0 y,none⟩,⟨some s,.mvo d1,none⟩])
theorem Ld(s d0 d1 T k bytes:Nat)(y:X)(mid:List O):(bL s d0 d1 T k bytes y mid).length=mid.length+3:=by simp[bL]
theorem K4{s d0 d1 T k bytes:Nat}{y:X}{mid:List O}{i:Nat}(h:i<mid.length):(bL s d0 d1 T k bytes y mid)[i+1]? = some mid[i]:=by
 unfold bL;rw[RX,RS h,RP h]
theorem Lo{s d0 d1 T k bytes:Nat}{y:X}{mid:List O}:(bL s d0 d1 T k bytes y mid)[mid.length+1]? = some ⟨some d1,.app T k bytes d0 y,none⟩:=by
 unfold bL;rw[RX,RQ (Sm _)];simp
theorem I1{s d0 d1 T k bytes:Nat}{y:X}{mid:List O}:(bL s d0 d1 T k bytes y mid)[mid.length+2]? = some ⟨some s,.mvo d1,none⟩:=by
 unfold bL;rw[RX,RQ (by omega)];simp
def nv(s d0 d1:Nat)(y:X)(mid:List O)(os:List Oper):Bool:=
 let bf:=aY os [];let free:=fun t=>t != s&&t != d0&&t != d1
 ((RY os.length).all fun i=>match os[i]? with|some o=>(aW o).all fun j=>decide (j<i)|none=>true) &&
 (((RY mid.length).all fun i=>match mid[i]? with
   | some o=>((o.looks++o.dst.toList).all fun t=>free t&&(RY mid.length).all fun j=>j==i||(match mid[j]? with
    | some q=>q.dst != some t||(if j<i then(bf.getD (i+1) []).contains (j+1)else(bf.getD (j+1) []).contains (i+1))
    | none=>true))&&(bf.getD (mid.length+1) []).contains (i+1)
   | none=>true) &&
 (y.slots.all free&&((bf.getD (mid.length+1) []).contains 0&&((bf.getD (mid.length+2) []).contains (mid.length+1)&&(s != d0&&(s != d1&&d0 != d1))))))
structure OKB(s d0 d1:Nat)(y:X)(mid:List O)(os:List Oper):Prop where
 lt:∀(i:Nat) (o:Oper),os[i]? = some o->∀j∈aW o,j<i
 free:∀(i:Nat) (h:i<mid.length),∀t∈mid[i].looks++mid[i].dst.toList,t≠s/\t≠d0/\t≠d1
 cmp:∀(i:Nat) (h:i<mid.length),∀t∈mid[i].looks++mid[i].dst.toList,∀(j:Nat) (hj:j<mid.length),mid[j].dst=some t->j≠i->(j<i/\j+1∈(aY os []).getD (i+1) [])\/(i<j/\i+1∈(aY os []).getD (j+1) [])
 all:∀(i:Nat),i<mid.length->i+1∈(aY os []).getD (mid.length+1) []
 yfree:∀t∈y.slots,t≠s/\t≠d0/\t≠d1
 first:0∈(aY os []).getD (mid.length+1) []
 last:mid.length+1∈(aY os []).getD (mid.length+2) []
 ne:s≠d0/\s≠d1/\d0≠d1
theorem xV{s d0 d1:Nat}{y:X}{mid:List O}{os:List Oper}(h:nv s d0 d1 y mid os=true):OKB s d0 d1 y mid os:=by
 unfold nv at h;simp only[RC,bne_iff_ne,ne_eq,Sc]at h;obtain⟨h1,h2,h3,h4,h5,h6⟩:=h;simp only[RR,RZ,RC,bne_iff_ne,ne_eq]at h1 h2 h3
 have one:∀(i:Nat) (h:i<mid.length),_:=fun i hi=>by
  have:=h2 i hi;rw[RP hi]at this;simp only[RC,RR,RZ,bne_iff_ne,ne_eq,Sc]at this;exact this
 refine⟨fun i o ho j hj=>?_,fun i hi t ht=>?_,fun i hi t ht j hj hd hne=>?_,fun i hi=>(one i hi).2,fun t ht=>?_,h4,h5,h6⟩
 .have:=h1 i (List.getElem?_eq_some_iff.1 ho).1;rw[ho]at this;simpa using List.all_eq_true.1 this j hj
 .obtain⟨⟨a,b⟩,c⟩:=((one i hi).1 t ht).1;exact⟨a,b,c⟩
 .have h2:=((one i hi).1 t ht).2 j hj;rw[RP hj]at h2;simp only[hd,RE,beq_iff_eq,bne_self_eq_false,RF,false_or]at h2;rcases h2 with h2|h2
  .exact absurd h2 hne
  .split at h2
   .exact .inl ⟨by assumption,by simpa using h2⟩
   .exact .inr ⟨by omega,by simpa using h2⟩
 .obtain⟨⟨a,b⟩,c⟩:=h3 t ht;exact⟨a,b,c⟩
section
variable {C : Cx} {pr : Prot} {ρ : ah} {σ : LLV} {n : Nat} {Q : AEx -> ah -> LLV -> Prop}
def sc(s d0 d1 T k:Nat)(rows r2:LLD)(ρ:ah):ah:=put (put (put ρ s (.own T k (rows++r2))) d0 (.d (.sl rows))) d1 (.d (.sl (rows++r2)))
def stB(s d0 d1 T k:Nat)(rows r2:LLD):Bool->Bool->Bool->ah->ah
 | true,_,_,ρ=>sc s d0 d1 T k rows r2 ρ
 | false,true,_,ρ=>put (put (put ρ s (.d (.sl rows))) d0 (.d (.sl rows))) d1 (.own T k (rows++r2))
 | false,false,true,ρ=>put (put ρ s (.d (.sl rows))) d0 (.own T k rows)
 | false,false,false,ρ=>ρ
theorem oJ{s d0 d1 T k:Nat}{rows r2:LLD}{a b c:Bool}{ρ ρ':ah}(h:∀t,get ρ t=get ρ' t)(t:Nat):get (stB s d0 d1 T k rows r2 a b c ρ) t=get (stB s d0 d1 T k rows r2 a b c ρ') t:=by
 cases a<;>cases b<;>cases c<;>simp only[stB,sc,cr,h]
theorem ri{s d0 d1 T k:Nat}{rows r2:LLD}{a b c:Bool}{ρ:ah}{t:Nat}(h:t≠s/\t≠d0/\t≠d1):get (stB s d0 d1 T k rows r2 a b c ρ) t=get ρ t:=by
 obtain⟨h1,h2,h3⟩:=h;cases a<;>cases b<;>cases c<;>simp[stB,sc,cr,h1,h2,h3]
theorem I0{s d0 d1 T k:Nat}{rows r2:LLD}{a b c:Bool}{ρ:ah}{d:Option Nat}{x:V}(h:∀t,d=some t->t≠s/\t≠d0/\t≠d1)(t:Nat):get (putd (stB s d0 d1 T k rows r2 a b c ρ) d x) t=get (stB s d0 d1 T k rows r2 a b c (putd ρ d x)) t:=by
 rw[cz];split
 .rename_i e;rw[ri (h t e),cz,if_pos e]
 .rename_i e;cases a<;>cases b<;>cases c<;>simp only[stB,sc,cr,cz,if_neg e]
def Cj(C:Cx)(s d0 d1 T k bytes:Nat)(y:X)(mid:List O)(ρ:ah)(σ:LLV)(K:ah->Prop):Prop:=match get ρ s with
 | .own T' k' rows=>T'=T/\k'=k/\aS C mid ρ σ fun ρ'=>match fw (ev C ρ' y)with
  | some r2=>(r2.all (fun r=>r.length==k)=true/\(rows.length+r2.length)*bytes≤140737488355328)/\K (sc s d0 d1 T k rows r2 ρ')
  | none=>False
 | _=>False
theorem xr{M0:an}{bm0:List Nat}{w0:World}(hG:C.glob M0 pr w0){id:Nat}{ops:Array Oper}{s d0 d1 T k bytes:Nat}{y:X}{mid:List O}{M:an}{bm:List Nat}{tk:bP}{a:Act}{w:World}(hok:fQ C.tab n ops (bL s d0 d1 T k bytes y mid) ops.toList=true)(hdr:nv s d0 d1 y mid ops.toList=true)
 (hl:Later M0 bm0 pr w0 M bm w)(h:SRel M bm tk pr ρ σ n a w)
 (hq:Cj C s d0 d1 T k bytes y mid ρ σ fun ρ'=>Q .normal ρ' σ):
 (Code.region id ops true).wp C.P (bC M0 bm0 pr w0 n Q) a w:=by
 obtain⟨hlen,hget⟩:=g9 hok;rw[Ld]at hlen;have D:=xV hdr;obtain⟨ne1,ne2,ne3⟩:=D.ne;unfold Cj at hq;split at hq;case h_2=>exact hq.elim
 rename_i T' k' rows hrow;obtain⟨rfl,rfl,hq⟩:=hq;obtain⟨xs,hxl,⟨ρf,hρf,hρe⟩,hloc⟩:=jd (k:=1) hq;split at hρf;case h_2=>exact hρf.elim
 rename_i r2 hr2;obtain⟨⟨hk,hby⟩,hQ⟩:=hρf;have hnl:mid.length+3=ops.size:=by rw[hlen];simp
 have hsteps:∀S:Nat->Bool,(ax mid xs 1 S).length=mid.length:=fun S=>fL mid xs 1 S hxl
 have hsg:∀(S:Nat->Bool) (i:Nat) (hi:i<(ax mid xs 1 S).length) (h1:i<mid.length),(ax mid xs 1 S)[i]=(mid[i].dst,xs[i]'(by omega),S (i+1)):=fun S i hi h1=>by
  have:=d9 mid xs 1 S i hi h1 (by omega);rw[this,Nat.add_comm 1 i]
 have base:∀S S',(∀j,j<mid.length->S (j+1)=S' (j+1))->∀t,get (az (ax mid xs 1 S) ρ) t=get (az (ax mid xs 1 S') ρ) t:=fun S S' hS t=>by
  refine cQ _ _ ρ t (by rw[hsteps,hsteps]) (fun i g1 g2=>?_);rw[hsteps]at g1;rw[hsg _ i (by rw[hsteps];exact g1) g1,hsg _ i (by rw[hsteps];exact g1) g1];exact⟨rfl,rfl,fun _=>hS i g1⟩
 have own:∀S t,t=s\/t=d0\/t=d1->get (az (ax mid xs 1 S) ρ) t=get ρ t:=fun S t ht=>by
  rw[em];intro q hq hd;obtain⟨j,hj,rfl⟩:=RU hq;rw[hsteps]at hj;rw[hsg _ j (by rw[hsteps];exact hj) hj]at hd;obtain⟨g1,g2,g3⟩:=D.free j hj t (by simp only at hd;simp[hd]);rcases ht with e|e|e
  .exact absurd e g1
  .exact absurd e g2
  .exact absurd e g3
 have hst0:∀S,(∀j,S j=false)->∀t,get (az (ax mid xs 1 S) ρ) t=get ρ t:=fun S hS t=>by
  rw[em];intro q hq _;obtain⟨j,hj,rfl⟩:=RU hq;rw[hsteps]at hj;rw[hsg _ j (by rw[hsteps];exact hj) hj];exact hS _
 obtain⟨St,hSt⟩:∃St:(Nat->Bool)->ah,∀S,St S=stB s d0 d1 T' k' rows r2 (S (mid.length+2)) (S (mid.length+1)) (S 0) (az (ax mid xs 1 S) ρ):=⟨fun S=>stB s d0 d1 T' k' rows r2 (S (mid.length+2)) (S (mid.length+1)) (S 0) (az (ax mid xs 1 S) ρ),fun _=>rfl⟩
 refine v8 (M:=M) (bm:=bm) (tk:=tk) St (fun _=>σ) (sc s d0 d1 T' k' rows r2 ρf) σ D.lt (fun S S' hS=>⟨fun t=>?_,rfl⟩) hl ?_ ⟨fun t=>?_,rfl⟩ hQ ?_
 .have e:=base S S' fun j hj=>hS (j+1) (by omega);rw[hSt,hSt,hS (mid.length+2) (by omega),hS (mid.length+1) (by omega),hS 0 (by omega)];exact oJ e t
 .simp only[hSt];exact h.congr (hst0 _ fun _=>rfl)
 .rw[hSt];exact oJ (a:=true) (b:=true) (c:=true) hρe t
 intro S i o' ho' hSi hclo hedge M bm tk a w hl h;have hi1:i<ops.toList.length:=(List.getElem?_eq_some_iff.1 ho').1;have hbef:∀j∈(aY ops.toList []).getD i [],S j=true:=bO D.lt (S:=fun j=>S j=true) hclo i o' ho' hedge
 have hbefj:∀q,q<mid.length+3->S q=true->∀j∈(aY ops.toList []).getD q [],S j=true:=fun q hq hSq=>by
  have hq2:ops.toList[q]? = some ops.toList[q]:=RP (by omega);exact bO D.lt (S:=fun j=>S j=true) hclo q _ hq2 (hclo q _ hq2 hSq)
 have gt:∀o,(bL s d0 d1 T' k' bytes y mid)[i]? = some o->o.g=none->Region.wanted o' (yielded ops a.tmps)=true:=fun o ho hg=>by
  have hgd:=hget i o o' ho ho';unfold okO at hgd;simp only[RC]at hgd;replace hgd:=hgd.2;rw[hg]at hgd;split at hgd
  .rename_i hg2;simp[Region.wanted,hg2]
  .rename_i e _;cases e
  .cases hgd
 have done:∀(K:ah->LLV->Prop),(∀ρ' σ',K ρ' σ'->(∀t,get ρ' t=get (St fun j=>j==i||S j) t)/\σ'=σ)->
  o'.wp C.P a w (lg M bm pr w n K) (bC M bm pr w n fun _ _ _=>False)->o'.wp C.P a w (lg M bm pr w n fun ρ' σ'=>(∀t,get ρ' t=get (St fun j=>j==i||S j) t)/\σ'=σ) (bC M bm pr w n fun _ _ _=>False):=fun K hK hw=>
  Oper.wp_mono2 (fun a' w' ⟨M',bm',tk',ρ',σ',e1,k2,k3⟩=>⟨M',bm',tk',ρ',σ',hK _ _ e1,k2,k3⟩) (fun e a' w' hh=>hh) hw
 have no2:S (mid.length+1)=false->S (mid.length+2)=false:=fun hA=>by
  cases hB:S (mid.length+2)with
  | false=>rfl
  | true=>have:=hbefj _ (by omega) hB _ D.last;rw[hA]at this;cases this
 by_cases i0:i=0
 .subst i0
  have hA:S (mid.length+1)=false:=by
   cases hA:S (mid.length+1)with
   | false=>rfl
   | true=>have:=hbefj _ (by omega) hA _ D.first;rw[hSi]at this;cases this
  have hB:=no2 hA;have ho:(bL s d0 d1 T' k' bytes y mid)[0]? = some ⟨some d0,.mvo s,none⟩:=rfl;rw[if_pos (gt _ ho rfl)];have hbs:=base S (fun j=>j==0||S j) fun j hj=>by simp
  have eS':St (fun j=>j==0||S j)=put (put (az (ax mid xs 1 fun j=>j==0||S j) ρ) s (.d (.sl rows))) d0 (.own T' k' rows):=by
   rw[hSt];simp[hA,hB,stB]
  rw[hSt,hA,hB,hSi]at h;refine done (fun ρ' σ'=>ρ'=putd (put (az (ax mid xs 1 S) ρ) s (.d (.sl rows))) (some d0) (.own T' k' rows)/\σ'=σ) (fun ρ' σ' ⟨e1,e2⟩=>?_) (cy (Q:=fun _ _ _=>False) (hG.mono hl) h (hget 0 _ o' ho ho') ?_)
  .subst e1;refine⟨fun t=>?_,e2⟩;rw[eS'];simp only[putd,cr,hbs]
  .simp only[fS,stB,own S s (.inl rfl),hrow];exact⟨trivial,trivial⟩
 by_cases iA:i=mid.length+1
 .subst iA;have hB:=no2 hSi;have h0:=hbef _ D.first;have ho:=Lo (s:=s) (d0:=d0) (d1:=d1) (T:=T') (k:=k') (bytes:=bytes) (y:=y) (mid:=mid);rw[if_pos (gt _ ho rfl)]
  have hbs:=base S (fun j=>j==mid.length+1||S j) fun j hj=>by
   have:(j+1==mid.length+1)=false:=by simp;omega
   simp[this]
  have eS':St (fun j=>j==mid.length+1||S j)=put (put (put (az (ax mid xs 1 fun j=>j==mid.length+1||S j) ρ) s (.d (.sl rows))) d0 (.d (.sl rows))) d1 (.own T' k' (rows++r2)):=by
   have:(mid.length+2==mid.length+1)=false:=by simp
   rw[hSt];simp only[this,hB,RD,beq_self_eq_true,RM];rfl
  rw[hSt,hSi,hB,h0]at h
  have hall:∀t,get ρf t=get (az (ax mid xs 1 S) ρ) t:=fun t=>by
   rw[hρe t];exact base _ _ (fun j hj=>(hbef _ (D.all j hj)).symm) t
  have hev:ev C (stB s d0 d1 T' k' rows r2 false false true (az (ax mid xs 1 S) ρ)) y=ev C ρf y:=bT fun t ht=>by
   rw[ri (D.yfree t ht),hall]
  refine done (fun ρ' σ'=>ρ'=putd (put (stB s d0 d1 T' k' rows r2 false false true (az (ax mid xs 1 S) ρ)) d0 (.d (.sl rows))) (some d1) (.own T' k' (rows++r2))/\σ'=σ) (fun ρ' σ' ⟨e1,e2⟩=>?_) (cy (Q:=fun _ _ _=>False) (hG.mono hl) h (hget _ _ o' ho ho') ?_)
  .subst e1;refine⟨fun t=>?_,e2⟩;rw[eS'];simp only[putd,stB,cr,hbs];repeat' split
   all_goals first|rfl|(exfalso;omega)
  .have hg0:get (stB s d0 d1 T' k' rows r2 false false true (az (ax mid xs 1 S) ρ)) d0=.own T' k' rows:=by simp[stB,cr]
   simp only[fS,hg0,hev,hr2];exact⟨⟨trivial,trivial,hk,hby⟩,trivial,trivial⟩
 by_cases iB:i=mid.length+2
 .subst iB;have hA:=hbef _ D.last;have ho:=I1 (s:=s) (d0:=d0) (d1:=d1) (T:=T') (k:=k') (bytes:=bytes) (y:=y) (mid:=mid);rw[if_pos (gt _ ho rfl)]
  have hbs:=base S (fun j=>j==mid.length+2||S j) fun j hj=>by
   have:(j+1==mid.length+2)=false:=by simp;omega
   simp[this]
  have eS':St (fun j=>j==mid.length+2||S j)=sc s d0 d1 T' k' rows r2 (az (ax mid xs 1 fun j=>j==mid.length+2||S j) ρ):=by
   rw[hSt];simp[stB]
  rw[hSt,hSi,hA]at h;refine done (fun ρ' σ'=>ρ'=putd (put (stB s d0 d1 T' k' rows r2 false true (S 0) (az (ax mid xs 1 S) ρ)) d1 (.d (.sl (rows++r2)))) (some s) (.own T' k' (rows++r2))/\σ'=σ) (fun ρ' σ' ⟨e1,e2⟩=>?_) (cy (Q:=fun _ _ _=>False) (hG.mono hl) h (hget _ _ o' ho ho') ?_)
  .subst e1;refine⟨fun t=>?_,e2⟩;rw[eS'];simp only[putd,stB,sc,cr,hbs];repeat' split
   all_goals first|rfl|(exfalso;omega)
  .have hg0:get (stB s d0 d1 T' k' rows r2 false true (S 0) (az (ax mid xs 1 S) ρ)) d1=.own T' k' (rows++r2):=by simp[stB,cr]
   simp only[fS,hg0];exact⟨trivial,trivial⟩
 obtain⟨m,rfl⟩:∃m,i=m+1:=⟨i-1,by omega⟩
 have hm:m<mid.length:=by omega
 have hlo:=K4 (s:=s) (d0:=d0) (d1:=d1) (T:=T') (k:=k') (bytes:=bytes) (y:=y) hm;have hoo:=hget (m+1) _ o' hlo ho'
 have hA:S (mid.length+1)=false:=by
  cases hA:S (mid.length+1)with
  | false=>rfl
  | true=>have:=hbefj _ (by omega) hA _ (D.all m hm);rw[hSi]at this;cases this
 have hB:=no2 hA
 have hsame:∀t∈mid[m].looks++mid[m].dst.toList,∀j (hj:j<mid.length),j≠m->mid[j].dst=some t->(S (j+1)=decide (j<m)):=by
  intro t ht j hj hne hd;rcases D.cmp m hm t ht j hj hd hne with⟨g1,g2⟩|⟨g1,g2⟩
  .rw[hbef _ g2];simp[g1]
  .have:¬S (j+1)=true:=fun hjl=>by
    have:=hbefj (j+1) (by omega) hjl _ g2;rw[hSi]at this;cases this
   have e:S (j+1)=false:=by simpa using this
   rw[e];simp;omega
 obtain⟨ρi,hL,hρi⟩:=hloc m hm (by omega)
 have hgetL:∀t∈mid[m].looks,get ρi t=get (az (ax mid xs 1 S) ρ) t:=by
  intro t ht;rw[hρi t];refine cQ _ _ ρ t (by rw[hsteps,hsteps]) (fun j g1 g2=>?_);rw[hsteps]at g1;rw[hsg _ j (by rw[hsteps];exact g1) g1,hsg _ j (by rw[hsteps];exact g1) g1];refine⟨rfl,rfl,fun hd=>?_⟩;by_cases e:j=m
  .subst e;rw[hSi];simp;omega
  .rw[hsame t (by simp[ht]) j g1 e hd,decide_eq_decide];omega
 have hnext:∀t,get (az (ax mid xs 1 fun j=>j==m+1||S j) ρ) t=get (Go.Proofs.YthekkgfmagliiaaGreatDoor.putd (az (ax mid xs 1 S) ρ) mid[m].dst (xs[m]'(by omega))) t:=by
  intro t;rw[cz];split
  .rename_i e
   have:=iW (ax mid xs 1 fun j=>j==m+1||S j) ρ m (by rw[hsteps];exact hm) t (by rw[hsg _ m _ hm];exact e) (by rw[hsg _ m _ hm];simp) (fun j hj hij hd=>by
    rw[hsteps]at hj;rw[hsg _ j _ hj]at hd ⊢;simp only at hd ⊢;rw[hsame t (by simp[e]) j hj (by omega) hd];simp;omega)
   rw[this,hsg _ m _ hm]
  .rename_i e;refine cQ _ _ ρ t (by rw[hsteps,hsteps]) (fun j g1 g2=>?_);rw[hsteps]at g1;rw[hsg _ j (by rw[hsteps];exact g1) g1,hsg _ j (by rw[hsteps];exact g1) g1];refine⟨rfl,rfl,fun hd=>?_⟩;simp only at hd ⊢;have hne:j≠m:=fun ee=>by subst ee;exact e hd
   simp[hne]
 have hdst:mid[m].dst=o'.dst:=by
  have:=hoo;unfold okO at this;simp only[RC,beq_iff_eq]at this;exact this.1.1.2
 have hdn:∀d,o'.dst=some d->d<n:=by
  have:=hoo;unfold okO at this;simp only[RC]at this;intro d hd;have:=this.1.2;rw[hd]at this;simpa using this
 have hgd:=hoo;unfold okO at hgd;simp only[RC]at hgd;replace hgd:=hgd.2;have hdf:∀t,mid[m].dst=some t->t≠s/\t≠d0/\t≠d1:=fun t ht=>D.free m hm t (by simp[ht]);rw[hSt,hA,hB]at h
 have eS':∀t,get (putd (stB s d0 d1 T' k' rows r2 false false (S 0) (az (ax mid xs 1 S) ρ)) mid[m].dst (xs[m]'(by omega))) t=get (St fun j=>j==m+1||S j) t:=fun t=>by
  have e1:(mid.length+2==m+1)=false:=by simp;omega
  have e2:(mid.length+1==m+1)=false:=by simp;omega
  have e3:(0==m+1)=false:=by simp
  rw[I0 hdf,hSt];simp only[e1,e2,e3,hA,hB,RD];exact(oJ hnext t).symm
 have hL2:Loc C mid[m] (stB s d0 d1 T' k' rows r2 false false (S 0) (az (ax mid xs 1 S) ρ)) σ (xs[m]'(by omega)):=hL.congr fun t ht=>by
  rw[hgetL t ht,ri (D.free m hm t (by simp[ht]))]
 have exec:bI C mid[m].op (stB s d0 d1 T' k' rows r2 false false (S 0) (az (ax mid xs 1 S) ρ)) σ (fun v=>v=xs[m]'(by omega))->o'.wp C.P a w (lg M bm pr w n fun ρ' σ'=>(∀t,get ρ' t=get (St fun j=>j==m+1||S j) t)/\σ'=σ) (bC M bm pr w n fun _ _ _=>False):=fun hc=>
  done _ (fun ρ' σ' ⟨e1,e2⟩=>⟨fun t=>by rw[e1];exact eS' t,e2⟩) (cy (Q:=fun _ _ _=>False) (hG.mono hl) h hoo (m3 hc))
 unfold Loc at hL2;split at hL2
 .rename_i hg;rw[if_pos (gt _ hlo hg)];exact exec hL2
 .rename_i t want hg;rw[hg]at hgd;split at hgd
  .rename_i e _;cases e
  .rename_i t' b' j b'' e hg2;cases e;simp only[RC,beq_iff_eq]at hgd;obtain⟨rfl,hj⟩:=hgd;split at hL2
   .rename_i b hb;have hy:=ic h hb hj;by_cases hbw:b=want
    .rw[if_pos (by simp[Region.wanted,hg2,hy,hbw])];exact exec (hL2.1 hbw)
    .rw[if_neg (by simp[Region.wanted,hg2,hy,hbw])];have hx:=hL2.2 hbw;refine(h.putd hdn jt (by simp)).congr fun t=>?_;rw[<-eS' t,hx,hdst]
   .rename_i hb;have hy:=kP h hb hj;rw[if_neg (by simp[Region.wanted,hg2,hy])];refine(h.putd hdn jt (by simp)).congr fun t=>?_;rw[<-eS' t,hL2,hdst]
   .exact hL2.elim
  .cases hgd
end
end Go.Proofs.YthekkgfmagliiaaGreatDoor
namespace Go.Proofs.YthekkgfmagliiaaGreatDoor
open Go.RowKit
section
variable {C : Cx} {pr : Prot} {n : Nat} {Q : AEx -> ah -> LLV -> Prop}
theorem lD{M0:an}{bm0:List Nat}{w0:World}{id:Nat}{ops:Array Oper}{M:an}{bm:List Nat}{tk:bP}{a:Act}{w:World}(St:(Nat->Bool)->ah)(Sg:(Nat->Bool)->LLV)(ρf:ah)(σf:LLV)(I:(Nat->Bool)->Prop)(hI0:I fun _=>false)(hIext:∀S S',(∀j,j<ops.size->S j=S' j)->I S->I S')
 (hlt:∀(i:Nat) (o:Oper),ops.toList[i]? = some o->∀j∈aW o,j<i)
 (hext:∀S S',(∀j,j<ops.size->S j=S' j)->(∀t,get (St S) t=get (St S') t)/\Sg S=Sg S')
 (hl:Later M0 bm0 pr w0 M bm w)(h:SRel M bm tk pr (St fun _=>false) (Sg fun _=>false) n a w)
 (hf:I (fun _=>true)->((∀t,get ρf t=get (St fun _=>true) t)/\σf=Sg fun _=>true)/\Q .normal ρf σf)
 (step:∀(S:Nat->Bool) (i:Nat) (o:Oper),ops.toList[i]? = some o->S i=false->(∀(j:Nat) (p:Oper),ops.toList[j]? = some p->S j=true->∀e∈aW p,S e=true)->(∀e∈aW o,S e=true)->
   I S->∀(M:an) (bm:List Nat) (tk:bP) (a:Act) (w:World),Later M0 bm0 pr w0 M bm w->SRel M bm tk pr (St S) (Sg S) n a w->
    if Region.wanted o (yielded ops a.tmps)then o.wp C.P a w (lg M bm pr w n fun ρ' σ'=>(∀t,get ρ' t=get (St fun j=>j==i||S j) t)/\σ'=(Sg fun j=>j==i||S j)/\I fun j=>j==i||S j) (bC M bm pr w n Q)
    else SRel M bm tk pr (St fun j=>j==i||S j) (Sg fun j=>j==i||S j) n (a.put o.dst undef) w/\I fun j=>j==i||S j):
 (Code.region id ops true).wp C.P (bC M0 bm0 pr w0 n Q) a w:=by
 refine wp_region_any C.mixed ?_
 suffices H:∀(fuel:Nat) (listed:Array Bool) (M:an) (bm:List Nat) (tk:bP) (a:Act) (w:World),Later M0 bm0 pr w0 M bm w->SRel M bm tk pr (St fun i=>listed.getD i false) (Sg fun i=>listed.getD i false) n a w->I (fun i=>listed.getD i false)->listed.size=ops.size->
  (∀(i:Nat) (o:Oper),ops.toList[i]? = some o->listed.getD i false=true->∀j∈aW o,listed.getD j false=true)->(listed.toList.filter (! ·)).length=fuel->wpAny C.P .any ops (bC M0 bm0 pr w0 n Q) fuel listed a w by
  obtain⟨h1,h2⟩:=h.ext (eW.drew w)
  have hrep:∀j,(Ry ops.size false).getD j false=false:=fun j=>by
   simp only[Rs,RA];split<;>rfl
  obtain⟨e1,e2⟩:=hext (fun i=>(Ry ops.size false).getD i false) (fun _=>false) (fun j _=>hrep j);refine H ops.size (Ry ops.size false) M bm tk a w.drew (hl.trans h2 (fun _ h=>h)) ?_ (hIext _ _ (fun j _=>(hrep j).symm) hI0) (by simp) (fun i o ho hi=>?_) (by simp)
  .rw[e2];exact h1.congr e1
  .rw[hrep]at hi;cases hi
 intro fuel
 induction fuel with
 | zero=>
  intro listed M bm tk a w hl h hI hsz hcl hcnt
  have hall:∀i,i<ops.size->listed.getD i false=true:=fun i hi=>by
   have hb:listed[i]? = some (listed[i]'(by omega)):=Ru _;rw[Rs,hb,Su];have hne:listed.toList.filter (! ·)=[]:=R8 hcnt;have:=List.filter_eq_nil_iff.1 hne (listed[i]'(by omega)) (by simp);simpa using this
  obtain⟨e1,e2⟩:=hext (fun i=>listed.getD i false) (fun _=>true) hall;obtain⟨hf,hq⟩:=hf (hIext _ _ hall hI);refine⟨?_,M,bm,tk,ρf,σf,.normal,hq,.normal,?_,hl⟩
  .unfold Region.ready;rw[R5];intro i hi;have hi':i<ops.size:=by simpa using hi
   have h9:=hall i hi'
   have:listed.getD i true=true:=by
    have hb:listed[i]? = some (listed[i]'(by omega)):=Ru _;rw[Rs,hb,Su]at h9 ⊢;exact h9
   simp[this]
  .rw[hf.2,<-e2];exact h.congr fun t=>(hf.1 t).trans (e1 t).symm
 | succ fuel ih=>
  intro listed M bm tk a w hl h hI hsz hcl hcnt;refine⟨fun hnil=>?_,fun i hi=>?_⟩
  .exfalso
   have hex:∃i,i<ops.size/\listed.getD i false=false:=by
    apply RO;intro hno
    have hne:listed.toList.filter (! ·)=[]:=by
     rw[R5];intro b hb;obtain⟨i,hi,rfl⟩:=RU hb;have hi':i<listed.size:=by simpa using hi
     have h9:¬listed.getD i false=false:=fun e=>hno ⟨i,by omega,e⟩;have hb:listed[i]? = some listed[i]:=Ru hi';rw[Rs,hb,Su]at h9;simpa using h9
    rw[hne]at hcnt;simp at hcnt
   have hmin:∃i,i<ops.size/\listed.getD i false=false/\∀j,j<i->listed.getD j false=true:=by
    obtain⟨i,h1,h2⟩:=hex
    induction i using So with
    | _ i ihm=>
    by_cases hj:∃j,j<i/\listed.getD j false=false
    .obtain⟨j,g1,g2⟩:=hj;exact ihm j g1 (by omega) g2
    .exact⟨i,h1,h2,fun j hji=>by
      cases hb:listed.getD j false with
      | true=>rfl
      | false=>exact absurd ⟨j,hji,hb⟩ hj⟩
   obtain⟨i,h1,h2,h3⟩:=hmin;have hio:i<ops.toList.length:=by simpa using h1
   have:i∈Region.ready .any ops listed:=by
    unfold Region.ready;rw[R0];refine⟨by simp;omega,?_⟩
    have ht:listed.getD i true=false:=by
     have hb:listed[i]? = some (listed[i]'(by omega)):=Ru _;rw[Rs,hb,Su]at h2 ⊢;exact h2
    have ho:ops[i]? = some (ops[i]'(by omega)):=Ru _;rw[ht,ho];simp only[RH,RJ,Sw,Su];rw[<-Rz,RR];intro e he;cases hb:Region.binds .any e with
    | false=>rfl
    | true=>
     have:e.on∈aW (ops[i]'(by omega)):=by
      unfold aW;exact List.mem_map.2 ⟨e,List.mem_filter.2 ⟨he,hb⟩,rfl⟩
     simp[h3 e.on (hlt i _ (by rw[RP hio];simp) e.on this)]
   rw[hnil]at this;cases this
  .unfold Region.ready at hi;rw[R0]at hi;obtain⟨hir,hic⟩:=hi;have hi1:i<ops.size:=by simpa using hir
   have ho:ops[i]? = some ops[i]:=Ru hi1;have hoL:ops.toList[i]? = some ops[i]:=by rw[Rw];exact ho
   rw[ho]at hic;simp only[Sw,Su,RC,RG]at hic;obtain⟨hun,hed⟩:=hic
   have hun':listed[i]? = some false:=by
    have hb:listed[i]? = some (listed[i]'(by omega)):=Ru _;rw[Rs,hb,Su]at hun;rw[hb,hun]
   have hunf:listed.getD i false=false:=by rw[Rs,hun'];rfl
   have hedge:∀j∈aW ops[i],listed.getD j false=true:=by
    intro j hj;unfold aW at hj;obtain⟨e,he,rfl⟩:=List.mem_map.1 hj;rw[R0]at he;rw[<-Rz,RR]at hed;have:=hed e he.1;simpa[he.2]using this
   have hset:∀j,(listed.setIfInBounds i true).getD j false=(j==i||listed.getD j false):=fun j=>by
    rw[Rs,Rs];by_cases e:j=i
    .subst e;rw[Rv (by omega)];simp
    .rw[Rx (Ne.symm e)];simp[e]
   have hnextcl:∀(q:Nat) (o:Oper),ops.toList[q]? = some o->(listed.setIfInBounds i true).getD q false=true->∀j∈aW o,(listed.setIfInBounds i true).getD j false=true:=by
    intro q o hqo hql j hj;rw[hset]at hql ⊢;simp only[RE,beq_iff_eq]at hql ⊢;rcases hql with rfl|hql
    .rw[hoL]at hqo;cases hqo;exact .inr (hedge j hj)
    .exact .inr (hcl q o hqo hql j hj)
   have hnextc:((listed.setIfInBounds i true).toList.filter (! ·)).length=fuel:=by
    have:=lO listed.toList i (by rw[Rw];exact hun');rw[RB];omega
   obtain⟨e1,e2⟩:=hext (fun j=>(listed.setIfInBounds i true).getD j false) (fun j=>j==i||listed.getD j false) (fun j _=>hset j);have hst:=step (fun j=>listed.getD j false) i ops[i] hoL hunf hcl hedge hI M bm tk a w hl h;unfold wpOp;rw[ho];simp only;split at hst
   .rename_i hw;rw[if_pos hw];refine .inl (Oper.wp_mono2 (fun a' w' hL=>?_) (fun e a' w' hL=>?_) hst)
    .obtain⟨M',bm',tk',ρ',σ',⟨k0,rfl,kI⟩,k2,k3⟩:=hL;refine ih _ M' bm' tk' a' w' (hl.trans k3 (fun _ h=>h)) ?_ (hIext _ _ (fun j _=>(hset j).symm) kI) (by simp[hsz]) hnextcl hnextc;rw[e2];exact k2.congr fun t=>(e1 t).trans (k0 t).symm
    .exact bC.trans hl hL
   .rename_i hw;rw[if_neg hw];refine ih _ M bm tk _ w hl ?_ (hIext _ _ (fun j _=>(hset j).symm) hst.2) (by simp[hsz]) hnextcl hnextc;rw[e2];exact hst.1.congr e1
end
def xL(pre:List O)(d:Option Nat)(f:FuncId)(args:List X)(post:List O)(kk:Nat)(y z:X):List O:=pre++⟨d,.call f args,none⟩::(post++[⟨none,.sto kk y z,none⟩])
section
variable {pre post : List O} {d : Option Nat} {f : FuncId} {args : List X} {kk : Nat} {y z : X}
theorem FY:(xL pre d f args post kk y z).length=pre.length+post.length+2:=by simp[xL];omega
theorem ux{i:Nat}(h:i<pre.length):(xL pre d f args post kk y z)[i]? = some pre[i]:=by
 unfold xL;rw[RS h,RP h]
theorem AC:(xL pre d f args post kk y z)[pre.length]? = some ⟨d,.call f args,none⟩:=by
 unfold xL;rw[RQ (Sm _)];simp
theorem IU{m:Nat}(h:m<post.length):(xL pre d f args post kk y z)[pre.length+1+m]? = some post[m]:=by
 unfold xL;rw[RQ (by omega),show pre.length+1+m-pre.length=m+1 by omega,RX,RS h,RP h]
theorem Kp:(xL pre d f args post kk y z)[pre.length+1+post.length]? = some ⟨none,.sto kk y z,none⟩:=by
 unfold xL;rw[RQ (by omega),show pre.length+1+post.length-pre.length=post.length+1 by omega,RX,RQ (Sm _)];simp
end
def gO(np nq:Nat)(l:List O)(os:List Oper):Bool:=
 let bf:=aY os []
 ((RY os.length).all fun i=>match os[i]? with|some o=>(aW o).all fun j=>decide (j<i)|none=>true) &&
 (((RY l.length).all fun i=>match l[i]? with
   | some o=>(o.looksN++o.dst.toList).all fun t=>(RY l.length).all fun j=>j==i||(match l[j]? with
    | some q=>q.dst != some t||(if j<i then(bf.getD i []).contains j else(bf.getD j []).contains i)
    | none=>true)
   | none=>true) &&
 (((RY nq).all fun m=>(bf.getD (np+1+m) []).contains np) &&
 (((RY (np+1+nq)).all fun i=>(bf.getD (np+1+nq) []).contains i) &&
 ((RY np).all fun i=>match l[i]? with
   | some o=>o.dst.isSome&&(RY np).all fun j=>j==i||(match l[j]? with|some q=>q.dst != o.dst|none=>true)
   | none=>true))))
structure OKX(np nq:Nat)(l:List O)(os:List Oper):Prop where
 lt:∀(i:Nat) (o:Oper),os[i]? = some o->∀j∈aW o,j<i
 cmp:∀(i:Nat) (o:O),l[i]? = some o->∀t∈o.looksN++o.dst.toList,∀(j:Nat) (q:O),l[j]? = some q->q.dst=some t->j≠i->(j<i/\j∈(aY os []).getD i [])\/(i<j/\i∈(aY os []).getD j [])
 after:∀m,m<nq->np∈(aY os []).getD (np+1+m) []
 last:∀i,i<np+1+nq->i∈(aY os []).getD (np+1+nq) []
 pdst:∀(i:Nat) (o:O),i<np->l[i]? = some o->∃t,o.dst=some t/\∀(j:Nat) (q:O),j<np->l[j]? = some q->j≠i->q.dst≠some t
theorem j7{np nq:Nat}{l:List O}{os:List Oper}(h:gO np nq l os=true):OKX np nq l os:=by
 unfold gO at h;simp only[RC]at h;obtain⟨h1,h2,h3,h4,h5⟩:=h;simp only[RR,RZ]at h1 h2 h3 h4 h5;refine⟨fun i o ho j hj=>?_,fun i o ho t ht j q hp hd hne=>?_,fun m hm=>by simpa using h3 m hm,fun i hi=>by simpa using h4 i hi,fun i o hi ho=>?_⟩
 .have:=h1 i (List.getElem?_eq_some_iff.1 ho).1;rw[ho]at this;simpa using List.all_eq_true.1 this j hj
 .have h1:=h2 i (List.getElem?_eq_some_iff.1 ho).1;rw[ho]at h1;simp only[RR,RZ]at h1;have h2:=h1 t ht j (List.getElem?_eq_some_iff.1 hp).1;rw[hp]at h2;simp only[hd,RE,beq_iff_eq,bne_self_eq_false,RF,false_or]at h2;rcases h2 with h2|h2
  .exact absurd h2 hne
  .split at h2
   .exact .inl ⟨by assumption,by simpa using h2⟩
   .exact .inr ⟨by omega,by simpa using h2⟩
 .have:=h5 i hi;rw[ho]at this;simp only[RC,RR,RZ]at this;obtain⟨g1,g2⟩:=this;obtain⟨t,ht⟩:=Option.isSome_iff_exists.1 g1;refine⟨t,ht,fun j q hj hq hne hd=>?_⟩;have:=g2 j hj;rw[hq]at this;simp only[hd,ht,RE,beq_iff_eq,bne_self_eq_false,RF,or_false]at this;exact hne this
theorem jK:∀{l:List O} {xs:List V} {k:Nat} {S:Nat->Bool},(∀j,k≤j->S j=false)->∀p∈ax l xs k S,p.2.2=false
 | [],_,_,_,_,p,hp=>by simp[ax]at hp
 | _::_,[],_,_,_,p,hp=>by simp[ax]at hp
 | o::l,x::xs,k,S,h,p,hp=>by
  simp only[ax,List.mem_cons]at hp;rcases hp with rfl|hp
  .exact h k (Sm _)
  .exact jK (fun j hj=>h j (by omega)) p hp
theorem eQ:∀{l:List O} {xs:List V} {k:Nat} {S S':Nat->Bool},(∀j,k≤j->j<k+l.length->S j=S' j)->ax l xs k S=ax l xs k S'
 | [],_,_,_,_,_=>by simp[ax]
 | _::_,[],_,_,_,_=>by simp[ax]
 | o::l,x::xs,k,S,S',h=>by
  simp only[ax];rw[h k (Sm _) (by simp),eQ (l:=l) (xs:=xs) (k:=k+1) fun j h1 h2=>h j (by omega) (by simp only[R6];omega)]
theorem lP:∀{a b:List O} {xs ys:List V} {k:Nat} {S:Nat->Bool},xs.length=a.length->ax (a++b) (xs++ys) k S=ax a xs k S++ax b ys (k+a.length) S
 | [],_,[],_,_,_,_=>rfl
 | o::a,b,x::xs,ys,k,S,h=>by
  simp only[Sf,ax,R6];rw[lP (by simpa using h),show k+1+a.length=k+(a.length+1)by omega]
 | [],_,_::_,_,_,_,h=>by simp at h
 | _::_,_,[],_,_,_,h=>by simp at h
theorem lv{l:List (Option Nat×V×Bool)}(h:∀p∈l,p.2.2=false)(ρ:ah)(t:Nat):get (az l ρ) t=get ρ t:=em l ρ t fun p hp _=>h p hp
section
variable {C : Cx} {pr : Prot} {ρ : ah} {σ : LLV} {n : Nat} {Q : AEx -> ah -> LLV -> Prop}
def HT(C:Cx)(pre:List O)(d:Option Nat)(f:FuncId)(args:List X)(post:List O)(kk:Nat)(y z:X)(ρ:ah)(σ:LLV)(K:ah->LLV->Prop)(P:V->LLV->Prop):Prop:=
 aS C pre ρ σ fun ρ1=>
  (∃v σ1,Fun C f (args.map fun x=>(ev C ρ1 x).lend) σ (fun o σ'=>o=.ret v/\σ'=σ1)/\aS C pre ρ σ1 (fun ρ'=>ρ'=ρ1)/\aS C post (putd ρ1 d v) σ1 fun ρ2=>
    ∃i off cs,ev C ρ2 y=.ptr i off/\σ1[i]? = some cs/\((ev C ρ2 z).boxable=true/\(ev C ρ2 z).cells.length=kk/\off+kk≤cs.length/\cV cs=true)/\K ρ2 (σ1.set i (over cs off (ev C ρ2 z).cells)))\/
  Fun C f (args.map fun x=>(ev C ρ1 x).lend) σ (fun o σ'=>∃u,o=.panic u/\P u σ')
theorem mV{M:an}{bm:List Nat}{tk:bP}{a:Act}{w:World}{ops:Array Oper}{o:O}{o':Oper}{x:V}(hG:C.glob M pr w)(h:SRel M bm tk pr ρ σ n a w)(hoo:okO C.tab n ops o o'=true)(hL:Loc C o ρ σ x):
 if Region.wanted o' (yielded ops a.tmps)then o'.wp C.P a w (lg M bm pr w n fun ρ' σ'=>ρ'=putd ρ o.dst x/\σ'=σ) (bC M bm pr w n Q)else SRel M bm tk pr (putd ρ o.dst x) σ n (a.put o'.dst undef) w:=by
 have hdst:o.dst=o'.dst:=by
  have:=hoo;unfold okO at this;simp only[RC,beq_iff_eq]at this;exact this.1.1.2
 have hdn:∀d,o'.dst=some d->d<n:=by
  have:=hoo;unfold okO at this;simp only[RC]at this;intro d hd;have:=this.1.2;rw[hd]at this;simpa using this
 have hgd:=hoo;unfold okO at hgd;simp only[RC]at hgd;replace hgd:=hgd.2
 have exec:bI C o.op ρ σ (fun v=>v=x)->o'.wp C.P a w (lg M bm pr w n fun ρ' σ'=>ρ'=putd ρ o.dst x/\σ'=σ) (bC M bm pr w n Q):=fun hc=>
  Oper.wp_mono2 (fun _ _ hh=>hh) (fun e a' w' ⟨_,_,_,_,_,_,hf,_⟩=>hf.elim) (cy (Q:=fun _ _ _=>False) hG h hoo (m3 hc))
 unfold Loc at hL;split at hL
 .rename_i hg;rw[hg]at hgd;split at hgd
  .rename_i hg2;rw[if_pos (by simp[Region.wanted,hg2])];exact exec hL
  .rename_i e _;cases e
  .cases hgd
 .rename_i t want hg;rw[hg]at hgd;split at hgd
  .rename_i e _;cases e
  .rename_i t' b' j b'' e hg2;cases e;simp only[RC,beq_iff_eq]at hgd;obtain⟨rfl,hj⟩:=hgd;split at hL
   .rename_i b hb;have hy:=ic h hb hj;by_cases hbw:b=want
    .rw[if_pos (by simp[Region.wanted,hg2,hy,hbw])];exact exec (hL.1 hbw)
    .rw[if_neg (by simp[Region.wanted,hg2,hy,hbw])];rw[hL.2 hbw,hdst];exact h.putd hdn jt (by simp)
   .rename_i hb;have hy:=kP h hb hj;rw[if_neg (by simp[Region.wanted,hg2,hy])];rw[hL,hdst];exact h.putd hdn jt (by simp)
   .exact hL.elim
  .cases hgd
theorem lK(o:O):∀t∈o.looks,t∈o.looksN:=by
 intro t ht;unfold O.looks at ht;unfold O.looksN;rw[Sa]at ht ⊢;refine ht.imp (fun h=>?_) id;cases ho:o.op<;>rw[ho]at h<;>first|exact h|(simp[OP.slots]at h)
theorem px{L:List O}{X:List V}(hX:X.length=L.length)(ρ:ah){S:Nat->Bool}{i:Nat}{o:O}{x:V}(ho:L[i]? = some o)(hx:X[i]? = some x)(hSi:S i=false)
 (hsame:∀t∈o.looksN++o.dst.toList,∀(j:Nat) (q:O),L[j]? = some q->j≠i->q.dst=some t->S j=decide (j<i)):
 (∀t∈o.looksN,get (az (ax L X 0 fun j=>decide (j<i)) ρ) t=get (az (ax L X 0 S) ρ) t)/\
 ∀t,get (az (ax L X 0 fun j=>j==i||S j) ρ) t=get (putd (az (ax L X 0 S) ρ) o.dst x) t:=by
 have hi:=(List.getElem?_eq_some_iff.1 ho).1;have hoi:L[i]=o:=(List.getElem?_eq_some_iff.1 ho).2;have hxi:X[i]'(by omega)=x:=by rw[RP (by omega)]at hx;exact Option.some.inj hx
 have hsteps:∀S:Nat->Bool,(ax L X 0 S).length=L.length:=fun S=>fL L X 0 S hX
 have hsg:∀(S:Nat->Bool) (i:Nat) (hi:i<(ax L X 0 S).length) (h1:i<L.length),(ax L X 0 S)[i]=(L[i].dst,X[i]'(by omega),S i):=fun S i hi h1=>by
  have:=d9 L X 0 S i hi h1 (by omega);simpa using this
 refine⟨fun t ht=>?_,fun t=>?_⟩
 .refine cQ _ _ ρ t (by rw[hsteps,hsteps]) (fun j g1 g2=>?_);rw[hsteps]at g1;rw[hsg _ j (by rw[hsteps];exact g1) g1,hsg _ j (by rw[hsteps];exact g1) g1];refine⟨rfl,rfl,fun hd=>?_⟩;by_cases e:j=i
  .subst e;rw[hSi];simp
  .exact(hsame t (by simp[ht]) j _ (RP g1) e hd).symm
 .rw[cz];split
  .rename_i e
   have:=iW (ax L X 0 fun j=>j==i||S j) ρ i (by rw[hsteps];exact hi) t (by rw[hsg _ i _ hi,hoi];exact e) (by rw[hsg _ i _ hi];simp) (fun j hj hij hd=>by
    rw[hsteps]at hj;rw[hsg _ j _ hj]at hd ⊢;simp only at hd ⊢;rw[hsame t (by simp[e]) j _ (RP hj) (by omega) hd];simp;omega)
   rw[this,hsg _ i _ hi,hxi]
  .rename_i e;refine cQ _ _ ρ t (by rw[hsteps,hsteps]) (fun j g1 g2=>?_);rw[hsteps]at g1;rw[hsg _ j (by rw[hsteps];exact g1) g1,hsg _ j (by rw[hsteps];exact g1) g1];refine⟨rfl,rfl,fun hd=>?_⟩;simp only at hd ⊢;have hne:j≠i:=fun ee=>by subst ee;rw[hoi]at hd;exact e hd
   simp[hne]
theorem Gm{pre post:List O}{d:Option Nat}{f:FuncId}{args:List X}{kk:Nat}{y z:X}{xs ys:List V}{v:V}(hxl:xs.length=pre.length)(hyl:ys.length=post.length)(S:Nat->Bool)(ρ:ah):
 az (ax (xL pre d f args post kk y z) (xs++v::(ys++[.junk])) 0 S) ρ=az (ax post ys (pre.length+1) S) (if S pre.length then putd (az (ax pre xs 0 S) ρ) d v else az (ax pre xs 0 S) ρ):=by
 unfold xL;rw[lP hxl,fU];simp only[ax,Sl,az];rw[lP hyl,fU];simp only[ax,az,putd];split<;>rfl
theorem B0{M0:an}{bm0:List Nat}{w0:World}(hG:C.glob M0 pr w0){id:Nat}{ops:Array Oper}{pre post:List O}{d:Option Nat}{f:FuncId}{args:List X}{kk:Nat}{y z:X}{M:an}{bm:List Nat}{tk:bP}{a:Act}{w:World}(hok:fQ C.tab n ops (xL pre d f args post kk y z) ops.toList=true)(hdr:gO pre.length post.length (xL pre d f args post kk y z) ops.toList=true)
 (hl:Later M0 bm0 pr w0 M bm w)(h:SRel M bm tk pr ρ σ n a w){v:V}{σ1 σf:LLV}{xs ys:List V}(hxl:xs.length=pre.length)(hyl:ys.length=post.length){ρf:ah}
 (hpre:∀i (hi:i<pre.length) (h':i<xs.length),∃ρi,(∀t,get ρi t=get (az (ax (xL pre d f args post kk y z) (xs++v::(ys++[.junk])) 0 fun j=>decide (j<i)) ρ) t)/\Loc C pre[i] ρi σ xs[i]/\Loc C pre[i] ρi σ1 xs[i])
 (hcall:∃ρi,(∀t,get ρi t=get (az (ax (xL pre d f args post kk y z) (xs++v::(ys++[.junk])) 0 fun j=>decide (j<pre.length)) ρ) t)/\Fun C f (args.map fun x=>(ev C ρi x).lend) σ (fun o σ'=>o=.ret v/\σ'=σ1))
 (hpost:∀m (hm:m<post.length) (h':m<ys.length),∃ρi,(∀t,get ρi t=get (az (ax (xL pre d f args post kk y z) (xs++v::(ys++[.junk])) 0 fun j=>decide (j<pre.length+1+m)) ρ) t)/\Loc C post[m] ρi σ1 ys[m])
 (hsto:∃ρi,(∀t,get ρi t=get (az (ax (xL pre d f args post kk y z) (xs++v::(ys++[.junk])) 0 fun j=>decide (j<pre.length+1+post.length)) ρ) t)/\∃i off cs,ev C ρi y=.ptr i off/\σ1[i]? = some cs/\((ev C ρi z).boxable=true/\(ev C ρi z).cells.length=kk/\off+kk≤cs.length/\cV cs=true)/\σf=σ1.set i (over cs off (ev C ρi z).cells))
 (hend:∀t,get ρf t=get (az (ax (xL pre d f args post kk y z) (xs++v::(ys++[.junk])) 0 fun _=>true) ρ) t)(hQ:Q .normal ρf σf):
 (Code.region id ops true).wp C.P (bC M0 bm0 pr w0 n Q) a w:=by
 obtain⟨hlen,hget⟩:=g9 hok;have D:=j7 hdr;have hLl:=FY (pre:=pre) (d:=d) (f:=f) (args:=args) (post:=post) (kk:=kk) (y:=y) (z:=z);have gpre:=fun i (hi:i<pre.length)=>ux (d:=d) (f:=f) (args:=args) (post:=post) (kk:=kk) (y:=y) (z:=z) hi;have gcall:=AC (pre:=pre) (d:=d) (f:=f) (args:=args) (post:=post) (kk:=kk) (y:=y) (z:=z);have gpost:=fun m (hm:m<post.length)=>IU (pre:=pre) (d:=d) (f:=f) (args:=args) (kk:=kk) (y:=y) (z:=z) hm;have gsto:=Kp (pre:=pre) (d:=d) (f:=f) (args:=args) (post:=post) (kk:=kk) (y:=y) (z:=z);generalize hL:xL pre d f args post kk y z=L at *;obtain⟨X,hX⟩:∃X,X=xs++v::(ys++[V.junk]):=⟨_,rfl⟩
 rw[<-hX]at hpre hcall hpost hsto hend;have hXl:X.length=L.length:=by rw[hLl,hX];simp[hxl,hyl];omega
 have xpre:∀i (hi:i<xs.length),X[i]? = some xs[i]:=fun i hi=>by rw[hX,RS hi,RP hi]
 have xcall:X[pre.length]? = some v:=by rw[hX,RQ (by omega),hxl];simp
 have xpost:∀m (hm:m<ys.length),X[pre.length+1+m]? = some ys[m]:=fun m hm=>by
  rw[hX,RQ (by omega),hxl,show pre.length+1+m-pre.length=m+1 by omega,RX,RS hm,RP hm]
 have xsto:X[pre.length+1+post.length]? = some .junk:=by
  rw[hX,RQ (by omega),hxl,show pre.length+1+post.length-pre.length=post.length+1 by omega,RX,RQ (by omega),hyl];simp
 have hnl:L.length=ops.size:=by rw[hlen];simp
 obtain⟨St,hSt⟩:∃St:(Nat->Bool)->ah,∀S,St S=az (ax L X 0 S) ρ:=⟨fun S=>az (ax L X 0 S) ρ,fun _=>rfl⟩
 obtain⟨Sg,hSg⟩:∃Sg:(Nat->Bool)->LLV,∀S,Sg S=if S (pre.length+1+post.length)=true then σf else if S pre.length=true then σ1 else σ:=⟨fun S=>if S (pre.length+1+post.length)=true then σf else if S pre.length=true then σ1 else σ,fun _=>rfl⟩
 refine lD (M:=M) (bm:=bm) (tk:=tk) St Sg ρf σf (fun _=>True) trivial (fun _ _ _ _=>trivial) D.lt (fun S S' hS=>⟨fun t=>?_,?_⟩) hl ?_ (fun _=>⟨⟨fun t=>?_,?_⟩,hQ⟩) ?_
 .rw[hSt,hSt,eQ (l:=L) (xs:=X) (k:=0) (S:=S) (S':=S') fun j _ hj=>hS j (by omega)]
 .rw[hSg,hSg,hS _ (by omega),hS _ (by omega)]
 .have h0:Sg (fun _=>false)=σ:=by rw[hSg];simp
  rw[h0];exact h.congr fun t=>by rw[hSt];exact lv (jK fun _ _=>rfl) ρ t
 .rw[hSt];exact hend t
 .rw[hSg];simp
 intro S i o' ho' hSi hclo hedge _ M bm tk a w hl h;have hi1:i<ops.toList.length:=(List.getElem?_eq_some_iff.1 ho').1;have hi2:i<L.length:=by omega
 have hbef:∀j∈(aY ops.toList []).getD i [],S j=true:=bO D.lt (S:=fun j=>S j=true) hclo i o' ho' hedge
 have hbefj:∀q,q<L.length->S q=true->∀j∈(aY ops.toList []).getD q [],S j=true:=fun q hq hSq=>by
  have hq2:ops.toList[q]? = some ops.toList[q]:=RP (by omega);exact bO D.lt (S:=fun j=>S j=true) hclo q _ hq2 (hclo q _ hq2 hSq)
 have hsame:∀o,L[i]? = some o->∀t∈o.looksN++o.dst.toList,∀(j:Nat) (q:O),L[j]? = some q->j≠i->q.dst=some t->S j=decide (j<i):=by
  intro o hlo t ht j q hj hne hd;rcases D.cmp i o hlo t ht j q hj hd hne with⟨g1,g2⟩|⟨g1,g2⟩
  .rw[hbef j g2];simp[g1]
  .have:¬S j=true:=fun hjl=>by
    have:=hbefj j (List.getElem?_eq_some_iff.1 hj).1 hjl i g2;rw[hSi]at this;cases this
   have e:S j=false:=by simpa using this
   rw[e];simp;omega
 have noP:i≠pre.length+1+post.length->S (pre.length+1+post.length)=false:=fun hne=>by
  have:¬S (pre.length+1+post.length)=true:=fun hh=>by
   have:=hbefj _ (by omega) hh i (D.last i (by omega));rw[hSi]at this;cases this
  simpa using this
 have wrapC:∀(o:O) (x:V) (σ2:LLV),L[i]? = some o->X[i]? = some x->Sg S=σ2->(Sg fun j=>j==i||S j)=σ2->Loc C o (az (ax L X 0 S) ρ) σ2 x->
  if Region.wanted o' (yielded ops a.tmps)then o'.wp C.P a w (lg M bm pr w n fun ρ' σ'=>(∀t,get ρ' t=get (St fun j=>j==i||S j) t)/\σ'=(Sg fun j=>j==i||S j)/\True) (bC M bm pr w n Q)
  else SRel M bm tk pr (St fun j=>j==i||S j) (Sg fun j=>j==i||S j) n (a.put o'.dst undef) w/\True:=by
  intro o x σ2 hlo hx e1 e2 hLoc;obtain⟨-,hn⟩:=px hXl ρ hlo hx hSi (hsame o hlo);rw[hSt,e1]at h;have:=mV (Q:=Q) (hG.mono hl) h (hget i o o' hlo ho') hLoc;rw[e2];split at this
  .rename_i hw;rw[if_pos hw];exact Oper.wp_mono2 (fun a' w' ⟨M',bm',tk',ρ',σ',⟨k1,k2⟩,k3,k4⟩=>⟨M',bm',tk',ρ',σ',⟨fun t=>by rw[k1,hSt];exact(hn t).symm,k2,trivial⟩,k3,k4⟩) (fun e a' w' hh=>hh) this
  .rename_i hw;rw[if_neg hw];exact⟨this.congr fun t=>by rw[hSt];exact hn t,trivial⟩
 by_cases c1:i<pre.length
 .obtain⟨ρi,g1,g2,g3⟩:=hpre i c1 (by omega);obtain⟨hgl,-⟩:=px hXl ρ (gpre i c1) (xpre i (by omega)) hSi (hsame _ (gpre i c1));have hP:=noP (by omega);have ne1:(pre.length+1+post.length==i)=false:=by simp;omega
  have ne2:(pre.length==i)=false:=by simp;omega
  have cg:∀t∈pre[i].looks,get ρi t=get (az (ax L X 0 S) ρ) t:=fun t ht=>by rw[g1 t];exact hgl t (lK _ t ht)
  cases hn:S pre.length with
  | true=>exact wrapC _ _ σ1 (gpre i c1) (xpre i (by omega)) (by rw[hSg,hP,hn];simp) (by rw[hSg];simp[ne1,ne2,hP,hn]) (g3.congr cg)
  | false=>exact wrapC _ _ σ (gpre i c1) (xpre i (by omega)) (by rw[hSg,hP,hn];simp) (by rw[hSg];simp[ne1,ne2,hP,hn]) (g2.congr cg)
 by_cases c2:i=pre.length
 .subst c2;obtain⟨ρi,g1,g2⟩:=hcall;obtain⟨hgl,hn⟩:=px hXl ρ gcall xcall hSi (hsame _ gcall);have hP:=noP (by omega);have e1:Sg S=σ:=by rw[hSg,hP,hSi];simp
  have e2:(Sg fun j=>j==pre.length||S j)=σ1:=by
   have ne1:(pre.length+1+post.length==pre.length)=false:=by simp;omega
   rw[hSg];simp only[ne1,hP,RD,beq_self_eq_true,RM];simp
  have ea:(args.map fun x=>(ev C ρi x).lend)=args.map fun x=>(ev C (az (ax L X 0 S) ρ) x).lend:=RW fun x hx=>by
   rw[bT (ρ:=ρi) (ρ':=az (ax L X 0 S) ρ) fun t ht=>by rw[g1 t];exact hgl t (by simp only[O.looksN,OP.slotsN,OP.slots,Sj];exact List.mem_flatMap.2 ⟨x,hx,ht⟩)]
  rw[ea]at g2;rw[hSt,e1]at h;have hoo:=hget pre.length _ o' gcall ho'
  have hwant:Region.wanted o' (yielded ops a.tmps)=true:=by
   have hgd:=hoo;unfold okO at hgd;simp only[RC]at hgd;replace hgd:=hgd.2;split at hgd
   .rename_i hg2;simp[Region.wanted,hg2]
   .rename_i e _;cases e
   .cases hgd
  rw[if_pos hwant,e2];refine Oper.wp_mono2 (fun a' w' ⟨M',bm',tk',ρ',σ',⟨k1,k2⟩,k3,k4⟩=>⟨M',bm',tk',ρ',σ',⟨fun t=>by rw[k1,hSt];exact(hn t).symm,k2,trivial⟩,k3,k4⟩) (fun e a' w' ⟨_,_,_,_,_,_,hf,_⟩=>hf.elim) (cy (K:=fun ρ' σ'=>ρ'=putd (az (ax L X 0 S) ρ) d v/\σ'=σ1) (Q:=fun _ _ _=>False) (hG.mono hl) h hoo ?_);exact g2.mono fun o σ' ⟨e1,e2⟩=>by subst e1;exact⟨rfl,e2⟩
 by_cases c3:i<pre.length+1+post.length
 .obtain⟨m,rfl⟩:∃m,i=pre.length+1+m:=⟨i-(pre.length+1),by omega⟩
  have hm:m<post.length:=by omega
  obtain⟨ρi,g1,g2⟩:=hpost m hm (by omega);obtain⟨hgl,-⟩:=px hXl ρ (gpost m hm) (xpost m (by omega)) hSi (hsame _ (gpost m hm));have hP:=noP (by omega);have hN:=hbef _ (D.after m hm);have ne1:(pre.length+1+post.length==pre.length+1+m)=false:=by simp;omega
  have ne2:(pre.length==pre.length+1+m)=false:=by simp;omega
  exact wrapC _ _ σ1 (gpost m hm) (xpost m (by omega)) (by rw[hSg,hP,hN];simp) (by rw[hSg];simp only[ne1,ne2,hP,hN,RD];simp) (g2.congr fun t ht=>by rw[g1 t];exact hgl t (lK _ t ht))
 .have c4:i=pre.length+1+post.length:=by omega
  subst c4;obtain⟨ρi,g1,i0,off,cs,k1,k2,k3,k4⟩:=hsto;obtain⟨hgl,hn⟩:=px hXl ρ gsto xsto hSi (hsame _ gsto);have hN:=hbef _ (D.last pre.length (by omega));have e1:Sg S=σ1:=by rw[hSg,hSi,hN];simp
  have e2:(Sg fun j=>j==pre.length+1+post.length||S j)=σf:=by rw[hSg];simp
  have evy:ev C (az (ax L X 0 S) ρ) y=.ptr i0 off:=by
   rw[<-k1];exact(bT fun t ht=>by rw[g1 t];exact hgl t (by simp[O.looksN,OP.slotsN,ht])).symm
  have evz:ev C (az (ax L X 0 S) ρ) z=ev C ρi z:=(bT fun t ht=>by rw[g1 t];exact hgl t (by simp[O.looksN,OP.slotsN,ht])).symm;rw[hSt,e1]at h;have hoo:=hget _ _ o' gsto ho'
  have hwant:Region.wanted o' (yielded ops a.tmps)=true:=by
   have hgd:=hoo;unfold okO at hgd;simp only[RC]at hgd;replace hgd:=hgd.2;split at hgd
   .rename_i hg2;simp[Region.wanted,hg2]
   .rename_i e _;cases e
   .cases hgd
  rw[if_pos hwant,e2];refine Oper.wp_mono2 (fun a' w' ⟨M',bm',tk',ρ',σ',⟨k1,k2⟩,k3,k4⟩=>⟨M',bm',tk',ρ',σ',⟨fun t=>by rw[k1,hSt];exact(hn t).symm,k2,trivial⟩,k3,k4⟩) (fun e a' w' ⟨_,_,_,_,_,_,hf,_⟩=>hf.elim) (cy (K:=fun ρ' σ'=>ρ'=az (ax L X 0 S) ρ/\σ'=σf) (Q:=fun _ _ _=>False) (hG.mono hl) h hoo ?_);simp only[fS,evy,evz,k2];exact⟨k3,trivial,k4.symm⟩
theorem CZ{M0:an}{bm0:List Nat}{w0:World}(hG:C.glob M0 pr w0){id:Nat}{ops:Array Oper}{pre post:List O}{d:Option Nat}{f:FuncId}{args:List X}{kk:Nat}{y z:X}{M:an}{bm:List Nat}{tk:bP}{a:Act}{w:World}(hok:fQ C.tab n ops (xL pre d f args post kk y z) ops.toList=true)(hdr:gO pre.length post.length (xL pre d f args post kk y z) ops.toList=true)
 (hl:Later M0 bm0 pr w0 M bm w)(h:SRel M bm tk pr ρ σ n a w){v:V}{xs ys:List V}(hxl:xs.length=pre.length)(hyl:ys.length=post.length)
 (hpre:∀i (hi:i<pre.length) (h':i<xs.length),∃ρi,(∀t,get ρi t=get (az (ax (xL pre d f args post kk y z) (xs++v::(ys++[.junk])) 0 fun j=>decide (j<i)) ρ) t)/\Loc C pre[i] ρi σ xs[i])
 (hcall:∃ρi,(∀t,get ρi t=get (az (ax (xL pre d f args post kk y z) (xs++v::(ys++[.junk])) 0 fun j=>decide (j<pre.length)) ρ) t)/\Fun C f (args.map fun x=>(ev C ρi x).lend) σ (fun o σ'=>∃u,o=.panic u/\∀ρ',Q (.panic u) ρ' σ')):
 (Code.region id ops true).wp C.P (bC M0 bm0 pr w0 n Q) a w:=by
 obtain⟨hlen,hget⟩:=g9 hok;have D:=j7 hdr;have hLl:=FY (pre:=pre) (d:=d) (f:=f) (args:=args) (post:=post) (kk:=kk) (y:=y) (z:=z);have gpre:=fun i (hi:i<pre.length)=>ux (d:=d) (f:=f) (args:=args) (post:=post) (kk:=kk) (y:=y) (z:=z) hi;have gcall:=AC (pre:=pre) (d:=d) (f:=f) (args:=args) (post:=post) (kk:=kk) (y:=y) (z:=z);generalize hL:xL pre d f args post kk y z=L at *;obtain⟨X,hX⟩:∃X,X=xs++v::(ys++[V.junk]):=⟨_,rfl⟩
 rw[<-hX]at hpre hcall;have hXl:X.length=L.length:=by rw[hLl,hX];simp[hxl,hyl];omega
 have xpre:∀i (hi:i<xs.length),X[i]? = some xs[i]:=fun i hi=>by rw[hX,RS hi,RP hi]
 have xcall:X[pre.length]? = some v:=by rw[hX,RQ (by omega),hxl];simp
 have hnl:L.length=ops.size:=by rw[hlen];simp
 refine lD (M:=M) (bm:=bm) (tk:=tk) (fun S=>az (ax L X 0 S) ρ) (fun _=>σ) ρ σ (fun S=>S pre.length=false) rfl (fun S S' hS hI=>by rw[<-hS _ (by omega)];exact hI) D.lt (fun S S' hS=>⟨fun t=>?_,rfl⟩) hl ?_ (fun hI=>by cases hI) ?_
 .show get (az (ax L X 0 S) ρ) t=get (az (ax L X 0 S') ρ) t;rw[eQ (l:=L) (xs:=X) (k:=0) (S:=S) (S':=S') fun j _ hj=>hS j (by omega)]
 .exact h.congr fun t=>lv (jK fun _ _=>rfl) ρ t
 intro S i o' ho' hSi hclo hedge hI M bm tk a w hl h;have hi1:i<ops.toList.length:=(List.getElem?_eq_some_iff.1 ho').1;have hi2:i<L.length:=by omega
 have hbef:∀j∈(aY ops.toList []).getD i [],S j=true:=bO D.lt (S:=fun j=>S j=true) hclo i o' ho' hedge
 have hbefj:∀q,q<L.length->S q=true->∀j∈(aY ops.toList []).getD q [],S j=true:=fun q hq hSq=>by
  have hq2:ops.toList[q]? = some ops.toList[q]:=RP (by omega);exact bO D.lt (S:=fun j=>S j=true) hclo q _ hq2 (hclo q _ hq2 hSq)
 have hsame:∀o,L[i]? = some o->∀t∈o.looksN++o.dst.toList,∀(j:Nat) (q:O),L[j]? = some q->j≠i->q.dst=some t->S j=decide (j<i):=by
  intro o hlo t ht j q hj hne hd;rcases D.cmp i o hlo t ht j q hj hd hne with⟨g1,g2⟩|⟨g1,g2⟩
  .rw[hbef j g2];simp[g1]
  .have:¬S j=true:=fun hjl=>by
    have:=hbefj j (List.getElem?_eq_some_iff.1 hj).1 hjl i g2;rw[hSi]at this;cases this
   have e:S j=false:=by simpa using this
   rw[e];simp;omega
 by_cases c1:i<pre.length
 .obtain⟨ρi,g1,g2⟩:=hpre i c1 (by omega);obtain⟨hgl,hn⟩:=px hXl ρ (gpre i c1) (xpre i (by omega)) hSi (hsame _ (gpre i c1))
  have hI':(pre.length==i||S pre.length)=false:=by
   have:(pre.length==i)=false:=by simp;omega
   rw[this,hI];rfl
  have:=mV (Q:=Q) (hG.mono hl) h (hget i _ o' (gpre i c1) ho') (g2.congr fun t ht=>by rw[g1 t];exact hgl t (lK _ t ht));split at this
  .rename_i hw;rw[if_pos hw];exact Oper.wp_mono2 (fun a' w' ⟨M',bm',tk',ρ',σ',⟨k1,k2⟩,k3,k4⟩=>⟨M',bm',tk',ρ',σ',⟨fun t=>by rw[k1];exact(hn t).symm,k2,hI'⟩,k3,k4⟩) (fun e a' w' hh=>hh) this
  .rename_i hw;rw[if_neg hw];exact⟨this.congr fun t=>hn t,hI'⟩
 by_cases c2:i=pre.length
 .subst c2;obtain⟨ρi,g1,g2⟩:=hcall;obtain⟨hgl,hn⟩:=px hXl ρ gcall xcall hSi (hsame _ gcall)
  have ea:(args.map fun x=>(ev C ρi x).lend)=args.map fun x=>(ev C (az (ax L X 0 S) ρ) x).lend:=RW fun x hx=>by
   rw[bT (ρ:=ρi) (ρ':=az (ax L X 0 S) ρ) fun t ht=>by rw[g1 t];exact hgl t (by simp only[O.looksN,OP.slotsN,OP.slots,Sj];exact List.mem_flatMap.2 ⟨x,hx,ht⟩)]
  rw[ea]at g2;have hoo:=hget pre.length _ o' gcall ho'
  have hwant:Region.wanted o' (yielded ops a.tmps)=true:=by
   have hgd:=hoo;unfold okO at hgd;simp only[RC]at hgd;replace hgd:=hgd.2;split at hgd
   .rename_i hg2;simp[Region.wanted,hg2]
   .rename_i e _;cases e
   .cases hgd
  rw[if_pos hwant];refine Oper.wp_mono2 (fun a' w' ⟨M',bm',tk',ρ',σ',hf,k3,k4⟩=>hf.elim) (fun e a' w' hh=>hh) (cy (K:=fun _ _=>False) (Q:=Q) (hG.mono hl) h hoo ?_);exact g2.mono fun o σ' ⟨u,e1,e2⟩=>by subst e1;exact e2 _
 exfalso;by_cases c3:i<pre.length+1+post.length
 .obtain⟨m,rfl⟩:∃m,i=pre.length+1+m:=⟨i-(pre.length+1),by omega⟩
  have:=hbef _ (D.after m (by omega));rw[hI]at this;cases this
 .have c4:i=pre.length+1+post.length:=by omega
  subst c4;have:=hbef _ (D.last pre.length (by omega));rw[hI]at this;cases this
theorem wI{M0:an}{bm0:List Nat}{w0:World}(hG:C.glob M0 pr w0){id:Nat}{ops:Array Oper}{pre post:List O}{d:Option Nat}{f:FuncId}{args:List X}{kk:Nat}{y z:X}{M:an}{bm:List Nat}{tk:bP}{a:Act}{w:World}(hok:fQ C.tab n ops (xL pre d f args post kk y z) ops.toList=true)(hdr:gO pre.length post.length (xL pre d f args post kk y z) ops.toList=true)
 (hl:Later M0 bm0 pr w0 M bm w)(h:SRel M bm tk pr ρ σ n a w)
 (hq:HT C pre d f args post kk y z ρ σ (fun ρ' σ'=>Q .normal ρ' σ') (fun u σ'=>∀ρ',Q (.panic u) ρ' σ')):
 (Code.region id ops true).wp C.P (bC M0 bm0 pr w0 n Q) a w:=by
 obtain⟨xs,hxl,⟨ρ1,hρ1,hρe1⟩,hloc1⟩:=jd (k:=0) hq
 have conv:∀(v:V) (ys:List V),ys.length=post.length->∀i,i≤pre.length->∀t,get (az (ax (xL pre d f args post kk y z) (xs++v::(ys++[.junk])) 0 fun j=>decide (j<i)) ρ) t=get (az (ax pre xs 0 fun j=>decide (j<i)) ρ) t:=fun v ys hyl i hi t=>by
  rw[Gm hxl hyl,if_neg (by simp;omega)];exact lv (jK fun j hj=>by simp;omega) _ t
 have allpre:ax pre xs 0 (fun j=>decide (j<pre.length))=ax pre xs 0 (fun _=>true):=eQ fun j _ hj=>by simp;omega
 rcases hρ1 with⟨v,σ1,hF,hpre2,hpost⟩|hF
 .obtain⟨xs',hxl',⟨ρ1',hρ1',hρe1'⟩,hloc1'⟩:=jd (k:=0) hpre2;subst hρ1';obtain⟨ys,hyl,⟨ρ2,hρ2,hρe2⟩,hloc2⟩:=jd (k:=pre.length+1) hpost;have D:=j7 hdr
  have val:∀(us:List V) (hu:us.length=pre.length),(∀t,get ρ1' t=get (az (ax pre us 0 fun _=>true) ρ) t)->∀i (hi:i<pre.length),∃t,get ρ1' t=us[i]'(by omega)/\pre[i].dst=some t:=fun us hu he i hi=>by
   obtain⟨t,h1,h2⟩:=D.pdst i _ hi (ux hi);have hsl:=fL pre us 0 (fun _=>true) hu;refine⟨t,?_,h1⟩
   rw[he t,iW (ax pre us 0 fun _=>true) ρ i (by rw[hsl];exact hi) t (by rw[d9 _ _ _ _ _ _ hi (by omega)];exact h1) (by rw[d9 _ _ _ _ _ _ hi (by omega)]) (fun j hj hij hd=>by
    rw[hsl]at hj;rw[d9 _ _ _ _ _ _ hj (by omega)]at hd;exact absurd hd (h2 j _ hj (ux hj) (by omega)))]
   rw[d9 _ _ _ _ _ _ hi (by omega)]
  have hxx:xs'=xs:=List.ext_getElem (by omega) fun i g1 g2=>by
   obtain⟨t,e1,e2⟩:=val xs hxl hρe1 i (by omega);obtain⟨t',e3,e4⟩:=val xs' hxl' hρe1' i (by omega);rw[e2]at e4;cases e4;rw[<-e1,<-e3]
  subst hxx;obtain⟨i0,off,cs,k1,k2,k3,k4⟩:=hρ2;have base:∀t,get ρ1' t=get (az (ax pre xs' 0 fun _=>true) ρ) t:=hρe1
  have late:∀(S:Nat->Bool),(∀j,j≤pre.length->S j=true)->∀t,get (az (ax (xL pre d f args post kk y z) (xs'++v::(ys++[.junk])) 0 S) ρ) t=get (az (ax post ys (pre.length+1) S) (putd ρ1' d v)) t:=fun S hS t=>by
   rw[Gm hxl hyl,if_pos (hS _ (Sm _))];refine gx _ _ _ _ ?_;rw[cz,cz,base t,eQ (l:=pre) (xs:=xs') (k:=0) (S:=S) (S':=fun _=>true) fun j _ hj=>hS j (by omega)]
  refine B0 (v:=v) (σ1:=σ1) (σf:=σ1.set i0 (over cs off (ev C ρ2 z).cells)) (xs:=xs') (ys:=ys) (ρf:=ρ2) hG hok hdr hl h hxl hyl (fun i hi h'=>?_) ⟨ρ1',fun t=>?_,hF⟩ (fun m hm h'=>?_) ⟨ρ2,fun t=>?_,i0,off,cs,k1,k2,k3,rfl⟩ (fun t=>?_) k4
  .obtain⟨ρi,g1,g2⟩:=hloc1 i hi h';obtain⟨ρi',g1',g2'⟩:=hloc1' i hi h';simp only[Sl]at g2 g2';exact⟨ρi,fun t=>by rw[conv v ys hyl i (by omega) t];exact g2 t,g1,g1'.congr fun t _=>by rw[g2' t,g2 t]⟩
  .rw[conv v ys hyl _ (Sm _) t,allpre];exact base t
  .obtain⟨ρi,g1,g2⟩:=hloc2 m hm h';exact⟨ρi,fun t=>by rw[late _ (fun j hj=>by simp;omega) t];exact g2 t,g1⟩
  .rw[late _ (fun j hj=>by simp;omega) t,hρe2 t,eQ (l:=post) (xs:=ys) (k:=pre.length+1) (S:=fun _=>true) (S':=fun j=>decide (j<pre.length+1+post.length)) fun j _ hj=>by simp;omega]
  .rw[late _ (fun j hj=>rfl) t];exact hρe2 t
 .have hrl:(Sk post.length V.junk).length=post.length:=List.length_replicate;refine CZ (v:=.junk) (xs:=xs) (ys:=Sk post.length .junk) hG hok hdr hl h hxl hrl (fun i hi h'=>?_) ⟨ρ1,fun t=>?_,hF⟩
  .obtain⟨ρi,g1,g2⟩:=hloc1 i hi h';simp only[Sl]at g2;exact⟨ρi,fun t=>by rw[conv _ _ hrl i (by omega) t];exact g2 t,g1⟩
  .rw[conv _ _ hrl _ (Sm _) t,allpre];exact hρe1 t
theorem wO{M0:an}{bm0:List Nat}{w0:World}(hG:C.glob M0 pr w0){id:Nat}{ops:Array Oper}{pre:List O}{x:X}{M:an}{bm:List Nat}{tk:bP}{a:Act}{w:World}(hok:fQ C.tab n ops (pre++[⟨none,.pan x,none⟩]) ops.toList=true)(hdr:gO (pre.length-1) 0 (pre++[⟨none,.pan x,none⟩]) ops.toList=true)(hnp:1≤pre.length)
 (hl:Later M0 bm0 pr w0 M bm w)(h:SRel M bm tk pr ρ σ n a w)(hq:aS C pre ρ σ fun ρ'=>∃ty u,ev C ρ' x=.iface ty u/\∀ρ2,Q (.panic (.iface ty u)) ρ2 σ):
 (Code.region id ops true).wp C.P (bC M0 bm0 pr w0 n Q) a w:=by
 obtain⟨hlen,hget⟩:=g9 hok;have D:=j7 hdr;obtain⟨xs,hxl,⟨ρ1,⟨ty,u,he,hQ⟩,hρe⟩,hloc⟩:=jd (k:=0) hq;have gpre:∀i (hi:i<pre.length),(pre++[(⟨none,.pan x,none⟩:O)])[i]? = some pre[i]:=fun i hi=>by rw[RS hi,RP hi]
 have gpan:(pre++[(⟨none,.pan x,none⟩:O)])[pre.length]? = some ⟨none,.pan x,none⟩:=by rw[RQ (Sm _)];simp
 have hLl:(pre++[(⟨none,.pan x,none⟩:O)]).length=pre.length+1:=by simp
 have conv:∀S,az (ax (pre++[(⟨none,.pan x,none⟩:O)]) (xs++[.junk]) 0 S) ρ=az (ax pre xs 0 S) ρ:=fun S=>by
  rw[lP hxl,fU];simp only[ax,az,putd];split<;>rfl
 generalize hL:pre++[(⟨none,.pan x,none⟩:O)]=L at *;obtain⟨X,hX⟩:∃X,X=xs++[V.junk]:=⟨_,rfl⟩
 rw[<-hX]at conv
 have hXl:X.length=L.length:=by rw[hLl,hX];simp[hxl]
 have xpre:∀i (hi:i<xs.length),X[i]? = some xs[i]:=fun i hi=>by rw[hX,RS hi,RP hi]
 have hnl:L.length=ops.size:=by rw[hlen];simp
 refine lD (M:=M) (bm:=bm) (tk:=tk) (fun S=>az (ax L X 0 S) ρ) (fun _=>σ) ρ σ (fun S=>S pre.length=false) rfl (fun S S' hS hI=>by rw[<-hS _ (by omega)];exact hI) D.lt (fun S S' hS=>⟨fun t=>?_,rfl⟩) hl ?_ (fun hI=>by cases hI) ?_
 .show get (az (ax L X 0 S) ρ) t=get (az (ax L X 0 S') ρ) t;rw[eQ (l:=L) (xs:=X) (k:=0) (S:=S) (S':=S') fun j _ hj=>hS j (by omega)]
 .exact h.congr fun t=>lv (jK fun _ _=>rfl) ρ t
 intro S i o' ho' hSi hclo hedge hI M bm tk a w hl h;have hi1:i<ops.toList.length:=(List.getElem?_eq_some_iff.1 ho').1;have hi2:i<L.length:=by omega
 have hbef:∀j∈(aY ops.toList []).getD i [],S j=true:=bO D.lt (S:=fun j=>S j=true) hclo i o' ho' hedge
 have hbefj:∀q,q<L.length->S q=true->∀j∈(aY ops.toList []).getD q [],S j=true:=fun q hq hSq=>by
  have hq2:ops.toList[q]? = some ops.toList[q]:=RP (by omega);exact bO D.lt (S:=fun j=>S j=true) hclo q _ hq2 (hclo q _ hq2 hSq)
 have hsame:∀o,L[i]? = some o->∀t∈o.looksN++o.dst.toList,∀(j:Nat) (q:O),L[j]? = some q->j≠i->q.dst=some t->S j=decide (j<i):=by
  intro o hlo t ht j q hj hne hd;rcases D.cmp i o hlo t ht j q hj hd hne with⟨g1,g2⟩|⟨g1,g2⟩
  .rw[hbef j g2];simp[g1]
  .have:¬S j=true:=fun hjl=>by
    have:=hbefj j (List.getElem?_eq_some_iff.1 hj).1 hjl i g2;rw[hSi]at this;cases this
   have e:S j=false:=by simpa using this
   rw[e];simp;omega
 by_cases c1:i<pre.length
 .obtain⟨ρi,g2,g1⟩:=hloc i c1 (by omega);simp only[Sl]at g1;obtain⟨hgl,hn⟩:=px hXl ρ (gpre i c1) (xpre i (by omega)) hSi (hsame _ (gpre i c1))
  have hI':(pre.length==i||S pre.length)=false:=by
   have:(pre.length==i)=false:=by simp;omega
   rw[this,hI];rfl
  have:=mV (Q:=Q) (hG.mono hl) h (hget i _ o' (gpre i c1) ho') (g2.congr fun t ht=>by rw[g1 t,<-conv];exact hgl t (lK _ t ht));split at this
  .rename_i hw;rw[if_pos hw];exact Oper.wp_mono2 (fun a' w' ⟨M',bm',tk',ρ',σ',⟨k1,k2⟩,k3,k4⟩=>⟨M',bm',tk',ρ',σ',⟨fun t=>by rw[k1];exact(hn t).symm,k2,hI'⟩,k3,k4⟩) (fun e a' w' hh=>hh) this
  .rename_i hw;rw[if_neg hw];exact⟨this.congr fun t=>hn t,hI'⟩
 .have c2:i=pre.length:=by omega
  subst c2;have hoo:=hget pre.length _ o' gpan ho'
  have hwant:Region.wanted o' (yielded ops a.tmps)=true:=by
   have hgd:=hoo;unfold okO at hgd;simp only[RC]at hgd;replace hgd:=hgd.2;split at hgd
   .rename_i hg2;simp[Region.wanted,hg2]
   .rename_i e _;cases e
   .cases hgd
  have hev:ev C (az (ax L X 0 S) ρ) x=.iface ty u:=by
   rw[<-he];refine bT fun t _=>?_;rw[hρe t,conv,eQ (l:=pre) (xs:=xs) (k:=0) (S:=S) (S':=fun _=>true) fun j _ hj=>hbef j (by have:=D.last j (by omega);rwa[show pre.length-1+1+0=pre.length by omega]at this)]
  rw[if_pos hwant];refine Oper.wp_mono2 (fun a' w' ⟨M',bm',tk',ρ',σ',hf,k3,k4⟩=>hf.elim) (fun e a' w' hh=>hh) (cy (K:=fun _ _=>False) (Q:=Q) (hG.mono hl) h hoo ?_);simp only[fS,hev];exact hQ _
end
end Go.Proofs.YthekkgfmagliiaaGreatDoor
namespace Go.Proofs.YthekkgfmagliiaaGreatDoor
open Go.RowKit
inductive GK where
 | free (lo:Nat)
 | calm (lo hi:Nat)
 | slot (lo:Nat)
 | act
def GK.isAct:GK->Bool
 | .act=>true
 | _=>false
def OP.w1:OP->Option Nat
 | .mvo t=>some t
 | .app _ _ _ t _=>some t
 | _=>none
def OP.slotsG:OP->List Nat
 | .mvo t=>[t]
 | .app _ _ _ t y=>t::y.slots
 | .mkso _ _ xs=>xs.flatMap X.slots
 | .mkc _ _ _ x=>x.slots
 | .box _ x=>x.slots
 | .sto _ x y=>x.slots++y.slots
 | op=>op.slots
def O.looksG(o:O):List Nat:=o.op.slotsG++(match o.g with|some (t,_)=>[t]|none=>[])
def OP.isFree:OP->Bool
 | .load _ _ _ | .cbs _ | .call _ _ | .callv _ _ | .calln _ _=>false
 | .mks _ _ _=>true
 | op=>cH op
def OP.isCalm:OP->Bool
 | .call _ _ | .callv _ _ | .calln _ _ | .mks _ _ _=>true
 | op=>cH op
def OP.isSlot:OP->Bool
 | .mvo _ | .nilo _ _ | .app _ _ _ _ _ | .mkso _ _ _ | .mkc _ _ _ _=>true
 | _=>false
def OP.isActG:OP->Option Nat->Bool
 | .sto _ _ _,d=>d.isNone
 | .new _ _,_ | .box _ _,_ | .call _ _,_ | .callv _ _,_=>true
 | _,_=>false
section
variable {C : Cx} {pr : Prot} {ρ : ah} {σ : LLV} {n : Nat} {Q : AEx -> ah -> LLV -> Prop}
theorem yf{o:O}(h:o.op.isCalm=true):o.looks=o.looksG:=by
 unfold O.looks O.looksG
 have:o.op.slots=o.op.slotsG:=by
  cases ho:o.op<;>rw[ho]at h<;>first|rfl|(simp[OP.isCalm,cH]at h)
 rw[this]<;>(cases o.g<;>rfl)
theorem Io{op:OP}(h:op.isFree=true)(σ σ2:LLV):pv C op ρ σ=pv C op ρ σ2:=by
 cases op<;>first|rfl|(simp[OP.isFree,cH]at h)
theorem rR{op:OP}(h:op.isFree=true){k:V->Prop}(σ2:LLV)(hc:bI C op ρ σ k):bI C op ρ σ2 k:=by
 unfold bI at hc;split at hc
 .cases h
 .cases h
 .exact hc
 .cases h
 .rename_i n1 n2 n3 n4;rw[Io h σ σ2]at hc;unfold bI;split
  .exact absurd rfl (n1 _ _)
  .exact absurd rfl (n2 _ _)
  .exact absurd rfl (n3 _ _ _)
  .exact absurd rfl (n4 _ _)
  .exact hc
theorem Loc.free{o:O}(h:o.op.isFree=true){x:V}(σ2:LLV)(hc:Loc C o ρ σ x):Loc C o ρ σ2 x:=by
 unfold Loc at hc ⊢;split at hc
 .exact rR h σ2 hc
 .split at hc
  .exact⟨fun e=>rR h σ2 (hc.1 e),hc.2⟩
  .exact hc
  .exact hc.elim
def pG(C:Cx)(op:OP)(ρ:ah)(σ:LLV)(a b:V)(σ':LLV):Prop:=match op with
 | .mvo t=>∃T k rows,get ρ t=.own T k rows/\a=.d (.sl rows)/\b=.own T k rows/\σ'=σ
 | .nilo T k=>b=.own T k []/\σ'=σ
 | .app T k bytes t y=>∃rows rows2,get ρ t=.own T k rows/\fw (ev C ρ y)=some rows2/\(rows2.all (fun r=>r.length==k)=true/\(rows.length+rows2.length)*bytes≤140737488355328)/\a=.d (.sl rows)/\b=.own T k (rows++rows2)/\σ'=σ
 | .mkso T k xs=>∃rows,fq (xs.map (ev C ρ))=some rows/\rows.all (fun r=>r.length==k)=true/\b=.own T k rows/\σ'=σ
 | .mkc T k bytes x=>∃kd n,ev C ρ x=.d (.lit (.int kd n))/\(0≤n/\n*bytes≤140737488355328)/\b=.own T k []/\σ'=σ
 | .new _ cs=>b=.ptr σ.length 0/\σ'=σ++[cs]
 | .box _ x=>(ev C ρ x).boxable=true/\b=.ptr σ.length 0/\σ'=σ++[(ev C ρ x).cells]
 | .sto k x y=>∃i o cs,ev C ρ x=.ptr i o/\σ[i]? = some cs/\((ev C ρ y).boxable=true/\(ev C ρ y).cells.length=k/\o+k≤cs.length/\cV cs=true)/\σ'=σ.set i (over cs o (ev C ρ y).cells)
 | .call f args=>Fun C f (args.map fun x=>(ev C ρ x).lend) σ (fun o σ''=>o=.ret b/\σ''=σ')
 | .callv x args=>∃f cap,ev C ρ x=.fn f cap/\Fun C f ((args.map fun x=>(ev C ρ x).lend)++cap) σ (fun o σ''=>o=.ret b/\σ''=σ')
 | _=>False
def ap(o:O)(w:V×V)(ρ:ah):ah:=putd (putd ρ o.op.w1 w.1) o.dst w.2
theorem ql(o:O)(w:V×V)(ρ:ah)(t:Nat):get (ap o w ρ) t=if o.dst=some t then w.2 else if o.op.w1=some t then w.1 else get ρ t:=by
 unfold ap;rw[cz,cz]
theorem Ef{o:O}{a b:V}{σ':LLV}(hc:o.op.isSlot=true\/o.op.isActG o.dst=true)(h:pG C o.op ρ σ a b σ'):fS C o.op o.dst ρ σ (fun ρ' σ''=>ρ'=ap o (a,b) ρ/\σ''=σ') Q:=by
 obtain⟨d,op,g⟩:=o;unfold ap;cases op<;>simp only[pG]at h<;>simp only[fS,OP.w1,putd]<;>first|exact h.elim|skip
 case mvo t=>obtain⟨T,k,rows,h1,rfl,rfl,rfl⟩:=h;rw[h1];first|exact⟨rfl,rfl⟩|exact⟨trivial,trivial⟩
 case nilo=>obtain⟨rfl,rfl⟩:=h;first|exact⟨rfl,rfl⟩|exact⟨trivial,trivial⟩
 case app=>obtain⟨rows,rows2,h1,h2,h3,rfl,rfl,rfl⟩:=h;rw[h1,h2];exact⟨⟨rfl,rfl,h3⟩,rfl,rfl⟩
 case mkso=>obtain⟨rows,h1,h2,rfl,rfl⟩:=h;rw[h1];exact⟨h2,rfl,rfl⟩
 case mkc=>obtain⟨kd,m,h1,h2,rfl,rfl⟩:=h;rw[h1];exact⟨h2,rfl,rfl⟩
 case new=>obtain⟨rfl,rfl⟩:=h;first|exact⟨rfl,rfl⟩|exact⟨trivial,trivial⟩
 case box=>obtain⟨h1,rfl,rfl⟩:=h;first|exact⟨h1,rfl,rfl⟩|exact⟨h1,trivial,trivial⟩
 case sto=>
  have hd:d=none:=by simpa[OP.isSlot,OP.isActG]using hc
  subst hd;obtain⟨i,o,cs,h1,h2,h3,rfl⟩:=h;rw[h1];simp only[h2];first|exact⟨h3,rfl,rfl⟩|exact⟨h3,trivial,trivial⟩
 case call=>exact h.mono fun o σ'' ⟨e1,e2⟩=>by subst e1;exact⟨rfl,e2⟩
 case callv=>
  obtain⟨f,cap,h1,h2⟩:=h;rw[h1];exact h2.mono fun o σ'' ⟨e1,e2⟩=>by subst e1;exact⟨rfl,e2⟩
theorem mB{o:O}(hc:o.op.isSlot=true\/(o.op.isActG o.dst=true/\(∀f args,o.op≠.call f args)/\∀x args,o.op≠.callv x args)){K:ah->LLV->Prop}(h:fS C o.op o.dst ρ σ K Q):∃a b σ',pG C o.op ρ σ a b σ'/\K (ap o (a,b) ρ) σ'/\(o.op.isSlot=true->σ'=σ):=by
 obtain⟨d,op,g⟩:=o;unfold ap;cases op<;>first|(exfalso;simp[OP.isSlot,OP.isActG]at hc;done)|skip
 all_goals simp only[fS]at h
 case mvo t=>
  split at h
  .rename_i T k rows e;exact⟨_,_,σ,⟨T,k,rows,e,rfl,rfl,rfl⟩,h,fun _=>rfl⟩
  .exact h.elim
 case nilo T k=>exact⟨.junk,_,σ,⟨rfl,rfl⟩,h,fun _=>rfl⟩
 case app T k bytes t y=>
  split at h
  .rename_i T' k' rows rows2 e1 e2;obtain⟨⟨rfl,rfl,h1⟩,h2⟩:=h;exact⟨_,_,σ,⟨rows,rows2,e1,e2,h1,rfl,rfl,rfl⟩,h2,fun _=>rfl⟩
  .exact h.elim
 case mkso=>
  split at h
  .rename_i rows e;exact⟨.junk,_,σ,⟨rows,e,h.1,rfl,rfl⟩,h.2,fun _=>rfl⟩
  .exact h.elim
 case mkc=>
  split at h
  .rename_i kd m e;exact⟨.junk,_,σ,⟨kd,m,e,h.1,rfl,rfl⟩,h.2,fun _=>rfl⟩
  .exact h.elim
 case new=>exact⟨.junk,_,_,⟨rfl,rfl⟩,h,fun e=>by cases e⟩
 case box=>exact⟨.junk,_,_,⟨h.1,rfl,rfl⟩,h.2,fun e=>by cases e⟩
 case sto=>
  have hd:d=none:=by simpa[OP.isSlot,OP.isActG]using hc
  subst hd;split at h
  .rename_i i o e;split at h
   .rename_i cs e2;exact⟨.junk,.junk,_,⟨i,o,cs,e,e2,h.1,rfl⟩,h.2,fun e=>by cases e⟩
   .exact h.elim
  .exact h.elim
theorem yt{op:OP}{ρ ρ':ah}{a b:V}{σ':LLV}(h:∀t∈op.slotsG,get ρ t=get ρ' t)(hr:pG C op ρ σ a b σ'):pG C op ρ' σ a b σ':=by
 have e1:∀(x:X),(∀t∈x.slots,t∈op.slotsG)->ev C ρ x=ev C ρ' x:=fun x hx=>bT fun t ht=>h t (hx t ht);cases op<;>simp only[pG]at hr ⊢ <;>simp only[OP.slotsG,OP.slots]at h e1<;>first|exact hr.elim|exact hr|skip
 case mvo t=>rw[<-h t (by simp)];exact hr
 case app T k bytes t y=>rw[<-h t (by simp),<-e1 y (fun t ht=>by simp[ht])];exact hr
 case mkso=>rw[<-kg h];exact hr
 case mkc x=>rw[<-e1 x (fun t ht=>ht)];exact hr
 case box x=>rw[<-e1 x (fun t ht=>ht)];exact hr
 case sto x y=>rw[<-e1 x (fun t ht=>by simp[ht]),<-e1 y (fun t ht=>by simp[ht])];exact hr
 case call f args=>
  have:(args.map fun x=>(ev C ρ' x).lend)=args.map fun x=>(ev C ρ x).lend:=RW fun x hx=>by rw[e1 x fun t ht=>List.mem_flatMap.2 ⟨x,hx,ht⟩]
  rw[this];exact hr
 case callv y args=>
  have:(args.map fun x=>(ev C ρ' x).lend)=args.map fun x=>(ev C ρ x).lend:=RW fun x hx=>by rw[e1 x fun t ht=>Sb _ (List.mem_flatMap.2 ⟨x,hx,ht⟩)]
  rw[this,<-e1 y (fun t ht=>by simp[ht])];exact hr
def Ch(C:Cx)(op:OP)(ρ:ah)(σ:LLV)(P:V->LLV->Prop):Prop:=match op with
 | .call f args=>Fun C f (args.map fun x=>(ev C ρ x).lend) σ (fun o σ'=>∃u,o=.panic u/\P u σ')
 | .callv x args=>∃f cap,ev C ρ x=.fn f cap/\Fun C f ((args.map fun x=>(ev C ρ x).lend)++cap) σ (fun o σ'=>∃u,o=.panic u/\P u σ')
 | _=>False
theorem EY{o:O}{P:V->LLV->Prop}(h:Ch C o.op ρ σ P):fS C o.op o.dst ρ σ (fun _ _=>False) (fun e _ σ'=>∃u,e=.panic u/\P u σ'):=by
 obtain⟨d,op,g⟩:=o;cases op;case call=>exact Fun.mono h fun o σ'' ⟨u,e1,e2⟩=>by subst e1;exact⟨u,rfl,e2⟩
 case callv=>
  obtain⟨f,cap,h1,h2⟩:=h;simp only[fS];rw[h1];exact h2.mono fun o σ'' ⟨u,e1,e2⟩=>by subst e1;exact⟨u,rfl,e2⟩
 all_goals exact h.elim
theorem zq{op:OP}{ρ ρ':ah}{P:V->LLV->Prop}(h:∀t∈op.slotsG,get ρ t=get ρ' t)(hr:Ch C op ρ σ P):Ch C op ρ' σ P:=by
 have e1:∀(x:X),(∀t∈x.slots,t∈op.slotsG)->ev C ρ x=ev C ρ' x:=fun x hx=>bT fun t ht=>h t (hx t ht);cases op<;>simp only[Ch]at hr ⊢ <;>simp only[OP.slotsG,OP.slots]at h e1<;>first|exact hr.elim|exact hr|skip
 case call f args=>
  have:(args.map fun x=>(ev C ρ' x).lend)=args.map fun x=>(ev C ρ x).lend:=RW fun x hx=>by rw[e1 x fun t ht=>List.mem_flatMap.2 ⟨x,hx,ht⟩]
  rw[this];exact hr
 case callv y args=>
  have:(args.map fun x=>(ev C ρ' x).lend)=args.map fun x=>(ev C ρ x).lend:=RW fun x hx=>by rw[e1 x fun t ht=>Sb _ (List.mem_flatMap.2 ⟨x,hx,ht⟩)]
  rw[this,<-e1 y (fun t ht=>by simp[ht])];exact hr
structure PendG where
 o:O
 ρ:ah
 ρ':ah
 hi:Nat
def reG(C:Cx)(m:Nat)(σ':LLV):List PendG->Prop
 | []=>True
 | p::r=>(if m≤p.hi then aS C [p.o] p.ρ σ' (fun ρ'=>ρ'=p.ρ')else True)/\reG C m σ' r
def mK(C:Cx)(o:O)(ρ ρ':ah):Nat->List LLV->Prop
 | 0,_=>True
 | _+1,[]=>False
 | k+1,σ::h=>aS C [o] ρ σ (fun ρ''=>ρ''=ρ')/\mK C o ρ ρ' k h
def vJ(m hi:Nat)(x:PendG)(p:List PendG):List PendG:=if m<hi then x::p else p
def fJ(C:Cx):List (O×GK)->Nat->List LLV->ah->LLV->Prop
 | [],_,_,_,_=>True
 | (o,.free lo)::r,m,h,ρ,σ=>if lo≤m then aS C [o] ρ σ fun ρ'=>fJ C r m h ρ' σ else fJ C r m h (ap o (.junk,.junk) ρ) σ
 | (o,.calm lo _)::r,m,h,ρ,σ=>if lo≤m then aS C [o] ρ σ fun ρ'=>mK C o ρ ρ' (m-lo) h/\fJ C r m h ρ' σ else fJ C r m h (ap o (.junk,.junk) ρ) σ
 | (o,.slot lo)::r,m,h,ρ,σ=>if lo≤m then dl C [o] ρ σ (fun e ρ' _=>e=.normal/\fJ C r m h ρ' σ)else fJ C r m h (ap o (.junk,.junk) ρ) σ
 | (o,.act)::r,m,h,ρ,σ=>fJ C r m h (ap o (.junk,.junk) ρ) σ
def fx(C:Cx)(P:V->LLV->Prop)(K:ah->LLV->Prop):List (O×GK)->Nat->List LLV->List PendG->ah->LLV->Prop
 | [],_,_,_,ρ,σ=>K ρ σ
 | (o,.free _)::r,m,h,p,ρ,σ=>aS C [o] ρ σ fun ρ'=>fx C P K r m h p ρ' σ
 | (o,.calm lo hi)::r,m,h,p,ρ,σ=>aS C [o] ρ σ fun ρ'=>mK C o ρ ρ' (m-lo) h/\fx C P K r m h (vJ m hi ⟨o,ρ,ρ',hi⟩ p) ρ' σ
 | (o,.slot _)::r,m,h,p,ρ,σ=>dl C [o] ρ σ fun e ρ' σ'=>e=.normal/\fx C P K r m h p ρ' σ'
 | (⟨d,.call f args,g⟩,.act)::r,m,h,p,ρ,σ=>
  (∃v σ1,Fun C f (args.map fun x=>(ev C ρ x).lend) σ (fun o σ'=>o=.ret v/\σ'=σ1)/\reG C (m+1) σ1 p/\fx C P K r (m+1) (σ::h) p (putd ρ d v) σ1)\/
  (Fun C f (args.map fun x=>(ev C ρ x).lend) σ (fun o σ'=>∃u,o=.panic u/\P u σ')/\fJ C r m h (putd ρ d .junk) σ)
 | (⟨d,.callv x args,g⟩,.act)::r,m,h,p,ρ,σ=>∃f cap,ev C ρ x=.fn f cap/\
  ((∃v σ1,Fun C f ((args.map fun x=>(ev C ρ x).lend)++cap) σ (fun o σ'=>o=.ret v/\σ'=σ1)/\reG C (m+1) σ1 p/\fx C P K r (m+1) (σ::h) p (putd ρ d v) σ1)\/
  (Fun C f ((args.map fun x=>(ev C ρ x).lend)++cap) σ (fun o σ'=>∃u,o=.panic u/\P u σ')/\fJ C r m h (putd ρ d .junk) σ))
 | (o,.act)::r,m,h,p,ρ,σ=>dl C [o] ρ σ fun e ρ' σ'=>e=.normal/\reG C (m+1) σ' p/\fx C P K r (m+1) (σ::h) p ρ' σ'
def dG:List (O×GK)->(Nat->V×V)->Nat->(Nat->Bool)->ah->ah
 | [],_,_,_,ρ=>ρ
 | e::l,W,k,S,ρ=>dG l W (k+1) S (if S k then ap e.1 (W k) ρ else ρ)
theorem ni:∀(l:List (O×GK)) (W:Nat->V×V) (k:Nat) (S:Nat->Bool) (ρ ρ':ah) (t:Nat),get ρ t=get ρ' t->get (dG l W k S ρ) t=get (dG l W k S ρ') t
 | [],_,_,_,_,_,_,h=>h
 | e::l,W,k,S,ρ,ρ',t,h=>by
  simp only[dG];apply ni l;cases S k
  .exact h
  .simp only[if_true,ql,h]
def O.writes(o:O)(t:Nat):Prop:=o.dst=some t\/o.op.w1=some t
theorem i8:∀(l:List (O×GK)) (W:Nat->V×V) (k:Nat) (S S':Nat->Bool) (ρ:ah) (t:Nat),(∀i e,l[i]? = some e->e.1.writes t->S (k+i)=S' (k+i))->get (dG l W k S ρ) t=get (dG l W k S' ρ) t
 | [],_,_,_,_,_,_,_=>rfl
 | e::l,W,k,S,S',ρ,t,h=>by
  simp only[dG];rw[i8 l W (k+1) S S' _ t fun i e' he hw=>by have:=h (i+1) e' (by simpa using he) hw;rwa[show k+(i+1)=k+1+i by omega]at this];apply ni;have h0:=h 0 e (by simp);by_cases hw:e.1.writes t
  .rw[show S k=S' k from h0 hw]
  .unfold O.writes at hw;have h1:¬e.1.dst=some t:=fun h=>hw (.inl h);have h2:¬e.1.op.w1=some t:=fun h=>hw (.inr h);cases S k<;>cases S' k<;>simp[ql,h1,h2]
theorem zu:∀(l:List (O×GK)) (W W':Nat->V×V) (k:Nat) (S:Nat->Bool) (ρ:ah),(∀i,k≤i->W i=W' i)->dG l W k S ρ=dG l W' k S ρ
 | [],_,_,_,_,_,_=>rfl
 | e::l,W,W',k,S,ρ,h=>by
  simp only[dG];rw[h k (Sm _),zu l W W' (k+1) S _ fun i hi=>h i (by omega)]
theorem ld:∀(l:List (O×GK)) (W:Nat->V×V) (k:Nat) (S:Nat->Bool) (ρ:ah),(∀j,k≤j->S j=false)->dG l W k S ρ=ρ
 | [],_,_,_,_,_=>rfl
 | e::l,W,k,S,ρ,h=>by
  simp only[dG];rw[h k (Sm _),ld l W (k+1) S _ fun j hj=>h j (by omega)];rfl
theorem n8:∀(l:List (O×GK)) (W:Nat->V×V) (k:Nat) (ρ:ah) (i:Nat) (e:O×GK),l[i]? = some e->dG l W k (fun j=>decide (j<k+i+1)) ρ=ap e.1 (W (k+i)) (dG l W k (fun j=>decide (j<k+i)) ρ)
 | [],_,_,_,_,_,h=>by simp at h
 | e'::l,W,k,ρ,0,e,h=>by
  simp at h;subst h;simp only[dG];rw[ld _ _ _ _ _ (fun j hj=>by simp;omega),ld _ _ _ _ _ (fun j hj=>by simp;omega)];simp
 | e'::l,W,k,ρ,i+1,e,h=>by
  simp only[dG];have:=n8 l W (k+1) ρ i e (by simpa using h);rw[if_pos (by simp;omega),if_pos (by simp)];have e1:k+(i+1)=k+1+i:=by omega
  rw[e1];exact n8 l W (k+1) _ i e (by simpa using h)
theorem BZ{l:List (O×GK)}(W:Nat->V×V)(ρ:ah){S:Nat->Bool}{i:Nat}{e:O×GK}(he:l[i]? = some e)(hSi:S i=false)
 (hsame:∀t,(t∈e.1.looksG\/e.1.writes t)->∀(j:Nat) (q:O×GK),l[j]? = some q->j≠i->q.1.writes t->S j=decide (j<i)):
 (∀t∈e.1.looksG,get (dG l W 0 (fun j=>decide (j<i)) ρ) t=get (dG l W 0 S ρ) t)/\
 ∀t,get (dG l W 0 (fun j=>j==i||S j) ρ) t=get (ap e.1 (W i) (dG l W 0 S ρ)) t:=by
 refine⟨fun t ht=>?_,fun t=>?_⟩
 .refine i8 l W 0 _ _ ρ t fun j q hq hw=>?_;rw[Sl];by_cases e:j=i
  .subst e;rw[hSi];simp
  .exact(hsame t (.inl ht) j q hq e hw).symm
 .by_cases hw:e.1.writes t
  .have h1:=n8 l W 0 ρ i e he;rw[Sl]at h1
   have h2:get (dG l W 0 (fun j=>j==i||S j) ρ) t=get (dG l W 0 (fun j=>decide (j<i+1)) ρ) t:=i8 l W 0 _ _ ρ t fun j q hq hw'=>by
    rw[Sl];by_cases e:j=i
    .subst e;simp
    .simp only[hsame t (.inr hw) j q hq e hw'];have:(j==i)=false:=by simp[e]
     rw[this,RD,decide_eq_decide];omega
   rw[h2,h1,ql,ql];unfold O.writes at hw;split
   .rfl
   .rename_i h3;rw[if_pos (hw.resolve_left h3),if_pos (hw.resolve_left h3)]
  .have h1:¬e.1.dst=some t:=fun h=>hw (.inl h);have h2:¬e.1.op.w1=some t:=fun h=>hw (.inr h);rw[ql,if_neg h1,if_neg h2];refine i8 l W 0 _ _ ρ t fun j q hq hw'=>?_;rw[Sl]
   have:(j==i)=false:=by
    rw[beq_eq_false_iff_ne];intro ee;subst ee;rw[he]at hq;cases hq;exact hw hw'
   simp[this]
def nA:List (O×GK)->Nat->(Nat->Bool)->Nat
 | [],_,_=>0
 | e::l,k,S=>(if(e.2.isAct&&S k)=true then 1 else 0)+nA l (k+1) S
def nb:List (O×GK)->Nat->Nat
 | _,0=>0
 | [],_+1=>0
 | e::l,i+1=>(if e.2.isAct=true then 1 else 0)+nb l i
theorem nw:∀(l:List (O×GK)) (k:Nat) (S S':Nat->Bool),(∀j,j<l.length->S (k+j)=S' (k+j))->nA l k S=nA l k S'
 | [],_,_,_,_=>rfl
 | e::l,k,S,S',h=>by
  simp only[nA];rw[show S k=S' k from h 0 (by simp),nw l (k+1) S S' fun j hj=>by have:=h (j+1) (by simpa using hj);rwa[show k+(j+1)=k+1+j by omega]at this]
theorem zA:∀(l:List (O×GK)) (k:Nat),nA l k (fun _=>true)=nb l l.length
 | [],_=>rfl
 | e::l,k=>by simp only[nA,R6,nb,RL];rw[zA l (k+1)]
theorem ut:∀(l:List (O×GK)) (k:Nat),nA l k (fun _=>false)=0
 | [],_=>rfl
 | e::l,k=>by simp only[nA,RI];rw[ut l (k+1)];rfl
theorem JC:∀(l:List (O×GK)) (k:Nat) (S:Nat->Bool) (c lo:Nat),(∀j e,l[j]? = some e->e.2.isAct=true->c+nb l j<lo->S (k+j)=true)->min lo (c+nb l l.length)≤c+nA l k S
 | [],k,S,c,lo,h=>by simp only[nA,Si,nb];omega
 | e::l,k,S,c,lo,h=>by
  simp only[nA,R6,nb]
  have ih:=fun c' (hc':∀j,c'+nb l j<lo->c+((if e.2.isAct=true then 1 else 0)+nb l j)<lo)=>JC l (k+1) S c' lo (fun j e' he ha hn=>by
   have:=h (j+1) e' (by simpa using he) ha (by simp only[nb];exact hc' j hn);rwa[show k+(j+1)=k+1+j by omega]at this)
  cases ha:e.2.isAct with
  | false=>
   have:=ih c (fun j hn=>by simp only[ha];simp;omega);simp only[RN];simp;omega
  | true=>
   have:=ih (c+1) (fun j hn=>by simp only[ha];simp;omega);by_cases hlt:c<lo
   .have h0:=h 0 e (by simp) ha (by simp only[nb];omega);simp only[Sn]at h0;simp only[h0,Bool.and_self];simp;omega
   .omega
theorem JK:∀(l:List (O×GK)) (k:Nat) (S:Nat->Bool) (c hi:Nat),(∀j e,l[j]? = some e->e.2.isAct=true->hi≤c+nb l j->S (k+j)=false)->c+nA l k S≤max c hi
 | [],k,S,c,hi,h=>by simp only[nA];omega
 | e::l,k,S,c,hi,h=>by
  simp only[nA]
  have ih:=fun c' (hc':∀j,hi≤c'+nb l j->hi≤c+((if e.2.isAct=true then 1 else 0)+nb l j))=>JK l (k+1) S c' hi (fun j e' he ha hn=>by
   have:=h (j+1) e' (by simpa using he) ha (by simp only[nb];exact hc' j hn);rwa[show k+(j+1)=k+1+j by omega]at this)
  cases ha:e.2.isAct with
  | false=>
   have:=ih c (fun j hn=>by simp only[ha];simp;omega);simp only[RN];simp;omega
  | true=>
   have:=ih (c+1) (fun j hn=>by simp only[ha];simp;omega);by_cases hlt:c<hi
   .split<;>omega
   .have h0:=h 0 e (by simp) ha (by simp only[nb];omega);simp only[Sn]at h0;simp only[h0,RI];simp;omega
theorem Gd:∀(l:List (O×GK)) (k:Nat) (S:Nat->Bool) (i:Nat) (e:O×GK),l[i]? = some e->S (k+i)=false->nA l k (fun j=>j==k+i||S j)=nA l k S+if e.2.isAct=true then 1 else 0
 | [],_,_,_,_,h,_=>by simp at h
 | e'::l,k,S,0,e,h,hS=>by
  simp at h;subst h;simp only[Sn]at hS ⊢;simp only[nA,hS,RI,beq_self_eq_true,RM,RL]
  rw[nw l (k+1) (fun j=>j==k||S j) S fun j hj=>by
   have:(k+1+j==k)=false:=by simp;omega
   simp[this]]
  simp;omega
 | e'::l,k,S,i+1,e,h,hS=>by
  simp only[nA];have e1:k+(i+1)=k+1+i:=by omega
  rw[e1]at hS ⊢;rw[Gd l (k+1) S i e (by simpa using h) hS];have:(k==k+1+i)=false:=by simp;omega
  simp only[this,RD];omega
def mZ(C:Cx)(P:V->LLV->Prop)(e:O×GK)(k z:Nat)(sq:Nat->LLV)(ρi:ah)(w:V×V):Prop:=match e.2 with
 | .free lo=>lo≤z->∀σ,Loc C e.1 ρi σ w.2
 | .calm lo hi=>lo≤z->∀q,lo≤q->q≤hi->q≤z->Loc C e.1 ρi (sq q) w.2
 | .slot lo=>lo≤z->∀σ,pG C e.1.op ρi σ w.1 w.2 σ
 | .act=>(k<z->pG C e.1.op ρi (sq k) w.1 w.2 (sq (k+1)))/\(k=z->Ch C e.1.op ρi (sq z) P)
def kJ(e:O×GK)(k:Nat):Bool:=match e.2 with
 | .free lo=>e.1.op.isFree&&e.1.op.isCalm&&decide (lo≤k)
 | .calm lo hi=>e.1.op.isCalm&&e.1.dst.isSome&&decide (lo≤k)&&decide (k≤hi)
 | .slot lo=>e.1.op.isSlot&&e.1.g.isNone&&decide (lo≤k)
 | .act=>e.1.op.isActG e.1.dst&&e.1.g.isNone
theorem rv{o:O}{K:ah->Prop}(h:aS C [o] ρ σ K):∃x ρ',Loc C o ρ σ x/\K ρ'/\∀t,get ρ' t=get (putd ρ o.dst x) t:=by
 obtain⟨xs,hl,⟨ρ',h1,h2⟩,h3⟩:=jd (k:=0) h
 match xs,hl with
 | [x],_=>
  obtain⟨ρi,g1,g2⟩:=h3 0 (by simp) (by simp);refine⟨x,ρ',g1.congr fun t _=>?_,h1,fun t=>?_⟩
  .rw[g2 t];simp[ax,az]
  .rw[h2 t];simp[ax,az]
theorem qx{o:O}{ρ':ah}{x:V}{d:Nat}(hd:o.dst=some d)(hg:∀t,get ρ' t=get (putd ρ o.dst x) t)(h:aS C [o] ρ σ fun ρ''=>ρ''=ρ'):Loc C o ρ σ x:=by
 obtain⟨x2,ρ2,h1,rfl,h3⟩:=rv h;have h4:=h3 d;have h5:=hg d;rw[cz,if_pos hd]at h4 h5;rw[<-h5,h4];exact h1
theorem Ae{o:O}(h:o.op.isCalm=true):o.op.w1=none:=by
 cases ho:o.op<;>rw[ho]at h<;>first|rfl|(simp[OP.isCalm,cH]at h)
theorem pO{o:O}(h:o.op.isCalm=true)(a x:V)(ρ:ah):ap o (a,x) ρ=putd ρ o.dst x:=by
 unfold ap;rw[Ae h];rfl
theorem rE{o:O}{ρ':ah}:∀{n:Nat} {h:List LLV},mK C o ρ ρ' n h->∀r,r<n->∃σ,h[r]? = some σ/\aS C [o] ρ σ fun ρ''=>ρ''=ρ'
 | 0,_,_,r,hr=>by omega
 | n+1,[],hb,_,_=>hb.elim
 | n+1,σ::h,hb,0,_=>⟨σ,rfl,hb.1⟩
 | n+1,σ::h,hb,r+1,hr=>by
  obtain⟨σ',h1,h2⟩:=rE hb.2 r (by omega);exact⟨σ',by simpa using h1,h2⟩
theorem FF{m:Nat}{σ':LLV}:∀{p:List PendG},reG C m σ' p->∀q∈p,m≤q.hi->aS C [q.o] q.ρ σ' fun ρ'=>ρ'=q.ρ'
 | [],_,_,hq,_=>by simp at hq
 | x::p,h,q,hq,hm=>by
  rcases List.mem_cons.1 hq with rfl|hq
  .have:=h.1;rwa[if_pos hm]at this
  .exact FF h.2 q hq hm
theorem gG{P:V->LLV->Prop}{e:O×GK}{l:List (O×GK)}{k m m' z:Nat}{sq:Nat->LLV}{ρ ρ2:ah}{w:V×V}{W:Nat->V×V}(hm:m'=m+if e.2.isAct=true then 1 else 0)
 (h0:mZ C P e m z sq ρ w)(hρ2:∀t,get ρ2 t=get (ap e.1 w ρ) t)
 (ht:∀i (hi:i<l.length),∃ρi,(∀t,get ρi t=get (dG l W (k+1) (fun j=>decide (j<k+1+i)) ρ2) t)/\mZ C P l[i] (m'+nb l i) z sq ρi (W (k+1+i))):
 ∀i (hi:i<(e::l).length),∃ρi,(∀t,get ρi t=get (dG (e::l) (fun i=>if i=k then w else W i) k (fun j=>decide (j<k+i)) ρ) t)/\mZ C P (e::l)[i] (m+nb (e::l) i) z sq ρi (if k+i=k then w else W (k+i)):=by
 intro i hi;cases i with
 | zero=>
  refine⟨ρ,fun t=>?_,?_⟩
  .rw[ld _ _ _ _ _ fun j hj=>by simp;omega]
  .simpa[nb]using h0
 | succ i=>
  obtain⟨ρi,g1,g2⟩:=ht i (by simpa using hi);refine⟨ρi,fun t=>?_,?_⟩
  .rw[g1 t];simp only[dG,if_pos (show decide (k<k+(i+1))=true by simp),if_true];rw[zu l (fun i=>if i=k then w else W i) W (k+1) _ _ fun j hj=>if_neg (by omega),show k+(i+1)=k+1+i by omega];exact ni _ _ _ _ _ _ _ (hρ2 t)
  .simp only[Sd,nb];have hne:¬(k+(i+1)=k):=by omega
   simp only[if_neg hne];rw[show k+(i+1)=k+1+i by omega,<-Sr,<-hm];exact g2
theorem m4{P:V->LLV->Prop}{m:Nat}{h:List LLV}{sq:Nat->LLV}(hs:sq m=σ)(hh:∀r,r<m->h[r]? = some (sq (m-1-r))):∀(l:List (O×GK)) (k c:Nat) (ρ:ah),m<c->(∀i e,l[i]? = some e->kJ e (c+nb l i)=true)->fJ C l m h ρ σ->
 ∃W:Nat->V×V,∀i (hi:i<l.length),∃ρi,(∀t,get ρi t=get (dG l W k (fun j=>decide (j<k+i)) ρ) t)/\mZ C P l[i] (c+nb l i) m sq ρi (W (k+i))
 | [],_,_,_,_,_,_=>⟨fun _=>(.junk,.junk),fun i hi=>by simp at hi⟩
 | (o,g)::l,k,c,ρ,hmc,hok,hp=>by
  have hok0:=hok 0 _ rfl;simp only[nb,Sn]at hok0
  have hokt:∀c',c'=c+(if g.isAct=true then 1 else 0)->∀i e,l[i]? = some e->kJ e (c'+nb l i)=true:=fun c' hc' i e he=>by
   have:=hok (i+1) e (by simpa using he);simp only[nb]at this;rw[hc',Sr];exact this
  have skip:∀c',c'=c+(if g.isAct=true then 1 else 0)->mZ C P (o,g) c m sq ρ (.junk,.junk)->fJ C l m h (ap o (.junk,.junk) ρ) σ->∃W:Nat->V×V,∀i (hi:i<((o,g)::l).length),∃ρi,(∀t,get ρi t=get (dG ((o,g)::l) W k (fun j=>decide (j<k+i)) ρ) t)/\mZ C P ((o,g)::l)[i] (c+nb ((o,g)::l) i) m sq ρi (W (k+i)):=fun c' hc' h0 hr=>by
   obtain⟨W,hW⟩:=m4 hs hh l (k+1) c' (ap o (.junk,.junk) ρ) (by omega) (hokt c' hc') hr;exact⟨_,gG hc' h0 (fun _=>rfl) hW⟩
  cases g with
  | free lo=>
   simp only[fJ]at hp;simp only[kJ,RC]at hok0;split at hp
   .obtain⟨x,ρ',h1,h2,h3⟩:=rv hp;obtain⟨W,hW⟩:=m4 hs hh l (k+1) c ρ' hmc (hokt c rfl) h2;exact⟨_,gG (e:=(o,.free lo)) (w:=(.junk,x)) rfl (fun _ σ2=>h1.free hok0.1.1 σ2) (fun t=>by rw[h3 t,pO hok0.1.2]) hW⟩
   .exact skip c rfl (fun hz=>absurd hz (by assumption)) hp
  | calm lo hi=>
   simp only[fJ]at hp;simp only[kJ,RC,decide_eq_true_eq]at hok0;split at hp
   .rename_i hlo;obtain⟨x,ρ',h1,⟨h2,h4⟩,h3⟩:=rv hp;obtain⟨d,hd⟩:=Option.isSome_iff_exists.1 hok0.1.1.2;obtain⟨W,hW⟩:=m4 hs hh l (k+1) c ρ' hmc (hokt c rfl) h4;refine⟨_,gG (e:=(o,.calm lo hi)) (w:=(.junk,x)) rfl (fun _ q q1 q2 q3=>?_) (fun t=>by rw[h3 t,pO hok0.1.1.1]) hW⟩;by_cases e:q=m
    .subst e;rw[hs];exact h1
    .obtain⟨σ',g1,g2⟩:=rE h2 (m-1-q) (by omega);rw[hh _ (by omega),show m-1-(m-1-q)=q by omega]at g1;cases g1;exact qx hd h3 g2
   .exact skip c rfl (fun hz=>absurd hz (by assumption)) hp
  | slot lo=>
   simp only[fJ]at hp;simp only[kJ,RC,Sv]at hok0;split at hp
   .simp only[dl,hok0.1.2]at hp;obtain⟨a,b,σ',h1,⟨-,h2⟩,h3⟩:=mB (.inl hok0.1.1) hp;have hσ:=h3 hok0.1.1;rw[hσ]at h1;obtain⟨W,hW⟩:=m4 hs hh l (k+1) c _ hmc (hokt c rfl) h2;refine⟨_,gG (e:=(o,.slot lo)) (w:=(a,b)) rfl (fun _ σ2=>?_) (fun t=>rfl) hW⟩;cases ho:o.op<;>rw[ho]at h1 hok0<;>first|(simp[OP.isSlot]at hok0;done)|skip
    all_goals (simp only[pG]at h1 ⊢;simpa using h1)
   .exact skip c rfl (fun hz=>absurd hz (by assumption)) hp
  | act=>
   simp only[fJ]at hp;exact skip (c+1) rfl ⟨fun hz=>by omega,fun hz=>by omega⟩ hp
def ExG(C:Cx)(P:V->LLV->Prop)(K:ah->LLV->Prop)(l:List (O×GK))(k m:Nat)(p:List PendG)(ρ:ah)(sq0:Nat->LLV):Prop:=
 ∃(W:Nat->V×V) (sq:Nat->LLV) (z:Nat),(∀q,q≤m->sq q=sq0 q)/\m≤z/\z≤m+nb l l.length/\
  (∀q∈p,∀r,m<r->r≤z->r≤q.hi->aS C [q.o] q.ρ (sq r) fun ρ'=>ρ'=q.ρ')/\
  (∀i (hi:i<l.length),∃ρi,(∀t,get ρi t=get (dG l W k (fun j=>decide (j<k+i)) ρ) t)/\mZ C P l[i] (m+nb l i) z sq ρi (W (k+i)))/\
  (z=m+nb l l.length->∃ρf,K ρf (sq z)/\∀t,get ρf t=get (dG l W k (fun _=>true) ρ) t)
theorem uC{P:V->LLV->Prop}{K:ah->LLV->Prop}:∀(l:List (O×GK)) (k m:Nat) (h:List LLV) (p:List PendG) (ρ:ah) (σ:LLV) (sq0:Nat->LLV),sq0 m=σ->(∀r,r<m->h[r]? = some (sq0 (m-1-r)))->
 (∀i e,l[i]? = some e->kJ e (m+nb l i)=true)->fx C P K l m h p ρ σ->
 ExG C P K l k m p ρ sq0
 | [],k,m,h,p,ρ,σ,sq0,hs,hh,hok,hg=>⟨fun _=>(.junk,.junk),sq0,m,fun _ _=>rfl,Sm _,by simp[nb],fun q hq r h1 h2=>by omega,fun i hi=>by simp at hi,fun _=>⟨ρ,by rw[hs];exact hg,fun _=>rfl⟩⟩
 | (o,g)::l,k,m,h,p,ρ,σ,sq0,hs,hh,hok,hg=>by
  have hok0:=hok 0 _ rfl;simp only[nb,Sn]at hok0
  have hokt:∀c',c'=m+(if g.isAct=true then 1 else 0)->∀i e,l[i]? = some e->kJ e (c'+nb l i)=true:=fun c' hc' i e he=>by
   have:=hok (i+1) e (by simpa using he);simp only[nb]at this;rw[hc',Sr];exact this
  have fin:∀{W:Nat->V×V} {w:V×V} {ρ2:ah},(∀t,get ρ2 t=get (ap o w ρ) t)->∀{ρf:ah},(∀t,get ρf t=get (dG l W (k+1) (fun _=>true) ρ2) t)->∀t,get ρf t=get (dG ((o,g)::l) (fun i=>if i=k then w else W i) k (fun _=>true) ρ) t:=fun{W w ρ2} h1 {ρf} h2 t=>by
   simp only[dG,if_true];rw[h2 t,zu l (fun i=>if i=k then w else W i) W (k+1) _ _ fun j hj=>if_neg (by omega)];exact ni _ _ _ _ _ _ _ (h1 t)
  have calm:g.isAct=false->∀(p':List PendG) (ρ':ah) (w:V×V),(∀q∈p,q∈p')->(∀t,get ρ' t=get (ap o w ρ) t)->fx C P K l m h p' ρ' σ->
   (∀(sq:Nat->LLV) (z:Nat),m≤z->(∀q,q≤m->sq q=sq0 q)->(∀q∈p',∀r,m<r->r≤z->r≤q.hi->aS C [q.o] q.ρ (sq r) fun ρ'=>ρ'=q.ρ')->mZ C P (o,g) m z sq ρ w)->ExG C P K ((o,g)::l) k m p ρ sq0:=fun hna p' ρ' w hp hρ hr hf=>by
   obtain⟨W,sq,z,g1,g2,g3,g4,g5,g6⟩:=uC l (k+1) m h p' ρ' σ sq0 hs hh (hokt m (by simp[hna])) hr;have hn:nb ((o,g)::l) ((o,g)::l).length=nb l l.length:=by simp[nb,hna]
   exact⟨fun i=>if i=k then w else W i,sq,z,g1,g2,by rw[hn];exact g3,fun q hq=>g4 q (hp q hq),gG (by simp[hna]) (hf sq z g2 g1 g4) hρ g5,fun hz=>by
    rw[hn]at hz;obtain⟨ρf,k1,k2⟩:=g6 hz;exact⟨ρf,k1,fin hρ k2⟩⟩
  have acts:g=.act->∀(ρ':ah) (w:V×V) (σ1:LLV),(∀t,get ρ' t=get (ap o w ρ) t)->pG C o.op ρ σ w.1 w.2 σ1->reG C (m+1) σ1 p->fx C P K l (m+1) (σ::h) p ρ' σ1->ExG C P K ((o,g)::l) k m p ρ sq0:=fun hg ρ' w σ1 hρ hE hre hr=>by
   subst hg
   obtain⟨W,sq,z,g1,g2,g3,g4,g5,g6⟩:=uC l (k+1) (m+1) (σ::h) p ρ' σ1 (fun q=>if q≤m then sq0 q else σ1) (if_neg (by omega)) (fun r hr=>by
    cases r with
    | zero=>simp[hs]
    | succ r=>
     have:=hh r (by omega);simp only[RX,this];rw[if_pos (by omega),show m+1-1-(r+1)=m-1-r by omega]) (hokt (m+1) rfl) hr
   have hn:m+nb ((o,.act)::l) ((o,GK.act)::l).length=m+1+nb l l.length:=by simp[nb,GK.isAct];omega
   have e1:∀q,q≤m->sq q=sq0 q:=fun q hq=>(g1 q (by omega)).trans (if_pos hq);have e2:sq (m+1)=σ1:=(g1 _ (Sm _)).trans (if_neg (by omega));refine⟨fun i=>if i=k then w else W i,sq,z,e1,by omega,by rw[hn];exact g3,fun q hq r h1 h2 h3=>?_,gG (e:=(o,.act)) rfl ⟨fun _=>?_,fun hz=>by omega⟩ hρ g5,fun hz=>?_⟩
   .by_cases e:r=m+1
    .subst e;rw[e2];exact FF hre q hq h3
    .exact g4 q hq r (by omega) h2 h3
   .rw[e2,e1 m (Sm _),hs];exact hE
   .rw[hn]at hz;obtain⟨ρf,k1,k2⟩:=g6 hz;exact⟨ρf,k1,fin hρ k2⟩
  have pans:g=.act->Ch C o.op ρ σ P->fJ C l m h (ap o (.junk,.junk) ρ) σ->ExG C P K ((o,g)::l) k m p ρ sq0:=fun hg hE hr=>by
   subst hg;obtain⟨W,hW⟩:=m4 (P:=P) (sq:=sq0) hs hh l (k+1) (m+1) _ (by omega) (hokt (m+1) rfl) hr;exact⟨fun i=>if i=k then(.junk,.junk)else W i,sq0,m,fun _ _=>rfl,Sm _,Nat.le_add_right _ _,fun q hq r h1 h2=>by omega,gG (e:=(o,.act)) rfl ⟨fun hz=>by omega,fun _=>by rw[hs];exact hE⟩ (fun _=>rfl) hW,fun hz=>by simp[nb,GK.isAct]at hz⟩
  cases g with
  | free lo=>
   simp only[fx]at hg;simp only[kJ,RC]at hok0;obtain⟨x,ρ',h1,h2,h3⟩:=rv hg;exact calm rfl p ρ' (.junk,x) (fun _ h=>h) (fun t=>by rw[h3 t,pO hok0.1.2]) h2 fun sq z _ _ _ _ σ2=>h1.free hok0.1.1 σ2
  | calm lo hi=>
   simp only[fx]at hg;simp only[kJ,RC,decide_eq_true_eq]at hok0;obtain⟨x,ρ',h1,⟨h2,h4⟩,h3⟩:=rv hg;obtain⟨d,hd⟩:=Option.isSome_iff_exists.1 hok0.1.1.2;refine calm rfl _ ρ' (.junk,x) (fun q hq=>?_) (fun t=>by rw[h3 t,pO hok0.1.1.1]) h4 fun sq z hz hsq hpd _ q q1 q2 q3=>?_
   .unfold vJ;split
    .exact List.mem_cons_of_mem _ hq
    .exact hq
   .by_cases e:q=m
    .subst e;rw[hsq q (Sm _),hs];exact h1
    .by_cases e2:q<m
     .obtain⟨σ',k1,k2⟩:=rE h2 (m-1-q) (by omega);rw[hh _ (by omega),show m-1-(m-1-q)=q by omega]at k1;cases k1;rw[hsq q (by omega)];exact qx hd h3 k2
     .have:=hpd ⟨o,ρ,ρ',hi⟩ (by unfold vJ;rw[if_pos (by omega)];simp) q (by omega) q3 q2;exact qx hd h3 this
  | slot lo=>
   simp only[fx]at hg;simp only[kJ,RC,Sv]at hok0;simp only[dl,hok0.1.2]at hg;obtain⟨a,b,σ',h1,⟨-,h2⟩,h3⟩:=mB (.inl hok0.1.1) hg;have hσ:=h3 hok0.1.1;rw[hσ]at h1 h2;refine calm rfl p _ (a,b) (fun _ h=>h) (fun _=>rfl) h2 fun sq z _ _ _ _ σ2=>?_;cases ho:o.op<;>rw[ho]at h1 hok0<;>first|(simp[OP.isSlot]at hok0;done)|skip
   all_goals (simp only[pG]at h1 ⊢;simpa using h1)
  | act=>
   simp only[kJ,RC,Sv]at hok0;obtain⟨d,op,gd⟩:=o
   have det:(∀f args,op≠.call f args)->(∀x args,op≠.callv x args)->(dl C [⟨d,op,gd⟩] ρ σ fun e ρ' σ'=>e=.normal/\reG C (m+1) σ' p/\fx C P K l (m+1) (σ::h) p ρ' σ')->ExG C P K ((⟨d,op,gd⟩,.act)::l) k m p ρ sq0:=fun n1 n2 hg=>by
    simp only at hok0;simp only[dl,hok0.2]at hg;obtain⟨a,b,σ',h1,⟨-,h2,h4⟩,h3⟩:=mB (o:=⟨d,op,gd⟩) (.inr ⟨hok0.1,n1,n2⟩) hg;exact acts rfl _ (a,b) σ' (fun _=>rfl) h1 h2 h4
   cases op
   case call f args=>
    simp only[fx]at hg;rcases hg with⟨v,σ1,h1,h2,h3⟩|⟨h1,h2⟩
    .exact acts rfl _ (.junk,v) σ1 (fun _=>rfl) h1 h2 h3
    .exact pans rfl h1 h2
   case callv x args=>
    simp only[fx]at hg;obtain⟨f,cap,he,hg⟩:=hg;rcases hg with⟨v,σ1,h1,h2,h3⟩|⟨h1,h2⟩
    .exact acts rfl _ (.junk,v) σ1 (fun _=>rfl) ⟨f,cap,he,h1⟩ h2 h3
    .exact pans rfl ⟨f,cap,he,h1⟩ h2
   all_goals exact det (fun _ _ h=>by cases h) (fun _ _ h=>by cases h) (by simpa only[fx]using hg)
def O.wl(o:O):List Nat:=o.dst.toList++o.op.w1.toList
def loG(e:O×GK)(k:Nat):Nat:=match e.2 with
 | .free lo=>lo
 | .calm lo _=>lo
 | .slot lo=>lo
 | .act=>k
def hiG(e:O×GK)(k:Nat):Option Nat:=match e.2 with
 | .calm _ hi=>some hi
 | .act=>some k
 | _=>none
def mL(l:List (O×GK))(os:List Oper):Bool:=
 let bf:=aY os []
 ((RY os.length).all fun i=>match os[i]? with|some o=>(aW o).all fun j=>decide (j<i)|none=>true) &&
 ((RY l.length).all fun i=>match l[i]? with
   | some e=>kJ e (nb l i)&&((RY l.length).all fun j=>j==i||(match l[j]? with
    | some q=>(!((e.1.looksG++e.1.wl).any fun t=>q.1.wl.contains t)||(if j<i then(bf.getD i []).contains j else(bf.getD j []).contains i)) &&
     (!q.2.isAct||((!decide (nb l j<loG e (nb l i))||(bf.getD i []).contains j)&&(match hiG e (nb l i)with|some hi=>!decide (hi≤nb l j)||(bf.getD j []).contains i|none=>true)))
    | none=>true))
   | none=>true)
structure OKG(l:List (O×GK))(os:List Oper):Prop where
 lt:∀(i:Nat) (o:Oper),os[i]? = some o->∀j∈aW o,j<i
 one:∀(i:Nat) (e:O×GK),l[i]? = some e->kJ e (nb l i)=true
 cmp:∀(i:Nat) (e:O×GK),l[i]? = some e->∀t,(t∈e.1.looksG\/e.1.writes t)->∀(j:Nat) (q:O×GK),l[j]? = some q->j≠i->q.1.writes t->(j<i/\j∈(aY os []).getD i [])\/(i<j/\i∈(aY os []).getD j [])
 lo:∀(i:Nat) (e:O×GK),l[i]? = some e->∀(j:Nat) (q:O×GK),l[j]? = some q->j≠i->q.2.isAct=true->nb l j<loG e (nb l i)->j∈(aY os []).getD i []
 hi:∀(i:Nat) (e:O×GK),l[i]? = some e->∀(j:Nat) (q:O×GK),l[j]? = some q->j≠i->q.2.isAct=true->∀h,hiG e (nb l i)=some h->h≤nb l j->i∈(aY os []).getD j []
theorem sX{o:O}{t:Nat}:t∈o.wl↔o.writes t:=by
 unfold O.wl O.writes;simp[Sa]
theorem zv{l:List (O×GK)}{os:List Oper}(h:mL l os=true):OKG l os:=by
 unfold mL at h;simp only[RC]at h;obtain⟨h1,h2⟩:=h;simp only[RR,RZ]at h1 h2
 have two:∀(i:Nat) (e:O×GK),l[i]? = some e->kJ e (nb l i)=true/\∀(j:Nat) (q:O×GK),l[j]? = some q->j≠i->_:=fun i e he=>by
  have:=h2 i (List.getElem?_eq_some_iff.1 he).1;rw[he]at this;simp only[RC,RR,RZ]at this;refine⟨this.1,fun j q hq hne=>?_⟩;have h3:=this.2 j (List.getElem?_eq_some_iff.1 hq).1;rw[hq]at h3;have hne':(j==i)=false:=by simp[hne]
  rw[hne',RD,RC]at h3;exact h3
 refine⟨fun i o ho j hj=>?_,fun i e he=>(two i e he).1,fun i e he t ht j q hq hne hw=>?_,fun i e he j q hq hne ha hlt=>?_,fun i e he j q hq hne ha hh eh hle=>?_⟩
 .have:=h1 i (List.getElem?_eq_some_iff.1 ho).1;rw[ho]at this;simpa using List.all_eq_true.1 this j hj
 .have h3:=((two i e he).2 j q hq hne).1
  have hany:((e.1.looksG++e.1.wl).any fun t=>q.1.wl.contains t)=true:=by
   rw[List.any_eq_true];refine⟨t,?_,by rw[Sc];exact sX.2 hw⟩;rw[Sa];exact ht.imp id sX.2
  rw[hany]at h3;simp only[RK,RD]at h3;split at h3
  .exact .inl ⟨by assumption,by simpa using h3⟩
  .exact .inr ⟨by omega,by simpa using h3⟩
 .have h3:=((two i e he).2 j q hq hne).2;simp only[ha,RK,RD,RC,RE,RG,decide_eq_false_iff_not]at h3;rcases h3.1 with h4|h4
  .exact absurd hlt h4
  .simpa using h4
 .have h3:=((two i e he).2 j q hq hne).2;simp only[ha,RK,RD,RC,eh,RE,RG,decide_eq_false_iff_not]at h3;rcases h3.2 with h4|h4
  .exact absurd hle h4
  .simpa using h4
theorem AX:∀(l:List (O×GK)) (i:Nat),nb l i≤nb l l.length
 | [],0=>Sm _
 | [],_+1=>Sm _
 | e::l,0=>Ss _
 | e::l,i+1=>by simp only[nb,R6];have:=AX l i;omega
theorem JR:∀(l:List (O×GK)) (i:Nat) (e:O×GK),l[i]? = some e->e.2.isAct=true->nb l i<nb l l.length
 | [],_,_,h,_=>by simp at h
 | e'::l,0,e,h,ha=>by simp at h;subst h;simp only[nb,R6,ha];simp;omega
 | e'::l,i+1,e,h,ha=>by simp only[nb,R6];have:=JR l i e (by simpa using h) ha;omega
theorem vX{M0:an}{bm0:List Nat}{w0:World}(hG:C.glob M0 pr w0){id:Nat}{ops:Array Oper}{l:List (O×GK)}{M:an}{bm:List Nat}{tk:bP}{a:Act}{w:World}(hok:fQ C.tab n ops (l.map (·.1)) ops.toList=true)(hdr:mL l ops.toList=true)
 (hl:Later M0 bm0 pr w0 M bm w)(h:SRel M bm tk pr ρ σ n a w)
 (hq:fx C (fun u σ'=>∀ρ',Q (.panic u) ρ' σ') (fun ρ' σ'=>Q .normal ρ' σ') l 0 [] [] ρ σ):
 (Code.region id ops true).wp C.P (bC M0 bm0 pr w0 n Q) a w:=by
 obtain⟨hlen,hget⟩:=g9 hok;have D:=zv hdr;have hnl:l.length=ops.size:=by have:=hlen;simp at this;exact this
 obtain⟨W,sq,z,e0,-,e2,-,facts,fin⟩:=uC l 0 0 [] [] ρ σ (fun _=>σ) rfl (fun r hr=>by omega) (fun i e he=>by rw[Sl];exact D.one i e he) hq;simp only[Sl]at e2 facts fin;have sq0:sq 0=σ:=e0 0 (Sm _)
 have fact:∀(i:Nat) (e:O×GK),l[i]? = some e->∃ρi,(∀t,get ρi t=get (dG l W 0 (fun j=>decide (j<i)) ρ) t)/\mZ C (fun u σ'=>∀ρ',Q (.panic u) ρ' σ') e (nb l i) z sq ρi (W i):=fun i e he=>by
  obtain⟨hi,rfl⟩:=List.getElem?_eq_some_iff.1 he;exact facts i hi
 obtain⟨ρe,hρe⟩:∃ρe,∀t,get ρe t=get (dG l W 0 (fun _=>true) ρ) t:=⟨_,fun _=>rfl⟩
 have pick:∃ρf,(∀t,get ρf t=get (dG l W 0 (fun _=>true) ρ) t)/\(z=nb l l.length->Q .normal ρf (sq z)):=by
  by_cases hz:z=nb l l.length
  .obtain⟨ρf,k1,k2⟩:=fin hz;exact⟨ρf,k2,fun _=>k1⟩
  .exact⟨ρe,hρe,fun e=>absurd e hz⟩
 obtain⟨ρf,f1,f2⟩:=pick;refine lD (M:=M) (bm:=bm) (tk:=tk) (fun S=>dG l W 0 S ρ) (fun S=>sq (nA l 0 S)) ρf (sq (nb l l.length)) (fun S=>nA l 0 S≤z) (by rw[ut];exact Ss _) (fun S S' hS hI=>by rw[<-nw l 0 S S' fun j hj=>by rw[Sl];exact hS j (by omega)];exact hI) D.lt (fun S S' hS=>⟨fun t=>?_,?_⟩) hl ?_ (fun hI=>?_) ?_
 .refine i8 l W 0 S S' ρ t fun i e he _=>?_;rw[Sl];exact hS i (by have:=(List.getElem?_eq_some_iff.1 he).1;omega)
 .show sq _=sq _;rw[nw l 0 S S' fun j hj=>by rw[Sl];exact hS j (by omega)]
 .rw[ut,sq0,ld _ _ _ _ _ fun _ _=>rfl];exact h
 .rw[zA]at hI;have hz:z=nb l l.length:=by omega
  refine⟨⟨f1,by rw[zA]⟩,?_⟩;have:=f2 hz;rwa[hz]at this
 intro S i o' ho' hSi hclo hedge hI M bm tk a w hl h;have hi1:i<ops.toList.length:=(List.getElem?_eq_some_iff.1 ho').1;have hi2:i<l.length:=by rw[hnl];simpa using hi1
 obtain⟨e,he⟩:∃e,l[i]? = some e:=⟨_,RP hi2⟩
 have hlo:(l.map (·.1))[i]? = some e.1:=by rw[List.getElem?_map,he];rfl
 have hoo:=hget i _ o' hlo ho';have hbef:∀j∈(aY ops.toList []).getD i [],S j=true:=bO D.lt (S:=fun j=>S j=true) hclo i o' ho' hedge
 have hbefj:∀q,q<l.length->S q=true->∀j∈(aY ops.toList []).getD q [],S j=true:=fun q hq hSq=>by
  have hq2:ops.toList[q]? = some (ops.toList[q]'(by simp;omega)):=RP _;exact bO D.lt (S:=fun j=>S j=true) hclo q _ hq2 (hclo q _ hq2 hSq)
 have hno:∀(j:Nat) (q:O×GK),l[j]? = some q->i∈(aY ops.toList []).getD j []->S j=false:=fun j q hj hm=>by
  have:¬S j=true:=fun hjl=>by
   have:=hbefj j (List.getElem?_eq_some_iff.1 hj).1 hjl i hm;rw[hSi]at this;cases this
  simpa using this
 have hsame:∀t,(t∈e.1.looksG\/e.1.writes t)->∀(j:Nat) (q:O×GK),l[j]? = some q->j≠i->q.1.writes t->S j=decide (j<i):=by
  intro t ht j q hj hne hw;rcases D.cmp i e he t ht j q hj hne hw with⟨g1,g2⟩|⟨g1,g2⟩
  .rw[hbef j g2];simp[g1]
  .rw[hno j q hj g2];simp;omega
 obtain⟨hgl,hn⟩:=BZ W ρ he hSi hsame;obtain⟨ρi,g1,g2⟩:=fact i e he;have cg:∀t∈e.1.looksG,get ρi t=get (dG l W 0 S ρ) t:=fun t ht=>by rw[g1 t];exact hgl t ht
 have cgo:∀t∈e.1.op.slotsG,get ρi t=get (dG l W 0 S ρ) t:=fun t ht=>cg t (by unfold O.looksG;simp[ht]);have one:=D.one i e he;have hadd:=Gd l 0 S i e he (by rw[Sl];exact hSi);simp only[Sl]at hadd
 have hlow:loG e (nb l i)≤nb l l.length->loG e (nb l i)≤nA l 0 S:=fun hle=>by
  have:=JC l 0 S 0 (loG e (nb l i)) fun j q hj ha hlt=>by
   rw[Sl]at hlt ⊢;by_cases hne:j=i
   .subst hne;rw[he]at hj;cases hj;unfold loG at hlt;unfold GK.isAct at ha
    revert ha hlt
    cases e.2<;>simp
   .exact hbef j (D.lo i e he j q hj hne ha hlt)
  omega
 have hhigh:∀h,hiG e (nb l i)=some h->nA l 0 S≤h:=fun h eh=>by
  have:=JK l 0 S 0 h fun j q hj ha hle=>by
   rw[Sl]at hle ⊢;by_cases hne:j=i
   .subst hne;exact hSi
   .exact hno j q hj (D.hi i e he j q hj hne ha h eh hle)
  omega
 have wantNone:e.1.g=none->Region.wanted o' (yielded ops a.tmps)=true:=fun hg=>by
  have hgd:=hoo;unfold okO at hgd;simp only[RC]at hgd;replace hgd:=hgd.2;rw[hg]at hgd;split at hgd
  .rename_i hg2;simp[Region.wanted,hg2]
  .rename_i e _;cases e
  .cases hgd
 have wrapC:e.2.isAct=false->e.1.op.isCalm=true->Loc C e.1 ρi (sq (nA l 0 S)) (W i).2->
  if Region.wanted o' (yielded ops a.tmps)then o'.wp C.P a w (lg M bm pr w n fun ρ' σ'=>(∀t,get ρ' t=get (dG l W 0 (fun j=>j==i||S j) ρ) t)/\σ'=sq (nA l 0 fun j=>j==i||S j)/\nA l 0 (fun j=>j==i||S j)≤z) (bC M bm pr w n Q)
  else SRel M bm tk pr (dG l W 0 (fun j=>j==i||S j) ρ) (sq (nA l 0 fun j=>j==i||S j)) n (a.put o'.dst undef) w/\nA l 0 (fun j=>j==i||S j)≤z:=fun hna hc hL=>by
  have e3:nA l 0 (fun j=>j==i||S j)=nA l 0 S:=by rw[hadd,hna];simp
  rw[e3];have hap:∀t,get (ap e.1 (W i) (dG l W 0 S ρ)) t=get (putd (dG l W 0 S ρ) e.1.dst (W i).2) t:=fun t=>by unfold ap;rw[Ae hc];rfl
  have:=mV (Q:=Q) (hG.mono hl) h hoo (hL.congr fun t ht=>cg t (by rw[<-yf hc];exact ht));split at this
  .rename_i hw;rw[if_pos hw];exact Oper.wp_mono2 (fun a' w' ⟨M',bm',tk',ρ',σ',⟨k1,k2⟩,k3,k4⟩=>⟨M',bm',tk',ρ',σ',⟨fun t=>by rw[k1,hn t,hap t],k2,hI⟩,k3,k4⟩) (fun e a' w' hh=>hh) this
  .rename_i hw;rw[if_neg hw];exact⟨this.congr fun t=>by rw[hn t,hap t],hI⟩
 have wrapE:e.1.g=none->(e.1.op.isSlot=true\/e.1.op.isActG e.1.dst=true)->nA l 0 (fun j=>j==i||S j)≤z->pG C e.1.op ρi (sq (nA l 0 S)) (W i).1 (W i).2 (sq (nA l 0 fun j=>j==i||S j))->
  if Region.wanted o' (yielded ops a.tmps)then o'.wp C.P a w (lg M bm pr w n fun ρ' σ'=>(∀t,get ρ' t=get (dG l W 0 (fun j=>j==i||S j) ρ) t)/\σ'=sq (nA l 0 fun j=>j==i||S j)/\nA l 0 (fun j=>j==i||S j)≤z) (bC M bm pr w n Q)
  else SRel M bm tk pr (dG l W 0 (fun j=>j==i||S j) ρ) (sq (nA l 0 fun j=>j==i||S j)) n (a.put o'.dst undef) w/\nA l 0 (fun j=>j==i||S j)≤z:=fun hg hc hz hE=>by
  rw[if_pos (wantNone hg)];refine Oper.wp_mono2 (fun a' w' ⟨M',bm',tk',ρ',σ',⟨k1,k2⟩,k3,k4⟩=>⟨M',bm',tk',ρ',σ',⟨fun t=>by rw[k1,hn t],k2,hz⟩,k3,k4⟩) (fun e a' w' ⟨_,_,_,_,_,_,hf,_⟩=>hf.elim) (cy (Q:=fun _ _ _=>False) (hG.mono hl) h hoo (Ef hc (yt cgo hE)))
 obtain⟨o,g⟩:=e;cases g with
 | free lo=>
  simp only[kJ,RC,decide_eq_true_eq]at one;have:=hlow (by simp only[loG];have:=AX l i;omega);exact wrapC rfl one.1.2 (g2 (by simp only[loG]at this;omega) _)
 | calm lo hi=>
  simp only[kJ,RC,decide_eq_true_eq]at one;have h1:=hlow (by simp only[loG];have:=AX l i;omega);have h2:=hhigh hi rfl;simp only[loG]at h1;exact wrapC rfl one.1.1.1 (g2 (by omega) _ h1 h2 hI)
 | slot lo=>
  simp only[kJ,RC,Sv,decide_eq_true_eq]at one;have h1:=hlow (by simp only[loG];have:=AX l i;omega);simp only[loG]at h1;have e3:nA l 0 (fun j=>j==i||S j)=nA l 0 S:=by rw[hadd];simp[GK.isAct]
  exact wrapE one.1.2 (.inl one.1.1) (by rw[e3];exact hI) (by rw[e3];exact g2 (by omega) _)
 | act=>
  simp only[kJ,RC,Sv]at one;have hlt:=JR l i _ he rfl;have h1:=hlow (by simp only[loG];omega);have h2:=hhigh _ rfl;simp only[loG]at h1;have hc:nA l 0 S=nb l i:=by omega
  have e3:nA l 0 (fun j=>j==i||S j)=nb l i+1:=by rw[hadd,hc];simp[GK.isAct]
  by_cases hz:nb l i<z
  .exact wrapE one.2 (.inr one.1) (by rw[e3];omega) (by rw[e3,hc];exact g2.1 hz)
  .have hzz:nb l i=z:=by omega
   have hp:=g2.2 hzz;rw[if_pos (wantNone one.2)];have hE:=EY (o:=o) (zq (ρ':=dG l W 0 S ρ) cgo hp);rw[<-hzz,<-hc]at hE;refine Oper.wp_mono2 (fun a' w' ⟨M',bm',tk',ρ',σ',hf,k3,k4⟩=>hf.elim) (fun e a' w' ⟨M',bm',tk',ρ',σ',x,⟨u,k1,k2⟩,k3⟩=>⟨M',bm',tk',ρ',σ',x,by subst k1;exact k2 ρ',k3⟩) (cy (K:=fun _ _=>False) (Q:=fun e _ σ'=>∃u,e=.panic u/\∀ρ',Q (.panic u) ρ' σ') (hG.mono hl) h hoo hE)
end
end Go.Proofs.YthekkgfmagliiaaGreatDoor
