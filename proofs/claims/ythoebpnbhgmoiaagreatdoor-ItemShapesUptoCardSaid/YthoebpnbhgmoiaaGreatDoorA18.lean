import Derived.Test.YthoebpnbhgmoiaaGreatDoorA13
import Derived.Orders
import Derived.RowKit
import Derived.Recover
set_option linter.unusedVariables false
set_option linter.unusedSimpArgs false
set_option linter.unusedSectionVars false
open Array renaming getD_eq_getD_getElem?→JH,getElem?_eq_getElem→JI,getElem?_setIfInBounds_self_of_lt→JJ,getElem?_toList→JK,getElem?_setIfInBounds_ne→JL,replicate→JM,all_toList→JO,getElem?_replicate→JP,toList_setIfInBounds→JQ
open Bool renaming and_eq_true→JR,false_eq_true→JS,false_or→JT,or_eq_true→JU,not_eq_true'→JV,true_or→JW,not_false→JX,and_false→JY,true_and→JZ,not_true→J0,and_true→J1,false_and→J2,or_self→J3
open Classical renaming byContradiction→J4
open List renaming getElem?_eq_getElem→J5,all_eq_true→J6,getElem_of_mem→J7,map_congr_left→J8,mem_range→J9,range→Ka,mem_filter→Kb,filter_eq_nil_iff→Kc,getElem?_take_of_lt→Ke,eq_nil_of_length_eq_zero→Kf,length_cons→Kg,getElem?_cons_succ→Kh,getElem?_append_right→Ki,getD_eq_getElem?_getD→Kj,getElem?_append_left→Kk,mem_append_right→Kl,contains_iff_mem→Km,mem_append→Kn,getElem_cons_succ→Ko,mem_of_mem_take→Kp,length_nil→Kq
open Nat renaming zero_add→Kr,le_refl→Ks,add_zero→Kt,strongRecOn→Ku,add_assoc→Kv,zero_le→Kw
open Ne renaming symm→Kx
open Option renaming getD_some→Ky,isNone_iff_eq_none→Kz,map_some→KB,bind_some→KC
namespace Go.Proofs.YthoebpnbhgmoiaaGreatDoor
open Go.RowKit
mutual
def V.under(k:Nat):V→Bool
 | .agg cs=>V.unders k cs
 | .tup cs=>V.unders k cs
 | .fn _ cs=>V.unders k cs
 | .bnd _ cs=>V.unders k cs
 | .ptr i _=>decide (i<k)
 | .bsl i _ _ _=>decide (i<k)
 | .iface _ v=>V.under k v
 | .mp i=>decide (i<k)
 | .bsc i _ _=>decide (i<k)
 | .mapc _ kv=>V.underkv k kv
 | .d _=>true
 | .own _ _ _=>true
 | .nil=>true
 | .row _ _=>true
 | .junk=>true
def V.unders(k:Nat):List V→Bool
 | []=>true
 | x::r=>V.under k x&&V.unders k r
def V.underkv(k:Nat):List (Key×V)→Bool
 | []=>true
 | p::r=>V.underp k p&&V.underkv k r
def V.underp(k:Nat):Key×V→Bool
 | (_,x)=>V.under k x
end
theorem V.unders_get{k:Nat}:∀{cs:List V},V.unders k cs=true→∀i (h:i<cs.length),V.under k cs[i]=true
 | x::r,h,i,hi=>by
  simp only[V.unders,JR]at h;cases i with
  | zero=>exact h.1
  | succ i=>exact V.unders_get h.2 i (by simpa using hi)
theorem V.unders_of{k:Nat}:∀{cs:List V},(∀i (h:i<cs.length),V.under k cs[i]=true)→V.unders k cs=true
 | [],_=>rfl
 | x::r,h=>by
  simp only[V.unders,JR];exact⟨h 0 (by simp),V.unders_of fun i hi=>h (i+1) (by simpa using hi)⟩
theorem Rep.drop{M:ax}{bm:List Nat}{k:Nat}{x:V}{v:Value}(h:Rep M bm x v):V.under k x=true→Rep M (bm.take k) x v:=by
 induction h with
 | d h=>exact fun _=>.d h
 | own h=>exact fun _=>.own h
 | nil=>exact fun _=>.nil
 | agg hl h h1 ih=>exact fun hb=>.agg hl (fun i g1 g2=>ih i g1 g2 (V.unders_get (by simpa only[V.under]using hb) i g1)) h1
 | tup hl h ih=>exact fun hb=>.tup hl (fun i g1 g2=>ih i g1 g2 (V.unders_get (by simpa only[V.under]using hb) i g1))
 | ptr h=>exact fun hb=>.ptr (by
  simp only[V.under,decide_eq_true_eq]at hb;rw[Ke hb];exact h)
 | row val hf hd=>exact fun _=>.row val hf hd
 | bsl h hc hm=>exact fun hb=>.bsl (by
  simp only[V.under,decide_eq_true_eq]at hb;rw[Ke hb];exact h) hc hm
 | fn hl h ih=>exact fun hb=>.fn hl (fun i g1 g2=>ih i g1 g2 (V.unders_get (by simpa only[V.under]using hb) i g1))
 | bnd hl h ih=>exact fun hb=>.bnd hl (fun i g1 g2=>ih i g1 g2 (V.unders_get (by simpa only[V.under]using hb) i g1))
 | iface h ih=>exact fun hb=>.iface (ih (by simpa only[V.under]using hb))
 | mp h=>exact fun hb=>.mp (by
  simp only[V.under,decide_eq_true_eq]at hb;rw[Ke hb];exact h)
 | bsc h hc hm=>exact fun hb=>.bsc (by
  simp only[V.under,decide_eq_true_eq]at hb;rw[Ke hb];exact h) hc hm
 | junk v=>exact fun _=>.junk v
theorem Rep.under{M:ax}{bm:List Nat}{x:V}{v:Value}(h:Rep M bm x v):V.under bm.length x=true:=by
 induction h with
 | d h=>rfl
 | own h=>rfl
 | nil=>rfl
 | agg hl h h1 ih=>simp only[V.under];exact V.unders_of fun i hi=>ih i hi (by omega)
 | tup hl h ih=>simp only[V.under];exact V.unders_of fun i hi=>ih i hi (by omega)
 | ptr h=>simp only[V.under,decide_eq_true_eq];exact(List.getElem?_eq_some_iff.1 h).1
 | row val hf hd=>rfl
 | bsl h hc hm=>simp only[V.under,decide_eq_true_eq];exact(List.getElem?_eq_some_iff.1 h).1
 | fn hl h ih=>simp only[V.under];exact V.unders_of fun i hi=>ih i hi (by omega)
 | bnd hl h ih=>simp only[V.under];exact V.unders_of fun i hi=>ih i hi (by omega)
 | iface h ih=>simpa only[V.under]using ih
 | mp h=>simp only[V.under,decide_eq_true_eq];exact(List.getElem?_eq_some_iff.1 h).1
 | bsc h hc hm=>simp only[V.under,decide_eq_true_eq];exact(List.getElem?_eq_some_iff.1 h).1
 | junk v=>rfl
theorem MR.drop{M:ax}{bm:List Nat}{k:Nat}{st:Bool}{kv:List (Key×V)}{es:List MapEntry}(h:MR M bm st kv es):V.underkv k kv=true→MR M (bm.take k) st kv es:=by
 induction h with
 | nil=>exact fun _=>.nil
 | cons hk hs hx ho _ ih=>
  intro hb;simp only[V.underkv,V.underp,JR]at hb;exact .cons hk hs (hx.drop hb.1) ho (ih hb.2)
theorem MR.under{M:ax}{bm:List Nat}{st:Bool}{kv:List (Key×V)}{es:List MapEntry}(h:MR M bm st kv es):V.underkv bm.length kv=true:=by
 induction h with
 | nil=>rfl
 | cons hk hs hx ho _ ih=>simp only[V.underkv,V.underp,JR];exact⟨hx.under,ih⟩
def ay(k:Nat)(σ:List (List V)):Bool:=σ.all fun cs=>V.unders k cs
def aq(k:Nat)(ρ:ai):Bool:=ρ.all fun p=>V.under k p.2
section
variable {C : Cx} {M : ax} {bm : List Nat} {tk : bq} {pr : Prot} {ρ : ai} {σ : List (List V)} {n : Nat} {a : Act} {w : World} {K : ai → List (List V) → Prop} {Q : AEx → ai → List (List V) → Prop}
theorem Inv.drop(h:Inv M bm σ tk pr w){k:Nat}(hb:ay k (σ.take k)=true):Inv M (bm.take k) (σ.take k) tk pr w:=by
 refine⟨h.facts,by simp[h.len],fun i b cs hi hc=>?_,fun b hb=>h.free b (Kp hb),h.bmnd.sublist (List.take_sublist _ _),fun i j g hg=>?_,h.inj,h.prlt⟩
 ·have hik:i<k:=by have:=(List.getElem?_eq_some_iff.1 hi).1;simp at this;omega
  have hmem:=List.mem_of_getElem? hc;rw[Ke hik]at hi hc;have hbl:V.unders k cs=true:=List.all_eq_true.1 hb cs hmem;rcases h.box i b cs hi hc with⟨vs,T,h1,h2,h3⟩|⟨st,kv,es,clock,rfl,h1,h2,h3⟩
  case inr=>exact .inr ⟨st,kv,es,clock,rfl,h1,h2,h3.drop (by simpa[V.unders,V.under]using hbl)⟩
  exact .inl ⟨vs,T,h1,h2,fun j g1 g2=>⟨⟨(h3 j g1 g2).1.rep.drop (V.unders_get hbl j g1),(h3 j g1 g2).1.own⟩,(h3 j g1 g2).2⟩⟩
 ·obtain⟨t1,t2,t3⟩:=h.tok i j g hg;exact⟨t1,fun hm=>t2 (Kp hm),t3⟩
theorem Inv.under(h:Inv M bm σ tk pr w):ay σ.length σ=true:=by
 rw[ay,J6];intro cs hcs;obtain⟨i,hi,rfl⟩:=J7 hcs;rcases h.box i (bm[i]'(by rw[h.len];exact hi)) σ[i] (J5 _) (J5 _)with⟨vs,T,h1,h2,h3⟩|⟨st,kv,es,clock,e,h1,h2,h3⟩
 case inr=>rw[e];simp only[V.unders,V.under,J1];rw[←h.len];exact h3.under
 refine V.unders_of fun j hj=>?_;rw[←h.len];exact(h3 j hj (by omega)).1.rep.under
theorem vV{k:Nat}(h:aq k ρ=true)(t:Nat):V.under k (get ρ t)=true:=by
 induction ρ with
 | nil=>rfl
 | cons p r ih=>
  obtain⟨s,u⟩:=p;simp only[aq,List.all_cons,JR]at h;simp only[get];split
  ·exact h.1
  ·exact ih h.2
theorem SRel.drop(h:SRel M bm tk pr ρ σ n a w){k:Nat}(h1:ay k (σ.take k)=true)(h2:aq k ρ=true):SRel M (bm.take k) tk pr ρ (σ.take k) n a w:=
 ⟨h.inv.drop h1,h.defers,h.size,fun t=>⟨(h.slots t).rep.drop (vV h2 t),(h.slots t).own⟩⟩
theorem Later.drop{M':ax}{bm':List Nat}{w':World}(h:Later M bm pr w M' bm' w'){k:Nat}(hk:bm.length≤k):Later M bm pr w M' (bm'.take k) w':=by
 obtain⟨t,ht⟩:=h.pre;exact⟨h.le,⟨t.take (k-bm.length),by rw[ht,List.take_append,List.take_of_length_le hk]⟩,h.keep,h.facts,h.os,h.tape,h.output,h.size⟩
theorem Oper.wp_mono2{P:Program}{o:Oper}{a:Act}{w:World}{K K':Act→World→Prop}{Q Q':Exit→Act→World→Prop}(h1:∀a w,K a w→K' a w)(h2:∀e a w,Q e a w→Q' e a w)(hh:o.wp P a w K Q):o.wp P a w K' Q':=by
 unfold Oper.wp at *;generalize (execOp a.eval o).run P w=r at *;cases r with
 | ok n w'=>
  cases n<;>simp only[Oper.upon]at hh ⊢ <;>
   first
    | exact h1 _ _ hh
    | exact Calls.mono hh (fun e w'' he=>by
     cases e with
     | returned v=>exact h1 _ _ he
     | panicked c=>exact h2 _ _ _ he
     | outgrown=>obtain⟨a,w,hq⟩:=he;exact⟨a,w,h2 _ _ _ hq⟩)
    | exact Rows.mono hh (fun _ _ he=>h1 _ _ he)
    | exact hh
 | halt x w'=>cases x<;>simp only[Oper.upon]at hh ⊢ <;>first|exact h2 _ _ _ hh|exact hh
theorem d9(h:SRel M bm tk pr ρ σ n a w){ops:Array Oper}{t j:Nat}{b:Bool}(hg:get ρ t=.d (.lit (.bool b)))(hj:(match ops[j]? with|some q=>q.dst==some t|none=>false)=true):yielded ops a.tmps j=some b:=by
 split at hj
 ·rename_i q hq;have hq2:q.dst=some t:=by simpa using hj
  have hr:=(h.slots t).rep;rw[hg]at hr;have hv:=hr.bool_inv;unfold yielded;rw[hq];simp only[KC,hq2];cases ht:a.tmps[t]? with
  | none=>
   simp only[JH,ht,Option.getD_none]at hv;cases hv
  | some v=>
   simp only[JH,ht,Ky]at hv;subst hv;rfl
 ·cases hj
theorem fi{M:ax}{bm:List Nat}:Rep M bm (.tup []) undef:=.tup (vs:=[]) rfl fun i h=>by simp at h
theorem gE(h:SRel M bm tk pr ρ σ n a w){ops:Array Oper}{t j:Nat}(hg:get ρ t=.tup [])(hj:(match ops[j]? with|some q=>q.dst==some t|none=>false)=true):yielded ops a.tmps j=none:=by
 split at hj
 ·rename_i q hq;have hq2:q.dst=some t:=by simpa using hj
  have hr:=(h.slots t).rep;rw[hg]at hr;unfold yielded;rw[hq];simp only[KC,hq2];cases ht:a.tmps[t]? with
  | none=>rfl
  | some v=>
   simp only[JH,ht,Ky]at hr;cases hr with
   | tup _ _=>rfl
 ·cases hj
theorem SRel.know(h:SRel M bm tk pr ρ σ n a w){t:Nat}{b:Bool}(hb:get ρ t=.d (.lit (.bool b))){c:Bool}(hc:b=c):SRel M bm tk pr (put ρ t (.d (.lit (.bool c)))) σ n a w:=
 ⟨h.inv,h.defers,h.size,fun s=>by
   rw[aS];split
   ·rename_i e;subst e;subst hc;rw[←hb];exact h.slots s
   ·exact h.slots s⟩
theorem fx{M0:ax}{bm0:List Nat}{w0:World}(hG:C.glob M0 pr w0){ops:Array Oper}:∀{l:List O} {l':List Oper} {M:ax} {bm:List Nat} {tk:bq} {ρ:ai} {σ:List (List V)} {a:Act} {w:World},
 ft C.tab n ops l l'=true→Later M0 bm0 pr w0 M bm w→SRel M bm tk pr ρ σ n a w→cl C l ρ σ Q→wpList C.P ops (bw M0 bm0 pr w0 n Q) l' a w
 | [],[],M,bm,tk,ρ,σ,a,w,_,hl,h,hq=>⟨M,bm,tk,ρ,σ,_,hq,.normal,h,hl⟩
 | o::r,o'::r',M,bm,tk,ρ,σ,a,w,hok,hl,h,hq=>by
  simp only[ft,JR]at hok;obtain⟨h1,h2⟩:=hok;have hG':=hG.mono hl
  have step:∀{ρ:ai},SRel M bm tk pr ρ σ n a w→cQ C o.op o.dst ρ σ (fun ρ' σ'=>cl C r ρ' σ' Q) Q→o'.wp C.P a w (wpList C.P ops (bw M0 bm0 pr w0 n Q) r') (bw M0 bm0 pr w0 n Q):=fun h hr=>by
   refine Oper.wp_mono2 (fun a' w' hL=>?_) (fun e a' w' hL=>hL.trans hl) (bQ hG' h h1 hr);obtain⟨M',bm',tk',ρ',σ',k1,k2,k3⟩:=hL;exact fx hG h2 (hl.trans k3 (fun _ h=>h)) k2 k1
  have hgd:∀g,o.g=g→(match g,o'.guard with
   | none,none=>true
   | some (t,b),some (j,b')=>b==b'&&(match ops[j]? with|some q=>q.dst==some t|none=>false)
   | _,_=>false)=true:=fun g hg=>by
   subst hg;unfold okO at h1;simp only[JR]at h1;exact h1.2
  have hdst:o.dst=o'.dst:=by
   unfold okO at h1;simp only[JR,beq_iff_eq]at h1;exact h1.1.1.2
  have hdn:∀d,o'.dst=some d→d<n:=by
   unfold okO at h1;simp only[JR]at h1;intro d hd;have:=h1.1.2;rw[hd]at this;simpa using this
  unfold wpList;simp only[cl]at hq;split at hq
  ·rename_i hg;have:=hgd none hg;split at this
   ·rename_i hg2;rw[if_pos (by simp[Region.wanted,hg2])];exact .inl (step h hq)
   ·rename_i e _;cases e
   ·cases this
  ·rename_i t want hg;have:=hgd _ hg;split at this
   ·rename_i e _;cases e
   ·rename_i t' b' j b'' e hg2;cases e;simp only[JR,beq_iff_eq]at this;obtain⟨rfl,hj⟩:=this;split at hq
    ·rename_i b hb;have hy:=d9 h hb hj;by_cases hbw:b=want
     ·rw[if_pos (by simp[Region.wanted,hg2,hy,hbw])];exact .inl (step (h.know hb hbw) (hq.1 hbw))
     ·rw[if_neg (by simp[Region.wanted,hg2,hy,hbw])];have:=hq.2 hbw;rw[hdst]at this;exact fx hG h2 hl ((h.know hb (c:=!want) (by cases b<;>cases want<;>simp_all)).putd hdn fi (by simp)) this
    ·rename_i hb;have hy:=gE h hb hj;rw[if_neg (by simp[Region.wanted,hg2,hy])];rw[hdst]at hq;exact fx hG h2 hl (h.putd hdn fi (by simp)) hq
    ·exact hq.elim
   ·cases this
 | [],_::_,_,_,_,_,_,_,_,hok,_,_,_=>by cases hok
 | _::_,[],_,_,_,_,_,_,_,hok,_,_,_=>by cases hok
end
end Go.Proofs.YthoebpnbhgmoiaaGreatDoor
namespace Go.Proofs.YthoebpnbhgmoiaaGreatDoor
open Go.RowKit
def X.slots:X→List Nat
 | .t n=>[n]
 | _=>[]
def OP.slots:OP→List Nat
 | .mv x | .un _ x | .conv _ x | .cstr x | .cbs x | .nilck x | .fa _ x | .fld _ _ _ x | .len _ x | .ext x _ | .load _ _ x | .mki _ x | .tas _ _ x=>x.slots
 | .pick c a b=>c.slots++(a.slots++b.slots)
 | .clip c a b=>c.slots++(a.slots++b.slots)
 | .mlk _ _ _ x k=>x.slots++k.slots
 | .mln x=>x.slots
 | .nif _ x=>x.slots
 | .nip _ x=>x.slots
 | .eqa _ _ _ x y=>x.slots++y.slots
 | .bin _ x y | .binb _ x y | .ia _ x y | .aa _ _ x y | .ix x y | .mx _ x y=>x.slots++y.slots
 | .bld _ ps=>ps.flatMap fun p=>p.2.2.slots
 | .sub _ _ x lo hi=>x.slots++(lo.toList++hi.toList).flatMap X.slots
 | .mkfn _ cap=>cap.flatMap X.slots
 | .mkbd _ first=>first.flatMap X.slots
 | .mks _ _ xs=>xs.flatMap X.slots
 | .call _ args=>args.flatMap X.slots
 | .callv x args=>x.slots++args.flatMap X.slots
 | .calln _ args=>args.flatMap X.slots
 | _=>[]
def aP(C:Cx)(op:OP)(ρ:ai)(σ:List (List V))(k:V→Prop):Prop:=
 match op with
 | .call f args=>∃v,Fun C f (args.map fun x=>(ev C ρ x).lend) σ (fun o σ'=>o=.ret v∧σ'=σ)∧k v
 | .callv x args=>match ev C ρ x with
  | .fn f cap=>∃v,Fun C f ((args.map fun x=>(ev C ρ x).lend)++cap) σ (fun o σ'=>o=.ret v∧σ'=σ)∧k v
  | _=>False
 | .mks _ kk xs=>match aC (xs.map (ev C ρ))with
  | some rows=>rows.all (fun r=>r.length==kk)=true∧k (.d (.sl rows))
  | none=>False
 | .calln f args=>∃v,Fun C f (args.map fun x=>(ev C ρ x).copy) σ (fun o σ'=>o=.ret v∧σ'=σ)∧k v
 | op=>match ba op,pv C op ρ σ with
  | true,some v=>k v
  | _,_=>False
def bg(C:Cx):List O→ai→List (List V)→(ai→Prop)→Prop
 | [],ρ,_,K=>K ρ
 | o::r,ρ,σ,K=>match o.g with
  | none=>aP C o.op ρ σ fun v=>bg C r (putd ρ o.dst v) σ K
  | some (t,want)=>match get ρ t with
   | .d (.lit (.bool b))=>(b=want→aP C o.op (put ρ t (.d (.lit (.bool want)))) σ fun v=>bg C r (putd (put ρ t (.d (.lit (.bool want)))) o.dst v) σ K)∧(b≠want→bg C r (putd (put ρ t (.d (.lit (.bool (!want))))) o.dst (.tup [])) σ K)
   | .tup []=>bg C r (putd ρ o.dst (.tup [])) σ K
   | _=>False
def aI:List (Option Nat×V×Bool)→ai→ai
 | [],ρ=>ρ
 | (d,x,b)::r,ρ=>aI r (if b then putd ρ d x else ρ)
theorem bP(ρ:ai)(d:Option Nat)(x:V)(t:Nat):get (putd ρ d x) t=if d=some t then x else get ρ t:=by
 cases d with
 | none=>simp[putd]
 | some d=>simp only[putd,aS,Option.some.injEq];split<;>split<;>first|rfl|omega
theorem fD:∀(l:List (Option Nat×V×Bool)) (ρ ρ':ai) (t:Nat),get ρ t=get ρ' t→get (aI l ρ) t=get (aI l ρ') t
 | [],_,_,_,h=>h
 | (d,x,b)::r,ρ,ρ',t,h=>by
  simp only[aI];apply fD r;cases b
  ·exact h
  ·simp only[if_true,bP];split
   ·rfl
   ·exact h
theorem bX:∀(l l':List (Option Nat×V×Bool)) (ρ:ai) (t:Nat),l.length=l'.length→(∀i (h:i<l.length) (h':i<l'.length),l[i].1=l'[i].1∧l[i].2.1=l'[i].2.1∧(l[i].1=some t→l[i].2.2=l'[i].2.2))→get (aI l ρ) t=get (aI l' ρ) t
 | [],[],_,_,_,_=>rfl
 | (d,x,b)::r,(d',x',b')::r',ρ,t,hl,h=>by
  simp only[aI];obtain⟨h1,h2,h3⟩:=h 0 (by simp) (by simp);simp only[List.getElem_cons_zero]at h1 h2 h3;subst h1;subst h2;have hr:=fun ρ=>bX r r' ρ t (by simpa using hl) (fun i g1 g2=>h (i+1) (by simpa using g1) (by simpa using g2));by_cases e:d=some t
  ·rw[h3 e];exact hr _
  ·rw[←hr];apply fD;cases b<;>cases b'<;>simp[bP,e]
 | [],_::_,_,_,hl,_=>by simp at hl
 | _::_,[],_,_,hl,_=>by simp at hl
theorem dc:∀(l:List (Option Nat×V×Bool)) (ρ:ai) (t:Nat),(∀p∈l,p.1=some t→p.2.2=false)→get (aI l ρ) t=get ρ t
 | [],_,_,_=>rfl
 | (d,x,b)::r,ρ,t,h=>by
  simp only[aI];rw[dc r _ t (fun p hp=>h p (by simp[hp]))];cases b
  ·rfl
  ·simp only[if_true,bP];split
   ·rename_i e;have:=h (d,x,true) (by simp) e;cases this
   ·rfl
theorem kf:∀(l l':List (Option Nat×V×Bool)) (ρ:ai),aI (l++l') ρ=aI l' (aI l ρ)
 | [],_,_=>rfl
 | (d,x,b)::r,l',ρ=>by simp only[List.cons_append,aI];exact kf r l' _
theorem eX(l:List (Option Nat×V×Bool))(ρ:ai)(i:Nat)(h:i<l.length)(t:Nat)(hd:l[i].1=some t)(hb:l[i].2.2=true)(hn:∀j (hj:j<l.length),i<j→l[j].1=some t→l[j].2.2=false):get (aI l ρ) t=l[i].2.1:=by
 have e:aI l ρ=aI (l.take i++(l[i]::l.drop (i+1))) ρ:=by rw[List.getElem_cons_drop,List.take_append_drop]
 rw[e,kf];generalize aI (l.take i) ρ=ρ1;generalize hli:l[i]=p at hd hb;obtain⟨d,x,b⟩:=p;simp only at hd hb;subst hd;subst hb;simp only[aI,if_true];rw[dc]
 ·simp[bP]
 ·intro p hp hpt;obtain⟨j,hj,rfl⟩:=J7 hp;simp only[List.getElem_drop]at hpt ⊢;exact hn (i+1+j) (by simp at hj;omega) (by omega) hpt
def O.looks(o:O):List Nat:=o.op.slots++(match o.g with|some (t,_)=>[t]|none=>[])
def aD(o:Oper):List Nat:=(o.after.toList.filter fun e=>Region.binds .any e).map (·.on)
def aY:List Oper→List (List Nat)→List (List Nat)
 | [],acc=>acc
 | o::r,acc=>aY r (acc++[aD o++(aD o).flatMap fun j=>acc.getD j []])
def mO(l:List O)(os:List Oper):Bool:=
 let bf:=aY os []
 (Ka os.length).all fun i=>
   (match os[i]? with|some o=>(aD o).all fun j=>decide (j<i)|none=>true) &&
   (match l[i]? with
   | some o=>(o.looks++o.dst.toList).all fun t=>(Ka l.length).all fun j=>j==i||(match l[j]? with
    | some p=>p.dst != some t||(if j<i then(bf.getD i []).contains j else(bf.getD j []).contains i)
    | none=>true)
   | none=>true)
def aE:List O→List V→Nat→(Nat→Bool)→List (Option Nat×V×Bool)
 | o::l,x::xs,k,S=>(o.dst,x,S k)::aE l xs (k+1) S
 | _,_,_,_=>[]
theorem eN:∀(l:List O) (xs:List V) (k:Nat) (S:Nat→Bool),xs.length=l.length→(aE l xs k S).length=l.length
 | [],[],_,_,_=>rfl
 | o::l,x::xs,k,S,h=>by simp only[aE,Kg];rw[eN l xs (k+1) S (by simpa using h)]
 | [],_::_,_,_,h=>by simp at h
 | _::_,[],_,_,h=>by simp at h
theorem eW:∀(l:List O) (xs:List V) (k:Nat) (S:Nat→Bool) (i:Nat) (h:i<(aE l xs k S).length) (h1:i<l.length) (h2:i<xs.length),(aE l xs k S)[i]=(l[i].dst,xs[i],S (k+i))
 | o::l,x::xs,k,S,0,h,h1,h2=>rfl
 | o::l,x::xs,k,S,i+1,h,h1,h2=>by
  have:=eW l xs (k+1) S i (by simpa[aE]using h) (by simpa using h1) (by simpa using h2);simp only[aE,Ko];rw[this,show k+1+i=k+(i+1)by omega]
def Loc(C:Cx)(o:O)(ρ:ai)(σ:List (List V))(x:V):Prop:=
 match o.g with
 | none=>aP C o.op ρ σ fun v=>v=x
 | some (t,want)=>match get ρ t with
  | .d (.lit (.bool b))=>(b=want→aP C o.op ρ σ fun v=>v=x)∧(b≠want→x=.tup [])
  | .tup []=>x=.tup []
  | _=>False
section
variable {C : Cx} {pr : Prot} {σ : List (List V)} {n : Nat} {Q : AEx → ai → List (List V) → Prop}
theorem dF{op:OP}{ρ:ai}{k:V→Prop}(h:aP C op ρ σ k):∃v,aP C op ρ σ (fun u=>u=v)∧k v:=by
 unfold aP at h;split at h
 ·obtain⟨v,h1,h2⟩:=h;exact⟨v,by simp only[aP];exact⟨v,h1,rfl⟩,h2⟩
 ·rename_i x args;split at h
  ·rename_i f cap e;obtain⟨v,h1,h2⟩:=h;exact⟨v,by simp only[aP,e];exact⟨v,h1,rfl⟩,h2⟩
  ·exact h.elim
 ·split at h
  ·rename_i rows e;obtain⟨h1,h2⟩:=h;exact⟨_,by simp only[aP,e];exact⟨h1,trivial⟩,h2⟩
  ·exact h.elim
 ·obtain⟨v,h1,h2⟩:=h;exact⟨v,by simp only[aP];exact⟨v,h1,rfl⟩,h2⟩
 ·rename_i n1 n2 n3 n4;split at h
  ·rename_i v hp e;refine⟨v,?_,h⟩;unfold aP;split
   ·exact absurd rfl (n1 _ _)
   ·exact absurd rfl (n2 _ _)
   ·exact absurd rfl (n3 _ _ _)
   ·exact absurd rfl (n4 _ _)
   ·rw[hp,e]
  ·exact h.elim
theorem bB{ρ ρ':ai}{x:X}(h:∀t∈x.slots,get ρ t=get ρ' t):ev C ρ x=ev C ρ' x:=by
 cases x with
 | t n=>exact h n (by simp[X.slots])
 | k v=>rfl
 | g n=>rfl
theorem gQ{ρ ρ':ai}{xs:List X}(h:∀t∈xs.flatMap X.slots,get ρ t=get ρ' t):xs.map (ev C ρ)=xs.map (ev C ρ'):=
 J8 fun x hx=>bB fun t ht=>h t (List.mem_flatMap.2 ⟨x,hx,ht⟩)
theorem oq{ρ ρ':ai}:∀{ps:List (Nat×Nat×X)} {cs:List V},(∀t∈ps.flatMap (fun p=>p.2.2.slots),get ρ t=get ρ' t)→bc (ev C ρ) cs ps=bc (ev C ρ') cs ps
 | [],cs,_=>rfl
 | (off,k,x)::ps,cs,h=>by
  have e:ev C ρ x=ev C ρ' x:=bB fun t ht=>h t (by simp[ht]);simp only[bc,e];have:=fun cs=>oq (ps:=ps) (cs:=cs) (fun t ht=>h t (by simp only[List.flatMap_cons,Kn];exact .inr ht));split
  ·split<;>first|rfl|exact this _
  ·rfl
theorem yx{ρ ρ':ai}{op:OP}(h:∀t∈op.slots,get ρ t=get ρ' t):pv C op ρ σ=pv C op ρ' σ:=by
 have two:∀{x y:X},(∀t∈x.slots++y.slots,get ρ t=get ρ' t)→ev C ρ x=ev C ρ' x∧ev C ρ y=ev C ρ' y:=fun h=>
  ⟨bB fun t ht=>h t (by simp[ht]),bB fun t ht=>h t (by simp[ht])⟩
 cases op<;>simp only[OP.slots]at h<;>simp only[pv]
 case pick c a b=>
  have e1:ev C ρ c=ev C ρ' c:=bB fun t ht=>h t (by simp[ht]);have e2:ev C ρ a=ev C ρ' a:=bB fun t ht=>h t (by simp[ht]);have e3:ev C ρ b=ev C ρ' b:=bB fun t ht=>h t (by simp[ht]);rw[e1,e2,e3]
 case clip c a b=>
  have e1:ev C ρ c=ev C ρ' c:=bB fun t ht=>h t (by simp[ht]);have e2:ev C ρ a=ev C ρ' a:=bB fun t ht=>h t (by simp[ht]);have e3:ev C ρ b=ev C ρ' b:=bB fun t ht=>h t (by simp[ht]);rw[e1,e2,e3]
 case bin o x y=>rw[(two h).1,(two h).2]
 case binb o x y=>rw[(two h).1,(two h).2]
 case ia k x y=>rw[(two h).1,(two h).2]
 case aa k m x y=>rw[(two h).1,(two h).2]
 case ix x y=>rw[(two h).1,(two h).2]
 case mx g x y=>rw[(two h).1,(two h).2]
 case mlk st ok z x y=>rw[(two h).1,(two h).2]
 case bld zs ps=>rw[oq h]
 case mkfn f cap=>rw[gQ h]
 case mkbd f first=>rw[gQ h]
 case sub s k x lo hi=>
  have e1:ev C ρ x=ev C ρ' x:=bB fun t ht=>h t (by simp[ht])
  have e2:lo.map (ev C ρ)=lo.map (ev C ρ'):=by
   cases lo with
   | none=>rfl
   | some y=>simp only[KB];rw[bB fun t ht=>h t (by simp[ht])]
  have e3:hi.map (ev C ρ)=hi.map (ev C ρ'):=by
   cases hi with
   | none=>rfl
   | some y=>simp only[KB];rw[bB fun t ht=>h t (by simp[ht])]
  rw[e1,e2,e3]
 case eqa neq T ks x y=>
  have e1:ev C ρ x=ev C ρ' x:=bB fun t ht=>h t (by simp[ht]);have e2:ev C ρ y=ev C ρ' y:=bB fun t ht=>h t (by simp[ht]);rw[e1,e2]
 all_goals first
  | rfl
  | rw[bB h]
theorem d7{ρ ρ':ai}{op:OP}{k:V→Prop}(h:∀t∈op.slots,get ρ t=get ρ' t)(hc:aP C op ρ σ k):aP C op ρ' σ k:=by
 unfold aP at hc;split at hc
 ·rename_i f args;have e:(args.map fun x=>(ev C ρ x).lend)=args.map fun x=>(ev C ρ' x).lend:=J8 fun x hx=>by rw[bB fun t ht=>h t (List.mem_flatMap.2 ⟨x,hx,ht⟩)]
  rw[e]at hc;exact hc
 ·rename_i x args;simp only[OP.slots]at h;have e:(args.map fun x=>(ev C ρ x).lend)=args.map fun x=>(ev C ρ' x).lend:=J8 fun x hx=>by rw[bB fun t ht=>h t (Kl _ (List.mem_flatMap.2 ⟨x,hx,ht⟩))]
  have e2:ev C ρ x=ev C ρ' x:=bB fun t ht=>h t (by simp[ht]);rw[e,e2]at hc;exact hc
 ·rename_i T kk xs;rw[gQ (C:=C) h]at hc;exact hc
 ·rename_i f args;have e:(args.map fun x=>(ev C ρ x).copy)=args.map fun x=>(ev C ρ' x).copy:=J8 fun x hx=>by rw[bB fun t ht=>h t (List.mem_flatMap.2 ⟨x,hx,ht⟩)]
  rw[e]at hc;exact hc
 ·rename_i n1 n2 n3 n4;rw[yx h]at hc;unfold aP;split
  ·exact absurd rfl (n1 _ _)
  ·exact absurd rfl (n2 _ _)
  ·exact absurd rfl (n3 _ _ _)
  ·exact absurd rfl (n4 _ _)
  ·exact hc
theorem Loc.congr{ρ ρ':ai}{o:O}{x:V}(h:∀t∈o.looks,get ρ t=get ρ' t)(hc:Loc C o ρ σ x):Loc C o ρ' σ x:=by
 unfold O.looks at h;unfold Loc at hc ⊢;split at hc
 ·rename_i hg;rw[hg]at h;exact d7 (fun t ht=>h t (by simp[ht])) hc
 ·rename_i t want hg;rw[hg]at h;have e:get ρ t=get ρ' t:=h t (by simp);rw[e]at hc;split at hc
  ·rename_i b hb;exact⟨fun hw=>d7 (fun t ht=>h t (by simp[ht])) (hc.1 hw),hc.2⟩
  ·exact hc
  ·exact hc.elim
theorem mg:∀{l:List O} {ρ:ai} {k:Nat} {K:ai→Prop},bg C l ρ σ K→
 ∃xs:List V,xs.length=l.length∧(∃ρ',K ρ'∧∀t,get ρ' t=get (aI (aE l xs k fun _=>true) ρ) t)∧
  ∀i (h:i<l.length) (h':i<xs.length),∃ρi,Loc C l[i] ρi σ xs[i]∧∀t,get ρi t=get (aI (aE l xs k fun j=>decide (j<k+i)) ρ) t
 | [],ρ,k,K,h=>⟨[],rfl,⟨ρ,h,fun _=>rfl⟩,fun i h=>by simp at h⟩
 | o::r,ρ,k,K,h=>by
  have key:∀x ρ2,(∀t,get ρ2 t=get ρ t)→Loc C o ρ σ x→bg C r (putd ρ2 o.dst x) σ K→∃xs:List V,xs.length=(o::r).length∧(∃ρ',K ρ'∧∀t,get ρ' t=get (aI (aE (o::r) xs k fun _=>true) ρ) t)∧
   ∀i (h:i<(o::r).length) (h':i<xs.length),∃ρi,Loc C (o::r)[i] ρi σ xs[i]∧∀t,get ρi t=get (aI (aE (o::r) xs k fun j=>decide (j<k+i)) ρ) t:=by
   intro x ρ2 h2e hx hr;obtain⟨xs,h1,⟨ρ',h2,h3⟩,h4⟩:=mg (k:=k+1) hr;have hput:∀t,get (putd ρ2 o.dst x) t=get (putd ρ o.dst x) t:=fun t=>by rw[bP,bP,h2e]
   refine⟨x::xs,by simp[h1],⟨ρ',h2,fun t=>?_⟩,fun i hi hi'=>?_⟩
   ·simp only[aE,aI,if_true];rw[h3 t];exact fD _ _ _ _ (hput t)
   ·cases i with
    | zero=>
     refine⟨ρ,hx,fun t=>?_⟩;rw[dc];intro p hp _;obtain⟨j,hj,rfl⟩:=J7 hp;have hl:=eN (o::r) (x::xs) k (fun j=>decide (j<k+0)) (by simp[h1]);rw[hl]at hj;rw[eW _ _ _ _ _ (by rw[hl];exact hj) hj (by simp[h1];simpa using hj)];simp
    | succ i=>
     obtain⟨ρi,g1,g2⟩:=h4 i (by simpa using hi) (by simpa using hi');refine⟨ρi,g1,fun t=>?_⟩;simp only[aE,aI];rw[if_pos (by simp),g2 t,show k+1+i=k+(i+1)by omega];exact fD _ _ _ _ (hput t)
  have know:∀{t:Nat} {b c:Bool},get ρ t=.d (.lit (.bool b))→b=c→∀s,get (put ρ t (.d (.lit (.bool c)))) s=get ρ s:=fun hb hc s=>by
   rw[aS];split
   ·rename_i e;subst e;subst hc;exact hb.symm
   ·rfl
  simp only[bg]at h;split at h
  ·rename_i hg;obtain⟨v,h1,h2⟩:=dF h;exact key v ρ (fun _=>rfl) (by unfold Loc;rw[hg];exact h1) h2
  ·rename_i t want hg;split at h
   ·rename_i b hb;by_cases e:b=want
    ·obtain⟨v,h1,h2⟩:=dF (h.1 e);exact key v _ (know hb e) (by unfold Loc;rw[hg];simp only;rw[hb];exact⟨fun _=>d7 (fun s _=>know hb e s) h1,fun ne=>absurd e ne⟩) h2
    ·exact key (.tup []) _ (know hb (c:=!want) (by cases b<;>cases want<;>simp_all)) (by unfold Loc;rw[hg];simp only;rw[hb];exact⟨(fun ee=>absurd ee e),(fun _=>by trivial)⟩) (h.2 e)
   ·rename_i hb;exact key (.tup []) ρ (fun _=>rfl) (by unfold Loc;rw[hg];simp only;rw[hb];trivial) h
   ·exact h.elim
end
end Go.Proofs.YthoebpnbhgmoiaaGreatDoor
namespace Go.Proofs.YthoebpnbhgmoiaaGreatDoor
open Go.RowKit
theorem lr:∀(os:List Oper) (acc:List (List Nat)),(aY os acc).length=acc.length+os.length∧∀i,i<acc.length→(aY os acc)[i]? = acc[i]?
 | [],acc=>⟨rfl,fun _ _=>rfl⟩
 | o::r,acc=>by
  obtain⟨h1,h2⟩:=lr r (acc++[aD o++(aD o).flatMap fun j=>acc.getD j []]);simp only[aY];refine⟨by rw[h1];simp;omega,fun i hi=>?_⟩;rw[h2 i (by simp;omega),Kk hi]
theorem sI(os:List Oper):∀(acc:List (List Nat)) (i:Nat) (o:Oper),os[i]? = some o→∃pre:List (List Nat),(aY os acc)[acc.length+i]? = some (aD o++(aD o).flatMap fun j=>pre.getD j [])∧∀j,j<acc.length+i→pre[j]? = (aY os acc)[j]? := by
 induction os with
 | nil=>intro acc i o h;simp at h
 | cons o' r ih=>
  intro acc i o h;simp only[aY];cases i with
  | zero=>
   simp at h;subst h;obtain⟨h1,h2⟩:=lr r (acc++[aD o'++(aD o').flatMap fun j=>acc.getD j []]);refine⟨acc,?_,fun j hj=>?_⟩
   ·rw[h2 _ (by simp)];rw[Ki (by simp)];simp
   ·rw[h2 j (by simp;omega),Kk (by omega)]
  | succ i=>
   obtain⟨pre,h1,h2⟩:=ih (acc++[aD o'++(aD o').flatMap fun j=>acc.getD j []]) i o (by simpa using h);rw[List.length_append,List.length_singleton]at h1 h2;rw[show acc.length+(i+1)=acc.length+1+i by omega];exact⟨pre,h1,h2⟩
theorem ca{os:List Oper}(hlt:∀(i:Nat) (o:Oper),os[i]? = some o→∀j∈aD o,j<i){S:Nat→Prop}(hcl:∀(i:Nat) (o:Oper),os[i]? = some o→S i→∀j∈aD o,S j):
 ∀(i:Nat) (o:Oper),os[i]? = some o→(∀j∈aD o,S j)→∀j∈(aY os []).getD i [],S j:=by
 intro i
 induction i using Ku with
 | _ i ih=>
 intro o ho he j hj;obtain⟨pre,h1,h2⟩:=sI os [] i o ho;simp only[Kq,Kr]at h1 h2;rw[Kj,h1,Ky]at hj;rcases List.mem_append.1 hj with hj|hj
 ·exact he j hj
 ·obtain⟨e,g1,g2⟩:=List.mem_flatMap.1 hj;have hei:=hlt i o ho e g1;rw[Kj,h2 e hei,←Kj]at g2;have hlen:e<os.length:=by have:=(List.getElem?_eq_some_iff.1 ho).1;omega
  exact ih e hei os[e] (J5 hlen) (hcl e _ (J5 hlen) (he e g1)) j g2
theorem pY{l:List O}{os:List Oper}(hl:l.length=os.length)(h:mO l os=true):
 (∀(i:Nat) (o:Oper),os[i]? = some o→∀j∈aD o,j<i)∧
 ∀(i:Nat) (o:O),l[i]? = some o→∀t∈o.looks++o.dst.toList,∀(j:Nat) (p:O),l[j]? = some p→p.dst=some t→j≠i→(j<i∧j∈(aY os []).getD i [])∨(i<j∧i∈(aY os []).getD j []):=by
 unfold mO at h;simp only[J6,J9,JR]at h;refine⟨fun i o ho j hj=>?_,fun i o ho t ht j p hp hd hne=>?_⟩
 ·have:=(h i (List.getElem?_eq_some_iff.1 ho).1).1;rw[ho]at this;simpa using List.all_eq_true.1 this j hj
 ·have h1:=(h i (by rw[←hl];exact(List.getElem?_eq_some_iff.1 ho).1)).2;rw[ho]at h1;simp only[J6,J9]at h1;have h2:=h1 t ht j (List.getElem?_eq_some_iff.1 hp).1;rw[hp]at h2;simp only[hd,JU,beq_iff_eq,bne_self_eq_false,JS,false_or]at h2;rcases h2 with h2|h2
  ·exact absurd h2 hne
  ·split at h2
   ·exact .inl ⟨by assumption,by simpa using h2⟩
   ·exact .inr ⟨by omega,by simpa using h2⟩
theorem fI{tab:Tab}{n:Nat}{ops:Array Oper}:∀{l:List O} {os:List Oper},ft tab n ops l os=true→l.length=os.length∧∀(i:Nat) (o:O) (o':Oper),l[i]? = some o→os[i]? = some o'→okO tab n ops o o'=true
 | [],[],_=>⟨rfl,fun i o o' h=>by simp at h⟩
 | o::l,o'::os,h=>by
  simp only[ft,JR]at h;obtain⟨h1,h2⟩:=fI h.2;refine⟨by simp[h1],fun i p p' hp hp'=>?_⟩;cases i with
  | zero=>simp at hp hp';subst hp;subst hp';exact h.1
  | succ i=>exact h2 i p p' (by simpa using hp) (by simpa using hp')
 | [],_::_,h=>by cases h
 | _::_,[],h=>by cases h
section
variable {C : Cx} {pr : Prot} {ρ : ai} {σ : List (List V)} {n : Nat} {Q : AEx → ai → List (List V) → Prop}
theorem SRel.congr{M:ax}{bm:List Nat}{tk:bq}{ρ ρ':ai}{a:Act}{w:World}(h:SRel M bm tk pr ρ σ n a w)(he:∀t,get ρ' t=get ρ t):SRel M bm tk pr ρ' σ n a w:=
 ⟨h.inv,h.defers,h.size,fun t=>by rw[he];exact h.slots t⟩
theorem iO{op:OP}{ρ:ai}{x:V}{dst:Option Nat}(h:aP C op ρ σ fun v=>v=x):cQ C op dst ρ σ (fun ρ' σ'=>ρ'=putd ρ dst x∧σ'=σ) (fun _ _ _=>False):=by
 unfold aP at h;split at h
 ·obtain⟨v,h1,rfl⟩:=h;exact h1.mono fun o σ' ⟨e1,e2⟩=>by subst e1;exact⟨rfl,e2⟩
 ·split at h
  ·rename_i f cap e;obtain⟨v,h1,rfl⟩:=h;simp only[cQ,e];exact h1.mono fun o σ' ⟨e1,e2⟩=>by subst e1;exact⟨rfl,e2⟩
  ·exact h.elim
 ·split at h
  ·rename_i rows e;obtain⟨h1,rfl⟩:=h;simp only[cQ,e];exact⟨h1,trivial,trivial⟩
  ·exact h.elim
 ·obtain⟨v,h1,rfl⟩:=h;exact h1.mono fun o σ' ⟨e1,e2⟩=>by subst e1;exact⟨rfl,e2⟩
 ·split at h
  ·rename_i v hp e;subst h;cases op<;>simp only[ba]at hp<;>first|(cases hp;done)|skip
   all_goals
    unfold cQ;simp only;rw[e];constructor<;>trivial
  ·exact h.elim
theorem gB:∀(l:List Bool) (i:Nat),l[i]? = some false→((l.set i true).filter (! ·)).length+1=(l.filter (! ·)).length
 | b::l,0,h=>by simp at h;subst h;simp
 | b::l,i+1,h=>by
  have:=gB l i (by simpa using h);cases b<;>simp only[List.set_cons_succ,List.filter_cons]<;>simp<;>omega
theorem sJ{M0:ax}{bm0:List Nat}{w0:World}(hG:C.glob M0 pr w0){id:Nat}{ops:Array Oper}{l:List O}{M:ax}{bm:List Nat}{tk:bq}{a:Act}{w:World}(hok:ft C.tab n ops l ops.toList=true)(hdr:mO l ops.toList=true)
 (hl:Later M0 bm0 pr w0 M bm w)(h:SRel M bm tk pr ρ σ n a w)(hq:bg C l ρ σ fun ρ'=>Q .normal ρ' σ):(Code.region id ops true).wp C.P (bw M0 bm0 pr w0 n Q) a w:=by
 obtain⟨hlen,hget⟩:=fI hok;obtain⟨hlt,hcmp⟩:=pY hlen hdr;obtain⟨xs,hxl,⟨ρf,hρf,hρe⟩,hloc⟩:=mg (k:=0) hq;have hnl:l.length=ops.size:=by rw[hlen];simp
 refine wp_region_any C.mixed ?_;have hsteps:∀S:Nat→Bool,(aE l xs 0 S).length=l.length:=fun S=>eN l xs 0 S hxl
 have hsg:∀(S:Nat→Bool) (i:Nat) (hi:i<(aE l xs 0 S).length) (h1:i<l.length),(aE l xs 0 S)[i]=(l[i].dst,xs[i]'(by omega),S i):=fun S i hi h1=>by
  have:=eW l xs 0 S i hi h1 (by omega);simpa using this
 suffices H:∀(fuel:Nat) (listed:Array Bool) (M:ax) (tk:bq) (a:Act) (w:World),Later M0 bm0 pr w0 M bm w→SRel M bm tk pr (aI (aE l xs 0 fun i=>listed.getD i false) ρ) σ n a w→listed.size=l.length→
  (∀(i:Nat) (o:Oper),ops.toList[i]? = some o→listed.getD i false=true→∀j∈aD o,listed.getD j false=true)→(listed.toList.filter (! ·)).length=fuel→wpAny C.P .any ops (bw M0 bm0 pr w0 n Q) fuel listed a w by
  obtain⟨h1,h2⟩:=h.ext (cH.drew w);refine H ops.size (JM ops.size false) M tk a w.drew (hl.trans h2 (fun _ h=>h)) (h1.congr fun t=>?_) (by simp[hnl]) (fun i o ho hi=>?_) (by simp)
  ·rw[dc];intro p hp _;obtain⟨j,hj,rfl⟩:=J7 hp;rw[hsteps]at hj;rw[hsg _ j (by rw[hsteps];exact hj) hj];simp[JH,JP];split<;>rfl
  ·simp[JH,JP]at hi;split at hi<;>cases hi
 intro fuel
 induction fuel with
 | zero=>
  intro listed M tk a w hl h hsz hcl hcnt
  have hall:∀i,i<l.length→listed.getD i false=true:=fun i hi=>by
   have hb:listed[i]? = some (listed[i]'(by omega)):=JI _;rw[JH,hb,Ky];have hne:listed.toList.filter (! ·)=[]:=Kf hcnt;have:=List.filter_eq_nil_iff.1 hne (listed[i]'(by omega)) (by simp);simpa using this
  refine⟨?_,M,bm,tk,ρf,σ,.normal,hρf,.normal,h.congr (fun t=>?_),hl⟩
  ·unfold Region.ready;rw[Kc];intro i hi;have hi':i<l.length:=by rw[hnl];simpa using hi
   have h9:=hall i hi'
   have:listed.getD i true=true:=by
    have hb:listed[i]? = some (listed[i]'(by omega)):=JI _;rw[JH,hb,Ky]at h9 ⊢;exact h9
   simp[this]
  ·rw[hρe t];refine bX _ _ ρ t (by rw[hsteps,hsteps]) (fun i g1 g2=>?_);rw[hsteps]at g1;rw[hsg _ i (by rw[hsteps];exact g1) g1,hsg _ i (by rw[hsteps];exact g1) g1];exact⟨rfl,rfl,fun _=>(hall i g1).symm⟩
 | succ fuel ih=>
  intro listed M tk a w hl h hsz hcl hcnt;refine⟨fun hnil=>?_,fun i hi=>?_⟩
  ·exfalso
   have hex:∃i,i<l.length∧listed.getD i false=false:=by
    apply J4;intro hno
    have hne:listed.toList.filter (! ·)=[]:=by
     rw[Kc];intro b hb;obtain⟨i,hi,rfl⟩:=J7 hb;have hi':i<listed.size:=by simpa using hi
     have h9:¬listed.getD i false=false:=fun e=>hno ⟨i,by omega,e⟩;have hb:listed[i]? = some listed[i]:=JI hi';rw[JH,hb,Ky]at h9;simpa using h9
    rw[hne]at hcnt;simp at hcnt
   have hmin:∃i,i<l.length∧listed.getD i false=false∧∀j,j<i→listed.getD j false=true:=by
    obtain⟨i,h1,h2⟩:=hex
    induction i using Ku with
    | _ i ihm=>
    by_cases hj:∃j,j<i∧listed.getD j false=false
    ·obtain⟨j,g1,g2⟩:=hj;exact ihm j g1 (by omega) g2
    ·exact⟨i,h1,h2,fun j hji=>by
      cases hb:listed.getD j false with
      | true=>rfl
      | false=>exact absurd ⟨j,hji,hb⟩ hj⟩
   obtain⟨i,h1,h2,h3⟩:=hmin;have hio:i<ops.toList.length:=by rw[←hlen];exact h1
   have:i∈Region.ready .any ops listed:=by
    unfold Region.ready;rw[Kb];refine⟨by simp;omega,?_⟩
    have ht:listed.getD i true=false:=by
     have hb:listed[i]? = some (listed[i]'(by omega)):=JI _;rw[JH,hb,Ky]at h2 ⊢;exact h2
    have ho:ops[i]? = some (ops[i]'(by omega)):=JI _;rw[ht,ho];simp only[JX,JZ,KB,Ky];rw[←JO,J6];intro e he;cases hb:Region.binds .any e with
    | false=>rfl
    | true=>
     have:e.on∈aD (ops[i]'(by omega)):=by
      unfold aD;exact List.mem_map.2 ⟨e,List.mem_filter.2 ⟨he,hb⟩,rfl⟩
     simp[h3 e.on (hlt i _ (by rw[J5 hio];simp) e.on this)]
   rw[hnil]at this;cases this
  ·unfold Region.ready at hi;rw[Kb]at hi;obtain⟨hir,hic⟩:=hi;have hi1:i<ops.size:=by simpa using hir
   have hi2:i<l.length:=by omega
   have ho:ops[i]? = some ops[i]:=JI hi1;have hoL:ops.toList[i]? = some ops[i]:=by rw[JK];exact ho
   rw[ho]at hic;simp only[KB,Ky,JR,JV]at hic;obtain⟨hun,hed⟩:=hic
   have hun':listed[i]? = some false:=by
    have hb:listed[i]? = some (listed[i]'(by omega)):=JI _;rw[JH,hb,Ky]at hun;rw[hb,hun]
   have hunf:listed.getD i false=false:=by rw[JH,hun'];rfl
   have hedge:∀j∈aD ops[i],listed.getD j false=true:=by
    intro j hj;unfold aD at hj;obtain⟨e,he,rfl⟩:=List.mem_map.1 hj;rw[Kb]at he;rw[←JO,J6]at hed;have:=hed e he.1;simpa[he.2]using this
   have hbef:=ca hlt (S:=fun j=>listed.getD j false=true) hcl i _ hoL hedge
   have hlist:∀j p,l[j]? = some p→listed.getD j false=true→∀q∈(aY ops.toList []).getD j [],listed.getD q false=true:=fun j p hj hjl=>by
    have hjo:j<ops.toList.length:=by rw[←hlen];exact(List.getElem?_eq_some_iff.1 hj).1
    exact ca hlt (S:=fun j=>listed.getD j false=true) hcl j _ (J5 hjo) (hcl j _ (J5 hjo) hjl)
   have hsame:∀t∈l[i].looks++l[i].dst.toList,∀j (hj:j<l.length),j≠i→l[j].dst=some t→(listed.getD j false=decide (j<i)):=by
    intro t ht j hj hne hd;rcases hcmp i l[i] (J5 hi2) t ht j l[j] (J5 hj) hd hne with⟨g1,g2⟩|⟨g1,g2⟩
    ·rw[hbef j g2];simp[g1]
    ·have:¬listed.getD j false=true:=fun hjl=>by
      have:=hlist j l[j] (J5 hj) hjl i g2;rw[hunf]at this;cases this
     have e:listed.getD j false=false:=by simpa using this
     rw[e];simp;omega
   obtain⟨ρi,hL,hρi⟩:=hloc i hi2 (by omega)
   have hgetL:∀t∈l[i].looks,get ρi t=get (aI (aE l xs 0 fun i=>listed.getD i false) ρ) t:=by
    intro t ht;rw[hρi t];refine bX _ _ ρ t (by rw[hsteps,hsteps]) (fun j g1 g2=>?_);rw[hsteps]at g1;rw[hsg _ j (by rw[hsteps];exact g1) g1,hsg _ j (by rw[hsteps];exact g1) g1];refine⟨rfl,rfl,fun hd=>?_⟩;simp only[Kr];by_cases e:j=i
    ·subst e;rw[hunf];simp
    ·exact(hsame t (by simp[ht]) j g1 e hd).symm
   have hL2:=hL.congr hgetL
   have hnext:∀t,get (aI (aE l xs 0 fun j=>(listed.setIfInBounds i true).getD j false) ρ) t=get (putd (aI (aE l xs 0 fun j=>listed.getD j false) ρ) l[i].dst (xs[i]'(by omega))) t:=by
    intro t
    have hset:∀j,(listed.setIfInBounds i true).getD j false=if j=i then true else listed.getD j false:=fun j=>by
     rw[JH,JH];split
     ·rename_i e;subst e;rw[JJ (by omega)];rfl
     ·rename_i e;rw[JL (Kx e)]
    rw[bP];split
    ·rename_i e
     have:=eX (aE l xs 0 fun j=>(listed.setIfInBounds i true).getD j false) ρ i (by rw[hsteps];exact hi2) t (by rw[hsg _ i _ hi2];exact e) (by rw[hsg _ i _ hi2,hset];simp) (fun j hj hij hd=>by
      rw[hsteps]at hj;rw[hsg _ j _ hj]at hd ⊢;simp only at hd ⊢;rw[hset,if_neg (by omega),hsame t (by simp[e]) j hj (by omega) hd];simp;omega)
     rw[this,hsg _ i _ hi2]
    ·rename_i e;refine bX _ _ ρ t (by rw[hsteps,hsteps]) (fun j g1 g2=>?_);rw[hsteps]at g1;rw[hsg _ j (by rw[hsteps];exact g1) g1,hsg _ j (by rw[hsteps];exact g1) g1];refine⟨rfl,rfl,fun hd=>?_⟩;simp only at hd ⊢;rw[hset,if_neg (fun ee=>by subst ee;exact e hd)]
   have hnextcl:∀(q:Nat) (o:Oper),ops.toList[q]? = some o→(listed.setIfInBounds i true).getD q false=true→∀j∈aD o,(listed.setIfInBounds i true).getD j false=true:=by
    have hset:∀j,(listed.setIfInBounds i true).getD j false=if j=i then true else listed.getD j false:=fun j=>by
     rw[JH,JH];split
     ·rename_i e;subst e;rw[JJ (by omega)];rfl
     ·rename_i e;rw[JL (Kx e)]
    intro q o hqo hql j hj;rw[hset]at hql ⊢;split
    ·rfl
    ·split at hql
     ·rename_i e;subst e;rw[hoL]at hqo;cases hqo;exact hedge j hj
     ·exact hcl q o hqo hql j hj
   have hnextc:((listed.setIfInBounds i true).toList.filter (! ·)).length=fuel:=by
    have:=gB listed.toList i (by rw[JK];exact hun');rw[JQ];omega
   have hoo:=hget i l[i] ops[i] (J5 hi2) hoL
   have hdst:l[i].dst=ops[i].dst:=by
    unfold okO at hoo;simp only[JR,beq_iff_eq]at hoo;exact hoo.1.1.2
   have hdn:∀d,ops[i].dst=some d→d<n:=by
    unfold okO at hoo;simp only[JR]at hoo;intro d hd;have:=hoo.1.2;rw[hd]at this;simpa using this
   have hgd:=hoo;unfold okO at hgd;simp only[JR]at hgd;replace hgd:=hgd.2
   have exec:aP C l[i].op (aI (aE l xs 0 fun i=>listed.getD i false) ρ) σ (fun v=>v=xs[i]'(by omega))→(ops[i]).wp C.P a w (wpAny C.P .any ops (bw M0 bm0 pr w0 n Q) fuel (listed.setIfInBounds i true)) (bw M0 bm0 pr w0 n Q):=fun hc=>by
    refine Oper.wp_mono2 (fun a' w' hL=>?_) (fun e a' w' hL=>?_) (bQ (hG.mono hl) h hoo (iO hc))
    ·obtain⟨M',bm',tk',ρ',σ',⟨rfl,rfl⟩,k2,k3⟩:=hL
     have hbm:bm'=bm:=by
      obtain⟨t,rfl⟩:=k3.pre;have e1:=k2.inv.len;have e2:=h.inv.len;have:t=[]:=Kf (by simp at e1;omega);simp[this]
     subst hbm;exact ih _ M' tk' a' w' (hl.trans k3 (fun _ h=>h)) (k2.congr hnext) (by simp[hsz]) hnextcl hnextc
    ·obtain⟨_,_,_,_,_,_,hf,_⟩:=hL;exact hf.elim
   unfold wpOp;rw[ho];simp only;unfold Loc at hL2;split at hL2
   ·rename_i hg;rw[hg]at hgd;split at hgd
    ·rename_i hg2;rw[if_pos (by simp[Region.wanted,hg2])];exact .inl (exec hL2)
    ·rename_i e _;cases e
    ·cases hgd
   ·rename_i t want hg;rw[hg]at hgd;split at hgd
    ·rename_i e _;cases e
    ·rename_i t' b' j b'' e hg2;cases e;simp only[JR,beq_iff_eq]at hgd;obtain⟨rfl,hj⟩:=hgd;split at hL2
     ·rename_i b hb;have hy:=d9 h hb hj;by_cases hbw:b=want
      ·rw[if_pos (by simp[Region.wanted,hg2,hy,hbw])];exact .inl (exec (hL2.1 hbw))
      ·rw[if_neg (by simp[Region.wanted,hg2,hy,hbw])];have hx:=hL2.2 hbw;refine ih _ M tk _ w hl ((h.putd hdn fi (by simp)).congr fun t=>?_) (by simp[hsz]) hnextcl hnextc;rw[hnext t,hx,hdst]
     ·rename_i hb;have hy:=gE h hb hj;rw[if_neg (by simp[Region.wanted,hg2,hy])];refine ih _ M tk _ w hl ((h.putd hdn fi (by simp)).congr fun t=>?_) (by simp[hsz]) hnextcl hnextc;rw[hnext t,hL2,hdst]
     ·exact hL2.elim
    ·cases hgd
end
end Go.Proofs.YthoebpnbhgmoiaaGreatDoor
namespace Go.Proofs.YthoebpnbhgmoiaaGreatDoor
open Go.RowKit
section
variable {C : Cx} {pr : Prot} {n : Nat} {Q : AEx → ai → List (List V) → Prop}
theorem mT{M0:ax}{bm0:List Nat}{w0:World}{id:Nat}{ops:Array Oper}{M:ax}{bm:List Nat}{tk:bq}{a:Act}{w:World}(St:(Nat→Bool)→ai)(Sg:(Nat→Bool)→List (List V))(ρf:ai)(σf:List (List V))
 (hlt:∀(i:Nat) (o:Oper),ops.toList[i]? = some o→∀j∈aD o,j<i)
 (hext:∀S S',(∀j,j<ops.size→S j=S' j)→(∀t,get (St S) t=get (St S') t)∧Sg S=Sg S')
 (hl:Later M0 bm0 pr w0 M bm w)(h:SRel M bm tk pr (St fun _=>false) (Sg fun _=>false) n a w)
 (hf:(∀t,get ρf t=get (St fun _=>true) t)∧σf=Sg fun _=>true)(hq:Q .normal ρf σf)
 (step:∀(S:Nat→Bool) (i:Nat) (o:Oper),ops.toList[i]? = some o→S i=false→(∀(j:Nat) (p:Oper),ops.toList[j]? = some p→S j=true→∀e∈aD p,S e=true)→(∀e∈aD o,S e=true)→
   ∀(M:ax) (bm:List Nat) (tk:bq) (a:Act) (w:World),Later M0 bm0 pr w0 M bm w→SRel M bm tk pr (St S) (Sg S) n a w→
    if Region.wanted o (yielded ops a.tmps)then o.wp C.P a w (fV M bm pr w n fun ρ' σ'=>(∀t,get ρ' t=get (St fun j=>j==i||S j) t)∧σ'=Sg fun j=>j==i||S j) (bw M bm pr w n fun _ _ _=>False)
    else SRel M bm tk pr (St fun j=>j==i||S j) (Sg fun j=>j==i||S j) n (a.put o.dst undef) w):
 (Code.region id ops true).wp C.P (bw M0 bm0 pr w0 n Q) a w:=by
 refine wp_region_any C.mixed ?_
 suffices H:∀(fuel:Nat) (listed:Array Bool) (M:ax) (bm:List Nat) (tk:bq) (a:Act) (w:World),Later M0 bm0 pr w0 M bm w→SRel M bm tk pr (St fun i=>listed.getD i false) (Sg fun i=>listed.getD i false) n a w→listed.size=ops.size→
  (∀(i:Nat) (o:Oper),ops.toList[i]? = some o→listed.getD i false=true→∀j∈aD o,listed.getD j false=true)→(listed.toList.filter (! ·)).length=fuel→wpAny C.P .any ops (bw M0 bm0 pr w0 n Q) fuel listed a w by
  obtain⟨h1,h2⟩:=h.ext (cH.drew w)
  have hrep:∀j,(JM ops.size false).getD j false=false:=fun j=>by
   simp only[JH,JP];split<;>rfl
  obtain⟨e1,e2⟩:=hext (fun i=>(JM ops.size false).getD i false) (fun _=>false) (fun j _=>hrep j);refine H ops.size (JM ops.size false) M bm tk a w.drew (hl.trans h2 (fun _ h=>h)) ?_ (by simp) (fun i o ho hi=>?_) (by simp)
  ·rw[e2];exact h1.congr e1
  ·rw[hrep]at hi;cases hi
 intro fuel
 induction fuel with
 | zero=>
  intro listed M bm tk a w hl h hsz hcl hcnt
  have hall:∀i,i<ops.size→listed.getD i false=true:=fun i hi=>by
   have hb:listed[i]? = some (listed[i]'(by omega)):=JI _;rw[JH,hb,Ky];have hne:listed.toList.filter (! ·)=[]:=Kf hcnt;have:=List.filter_eq_nil_iff.1 hne (listed[i]'(by omega)) (by simp);simpa using this
  obtain⟨e1,e2⟩:=hext (fun i=>listed.getD i false) (fun _=>true) hall;refine⟨?_,M,bm,tk,ρf,σf,.normal,hq,.normal,?_,hl⟩
  ·unfold Region.ready;rw[Kc];intro i hi;have hi':i<ops.size:=by simpa using hi
   have h9:=hall i hi'
   have:listed.getD i true=true:=by
    have hb:listed[i]? = some (listed[i]'(by omega)):=JI _;rw[JH,hb,Ky]at h9 ⊢;exact h9
   simp[this]
  ·rw[hf.2,←e2];exact h.congr fun t=>(hf.1 t).trans (e1 t).symm
 | succ fuel ih=>
  intro listed M bm tk a w hl h hsz hcl hcnt;refine⟨fun hnil=>?_,fun i hi=>?_⟩
  ·exfalso
   have hex:∃i,i<ops.size∧listed.getD i false=false:=by
    apply J4;intro hno
    have hne:listed.toList.filter (! ·)=[]:=by
     rw[Kc];intro b hb;obtain⟨i,hi,rfl⟩:=J7 hb;have hi':i<listed.size:=by simpa using hi
     have h9:¬listed.getD i false=false:=fun e=>hno ⟨i,by omega,e⟩;have hb:listed[i]? = some listed[i]:=JI hi';rw[JH,hb,Ky]at h9;simpa using h9
    rw[hne]at hcnt;simp at hcnt
   have hmin:∃i,i<ops.size∧listed.getD i false=false∧∀j,j<i→listed.getD j false=true:=by
    obtain⟨i,h1,h2⟩:=hex
    induction i using Ku with
    | _ i ihm=>
    by_cases hj:∃j,j<i∧listed.getD j false=false
    ·obtain⟨j,g1,g2⟩:=hj;exact ihm j g1 (by omega) g2
    ·exact⟨i,h1,h2,fun j hji=>by
      cases hb:listed.getD j false with
      | true=>rfl
      | false=>exact absurd ⟨j,hji,hb⟩ hj⟩
   obtain⟨i,h1,h2,h3⟩:=hmin;have hio:i<ops.toList.length:=by simpa using h1
   have:i∈Region.ready .any ops listed:=by
    unfold Region.ready;rw[Kb];refine⟨by simp;omega,?_⟩
    have ht:listed.getD i true=false:=by
     have hb:listed[i]? = some (listed[i]'(by omega)):=JI _;rw[JH,hb,Ky]at h2 ⊢;exact h2
    have ho:ops[i]? = some (ops[i]'(by omega)):=JI _;rw[ht,ho];simp only[JX,JZ,KB,Ky];rw[←JO,J6];intro e he;cases hb:Region.binds .any e with
    | false=>rfl
    | true=>
     have:e.on∈aD (ops[i]'(by omega)):=by
      unfold aD;exact List.mem_map.2 ⟨e,List.mem_filter.2 ⟨he,hb⟩,rfl⟩
     simp[h3 e.on (hlt i _ (by rw[J5 hio];simp) e.on this)]
   rw[hnil]at this;cases this
  ·unfold Region.ready at hi;rw[Kb]at hi;obtain⟨hir,hic⟩:=hi;have hi1:i<ops.size:=by simpa using hir
   have ho:ops[i]? = some ops[i]:=JI hi1;have hoL:ops.toList[i]? = some ops[i]:=by rw[JK];exact ho
   rw[ho]at hic;simp only[KB,Ky,JR,JV]at hic;obtain⟨hun,hed⟩:=hic
   have hun':listed[i]? = some false:=by
    have hb:listed[i]? = some (listed[i]'(by omega)):=JI _;rw[JH,hb,Ky]at hun;rw[hb,hun]
   have hunf:listed.getD i false=false:=by rw[JH,hun'];rfl
   have hedge:∀j∈aD ops[i],listed.getD j false=true:=by
    intro j hj;unfold aD at hj;obtain⟨e,he,rfl⟩:=List.mem_map.1 hj;rw[Kb]at he;rw[←JO,J6]at hed;have:=hed e he.1;simpa[he.2]using this
   have hset:∀j,(listed.setIfInBounds i true).getD j false=(j==i||listed.getD j false):=fun j=>by
    rw[JH,JH];by_cases e:j=i
    ·subst e;rw[JJ (by omega)];simp
    ·rw[JL (Kx e)];simp[e]
   have hnextcl:∀(q:Nat) (o:Oper),ops.toList[q]? = some o→(listed.setIfInBounds i true).getD q false=true→∀j∈aD o,(listed.setIfInBounds i true).getD j false=true:=by
    intro q o hqo hql j hj;rw[hset]at hql ⊢;simp only[JU,beq_iff_eq]at hql ⊢;rcases hql with rfl|hql
    ·rw[hoL]at hqo;cases hqo;exact .inr (hedge j hj)
    ·exact .inr (hcl q o hqo hql j hj)
   have hnextc:((listed.setIfInBounds i true).toList.filter (! ·)).length=fuel:=by
    have:=gB listed.toList i (by rw[JK];exact hun');rw[JQ];omega
   obtain⟨e1,e2⟩:=hext (fun j=>(listed.setIfInBounds i true).getD j false) (fun j=>j==i||listed.getD j false) (fun j _=>hset j);have hst:=step (fun j=>listed.getD j false) i ops[i] hoL hunf hcl hedge M bm tk a w hl h;unfold wpOp;rw[ho];simp only;split at hst
   ·rename_i hw;rw[if_pos hw];refine .inl (Oper.wp_mono2 (fun a' w' hL=>?_) (fun e a' w' hL=>?_) hst)
    ·obtain⟨M',bm',tk',ρ',σ',⟨k0,rfl⟩,k2,k3⟩:=hL;refine ih _ M' bm' tk' a' w' (hl.trans k3 (fun _ h=>h)) ?_ (by simp[hsz]) hnextcl hnextc;rw[e2];exact k2.congr fun t=>(e1 t).trans (k0 t).symm
    ·obtain⟨_,_,_,_,_,_,hf,_⟩:=hL;exact hf.elim
   ·rename_i hw;rw[if_neg hw];refine ih _ M bm tk _ w hl ?_ (by simp[hsz]) hnextcl hnextc;rw[e2];exact hst.congr e1
end
end Go.Proofs.YthoebpnbhgmoiaaGreatDoor
namespace Go.Proofs.YthoebpnbhgmoiaaGreatDoor
open Go.RowKit
def OP.slotsA:OP→List Nat
 | .ldo x=>x.slots
 | .app _ _ _ t y=>t::y.slots
 | .stoo x t=>x.slots++[t]
 | op=>op.slots
def OP.special:OP→Bool
 | .ldo _=>true
 | .app _ _ _ _ _=>true
 | .stoo _ _=>true
 | _=>false
def O.looksA(o:O):List Nat:=o.op.slotsA++(match o.g with|some (t,_)=>[t]|none=>[])
def lF(L:O→ai→V→Prop):List O→ai→(ai→Prop)→Prop
 | [],ρ,K=>K ρ
 | o::r,ρ,K=>∃x ρ2,(∀t,get ρ2 t=get ρ t)∧L o ρ x∧lF L r (putd ρ2 o.dst x) K
theorem mB{L:O→ai→V→Prop}:∀{l:List O} {ρ:ai} {k:Nat} {K:ai→Prop},lF L l ρ K→
 ∃xs:List V,xs.length=l.length∧(∃ρ',K ρ'∧∀t,get ρ' t=get (aI (aE l xs k fun _=>true) ρ) t)∧
  ∀i (h:i<l.length) (h':i<xs.length),∃ρi,L l[i] ρi xs[i]∧∀t,get ρi t=get (aI (aE l xs k fun j=>decide (j<k+i)) ρ) t
 | [],ρ,k,K,h=>⟨[],rfl,⟨ρ,h,fun _=>rfl⟩,fun i h=>by simp at h⟩
 | o::r,ρ,k,K,h=>by
  obtain⟨x,ρ2,h2e,hx,hr⟩:=h;obtain⟨xs,h1,⟨ρ',h2,h3⟩,h4⟩:=mB (k:=k+1) hr;have hput:∀t,get (putd ρ2 o.dst x) t=get (putd ρ o.dst x) t:=fun t=>by rw[bP,bP,h2e]
  refine⟨x::xs,by simp[h1],⟨ρ',h2,fun t=>?_⟩,fun i hi hi'=>?_⟩
  ·simp only[aE,aI,if_true];rw[h3 t];exact fD _ _ _ _ (hput t)
  ·cases i with
   | zero=>
    refine⟨ρ,hx,fun t=>?_⟩;rw[dc];intro p hp _;obtain⟨j,hj,rfl⟩:=J7 hp;have hl:=eN (o::r) (x::xs) k (fun j=>decide (j<k+0)) (by simp[h1]);rw[hl]at hj;rw[eW _ _ _ _ _ (by rw[hl];exact hj) hj (by simp[h1];simpa using hj)];simp
   | succ i=>
    obtain⟨ρi,g1,g2⟩:=h4 i (by simpa using hi) (by simpa using hi');refine⟨ρi,g1,fun t=>?_⟩;simp only[aE,aI];rw[if_pos (by simp),g2 t,show k+1+i=k+(i+1)by omega];exact fD _ _ _ _ (hput t)
structure Cell where
 i:Nat
 off:Nat
 T:TypeId
 k:Nat
 rows:List (List D)
section
variable {C : Cx} {pr : Prot} {ρ : ai} {n : Nat} {Q : AEx → ai → List (List V) → Prop}
def kW(C:Cx)(c:Cell)(rows2:List (List D))(σ σ2:List (List V))(o:O)(ρ:ai)(x:V):Prop:=
 match o.op with
 | .ldo y=>o.g=none∧ev C ρ y=.ptr c.i c.off∧x=.d (.sl c.rows)
 | .app T' k' bytes _ y=>o.g=none∧dp (ev C ρ y)=some rows2∧(c.T=T'∧c.k=k'∧rows2.all (fun r=>r.length==k')=true∧(c.rows.length+rows2.length)*bytes≤140737488355328)∧x=.d (.sl (c.rows++rows2))
 | .stoo y _=>o.g=none∧ev C ρ y=.ptr c.i c.off
 | _=>Loc C o ρ σ x∧Loc C o ρ σ2 x
def bW(C:Cx)(op:OP)(ρ:ai)(σ σ2:List (List V))(k:V→Prop):Prop:=aP C op ρ σ fun v=>aP C op ρ σ2 (fun u=>u=v)∧k v
def co(C:Cx)(c:Cell)(σ σ2:List (List V)):List O→ai→Option (List (List D))→(ai→List (List D)→Prop)→Prop
 | [],ρ,acc,K=>match acc with|some rows2=>K ρ rows2|none=>False
 | o::r,ρ,acc,K=>match o.op with
  | .ldo y=>o.g=none∧ev C ρ y=.ptr c.i c.off∧co C c σ σ2 r (putd ρ o.dst (.d (.sl c.rows))) acc K
  | .app T' k' bytes _ y=>o.g=none∧match acc,dp (ev C ρ y)with
   | none,some rows2=>(c.T=T'∧c.k=k'∧rows2.all (fun r=>r.length==k')=true∧(c.rows.length+rows2.length)*bytes≤140737488355328)∧co C c σ σ2 r (putd ρ o.dst (.d (.sl (c.rows++rows2)))) (some rows2) K
   | _,_=>False
  | .stoo y _=>o.g=none∧o.dst=none∧ev C ρ y=.ptr c.i c.off∧co C c σ σ2 r ρ acc K
  | op=>match o.g with
   | none=>bW C op ρ σ σ2 fun v=>co C c σ σ2 r (putd ρ o.dst v) acc K
   | some (t,want)=>match get ρ t with
    | .d (.lit (.bool b))=>(b=want→bW C op (put ρ t (.d (.lit (.bool want)))) σ σ2 fun v=>co C c σ σ2 r (putd (put ρ t (.d (.lit (.bool want)))) o.dst v) acc K)∧(b≠want→co C c σ σ2 r (putd (put ρ t (.d (.lit (.bool (!want))))) o.dst (.tup [])) acc K)
    | .tup []=>co C c σ σ2 r (putd ρ o.dst (.tup [])) acc K
    | _=>False
theorem jV{op:OP}{ρ:ai}{σ σ2:List (List V)}{k:V→Prop}(h:bW C op ρ σ σ2 k):∃v,aP C op ρ σ (fun u=>u=v)∧aP C op ρ σ2 (fun u=>u=v)∧k v:=by
 obtain⟨v,h1,h2,h3⟩:=dF h;exact⟨v,h1,h2,h3⟩
theorem fM{c:Cell}{σ σ2:List (List V)}:∀{l:List O} {ρ:ai} {acc:Option (List (List D))} {K:ai→List (List D)→Prop},co C c σ σ2 l ρ acc K→
 ∃rows2,(∀r,acc=some r→r=rows2)∧lF (kW C c rows2 σ σ2) l ρ fun ρ'=>K ρ' rows2
 | [],ρ,acc,K,h=>by
  cases acc with
  | none=>exact h.elim
  | some r=>exact⟨r,fun r' e=>by cases e;rfl,h⟩
 | o::r,ρ,acc,K,h=>by
  have know:∀{t:Nat} {b c:Bool},get ρ t=.d (.lit (.bool b))→b=c→∀s,get (put ρ t (.d (.lit (.bool c)))) s=get ρ s:=fun hb hc s=>by
   rw[aS];split
   ·rename_i e;subst e;subst hc;exact hb.symm
   ·rfl
  have other:o.op.special=false→(match o.g with
   | none=>bW C o.op ρ σ σ2 fun v=>co C c σ σ2 r (putd ρ o.dst v) acc K
   | some (t,want)=>match get ρ t with
    | .d (.lit (.bool b))=>(b=want→bW C o.op (put ρ t (.d (.lit (.bool want)))) σ σ2 fun v=>co C c σ σ2 r (putd (put ρ t (.d (.lit (.bool want)))) o.dst v) acc K)∧(b≠want→co C c σ σ2 r (putd (put ρ t (.d (.lit (.bool (!want))))) o.dst (.tup [])) acc K)
    | .tup []=>co C c σ σ2 r (putd ρ o.dst (.tup [])) acc K
    | _=>False)→∃rows2,(∀r,acc=some r→r=rows2)∧lF (kW C c rows2 σ σ2) (o::r) ρ fun ρ'=>K ρ' rows2:=by
   intro hs h
   have fin:∀x ρ2,(∀t,get ρ2 t=get ρ t)→Loc C o ρ σ x→Loc C o ρ σ2 x→co C c σ σ2 r (putd ρ2 o.dst x) acc K→∃rows2,(∀r,acc=some r→r=rows2)∧lF (kW C c rows2 σ σ2) (o::r) ρ fun ρ'=>K ρ' rows2:=by
    intro x ρ2 h1 h2 h3 h4;obtain⟨rows2,h5,h6⟩:=fM h4;refine⟨rows2,h5,x,ρ2,h1,?_,h6⟩;unfold kW;split<;>first|exact⟨h2,h3⟩|(rename_i e;rw[e]at hs;cases hs)
   split at h
   ·rename_i hg;obtain⟨v,h1,h2,h3⟩:=jV h;exact fin v ρ (fun _=>rfl) (by unfold Loc;rw[hg];exact h1) (by unfold Loc;rw[hg];exact h2) h3
   ·rename_i t want hg;split at h
    ·rename_i b hb;by_cases e:b=want
     ·obtain⟨v,h1,h2,h3⟩:=jV (h.1 e)
      exact fin v _ (know hb e) (by unfold Loc;rw[hg];simp only;rw[hb];exact⟨fun _=>d7 (fun s _=>know hb e s) h1,fun ne=>absurd e ne⟩)
       (by unfold Loc;rw[hg];simp only;rw[hb];exact⟨fun _=>d7 (fun s _=>know hb e s) h2,fun ne=>absurd e ne⟩) h3
     ·exact fin (.tup []) _ (know hb (c:=!want) (by cases b<;>cases want<;>simp_all)) (by unfold Loc;rw[hg];simp only;rw[hb];exact⟨(fun ee=>absurd ee e),(fun _=>by trivial)⟩)
       (by unfold Loc;rw[hg];simp only;rw[hb];exact⟨(fun ee=>absurd ee e),(fun _=>by trivial)⟩) (h.2 e)
    ·rename_i hb;exact fin (.tup []) ρ (fun _=>rfl) (by unfold Loc;rw[hg];simp only;rw[hb];trivial) (by unfold Loc;rw[hg];simp only;rw[hb];trivial) h
    ·exact h.elim
  unfold co at h;split at h
  ·rename_i y ho;obtain⟨h1,h2,h3⟩:=h;obtain⟨rows2,h5,h6⟩:=fM h3;exact⟨rows2,h5,_,ρ,fun _=>rfl,by unfold kW;rw[ho];exact⟨h1,h2,rfl⟩,h6⟩
  ·rename_i T' k' bytes t y ho;obtain⟨h1,h2⟩:=h;split at h2
   ·rename_i rows2 he;obtain⟨h3,h4⟩:=h2;obtain⟨rows3,h5,h6⟩:=fM h4;have:=h5 _ rfl;subst this;exact⟨rows2,(fun r e=>by cases e),_,ρ,fun _=>rfl,by unfold kW;rw[ho];exact⟨h1,he,h3,rfl⟩,h6⟩
   ·exact h2.elim
  ·rename_i y t ho;obtain⟨h1,h2,h3,h4⟩:=h;obtain⟨rows2,h5,h6⟩:=fM h4;exact⟨rows2,h5,.junk,ρ,fun _=>rfl,by unfold kW;rw[ho];exact⟨h1,h3⟩,by rw[h2];exact h6⟩
  ·rename_i n1 n2 n3;refine other ?_ h;cases ho:o.op<;>first|rfl|exact absurd ho (n1 _)|exact absurd ho (n2 _ _ _ _ _)|exact absurd ho (n3 _ _)
structure Pos where
 iL:Nat
 iA:Nat
 iS:Nat
 tL:Nat
 tA:Nat
def rx(p:OP→Bool):List O→Nat→Option Nat
 | [],_=>none
 | o::r,i=>if p o.op then some i else rx p r (i+1)
def G5(l:List O):Option Pos:=
 match rx (fun op=>match op with | .ldo _=>true|_=>false) l 0,rx (fun op=>match op with | .app _ _ _ _ _=>true|_=>false) l 0,rx (fun op=>match op with | .stoo _ _=>true|_=>false) l 0 with
 | some a,some b,some c=>match (l[a]?).bind O.dst,(l[b]?).bind O.dst with
  | some t,some u=>some ⟨a,b,c,t,u⟩
  | _,_=>none
 | _,_,_=>none
def isL(p:Pos):O→Bool
 | ⟨some t,.ldo _,none⟩=>t==p.tL
 | _=>false
def isA(p:Pos):O→Bool
 | ⟨some t,.app _ _ _ s y,none⟩=>t==p.tA&&(s==p.tL && !y.slots.contains p.tL)
 | _=>false
def isS(p:Pos):O→Bool
 | ⟨none,.stoo y s,none⟩=>s==p.tA && !y.slots.contains p.tA
 | _=>false
def tw(p:Pos)(l:List O)(os:List Oper):Bool:=
 let bf:=aY os []
 ((Ka os.length).all fun i=>match os[i]? with|some o=>(aD o).all fun j=>decide (j<i)|none=>true) &&
 (((Ka l.length).all fun i=>match l[i]? with
   | some o=>((o.looksA++o.dst.toList).all fun t=>(Ka l.length).all fun j=>j==i||(match l[j]? with
    | some q=>q.dst != some t||(if j<i then(bf.getD i []).contains j else(bf.getD j []).contains i)
    | none=>true)) &&
    ((o.op.special==(i==p.iL||i==p.iA||i==p.iS))&&((i==p.iA || !o.looksA.contains p.tL)&&((i==p.iL||o.dst != some p.tL)&&((i==p.iS || !o.looksA.contains p.tA)&&((i==p.iA||o.dst != some p.tA)&&(i==p.iS||(bf.getD p.iS []).contains i))))))
   | none=>true) &&
 (((l[p.iL]?).any (isL p)&&((l[p.iA]?).any (isA p)&&(l[p.iS]?).any (isS p)))&&((bf.getD p.iA []).contains p.iL&&p.tL != p.tA)))
def mn(l:List O)(os:List Oper):Bool:=match G5 l with
 | some p=>tw p l os
 | none=>false
structure OKA(p:Pos)(l:List O)(os:List Oper):Prop where
 lt:∀(i:Nat) (o:Oper),os[i]? = some o→∀j∈aD o,j<i
 cmp:∀(i:Nat) (o:O),l[i]? = some o→∀t∈o.looksA++o.dst.toList,∀(j:Nat) (q:O),l[j]? = some q→q.dst=some t→j≠i→(j<i∧j∈(aY os []).getD i [])∨(i<j∧i∈(aY os []).getD j [])
 spec:∀(i:Nat) (o:O),l[i]? = some o→(o.op.special=true↔i=p.iL∨i=p.iA∨i=p.iS)
 lookL:∀(i:Nat) (o:O),l[i]? = some o→i≠p.iA→p.tL∉o.looksA
 dstL:∀(i:Nat) (o:O),l[i]? = some o→i≠p.iL→o.dst≠some p.tL
 lookA:∀(i:Nat) (o:O),l[i]? = some o→i≠p.iS→p.tA∉o.looksA
 dstA:∀(i:Nat) (o:O),l[i]? = some o→i≠p.iA→o.dst≠some p.tA
 last:∀(i:Nat) (o:O),l[i]? = some o→i≠p.iS→i∈(aY os []).getD p.iS []
 opL:∃y,l[p.iL]? = some ⟨some p.tL,.ldo y,none⟩
 opA:∃T k b y,l[p.iA]? = some ⟨some p.tA,.app T k b p.tL y,none⟩∧p.tL∉y.slots
 opS:∃y,l[p.iS]? = some ⟨none,.stoo y p.tA,none⟩∧p.tA∉y.slots
 ab:p.iL∈(aY os []).getD p.iA []
 ne:p.tL≠p.tA
theorem wP{p:Pos}{l:List O}{os:List Oper}(hl:l.length=os.length)(h:tw p l os=true):OKA p l os:=by
 unfold tw at h;simp only[JR]at h;obtain⟨h1,h2,⟨h3,h4,h5⟩,h6,h7⟩:=h;simp only[J6,J9]at h1 h2
 have one:∀(i:Nat) (o:O),l[i]? = some o→_:=fun i o ho=>by
  have:=h2 i (List.getElem?_eq_some_iff.1 ho).1;rw[ho]at this;simp only[JR]at this;exact this
 refine⟨fun i o ho j hj=>?_,fun i o ho t ht j q hp hd hne=>?_,fun i o ho=>?_,fun i o ho hne=>?_,fun i o ho hne=>?_,fun i o ho hne=>?_,fun i o ho hne=>?_,fun i o ho hne=>?_,?_,?_,?_,by simpa using h6,by simpa using h7⟩
 ·have:=h1 i (List.getElem?_eq_some_iff.1 ho).1;rw[ho]at this;simpa using List.all_eq_true.1 this j hj
 ·have h1:=(one i o ho).1;simp only[J6,J9]at h1;have h2:=h1 t ht j (List.getElem?_eq_some_iff.1 hp).1;rw[hp]at h2;simp only[hd,JU,beq_iff_eq,bne_self_eq_false,JS,false_or]at h2;rcases h2 with h2|h2
  ·exact absurd h2 hne
  ·split at h2
   ·exact .inl ⟨by assumption,by simpa using h2⟩
   ·exact .inr ⟨by omega,by simpa using h2⟩
 ·have:=(one i o ho).2.1;rw[beq_iff_eq]at this;rw[this];simp[or_assoc]
 ·have:=(one i o ho).2.2.1;simpa[hne]using this
 ·have:=(one i o ho).2.2.2.1;simpa[hne]using this
 ·have:=(one i o ho).2.2.2.2.1;simpa[hne]using this
 ·have:=(one i o ho).2.2.2.2.2.1;simpa[hne]using this
 ·have:=(one i o ho).2.2.2.2.2.2;simpa[hne]using this
 ·cases ho:l[p.iL]? with
  | none=>rw[ho]at h3;cases h3
  | some o=>
  rw[ho]at h3;have hp:isL p o=true:=h3;clear h3;unfold isL at hp;split at hp
  ·rw[beq_iff_eq]at hp;subst hp;exact⟨_,rfl⟩
  ·cases hp
 ·cases ho:l[p.iA]? with
  | none=>rw[ho]at h4;cases h4
  | some o=>
  rw[ho]at h4;have hp:isA p o=true:=h4;clear h4;unfold isA at hp;split at hp
  ·simp only[JR,beq_iff_eq,JV]at hp;obtain⟨rfl,rfl,hp⟩:=hp;exact⟨_,_,_,_,rfl,by simpa using hp⟩
  ·cases hp
 ·cases ho:l[p.iS]? with
  | none=>rw[ho]at h5;cases h5
  | some o=>
  rw[ho]at h5;have hp:isS p o=true:=h5;clear h5;unfold isS at hp;split at hp
  ·simp only[JR,beq_iff_eq,JV]at hp;obtain⟨rfl,hp⟩:=hp;exact⟨_,rfl,by simpa using hp⟩
  ·cases hp
def bY(p:Pos)(c:Cell)(rows2:List (List D))(S:Nat→Bool)(ρ:ai):ai:=
 if S p.iS then ρ else if S p.iA then put ρ p.tA (.own c.T c.k (c.rows++rows2))else if S p.iL then put ρ p.tL (.own c.T c.k c.rows)else ρ
theorem rR{M0:ax}{bm0:List Nat}{w0:World}(hG:C.glob M0 pr w0){id:Nat}{ops:Array Oper}{l:List O}{M:ax}{bm:List Nat}{tk:bq}{σ:List (List V)}{a:Act}{w:World}(hok:ft C.tab n ops l ops.toList=true)(hdr:mn l ops.toList=true)
 (hl:Later M0 bm0 pr w0 M bm w)(h:SRel M bm tk pr ρ σ n a w){c:Cell}{cs:List V}(hcs:σ[c.i]? = some cs)(hcell:cs[c.off]? = some (.own c.T c.k c.rows))
 (hq:co C c σ (σ.set c.i (cs.set c.off (.d (.sl c.rows)))) l ρ none fun ρ' rows2=>Q .normal ρ' ((σ.set c.i (cs.set c.off (.d (.sl c.rows)))).set c.i (over (cs.set c.off (.d (.sl c.rows))) c.off [.own c.T c.k (c.rows++rows2)]))):
 (Code.region id ops true).wp C.P (bw M0 bm0 pr w0 n Q) a w:=by
 obtain⟨hlen,hget⟩:=fI hok;unfold mn at hdr;split at hdr;case h_2=>cases hdr
 rename_i p _;have D:=wP hlen hdr;obtain⟨rows2,-,hch⟩:=fM hq;obtain⟨xs,hxl,⟨ρf,hρf,hρe⟩,hloc⟩:=mB (k:=0) hch;generalize hσ2:σ.set c.i (cs.set c.off (.d (.sl c.rows)))=σ2 at *;generalize hσf:σ2.set c.i (over (cs.set c.off (.d (.sl c.rows))) c.off [.own c.T c.k (c.rows++rows2)])=σf at *;have hnl:l.length=ops.size:=by rw[hlen];simp
 have hsteps:∀S:Nat→Bool,(aE l xs 0 S).length=l.length:=fun S=>eN l xs 0 S hxl
 have hsg:∀(S:Nat→Bool) (i:Nat) (hi:i<(aE l xs 0 S).length) (h1:i<l.length),(aE l xs 0 S)[i]=(l[i].dst,xs[i]'(by omega),S i):=fun S i hi h1=>by
  have:=eW l xs 0 S i hi h1 (by omega);simpa using this
 obtain⟨yL,hoL⟩:=D.opL;obtain⟨T',k',bb,yA,hoA,hnA⟩:=D.opA;obtain⟨yS,hoS,hnS⟩:=D.opS;have iLl:p.iL<l.length:=(List.getElem?_eq_some_iff.1 hoL).1;have iAl:p.iA<l.length:=(List.getElem?_eq_some_iff.1 hoA).1;have iSl:p.iS<l.length:=(List.getElem?_eq_some_iff.1 hoS).1;have eL:l[p.iL]=⟨some p.tL,.ldo yL,none⟩:=(List.getElem?_eq_some_iff.1 hoL).2;have eA:l[p.iA]=⟨some p.tA,.app T' k' bb p.tL yA,none⟩:=(List.getElem?_eq_some_iff.1 hoA).2;have eS:l[p.iS]=⟨none,.stoo yS p.tA,none⟩:=(List.getElem?_eq_some_iff.1 hoS).2;obtain⟨ρL,hLL,hρL⟩:=hloc p.iL iLl (by omega);obtain⟨ρA,hLA,hρA⟩:=hloc p.iA iAl (by omega);obtain⟨ρS,hLS,hρS⟩:=hloc p.iS iSl (by omega)
 have xL:xs[p.iL]'(by omega)=.d (.sl c.rows):=by
  unfold kW at hLL;rw[eL]at hLL;exact hLL.2.2
 have xA:xs[p.iA]'(by omega)=.d (.sl (c.rows++rows2)):=by
  unfold kW at hLA;rw[eA]at hLA;exact hLA.2.2.2
 have base:∀S S',(∀j,j<l.length→S j=S' j)→∀t,get (aI (aE l xs 0 S) ρ) t=get (aI (aE l xs 0 S') ρ) t:=fun S S' hS t=>by
  refine bX _ _ ρ t (by rw[hsteps,hsteps]) (fun i g1 g2=>?_);rw[hsteps]at g1;rw[hsg _ i (by rw[hsteps];exact g1) g1,hsg _ i (by rw[hsteps];exact g1) g1];exact⟨rfl,rfl,fun _=>hS i g1⟩
 have baseL:∀S,S p.iL=true→get (aI (aE l xs 0 S) ρ) p.tL=.d (.sl c.rows):=fun S hS=>by
  have:=eX (aE l xs 0 S) ρ p.iL (by rw[hsteps];exact iLl) p.tL (by rw[hsg _ _ _ iLl,eL]) (by rw[hsg _ _ _ iLl];exact hS) (fun j hj hij hd=>by
   rw[hsteps]at hj;rw[hsg _ j _ hj]at hd;exact absurd hd (D.dstL j _ (J5 hj) (by omega)))
  rw[this,hsg _ _ _ iLl];exact xL
 have baseA:∀S,S p.iA=true→get (aI (aE l xs 0 S) ρ) p.tA=.d (.sl (c.rows++rows2)):=fun S hS=>by
  have:=eX (aE l xs 0 S) ρ p.iA (by rw[hsteps];exact iAl) p.tA (by rw[hsg _ _ _ iAl,eA]) (by rw[hsg _ _ _ iAl];exact hS) (fun j hj hij hd=>by
   rw[hsteps]at hj;rw[hsg _ j _ hj]at hd;exact absurd hd (D.dstA j _ (J5 hj) (by omega)))
  rw[this,hsg _ _ _ iAl];exact xA
 have over_get:∀S ρ' t,t≠p.tL→t≠p.tA→get (bY p c rows2 S ρ') t=get ρ' t:=fun S ρ' t h1 h2=>by
  unfold bY;split
  ·rfl
  ·split
   ·rw[aS,if_neg h2]
   ·split
    ·rw[aS,if_neg h1]
    ·rfl
 have over_congr:∀S ρ1 ρ2,(∀t,get ρ1 t=get ρ2 t)→∀t,get (bY p c rows2 S ρ1) t=get (bY p c rows2 S ρ2) t:=fun S ρ1 ρ2 hh t=>by
  unfold bY;split
  ·exact hh t
  ·split
   ·rw[aS,aS,hh]
   ·split
    ·rw[aS,aS,hh]
    ·exact hh t
 refine mT (M:=M) (bm:=bm) (tk:=tk) (fun S=>bY p c rows2 S (aI (aE l xs 0 S) ρ)) (fun S=>if S p.iS then σf else if S p.iL then σ2 else σ) ρf σf D.lt (fun S S' hS=>?_) hl ?_ ⟨fun t=>?_,?_⟩ hρf ?_
 ·have e1:=hS p.iL (by omega);have e2:=hS p.iA (by omega);have e3:=hS p.iS (by omega);refine⟨fun t=>?_,by rw[e1,e3]⟩;rw[over_congr S _ _ (base S S' fun j hj=>hS j (by omega)) t];unfold bY;rw[e1,e2,e3]
 ·have:∀t,get (bY p c rows2 (fun _=>false) (aI (aE l xs 0 fun _=>false) ρ)) t=get ρ t:=fun t=>by
   unfold bY;simp only[JS,if_false];rw[dc];intro q hq _;obtain⟨j,hj,rfl⟩:=J7 hq;rw[hsteps]at hj;rw[hsg _ j (by rw[hsteps];exact hj) hj]
  simp only[JS,if_false];exact h.congr this
 ·rw[hρe t];unfold bY;simp only[if_true]
 ·simp only[if_true]
 intro S i o' ho' hSi hclo hedge M bm tk a w hl h;have hi1:i<ops.toList.length:=(List.getElem?_eq_some_iff.1 ho').1;have hi2:i<l.length:=by omega
 have hlo:l[i]? = some l[i]:=J5 hi2;have hbef:∀j∈(aY ops.toList []).getD i [],S j=true:=ca D.lt (S:=fun j=>S j=true) hclo i o' ho' hedge
 have hbefj:∀q,q<l.length→S q=true→∀j∈(aY ops.toList []).getD q [],S j=true:=fun q hq hSq=>by
  have hq2:ops.toList[q]? = some ops.toList[q]:=J5 (by omega);exact ca D.lt (S:=fun j=>S j=true) hclo q _ hq2 (hclo q _ hq2 hSq)
 have hsame:∀t∈l[i].looksA++l[i].dst.toList,∀j (hj:j<l.length),j≠i→l[j].dst=some t→(S j=decide (j<i)):=by
  intro t ht j hj hne hd;rcases D.cmp i l[i] hlo t ht j l[j] (J5 hj) hd hne with⟨g1,g2⟩|⟨g1,g2⟩
  ·rw[hbef j g2];simp[g1]
  ·have:¬S j=true:=fun hjl=>by
    have:=hbefj j hj hjl i g2;rw[hSi]at this;cases this
   have e:S j=false:=by simpa using this
   rw[e];simp;omega
 obtain⟨ρi,hL,hρi⟩:=hloc i hi2 (by omega)
 have hgetL:∀t∈l[i].looksA,get ρi t=get (aI (aE l xs 0 S) ρ) t:=by
  intro t ht;rw[hρi t];refine bX _ _ ρ t (by rw[hsteps,hsteps]) (fun j g1 g2=>?_);rw[hsteps]at g1;rw[hsg _ j (by rw[hsteps];exact g1) g1,hsg _ j (by rw[hsteps];exact g1) g1];refine⟨rfl,rfl,fun hd=>?_⟩;simp only[Kr];by_cases e:j=i
  ·subst e;rw[hSi];simp
  ·exact(hsame t (by simp[ht]) j g1 e hd).symm
 have hnext:∀t,get (aI (aE l xs 0 fun j=>j==i||S j) ρ) t=get (Go.Proofs.YthoebpnbhgmoiaaGreatDoor.putd (aI (aE l xs 0 S) ρ) l[i].dst (xs[i]'(by omega))) t:=by
  intro t;rw[bP];split
  ·rename_i e
   have:=eX (aE l xs 0 fun j=>j==i||S j) ρ i (by rw[hsteps];exact hi2) t (by rw[hsg _ i _ hi2];exact e) (by rw[hsg _ i _ hi2];simp) (fun j hj hij hd=>by
    rw[hsteps]at hj;rw[hsg _ j _ hj]at hd ⊢;simp only at hd ⊢;rw[hsame t (by simp[e]) j hj (by omega) hd];simp;omega)
   rw[this,hsg _ i _ hi2]
  ·rename_i e;refine bX _ _ ρ t (by rw[hsteps,hsteps]) (fun j g1 g2=>?_);rw[hsteps]at g1;rw[hsg _ j (by rw[hsteps];exact g1) g1,hsg _ j (by rw[hsteps];exact g1) g1];refine⟨rfl,rfl,fun hd=>?_⟩;simp only at hd ⊢;have hne:j≠i:=fun ee=>by subst ee;exact e hd
   simp[hne]
 have hoo:=hget i l[i] o' hlo ho'
 have hdst:l[i].dst=o'.dst:=by
  have:=hoo;unfold okO at this;simp only[JR,beq_iff_eq]at this;exact this.1.1.2
 have hdn:∀d,o'.dst=some d→d<n:=by
  have:=hoo;unfold okO at this;simp only[JR]at this;intro d hd;have:=this.1.2;rw[hd]at this;simpa using this
 have hgd:=hoo;unfold okO at hgd;simp only[JR]at hgd;replace hgd:=hgd.2
 have hwant:l[i].g=none→Region.wanted o' (yielded ops a.tmps)=true:=fun hg=>by
  rw[hg]at hgd;split at hgd
  ·rename_i hg2;simp[Region.wanted,hg2]
  ·rename_i e _;cases e
  ·cases hgd
 have neLA:p.iL≠p.iA:=fun e=>by rw[e]at hoL;rw[hoL]at hoA;have:=congrArg (fun o=>o.map fun o=>match o.op with | .ldo _=>true|_=>false) hoA;simp at this
 have neLS:p.iL≠p.iS:=fun e=>by rw[e]at hoL;rw[hoL]at hoS;cases hoS
 have neAS:p.iA≠p.iS:=fun e=>by rw[e]at hoA;rw[hoA]at hoS;cases hoS
 have bLA:(p.iL==p.iA)=false:=by simpa using neLA
 have bLS:(p.iL==p.iS)=false:=by simpa using neLS
 have bAS:(p.iA==p.iS)=false:=by simpa using neAS
 have bAL:(p.iA==p.iL)=false:=by simpa using Kx neLA
 have bSL:(p.iS==p.iL)=false:=by simpa using Kx neLS
 have bSA:(p.iS==p.iA)=false:=by simpa using Kx neAS
 have done:∀(K:ai→List (List V)→Prop) (R:AEx→ai→List (List V)→Prop),(∀ρ' σ',K ρ' σ'→(∀t,get ρ' t=get (bY p c rows2 (fun j=>j==i||S j) (aI (aE l xs 0 fun j=>j==i||S j) ρ)) t)∧σ'=if(p.iS==i||S p.iS)=true then σf else if(p.iL==i||S p.iL)=true then σ2 else σ)→
  o'.wp C.P a w (fV M bm pr w n K) (bw M bm pr w n fun _ _ _=>False)→o'.wp C.P a w (fV M bm pr w n fun ρ' σ'=>(∀t,get ρ' t=get (bY p c rows2 (fun j=>j==i||S j) (aI (aE l xs 0 fun j=>j==i||S j) ρ)) t)∧σ'=if(p.iS==i||S p.iS)=true then σf else if(p.iL==i||S p.iL)=true then σ2 else σ) (bw M bm pr w n fun _ _ _=>False):=fun K R hK hw=>
  Oper.wp_mono2 (fun a' w' ⟨M',bm',tk',ρ',σ',e1,k2,k3⟩=>⟨M',bm',tk',ρ',σ',hK _ _ e1,k2,k3⟩) (fun e a' w' hh=>hh) hw
 by_cases hS:i=p.iS
 ·subst hS;have hall:∀j,j<l.length→j≠p.iS→S j=true:=fun j hj hne=>hbef j (D.last j l[j] (J5 hj) hne);have hSL:=hall p.iL iLl neLS;have hSA:=hall p.iA iAl neAS;simp only[bY,hSi,hSL,hSA,JS,if_false,if_true]at h;unfold kW at hL;rw[eS]at hL hgetL hnext;obtain⟨-,hL⟩:=hL;rw[if_pos (hwant (by rw[eS]))];refine done (fun ρ' σ'=>ρ'=put (put (aI (aE l xs 0 S) ρ) p.tA (.own c.T c.k (c.rows++rows2))) p.tA (.d (.sl (c.rows++rows2)))∧σ'=σf) (fun _ _ _=>False) (fun ρ' σ' ⟨e1,e2⟩=>?_) (bQ (hG.mono hl) h hoo ?_)
  ·subst e1;subst e2;refine⟨fun t=>?_,by simp⟩;simp only[bY,BEq.rfl,JW,if_true];rw[hnext t];simp only[Go.Proofs.YthoebpnbhgmoiaaGreatDoor.putd,aS];split
   ·rename_i e;subst e;rw[baseA S hSA]
   ·rfl
  ·rw[eS]
   have hev:ev C (put (aI (aE l xs 0 S) ρ) p.tA (.own c.T c.k (c.rows++rows2))) yS=.ptr c.i c.off:=by
    rw[←hL];refine(bB fun t ht=>?_).symm;rw[aS,if_neg (fun e=>hnS (by subst e;exact ht))];exact hgetL t (by simp[O.looksA,OP.slotsA,ht])
   have hlt:c.i<σ.length:=(List.getElem?_eq_some_iff.1 hcs).1;have hlo2:c.off<cs.length:=(List.getElem?_eq_some_iff.1 hcell).1;have hs2:σ2[c.i]? = some (cs.set c.off (.d (.sl c.rows))):=by rw[←hσ2];simp[hlt]
   simp only[cQ,hev,aS,if_true,hs2];exact⟨⟨by simpa using hlo2,uK _ hlo2⟩,trivial,hσf⟩
 have hSS:S p.iS=false:=by
  have:¬S p.iS=true:=fun hh=>by
   have:=hbefj p.iS iSl hh i (D.last i l[i] hlo hS);rw[hSi]at this;cases this
  simpa using this
 have hSi':(p.iS==i)=false:=by simpa using Kx hS
 by_cases hA:i=p.iA
 ·subst hA;have hSL:S p.iL=true:=hbef _ D.ab;simp only[bY,hSS,hSi,hSL,JS,if_false,if_true]at h;unfold kW at hL;rw[eA]at hL hgetL hnext;obtain⟨-,hL1,hL2,-⟩:=hL;rw[if_pos (hwant (by rw[eA]))];refine done (fun ρ' σ'=>ρ'=Go.Proofs.YthoebpnbhgmoiaaGreatDoor.putd (put (put (aI (aE l xs 0 S) ρ) p.tL (.own c.T c.k c.rows)) p.tL (.d (.sl c.rows))) (some p.tA) (.own c.T c.k (c.rows++rows2))∧σ'=σ2) (fun _ _ _=>False) (fun ρ' σ' ⟨e1,e2⟩=>?_) (bQ (hG.mono hl) h hoo ?_)
  ·subst e1;subst e2;refine⟨fun t=>?_,by simp[hSS,hSL,bSA]⟩;simp only[bY,BEq.rfl,JW,bSA,hSS,J3,JS,if_false,if_true];simp only[Go.Proofs.YthoebpnbhgmoiaaGreatDoor.putd,aS];split
   ·rfl
   ·rename_i hne;rw[hnext t];simp only[Go.Proofs.YthoebpnbhgmoiaaGreatDoor.putd,aS,hne,if_false];split
    ·rename_i e;subst e;rw[baseL S hSL]
    ·rfl
  ·rw[eA]
   have hev:ev C (put (aI (aE l xs 0 S) ρ) p.tL (.own c.T c.k c.rows)) yA=ev C ρi yA:=by
    refine(bB fun t ht=>?_).symm;rw[aS,if_neg (fun e=>hnA (by subst e;exact ht))];exact hgetL t (by simp[O.looksA,OP.slotsA,ht])
   obtain⟨q1,q2,q3,q4⟩:=hL2;simp only[cQ,aS,if_true,hev,hL1];refine⟨⟨q1,q2,q3,q4⟩,?_,trivial⟩;rw[q1,q2]
 have hSA':(p.iA==i)=false:=by simpa using Kx hA
 by_cases hLd:i=p.iL
 ·subst hLd
  have hSA:S p.iA=false:=by
   have:¬S p.iA=true:=fun hh=>by
    have:=hbefj p.iA iAl hh _ D.ab;rw[hSi]at this;cases this
   simpa using this
  simp only[bY,hSS,hSi,hSA,JS,if_false]at h;unfold kW at hL;rw[eL]at hL hgetL hnext;obtain⟨-,hL1,-⟩:=hL;rw[if_pos (hwant (by rw[eL]))];refine done (fun ρ' σ'=>ρ'=Go.Proofs.YthoebpnbhgmoiaaGreatDoor.putd (aI (aE l xs 0 S) ρ) (some p.tL) (.own c.T c.k c.rows)∧σ'=σ2) (fun _ _ _=>False) (fun ρ' σ' ⟨e1,e2⟩=>?_) (bQ (hG.mono hl) h hoo ?_)
  ·subst e1;subst e2;refine⟨fun t=>?_,by simp[hSS,bSL]⟩;simp only[bY,BEq.rfl,JW,bSL,bAL,hSS,hSA,J3,JS,if_false,if_true];simp only[Go.Proofs.YthoebpnbhgmoiaaGreatDoor.putd,aS];split
   ·rfl
   ·rename_i hne;rw[hnext t];simp only[Go.Proofs.YthoebpnbhgmoiaaGreatDoor.putd,aS,hne,if_false]
  ·rw[eL]
   have hev:ev C (aI (aE l xs 0 S) ρ) yL=.ptr c.i c.off:=by
    rw[←hL1];refine(bB fun t ht=>?_).symm;exact hgetL t (by simp[O.looksA,OP.slotsA,ht])
   simp only[cQ,hev,hcs,hcell];exact⟨trivial,hσ2⟩
 have hSL':(p.iL==i)=false:=by simpa using Kx hLd
 have hns:l[i].op.special=false:=by
  have:=D.spec i l[i] hlo;cases hsp:l[i].op.special with
  | false=>rfl
  | true=>rcases this.1 hsp with e|e|e;exact absurd e hLd;exact absurd e hA;exact absurd e hS
 have hLL2:Loc C l[i] ρi σ (xs[i]'(by omega))∧Loc C l[i] ρi σ2 (xs[i]'(by omega)):=by
  unfold kW at hL;split at hL
  ·rename_i e;rw[e]at hns;cases hns
  ·rename_i e;rw[e]at hns;cases hns
  ·rename_i e;rw[e]at hns;cases hns
  ·exact hL
 have hlk:l[i].looks=l[i].looksA:=by
  unfold O.looks O.looksA
  have:l[i].op.slots=l[i].op.slotsA:=by
   cases ho:l[i].op<;>first|rfl|(rw[ho]at hns;cases hns)
  rw[this];all_goals rfl
 have hσS:Loc C l[i] ρi (if S p.iL=true then σ2 else σ) (xs[i]'(by omega)):=by split;exact hLL2.2;exact hLL2.1
 have hL2:Loc C l[i] (bY p c rows2 S (aI (aE l xs 0 S) ρ)) (if S p.iL=true then σ2 else σ) (xs[i]'(by omega)):=hσS.congr fun t ht=>by
  rw[hlk]at ht;rw[hgetL t ht,over_get S _ t (fun e=>D.lookL i _ hlo hA (by subst e;exact ht)) (fun e=>D.lookA i _ hlo hS (by subst e;exact ht))]
 have hnextSt:∀t,get (bY p c rows2 (fun j=>j==i||S j) (aI (aE l xs 0 fun j=>j==i||S j) ρ)) t=get (Go.Proofs.YthoebpnbhgmoiaaGreatDoor.putd (bY p c rows2 S (aI (aE l xs 0 S) ρ)) l[i].dst (xs[i]'(by omega))) t:=fun t=>by
  rw[over_congr _ _ _ hnext t];have d1:=D.dstL i _ hlo hLd;have d2:=D.dstA i _ hlo hA;simp only[bY,hSi',hSA',hSL',JT];split
  ·rfl
  ·split
   ·rw[bP,aS,aS,bP];by_cases e1:t=p.tA
    ·subst e1;simp[d2]
    ·simp[e1]
   ·split
    ·rw[bP,aS,aS,bP];by_cases e1:t=p.tL
     ·subst e1;simp[d1]
     ·simp[e1]
    ·rfl
 simp only[hSS,hSi',hSL',JT,JS,if_false]at h done ⊢
 have exec:aP C l[i].op (bY p c rows2 S (aI (aE l xs 0 S) ρ)) (if S p.iL=true then σ2 else σ) (fun v=>v=xs[i]'(by omega))→o'.wp C.P a w (fV M bm pr w n fun ρ' σ'=>(∀t,get ρ' t=get (bY p c rows2 (fun j=>j==i||S j) (aI (aE l xs 0 fun j=>j==i||S j) ρ)) t)∧σ'=if S p.iL=true then σ2 else σ) (bw M bm pr w n fun _ _ _=>False):=fun hc=>
  done _ (fun _ _ _=>False) (fun ρ' σ' ⟨e1,e2⟩=>⟨fun t=>by rw[e1];exact(hnextSt t).symm,e2⟩) (bQ (hG.mono hl) h hoo (iO hc))
 unfold Loc at hL2;split at hL2
 ·rename_i hg;rw[if_pos (hwant hg)];exact exec hL2
 ·rename_i t want hg;rw[hg]at hgd;split at hgd
  ·rename_i e _;cases e
  ·rename_i t' b' j b'' e hg2;cases e;simp only[JR,beq_iff_eq]at hgd;obtain⟨rfl,hj⟩:=hgd;split at hL2
   ·rename_i b hb;have hy:=d9 h hb hj;by_cases hbw:b=want
    ·rw[if_pos (by simp[Region.wanted,hg2,hy,hbw])];exact exec (hL2.1 hbw)
    ·rw[if_neg (by simp[Region.wanted,hg2,hy,hbw])];have hx:=hL2.2 hbw;refine(h.putd hdn fi (by simp)).congr fun t=>?_;rw[hnextSt t,hx,hdst]
   ·rename_i hb;have hy:=gE h hb hj;rw[if_neg (by simp[Region.wanted,hg2,hy])];refine(h.putd hdn fi (by simp)).congr fun t=>?_;rw[hnextSt t,hL2,hdst]
   ·exact hL2.elim
  ·cases hgd
end
end Go.Proofs.YthoebpnbhgmoiaaGreatDoor
namespace Go.Proofs.YthoebpnbhgmoiaaGreatDoor
open Go.RowKit
def OP.slotsN:OP→List Nat
 | .sto _ x y=>x.slots++y.slots
 | op=>op.slots
def O.looksN(o:O):List Nat:=o.op.slotsN++(match o.g with|some (t,_)=>[t]|none=>[])
section
variable {C : Cx} {pr : Prot} {ρ : ai} {n : Nat} {Q : AEx → ai → List (List V) → Prop}
def DR:O→Bool
 | ⟨none,.sto _ _ _,none⟩=>true
 | _=>false
end
end Go.Proofs.YthoebpnbhgmoiaaGreatDoor
namespace Go.Proofs.YthoebpnbhgmoiaaGreatDoor
open Go.RowKit
def OP.specialS:OP→Bool
 | .sto _ _ _=>true
 | _=>false
section
variable {C : Cx} {pr : Prot} {ρ : ai} {n : Nat} {Q : AEx → ai → List (List V) → Prop}
def rV(C:Cx)(σf:List (List V))(σ:List (List V))(o:O)(ρ:ai)(x:V):Prop:=
 match o.op with
 | .sto kk y z=>o.g=none∧∃i off cs,ev C ρ y=.ptr i off∧σ[i]? = some cs∧((ev C ρ z).boxable=true∧(ev C ρ z).cells.length=kk∧off+kk≤cs.length∧bV cs=true)∧σf=σ.set i (over cs off (ev C ρ z).cells)
 | _=>Loc C o ρ σ x
def fq(C:Cx)(σ:List (List V)):List O→ai→Option (List (List V))→(ai→List (List V)→Prop)→Prop
 | [],ρ,acc,K=>match acc with|some σf=>K ρ σf|none=>False
 | o::r,ρ,acc,K=>match o.op with
  | .sto kk y z=>o.g=none∧o.dst=none∧match acc,ev C ρ y with
   | none,.ptr i off=>match σ[i]? with
    | some cs=>((ev C ρ z).boxable=true∧(ev C ρ z).cells.length=kk∧off+kk≤cs.length∧bV cs=true)∧fq C σ r ρ (some (σ.set i (over cs off (ev C ρ z).cells))) K
    | none=>False
   | _,_=>False
  | op=>match o.g with
   | none=>aP C op ρ σ fun v=>fq C σ r (putd ρ o.dst v) acc K
   | some (t,want)=>match get ρ t with
    | .d (.lit (.bool b))=>(b=want→aP C op (put ρ t (.d (.lit (.bool want)))) σ fun v=>fq C σ r (putd (put ρ t (.d (.lit (.bool want)))) o.dst v) acc K)∧(b≠want→fq C σ r (putd (put ρ t (.d (.lit (.bool (!want))))) o.dst (.tup [])) acc K)
    | .tup []=>fq C σ r (putd ρ o.dst (.tup [])) acc K
    | _=>False
theorem jB{σ:List (List V)}:∀{l:List O} {ρ:ai} {acc:Option (List (List V))} {K:ai→List (List V)→Prop},fq C σ l ρ acc K→
 ∃σf,(∀r,acc=some r→r=σf)∧lF (rV C σf σ) l ρ fun ρ'=>K ρ' σf
 | [],ρ,acc,K,h=>by
  cases acc with
  | none=>exact h.elim
  | some r=>exact⟨r,fun r' e=>by cases e;rfl,h⟩
 | o::r,ρ,acc,K,h=>by
  have know:∀{t:Nat} {b c:Bool},get ρ t=.d (.lit (.bool b))→b=c→∀s,get (put ρ t (.d (.lit (.bool c)))) s=get ρ s:=fun hb hc s=>by
   rw[aS];split
   ·rename_i e;subst e;subst hc;exact hb.symm
   ·rfl
  have other:o.op.specialS=false→(match o.g with
   | none=>aP C o.op ρ σ fun v=>fq C σ r (putd ρ o.dst v) acc K
   | some (t,want)=>match get ρ t with
    | .d (.lit (.bool b))=>(b=want→aP C o.op (put ρ t (.d (.lit (.bool want)))) σ fun v=>fq C σ r (putd (put ρ t (.d (.lit (.bool want)))) o.dst v) acc K)∧(b≠want→fq C σ r (putd (put ρ t (.d (.lit (.bool (!want))))) o.dst (.tup [])) acc K)
    | .tup []=>fq C σ r (putd ρ o.dst (.tup [])) acc K
    | _=>False)→∃σf,(∀r,acc=some r→r=σf)∧lF (rV C σf σ) (o::r) ρ fun ρ'=>K ρ' σf:=by
   intro hs h
   have fin:∀x ρ2,(∀t,get ρ2 t=get ρ t)→Loc C o ρ σ x→fq C σ r (putd ρ2 o.dst x) acc K→∃σf,(∀r,acc=some r→r=σf)∧lF (rV C σf σ) (o::r) ρ fun ρ'=>K ρ' σf:=by
    intro x ρ2 h1 h2 h4;obtain⟨rows2,h5,h6⟩:=jB h4;refine⟨rows2,h5,x,ρ2,h1,?_,h6⟩;unfold rV;split<;>first|exact h2|(rename_i e;rw[e]at hs;cases hs)
   split at h
   ·rename_i hg;obtain⟨v,h1,h2⟩:=dF h;exact fin v ρ (fun _=>rfl) (by unfold Loc;rw[hg];exact h1) h2
   ·rename_i t want hg;split at h
    ·rename_i b hb;by_cases e:b=want
     ·obtain⟨v,h1,h2⟩:=dF (h.1 e);exact fin v _ (know hb e) (by unfold Loc;rw[hg];simp only;rw[hb];exact⟨fun _=>d7 (fun s _=>know hb e s) h1,fun ne=>absurd e ne⟩) h2
     ·exact fin (.tup []) _ (know hb (c:=!want) (by cases b<;>cases want<;>simp_all)) (by unfold Loc;rw[hg];simp only;rw[hb];exact⟨(fun ee=>absurd ee e),(fun _=>by trivial)⟩) (h.2 e)
    ·rename_i hb;exact fin (.tup []) ρ (fun _=>rfl) (by unfold Loc;rw[hg];simp only;rw[hb];trivial) h
    ·exact h.elim
  unfold fq at h;split at h
  ·rename_i kk y z ho;obtain⟨h1,h2,h3⟩:=h;split at h3
   ·rename_i i off he;split at h3
    ·rename_i cs hcs;obtain⟨h5,h6⟩:=h3;obtain⟨σf,h7,h8⟩:=jB h6;have:=h7 _ rfl;subst this;exact⟨_,(fun r e=>by cases e),.junk,ρ,fun _=>rfl,by unfold rV;rw[ho];exact⟨h1,i,off,cs,he,hcs,h5,rfl⟩,by rw[h2];exact h8⟩
    ·exact h3.elim
   ·exact h3.elim
  ·rename_i n2;refine other ?_ h;cases ho:o.op<;>first|rfl|exact absurd ho (n2 _ _ _)
def O.free(o:O):Bool:=match o.op,o.g with
 | .mv (.k _),none=>true
 | _,_=>false
def tT(iS:Nat)(l:List O)(os:List Oper):Bool:=
 let bf:=aY os []
 ((Ka os.length).all fun i=>match os[i]? with|some o=>(aD o).all fun j=>decide (j<i)|none=>true) &&
 (((Ka l.length).all fun i=>match l[i]? with
   | some o=>((o.looksN++o.dst.toList).all fun t=>(Ka l.length).all fun j=>j==i||(match l[j]? with
    | some q=>q.dst != some t||(if j<i then(bf.getD i []).contains j else(bf.getD j []).contains i)
    | none=>true)) &&
    ((o.op.specialS==(i==iS))&&(i==iS||(o.free||(bf.getD iS []).contains i)))
   | none=>true) &&
 ((l[iS]?).any DR))
def mo(l:List O)(os:List Oper):Bool:=match rx (fun op=>match op with | .sto _ _ _=>true|_=>false) l 0 with
 | some p=>tT p l os
 | none=>false
structure OKS(iS:Nat)(l:List O)(os:List Oper):Prop where
 lt:∀(i:Nat) (o:Oper),os[i]? = some o→∀j∈aD o,j<i
 cmp:∀(i:Nat) (o:O),l[i]? = some o→∀t∈o.looksN++o.dst.toList,∀(j:Nat) (q:O),l[j]? = some q→q.dst=some t→j≠i→(j<i∧j∈(aY os []).getD i [])∨(i<j∧i∈(aY os []).getD j [])
 spec:∀(i:Nat) (o:O),l[i]? = some o→(o.op.specialS=true↔i=iS)
 last:∀(i:Nat) (o:O),l[i]? = some o→i≠iS→o.free=true∨i∈(aY os []).getD iS []
 opS:∃kk y z,l[iS]? = some ⟨none,.sto kk y z,none⟩
theorem wH{iS:Nat}{l:List O}{os:List Oper}(hl:l.length=os.length)(h:tT iS l os=true):OKS iS l os:=by
 unfold tT at h;simp only[JR]at h;obtain⟨h1,h2,h5⟩:=h;simp only[J6,J9]at h1 h2
 have one:∀(i:Nat) (o:O),l[i]? = some o→_:=fun i o ho=>by
  have:=h2 i (List.getElem?_eq_some_iff.1 ho).1;rw[ho]at this;simp only[JR]at this;exact this
 refine⟨fun i o ho j hj=>?_,fun i o ho t ht j q hp hd hne=>?_,fun i o ho=>?_,fun i o ho hne=>?_,?_⟩
 ·have:=h1 i (List.getElem?_eq_some_iff.1 ho).1;rw[ho]at this;simpa using List.all_eq_true.1 this j hj
 ·have h1:=(one i o ho).1;simp only[J6,J9]at h1;have h2:=h1 t ht j (List.getElem?_eq_some_iff.1 hp).1;rw[hp]at h2;simp only[hd,JU,beq_iff_eq,bne_self_eq_false,JS,false_or]at h2;rcases h2 with h2|h2
  ·exact absurd h2 hne
  ·split at h2
   ·exact .inl ⟨by assumption,by simpa using h2⟩
   ·exact .inr ⟨by omega,by simpa using h2⟩
 ·have:=(one i o ho).2.1;rw[beq_iff_eq]at this;rw[this];simp
 ·have:=(one i o ho).2.2;simpa[hne]using this
 ·cases ho:l[iS]? with
  | none=>rw[ho]at h5;cases h5
  | some o=>
  rw[ho]at h5;have hp:DR o=true:=h5;clear h5;unfold DR at hp;split at hp
  ·exact⟨_,_,_,rfl⟩
  ·cases hp
theorem rJ{M0:ax}{bm0:List Nat}{w0:World}(hG:C.glob M0 pr w0){id:Nat}{ops:Array Oper}{l:List O}{M:ax}{bm:List Nat}{tk:bq}{σ:List (List V)}{a:Act}{w:World}(hok:ft C.tab n ops l ops.toList=true)(hdr:mo l ops.toList=true)
 (hl:Later M0 bm0 pr w0 M bm w)(h:SRel M bm tk pr ρ σ n a w)
 (hq:fq C σ l ρ none fun ρ' σf=>Q .normal ρ' σf):
 (Code.region id ops true).wp C.P (bw M0 bm0 pr w0 n Q) a w:=by
 obtain⟨hlen,hget⟩:=fI hok;unfold mo at hdr;split at hdr;case h_2=>cases hdr
 rename_i p _;have D:=wH hlen hdr;obtain⟨σf,-,hch⟩:=jB hq;obtain⟨xs,hxl,⟨ρf,hρf,hρe⟩,hloc⟩:=mB (k:=0) hch;have hnl:l.length=ops.size:=by rw[hlen];simp
 have hsteps:∀S:Nat→Bool,(aE l xs 0 S).length=l.length:=fun S=>eN l xs 0 S hxl
 have hsg:∀(S:Nat→Bool) (i:Nat) (hi:i<(aE l xs 0 S).length) (h1:i<l.length),(aE l xs 0 S)[i]=(l[i].dst,xs[i]'(by omega),S i):=fun S i hi h1=>by
  have:=eW l xs 0 S i hi h1 (by omega);simpa using this
 obtain⟨kS,yS,zS,hoS⟩:=D.opS;have iSl:p<l.length:=(List.getElem?_eq_some_iff.1 hoS).1;have eS:l[p]=⟨none,.sto kS yS zS,none⟩:=(List.getElem?_eq_some_iff.1 hoS).2
 have base:∀S S',(∀j,j<l.length→S j=S' j)→∀t,get (aI (aE l xs 0 S) ρ) t=get (aI (aE l xs 0 S') ρ) t:=fun S S' hS t=>by
  refine bX _ _ ρ t (by rw[hsteps,hsteps]) (fun i g1 g2=>?_);rw[hsteps]at g1;rw[hsg _ i (by rw[hsteps];exact g1) g1,hsg _ i (by rw[hsteps];exact g1) g1];exact⟨rfl,rfl,fun _=>hS i g1⟩
 refine mT (M:=M) (bm:=bm) (tk:=tk) (fun S=>aI (aE l xs 0 S) ρ) (fun S=>if S p then σf else σ) ρf σf D.lt (fun S S' hS=>?_) hl ?_ ⟨fun t=>?_,?_⟩ hρf ?_
 ·have e3:=hS p (by omega);exact⟨base S S' fun j hj=>hS j (by omega),by rw[e3]⟩
 ·have:∀t,get (aI (aE l xs 0 fun _=>false) ρ) t=get ρ t:=fun t=>by
   rw[dc];intro q hq _;obtain⟨j,hj,rfl⟩:=J7 hq;rw[hsteps]at hj;rw[hsg _ j (by rw[hsteps];exact hj) hj]
  simp only[JS,if_false];exact h.congr this
 ·rw[hρe t]
 ·simp only[if_true]
 intro S i o' ho' hSi hclo hedge M bm tk a w hl h;have hi1:i<ops.toList.length:=(List.getElem?_eq_some_iff.1 ho').1;have hi2:i<l.length:=by omega
 have hlo:l[i]? = some l[i]:=J5 hi2;have hbef:∀j∈(aY ops.toList []).getD i [],S j=true:=ca D.lt (S:=fun j=>S j=true) hclo i o' ho' hedge
 have hbefj:∀q,q<l.length→S q=true→∀j∈(aY ops.toList []).getD q [],S j=true:=fun q hq hSq=>by
  have hq2:ops.toList[q]? = some ops.toList[q]:=J5 (by omega);exact ca D.lt (S:=fun j=>S j=true) hclo q _ hq2 (hclo q _ hq2 hSq)
 have hsame:∀t∈l[i].looksN++l[i].dst.toList,∀j (hj:j<l.length),j≠i→l[j].dst=some t→(S j=decide (j<i)):=by
  intro t ht j hj hne hd;rcases D.cmp i l[i] hlo t ht j l[j] (J5 hj) hd hne with⟨g1,g2⟩|⟨g1,g2⟩
  ·rw[hbef j g2];simp[g1]
  ·have:¬S j=true:=fun hjl=>by
    have:=hbefj j hj hjl i g2;rw[hSi]at this;cases this
   have e:S j=false:=by simpa using this
   rw[e];simp;omega
 obtain⟨ρi,hL,hρi⟩:=hloc i hi2 (by omega)
 have hgetL:∀t∈l[i].looksN,get ρi t=get (aI (aE l xs 0 S) ρ) t:=by
  intro t ht;rw[hρi t];refine bX _ _ ρ t (by rw[hsteps,hsteps]) (fun j g1 g2=>?_);rw[hsteps]at g1;rw[hsg _ j (by rw[hsteps];exact g1) g1,hsg _ j (by rw[hsteps];exact g1) g1];refine⟨rfl,rfl,fun hd=>?_⟩;simp only[Kr];by_cases e:j=i
  ·subst e;rw[hSi];simp
  ·exact(hsame t (by simp[ht]) j g1 e hd).symm
 have hnext:∀t,get (aI (aE l xs 0 fun j=>j==i||S j) ρ) t=get (Go.Proofs.YthoebpnbhgmoiaaGreatDoor.putd (aI (aE l xs 0 S) ρ) l[i].dst (xs[i]'(by omega))) t:=by
  intro t;rw[bP];split
  ·rename_i e
   have:=eX (aE l xs 0 fun j=>j==i||S j) ρ i (by rw[hsteps];exact hi2) t (by rw[hsg _ i _ hi2];exact e) (by rw[hsg _ i _ hi2];simp) (fun j hj hij hd=>by
    rw[hsteps]at hj;rw[hsg _ j _ hj]at hd ⊢;simp only at hd ⊢;rw[hsame t (by simp[e]) j hj (by omega) hd];simp;omega)
   rw[this,hsg _ i _ hi2]
  ·rename_i e;refine bX _ _ ρ t (by rw[hsteps,hsteps]) (fun j g1 g2=>?_);rw[hsteps]at g1;rw[hsg _ j (by rw[hsteps];exact g1) g1,hsg _ j (by rw[hsteps];exact g1) g1];refine⟨rfl,rfl,fun hd=>?_⟩;simp only at hd ⊢;have hne:j≠i:=fun ee=>by subst ee;exact e hd
   simp[hne]
 have hoo:=hget i l[i] o' hlo ho'
 have hdst:l[i].dst=o'.dst:=by
  have:=hoo;unfold okO at this;simp only[JR,beq_iff_eq]at this;exact this.1.1.2
 have hdn:∀d,o'.dst=some d→d<n:=by
  have:=hoo;unfold okO at this;simp only[JR]at this;intro d hd;have:=this.1.2;rw[hd]at this;simpa using this
 have hgd:=hoo;unfold okO at hgd;simp only[JR]at hgd;replace hgd:=hgd.2
 have hwant:l[i].g=none→Region.wanted o' (yielded ops a.tmps)=true:=fun hg=>by
  rw[hg]at hgd;split at hgd
  ·rename_i hg2;simp[Region.wanted,hg2]
  ·rename_i e _;cases e
  ·cases hgd
 have done:∀(K:ai→List (List V)→Prop) (R:AEx→ai→List (List V)→Prop),(∀ρ' σ',K ρ' σ'→(∀t,get ρ' t=get (aI (aE l xs 0 fun j=>j==i||S j) ρ) t)∧σ'=if(p==i||S p)=true then σf else σ)→
  o'.wp C.P a w (fV M bm pr w n K) (bw M bm pr w n fun _ _ _=>False)→o'.wp C.P a w (fV M bm pr w n fun ρ' σ'=>(∀t,get ρ' t=get (aI (aE l xs 0 fun j=>j==i||S j) ρ) t)∧σ'=if(p==i||S p)=true then σf else σ) (bw M bm pr w n fun _ _ _=>False):=fun K R hK hw=>
  Oper.wp_mono2 (fun a' w' ⟨M',bm',tk',ρ',σ',e1,k2,k3⟩=>⟨M',bm',tk',ρ',σ',hK _ _ e1,k2,k3⟩) (fun e a' w' hh=>hh) hw
 by_cases hS:i=p
 ·subst hS;simp only[hSi,JS,if_false]at h;unfold rV at hL;rw[eS]at hL hgetL hnext;obtain⟨-,i0,off,cs,hL1,hcs,hL2,hL3⟩:=hL
  have evy:ev C (aI (aE l xs 0 S) ρ) yS=.ptr i0 off:=by
   rw[←hL1];exact(bB fun t ht=>hgetL t (by simp[O.looksN,OP.slotsN,ht])).symm
  have evz:ev C (aI (aE l xs 0 S) ρ) zS=ev C ρi zS:=(bB fun t ht=>hgetL t (by simp[O.looksN,OP.slotsN,ht])).symm;rw[if_pos (hwant (by rw[eS]))];refine done (fun ρ' σ'=>ρ'=aI (aE l xs 0 S) ρ∧σ'=σf) (fun _ _ _=>False) (fun ρ' σ' ⟨e1,e2⟩=>?_) (bQ (hG.mono hl) h hoo ?_)
  ·subst e1;subst e2;refine⟨fun t=>?_,by simp⟩;rw[hnext t];rfl
  ·rw[eS];simp only[cQ,evy,evz,hcs];exact⟨hL2,trivial,hL3.symm⟩
 have hSS:l[i].free=true∨S p=false:=by
  rcases D.last i l[i] hlo hS with g|g
  ·exact .inl g
  ·refine .inr ?_
   have:¬S p=true:=fun hh=>by
    have:=hbefj p iSl hh i g;rw[hSi]at this;cases this
   simpa using this
 have hSi':(p==i)=false:=by simpa using Kx hS
 have hns:l[i].op.specialS=false:=by
  have:=D.spec i l[i] hlo;cases hsp:l[i].op.specialS with
  | false=>rfl
  | true=>exact absurd (this.1 hsp) hS
 have hLL2:Loc C l[i] ρi σ (xs[i]'(by omega)):=by
  unfold rV at hL;split at hL
  ·rename_i e;rw[e]at hns;cases hns
  ·exact hL
 have hlk:l[i].looks=l[i].looksN:=by
  unfold O.looks O.looksN
  have:l[i].op.slots=l[i].op.slotsN:=by
   cases ho:l[i].op<;>first|rfl|(rw[ho]at hns;cases hns)
  rw[this];all_goals rfl
 have hL0:Loc C l[i] (aI (aE l xs 0 S) ρ) σ (xs[i]'(by omega)):=hLL2.congr fun t ht=>by
  rw[hlk]at ht;exact hgetL t ht
 obtain⟨σ2,hσ2⟩:∃σ2,σ2=if S p=true then σf else σ:=⟨_,rfl⟩
 have hL2:Loc C l[i] (aI (aE l xs 0 S) ρ) σ2 (xs[i]'(by omega)):=by
  rcases hSS with hf|hs
  ·unfold O.free at hf;split at hf
   ·rename_i v ho hg;unfold Loc at hL0 ⊢;rw[hg]at hL0 ⊢;rw[ho]at hL0 ⊢;exact hL0
   ·cases hf
  ·rw[hσ2,hs];exact hL0
 simp only[hSi',JT]at h done ⊢;rw[←hσ2]at h done ⊢
 have exec:aP C l[i].op (aI (aE l xs 0 S) ρ) σ2 (fun v=>v=xs[i]'(by omega))→o'.wp C.P a w (fV M bm pr w n fun ρ' σ'=>(∀t,get ρ' t=get (aI (aE l xs 0 fun j=>j==i||S j) ρ) t)∧σ'=σ2) (bw M bm pr w n fun _ _ _=>False):=fun hc=>
  done _ (fun _ _ _=>False) (fun ρ' σ' ⟨e1,e2⟩=>⟨fun t=>by rw[e1];exact(hnext t).symm,e2⟩) (bQ (hG.mono hl) h hoo (iO hc))
 unfold Loc at hL2;split at hL2
 ·rename_i hg;rw[if_pos (hwant hg)];exact exec hL2
 ·rename_i t want hg;rw[hg]at hgd;split at hgd
  ·rename_i e _;cases e
  ·rename_i t' b' j b'' e hg2;cases e;simp only[JR,beq_iff_eq]at hgd;obtain⟨rfl,hj⟩:=hgd;split at hL2
   ·rename_i b hb;have hy:=d9 h hb hj;by_cases hbw:b=want
    ·rw[if_pos (by simp[Region.wanted,hg2,hy,hbw])];exact exec (hL2.1 hbw)
    ·rw[if_neg (by simp[Region.wanted,hg2,hy,hbw])];have hx:=hL2.2 hbw;refine(h.putd hdn fi (by simp)).congr fun t=>?_;rw[hnext t,hx,hdst]
   ·rename_i hb;have hy:=gE h hb hj;rw[if_neg (by simp[Region.wanted,hg2,hy])];refine(h.putd hdn fi (by simp)).congr fun t=>?_;rw[hnext t,hL2,hdst]
   ·exact hL2.elim
  ·cases hgd
end
end Go.Proofs.YthoebpnbhgmoiaaGreatDoor
namespace Go.Proofs.YthoebpnbhgmoiaaGreatDoor
open Go.RowKit
def bL(s d0 d1 T k bytes:Nat)(y:X)(mid:List O):List O:=⟨some d0,.mvo s,none⟩::(mid++[⟨some d1,.app T k bytes d0 y,none⟩,⟨some s,.mvo d1,none⟩])
theorem Dr(s d0 d1 T k bytes:Nat)(y:X)(mid:List O):(bL s d0 d1 T k bytes y mid).length=mid.length+3:=by simp[bL]
theorem Ed{s d0 d1 T k bytes:Nat}{y:X}{mid:List O}{i:Nat}(h:i<mid.length):(bL s d0 d1 T k bytes y mid)[i+1]? = some mid[i]:=by
 unfold bL;rw[Kh,Kk h,J5 h]
theorem Dp{s d0 d1 T k bytes:Nat}{y:X}{mid:List O}:(bL s d0 d1 T k bytes y mid)[mid.length+1]? = some ⟨some d1,.app T k bytes d0 y,none⟩:=by
 unfold bL;rw[Kh,Ki (Ks _)];simp
theorem A1{s d0 d1 T k bytes:Nat}{y:X}{mid:List O}:(bL s d0 d1 T k bytes y mid)[mid.length+2]? = some ⟨some s,.mvo d1,none⟩:=by
 unfold bL;rw[Kh,Ki (by omega)];simp
def jQ(s d0 d1:Nat)(y:X)(mid:List O)(os:List Oper):Bool:=
 let bf:=aY os [];let free:=fun t=>t != s&&t != d0&&t != d1
 ((Ka os.length).all fun i=>match os[i]? with|some o=>(aD o).all fun j=>decide (j<i)|none=>true) &&
 (((Ka mid.length).all fun i=>match mid[i]? with
   | some o=>((o.looks++o.dst.toList).all fun t=>free t&&(Ka mid.length).all fun j=>j==i||(match mid[j]? with
    | some q=>q.dst != some t||(if j<i then(bf.getD (i+1) []).contains (j+1)else(bf.getD (j+1) []).contains (i+1))
    | none=>true))&&(bf.getD (mid.length+1) []).contains (i+1)
   | none=>true) &&
 (y.slots.all free&&((bf.getD (mid.length+1) []).contains 0&&((bf.getD (mid.length+2) []).contains (mid.length+1)&&(s != d0&&(s != d1&&d0 != d1))))))
structure OKB(s d0 d1:Nat)(y:X)(mid:List O)(os:List Oper):Prop where
 lt:∀(i:Nat) (o:Oper),os[i]? = some o→∀j∈aD o,j<i
 free:∀(i:Nat) (h:i<mid.length),∀t∈mid[i].looks++mid[i].dst.toList,t≠s∧t≠d0∧t≠d1
 cmp:∀(i:Nat) (h:i<mid.length),∀t∈mid[i].looks++mid[i].dst.toList,∀(j:Nat) (hj:j<mid.length),mid[j].dst=some t→j≠i→(j<i∧j+1∈(aY os []).getD (i+1) [])∨(i<j∧i+1∈(aY os []).getD (j+1) [])
 all:∀(i:Nat),i<mid.length→i+1∈(aY os []).getD (mid.length+1) []
 yfree:∀t∈y.slots,t≠s∧t≠d0∧t≠d1
 first:0∈(aY os []).getD (mid.length+1) []
 last:mid.length+1∈(aY os []).getD (mid.length+2) []
 ne:s≠d0∧s≠d1∧d0≠d1
theorem t0{s d0 d1:Nat}{y:X}{mid:List O}{os:List Oper}(h:jQ s d0 d1 y mid os=true):OKB s d0 d1 y mid os:=by
 unfold jQ at h;simp only[JR,bne_iff_ne,ne_eq,Km]at h;obtain⟨h1,h2,h3,h4,h5,h6⟩:=h;simp only[J6,J9,JR,bne_iff_ne,ne_eq]at h1 h2 h3
 have one:∀(i:Nat) (h:i<mid.length),_:=fun i hi=>by
  have:=h2 i hi;rw[J5 hi]at this;simp only[JR,J6,J9,bne_iff_ne,ne_eq,Km]at this;exact this
 refine⟨fun i o ho j hj=>?_,fun i hi t ht=>?_,fun i hi t ht j hj hd hne=>?_,fun i hi=>(one i hi).2,fun t ht=>?_,h4,h5,h6⟩
 ·have:=h1 i (List.getElem?_eq_some_iff.1 ho).1;rw[ho]at this;simpa using List.all_eq_true.1 this j hj
 ·obtain⟨⟨a,b⟩,c⟩:=((one i hi).1 t ht).1;exact⟨a,b,c⟩
 ·have h2:=((one i hi).1 t ht).2 j hj;rw[J5 hj]at h2;simp only[hd,JU,beq_iff_eq,bne_self_eq_false,JS,false_or]at h2;rcases h2 with h2|h2
  ·exact absurd h2 hne
  ·split at h2
   ·exact .inl ⟨by assumption,by simpa using h2⟩
   ·exact .inr ⟨by omega,by simpa using h2⟩
 ·obtain⟨⟨a,b⟩,c⟩:=h3 t ht;exact⟨a,b,c⟩
section
variable {C : Cx} {pr : Prot} {ρ : ai} {σ : List (List V)} {n : Nat} {Q : AEx → ai → List (List V) → Prop}
def nV(s d0 d1 T k:Nat)(rows r2:List (List D))(ρ:ai):ai:=put (put (put ρ s (.own T k (rows++r2))) d0 (.d (.sl rows))) d1 (.d (.sl (rows++r2)))
def stB(s d0 d1 T k:Nat)(rows r2:List (List D)):Bool→Bool→Bool→ai→ai
 | true,_,_,ρ=>nV s d0 d1 T k rows r2 ρ
 | false,true,_,ρ=>put (put (put ρ s (.d (.sl rows))) d0 (.d (.sl rows))) d1 (.own T k (rows++r2))
 | false,false,true,ρ=>put (put ρ s (.d (.sl rows))) d0 (.own T k rows)
 | false,false,false,ρ=>ρ
theorem kX{s d0 d1 T k:Nat}{rows r2:List (List D)}{a b c:Bool}{ρ ρ':ai}(h:∀t,get ρ t=get ρ' t)(t:Nat):get (stB s d0 d1 T k rows r2 a b c ρ) t=get (stB s d0 d1 T k rows r2 a b c ρ') t:=by
 cases a<;>cases b<;>cases c<;>simp only[stB,nV,aS,h]
theorem m9{s d0 d1 T k:Nat}{rows r2:List (List D)}{a b c:Bool}{ρ:ai}{t:Nat}(h:t≠s∧t≠d0∧t≠d1):get (stB s d0 d1 T k rows r2 a b c ρ) t=get ρ t:=by
 obtain⟨h1,h2,h3⟩:=h;cases a<;>cases b<;>cases c<;>simp[stB,nV,aS,h1,h2,h3]
theorem BR{s d0 d1 T k:Nat}{rows r2:List (List D)}{a b c:Bool}{ρ:ai}{d:Option Nat}{x:V}(h:∀t,d=some t→t≠s∧t≠d0∧t≠d1)(t:Nat):get (putd (stB s d0 d1 T k rows r2 a b c ρ) d x) t=get (stB s d0 d1 T k rows r2 a b c (putd ρ d x)) t:=by
 rw[bP];split
 ·rename_i e;rw[m9 (h t e),bP,if_pos e]
 ·rename_i e;cases a<;>cases b<;>cases c<;>simp only[stB,nV,aS,bP,if_neg e]
def vg(C:Cx)(s d0 d1 T k bytes:Nat)(y:X)(mid:List O)(ρ:ai)(σ:List (List V))(K:ai→Prop):Prop:=match get ρ s with
 | .own T' k' rows=>T'=T∧k'=k∧bg C mid ρ σ fun ρ'=>match dp (ev C ρ' y)with
  | some r2=>(r2.all (fun r=>r.length==k)=true∧(rows.length+r2.length)*bytes≤140737488355328)∧K (nV s d0 d1 T k rows r2 ρ')
  | none=>False
 | _=>False
theorem qZ{M0:ax}{bm0:List Nat}{w0:World}(hG:C.glob M0 pr w0){id:Nat}{ops:Array Oper}{s d0 d1 T k bytes:Nat}{y:X}{mid:List O}{M:ax}{bm:List Nat}{tk:bq}{a:Act}{w:World}(hok:ft C.tab n ops (bL s d0 d1 T k bytes y mid) ops.toList=true)(hdr:jQ s d0 d1 y mid ops.toList=true)
 (hl:Later M0 bm0 pr w0 M bm w)(h:SRel M bm tk pr ρ σ n a w)
 (hq:vg C s d0 d1 T k bytes y mid ρ σ fun ρ'=>Q .normal ρ' σ):
 (Code.region id ops true).wp C.P (bw M0 bm0 pr w0 n Q) a w:=by
 obtain⟨hlen,hget⟩:=fI hok;rw[Dr]at hlen;have D:=t0 hdr;obtain⟨ne1,ne2,ne3⟩:=D.ne;unfold vg at hq;split at hq;case h_2=>exact hq.elim
 rename_i T' k' rows hrow;obtain⟨rfl,rfl,hq⟩:=hq;obtain⟨xs,hxl,⟨ρf,hρf,hρe⟩,hloc⟩:=mg (k:=1) hq;split at hρf;case h_2=>exact hρf.elim
 rename_i r2 hr2;obtain⟨⟨hk,hby⟩,hQ⟩:=hρf;have hnl:mid.length+3=ops.size:=by rw[hlen];simp
 have hsteps:∀S:Nat→Bool,(aE mid xs 1 S).length=mid.length:=fun S=>eN mid xs 1 S hxl
 have hsg:∀(S:Nat→Bool) (i:Nat) (hi:i<(aE mid xs 1 S).length) (h1:i<mid.length),(aE mid xs 1 S)[i]=(mid[i].dst,xs[i]'(by omega),S (i+1)):=fun S i hi h1=>by
  have:=eW mid xs 1 S i hi h1 (by omega);rw[this,Nat.add_comm 1 i]
 have base:∀S S',(∀j,j<mid.length→S (j+1)=S' (j+1))→∀t,get (aI (aE mid xs 1 S) ρ) t=get (aI (aE mid xs 1 S') ρ) t:=fun S S' hS t=>by
  refine bX _ _ ρ t (by rw[hsteps,hsteps]) (fun i g1 g2=>?_);rw[hsteps]at g1;rw[hsg _ i (by rw[hsteps];exact g1) g1,hsg _ i (by rw[hsteps];exact g1) g1];exact⟨rfl,rfl,fun _=>hS i g1⟩
 have own:∀S t,t=s∨t=d0∨t=d1→get (aI (aE mid xs 1 S) ρ) t=get ρ t:=fun S t ht=>by
  rw[dc];intro q hq hd;obtain⟨j,hj,rfl⟩:=J7 hq;rw[hsteps]at hj;rw[hsg _ j (by rw[hsteps];exact hj) hj]at hd;obtain⟨g1,g2,g3⟩:=D.free j hj t (by simp only at hd;simp[hd]);rcases ht with e|e|e
  ·exact absurd e g1
  ·exact absurd e g2
  ·exact absurd e g3
 have hst0:∀S,(∀j,S j=false)→∀t,get (aI (aE mid xs 1 S) ρ) t=get ρ t:=fun S hS t=>by
  rw[dc];intro q hq _;obtain⟨j,hj,rfl⟩:=J7 hq;rw[hsteps]at hj;rw[hsg _ j (by rw[hsteps];exact hj) hj];exact hS _
 obtain⟨St,hSt⟩:∃St:(Nat→Bool)→ai,∀S,St S=stB s d0 d1 T' k' rows r2 (S (mid.length+2)) (S (mid.length+1)) (S 0) (aI (aE mid xs 1 S) ρ):=⟨fun S=>stB s d0 d1 T' k' rows r2 (S (mid.length+2)) (S (mid.length+1)) (S 0) (aI (aE mid xs 1 S) ρ),fun _=>rfl⟩
 refine mT (M:=M) (bm:=bm) (tk:=tk) St (fun _=>σ) (nV s d0 d1 T' k' rows r2 ρf) σ D.lt (fun S S' hS=>⟨fun t=>?_,rfl⟩) hl ?_ ⟨fun t=>?_,rfl⟩ hQ ?_
 ·have e:=base S S' fun j hj=>hS (j+1) (by omega);rw[hSt,hSt,hS (mid.length+2) (by omega),hS (mid.length+1) (by omega),hS 0 (by omega)];exact kX e t
 ·simp only[hSt];exact h.congr (hst0 _ fun _=>rfl)
 ·rw[hSt];exact kX (a:=true) (b:=true) (c:=true) hρe t
 intro S i o' ho' hSi hclo hedge M bm tk a w hl h;have hi1:i<ops.toList.length:=(List.getElem?_eq_some_iff.1 ho').1;have hbef:∀j∈(aY ops.toList []).getD i [],S j=true:=ca D.lt (S:=fun j=>S j=true) hclo i o' ho' hedge
 have hbefj:∀q,q<mid.length+3→S q=true→∀j∈(aY ops.toList []).getD q [],S j=true:=fun q hq hSq=>by
  have hq2:ops.toList[q]? = some ops.toList[q]:=J5 (by omega);exact ca D.lt (S:=fun j=>S j=true) hclo q _ hq2 (hclo q _ hq2 hSq)
 have gt:∀o,(bL s d0 d1 T' k' bytes y mid)[i]? = some o→o.g=none→Region.wanted o' (yielded ops a.tmps)=true:=fun o ho hg=>by
  have hgd:=hget i o o' ho ho';unfold okO at hgd;simp only[JR]at hgd;replace hgd:=hgd.2;rw[hg]at hgd;split at hgd
  ·rename_i hg2;simp[Region.wanted,hg2]
  ·rename_i e _;cases e
  ·cases hgd
 have done:∀(K:ai→List (List V)→Prop),(∀ρ' σ',K ρ' σ'→(∀t,get ρ' t=get (St fun j=>j==i||S j) t)∧σ'=σ)→
  o'.wp C.P a w (fV M bm pr w n K) (bw M bm pr w n fun _ _ _=>False)→o'.wp C.P a w (fV M bm pr w n fun ρ' σ'=>(∀t,get ρ' t=get (St fun j=>j==i||S j) t)∧σ'=σ) (bw M bm pr w n fun _ _ _=>False):=fun K hK hw=>
  Oper.wp_mono2 (fun a' w' ⟨M',bm',tk',ρ',σ',e1,k2,k3⟩=>⟨M',bm',tk',ρ',σ',hK _ _ e1,k2,k3⟩) (fun e a' w' hh=>hh) hw
 have no2:S (mid.length+1)=false→S (mid.length+2)=false:=fun hA=>by
  cases hB:S (mid.length+2)with
  | false=>rfl
  | true=>have:=hbefj _ (by omega) hB _ D.last;rw[hA]at this;cases this
 by_cases i0:i=0
 ·subst i0
  have hA:S (mid.length+1)=false:=by
   cases hA:S (mid.length+1)with
   | false=>rfl
   | true=>have:=hbefj _ (by omega) hA _ D.first;rw[hSi]at this;cases this
  have hB:=no2 hA;have ho:(bL s d0 d1 T' k' bytes y mid)[0]? = some ⟨some d0,.mvo s,none⟩:=rfl;rw[if_pos (gt _ ho rfl)];have hbs:=base S (fun j=>j==0||S j) fun j hj=>by simp
  have eS':St (fun j=>j==0||S j)=put (put (aI (aE mid xs 1 fun j=>j==0||S j) ρ) s (.d (.sl rows))) d0 (.own T' k' rows):=by
   rw[hSt];simp[hA,hB,stB]
  rw[hSt,hA,hB,hSi]at h;refine done (fun ρ' σ'=>ρ'=putd (put (aI (aE mid xs 1 S) ρ) s (.d (.sl rows))) (some d0) (.own T' k' rows)∧σ'=σ) (fun ρ' σ' ⟨e1,e2⟩=>?_) (bQ (Q:=fun _ _ _=>False) (hG.mono hl) h (hget 0 _ o' ho ho') ?_)
  ·subst e1;refine⟨fun t=>?_,e2⟩;rw[eS'];simp only[putd,aS,hbs]
  ·simp only[cQ,stB,own S s (.inl rfl),hrow];exact⟨trivial,trivial⟩
 by_cases iA:i=mid.length+1
 ·subst iA;have hB:=no2 hSi;have h0:=hbef _ D.first;have ho:=Dp (s:=s) (d0:=d0) (d1:=d1) (T:=T') (k:=k') (bytes:=bytes) (y:=y) (mid:=mid);rw[if_pos (gt _ ho rfl)]
  have hbs:=base S (fun j=>j==mid.length+1||S j) fun j hj=>by
   have:(j+1==mid.length+1)=false:=by simp;omega
   simp[this]
  have eS':St (fun j=>j==mid.length+1||S j)=put (put (put (aI (aE mid xs 1 fun j=>j==mid.length+1||S j) ρ) s (.d (.sl rows))) d0 (.d (.sl rows))) d1 (.own T' k' (rows++r2)):=by
   have:(mid.length+2==mid.length+1)=false:=by simp
   rw[hSt];simp only[this,hB,JT,beq_self_eq_true,JW];rfl
  rw[hSt,hSi,hB,h0]at h
  have hall:∀t,get ρf t=get (aI (aE mid xs 1 S) ρ) t:=fun t=>by
   rw[hρe t];exact base _ _ (fun j hj=>(hbef _ (D.all j hj)).symm) t
  have hev:ev C (stB s d0 d1 T' k' rows r2 false false true (aI (aE mid xs 1 S) ρ)) y=ev C ρf y:=bB fun t ht=>by
   rw[m9 (D.yfree t ht),hall]
  refine done (fun ρ' σ'=>ρ'=putd (put (stB s d0 d1 T' k' rows r2 false false true (aI (aE mid xs 1 S) ρ)) d0 (.d (.sl rows))) (some d1) (.own T' k' (rows++r2))∧σ'=σ) (fun ρ' σ' ⟨e1,e2⟩=>?_) (bQ (Q:=fun _ _ _=>False) (hG.mono hl) h (hget _ _ o' ho ho') ?_)
  ·subst e1;refine⟨fun t=>?_,e2⟩;rw[eS'];simp only[putd,stB,aS,hbs];repeat' split
   all_goals first|rfl|(exfalso;omega)
  ·have hg0:get (stB s d0 d1 T' k' rows r2 false false true (aI (aE mid xs 1 S) ρ)) d0=.own T' k' rows:=by simp[stB,aS]
   simp only[cQ,hg0,hev,hr2];exact⟨⟨trivial,trivial,hk,hby⟩,trivial,trivial⟩
 by_cases iB:i=mid.length+2
 ·subst iB;have hA:=hbef _ D.last;have ho:=A1 (s:=s) (d0:=d0) (d1:=d1) (T:=T') (k:=k') (bytes:=bytes) (y:=y) (mid:=mid);rw[if_pos (gt _ ho rfl)]
  have hbs:=base S (fun j=>j==mid.length+2||S j) fun j hj=>by
   have:(j+1==mid.length+2)=false:=by simp;omega
   simp[this]
  have eS':St (fun j=>j==mid.length+2||S j)=nV s d0 d1 T' k' rows r2 (aI (aE mid xs 1 fun j=>j==mid.length+2||S j) ρ):=by
   rw[hSt];simp[stB]
  rw[hSt,hSi,hA]at h;refine done (fun ρ' σ'=>ρ'=putd (put (stB s d0 d1 T' k' rows r2 false true (S 0) (aI (aE mid xs 1 S) ρ)) d1 (.d (.sl (rows++r2)))) (some s) (.own T' k' (rows++r2))∧σ'=σ) (fun ρ' σ' ⟨e1,e2⟩=>?_) (bQ (Q:=fun _ _ _=>False) (hG.mono hl) h (hget _ _ o' ho ho') ?_)
  ·subst e1;refine⟨fun t=>?_,e2⟩;rw[eS'];simp only[putd,stB,nV,aS,hbs];repeat' split
   all_goals first|rfl|(exfalso;omega)
  ·have hg0:get (stB s d0 d1 T' k' rows r2 false true (S 0) (aI (aE mid xs 1 S) ρ)) d1=.own T' k' (rows++r2):=by simp[stB,aS]
   simp only[cQ,hg0];exact⟨trivial,trivial⟩
 obtain⟨m,rfl⟩:∃m,i=m+1:=⟨i-1,by omega⟩
 have hm:m<mid.length:=by omega
 have hlo:=Ed (s:=s) (d0:=d0) (d1:=d1) (T:=T') (k:=k') (bytes:=bytes) (y:=y) hm;have hoo:=hget (m+1) _ o' hlo ho'
 have hA:S (mid.length+1)=false:=by
  cases hA:S (mid.length+1)with
  | false=>rfl
  | true=>have:=hbefj _ (by omega) hA _ (D.all m hm);rw[hSi]at this;cases this
 have hB:=no2 hA
 have hsame:∀t∈mid[m].looks++mid[m].dst.toList,∀j (hj:j<mid.length),j≠m→mid[j].dst=some t→(S (j+1)=decide (j<m)):=by
  intro t ht j hj hne hd;rcases D.cmp m hm t ht j hj hd hne with⟨g1,g2⟩|⟨g1,g2⟩
  ·rw[hbef _ g2];simp[g1]
  ·have:¬S (j+1)=true:=fun hjl=>by
    have:=hbefj (j+1) (by omega) hjl _ g2;rw[hSi]at this;cases this
   have e:S (j+1)=false:=by simpa using this
   rw[e];simp;omega
 obtain⟨ρi,hL,hρi⟩:=hloc m hm (by omega)
 have hgetL:∀t∈mid[m].looks,get ρi t=get (aI (aE mid xs 1 S) ρ) t:=by
  intro t ht;rw[hρi t];refine bX _ _ ρ t (by rw[hsteps,hsteps]) (fun j g1 g2=>?_);rw[hsteps]at g1;rw[hsg _ j (by rw[hsteps];exact g1) g1,hsg _ j (by rw[hsteps];exact g1) g1];refine⟨rfl,rfl,fun hd=>?_⟩;by_cases e:j=m
  ·subst e;rw[hSi];simp;omega
  ·rw[hsame t (by simp[ht]) j g1 e hd,decide_eq_decide];omega
 have hnext:∀t,get (aI (aE mid xs 1 fun j=>j==m+1||S j) ρ) t=get (Go.Proofs.YthoebpnbhgmoiaaGreatDoor.putd (aI (aE mid xs 1 S) ρ) mid[m].dst (xs[m]'(by omega))) t:=by
  intro t;rw[bP];split
  ·rename_i e
   have:=eX (aE mid xs 1 fun j=>j==m+1||S j) ρ m (by rw[hsteps];exact hm) t (by rw[hsg _ m _ hm];exact e) (by rw[hsg _ m _ hm];simp) (fun j hj hij hd=>by
    rw[hsteps]at hj;rw[hsg _ j _ hj]at hd ⊢;simp only at hd ⊢;rw[hsame t (by simp[e]) j hj (by omega) hd];simp;omega)
   rw[this,hsg _ m _ hm]
  ·rename_i e;refine bX _ _ ρ t (by rw[hsteps,hsteps]) (fun j g1 g2=>?_);rw[hsteps]at g1;rw[hsg _ j (by rw[hsteps];exact g1) g1,hsg _ j (by rw[hsteps];exact g1) g1];refine⟨rfl,rfl,fun hd=>?_⟩;simp only at hd ⊢;have hne:j≠m:=fun ee=>by subst ee;exact e hd
   simp[hne]
 have hdst:mid[m].dst=o'.dst:=by
  have:=hoo;unfold okO at this;simp only[JR,beq_iff_eq]at this;exact this.1.1.2
 have hdn:∀d,o'.dst=some d→d<n:=by
  have:=hoo;unfold okO at this;simp only[JR]at this;intro d hd;have:=this.1.2;rw[hd]at this;simpa using this
 have hgd:=hoo;unfold okO at hgd;simp only[JR]at hgd;replace hgd:=hgd.2;have hdf:∀t,mid[m].dst=some t→t≠s∧t≠d0∧t≠d1:=fun t ht=>D.free m hm t (by simp[ht]);rw[hSt,hA,hB]at h
 have eS':∀t,get (putd (stB s d0 d1 T' k' rows r2 false false (S 0) (aI (aE mid xs 1 S) ρ)) mid[m].dst (xs[m]'(by omega))) t=get (St fun j=>j==m+1||S j) t:=fun t=>by
  have e1:(mid.length+2==m+1)=false:=by simp;omega
  have e2:(mid.length+1==m+1)=false:=by simp;omega
  have e3:(0==m+1)=false:=by simp
  rw[BR hdf,hSt];simp only[e1,e2,e3,hA,hB,JT];exact(kX hnext t).symm
 have hL2:Loc C mid[m] (stB s d0 d1 T' k' rows r2 false false (S 0) (aI (aE mid xs 1 S) ρ)) σ (xs[m]'(by omega)):=hL.congr fun t ht=>by
  rw[hgetL t ht,m9 (D.free m hm t (by simp[ht]))]
 have exec:aP C mid[m].op (stB s d0 d1 T' k' rows r2 false false (S 0) (aI (aE mid xs 1 S) ρ)) σ (fun v=>v=xs[m]'(by omega))→o'.wp C.P a w (fV M bm pr w n fun ρ' σ'=>(∀t,get ρ' t=get (St fun j=>j==m+1||S j) t)∧σ'=σ) (bw M bm pr w n fun _ _ _=>False):=fun hc=>
  done _ (fun ρ' σ' ⟨e1,e2⟩=>⟨fun t=>by rw[e1];exact eS' t,e2⟩) (bQ (Q:=fun _ _ _=>False) (hG.mono hl) h hoo (iO hc))
 unfold Loc at hL2;split at hL2
 ·rename_i hg;rw[if_pos (gt _ hlo hg)];exact exec hL2
 ·rename_i t want hg;rw[hg]at hgd;split at hgd
  ·rename_i e _;cases e
  ·rename_i t' b' j b'' e hg2;cases e;simp only[JR,beq_iff_eq]at hgd;obtain⟨rfl,hj⟩:=hgd;split at hL2
   ·rename_i b hb;have hy:=d9 h hb hj;by_cases hbw:b=want
    ·rw[if_pos (by simp[Region.wanted,hg2,hy,hbw])];exact exec (hL2.1 hbw)
    ·rw[if_neg (by simp[Region.wanted,hg2,hy,hbw])];have hx:=hL2.2 hbw;refine(h.putd hdn fi (by simp)).congr fun t=>?_;rw[←eS' t,hx,hdst]
   ·rename_i hb;have hy:=gE h hb hj;rw[if_neg (by simp[Region.wanted,hg2,hy])];refine(h.putd hdn fi (by simp)).congr fun t=>?_;rw[←eS' t,hL2,hdst]
   ·exact hL2.elim
  ·cases hgd
end
end Go.Proofs.YthoebpnbhgmoiaaGreatDoor
namespace Go.Proofs.YthoebpnbhgmoiaaGreatDoor
open Go.RowKit
section
variable {C : Cx} {pr : Prot} {n : Nat} {Q : AEx → ai → List (List V) → Prop}
theorem vP{M0:ax}{bm0:List Nat}{w0:World}{id:Nat}{ops:Array Oper}{M:ax}{bm:List Nat}{tk:bq}{a:Act}{w:World}(St:(Nat→Bool)→ai)(Sg:(Nat→Bool)→List (List V))(ρf:ai)(σf:List (List V))(I:(Nat→Bool)→Prop)(hI0:I fun _=>false)(hIext:∀S S',(∀j,j<ops.size→S j=S' j)→I S→I S')
 (hlt:∀(i:Nat) (o:Oper),ops.toList[i]? = some o→∀j∈aD o,j<i)
 (hext:∀S S',(∀j,j<ops.size→S j=S' j)→(∀t,get (St S) t=get (St S') t)∧Sg S=Sg S')
 (hl:Later M0 bm0 pr w0 M bm w)(h:SRel M bm tk pr (St fun _=>false) (Sg fun _=>false) n a w)
 (hf:I (fun _=>true)→((∀t,get ρf t=get (St fun _=>true) t)∧σf=Sg fun _=>true)∧Q .normal ρf σf)
 (step:∀(S:Nat→Bool) (i:Nat) (o:Oper),ops.toList[i]? = some o→S i=false→(∀(j:Nat) (p:Oper),ops.toList[j]? = some p→S j=true→∀e∈aD p,S e=true)→(∀e∈aD o,S e=true)→
   I S→∀(M:ax) (bm:List Nat) (tk:bq) (a:Act) (w:World),Later M0 bm0 pr w0 M bm w→SRel M bm tk pr (St S) (Sg S) n a w→
    if Region.wanted o (yielded ops a.tmps)then o.wp C.P a w (fV M bm pr w n fun ρ' σ'=>(∀t,get ρ' t=get (St fun j=>j==i||S j) t)∧σ'=(Sg fun j=>j==i||S j)∧I fun j=>j==i||S j) (bw M bm pr w n Q)
    else SRel M bm tk pr (St fun j=>j==i||S j) (Sg fun j=>j==i||S j) n (a.put o.dst undef) w∧I fun j=>j==i||S j):
 (Code.region id ops true).wp C.P (bw M0 bm0 pr w0 n Q) a w:=by
 refine wp_region_any C.mixed ?_
 suffices H:∀(fuel:Nat) (listed:Array Bool) (M:ax) (bm:List Nat) (tk:bq) (a:Act) (w:World),Later M0 bm0 pr w0 M bm w→SRel M bm tk pr (St fun i=>listed.getD i false) (Sg fun i=>listed.getD i false) n a w→I (fun i=>listed.getD i false)→listed.size=ops.size→
  (∀(i:Nat) (o:Oper),ops.toList[i]? = some o→listed.getD i false=true→∀j∈aD o,listed.getD j false=true)→(listed.toList.filter (! ·)).length=fuel→wpAny C.P .any ops (bw M0 bm0 pr w0 n Q) fuel listed a w by
  obtain⟨h1,h2⟩:=h.ext (cH.drew w)
  have hrep:∀j,(JM ops.size false).getD j false=false:=fun j=>by
   simp only[JH,JP];split<;>rfl
  obtain⟨e1,e2⟩:=hext (fun i=>(JM ops.size false).getD i false) (fun _=>false) (fun j _=>hrep j);refine H ops.size (JM ops.size false) M bm tk a w.drew (hl.trans h2 (fun _ h=>h)) ?_ (hIext _ _ (fun j _=>(hrep j).symm) hI0) (by simp) (fun i o ho hi=>?_) (by simp)
  ·rw[e2];exact h1.congr e1
  ·rw[hrep]at hi;cases hi
 intro fuel
 induction fuel with
 | zero=>
  intro listed M bm tk a w hl h hI hsz hcl hcnt
  have hall:∀i,i<ops.size→listed.getD i false=true:=fun i hi=>by
   have hb:listed[i]? = some (listed[i]'(by omega)):=JI _;rw[JH,hb,Ky];have hne:listed.toList.filter (! ·)=[]:=Kf hcnt;have:=List.filter_eq_nil_iff.1 hne (listed[i]'(by omega)) (by simp);simpa using this
  obtain⟨e1,e2⟩:=hext (fun i=>listed.getD i false) (fun _=>true) hall;obtain⟨hf,hq⟩:=hf (hIext _ _ hall hI);refine⟨?_,M,bm,tk,ρf,σf,.normal,hq,.normal,?_,hl⟩
  ·unfold Region.ready;rw[Kc];intro i hi;have hi':i<ops.size:=by simpa using hi
   have h9:=hall i hi'
   have:listed.getD i true=true:=by
    have hb:listed[i]? = some (listed[i]'(by omega)):=JI _;rw[JH,hb,Ky]at h9 ⊢;exact h9
   simp[this]
  ·rw[hf.2,←e2];exact h.congr fun t=>(hf.1 t).trans (e1 t).symm
 | succ fuel ih=>
  intro listed M bm tk a w hl h hI hsz hcl hcnt;refine⟨fun hnil=>?_,fun i hi=>?_⟩
  ·exfalso
   have hex:∃i,i<ops.size∧listed.getD i false=false:=by
    apply J4;intro hno
    have hne:listed.toList.filter (! ·)=[]:=by
     rw[Kc];intro b hb;obtain⟨i,hi,rfl⟩:=J7 hb;have hi':i<listed.size:=by simpa using hi
     have h9:¬listed.getD i false=false:=fun e=>hno ⟨i,by omega,e⟩;have hb:listed[i]? = some listed[i]:=JI hi';rw[JH,hb,Ky]at h9;simpa using h9
    rw[hne]at hcnt;simp at hcnt
   have hmin:∃i,i<ops.size∧listed.getD i false=false∧∀j,j<i→listed.getD j false=true:=by
    obtain⟨i,h1,h2⟩:=hex
    induction i using Ku with
    | _ i ihm=>
    by_cases hj:∃j,j<i∧listed.getD j false=false
    ·obtain⟨j,g1,g2⟩:=hj;exact ihm j g1 (by omega) g2
    ·exact⟨i,h1,h2,fun j hji=>by
      cases hb:listed.getD j false with
      | true=>rfl
      | false=>exact absurd ⟨j,hji,hb⟩ hj⟩
   obtain⟨i,h1,h2,h3⟩:=hmin;have hio:i<ops.toList.length:=by simpa using h1
   have:i∈Region.ready .any ops listed:=by
    unfold Region.ready;rw[Kb];refine⟨by simp;omega,?_⟩
    have ht:listed.getD i true=false:=by
     have hb:listed[i]? = some (listed[i]'(by omega)):=JI _;rw[JH,hb,Ky]at h2 ⊢;exact h2
    have ho:ops[i]? = some (ops[i]'(by omega)):=JI _;rw[ht,ho];simp only[JX,JZ,KB,Ky];rw[←JO,J6];intro e he;cases hb:Region.binds .any e with
    | false=>rfl
    | true=>
     have:e.on∈aD (ops[i]'(by omega)):=by
      unfold aD;exact List.mem_map.2 ⟨e,List.mem_filter.2 ⟨he,hb⟩,rfl⟩
     simp[h3 e.on (hlt i _ (by rw[J5 hio];simp) e.on this)]
   rw[hnil]at this;cases this
  ·unfold Region.ready at hi;rw[Kb]at hi;obtain⟨hir,hic⟩:=hi;have hi1:i<ops.size:=by simpa using hir
   have ho:ops[i]? = some ops[i]:=JI hi1;have hoL:ops.toList[i]? = some ops[i]:=by rw[JK];exact ho
   rw[ho]at hic;simp only[KB,Ky,JR,JV]at hic;obtain⟨hun,hed⟩:=hic
   have hun':listed[i]? = some false:=by
    have hb:listed[i]? = some (listed[i]'(by omega)):=JI _;rw[JH,hb,Ky]at hun;rw[hb,hun]
   have hunf:listed.getD i false=false:=by rw[JH,hun'];rfl
   have hedge:∀j∈aD ops[i],listed.getD j false=true:=by
    intro j hj;unfold aD at hj;obtain⟨e,he,rfl⟩:=List.mem_map.1 hj;rw[Kb]at he;rw[←JO,J6]at hed;have:=hed e he.1;simpa[he.2]using this
   have hset:∀j,(listed.setIfInBounds i true).getD j false=(j==i||listed.getD j false):=fun j=>by
    rw[JH,JH];by_cases e:j=i
    ·subst e;rw[JJ (by omega)];simp
    ·rw[JL (Kx e)];simp[e]
   have hnextcl:∀(q:Nat) (o:Oper),ops.toList[q]? = some o→(listed.setIfInBounds i true).getD q false=true→∀j∈aD o,(listed.setIfInBounds i true).getD j false=true:=by
    intro q o hqo hql j hj;rw[hset]at hql ⊢;simp only[JU,beq_iff_eq]at hql ⊢;rcases hql with rfl|hql
    ·rw[hoL]at hqo;cases hqo;exact .inr (hedge j hj)
    ·exact .inr (hcl q o hqo hql j hj)
   have hnextc:((listed.setIfInBounds i true).toList.filter (! ·)).length=fuel:=by
    have:=gB listed.toList i (by rw[JK];exact hun');rw[JQ];omega
   obtain⟨e1,e2⟩:=hext (fun j=>(listed.setIfInBounds i true).getD j false) (fun j=>j==i||listed.getD j false) (fun j _=>hset j);have hst:=step (fun j=>listed.getD j false) i ops[i] hoL hunf hcl hedge hI M bm tk a w hl h;unfold wpOp;rw[ho];simp only;split at hst
   ·rename_i hw;rw[if_pos hw];refine .inl (Oper.wp_mono2 (fun a' w' hL=>?_) (fun e a' w' hL=>?_) hst)
    ·obtain⟨M',bm',tk',ρ',σ',⟨k0,rfl,kI⟩,k2,k3⟩:=hL;refine ih _ M' bm' tk' a' w' (hl.trans k3 (fun _ h=>h)) ?_ (hIext _ _ (fun j _=>(hset j).symm) kI) (by simp[hsz]) hnextcl hnextc;rw[e2];exact k2.congr fun t=>(e1 t).trans (k0 t).symm
    ·exact bw.trans hl hL
   ·rename_i hw;rw[if_neg hw];refine ih _ M bm tk _ w hl ?_ (hIext _ _ (fun j _=>(hset j).symm) hst.2) (by simp[hsz]) hnextcl hnextc;rw[e2];exact hst.1.congr e1
end
def xL(pre:List O)(d:Option Nat)(f:FuncId)(args:List X)(post:List O)(kk:Nat)(y z:X):List O:=pre++⟨d,.call f args,none⟩::(post++[⟨none,.sto kk y z,none⟩])
section
variable {pre post : List O} {d : Option Nat} {f : FuncId} {args : List X} {kk : Nat} {y z : X}
end
section
variable {C : Cx} {pr : Prot} {ρ : ai} {σ : List (List V)} {n : Nat} {Q : AEx → ai → List (List V) → Prop}
theorem yc{M:ax}{bm:List Nat}{tk:bq}{a:Act}{w:World}{ops:Array Oper}{o:O}{o':Oper}{x:V}(hG:C.glob M pr w)(h:SRel M bm tk pr ρ σ n a w)(hoo:okO C.tab n ops o o'=true)(hL:Loc C o ρ σ x):
 if Region.wanted o' (yielded ops a.tmps)then o'.wp C.P a w (fV M bm pr w n fun ρ' σ'=>ρ'=putd ρ o.dst x∧σ'=σ) (bw M bm pr w n Q)else SRel M bm tk pr (putd ρ o.dst x) σ n (a.put o'.dst undef) w:=by
 have hdst:o.dst=o'.dst:=by
  have:=hoo;unfold okO at this;simp only[JR,beq_iff_eq]at this;exact this.1.1.2
 have hdn:∀d,o'.dst=some d→d<n:=by
  have:=hoo;unfold okO at this;simp only[JR]at this;intro d hd;have:=this.1.2;rw[hd]at this;simpa using this
 have hgd:=hoo;unfold okO at hgd;simp only[JR]at hgd;replace hgd:=hgd.2
 have exec:aP C o.op ρ σ (fun v=>v=x)→o'.wp C.P a w (fV M bm pr w n fun ρ' σ'=>ρ'=putd ρ o.dst x∧σ'=σ) (bw M bm pr w n Q):=fun hc=>
  Oper.wp_mono2 (fun _ _ hh=>hh) (fun e a' w' ⟨_,_,_,_,_,_,hf,_⟩=>hf.elim) (bQ (Q:=fun _ _ _=>False) hG h hoo (iO hc))
 unfold Loc at hL;split at hL
 ·rename_i hg;rw[hg]at hgd;split at hgd
  ·rename_i hg2;rw[if_pos (by simp[Region.wanted,hg2])];exact exec hL
  ·rename_i e _;cases e
  ·cases hgd
 ·rename_i t want hg;rw[hg]at hgd;split at hgd
  ·rename_i e _;cases e
  ·rename_i t' b' j b'' e hg2;cases e;simp only[JR,beq_iff_eq]at hgd;obtain⟨rfl,hj⟩:=hgd;split at hL
   ·rename_i b hb;have hy:=d9 h hb hj;by_cases hbw:b=want
    ·rw[if_pos (by simp[Region.wanted,hg2,hy,hbw])];exact exec (hL.1 hbw)
    ·rw[if_neg (by simp[Region.wanted,hg2,hy,hbw])];rw[hL.2 hbw,hdst];exact h.putd hdn fi (by simp)
   ·rename_i hb;have hy:=gE h hb hj;rw[if_neg (by simp[Region.wanted,hg2,hy])];rw[hL,hdst];exact h.putd hdn fi (by simp)
   ·exact hL.elim
  ·cases hgd
end
end Go.Proofs.YthoebpnbhgmoiaaGreatDoor
namespace Go.Proofs.YthoebpnbhgmoiaaGreatDoor
open Go.RowKit
inductive GK where
 | free (lo:Nat)
 | calm (lo hi:Nat)
 | slot (lo:Nat)
 | act
def GK.isAct:GK→Bool
 | .act=>true
 | _=>false
def OP.w1:OP→Option Nat
 | .mvo t=>some t
 | .app _ _ _ t _=>some t
 | .stoo _ t=>some t
 | _=>none
def OP.slotsG:OP→List Nat
 | .mvo t=>[t]
 | .app _ _ _ t y=>t::y.slots
 | .mkso _ _ xs=>xs.flatMap X.slots
 | .mkc _ _ _ x=>x.slots
 | .mkb _ _ _ x=>x.slots
 | .box _ x=>x.slots
 | .sto _ x y=>x.slots++y.slots
 | .stoo x t=>t::x.slots
 | .ldo x=>x.slots
 | .cpy x y=>x.slots++y.slots
 | .appv _ _ _ t y=>t::y.slots
 | .mst _ x y z=>x.slots++(y.slots++z.slots)
 | op=>op.slots
def O.looksG(o:O):List Nat:=o.op.slotsG++(match o.g with|some (t,_)=>[t]|none=>[])
def OP.isFree:OP→Bool
 | .load _ _ _ | .cbs _ | .mlk _ _ _ _ _ | .mln _ | .call _ _ | .callv _ _ | .calln _ _=>false
 | .mks _ _ _=>true
 | op=>ba op
def OP.isCalm:OP→Bool
 | .call _ _ | .callv _ _ | .calln _ _ | .mks _ _ _=>true
 | op=>ba op
def OP.isSlot:OP→Bool
 | .mvo _ | .nilo _ _ | .app _ _ _ _ _ | .mkso _ _ _ | .mkc _ _ _ _=>true
 | _=>false
def OP.isActG:OP→Option Nat→Bool
 | .sto _ _ _,d=>d.isNone
 | .stoo _ _,d=>d.isNone
 | .mst _ _ _ _,d=>d.isNone
 | .new _ _,_ | .box _ _,_ | .ldo _,_ | .mkb _ _ _ _,_ | .cpy _ _,_ | .call _ _,_ | .callv _ _,_=>true
 | _,_=>false
section
variable {C : Cx} {pr : Prot} {ρ : ai} {σ : List (List V)} {n : Nat} {Q : AEx → ai → List (List V) → Prop}
theorem sL{o:O}(h:o.op.isCalm=true):o.looks=o.looksG:=by
 unfold O.looks O.looksG
 have:o.op.slots=o.op.slotsG:=by
  cases ho:o.op<;>rw[ho]at h<;>first|rfl|(simp[OP.isCalm,ba]at h)
 rw[this]<;>(cases o.g<;>rfl)
theorem Bf{op:OP}(h:op.isFree=true)(σ σ2:List (List V)):pv C op ρ σ=pv C op ρ σ2:=by
 cases op<;>first|rfl|(simp[OP.isFree,ba]at h)
theorem nr{op:OP}(h:op.isFree=true){k:V→Prop}(σ2:List (List V))(hc:aP C op ρ σ k):aP C op ρ σ2 k:=by
 unfold aP at hc;split at hc
 ·cases h
 ·cases h
 ·exact hc
 ·cases h
 ·rename_i n1 n2 n3 n4;rw[Bf h σ σ2]at hc;unfold aP;split
  ·exact absurd rfl (n1 _ _)
  ·exact absurd rfl (n2 _ _)
  ·exact absurd rfl (n3 _ _ _)
  ·exact absurd rfl (n4 _ _)
  ·exact hc
theorem Loc.free{o:O}(h:o.op.isFree=true){x:V}(σ2:List (List V))(hc:Loc C o ρ σ x):Loc C o ρ σ2 x:=by
 unfold Loc at hc ⊢;split at hc
 ·exact nr h σ2 hc
 ·split at hc
  ·exact⟨fun e=>nr h σ2 (hc.1 e),hc.2⟩
  ·exact hc
  ·exact hc.elim
def lN(C:Cx)(op:OP)(ρ:ai)(σ:List (List V))(a b:V)(σ':List (List V)):Prop:=match op with
 | .mvo t=>∃T k rows,get ρ t=.own T k rows∧a=.d (.sl rows)∧b=.own T k rows∧σ'=σ
 | .nilo T k=>b=.own T k []∧σ'=σ
 | .app T k bytes t y=>∃rows rows2,get ρ t=.own T k rows∧dp (ev C ρ y)=some rows2∧(rows2.all (fun r=>r.length==k)=true∧(rows.length+rows2.length)*bytes≤140737488355328)∧a=.d (.sl rows)∧b=.own T k (rows++rows2)∧σ'=σ
 | .mkso T k xs=>∃rows,aC (xs.map (ev C ρ))=some rows∧rows.all (fun r=>r.length==k)=true∧b=.own T k rows∧σ'=σ
 | .mkc T k bytes x=>∃kd n,ev C ρ x=.d (.lit (.int kd n))∧(0≤n∧n*bytes≤140737488355328)∧b=.own T k []∧σ'=σ
 | .new _ cs=>b=.ptr σ.length 0∧σ'=σ++[cs]
 | .box _ x=>(ev C ρ x).boxable=true∧b=.ptr σ.length 0∧σ'=σ++[(ev C ρ x).cells]
 | .mkb _ bytes z x=>∃kd n,ev C ρ x=.d (.lit (.int kd n))∧(0≤n∧n*bytes≤140737488355328)∧b=.bsl σ.length 0 n.toNat 1∧σ'=σ++[List.replicate n.toNat z]
 | .sto k x y=>∃i o cs,ev C ρ x=.ptr i o∧σ[i]? = some cs∧((ev C ρ y).boxable=true∧(ev C ρ y).cells.length=k∧o+k≤cs.length∧bV cs=true)∧σ'=σ.set i (over cs o (ev C ρ y).cells)
 | .stoo x t=>∃i o T k rows cs,ev C ρ x=.ptr i o∧get ρ t=.own T k rows∧σ[i]? = some cs∧(o<cs.length∧bV cs=true)∧a=.d (.sl rows)∧σ'=σ.set i (over cs o [.own T k rows])
 | .ldo x=>∃i o cs T k rows,ev C ρ x=.ptr i o∧σ[i]? = some cs∧cs[o]? = some (.own T k rows)∧b=.own T k rows∧σ'=σ.set i (cs.set o (.d (.sl rows)))
 | .cpy x y=>∃i off n cs src,asB (ev C ρ x)=some (i,off,n)∧σ[i]? = some cs∧jx σ (ev C ρ y)=some src∧(off+n≤cs.length∧bV cs=true)∧b=aL .i64 (min n src.length:Nat)∧σ'=σ.set i (over cs off (src.take (min n src.length)))
 | .mst st x k v=>∃kv key,eo st σ (ev C ρ x)=some kv∧gJ st (ev C ρ k)=some key∧σ'=jl σ st (iz key (ev C ρ v).copy kv) (ev C ρ x)
 | .call f args=>Fun C f (args.map fun x=>(ev C ρ x).lend) σ (fun o σ''=>o=.ret b∧σ''=σ')
 | .callv x args=>∃f cap,ev C ρ x=.fn f cap∧Fun C f ((args.map fun x=>(ev C ρ x).lend)++cap) σ (fun o σ''=>o=.ret b∧σ''=σ')
 | _=>False
def ap(o:O)(w:V×V)(ρ:ai):ai:=putd (putd ρ o.op.w1 w.1) o.dst w.2
theorem mz(o:O)(w:V×V)(ρ:ai)(t:Nat):get (ap o w ρ) t=if o.dst=some t then w.2 else if o.op.w1=some t then w.1 else get ρ t:=by
 unfold ap;rw[bP,bP]
theorem zH{o:O}{a b:V}{σ':List (List V)}(hc:o.op.isSlot=true∨o.op.isActG o.dst=true)(h:lN C o.op ρ σ a b σ'):cQ C o.op o.dst ρ σ (fun ρ' σ''=>ρ'=ap o (a,b) ρ∧σ''=σ') Q:=by
 obtain⟨d,op,g⟩:=o;unfold ap;cases op<;>simp only[lN]at h<;>simp only[cQ,OP.w1,putd]<;>first|exact h.elim|skip
 case mvo t=>obtain⟨T,k,rows,h1,rfl,rfl,rfl⟩:=h;rw[h1];first|exact⟨rfl,rfl⟩|exact⟨trivial,trivial⟩
 case nilo=>obtain⟨rfl,rfl⟩:=h;first|exact⟨rfl,rfl⟩|exact⟨trivial,trivial⟩
 case app=>obtain⟨rows,rows2,h1,h2,h3,rfl,rfl,rfl⟩:=h;rw[h1,h2];exact⟨⟨rfl,rfl,h3⟩,rfl,rfl⟩
 case mkso=>obtain⟨rows,h1,h2,rfl,rfl⟩:=h;rw[h1];exact⟨h2,rfl,rfl⟩
 case mkc=>obtain⟨kd,m,h1,h2,rfl,rfl⟩:=h;rw[h1];exact⟨h2,rfl,rfl⟩
 case new=>obtain⟨rfl,rfl⟩:=h;first|exact⟨rfl,rfl⟩|exact⟨trivial,trivial⟩
 case box=>obtain⟨h1,rfl,rfl⟩:=h;first|exact⟨h1,rfl,rfl⟩|exact⟨h1,trivial,trivial⟩
 case mkb=>obtain⟨kd,m,h1,h2,rfl,rfl⟩:=h;rw[h1];exact⟨h2,rfl,rfl⟩
 case sto=>
  have hd:d=none:=by simpa[OP.isSlot,OP.isActG]using hc
  subst hd;obtain⟨i,o,cs,h1,h2,h3,rfl⟩:=h;rw[h1];simp only[h2];first|exact⟨h3,rfl,rfl⟩|exact⟨h3,trivial,trivial⟩
 case stoo=>
  have hd:d=none:=by simpa[OP.isSlot,OP.isActG]using hc
  subst hd;obtain⟨i,o,T,k,rows,cs,h1,h2,h3,h4,rfl,rfl⟩:=h;rw[h1,h2];simp only[h3];first|exact⟨h4,rfl,rfl⟩|exact⟨h4,trivial,trivial⟩
 case ldo=>obtain⟨i,o,cs,T,k,rows,h1,h2,h3,rfl,rfl⟩:=h;rw[h1];simp only[h2,h3];first|exact⟨rfl,rfl⟩|exact⟨trivial,trivial⟩
 case cpy=>obtain⟨i,off,n,cs,src,h1,h2,h3,h4,rfl,rfl⟩:=h;rw[h1];simp only[h2,h3];first|exact⟨h4,rfl,rfl⟩|exact⟨h4,trivial,trivial⟩
 case mst=>
  have hd:d=none:=by simpa[OP.isSlot,OP.isActG]using hc
  subst hd;obtain⟨kv,key,h1,h2,rfl⟩:=h;rw[h1];simp only[h2];first|exact⟨rfl,rfl⟩|exact⟨trivial,trivial⟩
 case call=>exact h.mono fun o σ'' ⟨e1,e2⟩=>by subst e1;exact⟨rfl,e2⟩
 case callv=>
  obtain⟨f,cap,h1,h2⟩:=h;rw[h1];exact h2.mono fun o σ'' ⟨e1,e2⟩=>by subst e1;exact⟨rfl,e2⟩
theorem ju{o:O}(hc:o.op.isSlot=true∨(o.op.isActG o.dst=true∧(∀f args,o.op≠.call f args)∧∀x args,o.op≠.callv x args)){K:ai→List (List V)→Prop}(h:cQ C o.op o.dst ρ σ K Q):∃a b σ',lN C o.op ρ σ a b σ'∧K (ap o (a,b) ρ) σ'∧(o.op.isSlot=true→σ'=σ):=by
 obtain⟨d,op,g⟩:=o;unfold ap;cases op<;>first|(exfalso;simp[OP.isSlot,OP.isActG]at hc;done)|skip
 all_goals simp only[cQ]at h
 case mvo t=>
  split at h
  ·rename_i T k rows e;exact⟨_,_,σ,⟨T,k,rows,e,rfl,rfl,rfl⟩,h,fun _=>rfl⟩
  ·exact h.elim
 case nilo T k=>exact⟨.junk,_,σ,⟨rfl,rfl⟩,h,fun _=>rfl⟩
 case app T k bytes t y=>
  split at h
  ·rename_i T' k' rows rows2 e1 e2;obtain⟨⟨rfl,rfl,h1⟩,h2⟩:=h;exact⟨_,_,σ,⟨rows,rows2,e1,e2,h1,rfl,rfl,rfl⟩,h2,fun _=>rfl⟩
  ·exact h.elim
 case mkso=>
  split at h
  ·rename_i rows e;exact⟨.junk,_,σ,⟨rows,e,h.1,rfl,rfl⟩,h.2,fun _=>rfl⟩
  ·exact h.elim
 case mkc=>
  split at h
  ·rename_i kd m e;exact⟨.junk,_,σ,⟨kd,m,e,h.1,rfl,rfl⟩,h.2,fun _=>rfl⟩
  ·exact h.elim
 case new=>exact⟨.junk,_,_,⟨rfl,rfl⟩,h,fun e=>by cases e⟩
 case box=>exact⟨.junk,_,_,⟨h.1,rfl,rfl⟩,h.2,fun e=>by cases e⟩
 case mkb=>
  split at h
  ·rename_i kd m e;exact⟨.junk,_,_,⟨kd,m,e,h.1,rfl,rfl⟩,h.2,fun e=>by cases e⟩
  ·exact h.elim
 case sto=>
  have hd:d=none:=by simpa[OP.isSlot,OP.isActG]using hc
  subst hd;split at h
  ·rename_i i o e;split at h
   ·rename_i cs e2;exact⟨.junk,.junk,_,⟨i,o,cs,e,e2,h.1,rfl⟩,h.2,fun e=>by cases e⟩
   ·exact h.elim
  ·exact h.elim
 case stoo=>
  have hd:d=none:=by simpa[OP.isSlot,OP.isActG]using hc
  subst hd;split at h
  ·rename_i i o T k rows e e1;split at h
   ·rename_i cs e2;exact⟨_,.junk,_,⟨i,o,T,k,rows,cs,e,e1,e2,h.1,rfl,rfl⟩,h.2,fun e=>by cases e⟩
   ·exact h.elim
  ·exact h.elim
 case ldo=>
  split at h
  ·rename_i i o e;split at h
   ·rename_i cs e2;split at h
    ·rename_i T k rows e3;exact⟨.junk,_,_,⟨i,o,cs,T,k,rows,e,e2,e3,rfl,rfl⟩,h,fun e=>by cases e⟩
    ·exact h.elim
   ·exact h.elim
  ·exact h.elim
 case cpy=>
  split at h
  ·rename_i i off n e;split at h
   ·rename_i cs src e2 e3;exact⟨.junk,_,_,⟨i,off,n,cs,src,e,e2,e3,h.1,rfl,rfl⟩,h.2,fun e=>by cases e⟩
   ·exact h.elim
  ·exact h.elim
 case mst=>
  have hd:d=none:=by simpa[OP.isSlot,OP.isActG]using hc
  subst hd;split at h
  ·rename_i kv key e1 e2;exact⟨.junk,.junk,_,⟨kv,key,e1,e2,rfl⟩,h,fun e=>by cases e⟩
  ·exact h.elim
theorem sg{op:OP}{ρ ρ':ai}{a b:V}{σ':List (List V)}(h:∀t∈op.slotsG,get ρ t=get ρ' t)(hr:lN C op ρ σ a b σ'):lN C op ρ' σ a b σ':=by
 have e1:∀(x:X),(∀t∈x.slots,t∈op.slotsG)→ev C ρ x=ev C ρ' x:=fun x hx=>bB fun t ht=>h t (hx t ht);cases op<;>simp only[lN]at hr ⊢ <;>simp only[OP.slotsG,OP.slots]at h e1<;>first|exact hr.elim|exact hr|skip
 case mvo t=>rw[←h t (by simp)];exact hr
 case app T k bytes t y=>rw[←h t (by simp),←e1 y (fun t ht=>by simp[ht])];exact hr
 case mkso=>rw[←gQ h];exact hr
 case mkc x=>rw[←e1 x (fun t ht=>ht)];exact hr
 case box x=>rw[←e1 x (fun t ht=>ht)];exact hr
 case mkb x=>rw[←e1 x (fun t ht=>ht)];exact hr
 case sto x y=>rw[←e1 x (fun t ht=>by simp[ht]),←e1 y (fun t ht=>by simp[ht])];exact hr
 case stoo x t=>rw[←h t (by simp),←e1 x (fun t ht=>by simp[ht])];exact hr
 case ldo x=>rw[←e1 x (fun t ht=>ht)];exact hr
 case mst st x y z=>rw[←e1 x (fun t ht=>by simp[ht]),←e1 y (fun t ht=>by simp[ht]),←e1 z (fun t ht=>by simp[ht])];exact hr
 case cpy x y=>rw[←e1 x (fun t ht=>by simp[ht]),←e1 y (fun t ht=>by simp[ht])];exact hr
 case call f args=>
  have:(args.map fun x=>(ev C ρ' x).lend)=args.map fun x=>(ev C ρ x).lend:=J8 fun x hx=>by rw[e1 x fun t ht=>List.mem_flatMap.2 ⟨x,hx,ht⟩]
  rw[this];exact hr
 case callv y args=>
  have:(args.map fun x=>(ev C ρ' x).lend)=args.map fun x=>(ev C ρ x).lend:=J8 fun x hx=>by rw[e1 x fun t ht=>Kl _ (List.mem_flatMap.2 ⟨x,hx,ht⟩)]
  rw[this,←e1 y (fun t ht=>by simp[ht])];exact hr
def wb(C:Cx)(op:OP)(ρ:ai)(σ:List (List V))(P:V→List (List V)→Prop):Prop:=match op with
 | .call f args=>Fun C f (args.map fun x=>(ev C ρ x).lend) σ (fun o σ'=>∃u,o=.panic u∧P u σ')
 | .callv x args=>∃f cap,ev C ρ x=.fn f cap∧Fun C f ((args.map fun x=>(ev C ρ x).lend)++cap) σ (fun o σ'=>∃u,o=.panic u∧P u σ')
 | _=>False
theorem zR{o:O}{P:V→List (List V)→Prop}(h:wb C o.op ρ σ P):cQ C o.op o.dst ρ σ (fun _ _=>False) (fun e _ σ'=>∃u,e=.panic u∧P u σ'):=by
 obtain⟨d,op,g⟩:=o;cases op;case call=>exact Fun.mono h fun o σ'' ⟨u,e1,e2⟩=>by subst e1;exact⟨u,rfl,e2⟩
 case callv=>
  obtain⟨f,cap,h1,h2⟩:=h;simp only[cQ];rw[h1];exact h2.mono fun o σ'' ⟨u,e1,e2⟩=>by subst e1;exact⟨u,rfl,e2⟩
 all_goals exact h.elim
theorem sw{op:OP}{ρ ρ':ai}{P:V→List (List V)→Prop}(h:∀t∈op.slotsG,get ρ t=get ρ' t)(hr:wb C op ρ σ P):wb C op ρ' σ P:=by
 have e1:∀(x:X),(∀t∈x.slots,t∈op.slotsG)→ev C ρ x=ev C ρ' x:=fun x hx=>bB fun t ht=>h t (hx t ht);cases op<;>simp only[wb]at hr ⊢ <;>simp only[OP.slotsG,OP.slots]at h e1<;>first|exact hr.elim|exact hr|skip
 case call f args=>
  have:(args.map fun x=>(ev C ρ' x).lend)=args.map fun x=>(ev C ρ x).lend:=J8 fun x hx=>by rw[e1 x fun t ht=>List.mem_flatMap.2 ⟨x,hx,ht⟩]
  rw[this];exact hr
 case callv y args=>
  have:(args.map fun x=>(ev C ρ' x).lend)=args.map fun x=>(ev C ρ x).lend:=J8 fun x hx=>by rw[e1 x fun t ht=>Kl _ (List.mem_flatMap.2 ⟨x,hx,ht⟩)]
  rw[this,←e1 y (fun t ht=>by simp[ht])];exact hr
structure PendG where
 o:O
 ρ:ai
 ρ':ai
 hi:Nat
def reG(C:Cx)(m:Nat)(σ':List (List V)):List PendG→Prop
 | []=>True
 | p::r=>(if m≤p.hi then bg C [p.o] p.ρ σ' (fun ρ'=>ρ'=p.ρ')else True)∧reG C m σ' r
def kC(C:Cx)(o:O)(ρ ρ':ai):Nat→List (List (List V))→Prop
 | 0,_=>True
 | _+1,[]=>False
 | k+1,σ::h=>bg C [o] ρ σ (fun ρ''=>ρ''=ρ')∧kC C o ρ ρ' k h
def qy(m hi:Nat)(x:PendG)(p:List PendG):List PendG:=if m<hi then x::p else p
def dU(C:Cx):List (O×GK)→Nat→List (List (List V))→ai→List (List V)→Prop
 | [],_,_,_,_=>True
 | (o,.free lo)::r,m,h,ρ,σ=>if lo≤m then bg C [o] ρ σ fun ρ'=>dU C r m h ρ' σ else dU C r m h (ap o (.junk,.junk) ρ) σ
 | (o,.calm lo _)::r,m,h,ρ,σ=>if lo≤m then bg C [o] ρ σ fun ρ'=>kC C o ρ ρ' (m-lo) h∧dU C r m h ρ' σ else dU C r m h (ap o (.junk,.junk) ρ) σ
 | (o,.slot lo)::r,m,h,ρ,σ=>if lo≤m then cl C [o] ρ σ (fun e ρ' _=>e=.normal∧dU C r m h ρ' σ)else dU C r m h (ap o (.junk,.junk) ρ) σ
 | (o,.act)::r,m,h,ρ,σ=>dU C r m h (ap o (.junk,.junk) ρ) σ
def dR(C:Cx)(P:V→List (List V)→Prop)(K:ai→List (List V)→Prop):List (O×GK)→Nat→List (List (List V))→List PendG→ai→List (List V)→Prop
 | [],_,_,_,ρ,σ=>K ρ σ
 | (o,.free _)::r,m,h,p,ρ,σ=>bg C [o] ρ σ fun ρ'=>dR C P K r m h p ρ' σ
 | (o,.calm lo hi)::r,m,h,p,ρ,σ=>bg C [o] ρ σ fun ρ'=>kC C o ρ ρ' (m-lo) h∧dR C P K r m h (qy m hi ⟨o,ρ,ρ',hi⟩ p) ρ' σ
 | (o,.slot _)::r,m,h,p,ρ,σ=>cl C [o] ρ σ fun e ρ' σ'=>e=.normal∧dR C P K r m h p ρ' σ'
 | (⟨d,.call f args,g⟩,.act)::r,m,h,p,ρ,σ=>
  (∃v σ1,Fun C f (args.map fun x=>(ev C ρ x).lend) σ (fun o σ'=>o=.ret v∧σ'=σ1)∧reG C (m+1) σ1 p∧dR C P K r (m+1) (σ::h) p (putd ρ d v) σ1)∨
  (Fun C f (args.map fun x=>(ev C ρ x).lend) σ (fun o σ'=>∃u,o=.panic u∧P u σ')∧dU C r m h (putd ρ d .junk) σ)
 | (⟨d,.callv x args,g⟩,.act)::r,m,h,p,ρ,σ=>∃f cap,ev C ρ x=.fn f cap∧
  ((∃v σ1,Fun C f ((args.map fun x=>(ev C ρ x).lend)++cap) σ (fun o σ'=>o=.ret v∧σ'=σ1)∧reG C (m+1) σ1 p∧dR C P K r (m+1) (σ::h) p (putd ρ d v) σ1)∨
  (Fun C f ((args.map fun x=>(ev C ρ x).lend)++cap) σ (fun o σ'=>∃u,o=.panic u∧P u σ')∧dU C r m h (putd ρ d .junk) σ))
 | (o,.act)::r,m,h,p,ρ,σ=>cl C [o] ρ σ fun e ρ' σ'=>e=.normal∧reG C (m+1) σ' p∧dR C P K r (m+1) (σ::h) p ρ' σ'
def cK:List (O×GK)→(Nat→V×V)→Nat→(Nat→Bool)→ai→ai
 | [],_,_,_,ρ=>ρ
 | e::l,W,k,S,ρ=>cK l W (k+1) S (if S k then ap e.1 (W k) ρ else ρ)
theorem kJ:∀(l:List (O×GK)) (W:Nat→V×V) (k:Nat) (S:Nat→Bool) (ρ ρ':ai) (t:Nat),get ρ t=get ρ' t→get (cK l W k S ρ) t=get (cK l W k S ρ') t
 | [],_,_,_,_,_,_,h=>h
 | e::l,W,k,S,ρ,ρ',t,h=>by
  simp only[cK];apply kJ l;cases S k
  ·exact h
  ·simp only[if_true,mz,h]
def O.writes(o:O)(t:Nat):Prop:=o.dst=some t∨o.op.w1=some t
theorem fQ:∀(l:List (O×GK)) (W:Nat→V×V) (k:Nat) (S S':Nat→Bool) (ρ:ai) (t:Nat),(∀i e,l[i]? = some e→e.1.writes t→S (k+i)=S' (k+i))→get (cK l W k S ρ) t=get (cK l W k S' ρ) t
 | [],_,_,_,_,_,_,_=>rfl
 | e::l,W,k,S,S',ρ,t,h=>by
  simp only[cK];rw[fQ l W (k+1) S S' _ t fun i e' he hw=>by have:=h (i+1) e' (by simpa using he) hw;rwa[show k+(i+1)=k+1+i by omega]at this];apply kJ;have h0:=h 0 e (by simp);by_cases hw:e.1.writes t
  ·rw[show S k=S' k from h0 hw]
  ·unfold O.writes at hw;have h1:¬e.1.dst=some t:=fun h=>hw (.inl h);have h2:¬e.1.op.w1=some t:=fun h=>hw (.inr h);cases S k<;>cases S' k<;>simp[mz,h1,h2]
theorem tK:∀(l:List (O×GK)) (W W':Nat→V×V) (k:Nat) (S:Nat→Bool) (ρ:ai),(∀i,k≤i→W i=W' i)→cK l W k S ρ=cK l W' k S ρ
 | [],_,_,_,_,_,_=>rfl
 | e::l,W,W',k,S,ρ,h=>by
  simp only[cK];rw[h k (Ks _),tK l W W' (k+1) S _ fun i hi=>h i (by omega)]
theorem iw:∀(l:List (O×GK)) (W:Nat→V×V) (k:Nat) (S:Nat→Bool) (ρ:ai),(∀j,k≤j→S j=false)→cK l W k S ρ=ρ
 | [],_,_,_,_,_=>rfl
 | e::l,W,k,S,ρ,h=>by
  simp only[cK];rw[h k (Ks _),iw l W (k+1) S _ fun j hj=>h j (by omega)];rfl
theorem lk:∀(l:List (O×GK)) (W:Nat→V×V) (k:Nat) (ρ:ai) (i:Nat) (e:O×GK),l[i]? = some e→cK l W k (fun j=>decide (j<k+i+1)) ρ=ap e.1 (W (k+i)) (cK l W k (fun j=>decide (j<k+i)) ρ)
 | [],_,_,_,_,_,h=>by simp at h
 | e'::l,W,k,ρ,0,e,h=>by
  simp at h;subst h;simp only[cK];rw[iw _ _ _ _ _ (fun j hj=>by simp;omega),iw _ _ _ _ _ (fun j hj=>by simp;omega)];simp
 | e'::l,W,k,ρ,i+1,e,h=>by
  simp only[cK];have:=lk l W (k+1) ρ i e (by simpa using h);rw[if_pos (by simp;omega),if_pos (by simp)];have e1:k+(i+1)=k+1+i:=by omega
  rw[e1];exact lk l W (k+1) _ i e (by simpa using h)
theorem vJ{l:List (O×GK)}(W:Nat→V×V)(ρ:ai){S:Nat→Bool}{i:Nat}{e:O×GK}(he:l[i]? = some e)(hSi:S i=false)
 (hsame:∀t,(t∈e.1.looksG∨e.1.writes t)→∀(j:Nat) (q:O×GK),l[j]? = some q→j≠i→q.1.writes t→S j=decide (j<i)):
 (∀t∈e.1.looksG,get (cK l W 0 (fun j=>decide (j<i)) ρ) t=get (cK l W 0 S ρ) t)∧
 ∀t,get (cK l W 0 (fun j=>j==i||S j) ρ) t=get (ap e.1 (W i) (cK l W 0 S ρ)) t:=by
 refine⟨fun t ht=>?_,fun t=>?_⟩
 ·refine fQ l W 0 _ _ ρ t fun j q hq hw=>?_;rw[Kr];by_cases e:j=i
  ·subst e;rw[hSi];simp
  ·exact(hsame t (.inl ht) j q hq e hw).symm
 ·by_cases hw:e.1.writes t
  ·have h1:=lk l W 0 ρ i e he;rw[Kr]at h1
   have h2:get (cK l W 0 (fun j=>j==i||S j) ρ) t=get (cK l W 0 (fun j=>decide (j<i+1)) ρ) t:=fQ l W 0 _ _ ρ t fun j q hq hw'=>by
    rw[Kr];by_cases e:j=i
    ·subst e;simp
    ·simp only[hsame t (.inr hw) j q hq e hw'];have:(j==i)=false:=by simp[e]
     rw[this,JT,decide_eq_decide];omega
   rw[h2,h1,mz,mz];unfold O.writes at hw;split
   ·rfl
   ·rename_i h3;rw[if_pos (hw.resolve_left h3),if_pos (hw.resolve_left h3)]
  ·have h1:¬e.1.dst=some t:=fun h=>hw (.inl h);have h2:¬e.1.op.w1=some t:=fun h=>hw (.inr h);rw[mz,if_neg h1,if_neg h2];refine fQ l W 0 _ _ ρ t fun j q hq hw'=>?_;rw[Kr]
   have:(j==i)=false:=by
    rw[beq_eq_false_iff_ne];intro ee;subst ee;rw[he]at hq;cases hq;exact hw hw'
   simp[this]
def nA:List (O×GK)→Nat→(Nat→Bool)→Nat
 | [],_,_=>0
 | e::l,k,S=>(if(e.2.isAct&&S k)=true then 1 else 0)+nA l (k+1) S
def nb:List (O×GK)→Nat→Nat
 | _,0=>0
 | [],_+1=>0
 | e::l,i+1=>(if e.2.isAct=true then 1 else 0)+nb l i
theorem kH:∀(l:List (O×GK)) (k:Nat) (S S':Nat→Bool),(∀j,j<l.length→S (k+j)=S' (k+j))→nA l k S=nA l k S'
 | [],_,_,_,_=>rfl
 | e::l,k,S,S',h=>by
  simp only[nA];rw[show S k=S' k from h 0 (by simp),kH l (k+1) S S' fun j hj=>by have:=h (j+1) (by simpa using hj);rwa[show k+(j+1)=k+1+j by omega]at this]
theorem tF:∀(l:List (O×GK)) (k:Nat),nA l k (fun _=>true)=nb l l.length
 | [],_=>rfl
 | e::l,k=>by simp only[nA,Kg,nb,J1];rw[tF l (k+1)]
theorem pN:∀(l:List (O×GK)) (k:Nat),nA l k (fun _=>false)=0
 | [],_=>rfl
 | e::l,k=>by simp only[nA,JY];rw[pN l (k+1)];rfl
theorem CD:∀(l:List (O×GK)) (k:Nat) (S:Nat→Bool) (c lo:Nat),(∀j e,l[j]? = some e→e.2.isAct=true→c+nb l j<lo→S (k+j)=true)→min lo (c+nb l l.length)≤c+nA l k S
 | [],k,S,c,lo,h=>by simp only[nA,Kq,nb];omega
 | e::l,k,S,c,lo,h=>by
  simp only[nA,Kg,nb]
  have ih:=fun c' (hc':∀j,c'+nb l j<lo→c+((if e.2.isAct=true then 1 else 0)+nb l j)<lo)=>CD l (k+1) S c' lo (fun j e' he ha hn=>by
   have:=h (j+1) e' (by simpa using he) ha (by simp only[nb];exact hc' j hn);rwa[show k+(j+1)=k+1+j by omega]at this)
  cases ha:e.2.isAct with
  | false=>
   have:=ih c (fun j hn=>by simp only[ha];simp;omega);simp only[J2];simp;omega
  | true=>
   have:=ih (c+1) (fun j hn=>by simp only[ha];simp;omega);by_cases hlt:c<lo
   ·have h0:=h 0 e (by simp) ha (by simp only[nb];omega);simp only[Kt]at h0;simp only[h0,Bool.and_self];simp;omega
   ·omega
theorem Cw:∀(l:List (O×GK)) (k:Nat) (S:Nat→Bool) (c hi:Nat),(∀j e,l[j]? = some e→e.2.isAct=true→hi≤c+nb l j→S (k+j)=false)→c+nA l k S≤max c hi
 | [],k,S,c,hi,h=>by simp only[nA];omega
 | e::l,k,S,c,hi,h=>by
  simp only[nA]
  have ih:=fun c' (hc':∀j,hi≤c'+nb l j→hi≤c+((if e.2.isAct=true then 1 else 0)+nb l j))=>Cw l (k+1) S c' hi (fun j e' he ha hn=>by
   have:=h (j+1) e' (by simpa using he) ha (by simp only[nb];exact hc' j hn);rwa[show k+(j+1)=k+1+j by omega]at this)
  cases ha:e.2.isAct with
  | false=>
   have:=ih c (fun j hn=>by simp only[ha];simp;omega);simp only[J2];simp;omega
  | true=>
   have:=ih (c+1) (fun j hn=>by simp only[ha];simp;omega);by_cases hlt:c<hi
   ·split<;>omega
   ·have h0:=h 0 e (by simp) ha (by simp only[nb];omega);simp only[Kt]at h0;simp only[h0,JY];simp;omega
theorem zZ:∀(l:List (O×GK)) (k:Nat) (S:Nat→Bool) (i:Nat) (e:O×GK),l[i]? = some e→S (k+i)=false→nA l k (fun j=>j==k+i||S j)=nA l k S+if e.2.isAct=true then 1 else 0
 | [],_,_,_,_,h,_=>by simp at h
 | e'::l,k,S,0,e,h,hS=>by
  simp at h;subst h;simp only[Kt]at hS ⊢;simp only[nA,hS,JY,beq_self_eq_true,JW,J1]
  rw[kH l (k+1) (fun j=>j==k||S j) S fun j hj=>by
   have:(k+1+j==k)=false:=by simp;omega
   simp[this]]
  simp;omega
 | e'::l,k,S,i+1,e,h,hS=>by
  simp only[nA];have e1:k+(i+1)=k+1+i:=by omega
  rw[e1]at hS ⊢;rw[zZ l (k+1) S i e (by simpa using h) hS];have:(k==k+1+i)=false:=by simp;omega
  simp only[this,JT];omega
def jG(C:Cx)(P:V→List (List V)→Prop)(e:O×GK)(k z:Nat)(sq:Nat→List (List V))(ρi:ai)(w:V×V):Prop:=match e.2 with
 | .free lo=>lo≤z→∀σ,Loc C e.1 ρi σ w.2
 | .calm lo hi=>lo≤z→∀q,lo≤q→q≤hi→q≤z→Loc C e.1 ρi (sq q) w.2
 | .slot lo=>lo≤z→∀σ,lN C e.1.op ρi σ w.1 w.2 σ
 | .act=>(k<z→lN C e.1.op ρi (sq k) w.1 w.2 (sq (k+1)))∧(k=z→wb C e.1.op ρi (sq z) P)
def im(e:O×GK)(k:Nat):Bool:=match e.2 with
 | .free lo=>e.1.op.isFree&&e.1.op.isCalm&&decide (lo≤k)
 | .calm lo hi=>e.1.op.isCalm&&e.1.dst.isSome&&decide (lo≤k)&&decide (k≤hi)
 | .slot lo=>e.1.op.isSlot&&e.1.g.isNone&&decide (lo≤k)
 | .act=>e.1.op.isActG e.1.dst&&e.1.g.isNone
theorem nO{o:O}{K:ai→Prop}(h:bg C [o] ρ σ K):∃x ρ',Loc C o ρ σ x∧K ρ'∧∀t,get ρ' t=get (putd ρ o.dst x) t:=by
 obtain⟨xs,hl,⟨ρ',h1,h2⟩,h3⟩:=mg (k:=0) h
 match xs,hl with
 | [x],_=>
  obtain⟨ρi,g1,g2⟩:=h3 0 (by simp) (by simp);refine⟨x,ρ',g1.congr fun t _=>?_,h1,fun t=>?_⟩
  ·rw[g2 t];simp[aE,aI]
  ·rw[h2 t];simp[aE,aI]
theorem mV{o:O}{ρ':ai}{x:V}{d:Nat}(hd:o.dst=some d)(hg:∀t,get ρ' t=get (putd ρ o.dst x) t)(h:bg C [o] ρ σ fun ρ''=>ρ''=ρ'):Loc C o ρ σ x:=by
 obtain⟨x2,ρ2,h1,rfl,h3⟩:=nO h;have h4:=h3 d;have h5:=hg d;rw[bP,if_pos hd]at h4 h5;rw[←h5,h4];exact h1
theorem uh{o:O}(h:o.op.isCalm=true):o.op.w1=none:=by
 cases ho:o.op<;>rw[ho]at h<;>first|rfl|(simp[OP.isCalm,ba]at h)
theorem ml{o:O}(h:o.op.isCalm=true)(a x:V)(ρ:ai):ap o (a,x) ρ=putd ρ o.dst x:=by
 unfold ap;rw[uh h];rfl
theorem nN{o:O}{ρ':ai}:∀{n:Nat} {h:List (List (List V))},kC C o ρ ρ' n h→∀r,r<n→∃σ,h[r]? = some σ∧bg C [o] ρ σ fun ρ''=>ρ''=ρ'
 | 0,_,_,r,hr=>by omega
 | n+1,[],hb,_,_=>hb.elim
 | n+1,σ::h,hb,0,_=>⟨σ,rfl,hb.1⟩
 | n+1,σ::h,hb,r+1,hr=>by
  obtain⟨σ',h1,h2⟩:=nN hb.2 r (by omega);exact⟨σ',by simpa using h1,h2⟩
theorem yH{m:Nat}{σ':List (List V)}:∀{p:List PendG},reG C m σ' p→∀q∈p,m≤q.hi→bg C [q.o] q.ρ σ' fun ρ'=>ρ'=q.ρ'
 | [],_,_,hq,_=>by simp at hq
 | x::p,h,q,hq,hm=>by
  rcases List.mem_cons.1 hq with rfl|hq
  ·have:=h.1;rwa[if_pos hm]at this
  ·exact yH h.2 q hq hm
theorem eK{P:V→List (List V)→Prop}{e:O×GK}{l:List (O×GK)}{k m m' z:Nat}{sq:Nat→List (List V)}{ρ ρ2:ai}{w:V×V}{W:Nat→V×V}(hm:m'=m+if e.2.isAct=true then 1 else 0)
 (h0:jG C P e m z sq ρ w)(hρ2:∀t,get ρ2 t=get (ap e.1 w ρ) t)
 (ht:∀i (hi:i<l.length),∃ρi,(∀t,get ρi t=get (cK l W (k+1) (fun j=>decide (j<k+1+i)) ρ2) t)∧jG C P l[i] (m'+nb l i) z sq ρi (W (k+1+i))):
 ∀i (hi:i<(e::l).length),∃ρi,(∀t,get ρi t=get (cK (e::l) (fun i=>if i=k then w else W i) k (fun j=>decide (j<k+i)) ρ) t)∧jG C P (e::l)[i] (m+nb (e::l) i) z sq ρi (if k+i=k then w else W (k+i)):=by
 intro i hi;cases i with
 | zero=>
  refine⟨ρ,fun t=>?_,?_⟩
  ·rw[iw _ _ _ _ _ fun j hj=>by simp;omega]
  ·simpa[nb]using h0
 | succ i=>
  obtain⟨ρi,g1,g2⟩:=ht i (by simpa using hi);refine⟨ρi,fun t=>?_,?_⟩
  ·rw[g1 t];simp only[cK,if_pos (show decide (k<k+(i+1))=true by simp),if_true];rw[tK l (fun i=>if i=k then w else W i) W (k+1) _ _ fun j hj=>if_neg (by omega),show k+(i+1)=k+1+i by omega];exact kJ _ _ _ _ _ _ _ (hρ2 t)
  ·simp only[Ko,nb];have hne:¬(k+(i+1)=k):=by omega
   simp only[if_neg hne];rw[show k+(i+1)=k+1+i by omega,←Kv,←hm];exact g2
theorem km{P:V→List (List V)→Prop}{m:Nat}{h:List (List (List V))}{sq:Nat→List (List V)}(hs:sq m=σ)(hh:∀r,r<m→h[r]? = some (sq (m-1-r))):∀(l:List (O×GK)) (k c:Nat) (ρ:ai),m<c→(∀i e,l[i]? = some e→im e (c+nb l i)=true)→dU C l m h ρ σ→
 ∃W:Nat→V×V,∀i (hi:i<l.length),∃ρi,(∀t,get ρi t=get (cK l W k (fun j=>decide (j<k+i)) ρ) t)∧jG C P l[i] (c+nb l i) m sq ρi (W (k+i))
 | [],_,_,_,_,_,_=>⟨fun _=>(.junk,.junk),fun i hi=>by simp at hi⟩
 | (o,g)::l,k,c,ρ,hmc,hok,hp=>by
  have hok0:=hok 0 _ rfl;simp only[nb,Kt]at hok0
  have hokt:∀c',c'=c+(if g.isAct=true then 1 else 0)→∀i e,l[i]? = some e→im e (c'+nb l i)=true:=fun c' hc' i e he=>by
   have:=hok (i+1) e (by simpa using he);simp only[nb]at this;rw[hc',Kv];exact this
  have skip:∀c',c'=c+(if g.isAct=true then 1 else 0)→jG C P (o,g) c m sq ρ (.junk,.junk)→dU C l m h (ap o (.junk,.junk) ρ) σ→∃W:Nat→V×V,∀i (hi:i<((o,g)::l).length),∃ρi,(∀t,get ρi t=get (cK ((o,g)::l) W k (fun j=>decide (j<k+i)) ρ) t)∧jG C P ((o,g)::l)[i] (c+nb ((o,g)::l) i) m sq ρi (W (k+i)):=fun c' hc' h0 hr=>by
   obtain⟨W,hW⟩:=km hs hh l (k+1) c' (ap o (.junk,.junk) ρ) (by omega) (hokt c' hc') hr;exact⟨_,eK hc' h0 (fun _=>rfl) hW⟩
  cases g with
  | free lo=>
   simp only[dU]at hp;simp only[im,JR]at hok0;split at hp
   ·obtain⟨x,ρ',h1,h2,h3⟩:=nO hp;obtain⟨W,hW⟩:=km hs hh l (k+1) c ρ' hmc (hokt c rfl) h2;exact⟨_,eK (e:=(o,.free lo)) (w:=(.junk,x)) rfl (fun _ σ2=>h1.free hok0.1.1 σ2) (fun t=>by rw[h3 t,ml hok0.1.2]) hW⟩
   ·exact skip c rfl (fun hz=>absurd hz (by assumption)) hp
  | calm lo hi=>
   simp only[dU]at hp;simp only[im,JR,decide_eq_true_eq]at hok0;split at hp
   ·rename_i hlo;obtain⟨x,ρ',h1,⟨h2,h4⟩,h3⟩:=nO hp;obtain⟨d,hd⟩:=Option.isSome_iff_exists.1 hok0.1.1.2;obtain⟨W,hW⟩:=km hs hh l (k+1) c ρ' hmc (hokt c rfl) h4;refine⟨_,eK (e:=(o,.calm lo hi)) (w:=(.junk,x)) rfl (fun _ q q1 q2 q3=>?_) (fun t=>by rw[h3 t,ml hok0.1.1.1]) hW⟩;by_cases e:q=m
    ·subst e;rw[hs];exact h1
    ·obtain⟨σ',g1,g2⟩:=nN h2 (m-1-q) (by omega);rw[hh _ (by omega),show m-1-(m-1-q)=q by omega]at g1;cases g1;exact mV hd h3 g2
   ·exact skip c rfl (fun hz=>absurd hz (by assumption)) hp
  | slot lo=>
   simp only[dU]at hp;simp only[im,JR,Kz]at hok0;split at hp
   ·simp only[cl,hok0.1.2]at hp;obtain⟨a,b,σ',h1,⟨-,h2⟩,h3⟩:=ju (.inl hok0.1.1) hp;have hσ:=h3 hok0.1.1;rw[hσ]at h1;obtain⟨W,hW⟩:=km hs hh l (k+1) c _ hmc (hokt c rfl) h2;refine⟨_,eK (e:=(o,.slot lo)) (w:=(a,b)) rfl (fun _ σ2=>?_) (fun t=>rfl) hW⟩;cases ho:o.op<;>rw[ho]at h1 hok0<;>first|(simp[OP.isSlot]at hok0;done)|skip
    all_goals (simp only[lN]at h1 ⊢;simpa using h1)
   ·exact skip c rfl (fun hz=>absurd hz (by assumption)) hp
  | act=>
   simp only[dU]at hp;exact skip (c+1) rfl ⟨fun hz=>by omega,fun hz=>by omega⟩ hp
def ExG(C:Cx)(P:V→List (List V)→Prop)(K:ai→List (List V)→Prop)(l:List (O×GK))(k m:Nat)(p:List PendG)(ρ:ai)(sq0:Nat→List (List V)):Prop:=
 ∃(W:Nat→V×V) (sq:Nat→List (List V)) (z:Nat),(∀q,q≤m→sq q=sq0 q)∧m≤z∧z≤m+nb l l.length∧
  (∀q∈p,∀r,m<r→r≤z→r≤q.hi→bg C [q.o] q.ρ (sq r) fun ρ'=>ρ'=q.ρ')∧
  (∀i (hi:i<l.length),∃ρi,(∀t,get ρi t=get (cK l W k (fun j=>decide (j<k+i)) ρ) t)∧jG C P l[i] (m+nb l i) z sq ρi (W (k+i)))∧
  (z=m+nb l l.length→∃ρf,K ρf (sq z)∧∀t,get ρf t=get (cK l W k (fun _=>true) ρ) t)
theorem qb{P:V→List (List V)→Prop}{K:ai→List (List V)→Prop}:∀(l:List (O×GK)) (k m:Nat) (h:List (List (List V))) (p:List PendG) (ρ:ai) (σ:List (List V)) (sq0:Nat→List (List V)),sq0 m=σ→(∀r,r<m→h[r]? = some (sq0 (m-1-r)))→
 (∀i e,l[i]? = some e→im e (m+nb l i)=true)→dR C P K l m h p ρ σ→
 ExG C P K l k m p ρ sq0
 | [],k,m,h,p,ρ,σ,sq0,hs,hh,hok,hg=>⟨fun _=>(.junk,.junk),sq0,m,fun _ _=>rfl,Ks _,by simp[nb],fun q hq r h1 h2=>by omega,fun i hi=>by simp at hi,fun _=>⟨ρ,by rw[hs];exact hg,fun _=>rfl⟩⟩
 | (o,g)::l,k,m,h,p,ρ,σ,sq0,hs,hh,hok,hg=>by
  have hok0:=hok 0 _ rfl;simp only[nb,Kt]at hok0
  have hokt:∀c',c'=m+(if g.isAct=true then 1 else 0)→∀i e,l[i]? = some e→im e (c'+nb l i)=true:=fun c' hc' i e he=>by
   have:=hok (i+1) e (by simpa using he);simp only[nb]at this;rw[hc',Kv];exact this
  have fin:∀{W:Nat→V×V} {w:V×V} {ρ2:ai},(∀t,get ρ2 t=get (ap o w ρ) t)→∀{ρf:ai},(∀t,get ρf t=get (cK l W (k+1) (fun _=>true) ρ2) t)→∀t,get ρf t=get (cK ((o,g)::l) (fun i=>if i=k then w else W i) k (fun _=>true) ρ) t:=fun{W w ρ2} h1 {ρf} h2 t=>by
   simp only[cK,if_true];rw[h2 t,tK l (fun i=>if i=k then w else W i) W (k+1) _ _ fun j hj=>if_neg (by omega)];exact kJ _ _ _ _ _ _ _ (h1 t)
  have calm:g.isAct=false→∀(p':List PendG) (ρ':ai) (w:V×V),(∀q∈p,q∈p')→(∀t,get ρ' t=get (ap o w ρ) t)→dR C P K l m h p' ρ' σ→
   (∀(sq:Nat→List (List V)) (z:Nat),m≤z→(∀q,q≤m→sq q=sq0 q)→(∀q∈p',∀r,m<r→r≤z→r≤q.hi→bg C [q.o] q.ρ (sq r) fun ρ'=>ρ'=q.ρ')→jG C P (o,g) m z sq ρ w)→ExG C P K ((o,g)::l) k m p ρ sq0:=fun hna p' ρ' w hp hρ hr hf=>by
   obtain⟨W,sq,z,g1,g2,g3,g4,g5,g6⟩:=qb l (k+1) m h p' ρ' σ sq0 hs hh (hokt m (by simp[hna])) hr;have hn:nb ((o,g)::l) ((o,g)::l).length=nb l l.length:=by simp[nb,hna]
   exact⟨fun i=>if i=k then w else W i,sq,z,g1,g2,by rw[hn];exact g3,fun q hq=>g4 q (hp q hq),eK (by simp[hna]) (hf sq z g2 g1 g4) hρ g5,fun hz=>by
    rw[hn]at hz;obtain⟨ρf,k1,k2⟩:=g6 hz;exact⟨ρf,k1,fin hρ k2⟩⟩
  have acts:g=.act→∀(ρ':ai) (w:V×V) (σ1:List (List V)),(∀t,get ρ' t=get (ap o w ρ) t)→lN C o.op ρ σ w.1 w.2 σ1→reG C (m+1) σ1 p→dR C P K l (m+1) (σ::h) p ρ' σ1→ExG C P K ((o,g)::l) k m p ρ sq0:=fun hg ρ' w σ1 hρ hE hre hr=>by
   subst hg
   obtain⟨W,sq,z,g1,g2,g3,g4,g5,g6⟩:=qb l (k+1) (m+1) (σ::h) p ρ' σ1 (fun q=>if q≤m then sq0 q else σ1) (if_neg (by omega)) (fun r hr=>by
    cases r with
    | zero=>simp[hs]
    | succ r=>
     have:=hh r (by omega);simp only[Kh,this];rw[if_pos (by omega),show m+1-1-(r+1)=m-1-r by omega]) (hokt (m+1) rfl) hr
   have hn:m+nb ((o,.act)::l) ((o,GK.act)::l).length=m+1+nb l l.length:=by simp[nb,GK.isAct];omega
   have e1:∀q,q≤m→sq q=sq0 q:=fun q hq=>(g1 q (by omega)).trans (if_pos hq);have e2:sq (m+1)=σ1:=(g1 _ (Ks _)).trans (if_neg (by omega));refine⟨fun i=>if i=k then w else W i,sq,z,e1,by omega,by rw[hn];exact g3,fun q hq r h1 h2 h3=>?_,eK (e:=(o,.act)) rfl ⟨fun _=>?_,fun hz=>by omega⟩ hρ g5,fun hz=>?_⟩
   ·by_cases e:r=m+1
    ·subst e;rw[e2];exact yH hre q hq h3
    ·exact g4 q hq r (by omega) h2 h3
   ·rw[e2,e1 m (Ks _),hs];exact hE
   ·rw[hn]at hz;obtain⟨ρf,k1,k2⟩:=g6 hz;exact⟨ρf,k1,fin hρ k2⟩
  have pans:g=.act→wb C o.op ρ σ P→dU C l m h (ap o (.junk,.junk) ρ) σ→ExG C P K ((o,g)::l) k m p ρ sq0:=fun hg hE hr=>by
   subst hg;obtain⟨W,hW⟩:=km (P:=P) (sq:=sq0) hs hh l (k+1) (m+1) _ (by omega) (hokt (m+1) rfl) hr;exact⟨fun i=>if i=k then(.junk,.junk)else W i,sq0,m,fun _ _=>rfl,Ks _,Nat.le_add_right _ _,fun q hq r h1 h2=>by omega,eK (e:=(o,.act)) rfl ⟨fun hz=>by omega,fun _=>by rw[hs];exact hE⟩ (fun _=>rfl) hW,fun hz=>by simp[nb,GK.isAct]at hz⟩
  cases g with
  | free lo=>
   simp only[dR]at hg;simp only[im,JR]at hok0;obtain⟨x,ρ',h1,h2,h3⟩:=nO hg;exact calm rfl p ρ' (.junk,x) (fun _ h=>h) (fun t=>by rw[h3 t,ml hok0.1.2]) h2 fun sq z _ _ _ _ σ2=>h1.free hok0.1.1 σ2
  | calm lo hi=>
   simp only[dR]at hg;simp only[im,JR,decide_eq_true_eq]at hok0;obtain⟨x,ρ',h1,⟨h2,h4⟩,h3⟩:=nO hg;obtain⟨d,hd⟩:=Option.isSome_iff_exists.1 hok0.1.1.2;refine calm rfl _ ρ' (.junk,x) (fun q hq=>?_) (fun t=>by rw[h3 t,ml hok0.1.1.1]) h4 fun sq z hz hsq hpd _ q q1 q2 q3=>?_
   ·unfold qy;split
    ·exact List.mem_cons_of_mem _ hq
    ·exact hq
   ·by_cases e:q=m
    ·subst e;rw[hsq q (Ks _),hs];exact h1
    ·by_cases e2:q<m
     ·obtain⟨σ',k1,k2⟩:=nN h2 (m-1-q) (by omega);rw[hh _ (by omega),show m-1-(m-1-q)=q by omega]at k1;cases k1;rw[hsq q (by omega)];exact mV hd h3 k2
     ·have:=hpd ⟨o,ρ,ρ',hi⟩ (by unfold qy;rw[if_pos (by omega)];simp) q (by omega) q3 q2;exact mV hd h3 this
  | slot lo=>
   simp only[dR]at hg;simp only[im,JR,Kz]at hok0;simp only[cl,hok0.1.2]at hg;obtain⟨a,b,σ',h1,⟨-,h2⟩,h3⟩:=ju (.inl hok0.1.1) hg;have hσ:=h3 hok0.1.1;rw[hσ]at h1 h2;refine calm rfl p _ (a,b) (fun _ h=>h) (fun _=>rfl) h2 fun sq z _ _ _ _ σ2=>?_;cases ho:o.op<;>rw[ho]at h1 hok0<;>first|(simp[OP.isSlot]at hok0;done)|skip
   all_goals (simp only[lN]at h1 ⊢;simpa using h1)
  | act=>
   simp only[im,JR,Kz]at hok0;obtain⟨d,op,gd⟩:=o
   have det:(∀f args,op≠.call f args)→(∀x args,op≠.callv x args)→(cl C [⟨d,op,gd⟩] ρ σ fun e ρ' σ'=>e=.normal∧reG C (m+1) σ' p∧dR C P K l (m+1) (σ::h) p ρ' σ')→ExG C P K ((⟨d,op,gd⟩,.act)::l) k m p ρ sq0:=fun n1 n2 hg=>by
    simp only at hok0;simp only[cl,hok0.2]at hg;obtain⟨a,b,σ',h1,⟨-,h2,h4⟩,h3⟩:=ju (o:=⟨d,op,gd⟩) (.inr ⟨hok0.1,n1,n2⟩) hg;exact acts rfl _ (a,b) σ' (fun _=>rfl) h1 h2 h4
   cases op
   case call f args=>
    simp only[dR]at hg;rcases hg with⟨v,σ1,h1,h2,h3⟩|⟨h1,h2⟩
    ·exact acts rfl _ (.junk,v) σ1 (fun _=>rfl) h1 h2 h3
    ·exact pans rfl h1 h2
   case callv x args=>
    simp only[dR]at hg;obtain⟨f,cap,he,hg⟩:=hg;rcases hg with⟨v,σ1,h1,h2,h3⟩|⟨h1,h2⟩
    ·exact acts rfl _ (.junk,v) σ1 (fun _=>rfl) ⟨f,cap,he,h1⟩ h2 h3
    ·exact pans rfl ⟨f,cap,he,h1⟩ h2
   all_goals exact det (fun _ _ h=>by cases h) (fun _ _ h=>by cases h) (by simpa only[dR]using hg)
def O.wl(o:O):List Nat:=o.dst.toList++o.op.w1.toList
def loG(e:O×GK)(k:Nat):Nat:=match e.2 with
 | .free lo=>lo
 | .calm lo _=>lo
 | .slot lo=>lo
 | .act=>k
def hiG(e:O×GK)(k:Nat):Option Nat:=match e.2 with
 | .calm _ hi=>some hi
 | .act=>some k
 | _=>none
def kr(l:List (O×GK))(os:List Oper):Bool:=
 let bf:=aY os []
 ((Ka os.length).all fun i=>match os[i]? with|some o=>(aD o).all fun j=>decide (j<i)|none=>true) &&
 ((Ka l.length).all fun i=>match l[i]? with
   | some e=>im e (nb l i)&&((Ka l.length).all fun j=>j==i||(match l[j]? with
    | some q=>(!((e.1.looksG++e.1.wl).any fun t=>q.1.wl.contains t)||(if j<i then(bf.getD i []).contains j else(bf.getD j []).contains i)) &&
     (!q.2.isAct||((!decide (nb l j<loG e (nb l i))||(bf.getD i []).contains j)&&(match hiG e (nb l i)with|some hi=>!decide (hi≤nb l j)||(bf.getD j []).contains i|none=>true)))
    | none=>true))
   | none=>true)
structure OKG(l:List (O×GK))(os:List Oper):Prop where
 lt:∀(i:Nat) (o:Oper),os[i]? = some o→∀j∈aD o,j<i
 one:∀(i:Nat) (e:O×GK),l[i]? = some e→im e (nb l i)=true
 cmp:∀(i:Nat) (e:O×GK),l[i]? = some e→∀t,(t∈e.1.looksG∨e.1.writes t)→∀(j:Nat) (q:O×GK),l[j]? = some q→j≠i→q.1.writes t→(j<i∧j∈(aY os []).getD i [])∨(i<j∧i∈(aY os []).getD j [])
 lo:∀(i:Nat) (e:O×GK),l[i]? = some e→∀(j:Nat) (q:O×GK),l[j]? = some q→j≠i→q.2.isAct=true→nb l j<loG e (nb l i)→j∈(aY os []).getD i []
 hi:∀(i:Nat) (e:O×GK),l[i]? = some e→∀(j:Nat) (q:O×GK),l[j]? = some q→j≠i→q.2.isAct=true→∀h,hiG e (nb l i)=some h→h≤nb l j→i∈(aY os []).getD j []
theorem oD{o:O}{t:Nat}:t∈o.wl↔o.writes t:=by
 unfold O.wl O.writes;simp[Kn]
theorem sT{l:List (O×GK)}{os:List Oper}(h:kr l os=true):OKG l os:=by
 unfold kr at h;simp only[JR]at h;obtain⟨h1,h2⟩:=h;simp only[J6,J9]at h1 h2
 have two:∀(i:Nat) (e:O×GK),l[i]? = some e→im e (nb l i)=true∧∀(j:Nat) (q:O×GK),l[j]? = some q→j≠i→_:=fun i e he=>by
  have:=h2 i (List.getElem?_eq_some_iff.1 he).1;rw[he]at this;simp only[JR,J6,J9]at this;refine⟨this.1,fun j q hq hne=>?_⟩;have h3:=this.2 j (List.getElem?_eq_some_iff.1 hq).1;rw[hq]at h3;have hne':(j==i)=false:=by simp[hne]
  rw[hne',JT,JR]at h3;exact h3
 refine⟨fun i o ho j hj=>?_,fun i e he=>(two i e he).1,fun i e he t ht j q hq hne hw=>?_,fun i e he j q hq hne ha hlt=>?_,fun i e he j q hq hne ha hh eh hle=>?_⟩
 ·have:=h1 i (List.getElem?_eq_some_iff.1 ho).1;rw[ho]at this;simpa using List.all_eq_true.1 this j hj
 ·have h3:=((two i e he).2 j q hq hne).1
  have hany:((e.1.looksG++e.1.wl).any fun t=>q.1.wl.contains t)=true:=by
   rw[List.any_eq_true];refine⟨t,?_,by rw[Km];exact oD.2 hw⟩;rw[Kn];exact ht.imp id oD.2
  rw[hany]at h3;simp only[J0,JT]at h3;split at h3
  ·exact .inl ⟨by assumption,by simpa using h3⟩
  ·exact .inr ⟨by omega,by simpa using h3⟩
 ·have h3:=((two i e he).2 j q hq hne).2;simp only[ha,J0,JT,JR,JU,JV,decide_eq_false_iff_not]at h3;rcases h3.1 with h4|h4
  ·exact absurd hlt h4
  ·simpa using h4
 ·have h3:=((two i e he).2 j q hq hne).2;simp only[ha,J0,JT,JR,eh,JU,JV,decide_eq_false_iff_not]at h3;rcases h3.2 with h4|h4
  ·exact absurd hle h4
  ·simpa using h4
theorem uB:∀(l:List (O×GK)) (i:Nat),nb l i≤nb l l.length
 | [],0=>Ks _
 | [],_+1=>Ks _
 | e::l,0=>Kw _
 | e::l,i+1=>by simp only[nb,Kg];have:=uB l i;omega
theorem CK:∀(l:List (O×GK)) (i:Nat) (e:O×GK),l[i]? = some e→e.2.isAct=true→nb l i<nb l l.length
 | [],_,_,h,_=>by simp at h
 | e'::l,0,e,h,ha=>by simp at h;subst h;simp only[nb,Kg,ha];simp;omega
 | e'::l,i+1,e,h,ha=>by simp only[nb,Kg];have:=CK l i e (by simpa using h) ha;omega
theorem qA{M0:ax}{bm0:List Nat}{w0:World}(hG:C.glob M0 pr w0){id:Nat}{ops:Array Oper}{l:List (O×GK)}{M:ax}{bm:List Nat}{tk:bq}{a:Act}{w:World}(hok:ft C.tab n ops (l.map (·.1)) ops.toList=true)(hdr:kr l ops.toList=true)
 (hl:Later M0 bm0 pr w0 M bm w)(h:SRel M bm tk pr ρ σ n a w)
 (hq:dR C (fun u σ'=>∀ρ',Q (.panic u) ρ' σ') (fun ρ' σ'=>Q .normal ρ' σ') l 0 [] [] ρ σ):
 (Code.region id ops true).wp C.P (bw M0 bm0 pr w0 n Q) a w:=by
 obtain⟨hlen,hget⟩:=fI hok;have D:=sT hdr;have hnl:l.length=ops.size:=by have:=hlen;simp at this;exact this
 obtain⟨W,sq,z,e0,-,e2,-,facts,fin⟩:=qb l 0 0 [] [] ρ σ (fun _=>σ) rfl (fun r hr=>by omega) (fun i e he=>by rw[Kr];exact D.one i e he) hq;simp only[Kr]at e2 facts fin;have sq0:sq 0=σ:=e0 0 (Ks _)
 have fact:∀(i:Nat) (e:O×GK),l[i]? = some e→∃ρi,(∀t,get ρi t=get (cK l W 0 (fun j=>decide (j<i)) ρ) t)∧jG C (fun u σ'=>∀ρ',Q (.panic u) ρ' σ') e (nb l i) z sq ρi (W i):=fun i e he=>by
  obtain⟨hi,rfl⟩:=List.getElem?_eq_some_iff.1 he;exact facts i hi
 obtain⟨ρe,hρe⟩:∃ρe,∀t,get ρe t=get (cK l W 0 (fun _=>true) ρ) t:=⟨_,fun _=>rfl⟩
 have pick:∃ρf,(∀t,get ρf t=get (cK l W 0 (fun _=>true) ρ) t)∧(z=nb l l.length→Q .normal ρf (sq z)):=by
  by_cases hz:z=nb l l.length
  ·obtain⟨ρf,k1,k2⟩:=fin hz;exact⟨ρf,k2,fun _=>k1⟩
  ·exact⟨ρe,hρe,fun e=>absurd e hz⟩
 obtain⟨ρf,f1,f2⟩:=pick;refine vP (M:=M) (bm:=bm) (tk:=tk) (fun S=>cK l W 0 S ρ) (fun S=>sq (nA l 0 S)) ρf (sq (nb l l.length)) (fun S=>nA l 0 S≤z) (by rw[pN];exact Kw _) (fun S S' hS hI=>by rw[←kH l 0 S S' fun j hj=>by rw[Kr];exact hS j (by omega)];exact hI) D.lt (fun S S' hS=>⟨fun t=>?_,?_⟩) hl ?_ (fun hI=>?_) ?_
 ·refine fQ l W 0 S S' ρ t fun i e he _=>?_;rw[Kr];exact hS i (by have:=(List.getElem?_eq_some_iff.1 he).1;omega)
 ·show sq _=sq _;rw[kH l 0 S S' fun j hj=>by rw[Kr];exact hS j (by omega)]
 ·rw[pN,sq0,iw _ _ _ _ _ fun _ _=>rfl];exact h
 ·rw[tF]at hI;have hz:z=nb l l.length:=by omega
  refine⟨⟨f1,by rw[tF]⟩,?_⟩;have:=f2 hz;rwa[hz]at this
 intro S i o' ho' hSi hclo hedge hI M bm tk a w hl h;have hi1:i<ops.toList.length:=(List.getElem?_eq_some_iff.1 ho').1;have hi2:i<l.length:=by rw[hnl];simpa using hi1
 obtain⟨e,he⟩:∃e,l[i]? = some e:=⟨_,J5 hi2⟩
 have hlo:(l.map (·.1))[i]? = some e.1:=by rw[List.getElem?_map,he];rfl
 have hoo:=hget i _ o' hlo ho';have hbef:∀j∈(aY ops.toList []).getD i [],S j=true:=ca D.lt (S:=fun j=>S j=true) hclo i o' ho' hedge
 have hbefj:∀q,q<l.length→S q=true→∀j∈(aY ops.toList []).getD q [],S j=true:=fun q hq hSq=>by
  have hq2:ops.toList[q]? = some (ops.toList[q]'(by simp;omega)):=J5 _;exact ca D.lt (S:=fun j=>S j=true) hclo q _ hq2 (hclo q _ hq2 hSq)
 have hno:∀(j:Nat) (q:O×GK),l[j]? = some q→i∈(aY ops.toList []).getD j []→S j=false:=fun j q hj hm=>by
  have:¬S j=true:=fun hjl=>by
   have:=hbefj j (List.getElem?_eq_some_iff.1 hj).1 hjl i hm;rw[hSi]at this;cases this
  simpa using this
 have hsame:∀t,(t∈e.1.looksG∨e.1.writes t)→∀(j:Nat) (q:O×GK),l[j]? = some q→j≠i→q.1.writes t→S j=decide (j<i):=by
  intro t ht j q hj hne hw;rcases D.cmp i e he t ht j q hj hne hw with⟨g1,g2⟩|⟨g1,g2⟩
  ·rw[hbef j g2];simp[g1]
  ·rw[hno j q hj g2];simp;omega
 obtain⟨hgl,hn⟩:=vJ W ρ he hSi hsame;obtain⟨ρi,g1,g2⟩:=fact i e he;have cg:∀t∈e.1.looksG,get ρi t=get (cK l W 0 S ρ) t:=fun t ht=>by rw[g1 t];exact hgl t ht
 have cgo:∀t∈e.1.op.slotsG,get ρi t=get (cK l W 0 S ρ) t:=fun t ht=>cg t (by unfold O.looksG;simp[ht]);have one:=D.one i e he;have hadd:=zZ l 0 S i e he (by rw[Kr];exact hSi);simp only[Kr]at hadd
 have hlow:loG e (nb l i)≤nb l l.length→loG e (nb l i)≤nA l 0 S:=fun hle=>by
  have:=CD l 0 S 0 (loG e (nb l i)) fun j q hj ha hlt=>by
   rw[Kr]at hlt ⊢;by_cases hne:j=i
   ·subst hne;rw[he]at hj;cases hj;unfold loG at hlt;unfold GK.isAct at ha
    revert ha hlt
    cases e.2<;>simp
   ·exact hbef j (D.lo i e he j q hj hne ha hlt)
  omega
 have hhigh:∀h,hiG e (nb l i)=some h→nA l 0 S≤h:=fun h eh=>by
  have:=Cw l 0 S 0 h fun j q hj ha hle=>by
   rw[Kr]at hle ⊢;by_cases hne:j=i
   ·subst hne;exact hSi
   ·exact hno j q hj (D.hi i e he j q hj hne ha h eh hle)
  omega
 have wantNone:e.1.g=none→Region.wanted o' (yielded ops a.tmps)=true:=fun hg=>by
  have hgd:=hoo;unfold okO at hgd;simp only[JR]at hgd;replace hgd:=hgd.2;rw[hg]at hgd;split at hgd
  ·rename_i hg2;simp[Region.wanted,hg2]
  ·rename_i e _;cases e
  ·cases hgd
 have wrapC:e.2.isAct=false→e.1.op.isCalm=true→Loc C e.1 ρi (sq (nA l 0 S)) (W i).2→
  if Region.wanted o' (yielded ops a.tmps)then o'.wp C.P a w (fV M bm pr w n fun ρ' σ'=>(∀t,get ρ' t=get (cK l W 0 (fun j=>j==i||S j) ρ) t)∧σ'=sq (nA l 0 fun j=>j==i||S j)∧nA l 0 (fun j=>j==i||S j)≤z) (bw M bm pr w n Q)
  else SRel M bm tk pr (cK l W 0 (fun j=>j==i||S j) ρ) (sq (nA l 0 fun j=>j==i||S j)) n (a.put o'.dst undef) w∧nA l 0 (fun j=>j==i||S j)≤z:=fun hna hc hL=>by
  have e3:nA l 0 (fun j=>j==i||S j)=nA l 0 S:=by rw[hadd,hna];simp
  rw[e3];have hap:∀t,get (ap e.1 (W i) (cK l W 0 S ρ)) t=get (putd (cK l W 0 S ρ) e.1.dst (W i).2) t:=fun t=>by unfold ap;rw[uh hc];rfl
  have:=yc (Q:=Q) (hG.mono hl) h hoo (hL.congr fun t ht=>cg t (by rw[←sL hc];exact ht));split at this
  ·rename_i hw;rw[if_pos hw];exact Oper.wp_mono2 (fun a' w' ⟨M',bm',tk',ρ',σ',⟨k1,k2⟩,k3,k4⟩=>⟨M',bm',tk',ρ',σ',⟨fun t=>by rw[k1,hn t,hap t],k2,hI⟩,k3,k4⟩) (fun e a' w' hh=>hh) this
  ·rename_i hw;rw[if_neg hw];exact⟨this.congr fun t=>by rw[hn t,hap t],hI⟩
 have wrapE:e.1.g=none→(e.1.op.isSlot=true∨e.1.op.isActG e.1.dst=true)→nA l 0 (fun j=>j==i||S j)≤z→lN C e.1.op ρi (sq (nA l 0 S)) (W i).1 (W i).2 (sq (nA l 0 fun j=>j==i||S j))→
  if Region.wanted o' (yielded ops a.tmps)then o'.wp C.P a w (fV M bm pr w n fun ρ' σ'=>(∀t,get ρ' t=get (cK l W 0 (fun j=>j==i||S j) ρ) t)∧σ'=sq (nA l 0 fun j=>j==i||S j)∧nA l 0 (fun j=>j==i||S j)≤z) (bw M bm pr w n Q)
  else SRel M bm tk pr (cK l W 0 (fun j=>j==i||S j) ρ) (sq (nA l 0 fun j=>j==i||S j)) n (a.put o'.dst undef) w∧nA l 0 (fun j=>j==i||S j)≤z:=fun hg hc hz hE=>by
  rw[if_pos (wantNone hg)];refine Oper.wp_mono2 (fun a' w' ⟨M',bm',tk',ρ',σ',⟨k1,k2⟩,k3,k4⟩=>⟨M',bm',tk',ρ',σ',⟨fun t=>by rw[k1,hn t],k2,hz⟩,k3,k4⟩) (fun e a' w' ⟨_,_,_,_,_,_,hf,_⟩=>hf.elim) (bQ (Q:=fun _ _ _=>False) (hG.mono hl) h hoo (zH hc (sg cgo hE)))
 obtain⟨o,g⟩:=e;cases g with
 | free lo=>
  simp only[im,JR,decide_eq_true_eq]at one;have:=hlow (by simp only[loG];have:=uB l i;omega);exact wrapC rfl one.1.2 (g2 (by simp only[loG]at this;omega) _)
 | calm lo hi=>
  simp only[im,JR,decide_eq_true_eq]at one;have h1:=hlow (by simp only[loG];have:=uB l i;omega);have h2:=hhigh hi rfl;simp only[loG]at h1;exact wrapC rfl one.1.1.1 (g2 (by omega) _ h1 h2 hI)
 | slot lo=>
  simp only[im,JR,Kz,decide_eq_true_eq]at one;have h1:=hlow (by simp only[loG];have:=uB l i;omega);simp only[loG]at h1;have e3:nA l 0 (fun j=>j==i||S j)=nA l 0 S:=by rw[hadd];simp[GK.isAct]
  exact wrapE one.1.2 (.inl one.1.1) (by rw[e3];exact hI) (by rw[e3];exact g2 (by omega) _)
 | act=>
  simp only[im,JR,Kz]at one;have hlt:=CK l i _ he rfl;have h1:=hlow (by simp only[loG];omega);have h2:=hhigh _ rfl;simp only[loG]at h1;have hc:nA l 0 S=nb l i:=by omega
  have e3:nA l 0 (fun j=>j==i||S j)=nb l i+1:=by rw[hadd,hc];simp[GK.isAct]
  by_cases hz:nb l i<z
  ·exact wrapE one.2 (.inr one.1) (by rw[e3];omega) (by rw[e3,hc];exact g2.1 hz)
  ·have hzz:nb l i=z:=by omega
   have hp:=g2.2 hzz;rw[if_pos (wantNone one.2)];have hE:=zR (o:=o) (sw (ρ':=cK l W 0 S ρ) cgo hp);rw[←hzz,←hc]at hE;refine Oper.wp_mono2 (fun a' w' ⟨M',bm',tk',ρ',σ',hf,k3,k4⟩=>hf.elim) (fun e a' w' ⟨M',bm',tk',ρ',σ',x,⟨u,k1,k2⟩,k3⟩=>⟨M',bm',tk',ρ',σ',x,by subst k1;exact k2 ρ',k3⟩) (bQ (K:=fun _ _=>False) (Q:=fun e _ σ'=>∃u,e=.panic u∧∀ρ',Q (.panic u) ρ' σ') (hG.mono hl) h hoo hE)
end
end Go.Proofs.YthoebpnbhgmoiaaGreatDoor
