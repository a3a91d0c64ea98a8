import Derived.Test.YtcbahpllcfbkmaaGreatDoorA13
import Derived.Orders
import Derived.RowKit
import Derived.Recover
set_option linter.unusedVariables false
set_option linter.unusedSimpArgs false
set_option linter.unusedSectionVars false
namespace Go.Proofs.YtcbahpllcfbkmaaGreatDoor
open Go.RowKit
mutual
def V.under(k:Nat):V→Bool
 | .agg cs=>V.unders k cs
 | .tup cs=>V.unders k cs
 | .fn _ cs=>V.unders k cs
 | .bnd _ cs=>V.unders k cs
 | .ptr i _=>decide (i<k)
 | .bsl i _ _ _=>decide (i<k)
 | .iface _ v=>V.under k v
 | .mp i=>decide (i<k)
 | .bsc i _ _=>decide (i<k)
 | .mapc _ kv=>V.underkv k kv
 | .d _=>true
 | .own _ _ _=>true
 | .nil=>true
 | .row _ _=>true
 | .junk=>true
def V.unders(k:Nat):List V→Bool
 | []=>true
 | x::r=>V.under k x&&V.unders k r
def V.underkv(k:Nat):List (Key×V)→Bool
 | []=>true
 | p::r=>V.underp k p&&V.underkv k r
def V.underp(k:Nat):Key×V→Bool
 | (_,x)=>V.under k x
end
theorem V.unders_get{k:Nat}:∀{cs:List V},V.unders k cs=true→∀i (h:i<cs.length),V.under k cs[i]=true
 | x::r,h,i,hi=>by
  simp only[V.unders,Bool.and_eq_true]at h;cases i with
  | zero=>exact h.1
  | succ i=>exact V.unders_get h.2 i (by simpa using hi)
theorem V.unders_of{k:Nat}:∀{cs:List V},(∀i (h:i<cs.length),V.under k cs[i]=true)→V.unders k cs=true
 | [],_=>rfl
 | x::r,h=>by
  simp only[V.unders,Bool.and_eq_true];exact⟨h 0 (by simp),V.unders_of fun i hi=>h (i+1) (by simpa using hi)⟩
theorem Rep.drop{M:av}{bm:List Nat}{k:Nat}{x:V}{v:Value}(h:Rep M bm x v):V.under k x=true→Rep M (bm.take k) x v:=by
 induction h with
 | d h=>exact fun _=>.d h
 | own h=>exact fun _=>.own h
 | nil=>exact fun _=>.nil
 | agg hl h h1 ih=>exact fun hb=>.agg hl (fun i g1 g2=>ih i g1 g2 (V.unders_get (by simpa only[V.under]using hb) i g1)) h1
 | tup hl h ih=>exact fun hb=>.tup hl (fun i g1 g2=>ih i g1 g2 (V.unders_get (by simpa only[V.under]using hb) i g1))
 | ptr h=>exact fun hb=>.ptr (by
  simp only[V.under,decide_eq_true_eq]at hb;rw[List.getElem?_take_of_lt hb];exact h)
 | row val hf hd=>exact fun _=>.row val hf hd
 | bsl h hc hm=>exact fun hb=>.bsl (by
  simp only[V.under,decide_eq_true_eq]at hb;rw[List.getElem?_take_of_lt hb];exact h) hc hm
 | fn hl h ih=>exact fun hb=>.fn hl (fun i g1 g2=>ih i g1 g2 (V.unders_get (by simpa only[V.under]using hb) i g1))
 | bnd hl h ih=>exact fun hb=>.bnd hl (fun i g1 g2=>ih i g1 g2 (V.unders_get (by simpa only[V.under]using hb) i g1))
 | iface h ih=>exact fun hb=>.iface (ih (by simpa only[V.under]using hb))
 | mp h=>exact fun hb=>.mp (by
  simp only[V.under,decide_eq_true_eq]at hb;rw[List.getElem?_take_of_lt hb];exact h)
 | bsc h hc hm=>exact fun hb=>.bsc (by
  simp only[V.under,decide_eq_true_eq]at hb;rw[List.getElem?_take_of_lt hb];exact h) hc hm
 | junk v=>exact fun _=>.junk v
theorem Rep.under{M:av}{bm:List Nat}{x:V}{v:Value}(h:Rep M bm x v):V.under bm.length x=true:=by
 induction h with
 | d h=>rfl
 | own h=>rfl
 | nil=>rfl
 | agg hl h h1 ih=>simp only[V.under];exact V.unders_of fun i hi=>ih i hi (by omega)
 | tup hl h ih=>simp only[V.under];exact V.unders_of fun i hi=>ih i hi (by omega)
 | ptr h=>simp only[V.under,decide_eq_true_eq];exact(List.getElem?_eq_some_iff.1 h).1
 | row val hf hd=>rfl
 | bsl h hc hm=>simp only[V.under,decide_eq_true_eq];exact(List.getElem?_eq_some_iff.1 h).1
 | fn hl h ih=>simp only[V.under];exact V.unders_of fun i hi=>ih i hi (by omega)
 | bnd hl h ih=>simp only[V.under];exact V.unders_of fun i hi=>ih i hi (by omega)
 | iface h ih=>simpa only[V.under]using ih
 | mp h=>simp only[V.under,decide_eq_true_eq];exact(List.getElem?_eq_some_iff.1 h).1
 | bsc h hc hm=>simp only[V.under,decide_eq_true_eq];exact(List.getElem?_eq_some_iff.1 h).1
 | junk v=>rfl
theorem MR.drop{M:av}{bm:List Nat}{k:Nat}{st:Bool}{kv:List (Key×V)}{es:List MapEntry}(h:MR M bm st kv es):V.underkv k kv=true→MR M (bm.take k) st kv es:=by
 induction h with
 | nil=>exact fun _=>.nil
 | cons hk hs hx ho _ ih=>
  intro hb;simp only[V.underkv,V.underp,Bool.and_eq_true]at hb;exact .cons hk hs (hx.drop hb.1) ho (ih hb.2)
theorem MR.under{M:av}{bm:List Nat}{st:Bool}{kv:List (Key×V)}{es:List MapEntry}(h:MR M bm st kv es):V.underkv bm.length kv=true:=by
 induction h with
 | nil=>rfl
 | cons hk hs hx ho _ ih=>simp only[V.underkv,V.underp,Bool.and_eq_true];exact⟨hx.under,ih⟩
def aB(k:Nat)(σ:List (List V)):Bool:=σ.all fun cs=>V.unders k cs
def ax(k:Nat)(ρ:am):Bool:=ρ.all fun p=>V.under k p.2
section
variable {C : Cx} {M : av} {bm : List Nat} {tk : aY} {pr : Prot} {ρ : am} {σ : List (List V)} {n : Nat} {a : Act} {w : World} {K : am → List (List V) → Prop} {Q : AEx → am → List (List V) → Prop}
theorem Inv.drop(h:Inv M bm σ tk pr w){k:Nat}(hb:aB k (σ.take k)=true):Inv M (bm.take k) (σ.take k) tk pr w:=by
 refine⟨h.facts,by simp[h.len],fun i b cs hi hc=>?_,fun b hb=>h.free b (List.mem_of_mem_take hb),h.bmnd.sublist (List.take_sublist _ _),fun i j g hg=>?_,h.inj,h.prlt⟩
 ·have hik:i<k:=by have:=(List.getElem?_eq_some_iff.1 hi).1;simp at this;omega
  have hmem:=List.mem_of_getElem? hc;rw[List.getElem?_take_of_lt hik]at hi hc;have hbl:V.unders k cs=true:=List.all_eq_true.1 hb cs hmem;rcases h.box i b cs hi hc with⟨vs,T,h1,h2,h3⟩|⟨st,kv,es,clock,rfl,h1,h2,h3⟩|h1;case inr.inr=>exact .inr (.inr h1)
  case inr.inl=>exact .inr (.inl ⟨st,kv,es,clock,rfl,h1,h2,h3.drop (by simpa[V.unders,V.under]using hbl)⟩)
  exact .inl ⟨vs,T,h1,h2,fun j g1 g2=>⟨⟨(h3 j g1 g2).1.rep.drop (V.unders_get hbl j g1),(h3 j g1 g2).1.own⟩,(h3 j g1 g2).2⟩⟩
 ·obtain⟨t1,t2,t3⟩:=h.tok i j g hg;exact⟨t1,fun hm=>t2 (List.mem_of_mem_take hm),t3⟩
theorem Inv.under(h:Inv M bm σ tk pr w):aB σ.length σ=true:=by
 rw[aB,List.all_eq_true];intro cs hcs;obtain⟨i,hi,rfl⟩:=List.getElem_of_mem hcs;rcases h.box i (bm[i]'(by rw[h.len];exact hi)) σ[i] (List.getElem?_eq_getElem _) (List.getElem?_eq_getElem _)with⟨vs,T,h1,h2,h3⟩|⟨st,kv,es,clock,e,h1,h2,h3⟩|⟨T,k,e,-⟩
 case inr.inr=>rw[e];simp[tyc,V.unders,V.under]
 case inr.inl=>rw[e];simp only[V.unders,V.under,Bool.and_true];rw[←h.len];exact h3.under
 refine V.unders_of fun j hj=>?_;rw[←h.len];exact(h3 j hj (by omega)).1.rep.under
theorem xl{k:Nat}(h:ax k ρ=true)(t:Nat):V.under k (get ρ t)=true:=by
 induction ρ with
 | nil=>rfl
 | cons p r ih=>
  obtain⟨s,u⟩:=p;simp only[ax,List.all_cons,Bool.and_eq_true]at h;simp only[get];split
  ·exact h.1
  ·exact ih h.2
theorem SRel.drop(h:SRel M bm tk pr ρ σ n a w){k:Nat}(h1:aB k (σ.take k)=true)(h2:ax k ρ=true):SRel M (bm.take k) tk pr ρ (σ.take k) n a w:=
 ⟨h.inv.drop h1,h.defers,h.size,fun t=>⟨(h.slots t).rep.drop (xl h2 t),(h.slots t).own⟩⟩
theorem Later.drop{M':av}{bm':List Nat}{w':World}(h:Later M bm pr w M' bm' w'){k:Nat}(hk:bm.length≤k):Later M bm pr w M' (bm'.take k) w':=by
 obtain⟨t,ht⟩:=h.pre;exact⟨h.le,⟨t.take (k-bm.length),by rw[ht,List.take_append,List.take_of_length_le hk]⟩,h.keep,h.facts,h.os,h.tape,h.output,h.size⟩
theorem Oper.wp_mono2{P:Program}{o:Oper}{a:Act}{w:World}{K K':Act→World→Prop}{Q Q':Exit→Act→World→Prop}(h1:∀a w,K a w→K' a w)(h2:∀e a w,Q e a w→Q' e a w)(hh:o.wp P a w K Q):o.wp P a w K' Q':=by
 unfold Oper.wp at *;generalize (execOp a.eval o).run P w=r at *;cases r with
 | ok n w'=>
  cases n<;>simp only[Oper.upon]at hh ⊢ <;>
   first
    | exact h1 _ _ hh
    | exact Calls.mono hh (fun e w'' he=>by
     cases e with
     | returned v=>exact h1 _ _ he
     | panicked c=>exact h2 _ _ _ he
     | outgrown=>obtain⟨a,w,hq⟩:=he;exact⟨a,w,h2 _ _ _ hq⟩)
    | exact Rows.mono hh (fun _ _ he=>h1 _ _ he)
    | exact hh
 | halt x w'=>cases x<;>simp only[Oper.upon]at hh ⊢ <;>first|exact h2 _ _ _ hh|exact hh
theorem gh(h:SRel M bm tk pr ρ σ n a w){ops:Array Oper}{t j:Nat}{b:Bool}(hg:get ρ t=.d (.lit (.bool b)))(hj:(match ops[j]? with|some q=>q.dst==some t|none=>false)=true):yielded ops a.tmps j=some b:=by
 split at hj
 ·rename_i q hq;have hq2:q.dst=some t:=by simpa using hj
  have hr:=(h.slots t).rep;rw[hg]at hr;have hv:=hr.bool_inv;unfold yielded;rw[hq];simp only[Option.bind_some,hq2];cases ht:a.tmps[t]? with
  | none=>
   simp only[Array.getD_eq_getD_getElem?,ht,Option.getD_none]at hv;cases hv
  | some v=>
   simp only[Array.getD_eq_getD_getElem?,ht,Option.getD_some]at hv;subst hv;rfl
 ·cases hj
theorem iz{M:av}{bm:List Nat}:Rep M bm (.tup []) undef:=.tup (vs:=[]) rfl fun i h=>by simp at h
theorem kD(h:SRel M bm tk pr ρ σ n a w){ops:Array Oper}{t j:Nat}(hg:get ρ t=.tup [])(hj:(match ops[j]? with|some q=>q.dst==some t|none=>false)=true):yielded ops a.tmps j=none:=by
 split at hj
 ·rename_i q hq;have hq2:q.dst=some t:=by simpa using hj
  have hr:=(h.slots t).rep;rw[hg]at hr;unfold yielded;rw[hq];simp only[Option.bind_some,hq2];cases ht:a.tmps[t]? with
  | none=>rfl
  | some v=>
   simp only[Array.getD_eq_getD_getElem?,ht,Option.getD_some]at hr;cases hr with
   | tup _ _=>rfl
 ·cases hj
theorem SRel.know(h:SRel M bm tk pr ρ σ n a w){t:Nat}{b:Bool}(hb:get ρ t=.d (.lit (.bool b))){c:Bool}(hc:b=c):SRel M bm tk pr (put ρ t (.d (.lit (.bool c)))) σ n a w:=
 ⟨h.inv,h.defers,h.size,fun s=>by
   rw[bI];split
   ·rename_i e;subst e;subst hc;rw[←hb];exact h.slots s
   ·exact h.slots s⟩
theorem fu{M0:av}{bm0:List Nat}{w0:World}(hG:C.glob M0 pr w0){ops:Array Oper}:∀{l:List O} {l':List Oper} {M:av} {bm:List Nat} {tk:aY} {ρ:am} {σ:List (List V)} {a:Act} {w:World},
 il C.tab n ops l l'=true→Later M0 bm0 pr w0 M bm w→SRel M bm tk pr ρ σ n a w→cl C l ρ σ Q→wpList C.P ops (bA M0 bm0 pr w0 n Q) l' a w
 | [],[],M,bm,tk,ρ,σ,a,w,_,hl,h,hq=>⟨M,bm,tk,ρ,σ,_,hq,.normal,h,hl⟩
 | o::r,o'::r',M,bm,tk,ρ,σ,a,w,hok,hl,h,hq=>by
  simp only[il,Bool.and_eq_true]at hok;obtain⟨h1,h2⟩:=hok;have hG':=hG.mono hl
  have step:∀{ρ:am},SRel M bm tk pr ρ σ n a w→cY C o.op o.dst ρ σ (fun ρ' σ'=>cl C r ρ' σ' Q) Q→o'.wp C.P a w (wpList C.P ops (bA M0 bm0 pr w0 n Q) r') (bA M0 bm0 pr w0 n Q):=fun h hr=>by
   refine Oper.wp_mono2 (fun a' w' hL=>?_) (fun e a' w' hL=>hL.trans hl) (cM hG' h h1 hr);obtain⟨M',bm',tk',ρ',σ',k1,k2,k3⟩:=hL;exact fu hG h2 (hl.trans k3 (fun _ h=>h)) k2 k1
  have hgd:∀g,o.g=g→(match g,o'.guard with
   | none,none=>true
   | some (t,b),some (j,b')=>b==b'&&(match ops[j]? with|some q=>q.dst==some t|none=>false)
   | _,_=>false)=true:=fun g hg=>by
   subst hg;unfold okO at h1;simp only[Bool.and_eq_true]at h1;exact h1.2
  have hdst:o.dst=o'.dst:=by
   unfold okO at h1;simp only[Bool.and_eq_true,beq_iff_eq]at h1;exact h1.1.1.2
  have hdn:∀d,o'.dst=some d→d<n:=by
   unfold okO at h1;simp only[Bool.and_eq_true]at h1;intro d hd;have:=h1.1.2;rw[hd]at this;simpa using this
  unfold wpList;simp only[cl]at hq;split at hq
  ·rename_i hg;have:=hgd none hg;split at this
   ·rename_i hg2;rw[if_pos (by simp[Region.wanted,hg2])];exact .inl (step h hq)
   ·rename_i e _;cases e
   ·cases this
  ·rename_i t want hg;have:=hgd _ hg;split at this
   ·rename_i e _;cases e
   ·rename_i t' b' j b'' e hg2;cases e;simp only[Bool.and_eq_true,beq_iff_eq]at this;obtain⟨rfl,hj⟩:=this;split at hq
    ·rename_i b hb;have hy:=gh h hb hj;by_cases hbw:b=want
     ·rw[if_pos (by simp[Region.wanted,hg2,hy,hbw])];exact .inl (step (h.know hb hbw) (hq.1 hbw))
     ·rw[if_neg (by simp[Region.wanted,hg2,hy,hbw])];have:=hq.2 hbw;rw[hdst]at this;exact fu hG h2 hl ((h.know hb (c:=!want) (by cases b<;>cases want<;>simp_all)).putd hdn iz (by simp)) this
    ·rename_i hb;have hy:=kD h hb hj;rw[if_neg (by simp[Region.wanted,hg2,hy])];rw[hdst]at hq;exact fu hG h2 hl (h.putd hdn iz (by simp)) hq
    ·exact hq.elim
   ·cases this
 | [],_::_,_,_,_,_,_,_,_,hok,_,_,_=>by cases hok
 | _::_,[],_,_,_,_,_,_,_,hok,_,_,_=>by cases hok
end
end Go.Proofs.YtcbahpllcfbkmaaGreatDoor
namespace Go.Proofs.YtcbahpllcfbkmaaGreatDoor
open Go.RowKit
def X.slots:X→List Nat
 | .t n=>[n]
 | _=>[]
def OP.slots:OP→List Nat
 | .mv x | .un _ x | .conv _ x | .cstr x | .cbs x | .nilck x | .fa _ x | .fld _ _ _ x | .len _ x | .ext x _ | .load _ _ x | .mki _ x | .tas _ _ x=>x.slots
 | .pick c a b=>c.slots++(a.slots++b.slots)
 | .clip c a b=>c.slots++(a.slots++b.slots)
 | .mlk _ _ _ x k=>x.slots++k.slots
 | .mln x=>x.slots
 | .nif _ x=>x.slots
 | .nip _ x=>x.slots
 | .eqa _ _ _ x y=>x.slots++y.slots
 | .bin _ x y | .binb _ x y | .ia _ x y | .aa _ _ x y | .ix x y | .mx _ x y=>x.slots++y.slots
 | .bld _ ps=>ps.flatMap fun p=>p.2.2.slots
 | .sub _ _ x lo hi=>x.slots++(lo.toList++hi.toList).flatMap X.slots
 | .mkfn _ cap=>cap.flatMap X.slots
 | .mkbd _ first=>first.flatMap X.slots
 | .mks _ _ xs=>xs.flatMap X.slots
 | .call _ args=>args.flatMap X.slots
 | .callv x args=>x.slots++args.flatMap X.slots
 | .calln _ args=>args.flatMap X.slots
 | _=>[]
def bz(C:Cx)(op:OP)(ρ:am)(σ:List (List V))(k:V→Prop):Prop:=
 match op with
 | .call f args=>∃v,Fun C f (args.map fun x=>(ev C ρ x).lend) σ (fun o σ'=>o=.ret v∧σ'=σ)∧k v
 | .callv x args=>match ev C ρ x with
  | .fn f cap=>∃v,Fun C f ((args.map fun x=>(ev C ρ x).lend)++cap) σ (fun o σ'=>o=.ret v∧σ'=σ)∧k v
  | _=>False
 | .mks _ kk xs=>match ac (xs.map (ev C ρ))with
  | some rows=>rows.all (fun r=>r.length==kk)=true∧k (.d (.sl rows))
  | none=>False
 | .calln f args=>∃v,Fun C f (args.map fun x=>(ev C ρ x).copy) σ (fun o σ'=>o=.ret v∧σ'=σ)∧k v
 | op=>match ci op,pv C op ρ σ with
  | true,some v=>k v
  | _,_=>False
def aU(C:Cx):List O→am→List (List V)→(am→Prop)→Prop
 | [],ρ,_,K=>K ρ
 | o::r,ρ,σ,K=>match o.g with
  | none=>bz C o.op ρ σ fun v=>aU C r (putd ρ o.dst v) σ K
  | some (t,want)=>match get ρ t with
   | .d (.lit (.bool b))=>(b=want→bz C o.op (put ρ t (.d (.lit (.bool want)))) σ fun v=>aU C r (putd (put ρ t (.d (.lit (.bool want)))) o.dst v) σ K)∧(b≠want→aU C r (putd (put ρ t (.d (.lit (.bool (!want))))) o.dst (.tup [])) σ K)
   | .tup []=>aU C r (putd ρ o.dst (.tup [])) σ K
   | _=>False
def bq:List (Option Nat×V×Bool)→am→am
 | [],ρ=>ρ
 | (d,x,b)::r,ρ=>bq r (if b then putd ρ d x else ρ)
theorem cK(ρ:am)(d:Option Nat)(x:V)(t:Nat):get (putd ρ d x) t=if d=some t then x else get ρ t:=by
 cases d with
 | none=>simp[putd]
 | some d=>simp only[putd,bI,Option.some.injEq];split<;>split<;>first|rfl|omega
theorem jy:∀(l:List (Option Nat×V×Bool)) (ρ ρ':am) (t:Nat),get ρ t=get ρ' t→get (bq l ρ) t=get (bq l ρ') t
 | [],_,_,_,h=>h
 | (d,x,b)::r,ρ,ρ',t,h=>by
  simp only[bq];apply jy r;cases b
  ·exact h
  ·simp only[if_true,cK];split
   ·rfl
   ·exact h
theorem du:∀(l l':List (Option Nat×V×Bool)) (ρ:am) (t:Nat),l.length=l'.length→(∀i (h:i<l.length) (h':i<l'.length),l[i].1=l'[i].1∧l[i].2.1=l'[i].2.1∧(l[i].1=some t→l[i].2.2=l'[i].2.2))→get (bq l ρ) t=get (bq l' ρ) t
 | [],[],_,_,_,_=>rfl
 | (d,x,b)::r,(d',x',b')::r',ρ,t,hl,h=>by
  simp only[bq];obtain⟨h1,h2,h3⟩:=h 0 (by simp) (by simp);simp only[List.getElem_cons_zero]at h1 h2 h3;subst h1;subst h2;have hr:=fun ρ=>du r r' ρ t (by simpa using hl) (fun i g1 g2=>h (i+1) (by simpa using g1) (by simpa using g2));by_cases e:d=some t
  ·rw[h3 e];exact hr _
  ·rw[←hr];apply jy;cases b<;>cases b'<;>simp[cK,e]
 | [],_::_,_,_,hl,_=>by simp at hl
 | _::_,[],_,_,hl,_=>by simp at hl
theorem eN:∀(l:List (Option Nat×V×Bool)) (ρ:am) (t:Nat),(∀p∈l,p.1=some t→p.2.2=false)→get (bq l ρ) t=get ρ t
 | [],_,_,_=>rfl
 | (d,x,b)::r,ρ,t,h=>by
  simp only[bq];rw[eN r _ t (fun p hp=>h p (by simp[hp]))];cases b
  ·rfl
  ·simp only[if_true,cK];split
   ·rename_i e;have:=h (d,x,true) (by simp) e;cases this
   ·rfl
theorem kM:∀(l l':List (Option Nat×V×Bool)) (ρ:am),bq (l++l') ρ=bq l' (bq l ρ)
 | [],_,_=>rfl
 | (d,x,b)::r,l',ρ=>by simp only[List.cons_append,bq];exact kM r l' _
theorem m8(l:List (Option Nat×V×Bool))(ρ:am)(i:Nat)(h:i<l.length)(t:Nat)(hd:l[i].1=some t)(hb:l[i].2.2=true)(hn:∀j (hj:j<l.length),i<j→l[j].1=some t→l[j].2.2=false):get (bq l ρ) t=l[i].2.1:=by
 have e:bq l ρ=bq (l.take i++(l[i]::l.drop (i+1))) ρ:=by rw[List.getElem_cons_drop,List.take_append_drop]
 rw[e,kM];generalize bq (l.take i) ρ=ρ1;generalize hli:l[i]=p at hd hb;obtain⟨d,x,b⟩:=p;simp only at hd hb;subst hd;subst hb;simp only[bq,if_true];rw[eN]
 ·simp[cK]
 ·intro p hp hpt;obtain⟨j,hj,rfl⟩:=List.getElem_of_mem hp;simp only[List.getElem_drop]at hpt ⊢;exact hn (i+1+j) (by simp at hj;omega) (by omega) hpt
def O.looks(o:O):List Nat:=o.op.slots++(match o.g with|some (t,_)=>[t]|none=>[])
def aE(o:Oper):List Nat:=(o.after.toList.filter fun e=>Region.binds .any e).map (·.on)
def aO:List Oper→List (List Nat)→List (List Nat)
 | [],acc=>acc
 | o::r,acc=>aO r (acc++[aE o++(aE o).flatMap fun j=>acc.getD j []])
def mE(l:List O)(os:List Oper):Bool:=
 let bf:=aO os []
 (List.range os.length).all fun i=>
   (match os[i]? with|some o=>(aE o).all fun j=>decide (j<i)|none=>true) &&
   (match l[i]? with
   | some o=>(o.looks++o.dst.toList).all fun t=>(List.range l.length).all fun j=>j==i||(match l[j]? with
    | some p=>p.dst != some t||(if j<i then(bf.getD i []).contains j else(bf.getD j []).contains i)
    | none=>true)
   | none=>true)
def bw:List O→List V→Nat→(Nat→Bool)→List (Option Nat×V×Bool)
 | o::l,x::xs,k,S=>(o.dst,x,S k)::bw l xs (k+1) S
 | _,_,_,_=>[]
theorem jp:∀(l:List O) (xs:List V) (k:Nat) (S:Nat→Bool),xs.length=l.length→(bw l xs k S).length=l.length
 | [],[],_,_,_=>rfl
 | o::l,x::xs,k,S,h=>by simp only[bw,List.length_cons];rw[jp l xs (k+1) S (by simpa using h)]
 | [],_::_,_,_,h=>by simp at h
 | _::_,[],_,_,h=>by simp at h
theorem jq:∀(l:List O) (xs:List V) (k:Nat) (S:Nat→Bool) (i:Nat) (h:i<(bw l xs k S).length) (h1:i<l.length) (h2:i<xs.length),(bw l xs k S)[i]=(l[i].dst,xs[i],S (k+i))
 | o::l,x::xs,k,S,0,h,h1,h2=>rfl
 | o::l,x::xs,k,S,i+1,h,h1,h2=>by
  have:=jq l xs (k+1) S i (by simpa[bw]using h) (by simpa using h1) (by simpa using h2);simp only[bw,List.getElem_cons_succ];rw[this,show k+1+i=k+(i+1)by omega]
def Loc(C:Cx)(o:O)(ρ:am)(σ:List (List V))(x:V):Prop:=
 match o.g with
 | none=>bz C o.op ρ σ fun v=>v=x
 | some (t,want)=>match get ρ t with
  | .d (.lit (.bool b))=>(b=want→bz C o.op ρ σ fun v=>v=x)∧(b≠want→x=.tup [])
  | .tup []=>x=.tup []
  | _=>False
section
variable {C : Cx} {pr : Prot} {σ : List (List V)} {n : Nat} {Q : AEx → am → List (List V) → Prop}
theorem gj{op:OP}{ρ:am}{k:V→Prop}(h:bz C op ρ σ k):∃v,bz C op ρ σ (fun u=>u=v)∧k v:=by
 unfold bz at h;split at h
 ·obtain⟨v,h1,h2⟩:=h;exact⟨v,by simp only[bz];exact⟨v,h1,rfl⟩,h2⟩
 ·rename_i x args;split at h
  ·rename_i f cap e;obtain⟨v,h1,h2⟩:=h;exact⟨v,by simp only[bz,e];exact⟨v,h1,rfl⟩,h2⟩
  ·exact h.elim
 ·split at h
  ·rename_i rows e;obtain⟨h1,h2⟩:=h;exact⟨_,by simp only[bz,e];exact⟨h1,trivial⟩,h2⟩
  ·exact h.elim
 ·obtain⟨v,h1,h2⟩:=h;exact⟨v,by simp only[bz];exact⟨v,h1,rfl⟩,h2⟩
 ·rename_i n1 n2 n3 n4;split at h
  ·rename_i v hp e;refine⟨v,?_,h⟩;unfold bz;split
   ·exact absurd rfl (n1 _ _)
   ·exact absurd rfl (n2 _ _)
   ·exact absurd rfl (n3 _ _ _)
   ·exact absurd rfl (n4 _ _)
   ·rw[hp,e]
  ·exact h.elim
theorem bB{ρ ρ':am}{x:X}(h:∀t∈x.slots,get ρ t=get ρ' t):ev C ρ x=ev C ρ' x:=by
 cases x with
 | t n=>exact h n (by simp[X.slots])
 | k v=>rfl
 | g n=>rfl
theorem gV{ρ ρ':am}{xs:List X}(h:∀t∈xs.flatMap X.slots,get ρ t=get ρ' t):xs.map (ev C ρ)=xs.map (ev C ρ'):=
 List.map_congr_left fun x hx=>bB fun t ht=>h t (List.mem_flatMap.2 ⟨x,hx,ht⟩)
theorem oY{ρ ρ':am}:∀{ps:List (Nat×Nat×X)} {cs:List V},(∀t∈ps.flatMap (fun p=>p.2.2.slots),get ρ t=get ρ' t)→ak (ev C ρ) cs ps=ak (ev C ρ') cs ps
 | [],cs,_=>rfl
 | (off,k,x)::ps,cs,h=>by
  have e:ev C ρ x=ev C ρ' x:=bB fun t ht=>h t (by simp[ht]);simp only[ak,e];have:=fun cs=>oY (ps:=ps) (cs:=cs) (fun t ht=>h t (by simp only[List.flatMap_cons,List.mem_append];exact .inr ht));split
  ·split<;>first|rfl|exact this _
  ·rfl
theorem yK{ρ ρ':am}{op:OP}(h:∀t∈op.slots,get ρ t=get ρ' t):pv C op ρ σ=pv C op ρ' σ:=by
 have two:∀{x y:X},(∀t∈x.slots++y.slots,get ρ t=get ρ' t)→ev C ρ x=ev C ρ' x∧ev C ρ y=ev C ρ' y:=fun h=>
  ⟨bB fun t ht=>h t (by simp[ht]),bB fun t ht=>h t (by simp[ht])⟩
 cases op<;>simp only[OP.slots]at h<;>simp only[pv]
 case pick c a b=>
  have e1:ev C ρ c=ev C ρ' c:=bB fun t ht=>h t (by simp[ht]);have e2:ev C ρ a=ev C ρ' a:=bB fun t ht=>h t (by simp[ht]);have e3:ev C ρ b=ev C ρ' b:=bB fun t ht=>h t (by simp[ht]);rw[e1,e2,e3]
 case clip c a b=>
  have e1:ev C ρ c=ev C ρ' c:=bB fun t ht=>h t (by simp[ht]);have e2:ev C ρ a=ev C ρ' a:=bB fun t ht=>h t (by simp[ht]);have e3:ev C ρ b=ev C ρ' b:=bB fun t ht=>h t (by simp[ht]);rw[e1,e2,e3]
 case bin o x y=>rw[(two h).1,(two h).2]
 case binb o x y=>rw[(two h).1,(two h).2]
 case ia k x y=>rw[(two h).1,(two h).2]
 case aa k m x y=>rw[(two h).1,(two h).2]
 case ix x y=>rw[(two h).1,(two h).2]
 case mx g x y=>rw[(two h).1,(two h).2]
 case mlk st ok z x y=>rw[(two h).1,(two h).2]
 case bld zs ps=>rw[oY h]
 case mkfn f cap=>rw[gV h]
 case mkbd f first=>rw[gV h]
 case sub s k x lo hi=>
  have e1:ev C ρ x=ev C ρ' x:=bB fun t ht=>h t (by simp[ht])
  have e2:lo.map (ev C ρ)=lo.map (ev C ρ'):=by
   cases lo with
   | none=>rfl
   | some y=>simp only[Option.map_some];rw[bB fun t ht=>h t (by simp[ht])]
  have e3:hi.map (ev C ρ)=hi.map (ev C ρ'):=by
   cases hi with
   | none=>rfl
   | some y=>simp only[Option.map_some];rw[bB fun t ht=>h t (by simp[ht])]
  rw[e1,e2,e3]
 case eqa neq T ks x y=>
  have e1:ev C ρ x=ev C ρ' x:=bB fun t ht=>h t (by simp[ht]);have e2:ev C ρ y=ev C ρ' y:=bB fun t ht=>h t (by simp[ht]);rw[e1,e2]
 all_goals first
  | rfl
  | rw[bB h]
theorem iE{ρ ρ':am}{op:OP}{k:V→Prop}(h:∀t∈op.slots,get ρ t=get ρ' t)(hc:bz C op ρ σ k):bz C op ρ' σ k:=by
 unfold bz at hc;split at hc
 ·rename_i f args;have e:(args.map fun x=>(ev C ρ x).lend)=args.map fun x=>(ev C ρ' x).lend:=List.map_congr_left fun x hx=>by rw[bB fun t ht=>h t (List.mem_flatMap.2 ⟨x,hx,ht⟩)]
  rw[e]at hc;exact hc
 ·rename_i x args;simp only[OP.slots]at h;have e:(args.map fun x=>(ev C ρ x).lend)=args.map fun x=>(ev C ρ' x).lend:=List.map_congr_left fun x hx=>by rw[bB fun t ht=>h t (List.mem_append_right _ (List.mem_flatMap.2 ⟨x,hx,ht⟩))]
  have e2:ev C ρ x=ev C ρ' x:=bB fun t ht=>h t (by simp[ht]);rw[e,e2]at hc;exact hc
 ·rename_i T kk xs;rw[gV (C:=C) h]at hc;exact hc
 ·rename_i f args;have e:(args.map fun x=>(ev C ρ x).copy)=args.map fun x=>(ev C ρ' x).copy:=List.map_congr_left fun x hx=>by rw[bB fun t ht=>h t (List.mem_flatMap.2 ⟨x,hx,ht⟩)]
  rw[e]at hc;exact hc
 ·rename_i n1 n2 n3 n4;rw[yK h]at hc;unfold bz;split
  ·exact absurd rfl (n1 _ _)
  ·exact absurd rfl (n2 _ _)
  ·exact absurd rfl (n3 _ _ _)
  ·exact absurd rfl (n4 _ _)
  ·exact hc
theorem Loc.congr{ρ ρ':am}{o:O}{x:V}(h:∀t∈o.looks,get ρ t=get ρ' t)(hc:Loc C o ρ σ x):Loc C o ρ' σ x:=by
 unfold O.looks at h;unfold Loc at hc ⊢;split at hc
 ·rename_i hg;rw[hg]at h;exact iE (fun t ht=>h t (by simp[ht])) hc
 ·rename_i t want hg;rw[hg]at h;have e:get ρ t=get ρ' t:=h t (by simp);rw[e]at hc;split at hc
  ·rename_i b hb;exact⟨fun hw=>iE (fun t ht=>h t (by simp[ht])) (hc.1 hw),hc.2⟩
  ·exact hc
  ·exact hc.elim
theorem mh:∀{l:List O} {ρ:am} {k:Nat} {K:am→Prop},aU C l ρ σ K→
 ∃xs:List V,xs.length=l.length∧(∃ρ',K ρ'∧∀t,get ρ' t=get (bq (bw l xs k fun _=>true) ρ) t)∧
  ∀i (h:i<l.length) (h':i<xs.length),∃ρi,Loc C l[i] ρi σ xs[i]∧∀t,get ρi t=get (bq (bw l xs k fun j=>decide (j<k+i)) ρ) t
 | [],ρ,k,K,h=>⟨[],rfl,⟨ρ,h,fun _=>rfl⟩,fun i h=>by simp at h⟩
 | o::r,ρ,k,K,h=>by
  have key:∀x ρ2,(∀t,get ρ2 t=get ρ t)→Loc C o ρ σ x→aU C r (putd ρ2 o.dst x) σ K→∃xs:List V,xs.length=(o::r).length∧(∃ρ',K ρ'∧∀t,get ρ' t=get (bq (bw (o::r) xs k fun _=>true) ρ) t)∧
   ∀i (h:i<(o::r).length) (h':i<xs.length),∃ρi,Loc C (o::r)[i] ρi σ xs[i]∧∀t,get ρi t=get (bq (bw (o::r) xs k fun j=>decide (j<k+i)) ρ) t:=by
   intro x ρ2 h2e hx hr;obtain⟨xs,h1,⟨ρ',h2,h3⟩,h4⟩:=mh (k:=k+1) hr;have hput:∀t,get (putd ρ2 o.dst x) t=get (putd ρ o.dst x) t:=fun t=>by rw[cK,cK,h2e]
   refine⟨x::xs,by simp[h1],⟨ρ',h2,fun t=>?_⟩,fun i hi hi'=>?_⟩
   ·simp only[bw,bq,if_true];rw[h3 t];exact jy _ _ _ _ (hput t)
   ·cases i with
    | zero=>
     refine⟨ρ,hx,fun t=>?_⟩;rw[eN];intro p hp _;obtain⟨j,hj,rfl⟩:=List.getElem_of_mem hp;have hl:=jp (o::r) (x::xs) k (fun j=>decide (j<k+0)) (by simp[h1]);rw[hl]at hj;rw[jq _ _ _ _ _ (by rw[hl];exact hj) hj (by simp[h1];simpa using hj)];simp
    | succ i=>
     obtain⟨ρi,g1,g2⟩:=h4 i (by simpa using hi) (by simpa using hi');refine⟨ρi,g1,fun t=>?_⟩;simp only[bw,bq];rw[if_pos (by simp),g2 t,show k+1+i=k+(i+1)by omega];exact jy _ _ _ _ (hput t)
  have know:∀{t:Nat} {b c:Bool},get ρ t=.d (.lit (.bool b))→b=c→∀s,get (put ρ t (.d (.lit (.bool c)))) s=get ρ s:=fun hb hc s=>by
   rw[bI];split
   ·rename_i e;subst e;subst hc;exact hb.symm
   ·rfl
  simp only[aU]at h;split at h
  ·rename_i hg;obtain⟨v,h1,h2⟩:=gj h;exact key v ρ (fun _=>rfl) (by unfold Loc;rw[hg];exact h1) h2
  ·rename_i t want hg;split at h
   ·rename_i b hb;by_cases e:b=want
    ·obtain⟨v,h1,h2⟩:=gj (h.1 e);exact key v _ (know hb e) (by unfold Loc;rw[hg];simp only;rw[hb];exact⟨fun _=>iE (fun s _=>know hb e s) h1,fun ne=>absurd e ne⟩) h2
    ·exact key (.tup []) _ (know hb (c:=!want) (by cases b<;>cases want<;>simp_all)) (by unfold Loc;rw[hg];simp only;rw[hb];exact⟨(fun ee=>absurd ee e),(fun _=>by trivial)⟩) (h.2 e)
   ·rename_i hb;exact key (.tup []) ρ (fun _=>rfl) (by unfold Loc;rw[hg];simp only;rw[hb];trivial) h
   ·exact h.elim
end
end Go.Proofs.YtcbahpllcfbkmaaGreatDoor
namespace Go.Proofs.YtcbahpllcfbkmaaGreatDoor
open Go.RowKit
theorem lL:∀(os:List Oper) (acc:List (List Nat)),(aO os acc).length=acc.length+os.length∧∀i,i<acc.length→(aO os acc)[i]? = acc[i]?
 | [],acc=>⟨rfl,fun _ _=>rfl⟩
 | o::r,acc=>by
  obtain⟨h1,h2⟩:=lL r (acc++[aE o++(aE o).flatMap fun j=>acc.getD j []]);simp only[aO];refine⟨by rw[h1];simp;omega,fun i hi=>?_⟩;rw[h2 i (by simp;omega),List.getElem?_append_left hi]
theorem s6(os:List Oper):∀(acc:List (List Nat)) (i:Nat) (o:Oper),os[i]? = some o→∃pre:List (List Nat),(aO os acc)[acc.length+i]? = some (aE o++(aE o).flatMap fun j=>pre.getD j [])∧∀j,j<acc.length+i→pre[j]? = (aO os acc)[j]? := by
 induction os with
 | nil=>intro acc i o h;simp at h
 | cons o' r ih=>
  intro acc i o h;simp only[aO];cases i with
  | zero=>
   simp at h;subst h;obtain⟨h1,h2⟩:=lL r (acc++[aE o'++(aE o').flatMap fun j=>acc.getD j []]);refine⟨acc,?_,fun j hj=>?_⟩
   ·rw[h2 _ (by simp)];rw[List.getElem?_append_right (by simp)];simp
   ·rw[h2 j (by simp;omega),List.getElem?_append_left (by omega)]
  | succ i=>
   obtain⟨pre,h1,h2⟩:=ih (acc++[aE o'++(aE o').flatMap fun j=>acc.getD j []]) i o (by simpa using h);rw[List.length_append,List.length_singleton]at h1 h2;rw[show acc.length+(i+1)=acc.length+1+i by omega];exact⟨pre,h1,h2⟩
theorem dc{os:List Oper}(hlt:∀(i:Nat) (o:Oper),os[i]? = some o→∀j∈aE o,j<i){S:Nat→Prop}(hcl:∀(i:Nat) (o:Oper),os[i]? = some o→S i→∀j∈aE o,S j):
 ∀(i:Nat) (o:Oper),os[i]? = some o→(∀j∈aE o,S j)→∀j∈(aO os []).getD i [],S j:=by
 intro i
 induction i using Nat.strongRecOn with
 | _ i ih=>
 intro o ho he j hj;obtain⟨pre,h1,h2⟩:=s6 os [] i o ho;simp only[List.length_nil,Nat.zero_add]at h1 h2;rw[List.getD_eq_getElem?_getD,h1,Option.getD_some]at hj;rcases List.mem_append.1 hj with hj|hj
 ·exact he j hj
 ·obtain⟨e,g1,g2⟩:=List.mem_flatMap.1 hj;have hei:=hlt i o ho e g1;rw[List.getD_eq_getElem?_getD,h2 e hei,←List.getD_eq_getElem?_getD]at g2;have hlen:e<os.length:=by have:=(List.getElem?_eq_some_iff.1 ho).1;omega
  exact ih e hei os[e] (List.getElem?_eq_getElem hlen) (hcl e _ (List.getElem?_eq_getElem hlen) (he e g1)) j g2
theorem qw{l:List O}{os:List Oper}(hl:l.length=os.length)(h:mE l os=true):
 (∀(i:Nat) (o:Oper),os[i]? = some o→∀j∈aE o,j<i)∧
 ∀(i:Nat) (o:O),l[i]? = some o→∀t∈o.looks++o.dst.toList,∀(j:Nat) (p:O),l[j]? = some p→p.dst=some t→j≠i→(j<i∧j∈(aO os []).getD i [])∨(i<j∧i∈(aO os []).getD j []):=by
 unfold mE at h;simp only[List.all_eq_true,List.mem_range,Bool.and_eq_true]at h;refine⟨fun i o ho j hj=>?_,fun i o ho t ht j p hp hd hne=>?_⟩
 ·have:=(h i (List.getElem?_eq_some_iff.1 ho).1).1;rw[ho]at this;simpa using List.all_eq_true.1 this j hj
 ·have h1:=(h i (by rw[←hl];exact(List.getElem?_eq_some_iff.1 ho).1)).2;rw[ho]at h1;simp only[List.all_eq_true,List.mem_range]at h1;have h2:=h1 t ht j (List.getElem?_eq_some_iff.1 hp).1;rw[hp]at h2;simp only[hd,Bool.or_eq_true,beq_iff_eq,bne_self_eq_false,Bool.false_eq_true,false_or]at h2;rcases h2 with h2|h2
  ·exact absurd h2 hne
  ·split at h2
   ·exact .inl ⟨by assumption,by simpa using h2⟩
   ·exact .inr ⟨by omega,by simpa using h2⟩
theorem jd{tab:Tab}{n:Nat}{ops:Array Oper}:∀{l:List O} {os:List Oper},il tab n ops l os=true→l.length=os.length∧∀(i:Nat) (o:O) (o':Oper),l[i]? = some o→os[i]? = some o'→okO tab n ops o o'=true
 | [],[],_=>⟨rfl,fun i o o' h=>by simp at h⟩
 | o::l,o'::os,h=>by
  simp only[il,Bool.and_eq_true]at h;obtain⟨h1,h2⟩:=jd h.2;refine⟨by simp[h1],fun i p p' hp hp'=>?_⟩;cases i with
  | zero=>simp at hp hp';subst hp;subst hp';exact h.1
  | succ i=>exact h2 i p p' (by simpa using hp) (by simpa using hp')
 | [],_::_,h=>by cases h
 | _::_,[],h=>by cases h
section
variable {C : Cx} {pr : Prot} {ρ : am} {σ : List (List V)} {n : Nat} {Q : AEx → am → List (List V) → Prop}
theorem SRel.congr{M:av}{bm:List Nat}{tk:aY}{ρ ρ':am}{a:Act}{w:World}(h:SRel M bm tk pr ρ σ n a w)(he:∀t,get ρ' t=get ρ t):SRel M bm tk pr ρ' σ n a w:=
 ⟨h.inv,h.defers,h.size,fun t=>by rw[he];exact h.slots t⟩
theorem m4{op:OP}{ρ:am}{x:V}{dst:Option Nat}(h:bz C op ρ σ fun v=>v=x):cY C op dst ρ σ (fun ρ' σ'=>ρ'=putd ρ dst x∧σ'=σ) (fun _ _ _=>False):=by
 unfold bz at h;split at h
 ·obtain⟨v,h1,rfl⟩:=h;exact h1.mono fun o σ' ⟨e1,e2⟩=>by subst e1;exact⟨rfl,e2⟩
 ·split at h
  ·rename_i f cap e;obtain⟨v,h1,rfl⟩:=h;simp only[cY,e];exact h1.mono fun o σ' ⟨e1,e2⟩=>by subst e1;exact⟨rfl,e2⟩
  ·exact h.elim
 ·split at h
  ·rename_i rows e;obtain⟨h1,rfl⟩:=h;simp only[cY,e];exact⟨h1,trivial,trivial⟩
  ·exact h.elim
 ·obtain⟨v,h1,rfl⟩:=h;exact h1.mono fun o σ' ⟨e1,e2⟩=>by subst e1;exact⟨rfl,e2⟩
 ·split at h
  ·rename_i v hp e;subst h;cases op<;>simp only[ci]at hp<;>first|(cases hp;done)|skip
   all_goals
    unfold cY;simp only;rw[e];constructor<;>trivial
  ·exact h.elim
theorem gH:∀(l:List Bool) (i:Nat),l[i]? = some false→((l.set i true).filter (! ·)).length+1=(l.filter (! ·)).length
 | b::l,0,h=>by simp at h;subst h;simp
 | b::l,i+1,h=>by
  have:=gH l i (by simpa using h);cases b<;>simp only[List.set_cons_succ,List.filter_cons]<;>simp<;>omega
theorem sb{M0:av}{bm0:List Nat}{w0:World}(hG:C.glob M0 pr w0){id:Nat}{ops:Array Oper}{l:List O}{M:av}{bm:List Nat}{tk:aY}{a:Act}{w:World}(hok:il C.tab n ops l ops.toList=true)(hdr:mE l ops.toList=true)
 (hl:Later M0 bm0 pr w0 M bm w)(h:SRel M bm tk pr ρ σ n a w)(hq:aU C l ρ σ fun ρ'=>Q .normal ρ' σ):(Code.region id ops true).wp C.P (bA M0 bm0 pr w0 n Q) a w:=by
 obtain⟨hlen,hget⟩:=jd hok;obtain⟨hlt,hcmp⟩:=qw hlen hdr;obtain⟨xs,hxl,⟨ρf,hρf,hρe⟩,hloc⟩:=mh (k:=0) hq;have hnl:l.length=ops.size:=by rw[hlen];simp
 refine wp_region_any C.mixed ?_;have hsteps:∀S:Nat→Bool,(bw l xs 0 S).length=l.length:=fun S=>jp l xs 0 S hxl
 have hsg:∀(S:Nat→Bool) (i:Nat) (hi:i<(bw l xs 0 S).length) (h1:i<l.length),(bw l xs 0 S)[i]=(l[i].dst,xs[i]'(by omega),S i):=fun S i hi h1=>by
  have:=jq l xs 0 S i hi h1 (by omega);simpa using this
 suffices H:∀(fuel:Nat) (listed:Array Bool) (M:av) (tk:aY) (a:Act) (w:World),Later M0 bm0 pr w0 M bm w→SRel M bm tk pr (bq (bw l xs 0 fun i=>listed.getD i false) ρ) σ n a w→listed.size=l.length→
  (∀(i:Nat) (o:Oper),ops.toList[i]? = some o→listed.getD i false=true→∀j∈aE o,listed.getD j false=true)→(listed.toList.filter (! ·)).length=fuel→wpAny C.P .any ops (bA M0 bm0 pr w0 n Q) fuel listed a w by
  obtain⟨h1,h2⟩:=h.ext (co.drew w);refine H ops.size (Array.replicate ops.size false) M tk a w.drew (hl.trans h2 (fun _ h=>h)) (h1.congr fun t=>?_) (by simp[hnl]) (fun i o ho hi=>?_) (by simp)
  ·rw[eN];intro p hp _;obtain⟨j,hj,rfl⟩:=List.getElem_of_mem hp;rw[hsteps]at hj;rw[hsg _ j (by rw[hsteps];exact hj) hj];simp[Array.getD_eq_getD_getElem?,Array.getElem?_replicate];split<;>rfl
  ·simp[Array.getD_eq_getD_getElem?,Array.getElem?_replicate]at hi;split at hi<;>cases hi
 intro fuel
 induction fuel with
 | zero=>
  intro listed M tk a w hl h hsz hcl hcnt
  have hall:∀i,i<l.length→listed.getD i false=true:=fun i hi=>by
   have hb:listed[i]? = some (listed[i]'(by omega)):=Array.getElem?_eq_getElem _;rw[Array.getD_eq_getD_getElem?,hb,Option.getD_some];have hne:listed.toList.filter (! ·)=[]:=List.eq_nil_of_length_eq_zero hcnt;have:=List.filter_eq_nil_iff.1 hne (listed[i]'(by omega)) (by simp);simpa using this
  refine⟨?_,M,bm,tk,ρf,σ,.normal,hρf,.normal,h.congr (fun t=>?_),hl⟩
  ·unfold Region.ready;rw[List.filter_eq_nil_iff];intro i hi;have hi':i<l.length:=by rw[hnl];simpa using hi
   have h9:=hall i hi'
   have:listed.getD i true=true:=by
    have hb:listed[i]? = some (listed[i]'(by omega)):=Array.getElem?_eq_getElem _;rw[Array.getD_eq_getD_getElem?,hb,Option.getD_some]at h9 ⊢;exact h9
   simp[this]
  ·rw[hρe t];refine du _ _ ρ t (by rw[hsteps,hsteps]) (fun i g1 g2=>?_);rw[hsteps]at g1;rw[hsg _ i (by rw[hsteps];exact g1) g1,hsg _ i (by rw[hsteps];exact g1) g1];exact⟨rfl,rfl,fun _=>(hall i g1).symm⟩
 | succ fuel ih=>
  intro listed M tk a w hl h hsz hcl hcnt;refine⟨fun hnil=>?_,fun i hi=>?_⟩
  ·exfalso
   have hex:∃i,i<l.length∧listed.getD i false=false:=by
    apply Classical.byContradiction;intro hno
    have hne:listed.toList.filter (! ·)=[]:=by
     rw[List.filter_eq_nil_iff];intro b hb;obtain⟨i,hi,rfl⟩:=List.getElem_of_mem hb;have hi':i<listed.size:=by simpa using hi
     have h9:¬listed.getD i false=false:=fun e=>hno ⟨i,by omega,e⟩;have hb:listed[i]? = some listed[i]:=Array.getElem?_eq_getElem hi';rw[Array.getD_eq_getD_getElem?,hb,Option.getD_some]at h9;simpa using h9
    rw[hne]at hcnt;simp at hcnt
   have hmin:∃i,i<l.length∧listed.getD i false=false∧∀j,j<i→listed.getD j false=true:=by
    obtain⟨i,h1,h2⟩:=hex
    induction i using Nat.strongRecOn with
    | _ i ihm=>
    by_cases hj:∃j,j<i∧listed.getD j false=false
    ·obtain⟨j,g1,g2⟩:=hj;exact ihm j g1 (by omega) g2
    ·exact⟨i,h1,h2,fun j hji=>by
      cases hb:listed.getD j false with
      | true=>rfl
      | false=>exact absurd ⟨j,hji,hb⟩ hj⟩
   obtain⟨i,h1,h2,h3⟩:=hmin;have hio:i<ops.toList.length:=by rw[←hlen];exact h1
   have:i∈Region.ready .any ops listed:=by
    unfold Region.ready;rw[List.mem_filter];refine⟨by simp;omega,?_⟩
    have ht:listed.getD i true=false:=by
     have hb:listed[i]? = some (listed[i]'(by omega)):=Array.getElem?_eq_getElem _;rw[Array.getD_eq_getD_getElem?,hb,Option.getD_some]at h2 ⊢;exact h2
    have ho:ops[i]? = some (ops[i]'(by omega)):=Array.getElem?_eq_getElem _;rw[ht,ho];simp only[Bool.not_false,Bool.true_and,Option.map_some,Option.getD_some];rw[←Array.all_toList,List.all_eq_true];intro e he;cases hb:Region.binds .any e with
    | false=>rfl
    | true=>
     have:e.on∈aE (ops[i]'(by omega)):=by
      unfold aE;exact List.mem_map.2 ⟨e,List.mem_filter.2 ⟨he,hb⟩,rfl⟩
     simp[h3 e.on (hlt i _ (by rw[List.getElem?_eq_getElem hio];simp) e.on this)]
   rw[hnil]at this;cases this
  ·unfold Region.ready at hi;rw[List.mem_filter]at hi;obtain⟨hir,hic⟩:=hi;have hi1:i<ops.size:=by simpa using hir
   have hi2:i<l.length:=by omega
   have ho:ops[i]? = some ops[i]:=Array.getElem?_eq_getElem hi1;have hoL:ops.toList[i]? = some ops[i]:=by rw[Array.getElem?_toList];exact ho
   rw[ho]at hic;simp only[Option.map_some,Option.getD_some,Bool.and_eq_true,Bool.not_eq_true']at hic;obtain⟨hun,hed⟩:=hic
   have hun':listed[i]? = some false:=by
    have hb:listed[i]? = some (listed[i]'(by omega)):=Array.getElem?_eq_getElem _;rw[Array.getD_eq_getD_getElem?,hb,Option.getD_some]at hun;rw[hb,hun]
   have hunf:listed.getD i false=false:=by rw[Array.getD_eq_getD_getElem?,hun'];rfl
   have hedge:∀j∈aE ops[i],listed.getD j false=true:=by
    intro j hj;unfold aE at hj;obtain⟨e,he,rfl⟩:=List.mem_map.1 hj;rw[List.mem_filter]at he;rw[←Array.all_toList,List.all_eq_true]at hed;have:=hed e he.1;simpa[he.2]using this
   have hbef:=dc hlt (S:=fun j=>listed.getD j false=true) hcl i _ hoL hedge
   have hlist:∀j p,l[j]? = some p→listed.getD j false=true→∀q∈(aO ops.toList []).getD j [],listed.getD q false=true:=fun j p hj hjl=>by
    have hjo:j<ops.toList.length:=by rw[←hlen];exact(List.getElem?_eq_some_iff.1 hj).1
    exact dc hlt (S:=fun j=>listed.getD j false=true) hcl j _ (List.getElem?_eq_getElem hjo) (hcl j _ (List.getElem?_eq_getElem hjo) hjl)
   have hsame:∀t∈l[i].looks++l[i].dst.toList,∀j (hj:j<l.length),j≠i→l[j].dst=some t→(listed.getD j false=decide (j<i)):=by
    intro t ht j hj hne hd;rcases hcmp i l[i] (List.getElem?_eq_getElem hi2) t ht j l[j] (List.getElem?_eq_getElem hj) hd hne with⟨g1,g2⟩|⟨g1,g2⟩
    ·rw[hbef j g2];simp[g1]
    ·have:¬listed.getD j false=true:=fun hjl=>by
      have:=hlist j l[j] (List.getElem?_eq_getElem hj) hjl i g2;rw[hunf]at this;cases this
     have e:listed.getD j false=false:=by simpa using this
     rw[e];simp;omega
   obtain⟨ρi,hL,hρi⟩:=hloc i hi2 (by omega)
   have hgetL:∀t∈l[i].looks,get ρi t=get (bq (bw l xs 0 fun i=>listed.getD i false) ρ) t:=by
    intro t ht;rw[hρi t];refine du _ _ ρ t (by rw[hsteps,hsteps]) (fun j g1 g2=>?_);rw[hsteps]at g1;rw[hsg _ j (by rw[hsteps];exact g1) g1,hsg _ j (by rw[hsteps];exact g1) g1];refine⟨rfl,rfl,fun hd=>?_⟩;simp only[Nat.zero_add];by_cases e:j=i
    ·subst e;rw[hunf];simp
    ·exact(hsame t (by simp[ht]) j g1 e hd).symm
   have hL2:=hL.congr hgetL
   have hnext:∀t,get (bq (bw l xs 0 fun j=>(listed.setIfInBounds i true).getD j false) ρ) t=get (putd (bq (bw l xs 0 fun j=>listed.getD j false) ρ) l[i].dst (xs[i]'(by omega))) t:=by
    intro t
    have hset:∀j,(listed.setIfInBounds i true).getD j false=if j=i then true else listed.getD j false:=fun j=>by
     rw[Array.getD_eq_getD_getElem?,Array.getD_eq_getD_getElem?];split
     ·rename_i e;subst e;rw[Array.getElem?_setIfInBounds_self_of_lt (by omega)];rfl
     ·rename_i e;rw[Array.getElem?_setIfInBounds_ne (Ne.symm e)]
    rw[cK];split
    ·rename_i e
     have:=m8 (bw l xs 0 fun j=>(listed.setIfInBounds i true).getD j false) ρ i (by rw[hsteps];exact hi2) t (by rw[hsg _ i _ hi2];exact e) (by rw[hsg _ i _ hi2,hset];simp) (fun j hj hij hd=>by
      rw[hsteps]at hj;rw[hsg _ j _ hj]at hd ⊢;simp only at hd ⊢;rw[hset,if_neg (by omega),hsame t (by simp[e]) j hj (by omega) hd];simp;omega)
     rw[this,hsg _ i _ hi2]
    ·rename_i e;refine du _ _ ρ t (by rw[hsteps,hsteps]) (fun j g1 g2=>?_);rw[hsteps]at g1;rw[hsg _ j (by rw[hsteps];exact g1) g1,hsg _ j (by rw[hsteps];exact g1) g1];refine⟨rfl,rfl,fun hd=>?_⟩;simp only at hd ⊢;rw[hset,if_neg (fun ee=>by subst ee;exact e hd)]
   have hnextcl:∀(q:Nat) (o:Oper),ops.toList[q]? = some o→(listed.setIfInBounds i true).getD q false=true→∀j∈aE o,(listed.setIfInBounds i true).getD j false=true:=by
    have hset:∀j,(listed.setIfInBounds i true).getD j false=if j=i then true else listed.getD j false:=fun j=>by
     rw[Array.getD_eq_getD_getElem?,Array.getD_eq_getD_getElem?];split
     ·rename_i e;subst e;rw[Array.getElem?_setIfInBounds_self_of_lt (by omega)];rfl
     ·rename_i e;rw[Array.getElem?_setIfInBounds_ne (Ne.symm e)]
    intro q o hqo hql j hj;rw[hset]at hql ⊢;split
    ·rfl
    ·split at hql
     ·rename_i e;subst e;rw[hoL]at hqo;cases hqo;exact hedge j hj
     ·exact hcl q o hqo hql j hj
   have hnextc:((listed.setIfInBounds i true).toList.filter (! ·)).length=fuel:=by
    have:=gH listed.toList i (by rw[Array.getElem?_toList];exact hun');rw[Array.toList_setIfInBounds];omega
   have hoo:=hget i l[i] ops[i] (List.getElem?_eq_getElem hi2) hoL
   have hdst:l[i].dst=ops[i].dst:=by
    unfold okO at hoo;simp only[Bool.and_eq_true,beq_iff_eq]at hoo;exact hoo.1.1.2
   have hdn:∀d,ops[i].dst=some d→d<n:=by
    unfold okO at hoo;simp only[Bool.and_eq_true]at hoo;intro d hd;have:=hoo.1.2;rw[hd]at this;simpa using this
   have hgd:=hoo;unfold okO at hgd;simp only[Bool.and_eq_true]at hgd;replace hgd:=hgd.2
   have exec:bz C l[i].op (bq (bw l xs 0 fun i=>listed.getD i false) ρ) σ (fun v=>v=xs[i]'(by omega))→(ops[i]).wp C.P a w (wpAny C.P .any ops (bA M0 bm0 pr w0 n Q) fuel (listed.setIfInBounds i true)) (bA M0 bm0 pr w0 n Q):=fun hc=>by
    refine Oper.wp_mono2 (fun a' w' hL=>?_) (fun e a' w' hL=>?_) (cM (hG.mono hl) h hoo (m4 hc))
    ·obtain⟨M',bm',tk',ρ',σ',⟨rfl,rfl⟩,k2,k3⟩:=hL
     have hbm:bm'=bm:=by
      obtain⟨t,rfl⟩:=k3.pre;have e1:=k2.inv.len;have e2:=h.inv.len;have:t=[]:=List.eq_nil_of_length_eq_zero (by simp at e1;omega);simp[this]
     subst hbm;exact ih _ M' tk' a' w' (hl.trans k3 (fun _ h=>h)) (k2.congr hnext) (by simp[hsz]) hnextcl hnextc
    ·obtain⟨_,_,_,_,_,_,hf,_⟩:=hL;exact hf.elim
   unfold wpOp;rw[ho];simp only;unfold Loc at hL2;split at hL2
   ·rename_i hg;rw[hg]at hgd;split at hgd
    ·rename_i hg2;rw[if_pos (by simp[Region.wanted,hg2])];exact .inl (exec hL2)
    ·rename_i e _;cases e
    ·cases hgd
   ·rename_i t want hg;rw[hg]at hgd;split at hgd
    ·rename_i e _;cases e
    ·rename_i t' b' j b'' e hg2;cases e;simp only[Bool.and_eq_true,beq_iff_eq]at hgd;obtain⟨rfl,hj⟩:=hgd;split at hL2
     ·rename_i b hb;have hy:=gh h hb hj;by_cases hbw:b=want
      ·rw[if_pos (by simp[Region.wanted,hg2,hy,hbw])];exact .inl (exec (hL2.1 hbw))
      ·rw[if_neg (by simp[Region.wanted,hg2,hy,hbw])];have hx:=hL2.2 hbw;refine ih _ M tk _ w hl ((h.putd hdn iz (by simp)).congr fun t=>?_) (by simp[hsz]) hnextcl hnextc;rw[hnext t,hx,hdst]
     ·rename_i hb;have hy:=kD h hb hj;rw[if_neg (by simp[Region.wanted,hg2,hy])];refine ih _ M tk _ w hl ((h.putd hdn iz (by simp)).congr fun t=>?_) (by simp[hsz]) hnextcl hnextc;rw[hnext t,hL2,hdst]
     ·exact hL2.elim
    ·cases hgd
end
end Go.Proofs.YtcbahpllcfbkmaaGreatDoor
namespace Go.Proofs.YtcbahpllcfbkmaaGreatDoor
open Go.RowKit
section
variable {C : Cx} {pr : Prot} {n : Nat} {Q : AEx → am → List (List V) → Prop}
theorem zS{M0:av}{bm0:List Nat}{w0:World}{id:Nat}{ops:Array Oper}{M:av}{bm:List Nat}{tk:aY}{a:Act}{w:World}(St:(Nat→Bool)→am)(Sg:(Nat→Bool)→List (List V))(ρf:am)(σf:List (List V))
 (hlt:∀(i:Nat) (o:Oper),ops.toList[i]? = some o→∀j∈aE o,j<i)
 (hext:∀S S',(∀j,j<ops.size→S j=S' j)→(∀t,get (St S) t=get (St S') t)∧Sg S=Sg S')
 (hl:Later M0 bm0 pr w0 M bm w)(h:SRel M bm tk pr (St fun _=>false) (Sg fun _=>false) n a w)
 (hf:(∀t,get ρf t=get (St fun _=>true) t)∧σf=Sg fun _=>true)(hq:Q .normal ρf σf)
 (step:∀(S:Nat→Bool) (i:Nat) (o:Oper),ops.toList[i]? = some o→S i=false→(∀(j:Nat) (p:Oper),ops.toList[j]? = some p→S j=true→∀e∈aE p,S e=true)→(∀e∈aE o,S e=true)→
   ∀(M:av) (bm:List Nat) (tk:aY) (a:Act) (w:World),Later M0 bm0 pr w0 M bm w→SRel M bm tk pr (St S) (Sg S) n a w→
    if Region.wanted o (yielded ops a.tmps)then o.wp C.P a w (jF M bm pr w n fun ρ' σ'=>(∀t,get ρ' t=get (St fun j=>j==i||S j) t)∧σ'=Sg fun j=>j==i||S j) (bA M bm pr w n fun _ _ _=>False)
    else SRel M bm tk pr (St fun j=>j==i||S j) (Sg fun j=>j==i||S j) n (a.put o.dst undef) w):
 (Code.region id ops true).wp C.P (bA M0 bm0 pr w0 n Q) a w:=by
 refine wp_region_any C.mixed ?_
 suffices H:∀(fuel:Nat) (listed:Array Bool) (M:av) (bm:List Nat) (tk:aY) (a:Act) (w:World),Later M0 bm0 pr w0 M bm w→SRel M bm tk pr (St fun i=>listed.getD i false) (Sg fun i=>listed.getD i false) n a w→listed.size=ops.size→
  (∀(i:Nat) (o:Oper),ops.toList[i]? = some o→listed.getD i false=true→∀j∈aE o,listed.getD j false=true)→(listed.toList.filter (! ·)).length=fuel→wpAny C.P .any ops (bA M0 bm0 pr w0 n Q) fuel listed a w by
  obtain⟨h1,h2⟩:=h.ext (co.drew w)
  have hrep:∀j,(Array.replicate ops.size false).getD j false=false:=fun j=>by
   simp only[Array.getD_eq_getD_getElem?,Array.getElem?_replicate];split<;>rfl
  obtain⟨e1,e2⟩:=hext (fun i=>(Array.replicate ops.size false).getD i false) (fun _=>false) (fun j _=>hrep j);refine H ops.size (Array.replicate ops.size false) M bm tk a w.drew (hl.trans h2 (fun _ h=>h)) ?_ (by simp) (fun i o ho hi=>?_) (by simp)
  ·rw[e2];exact h1.congr e1
  ·rw[hrep]at hi;cases hi
 intro fuel
 induction fuel with
 | zero=>
  intro listed M bm tk a w hl h hsz hcl hcnt
  have hall:∀i,i<ops.size→listed.getD i false=true:=fun i hi=>by
   have hb:listed[i]? = some (listed[i]'(by omega)):=Array.getElem?_eq_getElem _;rw[Array.getD_eq_getD_getElem?,hb,Option.getD_some];have hne:listed.toList.filter (! ·)=[]:=List.eq_nil_of_length_eq_zero hcnt;have:=List.filter_eq_nil_iff.1 hne (listed[i]'(by omega)) (by simp);simpa using this
  obtain⟨e1,e2⟩:=hext (fun i=>listed.getD i false) (fun _=>true) hall;refine⟨?_,M,bm,tk,ρf,σf,.normal,hq,.normal,?_,hl⟩
  ·unfold Region.ready;rw[List.filter_eq_nil_iff];intro i hi;have hi':i<ops.size:=by simpa using hi
   have h9:=hall i hi'
   have:listed.getD i true=true:=by
    have hb:listed[i]? = some (listed[i]'(by omega)):=Array.getElem?_eq_getElem _;rw[Array.getD_eq_getD_getElem?,hb,Option.getD_some]at h9 ⊢;exact h9
   simp[this]
  ·rw[hf.2,←e2];exact h.congr fun t=>(hf.1 t).trans (e1 t).symm
 | succ fuel ih=>
  intro listed M bm tk a w hl h hsz hcl hcnt;refine⟨fun hnil=>?_,fun i hi=>?_⟩
  ·exfalso
   have hex:∃i,i<ops.size∧listed.getD i false=false:=by
    apply Classical.byContradiction;intro hno
    have hne:listed.toList.filter (! ·)=[]:=by
     rw[List.filter_eq_nil_iff];intro b hb;obtain⟨i,hi,rfl⟩:=List.getElem_of_mem hb;have hi':i<listed.size:=by simpa using hi
     have h9:¬listed.getD i false=false:=fun e=>hno ⟨i,by omega,e⟩;have hb:listed[i]? = some listed[i]:=Array.getElem?_eq_getElem hi';rw[Array.getD_eq_getD_getElem?,hb,Option.getD_some]at h9;simpa using h9
    rw[hne]at hcnt;simp at hcnt
   have hmin:∃i,i<ops.size∧listed.getD i false=false∧∀j,j<i→listed.getD j false=true:=by
    obtain⟨i,h1,h2⟩:=hex
    induction i using Nat.strongRecOn with
    | _ i ihm=>
    by_cases hj:∃j,j<i∧listed.getD j false=false
    ·obtain⟨j,g1,g2⟩:=hj;exact ihm j g1 (by omega) g2
    ·exact⟨i,h1,h2,fun j hji=>by
      cases hb:listed.getD j false with
      | true=>rfl
      | false=>exact absurd ⟨j,hji,hb⟩ hj⟩
   obtain⟨i,h1,h2,h3⟩:=hmin;have hio:i<ops.toList.length:=by simpa using h1
   have:i∈Region.ready .any ops listed:=by
    unfold Region.ready;rw[List.mem_filter];refine⟨by simp;omega,?_⟩
    have ht:listed.getD i true=false:=by
     have hb:listed[i]? = some (listed[i]'(by omega)):=Array.getElem?_eq_getElem _;rw[Array.getD_eq_getD_getElem?,hb,Option.getD_some]at h2 ⊢;exact h2
    have ho:ops[i]? = some (ops[i]'(by omega)):=Array.getElem?_eq_getElem _;rw[ht,ho];simp only[Bool.not_false,Bool.true_and,Option.map_some,Option.getD_some];rw[←Array.all_toList,List.all_eq_true];intro e he;cases hb:Region.binds .any e with
    | false=>rfl
    | true=>
     have:e.on∈aE (ops[i]'(by omega)):=by
      unfold aE;exact List.mem_map.2 ⟨e,List.mem_filter.2 ⟨he,hb⟩,rfl⟩
     simp[h3 e.on (hlt i _ (by rw[List.getElem?_eq_getElem hio];simp) e.on this)]
   rw[hnil]at this;cases this
  ·unfold Region.ready at hi;rw[List.mem_filter]at hi;obtain⟨hir,hic⟩:=hi;have hi1:i<ops.size:=by simpa using hir
   have ho:ops[i]? = some ops[i]:=Array.getElem?_eq_getElem hi1;have hoL:ops.toList[i]? = some ops[i]:=by rw[Array.getElem?_toList];exact ho
   rw[ho]at hic;simp only[Option.map_some,Option.getD_some,Bool.and_eq_true,Bool.not_eq_true']at hic;obtain⟨hun,hed⟩:=hic
   have hun':listed[i]? = some false:=by
    have hb:listed[i]? = some (listed[i]'(by omega)):=Array.getElem?_eq_getElem _;rw[Array.getD_eq_getD_getElem?,hb,Option.getD_some]at hun;rw[hb,hun]
   have hunf:listed.getD i false=false:=by rw[Array.getD_eq_getD_getElem?,hun'];rfl
   have hedge:∀j∈aE ops[i],listed.getD j false=true:=by
    intro j hj;unfold aE at hj;obtain⟨e,he,rfl⟩:=List.mem_map.1 hj;rw[List.mem_filter]at he;rw[←Array.all_toList,List.all_eq_true]at hed;have:=hed e he.1;simpa[he.2]using this
   have hset:∀j,(listed.setIfInBounds i true).getD j false=(j==i||listed.getD j false):=fun j=>by
    rw[Array.getD_eq_getD_getElem?,Array.getD_eq_getD_getElem?];by_cases e:j=i
    ·subst e;rw[Array.getElem?_setIfInBounds_self_of_lt (by omega)];simp
    ·rw[Array.getElem?_setIfInBounds_ne (Ne.symm e)];simp[e]
   have hnextcl:∀(q:Nat) (o:Oper),ops.toList[q]? = some o→(listed.setIfInBounds i true).getD q false=true→∀j∈aE o,(listed.setIfInBounds i true).getD j false=true:=by
    intro q o hqo hql j hj;rw[hset]at hql ⊢;simp only[Bool.or_eq_true,beq_iff_eq]at hql ⊢;rcases hql with rfl|hql
    ·rw[hoL]at hqo;cases hqo;exact .inr (hedge j hj)
    ·exact .inr (hcl q o hqo hql j hj)
   have hnextc:((listed.setIfInBounds i true).toList.filter (! ·)).length=fuel:=by
    have:=gH listed.toList i (by rw[Array.getElem?_toList];exact hun');rw[Array.toList_setIfInBounds];omega
   obtain⟨e1,e2⟩:=hext (fun j=>(listed.setIfInBounds i true).getD j false) (fun j=>j==i||listed.getD j false) (fun j _=>hset j);have hst:=step (fun j=>listed.getD j false) i ops[i] hoL hunf hcl hedge M bm tk a w hl h;unfold wpOp;rw[ho];simp only;split at hst
   ·rename_i hw;rw[if_pos hw];refine .inl (Oper.wp_mono2 (fun a' w' hL=>?_) (fun e a' w' hL=>?_) hst)
    ·obtain⟨M',bm',tk',ρ',σ',⟨k0,rfl⟩,k2,k3⟩:=hL;refine ih _ M' bm' tk' a' w' (hl.trans k3 (fun _ h=>h)) ?_ (by simp[hsz]) hnextcl hnextc;rw[e2];exact k2.congr fun t=>(e1 t).trans (k0 t).symm
    ·obtain⟨_,_,_,_,_,_,hf,_⟩:=hL;exact hf.elim
   ·rename_i hw;rw[if_neg hw];refine ih _ M bm tk _ w hl ?_ (by simp[hsz]) hnextcl hnextc;rw[e2];exact hst.congr e1
end
end Go.Proofs.YtcbahpllcfbkmaaGreatDoor
namespace Go.Proofs.YtcbahpllcfbkmaaGreatDoor
open Go.RowKit
def OP.slotsA:OP→List Nat
 | .ldo x=>x.slots
 | .app _ _ _ t y=>t::y.slots
 | .stoo x t=>x.slots++[t]
 | op=>op.slots
def OP.special:OP→Bool
 | .ldo _=>true
 | .app _ _ _ _ _=>true
 | .stoo _ _=>true
 | _=>false
def O.looksA(o:O):List Nat:=o.op.slotsA++(match o.g with|some (t,_)=>[t]|none=>[])
structure Cell where
 i:Nat
 off:Nat
 T:TypeId
 k:Nat
 rows:List (List D)
section
variable {C : Cx} {pr : Prot} {ρ : am} {n : Nat} {Q : AEx → am → List (List V) → Prop}
structure Pos where
 iL:Nat
 iA:Nat
 iS:Nat
 tL:Nat
 tA:Nat
structure OKA(p:Pos)(l:List O)(os:List Oper):Prop where
 lt:∀(i:Nat) (o:Oper),os[i]? = some o→∀j∈aE o,j<i
 cmp:∀(i:Nat) (o:O),l[i]? = some o→∀t∈o.looksA++o.dst.toList,∀(j:Nat) (q:O),l[j]? = some q→q.dst=some t→j≠i→(j<i∧j∈(aO os []).getD i [])∨(i<j∧i∈(aO os []).getD j [])
 spec:∀(i:Nat) (o:O),l[i]? = some o→(o.op.special=true↔i=p.iL∨i=p.iA∨i=p.iS)
 lookL:∀(i:Nat) (o:O),l[i]? = some o→i≠p.iA→p.tL∉o.looksA
 dstL:∀(i:Nat) (o:O),l[i]? = some o→i≠p.iL→o.dst≠some p.tL
 lookA:∀(i:Nat) (o:O),l[i]? = some o→i≠p.iS→p.tA∉o.looksA
 dstA:∀(i:Nat) (o:O),l[i]? = some o→i≠p.iA→o.dst≠some p.tA
 last:∀(i:Nat) (o:O),l[i]? = some o→i≠p.iS→i∈(aO os []).getD p.iS []
 opL:∃y,l[p.iL]? = some ⟨some p.tL,.ldo y,none⟩
 opA:∃T k b y,l[p.iA]? = some ⟨some p.tA,.app T k b p.tL y,none⟩∧p.tL∉y.slots
 opS:∃y,l[p.iS]? = some ⟨none,.stoo y p.tA,none⟩∧p.tA∉y.slots
 ab:p.iL∈(aO os []).getD p.iA []
 ne:p.tL≠p.tA
end
end Go.Proofs.YtcbahpllcfbkmaaGreatDoor
namespace Go.Proofs.YtcbahpllcfbkmaaGreatDoor
open Go.RowKit
def OP.slotsN:OP→List Nat
 | .sto _ x y=>x.slots++y.slots
 | op=>op.slots
def OP.specialN:OP→Bool
 | .new _ _=>true
 | .sto _ _ _=>true
 | _=>false
def O.looksN(o:O):List Nat:=o.op.slotsN++(match o.g with|some (t,_)=>[t]|none=>[])
section
variable {C : Cx} {pr : Prot} {ρ : am} {n : Nat} {Q : AEx → am → List (List V) → Prop}
structure PosN where
 iN:Nat
 iS:Nat
 tN:Nat
structure OKN(p:PosN)(l:List O)(os:List Oper):Prop where
 lt:∀(i:Nat) (o:Oper),os[i]? = some o→∀j∈aE o,j<i
 cmp:∀(i:Nat) (o:O),l[i]? = some o→∀t∈o.looksN++o.dst.toList,∀(j:Nat) (q:O),l[j]? = some q→q.dst=some t→j≠i→(j<i∧j∈(aO os []).getD i [])∨(i<j∧i∈(aO os []).getD j [])
 spec:∀(i:Nat) (o:O),l[i]? = some o→(o.op.specialN=true↔i=p.iN∨i=p.iS)
 dstN:∀(i:Nat) (o:O),l[i]? = some o→i≠p.iN→o.dst≠some p.tN
 last:∀(i:Nat) (o:O),l[i]? = some o→i≠p.iS→i∈(aO os []).getD p.iS []
 opN:∃T cs,l[p.iN]? = some ⟨some p.tN,.new T cs,none⟩
 opS:∃kk y z,l[p.iS]? = some ⟨none,.sto kk y z,none⟩
end
end Go.Proofs.YtcbahpllcfbkmaaGreatDoor
namespace Go.Proofs.YtcbahpllcfbkmaaGreatDoor
open Go.RowKit
def OP.specialS:OP→Bool
 | .sto _ _ _=>true
 | _=>false
section
variable {C : Cx} {pr : Prot} {ρ : am} {n : Nat} {Q : AEx → am → List (List V) → Prop}
def od(C:Cx)(σ:List (List V)):List O→am→Option (List (List V))→(am→List (List V)→Prop)→Prop
 | [],ρ,acc,K=>match acc with|some σf=>K ρ σf|none=>False
 | o::r,ρ,acc,K=>match o.op with
  | .sto kk y z=>o.g=none∧o.dst=none∧match acc,ev C ρ y with
   | none,.ptr i off=>match σ[i]? with
    | some cs=>((ev C ρ z).boxable=true∧(ev C ρ z).cells.length=kk∧off+kk≤cs.length∧bR cs=true)∧od C σ r ρ (some (σ.set i (over cs off (ev C ρ z).cells))) K
    | none=>False
   | _,_=>False
  | op=>match o.g with
   | none=>bz C op ρ σ fun v=>od C σ r (putd ρ o.dst v) acc K
   | some (t,want)=>match get ρ t with
    | .d (.lit (.bool b))=>(b=want→bz C op (put ρ t (.d (.lit (.bool want)))) σ fun v=>od C σ r (putd (put ρ t (.d (.lit (.bool want)))) o.dst v) acc K)∧(b≠want→od C σ r (putd (put ρ t (.d (.lit (.bool (!want))))) o.dst (.tup [])) acc K)
    | .tup []=>od C σ r (putd ρ o.dst (.tup [])) acc K
    | _=>False
def O.free(o:O):Bool:=match o.op,o.g with
 | .mv (.k _),none=>true
 | _,_=>false
structure OKS(iS:Nat)(l:List O)(os:List Oper):Prop where
 lt:∀(i:Nat) (o:Oper),os[i]? = some o→∀j∈aE o,j<i
 cmp:∀(i:Nat) (o:O),l[i]? = some o→∀t∈o.looksN++o.dst.toList,∀(j:Nat) (q:O),l[j]? = some q→q.dst=some t→j≠i→(j<i∧j∈(aO os []).getD i [])∨(i<j∧i∈(aO os []).getD j [])
 spec:∀(i:Nat) (o:O),l[i]? = some o→(o.op.specialS=true↔i=iS)
 last:∀(i:Nat) (o:O),l[i]? = some o→i≠iS→o.free=true∨i∈(aO os []).getD iS []
 opS:∃kk y z,l[iS]? = some ⟨none,.sto kk y z,none⟩
end
end Go.Proofs.YtcbahpllcfbkmaaGreatDoor
namespace Go.Proofs.YtcbahpllcfbkmaaGreatDoor
open Go.RowKit
def bL(s d0 d1 T k bytes:Nat)(y:X)(mid:List O):List O:=⟨some d0,.mvo s,none⟩::(mid++[⟨some d1,.app T k bytes d0 y,none⟩,⟨some s,.mvo d1,none⟩])
theorem Eb(s d0 d1 T k bytes:Nat)(y:X)(mid:List O):(bL s d0 d1 T k bytes y mid).length=mid.length+3:=by simp[bL]
theorem DQ{s d0 d1 T k bytes:Nat}{y:X}{mid:List O}{i:Nat}(h:i<mid.length):(bL s d0 d1 T k bytes y mid)[i+1]? = some mid[i]:=by
 unfold bL;rw[List.getElem?_cons_succ,List.getElem?_append_left h,List.getElem?_eq_getElem h]
theorem Ez{s d0 d1 T k bytes:Nat}{y:X}{mid:List O}:(bL s d0 d1 T k bytes y mid)[mid.length+1]? = some ⟨some d1,.app T k bytes d0 y,none⟩:=by
 unfold bL;rw[List.getElem?_cons_succ,List.getElem?_append_right (Nat.le_refl _)];simp
theorem CM{s d0 d1 T k bytes:Nat}{y:X}{mid:List O}:(bL s d0 d1 T k bytes y mid)[mid.length+2]? = some ⟨some s,.mvo d1,none⟩:=by
 unfold bL;rw[List.getElem?_cons_succ,List.getElem?_append_right (by omega)];simp
def kX(s d0 d1:Nat)(y:X)(mid:List O)(os:List Oper):Bool:=
 let bf:=aO os [];let free:=fun t=>t != s&&t != d0&&t != d1
 ((List.range os.length).all fun i=>match os[i]? with|some o=>(aE o).all fun j=>decide (j<i)|none=>true) &&
 (((List.range mid.length).all fun i=>match mid[i]? with
   | some o=>((o.looks++o.dst.toList).all fun t=>free t&&(List.range mid.length).all fun j=>j==i||(match mid[j]? with
    | some q=>q.dst != some t||(if j<i then(bf.getD (i+1) []).contains (j+1)else(bf.getD (j+1) []).contains (i+1))
    | none=>true))&&(bf.getD (mid.length+1) []).contains (i+1)
   | none=>true) &&
 (y.slots.all free&&((bf.getD (mid.length+1) []).contains 0&&((bf.getD (mid.length+2) []).contains (mid.length+1)&&(s != d0&&(s != d1&&d0 != d1))))))
structure OKB(s d0 d1:Nat)(y:X)(mid:List O)(os:List Oper):Prop where
 lt:∀(i:Nat) (o:Oper),os[i]? = some o→∀j∈aE o,j<i
 free:∀(i:Nat) (h:i<mid.length),∀t∈mid[i].looks++mid[i].dst.toList,t≠s∧t≠d0∧t≠d1
 cmp:∀(i:Nat) (h:i<mid.length),∀t∈mid[i].looks++mid[i].dst.toList,∀(j:Nat) (hj:j<mid.length),mid[j].dst=some t→j≠i→(j<i∧j+1∈(aO os []).getD (i+1) [])∨(i<j∧i+1∈(aO os []).getD (j+1) [])
 all:∀(i:Nat),i<mid.length→i+1∈(aO os []).getD (mid.length+1) []
 yfree:∀t∈y.slots,t≠s∧t≠d0∧t≠d1
 first:0∈(aO os []).getD (mid.length+1) []
 last:mid.length+1∈(aO os []).getD (mid.length+2) []
 ne:s≠d0∧s≠d1∧d0≠d1
theorem s9{s d0 d1:Nat}{y:X}{mid:List O}{os:List Oper}(h:kX s d0 d1 y mid os=true):OKB s d0 d1 y mid os:=by
 unfold kX at h;simp only[Bool.and_eq_true,bne_iff_ne,ne_eq,List.contains_iff_mem]at h;obtain⟨h1,h2,h3,h4,h5,h6⟩:=h;simp only[List.all_eq_true,List.mem_range,Bool.and_eq_true,bne_iff_ne,ne_eq]at h1 h2 h3
 have one:∀(i:Nat) (h:i<mid.length),_:=fun i hi=>by
  have:=h2 i hi;rw[List.getElem?_eq_getElem hi]at this;simp only[Bool.and_eq_true,List.all_eq_true,List.mem_range,bne_iff_ne,ne_eq,List.contains_iff_mem]at this;exact this
 refine⟨fun i o ho j hj=>?_,fun i hi t ht=>?_,fun i hi t ht j hj hd hne=>?_,fun i hi=>(one i hi).2,fun t ht=>?_,h4,h5,h6⟩
 ·have:=h1 i (List.getElem?_eq_some_iff.1 ho).1;rw[ho]at this;simpa using List.all_eq_true.1 this j hj
 ·obtain⟨⟨a,b⟩,c⟩:=((one i hi).1 t ht).1;exact⟨a,b,c⟩
 ·have h2:=((one i hi).1 t ht).2 j hj;rw[List.getElem?_eq_getElem hj]at h2;simp only[hd,Bool.or_eq_true,beq_iff_eq,bne_self_eq_false,Bool.false_eq_true,false_or]at h2;rcases h2 with h2|h2
  ·exact absurd h2 hne
  ·split at h2
   ·exact .inl ⟨by assumption,by simpa using h2⟩
   ·exact .inr ⟨by omega,by simpa using h2⟩
 ·obtain⟨⟨a,b⟩,c⟩:=h3 t ht;exact⟨a,b,c⟩
section
variable {C : Cx} {pr : Prot} {ρ : am} {σ : List (List V)} {n : Nat} {Q : AEx → am → List (List V) → Prop}
def nX(s d0 d1 T k:Nat)(rows r2:List (List D))(ρ:am):am:=put (put (put ρ s (.own T k (rows++r2))) d0 (.d (.sl rows))) d1 (.d (.sl (rows++r2)))
def stB(s d0 d1 T k:Nat)(rows r2:List (List D)):Bool→Bool→Bool→am→am
 | true,_,_,ρ=>nX s d0 d1 T k rows r2 ρ
 | false,true,_,ρ=>put (put (put ρ s (.d (.sl rows))) d0 (.d (.sl rows))) d1 (.own T k (rows++r2))
 | false,false,true,ρ=>put (put ρ s (.d (.sl rows))) d0 (.own T k rows)
 | false,false,false,ρ=>ρ
theorem ll{s d0 d1 T k:Nat}{rows r2:List (List D)}{a b c:Bool}{ρ ρ':am}(h:∀t,get ρ t=get ρ' t)(t:Nat):get (stB s d0 d1 T k rows r2 a b c ρ) t=get (stB s d0 d1 T k rows r2 a b c ρ') t:=by
 cases a<;>cases b<;>cases c<;>simp only[stB,nX,bI,h]
theorem mI{s d0 d1 T k:Nat}{rows r2:List (List D)}{a b c:Bool}{ρ:am}{t:Nat}(h:t≠s∧t≠d0∧t≠d1):get (stB s d0 d1 T k rows r2 a b c ρ) t=get ρ t:=by
 obtain⟨h1,h2,h3⟩:=h;cases a<;>cases b<;>cases c<;>simp[stB,nX,bI,h1,h2,h3]
theorem Bq{s d0 d1 T k:Nat}{rows r2:List (List D)}{a b c:Bool}{ρ:am}{d:Option Nat}{x:V}(h:∀t,d=some t→t≠s∧t≠d0∧t≠d1)(t:Nat):get (putd (stB s d0 d1 T k rows r2 a b c ρ) d x) t=get (stB s d0 d1 T k rows r2 a b c (putd ρ d x)) t:=by
 rw[cK];split
 ·rename_i e;rw[mI (h t e),cK,if_pos e]
 ·rename_i e;cases a<;>cases b<;>cases c<;>simp only[stB,nX,bI,cK,if_neg e]
def uR(C:Cx)(s d0 d1 T k bytes:Nat)(y:X)(mid:List O)(ρ:am)(σ:List (List V))(K:am→Prop):Prop:=match get ρ s with
 | .own T' k' rows=>T'=T∧k'=k∧aU C mid ρ σ fun ρ'=>match dN (ev C ρ' y)with
  | some r2=>(r2.all (fun r=>r.length==k)=true∧(rows.length+r2.length)*bytes≤140737488355328)∧K (nX s d0 d1 T k rows r2 ρ')
  | none=>False
 | _=>False
theorem rD{M0:av}{bm0:List Nat}{w0:World}(hG:C.glob M0 pr w0){id:Nat}{ops:Array Oper}{s d0 d1 T k bytes:Nat}{y:X}{mid:List O}{M:av}{bm:List Nat}{tk:aY}{a:Act}{w:World}(hok:il C.tab n ops (bL s d0 d1 T k bytes y mid) ops.toList=true)(hdr:kX s d0 d1 y mid ops.toList=true)
 (hl:Later M0 bm0 pr w0 M bm w)(h:SRel M bm tk pr ρ σ n a w)
 (hq:uR C s d0 d1 T k bytes y mid ρ σ fun ρ'=>Q .normal ρ' σ):
 (Code.region id ops true).wp C.P (bA M0 bm0 pr w0 n Q) a w:=by
 obtain⟨hlen,hget⟩:=jd hok;rw[Eb]at hlen;have D:=s9 hdr;obtain⟨ne1,ne2,ne3⟩:=D.ne;unfold uR at hq;split at hq;case h_2=>exact hq.elim
 rename_i T' k' rows hrow;obtain⟨rfl,rfl,hq⟩:=hq;obtain⟨xs,hxl,⟨ρf,hρf,hρe⟩,hloc⟩:=mh (k:=1) hq;split at hρf;case h_2=>exact hρf.elim
 rename_i r2 hr2;obtain⟨⟨hk,hby⟩,hQ⟩:=hρf;have hnl:mid.length+3=ops.size:=by rw[hlen];simp
 have hsteps:∀S:Nat→Bool,(bw mid xs 1 S).length=mid.length:=fun S=>jp mid xs 1 S hxl
 have hsg:∀(S:Nat→Bool) (i:Nat) (hi:i<(bw mid xs 1 S).length) (h1:i<mid.length),(bw mid xs 1 S)[i]=(mid[i].dst,xs[i]'(by omega),S (i+1)):=fun S i hi h1=>by
  have:=jq mid xs 1 S i hi h1 (by omega);rw[this,Nat.add_comm 1 i]
 have base:∀S S',(∀j,j<mid.length→S (j+1)=S' (j+1))→∀t,get (bq (bw mid xs 1 S) ρ) t=get (bq (bw mid xs 1 S') ρ) t:=fun S S' hS t=>by
  refine du _ _ ρ t (by rw[hsteps,hsteps]) (fun i g1 g2=>?_);rw[hsteps]at g1;rw[hsg _ i (by rw[hsteps];exact g1) g1,hsg _ i (by rw[hsteps];exact g1) g1];exact⟨rfl,rfl,fun _=>hS i g1⟩
 have own:∀S t,t=s∨t=d0∨t=d1→get (bq (bw mid xs 1 S) ρ) t=get ρ t:=fun S t ht=>by
  rw[eN];intro q hq hd;obtain⟨j,hj,rfl⟩:=List.getElem_of_mem hq;rw[hsteps]at hj;rw[hsg _ j (by rw[hsteps];exact hj) hj]at hd;obtain⟨g1,g2,g3⟩:=D.free j hj t (by simp only at hd;simp[hd]);rcases ht with e|e|e
  ·exact absurd e g1
  ·exact absurd e g2
  ·exact absurd e g3
 have hst0:∀S,(∀j,S j=false)→∀t,get (bq (bw mid xs 1 S) ρ) t=get ρ t:=fun S hS t=>by
  rw[eN];intro q hq _;obtain⟨j,hj,rfl⟩:=List.getElem_of_mem hq;rw[hsteps]at hj;rw[hsg _ j (by rw[hsteps];exact hj) hj];exact hS _
 obtain⟨St,hSt⟩:∃St:(Nat→Bool)→am,∀S,St S=stB s d0 d1 T' k' rows r2 (S (mid.length+2)) (S (mid.length+1)) (S 0) (bq (bw mid xs 1 S) ρ):=⟨fun S=>stB s d0 d1 T' k' rows r2 (S (mid.length+2)) (S (mid.length+1)) (S 0) (bq (bw mid xs 1 S) ρ),fun _=>rfl⟩
 refine zS (M:=M) (bm:=bm) (tk:=tk) St (fun _=>σ) (nX s d0 d1 T' k' rows r2 ρf) σ D.lt (fun S S' hS=>⟨fun t=>?_,rfl⟩) hl ?_ ⟨fun t=>?_,rfl⟩ hQ ?_
 ·have e:=base S S' fun j hj=>hS (j+1) (by omega);rw[hSt,hSt,hS (mid.length+2) (by omega),hS (mid.length+1) (by omega),hS 0 (by omega)];exact ll e t
 ·simp only[hSt];exact h.congr (hst0 _ fun _=>rfl)
 ·rw[hSt];exact ll (a:=true) (b:=true) (c:=true) hρe t
 intro S i o' ho' hSi hclo hedge M bm tk a w hl h;have hi1:i<ops.toList.length:=(List.getElem?_eq_some_iff.1 ho').1;have hbef:∀j∈(aO ops.toList []).getD i [],S j=true:=dc D.lt (S:=fun j=>S j=true) hclo i o' ho' hedge
 have hbefj:∀q,q<mid.length+3→S q=true→∀j∈(aO ops.toList []).getD q [],S j=true:=fun q hq hSq=>by
  have hq2:ops.toList[q]? = some ops.toList[q]:=List.getElem?_eq_getElem (by omega);exact dc D.lt (S:=fun j=>S j=true) hclo q _ hq2 (hclo q _ hq2 hSq)
 have gt:∀o,(bL s d0 d1 T' k' bytes y mid)[i]? = some o→o.g=none→Region.wanted o' (yielded ops a.tmps)=true:=fun o ho hg=>by
  have hgd:=hget i o o' ho ho';unfold okO at hgd;simp only[Bool.and_eq_true]at hgd;replace hgd:=hgd.2;rw[hg]at hgd;split at hgd
  ·rename_i hg2;simp[Region.wanted,hg2]
  ·rename_i e _;cases e
  ·cases hgd
 have done:∀(K:am→List (List V)→Prop),(∀ρ' σ',K ρ' σ'→(∀t,get ρ' t=get (St fun j=>j==i||S j) t)∧σ'=σ)→
  o'.wp C.P a w (jF M bm pr w n K) (bA M bm pr w n fun _ _ _=>False)→o'.wp C.P a w (jF M bm pr w n fun ρ' σ'=>(∀t,get ρ' t=get (St fun j=>j==i||S j) t)∧σ'=σ) (bA M bm pr w n fun _ _ _=>False):=fun K hK hw=>
  Oper.wp_mono2 (fun a' w' ⟨M',bm',tk',ρ',σ',e1,k2,k3⟩=>⟨M',bm',tk',ρ',σ',hK _ _ e1,k2,k3⟩) (fun e a' w' hh=>hh) hw
 have no2:S (mid.length+1)=false→S (mid.length+2)=false:=fun hA=>by
  cases hB:S (mid.length+2)with
  | false=>rfl
  | true=>have:=hbefj _ (by omega) hB _ D.last;rw[hA]at this;cases this
 by_cases i0:i=0
 ·subst i0
  have hA:S (mid.length+1)=false:=by
   cases hA:S (mid.length+1)with
   | false=>rfl
   | true=>have:=hbefj _ (by omega) hA _ D.first;rw[hSi]at this;cases this
  have hB:=no2 hA;have ho:(bL s d0 d1 T' k' bytes y mid)[0]? = some ⟨some d0,.mvo s,none⟩:=rfl;rw[if_pos (gt _ ho rfl)];have hbs:=base S (fun j=>j==0||S j) fun j hj=>by simp
  have eS':St (fun j=>j==0||S j)=put (put (bq (bw mid xs 1 fun j=>j==0||S j) ρ) s (.d (.sl rows))) d0 (.own T' k' rows):=by
   rw[hSt];simp[hA,hB,stB]
  rw[hSt,hA,hB,hSi]at h;refine done (fun ρ' σ'=>ρ'=putd (put (bq (bw mid xs 1 S) ρ) s (.d (.sl rows))) (some d0) (.own T' k' rows)∧σ'=σ) (fun ρ' σ' ⟨e1,e2⟩=>?_) (cM (Q:=fun _ _ _=>False) (hG.mono hl) h (hget 0 _ o' ho ho') ?_)
  ·subst e1;refine⟨fun t=>?_,e2⟩;rw[eS'];simp only[putd,bI,hbs]
  ·simp only[cY,stB,own S s (.inl rfl),hrow];exact⟨trivial,trivial⟩
 by_cases iA:i=mid.length+1
 ·subst iA;have hB:=no2 hSi;have h0:=hbef _ D.first;have ho:=Ez (s:=s) (d0:=d0) (d1:=d1) (T:=T') (k:=k') (bytes:=bytes) (y:=y) (mid:=mid);rw[if_pos (gt _ ho rfl)]
  have hbs:=base S (fun j=>j==mid.length+1||S j) fun j hj=>by
   have:(j+1==mid.length+1)=false:=by simp;omega
   simp[this]
  have eS':St (fun j=>j==mid.length+1||S j)=put (put (put (bq (bw mid xs 1 fun j=>j==mid.length+1||S j) ρ) s (.d (.sl rows))) d0 (.d (.sl rows))) d1 (.own T' k' (rows++r2)):=by
   have:(mid.length+2==mid.length+1)=false:=by simp
   rw[hSt];simp only[this,hB,Bool.false_or,beq_self_eq_true,Bool.true_or];rfl
  rw[hSt,hSi,hB,h0]at h
  have hall:∀t,get ρf t=get (bq (bw mid xs 1 S) ρ) t:=fun t=>by
   rw[hρe t];exact base _ _ (fun j hj=>(hbef _ (D.all j hj)).symm) t
  have hev:ev C (stB s d0 d1 T' k' rows r2 false false true (bq (bw mid xs 1 S) ρ)) y=ev C ρf y:=bB fun t ht=>by
   rw[mI (D.yfree t ht),hall]
  refine done (fun ρ' σ'=>ρ'=putd (put (stB s d0 d1 T' k' rows r2 false false true (bq (bw mid xs 1 S) ρ)) d0 (.d (.sl rows))) (some d1) (.own T' k' (rows++r2))∧σ'=σ) (fun ρ' σ' ⟨e1,e2⟩=>?_) (cM (Q:=fun _ _ _=>False) (hG.mono hl) h (hget _ _ o' ho ho') ?_)
  ·subst e1;refine⟨fun t=>?_,e2⟩;rw[eS'];simp only[putd,stB,bI,hbs];repeat' split
   all_goals first|rfl|(exfalso;omega)
  ·have hg0:get (stB s d0 d1 T' k' rows r2 false false true (bq (bw mid xs 1 S) ρ)) d0=.own T' k' rows:=by simp[stB,bI]
   simp only[cY,hg0,hev,hr2];exact⟨⟨trivial,trivial,hk,hby⟩,trivial,trivial⟩
 by_cases iB:i=mid.length+2
 ·subst iB;have hA:=hbef _ D.last;have ho:=CM (s:=s) (d0:=d0) (d1:=d1) (T:=T') (k:=k') (bytes:=bytes) (y:=y) (mid:=mid);rw[if_pos (gt _ ho rfl)]
  have hbs:=base S (fun j=>j==mid.length+2||S j) fun j hj=>by
   have:(j+1==mid.length+2)=false:=by simp;omega
   simp[this]
  have eS':St (fun j=>j==mid.length+2||S j)=nX s d0 d1 T' k' rows r2 (bq (bw mid xs 1 fun j=>j==mid.length+2||S j) ρ):=by
   rw[hSt];simp[stB]
  rw[hSt,hSi,hA]at h;refine done (fun ρ' σ'=>ρ'=putd (put (stB s d0 d1 T' k' rows r2 false true (S 0) (bq (bw mid xs 1 S) ρ)) d1 (.d (.sl (rows++r2)))) (some s) (.own T' k' (rows++r2))∧σ'=σ) (fun ρ' σ' ⟨e1,e2⟩=>?_) (cM (Q:=fun _ _ _=>False) (hG.mono hl) h (hget _ _ o' ho ho') ?_)
  ·subst e1;refine⟨fun t=>?_,e2⟩;rw[eS'];simp only[putd,stB,nX,bI,hbs];repeat' split
   all_goals first|rfl|(exfalso;omega)
  ·have hg0:get (stB s d0 d1 T' k' rows r2 false true (S 0) (bq (bw mid xs 1 S) ρ)) d1=.own T' k' (rows++r2):=by simp[stB,bI]
   simp only[cY,hg0];exact⟨trivial,trivial⟩
 obtain⟨m,rfl⟩:∃m,i=m+1:=⟨i-1,by omega⟩
 have hm:m<mid.length:=by omega
 have hlo:=DQ (s:=s) (d0:=d0) (d1:=d1) (T:=T') (k:=k') (bytes:=bytes) (y:=y) hm;have hoo:=hget (m+1) _ o' hlo ho'
 have hA:S (mid.length+1)=false:=by
  cases hA:S (mid.length+1)with
  | false=>rfl
  | true=>have:=hbefj _ (by omega) hA _ (D.all m hm);rw[hSi]at this;cases this
 have hB:=no2 hA
 have hsame:∀t∈mid[m].looks++mid[m].dst.toList,∀j (hj:j<mid.length),j≠m→mid[j].dst=some t→(S (j+1)=decide (j<m)):=by
  intro t ht j hj hne hd;rcases D.cmp m hm t ht j hj hd hne with⟨g1,g2⟩|⟨g1,g2⟩
  ·rw[hbef _ g2];simp[g1]
  ·have:¬S (j+1)=true:=fun hjl=>by
    have:=hbefj (j+1) (by omega) hjl _ g2;rw[hSi]at this;cases this
   have e:S (j+1)=false:=by simpa using this
   rw[e];simp;omega
 obtain⟨ρi,hL,hρi⟩:=hloc m hm (by omega)
 have hgetL:∀t∈mid[m].looks,get ρi t=get (bq (bw mid xs 1 S) ρ) t:=by
  intro t ht;rw[hρi t];refine du _ _ ρ t (by rw[hsteps,hsteps]) (fun j g1 g2=>?_);rw[hsteps]at g1;rw[hsg _ j (by rw[hsteps];exact g1) g1,hsg _ j (by rw[hsteps];exact g1) g1];refine⟨rfl,rfl,fun hd=>?_⟩;by_cases e:j=m
  ·subst e;rw[hSi];simp;omega
  ·rw[hsame t (by simp[ht]) j g1 e hd,decide_eq_decide];omega
 have hnext:∀t,get (bq (bw mid xs 1 fun j=>j==m+1||S j) ρ) t=get (Go.Proofs.YtcbahpllcfbkmaaGreatDoor.putd (bq (bw mid xs 1 S) ρ) mid[m].dst (xs[m]'(by omega))) t:=by
  intro t;rw[cK];split
  ·rename_i e
   have:=m8 (bw mid xs 1 fun j=>j==m+1||S j) ρ m (by rw[hsteps];exact hm) t (by rw[hsg _ m _ hm];exact e) (by rw[hsg _ m _ hm];simp) (fun j hj hij hd=>by
    rw[hsteps]at hj;rw[hsg _ j _ hj]at hd ⊢;simp only at hd ⊢;rw[hsame t (by simp[e]) j hj (by omega) hd];simp;omega)
   rw[this,hsg _ m _ hm]
  ·rename_i e;refine du _ _ ρ t (by rw[hsteps,hsteps]) (fun j g1 g2=>?_);rw[hsteps]at g1;rw[hsg _ j (by rw[hsteps];exact g1) g1,hsg _ j (by rw[hsteps];exact g1) g1];refine⟨rfl,rfl,fun hd=>?_⟩;simp only at hd ⊢;have hne:j≠m:=fun ee=>by subst ee;exact e hd
   simp[hne]
 have hdst:mid[m].dst=o'.dst:=by
  have:=hoo;unfold okO at this;simp only[Bool.and_eq_true,beq_iff_eq]at this;exact this.1.1.2
 have hdn:∀d,o'.dst=some d→d<n:=by
  have:=hoo;unfold okO at this;simp only[Bool.and_eq_true]at this;intro d hd;have:=this.1.2;rw[hd]at this;simpa using this
 have hgd:=hoo;unfold okO at hgd;simp only[Bool.and_eq_true]at hgd;replace hgd:=hgd.2;have hdf:∀t,mid[m].dst=some t→t≠s∧t≠d0∧t≠d1:=fun t ht=>D.free m hm t (by simp[ht]);rw[hSt,hA,hB]at h
 have eS':∀t,get (putd (stB s d0 d1 T' k' rows r2 false false (S 0) (bq (bw mid xs 1 S) ρ)) mid[m].dst (xs[m]'(by omega))) t=get (St fun j=>j==m+1||S j) t:=fun t=>by
  have e1:(mid.length+2==m+1)=false:=by simp;omega
  have e2:(mid.length+1==m+1)=false:=by simp;omega
  have e3:(0==m+1)=false:=by simp
  rw[Bq hdf,hSt];simp only[e1,e2,e3,hA,hB,Bool.false_or];exact(ll hnext t).symm
 have hL2:Loc C mid[m] (stB s d0 d1 T' k' rows r2 false false (S 0) (bq (bw mid xs 1 S) ρ)) σ (xs[m]'(by omega)):=hL.congr fun t ht=>by
  rw[hgetL t ht,mI (D.free m hm t (by simp[ht]))]
 have exec:bz C mid[m].op (stB s d0 d1 T' k' rows r2 false false (S 0) (bq (bw mid xs 1 S) ρ)) σ (fun v=>v=xs[m]'(by omega))→o'.wp C.P a w (jF M bm pr w n fun ρ' σ'=>(∀t,get ρ' t=get (St fun j=>j==m+1||S j) t)∧σ'=σ) (bA M bm pr w n fun _ _ _=>False):=fun hc=>
  done _ (fun ρ' σ' ⟨e1,e2⟩=>⟨fun t=>by rw[e1];exact eS' t,e2⟩) (cM (Q:=fun _ _ _=>False) (hG.mono hl) h hoo (m4 hc))
 unfold Loc at hL2;split at hL2
 ·rename_i hg;rw[if_pos (gt _ hlo hg)];exact exec hL2
 ·rename_i t want hg;rw[hg]at hgd;split at hgd
  ·rename_i e _;cases e
  ·rename_i t' b' j b'' e hg2;cases e;simp only[Bool.and_eq_true,beq_iff_eq]at hgd;obtain⟨rfl,hj⟩:=hgd;split at hL2
   ·rename_i b hb;have hy:=gh h hb hj;by_cases hbw:b=want
    ·rw[if_pos (by simp[Region.wanted,hg2,hy,hbw])];exact exec (hL2.1 hbw)
    ·rw[if_neg (by simp[Region.wanted,hg2,hy,hbw])];have hx:=hL2.2 hbw;refine(h.putd hdn iz (by simp)).congr fun t=>?_;rw[←eS' t,hx,hdst]
   ·rename_i hb;have hy:=kD h hb hj;rw[if_neg (by simp[Region.wanted,hg2,hy])];refine(h.putd hdn iz (by simp)).congr fun t=>?_;rw[←eS' t,hL2,hdst]
   ·exact hL2.elim
  ·cases hgd
end
end Go.Proofs.YtcbahpllcfbkmaaGreatDoor
namespace Go.Proofs.YtcbahpllcfbkmaaGreatDoor
open Go.RowKit
section
variable {C : Cx} {pr : Prot} {n : Nat} {Q : AEx → am → List (List V) → Prop}
theorem xD{M0:av}{bm0:List Nat}{w0:World}{id:Nat}{ops:Array Oper}{M:av}{bm:List Nat}{tk:aY}{a:Act}{w:World}(St:(Nat→Bool)→am)(Sg:(Nat→Bool)→List (List V))(ρf:am)(σf:List (List V))(I:(Nat→Bool)→Prop)(hI0:I fun _=>false)(hIext:∀S S',(∀j,j<ops.size→S j=S' j)→I S→I S')
 (hlt:∀(i:Nat) (o:Oper),ops.toList[i]? = some o→∀j∈aE o,j<i)
 (hext:∀S S',(∀j,j<ops.size→S j=S' j)→(∀t,get (St S) t=get (St S') t)∧Sg S=Sg S')
 (hl:Later M0 bm0 pr w0 M bm w)(h:SRel M bm tk pr (St fun _=>false) (Sg fun _=>false) n a w)
 (hf:I (fun _=>true)→((∀t,get ρf t=get (St fun _=>true) t)∧σf=Sg fun _=>true)∧Q .normal ρf σf)
 (step:∀(S:Nat→Bool) (i:Nat) (o:Oper),ops.toList[i]? = some o→S i=false→(∀(j:Nat) (p:Oper),ops.toList[j]? = some p→S j=true→∀e∈aE p,S e=true)→(∀e∈aE o,S e=true)→
   I S→∀(M:av) (bm:List Nat) (tk:aY) (a:Act) (w:World),Later M0 bm0 pr w0 M bm w→SRel M bm tk pr (St S) (Sg S) n a w→
    if Region.wanted o (yielded ops a.tmps)then o.wp C.P a w (jF M bm pr w n fun ρ' σ'=>(∀t,get ρ' t=get (St fun j=>j==i||S j) t)∧σ'=(Sg fun j=>j==i||S j)∧I fun j=>j==i||S j) (bA M bm pr w n Q)
    else SRel M bm tk pr (St fun j=>j==i||S j) (Sg fun j=>j==i||S j) n (a.put o.dst undef) w∧I fun j=>j==i||S j):
 (Code.region id ops true).wp C.P (bA M0 bm0 pr w0 n Q) a w:=by
 refine wp_region_any C.mixed ?_
 suffices H:∀(fuel:Nat) (listed:Array Bool) (M:av) (bm:List Nat) (tk:aY) (a:Act) (w:World),Later M0 bm0 pr w0 M bm w→SRel M bm tk pr (St fun i=>listed.getD i false) (Sg fun i=>listed.getD i false) n a w→I (fun i=>listed.getD i false)→listed.size=ops.size→
  (∀(i:Nat) (o:Oper),ops.toList[i]? = some o→listed.getD i false=true→∀j∈aE o,listed.getD j false=true)→(listed.toList.filter (! ·)).length=fuel→wpAny C.P .any ops (bA M0 bm0 pr w0 n Q) fuel listed a w by
  obtain⟨h1,h2⟩:=h.ext (co.drew w)
  have hrep:∀j,(Array.replicate ops.size false).getD j false=false:=fun j=>by
   simp only[Array.getD_eq_getD_getElem?,Array.getElem?_replicate];split<;>rfl
  obtain⟨e1,e2⟩:=hext (fun i=>(Array.replicate ops.size false).getD i false) (fun _=>false) (fun j _=>hrep j);refine H ops.size (Array.replicate ops.size false) M bm tk a w.drew (hl.trans h2 (fun _ h=>h)) ?_ (hIext _ _ (fun j _=>(hrep j).symm) hI0) (by simp) (fun i o ho hi=>?_) (by simp)
  ·rw[e2];exact h1.congr e1
  ·rw[hrep]at hi;cases hi
 intro fuel
 induction fuel with
 | zero=>
  intro listed M bm tk a w hl h hI hsz hcl hcnt
  have hall:∀i,i<ops.size→listed.getD i false=true:=fun i hi=>by
   have hb:listed[i]? = some (listed[i]'(by omega)):=Array.getElem?_eq_getElem _;rw[Array.getD_eq_getD_getElem?,hb,Option.getD_some];have hne:listed.toList.filter (! ·)=[]:=List.eq_nil_of_length_eq_zero hcnt;have:=List.filter_eq_nil_iff.1 hne (listed[i]'(by omega)) (by simp);simpa using this
  obtain⟨e1,e2⟩:=hext (fun i=>listed.getD i false) (fun _=>true) hall;obtain⟨hf,hq⟩:=hf (hIext _ _ hall hI);refine⟨?_,M,bm,tk,ρf,σf,.normal,hq,.normal,?_,hl⟩
  ·unfold Region.ready;rw[List.filter_eq_nil_iff];intro i hi;have hi':i<ops.size:=by simpa using hi
   have h9:=hall i hi'
   have:listed.getD i true=true:=by
    have hb:listed[i]? = some (listed[i]'(by omega)):=Array.getElem?_eq_getElem _;rw[Array.getD_eq_getD_getElem?,hb,Option.getD_some]at h9 ⊢;exact h9
   simp[this]
  ·rw[hf.2,←e2];exact h.congr fun t=>(hf.1 t).trans (e1 t).symm
 | succ fuel ih=>
  intro listed M bm tk a w hl h hI hsz hcl hcnt;refine⟨fun hnil=>?_,fun i hi=>?_⟩
  ·exfalso
   have hex:∃i,i<ops.size∧listed.getD i false=false:=by
    apply Classical.byContradiction;intro hno
    have hne:listed.toList.filter (! ·)=[]:=by
     rw[List.filter_eq_nil_iff];intro b hb;obtain⟨i,hi,rfl⟩:=List.getElem_of_mem hb;have hi':i<listed.size:=by simpa using hi
     have h9:¬listed.getD i false=false:=fun e=>hno ⟨i,by omega,e⟩;have hb:listed[i]? = some listed[i]:=Array.getElem?_eq_getElem hi';rw[Array.getD_eq_getD_getElem?,hb,Option.getD_some]at h9;simpa using h9
    rw[hne]at hcnt;simp at hcnt
   have hmin:∃i,i<ops.size∧listed.getD i false=false∧∀j,j<i→listed.getD j false=true:=by
    obtain⟨i,h1,h2⟩:=hex
    induction i using Nat.strongRecOn with
    | _ i ihm=>
    by_cases hj:∃j,j<i∧listed.getD j false=false
    ·obtain⟨j,g1,g2⟩:=hj;exact ihm j g1 (by omega) g2
    ·exact⟨i,h1,h2,fun j hji=>by
      cases hb:listed.getD j false with
      | true=>rfl
      | false=>exact absurd ⟨j,hji,hb⟩ hj⟩
   obtain⟨i,h1,h2,h3⟩:=hmin;have hio:i<ops.toList.length:=by simpa using h1
   have:i∈Region.ready .any ops listed:=by
    unfold Region.ready;rw[List.mem_filter];refine⟨by simp;omega,?_⟩
    have ht:listed.getD i true=false:=by
     have hb:listed[i]? = some (listed[i]'(by omega)):=Array.getElem?_eq_getElem _;rw[Array.getD_eq_getD_getElem?,hb,Option.getD_some]at h2 ⊢;exact h2
    have ho:ops[i]? = some (ops[i]'(by omega)):=Array.getElem?_eq_getElem _;rw[ht,ho];simp only[Bool.not_false,Bool.true_and,Option.map_some,Option.getD_some];rw[←Array.all_toList,List.all_eq_true];intro e he;cases hb:Region.binds .any e with
    | false=>rfl
    | true=>
     have:e.on∈aE (ops[i]'(by omega)):=by
      unfold aE;exact List.mem_map.2 ⟨e,List.mem_filter.2 ⟨he,hb⟩,rfl⟩
     simp[h3 e.on (hlt i _ (by rw[List.getElem?_eq_getElem hio];simp) e.on this)]
   rw[hnil]at this;cases this
  ·unfold Region.ready at hi;rw[List.mem_filter]at hi;obtain⟨hir,hic⟩:=hi;have hi1:i<ops.size:=by simpa using hir
   have ho:ops[i]? = some ops[i]:=Array.getElem?_eq_getElem hi1;have hoL:ops.toList[i]? = some ops[i]:=by rw[Array.getElem?_toList];exact ho
   rw[ho]at hic;simp only[Option.map_some,Option.getD_some,Bool.and_eq_true,Bool.not_eq_true']at hic;obtain⟨hun,hed⟩:=hic
   have hun':listed[i]? = some false:=by
    have hb:listed[i]? = some (listed[i]'(by omega)):=Array.getElem?_eq_getElem _;rw[Array.getD_eq_getD_getElem?,hb,Option.getD_some]at hun;rw[hb,hun]
   have hunf:listed.getD i false=false:=by rw[Array.getD_eq_getD_getElem?,hun'];rfl
   have hedge:∀j∈aE ops[i],listed.getD j false=true:=by
    intro j hj;unfold aE at hj;obtain⟨e,he,rfl⟩:=List.mem_map.1 hj;rw[List.mem_filter]at he;rw[←Array.all_toList,List.all_eq_true]at hed;have:=hed e he.1;simpa[he.2]using this
   have hset:∀j,(listed.setIfInBounds i true).getD j false=(j==i||listed.getD j false):=fun j=>by
    rw[Array.getD_eq_getD_getElem?,Array.getD_eq_getD_getElem?];by_cases e:j=i
    ·subst e;rw[Array.getElem?_setIfInBounds_self_of_lt (by omega)];simp
    ·rw[Array.getElem?_setIfInBounds_ne (Ne.symm e)];simp[e]
   have hnextcl:∀(q:Nat) (o:Oper),ops.toList[q]? = some o→(listed.setIfInBounds i true).getD q false=true→∀j∈aE o,(listed.setIfInBounds i true).getD j false=true:=by
    intro q o hqo hql j hj;rw[hset]at hql ⊢;simp only[Bool.or_eq_true,beq_iff_eq]at hql ⊢;rcases hql with rfl|hql
    ·rw[hoL]at hqo;cases hqo;exact .inr (hedge j hj)
    ·exact .inr (hcl q o hqo hql j hj)
   have hnextc:((listed.setIfInBounds i true).toList.filter (! ·)).length=fuel:=by
    have:=gH listed.toList i (by rw[Array.getElem?_toList];exact hun');rw[Array.toList_setIfInBounds];omega
   obtain⟨e1,e2⟩:=hext (fun j=>(listed.setIfInBounds i true).getD j false) (fun j=>j==i||listed.getD j false) (fun j _=>hset j);have hst:=step (fun j=>listed.getD j false) i ops[i] hoL hunf hcl hedge hI M bm tk a w hl h;unfold wpOp;rw[ho];simp only;split at hst
   ·rename_i hw;rw[if_pos hw];refine .inl (Oper.wp_mono2 (fun a' w' hL=>?_) (fun e a' w' hL=>?_) hst)
    ·obtain⟨M',bm',tk',ρ',σ',⟨k0,rfl,kI⟩,k2,k3⟩:=hL;refine ih _ M' bm' tk' a' w' (hl.trans k3 (fun _ h=>h)) ?_ (hIext _ _ (fun j _=>(hset j).symm) kI) (by simp[hsz]) hnextcl hnextc;rw[e2];exact k2.congr fun t=>(e1 t).trans (k0 t).symm
    ·exact bA.trans hl hL
   ·rename_i hw;rw[if_neg hw];refine ih _ M bm tk _ w hl ?_ (hIext _ _ (fun j _=>(hset j).symm) hst.2) (by simp[hsz]) hnextcl hnextc;rw[e2];exact hst.1.congr e1
end
section
variable {pre post : List O} {d : Option Nat} {f : FuncId} {args : List X} {kk : Nat} {y z : X}
end
structure OKX(np nq:Nat)(l:List O)(os:List Oper):Prop where
 lt:∀(i:Nat) (o:Oper),os[i]? = some o→∀j∈aE o,j<i
 cmp:∀(i:Nat) (o:O),l[i]? = some o→∀t∈o.looksN++o.dst.toList,∀(j:Nat) (q:O),l[j]? = some q→q.dst=some t→j≠i→(j<i∧j∈(aO os []).getD i [])∨(i<j∧i∈(aO os []).getD j [])
 after:∀m,m<nq→np∈(aO os []).getD (np+1+m) []
 last:∀i,i<np+1+nq→i∈(aO os []).getD (np+1+nq) []
 pdst:∀(i:Nat) (o:O),i<np→l[i]? = some o→∃t,o.dst=some t∧∀(j:Nat) (q:O),j<np→l[j]? = some q→j≠i→q.dst≠some t
section
variable {C : Cx} {pr : Prot} {ρ : am} {σ : List (List V)} {n : Nat} {Q : AEx → am → List (List V) → Prop}
theorem yH{M:av}{bm:List Nat}{tk:aY}{a:Act}{w:World}{ops:Array Oper}{o:O}{o':Oper}{x:V}(hG:C.glob M pr w)(h:SRel M bm tk pr ρ σ n a w)(hoo:okO C.tab n ops o o'=true)(hL:Loc C o ρ σ x):
 if Region.wanted o' (yielded ops a.tmps)then o'.wp C.P a w (jF M bm pr w n fun ρ' σ'=>ρ'=putd ρ o.dst x∧σ'=σ) (bA M bm pr w n Q)else SRel M bm tk pr (putd ρ o.dst x) σ n (a.put o'.dst undef) w:=by
 have hdst:o.dst=o'.dst:=by
  have:=hoo;unfold okO at this;simp only[Bool.and_eq_true,beq_iff_eq]at this;exact this.1.1.2
 have hdn:∀d,o'.dst=some d→d<n:=by
  have:=hoo;unfold okO at this;simp only[Bool.and_eq_true]at this;intro d hd;have:=this.1.2;rw[hd]at this;simpa using this
 have hgd:=hoo;unfold okO at hgd;simp only[Bool.and_eq_true]at hgd;replace hgd:=hgd.2
 have exec:bz C o.op ρ σ (fun v=>v=x)→o'.wp C.P a w (jF M bm pr w n fun ρ' σ'=>ρ'=putd ρ o.dst x∧σ'=σ) (bA M bm pr w n Q):=fun hc=>
  Oper.wp_mono2 (fun _ _ hh=>hh) (fun e a' w' ⟨_,_,_,_,_,_,hf,_⟩=>hf.elim) (cM (Q:=fun _ _ _=>False) hG h hoo (m4 hc))
 unfold Loc at hL;split at hL
 ·rename_i hg;rw[hg]at hgd;split at hgd
  ·rename_i hg2;rw[if_pos (by simp[Region.wanted,hg2])];exact exec hL
  ·rename_i e _;cases e
  ·cases hgd
 ·rename_i t want hg;rw[hg]at hgd;split at hgd
  ·rename_i e _;cases e
  ·rename_i t' b' j b'' e hg2;cases e;simp only[Bool.and_eq_true,beq_iff_eq]at hgd;obtain⟨rfl,hj⟩:=hgd;split at hL
   ·rename_i b hb;have hy:=gh h hb hj;by_cases hbw:b=want
    ·rw[if_pos (by simp[Region.wanted,hg2,hy,hbw])];exact exec (hL.1 hbw)
    ·rw[if_neg (by simp[Region.wanted,hg2,hy,hbw])];rw[hL.2 hbw,hdst];exact h.putd hdn iz (by simp)
   ·rename_i hb;have hy:=kD h hb hj;rw[if_neg (by simp[Region.wanted,hg2,hy])];rw[hL,hdst];exact h.putd hdn iz (by simp)
   ·exact hL.elim
  ·cases hgd
end
end Go.Proofs.YtcbahpllcfbkmaaGreatDoor
namespace Go.Proofs.YtcbahpllcfbkmaaGreatDoor
open Go.RowKit
inductive GK where
 | free (lo:Nat)
 | calm (lo hi:Nat)
 | slot (lo:Nat)
 | act
def GK.isAct:GK→Bool
 | .act=>true
 | _=>false
def OP.w1:OP→Option Nat
 | .mvo t=>some t
 | .app _ _ _ t _=>some t
 | .stoo _ t=>some t
 | _=>none
def OP.slotsG:OP→List Nat
 | .mvo t=>[t]
 | .app _ _ _ t y=>t::y.slots
 | .mkso _ _ xs=>xs.flatMap X.slots
 | .mkc _ _ _ x=>x.slots
 | .mkb _ _ _ x=>x.slots
 | .box _ x=>x.slots
 | .sto _ x y=>x.slots++y.slots
 | .stoo x t=>t::x.slots
 | .ldo x=>x.slots
 | .cpy x y=>x.slots++y.slots
 | .appv _ _ _ t y=>t::y.slots
 | .mst _ x y z=>x.slots++(y.slots++z.slots)
 | op=>op.slots
def O.looksG(o:O):List Nat:=o.op.slotsG++(match o.g with|some (t,_)=>[t]|none=>[])
def OP.isFree:OP→Bool
 | .load _ _ _ | .cbs _ | .mlk _ _ _ _ _ | .mln _ | .call _ _ | .callv _ _ | .calln _ _=>false
 | .mks _ _ _=>true
 | op=>ci op
def OP.isCalm:OP→Bool
 | .call _ _ | .callv _ _ | .calln _ _ | .mks _ _ _=>true
 | op=>ci op
def OP.isSlot:OP→Bool
 | .mvo _ | .nilo _ _ | .app _ _ _ _ _ | .mkso _ _ _ | .mkc _ _ _ _=>true
 | _=>false
def OP.isActG:OP→Option Nat→Bool
 | .sto _ _ _,d=>d.isNone
 | .stoo _ _,d=>d.isNone
 | .mst _ _ _ _,d=>d.isNone
 | .new _ _,_ | .box _ _,_ | .ldo _,_ | .mkb _ _ _ _,_ | .cpy _ _,_ | .call _ _,_ | .callv _ _,_=>true
 | _,_=>false
section
variable {C : Cx} {pr : Prot} {ρ : am} {σ : List (List V)} {n : Nat} {Q : AEx → am → List (List V) → Prop}
theorem sa{o:O}(h:o.op.isCalm=true):o.looks=o.looksG:=by
 unfold O.looks O.looksG
 have:o.op.slots=o.op.slotsG:=by
  cases ho:o.op<;>rw[ho]at h<;>first|rfl|(simp[OP.isCalm,ci]at h)
 rw[this]<;>(cases o.g<;>rfl)
theorem CP{op:OP}(h:op.isFree=true)(σ σ2:List (List V)):pv C op ρ σ=pv C op ρ σ2:=by
 cases op<;>first|rfl|(simp[OP.isFree,ci]at h)
theorem nB{op:OP}(h:op.isFree=true){k:V→Prop}(σ2:List (List V))(hc:bz C op ρ σ k):bz C op ρ σ2 k:=by
 unfold bz at hc;split at hc
 ·cases h
 ·cases h
 ·exact hc
 ·cases h
 ·rename_i n1 n2 n3 n4;rw[CP h σ σ2]at hc;unfold bz;split
  ·exact absurd rfl (n1 _ _)
  ·exact absurd rfl (n2 _ _)
  ·exact absurd rfl (n3 _ _ _)
  ·exact absurd rfl (n4 _ _)
  ·exact hc
theorem Loc.free{o:O}(h:o.op.isFree=true){x:V}(σ2:List (List V))(hc:Loc C o ρ σ x):Loc C o ρ σ2 x:=by
 unfold Loc at hc ⊢;split at hc
 ·exact nB h σ2 hc
 ·split at hc
  ·exact⟨fun e=>nB h σ2 (hc.1 e),hc.2⟩
  ·exact hc
  ·exact hc.elim
def mc(C:Cx)(op:OP)(ρ:am)(σ:List (List V))(a b:V)(σ':List (List V)):Prop:=match op with
 | .mvo t=>∃T k rows,get ρ t=.own T k rows∧a=.d (.sl rows)∧b=.own T k rows∧σ'=σ
 | .nilo T k=>b=.own T k []∧σ'=σ
 | .app T k bytes t y=>∃rows rows2,get ρ t=.own T k rows∧dN (ev C ρ y)=some rows2∧(rows2.all (fun r=>r.length==k)=true∧(rows.length+rows2.length)*bytes≤140737488355328)∧a=.d (.sl rows)∧b=.own T k (rows++rows2)∧σ'=σ
 | .mkso T k xs=>∃rows,ac (xs.map (ev C ρ))=some rows∧rows.all (fun r=>r.length==k)=true∧b=.own T k rows∧σ'=σ
 | .mkc T k bytes x=>∃kd n,ev C ρ x=.d (.lit (.int kd n))∧(0≤n∧n*bytes≤140737488355328)∧b=.own T k []∧σ'=σ
 | .new _ cs=>b=.ptr σ.length 0∧σ'=σ++[cs]
 | .box _ x=>(ev C ρ x).boxable=true∧b=.ptr σ.length 0∧σ'=σ++[(ev C ρ x).cells]
 | .mkb _ bytes z x=>∃kd n,ev C ρ x=.d (.lit (.int kd n))∧(0≤n∧n*bytes≤140737488355328)∧b=.bsl σ.length 0 n.toNat 1∧σ'=σ++[List.replicate n.toNat z]
 | .sto k x y=>∃i o cs,ev C ρ x=.ptr i o∧σ[i]? = some cs∧((ev C ρ y).boxable=true∧(ev C ρ y).cells.length=k∧o+k≤cs.length∧bR cs=true)∧σ'=σ.set i (over cs o (ev C ρ y).cells)
 | .stoo x t=>∃i o T k rows cs,ev C ρ x=.ptr i o∧get ρ t=.own T k rows∧σ[i]? = some cs∧(o<cs.length∧bR cs=true)∧a=.d (.sl rows)∧σ'=σ.set i (over cs o [.own T k rows])
 | .ldo x=>∃i o cs T k rows,ev C ρ x=.ptr i o∧σ[i]? = some cs∧cs[o]? = some (.own T k rows)∧b=.own T k rows∧σ'=σ.set i (cs.set o (.d (.sl rows)))
 | .cpy x y=>∃i off n cs src,asB (ev C ρ x)=some (i,off,n)∧σ[i]? = some cs∧j7 σ (ev C ρ y)=some src∧(off+n≤cs.length∧bR cs=true)∧b=aI .i64 (min n src.length:Nat)∧σ'=σ.set i (over cs off (src.take (min n src.length)))
 | .mst st x k v=>∃kv key,eo st σ (ev C ρ x)=some kv∧gX st (ev C ρ k)=some key∧σ'=jM σ st (jT key (ev C ρ v).copy kv) (ev C ρ x)
 | .call f args=>Fun C f (args.map fun x=>(ev C ρ x).lend) σ (fun o σ''=>o=.ret b∧σ''=σ')
 | .callv x args=>∃f cap,ev C ρ x=.fn f cap∧Fun C f ((args.map fun x=>(ev C ρ x).lend)++cap) σ (fun o σ''=>o=.ret b∧σ''=σ')
 | _=>False
def ap(o:O)(w:V×V)(ρ:am):am:=putd (putd ρ o.op.w1 w.1) o.dst w.2
theorem nG(o:O)(w:V×V)(ρ:am)(t:Nat):get (ap o w ρ) t=if o.dst=some t then w.2 else if o.op.w1=some t then w.1 else get ρ t:=by
 unfold ap;rw[cK,cK]
theorem yQ{o:O}{a b:V}{σ':List (List V)}(hc:o.op.isSlot=true∨o.op.isActG o.dst=true)(h:mc C o.op ρ σ a b σ'):cY C o.op o.dst ρ σ (fun ρ' σ''=>ρ'=ap o (a,b) ρ∧σ''=σ') Q:=by
 obtain⟨d,op,g⟩:=o;unfold ap;cases op<;>simp only[mc]at h<;>simp only[cY,OP.w1,putd]<;>first|exact h.elim|skip
 case mvo t=>obtain⟨T,k,rows,h1,rfl,rfl,rfl⟩:=h;rw[h1];first|exact⟨rfl,rfl⟩|exact⟨trivial,trivial⟩
 case nilo=>obtain⟨rfl,rfl⟩:=h;first|exact⟨rfl,rfl⟩|exact⟨trivial,trivial⟩
 case app=>obtain⟨rows,rows2,h1,h2,h3,rfl,rfl,rfl⟩:=h;rw[h1,h2];exact⟨⟨rfl,rfl,h3⟩,rfl,rfl⟩
 case mkso=>obtain⟨rows,h1,h2,rfl,rfl⟩:=h;rw[h1];exact⟨h2,rfl,rfl⟩
 case mkc=>obtain⟨kd,m,h1,h2,rfl,rfl⟩:=h;rw[h1];exact⟨h2,rfl,rfl⟩
 case new=>obtain⟨rfl,rfl⟩:=h;first|exact⟨rfl,rfl⟩|exact⟨trivial,trivial⟩
 case box=>obtain⟨h1,rfl,rfl⟩:=h;first|exact⟨h1,rfl,rfl⟩|exact⟨h1,trivial,trivial⟩
 case mkb=>obtain⟨kd,m,h1,h2,rfl,rfl⟩:=h;rw[h1];exact⟨h2,rfl,rfl⟩
 case sto=>
  have hd:d=none:=by simpa[OP.isSlot,OP.isActG]using hc
  subst hd;obtain⟨i,o,cs,h1,h2,h3,rfl⟩:=h;rw[h1];simp only[h2];first|exact⟨h3,rfl,rfl⟩|exact⟨h3,trivial,trivial⟩
 case stoo=>
  have hd:d=none:=by simpa[OP.isSlot,OP.isActG]using hc
  subst hd;obtain⟨i,o,T,k,rows,cs,h1,h2,h3,h4,rfl,rfl⟩:=h;rw[h1,h2];simp only[h3];first|exact⟨h4,rfl,rfl⟩|exact⟨h4,trivial,trivial⟩
 case ldo=>obtain⟨i,o,cs,T,k,rows,h1,h2,h3,rfl,rfl⟩:=h;rw[h1];simp only[h2,h3];first|exact⟨rfl,rfl⟩|exact⟨trivial,trivial⟩
 case cpy=>obtain⟨i,off,n,cs,src,h1,h2,h3,h4,rfl,rfl⟩:=h;rw[h1];simp only[h2,h3];first|exact⟨h4,rfl,rfl⟩|exact⟨h4,trivial,trivial⟩
 case mst=>
  have hd:d=none:=by simpa[OP.isSlot,OP.isActG]using hc
  subst hd;obtain⟨kv,key,h1,h2,rfl⟩:=h;rw[h1];simp only[h2];first|exact⟨rfl,rfl⟩|exact⟨trivial,trivial⟩
 case call=>exact h.mono fun o σ'' ⟨e1,e2⟩=>by subst e1;exact⟨rfl,e2⟩
 case callv=>
  obtain⟨f,cap,h1,h2⟩:=h;rw[h1];exact h2.mono fun o σ'' ⟨e1,e2⟩=>by subst e1;exact⟨rfl,e2⟩
theorem jN{o:O}(hc:o.op.isSlot=true∨(o.op.isActG o.dst=true∧(∀f args,o.op≠.call f args)∧∀x args,o.op≠.callv x args)){K:am→List (List V)→Prop}(h:cY C o.op o.dst ρ σ K Q):∃a b σ',mc C o.op ρ σ a b σ'∧K (ap o (a,b) ρ) σ'∧(o.op.isSlot=true→σ'=σ):=by
 obtain⟨d,op,g⟩:=o;unfold ap;cases op<;>first|(exfalso;simp[OP.isSlot,OP.isActG]at hc;done)|skip
 all_goals simp only[cY]at h
 case mvo t=>
  split at h
  ·rename_i T k rows e;exact⟨_,_,σ,⟨T,k,rows,e,rfl,rfl,rfl⟩,h,fun _=>rfl⟩
  ·exact h.elim
 case nilo T k=>exact⟨.junk,_,σ,⟨rfl,rfl⟩,h,fun _=>rfl⟩
 case app T k bytes t y=>
  split at h
  ·rename_i T' k' rows rows2 e1 e2;obtain⟨⟨rfl,rfl,h1⟩,h2⟩:=h;exact⟨_,_,σ,⟨rows,rows2,e1,e2,h1,rfl,rfl,rfl⟩,h2,fun _=>rfl⟩
  ·exact h.elim
 case mkso=>
  split at h
  ·rename_i rows e;exact⟨.junk,_,σ,⟨rows,e,h.1,rfl,rfl⟩,h.2,fun _=>rfl⟩
  ·exact h.elim
 case mkc=>
  split at h
  ·rename_i kd m e;exact⟨.junk,_,σ,⟨kd,m,e,h.1,rfl,rfl⟩,h.2,fun _=>rfl⟩
  ·exact h.elim
 case new=>exact⟨.junk,_,_,⟨rfl,rfl⟩,h,fun e=>by cases e⟩
 case box=>exact⟨.junk,_,_,⟨h.1,rfl,rfl⟩,h.2,fun e=>by cases e⟩
 case mkb=>
  split at h
  ·rename_i kd m e;exact⟨.junk,_,_,⟨kd,m,e,h.1,rfl,rfl⟩,h.2,fun e=>by cases e⟩
  ·exact h.elim
 case sto=>
  have hd:d=none:=by simpa[OP.isSlot,OP.isActG]using hc
  subst hd;split at h
  ·rename_i i o e;split at h
   ·rename_i cs e2;exact⟨.junk,.junk,_,⟨i,o,cs,e,e2,h.1,rfl⟩,h.2,fun e=>by cases e⟩
   ·exact h.elim
  ·exact h.elim
 case stoo=>
  have hd:d=none:=by simpa[OP.isSlot,OP.isActG]using hc
  subst hd;split at h
  ·rename_i i o T k rows e e1;split at h
   ·rename_i cs e2;exact⟨_,.junk,_,⟨i,o,T,k,rows,cs,e,e1,e2,h.1,rfl,rfl⟩,h.2,fun e=>by cases e⟩
   ·exact h.elim
  ·exact h.elim
 case ldo=>
  split at h
  ·rename_i i o e;split at h
   ·rename_i cs e2;split at h
    ·rename_i T k rows e3;exact⟨.junk,_,_,⟨i,o,cs,T,k,rows,e,e2,e3,rfl,rfl⟩,h,fun e=>by cases e⟩
    ·exact h.elim
   ·exact h.elim
  ·exact h.elim
 case cpy=>
  split at h
  ·rename_i i off n e;split at h
   ·rename_i cs src e2 e3;exact⟨.junk,_,_,⟨i,off,n,cs,src,e,e2,e3,h.1,rfl,rfl⟩,h.2,fun e=>by cases e⟩
   ·exact h.elim
  ·exact h.elim
 case mst=>
  have hd:d=none:=by simpa[OP.isSlot,OP.isActG]using hc
  subst hd;split at h
  ·rename_i kv key e1 e2;exact⟨.junk,.junk,_,⟨kv,key,e1,e2,rfl⟩,h,fun e=>by cases e⟩
  ·exact h.elim
theorem sM{op:OP}{ρ ρ':am}{a b:V}{σ':List (List V)}(h:∀t∈op.slotsG,get ρ t=get ρ' t)(hr:mc C op ρ σ a b σ'):mc C op ρ' σ a b σ':=by
 have e1:∀(x:X),(∀t∈x.slots,t∈op.slotsG)→ev C ρ x=ev C ρ' x:=fun x hx=>bB fun t ht=>h t (hx t ht);cases op<;>simp only[mc]at hr ⊢ <;>simp only[OP.slotsG,OP.slots]at h e1<;>first|exact hr.elim|exact hr|skip
 case mvo t=>rw[←h t (by simp)];exact hr
 case app T k bytes t y=>rw[←h t (by simp),←e1 y (fun t ht=>by simp[ht])];exact hr
 case mkso=>rw[←gV h];exact hr
 case mkc x=>rw[←e1 x (fun t ht=>ht)];exact hr
 case box x=>rw[←e1 x (fun t ht=>ht)];exact hr
 case mkb x=>rw[←e1 x (fun t ht=>ht)];exact hr
 case sto x y=>rw[←e1 x (fun t ht=>by simp[ht]),←e1 y (fun t ht=>by simp[ht])];exact hr
 case stoo x t=>rw[←h t (by simp),←e1 x (fun t ht=>by simp[ht])];exact hr
 case ldo x=>rw[←e1 x (fun t ht=>ht)];exact hr
 case mst st x y z=>rw[←e1 x (fun t ht=>by simp[ht]),←e1 y (fun t ht=>by simp[ht]),←e1 z (fun t ht=>by simp[ht])];exact hr
 case cpy x y=>rw[←e1 x (fun t ht=>by simp[ht]),←e1 y (fun t ht=>by simp[ht])];exact hr
 case call f args=>
  have:(args.map fun x=>(ev C ρ' x).lend)=args.map fun x=>(ev C ρ x).lend:=List.map_congr_left fun x hx=>by rw[e1 x fun t ht=>List.mem_flatMap.2 ⟨x,hx,ht⟩]
  rw[this];exact hr
 case callv y args=>
  have:(args.map fun x=>(ev C ρ' x).lend)=args.map fun x=>(ev C ρ x).lend:=List.map_congr_left fun x hx=>by rw[e1 x fun t ht=>List.mem_append_right _ (List.mem_flatMap.2 ⟨x,hx,ht⟩)]
  rw[this,←e1 y (fun t ht=>by simp[ht])];exact hr
def xO(C:Cx)(op:OP)(ρ:am)(σ:List (List V))(P:V→List (List V)→Prop):Prop:=match op with
 | .call f args=>Fun C f (args.map fun x=>(ev C ρ x).lend) σ (fun o σ'=>∃u,o=.panic u∧P u σ')
 | .callv x args=>∃f cap,ev C ρ x=.fn f cap∧Fun C f ((args.map fun x=>(ev C ρ x).lend)++cap) σ (fun o σ'=>∃u,o=.panic u∧P u σ')
 | _=>False
theorem AY{o:O}{P:V→List (List V)→Prop}(h:xO C o.op ρ σ P):cY C o.op o.dst ρ σ (fun _ _=>False) (fun e _ σ'=>∃u,e=.panic u∧P u σ'):=by
 obtain⟨d,op,g⟩:=o;cases op;case call=>exact Fun.mono h fun o σ'' ⟨u,e1,e2⟩=>by subst e1;exact⟨u,rfl,e2⟩
 case callv=>
  obtain⟨f,cap,h1,h2⟩:=h;simp only[cY];rw[h1];exact h2.mono fun o σ'' ⟨u,e1,e2⟩=>by subst e1;exact⟨u,rfl,e2⟩
 all_goals exact h.elim
theorem sx{op:OP}{ρ ρ':am}{P:V→List (List V)→Prop}(h:∀t∈op.slotsG,get ρ t=get ρ' t)(hr:xO C op ρ σ P):xO C op ρ' σ P:=by
 have e1:∀(x:X),(∀t∈x.slots,t∈op.slotsG)→ev C ρ x=ev C ρ' x:=fun x hx=>bB fun t ht=>h t (hx t ht);cases op<;>simp only[xO]at hr ⊢ <;>simp only[OP.slotsG,OP.slots]at h e1<;>first|exact hr.elim|exact hr|skip
 case call f args=>
  have:(args.map fun x=>(ev C ρ' x).lend)=args.map fun x=>(ev C ρ x).lend:=List.map_congr_left fun x hx=>by rw[e1 x fun t ht=>List.mem_flatMap.2 ⟨x,hx,ht⟩]
  rw[this];exact hr
 case callv y args=>
  have:(args.map fun x=>(ev C ρ' x).lend)=args.map fun x=>(ev C ρ x).lend:=List.map_congr_left fun x hx=>by rw[e1 x fun t ht=>List.mem_append_right _ (List.mem_flatMap.2 ⟨x,hx,ht⟩)]
  rw[this,←e1 y (fun t ht=>by simp[ht])];exact hr
structure PendG where
 o:O
 ρ:am
 ρ':am
 hi:Nat
def reG(C:Cx)(m:Nat)(σ':List (List V)):List PendG→Prop
 | []=>True
 | p::r=>(if m≤p.hi then aU C [p.o] p.ρ σ' (fun ρ'=>ρ'=p.ρ')else True)∧reG C m σ' r
def km(C:Cx)(o:O)(ρ ρ':am):Nat→List (List (List V))→Prop
 | 0,_=>True
 | _+1,[]=>False
 | k+1,σ::h=>aU C [o] ρ σ (fun ρ''=>ρ''=ρ')∧km C o ρ ρ' k h
def qQ(m hi:Nat)(x:PendG)(p:List PendG):List PendG:=if m<hi then x::p else p
def dP(C:Cx):List (O×GK)→Nat→List (List (List V))→am→List (List V)→Prop
 | [],_,_,_,_=>True
 | (o,.free lo)::r,m,h,ρ,σ=>if lo≤m then aU C [o] ρ σ fun ρ'=>dP C r m h ρ' σ else dP C r m h (ap o (.junk,.junk) ρ) σ
 | (o,.calm lo _)::r,m,h,ρ,σ=>if lo≤m then aU C [o] ρ σ fun ρ'=>km C o ρ ρ' (m-lo) h∧dP C r m h ρ' σ else dP C r m h (ap o (.junk,.junk) ρ) σ
 | (o,.slot lo)::r,m,h,ρ,σ=>if lo≤m then cl C [o] ρ σ (fun e ρ' _=>e=.normal∧dP C r m h ρ' σ)else dP C r m h (ap o (.junk,.junk) ρ) σ
 | (o,.act)::r,m,h,ρ,σ=>dP C r m h (ap o (.junk,.junk) ρ) σ
def dS(C:Cx)(P:V→List (List V)→Prop)(K:am→List (List V)→Prop):List (O×GK)→Nat→List (List (List V))→List PendG→am→List (List V)→Prop
 | [],_,_,_,ρ,σ=>K ρ σ
 | (o,.free _)::r,m,h,p,ρ,σ=>aU C [o] ρ σ fun ρ'=>dS C P K r m h p ρ' σ
 | (o,.calm lo hi)::r,m,h,p,ρ,σ=>aU C [o] ρ σ fun ρ'=>km C o ρ ρ' (m-lo) h∧dS C P K r m h (qQ m hi ⟨o,ρ,ρ',hi⟩ p) ρ' σ
 | (o,.slot _)::r,m,h,p,ρ,σ=>cl C [o] ρ σ fun e ρ' σ'=>e=.normal∧dS C P K r m h p ρ' σ'
 | (⟨d,.call f args,g⟩,.act)::r,m,h,p,ρ,σ=>
  (∃v σ1,Fun C f (args.map fun x=>(ev C ρ x).lend) σ (fun o σ'=>o=.ret v∧σ'=σ1)∧reG C (m+1) σ1 p∧dS C P K r (m+1) (σ::h) p (putd ρ d v) σ1)∨
  (Fun C f (args.map fun x=>(ev C ρ x).lend) σ (fun o σ'=>∃u,o=.panic u∧P u σ')∧dP C r m h (putd ρ d .junk) σ)
 | (⟨d,.callv x args,g⟩,.act)::r,m,h,p,ρ,σ=>∃f cap,ev C ρ x=.fn f cap∧
  ((∃v σ1,Fun C f ((args.map fun x=>(ev C ρ x).lend)++cap) σ (fun o σ'=>o=.ret v∧σ'=σ1)∧reG C (m+1) σ1 p∧dS C P K r (m+1) (σ::h) p (putd ρ d v) σ1)∨
  (Fun C f ((args.map fun x=>(ev C ρ x).lend)++cap) σ (fun o σ'=>∃u,o=.panic u∧P u σ')∧dP C r m h (putd ρ d .junk) σ))
 | (o,.act)::r,m,h,p,ρ,σ=>cl C [o] ρ σ fun e ρ' σ'=>e=.normal∧reG C (m+1) σ' p∧dS C P K r (m+1) (σ::h) p ρ' σ'
def cF:List (O×GK)→(Nat→V×V)→Nat→(Nat→Bool)→am→am
 | [],_,_,_,ρ=>ρ
 | e::l,W,k,S,ρ=>cF l W (k+1) S (if S k then ap e.1 (W k) ρ else ρ)
theorem kz:∀(l:List (O×GK)) (W:Nat→V×V) (k:Nat) (S:Nat→Bool) (ρ ρ':am) (t:Nat),get ρ t=get ρ' t→get (cF l W k S ρ) t=get (cF l W k S ρ') t
 | [],_,_,_,_,_,_,h=>h
 | e::l,W,k,S,ρ,ρ',t,h=>by
  simp only[cF];apply kz l;cases S k
  ·exact h
  ·simp only[if_true,nG,h]
def O.writes(o:O)(t:Nat):Prop:=o.dst=some t∨o.op.w1=some t
theorem fS:∀(l:List (O×GK)) (W:Nat→V×V) (k:Nat) (S S':Nat→Bool) (ρ:am) (t:Nat),(∀i e,l[i]? = some e→e.1.writes t→S (k+i)=S' (k+i))→get (cF l W k S ρ) t=get (cF l W k S' ρ) t
 | [],_,_,_,_,_,_,_=>rfl
 | e::l,W,k,S,S',ρ,t,h=>by
  simp only[cF];rw[fS l W (k+1) S S' _ t fun i e' he hw=>by have:=h (i+1) e' (by simpa using he) hw;rwa[show k+(i+1)=k+1+i by omega]at this];apply kz;have h0:=h 0 e (by simp);by_cases hw:e.1.writes t
  ·rw[show S k=S' k from h0 hw]
  ·unfold O.writes at hw;have h1:¬e.1.dst=some t:=fun h=>hw (.inl h);have h2:¬e.1.op.w1=some t:=fun h=>hw (.inr h);cases S k<;>cases S' k<;>simp[nG,h1,h2]
theorem sn:∀(l:List (O×GK)) (W W':Nat→V×V) (k:Nat) (S:Nat→Bool) (ρ:am),(∀i,k≤i→W i=W' i)→cF l W k S ρ=cF l W' k S ρ
 | [],_,_,_,_,_,_=>rfl
 | e::l,W,W',k,S,ρ,h=>by
  simp only[cF];rw[h k (Nat.le_refl _),sn l W W' (k+1) S _ fun i hi=>h i (by omega)]
theorem jg:∀(l:List (O×GK)) (W:Nat→V×V) (k:Nat) (S:Nat→Bool) (ρ:am),(∀j,k≤j→S j=false)→cF l W k S ρ=ρ
 | [],_,_,_,_,_=>rfl
 | e::l,W,k,S,ρ,h=>by
  simp only[cF];rw[h k (Nat.le_refl _),jg l W (k+1) S _ fun j hj=>h j (by omega)];rfl
theorem lv:∀(l:List (O×GK)) (W:Nat→V×V) (k:Nat) (ρ:am) (i:Nat) (e:O×GK),l[i]? = some e→cF l W k (fun j=>decide (j<k+i+1)) ρ=ap e.1 (W (k+i)) (cF l W k (fun j=>decide (j<k+i)) ρ)
 | [],_,_,_,_,_,h=>by simp at h
 | e'::l,W,k,ρ,0,e,h=>by
  simp at h;subst h;simp only[cF];rw[jg _ _ _ _ _ (fun j hj=>by simp;omega),jg _ _ _ _ _ (fun j hj=>by simp;omega)];simp
 | e'::l,W,k,ρ,i+1,e,h=>by
  simp only[cF];have:=lv l W (k+1) ρ i e (by simpa using h);rw[if_pos (by simp;omega),if_pos (by simp)];have e1:k+(i+1)=k+1+i:=by omega
  rw[e1];exact lv l W (k+1) _ i e (by simpa using h)
theorem wb{l:List (O×GK)}(W:Nat→V×V)(ρ:am){S:Nat→Bool}{i:Nat}{e:O×GK}(he:l[i]? = some e)(hSi:S i=false)
 (hsame:∀t,(t∈e.1.looksG∨e.1.writes t)→∀(j:Nat) (q:O×GK),l[j]? = some q→j≠i→q.1.writes t→S j=decide (j<i)):
 (∀t∈e.1.looksG,get (cF l W 0 (fun j=>decide (j<i)) ρ) t=get (cF l W 0 S ρ) t)∧
 ∀t,get (cF l W 0 (fun j=>j==i||S j) ρ) t=get (ap e.1 (W i) (cF l W 0 S ρ)) t:=by
 refine⟨fun t ht=>?_,fun t=>?_⟩
 ·refine fS l W 0 _ _ ρ t fun j q hq hw=>?_;rw[Nat.zero_add];by_cases e:j=i
  ·subst e;rw[hSi];simp
  ·exact(hsame t (.inl ht) j q hq e hw).symm
 ·by_cases hw:e.1.writes t
  ·have h1:=lv l W 0 ρ i e he;rw[Nat.zero_add]at h1
   have h2:get (cF l W 0 (fun j=>j==i||S j) ρ) t=get (cF l W 0 (fun j=>decide (j<i+1)) ρ) t:=fS l W 0 _ _ ρ t fun j q hq hw'=>by
    rw[Nat.zero_add];by_cases e:j=i
    ·subst e;simp
    ·simp only[hsame t (.inr hw) j q hq e hw'];have:(j==i)=false:=by simp[e]
     rw[this,Bool.false_or,decide_eq_decide];omega
   rw[h2,h1,nG,nG];unfold O.writes at hw;split
   ·rfl
   ·rename_i h3;rw[if_pos (hw.resolve_left h3),if_pos (hw.resolve_left h3)]
  ·have h1:¬e.1.dst=some t:=fun h=>hw (.inl h);have h2:¬e.1.op.w1=some t:=fun h=>hw (.inr h);rw[nG,if_neg h1,if_neg h2];refine fS l W 0 _ _ ρ t fun j q hq hw'=>?_;rw[Nat.zero_add]
   have:(j==i)=false:=by
    rw[beq_eq_false_iff_ne];intro ee;subst ee;rw[he]at hq;cases hq;exact hw hw'
   simp[this]
def nA:List (O×GK)→Nat→(Nat→Bool)→Nat
 | [],_,_=>0
 | e::l,k,S=>(if(e.2.isAct&&S k)=true then 1 else 0)+nA l (k+1) S
def nb:List (O×GK)→Nat→Nat
 | _,0=>0
 | [],_+1=>0
 | e::l,i+1=>(if e.2.isAct=true then 1 else 0)+nb l i
theorem kH:∀(l:List (O×GK)) (k:Nat) (S S':Nat→Bool),(∀j,j<l.length→S (k+j)=S' (k+j))→nA l k S=nA l k S'
 | [],_,_,_,_=>rfl
 | e::l,k,S,S',h=>by
  simp only[nA];rw[show S k=S' k from h 0 (by simp),kH l (k+1) S S' fun j hj=>by have:=h (j+1) (by simpa using hj);rwa[show k+(j+1)=k+1+j by omega]at this]
theorem sc:∀(l:List (O×GK)) (k:Nat),nA l k (fun _=>true)=nb l l.length
 | [],_=>rfl
 | e::l,k=>by simp only[nA,List.length_cons,nb,Bool.and_true];rw[sc l (k+1)]
theorem qh:∀(l:List (O×GK)) (k:Nat),nA l k (fun _=>false)=0
 | [],_=>rfl
 | e::l,k=>by simp only[nA,Bool.and_false];rw[qh l (k+1)];rfl
theorem CZ:∀(l:List (O×GK)) (k:Nat) (S:Nat→Bool) (c lo:Nat),(∀j e,l[j]? = some e→e.2.isAct=true→c+nb l j<lo→S (k+j)=true)→min lo (c+nb l l.length)≤c+nA l k S
 | [],k,S,c,lo,h=>by simp only[nA,List.length_nil,nb];omega
 | e::l,k,S,c,lo,h=>by
  simp only[nA,List.length_cons,nb]
  have ih:=fun c' (hc':∀j,c'+nb l j<lo→c+((if e.2.isAct=true then 1 else 0)+nb l j)<lo)=>CZ l (k+1) S c' lo (fun j e' he ha hn=>by
   have:=h (j+1) e' (by simpa using he) ha (by simp only[nb];exact hc' j hn);rwa[show k+(j+1)=k+1+j by omega]at this)
  cases ha:e.2.isAct with
  | false=>
   have:=ih c (fun j hn=>by simp only[ha];simp;omega);simp only[Bool.false_and];simp;omega
  | true=>
   have:=ih (c+1) (fun j hn=>by simp only[ha];simp;omega);by_cases hlt:c<lo
   ·have h0:=h 0 e (by simp) ha (by simp only[nb];omega);simp only[Nat.add_zero]at h0;simp only[h0,Bool.and_self];simp;omega
   ·omega
theorem C5:∀(l:List (O×GK)) (k:Nat) (S:Nat→Bool) (c hi:Nat),(∀j e,l[j]? = some e→e.2.isAct=true→hi≤c+nb l j→S (k+j)=false)→c+nA l k S≤max c hi
 | [],k,S,c,hi,h=>by simp only[nA];omega
 | e::l,k,S,c,hi,h=>by
  simp only[nA]
  have ih:=fun c' (hc':∀j,hi≤c'+nb l j→hi≤c+((if e.2.isAct=true then 1 else 0)+nb l j))=>C5 l (k+1) S c' hi (fun j e' he ha hn=>by
   have:=h (j+1) e' (by simpa using he) ha (by simp only[nb];exact hc' j hn);rwa[show k+(j+1)=k+1+j by omega]at this)
  cases ha:e.2.isAct with
  | false=>
   have:=ih c (fun j hn=>by simp only[ha];simp;omega);simp only[Bool.false_and];simp;omega
  | true=>
   have:=ih (c+1) (fun j hn=>by simp only[ha];simp;omega);by_cases hlt:c<hi
   ·split<;>omega
   ·have h0:=h 0 e (by simp) ha (by simp only[nb];omega);simp only[Nat.add_zero]at h0;simp only[h0,Bool.and_false];simp;omega
theorem yY:∀(l:List (O×GK)) (k:Nat) (S:Nat→Bool) (i:Nat) (e:O×GK),l[i]? = some e→S (k+i)=false→nA l k (fun j=>j==k+i||S j)=nA l k S+if e.2.isAct=true then 1 else 0
 | [],_,_,_,_,h,_=>by simp at h
 | e'::l,k,S,0,e,h,hS=>by
  simp at h;subst h;simp only[Nat.add_zero]at hS ⊢;simp only[nA,hS,Bool.and_false,beq_self_eq_true,Bool.true_or,Bool.and_true]
  rw[kH l (k+1) (fun j=>j==k||S j) S fun j hj=>by
   have:(k+1+j==k)=false:=by simp;omega
   simp[this]]
  simp;omega
 | e'::l,k,S,i+1,e,h,hS=>by
  simp only[nA];have e1:k+(i+1)=k+1+i:=by omega
  rw[e1]at hS ⊢;rw[yY l (k+1) S i e (by simpa using h) hS];have:(k==k+1+i)=false:=by simp;omega
  simp only[this,Bool.false_or];omega
def lc(C:Cx)(P:V→List (List V)→Prop)(e:O×GK)(k z:Nat)(sq:Nat→List (List V))(ρi:am)(w:V×V):Prop:=match e.2 with
 | .free lo=>lo≤z→∀σ,Loc C e.1 ρi σ w.2
 | .calm lo hi=>lo≤z→∀q,lo≤q→q≤hi→q≤z→Loc C e.1 ρi (sq q) w.2
 | .slot lo=>lo≤z→∀σ,mc C e.1.op ρi σ w.1 w.2 σ
 | .act=>(k<z→mc C e.1.op ρi (sq k) w.1 w.2 (sq (k+1)))∧(k=z→xO C e.1.op ρi (sq z) P)
def iy(e:O×GK)(k:Nat):Bool:=match e.2 with
 | .free lo=>e.1.op.isFree&&e.1.op.isCalm&&decide (lo≤k)
 | .calm lo hi=>e.1.op.isCalm&&e.1.dst.isSome&&decide (lo≤k)&&decide (k≤hi)
 | .slot lo=>e.1.op.isSlot&&e.1.g.isNone&&decide (lo≤k)
 | .act=>e.1.op.isActG e.1.dst&&e.1.g.isNone
theorem nH{o:O}{K:am→Prop}(h:aU C [o] ρ σ K):∃x ρ',Loc C o ρ σ x∧K ρ'∧∀t,get ρ' t=get (putd ρ o.dst x) t:=by
 obtain⟨xs,hl,⟨ρ',h1,h2⟩,h3⟩:=mh (k:=0) h
 match xs,hl with
 | [x],_=>
  obtain⟨ρi,g1,g2⟩:=h3 0 (by simp) (by simp);refine⟨x,ρ',g1.congr fun t _=>?_,h1,fun t=>?_⟩
  ·rw[g2 t];simp[bw,bq]
  ·rw[h2 t];simp[bw,bq]
theorem mV{o:O}{ρ':am}{x:V}{d:Nat}(hd:o.dst=some d)(hg:∀t,get ρ' t=get (putd ρ o.dst x) t)(h:aU C [o] ρ σ fun ρ''=>ρ''=ρ'):Loc C o ρ σ x:=by
 obtain⟨x2,ρ2,h1,rfl,h3⟩:=nH h;have h4:=h3 d;have h5:=hg d;rw[cK,if_pos hd]at h4 h5;rw[←h5,h4];exact h1
theorem uJ{o:O}(h:o.op.isCalm=true):o.op.w1=none:=by
 cases ho:o.op<;>rw[ho]at h<;>first|rfl|(simp[OP.isCalm,ci]at h)
theorem mt{o:O}(h:o.op.isCalm=true)(a x:V)(ρ:am):ap o (a,x) ρ=putd ρ o.dst x:=by
 unfold ap;rw[uJ h];rfl
theorem nk{o:O}{ρ':am}:∀{n:Nat} {h:List (List (List V))},km C o ρ ρ' n h→∀r,r<n→∃σ,h[r]? = some σ∧aU C [o] ρ σ fun ρ''=>ρ''=ρ'
 | 0,_,_,r,hr=>by omega
 | n+1,[],hb,_,_=>hb.elim
 | n+1,σ::h,hb,0,_=>⟨σ,rfl,hb.1⟩
 | n+1,σ::h,hb,r+1,hr=>by
  obtain⟨σ',h1,h2⟩:=nk hb.2 r (by omega);exact⟨σ',by simpa using h1,h2⟩
theorem Ar{m:Nat}{σ':List (List V)}:∀{p:List PendG},reG C m σ' p→∀q∈p,m≤q.hi→aU C [q.o] q.ρ σ' fun ρ'=>ρ'=q.ρ'
 | [],_,_,hq,_=>by simp at hq
 | x::p,h,q,hq,hm=>by
  rcases List.mem_cons.1 hq with rfl|hq
  ·have:=h.1;rwa[if_pos hm]at this
  ·exact Ar h.2 q hq hm
theorem eO{P:V→List (List V)→Prop}{e:O×GK}{l:List (O×GK)}{k m m' z:Nat}{sq:Nat→List (List V)}{ρ ρ2:am}{w:V×V}{W:Nat→V×V}(hm:m'=m+if e.2.isAct=true then 1 else 0)
 (h0:lc C P e m z sq ρ w)(hρ2:∀t,get ρ2 t=get (ap e.1 w ρ) t)
 (ht:∀i (hi:i<l.length),∃ρi,(∀t,get ρi t=get (cF l W (k+1) (fun j=>decide (j<k+1+i)) ρ2) t)∧lc C P l[i] (m'+nb l i) z sq ρi (W (k+1+i))):
 ∀i (hi:i<(e::l).length),∃ρi,(∀t,get ρi t=get (cF (e::l) (fun i=>if i=k then w else W i) k (fun j=>decide (j<k+i)) ρ) t)∧lc C P (e::l)[i] (m+nb (e::l) i) z sq ρi (if k+i=k then w else W (k+i)):=by
 intro i hi;cases i with
 | zero=>
  refine⟨ρ,fun t=>?_,?_⟩
  ·rw[jg _ _ _ _ _ fun j hj=>by simp;omega]
  ·simpa[nb]using h0
 | succ i=>
  obtain⟨ρi,g1,g2⟩:=ht i (by simpa using hi);refine⟨ρi,fun t=>?_,?_⟩
  ·rw[g1 t];simp only[cF,if_pos (show decide (k<k+(i+1))=true by simp),if_true];rw[sn l (fun i=>if i=k then w else W i) W (k+1) _ _ fun j hj=>if_neg (by omega),show k+(i+1)=k+1+i by omega];exact kz _ _ _ _ _ _ _ (hρ2 t)
  ·simp only[List.getElem_cons_succ,nb];have hne:¬(k+(i+1)=k):=by omega
   simp only[if_neg hne];rw[show k+(i+1)=k+1+i by omega,←Nat.add_assoc,←hm];exact g2
theorem kQ{P:V→List (List V)→Prop}{m:Nat}{h:List (List (List V))}{sq:Nat→List (List V)}(hs:sq m=σ)(hh:∀r,r<m→h[r]? = some (sq (m-1-r))):∀(l:List (O×GK)) (k c:Nat) (ρ:am),m<c→(∀i e,l[i]? = some e→iy e (c+nb l i)=true)→dP C l m h ρ σ→
 ∃W:Nat→V×V,∀i (hi:i<l.length),∃ρi,(∀t,get ρi t=get (cF l W k (fun j=>decide (j<k+i)) ρ) t)∧lc C P l[i] (c+nb l i) m sq ρi (W (k+i))
 | [],_,_,_,_,_,_=>⟨fun _=>(.junk,.junk),fun i hi=>by simp at hi⟩
 | (o,g)::l,k,c,ρ,hmc,hok,hp=>by
  have hok0:=hok 0 _ rfl;simp only[nb,Nat.add_zero]at hok0
  have hokt:∀c',c'=c+(if g.isAct=true then 1 else 0)→∀i e,l[i]? = some e→iy e (c'+nb l i)=true:=fun c' hc' i e he=>by
   have:=hok (i+1) e (by simpa using he);simp only[nb]at this;rw[hc',Nat.add_assoc];exact this
  have skip:∀c',c'=c+(if g.isAct=true then 1 else 0)→lc C P (o,g) c m sq ρ (.junk,.junk)→dP C l m h (ap o (.junk,.junk) ρ) σ→∃W:Nat→V×V,∀i (hi:i<((o,g)::l).length),∃ρi,(∀t,get ρi t=get (cF ((o,g)::l) W k (fun j=>decide (j<k+i)) ρ) t)∧lc C P ((o,g)::l)[i] (c+nb ((o,g)::l) i) m sq ρi (W (k+i)):=fun c' hc' h0 hr=>by
   obtain⟨W,hW⟩:=kQ hs hh l (k+1) c' (ap o (.junk,.junk) ρ) (by omega) (hokt c' hc') hr;exact⟨_,eO hc' h0 (fun _=>rfl) hW⟩
  cases g with
  | free lo=>
   simp only[dP]at hp;simp only[iy,Bool.and_eq_true]at hok0;split at hp
   ·obtain⟨x,ρ',h1,h2,h3⟩:=nH hp;obtain⟨W,hW⟩:=kQ hs hh l (k+1) c ρ' hmc (hokt c rfl) h2;exact⟨_,eO (e:=(o,.free lo)) (w:=(.junk,x)) rfl (fun _ σ2=>h1.free hok0.1.1 σ2) (fun t=>by rw[h3 t,mt hok0.1.2]) hW⟩
   ·exact skip c rfl (fun hz=>absurd hz (by assumption)) hp
  | calm lo hi=>
   simp only[dP]at hp;simp only[iy,Bool.and_eq_true,decide_eq_true_eq]at hok0;split at hp
   ·rename_i hlo;obtain⟨x,ρ',h1,⟨h2,h4⟩,h3⟩:=nH hp;obtain⟨d,hd⟩:=Option.isSome_iff_exists.1 hok0.1.1.2;obtain⟨W,hW⟩:=kQ hs hh l (k+1) c ρ' hmc (hokt c rfl) h4;refine⟨_,eO (e:=(o,.calm lo hi)) (w:=(.junk,x)) rfl (fun _ q q1 q2 q3=>?_) (fun t=>by rw[h3 t,mt hok0.1.1.1]) hW⟩;by_cases e:q=m
    ·subst e;rw[hs];exact h1
    ·obtain⟨σ',g1,g2⟩:=nk h2 (m-1-q) (by omega);rw[hh _ (by omega),show m-1-(m-1-q)=q by omega]at g1;cases g1;exact mV hd h3 g2
   ·exact skip c rfl (fun hz=>absurd hz (by assumption)) hp
  | slot lo=>
   simp only[dP]at hp;simp only[iy,Bool.and_eq_true,Option.isNone_iff_eq_none]at hok0;split at hp
   ·simp only[cl,hok0.1.2]at hp;obtain⟨a,b,σ',h1,⟨-,h2⟩,h3⟩:=jN (.inl hok0.1.1) hp;have hσ:=h3 hok0.1.1;rw[hσ]at h1;obtain⟨W,hW⟩:=kQ hs hh l (k+1) c _ hmc (hokt c rfl) h2;refine⟨_,eO (e:=(o,.slot lo)) (w:=(a,b)) rfl (fun _ σ2=>?_) (fun t=>rfl) hW⟩;cases ho:o.op<;>rw[ho]at h1 hok0<;>first|(simp[OP.isSlot]at hok0;done)|skip
    all_goals (simp only[mc]at h1 ⊢;simpa using h1)
   ·exact skip c rfl (fun hz=>absurd hz (by assumption)) hp
  | act=>
   simp only[dP]at hp;exact skip (c+1) rfl ⟨fun hz=>by omega,fun hz=>by omega⟩ hp
def ExG(C:Cx)(P:V→List (List V)→Prop)(K:am→List (List V)→Prop)(l:List (O×GK))(k m:Nat)(p:List PendG)(ρ:am)(sq0:Nat→List (List V)):Prop:=
 ∃(W:Nat→V×V) (sq:Nat→List (List V)) (z:Nat),(∀q,q≤m→sq q=sq0 q)∧m≤z∧z≤m+nb l l.length∧
  (∀q∈p,∀r,m<r→r≤z→r≤q.hi→aU C [q.o] q.ρ (sq r) fun ρ'=>ρ'=q.ρ')∧
  (∀i (hi:i<l.length),∃ρi,(∀t,get ρi t=get (cF l W k (fun j=>decide (j<k+i)) ρ) t)∧lc C P l[i] (m+nb l i) z sq ρi (W (k+i)))∧
  (z=m+nb l l.length→∃ρf,K ρf (sq z)∧∀t,get ρf t=get (cF l W k (fun _=>true) ρ) t)
theorem pW{P:V→List (List V)→Prop}{K:am→List (List V)→Prop}:∀(l:List (O×GK)) (k m:Nat) (h:List (List (List V))) (p:List PendG) (ρ:am) (σ:List (List V)) (sq0:Nat→List (List V)),sq0 m=σ→(∀r,r<m→h[r]? = some (sq0 (m-1-r)))→
 (∀i e,l[i]? = some e→iy e (m+nb l i)=true)→dS C P K l m h p ρ σ→
 ExG C P K l k m p ρ sq0
 | [],k,m,h,p,ρ,σ,sq0,hs,hh,hok,hg=>⟨fun _=>(.junk,.junk),sq0,m,fun _ _=>rfl,Nat.le_refl _,by simp[nb],fun q hq r h1 h2=>by omega,fun i hi=>by simp at hi,fun _=>⟨ρ,by rw[hs];exact hg,fun _=>rfl⟩⟩
 | (o,g)::l,k,m,h,p,ρ,σ,sq0,hs,hh,hok,hg=>by
  have hok0:=hok 0 _ rfl;simp only[nb,Nat.add_zero]at hok0
  have hokt:∀c',c'=m+(if g.isAct=true then 1 else 0)→∀i e,l[i]? = some e→iy e (c'+nb l i)=true:=fun c' hc' i e he=>by
   have:=hok (i+1) e (by simpa using he);simp only[nb]at this;rw[hc',Nat.add_assoc];exact this
  have fin:∀{W:Nat→V×V} {w:V×V} {ρ2:am},(∀t,get ρ2 t=get (ap o w ρ) t)→∀{ρf:am},(∀t,get ρf t=get (cF l W (k+1) (fun _=>true) ρ2) t)→∀t,get ρf t=get (cF ((o,g)::l) (fun i=>if i=k then w else W i) k (fun _=>true) ρ) t:=fun{W w ρ2} h1 {ρf} h2 t=>by
   simp only[cF,if_true];rw[h2 t,sn l (fun i=>if i=k then w else W i) W (k+1) _ _ fun j hj=>if_neg (by omega)];exact kz _ _ _ _ _ _ _ (h1 t)
  have calm:g.isAct=false→∀(p':List PendG) (ρ':am) (w:V×V),(∀q∈p,q∈p')→(∀t,get ρ' t=get (ap o w ρ) t)→dS C P K l m h p' ρ' σ→
   (∀(sq:Nat→List (List V)) (z:Nat),m≤z→(∀q,q≤m→sq q=sq0 q)→(∀q∈p',∀r,m<r→r≤z→r≤q.hi→aU C [q.o] q.ρ (sq r) fun ρ'=>ρ'=q.ρ')→lc C P (o,g) m z sq ρ w)→ExG C P K ((o,g)::l) k m p ρ sq0:=fun hna p' ρ' w hp hρ hr hf=>by
   obtain⟨W,sq,z,g1,g2,g3,g4,g5,g6⟩:=pW l (k+1) m h p' ρ' σ sq0 hs hh (hokt m (by simp[hna])) hr;have hn:nb ((o,g)::l) ((o,g)::l).length=nb l l.length:=by simp[nb,hna]
   exact⟨fun i=>if i=k then w else W i,sq,z,g1,g2,by rw[hn];exact g3,fun q hq=>g4 q (hp q hq),eO (by simp[hna]) (hf sq z g2 g1 g4) hρ g5,fun hz=>by
    rw[hn]at hz;obtain⟨ρf,k1,k2⟩:=g6 hz;exact⟨ρf,k1,fin hρ k2⟩⟩
  have acts:g=.act→∀(ρ':am) (w:V×V) (σ1:List (List V)),(∀t,get ρ' t=get (ap o w ρ) t)→mc C o.op ρ σ w.1 w.2 σ1→reG C (m+1) σ1 p→dS C P K l (m+1) (σ::h) p ρ' σ1→ExG C P K ((o,g)::l) k m p ρ sq0:=fun hg ρ' w σ1 hρ hE hre hr=>by
   subst hg
   obtain⟨W,sq,z,g1,g2,g3,g4,g5,g6⟩:=pW l (k+1) (m+1) (σ::h) p ρ' σ1 (fun q=>if q≤m then sq0 q else σ1) (if_neg (by omega)) (fun r hr=>by
    cases r with
    | zero=>simp[hs]
    | succ r=>
     have:=hh r (by omega);simp only[List.getElem?_cons_succ,this];rw[if_pos (by omega),show m+1-1-(r+1)=m-1-r by omega]) (hokt (m+1) rfl) hr
   have hn:m+nb ((o,.act)::l) ((o,GK.act)::l).length=m+1+nb l l.length:=by simp[nb,GK.isAct];omega
   have e1:∀q,q≤m→sq q=sq0 q:=fun q hq=>(g1 q (by omega)).trans (if_pos hq);have e2:sq (m+1)=σ1:=(g1 _ (Nat.le_refl _)).trans (if_neg (by omega));refine⟨fun i=>if i=k then w else W i,sq,z,e1,by omega,by rw[hn];exact g3,fun q hq r h1 h2 h3=>?_,eO (e:=(o,.act)) rfl ⟨fun _=>?_,fun hz=>by omega⟩ hρ g5,fun hz=>?_⟩
   ·by_cases e:r=m+1
    ·subst e;rw[e2];exact Ar hre q hq h3
    ·exact g4 q hq r (by omega) h2 h3
   ·rw[e2,e1 m (Nat.le_refl _),hs];exact hE
   ·rw[hn]at hz;obtain⟨ρf,k1,k2⟩:=g6 hz;exact⟨ρf,k1,fin hρ k2⟩
  have pans:g=.act→xO C o.op ρ σ P→dP C l m h (ap o (.junk,.junk) ρ) σ→ExG C P K ((o,g)::l) k m p ρ sq0:=fun hg hE hr=>by
   subst hg;obtain⟨W,hW⟩:=kQ (P:=P) (sq:=sq0) hs hh l (k+1) (m+1) _ (by omega) (hokt (m+1) rfl) hr;exact⟨fun i=>if i=k then(.junk,.junk)else W i,sq0,m,fun _ _=>rfl,Nat.le_refl _,Nat.le_add_right _ _,fun q hq r h1 h2=>by omega,eO (e:=(o,.act)) rfl ⟨fun hz=>by omega,fun _=>by rw[hs];exact hE⟩ (fun _=>rfl) hW,fun hz=>by simp[nb,GK.isAct]at hz⟩
  cases g with
  | free lo=>
   simp only[dS]at hg;simp only[iy,Bool.and_eq_true]at hok0;obtain⟨x,ρ',h1,h2,h3⟩:=nH hg;exact calm rfl p ρ' (.junk,x) (fun _ h=>h) (fun t=>by rw[h3 t,mt hok0.1.2]) h2 fun sq z _ _ _ _ σ2=>h1.free hok0.1.1 σ2
  | calm lo hi=>
   simp only[dS]at hg;simp only[iy,Bool.and_eq_true,decide_eq_true_eq]at hok0;obtain⟨x,ρ',h1,⟨h2,h4⟩,h3⟩:=nH hg;obtain⟨d,hd⟩:=Option.isSome_iff_exists.1 hok0.1.1.2;refine calm rfl _ ρ' (.junk,x) (fun q hq=>?_) (fun t=>by rw[h3 t,mt hok0.1.1.1]) h4 fun sq z hz hsq hpd _ q q1 q2 q3=>?_
   ·unfold qQ;split
    ·exact List.mem_cons_of_mem _ hq
    ·exact hq
   ·by_cases e:q=m
    ·subst e;rw[hsq q (Nat.le_refl _),hs];exact h1
    ·by_cases e2:q<m
     ·obtain⟨σ',k1,k2⟩:=nk h2 (m-1-q) (by omega);rw[hh _ (by omega),show m-1-(m-1-q)=q by omega]at k1;cases k1;rw[hsq q (by omega)];exact mV hd h3 k2
     ·have:=hpd ⟨o,ρ,ρ',hi⟩ (by unfold qQ;rw[if_pos (by omega)];simp) q (by omega) q3 q2;exact mV hd h3 this
  | slot lo=>
   simp only[dS]at hg;simp only[iy,Bool.and_eq_true,Option.isNone_iff_eq_none]at hok0;simp only[cl,hok0.1.2]at hg;obtain⟨a,b,σ',h1,⟨-,h2⟩,h3⟩:=jN (.inl hok0.1.1) hg;have hσ:=h3 hok0.1.1;rw[hσ]at h1 h2;refine calm rfl p _ (a,b) (fun _ h=>h) (fun _=>rfl) h2 fun sq z _ _ _ _ σ2=>?_;cases ho:o.op<;>rw[ho]at h1 hok0<;>first|(simp[OP.isSlot]at hok0;done)|skip
   all_goals (simp only[mc]at h1 ⊢;simpa using h1)
  | act=>
   simp only[iy,Bool.and_eq_true,Option.isNone_iff_eq_none]at hok0;obtain⟨d,op,gd⟩:=o
   have det:(∀f args,op≠.call f args)→(∀x args,op≠.callv x args)→(cl C [⟨d,op,gd⟩] ρ σ fun e ρ' σ'=>e=.normal∧reG C (m+1) σ' p∧dS C P K l (m+1) (σ::h) p ρ' σ')→ExG C P K ((⟨d,op,gd⟩,.act)::l) k m p ρ sq0:=fun n1 n2 hg=>by
    simp only at hok0;simp only[cl,hok0.2]at hg;obtain⟨a,b,σ',h1,⟨-,h2,h4⟩,h3⟩:=jN (o:=⟨d,op,gd⟩) (.inr ⟨hok0.1,n1,n2⟩) hg;exact acts rfl _ (a,b) σ' (fun _=>rfl) h1 h2 h4
   cases op
   case call f args=>
    simp only[dS]at hg;rcases hg with⟨v,σ1,h1,h2,h3⟩|⟨h1,h2⟩
    ·exact acts rfl _ (.junk,v) σ1 (fun _=>rfl) h1 h2 h3
    ·exact pans rfl h1 h2
   case callv x args=>
    simp only[dS]at hg;obtain⟨f,cap,he,hg⟩:=hg;rcases hg with⟨v,σ1,h1,h2,h3⟩|⟨h1,h2⟩
    ·exact acts rfl _ (.junk,v) σ1 (fun _=>rfl) ⟨f,cap,he,h1⟩ h2 h3
    ·exact pans rfl ⟨f,cap,he,h1⟩ h2
   all_goals exact det (fun _ _ h=>by cases h) (fun _ _ h=>by cases h) (by simpa only[dS]using hg)
def O.wl(o:O):List Nat:=o.dst.toList++o.op.w1.toList
def loG(e:O×GK)(k:Nat):Nat:=match e.2 with
 | .free lo=>lo
 | .calm lo _=>lo
 | .slot lo=>lo
 | .act=>k
def hiG(e:O×GK)(k:Nat):Option Nat:=match e.2 with
 | .calm _ hi=>some hi
 | .act=>some k
 | _=>none
def kZ(l:List (O×GK))(os:List Oper):Bool:=
 let bf:=aO os []
 ((List.range os.length).all fun i=>match os[i]? with|some o=>(aE o).all fun j=>decide (j<i)|none=>true) &&
 ((List.range l.length).all fun i=>match l[i]? with
   | some e=>iy e (nb l i)&&((List.range l.length).all fun j=>j==i||(match l[j]? with
    | some q=>(!((e.1.looksG++e.1.wl).any fun t=>q.1.wl.contains t)||(if j<i then(bf.getD i []).contains j else(bf.getD j []).contains i)) &&
     (!q.2.isAct||((!decide (nb l j<loG e (nb l i))||(bf.getD i []).contains j)&&(match hiG e (nb l i)with|some hi=>!decide (hi≤nb l j)||(bf.getD j []).contains i|none=>true)))
    | none=>true))
   | none=>true)
structure OKG(l:List (O×GK))(os:List Oper):Prop where
 lt:∀(i:Nat) (o:Oper),os[i]? = some o→∀j∈aE o,j<i
 one:∀(i:Nat) (e:O×GK),l[i]? = some e→iy e (nb l i)=true
 cmp:∀(i:Nat) (e:O×GK),l[i]? = some e→∀t,(t∈e.1.looksG∨e.1.writes t)→∀(j:Nat) (q:O×GK),l[j]? = some q→j≠i→q.1.writes t→(j<i∧j∈(aO os []).getD i [])∨(i<j∧i∈(aO os []).getD j [])
 lo:∀(i:Nat) (e:O×GK),l[i]? = some e→∀(j:Nat) (q:O×GK),l[j]? = some q→j≠i→q.2.isAct=true→nb l j<loG e (nb l i)→j∈(aO os []).getD i []
 hi:∀(i:Nat) (e:O×GK),l[i]? = some e→∀(j:Nat) (q:O×GK),l[j]? = some q→j≠i→q.2.isAct=true→∀h,hiG e (nb l i)=some h→h≤nb l j→i∈(aO os []).getD j []
theorem o8{o:O}{t:Nat}:t∈o.wl↔o.writes t:=by
 unfold O.wl O.writes;simp[List.mem_append]
theorem th{l:List (O×GK)}{os:List Oper}(h:kZ l os=true):OKG l os:=by
 unfold kZ at h;simp only[Bool.and_eq_true]at h;obtain⟨h1,h2⟩:=h;simp only[List.all_eq_true,List.mem_range]at h1 h2
 have two:∀(i:Nat) (e:O×GK),l[i]? = some e→iy e (nb l i)=true∧∀(j:Nat) (q:O×GK),l[j]? = some q→j≠i→_:=fun i e he=>by
  have:=h2 i (List.getElem?_eq_some_iff.1 he).1;rw[he]at this;simp only[Bool.and_eq_true,List.all_eq_true,List.mem_range]at this;refine⟨this.1,fun j q hq hne=>?_⟩;have h3:=this.2 j (List.getElem?_eq_some_iff.1 hq).1;rw[hq]at h3;have hne':(j==i)=false:=by simp[hne]
  rw[hne',Bool.false_or,Bool.and_eq_true]at h3;exact h3
 refine⟨fun i o ho j hj=>?_,fun i e he=>(two i e he).1,fun i e he t ht j q hq hne hw=>?_,fun i e he j q hq hne ha hlt=>?_,fun i e he j q hq hne ha hh eh hle=>?_⟩
 ·have:=h1 i (List.getElem?_eq_some_iff.1 ho).1;rw[ho]at this;simpa using List.all_eq_true.1 this j hj
 ·have h3:=((two i e he).2 j q hq hne).1
  have hany:((e.1.looksG++e.1.wl).any fun t=>q.1.wl.contains t)=true:=by
   rw[List.any_eq_true];refine⟨t,?_,by rw[List.contains_iff_mem];exact o8.2 hw⟩;rw[List.mem_append];exact ht.imp id o8.2
  rw[hany]at h3;simp only[Bool.not_true,Bool.false_or]at h3;split at h3
  ·exact .inl ⟨by assumption,by simpa using h3⟩
  ·exact .inr ⟨by omega,by simpa using h3⟩
 ·have h3:=((two i e he).2 j q hq hne).2;simp only[ha,Bool.not_true,Bool.false_or,Bool.and_eq_true,Bool.or_eq_true,Bool.not_eq_true',decide_eq_false_iff_not]at h3;rcases h3.1 with h4|h4
  ·exact absurd hlt h4
  ·simpa using h4
 ·have h3:=((two i e he).2 j q hq hne).2;simp only[ha,Bool.not_true,Bool.false_or,Bool.and_eq_true,eh,Bool.or_eq_true,Bool.not_eq_true',decide_eq_false_iff_not]at h3;rcases h3.2 with h4|h4
  ·exact absurd hle h4
  ·simpa using h4
theorem uE:∀(l:List (O×GK)) (i:Nat),nb l i≤nb l l.length
 | [],0=>Nat.le_refl _
 | [],_+1=>Nat.le_refl _
 | e::l,0=>Nat.zero_le _
 | e::l,i+1=>by simp only[nb,List.length_cons];have:=uE l i;omega
theorem Db:∀(l:List (O×GK)) (i:Nat) (e:O×GK),l[i]? = some e→e.2.isAct=true→nb l i<nb l l.length
 | [],_,_,h,_=>by simp at h
 | e'::l,0,e,h,ha=>by simp at h;subst h;simp only[nb,List.length_cons,ha];simp;omega
 | e'::l,i+1,e,h,ha=>by simp only[nb,List.length_cons];have:=Db l i e (by simpa using h) ha;omega
theorem rc{M0:av}{bm0:List Nat}{w0:World}(hG:C.glob M0 pr w0){id:Nat}{ops:Array Oper}{l:List (O×GK)}{M:av}{bm:List Nat}{tk:aY}{a:Act}{w:World}(hok:il C.tab n ops (l.map (·.1)) ops.toList=true)(hdr:kZ l ops.toList=true)
 (hl:Later M0 bm0 pr w0 M bm w)(h:SRel M bm tk pr ρ σ n a w)
 (hq:dS C (fun u σ'=>∀ρ',Q (.panic u) ρ' σ') (fun ρ' σ'=>Q .normal ρ' σ') l 0 [] [] ρ σ):
 (Code.region id ops true).wp C.P (bA M0 bm0 pr w0 n Q) a w:=by
 obtain⟨hlen,hget⟩:=jd hok;have D:=th hdr;have hnl:l.length=ops.size:=by have:=hlen;simp at this;exact this
 obtain⟨W,sq,z,e0,-,e2,-,facts,fin⟩:=pW l 0 0 [] [] ρ σ (fun _=>σ) rfl (fun r hr=>by omega) (fun i e he=>by rw[Nat.zero_add];exact D.one i e he) hq;simp only[Nat.zero_add]at e2 facts fin;have sq0:sq 0=σ:=e0 0 (Nat.le_refl _)
 have fact:∀(i:Nat) (e:O×GK),l[i]? = some e→∃ρi,(∀t,get ρi t=get (cF l W 0 (fun j=>decide (j<i)) ρ) t)∧lc C (fun u σ'=>∀ρ',Q (.panic u) ρ' σ') e (nb l i) z sq ρi (W i):=fun i e he=>by
  obtain⟨hi,rfl⟩:=List.getElem?_eq_some_iff.1 he;exact facts i hi
 obtain⟨ρe,hρe⟩:∃ρe,∀t,get ρe t=get (cF l W 0 (fun _=>true) ρ) t:=⟨_,fun _=>rfl⟩
 have pick:∃ρf,(∀t,get ρf t=get (cF l W 0 (fun _=>true) ρ) t)∧(z=nb l l.length→Q .normal ρf (sq z)):=by
  by_cases hz:z=nb l l.length
  ·obtain⟨ρf,k1,k2⟩:=fin hz;exact⟨ρf,k2,fun _=>k1⟩
  ·exact⟨ρe,hρe,fun e=>absurd e hz⟩
 obtain⟨ρf,f1,f2⟩:=pick;refine xD (M:=M) (bm:=bm) (tk:=tk) (fun S=>cF l W 0 S ρ) (fun S=>sq (nA l 0 S)) ρf (sq (nb l l.length)) (fun S=>nA l 0 S≤z) (by rw[qh];exact Nat.zero_le _) (fun S S' hS hI=>by rw[←kH l 0 S S' fun j hj=>by rw[Nat.zero_add];exact hS j (by omega)];exact hI) D.lt (fun S S' hS=>⟨fun t=>?_,?_⟩) hl ?_ (fun hI=>?_) ?_
 ·refine fS l W 0 S S' ρ t fun i e he _=>?_;rw[Nat.zero_add];exact hS i (by have:=(List.getElem?_eq_some_iff.1 he).1;omega)
 ·show sq _=sq _;rw[kH l 0 S S' fun j hj=>by rw[Nat.zero_add];exact hS j (by omega)]
 ·rw[qh,sq0,jg _ _ _ _ _ fun _ _=>rfl];exact h
 ·rw[sc]at hI;have hz:z=nb l l.length:=by omega
  refine⟨⟨f1,by rw[sc]⟩,?_⟩;have:=f2 hz;rwa[hz]at this
 intro S i o' ho' hSi hclo hedge hI M bm tk a w hl h;have hi1:i<ops.toList.length:=(List.getElem?_eq_some_iff.1 ho').1;have hi2:i<l.length:=by rw[hnl];simpa using hi1
 obtain⟨e,he⟩:∃e,l[i]? = some e:=⟨_,List.getElem?_eq_getElem hi2⟩
 have hlo:(l.map (·.1))[i]? = some e.1:=by rw[List.getElem?_map,he];rfl
 have hoo:=hget i _ o' hlo ho';have hbef:∀j∈(aO ops.toList []).getD i [],S j=true:=dc D.lt (S:=fun j=>S j=true) hclo i o' ho' hedge
 have hbefj:∀q,q<l.length→S q=true→∀j∈(aO ops.toList []).getD q [],S j=true:=fun q hq hSq=>by
  have hq2:ops.toList[q]? = some (ops.toList[q]'(by simp;omega)):=List.getElem?_eq_getElem _;exact dc D.lt (S:=fun j=>S j=true) hclo q _ hq2 (hclo q _ hq2 hSq)
 have hno:∀(j:Nat) (q:O×GK),l[j]? = some q→i∈(aO ops.toList []).getD j []→S j=false:=fun j q hj hm=>by
  have:¬S j=true:=fun hjl=>by
   have:=hbefj j (List.getElem?_eq_some_iff.1 hj).1 hjl i hm;rw[hSi]at this;cases this
  simpa using this
 have hsame:∀t,(t∈e.1.looksG∨e.1.writes t)→∀(j:Nat) (q:O×GK),l[j]? = some q→j≠i→q.1.writes t→S j=decide (j<i):=by
  intro t ht j q hj hne hw;rcases D.cmp i e he t ht j q hj hne hw with⟨g1,g2⟩|⟨g1,g2⟩
  ·rw[hbef j g2];simp[g1]
  ·rw[hno j q hj g2];simp;omega
 obtain⟨hgl,hn⟩:=wb W ρ he hSi hsame;obtain⟨ρi,g1,g2⟩:=fact i e he;have cg:∀t∈e.1.looksG,get ρi t=get (cF l W 0 S ρ) t:=fun t ht=>by rw[g1 t];exact hgl t ht
 have cgo:∀t∈e.1.op.slotsG,get ρi t=get (cF l W 0 S ρ) t:=fun t ht=>cg t (by unfold O.looksG;simp[ht]);have one:=D.one i e he;have hadd:=yY l 0 S i e he (by rw[Nat.zero_add];exact hSi);simp only[Nat.zero_add]at hadd
 have hlow:loG e (nb l i)≤nb l l.length→loG e (nb l i)≤nA l 0 S:=fun hle=>by
  have:=CZ l 0 S 0 (loG e (nb l i)) fun j q hj ha hlt=>by
   rw[Nat.zero_add]at hlt ⊢;by_cases hne:j=i
   ·subst hne;rw[he]at hj;cases hj;unfold loG at hlt;unfold GK.isAct at ha
    revert ha hlt
    cases e.2<;>simp
   ·exact hbef j (D.lo i e he j q hj hne ha hlt)
  omega
 have hhigh:∀h,hiG e (nb l i)=some h→nA l 0 S≤h:=fun h eh=>by
  have:=C5 l 0 S 0 h fun j q hj ha hle=>by
   rw[Nat.zero_add]at hle ⊢;by_cases hne:j=i
   ·subst hne;exact hSi
   ·exact hno j q hj (D.hi i e he j q hj hne ha h eh hle)
  omega
 have wantNone:e.1.g=none→Region.wanted o' (yielded ops a.tmps)=true:=fun hg=>by
  have hgd:=hoo;unfold okO at hgd;simp only[Bool.and_eq_true]at hgd;replace hgd:=hgd.2;rw[hg]at hgd;split at hgd
  ·rename_i hg2;simp[Region.wanted,hg2]
  ·rename_i e _;cases e
  ·cases hgd
 have wrapC:e.2.isAct=false→e.1.op.isCalm=true→Loc C e.1 ρi (sq (nA l 0 S)) (W i).2→
  if Region.wanted o' (yielded ops a.tmps)then o'.wp C.P a w (jF M bm pr w n fun ρ' σ'=>(∀t,get ρ' t=get (cF l W 0 (fun j=>j==i||S j) ρ) t)∧σ'=sq (nA l 0 fun j=>j==i||S j)∧nA l 0 (fun j=>j==i||S j)≤z) (bA M bm pr w n Q)
  else SRel M bm tk pr (cF l W 0 (fun j=>j==i||S j) ρ) (sq (nA l 0 fun j=>j==i||S j)) n (a.put o'.dst undef) w∧nA l 0 (fun j=>j==i||S j)≤z:=fun hna hc hL=>by
  have e3:nA l 0 (fun j=>j==i||S j)=nA l 0 S:=by rw[hadd,hna];simp
  rw[e3];have hap:∀t,get (ap e.1 (W i) (cF l W 0 S ρ)) t=get (putd (cF l W 0 S ρ) e.1.dst (W i).2) t:=fun t=>by unfold ap;rw[uJ hc];rfl
  have:=yH (Q:=Q) (hG.mono hl) h hoo (hL.congr fun t ht=>cg t (by rw[←sa hc];exact ht));split at this
  ·rename_i hw;rw[if_pos hw];exact Oper.wp_mono2 (fun a' w' ⟨M',bm',tk',ρ',σ',⟨k1,k2⟩,k3,k4⟩=>⟨M',bm',tk',ρ',σ',⟨fun t=>by rw[k1,hn t,hap t],k2,hI⟩,k3,k4⟩) (fun e a' w' hh=>hh) this
  ·rename_i hw;rw[if_neg hw];exact⟨this.congr fun t=>by rw[hn t,hap t],hI⟩
 have wrapE:e.1.g=none→(e.1.op.isSlot=true∨e.1.op.isActG e.1.dst=true)→nA l 0 (fun j=>j==i||S j)≤z→mc C e.1.op ρi (sq (nA l 0 S)) (W i).1 (W i).2 (sq (nA l 0 fun j=>j==i||S j))→
  if Region.wanted o' (yielded ops a.tmps)then o'.wp C.P a w (jF M bm pr w n fun ρ' σ'=>(∀t,get ρ' t=get (cF l W 0 (fun j=>j==i||S j) ρ) t)∧σ'=sq (nA l 0 fun j=>j==i||S j)∧nA l 0 (fun j=>j==i||S j)≤z) (bA M bm pr w n Q)
  else SRel M bm tk pr (cF l W 0 (fun j=>j==i||S j) ρ) (sq (nA l 0 fun j=>j==i||S j)) n (a.put o'.dst undef) w∧nA l 0 (fun j=>j==i||S j)≤z:=fun hg hc hz hE=>by
  rw[if_pos (wantNone hg)];refine Oper.wp_mono2 (fun a' w' ⟨M',bm',tk',ρ',σ',⟨k1,k2⟩,k3,k4⟩=>⟨M',bm',tk',ρ',σ',⟨fun t=>by rw[k1,hn t],k2,hz⟩,k3,k4⟩) (fun e a' w' ⟨_,_,_,_,_,_,hf,_⟩=>hf.elim) (cM (Q:=fun _ _ _=>False) (hG.mono hl) h hoo (yQ hc (sM cgo hE)))
 obtain⟨o,g⟩:=e;cases g with
 | free lo=>
  simp only[iy,Bool.and_eq_true,decide_eq_true_eq]at one;have:=hlow (by simp only[loG];have:=uE l i;omega);exact wrapC rfl one.1.2 (g2 (by simp only[loG]at this;omega) _)
 | calm lo hi=>
  simp only[iy,Bool.and_eq_true,decide_eq_true_eq]at one;have h1:=hlow (by simp only[loG];have:=uE l i;omega);have h2:=hhigh hi rfl;simp only[loG]at h1;exact wrapC rfl one.1.1.1 (g2 (by omega) _ h1 h2 hI)
 | slot lo=>
  simp only[iy,Bool.and_eq_true,Option.isNone_iff_eq_none,decide_eq_true_eq]at one;have h1:=hlow (by simp only[loG];have:=uE l i;omega);simp only[loG]at h1;have e3:nA l 0 (fun j=>j==i||S j)=nA l 0 S:=by rw[hadd];simp[GK.isAct]
  exact wrapE one.1.2 (.inl one.1.1) (by rw[e3];exact hI) (by rw[e3];exact g2 (by omega) _)
 | act=>
  simp only[iy,Bool.and_eq_true,Option.isNone_iff_eq_none]at one;have hlt:=Db l i _ he rfl;have h1:=hlow (by simp only[loG];omega);have h2:=hhigh _ rfl;simp only[loG]at h1;have hc:nA l 0 S=nb l i:=by omega
  have e3:nA l 0 (fun j=>j==i||S j)=nb l i+1:=by rw[hadd,hc];simp[GK.isAct]
  by_cases hz:nb l i<z
  ·exact wrapE one.2 (.inr one.1) (by rw[e3];omega) (by rw[e3,hc];exact g2.1 hz)
  ·have hzz:nb l i=z:=by omega
   have hp:=g2.2 hzz;rw[if_pos (wantNone one.2)];have hE:=AY (o:=o) (sx (ρ':=cF l W 0 S ρ) cgo hp);rw[←hzz,←hc]at hE;refine Oper.wp_mono2 (fun a' w' ⟨M',bm',tk',ρ',σ',hf,k3,k4⟩=>hf.elim) (fun e a' w' ⟨M',bm',tk',ρ',σ',x,⟨u,k1,k2⟩,k3⟩=>⟨M',bm',tk',ρ',σ',x,by subst k1;exact k2 ρ',k3⟩) (cM (K:=fun _ _=>False) (Q:=fun e _ σ'=>∃u,e=.panic u∧∀ρ',Q (.panic u) ρ' σ') (hG.mono hl) h hoo hE)
end
end Go.Proofs.YtcbahpllcfbkmaaGreatDoor
namespace Go.Proofs.YtcbahpllcfbkmaaGreatDoor
open Go.RowKit
section
variable {C : Cx} {pr : Prot} {n : Nat} {Q : AEx → am → List (List V) → Prop}
theorem ze{M0:av}{bm0:List Nat}{w0:World}{id:Nat}{ops:Array Oper}{M:av}{bm:List Nat}{tk:aY}{a:Act}{w:World}(R:(Nat→Bool)→am→List (List V)→Prop){ρ0:am}{σ0:List (List V)}
 (hlt:∀(i:Nat) (o:Oper),ops.toList[i]? = some o→∀j∈aE o,j<i)
 (hext:∀S S' ρ σ,(∀j,j<ops.size→S j=S' j)→R S ρ σ→R S' ρ σ)
 (hl:Later M0 bm0 pr w0 M bm w)(h:SRel M bm tk pr ρ0 σ0 n a w)(h0:R (fun _=>false) ρ0 σ0)
 (hq:∀ρ σ,R (fun _=>true) ρ σ→∃ρ2,Q .normal ρ2 σ∧∀t,get ρ t=get ρ2 t)
 (step:∀(S:Nat→Bool) (i:Nat) (o:Oper),ops.toList[i]? = some o→S i=false→(∀(j:Nat) (p:Oper),ops.toList[j]? = some p→S j=true→∀e∈aE p,S e=true)→(∀e∈aE o,S e=true)→
   ∀(M:av) (bm:List Nat) (tk:aY) (a:Act) (w:World) (ρ:am) (σ:List (List V)),Later M0 bm0 pr w0 M bm w→R S ρ σ→SRel M bm tk pr ρ σ n a w→
    if Region.wanted o (yielded ops a.tmps)then o.wp C.P a w (jF M bm pr w n (R fun j=>j==i||S j)) (bA M bm pr w n fun _ _ _=>False)
    else ∃ρ',R (fun j=>j==i||S j) ρ' σ∧SRel M bm tk pr ρ' σ n (a.put o.dst undef) w):
 (Code.region id ops true).wp C.P (bA M0 bm0 pr w0 n Q) a w:=by
 refine wp_region_any C.mixed ?_
 suffices H:∀(fuel:Nat) (listed:Array Bool) (M:av) (bm:List Nat) (tk:aY) (a:Act) (w:World) (ρ:am) (σ:List (List V)),Later M0 bm0 pr w0 M bm w→R (fun i=>listed.getD i false) ρ σ→SRel M bm tk pr ρ σ n a w→listed.size=ops.size→
  (∀(i:Nat) (o:Oper),ops.toList[i]? = some o→listed.getD i false=true→∀j∈aE o,listed.getD j false=true)→(listed.toList.filter (! ·)).length=fuel→wpAny C.P .any ops (bA M0 bm0 pr w0 n Q) fuel listed a w by
  obtain⟨h1,h2⟩:=h.ext (co.drew w)
  have hrep:∀j,(Array.replicate ops.size false).getD j false=false:=fun j=>by
   simp only[Array.getD_eq_getD_getElem?,Array.getElem?_replicate];split<;>rfl
  refine H ops.size (Array.replicate ops.size false) M bm tk a w.drew ρ0 σ0 (hl.trans h2 (fun _ h=>h)) (hext _ _ _ _ (fun j _=>(hrep j).symm) h0) h1 (by simp) (fun i o ho hi=>?_) (by simp)
  ·rw[hrep]at hi;cases hi
 intro fuel
 induction fuel with
 | zero=>
  intro listed M bm tk a w ρ σ hl hR h hsz hcl hcnt
  have hall:∀i,i<ops.size→listed.getD i false=true:=fun i hi=>by
   have hb:listed[i]? = some (listed[i]'(by omega)):=Array.getElem?_eq_getElem _;rw[Array.getD_eq_getD_getElem?,hb,Option.getD_some];have hne:listed.toList.filter (! ·)=[]:=List.eq_nil_of_length_eq_zero hcnt;have:=List.filter_eq_nil_iff.1 hne (listed[i]'(by omega)) (by simp);simpa using this
  obtain⟨ρ2,q1,q2⟩:=hq _ _ (hext _ _ _ _ hall hR);refine⟨?_,M,bm,tk,ρ2,σ,.normal,q1,.normal,h.congr fun t=>(q2 t).symm,hl⟩
  ·unfold Region.ready;rw[List.filter_eq_nil_iff];intro i hi;have hi':i<ops.size:=by simpa using hi
   have h9:=hall i hi'
   have:listed.getD i true=true:=by
    have hb:listed[i]? = some (listed[i]'(by omega)):=Array.getElem?_eq_getElem _;rw[Array.getD_eq_getD_getElem?,hb,Option.getD_some]at h9 ⊢;exact h9
   simp[this]
 | succ fuel ih=>
  intro listed M bm tk a w ρ σ hl hR h hsz hcl hcnt;refine⟨fun hnil=>?_,fun i hi=>?_⟩
  ·exfalso
   have hex:∃i,i<ops.size∧listed.getD i false=false:=by
    apply Classical.byContradiction;intro hno
    have hne:listed.toList.filter (! ·)=[]:=by
     rw[List.filter_eq_nil_iff];intro b hb;obtain⟨i,hi,rfl⟩:=List.getElem_of_mem hb;have hi':i<listed.size:=by simpa using hi
     have h9:¬listed.getD i false=false:=fun e=>hno ⟨i,by omega,e⟩;have hb:listed[i]? = some listed[i]:=Array.getElem?_eq_getElem hi';rw[Array.getD_eq_getD_getElem?,hb,Option.getD_some]at h9;simpa using h9
    rw[hne]at hcnt;simp at hcnt
   have hmin:∃i,i<ops.size∧listed.getD i false=false∧∀j,j<i→listed.getD j false=true:=by
    obtain⟨i,h1,h2⟩:=hex
    induction i using Nat.strongRecOn with
    | _ i ihm=>
    by_cases hj:∃j,j<i∧listed.getD j false=false
    ·obtain⟨j,g1,g2⟩:=hj;exact ihm j g1 (by omega) g2
    ·exact⟨i,h1,h2,fun j hji=>by
      cases hb:listed.getD j false with
      | true=>rfl
      | false=>exact absurd ⟨j,hji,hb⟩ hj⟩
   obtain⟨i,h1,h2,h3⟩:=hmin;have hio:i<ops.toList.length:=by simpa using h1
   have:i∈Region.ready .any ops listed:=by
    unfold Region.ready;rw[List.mem_filter];refine⟨by simp;omega,?_⟩
    have ht:listed.getD i true=false:=by
     have hb:listed[i]? = some (listed[i]'(by omega)):=Array.getElem?_eq_getElem _;rw[Array.getD_eq_getD_getElem?,hb,Option.getD_some]at h2 ⊢;exact h2
    have ho:ops[i]? = some (ops[i]'(by omega)):=Array.getElem?_eq_getElem _;rw[ht,ho];simp only[Bool.not_false,Bool.true_and,Option.map_some,Option.getD_some];rw[←Array.all_toList,List.all_eq_true];intro e he;cases hb:Region.binds .any e with
    | false=>rfl
    | true=>
     have:e.on∈aE (ops[i]'(by omega)):=by
      unfold aE;exact List.mem_map.2 ⟨e,List.mem_filter.2 ⟨he,hb⟩,rfl⟩
     simp[h3 e.on (hlt i _ (by rw[List.getElem?_eq_getElem hio];simp) e.on this)]
   rw[hnil]at this;cases this
  ·unfold Region.ready at hi;rw[List.mem_filter]at hi;obtain⟨hir,hic⟩:=hi;have hi1:i<ops.size:=by simpa using hir
   have ho:ops[i]? = some ops[i]:=Array.getElem?_eq_getElem hi1;have hoL:ops.toList[i]? = some ops[i]:=by rw[Array.getElem?_toList];exact ho
   rw[ho]at hic;simp only[Option.map_some,Option.getD_some,Bool.and_eq_true,Bool.not_eq_true']at hic;obtain⟨hun,hed⟩:=hic
   have hun':listed[i]? = some false:=by
    have hb:listed[i]? = some (listed[i]'(by omega)):=Array.getElem?_eq_getElem _;rw[Array.getD_eq_getD_getElem?,hb,Option.getD_some]at hun;rw[hb,hun]
   have hunf:listed.getD i false=false:=by rw[Array.getD_eq_getD_getElem?,hun'];rfl
   have hedge:∀j∈aE ops[i],listed.getD j false=true:=by
    intro j hj;unfold aE at hj;obtain⟨e,he,rfl⟩:=List.mem_map.1 hj;rw[List.mem_filter]at he;rw[←Array.all_toList,List.all_eq_true]at hed;have:=hed e he.1;simpa[he.2]using this
   have hset:∀j,(listed.setIfInBounds i true).getD j false=(j==i||listed.getD j false):=fun j=>by
    rw[Array.getD_eq_getD_getElem?,Array.getD_eq_getD_getElem?];by_cases e:j=i
    ·subst e;rw[Array.getElem?_setIfInBounds_self_of_lt (by omega)];simp
    ·rw[Array.getElem?_setIfInBounds_ne (Ne.symm e)];simp[e]
   have hnextcl:∀(q:Nat) (o:Oper),ops.toList[q]? = some o→(listed.setIfInBounds i true).getD q false=true→∀j∈aE o,(listed.setIfInBounds i true).getD j false=true:=by
    intro q o hqo hql j hj;rw[hset]at hql ⊢;simp only[Bool.or_eq_true,beq_iff_eq]at hql ⊢;rcases hql with rfl|hql
    ·rw[hoL]at hqo;cases hqo;exact .inr (hedge j hj)
    ·exact .inr (hcl q o hqo hql j hj)
   have hnextc:((listed.setIfInBounds i true).toList.filter (! ·)).length=fuel:=by
    have:=gH listed.toList i (by rw[Array.getElem?_toList];exact hun');rw[Array.toList_setIfInBounds];omega
   have hst:=step (fun j=>listed.getD j false) i ops[i] hoL hunf hcl hedge M bm tk a w ρ σ hl hR h;unfold wpOp;rw[ho];simp only;split at hst
   ·rename_i hw;rw[if_pos hw];refine .inl (Oper.wp_mono2 (fun a' w' hL=>?_) (fun e a' w' hL=>?_) hst)
    ·obtain⟨M',bm',tk',ρ',σ',k0,k2,k3⟩:=hL;exact ih _ M' bm' tk' a' w' ρ' σ' (hl.trans k3 (fun _ h=>h)) (hext _ _ _ _ (fun j _=>(hset j).symm) k0) k2 (by simp[hsz]) hnextcl hnextc
    ·obtain⟨_,_,_,_,_,_,hf,_⟩:=hL;exact hf.elim
   ·rename_i hw;rw[if_neg hw];obtain⟨ρ',k0,k2⟩:=hst;exact ih _ M bm tk _ w ρ' σ hl (hext _ _ _ _ (fun j _=>(hset j).symm) k0) k2 (by simp[hsz]) hnextcl hnextc
structure AV where
 d:Nat
 T:Nat
 bytes:Nat
 z:V
 s:Nat
 y:X
 st:Bool
 x:X
 k:X
 v:X
def AV.A(p:AV):O:=⟨some p.d,.appv p.T p.bytes p.z p.s p.y,none⟩
def AV.B(p:AV):O:=⟨none,.mst p.st p.x p.k p.v,none⟩
def reV(C:Cx)(σ1:List (List V)):List (O×am×V)→Prop
 | []=>True
 | (o,ρ,v)::r=>bz C o.op ρ σ1 (fun u=>u=v)∧reV C σ1 r
def Dw(C:Cx)(p:AV)(K:am→List (List V)→Prop)(ρ:am)(σ1:List (List V)):Prop:=
 ∃kv key,eo p.st σ1 (ev C ρ p.x)=some kv∧gX p.st (ev C ρ p.k)=some key∧K ρ (jM σ1 p.st (jT key (ev C ρ p.v).copy kv) (ev C ρ p.x))
def BO(C:Cx)(p:AV)(σ:List (List V))(K:am→List (List V)→Prop):List O→List (O×am×V)→am→Prop
 | [],pend,ρ=>∃src,j7 σ (ev C ρ p.y)=some src∧0<src.length∧lI σ (get ρ p.s) src p.bytes p.z fun u σ1=>reV C σ1 pend∧Dw C p K (put ρ p.d u) σ1
 | o::r,pend,ρ=>o.g=none∧bz C o.op ρ σ fun v=>BO C p σ K r ((o,ρ,v)::pend) (putd ρ o.dst v)
structure OKV(l:List O)(os:List Oper):Prop where
 two:2≤l.length
 lt:∀(i:Nat) (o:Oper),os[i]? = some o→∀j∈aE o,j<i
 cmp:∀(i:Nat) (o:O),l[i]? = some o→∀t∈o.looksG++o.dst.toList,∀(j:Nat) (q:O),l[j]? = some q→q.dst=some t→j≠i→(j<i∧j∈(aO os []).getD i [])∨(i<j∧i∈(aO os []).getD j [])
 calm:∀(i:Nat) (o:O),l[i]? = some o→i+2<l.length→o.op.isCalm=true
 last:∀(i:Nat) (o:O),l[i]? = some o→i+1≠l.length→i∈(aO os []).getD (l.length-1) []
end
end Go.Proofs.YtcbahpllcfbkmaaGreatDoor
namespace Go.Proofs.YtcbahpllcfbkmaaGreatDoor
open Go.RowKit
def dj(n0:Nat)(ρ:am)(σ:List (List V))(ρ':am)(σ':List (List V)):Prop:=
 ∀(M:av) (bm:List Nat) (tk:aY) (pr:Prot) (n:Nat) (a:Act) (w:World),SRel M bm tk pr ρ σ n a w→
  ∃M' bm',SRel M' bm' tk pr ρ' σ' n a w∧∀M0 bm0 w0,bm0.length=n0→Later M0 bm0 pr w0 M bm w→Later M0 bm0 pr w0 M' bm' w
theorem dj.refl(n0:Nat)(ρ:am)(σ:List (List V)):dj n0 ρ σ ρ σ:=fun M bm _ _ _ _ _ h=>⟨M,bm,h,fun _ _ _ _ h=>h⟩
theorem dj.trans{n0:Nat}{ρ ρ' ρ'':am}{σ σ' σ'':List (List V)}(h:dj n0 ρ σ ρ' σ')(k:dj n0 ρ' σ' ρ'' σ''):dj n0 ρ σ ρ'' σ'':=fun M bm tk pr n a w hs=>by
 obtain⟨M1,b1,h1,h2⟩:=h M bm tk pr n a w hs;obtain⟨M2,b2,h3,h4⟩:=k M1 b1 tk pr n a w h1;exact⟨M2,b2,h3,fun M0 bm0 w0 e hl=>h4 M0 bm0 w0 e (h2 M0 bm0 w0 e hl)⟩
theorem dj.keep(n0:Nat)(l:List Nat)(ρ:am)(σ:List (List V)):dj n0 ρ σ (aP l ρ) σ:=fun M bm _ _ _ _ _ h=>⟨M,bm,h.keep l,fun _ _ _ _ h=>h⟩
theorem dj.cut{n0 k:Nat}{ρ:am}{σ:List (List V)}(hk:n0≤k)(h1:aB k (σ.take k)=true)(h2:ax k ρ=true):dj n0 ρ σ ρ (σ.take k):=fun M bm _ _ _ _ _ h=>
 ⟨M,bm.take k,h.drop h1 h2,fun _ _ _ e hl=>hl.drop (by omega)⟩
section
variable {M : av} {bm : List Nat} {tk : aY} {pr : Prot} {ρ : am} {σ : List (List V)} {n : Nat} {a : Act} {w : World} {k : Nat}
end
end Go.Proofs.YtcbahpllcfbkmaaGreatDoor
namespace Go.Proofs.YtcbahpllcfbkmaaGreatDoor
open Go.RowKit
inductive Cd where
 | skip
 | ops (l:List O) (keep:List Nat)
 | draw (l:List O) (keep:List Nat)
 | drawb (s d0 d1 T k bytes:Nat) (y:X) (l:List O) (keep:List Nat)
 | drawg (l:List (O×GK)) (keep:List Nat)
 | raw (l:List O) (es:List (List Nat)) (keep:List Nat)
 | seq (a b:Cd)
 | cond (x:X) (a b:Cd)
 | block (id:Nat) (a:Cd)
 | loop (a:Cd)
 | exit (id:Nat)
 | ret
abbrev dy:=AEx→am→List (List V)→Prop
def andThen(next:am→List (List V)→Prop)(Q:dy):dy:=fun e ρ σ=>match e with
 | .normal=>next ρ σ
 | e=>Q e ρ σ
def lO(id:Nat)(Q:dy):dy:=fun e ρ σ=>match e with
 | .exit j=>if j=id then Q .normal ρ σ else Q (.exit j) ρ σ
 | e=>Q e ρ σ
inductive Up:List (List V)→List (List V)→Prop
 | refl (σ:List (List V)):Up σ σ
 | step {σ σ':List (List V)} {i:Nat} {cs:List V} {off:Nat} (T:TypeId) (k:Nat) (h1:σ[i]? = some cs) (h2:cs[off]? = some .nil) (h:Up (σ.set i (cs.set off (.own T k []))) σ'):Up σ σ'
theorem SRel.nil_own{M:av}{bm:List Nat}{tk:aY}{pr:Prot}{ρ:am}{σ:List (List V)}{n:Nat}{a:Act}{w:World}(h:SRel M bm tk pr ρ σ n a w){i:Nat}{cs:List V}{off:Nat}(T:TypeId)(k:Nat)(h1:σ[i]? = some cs)(h2:cs[off]? = some .nil):SRel M bm tk pr ρ (σ.set i (cs.set off (.own T k []))) n a w:=by
 refine⟨⟨h.inv.facts,by rw[List.length_set];exact h.inv.len,fun i' b cs' hi hc=>?_,h.inv.free,h.inv.bmnd,h.inv.tok,h.inv.inj,h.inv.prlt⟩,h.defers,h.size,h.slots⟩;by_cases e:i'=i
 ·subst e;obtain⟨vs,T',g1,g2,g3⟩:=(h.inv.box i' b cs hi h1).resolve_right fun hb=>by rcases hb with⟨st,kv,es,clock,rfl,-⟩|⟨T,k,rfl,-⟩<;>cases off<;>simp[tyc]at h2
  have hl:i'<σ.length:=(List.getElem?_eq_some_iff.1 h1).1;rw[List.getElem?_set_self hl]at hc;cases hc;refine .inl ⟨vs,T',g1,by rw[List.length_set];exact g2,fun j hj hj'=>?_⟩;have hj0:j<cs.length:=by simpa using hj
  obtain⟨k1,k2⟩:=g3 j hj0 hj';by_cases e2:j=off
  ·subst e2;have hn:cs[j]=.nil:=(List.getElem?_eq_some_iff.1 h2).2;rw[List.getElem_set_self];refine⟨?_,k2⟩;have hr:=k1.rep;rw[hn]at hr;generalize vs[j]=v at hr ⊢;cases hr;exact⟨.own (DRep.nil M),fun T2 k2 rows e=>by cases e;exact .inl ⟨rfl,rfl⟩⟩
  ·rw[List.getElem_set_ne (Ne.symm e2)];exact⟨k1,k2⟩
 ·rw[List.getElem?_set_ne (Ne.symm e)]at hc;exact h.inv.box i' b cs' hi hc
theorem SRel.up{M:av}{bm:List Nat}{tk:aY}{pr:Prot}{ρ:am}{σ σ':List (List V)}{n:Nat}{a:Act}{w:World}(hu:Up σ σ')(h:SRel M bm tk pr ρ σ n a w):SRel M bm tk pr ρ σ' n a w:=by
 induction hu with
 | refl σ=>exact h
 | step T k h1 h2 _ ih=>exact ih (h.nil_own T k h1 h2)
theorem dj.up(n0:Nat)(ρ:am){σ σ':List (List V)}(hu:Up σ σ'):dj n0 ρ σ ρ σ':=fun M bm _ _ _ _ _ h=>⟨M,bm,h.up hu,fun _ _ _ _ h=>h⟩
def tY(C:Cx)(n0:Nat)(l:List O)(es:List (List Nat))(ρ:am)(σ:List (List V))(Q:dy):Prop:=
 ∀(pr:Prot) (M0:av) (bm0:List Nat) (w0:World) (id:Nat) (ops:Array Oper) (n:Nat) (M:av) (bm:List Nat) (tk:aY) (a:Act) (w:World),C.glob M0 pr w0→bm0.length=n0→il C.tab n ops l ops.toList=true→ops.toList.map aE=es→
  Later M0 bm0 pr w0 M bm w→SRel M bm tk pr ρ σ n a w→(Code.region id ops true).wp C.P (bA M0 bm0 pr w0 n Q) a w
def awp(C:Cx)(n0:Nat):Cd→am→List (List V)→dy→Prop
 | .skip,ρ,σ,Q=>Q .normal ρ σ
 | .ops l keep,ρ,σ,Q=>cl C l ρ σ fun e ρ' σ'=>Q e (aP keep ρ') σ'
 | .draw l keep,ρ,σ,Q=>aU C l ρ σ fun ρ'=>Q .normal (aP keep ρ') σ
 | .drawb s d0 d1 T k bytes y l keep,ρ,σ,Q=>uR C s d0 d1 T k bytes y l ρ σ fun ρ'=>Q .normal (aP keep ρ') σ
 | .drawg l keep,ρ,σ,Q=>dS C (fun u σ'=>∀ρ',Q (.panic u) (aP keep ρ') σ') (fun ρ' σ'=>Q .normal (aP keep ρ') σ') l 0 [] [] ρ σ
 | .raw l es keep,ρ,σ,Q=>tY C n0 l es ρ σ fun e ρ' σ'=>Q e (aP keep ρ') σ'
 | .seq a b,ρ,σ,Q=>awp C n0 a ρ σ (andThen (fun ρ' σ'=>awp C n0 b ρ' σ' Q) Q)
 | .cond x a b,ρ,σ,Q=>match ev C ρ x with
  | .d (.lit (.bool t))=>(t=true→awp C n0 a ρ σ Q)∧(t=false→awp C n0 b ρ σ Q)
  | _=>False
 | .block id a,ρ,σ,Q=>awp C n0 a ρ σ (lO id Q)
 | .loop a,ρ,σ,Q=>∃(ρ1:am) (σ1:List (List V)),dj n0 ρ σ ρ1 σ1∧∃I:Nat→am→List (List V)→Prop,(∃m,I m ρ1 σ1)∧∀m ρ' σ',I m ρ' σ'→awp C n0 a ρ' σ' (andThen (fun ρ'' σ''=>∃m',m'<m∧∃ρ3 σ3,dj n0 ρ'' σ'' ρ3 σ3∧I m' ρ3 σ3) Q)
 | .exit id,ρ,σ,Q=>Q (.exit id) ρ σ
 | .ret,ρ,σ,Q=>Q .ret ρ σ
def okC(tab:Tab)(n:Nat):Cd→Code→Bool
 | .skip,.skip=>true
 | .ops l _,.region _ ops false=>il tab n ops l ops.toList
 | .draw l _,.region _ ops true=>il tab n ops l ops.toList&&mE l ops.toList
 | .drawb s d0 d1 T k bytes y l _,.region _ ops true=>il tab n ops (bL s d0 d1 T k bytes y l) ops.toList&&kX s d0 d1 y l ops.toList
 | .drawg l _,.region _ ops true=>il tab n ops (l.map (·.1)) ops.toList&&kZ l ops.toList
 | .raw l es _,.region _ ops true=>il tab n ops l ops.toList&&(ops.toList.map aE==es)
 | .seq a b,.seq a' b'=>okC tab n a a'&&okC tab n b b'
 | .cond x a b,.cond x' a' b'=>okX x x'&&okC tab n a a'&&okC tab n b b'
 | .block i a,.block i' a'=>i==i'&&okC tab n a a'
 | .loop a,.loop a'=>okC tab n a a'
 | .exit i,.exit i'=>i==i'
 | .ret,.ret=>true
 | _,_=>false
section
variable {C : Cx} {n0 n : Nat} {pr : Prot} {M0 : av} {bm0 : List Nat} {w0 : World}
theorem bA.imp{M:av}{bm:List Nat}{w:World}{Q Q':dy}{e:Exit}{a:Act}{w':World}(hq:∀x ρ σ,Q x ρ σ→Q' x ρ σ)(h:bA M bm pr w n Q e a w'):bA M bm pr w n Q' e a w':=by
 obtain⟨M',bm',tk',ρ',σ',x,h1,h2⟩:=h;exact⟨M',bm',tk',ρ',σ',x,hq _ _ _ h1,h2⟩
theorem bA.keep{M:av}{bm:List Nat}{w:World}{Q:dy}{l:List Nat}{e:Exit}{a:Act}{w':World}(h:bA M bm pr w n (fun x ρ σ=>Q x (aP l ρ) σ) e a w'):bA M bm pr w n Q e a w':=by
 obtain⟨M',bm',tk',ρ',σ',x,h1,h2,h3,h4⟩:=h;exact⟨M',bm',tk',_,σ',x,h1,h2,h3.keep l,h4⟩
theorem xF(hG:C.glob M0 pr w0)(hn0:bm0.length=n0):∀{c:Cd} {c':Code} {M:av} {bm:List Nat} {tk:aY} {ρ:am} {σ:List (List V)} {a:Act} {w:World} {Q:dy},okC C.tab n c c'=true→Later M0 bm0 pr w0 M bm w→SRel M bm tk pr ρ σ n a w→
 awp C n0 c ρ σ Q→c'.wp C.P (bA M0 bm0 pr w0 n Q) a w:=by
 intro c
 induction c with
 | skip=>
  intro c' M bm tk ρ σ a w Q hok hl h hq;cases c'<;>simp only[okC]at hok<;>first|(cases hok;done)|skip
  exact wp_skip ⟨M,bm,tk,ρ,σ,_,hq,.normal,h,hl⟩
 | ops l keep=>
  intro c' M bm tk ρ σ a w Q hok hl h hq;cases c' with
  | region id ops draw=>
   cases draw with
   | false=>
    have hok:il C.tab n ops l ops.toList=true:=hok;exact wp_mono (wp_region_list (fu hG hok hl h hq)) (fun e a w hL=>bA.keep (l:=keep) hL)
   | true=>cases hok
  | _=>cases hok
 | draw l keep=>
  intro c' M bm tk ρ σ a w Q hok hl h hq;cases c' with
  | region id ops draw=>
   cases draw with
   | true=>
    have hok:(il C.tab n ops l ops.toList&&mE l ops.toList)=true:=hok;simp only[Bool.and_eq_true]at hok;exact wp_mono (sb (Q:=fun x ρ σ=>Q x (aP keep ρ) σ) hG hok.1 hok.2 hl h hq) (fun e a w hL=>bA.keep (l:=keep) hL)
   | false=>cases hok
  | _=>cases hok
 | drawb s0 d0 d1 T k bytes y l keep=>
  intro c' M bm tk ρ σ a w Q hok hl h hq;cases c' with
  | region id ops draw=>
   cases draw with
   | true=>
    have hok:(il C.tab n ops (bL s0 d0 d1 T k bytes y l) ops.toList&&kX s0 d0 d1 y l ops.toList)=true:=hok;simp only[Bool.and_eq_true]at hok;exact wp_mono (rD (Q:=fun x ρ σ=>Q x (aP keep ρ) σ) hG hok.1 hok.2 hl h hq) (fun e a w hL=>bA.keep (l:=keep) hL)
   | false=>cases hok
  | _=>cases hok
 | drawg l keep=>
  intro c' M bm tk ρ σ a w Q hok hl h hq;cases c' with
  | region id ops draw=>
   cases draw with
   | true=>
    have hok:(il C.tab n ops (l.map (·.1)) ops.toList&&kZ l ops.toList)=true:=hok;simp only[Bool.and_eq_true]at hok;exact wp_mono (rc (Q:=fun x ρ σ=>Q x (aP keep ρ) σ) hG hok.1 hok.2 hl h hq) (fun e a w hL=>bA.keep (l:=keep) hL)
   | false=>cases hok
  | _=>cases hok
 | raw l es keep=>
  intro c' M bm tk ρ σ a w Q hok hl h hq;cases c' with
  | region id ops draw=>
   cases draw with
   | true=>
    have hok:(il C.tab n ops l ops.toList&&(ops.toList.map aE==es))=true:=hok;simp only[Bool.and_eq_true,beq_iff_eq]at hok;have hq:tY C n0 l es ρ σ fun e ρ' σ'=>Q e (aP keep ρ') σ':=hq;exact wp_mono (hq pr M0 bm0 w0 id ops n M bm tk a w hG hn0 hok.1 hok.2 hl h) (fun e a w hL=>bA.keep (l:=keep) hL)
   | false=>cases hok
  | _=>cases hok
 | seq x y ihx ihy=>
  intro c' M bm tk ρ σ a w Q hok hl h hq;cases c'<;>simp only[okC,Bool.and_eq_true]at hok<;>first|(cases hok;done)|skip
  refine wp_seq (wp_mono (ihx hok.1 hl h hq) (fun e a' w' hL=>?_));obtain⟨M',bm',tk',ρ',σ',x,k1,k2,k3,k4⟩:=hL;cases k2 with
  | normal=>exact ihy hok.2 k4 k3 k1
  | ret=>exact⟨M',bm',tk',ρ',σ',_,k1,.ret,k3,k4⟩
  | exit id=>exact⟨M',bm',tk',ρ',σ',_,k1,.exit id,k3,k4⟩
  | panic hp=>exact⟨M',bm',tk',ρ',σ',_,k1,.panic hp,k3,k4⟩
 | cond x y z ihy ihz=>
  intro c' M bm tk ρ σ a w Q hok hl h hq;cases c'<;>simp only[okC,Bool.and_eq_true]at hok<;>first|(cases hok;done)|skip
  have hx:=au (hG.mono hl) h hok.1.1;simp only[awp]at hq;split at hq
  ·rename_i t e;rw[e]at hx;have hv:=hx.bool_inv;cases t with
   | true=>exact wp_cond_true hv (ihy hok.1.2 hl h (hq.1 rfl))
   | false=>exact wp_cond_false hv (ihz hok.2 hl h (hq.2 rfl))
  ·exact hq.elim
 | block id x ih=>
  intro c' M bm tk ρ σ a w Q hok hl h hq;cases c'<;>simp only[okC,Bool.and_eq_true,beq_iff_eq]at hok<;>first|(cases hok;done)|skip
  obtain⟨rfl,hok⟩:=hok;refine wp_block (wp_mono (ih hok hl h hq) (fun e a' w' hL=>?_));obtain⟨M',bm',tk',ρ',σ',x,k1,k2,k3,k4⟩:=hL;cases k2 with
  | normal=>exact⟨M',bm',tk',ρ',σ',_,k1,.normal,k3,k4⟩
  | ret=>exact⟨M',bm',tk',ρ',σ',_,k1,.ret,k3,k4⟩
  | exit j=>
   simp only[lO]at k1;simp only[Exit.inBlock];split
   ·rename_i e;rw[if_pos e]at k1;exact⟨M',bm',tk',ρ',σ',_,k1,.normal,k3,k4⟩
   ·rename_i e;rw[if_neg e]at k1;exact⟨M',bm',tk',ρ',σ',_,k1,.exit j,k3,k4⟩
  | panic hp=>exact⟨M',bm',tk',ρ',σ',_,k1,.panic hp,k3,k4⟩
 | loop x ih=>
  intro c' M bm tk ρ σ a w Q hok hl h hq;cases c'<;>simp only[okC]at hok<;>first|(cases hok;done)|skip
  obtain⟨ρ1,σ1,hsh,I,⟨m,hm⟩,hI⟩:=hq;obtain⟨M1,bm1,h1,h2⟩:=hsh M bm tk pr n a w h;have hl1:=h2 M0 bm0 w0 hn0 hl;rename_i c';intro b k cs
  have key:∀(m:Nat) (M:av) (bm:List Nat) (tk:aY) (ρ:am) (σ:List (List V)) (a:Act) (w:World),Later M0 bm0 pr w0 M bm w→SRel M bm tk pr ρ σ n a w→I m ρ σ→
   ∃e a' w',bA M0 bm0 pr w0 n Q e a' w'∧Arrives C.P (lone (b.at a (.code c'::.inLoop c'::k)) cs w) b k cs e a' w':=by
   intro m
   induction m using Nat.strongRecOn with
   | _ m ihm=>
   intro M bm tk ρ σ a w hl h hm;obtain⟨e,a₁,w₁,hq,harr⟩:=ih hok hl h (hI m ρ σ hm) b (.inLoop c'::k) cs;obtain⟨M',bm',tk',ρ',σ',x,k1,k2,k3,k4⟩:=hq;cases k2 with
   | normal=>
    obtain⟨m',hlt,ρ3,σ3,g1,g4⟩:=k1;obtain⟨M3,bm3,g2,g3⟩:=g1 M' bm' tk' pr n a₁ w₁ k3;obtain⟨e₂,a₂,w₂,hq₂,harr₂⟩:=ihm m' hlt M3 bm3 tk' ρ3 σ3 a₁ w₁ (g3 M0 bm0 w0 hn0 k4) g2 g4;exact⟨e₂,a₂,w₂,hq₂,.of_steps (Steps.trans harr (.one step_inLoop)) harr₂⟩
   | ret=>exact⟨_,a₁,w₁,⟨M',bm',tk',ρ',σ',_,k1,.ret,k3,k4⟩,.pass (x:=.inLoop c') rfl (fun _ _=>.inl (by simp)) harr⟩
   | exit id=>exact⟨_,a₁,w₁,⟨M',bm',tk',ρ',σ',_,k1,.exit id,k3,k4⟩,.pass (x:=.inLoop c') rfl (fun _ _=>.inl (by simp)) harr⟩
   | panic hp=>exact⟨_,a₁,w₁,⟨M',bm',tk',ρ',σ',_,k1,.panic hp,k3,k4⟩,.pass (x:=.inLoop c') rfl (fun _ _=>.inl (by simp)) harr⟩
  obtain⟨e,a',w',hq,harr⟩:=key m M1 bm1 tk _ σ1 a w hl1 h1 hm;exact⟨e,a',w',hq,.of_steps (.one step_loop) harr⟩
 | exit id=>
  intro c' M bm tk ρ σ a w Q hok hl h hq;cases c'<;>simp only[okC,beq_iff_eq]at hok<;>first|(cases hok;done)|skip
  subst hok;exact wp_exit ⟨M,bm,tk,ρ,σ,_,hq,.exit id,h,hl⟩
 | ret=>
  intro c' M bm tk ρ σ a w Q hok hl h hq;cases c'<;>simp only[okC]at hok<;>first|(cases hok;done)|skip
  exact wp_ret ⟨M,bm,tk,ρ,σ,_,hq,.ret,h,hl⟩
end
end Go.Proofs.YtcbahpllcfbkmaaGreatDoor
namespace Go.Proofs.YtcbahpllcfbkmaaGreatDoor
open Go.RowKit
inductive D.Wf:D→Prop
 | lit (v:Value) (h:ce v):D.Wf (.lit v)
 | sl (rows:List (List D)) (hl:rows.length≤maxLen) (h:∀i j (hi:i<rows.length) (hj:j<rows[i].length),D.Wf rows[i][j]):D.Wf (.sl rows)
theorem DRep.wf{M:av}{x:D}{v:Value}(h:DRep M x v):x.Wf:=by
 induction h with
 | lit v h=>exact .lit v h
 | sl rows k p cap val hk hd hf hc hm ih=>exact .sl rows (by omega) ih
inductive V.Wf:V→Prop
 | d {x:D} (h:x.Wf):V.Wf (.d x)
 | own {T k:Nat} {rows:List (List D)} (h:(D.sl rows).Wf):V.Wf (.own T k rows)
 | agg {cs:List V} (h:∀i (h:i<cs.length),V.Wf cs[i]):V.Wf (.agg cs)
 | nil:V.Wf .nil
 | tup (cs:List V):V.Wf (.tup cs)
 | ptr (i o:Nat):V.Wf (.ptr i o)
 | bsl (i o n k:Nat):V.Wf (.bsl i o n k)
 | row (cs:List D) (o:Nat):V.Wf (.row cs o)
 | fn (f:FuncId) (cs:List V):V.Wf (.fn f cs)
 | bnd (f:FuncId) (cs:List V):V.Wf (.bnd f cs)
 | iface (t:TypeId) (v:V):V.Wf (.iface t v)
 | mp (i:Nat):V.Wf (.mp i)
 | bsc (i n c:Nat):V.Wf (.bsc i n c)
 | junk:V.Wf .junk
theorem Rep.wf{M:av}{bm:List Nat}{x:V}{v:Value}(h:Rep M bm x v):x.Wf:=by
 induction h with
 | d h=>exact .d h.wf
 | own h=>exact .own h.wf
 | nil=>exact .nil
 | agg hl h h1 ih=>exact .agg fun i hi=>ih i hi (by omega)
 | tup hl h ih=>exact .tup _
 | ptr h=>exact .ptr _ _
 | bsl h hc hm=>exact .bsl _ _ _ _
 | row val hf hd=>exact .row _ _
 | fn hl h ih=>exact .fn _ _
 | bnd hl h ih=>exact .bnd _ _
 | iface h ih=>exact .iface _ _
 | mp h=>exact .mp _
 | bsc h hc hm=>exact .bsc _ _ _
 | junk v=>exact .junk
inductive RV where
 | t (n:Nat) (own:Bool)
 | c (n k:Nat) (ag:Bool)
def yJ(σ:List (List V))(ρ:am):RV→Option V
 | .t n true=>some (get ρ n)
 | .t n false=>some (get ρ n).lend
 | .c n k ag=>(fZ σ k ag (get ρ n)).map V.lend
def xw(σ:List (List V))(ρ:am):List RV→Option (List V)
 | []=>some []
 | r::rs=>match yJ σ ρ r,xw σ ρ rs with|some v,some l=>some (v.lend::l)|_,_=>none
def nZ(σ:List (List V))(ρ:am):List RV→Option V
 | [r]=>yJ σ ρ r
 | rs=>(xw σ ρ rs).map V.tup
def Et(tab:Tab):RV→ResultVar→Bool
 | .t n _,.tmp m=>n==m
 | .c n k ag,.cell m t=>n==m&&(match tab t with|some i=>i.sz==k&&i.agg==ag|none=>false)
 | _,_=>false
def lN(tab:Tab):List RV→List ResultVar→Bool
 | [],[]=>true
 | r::rs,r'::rs'=>Et tab r r'&&lN tab rs rs'
 | _,_=>false
def bj(tab:Tab)(fn:Func)(m:Nat)(c:Cd)(rs:List RV):Bool:=
 (match fn.body with|some b=>okC tab fn.ntmps c b|none=>false)&&lN tab rs fn.results.toList&&decide (m≤fn.ntmps) && !(fn.name == "runtime.NumGoroutine")
def fin(n0:Nat)(rs:List RV)(Q:Out→List (List V)→Prop):dy:=fun e ρ σ'=>match e with
 | .normal=>∃ρ2 σ2,dj n0 ρ σ' ρ2 σ2∧∃v,nZ σ2 ρ2 rs=some v∧∃k,n0≤k∧aB k (σ2.take k)=true∧V.under k v=true∧Q (.ret v) (σ2.take k)
 | .ret=>∃ρ2 σ2,dj n0 ρ σ' ρ2 σ2∧∃v,nZ σ2 ρ2 rs=some v∧∃k,n0≤k∧aB k (σ2.take k)=true∧V.under k v=true∧Q (.ret v) (σ2.take k)
 | .panic v=>∃k,n0≤k∧aB k (σ'.take k)=true∧V.under k v=true∧Q (.panic v) (σ'.take k)
 | .exit _=>False
def ah:Nat→List V→am
 | _,[]=>[]
 | i,v::r=>(i,v)::ah (i+1) r
def Cp(tmps:Array Value):ResultVar→Sem Value
 | .tmp t=>pure (tmps.getD t undef)
 | .cell a t=>do loadVar t (←asAddr (tmps.getD a undef))
theorem sS(fn:Func)(tmps:Array Value):results fn tmps=(do
 let vs ←fn.results.mapM (Cp tmps)
 pure (if h:vs.size=1 then vs[0]else .tuple vs)):=by
 unfold results;congr 1
section
variable {C : Cx} {M : av} {bm : List Nat} {tk : aY} {pr : Prot} {ρ : am} {σ : List (List V)} {n : Nat} {a : Act} {w : World}
theorem m9(h:SRel M bm tk pr ρ σ n a w){r:RV}{r':ResultVar}(hok:Et C.tab r r'=true){x:V}(hx:yJ σ ρ r=some x):
 ∃v,(Cp a.tmps r').run C.P w=.ok v w∧∃t,CellOK M bm w x v t∧(t=none∨∃s,t=tk none s):=by
 unfold Et at hok;split at hok
 ·rename_i m own m';simp only[beq_iff_eq]at hok;subst hok;cases own with
  | true=>cases hx;exact⟨_,rfl,_,h.slots m,.inr ⟨m,rfl⟩⟩
  | false=>cases hx;exact⟨_,rfl,none,⟨(h.slots m).rep.lend,fun _ _ _ e=>absurd e V.lend_own⟩,.inl rfl⟩
 ·rename_i m k ag m' t;simp only[Bool.and_eq_true,beq_iff_eq]at hok;obtain⟨rfl,h2⟩:=hok;split at h2
  ·rename_i i hi;simp only[Bool.and_eq_true,beq_iff_eq]at h2;obtain⟨rfl,rfl⟩:=h2;obtain⟨y,hy,rfl⟩:=Option.map_eq_some_iff.1 hx;obtain⟨v,h3,h4,h5⟩:=nc h.inv hi hy (h.slots m).rep;refine⟨v,?_,none,⟨h4.lend,fun _ _ _ e=>absurd e V.lend_own⟩,.inl rfl⟩
   have hptr:∃ad,a.tmps.getD m undef=.pointer (some ad):=by
    have hr:=(h.slots m).rep;unfold fZ at hy;obtain⟨cs,hcs,-⟩:=Option.bind_eq_some_iff.1 hy;obtain⟨ad,vs,e,-⟩:=e6 h.inv hcs hr;exact⟨ad,e⟩
   obtain⟨ad,e⟩:=hptr;simp only[Cp];rw[e]at h3 ⊢;simpa[Instr.loadAt,Instr.sureAddr,asAddr]using h3
  ·cases h2
 ·cases hok
theorem nr(h:SRel M bm tk pr ρ σ n a w):∀{rs:List RV} {rs':List ResultVar} {xs:List V},lN C.tab rs rs'=true→xw σ ρ rs=some xs→
 ∃vs:List Value,(rs'.mapM (Cp a.tmps)).run C.P w=.ok vs w∧vs.length=xs.length∧rs'.length=xs.length∧∀i (h:i<xs.length) (h':i<vs.length),Rep M bm xs[i] vs[i]
 | [],[],xs,_,hx=>by cases hx;exact⟨[],rfl,rfl,rfl,fun i h=>by simp at h⟩
 | r::rs,r'::rs',xs,hok,hx=>by
  simp only[lN,Bool.and_eq_true]at hok;simp only[xw]at hx;split at hx
  ·rename_i v l hv hl;cases hx;obtain⟨u,g1,t,g2,-⟩:=m9 h hok.1 hv;obtain⟨vs,k1,k2,k3,k4⟩:=nr h hok.2 hl;refine⟨u::vs,?_,by simp[k2],by simp[k3],fun i h1 h2=>?_⟩
   ·rw[List.mapM_cons,Sem.run_bind,g1,Result.andThen_ok,Sem.run_bind,k1];rfl
   ·cases i with
    | zero=>exact g2.rep.lend
    | succ i=>exact k4 i (by simpa using h1) (by simpa using h2)
  ·cases hx
 | [],_::_,_,hok,_=>by cases hok
 | _::_,[],_,hok,_=>by cases hok
theorem tR(h:SRel M bm tk pr ρ σ n a w){rs:List RV}{fn:Func}{x:V}(hok:lN C.tab rs fn.results.toList=true)(hx:nZ σ ρ rs=some x):
 ∃v,(results fn a.tmps).run C.P w=.ok v w∧∃t,CellOK M bm w x v t∧(t=none∨∃s,t=tk none s):=by
 rw[sS,Array.mapM_eq_mapM_toList];unfold nZ at hx;split at hx
 ·rename_i r
  match hrs:fn.results.toList,hok with
  | [r'],hok=>
   simp only[lN,Bool.and_true]at hok;obtain⟨v,g1,g2⟩:=m9 h hok hx;refine⟨v,?_,g2⟩;simp only[List.mapM_cons,List.mapM_nil,Sem.run_bind,Sem.run_map,g1,Result.andThen_ok,Sem.run_pure];rfl
  | [],hok=>cases hok
  | _::_::_,hok=>simp[lN]at hok
 ·rename_i hne;obtain⟨xs,hxs,rfl⟩:=Option.map_eq_some_iff.1 hx;obtain⟨vs,k1,k2,k3,k4⟩:=nr h hok hxs;refine⟨.tuple vs.toArray,?_,none,⟨.tup k2 k4,fun _ _ _ e=>by cases e⟩,.inl rfl⟩;simp only[Sem.run_bind,Sem.run_map,k1,Result.andThen_ok,Sem.run_pure]
  have hl:¬vs.toArray.size=1:=by
   intro e;have:fn.results.toList.length=1:=by rw[k3,←k2];simpa using e
   match rs,hne,hok with
   | [],_,hok=>match hrs:fn.results.toList,hok with | [],_=>rw[hrs]at this;cases this
   | [r],hne,_=>exact hne r rfl
   | _::_::_,_,hok=>match hrs:fn.results.toList,hok with
    | [_],hok=>simp[lN]at hok
    | _::_::_,_=>rw[hrs]at this;simp at this
  rw[dif_neg hl]
theorem mK:∀(args:List V) (i t:Nat),get (ah i args) t=if i≤t then(args[t-i]?).getD .junk else .junk
 | [],i,t=>by simp[ah,get]
 | v::r,i,t=>by
  simp only[ah,get];split
  ·rename_i e;subst e;simp
  ·rename_i e;rw[mK r (i+1) t];by_cases h:i≤t
   ·rw[if_pos (by omega),if_pos h,show t-i=(t-(i+1))+1 by omega];rfl
   ·rw[if_neg (by omega),if_neg h]
theorem ck{P:Program}{f:FuncId}{fn:Func}(hf:P.funcs[f]? = some fn)(hn:(fn.name == "runtime.NumGoroutine")=false)(hb:fn.body.isNone=false):
 ∀args w,(callFunc f args).run P w=.ok (.enter f args) w:=fun args w=>by
 have h1:fn.name ≠ "runtime.NumGoroutine" := by simpa using hn
 have h2:fn.body≠none:=fun h=>by rw[h]at hb;cases hb
 simp[callFunc,hf,h1,h2]
theorem xy{f:FuncId}{fn:Func}{c:Cd}{rs:List RV}{args:List V}{Q:Out→List (List V)→Prop}(hf:C.P.funcs[f]? = some fn)(hok:bj C.tab fn args.length c rs=true)
 (h:aB σ.length σ=true→(∀i (h:i<args.length),V.Wf args[i])→awp C σ.length c (ah 0 args) σ (fin σ.length rs Q)):
 (∀as w,(callFunc f as).run C.P w=.ok (.enter f as) w)∧
 ∀(M:av) (bm:List Nat) (tk:aY) (pr:Nat→Prop) (w:World) (vs:List Value),C.glob M pr w→Inv M bm σ tk pr w→vs.length=args.length→(∀i (h:i<args.length) (h':i<vs.length),CellOK M bm w args[i] vs[i] (tk none i))→
  Calls C.P f vs.toArray w fun e w'=>∃M' bm' tk' σ' o,Q o σ'∧Inv M' bm' σ' tk' pr w'∧Later M bm pr w M' bm' w'∧OutOK M' bm' w' tk' o e:=by
 unfold bj at hok;simp only[Bool.and_eq_true,decide_eq_true_eq,Bool.not_eq_true']at hok;obtain⟨⟨⟨h1,h2⟩,h3⟩,h4⟩:=hok;cases hb:fn.body with
 | none=>rw[hb]at h1;cases h1
 | some body=>
 rw[hb]at h1;refine⟨ck hf h4 (by rw[hb];rfl),fun M bm tk pr0 w vs hG hI hl hr=>?_⟩;obtain⟨pr,rfl,hds⟩:∃pr:Prot,pr.p=pr0∧pr.ds=[]:=⟨⟨pr0,[]⟩,rfl,rfl⟩
 have hq:=h hI.under (fun i hi=>(hr i hi (by omega)).rep.wf);refine calls_of_wp hf hb ?_
 have hs:SRel M bm tk pr (ah 0 args) σ fn.ntmps {tmps:=vs.toArray++Array.replicate (fn.ntmps-vs.toArray.size) undef,defers:=[]} w:=by
  refine⟨hI,hds.symm,by simp;omega,fun t=>?_⟩;rw[mK,if_pos (Nat.zero_le _),Nat.sub_zero];by_cases hlt:t<args.length
  ·rw[List.getElem?_eq_getElem hlt,Option.getD_some]
   have hv:(vs.toArray++Array.replicate (fn.ntmps-vs.toArray.size) undef).getD t undef=vs[t]'(by omega):=by
    rw[Array.getD_eq_getD_getElem?,Array.getElem?_append_left (by simp;omega)];simp[show t<vs.length by omega]
   rw[hv];exact hr t hlt (by omega)
  ·rw[List.getElem?_eq_none (by omega),Option.getD_none];exact CellOK.junk ..
 refine wp_mono (xF hG hI.len h1 (Later.refl M bm pr w) hs hq) (fun e a' w' hL=>?_);obtain⟨M',bm',tk',ρ',σ',x,k1,k2,k3,k4⟩:=hL
 have cut:∀{M':av} {bm':List Nat} {ρ':am} {σ':List (List V)} {k:Nat} (o:Option Nat),SRel M' bm' tk' pr ρ' σ' fn.ntmps a' w'→Later M bm pr w M' bm' w'→σ.length≤k→aB k (σ'.take k)=true→(o=none∨∃s,o=tk' none s)→
  Inv M' (bm'.take k) (σ'.take k) (fun i j=>match i with|none=>if j=0 then o else none|some i=>tk' (some i) j) pr w'∧Later M bm pr w M' (bm'.take k) w':=by
  intro M' bm' ρ' σ' k o k3 k4 hk hbk ho;have hd:=k3.inv.drop hbk;refine⟨⟨hd.facts,hd.len,hd.box,hd.free,hd.bmnd,fun i j g hg=>?_,fun i j i' j' g g1 g2=>?_,hd.prlt⟩,k4.drop (by rw[hI.len];exact hk)⟩
  ·cases i with
   | some i=>exact hd.tok _ _ _ hg
   | none=>
    simp only at hg;split at hg
    ·rcases ho with rfl|⟨s,rfl⟩
     ·cases hg
     ·exact hd.tok _ _ _ hg
    ·cases hg
  ·cases i with
   | some i=>cases i' with
    | some i'=>exact hd.inj _ _ _ _ _ g1 g2
    | none=>
     simp only at g2;split at g2
     ·rcases ho with rfl|⟨s,rfl⟩
      ·cases g2
      ·have:=hd.inj _ _ _ _ _ g1 g2;simp at this
     ·cases g2
   | none=>cases i' with
    | some i'=>
     simp only at g1;split at g1
     ·rcases ho with rfl|⟨s,rfl⟩
      ·cases g1
      ·have:=hd.inj _ _ _ _ _ g1 g2;simp at this
     ·cases g1
    | none=>
     simp only at g1 g2;split at g1
     ·split at g2
      ·exact⟨rfl,by omega⟩
      ·cases g2
     ·cases g1
 have ret:∀ρ2 σ2,dj σ.length ρ' σ' ρ2 σ2→∀v,nZ σ2 ρ2 rs=some v→(∃k,σ.length≤k∧aB k (σ2.take k)=true∧V.under k v=true∧Q (.ret v) (σ2.take k))→
  a'.defers=[]∧∃u,(results fn a'.tmps).run C.P w'=.ok u w'∧∃M' bm' tk' σ' o,Q o σ'∧Inv M' bm' σ' tk' pr w'∧Later M bm pr w M' bm' w'∧OutOK M' bm' w' tk' o (.returned u):=by
  rintro ρ2 σ2 hsh v hv ⟨k,g1,g2,g3,g4⟩;obtain⟨M2,bm2,s1,s2⟩:=hsh M' bm' tk' pr fn.ntmps a' w' k3;obtain⟨u,r1,t,r2,r3⟩:=tR s1 h2 hv;obtain⟨c1,c2⟩:=cut t s1 (s2 M bm w hI.len k4) g1 g2 r3;refine⟨k3.defers.trans hds,u,r1,M2,bm2.take k,_,σ2.take k,.ret v,g4,c1,c2,fun v' e=>?_,fun v' e=>by cases e⟩;cases e;exact⟨u,rfl,r2.rep.drop g3,by simpa using r2.own⟩
 cases k2 with
 | normal=>obtain⟨ρ2,σ2,g0,v,g1,g2⟩:=k1;exact ret ρ2 σ2 g0 v g1 g2
 | ret=>obtain⟨ρ2,σ2,g0,v,g1,g2⟩:=k1;exact ret ρ2 σ2 g0 v g1 g2
 | exit id=>exact k1.elim
 | panic hp=>
  obtain⟨k,g1,g2,g3,g4⟩:=k1;obtain⟨c1,c2⟩:=cut none k3 k4 g1 g2 (.inl rfl);exact⟨k3.defers.trans hds,M',bm'.take k,_,σ'.take k,_,g4,c1,c2,(fun v' e=>by cases e),fun v' e=>by cases e;exact⟨_,rfl,hp.drop g3⟩⟩
theorem wo{f:FuncId}{fn:Func}{c:Cd}{rs:List RV}{args:List V}{Q:Out→List (List V)→Prop}(hf:C.P.funcs[f]? = some fn)(hok:bj C.tab fn args.length c rs=true)(hno:args.all (! ·.isOwn)=true)
 (h:aB σ.length σ=true→(∀i (h:i<args.length),V.Wf args[i])→awp C σ.length c (ah 0 args) σ (fin σ.length rs Q)):Fun C f args σ Q:=by
 obtain⟨h1,h2⟩:=xy hf hok h;refine⟨h1,fun M bm tk pr w vs hG hI _ hl hr=>h2 M bm tk pr w vs hG hI hl fun i g1 g2=>⟨hr i g1 g2,fun T k rows e=>?_⟩⟩;have:=List.all_eq_true.1 hno args[i] (List.getElem_mem g1);rw[e]at this;cases this
end
end Go.Proofs.YtcbahpllcfbkmaaGreatDoor
namespace Go.Proofs.YtcbahpllcfbkmaaGreatDoor
open Go.RowKit
inductive Tag{α:Type}(a:α):Type where
 | mk
def cC(o:Option V)(f:V→Prop)(_:Tag f):Prop:=match o with|some v=>f v|none=>False
theorem xb(v:V)(f:V→Prop)(t:Tag f):cC (some v) f t=f v:=rfl
def fnT(v:V)(f:FuncId→List V→Prop)(_:Tag f):Prop:=match v with | .fn g cap=>f g cap|_=>False
theorem DR(g:FuncId)(cap:List V)(f:FuncId→List V→Prop)(t:Tag f):fnT (.fn g cap) f t=f g cap:=rfl
def CJ(v:V)(as:List V)(f:FuncId→List V→Prop)(_:Tag f):Prop:=match v with | .fn g cap=>f g (as++cap) | .bnd g first=>f g (first++as)|_=>False
theorem BQ(g:FuncId)(cap as:List V)(f:FuncId→List V→Prop)(t:Tag f):CJ (.fn g cap) as f t=f g (as++cap):=rfl
theorem AP(g:FuncId)(first as:List V)(f:FuncId→List V→Prop)(t:Tag f):CJ (.bnd g first) as f t=f g (first++as):=rfl
def CC(v:V)(f:Nat→Nat→Prop)(_:Tag f):Prop:=match v with | .ptr i o=>f i o|_=>False
theorem zi(i o:Nat)(f:Nat→Nat→Prop)(t:Tag f):CC (.ptr i o) f t=f i o:=rfl
def qD(v:V)(f:Nat→Nat→List (List D)→Prop)(_:Tag f):Prop:=match v with | .own T k rows=>f T k rows|_=>False
theorem zy(T k:Nat)(rows:List (List D))(f:Nat→Nat→List (List D)→Prop)(t:Tag f):qD (.own T k rows) f t=f T k rows:=rfl
def ifT(v:V)(f:Nat→V→Prop)(_:Tag f):Prop:=match v with | .iface t v=>f t v|_=>False
theorem xv(ty:Nat)(v:V)(f:Nat→V→Prop)(t:Tag f):ifT (.iface ty v) f t=f ty v:=rfl
def bxT(o:Option (List V))(f:List V→Prop)(_:Tag f):Prop:=match o with|some cs=>f cs|none=>False
theorem Aw(cs:List V)(f:List V→Prop)(t:Tag f):bxT (some cs) f t=f cs:=rfl
def rwT(o:Option (List (List D)))(f:List (List D)→Prop)(_:Tag f):Prop:=match o with|some rows=>f rows|none=>False
theorem zl(rows:List (List D))(f:List (List D)→Prop)(t:Tag f):rwT (some rows) f t=f rows:=rfl
def Dc(v:V)(f:Bool→Prop)(_:Tag f):Prop:=match v with | .d (.lit (.bool c))=>f c|_=>False
theorem r9(c:Bool)(f:Bool→Prop)(t:Tag f):Dc (.d (.lit (.bool c))) f t=f c:=rfl
def oj(v:V)(f:Bool→Prop)(u:Unit→Prop)(_:Tag f)(_:Tag u):Prop:=match v with
 | .d (.lit (.bool c))=>f c
 | .tup []=>u ()
 | _=>False
theorem tz(c:Bool)(f:Bool→Prop)(u:Unit→Prop)(s:Tag f)(t:Tag u):oj (.d (.lit (.bool c))) f u s t=f c:=rfl
theorem xW(f:Bool→Prop)(u:Unit→Prop)(s:Tag f)(t:Tag u):oj (.tup []) f u s t=u ():=rfl
def nQ(c:Bool)(A B:Unit→Prop)(_:Tag A)(_:Tag B):Prop:=(c=true→A ())∧(c=false→B ())
theorem xq(A B:Unit→Prop)(s:Tag A)(t:Tag B):nQ true A B s t=A ():=by simp[nQ]
theorem sZ(A B:Unit→Prop)(s:Tag A)(t:Tag B):nQ false A B s t=B ():=by simp[nQ]
theorem bZ{c:Bool}{A B:Unit→Prop}{s:Tag A}{t:Tag B}(h1:c=true→A ())(h2:c=false→B ()):nQ c A B s t:=⟨h1,h2⟩
theorem CV(b:Bool):(b==true)=b:=by cases b<;>rfl
theorem xU(b:Bool):(b==false) = !b:=by cases b<;>rfl
def onT(p:Prop)(A:Unit→Prop)(_:Tag A):Prop:=p∧A ()
theorem eL{p:Prop}{A:Unit→Prop}{t:Tag A}(h1:p)(h2:A ()):onT p A t:=⟨h1,h2⟩
theorem Av(A:Unit→Prop)(t:Tag A):onT True A t=A ():=by simp[onT]
def fh(C:Cx)(n0:Nat)(c:Cd)(ρ:am)(σ:List (List V))(Q:dy)(_:Tag Q):Prop:=awp C n0 c ρ σ Q
def bh(C:Cx)(l:List O)(ρ:am)(σ:List (List V))(Q:dy)(_:Tag Q):Prop:=cl C l ρ σ Q
def bo(C:Cx)(l:List O)(ρ:am)(σ:List (List V))(K:am→Prop)(_:Tag K):Prop:=aU C l ρ σ K
def BJ(K:V→List (List V)→Prop)(P:V→List (List V)→Prop):Out→List (List V)→Prop:=fun o σ'=>match o with
 | .ret v=>K v σ'
 | .panic v=>P v σ'
def sT(C:Cx)(f:FuncId)(args:List V)(σ:List (List V))(K:V→List (List V)→Prop)(P:V→List (List V)→Prop)(_:Tag K)(_:Tag P):Prop:=Fun C f args σ (BJ K P)
def ue(C:Cx)(f:FuncId)(args:List V)(σ:List (List V))(k:V→Prop)(_:Tag k):Prop:=∃v,Fun C f args σ (fun o σ'=>o=.ret v∧σ'=σ)∧k v
def Ia(x:V)(k:Int→Prop)(_:Tag k):Prop:=match x with
 | .d (.lit (.int _ n))=>k n
 | _=>False
theorem A2(kd:IntKind)(n:Int){k:Int→Prop}(t:Tag k):Ia (.d (.lit (.int kd n))) k t=k n:=rfl
def stT(C:Cx)(l:List O)(ρ:am)(σ:List (List V))(acc:Option (List (List V)))(K:am→List (List V)→Prop)(_:Tag K):Prop:=od C σ l ρ acc K
def yS(P:Program):Tab:=fun t=>
 match P.underlying t,P.info? t with
 | some d,some i=>match i.zero with
  | some z=>if z.cells.size=i.size then some ⟨d,i.size,i.bytes,z⟩else none
  | none=>none
 | _,_=>none
theorem xZ(P:Program):lF P (yS P):=by
 intro t i h;unfold yS at h;split at h
 ·rename_i d inf h1 h2;split at h
  ·rename_i z hz;split at h
   ·rename_i hs;cases h;exact⟨h1,inf,h2,rfl,rfl,hz,hs⟩
   ·cases h
  ·cases h
 ·cases h
def cxk(P:Program)(gl:Nat→Option (List D))(kp:Nat→Option (Array Value→Prop))(h:P.follows .mixedOrders=true):Cx:=⟨P,yS P,gl,kp,xZ P,h,fun t=>!P.stoodInHeld t && !P.eqGuardType P.depth t,fun t ht=>by simpa using ht⟩
section
variable {C : Cx} {ρ : am} {σ σ2 : List (List V)} {Q : dy} {K : am → Prop} {KA : am → List (List D) → Prop} {cc : Cell} {acc : Option (List (List D))} {KN : am → List V → Prop} {cn : List V} {accn : Option (List V)} {KS : am → List (List V) → Prop} {accs : Option (List (List V))} {n0 : Nat}
theorem GO(n:Nat):ev C ρ (.t n)=get ρ n:=rfl
theorem Hk(v:V):ev C ρ (.k v)=v:=rfl
theorem yb(s:Nat)(u:V)(r:am)(t:Nat):get ((s,u)::r) t=if s=t then u else get r t:=rfl
theorem Ck(t:Nat):get [] t=.junk:=rfl
theorem Ah(s:Nat)(u:V)(r:am)(t:Nat)(v:V):put ((s,u)::r) t v=if t<s then(t,v)::(s,u)::r else if t=s then(t,v)::r else(s,u)::put r t v:=rfl
theorem Ce(t:Nat)(v:V):put [] t v=[(t,v)]:=rfl
theorem xt(t:Nat)(v:V):putd ρ (some t) v=put ρ t v:=rfl
theorem wQ(v:V):putd ρ none v=ρ:=rfl
theorem pY(l:List Nat):aP l []=[]:=rfl
theorem oc(l:List Nat)(s:Nat)(u:V)(r:am):aP l ((s,u)::r)=if l.contains s=true then(s,u)::aP l r else aP l r:=by
 unfold aP;rw[List.filter_cons]
theorem IM(x:X)(d:Option Nat)(r:List O)(t:Tag Q):bh C (⟨d,.mv x,none⟩::r) ρ σ Q t=bh C r (putd ρ d (ev C ρ x).copy) σ Q .mk:=rfl
theorem Ix(x:X)(d:Option Nat)(r:List O)(t:Tag K):bo C (⟨d,.mv x,none⟩::r) ρ σ K t=bo C r (putd ρ d (ev C ρ x).copy) σ K .mk:=rfl
theorem D2(x y z:X)(d:Option Nat)(r:List O)(t:Tag Q):bh C (⟨d,.pick x y z,none⟩::r) ρ σ Q t=cC (i8 (ev C ρ x) (ev C ρ y) (ev C ρ z)) (fun v=>bh C r (putd ρ d v) σ Q .mk) .mk:=rfl
theorem D4(x y z:X)(d:Option Nat)(r:List O)(t:Tag K):bo C (⟨d,.pick x y z,none⟩::r) ρ σ K t=cC (i8 (ev C ρ x) (ev C ρ y) (ev C ρ z)) (fun v=>bo C r (putd ρ d v) σ K .mk) .mk:=by
 unfold bo cC;simp only[aU,bz,ci,pv];cases i8 (ev C ρ x) (ev C ρ y) (ev C ρ z)<;>rfl
theorem FK(o:BinOp)(x y:X)(d:Option Nat)(r:List O)(t:Tag Q):bh C (⟨d,.bin o x y,none⟩::r) ρ σ Q t=cC (bg o (ev C ρ x) (ev C ρ y)) (fun v=>bh C r (putd ρ d v) σ Q .mk) .mk:=rfl
theorem Ge(o:BinOp)(x y:X)(d:Option Nat)(r:List O)(t:Tag K):bo C (⟨d,.bin o x y,none⟩::r) ρ σ K t=cC (bg o (ev C ρ x) (ev C ρ y)) (fun v=>bo C r (putd ρ d v) σ K .mk) .mk:=by
 unfold bo cC;simp only[aU,bz,ci,pv];cases bg o (ev C ρ x) (ev C ρ y)<;>rfl
theorem Es(o:BinOp)(x y:X)(d:Option Nat)(r:List O)(t:Tag Q):bh C (⟨d,.binb o x y,none⟩::r) ρ σ Q t=cC (og o (ev C ρ x) (ev C ρ y)) (fun v=>bh C r (putd ρ d v) σ Q .mk) .mk:=rfl
theorem Gp(neq:Bool)(T:TypeId)(ks:List Kd)(x y:X)(d:Option Nat)(r:List O)(t:Tag Q):bh C (⟨d,.eqa neq T ks x y,none⟩::r) ρ σ Q t=onT (C.eqs T=true) (fun _=>cC (jO neq ks (ev C ρ x) (ev C ρ y)) (fun v=>bh C r (putd ρ d v) σ Q .mk) .mk) .mk:=by
 unfold bh cC onT;by_cases h:C.eqs T=true
 ·simp only[cl,cY,ci,pv,h,if_true,true_and];cases jO neq ks (ev C ρ x) (ev C ρ y)<;>simp
 ·simp only[cl,cY,ci,pv,if_neg h];simp[h]
theorem GJ(neq:Bool)(T:TypeId)(ks:List Kd)(x y:X)(d:Option Nat)(r:List O)(t:Tag K):bo C (⟨d,.eqa neq T ks x y,none⟩::r) ρ σ K t=onT (C.eqs T=true) (fun _=>cC (jO neq ks (ev C ρ x) (ev C ρ y)) (fun v=>bo C r (putd ρ d v) σ K .mk) .mk) .mk:=by
 unfold bo cC onT;by_cases h:C.eqs T=true
 ·simp only[aU,bz,ci,pv,h,if_true,true_and];cases jO neq ks (ev C ρ x) (ev C ρ y)<;>simp
 ·simp only[aU,bz,ci,pv,if_neg h];simp[h]
theorem Ht(o:UnOp)(x:X)(d:Option Nat)(r:List O)(t:Tag Q):bh C (⟨d,.un o x,none⟩::r) ρ σ Q t=cC (unV o (ev C ρ x)) (fun v=>bh C r (putd ρ d v) σ Q .mk) .mk:=rfl
theorem Hv(o:UnOp)(x:X)(d:Option Nat)(r:List O)(t:Tag K):bo C (⟨d,.un o x,none⟩::r) ρ σ K t=cC (unV o (ev C ρ x)) (fun v=>bo C r (putd ρ d v) σ K .mk) .mk:=by
 unfold bo cC;simp only[aU,bz,ci,pv];cases unV o (ev C ρ x)<;>rfl
theorem D0(kd:IntKind)(x:X)(d:Option Nat)(r:List O)(t:Tag Q):bh C (⟨d,.conv kd x,none⟩::r) ρ σ Q t=cC (ul kd (ev C ρ x)) (fun v=>bh C r (putd ρ d v) σ Q .mk) .mk:=rfl
theorem Cv(x:X)(d:Option Nat)(r:List O)(t:Tag Q):bh C (⟨d,.nilck x,none⟩::r) ρ σ Q t=cC (i7 (ev C ρ x)) (fun v=>bh C r (putd ρ d v) σ Q .mk) .mk:=rfl
theorem CX(x:X)(d:Option Nat)(r:List O)(t:Tag K):bo C (⟨d,.nilck x,none⟩::r) ρ σ K t=cC (i7 (ev C ρ x)) (fun v=>bo C r (putd ρ d v) σ K .mk) .mk:=by
 unfold bo cC;simp only[aU,bz,ci,pv];cases i7 (ev C ρ x)<;>rfl
theorem f9{op:OP}{ρ:am}{σ:List (List V)}{C:Cx}{k k':V→Prop}(hk:∀v,k v→k' v)(h:bz C op ρ σ k):bz C op ρ σ k':=by
 obtain⟨v,h1,h2⟩:=gj h;unfold bz at h1 ⊢;split at h1
 ·obtain⟨u,g1,g2⟩:=h1;subst g2;exact⟨u,g1,hk _ h2⟩
 ·split at h1
  ·obtain⟨u,g1,g2⟩:=h1;subst g2;exact⟨u,g1,hk _ h2⟩
  ·exact h1.elim
 ·split at h1
  ·exact⟨h1.1,by rw[h1.2];exact hk _ h2⟩
  ·exact h1.elim
 ·obtain⟨u,g1,g2⟩:=h1;subst g2;exact⟨u,g1,hk _ h2⟩
 ·split at h1
  ·subst h1;exact hk _ h2
  ·exact h1.elim
def kvT(a:Option (List (Key×V)))(b:Option Key)(f:List (Key×V)→Key→Prop)(_:Tag f):Prop:=match a,b with|some kv,some key=>f kv key|_,_=>False
theorem zY(kv:List (Key×V))(key:Key)(f:List (Key×V)→Key→Prop)(t:Tag f):kvT (some kv) (some key) f t=f kv key:=rfl
def F1(v:V)(f:Nat→Nat→Nat→Prop)(_:Tag f):Prop:=match asB v with|some (i,off,n)=>f i off n|none=>False
theorem y7(i off n:Nat)(f:Nat→Nat→Nat→Prop)(t:Tag f):F1 (.bsl i off n 1) f t=f i off n:=rfl
theorem yO(i n c:Nat)(f:Nat→Nat→Nat→Prop)(t:Tag f):F1 (.bsc i n c) f t=f i 0 n:=rfl
theorem GB(st ok:Bool)(z:V)(x y:X)(d:Option Nat)(r:List O)(t:Tag Q):bh C (⟨d,.mlk st ok z x y,none⟩::r) ρ σ Q t=cC (sG st ok z σ (ev C ρ x) (ev C ρ y)) (fun v=>bh C r (putd ρ d v) σ Q .mk) .mk:=rfl
theorem Gu(st:Bool)(d:Option Nat)(r:List O)(t:Tag Q):bh C (⟨d,.mmk st,none⟩::r) ρ σ Q t=bh C r (putd ρ d (.mp σ.length)) (σ++[[.mapc st []]]) Q .mk:=rfl
theorem F8(st:Bool)(x y z:X)(d:Option Nat)(r:List O)(t:Tag Q):bh C (⟨d,.mst st x y z,none⟩::r) ρ σ Q t=kvT (eo st σ (ev C ρ x)) (gX st (ev C ρ y)) (fun kv key=>bh C r ρ (jM σ st (jT key (ev C ρ z).copy kv) (ev C ρ x)) Q .mk) .mk:=by
 unfold bh kvT;simp only[cl,cY];cases eo st σ (ev C ρ x)<;>cases gX st (ev C ρ y)<;>rfl
def Dk(v:V)(f g:Unit→Prop)(_:Tag f)(_:Tag g):Prop:=if pM v=true then f ()else g ()
theorem D7(f g:Unit→Prop)(s:Tag f)(t:Tag g):Dk (.d (.sl [])) f g s t=f ():=rfl
theorem zq(i off n:Nat)(f g:Unit→Prop)(s:Tag f)(t:Tag g):Dk (.bsl i off n 1) f g s t=g ():=rfl
theorem yw(i n c:Nat)(f g:Unit→Prop)(s:Tag f)(t:Tag g):Dk (.bsc i n c) f g s t=g ():=rfl
def avT(x:V)(src:List V)(bytes:Nat)(z:V)(σ:List (List V))(f:V→List (List V)→Prop)(_:Tag f):Prop:=lI σ x src bytes z f
theorem CK(src:List V)(bytes:Nat)(z:V)(σ:List (List V))(f:V→List (List V)→Prop)(t:Tag f):avT .nil src bytes z σ f t=(src.length*bytes≤140737488355328∧∀c,src.length≤c→f (.bsc σ.length src.length c) (σ++[src++List.replicate (c-src.length) z])):=rfl
theorem yN:fT []=some []:=rfl
theorem y4(i o n k:Nat)(r:List V):fT (.bsl i o n k::r)=(fT r).map fun l=>.bsl i o n k::l:=by
 simp only[fT,V.boxable1];cases fT r<;>rfl
theorem EN(x:D)(r:List V):fT (.d x::r)=(fT r).map fun l=>.d x::l:=by
 simp only[fT,V.boxable1];cases fT r<;>rfl
theorem w5(i n c:Nat):nU false (.bsc i n c)=some (aI .i64 n):=rfl
theorem Bd(b n c:Nat)(kd:IntKind)(j:Nat):iaV 1 (.bsc b n c) (.d (.lit (.int kd (j:Int))))=if j<n then some (.ptr b j)else none:=by
 unfold iaV;simp only[Int.toNat_natCast,and_true,Nat.mul_one,Nat.zero_add];by_cases h:j<n
 ·rw[if_pos h,if_pos (by omega)]
 ·rw[if_neg h,if_neg (by omega)]
theorem EC(i n c:Nat):(V.bsc i n c).copy=.bsc i n c:=rfl
def DT(st ok:Bool)(z:V)(a:Option (List (Key×V)))(b:Option Key):Option V:=match a,b with|some kv,some key=>some (nO ok z (gU key kv))|_,_=>none
theorem C8(st ok:Bool)(z:V)(i:Nat)(y:V):sG st ok z σ (.mp i) y=DT st ok z (sD st σ[i]?) (gX st y):=by
 unfold sG DT eo;rfl
theorem pq(st ok:Bool)(z:V)(kv:List (Key×V))(key:Key):DT st ok z (some kv) (some key)=some (nO ok z (gU key kv)):=rfl
theorem oZ(st:Bool)(kv:List (Key×V)):sD st (some [.mapc st kv])=some kv:=by simp[sD]
theorem uQ(n:Int):gX false (.d (.lit (.int .i64 n)))=some (.i n):=rfl
theorem CN(s:ByteArray):gX true (.d (.lit (.string s)))=some (.s s):=rfl
theorem AX(st:Bool)(i:Nat):eo st σ (.mp i)=sD st σ[i]? := rfl
theorem AO(st:Bool)(kv:List (Key×V))(i:Nat):jM σ st kv (.mp i)=σ.set i [.mapc st kv]:=rfl
def Gi(b:Option (List V)):Option V:=match b with|some [.mapc _ kv]=>if kv.length≤1000000000 then some (aI .i64 kv.length)else none|_=>none
theorem GG(i:Nat):Bx σ (.mp i)=Gi σ[i]? := rfl
theorem wV(st:Bool)(kv:List (Key×V)):Gi (some [.mapc st kv])=if kv.length≤1000000000 then some (aI .i64 kv.length)else none:=rfl
theorem EF(z v:V):nO false z (some v)=v:=rfl
theorem Bj(z:V):nO false z none=z:=rfl
theorem DD(z v:V):nO true z (some v)=.tup [v,aA true]:=rfl
theorem BR(z:V):nO true z none=.tup [z,aA false]:=rfl
theorem Ic(x:D):(V.d x).copy=.d x:=rfl
theorem EP(i o n k:Nat):(V.bsl i o n k).copy=.bsl i o n k:=rfl
theorem D8(T k:Nat)(rows:List (List D)):(V.own T k rows).copy=.d (.sl rows):=rfl
theorem Df:V.nil.copy=.nil:=rfl
theorem Eo(cs:List V):(V.agg cs).copy=.agg cs:=rfl
theorem Fh(i:Nat):(V.mp i).copy=.mp i:=rfl
def Dz(n off:Nat)(b:Option (List V)):Option (List V):=match b with|some cs=>if off+n≤cs.length∧bR cs=true then some (((cs.drop off).take n).map V.copy)else(tyL n off cs).map fun l=>l.map V.copy|none=>none
theorem xk(n off:Nat)(cs:List V):Dz n off (some cs)=if off+n≤cs.length∧bR cs=true then some (((cs.drop off).take n).map V.copy)else(tyL n off cs).map fun l=>l.map V.copy:=rfl
theorem wB(i off n:Nat):j7 σ (.bsl i off n 1)=Dz n off σ[i]? := by
 unfold j7 Dz jc;simp only;cases σ[i]? with
 | none=>rfl
 | some cs=>simp only;split<;>rfl
theorem BW(rows:List (List D)):j7 σ (.d (.sl rows))=if rows.all (fun r=>r.length==1)=true then some (rows.flatten.map V.d)else none:=rfl
theorem IF(off:Nat)(x:X)(d:Option Nat)(r:List O)(t:Tag Q):bh C (⟨d,.fa off x,none⟩::r) ρ σ Q t=cC (faV off (ev C ρ x)) (fun v=>bh C r (putd ρ d v) σ Q .mk) .mk:=rfl
theorem GY(off:Nat)(x:X)(d:Option Nat)(r:List O)(t:Tag K):bo C (⟨d,.fa off x,none⟩::r) ρ σ K t=cC (faV off (ev C ρ x)) (fun v=>bo C r (putd ρ d v) σ K .mk) .mk:=by
 unfold bo cC;simp only[aU,bz,ci,pv];cases faV off (ev C ρ x)<;>rfl
theorem Hm(kk:Nat)(x i:X)(d:Option Nat)(r:List O)(t:Tag Q):bh C (⟨d,.ia kk x i,none⟩::r) ρ σ Q t=cC (iaV kk (ev C ρ x) (ev C ρ i)) (fun v=>bh C r (putd ρ d v) σ Q .mk) .mk:=rfl
theorem GR(kk:Nat)(x i:X)(d:Option Nat)(r:List O)(t:Tag K):bo C (⟨d,.ia kk x i,none⟩::r) ρ σ K t=cC (iaV kk (ev C ρ x) (ev C ρ i)) (fun v=>bo C r (putd ρ d v) σ K .mk) .mk:=by
 unfold bo cC;simp only[aU,bz,ci,pv];cases iaV kk (ev C ρ x) (ev C ρ i)<;>rfl
theorem Hw(x i:X)(d:Option Nat)(r:List O)(t:Tag Q):bh C (⟨d,.ix x i,none⟩::r) ρ σ Q t=cC (ixV (ev C ρ x) (ev C ρ i)) (fun v=>bh C r (putd ρ d v) σ Q .mk) .mk:=rfl
theorem Gf(s:Bool)(x:X)(d:Option Nat)(r:List O)(t:Tag Q):bh C (⟨d,.len s x,none⟩::r) ρ σ Q t=cC (nU s (ev C ρ x)) (fun v=>bh C r (putd ρ d v) σ Q .mk) .mk:=rfl
theorem FZ(x:X)(i:Nat)(d:Option Nat)(r:List O)(t:Tag Q):bh C (⟨d,.ext x i,none⟩::r) ρ σ Q t=cC (sN (ev C ρ x) i) (fun v=>bh C r (putd ρ d v) σ Q .mk) .mk:=rfl
theorem Dr(kk:Nat)(ag:Bool)(x:X)(d:Option Nat)(r:List O)(t:Tag Q):bh C (⟨d,.load kk ag x,none⟩::r) ρ σ Q t=cC (fZ σ kk ag (ev C ρ x)) (fun v=>bh C r (putd ρ d v) σ Q .mk) .mk:=rfl
theorem Ek(kk:Nat)(ag:Bool)(x:X)(d:Option Nat)(r:List O)(t:Tag K):bo C (⟨d,.load kk ag x,none⟩::r) ρ σ K t=cC (fZ σ kk ag (ev C ρ x)) (fun v=>bo C r (putd ρ d v) σ K .mk) .mk:=by
 unfold bo cC;simp only[aU,bz,ci,pv];cases fZ σ kk ag (ev C ρ x)<;>rfl
theorem F2(zs:List V)(ps:List (Nat×Nat×X))(d:Option Nat)(r:List O)(t:Tag Q):bh C (⟨d,.bld zs ps,none⟩::r) ρ σ Q t=cC ((ak (ev C ρ) zs ps).map V.agg) (fun v=>bh C r (putd ρ d v) σ Q .mk) .mk:=rfl
theorem Fp(s:Bool)(kk:Nat)(x:X)(lo hi:Option X)(d:Option Nat)(r:List O)(t:Tag Q):bh C (⟨d,.sub s kk x lo hi,none⟩::r) ρ σ Q t=cC (l9 s kk (ev C ρ x) (lo.map (ev C ρ)) (hi.map (ev C ρ))) (fun v=>bh C r (putd ρ d v) σ Q .mk) .mk:=rfl
theorem F5(s:Bool)(kk:Nat)(x:X)(lo hi:Option X)(d:Option Nat)(r:List O)(t:Tag K):bo C (⟨d,.sub s kk x lo hi,none⟩::r) ρ σ K t=cC (l9 s kk (ev C ρ x) (lo.map (ev C ρ)) (hi.map (ev C ρ))) (fun v=>bo C r (putd ρ d v) σ K .mk) .mk:=by
 unfold bo cC;simp only[aU,bz,ci,pv];cases l9 s kk (ev C ρ x) (lo.map (ev C ρ)) (hi.map (ev C ρ))<;>rfl
theorem Ey(f:FuncId)(cap:List X)(d:Option Nat)(r:List O)(t:Tag Q):bh C (⟨d,.mkfn f cap,none⟩::r) ρ σ Q t=bh C r (putd ρ d (.fn f (cap.map (ev C ρ)))) σ Q .mk:=rfl
theorem Gj(ty:TypeId)(x:X)(d:Option Nat)(r:List O)(t:Tag Q):bh C (⟨d,.mki ty x,none⟩::r) ρ σ Q t=cC (yZ ty (ev C ρ x)) (fun v=>bh C r (putd ρ d v) σ Q .mk) .mk:=rfl
theorem Ih(g:Bool)(x y:X)(d:Option Nat)(r:List O)(t:Tag Q):bh C (⟨d,.mx g x y,none⟩::r) ρ σ Q t=cC (mxV g (ev C ρ x) (ev C ρ y)) (fun v=>bh C r (putd ρ d v) σ Q .mk) .mk:=rfl
theorem Dt(f:FuncId)(args:List X)(d:Option Nat)(r:List O)(t:Tag Q):bh C (⟨d,.call f args,none⟩::r) ρ σ Q t=sT C f (args.map fun x=>(ev C ρ x).lend) σ (fun v σ'=>bh C r (putd ρ d v) σ' Q .mk) (fun v σ'=>Q (.panic v) ρ σ') .mk .mk:=rfl
theorem Cl(x:X)(args:List X)(d:Option Nat)(r:List O)(t:Tag Q):bh C (⟨d,.callv x args,none⟩::r) ρ σ Q t=CJ (ev C ρ x) (args.map fun x=>(ev C ρ x).lend) (fun f as=>sT C f as σ (fun v σ'=>bh C r (putd ρ d v) σ' Q .mk) (fun v σ'=>Q (.panic v) ρ σ') .mk .mk) .mk:=rfl
theorem E5(T:Nat)(cs:List V)(d:Option Nat)(r:List O)(t:Tag Q):bh C (⟨d,.new T cs,none⟩::r) ρ σ Q t=bh C r (putd ρ d (.ptr σ.length 0)) (σ++[cs]) Q .mk:=rfl
theorem FT(T:Nat)(x:X)(d:Option Nat)(r:List O)(t:Tag Q):bh C (⟨d,.box T x,none⟩::r) ρ σ Q t=onT ((ev C ρ x).boxable=true) (fun _=>bh C r (putd ρ d (.ptr σ.length 0)) (σ++[(ev C ρ x).cells]) Q .mk) .mk:=rfl
theorem DX(T:Nat)(x:X)(d:Option Nat)(r:List O)(t:Tag Q):bh C (⟨d,.boxt T x,none⟩::r) ρ σ Q t=tyT (ev C ρ x) (fun k=>bh C r (putd ρ d (.ptr σ.length 0)) (σ++[tyc T k]) Q .mk):=rfl
theorem Ev(k:Int)(K:Int→Prop):tyT (.agg [.d (.lit (.pointer none)),.nil,.d (.lit (.int .i64 k))]) K=K k:=rfl
theorem Fw(kk:Nat)(x y:X)(d:Option Nat)(r:List O)(t:Tag Q):bh C (⟨d,.sto kk x y,none⟩::r) ρ σ Q t=CC (ev C ρ x) (fun i o=>bxT σ[i]? (fun cs=>onT ((ev C ρ y).boxable=true∧(ev C ρ y).cells.length=kk∧o+kk≤cs.length∧bR cs=true) (fun _=>bh C r ρ (σ.set i (over cs o (ev C ρ y).cells)) Q .mk) .mk) .mk) .mk:=rfl
theorem DI(x:X)(s:Nat)(d:Option Nat)(r:List O)(t:Tag Q):bh C (⟨d,.stoo x s,none⟩::r) ρ σ Q t=CC (ev C ρ x) (fun i o=>qD (get ρ s) (fun T k rows=>bxT σ[i]? (fun cs=>onT (o<cs.length∧bR cs=true) (fun _=>bh C r (put ρ s (.d (.sl rows))) (σ.set i (over cs o [.own T k rows])) Q .mk) .mk) .mk) .mk) .mk:=by
 unfold bh CC qD bxT onT;simp only[cl,cY];cases ev C ρ x<;>simp only
 cases get ρ s<;>rfl
theorem GH(s:Nat)(d:Option Nat)(r:List O)(t:Tag Q):bh C (⟨d,.mvo s,none⟩::r) ρ σ Q t=qD (get ρ s) (fun T k rows=>bh C r (putd (put ρ s (.d (.sl rows))) d (.own T k rows)) σ Q .mk) .mk:=rfl
theorem EL(T k:Nat)(d:Option Nat)(r:List O)(t:Tag Q):bh C (⟨d,.nilo T k,none⟩::r) ρ σ Q t=bh C r (putd ρ d (.own T k [])) σ Q .mk:=rfl
theorem FU(T k bytes s:Nat)(y:X)(d:Option Nat)(r:List O)(t:Tag Q):bh C (⟨d,.app T k bytes s y,none⟩::r) ρ σ Q t=qD (get ρ s) (fun T' k' rows=>rwT (dN (ev C ρ y)) (fun rows2=>onT (T'=T∧k'=k∧rows2.all (fun r=>r.length==k)=true∧(rows.length+rows2.length)*bytes≤140737488355328) (fun _=>bh C r (putd (put ρ s (.d (.sl rows))) d (.own T k (rows++rows2))) σ Q .mk) .mk) .mk) .mk:=by
 unfold bh qD rwT onT;simp only[cl,cY];cases get ρ s<;>simp only
 cases dN (ev C ρ y)<;>rfl
theorem Fx(T k:Nat)(xs:List X)(d:Option Nat)(r:List O)(t:Tag Q):bh C (⟨d,.mks T k xs,none⟩::r) ρ σ Q t=rwT (ac (xs.map (ev C ρ))) (fun rows=>onT (rows.all (fun r=>r.length==k)=true) (fun _=>bh C r (putd ρ d (.d (.sl rows))) σ Q .mk) .mk) .mk:=rfl
theorem Dv(T k:Nat)(xs:List X)(d:Option Nat)(r:List O)(t:Tag Q):bh C (⟨d,.mkso T k xs,none⟩::r) ρ σ Q t=rwT (ac (xs.map (ev C ρ))) (fun rows=>onT (rows.all (fun r=>r.length==k)=true) (fun _=>bh C r (putd ρ d (.own T k rows)) σ Q .mk) .mk) .mk:=rfl
theorem GL(x:X)(d:Option Nat)(r:List O)(t:Tag Q):bh C (⟨d,.pan x,none⟩::r) ρ σ Q t=ifT (ev C ρ x) (fun ty v=>Q (.panic (.iface ty v)) ρ σ) .mk:=rfl
theorem B3(d:Option Nat)(op:OP)(s:Nat)(b:Bool)(r:List O)(t:Tag Q):bh C (⟨d,op,some (s,b)⟩::r) ρ σ Q t=oj (get ρ s) (fun c=>nQ (c==b) (fun _=>bh C (⟨d,op,none⟩::r) (put ρ s (.d (.lit (.bool b)))) σ Q .mk) (fun _=>bh C r (putd (put ρ s (.d (.lit (.bool (!b))))) d (.tup [])) σ Q .mk) .mk .mk) (fun _=>bh C r (putd ρ d (.tup [])) σ Q .mk) .mk .mk:=by
 unfold bh oj nQ;simp only[cl,beq_iff_eq,beq_eq_false_iff_ne,ne_eq];all_goals rfl
theorem E8(t:Tag Q):bh C [] ρ σ Q t=Q .normal ρ σ:=rfl
theorem DU(f:FuncId)(args:List X)(d:Option Nat)(r:List O)(t:Tag K):bo C (⟨d,.call f args,none⟩::r) ρ σ K t=ue C f (args.map fun x=>(ev C ρ x).lend) σ (fun v=>bo C r (putd ρ d v) σ K .mk) .mk:=rfl
theorem CI(f:FuncId)(args:List X)(d:Option Nat)(r:List O)(t:Tag Q):bh C (⟨d,.calln f args,none⟩::r) ρ σ Q t=sT C f (args.map fun x=>(ev C ρ x).copy) σ (fun v σ'=>bh C r (putd ρ d v) σ' Q .mk) (fun v σ'=>Q (.panic v) ρ σ') .mk .mk:=rfl
theorem Cu(x:X)(args:List X)(d:Option Nat)(r:List O)(t:Tag K):bo C (⟨d,.callv x args,none⟩::r) ρ σ K t=fnT (ev C ρ x) (fun f cap=>ue C f ((args.map fun x=>(ev C ρ x).lend)++cap) σ (fun v=>bo C r (putd ρ d v) σ K .mk) .mk) .mk:=rfl
theorem Gz(T k:Nat)(xs:List X)(d:Option Nat)(r:List O)(t:Tag K):bo C (⟨d,.mks T k xs,none⟩::r) ρ σ K t=rwT (ac (xs.map (ev C ρ))) (fun rows=>onT (rows.all (fun r=>r.length==k)=true) (fun _=>bo C r (putd ρ d (.d (.sl rows))) σ K .mk) .mk) .mk:=rfl
theorem Cj(d:Option Nat)(op:OP)(s:Nat)(b:Bool)(r:List O)(t:Tag K):bo C (⟨d,op,some (s,b)⟩::r) ρ σ K t=oj (get ρ s) (fun c=>nQ (c==b) (fun _=>bo C (⟨d,op,none⟩::r) (put ρ s (.d (.lit (.bool b)))) σ K .mk) (fun _=>bo C r (putd (put ρ s (.d (.lit (.bool (!b))))) d (.tup [])) σ K .mk) .mk .mk) (fun _=>bo C r (putd ρ d (.tup [])) σ K .mk) .mk .mk:=by
 unfold bo oj nQ;simp only[aU,beq_iff_eq,beq_eq_false_iff_ne,ne_eq];all_goals rfl
theorem Gg(t:Tag K):bo C [] ρ σ K t=K ρ:=rfl
theorem HT(x:X)(d:Option Nat)(r:List O)(t:Tag KS):stT C (⟨d,.mv x,none⟩::r) ρ σ accs KS t=stT C r (putd ρ d (ev C ρ x).copy) σ accs KS .mk:=rfl
theorem GC(o:BinOp)(x y:X)(d:Option Nat)(r:List O)(t:Tag KS):stT C (⟨d,.bin o x y,none⟩::r) ρ σ accs KS t=cC (bg o (ev C ρ x) (ev C ρ y)) (fun v=>stT C r (putd ρ d v) σ accs KS .mk) .mk:=by
 unfold stT cC;simp only[od,bz,ci,pv];cases bg o (ev C ρ x) (ev C ρ y)<;>rfl
theorem IP(off:Nat)(x:X)(d:Option Nat)(r:List O)(t:Tag KS):stT C (⟨d,.fa off x,none⟩::r) ρ σ accs KS t=cC (faV off (ev C ρ x)) (fun v=>stT C r (putd ρ d v) σ accs KS .mk) .mk:=by
 unfold stT cC;simp only[od,bz,ci,pv];cases faV off (ev C ρ x)<;>rfl
theorem HM(kk:Nat)(x i:X)(d:Option Nat)(r:List O)(t:Tag KS):stT C (⟨d,.ia kk x i,none⟩::r) ρ σ accs KS t=cC (iaV kk (ev C ρ x) (ev C ρ i)) (fun v=>stT C r (putd ρ d v) σ accs KS .mk) .mk:=by
 unfold stT cC;simp only[od,bz,ci,pv];cases iaV kk (ev C ρ x) (ev C ρ i)<;>rfl
theorem EM(kk:Nat)(ag:Bool)(x:X)(d:Option Nat)(r:List O)(t:Tag KS):stT C (⟨d,.load kk ag x,none⟩::r) ρ σ accs KS t=cC (fZ σ kk ag (ev C ρ x)) (fun v=>stT C r (putd ρ d v) σ accs KS .mk) .mk:=by
 unfold stT cC;simp only[od,bz,ci,pv];cases fZ σ kk ag (ev C ρ x)<;>rfl
theorem Eg(f:FuncId)(args:List X)(d:Option Nat)(r:List O)(t:Tag KS):stT C (⟨d,.call f args,none⟩::r) ρ σ accs KS t=ue C f (args.map fun x=>(ev C ρ x).lend) σ (fun v=>stT C r (putd ρ d v) σ accs KS .mk) .mk:=rfl
theorem FG(T k:Nat)(xs:List X)(d:Option Nat)(r:List O)(t:Tag KS):stT C (⟨d,.mks T k xs,none⟩::r) ρ σ accs KS t=rwT (ac (xs.map (ev C ρ))) (fun rows=>onT (rows.all (fun r=>r.length==k)=true) (fun _=>stT C r (putd ρ d (.d (.sl rows))) σ accs KS .mk) .mk) .mk:=rfl
theorem E6(σf:List (List V))(t:Tag KS):stT C [] ρ σ (some σf) KS t=KS ρ σf:=rfl
theorem Bt(s d0 d1 T k bytes:Nat)(y:X)(l:List O)(keep:List Nat)(t:Tag Q):fh C n0 (.drawb s d0 d1 T k bytes y l keep) ρ σ Q t=qD (get ρ s) (fun T' k' rows=>onT (T'=T∧k'=k) (fun _=>bo C l ρ σ (fun ρ'=>rwT (dN (ev C ρ' y)) (fun r2=>onT (r2.all (fun r=>r.length==k)=true∧(rows.length+r2.length)*bytes≤140737488355328) (fun _=>Q .normal (aP keep (put (put (put ρ' s (.own T k (rows++r2))) d0 (.d (.sl rows))) d1 (.d (.sl (rows++r2))))) σ) .mk) .mk) .mk) .mk) .mk:=by
 unfold fh qD rwT onT bo;first|(simp only[awp,uR,nX,and_assoc];done)|(simp only[awp,uR,nX,and_assoc];rfl)
def gT(C:Cx)(l:List (O×GK))(m:Nat)(h:List (List (List V)))(p:List PendG)(ρ:am)(σ:List (List V))(k:am→List (List V)→Prop)(P:V→List (List V)→Prop)(_:Tag k)(_:Tag P):Prop:=dS C P k l m h p ρ σ
def gnx(F:am→List (List V)→Prop):dy:=fun e ρ σ=>e=.normal∧F ρ σ
theorem tr(F:am→List (List V)→Prop):gnx F .normal ρ σ=F ρ σ:=by simp[gnx]
section
variable {m : Nat} {h : List (List (List V))} {p : List PendG} {k : am → List (List V) → Prop} {P : V → List (List V) → Prop} {r : List (O × GK)}
theorem Fy(s:Tag k)(t:Tag P):gT C [] m h p ρ σ k P s t=k ρ σ:=rfl
theorem DC(o:O)(lo:Nat)(s:Tag k)(t:Tag P):gT C ((o,.free lo)::r) m h p ρ σ k P s t=bo C [o] ρ σ (fun ρ'=>gT C r m h p ρ' σ k P .mk .mk) .mk:=rfl
theorem EJ(o:O)(lo hi:Nat)(s:Tag k)(t:Tag P):gT C ((o,.calm lo hi)::r) m h p ρ σ k P s t=bo C [o] ρ σ (fun ρ'=>onT (km C o ρ ρ' (m-lo) h) (fun _=>gT C r m h (qQ m hi ⟨o,ρ,ρ',hi⟩ p) ρ' σ k P .mk .mk) .mk) .mk:=rfl
theorem DP(o:O)(lo:Nat)(s:Tag k)(t:Tag P):gT C ((o,.slot lo)::r) m h p ρ σ k P s t=bh C [o] ρ σ (gnx fun ρ' σ'=>gT C r m h p ρ' σ' k P .mk .mk) .mk:=rfl
def AQ(C:Cx)(f:FuncId)(vs:List V)(σ:List (List V))(R:List (List V)→Prop)(kk:V→List (List V)→Prop)(P:V→List (List V)→Prop)(pn:Unit→Prop)(_:Tag R)(_:Tag kk)(_:Tag P)(_:Tag pn):Prop:=
 (∃v σ1,Fun C f vs σ (fun o σ'=>o=.ret v∧σ'=σ1)∧R σ1∧kk v σ1)∨(Fun C f vs σ (fun o σ'=>∃u,o=.panic u∧P u σ')∧pn ())
theorem dR{f:FuncId}{vs:List V}{R:List (List V)→Prop}{kk P:V→List (List V)→Prop}{pn:Unit→Prop}{t1:Tag R}{t2:Tag kk}{t3:Tag P}{t4:Tag pn}{v:V}{σ1:List (List V)}(h1:Fun C f vs σ (fun o σ'=>o=.ret v∧σ'=σ1))(h2:R σ1)(h3:kk v σ1):AQ C f vs σ R kk P pn t1 t2 t3 t4:=.inl ⟨v,σ1,h1,h2,h3⟩
theorem DV(d:Option Nat)(f:FuncId)(args:List X)(s:Tag k)(t:Tag P):gT C ((⟨d,.call f args,none⟩,.act)::r) m h p ρ σ k P s t=AQ C f (args.map fun x=>(ev C ρ x).lend) σ (fun σ1=>reG C (m+1) σ1 p) (fun v σ1=>gT C r (m+1) (σ::h) p (putd ρ d v) σ1 k P .mk .mk) P (fun _=>dP C r m h (putd ρ d .junk) σ) .mk .mk .mk .mk:=by
 unfold gT AQ;simp only[dS]
theorem BB(d:Option Nat)(x:X)(args:List X)(s:Tag k)(t:Tag P):gT C ((⟨d,.callv x args,none⟩,.act)::r) m h p ρ σ k P s t=fnT (ev C ρ x) (fun f cap=>AQ C f ((args.map fun x=>(ev C ρ x).lend)++cap) σ (fun σ1=>reG C (m+1) σ1 p) (fun v σ1=>gT C r (m+1) (σ::h) p (putd ρ d v) σ1 k P .mk .mk) P (fun _=>dP C r m h (putd ρ d .junk) σ) .mk .mk .mk .mk) .mk:=by
 unfold gT AQ fnT;simp only[dS];apply propext;constructor
 ·rintro⟨f,cap,e,hh⟩;rw[e];exact hh
 ·intro hh;cases hy:ev C ρ x<;>rw[hy]at hh<;>simp only at hh<;>first|exact hh.elim|skip
  exact⟨_,_,rfl,hh⟩
theorem DM(d:Option Nat)(x:X)(y:Nat)(s:Tag k)(t:Tag P):gT C ((⟨d,.stoo x y,none⟩,.act)::r) m h p ρ σ k P s t=bh C [⟨d,.stoo x y,none⟩] ρ σ (gnx fun ρ' σ'=>onT (reG C (m+1) σ' p) (fun _=>gT C r (m+1) (σ::h) p ρ' σ' k P .mk .mk) .mk) .mk:=by
 unfold gT;simp only[dS];rfl
theorem DB(σ':List (List V)):reG C m σ' []=True:=rfl
theorem CS(o:O)(ρ1 ρ2:am)(hi:Nat)(σ':List (List V)):reG C m σ' (⟨o,ρ1,ρ2,hi⟩::p)=onT (if m≤hi then bo C [o] ρ1 σ' (fun ρ'=>ρ'=ρ2) .mk else True) (fun _=>reG C m σ' p) .mk:=rfl
theorem vq(o:O)(ρ1 ρ2:am):km C o ρ1 ρ2 0 h=True:=by cases h<;>rfl
theorem wO(o:O)(ρ1 ρ2:am)(n:Nat):km C o ρ1 ρ2 (n+1) (σ::h)=onT (bo C [o] ρ1 σ (fun ρ'=>ρ'=ρ2) .mk) (fun _=>km C o ρ1 ρ2 n h) .mk:=rfl
theorem B6(hi:Nat)(x:PendG):qQ m hi x p=if m<hi then x::p else p:=rfl
theorem Fk:dP C [] m h ρ σ=True:=rfl
theorem DE(o:O)(lo:Nat):dP C ((o,.free lo)::r) m h ρ σ=if lo≤m then bo C [o] ρ σ (fun ρ'=>dP C r m h ρ' σ) .mk else dP C r m h (ap o (.junk,.junk) ρ) σ:=rfl
theorem DS(o:O)(lo hi:Nat):dP C ((o,.calm lo hi)::r) m h ρ σ=if lo≤m then bo C [o] ρ σ (fun ρ'=>onT (km C o ρ ρ' (m-lo) h) (fun _=>dP C r m h ρ' σ) .mk) .mk else dP C r m h (ap o (.junk,.junk) ρ) σ:=rfl
theorem Eh(o:O)(lo:Nat):dP C ((o,.slot lo)::r) m h ρ σ=if lo≤m then bh C [o] ρ σ (gnx fun ρ' _=>dP C r m h ρ' σ) .mk else dP C r m h (ap o (.junk,.junk) ρ) σ:=rfl
theorem F9(o:O):dP C ((o,.act)::r) m h ρ σ=dP C r m h (ap o (.junk,.junk) ρ) σ:=rfl
end
theorem CQ(l:List (O×GK))(keep:List Nat)(t:Tag Q):fh C n0 (.drawg l keep) ρ σ Q t=gT C l 0 [] [] ρ σ (fun ρ' σ'=>Q .normal (aP keep ρ') σ') (fun u σ'=>∀ρ',Q (.panic u) (aP keep ρ') σ') .mk .mk:=rfl
def vT(C:Cx)(p:AV)(σ:List (List V))(K:am→List (List V)→Prop)(l:List O)(pend:List (O×am×V))(ρ:am)(_:Tag K):Prop:=BO C p σ K l pend ρ
theorem BG(p:AV)(K:am→List (List V)→Prop)(d:Option Nat)(op:OP)(r:List O)(pend:List (O×am×V))(t:Tag K):vT C p σ K (⟨d,op,none⟩::r) pend ρ t=bo C [⟨some 0,op,none⟩] ρ σ (fun ρ'=>vT C p σ K r ((⟨d,op,none⟩,ρ,get ρ' 0)::pend) (putd ρ d (get ρ' 0)) .mk) .mk:=by
 unfold vT bo;simp only[BO,aU,true_and,putd];refine propext ⟨f9 fun v hh=>?_,f9 fun v hh=>?_⟩
 ·simpa only[bI,if_true]using hh
 ·simpa only[bI,if_true]using hh
theorem EH(d T bytes:Nat)(z:V)(s:Nat)(y:X)(st:Bool)(x k v:X)(K:am→List (List V)→Prop)(pend:List (O×am×V))(t:Tag K):vT C ⟨d,T,bytes,z,s,y,st,x,k,v⟩ σ K [] pend ρ t=bxT (j7 σ (ev C ρ y)) (fun src=>onT (0<src.length) (fun _=>avT (get ρ s) src bytes z σ (fun u σ1=>onT (reV C σ1 pend) (fun _=>
 kvT (eo st σ1 (ev C (put ρ d u) x)) (gX st (ev C (put ρ d u) k)) (fun kv key=>K (put ρ d u) (jM σ1 st (jT key (ev C (put ρ d u) v).copy kv) (ev C (put ρ d u) x))) .mk) .mk) .mk) .mk) .mk:=by
 unfold vT bxT onT avT;simp only[BO]
 have inner:∀u σ1,(reV C σ1 pend∧Dw C ⟨d,T,bytes,z,s,y,st,x,k,v⟩ K (put ρ d u) σ1)=(reV C σ1 pend∧kvT (eo st σ1 (ev C (put ρ d u) x)) (gX st (ev C (put ρ d u) k)) (fun kv key=>K (put ρ d u) (jM σ1 st (jT key (ev C (put ρ d u) v).copy kv) (ev C (put ρ d u) x))) .mk):=fun u σ1=>by
  unfold Dw kvT;simp only;cases eo st σ1 (ev C (put ρ d u) x)<;>cases gX st (ev C (put ρ d u) k)<;>simp
 simp only[inner];cases j7 σ (ev C ρ y)<;>simp
theorem Cm:reV C σ []=True:=rfl
theorem yt(d:Option Nat)(op:OP)(g:Option (Nat×Bool))(ρ1:am)(v:V)(r:List (O×am×V)):reV C σ ((⟨d,op,g⟩,ρ1,v)::r)=onT (bo C [⟨some 0,op,none⟩] ρ1 σ (fun ρ'=>get ρ' 0=v) .mk) (fun _=>reV C σ r) .mk:=by
 unfold onT bo;simp only[reV,aU,putd];refine propext ⟨fun⟨h1,h2⟩=>⟨f9 (fun u hh=>?_) h1,h2⟩,fun⟨h1,h2⟩=>⟨f9 (fun u hh=>?_) h1,h2⟩⟩
 ·simpa only[bI,if_true]using hh
 ·simpa only[bI,if_true]using hh
theorem Dy(t:Tag Q):fh C n0 .skip ρ σ Q t=Q .normal ρ σ:=rfl
theorem EX(l:List O)(keep:List Nat)(t:Tag Q):fh C n0 (.ops l keep) ρ σ Q t=bh C l ρ σ (fun e ρ' σ'=>Q e (aP keep ρ') σ') .mk:=rfl
theorem ED(l:List O)(keep:List Nat)(t:Tag Q):fh C n0 (.draw l keep) ρ σ Q t=bo C l ρ σ (fun ρ'=>Q .normal (aP keep ρ') σ) .mk:=rfl
theorem FM(a b:Cd)(t:Tag Q):fh C n0 (.seq a b) ρ σ Q t=fh C n0 a ρ σ (andThen (fun ρ' σ'=>fh C n0 b ρ' σ' Q .mk) Q) .mk:=rfl
theorem Dx(x:X)(a b:Cd)(t:Tag Q):fh C n0 (.cond x a b) ρ σ Q t=Dc (ev C ρ x) (fun c=>nQ c (fun _=>fh C n0 a ρ σ Q .mk) (fun _=>fh C n0 b ρ σ Q .mk) .mk .mk) .mk:=rfl
theorem Bo(id:Nat)(a:Cd)(t:Tag Q):fh C n0 (.block id a) ρ σ Q t=fh C n0 a ρ σ (lO id Q) .mk:=rfl
theorem Do(id:Nat)(t:Tag Q):fh C n0 (.exit id) ρ σ Q t=Q (.exit id) ρ σ:=rfl
theorem Gd(t:Tag Q):fh C n0 .ret ρ σ Q t=Q .ret ρ σ:=rfl
theorem rh(next:am→List (List V)→Prop):andThen next Q .normal ρ σ=next ρ σ:=rfl
theorem yd(next:am→List (List V)→Prop):andThen next Q .ret ρ σ=Q .ret ρ σ:=rfl
theorem vE(next:am→List (List V)→Prop)(i:Nat):andThen next Q (.exit i) ρ σ=Q (.exit i) ρ σ:=rfl
theorem sy(next:am→List (List V)→Prop)(v:V):andThen next Q (.panic v) ρ σ=Q (.panic v) ρ σ:=rfl
theorem tq(id:Nat):lO id Q .normal ρ σ=Q .normal ρ σ:=rfl
theorem B5(id:Nat):lO id Q .ret ρ σ=Q .ret ρ σ:=rfl
theorem yj(id j:Nat):lO id Q (.exit j) ρ σ=if j=id then Q .normal ρ σ else Q (.exit j) ρ σ:=rfl
theorem xN(id:Nat)(v:V):lO id Q (.panic v) ρ σ=Q (.panic v) ρ σ:=rfl
theorem dA{Q':dy}(hq:∀e ρ σ,Q e ρ σ→Q' e ρ σ):∀{l:List O} {ρ:am} {σ:List (List V)},cl C l ρ σ Q→cl C l ρ σ Q'
 | [],ρ,σ,h=>hq _ _ _ h
 | o::r,ρ,σ,h=>by
  have step:∀{ρ:am} {K K':am→List (List V)→Prop},(∀ρ σ,K ρ σ→K' ρ σ)→cY C o.op o.dst ρ σ K Q→cY C o.op o.dst ρ σ K' Q':=by
   intro ρ K K' hk hr
   have hout:∀(o':Out) (σ':List (List V)),(match o' with | .ret v=>K (putd ρ o.dst v) σ' | .panic v=>Q (.panic v) ρ σ')→(match o' with | .ret v=>K' (putd ρ o.dst v) σ' | .panic v=>Q' (.panic v) ρ σ'):=by
    intro o' σ' hh;cases o' with
    | ret v=>exact hk _ _ hh
    | panic v=>exact hq _ _ _ hh
   generalize o.op=op at hr ⊢;unfold cY at hr ⊢;cases op<;>(try simp only at hr ⊢)
   case call f args=>exact hr.mono hout
   case callv x args=>generalize ev C ρ x=z at hr ⊢;cases z<;>(try simp only at hr ⊢)<;>first|exact hr.elim|exact hr.mono hout
   case calln f args=>exact hr.mono hout
   case callm x args t=>
    generalize ev C ρ x=z at hr ⊢;generalize get ρ t=z' at hr ⊢;split at hr;case h_2=>exact hr.elim
    refine hr.mono fun o' σ' hh=>?_;cases o' with
    | ret v=>exact hk _ _ hh
    | panic v=>exact hq _ _ _ hh
   case callo f t args=>
    generalize get ρ t=z' at hr ⊢;split at hr;case h_2=>exact hr.elim
    refine hr.mono fun o' σ' hh=>?_;cases o' with
    | ret v=>exact hk _ _ hh
    | panic v=>exact hq _ _ _ hh
   case new T cs=>exact hk _ _ hr
   case box T x=>exact⟨hr.1,hk _ _ hr.2⟩
   case sto k x y=>
    generalize ev C ρ x=z at hr ⊢;cases z<;>(try simp only at hr ⊢)<;>first|exact hr.elim|skip
    rename_i i off;generalize σ[i]? = z at hr ⊢;cases z<;>(try simp only at hr ⊢)<;>first|exact hr.elim|exact⟨hr.1,hk _ _ hr.2⟩
   case stoo x t=>
    generalize ev C ρ x=z at hr ⊢;cases z<;>(try simp only at hr ⊢)<;>first|exact hr.elim|skip
    rename_i i off;generalize get ρ t=z at hr ⊢;cases z<;>(try simp only at hr ⊢)<;>first|exact hr.elim|skip
    generalize σ[i]? = z at hr ⊢;cases z<;>(try simp only at hr ⊢)<;>first|exact hr.elim|exact⟨hr.1,hk _ _ hr.2⟩
   case ldo x=>
    generalize ev C ρ x=z at hr ⊢;cases z<;>(try simp only at hr ⊢)<;>first|exact hr.elim|skip
    rename_i i off;generalize σ[i]? = z at hr ⊢;cases z<;>(try simp only at hr ⊢)<;>first|exact hr.elim|skip
    rename_i cs;generalize cs[off]? = z at hr ⊢;cases z<;>(try simp only at hr ⊢)<;>first|exact hr.elim|skip
    rename_i v;cases v<;>(try simp only at hr ⊢)<;>first|exact hr.elim|exact hk _ _ hr
   case mvo t=>generalize get ρ t=z at hr ⊢;cases z<;>(try simp only at hr ⊢)<;>first|exact hr.elim|exact hk _ _ hr
   case nilo T k=>exact hk _ _ hr
   case app T k b t y=>
    generalize get ρ t=z at hr ⊢;cases z<;>(try simp only at hr ⊢)<;>first|exact hr.elim|skip
    generalize dN (ev C ρ y)=z at hr ⊢;cases z<;>(try simp only at hr ⊢)<;>first|exact hr.elim|exact⟨hr.1,hk _ _ hr.2⟩
   case mks T k xs=>generalize ac (xs.map (ev C ρ))=z at hr ⊢;cases z<;>(try simp only at hr ⊢)<;>first|exact hr.elim|exact⟨hr.1,hk _ _ hr.2⟩
   case mkso T k xs=>generalize ac (xs.map (ev C ρ))=z at hr ⊢;cases z<;>(try simp only at hr ⊢)<;>first|exact hr.elim|exact⟨hr.1,hk _ _ hr.2⟩
   case mkc T k bytes x=>
    generalize ev C ρ x=z at hr ⊢;cases z<;>(try simp only at hr ⊢)<;>first|exact hr.elim|skip
    rename_i z;cases z<;>(try simp only at hr ⊢)<;>first|exact hr.elim|skip
    rename_i z;cases z<;>(try simp only at hr ⊢)<;>first|exact hr.elim|exact⟨hr.1,hk _ _ hr.2⟩
   case mkb T bytes q x=>
    generalize ev C ρ x=z at hr ⊢;cases z<;>(try simp only at hr ⊢)<;>first|exact hr.elim|skip
    rename_i z;cases z<;>(try simp only at hr ⊢)<;>first|exact hr.elim|skip
    rename_i z;cases z<;>(try simp only at hr ⊢)<;>first|exact hr.elim|exact⟨hr.1,hk _ _ hr.2⟩
   case pan x=>generalize ev C ρ x=z at hr ⊢;cases z<;>(try simp only at hr ⊢)<;>first|exact hr.elim|exact hq _ _ _ hr
   case mmk st=>exact hk _ _ hr
   case mkv T xs=>generalize fT (xs.map (ev C ρ))=z at hr ⊢;cases z<;>(try simp only at hr ⊢)<;>first|exact hr.elim|exact hk _ _ hr
   case appv T bytes z t y=>
    generalize j7 σ (ev C ρ y)=q at hr ⊢;cases q<;>(try simp only at hr ⊢)<;>first|exact hr.elim|exact⟨hr.1,sU (fun v σ' hh=>hk _ _ hh) hr.2⟩
   case mst st x k v=>
    generalize eo st σ (ev C ρ x)=z at hr ⊢;cases z<;>(try simp only at hr ⊢)<;>first|exact hr.elim|skip
    generalize gX st (ev C ρ k)=z at hr ⊢;cases z<;>(try simp only at hr ⊢)<;>first|exact hr.elim|exact hk _ _ hr
   case mdl st x k=>
    generalize eo st σ (ev C ρ x)=z at hr ⊢;cases z<;>(try simp only at hr ⊢)<;>first|exact hr.elim|skip
    generalize gX st (ev C ρ k)=z at hr ⊢;cases z<;>(try simp only at hr ⊢)<;>first|exact hr.elim|exact hk _ _ hr
   case clr z x=>
    generalize ev C ρ x=v at hr ⊢;by_cases he:pM v=true
    ·rw[if_pos he]at hr ⊢;exact hk _ _ hr
    ·rw[if_neg he]at hr ⊢;generalize asB v=q at hr ⊢;cases q with
     | none=>exact hr.elim
     | some q=>
      obtain⟨i,off,n⟩:=q;simp only at hr ⊢;generalize σ[i]? = z at hr ⊢;cases z<;>(try simp only at hr ⊢)<;>first|exact hr.elim|exact⟨hr.1,hk _ _ hr.2⟩
   case cpy x y=>
    generalize asB (ev C ρ x)=q at hr ⊢;cases q with
    | none=>exact hr.elim
    | some q=>
     obtain⟨i,off,n⟩:=q;simp only at hr ⊢;generalize j7 σ (ev C ρ y)=z2 at hr ⊢;generalize σ[i]? = z at hr ⊢;cases z<;>cases z2<;>(try simp only at hr ⊢)<;>first|exact hr.elim|exact⟨hr.1,hk _ _ hr.2⟩
   all_goals ((try unfold tyT at hr ⊢);split at hr<;>first|exact hk _ _ hr|exact hr.elim)
  simp only[cl]at h ⊢;cases hg:o.g with
  | none=>rw[hg]at h;exact step (fun _ _ hh=>dA hq hh) h
  | some p=>
   obtain⟨t,want⟩:=p;rw[hg]at h;simp only at h ⊢;split at h
   ·rename_i b hb;exact⟨fun e=>step (fun _ _ hh=>dA hq hh) (h.1 e),fun e=>dA hq (h.2 e)⟩
   ·rename_i hb;exact dA hq h
   ·exact h.elim
theorem nJ{op:OP}{k k':V→Prop}(hk:∀v,k v→k' v)(h:bz C op ρ σ k):bz C op ρ σ k':=by
 obtain⟨v,h1,h2⟩:=gj h;unfold bz at h1 ⊢;split at h1
 ·obtain⟨u,g1,g2⟩:=h1;subst g2;exact⟨u,g1,hk _ h2⟩
 ·split at h1
  ·obtain⟨u,g1,g2⟩:=h1;subst g2;exact⟨u,g1,hk _ h2⟩
  ·exact h1.elim
 ·split at h1
  ·exact⟨h1.1,hk _ (h1.2▸h2)⟩
  ·exact h1.elim
 ·obtain⟨u,g1,g2⟩:=h1;subst g2;exact⟨u,g1,hk _ h2⟩
 ·split at h1
  ·subst h1;exact hk _ h2
  ·exact h1.elim
theorem cI{K K':am→Prop}(hk:∀ρ,K ρ→K' ρ):∀{l:List O} {ρ:am},aU C l ρ σ K→aU C l ρ σ K'
 | [],ρ,h=>hk _ h
 | o::r,ρ,h=>by
  simp only[aU]at h ⊢;cases hg:o.g with
  | none=>rw[hg]at h;exact nJ (fun _ hh=>cI hk hh) h
  | some p=>
   obtain⟨t,want⟩:=p;rw[hg]at h;simp only at h ⊢;split at h
   ·rename_i b hb;exact⟨fun e=>nJ (fun _ hh=>cI hk hh) (h.1 e),fun e=>cI hk (h.2 e)⟩
   ·rename_i hb;exact cI hk h
   ·exact h.elim
theorem fB{K K':am→List (List V)→Prop}{P P':V→List (List V)→Prop}(hk:∀ρ r,K ρ r→K' ρ r)(hp:∀u r,P u r→P' u r):∀{l:List (O×GK)} {m:Nat} {h:List (List (List V))} {p:List PendG} {ρ:am} {σ:List (List V)},dS C P K l m h p ρ σ→dS C P' K' l m h p ρ σ
 | [],_,_,_,_,_,hg=>hk _ _ hg
 | (o,.free _)::r,_,_,_,_,_,hg=>by
  simp only[dS]at hg ⊢;exact cI (fun ρ' hh=>fB hk hp hh) hg
 | (o,.calm _ _)::r,_,_,_,_,_,hg=>by
  simp only[dS]at hg ⊢;exact cI (fun ρ' hh=>⟨hh.1,fB hk hp hh.2⟩) hg
 | (o,.slot _)::r,_,_,_,_,_,hg=>by
  simp only[dS]at hg ⊢;exact dA (fun e ρ' σ' hh=>⟨hh.1,fB hk hp hh.2⟩) hg
 | (⟨d,op,g⟩,.act)::r,m,h,p,ρ,σ,hg=>by
  have call:∀{f:FuncId} {vs:List V},((∃v σ1,Fun C f vs σ (fun o σ'=>o=.ret v∧σ'=σ1)∧reG C (m+1) σ1 p∧dS C P K r (m+1) (σ::h) p (putd ρ d v) σ1)∨(Fun C f vs σ (fun o σ'=>∃u,o=.panic u∧P u σ')∧dP C r m h (putd ρ d .junk) σ))→
   ((∃v σ1,Fun C f vs σ (fun o σ'=>o=.ret v∧σ'=σ1)∧reG C (m+1) σ1 p∧dS C P' K' r (m+1) (σ::h) p (putd ρ d v) σ1)∨(Fun C f vs σ (fun o σ'=>∃u,o=.panic u∧P' u σ')∧dP C r m h (putd ρ d .junk) σ)):=fun{f vs} hh=>by
   rcases hh with⟨v,σ1,h1,h2,h3⟩|⟨h1,h2⟩
   ·exact .inl ⟨v,σ1,h1,h2,fB hk hp h3⟩
   ·exact .inr ⟨h1.mono fun o σ' ⟨u,e1,e2⟩=>⟨u,e1,hp _ _ e2⟩,h2⟩
  cases op;case call f args=>simp only[dS]at hg ⊢;exact call hg
  case callv x args=>
   simp only[dS]at hg ⊢;obtain⟨f,cap,e,hh⟩:=hg;exact⟨f,cap,e,call hh⟩
  all_goals
   simp only[dS]at hg ⊢;exact dA (fun e ρ' σ' hh=>⟨hh.1,hh.2.1,fB hk hp hh.2.2⟩) hg
theorem kJ:∀{c:Cd} {ρ:am} {σ:List (List V)} {Q Q':dy},(∀e ρ σ,Q e ρ σ→Q' e ρ σ)→awp C n0 c ρ σ Q→awp C n0 c ρ σ Q':=by
 intro c
 induction c with
 | skip=>exact fun hq h=>hq _ _ _ h
 | ops l keep=>exact fun hq h=>dA (fun e ρ σ=>hq e _ σ) h
 | raw l es keep=>exact fun hq h pr M0 bm0 w0 id ops n M bm tk a w h1 h2 h3 h4 h5 h6=>wp_mono (h pr M0 bm0 w0 id ops n M bm tk a w h1 h2 h3 h4 h5 h6) (fun e a w hL=>hL.imp fun x ρ σ=>hq x _ σ)
 | draw l keep=>exact fun hq h=>cI (fun ρ=>hq _ _ _) h
 | drawg l keep=>
  intro ρ σ Q Q' hq h;exact fB (fun ρ σ hh=>hq _ _ _ hh) (fun u σ hh ρ'=>hq _ _ _ (hh ρ')) h
 | drawb s d0 d1 T k bytes y l keep=>
  intro ρ σ Q Q' hq h;simp only[awp,uR]at h ⊢;split at h
  ·refine⟨h.1,h.2.1,cI (fun ρ' hh=>?_) h.2.2⟩;split at hh
   ·exact⟨hh.1,hq _ _ _ hh.2⟩
   ·exact hh.elim
  ·exact h.elim
 | seq a b iha ihb=>
  exact fun hq h=>iha (fun e ρ σ hh=>by
   cases e with
   | normal=>exact ihb hq hh
   | ret=>exact hq _ _ _ hh
   | exit i=>exact hq _ _ _ hh
   | panic v=>exact hq _ _ _ hh) h
 | cond x a b iha ihb=>
  intro ρ σ Q Q' hq h;simp only[awp]at h ⊢;generalize ev C ρ x=z at h ⊢;cases z<;>(try simp only at h ⊢)<;>first|exact h.elim|skip
  rename_i x;cases x<;>(try simp only at h ⊢)<;>first|exact h.elim|skip
  rename_i v;cases v<;>(try simp only at h ⊢)<;>first|exact h.elim|skip
  exact⟨fun e=>iha hq (h.1 e),fun e=>ihb hq (h.2 e)⟩
 | block id a ih=>
  exact fun hq h=>ih (fun e ρ σ hh=>by
   cases e with
   | normal=>exact hq _ _ _ hh
   | ret=>exact hq _ _ _ hh
   | exit i=>
    simp only[lO]at hh ⊢;split
    ·rename_i e;rw[if_pos e]at hh;exact hq _ _ _ hh
    ·rename_i e;rw[if_neg e]at hh;exact hq _ _ _ hh
   | panic v=>exact hq _ _ _ hh) h
 | loop a ih=>
  intro ρ σ Q Q' hq h;obtain⟨ρ1,σ1,h0,I,h1,h2⟩:=h
  exact⟨ρ1,σ1,h0,I,h1,fun m ρ' σ' hI=>ih (fun e ρ σ hh=>by
   cases e with
   | normal=>exact hh
   | ret=>exact hq _ _ _ hh
   | exit i=>exact hq _ _ _ hh
   | panic v=>exact hq _ _ _ hh) (h2 m ρ' σ' hI)⟩
 | exit id=>exact fun hq h=>hq _ _ _ h
 | ret=>exact fun hq h=>hq _ _ _ h
theorem oC{a:Cd}(I:Nat→am→List (List V)→Prop)(m:Nat){ρ1:am}{σ1:List (List V)}(hu:dj n0 ρ σ ρ1 σ1)(h0:I m ρ1 σ1)
 (h:∀m ρ' σ',I m ρ' σ'→awp C n0 a ρ' σ' (andThen (fun ρ'' σ''=>∃m',m'<m∧∃ρ3 σ3,dj n0 ρ'' σ'' ρ3 σ3∧I m' ρ3 σ3) Q)):awp C n0 (.loop a) ρ σ Q:=
 ⟨ρ1,σ1,hu,I,⟨m,h0⟩,h⟩
theorem lS{R R':am→List (List V)→Prop}{Q:dy}(h:∀ρ σ,R ρ σ→R' ρ σ):∀e ρ σ,andThen R Q e ρ σ→andThen R' Q e ρ σ:=fun e ρ σ hh=>by
 cases e with
 | normal=>exact h _ _ hh
 | ret=>exact hh
 | exit i=>exact hh
 | panic v=>exact hh
theorem Ap{a:Cd}(I:Nat→am→List (List V)→Prop)(m:Nat){σ1:List (List V)}(hu:Up σ σ1)(h0:I m ρ σ1)
 (h:∀m ρ' σ',I m ρ' σ'→awp C n0 a ρ' σ' (andThen (fun ρ'' σ''=>∃m',m'<m∧∃k,n0≤k∧aB k (σ''.take k)=true∧ax k ρ''=true∧I m' ρ'' (σ''.take k)) Q)):awp C n0 (.loop a) ρ σ Q:=
 oC I m (dj.up n0 ρ hu) h0 fun m ρ' σ' hI=>kJ (lS fun ρ'' σ'' ⟨m',h1,k,h2,h3,h4,h5⟩=>⟨m',h1,ρ'',σ''.take k,.cut h2 h3 h4,h5⟩) (h m ρ' σ' hI)
theorem xG{a:Cd}(ks:List Nat)(I:Nat→am→List (List V)→Prop)(m:Nat){σ1:List (List V)}(hu:Up σ σ1)(h0:I m (aP ks ρ) σ1)
 (h:∀m ρ' σ',I m ρ' σ'→awp C n0 a ρ' σ' (andThen (fun ρ'' σ''=>∃m',m'<m∧∃k,n0≤k∧aB k (σ''.take k)=true∧ax k (aP ks ρ'')=true∧I m' (aP ks ρ'') (σ''.take k)) Q)):awp C n0 (.loop a) ρ σ Q:=
 oC I m ((dj.keep n0 ks ρ σ).trans (dj.up n0 _ hu)) h0 fun m ρ' σ' hI=>kJ (lS fun ρ'' σ'' ⟨m',h1,k,h2,h3,h4,h5⟩=>⟨m',h1,_,σ''.take k,(dj.keep n0 ks ρ'' σ'').trans (.cut h2 h3 h4),h5⟩) (h m ρ' σ' hI)
end
mutual
theorem V.under_mono{k j:Nat}(hj:k≤j):∀v:V,V.under k v=true→V.under j v=true
 | .agg cs,h=>by simp only[V.under]at h ⊢;exact V.unders_mono hj cs h
 | .tup cs,h=>by simp only[V.under]at h ⊢;exact V.unders_mono hj cs h
 | .fn _ cs,h=>by simp only[V.under]at h ⊢;exact V.unders_mono hj cs h
 | .bnd _ cs,h=>by simp only[V.under]at h ⊢;exact V.unders_mono hj cs h
 | .iface _ v,h=>by simp only[V.under]at h ⊢;exact V.under_mono hj v h
 | .ptr i o,h=>by simp only[V.under,decide_eq_true_eq]at h ⊢;omega
 | .bsl i o n m,h=>by simp only[V.under,decide_eq_true_eq]at h ⊢;omega
 | .mp i,h=>by simp only[V.under,decide_eq_true_eq]at h ⊢;omega
 | .bsc i n c,h=>by simp only[V.under,decide_eq_true_eq]at h ⊢;omega
 | .mapc _ kv,h=>by simp only[V.under]at h ⊢;exact V.underkv_mono hj kv h
 | .d _,_=>rfl
 | .own _ _ _,_=>rfl
 | .nil,_=>rfl
 | .row _ _,_=>rfl
 | .junk,_=>rfl
theorem V.unders_mono{k j:Nat}(hj:k≤j):∀cs:List V,V.unders k cs=true→V.unders j cs=true
 | [],_=>rfl
 | x::r,h=>by
  simp only[V.unders,Bool.and_eq_true]at h ⊢;exact⟨V.under_mono hj x h.1,V.unders_mono hj r h.2⟩
theorem V.underkv_mono{k j:Nat}(hj:k≤j):∀kv:List (Key×V),V.underkv k kv=true→V.underkv j kv=true
 | [],_=>rfl
 | (q,x)::r,h=>by
  simp only[V.underkv,V.underp,Bool.and_eq_true]at h ⊢;exact⟨V.under_mono hj x h.1,V.underkv_mono hj r h.2⟩
end
theorem lV{σ:List (List V)}{k j:Nat}(h:aB k σ=true)(hj:k≤j):aB j σ=true:=by
 unfold aB at *;rw[List.all_eq_true]at h ⊢;exact fun cs hcs=>V.unders_mono hj cs (h cs hcs)
theorem aQ{σ l:List (List V)}(h:aB σ.length σ=true)(hl:l.all (fun cs=>V.unders (σ++l).length cs)=true):aB (σ++l).length (σ++l)=true:=by
 have:=lV h (j:=(σ++l).length) (by simp);unfold aB at *;rw[List.all_append,this,hl];rfl
theorem aj{σ σ':List (List V)}{ρ:am}{rs:List RV}{Q:Out→List (List V)→Prop}(hb:aB σ.length σ=true){v:V}(h:nZ σ' ρ rs=some v)(hv:V.under σ.length v=true)(hσ:σ'.take σ.length=σ)(hq:Q (.ret v) σ):fin σ.length rs Q .ret ρ σ':=
 ⟨ρ,σ',.refl _ _ _,v,h,σ.length,Nat.le_refl _,by rw[hσ];exact hb,hv,by rw[hσ];exact hq⟩
def Nxt(n0:Nat)(R:am→List (List V)→Prop)(ρ:am)(σ:List (List V))(_:Tag R):Prop:=∃k,n0≤k∧aB k (σ.take k)=true∧ax k ρ=true∧R ρ (σ.take k)
theorem Nxt.same{n0:Nat}{R:am→List (List V)→Prop}{ρ:am}{σ:List (List V)}(hn:n0≤σ.length)(hb:aB σ.length σ=true)(hs:ax σ.length ρ=true)(hR:R ρ σ):Nxt n0 R ρ σ .mk:=
 ⟨σ.length,hn,by rw[List.take_length];exact hb,hs,by rw[List.take_length];exact hR⟩
theorem Nxt.drop{n0:Nat}{R:am→List (List V)→Prop}{ρ:am}{σ l:List (List V)}(hn:n0≤σ.length)(hb:aB σ.length σ=true)(hs:ax σ.length ρ=true)(hR:R ρ σ):Nxt n0 R ρ (σ++l) .mk:=
 ⟨σ.length,hn,by rw[List.take_left];exact hb,hs,by rw[List.take_left];exact hR⟩
theorem xV{C:Cx}{n0:Nat}{ρ:am}{σ:List (List V)}{Q:dy}{a:Cd}(R:Nat→am→List (List V)→Prop)(n:Nat){σ1:List (List V)}(hu:Up σ σ1)(h0:R 0 ρ σ1)
 (h:∀j ρ' σ',j≤n→R j ρ' σ'→fh C n0 a ρ' σ' (andThen (fun ρ'' σ''=>j<n∧Nxt n0 (R (j+1)) ρ'' σ'' .mk) Q) .mk)(t:Tag Q):fh C n0 (.loop a) ρ σ Q t:=
 Ap (fun m ρ σ=>∃j,j≤n∧m=n-j∧R j ρ σ) n hu ⟨0,by omega,by omega,h0⟩ fun m ρ' σ' ⟨j,hj,hm,hR⟩=>by
  have hi:∀e ρ'' σ'',andThen (fun ρ'' σ''=>j<n∧Nxt n0 (R (j+1)) ρ'' σ'' .mk) Q e ρ'' σ''→andThen (fun ρ'' σ''=>∃m',m'<m∧∃k,n0≤k∧aB k (σ''.take k)=true∧ax k ρ''=true∧∃j,j≤n∧m'=n-j∧R j ρ'' (σ''.take k)) Q e ρ'' σ'':=by
   intro e ρ'' σ'' h;cases e with
   | normal=>
    obtain⟨h1,k,h2,h3,h4,h5⟩:=h;exact⟨n-(j+1),by omega,k,h2,h3,h4,j+1,by omega,rfl,h5⟩
   | ret=>exact h
   | exit i=>exact h
   | panic v=>exact h
  exact kJ hi (h j ρ' σ' hj hR)
theorem xA{C:Cx}{n0:Nat}{ρ:am}{σ:List (List V)}{Q:dy}{a:Cd}(ks:List Nat)(R:Nat→am→List (List V)→Prop)(n:Nat){σ1:List (List V)}(hu:Up σ σ1)(h0:R 0 (aP ks ρ) σ1)
 (h:∀j ρ' σ',j≤n→R j ρ' σ'→fh C n0 a ρ' σ' (andThen (fun ρ'' σ''=>j<n∧Nxt n0 (R (j+1)) (aP ks ρ'') σ'' .mk) Q) .mk)(t:Tag Q):fh C n0 (.loop a) ρ σ Q t:=
 xG ks (fun m ρ σ=>∃j,j≤n∧m=n-j∧R j ρ σ) n hu ⟨0,by omega,by omega,h0⟩ fun m ρ' σ' ⟨j,hj,hm,hR⟩=>by
  have hi:∀e ρ'' σ'',andThen (fun ρ'' σ''=>j<n∧Nxt n0 (R (j+1)) (aP ks ρ'') σ'' .mk) Q e ρ'' σ''→andThen (fun ρ'' σ''=>∃m',m'<m∧∃k,n0≤k∧aB k (σ''.take k)=true∧ax k (aP ks ρ'')=true∧∃j,j≤n∧m'=n-j∧R j (aP ks ρ'') (σ''.take k)) Q e ρ'' σ'':=by
   intro e ρ'' σ'' h;cases e with
   | normal=>
    obtain⟨h1,k,h2,h3,h4,h5⟩:=h;exact⟨n-(j+1),by omega,k,h2,h3,h4,j+1,by omega,rfl,h5⟩
   | ret=>exact h
   | exit i=>exact h
   | panic v=>exact h
  exact kJ hi (h j ρ' σ' hj hR)
theorem aS{C:Cx}{n0:Nat}{ρ:am}{σ:List (List V)}{Q:dy}{a:Cd}(ks:List Nat)(R:Nat→am→List (List V)→Prop)(n:Nat)(h0:R 0 (aP ks ρ) σ)
 (h:∀j ρ' σ',j≤n→R j ρ' σ'→fh C n0 a ρ' σ' (andThen (fun ρ'' σ''=>j<n∧Nxt n0 (R (j+1)) (aP ks ρ'') σ'' .mk) Q) .mk)(t:Tag Q):fh C n0 (.loop a) ρ σ Q t:=xA ks R n (.refl σ) h0 h t
theorem mr{C:Cx}{n0:Nat}{ρ:am}{σ:List (List V)}{Q:dy}{a:Cd}(R:Nat→am→List (List V)→Prop)(n:Nat)(h0:R 0 ρ σ)
 (h:∀j ρ' σ',j≤n→R j ρ' σ'→fh C n0 a ρ' σ' (andThen (fun ρ'' σ''=>j<n∧Nxt n0 (R (j+1)) ρ'' σ'' .mk) Q) .mk)(t:Tag Q):fh C n0 (.loop a) ρ σ Q t:=xV R n (.refl σ) h0 h t
def aZ(v:V)(σ:List (List V)):Out→List (List V)→Prop:=fun o σ'=>o=.ret v∧σ'=σ
theorem aq{C:Cx}{f:FuncId}{args:List V}{σ:List (List V)}{v:V}{K P:V→List (List V)→Prop}{s:Tag K}{t:Tag P}(h:Fun C f args σ (aZ v σ))(hk:K v σ):sT C f args σ K P s t:=
 h.mono fun o σ' ⟨e1,e2⟩=>by subst e1;subst e2;exact hk
theorem aK{C:Cx}{f:FuncId}{args:List V}{σ:List (List V)}{v:V}{k:V→Prop}{t:Tag k}(h:Fun C f args σ (aZ v σ))(hk:k v):ue C f args σ k t:=⟨v,h,hk⟩
theorem fK{C:Cx}{f:FuncId}{args:List V}{σ:List (List V)}{K P:V→List (List V)→Prop}{s:Tag K}{t:Tag P}{Q:Out→List (List V)→Prop}(h:Fun C f args σ Q)(hk:∀o σ',Q o σ'→BJ K P o σ'):sT C f args σ K P s t:=h.mono hk
theorem ay{C:Cx}{f:FuncId}{fn:Func}{c:Cd}{rs:List RV}{args:List V}{σ:List (List V)}{Q:Out→List (List V)→Prop}(hf:C.P.funcs[f]? = some fn)(hok:bj C.tab fn args.length c rs=true)(hno:args.all (! ·.isOwn)=true)
 (h:aB σ.length σ=true→(∀i (h:i<args.length),V.Wf args[i])→fh C σ.length c (ah 0 args) σ (fin σ.length rs Q) .mk):Fun C f args σ Q:=wo hf hok hno h
section
variable {σ : List (List V)}
theorem CD(rows:List (List D)):nU false (.d (.sl rows))=some (aI .i64 rows.length):=rfl
theorem uW(T k:Nat)(rows:List (List D)):nU false (.own T k rows)=some (aI .i64 rows.length):=rfl
theorem vJ:nU false .nil=some (aI .i64 0):=rfl
theorem uX(s:ByteArray):nU true (.d (.lit (.string s)))=some (aI .i64 s.size):=rfl
theorem Bf(rows:List (List D)):dN (.d (.sl rows))=some rows:=rfl
theorem tJ(T k:Nat)(rows:List (List D)):dN (.own T k rows)=some rows:=rfl
theorem tU:dN .nil=some []:=rfl
theorem Ga(k:IntKind)(a b:Int):bg .add (.d (.lit (.int k a))) (.d (.lit (.int k b)))=some (aI k (k.wrap (a+b))):=by simp[bg,ct,jE]
theorem Fd(k:IntKind)(a b:Int):bg .sub (.d (.lit (.int k a))) (.d (.lit (.int k b)))=some (aI k (k.wrap (a-b))):=by simp[bg,ct,jE]
theorem EY(k:IntKind)(a b:Int):bg .mul (.d (.lit (.int k a))) (.d (.lit (.int k b)))=some (aI k (k.wrap (a*b))):=by simp[bg,ct,jE]
theorem Gs(k:IntKind)(a b:Int):bg .quo (.d (.lit (.int k a))) (.d (.lit (.int k b)))=if b=0 then none else some (aI k (k.wrap (a.tdiv b))):=by simp[bg,ct,jE]
theorem FI(k:IntKind)(a b:Int):bg .rem (.d (.lit (.int k a))) (.d (.lit (.int k b)))=if b=0 then none else some (aI k (a.tmod b)):=by simp[bg,ct,jE]
theorem Dn(k:IntKind)(a b:Int):bg .and (.d (.lit (.int k a))) (.d (.lit (.int k b)))=some (aI k (k.wrap (BitVec.ofInt k.bits a &&& BitVec.ofInt k.bits b).toNat)):=by simp only[bg,ct,Bool.false_eq_true,if_false,if_true,jE]
theorem Fz(k:IntKind)(a b:Int):bg .or (.d (.lit (.int k a))) (.d (.lit (.int k b)))=some (aI k (k.wrap (BitVec.ofInt k.bits a ||| BitVec.ofInt k.bits b).toNat)):=by simp only[bg,ct,Bool.false_eq_true,if_false,if_true,jE]
theorem DJ(k:IntKind)(a b:Int):bg .xor (.d (.lit (.int k a))) (.d (.lit (.int k b)))=some (aI k (k.wrap (BitVec.ofInt k.bits a ^^^ BitVec.ofInt k.bits b).toNat)):=by simp only[bg,ct,Bool.false_eq_true,if_false,if_true,jE]
theorem EV(k:IntKind)(a b:Int):bg .eql (.d (.lit (.int k a))) (.d (.lit (.int k b)))=some (aA (decide (a=b))):=by simp[bg,ct,jE];rfl
theorem Fc(k:IntKind)(a b:Int):bg .neq (.d (.lit (.int k a))) (.d (.lit (.int k b)))=some (aA (!decide (a=b))):=by simp[bg,ct,jE];rfl
theorem Gy(k:IntKind)(a b:Int):bg .lss (.d (.lit (.int k a))) (.d (.lit (.int k b)))=some (aA (decide (a<b))):=by simp[bg,ct,jE]
theorem Fb(k:IntKind)(a b:Int):bg .leq (.d (.lit (.int k a))) (.d (.lit (.int k b)))=some (aA (decide (a≤b))):=by simp[bg,ct,jE]
theorem GI(k:IntKind)(a b:Int):bg .gtr (.d (.lit (.int k a))) (.d (.lit (.int k b)))=some (aA (decide (b<a))):=by simp[bg,ct,jE]
theorem Gc(k:IntKind)(a b:Int):bg .geq (.d (.lit (.int k a))) (.d (.lit (.int k b)))=some (aA (decide (b≤a))):=by simp[bg,ct,jE]
theorem Bc(k k':IntKind)(a b:Int):bg .shl (.d (.lit (.int k a))) (.d (.lit (.int k' b)))=if b<0 then none else some (aI k (k.wrap (a*2^(min b.toNat k.bits)))):=by simp[bg,ct,uc]
theorem Fu(k k':IntKind)(a b:Int):bg .shr (.d (.lit (.int k a))) (.d (.lit (.int k' b)))=if b<0 then none else some (aI k (a.fdiv (2^(min b.toNat k.bits)))):=by simp[bg,ct,uc]
theorem r7(a b:ByteArray):(a.toList==b.toList)=decide (a=b):=by
 rw[ByteArray.toList_eq,ByteArray.toList_eq,Bool.eq_iff_iff];simp only[beq_iff_eq,decide_eq_true_eq];constructor
 ·intro h;cases a;cases b;simp only[ByteArray.mk.injEq];exact Array.toList_inj.1 h
 ·intro h;rw[h]
theorem El(a b:ByteArray):bg .eql (.d (.lit (.string a))) (.d (.lit (.string b)))=some (aA (decide (a=b))):=by simp only[bg,BU,r7]
theorem DN(a b:ByteArray):bg .neq (.d (.lit (.string a))) (.d (.lit (.string b)))=some (aA (!decide (a=b))):=by simp only[bg,BU,r7]
theorem y9(a b:ByteArray):bg .add (.d (.lit (.string a))) (.d (.lit (.string b)))=if a.size+b.size≤9223372036854775807 then some (rT (a++b))else none:=rfl
theorem DF(a b:ByteArray):bg .lss (.d (.lit (.string a))) (.d (.lit (.string b)))=some (aA (Op.bytesLess a.toList b.toList)):=rfl
theorem FW(neq:Bool)(ks:List Kd)(a b:List V):jO neq ks (.agg a) (.agg b)=(cy ks a b).map fun r=>aA (bif neq then !r else r):=by
 unfold jO;simp only;cases cy ks a b<;>rfl
theorem GD:cy [] [] []=some true:=rfl
theorem FP(k:IntKind)(ks:List Kd)(a b:Int)(r s:List V):cy (.i k::ks) (.d (.lit (.int k a))::r) (.d (.lit (.int k b))::s)=(cy ks r s).map fun z=>decide (a=b)&&z:=by
 simp only[cy,kN,and_self,if_true];cases cy ks r s<;>rfl
theorem Ff(ks:List Kd)(a b:ByteArray)(r s:List V):cy (.s::ks) (.d (.lit (.string a))::r) (.d (.lit (.string b))::s)=(cy ks r s).map fun z=>decide (a=b)&&z:=by
 simp only[cy,kN];cases cy ks r s<;>rfl
theorem D1(ks:List Kd)(a b:Bool)(r s:List V):cy (.b::ks) (.d (.lit (.bool a))::r) (.d (.lit (.bool b))::s)=(cy ks r s).map fun z=>(a==b)&&z:=by
 simp only[cy,kN];cases cy ks r s<;>rfl
theorem xm(neq:Bool):AL neq (.d (.lit .nilIface))=some (aA (!neq)):=rfl
theorem A7(neq:Bool)(t:TypeId)(x:V):AL neq (.iface t x)=some (aA neq):=rfl
theorem vV(neq:Bool):yu neq (.d (.lit (.pointer none)))=some (aA (!neq)):=rfl
theorem uY(neq:Bool)(i o:Nat):yu neq (.ptr i o)=some (aA neq):=rfl
theorem EK(f:FuncId)(cs:List V):V.copy (.bnd f cs)=.bnd f cs:=rfl
theorem DL(f:FuncId)(cs:List V):V.lend (.bnd f cs)=.bnd f cs:=rfl
theorem EA(a b:Bool):og .eql (.d (.lit (.bool a))) (.d (.lit (.bool b)))=some (aA (a==b)):=rfl
theorem DO(a b:Bool):og .neq (.d (.lit (.bool a))) (.d (.lit (.bool b)))=some (aA (!(a==b))):=rfl
theorem F0(b:Bool):unV .not (.d (.lit (.bool b)))=some (aA (!b)):=rfl
theorem EW(k:IntKind)(n:Int):unV .neg (.d (.lit (.int k n)))=some (aI k (k.wrap (0-n))):=rfl
theorem DG(c a b:Bool):i8 (.d (.lit (.bool c))) (.d (.lit (.bool a))) (.d (.lit (.bool b)))=some (aA (bif c then a else b)):=rfl
theorem xh(b:Bool):i8 (.d (.lit (.bool false))) (.tup []) (.d (.lit (.bool b)))=some (aA b):=rfl
theorem xx(a:Bool):i8 (.d (.lit (.bool true))) (.d (.lit (.bool a))) (.tup [])=some (aA a):=rfl
theorem xg(b:Bool):i8 (.d (.lit (.bool false))) .junk (.d (.lit (.bool b)))=some (aA b):=rfl
theorem xB(a:Bool):i8 (.d (.lit (.bool true))) (.d (.lit (.bool a))) .junk=some (aA a):=rfl
theorem x9(off i o:Nat):faV off (.ptr i o)=some (.ptr i (o+off)):=rfl
theorem A4(off:Nat)(cs:List D)(o:Nat):faV off (.row cs o)=some (.row cs (o+off)):=rfl
def iaK(k:Nat)(o:Option (List D)):Option V:=match o with|some r=>if r.length=k then some (.row r 0)else none|none=>none
theorem nw(k:Nat)(r:List D):iaK k (some r)=if r.length=k then some (.row r 0)else none:=rfl
theorem yV(k:Nat)(y:D)(kd:IntKind)(j:Nat):iaV k (.d y) (.d (.lit (.int kd (j:Int))))=(dN (.d y)).bind fun rows=>iaK k rows[j]? := by
 unfold iaV;cases h:dN (.d y)with
 | none=>simp only[h];rfl
 | some rows=>simp only[h,Option.bind_some,Int.toNat_natCast];rw[if_pos (by omega)];rfl
theorem Ad(k T k':Nat)(rows:List (List D))(kd:IntKind)(j:Nat):iaV k (.own T k' rows) (.d (.lit (.int kd (j:Int))))=iaK k rows[j]? := by
 unfold iaV;simp only[dN,Int.toNat_natCast];rw[if_pos (by omega)];rfl
theorem yE(k b off n:Nat)(kd:IntKind)(j:Nat):iaV k (.bsl b off n k) (.d (.lit (.int kd (j:Int))))=if j<n then some (.ptr b (off+j*k))else none:=by
 unfold iaV;simp only[Int.toNat_natCast,and_true];by_cases h:j<n
 ·rw[if_pos h,if_pos (by omega)]
 ·rw[if_neg h,if_neg (by omega)]
theorem vI(b off n k:Nat):nU false (.bsl b off n k)=some (aI .i64 n):=rfl
def ixK(o:Option UInt8):Option V:=match o with|some b=>some (aI .u8 b.toNat)|none=>none
theorem AU(b:UInt8):ixK (some b)=some (aI .u8 b.toNat):=rfl
theorem zH(s:ByteArray)(kd:IntKind)(j:Nat):ixV (.d (.lit (.string s))) (.d (.lit (.int kd (j:Int))))=ixK s.data.toList[j]? := by
 simp only[ixV,Int.toNat_natCast];rw[if_pos (by omega)];rfl
theorem BL(c:V):fN false [c]=some c.copy:=rfl
theorem CL(cs:List V):fN true cs=some (.agg (cs.map V.copy)):=rfl
theorem Gb(cs:List V)(i:Nat):sN (.tup cs) i=(cs[i]?).map V.copy:=by simp only[sN];cases cs[i]?<;>rfl
theorem En(k k':IntKind)(n:Int):ul k (.d (.lit (.int k' n)))=some (aI k (k.wrap n)):=rfl
theorem qR(i o:Nat):i7 (.ptr i o)=some (.ptr i o):=rfl
theorem qV(cs:List D)(o:Nat):i7 (.row cs o)=some (.row cs o):=rfl
theorem sI(f:FuncId)(cs:List V):i7 (.fn f cs)=some (.fn f cs):=rfl
theorem Iq(g:Bool)(k:IntKind)(a b:Int):mxV g (.d (.lit (.int k a))) (.d (.lit (.int k b)))=some (aI k (if g then max a b else min a b)):=by
 have h1:(if b>a then b else a)=max a b:=by rw[Int.max_def];split<;>split<;>omega
 have h2:(if b<a then b else a)=min a b:=by rw[Int.min_def];split<;>split<;>omega
 cases g
 ·simp only[mxV,if_true,Bool.false_eq_true,if_false,h2]
 ·simp only[mxV,if_true,h1]
theorem Ba(T t:TypeId)(z u:V):Cc T z (.iface t u)=if t=T then some (.tup [u,aA true])else some (.tup [z,aA false]):=rfl
theorem Dm(rows:List (List D))(k1 k2:IntKind)(a b:Int):uH (.d (.sl rows)) (.d (.lit (.int k1 a))) (.d (.lit (.int k2 b)))=if a=rows.length∧b=rows.length then some (.d (.sl rows))else none:=rfl
theorem vU(T:TypeId)(z:V):Cc T z (.d (.lit .nilIface))=some (.tup [z,aA false]):=rfl
theorem Ct(t:TypeId)(x:D):yZ t (.d x)=some (.iface t (.d x)):=rfl
theorem xz(t:TypeId)(cs:List V):yZ t (.agg cs)=some (.iface t (.agg (cs.map V.copy))):=rfl
theorem so(k:Nat)(ag:Bool)(cs:List D)(o:Nat):fZ σ k ag (.row cs o)=(if o+k≤cs.length then some (((cs.drop o).take k).map V.d)else none).bind (fN ag):=rfl
def ldK(k:Nat)(ag:Bool)(o:Nat)(b:Option (List V)):Option V:=match b with|some cs=>if o+k≤cs.length∧bR cs=true then fN ag ((cs.drop o).take k)else(tyL k o cs).bind (fN ag)|none=>none
theorem rM(k:Nat)(ag:Bool)(o:Nat)(cs:List V):ldK k ag o (some cs)=if o+k≤cs.length∧bR cs=true then fN ag ((cs.drop o).take k)else(tyL k o cs).bind (fN ag):=rfl
theorem mR(k:Nat)(ag:Bool)(i o:Nat):fZ σ k ag (.ptr i o)=ldK k ag o σ[i]? := by
 unfold fZ jc ldK;simp only;cases σ[i]? with
 | none=>rfl
 | some cs=>simp only;split<;>rfl
theorem yR(l:List (List V))(j:Nat):(σ++l)[σ.length+j]? = l[j]? := by rw[List.getElem?_append_right (by omega)];congr 1;omega
theorem pB(l:List (List V)):(σ++l)[σ.length]? = l[0]? := yR l 0
theorem zz(l:List (List V))(j:Nat)(x:List V):(σ++l).set (σ.length+j) x=σ++l.set j x:=by rw[List.set_append_right _ _ (by omega)];congr 2;omega
theorem Br(l:List (List V))(x:List V):(σ++l).set σ.length x=σ++l.set 0 x:=zz l 0 x
theorem bD{a:Int}(h1 : -9223372036854775808≤a)(h2:a≤9223372036854775807):IntKind.i64.wrap a=a:=by
 simp[IntKind.wrap,IntKind.bits,IntKind.signed];split<;>omega
end
theorem Ed{rows:List (List D)}(h:V.Wf (.d (.sl rows))):rows.length≤9223372036854775807:=by
 cases h with|d h=>cases h with|sl _ h _=>exact h
theorem Cq{cs:List V}(h:V.Wf (.agg cs))(i:Nat)(hi:i<cs.length):V.Wf cs[i]:=by
 cases h with|agg h=>exact h i hi
theorem aJ{j n:Nat}(h:j<n)(hn:n≤9223372036854775807):IntKind.i64.wrap ((j:Int)+1)=((j+1:Nat):Int):=by
 rw[bD (by omega) (by omega)];rfl
set_option linter.defProp false in
def aw:=And.intro (And.intro (And.intro (And.intro (And.intro (And.intro (And.intro (And.intro @DX @Ev) (And.intro @vV @uY)) (And.intro (And.intro @EK @DL) (And.intro @BQ (And.intro @AP @BG)))) (And.intro (And.intro (And.intro @EH @Cm) (And.intro @yt @D7)) (And.intro (And.intro @zq @yw) (And.intro @CK (And.intro @yN @y4))))) (And.intro (And.intro (And.intro (And.intro @EN @w5) (And.intro @Bd @EC)) (And.intro (And.intro @yO @xJ) (And.intro @GB (And.intro @Gu @F8)))) (And.intro (And.intro (And.intro @zY @y7) (And.intro @C8 (And.intro @pq @oZ))) (And.intro (And.intro @uQ @CN) (And.intro @AX (And.intro @AO @GG)))))) (And.intro (And.intro (And.intro (And.intro (And.intro @wV @EF) (And.intro @Bj @DD)) (And.intro (And.intro @BR @Ic) (And.intro @EP (And.intro @D8 @Df)))) (And.intro (And.intro (And.intro @Eo @Fh) (And.intro @xk (And.intro @wB @BW))) (And.intro (And.intro @vR @BN) (And.intro @vY (And.intro @tH @vW))))) (And.intro (And.intro (And.intro (And.intro @u3 @wC) (And.intro @y6 @rk)) (And.intro (And.intro @A1 @sg) (And.intro @wR (And.intro @vL @wI)))) (And.intro (And.intro (And.intro @HT @GC) (And.intro @IP (And.intro @HM @EM))) (And.intro (And.intro @Eg @FG) (And.intro @E6 (And.intro @Bt @Fy))))))) (And.intro (And.intro (And.intro (And.intro (And.intro (And.intro @DC @EJ) (And.intro @DP @DV)) (And.intro (And.intro @BB @DM) (And.intro @tr (And.intro @CQ @DB)))) (And.intro (And.intro (And.intro @CS @vq) (And.intro @wO @B6)) (And.intro (And.intro @Fk @DE) (And.intro @DS (And.intro @Eh @F9))))) (And.intro (And.intro (And.intro (And.intro @Dm @Ba) (And.intro @vU @GO)) (And.intro (And.intro @Hk @yb) (And.intro @Ck (And.intro @Ah @Ce)))) (And.intro (And.intro (And.intro @xt @wQ) (And.intro @pY (And.intro @oc @xb))) (And.intro (And.intro @DR @zi) (And.intro @zy (And.intro @xv @Aw)))))) (And.intro (And.intro (And.intro (And.intro (And.intro @zl @r9) (And.intro @xq @sZ)) (And.intro (And.intro @Av @IM) (And.intro @Ix (And.intro @D2 @D4)))) (And.intro (And.intro (And.intro @FK @Ge) (And.intro @Es (And.intro @Gp @GJ))) (And.intro (And.intro @FW @GD) (And.intro @FP (And.intro @Ff @D1))))) (And.intro (And.intro (And.intro (And.intro @xm @A7) (And.intro @Ht @Hv)) (And.intro (And.intro @D0 @Cv) (And.intro @CX (And.intro @IF @GY)))) (And.intro (And.intro (And.intro @Hm @GR) (And.intro @Hw (And.intro @Gf @FZ))) (And.intro (And.intro @Dr @Ek) (And.intro @F2 (And.intro @Fp @F5)))))))) (And.intro (And.intro (And.intro (And.intro (And.intro (And.intro (And.intro @Ey @Gj) (And.intro @Ih @Dt)) (And.intro (And.intro @CI @Cl) (And.intro @E5 (And.intro @FT @Fw)))) (And.intro (And.intro (And.intro @DI @GH) (And.intro @EL @FU)) (And.intro (And.intro @Fx @Dv) (And.intro @A2 (And.intro @GL @B3))))) (And.intro (And.intro (And.intro (And.intro @E8 @DU) (And.intro @Cu @Gz)) (And.intro (And.intro @Cj @Gg) (And.intro @Dy (And.intro @EX @ED)))) (And.intro (And.intro (And.intro @FM @Dx) (And.intro @Bo (And.intro @Do @Gd))) (And.intro (And.intro @rh @yd) (And.intro @vE (And.intro @sy @tq)))))) (And.intro (And.intro (And.intro (And.intro (And.intro @B5 @yj) (And.intro @xN @CD)) (And.intro (And.intro @uW @vJ) (And.intro @vI (And.intro @Ad @yE)))) (And.intro (And.intro (And.intro @uX @Bf) (And.intro @tJ (And.intro @tU @Ga))) (And.intro (And.intro @Fd @EY) (And.intro @Gs (And.intro @FI @Dn))))) (And.intro (And.intro (And.intro (And.intro @Fz @DJ) (And.intro @EV @Fc)) (And.intro (And.intro @Gy @Fb) (And.intro @GI (And.intro @Gc @Bc)))) (And.intro (And.intro (And.intro @Fu @El) (And.intro @DN (And.intro @y9 @DF))) (And.intro (And.intro @EA @DO) (And.intro @F0 (And.intro @EW @DG))))))) (And.intro (And.intro (And.intro (And.intro (And.intro (And.intro @xh @xx) (And.intro @tz @xW)) (And.intro (And.intro @xg @xB) (And.intro @x9 (And.intro @A4 @nw)))) (And.intro (And.intro (And.intro @yV @AU) (And.intro @zH (And.intro @BL @CL))) (And.intro (And.intro @Gb @En) (And.intro @qR (And.intro @qV @sI))))) (And.intro (And.intro (And.intro (And.intro @Iq @Ct) (And.intro @xz @so)) (And.intro (And.intro @rM @mR) (And.intro @yR (And.intro @pB @zz)))) (And.intro (And.intro (And.intro @Br @Option.bind_some.{0,0}) (And.intro @Option.map_some.{0,0} (And.intro @Option.map_none.{0,0} @List.getElem?_map.{0,0}))) (And.intro (And.intro @List.length_map.{0,0} @List.length_append.{0}) (And.intro @List.append_assoc.{0} (And.intro @List.cons_append.{0} @List.nil_append.{0})))))) (And.intro (And.intro (And.intro (And.intro (And.intro @List.drop_succ_cons.{0} @List.drop_zero.{0}) (And.intro @List.take_succ_cons.{0} @List.take_zero.{0})) (And.intro (And.intro @List.length_cons.{0} @List.length_nil.{0}) (And.intro @List.getElem?_cons_zero.{0} (And.intro @List.getElem?_cons_succ.{0} @List.set_cons_zero.{0})))) (And.intro (And.intro (And.intro @List.set_cons_succ.{0} @Nat.zero_add) (And.intro @and_true (And.intro @true_and @true_implies))) (And.intro (And.intro @not_true_eq_false @not_false_eq_true) (And.intro @false_implies (And.intro @Bool.not_true @Bool.not_false))))) (And.intro (And.intro (And.intro (And.intro @List.contains_cons.{0} @List.contains_nil.{0}) (And.intro @List.map_cons.{0,0} @List.map_nil.{0,0})) (And.intro (And.intro @Bool.or_false @Bool.false_or) (And.intro @Bool.or_true (And.intro @Bool.true_or @Bool.false_eq_true)))) (And.intro (And.intro (And.intro @Bool.true_eq_false @CV) (And.intro @xU (And.intro @Bool.not_not @decide_not))) (And.intro (And.intro @List.all_cons.{0} @List.all_nil.{0}) (And.intro @Bool.and_true (And.intro @List.getD_cons_zero.{0} @List.getD_cons_succ.{0}))))))))
end Go.Proofs.YtcbahpllcfbkmaaGreatDoor
namespace Go.Proofs.YtcbahpllcfbkmaaGreatDoor
open Go.RowKit
section
variable {C : Cx} {pr : Prot} {n n0 : Nat}
end
end Go.Proofs.YtcbahpllcfbkmaaGreatDoor
