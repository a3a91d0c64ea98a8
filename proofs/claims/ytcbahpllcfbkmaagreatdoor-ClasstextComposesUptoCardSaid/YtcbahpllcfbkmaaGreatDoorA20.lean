import Derived.Test.YtcbahpllcfbkmaaGreatDoorA13
import Derived.Orders
import Derived.RowKit
import Derived.Recover
set_option linter.unusedVariables false
set_option linter.unusedSimpArgs false
set_option linter.unusedSectionVars false
namespace Go.Proofs.YtcbahpllcfbkmaaGreatDoor
open Go.RowKit
mutual
def V.under(k:Nat):V→Bool
 | .agg cs=>V.unders k cs
 | .tup cs=>V.unders k cs
 | .fn _ cs=>V.unders k cs
 | .bnd _ cs=>V.unders k cs
 | .ptr i _=>decide (i<k)
 | .bsl i _ _ _=>decide (i<k)
 | .iface _ v=>V.under k v
 | .mp i=>decide (i<k)
 | .bsc i _ _=>decide (i<k)
 | .mapc _ kv=>V.underkv k kv
 | .d _=>true
 | .own _ _ _=>true
 | .nil=>true
 | .row _ _=>true
 | .junk=>true
def V.unders(k:Nat):List V→Bool
 | []=>true
 | x::r=>V.under k x&&V.unders k r
def V.underkv(k:Nat):List (Key×V)→Bool
 | []=>true
 | p::r=>V.underp k p&&V.underkv k r
def V.underp(k:Nat):Key×V→Bool
 | (_,x)=>V.under k x
end
theorem V.unders_get{k:Nat}:∀{cs:List V},V.unders k cs=true→∀i (h:i<cs.length),V.under k cs[i]=true
 | x::r,h,i,hi=>by
  simp only[V.unders,Bool.and_eq_true]at h;cases i with
  | zero=>exact h.1
  | succ i=>exact V.unders_get h.2 i (by simpa using hi)
theorem V.unders_of{k:Nat}:∀{cs:List V},(∀i (h:i<cs.length),V.under k cs[i]=true)→V.unders k cs=true
 | [],_=>rfl
 | x::r,h=>by
  simp only[V.unders,Bool.and_eq_true];exact⟨h 0 (by simp),V.unders_of fun i hi=>h (i+1) (by simpa using hi)⟩
theorem Rep.drop{M:au}{bm:List Nat}{k:Nat}{x:V}{v:Value}(h:Rep M bm x v):V.under k x=true→Rep M (bm.take k) x v:=by
 induction h with
 | d h=>exact fun _=>.d h
 | own h=>exact fun _=>.own h
 | nil=>exact fun _=>.nil
 | agg hl h h1 ih=>exact fun hb=>.agg hl (fun i g1 g2=>ih i g1 g2 (V.unders_get (by simpa only[V.under]using hb) i g1)) h1
 | tup hl h ih=>exact fun hb=>.tup hl (fun i g1 g2=>ih i g1 g2 (V.unders_get (by simpa only[V.under]using hb) i g1))
 | ptr h=>exact fun hb=>.ptr (by
  simp only[V.under,decide_eq_true_eq]at hb;rw[List.getElem?_take_of_lt hb];exact h)
 | row val hf hd=>exact fun _=>.row val hf hd
 | bsl h hc hm=>exact fun hb=>.bsl (by
  simp only[V.under,decide_eq_true_eq]at hb;rw[List.getElem?_take_of_lt hb];exact h) hc hm
 | fn hl h ih=>exact fun hb=>.fn hl (fun i g1 g2=>ih i g1 g2 (V.unders_get (by simpa only[V.under]using hb) i g1))
 | bnd hl h ih=>exact fun hb=>.bnd hl (fun i g1 g2=>ih i g1 g2 (V.unders_get (by simpa only[V.under]using hb) i g1))
 | iface h ih=>exact fun hb=>.iface (ih (by simpa only[V.under]using hb))
 | mp h=>exact fun hb=>.mp (by
  simp only[V.under,decide_eq_true_eq]at hb;rw[List.getElem?_take_of_lt hb];exact h)
 | bsc h hc hm=>exact fun hb=>.bsc (by
  simp only[V.under,decide_eq_true_eq]at hb;rw[List.getElem?_take_of_lt hb];exact h) hc hm
 | junk v=>exact fun _=>.junk v
theorem Rep.under{M:au}{bm:List Nat}{x:V}{v:Value}(h:Rep M bm x v):V.under bm.length x=true:=by
 induction h with
 | d h=>rfl
 | own h=>rfl
 | nil=>rfl
 | agg hl h h1 ih=>simp only[V.under];exact V.unders_of fun i hi=>ih i hi (by omega)
 | tup hl h ih=>simp only[V.under];exact V.unders_of fun i hi=>ih i hi (by omega)
 | ptr h=>simp only[V.under,decide_eq_true_eq];exact(List.getElem?_eq_some_iff.1 h).1
 | row val hf hd=>rfl
 | bsl h hc hm=>simp only[V.under,decide_eq_true_eq];exact(List.getElem?_eq_some_iff.1 h).1
 | fn hl h ih=>simp only[V.under];exact V.unders_of fun i hi=>ih i hi (by omega)
 | bnd hl h ih=>simp only[V.under];exact V.unders_of fun i hi=>ih i hi (by omega)
 | iface h ih=>simpa only[V.under]using ih
 | mp h=>simp only[V.under,decide_eq_true_eq];exact(List.getElem?_eq_some_iff.1 h).1
 | bsc h hc hm=>simp only[V.under,decide_eq_true_eq];exact(List.getElem?_eq_some_iff.1 h).1
 | junk v=>rfl
theorem MR.drop{M:au}{bm:List Nat}{k:Nat}{st:Bool}{kv:List (Key×V)}{es:List MapEntry}(h:MR M bm st kv es):V.underkv k kv=true→MR M (bm.take k) st kv es:=by
 induction h with
 | nil=>exact fun _=>.nil
 | cons hk hs hx ho _ ih=>
  intro hb;simp only[V.underkv,V.underp,Bool.and_eq_true]at hb;exact .cons hk hs (hx.drop hb.1) ho (ih hb.2)
theorem MR.under{M:au}{bm:List Nat}{st:Bool}{kv:List (Key×V)}{es:List MapEntry}(h:MR M bm st kv es):V.underkv bm.length kv=true:=by
 induction h with
 | nil=>rfl
 | cons hk hs hx ho _ ih=>simp only[V.underkv,V.underp,Bool.and_eq_true];exact⟨hx.under,ih⟩
def az(k:Nat)(σ:List (List V)):Bool:=σ.all fun cs=>V.unders k cs
def aA(k:Nat)(ρ:al):Bool:=ρ.all fun p=>V.under k p.2
section
variable {C : Cx} {M : au} {bm : List Nat} {tk : aU} {pr : Prot} {ρ : al} {σ : List (List V)} {n : Nat} {a : Act} {w : World} {K : al → List (List V) → Prop} {Q : AEx → al → List (List V) → Prop}
theorem Inv.drop(h:Inv M bm σ tk pr w){k:Nat}(hb:az k (σ.take k)=true):Inv M (bm.take k) (σ.take k) tk pr w:=by
 refine⟨h.facts,by simp[h.len],fun i b cs hi hc=>?_,fun b hb=>h.free b (List.mem_of_mem_take hb),h.bmnd.sublist (List.take_sublist _ _),fun i j g hg=>?_,h.inj,h.prlt⟩
 ·have hik:i<k:=by have:=(List.getElem?_eq_some_iff.1 hi).1;simp at this;omega
  have hmem:=List.mem_of_getElem? hc;rw[List.getElem?_take_of_lt hik]at hi hc;have hbl:V.unders k cs=true:=List.all_eq_true.1 hb cs hmem;rcases h.box i b cs hi hc with⟨vs,T,h1,h2,h3⟩|⟨st,kv,es,clock,rfl,h1,h2,h3⟩|h1;case inr.inr=>exact .inr (.inr h1)
  case inr.inl=>exact .inr (.inl ⟨st,kv,es,clock,rfl,h1,h2,h3.drop (by simpa[V.unders,V.under]using hbl)⟩)
  exact .inl ⟨vs,T,h1,h2,fun j g1 g2=>⟨⟨(h3 j g1 g2).1.rep.drop (V.unders_get hbl j g1),(h3 j g1 g2).1.own⟩,(h3 j g1 g2).2⟩⟩
 ·obtain⟨t1,t2,t3⟩:=h.tok i j g hg;exact⟨t1,fun hm=>t2 (List.mem_of_mem_take hm),t3⟩
theorem Inv.under(h:Inv M bm σ tk pr w):az σ.length σ=true:=by
 rw[az,List.all_eq_true];intro cs hcs;obtain⟨i,hi,rfl⟩:=List.getElem_of_mem hcs;rcases h.box i (bm[i]'(by rw[h.len];exact hi)) σ[i] (List.getElem?_eq_getElem _) (List.getElem?_eq_getElem _)with⟨vs,T,h1,h2,h3⟩|⟨st,kv,es,clock,e,h1,h2,h3⟩|⟨T,k,e,-⟩
 case inr.inr=>rw[e];simp[tyc,V.unders,V.under]
 case inr.inl=>rw[e];simp only[V.unders,V.under,Bool.and_true];rw[←h.len];exact h3.under
 refine V.unders_of fun j hj=>?_;rw[←h.len];exact(h3 j hj (by omega)).1.rep.under
theorem sY{k:Nat}(h:aA k ρ=true)(t:Nat):V.under k (get ρ t)=true:=by
 induction ρ with
 | nil=>rfl
 | cons p r ih=>
  obtain⟨s,u⟩:=p;simp only[aA,List.all_cons,Bool.and_eq_true]at h;simp only[get];split
  ·exact h.1
  ·exact ih h.2
theorem SRel.drop(h:SRel M bm tk pr ρ σ n a w){k:Nat}(h1:az k (σ.take k)=true)(h2:aA k ρ=true):SRel M (bm.take k) tk pr ρ (σ.take k) n a w:=
 ⟨h.inv.drop h1,h.defers,h.size,fun t=>⟨(h.slots t).rep.drop (sY h2 t),(h.slots t).own⟩⟩
theorem Later.drop{M':au}{bm':List Nat}{w':World}(h:Later M bm pr w M' bm' w'){k:Nat}(hk:bm.length≤k):Later M bm pr w M' (bm'.take k) w':=by
 obtain⟨t,ht⟩:=h.pre;exact⟨h.le,⟨t.take (k-bm.length),by rw[ht,List.take_append,List.take_of_length_le hk]⟩,h.keep,h.facts,h.os,h.tape,h.output,h.size⟩
theorem Oper.wp_mono2{P:Program}{o:Oper}{a:Act}{w:World}{K K':Act→World→Prop}{Q Q':Exit→Act→World→Prop}(h1:∀a w,K a w→K' a w)(h2:∀e a w,Q e a w→Q' e a w)(hh:o.wp P a w K Q):o.wp P a w K' Q':=by
 unfold Oper.wp at *;generalize (execOp a.eval o).run P w=r at *;cases r with
 | ok n w'=>
  cases n<;>simp only[Oper.upon]at hh ⊢ <;>
   first
    | exact h1 _ _ hh
    | exact Calls.mono hh (fun e w'' he=>by
     cases e with
     | returned v=>exact h1 _ _ he
     | panicked c=>exact h2 _ _ _ he
     | outgrown=>obtain⟨a,w,hq⟩:=he;exact⟨a,w,h2 _ _ _ hq⟩)
    | exact Rows.mono hh (fun _ _ he=>h1 _ _ he)
    | exact hh
 | halt x w'=>cases x<;>simp only[Oper.upon]at hh ⊢ <;>first|exact h2 _ _ _ hh|exact hh
theorem eK(h:SRel M bm tk pr ρ σ n a w){ops:Array Oper}{t j:Nat}{b:Bool}(hg:get ρ t=.d (.lit (.bool b)))(hj:(match ops[j]? with|some q=>q.dst==some t|none=>false)=true):yielded ops a.tmps j=some b:=by
 split at hj
 ·rename_i q hq;have hq2:q.dst=some t:=by simpa using hj
  have hr:=(h.slots t).rep;rw[hg]at hr;have hv:=hr.bool_inv;unfold yielded;rw[hq];simp only[Option.bind_some,hq2];cases ht:a.tmps[t]? with
  | none=>
   simp only[Array.getD_eq_getD_getElem?,ht,Option.getD_none]at hv;cases hv
  | some v=>
   simp only[Array.getD_eq_getD_getElem?,ht,Option.getD_some]at hv;subst hv;rfl
 ·cases hj
theorem gf{M:au}{bm:List Nat}:Rep M bm (.tup []) undef:=.tup (vs:=[]) rfl fun i h=>by simp at h
theorem io(h:SRel M bm tk pr ρ σ n a w){ops:Array Oper}{t j:Nat}(hg:get ρ t=.tup [])(hj:(match ops[j]? with|some q=>q.dst==some t|none=>false)=true):yielded ops a.tmps j=none:=by
 split at hj
 ·rename_i q hq;have hq2:q.dst=some t:=by simpa using hj
  have hr:=(h.slots t).rep;rw[hg]at hr;unfold yielded;rw[hq];simp only[Option.bind_some,hq2];cases ht:a.tmps[t]? with
  | none=>rfl
  | some v=>
   simp only[Array.getD_eq_getD_getElem?,ht,Option.getD_some]at hr;cases hr with
   | tup _ _=>rfl
 ·cases hj
theorem SRel.know(h:SRel M bm tk pr ρ σ n a w){t:Nat}{b:Bool}(hb:get ρ t=.d (.lit (.bool b))){c:Bool}(hc:b=c):SRel M bm tk pr (put ρ t (.d (.lit (.bool c)))) σ n a w:=
 ⟨h.inv,h.defers,h.size,fun s=>by
   rw[bD];split
   ·rename_i e;subst e;subst hc;rw[←hb];exact h.slots s
   ·exact h.slots s⟩
theorem dY{M0:au}{bm0:List Nat}{w0:World}(hG:C.glob M0 pr w0){ops:Array Oper}:∀{l:List O} {l':List Oper} {M:au} {bm:List Nat} {tk:aU} {ρ:al} {σ:List (List V)} {a:Act} {w:World},
 fA C.tab n ops l l'=true→Later M0 bm0 pr w0 M bm w→SRel M bm tk pr ρ σ n a w→b8 C l ρ σ Q→wpList C.P ops (bp M0 bm0 pr w0 n Q) l' a w
 | [],[],M,bm,tk,ρ,σ,a,w,_,hl,h,hq=>⟨M,bm,tk,ρ,σ,_,hq,.normal,h,hl⟩
 | o::r,o'::r',M,bm,tk,ρ,σ,a,w,hok,hl,h,hq=>by
  simp only[fA,Bool.and_eq_true]at hok;obtain⟨h1,h2⟩:=hok;have hG':=hG.mono hl
  have step:∀{ρ:al},SRel M bm tk pr ρ σ n a w→cG C o.op o.dst ρ σ (fun ρ' σ'=>b8 C r ρ' σ' Q) Q→o'.wp C.P a w (wpList C.P ops (bp M0 bm0 pr w0 n Q) r') (bp M0 bm0 pr w0 n Q):=fun h hr=>by
   refine Oper.wp_mono2 (fun a' w' hL=>?_) (fun e a' w' hL=>hL.trans hl) (cq hG' h h1 hr);obtain⟨M',bm',tk',ρ',σ',k1,k2,k3⟩:=hL;exact dY hG h2 (hl.trans k3 (fun _ h=>h)) k2 k1
  have hgd:∀g,o.g=g→(match g,o'.guard with
   | none,none=>true
   | some (t,b),some (j,b')=>b==b'&&(match ops[j]? with|some q=>q.dst==some t|none=>false)
   | _,_=>false)=true:=fun g hg=>by
   subst hg;unfold okO at h1;simp only[Bool.and_eq_true]at h1;exact h1.2
  have hdst:o.dst=o'.dst:=by
   unfold okO at h1;simp only[Bool.and_eq_true,beq_iff_eq]at h1;exact h1.1.1.2
  have hdn:∀d,o'.dst=some d→d<n:=by
   unfold okO at h1;simp only[Bool.and_eq_true]at h1;intro d hd;have:=h1.1.2;rw[hd]at this;simpa using this
  unfold wpList;simp only[b8]at hq;split at hq
  ·rename_i hg;have:=hgd none hg;split at this
   ·rename_i hg2;rw[if_pos (by simp[Region.wanted,hg2])];exact .inl (step h hq)
   ·rename_i e _;cases e
   ·cases this
  ·rename_i t want hg;have:=hgd _ hg;split at this
   ·rename_i e _;cases e
   ·rename_i t' b' j b'' e hg2;cases e;simp only[Bool.and_eq_true,beq_iff_eq]at this;obtain⟨rfl,hj⟩:=this;split at hq
    ·rename_i b hb;have hy:=eK h hb hj;by_cases hbw:b=want
     ·rw[if_pos (by simp[Region.wanted,hg2,hy,hbw])];exact .inl (step (h.know hb hbw) (hq.1 hbw))
     ·rw[if_neg (by simp[Region.wanted,hg2,hy,hbw])];have:=hq.2 hbw;rw[hdst]at this;exact dY hG h2 hl ((h.know hb (c:=!want) (by cases b<;>cases want<;>simp_all)).putd hdn gf (by simp)) this
    ·rename_i hb;have hy:=io h hb hj;rw[if_neg (by simp[Region.wanted,hg2,hy])];rw[hdst]at hq;exact dY hG h2 hl (h.putd hdn gf (by simp)) hq
    ·exact hq.elim
   ·cases this
 | [],_::_,_,_,_,_,_,_,_,hok,_,_,_=>by cases hok
 | _::_,[],_,_,_,_,_,_,_,hok,_,_,_=>by cases hok
end
end Go.Proofs.YtcbahpllcfbkmaaGreatDoor
namespace Go.Proofs.YtcbahpllcfbkmaaGreatDoor
open Go.RowKit
def X.slots:X→List Nat
 | .t n=>[n]
 | _=>[]
def OP.slots:OP→List Nat
 | .mv x | .un _ x | .conv _ x | .cstr x | .cbs x | .nilck x | .fa _ x | .fld _ _ _ x | .len _ x | .ext x _ | .load _ _ x | .mki _ x | .tas _ _ x=>x.slots
 | .pick c a b=>c.slots++(a.slots++b.slots)
 | .clip c a b=>c.slots++(a.slots++b.slots)
 | .mlk _ _ _ x k=>x.slots++k.slots
 | .mln x=>x.slots
 | .nif _ x=>x.slots
 | .nip _ x=>x.slots
 | .eqa _ _ _ x y=>x.slots++y.slots
 | .bin _ x y | .binb _ x y | .ia _ x y | .aa _ _ x y | .ix x y | .mx _ x y=>x.slots++y.slots
 | .bld _ ps=>ps.flatMap fun p=>p.2.2.slots
 | .sub _ _ x lo hi=>x.slots++(lo.toList++hi.toList).flatMap X.slots
 | .mkfn _ cap=>cap.flatMap X.slots
 | .mkbd _ first=>first.flatMap X.slots
 | .mks _ _ xs=>xs.flatMap X.slots
 | .call _ args=>args.flatMap X.slots
 | .callv x args=>x.slots++args.flatMap X.slots
 | .calln _ args=>args.flatMap X.slots
 | _=>[]
def bB(C:Cx)(op:OP)(ρ:al)(σ:List (List V))(k:V→Prop):Prop:=
 match op with
 | .call f args=>∃v,Fun C f (args.map fun x=>(ev C ρ x).lend) σ (fun o σ'=>o=.ret v∧σ'=σ)∧k v
 | .callv x args=>match ev C ρ x with
  | .fn f cap=>∃v,Fun C f ((args.map fun x=>(ev C ρ x).lend)++cap) σ (fun o σ'=>o=.ret v∧σ'=σ)∧k v
  | _=>False
 | .mks _ kk xs=>match ac (xs.map (ev C ρ))with
  | some rows=>rows.all (fun r=>r.length==kk)=true∧k (.d (.sl rows))
  | none=>False
 | .calln f args=>∃v,Fun C f (args.map fun x=>(ev C ρ x).copy) σ (fun o σ'=>o=.ret v∧σ'=σ)∧k v
 | op=>match co op,pv C op ρ σ with
  | true,some v=>k v
  | _,_=>False
def aT(C:Cx):List O→al→List (List V)→(al→Prop)→Prop
 | [],ρ,_,K=>K ρ
 | o::r,ρ,σ,K=>match o.g with
  | none=>bB C o.op ρ σ fun v=>aT C r (putd ρ o.dst v) σ K
  | some (t,want)=>match get ρ t with
   | .d (.lit (.bool b))=>(b=want→bB C o.op (put ρ t (.d (.lit (.bool want)))) σ fun v=>aT C r (putd (put ρ t (.d (.lit (.bool want)))) o.dst v) σ K)∧(b≠want→aT C r (putd (put ρ t (.d (.lit (.bool (!want))))) o.dst (.tup [])) σ K)
   | .tup []=>aT C r (putd ρ o.dst (.tup [])) σ K
   | _=>False
def ba:List (Option Nat×V×Bool)→al→al
 | [],ρ=>ρ
 | (d,x,b)::r,ρ=>ba r (if b then putd ρ d x else ρ)
theorem ci(ρ:al)(d:Option Nat)(x:V)(t:Nat):get (putd ρ d x) t=if d=some t then x else get ρ t:=by
 cases d with
 | none=>simp[putd]
 | some d=>simp only[putd,bD,Option.some.injEq];split<;>split<;>first|rfl|omega
theorem gB:∀(l:List (Option Nat×V×Bool)) (ρ ρ':al) (t:Nat),get ρ t=get ρ' t→get (ba l ρ) t=get (ba l ρ') t
 | [],_,_,_,h=>h
 | (d,x,b)::r,ρ,ρ',t,h=>by
  simp only[ba];apply gB r;cases b
  ·exact h
  ·simp only[if_true,ci];split
   ·rfl
   ·exact h
theorem cK:∀(l l':List (Option Nat×V×Bool)) (ρ:al) (t:Nat),l.length=l'.length→(∀i (h:i<l.length) (h':i<l'.length),l[i].1=l'[i].1∧l[i].2.1=l'[i].2.1∧(l[i].1=some t→l[i].2.2=l'[i].2.2))→get (ba l ρ) t=get (ba l' ρ) t
 | [],[],_,_,_,_=>rfl
 | (d,x,b)::r,(d',x',b')::r',ρ,t,hl,h=>by
  simp only[ba];obtain⟨h1,h2,h3⟩:=h 0 (by simp) (by simp);simp only[List.getElem_cons_zero]at h1 h2 h3;subst h1;subst h2;have hr:=fun ρ=>cK r r' ρ t (by simpa using hl) (fun i g1 g2=>h (i+1) (by simpa using g1) (by simpa using g2));by_cases e:d=some t
  ·rw[h3 e];exact hr _
  ·rw[←hr];apply gB;cases b<;>cases b'<;>simp[ci,e]
 | [],_::_,_,_,hl,_=>by simp at hl
 | _::_,[],_,_,hl,_=>by simp at hl
theorem dy:∀(l:List (Option Nat×V×Bool)) (ρ:al) (t:Nat),(∀p∈l,p.1=some t→p.2.2=false)→get (ba l ρ) t=get ρ t
 | [],_,_,_=>rfl
 | (d,x,b)::r,ρ,t,h=>by
  simp only[ba];rw[dy r _ t (fun p hp=>h p (by simp[hp]))];cases b
  ·rfl
  ·simp only[if_true,ci];split
   ·rename_i e;have:=h (d,x,true) (by simp) e;cases this
   ·rfl
theorem iM:∀(l l':List (Option Nat×V×Bool)) (ρ:al),ba (l++l') ρ=ba l' (ba l ρ)
 | [],_,_=>rfl
 | (d,x,b)::r,l',ρ=>by simp only[List.cons_append,ba];exact iM r l' _
theorem jU(l:List (Option Nat×V×Bool))(ρ:al)(i:Nat)(h:i<l.length)(t:Nat)(hd:l[i].1=some t)(hb:l[i].2.2=true)(hn:∀j (hj:j<l.length),i<j→l[j].1=some t→l[j].2.2=false):get (ba l ρ) t=l[i].2.1:=by
 have e:ba l ρ=ba (l.take i++(l[i]::l.drop (i+1))) ρ:=by rw[List.getElem_cons_drop,List.take_append_drop]
 rw[e,iM];generalize ba (l.take i) ρ=ρ1;generalize hli:l[i]=p at hd hb;obtain⟨d,x,b⟩:=p;simp only at hd hb;subst hd;subst hb;simp only[ba,if_true];rw[dy]
 ·simp[ci]
 ·intro p hp hpt;obtain⟨j,hj,rfl⟩:=List.getElem_of_mem hp;simp only[List.getElem_drop]at hpt ⊢;exact hn (i+1+j) (by simp at hj;omega) (by omega) hpt
def O.looks(o:O):List Nat:=o.op.slots++(match o.g with|some (t,_)=>[t]|none=>[])
def aB(o:Oper):List Nat:=(o.after.toList.filter fun e=>Region.binds .any e).map (·.on)
def aI:List Oper→List (List Nat)→List (List Nat)
 | [],acc=>acc
 | o::r,acc=>aI r (acc++[aB o++(aB o).flatMap fun j=>acc.getD j []])
def jT(l:List O)(os:List Oper):Bool:=
 let bf:=aI os []
 (List.range os.length).all fun i=>
   (match os[i]? with|some o=>(aB o).all fun j=>decide (j<i)|none=>true) &&
   (match l[i]? with
   | some o=>(o.looks++o.dst.toList).all fun t=>(List.range l.length).all fun j=>j==i||(match l[j]? with
    | some p=>p.dst != some t||(if j<i then(bf.getD i []).contains j else(bf.getD j []).contains i)
    | none=>true)
   | none=>true)
def bj:List O→List V→Nat→(Nat→Bool)→List (Option Nat×V×Bool)
 | o::l,x::xs,k,S=>(o.dst,x,S k)::bj l xs (k+1) S
 | _,_,_,_=>[]
theorem gp:∀(l:List O) (xs:List V) (k:Nat) (S:Nat→Bool),xs.length=l.length→(bj l xs k S).length=l.length
 | [],[],_,_,_=>rfl
 | o::l,x::xs,k,S,h=>by simp only[bj,List.length_cons];rw[gp l xs (k+1) S (by simpa using h)]
 | [],_::_,_,_,h=>by simp at h
 | _::_,[],_,_,h=>by simp at h
theorem gj:∀(l:List O) (xs:List V) (k:Nat) (S:Nat→Bool) (i:Nat) (h:i<(bj l xs k S).length) (h1:i<l.length) (h2:i<xs.length),(bj l xs k S)[i]=(l[i].dst,xs[i],S (k+i))
 | o::l,x::xs,k,S,0,h,h1,h2=>rfl
 | o::l,x::xs,k,S,i+1,h,h1,h2=>by
  have:=gj l xs (k+1) S i (by simpa[bj]using h) (by simpa using h1) (by simpa using h2);simp only[bj,List.getElem_cons_succ];rw[this,show k+1+i=k+(i+1)by omega]
def Loc(C:Cx)(o:O)(ρ:al)(σ:List (List V))(x:V):Prop:=
 match o.g with
 | none=>bB C o.op ρ σ fun v=>v=x
 | some (t,want)=>match get ρ t with
  | .d (.lit (.bool b))=>(b=want→bB C o.op ρ σ fun v=>v=x)∧(b≠want→x=.tup [])
  | .tup []=>x=.tup []
  | _=>False
section
variable {C : Cx} {pr : Prot} {σ : List (List V)} {n : Nat} {Q : AEx → al → List (List V) → Prop}
theorem eO{op:OP}{ρ:al}{k:V→Prop}(h:bB C op ρ σ k):∃v,bB C op ρ σ (fun u=>u=v)∧k v:=by
 unfold bB at h;split at h
 ·obtain⟨v,h1,h2⟩:=h;exact⟨v,by simp only[bB];exact⟨v,h1,rfl⟩,h2⟩
 ·rename_i x args;split at h
  ·rename_i f cap e;obtain⟨v,h1,h2⟩:=h;exact⟨v,by simp only[bB,e];exact⟨v,h1,rfl⟩,h2⟩
  ·exact h.elim
 ·split at h
  ·rename_i rows e;obtain⟨h1,h2⟩:=h;exact⟨_,by simp only[bB,e];exact⟨h1,trivial⟩,h2⟩
  ·exact h.elim
 ·obtain⟨v,h1,h2⟩:=h;exact⟨v,by simp only[bB];exact⟨v,h1,rfl⟩,h2⟩
 ·rename_i n1 n2 n3 n4;split at h
  ·rename_i v hp e;refine⟨v,?_,h⟩;unfold bB;split
   ·exact absurd rfl (n1 _ _)
   ·exact absurd rfl (n2 _ _)
   ·exact absurd rfl (n3 _ _ _)
   ·exact absurd rfl (n4 _ _)
   ·rw[hp,e]
  ·exact h.elim
theorem bC{ρ ρ':al}{x:X}(h:∀t∈x.slots,get ρ t=get ρ' t):ev C ρ x=ev C ρ' x:=by
 cases x with
 | t n=>exact h n (by simp[X.slots])
 | k v=>rfl
 | g n=>rfl
theorem fH{ρ ρ':al}{xs:List X}(h:∀t∈xs.flatMap X.slots,get ρ t=get ρ' t):xs.map (ev C ρ)=xs.map (ev C ρ'):=
 List.map_congr_left fun x hx=>bC fun t ht=>h t (List.mem_flatMap.2 ⟨x,hx,ht⟩)
theorem lI{ρ ρ':al}:∀{ps:List (Nat×Nat×X)} {cs:List V},(∀t∈ps.flatMap (fun p=>p.2.2.slots),get ρ t=get ρ' t)→ak (ev C ρ) cs ps=ak (ev C ρ') cs ps
 | [],cs,_=>rfl
 | (off,k,x)::ps,cs,h=>by
  have e:ev C ρ x=ev C ρ' x:=bC fun t ht=>h t (by simp[ht]);simp only[ak,e];have:=fun cs=>lI (ps:=ps) (cs:=cs) (fun t ht=>h t (by simp only[List.flatMap_cons,List.mem_append];exact .inr ht));split
  ·split<;>first|rfl|exact this _
  ·rfl
theorem uD{ρ ρ':al}{op:OP}(h:∀t∈op.slots,get ρ t=get ρ' t):pv C op ρ σ=pv C op ρ' σ:=by
 have two:∀{x y:X},(∀t∈x.slots++y.slots,get ρ t=get ρ' t)→ev C ρ x=ev C ρ' x∧ev C ρ y=ev C ρ' y:=fun h=>
  ⟨bC fun t ht=>h t (by simp[ht]),bC fun t ht=>h t (by simp[ht])⟩
 cases op<;>simp only[OP.slots]at h<;>simp only[pv]
 case pick c a b=>
  have e1:ev C ρ c=ev C ρ' c:=bC fun t ht=>h t (by simp[ht]);have e2:ev C ρ a=ev C ρ' a:=bC fun t ht=>h t (by simp[ht]);have e3:ev C ρ b=ev C ρ' b:=bC fun t ht=>h t (by simp[ht]);rw[e1,e2,e3]
 case clip c a b=>
  have e1:ev C ρ c=ev C ρ' c:=bC fun t ht=>h t (by simp[ht]);have e2:ev C ρ a=ev C ρ' a:=bC fun t ht=>h t (by simp[ht]);have e3:ev C ρ b=ev C ρ' b:=bC fun t ht=>h t (by simp[ht]);rw[e1,e2,e3]
 case bin o x y=>rw[(two h).1,(two h).2]
 case binb o x y=>rw[(two h).1,(two h).2]
 case ia k x y=>rw[(two h).1,(two h).2]
 case aa k m x y=>rw[(two h).1,(two h).2]
 case ix x y=>rw[(two h).1,(two h).2]
 case mx g x y=>rw[(two h).1,(two h).2]
 case mlk st ok z x y=>rw[(two h).1,(two h).2]
 case bld zs ps=>rw[lI h]
 case mkfn f cap=>rw[fH h]
 case mkbd f first=>rw[fH h]
 case sub s k x lo hi=>
  have e1:ev C ρ x=ev C ρ' x:=bC fun t ht=>h t (by simp[ht])
  have e2:lo.map (ev C ρ)=lo.map (ev C ρ'):=by
   cases lo with
   | none=>rfl
   | some y=>simp only[Option.map_some];rw[bC fun t ht=>h t (by simp[ht])]
  have e3:hi.map (ev C ρ)=hi.map (ev C ρ'):=by
   cases hi with
   | none=>rfl
   | some y=>simp only[Option.map_some];rw[bC fun t ht=>h t (by simp[ht])]
  rw[e1,e2,e3]
 case eqa neq T ks x y=>
  have e1:ev C ρ x=ev C ρ' x:=bC fun t ht=>h t (by simp[ht]);have e2:ev C ρ y=ev C ρ' y:=bC fun t ht=>h t (by simp[ht]);rw[e1,e2]
 all_goals first
  | rfl
  | rw[bC h]
theorem gh{ρ ρ':al}{op:OP}{k:V→Prop}(h:∀t∈op.slots,get ρ t=get ρ' t)(hc:bB C op ρ σ k):bB C op ρ' σ k:=by
 unfold bB at hc;split at hc
 ·rename_i f args;have e:(args.map fun x=>(ev C ρ x).lend)=args.map fun x=>(ev C ρ' x).lend:=List.map_congr_left fun x hx=>by rw[bC fun t ht=>h t (List.mem_flatMap.2 ⟨x,hx,ht⟩)]
  rw[e]at hc;exact hc
 ·rename_i x args;simp only[OP.slots]at h;have e:(args.map fun x=>(ev C ρ x).lend)=args.map fun x=>(ev C ρ' x).lend:=List.map_congr_left fun x hx=>by rw[bC fun t ht=>h t (List.mem_append_right _ (List.mem_flatMap.2 ⟨x,hx,ht⟩))]
  have e2:ev C ρ x=ev C ρ' x:=bC fun t ht=>h t (by simp[ht]);rw[e,e2]at hc;exact hc
 ·rename_i T kk xs;rw[fH (C:=C) h]at hc;exact hc
 ·rename_i f args;have e:(args.map fun x=>(ev C ρ x).copy)=args.map fun x=>(ev C ρ' x).copy:=List.map_congr_left fun x hx=>by rw[bC fun t ht=>h t (List.mem_flatMap.2 ⟨x,hx,ht⟩)]
  rw[e]at hc;exact hc
 ·rename_i n1 n2 n3 n4;rw[uD h]at hc;unfold bB;split
  ·exact absurd rfl (n1 _ _)
  ·exact absurd rfl (n2 _ _)
  ·exact absurd rfl (n3 _ _ _)
  ·exact absurd rfl (n4 _ _)
  ·exact hc
theorem Loc.congr{ρ ρ':al}{o:O}{x:V}(h:∀t∈o.looks,get ρ t=get ρ' t)(hc:Loc C o ρ σ x):Loc C o ρ' σ x:=by
 unfold O.looks at h;unfold Loc at hc ⊢;split at hc
 ·rename_i hg;rw[hg]at h;exact gh (fun t ht=>h t (by simp[ht])) hc
 ·rename_i t want hg;rw[hg]at h;have e:get ρ t=get ρ' t:=h t (by simp);rw[e]at hc;split at hc
  ·rename_i b hb;exact⟨fun hw=>gh (fun t ht=>h t (by simp[ht])) (hc.1 hw),hc.2⟩
  ·exact hc
  ·exact hc.elim
theorem jM:∀{l:List O} {ρ:al} {k:Nat} {K:al→Prop},aT C l ρ σ K→
 ∃xs:List V,xs.length=l.length∧(∃ρ',K ρ'∧∀t,get ρ' t=get (ba (bj l xs k fun _=>true) ρ) t)∧
  ∀i (h:i<l.length) (h':i<xs.length),∃ρi,Loc C l[i] ρi σ xs[i]∧∀t,get ρi t=get (ba (bj l xs k fun j=>decide (j<k+i)) ρ) t
 | [],ρ,k,K,h=>⟨[],rfl,⟨ρ,h,fun _=>rfl⟩,fun i h=>by simp at h⟩
 | o::r,ρ,k,K,h=>by
  have key:∀x ρ2,(∀t,get ρ2 t=get ρ t)→Loc C o ρ σ x→aT C r (putd ρ2 o.dst x) σ K→∃xs:List V,xs.length=(o::r).length∧(∃ρ',K ρ'∧∀t,get ρ' t=get (ba (bj (o::r) xs k fun _=>true) ρ) t)∧
   ∀i (h:i<(o::r).length) (h':i<xs.length),∃ρi,Loc C (o::r)[i] ρi σ xs[i]∧∀t,get ρi t=get (ba (bj (o::r) xs k fun j=>decide (j<k+i)) ρ) t:=by
   intro x ρ2 h2e hx hr;obtain⟨xs,h1,⟨ρ',h2,h3⟩,h4⟩:=jM (k:=k+1) hr;have hput:∀t,get (putd ρ2 o.dst x) t=get (putd ρ o.dst x) t:=fun t=>by rw[ci,ci,h2e]
   refine⟨x::xs,by simp[h1],⟨ρ',h2,fun t=>?_⟩,fun i hi hi'=>?_⟩
   ·simp only[bj,ba,if_true];rw[h3 t];exact gB _ _ _ _ (hput t)
   ·cases i with
    | zero=>
     refine⟨ρ,hx,fun t=>?_⟩;rw[dy];intro p hp _;obtain⟨j,hj,rfl⟩:=List.getElem_of_mem hp;have hl:=gp (o::r) (x::xs) k (fun j=>decide (j<k+0)) (by simp[h1]);rw[hl]at hj;rw[gj _ _ _ _ _ (by rw[hl];exact hj) hj (by simp[h1];simpa using hj)];simp
    | succ i=>
     obtain⟨ρi,g1,g2⟩:=h4 i (by simpa using hi) (by simpa using hi');refine⟨ρi,g1,fun t=>?_⟩;simp only[bj,ba];rw[if_pos (by simp),g2 t,show k+1+i=k+(i+1)by omega];exact gB _ _ _ _ (hput t)
  have know:∀{t:Nat} {b c:Bool},get ρ t=.d (.lit (.bool b))→b=c→∀s,get (put ρ t (.d (.lit (.bool c)))) s=get ρ s:=fun hb hc s=>by
   rw[bD];split
   ·rename_i e;subst e;subst hc;exact hb.symm
   ·rfl
  simp only[aT]at h;split at h
  ·rename_i hg;obtain⟨v,h1,h2⟩:=eO h;exact key v ρ (fun _=>rfl) (by unfold Loc;rw[hg];exact h1) h2
  ·rename_i t want hg;split at h
   ·rename_i b hb;by_cases e:b=want
    ·obtain⟨v,h1,h2⟩:=eO (h.1 e);exact key v _ (know hb e) (by unfold Loc;rw[hg];simp only;rw[hb];exact⟨fun _=>gh (fun s _=>know hb e s) h1,fun ne=>absurd e ne⟩) h2
    ·exact key (.tup []) _ (know hb (c:=!want) (by cases b<;>cases want<;>simp_all)) (by unfold Loc;rw[hg];simp only;rw[hb];exact⟨(fun ee=>absurd ee e),(fun _=>by trivial)⟩) (h.2 e)
   ·rename_i hb;exact key (.tup []) ρ (fun _=>rfl) (by unfold Loc;rw[hg];simp only;rw[hb];trivial) h
   ·exact h.elim
end
end Go.Proofs.YtcbahpllcfbkmaaGreatDoor
namespace Go.Proofs.YtcbahpllcfbkmaaGreatDoor
open Go.RowKit
theorem jp:∀(os:List Oper) (acc:List (List Nat)),(aI os acc).length=acc.length+os.length∧∀i,i<acc.length→(aI os acc)[i]? = acc[i]?
 | [],acc=>⟨rfl,fun _ _=>rfl⟩
 | o::r,acc=>by
  obtain⟨h1,h2⟩:=jp r (acc++[aB o++(aB o).flatMap fun j=>acc.getD j []]);simp only[aI];refine⟨by rw[h1];simp;omega,fun i hi=>?_⟩;rw[h2 i (by simp;omega),List.getElem?_append_left hi]
theorem o6(os:List Oper):∀(acc:List (List Nat)) (i:Nat) (o:Oper),os[i]? = some o→∃pre:List (List Nat),(aI os acc)[acc.length+i]? = some (aB o++(aB o).flatMap fun j=>pre.getD j [])∧∀j,j<acc.length+i→pre[j]? = (aI os acc)[j]? := by
 induction os with
 | nil=>intro acc i o h;simp at h
 | cons o' r ih=>
  intro acc i o h;simp only[aI];cases i with
  | zero=>
   simp at h;subst h;obtain⟨h1,h2⟩:=jp r (acc++[aB o'++(aB o').flatMap fun j=>acc.getD j []]);refine⟨acc,?_,fun j hj=>?_⟩
   ·rw[h2 _ (by simp)];rw[List.getElem?_append_right (by simp)];simp
   ·rw[h2 j (by simp;omega),List.getElem?_append_left (by omega)]
  | succ i=>
   obtain⟨pre,h1,h2⟩:=ih (acc++[aB o'++(aB o').flatMap fun j=>acc.getD j []]) i o (by simpa using h);rw[List.length_append,List.length_singleton]at h1 h2;rw[show acc.length+(i+1)=acc.length+1+i by omega];exact⟨pre,h1,h2⟩
theorem cD{os:List Oper}(hlt:∀(i:Nat) (o:Oper),os[i]? = some o→∀j∈aB o,j<i){S:Nat→Prop}(hcl:∀(i:Nat) (o:Oper),os[i]? = some o→S i→∀j∈aB o,S j):
 ∀(i:Nat) (o:Oper),os[i]? = some o→(∀j∈aB o,S j)→∀j∈(aI os []).getD i [],S j:=by
 intro i
 induction i using Nat.strongRecOn with
 | _ i ih=>
 intro o ho he j hj;obtain⟨pre,h1,h2⟩:=o6 os [] i o ho;simp only[List.length_nil,Nat.zero_add]at h1 h2;rw[List.getD_eq_getElem?_getD,h1,Option.getD_some]at hj;rcases List.mem_append.1 hj with hj|hj
 ·exact he j hj
 ·obtain⟨e,g1,g2⟩:=List.mem_flatMap.1 hj;have hei:=hlt i o ho e g1;rw[List.getD_eq_getElem?_getD,h2 e hei,←List.getD_eq_getElem?_getD]at g2;have hlen:e<os.length:=by have:=(List.getElem?_eq_some_iff.1 ho).1;omega
  exact ih e hei os[e] (List.getElem?_eq_getElem hlen) (hcl e _ (List.getElem?_eq_getElem hlen) (he e g1)) j g2
theorem mF{l:List O}{os:List Oper}(hl:l.length=os.length)(h:jT l os=true):
 (∀(i:Nat) (o:Oper),os[i]? = some o→∀j∈aB o,j<i)∧
 ∀(i:Nat) (o:O),l[i]? = some o→∀t∈o.looks++o.dst.toList,∀(j:Nat) (p:O),l[j]? = some p→p.dst=some t→j≠i→(j<i∧j∈(aI os []).getD i [])∨(i<j∧i∈(aI os []).getD j []):=by
 unfold jT at h;simp only[List.all_eq_true,List.mem_range,Bool.and_eq_true]at h;refine⟨fun i o ho j hj=>?_,fun i o ho t ht j p hp hd hne=>?_⟩
 ·have:=(h i (List.getElem?_eq_some_iff.1 ho).1).1;rw[ho]at this;simpa using List.all_eq_true.1 this j hj
 ·have h1:=(h i (by rw[←hl];exact(List.getElem?_eq_some_iff.1 ho).1)).2;rw[ho]at h1;simp only[List.all_eq_true,List.mem_range]at h1;have h2:=h1 t ht j (List.getElem?_eq_some_iff.1 hp).1;rw[hp]at h2;simp only[hd,Bool.or_eq_true,beq_iff_eq,bne_self_eq_false,Bool.false_eq_true,false_or]at h2;rcases h2 with h2|h2
  ·exact absurd h2 hne
  ·split at h2
   ·exact .inl ⟨by assumption,by simpa using h2⟩
   ·exact .inr ⟨by omega,by simpa using h2⟩
theorem fN{tab:Tab}{n:Nat}{ops:Array Oper}:∀{l:List O} {os:List Oper},fA tab n ops l os=true→l.length=os.length∧∀(i:Nat) (o:O) (o':Oper),l[i]? = some o→os[i]? = some o'→okO tab n ops o o'=true
 | [],[],_=>⟨rfl,fun i o o' h=>by simp at h⟩
 | o::l,o'::os,h=>by
  simp only[fA,Bool.and_eq_true]at h;obtain⟨h1,h2⟩:=fN h.2;refine⟨by simp[h1],fun i p p' hp hp'=>?_⟩;cases i with
  | zero=>simp at hp hp';subst hp;subst hp';exact h.1
  | succ i=>exact h2 i p p' (by simpa using hp) (by simpa using hp')
 | [],_::_,h=>by cases h
 | _::_,[],h=>by cases h
section
variable {C : Cx} {pr : Prot} {ρ : al} {σ : List (List V)} {n : Nat} {Q : AEx → al → List (List V) → Prop}
theorem SRel.congr{M:au}{bm:List Nat}{tk:aU}{ρ ρ':al}{a:Act}{w:World}(h:SRel M bm tk pr ρ σ n a w)(he:∀t,get ρ' t=get ρ t):SRel M bm tk pr ρ' σ n a w:=
 ⟨h.inv,h.defers,h.size,fun t=>by rw[he];exact h.slots t⟩
theorem j8{op:OP}{ρ:al}{x:V}{dst:Option Nat}(h:bB C op ρ σ fun v=>v=x):cG C op dst ρ σ (fun ρ' σ'=>ρ'=putd ρ dst x∧σ'=σ) (fun _ _ _=>False):=by
 unfold bB at h;split at h
 ·obtain⟨v,h1,rfl⟩:=h;exact h1.mono fun o σ' ⟨e1,e2⟩=>by subst e1;exact⟨rfl,e2⟩
 ·split at h
  ·rename_i f cap e;obtain⟨v,h1,rfl⟩:=h;simp only[cG,e];exact h1.mono fun o σ' ⟨e1,e2⟩=>by subst e1;exact⟨rfl,e2⟩
  ·exact h.elim
 ·split at h
  ·rename_i rows e;obtain⟨h1,rfl⟩:=h;simp only[cG,e];exact⟨h1,trivial,trivial⟩
  ·exact h.elim
 ·obtain⟨v,h1,rfl⟩:=h;exact h1.mono fun o σ' ⟨e1,e2⟩=>by subst e1;exact⟨rfl,e2⟩
 ·split at h
  ·rename_i v hp e;subst h;cases op<;>simp only[co]at hp<;>first|(cases hp;done)|skip
   all_goals
    unfold cG;simp only;rw[e];constructor<;>trivial
  ·exact h.elim
theorem fm:∀(l:List Bool) (i:Nat),l[i]? = some false→((l.set i true).filter (! ·)).length+1=(l.filter (! ·)).length
 | b::l,0,h=>by simp at h;subst h;simp
 | b::l,i+1,h=>by
  have:=fm l i (by simpa using h);cases b<;>simp only[List.set_cons_succ,List.filter_cons]<;>simp<;>omega
theorem oq{M0:au}{bm0:List Nat}{w0:World}(hG:C.glob M0 pr w0){id:Nat}{ops:Array Oper}{l:List O}{M:au}{bm:List Nat}{tk:aU}{a:Act}{w:World}(hok:fA C.tab n ops l ops.toList=true)(hdr:jT l ops.toList=true)
 (hl:Later M0 bm0 pr w0 M bm w)(h:SRel M bm tk pr ρ σ n a w)(hq:aT C l ρ σ fun ρ'=>Q .normal ρ' σ):(Code.region id ops true).wp C.P (bp M0 bm0 pr w0 n Q) a w:=by
 obtain⟨hlen,hget⟩:=fN hok;obtain⟨hlt,hcmp⟩:=mF hlen hdr;obtain⟨xs,hxl,⟨ρf,hρf,hρe⟩,hloc⟩:=jM (k:=0) hq;have hnl:l.length=ops.size:=by rw[hlen];simp
 refine wp_region_any C.mixed ?_;have hsteps:∀S:Nat→Bool,(bj l xs 0 S).length=l.length:=fun S=>gp l xs 0 S hxl
 have hsg:∀(S:Nat→Bool) (i:Nat) (hi:i<(bj l xs 0 S).length) (h1:i<l.length),(bj l xs 0 S)[i]=(l[i].dst,xs[i]'(by omega),S i):=fun S i hi h1=>by
  have:=gj l xs 0 S i hi h1 (by omega);simpa using this
 suffices H:∀(fuel:Nat) (listed:Array Bool) (M:au) (tk:aU) (a:Act) (w:World),Later M0 bm0 pr w0 M bm w→SRel M bm tk pr (ba (bj l xs 0 fun i=>listed.getD i false) ρ) σ n a w→listed.size=l.length→
  (∀(i:Nat) (o:Oper),ops.toList[i]? = some o→listed.getD i false=true→∀j∈aB o,listed.getD j false=true)→(listed.toList.filter (! ·)).length=fuel→wpAny C.P .any ops (bp M0 bm0 pr w0 n Q) fuel listed a w by
  obtain⟨h1,h2⟩:=h.ext (bW.drew w);refine H ops.size (Array.replicate ops.size false) M tk a w.drew (hl.trans h2 (fun _ h=>h)) (h1.congr fun t=>?_) (by simp[hnl]) (fun i o ho hi=>?_) (by simp)
  ·rw[dy];intro p hp _;obtain⟨j,hj,rfl⟩:=List.getElem_of_mem hp;rw[hsteps]at hj;rw[hsg _ j (by rw[hsteps];exact hj) hj];simp[Array.getD_eq_getD_getElem?,Array.getElem?_replicate];split<;>rfl
  ·simp[Array.getD_eq_getD_getElem?,Array.getElem?_replicate]at hi;split at hi<;>cases hi
 intro fuel
 induction fuel with
 | zero=>
  intro listed M tk a w hl h hsz hcl hcnt
  have hall:∀i,i<l.length→listed.getD i false=true:=fun i hi=>by
   have hb:listed[i]? = some (listed[i]'(by omega)):=Array.getElem?_eq_getElem _;rw[Array.getD_eq_getD_getElem?,hb,Option.getD_some];have hne:listed.toList.filter (! ·)=[]:=List.eq_nil_of_length_eq_zero hcnt;have:=List.filter_eq_nil_iff.1 hne (listed[i]'(by omega)) (by simp);simpa using this
  refine⟨?_,M,bm,tk,ρf,σ,.normal,hρf,.normal,h.congr (fun t=>?_),hl⟩
  ·unfold Region.ready;rw[List.filter_eq_nil_iff];intro i hi;have hi':i<l.length:=by rw[hnl];simpa using hi
   have h9:=hall i hi'
   have:listed.getD i true=true:=by
    have hb:listed[i]? = some (listed[i]'(by omega)):=Array.getElem?_eq_getElem _;rw[Array.getD_eq_getD_getElem?,hb,Option.getD_some]at h9 ⊢;exact h9
   simp[this]
  ·rw[hρe t];refine cK _ _ ρ t (by rw[hsteps,hsteps]) (fun i g1 g2=>?_);rw[hsteps]at g1;rw[hsg _ i (by rw[hsteps];exact g1) g1,hsg _ i (by rw[hsteps];exact g1) g1];exact⟨rfl,rfl,fun _=>(hall i g1).symm⟩
 | succ fuel ih=>
  intro listed M tk a w hl h hsz hcl hcnt;refine⟨fun hnil=>?_,fun i hi=>?_⟩
  ·exfalso
   have hex:∃i,i<l.length∧listed.getD i false=false:=by
    apply Classical.byContradiction;intro hno
    have hne:listed.toList.filter (! ·)=[]:=by
     rw[List.filter_eq_nil_iff];intro b hb;obtain⟨i,hi,rfl⟩:=List.getElem_of_mem hb;have hi':i<listed.size:=by simpa using hi
     have h9:¬listed.getD i false=false:=fun e=>hno ⟨i,by omega,e⟩;have hb:listed[i]? = some listed[i]:=Array.getElem?_eq_getElem hi';rw[Array.getD_eq_getD_getElem?,hb,Option.getD_some]at h9;simpa using h9
    rw[hne]at hcnt;simp at hcnt
   have hmin:∃i,i<l.length∧listed.getD i false=false∧∀j,j<i→listed.getD j false=true:=by
    obtain⟨i,h1,h2⟩:=hex
    induction i using Nat.strongRecOn with
    | _ i ihm=>
    by_cases hj:∃j,j<i∧listed.getD j false=false
    ·obtain⟨j,g1,g2⟩:=hj;exact ihm j g1 (by omega) g2
    ·exact⟨i,h1,h2,fun j hji=>by
      cases hb:listed.getD j false with
      | true=>rfl
      | false=>exact absurd ⟨j,hji,hb⟩ hj⟩
   obtain⟨i,h1,h2,h3⟩:=hmin;have hio:i<ops.toList.length:=by rw[←hlen];exact h1
   have:i∈Region.ready .any ops listed:=by
    unfold Region.ready;rw[List.mem_filter];refine⟨by simp;omega,?_⟩
    have ht:listed.getD i true=false:=by
     have hb:listed[i]? = some (listed[i]'(by omega)):=Array.getElem?_eq_getElem _;rw[Array.getD_eq_getD_getElem?,hb,Option.getD_some]at h2 ⊢;exact h2
    have ho:ops[i]? = some (ops[i]'(by omega)):=Array.getElem?_eq_getElem _;rw[ht,ho];simp only[Bool.not_false,Bool.true_and,Option.map_some,Option.getD_some];rw[←Array.all_toList,List.all_eq_true];intro e he;cases hb:Region.binds .any e with
    | false=>rfl
    | true=>
     have:e.on∈aB (ops[i]'(by omega)):=by
      unfold aB;exact List.mem_map.2 ⟨e,List.mem_filter.2 ⟨he,hb⟩,rfl⟩
     simp[h3 e.on (hlt i _ (by rw[List.getElem?_eq_getElem hio];simp) e.on this)]
   rw[hnil]at this;cases this
  ·unfold Region.ready at hi;rw[List.mem_filter]at hi;obtain⟨hir,hic⟩:=hi;have hi1:i<ops.size:=by simpa using hir
   have hi2:i<l.length:=by omega
   have ho:ops[i]? = some ops[i]:=Array.getElem?_eq_getElem hi1;have hoL:ops.toList[i]? = some ops[i]:=by rw[Array.getElem?_toList];exact ho
   rw[ho]at hic;simp only[Option.map_some,Option.getD_some,Bool.and_eq_true,Bool.not_eq_true']at hic;obtain⟨hun,hed⟩:=hic
   have hun':listed[i]? = some false:=by
    have hb:listed[i]? = some (listed[i]'(by omega)):=Array.getElem?_eq_getElem _;rw[Array.getD_eq_getD_getElem?,hb,Option.getD_some]at hun;rw[hb,hun]
   have hunf:listed.getD i false=false:=by rw[Array.getD_eq_getD_getElem?,hun'];rfl
   have hedge:∀j∈aB ops[i],listed.getD j false=true:=by
    intro j hj;unfold aB at hj;obtain⟨e,he,rfl⟩:=List.mem_map.1 hj;rw[List.mem_filter]at he;rw[←Array.all_toList,List.all_eq_true]at hed;have:=hed e he.1;simpa[he.2]using this
   have hbef:=cD hlt (S:=fun j=>listed.getD j false=true) hcl i _ hoL hedge
   have hlist:∀j p,l[j]? = some p→listed.getD j false=true→∀q∈(aI ops.toList []).getD j [],listed.getD q false=true:=fun j p hj hjl=>by
    have hjo:j<ops.toList.length:=by rw[←hlen];exact(List.getElem?_eq_some_iff.1 hj).1
    exact cD hlt (S:=fun j=>listed.getD j false=true) hcl j _ (List.getElem?_eq_getElem hjo) (hcl j _ (List.getElem?_eq_getElem hjo) hjl)
   have hsame:∀t∈l[i].looks++l[i].dst.toList,∀j (hj:j<l.length),j≠i→l[j].dst=some t→(listed.getD j false=decide (j<i)):=by
    intro t ht j hj hne hd;rcases hcmp i l[i] (List.getElem?_eq_getElem hi2) t ht j l[j] (List.getElem?_eq_getElem hj) hd hne with⟨g1,g2⟩|⟨g1,g2⟩
    ·rw[hbef j g2];simp[g1]
    ·have:¬listed.getD j false=true:=fun hjl=>by
      have:=hlist j l[j] (List.getElem?_eq_getElem hj) hjl i g2;rw[hunf]at this;cases this
     have e:listed.getD j false=false:=by simpa using this
     rw[e];simp;omega
   obtain⟨ρi,hL,hρi⟩:=hloc i hi2 (by omega)
   have hgetL:∀t∈l[i].looks,get ρi t=get (ba (bj l xs 0 fun i=>listed.getD i false) ρ) t:=by
    intro t ht;rw[hρi t];refine cK _ _ ρ t (by rw[hsteps,hsteps]) (fun j g1 g2=>?_);rw[hsteps]at g1;rw[hsg _ j (by rw[hsteps];exact g1) g1,hsg _ j (by rw[hsteps];exact g1) g1];refine⟨rfl,rfl,fun hd=>?_⟩;simp only[Nat.zero_add];by_cases e:j=i
    ·subst e;rw[hunf];simp
    ·exact(hsame t (by simp[ht]) j g1 e hd).symm
   have hL2:=hL.congr hgetL
   have hnext:∀t,get (ba (bj l xs 0 fun j=>(listed.setIfInBounds i true).getD j false) ρ) t=get (putd (ba (bj l xs 0 fun j=>listed.getD j false) ρ) l[i].dst (xs[i]'(by omega))) t:=by
    intro t
    have hset:∀j,(listed.setIfInBounds i true).getD j false=if j=i then true else listed.getD j false:=fun j=>by
     rw[Array.getD_eq_getD_getElem?,Array.getD_eq_getD_getElem?];split
     ·rename_i e;subst e;rw[Array.getElem?_setIfInBounds_self_of_lt (by omega)];rfl
     ·rename_i e;rw[Array.getElem?_setIfInBounds_ne (Ne.symm e)]
    rw[ci];split
    ·rename_i e
     have:=jU (bj l xs 0 fun j=>(listed.setIfInBounds i true).getD j false) ρ i (by rw[hsteps];exact hi2) t (by rw[hsg _ i _ hi2];exact e) (by rw[hsg _ i _ hi2,hset];simp) (fun j hj hij hd=>by
      rw[hsteps]at hj;rw[hsg _ j _ hj]at hd ⊢;simp only at hd ⊢;rw[hset,if_neg (by omega),hsame t (by simp[e]) j hj (by omega) hd];simp;omega)
     rw[this,hsg _ i _ hi2]
    ·rename_i e;refine cK _ _ ρ t (by rw[hsteps,hsteps]) (fun j g1 g2=>?_);rw[hsteps]at g1;rw[hsg _ j (by rw[hsteps];exact g1) g1,hsg _ j (by rw[hsteps];exact g1) g1];refine⟨rfl,rfl,fun hd=>?_⟩;simp only at hd ⊢;rw[hset,if_neg (fun ee=>by subst ee;exact e hd)]
   have hnextcl:∀(q:Nat) (o:Oper),ops.toList[q]? = some o→(listed.setIfInBounds i true).getD q false=true→∀j∈aB o,(listed.setIfInBounds i true).getD j false=true:=by
    have hset:∀j,(listed.setIfInBounds i true).getD j false=if j=i then true else listed.getD j false:=fun j=>by
     rw[Array.getD_eq_getD_getElem?,Array.getD_eq_getD_getElem?];split
     ·rename_i e;subst e;rw[Array.getElem?_setIfInBounds_self_of_lt (by omega)];rfl
     ·rename_i e;rw[Array.getElem?_setIfInBounds_ne (Ne.symm e)]
    intro q o hqo hql j hj;rw[hset]at hql ⊢;split
    ·rfl
    ·split at hql
     ·rename_i e;subst e;rw[hoL]at hqo;cases hqo;exact hedge j hj
     ·exact hcl q o hqo hql j hj
   have hnextc:((listed.setIfInBounds i true).toList.filter (! ·)).length=fuel:=by
    have:=fm listed.toList i (by rw[Array.getElem?_toList];exact hun');rw[Array.toList_setIfInBounds];omega
   have hoo:=hget i l[i] ops[i] (List.getElem?_eq_getElem hi2) hoL
   have hdst:l[i].dst=ops[i].dst:=by
    unfold okO at hoo;simp only[Bool.and_eq_true,beq_iff_eq]at hoo;exact hoo.1.1.2
   have hdn:∀d,ops[i].dst=some d→d<n:=by
    unfold okO at hoo;simp only[Bool.and_eq_true]at hoo;intro d hd;have:=hoo.1.2;rw[hd]at this;simpa using this
   have hgd:=hoo;unfold okO at hgd;simp only[Bool.and_eq_true]at hgd;replace hgd:=hgd.2
   have exec:bB C l[i].op (ba (bj l xs 0 fun i=>listed.getD i false) ρ) σ (fun v=>v=xs[i]'(by omega))→(ops[i]).wp C.P a w (wpAny C.P .any ops (bp M0 bm0 pr w0 n Q) fuel (listed.setIfInBounds i true)) (bp M0 bm0 pr w0 n Q):=fun hc=>by
    refine Oper.wp_mono2 (fun a' w' hL=>?_) (fun e a' w' hL=>?_) (cq (hG.mono hl) h hoo (j8 hc))
    ·obtain⟨M',bm',tk',ρ',σ',⟨rfl,rfl⟩,k2,k3⟩:=hL
     have hbm:bm'=bm:=by
      obtain⟨t,rfl⟩:=k3.pre;have e1:=k2.inv.len;have e2:=h.inv.len;have:t=[]:=List.eq_nil_of_length_eq_zero (by simp at e1;omega);simp[this]
     subst hbm;exact ih _ M' tk' a' w' (hl.trans k3 (fun _ h=>h)) (k2.congr hnext) (by simp[hsz]) hnextcl hnextc
    ·obtain⟨_,_,_,_,_,_,hf,_⟩:=hL;exact hf.elim
   unfold wpOp;rw[ho];simp only;unfold Loc at hL2;split at hL2
   ·rename_i hg;rw[hg]at hgd;split at hgd
    ·rename_i hg2;rw[if_pos (by simp[Region.wanted,hg2])];exact .inl (exec hL2)
    ·rename_i e _;cases e
    ·cases hgd
   ·rename_i t want hg;rw[hg]at hgd;split at hgd
    ·rename_i e _;cases e
    ·rename_i t' b' j b'' e hg2;cases e;simp only[Bool.and_eq_true,beq_iff_eq]at hgd;obtain⟨rfl,hj⟩:=hgd;split at hL2
     ·rename_i b hb;have hy:=eK h hb hj;by_cases hbw:b=want
      ·rw[if_pos (by simp[Region.wanted,hg2,hy,hbw])];exact .inl (exec (hL2.1 hbw))
      ·rw[if_neg (by simp[Region.wanted,hg2,hy,hbw])];have hx:=hL2.2 hbw;refine ih _ M tk _ w hl ((h.putd hdn gf (by simp)).congr fun t=>?_) (by simp[hsz]) hnextcl hnextc;rw[hnext t,hx,hdst]
     ·rename_i hb;have hy:=io h hb hj;rw[if_neg (by simp[Region.wanted,hg2,hy])];refine ih _ M tk _ w hl ((h.putd hdn gf (by simp)).congr fun t=>?_) (by simp[hsz]) hnextcl hnextc;rw[hnext t,hL2,hdst]
     ·exact hL2.elim
    ·cases hgd
end
end Go.Proofs.YtcbahpllcfbkmaaGreatDoor
namespace Go.Proofs.YtcbahpllcfbkmaaGreatDoor
open Go.RowKit
section
variable {C : Cx} {pr : Prot} {n : Nat} {Q : AEx → al → List (List V) → Prop}
theorem tG{M0:au}{bm0:List Nat}{w0:World}{id:Nat}{ops:Array Oper}{M:au}{bm:List Nat}{tk:aU}{a:Act}{w:World}(St:(Nat→Bool)→al)(Sg:(Nat→Bool)→List (List V))(ρf:al)(σf:List (List V))
 (hlt:∀(i:Nat) (o:Oper),ops.toList[i]? = some o→∀j∈aB o,j<i)
 (hext:∀S S',(∀j,j<ops.size→S j=S' j)→(∀t,get (St S) t=get (St S') t)∧Sg S=Sg S')
 (hl:Later M0 bm0 pr w0 M bm w)(h:SRel M bm tk pr (St fun _=>false) (Sg fun _=>false) n a w)
 (hf:(∀t,get ρf t=get (St fun _=>true) t)∧σf=Sg fun _=>true)(hq:Q .normal ρf σf)
 (step:∀(S:Nat→Bool) (i:Nat) (o:Oper),ops.toList[i]? = some o→S i=false→(∀(j:Nat) (p:Oper),ops.toList[j]? = some p→S j=true→∀e∈aB p,S e=true)→(∀e∈aB o,S e=true)→
   ∀(M:au) (bm:List Nat) (tk:aU) (a:Act) (w:World),Later M0 bm0 pr w0 M bm w→SRel M bm tk pr (St S) (Sg S) n a w→
    if Region.wanted o (yielded ops a.tmps)then o.wp C.P a w (gF M bm pr w n fun ρ' σ'=>(∀t,get ρ' t=get (St fun j=>j==i||S j) t)∧σ'=Sg fun j=>j==i||S j) (bp M bm pr w n fun _ _ _=>False)
    else SRel M bm tk pr (St fun j=>j==i||S j) (Sg fun j=>j==i||S j) n (a.put o.dst undef) w):
 (Code.region id ops true).wp C.P (bp M0 bm0 pr w0 n Q) a w:=by
 refine wp_region_any C.mixed ?_
 suffices H:∀(fuel:Nat) (listed:Array Bool) (M:au) (bm:List Nat) (tk:aU) (a:Act) (w:World),Later M0 bm0 pr w0 M bm w→SRel M bm tk pr (St fun i=>listed.getD i false) (Sg fun i=>listed.getD i false) n a w→listed.size=ops.size→
  (∀(i:Nat) (o:Oper),ops.toList[i]? = some o→listed.getD i false=true→∀j∈aB o,listed.getD j false=true)→(listed.toList.filter (! ·)).length=fuel→wpAny C.P .any ops (bp M0 bm0 pr w0 n Q) fuel listed a w by
  obtain⟨h1,h2⟩:=h.ext (bW.drew w)
  have hrep:∀j,(Array.replicate ops.size false).getD j false=false:=fun j=>by
   simp only[Array.getD_eq_getD_getElem?,Array.getElem?_replicate];split<;>rfl
  obtain⟨e1,e2⟩:=hext (fun i=>(Array.replicate ops.size false).getD i false) (fun _=>false) (fun j _=>hrep j);refine H ops.size (Array.replicate ops.size false) M bm tk a w.drew (hl.trans h2 (fun _ h=>h)) ?_ (by simp) (fun i o ho hi=>?_) (by simp)
  ·rw[e2];exact h1.congr e1
  ·rw[hrep]at hi;cases hi
 intro fuel
 induction fuel with
 | zero=>
  intro listed M bm tk a w hl h hsz hcl hcnt
  have hall:∀i,i<ops.size→listed.getD i false=true:=fun i hi=>by
   have hb:listed[i]? = some (listed[i]'(by omega)):=Array.getElem?_eq_getElem _;rw[Array.getD_eq_getD_getElem?,hb,Option.getD_some];have hne:listed.toList.filter (! ·)=[]:=List.eq_nil_of_length_eq_zero hcnt;have:=List.filter_eq_nil_iff.1 hne (listed[i]'(by omega)) (by simp);simpa using this
  obtain⟨e1,e2⟩:=hext (fun i=>listed.getD i false) (fun _=>true) hall;refine⟨?_,M,bm,tk,ρf,σf,.normal,hq,.normal,?_,hl⟩
  ·unfold Region.ready;rw[List.filter_eq_nil_iff];intro i hi;have hi':i<ops.size:=by simpa using hi
   have h9:=hall i hi'
   have:listed.getD i true=true:=by
    have hb:listed[i]? = some (listed[i]'(by omega)):=Array.getElem?_eq_getElem _;rw[Array.getD_eq_getD_getElem?,hb,Option.getD_some]at h9 ⊢;exact h9
   simp[this]
  ·rw[hf.2,←e2];exact h.congr fun t=>(hf.1 t).trans (e1 t).symm
 | succ fuel ih=>
  intro listed M bm tk a w hl h hsz hcl hcnt;refine⟨fun hnil=>?_,fun i hi=>?_⟩
  ·exfalso
   have hex:∃i,i<ops.size∧listed.getD i false=false:=by
    apply Classical.byContradiction;intro hno
    have hne:listed.toList.filter (! ·)=[]:=by
     rw[List.filter_eq_nil_iff];intro b hb;obtain⟨i,hi,rfl⟩:=List.getElem_of_mem hb;have hi':i<listed.size:=by simpa using hi
     have h9:¬listed.getD i false=false:=fun e=>hno ⟨i,by omega,e⟩;have hb:listed[i]? = some listed[i]:=Array.getElem?_eq_getElem hi';rw[Array.getD_eq_getD_getElem?,hb,Option.getD_some]at h9;simpa using h9
    rw[hne]at hcnt;simp at hcnt
   have hmin:∃i,i<ops.size∧listed.getD i false=false∧∀j,j<i→listed.getD j false=true:=by
    obtain⟨i,h1,h2⟩:=hex
    induction i using Nat.strongRecOn with
    | _ i ihm=>
    by_cases hj:∃j,j<i∧listed.getD j false=false
    ·obtain⟨j,g1,g2⟩:=hj;exact ihm j g1 (by omega) g2
    ·exact⟨i,h1,h2,fun j hji=>by
      cases hb:listed.getD j false with
      | true=>rfl
      | false=>exact absurd ⟨j,hji,hb⟩ hj⟩
   obtain⟨i,h1,h2,h3⟩:=hmin;have hio:i<ops.toList.length:=by simpa using h1
   have:i∈Region.ready .any ops listed:=by
    unfold Region.ready;rw[List.mem_filter];refine⟨by simp;omega,?_⟩
    have ht:listed.getD i true=false:=by
     have hb:listed[i]? = some (listed[i]'(by omega)):=Array.getElem?_eq_getElem _;rw[Array.getD_eq_getD_getElem?,hb,Option.getD_some]at h2 ⊢;exact h2
    have ho:ops[i]? = some (ops[i]'(by omega)):=Array.getElem?_eq_getElem _;rw[ht,ho];simp only[Bool.not_false,Bool.true_and,Option.map_some,Option.getD_some];rw[←Array.all_toList,List.all_eq_true];intro e he;cases hb:Region.binds .any e with
    | false=>rfl
    | true=>
     have:e.on∈aB (ops[i]'(by omega)):=by
      unfold aB;exact List.mem_map.2 ⟨e,List.mem_filter.2 ⟨he,hb⟩,rfl⟩
     simp[h3 e.on (hlt i _ (by rw[List.getElem?_eq_getElem hio];simp) e.on this)]
   rw[hnil]at this;cases this
  ·unfold Region.ready at hi;rw[List.mem_filter]at hi;obtain⟨hir,hic⟩:=hi;have hi1:i<ops.size:=by simpa using hir
   have ho:ops[i]? = some ops[i]:=Array.getElem?_eq_getElem hi1;have hoL:ops.toList[i]? = some ops[i]:=by rw[Array.getElem?_toList];exact ho
   rw[ho]at hic;simp only[Option.map_some,Option.getD_some,Bool.and_eq_true,Bool.not_eq_true']at hic;obtain⟨hun,hed⟩:=hic
   have hun':listed[i]? = some false:=by
    have hb:listed[i]? = some (listed[i]'(by omega)):=Array.getElem?_eq_getElem _;rw[Array.getD_eq_getD_getElem?,hb,Option.getD_some]at hun;rw[hb,hun]
   have hunf:listed.getD i false=false:=by rw[Array.getD_eq_getD_getElem?,hun'];rfl
   have hedge:∀j∈aB ops[i],listed.getD j false=true:=by
    intro j hj;unfold aB at hj;obtain⟨e,he,rfl⟩:=List.mem_map.1 hj;rw[List.mem_filter]at he;rw[←Array.all_toList,List.all_eq_true]at hed;have:=hed e he.1;simpa[he.2]using this
   have hset:∀j,(listed.setIfInBounds i true).getD j false=(j==i||listed.getD j false):=fun j=>by
    rw[Array.getD_eq_getD_getElem?,Array.getD_eq_getD_getElem?];by_cases e:j=i
    ·subst e;rw[Array.getElem?_setIfInBounds_self_of_lt (by omega)];simp
    ·rw[Array.getElem?_setIfInBounds_ne (Ne.symm e)];simp[e]
   have hnextcl:∀(q:Nat) (o:Oper),ops.toList[q]? = some o→(listed.setIfInBounds i true).getD q false=true→∀j∈aB o,(listed.setIfInBounds i true).getD j false=true:=by
    intro q o hqo hql j hj;rw[hset]at hql ⊢;simp only[Bool.or_eq_true,beq_iff_eq]at hql ⊢;rcases hql with rfl|hql
    ·rw[hoL]at hqo;cases hqo;exact .inr (hedge j hj)
    ·exact .inr (hcl q o hqo hql j hj)
   have hnextc:((listed.setIfInBounds i true).toList.filter (! ·)).length=fuel:=by
    have:=fm listed.toList i (by rw[Array.getElem?_toList];exact hun');rw[Array.toList_setIfInBounds];omega
   obtain⟨e1,e2⟩:=hext (fun j=>(listed.setIfInBounds i true).getD j false) (fun j=>j==i||listed.getD j false) (fun j _=>hset j);have hst:=step (fun j=>listed.getD j false) i ops[i] hoL hunf hcl hedge M bm tk a w hl h;unfold wpOp;rw[ho];simp only;split at hst
   ·rename_i hw;rw[if_pos hw];refine .inl (Oper.wp_mono2 (fun a' w' hL=>?_) (fun e a' w' hL=>?_) hst)
    ·obtain⟨M',bm',tk',ρ',σ',⟨k0,rfl⟩,k2,k3⟩:=hL;refine ih _ M' bm' tk' a' w' (hl.trans k3 (fun _ h=>h)) ?_ (by simp[hsz]) hnextcl hnextc;rw[e2];exact k2.congr fun t=>(e1 t).trans (k0 t).symm
    ·obtain⟨_,_,_,_,_,_,hf,_⟩:=hL;exact hf.elim
   ·rename_i hw;rw[if_neg hw];refine ih _ M bm tk _ w hl ?_ (by simp[hsz]) hnextcl hnextc;rw[e2];exact hst.congr e1
end
end Go.Proofs.YtcbahpllcfbkmaaGreatDoor
namespace Go.Proofs.YtcbahpllcfbkmaaGreatDoor
open Go.RowKit
def OP.slotsA:OP→List Nat
 | .ldo x=>x.slots
 | .app _ _ _ t y=>t::y.slots
 | .stoo x t=>x.slots++[t]
 | op=>op.slots
def OP.special:OP→Bool
 | .ldo _=>true
 | .app _ _ _ _ _=>true
 | .stoo _ _=>true
 | _=>false
def O.looksA(o:O):List Nat:=o.op.slotsA++(match o.g with|some (t,_)=>[t]|none=>[])
structure Cell where
 i:Nat
 off:Nat
 T:TypeId
 k:Nat
 rows:List (List D)
section
variable {C : Cx} {pr : Prot} {ρ : al} {n : Nat} {Q : AEx → al → List (List V) → Prop}
structure Pos where
 iL:Nat
 iA:Nat
 iS:Nat
 tL:Nat
 tA:Nat
structure OKA(p:Pos)(l:List O)(os:List Oper):Prop where
 lt:∀(i:Nat) (o:Oper),os[i]? = some o→∀j∈aB o,j<i
 cmp:∀(i:Nat) (o:O),l[i]? = some o→∀t∈o.looksA++o.dst.toList,∀(j:Nat) (q:O),l[j]? = some q→q.dst=some t→j≠i→(j<i∧j∈(aI os []).getD i [])∨(i<j∧i∈(aI os []).getD j [])
 spec:∀(i:Nat) (o:O),l[i]? = some o→(o.op.special=true↔i=p.iL∨i=p.iA∨i=p.iS)
 lookL:∀(i:Nat) (o:O),l[i]? = some o→i≠p.iA→p.tL∉o.looksA
 dstL:∀(i:Nat) (o:O),l[i]? = some o→i≠p.iL→o.dst≠some p.tL
 lookA:∀(i:Nat) (o:O),l[i]? = some o→i≠p.iS→p.tA∉o.looksA
 dstA:∀(i:Nat) (o:O),l[i]? = some o→i≠p.iA→o.dst≠some p.tA
 last:∀(i:Nat) (o:O),l[i]? = some o→i≠p.iS→i∈(aI os []).getD p.iS []
 opL:∃y,l[p.iL]? = some ⟨some p.tL,.ldo y,none⟩
 opA:∃T k b y,l[p.iA]? = some ⟨some p.tA,.app T k b p.tL y,none⟩∧p.tL∉y.slots
 opS:∃y,l[p.iS]? = some ⟨none,.stoo y p.tA,none⟩∧p.tA∉y.slots
 ab:p.iL∈(aI os []).getD p.iA []
 ne:p.tL≠p.tA
end
end Go.Proofs.YtcbahpllcfbkmaaGreatDoor
namespace Go.Proofs.YtcbahpllcfbkmaaGreatDoor
open Go.RowKit
def OP.slotsN:OP→List Nat
 | .sto _ x y=>x.slots++y.slots
 | op=>op.slots
def OP.specialN:OP→Bool
 | .new _ _=>true
 | .sto _ _ _=>true
 | _=>false
def O.looksN(o:O):List Nat:=o.op.slotsN++(match o.g with|some (t,_)=>[t]|none=>[])
section
variable {C : Cx} {pr : Prot} {ρ : al} {n : Nat} {Q : AEx → al → List (List V) → Prop}
structure PosN where
 iN:Nat
 iS:Nat
 tN:Nat
structure OKN(p:PosN)(l:List O)(os:List Oper):Prop where
 lt:∀(i:Nat) (o:Oper),os[i]? = some o→∀j∈aB o,j<i
 cmp:∀(i:Nat) (o:O),l[i]? = some o→∀t∈o.looksN++o.dst.toList,∀(j:Nat) (q:O),l[j]? = some q→q.dst=some t→j≠i→(j<i∧j∈(aI os []).getD i [])∨(i<j∧i∈(aI os []).getD j [])
 spec:∀(i:Nat) (o:O),l[i]? = some o→(o.op.specialN=true↔i=p.iN∨i=p.iS)
 dstN:∀(i:Nat) (o:O),l[i]? = some o→i≠p.iN→o.dst≠some p.tN
 last:∀(i:Nat) (o:O),l[i]? = some o→i≠p.iS→i∈(aI os []).getD p.iS []
 opN:∃T cs,l[p.iN]? = some ⟨some p.tN,.new T cs,none⟩
 opS:∃kk y z,l[p.iS]? = some ⟨none,.sto kk y z,none⟩
end
end Go.Proofs.YtcbahpllcfbkmaaGreatDoor
namespace Go.Proofs.YtcbahpllcfbkmaaGreatDoor
open Go.RowKit
def OP.specialS:OP→Bool
 | .sto _ _ _=>true
 | _=>false
section
variable {C : Cx} {pr : Prot} {ρ : al} {n : Nat} {Q : AEx → al → List (List V) → Prop}
def lw(C:Cx)(σ:List (List V)):List O→al→Option (List (List V))→(al→List (List V)→Prop)→Prop
 | [],ρ,acc,K=>match acc with|some σf=>K ρ σf|none=>False
 | o::r,ρ,acc,K=>match o.op with
  | .sto kk y z=>o.g=none∧o.dst=none∧match acc,ev C ρ y with
   | none,.ptr i off=>match σ[i]? with
    | some cs=>((ev C ρ z).boxable=true∧(ev C ρ z).cells.length=kk∧off+kk≤cs.length∧bJ cs=true)∧lw C σ r ρ (some (σ.set i (over cs off (ev C ρ z).cells))) K
    | none=>False
   | _,_=>False
  | op=>match o.g with
   | none=>bB C op ρ σ fun v=>lw C σ r (putd ρ o.dst v) acc K
   | some (t,want)=>match get ρ t with
    | .d (.lit (.bool b))=>(b=want→bB C op (put ρ t (.d (.lit (.bool want)))) σ fun v=>lw C σ r (putd (put ρ t (.d (.lit (.bool want)))) o.dst v) acc K)∧(b≠want→lw C σ r (putd (put ρ t (.d (.lit (.bool (!want))))) o.dst (.tup [])) acc K)
    | .tup []=>lw C σ r (putd ρ o.dst (.tup [])) acc K
    | _=>False
def O.free(o:O):Bool:=match o.op,o.g with
 | .mv (.k _),none=>true
 | _,_=>false
structure OKS(iS:Nat)(l:List O)(os:List Oper):Prop where
 lt:∀(i:Nat) (o:Oper),os[i]? = some o→∀j∈aB o,j<i
 cmp:∀(i:Nat) (o:O),l[i]? = some o→∀t∈o.looksN++o.dst.toList,∀(j:Nat) (q:O),l[j]? = some q→q.dst=some t→j≠i→(j<i∧j∈(aI os []).getD i [])∨(i<j∧i∈(aI os []).getD j [])
 spec:∀(i:Nat) (o:O),l[i]? = some o→(o.op.specialS=true↔i=iS)
 last:∀(i:Nat) (o:O),l[i]? = some o→i≠iS→o.free=true∨i∈(aI os []).getD iS []
 opS:∃kk y z,l[iS]? = some ⟨none,.sto kk y z,none⟩
end
end Go.Proofs.YtcbahpllcfbkmaaGreatDoor
namespace Go.Proofs.YtcbahpllcfbkmaaGreatDoor
open Go.RowKit
def bL(s d0 d1 T k bytes:Nat)(y:X)(mid:List O):List O:=⟨some d0,.mvo s,none⟩::(mid++[⟨some d1,.app T k bytes d0 y,none⟩,⟨some s,.mvo d1,none⟩])
theorem AB(s d0 d1 T k bytes:Nat)(y:X)(mid:List O):(bL s d0 d1 T k bytes y mid).length=mid.length+3:=by simp[bL]
theorem Ak{s d0 d1 T k bytes:Nat}{y:X}{mid:List O}{i:Nat}(h:i<mid.length):(bL s d0 d1 T k bytes y mid)[i+1]? = some mid[i]:=by
 unfold bL;rw[List.getElem?_cons_succ,List.getElem?_append_left h,List.getElem?_eq_getElem h]
theorem Ar{s d0 d1 T k bytes:Nat}{y:X}{mid:List O}:(bL s d0 d1 T k bytes y mid)[mid.length+1]? = some ⟨some d1,.app T k bytes d0 y,none⟩:=by
 unfold bL;rw[List.getElem?_cons_succ,List.getElem?_append_right (Nat.le_refl _)];simp
theorem xH{s d0 d1 T k bytes:Nat}{y:X}{mid:List O}:(bL s d0 d1 T k bytes y mid)[mid.length+2]? = some ⟨some s,.mvo d1,none⟩:=by
 unfold bL;rw[List.getElem?_cons_succ,List.getElem?_append_right (by omega)];simp
def iG(s d0 d1:Nat)(y:X)(mid:List O)(os:List Oper):Bool:=
 let bf:=aI os [];let free:=fun t=>t != s&&t != d0&&t != d1
 ((List.range os.length).all fun i=>match os[i]? with|some o=>(aB o).all fun j=>decide (j<i)|none=>true) &&
 (((List.range mid.length).all fun i=>match mid[i]? with
   | some o=>((o.looks++o.dst.toList).all fun t=>free t&&(List.range mid.length).all fun j=>j==i||(match mid[j]? with
    | some q=>q.dst != some t||(if j<i then(bf.getD (i+1) []).contains (j+1)else(bf.getD (j+1) []).contains (i+1))
    | none=>true))&&(bf.getD (mid.length+1) []).contains (i+1)
   | none=>true) &&
 (y.slots.all free&&((bf.getD (mid.length+1) []).contains 0&&((bf.getD (mid.length+2) []).contains (mid.length+1)&&(s != d0&&(s != d1&&d0 != d1))))))
structure OKB(s d0 d1:Nat)(y:X)(mid:List O)(os:List Oper):Prop where
 lt:∀(i:Nat) (o:Oper),os[i]? = some o→∀j∈aB o,j<i
 free:∀(i:Nat) (h:i<mid.length),∀t∈mid[i].looks++mid[i].dst.toList,t≠s∧t≠d0∧t≠d1
 cmp:∀(i:Nat) (h:i<mid.length),∀t∈mid[i].looks++mid[i].dst.toList,∀(j:Nat) (hj:j<mid.length),mid[j].dst=some t→j≠i→(j<i∧j+1∈(aI os []).getD (i+1) [])∨(i<j∧i+1∈(aI os []).getD (j+1) [])
 all:∀(i:Nat),i<mid.length→i+1∈(aI os []).getD (mid.length+1) []
 yfree:∀t∈y.slots,t≠s∧t≠d0∧t≠d1
 first:0∈(aI os []).getD (mid.length+1) []
 last:mid.length+1∈(aI os []).getD (mid.length+2) []
 ne:s≠d0∧s≠d1∧d0≠d1
theorem pT{s d0 d1:Nat}{y:X}{mid:List O}{os:List Oper}(h:iG s d0 d1 y mid os=true):OKB s d0 d1 y mid os:=by
 unfold iG at h;simp only[Bool.and_eq_true,bne_iff_ne,ne_eq,List.contains_iff_mem]at h;obtain⟨h1,h2,h3,h4,h5,h6⟩:=h;simp only[List.all_eq_true,List.mem_range,Bool.and_eq_true,bne_iff_ne,ne_eq]at h1 h2 h3
 have one:∀(i:Nat) (h:i<mid.length),_:=fun i hi=>by
  have:=h2 i hi;rw[List.getElem?_eq_getElem hi]at this;simp only[Bool.and_eq_true,List.all_eq_true,List.mem_range,bne_iff_ne,ne_eq,List.contains_iff_mem]at this;exact this
 refine⟨fun i o ho j hj=>?_,fun i hi t ht=>?_,fun i hi t ht j hj hd hne=>?_,fun i hi=>(one i hi).2,fun t ht=>?_,h4,h5,h6⟩
 ·have:=h1 i (List.getElem?_eq_some_iff.1 ho).1;rw[ho]at this;simpa using List.all_eq_true.1 this j hj
 ·obtain⟨⟨a,b⟩,c⟩:=((one i hi).1 t ht).1;exact⟨a,b,c⟩
 ·have h2:=((one i hi).1 t ht).2 j hj;rw[List.getElem?_eq_getElem hj]at h2;simp only[hd,Bool.or_eq_true,beq_iff_eq,bne_self_eq_false,Bool.false_eq_true,false_or]at h2;rcases h2 with h2|h2
  ·exact absurd h2 hne
  ·split at h2
   ·exact .inl ⟨by assumption,by simpa using h2⟩
   ·exact .inr ⟨by omega,by simpa using h2⟩
 ·obtain⟨⟨a,b⟩,c⟩:=h3 t ht;exact⟨a,b,c⟩
section
variable {C : Cx} {pr : Prot} {ρ : al} {σ : List (List V)} {n : Nat} {Q : AEx → al → List (List V) → Prop}
def lk(s d0 d1 T k:Nat)(rows r2:List (List D))(ρ:al):al:=put (put (put ρ s (.own T k (rows++r2))) d0 (.d (.sl rows))) d1 (.d (.sl (rows++r2)))
def stB(s d0 d1 T k:Nat)(rows r2:List (List D)):Bool→Bool→Bool→al→al
 | true,_,_,ρ=>lk s d0 d1 T k rows r2 ρ
 | false,true,_,ρ=>put (put (put ρ s (.d (.sl rows))) d0 (.d (.sl rows))) d1 (.own T k (rows++r2))
 | false,false,true,ρ=>put (put ρ s (.d (.sl rows))) d0 (.own T k rows)
 | false,false,false,ρ=>ρ
theorem iU{s d0 d1 T k:Nat}{rows r2:List (List D)}{a b c:Bool}{ρ ρ':al}(h:∀t,get ρ t=get ρ' t)(t:Nat):get (stB s d0 d1 T k rows r2 a b c ρ) t=get (stB s d0 d1 T k rows r2 a b c ρ') t:=by
 cases a<;>cases b<;>cases c<;>simp only[stB,lk,bD,h]
theorem jV{s d0 d1 T k:Nat}{rows r2:List (List D)}{a b c:Bool}{ρ:al}{t:Nat}(h:t≠s∧t≠d0∧t≠d1):get (stB s d0 d1 T k rows r2 a b c ρ) t=get ρ t:=by
 obtain⟨h1,h2,h3⟩:=h;cases a<;>cases b<;>cases c<;>simp[stB,lk,bD,h1,h2,h3]
theorem xm{s d0 d1 T k:Nat}{rows r2:List (List D)}{a b c:Bool}{ρ:al}{d:Option Nat}{x:V}(h:∀t,d=some t→t≠s∧t≠d0∧t≠d1)(t:Nat):get (putd (stB s d0 d1 T k rows r2 a b c ρ) d x) t=get (stB s d0 d1 T k rows r2 a b c (putd ρ d x)) t:=by
 rw[ci];split
 ·rename_i e;rw[jV (h t e),ci,if_pos e]
 ·rename_i e;cases a<;>cases b<;>cases c<;>simp only[stB,lk,bD,ci,if_neg e]
def sH(C:Cx)(s d0 d1 T k bytes:Nat)(y:X)(mid:List O)(ρ:al)(σ:List (List V))(K:al→Prop):Prop:=match get ρ s with
 | .own T' k' rows=>T'=T∧k'=k∧aT C mid ρ σ fun ρ'=>match df (ev C ρ' y)with
  | some r2=>(r2.all (fun r=>r.length==k)=true∧(rows.length+r2.length)*bytes≤140737488355328)∧K (lk s d0 d1 T k rows r2 ρ')
  | none=>False
 | _=>False
theorem nN{M0:au}{bm0:List Nat}{w0:World}(hG:C.glob M0 pr w0){id:Nat}{ops:Array Oper}{s d0 d1 T k bytes:Nat}{y:X}{mid:List O}{M:au}{bm:List Nat}{tk:aU}{a:Act}{w:World}(hok:fA C.tab n ops (bL s d0 d1 T k bytes y mid) ops.toList=true)(hdr:iG s d0 d1 y mid ops.toList=true)
 (hl:Later M0 bm0 pr w0 M bm w)(h:SRel M bm tk pr ρ σ n a w)
 (hq:sH C s d0 d1 T k bytes y mid ρ σ fun ρ'=>Q .normal ρ' σ):
 (Code.region id ops true).wp C.P (bp M0 bm0 pr w0 n Q) a w:=by
 obtain⟨hlen,hget⟩:=fN hok;rw[AB]at hlen;have D:=pT hdr;obtain⟨ne1,ne2,ne3⟩:=D.ne;unfold sH at hq;split at hq;case h_2=>exact hq.elim
 rename_i T' k' rows hrow;obtain⟨rfl,rfl,hq⟩:=hq;obtain⟨xs,hxl,⟨ρf,hρf,hρe⟩,hloc⟩:=jM (k:=1) hq;split at hρf;case h_2=>exact hρf.elim
 rename_i r2 hr2;obtain⟨⟨hk,hby⟩,hQ⟩:=hρf;have hnl:mid.length+3=ops.size:=by rw[hlen];simp
 have hsteps:∀S:Nat→Bool,(bj mid xs 1 S).length=mid.length:=fun S=>gp mid xs 1 S hxl
 have hsg:∀(S:Nat→Bool) (i:Nat) (hi:i<(bj mid xs 1 S).length) (h1:i<mid.length),(bj mid xs 1 S)[i]=(mid[i].dst,xs[i]'(by omega),S (i+1)):=fun S i hi h1=>by
  have:=gj mid xs 1 S i hi h1 (by omega);rw[this,Nat.add_comm 1 i]
 have base:∀S S',(∀j,j<mid.length→S (j+1)=S' (j+1))→∀t,get (ba (bj mid xs 1 S) ρ) t=get (ba (bj mid xs 1 S') ρ) t:=fun S S' hS t=>by
  refine cK _ _ ρ t (by rw[hsteps,hsteps]) (fun i g1 g2=>?_);rw[hsteps]at g1;rw[hsg _ i (by rw[hsteps];exact g1) g1,hsg _ i (by rw[hsteps];exact g1) g1];exact⟨rfl,rfl,fun _=>hS i g1⟩
 have own:∀S t,t=s∨t=d0∨t=d1→get (ba (bj mid xs 1 S) ρ) t=get ρ t:=fun S t ht=>by
  rw[dy];intro q hq hd;obtain⟨j,hj,rfl⟩:=List.getElem_of_mem hq;rw[hsteps]at hj;rw[hsg _ j (by rw[hsteps];exact hj) hj]at hd;obtain⟨g1,g2,g3⟩:=D.free j hj t (by simp only at hd;simp[hd]);rcases ht with e|e|e
  ·exact absurd e g1
  ·exact absurd e g2
  ·exact absurd e g3
 have hst0:∀S,(∀j,S j=false)→∀t,get (ba (bj mid xs 1 S) ρ) t=get ρ t:=fun S hS t=>by
  rw[dy];intro q hq _;obtain⟨j,hj,rfl⟩:=List.getElem_of_mem hq;rw[hsteps]at hj;rw[hsg _ j (by rw[hsteps];exact hj) hj];exact hS _
 obtain⟨St,hSt⟩:∃St:(Nat→Bool)→al,∀S,St S=stB s d0 d1 T' k' rows r2 (S (mid.length+2)) (S (mid.length+1)) (S 0) (ba (bj mid xs 1 S) ρ):=⟨fun S=>stB s d0 d1 T' k' rows r2 (S (mid.length+2)) (S (mid.length+1)) (S 0) (ba (bj mid xs 1 S) ρ),fun _=>rfl⟩
 refine tG (M:=M) (bm:=bm) (tk:=tk) St (fun _=>σ) (lk s d0 d1 T' k' rows r2 ρf) σ D.lt (fun S S' hS=>⟨fun t=>?_,rfl⟩) hl ?_ ⟨fun t=>?_,rfl⟩ hQ ?_
 ·have e:=base S S' fun j hj=>hS (j+1) (by omega);rw[hSt,hSt,hS (mid.length+2) (by omega),hS (mid.length+1) (by omega),hS 0 (by omega)];exact iU e t
 ·simp only[hSt];exact h.congr (hst0 _ fun _=>rfl)
 ·rw[hSt];exact iU (a:=true) (b:=true) (c:=true) hρe t
 intro S i o' ho' hSi hclo hedge M bm tk a w hl h;have hi1:i<ops.toList.length:=(List.getElem?_eq_some_iff.1 ho').1;have hbef:∀j∈(aI ops.toList []).getD i [],S j=true:=cD D.lt (S:=fun j=>S j=true) hclo i o' ho' hedge
 have hbefj:∀q,q<mid.length+3→S q=true→∀j∈(aI ops.toList []).getD q [],S j=true:=fun q hq hSq=>by
  have hq2:ops.toList[q]? = some ops.toList[q]:=List.getElem?_eq_getElem (by omega);exact cD D.lt (S:=fun j=>S j=true) hclo q _ hq2 (hclo q _ hq2 hSq)
 have gt:∀o,(bL s d0 d1 T' k' bytes y mid)[i]? = some o→o.g=none→Region.wanted o' (yielded ops a.tmps)=true:=fun o ho hg=>by
  have hgd:=hget i o o' ho ho';unfold okO at hgd;simp only[Bool.and_eq_true]at hgd;replace hgd:=hgd.2;rw[hg]at hgd;split at hgd
  ·rename_i hg2;simp[Region.wanted,hg2]
  ·rename_i e _;cases e
  ·cases hgd
 have done:∀(K:al→List (List V)→Prop),(∀ρ' σ',K ρ' σ'→(∀t,get ρ' t=get (St fun j=>j==i||S j) t)∧σ'=σ)→
  o'.wp C.P a w (gF M bm pr w n K) (bp M bm pr w n fun _ _ _=>False)→o'.wp C.P a w (gF M bm pr w n fun ρ' σ'=>(∀t,get ρ' t=get (St fun j=>j==i||S j) t)∧σ'=σ) (bp M bm pr w n fun _ _ _=>False):=fun K hK hw=>
  Oper.wp_mono2 (fun a' w' ⟨M',bm',tk',ρ',σ',e1,k2,k3⟩=>⟨M',bm',tk',ρ',σ',hK _ _ e1,k2,k3⟩) (fun e a' w' hh=>hh) hw
 have no2:S (mid.length+1)=false→S (mid.length+2)=false:=fun hA=>by
  cases hB:S (mid.length+2)with
  | false=>rfl
  | true=>have:=hbefj _ (by omega) hB _ D.last;rw[hA]at this;cases this
 by_cases i0:i=0
 ·subst i0
  have hA:S (mid.length+1)=false:=by
   cases hA:S (mid.length+1)with
   | false=>rfl
   | true=>have:=hbefj _ (by omega) hA _ D.first;rw[hSi]at this;cases this
  have hB:=no2 hA;have ho:(bL s d0 d1 T' k' bytes y mid)[0]? = some ⟨some d0,.mvo s,none⟩:=rfl;rw[if_pos (gt _ ho rfl)];have hbs:=base S (fun j=>j==0||S j) fun j hj=>by simp
  have eS':St (fun j=>j==0||S j)=put (put (ba (bj mid xs 1 fun j=>j==0||S j) ρ) s (.d (.sl rows))) d0 (.own T' k' rows):=by
   rw[hSt];simp[hA,hB,stB]
  rw[hSt,hA,hB,hSi]at h;refine done (fun ρ' σ'=>ρ'=putd (put (ba (bj mid xs 1 S) ρ) s (.d (.sl rows))) (some d0) (.own T' k' rows)∧σ'=σ) (fun ρ' σ' ⟨e1,e2⟩=>?_) (cq (Q:=fun _ _ _=>False) (hG.mono hl) h (hget 0 _ o' ho ho') ?_)
  ·subst e1;refine⟨fun t=>?_,e2⟩;rw[eS'];simp only[putd,bD,hbs]
  ·simp only[cG,stB,own S s (.inl rfl),hrow];exact⟨trivial,trivial⟩
 by_cases iA:i=mid.length+1
 ·subst iA;have hB:=no2 hSi;have h0:=hbef _ D.first;have ho:=Ar (s:=s) (d0:=d0) (d1:=d1) (T:=T') (k:=k') (bytes:=bytes) (y:=y) (mid:=mid);rw[if_pos (gt _ ho rfl)]
  have hbs:=base S (fun j=>j==mid.length+1||S j) fun j hj=>by
   have:(j+1==mid.length+1)=false:=by simp;omega
   simp[this]
  have eS':St (fun j=>j==mid.length+1||S j)=put (put (put (ba (bj mid xs 1 fun j=>j==mid.length+1||S j) ρ) s (.d (.sl rows))) d0 (.d (.sl rows))) d1 (.own T' k' (rows++r2)):=by
   have:(mid.length+2==mid.length+1)=false:=by simp
   rw[hSt];simp only[this,hB,Bool.false_or,beq_self_eq_true,Bool.true_or];rfl
  rw[hSt,hSi,hB,h0]at h
  have hall:∀t,get ρf t=get (ba (bj mid xs 1 S) ρ) t:=fun t=>by
   rw[hρe t];exact base _ _ (fun j hj=>(hbef _ (D.all j hj)).symm) t
  have hev:ev C (stB s d0 d1 T' k' rows r2 false false true (ba (bj mid xs 1 S) ρ)) y=ev C ρf y:=bC fun t ht=>by
   rw[jV (D.yfree t ht),hall]
  refine done (fun ρ' σ'=>ρ'=putd (put (stB s d0 d1 T' k' rows r2 false false true (ba (bj mid xs 1 S) ρ)) d0 (.d (.sl rows))) (some d1) (.own T' k' (rows++r2))∧σ'=σ) (fun ρ' σ' ⟨e1,e2⟩=>?_) (cq (Q:=fun _ _ _=>False) (hG.mono hl) h (hget _ _ o' ho ho') ?_)
  ·subst e1;refine⟨fun t=>?_,e2⟩;rw[eS'];simp only[putd,stB,bD,hbs];repeat' split
   all_goals first|rfl|(exfalso;omega)
  ·have hg0:get (stB s d0 d1 T' k' rows r2 false false true (ba (bj mid xs 1 S) ρ)) d0=.own T' k' rows:=by simp[stB,bD]
   simp only[cG,hg0,hev,hr2];exact⟨⟨trivial,trivial,hk,hby⟩,trivial,trivial⟩
 by_cases iB:i=mid.length+2
 ·subst iB;have hA:=hbef _ D.last;have ho:=xH (s:=s) (d0:=d0) (d1:=d1) (T:=T') (k:=k') (bytes:=bytes) (y:=y) (mid:=mid);rw[if_pos (gt _ ho rfl)]
  have hbs:=base S (fun j=>j==mid.length+2||S j) fun j hj=>by
   have:(j+1==mid.length+2)=false:=by simp;omega
   simp[this]
  have eS':St (fun j=>j==mid.length+2||S j)=lk s d0 d1 T' k' rows r2 (ba (bj mid xs 1 fun j=>j==mid.length+2||S j) ρ):=by
   rw[hSt];simp[stB]
  rw[hSt,hSi,hA]at h;refine done (fun ρ' σ'=>ρ'=putd (put (stB s d0 d1 T' k' rows r2 false true (S 0) (ba (bj mid xs 1 S) ρ)) d1 (.d (.sl (rows++r2)))) (some s) (.own T' k' (rows++r2))∧σ'=σ) (fun ρ' σ' ⟨e1,e2⟩=>?_) (cq (Q:=fun _ _ _=>False) (hG.mono hl) h (hget _ _ o' ho ho') ?_)
  ·subst e1;refine⟨fun t=>?_,e2⟩;rw[eS'];simp only[putd,stB,lk,bD,hbs];repeat' split
   all_goals first|rfl|(exfalso;omega)
  ·have hg0:get (stB s d0 d1 T' k' rows r2 false true (S 0) (ba (bj mid xs 1 S) ρ)) d1=.own T' k' (rows++r2):=by simp[stB,bD]
   simp only[cG,hg0];exact⟨trivial,trivial⟩
 obtain⟨m,rfl⟩:∃m,i=m+1:=⟨i-1,by omega⟩
 have hm:m<mid.length:=by omega
 have hlo:=Ak (s:=s) (d0:=d0) (d1:=d1) (T:=T') (k:=k') (bytes:=bytes) (y:=y) hm;have hoo:=hget (m+1) _ o' hlo ho'
 have hA:S (mid.length+1)=false:=by
  cases hA:S (mid.length+1)with
  | false=>rfl
  | true=>have:=hbefj _ (by omega) hA _ (D.all m hm);rw[hSi]at this;cases this
 have hB:=no2 hA
 have hsame:∀t∈mid[m].looks++mid[m].dst.toList,∀j (hj:j<mid.length),j≠m→mid[j].dst=some t→(S (j+1)=decide (j<m)):=by
  intro t ht j hj hne hd;rcases D.cmp m hm t ht j hj hd hne with⟨g1,g2⟩|⟨g1,g2⟩
  ·rw[hbef _ g2];simp[g1]
  ·have:¬S (j+1)=true:=fun hjl=>by
    have:=hbefj (j+1) (by omega) hjl _ g2;rw[hSi]at this;cases this
   have e:S (j+1)=false:=by simpa using this
   rw[e];simp;omega
 obtain⟨ρi,hL,hρi⟩:=hloc m hm (by omega)
 have hgetL:∀t∈mid[m].looks,get ρi t=get (ba (bj mid xs 1 S) ρ) t:=by
  intro t ht;rw[hρi t];refine cK _ _ ρ t (by rw[hsteps,hsteps]) (fun j g1 g2=>?_);rw[hsteps]at g1;rw[hsg _ j (by rw[hsteps];exact g1) g1,hsg _ j (by rw[hsteps];exact g1) g1];refine⟨rfl,rfl,fun hd=>?_⟩;by_cases e:j=m
  ·subst e;rw[hSi];simp;omega
  ·rw[hsame t (by simp[ht]) j g1 e hd,decide_eq_decide];omega
 have hnext:∀t,get (ba (bj mid xs 1 fun j=>j==m+1||S j) ρ) t=get (Go.Proofs.YtcbahpllcfbkmaaGreatDoor.putd (ba (bj mid xs 1 S) ρ) mid[m].dst (xs[m]'(by omega))) t:=by
  intro t;rw[ci];split
  ·rename_i e
   have:=jU (bj mid xs 1 fun j=>j==m+1||S j) ρ m (by rw[hsteps];exact hm) t (by rw[hsg _ m _ hm];exact e) (by rw[hsg _ m _ hm];simp) (fun j hj hij hd=>by
    rw[hsteps]at hj;rw[hsg _ j _ hj]at hd ⊢;simp only at hd ⊢;rw[hsame t (by simp[e]) j hj (by omega) hd];simp;omega)
   rw[this,hsg _ m _ hm]
  ·rename_i e;refine cK _ _ ρ t (by rw[hsteps,hsteps]) (fun j g1 g2=>?_);rw[hsteps]at g1;rw[hsg _ j (by rw[hsteps];exact g1) g1,hsg _ j (by rw[hsteps];exact g1) g1];refine⟨rfl,rfl,fun hd=>?_⟩;simp only at hd ⊢;have hne:j≠m:=fun ee=>by subst ee;exact e hd
   simp[hne]
 have hdst:mid[m].dst=o'.dst:=by
  have:=hoo;unfold okO at this;simp only[Bool.and_eq_true,beq_iff_eq]at this;exact this.1.1.2
 have hdn:∀d,o'.dst=some d→d<n:=by
  have:=hoo;unfold okO at this;simp only[Bool.and_eq_true]at this;intro d hd;have:=this.1.2;rw[hd]at this;simpa using this
 have hgd:=hoo;unfold okO at hgd;simp only[Bool.and_eq_true]at hgd;replace hgd:=hgd.2;have hdf:∀t,mid[m].dst=some t→t≠s∧t≠d0∧t≠d1:=fun t ht=>D.free m hm t (by simp[ht]);rw[hSt,hA,hB]at h
 have eS':∀t,get (putd (stB s d0 d1 T' k' rows r2 false false (S 0) (ba (bj mid xs 1 S) ρ)) mid[m].dst (xs[m]'(by omega))) t=get (St fun j=>j==m+1||S j) t:=fun t=>by
  have e1:(mid.length+2==m+1)=false:=by simp;omega
  have e2:(mid.length+1==m+1)=false:=by simp;omega
  have e3:(0==m+1)=false:=by simp
  rw[xm hdf,hSt];simp only[e1,e2,e3,hA,hB,Bool.false_or];exact(iU hnext t).symm
 have hL2:Loc C mid[m] (stB s d0 d1 T' k' rows r2 false false (S 0) (ba (bj mid xs 1 S) ρ)) σ (xs[m]'(by omega)):=hL.congr fun t ht=>by
  rw[hgetL t ht,jV (D.free m hm t (by simp[ht]))]
 have exec:bB C mid[m].op (stB s d0 d1 T' k' rows r2 false false (S 0) (ba (bj mid xs 1 S) ρ)) σ (fun v=>v=xs[m]'(by omega))→o'.wp C.P a w (gF M bm pr w n fun ρ' σ'=>(∀t,get ρ' t=get (St fun j=>j==m+1||S j) t)∧σ'=σ) (bp M bm pr w n fun _ _ _=>False):=fun hc=>
  done _ (fun ρ' σ' ⟨e1,e2⟩=>⟨fun t=>by rw[e1];exact eS' t,e2⟩) (cq (Q:=fun _ _ _=>False) (hG.mono hl) h hoo (j8 hc))
 unfold Loc at hL2;split at hL2
 ·rename_i hg;rw[if_pos (gt _ hlo hg)];exact exec hL2
 ·rename_i t want hg;rw[hg]at hgd;split at hgd
  ·rename_i e _;cases e
  ·rename_i t' b' j b'' e hg2;cases e;simp only[Bool.and_eq_true,beq_iff_eq]at hgd;obtain⟨rfl,hj⟩:=hgd;split at hL2
   ·rename_i b hb;have hy:=eK h hb hj;by_cases hbw:b=want
    ·rw[if_pos (by simp[Region.wanted,hg2,hy,hbw])];exact exec (hL2.1 hbw)
    ·rw[if_neg (by simp[Region.wanted,hg2,hy,hbw])];have hx:=hL2.2 hbw;refine(h.putd hdn gf (by simp)).congr fun t=>?_;rw[←eS' t,hx,hdst]
   ·rename_i hb;have hy:=io h hb hj;rw[if_neg (by simp[Region.wanted,hg2,hy])];refine(h.putd hdn gf (by simp)).congr fun t=>?_;rw[←eS' t,hL2,hdst]
   ·exact hL2.elim
  ·cases hgd
end
end Go.Proofs.YtcbahpllcfbkmaaGreatDoor
namespace Go.Proofs.YtcbahpllcfbkmaaGreatDoor
open Go.RowKit
section
variable {C : Cx} {pr : Prot} {n : Nat} {Q : AEx → al → List (List V) → Prop}
theorem rm{M0:au}{bm0:List Nat}{w0:World}{id:Nat}{ops:Array Oper}{M:au}{bm:List Nat}{tk:aU}{a:Act}{w:World}(St:(Nat→Bool)→al)(Sg:(Nat→Bool)→List (List V))(ρf:al)(σf:List (List V))(I:(Nat→Bool)→Prop)(hI0:I fun _=>false)(hIext:∀S S',(∀j,j<ops.size→S j=S' j)→I S→I S')
 (hlt:∀(i:Nat) (o:Oper),ops.toList[i]? = some o→∀j∈aB o,j<i)
 (hext:∀S S',(∀j,j<ops.size→S j=S' j)→(∀t,get (St S) t=get (St S') t)∧Sg S=Sg S')
 (hl:Later M0 bm0 pr w0 M bm w)(h:SRel M bm tk pr (St fun _=>false) (Sg fun _=>false) n a w)
 (hf:I (fun _=>true)→((∀t,get ρf t=get (St fun _=>true) t)∧σf=Sg fun _=>true)∧Q .normal ρf σf)
 (step:∀(S:Nat→Bool) (i:Nat) (o:Oper),ops.toList[i]? = some o→S i=false→(∀(j:Nat) (p:Oper),ops.toList[j]? = some p→S j=true→∀e∈aB p,S e=true)→(∀e∈aB o,S e=true)→
   I S→∀(M:au) (bm:List Nat) (tk:aU) (a:Act) (w:World),Later M0 bm0 pr w0 M bm w→SRel M bm tk pr (St S) (Sg S) n a w→
    if Region.wanted o (yielded ops a.tmps)then o.wp C.P a w (gF M bm pr w n fun ρ' σ'=>(∀t,get ρ' t=get (St fun j=>j==i||S j) t)∧σ'=(Sg fun j=>j==i||S j)∧I fun j=>j==i||S j) (bp M bm pr w n Q)
    else SRel M bm tk pr (St fun j=>j==i||S j) (Sg fun j=>j==i||S j) n (a.put o.dst undef) w∧I fun j=>j==i||S j):
 (Code.region id ops true).wp C.P (bp M0 bm0 pr w0 n Q) a w:=by
 refine wp_region_any C.mixed ?_
 suffices H:∀(fuel:Nat) (listed:Array Bool) (M:au) (bm:List Nat) (tk:aU) (a:Act) (w:World),Later M0 bm0 pr w0 M bm w→SRel M bm tk pr (St fun i=>listed.getD i false) (Sg fun i=>listed.getD i false) n a w→I (fun i=>listed.getD i false)→listed.size=ops.size→
  (∀(i:Nat) (o:Oper),ops.toList[i]? = some o→listed.getD i false=true→∀j∈aB o,listed.getD j false=true)→(listed.toList.filter (! ·)).length=fuel→wpAny C.P .any ops (bp M0 bm0 pr w0 n Q) fuel listed a w by
  obtain⟨h1,h2⟩:=h.ext (bW.drew w)
  have hrep:∀j,(Array.replicate ops.size false).getD j false=false:=fun j=>by
   simp only[Array.getD_eq_getD_getElem?,Array.getElem?_replicate];split<;>rfl
  obtain⟨e1,e2⟩:=hext (fun i=>(Array.replicate ops.size false).getD i false) (fun _=>false) (fun j _=>hrep j);refine H ops.size (Array.replicate ops.size false) M bm tk a w.drew (hl.trans h2 (fun _ h=>h)) ?_ (hIext _ _ (fun j _=>(hrep j).symm) hI0) (by simp) (fun i o ho hi=>?_) (by simp)
  ·rw[e2];exact h1.congr e1
  ·rw[hrep]at hi;cases hi
 intro fuel
 induction fuel with
 | zero=>
  intro listed M bm tk a w hl h hI hsz hcl hcnt
  have hall:∀i,i<ops.size→listed.getD i false=true:=fun i hi=>by
   have hb:listed[i]? = some (listed[i]'(by omega)):=Array.getElem?_eq_getElem _;rw[Array.getD_eq_getD_getElem?,hb,Option.getD_some];have hne:listed.toList.filter (! ·)=[]:=List.eq_nil_of_length_eq_zero hcnt;have:=List.filter_eq_nil_iff.1 hne (listed[i]'(by omega)) (by simp);simpa using this
  obtain⟨e1,e2⟩:=hext (fun i=>listed.getD i false) (fun _=>true) hall;obtain⟨hf,hq⟩:=hf (hIext _ _ hall hI);refine⟨?_,M,bm,tk,ρf,σf,.normal,hq,.normal,?_,hl⟩
  ·unfold Region.ready;rw[List.filter_eq_nil_iff];intro i hi;have hi':i<ops.size:=by simpa using hi
   have h9:=hall i hi'
   have:listed.getD i true=true:=by
    have hb:listed[i]? = some (listed[i]'(by omega)):=Array.getElem?_eq_getElem _;rw[Array.getD_eq_getD_getElem?,hb,Option.getD_some]at h9 ⊢;exact h9
   simp[this]
  ·rw[hf.2,←e2];exact h.congr fun t=>(hf.1 t).trans (e1 t).symm
 | succ fuel ih=>
  intro listed M bm tk a w hl h hI hsz hcl hcnt;refine⟨fun hnil=>?_,fun i hi=>?_⟩
  ·exfalso
   have hex:∃i,i<ops.size∧listed.getD i false=false:=by
    apply Classical.byContradiction;intro hno
    have hne:listed.toList.filter (! ·)=[]:=by
     rw[List.filter_eq_nil_iff];intro b hb;obtain⟨i,hi,rfl⟩:=List.getElem_of_mem hb;have hi':i<listed.size:=by simpa using hi
     have h9:¬listed.getD i false=false:=fun e=>hno ⟨i,by omega,e⟩;have hb:listed[i]? = some listed[i]:=Array.getElem?_eq_getElem hi';rw[Array.getD_eq_getD_getElem?,hb,Option.getD_some]at h9;simpa using h9
    rw[hne]at hcnt;simp at hcnt
   have hmin:∃i,i<ops.size∧listed.getD i false=false∧∀j,j<i→listed.getD j false=true:=by
    obtain⟨i,h1,h2⟩:=hex
    induction i using Nat.strongRecOn with
    | _ i ihm=>
    by_cases hj:∃j,j<i∧listed.getD j false=false
    ·obtain⟨j,g1,g2⟩:=hj;exact ihm j g1 (by omega) g2
    ·exact⟨i,h1,h2,fun j hji=>by
      cases hb:listed.getD j false with
      | true=>rfl
      | false=>exact absurd ⟨j,hji,hb⟩ hj⟩
   obtain⟨i,h1,h2,h3⟩:=hmin;have hio:i<ops.toList.length:=by simpa using h1
   have:i∈Region.ready .any ops listed:=by
    unfold Region.ready;rw[List.mem_filter];refine⟨by simp;omega,?_⟩
    have ht:listed.getD i true=false:=by
     have hb:listed[i]? = some (listed[i]'(by omega)):=Array.getElem?_eq_getElem _;rw[Array.getD_eq_getD_getElem?,hb,Option.getD_some]at h2 ⊢;exact h2
    have ho:ops[i]? = some (ops[i]'(by omega)):=Array.getElem?_eq_getElem _;rw[ht,ho];simp only[Bool.not_false,Bool.true_and,Option.map_some,Option.getD_some];rw[←Array.all_toList,List.all_eq_true];intro e he;cases hb:Region.binds .any e with
    | false=>rfl
    | true=>
     have:e.on∈aB (ops[i]'(by omega)):=by
      unfold aB;exact List.mem_map.2 ⟨e,List.mem_filter.2 ⟨he,hb⟩,rfl⟩
     simp[h3 e.on (hlt i _ (by rw[List.getElem?_eq_getElem hio];simp) e.on this)]
   rw[hnil]at this;cases this
  ·unfold Region.ready at hi;rw[List.mem_filter]at hi;obtain⟨hir,hic⟩:=hi;have hi1:i<ops.size:=by simpa using hir
   have ho:ops[i]? = some ops[i]:=Array.getElem?_eq_getElem hi1;have hoL:ops.toList[i]? = some ops[i]:=by rw[Array.getElem?_toList];exact ho
   rw[ho]at hic;simp only[Option.map_some,Option.getD_some,Bool.and_eq_true,Bool.not_eq_true']at hic;obtain⟨hun,hed⟩:=hic
   have hun':listed[i]? = some false:=by
    have hb:listed[i]? = some (listed[i]'(by omega)):=Array.getElem?_eq_getElem _;rw[Array.getD_eq_getD_getElem?,hb,Option.getD_some]at hun;rw[hb,hun]
   have hunf:listed.getD i false=false:=by rw[Array.getD_eq_getD_getElem?,hun'];rfl
   have hedge:∀j∈aB ops[i],listed.getD j false=true:=by
    intro j hj;unfold aB at hj;obtain⟨e,he,rfl⟩:=List.mem_map.1 hj;rw[List.mem_filter]at he;rw[←Array.all_toList,List.all_eq_true]at hed;have:=hed e he.1;simpa[he.2]using this
   have hset:∀j,(listed.setIfInBounds i true).getD j false=(j==i||listed.getD j false):=fun j=>by
    rw[Array.getD_eq_getD_getElem?,Array.getD_eq_getD_getElem?];by_cases e:j=i
    ·subst e;rw[Array.getElem?_setIfInBounds_self_of_lt (by omega)];simp
    ·rw[Array.getElem?_setIfInBounds_ne (Ne.symm e)];simp[e]
   have hnextcl:∀(q:Nat) (o:Oper),ops.toList[q]? = some o→(listed.setIfInBounds i true).getD q false=true→∀j∈aB o,(listed.setIfInBounds i true).getD j false=true:=by
    intro q o hqo hql j hj;rw[hset]at hql ⊢;simp only[Bool.or_eq_true,beq_iff_eq]at hql ⊢;rcases hql with rfl|hql
    ·rw[hoL]at hqo;cases hqo;exact .inr (hedge j hj)
    ·exact .inr (hcl q o hqo hql j hj)
   have hnextc:((listed.setIfInBounds i true).toList.filter (! ·)).length=fuel:=by
    have:=fm listed.toList i (by rw[Array.getElem?_toList];exact hun');rw[Array.toList_setIfInBounds];omega
   obtain⟨e1,e2⟩:=hext (fun j=>(listed.setIfInBounds i true).getD j false) (fun j=>j==i||listed.getD j false) (fun j _=>hset j);have hst:=step (fun j=>listed.getD j false) i ops[i] hoL hunf hcl hedge hI M bm tk a w hl h;unfold wpOp;rw[ho];simp only;split at hst
   ·rename_i hw;rw[if_pos hw];refine .inl (Oper.wp_mono2 (fun a' w' hL=>?_) (fun e a' w' hL=>?_) hst)
    ·obtain⟨M',bm',tk',ρ',σ',⟨k0,rfl,kI⟩,k2,k3⟩:=hL;refine ih _ M' bm' tk' a' w' (hl.trans k3 (fun _ h=>h)) ?_ (hIext _ _ (fun j _=>(hset j).symm) kI) (by simp[hsz]) hnextcl hnextc;rw[e2];exact k2.congr fun t=>(e1 t).trans (k0 t).symm
    ·exact bp.trans hl hL
   ·rename_i hw;rw[if_neg hw];refine ih _ M bm tk _ w hl ?_ (hIext _ _ (fun j _=>(hset j).symm) hst.2) (by simp[hsz]) hnextcl hnextc;rw[e2];exact hst.1.congr e1
end
section
variable {pre post : List O} {d : Option Nat} {f : FuncId} {args : List X} {kk : Nat} {y z : X}
end
structure OKX(np nq:Nat)(l:List O)(os:List Oper):Prop where
 lt:∀(i:Nat) (o:Oper),os[i]? = some o→∀j∈aB o,j<i
 cmp:∀(i:Nat) (o:O),l[i]? = some o→∀t∈o.looksN++o.dst.toList,∀(j:Nat) (q:O),l[j]? = some q→q.dst=some t→j≠i→(j<i∧j∈(aI os []).getD i [])∨(i<j∧i∈(aI os []).getD j [])
 after:∀m,m<nq→np∈(aI os []).getD (np+1+m) []
 last:∀i,i<np+1+nq→i∈(aI os []).getD (np+1+nq) []
 pdst:∀(i:Nat) (o:O),i<np→l[i]? = some o→∃t,o.dst=some t∧∀(j:Nat) (q:O),j<np→l[j]? = some q→j≠i→q.dst≠some t
section
variable {C : Cx} {pr : Prot} {ρ : al} {σ : List (List V)} {n : Nat} {Q : AEx → al → List (List V) → Prop}
theorem tF{M:au}{bm:List Nat}{tk:aU}{a:Act}{w:World}{ops:Array Oper}{o:O}{o':Oper}{x:V}(hG:C.glob M pr w)(h:SRel M bm tk pr ρ σ n a w)(hoo:okO C.tab n ops o o'=true)(hL:Loc C o ρ σ x):
 if Region.wanted o' (yielded ops a.tmps)then o'.wp C.P a w (gF M bm pr w n fun ρ' σ'=>ρ'=putd ρ o.dst x∧σ'=σ) (bp M bm pr w n Q)else SRel M bm tk pr (putd ρ o.dst x) σ n (a.put o'.dst undef) w:=by
 have hdst:o.dst=o'.dst:=by
  have:=hoo;unfold okO at this;simp only[Bool.and_eq_true,beq_iff_eq]at this;exact this.1.1.2
 have hdn:∀d,o'.dst=some d→d<n:=by
  have:=hoo;unfold okO at this;simp only[Bool.and_eq_true]at this;intro d hd;have:=this.1.2;rw[hd]at this;simpa using this
 have hgd:=hoo;unfold okO at hgd;simp only[Bool.and_eq_true]at hgd;replace hgd:=hgd.2
 have exec:bB C o.op ρ σ (fun v=>v=x)→o'.wp C.P a w (gF M bm pr w n fun ρ' σ'=>ρ'=putd ρ o.dst x∧σ'=σ) (bp M bm pr w n Q):=fun hc=>
  Oper.wp_mono2 (fun _ _ hh=>hh) (fun e a' w' ⟨_,_,_,_,_,_,hf,_⟩=>hf.elim) (cq (Q:=fun _ _ _=>False) hG h hoo (j8 hc))
 unfold Loc at hL;split at hL
 ·rename_i hg;rw[hg]at hgd;split at hgd
  ·rename_i hg2;rw[if_pos (by simp[Region.wanted,hg2])];exact exec hL
  ·rename_i e _;cases e
  ·cases hgd
 ·rename_i t want hg;rw[hg]at hgd;split at hgd
  ·rename_i e _;cases e
  ·rename_i t' b' j b'' e hg2;cases e;simp only[Bool.and_eq_true,beq_iff_eq]at hgd;obtain⟨rfl,hj⟩:=hgd;split at hL
   ·rename_i b hb;have hy:=eK h hb hj;by_cases hbw:b=want
    ·rw[if_pos (by simp[Region.wanted,hg2,hy,hbw])];exact exec (hL.1 hbw)
    ·rw[if_neg (by simp[Region.wanted,hg2,hy,hbw])];rw[hL.2 hbw,hdst];exact h.putd hdn gf (by simp)
   ·rename_i hb;have hy:=io h hb hj;rw[if_neg (by simp[Region.wanted,hg2,hy])];rw[hL,hdst];exact h.putd hdn gf (by simp)
   ·exact hL.elim
  ·cases hgd
end
end Go.Proofs.YtcbahpllcfbkmaaGreatDoor
namespace Go.Proofs.YtcbahpllcfbkmaaGreatDoor
open Go.RowKit
inductive GK where
 | free (lo:Nat)
 | calm (lo hi:Nat)
 | slot (lo:Nat)
 | act
def GK.isAct:GK→Bool
 | .act=>true
 | _=>false
def OP.w1:OP→Option Nat
 | .mvo t=>some t
 | .app _ _ _ t _=>some t
 | .stoo _ t=>some t
 | _=>none
def OP.slotsG:OP→List Nat
 | .mvo t=>[t]
 | .app _ _ _ t y=>t::y.slots
 | .mkso _ _ xs=>xs.flatMap X.slots
 | .mkc _ _ _ x=>x.slots
 | .mkb _ _ _ x=>x.slots
 | .box _ x=>x.slots
 | .sto _ x y=>x.slots++y.slots
 | .stoo x t=>t::x.slots
 | .ldo x=>x.slots
 | .cpy x y=>x.slots++y.slots
 | .appv _ _ _ t y=>t::y.slots
 | .mst _ x y z=>x.slots++(y.slots++z.slots)
 | op=>op.slots
def O.looksG(o:O):List Nat:=o.op.slotsG++(match o.g with|some (t,_)=>[t]|none=>[])
def OP.isFree:OP→Bool
 | .load _ _ _ | .cbs _ | .mlk _ _ _ _ _ | .mln _ | .call _ _ | .callv _ _ | .calln _ _=>false
 | .mks _ _ _=>true
 | op=>co op
def OP.isCalm:OP→Bool
 | .call _ _ | .callv _ _ | .calln _ _ | .mks _ _ _=>true
 | op=>co op
def OP.isSlot:OP→Bool
 | .mvo _ | .nilo _ _ | .app _ _ _ _ _ | .mkso _ _ _ | .mkc _ _ _ _=>true
 | _=>false
def OP.isActG:OP→Option Nat→Bool
 | .sto _ _ _,d=>d.isNone
 | .stoo _ _,d=>d.isNone
 | .mst _ _ _ _,d=>d.isNone
 | .new _ _,_ | .box _ _,_ | .ldo _,_ | .mkb _ _ _ _,_ | .cpy _ _,_ | .call _ _,_ | .callv _ _,_=>true
 | _,_=>false
section
variable {C : Cx} {pr : Prot} {ρ : al} {σ : List (List V)} {n : Nat} {Q : AEx → al → List (List V) → Prop}
theorem pZ{o:O}(h:o.op.isCalm=true):o.looks=o.looksG:=by
 unfold O.looks O.looksG
 have:o.op.slots=o.op.slotsG:=by
  cases ho:o.op<;>rw[ho]at h<;>first|rfl|(simp[OP.isCalm,co]at h)
 rw[this]<;>(cases o.g<;>rfl)
theorem xJ{op:OP}(h:op.isFree=true)(σ σ2:List (List V)):pv C op ρ σ=pv C op ρ σ2:=by
 cases op<;>first|rfl|(simp[OP.isFree,co]at h)
theorem kK{op:OP}(h:op.isFree=true){k:V→Prop}(σ2:List (List V))(hc:bB C op ρ σ k):bB C op ρ σ2 k:=by
 unfold bB at hc;split at hc
 ·cases h
 ·cases h
 ·exact hc
 ·cases h
 ·rename_i n1 n2 n3 n4;rw[xJ h σ σ2]at hc;unfold bB;split
  ·exact absurd rfl (n1 _ _)
  ·exact absurd rfl (n2 _ _)
  ·exact absurd rfl (n3 _ _ _)
  ·exact absurd rfl (n4 _ _)
  ·exact hc
theorem Loc.free{o:O}(h:o.op.isFree=true){x:V}(σ2:List (List V))(hc:Loc C o ρ σ x):Loc C o ρ σ2 x:=by
 unfold Loc at hc ⊢;split at hc
 ·exact kK h σ2 hc
 ·split at hc
  ·exact⟨fun e=>kK h σ2 (hc.1 e),hc.2⟩
  ·exact hc
  ·exact hc.elim
def jA(C:Cx)(op:OP)(ρ:al)(σ:List (List V))(a b:V)(σ':List (List V)):Prop:=match op with
 | .mvo t=>∃T k rows,get ρ t=.own T k rows∧a=.d (.sl rows)∧b=.own T k rows∧σ'=σ
 | .nilo T k=>b=.own T k []∧σ'=σ
 | .app T k bytes t y=>∃rows rows2,get ρ t=.own T k rows∧df (ev C ρ y)=some rows2∧(rows2.all (fun r=>r.length==k)=true∧(rows.length+rows2.length)*bytes≤140737488355328)∧a=.d (.sl rows)∧b=.own T k (rows++rows2)∧σ'=σ
 | .mkso T k xs=>∃rows,ac (xs.map (ev C ρ))=some rows∧rows.all (fun r=>r.length==k)=true∧b=.own T k rows∧σ'=σ
 | .mkc T k bytes x=>∃kd n,ev C ρ x=.d (.lit (.int kd n))∧(0≤n∧n*bytes≤140737488355328)∧b=.own T k []∧σ'=σ
 | .new _ cs=>b=.ptr σ.length 0∧σ'=σ++[cs]
 | .box _ x=>(ev C ρ x).boxable=true∧b=.ptr σ.length 0∧σ'=σ++[(ev C ρ x).cells]
 | .mkb _ bytes z x=>∃kd n,ev C ρ x=.d (.lit (.int kd n))∧(0≤n∧n*bytes≤140737488355328)∧b=.bsl σ.length 0 n.toNat 1∧σ'=σ++[List.replicate n.toNat z]
 | .sto k x y=>∃i o cs,ev C ρ x=.ptr i o∧σ[i]? = some cs∧((ev C ρ y).boxable=true∧(ev C ρ y).cells.length=k∧o+k≤cs.length∧bJ cs=true)∧σ'=σ.set i (over cs o (ev C ρ y).cells)
 | .stoo x t=>∃i o T k rows cs,ev C ρ x=.ptr i o∧get ρ t=.own T k rows∧σ[i]? = some cs∧(o<cs.length∧bJ cs=true)∧a=.d (.sl rows)∧σ'=σ.set i (over cs o [.own T k rows])
 | .ldo x=>∃i o cs T k rows,ev C ρ x=.ptr i o∧σ[i]? = some cs∧cs[o]? = some (.own T k rows)∧b=.own T k rows∧σ'=σ.set i (cs.set o (.d (.sl rows)))
 | .cpy x y=>∃i off n cs src,asB (ev C ρ x)=some (i,off,n)∧σ[i]? = some cs∧gV σ (ev C ρ y)=some src∧(off+n≤cs.length∧bJ cs=true)∧b=aF .i64 (min n src.length:Nat)∧σ'=σ.set i (over cs off (src.take (min n src.length)))
 | .mst st x k v=>∃kv key,dm st σ (ev C ρ x)=some kv∧fx st (ev C ρ k)=some key∧σ'=gM σ st (gQ key (ev C ρ v).copy kv) (ev C ρ x)
 | .call f args=>Fun C f (args.map fun x=>(ev C ρ x).lend) σ (fun o σ''=>o=.ret b∧σ''=σ')
 | .callv x args=>∃f cap,ev C ρ x=.fn f cap∧Fun C f ((args.map fun x=>(ev C ρ x).lend)++cap) σ (fun o σ''=>o=.ret b∧σ''=σ')
 | _=>False
def ap(o:O)(w:V×V)(ρ:al):al:=putd (putd ρ o.op.w1 w.1) o.dst w.2
theorem kM(o:O)(w:V×V)(ρ:al)(t:Nat):get (ap o w ρ) t=if o.dst=some t then w.2 else if o.op.w1=some t then w.1 else get ρ t:=by
 unfold ap;rw[ci,ci]
theorem u3{o:O}{a b:V}{σ':List (List V)}(hc:o.op.isSlot=true∨o.op.isActG o.dst=true)(h:jA C o.op ρ σ a b σ'):cG C o.op o.dst ρ σ (fun ρ' σ''=>ρ'=ap o (a,b) ρ∧σ''=σ') Q:=by
 obtain⟨d,op,g⟩:=o;unfold ap;cases op<;>simp only[jA]at h<;>simp only[cG,OP.w1,putd]<;>first|exact h.elim|skip
 case mvo t=>obtain⟨T,k,rows,h1,rfl,rfl,rfl⟩:=h;rw[h1];first|exact⟨rfl,rfl⟩|exact⟨trivial,trivial⟩
 case nilo=>obtain⟨rfl,rfl⟩:=h;first|exact⟨rfl,rfl⟩|exact⟨trivial,trivial⟩
 case app=>obtain⟨rows,rows2,h1,h2,h3,rfl,rfl,rfl⟩:=h;rw[h1,h2];exact⟨⟨rfl,rfl,h3⟩,rfl,rfl⟩
 case mkso=>obtain⟨rows,h1,h2,rfl,rfl⟩:=h;rw[h1];exact⟨h2,rfl,rfl⟩
 case mkc=>obtain⟨kd,m,h1,h2,rfl,rfl⟩:=h;rw[h1];exact⟨h2,rfl,rfl⟩
 case new=>obtain⟨rfl,rfl⟩:=h;first|exact⟨rfl,rfl⟩|exact⟨trivial,trivial⟩
 case box=>obtain⟨h1,rfl,rfl⟩:=h;first|exact⟨h1,rfl,rfl⟩|exact⟨h1,trivial,trivial⟩
 case mkb=>obtain⟨kd,m,h1,h2,rfl,rfl⟩:=h;rw[h1];exact⟨h2,rfl,rfl⟩
 case sto=>
  have hd:d=none:=by simpa[OP.isSlot,OP.isActG]using hc
  subst hd;obtain⟨i,o,cs,h1,h2,h3,rfl⟩:=h;rw[h1];simp only[h2];first|exact⟨h3,rfl,rfl⟩|exact⟨h3,trivial,trivial⟩
 case stoo=>
  have hd:d=none:=by simpa[OP.isSlot,OP.isActG]using hc
  subst hd;obtain⟨i,o,T,k,rows,cs,h1,h2,h3,h4,rfl,rfl⟩:=h;rw[h1,h2];simp only[h3];first|exact⟨h4,rfl,rfl⟩|exact⟨h4,trivial,trivial⟩
 case ldo=>obtain⟨i,o,cs,T,k,rows,h1,h2,h3,rfl,rfl⟩:=h;rw[h1];simp only[h2,h3];first|exact⟨rfl,rfl⟩|exact⟨trivial,trivial⟩
 case cpy=>obtain⟨i,off,n,cs,src,h1,h2,h3,h4,rfl,rfl⟩:=h;rw[h1];simp only[h2,h3];first|exact⟨h4,rfl,rfl⟩|exact⟨h4,trivial,trivial⟩
 case mst=>
  have hd:d=none:=by simpa[OP.isSlot,OP.isActG]using hc
  subst hd;obtain⟨kv,key,h1,h2,rfl⟩:=h;rw[h1];simp only[h2];first|exact⟨rfl,rfl⟩|exact⟨trivial,trivial⟩
 case call=>exact h.mono fun o σ'' ⟨e1,e2⟩=>by subst e1;exact⟨rfl,e2⟩
 case callv=>
  obtain⟨f,cap,h1,h2⟩:=h;rw[h1];exact h2.mono fun o σ'' ⟨e1,e2⟩=>by subst e1;exact⟨rfl,e2⟩
theorem gY{o:O}(hc:o.op.isSlot=true∨(o.op.isActG o.dst=true∧(∀f args,o.op≠.call f args)∧∀x args,o.op≠.callv x args)){K:al→List (List V)→Prop}(h:cG C o.op o.dst ρ σ K Q):∃a b σ',jA C o.op ρ σ a b σ'∧K (ap o (a,b) ρ) σ'∧(o.op.isSlot=true→σ'=σ):=by
 obtain⟨d,op,g⟩:=o;unfold ap;cases op<;>first|(exfalso;simp[OP.isSlot,OP.isActG]at hc;done)|skip
 all_goals simp only[cG]at h
 case mvo t=>
  split at h
  ·rename_i T k rows e;exact⟨_,_,σ,⟨T,k,rows,e,rfl,rfl,rfl⟩,h,fun _=>rfl⟩
  ·exact h.elim
 case nilo T k=>exact⟨.junk,_,σ,⟨rfl,rfl⟩,h,fun _=>rfl⟩
 case app T k bytes t y=>
  split at h
  ·rename_i T' k' rows rows2 e1 e2;obtain⟨⟨rfl,rfl,h1⟩,h2⟩:=h;exact⟨_,_,σ,⟨rows,rows2,e1,e2,h1,rfl,rfl,rfl⟩,h2,fun _=>rfl⟩
  ·exact h.elim
 case mkso=>
  split at h
  ·rename_i rows e;exact⟨.junk,_,σ,⟨rows,e,h.1,rfl,rfl⟩,h.2,fun _=>rfl⟩
  ·exact h.elim
 case mkc=>
  split at h
  ·rename_i kd m e;exact⟨.junk,_,σ,⟨kd,m,e,h.1,rfl,rfl⟩,h.2,fun _=>rfl⟩
  ·exact h.elim
 case new=>exact⟨.junk,_,_,⟨rfl,rfl⟩,h,fun e=>by cases e⟩
 case box=>exact⟨.junk,_,_,⟨h.1,rfl,rfl⟩,h.2,fun e=>by cases e⟩
 case mkb=>
  split at h
  ·rename_i kd m e;exact⟨.junk,_,_,⟨kd,m,e,h.1,rfl,rfl⟩,h.2,fun e=>by cases e⟩
  ·exact h.elim
 case sto=>
  have hd:d=none:=by simpa[OP.isSlot,OP.isActG]using hc
  subst hd;split at h
  ·rename_i i o e;split at h
   ·rename_i cs e2;exact⟨.junk,.junk,_,⟨i,o,cs,e,e2,h.1,rfl⟩,h.2,fun e=>by cases e⟩
   ·exact h.elim
  ·exact h.elim
 case stoo=>
  have hd:d=none:=by simpa[OP.isSlot,OP.isActG]using hc
  subst hd;split at h
  ·rename_i i o T k rows e e1;split at h
   ·rename_i cs e2;exact⟨_,.junk,_,⟨i,o,T,k,rows,cs,e,e1,e2,h.1,rfl,rfl⟩,h.2,fun e=>by cases e⟩
   ·exact h.elim
  ·exact h.elim
 case ldo=>
  split at h
  ·rename_i i o e;split at h
   ·rename_i cs e2;split at h
    ·rename_i T k rows e3;exact⟨.junk,_,_,⟨i,o,cs,T,k,rows,e,e2,e3,rfl,rfl⟩,h,fun e=>by cases e⟩
    ·exact h.elim
   ·exact h.elim
  ·exact h.elim
 case cpy=>
  split at h
  ·rename_i i off n e;split at h
   ·rename_i cs src e2 e3;exact⟨.junk,_,_,⟨i,off,n,cs,src,e,e2,e3,h.1,rfl,rfl⟩,h.2,fun e=>by cases e⟩
   ·exact h.elim
  ·exact h.elim
 case mst=>
  have hd:d=none:=by simpa[OP.isSlot,OP.isActG]using hc
  subst hd;split at h
  ·rename_i kv key e1 e2;exact⟨.junk,.junk,_,⟨kv,key,e1,e2,rfl⟩,h,fun e=>by cases e⟩
  ·exact h.elim
theorem oY{op:OP}{ρ ρ':al}{a b:V}{σ':List (List V)}(h:∀t∈op.slotsG,get ρ t=get ρ' t)(hr:jA C op ρ σ a b σ'):jA C op ρ' σ a b σ':=by
 have e1:∀(x:X),(∀t∈x.slots,t∈op.slotsG)→ev C ρ x=ev C ρ' x:=fun x hx=>bC fun t ht=>h t (hx t ht);cases op<;>simp only[jA]at hr ⊢ <;>simp only[OP.slotsG,OP.slots]at h e1<;>first|exact hr.elim|exact hr|skip
 case mvo t=>rw[←h t (by simp)];exact hr
 case app T k bytes t y=>rw[←h t (by simp),←e1 y (fun t ht=>by simp[ht])];exact hr
 case mkso=>rw[←fH h];exact hr
 case mkc x=>rw[←e1 x (fun t ht=>ht)];exact hr
 case box x=>rw[←e1 x (fun t ht=>ht)];exact hr
 case mkb x=>rw[←e1 x (fun t ht=>ht)];exact hr
 case sto x y=>rw[←e1 x (fun t ht=>by simp[ht]),←e1 y (fun t ht=>by simp[ht])];exact hr
 case stoo x t=>rw[←h t (by simp),←e1 x (fun t ht=>by simp[ht])];exact hr
 case ldo x=>rw[←e1 x (fun t ht=>ht)];exact hr
 case mst st x y z=>rw[←e1 x (fun t ht=>by simp[ht]),←e1 y (fun t ht=>by simp[ht]),←e1 z (fun t ht=>by simp[ht])];exact hr
 case cpy x y=>rw[←e1 x (fun t ht=>by simp[ht]),←e1 y (fun t ht=>by simp[ht])];exact hr
 case call f args=>
  have:(args.map fun x=>(ev C ρ' x).lend)=args.map fun x=>(ev C ρ x).lend:=List.map_congr_left fun x hx=>by rw[e1 x fun t ht=>List.mem_flatMap.2 ⟨x,hx,ht⟩]
  rw[this];exact hr
 case callv y args=>
  have:(args.map fun x=>(ev C ρ' x).lend)=args.map fun x=>(ev C ρ x).lend:=List.map_congr_left fun x hx=>by rw[e1 x fun t ht=>List.mem_append_right _ (List.mem_flatMap.2 ⟨x,hx,ht⟩)]
  rw[this,←e1 y (fun t ht=>by simp[ht])];exact hr
def qH(C:Cx)(op:OP)(ρ:al)(σ:List (List V))(P:V→List (List V)→Prop):Prop:=match op with
 | .call f args=>Fun C f (args.map fun x=>(ev C ρ x).lend) σ (fun o σ'=>∃u,o=.panic u∧P u σ')
 | .callv x args=>∃f cap,ev C ρ x=.fn f cap∧Fun C f ((args.map fun x=>(ev C ρ x).lend)++cap) σ (fun o σ'=>∃u,o=.panic u∧P u σ')
 | _=>False
theorem vj{o:O}{P:V→List (List V)→Prop}(h:qH C o.op ρ σ P):cG C o.op o.dst ρ σ (fun _ _=>False) (fun e _ σ'=>∃u,e=.panic u∧P u σ'):=by
 obtain⟨d,op,g⟩:=o;cases op;case call=>exact Fun.mono h fun o σ'' ⟨u,e1,e2⟩=>by subst e1;exact⟨u,rfl,e2⟩
 case callv=>
  obtain⟨f,cap,h1,h2⟩:=h;simp only[cG];rw[h1];exact h2.mono fun o σ'' ⟨u,e1,e2⟩=>by subst e1;exact⟨u,rfl,e2⟩
 all_goals exact h.elim
theorem oN{op:OP}{ρ ρ':al}{P:V→List (List V)→Prop}(h:∀t∈op.slotsG,get ρ t=get ρ' t)(hr:qH C op ρ σ P):qH C op ρ' σ P:=by
 have e1:∀(x:X),(∀t∈x.slots,t∈op.slotsG)→ev C ρ x=ev C ρ' x:=fun x hx=>bC fun t ht=>h t (hx t ht);cases op<;>simp only[qH]at hr ⊢ <;>simp only[OP.slotsG,OP.slots]at h e1<;>first|exact hr.elim|exact hr|skip
 case call f args=>
  have:(args.map fun x=>(ev C ρ' x).lend)=args.map fun x=>(ev C ρ x).lend:=List.map_congr_left fun x hx=>by rw[e1 x fun t ht=>List.mem_flatMap.2 ⟨x,hx,ht⟩]
  rw[this];exact hr
 case callv y args=>
  have:(args.map fun x=>(ev C ρ' x).lend)=args.map fun x=>(ev C ρ x).lend:=List.map_congr_left fun x hx=>by rw[e1 x fun t ht=>List.mem_append_right _ (List.mem_flatMap.2 ⟨x,hx,ht⟩)]
  rw[this,←e1 y (fun t ht=>by simp[ht])];exact hr
structure PendG where
 o:O
 ρ:al
 ρ':al
 hi:Nat
def reG(C:Cx)(m:Nat)(σ':List (List V)):List PendG→Prop
 | []=>True
 | p::r=>(if m≤p.hi then aT C [p.o] p.ρ σ' (fun ρ'=>ρ'=p.ρ')else True)∧reG C m σ' r
def iv(C:Cx)(o:O)(ρ ρ':al):Nat→List (List (List V))→Prop
 | 0,_=>True
 | _+1,[]=>False
 | k+1,σ::h=>aT C [o] ρ σ (fun ρ''=>ρ''=ρ')∧iv C o ρ ρ' k h
def m8(m hi:Nat)(x:PendG)(p:List PendG):List PendG:=if m<hi then x::p else p
def cX(C:Cx):List (O×GK)→Nat→List (List (List V))→al→List (List V)→Prop
 | [],_,_,_,_=>True
 | (o,.free lo)::r,m,h,ρ,σ=>if lo≤m then aT C [o] ρ σ fun ρ'=>cX C r m h ρ' σ else cX C r m h (ap o (.junk,.junk) ρ) σ
 | (o,.calm lo _)::r,m,h,ρ,σ=>if lo≤m then aT C [o] ρ σ fun ρ'=>iv C o ρ ρ' (m-lo) h∧cX C r m h ρ' σ else cX C r m h (ap o (.junk,.junk) ρ) σ
 | (o,.slot lo)::r,m,h,ρ,σ=>if lo≤m then b8 C [o] ρ σ (fun e ρ' _=>e=.normal∧cX C r m h ρ' σ)else cX C r m h (ap o (.junk,.junk) ρ) σ
 | (o,.act)::r,m,h,ρ,σ=>cX C r m h (ap o (.junk,.junk) ρ) σ
def cY(C:Cx)(P:V→List (List V)→Prop)(K:al→List (List V)→Prop):List (O×GK)→Nat→List (List (List V))→List PendG→al→List (List V)→Prop
 | [],_,_,_,ρ,σ=>K ρ σ
 | (o,.free _)::r,m,h,p,ρ,σ=>aT C [o] ρ σ fun ρ'=>cY C P K r m h p ρ' σ
 | (o,.calm lo hi)::r,m,h,p,ρ,σ=>aT C [o] ρ σ fun ρ'=>iv C o ρ ρ' (m-lo) h∧cY C P K r m h (m8 m hi ⟨o,ρ,ρ',hi⟩ p) ρ' σ
 | (o,.slot _)::r,m,h,p,ρ,σ=>b8 C [o] ρ σ fun e ρ' σ'=>e=.normal∧cY C P K r m h p ρ' σ'
 | (⟨d,.call f args,g⟩,.act)::r,m,h,p,ρ,σ=>
  (∃v σ1,Fun C f (args.map fun x=>(ev C ρ x).lend) σ (fun o σ'=>o=.ret v∧σ'=σ1)∧reG C (m+1) σ1 p∧cY C P K r (m+1) (σ::h) p (putd ρ d v) σ1)∨
  (Fun C f (args.map fun x=>(ev C ρ x).lend) σ (fun o σ'=>∃u,o=.panic u∧P u σ')∧cX C r m h (putd ρ d .junk) σ)
 | (⟨d,.callv x args,g⟩,.act)::r,m,h,p,ρ,σ=>∃f cap,ev C ρ x=.fn f cap∧
  ((∃v σ1,Fun C f ((args.map fun x=>(ev C ρ x).lend)++cap) σ (fun o σ'=>o=.ret v∧σ'=σ1)∧reG C (m+1) σ1 p∧cY C P K r (m+1) (σ::h) p (putd ρ d v) σ1)∨
  (Fun C f ((args.map fun x=>(ev C ρ x).lend)++cap) σ (fun o σ'=>∃u,o=.panic u∧P u σ')∧cX C r m h (putd ρ d .junk) σ))
 | (o,.act)::r,m,h,p,ρ,σ=>b8 C [o] ρ σ fun e ρ' σ'=>e=.normal∧reG C (m+1) σ' p∧cY C P K r (m+1) (σ::h) p ρ' σ'
def cf:List (O×GK)→(Nat→V×V)→Nat→(Nat→Bool)→al→al
 | [],_,_,_,ρ=>ρ
 | e::l,W,k,S,ρ=>cf l W (k+1) S (if S k then ap e.1 (W k) ρ else ρ)
theorem iO:∀(l:List (O×GK)) (W:Nat→V×V) (k:Nat) (S:Nat→Bool) (ρ ρ':al) (t:Nat),get ρ t=get ρ' t→get (cf l W k S ρ) t=get (cf l W k S ρ') t
 | [],_,_,_,_,_,_,h=>h
 | e::l,W,k,S,ρ,ρ',t,h=>by
  simp only[cf];apply iO l;cases S k
  ·exact h
  ·simp only[if_true,kM,h]
def O.writes(o:O)(t:Nat):Prop:=o.dst=some t∨o.op.w1=some t
theorem ep:∀(l:List (O×GK)) (W:Nat→V×V) (k:Nat) (S S':Nat→Bool) (ρ:al) (t:Nat),(∀i e,l[i]? = some e→e.1.writes t→S (k+i)=S' (k+i))→get (cf l W k S ρ) t=get (cf l W k S' ρ) t
 | [],_,_,_,_,_,_,_=>rfl
 | e::l,W,k,S,S',ρ,t,h=>by
  simp only[cf];rw[ep l W (k+1) S S' _ t fun i e' he hw=>by have:=h (i+1) e' (by simpa using he) hw;rwa[show k+(i+1)=k+1+i by omega]at this];apply iO;have h0:=h 0 e (by simp);by_cases hw:e.1.writes t
  ·rw[show S k=S' k from h0 hw]
  ·unfold O.writes at hw;have h1:¬e.1.dst=some t:=fun h=>hw (.inl h);have h2:¬e.1.op.w1=some t:=fun h=>hw (.inr h);cases S k<;>cases S' k<;>simp[kM,h1,h2]
theorem pk:∀(l:List (O×GK)) (W W':Nat→V×V) (k:Nat) (S:Nat→Bool) (ρ:al),(∀i,k≤i→W i=W' i)→cf l W k S ρ=cf l W' k S ρ
 | [],_,_,_,_,_,_=>rfl
 | e::l,W,W',k,S,ρ,h=>by
  simp only[cf];rw[h k (Nat.le_refl _),pk l W W' (k+1) S _ fun i hi=>h i (by omega)]
theorem fM:∀(l:List (O×GK)) (W:Nat→V×V) (k:Nat) (S:Nat→Bool) (ρ:al),(∀j,k≤j→S j=false)→cf l W k S ρ=ρ
 | [],_,_,_,_,_=>rfl
 | e::l,W,k,S,ρ,h=>by
  simp only[cf];rw[h k (Nat.le_refl _),fM l W (k+1) S _ fun j hj=>h j (by omega)];rfl
theorem iV:∀(l:List (O×GK)) (W:Nat→V×V) (k:Nat) (ρ:al) (i:Nat) (e:O×GK),l[i]? = some e→cf l W k (fun j=>decide (j<k+i+1)) ρ=ap e.1 (W (k+i)) (cf l W k (fun j=>decide (j<k+i)) ρ)
 | [],_,_,_,_,_,h=>by simp at h
 | e'::l,W,k,ρ,0,e,h=>by
  simp at h;subst h;simp only[cf];rw[fM _ _ _ _ _ (fun j hj=>by simp;omega),fM _ _ _ _ _ (fun j hj=>by simp;omega)];simp
 | e'::l,W,k,ρ,i+1,e,h=>by
  simp only[cf];have:=iV l W (k+1) ρ i e (by simpa using h);rw[if_pos (by simp;omega),if_pos (by simp)];have e1:k+(i+1)=k+1+i:=by omega
  rw[e1];exact iV l W (k+1) _ i e (by simpa using h)
theorem sa{l:List (O×GK)}(W:Nat→V×V)(ρ:al){S:Nat→Bool}{i:Nat}{e:O×GK}(he:l[i]? = some e)(hSi:S i=false)
 (hsame:∀t,(t∈e.1.looksG∨e.1.writes t)→∀(j:Nat) (q:O×GK),l[j]? = some q→j≠i→q.1.writes t→S j=decide (j<i)):
 (∀t∈e.1.looksG,get (cf l W 0 (fun j=>decide (j<i)) ρ) t=get (cf l W 0 S ρ) t)∧
 ∀t,get (cf l W 0 (fun j=>j==i||S j) ρ) t=get (ap e.1 (W i) (cf l W 0 S ρ)) t:=by
 refine⟨fun t ht=>?_,fun t=>?_⟩
 ·refine ep l W 0 _ _ ρ t fun j q hq hw=>?_;rw[Nat.zero_add];by_cases e:j=i
  ·subst e;rw[hSi];simp
  ·exact(hsame t (.inl ht) j q hq e hw).symm
 ·by_cases hw:e.1.writes t
  ·have h1:=iV l W 0 ρ i e he;rw[Nat.zero_add]at h1
   have h2:get (cf l W 0 (fun j=>j==i||S j) ρ) t=get (cf l W 0 (fun j=>decide (j<i+1)) ρ) t:=ep l W 0 _ _ ρ t fun j q hq hw'=>by
    rw[Nat.zero_add];by_cases e:j=i
    ·subst e;simp
    ·simp only[hsame t (.inr hw) j q hq e hw'];have:(j==i)=false:=by simp[e]
     rw[this,Bool.false_or,decide_eq_decide];omega
   rw[h2,h1,kM,kM];unfold O.writes at hw;split
   ·rfl
   ·rename_i h3;rw[if_pos (hw.resolve_left h3),if_pos (hw.resolve_left h3)]
  ·have h1:¬e.1.dst=some t:=fun h=>hw (.inl h);have h2:¬e.1.op.w1=some t:=fun h=>hw (.inr h);rw[kM,if_neg h1,if_neg h2];refine ep l W 0 _ _ ρ t fun j q hq hw'=>?_;rw[Nat.zero_add]
   have:(j==i)=false:=by
    rw[beq_eq_false_iff_ne];intro ee;subst ee;rw[he]at hq;cases hq;exact hw hw'
   simp[this]
def nA:List (O×GK)→Nat→(Nat→Bool)→Nat
 | [],_,_=>0
 | e::l,k,S=>(if(e.2.isAct&&S k)=true then 1 else 0)+nA l (k+1) S
def nb:List (O×GK)→Nat→Nat
 | _,0=>0
 | [],_+1=>0
 | e::l,i+1=>(if e.2.isAct=true then 1 else 0)+nb l i
theorem iK:∀(l:List (O×GK)) (k:Nat) (S S':Nat→Bool),(∀j,j<l.length→S (k+j)=S' (k+j))→nA l k S=nA l k S'
 | [],_,_,_,_=>rfl
 | e::l,k,S,S',h=>by
  simp only[nA];rw[show S k=S' k from h 0 (by simp),iK l (k+1) S S' fun j hj=>by have:=h (j+1) (by simpa using hj);rwa[show k+(j+1)=k+1+j by omega]at this]
theorem pt:∀(l:List (O×GK)) (k:Nat),nA l k (fun _=>true)=nb l l.length
 | [],_=>rfl
 | e::l,k=>by simp only[nA,List.length_cons,nb,Bool.and_true];rw[pt l (k+1)]
theorem mM:∀(l:List (O×GK)) (k:Nat),nA l k (fun _=>false)=0
 | [],_=>rfl
 | e::l,k=>by simp only[nA,Bool.and_false];rw[mM l (k+1)];rfl
theorem yR:∀(l:List (O×GK)) (k:Nat) (S:Nat→Bool) (c lo:Nat),(∀j e,l[j]? = some e→e.2.isAct=true→c+nb l j<lo→S (k+j)=true)→min lo (c+nb l l.length)≤c+nA l k S
 | [],k,S,c,lo,h=>by simp only[nA,List.length_nil,nb];omega
 | e::l,k,S,c,lo,h=>by
  simp only[nA,List.length_cons,nb]
  have ih:=fun c' (hc':∀j,c'+nb l j<lo→c+((if e.2.isAct=true then 1 else 0)+nb l j)<lo)=>yR l (k+1) S c' lo (fun j e' he ha hn=>by
   have:=h (j+1) e' (by simpa using he) ha (by simp only[nb];exact hc' j hn);rwa[show k+(j+1)=k+1+j by omega]at this)
  cases ha:e.2.isAct with
  | false=>
   have:=ih c (fun j hn=>by simp only[ha];simp;omega);simp only[Bool.false_and];simp;omega
  | true=>
   have:=ih (c+1) (fun j hn=>by simp only[ha];simp;omega);by_cases hlt:c<lo
   ·have h0:=h 0 e (by simp) ha (by simp only[nb];omega);simp only[Nat.add_zero]at h0;simp only[h0,Bool.and_self];simp;omega
   ·omega
theorem yP:∀(l:List (O×GK)) (k:Nat) (S:Nat→Bool) (c hi:Nat),(∀j e,l[j]? = some e→e.2.isAct=true→hi≤c+nb l j→S (k+j)=false)→c+nA l k S≤max c hi
 | [],k,S,c,hi,h=>by simp only[nA];omega
 | e::l,k,S,c,hi,h=>by
  simp only[nA]
  have ih:=fun c' (hc':∀j,hi≤c'+nb l j→hi≤c+((if e.2.isAct=true then 1 else 0)+nb l j))=>yP l (k+1) S c' hi (fun j e' he ha hn=>by
   have:=h (j+1) e' (by simpa using he) ha (by simp only[nb];exact hc' j hn);rwa[show k+(j+1)=k+1+j by omega]at this)
  cases ha:e.2.isAct with
  | false=>
   have:=ih c (fun j hn=>by simp only[ha];simp;omega);simp only[Bool.false_and];simp;omega
  | true=>
   have:=ih (c+1) (fun j hn=>by simp only[ha];simp;omega);by_cases hlt:c<hi
   ·split<;>omega
   ·have h0:=h 0 e (by simp) ha (by simp only[nb];omega);simp only[Nat.add_zero]at h0;simp only[h0,Bool.and_false];simp;omega
theorem tx:∀(l:List (O×GK)) (k:Nat) (S:Nat→Bool) (i:Nat) (e:O×GK),l[i]? = some e→S (k+i)=false→nA l k (fun j=>j==k+i||S j)=nA l k S+if e.2.isAct=true then 1 else 0
 | [],_,_,_,_,h,_=>by simp at h
 | e'::l,k,S,0,e,h,hS=>by
  simp at h;subst h;simp only[Nat.add_zero]at hS ⊢;simp only[nA,hS,Bool.and_false,beq_self_eq_true,Bool.true_or,Bool.and_true]
  rw[iK l (k+1) (fun j=>j==k||S j) S fun j hj=>by
   have:(k+1+j==k)=false:=by simp;omega
   simp[this]]
  simp;omega
 | e'::l,k,S,i+1,e,h,hS=>by
  simp only[nA];have e1:k+(i+1)=k+1+i:=by omega
  rw[e1]at hS ⊢;rw[tx l (k+1) S i e (by simpa using h) hS];have:(k==k+1+i)=false:=by simp;omega
  simp only[this,Bool.false_or];omega
def ig(C:Cx)(P:V→List (List V)→Prop)(e:O×GK)(k z:Nat)(sq:Nat→List (List V))(ρi:al)(w:V×V):Prop:=match e.2 with
 | .free lo=>lo≤z→∀σ,Loc C e.1 ρi σ w.2
 | .calm lo hi=>lo≤z→∀q,lo≤q→q≤hi→q≤z→Loc C e.1 ρi (sq q) w.2
 | .slot lo=>lo≤z→∀σ,jA C e.1.op ρi σ w.1 w.2 σ
 | .act=>(k<z→jA C e.1.op ρi (sq k) w.1 w.2 (sq (k+1)))∧(k=z→qH C e.1.op ρi (sq z) P)
def fL(e:O×GK)(k:Nat):Bool:=match e.2 with
 | .free lo=>e.1.op.isFree&&e.1.op.isCalm&&decide (lo≤k)
 | .calm lo hi=>e.1.op.isCalm&&e.1.dst.isSome&&decide (lo≤k)&&decide (k≤hi)
 | .slot lo=>e.1.op.isSlot&&e.1.g.isNone&&decide (lo≤k)
 | .act=>e.1.op.isActG e.1.dst&&e.1.g.isNone
theorem kV{o:O}{K:al→Prop}(h:aT C [o] ρ σ K):∃x ρ',Loc C o ρ σ x∧K ρ'∧∀t,get ρ' t=get (putd ρ o.dst x) t:=by
 obtain⟨xs,hl,⟨ρ',h1,h2⟩,h3⟩:=jM (k:=0) h
 match xs,hl with
 | [x],_=>
  obtain⟨ρi,g1,g2⟩:=h3 0 (by simp) (by simp);refine⟨x,ρ',g1.congr fun t _=>?_,h1,fun t=>?_⟩
  ·rw[g2 t];simp[bj,ba]
  ·rw[h2 t];simp[bj,ba]
theorem kY{o:O}{ρ':al}{x:V}{d:Nat}(hd:o.dst=some d)(hg:∀t,get ρ' t=get (putd ρ o.dst x) t)(h:aT C [o] ρ σ fun ρ''=>ρ''=ρ'):Loc C o ρ σ x:=by
 obtain⟨x2,ρ2,h1,rfl,h3⟩:=kV h;have h4:=h3 d;have h5:=hg d;rw[ci,if_pos hd]at h4 h5;rw[←h5,h4];exact h1
theorem qx{o:O}(h:o.op.isCalm=true):o.op.w1=none:=by
 cases ho:o.op<;>rw[ho]at h<;>first|rfl|(simp[OP.isCalm,co]at h)
theorem jQ{o:O}(h:o.op.isCalm=true)(a x:V)(ρ:al):ap o (a,x) ρ=putd ρ o.dst x:=by
 unfold ap;rw[qx h];rfl
theorem jW{o:O}{ρ':al}:∀{n:Nat} {h:List (List (List V))},iv C o ρ ρ' n h→∀r,r<n→∃σ,h[r]? = some σ∧aT C [o] ρ σ fun ρ''=>ρ''=ρ'
 | 0,_,_,r,hr=>by omega
 | n+1,[],hb,_,_=>hb.elim
 | n+1,σ::h,hb,0,_=>⟨σ,rfl,hb.1⟩
 | n+1,σ::h,hb,r+1,hr=>by
  obtain⟨σ',h1,h2⟩:=jW hb.2 r (by omega);exact⟨σ',by simpa using h1,h2⟩
theorem uC{m:Nat}{σ':List (List V)}:∀{p:List PendG},reG C m σ' p→∀q∈p,m≤q.hi→aT C [q.o] q.ρ σ' fun ρ'=>ρ'=q.ρ'
 | [],_,_,hq,_=>by simp at hq
 | x::p,h,q,hq,hm=>by
  rcases List.mem_cons.1 hq with rfl|hq
  ·have:=h.1;rwa[if_pos hm]at this
  ·exact uC h.2 q hq hm
theorem dD{P:V→List (List V)→Prop}{e:O×GK}{l:List (O×GK)}{k m m' z:Nat}{sq:Nat→List (List V)}{ρ ρ2:al}{w:V×V}{W:Nat→V×V}(hm:m'=m+if e.2.isAct=true then 1 else 0)
 (h0:ig C P e m z sq ρ w)(hρ2:∀t,get ρ2 t=get (ap e.1 w ρ) t)
 (ht:∀i (hi:i<l.length),∃ρi,(∀t,get ρi t=get (cf l W (k+1) (fun j=>decide (j<k+1+i)) ρ2) t)∧ig C P l[i] (m'+nb l i) z sq ρi (W (k+1+i))):
 ∀i (hi:i<(e::l).length),∃ρi,(∀t,get ρi t=get (cf (e::l) (fun i=>if i=k then w else W i) k (fun j=>decide (j<k+i)) ρ) t)∧ig C P (e::l)[i] (m+nb (e::l) i) z sq ρi (if k+i=k then w else W (k+i)):=by
 intro i hi;cases i with
 | zero=>
  refine⟨ρ,fun t=>?_,?_⟩
  ·rw[fM _ _ _ _ _ fun j hj=>by simp;omega]
  ·simpa[nb]using h0
 | succ i=>
  obtain⟨ρi,g1,g2⟩:=ht i (by simpa using hi);refine⟨ρi,fun t=>?_,?_⟩
  ·rw[g1 t];simp only[cf,if_pos (show decide (k<k+(i+1))=true by simp),if_true];rw[pk l (fun i=>if i=k then w else W i) W (k+1) _ _ fun j hj=>if_neg (by omega),show k+(i+1)=k+1+i by omega];exact iO _ _ _ _ _ _ _ (hρ2 t)
  ·simp only[List.getElem_cons_succ,nb];have hne:¬(k+(i+1)=k):=by omega
   simp only[if_neg hne];rw[show k+(i+1)=k+1+i by omega,←Nat.add_assoc,←hm];exact g2
theorem ij{P:V→List (List V)→Prop}{m:Nat}{h:List (List (List V))}{sq:Nat→List (List V)}(hs:sq m=σ)(hh:∀r,r<m→h[r]? = some (sq (m-1-r))):∀(l:List (O×GK)) (k c:Nat) (ρ:al),m<c→(∀i e,l[i]? = some e→fL e (c+nb l i)=true)→cX C l m h ρ σ→
 ∃W:Nat→V×V,∀i (hi:i<l.length),∃ρi,(∀t,get ρi t=get (cf l W k (fun j=>decide (j<k+i)) ρ) t)∧ig C P l[i] (c+nb l i) m sq ρi (W (k+i))
 | [],_,_,_,_,_,_=>⟨fun _=>(.junk,.junk),fun i hi=>by simp at hi⟩
 | (o,g)::l,k,c,ρ,hmc,hok,hp=>by
  have hok0:=hok 0 _ rfl;simp only[nb,Nat.add_zero]at hok0
  have hokt:∀c',c'=c+(if g.isAct=true then 1 else 0)→∀i e,l[i]? = some e→fL e (c'+nb l i)=true:=fun c' hc' i e he=>by
   have:=hok (i+1) e (by simpa using he);simp only[nb]at this;rw[hc',Nat.add_assoc];exact this
  have skip:∀c',c'=c+(if g.isAct=true then 1 else 0)→ig C P (o,g) c m sq ρ (.junk,.junk)→cX C l m h (ap o (.junk,.junk) ρ) σ→∃W:Nat→V×V,∀i (hi:i<((o,g)::l).length),∃ρi,(∀t,get ρi t=get (cf ((o,g)::l) W k (fun j=>decide (j<k+i)) ρ) t)∧ig C P ((o,g)::l)[i] (c+nb ((o,g)::l) i) m sq ρi (W (k+i)):=fun c' hc' h0 hr=>by
   obtain⟨W,hW⟩:=ij hs hh l (k+1) c' (ap o (.junk,.junk) ρ) (by omega) (hokt c' hc') hr;exact⟨_,dD hc' h0 (fun _=>rfl) hW⟩
  cases g with
  | free lo=>
   simp only[cX]at hp;simp only[fL,Bool.and_eq_true]at hok0;split at hp
   ·obtain⟨x,ρ',h1,h2,h3⟩:=kV hp;obtain⟨W,hW⟩:=ij hs hh l (k+1) c ρ' hmc (hokt c rfl) h2;exact⟨_,dD (e:=(o,.free lo)) (w:=(.junk,x)) rfl (fun _ σ2=>h1.free hok0.1.1 σ2) (fun t=>by rw[h3 t,jQ hok0.1.2]) hW⟩
   ·exact skip c rfl (fun hz=>absurd hz (by assumption)) hp
  | calm lo hi=>
   simp only[cX]at hp;simp only[fL,Bool.and_eq_true,decide_eq_true_eq]at hok0;split at hp
   ·rename_i hlo;obtain⟨x,ρ',h1,⟨h2,h4⟩,h3⟩:=kV hp;obtain⟨d,hd⟩:=Option.isSome_iff_exists.1 hok0.1.1.2;obtain⟨W,hW⟩:=ij hs hh l (k+1) c ρ' hmc (hokt c rfl) h4;refine⟨_,dD (e:=(o,.calm lo hi)) (w:=(.junk,x)) rfl (fun _ q q1 q2 q3=>?_) (fun t=>by rw[h3 t,jQ hok0.1.1.1]) hW⟩;by_cases e:q=m
    ·subst e;rw[hs];exact h1
    ·obtain⟨σ',g1,g2⟩:=jW h2 (m-1-q) (by omega);rw[hh _ (by omega),show m-1-(m-1-q)=q by omega]at g1;cases g1;exact kY hd h3 g2
   ·exact skip c rfl (fun hz=>absurd hz (by assumption)) hp
  | slot lo=>
   simp only[cX]at hp;simp only[fL,Bool.and_eq_true,Option.isNone_iff_eq_none]at hok0;split at hp
   ·simp only[b8,hok0.1.2]at hp;obtain⟨a,b,σ',h1,⟨-,h2⟩,h3⟩:=gY (.inl hok0.1.1) hp;have hσ:=h3 hok0.1.1;rw[hσ]at h1;obtain⟨W,hW⟩:=ij hs hh l (k+1) c _ hmc (hokt c rfl) h2;refine⟨_,dD (e:=(o,.slot lo)) (w:=(a,b)) rfl (fun _ σ2=>?_) (fun t=>rfl) hW⟩;cases ho:o.op<;>rw[ho]at h1 hok0<;>first|(simp[OP.isSlot]at hok0;done)|skip
    all_goals (simp only[jA]at h1 ⊢;simpa using h1)
   ·exact skip c rfl (fun hz=>absurd hz (by assumption)) hp
  | act=>
   simp only[cX]at hp;exact skip (c+1) rfl ⟨fun hz=>by omega,fun hz=>by omega⟩ hp
def ExG(C:Cx)(P:V→List (List V)→Prop)(K:al→List (List V)→Prop)(l:List (O×GK))(k m:Nat)(p:List PendG)(ρ:al)(sq0:Nat→List (List V)):Prop:=
 ∃(W:Nat→V×V) (sq:Nat→List (List V)) (z:Nat),(∀q,q≤m→sq q=sq0 q)∧m≤z∧z≤m+nb l l.length∧
  (∀q∈p,∀r,m<r→r≤z→r≤q.hi→aT C [q.o] q.ρ (sq r) fun ρ'=>ρ'=q.ρ')∧
  (∀i (hi:i<l.length),∃ρi,(∀t,get ρi t=get (cf l W k (fun j=>decide (j<k+i)) ρ) t)∧ig C P l[i] (m+nb l i) z sq ρi (W (k+i)))∧
  (z=m+nb l l.length→∃ρf,K ρf (sq z)∧∀t,get ρf t=get (cf l W k (fun _=>true) ρ) t)
theorem mN{P:V→List (List V)→Prop}{K:al→List (List V)→Prop}:∀(l:List (O×GK)) (k m:Nat) (h:List (List (List V))) (p:List PendG) (ρ:al) (σ:List (List V)) (sq0:Nat→List (List V)),sq0 m=σ→(∀r,r<m→h[r]? = some (sq0 (m-1-r)))→
 (∀i e,l[i]? = some e→fL e (m+nb l i)=true)→cY C P K l m h p ρ σ→
 ExG C P K l k m p ρ sq0
 | [],k,m,h,p,ρ,σ,sq0,hs,hh,hok,hg=>⟨fun _=>(.junk,.junk),sq0,m,fun _ _=>rfl,Nat.le_refl _,by simp[nb],fun q hq r h1 h2=>by omega,fun i hi=>by simp at hi,fun _=>⟨ρ,by rw[hs];exact hg,fun _=>rfl⟩⟩
 | (o,g)::l,k,m,h,p,ρ,σ,sq0,hs,hh,hok,hg=>by
  have hok0:=hok 0 _ rfl;simp only[nb,Nat.add_zero]at hok0
  have hokt:∀c',c'=m+(if g.isAct=true then 1 else 0)→∀i e,l[i]? = some e→fL e (c'+nb l i)=true:=fun c' hc' i e he=>by
   have:=hok (i+1) e (by simpa using he);simp only[nb]at this;rw[hc',Nat.add_assoc];exact this
  have fin:∀{W:Nat→V×V} {w:V×V} {ρ2:al},(∀t,get ρ2 t=get (ap o w ρ) t)→∀{ρf:al},(∀t,get ρf t=get (cf l W (k+1) (fun _=>true) ρ2) t)→∀t,get ρf t=get (cf ((o,g)::l) (fun i=>if i=k then w else W i) k (fun _=>true) ρ) t:=fun{W w ρ2} h1 {ρf} h2 t=>by
   simp only[cf,if_true];rw[h2 t,pk l (fun i=>if i=k then w else W i) W (k+1) _ _ fun j hj=>if_neg (by omega)];exact iO _ _ _ _ _ _ _ (h1 t)
  have calm:g.isAct=false→∀(p':List PendG) (ρ':al) (w:V×V),(∀q∈p,q∈p')→(∀t,get ρ' t=get (ap o w ρ) t)→cY C P K l m h p' ρ' σ→
   (∀(sq:Nat→List (List V)) (z:Nat),m≤z→(∀q,q≤m→sq q=sq0 q)→(∀q∈p',∀r,m<r→r≤z→r≤q.hi→aT C [q.o] q.ρ (sq r) fun ρ'=>ρ'=q.ρ')→ig C P (o,g) m z sq ρ w)→ExG C P K ((o,g)::l) k m p ρ sq0:=fun hna p' ρ' w hp hρ hr hf=>by
   obtain⟨W,sq,z,g1,g2,g3,g4,g5,g6⟩:=mN l (k+1) m h p' ρ' σ sq0 hs hh (hokt m (by simp[hna])) hr;have hn:nb ((o,g)::l) ((o,g)::l).length=nb l l.length:=by simp[nb,hna]
   exact⟨fun i=>if i=k then w else W i,sq,z,g1,g2,by rw[hn];exact g3,fun q hq=>g4 q (hp q hq),dD (by simp[hna]) (hf sq z g2 g1 g4) hρ g5,fun hz=>by
    rw[hn]at hz;obtain⟨ρf,k1,k2⟩:=g6 hz;exact⟨ρf,k1,fin hρ k2⟩⟩
  have acts:g=.act→∀(ρ':al) (w:V×V) (σ1:List (List V)),(∀t,get ρ' t=get (ap o w ρ) t)→jA C o.op ρ σ w.1 w.2 σ1→reG C (m+1) σ1 p→cY C P K l (m+1) (σ::h) p ρ' σ1→ExG C P K ((o,g)::l) k m p ρ sq0:=fun hg ρ' w σ1 hρ hE hre hr=>by
   subst hg
   obtain⟨W,sq,z,g1,g2,g3,g4,g5,g6⟩:=mN l (k+1) (m+1) (σ::h) p ρ' σ1 (fun q=>if q≤m then sq0 q else σ1) (if_neg (by omega)) (fun r hr=>by
    cases r with
    | zero=>simp[hs]
    | succ r=>
     have:=hh r (by omega);simp only[List.getElem?_cons_succ,this];rw[if_pos (by omega),show m+1-1-(r+1)=m-1-r by omega]) (hokt (m+1) rfl) hr
   have hn:m+nb ((o,.act)::l) ((o,GK.act)::l).length=m+1+nb l l.length:=by simp[nb,GK.isAct];omega
   have e1:∀q,q≤m→sq q=sq0 q:=fun q hq=>(g1 q (by omega)).trans (if_pos hq);have e2:sq (m+1)=σ1:=(g1 _ (Nat.le_refl _)).trans (if_neg (by omega));refine⟨fun i=>if i=k then w else W i,sq,z,e1,by omega,by rw[hn];exact g3,fun q hq r h1 h2 h3=>?_,dD (e:=(o,.act)) rfl ⟨fun _=>?_,fun hz=>by omega⟩ hρ g5,fun hz=>?_⟩
   ·by_cases e:r=m+1
    ·subst e;rw[e2];exact uC hre q hq h3
    ·exact g4 q hq r (by omega) h2 h3
   ·rw[e2,e1 m (Nat.le_refl _),hs];exact hE
   ·rw[hn]at hz;obtain⟨ρf,k1,k2⟩:=g6 hz;exact⟨ρf,k1,fin hρ k2⟩
  have pans:g=.act→qH C o.op ρ σ P→cX C l m h (ap o (.junk,.junk) ρ) σ→ExG C P K ((o,g)::l) k m p ρ sq0:=fun hg hE hr=>by
   subst hg;obtain⟨W,hW⟩:=ij (P:=P) (sq:=sq0) hs hh l (k+1) (m+1) _ (by omega) (hokt (m+1) rfl) hr;exact⟨fun i=>if i=k then(.junk,.junk)else W i,sq0,m,fun _ _=>rfl,Nat.le_refl _,Nat.le_add_right _ _,fun q hq r h1 h2=>by omega,dD (e:=(o,.act)) rfl ⟨fun hz=>by omega,fun _=>by rw[hs];exact hE⟩ (fun _=>rfl) hW,fun hz=>by simp[nb,GK.isAct]at hz⟩
  cases g with
  | free lo=>
   simp only[cY]at hg;simp only[fL,Bool.and_eq_true]at hok0;obtain⟨x,ρ',h1,h2,h3⟩:=kV hg;exact calm rfl p ρ' (.junk,x) (fun _ h=>h) (fun t=>by rw[h3 t,jQ hok0.1.2]) h2 fun sq z _ _ _ _ σ2=>h1.free hok0.1.1 σ2
  | calm lo hi=>
   simp only[cY]at hg;simp only[fL,Bool.and_eq_true,decide_eq_true_eq]at hok0;obtain⟨x,ρ',h1,⟨h2,h4⟩,h3⟩:=kV hg;obtain⟨d,hd⟩:=Option.isSome_iff_exists.1 hok0.1.1.2;refine calm rfl _ ρ' (.junk,x) (fun q hq=>?_) (fun t=>by rw[h3 t,jQ hok0.1.1.1]) h4 fun sq z hz hsq hpd _ q q1 q2 q3=>?_
   ·unfold m8;split
    ·exact List.mem_cons_of_mem _ hq
    ·exact hq
   ·by_cases e:q=m
    ·subst e;rw[hsq q (Nat.le_refl _),hs];exact h1
    ·by_cases e2:q<m
     ·obtain⟨σ',k1,k2⟩:=jW h2 (m-1-q) (by omega);rw[hh _ (by omega),show m-1-(m-1-q)=q by omega]at k1;cases k1;rw[hsq q (by omega)];exact kY hd h3 k2
     ·have:=hpd ⟨o,ρ,ρ',hi⟩ (by unfold m8;rw[if_pos (by omega)];simp) q (by omega) q3 q2;exact kY hd h3 this
  | slot lo=>
   simp only[cY]at hg;simp only[fL,Bool.and_eq_true,Option.isNone_iff_eq_none]at hok0;simp only[b8,hok0.1.2]at hg;obtain⟨a,b,σ',h1,⟨-,h2⟩,h3⟩:=gY (.inl hok0.1.1) hg;have hσ:=h3 hok0.1.1;rw[hσ]at h1 h2;refine calm rfl p _ (a,b) (fun _ h=>h) (fun _=>rfl) h2 fun sq z _ _ _ _ σ2=>?_;cases ho:o.op<;>rw[ho]at h1 hok0<;>first|(simp[OP.isSlot]at hok0;done)|skip
   all_goals (simp only[jA]at h1 ⊢;simpa using h1)
  | act=>
   simp only[fL,Bool.and_eq_true,Option.isNone_iff_eq_none]at hok0;obtain⟨d,op,gd⟩:=o
   have det:(∀f args,op≠.call f args)→(∀x args,op≠.callv x args)→(b8 C [⟨d,op,gd⟩] ρ σ fun e ρ' σ'=>e=.normal∧reG C (m+1) σ' p∧cY C P K l (m+1) (σ::h) p ρ' σ')→ExG C P K ((⟨d,op,gd⟩,.act)::l) k m p ρ sq0:=fun n1 n2 hg=>by
    simp only at hok0;simp only[b8,hok0.2]at hg;obtain⟨a,b,σ',h1,⟨-,h2,h4⟩,h3⟩:=gY (o:=⟨d,op,gd⟩) (.inr ⟨hok0.1,n1,n2⟩) hg;exact acts rfl _ (a,b) σ' (fun _=>rfl) h1 h2 h4
   cases op
   case call f args=>
    simp only[cY]at hg;rcases hg with⟨v,σ1,h1,h2,h3⟩|⟨h1,h2⟩
    ·exact acts rfl _ (.junk,v) σ1 (fun _=>rfl) h1 h2 h3
    ·exact pans rfl h1 h2
   case callv x args=>
    simp only[cY]at hg;obtain⟨f,cap,he,hg⟩:=hg;rcases hg with⟨v,σ1,h1,h2,h3⟩|⟨h1,h2⟩
    ·exact acts rfl _ (.junk,v) σ1 (fun _=>rfl) ⟨f,cap,he,h1⟩ h2 h3
    ·exact pans rfl ⟨f,cap,he,h1⟩ h2
   all_goals exact det (fun _ _ h=>by cases h) (fun _ _ h=>by cases h) (by simpa only[cY]using hg)
def O.wl(o:O):List Nat:=o.dst.toList++o.op.w1.toList
def loG(e:O×GK)(k:Nat):Nat:=match e.2 with
 | .free lo=>lo
 | .calm lo _=>lo
 | .slot lo=>lo
 | .act=>k
def hiG(e:O×GK)(k:Nat):Option Nat:=match e.2 with
 | .calm _ hi=>some hi
 | .act=>some k
 | _=>none
def ik(l:List (O×GK))(os:List Oper):Bool:=
 let bf:=aI os []
 ((List.range os.length).all fun i=>match os[i]? with|some o=>(aB o).all fun j=>decide (j<i)|none=>true) &&
 ((List.range l.length).all fun i=>match l[i]? with
   | some e=>fL e (nb l i)&&((List.range l.length).all fun j=>j==i||(match l[j]? with
    | some q=>(!((e.1.looksG++e.1.wl).any fun t=>q.1.wl.contains t)||(if j<i then(bf.getD i []).contains j else(bf.getD j []).contains i)) &&
     (!q.2.isAct||((!decide (nb l j<loG e (nb l i))||(bf.getD i []).contains j)&&(match hiG e (nb l i)with|some hi=>!decide (hi≤nb l j)||(bf.getD j []).contains i|none=>true)))
    | none=>true))
   | none=>true)
structure OKG(l:List (O×GK))(os:List Oper):Prop where
 lt:∀(i:Nat) (o:Oper),os[i]? = some o→∀j∈aB o,j<i
 one:∀(i:Nat) (e:O×GK),l[i]? = some e→fL e (nb l i)=true
 cmp:∀(i:Nat) (e:O×GK),l[i]? = some e→∀t,(t∈e.1.looksG∨e.1.writes t)→∀(j:Nat) (q:O×GK),l[j]? = some q→j≠i→q.1.writes t→(j<i∧j∈(aI os []).getD i [])∨(i<j∧i∈(aI os []).getD j [])
 lo:∀(i:Nat) (e:O×GK),l[i]? = some e→∀(j:Nat) (q:O×GK),l[j]? = some q→j≠i→q.2.isAct=true→nb l j<loG e (nb l i)→j∈(aI os []).getD i []
 hi:∀(i:Nat) (e:O×GK),l[i]? = some e→∀(j:Nat) (q:O×GK),l[j]? = some q→j≠i→q.2.isAct=true→∀h,hiG e (nb l i)=some h→h≤nb l j→i∈(aI os []).getD j []
theorem mc{o:O}{t:Nat}:t∈o.wl↔o.writes t:=by
 unfold O.wl O.writes;simp[List.mem_append]
theorem pQ{l:List (O×GK)}{os:List Oper}(h:ik l os=true):OKG l os:=by
 unfold ik at h;simp only[Bool.and_eq_true]at h;obtain⟨h1,h2⟩:=h;simp only[List.all_eq_true,List.mem_range]at h1 h2
 have two:∀(i:Nat) (e:O×GK),l[i]? = some e→fL e (nb l i)=true∧∀(j:Nat) (q:O×GK),l[j]? = some q→j≠i→_:=fun i e he=>by
  have:=h2 i (List.getElem?_eq_some_iff.1 he).1;rw[he]at this;simp only[Bool.and_eq_true,List.all_eq_true,List.mem_range]at this;refine⟨this.1,fun j q hq hne=>?_⟩;have h3:=this.2 j (List.getElem?_eq_some_iff.1 hq).1;rw[hq]at h3;have hne':(j==i)=false:=by simp[hne]
  rw[hne',Bool.false_or,Bool.and_eq_true]at h3;exact h3
 refine⟨fun i o ho j hj=>?_,fun i e he=>(two i e he).1,fun i e he t ht j q hq hne hw=>?_,fun i e he j q hq hne ha hlt=>?_,fun i e he j q hq hne ha hh eh hle=>?_⟩
 ·have:=h1 i (List.getElem?_eq_some_iff.1 ho).1;rw[ho]at this;simpa using List.all_eq_true.1 this j hj
 ·have h3:=((two i e he).2 j q hq hne).1
  have hany:((e.1.looksG++e.1.wl).any fun t=>q.1.wl.contains t)=true:=by
   rw[List.any_eq_true];refine⟨t,?_,by rw[List.contains_iff_mem];exact mc.2 hw⟩;rw[List.mem_append];exact ht.imp id mc.2
  rw[hany]at h3;simp only[Bool.not_true,Bool.false_or]at h3;split at h3
  ·exact .inl ⟨by assumption,by simpa using h3⟩
  ·exact .inr ⟨by omega,by simpa using h3⟩
 ·have h3:=((two i e he).2 j q hq hne).2;simp only[ha,Bool.not_true,Bool.false_or,Bool.and_eq_true,Bool.or_eq_true,Bool.not_eq_true',decide_eq_false_iff_not]at h3;rcases h3.1 with h4|h4
  ·exact absurd hlt h4
  ·simpa using h4
 ·have h3:=((two i e he).2 j q hq hne).2;simp only[ha,Bool.not_true,Bool.false_or,Bool.and_eq_true,eh,Bool.or_eq_true,Bool.not_eq_true',decide_eq_false_iff_not]at h3;rcases h3.2 with h4|h4
  ·exact absurd hle h4
  ·simpa using h4
theorem qd:∀(l:List (O×GK)) (i:Nat),nb l i≤nb l l.length
 | [],0=>Nat.le_refl _
 | [],_+1=>Nat.le_refl _
 | e::l,0=>Nat.zero_le _
 | e::l,i+1=>by simp only[nb,List.length_cons];have:=qd l i;omega
theorem yT:∀(l:List (O×GK)) (i:Nat) (e:O×GK),l[i]? = some e→e.2.isAct=true→nb l i<nb l l.length
 | [],_,_,h,_=>by simp at h
 | e'::l,0,e,h,ha=>by simp at h;subst h;simp only[nb,List.length_cons,ha];simp;omega
 | e'::l,i+1,e,h,ha=>by simp only[nb,List.length_cons];have:=yT l i e (by simpa using h) ha;omega
theorem oc{M0:au}{bm0:List Nat}{w0:World}(hG:C.glob M0 pr w0){id:Nat}{ops:Array Oper}{l:List (O×GK)}{M:au}{bm:List Nat}{tk:aU}{a:Act}{w:World}(hok:fA C.tab n ops (l.map (·.1)) ops.toList=true)(hdr:ik l ops.toList=true)
 (hl:Later M0 bm0 pr w0 M bm w)(h:SRel M bm tk pr ρ σ n a w)
 (hq:cY C (fun u σ'=>∀ρ',Q (.panic u) ρ' σ') (fun ρ' σ'=>Q .normal ρ' σ') l 0 [] [] ρ σ):
 (Code.region id ops true).wp C.P (bp M0 bm0 pr w0 n Q) a w:=by
 obtain⟨hlen,hget⟩:=fN hok;have D:=pQ hdr;have hnl:l.length=ops.size:=by have:=hlen;simp at this;exact this
 obtain⟨W,sq,z,e0,-,e2,-,facts,fin⟩:=mN l 0 0 [] [] ρ σ (fun _=>σ) rfl (fun r hr=>by omega) (fun i e he=>by rw[Nat.zero_add];exact D.one i e he) hq;simp only[Nat.zero_add]at e2 facts fin;have sq0:sq 0=σ:=e0 0 (Nat.le_refl _)
 have fact:∀(i:Nat) (e:O×GK),l[i]? = some e→∃ρi,(∀t,get ρi t=get (cf l W 0 (fun j=>decide (j<i)) ρ) t)∧ig C (fun u σ'=>∀ρ',Q (.panic u) ρ' σ') e (nb l i) z sq ρi (W i):=fun i e he=>by
  obtain⟨hi,rfl⟩:=List.getElem?_eq_some_iff.1 he;exact facts i hi
 obtain⟨ρe,hρe⟩:∃ρe,∀t,get ρe t=get (cf l W 0 (fun _=>true) ρ) t:=⟨_,fun _=>rfl⟩
 have pick:∃ρf,(∀t,get ρf t=get (cf l W 0 (fun _=>true) ρ) t)∧(z=nb l l.length→Q .normal ρf (sq z)):=by
  by_cases hz:z=nb l l.length
  ·obtain⟨ρf,k1,k2⟩:=fin hz;exact⟨ρf,k2,fun _=>k1⟩
  ·exact⟨ρe,hρe,fun e=>absurd e hz⟩
 obtain⟨ρf,f1,f2⟩:=pick;refine rm (M:=M) (bm:=bm) (tk:=tk) (fun S=>cf l W 0 S ρ) (fun S=>sq (nA l 0 S)) ρf (sq (nb l l.length)) (fun S=>nA l 0 S≤z) (by rw[mM];exact Nat.zero_le _) (fun S S' hS hI=>by rw[←iK l 0 S S' fun j hj=>by rw[Nat.zero_add];exact hS j (by omega)];exact hI) D.lt (fun S S' hS=>⟨fun t=>?_,?_⟩) hl ?_ (fun hI=>?_) ?_
 ·refine ep l W 0 S S' ρ t fun i e he _=>?_;rw[Nat.zero_add];exact hS i (by have:=(List.getElem?_eq_some_iff.1 he).1;omega)
 ·show sq _=sq _;rw[iK l 0 S S' fun j hj=>by rw[Nat.zero_add];exact hS j (by omega)]
 ·rw[mM,sq0,fM _ _ _ _ _ fun _ _=>rfl];exact h
 ·rw[pt]at hI;have hz:z=nb l l.length:=by omega
  refine⟨⟨f1,by rw[pt]⟩,?_⟩;have:=f2 hz;rwa[hz]at this
 intro S i o' ho' hSi hclo hedge hI M bm tk a w hl h;have hi1:i<ops.toList.length:=(List.getElem?_eq_some_iff.1 ho').1;have hi2:i<l.length:=by rw[hnl];simpa using hi1
 obtain⟨e,he⟩:∃e,l[i]? = some e:=⟨_,List.getElem?_eq_getElem hi2⟩
 have hlo:(l.map (·.1))[i]? = some e.1:=by rw[List.getElem?_map,he];rfl
 have hoo:=hget i _ o' hlo ho';have hbef:∀j∈(aI ops.toList []).getD i [],S j=true:=cD D.lt (S:=fun j=>S j=true) hclo i o' ho' hedge
 have hbefj:∀q,q<l.length→S q=true→∀j∈(aI ops.toList []).getD q [],S j=true:=fun q hq hSq=>by
  have hq2:ops.toList[q]? = some (ops.toList[q]'(by simp;omega)):=List.getElem?_eq_getElem _;exact cD D.lt (S:=fun j=>S j=true) hclo q _ hq2 (hclo q _ hq2 hSq)
 have hno:∀(j:Nat) (q:O×GK),l[j]? = some q→i∈(aI ops.toList []).getD j []→S j=false:=fun j q hj hm=>by
  have:¬S j=true:=fun hjl=>by
   have:=hbefj j (List.getElem?_eq_some_iff.1 hj).1 hjl i hm;rw[hSi]at this;cases this
  simpa using this
 have hsame:∀t,(t∈e.1.looksG∨e.1.writes t)→∀(j:Nat) (q:O×GK),l[j]? = some q→j≠i→q.1.writes t→S j=decide (j<i):=by
  intro t ht j q hj hne hw;rcases D.cmp i e he t ht j q hj hne hw with⟨g1,g2⟩|⟨g1,g2⟩
  ·rw[hbef j g2];simp[g1]
  ·rw[hno j q hj g2];simp;omega
 obtain⟨hgl,hn⟩:=sa W ρ he hSi hsame;obtain⟨ρi,g1,g2⟩:=fact i e he;have cg:∀t∈e.1.looksG,get ρi t=get (cf l W 0 S ρ) t:=fun t ht=>by rw[g1 t];exact hgl t ht
 have cgo:∀t∈e.1.op.slotsG,get ρi t=get (cf l W 0 S ρ) t:=fun t ht=>cg t (by unfold O.looksG;simp[ht]);have one:=D.one i e he;have hadd:=tx l 0 S i e he (by rw[Nat.zero_add];exact hSi);simp only[Nat.zero_add]at hadd
 have hlow:loG e (nb l i)≤nb l l.length→loG e (nb l i)≤nA l 0 S:=fun hle=>by
  have:=yR l 0 S 0 (loG e (nb l i)) fun j q hj ha hlt=>by
   rw[Nat.zero_add]at hlt ⊢;by_cases hne:j=i
   ·subst hne;rw[he]at hj;cases hj;unfold loG at hlt;unfold GK.isAct at ha
    revert ha hlt
    cases e.2<;>simp
   ·exact hbef j (D.lo i e he j q hj hne ha hlt)
  omega
 have hhigh:∀h,hiG e (nb l i)=some h→nA l 0 S≤h:=fun h eh=>by
  have:=yP l 0 S 0 h fun j q hj ha hle=>by
   rw[Nat.zero_add]at hle ⊢;by_cases hne:j=i
   ·subst hne;exact hSi
   ·exact hno j q hj (D.hi i e he j q hj hne ha h eh hle)
  omega
 have wantNone:e.1.g=none→Region.wanted o' (yielded ops a.tmps)=true:=fun hg=>by
  have hgd:=hoo;unfold okO at hgd;simp only[Bool.and_eq_true]at hgd;replace hgd:=hgd.2;rw[hg]at hgd;split at hgd
  ·rename_i hg2;simp[Region.wanted,hg2]
  ·rename_i e _;cases e
  ·cases hgd
 have wrapC:e.2.isAct=false→e.1.op.isCalm=true→Loc C e.1 ρi (sq (nA l 0 S)) (W i).2→
  if Region.wanted o' (yielded ops a.tmps)then o'.wp C.P a w (gF M bm pr w n fun ρ' σ'=>(∀t,get ρ' t=get (cf l W 0 (fun j=>j==i||S j) ρ) t)∧σ'=sq (nA l 0 fun j=>j==i||S j)∧nA l 0 (fun j=>j==i||S j)≤z) (bp M bm pr w n Q)
  else SRel M bm tk pr (cf l W 0 (fun j=>j==i||S j) ρ) (sq (nA l 0 fun j=>j==i||S j)) n (a.put o'.dst undef) w∧nA l 0 (fun j=>j==i||S j)≤z:=fun hna hc hL=>by
  have e3:nA l 0 (fun j=>j==i||S j)=nA l 0 S:=by rw[hadd,hna];simp
  rw[e3];have hap:∀t,get (ap e.1 (W i) (cf l W 0 S ρ)) t=get (putd (cf l W 0 S ρ) e.1.dst (W i).2) t:=fun t=>by unfold ap;rw[qx hc];rfl
  have:=tF (Q:=Q) (hG.mono hl) h hoo (hL.congr fun t ht=>cg t (by rw[←pZ hc];exact ht));split at this
  ·rename_i hw;rw[if_pos hw];exact Oper.wp_mono2 (fun a' w' ⟨M',bm',tk',ρ',σ',⟨k1,k2⟩,k3,k4⟩=>⟨M',bm',tk',ρ',σ',⟨fun t=>by rw[k1,hn t,hap t],k2,hI⟩,k3,k4⟩) (fun e a' w' hh=>hh) this
  ·rename_i hw;rw[if_neg hw];exact⟨this.congr fun t=>by rw[hn t,hap t],hI⟩
 have wrapE:e.1.g=none→(e.1.op.isSlot=true∨e.1.op.isActG e.1.dst=true)→nA l 0 (fun j=>j==i||S j)≤z→jA C e.1.op ρi (sq (nA l 0 S)) (W i).1 (W i).2 (sq (nA l 0 fun j=>j==i||S j))→
  if Region.wanted o' (yielded ops a.tmps)then o'.wp C.P a w (gF M bm pr w n fun ρ' σ'=>(∀t,get ρ' t=get (cf l W 0 (fun j=>j==i||S j) ρ) t)∧σ'=sq (nA l 0 fun j=>j==i||S j)∧nA l 0 (fun j=>j==i||S j)≤z) (bp M bm pr w n Q)
  else SRel M bm tk pr (cf l W 0 (fun j=>j==i||S j) ρ) (sq (nA l 0 fun j=>j==i||S j)) n (a.put o'.dst undef) w∧nA l 0 (fun j=>j==i||S j)≤z:=fun hg hc hz hE=>by
  rw[if_pos (wantNone hg)];refine Oper.wp_mono2 (fun a' w' ⟨M',bm',tk',ρ',σ',⟨k1,k2⟩,k3,k4⟩=>⟨M',bm',tk',ρ',σ',⟨fun t=>by rw[k1,hn t],k2,hz⟩,k3,k4⟩) (fun e a' w' ⟨_,_,_,_,_,_,hf,_⟩=>hf.elim) (cq (Q:=fun _ _ _=>False) (hG.mono hl) h hoo (u3 hc (oY cgo hE)))
 obtain⟨o,g⟩:=e;cases g with
 | free lo=>
  simp only[fL,Bool.and_eq_true,decide_eq_true_eq]at one;have:=hlow (by simp only[loG];have:=qd l i;omega);exact wrapC rfl one.1.2 (g2 (by simp only[loG]at this;omega) _)
 | calm lo hi=>
  simp only[fL,Bool.and_eq_true,decide_eq_true_eq]at one;have h1:=hlow (by simp only[loG];have:=qd l i;omega);have h2:=hhigh hi rfl;simp only[loG]at h1;exact wrapC rfl one.1.1.1 (g2 (by omega) _ h1 h2 hI)
 | slot lo=>
  simp only[fL,Bool.and_eq_true,Option.isNone_iff_eq_none,decide_eq_true_eq]at one;have h1:=hlow (by simp only[loG];have:=qd l i;omega);simp only[loG]at h1;have e3:nA l 0 (fun j=>j==i||S j)=nA l 0 S:=by rw[hadd];simp[GK.isAct]
  exact wrapE one.1.2 (.inl one.1.1) (by rw[e3];exact hI) (by rw[e3];exact g2 (by omega) _)
 | act=>
  simp only[fL,Bool.and_eq_true,Option.isNone_iff_eq_none]at one;have hlt:=yT l i _ he rfl;have h1:=hlow (by simp only[loG];omega);have h2:=hhigh _ rfl;simp only[loG]at h1;have hc:nA l 0 S=nb l i:=by omega
  have e3:nA l 0 (fun j=>j==i||S j)=nb l i+1:=by rw[hadd,hc];simp[GK.isAct]
  by_cases hz:nb l i<z
  ·exact wrapE one.2 (.inr one.1) (by rw[e3];omega) (by rw[e3,hc];exact g2.1 hz)
  ·have hzz:nb l i=z:=by omega
   have hp:=g2.2 hzz;rw[if_pos (wantNone one.2)];have hE:=vj (o:=o) (oN (ρ':=cf l W 0 S ρ) cgo hp);rw[←hzz,←hc]at hE;refine Oper.wp_mono2 (fun a' w' ⟨M',bm',tk',ρ',σ',hf,k3,k4⟩=>hf.elim) (fun e a' w' ⟨M',bm',tk',ρ',σ',x,⟨u,k1,k2⟩,k3⟩=>⟨M',bm',tk',ρ',σ',x,by subst k1;exact k2 ρ',k3⟩) (cq (K:=fun _ _=>False) (Q:=fun e _ σ'=>∃u,e=.panic u∧∀ρ',Q (.panic u) ρ' σ') (hG.mono hl) h hoo hE)
end
end Go.Proofs.YtcbahpllcfbkmaaGreatDoor
namespace Go.Proofs.YtcbahpllcfbkmaaGreatDoor
open Go.RowKit
section
variable {C : Cx} {pr : Prot} {n : Nat} {Q : AEx → al → List (List V) → Prop}
theorem tM{M0:au}{bm0:List Nat}{w0:World}{id:Nat}{ops:Array Oper}{M:au}{bm:List Nat}{tk:aU}{a:Act}{w:World}(R:(Nat→Bool)→al→List (List V)→Prop){ρ0:al}{σ0:List (List V)}
 (hlt:∀(i:Nat) (o:Oper),ops.toList[i]? = some o→∀j∈aB o,j<i)
 (hext:∀S S' ρ σ,(∀j,j<ops.size→S j=S' j)→R S ρ σ→R S' ρ σ)
 (hl:Later M0 bm0 pr w0 M bm w)(h:SRel M bm tk pr ρ0 σ0 n a w)(h0:R (fun _=>false) ρ0 σ0)
 (hq:∀ρ σ,R (fun _=>true) ρ σ→∃ρ2,Q .normal ρ2 σ∧∀t,get ρ t=get ρ2 t)
 (step:∀(S:Nat→Bool) (i:Nat) (o:Oper),ops.toList[i]? = some o→S i=false→(∀(j:Nat) (p:Oper),ops.toList[j]? = some p→S j=true→∀e∈aB p,S e=true)→(∀e∈aB o,S e=true)→
   ∀(M:au) (bm:List Nat) (tk:aU) (a:Act) (w:World) (ρ:al) (σ:List (List V)),Later M0 bm0 pr w0 M bm w→R S ρ σ→SRel M bm tk pr ρ σ n a w→
    if Region.wanted o (yielded ops a.tmps)then o.wp C.P a w (gF M bm pr w n (R fun j=>j==i||S j)) (bp M bm pr w n fun _ _ _=>False)
    else ∃ρ',R (fun j=>j==i||S j) ρ' σ∧SRel M bm tk pr ρ' σ n (a.put o.dst undef) w):
 (Code.region id ops true).wp C.P (bp M0 bm0 pr w0 n Q) a w:=by
 refine wp_region_any C.mixed ?_
 suffices H:∀(fuel:Nat) (listed:Array Bool) (M:au) (bm:List Nat) (tk:aU) (a:Act) (w:World) (ρ:al) (σ:List (List V)),Later M0 bm0 pr w0 M bm w→R (fun i=>listed.getD i false) ρ σ→SRel M bm tk pr ρ σ n a w→listed.size=ops.size→
  (∀(i:Nat) (o:Oper),ops.toList[i]? = some o→listed.getD i false=true→∀j∈aB o,listed.getD j false=true)→(listed.toList.filter (! ·)).length=fuel→wpAny C.P .any ops (bp M0 bm0 pr w0 n Q) fuel listed a w by
  obtain⟨h1,h2⟩:=h.ext (bW.drew w)
  have hrep:∀j,(Array.replicate ops.size false).getD j false=false:=fun j=>by
   simp only[Array.getD_eq_getD_getElem?,Array.getElem?_replicate];split<;>rfl
  refine H ops.size (Array.replicate ops.size false) M bm tk a w.drew ρ0 σ0 (hl.trans h2 (fun _ h=>h)) (hext _ _ _ _ (fun j _=>(hrep j).symm) h0) h1 (by simp) (fun i o ho hi=>?_) (by simp)
  ·rw[hrep]at hi;cases hi
 intro fuel
 induction fuel with
 | zero=>
  intro listed M bm tk a w ρ σ hl hR h hsz hcl hcnt
  have hall:∀i,i<ops.size→listed.getD i false=true:=fun i hi=>by
   have hb:listed[i]? = some (listed[i]'(by omega)):=Array.getElem?_eq_getElem _;rw[Array.getD_eq_getD_getElem?,hb,Option.getD_some];have hne:listed.toList.filter (! ·)=[]:=List.eq_nil_of_length_eq_zero hcnt;have:=List.filter_eq_nil_iff.1 hne (listed[i]'(by omega)) (by simp);simpa using this
  obtain⟨ρ2,q1,q2⟩:=hq _ _ (hext _ _ _ _ hall hR);refine⟨?_,M,bm,tk,ρ2,σ,.normal,q1,.normal,h.congr fun t=>(q2 t).symm,hl⟩
  ·unfold Region.ready;rw[List.filter_eq_nil_iff];intro i hi;have hi':i<ops.size:=by simpa using hi
   have h9:=hall i hi'
   have:listed.getD i true=true:=by
    have hb:listed[i]? = some (listed[i]'(by omega)):=Array.getElem?_eq_getElem _;rw[Array.getD_eq_getD_getElem?,hb,Option.getD_some]at h9 ⊢;exact h9
   simp[this]
 | succ fuel ih=>
  intro listed M bm tk a w ρ σ hl hR h hsz hcl hcnt;refine⟨fun hnil=>?_,fun i hi=>?_⟩
  ·exfalso
   have hex:∃i,i<ops.size∧listed.getD i false=false:=by
    apply Classical.byContradiction;intro hno
    have hne:listed.toList.filter (! ·)=[]:=by
     rw[List.filter_eq_nil_iff];intro b hb;obtain⟨i,hi,rfl⟩:=List.getElem_of_mem hb;have hi':i<listed.size:=by simpa using hi
     have h9:¬listed.getD i false=false:=fun e=>hno ⟨i,by omega,e⟩;have hb:listed[i]? = some listed[i]:=Array.getElem?_eq_getElem hi';rw[Array.getD_eq_getD_getElem?,hb,Option.getD_some]at h9;simpa using h9
    rw[hne]at hcnt;simp at hcnt
   have hmin:∃i,i<ops.size∧listed.getD i false=false∧∀j,j<i→listed.getD j false=true:=by
    obtain⟨i,h1,h2⟩:=hex
    induction i using Nat.strongRecOn with
    | _ i ihm=>
    by_cases hj:∃j,j<i∧listed.getD j false=false
    ·obtain⟨j,g1,g2⟩:=hj;exact ihm j g1 (by omega) g2
    ·exact⟨i,h1,h2,fun j hji=>by
      cases hb:listed.getD j false with
      | true=>rfl
      | false=>exact absurd ⟨j,hji,hb⟩ hj⟩
   obtain⟨i,h1,h2,h3⟩:=hmin;have hio:i<ops.toList.length:=by simpa using h1
   have:i∈Region.ready .any ops listed:=by
    unfold Region.ready;rw[List.mem_filter];refine⟨by simp;omega,?_⟩
    have ht:listed.getD i true=false:=by
     have hb:listed[i]? = some (listed[i]'(by omega)):=Array.getElem?_eq_getElem _;rw[Array.getD_eq_getD_getElem?,hb,Option.getD_some]at h2 ⊢;exact h2
    have ho:ops[i]? = some (ops[i]'(by omega)):=Array.getElem?_eq_getElem _;rw[ht,ho];simp only[Bool.not_false,Bool.true_and,Option.map_some,Option.getD_some];rw[←Array.all_toList,List.all_eq_true];intro e he;cases hb:Region.binds .any e with
    | false=>rfl
    | true=>
     have:e.on∈aB (ops[i]'(by omega)):=by
      unfold aB;exact List.mem_map.2 ⟨e,List.mem_filter.2 ⟨he,hb⟩,rfl⟩
     simp[h3 e.on (hlt i _ (by rw[List.getElem?_eq_getElem hio];simp) e.on this)]
   rw[hnil]at this;cases this
  ·unfold Region.ready at hi;rw[List.mem_filter]at hi;obtain⟨hir,hic⟩:=hi;have hi1:i<ops.size:=by simpa using hir
   have ho:ops[i]? = some ops[i]:=Array.getElem?_eq_getElem hi1;have hoL:ops.toList[i]? = some ops[i]:=by rw[Array.getElem?_toList];exact ho
   rw[ho]at hic;simp only[Option.map_some,Option.getD_some,Bool.and_eq_true,Bool.not_eq_true']at hic;obtain⟨hun,hed⟩:=hic
   have hun':listed[i]? = some false:=by
    have hb:listed[i]? = some (listed[i]'(by omega)):=Array.getElem?_eq_getElem _;rw[Array.getD_eq_getD_getElem?,hb,Option.getD_some]at hun;rw[hb,hun]
   have hunf:listed.getD i false=false:=by rw[Array.getD_eq_getD_getElem?,hun'];rfl
   have hedge:∀j∈aB ops[i],listed.getD j false=true:=by
    intro j hj;unfold aB at hj;obtain⟨e,he,rfl⟩:=List.mem_map.1 hj;rw[List.mem_filter]at he;rw[←Array.all_toList,List.all_eq_true]at hed;have:=hed e he.1;simpa[he.2]using this
   have hset:∀j,(listed.setIfInBounds i true).getD j false=(j==i||listed.getD j false):=fun j=>by
    rw[Array.getD_eq_getD_getElem?,Array.getD_eq_getD_getElem?];by_cases e:j=i
    ·subst e;rw[Array.getElem?_setIfInBounds_self_of_lt (by omega)];simp
    ·rw[Array.getElem?_setIfInBounds_ne (Ne.symm e)];simp[e]
   have hnextcl:∀(q:Nat) (o:Oper),ops.toList[q]? = some o→(listed.setIfInBounds i true).getD q false=true→∀j∈aB o,(listed.setIfInBounds i true).getD j false=true:=by
    intro q o hqo hql j hj;rw[hset]at hql ⊢;simp only[Bool.or_eq_true,beq_iff_eq]at hql ⊢;rcases hql with rfl|hql
    ·rw[hoL]at hqo;cases hqo;exact .inr (hedge j hj)
    ·exact .inr (hcl q o hqo hql j hj)
   have hnextc:((listed.setIfInBounds i true).toList.filter (! ·)).length=fuel:=by
    have:=fm listed.toList i (by rw[Array.getElem?_toList];exact hun');rw[Array.toList_setIfInBounds];omega
   have hst:=step (fun j=>listed.getD j false) i ops[i] hoL hunf hcl hedge M bm tk a w ρ σ hl hR h;unfold wpOp;rw[ho];simp only;split at hst
   ·rename_i hw;rw[if_pos hw];refine .inl (Oper.wp_mono2 (fun a' w' hL=>?_) (fun e a' w' hL=>?_) hst)
    ·obtain⟨M',bm',tk',ρ',σ',k0,k2,k3⟩:=hL;exact ih _ M' bm' tk' a' w' ρ' σ' (hl.trans k3 (fun _ h=>h)) (hext _ _ _ _ (fun j _=>(hset j).symm) k0) k2 (by simp[hsz]) hnextcl hnextc
    ·obtain⟨_,_,_,_,_,_,hf,_⟩:=hL;exact hf.elim
   ·rename_i hw;rw[if_neg hw];obtain⟨ρ',k0,k2⟩:=hst;exact ih _ M bm tk _ w ρ' σ hl (hext _ _ _ _ (fun j _=>(hset j).symm) k0) k2 (by simp[hsz]) hnextcl hnextc
structure AV where
 d:Nat
 T:Nat
 bytes:Nat
 z:V
 s:Nat
 y:X
 st:Bool
 x:X
 k:X
 v:X
def AV.A(p:AV):O:=⟨some p.d,.appv p.T p.bytes p.z p.s p.y,none⟩
def AV.B(p:AV):O:=⟨none,.mst p.st p.x p.k p.v,none⟩
def reV(C:Cx)(σ1:List (List V)):List (O×al×V)→Prop
 | []=>True
 | (o,ρ,v)::r=>bB C o.op ρ σ1 (fun u=>u=v)∧reV C σ1 r
def At(C:Cx)(p:AV)(K:al→List (List V)→Prop)(ρ:al)(σ1:List (List V)):Prop:=
 ∃kv key,dm p.st σ1 (ev C ρ p.x)=some kv∧fx p.st (ev C ρ p.k)=some key∧K ρ (gM σ1 p.st (gQ key (ev C ρ p.v).copy kv) (ev C ρ p.x))
def xw(C:Cx)(p:AV)(σ:List (List V))(K:al→List (List V)→Prop):List O→List (O×al×V)→al→Prop
 | [],pend,ρ=>∃src,gV σ (ev C ρ p.y)=some src∧0<src.length∧jk σ (get ρ p.s) src p.bytes p.z fun u σ1=>reV C σ1 pend∧At C p K (put ρ p.d u) σ1
 | o::r,pend,ρ=>o.g=none∧bB C o.op ρ σ fun v=>xw C p σ K r ((o,ρ,v)::pend) (putd ρ o.dst v)
structure OKV(l:List O)(os:List Oper):Prop where
 two:2≤l.length
 lt:∀(i:Nat) (o:Oper),os[i]? = some o→∀j∈aB o,j<i
 cmp:∀(i:Nat) (o:O),l[i]? = some o→∀t∈o.looksG++o.dst.toList,∀(j:Nat) (q:O),l[j]? = some q→q.dst=some t→j≠i→(j<i∧j∈(aI os []).getD i [])∨(i<j∧i∈(aI os []).getD j [])
 calm:∀(i:Nat) (o:O),l[i]? = some o→i+2<l.length→o.op.isCalm=true
 last:∀(i:Nat) (o:O),l[i]? = some o→i+1≠l.length→i∈(aI os []).getD (l.length-1) []
end
end Go.Proofs.YtcbahpllcfbkmaaGreatDoor
namespace Go.Proofs.YtcbahpllcfbkmaaGreatDoor
open Go.RowKit
def cM(n0:Nat)(ρ:al)(σ:List (List V))(ρ':al)(σ':List (List V)):Prop:=
 ∀(M:au) (bm:List Nat) (tk:aU) (pr:Prot) (n:Nat) (a:Act) (w:World),SRel M bm tk pr ρ σ n a w→
  ∃M' bm',SRel M' bm' tk pr ρ' σ' n a w∧∀M0 bm0 w0,bm0.length=n0→Later M0 bm0 pr w0 M bm w→Later M0 bm0 pr w0 M' bm' w
theorem cM.refl(n0:Nat)(ρ:al)(σ:List (List V)):cM n0 ρ σ ρ σ:=fun M bm _ _ _ _ _ h=>⟨M,bm,h,fun _ _ _ _ h=>h⟩
theorem cM.trans{n0:Nat}{ρ ρ' ρ'':al}{σ σ' σ'':List (List V)}(h:cM n0 ρ σ ρ' σ')(k:cM n0 ρ' σ' ρ'' σ''):cM n0 ρ σ ρ'' σ'':=fun M bm tk pr n a w hs=>by
 obtain⟨M1,b1,h1,h2⟩:=h M bm tk pr n a w hs;obtain⟨M2,b2,h3,h4⟩:=k M1 b1 tk pr n a w h1;exact⟨M2,b2,h3,fun M0 bm0 w0 e hl=>h4 M0 bm0 w0 e (h2 M0 bm0 w0 e hl)⟩
theorem cM.keep(n0:Nat)(l:List Nat)(ρ:al)(σ:List (List V)):cM n0 ρ σ (aJ l ρ) σ:=fun M bm _ _ _ _ _ h=>⟨M,bm,h.keep l,fun _ _ _ _ h=>h⟩
theorem cM.cut{n0 k:Nat}{ρ:al}{σ:List (List V)}(hk:n0≤k)(h1:az k (σ.take k)=true)(h2:aA k ρ=true):cM n0 ρ σ ρ (σ.take k):=fun M bm _ _ _ _ _ h=>
 ⟨M,bm.take k,h.drop h1 h2,fun _ _ _ e hl=>hl.drop (by omega)⟩
section
variable {M : au} {bm : List Nat} {tk : aU} {pr : Prot} {ρ : al} {σ : List (List V)} {n : Nat} {a : Act} {w : World} {k : Nat}
end
end Go.Proofs.YtcbahpllcfbkmaaGreatDoor
namespace Go.Proofs.YtcbahpllcfbkmaaGreatDoor
open Go.RowKit
inductive Cd where
 | skip
 | ops (l:List O) (keep:List Nat)
 | draw (l:List O) (keep:List Nat)
 | drawb (s d0 d1 T k bytes:Nat) (y:X) (l:List O) (keep:List Nat)
 | drawg (l:List (O×GK)) (keep:List Nat)
 | raw (l:List O) (es:List (List Nat)) (keep:List Nat)
 | seq (a b:Cd)
 | cond (x:X) (a b:Cd)
 | block (id:Nat) (a:Cd)
 | loop (a:Cd)
 | exit (id:Nat)
 | ret
abbrev cN:=AEx→al→List (List V)→Prop
def andThen(next:al→List (List V)→Prop)(Q:cN):cN:=fun e ρ σ=>match e with
 | .normal=>next ρ σ
 | e=>Q e ρ σ
def jn(id:Nat)(Q:cN):cN:=fun e ρ σ=>match e with
 | .exit j=>if j=id then Q .normal ρ σ else Q (.exit j) ρ σ
 | e=>Q e ρ σ
inductive Up:List (List V)→List (List V)→Prop
 | refl (σ:List (List V)):Up σ σ
 | step {σ σ':List (List V)} {i:Nat} {cs:List V} {off:Nat} (T:TypeId) (k:Nat) (h1:σ[i]? = some cs) (h2:cs[off]? = some .nil) (h:Up (σ.set i (cs.set off (.own T k []))) σ'):Up σ σ'
theorem SRel.nil_own{M:au}{bm:List Nat}{tk:aU}{pr:Prot}{ρ:al}{σ:List (List V)}{n:Nat}{a:Act}{w:World}(h:SRel M bm tk pr ρ σ n a w){i:Nat}{cs:List V}{off:Nat}(T:TypeId)(k:Nat)(h1:σ[i]? = some cs)(h2:cs[off]? = some .nil):SRel M bm tk pr ρ (σ.set i (cs.set off (.own T k []))) n a w:=by
 refine⟨⟨h.inv.facts,by rw[List.length_set];exact h.inv.len,fun i' b cs' hi hc=>?_,h.inv.free,h.inv.bmnd,h.inv.tok,h.inv.inj,h.inv.prlt⟩,h.defers,h.size,h.slots⟩;by_cases e:i'=i
 ·subst e;obtain⟨vs,T',g1,g2,g3⟩:=(h.inv.box i' b cs hi h1).resolve_right fun hb=>by rcases hb with⟨st,kv,es,clock,rfl,-⟩|⟨T,k,rfl,-⟩<;>cases off<;>simp[tyc]at h2
  have hl:i'<σ.length:=(List.getElem?_eq_some_iff.1 h1).1;rw[List.getElem?_set_self hl]at hc;cases hc;refine .inl ⟨vs,T',g1,by rw[List.length_set];exact g2,fun j hj hj'=>?_⟩;have hj0:j<cs.length:=by simpa using hj
  obtain⟨k1,k2⟩:=g3 j hj0 hj';by_cases e2:j=off
  ·subst e2;have hn:cs[j]=.nil:=(List.getElem?_eq_some_iff.1 h2).2;rw[List.getElem_set_self];refine⟨?_,k2⟩;have hr:=k1.rep;rw[hn]at hr;generalize vs[j]=v at hr ⊢;cases hr;exact⟨.own (DRep.nil M),fun T2 k2 rows e=>by cases e;exact .inl ⟨rfl,rfl⟩⟩
  ·rw[List.getElem_set_ne (Ne.symm e2)];exact⟨k1,k2⟩
 ·rw[List.getElem?_set_ne (Ne.symm e)]at hc;exact h.inv.box i' b cs' hi hc
theorem SRel.up{M:au}{bm:List Nat}{tk:aU}{pr:Prot}{ρ:al}{σ σ':List (List V)}{n:Nat}{a:Act}{w:World}(hu:Up σ σ')(h:SRel M bm tk pr ρ σ n a w):SRel M bm tk pr ρ σ' n a w:=by
 induction hu with
 | refl σ=>exact h
 | step T k h1 h2 _ ih=>exact ih (h.nil_own T k h1 h2)
theorem cM.up(n0:Nat)(ρ:al){σ σ':List (List V)}(hu:Up σ σ'):cM n0 ρ σ ρ σ':=fun M bm _ _ _ _ _ h=>⟨M,bm,h.up hu,fun _ _ _ _ h=>h⟩
def qe(C:Cx)(n0:Nat)(l:List O)(es:List (List Nat))(ρ:al)(σ:List (List V))(Q:cN):Prop:=
 ∀(pr:Prot) (M0:au) (bm0:List Nat) (w0:World) (id:Nat) (ops:Array Oper) (n:Nat) (M:au) (bm:List Nat) (tk:aU) (a:Act) (w:World),C.glob M0 pr w0→bm0.length=n0→fA C.tab n ops l ops.toList=true→ops.toList.map aB=es→
  Later M0 bm0 pr w0 M bm w→SRel M bm tk pr ρ σ n a w→(Code.region id ops true).wp C.P (bp M0 bm0 pr w0 n Q) a w
def awp(C:Cx)(n0:Nat):Cd→al→List (List V)→cN→Prop
 | .skip,ρ,σ,Q=>Q .normal ρ σ
 | .ops l keep,ρ,σ,Q=>b8 C l ρ σ fun e ρ' σ'=>Q e (aJ keep ρ') σ'
 | .draw l keep,ρ,σ,Q=>aT C l ρ σ fun ρ'=>Q .normal (aJ keep ρ') σ
 | .drawb s d0 d1 T k bytes y l keep,ρ,σ,Q=>sH C s d0 d1 T k bytes y l ρ σ fun ρ'=>Q .normal (aJ keep ρ') σ
 | .drawg l keep,ρ,σ,Q=>cY C (fun u σ'=>∀ρ',Q (.panic u) (aJ keep ρ') σ') (fun ρ' σ'=>Q .normal (aJ keep ρ') σ') l 0 [] [] ρ σ
 | .raw l es keep,ρ,σ,Q=>qe C n0 l es ρ σ fun e ρ' σ'=>Q e (aJ keep ρ') σ'
 | .seq a b,ρ,σ,Q=>awp C n0 a ρ σ (andThen (fun ρ' σ'=>awp C n0 b ρ' σ' Q) Q)
 | .cond x a b,ρ,σ,Q=>match ev C ρ x with
  | .d (.lit (.bool t))=>(t=true→awp C n0 a ρ σ Q)∧(t=false→awp C n0 b ρ σ Q)
  | _=>False
 | .block id a,ρ,σ,Q=>awp C n0 a ρ σ (jn id Q)
 | .loop a,ρ,σ,Q=>∃(ρ1:al) (σ1:List (List V)),cM n0 ρ σ ρ1 σ1∧∃I:Nat→al→List (List V)→Prop,(∃m,I m ρ1 σ1)∧∀m ρ' σ',I m ρ' σ'→awp C n0 a ρ' σ' (andThen (fun ρ'' σ''=>∃m',m'<m∧∃ρ3 σ3,cM n0 ρ'' σ'' ρ3 σ3∧I m' ρ3 σ3) Q)
 | .exit id,ρ,σ,Q=>Q (.exit id) ρ σ
 | .ret,ρ,σ,Q=>Q .ret ρ σ
def okC(tab:Tab)(n:Nat):Cd→Code→Bool
 | .skip,.skip=>true
 | .ops l _,.region _ ops false=>fA tab n ops l ops.toList
 | .draw l _,.region _ ops true=>fA tab n ops l ops.toList&&jT l ops.toList
 | .drawb s d0 d1 T k bytes y l _,.region _ ops true=>fA tab n ops (bL s d0 d1 T k bytes y l) ops.toList&&iG s d0 d1 y l ops.toList
 | .drawg l _,.region _ ops true=>fA tab n ops (l.map (·.1)) ops.toList&&ik l ops.toList
 | .raw l es _,.region _ ops true=>fA tab n ops l ops.toList&&(ops.toList.map aB==es)
 | .seq a b,.seq a' b'=>okC tab n a a'&&okC tab n b b'
 | .cond x a b,.cond x' a' b'=>okX x x'&&okC tab n a a'&&okC tab n b b'
 | .block i a,.block i' a'=>i==i'&&okC tab n a a'
 | .loop a,.loop a'=>okC tab n a a'
 | .exit i,.exit i'=>i==i'
 | .ret,.ret=>true
 | _,_=>false
section
variable {C : Cx} {n0 n : Nat} {pr : Prot} {M0 : au} {bm0 : List Nat} {w0 : World}
theorem bp.imp{M:au}{bm:List Nat}{w:World}{Q Q':cN}{e:Exit}{a:Act}{w':World}(hq:∀x ρ σ,Q x ρ σ→Q' x ρ σ)(h:bp M bm pr w n Q e a w'):bp M bm pr w n Q' e a w':=by
 obtain⟨M',bm',tk',ρ',σ',x,h1,h2⟩:=h;exact⟨M',bm',tk',ρ',σ',x,hq _ _ _ h1,h2⟩
theorem bp.keep{M:au}{bm:List Nat}{w:World}{Q:cN}{l:List Nat}{e:Exit}{a:Act}{w':World}(h:bp M bm pr w n (fun x ρ σ=>Q x (aJ l ρ) σ) e a w'):bp M bm pr w n Q e a w':=by
 obtain⟨M',bm',tk',ρ',σ',x,h1,h2,h3,h4⟩:=h;exact⟨M',bm',tk',_,σ',x,h1,h2,h3.keep l,h4⟩
theorem rz(hG:C.glob M0 pr w0)(hn0:bm0.length=n0):∀{c:Cd} {c':Code} {M:au} {bm:List Nat} {tk:aU} {ρ:al} {σ:List (List V)} {a:Act} {w:World} {Q:cN},okC C.tab n c c'=true→Later M0 bm0 pr w0 M bm w→SRel M bm tk pr ρ σ n a w→
 awp C n0 c ρ σ Q→c'.wp C.P (bp M0 bm0 pr w0 n Q) a w:=by
 intro c
 induction c with
 | skip=>
  intro c' M bm tk ρ σ a w Q hok hl h hq;cases c'<;>simp only[okC]at hok<;>first|(cases hok;done)|skip
  exact wp_skip ⟨M,bm,tk,ρ,σ,_,hq,.normal,h,hl⟩
 | ops l keep=>
  intro c' M bm tk ρ σ a w Q hok hl h hq;cases c' with
  | region id ops draw=>
   cases draw with
   | false=>
    have hok:fA C.tab n ops l ops.toList=true:=hok;exact wp_mono (wp_region_list (dY hG hok hl h hq)) (fun e a w hL=>bp.keep (l:=keep) hL)
   | true=>cases hok
  | _=>cases hok
 | draw l keep=>
  intro c' M bm tk ρ σ a w Q hok hl h hq;cases c' with
  | region id ops draw=>
   cases draw with
   | true=>
    have hok:(fA C.tab n ops l ops.toList&&jT l ops.toList)=true:=hok;simp only[Bool.and_eq_true]at hok;exact wp_mono (oq (Q:=fun x ρ σ=>Q x (aJ keep ρ) σ) hG hok.1 hok.2 hl h hq) (fun e a w hL=>bp.keep (l:=keep) hL)
   | false=>cases hok
  | _=>cases hok
 | drawb s0 d0 d1 T k bytes y l keep=>
  intro c' M bm tk ρ σ a w Q hok hl h hq;cases c' with
  | region id ops draw=>
   cases draw with
   | true=>
    have hok:(fA C.tab n ops (bL s0 d0 d1 T k bytes y l) ops.toList&&iG s0 d0 d1 y l ops.toList)=true:=hok;simp only[Bool.and_eq_true]at hok;exact wp_mono (nN (Q:=fun x ρ σ=>Q x (aJ keep ρ) σ) hG hok.1 hok.2 hl h hq) (fun e a w hL=>bp.keep (l:=keep) hL)
   | false=>cases hok
  | _=>cases hok
 | drawg l keep=>
  intro c' M bm tk ρ σ a w Q hok hl h hq;cases c' with
  | region id ops draw=>
   cases draw with
   | true=>
    have hok:(fA C.tab n ops (l.map (·.1)) ops.toList&&ik l ops.toList)=true:=hok;simp only[Bool.and_eq_true]at hok;exact wp_mono (oc (Q:=fun x ρ σ=>Q x (aJ keep ρ) σ) hG hok.1 hok.2 hl h hq) (fun e a w hL=>bp.keep (l:=keep) hL)
   | false=>cases hok
  | _=>cases hok
 | raw l es keep=>
  intro c' M bm tk ρ σ a w Q hok hl h hq;cases c' with
  | region id ops draw=>
   cases draw with
   | true=>
    have hok:(fA C.tab n ops l ops.toList&&(ops.toList.map aB==es))=true:=hok;simp only[Bool.and_eq_true,beq_iff_eq]at hok;have hq:qe C n0 l es ρ σ fun e ρ' σ'=>Q e (aJ keep ρ') σ':=hq;exact wp_mono (hq pr M0 bm0 w0 id ops n M bm tk a w hG hn0 hok.1 hok.2 hl h) (fun e a w hL=>bp.keep (l:=keep) hL)
   | false=>cases hok
  | _=>cases hok
 | seq x y ihx ihy=>
  intro c' M bm tk ρ σ a w Q hok hl h hq;cases c'<;>simp only[okC,Bool.and_eq_true]at hok<;>first|(cases hok;done)|skip
  refine wp_seq (wp_mono (ihx hok.1 hl h hq) (fun e a' w' hL=>?_));obtain⟨M',bm',tk',ρ',σ',x,k1,k2,k3,k4⟩:=hL;cases k2 with
  | normal=>exact ihy hok.2 k4 k3 k1
  | ret=>exact⟨M',bm',tk',ρ',σ',_,k1,.ret,k3,k4⟩
  | exit id=>exact⟨M',bm',tk',ρ',σ',_,k1,.exit id,k3,k4⟩
  | panic hp=>exact⟨M',bm',tk',ρ',σ',_,k1,.panic hp,k3,k4⟩
 | cond x y z ihy ihz=>
  intro c' M bm tk ρ σ a w Q hok hl h hq;cases c'<;>simp only[okC,Bool.and_eq_true]at hok<;>first|(cases hok;done)|skip
  have hx:=aq (hG.mono hl) h hok.1.1;simp only[awp]at hq;split at hq
  ·rename_i t e;rw[e]at hx;have hv:=hx.bool_inv;cases t with
   | true=>exact wp_cond_true hv (ihy hok.1.2 hl h (hq.1 rfl))
   | false=>exact wp_cond_false hv (ihz hok.2 hl h (hq.2 rfl))
  ·exact hq.elim
 | block id x ih=>
  intro c' M bm tk ρ σ a w Q hok hl h hq;cases c'<;>simp only[okC,Bool.and_eq_true,beq_iff_eq]at hok<;>first|(cases hok;done)|skip
  obtain⟨rfl,hok⟩:=hok;refine wp_block (wp_mono (ih hok hl h hq) (fun e a' w' hL=>?_));obtain⟨M',bm',tk',ρ',σ',x,k1,k2,k3,k4⟩:=hL;cases k2 with
  | normal=>exact⟨M',bm',tk',ρ',σ',_,k1,.normal,k3,k4⟩
  | ret=>exact⟨M',bm',tk',ρ',σ',_,k1,.ret,k3,k4⟩
  | exit j=>
   simp only[jn]at k1;simp only[Exit.inBlock];split
   ·rename_i e;rw[if_pos e]at k1;exact⟨M',bm',tk',ρ',σ',_,k1,.normal,k3,k4⟩
   ·rename_i e;rw[if_neg e]at k1;exact⟨M',bm',tk',ρ',σ',_,k1,.exit j,k3,k4⟩
  | panic hp=>exact⟨M',bm',tk',ρ',σ',_,k1,.panic hp,k3,k4⟩
 | loop x ih=>
  intro c' M bm tk ρ σ a w Q hok hl h hq;cases c'<;>simp only[okC]at hok<;>first|(cases hok;done)|skip
  obtain⟨ρ1,σ1,hsh,I,⟨m,hm⟩,hI⟩:=hq;obtain⟨M1,bm1,h1,h2⟩:=hsh M bm tk pr n a w h;have hl1:=h2 M0 bm0 w0 hn0 hl;rename_i c';intro b k cs
  have key:∀(m:Nat) (M:au) (bm:List Nat) (tk:aU) (ρ:al) (σ:List (List V)) (a:Act) (w:World),Later M0 bm0 pr w0 M bm w→SRel M bm tk pr ρ σ n a w→I m ρ σ→
   ∃e a' w',bp M0 bm0 pr w0 n Q e a' w'∧Arrives C.P (lone (b.at a (.code c'::.inLoop c'::k)) cs w) b k cs e a' w':=by
   intro m
   induction m using Nat.strongRecOn with
   | _ m ihm=>
   intro M bm tk ρ σ a w hl h hm;obtain⟨e,a₁,w₁,hq,harr⟩:=ih hok hl h (hI m ρ σ hm) b (.inLoop c'::k) cs;obtain⟨M',bm',tk',ρ',σ',x,k1,k2,k3,k4⟩:=hq;cases k2 with
   | normal=>
    obtain⟨m',hlt,ρ3,σ3,g1,g4⟩:=k1;obtain⟨M3,bm3,g2,g3⟩:=g1 M' bm' tk' pr n a₁ w₁ k3;obtain⟨e₂,a₂,w₂,hq₂,harr₂⟩:=ihm m' hlt M3 bm3 tk' ρ3 σ3 a₁ w₁ (g3 M0 bm0 w0 hn0 k4) g2 g4;exact⟨e₂,a₂,w₂,hq₂,.of_steps (Steps.trans harr (.one step_inLoop)) harr₂⟩
   | ret=>exact⟨_,a₁,w₁,⟨M',bm',tk',ρ',σ',_,k1,.ret,k3,k4⟩,.pass (x:=.inLoop c') rfl (fun _ _=>.inl (by simp)) harr⟩
   | exit id=>exact⟨_,a₁,w₁,⟨M',bm',tk',ρ',σ',_,k1,.exit id,k3,k4⟩,.pass (x:=.inLoop c') rfl (fun _ _=>.inl (by simp)) harr⟩
   | panic hp=>exact⟨_,a₁,w₁,⟨M',bm',tk',ρ',σ',_,k1,.panic hp,k3,k4⟩,.pass (x:=.inLoop c') rfl (fun _ _=>.inl (by simp)) harr⟩
  obtain⟨e,a',w',hq,harr⟩:=key m M1 bm1 tk _ σ1 a w hl1 h1 hm;exact⟨e,a',w',hq,.of_steps (.one step_loop) harr⟩
 | exit id=>
  intro c' M bm tk ρ σ a w Q hok hl h hq;cases c'<;>simp only[okC,beq_iff_eq]at hok<;>first|(cases hok;done)|skip
  subst hok;exact wp_exit ⟨M,bm,tk,ρ,σ,_,hq,.exit id,h,hl⟩
 | ret=>
  intro c' M bm tk ρ σ a w Q hok hl h hq;cases c'<;>simp only[okC]at hok<;>first|(cases hok;done)|skip
  exact wp_ret ⟨M,bm,tk,ρ,σ,_,hq,.ret,h,hl⟩
end
end Go.Proofs.YtcbahpllcfbkmaaGreatDoor
namespace Go.Proofs.YtcbahpllcfbkmaaGreatDoor
open Go.RowKit
inductive D.Wf:D→Prop
 | lit (v:Value) (h:bP v):D.Wf (.lit v)
 | sl (rows:List (List D)) (hl:rows.length≤maxLen) (h:∀i j (hi:i<rows.length) (hj:j<rows[i].length),D.Wf rows[i][j]):D.Wf (.sl rows)
theorem DRep.wf{M:au}{x:D}{v:Value}(h:DRep M x v):x.Wf:=by
 induction h with
 | lit v h=>exact .lit v h
 | sl rows k p cap val hk hd hf hc hm ih=>exact .sl rows (by omega) ih
inductive V.Wf:V→Prop
 | d {x:D} (h:x.Wf):V.Wf (.d x)
 | own {T k:Nat} {rows:List (List D)} (h:(D.sl rows).Wf):V.Wf (.own T k rows)
 | agg {cs:List V} (h:∀i (h:i<cs.length),V.Wf cs[i]):V.Wf (.agg cs)
 | nil:V.Wf .nil
 | tup (cs:List V):V.Wf (.tup cs)
 | ptr (i o:Nat):V.Wf (.ptr i o)
 | bsl (i o n k:Nat):V.Wf (.bsl i o n k)
 | row (cs:List D) (o:Nat):V.Wf (.row cs o)
 | fn (f:FuncId) (cs:List V):V.Wf (.fn f cs)
 | bnd (f:FuncId) (cs:List V):V.Wf (.bnd f cs)
 | iface (t:TypeId) (v:V):V.Wf (.iface t v)
 | mp (i:Nat):V.Wf (.mp i)
 | bsc (i n c:Nat):V.Wf (.bsc i n c)
 | junk:V.Wf .junk
theorem Rep.wf{M:au}{bm:List Nat}{x:V}{v:Value}(h:Rep M bm x v):x.Wf:=by
 induction h with
 | d h=>exact .d h.wf
 | own h=>exact .own h.wf
 | nil=>exact .nil
 | agg hl h h1 ih=>exact .agg fun i hi=>ih i hi (by omega)
 | tup hl h ih=>exact .tup _
 | ptr h=>exact .ptr _ _
 | bsl h hc hm=>exact .bsl _ _ _ _
 | row val hf hd=>exact .row _ _
 | fn hl h ih=>exact .fn _ _
 | bnd hl h ih=>exact .bnd _ _
 | iface h ih=>exact .iface _ _
 | mp h=>exact .mp _
 | bsc h hc hm=>exact .bsc _ _ _
 | junk v=>exact .junk
inductive RV where
 | t (n:Nat) (own:Bool)
 | c (n k:Nat) (ag:Bool)
def vB(σ:List (List V))(ρ:al):RV→Option V
 | .t n true=>some (get ρ n)
 | .t n false=>some (get ρ n).lend
 | .c n k ag=>(eR σ k ag (get ρ n)).map V.lend
def r8(σ:List (List V))(ρ:al):List RV→Option (List V)
 | []=>some []
 | r::rs=>match vB σ ρ r,r8 σ ρ rs with|some v,some l=>some (v.lend::l)|_,_=>none
def ll(σ:List (List V))(ρ:al):List RV→Option V
 | [r]=>vB σ ρ r
 | rs=>(r8 σ ρ rs).map V.tup
def y5(tab:Tab):RV→ResultVar→Bool
 | .t n _,.tmp m=>n==m
 | .c n k ag,.cell m t=>n==m&&(match tab t with|some i=>i.sz==k&&i.agg==ag|none=>false)
 | _,_=>false
def jr(tab:Tab):List RV→List ResultVar→Bool
 | [],[]=>true
 | r::rs,r'::rs'=>y5 tab r r'&&jr tab rs rs'
 | _,_=>false
def bg(tab:Tab)(fn:Func)(m:Nat)(c:Cd)(rs:List RV):Bool:=
 (match fn.body with|some b=>okC tab fn.ntmps c b|none=>false)&&jr tab rs fn.results.toList&&decide (m≤fn.ntmps) && !(fn.name == "runtime.NumGoroutine")
def fin(n0:Nat)(rs:List RV)(Q:Out→List (List V)→Prop):cN:=fun e ρ σ'=>match e with
 | .normal=>∃ρ2 σ2,cM n0 ρ σ' ρ2 σ2∧∃v,ll σ2 ρ2 rs=some v∧∃k,n0≤k∧az k (σ2.take k)=true∧V.under k v=true∧Q (.ret v) (σ2.take k)
 | .ret=>∃ρ2 σ2,cM n0 ρ σ' ρ2 σ2∧∃v,ll σ2 ρ2 rs=some v∧∃k,n0≤k∧az k (σ2.take k)=true∧V.under k v=true∧Q (.ret v) (σ2.take k)
 | .panic v=>∃k,n0≤k∧az k (σ'.take k)=true∧V.under k v=true∧Q (.panic v) (σ'.take k)
 | .exit _=>False
def ah:Nat→List V→al
 | _,[]=>[]
 | i,v::r=>(i,v)::ah (i+1) r
def xy(tmps:Array Value):ResultVar→Sem Value
 | .tmp t=>pure (tmps.getD t undef)
 | .cell a t=>do loadVar t (←asAddr (tmps.getD a undef))
theorem ou(fn:Func)(tmps:Array Value):results fn tmps=(do
 let vs ←fn.results.mapM (xy tmps)
 pure (if h:vs.size=1 then vs[0]else .tuple vs)):=by
 unfold results;congr 1
section
variable {C : Cx} {M : au} {bm : List Nat} {tk : aU} {pr : Prot} {ρ : al} {σ : List (List V)} {n : Nat} {a : Act} {w : World}
theorem kH(h:SRel M bm tk pr ρ σ n a w){r:RV}{r':ResultVar}(hok:y5 C.tab r r'=true){x:V}(hx:vB σ ρ r=some x):
 ∃v,(xy a.tmps r').run C.P w=.ok v w∧∃t,CellOK M bm w x v t∧(t=none∨∃s,t=tk none s):=by
 unfold y5 at hok;split at hok
 ·rename_i m own m';simp only[beq_iff_eq]at hok;subst hok;cases own with
  | true=>cases hx;exact⟨_,rfl,_,h.slots m,.inr ⟨m,rfl⟩⟩
  | false=>cases hx;exact⟨_,rfl,none,⟨(h.slots m).rep.lend,fun _ _ _ e=>absurd e V.lend_own⟩,.inl rfl⟩
 ·rename_i m k ag m' t;simp only[Bool.and_eq_true,beq_iff_eq]at hok;obtain⟨rfl,h2⟩:=hok;split at h2
  ·rename_i i hi;simp only[Bool.and_eq_true,beq_iff_eq]at h2;obtain⟨rfl,rfl⟩:=h2;obtain⟨y,hy,rfl⟩:=Option.map_eq_some_iff.1 hx;obtain⟨v,h3,h4,h5⟩:=kq h.inv hi hy (h.slots m).rep;refine⟨v,?_,none,⟨h4.lend,fun _ _ _ e=>absurd e V.lend_own⟩,.inl rfl⟩
   have hptr:∃ad,a.tmps.getD m undef=.pointer (some ad):=by
    have hr:=(h.slots m).rep;unfold eR at hy;obtain⟨cs,hcs,-⟩:=Option.bind_eq_some_iff.1 hy;obtain⟨ad,vs,e,-⟩:=dS h.inv hcs hr;exact⟨ad,e⟩
   obtain⟨ad,e⟩:=hptr;simp only[xy];rw[e]at h3 ⊢;simpa[Instr.loadAt,Instr.sureAddr,asAddr]using h3
  ·cases h2
 ·cases hok
theorem jY(h:SRel M bm tk pr ρ σ n a w):∀{rs:List RV} {rs':List ResultVar} {xs:List V},jr C.tab rs rs'=true→r8 σ ρ rs=some xs→
 ∃vs:List Value,(rs'.mapM (xy a.tmps)).run C.P w=.ok vs w∧vs.length=xs.length∧rs'.length=xs.length∧∀i (h:i<xs.length) (h':i<vs.length),Rep M bm xs[i] vs[i]
 | [],[],xs,_,hx=>by cases hx;exact⟨[],rfl,rfl,rfl,fun i h=>by simp at h⟩
 | r::rs,r'::rs',xs,hok,hx=>by
  simp only[jr,Bool.and_eq_true]at hok;simp only[r8]at hx;split at hx
  ·rename_i v l hv hl;cases hx;obtain⟨u,g1,t,g2,-⟩:=kH h hok.1 hv;obtain⟨vs,k1,k2,k3,k4⟩:=jY h hok.2 hl;refine⟨u::vs,?_,by simp[k2],by simp[k3],fun i h1 h2=>?_⟩
   ·rw[List.mapM_cons,Sem.run_bind,g1,Result.andThen_ok,Sem.run_bind,k1];rfl
   ·cases i with
    | zero=>exact g2.rep.lend
    | succ i=>exact k4 i (by simpa using h1) (by simpa using h2)
  ·cases hx
 | [],_::_,_,hok,_=>by cases hok
 | _::_,[],_,hok,_=>by cases hok
theorem py(h:SRel M bm tk pr ρ σ n a w){rs:List RV}{fn:Func}{x:V}(hok:jr C.tab rs fn.results.toList=true)(hx:ll σ ρ rs=some x):
 ∃v,(results fn a.tmps).run C.P w=.ok v w∧∃t,CellOK M bm w x v t∧(t=none∨∃s,t=tk none s):=by
 rw[ou,Array.mapM_eq_mapM_toList];unfold ll at hx;split at hx
 ·rename_i r
  match hrs:fn.results.toList,hok with
  | [r'],hok=>
   simp only[jr,Bool.and_true]at hok;obtain⟨v,g1,g2⟩:=kH h hok hx;refine⟨v,?_,g2⟩;simp only[List.mapM_cons,List.mapM_nil,Sem.run_bind,Sem.run_map,g1,Result.andThen_ok,Sem.run_pure];rfl
  | [],hok=>cases hok
  | _::_::_,hok=>simp[jr]at hok
 ·rename_i hne;obtain⟨xs,hxs,rfl⟩:=Option.map_eq_some_iff.1 hx;obtain⟨vs,k1,k2,k3,k4⟩:=jY h hok hxs;refine⟨.tuple vs.toArray,?_,none,⟨.tup k2 k4,fun _ _ _ e=>by cases e⟩,.inl rfl⟩;simp only[Sem.run_bind,Sem.run_map,k1,Result.andThen_ok,Sem.run_pure]
  have hl:¬vs.toArray.size=1:=by
   intro e;have:fn.results.toList.length=1:=by rw[k3,←k2];simpa using e
   match rs,hne,hok with
   | [],_,hok=>match hrs:fn.results.toList,hok with | [],_=>rw[hrs]at this;cases this
   | [r],hne,_=>exact hne r rfl
   | _::_::_,_,hok=>match hrs:fn.results.toList,hok with
    | [_],hok=>simp[jr]at hok
    | _::_::_,_=>rw[hrs]at this;simp at this
  rw[dif_neg hl]
theorem kP:∀(args:List V) (i t:Nat),get (ah i args) t=if i≤t then(args[t-i]?).getD .junk else .junk
 | [],i,t=>by simp[ah,get]
 | v::r,i,t=>by
  simp only[ah,get];split
  ·rename_i e;subst e;simp
  ·rename_i e;rw[kP r (i+1) t];by_cases h:i≤t
   ·rw[if_pos (by omega),if_pos h,show t-i=(t-(i+1))+1 by omega];rfl
   ·rw[if_neg (by omega),if_neg h]
theorem bU{P:Program}{f:FuncId}{fn:Func}(hf:P.funcs[f]? = some fn)(hn:(fn.name == "runtime.NumGoroutine")=false)(hb:fn.body.isNone=false):
 ∀args w,(callFunc f args).run P w=.ok (.enter f args) w:=fun args w=>by
 have h1:fn.name ≠ "runtime.NumGoroutine" := by simpa using hn
 have h2:fn.body≠none:=fun h=>by rw[h]at hb;cases hb
 simp[callFunc,hf,h1,h2]
theorem rG{f:FuncId}{fn:Func}{c:Cd}{rs:List RV}{args:List V}{Q:Out→List (List V)→Prop}(hf:C.P.funcs[f]? = some fn)(hok:bg C.tab fn args.length c rs=true)
 (h:az σ.length σ=true→(∀i (h:i<args.length),V.Wf args[i])→awp C σ.length c (ah 0 args) σ (fin σ.length rs Q)):
 (∀as w,(callFunc f as).run C.P w=.ok (.enter f as) w)∧
 ∀(M:au) (bm:List Nat) (tk:aU) (pr:Nat→Prop) (w:World) (vs:List Value),C.glob M pr w→Inv M bm σ tk pr w→vs.length=args.length→(∀i (h:i<args.length) (h':i<vs.length),CellOK M bm w args[i] vs[i] (tk none i))→
  Calls C.P f vs.toArray w fun e w'=>∃M' bm' tk' σ' o,Q o σ'∧Inv M' bm' σ' tk' pr w'∧Later M bm pr w M' bm' w'∧OutOK M' bm' w' tk' o e:=by
 unfold bg at hok;simp only[Bool.and_eq_true,decide_eq_true_eq,Bool.not_eq_true']at hok;obtain⟨⟨⟨h1,h2⟩,h3⟩,h4⟩:=hok;cases hb:fn.body with
 | none=>rw[hb]at h1;cases h1
 | some body=>
 rw[hb]at h1;refine⟨bU hf h4 (by rw[hb];rfl),fun M bm tk pr0 w vs hG hI hl hr=>?_⟩;obtain⟨pr,rfl,hds⟩:∃pr:Prot,pr.p=pr0∧pr.ds=[]:=⟨⟨pr0,[]⟩,rfl,rfl⟩
 have hq:=h hI.under (fun i hi=>(hr i hi (by omega)).rep.wf);refine calls_of_wp hf hb ?_
 have hs:SRel M bm tk pr (ah 0 args) σ fn.ntmps {tmps:=vs.toArray++Array.replicate (fn.ntmps-vs.toArray.size) undef,defers:=[]} w:=by
  refine⟨hI,hds.symm,by simp;omega,fun t=>?_⟩;rw[kP,if_pos (Nat.zero_le _),Nat.sub_zero];by_cases hlt:t<args.length
  ·rw[List.getElem?_eq_getElem hlt,Option.getD_some]
   have hv:(vs.toArray++Array.replicate (fn.ntmps-vs.toArray.size) undef).getD t undef=vs[t]'(by omega):=by
    rw[Array.getD_eq_getD_getElem?,Array.getElem?_append_left (by simp;omega)];simp[show t<vs.length by omega]
   rw[hv];exact hr t hlt (by omega)
  ·rw[List.getElem?_eq_none (by omega),Option.getD_none];exact CellOK.junk ..
 refine wp_mono (rz hG hI.len h1 (Later.refl M bm pr w) hs hq) (fun e a' w' hL=>?_);obtain⟨M',bm',tk',ρ',σ',x,k1,k2,k3,k4⟩:=hL
 have cut:∀{M':au} {bm':List Nat} {ρ':al} {σ':List (List V)} {k:Nat} (o:Option Nat),SRel M' bm' tk' pr ρ' σ' fn.ntmps a' w'→Later M bm pr w M' bm' w'→σ.length≤k→az k (σ'.take k)=true→(o=none∨∃s,o=tk' none s)→
  Inv M' (bm'.take k) (σ'.take k) (fun i j=>match i with|none=>if j=0 then o else none|some i=>tk' (some i) j) pr w'∧Later M bm pr w M' (bm'.take k) w':=by
  intro M' bm' ρ' σ' k o k3 k4 hk hbk ho;have hd:=k3.inv.drop hbk;refine⟨⟨hd.facts,hd.len,hd.box,hd.free,hd.bmnd,fun i j g hg=>?_,fun i j i' j' g g1 g2=>?_,hd.prlt⟩,k4.drop (by rw[hI.len];exact hk)⟩
  ·cases i with
   | some i=>exact hd.tok _ _ _ hg
   | none=>
    simp only at hg;split at hg
    ·rcases ho with rfl|⟨s,rfl⟩
     ·cases hg
     ·exact hd.tok _ _ _ hg
    ·cases hg
  ·cases i with
   | some i=>cases i' with
    | some i'=>exact hd.inj _ _ _ _ _ g1 g2
    | none=>
     simp only at g2;split at g2
     ·rcases ho with rfl|⟨s,rfl⟩
      ·cases g2
      ·have:=hd.inj _ _ _ _ _ g1 g2;simp at this
     ·cases g2
   | none=>cases i' with
    | some i'=>
     simp only at g1;split at g1
     ·rcases ho with rfl|⟨s,rfl⟩
      ·cases g1
      ·have:=hd.inj _ _ _ _ _ g1 g2;simp at this
     ·cases g1
    | none=>
     simp only at g1 g2;split at g1
     ·split at g2
      ·exact⟨rfl,by omega⟩
      ·cases g2
     ·cases g1
 have ret:∀ρ2 σ2,cM σ.length ρ' σ' ρ2 σ2→∀v,ll σ2 ρ2 rs=some v→(∃k,σ.length≤k∧az k (σ2.take k)=true∧V.under k v=true∧Q (.ret v) (σ2.take k))→
  a'.defers=[]∧∃u,(results fn a'.tmps).run C.P w'=.ok u w'∧∃M' bm' tk' σ' o,Q o σ'∧Inv M' bm' σ' tk' pr w'∧Later M bm pr w M' bm' w'∧OutOK M' bm' w' tk' o (.returned u):=by
  rintro ρ2 σ2 hsh v hv ⟨k,g1,g2,g3,g4⟩;obtain⟨M2,bm2,s1,s2⟩:=hsh M' bm' tk' pr fn.ntmps a' w' k3;obtain⟨u,r1,t,r2,r3⟩:=py s1 h2 hv;obtain⟨c1,c2⟩:=cut t s1 (s2 M bm w hI.len k4) g1 g2 r3;refine⟨k3.defers.trans hds,u,r1,M2,bm2.take k,_,σ2.take k,.ret v,g4,c1,c2,fun v' e=>?_,fun v' e=>by cases e⟩;cases e;exact⟨u,rfl,r2.rep.drop g3,by simpa using r2.own⟩
 cases k2 with
 | normal=>obtain⟨ρ2,σ2,g0,v,g1,g2⟩:=k1;exact ret ρ2 σ2 g0 v g1 g2
 | ret=>obtain⟨ρ2,σ2,g0,v,g1,g2⟩:=k1;exact ret ρ2 σ2 g0 v g1 g2
 | exit id=>exact k1.elim
 | panic hp=>
  obtain⟨k,g1,g2,g3,g4⟩:=k1;obtain⟨c1,c2⟩:=cut none k3 k4 g1 g2 (.inl rfl);exact⟨k3.defers.trans hds,M',bm'.take k,_,σ'.take k,_,g4,c1,c2,(fun v' e=>by cases e),fun v' e=>by cases e;exact⟨_,rfl,hp.drop g3⟩⟩
theorem qM{f:FuncId}{fn:Func}{c:Cd}{rs:List RV}{args:List V}{Q:Out→List (List V)→Prop}(hf:C.P.funcs[f]? = some fn)(hok:bg C.tab fn args.length c rs=true)(hno:args.all (! ·.isOwn)=true)
 (h:az σ.length σ=true→(∀i (h:i<args.length),V.Wf args[i])→awp C σ.length c (ah 0 args) σ (fin σ.length rs Q)):Fun C f args σ Q:=by
 obtain⟨h1,h2⟩:=rG hf hok h;refine⟨h1,fun M bm tk pr w vs hG hI _ hl hr=>h2 M bm tk pr w vs hG hI hl fun i g1 g2=>⟨hr i g1 g2,fun T k rows e=>?_⟩⟩;have:=List.all_eq_true.1 hno args[i] (List.getElem_mem g1);rw[e]at this;cases this
end
end Go.Proofs.YtcbahpllcfbkmaaGreatDoor
namespace Go.Proofs.YtcbahpllcfbkmaaGreatDoor
open Go.RowKit
inductive Tag{α:Type}(a:α):Type where
 | mk
def ct(o:Option V)(f:V→Prop)(_:Tag f):Prop:=match o with|some v=>f v|none=>False
theorem ri(v:V)(f:V→Prop)(t:Tag f):ct (some v) f t=f v:=rfl
def fnT(v:V)(f:FuncId→List V→Prop)(_:Tag f):Prop:=match v with | .fn g cap=>f g cap|_=>False
theorem zo(g:FuncId)(cap:List V)(f:FuncId→List V→Prop)(t:Tag f):fnT (.fn g cap) f t=f g cap:=rfl
def xe(v:V)(as:List V)(f:FuncId→List V→Prop)(_:Tag f):Prop:=match v with | .fn g cap=>f g (as++cap) | .bnd g first=>f g (first++as)|_=>False
theorem xO(g:FuncId)(cap as:List V)(f:FuncId→List V→Prop)(t:Tag f):xe (.fn g cap) as f t=f g (as++cap):=rfl
theorem ti(g:FuncId)(first as:List V)(f:FuncId→List V→Prop)(t:Tag f):xe (.bnd g first) as f t=f g (first++as):=rfl
def xj(v:V)(f:Nat→Nat→Prop)(_:Tag f):Prop:=match v with | .ptr i o=>f i o|_=>False
theorem wD(i o:Nat)(f:Nat→Nat→Prop)(t:Tag f):xj (.ptr i o) f t=f i o:=rfl
def nJ(v:V)(f:Nat→Nat→List (List D)→Prop)(_:Tag f):Prop:=match v with | .own T k rows=>f T k rows|_=>False
theorem u9(T k:Nat)(rows:List (List D))(f:Nat→Nat→List (List D)→Prop)(t:Tag f):nJ (.own T k rows) f t=f T k rows:=rfl
def ifT(v:V)(f:Nat→V→Prop)(_:Tag f):Prop:=match v with | .iface t v=>f t v|_=>False
theorem rW(ty:Nat)(v:V)(f:Nat→V→Prop)(t:Tag f):ifT (.iface ty v) f t=f ty v:=rfl
def bxT(o:Option (List V))(f:List V→Prop)(_:Tag f):Prop:=match o with|some cs=>f cs|none=>False
theorem tX(cs:List V)(f:List V→Prop)(t:Tag f):bxT (some cs) f t=f cs:=rfl
def rwT(o:Option (List (List D)))(f:List (List D)→Prop)(_:Tag f):Prop:=match o with|some rows=>f rows|none=>False
theorem vJ(rows:List (List D))(f:List (List D)→Prop)(t:Tag f):rwT (some rows) f t=f rows:=rfl
def yI(v:V)(f:Bool→Prop)(_:Tag f):Prop:=match v with | .d (.lit (.bool c))=>f c|_=>False
theorem pS(c:Bool)(f:Bool→Prop)(t:Tag f):yI (.d (.lit (.bool c))) f t=f c:=rfl
def lP(v:V)(f:Bool→Prop)(u:Unit→Prop)(_:Tag f)(_:Tag u):Prop:=match v with
 | .d (.lit (.bool c))=>f c
 | .tup []=>u ()
 | _=>False
theorem po(c:Bool)(f:Bool→Prop)(u:Unit→Prop)(s:Tag f)(t:Tag u):lP (.d (.lit (.bool c))) f u s t=f c:=rfl
theorem ve(f:Bool→Prop)(u:Unit→Prop)(s:Tag f)(t:Tag u):lP (.tup []) f u s t=u ():=rfl
def li(c:Bool)(A B:Unit→Prop)(_:Tag A)(_:Tag B):Prop:=(c=true→A ())∧(c=false→B ())
theorem sp(A B:Unit→Prop)(s:Tag A)(t:Tag B):li true A B s t=A ():=by simp[li]
theorem ov(A B:Unit→Prop)(s:Tag A)(t:Tag B):li false A B s t=B ():=by simp[li]
theorem bQ{c:Bool}{A B:Unit→Prop}{s:Tag A}{t:Tag B}(h1:c=true→A ())(h2:c=false→B ()):li c A B s t:=⟨h1,h2⟩
theorem xd(b:Bool):(b==true)=b:=by cases b<;>rfl
theorem uf(b:Bool):(b==false) = !b:=by cases b<;>rfl
def onT(p:Prop)(A:Unit→Prop)(_:Tag A):Prop:=p∧A ()
theorem dB{p:Prop}{A:Unit→Prop}{t:Tag A}(h1:p)(h2:A ()):onT p A t:=⟨h1,h2⟩
theorem vu(A:Unit→Prop)(t:Tag A):onT True A t=A ():=by simp[onT]
def dQ(C:Cx)(n0:Nat)(c:Cd)(ρ:al)(σ:List (List V))(Q:cN)(_:Tag Q):Prop:=awp C n0 c ρ σ Q
def a8(C:Cx)(l:List O)(ρ:al)(σ:List (List V))(Q:cN)(_:Tag Q):Prop:=b8 C l ρ σ Q
def bi(C:Cx)(l:List O)(ρ:al)(σ:List (List V))(K:al→Prop)(_:Tag K):Prop:=aT C l ρ σ K
def w5(K:V→List (List V)→Prop)(P:V→List (List V)→Prop):Out→List (List V)→Prop:=fun o σ'=>match o with
 | .ret v=>K v σ'
 | .panic v=>P v σ'
def pM(C:Cx)(f:FuncId)(args:List V)(σ:List (List V))(K:V→List (List V)→Prop)(P:V→List (List V)→Prop)(_:Tag K)(_:Tag P):Prop:=Fun C f args σ (w5 K P)
def ql(C:Cx)(f:FuncId)(args:List V)(σ:List (List V))(k:V→Prop)(_:Tag k):Prop:=∃v,Fun C f args σ (fun o σ'=>o=.ret v∧σ'=σ)∧k v
def C5(x:V)(k:Int→Prop)(_:Tag k):Prop:=match x with
 | .d (.lit (.int _ n))=>k n
 | _=>False
theorem vR(kd:IntKind)(n:Int){k:Int→Prop}(t:Tag k):C5 (.d (.lit (.int kd n))) k t=k n:=rfl
def stT(C:Cx)(l:List O)(ρ:al)(σ:List (List V))(acc:Option (List (List V)))(K:al→List (List V)→Prop)(_:Tag K):Prop:=lw C σ l ρ acc K
def wP(P:Program):Tab:=fun t=>
 match P.underlying t,P.info? t with
 | some d,some i=>match i.zero with
  | some z=>if z.cells.size=i.size then some ⟨d,i.size,i.bytes,z⟩else none
  | none=>none
 | _,_=>none
theorem vH(P:Program):js P (wP P):=by
 intro t i h;unfold wP at h;split at h
 ·rename_i d inf h1 h2;split at h
  ·rename_i z hz;split at h
   ·rename_i hs;cases h;exact⟨h1,inf,h2,rfl,rfl,hz,hs⟩
   ·cases h
  ·cases h
 ·cases h
def cxk(P:Program)(gl:Nat→Option (List D))(kp:Nat→Option (Array Value→Prop))(h:P.follows .mixedOrders=true):Cx:=⟨P,wP P,gl,kp,vH P,h,fun t=>!P.stoodInHeld t && !P.eqGuardType P.depth t,fun t ht=>by simpa using ht⟩
section
variable {C : Cx} {ρ : al} {σ σ2 : List (List V)} {Q : cN} {K : al → Prop} {KA : al → List (List D) → Prop} {cc : Cell} {acc : Option (List (List D))} {KN : al → List V → Prop} {cn : List V} {accn : Option (List V)} {KS : al → List (List V) → Prop} {accs : Option (List (List V))} {n0 : Nat}
theorem C0(n:Nat):ev C ρ (.t n)=get ρ n:=rfl
theorem D3(v:V):ev C ρ (.k v)=v:=rfl
theorem uB(s:Nat)(u:V)(r:al)(t:Nat):get ((s,u)::r) t=if s=t then u else get r t:=rfl
theorem xY(t:Nat):get [] t=.junk:=rfl
theorem tK(s:Nat)(u:V)(r:al)(t:Nat)(v:V):put ((s,u)::r) t v=if t<s then(t,v)::(s,u)::r else if t=s then(t,v)::r else(s,u)::put r t v:=rfl
theorem xK(t:Nat)(v:V):put [] t v=[(t,v)]:=rfl
theorem rS(t:Nat)(v:V):putd ρ (some t) v=put ρ t v:=rfl
theorem sd(v:V):putd ρ none v=ρ:=rfl
theorem mL(l:List Nat):aJ l []=[]:=rfl
theorem lp(l:List Nat)(s:Nat)(u:V)(r:al):aJ l ((s,u)::r)=if l.contains s=true then(s,u)::aJ l r else aJ l r:=by
 unfold aJ;rw[List.filter_cons]
theorem D5(x:X)(d:Option Nat)(r:List O)(t:Tag Q):a8 C (⟨d,.mv x,none⟩::r) ρ σ Q t=a8 C r (putd ρ d (ev C ρ x).copy) σ Q .mk:=rfl
theorem DZ(x:X)(d:Option Nat)(r:List O)(t:Tag K):bi C (⟨d,.mv x,none⟩::r) ρ σ K t=bi C r (putd ρ d (ev C ρ x).copy) σ K .mk:=rfl
theorem zl(x y z:X)(d:Option Nat)(r:List O)(t:Tag Q):a8 C (⟨d,.pick x y z,none⟩::r) ρ σ Q t=ct (fV (ev C ρ x) (ev C ρ y) (ev C ρ z)) (fun v=>a8 C r (putd ρ d v) σ Q .mk) .mk:=rfl
theorem AG(x y z:X)(d:Option Nat)(r:List O)(t:Tag K):bi C (⟨d,.pick x y z,none⟩::r) ρ σ K t=ct (fV (ev C ρ x) (ev C ρ y) (ev C ρ z)) (fun v=>bi C r (putd ρ d v) σ K .mk) .mk:=by
 unfold bi ct;simp only[aT,bB,co,pv];cases fV (ev C ρ x) (ev C ρ y) (ev C ρ z)<;>rfl
theorem A6(o:BinOp)(x y:X)(d:Option Nat)(r:List O)(t:Tag Q):a8 C (⟨d,.bin o x y,none⟩::r) ρ σ Q t=ct (aY o (ev C ρ x) (ev C ρ y)) (fun v=>a8 C r (putd ρ d v) σ Q .mk) .mk:=rfl
theorem A8(o:BinOp)(x y:X)(d:Option Nat)(r:List O)(t:Tag K):bi C (⟨d,.bin o x y,none⟩::r) ρ σ K t=ct (aY o (ev C ρ x) (ev C ρ y)) (fun v=>bi C r (putd ρ d v) σ K .mk) .mk:=by
 unfold bi ct;simp only[aT,bB,co,pv];cases aY o (ev C ρ x) (ev C ρ y)<;>rfl
theorem zj(o:BinOp)(x y:X)(d:Option Nat)(r:List O)(t:Tag Q):a8 C (⟨d,.binb o x y,none⟩::r) ρ σ Q t=ct (lD o (ev C ρ x) (ev C ρ y)) (fun v=>a8 C r (putd ρ d v) σ Q .mk) .mk:=rfl
theorem C4(o:UnOp)(x:X)(d:Option Nat)(r:List O)(t:Tag Q):a8 C (⟨d,.un o x,none⟩::r) ρ σ Q t=ct (unV o (ev C ρ x)) (fun v=>a8 C r (putd ρ d v) σ Q .mk) .mk:=rfl
theorem CN(o:UnOp)(x:X)(d:Option Nat)(r:List O)(t:Tag K):bi C (⟨d,.un o x,none⟩::r) ρ σ K t=ct (unV o (ev C ρ x)) (fun v=>bi C r (putd ρ d v) σ K .mk) .mk:=by
 unfold bi ct;simp only[aT,bB,co,pv];cases unV o (ev C ρ x)<;>rfl
theorem zn(kd:IntKind)(x:X)(d:Option Nat)(r:List O)(t:Tag Q):a8 C (⟨d,.conv kd x,none⟩::r) ρ σ Q t=ct (qu kd (ev C ρ x)) (fun v=>a8 C r (putd ρ d v) σ Q .mk) .mk:=rfl
theorem xn(x:X)(d:Option Nat)(r:List O)(t:Tag Q):a8 C (⟨d,.nilck x,none⟩::r) ρ σ Q t=ct (fT (ev C ρ x)) (fun v=>a8 C r (putd ρ d v) σ Q .mk) .mk:=rfl
theorem yb(x:X)(d:Option Nat)(r:List O)(t:Tag K):bi C (⟨d,.nilck x,none⟩::r) ρ σ K t=ct (fT (ev C ρ x)) (fun v=>bi C r (putd ρ d v) σ K .mk) .mk:=by
 unfold bi ct;simp only[aT,bB,co,pv];cases fT (ev C ρ x)<;>rfl
theorem eL{op:OP}{ρ:al}{σ:List (List V)}{C:Cx}{k k':V→Prop}(hk:∀v,k v→k' v)(h:bB C op ρ σ k):bB C op ρ σ k':=by
 obtain⟨v,h1,h2⟩:=eO h;unfold bB at h1 ⊢;split at h1
 ·obtain⟨u,g1,g2⟩:=h1;subst g2;exact⟨u,g1,hk _ h2⟩
 ·split at h1
  ·obtain⟨u,g1,g2⟩:=h1;subst g2;exact⟨u,g1,hk _ h2⟩
  ·exact h1.elim
 ·split at h1
  ·exact⟨h1.1,by rw[h1.2];exact hk _ h2⟩
  ·exact h1.elim
 ·obtain⟨u,g1,g2⟩:=h1;subst g2;exact⟨u,g1,hk _ h2⟩
 ·split at h1
  ·subst h1;exact hk _ h2
  ·exact h1.elim
def kvT(a:Option (List (Key×V)))(b:Option Key)(f:List (Key×V)→Key→Prop)(_:Tag f):Prop:=match a,b with|some kv,some key=>f kv key|_,_=>False
theorem vW(kv:List (Key×V))(key:Key)(f:List (Key×V)→Key→Prop)(t:Tag f):kvT (some kv) (some key) f t=f kv key:=rfl
def Cu(v:V)(f:Nat→Nat→Nat→Prop)(_:Tag f):Prop:=match asB v with|some (i,off,n)=>f i off n|none=>False
theorem tv(i off n:Nat)(f:Nat→Nat→Nat→Prop)(t:Tag f):Cu (.bsl i off n 1) f t=f i off n:=rfl
theorem uK(i n c:Nat)(f:Nat→Nat→Nat→Prop)(t:Tag f):Cu (.bsc i n c) f t=f i 0 n:=rfl
theorem BM(st ok:Bool)(z:V)(x y:X)(d:Option Nat)(r:List O)(t:Tag Q):a8 C (⟨d,.mlk st ok z x y,none⟩::r) ρ σ Q t=ct (pJ st ok z σ (ev C ρ x) (ev C ρ y)) (fun v=>a8 C r (putd ρ d v) σ Q .mk) .mk:=rfl
theorem AO(st:Bool)(d:Option Nat)(r:List O)(t:Tag Q):a8 C (⟨d,.mmk st,none⟩::r) ρ σ Q t=a8 C r (putd ρ d (.mp σ.length)) (σ++[[.mapc st []]]) Q .mk:=rfl
theorem BH(st:Bool)(x y z:X)(d:Option Nat)(r:List O)(t:Tag Q):a8 C (⟨d,.mst st x y z,none⟩::r) ρ σ Q t=kvT (dm st σ (ev C ρ x)) (fx st (ev C ρ y)) (fun kv key=>a8 C r ρ (gM σ st (gQ key (ev C ρ z).copy kv) (ev C ρ x)) Q .mk) .mk:=by
 unfold a8 kvT;simp only[b8,cG];cases dm st σ (ev C ρ x)<;>cases fx st (ev C ρ y)<;>rfl
def zz(v:V)(f g:Unit→Prop)(_:Tag f)(_:Tag g):Prop:=if mV v=true then f ()else g ()
theorem y8(f g:Unit→Prop)(s:Tag f)(t:Tag g):zz (.d (.sl [])) f g s t=f ():=rfl
theorem vL(i off n:Nat)(f g:Unit→Prop)(s:Tag f)(t:Tag g):zz (.bsl i off n 1) f g s t=g ():=rfl
theorem vP(i n c:Nat)(f g:Unit→Prop)(s:Tag f)(t:Tag g):zz (.bsc i n c) f g s t=g ():=rfl
def avT(x:V)(src:List V)(bytes:Nat)(z:V)(σ:List (List V))(f:V→List (List V)→Prop)(_:Tag f):Prop:=jk σ x src bytes z f
theorem yB(src:List V)(bytes:Nat)(z:V)(σ:List (List V))(f:V→List (List V)→Prop)(t:Tag f):avT .nil src bytes z σ f t=(src.length*bytes≤140737488355328∧∀c,src.length≤c→f (.bsc σ.length src.length c) (σ++[src++List.replicate (c-src.length) z])):=rfl
theorem us:eD []=some []:=rfl
theorem th(i o n k:Nat)(r:List V):eD (.bsl i o n k::r)=(eD r).map fun l=>.bsl i o n k::l:=by
 simp only[eD,V.boxable1];cases eD r<;>rfl
theorem zY(x:D)(r:List V):eD (.d x::r)=(eD r).map fun l=>.d x::l:=by
 simp only[eD,V.boxable1];cases eD r<;>rfl
theorem qI(i n c:Nat):lr false (.bsc i n c)=some (aF .i64 n):=rfl
theorem uT(b n c:Nat)(kd:IntKind)(j:Nat):iaV 1 (.bsc b n c) (.d (.lit (.int kd (j:Int))))=if j<n then some (.ptr b j)else none:=by
 unfold iaV;simp only[Int.toNat_natCast,and_true,Nat.mul_one,Nat.zero_add];by_cases h:j<n
 ·rw[if_pos h,if_pos (by omega)]
 ·rw[if_neg h,if_neg (by omega)]
theorem zp(i n c:Nat):(V.bsc i n c).copy=.bsc i n c:=rfl
def za(st ok:Bool)(z:V)(a:Option (List (Key×V)))(b:Option Key):Option V:=match a,b with|some kv,some key=>some (kj ok z (fG key kv))|_,_=>none
theorem yL(st ok:Bool)(z:V)(i:Nat)(y:V):pJ st ok z σ (.mp i) y=za st ok z (oW st σ[i]?) (fx st y):=by
 unfold pJ za dm;rfl
theorem lU(st ok:Bool)(z:V)(kv:List (Key×V))(key:Key):za st ok z (some kv) (some key)=some (kj ok z (fG key kv)):=rfl
theorem lB(st:Bool)(kv:List (Key×V)):oW st (some [.mapc st kv])=some kv:=by simp[oW]
theorem qq(n:Int):fx false (.d (.lit (.int .i64 n)))=some (.i n):=rfl
theorem yt(s:ByteArray):fx true (.d (.lit (.string s)))=some (.s s):=rfl
theorem uR(st:Bool)(i:Nat):dm st σ (.mp i)=oW st σ[i]? := rfl
theorem uP(st:Bool)(kv:List (Key×V))(i:Nat):gM σ st kv (.mp i)=σ.set i [.mapc st kv]:=rfl
def BU(b:Option (List V)):Option V:=match b with|some [.mapc _ kv]=>if kv.length≤1000000000 then some (aF .i64 kv.length)else none|_=>none
theorem BI(i:Nat):xD σ (.mp i)=BU σ[i]? := rfl
theorem qV(st:Bool)(kv:List (Key×V)):BU (some [.mapc st kv])=if kv.length≤1000000000 then some (aF .i64 kv.length)else none:=rfl
theorem As(z v:V):kj false z (some v)=v:=rfl
theorem xi(z:V):kj false z none=z:=rfl
theorem zh(z v:V):kj true z (some v)=.tup [v,av true]:=rfl
theorem xh(z:V):kj true z none=.tup [z,av false]:=rfl
theorem Dv(x:D):(V.d x).copy=.d x:=rfl
theorem z8(i o n k:Nat):(V.bsl i o n k).copy=.bsl i o n k:=rfl
theorem zA(T k:Nat)(rows:List (List D)):(V.own T k rows).copy=.d (.sl rows):=rfl
theorem Av:V.nil.copy=.nil:=rfl
theorem zx(cs:List V):(V.agg cs).copy=.agg cs:=rfl
theorem Cv(i:Nat):(V.mp i).copy=.mp i:=rfl
def Ad(n off:Nat)(b:Option (List V)):Option (List V):=match b with|some cs=>if off+n≤cs.length∧bJ cs=true then some (((cs.drop off).take n).map V.copy)else(tyL n off cs).map fun l=>l.map V.copy|none=>none
theorem s6(n off:Nat)(cs:List V):Ad n off (some cs)=if off+n≤cs.length∧bJ cs=true then some (((cs.drop off).take n).map V.copy)else(tyL n off cs).map fun l=>l.map V.copy:=rfl
theorem sD(i off n:Nat):gV σ (.bsl i off n 1)=Ad n off σ[i]? := by
 unfold gV Ad gc;simp only;cases σ[i]? with
 | none=>rfl
 | some cs=>simp only;split<;>rfl
theorem xG(rows:List (List D)):gV σ (.d (.sl rows))=if rows.all (fun r=>r.length==1)=true then some (rows.flatten.map V.d)else none:=rfl
theorem DY(off:Nat)(x:X)(d:Option Nat)(r:List O)(t:Tag Q):a8 C (⟨d,.fa off x,none⟩::r) ρ σ Q t=ct (faV off (ev C ρ x)) (fun v=>a8 C r (putd ρ d v) σ Q .mk) .mk:=rfl
theorem Db(off:Nat)(x:X)(d:Option Nat)(r:List O)(t:Tag K):bi C (⟨d,.fa off x,none⟩::r) ρ σ K t=ct (faV off (ev C ρ x)) (fun v=>bi C r (putd ρ d v) σ K .mk) .mk:=by
 unfold bi ct;simp only[aT,bB,co,pv];cases faV off (ev C ρ x)<;>rfl
theorem DI(kk:Nat)(x i:X)(d:Option Nat)(r:List O)(t:Tag Q):a8 C (⟨d,.ia kk x i,none⟩::r) ρ σ Q t=ct (iaV kk (ev C ρ x) (ev C ρ i)) (fun v=>a8 C r (putd ρ d v) σ Q .mk) .mk:=rfl
theorem C2(kk:Nat)(x i:X)(d:Option Nat)(r:List O)(t:Tag K):bi C (⟨d,.ia kk x i,none⟩::r) ρ σ K t=ct (iaV kk (ev C ρ x) (ev C ρ i)) (fun v=>bi C r (putd ρ d v) σ K .mk) .mk:=by
 unfold bi ct;simp only[aT,bB,co,pv];cases iaV kk (ev C ρ x) (ev C ρ i)<;>rfl
theorem DE(x i:X)(d:Option Nat)(r:List O)(t:Tag Q):a8 C (⟨d,.ix x i,none⟩::r) ρ σ Q t=ct (ixV (ev C ρ x) (ev C ρ i)) (fun v=>a8 C r (putd ρ d v) σ Q .mk) .mk:=rfl
theorem BV(s:Bool)(x:X)(d:Option Nat)(r:List O)(t:Tag Q):a8 C (⟨d,.len s x,none⟩::r) ρ σ Q t=ct (lr s (ev C ρ x)) (fun v=>a8 C r (putd ρ d v) σ Q .mk) .mk:=rfl
theorem AY(x:X)(i:Nat)(d:Option Nat)(r:List O)(t:Tag Q):a8 C (⟨d,.ext x i,none⟩::r) ρ σ Q t=ct (oX (ev C ρ x) i) (fun v=>a8 C r (putd ρ d v) σ Q .mk) .mk:=rfl
theorem zZ(kk:Nat)(ag:Bool)(x:X)(d:Option Nat)(r:List O)(t:Tag Q):a8 C (⟨d,.load kk ag x,none⟩::r) ρ σ Q t=ct (eR σ kk ag (ev C ρ x)) (fun v=>a8 C r (putd ρ d v) σ Q .mk) .mk:=rfl
theorem Aw(kk:Nat)(ag:Bool)(x:X)(d:Option Nat)(r:List O)(t:Tag K):bi C (⟨d,.load kk ag x,none⟩::r) ρ σ K t=ct (eR σ kk ag (ev C ρ x)) (fun v=>bi C r (putd ρ d v) σ K .mk) .mk:=by
 unfold bi ct;simp only[aT,bB,co,pv];cases eR σ kk ag (ev C ρ x)<;>rfl
theorem Cf(zs:List V)(ps:List (Nat×Nat×X))(d:Option Nat)(r:List O)(t:Tag Q):a8 C (⟨d,.bld zs ps,none⟩::r) ρ σ Q t=ct ((ak (ev C ρ) zs ps).map V.agg) (fun v=>a8 C r (putd ρ d v) σ Q .mk) .mk:=rfl
theorem Bg(s:Bool)(kk:Nat)(x:X)(lo hi:Option X)(d:Option Nat)(r:List O)(t:Tag Q):a8 C (⟨d,.sub s kk x lo hi,none⟩::r) ρ σ Q t=ct (jE s kk (ev C ρ x) (lo.map (ev C ρ)) (hi.map (ev C ρ))) (fun v=>a8 C r (putd ρ d v) σ Q .mk) .mk:=rfl
theorem Cr(s:Bool)(kk:Nat)(x:X)(lo hi:Option X)(d:Option Nat)(r:List O)(t:Tag K):bi C (⟨d,.sub s kk x lo hi,none⟩::r) ρ σ K t=ct (jE s kk (ev C ρ x) (lo.map (ev C ρ)) (hi.map (ev C ρ))) (fun v=>bi C r (putd ρ d v) σ K .mk) .mk:=by
 unfold bi ct;simp only[aT,bB,co,pv];cases jE s kk (ev C ρ x) (lo.map (ev C ρ)) (hi.map (ev C ρ))<;>rfl
theorem zH(f:FuncId)(cap:List X)(d:Option Nat)(r:List O)(t:Tag Q):a8 C (⟨d,.mkfn f cap,none⟩::r) ρ σ Q t=a8 C r (putd ρ d (.fn f (cap.map (ev C ρ)))) σ Q .mk:=rfl
theorem Bv(ty:TypeId)(x:X)(d:Option Nat)(r:List O)(t:Tag Q):a8 C (⟨d,.mki ty x,none⟩::r) ρ σ Q t=ct (wF ty (ev C ρ x)) (fun v=>a8 C r (putd ρ d v) σ Q .mk) .mk:=rfl
theorem CK(g:Bool)(x y:X)(d:Option Nat)(r:List O)(t:Tag Q):a8 C (⟨d,.mx g x y,none⟩::r) ρ σ Q t=ct (mxV g (ev C ρ x) (ev C ρ y)) (fun v=>a8 C r (putd ρ d v) σ Q .mk) .mk:=rfl
theorem Au(f:FuncId)(args:List X)(d:Option Nat)(r:List O)(t:Tag Q):a8 C (⟨d,.call f args,none⟩::r) ρ σ Q t=pM C f (args.map fun x=>(ev C ρ x).lend) σ (fun v σ'=>a8 C r (putd ρ d v) σ' Q .mk) (fun v σ'=>Q (.panic v) ρ σ') .mk .mk:=rfl
theorem xT(x:X)(args:List X)(d:Option Nat)(r:List O)(t:Tag Q):a8 C (⟨d,.callv x args,none⟩::r) ρ σ Q t=xe (ev C ρ x) (args.map fun x=>(ev C ρ x).lend) (fun f as=>pM C f as σ (fun v σ'=>a8 C r (putd ρ d v) σ' Q .mk) (fun v σ'=>Q (.panic v) ρ σ') .mk .mk) .mk:=rfl
theorem Cm(T:Nat)(cs:List V)(d:Option Nat)(r:List O)(t:Tag Q):a8 C (⟨d,.new T cs,none⟩::r) ρ σ Q t=a8 C r (putd ρ d (.ptr σ.length 0)) (σ++[cs]) Q .mk:=rfl
theorem Cw(T:Nat)(x:X)(d:Option Nat)(r:List O)(t:Tag Q):a8 C (⟨d,.box T x,none⟩::r) ρ σ Q t=onT ((ev C ρ x).boxable=true) (fun _=>a8 C r (putd ρ d (.ptr σ.length 0)) (σ++[(ev C ρ x).cells]) Q .mk) .mk:=rfl
theorem AH(T:Nat)(x:X)(d:Option Nat)(r:List O)(t:Tag Q):a8 C (⟨d,.boxt T x,none⟩::r) ρ σ Q t=tyT (ev C ρ x) (fun k=>a8 C r (putd ρ d (.ptr σ.length 0)) (σ++[tyc T k]) Q .mk):=rfl
theorem Aq(k:Int)(K:Int→Prop):tyT (.agg [.d (.lit (.pointer none)),.nil,.d (.lit (.int .i64 k))]) K=K k:=rfl
theorem Bh(kk:Nat)(x y:X)(d:Option Nat)(r:List O)(t:Tag Q):a8 C (⟨d,.sto kk x y,none⟩::r) ρ σ Q t=xj (ev C ρ x) (fun i o=>bxT σ[i]? (fun cs=>onT ((ev C ρ y).boxable=true∧(ev C ρ y).cells.length=kk∧o+kk≤cs.length∧bJ cs=true) (fun _=>a8 C r ρ (σ.set i (over cs o (ev C ρ y).cells)) Q .mk) .mk) .mk) .mk:=rfl
theorem Aa(x:X)(s:Nat)(d:Option Nat)(r:List O)(t:Tag Q):a8 C (⟨d,.stoo x s,none⟩::r) ρ σ Q t=xj (ev C ρ x) (fun i o=>nJ (get ρ s) (fun T k rows=>bxT σ[i]? (fun cs=>onT (o<cs.length∧bJ cs=true) (fun _=>a8 C r (put ρ s (.d (.sl rows))) (σ.set i (over cs o [.own T k rows])) Q .mk) .mk) .mk) .mk) .mk:=by
 unfold a8 xj nJ bxT onT;simp only[b8,cG];cases ev C ρ x<;>simp only
 cases get ρ s<;>rfl
theorem Bo(s:Nat)(d:Option Nat)(r:List O)(t:Tag Q):a8 C (⟨d,.mvo s,none⟩::r) ρ σ Q t=nJ (get ρ s) (fun T k rows=>a8 C r (putd (put ρ s (.d (.sl rows))) d (.own T k rows)) σ Q .mk) .mk:=rfl
theorem Ai(T k:Nat)(d:Option Nat)(r:List O)(t:Tag Q):a8 C (⟨d,.nilo T k,none⟩::r) ρ σ Q t=a8 C r (putd ρ d (.own T k [])) σ Q .mk:=rfl
theorem BJ(T k bytes s:Nat)(y:X)(d:Option Nat)(r:List O)(t:Tag Q):a8 C (⟨d,.app T k bytes s y,none⟩::r) ρ σ Q t=nJ (get ρ s) (fun T' k' rows=>rwT (df (ev C ρ y)) (fun rows2=>onT (T'=T∧k'=k∧rows2.all (fun r=>r.length==k)=true∧(rows.length+rows2.length)*bytes≤140737488355328) (fun _=>a8 C r (putd (put ρ s (.d (.sl rows))) d (.own T k (rows++rows2))) σ Q .mk) .mk) .mk) .mk:=by
 unfold a8 nJ rwT onT;simp only[b8,cG];cases get ρ s<;>simp only
 cases df (ev C ρ y)<;>rfl
theorem AZ(T k:Nat)(xs:List X)(d:Option Nat)(r:List O)(t:Tag Q):a8 C (⟨d,.mks T k xs,none⟩::r) ρ σ Q t=rwT (ac (xs.map (ev C ρ))) (fun rows=>onT (rows.all (fun r=>r.length==k)=true) (fun _=>a8 C r (putd ρ d (.d (.sl rows))) σ Q .mk) .mk) .mk:=rfl
theorem zi(T k:Nat)(xs:List X)(d:Option Nat)(r:List O)(t:Tag Q):a8 C (⟨d,.mkso T k xs,none⟩::r) ρ σ Q t=rwT (ac (xs.map (ev C ρ))) (fun rows=>onT (rows.all (fun r=>r.length==k)=true) (fun _=>a8 C r (putd ρ d (.own T k rows)) σ Q .mk) .mk) .mk:=rfl
theorem Cy(x:X)(d:Option Nat)(r:List O)(t:Tag Q):a8 C (⟨d,.pan x,none⟩::r) ρ σ Q t=ifT (ev C ρ x) (fun ty v=>Q (.panic (.iface ty v)) ρ σ) .mk:=rfl
theorem wU(d:Option Nat)(op:OP)(s:Nat)(b:Bool)(r:List O)(t:Tag Q):a8 C (⟨d,op,some (s,b)⟩::r) ρ σ Q t=lP (get ρ s) (fun c=>li (c==b) (fun _=>a8 C (⟨d,op,none⟩::r) (put ρ s (.d (.lit (.bool b)))) σ Q .mk) (fun _=>a8 C r (putd (put ρ s (.d (.lit (.bool (!b))))) d (.tup [])) σ Q .mk) .mk .mk) (fun _=>a8 C r (putd ρ d (.tup [])) σ Q .mk) .mk .mk:=by
 unfold a8 lP li;simp only[b8,beq_iff_eq,beq_eq_false_iff_ne,ne_eq];all_goals rfl
theorem B3(t:Tag Q):a8 C [] ρ σ Q t=Q .normal ρ σ:=rfl
theorem AE(f:FuncId)(args:List X)(d:Option Nat)(r:List O)(t:Tag K):bi C (⟨d,.call f args,none⟩::r) ρ σ K t=ql C f (args.map fun x=>(ev C ρ x).lend) σ (fun v=>bi C r (putd ρ d v) σ K .mk) .mk:=rfl
theorem wR(f:FuncId)(args:List X)(d:Option Nat)(r:List O)(t:Tag Q):a8 C (⟨d,.calln f args,none⟩::r) ρ σ Q t=pM C f (args.map fun x=>(ev C ρ x).copy) σ (fun v σ'=>a8 C r (putd ρ d v) σ' Q .mk) (fun v σ'=>Q (.panic v) ρ σ') .mk .mk:=rfl
theorem xV(x:X)(args:List X)(d:Option Nat)(r:List O)(t:Tag K):bi C (⟨d,.callv x args,none⟩::r) ρ σ K t=fnT (ev C ρ x) (fun f cap=>ql C f ((args.map fun x=>(ev C ρ x).lend)++cap) σ (fun v=>bi C r (putd ρ d v) σ K .mk) .mk) .mk:=rfl
theorem BB(T k:Nat)(xs:List X)(d:Option Nat)(r:List O)(t:Tag K):bi C (⟨d,.mks T k xs,none⟩::r) ρ σ K t=rwT (ac (xs.map (ev C ρ))) (fun rows=>onT (rows.all (fun r=>r.length==k)=true) (fun _=>bi C r (putd ρ d (.d (.sl rows))) σ K .mk) .mk) .mk:=rfl
theorem xq(d:Option Nat)(op:OP)(s:Nat)(b:Bool)(r:List O)(t:Tag K):bi C (⟨d,op,some (s,b)⟩::r) ρ σ K t=lP (get ρ s) (fun c=>li (c==b) (fun _=>bi C (⟨d,op,none⟩::r) (put ρ s (.d (.lit (.bool b)))) σ K .mk) (fun _=>bi C r (putd (put ρ s (.d (.lit (.bool (!b))))) d (.tup [])) σ K .mk) .mk .mk) (fun _=>bi C r (putd ρ d (.tup [])) σ K .mk) .mk .mk:=by
 unfold bi lP li;simp only[aT,beq_iff_eq,beq_eq_false_iff_ne,ne_eq];all_goals rfl
theorem B6(t:Tag K):bi C [] ρ σ K t=K ρ:=rfl
theorem CT(x:X)(d:Option Nat)(r:List O)(t:Tag KS):stT C (⟨d,.mv x,none⟩::r) ρ σ accs KS t=stT C r (putd ρ d (ev C ρ x).copy) σ accs KS .mk:=rfl
theorem AP(o:BinOp)(x y:X)(d:Option Nat)(r:List O)(t:Tag KS):stT C (⟨d,.bin o x y,none⟩::r) ρ σ accs KS t=ct (aY o (ev C ρ x) (ev C ρ y)) (fun v=>stT C r (putd ρ d v) σ accs KS .mk) .mk:=by
 unfold stT ct;simp only[lw,bB,co,pv];cases aY o (ev C ρ x) (ev C ρ y)<;>rfl
theorem Da(off:Nat)(x:X)(d:Option Nat)(r:List O)(t:Tag KS):stT C (⟨d,.fa off x,none⟩::r) ρ σ accs KS t=ct (faV off (ev C ρ x)) (fun v=>stT C r (putd ρ d v) σ accs KS .mk) .mk:=by
 unfold stT ct;simp only[lw,bB,co,pv];cases faV off (ev C ρ x)<;>rfl
theorem C6(kk:Nat)(x i:X)(d:Option Nat)(r:List O)(t:Tag KS):stT C (⟨d,.ia kk x i,none⟩::r) ρ σ accs KS t=ct (iaV kk (ev C ρ x) (ev C ρ i)) (fun v=>stT C r (putd ρ d v) σ accs KS .mk) .mk:=by
 unfold stT ct;simp only[lw,bB,co,pv];cases iaV kk (ev C ρ x) (ev C ρ i)<;>rfl
theorem z6(kk:Nat)(ag:Bool)(x:X)(d:Option Nat)(r:List O)(t:Tag KS):stT C (⟨d,.load kk ag x,none⟩::r) ρ σ accs KS t=ct (eR σ kk ag (ev C ρ x)) (fun v=>stT C r (putd ρ d v) σ accs KS .mk) .mk:=by
 unfold stT ct;simp only[lw,bB,co,pv];cases eR σ kk ag (ev C ρ x)<;>rfl
theorem Ac(f:FuncId)(args:List X)(d:Option Nat)(r:List O)(t:Tag KS):stT C (⟨d,.call f args,none⟩::r) ρ σ accs KS t=ql C f (args.map fun x=>(ev C ρ x).lend) σ (fun v=>stT C r (putd ρ d v) σ accs KS .mk) .mk:=rfl
theorem Co(T k:Nat)(xs:List X)(d:Option Nat)(r:List O)(t:Tag KS):stT C (⟨d,.mks T k xs,none⟩::r) ρ σ accs KS t=rwT (ac (xs.map (ev C ρ))) (fun rows=>onT (rows.all (fun r=>r.length==k)=true) (fun _=>stT C r (putd ρ d (.d (.sl rows))) σ accs KS .mk) .mk) .mk:=rfl
theorem CH(σf:List (List V))(t:Tag KS):stT C [] ρ σ (some σf) KS t=KS ρ σf:=rfl
theorem xU(s d0 d1 T k bytes:Nat)(y:X)(l:List O)(keep:List Nat)(t:Tag Q):dQ C n0 (.drawb s d0 d1 T k bytes y l keep) ρ σ Q t=nJ (get ρ s) (fun T' k' rows=>onT (T'=T∧k'=k) (fun _=>bi C l ρ σ (fun ρ'=>rwT (df (ev C ρ' y)) (fun r2=>onT (r2.all (fun r=>r.length==k)=true∧(rows.length+r2.length)*bytes≤140737488355328) (fun _=>Q .normal (aJ keep (put (put (put ρ' s (.own T k (rows++r2))) d0 (.d (.sl rows))) d1 (.d (.sl (rows++r2))))) σ) .mk) .mk) .mk) .mk) .mk:=by
 unfold dQ nJ rwT onT bi;first|(simp only[awp,sH,lk,and_assoc];done)|(simp only[awp,sH,lk,and_assoc];rfl)
def gT(C:Cx)(l:List (O×GK))(m:Nat)(h:List (List (List V)))(p:List PendG)(ρ:al)(σ:List (List V))(k:al→List (List V)→Prop)(P:V→List (List V)→Prop)(_:Tag k)(_:Tag P):Prop:=cY C P k l m h p ρ σ
def gnx(F:al→List (List V)→Prop):cN:=fun e ρ σ=>e=.normal∧F ρ σ
theorem oA(F:al→List (List V)→Prop):gnx F .normal ρ σ=F ρ σ:=by simp[gnx]
section
variable {m : Nat} {h : List (List (List V))} {p : List PendG} {k : al → List (List V) → Prop} {P : V → List (List V) → Prop} {r : List (O × GK)}
theorem Bm(s:Tag k)(t:Tag P):gT C [] m h p ρ σ k P s t=k ρ σ:=rfl
theorem zk(o:O)(lo:Nat)(s:Tag k)(t:Tag P):gT C ((o,.free lo)::r) m h p ρ σ k P s t=bi C [o] ρ σ (fun ρ'=>gT C r m h p ρ' σ k P .mk .mk) .mk:=rfl
theorem Ab(o:O)(lo hi:Nat)(s:Tag k)(t:Tag P):gT C ((o,.calm lo hi)::r) m h p ρ σ k P s t=bi C [o] ρ σ (fun ρ'=>onT (iv C o ρ ρ' (m-lo) h) (fun _=>gT C r m h (m8 m hi ⟨o,ρ,ρ',hi⟩ p) ρ' σ k P .mk .mk) .mk) .mk:=rfl
theorem y4(o:O)(lo:Nat)(s:Tag k)(t:Tag P):gT C ((o,.slot lo)::r) m h p ρ σ k P s t=a8 C [o] ρ σ (gnx fun ρ' σ'=>gT C r m h p ρ' σ' k P .mk .mk) .mk:=rfl
def uj(C:Cx)(f:FuncId)(vs:List V)(σ:List (List V))(R:List (List V)→Prop)(kk:V→List (List V)→Prop)(P:V→List (List V)→Prop)(pn:Unit→Prop)(_:Tag R)(_:Tag kk)(_:Tag P)(_:Tag pn):Prop:=
 (∃v σ1,Fun C f vs σ (fun o σ'=>o=.ret v∧σ'=σ1)∧R σ1∧kk v σ1)∨(Fun C f vs σ (fun o σ'=>∃u,o=.panic u∧P u σ')∧pn ())
theorem cW{f:FuncId}{vs:List V}{R:List (List V)→Prop}{kk P:V→List (List V)→Prop}{pn:Unit→Prop}{t1:Tag R}{t2:Tag kk}{t3:Tag P}{t4:Tag pn}{v:V}{σ1:List (List V)}(h1:Fun C f vs σ (fun o σ'=>o=.ret v∧σ'=σ1))(h2:R σ1)(h3:kk v σ1):uj C f vs σ R kk P pn t1 t2 t3 t4:=.inl ⟨v,σ1,h1,h2,h3⟩
theorem zW(d:Option Nat)(f:FuncId)(args:List X)(s:Tag k)(t:Tag P):gT C ((⟨d,.call f args,none⟩,.act)::r) m h p ρ σ k P s t=uj C f (args.map fun x=>(ev C ρ x).lend) σ (fun σ1=>reG C (m+1) σ1 p) (fun v σ1=>gT C r (m+1) (σ::h) p (putd ρ d v) σ1 k P .mk .mk) P (fun _=>cX C r m h (putd ρ d .junk) σ) .mk .mk .mk .mk:=by
 unfold gT uj;simp only[cY]
theorem yk(d:Option Nat)(x:X)(args:List X)(s:Tag k)(t:Tag P):gT C ((⟨d,.callv x args,none⟩,.act)::r) m h p ρ σ k P s t=fnT (ev C ρ x) (fun f cap=>uj C f ((args.map fun x=>(ev C ρ x).lend)++cap) σ (fun σ1=>reG C (m+1) σ1 p) (fun v σ1=>gT C r (m+1) (σ::h) p (putd ρ d v) σ1 k P .mk .mk) P (fun _=>cX C r m h (putd ρ d .junk) σ) .mk .mk .mk .mk) .mk:=by
 unfold gT uj fnT;simp only[cY];apply propext;constructor
 ·rintro⟨f,cap,e,hh⟩;rw[e];exact hh
 ·intro hh;cases hy:ev C ρ x<;>rw[hy]at hh<;>simp only at hh<;>first|exact hh.elim|skip
  exact⟨_,_,rfl,hh⟩
theorem AD(d:Option Nat)(x:X)(y:Nat)(s:Tag k)(t:Tag P):gT C ((⟨d,.stoo x y,none⟩,.act)::r) m h p ρ σ k P s t=a8 C [⟨d,.stoo x y,none⟩] ρ σ (gnx fun ρ' σ'=>onT (reG C (m+1) σ' p) (fun _=>gT C r (m+1) (σ::h) p ρ' σ' k P .mk .mk) .mk) .mk:=by
 unfold gT;simp only[cY];rfl
theorem zS(σ':List (List V)):reG C m σ' []=True:=rfl
theorem yC(o:O)(ρ1 ρ2:al)(hi:Nat)(σ':List (List V)):reG C m σ' (⟨o,ρ1,ρ2,hi⟩::p)=onT (if m≤hi then bi C [o] ρ1 σ' (fun ρ'=>ρ'=ρ2) .mk else True) (fun _=>reG C m σ' p) .mk:=rfl
theorem sw(o:O)(ρ1 ρ2:al):iv C o ρ1 ρ2 0 h=True:=by cases h<;>rfl
theorem rA(o:O)(ρ1 ρ2:al)(n:Nat):iv C o ρ1 ρ2 (n+1) (σ::h)=onT (bi C [o] ρ1 σ (fun ρ'=>ρ'=ρ2) .mk) (fun _=>iv C o ρ1 ρ2 n h) .mk:=rfl
theorem yz(hi:Nat)(x:PendG):m8 m hi x p=if m<hi then x::p else p:=rfl
theorem BX:cX C [] m h ρ σ=True:=rfl
theorem zG(o:O)(lo:Nat):cX C ((o,.free lo)::r) m h ρ σ=if lo≤m then bi C [o] ρ σ (fun ρ'=>cX C r m h ρ' σ) .mk else cX C r m h (ap o (.junk,.junk) ρ) σ:=rfl
theorem y6(o:O)(lo hi:Nat):cX C ((o,.calm lo hi)::r) m h ρ σ=if lo≤m then bi C [o] ρ σ (fun ρ'=>onT (iv C o ρ ρ' (m-lo) h) (fun _=>cX C r m h ρ' σ) .mk) .mk else cX C r m h (ap o (.junk,.junk) ρ) σ:=rfl
theorem AF(o:O)(lo:Nat):cX C ((o,.slot lo)::r) m h ρ σ=if lo≤m then a8 C [o] ρ σ (gnx fun ρ' _=>cX C r m h ρ' σ) .mk else cX C r m h (ap o (.junk,.junk) ρ) σ:=rfl
theorem BL(o:O):cX C ((o,.act)::r) m h ρ σ=cX C r m h (ap o (.junk,.junk) ρ) σ:=rfl
end
theorem yq(l:List (O×GK))(keep:List Nat)(t:Tag Q):dQ C n0 (.drawg l keep) ρ σ Q t=gT C l 0 [] [] ρ σ (fun ρ' σ'=>Q .normal (aJ keep ρ') σ') (fun u σ'=>∀ρ',Q (.panic u) (aJ keep ρ') σ') .mk .mk:=rfl
def vT(C:Cx)(p:AV)(σ:List (List V))(K:al→List (List V)→Prop)(l:List O)(pend:List (O×al×V))(ρ:al)(_:Tag K):Prop:=xw C p σ K l pend ρ
theorem xI(p:AV)(K:al→List (List V)→Prop)(d:Option Nat)(op:OP)(r:List O)(pend:List (O×al×V))(t:Tag K):vT C p σ K (⟨d,op,none⟩::r) pend ρ t=bi C [⟨some 0,op,none⟩] ρ σ (fun ρ'=>vT C p σ K r ((⟨d,op,none⟩,ρ,get ρ' 0)::pend) (putd ρ d (get ρ' 0)) .mk) .mk:=by
 unfold vT bi;simp only[xw,aT,true_and,putd];refine propext ⟨eL fun v hh=>?_,eL fun v hh=>?_⟩
 ·simpa only[bD,if_true]using hh
 ·simpa only[bD,if_true]using hh
theorem Ag(d T bytes:Nat)(z:V)(s:Nat)(y:X)(st:Bool)(x k v:X)(K:al→List (List V)→Prop)(pend:List (O×al×V))(t:Tag K):vT C ⟨d,T,bytes,z,s,y,st,x,k,v⟩ σ K [] pend ρ t=bxT (gV σ (ev C ρ y)) (fun src=>onT (0<src.length) (fun _=>avT (get ρ s) src bytes z σ (fun u σ1=>onT (reV C σ1 pend) (fun _=>
 kvT (dm st σ1 (ev C (put ρ d u) x)) (fx st (ev C (put ρ d u) k)) (fun kv key=>K (put ρ d u) (gM σ1 st (gQ key (ev C (put ρ d u) v).copy kv) (ev C (put ρ d u) x))) .mk) .mk) .mk) .mk) .mk:=by
 unfold vT bxT onT avT;simp only[xw]
 have inner:∀u σ1,(reV C σ1 pend∧At C ⟨d,T,bytes,z,s,y,st,x,k,v⟩ K (put ρ d u) σ1)=(reV C σ1 pend∧kvT (dm st σ1 (ev C (put ρ d u) x)) (fx st (ev C (put ρ d u) k)) (fun kv key=>K (put ρ d u) (gM σ1 st (gQ key (ev C (put ρ d u) v).copy kv) (ev C (put ρ d u) x))) .mk):=fun u σ1=>by
  unfold At kvT;simp only;cases dm st σ1 (ev C (put ρ d u) x)<;>cases fx st (ev C (put ρ d u) k)<;>simp
 simp only[inner];cases gV σ (ev C ρ y)<;>simp
theorem wQ:reV C σ []=True:=rfl
theorem uM(d:Option Nat)(op:OP)(g:Option (Nat×Bool))(ρ1:al)(v:V)(r:List (O×al×V)):reV C σ ((⟨d,op,g⟩,ρ1,v)::r)=onT (bi C [⟨some 0,op,none⟩] ρ1 σ (fun ρ'=>get ρ' 0=v) .mk) (fun _=>reV C σ r) .mk:=by
 unfold onT bi;simp only[reV,aT,putd];refine propext ⟨fun⟨h1,h2⟩=>⟨eL (fun u hh=>?_) h1,h2⟩,fun⟨h1,h2⟩=>⟨eL (fun u hh=>?_) h1,h2⟩⟩
 ·simpa only[bD,if_true]using hh
 ·simpa only[bD,if_true]using hh
theorem zb(t:Tag Q):dQ C n0 .skip ρ σ Q t=Q .normal ρ σ:=rfl
theorem A0(l:List O)(keep:List Nat)(t:Tag Q):dQ C n0 (.ops l keep) ρ σ Q t=a8 C l ρ σ (fun e ρ' σ'=>Q e (aJ keep ρ') σ') .mk:=rfl
theorem Ay(l:List O)(keep:List Nat)(t:Tag Q):dQ C n0 (.draw l keep) ρ σ Q t=bi C l ρ σ (fun ρ'=>Q .normal (aJ keep ρ') σ) .mk:=rfl
theorem Bx(a b:Cd)(t:Tag Q):dQ C n0 (.seq a b) ρ σ Q t=dQ C n0 a ρ σ (andThen (fun ρ' σ'=>dQ C n0 b ρ' σ' Q .mk) Q) .mk:=rfl
theorem ze(x:X)(a b:Cd)(t:Tag Q):dQ C n0 (.cond x a b) ρ σ Q t=yI (ev C ρ x) (fun c=>li c (fun _=>dQ C n0 a ρ σ Q .mk) (fun _=>dQ C n0 b ρ σ Q .mk) .mk .mk) .mk:=rfl
theorem xS(id:Nat)(a:Cd)(t:Tag Q):dQ C n0 (.block id a) ρ σ Q t=dQ C n0 a ρ σ (jn id Q) .mk:=rfl
theorem zR(id:Nat)(t:Tag Q):dQ C n0 (.exit id) ρ σ Q t=Q (.exit id) ρ σ:=rfl
theorem Cz(t:Tag Q):dQ C n0 .ret ρ σ Q t=Q .ret ρ σ:=rfl
theorem nU(next:al→List (List V)→Prop):andThen next Q .normal ρ σ=next ρ σ:=rfl
theorem vU(next:al→List (List V)→Prop):andThen next Q .ret ρ σ=Q .ret ρ σ:=rfl
theorem te(next:al→List (List V)→Prop)(i:Nat):andThen next Q (.exit i) ρ σ=Q (.exit i) ρ σ:=rfl
theorem pV(next:al→List (List V)→Prop)(v:V):andThen next Q (.panic v) ρ σ=Q (.panic v) ρ σ:=rfl
theorem pN(id:Nat):jn id Q .normal ρ σ=Q .normal ρ σ:=rfl
theorem wZ(id:Nat):jn id Q .ret ρ σ=Q .ret ρ σ:=rfl
theorem vK(id j:Nat):jn id Q (.exit j) ρ σ=if j=id then Q .normal ρ σ else Q (.exit j) ρ σ:=rfl
theorem sy(id:Nat)(v:V):jn id Q (.panic v) ρ σ=Q (.panic v) ρ σ:=rfl
theorem cL{Q':cN}(hq:∀e ρ σ,Q e ρ σ→Q' e ρ σ):∀{l:List O} {ρ:al} {σ:List (List V)},b8 C l ρ σ Q→b8 C l ρ σ Q'
 | [],ρ,σ,h=>hq _ _ _ h
 | o::r,ρ,σ,h=>by
  have step:∀{ρ:al} {K K':al→List (List V)→Prop},(∀ρ σ,K ρ σ→K' ρ σ)→cG C o.op o.dst ρ σ K Q→cG C o.op o.dst ρ σ K' Q':=by
   intro ρ K K' hk hr
   have hout:∀(o':Out) (σ':List (List V)),(match o' with | .ret v=>K (putd ρ o.dst v) σ' | .panic v=>Q (.panic v) ρ σ')→(match o' with | .ret v=>K' (putd ρ o.dst v) σ' | .panic v=>Q' (.panic v) ρ σ'):=by
    intro o' σ' hh;cases o' with
    | ret v=>exact hk _ _ hh
    | panic v=>exact hq _ _ _ hh
   generalize o.op=op at hr ⊢;unfold cG at hr ⊢;cases op<;>(try simp only at hr ⊢)
   case call f args=>exact hr.mono hout
   case callv x args=>generalize ev C ρ x=z at hr ⊢;cases z<;>(try simp only at hr ⊢)<;>first|exact hr.elim|exact hr.mono hout
   case calln f args=>exact hr.mono hout
   case callm x args t=>
    generalize ev C ρ x=z at hr ⊢;generalize get ρ t=z' at hr ⊢;split at hr;case h_2=>exact hr.elim
    refine hr.mono fun o' σ' hh=>?_;cases o' with
    | ret v=>exact hk _ _ hh
    | panic v=>exact hq _ _ _ hh
   case callo f t args=>
    generalize get ρ t=z' at hr ⊢;split at hr;case h_2=>exact hr.elim
    refine hr.mono fun o' σ' hh=>?_;cases o' with
    | ret v=>exact hk _ _ hh
    | panic v=>exact hq _ _ _ hh
   case new T cs=>exact hk _ _ hr
   case box T x=>exact⟨hr.1,hk _ _ hr.2⟩
   case sto k x y=>
    generalize ev C ρ x=z at hr ⊢;cases z<;>(try simp only at hr ⊢)<;>first|exact hr.elim|skip
    rename_i i off;generalize σ[i]? = z at hr ⊢;cases z<;>(try simp only at hr ⊢)<;>first|exact hr.elim|exact⟨hr.1,hk _ _ hr.2⟩
   case stoo x t=>
    generalize ev C ρ x=z at hr ⊢;cases z<;>(try simp only at hr ⊢)<;>first|exact hr.elim|skip
    rename_i i off;generalize get ρ t=z at hr ⊢;cases z<;>(try simp only at hr ⊢)<;>first|exact hr.elim|skip
    generalize σ[i]? = z at hr ⊢;cases z<;>(try simp only at hr ⊢)<;>first|exact hr.elim|exact⟨hr.1,hk _ _ hr.2⟩
   case ldo x=>
    generalize ev C ρ x=z at hr ⊢;cases z<;>(try simp only at hr ⊢)<;>first|exact hr.elim|skip
    rename_i i off;generalize σ[i]? = z at hr ⊢;cases z<;>(try simp only at hr ⊢)<;>first|exact hr.elim|skip
    rename_i cs;generalize cs[off]? = z at hr ⊢;cases z<;>(try simp only at hr ⊢)<;>first|exact hr.elim|skip
    rename_i v;cases v<;>(try simp only at hr ⊢)<;>first|exact hr.elim|exact hk _ _ hr
   case mvo t=>generalize get ρ t=z at hr ⊢;cases z<;>(try simp only at hr ⊢)<;>first|exact hr.elim|exact hk _ _ hr
   case nilo T k=>exact hk _ _ hr
   case app T k b t y=>
    generalize get ρ t=z at hr ⊢;cases z<;>(try simp only at hr ⊢)<;>first|exact hr.elim|skip
    generalize df (ev C ρ y)=z at hr ⊢;cases z<;>(try simp only at hr ⊢)<;>first|exact hr.elim|exact⟨hr.1,hk _ _ hr.2⟩
   case mks T k xs=>generalize ac (xs.map (ev C ρ))=z at hr ⊢;cases z<;>(try simp only at hr ⊢)<;>first|exact hr.elim|exact⟨hr.1,hk _ _ hr.2⟩
   case mkso T k xs=>generalize ac (xs.map (ev C ρ))=z at hr ⊢;cases z<;>(try simp only at hr ⊢)<;>first|exact hr.elim|exact⟨hr.1,hk _ _ hr.2⟩
   case mkc T k bytes x=>
    generalize ev C ρ x=z at hr ⊢;cases z<;>(try simp only at hr ⊢)<;>first|exact hr.elim|skip
    rename_i z;cases z<;>(try simp only at hr ⊢)<;>first|exact hr.elim|skip
    rename_i z;cases z<;>(try simp only at hr ⊢)<;>first|exact hr.elim|exact⟨hr.1,hk _ _ hr.2⟩
   case mkb T bytes q x=>
    generalize ev C ρ x=z at hr ⊢;cases z<;>(try simp only at hr ⊢)<;>first|exact hr.elim|skip
    rename_i z;cases z<;>(try simp only at hr ⊢)<;>first|exact hr.elim|skip
    rename_i z;cases z<;>(try simp only at hr ⊢)<;>first|exact hr.elim|exact⟨hr.1,hk _ _ hr.2⟩
   case pan x=>generalize ev C ρ x=z at hr ⊢;cases z<;>(try simp only at hr ⊢)<;>first|exact hr.elim|exact hq _ _ _ hr
   case mmk st=>exact hk _ _ hr
   case mkv T xs=>generalize eD (xs.map (ev C ρ))=z at hr ⊢;cases z<;>(try simp only at hr ⊢)<;>first|exact hr.elim|exact hk _ _ hr
   case appv T bytes z t y=>
    generalize gV σ (ev C ρ y)=q at hr ⊢;cases q<;>(try simp only at hr ⊢)<;>first|exact hr.elim|exact⟨hr.1,pU (fun v σ' hh=>hk _ _ hh) hr.2⟩
   case mst st x k v=>
    generalize dm st σ (ev C ρ x)=z at hr ⊢;cases z<;>(try simp only at hr ⊢)<;>first|exact hr.elim|skip
    generalize fx st (ev C ρ k)=z at hr ⊢;cases z<;>(try simp only at hr ⊢)<;>first|exact hr.elim|exact hk _ _ hr
   case mdl st x k=>
    generalize dm st σ (ev C ρ x)=z at hr ⊢;cases z<;>(try simp only at hr ⊢)<;>first|exact hr.elim|skip
    generalize fx st (ev C ρ k)=z at hr ⊢;cases z<;>(try simp only at hr ⊢)<;>first|exact hr.elim|exact hk _ _ hr
   case clr z x=>
    generalize ev C ρ x=v at hr ⊢;by_cases he:mV v=true
    ·rw[if_pos he]at hr ⊢;exact hk _ _ hr
    ·rw[if_neg he]at hr ⊢;generalize asB v=q at hr ⊢;cases q with
     | none=>exact hr.elim
     | some q=>
      obtain⟨i,off,n⟩:=q;simp only at hr ⊢;generalize σ[i]? = z at hr ⊢;cases z<;>(try simp only at hr ⊢)<;>first|exact hr.elim|exact⟨hr.1,hk _ _ hr.2⟩
   case cpy x y=>
    generalize asB (ev C ρ x)=q at hr ⊢;cases q with
    | none=>exact hr.elim
    | some q=>
     obtain⟨i,off,n⟩:=q;simp only at hr ⊢;generalize gV σ (ev C ρ y)=z2 at hr ⊢;generalize σ[i]? = z at hr ⊢;cases z<;>cases z2<;>(try simp only at hr ⊢)<;>first|exact hr.elim|exact⟨hr.1,hk _ _ hr.2⟩
   all_goals ((try unfold tyT at hr ⊢);split at hr<;>first|exact hk _ _ hr|exact hr.elim)
  simp only[b8]at h ⊢;cases hg:o.g with
  | none=>rw[hg]at h;exact step (fun _ _ hh=>cL hq hh) h
  | some p=>
   obtain⟨t,want⟩:=p;rw[hg]at h;simp only at h ⊢;split at h
   ·rename_i b hb;exact⟨fun e=>step (fun _ _ hh=>cL hq hh) (h.1 e),fun e=>cL hq (h.2 e)⟩
   ·rename_i hb;exact cL hq h
   ·exact h.elim
theorem kJ{op:OP}{k k':V→Prop}(hk:∀v,k v→k' v)(h:bB C op ρ σ k):bB C op ρ σ k':=by
 obtain⟨v,h1,h2⟩:=eO h;unfold bB at h1 ⊢;split at h1
 ·obtain⟨u,g1,g2⟩:=h1;subst g2;exact⟨u,g1,hk _ h2⟩
 ·split at h1
  ·obtain⟨u,g1,g2⟩:=h1;subst g2;exact⟨u,g1,hk _ h2⟩
  ·exact h1.elim
 ·split at h1
  ·exact⟨h1.1,hk _ (h1.2▸h2)⟩
  ·exact h1.elim
 ·obtain⟨u,g1,g2⟩:=h1;subst g2;exact⟨u,g1,hk _ h2⟩
 ·split at h1
  ·subst h1;exact hk _ h2
  ·exact h1.elim
theorem ch{K K':al→Prop}(hk:∀ρ,K ρ→K' ρ):∀{l:List O} {ρ:al},aT C l ρ σ K→aT C l ρ σ K'
 | [],ρ,h=>hk _ h
 | o::r,ρ,h=>by
  simp only[aT]at h ⊢;cases hg:o.g with
  | none=>rw[hg]at h;exact kJ (fun _ hh=>ch hk hh) h
  | some p=>
   obtain⟨t,want⟩:=p;rw[hg]at h;simp only at h ⊢;split at h
   ·rename_i b hb;exact⟨fun e=>kJ (fun _ hh=>ch hk hh) (h.1 e),fun e=>ch hk (h.2 e)⟩
   ·rename_i hb;exact ch hk h
   ·exact h.elim
theorem d7{K K':al→List (List V)→Prop}{P P':V→List (List V)→Prop}(hk:∀ρ r,K ρ r→K' ρ r)(hp:∀u r,P u r→P' u r):∀{l:List (O×GK)} {m:Nat} {h:List (List (List V))} {p:List PendG} {ρ:al} {σ:List (List V)},cY C P K l m h p ρ σ→cY C P' K' l m h p ρ σ
 | [],_,_,_,_,_,hg=>hk _ _ hg
 | (o,.free _)::r,_,_,_,_,_,hg=>by
  simp only[cY]at hg ⊢;exact ch (fun ρ' hh=>d7 hk hp hh) hg
 | (o,.calm _ _)::r,_,_,_,_,_,hg=>by
  simp only[cY]at hg ⊢;exact ch (fun ρ' hh=>⟨hh.1,d7 hk hp hh.2⟩) hg
 | (o,.slot _)::r,_,_,_,_,_,hg=>by
  simp only[cY]at hg ⊢;exact cL (fun e ρ' σ' hh=>⟨hh.1,d7 hk hp hh.2⟩) hg
 | (⟨d,op,g⟩,.act)::r,m,h,p,ρ,σ,hg=>by
  have call:∀{f:FuncId} {vs:List V},((∃v σ1,Fun C f vs σ (fun o σ'=>o=.ret v∧σ'=σ1)∧reG C (m+1) σ1 p∧cY C P K r (m+1) (σ::h) p (putd ρ d v) σ1)∨(Fun C f vs σ (fun o σ'=>∃u,o=.panic u∧P u σ')∧cX C r m h (putd ρ d .junk) σ))→
   ((∃v σ1,Fun C f vs σ (fun o σ'=>o=.ret v∧σ'=σ1)∧reG C (m+1) σ1 p∧cY C P' K' r (m+1) (σ::h) p (putd ρ d v) σ1)∨(Fun C f vs σ (fun o σ'=>∃u,o=.panic u∧P' u σ')∧cX C r m h (putd ρ d .junk) σ)):=fun{f vs} hh=>by
   rcases hh with⟨v,σ1,h1,h2,h3⟩|⟨h1,h2⟩
   ·exact .inl ⟨v,σ1,h1,h2,d7 hk hp h3⟩
   ·exact .inr ⟨h1.mono fun o σ' ⟨u,e1,e2⟩=>⟨u,e1,hp _ _ e2⟩,h2⟩
  cases op;case call f args=>simp only[cY]at hg ⊢;exact call hg
  case callv x args=>
   simp only[cY]at hg ⊢;obtain⟨f,cap,e,hh⟩:=hg;exact⟨f,cap,e,call hh⟩
  all_goals
   simp only[cY]at hg ⊢;exact cL (fun e ρ' σ' hh=>⟨hh.1,hh.2.1,d7 hk hp hh.2.2⟩) hg
theorem im:∀{c:Cd} {ρ:al} {σ:List (List V)} {Q Q':cN},(∀e ρ σ,Q e ρ σ→Q' e ρ σ)→awp C n0 c ρ σ Q→awp C n0 c ρ σ Q':=by
 intro c
 induction c with
 | skip=>exact fun hq h=>hq _ _ _ h
 | ops l keep=>exact fun hq h=>cL (fun e ρ σ=>hq e _ σ) h
 | raw l es keep=>exact fun hq h pr M0 bm0 w0 id ops n M bm tk a w h1 h2 h3 h4 h5 h6=>wp_mono (h pr M0 bm0 w0 id ops n M bm tk a w h1 h2 h3 h4 h5 h6) (fun e a w hL=>hL.imp fun x ρ σ=>hq x _ σ)
 | draw l keep=>exact fun hq h=>ch (fun ρ=>hq _ _ _) h
 | drawg l keep=>
  intro ρ σ Q Q' hq h;exact d7 (fun ρ σ hh=>hq _ _ _ hh) (fun u σ hh ρ'=>hq _ _ _ (hh ρ')) h
 | drawb s d0 d1 T k bytes y l keep=>
  intro ρ σ Q Q' hq h;simp only[awp,sH]at h ⊢;split at h
  ·refine⟨h.1,h.2.1,ch (fun ρ' hh=>?_) h.2.2⟩;split at hh
   ·exact⟨hh.1,hq _ _ _ hh.2⟩
   ·exact hh.elim
  ·exact h.elim
 | seq a b iha ihb=>
  exact fun hq h=>iha (fun e ρ σ hh=>by
   cases e with
   | normal=>exact ihb hq hh
   | ret=>exact hq _ _ _ hh
   | exit i=>exact hq _ _ _ hh
   | panic v=>exact hq _ _ _ hh) h
 | cond x a b iha ihb=>
  intro ρ σ Q Q' hq h;simp only[awp]at h ⊢;generalize ev C ρ x=z at h ⊢;cases z<;>(try simp only at h ⊢)<;>first|exact h.elim|skip
  rename_i x;cases x<;>(try simp only at h ⊢)<;>first|exact h.elim|skip
  rename_i v;cases v<;>(try simp only at h ⊢)<;>first|exact h.elim|skip
  exact⟨fun e=>iha hq (h.1 e),fun e=>ihb hq (h.2 e)⟩
 | block id a ih=>
  exact fun hq h=>ih (fun e ρ σ hh=>by
   cases e with
   | normal=>exact hq _ _ _ hh
   | ret=>exact hq _ _ _ hh
   | exit i=>
    simp only[jn]at hh ⊢;split
    ·rename_i e;rw[if_pos e]at hh;exact hq _ _ _ hh
    ·rename_i e;rw[if_neg e]at hh;exact hq _ _ _ hh
   | panic v=>exact hq _ _ _ hh) h
 | loop a ih=>
  intro ρ σ Q Q' hq h;obtain⟨ρ1,σ1,h0,I,h1,h2⟩:=h
  exact⟨ρ1,σ1,h0,I,h1,fun m ρ' σ' hI=>ih (fun e ρ σ hh=>by
   cases e with
   | normal=>exact hh
   | ret=>exact hq _ _ _ hh
   | exit i=>exact hq _ _ _ hh
   | panic v=>exact hq _ _ _ hh) (h2 m ρ' σ' hI)⟩
 | exit id=>exact fun hq h=>hq _ _ _ h
 | ret=>exact fun hq h=>hq _ _ _ h
theorem lG{a:Cd}(I:Nat→al→List (List V)→Prop)(m:Nat){ρ1:al}{σ1:List (List V)}(hu:cM n0 ρ σ ρ1 σ1)(h0:I m ρ1 σ1)
 (h:∀m ρ' σ',I m ρ' σ'→awp C n0 a ρ' σ' (andThen (fun ρ'' σ''=>∃m',m'<m∧∃ρ3 σ3,cM n0 ρ'' σ'' ρ3 σ3∧I m' ρ3 σ3) Q)):awp C n0 (.loop a) ρ σ Q:=
 ⟨ρ1,σ1,hu,I,⟨m,h0⟩,h⟩
theorem jq{R R':al→List (List V)→Prop}{Q:cN}(h:∀ρ σ,R ρ σ→R' ρ σ):∀e ρ σ,andThen R Q e ρ σ→andThen R' Q e ρ σ:=fun e ρ σ hh=>by
 cases e with
 | normal=>exact h _ _ hh
 | ret=>exact hh
 | exit i=>exact hh
 | panic v=>exact hh
theorem vw{a:Cd}(I:Nat→al→List (List V)→Prop)(m:Nat){σ1:List (List V)}(hu:Up σ σ1)(h0:I m ρ σ1)
 (h:∀m ρ' σ',I m ρ' σ'→awp C n0 a ρ' σ' (andThen (fun ρ'' σ''=>∃m',m'<m∧∃k,n0≤k∧az k (σ''.take k)=true∧aA k ρ''=true∧I m' ρ'' (σ''.take k)) Q)):awp C n0 (.loop a) ρ σ Q:=
 lG I m (cM.up n0 ρ hu) h0 fun m ρ' σ' hI=>im (jq fun ρ'' σ'' ⟨m',h1,k,h2,h3,h4,h5⟩=>⟨m',h1,ρ'',σ''.take k,.cut h2 h3 h4,h5⟩) (h m ρ' σ' hI)
theorem rg{a:Cd}(ks:List Nat)(I:Nat→al→List (List V)→Prop)(m:Nat){σ1:List (List V)}(hu:Up σ σ1)(h0:I m (aJ ks ρ) σ1)
 (h:∀m ρ' σ',I m ρ' σ'→awp C n0 a ρ' σ' (andThen (fun ρ'' σ''=>∃m',m'<m∧∃k,n0≤k∧az k (σ''.take k)=true∧aA k (aJ ks ρ'')=true∧I m' (aJ ks ρ'') (σ''.take k)) Q)):awp C n0 (.loop a) ρ σ Q:=
 lG I m ((cM.keep n0 ks ρ σ).trans (cM.up n0 _ hu)) h0 fun m ρ' σ' hI=>im (jq fun ρ'' σ'' ⟨m',h1,k,h2,h3,h4,h5⟩=>⟨m',h1,_,σ''.take k,(cM.keep n0 ks ρ'' σ'').trans (.cut h2 h3 h4),h5⟩) (h m ρ' σ' hI)
end
mutual
theorem V.under_mono{k j:Nat}(hj:k≤j):∀v:V,V.under k v=true→V.under j v=true
 | .agg cs,h=>by simp only[V.under]at h ⊢;exact V.unders_mono hj cs h
 | .tup cs,h=>by simp only[V.under]at h ⊢;exact V.unders_mono hj cs h
 | .fn _ cs,h=>by simp only[V.under]at h ⊢;exact V.unders_mono hj cs h
 | .bnd _ cs,h=>by simp only[V.under]at h ⊢;exact V.unders_mono hj cs h
 | .iface _ v,h=>by simp only[V.under]at h ⊢;exact V.under_mono hj v h
 | .ptr i o,h=>by simp only[V.under,decide_eq_true_eq]at h ⊢;omega
 | .bsl i o n m,h=>by simp only[V.under,decide_eq_true_eq]at h ⊢;omega
 | .mp i,h=>by simp only[V.under,decide_eq_true_eq]at h ⊢;omega
 | .bsc i n c,h=>by simp only[V.under,decide_eq_true_eq]at h ⊢;omega
 | .mapc _ kv,h=>by simp only[V.under]at h ⊢;exact V.underkv_mono hj kv h
 | .d _,_=>rfl
 | .own _ _ _,_=>rfl
 | .nil,_=>rfl
 | .row _ _,_=>rfl
 | .junk,_=>rfl
theorem V.unders_mono{k j:Nat}(hj:k≤j):∀cs:List V,V.unders k cs=true→V.unders j cs=true
 | [],_=>rfl
 | x::r,h=>by
  simp only[V.unders,Bool.and_eq_true]at h ⊢;exact⟨V.under_mono hj x h.1,V.unders_mono hj r h.2⟩
theorem V.underkv_mono{k j:Nat}(hj:k≤j):∀kv:List (Key×V),V.underkv k kv=true→V.underkv j kv=true
 | [],_=>rfl
 | (q,x)::r,h=>by
  simp only[V.underkv,V.underp,Bool.and_eq_true]at h ⊢;exact⟨V.under_mono hj x h.1,V.underkv_mono hj r h.2⟩
end
theorem jx{σ:List (List V)}{k j:Nat}(h:az k σ=true)(hj:k≤j):az j σ=true:=by
 unfold az at *;rw[List.all_eq_true]at h ⊢;exact fun cs hcs=>V.unders_mono hj cs (h cs hcs)
theorem aZ{σ l:List (List V)}(h:az σ.length σ=true)(hl:l.all (fun cs=>V.unders (σ++l).length cs)=true):az (σ++l).length (σ++l)=true:=by
 have:=jx h (j:=(σ++l).length) (by simp);unfold az at *;rw[List.all_append,this,hl];rfl
theorem aj{σ σ':List (List V)}{ρ:al}{rs:List RV}{Q:Out→List (List V)→Prop}(hb:az σ.length σ=true){v:V}(h:ll σ' ρ rs=some v)(hv:V.under σ.length v=true)(hσ:σ'.take σ.length=σ)(hq:Q (.ret v) σ):fin σ.length rs Q .ret ρ σ':=
 ⟨ρ,σ',.refl _ _ _,v,h,σ.length,Nat.le_refl _,by rw[hσ];exact hb,hv,by rw[hσ];exact hq⟩
def Nxt(n0:Nat)(R:al→List (List V)→Prop)(ρ:al)(σ:List (List V))(_:Tag R):Prop:=∃k,n0≤k∧az k (σ.take k)=true∧aA k ρ=true∧R ρ (σ.take k)
theorem Nxt.same{n0:Nat}{R:al→List (List V)→Prop}{ρ:al}{σ:List (List V)}(hn:n0≤σ.length)(hb:az σ.length σ=true)(hs:aA σ.length ρ=true)(hR:R ρ σ):Nxt n0 R ρ σ .mk:=
 ⟨σ.length,hn,by rw[List.take_length];exact hb,hs,by rw[List.take_length];exact hR⟩
theorem Nxt.drop{n0:Nat}{R:al→List (List V)→Prop}{ρ:al}{σ l:List (List V)}(hn:n0≤σ.length)(hb:az σ.length σ=true)(hs:aA σ.length ρ=true)(hR:R ρ σ):Nxt n0 R ρ (σ++l) .mk:=
 ⟨σ.length,hn,by rw[List.take_left];exact hb,hs,by rw[List.take_left];exact hR⟩
theorem vF{C:Cx}{n0:Nat}{ρ:al}{σ:List (List V)}{Q:cN}{a:Cd}(R:Nat→al→List (List V)→Prop)(n:Nat){σ1:List (List V)}(hu:Up σ σ1)(h0:R 0 ρ σ1)
 (h:∀j ρ' σ',j≤n→R j ρ' σ'→dQ C n0 a ρ' σ' (andThen (fun ρ'' σ''=>j<n∧Nxt n0 (R (j+1)) ρ'' σ'' .mk) Q) .mk)(t:Tag Q):dQ C n0 (.loop a) ρ σ Q t:=
 vw (fun m ρ σ=>∃j,j≤n∧m=n-j∧R j ρ σ) n hu ⟨0,by omega,by omega,h0⟩ fun m ρ' σ' ⟨j,hj,hm,hR⟩=>by
  have hi:∀e ρ'' σ'',andThen (fun ρ'' σ''=>j<n∧Nxt n0 (R (j+1)) ρ'' σ'' .mk) Q e ρ'' σ''→andThen (fun ρ'' σ''=>∃m',m'<m∧∃k,n0≤k∧az k (σ''.take k)=true∧aA k ρ''=true∧∃j,j≤n∧m'=n-j∧R j ρ'' (σ''.take k)) Q e ρ'' σ'':=by
   intro e ρ'' σ'' h;cases e with
   | normal=>
    obtain⟨h1,k,h2,h3,h4,h5⟩:=h;exact⟨n-(j+1),by omega,k,h2,h3,h4,j+1,by omega,rfl,h5⟩
   | ret=>exact h
   | exit i=>exact h
   | panic v=>exact h
  exact im hi (h j ρ' σ' hj hR)
theorem rN{C:Cx}{n0:Nat}{ρ:al}{σ:List (List V)}{Q:cN}{a:Cd}(ks:List Nat)(R:Nat→al→List (List V)→Prop)(n:Nat){σ1:List (List V)}(hu:Up σ σ1)(h0:R 0 (aJ ks ρ) σ1)
 (h:∀j ρ' σ',j≤n→R j ρ' σ'→dQ C n0 a ρ' σ' (andThen (fun ρ'' σ''=>j<n∧Nxt n0 (R (j+1)) (aJ ks ρ'') σ'' .mk) Q) .mk)(t:Tag Q):dQ C n0 (.loop a) ρ σ Q t:=
 rg ks (fun m ρ σ=>∃j,j≤n∧m=n-j∧R j ρ σ) n hu ⟨0,by omega,by omega,h0⟩ fun m ρ' σ' ⟨j,hj,hm,hR⟩=>by
  have hi:∀e ρ'' σ'',andThen (fun ρ'' σ''=>j<n∧Nxt n0 (R (j+1)) (aJ ks ρ'') σ'' .mk) Q e ρ'' σ''→andThen (fun ρ'' σ''=>∃m',m'<m∧∃k,n0≤k∧az k (σ''.take k)=true∧aA k (aJ ks ρ'')=true∧∃j,j≤n∧m'=n-j∧R j (aJ ks ρ'') (σ''.take k)) Q e ρ'' σ'':=by
   intro e ρ'' σ'' h;cases e with
   | normal=>
    obtain⟨h1,k,h2,h3,h4,h5⟩:=h;exact⟨n-(j+1),by omega,k,h2,h3,h4,j+1,by omega,rfl,h5⟩
   | ret=>exact h
   | exit i=>exact h
   | panic v=>exact h
  exact im hi (h j ρ' σ' hj hR)
theorem bv{C:Cx}{n0:Nat}{ρ:al}{σ:List (List V)}{Q:cN}{a:Cd}(ks:List Nat)(R:Nat→al→List (List V)→Prop)(n:Nat)(h0:R 0 (aJ ks ρ) σ)
 (h:∀j ρ' σ',j≤n→R j ρ' σ'→dQ C n0 a ρ' σ' (andThen (fun ρ'' σ''=>j<n∧Nxt n0 (R (j+1)) (aJ ks ρ'') σ'' .mk) Q) .mk)(t:Tag Q):dQ C n0 (.loop a) ρ σ Q t:=rN ks R n (.refl σ) h0 h t
theorem jP{C:Cx}{n0:Nat}{ρ:al}{σ:List (List V)}{Q:cN}{a:Cd}(R:Nat→al→List (List V)→Prop)(n:Nat)(h0:R 0 ρ σ)
 (h:∀j ρ' σ',j≤n→R j ρ' σ'→dQ C n0 a ρ' σ' (andThen (fun ρ'' σ''=>j<n∧Nxt n0 (R (j+1)) ρ'' σ'' .mk) Q) .mk)(t:Tag Q):dQ C n0 (.loop a) ρ σ Q t:=vF R n (.refl σ) h0 h t
def a7(v:V)(σ:List (List V)):Out→List (List V)→Prop:=fun o σ'=>o=.ret v∧σ'=σ
theorem an{C:Cx}{f:FuncId}{args:List V}{σ:List (List V)}{v:V}{K P:V→List (List V)→Prop}{s:Tag K}{t:Tag P}(h:Fun C f args σ (a7 v σ))(hk:K v σ):pM C f args σ K P s t:=
 h.mono fun o σ' ⟨e1,e2⟩=>by subst e1;subst e2;exact hk
theorem aM{C:Cx}{f:FuncId}{args:List V}{σ:List (List V)}{v:V}{k:V→Prop}{t:Tag k}(h:Fun C f args σ (a7 v σ))(hk:k v):ql C f args σ k t:=⟨v,h,hk⟩
theorem ed{C:Cx}{f:FuncId}{args:List V}{σ:List (List V)}{K P:V→List (List V)→Prop}{s:Tag K}{t:Tag P}{Q:Out→List (List V)→Prop}(h:Fun C f args σ Q)(hk:∀o σ',Q o σ'→w5 K P o σ'):pM C f args σ K P s t:=h.mono hk
theorem ax{C:Cx}{f:FuncId}{fn:Func}{c:Cd}{rs:List RV}{args:List V}{σ:List (List V)}{Q:Out→List (List V)→Prop}(hf:C.P.funcs[f]? = some fn)(hok:bg C.tab fn args.length c rs=true)(hno:args.all (! ·.isOwn)=true)
 (h:az σ.length σ=true→(∀i (h:i<args.length),V.Wf args[i])→dQ C σ.length c (ah 0 args) σ (fin σ.length rs Q) .mk):Fun C f args σ Q:=qM hf hok hno h
section
variable {σ : List (List V)}
theorem wW(rows:List (List D)):lr false (.d (.sl rows))=some (aF .i64 rows.length):=rfl
theorem sr(T k:Nat)(rows:List (List D)):lr false (.own T k rows)=some (aF .i64 rows.length):=rfl
theorem rB:lr false .nil=some (aF .i64 0):=rfl
theorem qS(s:ByteArray):lr true (.d (.lit (.string s)))=some (aF .i64 s.size):=rfl
theorem tH(rows:List (List D)):df (.d (.sl rows))=some rows:=rfl
theorem pq(T k:Nat)(rows:List (List D)):df (.own T k rows)=some rows:=rfl
theorem pd:df .nil=some []:=rfl
theorem BO(k:IntKind)(a b:Int):aY .add (.d (.lit (.int k a))) (.d (.lit (.int k b)))=some (aF k (k.wrap (a+b))):=by simp[aY,bX,gE]
theorem BF(k:IntKind)(a b:Int):aY .sub (.d (.lit (.int k a))) (.d (.lit (.int k b)))=some (aF k (k.wrap (a-b))):=by simp[aY,bX,gE]
theorem Ck(k:IntKind)(a b:Int):aY .mul (.d (.lit (.int k a))) (.d (.lit (.int k b)))=some (aF k (k.wrap (a*b))):=by simp[aY,bX,gE]
theorem Bz(k:IntKind)(a b:Int):aY .quo (.d (.lit (.int k a))) (.d (.lit (.int k b)))=if b=0 then none else some (aF k (k.wrap (a.tdiv b))):=by simp[aY,bX,gE]
theorem Bb(k:IntKind)(a b:Int):aY .rem (.d (.lit (.int k a))) (.d (.lit (.int k b)))=if b=0 then none else some (aF k (a.tmod b)):=by simp[aY,bX,gE]
theorem zv(k:IntKind)(a b:Int):aY .and (.d (.lit (.int k a))) (.d (.lit (.int k b)))=some (aF k (k.wrap (BitVec.ofInt k.bits a &&& BitVec.ofInt k.bits b).toNat)):=by simp only[aY,bX,Bool.false_eq_true,if_false,if_true,gE]
theorem Cj(k:IntKind)(a b:Int):aY .or (.d (.lit (.int k a))) (.d (.lit (.int k b)))=some (aF k (k.wrap (BitVec.ofInt k.bits a ||| BitVec.ofInt k.bits b).toNat)):=by simp only[aY,bX,Bool.false_eq_true,if_false,if_true,gE]
theorem zw(k:IntKind)(a b:Int):aY .xor (.d (.lit (.int k a))) (.d (.lit (.int k b)))=some (aF k (k.wrap (BitVec.ofInt k.bits a ^^^ BitVec.ofInt k.bits b).toNat)):=by simp only[aY,bX,Bool.false_eq_true,if_false,if_true,gE]
theorem Bp(k:IntKind)(a b:Int):aY .eql (.d (.lit (.int k a))) (.d (.lit (.int k b)))=some (av (decide (a=b))):=by simp[aY,bX,gE];rfl
theorem Ch(k:IntKind)(a b:Int):aY .neq (.d (.lit (.int k a))) (.d (.lit (.int k b)))=some (av (!decide (a=b))):=by simp[aY,bX,gE];rfl
theorem Bi(k:IntKind)(a b:Int):aY .lss (.d (.lit (.int k a))) (.d (.lit (.int k b)))=some (av (decide (a<b))):=by simp[aY,bX,gE]
theorem B2(k:IntKind)(a b:Int):aY .leq (.d (.lit (.int k a))) (.d (.lit (.int k b)))=some (av (decide (a≤b))):=by simp[aY,bX,gE]
theorem Cn(k:IntKind)(a b:Int):aY .gtr (.d (.lit (.int k a))) (.d (.lit (.int k b)))=some (av (decide (b<a))):=by simp[aY,bX,gE]
theorem Cb(k:IntKind)(a b:Int):aY .geq (.d (.lit (.int k a))) (.d (.lit (.int k b)))=some (av (decide (b≤a))):=by simp[aY,bX,gE]
theorem yS(k k':IntKind)(a b:Int):aY .shl (.d (.lit (.int k a))) (.d (.lit (.int k' b)))=if b<0 then none else some (aF k (k.wrap (a*2^(min b.toNat k.bits)))):=by simp[aY,bX,qw]
theorem BG(k k':IntKind)(a b:Int):aY .shr (.d (.lit (.int k a))) (.d (.lit (.int k' b)))=if b<0 then none else some (aF k (a.fdiv (2^(min b.toNat k.bits)))):=by simp[aY,bX,qw]
theorem nD(a b:ByteArray):(a.toList==b.toList)=decide (a=b):=by
 rw[ByteArray.toList_eq,ByteArray.toList_eq,Bool.eq_iff_iff];simp only[beq_iff_eq,decide_eq_true_eq];constructor
 ·intro h;cases a;cases b;simp only[ByteArray.mk.injEq];exact Array.toList_inj.1 h
 ·intro h;rw[h]
theorem y9(a b:ByteArray):aY .eql (.d (.lit (.string a))) (.d (.lit (.string b)))=some (av (decide (a=b))):=by simp only[aY,xR,nD]
theorem zV(a b:ByteArray):aY .neq (.d (.lit (.string a))) (.d (.lit (.string b)))=some (av (!decide (a=b))):=by simp only[aY,xR,nD]
theorem ue(a b:ByteArray):aY .add (.d (.lit (.string a))) (.d (.lit (.string b)))=if a.size+b.size≤9223372036854775807 then some (nF (a++b))else none:=rfl
theorem Ah(a b:ByteArray):aY .lss (.d (.lit (.string a))) (.d (.lit (.string b)))=some (av (Op.bytesLess a.toList b.toList)):=rfl
theorem B9:cz [] [] []=some true:=rfl
theorem Bc(k:IntKind)(ks:List Kd)(a b:Int)(r s:List V):cz (.i k::ks) (.d (.lit (.int k a))::r) (.d (.lit (.int k b))::s)=(cz ks r s).map fun z=>decide (a=b)&&z:=by
 simp only[cz,kr,and_self,if_true];cases cz ks r s<;>rfl
theorem Ba(ks:List Kd)(a b:ByteArray)(r s:List V):cz (.s::ks) (.d (.lit (.string a))::r) (.d (.lit (.string b))::s)=(cz ks r s).map fun z=>decide (a=b)&&z:=by
 simp only[cz,kr];cases cz ks r s<;>rfl
theorem Am(ks:List Kd)(a b:Bool)(r s:List V):cz (.b::ks) (.d (.lit (.bool a))::r) (.d (.lit (.bool b))::s)=(cz ks r s).map fun z=>(a==b)&&z:=by
 simp only[cz,kr];cases cz ks r s<;>rfl
theorem sk(neq:Bool):ug neq (.d (.lit .nilIface))=some (av (!neq)):=rfl
theorem wb(neq:Bool)(t:TypeId)(x:V):ug neq (.iface t x)=some (av neq):=rfl
theorem sL(neq:Bool):ut neq (.d (.lit (.pointer none)))=some (av (!neq)):=rfl
theorem qK(neq:Bool)(i o:Nat):ut neq (.ptr i o)=some (av neq):=rfl
theorem zc(f:FuncId)(cs:List V):V.copy (.bnd f cs)=.bnd f cs:=rfl
theorem Al(f:FuncId)(cs:List V):V.lend (.bnd f cs)=.bnd f cs:=rfl
theorem AK(a b:Bool):lD .eql (.d (.lit (.bool a))) (.d (.lit (.bool b)))=some (av (a==b)):=rfl
theorem Af(a b:Bool):lD .neq (.d (.lit (.bool a))) (.d (.lit (.bool b)))=some (av (!(a==b))):=rfl
theorem Bt(b:Bool):unV .not (.d (.lit (.bool b)))=some (av (!b)):=rfl
theorem Bu(k:IntKind)(n:Int):unV .neg (.d (.lit (.int k n)))=some (aF k (k.wrap (0-n))):=rfl
theorem AA(c a b:Bool):fV (.d (.lit (.bool c))) (.d (.lit (.bool a))) (.d (.lit (.bool b)))=some (av (bif c then a else b)):=rfl
theorem rl(b:Bool):fV (.d (.lit (.bool false))) (.tup []) (.d (.lit (.bool b)))=some (av b):=rfl
theorem rJ(a:Bool):fV (.d (.lit (.bool true))) (.d (.lit (.bool a))) (.tup [])=some (av a):=rfl
theorem qP(b:Bool):fV (.d (.lit (.bool false))) .junk (.d (.lit (.bool b)))=some (av b):=rfl
theorem rK(a:Bool):fV (.d (.lit (.bool true))) (.d (.lit (.bool a))) .junk=some (av a):=rfl
theorem uY(off i o:Nat):faV off (.ptr i o)=some (.ptr i (o+off)):=rfl
theorem vX(off:Nat)(cs:List D)(o:Nat):faV off (.row cs o)=some (.row cs (o+off)):=rfl
def iaK(k:Nat)(o:Option (List D)):Option V:=match o with|some r=>if r.length=k then some (.row r 0)else none|none=>none
theorem ky(k:Nat)(r:List D):iaK k (some r)=if r.length=k then some (.row r 0)else none:=rfl
theorem wL(k:Nat)(y:D)(kd:IntKind)(j:Nat):iaV k (.d y) (.d (.lit (.int kd (j:Int))))=(df (.d y)).bind fun rows=>iaK k rows[j]? := by
 unfold iaV;cases h:df (.d y)with
 | none=>simp only[h];rfl
 | some rows=>simp only[h,Option.bind_some,Int.toNat_natCast];rw[if_pos (by omega)];rfl
theorem wI(k T k':Nat)(rows:List (List D))(kd:IntKind)(j:Nat):iaV k (.own T k' rows) (.d (.lit (.int kd (j:Int))))=iaK k rows[j]? := by
 unfold iaV;simp only[df,Int.toNat_natCast];rw[if_pos (by omega)];rfl
theorem tY(k b off n:Nat)(kd:IntKind)(j:Nat):iaV k (.bsl b off n k) (.d (.lit (.int kd (j:Int))))=if j<n then some (.ptr b (off+j*k))else none:=by
 unfold iaV;simp only[Int.toNat_natCast,and_true];by_cases h:j<n
 ·rw[if_pos h,if_pos (by omega)]
 ·rw[if_neg h,if_neg (by omega)]
theorem sI(b off n k:Nat):lr false (.bsl b off n k)=some (aF .i64 n):=rfl
def ixK(o:Option UInt8):Option V:=match o with|some b=>some (aF .u8 b.toNat)|none=>none
theorem um(b:UInt8):ixK (some b)=some (aF .u8 b.toNat):=rfl
theorem uJ(s:ByteArray)(kd:IntKind)(j:Nat):ixV (.d (.lit (.string s))) (.d (.lit (.int kd (j:Int))))=ixK s.data.toList[j]? := by
 simp only[ixV,Int.toNat_natCast];rw[if_pos (by omega)];rfl
theorem yG(c:V):eF false [c]=some c.copy:=rfl
theorem w4(cs:List V):eF true cs=some (.agg (cs.map V.copy)):=rfl
theorem BW(cs:List V)(i:Nat):oX (.tup cs) i=(cs[i]?).map V.copy:=by simp only[oX];cases cs[i]?<;>rfl
theorem z7(k k':IntKind)(n:Int):qu k (.d (.lit (.int k' n)))=some (aF k (k.wrap n)):=rfl
theorem nV(i o:Nat):fT (.ptr i o)=some (.ptr i o):=rfl
theorem nR(cs:List D)(o:Nat):fT (.row cs o)=some (.row cs o):=rfl
theorem om(f:FuncId)(cs:List V):fT (.fn f cs)=some (.fn f cs):=rfl
theorem DH(g:Bool)(k:IntKind)(a b:Int):mxV g (.d (.lit (.int k a))) (.d (.lit (.int k b)))=some (aF k (if g then max a b else min a b)):=by
 have h1:(if b>a then b else a)=max a b:=by rw[Int.max_def];split<;>split<;>omega
 have h2:(if b<a then b else a)=min a b:=by rw[Int.min_def];split<;>split<;>omega
 cases g
 ·simp only[mxV,if_true,Bool.false_eq_true,if_false,h2]
 ·simp only[mxV,if_true,h1]
theorem vd(T t:TypeId)(z u:V):yw T z (.iface t u)=if t=T then some (.tup [u,av true])else some (.tup [z,av false]):=rfl
theorem zJ(rows:List (List D))(k1 k2:IntKind)(a b:Int):qv (.d (.sl rows)) (.d (.lit (.int k1 a))) (.d (.lit (.int k2 b)))=if a=rows.length∧b=rows.length then some (.d (.sl rows))else none:=rfl
theorem sC(T:TypeId)(z:V):yw T z (.d (.lit .nilIface))=some (.tup [z,av false]):=rfl
theorem xv(t:TypeId)(x:D):wF t (.d x)=some (.iface t (.d x)):=rfl
theorem rM(t:TypeId)(cs:List V):wF t (.agg cs)=some (.iface t (.agg (cs.map V.copy))):=rfl
theorem pH(k:Nat)(ag:Bool)(cs:List D)(o:Nat):eR σ k ag (.row cs o)=(if o+k≤cs.length then some (((cs.drop o).take k).map V.d)else none).bind (eF ag):=rfl
def ldK(k:Nat)(ag:Bool)(o:Nat)(b:Option (List V)):Option V:=match b with|some cs=>if o+k≤cs.length∧bJ cs=true then eF ag ((cs.drop o).take k)else(tyL k o cs).bind (eF ag)|none=>none
theorem nP(k:Nat)(ag:Bool)(o:Nat)(cs:List V):ldK k ag o (some cs)=if o+k≤cs.length∧bJ cs=true then eF ag ((cs.drop o).take k)else(tyL k o cs).bind (eF ag):=rfl
theorem kN(k:Nat)(ag:Bool)(i o:Nat):eR σ k ag (.ptr i o)=ldK k ag o σ[i]? := by
 unfold eR gc ldK;simp only;cases σ[i]? with
 | none=>rfl
 | some cs=>simp only;split<;>rfl
theorem wt(l:List (List V))(j:Nat):(σ++l)[σ.length+j]? = l[j]? := by rw[List.getElem?_append_right (by omega)];congr 1;omega
theorem mC(l:List (List V)):(σ++l)[σ.length]? = l[0]? := wt l 0
theorem vY(l:List (List V))(j:Nat)(x:List V):(σ++l).set (σ.length+j) x=σ++l.set j x:=by rw[List.set_append_right _ _ (by omega)];congr 2;omega
theorem xf(l:List (List V))(x:List V):(σ++l).set σ.length x=σ++l.set 0 x:=vY l 0 x
theorem bo{a:Int}(h1 : -9223372036854775808≤a)(h2:a≤9223372036854775807):IntKind.i64.wrap a=a:=by
 simp[IntKind.wrap,IntKind.bits,IntKind.signed];split<;>omega
end
theorem Ao{rows:List (List D)}(h:V.Wf (.d (.sl rows))):rows.length≤9223372036854775807:=by
 cases h with|d h=>cases h with|sl _ h _=>exact h
theorem xc{cs:List V}(h:V.Wf (.agg cs))(i:Nat)(hi:i<cs.length):V.Wf cs[i]:=by
 cases h with|agg h=>exact h i hi
theorem aS{j n:Nat}(h:j<n)(hn:n≤9223372036854775807):IntKind.i64.wrap ((j:Int)+1)=((j+1:Nat):Int):=by
 rw[bo (by omega) (by omega)];rfl
set_option linter.defProp false in
def aw:=And.intro (And.intro (And.intro (And.intro (And.intro (And.intro (And.intro (And.intro @AH @Aq) (And.intro @sL @qK)) (And.intro (And.intro @zc @Al) (And.intro @xO (And.intro @ti @xI)))) (And.intro (And.intro (And.intro @Ag @wQ) (And.intro @uM @y8)) (And.intro (And.intro @vL @vP) (And.intro @yB (And.intro @us @th))))) (And.intro (And.intro (And.intro (And.intro @zY @qI) (And.intro @uT @zp)) (And.intro (And.intro @uK @sF) (And.intro @BM (And.intro @AO @BH)))) (And.intro (And.intro (And.intro @vW @tv) (And.intro @yL (And.intro @lU @lB))) (And.intro (And.intro @qq @yt) (And.intro @uR (And.intro @uP @BI)))))) (And.intro (And.intro (And.intro (And.intro (And.intro @qV @As) (And.intro @xi @zh)) (And.intro (And.intro @xh @Dv) (And.intro @z8 (And.intro @zA @Av)))) (And.intro (And.intro (And.intro @zx @Cv) (And.intro @s6 @sD)) (And.intro (And.intro @xG @rO) (And.intro @xX (And.intro @sP @oK))))) (And.intro (And.intro (And.intro (And.intro @qQ @rr) (And.intro @sO @t7)) (And.intro (And.intro @oh @wy) (And.intro @pY (And.intro @sM @sf)))) (And.intro (And.intro (And.intro @sT @CT) (And.intro @AP (And.intro @Da @C6))) (And.intro (And.intro @z6 @Ac) (And.intro @Co (And.intro @CH @xU))))))) (And.intro (And.intro (And.intro (And.intro (And.intro (And.intro @Bm @zk) (And.intro @Ab @y4)) (And.intro (And.intro @zW @yk) (And.intro @AD (And.intro @oA @yq)))) (And.intro (And.intro (And.intro @zS @yC) (And.intro @sw @rA)) (And.intro (And.intro @yz @BX) (And.intro @zG (And.intro @y6 @AF))))) (And.intro (And.intro (And.intro (And.intro @BL @zJ) (And.intro @vd @sC)) (And.intro (And.intro @C0 @D3) (And.intro @uB (And.intro @xY @tK)))) (And.intro (And.intro (And.intro @xK @rS) (And.intro @sd (And.intro @mL @lp))) (And.intro (And.intro @ri @zo) (And.intro @wD (And.intro @u9 @rW)))))) (And.intro (And.intro (And.intro (And.intro (And.intro @tX @vJ) (And.intro @pS @sp)) (And.intro (And.intro @ov @vu) (And.intro @D5 (And.intro @DZ @zl)))) (And.intro (And.intro (And.intro @AG @A6) (And.intro @A8 (And.intro @zj @B9))) (And.intro (And.intro @Bc @Ba) (And.intro @Am (And.intro @sk @wb))))) (And.intro (And.intro (And.intro (And.intro @C4 @CN) (And.intro @zn @xn)) (And.intro (And.intro @yb @DY) (And.intro @Db (And.intro @DI @C2)))) (And.intro (And.intro (And.intro @DE @BV) (And.intro @AY (And.intro @zZ @Aw))) (And.intro (And.intro @Cf @Bg) (And.intro @Cr (And.intro @zH @Bv)))))))) (And.intro (And.intro (And.intro (And.intro (And.intro (And.intro (And.intro @CK @Au) (And.intro @wR @xT)) (And.intro (And.intro @Cm @Cw) (And.intro @Bh (And.intro @Aa @Bo)))) (And.intro (And.intro (And.intro @Ai @BJ) (And.intro @AZ @zi)) (And.intro (And.intro @vR @Cy) (And.intro @wU (And.intro @B3 @AE))))) (And.intro (And.intro (And.intro (And.intro @xV @BB) (And.intro @xq @B6)) (And.intro (And.intro @zb @A0) (And.intro @Ay (And.intro @Bx @ze)))) (And.intro (And.intro (And.intro @xS @zR) (And.intro @Cz (And.intro @nU @vU))) (And.intro (And.intro @te @pV) (And.intro @pN (And.intro @wZ @vK)))))) (And.intro (And.intro (And.intro (And.intro (And.intro @sy @wW) (And.intro @sr @rB)) (And.intro (And.intro @sI @wI) (And.intro @tY (And.intro @qS @tH)))) (And.intro (And.intro (And.intro @pq @pd) (And.intro @BO @BF)) (And.intro (And.intro @Ck @Bz) (And.intro @Bb (And.intro @zv @Cj))))) (And.intro (And.intro (And.intro (And.intro @zw @Bp) (And.intro @Ch @Bi)) (And.intro (And.intro @B2 @Cn) (And.intro @Cb (And.intro @yS @BG)))) (And.intro (And.intro (And.intro @y9 @zV) (And.intro @ue (And.intro @Ah @AK))) (And.intro (And.intro @Af @Bt) (And.intro @Bu (And.intro @AA @rl))))))) (And.intro (And.intro (And.intro (And.intro (And.intro (And.intro @rJ @po) (And.intro @ve @qP)) (And.intro (And.intro @rK @uY) (And.intro @vX (And.intro @ky @wL)))) (And.intro (And.intro (And.intro @um @uJ) (And.intro @yG @w4)) (And.intro (And.intro @BW @z7) (And.intro @nV (And.intro @nR @om))))) (And.intro (And.intro (And.intro (And.intro @DH @xv) (And.intro @rM @pH)) (And.intro (And.intro @nP @kN) (And.intro @wt (And.intro @mC @vY)))) (And.intro (And.intro (And.intro @xf @Option.bind_some.{0,0}) (And.intro @Option.map_some.{0,0} (And.intro @Option.map_none.{0,0} @List.getElem?_map.{0,0}))) (And.intro (And.intro @List.length_map.{0,0} @List.length_append.{0}) (And.intro @List.append_assoc.{0} (And.intro @List.cons_append.{0} @List.nil_append.{0})))))) (And.intro (And.intro (And.intro (And.intro (And.intro @List.drop_succ_cons.{0} @List.drop_zero.{0}) (And.intro @List.take_succ_cons.{0} @List.take_zero.{0})) (And.intro (And.intro @List.length_cons.{0} @List.length_nil.{0}) (And.intro @List.getElem?_cons_zero.{0} (And.intro @List.getElem?_cons_succ.{0} @List.set_cons_zero.{0})))) (And.intro (And.intro (And.intro @List.set_cons_succ.{0} @Nat.zero_add) (And.intro @and_true (And.intro @true_and @true_implies))) (And.intro (And.intro @not_true_eq_false @not_false_eq_true) (And.intro @false_implies (And.intro @Bool.not_true @Bool.not_false))))) (And.intro (And.intro (And.intro (And.intro @List.contains_cons.{0} @List.contains_nil.{0}) (And.intro @List.map_cons.{0,0} @List.map_nil.{0,0})) (And.intro (And.intro @Bool.or_false @Bool.false_or) (And.intro @Bool.or_true (And.intro @Bool.true_or @Bool.false_eq_true)))) (And.intro (And.intro (And.intro @Bool.true_eq_false @xd) (And.intro @uf (And.intro @Bool.not_not @decide_not))) (And.intro (And.intro @List.all_cons.{0} @List.all_nil.{0}) (And.intro @Bool.and_true (And.intro @List.getD_cons_zero.{0} @List.getD_cons_succ.{0}))))))))
end Go.Proofs.YtcbahpllcfbkmaaGreatDoor
namespace Go.Proofs.YtcbahpllcfbkmaaGreatDoor
open Go.RowKit
section
variable {C : Cx} {pr : Prot} {n n0 : Nat}
end
end Go.Proofs.YtcbahpllcfbkmaaGreatDoor
