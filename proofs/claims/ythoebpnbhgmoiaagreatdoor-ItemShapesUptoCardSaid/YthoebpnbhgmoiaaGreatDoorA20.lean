import Derived.Test.YthoebpnbhgmoiaaGreatDoorA18
import Derived.Orders
import Derived.RowKit
import Derived.Recover
open And renaming intro→JH
open Array renaming getD_eq_getD_getElem?→JI,getElem?_eq_getElem→JJ,replicate→JK,getElem?_toList→JL,all_toList→JM
open Bool renaming and_eq_true→JO,false_eq_true→JP,not_eq_true'→JQ,not_false→JR,and_true→JS
open Int renaming toNat_natCast→JT
open List renaming getElem_append_right→JU,getElem?_eq_getElem→JV,getElem_cons_zero→JW,getElem_mem→JX,all_eq_true→JY,mem_filter→JZ,getD_eq_getElem?_getD→J0,getElem_append_left→J1,getElem_cons_succ→J2,filter_eq_nil_iff→J3,take_length→J4,length_set→J5,all_append→J6,take_left→J7,mapM_cons→J8
open Nat renaming sub_self→J9,strongRecOn→Ka,zero_add→Kb,le_refl→Kc
open Option renaming getD_some→Ke,map_some→Kf
namespace Go.Proofs.YthoebpnbhgmoiaaGreatDoor
open Go.RowKit
section
variable {C : Cx} {pr : Prot} {n : Nat} {Q : AEx → ai → List (List V) → Prop}
theorem yu{M0:ax}{bm0:List Nat}{w0:World}{id:Nat}{ops:Array Oper}{M:ax}{bm:List Nat}{tk:bq}{a:Act}{w:World}(R:(Nat→Bool)→ai→List (List V)→Prop){ρ0:ai}{σ0:List (List V)}
 (hlt:∀(i:Nat) (o:Oper),ops.toList[i]? = some o→∀j∈aD o,j<i)
 (hext:∀S S' ρ σ,(∀j,j<ops.size→S j=S' j)→R S ρ σ→R S' ρ σ)
 (hl:Later M0 bm0 pr w0 M bm w)(h:SRel M bm tk pr ρ0 σ0 n a w)(h0:R (fun _=>false) ρ0 σ0)
 (hq:∀ρ σ,R (fun _=>true) ρ σ→∃ρ2,Q .normal ρ2 σ∧∀t,get ρ t=get ρ2 t)
 (step:∀(S:Nat→Bool) (i:Nat) (o:Oper),ops.toList[i]? = some o→S i=false→(∀(j:Nat) (p:Oper),ops.toList[j]? = some p→S j=true→∀e∈aD p,S e=true)→(∀e∈aD o,S e=true)→
   ∀(M:ax) (bm:List Nat) (tk:bq) (a:Act) (w:World) (ρ:ai) (σ:List (List V)),Later M0 bm0 pr w0 M bm w→R S ρ σ→SRel M bm tk pr ρ σ n a w→
    if Region.wanted o (yielded ops a.tmps)then o.wp C.P a w (fV M bm pr w n (R fun j=>j==i||S j)) (bw M bm pr w n fun _ _ _=>False)
    else ∃ρ',R (fun j=>j==i||S j) ρ' σ∧SRel M bm tk pr ρ' σ n (a.put o.dst undef) w):
 (Code.region id ops true).wp C.P (bw M0 bm0 pr w0 n Q) a w:=by
 refine wp_region_any C.mixed ?_
 suffices H:∀(fuel:Nat) (listed:Array Bool) (M:ax) (bm:List Nat) (tk:bq) (a:Act) (w:World) (ρ:ai) (σ:List (List V)),Later M0 bm0 pr w0 M bm w→R (fun i=>listed.getD i false) ρ σ→SRel M bm tk pr ρ σ n a w→listed.size=ops.size→
  (∀(i:Nat) (o:Oper),ops.toList[i]? = some o→listed.getD i false=true→∀j∈aD o,listed.getD j false=true)→(listed.toList.filter (! ·)).length=fuel→wpAny C.P .any ops (bw M0 bm0 pr w0 n Q) fuel listed a w by
  obtain⟨h1,h2⟩:=h.ext (cH.drew w)
  have hrep:∀j,(JK ops.size false).getD j false=false:=fun j=>by
   simp only[JI,Array.getElem?_replicate];split<;>rfl
  refine H ops.size (JK ops.size false) M bm tk a w.drew ρ0 σ0 (hl.trans h2 (fun _ h=>h)) (hext _ _ _ _ (fun j _=>(hrep j).symm) h0) h1 (by simp) (fun i o ho hi=>?_) (by simp)
  ·rw[hrep]at hi;cases hi
 intro fuel
 induction fuel with
 | zero=>
  intro listed M bm tk a w ρ σ hl hR h hsz hcl hcnt
  have hall:∀i,i<ops.size→listed.getD i false=true:=fun i hi=>by
   have hb:listed[i]? = some (listed[i]'(by omega)):=JJ _;rw[JI,hb,Ke];have hne:listed.toList.filter (! ·)=[]:=List.eq_nil_of_length_eq_zero hcnt;have:=List.filter_eq_nil_iff.1 hne (listed[i]'(by omega)) (by simp);simpa using this
  obtain⟨ρ2,q1,q2⟩:=hq _ _ (hext _ _ _ _ hall hR);refine⟨?_,M,bm,tk,ρ2,σ,.normal,q1,.normal,h.congr fun t=>(q2 t).symm,hl⟩
  ·unfold Region.ready;rw[J3];intro i hi;have hi':i<ops.size:=by simpa using hi
   have h9:=hall i hi'
   have:listed.getD i true=true:=by
    have hb:listed[i]? = some (listed[i]'(by omega)):=JJ _;rw[JI,hb,Ke]at h9 ⊢;exact h9
   simp[this]
 | succ fuel ih=>
  intro listed M bm tk a w ρ σ hl hR h hsz hcl hcnt;refine⟨fun hnil=>?_,fun i hi=>?_⟩
  ·exfalso
   have hex:∃i,i<ops.size∧listed.getD i false=false:=by
    apply Classical.byContradiction;intro hno
    have hne:listed.toList.filter (! ·)=[]:=by
     rw[J3];intro b hb;obtain⟨i,hi,rfl⟩:=List.getElem_of_mem hb;have hi':i<listed.size:=by simpa using hi
     have h9:¬listed.getD i false=false:=fun e=>hno ⟨i,by omega,e⟩;have hb:listed[i]? = some listed[i]:=JJ hi';rw[JI,hb,Ke]at h9;simpa using h9
    rw[hne]at hcnt;simp at hcnt
   have hmin:∃i,i<ops.size∧listed.getD i false=false∧∀j,j<i→listed.getD j false=true:=by
    obtain⟨i,h1,h2⟩:=hex
    induction i using Ka with
    | _ i ihm=>
    by_cases hj:∃j,j<i∧listed.getD j false=false
    ·obtain⟨j,g1,g2⟩:=hj;exact ihm j g1 (by omega) g2
    ·exact⟨i,h1,h2,fun j hji=>by
      cases hb:listed.getD j false with
      | true=>rfl
      | false=>exact absurd ⟨j,hji,hb⟩ hj⟩
   obtain⟨i,h1,h2,h3⟩:=hmin;have hio:i<ops.toList.length:=by simpa using h1
   have:i∈Region.ready .any ops listed:=by
    unfold Region.ready;rw[JZ];refine⟨by simp;omega,?_⟩
    have ht:listed.getD i true=false:=by
     have hb:listed[i]? = some (listed[i]'(by omega)):=JJ _;rw[JI,hb,Ke]at h2 ⊢;exact h2
    have ho:ops[i]? = some (ops[i]'(by omega)):=JJ _;rw[ht,ho];simp only[JR,Bool.true_and,Kf,Ke];rw[←JM,JY];intro e he;cases hb:Region.binds .any e with
    | false=>rfl
    | true=>
     have:e.on∈aD (ops[i]'(by omega)):=by
      unfold aD;exact List.mem_map.2 ⟨e,List.mem_filter.2 ⟨he,hb⟩,rfl⟩
     simp[h3 e.on (hlt i _ (by rw[JV hio];simp) e.on this)]
   rw[hnil]at this;cases this
  ·unfold Region.ready at hi;rw[JZ]at hi;obtain⟨hir,hic⟩:=hi;have hi1:i<ops.size:=by simpa using hir
   have ho:ops[i]? = some ops[i]:=JJ hi1;have hoL:ops.toList[i]? = some ops[i]:=by rw[JL];exact ho
   rw[ho]at hic;simp only[Kf,Ke,JO,JQ]at hic;obtain⟨hun,hed⟩:=hic
   have hun':listed[i]? = some false:=by
    have hb:listed[i]? = some (listed[i]'(by omega)):=JJ _;rw[JI,hb,Ke]at hun;rw[hb,hun]
   have hunf:listed.getD i false=false:=by rw[JI,hun'];rfl
   have hedge:∀j∈aD ops[i],listed.getD j false=true:=by
    intro j hj;unfold aD at hj;obtain⟨e,he,rfl⟩:=List.mem_map.1 hj;rw[JZ]at he;rw[←JM,JY]at hed;have:=hed e he.1;simpa[he.2]using this
   have hset:∀j,(listed.setIfInBounds i true).getD j false=(j==i||listed.getD j false):=fun j=>by
    rw[JI,JI];by_cases e:j=i
    ·subst e;rw[Array.getElem?_setIfInBounds_self_of_lt (by omega)];simp
    ·rw[Array.getElem?_setIfInBounds_ne (Ne.symm e)];simp[e]
   have hnextcl:∀(q:Nat) (o:Oper),ops.toList[q]? = some o→(listed.setIfInBounds i true).getD q false=true→∀j∈aD o,(listed.setIfInBounds i true).getD j false=true:=by
    intro q o hqo hql j hj;rw[hset]at hql ⊢;simp only[Bool.or_eq_true,beq_iff_eq]at hql ⊢;rcases hql with rfl|hql
    ·rw[hoL]at hqo;cases hqo;exact .inr (hedge j hj)
    ·exact .inr (hcl q o hqo hql j hj)
   have hnextc:((listed.setIfInBounds i true).toList.filter (! ·)).length=fuel:=by
    have:=gB listed.toList i (by rw[JL];exact hun');rw[Array.toList_setIfInBounds];omega
   have hst:=step (fun j=>listed.getD j false) i ops[i] hoL hunf hcl hedge M bm tk a w ρ σ hl hR h;unfold wpOp;rw[ho];simp only;split at hst
   ·rename_i hw;rw[if_pos hw];refine .inl (Oper.wp_mono2 (fun a' w' hL=>?_) (fun e a' w' hL=>?_) hst)
    ·obtain⟨M',bm',tk',ρ',σ',k0,k2,k3⟩:=hL;exact ih _ M' bm' tk' a' w' ρ' σ' (hl.trans k3 (fun _ h=>h)) (hext _ _ _ _ (fun j _=>(hset j).symm) k0) k2 (by simp[hsz]) hnextcl hnextc
    ·obtain⟨_,_,_,_,_,_,hf,_⟩:=hL;exact hf.elim
   ·rename_i hw;rw[if_neg hw];obtain⟨ρ',k0,k2⟩:=hst;exact ih _ M bm tk _ w ρ' σ hl (hext _ _ _ _ (fun j _=>(hset j).symm) k0) k2 (by simp[hsz]) hnextcl hnextc
structure AV where
 d:Nat
 T:Nat
 bytes:Nat
 z:V
 s:Nat
 y:X
 st:Bool
 x:X
 k:X
 v:X
def reV(C:Cx)(σ1:List (List V)):List (O×ai×V)→Prop
 | []=>True
 | (o,ρ,v)::r=>aP C o.op ρ σ1 (fun u=>u=v)∧reV C σ1 r
def DV(C:Cx)(p:AV)(K:ai→List (List V)→Prop)(ρ:ai)(σ1:List (List V)):Prop:=
 ∃kv key,eo p.st σ1 (ev C ρ p.x)=some kv∧gJ p.st (ev C ρ p.k)=some key∧K ρ (jl σ1 p.st (iz key (ev C ρ p.v).copy kv) (ev C ρ p.x))
def BN(C:Cx)(p:AV)(σ:List (List V))(K:ai→List (List V)→Prop):List O→List (O×ai×V)→ai→Prop
 | [],pend,ρ=>∃src,jx σ (ev C ρ p.y)=some src∧0<src.length∧lH σ (get ρ p.s) src p.bytes p.z fun u σ1=>reV C σ1 pend∧DV C p K (put ρ p.d u) σ1
 | o::r,pend,ρ=>o.g=none∧aP C o.op ρ σ fun v=>BN C p σ K r ((o,ρ,v)::pend) (putd ρ o.dst v)
end
end Go.Proofs.YthoebpnbhgmoiaaGreatDoor
namespace Go.Proofs.YthoebpnbhgmoiaaGreatDoor
open Go.RowKit
def dy(n0:Nat)(ρ:ai)(σ:List (List V))(ρ':ai)(σ':List (List V)):Prop:=
 ∀(M:ax) (bm:List Nat) (tk:bq) (pr:Prot) (n:Nat) (a:Act) (w:World),SRel M bm tk pr ρ σ n a w→
  ∃M' bm',SRel M' bm' tk pr ρ' σ' n a w∧∀M0 bm0 w0,bm0.length=n0→Later M0 bm0 pr w0 M bm w→Later M0 bm0 pr w0 M' bm' w
theorem dy.refl(n0:Nat)(ρ:ai)(σ:List (List V)):dy n0 ρ σ ρ σ:=fun M bm _ _ _ _ _ h=>⟨M,bm,h,fun _ _ _ _ h=>h⟩
theorem dy.trans{n0:Nat}{ρ ρ' ρ'':ai}{σ σ' σ'':List (List V)}(h:dy n0 ρ σ ρ' σ')(k:dy n0 ρ' σ' ρ'' σ''):dy n0 ρ σ ρ'' σ'':=fun M bm tk pr n a w hs=>by
 obtain⟨M1,b1,h1,h2⟩:=h M bm tk pr n a w hs;obtain⟨M2,b2,h3,h4⟩:=k M1 b1 tk pr n a w h1;exact⟨M2,b2,h3,fun M0 bm0 w0 e hl=>h4 M0 bm0 w0 e (h2 M0 bm0 w0 e hl)⟩
theorem dy.keep(n0:Nat)(l:List Nat)(ρ:ai)(σ:List (List V)):dy n0 ρ σ (aN l ρ) σ:=fun M bm _ _ _ _ _ h=>⟨M,bm,h.keep l,fun _ _ _ _ h=>h⟩
theorem dy.cut{n0 k:Nat}{ρ:ai}{σ:List (List V)}(hk:n0≤k)(h1:ay k (σ.take k)=true)(h2:aq k ρ=true):dy n0 ρ σ ρ (σ.take k):=fun M bm _ _ _ _ _ h=>
 ⟨M,bm.take k,h.drop h1 h2,fun _ _ _ e hl=>hl.drop (by omega)⟩
section
variable {M : ax} {bm : List Nat} {tk : bq} {pr : Prot} {ρ : ai} {σ : List (List V)} {n : Nat} {a : Act} {w : World} {k : Nat}
end
end Go.Proofs.YthoebpnbhgmoiaaGreatDoor
namespace Go.Proofs.YthoebpnbhgmoiaaGreatDoor
open Go.RowKit
inductive Cd where
 | skip
 | ops (l:List O) (keep:List Nat)
 | draw (l:List O) (keep:List Nat)
 | drawa (l:List O) (keep:List Nat)
 | draws (l:List O) (keep:List Nat)
 | drawb (s d0 d1 T k bytes:Nat) (y:X) (l:List O) (keep:List Nat)
 | drawg (l:List (O×GK)) (keep:List Nat)
 | raw (l:List O) (es:List (List Nat)) (keep:List Nat)
 | seq (a b:Cd)
 | cond (x:X) (a b:Cd)
 | block (id:Nat) (a:Cd)
 | loop (a:Cd)
 | exit (id:Nat)
 | ret
abbrev dG:=AEx→ai→List (List V)→Prop
def andThen(next:ai→List (List V)→Prop)(Q:dG):dG:=fun e ρ σ=>match e with
 | .normal=>next ρ σ
 | e=>Q e ρ σ
def lD(id:Nat)(Q:dG):dG:=fun e ρ σ=>match e with
 | .exit j=>if j=id then Q .normal ρ σ else Q (.exit j) ρ σ
 | e=>Q e ρ σ
inductive Up:List (List V)→List (List V)→Prop
 | refl (σ:List (List V)):Up σ σ
 | step {σ σ':List (List V)} {i:Nat} {cs:List V} {off:Nat} (T:TypeId) (k:Nat) (h1:σ[i]? = some cs) (h2:cs[off]? = some .nil) (h:Up (σ.set i (cs.set off (.own T k []))) σ'):Up σ σ'
theorem SRel.nil_own{M:ax}{bm:List Nat}{tk:bq}{pr:Prot}{ρ:ai}{σ:List (List V)}{n:Nat}{a:Act}{w:World}(h:SRel M bm tk pr ρ σ n a w){i:Nat}{cs:List V}{off:Nat}(T:TypeId)(k:Nat)(h1:σ[i]? = some cs)(h2:cs[off]? = some .nil):SRel M bm tk pr ρ (σ.set i (cs.set off (.own T k []))) n a w:=by
 refine⟨⟨h.inv.facts,by rw[J5];exact h.inv.len,fun i' b cs' hi hc=>?_,h.inv.free,h.inv.bmnd,h.inv.tok,h.inv.inj,h.inv.prlt⟩,h.defers,h.size,h.slots⟩;by_cases e:i'=i
 ·subst e;obtain⟨vs,T',g1,g2,g3⟩:=(h.inv.box i' b cs hi h1).resolve_right fun⟨st,kv,es,clock,e,_⟩=>by subst e;cases off<;>simp at h2
  have hl:i'<σ.length:=(List.getElem?_eq_some_iff.1 h1).1;rw[List.getElem?_set_self hl]at hc;cases hc;refine .inl ⟨vs,T',g1,by rw[J5];exact g2,fun j hj hj'=>?_⟩;have hj0:j<cs.length:=by simpa using hj
  obtain⟨k1,k2⟩:=g3 j hj0 hj';by_cases e2:j=off
  ·subst e2;have hn:cs[j]=.nil:=(List.getElem?_eq_some_iff.1 h2).2;rw[List.getElem_set_self];refine⟨?_,k2⟩;have hr:=k1.rep;rw[hn]at hr;generalize vs[j]=v at hr ⊢;cases hr;exact⟨.own (DRep.nil M),fun T2 k2 rows e=>by cases e;exact .inl ⟨rfl,rfl⟩⟩
  ·rw[List.getElem_set_ne (Ne.symm e2)];exact⟨k1,k2⟩
 ·rw[List.getElem?_set_ne (Ne.symm e)]at hc;exact h.inv.box i' b cs' hi hc
theorem SRel.up{M:ax}{bm:List Nat}{tk:bq}{pr:Prot}{ρ:ai}{σ σ':List (List V)}{n:Nat}{a:Act}{w:World}(hu:Up σ σ')(h:SRel M bm tk pr ρ σ n a w):SRel M bm tk pr ρ σ' n a w:=by
 induction hu with
 | refl σ=>exact h
 | step T k h1 h2 _ ih=>exact ih (h.nil_own T k h1 h2)
theorem dy.up(n0:Nat)(ρ:ai){σ σ':List (List V)}(hu:Up σ σ'):dy n0 ρ σ ρ σ':=fun M bm _ _ _ _ _ h=>⟨M,bm,h.up hu,fun _ _ _ _ h=>h⟩
def ui(C:Cx)(n0:Nat)(l:List O)(es:List (List Nat))(ρ:ai)(σ:List (List V))(Q:dG):Prop:=
 ∀(pr:Prot) (M0:ax) (bm0:List Nat) (w0:World) (id:Nat) (ops:Array Oper) (n:Nat) (M:ax) (bm:List Nat) (tk:bq) (a:Act) (w:World),C.glob M0 pr w0→bm0.length=n0→ft C.tab n ops l ops.toList=true→ops.toList.map aD=es→
  Later M0 bm0 pr w0 M bm w→SRel M bm tk pr ρ σ n a w→(Code.region id ops true).wp C.P (bw M0 bm0 pr w0 n Q) a w
def awp(C:Cx)(n0:Nat):Cd→ai→List (List V)→dG→Prop
 | .skip,ρ,σ,Q=>Q .normal ρ σ
 | .ops l keep,ρ,σ,Q=>cl C l ρ σ fun e ρ' σ'=>Q e (aN keep ρ') σ'
 | .draw l keep,ρ,σ,Q=>bg C l ρ σ fun ρ'=>Q .normal (aN keep ρ') σ
 | .drawa l keep,ρ,σ,Q=>∃(c:Cell) (cs:List V),σ[c.i]? = some cs∧cs[c.off]? = some (.own c.T c.k c.rows)∧
  co C c σ (σ.set c.i (cs.set c.off (.d (.sl c.rows)))) l ρ none fun ρ' rows2=>Q .normal (aN keep ρ') ((σ.set c.i (cs.set c.off (.d (.sl c.rows)))).set c.i (over (cs.set c.off (.d (.sl c.rows))) c.off [.own c.T c.k (c.rows++rows2)]))
 | .draws l keep,ρ,σ,Q=>fq C σ l ρ none fun ρ' σ'=>Q .normal (aN keep ρ') σ'
 | .drawb s d0 d1 T k bytes y l keep,ρ,σ,Q=>vg C s d0 d1 T k bytes y l ρ σ fun ρ'=>Q .normal (aN keep ρ') σ
 | .drawg l keep,ρ,σ,Q=>dR C (fun u σ'=>∀ρ',Q (.panic u) (aN keep ρ') σ') (fun ρ' σ'=>Q .normal (aN keep ρ') σ') l 0 [] [] ρ σ
 | .raw l es keep,ρ,σ,Q=>ui C n0 l es ρ σ fun e ρ' σ'=>Q e (aN keep ρ') σ'
 | .seq a b,ρ,σ,Q=>awp C n0 a ρ σ (andThen (fun ρ' σ'=>awp C n0 b ρ' σ' Q) Q)
 | .cond x a b,ρ,σ,Q=>match ev C ρ x with
  | .d (.lit (.bool t))=>(t=true→awp C n0 a ρ σ Q)∧(t=false→awp C n0 b ρ σ Q)
  | _=>False
 | .block id a,ρ,σ,Q=>awp C n0 a ρ σ (lD id Q)
 | .loop a,ρ,σ,Q=>∃(ρ1:ai) (σ1:List (List V)),dy n0 ρ σ ρ1 σ1∧∃I:Nat→ai→List (List V)→Prop,(∃m,I m ρ1 σ1)∧∀m ρ' σ',I m ρ' σ'→awp C n0 a ρ' σ' (andThen (fun ρ'' σ''=>∃m',m'<m∧∃ρ3 σ3,dy n0 ρ'' σ'' ρ3 σ3∧I m' ρ3 σ3) Q)
 | .exit id,ρ,σ,Q=>Q (.exit id) ρ σ
 | .ret,ρ,σ,Q=>Q .ret ρ σ
def okC(tab:Tab)(n:Nat):Cd→Code→Bool
 | .skip,.skip=>true
 | .ops l _,.region _ ops false=>ft tab n ops l ops.toList
 | .draw l _,.region _ ops true=>ft tab n ops l ops.toList&&mO l ops.toList
 | .drawa l _,.region _ ops true=>ft tab n ops l ops.toList&&mn l ops.toList
 | .draws l _,.region _ ops true=>ft tab n ops l ops.toList&&mo l ops.toList
 | .drawb s d0 d1 T k bytes y l _,.region _ ops true=>ft tab n ops (bL s d0 d1 T k bytes y l) ops.toList&&jQ s d0 d1 y l ops.toList
 | .drawg l _,.region _ ops true=>ft tab n ops (l.map (·.1)) ops.toList&&kr l ops.toList
 | .raw l es _,.region _ ops true=>ft tab n ops l ops.toList&&(ops.toList.map aD==es)
 | .seq a b,.seq a' b'=>okC tab n a a'&&okC tab n b b'
 | .cond x a b,.cond x' a' b'=>okX x x'&&okC tab n a a'&&okC tab n b b'
 | .block i a,.block i' a'=>i==i'&&okC tab n a a'
 | .loop a,.loop a'=>okC tab n a a'
 | .exit i,.exit i'=>i==i'
 | .ret,.ret=>true
 | _,_=>false
section
variable {C : Cx} {n0 n : Nat} {pr : Prot} {M0 : ax} {bm0 : List Nat} {w0 : World}
theorem bw.imp{M:ax}{bm:List Nat}{w:World}{Q Q':dG}{e:Exit}{a:Act}{w':World}(hq:∀x ρ σ,Q x ρ σ→Q' x ρ σ)(h:bw M bm pr w n Q e a w'):bw M bm pr w n Q' e a w':=by
 obtain⟨M',bm',tk',ρ',σ',x,h1,h2⟩:=h;exact⟨M',bm',tk',ρ',σ',x,hq _ _ _ h1,h2⟩
theorem bw.keep{M:ax}{bm:List Nat}{w:World}{Q:dG}{l:List Nat}{e:Exit}{a:Act}{w':World}(h:bw M bm pr w n (fun x ρ σ=>Q x (aN l ρ) σ) e a w'):bw M bm pr w n Q e a w':=by
 obtain⟨M',bm',tk',ρ',σ',x,h1,h2,h3,h4⟩:=h;exact⟨M',bm',tk',_,σ',x,h1,h2,h3.keep l,h4⟩
theorem vG(hG:C.glob M0 pr w0)(hn0:bm0.length=n0):∀{c:Cd} {c':Code} {M:ax} {bm:List Nat} {tk:bq} {ρ:ai} {σ:List (List V)} {a:Act} {w:World} {Q:dG},okC C.tab n c c'=true→Later M0 bm0 pr w0 M bm w→SRel M bm tk pr ρ σ n a w→
 awp C n0 c ρ σ Q→c'.wp C.P (bw M0 bm0 pr w0 n Q) a w:=by
 intro c
 induction c with
 | skip=>
  intro c' M bm tk ρ σ a w Q hok hl h hq;cases c'<;>simp only[okC]at hok<;>first|(cases hok;done)|skip
  exact wp_skip ⟨M,bm,tk,ρ,σ,_,hq,.normal,h,hl⟩
 | ops l keep=>
  intro c' M bm tk ρ σ a w Q hok hl h hq;cases c' with
  | region id ops draw=>
   cases draw with
   | false=>
    have hok:ft C.tab n ops l ops.toList=true:=hok;exact wp_mono (wp_region_list (fx hG hok hl h hq)) (fun e a w hL=>bw.keep (l:=keep) hL)
   | true=>cases hok
  | _=>cases hok
 | draw l keep=>
  intro c' M bm tk ρ σ a w Q hok hl h hq;cases c' with
  | region id ops draw=>
   cases draw with
   | true=>
    have hok:(ft C.tab n ops l ops.toList&&mO l ops.toList)=true:=hok;simp only[JO]at hok;exact wp_mono (sJ (Q:=fun x ρ σ=>Q x (aN keep ρ) σ) hG hok.1 hok.2 hl h hq) (fun e a w hL=>bw.keep (l:=keep) hL)
   | false=>cases hok
  | _=>cases hok
 | drawa l keep=>
  intro c' M bm tk ρ σ a w Q hok hl h hq;cases c' with
  | region id ops draw=>
   cases draw with
   | true=>
    have hok:(ft C.tab n ops l ops.toList&&mn l ops.toList)=true:=hok;simp only[JO]at hok;obtain⟨c,cs,h1,h2,h3⟩:=hq;exact wp_mono (rR (Q:=fun x ρ σ=>Q x (aN keep ρ) σ) hG hok.1 hok.2 hl h h1 h2 h3) (fun e a w hL=>bw.keep (l:=keep) hL)
   | false=>cases hok
  | _=>cases hok
 | draws l keep=>
  intro c' M bm tk ρ σ a w Q hok hl h hq;cases c' with
  | region id ops draw=>
   cases draw with
   | true=>
    have hok:(ft C.tab n ops l ops.toList&&mo l ops.toList)=true:=hok;simp only[JO]at hok;exact wp_mono (rJ (Q:=fun x ρ σ=>Q x (aN keep ρ) σ) hG hok.1 hok.2 hl h hq) (fun e a w hL=>bw.keep (l:=keep) hL)
   | false=>cases hok
  | _=>cases hok
 | drawb s0 d0 d1 T k bytes y l keep=>
  intro c' M bm tk ρ σ a w Q hok hl h hq;cases c' with
  | region id ops draw=>
   cases draw with
   | true=>
    have hok:(ft C.tab n ops (bL s0 d0 d1 T k bytes y l) ops.toList&&jQ s0 d0 d1 y l ops.toList)=true:=hok;simp only[JO]at hok;exact wp_mono (qZ (Q:=fun x ρ σ=>Q x (aN keep ρ) σ) hG hok.1 hok.2 hl h hq) (fun e a w hL=>bw.keep (l:=keep) hL)
   | false=>cases hok
  | _=>cases hok
 | drawg l keep=>
  intro c' M bm tk ρ σ a w Q hok hl h hq;cases c' with
  | region id ops draw=>
   cases draw with
   | true=>
    have hok:(ft C.tab n ops (l.map (·.1)) ops.toList&&kr l ops.toList)=true:=hok;simp only[JO]at hok;exact wp_mono (qA (Q:=fun x ρ σ=>Q x (aN keep ρ) σ) hG hok.1 hok.2 hl h hq) (fun e a w hL=>bw.keep (l:=keep) hL)
   | false=>cases hok
  | _=>cases hok
 | raw l es keep=>
  intro c' M bm tk ρ σ a w Q hok hl h hq;cases c' with
  | region id ops draw=>
   cases draw with
   | true=>
    have hok:(ft C.tab n ops l ops.toList&&(ops.toList.map aD==es))=true:=hok;simp only[JO,beq_iff_eq]at hok;have hq:ui C n0 l es ρ σ fun e ρ' σ'=>Q e (aN keep ρ') σ':=hq;exact wp_mono (hq pr M0 bm0 w0 id ops n M bm tk a w hG hn0 hok.1 hok.2 hl h) (fun e a w hL=>bw.keep (l:=keep) hL)
   | false=>cases hok
  | _=>cases hok
 | seq x y ihx ihy=>
  intro c' M bm tk ρ σ a w Q hok hl h hq;cases c'<;>simp only[okC,JO]at hok<;>first|(cases hok;done)|skip
  refine wp_seq (wp_mono (ihx hok.1 hl h hq) (fun e a' w' hL=>?_));obtain⟨M',bm',tk',ρ',σ',x,k1,k2,k3,k4⟩:=hL;cases k2 with
  | normal=>exact ihy hok.2 k4 k3 k1
  | ret=>exact⟨M',bm',tk',ρ',σ',_,k1,.ret,k3,k4⟩
  | exit id=>exact⟨M',bm',tk',ρ',σ',_,k1,.exit id,k3,k4⟩
  | panic hp=>exact⟨M',bm',tk',ρ',σ',_,k1,.panic hp,k3,k4⟩
 | cond x y z ihy ihz=>
  intro c' M bm tk ρ σ a w Q hok hl h hq;cases c'<;>simp only[okC,JO]at hok<;>first|(cases hok;done)|skip
  have hx:=av (hG.mono hl) h hok.1.1;simp only[awp]at hq;split at hq
  ·rename_i t e;rw[e]at hx;have hv:=hx.bool_inv;cases t with
   | true=>exact wp_cond_true hv (ihy hok.1.2 hl h (hq.1 rfl))
   | false=>exact wp_cond_false hv (ihz hok.2 hl h (hq.2 rfl))
  ·exact hq.elim
 | block id x ih=>
  intro c' M bm tk ρ σ a w Q hok hl h hq;cases c'<;>simp only[okC,JO,beq_iff_eq]at hok<;>first|(cases hok;done)|skip
  obtain⟨rfl,hok⟩:=hok;refine wp_block (wp_mono (ih hok hl h hq) (fun e a' w' hL=>?_));obtain⟨M',bm',tk',ρ',σ',x,k1,k2,k3,k4⟩:=hL;cases k2 with
  | normal=>exact⟨M',bm',tk',ρ',σ',_,k1,.normal,k3,k4⟩
  | ret=>exact⟨M',bm',tk',ρ',σ',_,k1,.ret,k3,k4⟩
  | exit j=>
   simp only[lD]at k1;simp only[Exit.inBlock];split
   ·rename_i e;rw[if_pos e]at k1;exact⟨M',bm',tk',ρ',σ',_,k1,.normal,k3,k4⟩
   ·rename_i e;rw[if_neg e]at k1;exact⟨M',bm',tk',ρ',σ',_,k1,.exit j,k3,k4⟩
  | panic hp=>exact⟨M',bm',tk',ρ',σ',_,k1,.panic hp,k3,k4⟩
 | loop x ih=>
  intro c' M bm tk ρ σ a w Q hok hl h hq;cases c'<;>simp only[okC]at hok<;>first|(cases hok;done)|skip
  obtain⟨ρ1,σ1,hsh,I,⟨m,hm⟩,hI⟩:=hq;obtain⟨M1,bm1,h1,h2⟩:=hsh M bm tk pr n a w h;have hl1:=h2 M0 bm0 w0 hn0 hl;rename_i c';intro b k cs
  have key:∀(m:Nat) (M:ax) (bm:List Nat) (tk:bq) (ρ:ai) (σ:List (List V)) (a:Act) (w:World),Later M0 bm0 pr w0 M bm w→SRel M bm tk pr ρ σ n a w→I m ρ σ→
   ∃e a' w',bw M0 bm0 pr w0 n Q e a' w'∧Arrives C.P (lone (b.at a (.code c'::.inLoop c'::k)) cs w) b k cs e a' w':=by
   intro m
   induction m using Ka with
   | _ m ihm=>
   intro M bm tk ρ σ a w hl h hm;obtain⟨e,a₁,w₁,hq,harr⟩:=ih hok hl h (hI m ρ σ hm) b (.inLoop c'::k) cs;obtain⟨M',bm',tk',ρ',σ',x,k1,k2,k3,k4⟩:=hq;cases k2 with
   | normal=>
    obtain⟨m',hlt,ρ3,σ3,g1,g4⟩:=k1;obtain⟨M3,bm3,g2,g3⟩:=g1 M' bm' tk' pr n a₁ w₁ k3;obtain⟨e₂,a₂,w₂,hq₂,harr₂⟩:=ihm m' hlt M3 bm3 tk' ρ3 σ3 a₁ w₁ (g3 M0 bm0 w0 hn0 k4) g2 g4;exact⟨e₂,a₂,w₂,hq₂,.of_steps (Steps.trans harr (.one step_inLoop)) harr₂⟩
   | ret=>exact⟨_,a₁,w₁,⟨M',bm',tk',ρ',σ',_,k1,.ret,k3,k4⟩,.pass (x:=.inLoop c') rfl (fun _ _=>.inl (by simp)) harr⟩
   | exit id=>exact⟨_,a₁,w₁,⟨M',bm',tk',ρ',σ',_,k1,.exit id,k3,k4⟩,.pass (x:=.inLoop c') rfl (fun _ _=>.inl (by simp)) harr⟩
   | panic hp=>exact⟨_,a₁,w₁,⟨M',bm',tk',ρ',σ',_,k1,.panic hp,k3,k4⟩,.pass (x:=.inLoop c') rfl (fun _ _=>.inl (by simp)) harr⟩
  obtain⟨e,a',w',hq,harr⟩:=key m M1 bm1 tk _ σ1 a w hl1 h1 hm;exact⟨e,a',w',hq,.of_steps (.one step_loop) harr⟩
 | exit id=>
  intro c' M bm tk ρ σ a w Q hok hl h hq;cases c'<;>simp only[okC,beq_iff_eq]at hok<;>first|(cases hok;done)|skip
  subst hok;exact wp_exit ⟨M,bm,tk,ρ,σ,_,hq,.exit id,h,hl⟩
 | ret=>
  intro c' M bm tk ρ σ a w Q hok hl h hq;cases c'<;>simp only[okC]at hok<;>first|(cases hok;done)|skip
  exact wp_ret ⟨M,bm,tk,ρ,σ,_,hq,.ret,h,hl⟩
end
end Go.Proofs.YthoebpnbhgmoiaaGreatDoor
namespace Go.Proofs.YthoebpnbhgmoiaaGreatDoor
open Go.RowKit
inductive D.Wf:D→Prop
 | lit (v:Value) (h:cR v):D.Wf (.lit v)
 | sl (rows:List (List D)) (hl:rows.length≤maxLen) (h:∀i j (hi:i<rows.length) (hj:j<rows[i].length),D.Wf rows[i][j]):D.Wf (.sl rows)
theorem DRep.wf{M:ax}{x:D}{v:Value}(h:DRep M x v):x.Wf:=by
 induction h with
 | lit v h=>exact .lit v h
 | sl rows k p cap val hk hd hf hc hm ih=>exact .sl rows (by omega) ih
inductive V.Wf:V→Prop
 | d {x:D} (h:x.Wf):V.Wf (.d x)
 | own {T k:Nat} {rows:List (List D)} (h:(D.sl rows).Wf):V.Wf (.own T k rows)
 | agg {cs:List V} (h:∀i (h:i<cs.length),V.Wf cs[i]):V.Wf (.agg cs)
 | nil:V.Wf .nil
 | tup (cs:List V):V.Wf (.tup cs)
 | ptr (i o:Nat):V.Wf (.ptr i o)
 | bsl (i o n k:Nat):V.Wf (.bsl i o n k)
 | row (cs:List D) (o:Nat):V.Wf (.row cs o)
 | fn (f:FuncId) (cs:List V):V.Wf (.fn f cs)
 | bnd (f:FuncId) (cs:List V):V.Wf (.bnd f cs)
 | iface (t:TypeId) (v:V):V.Wf (.iface t v)
 | mp (i:Nat):V.Wf (.mp i)
 | bsc (i n c:Nat):V.Wf (.bsc i n c)
 | junk:V.Wf .junk
theorem Rep.wf{M:ax}{bm:List Nat}{x:V}{v:Value}(h:Rep M bm x v):x.Wf:=by
 induction h with
 | d h=>exact .d h.wf
 | own h=>exact .own h.wf
 | nil=>exact .nil
 | agg hl h h1 ih=>exact .agg fun i hi=>ih i hi (by omega)
 | tup hl h ih=>exact .tup _
 | ptr h=>exact .ptr _ _
 | bsl h hc hm=>exact .bsl _ _ _ _
 | row val hf hd=>exact .row _ _
 | fn hl h ih=>exact .fn _ _
 | bnd hl h ih=>exact .bnd _ _
 | iface h ih=>exact .iface _ _
 | mp h=>exact .mp _
 | bsc h hc hm=>exact .bsc _ _ _
 | junk v=>exact .junk
inductive RV where
 | t (n:Nat) (own:Bool)
 | c (n k:Nat) (ag:Bool)
def cS(σ:List (List V))(ρ:ai):RV→Option V
 | .t n true=>some (get ρ n)
 | .t n false=>some (get ρ n).lend
 | .c n k ag=>(eJ σ k ag (get ρ n)).map V.lend
def mX(σ:List (List V))(ρ:ai):List RV→Option (List V)
 | []=>some []
 | r::rs=>match cS σ ρ r,mX σ ρ rs with|some v,some l=>some (v.lend::l)|_,_=>none
def cG(σ:List (List V))(ρ:ai):List RV→Option V
 | [r]=>cS σ ρ r
 | rs=>(mX σ ρ rs).map V.tup
def D3(tab:Tab):RV→ResultVar→Bool
 | .t n _,.tmp m=>n==m
 | .c n k ag,.cell m t=>n==m&&(match tab t with|some i=>i.sz==k&&i.agg==ag|none=>false)
 | _,_=>false
def lL(tab:Tab):List RV→List ResultVar→Bool
 | [],[]=>true
 | r::rs,r'::rs'=>D3 tab r r'&&lL tab rs rs'
 | _,_=>false
def aW(tab:Tab)(fn:Func)(m:Nat)(c:Cd)(rs:List RV):Bool:=
 (match fn.body with|some b=>okC tab fn.ntmps c b|none=>false)&&lL tab rs fn.results.toList&&decide (m≤fn.ntmps) && !(fn.name == "runtime.NumGoroutine")
def fin(n0:Nat)(rs:List RV)(Q:Out→List (List V)→Prop):dG:=fun e ρ σ'=>match e with
 | .normal=>∃ρ2 σ2,dy n0 ρ σ' ρ2 σ2∧∃v,cG σ2 ρ2 rs=some v∧∃k,n0≤k∧ay k (σ2.take k)=true∧V.under k v=true∧Q (.ret v) (σ2.take k)
 | .ret=>∃ρ2 σ2,dy n0 ρ σ' ρ2 σ2∧∃v,cG σ2 ρ2 rs=some v∧∃k,n0≤k∧ay k (σ2.take k)=true∧V.under k v=true∧Q (.ret v) (σ2.take k)
 | .panic v=>∃k,n0≤k∧ay k (σ'.take k)=true∧V.under k v=true∧Q (.panic v) (σ'.take k)
 | .exit _=>False
def aj:Nat→List V→ai
 | _,[]=>[]
 | i,v::r=>(i,v)::aj (i+1) r
def Ck(tmps:Array Value):ResultVar→Sem Value
 | .tmp t=>pure (tmps.getD t undef)
 | .cell a t=>do loadVar t (←asAddr (tmps.getD a undef))
theorem sH(fn:Func)(tmps:Array Value):results fn tmps=(do
 let vs ←fn.results.mapM (Ck tmps)
 pure (if h:vs.size=1 then vs[0]else .tuple vs)):=by
 unfold results;congr 1
section
variable {C : Cx} {M : ax} {bm : List Nat} {tk : bq} {pr : Prot} {ρ : ai} {σ : List (List V)} {n : Nat} {a : Act} {w : World}
theorem nq(h:SRel M bm tk pr ρ σ n a w){r:RV}{r':ResultVar}(hok:D3 C.tab r r'=true){x:V}(hx:cS σ ρ r=some x):
 ∃v,(Ck a.tmps r').run C.P w=.ok v w∧∃t,CellOK M bm w x v t∧(t=none∨∃s,t=tk none s):=by
 unfold D3 at hok;split at hok
 ·rename_i m own m';simp only[beq_iff_eq]at hok;subst hok;cases own with
  | true=>cases hx;exact⟨_,rfl,_,h.slots m,.inr ⟨m,rfl⟩⟩
  | false=>cases hx;exact⟨_,rfl,none,⟨(h.slots m).rep.lend,fun _ _ _ e=>absurd e V.lend_own⟩,.inl rfl⟩
 ·rename_i m k ag m' t;simp only[JO,beq_iff_eq]at hok;obtain⟨rfl,h2⟩:=hok;split at h2
  ·rename_i i hi;simp only[JO,beq_iff_eq]at h2;obtain⟨rfl,rfl⟩:=h2;obtain⟨y,hy,rfl⟩:=Option.map_eq_some_iff.1 hx;obtain⟨v,h3,h4,h5⟩:=mK h.inv hi hy (h.slots m).rep;refine⟨v,?_,none,⟨h4.lend,fun _ _ _ e=>absurd e V.lend_own⟩,.inl rfl⟩
   have hptr:∃ad,a.tmps.getD m undef=.pointer (some ad):=by
    have hr:=(h.slots m).rep;unfold eJ at hy;obtain⟨cs,hcs,-⟩:=Option.bind_eq_some_iff.1 hy;obtain⟨ad,vs,e,-⟩:=fd h.inv hcs hr;exact⟨ad,e⟩
   obtain⟨ad,e⟩:=hptr;simp only[Ck];rw[e]at h3 ⊢;simpa[Instr.loadAt,Instr.sureAddr,asAddr]using h3
  ·cases h2
 ·cases hok
theorem nl(h:SRel M bm tk pr ρ σ n a w):∀{rs:List RV} {rs':List ResultVar} {xs:List V},lL C.tab rs rs'=true→mX σ ρ rs=some xs→
 ∃vs:List Value,(rs'.mapM (Ck a.tmps)).run C.P w=.ok vs w∧vs.length=xs.length∧rs'.length=xs.length∧∀i (h:i<xs.length) (h':i<vs.length),Rep M bm xs[i] vs[i]
 | [],[],xs,_,hx=>by cases hx;exact⟨[],rfl,rfl,rfl,fun i h=>by simp at h⟩
 | r::rs,r'::rs',xs,hok,hx=>by
  simp only[lL,JO]at hok;simp only[mX]at hx;split at hx
  ·rename_i v l hv hl;cases hx;obtain⟨u,g1,t,g2,-⟩:=nq h hok.1 hv;obtain⟨vs,k1,k2,k3,k4⟩:=nl h hok.2 hl;refine⟨u::vs,?_,by simp[k2],by simp[k3],fun i h1 h2=>?_⟩
   ·rw[J8,Sem.run_bind,g1,Result.andThen_ok,Sem.run_bind,k1];rfl
   ·cases i with
    | zero=>exact g2.rep.lend
    | succ i=>exact k4 i (by simpa using h1) (by simpa using h2)
  ·cases hx
 | [],_::_,_,hok,_=>by cases hok
 | _::_,[],_,hok,_=>by cases hok
theorem sk(h:SRel M bm tk pr ρ σ n a w){rs:List RV}{fn:Func}{x:V}(hok:lL C.tab rs fn.results.toList=true)(hx:cG σ ρ rs=some x):
 ∃v,(results fn a.tmps).run C.P w=.ok v w∧∃t,CellOK M bm w x v t∧(t=none∨∃s,t=tk none s):=by
 rw[sH,Array.mapM_eq_mapM_toList];unfold cG at hx;split at hx
 ·rename_i r
  match hrs:fn.results.toList,hok with
  | [r'],hok=>
   simp only[lL,JS]at hok;obtain⟨v,g1,g2⟩:=nq h hok hx;refine⟨v,?_,g2⟩;simp only[J8,List.mapM_nil,Sem.run_bind,Sem.run_map,g1,Result.andThen_ok,Sem.run_pure];rfl
  | [],hok=>cases hok
  | _::_::_,hok=>simp[lL]at hok
 ·rename_i hne;obtain⟨xs,hxs,rfl⟩:=Option.map_eq_some_iff.1 hx;obtain⟨vs,k1,k2,k3,k4⟩:=nl h hok hxs;refine⟨.tuple vs.toArray,?_,none,⟨.tup k2 k4,fun _ _ _ e=>by cases e⟩,.inl rfl⟩;simp only[Sem.run_bind,Sem.run_map,k1,Result.andThen_ok,Sem.run_pure]
  have hl:¬vs.toArray.size=1:=by
   intro e;have:fn.results.toList.length=1:=by rw[k3,←k2];simpa using e
   match rs,hne,hok with
   | [],_,hok=>match hrs:fn.results.toList,hok with | [],_=>rw[hrs]at this;cases this
   | [r],hne,_=>exact hne r rfl
   | _::_::_,_,hok=>match hrs:fn.results.toList,hok with
    | [_],hok=>simp[lL]at hok
    | _::_::_,_=>rw[hrs]at this;simp at this
  rw[dif_neg hl]
theorem mE:∀(args:List V) (i t:Nat),get (aj i args) t=if i≤t then(args[t-i]?).getD .junk else .junk
 | [],i,t=>by simp[aj,get]
 | v::r,i,t=>by
  simp only[aj,get];split
  ·rename_i e;subst e;simp
  ·rename_i e;rw[mE r (i+1) t];by_cases h:i≤t
   ·rw[if_pos (by omega),if_pos h,show t-i=(t-(i+1))+1 by omega];rfl
   ·rw[if_neg (by omega),if_neg h]
theorem di{P:Program}{f:FuncId}{fn:Func}(hf:P.funcs[f]? = some fn)(hn:(fn.name == "runtime.NumGoroutine")=false)(hb:fn.body.isNone=false):
 ∀args w,(callFunc f args).run P w=.ok (.enter f args) w:=fun args w=>by
 have h1:fn.name ≠ "runtime.NumGoroutine" := by simpa using hn
 have h2:fn.body≠none:=fun h=>by rw[h]at hb;cases hb
 simp[callFunc,hf,h1,h2]
theorem oP{f:FuncId}{fn:Func}{c:Cd}{rs:List RV}{args:List V}{Q:Out→List (List V)→Prop}(hf:C.P.funcs[f]? = some fn)(hok:aW C.tab fn args.length c rs=true)
 (h:ay σ.length σ=true→(∀i (h:i<args.length),V.Wf args[i])→awp C σ.length c (aj 0 args) σ (fin σ.length rs Q)):
 (∀as w,(callFunc f as).run C.P w=.ok (.enter f as) w)∧
 ∀(M:ax) (bm:List Nat) (tk:bq) (pr:Nat→Prop) (w:World) (vs:List Value),C.glob M pr w→Inv M bm σ tk pr w→vs.length=args.length→(∀i (h:i<args.length) (h':i<vs.length),CellOK M bm w args[i] vs[i] (tk none i))→
  Calls C.P f vs.toArray w fun e w'=>∃M' bm' tk' σ' o,Q o σ'∧Inv M' bm' σ' tk' pr w'∧Later M bm pr w M' bm' w'∧OutOK M' bm' w' tk' o e:=by
 unfold aW at hok;simp only[JO,decide_eq_true_eq,JQ]at hok;obtain⟨⟨⟨h1,h2⟩,h3⟩,h4⟩:=hok;cases hb:fn.body with
 | none=>rw[hb]at h1;cases h1
 | some body=>
 rw[hb]at h1;refine⟨di hf h4 (by rw[hb];rfl),fun M bm tk pr0 w vs hG hI hl hr=>?_⟩;obtain⟨pr,rfl,hds⟩:∃pr:Prot,pr.p=pr0∧pr.ds=[]:=⟨⟨pr0,[]⟩,rfl,rfl⟩
 have hq:=h hI.under (fun i hi=>(hr i hi (by omega)).rep.wf);refine calls_of_wp hf hb ?_
 have hs:SRel M bm tk pr (aj 0 args) σ fn.ntmps {tmps:=vs.toArray++JK (fn.ntmps-vs.toArray.size) undef,defers:=[]} w:=by
  refine⟨hI,hds.symm,by simp;omega,fun t=>?_⟩;rw[mE,if_pos (Nat.zero_le _),Nat.sub_zero];by_cases hlt:t<args.length
  ·rw[JV hlt,Ke]
   have hv:(vs.toArray++JK (fn.ntmps-vs.toArray.size) undef).getD t undef=vs[t]'(by omega):=by
    rw[JI,Array.getElem?_append_left (by simp;omega)];simp[show t<vs.length by omega]
   rw[hv];exact hr t hlt (by omega)
  ·rw[List.getElem?_eq_none (by omega),Option.getD_none];exact CellOK.junk ..
 refine wp_mono (vG hG hI.len h1 (Later.refl M bm pr w) hs hq) (fun e a' w' hL=>?_);obtain⟨M',bm',tk',ρ',σ',x,k1,k2,k3,k4⟩:=hL
 have cut:∀{M':ax} {bm':List Nat} {ρ':ai} {σ':List (List V)} {k:Nat} (o:Option Nat),SRel M' bm' tk' pr ρ' σ' fn.ntmps a' w'→Later M bm pr w M' bm' w'→σ.length≤k→ay k (σ'.take k)=true→(o=none∨∃s,o=tk' none s)→
  Inv M' (bm'.take k) (σ'.take k) (fun i j=>match i with|none=>if j=0 then o else none|some i=>tk' (some i) j) pr w'∧Later M bm pr w M' (bm'.take k) w':=by
  intro M' bm' ρ' σ' k o k3 k4 hk hbk ho;have hd:=k3.inv.drop hbk;refine⟨⟨hd.facts,hd.len,hd.box,hd.free,hd.bmnd,fun i j g hg=>?_,fun i j i' j' g g1 g2=>?_,hd.prlt⟩,k4.drop (by rw[hI.len];exact hk)⟩
  ·cases i with
   | some i=>exact hd.tok _ _ _ hg
   | none=>
    simp only at hg;split at hg
    ·rcases ho with rfl|⟨s,rfl⟩
     ·cases hg
     ·exact hd.tok _ _ _ hg
    ·cases hg
  ·cases i with
   | some i=>cases i' with
    | some i'=>exact hd.inj _ _ _ _ _ g1 g2
    | none=>
     simp only at g2;split at g2
     ·rcases ho with rfl|⟨s,rfl⟩
      ·cases g2
      ·have:=hd.inj _ _ _ _ _ g1 g2;simp at this
     ·cases g2
   | none=>cases i' with
    | some i'=>
     simp only at g1;split at g1
     ·rcases ho with rfl|⟨s,rfl⟩
      ·cases g1
      ·have:=hd.inj _ _ _ _ _ g1 g2;simp at this
     ·cases g1
    | none=>
     simp only at g1 g2;split at g1
     ·split at g2
      ·exact⟨rfl,by omega⟩
      ·cases g2
     ·cases g1
 have ret:∀ρ2 σ2,dy σ.length ρ' σ' ρ2 σ2→∀v,cG σ2 ρ2 rs=some v→(∃k,σ.length≤k∧ay k (σ2.take k)=true∧V.under k v=true∧Q (.ret v) (σ2.take k))→
  a'.defers=[]∧∃u,(results fn a'.tmps).run C.P w'=.ok u w'∧∃M' bm' tk' σ' o,Q o σ'∧Inv M' bm' σ' tk' pr w'∧Later M bm pr w M' bm' w'∧OutOK M' bm' w' tk' o (.returned u):=by
  rintro ρ2 σ2 hsh v hv ⟨k,g1,g2,g3,g4⟩;obtain⟨M2,bm2,s1,s2⟩:=hsh M' bm' tk' pr fn.ntmps a' w' k3;obtain⟨u,r1,t,r2,r3⟩:=sk s1 h2 hv;obtain⟨c1,c2⟩:=cut t s1 (s2 M bm w hI.len k4) g1 g2 r3;refine⟨k3.defers.trans hds,u,r1,M2,bm2.take k,_,σ2.take k,.ret v,g4,c1,c2,fun v' e=>?_,fun v' e=>by cases e⟩;cases e;exact⟨u,rfl,r2.rep.drop g3,by simpa using r2.own⟩
 cases k2 with
 | normal=>obtain⟨ρ2,σ2,g0,v,g1,g2⟩:=k1;exact ret ρ2 σ2 g0 v g1 g2
 | ret=>obtain⟨ρ2,σ2,g0,v,g1,g2⟩:=k1;exact ret ρ2 σ2 g0 v g1 g2
 | exit id=>exact k1.elim
 | panic hp=>
  obtain⟨k,g1,g2,g3,g4⟩:=k1;obtain⟨c1,c2⟩:=cut none k3 k4 g1 g2 (.inl rfl);exact⟨k3.defers.trans hds,M',bm'.take k,_,σ'.take k,_,g4,c1,c2,(fun v' e=>by cases e),fun v' e=>by cases e;exact⟨_,rfl,hp.drop g3⟩⟩
theorem wY{f:FuncId}{fn:Func}{c:Cd}{rs:List RV}{args:List V}{Q:Out→List (List V)→Prop}(hf:C.P.funcs[f]? = some fn)(hok:aW C.tab fn args.length c rs=true)(hno:args.all (! ·.isOwn)=true)
 (h:ay σ.length σ=true→(∀i (h:i<args.length),V.Wf args[i])→awp C σ.length c (aj 0 args) σ (fin σ.length rs Q)):Fun C f args σ Q:=by
 obtain⟨h1,h2⟩:=oP hf hok h;refine⟨h1,fun M bm tk pr w vs hG hI _ hl hr=>h2 M bm tk pr w vs hG hI hl fun i g1 g2=>⟨hr i g1 g2,fun T k rows e=>?_⟩⟩;have:=List.all_eq_true.1 hno args[i] (JX g1);rw[e]at this;cases this
theorem tO{f:FuncId}{fn:Func}{c:Cd}{rs:List RV}{pre post:List V}{T k:Nat}{rows:List (List D)}{Q:Out→List (List V)→Prop}(hf:C.P.funcs[f]? = some fn)(hok:aW C.tab fn (pre++.own T k rows::post).length c rs=true)(hno:(pre++post).all (! ·.isOwn)=true)
 (h:ay σ.length σ=true→(∀i (h:i<(pre++.own T k rows::post).length),V.Wf (pre++.own T k rows::post)[i])→awp C σ.length c (aj 0 (pre++.own T k rows::post)) σ (fin σ.length rs Q)):lQ C f pre T k rows post σ Q:=by
 obtain⟨h1,h2⟩:=oP hf hok h;refine⟨h1,fun M bm tk pr w vs hG hI hl hr ho=>h2 M bm tk pr w vs hG hI hl fun i g1 g2=>⟨hr i g1 g2,fun T' k' rows' e=>?_⟩⟩;rw[J6,JO]at hno;by_cases hi:i<pre.length
 ·rw[J1 hi]at e;have:=List.all_eq_true.1 hno.1 _ (JX hi);rw[e]at this;cases this
 ·rw[JU (by omega)]at e;by_cases hm:i=pre.length
  ·subst hm;simp only[J9,JW]at e;cases e;have e3:vs.getD pre.length undef=vs[pre.length]:=by simp[List.getD,g2]
   rw[e3]at ho;exact ho
  ·obtain⟨m,hm2⟩:∃m,i-pre.length=m+1:=⟨i-pre.length-1,by omega⟩
   simp only[hm2,J2]at e;have:=List.all_eq_true.1 hno.2 _ (JX (l:=post) (n:=m) (by simp only[List.length_append,List.length_cons]at g1;omega));rw[e]at this;cases this
end
end Go.Proofs.YthoebpnbhgmoiaaGreatDoor
namespace Go.Proofs.YthoebpnbhgmoiaaGreatDoor
open Go.RowKit
inductive Tag{α:Type}(a:α):Type where
 | mk
def bh(o:Option V)(f:V→Prop)(_:Tag f):Prop:=match o with|some v=>f v|none=>False
theorem wm(v:V)(f:V→Prop)(t:Tag f):bh (some v) f t=f v:=rfl
def fnT(v:V)(f:FuncId→List V→Prop)(_:Tag f):Prop:=match v with | .fn g cap=>f g cap|_=>False
theorem DG(g:FuncId)(cap:List V)(f:FuncId→List V→Prop)(t:Tag f):fnT (.fn g cap) f t=f g cap:=rfl
def A2(v:V)(as:List V)(f:FuncId→List V→Prop)(_:Tag f):Prop:=match v with | .fn g cap=>f g (as++cap) | .bnd g first=>f g (first++as)|_=>False
theorem A0(g:FuncId)(cap as:List V)(f:FuncId→List V→Prop)(t:Tag f):A2 (.fn g cap) as f t=f g (as++cap):=rfl
theorem zv(g:FuncId)(first as:List V)(f:FuncId→List V→Prop)(t:Tag f):A2 (.bnd g first) as f t=f g (first++as):=rfl
def ry(v:V)(f:Nat→Nat→Prop)(_:Tag f):Prop:=match v with | .ptr i o=>f i o|_=>False
theorem Ay(i o:Nat)(f:Nat→Nat→Prop)(t:Tag f):ry (.ptr i o) f t=f i o:=rfl
def lP(v:V)(f:Nat→Nat→List (List D)→Prop)(_:Tag f):Prop:=match v with | .own T k rows=>f T k rows|_=>False
theorem yo(T k:Nat)(rows:List (List D))(f:Nat→Nat→List (List D)→Prop)(t:Tag f):lP (.own T k rows) f t=f T k rows:=rfl
def ifT(v:V)(f:Nat→V→Prop)(_:Tag f):Prop:=match v with | .iface t v=>f t v|_=>False
theorem vA(ty:Nat)(v:V)(f:Nat→V→Prop)(t:Tag f):ifT (.iface ty v) f t=f ty v:=rfl
def bxT(o:Option (List V))(f:List V→Prop)(_:Tag f):Prop:=match o with|some cs=>f cs|none=>False
theorem Av(cs:List V)(f:List V→Prop)(t:Tag f):bxT (some cs) f t=f cs:=rfl
def rwT(o:Option (List (List D)))(f:List (List D)→Prop)(_:Tag f):Prop:=match o with|some rows=>f rows|none=>False
theorem yh(rows:List (List D))(f:List (List D)→Prop)(t:Tag f):rwT (some rows) f t=f rows:=rfl
def CI(v:V)(f:Bool→Prop)(_:Tag f):Prop:=match v with | .d (.lit (.bool c))=>f c|_=>False
theorem sN(c:Bool)(f:Bool→Prop)(t:Tag f):CI (.d (.lit (.bool c))) f t=f c:=rfl
def oW(v:V)(f:Bool→Prop)(u:Unit→Prop)(_:Tag f)(_:Tag u):Prop:=match v with
 | .d (.lit (.bool c))=>f c
 | .tup []=>u ()
 | _=>False
theorem r7(c:Bool)(f:Bool→Prop)(u:Unit→Prop)(s:Tag f)(t:Tag u):oW (.d (.lit (.bool c))) f u s t=f c:=rfl
theorem yJ(f:Bool→Prop)(u:Unit→Prop)(s:Tag f)(t:Tag u):oW (.tup []) f u s t=u ():=rfl
def nX(c:Bool)(A B:Unit→Prop)(_:Tag A)(_:Tag B):Prop:=(c=true→A ())∧(c=false→B ())
theorem we(A B:Unit→Prop)(s:Tag A)(t:Tag B):nX true A B s t=A ():=by simp[nX]
theorem sF(A B:Unit→Prop)(s:Tag A)(t:Tag B):nX false A B s t=B ():=by simp[nX]
theorem cd{c:Bool}{A B:Unit→Prop}{s:Tag A}{t:Tag B}(h1:c=true→A ())(h2:c=false→B ()):nX c A B s t:=⟨h1,h2⟩
theorem BD(b:Bool):(b==true)=b:=by cases b<;>rfl
theorem yC(b:Bool):(b==false) = !b:=by cases b<;>rfl
def onT(p:Prop)(A:Unit→Prop)(_:Tag A):Prop:=p∧A ()
theorem bt{p:Prop}{A:Unit→Prop}{t:Tag A}(h1:p)(h2:A ()):onT p A t:=⟨h1,h2⟩
theorem xJ(A:Unit→Prop)(t:Tag A):onT True A t=A ():=by simp[onT]
def ep(C:Cx)(n0:Nat)(c:Cd)(ρ:ai)(σ:List (List V))(Q:dG)(_:Tag Q):Prop:=awp C n0 c ρ σ Q
def bi(C:Cx)(l:List O)(ρ:ai)(σ:List (List V))(Q:dG)(_:Tag Q):Prop:=cl C l ρ σ Q
def bF(C:Cx)(l:List O)(ρ:ai)(σ:List (List V))(K:ai→Prop)(_:Tag K):Prop:=bg C l ρ σ K
def yt(K:V→List (List V)→Prop)(P:V→List (List V)→Prop):Out→List (List V)→Prop:=fun o σ'=>match o with
 | .ret v=>K v σ'
 | .panic v=>P v σ'
def xp(C:Cx)(f:FuncId)(args:List V)(σ:List (List V))(K:V→List (List V)→Prop)(P:V→List (List V)→Prop)(_:Tag K)(_:Tag P):Prop:=Fun C f args σ (yt K P)
def yn(C:Cx)(f:FuncId)(pre:List V)(T k:Nat)(rows:List (List D))(post:List V)(σ:List (List V))(K:V→List (List V)→Prop)(P:V→List (List V)→Prop)(_:Tag K)(_:Tag P):Prop:=lQ C f pre T k rows post σ (yt K P)
def yI(C:Cx)(f:FuncId)(args:List V)(σ:List (List V))(k:V→Prop)(_:Tag k):Prop:=∃v,Fun C f args σ (fun o σ'=>o=.ret v∧σ'=σ)∧k v
def bz(C:Cx)(c:Cell)(σ σ2:List (List V))(l:List O)(ρ:ai)(acc:Option (List (List D)))(K:ai→List (List D)→Prop)(_:Tag K):Prop:=co C c σ σ2 l ρ acc K
def H8(x:V)(k:Int→Prop)(_:Tag k):Prop:=match x with
 | .d (.lit (.int _ n))=>k n
 | _=>False
theorem xH(kd:IntKind)(n:Int){k:Int→Prop}(t:Tag k):H8 (.d (.lit (.int kd n))) k t=k n:=rfl
def stT(C:Cx)(l:List O)(ρ:ai)(σ:List (List V))(acc:Option (List (List V)))(K:ai→List (List V)→Prop)(_:Tag K):Prop:=fq C σ l ρ acc K
def sb(C:Cx)(f:FuncId)(args:List V)(σ σ2:List (List V))(k:V→Prop)(_:Tag k):Prop:=∃v,Fun C f args σ (fun o σ'=>o=.ret v∧σ'=σ)∧Fun C f args σ2 (fun o σ'=>o=.ret v∧σ'=σ2)∧k v
def zM(C:Cx)(l:List O)(ρ:ai)(σ:List (List V))(K:ai→List (List V)→Prop)(_:Tag K):Prop:=
 ∃(c:Cell) (cs:List V),σ[c.i]? = some cs∧cs[c.off]? = some (.own c.T c.k c.rows)∧
  co C c σ (σ.set c.i (cs.set c.off (.d (.sl c.rows)))) l ρ none fun ρ' rows2=>K ρ' ((σ.set c.i (cs.set c.off (.d (.sl c.rows)))).set c.i (over (cs.set c.off (.d (.sl c.rows))) c.off [.own c.T c.k (c.rows++rows2)]))
def Ar(P:Program):Tab:=fun t=>
 match P.underlying t,P.info? t with
 | some d,some i=>match i.zero with
  | some z=>if z.cells.size=i.size then some ⟨d,i.size,i.bytes,z⟩else none
  | none=>none
 | _,_=>none
theorem yl(P:Program):lI P (Ar P):=by
 intro t i h;unfold Ar at h;split at h
 ·rename_i d inf h1 h2;split at h
  ·rename_i z hz;split at h
   ·rename_i hs;cases h;exact⟨h1,inf,h2,rfl,rfl,hz,hs⟩
   ·cases h
  ·cases h
 ·cases h
def cxk(P:Program)(gl:Nat→Option (List D))(kp:Nat→Option (Array Value→Prop))(h:P.follows .mixedOrders=true):Cx:=⟨P,Ar P,gl,kp,yl P,h,fun t=>!P.stoodInHeld t && !P.eqGuardType P.depth t,fun t ht=>by simpa using ht⟩
abbrev cx(P:Program)(gl:Nat→Option (List D))(h:P.follows .mixedOrders=true):Cx:=cxk P gl (fun _=>none) h
section
variable {C : Cx} {ρ : ai} {σ σ2 : List (List V)} {Q : dG} {K : ai → Prop} {KA : ai → List (List D) → Prop} {cc : Cell} {acc : Option (List (List D))} {KN : ai → List V → Prop} {cn : List V} {accn : Option (List V)} {KS : ai → List (List V) → Prop} {accs : Option (List (List V))} {n0 : Nat}
theorem IC(n:Nat):ev C ρ (.t n)=get ρ n:=rfl
theorem IK(v:V):ev C ρ (.k v)=v:=rfl
theorem yr(s:Nat)(u:V)(r:ai)(t:Nat):get ((s,u)::r) t=if s=t then u else get r t:=rfl
theorem BO(t:Nat):get [] t=.junk:=rfl
theorem z5(s:Nat)(u:V)(r:ai)(t:Nat)(v:V):put ((s,u)::r) t v=if t<s then(t,v)::(s,u)::r else if t=s then(t,v)::r else(s,u)::put r t v:=rfl
theorem Cq(t:Nat)(v:V):put [] t v=[(t,v)]:=rfl
theorem xu(t:Nat)(v:V):putd ρ (some t) v=put ρ t v:=rfl
theorem vU(v:V):putd ρ none v=ρ:=rfl
theorem pH(l:List Nat):aN l []=[]:=rfl
theorem oh(l:List Nat)(s:Nat)(u:V)(r:ai):aN l ((s,u)::r)=if l.contains s=true then(s,u)::aN l r else aN l r:=by
 unfold aN;rw[List.filter_cons]
theorem Id(x:X)(d:Option Nat)(r:List O)(t:Tag Q):bi C (⟨d,.mv x,none⟩::r) ρ σ Q t=bi C r (putd ρ d (ev C ρ x).copy) σ Q .mk:=rfl
theorem Hv(x:X)(d:Option Nat)(r:List O)(t:Tag K):bF C (⟨d,.mv x,none⟩::r) ρ σ K t=bF C r (putd ρ d (ev C ρ x).copy) σ K .mk:=rfl
theorem CR(x y z:X)(d:Option Nat)(r:List O)(t:Tag Q):bi C (⟨d,.pick x y z,none⟩::r) ρ σ Q t=bh (gx (ev C ρ x) (ev C ρ y) (ev C ρ z)) (fun v=>bi C r (putd ρ d v) σ Q .mk) .mk:=rfl
theorem DC(x y z:X)(d:Option Nat)(r:List O)(t:Tag K):bF C (⟨d,.pick x y z,none⟩::r) ρ σ K t=bh (gx (ev C ρ x) (ev C ρ y) (ev C ρ z)) (fun v=>bF C r (putd ρ d v) σ K .mk) .mk:=by
 unfold bF bh;simp only[bg,aP,ba,pv];cases gx (ev C ρ x) (ev C ρ y) (ev C ρ z)<;>rfl
theorem Gy(o:BinOp)(x y:X)(d:Option Nat)(r:List O)(t:Tag Q):bi C (⟨d,.bin o x y,none⟩::r) ρ σ Q t=bh (cC o (ev C ρ x) (ev C ρ y)) (fun v=>bi C r (putd ρ d v) σ Q .mk) .mk:=rfl
theorem Gi(o:BinOp)(x y:X)(d:Option Nat)(r:List O)(t:Tag K):bF C (⟨d,.bin o x y,none⟩::r) ρ σ K t=bh (cC o (ev C ρ x) (ev C ρ y)) (fun v=>bF C r (putd ρ d v) σ K .mk) .mk:=by
 unfold bF bh;simp only[bg,aP,ba,pv];cases cC o (ev C ρ x) (ev C ρ y)<;>rfl
theorem CU(o:BinOp)(x y:X)(d:Option Nat)(r:List O)(t:Tag Q):bi C (⟨d,.binb o x y,none⟩::r) ρ σ Q t=bh (lG o (ev C ρ x) (ev C ρ y)) (fun v=>bi C r (putd ρ d v) σ Q .mk) .mk:=rfl
theorem FU(neq:Bool)(x:X)(d:Option Nat)(r:List O)(t:Tag Q):bi C (⟨d,.nip neq x,none⟩::r) ρ σ Q t=bh (te neq (ev C ρ x)) (fun v=>bi C r (putd ρ d v) σ Q .mk) .mk:=by
 unfold bi bh;simp only[cl,cQ,ba,pv];cases te neq (ev C ρ x)<;>simp
theorem Dn(f:FuncId)(first:List X)(d:Option Nat)(r:List O)(t:Tag Q):bi C (⟨d,.mkbd f first,none⟩::r) ρ σ Q t=bi C r (putd ρ d (.bnd f (first.map (ev C ρ)))) σ Q .mk:=rfl
theorem IB(o:UnOp)(x:X)(d:Option Nat)(r:List O)(t:Tag Q):bi C (⟨d,.un o x,none⟩::r) ρ σ Q t=bh (unV o (ev C ρ x)) (fun v=>bi C r (putd ρ d v) σ Q .mk) .mk:=rfl
theorem JC(o:UnOp)(x:X)(d:Option Nat)(r:List O)(t:Tag K):bF C (⟨d,.un o x,none⟩::r) ρ σ K t=bh (unV o (ev C ρ x)) (fun v=>bF C r (putd ρ d v) σ K .mk) .mk:=by
 unfold bF bh;simp only[bg,aP,ba,pv];cases unV o (ev C ρ x)<;>rfl
theorem Ec(kd:IntKind)(x:X)(d:Option Nat)(r:List O)(t:Tag Q):bi C (⟨d,.conv kd x,none⟩::r) ρ σ Q t=bh (ol kd (ev C ρ x)) (fun v=>bi C r (putd ρ d v) σ Q .mk) .mk:=rfl
theorem F5(x:X)(d:Option Nat)(r:List O)(t:Tag Q):bi C (⟨d,.cbs x,none⟩::r) ρ σ Q t=bh (qm σ (ev C ρ x)) (fun v=>bi C r (putd ρ d v) σ Q .mk) .mk:=rfl
theorem Cg(x:X)(d:Option Nat)(r:List O)(t:Tag Q):bi C (⟨d,.nilck x,none⟩::r) ρ σ Q t=bh (fh (ev C ρ x)) (fun v=>bi C r (putd ρ d v) σ Q .mk) .mk:=rfl
theorem AU(x:X)(d:Option Nat)(r:List O)(t:Tag K):bF C (⟨d,.nilck x,none⟩::r) ρ σ K t=bh (fh (ev C ρ x)) (fun v=>bF C r (putd ρ d v) σ K .mk) .mk:=by
 unfold bF bh;simp only[bg,aP,ba,pv];cases fh (ev C ρ x)<;>rfl
theorem gb{op:OP}{ρ:ai}{σ:List (List V)}{C:Cx}{k k':V→Prop}(hk:∀v,k v→k' v)(h:aP C op ρ σ k):aP C op ρ σ k':=by
 obtain⟨v,h1,h2⟩:=dF h;unfold aP at h1 ⊢;split at h1
 ·obtain⟨u,g1,g2⟩:=h1;subst g2;exact⟨u,g1,hk _ h2⟩
 ·split at h1
  ·obtain⟨u,g1,g2⟩:=h1;subst g2;exact⟨u,g1,hk _ h2⟩
  ·exact h1.elim
 ·split at h1
  ·exact⟨h1.1,by rw[h1.2];exact hk _ h2⟩
  ·exact h1.elim
 ·obtain⟨u,g1,g2⟩:=h1;subst g2;exact⟨u,g1,hk _ h2⟩
 ·split at h1
  ·subst h1;exact hk _ h2
  ·exact h1.elim
def kvT(a:Option (List (Key×V)))(b:Option Key)(f:List (Key×V)→Key→Prop)(_:Tag f):Prop:=match a,b with|some kv,some key=>f kv key|_,_=>False
theorem yM(kv:List (Key×V))(key:Key)(f:List (Key×V)→Key→Prop)(t:Tag f):kvT (some kv) (some key) f t=f kv key:=rfl
def EI(v:V)(f:Nat→Nat→Nat→Prop)(_:Tag f):Prop:=match asB v with|some (i,off,n)=>f i off n|none=>False
theorem zd(i off n:Nat)(f:Nat→Nat→Nat→Prop)(t:Tag f):EI (.bsl i off n 1) f t=f i off n:=rfl
theorem zr(i n c:Nat)(f:Nat→Nat→Nat→Prop)(t:Tag f):EI (.bsc i n c) f t=f i 0 n:=rfl
theorem GD(st ok:Bool)(z:V)(x y:X)(d:Option Nat)(r:List O)(t:Tag Q):bi C (⟨d,.mlk st ok z x y,none⟩::r) ρ σ Q t=bh (pS st ok z σ (ev C ρ x) (ev C ρ y)) (fun v=>bi C r (putd ρ d v) σ Q .mk) .mk:=rfl
theorem Gm(st ok:Bool)(z:V)(x y:X)(d:Option Nat)(r:List O)(t:Tag K):bF C (⟨d,.mlk st ok z x y,none⟩::r) ρ σ K t=bh (pS st ok z σ (ev C ρ x) (ev C ρ y)) (fun v=>bF C r (putd ρ d v) σ K .mk) .mk:=by
 unfold bF bh;simp only[bg,aP,ba,pv];cases pS st ok z σ (ev C ρ x) (ev C ρ y)<;>rfl
theorem Ge(st:Bool)(d:Option Nat)(r:List O)(t:Tag Q):bi C (⟨d,.mmk st,none⟩::r) ρ σ Q t=bi C r (putd ρ d (.mp σ.length)) (σ++[[.mapc st []]]) Q .mk:=rfl
theorem GH(st:Bool)(x y z:X)(d:Option Nat)(r:List O)(t:Tag Q):bi C (⟨d,.mst st x y z,none⟩::r) ρ σ Q t=kvT (eo st σ (ev C ρ x)) (gJ st (ev C ρ y)) (fun kv key=>bi C r ρ (jl σ st (iz key (ev C ρ z).copy kv) (ev C ρ x)) Q .mk) .mk:=by
 unfold bi kvT;simp only[cl,cQ];cases eo st σ (ev C ρ x)<;>cases gJ st (ev C ρ y)<;>rfl
def CQ(v:V)(f g:Unit→Prop)(_:Tag f)(_:Tag g):Prop:=if qj v=true then f ()else g ()
theorem Dl(f g:Unit→Prop)(s:Tag f)(t:Tag g):CQ (.d (.sl [])) f g s t=f ():=rfl
theorem Ae(i off n:Nat)(f g:Unit→Prop)(s:Tag f)(t:Tag g):CQ (.bsl i off n 1) f g s t=g ():=rfl
theorem zE(i n c:Nat)(f g:Unit→Prop)(s:Tag f)(t:Tag g):CQ (.bsc i n c) f g s t=g ():=rfl
def avT(x:V)(src:List V)(bytes:Nat)(z:V)(σ:List (List V))(f:V→List (List V)→Prop)(_:Tag f):Prop:=lH σ x src bytes z f
theorem Ch(src:List V)(bytes:Nat)(z:V)(σ:List (List V))(f:V→List (List V)→Prop)(t:Tag f):avT .nil src bytes z σ f t=(src.length*bytes≤140737488355328∧∀c,src.length≤c→f (.bsc σ.length src.length c) (σ++[src++List.replicate (c-src.length) z])):=rfl
theorem yK:fK []=some []:=rfl
theorem y9(i o n k:Nat)(r:List V):fK (.bsl i o n k::r)=(fK r).map fun l=>.bsl i o n k::l:=by
 simp only[fK,V.boxable1];cases fK r<;>rfl
theorem CX(x:D)(r:List V):fK (.d x::r)=(fK r).map fun l=>.d x::l:=by
 simp only[fK,V.boxable1];cases fK r<;>rfl
theorem u3(i n c:Nat):lR false (.bsc i n c)=some (aL .i64 n):=rfl
theorem Am(b n c:Nat)(kd:IntKind)(j:Nat):iaV 1 (.bsc b n c) (.d (.lit (.int kd (j:Int))))=if j<n then some (.ptr b j)else none:=by
 unfold iaV;simp only[JT,and_true,Nat.mul_one,Kb];by_cases h:j<n
 ·rw[if_pos h,if_pos (by omega)]
 ·rw[if_neg h,if_neg (by omega)]
theorem C9(i n c:Nat):(V.bsc i n c).copy=.bsc i n c:=rfl
def Dg(st ok:Bool)(z:V)(a:Option (List (Key×V)))(b:Option Key):Option V:=match a,b with|some kv,some key=>some (lf ok z (fW key kv))|_,_=>none
theorem CB(st ok:Bool)(z:V)(i:Nat)(y:V):pS st ok z σ (.mp i) y=Dg st ok z (tQ st σ[i]?) (gJ st y):=by
 unfold pS Dg eo;rfl
theorem oU(st ok:Bool)(z:V)(kv:List (Key×V))(key:Key):Dg st ok z (some kv) (some key)=some (lf ok z (fW key kv)):=rfl
theorem oH(st:Bool)(kv:List (Key×V)):tQ st (some [.mapc st kv])=some kv:=by simp[tQ]
theorem ur(n:Int):gJ false (.d (.lit (.int .i64 n)))=some (.i n):=rfl
theorem BV(s:ByteArray):gJ true (.d (.lit (.string s)))=some (.s s):=rfl
theorem xV(st:Bool)(i:Nat):eo st σ (.mp i)=tQ st σ[i]? := rfl
theorem yU(st:Bool)(kv:List (Key×V))(i:Nat):jl σ st kv (.mp i)=σ.set i [.mapc st kv]:=rfl
def Gw(b:Option (List V)):Option V:=match b with|some [.mapc _ kv]=>if kv.length≤1000000000 then some (aL .i64 kv.length)else none|_=>none
theorem Gt(i:Nat):BM σ (.mp i)=Gw σ[i]? := rfl
theorem xa(st:Bool)(kv:List (Key×V)):Gw (some [.mapc st kv])=if kv.length≤1000000000 then some (aL .i64 kv.length)else none:=rfl
theorem De(z v:V):lf false z (some v)=v:=rfl
theorem BQ(z:V):lf false z none=z:=rfl
theorem DN(z v:V):lf true z (some v)=.tup [v,az true]:=rfl
theorem Bv(z:V):lf true z none=.tup [z,az false]:=rfl
theorem Jm(x:D):(V.d x).copy=.d x:=rfl
theorem CW(i o n k:Nat):(V.bsl i o n k).copy=.bsl i o n k:=rfl
theorem D8(T k:Nat)(rows:List (List D)):(V.own T k rows).copy=.d (.sl rows):=rfl
theorem CZ:V.nil.copy=.nil:=rfl
theorem DE(cs:List V):(V.agg cs).copy=.agg cs:=rfl
theorem Er(i:Nat):(V.mp i).copy=.mp i:=rfl
def DA(n off:Nat)(b:Option (List V)):Option (List V):=match b with|some cs=>if off+n≤cs.length∧bV cs=true then some (((cs.drop off).take n).map V.copy)else none|none=>none
theorem uP(n off:Nat)(cs:List V):DA n off (some cs)=if off+n≤cs.length∧bV cs=true then some (((cs.drop off).take n).map V.copy)else none:=rfl
theorem vE(i off n:Nat):jx σ (.bsl i off n 1)=DA n off σ[i]? := by
 unfold jx DA iT;simp only;cases σ[i]? with
 | none=>rfl
 | some cs=>simp only;split<;>rfl
theorem Bp(rows:List (List D)):jx σ (.d (.sl rows))=if rows.all (fun r=>r.length==1)=true then some (rows.flatten.map V.d)else none:=rfl
theorem Jq(off:Nat)(x:X)(d:Option Nat)(r:List O)(t:Tag Q):bi C (⟨d,.fa off x,none⟩::r) ρ σ Q t=bh (faV off (ev C ρ x)) (fun v=>bi C r (putd ρ d v) σ Q .mk) .mk:=rfl
theorem Js(off:Nat)(x:X)(d:Option Nat)(r:List O)(t:Tag K):bF C (⟨d,.fa off x,none⟩::r) ρ σ K t=bh (faV off (ev C ρ x)) (fun v=>bF C r (putd ρ d v) σ K .mk) .mk:=by
 unfold bF bh;simp only[bg,aP,ba,pv];cases faV off (ev C ρ x)<;>rfl
theorem Hu(kk:Nat)(x i:X)(d:Option Nat)(r:List O)(t:Tag Q):bi C (⟨d,.ia kk x i,none⟩::r) ρ σ Q t=bh (iaV kk (ev C ρ x) (ev C ρ i)) (fun v=>bi C r (putd ρ d v) σ Q .mk) .mk:=rfl
theorem Hx(kk:Nat)(x i:X)(d:Option Nat)(r:List O)(t:Tag K):bF C (⟨d,.ia kk x i,none⟩::r) ρ σ K t=bh (iaV kk (ev C ρ x) (ev C ρ i)) (fun v=>bF C r (putd ρ d v) σ K .mk) .mk:=by
 unfold bF bh;simp only[bg,aP,ba,pv];cases iaV kk (ev C ρ x) (ev C ρ i)<;>rfl
theorem ID(x i:X)(d:Option Nat)(r:List O)(t:Tag Q):bi C (⟨d,.ix x i,none⟩::r) ρ σ Q t=bh (ixV (ev C ρ x) (ev C ρ i)) (fun v=>bi C r (putd ρ d v) σ Q .mk) .mk:=rfl
theorem FZ(s:Bool)(x:X)(d:Option Nat)(r:List O)(t:Tag Q):bi C (⟨d,.len s x,none⟩::r) ρ σ Q t=bh (lR s (ev C ρ x)) (fun v=>bi C r (putd ρ d v) σ Q .mk) .mk:=rfl
theorem Fw(x:X)(i:Nat)(d:Option Nat)(r:List O)(t:Tag Q):bi C (⟨d,.ext x i,none⟩::r) ρ σ Q t=bh (qi (ev C ρ x) i) (fun v=>bi C r (putd ρ d v) σ Q .mk) .mk:=rfl
theorem DT(kk:Nat)(ag:Bool)(x:X)(d:Option Nat)(r:List O)(t:Tag Q):bi C (⟨d,.load kk ag x,none⟩::r) ρ σ Q t=bh (eJ σ kk ag (ev C ρ x)) (fun v=>bi C r (putd ρ d v) σ Q .mk) .mk:=rfl
theorem Dd(kk:Nat)(ag:Bool)(x:X)(d:Option Nat)(r:List O)(t:Tag K):bF C (⟨d,.load kk ag x,none⟩::r) ρ σ K t=bh (eJ σ kk ag (ev C ρ x)) (fun v=>bF C r (putd ρ d v) σ K .mk) .mk:=by
 unfold bF bh;simp only[bg,aP,ba,pv];cases eJ σ kk ag (ev C ρ x)<;>rfl
theorem EX(zs:List V)(ps:List (Nat×Nat×X))(d:Option Nat)(r:List O)(t:Tag Q):bi C (⟨d,.bld zs ps,none⟩::r) ρ σ Q t=bh ((bc (ev C ρ) zs ps).map V.agg) (fun v=>bi C r (putd ρ d v) σ Q .mk) .mk:=rfl
theorem G7(zs:List V)(ps:List (Nat×Nat×X))(d:Option Nat)(r:List O)(t:Tag K):bF C (⟨d,.bld zs ps,none⟩::r) ρ σ K t=bh ((bc (ev C ρ) zs ps).map V.agg) (fun v=>bF C r (putd ρ d v) σ K .mk) .mk:=by
 unfold bF bh;simp only[bg,aP,ba,pv];cases bc (ev C ρ) zs ps<;>rfl
theorem F6(s:Bool)(kk:Nat)(x:X)(lo hi:Option X)(d:Option Nat)(r:List O)(t:Tag Q):bi C (⟨d,.sub s kk x lo hi,none⟩::r) ρ σ Q t=bh (qf s kk (ev C ρ x) (lo.map (ev C ρ)) (hi.map (ev C ρ))) (fun v=>bi C r (putd ρ d v) σ Q .mk) .mk:=rfl
theorem DL(f:FuncId)(cap:List X)(d:Option Nat)(r:List O)(t:Tag Q):bi C (⟨d,.mkfn f cap,none⟩::r) ρ σ Q t=bi C r (putd ρ d (.fn f (cap.map (ev C ρ)))) σ Q .mk:=rfl
theorem GR(ty:TypeId)(x:X)(d:Option Nat)(r:List O)(t:Tag Q):bi C (⟨d,.mki ty x,none⟩::r) ρ σ Q t=bh (tI ty (ev C ρ x)) (fun v=>bi C r (putd ρ d v) σ Q .mk) .mk:=rfl
theorem IL(g:Bool)(x y:X)(d:Option Nat)(r:List O)(t:Tag Q):bi C (⟨d,.mx g x y,none⟩::r) ρ σ Q t=bh (mxV g (ev C ρ x) (ev C ρ y)) (fun v=>bi C r (putd ρ d v) σ Q .mk) .mk:=rfl
theorem Dj(f:FuncId)(args:List X)(d:Option Nat)(r:List O)(t:Tag Q):bi C (⟨d,.call f args,none⟩::r) ρ σ Q t=xp C f (args.map fun x=>(ev C ρ x).lend) σ (fun v σ'=>bi C r (putd ρ d v) σ' Q .mk) (fun v σ'=>Q (.panic v) ρ σ') .mk .mk:=rfl
theorem AO(x:X)(args:List X)(d:Option Nat)(r:List O)(t:Tag Q):bi C (⟨d,.callv x args,none⟩::r) ρ σ Q t=A2 (ev C ρ x) (args.map fun x=>(ev C ρ x).lend) (fun f as=>xp C f as σ (fun v σ'=>bi C r (putd ρ d v) σ' Q .mk) (fun v σ'=>Q (.panic v) ρ σ') .mk .mk) .mk:=rfl
theorem Hc(T:Nat)(cs:List V)(d:Option Nat)(r:List O)(t:Tag Q):bi C (⟨d,.new T cs,none⟩::r) ρ σ Q t=bi C r (putd ρ d (.ptr σ.length 0)) (σ++[cs]) Q .mk:=rfl
theorem Hj(T:Nat)(x:X)(d:Option Nat)(r:List O)(t:Tag Q):bi C (⟨d,.box T x,none⟩::r) ρ σ Q t=onT ((ev C ρ x).boxable=true) (fun _=>bi C r (putd ρ d (.ptr σ.length 0)) (σ++[(ev C ρ x).cells]) Q .mk) .mk:=rfl
theorem Fk(kk:Nat)(x y:X)(d:Option Nat)(r:List O)(t:Tag Q):bi C (⟨d,.sto kk x y,none⟩::r) ρ σ Q t=ry (ev C ρ x) (fun i o=>bxT σ[i]? (fun cs=>onT ((ev C ρ y).boxable=true∧(ev C ρ y).cells.length=kk∧o+kk≤cs.length∧bV cs=true) (fun _=>bi C r ρ (σ.set i (over cs o (ev C ρ y).cells)) Q .mk) .mk) .mk) .mk:=rfl
theorem DY(x:X)(s:Nat)(d:Option Nat)(r:List O)(t:Tag Q):bi C (⟨d,.stoo x s,none⟩::r) ρ σ Q t=ry (ev C ρ x) (fun i o=>lP (get ρ s) (fun T k rows=>bxT σ[i]? (fun cs=>onT (o<cs.length∧bV cs=true) (fun _=>bi C r (put ρ s (.d (.sl rows))) (σ.set i (over cs o [.own T k rows])) Q .mk) .mk) .mk) .mk) .mk:=by
 unfold bi ry lP bxT onT;simp only[cl,cQ];cases ev C ρ x<;>simp only
 cases get ρ s<;>rfl
theorem FP(x:X)(d:Option Nat)(r:List O)(t:Tag Q):bi C (⟨d,.ldo x,none⟩::r) ρ σ Q t=ry (ev C ρ x) (fun i o=>bxT σ[i]? (fun cs=>lP (cs.getD o .junk) (fun T k rows=>bi C r (putd ρ d (.own T k rows)) (σ.set i (cs.set o (.d (.sl rows)))) Q .mk) .mk) .mk) .mk:=by
 unfold bi ry lP bxT;simp only[cl,cQ];cases ev C ρ x<;>simp only
 rename_i i o;cases σ[i]?<;>simp only
 rename_i cs;rw[J0];cases cs[o]? with
 | none=>rfl
 | some v=>cases v<;>rfl
theorem ED(s:Nat)(d:Option Nat)(r:List O)(t:Tag Q):bi C (⟨d,.mvo s,none⟩::r) ρ σ Q t=lP (get ρ s) (fun T k rows=>bi C r (putd (put ρ s (.d (.sl rows))) d (.own T k rows)) σ Q .mk) .mk:=rfl
theorem C0(T k:Nat)(d:Option Nat)(r:List O)(t:Tag Q):bi C (⟨d,.nilo T k,none⟩::r) ρ σ Q t=bi C r (putd ρ d (.own T k [])) σ Q .mk:=rfl
theorem FG(T k bytes s:Nat)(y:X)(d:Option Nat)(r:List O)(t:Tag Q):bi C (⟨d,.app T k bytes s y,none⟩::r) ρ σ Q t=lP (get ρ s) (fun T' k' rows=>rwT (dp (ev C ρ y)) (fun rows2=>onT (T'=T∧k'=k∧rows2.all (fun r=>r.length==k)=true∧(rows.length+rows2.length)*bytes≤140737488355328) (fun _=>bi C r (putd (put ρ s (.d (.sl rows))) d (.own T k (rows++rows2))) σ Q .mk) .mk) .mk) .mk:=by
 unfold bi lP rwT onT;simp only[cl,cQ];cases get ρ s<;>simp only
 cases dp (ev C ρ y)<;>rfl
theorem FT(T k:Nat)(xs:List X)(d:Option Nat)(r:List O)(t:Tag Q):bi C (⟨d,.mks T k xs,none⟩::r) ρ σ Q t=rwT (aC (xs.map (ev C ρ))) (fun rows=>onT (rows.all (fun r=>r.length==k)=true) (fun _=>bi C r (putd ρ d (.d (.sl rows))) σ Q .mk) .mk) .mk:=rfl
theorem El(T k:Nat)(xs:List X)(d:Option Nat)(r:List O)(t:Tag Q):bi C (⟨d,.mkso T k xs,none⟩::r) ρ σ Q t=rwT (aC (xs.map (ev C ρ))) (fun rows=>onT (rows.all (fun r=>r.length==k)=true) (fun _=>bi C r (putd ρ d (.own T k rows)) σ Q .mk) .mk) .mk:=rfl
theorem Fh(x:X)(d:Option Nat)(r:List O)(t:Tag Q):bi C (⟨d,.pan x,none⟩::r) ρ σ Q t=ifT (ev C ρ x) (fun ty v=>Q (.panic (.iface ty v)) ρ σ) .mk:=rfl
theorem A9(d:Option Nat)(op:OP)(s:Nat)(b:Bool)(r:List O)(t:Tag Q):bi C (⟨d,op,some (s,b)⟩::r) ρ σ Q t=oW (get ρ s) (fun c=>nX (c==b) (fun _=>bi C (⟨d,op,none⟩::r) (put ρ s (.d (.lit (.bool b)))) σ Q .mk) (fun _=>bi C r (putd (put ρ s (.d (.lit (.bool (!b))))) d (.tup [])) σ Q .mk) .mk .mk) (fun _=>bi C r (putd ρ d (.tup [])) σ Q .mk) .mk .mk:=by
 unfold bi oW nX;simp only[cl,beq_iff_eq,beq_eq_false_iff_ne,ne_eq];all_goals rfl
theorem Fg(t:Tag Q):bi C [] ρ σ Q t=Q .normal ρ σ:=rfl
theorem C6(f:FuncId)(args:List X)(d:Option Nat)(r:List O)(t:Tag K):bF C (⟨d,.call f args,none⟩::r) ρ σ K t=yI C f (args.map fun x=>(ev C ρ x).lend) σ (fun v=>bF C r (putd ρ d v) σ K .mk) .mk:=rfl
theorem AE(f:FuncId)(args:List X)(d:Option Nat)(r:List O)(t:Tag Q):bi C (⟨d,.calln f args,none⟩::r) ρ σ Q t=xp C f (args.map fun x=>(ev C ρ x).copy) σ (fun v σ'=>bi C r (putd ρ d v) σ' Q .mk) (fun v σ'=>Q (.panic v) ρ σ') .mk .mk:=rfl
theorem Cc(f:FuncId)(s:Nat)(args:List X)(d:Option Nat)(r:List O)(t:Tag Q):bi C (⟨d,.callo f s args,none⟩::r) ρ σ Q t=lP (get ρ s) (fun T k rows=>yn C f [] T k rows (args.map fun x=>(ev C ρ x).lend) σ (fun v σ'=>bi C r (putd (put ρ s (.d (.sl rows))) d v) σ' Q .mk) (fun v σ'=>Q (.panic v) (put ρ s (.d (.sl rows))) σ') .mk .mk) .mk:=by
 unfold lP yn bi;simp only[cl,cQ];cases get ρ s<;>rfl
theorem G6(T k:Nat)(xs:List X)(d:Option Nat)(r:List O)(t:Tag K):bF C (⟨d,.mks T k xs,none⟩::r) ρ σ K t=rwT (aC (xs.map (ev C ρ))) (fun rows=>onT (rows.all (fun r=>r.length==k)=true) (fun _=>bF C r (putd ρ d (.d (.sl rows))) σ K .mk) .mk) .mk:=rfl
theorem Ba(d:Option Nat)(op:OP)(s:Nat)(b:Bool)(r:List O)(t:Tag K):bF C (⟨d,op,some (s,b)⟩::r) ρ σ K t=oW (get ρ s) (fun c=>nX (c==b) (fun _=>bF C (⟨d,op,none⟩::r) (put ρ s (.d (.lit (.bool b)))) σ K .mk) (fun _=>bF C r (putd (put ρ s (.d (.lit (.bool (!b))))) d (.tup [])) σ K .mk) .mk .mk) (fun _=>bF C r (putd ρ d (.tup [])) σ K .mk) .mk .mk:=by
 unfold bF oW nX;simp only[bg,beq_iff_eq,beq_eq_false_iff_ne,ne_eq];all_goals rfl
theorem Ho(t:Tag K):bF C [] ρ σ K t=K ρ:=rfl
theorem Iu(x:X)(d:Option Nat)(r:List O)(t:Tag KA):bz C cc σ σ2 (⟨d,.mv x,none⟩::r) ρ acc KA t=bz C cc σ σ2 r (putd ρ d (ev C ρ x).copy) acc KA .mk:=by
 unfold bz;simp only[co,bW,aP,ba,pv,true_and]
theorem Du(x y z:X)(d:Option Nat)(r:List O)(t:Tag KA):bz C cc σ σ2 (⟨d,.pick x y z,none⟩::r) ρ acc KA t=bh (gx (ev C ρ x) (ev C ρ y) (ev C ρ z)) (fun v=>bz C cc σ σ2 r (putd ρ d v) acc KA .mk) .mk:=by
 unfold bz bh;simp only[co,bW,aP,ba,pv];cases (gx (ev C ρ x) (ev C ρ y) (ev C ρ z))<;>simp
theorem Hh(o:BinOp)(x y:X)(d:Option Nat)(r:List O)(t:Tag KA):bz C cc σ σ2 (⟨d,.bin o x y,none⟩::r) ρ acc KA t=bh (cC o (ev C ρ x) (ev C ρ y)) (fun v=>bz C cc σ σ2 r (putd ρ d v) acc KA .mk) .mk:=by
 unfold bz bh;simp only[co,bW,aP,ba,pv];cases (cC o (ev C ρ x) (ev C ρ y))<;>simp
theorem DX(o:BinOp)(x y:X)(d:Option Nat)(r:List O)(t:Tag KA):bz C cc σ σ2 (⟨d,.binb o x y,none⟩::r) ρ acc KA t=bh (lG o (ev C ρ x) (ev C ρ y)) (fun v=>bz C cc σ σ2 r (putd ρ d v) acc KA .mk) .mk:=by
 unfold bz bh;simp only[co,bW,aP,ba,pv];cases (lG o (ev C ρ x) (ev C ρ y))<;>simp
theorem Gb(neq:Bool)(T:TypeId)(ks:List Kd)(x y:X)(d:Option Nat)(r:List O)(t:Tag KA):bz C cc σ σ2 (⟨d,.eqa neq T ks x y,none⟩::r) ρ acc KA t=onT (C.eqs T=true) (fun _=>bh (tN neq ks (ev C ρ x) (ev C ρ y)) (fun v=>bz C cc σ σ2 r (putd ρ d v) acc KA .mk) .mk) .mk:=by
 unfold bz bh onT;by_cases h:C.eqs T=true
 ·simp only[co,bW,aP,ba,pv,h,if_true,true_and];cases tN neq ks (ev C ρ x) (ev C ρ y)<;>simp
 ·simp only[co,bW,aP,ba,pv,if_neg h];simp[h]
theorem EE(neq:Bool)(x:X)(d:Option Nat)(r:List O)(t:Tag KA):bz C cc σ σ2 (⟨d,.nif neq x,none⟩::r) ρ acc KA t=bh (tu neq (ev C ρ x)) (fun v=>bz C cc σ σ2 r (putd ρ d v) acc KA .mk) .mk:=by
 unfold bz bh;simp only[co,bW,aP,ba,pv];cases tu neq (ev C ρ x)<;>simp
theorem Jw(o:UnOp)(x:X)(d:Option Nat)(r:List O)(t:Tag KA):bz C cc σ σ2 (⟨d,.un o x,none⟩::r) ρ acc KA t=bh (unV o (ev C ρ x)) (fun v=>bz C cc σ σ2 r (putd ρ d v) acc KA .mk) .mk:=by
 unfold bz bh;simp only[co,bW,aP,ba,pv];cases (unV o (ev C ρ x))<;>simp
theorem DB(kd:IntKind)(x:X)(d:Option Nat)(r:List O)(t:Tag KA):bz C cc σ σ2 (⟨d,.conv kd x,none⟩::r) ρ acc KA t=bh (ol kd (ev C ρ x)) (fun v=>bz C cc σ σ2 r (putd ρ d v) acc KA .mk) .mk:=by
 unfold bz bh;simp only[co,bW,aP,ba,pv];cases (ol kd (ev C ρ x))<;>simp
theorem DS(x:X)(d:Option Nat)(r:List O)(t:Tag KA):bz C cc σ σ2 (⟨d,.cstr x,none⟩::r) ρ acc KA t=bh (uz (ev C ρ x)) (fun v=>bz C cc σ σ2 r (putd ρ d v) acc KA .mk) .mk:=by
 unfold bz bh;simp only[co,bW,aP,ba,pv];cases (uz (ev C ρ x))<;>simp
theorem Ep(x:X)(d:Option Nat)(r:List O)(t:Tag KA):bz C cc σ σ2 (⟨d,.cbs x,none⟩::r) ρ acc KA t=bh (qm σ (ev C ρ x)) (fun v=>onT (qm σ2 (ev C ρ x)=some v) (fun _=>bz C cc σ σ2 r (putd ρ d v) acc KA .mk) .mk) .mk:=by
 unfold bz bh onT;simp only[co,bW,aP,ba,pv];cases qm σ (ev C ρ x)<;>simp only
 rename_i v;cases qm σ2 (ev C ρ x)<;>simp
theorem AY(x:X)(d:Option Nat)(r:List O)(t:Tag KA):bz C cc σ σ2 (⟨d,.nilck x,none⟩::r) ρ acc KA t=bh (fh (ev C ρ x)) (fun v=>bz C cc σ σ2 r (putd ρ d v) acc KA .mk) .mk:=by
 unfold bz bh;simp only[co,bW,aP,ba,pv];cases (fh (ev C ρ x))<;>simp
theorem Hy(off:Nat)(x:X)(d:Option Nat)(r:List O)(t:Tag KA):bz C cc σ σ2 (⟨d,.fa off x,none⟩::r) ρ acc KA t=bh (faV off (ev C ρ x)) (fun v=>bz C cc σ σ2 r (putd ρ d v) acc KA .mk) .mk:=by
 unfold bz bh;simp only[co,bW,aP,ba,pv];cases (faV off (ev C ρ x))<;>simp
theorem Ja(kk:Nat)(x i:X)(d:Option Nat)(r:List O)(t:Tag KA):bz C cc σ σ2 (⟨d,.ia kk x i,none⟩::r) ρ acc KA t=bh (iaV kk (ev C ρ x) (ev C ρ i)) (fun v=>bz C cc σ σ2 r (putd ρ d v) acc KA .mk) .mk:=by
 unfold bz bh;simp only[co,bW,aP,ba,pv];cases (iaV kk (ev C ρ x) (ev C ρ i))<;>simp
theorem I0(kk m:Nat)(x i:X)(d:Option Nat)(r:List O)(t:Tag KA):bz C cc σ σ2 (⟨d,.aa kk m x i,none⟩::r) ρ acc KA t=bh (aaV kk m (ev C ρ x) (ev C ρ i)) (fun v=>bz C cc σ σ2 r (putd ρ d v) acc KA .mk) .mk:=by
 unfold bz bh;simp only[co,bW,aP,ba,pv];cases (aaV kk m (ev C ρ x) (ev C ρ i))<;>simp
theorem Ih(x i:X)(d:Option Nat)(r:List O)(t:Tag KA):bz C cc σ σ2 (⟨d,.ix x i,none⟩::r) ρ acc KA t=bh (ixV (ev C ρ x) (ev C ρ i)) (fun v=>bz C cc σ σ2 r (putd ρ d v) acc KA .mk) .mk:=by
 unfold bz bh;simp only[co,bW,aP,ba,pv];cases (ixV (ev C ρ x) (ev C ρ i))<;>simp
theorem GO(off kk:Nat)(ag:Bool)(x:X)(d:Option Nat)(r:List O)(t:Tag KA):bz C cc σ σ2 (⟨d,.fld off kk ag x,none⟩::r) ρ acc KA t=bh (zF off kk ag (ev C ρ x)) (fun v=>bz C cc σ σ2 r (putd ρ d v) acc KA .mk) .mk:=by
 unfold bz bh;simp only[co,bW,aP,ba,pv];cases (zF off kk ag (ev C ρ x))<;>simp
theorem Gn(s:Bool)(x:X)(d:Option Nat)(r:List O)(t:Tag KA):bz C cc σ σ2 (⟨d,.len s x,none⟩::r) ρ acc KA t=bh (lR s (ev C ρ x)) (fun v=>bz C cc σ σ2 r (putd ρ d v) acc KA .mk) .mk:=by
 unfold bz bh;simp only[co,bW,aP,ba,pv];cases (lR s (ev C ρ x))<;>simp
theorem Ev(x:X)(i:Nat)(d:Option Nat)(r:List O)(t:Tag KA):bz C cc σ σ2 (⟨d,.ext x i,none⟩::r) ρ acc KA t=bh (qi (ev C ρ x) i) (fun v=>bz C cc σ σ2 r (putd ρ d v) acc KA .mk) .mk:=by
 unfold bz bh;simp only[co,bW,aP,ba,pv];cases (qi (ev C ρ x) i)<;>simp
theorem GS(zs:List V)(ps:List (Nat×Nat×X))(d:Option Nat)(r:List O)(t:Tag KA):bz C cc σ σ2 (⟨d,.bld zs ps,none⟩::r) ρ acc KA t=bh ((bc (ev C ρ) zs ps).map V.agg) (fun v=>bz C cc σ σ2 r (putd ρ d v) acc KA .mk) .mk:=by
 unfold bz bh;simp only[co,bW,aP,ba,pv];cases ((bc (ev C ρ) zs ps).map V.agg)<;>simp
theorem Fe(s:Bool)(kk:Nat)(x:X)(lo hi:Option X)(d:Option Nat)(r:List O)(t:Tag KA):bz C cc σ σ2 (⟨d,.sub s kk x lo hi,none⟩::r) ρ acc KA t=bh (qf s kk (ev C ρ x) (lo.map (ev C ρ)) (hi.map (ev C ρ))) (fun v=>bz C cc σ σ2 r (putd ρ d v) acc KA .mk) .mk:=by
 unfold bz bh;simp only[co,bW,aP,ba,pv];cases (qf s kk (ev C ρ x) (lo.map (ev C ρ)) (hi.map (ev C ρ)))<;>simp
theorem C2(f:FuncId)(cap:List X)(d:Option Nat)(r:List O)(t:Tag KA):bz C cc σ σ2 (⟨d,.mkfn f cap,none⟩::r) ρ acc KA t=bz C cc σ σ2 r (putd ρ d (.fn f (cap.map (ev C ρ)))) acc KA .mk:=by
 unfold bz;simp only[co,bW,aP,ba,pv,true_and]
theorem E9(ty:TypeId)(x:X)(d:Option Nat)(r:List O)(t:Tag KA):bz C cc σ σ2 (⟨d,.mki ty x,none⟩::r) ρ acc KA t=bh (tI ty (ev C ρ x)) (fun v=>bz C cc σ σ2 r (putd ρ d v) acc KA .mk) .mk:=by
 unfold bz bh;simp only[co,bW,aP,ba,pv];cases (tI ty (ev C ρ x))<;>simp
theorem Iz(g:Bool)(x y:X)(d:Option Nat)(r:List O)(t:Tag KA):bz C cc σ σ2 (⟨d,.mx g x y,none⟩::r) ρ acc KA t=bh (mxV g (ev C ρ x) (ev C ρ y)) (fun v=>bz C cc σ σ2 r (putd ρ d v) acc KA .mk) .mk:=by
 unfold bz bh;simp only[co,bW,aP,ba,pv];cases (mxV g (ev C ρ x) (ev C ρ y))<;>simp
theorem DZ(kk:Nat)(ag:Bool)(x:X)(d:Option Nat)(r:List O)(t:Tag KA):bz C cc σ σ2 (⟨d,.load kk ag x,none⟩::r) ρ acc KA t=bh (eJ σ kk ag (ev C ρ x)) (fun v=>onT (eJ σ2 kk ag (ev C ρ x)=some v) (fun _=>bz C cc σ σ2 r (putd ρ d v) acc KA .mk) .mk) .mk:=by
 unfold bz bh onT;simp only[co,bW,aP,ba,pv];cases eJ σ kk ag (ev C ρ x)<;>simp only
 rename_i v;cases eJ σ2 kk ag (ev C ρ x)<;>simp
theorem Ek(f:FuncId)(args:List X)(d:Option Nat)(r:List O)(t:Tag KA):bz C cc σ σ2 (⟨d,.call f args,none⟩::r) ρ acc KA t=sb C f (args.map fun x=>(ev C ρ x).lend) σ σ2 (fun v=>bz C cc σ σ2 r (putd ρ d v) acc KA .mk) .mk:=by
 unfold bz sb;simp only[co,bW,aP];exact propext ⟨fun⟨v,h1,⟨u,h2,h3⟩,h4⟩=>⟨v,h1,h3▸h2,h4⟩,fun⟨v,h1,h2,h3⟩=>⟨v,h1,⟨v,h2,rfl⟩,h3⟩⟩
theorem FX(T k:Nat)(xs:List X)(d:Option Nat)(r:List O)(t:Tag KA):bz C cc σ σ2 (⟨d,.mks T k xs,none⟩::r) ρ acc KA t=rwT (aC (xs.map (ev C ρ))) (fun rows=>onT (rows.all (fun r=>r.length==k)=true) (fun _=>bz C cc σ σ2 r (putd ρ d (.d (.sl rows))) acc KA .mk) .mk) .mk:=by
 unfold bz rwT onT;simp only[co,bW,aP];cases aC (xs.map (ev C ρ))<;>simp only
 rename_i rows;exact propext ⟨fun⟨h1,_,h2⟩=>⟨h1,h2⟩,fun⟨h1,h2⟩=>⟨h1,⟨h1,trivial⟩,h2⟩⟩
theorem EP(y:X)(d:Option Nat)(r:List O)(t:Tag KA):bz C cc σ σ2 (⟨d,.ldo y,none⟩::r) ρ acc KA t=onT (ev C ρ y=.ptr cc.i cc.off) (fun _=>bz C cc σ σ2 r (putd ρ d (.d (.sl cc.rows))) acc KA .mk) .mk:=by
 unfold bz onT;simp only[co,true_and]
theorem Hk(T k bytes s:Nat)(y:X)(d:Option Nat)(r:List O)(t:Tag KA):bz C cc σ σ2 (⟨d,.app T k bytes s y,none⟩::r) ρ none KA t=rwT (dp (ev C ρ y)) (fun rows2=>onT (cc.T=T∧cc.k=k∧rows2.all (fun r=>r.length==k)=true∧(cc.rows.length+rows2.length)*bytes≤140737488355328) (fun _=>bz C cc σ σ2 r (putd ρ d (.d (.sl (cc.rows++rows2)))) (some rows2) KA .mk) .mk) .mk:=by
 unfold bz rwT onT;simp only[co,true_and];cases dp (ev C ρ y)<;>rfl
theorem DH(y:X)(s:Nat)(r:List O)(t:Tag KA):bz C cc σ σ2 (⟨none,.stoo y s,none⟩::r) ρ acc KA t=onT (ev C ρ y=.ptr cc.i cc.off) (fun _=>bz C cc σ σ2 r ρ acc KA .mk) .mk:=by
 unfold bz onT;simp only[co,true_and]
theorem Fr(rows2:List (List D))(t:Tag KA):bz C cc σ σ2 [] ρ (some rows2) KA t=KA ρ rows2:=rfl
theorem B2(l:List O)(keep:List Nat)(t:Tag Q):ep C n0 (.drawa l keep) ρ σ Q t=zM C l ρ σ (fun ρ' σ'=>Q .normal (aN keep ρ') σ') .mk:=rfl
theorem Io(x:X)(d:Option Nat)(r:List O)(t:Tag KS):stT C (⟨d,.mv x,none⟩::r) ρ σ accs KS t=stT C r (putd ρ d (ev C ρ x).copy) σ accs KS .mk:=rfl
theorem FW(o:BinOp)(x y:X)(d:Option Nat)(r:List O)(t:Tag KS):stT C (⟨d,.bin o x y,none⟩::r) ρ σ accs KS t=bh (cC o (ev C ρ x) (ev C ρ y)) (fun v=>stT C r (putd ρ d v) σ accs KS .mk) .mk:=by
 unfold stT bh;simp only[fq,aP,ba,pv];cases cC o (ev C ρ x) (ev C ρ y)<;>rfl
theorem Bk(x:X)(d:Option Nat)(r:List O)(t:Tag KS):stT C (⟨d,.nilck x,none⟩::r) ρ σ accs KS t=bh (fh (ev C ρ x)) (fun v=>stT C r (putd ρ d v) σ accs KS .mk) .mk:=by
 unfold stT bh;simp only[fq,aP,ba,pv];cases fh (ev C ρ x)<;>rfl
theorem Ie(off:Nat)(x:X)(d:Option Nat)(r:List O)(t:Tag KS):stT C (⟨d,.fa off x,none⟩::r) ρ σ accs KS t=bh (faV off (ev C ρ x)) (fun v=>stT C r (putd ρ d v) σ accs KS .mk) .mk:=by
 unfold stT bh;simp only[fq,aP,ba,pv];cases faV off (ev C ρ x)<;>rfl
theorem Ib(kk:Nat)(x i:X)(d:Option Nat)(r:List O)(t:Tag KS):stT C (⟨d,.ia kk x i,none⟩::r) ρ σ accs KS t=bh (iaV kk (ev C ρ x) (ev C ρ i)) (fun v=>stT C r (putd ρ d v) σ accs KS .mk) .mk:=by
 unfold stT bh;simp only[fq,aP,ba,pv];cases iaV kk (ev C ρ x) (ev C ρ i)<;>rfl
theorem Ej(kk:Nat)(ag:Bool)(x:X)(d:Option Nat)(r:List O)(t:Tag KS):stT C (⟨d,.load kk ag x,none⟩::r) ρ σ accs KS t=bh (eJ σ kk ag (ev C ρ x)) (fun v=>stT C r (putd ρ d v) σ accs KS .mk) .mk:=by
 unfold stT bh;simp only[fq,aP,ba,pv];cases eJ σ kk ag (ev C ρ x)<;>rfl
theorem GQ(zs:List V)(ps:List (Nat×Nat×X))(d:Option Nat)(r:List O)(t:Tag KS):stT C (⟨d,.bld zs ps,none⟩::r) ρ σ accs KS t=bh ((bc (ev C ρ) zs ps).map V.agg) (fun v=>stT C r (putd ρ d v) σ accs KS .mk) .mk:=by
 unfold stT bh;simp only[fq,aP,ba,pv];cases bc (ev C ρ) zs ps<;>rfl
theorem CP(f:FuncId)(args:List X)(d:Option Nat)(r:List O)(t:Tag KS):stT C (⟨d,.call f args,none⟩::r) ρ σ accs KS t=yI C f (args.map fun x=>(ev C ρ x).lend) σ (fun v=>stT C r (putd ρ d v) σ accs KS .mk) .mk:=rfl
theorem GJ(T k:Nat)(xs:List X)(d:Option Nat)(r:List O)(t:Tag KS):stT C (⟨d,.mks T k xs,none⟩::r) ρ σ accs KS t=rwT (aC (xs.map (ev C ρ))) (fun rows=>onT (rows.all (fun r=>r.length==k)=true) (fun _=>stT C r (putd ρ d (.d (.sl rows))) σ accs KS .mk) .mk) .mk:=rfl
theorem G9(kk:Nat)(y z:X)(r:List O)(t:Tag KS):stT C (⟨none,.sto kk y z,none⟩::r) ρ σ none KS t=ry (ev C ρ y) (fun i off=>bxT σ[i]? (fun cs=>onT ((ev C ρ z).boxable=true∧(ev C ρ z).cells.length=kk∧off+kk≤cs.length∧bV cs=true) (fun _=>stT C r ρ σ (some (σ.set i (over cs off (ev C ρ z).cells))) KS .mk) .mk) .mk) .mk:=by
 unfold stT onT ry bxT;simp only[fq,true_and];cases ev C ρ y<;>first|rfl|(simp only;done)|(simp only;rfl)
theorem Fm(σf:List (List V))(t:Tag KS):stT C [] ρ σ (some σf) KS t=KS ρ σf:=rfl
theorem Bi(l:List O)(keep:List Nat)(t:Tag Q):ep C n0 (.draws l keep) ρ σ Q t=stT C l ρ σ none (fun ρ' σ'=>Q .normal (aN keep ρ') σ') .mk:=rfl
theorem Be(s d0 d1 T k bytes:Nat)(y:X)(l:List O)(keep:List Nat)(t:Tag Q):ep C n0 (.drawb s d0 d1 T k bytes y l keep) ρ σ Q t=lP (get ρ s) (fun T' k' rows=>onT (T'=T∧k'=k) (fun _=>bF C l ρ σ (fun ρ'=>rwT (dp (ev C ρ' y)) (fun r2=>onT (r2.all (fun r=>r.length==k)=true∧(rows.length+r2.length)*bytes≤140737488355328) (fun _=>Q .normal (aN keep (put (put (put ρ' s (.own T k (rows++r2))) d0 (.d (.sl rows))) d1 (.d (.sl (rows++r2))))) σ) .mk) .mk) .mk) .mk) .mk:=by
 unfold ep lP rwT onT bF;first|(simp only[awp,vg,nV,and_assoc];done)|(simp only[awp,vg,nV,and_assoc];rfl)
def gT(C:Cx)(l:List (O×GK))(m:Nat)(h:List (List (List V)))(p:List PendG)(ρ:ai)(σ:List (List V))(k:ai→List (List V)→Prop)(P:V→List (List V)→Prop)(_:Tag k)(_:Tag P):Prop:=dR C P k l m h p ρ σ
def gnx(F:ai→List (List V)→Prop):dG:=fun e ρ σ=>e=.normal∧F ρ σ
theorem tj(F:ai→List (List V)→Prop):gnx F .normal ρ σ=F ρ σ:=by simp[gnx]
section
variable {m : Nat} {h : List (List (List V))} {p : List PendG} {k : ai → List (List V) → Prop} {P : V → List (List V) → Prop} {r : List (O × GK)}
theorem Es(s:Tag k)(t:Tag P):gT C [] m h p ρ σ k P s t=k ρ σ:=rfl
theorem DQ(o:O)(lo:Nat)(s:Tag k)(t:Tag P):gT C ((o,.free lo)::r) m h p ρ σ k P s t=bF C [o] ρ σ (fun ρ'=>gT C r m h p ρ' σ k P .mk .mk) .mk:=rfl
theorem CY(o:O)(lo hi:Nat)(s:Tag k)(t:Tag P):gT C ((o,.calm lo hi)::r) m h p ρ σ k P s t=bF C [o] ρ σ (fun ρ'=>onT (kC C o ρ ρ' (m-lo) h) (fun _=>gT C r m h (qy m hi ⟨o,ρ,ρ',hi⟩ p) ρ' σ k P .mk .mk) .mk) .mk:=rfl
theorem Dx(o:O)(lo:Nat)(s:Tag k)(t:Tag P):gT C ((o,.slot lo)::r) m h p ρ σ k P s t=bi C [o] ρ σ (gnx fun ρ' σ'=>gT C r m h p ρ' σ' k P .mk .mk) .mk:=rfl
def Dq(C:Cx)(f:FuncId)(vs:List V)(σ:List (List V))(R:List (List V)→Prop)(kk:V→List (List V)→Prop)(P:V→List (List V)→Prop)(pn:Unit→Prop)(_:Tag R)(_:Tag kk)(_:Tag P)(_:Tag pn):Prop:=
 (∃v σ1,Fun C f vs σ (fun o σ'=>o=.ret v∧σ'=σ1)∧R σ1∧kk v σ1)∨(Fun C f vs σ (fun o σ'=>∃u,o=.panic u∧P u σ')∧pn ())
theorem gH{f:FuncId}{vs:List V}{R:List (List V)→Prop}{kk P:V→List (List V)→Prop}{pn:Unit→Prop}{t1:Tag R}{t2:Tag kk}{t3:Tag P}{t4:Tag pn}{v:V}{σ1:List (List V)}(h1:Fun C f vs σ (fun o σ'=>o=.ret v∧σ'=σ1))(h2:R σ1)(h3:kk v σ1):Dq C f vs σ R kk P pn t1 t2 t3 t4:=.inl ⟨v,σ1,h1,h2,h3⟩
theorem D2(d:Option Nat)(f:FuncId)(args:List X)(s:Tag k)(t:Tag P):gT C ((⟨d,.call f args,none⟩,.act)::r) m h p ρ σ k P s t=Dq C f (args.map fun x=>(ev C ρ x).lend) σ (fun σ1=>reG C (m+1) σ1 p) (fun v σ1=>gT C r (m+1) (σ::h) p (putd ρ d v) σ1 k P .mk .mk) P (fun _=>dU C r m h (putd ρ d .junk) σ) .mk .mk .mk .mk:=by
 unfold gT Dq;simp only[dR]
theorem D5(d:Option Nat)(x:X)(y:Nat)(s:Tag k)(t:Tag P):gT C ((⟨d,.stoo x y,none⟩,.act)::r) m h p ρ σ k P s t=bi C [⟨d,.stoo x y,none⟩] ρ σ (gnx fun ρ' σ'=>onT (reG C (m+1) σ' p) (fun _=>gT C r (m+1) (σ::h) p ρ' σ' k P .mk .mk) .mk) .mk:=by
 unfold gT;simp only[dR];rfl
theorem Dh(σ':List (List V)):reG C m σ' []=True:=rfl
theorem Br(o:O)(ρ1 ρ2:ai)(hi:Nat)(σ':List (List V)):reG C m σ' (⟨o,ρ1,ρ2,hi⟩::p)=onT (if m≤hi then bF C [o] ρ1 σ' (fun ρ'=>ρ'=ρ2) .mk else True) (fun _=>reG C m σ' p) .mk:=rfl
theorem uO(o:O)(ρ1 ρ2:ai):kC C o ρ1 ρ2 0 h=True:=by cases h<;>rfl
theorem wC(o:O)(ρ1 ρ2:ai)(n:Nat):kC C o ρ1 ρ2 (n+1) (σ::h)=onT (bF C [o] ρ1 σ (fun ρ'=>ρ'=ρ2) .mk) (fun _=>kC C o ρ1 ρ2 n h) .mk:=rfl
theorem A4(hi:Nat)(x:PendG):qy m hi x p=if m<hi then x::p else p:=rfl
theorem GY:dU C [] m h ρ σ=True:=rfl
theorem C4(o:O)(lo:Nat):dU C ((o,.free lo)::r) m h ρ σ=if lo≤m then bF C [o] ρ σ (fun ρ'=>dU C r m h ρ' σ) .mk else dU C r m h (ap o (.junk,.junk) ρ) σ:=rfl
theorem D4(o:O)(lo hi:Nat):dU C ((o,.calm lo hi)::r) m h ρ σ=if lo≤m then bF C [o] ρ σ (fun ρ'=>onT (kC C o ρ ρ' (m-lo) h) (fun _=>dU C r m h ρ' σ) .mk) .mk else dU C r m h (ap o (.junk,.junk) ρ) σ:=rfl
theorem C3(o:O)(lo:Nat):dU C ((o,.slot lo)::r) m h ρ σ=if lo≤m then bi C [o] ρ σ (gnx fun ρ' _=>dU C r m h ρ' σ) .mk else dU C r m h (ap o (.junk,.junk) ρ) σ:=rfl
theorem F1(o:O):dU C ((o,.act)::r) m h ρ σ=dU C r m h (ap o (.junk,.junk) ρ) σ:=rfl
end
theorem Bo(l:List (O×GK))(keep:List Nat)(t:Tag Q):ep C n0 (.drawg l keep) ρ σ Q t=gT C l 0 [] [] ρ σ (fun ρ' σ'=>Q .normal (aN keep ρ') σ') (fun u σ'=>∀ρ',Q (.panic u) (aN keep ρ') σ') .mk .mk:=rfl
def vT(C:Cx)(p:AV)(σ:List (List V))(K:ai→List (List V)→Prop)(l:List O)(pend:List (O×ai×V))(ρ:ai)(_:Tag K):Prop:=BN C p σ K l pend ρ
theorem Bt(p:AV)(K:ai→List (List V)→Prop)(d:Option Nat)(op:OP)(r:List O)(pend:List (O×ai×V))(t:Tag K):vT C p σ K (⟨d,op,none⟩::r) pend ρ t=bF C [⟨some 0,op,none⟩] ρ σ (fun ρ'=>vT C p σ K r ((⟨d,op,none⟩,ρ,get ρ' 0)::pend) (putd ρ d (get ρ' 0)) .mk) .mk:=by
 unfold vT bF;simp only[BN,bg,true_and,putd];refine propext ⟨gb fun v hh=>?_,gb fun v hh=>?_⟩
 ·simpa only[aS,if_true]using hh
 ·simpa only[aS,if_true]using hh
theorem Df(d T bytes:Nat)(z:V)(s:Nat)(y:X)(st:Bool)(x k v:X)(K:ai→List (List V)→Prop)(pend:List (O×ai×V))(t:Tag K):vT C ⟨d,T,bytes,z,s,y,st,x,k,v⟩ σ K [] pend ρ t=bxT (jx σ (ev C ρ y)) (fun src=>onT (0<src.length) (fun _=>avT (get ρ s) src bytes z σ (fun u σ1=>onT (reV C σ1 pend) (fun _=>
 kvT (eo st σ1 (ev C (put ρ d u) x)) (gJ st (ev C (put ρ d u) k)) (fun kv key=>K (put ρ d u) (jl σ1 st (iz key (ev C (put ρ d u) v).copy kv) (ev C (put ρ d u) x))) .mk) .mk) .mk) .mk) .mk:=by
 unfold vT bxT onT avT;simp only[BN]
 have inner:∀u σ1,(reV C σ1 pend∧DV C ⟨d,T,bytes,z,s,y,st,x,k,v⟩ K (put ρ d u) σ1)=(reV C σ1 pend∧kvT (eo st σ1 (ev C (put ρ d u) x)) (gJ st (ev C (put ρ d u) k)) (fun kv key=>K (put ρ d u) (jl σ1 st (iz key (ev C (put ρ d u) v).copy kv) (ev C (put ρ d u) x))) .mk):=fun u σ1=>by
  unfold DV kvT;simp only;cases eo st σ1 (ev C (put ρ d u) x)<;>cases gJ st (ev C (put ρ d u) k)<;>simp
 simp only[inner];cases jx σ (ev C ρ y)<;>simp
theorem Bc:reV C σ []=True:=rfl
theorem zD(d:Option Nat)(op:OP)(g:Option (Nat×Bool))(ρ1:ai)(v:V)(r:List (O×ai×V)):reV C σ ((⟨d,op,g⟩,ρ1,v)::r)=onT (bF C [⟨some 0,op,none⟩] ρ1 σ (fun ρ'=>get ρ' 0=v) .mk) (fun _=>reV C σ r) .mk:=by
 unfold onT bF;simp only[reV,bg,putd];refine propext ⟨fun⟨h1,h2⟩=>⟨gb (fun u hh=>?_) h1,h2⟩,fun⟨h1,h2⟩=>⟨gb (fun u hh=>?_) h1,h2⟩⟩
 ·simpa only[aS,if_true]using hh
 ·simpa only[aS,if_true]using hh
theorem Dy(c:Cell){l:List O}{K:ai→List (List V)→Prop}{t:Tag K}{cs:List V}(h1:σ[c.i]? = some cs)(h2:cs[c.off]? = some (.own c.T c.k c.rows))
 (h:bz C c σ (σ.set c.i (cs.set c.off (.d (.sl c.rows)))) l ρ none (fun ρ' rows2=>K ρ' ((σ.set c.i (cs.set c.off (.d (.sl c.rows)))).set c.i (over (cs.set c.off (.d (.sl c.rows))) c.off [.own c.T c.k (c.rows++rows2)]))) .mk):zM C l ρ σ K t:=⟨c,cs,h1,h2,h⟩
theorem Eb(t:Tag Q):ep C n0 .skip ρ σ Q t=Q .normal ρ σ:=rfl
theorem Fu(l:List O)(keep:List Nat)(t:Tag Q):ep C n0 (.ops l keep) ρ σ Q t=bi C l ρ σ (fun e ρ' σ'=>Q e (aN keep ρ') σ') .mk:=rfl
theorem DK(l:List O)(keep:List Nat)(t:Tag Q):ep C n0 (.draw l keep) ρ σ Q t=bF C l ρ σ (fun ρ'=>Q .normal (aN keep ρ') σ) .mk:=rfl
theorem Gs(a b:Cd)(t:Tag Q):ep C n0 (.seq a b) ρ σ Q t=ep C n0 a ρ σ (andThen (fun ρ' σ'=>ep C n0 b ρ' σ' Q .mk) Q) .mk:=rfl
theorem DM(x:X)(a b:Cd)(t:Tag Q):ep C n0 (.cond x a b) ρ σ Q t=CI (ev C ρ x) (fun c=>nX c (fun _=>ep C n0 a ρ σ Q .mk) (fun _=>ep C n0 b ρ σ Q .mk) .mk .mk) .mk:=rfl
theorem BZ(id:Nat)(a:Cd)(t:Tag Q):ep C n0 (.block id a) ρ σ Q t=ep C n0 a ρ σ (lD id Q) .mk:=rfl
theorem Eh(id:Nat)(t:Tag Q):ep C n0 (.exit id) ρ σ Q t=Q (.exit id) ρ σ:=rfl
theorem Gj(t:Tag Q):ep C n0 .ret ρ σ Q t=Q .ret ρ σ:=rfl
theorem qB(next:ai→List (List V)→Prop):andThen next Q .normal ρ σ=next ρ σ:=rfl
theorem yE(next:ai→List (List V)→Prop):andThen next Q .ret ρ σ=Q .ret ρ σ:=rfl
theorem wD(next:ai→List (List V)→Prop)(i:Nat):andThen next Q (.exit i) ρ σ=Q (.exit i) ρ σ:=rfl
theorem sm(next:ai→List (List V)→Prop)(v:V):andThen next Q (.panic v) ρ σ=Q (.panic v) ρ σ:=rfl
theorem tZ(id:Nat):lD id Q .normal ρ σ=Q .normal ρ σ:=rfl
theorem B6(id:Nat):lD id Q .ret ρ σ=Q .ret ρ σ:=rfl
theorem zk(id j:Nat):lD id Q (.exit j) ρ σ=if j=id then Q .normal ρ σ else Q (.exit j) ρ σ:=rfl
theorem uI(id:Nat)(v:V):lD id Q (.panic v) ρ σ=Q (.panic v) ρ σ:=rfl
theorem dA{Q':dG}(hq:∀e ρ σ,Q e ρ σ→Q' e ρ σ):∀{l:List O} {ρ:ai} {σ:List (List V)},cl C l ρ σ Q→cl C l ρ σ Q'
 | [],ρ,σ,h=>hq _ _ _ h
 | o::r,ρ,σ,h=>by
  have step:∀{ρ:ai} {K K':ai→List (List V)→Prop},(∀ρ σ,K ρ σ→K' ρ σ)→cQ C o.op o.dst ρ σ K Q→cQ C o.op o.dst ρ σ K' Q':=by
   intro ρ K K' hk hr
   have hout:∀(o':Out) (σ':List (List V)),(match o' with | .ret v=>K (putd ρ o.dst v) σ' | .panic v=>Q (.panic v) ρ σ')→(match o' with | .ret v=>K' (putd ρ o.dst v) σ' | .panic v=>Q' (.panic v) ρ σ'):=by
    intro o' σ' hh;cases o' with
    | ret v=>exact hk _ _ hh
    | panic v=>exact hq _ _ _ hh
   generalize o.op=op at hr ⊢;unfold cQ at hr ⊢;cases op<;>(try simp only at hr ⊢)
   case call f args=>exact hr.mono hout
   case callv x args=>generalize ev C ρ x=z at hr ⊢;cases z<;>(try simp only at hr ⊢)<;>first|exact hr.elim|exact hr.mono hout
   case calln f args=>exact hr.mono hout
   case callm x args t=>
    generalize ev C ρ x=z at hr ⊢;generalize get ρ t=z' at hr ⊢;split at hr;case h_2=>exact hr.elim
    refine hr.mono fun o' σ' hh=>?_;cases o' with
    | ret v=>exact hk _ _ hh
    | panic v=>exact hq _ _ _ hh
   case callo f t args=>
    generalize get ρ t=z' at hr ⊢;split at hr;case h_2=>exact hr.elim
    refine hr.mono fun o' σ' hh=>?_;cases o' with
    | ret v=>exact hk _ _ hh
    | panic v=>exact hq _ _ _ hh
   case new T cs=>exact hk _ _ hr
   case box T x=>exact⟨hr.1,hk _ _ hr.2⟩
   case sto k x y=>
    generalize ev C ρ x=z at hr ⊢;cases z<;>(try simp only at hr ⊢)<;>first|exact hr.elim|skip
    rename_i i off;generalize σ[i]? = z at hr ⊢;cases z<;>(try simp only at hr ⊢)<;>first|exact hr.elim|exact⟨hr.1,hk _ _ hr.2⟩
   case stoo x t=>
    generalize ev C ρ x=z at hr ⊢;cases z<;>(try simp only at hr ⊢)<;>first|exact hr.elim|skip
    rename_i i off;generalize get ρ t=z at hr ⊢;cases z<;>(try simp only at hr ⊢)<;>first|exact hr.elim|skip
    generalize σ[i]? = z at hr ⊢;cases z<;>(try simp only at hr ⊢)<;>first|exact hr.elim|exact⟨hr.1,hk _ _ hr.2⟩
   case ldo x=>
    generalize ev C ρ x=z at hr ⊢;cases z<;>(try simp only at hr ⊢)<;>first|exact hr.elim|skip
    rename_i i off;generalize σ[i]? = z at hr ⊢;cases z<;>(try simp only at hr ⊢)<;>first|exact hr.elim|skip
    rename_i cs;generalize cs[off]? = z at hr ⊢;cases z<;>(try simp only at hr ⊢)<;>first|exact hr.elim|skip
    rename_i v;cases v<;>(try simp only at hr ⊢)<;>first|exact hr.elim|exact hk _ _ hr
   case mvo t=>generalize get ρ t=z at hr ⊢;cases z<;>(try simp only at hr ⊢)<;>first|exact hr.elim|exact hk _ _ hr
   case nilo T k=>exact hk _ _ hr
   case app T k b t y=>
    generalize get ρ t=z at hr ⊢;cases z<;>(try simp only at hr ⊢)<;>first|exact hr.elim|skip
    generalize dp (ev C ρ y)=z at hr ⊢;cases z<;>(try simp only at hr ⊢)<;>first|exact hr.elim|exact⟨hr.1,hk _ _ hr.2⟩
   case mks T k xs=>generalize aC (xs.map (ev C ρ))=z at hr ⊢;cases z<;>(try simp only at hr ⊢)<;>first|exact hr.elim|exact⟨hr.1,hk _ _ hr.2⟩
   case mkso T k xs=>generalize aC (xs.map (ev C ρ))=z at hr ⊢;cases z<;>(try simp only at hr ⊢)<;>first|exact hr.elim|exact⟨hr.1,hk _ _ hr.2⟩
   case mkc T k bytes x=>
    generalize ev C ρ x=z at hr ⊢;cases z<;>(try simp only at hr ⊢)<;>first|exact hr.elim|skip
    rename_i z;cases z<;>(try simp only at hr ⊢)<;>first|exact hr.elim|skip
    rename_i z;cases z<;>(try simp only at hr ⊢)<;>first|exact hr.elim|exact⟨hr.1,hk _ _ hr.2⟩
   case mkb T bytes q x=>
    generalize ev C ρ x=z at hr ⊢;cases z<;>(try simp only at hr ⊢)<;>first|exact hr.elim|skip
    rename_i z;cases z<;>(try simp only at hr ⊢)<;>first|exact hr.elim|skip
    rename_i z;cases z<;>(try simp only at hr ⊢)<;>first|exact hr.elim|exact⟨hr.1,hk _ _ hr.2⟩
   case pan x=>generalize ev C ρ x=z at hr ⊢;cases z<;>(try simp only at hr ⊢)<;>first|exact hr.elim|exact hq _ _ _ hr
   case mmk st=>exact hk _ _ hr
   case mkv T xs=>generalize fK (xs.map (ev C ρ))=z at hr ⊢;cases z<;>(try simp only at hr ⊢)<;>first|exact hr.elim|exact hk _ _ hr
   case appv T bytes z t y=>
    generalize jx σ (ev C ρ y)=q at hr ⊢;cases q<;>(try simp only at hr ⊢)<;>first|exact hr.elim|exact⟨hr.1,sx (fun v σ' hh=>hk _ _ hh) hr.2⟩
   case mst st x k v=>
    generalize eo st σ (ev C ρ x)=z at hr ⊢;cases z<;>(try simp only at hr ⊢)<;>first|exact hr.elim|skip
    generalize gJ st (ev C ρ k)=z at hr ⊢;cases z<;>(try simp only at hr ⊢)<;>first|exact hr.elim|exact hk _ _ hr
   case mdl st x k=>
    generalize eo st σ (ev C ρ x)=z at hr ⊢;cases z<;>(try simp only at hr ⊢)<;>first|exact hr.elim|skip
    generalize gJ st (ev C ρ k)=z at hr ⊢;cases z<;>(try simp only at hr ⊢)<;>first|exact hr.elim|exact hk _ _ hr
   case clr z x=>
    generalize ev C ρ x=v at hr ⊢;by_cases he:qj v=true
    ·rw[if_pos he]at hr ⊢;exact hk _ _ hr
    ·rw[if_neg he]at hr ⊢;generalize asB v=q at hr ⊢;cases q with
     | none=>exact hr.elim
     | some q=>
      obtain⟨i,off,n⟩:=q;simp only at hr ⊢;generalize σ[i]? = z at hr ⊢;cases z<;>(try simp only at hr ⊢)<;>first|exact hr.elim|exact⟨hr.1,hk _ _ hr.2⟩
   case cpy x y=>
    generalize asB (ev C ρ x)=q at hr ⊢;cases q with
    | none=>exact hr.elim
    | some q=>
     obtain⟨i,off,n⟩:=q;simp only at hr ⊢;generalize jx σ (ev C ρ y)=z2 at hr ⊢;generalize σ[i]? = z at hr ⊢;cases z<;>cases z2<;>(try simp only at hr ⊢)<;>first|exact hr.elim|exact⟨hr.1,hk _ _ hr.2⟩
   all_goals (split at hr<;>first|exact hk _ _ hr|exact hr.elim)
  simp only[cl]at h ⊢;cases hg:o.g with
  | none=>rw[hg]at h;exact step (fun _ _ hh=>dA hq hh) h
  | some p=>
   obtain⟨t,want⟩:=p;rw[hg]at h;simp only at h ⊢;split at h
   ·rename_i b hb;exact⟨fun e=>step (fun _ _ hh=>dA hq hh) (h.1 e),fun e=>dA hq (h.2 e)⟩
   ·rename_i hb;exact dA hq h
   ·exact h.elim
theorem eU{op:OP}{k k':V→Prop}(hk:∀v,k v→k' v)(h:aP C op ρ σ k):aP C op ρ σ k':=by
 obtain⟨v,h1,h2⟩:=dF h;unfold aP at h1 ⊢;split at h1
 ·obtain⟨u,g1,g2⟩:=h1;subst g2;exact⟨u,g1,hk _ h2⟩
 ·split at h1
  ·obtain⟨u,g1,g2⟩:=h1;subst g2;exact⟨u,g1,hk _ h2⟩
  ·exact h1.elim
 ·split at h1
  ·exact⟨h1.1,hk _ (h1.2▸h2)⟩
  ·exact h1.elim
 ·obtain⟨u,g1,g2⟩:=h1;subst g2;exact⟨u,g1,hk _ h2⟩
 ·split at h1
  ·subst h1;exact hk _ h2
  ·exact h1.elim
theorem cO{K K':ai→Prop}(hk:∀ρ,K ρ→K' ρ):∀{l:List O} {ρ:ai},bg C l ρ σ K→bg C l ρ σ K'
 | [],ρ,h=>hk _ h
 | o::r,ρ,h=>by
  simp only[bg]at h ⊢;cases hg:o.g with
  | none=>rw[hg]at h;exact eU (fun _ hh=>cO hk hh) h
  | some p=>
   obtain⟨t,want⟩:=p;rw[hg]at h;simp only at h ⊢;split at h
   ·rename_i b hb;exact⟨fun e=>eU (fun _ hh=>cO hk hh) (h.1 e),fun e=>cO hk (h.2 e)⟩
   ·rename_i hb;exact cO hk h
   ·exact h.elim
theorem d6{c:Cell}{K K':ai→List (List D)→Prop}(hk:∀ρ r,K ρ r→K' ρ r):∀{l:List O} {ρ:ai} {acc:Option (List (List D))},co C c σ σ2 l ρ acc K→co C c σ σ2 l ρ acc K'
 | [],ρ,acc,h=>by
  cases acc with
  | none=>exact h.elim
  | some r=>exact hk _ _ h
 | o::r,ρ,acc,h=>by
  unfold co at h ⊢;split at h
  ·exact⟨h.1,h.2.1,d6 hk h.2.2⟩
  ·refine⟨h.1,?_⟩;have h2:=h.2;split at h2
   ·exact⟨h2.1,d6 hk h2.2⟩
   ·exact h2.elim
  ·exact⟨h.1,h.2.1,h.2.2.1,d6 hk h.2.2.2⟩
  ·split at h
   ·exact eU (fun v hh=>⟨hh.1,d6 hk hh.2⟩) h
   ·split at h
    ·exact⟨fun e=>eU (fun v hh=>⟨hh.1,d6 hk hh.2⟩) (h.1 e),fun e=>d6 hk (h.2 e)⟩
    ·exact d6 hk h
    ·exact h.elim
theorem fH{K K':ai→List (List V)→Prop}(hk:∀ρ r,K ρ r→K' ρ r):∀{l:List O} {ρ:ai} {acc:Option (List (List V))},fq C σ l ρ acc K→fq C σ l ρ acc K'
 | [],ρ,acc,h=>by
  cases acc with
  | none=>exact h.elim
  | some r=>exact hk _ _ h
 | o::r,ρ,acc,h=>by
  unfold fq at h ⊢;split at h
  ·refine⟨h.1,h.2.1,?_⟩;have h2:=h.2.2;split at h2
   ·split at h2
    ·exact⟨h2.1,fH hk h2.2⟩
    ·exact h2.elim
   ·exact h2.elim
  ·split at h
   ·exact eU (fun v hh=>fH hk hh) h
   ·split at h
    ·exact⟨fun e=>eU (fun v hh=>fH hk hh) (h.1 e),fun e=>fH hk (h.2 e)⟩
    ·exact fH hk h
    ·exact h.elim
theorem fG{K K':ai→List (List V)→Prop}{P P':V→List (List V)→Prop}(hk:∀ρ r,K ρ r→K' ρ r)(hp:∀u r,P u r→P' u r):∀{l:List (O×GK)} {m:Nat} {h:List (List (List V))} {p:List PendG} {ρ:ai} {σ:List (List V)},dR C P K l m h p ρ σ→dR C P' K' l m h p ρ σ
 | [],_,_,_,_,_,hg=>hk _ _ hg
 | (o,.free _)::r,_,_,_,_,_,hg=>by
  simp only[dR]at hg ⊢;exact cO (fun ρ' hh=>fG hk hp hh) hg
 | (o,.calm _ _)::r,_,_,_,_,_,hg=>by
  simp only[dR]at hg ⊢;exact cO (fun ρ' hh=>⟨hh.1,fG hk hp hh.2⟩) hg
 | (o,.slot _)::r,_,_,_,_,_,hg=>by
  simp only[dR]at hg ⊢;exact dA (fun e ρ' σ' hh=>⟨hh.1,fG hk hp hh.2⟩) hg
 | (⟨d,op,g⟩,.act)::r,m,h,p,ρ,σ,hg=>by
  have call:∀{f:FuncId} {vs:List V},((∃v σ1,Fun C f vs σ (fun o σ'=>o=.ret v∧σ'=σ1)∧reG C (m+1) σ1 p∧dR C P K r (m+1) (σ::h) p (putd ρ d v) σ1)∨(Fun C f vs σ (fun o σ'=>∃u,o=.panic u∧P u σ')∧dU C r m h (putd ρ d .junk) σ))→
   ((∃v σ1,Fun C f vs σ (fun o σ'=>o=.ret v∧σ'=σ1)∧reG C (m+1) σ1 p∧dR C P' K' r (m+1) (σ::h) p (putd ρ d v) σ1)∨(Fun C f vs σ (fun o σ'=>∃u,o=.panic u∧P' u σ')∧dU C r m h (putd ρ d .junk) σ)):=fun{f vs} hh=>by
   rcases hh with⟨v,σ1,h1,h2,h3⟩|⟨h1,h2⟩
   ·exact .inl ⟨v,σ1,h1,h2,fG hk hp h3⟩
   ·exact .inr ⟨h1.mono fun o σ' ⟨u,e1,e2⟩=>⟨u,e1,hp _ _ e2⟩,h2⟩
  cases op;case call f args=>simp only[dR]at hg ⊢;exact call hg
  case callv x args=>
   simp only[dR]at hg ⊢;obtain⟨f,cap,e,hh⟩:=hg;exact⟨f,cap,e,call hh⟩
  all_goals
   simp only[dR]at hg ⊢;exact dA (fun e ρ' σ' hh=>⟨hh.1,hh.2.1,fG hk hp hh.2.2⟩) hg
theorem kx:∀{c:Cd} {ρ:ai} {σ:List (List V)} {Q Q':dG},(∀e ρ σ,Q e ρ σ→Q' e ρ σ)→awp C n0 c ρ σ Q→awp C n0 c ρ σ Q':=by
 intro c
 induction c with
 | skip=>exact fun hq h=>hq _ _ _ h
 | ops l keep=>exact fun hq h=>dA (fun e ρ σ=>hq e _ σ) h
 | raw l es keep=>exact fun hq h pr M0 bm0 w0 id ops n M bm tk a w h1 h2 h3 h4 h5 h6=>wp_mono (h pr M0 bm0 w0 id ops n M bm tk a w h1 h2 h3 h4 h5 h6) (fun e a w hL=>hL.imp fun x ρ σ=>hq x _ σ)
 | draw l keep=>exact fun hq h=>cO (fun ρ=>hq _ _ _) h
 | drawa l keep=>
  intro ρ σ Q Q' hq h;obtain⟨c,cs,h1,h2,h3⟩:=h;exact⟨c,cs,h1,h2,d6 (fun ρ r hh=>hq _ _ _ hh) h3⟩
 | draws l keep=>exact fun hq h=>fH (fun ρ r hh=>hq _ _ _ hh) h
 | drawg l keep=>
  intro ρ σ Q Q' hq h;exact fG (fun ρ σ hh=>hq _ _ _ hh) (fun u σ hh ρ'=>hq _ _ _ (hh ρ')) h
 | drawb s d0 d1 T k bytes y l keep=>
  intro ρ σ Q Q' hq h;simp only[awp,vg]at h ⊢;split at h
  ·refine⟨h.1,h.2.1,cO (fun ρ' hh=>?_) h.2.2⟩;split at hh
   ·exact⟨hh.1,hq _ _ _ hh.2⟩
   ·exact hh.elim
  ·exact h.elim
 | seq a b iha ihb=>
  exact fun hq h=>iha (fun e ρ σ hh=>by
   cases e with
   | normal=>exact ihb hq hh
   | ret=>exact hq _ _ _ hh
   | exit i=>exact hq _ _ _ hh
   | panic v=>exact hq _ _ _ hh) h
 | cond x a b iha ihb=>
  intro ρ σ Q Q' hq h;simp only[awp]at h ⊢;generalize ev C ρ x=z at h ⊢;cases z<;>(try simp only at h ⊢)<;>first|exact h.elim|skip
  rename_i x;cases x<;>(try simp only at h ⊢)<;>first|exact h.elim|skip
  rename_i v;cases v<;>(try simp only at h ⊢)<;>first|exact h.elim|skip
  exact⟨fun e=>iha hq (h.1 e),fun e=>ihb hq (h.2 e)⟩
 | block id a ih=>
  exact fun hq h=>ih (fun e ρ σ hh=>by
   cases e with
   | normal=>exact hq _ _ _ hh
   | ret=>exact hq _ _ _ hh
   | exit i=>
    simp only[lD]at hh ⊢;split
    ·rename_i e;rw[if_pos e]at hh;exact hq _ _ _ hh
    ·rename_i e;rw[if_neg e]at hh;exact hq _ _ _ hh
   | panic v=>exact hq _ _ _ hh) h
 | loop a ih=>
  intro ρ σ Q Q' hq h;obtain⟨ρ1,σ1,h0,I,h1,h2⟩:=h
  exact⟨ρ1,σ1,h0,I,h1,fun m ρ' σ' hI=>ih (fun e ρ σ hh=>by
   cases e with
   | normal=>exact hh
   | ret=>exact hq _ _ _ hh
   | exit i=>exact hq _ _ _ hh
   | panic v=>exact hq _ _ _ hh) (h2 m ρ' σ' hI)⟩
 | exit id=>exact fun hq h=>hq _ _ _ h
 | ret=>exact fun hq h=>hq _ _ _ h
theorem pz{a:Cd}(I:Nat→ai→List (List V)→Prop)(m:Nat){ρ1:ai}{σ1:List (List V)}(hu:dy n0 ρ σ ρ1 σ1)(h0:I m ρ1 σ1)
 (h:∀m ρ' σ',I m ρ' σ'→awp C n0 a ρ' σ' (andThen (fun ρ'' σ''=>∃m',m'<m∧∃ρ3 σ3,dy n0 ρ'' σ'' ρ3 σ3∧I m' ρ3 σ3) Q)):awp C n0 (.loop a) ρ σ Q:=
 ⟨ρ1,σ1,hu,I,⟨m,h0⟩,h⟩
theorem ln{R R':ai→List (List V)→Prop}{Q:dG}(h:∀ρ σ,R ρ σ→R' ρ σ):∀e ρ σ,andThen R Q e ρ σ→andThen R' Q e ρ σ:=fun e ρ σ hh=>by
 cases e with
 | normal=>exact h _ _ hh
 | ret=>exact hh
 | exit i=>exact hh
 | panic v=>exact hh
theorem zy{a:Cd}(I:Nat→ai→List (List V)→Prop)(m:Nat){σ1:List (List V)}(hu:Up σ σ1)(h0:I m ρ σ1)
 (h:∀m ρ' σ',I m ρ' σ'→awp C n0 a ρ' σ' (andThen (fun ρ'' σ''=>∃m',m'<m∧∃k,n0≤k∧ay k (σ''.take k)=true∧aq k ρ''=true∧I m' ρ'' (σ''.take k)) Q)):awp C n0 (.loop a) ρ σ Q:=
 pz I m (dy.up n0 ρ hu) h0 fun m ρ' σ' hI=>kx (ln fun ρ'' σ'' ⟨m',h1,k,h2,h3,h4,h5⟩=>⟨m',h1,ρ'',σ''.take k,.cut h2 h3 h4,h5⟩) (h m ρ' σ' hI)
theorem wJ{a:Cd}(ks:List Nat)(I:Nat→ai→List (List V)→Prop)(m:Nat){σ1:List (List V)}(hu:Up σ σ1)(h0:I m (aN ks ρ) σ1)
 (h:∀m ρ' σ',I m ρ' σ'→awp C n0 a ρ' σ' (andThen (fun ρ'' σ''=>∃m',m'<m∧∃k,n0≤k∧ay k (σ''.take k)=true∧aq k (aN ks ρ'')=true∧I m' (aN ks ρ'') (σ''.take k)) Q)):awp C n0 (.loop a) ρ σ Q:=
 pz I m ((dy.keep n0 ks ρ σ).trans (dy.up n0 _ hu)) h0 fun m ρ' σ' hI=>kx (ln fun ρ'' σ'' ⟨m',h1,k,h2,h3,h4,h5⟩=>⟨m',h1,_,σ''.take k,(dy.keep n0 ks ρ'' σ'').trans (.cut h2 h3 h4),h5⟩) (h m ρ' σ' hI)
end
mutual
theorem V.under_mono{k j:Nat}(hj:k≤j):∀v:V,V.under k v=true→V.under j v=true
 | .agg cs,h=>by simp only[V.under]at h ⊢;exact V.unders_mono hj cs h
 | .tup cs,h=>by simp only[V.under]at h ⊢;exact V.unders_mono hj cs h
 | .fn _ cs,h=>by simp only[V.under]at h ⊢;exact V.unders_mono hj cs h
 | .bnd _ cs,h=>by simp only[V.under]at h ⊢;exact V.unders_mono hj cs h
 | .iface _ v,h=>by simp only[V.under]at h ⊢;exact V.under_mono hj v h
 | .ptr i o,h=>by simp only[V.under,decide_eq_true_eq]at h ⊢;omega
 | .bsl i o n m,h=>by simp only[V.under,decide_eq_true_eq]at h ⊢;omega
 | .mp i,h=>by simp only[V.under,decide_eq_true_eq]at h ⊢;omega
 | .bsc i n c,h=>by simp only[V.under,decide_eq_true_eq]at h ⊢;omega
 | .mapc _ kv,h=>by simp only[V.under]at h ⊢;exact V.underkv_mono hj kv h
 | .d _,_=>rfl
 | .own _ _ _,_=>rfl
 | .nil,_=>rfl
 | .row _ _,_=>rfl
 | .junk,_=>rfl
theorem V.unders_mono{k j:Nat}(hj:k≤j):∀cs:List V,V.unders k cs=true→V.unders j cs=true
 | [],_=>rfl
 | x::r,h=>by
  simp only[V.unders,JO]at h ⊢;exact⟨V.under_mono hj x h.1,V.unders_mono hj r h.2⟩
theorem V.underkv_mono{k j:Nat}(hj:k≤j):∀kv:List (Key×V),V.underkv k kv=true→V.underkv j kv=true
 | [],_=>rfl
 | (q,x)::r,h=>by
  simp only[V.underkv,V.underp,JO]at h ⊢;exact⟨V.under_mono hj x h.1,V.underkv_mono hj r h.2⟩
end
theorem lO{σ:List (List V)}{k j:Nat}(h:ay k σ=true)(hj:k≤j):ay j σ=true:=by
 unfold ay at *;rw[JY]at h ⊢;exact fun cs hcs=>V.unders_mono hj cs (h cs hcs)
theorem an{σ l:List (List V)}(h:ay σ.length σ=true)(hl:l.all (fun cs=>V.unders (σ++l).length cs)=true):ay (σ++l).length (σ++l)=true:=by
 have:=lO h (j:=(σ++l).length) (by simp);unfold ay at *;rw[J6,this,hl];rfl
theorem ac{σ σ':List (List V)}{ρ:ai}{rs:List RV}{Q:Out→List (List V)→Prop}(hb:ay σ.length σ=true){v:V}(h:cG σ' ρ rs=some v)(hv:V.under σ.length v=true)(hσ:σ'.take σ.length=σ)(hq:Q (.ret v) σ):fin σ.length rs Q .ret ρ σ':=
 ⟨ρ,σ',.refl _ _ _,v,h,σ.length,Kc _,by rw[hσ];exact hb,hv,by rw[hσ];exact hq⟩
def Nxt(n0:Nat)(R:ai→List (List V)→Prop)(ρ:ai)(σ:List (List V))(_:Tag R):Prop:=∃k,n0≤k∧ay k (σ.take k)=true∧aq k ρ=true∧R ρ (σ.take k)
theorem Nxt.same{n0:Nat}{R:ai→List (List V)→Prop}{ρ:ai}{σ:List (List V)}(hn:n0≤σ.length)(hb:ay σ.length σ=true)(hs:aq σ.length ρ=true)(hR:R ρ σ):Nxt n0 R ρ σ .mk:=
 ⟨σ.length,hn,by rw[J4];exact hb,hs,by rw[J4];exact hR⟩
theorem Nxt.drop{n0:Nat}{R:ai→List (List V)→Prop}{ρ:ai}{σ l:List (List V)}(hn:n0≤σ.length)(hb:ay σ.length σ=true)(hs:aq σ.length ρ=true)(hR:R ρ σ):Nxt n0 R ρ (σ++l) .mk:=
 ⟨σ.length,hn,by rw[J7];exact hb,hs,by rw[J7];exact hR⟩
theorem jL{C:Cx}{n0:Nat}{ρ:ai}{σ:List (List V)}{Q:dG}{a:Cd}(R:Nat→ai→List (List V)→Prop)(n:Nat){σ1:List (List V)}(hu:Up σ σ1)(h0:R 0 ρ σ1)
 (h:∀j ρ' σ',j≤n→R j ρ' σ'→ep C n0 a ρ' σ' (andThen (fun ρ'' σ''=>j<n∧Nxt n0 (R (j+1)) ρ'' σ'' .mk) Q) .mk)(t:Tag Q):ep C n0 (.loop a) ρ σ Q t:=
 zy (fun m ρ σ=>∃j,j≤n∧m=n-j∧R j ρ σ) n hu ⟨0,by omega,by omega,h0⟩ fun m ρ' σ' ⟨j,hj,hm,hR⟩=>by
  have hi:∀e ρ'' σ'',andThen (fun ρ'' σ''=>j<n∧Nxt n0 (R (j+1)) ρ'' σ'' .mk) Q e ρ'' σ''→andThen (fun ρ'' σ''=>∃m',m'<m∧∃k,n0≤k∧ay k (σ''.take k)=true∧aq k ρ''=true∧∃j,j≤n∧m'=n-j∧R j ρ'' (σ''.take k)) Q e ρ'' σ'':=by
   intro e ρ'' σ'' h;cases e with
   | normal=>
    obtain⟨h1,k,h2,h3,h4,h5⟩:=h;exact⟨n-(j+1),by omega,k,h2,h3,h4,j+1,by omega,rfl,h5⟩
   | ret=>exact h
   | exit i=>exact h
   | panic v=>exact h
  exact kx hi (h j ρ' σ' hj hR)
theorem vd{C:Cx}{n0:Nat}{ρ:ai}{σ:List (List V)}{Q:dG}{a:Cd}(ks:List Nat)(R:Nat→ai→List (List V)→Prop)(n:Nat){σ1:List (List V)}(hu:Up σ σ1)(h0:R 0 (aN ks ρ) σ1)
 (h:∀j ρ' σ',j≤n→R j ρ' σ'→ep C n0 a ρ' σ' (andThen (fun ρ'' σ''=>j<n∧Nxt n0 (R (j+1)) (aN ks ρ'') σ'' .mk) Q) .mk)(t:Tag Q):ep C n0 (.loop a) ρ σ Q t:=
 wJ ks (fun m ρ σ=>∃j,j≤n∧m=n-j∧R j ρ σ) n hu ⟨0,by omega,by omega,h0⟩ fun m ρ' σ' ⟨j,hj,hm,hR⟩=>by
  have hi:∀e ρ'' σ'',andThen (fun ρ'' σ''=>j<n∧Nxt n0 (R (j+1)) (aN ks ρ'') σ'' .mk) Q e ρ'' σ''→andThen (fun ρ'' σ''=>∃m',m'<m∧∃k,n0≤k∧ay k (σ''.take k)=true∧aq k (aN ks ρ'')=true∧∃j,j≤n∧m'=n-j∧R j (aN ks ρ'') (σ''.take k)) Q e ρ'' σ'':=by
   intro e ρ'' σ'' h;cases e with
   | normal=>
    obtain⟨h1,k,h2,h3,h4,h5⟩:=h;exact⟨n-(j+1),by omega,k,h2,h3,h4,j+1,by omega,rfl,h5⟩
   | ret=>exact h
   | exit i=>exact h
   | panic v=>exact h
  exact kx hi (h j ρ' σ' hj hR)
theorem cU{C:Cx}{n0:Nat}{ρ:ai}{σ:List (List V)}{Q:dG}{a:Cd}(ks:List Nat)(R:Nat→ai→List (List V)→Prop)(n:Nat)(h0:R 0 (aN ks ρ) σ)
 (h:∀j ρ' σ',j≤n→R j ρ' σ'→ep C n0 a ρ' σ' (andThen (fun ρ'' σ''=>j<n∧Nxt n0 (R (j+1)) (aN ks ρ'') σ'' .mk) Q) .mk)(t:Tag Q):ep C n0 (.loop a) ρ σ Q t:=vd ks R n (.refl σ) h0 h t
theorem bC{C:Cx}{n0:Nat}{ρ:ai}{σ:List (List V)}{Q:dG}{a:Cd}(R:Nat→ai→List (List V)→Prop)(n:Nat)(h0:R 0 ρ σ)
 (h:∀j ρ' σ',j≤n→R j ρ' σ'→ep C n0 a ρ' σ' (andThen (fun ρ'' σ''=>j<n∧Nxt n0 (R (j+1)) ρ'' σ'' .mk) Q) .mk)(t:Tag Q):ep C n0 (.loop a) ρ σ Q t:=jL R n (.refl σ) h0 h t
def aO(v:V)(σ:List (List V)):Out→List (List V)→Prop:=fun o σ'=>o=.ret v∧σ'=σ
theorem ae{C:Cx}{f:FuncId}{args:List V}{σ:List (List V)}{v:V}{K P:V→List (List V)→Prop}{s:Tag K}{t:Tag P}(h:Fun C f args σ (aO v σ))(hk:K v σ):xp C f args σ K P s t:=
 h.mono fun o σ' ⟨e1,e2⟩=>by subst e1;subst e2;exact hk
theorem aZ{C:Cx}{f:FuncId}{args:List V}{σ:List (List V)}{v:V}{k:V→Prop}{t:Tag k}(h:Fun C f args σ (aO v σ))(hk:k v):yI C f args σ k t:=⟨v,h,hk⟩
theorem vS{C:Cx}{σ σ2:List (List V)}{f:FuncId}{args:List V}{v:V}{k:V→Prop}{t:Tag k}(h:∀σ,Fun C f args σ (aO v σ))(hk:k v):sb C f args σ σ2 k t:=⟨v,h σ,h σ2,hk⟩
theorem ck{C:Cx}{f:FuncId}{args:List V}{σ:List (List V)}{K P:V→List (List V)→Prop}{s:Tag K}{t:Tag P}{Q:Out→List (List V)→Prop}(h:Fun C f args σ Q)(hk:∀o σ',Q o σ'→yt K P o σ'):xp C f args σ K P s t:=h.mono hk
theorem ao{C:Cx}{f:FuncId}{fn:Func}{c:Cd}{rs:List RV}{args:List V}{σ:List (List V)}{Q:Out→List (List V)→Prop}(hf:C.P.funcs[f]? = some fn)(hok:aW C.tab fn args.length c rs=true)(hno:args.all (! ·.isOwn)=true)
 (h:ay σ.length σ=true→(∀i (h:i<args.length),V.Wf args[i])→ep C σ.length c (aj 0 args) σ (fin σ.length rs Q) .mk):Fun C f args σ Q:=wY hf hok hno h
theorem yy{C:Cx}{f:FuncId}{pre post:List V}{T k:Nat}{rows:List (List D)}{σ:List (List V)}{v:V}{K P:V→List (List V)→Prop}{s:Tag K}{t:Tag P}(h:lQ C f pre T k rows post σ (aO v σ))(hk:K v σ):yn C f pre T k rows post σ K P s t:=
 h.mono fun o σ' ⟨e1,e2⟩=>by subst e1;subst e2;exact hk
theorem lX{C:Cx}{f:FuncId}{pre post:List V}{T k:Nat}{σ:List (List V)}{Q:Out→List (List V)→Prop}(h:lQ C f pre T k [] post σ Q):Fun C f (pre++.nil::post) σ Q:=
 ⟨h.1,fun M bm tk pr w vs hG hI ht hl hr=>by
   have hm:pre.length<(pre++V.nil::post).length:=by simp
   have h0:=hr pre.length hm (by rw[hl];exact hm);simp only[JU (Kc _),J9,JW]at h0
   have e0:vs[pre.length]'(by rw[hl];exact hm)=.slice none 0 0:=by
    generalize vs[pre.length]'(by rw[hl];exact hm)=z at h0;cases h0;rfl
   refine h.2 M bm tk pr w vs hG hI (by rw[hl];simp) (fun i h1 h2=>?_) (.inl ⟨?_,rfl⟩)
   ·have h3:=hr i (by simpa using h1) h2;by_cases e:i<pre.length
    ·rw[J1 e]at h3 ⊢;exact h3
    ·rw[JU (by omega)]at h3 ⊢;by_cases e':i=pre.length
     ·subst e';simp only[J9,JW];rw[e0];exact .own (DRep.nil M)
     ·obtain⟨m,hm⟩:∃m,i-pre.length=m+1:=⟨i-pre.length-1,by omega⟩
      simp only[hm,J2]at h3 ⊢;exact h3
   ·rw[J0,JV (by rw[hl];exact hm),Ke];exact e0⟩
theorem xh{C:Cx}{f:FuncId}{fn:Func}{c:Cd}{rs:List RV}{pre post:List V}{T k:Nat}{rows:List (List D)}{σ:List (List V)}{Q:Out→List (List V)→Prop}(hf:C.P.funcs[f]? = some fn)(hok:aW C.tab fn (pre++.own T k rows::post).length c rs=true)(hno:(pre++post).all (! ·.isOwn)=true)
 (h:ay σ.length σ=true→(∀i (h:i<(pre++.own T k rows::post).length),V.Wf (pre++.own T k rows::post)[i])→ep C σ.length c (aj 0 (pre++.own T k rows::post)) σ (fin σ.length rs Q) .mk):lQ C f pre T k rows post σ Q:=tO hf hok hno h
section
variable {σ : List (List V)}
theorem BW(rows:List (List D)):lR false (.d (.sl rows))=some (aL .i64 rows.length):=rfl
theorem uJ(T k:Nat)(rows:List (List D)):lR false (.own T k rows)=some (aL .i64 rows.length):=rfl
theorem ww:lR false .nil=some (aL .i64 0):=rfl
theorem wh(s:ByteArray):lR true (.d (.lit (.string s)))=some (aL .i64 s.size):=rfl
theorem za(rows:List (List D)):dp (.d (.sl rows))=some rows:=rfl
theorem tB(T k:Nat)(rows:List (List D)):dp (.own T k rows)=some rows:=rfl
theorem sp:dp .nil=some []:=rfl
theorem E7(k:IntKind)(a b:Int):cC .add (.d (.lit (.int k a))) (.d (.lit (.int k b)))=some (aL k (k.wrap (a+b))):=by simp[cC,cA,jc]
theorem EQ(k:IntKind)(a b:Int):cC .sub (.d (.lit (.int k a))) (.d (.lit (.int k b)))=some (aL k (k.wrap (a-b))):=by simp[cC,cA,jc]
theorem GW(k:IntKind)(a b:Int):cC .mul (.d (.lit (.int k a))) (.d (.lit (.int k b)))=some (aL k (k.wrap (a*b))):=by simp[cC,cA,jc]
theorem Gl(k:IntKind)(a b:Int):cC .quo (.d (.lit (.int k a))) (.d (.lit (.int k b)))=if b=0 then none else some (aL k (k.wrap (a.tdiv b))):=by simp[cC,cA,jc]
theorem Fs(k:IntKind)(a b:Int):cC .rem (.d (.lit (.int k a))) (.d (.lit (.int k b)))=if b=0 then none else some (aL k (a.tmod b)):=by simp[cC,cA,jc]
theorem DI(k:IntKind)(a b:Int):cC .and (.d (.lit (.int k a))) (.d (.lit (.int k b)))=some (aL k (k.wrap (BitVec.ofInt k.bits a &&& BitVec.ofInt k.bits b).toNat)):=by simp only[cC,cA,JP,if_false,if_true,jc]
theorem EF(k:IntKind)(a b:Int):cC .or (.d (.lit (.int k a))) (.d (.lit (.int k b)))=some (aL k (k.wrap (BitVec.ofInt k.bits a ||| BitVec.ofInt k.bits b).toNat)):=by simp only[cC,cA,JP,if_false,if_true,jc]
theorem Da(k:IntKind)(a b:Int):cC .xor (.d (.lit (.int k a))) (.d (.lit (.int k b)))=some (aL k (k.wrap (BitVec.ofInt k.bits a ^^^ BitVec.ofInt k.bits b).toNat)):=by simp only[cC,cA,JP,if_false,if_true,jc]
theorem Fz(k:IntKind)(a b:Int):cC .eql (.d (.lit (.int k a))) (.d (.lit (.int k b)))=some (az (decide (a=b))):=by simp[cC,cA,jc];rfl
theorem FV(k:IntKind)(a b:Int):cC .neq (.d (.lit (.int k a))) (.d (.lit (.int k b)))=some (az (!decide (a=b))):=by simp[cC,cA,jc];rfl
theorem EB(k:IntKind)(a b:Int):cC .lss (.d (.lit (.int k a))) (.d (.lit (.int k b)))=some (az (decide (a<b))):=by simp[cC,cA,jc]
theorem Fl(k:IntKind)(a b:Int):cC .leq (.d (.lit (.int k a))) (.d (.lit (.int k b)))=some (az (decide (a≤b))):=by simp[cC,cA,jc]
theorem Gz(k:IntKind)(a b:Int):cC .gtr (.d (.lit (.int k a))) (.d (.lit (.int k b)))=some (az (decide (b<a))):=by simp[cC,cA,jc]
theorem FI(k:IntKind)(a b:Int):cC .geq (.d (.lit (.int k a))) (.d (.lit (.int k b)))=some (az (decide (b≤a))):=by simp[cC,cA,jc]
theorem EK(k k':IntKind)(a b:Int):cC .shl (.d (.lit (.int k a))) (.d (.lit (.int k' b)))=if b<0 then none else some (aL k (k.wrap (a*2^(min b.toNat k.bits)))):=by simp[cC,cA,uu]
theorem Gx(k k':IntKind)(a b:Int):cC .shr (.d (.lit (.int k a))) (.d (.lit (.int k' b)))=if b<0 then none else some (aL k (a.fdiv (2^(min b.toNat k.bits)))):=by simp[cC,cA,uu]
theorem qX(a b:ByteArray):(a.toList==b.toList)=decide (a=b):=by
 rw[ByteArray.toList_eq,ByteArray.toList_eq,Bool.eq_iff_iff];simp only[beq_iff_eq,decide_eq_true_eq];constructor
 ·intro h;cases a;cases b;simp only[ByteArray.mk.injEq];exact Array.toList_inj.1 h
 ·intro h;rw[h]
theorem DO(a b:ByteArray):cC .eql (.d (.lit (.string a))) (.d (.lit (.string b)))=some (az (decide (a=b))):=by simp only[cC,AM,qX]
theorem DD(a b:ByteArray):cC .neq (.d (.lit (.string a))) (.d (.lit (.string b)))=some (az (!decide (a=b))):=by simp only[cC,AM,qX]
theorem Di(a b:ByteArray):cC .add (.d (.lit (.string a))) (.d (.lit (.string b)))=if a.size+b.size≤9223372036854775807 then some (tl (a++b))else none:=rfl
theorem Dk(a b:ByteArray):cC .lss (.d (.lit (.string a))) (.d (.lit (.string b)))=some (az (Op.bytesLess a.toList b.toList)):=rfl
theorem FK:df [] [] []=some true:=rfl
theorem Gp(k:IntKind)(ks:List Kd)(a b:Int)(r s:List V):df (.i k::ks) (.d (.lit (.int k a))::r) (.d (.lit (.int k b))::s)=(df ks r s).map fun z=>decide (a=b)&&z:=by
 simp only[df,my,and_self,if_true];cases df ks r s<;>rfl
theorem F9(ks:List Kd)(a b:ByteArray)(r s:List V):df (.s::ks) (.d (.lit (.string a))::r) (.d (.lit (.string b))::s)=(df ks r s).map fun z=>decide (a=b)&&z:=by
 simp only[df,my];cases df ks r s<;>rfl
theorem Ef(ks:List Kd)(a b:Bool)(r s:List V):df (.b::ks) (.d (.lit (.bool a))::r) (.d (.lit (.bool b))::s)=(df ks r s).map fun z=>(a==b)&&z:=by
 simp only[df,my];cases df ks r s<;>rfl
theorem vX(neq:Bool):tu neq (.d (.lit .nilIface))=some (az (!neq)):=rfl
theorem AC(neq:Bool)(t:TypeId)(x:V):tu neq (.iface t x)=some (az neq):=rfl
theorem uR(neq:Bool):te neq (.d (.lit (.pointer none)))=some (az (!neq)):=rfl
theorem wQ(neq:Bool)(i o:Nat):te neq (.ptr i o)=some (az neq):=rfl
theorem Dm(f:FuncId)(cs:List V):V.copy (.bnd f cs)=.bnd f cs:=rfl
theorem Dw(f:FuncId)(cs:List V):V.lend (.bnd f cs)=.bnd f cs:=rfl
theorem CN(a b:Bool):lG .eql (.d (.lit (.bool a))) (.d (.lit (.bool b)))=some (az (a==b)):=rfl
theorem Dt(a b:Bool):lG .neq (.d (.lit (.bool a))) (.d (.lit (.bool b)))=some (az (!(a==b))):=rfl
theorem Gr(b:Bool):unV .not (.d (.lit (.bool b)))=some (az (!b)):=rfl
theorem Hl(k:IntKind)(n:Int):unV .neg (.d (.lit (.int k n)))=some (aL k (k.wrap (0-n))):=rfl
theorem Do(c a b:Bool):gx (.d (.lit (.bool c))) (.d (.lit (.bool a))) (.d (.lit (.bool b)))=some (az (bif c then a else b)):=rfl
theorem xo(b:Bool):gx (.d (.lit (.bool false))) (.tup []) (.d (.lit (.bool b)))=some (az b):=rfl
theorem vq(a:Bool):gx (.d (.lit (.bool true))) (.d (.lit (.bool a))) (.tup [])=some (az a):=rfl
theorem u9(b:Bool):gx (.d (.lit (.bool false))) .junk (.d (.lit (.bool b)))=some (az b):=rfl
theorem wF(a:Bool):gx (.d (.lit (.bool true))) (.d (.lit (.bool a))) .junk=some (az a):=rfl
theorem zU(off i o:Nat):faV off (.ptr i o)=some (.ptr i (o+off)):=rfl
theorem z9(off:Nat)(cs:List D)(o:Nat):faV off (.row cs o)=some (.row cs (o+off)):=rfl
def iaK(k:Nat)(o:Option (List D)):Option V:=match o with|some r=>if r.length=k then some (.row r 0)else none|none=>none
theorem AB(k:Nat)(r:List D):iaK k (some r)=if r.length=k then some (.row r 0)else none:=rfl
theorem yP(k:Nat)(y:D)(kd:IntKind)(j:Nat):iaV k (.d y) (.d (.lit (.int kd (j:Int))))=(dp (.d y)).bind fun rows=>iaK k rows[j]? := by
 unfold iaV;cases h:dp (.d y)with
 | none=>simp only[h];rfl
 | some rows=>simp only[h,Option.bind_some,JT];rw[if_pos (by omega)];rfl
theorem AA(k T k':Nat)(rows:List (List D))(kd:IntKind)(j:Nat):iaV k (.own T k' rows) (.d (.lit (.int kd (j:Int))))=iaK k rows[j]? := by
 unfold iaV;simp only[dp,JT];rw[if_pos (by omega)];rfl
theorem xZ(k b off n:Nat)(kd:IntKind)(j:Nat):iaV k (.bsl b off n k) (.d (.lit (.int kd (j:Int))))=if j<n then some (.ptr b (off+j*k))else none:=by
 unfold iaV;simp only[JT,and_true];by_cases h:j<n
 ·rw[if_pos h,if_pos (by omega)]
 ·rw[if_neg h,if_neg (by omega)]
theorem uW(b off n k:Nat):lR false (.bsl b off n k)=some (aL .i64 n):=rfl
def ixK(o:Option UInt8):Option V:=match o with|some b=>some (aL .u8 b.toNat)|none=>none
theorem zT(b:UInt8):ixK (some b)=some (aL .u8 b.toNat):=rfl
theorem zN(s:ByteArray)(kd:IntKind)(j:Nat):ixV (.d (.lit (.string s))) (.d (.lit (.int kd (j:Int))))=ixK s.data.toList[j]? := by
 simp only[ixV,JT];rw[if_pos (by omega)];rfl
theorem Cm(c:V):iq false [c]=some c.copy:=rfl
theorem BS(cs:List V):iq true cs=some (.agg (cs.map V.copy)):=rfl
theorem Eo(cs:List V)(i:Nat):qi (.tup cs) i=(cs[i]?).map V.copy:=by simp only[qi];cases cs[i]?<;>rfl
theorem D6(k k':IntKind)(n:Int):ol k (.d (.lit (.int k' n)))=some (aL k (k.wrap n)):=rfl
theorem rN(i o:Nat):fh (.ptr i o)=some (.ptr i o):=rfl
theorem qH(cs:List D)(o:Nat):fh (.row cs o)=some (.row cs o):=rfl
theorem tP(f:FuncId)(cs:List V):fh (.fn f cs)=some (.fn f cs):=rfl
theorem Iy(g:Bool)(k:IntKind)(a b:Int):mxV g (.d (.lit (.int k a))) (.d (.lit (.int k b)))=some (aL k (if g then max a b else min a b)):=by
 have h1:(if b>a then b else a)=max a b:=by rw[Int.max_def];split<;>split<;>omega
 have h2:(if b<a then b else a)=min a b:=by rw[Int.min_def];split<;>split<;>omega
 cases g
 ·simp only[mxV,if_true,JP,if_false,h2]
 ·simp only[mxV,if_true,h1]
theorem zi(T t:TypeId)(z u:V):B7 T z (.iface t u)=if t=T then some (.tup [u,az true])else some (.tup [z,az false]):=rfl
theorem C8(rows:List (List D))(k1 k2:IntKind)(a b:Int):ub (.d (.sl rows)) (.d (.lit (.int k1 a))) (.d (.lit (.int k2 b)))=if a=rows.length∧b=rows.length then some (.d (.sl rows))else none:=rfl
theorem xy(T:TypeId)(z:V):B7 T z (.d (.lit .nilIface))=some (.tup [z,az false]):=rfl
theorem Bx(t:TypeId)(x:D):tI t (.d x)=some (.iface t (.d x)):=rfl
theorem u6(t:TypeId)(cs:List V):tI t (.agg cs)=some (.iface t (.agg (cs.map V.copy))):=rfl
theorem tG(k:Nat)(ag:Bool)(cs:List D)(o:Nat):eJ σ k ag (.row cs o)=(if o+k≤cs.length then some (((cs.drop o).take k).map V.d)else none).bind (iq ag):=rfl
def ldK(k:Nat)(ag:Bool)(o:Nat)(b:Option (List V)):Option V:=match b with|some cs=>if o+k≤cs.length∧bV cs=true then iq ag ((cs.drop o).take k)else none|none=>none
theorem rd(k:Nat)(ag:Bool)(o:Nat)(cs:List V):ldK k ag o (some cs)=if o+k≤cs.length∧bV cs=true then iq ag ((cs.drop o).take k)else none:=rfl
theorem nC(k:Nat)(ag:Bool)(i o:Nat):eJ σ k ag (.ptr i o)=ldK k ag o σ[i]? := by
 unfold eJ iT ldK;simp only;cases σ[i]? with
 | none=>rfl
 | some cs=>simp only;split<;>rfl
theorem kY(l:List (List V))(j:Nat):(σ++l)[σ.length+j]? = l[j]? := by rw[List.getElem?_append_right (by omega)];congr 1;omega
theorem Cb(l:List (List V)):(σ++l)[σ.length]? = l[0]? := kY l 0
theorem zY(l:List (List V))(j:Nat)(x:List V):(σ++l).set (σ.length+j) x=σ++l.set j x:=by rw[List.set_append_right _ _ (by omega)];congr 2;omega
theorem Bn(l:List (List V))(x:List V):(σ++l).set σ.length x=σ++l.set 0 x:=zY l 0 x
theorem wrap_i64{a:Int}(h1 : -9223372036854775808≤a)(h2:a≤9223372036854775807):IntKind.i64.wrap a=a:=by
 simp[IntKind.wrap,IntKind.bits,IntKind.signed];split<;>omega
end
theorem zO{rows:List (List D)}(h:V.Wf (.d (.sl rows))):rows.length≤9223372036854775807:=by
 cases h with|d h=>cases h with|sl _ h _=>exact h
theorem B8{cs:List V}(h:V.Wf (.agg cs))(i:Nat)(hi:i<cs.length):V.Wf cs[i]:=by
 cases h with|agg h=>exact h i hi
theorem aH{j n:Nat}(h:j<n)(hn:n≤9223372036854775807):IntKind.i64.wrap ((j:Int)+1)=((j+1:Nat):Int):=by
 rw[wrap_i64 (by omega) (by omega)];rfl
set_option linter.defProp false in
def aw:=JH (JH (JH (JH (JH (JH (JH (JH @Cc @FU) (JH @Dn (JH @uR @wQ))) (JH (JH @Dm @Dw) (JH @A0 (JH @zv @Bt)))) (JH (JH (JH @Df @Bc) (JH @zD (JH @Dl @Ae))) (JH (JH @zE @Ch) (JH @yK (JH @y9 @CX))))) (JH (JH (JH (JH @u3 @Am) (JH @C9 (JH @zr @wz))) (JH (JH @GD @Gm) (JH @Ge (JH @GH @yM)))) (JH (JH (JH @zd @CB) (JH @oU (JH @oH @ur))) (JH (JH @BV (JH @xV @yU)) (JH @Gt (JH @xa @De)))))) (JH (JH (JH (JH (JH @BQ @DN) (JH @Bv (JH @Jm @CW))) (JH (JH @D8 @CZ) (JH @DE (JH @Er @uP)))) (JH (JH (JH @vE @Bp) (JH @xv (JH @Bu @xq))) (JH (JH @tf (JH @wZ @vD)) (JH @xx (JH @Al @ri))))) (JH (JH (JH (JH @zz @sy) (JH @xF (JH @wt @vQ))) (JH (JH @Iu @Du) (JH @Hh (JH @DX @Jw)))) (JH (JH (JH @DB @DS) (JH @Ep (JH @AY @Hy))) (JH (JH @Ja (JH @I0 @Ih)) (JH @GO (JH @Gn @Ev))))))) (JH (JH (JH (JH (JH (JH @GS @Fe) (JH @C2 (JH @E9 @Iz))) (JH (JH @DZ @Ek) (JH @FX (JH @EP @Hk)))) (JH (JH (JH @DH @Fr) (JH @B2 (JH @Io @FW))) (JH (JH @Bk (JH @Ie @Ib)) (JH @Ej (JH @GQ @CP))))) (JH (JH (JH (JH @GJ @G9) (JH @Fm (JH @Bi @Be))) (JH (JH @Es @DQ) (JH @CY (JH @Dx @D2)))) (JH (JH (JH @D5 @tj) (JH @Bo (JH @Dh @Br))) (JH (JH @uO (JH @wC @A4)) (JH @GY (JH @C4 @D4)))))) (JH (JH (JH (JH (JH @C3 @F1) (JH @C8 (JH @zi @xy))) (JH (JH @IC @IK) (JH @yr (JH @BO @z5)))) (JH (JH (JH @Cq @xu) (JH @vU (JH @pH @oh))) (JH (JH @wm (JH @DG @Ay)) (JH @yo (JH @vA @Av))))) (JH (JH (JH (JH @yh @sN) (JH @we (JH @sF @xJ))) (JH (JH @Id @Hv) (JH @CR (JH @DC @Gy)))) (JH (JH (JH @Gi @CU) (JH @Gb (JH @EE @FK))) (JH (JH @Gp (JH @F9 @Ef)) (JH @vX (JH @AC @IB)))))))) (JH (JH (JH (JH (JH (JH (JH @JC @Ec) (JH @F5 (JH @Cg @AU))) (JH (JH @Jq @Js) (JH @Hu (JH @Hx @ID)))) (JH (JH (JH @FZ @Fw) (JH @DT (JH @Dd @EX))) (JH (JH @G7 (JH @F6 @DL)) (JH @GR (JH @IL @Dj))))) (JH (JH (JH (JH @AE @AO) (JH @Hc (JH @Hj @Fk))) (JH (JH @DY @FP) (JH @ED (JH @C0 @FG)))) (JH (JH (JH @FT @El) (JH @xH (JH @Fh @A9))) (JH (JH @Fg (JH @C6 @G6)) (JH @Ba (JH @Ho @Eb)))))) (JH (JH (JH (JH (JH @Fu @DK) (JH @Gs (JH @DM @BZ))) (JH (JH @Eh @Gj) (JH @qB (JH @yE @wD)))) (JH (JH (JH @sm @tZ) (JH @B6 (JH @zk @uI))) (JH (JH @BW (JH @uJ @ww)) (JH @uW (JH @AA @xZ))))) (JH (JH (JH (JH @wh @za) (JH @tB (JH @sp @E7))) (JH (JH @EQ @GW) (JH @Gl (JH @Fs @DI)))) (JH (JH (JH @EF @Da) (JH @Fz (JH @FV @EB))) (JH (JH @Fl (JH @Gz @FI)) (JH @EK (JH @Gx @DO))))))) (JH (JH (JH (JH (JH (JH @DD @Di) (JH @Dk (JH @CN @Dt))) (JH (JH @Gr @Hl) (JH @Do (JH @xo @vq)))) (JH (JH (JH @r7 @yJ) (JH @u9 (JH @wF @zU))) (JH (JH @z9 (JH @AB @yP)) (JH @zT (JH @zN @Cm))))) (JH (JH (JH (JH @BS @Eo) (JH @D6 (JH @rN @qH))) (JH (JH @tP @Iy) (JH @Bx (JH @u6 @tG)))) (JH (JH (JH @rd @nC) (JH @kY (JH @Cb @zY))) (JH (JH @Bn (JH @Option.bind_some.{0,0} @Option.map_some.{0,0})) (JH @Option.map_none.{0,0} (JH @List.getElem?_map.{0,0} @List.length_map.{0,0})))))) (JH (JH (JH (JH (JH @List.length_append.{0} @List.append_assoc.{0}) (JH @List.cons_append.{0} (JH @List.nil_append.{0} @List.drop_succ_cons.{0}))) (JH (JH @List.drop_zero.{0} @List.take_succ_cons.{0}) (JH @List.take_zero.{0} (JH @List.length_cons.{0} @List.length_nil.{0})))) (JH (JH (JH @List.getElem?_cons_zero.{0} @List.getElem?_cons_succ.{0}) (JH @List.set_cons_zero.{0} (JH @List.set_cons_succ.{0} @Kb))) (JH (JH @and_true (JH @true_and @true_implies)) (JH @not_true_eq_false (JH @not_false_eq_true @false_implies))))) (JH (JH (JH (JH @Bool.not_true @JR) (JH @List.contains_cons.{0} (JH @List.contains_nil.{0} @List.map_cons.{0,0}))) (JH (JH @List.map_nil.{0,0} @Bool.or_false) (JH @Bool.false_or (JH @Bool.or_true @Bool.true_or)))) (JH (JH (JH @JP @Bool.true_eq_false) (JH @BD (JH @yC @Bool.not_not))) (JH (JH @decide_not (JH @List.all_cons.{0} @List.all_nil.{0})) (JH @JS (JH @List.getD_cons_zero.{0} @List.getD_cons_succ.{0}))))))))
end Go.Proofs.YthoebpnbhgmoiaaGreatDoor
namespace Go.Proofs.YthoebpnbhgmoiaaGreatDoor
open Go.RowKit
section
variable {C : Cx} {pr : Prot} {n n0 : Nat}
end
end Go.Proofs.YthoebpnbhgmoiaaGreatDoor
