import Derived.Test.YthekkgfmagliiaaGreatDoorEv1
set_option linter.unusedVariables false
set_option linter.unusedSimpArgs false
set_option linter.unusedSectionVars false
namespace Go.Proofs.YthekkgfmagliiaaGreatDoor
open Go.RowKit
section
variable {C : Cx} {cf : CF}
def tt(b:Bool):V:=.d (.lit (.bool b))
def eH(C:Cx)(cf:CF)(m:Nat):List O→am→Sg→Res
 | [],ρ,σ=>some (.normal,ρ,σ)
 | o::r,ρ,σ=>match o.g with
  | none=>match fS C cf m o.op o.dst ρ σ with
   | some (.normal,ρ',σ')=>eH C cf m r ρ' σ'
   | x=>x
  | some (t,want)=>match get ρ t with
   | .d (.lit (.bool b))=>if b=want then(match fS C cf m o.op o.dst (put ρ t (tt want)) σ with
    | some (.normal,ρ',σ')=>eH C cf m r ρ' σ'
    | x=>x)
    else eH C cf m r (putd (put ρ t (tt (!want))) o.dst (.tup [])) σ
   | .tup []=>eH C cf m r (putd ρ o.dst (.tup [])) σ
   | _=>none
def ii(Q:bM)(e:AEx)(ρ:am)(σ:Sg):Prop:=match e with
 | .panic u=>∀ρ',(ρ'=ρ∨ρ=[])→Q (.panic u) ρ' σ
 | e=>Q e ρ σ
theorem ii.q{Q:bM}{e:AEx}{ρ:am}{σ:Sg}(h:ii Q e ρ σ):Q e ρ σ:=by
 cases e<;>first|exact h|exact h ρ (.inl rfl)
theorem cI(hcf:gp C cf){m:Nat}:∀(l:List O) {ρ ρ':am} {σ σ':Sg} {e:AEx},eH C cf m l ρ σ=some (e,ρ',σ')→a6 m σ σ'∧∀Q:bM,ii Q e ρ' σ'→bS C l ρ σ Q
 | [],ρ,ρ',σ,σ',e,h=>by
  cases h;exact⟨a6.rfl',fun Q hq=>hq⟩
 | o::r,ρ,ρ',σ,σ',e,h=>by
  have one:∀(ρ0:am),(match fS C cf m o.op o.dst ρ0 σ with
   | some (.normal,ρ',σ')=>eH C cf m r ρ' σ'
   | x=>x)=some (e,ρ',σ')→a6 m σ σ'∧∀Q:bM,ii Q e ρ' σ'→cx C o.op o.dst ρ0 σ (fun ρ' σ'=>bS C r ρ' σ' Q) Q:=fun ρ0 h=>by
   split at h
   ·rename_i ρ1 σ1 h1;obtain⟨k1,k2⟩:=mi hcf h1;obtain⟨k3,k4⟩:=cI hcf r h;exact⟨k1.trans k3,fun Q hq=>k2 _ _ (fun _=>k4 Q hq) (fun hn=>absurd rfl hn)⟩
   ·rename_i hx;obtain⟨k1,k2⟩:=mi hcf h;refine⟨k1,fun Q hq=>k2 _ _ (fun he=>?_) (fun _=>hq.q)⟩;subst he;exact absurd h (hx _ _)
  simp only[eH]at h;simp only[bS];cases hg:o.g with
  | none=>
   simp only[hg]at h ⊢;exact one ρ h
  | some p=>
   obtain⟨t,want⟩:=p;simp only[hg]at h ⊢;split at h
   ·rename_i b hb;split at h
    ·rename_i hbw;obtain⟨k1,k2⟩:=one _ h;simp only[hb];exact⟨k1,fun Q hq=>⟨fun _=>k2 Q hq,fun hn=>absurd hbw hn⟩⟩
    ·rename_i hbw;obtain⟨k1,k2⟩:=cI hcf r h;simp only[hb];exact⟨k1,fun Q hq=>⟨fun hn=>absurd hn hbw,fun _=>k2 Q hq⟩⟩
   ·rename_i hb;simp only[hb];exact cI hcf r h
   ·cases h
def vj(σ:Sg):Option (Out×Sg)→Option V
 | some (.ret v,σ')=>if σ'.length=σ.length then some v else none
 | _=>none
def el(C:Cx)(cf:CF)(op:OP)(ρ:am)(σ:Sg):Option V:=
 match op with
 | .call f args=>vj σ (cf σ.length f (args.map fun x=>(ev C ρ x).lend) σ)
 | .callv x args=>match ev C ρ x with
  | .fn f cap=>vj σ (cf σ.length f ((args.map fun x=>(ev C ρ x).lend)++cap) σ)
  | _=>none
 | .mks _ kk xs=>match ae (xs.map (ev C ρ))with
  | some rows=>if rows.all (fun r=>r.length==kk)=true then some (.d (.sl rows))else none
  | none=>none
 | .calln f args=>vj σ (cf σ.length f (args.map fun x=>(ev C ρ x).copy) σ)
 | op=>if bi op=true then pv C op ρ σ else none
theorem iT(hcf:gp C cf){f:FuncId}{a:List V}{σ:Sg}{v:V}(h:vj σ (cf σ.length f a σ)=some v):Fun C f a σ (fun o σ'=>o=.ret v∧σ'=σ):=by
 cases hc:cf σ.length f a σ with
 | none=>rw[hc]at h;cases h
 | some r=>
  obtain⟨o,s⟩:=r;obtain⟨h1,h2⟩:=hcf _ _ _ _ _ _ hc;rw[hc]at h;cases o with
  | ret u=>
   simp only[vj]at h;split at h
   ·rename_i hl;cases h;exact h1.mono fun o' s' ⟨e1,e2⟩=>⟨e1,e2.trans (h2.all hl)⟩
   ·cases h
  | panic u=>cases h
theorem dE(hcf:gp C cf){op:OP}{ρ:am}{σ:Sg}{v:V}(h:el C cf op ρ σ=some v)(k:V→Prop)(hk:k v):aV C op ρ σ k:=by
 cases op;case call f args=>exact⟨v,iT hcf h,hk⟩
 case calln f args=>exact⟨v,iT hcf h,hk⟩
 case callv x args=>
  simp only[el]at h;split at h
  ·rename_i f cap hx;simp only[aV,hx];exact⟨v,iT hcf h,hk⟩
  ·cases h
 case mks T kk xs=>
  simp only[el]at h;split at h
  ·rename_i rows hr;split at h
   ·rename_i hc;cases h;simp only[aV,hr];exact⟨hc,hk⟩
   ·cases h
  ·cases h
 all_goals
  simp only[el,bi,if_true,Bool.false_eq_true,if_false,reduceCtorEq]at h
  try
   simp only[aV,bi,h];exact hk
def di(C:Cx)(cf:CF):List O→am→Sg→Option am
 | [],ρ,_=>some ρ
 | o::r,ρ,σ=>match o.g with
  | none=>match el C cf o.op ρ σ with
   | some v=>di C cf r (putd ρ o.dst v) σ
   | none=>none
  | some (t,want)=>match get ρ t with
   | .d (.lit (.bool b))=>if b=want then(match el C cf o.op (put ρ t (tt want)) σ with
    | some v=>di C cf r (putd (put ρ t (tt want)) o.dst v) σ
    | none=>none)
    else di C cf r (putd (put ρ t (tt (!want))) o.dst (.tup [])) σ
   | .tup []=>di C cf r (putd ρ o.dst (.tup [])) σ
   | _=>none
theorem bT(hcf:gp C cf):∀(l:List O) {ρ ρ':am} {σ:Sg},di C cf l ρ σ=some ρ'→∀K:am→Prop,K ρ'→aL C l ρ σ K
 | [],ρ,ρ',σ,h,K,hk=>by cases h;exact hk
 | o::r,ρ,ρ',σ,h,K,hk=>by
  simp only[di]at h;simp only[aL];cases hg:o.g with
  | none=>
   simp only[hg]at h ⊢;split at h
   ·rename_i v hv;exact dE hcf hv _ (bT hcf r h K hk)
   ·cases h
  | some p=>
   obtain⟨t,want⟩:=p;simp only[hg]at h ⊢;split at h
   ·rename_i b hb;split at h
    ·rename_i hbw;split at h
     ·rename_i v hv;simp only[hb];exact⟨fun _=>dE hcf hv _ (bT hcf r h K hk),fun hn=>absurd hbw hn⟩
     ·cases h
    ·rename_i hbw;simp only[hb];exact⟨fun hn=>absurd hn hbw,fun _=>bT hcf r h K hk⟩
   ·rename_i hb;simp only[hb];exact bT hcf r h K hk
   ·cases h
def evS(C:Cx)(cf:CF)(m:Nat)(σ:Sg):List O→am→Option Sg→Option (am×Sg)
 | [],ρ,acc=>match acc with|some σf=>some (ρ,σf)|none=>none
 | o::r,ρ,acc=>match o.op with
  | .sto kk y z=>if o.g.isNone=true∧o.dst=none then(match acc,ev C ρ y with
   | none,.ptr i off=>match σ[i]? with
    | some cs=>if m≤i∧((ev C ρ z).boxable=true∧(ev C ρ z).cells.length=kk∧off+kk≤cs.length∧bu cs=true)then evS C cf m σ r ρ (some (σ.set i (over cs off (ev C ρ z).cells)))else none
    | none=>none
   | _,_=>none)else none
  | op=>if o.g.isNone=true then(match el C cf op ρ σ with
   | some v=>evS C cf m σ r (putd ρ o.dst v) acc
   | none=>none)else none
theorem jV(hcf:gp C cf){m:Nat}{σ:Sg}:∀(l:List O) {ρ ρ':am} {acc:Option Sg} {σ':Sg},evS C cf m σ l ρ acc=some (ρ',σ')→(∀s,acc=some s→a6 m σ s)→a6 m σ σ'∧∀K:am→Sg→Prop,K ρ' σ'→dR C σ l ρ acc K
 | [],ρ,ρ',acc,σ',h,ha=>by
  cases acc with
  | none=>cases h
  | some s=>cases h;exact⟨ha _ rfl,fun K hk=>hk⟩
 | ⟨dst,op,g⟩::r,ρ,ρ',acc,σ',h,ha=>by
  have other:(∀kk y z,op≠.sto kk y z)→(if g.isNone=true then(match el C cf op ρ σ with
   | some v=>evS C cf m σ r (putd ρ dst v) acc
   | none=>none)else none)=some (ρ',σ')→a6 m σ σ'∧∀K:am→Sg→Prop,K ρ' σ'→aV C op ρ σ (fun v=>dR C σ r (putd ρ dst v) acc K)∧g=none:=fun _ h=>by
   split at h
   ·rename_i hg;split at h
    ·rename_i v hv;obtain⟨k1,k2⟩:=jV hcf r h ha;refine⟨k1,fun K hk=>⟨dE hcf hv _ (k2 K hk),?_⟩⟩;cases g with
     | none=>rfl
     | some p=>cases hg
    ·cases h
   ·cases h
  cases op
  case sto kk y z=>
   simp only[evS]at h;split at h
   ·rename_i hg;obtain⟨hg1,hg2⟩:=hg
    have hg1:g=none:=by cases g with
     | none=>rfl
     | some p=>cases hg1
    subst hg1;subst hg2;split at h
    ·rename_i i off hy;split at h
     ·rename_i cs hcs;split at h
      ·rename_i hc;obtain⟨k1,k2⟩:=jV hcf r h (fun s e=>by cases e;exact a6.set hc.1);refine⟨k1,fun K hk=>?_⟩;simp only[dR,hy,hcs];exact⟨trivial,trivial,hc.2,k2 K hk⟩
      ·cases h
     ·cases h
    ·cases h
   ·cases h
  all_goals
   obtain⟨k1,k2⟩:=other (by simp) h;refine⟨k1,fun K hk=>?_⟩;obtain⟨k3,rfl⟩:=k2 K hk;exact k3
def zZ(C:Cx)(cf:CF):List O→am→Sg→Sg→Bool
 | [],_,_,_=>true
 | o::r,ρ,σ,σ1=>o.g.isNone&&(match el C cf o.op ρ σ,el C cf o.op ρ σ1 with
  | some v,some v'=>eqV v' v&&zZ C cf r (putd ρ o.dst v) σ σ1
  | _,_=>false)
theorem lv(hcf:gp C cf){σ σ1:Sg}:∀(l:List O) {ρ ρ1:am},di C cf l ρ σ=some ρ1→zZ C cf l ρ σ σ1=true→aL C l ρ σ1 (fun ρ'=>ρ'=ρ1)
 | [],ρ,ρ1,h,_=>by cases h;rfl
 | o::r,ρ,ρ1,h,hp=>by
  simp only[zZ,Bool.and_eq_true]at hp;obtain⟨hg',hp⟩:=hp;simp only[di]at h;simp only[aL];cases hg:o.g with
  | some p=>rw[hg]at hg';cases hg'
  | none=>
   simp only[hg]at h ⊢;split at h
   ·rename_i v hv;rw[hv]at hp;cases hv1:el C cf o.op ρ σ1 with
    | none=>rw[hv1]at hp;simp at hp
    | some v'=>
     rw[hv1]at hp;simp only[Bool.and_eq_true]at hp;have:=rW hp.1;subst this;exact dE hcf hv1 _ (lv hcf r h hp.2)
   ·cases h
def evX(C:Cx)(cf:CF)(m:Nat)(pre:List O)(d:Option Nat)(f:FuncId)(args:List X)(post:List O)(kk:Nat)(y z:X)(ρ:am)(σ:Sg):Res:=
 match di C cf pre ρ σ with
  | some ρ1=>match cf m f (args.map fun x=>(ev C ρ1 x).lend) σ with
   | some (.ret v,σ1)=>if zZ C cf pre ρ σ σ1=true then match di C cf post (putd ρ1 d v) σ1 with
    | some ρ2=>match ev C ρ2 y with
     | .ptr i off=>match σ1[i]? with
      | some cs=>if m≤i∧((ev C ρ2 z).boxable=true∧(ev C ρ2 z).cells.length=kk∧off+kk≤cs.length∧bu cs=true)then some (.normal,ρ2,σ1.set i (over cs off (ev C ρ2 z).cells))else none
      | none=>none
     | _=>none
    | none=>none
    else none
   | some (.panic u,σ1)=>some (.panic u,ρ1,σ1)
   | none=>none
  | none=>none
theorem nu(hcf:gp C cf){m:Nat}{pre:List O}{d:Option Nat}{f:FuncId}{args:List X}{post:List O}{kk:Nat}{y z:X}{ρ ρ':am}{σ σ':Sg}{e:AEx}(h:evX C cf m pre d f args post kk y z ρ σ=some (e,ρ',σ')):
 a6 m σ σ'∧∀(K:am→Sg→Prop) (P:V→Sg→Prop),(e=.normal→K ρ' σ')→(∀u,e=.panic u→P u σ')→yQ C pre d f args post kk y z ρ σ K P:=by
 unfold evX at h;split at h
 ·rename_i ρ1 h1;cases hc:cf m f (args.map fun x=>(ev C ρ1 x).lend) σ with
  | none=>rw[hc]at h;cases h
  | some q=>
   obtain⟨o,s⟩:=q;obtain⟨g1,g2⟩:=hcf _ _ _ _ _ _ hc;rw[hc]at h;cases o with
   | ret v=>
    simp only at h;split at h
    ·rename_i hpre;split at h
     ·rename_i ρ2 h2;split at h
      ·rename_i i off hy;split at h
       ·rename_i cs hcs;split at h
        ·rename_i hcc;cases h;exact⟨g2.trans (a6.set hcc.1),fun K P hk _=>bT hcf pre h1 _ (.inl ⟨v,s,g1,lv hcf pre h1 hpre,bT hcf post h2 _ ⟨i,off,cs,hy,hcs,hcc.2,hk rfl⟩⟩)⟩
        ·cases h
       ·cases h
      ·cases h
     ·cases h
    ·cases h
   | panic u=>
    cases h;exact⟨g2,fun K P _ hp=>bT hcf pre h1 _ (.inr (g1.mono fun o' s' ⟨e1,e2⟩=>⟨u,e1,by rw[e2];exact hp u rfl⟩))⟩
 ·cases h
end
end Go.Proofs.YthekkgfmagliiaaGreatDoor
