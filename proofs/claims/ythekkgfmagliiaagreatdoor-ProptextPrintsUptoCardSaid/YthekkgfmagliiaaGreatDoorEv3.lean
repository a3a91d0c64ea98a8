import Derived.Test.YthekkgfmagliiaaGreatDoorEv2
set_option linter.unusedVariables false
set_option linter.unusedSimpArgs false
set_option linter.unusedSectionVars false
namespace Go.Proofs.YthekkgfmagliiaaGreatDoor
open Go.RowKit
section
variable {C : Cx} {cf : CF}
abbrev IP:=O×am×V×Nat
def toP:IP→PendG:=fun p=>⟨p.1,p.2.1,putd p.2.1 p.1.dst p.2.2.1,p.2.2.2⟩
def ta(C:Cx)(cf:CF)(o:O)(ρ:am)(v:V)(σ:Sg):Bool:=o.g.isNone&&(match el C cf o.op ρ σ with|some v'=>eqV v' v|none=>false)
theorem kz(hcf:gp C cf){o:O}{ρ:am}{v:V}{σ:Sg}(h:ta C cf o ρ v σ=true):aL C [o] ρ σ (fun ρ'=>ρ'=putd ρ o.dst v):=by
 unfold ta at h;simp only[Bool.and_eq_true]at h;obtain⟨h1,h2⟩:=h;cases hg:o.g with
 | some p=>rw[hg]at h1;cases h1
 | none=>
  split at h2
  ·rename_i v' hv;have:=rW h2;subst this;simp only[aL,hg];exact dE hcf hv _ rfl
  ·cases h2
def reI(C:Cx)(cf:CF)(m:Nat)(σ':Sg):List IP→Bool
 | []=>true
 | p::r=>(if m≤p.2.2.2 then ta C cf p.1 p.2.1 p.2.2.1 σ' else true)&&reI C cf m σ' r
theorem j8(hcf:gp C cf){m:Nat}{σ':Sg}:∀{p:List IP},reI C cf m σ' p=true→reG C m σ' (p.map toP)
 | [],_=>trivial
 | p::r,h=>by
  simp only[reI,Bool.and_eq_true]at h;refine⟨?_,j8 hcf h.2⟩;show if m≤p.2.2.2 then _ else True
  split
  ·rename_i hm;have:=h.1;rw[if_pos hm]at this;exact kz hcf this
  ·trivial
def qK(C:Cx)(cf:CF)(o:O)(ρ:am)(v:V):Nat→List Sg→Bool
 | 0,_=>true
 | _+1,[]=>false
 | k+1,σ::h=>ta C cf o ρ v σ&&qK C cf o ρ v k h
theorem gD(hcf:gp C cf){o:O}{ρ:am}{v:V}:∀{k:Nat} {h:List Sg},qK C cf o ρ v k h=true→gG C o ρ (putd ρ o.dst v) k h
 | 0,_,_=>by simp only[gG]
 | _+1,[],hh=>by cases hh
 | k+1,σ::h,hh=>by
  simp only[qK,Bool.and_eq_true]at hh;exact⟨kz hcf hh.1,gD hcf hh.2⟩
def A8(C:Cx)(cf:CF)(o:O)(ρ:am)(σ:Sg):Option V:=if o.g.isNone=true then el C cf o.op ρ σ else none
theorem lz(hcf:gp C cf){o:O}{ρ:am}{σ:Sg}{v:V}(h:A8 C cf o ρ σ=some v)(K:am→Prop)(hk:K (putd ρ o.dst v)):aL C [o] ρ σ K:=by
 unfold A8 at h;split at h
 ·rename_i hg;cases hg':o.g with
  | some p=>rw[hg']at hg;cases hg
  | none=>
   simp only[aL,hg'];exact dE hcf h _ hk
 ·cases h
def iH(C:Cx)(cf:CF):List (O×GK)→Nat→List Sg→am→Sg→Bool
 | [],_,_,_,_=>true
 | (o,.free lo)::r,m,h,ρ,σ=>if lo≤m then(match di C cf [o] ρ σ with|some ρ'=>iH C cf r m h ρ' σ|none=>false)else iH C cf r m h (ap o (.junk,.junk) ρ) σ
 | (o,.calm lo _)::r,m,h,ρ,σ=>if lo≤m then(match A8 C cf o ρ σ with|some v=>qK C cf o ρ v (m-lo) h&&iH C cf r m h (putd ρ o.dst v) σ|none=>false)else iH C cf r m h (ap o (.junk,.junk) ρ) σ
 | (o,.slot lo)::r,m,h,ρ,σ=>if lo≤m then(match eH C cf 0 [o] ρ σ with|some (.normal,ρ',_)=>iH C cf r m h ρ' σ|_=>false)else iH C cf r m h (ap o (.junk,.junk) ρ) σ
 | (o,.act)::r,m,h,ρ,σ=>iH C cf r m h (ap o (.junk,.junk) ρ) σ
theorem dh(hcf:gp C cf):∀(l:List (O×GK)) {m:Nat} {h:List Sg} {ρ:am} {σ:Sg},iH C cf l m h ρ σ=true→cW C l m h ρ σ
 | [],_,_,_,_,_=>trivial
 | (o,.free lo)::r,m,h,ρ,σ,hh=>by
  simp only[iH]at hh;simp only[cW];split
  ·rename_i hlo;rw[if_pos hlo]at hh;split at hh
   ·rename_i ρ' h1;exact bT hcf [o] h1 _ (dh hcf r hh)
   ·cases hh
  ·rename_i hlo;rw[if_neg hlo]at hh;exact dh hcf r hh
 | (o,.calm lo hi)::r,m,h,ρ,σ,hh=>by
  simp only[iH]at hh;simp only[cW];split
  ·rename_i hlo;rw[if_pos hlo]at hh;split at hh
   ·rename_i v h1;rw[Bool.and_eq_true]at hh;exact lz hcf h1 _ ⟨gD hcf hh.1,dh hcf r hh.2⟩
   ·cases hh
  ·rename_i hlo;rw[if_neg hlo]at hh;exact dh hcf r hh
 | (o,.slot lo)::r,m,h,ρ,σ,hh=>by
  simp only[iH]at hh;simp only[cW];split
  ·rename_i hlo;rw[if_pos hlo]at hh;split at hh
   ·rename_i ρ' σ' h1;exact(cI hcf [o] h1).2 (fun e ρ' _=>e=.normal∧cW C r m h ρ' σ) ⟨rfl,dh hcf r hh⟩
   ·cases hh
  ·rename_i hlo;rw[if_neg hlo]at hh;exact dh hcf r hh
 | (o,.act)::r,m,h,ρ,σ,hh=>by
  simp only[iH]at hh;simp only[cW];exact dh hcf r hh
def evG(C:Cx)(cf:CF)(b:Nat):List (O×GK)→Nat→List Sg→List IP→am→Sg→Res
 | [],_,_,_,ρ,σ=>some (.normal,ρ,σ)
 | (o,.free _)::r,m,h,p,ρ,σ=>match di C cf [o] ρ σ with
  | some ρ'=>evG C cf b r m h p ρ' σ
  | none=>none
 | (o,.calm lo hi)::r,m,h,p,ρ,σ=>match A8 C cf o ρ σ with
  | some v=>if qK C cf o ρ v (m-lo) h=true then evG C cf b r m h (if m<hi then(o,ρ,v,hi)::p else p) (putd ρ o.dst v) σ else none
  | none=>none
 | (o,.slot _)::r,m,h,p,ρ,σ=>match eH C cf b [o] ρ σ with
  | some (.normal,ρ',σ')=>evG C cf b r m h p ρ' σ'
  | _=>none
 | (⟨d,.call f args,g⟩,.act)::r,m,h,p,ρ,σ=>match cf b f (args.map fun x=>(ev C ρ x).lend) σ with
  | some (.ret v,σ1)=>if reI C cf (m+1) σ1 p=true then evG C cf b r (m+1) (σ::h) p (putd ρ d v) σ1 else none
  | some (.panic u,σ1)=>if iH C cf r m h (putd ρ d .junk) σ=true then some (.panic u,[],σ1)else none
  | none=>none
 | (⟨d,.callv x args,g⟩,.act)::r,m,h,p,ρ,σ=>match ev C ρ x with
  | .fn f cap=>(match cf b f ((args.map fun x=>(ev C ρ x).lend)++cap) σ with
   | some (.ret v,σ1)=>if reI C cf (m+1) σ1 p=true then evG C cf b r (m+1) (σ::h) p (putd ρ d v) σ1 else none
   | some (.panic u,σ1)=>if iH C cf r m h (putd ρ d .junk) σ=true then some (.panic u,[],σ1)else none
   | none=>none)
  | _=>none
 | (o,.act)::r,m,h,p,ρ,σ=>match eH C cf b [o] ρ σ with
  | some (.normal,ρ',σ')=>if reI C cf (m+1) σ' p=true then evG C cf b r (m+1) (σ::h) p ρ' σ' else none
  | _=>none
theorem yL{m hi:Nat}{x:IP}{p:List IP}(hx:hi=x.2.2.2):(if m<hi then x::p else p).map toP=lx m hi (toP x) (p.map toP):=by
 unfold lx;split<;>rfl
theorem dm(hcf:gp C cf){b:Nat}{P:V→Sg→Prop}{K:am→Sg→Prop}:∀(l:List (O×GK)) {m:Nat} {h:List Sg} {p:List IP} {ρ ρ':am} {σ σ':Sg} {e:AEx},evG C cf b l m h p ρ σ=some (e,ρ',σ')→
 a6 b σ σ'∧((e=.normal→K ρ' σ')→(∀u,e=.panic u→P u σ')→(e≠.normal→ρ'=[]∧∃u,e=.panic u)∧da C P K l m h (p.map toP) ρ σ)
 | [],m,h,p,ρ,ρ',σ,σ',e,hh=>by
  cases hh;exact⟨a6.rfl',fun hk _=>⟨fun hn=>absurd rfl hn,hk rfl⟩⟩
 | (o,.free _)::r,m,h,p,ρ,ρ',σ,σ',e,hh=>by
  simp only[evG]at hh;split at hh
  ·rename_i ρ1 h1;obtain⟨k1,k2⟩:=dm hcf (P:=P) (K:=K) r hh;exact⟨k1,fun hk hp=>⟨(k2 hk hp).1,bT hcf [o] h1 _ (k2 hk hp).2⟩⟩
  ·cases hh
 | (o,.calm lo hi)::r,m,h,p,ρ,ρ',σ,σ',e,hh=>by
  simp only[evG]at hh;split at hh
  ·rename_i v h1;split at hh
   ·rename_i hb;obtain⟨k1,k2⟩:=dm hcf (P:=P) (K:=K) r hh;refine⟨k1,fun hk hp=>⟨(k2 hk hp).1,lz hcf h1 _ ⟨gD hcf hb,?_⟩⟩⟩;have:=(k2 hk hp).2;rwa[yL (x:=(o,ρ,v,hi)) rfl]at this
   ·cases hh
  ·cases hh
 | (o,.slot _)::r,m,h,p,ρ,ρ',σ,σ',e,hh=>by
  simp only[evG]at hh;split at hh
  ·rename_i ρ1 σ1 h1;obtain⟨g1,g2⟩:=cI hcf [o] h1;obtain⟨k1,k2⟩:=dm hcf (P:=P) (K:=K) r hh;exact⟨g1.trans k1,fun hk hp=>⟨(k2 hk hp).1,g2 (fun e ρ' σ'=>e=.normal∧da C P K r m h (p.map toP) ρ' σ') ⟨rfl,(k2 hk hp).2⟩⟩⟩
  ·cases hh
 | (o,.act)::r,m,h,p,ρ,ρ',σ,σ',e,hh=>by
  have call:∀(f:FuncId) (a:List V),(match cf b f a σ with
   | some (.ret v,σ1)=>if reI C cf (m+1) σ1 p=true then evG C cf b r (m+1) (σ::h) p (putd ρ o.dst v) σ1 else none
   | some (.panic u,σ1)=>if iH C cf r m h (putd ρ o.dst .junk) σ=true then some (.panic u,[],σ1)else none
   | none=>none)=some (e,ρ',σ')→a6 b σ σ'∧((e=.normal→K ρ' σ')→(∀u,e=.panic u→P u σ')→(e≠.normal→ρ'=[]∧∃u,e=.panic u)∧
    ((∃v σ1,Fun C f a σ (fun o σ'=>o=.ret v∧σ'=σ1)∧reG C (m+1) σ1 (p.map toP)∧da C P K r (m+1) (σ::h) (p.map toP) (putd ρ o.dst v) σ1)∨
      (Fun C f a σ (fun o σ'=>∃u,o=.panic u∧P u σ')∧cW C r m h (putd ρ o.dst .junk) σ))):=fun f a hh=>by
   cases hc:cf b f a σ with
   | none=>rw[hc]at hh;cases hh
   | some q=>
    obtain⟨o',s⟩:=q;obtain⟨g1,g2⟩:=hcf _ _ _ _ _ _ hc;rw[hc]at hh;cases o' with
    | ret v=>
     simp only at hh;split at hh
     ·rename_i hre;obtain⟨k1,k2⟩:=dm hcf (P:=P) (K:=K) r hh;exact⟨g2.trans k1,fun hk hp=>⟨(k2 hk hp).1,.inl ⟨v,s,g1,j8 hcf hre,(k2 hk hp).2⟩⟩⟩
     ·cases hh
    | panic u=>
     simp only at hh;split at hh
     ·rename_i hpan;cases hh;exact⟨g2,fun _ hp=>⟨fun _=>⟨rfl,u,rfl⟩,.inr ⟨g1.mono fun o' s' ⟨e1,e2⟩=>⟨u,e1,by rw[e2];exact hp u rfl⟩,dh hcf r hpan⟩⟩⟩
     ·cases hh
  have other:(match eH C cf b [o] ρ σ with
   | some (.normal,ρ',σ')=>if reI C cf (m+1) σ' p=true then evG C cf b r (m+1) (σ::h) p ρ' σ' else none
   | _=>none)=some (e,ρ',σ')→a6 b σ σ'∧((e=.normal→K ρ' σ')→(∀u,e=.panic u→P u σ')→(e≠.normal→ρ'=[]∧∃u,e=.panic u)∧
    bS C [o] ρ σ fun e ρ' σ'=>e=.normal∧reG C (m+1) σ' (p.map toP)∧da C P K r (m+1) (σ::h) (p.map toP) ρ' σ'):=fun hh=>by
   split at hh
   ·rename_i ρ1 σ1 h1;split at hh
    ·rename_i hre;obtain⟨g1,g2⟩:=cI hcf [o] h1;obtain⟨k1,k2⟩:=dm hcf (P:=P) (K:=K) r hh;exact⟨g1.trans k1,fun hk hp=>⟨(k2 hk hp).1,g2 (fun e ρ' σ'=>e=.normal∧reG C (m+1) σ' (p.map toP)∧da C P K r (m+1) (σ::h) (p.map toP) ρ' σ') ⟨rfl,j8 hcf hre,(k2 hk hp).2⟩⟩⟩
    ·cases hh
   ·cases hh
  obtain⟨d,op,g⟩:=o;cases op;case call f args=>exact call f _ hh
  case callv x args=>
   simp only[evG]at hh;split at hh
   ·rename_i f cap hx;obtain⟨k1,k2⟩:=call f _ hh;exact⟨k1,fun hk hp=>⟨(k2 hk hp).1,f,cap,hx,(k2 hk hp).2⟩⟩
   ·cases hh
  all_goals exact other hh
end
end Go.Proofs.YthekkgfmagliiaaGreatDoor
