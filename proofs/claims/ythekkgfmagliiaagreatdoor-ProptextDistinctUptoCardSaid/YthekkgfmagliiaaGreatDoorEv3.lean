import Derived.Test.YthekkgfmagliiaaGreatDoorEv1
set_option linter.unusedVariables false
set_option linter.unusedSimpArgs false
set_option linter.unusedSectionVars false
namespace Go.Proofs.YthekkgfmagliiaaGreatDoor
open Go.RowKit
section
variable {C : Cx} {cf : CF}
def tt(b:Bool):V:=.d (.lit (.bool b))
def fX(C:Cx)(cf:CF)(m:Nat):List O→ak→Sg→Res
 | [],ρ,σ=>some (.normal,ρ,σ)
 | o::r,ρ,σ=>match o.g with
  | none=>match ij C cf m o.op o.dst ρ σ with
   | some (.normal,ρ',σ')=>fX C cf m r ρ' σ'
   | x=>x
  | some (t,want)=>match get ρ t with
   | .d (.lit (.bool b))=>if b=want then(match ij C cf m o.op o.dst (put ρ t (tt want)) σ with
    | some (.normal,ρ',σ')=>fX C cf m r ρ' σ'
    | x=>x)
    else fX C cf m r (putd (put ρ t (tt (!want))) o.dst (.tup [])) σ
   | .tup []=>fX C cf m r (putd ρ o.dst (.tup [])) σ
   | _=>none
def km(Q:bS)(e:AEx)(ρ:ak)(σ:Sg):Prop:=match e with
 | .panic u=>∀ρ',(ρ'=ρ∨ρ=[])→Q (.panic u) ρ' σ
 | e=>Q e ρ σ
theorem km.q{Q:bS}{e:AEx}{ρ:ak}{σ:Sg}(h:km Q e ρ σ):Q e ρ σ:=by
 cases e<;>first|exact h|exact h ρ (.inl rfl)
theorem dm(hcf:jc C cf){m:Nat}:∀(l:List O) {ρ ρ':ak} {σ σ':Sg} {e:AEx},fX C cf m l ρ σ=some (e,ρ',σ')→a7 m σ σ'∧∀Q:bS,km Q e ρ' σ'→bZ C l ρ σ Q
 | [],ρ,ρ',σ,σ',e,h=>by
  cases h;exact⟨a7.rfl',fun Q hq=>hq⟩
 | o::r,ρ,ρ',σ,σ',e,h=>by
  have one:∀(ρ0:ak),(match ij C cf m o.op o.dst ρ0 σ with
   | some (.normal,ρ',σ')=>fX C cf m r ρ' σ'
   | x=>x)=some (e,ρ',σ')→a7 m σ σ'∧∀Q:bS,km Q e ρ' σ'→cT C o.op o.dst ρ0 σ (fun ρ' σ'=>bZ C r ρ' σ' Q) Q:=fun ρ0 h=>by
   split at h
   ·rename_i ρ1 σ1 h1;obtain⟨k1,k2⟩:=pI hcf h1;obtain⟨k3,k4⟩:=dm hcf r h;exact⟨k1.trans k3,fun Q hq=>k2 _ _ (fun _=>k4 Q hq) (fun hn=>absurd rfl hn)⟩
   ·rename_i hx;obtain⟨k1,k2⟩:=pI hcf h;refine⟨k1,fun Q hq=>k2 _ _ (fun he=>?_) (fun _=>hq.q)⟩;subst he;exact absurd h (hx _ _)
  simp only[fX]at h;simp only[bZ];cases hg:o.g with
  | none=>
   simp only[hg]at h ⊢;exact one ρ h
  | some p=>
   obtain⟨t,want⟩:=p;simp only[hg]at h ⊢;split at h
   ·rename_i b hb;split at h
    ·rename_i hbw;obtain⟨k1,k2⟩:=one _ h;simp only[hb];exact⟨k1,fun Q hq=>⟨fun _=>k2 Q hq,fun hn=>absurd hbw hn⟩⟩
    ·rename_i hbw;obtain⟨k1,k2⟩:=dm hcf r h;simp only[hb];exact⟨k1,fun Q hq=>⟨fun hn=>absurd hn hbw,fun _=>k2 Q hq⟩⟩
   ·rename_i hb;simp only[hb];exact dm hcf r h
   ·cases h
def y8(σ:Sg):Option (Out×Sg)→Option V
 | some (.ret v,σ')=>if σ'.length=σ.length then some v else none
 | _=>none
def fR(C:Cx)(cf:CF)(op:OP)(ρ:ak)(σ:Sg):Option V:=
 match op with
 | .call f args=>y8 σ (cf σ.length f (args.map fun x=>(ev C ρ x).lend) σ)
 | .callv x args=>match ev C ρ x with
  | .fn f cap=>y8 σ (cf σ.length f ((args.map fun x=>(ev C ρ x).lend)++cap) σ)
  | _=>none
 | .mks _ kk xs=>match ae (xs.map (ev C ρ))with
  | some rows=>if rows.all (fun r=>r.length==kk)=true then some (.d (.sl rows))else none
  | none=>none
 | .calln f args=>y8 σ (cf σ.length f (args.map fun x=>(ev C ρ x).copy) σ)
 | op=>if bz op=true then pv C op ρ σ else none
theorem k9(hcf:jc C cf){f:FuncId}{a:List V}{σ:Sg}{v:V}(h:y8 σ (cf σ.length f a σ)=some v):Fun C f a σ (fun o σ'=>o=.ret v∧σ'=σ):=by
 cases hc:cf σ.length f a σ with
 | none=>rw[hc]at h;cases h
 | some r=>
  obtain⟨o,s⟩:=r;obtain⟨h1,h2⟩:=hcf _ _ _ _ _ _ hc;rw[hc]at h;cases o with
  | ret u=>
   simp only[y8]at h;split at h
   ·rename_i hl;cases h;exact h1.mono fun o' s' ⟨e1,e2⟩=>⟨e1,e2.trans (h2.all hl)⟩
   ·cases h
  | panic u=>cases h
theorem eC(hcf:jc C cf){op:OP}{ρ:ak}{σ:Sg}{v:V}(h:fR C cf op ρ σ=some v)(k:V→Prop)(hk:k v):aY C op ρ σ k:=by
 cases op;case call f args=>exact⟨v,k9 hcf h,hk⟩
 case calln f args=>exact⟨v,k9 hcf h,hk⟩
 case callv x args=>
  simp only[fR]at h;split at h
  ·rename_i f cap hx;simp only[aY,hx];exact⟨v,k9 hcf h,hk⟩
  ·cases h
 case mks T kk xs=>
  simp only[fR]at h;split at h
  ·rename_i rows hr;split at h
   ·rename_i hc;cases h;simp only[aY,hr];exact⟨hc,hk⟩
   ·cases h
  ·cases h
 all_goals
  simp only[fR,bz,if_true,Bool.false_eq_true,if_false,reduceCtorEq]at h
  try
   simp only[aY,bz,h];exact hk
def dQ(C:Cx)(cf:CF):List O→ak→Sg→Option ak
 | [],ρ,_=>some ρ
 | o::r,ρ,σ=>match o.g with
  | none=>match fR C cf o.op ρ σ with
   | some v=>dQ C cf r (putd ρ o.dst v) σ
   | none=>none
  | some (t,want)=>match get ρ t with
   | .d (.lit (.bool b))=>if b=want then(match fR C cf o.op (put ρ t (tt want)) σ with
    | some v=>dQ C cf r (putd (put ρ t (tt want)) o.dst v) σ
    | none=>none)
    else dQ C cf r (putd (put ρ t (tt (!want))) o.dst (.tup [])) σ
   | .tup []=>dQ C cf r (putd ρ o.dst (.tup [])) σ
   | _=>none
theorem b6(hcf:jc C cf):∀(l:List O) {ρ ρ':ak} {σ:Sg},dQ C cf l ρ σ=some ρ'→∀K:ak→Prop,K ρ'→aH C l ρ σ K
 | [],ρ,ρ',σ,h,K,hk=>by cases h;exact hk
 | o::r,ρ,ρ',σ,h,K,hk=>by
  simp only[dQ]at h;simp only[aH];cases hg:o.g with
  | none=>
   simp only[hg]at h ⊢;split at h
   ·rename_i v hv;exact eC hcf hv _ (b6 hcf r h K hk)
   ·cases h
  | some p=>
   obtain⟨t,want⟩:=p;simp only[hg]at h ⊢;split at h
   ·rename_i b hb;split at h
    ·rename_i hbw;split at h
     ·rename_i v hv;simp only[hb];exact⟨fun _=>eC hcf hv _ (b6 hcf r h K hk),fun hn=>absurd hbw hn⟩
     ·cases h
    ·rename_i hbw;simp only[hb];exact⟨fun hn=>absurd hn hbw,fun _=>b6 hcf r h K hk⟩
   ·rename_i hb;simp only[hb];exact b6 hcf r h K hk
   ·cases h
def evS(C:Cx)(cf:CF)(m:Nat)(σ:Sg):List O→ak→Option Sg→Option (ak×Sg)
 | [],ρ,acc=>match acc with|some σf=>some (ρ,σf)|none=>none
 | o::r,ρ,acc=>match o.op with
  | .sto kk y z=>if o.g.isNone=true∧o.dst=none then(match acc,ev C ρ y with
   | none,.ptr i off=>match σ[i]? with
    | some cs=>if m≤i∧((ev C ρ z).boxable=true∧(ev C ρ z).cells.length=kk∧off+kk≤cs.length∧bC cs=true)then evS C cf m σ r ρ (some (σ.set i (over cs off (ev C ρ z).cells)))else none
    | none=>none
   | _,_=>none)else none
  | op=>if o.g.isNone=true then(match fR C cf op ρ σ with
   | some v=>evS C cf m σ r (putd ρ o.dst v) acc
   | none=>none)else none
theorem mq(hcf:jc C cf){m:Nat}{σ:Sg}:∀(l:List O) {ρ ρ':ak} {acc:Option Sg} {σ':Sg},evS C cf m σ l ρ acc=some (ρ',σ')→(∀s,acc=some s→a7 m σ s)→a7 m σ σ'∧∀K:ak→Sg→Prop,K ρ' σ'→eX C σ l ρ acc K
 | [],ρ,ρ',acc,σ',h,ha=>by
  cases acc with
  | none=>cases h
  | some s=>cases h;exact⟨ha _ rfl,fun K hk=>hk⟩
 | ⟨dst,op,g⟩::r,ρ,ρ',acc,σ',h,ha=>by
  have other:(∀kk y z,op≠.sto kk y z)→(if g.isNone=true then(match fR C cf op ρ σ with
   | some v=>evS C cf m σ r (putd ρ dst v) acc
   | none=>none)else none)=some (ρ',σ')→a7 m σ σ'∧∀K:ak→Sg→Prop,K ρ' σ'→aY C op ρ σ (fun v=>eX C σ r (putd ρ dst v) acc K)∧g=none:=fun _ h=>by
   split at h
   ·rename_i hg;split at h
    ·rename_i v hv;obtain⟨k1,k2⟩:=mq hcf r h ha;refine⟨k1,fun K hk=>⟨eC hcf hv _ (k2 K hk),?_⟩⟩;cases g with
     | none=>rfl
     | some p=>cases hg
    ·cases h
   ·cases h
  cases op
  case sto kk y z=>
   simp only[evS]at h;split at h
   ·rename_i hg;obtain⟨hg1,hg2⟩:=hg
    have hg1:g=none:=by cases g with
     | none=>rfl
     | some p=>cases hg1
    subst hg1;subst hg2;split at h
    ·rename_i i off hy;split at h
     ·rename_i cs hcs;split at h
      ·rename_i hc;obtain⟨k1,k2⟩:=mq hcf r h (fun s e=>by cases e;exact a7.set hc.1);refine⟨k1,fun K hk=>?_⟩;simp only[eX,hy,hcs];exact⟨trivial,trivial,hc.2,k2 K hk⟩
      ·cases h
     ·cases h
    ·cases h
   ·cases h
  all_goals
   obtain⟨k1,k2⟩:=other (by simp) h;refine⟨k1,fun K hk=>?_⟩;obtain⟨k3,rfl⟩:=k2 K hk;exact k3
def Ff(C:Cx)(cf:CF):List O→ak→Sg→Sg→Bool
 | [],_,_,_=>true
 | o::r,ρ,σ,σ1=>o.g.isNone&&(match fR C cf o.op ρ σ,fR C cf o.op ρ σ1 with
  | some v,some v'=>eqV v' v&&Ff C cf r (putd ρ o.dst v) σ σ1
  | _,_=>false)
theorem nX(hcf:jc C cf){σ σ1:Sg}:∀(l:List O) {ρ ρ1:ak},dQ C cf l ρ σ=some ρ1→Ff C cf l ρ σ σ1=true→aH C l ρ σ1 (fun ρ'=>ρ'=ρ1)
 | [],ρ,ρ1,h,_=>by cases h;rfl
 | o::r,ρ,ρ1,h,hp=>by
  simp only[Ff,Bool.and_eq_true]at hp;obtain⟨hg',hp⟩:=hp;simp only[dQ]at h;simp only[aH];cases hg:o.g with
  | some p=>rw[hg]at hg';cases hg'
  | none=>
   simp only[hg]at h ⊢;split at h
   ·rename_i v hv;rw[hv]at hp;cases hv1:fR C cf o.op ρ σ1 with
    | none=>rw[hv1]at hp;simp at hp
    | some v'=>
     rw[hv1]at hp;simp only[Bool.and_eq_true]at hp;have:=vB hp.1;subst this;exact eC hcf hv1 _ (nX hcf r h hp.2)
   ·cases h
def evX(C:Cx)(cf:CF)(m:Nat)(pre:List O)(d:Option Nat)(f:FuncId)(args:List X)(post:List O)(kk:Nat)(y z:X)(ρ:ak)(σ:Sg):Res:=
 match dQ C cf pre ρ σ with
  | some ρ1=>match cf m f (args.map fun x=>(ev C ρ1 x).lend) σ with
   | some (.ret v,σ1)=>if Ff C cf pre ρ σ σ1=true then match dQ C cf post (putd ρ1 d v) σ1 with
    | some ρ2=>match ev C ρ2 y with
     | .ptr i off=>match σ1[i]? with
      | some cs=>if m≤i∧((ev C ρ2 z).boxable=true∧(ev C ρ2 z).cells.length=kk∧off+kk≤cs.length∧bC cs=true)then some (.normal,ρ2,σ1.set i (over cs off (ev C ρ2 z).cells))else none
      | none=>none
     | _=>none
    | none=>none
    else none
   | some (.panic u,σ1)=>some (.panic u,ρ1,σ1)
   | none=>none
  | none=>none
theorem qQ(hcf:jc C cf){m:Nat}{pre:List O}{d:Option Nat}{f:FuncId}{args:List X}{post:List O}{kk:Nat}{y z:X}{ρ ρ':ak}{σ σ':Sg}{e:AEx}(h:evX C cf m pre d f args post kk y z ρ σ=some (e,ρ',σ')):
 a7 m σ σ'∧∀(K:ak→Sg→Prop) (P:V→Sg→Prop),(e=.normal→K ρ' σ')→(∀u,e=.panic u→P u σ')→Ck C pre d f args post kk y z ρ σ K P:=by
 unfold evX at h;split at h
 ·rename_i ρ1 h1;cases hc:cf m f (args.map fun x=>(ev C ρ1 x).lend) σ with
  | none=>rw[hc]at h;cases h
  | some q=>
   obtain⟨o,s⟩:=q;obtain⟨g1,g2⟩:=hcf _ _ _ _ _ _ hc;rw[hc]at h;cases o with
   | ret v=>
    simp only at h;split at h
    ·rename_i hpre;split at h
     ·rename_i ρ2 h2;split at h
      ·rename_i i off hy;split at h
       ·rename_i cs hcs;split at h
        ·rename_i hcc;cases h;exact⟨g2.trans (a7.set hcc.1),fun K P hk _=>b6 hcf pre h1 _ (.inl ⟨v,s,g1,nX hcf pre h1 hpre,b6 hcf post h2 _ ⟨i,off,cs,hy,hcs,hcc.2,hk rfl⟩⟩)⟩
        ·cases h
       ·cases h
      ·cases h
     ·cases h
    ·cases h
   | panic u=>
    cases h;exact⟨g2,fun K P _ hp=>b6 hcf pre h1 _ (.inr (g1.mono fun o' s' ⟨e1,e2⟩=>⟨u,e1,by rw[e2];exact hp u rfl⟩))⟩
 ·cases h
end
end Go.Proofs.YthekkgfmagliiaaGreatDoor
namespace Go.Proofs.YthekkgfmagliiaaGreatDoor
open Go.RowKit
section
variable {C : Cx} {cf : CF}
abbrev IP:=O×ak×V×Nat
def toP:IP→PendG:=fun p=>⟨p.1,p.2.1,putd p.2.1 p.1.dst p.2.2.1,p.2.2.2⟩
def yt(C:Cx)(cf:CF)(o:O)(ρ:ak)(v:V)(σ:Sg):Bool:=o.g.isNone&&(match fR C cf o.op ρ σ with|some v'=>eqV v' v|none=>false)
theorem ng(hcf:jc C cf){o:O}{ρ:ak}{v:V}{σ:Sg}(h:yt C cf o ρ v σ=true):aH C [o] ρ σ (fun ρ'=>ρ'=putd ρ o.dst v):=by
 unfold yt at h;simp only[Bool.and_eq_true]at h;obtain⟨h1,h2⟩:=h;cases hg:o.g with
 | some p=>rw[hg]at h1;cases h1
 | none=>
  split at h2
  ·rename_i v' hv;have:=vB h2;subst this;simp only[aH,hg];exact eC hcf hv _ rfl
  ·cases h2
def reI(C:Cx)(cf:CF)(m:Nat)(σ':Sg):List IP→Bool
 | []=>true
 | p::r=>(if m≤p.2.2.2 then yt C cf p.1 p.2.1 p.2.2.1 σ' else true)&&reI C cf m σ' r
theorem mm(hcf:jc C cf){m:Nat}{σ':Sg}:∀{p:List IP},reI C cf m σ' p=true→reG C m σ' (p.map toP)
 | [],_=>trivial
 | p::r,h=>by
  simp only[reI,Bool.and_eq_true]at h;refine⟨?_,mm hcf h.2⟩;show if m≤p.2.2.2 then _ else True
  split
  ·rename_i hm;have:=h.1;rw[if_pos hm]at this;exact ng hcf this
  ·trivial
def uq(C:Cx)(cf:CF)(o:O)(ρ:ak)(v:V):Nat→List Sg→Bool
 | 0,_=>true
 | _+1,[]=>false
 | k+1,σ::h=>yt C cf o ρ v σ&&uq C cf o ρ v k h
theorem jG(hcf:jc C cf){o:O}{ρ:ak}{v:V}:∀{k:Nat} {h:List Sg},uq C cf o ρ v k h=true→jw C o ρ (putd ρ o.dst v) k h
 | 0,_,_=>by simp only[jw]
 | _+1,[],hh=>by cases hh
 | k+1,σ::h,hh=>by
  simp only[uq,Bool.and_eq_true]at hh;exact⟨ng hcf hh.1,jG hcf hh.2⟩
def EZ(C:Cx)(cf:CF)(o:O)(ρ:ak)(σ:Sg):Option V:=if o.g.isNone=true then fR C cf o.op ρ σ else none
theorem nV(hcf:jc C cf){o:O}{ρ:ak}{σ:Sg}{v:V}(h:EZ C cf o ρ σ=some v)(K:ak→Prop)(hk:K (putd ρ o.dst v)):aH C [o] ρ σ K:=by
 unfold EZ at h;split at h
 ·rename_i hg;cases hg':o.g with
  | some p=>rw[hg']at hg;cases hg
  | none=>
   simp only[aH,hg'];exact eC hcf h _ hk
 ·cases h
def kD(C:Cx)(cf:CF):List (O×GK)→Nat→List Sg→ak→Sg→Bool
 | [],_,_,_,_=>true
 | (o,.free lo)::r,m,h,ρ,σ=>if lo≤m then(match dQ C cf [o] ρ σ with|some ρ'=>kD C cf r m h ρ' σ|none=>false)else kD C cf r m h (ap o (.junk,.junk) ρ) σ
 | (o,.calm lo _)::r,m,h,ρ,σ=>if lo≤m then(match EZ C cf o ρ σ with|some v=>uq C cf o ρ v (m-lo) h&&kD C cf r m h (putd ρ o.dst v) σ|none=>false)else kD C cf r m h (ap o (.junk,.junk) ρ) σ
 | (o,.slot lo)::r,m,h,ρ,σ=>if lo≤m then(match fX C cf 0 [o] ρ σ with|some (.normal,ρ',_)=>kD C cf r m h ρ' σ|_=>false)else kD C cf r m h (ap o (.junk,.junk) ρ) σ
 | (o,.act)::r,m,h,ρ,σ=>kD C cf r m h (ap o (.junk,.junk) ρ) σ
theorem dR(hcf:jc C cf):∀(l:List (O×GK)) {m:Nat} {h:List Sg} {ρ:ak} {σ:Sg},kD C cf l m h ρ σ=true→dD C l m h ρ σ
 | [],_,_,_,_,_=>trivial
 | (o,.free lo)::r,m,h,ρ,σ,hh=>by
  simp only[kD]at hh;simp only[dD];split
  ·rename_i hlo;rw[if_pos hlo]at hh;split at hh
   ·rename_i ρ' h1;exact b6 hcf [o] h1 _ (dR hcf r hh)
   ·cases hh
  ·rename_i hlo;rw[if_neg hlo]at hh;exact dR hcf r hh
 | (o,.calm lo hi)::r,m,h,ρ,σ,hh=>by
  simp only[kD]at hh;simp only[dD];split
  ·rename_i hlo;rw[if_pos hlo]at hh;split at hh
   ·rename_i v h1;rw[Bool.and_eq_true]at hh;exact nV hcf h1 _ ⟨jG hcf hh.1,dR hcf r hh.2⟩
   ·cases hh
  ·rename_i hlo;rw[if_neg hlo]at hh;exact dR hcf r hh
 | (o,.slot lo)::r,m,h,ρ,σ,hh=>by
  simp only[kD]at hh;simp only[dD];split
  ·rename_i hlo;rw[if_pos hlo]at hh;split at hh
   ·rename_i ρ' σ' h1;exact(dm hcf [o] h1).2 (fun e ρ' _=>e=.normal∧dD C r m h ρ' σ) ⟨rfl,dR hcf r hh⟩
   ·cases hh
  ·rename_i hlo;rw[if_neg hlo]at hh;exact dR hcf r hh
 | (o,.act)::r,m,h,ρ,σ,hh=>by
  simp only[kD]at hh;simp only[dD];exact dR hcf r hh
def evG(C:Cx)(cf:CF)(b:Nat):List (O×GK)→Nat→List Sg→List IP→ak→Sg→Res
 | [],_,_,_,ρ,σ=>some (.normal,ρ,σ)
 | (o,.free _)::r,m,h,p,ρ,σ=>match dQ C cf [o] ρ σ with
  | some ρ'=>evG C cf b r m h p ρ' σ
  | none=>none
 | (o,.calm lo hi)::r,m,h,p,ρ,σ=>match EZ C cf o ρ σ with
  | some v=>if uq C cf o ρ v (m-lo) h=true then evG C cf b r m h (if m<hi then(o,ρ,v,hi)::p else p) (putd ρ o.dst v) σ else none
  | none=>none
 | (o,.slot _)::r,m,h,p,ρ,σ=>match fX C cf b [o] ρ σ with
  | some (.normal,ρ',σ')=>evG C cf b r m h p ρ' σ'
  | _=>none
 | (⟨d,.call f args,g⟩,.act)::r,m,h,p,ρ,σ=>match cf b f (args.map fun x=>(ev C ρ x).lend) σ with
  | some (.ret v,σ1)=>if reI C cf (m+1) σ1 p=true then evG C cf b r (m+1) (σ::h) p (putd ρ d v) σ1 else none
  | some (.panic u,σ1)=>if kD C cf r m h (putd ρ d .junk) σ=true then some (.panic u,[],σ1)else none
  | none=>none
 | (⟨d,.callv x args,g⟩,.act)::r,m,h,p,ρ,σ=>match ev C ρ x with
  | .fn f cap=>(match cf b f ((args.map fun x=>(ev C ρ x).lend)++cap) σ with
   | some (.ret v,σ1)=>if reI C cf (m+1) σ1 p=true then evG C cf b r (m+1) (σ::h) p (putd ρ d v) σ1 else none
   | some (.panic u,σ1)=>if kD C cf r m h (putd ρ d .junk) σ=true then some (.panic u,[],σ1)else none
   | none=>none)
  | _=>none
 | (o,.act)::r,m,h,p,ρ,σ=>match fX C cf b [o] ρ σ with
  | some (.normal,ρ',σ')=>if reI C cf (m+1) σ' p=true then evG C cf b r (m+1) (σ::h) p ρ' σ' else none
  | _=>none
theorem DT{m hi:Nat}{x:IP}{p:List IP}(hx:hi=x.2.2.2):(if m<hi then x::p else p).map toP=pM m hi (toP x) (p.map toP):=by
 unfold pM;split<;>rfl
theorem ei(hcf:jc C cf){b:Nat}{P:V→Sg→Prop}{K:ak→Sg→Prop}:∀(l:List (O×GK)) {m:Nat} {h:List Sg} {p:List IP} {ρ ρ':ak} {σ σ':Sg} {e:AEx},evG C cf b l m h p ρ σ=some (e,ρ',σ')→
 a7 b σ σ'∧((e=.normal→K ρ' σ')→(∀u,e=.panic u→P u σ')→(e≠.normal→ρ'=[]∧∃u,e=.panic u)∧dH C P K l m h (p.map toP) ρ σ)
 | [],m,h,p,ρ,ρ',σ,σ',e,hh=>by
  cases hh;exact⟨a7.rfl',fun hk _=>⟨fun hn=>absurd rfl hn,hk rfl⟩⟩
 | (o,.free _)::r,m,h,p,ρ,ρ',σ,σ',e,hh=>by
  simp only[evG]at hh;split at hh
  ·rename_i ρ1 h1;obtain⟨k1,k2⟩:=ei hcf (P:=P) (K:=K) r hh;exact⟨k1,fun hk hp=>⟨(k2 hk hp).1,b6 hcf [o] h1 _ (k2 hk hp).2⟩⟩
  ·cases hh
 | (o,.calm lo hi)::r,m,h,p,ρ,ρ',σ,σ',e,hh=>by
  simp only[evG]at hh;split at hh
  ·rename_i v h1;split at hh
   ·rename_i hb;obtain⟨k1,k2⟩:=ei hcf (P:=P) (K:=K) r hh;refine⟨k1,fun hk hp=>⟨(k2 hk hp).1,nV hcf h1 _ ⟨jG hcf hb,?_⟩⟩⟩;have:=(k2 hk hp).2;rwa[DT (x:=(o,ρ,v,hi)) rfl]at this
   ·cases hh
  ·cases hh
 | (o,.slot _)::r,m,h,p,ρ,ρ',σ,σ',e,hh=>by
  simp only[evG]at hh;split at hh
  ·rename_i ρ1 σ1 h1;obtain⟨g1,g2⟩:=dm hcf [o] h1;obtain⟨k1,k2⟩:=ei hcf (P:=P) (K:=K) r hh;exact⟨g1.trans k1,fun hk hp=>⟨(k2 hk hp).1,g2 (fun e ρ' σ'=>e=.normal∧dH C P K r m h (p.map toP) ρ' σ') ⟨rfl,(k2 hk hp).2⟩⟩⟩
  ·cases hh
 | (o,.act)::r,m,h,p,ρ,ρ',σ,σ',e,hh=>by
  have call:∀(f:FuncId) (a:List V),(match cf b f a σ with
   | some (.ret v,σ1)=>if reI C cf (m+1) σ1 p=true then evG C cf b r (m+1) (σ::h) p (putd ρ o.dst v) σ1 else none
   | some (.panic u,σ1)=>if kD C cf r m h (putd ρ o.dst .junk) σ=true then some (.panic u,[],σ1)else none
   | none=>none)=some (e,ρ',σ')→a7 b σ σ'∧((e=.normal→K ρ' σ')→(∀u,e=.panic u→P u σ')→(e≠.normal→ρ'=[]∧∃u,e=.panic u)∧
    ((∃v σ1,Fun C f a σ (fun o σ'=>o=.ret v∧σ'=σ1)∧reG C (m+1) σ1 (p.map toP)∧dH C P K r (m+1) (σ::h) (p.map toP) (putd ρ o.dst v) σ1)∨
      (Fun C f a σ (fun o σ'=>∃u,o=.panic u∧P u σ')∧dD C r m h (putd ρ o.dst .junk) σ))):=fun f a hh=>by
   cases hc:cf b f a σ with
   | none=>rw[hc]at hh;cases hh
   | some q=>
    obtain⟨o',s⟩:=q;obtain⟨g1,g2⟩:=hcf _ _ _ _ _ _ hc;rw[hc]at hh;cases o' with
    | ret v=>
     simp only at hh;split at hh
     ·rename_i hre;obtain⟨k1,k2⟩:=ei hcf (P:=P) (K:=K) r hh;exact⟨g2.trans k1,fun hk hp=>⟨(k2 hk hp).1,.inl ⟨v,s,g1,mm hcf hre,(k2 hk hp).2⟩⟩⟩
     ·cases hh
    | panic u=>
     simp only at hh;split at hh
     ·rename_i hpan;cases hh;exact⟨g2,fun _ hp=>⟨fun _=>⟨rfl,u,rfl⟩,.inr ⟨g1.mono fun o' s' ⟨e1,e2⟩=>⟨u,e1,by rw[e2];exact hp u rfl⟩,dR hcf r hpan⟩⟩⟩
     ·cases hh
  have other:(match fX C cf b [o] ρ σ with
   | some (.normal,ρ',σ')=>if reI C cf (m+1) σ' p=true then evG C cf b r (m+1) (σ::h) p ρ' σ' else none
   | _=>none)=some (e,ρ',σ')→a7 b σ σ'∧((e=.normal→K ρ' σ')→(∀u,e=.panic u→P u σ')→(e≠.normal→ρ'=[]∧∃u,e=.panic u)∧
    bZ C [o] ρ σ fun e ρ' σ'=>e=.normal∧reG C (m+1) σ' (p.map toP)∧dH C P K r (m+1) (σ::h) (p.map toP) ρ' σ'):=fun hh=>by
   split at hh
   ·rename_i ρ1 σ1 h1;split at hh
    ·rename_i hre;obtain⟨g1,g2⟩:=dm hcf [o] h1;obtain⟨k1,k2⟩:=ei hcf (P:=P) (K:=K) r hh;exact⟨g1.trans k1,fun hk hp=>⟨(k2 hk hp).1,g2 (fun e ρ' σ'=>e=.normal∧reG C (m+1) σ' (p.map toP)∧dH C P K r (m+1) (σ::h) (p.map toP) ρ' σ') ⟨rfl,mm hcf hre,(k2 hk hp).2⟩⟩⟩
    ·cases hh
   ·cases hh
  obtain⟨d,op,g⟩:=o;cases op;case call f args=>exact call f _ hh
  case callv x args=>
   simp only[evG]at hh;split at hh
   ·rename_i f cap hx;obtain⟨k1,k2⟩:=call f _ hh;exact⟨k1,fun hk hp=>⟨(k2 hk hp).1,f,cap,hx,(k2 hk hp).2⟩⟩
   ·cases hh
  all_goals exact other hh
end
end Go.Proofs.YthekkgfmagliiaaGreatDoor
