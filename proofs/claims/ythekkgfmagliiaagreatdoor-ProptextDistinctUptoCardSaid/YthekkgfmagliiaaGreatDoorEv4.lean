import Derived.Test.YthekkgfmagliiaaGreatDoorEv3
set_option linter.unusedVariables false
set_option linter.unusedSimpArgs false
set_option linter.unusedSectionVars false
namespace Go.Proofs.YthekkgfmagliiaaGreatDoor
open Go.RowKit
inductive Ent where
 | cd (c:Cd) (rs:List RV) (k:Nat)
 | dd (c:CdD) (rs:List RV) (k:Nat)
section
variable {C : Cx} {cf : CF}
def tF(keep:List Nat):Res→Res
 | some (e,ρ,σ)=>some (e,aC keep ρ,σ)
 | none=>none
def fG(C:Cx)(cf:CF)(run:Cd→ak→Sg→Res)(m:Nat)(c:Cd)(ρ:ak)(σ:Sg):Res:=
 match c with
 | .skip=>some (.normal,ρ,σ)
 | .ops l keep=>tF keep (fX C cf m l ρ σ)
 | .draw l keep=>match dQ C cf l ρ σ with
  | some ρ'=>some (.normal,aC keep ρ',σ)
  | none=>none
 | .draws l keep=>match evS C cf m σ l ρ none with
  | some (ρ',σ')=>some (.normal,aC keep ρ',σ')
  | none=>none
 | .drawx pre d f args post kk y z keep=>match evX C cf m pre d f args post kk y z ρ σ with
  | some (.normal,ρ',σ')=>some (.normal,aC keep ρ',σ')
  | some (.panic u,_,σ')=>some (.panic u,[],σ')
  | _=>none
 | .drawg l keep=>match evG C cf m l 0 [] [] ρ σ with
  | some (.normal,ρ',σ')=>some (.normal,aC keep ρ',σ')
  | some (.panic u,_,σ')=>some (.panic u,[],σ')
  | _=>none
 | .drawp l x=>match dQ C cf l ρ σ with
  | some ρ'=>match ev C ρ' x with
   | .iface ty u=>some (.panic (.iface ty u),[],σ)
   | _=>none
  | none=>none
 | .seq a b=>match run a ρ σ with
  | some (.normal,ρ',σ')=>run b ρ' σ'
  | r=>r
 | .cond x a b=>match ev C ρ x with
  | .d (.lit (.bool t))=>if t=true then run a ρ σ else run b ρ σ
  | _=>none
 | .block id a=>match run a ρ σ with
  | some (.exit j,ρ',σ')=>if j=id then some (.normal,ρ',σ')else some (.exit j,ρ',σ')
  | r=>r
 | .loop a=>match run a ρ σ with
  | some (.normal,ρ',σ')=>run (.loop a) ρ' σ'
  | r=>r
 | .exit id=>some (.exit id,ρ,σ)
 | .ret=>some (.ret,ρ,σ)
 | _=>none
def evD(C:Cx)(run:Cd→ak→Sg→Res):CdD→ak→Sg→Option (AEx×ak×Sg×Option (FuncId×List V))
 | .seq a b,ρ,σ=>match run a ρ σ with
  | some (.normal,ρ',σ')=>evD C run b ρ' σ'
  | some (e,ρ',σ')=>some (e,ρ',σ',none)
  | none=>none
 | .dfr s g cap rest,ρ,σ=>match run rest (put ρ s (.fn g (cap.map (ev C ρ)))) σ with
  | some (e,ρ',σ')=>some (e,ρ',σ',some (g,cap.map (ev C ρ)))
  | none=>none
def evR(C:Cx)(run:Cd→ak→Sg→Res)(m:Nat)(x:V):CdR→ak→Sg→Res
 | .reg s l keep,ρ,σ=>tF keep (fX C (fun _ _ _ _=>none) m l (put ρ s x) σ)
 | .seq a b,ρ,σ=>match evR C run m x a ρ σ with
  | some (.normal,ρ',σ')=>run b ρ' σ'
  | r=>r
def EF(n0:Nat)(o:Out)(v:V)(σ:Sg):Option (Out×Sg):=
 if n0≤σ.length then(if V.under n0 v=true∧az n0 (σ.take n0)=true then some (o,σ.take n0)else if V.under σ.length v=true∧az σ.length (σ.take σ.length)=true then some (o,σ.take σ.length)else none)else none
def wS(n0:Nat)(rs:List RV)(ρ:ak)(σ:Sg):Option (Out×Sg):=match lZ σ ρ rs with
 | some v=>EF n0 (.ret v) v σ
 | none=>none
def Iw(n0:Nat)(rs:List RV)(e:AEx)(ρ:ak)(σ:Sg):Option (Out×Sg):=match e with
 | .normal=>wS n0 rs ρ σ
 | .ret=>wS n0 rs ρ σ
 | .panic v=>EF n0 (.panic v) v σ
 | .exit _=>none
def II:AEx→Option (Option V)
 | .normal=>some none
 | .ret=>some none
 | .panic v=>if v.isOwn=true then none else some (some v)
 | .exit _=>none
def Hz(C:Cx)(run:Cd→ak→Sg→Res)(R:FuncId→Option (CdR×Nat))(m n0:Nat)(rs:List RV)(e:AEx)(ρ:ak)(σ:Sg)(g:FuncId)(caps:List V):Option (Out×Sg):=
 if ρ.isEmpty=true∨σ.length<m then none else match II e,R g with
 | some x,some (c,k)=>if k=caps.length∧caps.all (! ·.isOwn)=true then(match evR C run m (x.getD (.d (.lit .nilIface))) c (ac 0 caps) σ with
  | some (.normal,_,σ3)=>if σ.length≤σ3.length∧az σ.length (σ3.take σ.length)=true then wS n0 rs ρ (σ3.take σ.length)else none
  | some (.ret,_,σ3)=>if σ.length≤σ3.length∧az σ.length (σ3.take σ.length)=true then wS n0 rs ρ (σ3.take σ.length)else none
  | _=>none)else none
 | _,_=>none
def evF(C:Cx)(run:Nat→Cd→ak→Sg→Res)(T:FuncId→Option Ent)(R:FuncId→Option (CdR×Nat))(orc:FuncId→List V→Option V):CF:=fun m f a σ=>
 match orc f a with
 | some v=>some (.ret v,σ)
 | none=>if a.all (! ·.isOwn)=true then(match T f with
  | some (.cd c rs k)=>if k=a.length then(match run m c (ac 0 a) σ with
   | some (e,ρ,σ')=>Iw σ.length rs e ρ σ'
   | none=>none)else none
  | some (.dd c rs k)=>if k=a.length then(match evD C (run m) c (ac 0 a) σ with
   | some (e,ρ,σ',none)=>Iw σ.length rs e ρ σ'
   | some (e,ρ,σ',some (g,caps))=>Hz C (run m) R m σ.length rs e ρ σ' g caps
   | none=>none)else none
  | none=>none)else none
def evC(C:Cx)(T:FuncId→Option Ent)(R:FuncId→Option (CdR×Nat))(orc:FuncId→List V→Option V):Nat→Nat→Cd→ak→Sg→Res
 | 0,_,_,_,_=>none
 | n+1,m,c,ρ,σ=>fG C (evF C (evC C T R orc n) T R orc) (evC C T R orc n m) m c ρ σ
def ro(C:Cx)(m:Nat)(run:Cd→ak→Sg→Res):Prop:=∀c ρ σ e ρ' σ',run c ρ σ=some (e,ρ',σ')→a7 m σ σ'∧∀(n0:Nat) (Q:bS),km Q e ρ' σ'→awp C n0 c ρ σ Q
theorem mN{keep:List Nat}{r:Res}{e:AEx}{ρ':ak}{σ':Sg}(h:tF keep r=some (e,ρ',σ')):∃ρ1,r=some (e,ρ1,σ')∧ρ'=aC keep ρ1:=by
 cases r with
 | none=>cases h
 | some q=>obtain⟨e1,ρ1,σ1⟩:=q;cases h;exact⟨ρ1,rfl,rfl⟩
theorem qE{Q:bS}{keep:List Nat}{e:AEx}{ρ:ak}{σ:Sg}(h:km Q e (aC keep ρ) σ):km (fun e ρ' σ'=>Q e (aC keep ρ') σ') e ρ σ:=by
 cases e
 case panic u=>
  intro ρ2 h2;rcases h2 with rfl|rfl
  ·exact h _ (.inl rfl)
  ·exact h _ (.inr rfl)
 all_goals exact h
theorem eF{Q:bS}{next:ak→Sg→Prop}{e:AEx}{ρ:ak}{σ:Sg}(hn:e=.normal→next ρ σ)(h:e≠.normal→km Q e ρ σ):km (andThen next Q) e ρ σ:=by
 cases e;case normal=>exact hn rfl
 all_goals exact h (by simp)
theorem uw{m:Nat}{run:Cd→ak→Sg→Res}(hcf:jc C cf)(hrun:ro C m run){c:Cd}(hnl:∀a,c≠.loop a){ρ ρ':ak}{σ σ':Sg}{e:AEx}(h:fG C cf run m c ρ σ=some (e,ρ',σ')):
 a7 m σ σ'∧∀(n0:Nat) (Q:bS),km Q e ρ' σ'→awp C n0 c ρ σ Q:=by
 cases c;case loop a=>exact absurd rfl (hnl a)
 case skip=>cases h;exact⟨a7.rfl',fun n0 Q hq=>hq⟩
 case exit id=>cases h;exact⟨a7.rfl',fun n0 Q hq=>hq⟩
 case ret=>cases h;exact⟨a7.rfl',fun n0 Q hq=>hq⟩
 case ops l keep=>
  obtain⟨ρ1,h1,rfl⟩:=mN h;obtain⟨k1,k2⟩:=dm hcf l h1;exact⟨k1,fun n0 Q hq=>k2 _ (qE hq)⟩
 case draw l keep=>
  simp only[fG]at h;split at h
  ·rename_i ρ1 h1;cases h;exact⟨a7.rfl',fun n0 Q hq=>b6 hcf l h1 _ hq⟩
  ·cases h
 case draws l keep=>
  simp only[fG]at h;split at h
  ·rename_i ρ1 σ1 h1;cases h;obtain⟨k1,k2⟩:=mq hcf l h1 (fun s e=>by cases e);exact⟨k1,fun n0 Q hq=>k2 _ hq⟩
  ·cases h
 case drawx pre d f args post kk y z keep=>
  simp only[fG]at h;split at h
  ·rename_i ρ1 σ1 h1;cases h;obtain⟨k1,k2⟩:=qQ hcf h1;exact⟨k1,fun n0 Q hq=>k2 _ _ (fun _=>hq) (fun u hu=>by cases hu)⟩
  ·rename_i u ρ1 σ1 h1;cases h;obtain⟨k1,k2⟩:=qQ hcf h1;exact⟨k1,fun n0 Q hq=>k2 _ _ (fun hu=>by cases hu) (fun u' hu ρ2=>by cases hu;exact hq _ (.inr rfl))⟩
  ·cases h
 case drawg l keep=>
  simp only[fG]at h;split at h
  ·rename_i ρ1 σ1 h1;cases h;refine⟨(ei hcf (P:=fun _ _=>True) (K:=fun _ _=>True) l h1).1,fun n0 Q hq=>((ei hcf l h1).2 (fun _=>hq) (fun u hu=>by cases hu)).2⟩
  ·rename_i u ρ1 σ1 h1;cases h;refine⟨(ei hcf (P:=fun _ _=>True) (K:=fun _ _=>True) l h1).1,fun n0 Q hq=>((ei hcf l h1).2 (fun hu=>by cases hu) (fun u' hu ρ2=>by cases hu;exact hq _ (.inr rfl))).2⟩
  ·cases h
 case drawp l x=>
  simp only[fG]at h;split at h
  ·rename_i ρ1 h1;split at h
   ·rename_i ty u hx;cases h;exact⟨a7.rfl',fun n0 Q hq=>b6 hcf l h1 _ ⟨ty,u,hx,fun ρ2=>hq _ (.inr rfl)⟩⟩
   ·cases h
  ·cases h
 case seq a b=>
  simp only[fG]at h;split at h
  ·rename_i ρ1 σ1 h1;obtain⟨k1,k2⟩:=hrun _ _ _ _ _ _ h1;obtain⟨k3,k4⟩:=hrun _ _ _ _ _ _ h;exact⟨k1.trans k3,fun n0 Q hq=>k2 n0 _ (eF (fun _=>k4 n0 Q hq) (fun hn=>absurd rfl hn))⟩
  ·rename_i hx;obtain⟨k1,k2⟩:=hrun _ _ _ _ _ _ h;refine⟨k1,fun n0 Q hq=>k2 n0 _ (eF (fun he=>?_) (fun _=>hq))⟩;subst he;exact absurd h (hx _ _)
 case cond x a b=>
  simp only[fG]at h;split at h
  ·rename_i t hx;cases t with
   | true=>
    obtain⟨k1,k2⟩:=hrun _ _ _ _ _ _ h;refine⟨k1,fun n0 Q hq=>?_⟩;simp only[awp,hx];exact⟨fun _=>k2 n0 Q hq,fun hn=>Bool.noConfusion hn⟩
   | false=>
    obtain⟨k1,k2⟩:=hrun _ _ _ _ _ _ h;refine⟨k1,fun n0 Q hq=>?_⟩;simp only[awp,hx];exact⟨fun hn=>Bool.noConfusion hn,fun _=>k2 n0 Q hq⟩
  ·cases h
 case block id a=>
  simp only[fG]at h;split at h
  ·rename_i j ρ1 σ1 h1;obtain⟨k1,k2⟩:=hrun _ _ _ _ _ _ h1;split at h
   ·rename_i hj;cases h;exact⟨k1,fun n0 Q hq=>k2 n0 _ (by show(if j=id then Q .normal ρ' σ' else Q (.exit j) ρ' σ');rw[if_pos hj];exact hq)⟩
   ·rename_i hj;cases h;exact⟨k1,fun n0 Q hq=>k2 n0 _ (by show(if j=id then Q .normal ρ' σ' else Q (.exit j) ρ' σ');rw[if_neg hj];exact hq)⟩
  ·rename_i hx;obtain⟨k1,k2⟩:=hrun _ _ _ _ _ _ h;refine⟨k1,fun n0 Q hq=>k2 n0 _ ?_⟩;cases e;case exit j=>exact absurd h (hx _ _ _)
   all_goals exact hq
 all_goals cases h
theorem md{m:Nat}{run:Cd→ak→Sg→Res}(hrun:ro C m run):∀(c:CdD) {ρ ρ':ak} {σ σ':Sg} {e:AEx} {d:Option (FuncId×List V)},evD C run c ρ σ=some (e,ρ',σ',d)→
 a7 m σ σ'∧∀(n0:Nat) (Q:bS) (QD:uQ),(d=none→km Q e ρ' σ')→(∀g caps,d=some (g,caps)→km (QD g caps) e ρ' σ')→Eu C n0 c ρ σ Q QD
 | .seq a b,ρ,ρ',σ,σ',e,d,h=>by
  simp only[evD]at h;split at h
  ·rename_i ρ1 σ1 h1;obtain⟨k1,k2⟩:=hrun _ _ _ _ _ _ h1;obtain⟨k3,k4⟩:=md hrun b h;exact⟨k1.trans k3,fun n0 Q QD hq hd=>k2 n0 _ (eF (fun _=>k4 n0 Q QD hq hd) (fun hn=>absurd rfl hn))⟩
  ·rename_i e1 ρ1 σ1 hne h1;cases h;obtain⟨k1,k2⟩:=hrun _ _ _ _ _ _ h1;exact⟨k1,fun n0 Q QD hq _=>k2 n0 _ (eF (fun he=>(hne he).elim) (fun _=>hq rfl))⟩
  ·cases h
 | .dfr s g cap rest,ρ,ρ',σ,σ',e,d,h=>by
  simp only[evD]at h;split at h
  ·rename_i e1 ρ1 σ1 h1;cases h;obtain⟨k1,k2⟩:=hrun _ _ _ _ _ _ h1;exact⟨k1,fun n0 Q QD _ hd=>k2 _ _ (hd _ _ rfl)⟩
  ·cases h
theorem Bg:jc C (fun _ _ _ _=>none):=fun _ _ _ _ _ _ h=>by cases h
theorem j9{m:Nat}{run:Cd→ak→Sg→Res}(hrun:ro C m run){x:V}:∀(c:CdR) {ρ ρ':ak} {σ σ':Sg} {e:AEx},evR C run m x c ρ σ=some (e,ρ',σ')→
 a7 m σ σ'∧∀(n0:Nat) (Q:bS),km Q e ρ' σ'→CI C n0 x c ρ σ Q
 | .reg s l keep,ρ,ρ',σ,σ',e,h=>by
  obtain⟨ρ1,h1,rfl⟩:=mN h;obtain⟨k1,k2⟩:=dm Bg l h1;exact⟨k1,fun n0 Q hq=>k2 _ (qE hq)⟩
 | .seq a b,ρ,ρ',σ,σ',e,h=>by
  simp only[evR]at h;split at h
  ·rename_i ρ1 σ1 h1;obtain⟨k1,k2⟩:=j9 hrun a h1;obtain⟨k3,k4⟩:=hrun _ _ _ _ _ _ h;exact⟨k1.trans k3,fun n0 Q hq=>k2 n0 _ (eF (fun _=>k4 n0 Q hq) (fun hn=>absurd rfl hn))⟩
  ·rename_i hx;obtain⟨k1,k2⟩:=j9 hrun a h;refine⟨k1,fun n0 Q hq=>k2 n0 _ (eF (fun he=>?_) (fun _=>hq))⟩;subst he;exact absurd h (hx _ _)
theorem pN{n0:Nat}{o o':Out}{v:V}{σ σ':Sg}(h:EF n0 o v σ=some (o',σ')):o'=o∧∃k,n0≤k∧az k (σ.take k)=true∧V.under k v=true∧σ'=σ.take k:=by
 unfold EF at h;split at h
 ·rename_i hn;split at h
  ·rename_i hc;cases h;exact⟨rfl,n0,Nat.le_refl _,hc.2,hc.1,rfl⟩
  ·split at h
   ·rename_i hc;cases h;exact⟨rfl,_,hn,hc.2,hc.1,rfl⟩
   ·cases h
 ·cases h
theorem kH{n0:Nat}{rs:List RV}{ρ:ak}{σ σ':Sg}{o:Out}(h:wS n0 rs ρ σ=some (o,σ')):(∃k,n0≤k∧σ'=σ.take k)∧xg n0 rs (fun o' s'=>o'=o∧s'=σ') ρ σ:=by
 unfold wS at h;split at h
 ·rename_i v hv;obtain⟨rfl,k,k1,k2,k3,rfl⟩:=pN h;exact⟨⟨k,k1,rfl⟩,v,hv,k,k1,k2,k3,rfl,rfl⟩
 ·cases h
theorem pF{n0:Nat}{rs:List RV}{e:AEx}{ρ:ak}{σ σ':Sg}{o:Out}(h:Iw n0 rs e ρ σ=some (o,σ')):(∃k,n0≤k∧σ'=σ.take k)∧km (fin n0 rs (fun o' s'=>o'=o∧s'=σ')) e ρ σ:=by
 cases e with
 | normal=>
  obtain⟨h1,h2⟩:=kH h;exact⟨h1,ρ,σ,cW.refl _ _ _,h2⟩
 | ret=>
  obtain⟨h1,h2⟩:=kH h;exact⟨h1,ρ,σ,cW.refl _ _ _,h2⟩
 | panic v=>
  obtain⟨rfl,k,k1,k2,k3,rfl⟩:=pN h;exact⟨⟨k,k1,rfl⟩,fun _ _=>⟨k,k1,k2,k3,rfl,rfl⟩⟩
 | exit id=>cases h
theorem a7.end{m k:Nat}{σ σ1 σ':Sg}(h:a7 m σ σ1)(hk:∃k,σ.length≤k∧σ'=σ1.take k):a7 m σ σ':=by
 obtain⟨k,k1,rfl⟩:=hk;exact fun hm=>(h.take (Nat.le_trans hm k1)) hm
def qR(C:Cx)(T:FuncId→Option Ent)(R:FuncId→Option (CdR×Nat))(orc:FuncId→List V→Option V):Prop:=
 (∀f c rs k,T f=some (.cd c rs k)→∃fn,C.P.funcs[f]? = some fn∧aM C.tab fn k c rs=true)∧
 (∀f c rs k,T f=some (.dd c rs k)→∃fn,C.P.funcs[f]? = some fn∧qV C.tab fn k c rs=true)∧
 (∀f c k,R f=some (c,k)→∃fn,C.P.funcs[f]? = some fn∧qy C.tab fn k c=true)∧
 (∀f a v,orc f a=some v→∀σ,Fun C f a σ (fun o s=>o=.ret v∧s=σ))
theorem w8{run:Cd→ak→Sg→Res}{T:FuncId→Option Ent}{R:FuncId→Option (CdR×Nat)}{orc:FuncId→List V→Option V}(hT:qR C T R orc){m:Nat}(hrun:ro C m run){n0:Nat}{rs:List RV}{e:AEx}{ρ:ak}{σ σ':Sg}{g:FuncId}{caps:List V}{o:Out}
 (h:Hz C run R m n0 rs e ρ σ g caps=some (o,σ')):(∃σ4 k,a7 m σ σ4∧n0≤k∧σ'=σ4.take k)∧km (Hs C n0 rs (fun o' s'=>o'=o∧s'=σ') g caps) e ρ σ:=by
 unfold Hz at h;split at h
 ·cases h
 rename_i hne';have hne:¬ρ.isEmpty=true:=fun hh=>hne' (.inl hh);have hm:m≤σ.length:=Nat.le_of_not_lt fun hh=>hne' (.inr hh);split at h
 ·rename_i x c k hx hR;split at h
  ·rename_i hcc;obtain⟨fn,hf,hok⟩:=hT.2.2.1 _ _ _ hR
   have hxo:∀v,x=some v→v.isOwn=false:=fun v hv=>by
    subst hv;cases e<;>simp only[II]at hx<;>first|(cases hx;done)|skip
    split at hx
    ·cases hx
    ·rename_i hv;cases hx;simpa using hv
   have key:∀σ3,(σ.length≤σ3.length∧az σ.length (σ3.take σ.length)=true)→a7 m σ σ3→(∀(n1:Nat) (Q:bS),(Q .normal=Q .normal→(∀ρ9,Q .normal ρ9 σ3)→(∀ρ9,Q .ret ρ9 σ3)→CI C n1 (x.getD (.d (.lit .nilIface))) c (ac 0 caps) σ Q))→wS n0 rs ρ (σ3.take σ.length)=some (o,σ')→
    (∃σ4 k,a7 m σ σ4∧n0≤k∧σ'=σ4.take k)∧kL C g caps σ x (xg n0 rs (fun o' s'=>o'=o∧s'=σ') ρ):=fun σ3 hb hk hw he=>by
    obtain⟨⟨k',k1,k2⟩,h2⟩:=kH he;refine⟨⟨_,k',hk.take hm,k1,k2⟩,D1 hf (by rw[←hcc.1];exact hok) hcc.2 hxo fun _=>hw _ _ rfl (fun _=>⟨σ.length,Nat.le_refl _,hb.2,h2⟩) (fun _=>⟨σ.length,Nat.le_refl _,hb.2,h2⟩)⟩
   have tell:kL C g caps σ x (xg n0 rs (fun o' s'=>o'=o∧s'=σ') ρ)→km (Hs C n0 rs (fun o' s'=>o'=o∧s'=σ') g caps) e ρ σ:=fun hF=>by
    cases e with
    | normal=>cases hx;exact hF
    | ret=>cases hx;exact hF
    | exit id=>cases hx
    | panic v=>
     simp only[II]at hx;split at hx
     ·cases hx
     ·cases hx;intro ρ2 h2;rcases h2 with rfl|rfl
      ·exact hF
      ·exact absurd (show List.isEmpty ([]:ak)=true from rfl) hne
   split at h
   ·rename_i ρ3 σ3 h3;split at h
    ·rename_i hb;obtain⟨k1,k2⟩:=j9 hrun c h3;obtain⟨g1,g2⟩:=key σ3 hb k1 (fun n1 Q _ q1 _=>k2 n1 Q (q1 _)) h;exact⟨g1,tell g2⟩
    ·cases h
   ·rename_i ρ3 σ3 h3;split at h
    ·rename_i hb;obtain⟨k1,k2⟩:=j9 hrun c h3;obtain⟨g1,g2⟩:=key σ3 hb k1 (fun n1 Q _ _ q1=>k2 n1 Q (q1 _)) h;exact⟨g1,tell g2⟩
    ·cases h
   ·cases h
  ·cases h
 ·cases h
theorem qF{run:Nat→Cd→ak→Sg→Res}{T:FuncId→Option Ent}{R:FuncId→Option (CdR×Nat)}{orc:FuncId→List V→Option V}(hT:qR C T R orc)(hrun:∀m,ro C m (run m)):jc C (evF C run T R orc):=by
 intro m f a σ o σ' h;unfold evF at h;split at h
 ·rename_i v hv;cases h;exact⟨hT.2.2.2 _ _ _ hv σ,a7.rfl'⟩
 split at h
 ·rename_i hno;split at h
  ·rename_i c rs k hTf;split at h
   ·rename_i hk;subst hk;split at h
    ·rename_i e ρ σ1 h1;obtain⟨k1,k2⟩:=hrun m _ _ _ _ _ _ h1;obtain⟨g1,g2⟩:=pF h;obtain⟨fn,hf,hok⟩:=hT.1 _ _ _ _ hTf;exact⟨qx hf hok hno fun _ _=>k2 _ _ g2,k1.end (k:=0) g1⟩
    ·cases h
   ·cases h
  ·rename_i c rs k hTf;split at h
   ·rename_i hk;subst hk;obtain⟨fn,hf,hok⟩:=hT.2.1 _ _ _ _ hTf;split at h
    ·rename_i e ρ σ1 h1;obtain⟨k1,k2⟩:=md (hrun m) _ h1;obtain⟨g1,g2⟩:=pF h;exact⟨qJ hf hok hno fun _ _=>k2 _ _ _ (fun _=>g2) (fun g caps hd=>by cases hd),k1.end (k:=0) g1⟩
    ·rename_i e ρ σ1 g caps h1;obtain⟨k1,k2⟩:=md (hrun m) _ h1;obtain⟨⟨σ4,k,g0,g1,g3⟩,g2⟩:=w8 hT (hrun m) h;exact⟨qJ hf hok hno fun _ _=>k2 _ _ _ (fun hd=>by cases hd) (fun g' caps' hd=>by cases hd;exact g2),(k1.trans g0).end (k:=0) ⟨k,g1,g3⟩⟩
    ·cases h
   ·cases h
  ·cases h
 ·cases h
theorem yZ{T:FuncId→Option Ent}{R:FuncId→Option (CdR×Nat)}{orc:FuncId→List V→Option V}(hT:qR C T R orc):∀(n m:Nat),ro C m (evC C T R orc n m):=by
 intro n
 induction n using Nat.strongRecOn with
 | _ n ih=>
 cases n with
 | zero=>exact fun m c ρ σ e ρ' σ' h=>by cases h
 | succ n=>
  intro m c ρ σ e ρ' σ' h;have hrun:=ih n (Nat.lt_succ_self n);have hcf:=qF hT hrun;by_cases hl:∃a,c=.loop a
  ·obtain⟨a,rfl⟩:=hl;refine⟨?_,fun n0 Q hq=>⟨ρ,σ,cW.refl _ _ _,fun k ρ2 σ2=>k≤n+1∧evC C T R orc k m (.loop a) ρ2 σ2=some (e,ρ',σ'),⟨n+1,Nat.le_refl _,h⟩,fun k ρ2 σ2 ⟨hk,h2⟩=>?_⟩⟩
   ·simp only[evC,fG]at h;split at h
    ·rename_i ρ1 σ1 h1;exact(hrun m _ _ _ _ _ _ h1).1.trans (hrun m _ _ _ _ _ _ h).1
    ·exact(hrun m _ _ _ _ _ _ h).1
   ·cases k with
    | zero=>cases h2
    | succ j=>
     have hj:=ih j (by omega) m;simp only[evC,fG]at h2;split at h2
     ·rename_i ρ3 σ3 h3;exact(hj _ _ _ _ _ _ h3).2 n0 _ (eF (fun _=>⟨j,Nat.lt_succ_self j,ρ3,σ3,cW.refl _ _ _,by omega,h2⟩) (fun hn=>absurd rfl hn))
     ·rename_i hx;refine(hj _ _ _ _ _ _ h2).2 n0 _ (eF (fun he=>?_) (fun _=>hq));subst he;exact absurd h2 (hx _ _)
  ·exact uw hcf (hrun m) (fun a e=>hl ⟨a,e⟩) h
theorem HM{T:FuncId→Option Ent}{R:FuncId→Option (CdR×Nat)}{orc:FuncId→List V→Option V}(hT:qR C T R orc){n m:Nat}{f:FuncId}{a:List V}{σ σ':Sg}{o:Out}(h:evF C (evC C T R orc n) T R orc m f a σ=some (o,σ')):Fun C f a σ (fun o' s'=>o'=o∧s'=σ'):=
 (qF hT (yZ hT n) _ _ _ _ _ _ h).1
end
end Go.Proofs.YthekkgfmagliiaaGreatDoor
