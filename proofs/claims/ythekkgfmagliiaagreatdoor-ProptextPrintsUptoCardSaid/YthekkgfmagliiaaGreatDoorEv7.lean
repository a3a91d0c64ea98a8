import Derived.Test.YthekkgfmagliiaaGreatDoorEv4
set_option linter.unusedVariables false
set_option linter.unusedSimpArgs false
set_option linter.unusedSectionVars false
namespace Go.Proofs.YthekkgfmagliiaaGreatDoor
open Go.RowKit
noncomputable def rc(ρ:am):Nat→V:=List.rec (motive:=fun _=>Nat→V) (fun _=>.junk) (fun p _ ih t=>cond (Nat.beq p.1 t) p.2 (ih t)) ρ
noncomputable def jN(ρ:am)(t:Nat)(v:V):am:=List.rec (motive:=fun _=>am) [(t,v)] (fun p r ih=>cond (Nat.ble p.1 t) (cond (Nat.beq p.1 t) ((t,v)::r) (p::ih)) ((t,v)::p::r)) ρ
noncomputable def Af(n:Nat)(l:List Nat):Bool:=List.rec (motive:=fun _=>Bool) false (fun m _ ih=>cond (Nat.beq n m) true ih) l
noncomputable def ql(l:List Nat)(ρ:am):am:=List.rec (motive:=fun _=>am) [] (fun p _ ih=>cond (Af p.1 l) (p::ih) ih) ρ
theorem DC(a b:Nat):Nat.beq a b=decide (a=b):=by
 rw[Bool.eq_iff_iff,decide_eq_true_eq];exact Nat.beq_eq▸Iff.rfl
theorem oq(ρ:am)(t:Nat):rc ρ t=get ρ t:=by
 induction ρ with
 | nil=>rfl
 | cons p r ih=>
  obtain⟨s,u⟩:=p;show cond (Nat.beq s t) u (rc r t)=_;rw[DC,ih];simp only[get];by_cases h:s=t<;>simp[h]
theorem pj(ρ:am)(t:Nat)(v:V):jN ρ t v=put ρ t v:=by
 induction ρ with
 | nil=>rfl
 | cons p r ih=>
  obtain⟨s,u⟩:=p;show cond (Nat.ble s t) (cond (Nat.beq s t) ((t,v)::r) ((s,u)::jN r t v)) ((t,v)::(s,u)::r)=_;rw[DC,ih];simp only[put];by_cases h:t<s
  ·have:Nat.ble s t=false:=by rw[←Bool.not_eq_true,Nat.ble_eq];omega
   rw[if_pos h,this];rfl
  ·have:Nat.ble s t=true:=by rw[Nat.ble_eq];omega
   rw[if_neg h,this];by_cases h2:t=s
   ·subst h2;simp
   ·rw[if_neg h2,decide_eq_false (fun e=>h2 e.symm)];rfl
theorem Bq(n:Nat)(l:List Nat):Af n l=l.contains n:=by
 induction l with
 | nil=>rfl
 | cons m r ih=>
  show cond (Nat.beq n m) true (Af n r)=_;rw[DC,ih,List.contains_cons];by_cases h:n=m<;>simp[h]
theorem pF(l:List Nat)(ρ:am):ql l ρ=aH l ρ:=by
 induction ρ with
 | nil=>rfl
 | cons p r ih=>
  show cond (Af p.1 l) (p::ql l r) (ql l r)=_;rw[Bq,ih];unfold aH;rw[List.filter_cons];cases l.contains p.1<;>rfl
noncomputable def dv(ρ:am)(d:Option Nat)(v:V):am:=match d with
 | none=>ρ
 | some d=>jN ρ d v
theorem gF(ρ:am)(d:Option Nat)(v:V):dv ρ d v=putd ρ d v:=by
 cases d with
 | none=>rfl
 | some d=>exact pj ρ d v
noncomputable def evx(x:X):Cx→am→V:=match x with
 | .t n=>fun _ ρ=>rc ρ n
 | .k v=>fun _ _=>v
 | .g n=>fun C _=>match C.gl n with|some cs=>.row cs 0|none=>.junk
theorem jT(C:Cx)(ρ:am)(x:X):evx x C ρ=ev C ρ x:=by
 cases x with
 | t n=>exact oq ρ n
 | k v=>rfl
 | g n=>rfl
section
variable {C : Cx} {cf : CF}
noncomputable def C3(dst:Option Nat)(ρ:am)(r:Option (Out×Sg)):Res:=match r with
 | some (.ret v,σ')=>some (.normal,dv ρ dst v,σ')
 | some (.panic v,σ')=>some (.panic v,ρ,σ')
 | none=>none
theorem tr(dst:Option Nat)(ρ:am)(r:Option (Out×Sg)):C3 dst ρ r=sE dst ρ r:=by
 unfold C3 sE;split<;>simp only[gF]
noncomputable def AF(C:Cx)(ρ:am)(l:List X):List V:=List.rec (motive:=fun _=>List V) [] (fun x _ ih=>(evx x C ρ).lend::ih) l
theorem lh(C:Cx)(ρ:am)(l:List X):AF C ρ l=l.map fun x=>(ev C ρ x).lend:=by
 induction l with
 | nil=>rfl
 | cons x r ih=>show(evx x C ρ).lend::AF C ρ r=_;rw[ih,jT];rfl
noncomputable def rR(op:OP):Cx→CF→Nat→Option Nat→am→Sg→Res:=match op with
 | .call f args=>fun C cf m dst ρ σ=>C3 dst ρ (cf m f (AF C ρ args) σ)
 | .mv x=>fun C _ _ dst ρ σ=>some (.normal,dv ρ dst (evx x C ρ).copy,σ)
 | .new _ cs=>fun _ _ _ dst ρ σ=>some (.normal,dv ρ dst (.ptr σ.length 0),σ++[cs])
 | .bin op x y=>fun C _ _ dst ρ σ=>match aA op (evx x C ρ) (evx y C ρ)with
  | some v=>some (.normal,dv ρ dst v,σ)
  | none=>none
 | .load k ag x=>fun C _ _ dst ρ σ=>match ff σ k ag (evx x C ρ)with
  | some v=>some (.normal,dv ρ dst v,σ)
  | none=>none
 | .fa off x=>fun C _ _ dst ρ σ=>match faV off (evx x C ρ)with
  | some v=>some (.normal,dv ρ dst v,σ)
  | none=>none
 | .ia k x i=>fun C _ _ dst ρ σ=>match iaV k (evx x C ρ) (evx i C ρ)with
  | some v=>some (.normal,dv ρ dst v,σ)
  | none=>none
 | .pick c a b=>fun C _ _ dst ρ σ=>match gi (evx c C ρ) (evx a C ρ) (evx b C ρ)with
  | some v=>some (.normal,dv ρ dst v,σ)
  | none=>none
 | op=>fun C cf m dst ρ σ=>fS C cf m op dst ρ σ
theorem AZ(op:OP)(m:Nat)(dst:Option Nat)(ρ:am)(σ:Sg):rR op C cf m dst ρ σ=fS C cf m op dst ρ σ:=by
 cases op<;>first|rfl|(simp only[rR,fS,tr,lh,jT,gF,bi,if_true,pv];done)|(simp only[rR,fS,tr,lh,jT,gF,bi,if_true,pv];rfl)
noncomputable def ir(C:Cx)(cf:CF)(m:Nat)(l:List O):am→Sg→Res:=List.rec (motive:=fun _=>am→Sg→Res) (fun ρ σ=>some (.normal,ρ,σ))
 (fun o _ ih ρ σ=>match o.g with
   | none=>(match rR o.op C cf m o.dst ρ σ with
    | some (.normal,ρ',σ')=>ih ρ' σ'
    | x=>x)
   | some (t,want)=>match rc ρ t with
    | .d (.lit (.bool b))=>if b=want then(match rR o.op C cf m o.dst (jN ρ t (tt want)) σ with
     | some (.normal,ρ',σ')=>ih ρ' σ'
     | x=>x)
     else ih (dv (jN ρ t (tt (!want))) o.dst (.tup [])) σ
    | .tup []=>ih (dv ρ o.dst (.tup [])) σ
    | _=>none) l
theorem vH(m:Nat)(l:List O):∀(ρ:am) (σ:Sg),ir C cf m l ρ σ=eH C cf m l ρ σ:=by
 induction l with
 | nil=>exact fun ρ σ=>rfl
 | cons o r ih=>
  have ih2:ir C cf m r=eH C cf m r:=funext fun ρ=>funext fun σ=>ih ρ σ;intro ρ σ;show(match o.g with
  | none=>(match rR o.op C cf m o.dst ρ σ with
   | some (.normal,ρ',σ')=>ir C cf m r ρ' σ'
   | x=>x)
  | some (t,want)=>match rc ρ t with
   | .d (.lit (.bool b))=>if b=want then(match rR o.op C cf m o.dst (jN ρ t (tt want)) σ with
    | some (.normal,ρ',σ')=>ir C cf m r ρ' σ'
    | x=>x)
    else ir C cf m r (dv (jN ρ t (tt (!want))) o.dst (.tup [])) σ
   | .tup []=>ir C cf m r (dv ρ o.dst (.tup [])) σ
   | _=>none)=_
  simp only[ih2,AZ,oq,pj,gF,eH];first|done|rfl
noncomputable def lF(op:OP):Cx→CF→am→Sg→Option V:=match op with
 | .mv x=>fun C _ ρ _=>some (evx x C ρ).copy
 | .bin op x y=>fun C _ ρ _=>aA op (evx x C ρ) (evx y C ρ)
 | .load k ag x=>fun C _ ρ σ=>ff σ k ag (evx x C ρ)
 | .fa off x=>fun C _ ρ _=>faV off (evx x C ρ)
 | .call f args=>fun C cf ρ σ=>vj σ (cf σ.length f (AF C ρ args) σ)
 | op=>fun C cf ρ σ=>el C cf op ρ σ
theorem wQ(op:OP)(ρ:am)(σ:Sg):lF op C cf ρ σ=el C cf op ρ σ:=by
 cases op<;>first|rfl|(simp only[lF,el,lh,jT,bi,if_true,pv];done)|(simp only[lF,el,lh,jT,bi,if_true,pv];rfl)
noncomputable def gf(C:Cx)(cf:CF)(l:List O):am→Sg→Option am:=List.rec (motive:=fun _=>am→Sg→Option am) (fun ρ _=>some ρ)
 (fun o _ ih ρ σ=>match o.g with
   | none=>(match lF o.op C cf ρ σ with
    | some v=>ih (dv ρ o.dst v) σ
    | none=>none)
   | some (t,want)=>match rc ρ t with
    | .d (.lit (.bool b))=>if b=want then(match lF o.op C cf (jN ρ t (tt want)) σ with
     | some v=>ih (dv (jN ρ t (tt want)) o.dst v) σ
     | none=>none)
     else ih (dv (jN ρ t (tt (!want))) o.dst (.tup [])) σ
    | .tup []=>ih (dv ρ o.dst (.tup [])) σ
    | _=>none) l
theorem rL(l:List O):∀(ρ:am) (σ:Sg),gf C cf l ρ σ=di C cf l ρ σ:=by
 induction l with
 | nil=>exact fun ρ σ=>rfl
 | cons o r ih=>
  have ih2:gf C cf r=di C cf r:=funext fun ρ=>funext fun σ=>ih ρ σ;intro ρ σ;show(match o.g with
  | none=>(match lF o.op C cf ρ σ with
   | some v=>gf C cf r (dv ρ o.dst v) σ
   | none=>none)
  | some (t,want)=>match rc ρ t with
   | .d (.lit (.bool b))=>if b=want then(match lF o.op C cf (jN ρ t (tt want)) σ with
    | some v=>gf C cf r (dv (jN ρ t (tt want)) o.dst v) σ
    | none=>none)
    else gf C cf r (dv (jN ρ t (tt (!want))) o.dst (.tup [])) σ
   | .tup []=>gf C cf r (dv ρ o.dst (.tup [])) σ
   | _=>none)=_
  simp only[ih2,wQ,oq,pj,gF,di];first|done|rfl
noncomputable def sK(keep:List Nat)(r:Res):Res:=match r with
 | some (e,ρ,σ)=>some (e,ql keep ρ,σ)
 | none=>none
theorem tW(keep:List Nat)(r:Res):sK keep r=qJ keep r:=by
 unfold sK qJ;split<;>simp only[pF]
noncomputable def nF(c:Cd):Cx→CF→(Cd→am→Sg→Res)→Nat→am→Sg→Res:=match c with
 | .ops l keep=>fun C cf _ m ρ σ=>sK keep (ir C cf m l ρ σ)
 | .draw l keep=>fun C cf _ _ ρ σ=>match gf C cf l ρ σ with
  | some ρ'=>some (.normal,ql keep ρ',σ)
  | none=>none
 | .seq a b=>fun _ _ run _ ρ σ=>match run a ρ σ with
  | some (.normal,ρ',σ')=>run b ρ' σ'
  | r=>r
 | .cond x a b=>fun C _ run _ ρ σ=>match evx x C ρ with
  | .d (.lit (.bool t))=>cond t (run a ρ σ) (run b ρ σ)
  | _=>none
 | .skip=>fun _ _ _ _ ρ σ=>some (.normal,ρ,σ)
 | .ret=>fun _ _ _ _ ρ σ=>some (.ret,ρ,σ)
 | c=>fun C cf run m ρ σ=>ey C cf run m c ρ σ
theorem zu(c:Cd)(run:Cd→am→Sg→Res)(m:Nat)(ρ:am)(σ:Sg):nF c C cf run m ρ σ=ey C cf run m c ρ σ:=by
 cases c<;>first|rfl|skip
 case ops l keep=>simp only[nF,ey,tW,vH]
 case draw l keep=>
  simp only[nF,ey,rL,pF];first|done|rfl
 case cond x a b=>
  simp only[nF,ey,jT];split
  ·rename_i t h;rw[h];cases t<;>rfl
  ·rename_i h;split
   ·rename_i t h2;exact absurd h2 (h t)
   ·rfl
noncomputable def xz(C:Cx)(T:FuncId→Option Ent)(R:FuncId→Option (CdR×Nat))(orc:FuncId→List V→Option V)(n:Nat):Nat→Cd→am→Sg→Res:=
 Nat.rec (motive:=fun _=>Nat→Cd→am→Sg→Res) (fun _ _ _ _=>none) (fun _ ih m c ρ σ=>nF c C (evF C ih T R orc) (ih m) m ρ σ) n
theorem AX(T:FuncId→Option Ent)(R:FuncId→Option (CdR×Nat))(orc:FuncId→List V→Option V)(n:Nat):xz C T R orc n=evC C T R orc n:=by
 induction n with
 | zero=>exact funext fun m=>funext fun c=>funext fun ρ=>funext fun σ=>rfl
 | succ n ih=>
  refine funext fun m=>funext fun c=>funext fun ρ=>funext fun σ=>?_;show nF c C (evF C (xz C T R orc n) T R orc) (xz C T R orc n m) m ρ σ=_;rw[zu,ih];rfl
theorem zR{T:FuncId→Option Ent}{R:FuncId→Option (CdR×Nat)}{orc:FuncId→List V→Option V}(hT:m5 C T R orc){n m:Nat}{f:FuncId}{a:List V}{σ σ':Sg}{o:Out}(h:evF C (xz C T R orc n) T R orc m f a σ=some (o,σ')):Fun C f a σ (fun o' s'=>o'=o∧s'=σ'):=by
 rw[AX]at h;exact CE hT h
end
end Go.Proofs.YthekkgfmagliiaaGreatDoor
namespace Go.Proofs.YthekkgfmagliiaaGreatDoor
open Go.RowKit
theorem uV{C:Cx}{f:FuncId}{args:List V}{x:V}(ha:args.all (V.under 0)=true)(hx:x.isOwn=false)(h:Fun C f args [] (fun o s=>o=.ret x∧s=[]))(σ:List (List V)):Fun C f args σ (fun o s=>o=.ret x∧s=σ):=by
 refine⟨h.1,fun M bm tk pr w vs hG hI ht hl hr=>?_⟩
 have hI0:Inv M [] [] (fun _ _=>none) (fun b=>b<w.heap.size) w:=
  ⟨hI.facts,rfl,fun i b cs hb=>by simp at hb,fun b hb=>by simp at hb,List.nodup_nil,(fun _ _ _ h=>by cases h),(fun _ _ _ _ _ h=>by cases h),fun b hb=>hb⟩
 refine(h.2 M [] (fun _ _=>none) (fun b=>b<w.heap.size) w vs (hG.prot hI.prlt) hI0 (fun _=>rfl) hl (fun i g g'=>?_)).mono fun e w' ⟨M',bm',tk',σ',o,⟨ho,hs⟩,k1,k2,k3⟩=>?_
 ·have:=(hr i g g').drop (k:=0) (List.all_eq_true.1 ha _ (List.getElem_mem g));rwa[List.take_zero]at this
 ·subst ho;subst hs;have hbm:bm'=[]:=List.eq_nil_of_length_eq_zero k1.len;subst hbm;obtain⟨h1,h2⟩:=hI.grow ⟨k2.os,k2.tape,k2.output,k2.size,fun b hb=>k2.keep b hb⟩ k2.le k1.facts (fun b hb o=>k2.facts b hb o);refine⟨M',bm,tk,σ,.ret x,⟨rfl,rfl⟩,h1,h2,fun u e1=>?_,fun u e1=>by cases e1⟩;cases e1;obtain⟨y,e2,e3,e4⟩:=k3.1 _ rfl;exact⟨y,e2,e3.mono (av.le.refl _) (fun i b h=>by simp at h),fun T k rows e=>by rw[e]at hx;cases hx⟩
end Go.Proofs.YthekkgfmagliiaaGreatDoor
