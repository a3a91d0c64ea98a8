import Derived.Test.YthekkgfmagliiaaGreatDoorEv4
set_option linter.unusedVariables false
set_option linter.unusedSimpArgs false
set_option linter.unusedSectionVars false
namespace Go.Proofs.YthekkgfmagliiaaGreatDoor
open Go.RowKit
noncomputable def vG(ρ:ak):Nat→V:=List.rec (motive:=fun _=>Nat→V) (fun _=>.junk) (fun p _ ih t=>cond (Nat.beq p.1 t) p.2 (ih t)) ρ
noncomputable def mt(ρ:ak)(t:Nat)(v:V):ak:=List.rec (motive:=fun _=>ak) [(t,v)] (fun p r ih=>cond (Nat.ble p.1 t) (cond (Nat.beq p.1 t) ((t,v)::r) (p::ih)) ((t,v)::p::r)) ρ
noncomputable def Fo(n:Nat)(l:List Nat):Bool:=List.rec (motive:=fun _=>Bool) false (fun m _ ih=>cond (Nat.beq n m) true ih) l
noncomputable def uf(l:List Nat)(ρ:ak):ak:=List.rec (motive:=fun _=>ak) [] (fun p _ ih=>cond (Fo p.1 l) (p::ih) ih) ρ
theorem I6(a b:Nat):Nat.beq a b=decide (a=b):=by
 rw[Bool.eq_iff_iff,decide_eq_true_eq];exact Nat.beq_eq▸Iff.rfl
theorem sI(ρ:ak)(t:Nat):vG ρ t=get ρ t:=by
 induction ρ with
 | nil=>rfl
 | cons p r ih=>
  obtain⟨s,u⟩:=p;show cond (Nat.beq s t) u (vG r t)=_;rw[I6,ih];simp only[get];by_cases h:s=t<;>simp[h]
theorem rM(ρ:ak)(t:Nat)(v:V):mt ρ t v=put ρ t v:=by
 induction ρ with
 | nil=>rfl
 | cons p r ih=>
  obtain⟨s,u⟩:=p;show cond (Nat.ble s t) (cond (Nat.beq s t) ((t,v)::r) ((s,u)::mt r t v)) ((t,v)::(s,u)::r)=_;rw[I6,ih];simp only[put];by_cases h:t<s
  ·have:Nat.ble s t=false:=by rw[←Bool.not_eq_true,Nat.ble_eq];omega
   rw[if_pos h,this];rfl
  ·have:Nat.ble s t=true:=by rw[Nat.ble_eq];omega
   rw[if_neg h,this];by_cases h2:t=s
   ·subst h2;simp
   ·rw[if_neg h2,decide_eq_false (fun e=>h2 e.symm)];rfl
theorem FE(n:Nat)(l:List Nat):Fo n l=l.contains n:=by
 induction l with
 | nil=>rfl
 | cons m r ih=>
  show cond (Nat.beq n m) true (Fo n r)=_;rw[I6,ih,List.contains_cons];by_cases h:n=m<;>simp[h]
theorem uo(l:List Nat)(ρ:ak):uf l ρ=aC l ρ:=by
 induction ρ with
 | nil=>rfl
 | cons p r ih=>
  show cond (Fo p.1 l) (p::uf l r) (uf l r)=_;rw[FE,ih];unfold aC;rw[List.filter_cons];cases l.contains p.1<;>rfl
noncomputable def ep(ρ:ak)(d:Option Nat)(v:V):ak:=match d with
 | none=>ρ
 | some d=>mt ρ d v
theorem jk(ρ:ak)(d:Option Nat)(v:V):ep ρ d v=putd ρ d v:=by
 cases d with
 | none=>rfl
 | some d=>exact rM ρ d v
noncomputable def evx(x:X):Cx→ak→V:=match x with
 | .t n=>fun _ ρ=>vG ρ n
 | .k v=>fun _ _=>v
 | .g n=>fun C _=>match C.gl n with|some cs=>.row cs 0|none=>.junk
theorem mg(C:Cx)(ρ:ak)(x:X):evx x C ρ=ev C ρ x:=by
 cases x with
 | t n=>exact sI ρ n
 | k v=>rfl
 | g n=>rfl
section
variable {C : Cx} {cf : CF}
noncomputable def Iz(dst:Option Nat)(ρ:ak)(r:Option (Out×Sg)):Res:=match r with
 | some (.ret v,σ')=>some (.normal,ep ρ dst v,σ')
 | some (.panic v,σ')=>some (.panic v,ρ,σ')
 | none=>none
theorem xC(dst:Option Nat)(ρ:ak)(r:Option (Out×Sg)):Iz dst ρ r=wv dst ρ r:=by
 unfold Iz wv;split<;>simp only[jk]
noncomputable def Ev(C:Cx)(ρ:ak)(l:List X):List V:=List.rec (motive:=fun _=>List V) [] (fun x _ ih=>(evx x C ρ).lend::ih) l
theorem nC(C:Cx)(ρ:ak)(l:List X):Ev C ρ l=l.map fun x=>(ev C ρ x).lend:=by
 induction l with
 | nil=>rfl
 | cons x r ih=>show(evx x C ρ).lend::Ev C ρ r=_;rw[ih,mg];rfl
noncomputable def wV(op:OP):Cx→CF→Nat→Option Nat→ak→Sg→Res:=match op with
 | .call f args=>fun C cf m dst ρ σ=>Iz dst ρ (cf m f (Ev C ρ args) σ)
 | .mv x=>fun C _ _ dst ρ σ=>some (.normal,ep ρ dst (evx x C ρ).copy,σ)
 | .new _ cs=>fun _ _ _ dst ρ σ=>some (.normal,ep ρ dst (.ptr σ.length 0),σ++[cs])
 | .bin op x y=>fun C _ _ dst ρ σ=>match aN op (evx x C ρ) (evx y C ρ)with
  | some v=>some (.normal,ep ρ dst v,σ)
  | none=>none
 | .load k ag x=>fun C _ _ dst ρ σ=>match gq σ k ag (evx x C ρ)with
  | some v=>some (.normal,ep ρ dst v,σ)
  | none=>none
 | .fa off x=>fun C _ _ dst ρ σ=>match faV off (evx x C ρ)with
  | some v=>some (.normal,ep ρ dst v,σ)
  | none=>none
 | .ia k x i=>fun C _ _ dst ρ σ=>match iaV k (evx x C ρ) (evx i C ρ)with
  | some v=>some (.normal,ep ρ dst v,σ)
  | none=>none
 | .pick c a b=>fun C _ _ dst ρ σ=>match i6 (evx c C ρ) (evx a C ρ) (evx b C ρ)with
  | some v=>some (.normal,ep ρ dst v,σ)
  | none=>none
 | op=>fun C cf m dst ρ σ=>ij C cf m op dst ρ σ
theorem ES(op:OP)(m:Nat)(dst:Option Nat)(ρ:ak)(σ:Sg):wV op C cf m dst ρ σ=ij C cf m op dst ρ σ:=by
 cases op<;>first|rfl|(simp only[wV,ij,xC,nC,mg,jk,bz,if_true,pv];done)|(simp only[wV,ij,xC,nC,mg,jk,bz,if_true,pv];rfl)
noncomputable def kX(C:Cx)(cf:CF)(m:Nat)(l:List O):ak→Sg→Res:=List.rec (motive:=fun _=>ak→Sg→Res) (fun ρ σ=>some (.normal,ρ,σ))
 (fun o _ ih ρ σ=>match o.g with
   | none=>(match wV o.op C cf m o.dst ρ σ with
    | some (.normal,ρ',σ')=>ih ρ' σ'
    | x=>x)
   | some (t,want)=>match vG ρ t with
    | .d (.lit (.bool b))=>if b=want then(match wV o.op C cf m o.dst (mt ρ t (tt want)) σ with
     | some (.normal,ρ',σ')=>ih ρ' σ'
     | x=>x)
     else ih (ep (mt ρ t (tt (!want))) o.dst (.tup [])) σ
    | .tup []=>ih (ep ρ o.dst (.tup [])) σ
    | _=>none) l
theorem zu(m:Nat)(l:List O):∀(ρ:ak) (σ:Sg),kX C cf m l ρ σ=fX C cf m l ρ σ:=by
 induction l with
 | nil=>exact fun ρ σ=>rfl
 | cons o r ih=>
  have ih2:kX C cf m r=fX C cf m r:=funext fun ρ=>funext fun σ=>ih ρ σ;intro ρ σ;show(match o.g with
  | none=>(match wV o.op C cf m o.dst ρ σ with
   | some (.normal,ρ',σ')=>kX C cf m r ρ' σ'
   | x=>x)
  | some (t,want)=>match vG ρ t with
   | .d (.lit (.bool b))=>if b=want then(match wV o.op C cf m o.dst (mt ρ t (tt want)) σ with
    | some (.normal,ρ',σ')=>kX C cf m r ρ' σ'
    | x=>x)
    else kX C cf m r (ep (mt ρ t (tt (!want))) o.dst (.tup [])) σ
   | .tup []=>kX C cf m r (ep ρ o.dst (.tup [])) σ
   | _=>none)=_
  simp only[ih2,ES,sI,rM,jk,fX];first|done|rfl
noncomputable def oc(op:OP):Cx→CF→ak→Sg→Option V:=match op with
 | .mv x=>fun C _ ρ _=>some (evx x C ρ).copy
 | .bin op x y=>fun C _ ρ _=>aN op (evx x C ρ) (evx y C ρ)
 | .load k ag x=>fun C _ ρ σ=>gq σ k ag (evx x C ρ)
 | .fa off x=>fun C _ ρ _=>faV off (evx x C ρ)
 | .call f args=>fun C cf ρ σ=>y8 σ (cf σ.length f (Ev C ρ args) σ)
 | op=>fun C cf ρ σ=>fR C cf op ρ σ
theorem DW(op:OP)(ρ:ak)(σ:Sg):oc op C cf ρ σ=fR C cf op ρ σ:=by
 cases op<;>first|rfl|(simp only[oc,fR,nC,mg,bz,if_true,pv];done)|(simp only[oc,fR,nC,mg,bz,if_true,pv];rfl)
noncomputable def iU(C:Cx)(cf:CF)(l:List O):ak→Sg→Option ak:=List.rec (motive:=fun _=>ak→Sg→Option ak) (fun ρ _=>some ρ)
 (fun o _ ih ρ σ=>match o.g with
   | none=>(match oc o.op C cf ρ σ with
    | some v=>ih (ep ρ o.dst v) σ
    | none=>none)
   | some (t,want)=>match vG ρ t with
    | .d (.lit (.bool b))=>if b=want then(match oc o.op C cf (mt ρ t (tt want)) σ with
     | some v=>ih (ep (mt ρ t (tt want)) o.dst v) σ
     | none=>none)
     else ih (ep (mt ρ t (tt (!want))) o.dst (.tup [])) σ
    | .tup []=>ih (ep ρ o.dst (.tup [])) σ
    | _=>none) l
theorem vM(l:List O):∀(ρ:ak) (σ:Sg),iU C cf l ρ σ=dQ C cf l ρ σ:=by
 induction l with
 | nil=>exact fun ρ σ=>rfl
 | cons o r ih=>
  have ih2:iU C cf r=dQ C cf r:=funext fun ρ=>funext fun σ=>ih ρ σ;intro ρ σ;show(match o.g with
  | none=>(match oc o.op C cf ρ σ with
   | some v=>iU C cf r (ep ρ o.dst v) σ
   | none=>none)
  | some (t,want)=>match vG ρ t with
   | .d (.lit (.bool b))=>if b=want then(match oc o.op C cf (mt ρ t (tt want)) σ with
    | some v=>iU C cf r (ep (mt ρ t (tt want)) o.dst v) σ
    | none=>none)
    else iU C cf r (ep (mt ρ t (tt (!want))) o.dst (.tup [])) σ
   | .tup []=>iU C cf r (ep ρ o.dst (.tup [])) σ
   | _=>none)=_
  simp only[ih2,DW,sI,rM,jk,dQ];first|done|rfl
noncomputable def wY(keep:List Nat)(r:Res):Res:=match r with
 | some (e,ρ,σ)=>some (e,uf keep ρ,σ)
 | none=>none
theorem A0(keep:List Nat)(r:Res):wY keep r=tF keep r:=by
 unfold wY tF;split<;>simp only[uo]
noncomputable def qA(c:Cd):Cx→CF→(Cd→ak→Sg→Res)→Nat→ak→Sg→Res:=match c with
 | .ops l keep=>fun C cf _ m ρ σ=>wY keep (kX C cf m l ρ σ)
 | .draw l keep=>fun C cf _ _ ρ σ=>match iU C cf l ρ σ with
  | some ρ'=>some (.normal,uf keep ρ',σ)
  | none=>none
 | .seq a b=>fun _ _ run _ ρ σ=>match run a ρ σ with
  | some (.normal,ρ',σ')=>run b ρ' σ'
  | r=>r
 | .cond x a b=>fun C _ run _ ρ σ=>match evx x C ρ with
  | .d (.lit (.bool t))=>cond t (run a ρ σ) (run b ρ σ)
  | _=>none
 | .skip=>fun _ _ _ _ ρ σ=>some (.normal,ρ,σ)
 | .ret=>fun _ _ _ _ ρ σ=>some (.ret,ρ,σ)
 | c=>fun C cf run m ρ σ=>fG C cf run m c ρ σ
theorem CA(c:Cd)(run:Cd→ak→Sg→Res)(m:Nat)(ρ:ak)(σ:Sg):qA c C cf run m ρ σ=fG C cf run m c ρ σ:=by
 cases c<;>first|rfl|skip
 case ops l keep=>simp only[qA,fG,A0,zu]
 case draw l keep=>
  simp only[qA,fG,vM,uo];first|done|rfl
 case cond x a b=>
  simp only[qA,fG,mg];split
  ·rename_i t h;rw[h];cases t<;>rfl
  ·rename_i h;split
   ·rename_i t h2;exact absurd h2 (h t)
   ·rfl
noncomputable def Cw(C:Cx)(T:FuncId→Option Ent)(R:FuncId→Option (CdR×Nat))(orc:FuncId→List V→Option V)(n:Nat):Nat→Cd→ak→Sg→Res:=
 Nat.rec (motive:=fun _=>Nat→Cd→ak→Sg→Res) (fun _ _ _ _=>none) (fun _ ih m c ρ σ=>qA c C (evF C ih T R orc) (ih m) m ρ σ) n
theorem Gi(T:FuncId→Option Ent)(R:FuncId→Option (CdR×Nat))(orc:FuncId→List V→Option V)(n:Nat):Cw C T R orc n=evC C T R orc n:=by
 induction n with
 | zero=>exact funext fun m=>funext fun c=>funext fun ρ=>funext fun σ=>rfl
 | succ n ih=>
  refine funext fun m=>funext fun c=>funext fun ρ=>funext fun σ=>?_;show qA c C (evF C (Cw C T R orc n) T R orc) (Cw C T R orc n m) m ρ σ=_;rw[CA,ih];rfl
theorem E9{T:FuncId→Option Ent}{R:FuncId→Option (CdR×Nat)}{orc:FuncId→List V→Option V}(hT:qR C T R orc){n m:Nat}{f:FuncId}{a:List V}{σ σ':Sg}{o:Out}(h:evF C (Cw C T R orc n) T R orc m f a σ=some (o,σ')):Fun C f a σ (fun o' s'=>o'=o∧s'=σ'):=by
 rw[Gi]at h;exact HM hT h
end
end Go.Proofs.YthekkgfmagliiaaGreatDoor
namespace Go.Proofs.YthekkgfmagliiaaGreatDoor
open Go.RowKit
theorem yR{C:Cx}{f:FuncId}{args:List V}{x:V}(ha:args.all (V.under 0)=true)(hx:x.isOwn=false)(h:Fun C f args [] (fun o s=>o=.ret x∧s=[]))(σ:List (List V)):Fun C f args σ (fun o s=>o=.ret x∧s=σ):=by
 refine⟨h.1,fun M bm tk pr w vs hG hI ht hl hr=>?_⟩
 have hI0:Inv M [] [] (fun _ _=>none) (fun b=>b<w.heap.size) w:=
  ⟨hI.facts,rfl,fun i b cs hb=>by simp at hb,fun b hb=>by simp at hb,List.nodup_nil,(fun _ _ _ h=>by cases h),(fun _ _ _ _ _ h=>by cases h),fun b hb=>hb⟩
 refine(h.2 M [] (fun _ _=>none) (fun b=>b<w.heap.size) w vs (hG.prot hI.prlt) hI0 (fun _=>rfl) hl (fun i g g'=>?_)).mono fun e w' ⟨M',bm',tk',σ',o,⟨ho,hs⟩,k1,k2,k3⟩=>?_
 ·have:=(hr i g g').drop (k:=0) (List.all_eq_true.1 ha _ (List.getElem_mem g));rwa[List.take_zero]at this
 ·subst ho;subst hs;have hbm:bm'=[]:=List.eq_nil_of_length_eq_zero k1.len;subst hbm;obtain⟨h1,h2⟩:=hI.grow ⟨k2.os,k2.tape,k2.output,k2.size,fun b hb=>k2.keep b hb⟩ k2.le k1.facts (fun b hb o=>k2.facts b hb o);refine⟨M',bm,tk,σ,.ret x,⟨rfl,rfl⟩,h1,h2,fun u e1=>?_,fun u e1=>by cases e1⟩;cases e1;obtain⟨y,e2,e3,e4⟩:=k3.1 _ rfl;exact⟨y,e2,e3.mono (av.le.refl _) (fun i b h=>by simp at h),fun T k rows e=>by rw[e]at hx;cases hx⟩
end Go.Proofs.YthekkgfmagliiaaGreatDoor
