import Derived.Test.YthekkgfmagliiaaGreatDoorPm11
set_option linter.unusedVariables false
set_option linter.unusedSimpArgs false
set_option linter.unusedSectionVars false
set_option maxHeartbeats 1000000
open Classical renaming byContradiction->RS
open List renaming getElem?_eq_getElem->RU,drop_eq_nil_of_le->RW,getElem?_eq_none->RX,drop_eq_getElem_cons->RY,length_set->RZ,take_length->R0,getElem?_set_self->R5,take_of_length_le->R6,length_cons->R7,drop_suffix->R8,take_left->R9
open Nat renaming le_refl->Sa,sub_self->Sb
namespace Go.Proofs.YthekkgfmagliiaaGreatDoor
open Go.RowKit
open Nat renaming reduceLeDiff -> jA, reduceBEq -> jB, reduceLT -> jC, reduceEqDiff -> jD, reduceAdd -> jE, reduceSub -> jF, reduceMul -> jG
open V renaming copy -> jV, lend -> jW, lend1 -> jX, cells -> jY, boxable -> jZ
def mkB(ts:List Tok)(i:Nat)(ms:List ByteArray):Bool:=match ts[i]? with
 | some t=>decide (t.kind=4)&&ms.any fun m=>decide (t.text=m)
 | none=>false
def xw(s:ByteArray)(d:Int):Int:=
 if(decide (s=aa 40)||(decide (s=aa 91)||decide (s=aa 123)))=true then IntKind.i64.wrap (d+1)
 else if(decide (s=aa 41)||(decide (s=aa 93)||decide (s=aa 125)))=true then IntKind.i64.wrap (d-1)else d
def clF(ts:List Tok):Nat->Nat->Int->Nat
 | 0,i,_=>i
 | n+1,i,d=>match ts[i]? with
  | none=>i
  | some t=>if t.kind=4 then(if xw t.text d=0 then i+1 else clF ts n (i+1) (xw t.text d))else clF ts n (i+1) d
def fF(ts:List Tok)(i:Nat):Nat:=clF ts (ts.length-i) i 0
def ke(ts:List Tok):Nat->Nat->Nat
 | 0,i=>i
 | n+1,i=>if mkB ts i [aa 33,aa 126,aa 45]=true then ke ts n (i+1)else i
def sA(ts:List Tok)(i:Nat):Nat:=match ts[i]? with
 | none=>i+1
 | some t=>if mkB ts i [aa 40]=true then fF ts i else if t.kind=1 then
  (if(mkB ts (i+1) [aa 91]||(mkB ts (i+1) [aa 40]&&(decide (t.text=kg)||decide (t.text=fV))))=true then fF ts (i+1)
   else if mkB ts (i+1) [aa 64]=true then i+1+2 else i+1)else i+1
def bU(ts:List Tok)(i:Nat):Nat:=sA ts (ke ts (ts.length-i) i)
def vq(ts:List Tok)(i:Nat):Bool:=match ts[i]? with
 | some t=>decide (t.kind=2)&&decide (t.text=bX)
 | none=>false
def mQ(ts:List Tok):Nat->Nat->Nat
 | 0,i=>i
 | n+1,i=>if vq ts i=true then mQ ts n (fF ts (i+1))else i
def iC:List ByteArray:=[aE 61 62,aE 124 124,aE 38 38,aa 124,aa 94,aa 38,aE 61 61,aE 33 61,aa 60,aE 60 61,aa 62,aE 62 61,aE 60 60,aE 62 62,aa 43,aa 45,aa 42]
def mu(ts:List Tok):Nat->Nat->Int->Nat
 | 0,i,_=>i
 | n+1,i,c=>let k:=mQ ts (ts.length+1-bU ts i) (bU ts i)
  if mkB ts k [aa 63]=true then mu ts n (k+1) (IntKind.i64.wrap (c+1))
  else if(mkB ts k [aa 58]&&decide (0<c))=true then mu ts n (k+1) (IntKind.i64.wrap (c-1))
  else if mkB ts k iC=true then mu ts n (k+1) c else k
def kU(ts:List Tok)(i:Nat):Nat:=mu ts (ts.length+1-i) i 0
section
variable (ts : List Tok)
theorem eH{i:Nat}{ms:List ByteArray}(h:mkB ts i ms=true):i<ts.length:=by
 unfold mkB at h;apply RS;intro hn;rw[RX (by omega)]at h;cases h
theorem A1{i:Nat}(h:vq ts i=true):i<ts.length:=by
 unfold vq at h;apply RS;intro hn;rw[RX (by omega)]at h;cases h
theorem FS:∀(n i:Nat) (d:Int),i≤clF ts n i d/\clF ts n i d≤max i ts.length
 | 0,i,d=>⟨Sa _,by simp only[clF];omega⟩
 | n+1,i,d=>by
  unfold clF;by_cases h:i<ts.length
  .rw[RU h];simp only;have h1:=fun d=>FS n (i+1) d;split
   .split
    .omega
    .have:=h1 (xw ts[i].text d);omega
   .have:=h1 d;omega
  .rw[RX (by omega)];simp only;omega
theorem md(i:Nat):i≤fF ts i/\fF ts i≤max i ts.length:=FS ts _ i 0
theorem wu:∀(n i:Nat),i≤ke ts n i/\ke ts n i≤max i ts.length
 | 0,i=>⟨Sa _,by simp only[ke];omega⟩
 | n+1,i=>by
  unfold ke;split
  .rename_i h;have:=eH ts h;have:=wu n (i+1);omega
  .omega
theorem Gd(i:Nat)(hi:i≤ts.length):i≤sA ts i/\sA ts i≤ts.length+1:=by
 unfold sA;by_cases h:i<ts.length
 .rw[RU h];simp only;have h1:=md ts i;have h2:=md ts (i+1);split
  .omega
  .split
   .split
    .omega
    .split
     .rename_i h3;have:=eH ts h3;omega
     .omega
   .omega
 .rw[RX (by omega)];simp only;omega
theorem sC{i:Nat}(hi:i≤ts.length):i≤bU ts i/\bU ts i≤ts.length+1:=by
 have h1:=wu ts (ts.length-i) i;have h2:=Gd ts (ke ts (ts.length-i) i) (by omega);unfold bU;omega
theorem BA:∀(n i:Nat),i≤ts.length+1->i≤mQ ts n i/\mQ ts n i≤ts.length+1
 | 0,i,h=>⟨Sa _,h⟩
 | n+1,i,h=>by
  unfold mQ;split
  .rename_i hb;have:=A1 ts hb;have h1:=md ts (i+1);have:=BA n (fF ts (i+1)) (by omega);omega
  .omega
theorem EV{i:Nat}(hi:i≤ts.length):i≤mQ ts (ts.length+1-bU ts i) (bU ts i)/\mQ ts (ts.length+1-bU ts i) (bU ts i)≤ts.length+1:=by
 have h1:=sC ts hi;have h2:=BA ts (ts.length+1-bU ts i) (bU ts i) h1.2;omega
theorem qa:∀(n i:Nat) (c:Int),i≤ts.length->i≤mu ts n i c/\mu ts n i c≤ts.length+1
 | 0,i,c,h=>⟨Sa _,by simp only[mu];omega⟩
 | n+1,i,c,h=>by
  unfold mu;have h1:=EV ts h;generalize mQ ts (ts.length+1-bU ts i) (bU ts i)=k at *;simp only;split
  .rename_i hm;have:=eH ts hm;have:=qa n (k+1) (IntKind.i64.wrap (c+1)) (by omega);omega
  .split
   .rename_i hm;rw[Bool.and_eq_true]at hm;have:=eH ts hm.1;have:=qa n (k+1) (IntKind.i64.wrap (c-1)) (by omega);omega
   .split
    .rename_i hm;have:=eH ts hm;have:=qa n (k+1) c (by omega);omega
    .omega
theorem Gg{i:Nat}(hi:i≤ts.length):i≤kU ts i/\kU ts i≤ts.length+1:=qa ts _ i 0 hi
end
inductive QF(α:Type) where
 | out
 | bad (l e:Int)
 | ok (v:α) (a:Nat) (L:Int)
def QF.bind{α β:Type}(x:QF α)(f:α->Nat->Int->QF β):QF β:=match x with
 | .out=>.out
 | .bad l e=>.bad l e
 | .ok v a L=>f v a L
def bV(ts:List Tok)(a:Nat):Int×Int:=match ts[a]? with|some t=>(t.line,5)|none=>(dm ts,6)
section
variable {α : Type} (ts : List Tok)
def cr(m:ByteArray)(a:Nat)(f:Nat->QF α):QF α:=if aG m ts a=true then f (a+1)else .bad (bV ts a).1 (bV ts a).2
def kY(a:Nat)(f:Int->Nat->QF α):QF α:=match ch (ts.drop a)with
 | some (n,_)=>f n (a+1)
 | none=>.bad (bV ts a).1 (bV ts a).2
def lh(a:Nat)(f:ByteArray->Nat->QF α):QF α:=match bA (ts.drop a)with
 | some (n,_)=>f n (a+1)
 | none=>.bad (bV ts a).1 (bV ts a).2
def cE:Ex:=.mk 1 0 ⟨#[]⟩ []
def ik(a:Nat)(L:Int)(f:Ex->Nat->Int->QF α):QF α:=match par .W (ts.drop a)with
 | .out=>.out
 | .bad c r=>if c=6 then .bad (dm ts) 6 else .bad (bV ts (ts.length-r.length)).1 c
 | .ok e r=>if aH e=0 then f e (ts.length-r.length) L else f cE (kU ts a) (if L=0 then aH e else L)
def fD(rec:QK->Nat->Int->QF Ts):QK->Nat->Int->QF Ts
 | .S,a,L=>(rec .A a L).bind fun s a1 L1=>rec (.Sp [s]) a1 L1
 | .Sp l,a,L=>if aG orW ts a=true then(rec .A (a+1) L).bind fun s a2 L2=>rec (.Sp (l++[s])) a2 L2 else .ok (mr 4 l) a L
 | .A,a,L=>(rec .D a L).bind fun s a1 L1=>rec (.Ap [s]) a1 L1
 | .Ap l,a,L=>if aG kr ts a=true then(rec .D (a+1) L).bind fun s a2 L2=>rec (.Ap (l++[s])) a2 L2 else .ok (mr 5 l) a L
 | .D,a,L=>(rec .H a L).bind fun s a1 L1=>rec (.Dp s) a1 L1
 | .Dp s,a,L=>if aG (aE 35 35) ts a=true then
  (if aG (aa 91) ts (a+1)=true then kY ts (a+1+1) fun lo a3=>cr ts (aa 58) a3 fun a4=>kY ts a4 fun hi a5=>cr ts (aa 93) a5 fun a6=>(rec .H a6 L).bind fun t a7 L7=>rec (.Dp (nT 2 lo hi [s,t])) a7 L7
   else kY ts (a+1) fun lo a2=>(rec .H a2 L).bind fun t a3 L3=>rec (.Dp (nT 2 lo lo [s,t])) a3 L3)
  else .ok s a L
 | .H,a,L=>if aG iB ts a=true then cr ts (aa 123) (a+1) fun a2=>ik ts a2 L fun e a3 L3=>cr ts (aa 125) a3 fun a4=>cr ts inW a4 fun a5=>(rec .H a5 L3).bind fun s a6 L6=>.ok (.mk 7 0 0 e ⟨#[]⟩ [s]) a6 L6
  else rec .R a L
 | .R,a,L=>(rec .U a L).bind fun s a1 L1=>rec (.Rp s) a1 L1
 | .Rp s,a,L=>if aG (aa 91) ts a=true then cr ts (aa 42) (a+1) fun a2=>kY ts a2 fun lo a3=>
  if aG (aa 58) ts a3=true then kY ts (a3+1) fun hi a5=>cr ts (aa 93) a5 fun a6=>rec (.Rp (nT 3 lo hi [s])) a6 L
  else cr ts (aa 93) a3 fun a4=>rec (.Rp (nT 3 lo lo [s])) a4 L
  else .ok s a L
 | .U,a,L=>if aG (aa 123) ts a=true then ik ts (a+1) L fun e a2 L2=>cr ts (aa 125) a2 fun a3=>.ok (.mk 1 0 0 e ⟨#[]⟩ []) a3 L2
  else cr ts (aa 40) a fun a1=>(rec .S a1 L).bind fun s a2 L2=>
   if aG (aa 44) ts a2=true then lh ts (a2+1) fun n a4=>cr ts (aa 61) a4 fun a5=>ik ts a5 L2 fun e a6 L6=>cr ts (aa 41) a6 fun a7=>.ok (.mk 6 0 0 e n [s]) a7 L6
   else cr ts (aa 41) a2 fun a3=>.ok s a3 L2
def ff:Nat->QK->Nat->Int->QF Ts
 | 0,_,_,_=>.out
 | n+1,k,a,L=>fD ts (ff n) k a L
end
structure GF{α:Type}(ts:List Tok)(b:Nat)(x:QF α):Prop where
 ne:x≠.out
 ok:∀v a L,x=.ok v a L->b≤a/\a≤ts.length
 bad:∀l e,x=.bad l e->e≠0
section
variable {α β : Type} {ts : List Tok} {a b c : Nat} {L : Int}
theorem oQ{l e:Int}(he:e≠0):GF ts b (.bad l e:QF α):=⟨(by intro h;cases h),(by rintro _ _ _ ⟨⟩),(by rintro _ _ ⟨⟩;exact he)⟩
theorem pm(ts:List Tok)(a:Nat):(bV ts a).2≠0:=by unfold bV;split<;>(simp only;decide)
theorem kP{v:α}(h1:b≤a)(h2:a≤ts.length):GF ts b (.ok v a L):=⟨(by intro h;cases h),(by rintro _ _ _ ⟨⟩;exact⟨h1,h2⟩),(by rintro _ _ ⟨⟩)⟩
theorem GF.bind{x:QF β}{f:β->Nat->Int->QF α}(h:GF ts b x)(hf:∀v a L,b≤a->a≤ts.length->GF ts c (f v a L)):GF ts c (x.bind f):=by
 cases x with
 | out=>exact absurd rfl h.ne
 | bad l e=>exact oQ (h.bad l e rfl)
 | ok v a L=>exact hf v a L (h.ok v a L rfl).1 (h.ok v a L rfl).2
theorem GF.weak{x:QF α}(h:GF ts b x)(hc:c≤b):GF ts c x:=⟨h.ne,fun v a L e=>by have:=h.ok v a L e;omega,h.bad⟩
theorem cN{m:ByteArray}{f:Nat->QF α}(hf:a<ts.length->GF ts b (f (a+1))):GF ts b (cr ts m a f):=by
 unfold cr;split
 .rename_i h;exact hf (eZ h)
 .exact oQ (pm _ _)
theorem qU{f:Int->Nat->QF α}(hf:∀n,a<ts.length->GF ts b (f n (a+1))):GF ts b (kY ts a f):=by
 unfold kY;cases h:ch (ts.drop a)with
 | some p=>
  refine hf _ ?_;apply RS;intro hn;rw[RW (by omega)]at h;cases h
 | none=>exact oQ (pm _ _)
theorem AZ{f:ByteArray->Nat->QF α}(hf:∀n,a<ts.length->GF ts b (f n (a+1))):GF ts b (lh ts a f):=by
 unfold lh;cases h:bA (ts.drop a)with
 | some p=>
  refine hf _ ?_;apply RS;intro hn;rw[RW (by omega)]at h;cases h
 | none=>exact oQ (pm _ _)
theorem uD{f:Ex->Nat->Int->QF α}(ha:a≤ts.length)(hf:∀e a2 L2,a≤a2->GF ts b (f e a2 L2)):GF ts b (ik ts a L f):=by
 unfold ik;cases h:par .W (ts.drop a)with
 | out=>exact absurd h (eV _ _)
 | bad c r=>
  have:=(qj h).1;simp only;split<;>first|exact oQ (by decide)|exact oQ this
 | ok e r=>
  have:=(ou h).1;rw[List.length_drop]at this;simp only;split
  .exact hf _ _ _ (by omega)
  .exact hf _ _ _ (Gg ts ha).1
def aC(ts:List Tok)(k:QK)(a:Nat):Nat:=40*(ts.length-a)+k.cost
theorem J2{n:Nat}{rec:QK->Nat->Int->QF Ts}(h:∀k a L,a≤ts.length->aC ts k a≤n->GF ts (a+k.eats) (rec k a L))(k:QK)(a:Nat)(L:Int)(ha:a≤ts.length)(hn:aC ts k a≤n+1):GF ts (a+k.eats) (fD ts rec k a L):=by
 cases k with
 | S=>
  refine(h .A a L ha (by simp only[aC,QK.cost]at *;omega)).bind fun s a1 L1 h1 h2=>?_;simp only[QK.eats]at h1;exact(h (.Sp [s]) a1 L1 h2 (by simp only[aC,QK.cost]at *;omega)).weak (by simp only[QK.eats];omega)
 | A=>
  refine(h .D a L ha (by simp only[aC,QK.cost]at *;omega)).bind fun s a1 L1 h1 h2=>?_;simp only[QK.eats]at h1;exact(h (.Ap [s]) a1 L1 h2 (by simp only[aC,QK.cost]at *;omega)).weak (by simp only[QK.eats];omega)
 | D=>
  refine(h .H a L ha (by simp only[aC,QK.cost]at *;omega)).bind fun s a1 L1 h1 h2=>?_;simp only[QK.eats]at h1;exact(h (.Dp s) a1 L1 h2 (by simp only[aC,QK.cost]at *;omega)).weak (by simp only[QK.eats];omega)
 | R=>
  refine(h .U a L ha (by simp only[aC,QK.cost]at *;omega)).bind fun s a1 L1 h1 h2=>?_;simp only[QK.eats]at h1;exact(h (.Rp s) a1 L1 h2 (by simp only[aC,QK.cost]at *;omega)).weak (by simp only[QK.eats];omega)
 | Sp l=>
  simp only[fD];split
  .rename_i h0;have h0:=eZ h0;refine(h .A (a+1) L h0 (by simp only[aC,QK.cost]at *;omega)).bind fun s a1 L1 h1 h2=>?_;simp only[QK.eats]at h1;exact(h (.Sp _) a1 L1 h2 (by simp only[aC,QK.cost]at *;omega)).weak (by simp only[QK.eats];omega)
  .exact kP (Sa _) ha
 | Ap l=>
  simp only[fD];split
  .rename_i h0;have h0:=eZ h0;refine(h .D (a+1) L h0 (by simp only[aC,QK.cost]at *;omega)).bind fun s a1 L1 h1 h2=>?_;simp only[QK.eats]at h1;exact(h (.Ap _) a1 L1 h2 (by simp only[aC,QK.cost]at *;omega)).weak (by simp only[QK.eats];omega)
  .exact kP (Sa _) ha
 | Dp s=>
  have last:∀(lo hi:Int) (b:Nat),a<b->b≤ts.length->GF ts (a+0) ((rec .H b L).bind fun t a7 L7=>rec (.Dp (nT 2 lo hi [s,t])) a7 L7):=fun lo hi b hb hb2=>by
   refine(h .H b L hb2 (by simp only[aC,QK.cost]at *;omega)).bind fun s a1 L1 h1 h2=>?_;simp only[QK.eats]at h1;exact(h (.Dp _) a1 L1 h2 (by simp only[aC,QK.cost]at *;omega)).weak (by simp only[QK.eats];omega)
  simp only[fD];split
  .rename_i h0;have h0:=eZ h0;split
   .exact qU fun _ h3=>cN fun h4=>qU fun _ h5=>cN fun h6=>last _ _ _ (by omega) h6
   .exact qU fun _ h3=>last _ _ _ (by omega) h3
  .exact kP (Sa _) ha
 | H=>
  simp only[fD];split
  .rename_i h0;have h0:=eZ h0;refine cN fun h2=>uD h2 fun e a3 L3 h3=>cN fun h4=>cN fun h5=>?_;refine(h .H _ L3 h5 (by simp only[aC,QK.cost]at *;omega)).bind fun s a6 L6 h6 h7=>?_;simp only[QK.eats]at h6;exact kP (by simp only[QK.eats];omega) h7
  .exact h .R a L ha (by simp only[aC,QK.cost]at *;omega)
 | Rp s=>
  have last:∀(lo hi:Int) (b:Nat),a<b->b≤ts.length->GF ts (a+0) (rec (.Rp (nT 3 lo hi [s])) b L):=fun lo hi b hb hb2=>
   (h (.Rp _) b L hb2 (by simp only[aC,QK.cost]at *;omega)).weak (by simp only[QK.eats];omega)
  simp only[fD];split
  .refine cN fun h2=>qU fun lo h3=>?_;split
   .exact qU fun _ h5=>cN fun h6=>last _ _ _ (by omega) h6
   .exact cN fun h4=>last _ _ _ (by omega) h4
  .exact kP (Sa _) ha
 | U=>
  simp only[fD];split
  .rename_i h0;have h0:=eZ h0;exact uD h0 fun e a2 L2 h2=>cN fun h3=>kP (by simp only[QK.eats];omega) h3
  .refine cN fun h1=>(h .S _ L h1 (by simp only[aC,QK.cost]at *;omega)).bind fun s a2 L2 h2 h3=>?_;simp only[QK.eats]at h2;split
   .exact AZ fun nm h4=>cN fun h5=>uD h5 fun e a6 L6 h6=>cN fun h7=>kP (by simp only[QK.eats];omega) h7
   .exact cN fun h4=>kP (by simp only[QK.eats];omega) h4
theorem fw:∀(n:Nat) (k:QK) (a:Nat) (L:Int),a≤ts.length->aC ts k a≤n->GF ts (a+k.eats) (ff ts n k a L)
 | 0,k,a,L,_,h=>by exfalso;unfold aC at h;cases k<;>simp only[QK.cost]at h<;>omega
 | n+1,k,a,L,ha,h=>J2 (fun k a L=>fw n k a L) k a L ha h
end
section
variable {α β : Type} {ts : List Tok} {a : Nat} {L : Int}
def Fit(ts:List Tok)(L:Int)(y:QF α)(x:QR α):Prop:=match y with
 | .out=>True
 | .bad l e=>L≠0\/x=.late\/x=.bad l e
 | .ok v a L2=>Rt L x L2 v (ts.drop a)
theorem dp{y:QF β}{x:QR β}{g:β->Nat->Int->QF α}{f:β->List Tok->QR α}(h:Fit ts L y x)(hf:∀v a L2,Fit ts L2 (g v a L2) (f v (ts.drop a))):Fit ts L (y.bind g) (x.bind f):=by
 cases y with
 | out=>trivial
 | bad l e=>
  rcases h with h|h|h
  .exact .inl h
  .rw[h];exact .inr (.inl rfl)
  .rw[h];exact .inr (.inr rfl)
 | ok v a L2=>
  have h2:=hf v a L2;have h:Rt L x L2 v (ts.drop a):=h;show Fit ts L (g v a L2) (x.bind f);have key:L2≠0->L≠0\/x.bind f=.late:=fun h0=>(h.nz h0).imp id fun e=>by rw[e];rfl
  have key2:L2=0->L=0/\x.bind f=f v (ts.drop a):=fun h0=>⟨(h.z h0).1,by rw[(h.z h0).2];rfl⟩
  cases hg:g v a L2 with
  | out=>trivial
  | bad l e=>
   rw[hg]at h2;by_cases h0:L2=0
   .have h2:=h2.resolve_left (fun hh=>hh h0);rw[<-(key2 h0).2]at h2;exact .inr h2
   .exact(key h0).imp id .inl
  | ok w b L3=>
   rw[hg]at h2;have h2:Rt L2 _ L3 w (ts.drop b):=h2;refine⟨fun h3=>?_,fun h3=>?_⟩
   .obtain⟨h4,h5⟩:=h2.z h3;exact⟨(key2 h4).1,(key2 h4).2.trans h5⟩
   .by_cases h0:L2=0
    .rcases h2.nz h3 with h4|h4
     .exact absurd h0 h4
     .exact .inr ((key2 h0).2.trans h4)
    .exact key h0
theorem iu{v:α}:Fit ts L (.ok v a L) (.ok v (ts.drop a)):=⟨fun h=>⟨h,rfl⟩,fun h=>.inl h⟩
theorem vK(ts:List Tok)(a:Nat):kb (dm ts) (ts.drop a)=(.bad (bV ts a).1 (bV ts a).2:QR α):=by
 unfold bV;by_cases h:a<ts.length
 .rw[RY h,RU h];rfl
 .rw[RW (by omega),RX (by omega)];rfl
theorem iT(m:ByteArray)(ts:List Tok)(a:Nat):acc m (ts.drop a)=if aG m ts a=true then some (ts.drop (a+1))else none:=by
 by_cases h:a<ts.length
 .unfold aG;rw[RY h];simp only[acc];split<;>rfl
 .rw[RW (by omega)];have:aG m ts a=false:=by unfold aG;rw[RW (by omega)];rfl
  rw[this];rfl
theorem IX{n:Int}{r:List Tok}(h:ch (ts.drop a)=some (n,r)):r=ts.drop (a+1):=by
 by_cases hla:a<ts.length
 .rw[RY hla]at h;simp only[ch]at h;split at h
  .cases h;rfl
  .cases h
 .rw[RW (by omega)]at h;cases h
theorem Gp{n:ByteArray}{r:List Tok}(h:bA (ts.drop a)=some (n,r)):r=ts.drop (a+1):=by
 by_cases hla:a<ts.length
 .rw[RY hla]at h;simp only[bA]at h;split at h
  .cases h;rfl
  .cases h
 .rw[RW (by omega)]at h;cases h
theorem ct{m:ByteArray}{g:Nat->QF α}{f:List Tok->QR α}(hf:Fit ts L (g (a+1)) (f (ts.drop (a+1)))):Fit ts L (cr ts m a g) (cz (dm ts) m (ts.drop a) f):=by
 unfold cr cz;rw[iT];split
 .exact hf
 .simp only;rw[vK];exact .inr (.inr rfl)
theorem nN{g:Int->Nat->QF α}{f:Int->List Tok->QR α}(hf:∀n,Fit ts L (g n (a+1)) (f n (ts.drop (a+1)))):Fit ts L (kY ts a g) (lB (dm ts) (ts.drop a) f):=by
 unfold kY lB;cases h:ch (ts.drop a)with
 | some p=>obtain⟨n,r⟩:=p;rw[IX h];exact hf n
 | none=>simp only;rw[vK];exact .inr (.inr rfl)
theorem yE{g:ByteArray->Nat->QF α}{f:ByteArray->List Tok->QR α}(hf:∀n,Fit ts L (g n (a+1)) (f n (ts.drop (a+1)))):Fit ts L (lh ts a g) (iy (dm ts) (ts.drop a) f):=by
 unfold lh iy;cases h:bA (ts.drop a)with
 | some p=>obtain⟨n,r⟩:=p;rw[Gp h];exact hf n
 | none=>simp only;rw[vK];exact .inr (.inr rfl)
theorem Hc{r:List Tok}(h:r <:+ ts.drop a):r=ts.drop (ts.length-r.length):=by
 have h1:r <:+ ts:=h.trans (R8 _ _);exact List.suffix_iff_eq_drop.1 h1
theorem qV{g:Ex->Nat->Int->QF α}{f:Ex->List Tok->QR α}(hf:∀e a2 L2,Fit ts L2 (g e a2 L2) (f e (ts.drop a2))):Fit ts L (ik ts a L g) (i8 (dm ts) (ts.drop a) f):=by
 unfold ik i8;have ht:=nP .W (ts.drop a);cases h:par .W (ts.drop a)with
 | out=>trivial
 | bad c r=>
  rw[h]at ht;have hr:=Hc (ts:=ts) ht;simp only;unfold II;by_cases h6:c=6
  .rw[if_pos h6,if_pos h6];exact .inr (.inr rfl)
  .rw[if_neg h6,if_neg h6];refine .inr (.inr ?_);unfold bV;cases r with
   | nil=>simp[dm]
   | cons t r=>
    have hlt:ts.length-(t::r).length<ts.length:=by
     have:=(ht.trans (R8 _ _)).length_le;simp only[R7]at this ⊢;omega
    rw[RY hlt]at hr;rw[RU hlt,<-(List.cons.inj hr).1]
 | ok e r=>
  rw[h]at ht;have hr:=Hc (ts:=ts) ht.1;simp only;by_cases hv:aH e=0
  .rw[if_pos hv,if_pos hv];have:=hf e (ts.length-r.length) L;rw[<-hr]at this;exact this
  .rw[if_neg hv,if_neg hv];have h2:=hf cE (kU ts a) (if L=0 then aH e else L);have hL:(if L=0 then aH e else L)≠0:=by split<;>assumption
   generalize (if L=0 then aH e else L)=L2 at *;cases hg:g cE (kU ts a) L2 with
   | out=>trivial
   | bad l e=>exact .inr (.inl rfl)
   | ok w b L3=>
    rw[hg]at h2;have h2:Rt L2 _ L3 w (ts.drop b):=h2;exact⟨fun h3=>absurd (h2.z h3).1 hL,fun _=>.inr rfl⟩
theorem kw{b:Bool}{y1 y2:QF α}{x:QR α}(h1:b=true->Fit ts L y1 x)(h2:b=false->Fit ts L y2 x):Fit ts L (if b=true then y1 else y2) x:=by
 cases b with
 | true=>rw[if_pos rfl];exact h1 rfl
 | false=>rw[if_neg (by decide)];exact h2 rfl
theorem BJ{m:ByteArray}{y1 y2:QF α}{f:List Tok->QR α}{x:QR α}(h1:Fit ts L y1 (f (ts.drop (a+1))))(h2:Fit ts L y2 x):Fit ts L (if aG m ts a=true then y1 else y2) (match acc m (ts.drop a)with|some r=>f r|none=>x):=by
 rw[iT];cases aG m ts a with
 | true=>exact h1
 | false=>exact h2
theorem GN{rec:QK->Nat->Int->QF Ts}(h:∀k a L,Fit ts L (rec k a L) (qp (dm ts) k (ts.drop a)))(k:QK)(a:Nat)(L:Int):Fit ts L (fD ts rec k a L) (qp (dm ts) k (ts.drop a)):=by
 rw[dh];cases k with
 | S=>exact dp (h _ _ _) fun _ _ _=>h _ _ _
 | A=>exact dp (h _ _ _) fun _ _ _=>h _ _ _
 | D=>exact dp (h _ _ _) fun _ _ _=>h _ _ _
 | R=>exact dp (h _ _ _) fun _ _ _=>h _ _ _
 | Sp l=>exact BJ (f:=fun r1=>(qp (dm ts) .A r1).bind fun s r2=>qp (dm ts) (.Sp (l++[s])) r2) (dp (h _ _ _) fun _ _ _=>h _ _ _) iu
 | Ap l=>exact BJ (f:=fun r1=>(qp (dm ts) .D r1).bind fun s r2=>qp (dm ts) (.Ap (l++[s])) r2) (dp (h _ _ _) fun _ _ _=>h _ _ _) iu
 | Dp s=>
  simp only[fD,bz];rw[iT];refine kw (fun h1=>?_) fun h1=>?_
  .rw[if_pos h1];simp only;rw[iT];refine kw (fun h2=>?_) fun h2=>?_
   .rw[if_pos h2];exact nN fun _=>ct (nN fun _=>ct (dp (h _ _ _) fun _ _ _=>h _ _ _))
   .rw[if_neg (by rw[h2];decide)];exact nN fun _=>dp (h _ _ _) fun _ _ _=>h _ _ _
  .rw[if_neg (by rw[h1];decide)];exact iu
 | H=>
  simp only[fD,bz];rw[iT];refine kw (fun h1=>?_) fun h1=>?_
  .rw[if_pos h1];exact ct (qV fun _ _ _=>ct (ct (dp (h _ _ _) fun _ _ _=>iu)))
  .rw[if_neg (by rw[h1];decide)];exact h _ _ _
 | Rp s=>
  simp only[fD,bz];rw[iT];refine kw (fun h1=>?_) fun h1=>?_
  .rw[if_pos h1];refine ct (nN fun _=>?_);rw[iT];refine kw (fun h2=>?_) fun h2=>?_
   .rw[if_pos h2];exact nN fun _=>ct (h _ _ _)
   .rw[if_neg (by rw[h2];decide)];exact ct (h _ _ _)
  .rw[if_neg (by rw[h1];decide)];exact iu
 | U=>
  simp only[fD,bz];rw[iT];refine kw (fun h1=>?_) fun h1=>?_
  .rw[if_pos h1];exact qV fun _ _ _=>ct iu
  .rw[if_neg (by rw[h1];decide)];refine ct (dp (h _ _ _) fun _ _ _=>?_);rw[iT];refine kw (fun h2=>?_) fun h2=>?_
   .rw[if_pos h2];exact yE fun _=>ct (qV fun _ _ _=>ct iu)
   .rw[if_neg (by rw[h2];decide)];exact ct iu
theorem oT:∀(n:Nat) (k:QK) (a:Nat) (L:Int),Fit ts L (ff ts n k a L) (qp (dm ts) k (ts.drop a))
 | 0,_,_,_=>trivial
 | n+1,k,a,L=>GN (oT n) k a L
end
def ip(ts:List Tok)(n:Nat)(a:Nat)(L:Int):QF Pr:=cr ts rW a fun a1=>lh ts a1 fun nm a2=>cr ts (aa 58) a2 fun a3=>
 if aG jh ts a3=true then(ff ts n .S (a3+1) L).bind fun t a5 L5=>cr ts (aa 59) a5 fun a6=>.ok ⟨nm,true,false,zT,t⟩ a6 L5
 else(ff ts n .S a3 L).bind fun c a4 L4=>cr ts (aa 124) a4 fun a5=>
  if aG (aE 45 62) ts a5=true then(ff ts n .S (a5+1) L4).bind fun t a7 L7=>cr ts (aa 59) a7 fun a8=>.ok ⟨nm,false,true,c,t⟩ a8 L7
  else cr ts (aE 61 62) a5 fun a6=>(ff ts n .S a6 L4).bind fun t a7 L7=>cr ts (aa 59) a7 fun a8=>.ok ⟨nm,false,false,c,t⟩ a8 L7
theorem qg{ts:List Tok}{n a:Nat}{L:Int}(ha:a≤ts.length)(hn:40*ts.length+12≤n):GF ts (a+1) (ip ts n a L):=by
 have hS:∀b L,b≤ts.length->GF ts (b+1) (ff ts n .S b L):=fun b L hb=>fw n .S b L hb (by simp only[aC,QK.cost];omega);refine cN fun h1=>AZ fun _ h2=>cN fun h3=>?_;split
 .rename_i h4;have h4:=eZ h4;exact(hS _ L h4).bind fun t a5 L5 h5 h6=>cN fun h7=>kP (by omega) h7
 .refine(hS _ L h3).bind fun c a4 L4 h4 h5=>cN fun h6=>?_;split
  .rename_i h7;have h7:=eZ h7;exact(hS _ L4 h7).bind fun t a7 L7 h8 h9=>cN fun h10=>kP (by omega) h10
  .exact cN fun h7=>(hS _ L4 h7).bind fun t a7 L7 h8 h9=>cN fun h10=>kP (by omega) h10
theorem xE(ts:List Tok)(n a:Nat)(L:Int):Fit ts L (ip ts n a L) (i6 (dm ts) (ts.drop a)):=by
 unfold ip i6;refine ct (yE fun _=>ct ?_);rw[iT];refine kw (fun h1=>?_) fun h1=>?_
 .rw[if_pos h1];exact dp (oT _ _ _ _) fun _ _ _=>ct iu
 .rw[if_neg (by rw[h1];decide)];refine dp (oT _ _ _ _) fun _ _ _=>ct ?_;rw[iT];refine kw (fun h2=>?_) fun h2=>?_
  .rw[if_pos h2];exact dp (oT _ _ _ _) fun _ _ _=>ct iu
  .rw[if_neg (by rw[h2];decide)];exact ct (dp (oT _ _ _ _) fun _ _ _=>ct iu)
end Go.Proofs.YthekkgfmagliiaaGreatDoor
namespace Go.Proofs.YthekkgfmagliiaaGreatDoor
open Go.RowKit
open Nat renaming reduceLeDiff -> jA, reduceBEq -> jB, reduceLT -> jC, reduceEqDiff -> jD, reduceAdd -> jE, reduceSub -> jF, reduceMul -> jG
open V renaming copy -> jV, lend -> jW, lend1 -> jX, cells -> jY, boxable -> jZ
def pq(ts:List Tok)(a:Nat)(L:Int):List V:=[.d (.sl (ts.map eA)),.d (ab a),.d (ab L)]
def gL(l e:Int):V:=.iface 75 (.agg [.d (ab l),.d (ab e)])
structure TsV(ts:List Tok):Prop where
 ok:TsOK ts
 v:∀t,t∈ts->bC t=true
def jm(ts:List Tok)(a:Nat):V:=gL (bV ts a).1 (bV ts a).2
theorem Hj{ts:List Tok}(h:ts.length-1<ts.length):dm ts=ts[ts.length-1].line:=by
 unfold dm;rw[List.getLast?_eq_getElem?,RU h]
theorem oL(ts:List Tok)(a i:Nat)(L:Int)(H:TsV ts)(σ:LLV)(hi:σ[i]? = some (pq ts a L)):Fun G 82 [.ptr i 0] σ (az (.d (ab (dm ts))) σ):=by
 refine ai Tryz.func82 k82 rfl fun hb hw=>?_;unfold c82;have hl:=H.ok.len;unfold pq at hi;by_cases h0:ts.length=0
 .have:ts=[]:=List.eq_nil_of_length_eq_zero h0;subst this;have dz:decide (((0:Nat):Int)=0)=true:=rfl;rw[show dm []=1 from rfl];simp only[List.map_nil]at hi;simp -dsimp only[aw,jV,jW,jX,jY,jZ,jA,reduceIte,reduceCtorEq,jB,jC,jD,jE,jF,jG,hi,dz];first|exact aA hb rfl rfl|exact aB hb rfl rfl
 .have d0:decide (((ts.length:Nat):Int)=0)=false:=by rw[decide_eq_false_iff_not];omega
  have hlt:ts.length-1<ts.length:=by omega
  have hw1:IntKind.i64.wrap (((ts.length:Nat):Int)-1)=((ts.length-1:Nat):Int):=by rw[aX (by omega) (by omega)];omega
  rw[Hj hlt];simp -dsimp only[aw,jV,jW,jX,jY,jZ,jA,reduceIte,reduceCtorEq,jB,jC,jD,jE,jF,jG,hi,d0,hw1,RU hlt,aP,eA];first|exact aA hb rfl rfl|exact aB hb rfl rfl
theorem oj(ts:List Tok)(a i:Nat)(L:Int)(H:TsV ts)(ha:a≤2000000)(σ:LLV)(hi:σ[i]? = some (pq ts a L)):
 Fun G 45 [.ptr i 0] σ fun o σ'=>o=.panic (jm ts a)/\σ'=σ:=by
 refine ai Tryz.func45 k45 rfl fun hb hw=>?_;unfold c45;have hL:=fun l=>oL ts a i L H (σ++l) (au hi l);have hl0:=oL ts a i L H σ hi;unfold pq at hi;unfold jm bV gL;by_cases hlt:a<ts.length
 .have d1:decide (((ts.length:Nat):Int)≤((a:Nat):Int))=false:=by rw[decide_eq_false_iff_not];omega
  rw[RU hlt];simp -dsimp only[aw,jV,jW,jX,jY,jZ,jA,reduceIte,reduceCtorEq,jB,jC,jD,jE,jF,jG,hi,d1,RU hlt,aP,eA];intro ρ2;exact⟨σ.length,Sa _,by rw[R0];exact hb,rfl,rfl,R0⟩
 .have d1:decide (((ts.length:Nat):Int)≤((a:Nat):Int))=true:=by rw[decide_eq_true_eq];omega
  rw[RX (by omega)];simp -dsimp only[aw,jV,jW,jX,jY,jZ,jA,reduceIte,reduceCtorEq,jB,jC,jD,jE,jF,jG,hi,d1];refine ac hl0 ?_;simp -dsimp only[aw,jV,jW,jX,jY,jZ,jA,reduceIte,reduceCtorEq,jB,jC,jD,jE,jF,jG];exact⟨σ.length,Sa _,by rw[R0];exact hb,rfl,rfl,R0⟩
theorem Lm{ts:List Tok}(H:TsV ts){m:ByteArray}{a:Nat}(h:a<ts.length):aG m ts a=((decide (ts[a].kind=2)||decide (ts[a].kind=4))&&decide (ts[a].text=m)):=by
 rw[Bl h,H.v _ (List.getElem_mem h),Bool.true_and,Bool.or_comm]
theorem CP(m:ByteArray)(ts:List Tok)(a i:Nat)(L:Int)(H:TsV ts)(ha:a≤2000000)(σ:LLV)(hi:σ[i]? = some (pq ts a L)):
 Fun G 83 [.ptr i 0,.d (ab 0),.d (ae m)] σ (az (an (aG m ts a)) σ):=by
 refine ai Tryz.func83 k83 rfl fun hb hw=>?_;unfold c83;unfold pq at hi;have hw0:IntKind.i64.wrap (((a:Nat):Int)+0)=((a:Nat):Int):=by rw[aX (by omega) (by omega)];omega
 by_cases hlt:a<ts.length
 .have d1:decide (((a:Nat):Int)<((ts.length:Nat):Int))=true:=by rw[decide_eq_true_eq];omega
  rw[Lm H hlt];simp -dsimp only[aw,jV,jW,jX,jY,jZ,jA,reduceIte,reduceCtorEq,jB,jC,jD,jE,jF,jG,hi,hw0,d1,RU hlt,aP,eA];by_cases h2:ts[a].kind=2
  .simp -dsimp only[aw,jV,jW,jX,jY,jZ,jA,reduceIte,reduceCtorEq,jB,jC,jD,jE,jF,jG,hi,decide_eq_true h2,RU hlt,aP,eA];first|exact aA hb rfl rfl|exact aB hb rfl rfl
  .by_cases h4:ts[a].kind=4
   .simp -dsimp only[aw,jV,jW,jX,jY,jZ,jA,reduceIte,reduceCtorEq,jB,jC,jD,jE,jF,jG,hi,decide_eq_false h2,decide_eq_true h4,RU hlt,aP,eA];first|exact aA hb rfl rfl|exact aB hb rfl rfl
   .simp -dsimp only[aw,jV,jW,jX,jY,jZ,jA,reduceIte,reduceCtorEq,jB,jC,jD,jE,jF,jG,hi,decide_eq_false h2,decide_eq_false h4,RU hlt,aP,eA];first|exact aA hb rfl rfl|exact aB hb rfl rfl
 .have d1:decide (((a:Nat):Int)<((ts.length:Nat):Int))=false:=by rw[decide_eq_false_iff_not];omega
  rw[iN hlt];simp -dsimp only[aw,jV,jW,jX,jY,jZ,jA,reduceIte,reduceCtorEq,jB,jC,jD,jE,jF,jG,hi,hw0,d1];first|exact aA hb rfl rfl|exact aB hb rfl rfl
theorem y0{σ:LLV}{i:Nat}{ts:List Tok}{a:Nat}{L:Int}(hi:σ[i]? = some (pq ts a L)):σ.set i (pq ts a L)=σ:=by
 have hlt:=(List.getElem?_eq_some_iff.1 hi).1;rw[<-(List.getElem?_eq_some_iff.1 hi).2];exact List.set_getElem_self hlt
theorem tz(m:ByteArray)(ts:List Tok)(a i:Nat)(L:Int)(H:TsV ts)(ha:a≤2000000)(σ:LLV)(hi:σ[i]? = some (pq ts a L)):
 Fun G 48 [.ptr i 0,.d (ae m)] σ fun o σ'=>o=.ret (an (aG m ts a))/\σ'=if aG m ts a=true then σ.set i (pq ts (a+1) L)else σ:=by
 refine ai Tryz.func48 k48 rfl fun hb hw=>?_;unfold c48;have hS:=CP m ts a i L H ha σ hi;simp -dsimp only[aw,jV,jW,jX,jY,jZ,jA,reduceIte,reduceCtorEq,jB,jC,jD,jE,jF,jG];refine ac hS ?_;cases hs:aG m ts a with
 | false=>
  simp -dsimp only[aw,jV,jW,jX,jY,jZ,jA,reduceIte,reduceCtorEq,jB,jC,jD,jE,jF,jG,Bool.false_eq_true,if_false];exact ao hb rfl rfl R0 ⟨rfl,rfl⟩
 | true=>
  unfold pq at hi;simp -dsimp only[aw,jV,jW,jX,jY,jZ,jA,reduceIte,reduceCtorEq,jB,jC,jD,jE,jF,jG,hi,aX (show -9223372036854775808≤((a:Nat):Int)+1 by omega) (show((a:Nat):Int)+1≤9223372036854775807 by omega),if_true];exact bP (τ:=σ.set i (pq ts (a+1) L)) (bv hb rfl) rfl rfl (by rw[R6 (by rw[RZ];exact Sa _)];rfl) ⟨rfl,rfl⟩
theorem mj(σ:LLV)(i:Nat)(X Y:List V)(l:LLV):(σ.set i X++Y::l)[σ.length]? = some Y:=by
 rw[List.getElem?_append_right (by rw[RZ];exact Sa _),RZ,Sb];rfl
theorem qd(σ:LLV)(i:Nat)(X Y Z:List V)(l:LLV):(σ.set i X++Y::l).set σ.length Z=σ.set i X++Z::l:=by
 rw[List.set_append_right _ _ (by rw[RZ];exact Sa _),RZ,Sb];rfl
def G6(ts:List Tok)(a i:Nat)(L k:Int)(σ:LLV):Out->LLV->Prop:=fun o σ'=>
 (∃t,ts[a]? = some t/\t.kind=k/\o=.ret (fy t)/\σ'=σ.set i (pq ts (a+1) L))\/((∀t,ts[a]? = some t->t.kind≠k)/\o=.panic (jm ts a)/\σ'=σ)
theorem oY(ts:List Tok)(a i:Nat)(L k:Int)(H:TsV ts)(ha:a≤2000000)(σ:LLV)(hi:σ[i]? = some (pq ts a L)):
 Fun G 47 [.ptr i 0,.d (ab k)] σ (G6 ts a i L k σ):=by
 refine ai Tryz.func47 k47 rfl fun hb hw=>?_;unfold c47;have hF:=fun l=>oj ts a i L H ha (σ++l) (au hi l);have hil:=(List.getElem?_eq_some_iff.1 hi).1;have hio:=fun l=>au hi l;have hso:=fun X l=>aR hi X l;unfold pq at hi hio
 have panic:∀(x:V) (l:LLV),(∀t,ts[a]? = some t->t.kind≠k)->∀(rs:List RV) (ρ:ah),fin σ.length rs (G6 ts a i L k σ) (.panic (jm ts a)) ρ (σ++l):=fun x l hk rs ρ=>
  ⟨σ.length,Sa _,by rw[R9];exact hb,rfl,.inr ⟨hk,rfl,R9⟩⟩
 by_cases hlt:a<ts.length
 .have d1:decide (((ts.length:Nat):Int)≤((a:Nat):Int))=false:=by rw[decide_eq_false_iff_not];omega
  by_cases hk:ts[a].kind=k
  .have hw1:IntKind.i64.wrap (((a:Nat):Int)+1)=((a+1:Nat):Int):=by rw[aX (by omega) (by omega)];omega
   have hw2:IntKind.i64.wrap (((a+1:Nat):Int)-1)=((a:Nat):Int):=by rw[aX (by omega) (by omega)];omega
   have hs1:=fun l=>au (R5 (a:=pq ts (a+1) L) hil) l;unfold pq at hs1;simp -dsimp only[aw,jV,jW,jX,jY,jZ,jA,reduceIte,reduceCtorEq,jB,jC,jD,jE,jF,jG,hio,d1,RU hlt,aP,eA,hk,hw1,hw2,decide_true,hso,hs1,mj,qd];refine bP (σ:=σ) (Q:=G6 ts a i L k σ) (τ:=σ.set i (pq ts (a+1) L)) (v:=fy ts[a]) (bv hb rfl) ?_ rfl ?_ (.inl ⟨ts[a],RU hlt,hk,rfl,rfl⟩)
   .simp[NP,aU,bu,fy,hk,aw,jV,jW,jX,jY,jZ,jA,reduceIte,reduceCtorEq,jB,jC,jD,jE,jF,jG]
   .simp[pq]
  .simp -dsimp only[aw,jV,jW,jX,jY,jZ,jA,reduceIte,reduceCtorEq,jB,jC,jD,jE,jF,jG,hio,d1,RU hlt,aP,eA,decide_eq_false hk];refine aW (hF _) fun o σ' ⟨e1,e2⟩=>?_;subst e1;subst e2;simp -dsimp only[aw,jV,jW,jX,jY,jZ,jA,reduceIte,reduceCtorEq,jB,jC,jD,jE,jF,jG,bE];exact panic .nil _ (fun t ht=>by rw[RU hlt]at ht;cases ht;exact hk) _ _
 .have d1:decide (((ts.length:Nat):Int)≤((a:Nat):Int))=true:=by rw[decide_eq_true_eq];omega
  simp -dsimp only[aw,jV,jW,jX,jY,jZ,jA,reduceIte,reduceCtorEq,jB,jC,jD,jE,jF,jG,hio,d1];refine aW (hF _) fun o σ' ⟨e1,e2⟩=>?_;subst e1;subst e2;simp -dsimp only[aw,jV,jW,jX,jY,jZ,jA,reduceIte,reduceCtorEq,jB,jC,jD,jE,jF,jG,bE];exact panic .nil _ (fun t ht=>by rw[RX (by omega)]at ht;cases ht) _ _
theorem nc{σ σ' τ:LLV}{ρ:ah}{rs:List RV}{Q:Out->LLV->Prop}(hb:aj σ.length τ=true){v:V}(h:aU σ' ρ rs=some v)(hv:V.under σ.length v=true)(hσ:σ'.take σ.length=τ)(hq:Q (.ret v) τ):fin σ.length rs Q .normal ρ σ':=
 ⟨ρ,σ',.refl _ _ _,v,h,σ.length,Sa _,by rw[hσ];exact hb,hv,by rw[hσ];exact hq⟩
def fG(ts:List Tok):Nat->List ByteArray->Bool
 | _,[]=>true
 | a,m::ms=>aG m ts a&&fG ts (a+1) ms
theorem nD(ts:List Tok):∀(ms:List ByteArray) (a:Nat) (m:ByteArray),fG ts a (ms++[m])=(fG ts a ms&&aG m ts (a+ms.length))
 | [],a,m=>by simp[fG]
 | x::ms,a,m=>by simp only[List.cons_append,fG,nD ts ms,R7,Bool.and_assoc];rw[show a+1+ms.length=a+(ms.length+1)by omega]
def Ny(ts:List Tok)(a i:Nat)(L:Int)(ms:List ByteArray)(σ:LLV):Out->LLV->Prop:=fun o σ'=>
 (fG ts a ms=true/\o=.ret (.tup [])/\σ'=σ.set i (pq ts (a+ms.length) L))\/
 (∃(j:Nat) (h:j<ms.length),fG ts a (ms.take j)=true/\aG ms[j] ts (a+j)=false/\o=.panic (jm ts (a+j))/\σ'=σ.set i (pq ts (a+j) L))
theorem ur(ms:List ByteArray)(ts:List Tok)(a i:Nat)(L:Int)(H:TsV ts)(ha:a≤1500000)(hms:ms.length≤100)(σ:LLV)(hi:σ[i]? = some (pq ts a L)):
 Fun G 46 [.ptr i 0,.d (.sl (ms.map fun m=>[ae m]))] σ (Ny ts a i L ms σ):=by
 refine ai Tryz.func46 k46 rfl fun hb hw=>?_;unfold c46;have hil:=(List.getElem?_eq_some_iff.1 hi).1;simp -dsimp only[aw,jV,jW,jX,jY,jZ,jA,reduceIte,reduceCtorEq,jB,jC,jD,jE,jF,jG];refine aY [0,6,7,8] (R:=fun(j:Nat) ρ σ'=>ρ=[(0,.ptr i 0),(6,.d (.sl (ms.map fun m=>[ae m]))),(7,aI .i64 ms.length),(8,aI .i64 j)]/\σ'=σ.set i (pq ts (a+j) L)/\fG ts a (ms.take j)=true) ms.length ⟨rfl,(y0 hi).symm,by simp[fG]⟩ ?_ _;rintro j ρ' σ' hj ⟨rfl,rfl,hr⟩;have hbs2:∀b,aj σ.length (σ.set i (pq ts b L))=true:=fun b=>bv hb rfl;have hbs:∀b,aj (σ.set i (pq ts b L)).length (σ.set i (pq ts b L))=true:=fun b=>by rw[RZ];exact hbs2 b
 have htl:∀X:List V,(σ.set i X).take σ.length=σ.set i X:=fun X=>R6 (by rw[RZ];exact Sa _);by_cases hlt:j<ms.length
 .have hT:=tz ms[j] ts (a+j) i L H (by omega) (σ.set i (pq ts (a+j) L)) (R5 hil);have hF:=oj ts (a+j) i L H (by omega) (σ.set i (pq ts (a+j) L)) (R5 hil);simp -dsimp only[aw,jV,jW,jX,jY,jZ,jA,reduceIte,reduceCtorEq,jB,jC,jD,jE,jF,jG,Int.ofNat_lt,hlt,decide_true,RU hlt];refine aW hT fun o σ' ⟨e1,e2⟩=>?_;subst e1;cases hs:aG ms[j] ts (a+j)with
  | true=>
   rw[hs,if_pos rfl,List.set_set]at e2;subst e2;simp -dsimp only[aw,jV,jW,jX,jY,jZ,jA,reduceIte,reduceCtorEq,jB,jC,jD,jE,jF,jG,bg,bl hlt (show ms.length≤9223372036854775807 by omega)];refine⟨hlt,Nxt.same (by rw[RZ];exact Sa _) (hbs _) ?_ ⟨rfl,rfl,?_⟩⟩
   .simp[am,V.under];exact hil
   .rw[List.take_succ_eq_append_getElem hlt,nD,hr,Bool.true_and,List.length_take,Nat.min_eq_left (by omega)];exact hs
  | false=>
   rw[hs,if_neg (by decide)]at e2;subst e2;simp -dsimp only[aw,jV,jW,jX,jY,jZ,jA,reduceIte,reduceCtorEq,jB,jC,jD,jE,jF,jG,bg];refine aW hF fun o σ' ⟨e1,e2⟩=>?_;subst e1;subst e2;simp -dsimp only[aw,jV,jW,jX,jY,jZ,jA,reduceIte,reduceCtorEq,jB,jC,jD,jE,jF,jG,bE];exact⟨σ.length,Sa _,by rw[htl];exact hbs2 _,rfl,.inr ⟨j,hlt,hr,hs,rfl,htl _⟩⟩
 .simp -dsimp only[aw,jV,jW,jX,jY,jZ,jA,reduceIte,reduceCtorEq,jB,jC,jD,jE,jF,jG,Int.ofNat_lt,hlt,decide_false];have hjm:j=ms.length:=by omega
  subst hjm;rw[R0]at hr;exact nc (τ:=σ.set i (pq ts (a+ms.length) L)) (hbs2 _) rfl rfl (htl _) (.inl ⟨hr,rfl,rfl⟩)
end Go.Proofs.YthekkgfmagliiaaGreatDoor
