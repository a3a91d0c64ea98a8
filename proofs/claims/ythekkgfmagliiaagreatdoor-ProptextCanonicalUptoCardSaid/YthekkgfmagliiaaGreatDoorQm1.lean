import Derived.Test.YthekkgfmagliiaaGreatDoorPm11
set_option maxHeartbeats 1000000
set_option linter.unusedVariables false
set_option linter.unusedSimpArgs false
set_option linter.unusedSectionVars false
open Classical renaming byContradiction->Rs
open List renaming getElem?_eq_getElem->Ru,drop_eq_nil_of_le->Rv,getElem?_eq_none->Rw,drop_eq_getElem_cons->Rx,length_set->Ry,take_length->Rz,getElem?_set_self->RA,take_of_length_le->RB,length_cons->RC,drop_suffix->RD,take_left->RE
open Nat renaming le_refl->RF,sub_self->RG
namespace Go.Proofs.YthekkgfmagliiaaGreatDoor
open Go.RowKit
open Nat renaming reduceLeDiff -> jA, reduceBEq -> jB, reduceLT -> jC, reduceEqDiff -> jD, reduceAdd -> jE, reduceSub -> jF, reduceMul -> jG
open V renaming copy -> jV, lend -> jW, lend1 -> jX, cells -> jY, boxable -> jZ
def mkB(ts:List Tok)(i:Nat)(ms:List ByteArray):Bool:=match ts[i]? with
 | some t=>decide (t.kind=4)&&ms.any fun m=>decide (t.text=m)
 | none=>false
def wH(s:ByteArray)(d:Int):Int:=
 if(decide (s=aa 40)||(decide (s=aa 91)||decide (s=aa 123)))=true then IntKind.i64.wrap (d+1)
 else if(decide (s=aa 41)||(decide (s=aa 93)||decide (s=aa 125)))=true then IntKind.i64.wrap (d-1)else d
def clF(ts:List Tok):Nat->Nat->Int->Nat
 | 0,i,_=>i
 | n+1,i,d=>match ts[i]? with
  | none=>i
  | some t=>if t.kind=4 then(if wH t.text d=0 then i+1 else clF ts n (i+1) (wH t.text d))else clF ts n (i+1) d
def fE(ts:List Tok)(i:Nat):Nat:=clF ts (ts.length-i) i 0
def jM(ts:List Tok):Nat->Nat->Nat
 | 0,i=>i
 | n+1,i=>if mkB ts i [aa 33,aa 126,aa 45]=true then jM ts n (i+1)else i
def qT(ts:List Tok)(i:Nat):Nat:=match ts[i]? with
 | none=>i+1
 | some t=>if mkB ts i [aa 40]=true then fE ts i else if t.kind=1 then
  (if(mkB ts (i+1) [aa 91]||(mkB ts (i+1) [aa 40]&&(decide (t.text=jS)||decide (t.text=fz))))=true then fE ts (i+1)
   else if mkB ts (i+1) [aa 64]=true then i+1+2 else i+1)else i+1
def bZ(ts:List Tok)(i:Nat):Nat:=qT ts (jM ts (ts.length-i) i)
def tS(ts:List Tok)(i:Nat):Bool:=match ts[i]? with
 | some t=>decide (t.kind=2)&&decide (t.text=bR)
 | none=>false
def mC(ts:List Tok):Nat->Nat->Nat
 | 0,i=>i
 | n+1,i=>if tS ts i=true then mC ts n (fE ts (i+1))else i
def io:List ByteArray:=[aF 61 62,aF 124 124,aF 38 38,aa 124,aa 94,aa 38,aF 61 61,aF 33 61,aa 60,aF 60 61,aa 62,aF 62 61,aF 60 60,aF 62 62,aa 43,aa 45,aa 42]
def lT(ts:List Tok):Nat->Nat->Int->Nat
 | 0,i,_=>i
 | n+1,i,c=>let k:=mC ts (ts.length+1-bZ ts i) (bZ ts i)
  if mkB ts k [aa 63]=true then lT ts n (k+1) (IntKind.i64.wrap (c+1))
  else if(mkB ts k [aa 58]&&decide (0<c))=true then lT ts n (k+1) (IntKind.i64.wrap (c-1))
  else if mkB ts k io=true then lT ts n (k+1) c else k
def kG(ts:List Tok)(i:Nat):Nat:=lT ts (ts.length+1-i) i 0
section
variable (ts : List Tok)
theorem eE{i:Nat}{ms:List ByteArray}(h:mkB ts i ms=true):i<ts.length:=by
 unfold mkB at h;apply Rs;intro hn;rw[Rw (by omega)]at h;cases h
theorem A0{i:Nat}(h:tS ts i=true):i<ts.length:=by
 unfold tS at h;apply Rs;intro hn;rw[Rw (by omega)]at h;cases h
theorem Fz:∀(n i:Nat) (d:Int),i≤clF ts n i d/\clF ts n i d≤max i ts.length
 | 0,i,d=>⟨RF _,by simp only[clF];omega⟩
 | n+1,i,d=>by
  unfold clF;by_cases h:i<ts.length
  .rw[Ru h];simp only;have h1:=fun d=>Fz n (i+1) d;split
   .split
    .omega
    .have:=h1 (wH ts[i].text d);omega
   .have:=h1 d;omega
  .rw[Rw (by omega)];simp only;omega
theorem lJ(i:Nat):i≤fE ts i/\fE ts i≤max i ts.length:=Fz ts _ i 0
theorem xd:∀(n i:Nat),i≤jM ts n i/\jM ts n i≤max i ts.length
 | 0,i=>⟨RF _,by simp only[jM];omega⟩
 | n+1,i=>by
  unfold jM;split
  .rename_i h;have:=eE ts h;have:=xd n (i+1);omega
  .omega
theorem E8(i:Nat)(hi:i≤ts.length):i≤qT ts i/\qT ts i≤ts.length+1:=by
 unfold qT;by_cases h:i<ts.length
 .rw[Ru h];simp only;have h1:=lJ ts i;have h2:=lJ ts (i+1);split
  .omega
  .split
   .split
    .omega
    .split
     .rename_i h3;have:=eE ts h3;omega
     .omega
   .omega
 .rw[Rw (by omega)];simp only;omega
theorem qf{i:Nat}(hi:i≤ts.length):i≤bZ ts i/\bZ ts i≤ts.length+1:=by
 have h1:=xd ts (ts.length-i) i;have h2:=E8 ts (jM ts (ts.length-i) i) (by omega);unfold bZ;omega
theorem Bh:∀(n i:Nat),i≤ts.length+1->i≤mC ts n i/\mC ts n i≤ts.length+1
 | 0,i,h=>⟨RF _,h⟩
 | n+1,i,h=>by
  unfold mC;split
  .rename_i hb;have:=A0 ts hb;have h1:=lJ ts (i+1);have:=Bh n (fE ts (i+1)) (by omega);omega
  .omega
theorem En{i:Nat}(hi:i≤ts.length):i≤mC ts (ts.length+1-bZ ts i) (bZ ts i)/\mC ts (ts.length+1-bZ ts i) (bZ ts i)≤ts.length+1:=by
 have h1:=qf ts hi;have h2:=Bh ts (ts.length+1-bZ ts i) (bZ ts i) h1.2;omega
theorem pW:∀(n i:Nat) (c:Int),i≤ts.length->i≤lT ts n i c/\lT ts n i c≤ts.length+1
 | 0,i,c,h=>⟨RF _,by simp only[lT];omega⟩
 | n+1,i,c,h=>by
  unfold lT;have h1:=En ts h;generalize mC ts (ts.length+1-bZ ts i) (bZ ts i)=k at *;simp only;split
  .rename_i hm;have:=eE ts hm;have:=pW n (k+1) (IntKind.i64.wrap (c+1)) (by omega);omega
  .split
   .rename_i hm;rw[Bool.and_eq_true]at hm;have:=eE ts hm.1;have:=pW n (k+1) (IntKind.i64.wrap (c-1)) (by omega);omega
   .split
    .rename_i hm;have:=eE ts hm;have:=pW n (k+1) c (by omega);omega
    .omega
theorem Fw{i:Nat}(hi:i≤ts.length):i≤kG ts i/\kG ts i≤ts.length+1:=pW ts _ i 0 hi
end
inductive QF(α:Type) where
 | out
 | bad (l e:Int)
 | ok (v:α) (a:Nat) (L:Int)
def QF.bind{α β:Type}(x:QF α)(f:α->Nat->Int->QF β):QF β:=match x with
 | .out=>.out
 | .bad l e=>.bad l e
 | .ok v a L=>f v a L
def b7(ts:List Tok)(a:Nat):Int×Int:=match ts[a]? with|some t=>(t.line,5)|none=>(d6 ts,6)
section
variable {α : Type} (ts : List Tok)
def cw(m:ByteArray)(a:Nat)(f:Nat->QF α):QF α:=if aH m ts a=true then f (a+1)else .bad (b7 ts a).1 (b7 ts a).2
def kK(a:Nat)(f:Int->Nat->QF α):QF α:=match bW (ts.drop a)with
 | some (n,_)=>f n (a+1)
 | none=>.bad (b7 ts a).1 (b7 ts a).2
def kM(a:Nat)(f:ByteArray->Nat->QF α):QF α:=match bw (ts.drop a)with
 | some (n,_)=>f n (a+1)
 | none=>.bad (b7 ts a).1 (b7 ts a).2
def cE:Ex:=.mk 1 0 ⟨#[]⟩ []
def hZ(a:Nat)(L:Int)(f:Ex->Nat->Int->QF α):QF α:=match par .W (ts.drop a)with
 | .out=>.out
 | .bad c r=>if c=6 then .bad (d6 ts) 6 else .bad (b7 ts (ts.length-r.length)).1 c
 | .ok e r=>if aZ e=0 then f e (ts.length-r.length) L else f cE (kG ts a) (if L=0 then aZ e else L)
def ft(rec:QK->Nat->Int->QF Ts):QK->Nat->Int->QF Ts
 | .S,a,L=>(rec .A a L).bind fun s a1 L1=>rec (.Sp [s]) a1 L1
 | .Sp l,a,L=>if aH orW ts a=true then(rec .A (a+1) L).bind fun s a2 L2=>rec (.Sp (l++[s])) a2 L2 else .ok (lR 4 l) a L
 | .A,a,L=>(rec .D a L).bind fun s a1 L1=>rec (.Ap [s]) a1 L1
 | .Ap l,a,L=>if aH jx ts a=true then(rec .D (a+1) L).bind fun s a2 L2=>rec (.Ap (l++[s])) a2 L2 else .ok (lR 5 l) a L
 | .D,a,L=>(rec .H a L).bind fun s a1 L1=>rec (.Dp s) a1 L1
 | .Dp s,a,L=>if aH (aF 35 35) ts a=true then
  (if aH (aa 91) ts (a+1)=true then kK ts (a+1+1) fun lo a3=>cw ts (aa 58) a3 fun a4=>kK ts a4 fun hi a5=>cw ts (aa 93) a5 fun a6=>(rec .H a6 L).bind fun t a7 L7=>rec (.Dp (nT 2 lo hi [s,t])) a7 L7
   else kK ts (a+1) fun lo a2=>(rec .H a2 L).bind fun t a3 L3=>rec (.Dp (nT 2 lo lo [s,t])) a3 L3)
  else .ok s a L
 | .H,a,L=>if aH fZ ts a=true then cw ts (aa 123) (a+1) fun a2=>hZ ts a2 L fun e a3 L3=>cw ts (aa 125) a3 fun a4=>cw ts inW a4 fun a5=>(rec .H a5 L3).bind fun s a6 L6=>.ok (.mk 7 0 0 e ⟨#[]⟩ [s]) a6 L6
  else rec .R a L
 | .R,a,L=>(rec .U a L).bind fun s a1 L1=>rec (.Rp s) a1 L1
 | .Rp s,a,L=>if aH (aa 91) ts a=true then cw ts (aa 42) (a+1) fun a2=>kK ts a2 fun lo a3=>
  if aH (aa 58) ts a3=true then kK ts (a3+1) fun hi a5=>cw ts (aa 93) a5 fun a6=>rec (.Rp (nT 3 lo hi [s])) a6 L
  else cw ts (aa 93) a3 fun a4=>rec (.Rp (nT 3 lo lo [s])) a4 L
  else .ok s a L
 | .U,a,L=>if aH (aa 123) ts a=true then hZ ts (a+1) L fun e a2 L2=>cw ts (aa 125) a2 fun a3=>.ok (.mk 1 0 0 e ⟨#[]⟩ []) a3 L2
  else cw ts (aa 40) a fun a1=>(rec .S a1 L).bind fun s a2 L2=>
   if aH (aa 44) ts a2=true then kM ts (a2+1) fun n a4=>cw ts (aa 61) a4 fun a5=>hZ ts a5 L2 fun e a6 L6=>cw ts (aa 41) a6 fun a7=>.ok (.mk 6 0 0 e n [s]) a7 L6
   else cw ts (aa 41) a2 fun a3=>.ok s a3 L2
def ff:Nat->QK->Nat->Int->QF Ts
 | 0,_,_,_=>.out
 | n+1,k,a,L=>ft ts (ff n) k a L
end
structure GF{α:Type}(ts:List Tok)(b:Nat)(x:QF α):Prop where
 ne:x≠.out
 ok:∀v a L,x=.ok v a L->b≤a/\a≤ts.length
 bad:∀l e,x=.bad l e->e≠0
section
variable {α β : Type} {ts : List Tok} {a b c : Nat} {L : Int}
theorem nR{l e:Int}(he:e≠0):GF ts b (.bad l e:QF α):=⟨(by intro h;cases h),(by rintro _ _ _ ⟨⟩),(by rintro _ _ ⟨⟩;exact he)⟩
theorem oq(ts:List Tok)(a:Nat):(b7 ts a).2≠0:=by unfold b7;split<;>(simp only;decide)
theorem k6{v:α}(h1:b≤a)(h2:a≤ts.length):GF ts b (.ok v a L):=⟨(by intro h;cases h),(by rintro _ _ _ ⟨⟩;exact⟨h1,h2⟩),(by rintro _ _ ⟨⟩)⟩
theorem GF.bind{x:QF β}{f:β->Nat->Int->QF α}(h:GF ts b x)(hf:∀v a L,b≤a->a≤ts.length->GF ts c (f v a L)):GF ts c (x.bind f):=by
 cases x with
 | out=>exact absurd rfl h.ne
 | bad l e=>exact nR (h.bad l e rfl)
 | ok v a L=>exact hf v a L (h.ok v a L rfl).1 (h.ok v a L rfl).2
theorem GF.weak{x:QF α}(h:GF ts b x)(hc:c≤b):GF ts c x:=⟨h.ne,fun v a L e=>by have:=h.ok v a L e;omega,h.bad⟩
theorem dg{m:ByteArray}{f:Nat->QF α}(hf:a<ts.length->GF ts b (f (a+1))):GF ts b (cw ts m a f):=by
 unfold cw;split
 .rename_i h;exact hf (fe h)
 .exact nR (oq _ _)
theorem rq{f:Int->Nat->QF α}(hf:∀n,a<ts.length->GF ts b (f n (a+1))):GF ts b (kK ts a f):=by
 unfold kK;cases h:bW (ts.drop a)with
 | some p=>
  refine hf _ ?_;apply Rs;intro hn;rw[Rv (by omega)]at h;cases h
 | none=>exact nR (oq _ _)
theorem AY{f:ByteArray->Nat->QF α}(hf:∀n,a<ts.length->GF ts b (f n (a+1))):GF ts b (kM ts a f):=by
 unfold kM;cases h:bw (ts.drop a)with
 | some p=>
  refine hf _ ?_;apply Rs;intro hn;rw[Rv (by omega)]at h;cases h
 | none=>exact nR (oq _ _)
theorem uq{f:Ex->Nat->Int->QF α}(ha:a≤ts.length)(hf:∀e a2 L2,a≤a2->GF ts b (f e a2 L2)):GF ts b (hZ ts a L f):=by
 unfold hZ;cases h:par .W (ts.drop a)with
 | out=>exact absurd h (dB _ _)
 | bad c r=>
  have:=(p7 h).1;simp only;split<;>first|exact nR (by decide)|exact nR this
 | ok e r=>
  have:=(nO h).1;rw[List.length_drop]at this;simp only;split
  .exact hf _ _ _ (by omega)
  .exact hf _ _ _ (Fw ts ha).1
def aD(ts:List Tok)(k:QK)(a:Nat):Nat:=40*(ts.length-a)+k.cost
theorem I8{n:Nat}{rec:QK->Nat->Int->QF Ts}(h:∀k a L,a≤ts.length->aD ts k a≤n->GF ts (a+k.eats) (rec k a L))(k:QK)(a:Nat)(L:Int)(ha:a≤ts.length)(hn:aD ts k a≤n+1):GF ts (a+k.eats) (ft ts rec k a L):=by
 cases k with
 | S=>
  refine(h .A a L ha (by simp only[aD,QK.cost]at *;omega)).bind fun s a1 L1 h1 h2=>?_;simp only[QK.eats]at h1;exact(h (.Sp [s]) a1 L1 h2 (by simp only[aD,QK.cost]at *;omega)).weak (by simp only[QK.eats];omega)
 | A=>
  refine(h .D a L ha (by simp only[aD,QK.cost]at *;omega)).bind fun s a1 L1 h1 h2=>?_;simp only[QK.eats]at h1;exact(h (.Ap [s]) a1 L1 h2 (by simp only[aD,QK.cost]at *;omega)).weak (by simp only[QK.eats];omega)
 | D=>
  refine(h .H a L ha (by simp only[aD,QK.cost]at *;omega)).bind fun s a1 L1 h1 h2=>?_;simp only[QK.eats]at h1;exact(h (.Dp s) a1 L1 h2 (by simp only[aD,QK.cost]at *;omega)).weak (by simp only[QK.eats];omega)
 | R=>
  refine(h .U a L ha (by simp only[aD,QK.cost]at *;omega)).bind fun s a1 L1 h1 h2=>?_;simp only[QK.eats]at h1;exact(h (.Rp s) a1 L1 h2 (by simp only[aD,QK.cost]at *;omega)).weak (by simp only[QK.eats];omega)
 | Sp l=>
  simp only[ft];split
  .rename_i h0;have h0:=fe h0;refine(h .A (a+1) L h0 (by simp only[aD,QK.cost]at *;omega)).bind fun s a1 L1 h1 h2=>?_;simp only[QK.eats]at h1;exact(h (.Sp _) a1 L1 h2 (by simp only[aD,QK.cost]at *;omega)).weak (by simp only[QK.eats];omega)
  .exact k6 (RF _) ha
 | Ap l=>
  simp only[ft];split
  .rename_i h0;have h0:=fe h0;refine(h .D (a+1) L h0 (by simp only[aD,QK.cost]at *;omega)).bind fun s a1 L1 h1 h2=>?_;simp only[QK.eats]at h1;exact(h (.Ap _) a1 L1 h2 (by simp only[aD,QK.cost]at *;omega)).weak (by simp only[QK.eats];omega)
  .exact k6 (RF _) ha
 | Dp s=>
  have last:∀(lo hi:Int) (b:Nat),a<b->b≤ts.length->GF ts (a+0) ((rec .H b L).bind fun t a7 L7=>rec (.Dp (nT 2 lo hi [s,t])) a7 L7):=fun lo hi b hb hb2=>by
   refine(h .H b L hb2 (by simp only[aD,QK.cost]at *;omega)).bind fun s a1 L1 h1 h2=>?_;simp only[QK.eats]at h1;exact(h (.Dp _) a1 L1 h2 (by simp only[aD,QK.cost]at *;omega)).weak (by simp only[QK.eats];omega)
  simp only[ft];split
  .rename_i h0;have h0:=fe h0;split
   .exact rq fun _ h3=>dg fun h4=>rq fun _ h5=>dg fun h6=>last _ _ _ (by omega) h6
   .exact rq fun _ h3=>last _ _ _ (by omega) h3
  .exact k6 (RF _) ha
 | H=>
  simp only[ft];split
  .rename_i h0;have h0:=fe h0;refine dg fun h2=>uq h2 fun e a3 L3 h3=>dg fun h4=>dg fun h5=>?_;refine(h .H _ L3 h5 (by simp only[aD,QK.cost]at *;omega)).bind fun s a6 L6 h6 h7=>?_;simp only[QK.eats]at h6;exact k6 (by simp only[QK.eats];omega) h7
  .exact h .R a L ha (by simp only[aD,QK.cost]at *;omega)
 | Rp s=>
  have last:∀(lo hi:Int) (b:Nat),a<b->b≤ts.length->GF ts (a+0) (rec (.Rp (nT 3 lo hi [s])) b L):=fun lo hi b hb hb2=>
   (h (.Rp _) b L hb2 (by simp only[aD,QK.cost]at *;omega)).weak (by simp only[QK.eats];omega)
  simp only[ft];split
  .refine dg fun h2=>rq fun lo h3=>?_;split
   .exact rq fun _ h5=>dg fun h6=>last _ _ _ (by omega) h6
   .exact dg fun h4=>last _ _ _ (by omega) h4
  .exact k6 (RF _) ha
 | U=>
  simp only[ft];split
  .rename_i h0;have h0:=fe h0;exact uq h0 fun e a2 L2 h2=>dg fun h3=>k6 (by simp only[QK.eats];omega) h3
  .refine dg fun h1=>(h .S _ L h1 (by simp only[aD,QK.cost]at *;omega)).bind fun s a2 L2 h2 h3=>?_;simp only[QK.eats]at h2;split
   .exact AY fun nm h4=>dg fun h5=>uq h5 fun e a6 L6 h6=>dg fun h7=>k6 (by simp only[QK.eats];omega) h7
   .exact dg fun h4=>k6 (by simp only[QK.eats];omega) h4
theorem fp:∀(n:Nat) (k:QK) (a:Nat) (L:Int),a≤ts.length->aD ts k a≤n->GF ts (a+k.eats) (ff ts n k a L)
 | 0,k,a,L,_,h=>by exfalso;unfold aD at h;cases k<;>simp only[QK.cost]at h<;>omega
 | n+1,k,a,L,ha,h=>I8 (fun k a L=>fp n k a L) k a L ha h
end
section
variable {α β : Type} {ts : List Tok} {a : Nat} {L : Int}
def Fit(ts:List Tok)(L:Int)(y:QF α)(x:QR α):Prop:=match y with
 | .out=>True
 | .bad l e=>L≠0\/x=.late\/x=.bad l e
 | .ok v a L2=>Rt L x L2 v (ts.drop a)
theorem dL{y:QF β}{x:QR β}{g:β->Nat->Int->QF α}{f:β->List Tok->QR α}(h:Fit ts L y x)(hf:∀v a L2,Fit ts L2 (g v a L2) (f v (ts.drop a))):Fit ts L (y.bind g) (x.bind f):=by
 cases y with
 | out=>trivial
 | bad l e=>
  rcases h with h|h|h
  .exact .inl h
  .rw[h];exact .inr (.inl rfl)
  .rw[h];exact .inr (.inr rfl)
 | ok v a L2=>
  have h2:=hf v a L2;have h:Rt L x L2 v (ts.drop a):=h;show Fit ts L (g v a L2) (x.bind f);have key:L2≠0->L≠0\/x.bind f=.late:=fun h0=>(h.nz h0).imp id fun e=>by rw[e];rfl
  have key2:L2=0->L=0/\x.bind f=f v (ts.drop a):=fun h0=>⟨(h.z h0).1,by rw[(h.z h0).2];rfl⟩
  cases hg:g v a L2 with
  | out=>trivial
  | bad l e=>
   rw[hg]at h2;by_cases h0:L2=0
   .have h2:=h2.resolve_left (fun hh=>hh h0);rw[<-(key2 h0).2]at h2;exact .inr h2
   .exact(key h0).imp id .inl
  | ok w b L3=>
   rw[hg]at h2;have h2:Rt L2 _ L3 w (ts.drop b):=h2;refine⟨fun h3=>?_,fun h3=>?_⟩
   .obtain⟨h4,h5⟩:=h2.z h3;exact⟨(key2 h4).1,(key2 h4).2.trans h5⟩
   .by_cases h0:L2=0
    .rcases h2.nz h3 with h4|h4
     .exact absurd h0 h4
     .exact .inr ((key2 h0).2.trans h4)
    .exact key h0
theorem iY{v:α}:Fit ts L (.ok v a L) (.ok v (ts.drop a)):=⟨fun h=>⟨h,rfl⟩,fun h=>.inl h⟩
theorem uL(ts:List Tok)(a:Nat):jl (d6 ts) (ts.drop a)=(.bad (b7 ts a).1 (b7 ts a).2:QR α):=by
 unfold b7;by_cases h:a<ts.length
 .rw[Rx h,Ru h];rfl
 .rw[Rv (by omega),Rw (by omega)];rfl
theorem iI(m:ByteArray)(ts:List Tok)(a:Nat):acc m (ts.drop a)=if aH m ts a=true then some (ts.drop (a+1))else none:=by
 by_cases h:a<ts.length
 .unfold aH;rw[Rx h];simp only[acc];split<;>rfl
 .rw[Rv (by omega)];have:aH m ts a=false:=by unfold aH;rw[Rv (by omega)];rfl
  rw[this];rfl
theorem II{n:Int}{r:List Tok}(h:bW (ts.drop a)=some (n,r)):r=ts.drop (a+1):=by
 by_cases hla:a<ts.length
 .rw[Rx hla]at h;simp only[bW]at h;split at h
  .cases h;rfl
  .cases h
 .rw[Rv (by omega)]at h;cases h
theorem F2{n:ByteArray}{r:List Tok}(h:bw (ts.drop a)=some (n,r)):r=ts.drop (a+1):=by
 by_cases hla:a<ts.length
 .rw[Rx hla]at h;simp only[bw]at h;split at h
  .cases h;rfl
  .cases h
 .rw[Rv (by omega)]at h;cases h
theorem cA{m:ByteArray}{g:Nat->QF α}{f:List Tok->QR α}(hf:Fit ts L (g (a+1)) (f (ts.drop (a+1)))):Fit ts L (cw ts m a g) (cu (d6 ts) m (ts.drop a) f):=by
 unfold cw cu;rw[iI];split
 .exact hf
 .simp only;rw[uL];exact .inr (.inr rfl)
theorem nF{g:Int->Nat->QF α}{f:Int->List Tok->QR α}(hf:∀n,Fit ts L (g n (a+1)) (f n (ts.drop (a+1)))):Fit ts L (kK ts a g) (jR (d6 ts) (ts.drop a) f):=by
 unfold kK jR;cases h:bW (ts.drop a)with
 | some p=>obtain⟨n,r⟩:=p;rw[II h];exact hf n
 | none=>simp only;rw[uL];exact .inr (.inr rfl)
theorem wT{g:ByteArray->Nat->QF α}{f:ByteArray->List Tok->QR α}(hf:∀n,Fit ts L (g n (a+1)) (f n (ts.drop (a+1)))):Fit ts L (kM ts a g) (fO (d6 ts) (ts.drop a) f):=by
 unfold kM fO;cases h:bw (ts.drop a)with
 | some p=>obtain⟨n,r⟩:=p;rw[F2 h];exact hf n
 | none=>simp only;rw[uL];exact .inr (.inr rfl)
theorem EA{r:List Tok}(h:r <:+ ts.drop a):r=ts.drop (ts.length-r.length):=by
 have h1:r <:+ ts:=h.trans (RD _ _);exact List.suffix_iff_eq_drop.1 h1
theorem rO{g:Ex->Nat->Int->QF α}{f:Ex->List Tok->QR α}(hf:∀e a2 L2,Fit ts L2 (g e a2 L2) (f e (ts.drop a2))):Fit ts L (hZ ts a L g) (gq (d6 ts) (ts.drop a) f):=by
 unfold hZ gq;have ht:=mO .W (ts.drop a);cases h:par .W (ts.drop a)with
 | out=>trivial
 | bad c r=>
  rw[h]at ht;have hr:=EA (ts:=ts) ht;simp only;unfold Hh;by_cases h6:c=6
  .rw[if_pos h6,if_pos h6];exact .inr (.inr rfl)
  .rw[if_neg h6,if_neg h6];refine .inr (.inr ?_);unfold b7;cases r with
   | nil=>simp[d6]
   | cons t r=>
    have hlt:ts.length-(t::r).length<ts.length:=by
     have:=(ht.trans (RD _ _)).length_le;simp only[RC]at this ⊢;omega
    rw[Rx hlt]at hr;rw[Ru hlt,<-(List.cons.inj hr).1]
 | ok e r=>
  rw[h]at ht;have hr:=EA (ts:=ts) ht.1;simp only;by_cases hv:aZ e=0
  .rw[if_pos hv,if_pos hv];have:=hf e (ts.length-r.length) L;rw[<-hr]at this;exact this
  .rw[if_neg hv,if_neg hv];have h2:=hf cE (kG ts a) (if L=0 then aZ e else L);have hL:(if L=0 then aZ e else L)≠0:=by split<;>assumption
   generalize (if L=0 then aZ e else L)=L2 at *;cases hg:g cE (kG ts a) L2 with
   | out=>trivial
   | bad l e=>exact .inr (.inl rfl)
   | ok w b L3=>
    rw[hg]at h2;have h2:Rt L2 _ L3 w (ts.drop b):=h2;exact⟨fun h3=>absurd (h2.z h3).1 hL,fun _=>.inr rfl⟩
theorem kx{b:Bool}{y1 y2:QF α}{x:QR α}(h1:b=true->Fit ts L y1 x)(h2:b=false->Fit ts L y2 x):Fit ts L (if b=true then y1 else y2) x:=by
 cases b with
 | true=>rw[if_pos rfl];exact h1 rfl
 | false=>rw[if_neg (by decide)];exact h2 rfl
theorem zY{m:ByteArray}{y1 y2:QF α}{f:List Tok->QR α}{x:QR α}(h1:Fit ts L y1 (f (ts.drop (a+1))))(h2:Fit ts L y2 x):Fit ts L (if aH m ts a=true then y1 else y2) (match acc m (ts.drop a)with|some r=>f r|none=>x):=by
 rw[iI];cases aH m ts a with
 | true=>exact h1
 | false=>exact h2
theorem D6{rec:QK->Nat->Int->QF Ts}(h:∀k a L,Fit ts L (rec k a L) (qp (d6 ts) k (ts.drop a)))(k:QK)(a:Nat)(L:Int):Fit ts L (ft ts rec k a L) (qp (d6 ts) k (ts.drop a)):=by
 rw[cm];cases k with
 | S=>exact dL (h _ _ _) fun _ _ _=>h _ _ _
 | A=>exact dL (h _ _ _) fun _ _ _=>h _ _ _
 | D=>exact dL (h _ _ _) fun _ _ _=>h _ _ _
 | R=>exact dL (h _ _ _) fun _ _ _=>h _ _ _
 | Sp l=>exact zY (f:=fun r1=>(qp (d6 ts) .A r1).bind fun s r2=>qp (d6 ts) (.Sp (l++[s])) r2) (dL (h _ _ _) fun _ _ _=>h _ _ _) iY
 | Ap l=>exact zY (f:=fun r1=>(qp (d6 ts) .D r1).bind fun s r2=>qp (d6 ts) (.Ap (l++[s])) r2) (dL (h _ _ _) fun _ _ _=>h _ _ _) iY
 | Dp s=>
  simp only[ft,bg];rw[iI];refine kx (fun h1=>?_) fun h1=>?_
  .rw[if_pos h1];simp only;rw[iI];refine kx (fun h2=>?_) fun h2=>?_
   .rw[if_pos h2];exact nF fun _=>cA (nF fun _=>cA (dL (h _ _ _) fun _ _ _=>h _ _ _))
   .rw[if_neg (by rw[h2];decide)];exact nF fun _=>dL (h _ _ _) fun _ _ _=>h _ _ _
  .rw[if_neg (by rw[h1];decide)];exact iY
 | H=>
  simp only[ft,bg];rw[iI];refine kx (fun h1=>?_) fun h1=>?_
  .rw[if_pos h1];exact cA (rO fun _ _ _=>cA (cA (dL (h _ _ _) fun _ _ _=>iY)))
  .rw[if_neg (by rw[h1];decide)];exact h _ _ _
 | Rp s=>
  simp only[ft,bg];rw[iI];refine kx (fun h1=>?_) fun h1=>?_
  .rw[if_pos h1];refine cA (nF fun _=>?_);rw[iI];refine kx (fun h2=>?_) fun h2=>?_
   .rw[if_pos h2];exact nF fun _=>cA (h _ _ _)
   .rw[if_neg (by rw[h2];decide)];exact cA (h _ _ _)
  .rw[if_neg (by rw[h1];decide)];exact iY
 | U=>
  simp only[ft,bg];rw[iI];refine kx (fun h1=>?_) fun h1=>?_
  .rw[if_pos h1];exact rO fun _ _ _=>cA iY
  .rw[if_neg (by rw[h1];decide)];refine cA (dL (h _ _ _) fun _ _ _=>?_);rw[iI];refine kx (fun h2=>?_) fun h2=>?_
   .rw[if_pos h2];exact wT fun _=>cA (rO fun _ _ _=>cA iY)
   .rw[if_neg (by rw[h2];decide)];exact cA iY
theorem nZ:∀(n:Nat) (k:QK) (a:Nat) (L:Int),Fit ts L (ff ts n k a L) (qp (d6 ts) k (ts.drop a))
 | 0,_,_,_=>trivial
 | n+1,k,a,L=>D6 (nZ n) k a L
end
def kw(ts:List Tok)(n:Nat)(a:Nat)(L:Int):QF Pr:=cw ts qb a fun a1=>kM ts a1 fun nm a2=>cw ts (aa 58) a2 fun a3=>
 if aH ja ts a3=true then(ff ts n .S (a3+1) L).bind fun t a5 L5=>cw ts (aa 59) a5 fun a6=>.ok ⟨nm,true,false,zT,t⟩ a6 L5
 else(ff ts n .S a3 L).bind fun c a4 L4=>cw ts (aa 124) a4 fun a5=>
  if aH (aF 45 62) ts a5=true then(ff ts n .S (a5+1) L4).bind fun t a7 L7=>cw ts (aa 59) a7 fun a8=>.ok ⟨nm,false,true,c,t⟩ a8 L7
  else cw ts (aF 61 62) a5 fun a6=>(ff ts n .S a6 L4).bind fun t a7 L7=>cw ts (aa 59) a7 fun a8=>.ok ⟨nm,false,false,c,t⟩ a8 L7
theorem AB{ts:List Tok}{n a:Nat}{L:Int}(ha:a≤ts.length)(hn:40*ts.length+12≤n):GF ts (a+1) (kw ts n a L):=by
 have hS:∀b L,b≤ts.length->GF ts (b+1) (ff ts n .S b L):=fun b L hb=>fp n .S b L hb (by simp only[aD,QK.cost];omega);refine dg fun h1=>AY fun _ h2=>dg fun h3=>?_;split
 .rename_i h4;have h4:=fe h4;exact(hS _ L h4).bind fun t a5 L5 h5 h6=>dg fun h7=>k6 (by omega) h7
 .refine(hS _ L h3).bind fun c a4 L4 h4 h5=>dg fun h6=>?_;split
  .rename_i h7;have h7:=fe h7;exact(hS _ L4 h7).bind fun t a7 L7 h8 h9=>dg fun h10=>k6 (by omega) h10
  .exact dg fun h7=>(hS _ L4 h7).bind fun t a7 L7 h8 h9=>dg fun h10=>k6 (by omega) h10
theorem Eg(ts:List Tok)(n a:Nat)(L:Int):Fit ts L (kw ts n a L) (kB (d6 ts) (ts.drop a)):=by
 unfold kw kB;refine cA (wT fun _=>cA ?_);rw[iI];refine kx (fun h1=>?_) fun h1=>?_
 .rw[if_pos h1];exact dL (nZ _ _ _ _) fun _ _ _=>cA iY
 .rw[if_neg (by rw[h1];decide)];refine dL (nZ _ _ _ _) fun _ _ _=>cA ?_;rw[iI];refine kx (fun h2=>?_) fun h2=>?_
  .rw[if_pos h2];exact dL (nZ _ _ _ _) fun _ _ _=>cA iY
  .rw[if_neg (by rw[h2];decide)];exact cA (dL (nZ _ _ _ _) fun _ _ _=>cA iY)
end Go.Proofs.YthekkgfmagliiaaGreatDoor
namespace Go.Proofs.YthekkgfmagliiaaGreatDoor
open Go.RowKit
open Nat renaming reduceLeDiff -> jA, reduceBEq -> jB, reduceLT -> jC, reduceEqDiff -> jD, reduceAdd -> jE, reduceSub -> jF, reduceMul -> jG
open V renaming copy -> jV, lend -> jW, lend1 -> jX, cells -> jY, boxable -> jZ
def pq(ts:List Tok)(a:Nat)(L:Int):List V:=[.d (.sl (ts.map dF)),.d (ab a),.d (ab L)]
def ij(l e:Int):V:=.iface 75 (.agg [.d (ab l),.d (ab e)])
structure TsV(ts:List Tok):Prop where
 ok:TsOK ts
 v:∀t,t∈ts->bl t=true
def i6(ts:List Tok)(a:Nat):V:=ij (b7 ts a).1 (b7 ts a).2
theorem EW{ts:List Tok}(h:ts.length-1<ts.length):d6 ts=ts[ts.length-1].line:=by
 unfold d6;rw[List.getLast?_eq_getElem?,Ru h]
theorem n9(ts:List Tok)(a i:Nat)(L:Int)(H:TsV ts)(σ:LLV)(hi:σ[i]? = some (pq ts a L)):Fun G 82 [.ptr i 0] σ (aA (.d (ab (d6 ts))) σ):=by
 refine ai Tryz.func82 k82 rfl fun hb hw=>?_;unfold c82;have hl:=H.ok.len;unfold pq at hi;by_cases h0:ts.length=0
 .have:ts=[]:=List.eq_nil_of_length_eq_zero h0;subst this;have dz:decide (((0:Nat):Int)=0)=true:=rfl;rw[show d6 []=1 from rfl];simp only[List.map_nil]at hi;simp -dsimp only[aw,jV,jW,jX,jY,jZ,jA,reduceIte,reduceCtorEq,jB,jC,jD,jE,jF,jG,hi,dz];first|exact au hb rfl rfl|exact av hb rfl rfl
 .have d0:decide (((ts.length:Nat):Int)=0)=false:=by rw[decide_eq_false_iff_not];omega
  have hlt:ts.length-1<ts.length:=by omega
  have hw1:IntKind.i64.wrap (((ts.length:Nat):Int)-1)=((ts.length-1:Nat):Int):=by rw[aJ (by omega) (by omega)];omega
  rw[EW hlt];simp -dsimp only[aw,jV,jW,jX,jY,jZ,jA,reduceIte,reduceCtorEq,jB,jC,jD,jE,jF,jG,hi,d0,hw1,Ru hlt,bv,dF];first|exact au hb rfl rfl|exact av hb rfl rfl
theorem ov(ts:List Tok)(a i:Nat)(L:Int)(H:TsV ts)(ha:a≤2000000)(σ:LLV)(hi:σ[i]? = some (pq ts a L)):
 Fun G 45 [.ptr i 0] σ fun o σ'=>o=.panic (i6 ts a)/\σ'=σ:=by
 refine ai Tryz.func45 k45 rfl fun hb hw=>?_;unfold c45;have hL:=fun l=>n9 ts a i L H (σ++l) (ar hi l);have hl0:=n9 ts a i L H σ hi;unfold pq at hi;unfold i6 b7 ij;by_cases hlt:a<ts.length
 .have d1:decide (((ts.length:Nat):Int)≤((a:Nat):Int))=false:=by rw[decide_eq_false_iff_not];omega
  rw[Ru hlt];simp -dsimp only[aw,jV,jW,jX,jY,jZ,jA,reduceIte,reduceCtorEq,jB,jC,jD,jE,jF,jG,hi,d1,Ru hlt,bv,dF];intro ρ2;exact⟨σ.length,RF _,by rw[Rz];exact hb,rfl,rfl,Rz⟩
 .have d1:decide (((ts.length:Nat):Int)≤((a:Nat):Int))=true:=by rw[decide_eq_true_eq];omega
  rw[Rw (by omega)];simp -dsimp only[aw,jV,jW,jX,jY,jZ,jA,reduceIte,reduceCtorEq,jB,jC,jD,jE,jF,jG,hi,d1];refine ac hl0 ?_;simp -dsimp only[aw,jV,jW,jX,jY,jZ,jA,reduceIte,reduceCtorEq,jB,jC,jD,jE,jF,jG];exact⟨σ.length,RF _,by rw[Rz];exact hb,rfl,rfl,Rz⟩
theorem KR{ts:List Tok}(H:TsV ts){m:ByteArray}{a:Nat}(h:a<ts.length):aH m ts a=((decide (ts[a].kind=2)||decide (ts[a].kind=4))&&decide (ts[a].text=m)):=by
 rw[AR h,H.v _ (List.getElem_mem h),Bool.true_and,Bool.or_comm]
theorem CL(m:ByteArray)(ts:List Tok)(a i:Nat)(L:Int)(H:TsV ts)(ha:a≤2000000)(σ:LLV)(hi:σ[i]? = some (pq ts a L)):
 Fun G 83 [.ptr i 0,.d (ab 0),.d (ae m)] σ (aA (aq (aH m ts a)) σ):=by
 refine ai Tryz.func83 k83 rfl fun hb hw=>?_;unfold c83;unfold pq at hi;have hw0:IntKind.i64.wrap (((a:Nat):Int)+0)=((a:Nat):Int):=by rw[aJ (by omega) (by omega)];omega
 by_cases hlt:a<ts.length
 .have d1:decide (((a:Nat):Int)<((ts.length:Nat):Int))=true:=by rw[decide_eq_true_eq];omega
  rw[KR H hlt];simp -dsimp only[aw,jV,jW,jX,jY,jZ,jA,reduceIte,reduceCtorEq,jB,jC,jD,jE,jF,jG,hi,hw0,d1,Ru hlt,bv,dF];by_cases h2:ts[a].kind=2
  .simp -dsimp only[aw,jV,jW,jX,jY,jZ,jA,reduceIte,reduceCtorEq,jB,jC,jD,jE,jF,jG,hi,decide_eq_true h2,Ru hlt,bv,dF];first|exact au hb rfl rfl|exact av hb rfl rfl
  .by_cases h4:ts[a].kind=4
   .simp -dsimp only[aw,jV,jW,jX,jY,jZ,jA,reduceIte,reduceCtorEq,jB,jC,jD,jE,jF,jG,hi,decide_eq_false h2,decide_eq_true h4,Ru hlt,bv,dF];first|exact au hb rfl rfl|exact av hb rfl rfl
   .simp -dsimp only[aw,jV,jW,jX,jY,jZ,jA,reduceIte,reduceCtorEq,jB,jC,jD,jE,jF,jG,hi,decide_eq_false h2,decide_eq_false h4,Ru hlt,bv,dF];first|exact au hb rfl rfl|exact av hb rfl rfl
 .have d1:decide (((a:Nat):Int)<((ts.length:Nat):Int))=false:=by rw[decide_eq_false_iff_not];omega
  rw[fD hlt];simp -dsimp only[aw,jV,jW,jX,jY,jZ,jA,reduceIte,reduceCtorEq,jB,jC,jD,jE,jF,jG,hi,hw0,d1];first|exact au hb rfl rfl|exact av hb rfl rfl
theorem GE{σ:LLV}{i:Nat}{ts:List Tok}{a:Nat}{L:Int}(hi:σ[i]? = some (pq ts a L)):σ.set i (pq ts a L)=σ:=by
 have hlt:=(List.getElem?_eq_some_iff.1 hi).1;rw[<-(List.getElem?_eq_some_iff.1 hi).2];exact List.set_getElem_self hlt
theorem sP(m:ByteArray)(ts:List Tok)(a i:Nat)(L:Int)(H:TsV ts)(ha:a≤2000000)(σ:LLV)(hi:σ[i]? = some (pq ts a L)):
 Fun G 48 [.ptr i 0,.d (ae m)] σ fun o σ'=>o=.ret (aq (aH m ts a))/\σ'=if aH m ts a=true then σ.set i (pq ts (a+1) L)else σ:=by
 refine ai Tryz.func48 k48 rfl fun hb hw=>?_;unfold c48;have hS:=CL m ts a i L H ha σ hi;simp -dsimp only[aw,jV,jW,jX,jY,jZ,jA,reduceIte,reduceCtorEq,jB,jC,jD,jE,jF,jG];refine ac hS ?_;cases hs:aH m ts a with
 | false=>
  simp -dsimp only[aw,jV,jW,jX,jY,jZ,jA,reduceIte,reduceCtorEq,jB,jC,jD,jE,jF,jG,Bool.false_eq_true,if_false];exact al hb rfl rfl Rz ⟨rfl,rfl⟩
 | true=>
  unfold pq at hi;simp -dsimp only[aw,jV,jW,jX,jY,jZ,jA,reduceIte,reduceCtorEq,jB,jC,jD,jE,jF,jG,hi,aJ (show -9223372036854775808≤((a:Nat):Int)+1 by omega) (show((a:Nat):Int)+1≤9223372036854775807 by omega),if_true];exact bH (τ:=σ.set i (pq ts (a+1) L)) (ca hb rfl) rfl rfl (by rw[RB (by rw[Ry];exact RF _)];rfl) ⟨rfl,rfl⟩
theorem lM(σ:LLV)(i:Nat)(X Y:List V)(l:LLV):(σ.set i X++Y::l)[σ.length]? = some Y:=by
 rw[List.getElem?_append_right (by rw[Ry];exact RF _),Ry,RG];rfl
theorem pT(σ:LLV)(i:Nat)(X Y Z:List V)(l:LLV):(σ.set i X++Y::l).set σ.length Z=σ.set i X++Z::l:=by
 rw[List.set_append_right _ _ (by rw[Ry];exact RF _),Ry,RG];rfl
def GA(ts:List Tok)(a i:Nat)(L k:Int)(σ:LLV):Out->LLV->Prop:=fun o σ'=>
 (∃t,ts[a]? = some t/\t.kind=k/\o=.ret (eN t)/\σ'=σ.set i (pq ts (a+1) L))\/((∀t,ts[a]? = some t->t.kind≠k)/\o=.panic (i6 ts a)/\σ'=σ)
theorem nQ(ts:List Tok)(a i:Nat)(L k:Int)(H:TsV ts)(ha:a≤2000000)(σ:LLV)(hi:σ[i]? = some (pq ts a L)):
 Fun G 47 [.ptr i 0,.d (ab k)] σ (GA ts a i L k σ):=by
 refine ai Tryz.func47 k47 rfl fun hb hw=>?_;unfold c47;have hF:=fun l=>ov ts a i L H ha (σ++l) (ar hi l);have hil:=(List.getElem?_eq_some_iff.1 hi).1;have hio:=fun l=>ar hi l;have hso:=fun X l=>aI hi X l;unfold pq at hi hio
 have panic:∀(x:V) (l:LLV),(∀t,ts[a]? = some t->t.kind≠k)->∀(rs:List RV) (ρ:ah),fin σ.length rs (GA ts a i L k σ) (.panic (i6 ts a)) ρ (σ++l):=fun x l hk rs ρ=>
  ⟨σ.length,RF _,by rw[RE];exact hb,rfl,.inr ⟨hk,rfl,RE⟩⟩
 by_cases hlt:a<ts.length
 .have d1:decide (((ts.length:Nat):Int)≤((a:Nat):Int))=false:=by rw[decide_eq_false_iff_not];omega
  by_cases hk:ts[a].kind=k
  .have hw1:IntKind.i64.wrap (((a:Nat):Int)+1)=((a+1:Nat):Int):=by rw[aJ (by omega) (by omega)];omega
   have hw2:IntKind.i64.wrap (((a+1:Nat):Int)-1)=((a:Nat):Int):=by rw[aJ (by omega) (by omega)];omega
   have hs1:=fun l=>ar (RA (a:=pq ts (a+1) L) hil) l;unfold pq at hs1;simp -dsimp only[aw,jV,jW,jX,jY,jZ,jA,reduceIte,reduceCtorEq,jB,jC,jD,jE,jF,jG,hio,d1,Ru hlt,bv,dF,hk,hw1,hw2,decide_true,hso,hs1,lM,pT];refine bH (σ:=σ) (Q:=GA ts a i L k σ) (τ:=σ.set i (pq ts (a+1) L)) (v:=eN ts[a]) (ca hb rfl) ?_ rfl ?_ (.inl ⟨ts[a],Ru hlt,hk,rfl,rfl⟩)
   .simp[Mr,aU,bq,eN,hk,aw,jV,jW,jX,jY,jZ,jA,reduceIte,reduceCtorEq,jB,jC,jD,jE,jF,jG]
   .simp[pq]
  .simp -dsimp only[aw,jV,jW,jX,jY,jZ,jA,reduceIte,reduceCtorEq,jB,jC,jD,jE,jF,jG,hio,d1,Ru hlt,bv,dF,decide_eq_false hk];refine aR (hF _) fun o σ' ⟨e1,e2⟩=>?_;subst e1;subst e2;simp -dsimp only[aw,jV,jW,jX,jY,jZ,jA,reduceIte,reduceCtorEq,jB,jC,jD,jE,jF,jG,bz];exact panic .nil _ (fun t ht=>by rw[Ru hlt]at ht;cases ht;exact hk) _ _
 .have d1:decide (((ts.length:Nat):Int)≤((a:Nat):Int))=true:=by rw[decide_eq_true_eq];omega
  simp -dsimp only[aw,jV,jW,jX,jY,jZ,jA,reduceIte,reduceCtorEq,jB,jC,jD,jE,jF,jG,hio,d1];refine aR (hF _) fun o σ' ⟨e1,e2⟩=>?_;subst e1;subst e2;simp -dsimp only[aw,jV,jW,jX,jY,jZ,jA,reduceIte,reduceCtorEq,jB,jC,jD,jE,jF,jG,bz];exact panic .nil _ (fun t ht=>by rw[Rw (by omega)]at ht;cases ht) _ _
theorem rG{σ σ' τ:LLV}{ρ:ah}{rs:List RV}{Q:Out->LLV->Prop}(hb:aj σ.length τ=true){v:V}(h:aU σ' ρ rs=some v)(hv:V.under σ.length v=true)(hσ:σ'.take σ.length=τ)(hq:Q (.ret v) τ):fin σ.length rs Q .normal ρ σ':=
 ⟨ρ,σ',.refl _ _ _,v,h,σ.length,RF _,by rw[hσ];exact hb,hv,by rw[hσ];exact hq⟩
def fB(ts:List Tok):Nat->List ByteArray->Bool
 | _,[]=>true
 | a,m::ms=>aH m ts a&&fB ts (a+1) ms
theorem mX(ts:List Tok):∀(ms:List ByteArray) (a:Nat) (m:ByteArray),fB ts a (ms++[m])=(fB ts a ms&&aH m ts (a+ms.length))
 | [],a,m=>by simp[fB]
 | x::ms,a,m=>by simp only[List.cons_append,fB,mX ts ms,RC,Bool.and_assoc];rw[show a+1+ms.length=a+(ms.length+1)by omega]
def NM(ts:List Tok)(a i:Nat)(L:Int)(ms:List ByteArray)(σ:LLV):Out->LLV->Prop:=fun o σ'=>
 (fB ts a ms=true/\o=.ret (.tup [])/\σ'=σ.set i (pq ts (a+ms.length) L))\/
 (∃(j:Nat) (h:j<ms.length),fB ts a (ms.take j)=true/\aH ms[j] ts (a+j)=false/\o=.panic (i6 ts (a+j))/\σ'=σ.set i (pq ts (a+j) L))
theorem sQ(ms:List ByteArray)(ts:List Tok)(a i:Nat)(L:Int)(H:TsV ts)(ha:a≤1500000)(hms:ms.length≤100)(σ:LLV)(hi:σ[i]? = some (pq ts a L)):
 Fun G 46 [.ptr i 0,.d (.sl (ms.map fun m=>[ae m]))] σ (NM ts a i L ms σ):=by
 refine ai Tryz.func46 k46 rfl fun hb hw=>?_;unfold c46;have hil:=(List.getElem?_eq_some_iff.1 hi).1;simp -dsimp only[aw,jV,jW,jX,jY,jZ,jA,reduceIte,reduceCtorEq,jB,jC,jD,jE,jF,jG];refine bj [0,6,7,8] (R:=fun(j:Nat) ρ σ'=>ρ=[(0,.ptr i 0),(6,.d (.sl (ms.map fun m=>[ae m]))),(7,aL .i64 ms.length),(8,aL .i64 j)]/\σ'=σ.set i (pq ts (a+j) L)/\fB ts a (ms.take j)=true) ms.length ⟨rfl,(GE hi).symm,by simp[fB]⟩ ?_ _;rintro j ρ' σ' hj ⟨rfl,rfl,hr⟩;have hbs2:∀b,aj σ.length (σ.set i (pq ts b L))=true:=fun b=>ca hb rfl;have hbs:∀b,aj (σ.set i (pq ts b L)).length (σ.set i (pq ts b L))=true:=fun b=>by rw[Ry];exact hbs2 b
 have htl:∀X:List V,(σ.set i X).take σ.length=σ.set i X:=fun X=>RB (by rw[Ry];exact RF _);by_cases hlt:j<ms.length
 .have hT:=sP ms[j] ts (a+j) i L H (by omega) (σ.set i (pq ts (a+j) L)) (RA hil);have hF:=ov ts (a+j) i L H (by omega) (σ.set i (pq ts (a+j) L)) (RA hil);simp -dsimp only[aw,jV,jW,jX,jY,jZ,jA,reduceIte,reduceCtorEq,jB,jC,jD,jE,jF,jG,Int.ofNat_lt,hlt,decide_true,Ru hlt];refine aR hT fun o σ' ⟨e1,e2⟩=>?_;subst e1;cases hs:aH ms[j] ts (a+j)with
  | true=>
   rw[hs,if_pos rfl,List.set_set]at e2;subst e2;simp -dsimp only[aw,jV,jW,jX,jY,jZ,jA,reduceIte,reduceCtorEq,jB,jC,jD,jE,jF,jG,bc,ba hlt (show ms.length≤9223372036854775807 by omega)];refine⟨hlt,Nxt.same (by rw[Ry];exact RF _) (hbs _) ?_ ⟨rfl,rfl,?_⟩⟩
   .simp[ao,V.under];exact hil
   .rw[List.take_succ_eq_append_getElem hlt,mX,hr,Bool.true_and,List.length_take,Nat.min_eq_left (by omega)];exact hs
  | false=>
   rw[hs,if_neg (by decide)]at e2;subst e2;simp -dsimp only[aw,jV,jW,jX,jY,jZ,jA,reduceIte,reduceCtorEq,jB,jC,jD,jE,jF,jG,bc];refine aR hF fun o σ' ⟨e1,e2⟩=>?_;subst e1;subst e2;simp -dsimp only[aw,jV,jW,jX,jY,jZ,jA,reduceIte,reduceCtorEq,jB,jC,jD,jE,jF,jG,bz];exact⟨σ.length,RF _,by rw[htl];exact hbs2 _,rfl,.inr ⟨j,hlt,hr,hs,rfl,htl _⟩⟩
 .simp -dsimp only[aw,jV,jW,jX,jY,jZ,jA,reduceIte,reduceCtorEq,jB,jC,jD,jE,jF,jG,Int.ofNat_lt,hlt,decide_false];have hjm:j=ms.length:=by omega
  subst hjm;rw[Rz]at hr;exact rG (τ:=σ.set i (pq ts (a+ms.length) L)) (hbs2 _) rfl rfl (htl _) (.inl ⟨hr,rfl,rfl⟩)
end Go.Proofs.YthekkgfmagliiaaGreatDoor
