import Derived.Test.YtnhphlmblenapaaGreatDoorClo
set_option linter.unusedVariables false
set_option linter.unusedSimpArgs false
set_option linter.unusedSectionVars false
set_option maxRecDepth 100000
open List renaming suffix_refl->TJ,length_singleton->TK,length_nil->TL,length->TM,length_append->TN,cons_append->TO
open Nat renaming le_refl->TP,le_of_lt->TQ,zero_le->TR,zero_add->TS,le_total->TT
namespace Go.Proofs.YtnhphlmblenapaaGreatDoor
open Go.RowKit
structure SameTok(f:Tok->Tok):Prop where
 kind:∀t,(f t).kind=t.kind
 num:∀t,(f t).num=t.num
 text:∀t,(f t).text=t.text
section
variable {f : Tok -> Tok} (hf : SameTok f)
include hf
omit hf in
end
def PK.size:PK->Nat
 | .Lp _ a=>bD a
 | .In a=>bD a
 | .Ip l=>bI l
 | _=>0
theorem rN(a b:List Ex):bI (a++b)=bI a+bI b:=by
 induction a with
 | nil=>simp[bI]
 | cons x a ih=>simp only[TO,bI,ih];omega
def Sz(k:Nat)(r:List Tok)(x:PR):Prop:=match x with
 | .ok e r1=>r1.length≤r.length/\bD e≤k+(r.length-r1.length)
 | _=>True
theorem d8{k k2:Nat}{r:List Tok}{x:PR}{f:Ex->List Tok->PR}(h:Sz k r x)(hf:∀e r1,x=.ok e r1->r1.length≤r.length->bD e≤k+(r.length-r1.length)->Sz k2 r (f e r1)):Sz k2 r (x.bind f):=by
 cases x with
 | out=>trivial
 | bad c r=>trivial
 | ok e r1=>exact hf e r1 rfl h.1 h.2
theorem fR{k:Nat}{r r1:List Tok}:Sz k r (eO r1):=by cases r1<;>trivial
theorem Sz.up{k k2:Nat}{r r2:List Tok}{x:PR}(h:Sz k r2 x)(h1:r2.length≤r.length)(h2:k≤k2+(r.length-r2.length)):Sz k2 r x:=by
 cases x with
 | out=>trivial
 | bad c r=>trivial
 | ok e r1=>exact⟨Nat.le_trans h.1 h1,by have:=h.1;have:=h.2;omega⟩
theorem GP{rec:PK->List Tok->PR}(h:∀k r,Sz k.size r (rec k r))(r:List Tok):Sz 0 r (ic rec r):=by
 unfold ic;cases h1:acc (aa 40) r with
 | some r1=>
  have a1:=(aD h1).2;refine d8 (k:=0) ((h .W r1).up (by omega) (TR _)) fun e r2 _ l2 s2=>?_;cases h2:acc (aa 41) r2 with
  | some r3=>have:=(aD h2).2;exact⟨by omega,by omega⟩
  | none=>exact fR
 | none=>
 cases h2:cB r with
 | some p=>
  obtain⟨n,r1⟩:=p;have:=(jj h2).2;simp only;split
  .trivial
  .exact⟨by omega,by simp only[bD,bI];omega⟩
 | none=>
 cases h3:bW r with
 | none=>exact fR
 | some p=>
 obtain⟨s,r1⟩:=p;have n1:=(fq h3).2;simp only;cases h4:(if s=me then acc (aa 40) r1 else none)with
 | some r2=>
  have a1:r2.length<r1.length:=by
   split at h4
   .exact(aD h4).2
   .cases h4
  simp only;cases h5:bW r2 with
  | none=>exact fR
  | some p=>
   obtain⟨a,r3⟩:=p;have n2:=(fq h5).2;simp only;cases h6:acc (aa 41) r3 with
   | some r4=>have:=(aD h6).2;exact⟨by omega,by simp only[bD,bI];omega⟩
   | none=>exact fR
 | none=>
 simp only;cases h5:(if s=gS then acc (aa 40) r1 else none)with
 | some r2=>
  have a1:r2.length<r1.length:=by
   split at h5
   .exact(aD h5).2
   .cases h5
  refine d8 (k:=0) ((h .W r2).up (by omega) (TR _)) fun e r3 e3 l3 s3=>?_;have hh:=h .W r2;rw[e3]at hh;have:=hh.2;have:=hh.1;cases h6:acc (aa 41) r3 with
  | some r4=>have:=(aD h6).2;exact⟨by omega,by simp only[aK,bD,bI,PK.size]at *;omega⟩
  | none=>exact fR
 | none=>
 simp only;cases h6:acc (aa 91) r1 with
 | some r2=>
  have a1:=(aD h6).2;refine d8 (k:=0) ((h .W r2).up (by omega) (TR _)) fun e r3 e3 l3 s3=>?_;have hh:=h .W r2;rw[e3]at hh;have:=hh.2;have:=hh.1;cases h7:acc (aa 93) r3 with
  | some r4=>have:=(aD h7).2;exact⟨by omega,by simp only[bD,bI,PK.size]at *;omega⟩
  | none=>exact fR
 | none=>
 simp only;cases h7:acc (aa 64) r1 with
 | some r2=>
  have a1:=(aD h7).2;simp only;cases h8:cB r2 with
  | none=>exact fR
  | some p=>
   obtain⟨n,r3⟩:=p;have:=(jj h8).2;simp only;split
   .trivial
   .exact⟨by omega,by simp only[bD,bI];omega⟩
 | none=>exact⟨by omega,by simp only[bD,bI];omega⟩
theorem GS{rec:PK->List Tok->PR}(h:∀k r,Sz k.size r (rec k r))(k:PK)(r:List Tok):Sz k.size r (bj rec k r):=by
 cases k with
 | W=>
  simp only[bj];refine d8 (h .I r) fun c r1 _ l1 s1=>?_;simp only[PK.size]at *;cases h1:acc (aa 63) r1 with
  | none=>exact⟨l1,s1⟩
  | some r2=>
   have a1:=(aD h1).2;refine d8 (k:=0) ((h .W r2).up (by omega) (by simp only[PK.size];omega)) fun a r3 e3 l3 s3=>?_;have hh:=h .W r2;rw[e3]at hh;obtain⟨b1,b2⟩:=hh;simp only[PK.size]at b2;cases h2:acc (aa 58) r3 with
   | none=>exact fR
   | some r4=>
    have a2:=(aD h2).2;refine d8 (k:=0) ((h .W r4).up (by omega) (by simp only[PK.size];omega)) fun b r5 e5 l5 s5=>?_;have hh:=h .W r4;rw[e5]at hh;obtain⟨d1,d2⟩:=hh;simp only[PK.size]at d2;exact⟨by omega,by simp only[aK,bD,bI];omega⟩
 | I=>
  simp only[bj];refine d8 (h (.L 3) r) fun c r1 _ l1 s1=>?_;simp only[PK.size]at *;cases h1:acc (ba 61 62) r1 with
  | none=>exact⟨l1,s1⟩
  | some r2=>
   have a1:=(aD h1).2;refine d8 (k:=0) ((h .I r2).up (by omega) (by simp only[PK.size];omega)) fun a r3 e3 l3 s3=>?_;have hh:=h .I r2;rw[e3]at hh;obtain⟨b1,b2⟩:=hh;simp only[PK.size]at b2;exact⟨by omega,by simp only[aK,bD,bI];omega⟩
 | L k=>
  simp only[bj];split
  .exact h .U r
  .refine d8 (h (.L (k+1)) r) fun c r1 _ l1 s1=>?_;exact(h (.Lp k c) r1).up l1 (by simp only[PK.size]at *;omega)
 | Lp k a=>
  simp only[bj];cases h1:(if k=9 then acc ct r else none)with
  | some r1=>
   have a1:r1.length<r.length:=by
    split at h1
    .exact(aD h1).2
    .cases h1
   refine d8 (k:=bD a) ((h (.In a) r1).up (by omega) (by simp only[PK.size];omega)) fun c r2 _ l2 s2=>?_;exact(h (.Lp k c) r2).up l2 (by simp only[PK.size]at *;omega)
  | none=>
   simp only;cases h2:dM k r with
   | none=>exact⟨TP _,by simp only[PK.size];omega⟩
   | some p=>
    obtain⟨o,ex,r1⟩:=p;have a1:=(lO h2).2;refine d8 (k:=0) ((h (.L (k+1)) r1).up (by omega) (by simp only[PK.size];omega)) fun c r2 e2 l2 s2=>?_;have hh:=h (.L (k+1)) r1;rw[e2]at hh;obtain⟨b1,b2⟩:=hh;simp only[PK.size]at b2;refine(h (.Lp k _) r2).up l2 ?_;simp only[PK.size];split<;>(simp only[aK,bD,bI];omega)
 | In a=>
  simp only[bj];cases h1:acc (aa 123) r with
  | none=>exact fR
  | some r1=>
   have a1:=(aD h1).2;exact(h (.Ip [a]) r1).up (by omega) (by simp only[PK.size,bI];omega)
 | Ip args=>
  simp only[bj];refine d8 (k:=0) ((h .W r).up (TP _) (by simp only[PK.size];omega)) fun lo r1 _ l1 s1=>?_;cases h1:acc (ba 46 46) r1 with
  | none=>exact fR
  | some r2=>
   have a1:=(aD h1).2;refine d8 (k:=0) ((h .W r2).up (by omega) (by simp only[PK.size];omega)) fun hi r3 e3 l3 s3=>?_;have hh:=h .W r2;rw[e3]at hh;obtain⟨b1,b2⟩:=hh;simp only[PK.size]at b2;cases h2:acc (aa 44) r3 with
   | some r4=>
    have a2:=(aD h2).2;exact(h (.Ip _) r4).up (by omega) (by simp only[PK.size,rN,bI];omega)
   | none=>
    simp only;cases h3:acc (aa 125) r3 with
    | none=>exact fR
    | some r5=>
     have a3:=(aD h3).2;exact⟨by omega,by simp only[PK.size,aK,bD,rN,bI];omega⟩
 | U=>
  have one:∀{m r1} (o:Int),acc m r=some r1->Sz 0 r ((rec .U r1).bind fun a r2=>.ok (aK o [a]) r2):=fun{m r1} o h1=>by
   have a1:=(aD h1).2;refine d8 (k:=0) ((h .U r1).up (by omega) (by simp only[PK.size];omega)) fun a r3 e3 l3 s3=>?_;have hh:=h .U r1;rw[e3]at hh;obtain⟨b1,b2⟩:=hh;simp only[PK.size]at b2;exact⟨by omega,by simp only[aK,bD,bI];omega⟩
  simp only[bj];cases h1:acc (aa 33) r with
  | some r1=>exact one 4 h1
  | none=>
  cases h2:acc (aa 126) r with
  | some r1=>exact one 5 h2
  | none=>
  cases h3:acc (aa 45) r with
  | some r1=>exact one 6 h3
  | none=>exact h .P r
 | P=>exact GP h r
theorem uq:∀(n:Nat) (k:PK) (r:List Tok),Sz k.size r (fY n k r)
 | 0,_,_=>trivial
 | n+1,k,r=>GS (uq n) k r
theorem wK{r:List Tok}{e:Ex}{r1:List Tok}(h:par .W r=.ok e r1):bD e≤r.length:=by
 have:=uq (40*r.length+20) .W r;unfold par at h;rw[h]at this;have h2:=this.2;simp only[PK.size]at h2;omega
def NB(x:PR):Prop:=match x with
 | .bad c r=>(c=6/\r=[])\/((c=3\/c=5)/\r≠[])
 | _=>True
theorem dv{x:PR}{f:Ex->List Tok->PR}(h:NB x)(hf:∀e r,NB (f e r)):NB (x.bind f):=by
 cases x with
 | out=>trivial
 | bad c r=>exact h
 | ok e r=>exact hf e r
theorem fL{r:List Tok}:NB (eO r):=by
 cases r with
 | nil=>exact .inl ⟨rfl,rfl⟩
 | cons t r=>exact .inr ⟨.inr rfl,by simp⟩
theorem FU{r r1:List Tok}{n:Int}(h:cB r=some (n,r1)):NB (.bad 3 r):=by
 obtain⟨t,rfl,-⟩:=sD h;exact .inr ⟨.inl rfl,by simp⟩
theorem Im{rec:PK->List Tok->PR}(h:∀k r,NB (rec k r))(k:PK)(r:List Tok):NB (bj rec k r):=by
 cases k with
 | W=>
  simp only[bj];refine dv (h _ _) fun c r1=>?_;cases acc (aa 63) r1 with
  | none=>trivial
  | some r2=>
   refine dv (h _ _) fun a r3=>?_;cases acc (aa 58) r3 with
   | none=>exact fL
   | some r4=>exact dv (h _ _) fun b r5=>trivial
 | I=>
  simp only[bj];refine dv (h _ _) fun c r1=>?_;cases acc (ba 61 62) r1 with
  | none=>trivial
  | some r2=>exact dv (h _ _) fun b r5=>trivial
 | L k=>
  simp only[bj];split
  .exact h _ _
  .exact dv (h _ _) fun _ _=>h _ _
 | Lp k a=>
  simp only[bj];cases (if k=9 then acc ct r else none)with
  | some r1=>exact dv (h _ _) fun _ _=>h _ _
  | none=>
   simp only;cases dM k r with
   | none=>trivial
   | some p=>exact dv (h _ _) fun _ _=>h _ _
 | In a=>
  simp only[bj];cases acc (aa 123) r with
  | none=>exact fL
  | some r1=>exact h _ _
 | Ip args=>
  simp only[bj];refine dv (h _ _) fun lo r1=>?_;cases acc (ba 46 46) r1 with
  | none=>exact fL
  | some r2=>
   refine dv (h _ _) fun hi r3=>?_;cases acc (aa 44) r3 with
   | some r4=>exact h _ _
   | none=>
    simp only;cases acc (aa 125) r3 with
    | some r5=>trivial
    | none=>exact fL
 | U=>
  simp only[bj];cases acc (aa 33) r with
  | some r1=>exact dv (h _ _) fun _ _=>trivial
  | none=>
  cases acc (aa 126) r with
  | some r1=>exact dv (h _ _) fun _ _=>trivial
  | none=>
  cases acc (aa 45) r with
  | some r1=>exact dv (h _ _) fun _ _=>trivial
  | none=>exact h _ _
 | P=>
  show NB (ic rec r);unfold ic;cases acc (aa 40) r with
  | some r1=>
   refine dv (h _ _) fun e r2=>?_;cases acc (aa 41) r2 with
   | some r3=>trivial
   | none=>exact fL
  | none=>
  cases hn:cB r with
  | some p=>simp only;split<;>first|trivial|exact FU (n:=p.1) (r1:=p.2) hn
  | none=>
  cases bW r with
  | none=>exact fL
  | some p=>
  obtain⟨s,r1⟩:=p;simp only;cases (if s=me then acc (aa 40) r1 else none)with
  | some r2=>
   simp only;cases bW r2 with
   | none=>exact fL
   | some p=>
    simp only;cases acc (aa 41) p.2 with
    | some r4=>trivial
    | none=>exact fL
  | none=>
  simp only;cases (if s=gS then acc (aa 40) r1 else none)with
  | some r2=>
   refine dv (h _ _) fun e r3=>?_;cases acc (aa 41) r3 with
   | some r4=>trivial
   | none=>exact fL
  | none=>
  simp only;cases acc (aa 91) r1 with
  | some r2=>
   refine dv (h _ _) fun e r3=>?_;cases acc (aa 93) r3 with
   | some r4=>trivial
   | none=>exact fL
  | none=>
  simp only;cases acc (aa 64) r1 with
  | some r2=>
   simp only;cases hn:cB r2 with
   | none=>exact fL
   | some p=>simp only;split<;>first|trivial|exact FU (n:=p.1) (r1:=p.2) hn
  | none=>trivial
theorem uw:∀(n:Nat) (k:PK) (r:List Tok),NB (fY n k r)
 | 0,_,_=>trivial
 | n+1,k,r=>Im (uw n) k r
theorem rh{k:PK}{r r1:List Tok}{c:Int}(h:par k r=.bad c r1):c=6\/((c=3\/c=5)/\r1≠[]):=by
 have h1:=uw (40*r.length+20) k r;unfold par at h;rw[h]at h1;exact h1.imp And.left id
theorem Dw{k:PK}{r r1:List Tok}{c:Int}(h:par k r=.bad c r1):c=6->r1=[]:=by
 have h1:=uw (40*r.length+20) k r;unfold par at h;rw[h]at h1;intro h6;rcases h1 with h1|h1
 .exact h1.2
 .omega
theorem pO{k:PK}{r r1:List Tok}{c:Int}(h:par k r=.bad c r1):c≠0/\r1.length≤r.length:=by
 have h1:=rh h;have h2:=ji k r;rw[h]at h2;exact⟨by omega,h2.length_le⟩
end Go.Proofs.YtnhphlmblenapaaGreatDoor
namespace Go.Proofs.YtnhphlmblenapaaGreatDoor
open Go.RowKit
inductive CP(α:Type) where
 | out
 | bad (e n:Int)
 | ok (v:α) (r:List Tok)
section
variable {α β : Type}
def CP.bind(x:CP α)(f:α->List Tok->CP β):CP β:=match x with
 | .out=>.out
 | .bad e n=>.bad e n
 | .ok v r=>f v r
def lnR(z:Int):List Tok->Int
 | []=>z
 | t::_=>t.line
def jc(z:Int):List Tok->CP α
 | []=>.bad 6 z
 | t::_=>.bad 5 t.line
def bR(z:Int)(m:ByteArray)(r:List Tok)(k:List Tok->CP α):CP α:=match acc m r with
 | some r1=>k r1
 | none=>jc z r
def dK(z:Int)(r:List Tok)(k:ByteArray->List Tok->CP α):CP α:=match bW r with
 | some p=>k p.1 p.2
 | none=>jc z r
def fT(z:Int)(r:List Tok)(k:Int->List Tok->CP α):CP α:=match cB r with
 | some p=>k p.1 p.2
 | none=>jc z r
def dF(m:ByteArray)(r:List Tok)(y:List Tok->CP α)(n:CP α):CP α:=match acc m r with
 | some r1=>y r1
 | none=>n
def exC(z:Int)(r:List Tok)(k:Ex->List Tok->CP α):CP α:=match par .W r with
 | .out=>.out
 | .bad c q=>.bad c (lnR z q)
 | .ok e q=>if bB e=0 then k e q else .bad (bB e) 0
def gL(f:α->List Tok->Option (CP α)):Nat->α->List Tok->CP α
 | 0,_,_=>.out
 | n+1,a,r=>match f a r with
  | none=>.ok a r
  | some x=>x.bind fun v q=>gL f n v q
def fQ(f:α->List Tok->Option (CP α))(a:α)(r:List Tok):CP α:=gL f (r.length+1) a r
end
def exZ:Ex:=.mk 0 0 ⟨#[]⟩ []
def gH(z:Int)(r:List Tok):CP ByteArray:=dK z r fun s r1=>dF (aa 91) r1 (fun r2=>fT z r2 fun n r3=>bR z (aa 93) r3 fun r4=>.ok (gX s n) r4) (.ok s r1)
def gV(z:Int)(r:List Tok):CP (List ByteArray):=(gH z r).bind fun s r1=>fQ (fun l r=>(acc (aa 44) r).map fun r2=>(gH z r2).bind fun s r3=>.ok (l++[s]) r3) [s] r1
def gD(z:Int)(r:List Tok):CP Wt:=fT z r fun lo r1=>(dF (ba 46 46) r1 (fun r2=>fT z r2 fun hi r3=>.ok hi r3) (.ok lo r1)).bind fun hi r2=>
 (dF (ba 58 61) r2 (fun r3=>.ok true r3) (bR z (ba 58 47) r2 fun r3=>.ok false r3)).bind fun b r3=>fT z r3 fun w r4=>.ok ⟨lo,hi,w,b⟩ r4
def od(z:Int)(r:List Tok):CP (List Wt):=(gD z r).bind fun w r1=>fQ (fun l r=>(acc (aa 44) r).map fun r2=>(gD z r2).bind fun w r3=>.ok (l++[w]) r3) [w] r1
def mt(z:Int)(r:List Tok):CP It:=(gH z r).bind fun s r1=>bR z (aa 123) r1 fun r2=>(od z r2).bind fun l r3=>bR z (aa 125) r3 fun r4=>bR z (aa 59) r4 fun r5=>.ok (.mk 3 exZ s ⟨#[]⟩ l [] [] [] []) r5
def iY(z:Int)(r:List Tok):CP It:=(gV z r).bind fun l r1=>bR z ⟨#[98,101,102,111,114,101]⟩ r1 fun r2=>(gV z r2).bind fun m r3=>bR z (aa 59) r3 fun r4=>.ok (.mk 6 exZ ⟨#[]⟩ ⟨#[]⟩ [] [] [] l m) r4
def fj(z:Int)(k:Int)(r:List Tok):CP It:=exC z r fun e r1=>bR z (aa 59) r1 fun r2=>.ok (.mk k e ⟨#[]⟩ ⟨#[]⟩ [] [] [] [] []) r2
def mo:ByteArray:=⟨#[115,111,102,116]⟩
def qf:ByteArray:=⟨#[100,105,115,116]⟩
def ifW:ByteArray:=⟨#[105,102]⟩
def tu:ByteArray:=⟨#[101,108,115,101]⟩
def qx:ByteArray:=⟨#[101,97,99,104]⟩
def inW:ByteArray:=⟨#[105,110]⟩
def mQ:ByteArray:=⟨#[115,111,108,118,101]⟩
structure Rec where
 item:List Tok->CP It
 rest:List It->List Tok->CP (List It)
def ig(z:Int)(R:Rec)(r:List Tok):CP (List It):=bR z (aa 123) r fun r1=>R.rest [] r1
def ifC(z:Int)(R:Rec)(r:List Tok):CP It:=bR z (aa 40) r fun r2=>exC z r2 fun e r3=>bR z (aa 41) r3 fun r4=>(ig z R r4).bind fun l r5=>
 (dF tu r5 (fun r6=>ig z R r6) (.ok [] r5)).bind fun m r7=>.ok (.mk 4 e ⟨#[]⟩ ⟨#[]⟩ [] l m [] []) r7
def kY(z:Int)(R:Rec)(r:List Tok):CP It:=dK z r fun i r2=>bR z inW r2 fun r3=>dK z r3 fun s r4=>(ig z R r4).bind fun l r5=>.ok (.mk 5 exZ s i [] l [] [] []) r5
def kJ(z:Int)(R:Rec):Rec where
 item r:=dF mo r (fj z 2) <| dF qf r (mt z) <| dF ifW r (ifC z R) <| dF qx r (kY z R) <| dF mQ r (iY z) (fj z 1 r)
 rest l r:=dF (aa 125) r (fun r1=>.ok l r1) ((R.item r).bind fun x r1=>R.rest (l++[x]) r1)
def fP(z:Int):Nat->Rec
 | 0=>⟨fun _=>.out,fun _ _=>.out⟩
 | n+1=>kJ z (fP z n)
def mg(z:Int)(r:List Tok):CP It:=(fP z (2*r.length+1)).item r
def py(z:Int)(l:List It)(r:List Tok):CP (List It):=(fP z (2*r.length+2)).rest l r
def jK(z:Int):Rec:=⟨mg z,py z⟩
def mX(z:Int)(r:List Tok):CP Int:=dF (aa 91) r (fun r1=>fT z r1 fun n r2=>if n<1 then .bad 5 (lnR z r1)else bR z (aa 93) r2 fun r3=>.ok n r3) (.ok 0 r)
def fK(z:Int)(m:Int)(r:List Tok):CP Fl:=dK z r fun s r1=>(mX z r1).bind fun k r2=>bR z (aa 58) r2 fun r3=>fT z r3 fun w r4=>
 (if m=0 then bR z (aa 61) r4 fun r5=>fT z r5 fun v r6=>.ok v r6 else .ok 0 r4:CP Int).bind fun v r5=>bR z (aa 59) r5 fun r6=>.ok ⟨s,w,k,m,v⟩ r6
def qA:ByteArray:=⟨#[114,97,110,100]⟩
def mS:ByteArray:=⟨#[114,97,110,100,99]⟩
def mO:ByteArray:=⟨#[115,116,97,116,101]⟩
def uo:ByteArray:=⟨#[99,108,97,115,115]⟩
def li:ByteArray:=⟨#[101,120,116,101,110,100,115]⟩
def cR:ByteArray:=⟨#[99,111,110,115,116,114,97,105,110,116]⟩
def iS(z:Int)(r:List Tok):CP (List Fl):=
 let one:List Fl->CP Fl->CP (List Fl):=fun l x=>x.bind fun x q=>.ok (l++[x]) q
 fQ (fun l r=>match acc qA r with
  | some r1=>some (one l (fK z 1 r1))
  | none=>match acc mS r with
   | some r1=>some (one l (fK z 2 r1))
   | none=>match acc mO r with
    | some r1=>some (one l (fK z 0 r1))
    | none=>none) [] r
def kU(z:Int)(r:List Tok):CP (ByteArray×List It):=dK z r fun s r1=>(ig z (jK z) r1).bind fun l r3=>.ok (s,l) r3
def lM(z:Int)(r:List Tok):CP (List (ByteArray×List It)):=fQ (fun l r=>(acc cR r).map fun r1=>(kU z r1).bind fun b r2=>.ok (l++[b]) r2) [] r
def lx(z:Int)(r:List Tok):CP Kl:=bR z uo r fun r1=>dK z r1 fun s r2=>(dF li r2 (fun r3=>dK z r3 fun p r4=>.ok p r4) (.ok ⟨#[]⟩ r2)).bind fun p r3=>
 bR z (aa 123) r3 fun r4=>(iS z r4).bind fun f r5=>(lM z r5).bind fun b r6=>bR z (aa 125) r6 fun r7=>.ok ⟨s,p,f,b⟩ r7
def mn(z:Int)(r:List Tok):CP (List It):=fQ (fun l r=>if r.isEmpty=true then none else some ((mg z r).bind fun x r1=>.ok (l++[x]) r1)) [] r
def se(z:Int)(r:List Tok):CP Kl:=(lx z r).bind fun c r1=>if r1.isEmpty=true then .ok c r1 else jc z r1
end Go.Proofs.YtnhphlmblenapaaGreatDoor
namespace Go.Proofs.YtnhphlmblenapaaGreatDoor
open Go.RowKit
theorem Gw{r q:List Tok}{e:Ex}(h:par .W r=.ok e q):q <:+ r/\bD e+q.length≤r.length:=by
 have h1:=uq (40*r.length+20) .W r;have h2:=ji .W r;have h0:=h;unfold par at h;rw[h]at h1;rw[h0]at h2;have h3:=h1.2;have h4:=h1.1;simp only[PK.size]at h3;exact⟨h2.1,by omega⟩
def Tk{α:Type}(sz:α->Nat)(c:Nat)(r:List Tok):CP α->Prop
 | .out=>False
 | .bad e _=>e≠0
 | .ok v q=>q <:+ r/\sz v+q.length≤c
section
variable {α β : Type} {sz : α -> Nat} {sy : β -> Nat} {c c' : Nat} {r : List Tok}
theorem Tk.weak{x:CP α}{q:List Tok}(h:Tk sz c q x)(hq:q <:+ r):Tk sz c r x:=by
 cases x with
 | out=>exact h
 | bad e n=>exact h
 | ok v p=>exact⟨h.1.trans hq,h.2⟩
theorem ci{x:CP β}{f:β->List Tok->CP α}(h:Tk sy c' r x)(hf:∀v q,q <:+ r->sy v+q.length≤c'->Tk sz c r (f v q)):Tk sz c r (x.bind f):=by
 cases x with
 | out=>exact h
 | bad e n=>exact h
 | ok v p=>exact hf v p h.1 h.2
theorem pY{z:Int}{q:List Tok}:Tk sz c r (jc z q):=by
 cases q with
 | nil=>exact(by decide:(6:Int)≠0)
 | cons t q=>exact(by decide:(5:Int)≠0)
variable {z : Int} {m : ByteArray} {q : List Tok}
theorem cH{k:List Tok->CP α}(hq:q <:+ r)(h:∀r1,r1 <:+ r->r1.length<q.length->Tk sz c r (k r1)):Tk sz c r (bR z m q k):=by
 unfold bR;cases ha:acc m q with
 | some r1=>exact h r1 ((aD ha).1.trans hq) (aD ha).2
 | none=>exact pY
theorem hY{k:List Tok->CP α}{n:CP α}(hq:q <:+ r)(h:∀r1,r1 <:+ r->r1.length<q.length->Tk sz c r (k r1))(hn:Tk sz c r n):Tk sz c r (dF m q k n):=by
 unfold dF;cases ha:acc m q with
 | some r1=>exact h r1 ((aD ha).1.trans hq) (aD ha).2
 | none=>exact hn
theorem iT{k:ByteArray->List Tok->CP α}(hq:q <:+ r)(h:∀s r1,r1 <:+ r->r1.length<q.length->Tk sz c r (k s r1)):Tk sz c r (dK z q k):=by
 unfold dK;cases ha:bW q with
 | some p=>exact h p.1 p.2 ((fq ha).1.trans hq) (fq ha).2
 | none=>exact pY
theorem kH{k:Int->List Tok->CP α}(hq:q <:+ r)(h:∀s r1,r1 <:+ r->r1.length<q.length->Tk sz c r (k s r1)):Tk sz c r (fT z q k):=by
 unfold fT;cases ha:cB q with
 | some p=>exact h p.1 p.2 ((jj ha).1.trans hq) (jj ha).2
 | none=>exact pY
theorem ve{k:Ex->List Tok->CP α}(hq:q <:+ r)(h:∀e r1,bB e=0->r1 <:+ r->bD e+r1.length≤q.length->Tk sz c r (k e r1)):Tk sz c r (exC z q k):=by
 unfold exC;cases ha:par .W q with
 | out=>exact absurd ha (fA _ _)
 | bad e p=>exact(pO ha).1
 | ok e p=>
  simp only;split
  .rename_i h0;exact h e p h0 ((Gw ha).1.trans hq) (Gw ha).2
  .rename_i h0;exact h0
def H7(f:α->List Tok->Option (CP α)):Prop:=∀a r x,f a r=some x->∀v q,x=.ok v q->q.length<r.length
theorem sN{f:α->List Tok->Option (CP α)}(hf:H7 f):∀(n m:Nat) (a:α) (q:List Tok),q.length<n->q.length<m->gL f n a q=gL f m a q
 | 0,m,_,_,h,_=>by omega
 | n+1,0,_,_,_,h=>by omega
 | n+1,m+1,a,q,h1,h2=>by
  unfold gL;cases h:f a q with
  | none=>rfl
  | some x=>
   cases x with
   | out=>rfl
   | bad e l=>rfl
   | ok v p=>have:=hf a q _ h v p rfl;exact sN hf n m v p (by omega) (by omega)
theorem ng{f:α->List Tok->Option (CP α)}(hf:H7 f)(a:α)(q:List Tok):fQ f a q=match f a q with
 | none=>.ok a q
 | some x=>x.bind fun v p=>fQ f v p:=by
 unfold fQ;rw[gL];cases h:f a q with
 | none=>rfl
 | some x=>
  cases x with
  | out=>rfl
  | bad e l=>rfl
  | ok v p=>have:=hf a q _ h v p rfl;exact sN hf _ _ v p (by omega) (by omega)
def Stp(sz:α->Nat)(f:α->List Tok->Option (CP α)):Prop:=∀a r x,f a r=some x->Tk (fun v=>max (sz v) (sz a+1)) (sz a+r.length) r x
theorem Stp.eats{f:α->List Tok->Option (CP α)}(h:Stp sz f):H7 f:=by
 intro a r x hx v q hv;have h1:=h a r x hx;subst hv;have:=h1.2;simp only at this;omega
theorem z6{f:α->List Tok->Option (CP α)}(h:Stp sz f):∀(n:Nat) (a:α) (q:List Tok),q.length<n->q <:+ r->sz a+q.length≤c->Tk sz c r (gL f n a q)
 | 0,_,_,h,_,_=>by omega
 | n+1,a,q,hn,hq,hc=>by
  unfold gL;cases hf:f a q with
  | none=>exact⟨hq,hc⟩
  | some x=>
   refine ci ((h a q x hf).weak hq) fun v p hp hs=>?_;exact z6 h n v p (by omega) hp (by omega)
theorem lh{f:α->List Tok->Option (CP α)}(h:Stp sz f){a:α}(hq:q <:+ r)(hc:sz a+q.length≤c):Tk sz c r (fQ f a q):=z6 h _ a q (Nat.lt_succ_self _) hq hc
end
def gr{α:Type}(_:α):Nat:=1
def zr1{α:Type}(_:α):Nat:=0
theorem ml{α:Type}{v:α}{n m:Nat}(h:n≤m):zr1 v+n≤m:=by unfold zr1;omega
variable (z : Int)
theorem gu(r:List Tok):Tk gr r.length r (gH z r):=
 iT (TJ _) fun _ r1 h1 l1=>hY h1 (fun r2 h2 l2=>kH h2 fun _ r3 h3 l3=>cH h3 fun r4 h4 l4=>⟨h4,by unfold gr;omega⟩) ⟨h1,by unfold gr;omega⟩
theorem lB{α:Type}{p:List Tok->CP α}(h:∀r,Tk gr r.length r (p r)):Stp (α:=List α) TM fun l r=>(acc (aa 44) r).map fun r2=>(p r2).bind fun s r3=>.ok (l++[s]) r3:=by
 intro l r x hx;simp only at hx;cases ha:acc (aa 44) r with
 | none=>rw[ha]at hx;cases hx
 | some r2=>
  rw[ha]at hx;cases hx;have:=aD ha;exact ci ((h r2).weak this.1) fun v q hq hs=>⟨hq,by unfold gr at hs;simp only[TN,TK];omega⟩
theorem jL(r:List Tok):Tk TM r.length r (gV z r):=
 ci (gu z r) fun _ q hq hs=>lh (lB (gu z)) hq (by unfold gr at hs;rw[TK];omega)
theorem jo(r:List Tok):Tk gr r.length r (gD z r):=
 kH (TJ _) fun _ r1 h1 l1=>ci (sy:=zr1) (c':=r1.length) (hY h1 (fun r2 h2 l2=>kH h2 fun _ r3 h3 l3=>⟨h3,ml (by omega)⟩) ⟨h1,ml (by omega)⟩) fun _ r2 h2 l2=>
  ci (sy:=zr1) (c':=r2.length) (hY h2 (fun r3 h3 l3=>⟨h3,ml (by omega)⟩) (cH h2 fun r3 h3 l3=>⟨h3,ml (by omega)⟩)) fun _ r3 h3 l3=>kH h3 fun _ r4 h4 l4=>⟨h4,by unfold gr;omega⟩
theorem yT(r:List Tok):Tk TM r.length r (od z r):=
 ci (jo z r) fun _ q hq hs=>lh (lB (jo z)) hq (by unfold gr at hs;rw[TK];omega)
theorem nL(k:Int)(e:Ex)(nm ix:ByteArray)(ws:List Wt)(l m:List It)(bf af:List ByteArray):gz (.mk k e nm ix ws l m bf af)=1+bD e+ws.length+bf.length+af.length+bu l+bu m:=ew _
theorem qw:bD exZ=1:=rfl
theorem Ak(r:List Tok):Tk gz r.length r (mt z r):=
 ci (gu z r) fun _ r1 h1 l1=>cH h1 fun r2 h2 l2=>ci ((yT z r2).weak h2) fun l r3 h3 l3=>cH h3 fun r4 h4 l4=>cH h4 fun r5 h5 l5=>⟨h5,by
  rw[nL,qw];unfold gr at l1;simp only[TL,bu];omega⟩
theorem xl(r:List Tok):Tk gz r.length r (iY z r):=
 ci (jL z r) fun l r1 h1 l1=>cH h1 fun r2 h2 l2=>ci ((jL z r2).weak h2) fun m r3 h3 l3=>cH h3 fun r4 h4 l4=>⟨h4,by
  rw[nL,qw];simp only[TL,bu];omega⟩
theorem nK(k:Int)(r:List Tok):Tk gz r.length r (fj z k r):=
 ve (TJ _) fun e r1 _ h1 l1=>cH h1 fun r2 h2 l2=>⟨h2,by rw[nL];simp only[TL,bu];omega⟩
theorem pL{R:Rec}{c:Nat}{r q:List Tok}(h:∀p,p.length<q.length->Tk bu p.length p (R.rest [] p))(hq:q <:+ r):Tk bu (q.length-1) r (ig z R q):=
 cH hq fun r1 h1 l1=>by
  have h2:=(h r1 l1).weak h1;cases hx:R.rest [] r1 with
  | out=>rw[hx]at h2;exact h2
  | bad e n=>rw[hx]at h2;exact h2
  | ok v p=>rw[hx]at h2;exact⟨h2.1,by have:=h2.2;omega⟩
theorem Jr{R:Rec}{r:List Tok}(h:∀p,p.length<r.length->Tk bu p.length p (R.rest [] p)):Tk gz r.length r (ifC z R r):=
 cH (TJ _) fun r2 h2 l2=>ve h2 fun e r3 _ h3 l3=>cH h3 fun r4 h4 l4=>ci (pL z (c:=0) (fun p hp=>h p (by omega)) h4) fun l r5 h5 l5=>
  ci (sy:=bu) (c':=r5.length) (hY h5 (fun r6 h6 l6=>by
   have h7:=pL z (c:=0) (fun p hp=>h p (by omega)) h6;cases hx:ig z R r6 with
   | out=>rw[hx]at h7;exact h7
   | bad e n=>rw[hx]at h7;exact h7
   | ok v p=>rw[hx]at h7;exact⟨h7.1,by have:=h7.2;omega⟩) ⟨h5,by simp only[bu];omega⟩) fun m r7 h7 l7=>⟨h7,by rw[nL];simp only[TL];omega⟩
theorem An{R:Rec}{r:List Tok}(h:∀p,p.length<r.length->Tk bu p.length p (R.rest [] p)):Tk gz r.length r (kY z R r):=
 iT (TJ _) fun i r2 h2 l2=>cH h2 fun r3 h3 l3=>iT h3 fun s r4 h4 l4=>ci (pL z (c:=0) (fun p hp=>h p (by omega)) h4) fun l r5 h5 l5=>⟨h5,by rw[nL,qw];simp only[TL,bu];omega⟩
theorem Hd{R:Rec}{r:List Tok}(h:∀p,p.length<r.length->Tk bu p.length p (R.rest [] p)):Tk gz r.length r ((kJ z R).item r):=by
 have up:∀{r1:List Tok} {x:CP It},r1 <:+ r->r1.length<r.length->Tk gz r1.length r1 x->Tk gz r.length r x:=fun{r1 x} h1 l1 hx=>by
  have h2:=hx.weak h1;cases x with
  | out=>exact h2
  | bad e n=>exact h2
  | ok v p=>exact⟨h2.1,by have:=h2.2;omega⟩
 have hr:=TJ r
 exact hY hr (fun r1 h1 l1=>up h1 l1 (nK z 2 r1)) <| hY hr (fun r1 h1 l1=>up h1 l1 (Ak z r1)) <| hY hr (fun r1 h1 l1=>up h1 l1 (Jr z fun p hp=>h p (by omega))) <|
  hY hr (fun r1 h1 l1=>up h1 l1 (An z fun p hp=>h p (by omega))) <| hY hr (fun r1 h1 l1=>up h1 l1 (xl z r1)) (nK z 1 r)
theorem su(l m:List It):bu (l++m)=bu l+bu m:=by
 induction l with
 | nil=>simp[bu]
 | cons a l ih=>simp only[TO,bu,ih];omega
theorem ti(x:It):bu [x]=gz x:=by simp[bu]
theorem ld(x:It):1≤gz x:=by rw[ew];omega
theorem Id{R:Rec}{l:List It}{r:List Tok}(h:Tk gz r.length r (R.item r))(h2:∀l p,p.length<r.length->Tk bu (bu l+p.length) p (R.rest l p)):Tk bu (bu l+r.length) r ((kJ z R).rest l r):=
 hY (TJ _) (fun r1 h1 l1=>⟨h1,by omega⟩) (ci h fun x p hp hs=>by
  have h3:=ld x;have h4:=(h2 (l++[x]) p (by omega)).weak hp;cases hx:R.rest (l++[x]) p with
  | out=>rw[hx]at h4;exact h4
  | bad e n=>rw[hx]at h4;exact h4
  | ok v q=>rw[hx]at h4;exact⟨h4.1,by have:=h4.2;rw[su,ti]at this;omega⟩)
theorem nM:∀n,(∀r,2*r.length+1≤n->Tk gz r.length r ((fP z n).item r))/\(∀l r,2*r.length+2≤n->Tk bu (bu l+r.length) r ((fP z n).rest l r))
 | 0=>⟨fun r h=>by omega,fun l r h=>by omega⟩
 | n+1=>⟨fun r h=>Hd z fun p hp=>by have:=(nM n).2 [] p (by omega);simp only[bu,TS]at this;exact this,fun l r h=>Id z ((nM n).1 r (by omega)) fun l p hp=>(nM n).2 l p (by omega)⟩
def CP.le{α:Type}(x y:CP α):Prop:=x=.out\/x=y
section
variable {α β : Type} {z : Int} {r : List Tok}
theorem CP.le.rfl{x:CP α}:x.le x:=.inr (Eq.refl x)
theorem pN{x x':CP β}{f f':β->List Tok->CP α}(h:x.le x')(hf:∀e r,(f e r).le (f' e r)):(x.bind f).le (x'.bind f'):=by
 rcases h with rfl|rfl
 .exact .inl (Eq.refl _)
 .cases x with
  | out=>exact .inl (Eq.refl _)
  | bad e r=>exact .rfl
  | ok e r=>exact hf e r
theorem p6{m:ByteArray}{k k':List Tok->CP α}(h:∀r,(k r).le (k' r)):(bR z m r k).le (bR z m r k'):=by
 unfold bR;cases acc m r with
 | some r1=>exact h r1
 | none=>exact .rfl
theorem oB{m:ByteArray}{k k':List Tok->CP α}{n n':CP α}(h:∀r,(k r).le (k' r))(hn:n.le n'):(dF m r k n).le (dF m r k' n'):=by
 unfold dF;cases acc m r with
 | some r1=>exact h r1
 | none=>exact hn
theorem zW{k k':ByteArray->List Tok->CP α}(h:∀s r,(k s r).le (k' s r)):(dK z r k).le (dK z r k'):=by
 unfold dK;cases bW r with
 | some p=>exact h _ _
 | none=>exact .rfl
theorem IX{k k':Ex->List Tok->CP α}(h:∀s r,(k s r).le (k' s r)):(exC z r k).le (exC z r k'):=by
 unfold exC;cases par .W r with
 | out=>exact .rfl
 | bad c q=>exact .rfl
 | ok e q=>
  simp only;split
  .exact h _ _
  .exact .rfl
end
theorem ud{R S:Rec}(h1:∀r,(R.item r).le (S.item r))(h2:∀l r,(R.rest l r).le (S.rest l r)):(∀r,((kJ z R).item r).le ((kJ z S).item r))/\∀l r,((kJ z R).rest l r).le ((kJ z S).rest l r):=by
 have hb:∀q,(ig z R q).le (ig z S q):=fun q=>p6 fun p=>h2 [] p;refine⟨fun r=>?_,fun l r=>oB (fun _=>.rfl) (pN (h1 r) fun x p=>h2 _ p)⟩;refine oB (fun _=>.rfl) <| oB (fun _=>.rfl) <| oB (fun r1=>?_) <| oB (fun r1=>?_) <| .rfl
 .exact p6 fun r2=>IX fun e r3=>p6 fun r4=>pN (hb r4) fun l r5=>pN (oB hb .rfl) fun _ _=>.rfl
 .exact zW fun i r2=>p6 fun r3=>zW fun s r4=>pN (hb r4) fun _ _=>.rfl
theorem p7:∀n,(∀r,((fP z n).item r).le ((fP z (n+1)).item r))/\∀l r,((fP z n).rest l r).le ((fP z (n+1)).rest l r)
 | 0=>⟨fun _=>.inl rfl,fun _ _=>.inl rfl⟩
 | n+1=>ud z (p7 n).1 (p7 n).2
theorem le_trans{α:Type}{x y w:CP α}(h:x.le y)(h2:y.le w):x.le w:=by
 rcases h with rfl|rfl
 .exact .inl rfl
 .exact h2
theorem lC{n m:Nat}(h:n≤m):(∀r,((fP z n).item r).le ((fP z m).item r))/\∀l r,((fP z n).rest l r).le ((fP z m).rest l r):=by
 induction h with
 | refl=>exact⟨fun _=>.rfl,fun _ _=>.rfl⟩
 | step h ih=>exact⟨fun r=>le_trans (ih.1 r) ((p7 z _).1 r),fun l r=>le_trans (ih.2 l r) ((p7 z _).2 l r)⟩
theorem ot(r:List Tok):Tk gz r.length r (mg z r):=(nM z _).1 r (TP _)
theorem u7(l:List It)(r:List Tok):Tk bu (bu l+r.length) r (py z l r):=(nM z _).2 l r (TP _)
theorem Tk.ne{α:Type}{sz:α->Nat}{c:Nat}{r:List Tok}{x:CP α}(h:Tk sz c r x):x≠.out:=by rintro rfl;exact h
theorem tO(n:Nat)(r:List Tok):((fP z n).item r).le (mg z r):=by
 rcases TT n (2*r.length+1)with h|h
 .exact(lC z h).1 r
 .rcases(lC z h).1 r with e|e
  .exact absurd e (ot z r).ne
  .exact .inr e.symm
theorem tv(n:Nat)(l:List It)(r:List Tok):((fP z n).rest l r).le (py z l r):=by
 rcases TT n (2*r.length+2)with h|h
 .exact(lC z h).2 l r
 .rcases(lC z h).2 l r with e|e
  .exact absurd e (u7 z l r).ne
  .exact .inr e.symm
theorem Gd(r:List Tok):mg z r=(kJ z (jK z)).item r:=by
 rcases(ud z (S:=jK z) (tO z (2*r.length)) (tv z (2*r.length))).1 r with e|e
 .exact absurd e (ot z r).ne
 .exact e
theorem DZ(l:List It)(r:List Tok):py z l r=(kJ z (jK z)).rest l r:=by
 rcases(ud z (S:=jK z) (tO z (2*r.length+1)) (tv z (2*r.length+1))).2 l r with e|e
 .exact absurd e (u7 z l r).ne
 .exact e
theorem vK(r:List Tok):Tk zr1 r.length r (mX z r):=
 hY (TJ _) (fun r1 h1 l1=>kH h1 fun n r2 h2 l2=>by
  split
  .exact(by decide:(5:Int)≠0)
  .exact cH h2 fun r3 h3 l3=>⟨h3,ml (by omega)⟩) ⟨TJ _,ml (TP _)⟩
theorem ja(m:Int)(r:List Tok):Tk gr r.length r (fK z m r):=
 iT (TJ _) fun s r1 h1 l1=>ci ((vK z r1).weak h1) fun k r2 h2 l2=>cH h2 fun r3 h3 l3=>kH h3 fun w r4 h4 l4=>
  ci (sy:=zr1) (c':=r4.length) (by
   split
   .exact cH h4 fun r5 h5 l5=>kH h5 fun v r6 h6 l6=>⟨h6,ml (by omega)⟩
   .exact⟨h4,ml (TP _)⟩) fun v r5 h5 l5=>cH h5 fun r6 h6 l6=>⟨h6,by unfold gr;omega⟩
theorem qz{α:Type}{x:CP α}{l:List α}{r r1:List Tok}{sz:α->Nat}(h1:r1 <:+ r)(l1:r1.length≤r.length)(h:Tk sz r1.length r1 x)(hp:∀v,1≤sz v):Tk (fun v=>max v.length (l.length+1)) (l.length+r.length) r (x.bind fun v q=>.ok (l++[v]) q):=
 ci (h.weak h1) fun v q hq hs=>⟨hq,by have:=hp v;simp only[TN,TK];omega⟩
def gG(z:Int)(l:List Fl)(r:List Tok):Option (CP (List Fl)):=match acc qA r with
 | some r1=>some ((fK z 1 r1).bind fun x q=>.ok (l++[x]) q)
 | none=>match acc mS r with
  | some r1=>some ((fK z 2 r1).bind fun x q=>.ok (l++[x]) q)
  | none=>match acc mO r with
   | some r1=>some ((fK z 0 r1).bind fun x q=>.ok (l++[x]) q)
   | none=>none
theorem rB(z:Int):Stp TM (gG z):=by
 intro l r x hx;unfold gG at hx;cases h1:acc qA r with
 | some r1=>rw[h1]at hx;cases hx;exact qz (aD h1).1 (TQ (aD h1).2) (ja z 1 r1) fun _=>TP _
 | none=>
 cases h2:acc mS r with
 | some r1=>rw[h1,h2]at hx;cases hx;exact qz (aD h2).1 (TQ (aD h2).2) (ja z 2 r1) fun _=>TP _
 | none=>
 cases h3:acc mO r with
 | some r1=>rw[h1,h2,h3]at hx;cases hx;exact qz (aD h3).1 (TQ (aD h3).2) (ja z 0 r1) fun _=>TP _
 | none=>rw[h1,h2,h3]at hx;cases hx
theorem tF(r:List Tok):Tk TM r.length r (iS z r):=lh (rB z) (TJ _) (by simp)
def bsz(l:List (ByteArray×List It)):Nat:=(l.map fun b=>1+bu b.2).sum
def ksz(c:Kl):Nat:=1+c.flds.length+bsz c.blks
theorem kE{r q:List Tok}(hq:q <:+ r):Tk bu (q.length-1) r (ig z (jK z) q):=
 pL z (c:=0) (fun p _=>by have:=u7 z [] p;simp only[bu,TS]at this;exact this) hq
theorem EB(r:List Tok):Tk (fun b:ByteArray×List It=>1+bu b.2) r.length r (kU z r):=
 iT (TJ _) fun s r1 h1 l1=>ci (kE z h1) fun l r2 h2 l2=>⟨h2,by simp only;omega⟩
theorem Gm(l:List (ByteArray×List It))(b:ByteArray×List It):bsz (l++[b])=bsz l+(1+bu b.2):=by simp[bsz]
theorem qW(z:Int):Stp bsz fun(l:List (ByteArray×List It)) r=>(acc cR r).map fun r1=>(kU z r1).bind fun b r2=>.ok (l++[b]) r2:=by
 intro l r x hx;simp only at hx;cases ha:acc cR r with
 | none=>rw[ha]at hx;cases hx
 | some r2=>
  rw[ha]at hx;cases hx;have:=aD ha;exact ci ((EB z r2).weak this.1) fun v q hq hs=>⟨hq,by simp only[Gm]at *;omega⟩
theorem A2(r:List Tok):Tk bsz r.length r (lM z r):=lh (qW z) (TJ _) (by simp[bsz])
theorem rt(r:List Tok):Tk ksz r.length r (lx z r):=
 cH (TJ _) fun r1 h1 l1=>iT h1 fun s r2 h2 l2=>ci (sy:=zr1) (c':=r2.length) (hY h2 (fun r3 h3 l3=>iT h3 fun p r4 h4 l4=>⟨h4,ml (by omega)⟩) ⟨h2,ml (TP _)⟩) fun p r3 h3 l3=>
  cH h3 fun r4 h4 l4=>ci ((tF z r4).weak h4) fun f r5 h5 l5=>ci ((A2 z r5).weak h5) fun b r6 h6 l6=>cH h6 fun r7 h7 l7=>⟨h7,by unfold ksz;simp only;omega⟩
theorem Gz{α:Type}{sz:α->Nat}{p:List Tok->CP α}(hp:∀r,Tk sz r.length r (p r))(h1:∀x,1≤sz x):H7 fun(l:List α) r=>if r.isEmpty=true then none else some ((p r).bind fun x r1=>.ok (l++[x]) r1):=by
 intro l r x hx v q hv;simp only at hx;split at hx
 .cases hx
 cases hx;have h2:=hp r;cases hy:p r with
 | out=>rw[hy]at hv;cases hv
 | bad e n=>rw[hy]at hv;cases hv
 | ok y r3=>
  rw[hy]at hv h2;cases hv;have:=h2.2;have:=h1 y;omega
theorem qD(r:List Tok):Tk bu r.length r (mn z r):=by
 refine lh (sz:=bu) ?_ (TJ _) (by simp[bu]);intro l r x hx;simp only at hx;split at hx
 .cases hx
 .cases hx;exact ci (ot z r) fun v q hq hs=>⟨hq,by have:=ld v;simp only[su,ti];omega⟩
theorem zV(r:List Tok):Tk ksz r.length r (se z r):=
 ci (rt z r) fun c r1 h1 l1=>by
  split
  .exact⟨h1,l1⟩
  .exact pY
theorem Da(w:Int):(jK w).rest=py w:=rfl
theorem zz(z:Int)(r:List Tok):mg z r=dF mo r (fj z 2) (dF qf r (mt z) (dF ifW r (ifC z (jK z)) (dF qx r (kY z (jK z)) (dF mQ r (iY z) (fj z 1 r))))):=Gd z r
theorem yx(z:Int)(l:List It)(r:List Tok):py z l r=dF (aa 125) r (fun r1=>.ok l r1) ((mg z r).bind fun x r1=>py z (l++[x]) r1):=DZ z l r
end Go.Proofs.YtnhphlmblenapaaGreatDoor
namespace Go.Proofs.YtnhphlmblenapaaGreatDoor
open Go.RowKit
def c11:Cd:=sq [oM 4 (.mv kF)] [0,1] (.seq (sq [oV 6 0,ZN 7 6,oV 8 1,ZN 9 8,Yn 10 7 9] [0,1,10] (.cond (.t 10) (sq [oM 4 (.mv kF)] [4] .ret) .skip)) (.seq (sq [oI 5 0] [0,1,5] (.block 0 (.loop (.seq (sq [oV 11 5,oV 12 0,ZN 13 12,Yl 14 11 13] [0,1,5,14] (.cond (.t 14) .skip (.exit 0))) (.seq (.block 1 (.seq (.draw [oV 17 0,oV 18 5,ZI 19 12 17 18,ZM 20 12 19,oV 21 1,oV 22 5,ZI 23 12 21 22,
 ZM 24 12 23,ZD 25 31 20 24,ZU 26 25] [0,1,5,26]) (.cond (.t 26) (sq [oM 4 (.mv kF)] [4] .ret) .skip))) (.ops [oV 15 5,Wa 16 15 1,oV 5 16] [0,1,5])))))) (sq [oM 4 (.mv kT)] [4] .ret)))
def Rk:List RV:=[.t 4 false]
theorem k11:aE G.tab Tryz.f11 2 c11 Rk=true:=by kernel_rfl
def c31:Cd:=sq [ZB 2 54 0,ZB 3 54 1,oM 4 (.mv kF)] [2,3] (.seq (sq [ZF 6 0 2,ZL 7 1 6,ZF 8 0 3,ZL 9 1 8,Yn 10 7 9,oV 11 10,oH 12 11 (zF 1 2),oH 13 11 (zM 4 12),oH 14 11 (zF 1 3),oH 15 11 (zM 4 14),oH 16 11 (zD 79 13 15),oH 17 11 (zU 16),ZP 18 11 17,oV 19 18,oH 20 19 (zF 5 2),oH 21 19 (zL 1 20),oH 22 19 (zF 5 3),oH 23 19 (zL 1 22),oH 24 19 (yn 21 23),ZP 25 19 24,oV 26 25,oH 27 26 (zF 6 2),
 oH 28 26 (zL 1 27),oH 29 26 (zF 6 3),oH 30 26 (zL 1 29),oH 31 26 (yn 28 30),ZP 32 26 31,oV 33 32,oH 34 33 (zF 7 2),oH 35 33 (zL 1 34),oH 36 33 (zN 35),oH 37 33 (zF 7 3),oH 38 33 (zL 1 37),oH 39 33 (zN 38),oH 40 33 (yn 36 39),ZP 41 33 40] [2,3,41] (.cond (.t 41) (sq [oM 4 (.mv kF)] [4] .ret) .skip)) (.seq (sq [oI 5 0] [2,3,5] (.block 0 (.loop (.seq (sq [oV 42 5,ZF 43 7 2,ZL 44 1 43,ZN 45 44,
 Yl 46 42 45] [2,3,5,46] (.cond (.t 46) .skip (.exit 0))) (.seq (.block 1 (.seq (.draw [ZF 49 7 2,ZL 50 1 49,oV 51 5,ZI 52 4 50 51,ZM 53 4 52,ZF 54 7 3,ZL 55 1 54,oV 56 5,ZI 57 4 55 56,ZM 58 4 57,oM 59 (.eqa true 56 [.i .i64,.i .i64,.i .i64,.b] (.t 53) (.t 58))] [2,3,5,59]) (.cond (.t 59) (sq [oM 4 (.mv kF)] [4] .ret) .skip))) (.ops [oV 47 5,Wa 48 47 1,oV 5 48] [2,3,5])))))) (sq [ZF 60 8 2,
 ZL 61 1 60,ZF 62 8 3,ZL 63 1 62,ZD 64 11 61 63,oV 65 64,oG 66 65 (zF 9 2),oG 67 65 (zL 1 66),oG 68 65 (zF 9 3),oG 69 65 (zL 1 68),oG 70 65 (zD 11 67 69),ZQ 71 65 70,oV 72 71,oG 73 72 (zF 10 2),oG 74 72 (zL 1 73),oG 75 72 (zF 10 3),oG 76 72 (zL 1 75),oG 77 72 (zD 80 74 76),ZQ 78 72 77,oV 79 78,oG 80 79 (zF 11 2),oG 81 79 (zL 1 80),oG 82 79 (zF 11 3),oG 83 79 (zL 1 82),oG 84 79 (zD 80 81 83),
 ZQ 85 79 84,oV 4 85] [4] .ret)))
def Sn:List RV:=[.t 4 false]
theorem k31:aE G.tab Tryz.f31 2 c31 Sn=true:=by kernel_rfl
def c80:Cd:=sq [oM 4 (.mv kF)] [0,1] (.seq (sq [oV 6 0,ZN 7 6,oV 8 1,ZN 9 8,Yn 10 7 9] [0,1,10] (.cond (.t 10) (sq [oM 4 (.mv kF)] [4] .ret) .skip)) (.seq (sq [oI 5 0] [0,1,5] (.block 0 (.loop (.seq (sq [oV 11 5,oV 12 0,ZN 13 12,Yl 14 11 13] [0,1,5,14] (.cond (.t 14) .skip (.exit 0))) (.seq (.block 1 (.seq (.draw [oV 17 0,oV 18 5,ZI 19 1 17 18,ZL 20 1 19,oV 21 1,oV 22 5,ZI 23 1 21 22,ZL 24 1 23,
 Yn 25 20 24] [0,1,5,25]) (.cond (.t 25) (sq [oM 4 (.mv kF)] [4] .ret) .skip))) (.ops [oV 15 5,Wa 16 15 1,oV 5 16] [0,1,5])))))) (.seq (.ops [oM 4 (.mv kT)] [4]) .ret)))
def Rc:List RV:=[.t 4 false]
theorem k80:aE G.tab Tryz.f80 2 c80 Rc=true:=by kernel_rfl
end Go.Proofs.YtnhphlmblenapaaGreatDoor
