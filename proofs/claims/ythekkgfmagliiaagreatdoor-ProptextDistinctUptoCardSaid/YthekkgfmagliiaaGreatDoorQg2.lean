import Derived.Test.YthekkgfmagliiaaGreatDoorPu
import Derived.Test.YthekkgfmagliiaaGreatDoorBs
import Derived.Test.YthekkgfmagliiaaGreatDoorPg2
import Derived.Test.YthekkgfmagliiaaGreatDoorTProp
set_option linter.unusedVariables false
set_option linter.unusedSimpArgs false
set_option linter.unusedSectionVars false
namespace Go.Proofs.YthekkgfmagliiaaGreatDoor
open Go.RowKit
inductive QR(α:Type) where
 | out
 | late
 | bad (l e:Int)
 | ok (s:α) (r:List Tok)
def QR.bind{α β:Type}(x:QR α)(f:α→List Tok→QR β):QR β:=match x with
 | .out=>.out
 | .late=>.late
 | .bad l e=>.bad l e
 | .ok s r=>f s r
def zEx:Ex:=.mk 0 0 ⟨#[]⟩ []
def orW:ByteArray:=⟨#[111,114]⟩
def jq:ByteArray:=⟨#[97,110,100]⟩
def gO:ByteArray:=⟨#[104,111,108,100]⟩
def inW:ByteArray:=⟨#[105,110]⟩
def uU:ByteArray:=⟨#[112,114,111,112,101,114,116,121]⟩
def kR:ByteArray:=⟨#[112,108,97,105,110]⟩
section
variable {α : Type} (N : Int)
def i7:List Tok→QR α
 | []=>.bad N 6
 | t::_=>.bad t.line 5
def cx(m:ByteArray)(r:List Tok)(f:List Tok→QR α):QR α:=match acc m r with
 | some r1=>f r1
 | none=>i7 N r
def kQ(r:List Tok)(f:Int→List Tok→QR α):QR α:=match dX r with
 | some (n,r1)=>f n r1
 | none=>i7 N r
def iZ(r:List Tok)(f:ByteArray→List Tok→QR α):QR α:=match cD r with
 | some (s,r1)=>f s r1
 | none=>i7 N r
def Jq(c:Int)(r:List Tok):QR α:=if c=6 then .bad N 6 else match r with
 | []=>.bad N c
 | t::_=>.bad t.line c
def io(r:List Tok)(f:Ex→List Tok→QR α):QR α:=match par .W r with
 | .out=>.out
 | .bad c r1=>Jq N c r1
 | .ok e r1=>if bd e=0 then f e r1 else .late
end
inductive QK where
 | S
 | Sp (l:List Ts)
 | A
 | Ap (l:List Ts)
 | D
 | Dp (s:Ts)
 | H
 | R
 | Rp (s:Ts)
 | U
def nT(o lo hi:Int)(l:List Ts):Ts:=.mk o lo hi zEx ⟨#[]⟩ l
def pD(o:Int)(l:List Ts):Ts:=match l with
 | [s]=>s
 | l=>nT o 0 0 l
def bg(N:Int)(rec:QK→List Tok→QR Ts):QK→List Tok→QR Ts
 | .S,r=>(rec .A r).bind fun s r1=>rec (.Sp [s]) r1
 | .Sp l,r=>match acc orW r with
  | some r1=>(rec .A r1).bind fun s r2=>rec (.Sp (l++[s])) r2
  | none=>.ok (pD 4 l) r
 | .A,r=>(rec .D r).bind fun s r1=>rec (.Ap [s]) r1
 | .Ap l,r=>match acc jq r with
  | some r1=>(rec .D r1).bind fun s r2=>rec (.Ap (l++[s])) r2
  | none=>.ok (pD 5 l) r
 | .D,r=>(rec .H r).bind fun s r1=>rec (.Dp s) r1
 | .Dp s,r=>match acc (aO 35 35) r with
  | none=>.ok s r
  | some r1=>match acc (aj 91) r1 with
   | some r2=>kQ N r2 fun lo r3=>cx N (aj 58) r3 fun r4=>kQ N r4 fun hi r5=>cx N (aj 93) r5 fun r6=>(rec .H r6).bind fun t r7=>rec (.Dp (nT 2 lo hi [s,t])) r7
   | none=>kQ N r1 fun lo r2=>(rec .H r2).bind fun t r3=>rec (.Dp (nT 2 lo lo [s,t])) r3
 | .H,r=>match acc gO r with
  | none=>rec .R r
  | some r1=>cx N (aj 123) r1 fun r2=>io N r2 fun e r3=>cx N (aj 125) r3 fun r4=>cx N inW r4 fun r5=>(rec .H r5).bind fun s r6=>.ok (.mk 7 0 0 e ⟨#[]⟩ [s]) r6
 | .R,r=>(rec .U r).bind fun s r1=>rec (.Rp s) r1
 | .Rp s,r=>match acc (aj 91) r with
  | none=>.ok s r
  | some r1=>cx N (aj 42) r1 fun r2=>kQ N r2 fun lo r3=>match acc (aj 58) r3 with
   | some r4=>kQ N r4 fun hi r5=>cx N (aj 93) r5 fun r6=>rec (.Rp (nT 3 lo hi [s])) r6
   | none=>cx N (aj 93) r3 fun r4=>rec (.Rp (nT 3 lo lo [s])) r4
 | .U,r=>match acc (aj 123) r with
  | some r1=>io N r1 fun e r2=>cx N (aj 125) r2 fun r3=>.ok (.mk 1 0 0 e ⟨#[]⟩ []) r3
  | none=>cx N (aj 40) r fun r1=>(rec .S r1).bind fun s r2=>match acc (aj 44) r2 with
   | some r3=>iZ N r3 fun n r4=>cx N (aj 61) r4 fun r5=>io N r5 fun e r6=>cx N (aj 41) r6 fun r7=>.ok (.mk 6 0 0 e n [s]) r7
   | none=>cx N (aj 41) r2 fun r3=>.ok s r3
def kr(N:Int):Nat→QK→List Tok→QR Ts
 | 0,_,_=>.out
 | n+1,k,r=>bg N (kr N n) k r
def QK.cost:QK→Nat
 | .S=>12 | .Sp _=>1 | .A=>10 | .Ap _=>1 | .D=>8 | .Dp _=>1 | .H=>6 | .R=>4 | .Rp _=>1 | .U=>2
def cH(k:QK)(r:List Tok):Nat:=40*r.length+k.cost
section
variable {β : Type} {L1 L2 : Int}
end
end Go.Proofs.YthekkgfmagliiaaGreatDoor
namespace Go.Proofs.YthekkgfmagliiaaGreatDoor
open Go.RowKit
def QR.le{α:Type}(x y:QR α):Prop:=x=.out∨x=y
section
variable {α β : Type} {N : Int}
theorem QR.le.rfl{x:QR α}:x.le x:=.inr (Eq.refl x)
theorem cQ{x x':QR β}{f f':β→List Tok→QR α}(h:x.le x')(hf:∀v r,(f v r).le (f' v r)):(x.bind f).le (x'.bind f'):=by
 rcases h with h|h
 ·subst h;exact .inl (Eq.refl _)
 ·subst h;cases x with
  | out=>exact .inl (Eq.refl _)
  | late=>exact .rfl
  | bad l e=>exact .rfl
  | ok v r=>exact hf v r
theorem cF{m:ByteArray}{r:List Tok}{f f':List Tok→QR α}(hf:∀r,(f r).le (f' r)):(cx N m r f).le (cx N m r f'):=by
 unfold cx;cases acc m r with|some r1=>exact hf r1|none=>exact .rfl
theorem jI{r:List Tok}{f f':Int→List Tok→QR α}(hf:∀n r,(f n r).le (f' n r)):(kQ N r f).le (kQ N r f'):=by
 unfold kQ;cases dX r with|some p=>exact hf _ _|none=>exact .rfl
theorem A1{r:List Tok}{f f':ByteArray→List Tok→QR α}(hf:∀n r,(f n r).le (f' n r)):(iZ N r f).le (iZ N r f'):=by
 unfold iZ;cases cD r with|some p=>exact hf _ _|none=>exact .rfl
theorem ma{r:List Tok}{f f':Ex→List Tok→QR α}(hf:∀n r,(f n r).le (f' n r)):(io N r f).le (io N r f'):=by
 unfold io;cases par .W r with
 | out=>exact .rfl
 | bad c r1=>exact .rfl
 | ok e r1=>simp only;split<;>first|exact hf _ _|exact .rfl
end
section
variable {N : Int}
theorem pd{rec rec':QK→List Tok→QR Ts}(h:∀k r,(rec k r).le (rec' k r))(k:QK)(r:List Tok):(bg N rec k r).le (bg N rec' k r):=by
 cases k with
 | S=>exact cQ (h _ _) fun _ _=>h _ _
 | A=>exact cQ (h _ _) fun _ _=>h _ _
 | R=>exact cQ (h _ _) fun _ _=>h _ _
 | D=>exact cQ (h _ _) fun _ _=>h _ _
 | Sp l=>
  simp only[bg];cases acc orW r with
  | some r1=>exact cQ (h _ _) fun _ _=>h _ _
  | none=>exact .rfl
 | Ap l=>
  simp only[bg];cases acc jq r with
  | some r1=>exact cQ (h _ _) fun _ _=>h _ _
  | none=>exact .rfl
 | Dp s=>
  simp only[bg];cases acc (aO 35 35) r with
  | none=>exact .rfl
  | some r1=>
   simp only;cases acc (aj 91) r1 with
   | some r2=>exact jI fun _ _=>cF fun _=>jI fun _ _=>cF fun _=>cQ (h _ _) fun _ _=>h _ _
   | none=>exact jI fun _ _=>cQ (h _ _) fun _ _=>h _ _
 | H=>
  simp only[bg];cases acc gO r with
  | none=>exact h _ _
  | some r1=>exact cF fun _=>ma fun _ _=>cF fun _=>cF fun _=>cQ (h _ _) fun _ _=>.rfl
 | Rp s=>
  simp only[bg];cases acc (aj 91) r with
  | none=>exact .rfl
  | some r1=>
   refine cF fun _=>jI fun _ r3=>?_;cases acc (aj 58) r3 with
   | some r4=>exact jI fun _ _=>cF fun _=>h _ _
   | none=>exact cF fun _=>h _ _
 | U=>
  simp only[bg];cases acc (aj 123) r with
  | some r1=>exact ma fun _ _=>cF fun _=>.rfl
  | none=>
   refine cF fun _=>cQ (h _ _) fun _ r2=>?_;cases acc (aj 44) r2 with
   | some r3=>exact A1 fun _ _=>cF fun _=>ma fun _ _=>cF fun _=>.rfl
   | none=>exact cF fun _=>.rfl
theorem pO:∀(n:Nat) (k:QK) (r:List Tok),(kr N n k r).le (kr N (n+1) k r)
 | 0,_,_=>.inl rfl
 | n+1,k,r=>pd (pO n) k r
theorem kN{n m:Nat}(h:n≤m)(k:QK)(r:List Tok):(kr N n k r).le (kr N m k r):=by
 induction h with
 | refl=>exact .rfl
 | step h ih=>
  rcases ih with e|e
  ·exact .inl e
  ·rw[e];exact pO _ k r
end
def QK.eats:QK→Nat
 | .Sp _=>0 | .Ap _=>0 | .Dp _=>0 | .Rp _=>0|_=>1
def QK.big:QK→Nat
 | .Sp l=>bM l+2*l.length+4*(1-l.length)
 | .Ap l=>bM l+2*l.length+4*(1-l.length)
 | .Dp s=>bq s+2
 | .Rp s=>bq s+2
 | _=>0
structure GD(r:List Tok)(c K:Nat)(x:QR Ts):Prop where
 ne:x≠.out
 ok:∀v r1,x=.ok v r1→r1.length+c≤r.length∧bq v+2+2*r1.length≤K+2*r.length
 bad:∀l e,x=.bad l e→e≠0
theorem Am{r:List Tok}{e:Ex}{r1:List Tok}(h:par .W r=.ok e r1):r1.length<r.length∧aQ e+r1.length≤r.length:=by
 have h1:=yc (40*r.length+20) .W r;have h3:=tV .W r;unfold par at h h3;rw[h]at h1 h3;have h2:=h1.2;have h4:=h3.2 rfl;simp only[PK.size]at h2;exact⟨h4,by omega⟩
theorem qM(a b:List Ts):bM (a++b)=bM a+bM b:=by
 induction a with
 | nil=>simp[bM]
 | cons x a ih=>simp only[List.cons_append,bM,ih];omega
section
variable {N : Int} {r r' : List Tok} {c c' K K' : Nat}
theorem mW{v:Ts}{r1:List Tok}(h1:r1.length+c≤r.length)(h2:bq v+2+2*r1.length≤K+2*r.length):GD r c K (.ok v r1):=
 ⟨(by intro h;cases h),(by rintro _ _ ⟨⟩;exact⟨h1,h2⟩),(by rintro _ _ ⟨⟩)⟩
theorem sg{l e:Int}(h:e≠0):GD r c K (.bad l e):=⟨(by intro h;cases h),(by rintro _ _ ⟨⟩),(by rintro _ _ ⟨⟩;exact h)⟩
theorem xv:GD r c K .late:=⟨(by intro h;cases h),(by rintro _ _ ⟨⟩),(by rintro _ _ ⟨⟩)⟩
theorem sK(q:List Tok):GD r c K (i7 N q):=by cases q<;>exact sg (by decide)
theorem GD.bind{x:QR Ts}{f:Ts→List Tok→QR Ts}(h:GD r' c' K' x)(hf:∀v r1,r1.length+c'≤r'.length→bq v+2+2*r1.length≤K'+2*r'.length→GD r c K (f v r1)):GD r c K (x.bind f):=by
 cases x with
 | out=>exact absurd rfl h.ne
 | late=>exact xv
 | bad l e=>exact sg (h.bad l e rfl)
 | ok v r1=>exact hf v r1 (h.ok v r1 rfl).1 (h.ok v r1 rfl).2
theorem GD.weak{x:QR Ts}(h:GD r' c' K' x)(h1:r'.length+c≤r.length+c')(h2:K'+2*r'.length≤K+2*r.length):GD r c K x:=
 ⟨h.ne,fun v r1 e=>by have:=h.ok v r1 e;omega,h.bad⟩
theorem ec{m:ByteArray}{f:List Tok→QR Ts}(hf:∀r1,r1.length<r'.length→GD r c K (f r1)):GD r c K (cx N m r' f):=by
 unfold cx;cases h:acc m r' with
 | some r1=>exact hf r1 (aE h).2
 | none=>exact sK _
theorem pp{f:Int→List Tok→QR Ts}(hf:∀n r1,r1.length<r'.length→GD r c K (f n r1)):GD r c K (kQ N r' f):=by
 unfold kQ;cases h:dX r' with
 | some p=>exact hf _ _ (jC (n:=p.1) (r1:=p.2) h).2
 | none=>exact sK _
theorem Ez{f:ByteArray→List Tok→QR Ts}(hf:∀n r1,r1.length<r'.length→GD r c K (f n r1)):GD r c K (iZ N r' f):=by
 unfold iZ;cases h:cD r' with
 | some p=>exact hf _ _ (fl (s:=p.1) (r1:=p.2) h).2
 | none=>exact sK _
theorem sB{f:Ex→List Tok→QR Ts}(hf:∀e r1,r1.length<r'.length→aQ e+r1.length≤r'.length→GD r c K (f e r1)):GD r c K (io N r' f):=by
 unfold io;cases h:par .W r' with
 | out=>exact absurd h (oA _ _)
 | bad c r1=>
  have:=(FO h).1;simp only;unfold Jq;split
  ·exact sg (by decide)
  ·cases r1<;>exact sg this
 | ok e r1=>
  obtain⟨h1,h2⟩:=Am h;simp only;split
  ·exact hf e r1 h1 h2
  ·exact xv
theorem nO:aQ zEx=1:=rfl
theorem xQ(o:Int):∀l:List Ts,bq (pD o l)+2≤bM l+2*l.length+4*(1-l.length)
 | []=>by simp[pD,nT,bq,bM,nO]
 | [s]=>by simp[pD,bM]
 | a::b::l=>by simp only[pD,nT,bq,nO,List.length_cons];omega
theorem F2{n:Nat}{rec:QK→List Tok→QR Ts}(h:∀k r,cH k r≤n→GD r k.eats k.big (rec k r))(k:QK)(r:List Tok)(hn:cH k r≤n+1):GD r k.eats k.big (bg N rec k r):=by
 cases k with
 | S=>
  refine(h .A r (by simp only[cH,QK.cost]at *;omega)).bind fun s r1 h1 h2=>?_;simp only[QK.eats,QK.big]at h1 h2;exact(h (.Sp [s]) r1 (by simp only[cH,QK.cost]at *;omega)).weak (by simp only[QK.eats];omega) (by simp[QK.big,bM];omega)
 | A=>
  refine(h .D r (by simp only[cH,QK.cost]at *;omega)).bind fun s r1 h1 h2=>?_;simp only[QK.eats,QK.big]at h1 h2;exact(h (.Ap [s]) r1 (by simp only[cH,QK.cost]at *;omega)).weak (by simp only[QK.eats];omega) (by simp[QK.big,bM];omega)
 | D=>
  refine(h .H r (by simp only[cH,QK.cost]at *;omega)).bind fun s r1 h1 h2=>?_;simp only[QK.eats,QK.big]at h1 h2;exact(h (.Dp s) r1 (by simp only[cH,QK.cost]at *;omega)).weak (by simp only[QK.eats];omega) (by simp only[QK.big];omega)
 | R=>
  refine(h .U r (by simp only[cH,QK.cost]at *;omega)).bind fun s r1 h1 h2=>?_;simp only[QK.eats,QK.big]at h1 h2;exact(h (.Rp s) r1 (by simp only[cH,QK.cost]at *;omega)).weak (by simp only[QK.eats];omega) (by simp only[QK.big];omega)
 | Sp l=>
  simp only[bg];cases h0:acc orW r with
  | none=>exact mW (by simp only[QK.eats];omega) (by have:=xQ 4 l;simp only[QK.big];omega)
  | some r1=>
   have l1:=(aE h0).2;refine(h .A r1 (by simp only[cH,QK.cost]at *;omega)).bind fun s r2 h1 h2=>?_;simp only[QK.eats,QK.big]at h1 h2;exact(h (.Sp (l++[s])) r2 (by simp only[cH,QK.cost]at *;omega)).weak (by simp only[QK.eats];omega) (by simp only[QK.big,qM,bM,List.length_append,List.length_cons,List.length_nil];omega)
 | Ap l=>
  simp only[bg];cases h0:acc jq r with
  | none=>exact mW (by simp only[QK.eats];omega) (by have:=xQ 5 l;simp only[QK.big];omega)
  | some r1=>
   have l1:=(aE h0).2;refine(h .D r1 (by simp only[cH,QK.cost]at *;omega)).bind fun s r2 h1 h2=>?_;simp only[QK.eats,QK.big]at h1 h2;exact(h (.Ap (l++[s])) r2 (by simp only[cH,QK.cost]at *;omega)).weak (by simp only[QK.eats];omega) (by simp only[QK.big,qM,bM,List.length_append,List.length_cons,List.length_nil];omega)
 | Dp s=>
  simp only[bg];cases h0:acc (aO 35 35) r with
  | none=>exact mW (by simp only[QK.eats];omega) (by simp only[QK.big];omega)
  | some r1=>
   have l1:=(aE h0).2
   have last:∀(lo hi:Int) (q:List Tok),q.length+1<r.length→GD r 0 (bq s+2) ((rec .H q).bind fun t r7=>rec (.Dp (nT 2 lo hi [s,t])) r7):=fun lo hi q hq=>by
    refine(h .H q (by simp only[cH,QK.cost]at *;omega)).bind fun t r7 h1 h2=>?_;simp only[QK.eats,QK.big]at h1 h2;exact(h (.Dp _) r7 (by simp only[cH,QK.cost]at *;omega)).weak (by simp only[QK.eats];omega) (by simp only[QK.big,nT,bq,bM,nO];omega)
   simp only;cases h1:acc (aj 91) r1 with
   | some r2=>
    have l2:=(aE h1).2;exact pp fun _ r3 h3=>ec fun r4 h4=>pp fun _ r5 h5=>ec fun r6 h6=>last _ _ r6 (by omega)
   | none=>exact pp fun _ r3 h3=>last _ _ r3 (by omega)
 | H=>
  simp only[bg];cases h0:acc gO r with
  | none=>exact h .R r (by simp only[cH,QK.cost]at *;omega)
  | some r1=>
   have l1:=(aE h0).2;refine ec fun r2 h2=>sB fun e r3 h3 h3'=>ec fun r4 h4=>ec fun r5 h5=>?_;refine(h .H r5 (by simp only[cH,QK.cost]at *;omega)).bind fun s r6 h6 h7=>?_;simp only[QK.eats,QK.big]at h6 h7;exact mW (by simp only[QK.eats];omega) (by simp only[QK.big,bq,bM];omega)
 | Rp s=>
  simp only[bg];cases h0:acc (aj 91) r with
  | none=>exact mW (by simp only[QK.eats];omega) (by simp only[QK.big];omega)
  | some r1=>
   have l1:=(aE h0).2
   have last:∀(lo hi:Int) (q:List Tok),q.length+2<r.length→GD r 0 (bq s+2) (rec (.Rp (nT 3 lo hi [s])) q):=fun lo hi q hq=>
    (h (.Rp _) q (by simp only[cH,QK.cost]at *;omega)).weak (by simp only[QK.eats];omega) (by simp only[QK.big,nT,bq,bM,nO];omega)
   refine ec fun r2 h2=>pp fun lo r3 h3=>?_;cases h4:acc (aj 58) r3 with
   | some r4=>
    have l4:=(aE h4).2;exact pp fun _ r5 h5=>ec fun r6 h6=>last _ _ r6 (by omega)
   | none=>exact ec fun r4 h4=>last _ _ r4 (by omega)
 | U=>
  simp only[bg];cases h0:acc (aj 123) r with
  | some r1=>
   have l1:=(aE h0).2;exact sB fun e r2 h2 h2'=>ec fun r3 h3=>mW (by simp only[QK.eats];omega) (by simp only[QK.big,bq,bM];omega)
  | none=>
   refine ec fun r1 h1=>(h .S r1 (by simp only[cH,QK.cost]at *;omega)).bind fun s r2 h2 h2'=>?_;simp only[QK.eats,QK.big]at h2 h2';cases h3:acc (aj 44) r2 with
   | some r3=>
    have l3:=(aE h3).2;exact Ez fun nm r4 h4=>ec fun r5 h5=>sB fun e r6 h6 h6'=>ec fun r7 h7=>mW (by simp only[QK.eats];omega) (by simp only[QK.big,bq,bM];omega)
   | none=>exact ec fun r3 h3=>mW (by simp only[QK.eats];omega) (by simp only[QK.big];omega)
theorem CN:∀(n:Nat) (k:QK) (r:List Tok),cH k r≤n→GD r k.eats k.big (kr N n k r)
 | 0,k,r,h=>by exfalso;unfold cH at h;cases k<;>simp only[QK.cost]at h<;>omega
 | n+1,k,r,h=>F2 (fun k r=>CN n k r) k r h
end
def qp(N:Int)(k:QK)(r:List Tok):QR Ts:=kr N (40*r.length+12) k r
section
variable {N : Int}
theorem xJ(k:QK)(r:List Tok):GD r k.eats k.big (qp N k r):=CN _ k r (by unfold cH;cases k<;>simp only[QK.cost]<;>omega)
theorem D5(n:Nat)(k:QK)(r:List Tok):(kr N n k r).le (qp N k r):=by
 rcases Nat.le_total n (40*r.length+12)with h|h
 ·exact kN h k r
 ·rcases kN (N:=N) h k r with e|e
  ·exact absurd e (xJ k r).ne
  ·exact .inr e.symm
theorem cI(k:QK)(r:List Tok):qp N k r=bg N (qp N) k r:=by
 have h1:=pd (N:=N) (D5 (N:=N) (40*r.length+12)) k r;have h2:=kN (N:=N) (Nat.le_succ (40*r.length+12)) k r;rcases h2 with e|e
 ·exact absurd e (xJ k r).ne
 ·rcases h1 with g|g
  ·exact absurd (e.trans g) (xJ k r).ne
  ·exact e.trans g
theorem IV{k:QK}{r r1:List Tok}{s:Ts}(h:qp N k r=.ok s r1):r1.length+k.eats≤r.length:=((xJ k r).ok s r1 h).1
end
def uz(N:Int)(r:List Tok):QR Pr:=cx N uU r fun r1=>iZ N r1 fun nm r2=>cx N (aj 58) r2 fun r3=>match acc kR r3 with
 | some r4=>(qp N .S r4).bind fun t r5=>cx N (aj 59) r5 fun r6=>.ok ⟨nm,true,false,zT,t⟩ r6
 | none=>(qp N .S r3).bind fun c r4=>cx N (aj 124) r4 fun r5=>match acc (aO 45 62) r5 with
  | some r6=>(qp N .S r6).bind fun t r7=>cx N (aj 59) r7 fun r8=>.ok ⟨nm,false,true,c,t⟩ r8
  | none=>cx N (aO 61 62) r5 fun r6=>(qp N .S r6).bind fun t r7=>cx N (aj 59) r7 fun r8=>.ok ⟨nm,false,false,c,t⟩ r8
end Go.Proofs.YthekkgfmagliiaaGreatDoor
