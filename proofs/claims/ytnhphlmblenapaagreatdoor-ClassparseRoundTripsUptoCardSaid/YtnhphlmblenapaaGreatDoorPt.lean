import Derived.Test.YtnhphlmblenapaaGreatDoorPg
set_option linter.unusedVariables false
set_option linter.unusedSimpArgs false
set_option linter.unusedSectionVars false
open List renaming suffix_refl->TU,suffix_cons->TV
open Nat renaming le_refl->TW,lt_of_lt_of_le->TX,lt_of_le_of_lt->TY,le_succ->TZ
namespace Go.Proofs.YtnhphlmblenapaaGreatDoor
open Go.RowKit
theorem Ga{m:ByteArray}{r r1:List Tok}(h:acc m r=some r1):∃t,r=t::r1/\bq t=true/\(t.kind=4\/t.kind=2)/\t.text=m:=by
 cases r with
 | nil=>cases h
 | cons t q=>
  simp only[acc]at h;split at h
  .rename_i hc;cases h;exact⟨t,rfl,hc⟩
  .cases h
theorem Az{r r1:List Tok}{s:ByteArray}(h:bW r=some (s,r1)):∃t,r=t::r1/\bq t=true/\t.kind=1/\t.text=s:=by
 cases r with
 | nil=>cases h
 | cons t q=>
  simp only[bW]at h;split at h
  .rename_i hc;cases h;exact⟨t,rfl,hc.1,hc.2,rfl⟩
  .cases h
theorem uy{r r1:List Tok}{n:Int}(h:ct r=some (n,r1)):∃t,r=t::r1/\bq t=true/\t.kind=3/\t.num=n:=by
 cases r with
 | nil=>cases h
 | cons t q=>
  simp only[ct]at h;split at h
  .rename_i hc;cases h;exact⟨t,rfl,hc.1,hc.2,rfl⟩
  .cases h
theorem az{m:ByteArray}{r r1:List Tok}(h:acc m r=some r1):r1 <:+ r/\r1.length<r.length:=by
 obtain⟨t,rfl,-⟩:=Ga h;exact⟨TV _ _,by simp⟩
theorem gp{r r1:List Tok}{s:ByteArray}(h:bW r=some (s,r1)):r1 <:+ r/\r1.length<r.length:=by
 obtain⟨t,rfl,-⟩:=Az h;exact⟨TV _ _,by simp⟩
theorem kK{r r1:List Tok}{n:Int}(h:ct r=some (n,r1)):r1 <:+ r/\r1.length<r.length:=by
 obtain⟨t,rfl,-⟩:=uy h;exact⟨TV _ _,by simp⟩
theorem qp:∀(l:List (ByteArray×Int×Nat)) (k:Nat) (r:List Tok) {o:Int} {r1:List Tok},fP l k r=some (o,r1)->r1 <:+ r/\r1.length<r.length
 | [],_,_,_,_,h=>by cases h
 | b::l,k,r,o,r1,h=>by
  simp only[fP]at h;split at h
  .split at h
   .rename_i q hq;cases h;exact az hq
   .exact qp l k r h
  .exact qp l k r h
theorem pI{k:Nat}{r r1:List Tok}{o:Int}{ex:Bool}(h:dH k r=some (o,ex,r1)):r1 <:+ r/\r1.length<r.length:=by
 unfold dH at h;split at h
 .rename_i o' q hq;cases h;exact qp _ _ _ hq
 .split at h
  .split at h
   .rename_i q hq;cases h;exact az hq
   .split at h
    .rename_i q hq;cases h;exact az hq
    .cases h
  .cases h
def PR.le(x y:PR):Prop:=x=.out\/x=y
theorem PR.le.rfl{x:PR}:x.le x:=.inr (Eq.refl x)
theorem cF{x x':PR}{f f':Ex->List Tok->PR}(h:x.le x')(hf:∀e r,(f e r).le (f' e r)):(x.bind f).le (x'.bind f'):=by
 rcases h with rfl|rfl
 .exact .inl (Eq.refl _)
 .cases x with
  | out=>exact .inl (Eq.refl _)
  | bad e r=>exact .rfl
  | ok e r=>exact hf e r
theorem AF{rec rec':PK->List Tok->PR}(h:∀k r,(rec k r).le (rec' k r))(r:List Tok):(dO rec r).le (dO rec' r):=by
 unfold dO;cases acc (aa 40) r with
 | some r1=>exact cF (h _ _) fun e r2=>.rfl
 | none=>
 cases ct r with
 | some p=>exact .rfl
 | none=>
 cases bW r with
 | none=>exact .rfl
 | some p=>
 obtain⟨s,r1⟩:=p;simp only;cases (if s=mD then acc (aa 40) r1 else none)with
 | some r2=>exact .rfl
 | none=>
 simp only;cases (if s=gV then acc (aa 40) r1 else none)with
 | some r2=>exact cF (h _ _) fun e r3=>.rfl
 | none=>
 simp only;cases acc (aa 91) r1 with
 | some r2=>exact cF (h _ _) fun e r3=>.rfl
 | none=>exact .rfl
theorem rQ{rec rec':PK->List Tok->PR}(h:∀k r,(rec k r).le (rec' k r))(k:PK)(r:List Tok):(aJ rec k r).le (aJ rec' k r):=by
 cases k with
 | W=>
  simp only[aJ];refine cF (h _ _) fun c r1=>?_;cases acc (aa 63) r1 with
  | none=>exact .rfl
  | some r2=>
   refine cF (h _ _) fun a r3=>?_;cases acc (aa 58) r3 with
   | none=>exact .rfl
   | some r4=>exact cF (h _ _) fun b r5=>.rfl
 | I=>
  simp only[aJ];refine cF (h _ _) fun c r1=>?_;cases acc (aE 61 62) r1 with
  | none=>exact .rfl
  | some r2=>exact cF (h _ _) fun b r5=>.rfl
 | L k=>
  simp only[aJ];split
  .exact h _ _
  .exact cF (h _ _) fun b r5=>h _ _
 | Lp k a=>
  simp only[aJ];cases (if k=9 then acc b9 r else none)with
  | some r1=>exact cF (h _ _) fun b r5=>h _ _
  | none=>
   simp only;cases dH k r with
   | none=>exact .rfl
   | some p=>exact cF (h _ _) fun b r5=>h _ _
 | In a=>
  simp only[aJ];cases acc (aa 123) r with
  | none=>exact .rfl
  | some r1=>exact h _ _
 | Ip args=>
  simp only[aJ];refine cF (h _ _) fun lo r1=>?_;cases acc (aE 46 46) r1 with
  | none=>exact .rfl
  | some r2=>
   refine cF (h _ _) fun hi r3=>?_;cases acc (aa 44) r3 with
   | some r4=>exact h _ _
   | none=>exact .rfl
 | U=>
  simp only[aJ];cases acc (aa 33) r with
  | some r1=>exact cF (h _ _) fun b r5=>.rfl
  | none=>
  cases acc (aa 126) r with
  | some r1=>exact cF (h _ _) fun b r5=>.rfl
  | none=>
  cases acc (aa 45) r with
  | some r1=>exact cF (h _ _) fun b r5=>.rfl
  | none=>exact h _ _
 | P=>exact AF h r
theorem tv:∀(n:Nat) (k:PK) (r:List Tok),(gr n k r).le (gr (n+1) k r)
 | 0,_,_=>.inl rfl
 | n+1,k,r=>rQ (tv n) k r
theorem n8{n m:Nat}(h:n≤m)(k:PK)(r:List Tok):(gr n k r).le (gr m k r):=by
 induction h with
 | refl=>exact .rfl
 | step h ih=>
  rcases ih with e|e
  .exact .inl e
  .rw[e];exact tv _ k r
def iV(s:Bool)(r:List Tok):PR->Prop
 | .out=>True
 | .bad _ r'=>r' <:+ r
 | .ok _ r'=>r' <:+ r/\(s=true->r'.length<r.length)
theorem iV.weak{s:Bool}{r r0:List Tok}{x:PR}(h:iV s r x)(hr:r <:+ r0):iV s r0 x:=by
 cases x with
 | out=>trivial
 | bad e q=>exact h.trans hr
 | ok e q=>exact⟨h.1.trans hr,fun e=>TX (h.2 e) hr.length_le⟩
theorem iV.strict{s:Bool}{r r0:List Tok}{x:PR}(h:iV s r x)(hr:r <:+ r0)(hl:r.length<r0.length):iV true r0 x:=by
 cases x with
 | out=>trivial
 | bad e q=>exact h.trans hr
 | ok e q=>exact⟨h.1.trans hr,fun _=>TY h.1.length_le hl⟩
theorem iV.less{s:Bool}{r:List Tok}{x:PR}(h:iV s r x):iV false r x:=by
 cases x with
 | out=>trivial
 | bad e q=>exact h
 | ok e q=>exact⟨h.1,fun h=>by cases h⟩
theorem cG{s t:Bool}{r:List Tok}{x:PR}{f:Ex->List Tok->PR}(h:iV s r x)(hf:∀e r1,r1 <:+ r->iV t r1 (f e r1)):iV (s||t) r (x.bind f):=by
 cases x with
 | out=>trivial
 | bad e q=>exact h
 | ok e q=>
  have h1:=hf e q h.1;show iV (s||t) r (f e q);cases hx:f e q with
  | out=>trivial
  | bad e' q'=>rw[hx]at h1;exact h1.trans h.1
  | ok e' q'=>
   rw[hx]at h1;refine⟨h1.1.trans h.1,fun hs=>?_⟩;rcases Bool.or_eq_true_iff.1 hs with g|g
   .exact TY h1.1.length_le (h.2 g)
   .exact TX (h1.2 g) h.1.length_le
theorem dZ{s:Bool}(r:List Tok):iV s r (eL r):=by
 cases r with
 | nil=>exact TU _
 | cons t r=>exact TU _
theorem ef(e:Ex){r r1:List Tok}(h:r1 <:+ r):iV false r (.ok e r1):=⟨h,fun h=>by cases h⟩
theorem FD{s:Bool}(e:Ex){r r1:List Tok}(h:r1 <:+ r/\r1.length<r.length):iV s r (.ok e r1):=⟨h.1,fun _=>h.2⟩
def PK.eats:PK->Bool
 | .Lp _ _=>false
 | _=>true
theorem CM{rec:PK->List Tok->PR}(h:∀k r,iV k.eats r (rec k r))(r:List Tok):iV true r (dO rec r):=by
 unfold dO;cases h1:acc (aa 40) r with
 | some r1=>
  obtain⟨a1,a2⟩:=az h1;refine(cG (t:=false) ((h .W r1)) fun e r2 hs=>?_).strict a1 a2;cases h2:acc (aa 41) r2 with
  | some r3=>exact ef _ (az h2).1
  | none=>exact dZ _
 | none=>
 cases h2:ct r with
 | some p=>
  obtain⟨n,r1⟩:=p;simp only;split
  .exact TU _
  .exact FD _ (kK h2)
 | none=>
 cases h3:bW r with
 | none=>exact dZ _
 | some p=>
 obtain⟨s,r1⟩:=p;obtain⟨n1,n2⟩:=gp h3
 suffices hh:∀x,iV false r1 x->iV true r x by
  refine hh _ ?_;simp only;cases h4:(if s=mD then acc (aa 40) r1 else none)with
  | some r2=>
   have a1:r2 <:+ r1:=by
    split at h4
    .exact(az h4).1
    .cases h4
   simp only;cases h5:bW r2 with
   | none=>exact(dZ r2).weak a1
   | some p=>
    obtain⟨a,r3⟩:=p;simp only;cases h6:acc (aa 41) r3 with
    | some r4=>exact ef _ (((az h6).1.trans (gp h5).1).trans a1)
    | none=>exact(dZ r3).weak ((gp h5).1.trans a1)
  | none=>
  simp only;cases h5:(if s=gV then acc (aa 40) r1 else none)with
  | some r2=>
   have a1:r2 <:+ r1:=by
    split at h5
    .exact(az h5).1
    .cases h5
   have:=(cG (t:=false) (f:=fun e r3=>match acc (aa 41) r3 with|some r4=>.ok (aU 25 [e]) r4|none=>eL r3) (h .W r2) fun e r3 hs=>by
    cases h6:acc (aa 41) r3 with
    | some r4=>exact ef _ (az h6).1
    | none=>exact dZ _).weak a1
   exact this.less
  | none=>
  simp only;cases h6:acc (aa 91) r1 with
  | some r2=>
   have:=(cG (t:=false) (f:=fun e r3=>match acc (aa 93) r3 with|some r4=>.ok (.mk 3 0 s [e]) r4|none=>eL r3) (h .W r2) fun e r3 hs=>by
    cases h6:acc (aa 93) r3 with
    | some r4=>exact ef _ (az h6).1
    | none=>exact dZ _).weak (az h6).1
   exact this.less
  | none=>
  simp only;cases h7:acc (aa 64) r1 with
  | some r2=>
   simp only;cases h8:ct r2 with
   | none=>exact(dZ r2).weak (az h7).1
   | some p=>
    obtain⟨n,r3⟩:=p;simp only;split
    .exact(az h7).1
    .exact ef _ ((kK h8).1.trans (az h7).1)
  | none=>exact ef _ (TU _)
 intro x hx;exact hx.strict n1 n2
theorem Du{rec:PK->List Tok->PR}(h:∀k r,iV k.eats r (rec k r))(k:PK)(r:List Tok):iV k.eats r (aJ rec k r):=by
 cases k with
 | W=>
  simp only[aJ];refine cG (s:=true) (t:=false) (h .I r) fun c r1 _=>?_;cases h1:acc (aa 63) r1 with
  | none=>exact ef _ (TU _)
  | some r2=>
   have:=cG (s:=true) (t:=false) (f:=fun a r3=>match acc (aa 58) r3 with|none=>eL r3|some r4=>(rec .W r4).bind fun b r5=>.ok (aU 22 [c,a,b]) r5) (h .W r2) fun a r3 _=>by
    cases h2:acc (aa 58) r3 with
    | none=>exact dZ _
    | some r4=>
     have:=(cG (s:=true) (t:=false) (f:=fun b r5=>.ok (aU 22 [c,a,b]) r5) (h .W r4) fun b r5 _=>ef _ (TU _)).weak (az h2).1;exact this.less
   have h3:=this.weak (az h1).1;exact h3.less
 | I=>
  simp only[aJ];refine cG (s:=true) (t:=false) (h (.L 3) r) fun c r1 _=>?_;cases h1:acc (aE 61 62) r1 with
  | none=>exact ef _ (TU _)
  | some r2=>
   have:=(cG (s:=true) (t:=false) (f:=fun b r5=>.ok (aU 21 [c,b]) r5) (h .I r2) fun b r5 _=>ef _ (TU _)).weak (az h1).1;exact this.less
 | L k=>
  simp only[aJ];split
  .exact h .U r
  .exact cG (s:=true) (t:=false) (h (.L (k+1)) r) fun a r1 _=>h (.Lp k a) r1
 | Lp k a=>
  simp only[aJ];cases h1:(if k=9 then acc b9 r else none)with
  | some r1=>
   have a1:r1 <:+ r:=by
    split at h1
    .exact(az h1).1
    .cases h1
   have:=(cG (s:=true) (t:=false) (f:=fun b r2=>rec (.Lp k b) r2) (h (.In a) r1) fun b r2 _=>h (.Lp k b) r2).weak a1;exact this.less
  | none=>
   simp only;cases h2:dH k r with
   | none=>exact ef _ (TU _)
   | some p=>
    obtain⟨o,ex,r1⟩:=p;have:=(cG (s:=true) (t:=false) (f:=fun c r2=>rec (.Lp k (if ex then aU o [c,a]else aU o [a,c])) r2) (h (.L (k+1)) r1) fun b r2 _=>h (.Lp k _) r2).weak (pI h2).1;exact this.less
 | In a=>
  simp only[aJ];cases h1:acc (aa 123) r with
  | none=>exact dZ _
  | some r1=>exact(h (.Ip [a]) r1).weak (az h1).1
 | Ip args=>
  simp only[aJ];refine cG (s:=true) (t:=false) (h .W r) fun lo r1 _=>?_;cases h1:acc (aE 46 46) r1 with
  | none=>exact dZ _
  | some r2=>
   have:=(cG (s:=true) (t:=false) (f:=fun hi r3=>match acc (aa 44) r3 with|some r4=>rec (.Ip (args++[lo,hi])) r4|none=>match acc (aa 125) r3 with|some r5=>.ok (aU 23 (args++[lo,hi])) r5|none=>eL r3) (h .W r2) fun hi r3 _=>by
    cases h2:acc (aa 44) r3 with
    | some r4=>
     have:=(h (.Ip (args++[lo,hi])) r4).weak (az h2).1;exact this.less
    | none=>
     simp only;cases h3:acc (aa 125) r3 with
     | some r5=>exact ef _ (az h3).1
     | none=>exact dZ _).weak (az h1).1
   exact this.less
 | U=>
  simp only[aJ];cases h1:acc (aa 33) r with
  | some r1=>exact(cG (s:=true) (t:=false) (h .U r1) fun a r2 _=>ef _ (TU _)).weak (az h1).1
  | none=>
  cases h2:acc (aa 126) r with
  | some r1=>exact(cG (s:=true) (t:=false) (h .U r1) fun a r2 _=>ef _ (TU _)).weak (az h2).1
  | none=>
  cases h3:acc (aa 45) r with
  | some r1=>exact(cG (s:=true) (t:=false) (h .U r1) fun a r2 _=>ef _ (TU _)).weak (az h3).1
  | none=>exact h .P r
 | P=>exact CM h r
theorem pM:∀(n:Nat) (k:PK) (r:List Tok),iV k.eats r (gr n k r)
 | 0,_,_=>trivial
 | n+1,k,r=>Du (pM n) k r
def PK.cost:PK->Nat
 | .W=>15
 | .I=>14
 | .L k=>3+(13-k)
 | .Lp _ _=>1
 | .In _=>1
 | .Ip _=>16
 | .U=>2
 | .P=>1
def H1(k:PK)(r:List Tok):Nat:=40*r.length+k.cost
theorem dR{x:PR}{f:Ex->List Tok->PR}(h:x≠.out)(hf:∀e r,x=.ok e r->f e r≠.out):x.bind f≠.out:=by
 cases x with
 | out=>exact absurd rfl h
 | bad e r=>intro h;cases h
 | ok e r=>exact hf e r rfl
theorem gO(r:List Tok):eL r≠.out:=by cases r<;>(intro h;cases h)
theorem rx(k:PK):1≤k.cost/\k.cost≤16:=by
 cases k<;>simp only[PK.cost]<;>omega
theorem mq{n:Nat}{k:PK}{r r1:List Tok}{e:Ex}(h:gr n k r=.ok e r1):r1.length≤r.length/\(k.eats=true->r1.length<r.length):=by
 have:=pM n k r;rw[h]at this;exact⟨this.1.length_le,this.2⟩
theorem SZ:∀(n:Nat) (k:PK) (r:List Tok),H1 k r≤n->gr n k r≠.out:=by
 intro n
 induction n with
 | zero=>intro k r h;have:=(rx k).1;unfold H1 at h;omega
 | succ n ih=>
  intro k r hn
  have less:∀(k':PK) (r':List Tok),r'.length<r.length->gr n k' r'≠.out:=fun k' r' hl=>ih k' r' (by
   have:=(rx k').2;have:=(rx k).1;unfold H1 at *;omega)
  have same:∀(k':PK),k'.cost<k.cost->gr n k' r≠.out:=fun k' hc=>ih k' r (by unfold H1 at *;omega);show aJ (gr n) k r≠.out;cases k with
  | W=>
   simp only[aJ];refine dR (same .I (by decide)) fun c r1 h1=>?_;have l1:=(mq h1).2 rfl;cases h2:acc (aa 63) r1 with
   | none=>intro h;cases h
   | some r2=>
    have l2:=(az h2).2;refine dR (less _ _ (by omega)) fun a r3 h3=>?_;have l3:=(mq h3).1;cases h4:acc (aa 58) r3 with
    | none=>exact gO _
    | some r4=>
     have l4:=(az h4).2;exact dR (less _ _ (by omega)) fun b r5 _ h=>by cases h
  | I=>
   simp only[aJ];refine dR (same (.L 3) (by decide)) fun c r1 h1=>?_;have l1:=(mq h1).2 rfl;cases h2:acc (aE 61 62) r1 with
   | none=>intro h;cases h
   | some r2=>
    have l2:=(az h2).2;exact dR (less _ _ (by omega)) fun b r5 _ h=>by cases h
  | L k=>
   simp only[aJ];split
   .exact same .U (by simp only[PK.cost];omega)
   .rename_i hk;refine dR (same (.L (k+1)) (by simp only[PK.cost];omega)) fun c r1 h1=>?_;exact less _ _ ((mq h1).2 rfl)
  | Lp k a=>
   simp only[aJ];cases h1:(if k=9 then acc b9 r else none)with
   | some r1=>
    have a1:r1.length<r.length:=by
     split at h1
     .exact(az h1).2
     .cases h1
    exact dR (less _ _ a1) fun b r2 h2=>less _ _ (by have:=(mq h2).1;omega)
   | none=>
    simp only;cases h2:dH k r with
    | none=>intro h;cases h
    | some p=>
     obtain⟨o,ex,r1⟩:=p;have a1:=(pI h2).2;exact dR (less _ _ a1) fun b r2 h2=>less _ _ (by have:=(mq h2).1;omega)
  | In a=>
   simp only[aJ];cases h1:acc (aa 123) r with
   | none=>exact gO _
   | some r1=>exact less _ _ (az h1).2
  | Ip args=>
   simp only[aJ];refine dR (same .W (by simp only[PK.cost];omega)) fun lo r1 h1=>?_;have l1:=(mq h1).2 rfl;cases h2:acc (aE 46 46) r1 with
   | none=>exact gO _
   | some r2=>
    have l2:=(az h2).2;refine dR (less _ _ (by omega)) fun hi r3 h3=>?_;have l3:=(mq h3).1;cases h4:acc (aa 44) r3 with
    | some r4=>exact less _ _ (by have:=(az h4).2;omega)
    | none=>
     simp only;cases h5:acc (aa 125) r3 with
     | some r5=>intro h;cases h
     | none=>exact gO _
  | U=>
   simp only[aJ];cases h1:acc (aa 33) r with
   | some r1=>exact dR (less _ _ (az h1).2) fun b r5 _ h=>by cases h
   | none=>
   cases h2:acc (aa 126) r with
   | some r1=>exact dR (less _ _ (az h2).2) fun b r5 _ h=>by cases h
   | none=>
   cases h3:acc (aa 45) r with
   | some r1=>exact dR (less _ _ (az h3).2) fun b r5 _ h=>by cases h
   | none=>exact same .P (by decide)
  | P=>
   show dO (gr n) r≠.out;unfold dO;cases h1:acc (aa 40) r with
   | some r1=>
    refine dR (less _ _ (az h1).2) fun e r2 _=>?_;cases acc (aa 41) r2 with
    | some r3=>intro h;cases h
    | none=>exact gO _
   | none=>
   cases h2:ct r with
   | some p=>simp only;split<;>(intro h;cases h)
   | none=>
   cases h3:bW r with
   | none=>exact gO _
   | some p=>
   obtain⟨s,r1⟩:=p;have l1:=(gp h3).2;simp only;cases h4:(if s=mD then acc (aa 40) r1 else none)with
   | some r2=>
    simp only;cases bW r2 with
    | none=>exact gO _
    | some p=>
     simp only;cases acc (aa 41) p.2 with
     | some r4=>intro h;cases h
     | none=>exact gO _
   | none=>
   simp only;cases h5:(if s=gV then acc (aa 40) r1 else none)with
   | some r2=>
    have a1:r2.length<r1.length:=by
     split at h5
     .exact(az h5).2
     .cases h5
    refine dR (less _ _ (by omega)) fun e r2 _=>?_;cases acc (aa 41) r2 with
    | some r3=>intro h;cases h
    | none=>exact gO _
   | none=>
   simp only;cases h6:acc (aa 91) r1 with
   | some r2=>
    have a1:=(az h6).2;refine dR (less _ _ (by omega)) fun e r2 _=>?_;cases acc (aa 93) r2 with
    | some r3=>intro h;cases h
    | none=>exact gO _
   | none=>
   simp only;cases h7:acc (aa 64) r1 with
   | some r2=>
    simp only;cases ct r2 with
    | none=>exact gO _
    | some p=>simp only;split<;>(intro h;cases h)
   | none=>intro h;cases h
def par(k:PK)(r:List Tok):PR:=gr (40*r.length+20) k r
theorem gC(k:PK)(r:List Tok):par k r≠.out:=SZ _ _ _ (by have:=(rx k).2;unfold H1;omega)
theorem Gd(n:Nat)(k:PK)(r:List Tok):(gr n k r).le (par k r):=by
 rcases Nat.le_total n (40*r.length+20)with h|h
 .exact n8 h k r
 .rcases n8 h k r with e|e
  .exact absurd e (gC k r)
  .exact .inr e.symm
theorem cP(k:PK)(r:List Tok):par k r=aJ par k r:=by
 have h1:=rQ (Gd (40*r.length+20)) k r;have h2:=n8 (TZ (40*r.length+20)) k r;rcases h2 with e|e
 .exact absurd e (gC k r)
 .rcases h1 with g|g
  .exact absurd (e.trans g) (gC k r)
  .exact e.trans g
theorem lW(k:PK)(r:List Tok):iV k.eats r (par k r):=pM _ k r
def iw(o:Int):Option (ByteArray×Nat):=(ce.find? fun b=>decide (b.2.1=o)).map fun b=>(b.1,b.2.2)
def mG(o:Int):Nat:=match iw o with
 | some (_,l)=>l
 | none=>if o=22 then 1 else if o=23 then 9 else if o=4\/o=5\/o=6 then 13 else 14
def tm(m:ByteArray):Tok:=⟨4,0,m,1⟩
def tw(m:ByteArray):Tok:=⟨2,0,m,1⟩
def tn(s:ByteArray):Tok:=⟨1,0,s,1⟩
def td(n:Int):Tok:=⟨3,n,rH n,1⟩
def fj(k:Nat)(a:Int×List Tok):List Tok:=if mG a.1<k then tm (aa 40)::(a.2++[tm (aa 41)])else a.2
def fy:List (Int×List Tok)->List Tok
 | []=>[]
 | [_]=>[]
 | [a,b]=>a.2++tm (aE 46 46)::b.2
 | a::b::c::r=>a.2++tm (aE 46 46)::(b.2++tm (aa 44)::fy (c::r))
def ci(s:ByteArray):Int:=(((lS s 91).data.toList.headD 0).toNat:Int)-48
def lN(s:ByteArray):List Tok:=if fc s=true then[tn (ff s 91),tm (aa 64),td (ci s)]else[tn s]
def kW(o n:Int)(s:ByteArray)(xs:List (Int×List Tok)):List Tok:=match iw o with
 | some (m,l)=>fj (if l=2 then 3 else l) (xs.getD 0 (1,[]))++tm m::fj (if l=2 then 2 else l+1) (xs.getD 1 (1,[]))
 | none=>
  if o=4 then tm (aa 33)::fj 13 (xs.getD 0 (1,[]))
  else if o=5 then tm (aa 126)::fj 13 (xs.getD 0 (1,[]))
  else if o=6 then tm (aa 45)::fj 13 (xs.getD 0 (1,[]))
  else if o=22 then fj 2 (xs.getD 0 (1,[]))++tm (aa 63)::(fj 1 (xs.getD 1 (1,[]))++tm (aa 58)::fj 1 (xs.getD 2 (1,[])))
  else if o=23 then fj 9 (xs.getD 0 (1,[]))++tw b9::tm (aa 123)::(fy xs.tail++[tm (aa 125)])
  else if o=1 then[td n]
  else if o=3 then tn s::tm (aa 91)::((xs.getD 0 (1,[])).2++[tm (aa 93)])
  else if o=24 then[tn mD,tm (aa 40),tn s,tm (aa 41)]
  else if o=25 then tn gV::tm (aa 40)::((xs.getD 0 (1,[])).2++[tm (aa 41)])
  else lN s
mutual
def aW:Ex->List Tok
 | .mk o n s l=>kW o n s (eH l)
def eH:List Ex->List (Int×List Tok)
 | []=>[]
 | a::r=>(a.op,aW a)::eH r
end
theorem yY(l:List Ex):eH l=l.map fun a=>(a.op,aW a):=by
 induction l with
 | nil=>rfl
 | cons a r ih=>simp only[eH,ih,List.map_cons]
structure Stop(k:Nat)(r:List Tok):Prop where
 q:k≤1->acc (aa 63) r=none
 im:k≤2->acc (aE 61 62) r=none
 op:∀j,k≤j->3≤j->dH j r=none
 ins:k≤9->acc b9 r=none
 b:acc (aa 91) r=none
 a:acc (aa 64) r=none
 p:acc (aa 40) r=none
theorem Stop.mono{k j:Nat}{r:List Tok}(h:Stop k r)(hj:k≤j):Stop j r:=
 ⟨fun e=>h.q (by omega),fun e=>h.im (by omega),fun i h1 h2=>h.op i (by omega) h2,fun e=>h.ins (by omega),h.b,h.a,h.p⟩
theorem ch{m:ByteArray}{t:Tok}{r:List Tok}(h:t.text≠m):acc m (t::r)=none:=by
 simp only[acc];rw[if_neg (fun hc=>h hc.2.2)]
theorem oe{t:Tok}{r:List Tok}{k:Nat}:∀(l:List (ByteArray×Int×Nat)),(∀b,b∈l->b.2.2=k->t.text≠b.1)->fP l k (t::r)=none
 | [],_=>rfl
 | b::l,h=>by
  simp only[fP];split
  .rename_i hb;rw[ch (h b (by simp) hb)];exact oe l fun c hc=>h c (by simp[hc])
  .exact oe l fun c hc=>h c (by simp[hc])
theorem yX{t:Tok}{r:List Tok}{k:Nat}(h:∀b,b∈ce->b.2.2=k->t.text≠b.1)(h1:t.text≠aa 62)(h2:t.text≠aE 62 61):dH k (t::r)=none:=by
 unfold dH;rw[oe ce h];simp only;split
 .rw[ch h1,ch h2]
 .rfl
theorem xt(k:Nat):Stop k []:=by
 refine⟨fun _=>rfl,fun _=>rfl,fun j _ _=>?_,fun _=>rfl,rfl,rfl,rfl⟩
 have:∀l:List (ByteArray×Int×Nat),fP l j []=none:=by
  intro l
  induction l with
  | nil=>rfl
  | cons b l ih=>simp only[fP,acc];split<;>exact ih
 unfold dH;rw[this];simp only[acc];split<;>rfl
theorem mE{k:Nat}{t:Tok}(r:List Tok)(h1:k≤1->t.text≠aa 63)(h2:k≤2->t.text≠aE 61 62)(h3:∀b,b∈ce->k≤b.2.2->t.text≠b.1)(h4:k≤9->t.text≠b9)
 (h5:t.text≠aa 62/\t.text≠aE 62 61/\t.text≠aa 91/\t.text≠aa 64/\t.text≠aa 40):Stop k (t::r):=
 ⟨fun e=>ch (h1 e),fun e=>ch (h2 e),fun j hj _=>yX (fun b hb hbj=>h3 b hb (by omega)) h5.1 h5.2.1,fun e=>ch (h4 e),ch h5.2.2.1,ch h5.2.2.2.1,ch h5.2.2.2.2⟩
theorem gy{m:ByteArray}(h:m∈[aa 41,aa 93,aa 125,aa 44,aE 46 46,aa 58])(k:Nat)(r:List Tok):Stop k (tm m::r):=by
 have hd:∀m,m∈[aa 41,aa 93,aa 125,aa 44,aE 46 46,aa 58]->(m≠aa 63/\m≠aE 61 62/\(∀b,b∈ce->m≠b.1)/\m≠b9)/\(m≠aa 62/\m≠aE 62 61/\m≠aa 91/\m≠aa 64/\m≠aa 40):=by decide +kernel
 obtain⟨⟨h1,h2,h3,h4⟩,h5⟩:=hd m h;exact mE r (fun _=>h1) (fun _=>h2) (fun b hb _=>h3 b hb) (fun _=>h4) h5
theorem L3(r:List Tok):Stop 2 (tm (aa 63)::r):=
 mE r (fun h=>by omega) (fun _=>by decide +kernel) (by decide +kernel) (fun _=>by decide +kernel) (by decide +kernel)
theorem yC{b:ByteArray×Int×Nat}(h:b∈ce)(r:List Tok):Stop (b.2.2+1) (tm b.1::r):=by
 have hd:∀b,b∈ce->(2≤b.2.2/\b.1≠aa 63/\(b.2.2+1≤2->b.1≠aE 61 62)/\(∀c,c∈ce->b.2.2+1≤c.2.2->b.1≠c.1)/\b.1≠b9)/\(b.1≠aa 62/\b.1≠aE 62 61/\b.1≠aa 91/\b.1≠aa 64/\b.1≠aa 40):=by decide +kernel
 obtain⟨⟨h1,h2,h3,h4,h5⟩,h6⟩:=hd b h;exact mE r (fun _=>h2) h3 h4 (fun _=>h5) h6
theorem yu(r:List Tok):Stop 10 (tw b9::r):=
 mE r (fun h=>by omega) (fun h=>by omega) (by decide +kernel) (fun h=>by omega) (by decide +kernel)
theorem dk{m:ByteArray}(h:bq (tm m)=true)(r:List Tok):acc m (tm m::r)=some r:=by
 simp only[acc];rw[if_pos ⟨h,.inl rfl,rfl⟩]
theorem od{m:ByteArray}(h:bq (tw m)=true)(r:List Tok):acc m (tw m::r)=some r:=by
 simp only[acc];rw[if_pos ⟨h,.inr rfl,rfl⟩]
theorem ki(m s:ByteArray)(r:List Tok):acc m (tn s::r)=none:=by
 simp only[acc];rw[if_neg (fun h=>by rcases h.2.1 with h|h<;>cases h)]
theorem pS(m:ByteArray)(n:Int)(r:List Tok):acc m (td n::r)=none:=by
 simp only[acc];rw[if_neg (fun h=>by rcases h.2.1 with h|h<;>cases h)]
theorem ew:∀m,m∈[aa 40,aa 41,aa 123,aa 125,aa 91,aa 93,aa 58,aE 46 46,aa 63,aa 44,aa 64,aa 33,aa 126,aa 45]->bq (tm m)=true:=by decide +kernel
theorem za:∀b,b∈ce->bq (tm b.1)=true:=by decide +kernel
theorem u0:bq (tw b9)=true:=by decide +kernel
theorem E3:∀b,b∈ce->3≤b.2.2->∀r,dH b.2.2 (tm b.1::r)=some (b.2.1,false,r):=by
 intro b hb hk r
 have key:∀(l:List (ByteArray×Int×Nat)),b∈l->(∀c,c∈l->c.1=b.1->c=b)->(∀c,c∈l->bq (tm c.1)=true)->fP l b.2.2 (tm b.1::r)=some (b.2.1,r):=by
  intro l
  induction l with
  | nil=>intro h;cases h
  | cons c l ih=>
   intro hbl hu hv;simp only[fP];by_cases e:c.1=b.1
   .have:=hu c (by simp) e;subst this;rw[if_pos rfl,dk (hv c (by simp))]
   .have hbl':b∈l:=by
     rcases List.mem_cons.1 hbl with h|h
     .subst h;exact absurd rfl e
     .exact h
    have hr:=ih hbl' (fun d hd=>hu d (by simp[hd])) (fun d hd=>hv d (by simp[hd]));rw[ch (t:=tm b.1) (fun h=>e h.symm),hr];split<;>rfl
 have hu:∀b,b∈ce->∀c,c∈ce->c.1=b.1->c=b:=by decide +kernel
 unfold dH;rw[key ce hb (hu b hb) za]
def pk(k:Nat):PK:=if k=1 then .W else if k=2 then .I else if k=14 then .P else .L k
def Bp(k:Nat)(T:List Tok)(e:Ex):Prop:=∀r,Stop k r->par (pk k) (T++r)=.ok e r
theorem vw(r:List Tok):par (.L 13) r=par .U r:=by rw[cP];simp only[aJ];rw[if_pos (by omega)]
theorem vA{k:Nat}{r:List Tok}(h:Stop k r)(hk:3≤k)(e:Ex):par (.Lp k e) r=.ok e r:=by
 rw[cP];simp only[aJ]
 have h1:(if k=9 then acc b9 r else none)=none:=by
  split
  .exact h.ins (by omega)
  .rfl
 rw[h1,h.op k (TW _) hk]
theorem Pl{T:List Tok}{e:Ex}{j:Nat}(h:Bp (j+1) T e)(h1:1≤j)(h2:j≤13)(h3:j=13->∀r,acc (aa 33) (T++r)=none/\acc (aa 126) (T++r)=none/\acc (aa 45) (T++r)=none):Bp j T e:=by
 intro r hr;have hn:=h r (hr.mono (TZ j));by_cases j1:j=1
 .subst j1;show par .W (T++r)=_;have hn:par .I (T++r)=.ok e r:=hn;rw[cP];simp only[aJ,hn,PR.bind,hr.q (TW _)]
 by_cases j2:j=2
 .subst j2;show par .I (T++r)=_;have hn:par (.L 3) (T++r)=.ok e r:=hn;rw[cP];simp only[aJ,hn,PR.bind,hr.im (TW _)]
 by_cases j13:j=13
 .subst j13;show par (.L 13) (T++r)=_;have hn:par .P (T++r)=.ok e r:=hn;obtain⟨a1,a2,a3⟩:=h3 rfl r;rw[vw,cP];simp only[aJ,a1,a2,a3,hn]
 .have hp:pk j=.L j:=by unfold pk;rw[if_neg j1,if_neg j2,if_neg (by omega)]
  have hp1:pk (j+1)=.L (j+1):=by unfold pk;rw[if_neg (by omega),if_neg (by omega),if_neg (by omega)]
  rw[hp1]at hn;rw[hp,cP];simp only[aJ];rw[if_neg (by omega),hn];simp only[PR.bind];exact vA hr (by omega) e
theorem Kr{T:List Tok}{e:Ex}{k:Nat}(h:Bp (k+1) T e)(h1:3≤k)(h2:k≤12){r:List Tok}(hr:Stop (k+1) r):par (.L k) (T++r)=par (.Lp k e) r:=by
 have hp1:pk (k+1)=.L (k+1):=by unfold pk;rw[if_neg (by omega),if_neg (by omega),if_neg (by omega)]
 have hn:=h r hr;rw[hp1]at hn;rw[cP];simp only[aJ];rw[if_neg (by omega),hn];rfl
theorem P6{T:List Tok}{e:Ex}(h:Bp 1 T e):Bp 14 (tm (aa 40)::(T++[tm (aa 41)])) e:=by
 intro r hr;show par .P _=_;rw[cP];simp only[aJ];unfold dO;rw[List.cons_append,dk (ew _ (by simp))];have:=h (tm (aa 41)::r) (gy (by simp) 1 r);have hp:pk 1=.W:=rfl;rw[hp]at this;simp only[List.append_assoc,List.singleton_append,this,PR.bind,dk (ew (aa 41) (by simp))]
structure RT(e:Ex):Prop where
 at_:∀k,1≤k->k≤14->Bp k (fj k (e.op,aW e)) e
 left:∀k,3≤k->k≤12->∀r,Stop (k+1) r->par (.L k) (fj k (e.op,aW e)++r)=par (.Lp k e) r
theorem uR{e:Ex}(k0:Nat)(hk:mG e.op=k0)(h1:1≤k0)(h14:k0≤14)(hb:Bp k0 (aW e) e)(hp:k0=14->∀r,acc (aa 33) (aW e++r)=none/\acc (aa 126) (aW e++r)=none/\acc (aa 45) (aW e++r)=none)
 (hl:3≤k0->k0≤12->∀r,Stop (k0+1) r->par (.L k0) (aW e++r)=par (.Lp k0 e) r):RT e:=by
 have plain:∀n k,k0=k+n->1≤k->Bp k (aW e) e:=by
  intro n
  induction n with
  | zero=>intro k e _;rw[Nat.add_zero]at e;subst e;exact hb
  | succ n ih=>intro k hkn h1;exact Pl (ih (k+1) (by omega) (by omega)) h1 (by omega) (fun e=>hp (by omega))
 have b1:Bp 1 (aW e) e:=plain (k0-1) 1 (by omega) (TW _)
 have pr:∀n k,14=k+n->1≤k->Bp k (tm (aa 40)::(aW e++[tm (aa 41)])) e:=by
  intro n
  induction n with
  | zero=>intro k e _;have:k=14:=by omega
          subst this;exact P6 b1
  | succ n ih=>intro k hkn h1;exact Pl (ih (k+1) (by omega) (by omega)) h1 (by omega) (fun e r=>⟨ch (t:=tm (aa 40)) (by decide +kernel),ch (t:=tm (aa 40)) (by decide +kernel),ch (t:=tm (aa 40)) (by decide +kernel)⟩)
 have at_:∀k,1≤k->k≤14->Bp k (fj k (e.op,aW e)) e:=by
  intro k g1 g2;unfold fj;simp only[hk];split
  .exact pr (14-k) k (by omega) g1
  .exact plain (k0-k) k (by omega) g1
 refine⟨at_,fun k g1 g2 r hr=>?_⟩;by_cases e0:k=k0
 .subst e0;have:fj k (e.op,aW e)=aW e:=by unfold fj;simp only[hk];rw[if_neg (by omega)]
  rw[this];exact hl g1 g2 r hr
 .have:fj k (e.op,aW e)=fj (k+1) (e.op,aW e):=by
   unfold fj;simp only[hk];by_cases g:k0<k
   .rw[if_pos g,if_pos (by omega)]
   .rw[if_neg g,if_neg (by omega)]
  rw[this];exact Kr (at_ (k+1) (by omega) (by omega)) g1 g2 hr
end Go.Proofs.YtnhphlmblenapaaGreatDoor
