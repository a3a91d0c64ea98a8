import Derived.Lib.AtoiErrMem
import Derived.Test.YtnhphlmblenapaaGreatDoorPg
set_option linter.unusedVariables false
set_option linter.unusedSimpArgs false
set_option linter.unusedSectionVars false
set_option maxRecDepth 100000
open List renaming suffix_refl->TJ,length_cons->TK,length_nil->TL,suffix_cons->TM,drop_eq_getElem_cons->TN,getElem?_eq_getElem->TO,getElem_cons_zero->TP,drop_of_length_le->TQ,length_append->TR,map->TS
open Nat renaming le_refl->TT,lt_of_lt_of_le->TU,lt_of_le_of_lt->TV,pow_succ->TW
namespace Go.Proofs.YtnhphlmblenapaaGreatDoor
open Go.RowKit
theorem Ef{m:ByteArray}{r r1:List Tok}(h:acc m r=some r1):∃t,r=t::r1/\bO t=true/\(t.kind=4\/t.kind=2)/\t.text=m:=by
 cases r with
 | nil=>cases h
 | cons t q=>
  simp only[acc]at h;split at h
  .rename_i hc;cases h;exact⟨t,rfl,hc⟩
  .cases h
theorem yw{r r1:List Tok}{s:ByteArray}(h:bW r=some (s,r1)):∃t,r=t::r1/\bO t=true/\t.kind=1/\t.text=s:=by
 cases r with
 | nil=>cases h
 | cons t q=>
  simp only[bW]at h;split at h
  .rename_i hc;cases h;exact⟨t,rfl,hc.1,hc.2,rfl⟩
  .cases h
theorem sD{r r1:List Tok}{n:Int}(h:cB r=some (n,r1)):∃t,r=t::r1/\bO t=true/\t.kind=3/\t.num=n:=by
 cases r with
 | nil=>cases h
 | cons t q=>
  simp only[cB]at h;split at h
  .rename_i hc;cases h;exact⟨t,rfl,hc.1,hc.2,rfl⟩
  .cases h
theorem aD{m:ByteArray}{r r1:List Tok}(h:acc m r=some r1):r1 <:+ r/\r1.length<r.length:=by
 obtain⟨t,rfl,-⟩:=Ef h;exact⟨TM _ _,by simp⟩
theorem fq{r r1:List Tok}{s:ByteArray}(h:bW r=some (s,r1)):r1 <:+ r/\r1.length<r.length:=by
 obtain⟨t,rfl,-⟩:=yw h;exact⟨TM _ _,by simp⟩
theorem jj{r r1:List Tok}{n:Int}(h:cB r=some (n,r1)):r1 <:+ r/\r1.length<r.length:=by
 obtain⟨t,rfl,-⟩:=sD h;exact⟨TM _ _,by simp⟩
theorem ow:∀(l:List (ByteArray×Int×Nat)) (k:Nat) (r:List Tok) {o:Int} {r1:List Tok},jp l k r=some (o,r1)->r1 <:+ r/\r1.length<r.length
 | [],_,_,_,_,h=>by cases h
 | b::l,k,r,o,r1,h=>by
  simp only[jp]at h;split at h
  .split at h
   .rename_i q hq;cases h;exact aD hq
   .exact ow l k r h
  .exact ow l k r h
theorem lO{k:Nat}{r r1:List Tok}{o:Int}{ex:Bool}(h:dM k r=some (o,ex,r1)):r1 <:+ r/\r1.length<r.length:=by
 unfold dM at h;split at h
 .rename_i o' q hq;cases h;exact ow _ _ _ hq
 .split at h
  .split at h
   .rename_i q hq;cases h;exact aD hq
   .split at h
    .rename_i q hq;cases h;exact aD hq
    .cases h
  .cases h
def PR.le(x y:PR):Prop:=x=.out\/x=y
theorem PR.le.rfl{x:PR}:x.le x:=.inr (Eq.refl x)
theorem cq{x x':PR}{f f':Ex->List Tok->PR}(h:x.le x')(hf:∀e r,(f e r).le (f' e r)):(x.bind f).le (x'.bind f'):=by
 rcases h with rfl|rfl
 .exact .inl (Eq.refl _)
 .cases x with
  | out=>exact .inl (Eq.refl _)
  | bad e r=>exact .rfl
  | ok e r=>exact hf e r
theorem xR{rec rec':PK->List Tok->PR}(h:∀k r,(rec k r).le (rec' k r))(r:List Tok):(ic rec r).le (ic rec' r):=by
 unfold ic;cases acc (aa 40) r with
 | some r1=>exact cq (h _ _) fun e r2=>.rfl
 | none=>
 cases cB r with
 | some p=>exact .rfl
 | none=>
 cases bW r with
 | none=>exact .rfl
 | some p=>
 obtain⟨s,r1⟩:=p;simp only;cases (if s=me then acc (aa 40) r1 else none)with
 | some r2=>exact .rfl
 | none=>
 simp only;cases (if s=gS then acc (aa 40) r1 else none)with
 | some r2=>exact cq (h _ _) fun e r3=>.rfl
 | none=>
 simp only;cases acc (aa 91) r1 with
 | some r2=>exact cq (h _ _) fun e r3=>.rfl
 | none=>exact .rfl
theorem ro{rec rec':PK->List Tok->PR}(h:∀k r,(rec k r).le (rec' k r))(k:PK)(r:List Tok):(bj rec k r).le (bj rec' k r):=by
 cases k with
 | W=>
  simp only[bj];refine cq (h _ _) fun c r1=>?_;cases acc (aa 63) r1 with
  | none=>exact .rfl
  | some r2=>
   refine cq (h _ _) fun a r3=>?_;cases acc (aa 58) r3 with
   | none=>exact .rfl
   | some r4=>exact cq (h _ _) fun b r5=>.rfl
 | I=>
  simp only[bj];refine cq (h _ _) fun c r1=>?_;cases acc (ba 61 62) r1 with
  | none=>exact .rfl
  | some r2=>exact cq (h _ _) fun b r5=>.rfl
 | L k=>
  simp only[bj];split
  .exact h _ _
  .exact cq (h _ _) fun b r5=>h _ _
 | Lp k a=>
  simp only[bj];cases (if k=9 then acc ct r else none)with
  | some r1=>exact cq (h _ _) fun b r5=>h _ _
  | none=>
   simp only;cases dM k r with
   | none=>exact .rfl
   | some p=>exact cq (h _ _) fun b r5=>h _ _
 | In a=>
  simp only[bj];cases acc (aa 123) r with
  | none=>exact .rfl
  | some r1=>exact h _ _
 | Ip args=>
  simp only[bj];refine cq (h _ _) fun lo r1=>?_;cases acc (ba 46 46) r1 with
  | none=>exact .rfl
  | some r2=>
   refine cq (h _ _) fun hi r3=>?_;cases acc (aa 44) r3 with
   | some r4=>exact h _ _
   | none=>exact .rfl
 | U=>
  simp only[bj];cases acc (aa 33) r with
  | some r1=>exact cq (h _ _) fun b r5=>.rfl
  | none=>
  cases acc (aa 126) r with
  | some r1=>exact cq (h _ _) fun b r5=>.rfl
  | none=>
  cases acc (aa 45) r with
  | some r1=>exact cq (h _ _) fun b r5=>.rfl
  | none=>exact h _ _
 | P=>exact xR h r
theorem qS:∀(n:Nat) (k:PK) (r:List Tok),(fY n k r).le (fY (n+1) k r)
 | 0,_,_=>.inl rfl
 | n+1,k,r=>ro (qS n) k r
theorem mU{n m:Nat}(h:n≤m)(k:PK)(r:List Tok):(fY n k r).le (fY m k r):=by
 induction h with
 | refl=>exact .rfl
 | step h ih=>
  rcases ih with e|e
  .exact .inl e
  .rw[e];exact qS _ k r
def il(s:Bool)(r:List Tok):PR->Prop
 | .out=>True
 | .bad _ r'=>r' <:+ r
 | .ok _ r'=>r' <:+ r/\(s=true->r'.length<r.length)
theorem il.weak{s:Bool}{r r0:List Tok}{x:PR}(h:il s r x)(hr:r <:+ r0):il s r0 x:=by
 cases x with
 | out=>trivial
 | bad e q=>exact h.trans hr
 | ok e q=>exact⟨h.1.trans hr,fun e=>TU (h.2 e) hr.length_le⟩
theorem il.strict{s:Bool}{r r0:List Tok}{x:PR}(h:il s r x)(hr:r <:+ r0)(hl:r.length<r0.length):il true r0 x:=by
 cases x with
 | out=>trivial
 | bad e q=>exact h.trans hr
 | ok e q=>exact⟨h.1.trans hr,fun _=>TV h.1.length_le hl⟩
theorem il.less{s:Bool}{r:List Tok}{x:PR}(h:il s r x):il false r x:=by
 cases x with
 | out=>trivial
 | bad e q=>exact h
 | ok e q=>exact⟨h.1,fun h=>by cases h⟩
theorem co{s t:Bool}{r:List Tok}{x:PR}{f:Ex->List Tok->PR}(h:il s r x)(hf:∀e r1,r1 <:+ r->il t r1 (f e r1)):il (s||t) r (x.bind f):=by
 cases x with
 | out=>trivial
 | bad e q=>exact h
 | ok e q=>
  have h1:=hf e q h.1;show il (s||t) r (f e q);cases hx:f e q with
  | out=>trivial
  | bad e' q'=>rw[hx]at h1;exact h1.trans h.1
  | ok e' q'=>
   rw[hx]at h1;refine⟨h1.1.trans h.1,fun hs=>?_⟩;rcases Bool.or_eq_true_iff.1 hs with g|g
   .exact TV h1.1.length_le (h.2 g)
   .exact TU (h1.2 g) h.1.length_le
theorem dD{s:Bool}(r:List Tok):il s r (eO r):=by
 cases r with
 | nil=>exact TJ _
 | cons t r=>exact TJ _
theorem dR(e:Ex){r r1:List Tok}(h:r1 <:+ r):il false r (.ok e r1):=⟨h,fun h=>by cases h⟩
theorem Gy{s:Bool}(e:Ex){r r1:List Tok}(h:r1 <:+ r/\r1.length<r.length):il s r (.ok e r1):=⟨h.1,fun _=>h.2⟩
def PK.eats:PK->Bool
 | .Lp _ _=>false
 | _=>true
theorem Bj{rec:PK->List Tok->PR}(h:∀k r,il k.eats r (rec k r))(r:List Tok):il true r (ic rec r):=by
 unfold ic;cases h1:acc (aa 40) r with
 | some r1=>
  obtain⟨a1,a2⟩:=aD h1;refine(co (t:=false) ((h .W r1)) fun e r2 hs=>?_).strict a1 a2;cases h2:acc (aa 41) r2 with
  | some r3=>exact dR _ (aD h2).1
  | none=>exact dD _
 | none=>
 cases h2:cB r with
 | some p=>
  obtain⟨n,r1⟩:=p;simp only;split
  .exact TJ _
  .exact Gy _ (jj h2)
 | none=>
 cases h3:bW r with
 | none=>exact dD _
 | some p=>
 obtain⟨s,r1⟩:=p;obtain⟨n1,n2⟩:=fq h3
 suffices hh:∀x,il false r1 x->il true r x by
  refine hh _ ?_;simp only;cases h4:(if s=me then acc (aa 40) r1 else none)with
  | some r2=>
   have a1:r2 <:+ r1:=by
    split at h4
    .exact(aD h4).1
    .cases h4
   simp only;cases h5:bW r2 with
   | none=>exact(dD r2).weak a1
   | some p=>
    obtain⟨a,r3⟩:=p;simp only;cases h6:acc (aa 41) r3 with
    | some r4=>exact dR _ (((aD h6).1.trans (fq h5).1).trans a1)
    | none=>exact(dD r3).weak ((fq h5).1.trans a1)
  | none=>
  simp only;cases h5:(if s=gS then acc (aa 40) r1 else none)with
  | some r2=>
   have a1:r2 <:+ r1:=by
    split at h5
    .exact(aD h5).1
    .cases h5
   have:=(co (t:=false) (f:=fun e r3=>match acc (aa 41) r3 with|some r4=>.ok (aK 25 [e]) r4|none=>eO r3) (h .W r2) fun e r3 hs=>by
    cases h6:acc (aa 41) r3 with
    | some r4=>exact dR _ (aD h6).1
    | none=>exact dD _).weak a1
   exact this.less
  | none=>
  simp only;cases h6:acc (aa 91) r1 with
  | some r2=>
   have:=(co (t:=false) (f:=fun e r3=>match acc (aa 93) r3 with|some r4=>.ok (.mk 3 0 s [e]) r4|none=>eO r3) (h .W r2) fun e r3 hs=>by
    cases h6:acc (aa 93) r3 with
    | some r4=>exact dR _ (aD h6).1
    | none=>exact dD _).weak (aD h6).1
   exact this.less
  | none=>
  simp only;cases h7:acc (aa 64) r1 with
  | some r2=>
   simp only;cases h8:cB r2 with
   | none=>exact(dD r2).weak (aD h7).1
   | some p=>
    obtain⟨n,r3⟩:=p;simp only;split
    .exact(aD h7).1
    .exact dR _ ((jj h8).1.trans (aD h7).1)
  | none=>exact dR _ (TJ _)
 intro x hx;exact hx.strict n1 n2
theorem AN{rec:PK->List Tok->PR}(h:∀k r,il k.eats r (rec k r))(k:PK)(r:List Tok):il k.eats r (bj rec k r):=by
 cases k with
 | W=>
  simp only[bj];refine co (s:=true) (t:=false) (h .I r) fun c r1 _=>?_;cases h1:acc (aa 63) r1 with
  | none=>exact dR _ (TJ _)
  | some r2=>
   have:=co (s:=true) (t:=false) (f:=fun a r3=>match acc (aa 58) r3 with|none=>eO r3|some r4=>(rec .W r4).bind fun b r5=>.ok (aK 22 [c,a,b]) r5) (h .W r2) fun a r3 _=>by
    cases h2:acc (aa 58) r3 with
    | none=>exact dD _
    | some r4=>
     have:=(co (s:=true) (t:=false) (f:=fun b r5=>.ok (aK 22 [c,a,b]) r5) (h .W r4) fun b r5 _=>dR _ (TJ _)).weak (aD h2).1;exact this.less
   have h3:=this.weak (aD h1).1;exact h3.less
 | I=>
  simp only[bj];refine co (s:=true) (t:=false) (h (.L 3) r) fun c r1 _=>?_;cases h1:acc (ba 61 62) r1 with
  | none=>exact dR _ (TJ _)
  | some r2=>
   have:=(co (s:=true) (t:=false) (f:=fun b r5=>.ok (aK 21 [c,b]) r5) (h .I r2) fun b r5 _=>dR _ (TJ _)).weak (aD h1).1;exact this.less
 | L k=>
  simp only[bj];split
  .exact h .U r
  .exact co (s:=true) (t:=false) (h (.L (k+1)) r) fun a r1 _=>h (.Lp k a) r1
 | Lp k a=>
  simp only[bj];cases h1:(if k=9 then acc ct r else none)with
  | some r1=>
   have a1:r1 <:+ r:=by
    split at h1
    .exact(aD h1).1
    .cases h1
   have:=(co (s:=true) (t:=false) (f:=fun b r2=>rec (.Lp k b) r2) (h (.In a) r1) fun b r2 _=>h (.Lp k b) r2).weak a1;exact this.less
  | none=>
   simp only;cases h2:dM k r with
   | none=>exact dR _ (TJ _)
   | some p=>
    obtain⟨o,ex,r1⟩:=p;have:=(co (s:=true) (t:=false) (f:=fun c r2=>rec (.Lp k (if ex then aK o [c,a]else aK o [a,c])) r2) (h (.L (k+1)) r1) fun b r2 _=>h (.Lp k _) r2).weak (lO h2).1;exact this.less
 | In a=>
  simp only[bj];cases h1:acc (aa 123) r with
  | none=>exact dD _
  | some r1=>exact(h (.Ip [a]) r1).weak (aD h1).1
 | Ip args=>
  simp only[bj];refine co (s:=true) (t:=false) (h .W r) fun lo r1 _=>?_;cases h1:acc (ba 46 46) r1 with
  | none=>exact dD _
  | some r2=>
   have:=(co (s:=true) (t:=false) (f:=fun hi r3=>match acc (aa 44) r3 with|some r4=>rec (.Ip (args++[lo,hi])) r4|none=>match acc (aa 125) r3 with|some r5=>.ok (aK 23 (args++[lo,hi])) r5|none=>eO r3) (h .W r2) fun hi r3 _=>by
    cases h2:acc (aa 44) r3 with
    | some r4=>
     have:=(h (.Ip (args++[lo,hi])) r4).weak (aD h2).1;exact this.less
    | none=>
     simp only;cases h3:acc (aa 125) r3 with
     | some r5=>exact dR _ (aD h3).1
     | none=>exact dD _).weak (aD h1).1
   exact this.less
 | U=>
  simp only[bj];cases h1:acc (aa 33) r with
  | some r1=>exact(co (s:=true) (t:=false) (h .U r1) fun a r2 _=>dR _ (TJ _)).weak (aD h1).1
  | none=>
  cases h2:acc (aa 126) r with
  | some r1=>exact(co (s:=true) (t:=false) (h .U r1) fun a r2 _=>dR _ (TJ _)).weak (aD h2).1
  | none=>
  cases h3:acc (aa 45) r with
  | some r1=>exact(co (s:=true) (t:=false) (h .U r1) fun a r2 _=>dR _ (TJ _)).weak (aD h3).1
  | none=>exact h .P r
 | P=>exact Bj h r
theorem oz:∀(n:Nat) (k:PK) (r:List Tok),il k.eats r (fY n k r)
 | 0,_,_=>trivial
 | n+1,k,r=>AN (oz n) k r
def PK.cost:PK->Nat
 | .W=>15
 | .I=>14
 | .L k=>3+(13-k)
 | .Lp _ _=>1
 | .In _=>1
 | .Ip _=>16
 | .U=>2
 | .P=>1
def D6(k:PK)(r:List Tok):Nat:=40*r.length+k.cost
theorem du{x:PR}{f:Ex->List Tok->PR}(h:x≠.out)(hf:∀e r,x=.ok e r->f e r≠.out):x.bind f≠.out:=by
 cases x with
 | out=>exact absurd rfl h
 | bad e r=>intro h;cases h
 | ok e r=>exact hf e r rfl
theorem fE(r:List Tok):eO r≠.out:=by cases r<;>(intro h;cases h)
theorem p9(k:PK):1≤k.cost/\k.cost≤16:=by
 cases k<;>simp only[PK.cost]<;>omega
theorem kw{n:Nat}{k:PK}{r r1:List Tok}{e:Ex}(h:fY n k r=.ok e r1):r1.length≤r.length/\(k.eats=true->r1.length<r.length):=by
 have:=oz n k r;rw[h]at this;exact⟨this.1.length_le,this.2⟩
theorem TF:∀(n:Nat) (k:PK) (r:List Tok),D6 k r≤n->fY n k r≠.out:=by
 intro n
 induction n with
 | zero=>intro k r h;have:=(p9 k).1;unfold D6 at h;omega
 | succ n ih=>
  intro k r hn
  have less:∀(k':PK) (r':List Tok),r'.length<r.length->fY n k' r'≠.out:=fun k' r' hl=>ih k' r' (by
   have:=(p9 k').2;have:=(p9 k).1;unfold D6 at *;omega)
  have same:∀(k':PK),k'.cost<k.cost->fY n k' r≠.out:=fun k' hc=>ih k' r (by unfold D6 at *;omega);show bj (fY n) k r≠.out;cases k with
  | W=>
   simp only[bj];refine du (same .I (by decide)) fun c r1 h1=>?_;have l1:=(kw h1).2 rfl;cases h2:acc (aa 63) r1 with
   | none=>intro h;cases h
   | some r2=>
    have l2:=(aD h2).2;refine du (less _ _ (by omega)) fun a r3 h3=>?_;have l3:=(kw h3).1;cases h4:acc (aa 58) r3 with
    | none=>exact fE _
    | some r4=>
     have l4:=(aD h4).2;exact du (less _ _ (by omega)) fun b r5 _ h=>by cases h
  | I=>
   simp only[bj];refine du (same (.L 3) (by decide)) fun c r1 h1=>?_;have l1:=(kw h1).2 rfl;cases h2:acc (ba 61 62) r1 with
   | none=>intro h;cases h
   | some r2=>
    have l2:=(aD h2).2;exact du (less _ _ (by omega)) fun b r5 _ h=>by cases h
  | L k=>
   simp only[bj];split
   .exact same .U (by simp only[PK.cost];omega)
   .rename_i hk;refine du (same (.L (k+1)) (by simp only[PK.cost];omega)) fun c r1 h1=>?_;exact less _ _ ((kw h1).2 rfl)
  | Lp k a=>
   simp only[bj];cases h1:(if k=9 then acc ct r else none)with
   | some r1=>
    have a1:r1.length<r.length:=by
     split at h1
     .exact(aD h1).2
     .cases h1
    exact du (less _ _ a1) fun b r2 h2=>less _ _ (by have:=(kw h2).1;omega)
   | none=>
    simp only;cases h2:dM k r with
    | none=>intro h;cases h
    | some p=>
     obtain⟨o,ex,r1⟩:=p;have a1:=(lO h2).2;exact du (less _ _ a1) fun b r2 h2=>less _ _ (by have:=(kw h2).1;omega)
  | In a=>
   simp only[bj];cases h1:acc (aa 123) r with
   | none=>exact fE _
   | some r1=>exact less _ _ (aD h1).2
  | Ip args=>
   simp only[bj];refine du (same .W (by simp only[PK.cost];omega)) fun lo r1 h1=>?_;have l1:=(kw h1).2 rfl;cases h2:acc (ba 46 46) r1 with
   | none=>exact fE _
   | some r2=>
    have l2:=(aD h2).2;refine du (less _ _ (by omega)) fun hi r3 h3=>?_;have l3:=(kw h3).1;cases h4:acc (aa 44) r3 with
    | some r4=>exact less _ _ (by have:=(aD h4).2;omega)
    | none=>
     simp only;cases h5:acc (aa 125) r3 with
     | some r5=>intro h;cases h
     | none=>exact fE _
  | U=>
   simp only[bj];cases h1:acc (aa 33) r with
   | some r1=>exact du (less _ _ (aD h1).2) fun b r5 _ h=>by cases h
   | none=>
   cases h2:acc (aa 126) r with
   | some r1=>exact du (less _ _ (aD h2).2) fun b r5 _ h=>by cases h
   | none=>
   cases h3:acc (aa 45) r with
   | some r1=>exact du (less _ _ (aD h3).2) fun b r5 _ h=>by cases h
   | none=>exact same .P (by decide)
  | P=>
   show ic (fY n) r≠.out;unfold ic;cases h1:acc (aa 40) r with
   | some r1=>
    refine du (less _ _ (aD h1).2) fun e r2 _=>?_;cases acc (aa 41) r2 with
    | some r3=>intro h;cases h
    | none=>exact fE _
   | none=>
   cases h2:cB r with
   | some p=>simp only;split<;>(intro h;cases h)
   | none=>
   cases h3:bW r with
   | none=>exact fE _
   | some p=>
   obtain⟨s,r1⟩:=p;have l1:=(fq h3).2;simp only;cases h4:(if s=me then acc (aa 40) r1 else none)with
   | some r2=>
    simp only;cases bW r2 with
    | none=>exact fE _
    | some p=>
     simp only;cases acc (aa 41) p.2 with
     | some r4=>intro h;cases h
     | none=>exact fE _
   | none=>
   simp only;cases h5:(if s=gS then acc (aa 40) r1 else none)with
   | some r2=>
    have a1:r2.length<r1.length:=by
     split at h5
     .exact(aD h5).2
     .cases h5
    refine du (less _ _ (by omega)) fun e r2 _=>?_;cases acc (aa 41) r2 with
    | some r3=>intro h;cases h
    | none=>exact fE _
   | none=>
   simp only;cases h6:acc (aa 91) r1 with
   | some r2=>
    have a1:=(aD h6).2;refine du (less _ _ (by omega)) fun e r2 _=>?_;cases acc (aa 93) r2 with
    | some r3=>intro h;cases h
    | none=>exact fE _
   | none=>
   simp only;cases h7:acc (aa 64) r1 with
   | some r2=>
    simp only;cases cB r2 with
    | none=>exact fE _
    | some p=>simp only;split<;>(intro h;cases h)
   | none=>intro h;cases h
def par(k:PK)(r:List Tok):PR:=fY (40*r.length+20) k r
theorem fA(k:PK)(r:List Tok):par k r≠.out:=TF _ _ _ (by have:=(p9 k).2;unfold D6;omega)
theorem EZ(n:Nat)(k:PK)(r:List Tok):(fY n k r).le (par k r):=by
 rcases Nat.le_total n (40*r.length+20)with h|h
 .exact mU h k r
 .rcases mU h k r with e|e
  .exact absurd e (fA k r)
  .exact .inr e.symm
theorem lm(k:PK)(r:List Tok):par k r=bj par k r:=by
 have h1:=ro (EZ (40*r.length+20)) k r;have h2:=mU (Nat.le_succ (40*r.length+20)) k r;rcases h2 with e|e
 .exact absurd e (fA k r)
 .rcases h1 with g|g
  .exact absurd (e.trans g) (fA k r)
  .exact e.trans g
theorem ji(k:PK)(r:List Tok):il k.eats r (par k r):=oz _ k r
def pC(o:Int):Option (ByteArray×Nat):=(cC.find? fun b=>decide (b.2.1=o)).map fun b=>(b.1,b.2.2)
def SC(o:Int):Nat:=match pC o with
 | some (_,l)=>l
 | none=>if o=22 then 1 else if o=23 then 9 else if o=4\/o=5\/o=6 then 13 else 14
def tm(m:ByteArray):Tok:=⟨4,0,m,1⟩
def tw(m:ByteArray):Tok:=⟨2,0,m,1⟩
def tn(s:ByteArray):Tok:=⟨1,0,s,1⟩
def td(n:Int):Tok:=⟨3,n,Hj n,1⟩
def G6(s:ByteArray):Int:=(((oq s 91).data.toList.headD 0).toNat:Int)-48
def MA(s:ByteArray):List Tok:=if my s=true then[tn (om s 91),tm (aa 64),td (G6 s)]else[tn s]
theorem sS{o:Int}{m:ByteArray}{l:Nat}(h:pC o=some (m,l)):(m,o,l)∈cC:=by
 unfold pC at h;obtain⟨b,hb,e⟩:=Option.map_eq_some_iff.1 h;have h1:=List.mem_of_find?_eq_some hb;have h2:=List.find?_some hb;simp only[decide_eq_true_eq]at h2;cases e;subst h2;exact h1
theorem zT:∀b,b∈cC->2≤b.2.2/\b.2.2≤12/\(b.2.2=2->b.2.1=21/\b.1=ba 61 62)/\7≤b.2.1/\b.2.1≤21:=by decide +kernel
abbrev Pc:=List (Option Tok)
def txt:Pc->Bs
 | []=>[]
 | none::r=>32::txt r
 | some t::r=>t.text.data.toList++txt r
structure Fine(t:Tok)(q:Bs):Prop where
 v:bO t=true
 n:t.text.data.toList≠[]
 r:c7 (t.text.data.toList++q)=.tok t.kind t.num t.text.data.toList.length
 s:bE (t.text.data.toList++q)=t.text.data.toList++q
def lY:Pc->Bs->Prop
 | [],_=>True
 | none::r,q=>lY r q
 | some t::r,q=>Fine t (txt r++q)/\lY r q
def uW(k:Nat)(a:Int×Pc):Pc:=if SC a.1<k then some (tm (aa 40))::(a.2++[some (tm (aa 41))])else a.2
def zO:List (Int×Pc)->Pc
 | []=>[]
 | [_]=>[]
 | [a,b]=>a.2++none::some (tm (ba 46 46))::none::b.2
 | a::b::c::r=>a.2++none::some (tm (ba 46 46))::none::(b.2++some (tm (aa 44))::none::zO (c::r))
def JT(o n:Int)(s:ByteArray)(xs:List (Int×Pc)):Pc:=match pC o with
 | some (m,l)=>uW (if l=2 then 3 else l) (xs.getD 0 (1,[]))++none::some (tm m)::none::uW (if l=2 then 2 else l+1) (xs.getD 1 (1,[]))
 | none=>
  if o=4 then some (tm (aa 33))::uW 13 (xs.getD 0 (1,[]))
  else if o=5 then some (tm (aa 126))::uW 13 (xs.getD 0 (1,[]))
  else if o=6 then some (tm (aa 45))::uW 13 (xs.getD 0 (1,[]))
  else if o=22 then uW 2 (xs.getD 0 (1,[]))++none::some (tm (aa 63))::none::(uW 1 (xs.getD 1 (1,[]))++none::some (tm (aa 58))::none::uW 1 (xs.getD 2 (1,[])))
  else if o=23 then uW 9 (xs.getD 0 (1,[]))++none::some (tw ct)::none::some (tm (aa 123))::none::(zO xs.tail++[none,some (tm (aa 125))])
  else if o=1 then[some (td n)]
  else if o=3 then some (tn s)::some (tm (aa 91))::((xs.getD 0 (1,[])).2++[some (tm (aa 93))])
  else if o=24 then[some (tn me),some (tm (aa 40)),some (tn s),some (tm (aa 41))]
  else if o=25 then some (tn gS)::some (tm (aa 40))::((xs.getD 0 (1,[])).2++[some (tm (aa 41))])
  else(MA s).map some
mutual
def pcE:Ex->Pc
 | .mk o n s l=>JT o n s (Px l)
def Px:List Ex->List (Int×Pc)
 | []=>[]
 | a::r=>(a.op,pcE a)::Px r
end
def wJ(o:Int):Bs:=if o=4 then[33]else if o=5 then[126]else if o=6 then[45]else[]
theorem wI(u:Nat)(h:u≤65535):(Lib.decDigits u).length≤5:=by
 have H:∀(k u:Nat),u<10^(k+1)->(Lib.decDigits u).length≤k+1:=by
  intro k
  induction k with
  | zero=>intro u h;rw[Lib.decDigits,dif_pos (by simpa using h)];simp
  | succ k ih=>
   intro u h;rw[Lib.decDigits];split
   .simp
   .have:=ih (u/10) (by rw[TW]at h;omega);rw[TR,List.length_singleton];omega
 exact H 4 u (by omega)
theorem Nxt.to{n0:Nat}{R:aj->LLV->Prop}{ρ:aj}{S:LLV}(τ l:LLV)(h:S=τ++l)(hn:n0≤τ.length)(hb:am τ.length τ=true)(hs:an τ.length ρ=true)(hR:R ρ τ):Nxt n0 R ρ S .mk:=by
 subst h;exact Nxt.drop hn hb hs hR
theorem fg(a b:Bs)(h:a.length+b.length≤9223372036854775807):cd .add (V.d (ai (bs a))) (V.d (ai (bs b)))=some (V.d (ai (bs (a++b)))):=by
 rw[FB,aG,aG,if_pos h,gp]
theorem n8{n:Int}(h:0≤n):Lib.itoa n=Lib.decDigits n.toNat:=by
 unfold Lib.itoa;rw[if_neg (by omega)]
theorem FD(k:Nat):∀u:Nat,u<10^(k+1)->(Lib.decDigits u).length≤k+1:=by
 induction k with
 | zero=>intro u h;rw[Lib.decDigits,dif_pos (by simpa using h)];simp
 | succ k ih=>
  intro u h;rw[Lib.decDigits];split
  .simp
  .have:=ih (u/10) (by rw[TW]at h;omega);simp only[TR,TK,TL];omega
theorem lN{u:Nat}(h:u≤9223372036854775808):(Lib.decDigits u).length≤19:=FD 18 u (by omega)
theorem xk{n:Int}(h0 : -9223372036854775808≤n)(h1:n≤9223372036854775807):(Lib.itoa n).length≤20:=by
 unfold Lib.itoa;split
 .have:=lN (u:=n.natAbs) (by omega);simp only[TK];omega
 .have:=lN (u:=n.toNat) (by omega);omega
theorem qm(n:Int)(h0 : -9223372036854775808≤n)(h1:n≤9223372036854775807)(σ:LLV):Fun G 111 [.d (ab n)] σ (aN (.d (ai (bs (Lib.itoa n)))) σ):=by
 have h5:=xk h0 h1;refine ae Tryz.func111 RJ rfl fun hb hw=>?_;unfold PI;simp -dsimp only[aw,seval];refine ac (rm n h0 h1 (by unfold maxLen;omega) _) ?_;simp -dsimp only[aw,seval];exact ak hb rfl rfl
theorem i6(n:Int)(h0:0≤n)(h1:n≤65535)(σ:LLV):Fun G 111 [.d (ab n)] σ (aN (.d (ai (bs (Lib.decDigits n.toNat)))) σ):=by
 rw[<-n8 h0];exact qm n (by omega) (by omega) σ
theorem nh(u:Nat):u≤9223372036854775808->∀σ:LLV,Fun G 328 [.d (ab (-(u:Int)))] σ (aN (.d (ai (bs (Lib.decDigits u)))) σ):=by
 induction u using Nat.strongRecOn with
 | ind u ih=>
 intro hu σ;have h5:=lN hu;have hrem:(-(u:Int)).tmod 10 = -((u%10:Nat):Int):=by rw[Int.neg_tmod];rfl
 have hquo:(-(u:Int)).tdiv 10 = -((u/10:Nat):Int):=by rw[Int.neg_tdiv];rfl
 have hwq:IntKind.i64.wrap (-((u/10:Nat):Int)) = -((u/10:Nat):Int):=aA (by omega) (by omega);refine ae Tryz.func328 R4 rfl fun hb hw=>?_;unfold MO;by_cases h:u<10
 .have hsub:IntKind.i64.wrap (48 - -(u:Int))=((48+u:Nat):Int):=by rw[aA (by omega) (by omega)];omega
  have hu8:IntKind.u8.wrap ((48+u:Nat):Int)=((48+u:Nat):Int):=by simp[IntKind.wrap,IntKind.bits,IntKind.signed];omega
  have hcb:∀τ:LLV,ub τ (.d (.sl [[.lit (.int .u8 ((48+u:Nat):Int))]]))=some (.d (ai (bs [UInt8.ofNat (48+u)]))):=fun _=>rfl;have hd:Lib.decDigits u=[UInt8.ofNat (48+u)]:=by rw[Lib.decDigits,dif_pos h]
  rw[hd];simp -dsimp only[aw,seval,decide_eq_true (show(-10:Int) < -(u:Int)by omega),hsub,hu8,hcb];exact ak hb rfl rfl
 .have hsub:IntKind.i64.wrap (48 - -((u%10:Nat):Int))=((48+u%10:Nat):Int):=by rw[aA (by omega) (by omega)];omega
  have hu8:IntKind.u8.wrap ((48+u%10:Nat):Int)=((48+u%10:Nat):Int):=by simp[IntKind.wrap,IntKind.bits,IntKind.signed];omega
  have hcb:∀τ:LLV,ub τ (.d (.sl [[.lit (.int .u8 ((48+u%10:Nat):Int))]]))=some (.d (ai (bs [UInt8.ofNat (48+u%10)]))):=fun _=>rfl;have hd:Lib.decDigits u=Lib.decDigits (u/10)++[UInt8.ofNat (48+u%10)]:=by rw[Lib.decDigits,dif_neg h]
  have h6:=lN (u:=u/10) (by omega);have ha:=fg (Lib.decDigits (u/10)) [UInt8.ofNat (48+u%10)] (by simp only[TK,TL];omega);rw[hd];simp -dsimp only[aw,seval,decide_eq_false (show ¬(-10:Int) < -(u:Int)by omega),hquo,hwq,Int.reduceEq];refine bo (ih (u/10) (by omega) (by omega) _) ?_;simp -dsimp only[aw,seval,hrem,hsub,hu8,hcb,ha];exact ak hb rfl rfl
theorem qY(n:Int)(h0 : -9223372036854775808≤n)(h1:n≤9223372036854775807)(σ:LLV):Fun G 325 [.d (ab n)] σ (aN (.d (ai (bs (Lib.itoa n)))) σ):=by
 refine ae Tryz.func325 SR rfl fun hb hw=>?_;unfold Nz Lib.itoa;by_cases hn:n<0
 .have hd:=lN (u:=n.natAbs) (by omega);have ha:cd .add (V.d (ai ⟨#[45]⟩)) (V.d (ai (bs (Lib.decDigits n.natAbs))))=_:=fg [45] (Lib.decDigits n.natAbs) (by simp only[TK,TL];omega);have hr:=nh n.natAbs (by omega);have e : -((n.natAbs:Nat):Int)=n:=by omega
  rw[e]at hr;rw[if_pos hn];simp -dsimp only[aw,seval,decide_eq_true hn];refine ac (hr _) ?_;simp -dsimp only[aw,seval,ha];exact ak hb rfl rfl
 .have hw0:IntKind.i64.wrap (0-n) = -(n.toNat:Int):=by rw[aA (by omega) (by omega)];omega
  rw[if_neg hn];simp -dsimp only[aw,seval,decide_eq_false hn,hw0];refine ac (nh n.toNat (by omega) _) ?_;simp -dsimp only[aw,seval];exact ak hb rfl rfl
theorem ss(n:Int)(h0 : -9223372036854775808≤n)(h1:n≤9223372036854775807)(σ:LLV):Fun G 314 [.d (ab n)] σ (aN (.d (ai (bs (Lib.itoa n++[59])))) σ):=by
 have h5:=xk h0 h1;have ha:cd .add (V.d (ai (bs (Lib.itoa n)))) (V.d (ai ⟨#[59]⟩))=_:=fg (Lib.itoa n) [59] (by simp only[TK,TL];omega);refine ae Tryz.func314 QW rfl fun hb hw=>?_;unfold O7;simp -dsimp only[aw,seval];refine ac (qY n h0 h1 _) ?_;simp -dsimp only[aw,seval,ha];exact ak hb rfl rfl
def mB(l:List (ByteArray×Int×Nat)):LLD:=l.map fun b=>[ai b.1,ab b.2.1,ab b.2.2]
theorem sk(σ:LLV):Fun G 301 [] σ (aN (.d (.sl (mB cC))) σ):=by
 refine ae Tryz.func301 Tj rfl fun hb hw=>?_;unfold OC;simp -dsimp only[aw,seval];exact az hb rfl rfl List.take_length ⟨rfl,rfl⟩
theorem mG(o:Int)(σ:LLV):Fun G 273 [.d (ab o)] σ (aN (.d (ai (bs (wJ o)))) σ):=by
 refine ae Tryz.func273 QO rfl fun hb hw=>?_;unfold Mj wJ;by_cases h4:o=4
 .rw[if_pos h4];simp -dsimp only[aw,seval,decide_eq_true h4];exact ak hb rfl rfl
 by_cases h5:o=5
 .rw[if_neg h4,if_pos h5];simp -dsimp only[aw,seval,decide_eq_false h4,decide_eq_true h5];exact ak hb rfl rfl
 by_cases h6:o=6
 .rw[if_neg h4,if_neg h5,if_pos h6];simp -dsimp only[aw,seval,decide_eq_false h4,decide_eq_false h5,decide_eq_true h6];exact ak hb rfl rfl
 rw[if_neg h4,if_neg h5,if_neg h6];simp -dsimp only[aw,seval,decide_eq_false h4,decide_eq_false h5,decide_eq_false h6];exact ak hb rfl rfl
theorem uZ(o:Int)(σ:LLV):Fun G 261 [.d (ab o)] σ (aN (.d (ai (bs (wJ o)))) σ):=by
 refine ae Tryz.func261 Tr rfl fun hb hw=>?_;unfold Pg wJ;by_cases h4:o=4
 .rw[if_pos h4];simp -dsimp only[aw,seval,decide_eq_true h4];exact ak hb rfl rfl
 by_cases h5:o=5
 .rw[if_neg h4,if_pos h5];simp -dsimp only[aw,seval,decide_eq_false h4,decide_eq_true h5];exact ak hb rfl rfl
 by_cases h6:o=6
 .rw[if_neg h4,if_neg h5,if_pos h6];simp -dsimp only[aw,seval,decide_eq_false h4,decide_eq_false h5,decide_eq_true h6];exact ak hb rfl rfl
 rw[if_neg h4,if_neg h5,if_neg h6];simp -dsimp only[aw,seval,decide_eq_false h4,decide_eq_false h5,decide_eq_false h6];exact ak hb rfl rfl
mutual
def lj:Ex->Ex->Bool
 | .mk o n s l,.mk o' n' s' l'=>(decide (o=o')&&(decide (n=n')&&(decide (s=s')&&iU l l')))
def iU:List Ex->List Ex->Bool
 | [],[]=>true
 | a::r,b::r'=>lj a b&&iU r r'
 | _,_=>false
end
theorem tH:∀{l l':List Ex},l.length≠l'.length->iU l l'=false
 | [],[],h=>absurd rfl h
 | a::r,b::r',h=>by simp only[iU,tH (l:=r) (l':=r') (by simpa using h),Bool.and_false]
 | [],_::_,_=>rfl
 | _::_,[],_=>rfl
theorem wO(a b:Ex):lj a b=(decide (a.op=b.op)&&(decide (a.num=b.num)&&(decide (a.name=b.name)&&iU a.args b.args))):=by
 cases a;cases b;rfl
theorem Ex.ind2{P:Ex->Prop}(h:∀e:Ex,(∀a,a∈e.args->P a)->P e):∀e,P e:=Ex.ind fun o n s l ih=>h (.mk o n s l) ih
theorem rW{l l':List Ex}{j:Nat}(h:j<l.length)(h':j<l'.length):iU (l.drop j) (l'.drop j)=(lj l[j] l'[j]&&iU (l.drop (j+1)) (l'.drop (j+1))):=by
 rw[TN h,TN h'];rfl
theorem sX(a:Ex):∀(b:Ex) (σ:LLV),Fun G 79 [vex a,vex b] σ (aN (ao (lj a b)) σ):=by
 induction a using Ex.ind2 with
 | h a ih=>
 intro b σ;refine ae Tryz.func79 k79 (by simp only[au];rfl) fun hb hw=>?_;have hq:=wO a b;have h0:=hw 0 (by simp);simp only[TP,au]at h0;have hm:=Ku (zS h0 3 (by simp));simp only[List.getElem_cons_succ,TP,List.length_map]at hm
 have out:∀(σ' l:LLV) (b1:Bool),lj a b=b1->σ'=σ++l->fin σ.length M4 (aN (ao (lj a b)) σ) .ret [(4,.d (.lit (.bool b1)))] σ':=fun σ' l b1 h e=>by
  subst e;exact az hb rfl rfl List.take_left ⟨by rw[h];rfl,rfl⟩
 unfold c79;simp -dsimp only[aw,seval,au];refine cz (fun h1=>?_) (fun h1=>?_)
 .simp -dsimp only[aw,seval];refine cz (fun h2=>?_) (fun h2=>?_)
  .simp -dsimp only[aw,seval];refine cz (fun h3=>?_) (fun h3=>?_)
   .simp -dsimp only[aw,seval,Int.ofNat_inj];refine cz (fun h4=>?_) (fun h4=>?_)
    .simp -dsimp only[aw,seval];exact out _ _ _ (by rw[hq,tH (by simpa using h4)];simp) rfl
    .simp -dsimp only[aw,seval];have h4:a.args.length=b.args.length:=by simpa using h4
     generalize hbx:[[V.d (ab a.op),V.d (ab a.num),V.d (ai a.name),V.d (D.sl (TS dex a.args))],[V.d (ab b.op),V.d (ab b.num),V.d (ai b.name),V.d (D.sl (TS dex b.args))]]=bx at out ⊢;refine eJ (R:=fun(j:Nat) ρ σ'=>ρ=[(2,.ptr σ.length 0),(3,.ptr (σ.length+1) 0),(5,aF .i64 j)]/\σ'=σ++bx/\iU a.args b.args=iU (a.args.drop j) (b.args.drop j)) a.args.length ⟨rfl,rfl,by simp⟩ ?_ _;rintro j ρ' σ' hj ⟨rfl,rfl,hrec⟩;subst hbx;by_cases hlt:j<a.args.length
     .have hlt':j<b.args.length:=by omega
      simp -dsimp only[aw,seval,Int.ofNat_lt,hlt,decide_true,TO hlt,TO hlt',bF];refine bo (by simpa only[au]using ih _ (List.getElem_mem hlt) _ _) ?_;simp -dsimp only[aw,seval,aJ hlt hm];refine cz (fun hs=>?_) (fun hs=>?_)
      .simp -dsimp only[aw,seval];exact out _ _ _ (by rw[hq,hrec,rW hlt hlt'];simp_all) rfl
      .simp -dsimp only[aw,seval,aJ hlt hm];refine⟨hlt,Nxt.same (by simp) (aq hb rfl) ?_ ?_⟩
       .simp[an,V.under]
       .exact⟨rfl,rfl,by rw[hrec,rW hlt hlt'];simp_all⟩
     .simp -dsimp only[aw,seval,Int.ofNat_lt,hlt];exact out _ _ _ (by rw[hq,hrec,TQ (by omega),TQ (by omega)];simp_all[iU]) rfl
   .simp -dsimp only[aw,seval];exact out _ _ _ (by rw[hq];simp_all) rfl
  .simp -dsimp only[aw,seval];exact out _ _ _ (by rw[hq];simp_all) rfl
 .simp -dsimp only[aw,seval];exact out _ _ _ (by rw[hq];simp_all) rfl
theorem bt(o n:Int)(s:ByteArray)(l:List Ex):(Ex.mk o n s l).op=o:=rfl
theorem aU(o n:Int)(s:ByteArray)(l:List Ex):(Ex.mk o n s l).num=n:=rfl
theorem aH(o n:Int)(s:ByteArray)(l:List Ex):(Ex.mk o n s l).name=s:=rfl
theorem aI(o n:Int)(s:ByteArray)(l:List Ex):(Ex.mk o n s l).args=l:=rfl
structure Wt where
 lo:Int
 hi:Int
 w:Int
 each:Bool
 deriving DecidableEq
inductive It where
 | mk (kind:Int) (e:Ex) (name idx:ByteArray) (ws:List Wt) (items els:List It) (bef aft:List ByteArray)
namespace It
def kind:It->Int|mk k _ _ _ _ _ _ _ _=>k
def ex:It->Ex|mk _ e _ _ _ _ _ _ _=>e
def name:It->ByteArray|mk _ _ s _ _ _ _ _ _=>s
def idx:It->ByteArray|mk _ _ _ s _ _ _ _ _=>s
def ws:It->List Wt|mk _ _ _ _ l _ _ _ _=>l
def items:It->List It|mk _ _ _ _ _ l _ _ _=>l
def els:It->List It|mk _ _ _ _ _ _ l _ _=>l
def bef:It->List ByteArray|mk _ _ _ _ _ _ _ l _=>l
def aft:It->List ByteArray|mk _ _ _ _ _ _ _ _ l=>l
end It
theorem eM(k:Int)(e:Ex)(nm ix:ByteArray)(ws:List Wt)(l m:List It)(bf af:List ByteArray):(It.mk k e nm ix ws l m bf af).kind=k:=rfl
theorem jr(k:Int)(e:Ex)(nm ix:ByteArray)(ws:List Wt)(l m:List It)(bf af:List ByteArray):(It.mk k e nm ix ws l m bf af).ex=e:=rfl
theorem eG(k:Int)(e:Ex)(nm ix:ByteArray)(ws:List Wt)(l m:List It)(bf af:List ByteArray):(It.mk k e nm ix ws l m bf af).name=nm:=rfl
theorem gm(k:Int)(e:Ex)(nm ix:ByteArray)(ws:List Wt)(l m:List It)(bf af:List ByteArray):(It.mk k e nm ix ws l m bf af).idx=ix:=rfl
theorem jb(k:Int)(e:Ex)(nm ix:ByteArray)(ws:List Wt)(l m:List It)(bf af:List ByteArray):(It.mk k e nm ix ws l m bf af).ws=ws:=rfl
theorem dA(k:Int)(e:Ex)(nm ix:ByteArray)(ws:List Wt)(l m:List It)(bf af:List ByteArray):(It.mk k e nm ix ws l m bf af).items=l:=rfl
theorem ga(k:Int)(e:Ex)(nm ix:ByteArray)(ws:List Wt)(l m:List It)(bf af:List ByteArray):(It.mk k e nm ix ws l m bf af).els=m:=rfl
theorem gy(k:Int)(e:Ex)(nm ix:ByteArray)(ws:List Wt)(l m:List It)(bf af:List ByteArray):(It.mk k e nm ix ws l m bf af).bef=bf:=rfl
theorem gw(k:Int)(e:Ex)(nm ix:ByteArray)(ws:List Wt)(l m:List It)(bf af:List ByteArray):(It.mk k e nm ix ws l m bf af).aft=af:=rfl
mutual
def isz:It->Nat
 | .mk _ _ _ _ _ l m _ _=>1+cL l+cL m
def cL:List It->Nat
 | []=>0
 | a::r=>isz a+cL r
end
theorem vo(x:It):1≤isz x:=by cases x;rw[isz];omega
theorem rF(x:It):isz x=1+cL x.items+cL x.els:=by cases x;rfl
theorem wt{l:List It}{a:It}(h:a∈l):isz a≤cL l:=by
 induction l with
 | nil=>cases h
 | cons b r ih=>
  rw[cL];rcases List.mem_cons.1 h with rfl|h
  .omega
  .have:=ih h;omega
theorem wy(l:List It):l.length≤cL l:=by
 induction l with
 | nil=>exact TT _
 | cons b r ih=>rw[cL,TK];have:=vo b;omega
theorem zY{P:List It->Prop}(h0:P [])(h:∀(a:It) (r:List It),P a.items->P a.els->P r->P (a::r)):∀l,P l:=by
 have H:∀n l,cL l≤n->P l:=by
  intro n
  induction n with
  | zero=>
   intro l hl;cases l with
   | nil=>exact h0
   | cons a r=>rw[cL]at hl;have:=vo a;omega
  | succ n ih=>
   intro l hl;cases l with
   | nil=>exact h0
   | cons a r=>
    rw[cL]at hl;have h1:=rF a;exact h a r (ih _ (by omega)) (ih _ (by omega)) (ih _ (by omega))
 exact fun l=>H _ l (TT _)
section
variable {σ : Type} (step : σ -> It -> Nat -> List ByteArray -> Int × σ)
mutual
def wk:It->Nat->List ByteArray->σ->Int×σ
 | .mk k e nm ix ws l m bf af,d,bd,s=>
  if(step s (.mk k e nm ix ws l m bf af) d bd).1=0 then
   if(wks l (if k=4\/k=5 then d+1 else d) (if k=5 then bd++[ix]else bd) (step s (.mk k e nm ix ws l m bf af) d bd).2).1=0 then
    wks m (if k=4\/k=5 then d+1 else d) bd (wks l (if k=4\/k=5 then d+1 else d) (if k=5 then bd++[ix]else bd) (step s (.mk k e nm ix ws l m bf af) d bd).2).2
   else wks l (if k=4\/k=5 then d+1 else d) (if k=5 then bd++[ix]else bd) (step s (.mk k e nm ix ws l m bf af) d bd).2
  else step s (.mk k e nm ix ws l m bf af) d bd
def wks:List It->Nat->List ByteArray->σ->Int×σ
 | [],_,_,s=>(0,s)
 | a::r,d,bd,s=>if(wk a d bd s).1=0 then wks r d bd (wk a d bd s).2 else wk a d bd s
end
def dep(x:It)(d:Nat):Nat:=if x.kind=4\/x.kind=5 then d+1 else d
def bnd(x:It)(bd:List ByteArray):List ByteArray:=if x.kind=5 then bd++[x.idx]else bd
theorem I4(x:It)(d:Nat)(bd:List ByteArray)(s:σ):wk step x d bd s=if(step s x d bd).1=0 then(if(wks step x.items (dep x d) (bnd x bd) (step s x d bd).2).1=0 then wks step x.els (dep x d) bd (wks step x.items (dep x d) (bnd x bd) (step s x d bd).2).2 else wks step x.items (dep x d) (bnd x bd) (step s x d bd).2)else step s x d bd:=by
 cases x;rw[wk];rfl
end
def wkE(f:It->Nat->List ByteArray->Int)(l:List It)(d:Nat)(bd:List ByteArray):Int:=(wks (fun(_:Unit) x d bd=>(f x d bd,())) l d bd ()).1
theorem AD(f:It->Nat->List ByteArray->Int)(d:Nat)(bd:List ByteArray):wkE f [] d bd=0:=rfl
theorem DV(f:It->Nat->List ByteArray->Int)(x:It)(r:List It)(d:Nat)(bd:List ByteArray):wkE f (x::r) d bd=
 if f x d bd=0 then(if wkE f x.items (dep x d) (bnd x bd)=0 then(if wkE f x.els (dep x d) bd=0 then wkE f r d bd else wkE f x.els (dep x d) bd)else wkE f x.items (dep x d) (bnd x bd))else f x d bd:=by
 unfold wkE;rw[wks,I4];by_cases h1:f x d bd=0
 .rw[if_pos h1,if_pos h1];by_cases h2:(wks (fun(_:Unit) x d bd=>(f x d bd,())) x.items (dep x d) (bnd x bd) ()).1=0
  .rw[if_pos h2,if_pos h2];by_cases h3:(wks (fun(_:Unit) x d bd=>(f x d bd,())) x.els (dep x d) bd ()).1=0
   .rw[if_pos h3,if_pos h3]
   .rw[if_neg h3,if_neg h3]
  .rw[if_neg h2,if_neg h2,if_neg h2]
 .rw[if_neg h1,if_neg h1,if_neg h1]
def fC(e:Ex):Bool:=decide (e.op=0)&&decide (e.num=0)&&decide (e.name=⟨#[]⟩)&&e.args.isEmpty
def bU(x:It):Bool:=
 (decide (x.kind=1\/x.kind=2\/x.kind=4)||fC x.ex)&&(decide (x.kind=3\/x.kind=5)||decide (x.name=⟨#[]⟩))&&(decide (x.kind=5)||decide (x.idx=⟨#[]⟩)) &&
   (decide (x.kind=3)||x.ws.isEmpty)&&(decide (x.kind=4\/x.kind=5)||x.items.isEmpty)&&(decide (x.kind=4)||x.els.isEmpty)&&(decide (x.kind=6)||x.bef.isEmpty&&x.aft.isEmpty)
def wtB(w:Wt):Bool:=decide (0≤w.lo)&&decide (w.lo≤w.hi)&&decide (w.hi≤65535)&&decide (0≤w.w)&&decide (w.w≤1000)
def j6(x:It):Int:=if x.ws.length>16 then 2 else if x.ws=[]then 1 else if x.ws.all wtB=false then 1 else if bN x.name=true then 0 else 7
def oA(x:It):Int:=if x.bef=[]\/x.aft=[]then 1 else if(x.bef++x.aft).all bN=true then 0 else 7
def wX(x:It):Int:=if bC x.name=true/\bC x.idx=true then 0 else 7
def bM(x:It)(d:Nat):Int:=
 if ¬(1≤x.kind/\x.kind≤6)\/bU x=false\/4<d\/0<d/\(x.kind=3\/x.kind=6)then 1
 else if x.kind=3 then j6 x else if x.kind=6 then oA x else if x.kind=5 then wX x else bB x.ex
theorem yW{x:It}{d:Nat}(h:bM x d=0):(1≤x.kind/\x.kind≤6)/\bU x=true/\d≤4:=by
 unfold bM at h;split at h
 .cases h
 .rename_i hn;refine⟨Classical.byContradiction fun hh=>hn (.inl hh),?_,?_⟩
  .cases hp:bU x with
   | true=>rfl
   | false=>exact absurd (.inr (.inl hp)) hn
  .exact Classical.byContradiction fun hh=>hn (.inr (.inr (.inl (by omega))))
theorem y7{x:It}(h:bU x=true)(hk:¬(x.kind=4\/x.kind=5)):x.items=[]/\x.els=[]:=by
 unfold bU at h;simp only[Bool.and_eq_true,Bool.or_eq_true,decide_eq_true_eq,List.isEmpty_iff]at h;obtain⟨⟨⟨-,h1⟩,h2⟩,-⟩:=h;exact⟨h1.resolve_left hk,h2.resolve_left fun h=>hk (.inl h)⟩
mutual
def rvl:List It->Nat->Int
 | [],_=>0
 | x::r,d=>if rv1 x d=0 then rvl r d else rv1 x d
def rv1:It->Nat->Int
 | .mk k e nm ix ws l m bf af,d=>if bM (.mk k e nm ix ws l m bf af) d=0 then(if rvl l (d+1)=0 then rvl m (d+1)else rvl l (d+1))else bM (.mk k e nm ix ws l m bf af) d
end
theorem Er(x:It)(d:Nat):rv1 x d=if bM x d=0 then(if rvl x.items (d+1)=0 then rvl x.els (d+1)else rvl x.items (d+1))else bM x d:=by cases x;rw[rv1];rfl
def yj(x:It)(d:Nat)(_:List ByteArray):Int:=bM x d
theorem xQ:∀(l:List It) (d:Nat) (bd:List ByteArray),wkE yj l d bd=rvl l d:=by
 refine zY (fun d bd=>rfl) fun x r h1 h2 h3 d bd=>?_;rw[DV,rvl,Er];show(if bM x d=0 then _ else bM x d)=_;by_cases hs:bM x d=0
 .rw[if_pos hs,if_pos hs];obtain⟨-,hp,-⟩:=yW hs;by_cases hk:x.kind=4\/x.kind=5
  .have hd:dep x d=d+1:=if_pos hk;rw[hd,h1,h2,h3];by_cases e1:rvl x.items (d+1)=0
   .rw[if_pos e1,if_pos e1]
   .rw[if_neg e1,if_neg e1,if_neg e1]
  .obtain⟨g1,g2⟩:=y7 hp hk;rw[g1,g2,AD,if_pos rfl,AD,if_pos rfl,h3,rvl,if_pos rfl,if_pos rfl]
 .rw[if_neg hs,if_neg hs,if_neg hs]
def g7(l:List It):Int:=if 64<cL l then 2 else rvl l 0
section
variable (spl : ByteArray -> Option (ByteArray × Int)) (fs : List (ByteArray × Int))
end
end Go.Proofs.YtnhphlmblenapaaGreatDoor
namespace Go.Proofs.YtnhphlmblenapaaGreatDoor
open Go.RowKit
def Ai:Ex:=.mk 0 0 ⟨#[]⟩ []
section
variable (fs : List (ByteArray × Int))
end
end Go.Proofs.YtnhphlmblenapaaGreatDoor
namespace Go.Proofs.YtnhphlmblenapaaGreatDoor
open Go.RowKit
abbrev dbl(b:Bool):D:=.lit (.bool b)
def dwt(w:Wt):List D:=[ab w.lo,ab w.hi,ab w.w,dbl w.each]
mutual
def dit:It->List D
 | .mk k e nm ix ws l m bf af=>[ab k,ab e.op,ab e.num,ai e.name,.sl (e.args.map dex),ai nm,ai ix,.sl (ws.map dwt),.sl (Fa l),.sl (Fa m),.sl (bf.map fun s=>[ai s]),.sl (af.map fun s=>[ai s])]
def Fa:List It->LLD
 | []=>[]
 | a::r=>dit a::Fa r
end
theorem Fj(l:List It):Fa l=l.map dit:=by
 induction l with
 | nil=>rfl
 | cons a r ih=>simp only[Fa,ih,List.map_cons]
theorem dB(x:It):dit x=[ab x.kind,ab x.ex.op,ab x.ex.num,ai x.ex.name,.sl (x.ex.args.map dex),ai x.name,ai x.idx,.sl (x.ws.map dwt),.sl (x.items.map dit),.sl (x.els.map dit),.sl (x.bef.map fun s=>[ai s]),.sl (x.aft.map fun s=>[ai s])]:=by
 cases x;simp only[dit,Fj,It.kind,It.ex,It.name,It.idx,It.ws,It.items,It.els,It.bef,It.aft]
def vit(x:It):V:=.agg ((dit x).map V.d)
theorem aM(x:It):vit x=.agg [.d (ab x.kind),.d (ab x.ex.op),.d (ab x.ex.num),.d (ai x.ex.name),.d (.sl (x.ex.args.map dex)),.d (ai x.name),.d (ai x.idx),.d (.sl (x.ws.map dwt)),.d (.sl (x.items.map dit)),.d (.sl (x.els.map dit)),.d (.sl (x.bef.map fun s=>[ai s])),.d (.sl (x.aft.map fun s=>[ai s]))]:=by
 unfold vit;rw[dB];rfl
abbrev gZ(l:List It):D:=.sl (l.map dit)
mutual
def gz:It->Nat
 | .mk _ e _ _ ws l m bf af=>1+bD e+ws.length+bf.length+af.length+bu l+bu m
def bu:List It->Nat
 | []=>0
 | a::r=>gz a+bu r
end
theorem ew(x:It):gz x=1+bD x.ex+x.ws.length+x.bef.length+x.aft.length+bu x.items+bu x.els:=by cases x;rfl
theorem iq{l:List It}{a:It}(h:a∈l):gz a≤bu l:=by
 induction l with
 | nil=>cases h
 | cons b r ih=>
  rw[bu];rcases List.mem_cons.1 h with rfl|h
  .omega
  .have:=ih h;omega
theorem ov(l:List It):l.length≤bu l:=by
 induction l with
 | nil=>exact TT _
 | cons b r ih=>rw[bu,TK,ew];omega
theorem zG:∀l:List It,cL l≤bu l:=by
 refine zY (TT _) fun x r h1 h2 h3=>?_;rw[cL,bu,rF,ew];omega
abbrev Dd(d:Nat)(bd:List ByteArray):V:=.agg [.d (ab d),.d (.sl (bd.map fun s=>[ai s]))]
section
variable (spl : ByteArray -> Option (ByteArray × Int)) (fs : List (ByteArray × Int))
end
end Go.Proofs.YtnhphlmblenapaaGreatDoor
namespace Go.Proofs.YtnhphlmblenapaaGreatDoor
open Go.RowKit
section
variable (spl : ByteArray -> Option (ByteArray × Int)) (fs : List (ByteArray × Int))
end
end Go.Proofs.YtnhphlmblenapaaGreatDoor
namespace Go.Proofs.YtnhphlmblenapaaGreatDoor
open Go.RowKit
structure Fl where
 name:ByteArray
 width:Int
 size:Int
 mode:Int
 init:Int
structure Kl where
 name:ByteArray
 par:ByteArray
 flds:List Fl
 blks:List (ByteArray×List It)
def c77:Cd:=sq [oI 2 0] [0] (sq [oV 5 0,ZN 6 5,oV 3 6] [0,3] (.seq (sq [oI 4 0] [0,3,4] (.block 0 (.loop (.seq (sq [oV 7 4,oV 8 0,ZN 9 8,Yl 10 7 9] [0,3,4,10] (.cond (.t 10) .skip (.exit 0))) (.seq (.block 1 (.draw [oV 13 3,oV 14 0,oV 15 4,ZI 16 12 14 15,ZF 17 8 16,ZL 18 1 17,ZC 19 77 18,Ya 20 13 19,oV 21 0,oV 22 4,ZI 23 12 21 22,ZF 24 9 23,ZL 25 1 24,ZC 26 77 25,Ya 27 20 26,oV 3 27] [0,3,
 4])) (.ops [oV 11 4,Wa 12 11 1,oV 4 12] [0,3,4])))))) (sq [oV 28 3,oV 2 28] [2] .ret)))
def Q1:List RV:=[.t 2 false]
theorem k77:aE G.tab Tryz.f77 1 c77 Q1=true:=by kernel_rfl
def c30:Cd:=sq [oI 2 0] [0] (.seq (sq [oV 3 0,ZC 4 77 3,Wg 5 4 64] [0,5] (.cond (.t 5) (sq [oI 2 2] [2] .ret) (.skip))) (sq [oV 6 0,oM 7 (.call 78 [.t 6,.k (.d (.lit (.int .i64 0)))]),oV 2 7] [2] .ret))
def SX:List RV:=[.t 2 false]
theorem k30:aE G.tab Tryz.f30 1 c30 SX=true:=by kernel_rfl
def OD:Cd:=sq [oM 2 (.mv kF)] [0] (sq [oV 3 0,We 4 3 1,oV 5 4,oH 6 5 (.mv (.t 0)),oH 7 5 (we 6 2),ZP 8 5 7,oV 9 8,oH 10 9 (.mv (.t 0)),oH 11 9 (we 10 4),ZP 12 9 11,oV 2 12] [2] .ret)
def PX:List RV:=[.t 2 false]
theorem Q6:aE G.tab Tryz.f235 1 OD PX=true:=by kernel_rfl
def c78:Cd:=sq [oI 4 0] [0,1] (.seq (sq [oI 5 0] [0,1,5] (.block 0 (.loop (.seq (sq [oV 9 5,oV 10 0,ZN 11 10,Yl 12 9 11] [0,1,5,12] (.cond (.t 12) .skip (.exit 0))) (.seq (.block 1 (.seq (sq [oV 15 0,oV 16 5,ZI 17 12 15 16,ZM 18 12 17,oV 19 1,ZD 20 138 18 19,oV 6 20] [0,1,5,6] (sq [oV 21 6,Wn 22 21 0] [0,1,5,6,22] (.cond (.t 22) (sq [oV 23 6,oV 4 23] [4] .ret) .skip))) (.seq (sq [oV 24 0,oV 25 5,
 ZI 26 12 24 25,ZF 27 8 26,ZL 28 1 27,oV 29 1,Wa 30 29 1,ZD 31 78 28 30,oV 7 31] [0,1,5,7] (sq [oV 32 7,Wn 33 32 0] [0,1,5,7,33] (.cond (.t 33) (sq [oV 34 7,oV 4 34] [4] .ret) .skip))) (sq [oV 35 0,oV 36 5,ZI 37 12 35 36,ZF 38 9 37,ZL 39 1 38,oV 40 1,Wa 41 40 1,ZD 42 78 39 41,oV 8 42] [0,1,5,8] (sq [oV 43 8,Wn 44 43 0] [0,1,5,8,44] (.cond (.t 44) (sq [oV 45 8,
 oV 4 45] [4] .ret) .skip)))))) (.ops [oV 13 5,Wa 14 13 1,oV 5 14] [0,1,5])))))) (sq [oI 4 0] [4] .ret))
def Tq:List RV:=[.t 4 false]
theorem k78:aE G.tab Tryz.f78 2 c78 Tq=true:=by kernel_rfl
def Lv:Cd:=sq [ZB 2 54 0,oI 4 0] [1,2] (.seq (sq [ZF 5 0 2,ZL 6 1 5,Wl 7 6 1,oV 8 7,oH 9 8 (zF 0 2),oH 10 8 (zL 1 9),oH 11 8 (wg 10 6),ZP 12 8 11,oV 13 12,oH 14 13 (zM 12 2),oH 15 13 (zC 195 14),oH 16 13 (zU 15),ZP 17 13 16,oV 18 17,oH 19 18 (.mv (.t 1)),oH 20 18 (wg 19 4),ZP 21 18 20,oV 22 21,oH 23 22 (.mv (.t 1)),oH 24 22 (wg 23 0),oH 25 22 (.mv (.t 24)),oG 26 25 (zF 0 2),oG 27 25 (zL 1 26),
 oG 28 25 (we 27 3),oG 29 25 (.mv (.t 28)),oH 30 29 (zF 0 2),oH 31 29 (zL 1 30),oH 32 29 (we 31 6),oG 33 25 (zP 29 32),oH 34 22 (zQ 25 33),ZP 35 22 34] [2,35] (.cond (.t 35) (sq [oI 4 1] [4] .ret) .skip)) (.seq (sq [ZF 36 0 2,ZL 37 1 36] [2,37] (.block 0 (sq [We 39 37 3,oV 38 39] [2,37,38] (.cond (.t 38) (sq [ZM 40 12 2,ZC 41 196 40,oV 4 41] [4] .ret) (sq [We 43 37 6,oV 42 43] [2,37,
 42] (.cond (.t 42) (.seq (sq [ZF 44 10 2,ZL 45 1 44,ZN 46 45,We 47 46 0,oV 48 47,oH 49 48 (zF 11 2),oH 50 48 (zL 1 49),oH 51 48 (zN 50),oH 52 48 (we 51 0),ZP 53 48 52] [2,53] (.cond (.t 53) (sq [oI 4 1] [4] .ret) .skip)) (.seq (sq [ZF 54 10 2,ZL 55 1 54,ZC 56 197 55,ZU 57 56,oV 58 57,oH 59 58 (zF 11 2),oH 60 58 (zL 1 59),oH 61 58 (zC 197 60),oH 62 58 (zU 61),
 ZP 63 58 62] [63] (.cond (.t 63) (sq [oI 4 7] [4] .ret) .skip)) (sq [oI 4 0] [4] .ret))) (sq [We 65 37 5,oV 64 65] [2,64] (.cond (.t 64) (.seq (sq [ZF 66 5 2,ZL 67 1 66,ZC 68 142 67,ZU 69 68,oV 70 69,oH 71 70 (zF 6 2),oH 72 70 (zL 1 71),oH 73 70 (zC 142 72),oH 74 70 (zU 73),ZP 75 70 74] [75] (.cond (.t 75) (sq [oI 4 7] [4] .ret) .skip)) (sq [oI 4 0] [4] .ret)) .skip)))))))) (sq [ZF 76 1 2,
 ZM 77 4 76,ZC 78 194 77,oV 4 78] [4] .ret)))
def Nr:List RV:=[.t 4 false]
theorem SF:aE G.tab Tryz.f138 2 Lv Nr=true:=by kernel_rfl
def ND:Cd:=sq [ZB 1 54 0,oM 2 (.mv kF)] [1] (.seq (sq [ZF 3 0 1,ZL 4 1 3,ZC 5 235 4,ZU 6 5,oV 7 6,oG 8 7 (zF 1 1),oG 9 7 (zM 4 8),⟨some 10,.bld zz0 [],(some (7,true))⟩,oG 11 7 (zD 79 9 10),oG 12 7 (zU 11),ZQ 13 7 12,oV 14 13,oH 15 14 (zF 0 1),oH 16 14 (zL 1 15),oH 17 14 (wn 16 3),oH 18 14 (.mv (.t 17)),oG 19 18 (zF 7 1),oG 20 18 (zL 1 19),oG 21 18 (zN 20),oG 22 18 (wg 21 0),
 oG 23 18 (.mv (.t 22)),oH 24 23 (zF 0 1),oH 25 23 (zL 1 24),oH 26 23 (wn 25 5),oH 27 23 (.mv (.t 26)),oG 28 27 (zF 5 1),oG 29 27 (zL 1 28),oG 30 27 (.bin .neq (.t 29) (kS ⟨#[]⟩)),oH 31 23 (zQ 27 30),oG 32 18 (zP 23 31),oH 33 14 (zQ 18 32),ZP 34 14 33] [1,34] (.cond (.t 34) (sq [oM 2 (.mv kF)] [2] .ret) .skip)) (.seq (sq [ZF 35 0 1,ZL 36 1 35,Wn 37 36 5,oV 38 37,oG 39 38 (zF 6 1),
 oG 40 38 (zL 1 39),oG 41 38 (.bin .neq (.t 40) (kS ⟨#[]⟩)),oG 42 38 (.mv (.t 41)),oH 43 42 (zF 0 1),oH 44 42 (zL 1 43),oH 45 42 (wn 44 4),oH 46 42 (.mv (.t 45)),oG 47 46 (zF 8 1),oG 48 46 (zL 1 47),oG 49 46 (zN 48),oG 50 46 (wg 49 0),oH 51 42 (zQ 46 50),oG 52 38 (zP 42 51),ZQ 53 38 52,oV 54 53,oH 55 54 (zF 0 1),oH 56 54 (zL 1 55),oH 57 54 (wn 56 4),oH 58 54 (.mv (.t 57)),oG 59 58 (zF 9 1),
 oG 60 58 (zL 1 59),oG 61 58 (zN 60),oG 62 58 (wg 61 0),oH 63 54 (zQ 58 62),ZP 64 54 63] [1,64] (.cond (.t 64) (sq [oM 2 (.mv kF)] [2] (.ret)) .skip)) (sq [ZF 65 0 1,ZL 66 1 65,We 67 66 6,oV 68 67,oH 69 68 (zF 10 1),oH 70 68 (zL 1 69),oH 71 68 (zN 70),oH 72 68 (we 71 0),oH 73 68 (.mv (.t 72)),oG 74 73 (zF 11 1),oG 75 73 (zL 1 74),oG 76 73 (zN 75),oG 77 73 (we 76 0),oH 78 68 (zQ 73 77),ZP 79 68 78,
 oV 2 79] [2] (.ret))))
def NP:List RV:=[.t 2 false]
theorem RL:aE G.tab Tryz.f195 1 ND NP=true:=by kernel_rfl
def Mu:Cd:=sq [ZB 1 54 0,oI 2 0] [1] (.seq (sq [ZF 5 7 1,ZL 6 1 5,ZN 7 6,Wg 8 7 16] [1,8] (.cond (.t 8) (sq [oI 2 2] [2] .ret) .skip)) (.seq (sq [ZF 9 7 1,ZL 10 1 9,ZN 11 10,We 12 11 0] [1,12] (.cond (.t 12) (sq [oI 2 1] [2] .ret) .skip)) (.seq (sq [oI 3 0] [1,3] (.block 0 (.loop (.seq (sq [oV 13 3,ZF 14 7 1,ZL 15 1 14,ZN 16 15,Yl 17 13 16] [1,3,
 17] (.cond (.t 17) .skip (.exit 0))) (.seq (.block 1 (sq [ZF 20 7 1,ZL 21 1 20,oV 22 3,ZI 23 4 21 22,ZM 24 4 23,oM 4 (.new 56 zz7),oS 4 4 24] [1,3,4] (sq [ZF 25 0 4,ZL 26 1 25,Wl 27 26 0,oV 28 27,oH 29 28 (zF 0 4),oH 30 28 (zL 1 29),oH 31 28 (zF 1 4),oH 32 28 (zL 1 31),oH 33 28 (yg 30 32),ZP 34 28 33,oV 35 34,oH 36 35 (zF 1 4),oH 37 35 (zL 1 36),oH 38 35 (wg 37 65535),ZP 39 35 38,oV 40 39,
 oH 41 40 (zF 2 4),oH 42 40 (zL 1 41),oH 43 40 (wl 42 0),ZP 44 40 43,oV 45 44,oH 46 45 (zF 2 4),oH 47 45 (zL 1 46),oH 48 45 (wg 47 1000),ZP 49 45 48] [1,3,49] (.cond (.t 49) (sq [oI 2 1] [2] .ret) .skip)))) (.ops [oV 18 3,Wa 19 18 1,oV 3 19] [1,3])))))) (.seq (sq [ZF 50 5 1,ZL 51 1 50,ZC 52 236 51,ZU 53 52] [53] (.cond (.t 53) (sq [oI 2 7] [2] .ret) .skip)) (sq [oI 2 0] [2] .ret)))))
def LL:List RV:=[.t 2 false]
theorem RQ:aE G.tab Tryz.f196 1 Mu LL=true:=by kernel_rfl
def Qz:Cd:=sq [oM 2 (.mv kF)] [0] (.seq (sq [oI 3 0] [0,3] (.block 0 (.loop (.seq (sq [oV 4 3,oV 5 0,ZN 6 5,Yl 7 4 6] [0,3,7] (.cond (.t 7) .skip (.exit 0))) (.seq (.block 1 (sq [oV 10 0,oV 11 3,ZI 12 1 10 11,ZL 13 1 12,ZC 14 236 13,ZU 15 14] [0,3,15] (.cond (.t 15) (sq [oM 2 (.mv kF)] [2] .ret) .skip))) (.ops [oV 8 3,Wa 9 8 1,oV 3 9] [0,3])))))) (sq [oM 2 (.mv kT)] [2] .ret))
def Qp:List RV:=[.t 2 false]
theorem Td:aE G.tab Tryz.f197 1 Qz Qp=true:=by kernel_rfl
end Go.Proofs.YtnhphlmblenapaaGreatDoor
