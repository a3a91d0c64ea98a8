import Derived.Test.YtnhphlmblenapaaGreatDoorPg
set_option linter.unusedVariables false
set_option linter.unusedSimpArgs false
set_option linter.unusedSectionVars false
open List renaming suffix_refl->Pa,suffix_cons->Pb
open Nat renaming lt_of_lt_of_le->Pd,lt_of_le_of_lt->Pe
namespace Go.Proofs.YtnhphlmblenapaaGreatDoor
open Go.RowKit
theorem Ew{m:ByteArray}{r r1:List Tok}(h:acc m r=some r1):∃t,r=t::r1/\bS t=true/\(t.kind=4\/t.kind=2)/\t.text=m:=by
 cases r with
 | nil=>cases h
 | cons t q=>
  simp only[acc]at h;split at h
  .rename_i hc;cases h;exact⟨t,rfl,hc⟩
  .cases h
theorem wB{r r1:List Tok}{s:ByteArray}(h:bD r=some (s,r1)):∃t,r=t::r1/\bS t=true/\t.kind=1/\t.text=s:=by
 cases r with
 | nil=>cases h
 | cons t q=>
  simp only[bD]at h;split at h
  .rename_i hc;cases h;exact⟨t,rfl,hc.1,hc.2,rfl⟩
  .cases h
theorem rC{r r1:List Tok}{n:Int}(h:cm r=some (n,r1)):∃t,r=t::r1/\bS t=true/\t.kind=3/\t.num=n:=by
 cases r with
 | nil=>cases h
 | cons t q=>
  simp only[cm]at h;split at h
  .rename_i hc;cases h;exact⟨t,rfl,hc.1,hc.2,rfl⟩
  .cases h
theorem az{m:ByteArray}{r r1:List Tok}(h:acc m r=some r1):r1 <:+ r/\r1.length<r.length:=by
 obtain⟨t,rfl,-⟩:=Ew h;exact⟨Pb _ _,by simp⟩
theorem ff{r r1:List Tok}{s:ByteArray}(h:bD r=some (s,r1)):r1 <:+ r/\r1.length<r.length:=by
 obtain⟨t,rfl,-⟩:=wB h;exact⟨Pb _ _,by simp⟩
theorem iz{r r1:List Tok}{n:Int}(h:cm r=some (n,r1)):r1 <:+ r/\r1.length<r.length:=by
 obtain⟨t,rfl,-⟩:=rC h;exact⟨Pb _ _,by simp⟩
theorem nd:∀(l:List (ByteArray×Int×Nat)) (k:Nat) (r:List Tok) {o:Int} {r1:List Tok},fm l k r=some (o,r1)->r1 <:+ r/\r1.length<r.length
 | [],_,_,_,_,h=>by cases h
 | b::l,k,r,o,r1,h=>by
  simp only[fm]at h;split at h
  .split at h
   .rename_i q hq;cases h;exact az hq
   .exact nd l k r h
  .exact nd l k r h
theorem mI{k:Nat}{r r1:List Tok}{o:Int}{ex:Bool}(h:dw k r=some (o,ex,r1)):r1 <:+ r/\r1.length<r.length:=by
 unfold dw at h;split at h
 .rename_i o' q hq;cases h;exact nd _ _ _ hq
 .split at h
  .split at h
   .rename_i q hq;cases h;exact az hq
   .split at h
    .rename_i q hq;cases h;exact az hq
    .cases h
  .cases h
def PR.le(x y:PR):Prop:=x=.out\/x=y
theorem PR.le.rfl{x:PR}:x.le x:=.inr (Eq.refl x)
theorem cr{x x':PR}{f f':Ex->List Tok->PR}(h:x.le x')(hf:∀e r,(f e r).le (f' e r)):(x.bind f).le (x'.bind f'):=by
 rcases h with rfl|rfl
 .exact .inl (Eq.refl _)
 .cases x with
  | out=>exact .inl (Eq.refl _)
  | bad e r=>exact .rfl
  | ok e r=>exact hf e r
theorem u7{rec rec':PK->List Tok->PR}(h:∀k r,(rec k r).le (rec' k r))(r:List Tok):(fd rec r).le (fd rec' r):=by
 unfold fd;cases acc (ah 40) r with
 | some r1=>exact cr (h _ _) fun e r2=>.rfl
 | none=>
 cases cm r with
 | some p=>exact .rfl
 | none=>
 cases bD r with
 | none=>exact .rfl
 | some p=>
 obtain⟨s,r1⟩:=p;simp only;cases (if s=qu then acc (ah 40) r1 else none)with
 | some r2=>exact .rfl
 | none=>
 simp only;cases (if s=jS then acc (ah 40) r1 else none)with
 | some r2=>exact cr (h _ _) fun e r3=>.rfl
 | none=>
 simp only;cases acc (ah 91) r1 with
 | some r2=>exact cr (h _ _) fun e r3=>.rfl
 | none=>exact .rfl
theorem qb{rec rec':PK->List Tok->PR}(h:∀k r,(rec k r).le (rec' k r))(k:PK)(r:List Tok):(aX rec k r).le (aX rec' k r):=by
 cases k with
 | W=>
  simp only[aX];refine cr (h _ _) fun c r1=>?_;cases acc (ah 63) r1 with
  | none=>exact .rfl
  | some r2=>
   refine cr (h _ _) fun a r3=>?_;cases acc (ah 58) r3 with
   | none=>exact .rfl
   | some r4=>exact cr (h _ _) fun b r5=>.rfl
 | I=>
  simp only[aX];refine cr (h _ _) fun c r1=>?_;cases acc (bL 61 62) r1 with
  | none=>exact .rfl
  | some r2=>exact cr (h _ _) fun b r5=>.rfl
 | L k=>
  simp only[aX];split
  .exact h _ _
  .exact cr (h _ _) fun b r5=>h _ _
 | Lp k a=>
  simp only[aX];cases (if k=9 then acc dF r else none)with
  | some r1=>exact cr (h _ _) fun b r5=>h _ _
  | none=>
   simp only;cases dw k r with
   | none=>exact .rfl
   | some p=>exact cr (h _ _) fun b r5=>h _ _
 | In a=>
  simp only[aX];cases acc (ah 123) r with
  | none=>exact .rfl
  | some r1=>exact h _ _
 | Ip args=>
  simp only[aX];refine cr (h _ _) fun lo r1=>?_;cases acc (bL 46 46) r1 with
  | none=>exact .rfl
  | some r2=>
   refine cr (h _ _) fun hi r3=>?_;cases acc (ah 44) r3 with
   | some r4=>exact h _ _
   | none=>exact .rfl
 | U=>
  simp only[aX];cases acc (ah 33) r with
  | some r1=>exact cr (h _ _) fun b r5=>.rfl
  | none=>
  cases acc (ah 126) r with
  | some r1=>exact cr (h _ _) fun b r5=>.rfl
  | none=>
  cases acc (ah 45) r with
  | some r1=>exact cr (h _ _) fun b r5=>.rfl
  | none=>exact h _ _
 | P=>exact u7 h r
theorem p8:∀(n:Nat) (k:PK) (r:List Tok),(fu n k r).le (fu (n+1) k r)
 | 0,_,_=>.inl rfl
 | n+1,k,r=>qb (p8 n) k r
theorem kY{n m:Nat}(h:n≤m)(k:PK)(r:List Tok):(fu n k r).le (fu m k r):=by
 induction h with
 | refl=>exact .rfl
 | step h ih=>
  rcases ih with e|e
  .exact .inl e
  .rw[e];exact p8 _ k r
def gu(s:Bool)(r:List Tok):PR->Prop
 | .out=>True
 | .bad _ r'=>r' <:+ r
 | .ok _ r'=>r' <:+ r/\(s=true->r'.length<r.length)
theorem gu.weak{s:Bool}{r r0:List Tok}{x:PR}(h:gu s r x)(hr:r <:+ r0):gu s r0 x:=by
 cases x with
 | out=>trivial
 | bad e q=>exact h.trans hr
 | ok e q=>exact⟨h.1.trans hr,fun e=>Pd (h.2 e) hr.length_le⟩
theorem gu.strict{s:Bool}{r r0:List Tok}{x:PR}(h:gu s r x)(hr:r <:+ r0)(hl:r.length<r0.length):gu true r0 x:=by
 cases x with
 | out=>trivial
 | bad e q=>exact h.trans hr
 | ok e q=>exact⟨h.1.trans hr,fun _=>Pe h.1.length_le hl⟩
theorem gu.less{s:Bool}{r:List Tok}{x:PR}(h:gu s r x):gu false r x:=by
 cases x with
 | out=>trivial
 | bad e q=>exact h
 | ok e q=>exact⟨h.1,fun h=>by cases h⟩
theorem cu{s t:Bool}{r:List Tok}{x:PR}{f:Ex->List Tok->PR}(h:gu s r x)(hf:∀e r1,r1 <:+ r->gu t r1 (f e r1)):gu (s||t) r (x.bind f):=by
 cases x with
 | out=>trivial
 | bad e q=>exact h
 | ok e q=>
  have h1:=hf e q h.1;show gu (s||t) r (f e q);cases hx:f e q with
  | out=>trivial
  | bad e' q'=>rw[hx]at h1;exact h1.trans h.1
  | ok e' q'=>
   rw[hx]at h1;refine⟨h1.1.trans h.1,fun hs=>?_⟩;rcases Bool.or_eq_true_iff.1 hs with g|g
   .exact Pe h1.1.length_le (h.2 g)
   .exact Pd (h1.2 g) h.1.length_le
theorem dv{s:Bool}(r:List Tok):gu s r (dZ r):=by
 cases r with
 | nil=>exact Pa _
 | cons t r=>exact Pa _
theorem dD(e:Ex){r r1:List Tok}(h:r1 <:+ r):gu false r (.ok e r1):=⟨h,fun h=>by cases h⟩
theorem CV{s:Bool}(e:Ex){r r1:List Tok}(h:r1 <:+ r/\r1.length<r.length):gu s r (.ok e r1):=⟨h.1,fun _=>h.2⟩
def PK.eats:PK->Bool
 | .Lp _ _=>false
 | _=>true
theorem ze{rec:PK->List Tok->PR}(h:∀k r,gu k.eats r (rec k r))(r:List Tok):gu true r (fd rec r):=by
 unfold fd;cases h1:acc (ah 40) r with
 | some r1=>
  obtain⟨a1,a2⟩:=az h1;refine(cu (t:=false) ((h .W r1)) fun e r2 hs=>?_).strict a1 a2;cases h2:acc (ah 41) r2 with
  | some r3=>exact dD _ (az h2).1
  | none=>exact dv _
 | none=>
 cases h2:cm r with
 | some p=>
  obtain⟨n,r1⟩:=p;simp only;split
  .exact Pa _
  .exact CV _ (iz h2)
 | none=>
 cases h3:bD r with
 | none=>exact dv _
 | some p=>
 obtain⟨s,r1⟩:=p;obtain⟨n1,n2⟩:=ff h3
 suffices hh:∀x,gu false r1 x->gu true r x by
  refine hh _ ?_;simp only;cases h4:(if s=qu then acc (ah 40) r1 else none)with
  | some r2=>
   have a1:r2 <:+ r1:=by
    split at h4
    .exact(az h4).1
    .cases h4
   simp only;cases h5:bD r2 with
   | none=>exact(dv r2).weak a1
   | some p=>
    obtain⟨a,r3⟩:=p;simp only;cases h6:acc (ah 41) r3 with
    | some r4=>exact dD _ (((az h6).1.trans (ff h5).1).trans a1)
    | none=>exact(dv r3).weak ((ff h5).1.trans a1)
  | none=>
  simp only;cases h5:(if s=jS then acc (ah 40) r1 else none)with
  | some r2=>
   have a1:r2 <:+ r1:=by
    split at h5
    .exact(az h5).1
    .cases h5
   have:=(cu (t:=false) (f:=fun e r3=>match acc (ah 41) r3 with|some r4=>.ok (bh 25 [e]) r4|none=>dZ r3) (h .W r2) fun e r3 hs=>by
    cases h6:acc (ah 41) r3 with
    | some r4=>exact dD _ (az h6).1
    | none=>exact dv _).weak a1
   exact this.less
  | none=>
  simp only;cases h6:acc (ah 91) r1 with
  | some r2=>
   have:=(cu (t:=false) (f:=fun e r3=>match acc (ah 93) r3 with|some r4=>.ok (.mk 3 0 s [e]) r4|none=>dZ r3) (h .W r2) fun e r3 hs=>by
    cases h6:acc (ah 93) r3 with
    | some r4=>exact dD _ (az h6).1
    | none=>exact dv _).weak (az h6).1
   exact this.less
  | none=>
  simp only;cases h7:acc (ah 64) r1 with
  | some r2=>
   simp only;cases h8:cm r2 with
   | none=>exact(dv r2).weak (az h7).1
   | some p=>
    obtain⟨n,r3⟩:=p;simp only;split
    .exact(az h7).1
    .exact dD _ ((iz h8).1.trans (az h7).1)
  | none=>exact dD _ (Pa _)
 intro x hx;exact hx.strict n1 n2
theorem yD{rec:PK->List Tok->PR}(h:∀k r,gu k.eats r (rec k r))(k:PK)(r:List Tok):gu k.eats r (aX rec k r):=by
 cases k with
 | W=>
  simp only[aX];refine cu (s:=true) (t:=false) (h .I r) fun c r1 _=>?_;cases h1:acc (ah 63) r1 with
  | none=>exact dD _ (Pa _)
  | some r2=>
   have:=cu (s:=true) (t:=false) (f:=fun a r3=>match acc (ah 58) r3 with|none=>dZ r3|some r4=>(rec .W r4).bind fun b r5=>.ok (bh 22 [c,a,b]) r5) (h .W r2) fun a r3 _=>by
    cases h2:acc (ah 58) r3 with
    | none=>exact dv _
    | some r4=>
     have:=(cu (s:=true) (t:=false) (f:=fun b r5=>.ok (bh 22 [c,a,b]) r5) (h .W r4) fun b r5 _=>dD _ (Pa _)).weak (az h2).1;exact this.less
   have h3:=this.weak (az h1).1;exact h3.less
 | I=>
  simp only[aX];refine cu (s:=true) (t:=false) (h (.L 3) r) fun c r1 _=>?_;cases h1:acc (bL 61 62) r1 with
  | none=>exact dD _ (Pa _)
  | some r2=>
   have:=(cu (s:=true) (t:=false) (f:=fun b r5=>.ok (bh 21 [c,b]) r5) (h .I r2) fun b r5 _=>dD _ (Pa _)).weak (az h1).1;exact this.less
 | L k=>
  simp only[aX];split
  .exact h .U r
  .exact cu (s:=true) (t:=false) (h (.L (k+1)) r) fun a r1 _=>h (.Lp k a) r1
 | Lp k a=>
  simp only[aX];cases h1:(if k=9 then acc dF r else none)with
  | some r1=>
   have a1:r1 <:+ r:=by
    split at h1
    .exact(az h1).1
    .cases h1
   have:=(cu (s:=true) (t:=false) (f:=fun b r2=>rec (.Lp k b) r2) (h (.In a) r1) fun b r2 _=>h (.Lp k b) r2).weak a1;exact this.less
  | none=>
   simp only;cases h2:dw k r with
   | none=>exact dD _ (Pa _)
   | some p=>
    obtain⟨o,ex,r1⟩:=p;have:=(cu (s:=true) (t:=false) (f:=fun c r2=>rec (.Lp k (if ex then bh o [c,a]else bh o [a,c])) r2) (h (.L (k+1)) r1) fun b r2 _=>h (.Lp k _) r2).weak (mI h2).1;exact this.less
 | In a=>
  simp only[aX];cases h1:acc (ah 123) r with
  | none=>exact dv _
  | some r1=>exact(h (.Ip [a]) r1).weak (az h1).1
 | Ip args=>
  simp only[aX];refine cu (s:=true) (t:=false) (h .W r) fun lo r1 _=>?_;cases h1:acc (bL 46 46) r1 with
  | none=>exact dv _
  | some r2=>
   have:=(cu (s:=true) (t:=false) (f:=fun hi r3=>match acc (ah 44) r3 with|some r4=>rec (.Ip (args++[lo,hi])) r4|none=>match acc (ah 125) r3 with|some r5=>.ok (bh 23 (args++[lo,hi])) r5|none=>dZ r3) (h .W r2) fun hi r3 _=>by
    cases h2:acc (ah 44) r3 with
    | some r4=>
     have:=(h (.Ip (args++[lo,hi])) r4).weak (az h2).1;exact this.less
    | none=>
     simp only;cases h3:acc (ah 125) r3 with
     | some r5=>exact dD _ (az h3).1
     | none=>exact dv _).weak (az h1).1
   exact this.less
 | U=>
  simp only[aX];cases h1:acc (ah 33) r with
  | some r1=>exact(cu (s:=true) (t:=false) (h .U r1) fun a r2 _=>dD _ (Pa _)).weak (az h1).1
  | none=>
  cases h2:acc (ah 126) r with
  | some r1=>exact(cu (s:=true) (t:=false) (h .U r1) fun a r2 _=>dD _ (Pa _)).weak (az h2).1
  | none=>
  cases h3:acc (ah 45) r with
  | some r1=>exact(cu (s:=true) (t:=false) (h .U r1) fun a r2 _=>dD _ (Pa _)).weak (az h3).1
  | none=>exact h .P r
 | P=>exact ze h r
theorem mM:∀(n:Nat) (k:PK) (r:List Tok),gu k.eats r (fu n k r)
 | 0,_,_=>trivial
 | n+1,k,r=>yD (mM n) k r
def PK.cost:PK->Nat
 | .W=>15
 | .I=>14
 | .L k=>3+(13-k)
 | .Lp _ _=>1
 | .In _=>1
 | .Ip _=>16
 | .U=>2
 | .P=>1
def gp(k:PK)(r:List Tok):Nat:=40*r.length+k.cost
theorem dm{x:PR}{f:Ex->List Tok->PR}(h:x≠.out)(hf:∀e r,x=.ok e r->f e r≠.out):x.bind f≠.out:=by
 cases x with
 | out=>exact absurd rfl h
 | bad e r=>intro h;cases h
 | ok e r=>exact hf e r rfl
theorem fi(r:List Tok):dZ r≠.out:=by cases r<;>(intro h;cases h)
theorem ol(k:PK):1≤k.cost/\k.cost≤16:=by
 cases k<;>simp only[PK.cost]<;>omega
theorem jq{n:Nat}{k:PK}{r r1:List Tok}{e:Ex}(h:fu n k r=.ok e r1):r1.length≤r.length/\(k.eats=true->r1.length<r.length):=by
 have:=mM n k r;rw[h]at this;exact⟨this.1.length_le,this.2⟩
theorem OC:∀(n:Nat) (k:PK) (r:List Tok),gp k r≤n->fu n k r≠.out:=by
 intro n
 induction n with
 | zero=>intro k r h;have:=(ol k).1;unfold gp at h;omega
 | succ n ih=>
  intro k r hn
  have less:∀(k':PK) (r':List Tok),r'.length<r.length->fu n k' r'≠.out:=fun k' r' hl=>ih k' r' (by
   have:=(ol k').2;have:=(ol k).1;unfold gp at *;omega)
  have same:∀(k':PK),k'.cost<k.cost->fu n k' r≠.out:=fun k' hc=>ih k' r (by unfold gp at *;omega);show aX (fu n) k r≠.out;cases k with
  | W=>
   simp only[aX];refine dm (same .I (by decide)) fun c r1 h1=>?_;have l1:=(jq h1).2 rfl;cases h2:acc (ah 63) r1 with
   | none=>intro h;cases h
   | some r2=>
    have l2:=(az h2).2;refine dm (less _ _ (by omega)) fun a r3 h3=>?_;have l3:=(jq h3).1;cases h4:acc (ah 58) r3 with
    | none=>exact fi _
    | some r4=>
     have l4:=(az h4).2;exact dm (less _ _ (by omega)) fun b r5 _ h=>by cases h
  | I=>
   simp only[aX];refine dm (same (.L 3) (by decide)) fun c r1 h1=>?_;have l1:=(jq h1).2 rfl;cases h2:acc (bL 61 62) r1 with
   | none=>intro h;cases h
   | some r2=>
    have l2:=(az h2).2;exact dm (less _ _ (by omega)) fun b r5 _ h=>by cases h
  | L k=>
   simp only[aX];split
   .exact same .U (by simp only[PK.cost];omega)
   .rename_i hk;refine dm (same (.L (k+1)) (by simp only[PK.cost];omega)) fun c r1 h1=>?_;exact less _ _ ((jq h1).2 rfl)
  | Lp k a=>
   simp only[aX];cases h1:(if k=9 then acc dF r else none)with
   | some r1=>
    have a1:r1.length<r.length:=by
     split at h1
     .exact(az h1).2
     .cases h1
    exact dm (less _ _ a1) fun b r2 h2=>less _ _ (by have:=(jq h2).1;omega)
   | none=>
    simp only;cases h2:dw k r with
    | none=>intro h;cases h
    | some p=>
     obtain⟨o,ex,r1⟩:=p;have a1:=(mI h2).2;exact dm (less _ _ a1) fun b r2 h2=>less _ _ (by have:=(jq h2).1;omega)
  | In a=>
   simp only[aX];cases h1:acc (ah 123) r with
   | none=>exact fi _
   | some r1=>exact less _ _ (az h1).2
  | Ip args=>
   simp only[aX];refine dm (same .W (by simp only[PK.cost];omega)) fun lo r1 h1=>?_;have l1:=(jq h1).2 rfl;cases h2:acc (bL 46 46) r1 with
   | none=>exact fi _
   | some r2=>
    have l2:=(az h2).2;refine dm (less _ _ (by omega)) fun hi r3 h3=>?_;have l3:=(jq h3).1;cases h4:acc (ah 44) r3 with
    | some r4=>exact less _ _ (by have:=(az h4).2;omega)
    | none=>
     simp only;cases h5:acc (ah 125) r3 with
     | some r5=>intro h;cases h
     | none=>exact fi _
  | U=>
   simp only[aX];cases h1:acc (ah 33) r with
   | some r1=>exact dm (less _ _ (az h1).2) fun b r5 _ h=>by cases h
   | none=>
   cases h2:acc (ah 126) r with
   | some r1=>exact dm (less _ _ (az h2).2) fun b r5 _ h=>by cases h
   | none=>
   cases h3:acc (ah 45) r with
   | some r1=>exact dm (less _ _ (az h3).2) fun b r5 _ h=>by cases h
   | none=>exact same .P (by decide)
  | P=>
   show fd (fu n) r≠.out;unfold fd;cases h1:acc (ah 40) r with
   | some r1=>
    refine dm (less _ _ (az h1).2) fun e r2 _=>?_;cases acc (ah 41) r2 with
    | some r3=>intro h;cases h
    | none=>exact fi _
   | none=>
   cases h2:cm r with
   | some p=>simp only;split<;>(intro h;cases h)
   | none=>
   cases h3:bD r with
   | none=>exact fi _
   | some p=>
   obtain⟨s,r1⟩:=p;have l1:=(ff h3).2;simp only;cases h4:(if s=qu then acc (ah 40) r1 else none)with
   | some r2=>
    simp only;cases bD r2 with
    | none=>exact fi _
    | some p=>
     simp only;cases acc (ah 41) p.2 with
     | some r4=>intro h;cases h
     | none=>exact fi _
   | none=>
   simp only;cases h5:(if s=jS then acc (ah 40) r1 else none)with
   | some r2=>
    have a1:r2.length<r1.length:=by
     split at h5
     .exact(az h5).2
     .cases h5
    refine dm (less _ _ (by omega)) fun e r2 _=>?_;cases acc (ah 41) r2 with
    | some r3=>intro h;cases h
    | none=>exact fi _
   | none=>
   simp only;cases h6:acc (ah 91) r1 with
   | some r2=>
    have a1:=(az h6).2;refine dm (less _ _ (by omega)) fun e r2 _=>?_;cases acc (ah 93) r2 with
    | some r3=>intro h;cases h
    | none=>exact fi _
   | none=>
   simp only;cases h7:acc (ah 64) r1 with
   | some r2=>
    simp only;cases cm r2 with
    | none=>exact fi _
    | some p=>simp only;split<;>(intro h;cases h)
   | none=>intro h;cases h
def par(k:PK)(r:List Tok):PR:=fu (40*r.length+20) k r
theorem eR(k:PK)(r:List Tok):par k r≠.out:=OC _ _ _ (by have:=(ol k).2;unfold gp;omega)
theorem B3(n:Nat)(k:PK)(r:List Tok):(fu n k r).le (par k r):=by
 rcases Nat.le_total n (40*r.length+20)with h|h
 .exact kY h k r
 .rcases kY h k r with e|e
  .exact absurd e (eR k r)
  .exact .inr e.symm
theorem iT(k:PK)(r:List Tok):par k r=aX par k r:=by
 have h1:=qb (B3 (40*r.length+20)) k r;have h2:=kY (Nat.le_succ (40*r.length+20)) k r;rcases h2 with e|e
 .exact absurd e (eR k r)
 .rcases h1 with g|g
  .exact absurd (e.trans g) (eR k r)
  .exact e.trans g
theorem jI(k:PK)(r:List Tok):gu k.eats r (par k r):=mM _ k r
end Go.Proofs.YtnhphlmblenapaaGreatDoor
