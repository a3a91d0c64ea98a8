import Derived.Test.YtcbahpllcfbkmaaGreatDoorPg
set_option linter.unusedVariables false
set_option linter.unusedSimpArgs false
set_option linter.unusedSectionVars false
namespace Go.Proofs.YtcbahpllcfbkmaaGreatDoor
open Go.RowKit
theorem As{m:ByteArray}{r r1:List Tok}(h:acc m r=some r1):∃t,r=t::r1∧dG t=true∧(t.kind=4∨t.kind=2)∧t.text=m:=by
 cases r with
 | nil=>cases h
 | cons t q=>
  simp only[acc]at h;split at h
  ·rename_i hc;cases h;exact⟨t,rfl,hc⟩
  ·cases h
theorem tB{r r1:List Tok}{s:ByteArray}(h:ir r=some (s,r1)):∃t,r=t::r1∧dG t=true∧t.kind=1∧t.text=s:=by
 cases r with
 | nil=>cases h
 | cons t q=>
  simp only[ir]at h;split at h
  ·rename_i hc;cases h;exact⟨t,rfl,hc.1,hc.2,rfl⟩
  ·cases h
theorem wY{r r1:List Tok}{n:Int}(h:kf r=some (n,r1)):∃t,r=t::r1∧dG t=true∧t.kind=3∧t.num=n:=by
 cases r with
 | nil=>cases h
 | cons t q=>
  simp only[kf]at h;split at h
  ·rename_i hc;cases h;exact⟨t,rfl,hc.1,hc.2,rfl⟩
  ·cases h
theorem aW{m:ByteArray}{r r1:List Tok}(h:acc m r=some r1):r1 <:+ r∧r1.length<r.length:=by
 obtain⟨t,rfl,-⟩:=As h;exact⟨List.suffix_cons _ _,by simp⟩
theorem jv{r r1:List Tok}{s:ByteArray}(h:ir r=some (s,r1)):r1 <:+ r∧r1.length<r.length:=by
 obtain⟨t,rfl,-⟩:=tB h;exact⟨List.suffix_cons _ _,by simp⟩
theorem ry{r r1:List Tok}{n:Int}(h:kf r=some (n,r1)):r1 <:+ r∧r1.length<r.length:=by
 obtain⟨t,rfl,-⟩:=wY h;exact⟨List.suffix_cons _ _,by simp⟩
theorem lr:∀(l:List (ByteArray×Int×Nat)) (k:Nat) (r:List Tok) {o:Int} {r1:List Tok},iV l k r=some (o,r1)→r1 <:+ r∧r1.length<r.length
 | [],_,_,_,_,h=>by cases h
 | b::l,k,r,o,r1,h=>by
  simp only[iV]at h;split at h
  ·split at h
   ·rename_i q hq;cases h;exact aW hq
   ·exact lr l k r h
  ·exact lr l k r h
theorem oO{k:Nat}{r r1:List Tok}{o:Int}{ex:Bool}(h:iq k r=some (o,ex,r1)):r1 <:+ r∧r1.length<r.length:=by
 unfold iq at h;split at h
 ·rename_i o' q hq;cases h;exact lr _ _ _ hq
 ·split at h
  ·split at h
   ·rename_i q hq;cases h;exact aW hq
   ·split at h
    ·rename_i q hq;cases h;exact aW hq
    ·cases h
  ·cases h
def PR.le(x y:PR):Prop:=x=.out∨x=y
theorem PR.le.rfl{x:PR}:x.le x:=.inr (Eq.refl x)
theorem bY{x x':PR}{f f':Ex→List Tok→PR}(h:x.le x')(hf:∀e r,(f e r).le (f' e r)):(x.bind f).le (x'.bind f'):=by
 rcases h with rfl|rfl
 ·exact .inl (Eq.refl _)
 ·cases x with
  | out=>exact .inl (Eq.refl _)
  | bad e r=>exact .rfl
  | ok e r=>exact hf e r
theorem su{rec rec':PK→List Tok→PR}(h:∀k r,(rec k r).le (rec' k r))(r:List Tok):(fp rec r).le (fp rec' r):=by
 unfold fp;cases acc (al 40) r with
 | some r1=>exact bY (h _ _) fun e r2=>.rfl
 | none=>
 cases kf r with
 | some p=>exact .rfl
 | none=>
 cases ir r with
 | none=>exact .rfl
 | some p=>
 obtain⟨s,r1⟩:=p;simp only;cases (if s=lY then acc (al 40) r1 else none)with
 | some r2=>exact .rfl
 | none=>
 simp only;cases (if s=ip then acc (al 40) r1 else none)with
 | some r2=>exact bY (h _ _) fun e r3=>.rfl
 | none=>
 simp only;cases acc (al 91) r1 with
 | some r2=>exact bY (h _ _) fun e r3=>.rfl
 | none=>exact .rfl
theorem mT{rec rec':PK→List Tok→PR}(h:∀k r,(rec k r).le (rec' k r))(k:PK)(r:List Tok):(bG rec k r).le (bG rec' k r):=by
 cases k with
 | W=>
  simp only[bG];refine bY (h _ _) fun c r1=>?_;cases acc (al 63) r1 with
  | none=>exact .rfl
  | some r2=>
   refine bY (h _ _) fun a r3=>?_;cases acc (al 58) r3 with
   | none=>exact .rfl
   | some r4=>exact bY (h _ _) fun b r5=>.rfl
 | I=>
  simp only[bG];refine bY (h _ _) fun c r1=>?_;cases acc (bO 61 62) r1 with
  | none=>exact .rfl
  | some r2=>exact bY (h _ _) fun b r5=>.rfl
 | L k=>
  simp only[bG];split
  ·exact h _ _
  ·exact bY (h _ _) fun b r5=>h _ _
 | Lp k a=>
  simp only[bG];cases (if k=9 then acc cu r else none)with
  | some r1=>exact bY (h _ _) fun b r5=>h _ _
  | none=>
   simp only;cases iq k r with
   | none=>exact .rfl
   | some p=>exact bY (h _ _) fun b r5=>h _ _
 | In a=>
  simp only[bG];cases acc (al 123) r with
  | none=>exact .rfl
  | some r1=>exact h _ _
 | Ip args=>
  simp only[bG];refine bY (h _ _) fun lo r1=>?_;cases acc (bO 46 46) r1 with
  | none=>exact .rfl
  | some r2=>
   refine bY (h _ _) fun hi r3=>?_;cases acc (al 44) r3 with
   | some r4=>exact h _ _
   | none=>exact .rfl
 | U=>
  simp only[bG];cases acc (al 33) r with
  | some r1=>exact bY (h _ _) fun b r5=>.rfl
  | none=>
  cases acc (al 126) r with
  | some r1=>exact bY (h _ _) fun b r5=>.rfl
  | none=>
  cases acc (al 45) r with
  | some r1=>exact bY (h _ _) fun b r5=>.rfl
  | none=>exact h _ _
 | P=>exact su h r
theorem mL:∀(n:Nat) (k:PK) (r:List Tok),(gc n k r).le (gc (n+1) k r)
 | 0,_,_=>.inl rfl
 | n+1,k,r=>mT (mL n) k r
theorem j6{n m:Nat}(h:n≤m)(k:PK)(r:List Tok):(gc n k r).le (gc m k r):=by
 induction h with
 | refl=>exact .rfl
 | step h ih=>
  rcases ih with e|e
  ·exact .inl e
  ·rw[e];exact mL _ k r
def fR(s:Bool)(r:List Tok):PR→Prop
 | .out=>True
 | .bad _ r'=>r' <:+ r
 | .ok _ r'=>r' <:+ r∧(s=true→r'.length<r.length)
theorem fR.weak{s:Bool}{r r0:List Tok}{x:PR}(h:fR s r x)(hr:r <:+ r0):fR s r0 x:=by
 cases x with
 | out=>trivial
 | bad e q=>exact h.trans hr
 | ok e q=>exact⟨h.1.trans hr,fun e=>Nat.lt_of_lt_of_le (h.2 e) hr.length_le⟩
theorem fR.strict{s:Bool}{r r0:List Tok}{x:PR}(h:fR s r x)(hr:r <:+ r0)(hl:r.length<r0.length):fR true r0 x:=by
 cases x with
 | out=>trivial
 | bad e q=>exact h.trans hr
 | ok e q=>exact⟨h.1.trans hr,fun _=>Nat.lt_of_le_of_lt h.1.length_le hl⟩
theorem fR.less{s:Bool}{r:List Tok}{x:PR}(h:fR s r x):fR false r x:=by
 cases x with
 | out=>trivial
 | bad e q=>exact h
 | ok e q=>exact⟨h.1,fun h=>by cases h⟩
theorem bX{s t:Bool}{r:List Tok}{x:PR}{f:Ex→List Tok→PR}(h:fR s r x)(hf:∀e r1,r1 <:+ r→fR t r1 (f e r1)):fR (s||t) r (x.bind f):=by
 cases x with
 | out=>trivial
 | bad e q=>exact h
 | ok e q=>
  have h1:=hf e q h.1;show fR (s||t) r (f e q);cases hx:f e q with
  | out=>trivial
  | bad e' q'=>rw[hx]at h1;exact h1.trans h.1
  | ok e' q'=>
   rw[hx]at h1;refine⟨h1.1.trans h.1,fun hs=>?_⟩;rcases Bool.or_eq_true_iff.1 hs with g|g
   ·exact Nat.lt_of_le_of_lt h1.1.length_le (h.2 g)
   ·exact Nat.lt_of_lt_of_le (h1.2 g) h.1.length_le
theorem cR{s:Bool}(r:List Tok):fR s r (fc r):=by
 cases r with
 | nil=>exact List.suffix_refl _
 | cons t r=>exact List.suffix_refl _
theorem cX(e:Ex){r r1:List Tok}(h:r1 <:+ r):fR false r (.ok e r1):=⟨h,fun h=>by cases h⟩
theorem zW{s:Bool}(e:Ex){r r1:List Tok}(h:r1 <:+ r∧r1.length<r.length):fR s r (.ok e r1):=⟨h.1,fun _=>h.2⟩
def PK.eats:PK→Bool
 | .Lp _ _=>false
 | _=>true
theorem vK{rec:PK→List Tok→PR}(h:∀k r,fR k.eats r (rec k r))(r:List Tok):fR true r (fp rec r):=by
 unfold fp;cases h1:acc (al 40) r with
 | some r1=>
  obtain⟨a1,a2⟩:=aW h1;refine(bX (t:=false) ((h .W r1)) fun e r2 hs=>?_).strict a1 a2;cases h2:acc (al 41) r2 with
  | some r3=>exact cX _ (aW h2).1
  | none=>exact cR _
 | none=>
 cases h2:kf r with
 | some p=>
  obtain⟨n,r1⟩:=p;simp only;split
  ·exact List.suffix_refl _
  ·exact zW _ (ry h2)
 | none=>
 cases h3:ir r with
 | none=>exact cR _
 | some p=>
 obtain⟨s,r1⟩:=p;obtain⟨n1,n2⟩:=jv h3
 suffices hh:∀x,fR false r1 x→fR true r x by
  refine hh _ ?_;simp only;cases h4:(if s=lY then acc (al 40) r1 else none)with
  | some r2=>
   have a1:r2 <:+ r1:=by
    split at h4
    ·exact(aW h4).1
    ·cases h4
   simp only;cases h5:ir r2 with
   | none=>exact(cR r2).weak a1
   | some p=>
    obtain⟨a,r3⟩:=p;simp only;cases h6:acc (al 41) r3 with
    | some r4=>exact cX _ (((aW h6).1.trans (jv h5).1).trans a1)
    | none=>exact(cR r3).weak ((jv h5).1.trans a1)
  | none=>
  simp only;cases h5:(if s=ip then acc (al 40) r1 else none)with
  | some r2=>
   have a1:r2 <:+ r1:=by
    split at h5
    ·exact(aW h5).1
    ·cases h5
   have:=(bX (t:=false) (f:=fun e r3=>match acc (al 41) r3 with|some r4=>.ok (cD 25 [e]) r4|none=>fc r3) (h .W r2) fun e r3 hs=>by
    cases h6:acc (al 41) r3 with
    | some r4=>exact cX _ (aW h6).1
    | none=>exact cR _).weak a1
   exact this.less
  | none=>
  simp only;cases h6:acc (al 91) r1 with
  | some r2=>
   have:=(bX (t:=false) (f:=fun e r3=>match acc (al 93) r3 with|some r4=>.ok (.mk 3 0 s [e]) r4|none=>fc r3) (h .W r2) fun e r3 hs=>by
    cases h6:acc (al 93) r3 with
    | some r4=>exact cX _ (aW h6).1
    | none=>exact cR _).weak (aW h6).1
   exact this.less
  | none=>
  simp only;cases h7:acc (al 64) r1 with
  | some r2=>
   simp only;cases h8:kf r2 with
   | none=>exact(cR r2).weak (aW h7).1
   | some p=>
    obtain⟨n,r3⟩:=p;simp only;split
    ·exact(aW h7).1
    ·exact cX _ ((ry h8).1.trans (aW h7).1)
  | none=>exact cX _ (List.suffix_refl _)
 intro x hx;exact hx.strict n1 n2
theorem vu{rec:PK→List Tok→PR}(h:∀k r,fR k.eats r (rec k r))(k:PK)(r:List Tok):fR k.eats r (bG rec k r):=by
 cases k with
 | W=>
  simp only[bG];refine bX (s:=true) (t:=false) (h .I r) fun c r1 _=>?_;cases h1:acc (al 63) r1 with
  | none=>exact cX _ (List.suffix_refl _)
  | some r2=>
   have:=bX (s:=true) (t:=false) (f:=fun a r3=>match acc (al 58) r3 with|none=>fc r3|some r4=>(rec .W r4).bind fun b r5=>.ok (cD 22 [c,a,b]) r5) (h .W r2) fun a r3 _=>by
    cases h2:acc (al 58) r3 with
    | none=>exact cR _
    | some r4=>
     have:=(bX (s:=true) (t:=false) (f:=fun b r5=>.ok (cD 22 [c,a,b]) r5) (h .W r4) fun b r5 _=>cX _ (List.suffix_refl _)).weak (aW h2).1;exact this.less
   have h3:=this.weak (aW h1).1;exact h3.less
 | I=>
  simp only[bG];refine bX (s:=true) (t:=false) (h (.L 3) r) fun c r1 _=>?_;cases h1:acc (bO 61 62) r1 with
  | none=>exact cX _ (List.suffix_refl _)
  | some r2=>
   have:=(bX (s:=true) (t:=false) (f:=fun b r5=>.ok (cD 21 [c,b]) r5) (h .I r2) fun b r5 _=>cX _ (List.suffix_refl _)).weak (aW h1).1;exact this.less
 | L k=>
  simp only[bG];split
  ·exact h .U r
  ·exact bX (s:=true) (t:=false) (h (.L (k+1)) r) fun a r1 _=>h (.Lp k a) r1
 | Lp k a=>
  simp only[bG];cases h1:(if k=9 then acc cu r else none)with
  | some r1=>
   have a1:r1 <:+ r:=by
    split at h1
    ·exact(aW h1).1
    ·cases h1
   have:=(bX (s:=true) (t:=false) (f:=fun b r2=>rec (.Lp k b) r2) (h (.In a) r1) fun b r2 _=>h (.Lp k b) r2).weak a1;exact this.less
  | none=>
   simp only;cases h2:iq k r with
   | none=>exact cX _ (List.suffix_refl _)
   | some p=>
    obtain⟨o,ex,r1⟩:=p;have:=(bX (s:=true) (t:=false) (f:=fun c r2=>rec (.Lp k (if ex then cD o [c,a]else cD o [a,c])) r2) (h (.L (k+1)) r1) fun b r2 _=>h (.Lp k _) r2).weak (oO h2).1;exact this.less
 | In a=>
  simp only[bG];cases h1:acc (al 123) r with
  | none=>exact cR _
  | some r1=>exact(h (.Ip [a]) r1).weak (aW h1).1
 | Ip args=>
  simp only[bG];refine bX (s:=true) (t:=false) (h .W r) fun lo r1 _=>?_;cases h1:acc (bO 46 46) r1 with
  | none=>exact cR _
  | some r2=>
   have:=(bX (s:=true) (t:=false) (f:=fun hi r3=>match acc (al 44) r3 with|some r4=>rec (.Ip (args++[lo,hi])) r4|none=>match acc (al 125) r3 with|some r5=>.ok (cD 23 (args++[lo,hi])) r5|none=>fc r3) (h .W r2) fun hi r3 _=>by
    cases h2:acc (al 44) r3 with
    | some r4=>
     have:=(h (.Ip (args++[lo,hi])) r4).weak (aW h2).1;exact this.less
    | none=>
     simp only;cases h3:acc (al 125) r3 with
     | some r5=>exact cX _ (aW h3).1
     | none=>exact cR _).weak (aW h1).1
   exact this.less
 | U=>
  simp only[bG];cases h1:acc (al 33) r with
  | some r1=>exact(bX (s:=true) (t:=false) (h .U r1) fun a r2 _=>cX _ (List.suffix_refl _)).weak (aW h1).1
  | none=>
  cases h2:acc (al 126) r with
  | some r1=>exact(bX (s:=true) (t:=false) (h .U r1) fun a r2 _=>cX _ (List.suffix_refl _)).weak (aW h2).1
  | none=>
  cases h3:acc (al 45) r with
  | some r1=>exact(bX (s:=true) (t:=false) (h .U r1) fun a r2 _=>cX _ (List.suffix_refl _)).weak (aW h3).1
  | none=>exact h .P r
 | P=>exact vK h r
theorem oN:∀(n:Nat) (k:PK) (r:List Tok),fR k.eats r (gc n k r)
 | 0,_,_=>trivial
 | n+1,k,r=>vu (oN n) k r
def PK.cost:PK→Nat
 | .W=>15
 | .I=>14
 | .L k=>3+(13-k)
 | .Lp _ _=>1
 | .In _=>1
 | .Ip _=>16
 | .U=>2
 | .P=>1
def eD(k:PK)(r:List Tok):Nat:=40*r.length+k.cost
theorem cQ{x:PR}{f:Ex→List Tok→PR}(h:x≠.out)(hf:∀e r,x=.ok e r→f e r≠.out):x.bind f≠.out:=by
 cases x with
 | out=>exact absurd rfl h
 | bad e r=>intro h;cases h
 | ok e r=>exact hf e r rfl
theorem eq(r:List Tok):fc r≠.out:=by cases r<;>(intro h;cases h)
theorem mi(k:PK):1≤k.cost∧k.cost≤16:=by
 cases k<;>simp only[PK.cost]<;>omega
theorem ja{n:Nat}{k:PK}{r r1:List Tok}{e:Ex}(h:gc n k r=.ok e r1):r1.length≤r.length∧(k.eats=true→r1.length<r.length):=by
 have:=oN n k r;rw[h]at this;exact⟨this.1.length_le,this.2⟩
theorem Ho:∀(n:Nat) (k:PK) (r:List Tok),eD k r≤n→gc n k r≠.out:=by
 intro n
 induction n with
 | zero=>intro k r h;have:=(mi k).1;unfold eD at h;omega
 | succ n ih=>
  intro k r hn
  have less:∀(k':PK) (r':List Tok),r'.length<r.length→gc n k' r'≠.out:=fun k' r' hl=>ih k' r' (by
   have:=(mi k').2;have:=(mi k).1;unfold eD at *;omega)
  have same:∀(k':PK),k'.cost<k.cost→gc n k' r≠.out:=fun k' hc=>ih k' r (by unfold eD at *;omega);show bG (gc n) k r≠.out;cases k with
  | W=>
   simp only[bG];refine cQ (same .I (by decide)) fun c r1 h1=>?_;have l1:=(ja h1).2 rfl;cases h2:acc (al 63) r1 with
   | none=>intro h;cases h
   | some r2=>
    have l2:=(aW h2).2;refine cQ (less _ _ (by omega)) fun a r3 h3=>?_;have l3:=(ja h3).1;cases h4:acc (al 58) r3 with
    | none=>exact eq _
    | some r4=>
     have l4:=(aW h4).2;exact cQ (less _ _ (by omega)) fun b r5 _ h=>by cases h
  | I=>
   simp only[bG];refine cQ (same (.L 3) (by decide)) fun c r1 h1=>?_;have l1:=(ja h1).2 rfl;cases h2:acc (bO 61 62) r1 with
   | none=>intro h;cases h
   | some r2=>
    have l2:=(aW h2).2;exact cQ (less _ _ (by omega)) fun b r5 _ h=>by cases h
  | L k=>
   simp only[bG];split
   ·exact same .U (by simp only[PK.cost];omega)
   ·rename_i hk;refine cQ (same (.L (k+1)) (by simp only[PK.cost];omega)) fun c r1 h1=>?_;exact less _ _ ((ja h1).2 rfl)
  | Lp k a=>
   simp only[bG];cases h1:(if k=9 then acc cu r else none)with
   | some r1=>
    have a1:r1.length<r.length:=by
     split at h1
     ·exact(aW h1).2
     ·cases h1
    exact cQ (less _ _ a1) fun b r2 h2=>less _ _ (by have:=(ja h2).1;omega)
   | none=>
    simp only;cases h2:iq k r with
    | none=>intro h;cases h
    | some p=>
     obtain⟨o,ex,r1⟩:=p;have a1:=(oO h2).2;exact cQ (less _ _ a1) fun b r2 h2=>less _ _ (by have:=(ja h2).1;omega)
  | In a=>
   simp only[bG];cases h1:acc (al 123) r with
   | none=>exact eq _
   | some r1=>exact less _ _ (aW h1).2
  | Ip args=>
   simp only[bG];refine cQ (same .W (by simp only[PK.cost];omega)) fun lo r1 h1=>?_;have l1:=(ja h1).2 rfl;cases h2:acc (bO 46 46) r1 with
   | none=>exact eq _
   | some r2=>
    have l2:=(aW h2).2;refine cQ (less _ _ (by omega)) fun hi r3 h3=>?_;have l3:=(ja h3).1;cases h4:acc (al 44) r3 with
    | some r4=>exact less _ _ (by have:=(aW h4).2;omega)
    | none=>
     simp only;cases h5:acc (al 125) r3 with
     | some r5=>intro h;cases h
     | none=>exact eq _
  | U=>
   simp only[bG];cases h1:acc (al 33) r with
   | some r1=>exact cQ (less _ _ (aW h1).2) fun b r5 _ h=>by cases h
   | none=>
   cases h2:acc (al 126) r with
   | some r1=>exact cQ (less _ _ (aW h2).2) fun b r5 _ h=>by cases h
   | none=>
   cases h3:acc (al 45) r with
   | some r1=>exact cQ (less _ _ (aW h3).2) fun b r5 _ h=>by cases h
   | none=>exact same .P (by decide)
  | P=>
   show fp (gc n) r≠.out;unfold fp;cases h1:acc (al 40) r with
   | some r1=>
    refine cQ (less _ _ (aW h1).2) fun e r2 _=>?_;cases acc (al 41) r2 with
    | some r3=>intro h;cases h
    | none=>exact eq _
   | none=>
   cases h2:kf r with
   | some p=>simp only;split<;>(intro h;cases h)
   | none=>
   cases h3:ir r with
   | none=>exact eq _
   | some p=>
   obtain⟨s,r1⟩:=p;have l1:=(jv h3).2;simp only;cases h4:(if s=lY then acc (al 40) r1 else none)with
   | some r2=>
    simp only;cases ir r2 with
    | none=>exact eq _
    | some p=>
     simp only;cases acc (al 41) p.2 with
     | some r4=>intro h;cases h
     | none=>exact eq _
   | none=>
   simp only;cases h5:(if s=ip then acc (al 40) r1 else none)with
   | some r2=>
    have a1:r2.length<r1.length:=by
     split at h5
     ·exact(aW h5).2
     ·cases h5
    refine cQ (less _ _ (by omega)) fun e r2 _=>?_;cases acc (al 41) r2 with
    | some r3=>intro h;cases h
    | none=>exact eq _
   | none=>
   simp only;cases h6:acc (al 91) r1 with
   | some r2=>
    have a1:=(aW h6).2;refine cQ (less _ _ (by omega)) fun e r2 _=>?_;cases acc (al 93) r2 with
    | some r3=>intro h;cases h
    | none=>exact eq _
   | none=>
   simp only;cases h7:acc (al 64) r1 with
   | some r2=>
    simp only;cases kf r2 with
    | none=>exact eq _
    | some p=>simp only;split<;>(intro h;cases h)
   | none=>intro h;cases h
def par(k:PK)(r:List Tok):PR:=gc (40*r.length+20) k r
theorem tO(k:PK)(r:List Tok):par k r≠.out:=Ho _ _ _ (by have:=(mi k).2;unfold eD;omega)
theorem zv(n:Nat)(k:PK)(r:List Tok):(gc n k r).le (par k r):=by
 rcases Nat.le_total n (40*r.length+20)with h|h
 ·exact j6 h k r
 ·rcases j6 h k r with e|e
  ·exact absurd e (tO k r)
  ·exact .inr e.symm
theorem dn(k:PK)(r:List Tok):par k r=bG par k r:=by
 have h1:=mT (zv (40*r.length+20)) k r;have h2:=j6 (Nat.le_succ (40*r.length+20)) k r;rcases h2 with e|e
 ·exact absurd e (tO k r)
 ·rcases h1 with g|g
  ·exact absurd (e.trans g) (tO k r)
  ·exact e.trans g
end Go.Proofs.YtcbahpllcfbkmaaGreatDoor
