import Derived.Test.YthekkgfmagliiaaGreatDoorPg
set_option linter.unusedVariables false
set_option linter.unusedSimpArgs false
set_option linter.unusedSectionVars false
namespace Go.Proofs.YthekkgfmagliiaaGreatDoor
open Go.RowKit
theorem sY{m:ByteArray}{r r1:List Tok}(h:acc m r=some r1):∃t,r=t::r1∧cK t=true∧(t.kind=4∨t.kind=2)∧t.text=m:=by
 cases r with
 | nil=>cases h
 | cons t q=>
  simp only[acc]at h;split at h
  ·rename_i hc;cases h;exact⟨t,rfl,hc⟩
  ·cases h
theorem wU{r r1:List Tok}{s:ByteArray}(h:cD r=some (s,r1)):∃t,r=t::r1∧cK t=true∧t.kind=1∧t.text=s:=by
 cases r with
 | nil=>cases h
 | cons t q=>
  simp only[cD]at h;split at h
  ·rename_i hc;cases h;exact⟨t,rfl,hc.1,hc.2,rfl⟩
  ·cases h
theorem qC{r r1:List Tok}{n:Int}(h:dX r=some (n,r1)):∃t,r=t::r1∧cK t=true∧t.kind=3∧t.num=n:=by
 cases r with
 | nil=>cases h
 | cons t q=>
  simp only[dX]at h;split at h
  ·rename_i hc;cases h;exact⟨t,rfl,hc.1,hc.2,rfl⟩
  ·cases h
theorem aE{m:ByteArray}{r r1:List Tok}(h:acc m r=some r1):r1 <:+ r∧r1.length<r.length:=by
 obtain⟨t,rfl,-⟩:=sY h;exact⟨List.suffix_cons _ _,by simp⟩
theorem fl{r r1:List Tok}{s:ByteArray}(h:cD r=some (s,r1)):r1 <:+ r∧r1.length<r.length:=by
 obtain⟨t,rfl,-⟩:=wU h;exact⟨List.suffix_cons _ _,by simp⟩
theorem jC{r r1:List Tok}{n:Int}(h:dX r=some (n,r1)):r1 <:+ r∧r1.length<r.length:=by
 obtain⟨t,rfl,-⟩:=qC h;exact⟨List.suffix_cons _ _,by simp⟩
theorem l7:∀(l:List (ByteArray×Int×Nat)) (k:Nat) (r:List Tok) {o:Int} {r1:List Tok},ir l k r=some (o,r1)→r1 <:+ r∧r1.length<r.length
 | [],_,_,_,_,h=>by cases h
 | b::l,k,r,o,r1,h=>by
  simp only[ir]at h;split at h
  ·split at h
   ·rename_i q hq;cases h;exact aE hq
   ·exact l7 l k r h
  ·exact l7 l k r h
theorem mf{k:Nat}{r r1:List Tok}{o:Int}{ex:Bool}(h:fL k r=some (o,ex,r1)):r1 <:+ r∧r1.length<r.length:=by
 unfold fL at h;split at h
 ·rename_i o' q hq;cases h;exact l7 _ _ _ hq
 ·split at h
  ·split at h
   ·rename_i q hq;cases h;exact aE hq
   ·split at h
    ·rename_i q hq;cases h;exact aE hq
    ·cases h
  ·cases h
def PR.le(x y:PR):Prop:=x=.out∨x=y
theorem PR.le.rfl{x:PR}:x.le x:=.inr (Eq.refl x)
theorem b9{x x':PR}{f f':Ex→List Tok→PR}(h:x.le x')(hf:∀e r,(f e r).le (f' e r)):(x.bind f).le (x'.bind f'):=by
 rcases h with rfl|rfl
 ·exact .inl (Eq.refl _)
 ·cases x with
  | out=>exact .inl (Eq.refl _)
  | bad e r=>exact .rfl
  | ok e r=>exact hf e r
theorem v8{rec rec':PK→List Tok→PR}(h:∀k r,(rec k r).le (rec' k r))(r:List Tok):(dY rec r).le (dY rec' r):=by
 unfold dY;cases acc (aj 40) r with
 | some r1=>exact b9 (h _ _) fun e r2=>.rfl
 | none=>
 cases dX r with
 | some p=>exact .rfl
 | none=>
 cases cD r with
 | none=>exact .rfl
 | some p=>
 obtain⟨s,r1⟩:=p;simp only;cases (if s=kP then acc (aj 40) r1 else none)with
 | some r2=>exact .rfl
 | none=>
 simp only;cases (if s=gC then acc (aj 40) r1 else none)with
 | some r2=>exact b9 (h _ _) fun e r3=>.rfl
 | none=>
 simp only;cases acc (aj 91) r1 with
 | some r2=>exact b9 (h _ _) fun e r3=>.rfl
 | none=>exact .rfl
theorem oJ{rec rec':PK→List Tok→PR}(h:∀k r,(rec k r).le (rec' k r))(k:PK)(r:List Tok):(aT rec k r).le (aT rec' k r):=by
 cases k with
 | W=>
  simp only[aT];refine b9 (h _ _) fun c r1=>?_;cases acc (aj 63) r1 with
  | none=>exact .rfl
  | some r2=>
   refine b9 (h _ _) fun a r3=>?_;cases acc (aj 58) r3 with
   | none=>exact .rfl
   | some r4=>exact b9 (h _ _) fun b r5=>.rfl
 | I=>
  simp only[aT];refine b9 (h _ _) fun c r1=>?_;cases acc (aO 61 62) r1 with
  | none=>exact .rfl
  | some r2=>exact b9 (h _ _) fun b r5=>.rfl
 | L k=>
  simp only[aT];split
  ·exact h _ _
  ·exact b9 (h _ _) fun b r5=>h _ _
 | Lp k a=>
  simp only[aT];cases (if k=9 then acc bU r else none)with
  | some r1=>exact b9 (h _ _) fun b r5=>h _ _
  | none=>
   simp only;cases fL k r with
   | none=>exact .rfl
   | some p=>exact b9 (h _ _) fun b r5=>h _ _
 | In a=>
  simp only[aT];cases acc (aj 123) r with
  | none=>exact .rfl
  | some r1=>exact h _ _
 | Ip args=>
  simp only[aT];refine b9 (h _ _) fun lo r1=>?_;cases acc (aO 46 46) r1 with
  | none=>exact .rfl
  | some r2=>
   refine b9 (h _ _) fun hi r3=>?_;cases acc (aj 44) r3 with
   | some r4=>exact h _ _
   | none=>exact .rfl
 | U=>
  simp only[aT];cases acc (aj 33) r with
  | some r1=>exact b9 (h _ _) fun b r5=>.rfl
  | none=>
  cases acc (aj 126) r with
  | some r1=>exact b9 (h _ _) fun b r5=>.rfl
  | none=>
  cases acc (aj 45) r with
  | some r1=>exact b9 (h _ _) fun b r5=>.rfl
  | none=>exact h _ _
 | P=>exact v8 h r
theorem nR:∀(n:Nat) (k:PK) (r:List Tok),(fd n k r).le (fd (n+1) k r)
 | 0,_,_=>.inl rfl
 | n+1,k,r=>oJ (nR n) k r
theorem kE{n m:Nat}(h:n≤m)(k:PK)(r:List Tok):(fd n k r).le (fd m k r):=by
 induction h with
 | refl=>exact .rfl
 | step h ih=>
  rcases ih with e|e
  ·exact .inl e
  ·rw[e];exact nR _ k r
def fZ(s:Bool)(r:List Tok):PR→Prop
 | .out=>True
 | .bad _ r'=>r' <:+ r
 | .ok _ r'=>r' <:+ r∧(s=true→r'.length<r.length)
theorem fZ.weak{s:Bool}{r r0:List Tok}{x:PR}(h:fZ s r x)(hr:r <:+ r0):fZ s r0 x:=by
 cases x with
 | out=>trivial
 | bad e q=>exact h.trans hr
 | ok e q=>exact⟨h.1.trans hr,fun e=>Nat.lt_of_lt_of_le (h.2 e) hr.length_le⟩
theorem fZ.strict{s:Bool}{r r0:List Tok}{x:PR}(h:fZ s r x)(hr:r <:+ r0)(hl:r.length<r0.length):fZ true r0 x:=by
 cases x with
 | out=>trivial
 | bad e q=>exact h.trans hr
 | ok e q=>exact⟨h.1.trans hr,fun _=>Nat.lt_of_le_of_lt h.1.length_le hl⟩
theorem fZ.less{s:Bool}{r:List Tok}{x:PR}(h:fZ s r x):fZ false r x:=by
 cases x with
 | out=>trivial
 | bad e q=>exact h
 | ok e q=>exact⟨h.1,fun h=>by cases h⟩
theorem b8{s t:Bool}{r:List Tok}{x:PR}{f:Ex→List Tok→PR}(h:fZ s r x)(hf:∀e r1,r1 <:+ r→fZ t r1 (f e r1)):fZ (s||t) r (x.bind f):=by
 cases x with
 | out=>trivial
 | bad e q=>exact h
 | ok e q=>
  have h1:=hf e q h.1;show fZ (s||t) r (f e q);cases hx:f e q with
  | out=>trivial
  | bad e' q'=>rw[hx]at h1;exact h1.trans h.1
  | ok e' q'=>
   rw[hx]at h1;refine⟨h1.1.trans h.1,fun hs=>?_⟩;rcases Bool.or_eq_true_iff.1 hs with g|g
   ·exact Nat.lt_of_le_of_lt h1.1.length_le (h.2 g)
   ·exact Nat.lt_of_lt_of_le (h1.2 g) h.1.length_le
theorem dj{s:Bool}(r:List Tok):fZ s r (em r):=by
 cases r with
 | nil=>exact List.suffix_refl _
 | cons t r=>exact List.suffix_refl _
theorem dn(e:Ex){r r1:List Tok}(h:r1 <:+ r):fZ false r (.ok e r1):=⟨h,fun h=>by cases h⟩
theorem En{s:Bool}(e:Ex){r r1:List Tok}(h:r1 <:+ r∧r1.length<r.length):fZ s r (.ok e r1):=⟨h.1,fun _=>h.2⟩
def PK.eats:PK→Bool
 | .Lp _ _=>false
 | _=>true
theorem Au{rec:PK→List Tok→PR}(h:∀k r,fZ k.eats r (rec k r))(r:List Tok):fZ true r (dY rec r):=by
 unfold dY;cases h1:acc (aj 40) r with
 | some r1=>
  obtain⟨a1,a2⟩:=aE h1;refine(b8 (t:=false) ((h .W r1)) fun e r2 hs=>?_).strict a1 a2;cases h2:acc (aj 41) r2 with
  | some r3=>exact dn _ (aE h2).1
  | none=>exact dj _
 | none=>
 cases h2:dX r with
 | some p=>
  obtain⟨n,r1⟩:=p;simp only;split
  ·exact List.suffix_refl _
  ·exact En _ (jC h2)
 | none=>
 cases h3:cD r with
 | none=>exact dj _
 | some p=>
 obtain⟨s,r1⟩:=p;obtain⟨n1,n2⟩:=fl h3
 suffices hh:∀x,fZ false r1 x→fZ true r x by
  refine hh _ ?_;simp only;cases h4:(if s=kP then acc (aj 40) r1 else none)with
  | some r2=>
   have a1:r2 <:+ r1:=by
    split at h4
    ·exact(aE h4).1
    ·cases h4
   simp only;cases h5:cD r2 with
   | none=>exact(dj r2).weak a1
   | some p=>
    obtain⟨a,r3⟩:=p;simp only;cases h6:acc (aj 41) r3 with
    | some r4=>exact dn _ (((aE h6).1.trans (fl h5).1).trans a1)
    | none=>exact(dj r3).weak ((fl h5).1.trans a1)
  | none=>
  simp only;cases h5:(if s=gC then acc (aj 40) r1 else none)with
  | some r2=>
   have a1:r2 <:+ r1:=by
    split at h5
    ·exact(aE h5).1
    ·cases h5
   have:=(b8 (t:=false) (f:=fun e r3=>match acc (aj 41) r3 with|some r4=>.ok (cj 25 [e]) r4|none=>em r3) (h .W r2) fun e r3 hs=>by
    cases h6:acc (aj 41) r3 with
    | some r4=>exact dn _ (aE h6).1
    | none=>exact dj _).weak a1
   exact this.less
  | none=>
  simp only;cases h6:acc (aj 91) r1 with
  | some r2=>
   have:=(b8 (t:=false) (f:=fun e r3=>match acc (aj 93) r3 with|some r4=>.ok (.mk 3 0 s [e]) r4|none=>em r3) (h .W r2) fun e r3 hs=>by
    cases h6:acc (aj 93) r3 with
    | some r4=>exact dn _ (aE h6).1
    | none=>exact dj _).weak (aE h6).1
   exact this.less
  | none=>
  simp only;cases h7:acc (aj 64) r1 with
  | some r2=>
   simp only;cases h8:dX r2 with
   | none=>exact(dj r2).weak (aE h7).1
   | some p=>
    obtain⟨n,r3⟩:=p;simp only;split
    ·exact(aE h7).1
    ·exact dn _ ((jC h8).1.trans (aE h7).1)
  | none=>exact dn _ (List.suffix_refl _)
 intro x hx;exact hx.strict n1 n2
theorem Bn{rec:PK→List Tok→PR}(h:∀k r,fZ k.eats r (rec k r))(k:PK)(r:List Tok):fZ k.eats r (aT rec k r):=by
 cases k with
 | W=>
  simp only[aT];refine b8 (s:=true) (t:=false) (h .I r) fun c r1 _=>?_;cases h1:acc (aj 63) r1 with
  | none=>exact dn _ (List.suffix_refl _)
  | some r2=>
   have:=b8 (s:=true) (t:=false) (f:=fun a r3=>match acc (aj 58) r3 with|none=>em r3|some r4=>(rec .W r4).bind fun b r5=>.ok (cj 22 [c,a,b]) r5) (h .W r2) fun a r3 _=>by
    cases h2:acc (aj 58) r3 with
    | none=>exact dj _
    | some r4=>
     have:=(b8 (s:=true) (t:=false) (f:=fun b r5=>.ok (cj 22 [c,a,b]) r5) (h .W r4) fun b r5 _=>dn _ (List.suffix_refl _)).weak (aE h2).1;exact this.less
   have h3:=this.weak (aE h1).1;exact h3.less
 | I=>
  simp only[aT];refine b8 (s:=true) (t:=false) (h (.L 3) r) fun c r1 _=>?_;cases h1:acc (aO 61 62) r1 with
  | none=>exact dn _ (List.suffix_refl _)
  | some r2=>
   have:=(b8 (s:=true) (t:=false) (f:=fun b r5=>.ok (cj 21 [c,b]) r5) (h .I r2) fun b r5 _=>dn _ (List.suffix_refl _)).weak (aE h1).1;exact this.less
 | L k=>
  simp only[aT];split
  ·exact h .U r
  ·exact b8 (s:=true) (t:=false) (h (.L (k+1)) r) fun a r1 _=>h (.Lp k a) r1
 | Lp k a=>
  simp only[aT];cases h1:(if k=9 then acc bU r else none)with
  | some r1=>
   have a1:r1 <:+ r:=by
    split at h1
    ·exact(aE h1).1
    ·cases h1
   have:=(b8 (s:=true) (t:=false) (f:=fun b r2=>rec (.Lp k b) r2) (h (.In a) r1) fun b r2 _=>h (.Lp k b) r2).weak a1;exact this.less
  | none=>
   simp only;cases h2:fL k r with
   | none=>exact dn _ (List.suffix_refl _)
   | some p=>
    obtain⟨o,ex,r1⟩:=p;have:=(b8 (s:=true) (t:=false) (f:=fun c r2=>rec (.Lp k (if ex then cj o [c,a]else cj o [a,c])) r2) (h (.L (k+1)) r1) fun b r2 _=>h (.Lp k _) r2).weak (mf h2).1;exact this.less
 | In a=>
  simp only[aT];cases h1:acc (aj 123) r with
  | none=>exact dj _
  | some r1=>exact(h (.Ip [a]) r1).weak (aE h1).1
 | Ip args=>
  simp only[aT];refine b8 (s:=true) (t:=false) (h .W r) fun lo r1 _=>?_;cases h1:acc (aO 46 46) r1 with
  | none=>exact dj _
  | some r2=>
   have:=(b8 (s:=true) (t:=false) (f:=fun hi r3=>match acc (aj 44) r3 with|some r4=>rec (.Ip (args++[lo,hi])) r4|none=>match acc (aj 125) r3 with|some r5=>.ok (cj 23 (args++[lo,hi])) r5|none=>em r3) (h .W r2) fun hi r3 _=>by
    cases h2:acc (aj 44) r3 with
    | some r4=>
     have:=(h (.Ip (args++[lo,hi])) r4).weak (aE h2).1;exact this.less
    | none=>
     simp only;cases h3:acc (aj 125) r3 with
     | some r5=>exact dn _ (aE h3).1
     | none=>exact dj _).weak (aE h1).1
   exact this.less
 | U=>
  simp only[aT];cases h1:acc (aj 33) r with
  | some r1=>exact(b8 (s:=true) (t:=false) (h .U r1) fun a r2 _=>dn _ (List.suffix_refl _)).weak (aE h1).1
  | none=>
  cases h2:acc (aj 126) r with
  | some r1=>exact(b8 (s:=true) (t:=false) (h .U r1) fun a r2 _=>dn _ (List.suffix_refl _)).weak (aE h2).1
  | none=>
  cases h3:acc (aj 45) r with
  | some r1=>exact(b8 (s:=true) (t:=false) (h .U r1) fun a r2 _=>dn _ (List.suffix_refl _)).weak (aE h3).1
  | none=>exact h .P r
 | P=>exact Au h r
theorem mB:∀(n:Nat) (k:PK) (r:List Tok),fZ k.eats r (fd n k r)
 | 0,_,_=>trivial
 | n+1,k,r=>Bn (mB n) k r
def PK.cost:PK→Nat
 | .W=>15
 | .I=>14
 | .L k=>3+(13-k)
 | .Lp _ _=>1
 | .In _=>1
 | .Ip _=>16
 | .U=>2
 | .P=>1
def eY(k:PK)(r:List Tok):Nat:=40*r.length+k.cost
theorem da{x:PR}{f:Ex→List Tok→PR}(h:x≠.out)(hf:∀e r,x=.ok e r→f e r≠.out):x.bind f≠.out:=by
 cases x with
 | out=>exact absurd rfl h
 | bad e r=>intro h;cases h
 | ok e r=>exact hf e r rfl
theorem eT(r:List Tok):em r≠.out:=by cases r<;>(intro h;cases h)
theorem nE(k:PK):1≤k.cost∧k.cost≤16:=by
 cases k<;>simp only[PK.cost]<;>omega
theorem jH{n:Nat}{k:PK}{r r1:List Tok}{e:Ex}(h:fd n k r=.ok e r1):r1.length≤r.length∧(k.eats=true→r1.length<r.length):=by
 have:=mB n k r;rw[h]at this;exact⟨this.1.length_le,this.2⟩
theorem Nu:∀(n:Nat) (k:PK) (r:List Tok),eY k r≤n→fd n k r≠.out:=by
 intro n
 induction n with
 | zero=>intro k r h;have:=(nE k).1;unfold eY at h;omega
 | succ n ih=>
  intro k r hn
  have less:∀(k':PK) (r':List Tok),r'.length<r.length→fd n k' r'≠.out:=fun k' r' hl=>ih k' r' (by
   have:=(nE k').2;have:=(nE k).1;unfold eY at *;omega)
  have same:∀(k':PK),k'.cost<k.cost→fd n k' r≠.out:=fun k' hc=>ih k' r (by unfold eY at *;omega);show aT (fd n) k r≠.out;cases k with
  | W=>
   simp only[aT];refine da (same .I (by decide)) fun c r1 h1=>?_;have l1:=(jH h1).2 rfl;cases h2:acc (aj 63) r1 with
   | none=>intro h;cases h
   | some r2=>
    have l2:=(aE h2).2;refine da (less _ _ (by omega)) fun a r3 h3=>?_;have l3:=(jH h3).1;cases h4:acc (aj 58) r3 with
    | none=>exact eT _
    | some r4=>
     have l4:=(aE h4).2;exact da (less _ _ (by omega)) fun b r5 _ h=>by cases h
  | I=>
   simp only[aT];refine da (same (.L 3) (by decide)) fun c r1 h1=>?_;have l1:=(jH h1).2 rfl;cases h2:acc (aO 61 62) r1 with
   | none=>intro h;cases h
   | some r2=>
    have l2:=(aE h2).2;exact da (less _ _ (by omega)) fun b r5 _ h=>by cases h
  | L k=>
   simp only[aT];split
   ·exact same .U (by simp only[PK.cost];omega)
   ·rename_i hk;refine da (same (.L (k+1)) (by simp only[PK.cost];omega)) fun c r1 h1=>?_;exact less _ _ ((jH h1).2 rfl)
  | Lp k a=>
   simp only[aT];cases h1:(if k=9 then acc bU r else none)with
   | some r1=>
    have a1:r1.length<r.length:=by
     split at h1
     ·exact(aE h1).2
     ·cases h1
    exact da (less _ _ a1) fun b r2 h2=>less _ _ (by have:=(jH h2).1;omega)
   | none=>
    simp only;cases h2:fL k r with
    | none=>intro h;cases h
    | some p=>
     obtain⟨o,ex,r1⟩:=p;have a1:=(mf h2).2;exact da (less _ _ a1) fun b r2 h2=>less _ _ (by have:=(jH h2).1;omega)
  | In a=>
   simp only[aT];cases h1:acc (aj 123) r with
   | none=>exact eT _
   | some r1=>exact less _ _ (aE h1).2
  | Ip args=>
   simp only[aT];refine da (same .W (by simp only[PK.cost];omega)) fun lo r1 h1=>?_;have l1:=(jH h1).2 rfl;cases h2:acc (aO 46 46) r1 with
   | none=>exact eT _
   | some r2=>
    have l2:=(aE h2).2;refine da (less _ _ (by omega)) fun hi r3 h3=>?_;have l3:=(jH h3).1;cases h4:acc (aj 44) r3 with
    | some r4=>exact less _ _ (by have:=(aE h4).2;omega)
    | none=>
     simp only;cases h5:acc (aj 125) r3 with
     | some r5=>intro h;cases h
     | none=>exact eT _
  | U=>
   simp only[aT];cases h1:acc (aj 33) r with
   | some r1=>exact da (less _ _ (aE h1).2) fun b r5 _ h=>by cases h
   | none=>
   cases h2:acc (aj 126) r with
   | some r1=>exact da (less _ _ (aE h2).2) fun b r5 _ h=>by cases h
   | none=>
   cases h3:acc (aj 45) r with
   | some r1=>exact da (less _ _ (aE h3).2) fun b r5 _ h=>by cases h
   | none=>exact same .P (by decide)
  | P=>
   show dY (fd n) r≠.out;unfold dY;cases h1:acc (aj 40) r with
   | some r1=>
    refine da (less _ _ (aE h1).2) fun e r2 _=>?_;cases acc (aj 41) r2 with
    | some r3=>intro h;cases h
    | none=>exact eT _
   | none=>
   cases h2:dX r with
   | some p=>simp only;split<;>(intro h;cases h)
   | none=>
   cases h3:cD r with
   | none=>exact eT _
   | some p=>
   obtain⟨s,r1⟩:=p;have l1:=(fl h3).2;simp only;cases h4:(if s=kP then acc (aj 40) r1 else none)with
   | some r2=>
    simp only;cases cD r2 with
    | none=>exact eT _
    | some p=>
     simp only;cases acc (aj 41) p.2 with
     | some r4=>intro h;cases h
     | none=>exact eT _
   | none=>
   simp only;cases h5:(if s=gC then acc (aj 40) r1 else none)with
   | some r2=>
    have a1:r2.length<r1.length:=by
     split at h5
     ·exact(aE h5).2
     ·cases h5
    refine da (less _ _ (by omega)) fun e r2 _=>?_;cases acc (aj 41) r2 with
    | some r3=>intro h;cases h
    | none=>exact eT _
   | none=>
   simp only;cases h6:acc (aj 91) r1 with
   | some r2=>
    have a1:=(aE h6).2;refine da (less _ _ (by omega)) fun e r2 _=>?_;cases acc (aj 93) r2 with
    | some r3=>intro h;cases h
    | none=>exact eT _
   | none=>
   simp only;cases h7:acc (aj 64) r1 with
   | some r2=>
    simp only;cases dX r2 with
    | none=>exact eT _
    | some p=>simp only;split<;>(intro h;cases h)
   | none=>intro h;cases h
def par(k:PK)(r:List Tok):PR:=fd (40*r.length+20) k r
theorem oA(k:PK)(r:List Tok):par k r≠.out:=Nu _ _ _ (by have:=(nE k).2;unfold eY;omega)
theorem Ea(n:Nat)(k:PK)(r:List Tok):(fd n k r).le (par k r):=by
 rcases Nat.le_total n (40*r.length+20)with h|h
 ·exact kE h k r
 ·rcases kE h k r with e|e
  ·exact absurd e (oA k r)
  ·exact .inr e.symm
theorem dT(k:PK)(r:List Tok):par k r=aT par k r:=by
 have h1:=oJ (Ea (40*r.length+20)) k r;have h2:=kE (Nat.le_succ (40*r.length+20)) k r;rcases h2 with e|e
 ·exact absurd e (oA k r)
 ·rcases h1 with g|g
  ·exact absurd (e.trans g) (oA k r)
  ·exact e.trans g
theorem tV(k:PK)(r:List Tok):fZ k.eats r (par k r):=mB _ k r
end Go.Proofs.YthekkgfmagliiaaGreatDoor
