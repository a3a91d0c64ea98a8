import Derived.Test.YthekkgfmagliiaaGreatDoorPt2
set_option linter.unusedVariables false
set_option linter.unusedSimpArgs false
set_option linter.unusedSectionVars false
namespace Go.Proofs.YthekkgfmagliiaaGreatDoor
open Go.RowKit
def PR.mapT(f:Tok→Tok):PR→PR
 | .out=>.out
 | .bad c r=>.bad c (r.map f)
 | .ok e r=>.ok e (r.map f)
structure SameTok(f:Tok→Tok):Prop where
 kind:∀t,(f t).kind=t.kind
 num:∀t,(f t).num=t.num
 text:∀t,(f t).text=t.text
section
variable {f : Tok → Tok} (hf : SameTok f)
include hf
theorem mE(t:Tok):cK (f t)=cK t:=by unfold cK;rw[hf.kind,hf.num,hf.text]
theorem bT(m:ByteArray)(r:List Tok):acc m (r.map f)=(acc m r).map (List.map f):=by
 cases r with
 | nil=>rfl
 | cons t r=>
  simp only[acc,List.map_cons,mE hf,hf.kind,hf.text];split<;>rfl
theorem jP(r:List Tok):cD (r.map f)=(cD r).map fun p=>(p.1,p.2.map f):=by
 cases r with
 | nil=>rfl
 | cons t r=>
  simp only[cD,List.map_cons,mE hf,hf.kind,hf.text];split<;>rfl
theorem lC(r:List Tok):dX (r.map f)=(dX r).map fun p=>(p.1,p.2.map f):=by
 cases r with
 | nil=>rfl
 | cons t r=>
  simp only[dX,List.map_cons,mE hf,hf.kind,hf.num];split<;>rfl
theorem mF(k:Nat)(r:List Tok):∀l,ir l k (r.map f)=(ir l k r).map fun p=>(p.1,p.2.map f)
 | []=>rfl
 | b::l=>by
  simp only[ir,bT hf];split
  ·cases acc b.1 r with
   | some r1=>rfl
   | none=>exact mF k r l
  ·exact mF k r l
theorem Ad(k:Nat)(r:List Tok):fL k (r.map f)=(fL k r).map fun p=>(p.1,p.2.1,p.2.2.map f):=by
 unfold fL;rw[mF hf,bT hf,bT hf];cases ir cv k r with
 | some p=>rfl
 | none=>
  simp only[Option.map_none];split
  ·cases acc (aj 62) r with
   | some r1=>rfl
   | none=>
    simp only[Option.map_none];cases acc (aO 62 61) r with
    | some r1=>rfl
    | none=>rfl
  ·rfl
theorem d5(r:List Tok):em (r.map f)=(em r).mapT f:=by cases r<;>rfl
omit hf in
theorem cw{x:PR}{g h:Ex→List Tok→PR}(hg:∀e r,h e (r.map f)=(g e r).mapT f):(x.mapT f).bind h=(x.bind g).mapT f:=by
 cases x with
 | out=>rfl
 | bad c r=>rfl
 | ok e r=>exact hg e r
theorem B1{rec:PK→List Tok→PR}(h:∀k r,rec k (r.map f)=(rec k r).mapT f)(r:List Tok):dY rec (r.map f)=(dY rec r).mapT f:=by
 have hif:∀(c:Prop) [Decidable c] (m:ByteArray) (r:List Tok),(if c then acc m (r.map f)else none)=(if c then acc m r else none).map (List.map f):=fun c _ m r=>by split<;>simp[bT hf]
 unfold dY;rw[bT hf,lC hf,jP hf];cases acc (aj 40) r with
 | some r1=>
  simp only[Option.map_some,h];refine cw fun e r2=>?_;rw[bT hf];cases acc (aj 41) r2 with
  | some r3=>rfl
  | none=>exact d5 hf r2
 | none=>
 simp only[Option.map_none];cases dX r with
 | some p=>simp only[Option.map_some];split<;>rfl
 | none=>
 simp only[Option.map_none];cases cD r with
 | none=>exact d5 hf r
 | some p=>
 obtain⟨s,r1⟩:=p;simp only[Option.map_some,hif];cases (if s=kP then acc (aj 40) r1 else none)with
 | some r2=>
  simp only[Option.map_some];rw[jP hf];cases cD r2 with
  | none=>exact d5 hf r2
  | some p=>
   obtain⟨a,r3⟩:=p;simp only[Option.map_some];rw[bT hf];cases acc (aj 41) r3 with
   | some r4=>rfl
   | none=>exact d5 hf r3
 | none=>
 simp only[Option.map_none];cases (if s=gC then acc (aj 40) r1 else none)with
 | some r2=>
  simp only[Option.map_some,h];refine cw fun e r3=>?_;rw[bT hf];cases acc (aj 41) r3 with
  | some r4=>rfl
  | none=>exact d5 hf r3
 | none=>
 simp only[Option.map_none];rw[bT hf,bT hf];cases acc (aj 91) r1 with
 | some r2=>
  simp only[Option.map_some,h];refine cw fun e r3=>?_;rw[bT hf];cases acc (aj 93) r3 with
  | some r4=>rfl
  | none=>exact d5 hf r3
 | none=>
 simp only[Option.map_none];cases acc (aj 64) r1 with
 | some r2=>
  simp only[Option.map_some];rw[lC hf];cases dX r2 with
  | none=>exact d5 hf r2
  | some p=>simp only[Option.map_some];split<;>rfl
 | none=>rfl
theorem DU{rec:PK→List Tok→PR}(h:∀k r,rec k (r.map f)=(rec k r).mapT f)(k:PK)(r:List Tok):aT rec k (r.map f)=(aT rec k r).mapT f:=by
 cases k with
 | W=>
  simp only[aT,h];refine cw fun c r1=>?_;rw[bT hf];cases acc (aj 63) r1 with
  | none=>rfl
  | some r2=>
   simp only[Option.map_some,h];refine cw fun a r3=>?_;rw[bT hf];cases acc (aj 58) r3 with
   | none=>exact d5 hf r3
   | some r4=>
    simp only[Option.map_some,h];exact cw fun b r5=>rfl
 | I=>
  simp only[aT,h];refine cw fun c r1=>?_;rw[bT hf];cases acc (aO 61 62) r1 with
  | none=>rfl
  | some r2=>
   simp only[Option.map_some,h];exact cw fun b r5=>rfl
 | L k=>
  simp only[aT,h];split
  ·rfl
  ·exact cw fun a r1=>h _ _
 | Lp k a=>
  simp only[aT];have hif:(if k=9 then acc bU (r.map f)else none)=(if k=9 then acc bU r else none).map (List.map f):=by split<;>simp[bT hf]
  rw[hif,Ad hf];cases (if k=9 then acc bU r else none)with
  | some r1=>
   simp only[Option.map_some,h];exact cw fun b r2=>h _ _
  | none=>
   simp only[Option.map_none];cases fL k r with
   | none=>rfl
   | some p=>
    simp only[Option.map_some,h];exact cw fun b r2=>h _ _
 | In a=>
  simp only[aT];rw[bT hf];cases acc (aj 123) r with
  | none=>exact d5 hf r
  | some r1=>exact h _ _
 | Ip args=>
  simp only[aT,h];refine cw fun lo r1=>?_;rw[bT hf];cases acc (aO 46 46) r1 with
  | none=>exact d5 hf r1
  | some r2=>
   simp only[Option.map_some,h];refine cw fun hi r3=>?_;rw[bT hf,bT hf];cases acc (aj 44) r3 with
   | some r4=>exact h _ _
   | none=>
    simp only[Option.map_none];cases acc (aj 125) r3 with
    | some r5=>rfl
    | none=>exact d5 hf r3
 | U=>
  simp only[aT];rw[bT hf,bT hf,bT hf];cases acc (aj 33) r with
  | some r1=>simp only[Option.map_some,h];exact cw fun a r2=>rfl
  | none=>
  simp only[Option.map_none];cases acc (aj 126) r with
  | some r1=>simp only[Option.map_some,h];exact cw fun a r2=>rfl
  | none=>
  simp only[Option.map_none];cases acc (aj 45) r with
  | some r1=>simp only[Option.map_some,h];exact cw fun a r2=>rfl
  | none=>exact h _ _
 | P=>exact B1 hf h r
theorem s9:∀(n:Nat) (k:PK) (r:List Tok),fd n k (r.map f)=(fd n k r).mapT f
 | 0,_,_=>rfl
 | n+1,k,r=>DU hf (s9 n) k r
theorem xB(k:PK)(r:List Tok):par k (r.map f)=(par k r).mapT f:=by
 unfold par;rw[List.length_map];exact s9 hf _ k r
end
def PK.size:PK→Nat
 | .Lp _ a=>aQ a
 | .In a=>aQ a
 | .Ip l=>aV l
 | _=>0
theorem n8(a b:List Ex):aV (a++b)=aV a+aV b:=by
 induction a with
 | nil=>simp[aV]
 | cons x a ih=>simp only[List.cons_append,aV,ih];omega
def Sz(k:Nat)(r:List Tok)(x:PR):Prop:=match x with
 | .ok e r1=>r1.length≤r.length∧aQ e≤k+(r.length-r1.length)
 | _=>True
theorem dL{k k2:Nat}{r:List Tok}{x:PR}{f:Ex→List Tok→PR}(h:Sz k r x)(hf:∀e r1,x=.ok e r1→r1.length≤r.length→aQ e≤k+(r.length-r1.length)→Sz k2 r (f e r1)):Sz k2 r (x.bind f):=by
 cases x with
 | out=>trivial
 | bad c r=>trivial
 | ok e r1=>exact hf e r1 rfl h.1 h.2
theorem eQ{k:Nat}{r r1:List Tok}:Sz k r (em r1):=by cases r1<;>trivial
theorem Sz.up{k k2:Nat}{r r2:List Tok}{x:PR}(h:Sz k r2 x)(h1:r2.length≤r.length)(h2:k≤k2+(r.length-r2.length)):Sz k2 r x:=by
 cases x with
 | out=>trivial
 | bad c r=>trivial
 | ok e r1=>exact⟨Nat.le_trans h.1 h1,by have:=h.1;have:=h.2;omega⟩
theorem E4{rec:PK→List Tok→PR}(h:∀k r,Sz k.size r (rec k r))(r:List Tok):Sz 0 r (dY rec r):=by
 unfold dY;cases h1:acc (aj 40) r with
 | some r1=>
  have a1:=(aE h1).2;refine dL (k:=0) ((h .W r1).up (by omega) (Nat.zero_le _)) fun e r2 _ l2 s2=>?_;cases h2:acc (aj 41) r2 with
  | some r3=>have:=(aE h2).2;exact⟨by omega,by omega⟩
  | none=>exact eQ
 | none=>
 cases h2:dX r with
 | some p=>
  obtain⟨n,r1⟩:=p;have:=(jC h2).2;simp only;split
  ·trivial
  ·exact⟨by omega,by simp only[aQ,aV];omega⟩
 | none=>
 cases h3:cD r with
 | none=>exact eQ
 | some p=>
 obtain⟨s,r1⟩:=p;have n1:=(fl h3).2;simp only;cases h4:(if s=kP then acc (aj 40) r1 else none)with
 | some r2=>
  have a1:r2.length<r1.length:=by
   split at h4
   ·exact(aE h4).2
   ·cases h4
  simp only;cases h5:cD r2 with
  | none=>exact eQ
  | some p=>
   obtain⟨a,r3⟩:=p;have n2:=(fl h5).2;simp only;cases h6:acc (aj 41) r3 with
   | some r4=>have:=(aE h6).2;exact⟨by omega,by simp only[aQ,aV];omega⟩
   | none=>exact eQ
 | none=>
 simp only;cases h5:(if s=gC then acc (aj 40) r1 else none)with
 | some r2=>
  have a1:r2.length<r1.length:=by
   split at h5
   ·exact(aE h5).2
   ·cases h5
  refine dL (k:=0) ((h .W r2).up (by omega) (Nat.zero_le _)) fun e r3 e3 l3 s3=>?_;have hh:=h .W r2;rw[e3]at hh;have:=hh.2;have:=hh.1;cases h6:acc (aj 41) r3 with
  | some r4=>have:=(aE h6).2;exact⟨by omega,by simp only[cj,aQ,aV,PK.size]at *;omega⟩
  | none=>exact eQ
 | none=>
 simp only;cases h6:acc (aj 91) r1 with
 | some r2=>
  have a1:=(aE h6).2;refine dL (k:=0) ((h .W r2).up (by omega) (Nat.zero_le _)) fun e r3 e3 l3 s3=>?_;have hh:=h .W r2;rw[e3]at hh;have:=hh.2;have:=hh.1;cases h7:acc (aj 93) r3 with
  | some r4=>have:=(aE h7).2;exact⟨by omega,by simp only[aQ,aV,PK.size]at *;omega⟩
  | none=>exact eQ
 | none=>
 simp only;cases h7:acc (aj 64) r1 with
 | some r2=>
  have a1:=(aE h7).2;simp only;cases h8:dX r2 with
  | none=>exact eQ
  | some p=>
   obtain⟨n,r3⟩:=p;have:=(jC h8).2;simp only;split
   ·trivial
   ·exact⟨by omega,by simp only[aQ,aV];omega⟩
 | none=>exact⟨by omega,by simp only[aQ,aV];omega⟩
theorem Fp{rec:PK→List Tok→PR}(h:∀k r,Sz k.size r (rec k r))(k:PK)(r:List Tok):Sz k.size r (aT rec k r):=by
 cases k with
 | W=>
  simp only[aT];refine dL (h .I r) fun c r1 _ l1 s1=>?_;simp only[PK.size]at *;cases h1:acc (aj 63) r1 with
  | none=>exact⟨l1,s1⟩
  | some r2=>
   have a1:=(aE h1).2;refine dL (k:=0) ((h .W r2).up (by omega) (by simp only[PK.size];omega)) fun a r3 e3 l3 s3=>?_;have hh:=h .W r2;rw[e3]at hh;obtain⟨b1,b2⟩:=hh;simp only[PK.size]at b2;cases h2:acc (aj 58) r3 with
   | none=>exact eQ
   | some r4=>
    have a2:=(aE h2).2;refine dL (k:=0) ((h .W r4).up (by omega) (by simp only[PK.size];omega)) fun b r5 e5 l5 s5=>?_;have hh:=h .W r4;rw[e5]at hh;obtain⟨d1,d2⟩:=hh;simp only[PK.size]at d2;exact⟨by omega,by simp only[cj,aQ,aV];omega⟩
 | I=>
  simp only[aT];refine dL (h (.L 3) r) fun c r1 _ l1 s1=>?_;simp only[PK.size]at *;cases h1:acc (aO 61 62) r1 with
  | none=>exact⟨l1,s1⟩
  | some r2=>
   have a1:=(aE h1).2;refine dL (k:=0) ((h .I r2).up (by omega) (by simp only[PK.size];omega)) fun a r3 e3 l3 s3=>?_;have hh:=h .I r2;rw[e3]at hh;obtain⟨b1,b2⟩:=hh;simp only[PK.size]at b2;exact⟨by omega,by simp only[cj,aQ,aV];omega⟩
 | L k=>
  simp only[aT];split
  ·exact h .U r
  ·refine dL (h (.L (k+1)) r) fun c r1 _ l1 s1=>?_;exact(h (.Lp k c) r1).up l1 (by simp only[PK.size]at *;omega)
 | Lp k a=>
  simp only[aT];cases h1:(if k=9 then acc bU r else none)with
  | some r1=>
   have a1:r1.length<r.length:=by
    split at h1
    ·exact(aE h1).2
    ·cases h1
   refine dL (k:=aQ a) ((h (.In a) r1).up (by omega) (by simp only[PK.size];omega)) fun c r2 _ l2 s2=>?_;exact(h (.Lp k c) r2).up l2 (by simp only[PK.size]at *;omega)
  | none=>
   simp only;cases h2:fL k r with
   | none=>exact⟨Nat.le_refl _,by simp only[PK.size];omega⟩
   | some p=>
    obtain⟨o,ex,r1⟩:=p;have a1:=(mf h2).2;refine dL (k:=0) ((h (.L (k+1)) r1).up (by omega) (by simp only[PK.size];omega)) fun c r2 e2 l2 s2=>?_;have hh:=h (.L (k+1)) r1;rw[e2]at hh;obtain⟨b1,b2⟩:=hh;simp only[PK.size]at b2;refine(h (.Lp k _) r2).up l2 ?_;simp only[PK.size];split<;>(simp only[cj,aQ,aV];omega)
 | In a=>
  simp only[aT];cases h1:acc (aj 123) r with
  | none=>exact eQ
  | some r1=>
   have a1:=(aE h1).2;exact(h (.Ip [a]) r1).up (by omega) (by simp only[PK.size,aV];omega)
 | Ip args=>
  simp only[aT];refine dL (k:=0) ((h .W r).up (Nat.le_refl _) (by simp only[PK.size];omega)) fun lo r1 _ l1 s1=>?_;cases h1:acc (aO 46 46) r1 with
  | none=>exact eQ
  | some r2=>
   have a1:=(aE h1).2;refine dL (k:=0) ((h .W r2).up (by omega) (by simp only[PK.size];omega)) fun hi r3 e3 l3 s3=>?_;have hh:=h .W r2;rw[e3]at hh;obtain⟨b1,b2⟩:=hh;simp only[PK.size]at b2;cases h2:acc (aj 44) r3 with
   | some r4=>
    have a2:=(aE h2).2;exact(h (.Ip _) r4).up (by omega) (by simp only[PK.size,n8,aV];omega)
   | none=>
    simp only;cases h3:acc (aj 125) r3 with
    | none=>exact eQ
    | some r5=>
     have a3:=(aE h3).2;exact⟨by omega,by simp only[PK.size,cj,aQ,n8,aV];omega⟩
 | U=>
  have one:∀{m r1} (o:Int),acc m r=some r1→Sz 0 r ((rec .U r1).bind fun a r2=>.ok (cj o [a]) r2):=fun{m r1} o h1=>by
   have a1:=(aE h1).2;refine dL (k:=0) ((h .U r1).up (by omega) (by simp only[PK.size];omega)) fun a r3 e3 l3 s3=>?_;have hh:=h .U r1;rw[e3]at hh;obtain⟨b1,b2⟩:=hh;simp only[PK.size]at b2;exact⟨by omega,by simp only[cj,aQ,aV];omega⟩
  simp only[aT];cases h1:acc (aj 33) r with
  | some r1=>exact one 4 h1
  | none=>
  cases h2:acc (aj 126) r with
  | some r1=>exact one 5 h2
  | none=>
  cases h3:acc (aj 45) r with
  | some r1=>exact one 6 h3
  | none=>exact h .P r
 | P=>exact E4 h r
theorem yc:∀(n:Nat) (k:PK) (r:List Tok),Sz k.size r (fd n k r)
 | 0,_,_=>trivial
 | n+1,k,r=>Fp (yc n) k r
def NB(x:PR):Prop:=match x with
 | .bad c r=>c=6∨((c=3∨c=5)∧r≠[])
 | _=>True
theorem db{x:PR}{f:Ex→List Tok→PR}(h:NB x)(hf:∀e r,NB (f e r)):NB (x.bind f):=by
 cases x with
 | out=>trivial
 | bad c r=>exact h
 | ok e r=>exact hf e r
theorem eM{r:List Tok}:NB (em r):=by
 cases r with
 | nil=>exact .inl rfl
 | cons t r=>exact .inr ⟨.inr rfl,by simp⟩
theorem CX{r r1:List Tok}{n:Int}(h:dX r=some (n,r1)):NB (.bad 3 r):=by
 obtain⟨t,rfl,-⟩:=qC h;exact .inr ⟨.inl rfl,by simp⟩
theorem Gg{rec:PK→List Tok→PR}(h:∀k r,NB (rec k r))(k:PK)(r:List Tok):NB (aT rec k r):=by
 cases k with
 | W=>
  simp only[aT];refine db (h _ _) fun c r1=>?_;cases acc (aj 63) r1 with
  | none=>trivial
  | some r2=>
   refine db (h _ _) fun a r3=>?_;cases acc (aj 58) r3 with
   | none=>exact eM
   | some r4=>exact db (h _ _) fun b r5=>trivial
 | I=>
  simp only[aT];refine db (h _ _) fun c r1=>?_;cases acc (aO 61 62) r1 with
  | none=>trivial
  | some r2=>exact db (h _ _) fun b r5=>trivial
 | L k=>
  simp only[aT];split
  ·exact h _ _
  ·exact db (h _ _) fun _ _=>h _ _
 | Lp k a=>
  simp only[aT];cases (if k=9 then acc bU r else none)with
  | some r1=>exact db (h _ _) fun _ _=>h _ _
  | none=>
   simp only;cases fL k r with
   | none=>trivial
   | some p=>exact db (h _ _) fun _ _=>h _ _
 | In a=>
  simp only[aT];cases acc (aj 123) r with
  | none=>exact eM
  | some r1=>exact h _ _
 | Ip args=>
  simp only[aT];refine db (h _ _) fun lo r1=>?_;cases acc (aO 46 46) r1 with
  | none=>exact eM
  | some r2=>
   refine db (h _ _) fun hi r3=>?_;cases acc (aj 44) r3 with
   | some r4=>exact h _ _
   | none=>
    simp only;cases acc (aj 125) r3 with
    | some r5=>trivial
    | none=>exact eM
 | U=>
  simp only[aT];cases acc (aj 33) r with
  | some r1=>exact db (h _ _) fun _ _=>trivial
  | none=>
  cases acc (aj 126) r with
  | some r1=>exact db (h _ _) fun _ _=>trivial
  | none=>
  cases acc (aj 45) r with
  | some r1=>exact db (h _ _) fun _ _=>trivial
  | none=>exact h _ _
 | P=>
  show NB (dY rec r);unfold dY;cases acc (aj 40) r with
  | some r1=>
   refine db (h _ _) fun e r2=>?_;cases acc (aj 41) r2 with
   | some r3=>trivial
   | none=>exact eM
  | none=>
  cases hn:dX r with
  | some p=>simp only;split<;>first|trivial|exact CX (n:=p.1) (r1:=p.2) hn
  | none=>
  cases cD r with
  | none=>exact eM
  | some p=>
  obtain⟨s,r1⟩:=p;simp only;cases (if s=kP then acc (aj 40) r1 else none)with
  | some r2=>
   simp only;cases cD r2 with
   | none=>exact eM
   | some p=>
    simp only;cases acc (aj 41) p.2 with
    | some r4=>trivial
    | none=>exact eM
  | none=>
  simp only;cases (if s=gC then acc (aj 40) r1 else none)with
  | some r2=>
   refine db (h _ _) fun e r3=>?_;cases acc (aj 41) r3 with
   | some r4=>trivial
   | none=>exact eM
  | none=>
  simp only;cases acc (aj 91) r1 with
  | some r2=>
   refine db (h _ _) fun e r3=>?_;cases acc (aj 93) r3 with
   | some r4=>trivial
   | none=>exact eM
  | none=>
  simp only;cases acc (aj 64) r1 with
  | some r2=>
   simp only;cases hn:dX r2 with
   | none=>exact eM
   | some p=>simp only;split<;>first|trivial|exact CX (n:=p.1) (r1:=p.2) hn
  | none=>trivial
theorem xN:∀(n:Nat) (k:PK) (r:List Tok),NB (fd n k r)
 | 0,_,_=>trivial
 | n+1,k,r=>Gg (xN n) k r
theorem BP{k:PK}{r r1:List Tok}{c:Int}(h:par k r=.bad c r1):c=6∨((c=3∨c=5)∧r1≠[]):=by
 have h1:=xN (40*r.length+20) k r;unfold par at h;rw[h]at h1;exact h1
theorem FO{k:PK}{r r1:List Tok}{c:Int}(h:par k r=.bad c r1):c≠0∧r1.length≤r.length:=by
 have h1:=BP h;have h2:=tV k r;rw[h]at h2;exact⟨by omega,h2.length_le⟩
end Go.Proofs.YthekkgfmagliiaaGreatDoor
