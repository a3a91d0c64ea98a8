import Derived.Test.YtnhphlmblenapaaGreatDoorCv1
set_option linter.unusedVariables false
set_option linter.unusedSimpArgs false
set_option linter.unusedSectionVars false
open List renaming cons_append->Pa,map_cons->Pb,map->Pd
open Nat renaming zero_le->Pe,le_refl->Pf,le_succ_of_le->Pg
open Option renaming map_some->Ph,map_none->Pi
namespace Go.Proofs.YtnhphlmblenapaaGreatDoor
open Go.RowKit
theorem bR{m:ByteArray}{r r1:List Tok}(q:List Tok)(h:acc m r=some r1):acc m (r++q)=some (r1++q):=by
 cases r with
 | nil=>cases h
 | cons t r=>
  simp only[acc,Pa]at h ⊢;split at h
  .rename_i hc;cases h;rw[if_pos hc]
  .cases h
theorem dN{m:ByteArray}{r q:List Tok}(h:acc m r=none)(hq:acc m q=none):acc m (r++q)=none:=by
 cases r with
 | nil=>exact hq
 | cons t r=>
  simp only[acc,Pa]at h ⊢;split at h
  .cases h
  .rename_i hc;rw[if_neg hc]
theorem fW{m:ByteArray}{t:Tok}{r q:List Tok}(h:acc m (t::r)=none):acc m (t::r++q)=none:=by
 simp only[acc,Pa]at h ⊢;split at h
 .cases h
 .rename_i hc;rw[if_neg hc]
theorem ns{r r1:List Tok}{s:ByteArray}(q:List Tok)(h:bD r=some (s,r1)):bD (r++q)=some (s,r1++q):=by
 cases r with
 | nil=>cases h
 | cons t r=>
  simp only[bD,Pa]at h ⊢;split at h
  .rename_i hc;cases h;rw[if_pos hc]
  .cases h
theorem pE{r r1:List Tok}{n:Int}(q:List Tok)(h:cm r=some (n,r1)):cm (r++q)=some (n,r1++q):=by
 cases r with
 | nil=>cases h
 | cons t r=>
  simp only[cm,Pa]at h ⊢;split at h
  .rename_i hc;cases h;rw[if_pos hc]
  .cases h
theorem AP{t:Tok}{r q:List Tok}(h:cm (t::r)=none):cm (t::r++q)=none:=by
 simp only[cm,Pa]at h ⊢;split at h
 .cases h
 .rename_i hc;rw[if_neg hc]
theorem nu{k:Nat}{t:Tok}{r q:List Tok}:∀l,fm l k (t::r++q)=(fm l k (t::r)).map fun p=>(p.1,p.2++q)
 | []=>rfl
 | b::l=>by
  simp only[fm];split
  .cases h:acc b.1 (t::r)with
   | some r1=>rw[bR q h];rfl
   | none=>rw[fW h];exact nu l
  .exact nu l
theorem AQ{k:Nat}{t:Tok}{r q:List Tok}:dw k (t::r++q)=(dw k (t::r)).map fun p=>(p.1,p.2.1,p.2.2++q):=by
 unfold dw;rw[nu];cases fm fp k (t::r)with
 | some p=>rfl
 | none=>
  simp only[Pi];split
  .cases h:acc (ah 62) (t::r)with
   | some r1=>rw[bR q h];rfl
   | none=>
    rw[fW h];simp only;cases h2:acc (bL 62 61) (t::r)with
    | some r1=>rw[bR q h2];rfl
    | none=>rw[fW h2];rfl
  .rfl
theorem dn{x:PR}{f:Ex->List Tok->PR}{e:Ex}{r:List Tok}(h:x.bind f=.ok e r):∃a r1,x=.ok a r1/\f a r1=.ok e r:=by
 cases x with
 | out=>cases h
 | bad c r=>cases h
 | ok a r1=>exact⟨a,r1,rfl,h⟩
theorem fv{r r1:List Tok}{e:Ex}:dZ r≠.ok e r1:=by cases r<;>(intro h;cases h)
def PK.good:PK->Prop
 | .L k=>3≤k
 | .Lp k _=>3≤k
 | _=>True
theorem EE{rec:PK->List Tok->PR}{q:List Tok}(hq:Stop 1 q)(h:∀k r e r1,PK.good k->rec k r=.ok e r1->par k (r++q)=.ok e (r1++q)){r:List Tok}{e:Ex}{r9:List Tok}(hp:fd rec r=.ok e r9):fd par (r++q)=.ok e (r9++q):=by
 unfold fd at hp ⊢;cases r with
 | nil=>cases hp
 | cons t r=>
 cases h1:acc (ah 40) (t::r)with
 | some r1=>
  rw[h1]at hp;rw[bR q h1];simp only at hp ⊢;obtain⟨a,r2,g1,g2⟩:=dn hp;rw[h _ _ _ _ (by trivial) g1];simp only[PR.bind];cases h2:acc (ah 41) r2 with
  | some r3=>rw[h2]at g2;rw[bR q h2];cases g2;rfl
  | none=>rw[h2]at g2;exact absurd g2 fv
 | none=>
 rw[h1]at hp;rw[fW h1];simp only at hp ⊢;cases h2:cm (t::r)with
 | some p=>
  obtain⟨n,r1⟩:=p;rw[h2]at hp;rw[pE q h2];simp only at hp ⊢;split at hp
  .cases hp
  .rename_i hc;rw[if_neg hc];cases hp;rfl
 | none=>
 rw[h2]at hp;rw[AP h2];simp only at hp ⊢;cases h3:bD (t::r)with
 | none=>rw[h3]at hp;exact absurd hp fv
 | some p=>
 obtain⟨s,r1⟩:=p;rw[h3]at hp;rw[ns q h3];simp only at hp ⊢;have hA:∀{m r2},acc m r1=some r2->acc m (r1++q)=some (r2++q):=fun h=>bR q h
 have hN:∀(c:Prop) [Decidable c],(if c then acc (ah 40) r1 else none)=none->(if c then acc (ah 40) (r1++q)else none)=none:=fun c _ hh=>by
  split
  .rename_i hc;rw[if_pos hc]at hh;exact dN hh hq.p
  .rfl
 have hS:∀(c:Prop) [Decidable c] {r2},(if c then acc (ah 40) r1 else none)=some r2->(if c then acc (ah 40) (r1++q)else none)=some (r2++q):=fun c _ r2 hh=>by
  split
  .rename_i hc;rw[if_pos hc]at hh;exact hA hh
  .rename_i hc;rw[if_neg hc]at hh;cases hh
 cases h4:(if s=qu then acc (ah 40) r1 else none)with
 | some r2=>
  rw[h4]at hp;rw[hS _ h4];simp only at hp ⊢;cases h5:bD r2 with
  | none=>rw[h5]at hp;exact absurd hp fv
  | some p=>
   obtain⟨a,r3⟩:=p;rw[h5]at hp;rw[ns q h5];simp only at hp ⊢;cases h6:acc (ah 41) r3 with
   | some r4=>rw[h6]at hp;rw[bR q h6];cases hp;rfl
   | none=>rw[h6]at hp;exact absurd hp fv
 | none=>
 rw[h4]at hp;rw[hN _ h4];simp only at hp ⊢;cases h5:(if s=jS then acc (ah 40) r1 else none)with
 | some r2=>
  rw[h5]at hp;rw[hS _ h5];simp only at hp ⊢;obtain⟨a,r3,g1,g2⟩:=dn hp;rw[h _ _ _ _ (by trivial) g1];simp only[PR.bind];cases h6:acc (ah 41) r3 with
  | some r4=>rw[h6]at g2;rw[bR q h6];cases g2;rfl
  | none=>rw[h6]at g2;exact absurd g2 fv
 | none=>
 rw[h5]at hp;rw[hN _ h5];simp only at hp ⊢;cases h6:acc (ah 91) r1 with
 | some r2=>
  rw[h6]at hp;rw[hA h6];simp only at hp ⊢;obtain⟨a,r3,g1,g2⟩:=dn hp;rw[h _ _ _ _ (by trivial) g1];simp only[PR.bind];cases h7:acc (ah 93) r3 with
  | some r4=>rw[h7]at g2;rw[bR q h7];cases g2;rfl
  | none=>rw[h7]at g2;exact absurd g2 fv
 | none=>
 rw[h6]at hp;rw[dN h6 hq.b];simp only at hp ⊢;cases h7:acc (ah 64) r1 with
 | some r2=>
  rw[h7]at hp;rw[hA h7];simp only at hp ⊢;cases h8:cm r2 with
  | none=>rw[h8]at hp;exact absurd hp fv
  | some p=>
   obtain⟨n,r3⟩:=p;rw[h8]at hp;rw[pE q h8];simp only at hp ⊢;split at hp
   .cases hp
   .rename_i hc;rw[if_neg hc];cases hp;rfl
 | none=>
  rw[h7]at hp;rw[dN h7 hq.a];simp only at hp ⊢;cases hp;rfl
theorem BL{rec:PK->List Tok->PR}{q:List Tok}(hq:Stop 1 q)(h:∀k r e r1,PK.good k->rec k r=.ok e r1->par k (r++q)=.ok e (r1++q))(h0:∀e r1,rec .P []≠.ok e r1)(k:PK)(hk:k.good){r:List Tok}{e:Ex}{r9:List Tok}(hp:aX rec k r=.ok e r9):aX par k (r++q)=.ok e (r9++q):=by
 cases k with
 | W=>
  simp only[aX]at hp ⊢;obtain⟨c,r1,g1,g2⟩:=dn hp;rw[h _ _ _ _ (by trivial) g1,PR.bind];cases h1:acc (ah 63) r1 with
  | none=>rw[h1]at g2;rw[dN h1 (hq.q (by omega))];cases g2;rfl
  | some r2=>
   rw[h1]at g2;rw[bR q h1];simp only at g2 ⊢;obtain⟨a,r3,k1,k2⟩:=dn g2;rw[h _ _ _ _ (by trivial) k1,PR.bind];cases h2:acc (ah 58) r3 with
   | none=>rw[h2]at k2;exact absurd k2 fv
   | some r4=>
    rw[h2]at k2;rw[bR q h2];simp only at k2 ⊢;obtain⟨b,r5,l1,l2⟩:=dn k2;rw[h _ _ _ _ (by trivial) l1,PR.bind];cases l2;rfl
 | I=>
  simp only[aX]at hp ⊢;obtain⟨c,r1,g1,g2⟩:=dn hp;rw[h _ _ _ _ (by exact Pf 3) g1,PR.bind];cases h1:acc (bL 61 62) r1 with
  | none=>rw[h1]at g2;rw[dN h1 (hq.im (by omega))];cases g2;rfl
  | some r2=>
   rw[h1]at g2;rw[bR q h1];simp only at g2 ⊢;obtain⟨a,r3,k1,k2⟩:=dn g2;rw[h _ _ _ _ (by trivial) k1,PR.bind];cases k2;rfl
 | L k=>
  simp only[aX]at hp ⊢;split at hp
  .rename_i hc;rw[if_pos hc];exact h _ _ _ _ (by trivial) hp
  .rename_i hc;rw[if_neg hc];obtain⟨c,r1,g1,g2⟩:=dn hp;rw[h _ _ _ _ (by show 3≤k+1;exact Pg hk) g1,PR.bind];exact h _ _ _ _ hk g2
 | Lp k a=>
  simp only[aX]at hp ⊢;cases h1:(if k=9 then acc dF r else none)with
  | some r1=>
   rw[h1]at hp
   have:(if k=9 then acc dF (r++q)else none)=some (r1++q):=by
    split
    .rename_i hc;rw[if_pos hc]at h1;exact bR q h1
    .rename_i hc;rw[if_neg hc]at h1;cases h1
   rw[this];simp only at hp ⊢;obtain⟨c,r2,g1,g2⟩:=dn hp;rw[h _ _ _ _ (by trivial) g1,PR.bind];exact h _ _ _ _ hk g2
  | none=>
   rw[h1]at hp
   have:(if k=9 then acc dF (r++q)else none)=none:=by
    split
    .rename_i hc;rw[if_pos hc]at h1;exact dN h1 (hq.ins (by omega))
    .rfl
   rw[this];simp only at hp ⊢;cases r with
   | nil=>
    have hk3:3≤k:=hk;have e1:dw k []=none:=(Eu 1).op k (by omega) hk3;rw[e1]at hp;simp only at hp;cases hp;rw[List.nil_append,hq.op k (by omega) hk3]
   | cons t r=>
    rw[AQ];cases h2:dw k (t::r)with
    | none=>rw[h2]at hp;cases hp;rfl
    | some p=>
     obtain⟨o,ex,r1⟩:=p;rw[h2]at hp;simp only[Ph]at hp ⊢;obtain⟨c,r2,g1,g2⟩:=dn hp;rw[h _ _ _ _ (by show 3≤k+1;exact Pg hk) g1,PR.bind];exact h _ _ _ _ hk g2
 | In a=>
  simp only[aX]at hp ⊢;cases h1:acc (ah 123) r with
  | none=>rw[h1]at hp;exact absurd hp fv
  | some r1=>rw[h1]at hp;rw[bR q h1];exact h _ _ _ _ (by trivial) hp
 | Ip args=>
  simp only[aX]at hp ⊢;obtain⟨lo,r1,g1,g2⟩:=dn hp;rw[h _ _ _ _ (by trivial) g1,PR.bind];cases h1:acc (bL 46 46) r1 with
  | none=>rw[h1]at g2;exact absurd g2 fv
  | some r2=>
   rw[h1]at g2;rw[bR q h1];simp only at g2 ⊢;obtain⟨hi,r3,k1,k2⟩:=dn g2;rw[h _ _ _ _ (by trivial) k1,PR.bind];cases h2:acc (ah 44) r3 with
   | some r4=>rw[h2]at k2;rw[bR q h2];exact h _ _ _ _ (by trivial) k2
   | none=>
    rw[h2]at k2;simp only at k2;cases h3:acc (ah 125) r3 with
    | none=>rw[h3]at k2;exact absurd k2 fv
    | some r5=>
     rw[h3]at k2
     have hne:acc (ah 44) (r3++q)=none:=by
      cases r3 with
      | nil=>cases h3
      | cons t r3=>exact fW h2
     rw[hne,bR q h3];cases k2;rfl
 | U=>
  simp only[aX]at hp ⊢;cases r with
  | nil=>
   exact absurd hp (h0 _ _)
  | cons t r=>
   cases h1:acc (ah 33) (t::r)with
   | some r1=>
    rw[h1]at hp;rw[bR q h1];simp only at hp ⊢;obtain⟨c,r2,g1,g2⟩:=dn hp;rw[h _ _ _ _ (by trivial) g1,PR.bind];cases g2;rfl
   | none=>
   rw[h1]at hp;rw[fW h1];simp only at hp ⊢;cases h2:acc (ah 126) (t::r)with
   | some r1=>
    rw[h2]at hp;rw[bR q h2];simp only at hp ⊢;obtain⟨c,r2,g1,g2⟩:=dn hp;rw[h _ _ _ _ (by trivial) g1,PR.bind];cases g2;rfl
   | none=>
   rw[h2]at hp;rw[fW h2];simp only at hp ⊢;cases h3:acc (ah 45) (t::r)with
   | some r1=>
    rw[h3]at hp;rw[bR q h3];simp only at hp ⊢;obtain⟨c,r2,g1,g2⟩:=dn hp;rw[h _ _ _ _ (by trivial) g1,PR.bind];cases g2;rfl
   | none=>
    rw[h3]at hp;rw[fW h3];exact h _ _ _ _ (by trivial) hp
 | P=>exact EE hq h hp
theorem sX{q:List Tok}(hq:Stop 1 q):∀(n:Nat) (k:PK) (r:List Tok) (e:Ex) (r1:List Tok),k.good->fu n k r=.ok e r1->par k (r++q)=.ok e (r1++q)
 | 0,_,_,_,_,_,h=>by cases h
 | n+1,k,r,e,r1,hk,h=>by
  rw[iT];refine BL hq (fun k r e r1 hk h=>sX hq n k r e r1 hk h) (fun e r1 h=>?_) k hk h;cases n with
  | zero=>cases h
  | succ n=>cases h
def PR.mapT(f:Tok->Tok):PR->PR
 | .out=>.out
 | .bad c r=>.bad c (r.map f)
 | .ok e r=>.ok e (r.map f)
structure SameTok(f:Tok->Tok):Prop where
 kind:∀t,(f t).kind=t.kind
 num:∀t,(f t).num=t.num
 text:∀t,(f t).text=t.text
section
variable {f : Tok -> Tok} (hf : SameTok f)
include hf
theorem mY(t:Tok):bS (f t)=bS t:=by unfold bS;rw[hf.kind,hf.num,hf.text]
theorem cj(m:ByteArray)(r:List Tok):acc m (r.map f)=(acc m r).map (Pd f):=by
 cases r with
 | nil=>rfl
 | cons t r=>
  simp only[acc,Pb,mY hf,hf.kind,hf.text];split<;>rfl
theorem kD(r:List Tok):bD (r.map f)=(bD r).map fun p=>(p.1,p.2.map f):=by
 cases r with
 | nil=>rfl
 | cons t r=>
  simp only[bD,Pb,mY hf,hf.kind,hf.text];split<;>rfl
theorem lI(r:List Tok):cm (r.map f)=(cm r).map fun p=>(p.1,p.2.map f):=by
 cases r with
 | nil=>rfl
 | cons t r=>
  simp only[cm,Pb,mY hf,hf.kind,hf.num];split<;>rfl
theorem mH(k:Nat)(r:List Tok):∀l,fm l k (r.map f)=(fm l k r).map fun p=>(p.1,p.2.map f)
 | []=>rfl
 | b::l=>by
  simp only[fm,cj hf];split
  .cases acc b.1 r with
   | some r1=>rfl
   | none=>exact mH k r l
  .exact mH k r l
theorem Bl(k:Nat)(r:List Tok):dw k (r.map f)=(dw k r).map fun p=>(p.1,p.2.1,p.2.2.map f):=by
 unfold dw;rw[mH hf,cj hf,cj hf];cases fm fp k r with
 | some p=>rfl
 | none=>
  simp only[Pi];split
  .cases acc (ah 62) r with
   | some r1=>rfl
   | none=>
    simp only[Pi];cases acc (bL 62 61) r with
    | some r1=>rfl
    | none=>rfl
  .rfl
theorem ei(r:List Tok):dZ (r.map f)=(dZ r).mapT f:=by cases r<;>rfl
omit hf in
theorem cH{x:PR}{g h:Ex->List Tok->PR}(hg:∀e r,h e (r.map f)=(g e r).mapT f):(x.mapT f).bind h=(x.bind g).mapT f:=by
 cases x with
 | out=>rfl
 | bad c r=>rfl
 | ok e r=>exact hg e r
theorem EF{rec:PK->List Tok->PR}(h:∀k r,rec k (r.map f)=(rec k r).mapT f)(r:List Tok):fd rec (r.map f)=(fd rec r).mapT f:=by
 have hif:∀(c:Prop) [Decidable c] (m:ByteArray) (r:List Tok),(if c then acc m (r.map f)else none)=(if c then acc m r else none).map (Pd f):=fun c _ m r=>by split<;>simp[cj hf]
 unfold fd;rw[cj hf,lI hf,kD hf];cases acc (ah 40) r with
 | some r1=>
  simp only[Ph,h];refine cH fun e r2=>?_;rw[cj hf];cases acc (ah 41) r2 with
  | some r3=>rfl
  | none=>exact ei hf r2
 | none=>
 simp only[Pi];cases cm r with
 | some p=>simp only[Ph];split<;>rfl
 | none=>
 simp only[Pi];cases bD r with
 | none=>exact ei hf r
 | some p=>
 obtain⟨s,r1⟩:=p;simp only[Ph,hif];cases (if s=qu then acc (ah 40) r1 else none)with
 | some r2=>
  simp only[Ph];rw[kD hf];cases bD r2 with
  | none=>exact ei hf r2
  | some p=>
   obtain⟨a,r3⟩:=p;simp only[Ph];rw[cj hf];cases acc (ah 41) r3 with
   | some r4=>rfl
   | none=>exact ei hf r3
 | none=>
 simp only[Pi];cases (if s=jS then acc (ah 40) r1 else none)with
 | some r2=>
  simp only[Ph,h];refine cH fun e r3=>?_;rw[cj hf];cases acc (ah 41) r3 with
  | some r4=>rfl
  | none=>exact ei hf r3
 | none=>
 simp only[Pi];rw[cj hf,cj hf];cases acc (ah 91) r1 with
 | some r2=>
  simp only[Ph,h];refine cH fun e r3=>?_;rw[cj hf];cases acc (ah 93) r3 with
  | some r4=>rfl
  | none=>exact ei hf r3
 | none=>
 simp only[Pi];cases acc (ah 64) r1 with
 | some r2=>
  simp only[Ph];rw[lI hf];cases cm r2 with
  | none=>exact ei hf r2
  | some p=>simp only[Ph];split<;>rfl
 | none=>rfl
theorem B8{rec:PK->List Tok->PR}(h:∀k r,rec k (r.map f)=(rec k r).mapT f)(k:PK)(r:List Tok):aX rec k (r.map f)=(aX rec k r).mapT f:=by
 cases k with
 | W=>
  simp only[aX,h];refine cH fun c r1=>?_;rw[cj hf];cases acc (ah 63) r1 with
  | none=>rfl
  | some r2=>
   simp only[Ph,h];refine cH fun a r3=>?_;rw[cj hf];cases acc (ah 58) r3 with
   | none=>exact ei hf r3
   | some r4=>
    simp only[Ph,h];exact cH fun b r5=>rfl
 | I=>
  simp only[aX,h];refine cH fun c r1=>?_;rw[cj hf];cases acc (bL 61 62) r1 with
  | none=>rfl
  | some r2=>
   simp only[Ph,h];exact cH fun b r5=>rfl
 | L k=>
  simp only[aX,h];split
  .rfl
  .exact cH fun a r1=>h _ _
 | Lp k a=>
  simp only[aX];have hif:(if k=9 then acc dF (r.map f)else none)=(if k=9 then acc dF r else none).map (Pd f):=by split<;>simp[cj hf]
  rw[hif,Bl hf];cases (if k=9 then acc dF r else none)with
  | some r1=>
   simp only[Ph,h];exact cH fun b r2=>h _ _
  | none=>
   simp only[Pi];cases dw k r with
   | none=>rfl
   | some p=>
    simp only[Ph,h];exact cH fun b r2=>h _ _
 | In a=>
  simp only[aX];rw[cj hf];cases acc (ah 123) r with
  | none=>exact ei hf r
  | some r1=>exact h _ _
 | Ip args=>
  simp only[aX,h];refine cH fun lo r1=>?_;rw[cj hf];cases acc (bL 46 46) r1 with
  | none=>exact ei hf r1
  | some r2=>
   simp only[Ph,h];refine cH fun hi r3=>?_;rw[cj hf,cj hf];cases acc (ah 44) r3 with
   | some r4=>exact h _ _
   | none=>
    simp only[Pi];cases acc (ah 125) r3 with
    | some r5=>rfl
    | none=>exact ei hf r3
 | U=>
  simp only[aX];rw[cj hf,cj hf,cj hf];cases acc (ah 33) r with
  | some r1=>simp only[Ph,h];exact cH fun a r2=>rfl
  | none=>
  simp only[Pi];cases acc (ah 126) r with
  | some r1=>simp only[Ph,h];exact cH fun a r2=>rfl
  | none=>
  simp only[Pi];cases acc (ah 45) r with
  | some r1=>simp only[Ph,h];exact cH fun a r2=>rfl
  | none=>exact h _ _
 | P=>exact EF hf h r
theorem th:∀(n:Nat) (k:PK) (r:List Tok),fu n k (r.map f)=(fu n k r).mapT f
 | 0,_,_=>rfl
 | n+1,k,r=>B8 hf (th n) k r
theorem xD(k:PK)(r:List Tok):par k (r.map f)=(par k r).mapT f:=by
 unfold par;rw[List.length_map];exact th hf _ k r
end
def PK.size:PK->Nat
 | .Lp _ a=>bN a
 | .In a=>bN a
 | .Ip l=>bH l
 | _=>0
theorem pq(a b:List Ex):bH (a++b)=bH a+bH b:=by
 induction a with
 | nil=>simp[bH]
 | cons x a ih=>simp only[Pa,bH,ih];omega
def Sz(k:Nat)(r:List Tok)(x:PR):Prop:=match x with
 | .ok e r1=>r1.length≤r.length/\bN e≤k+(r.length-r1.length)
 | _=>True
theorem dX{k k2:Nat}{r:List Tok}{x:PR}{f:Ex->List Tok->PR}(h:Sz k r x)(hf:∀e r1,x=.ok e r1->r1.length≤r.length->bN e≤k+(r.length-r1.length)->Sz k2 r (f e r1)):Sz k2 r (x.bind f):=by
 cases x with
 | out=>trivial
 | bad c r=>trivial
 | ok e r1=>exact hf e r1 rfl h.1 h.2
theorem fz{k:Nat}{r r1:List Tok}:Sz k r (dZ r1):=by cases r1<;>trivial
theorem Sz.up{k k2:Nat}{r r2:List Tok}{x:PR}(h:Sz k r2 x)(h1:r2.length≤r.length)(h2:k≤k2+(r.length-r2.length)):Sz k2 r x:=by
 cases x with
 | out=>trivial
 | bad c r=>trivial
 | ok e r1=>exact⟨Nat.le_trans h.1 h1,by have:=h.1;have:=h.2;omega⟩
theorem Fe{rec:PK->List Tok->PR}(h:∀k r,Sz k.size r (rec k r))(r:List Tok):Sz 0 r (fd rec r):=by
 unfold fd;cases h1:acc (ah 40) r with
 | some r1=>
  have a1:=(az h1).2;refine dX (k:=0) ((h .W r1).up (by omega) (Pe _)) fun e r2 _ l2 s2=>?_;cases h2:acc (ah 41) r2 with
  | some r3=>have:=(az h2).2;exact⟨by omega,by omega⟩
  | none=>exact fz
 | none=>
 cases h2:cm r with
 | some p=>
  obtain⟨n,r1⟩:=p;have:=(iz h2).2;simp only;split
  .trivial
  .exact⟨by omega,by simp only[bN,bH];omega⟩
 | none=>
 cases h3:bD r with
 | none=>exact fz
 | some p=>
 obtain⟨s,r1⟩:=p;have n1:=(ff h3).2;simp only;cases h4:(if s=qu then acc (ah 40) r1 else none)with
 | some r2=>
  have a1:r2.length<r1.length:=by
   split at h4
   .exact(az h4).2
   .cases h4
  simp only;cases h5:bD r2 with
  | none=>exact fz
  | some p=>
   obtain⟨a,r3⟩:=p;have n2:=(ff h5).2;simp only;cases h6:acc (ah 41) r3 with
   | some r4=>have:=(az h6).2;exact⟨by omega,by simp only[bN,bH];omega⟩
   | none=>exact fz
 | none=>
 simp only;cases h5:(if s=jS then acc (ah 40) r1 else none)with
 | some r2=>
  have a1:r2.length<r1.length:=by
   split at h5
   .exact(az h5).2
   .cases h5
  refine dX (k:=0) ((h .W r2).up (by omega) (Pe _)) fun e r3 e3 l3 s3=>?_;have hh:=h .W r2;rw[e3]at hh;have:=hh.2;have:=hh.1;cases h6:acc (ah 41) r3 with
  | some r4=>have:=(az h6).2;exact⟨by omega,by simp only[bh,bN,bH,PK.size]at *;omega⟩
  | none=>exact fz
 | none=>
 simp only;cases h6:acc (ah 91) r1 with
 | some r2=>
  have a1:=(az h6).2;refine dX (k:=0) ((h .W r2).up (by omega) (Pe _)) fun e r3 e3 l3 s3=>?_;have hh:=h .W r2;rw[e3]at hh;have:=hh.2;have:=hh.1;cases h7:acc (ah 93) r3 with
  | some r4=>have:=(az h7).2;exact⟨by omega,by simp only[bN,bH,PK.size]at *;omega⟩
  | none=>exact fz
 | none=>
 simp only;cases h7:acc (ah 64) r1 with
 | some r2=>
  have a1:=(az h7).2;simp only;cases h8:cm r2 with
  | none=>exact fz
  | some p=>
   obtain⟨n,r3⟩:=p;have:=(iz h8).2;simp only;split
   .trivial
   .exact⟨by omega,by simp only[bN,bH];omega⟩
 | none=>exact⟨by omega,by simp only[bN,bH];omega⟩
theorem Ff{rec:PK->List Tok->PR}(h:∀k r,Sz k.size r (rec k r))(k:PK)(r:List Tok):Sz k.size r (aX rec k r):=by
 cases k with
 | W=>
  simp only[aX];refine dX (h .I r) fun c r1 _ l1 s1=>?_;simp only[PK.size]at *;cases h1:acc (ah 63) r1 with
  | none=>exact⟨l1,s1⟩
  | some r2=>
   have a1:=(az h1).2;refine dX (k:=0) ((h .W r2).up (by omega) (by simp only[PK.size];omega)) fun a r3 e3 l3 s3=>?_;have hh:=h .W r2;rw[e3]at hh;obtain⟨b1,b2⟩:=hh;simp only[PK.size]at b2;cases h2:acc (ah 58) r3 with
   | none=>exact fz
   | some r4=>
    have a2:=(az h2).2;refine dX (k:=0) ((h .W r4).up (by omega) (by simp only[PK.size];omega)) fun b r5 e5 l5 s5=>?_;have hh:=h .W r4;rw[e5]at hh;obtain⟨d1,d2⟩:=hh;simp only[PK.size]at d2;exact⟨by omega,by simp only[bh,bN,bH];omega⟩
 | I=>
  simp only[aX];refine dX (h (.L 3) r) fun c r1 _ l1 s1=>?_;simp only[PK.size]at *;cases h1:acc (bL 61 62) r1 with
  | none=>exact⟨l1,s1⟩
  | some r2=>
   have a1:=(az h1).2;refine dX (k:=0) ((h .I r2).up (by omega) (by simp only[PK.size];omega)) fun a r3 e3 l3 s3=>?_;have hh:=h .I r2;rw[e3]at hh;obtain⟨b1,b2⟩:=hh;simp only[PK.size]at b2;exact⟨by omega,by simp only[bh,bN,bH];omega⟩
 | L k=>
  simp only[aX];split
  .exact h .U r
  .refine dX (h (.L (k+1)) r) fun c r1 _ l1 s1=>?_;exact(h (.Lp k c) r1).up l1 (by simp only[PK.size]at *;omega)
 | Lp k a=>
  simp only[aX];cases h1:(if k=9 then acc dF r else none)with
  | some r1=>
   have a1:r1.length<r.length:=by
    split at h1
    .exact(az h1).2
    .cases h1
   refine dX (k:=bN a) ((h (.In a) r1).up (by omega) (by simp only[PK.size];omega)) fun c r2 _ l2 s2=>?_;exact(h (.Lp k c) r2).up l2 (by simp only[PK.size]at *;omega)
  | none=>
   simp only;cases h2:dw k r with
   | none=>exact⟨Pf _,by simp only[PK.size];omega⟩
   | some p=>
    obtain⟨o,ex,r1⟩:=p;have a1:=(mI h2).2;refine dX (k:=0) ((h (.L (k+1)) r1).up (by omega) (by simp only[PK.size];omega)) fun c r2 e2 l2 s2=>?_;have hh:=h (.L (k+1)) r1;rw[e2]at hh;obtain⟨b1,b2⟩:=hh;simp only[PK.size]at b2;refine(h (.Lp k _) r2).up l2 ?_;simp only[PK.size];split<;>(simp only[bh,bN,bH];omega)
 | In a=>
  simp only[aX];cases h1:acc (ah 123) r with
  | none=>exact fz
  | some r1=>
   have a1:=(az h1).2;exact(h (.Ip [a]) r1).up (by omega) (by simp only[PK.size,bH];omega)
 | Ip args=>
  simp only[aX];refine dX (k:=0) ((h .W r).up (Pf _) (by simp only[PK.size];omega)) fun lo r1 _ l1 s1=>?_;cases h1:acc (bL 46 46) r1 with
  | none=>exact fz
  | some r2=>
   have a1:=(az h1).2;refine dX (k:=0) ((h .W r2).up (by omega) (by simp only[PK.size];omega)) fun hi r3 e3 l3 s3=>?_;have hh:=h .W r2;rw[e3]at hh;obtain⟨b1,b2⟩:=hh;simp only[PK.size]at b2;cases h2:acc (ah 44) r3 with
   | some r4=>
    have a2:=(az h2).2;exact(h (.Ip _) r4).up (by omega) (by simp only[PK.size,pq,bH];omega)
   | none=>
    simp only;cases h3:acc (ah 125) r3 with
    | none=>exact fz
    | some r5=>
     have a3:=(az h3).2;exact⟨by omega,by simp only[PK.size,bh,bN,pq,bH];omega⟩
 | U=>
  have one:∀{m r1} (o:Int),acc m r=some r1->Sz 0 r ((rec .U r1).bind fun a r2=>.ok (bh o [a]) r2):=fun{m r1} o h1=>by
   have a1:=(az h1).2;refine dX (k:=0) ((h .U r1).up (by omega) (by simp only[PK.size];omega)) fun a r3 e3 l3 s3=>?_;have hh:=h .U r1;rw[e3]at hh;obtain⟨b1,b2⟩:=hh;simp only[PK.size]at b2;exact⟨by omega,by simp only[bh,bN,bH];omega⟩
  simp only[aX];cases h1:acc (ah 33) r with
  | some r1=>exact one 4 h1
  | none=>
  cases h2:acc (ah 126) r with
  | some r1=>exact one 5 h2
  | none=>
  cases h3:acc (ah 45) r with
  | some r1=>exact one 6 h3
  | none=>exact h .P r
 | P=>exact Fe h r
theorem sp:∀(n:Nat) (k:PK) (r:List Tok),Sz k.size r (fu n k r)
 | 0,_,_=>trivial
 | n+1,k,r=>Ff (sp n) k r
theorem BH{r:List Tok}{e:Ex}{r1:List Tok}(h:par .W r=.ok e r1):bN e≤r.length:=by
 have:=sp (40*r.length+20) .W r;unfold par at h;rw[h]at this;have h2:=this.2;simp only[PK.size]at h2;omega
def NB(x:PR):Prop:=match x with
 | .bad c r=>(c=6/\r=[])\/((c=3\/c=5)/\r≠[])
 | _=>True
theorem dl{x:PR}{f:Ex->List Tok->PR}(h:NB x)(hf:∀e r,NB (f e r)):NB (x.bind f):=by
 cases x with
 | out=>trivial
 | bad c r=>exact h
 | ok e r=>exact hf e r
theorem fx{r:List Tok}:NB (dZ r):=by
 cases r with
 | nil=>exact .inl ⟨rfl,rfl⟩
 | cons t r=>exact .inr ⟨.inr rfl,by simp⟩
theorem EB{r r1:List Tok}{n:Int}(h:cm r=some (n,r1)):NB (.bad 3 r):=by
 obtain⟨t,rfl,-⟩:=rC h;exact .inr ⟨.inl rfl,by simp⟩
theorem F5{rec:PK->List Tok->PR}(h:∀k r,NB (rec k r))(k:PK)(r:List Tok):NB (aX rec k r):=by
 cases k with
 | W=>
  simp only[aX];refine dl (h _ _) fun c r1=>?_;cases acc (ah 63) r1 with
  | none=>trivial
  | some r2=>
   refine dl (h _ _) fun a r3=>?_;cases acc (ah 58) r3 with
   | none=>exact fx
   | some r4=>exact dl (h _ _) fun b r5=>trivial
 | I=>
  simp only[aX];refine dl (h _ _) fun c r1=>?_;cases acc (bL 61 62) r1 with
  | none=>trivial
  | some r2=>exact dl (h _ _) fun b r5=>trivial
 | L k=>
  simp only[aX];split
  .exact h _ _
  .exact dl (h _ _) fun _ _=>h _ _
 | Lp k a=>
  simp only[aX];cases (if k=9 then acc dF r else none)with
  | some r1=>exact dl (h _ _) fun _ _=>h _ _
  | none=>
   simp only;cases dw k r with
   | none=>trivial
   | some p=>exact dl (h _ _) fun _ _=>h _ _
 | In a=>
  simp only[aX];cases acc (ah 123) r with
  | none=>exact fx
  | some r1=>exact h _ _
 | Ip args=>
  simp only[aX];refine dl (h _ _) fun lo r1=>?_;cases acc (bL 46 46) r1 with
  | none=>exact fx
  | some r2=>
   refine dl (h _ _) fun hi r3=>?_;cases acc (ah 44) r3 with
   | some r4=>exact h _ _
   | none=>
    simp only;cases acc (ah 125) r3 with
    | some r5=>trivial
    | none=>exact fx
 | U=>
  simp only[aX];cases acc (ah 33) r with
  | some r1=>exact dl (h _ _) fun _ _=>trivial
  | none=>
  cases acc (ah 126) r with
  | some r1=>exact dl (h _ _) fun _ _=>trivial
  | none=>
  cases acc (ah 45) r with
  | some r1=>exact dl (h _ _) fun _ _=>trivial
  | none=>exact h _ _
 | P=>
  show NB (fd rec r);unfold fd;cases acc (ah 40) r with
  | some r1=>
   refine dl (h _ _) fun e r2=>?_;cases acc (ah 41) r2 with
   | some r3=>trivial
   | none=>exact fx
  | none=>
  cases hn:cm r with
  | some p=>simp only;split<;>first|trivial|exact EB (n:=p.1) (r1:=p.2) hn
  | none=>
  cases bD r with
  | none=>exact fx
  | some p=>
  obtain⟨s,r1⟩:=p;simp only;cases (if s=qu then acc (ah 40) r1 else none)with
  | some r2=>
   simp only;cases bD r2 with
   | none=>exact fx
   | some p=>
    simp only;cases acc (ah 41) p.2 with
    | some r4=>trivial
    | none=>exact fx
  | none=>
  simp only;cases (if s=jS then acc (ah 40) r1 else none)with
  | some r2=>
   refine dl (h _ _) fun e r3=>?_;cases acc (ah 41) r3 with
   | some r4=>trivial
   | none=>exact fx
  | none=>
  simp only;cases acc (ah 91) r1 with
  | some r2=>
   refine dl (h _ _) fun e r3=>?_;cases acc (ah 93) r3 with
   | some r4=>trivial
   | none=>exact fx
  | none=>
  simp only;cases acc (ah 64) r1 with
  | some r2=>
   simp only;cases hn:cm r2 with
   | none=>exact fx
   | some p=>simp only;split<;>first|trivial|exact EB (n:=p.1) (r1:=p.2) hn
  | none=>trivial
theorem yf:∀(n:Nat) (k:PK) (r:List Tok),NB (fu n k r)
 | 0,_,_=>trivial
 | n+1,k,r=>F5 (yf n) k r
theorem tu{k:PK}{r r1:List Tok}{c:Int}(h:par k r=.bad c r1):c=6\/((c=3\/c=5)/\r1≠[]):=by
 have h1:=yf (40*r.length+20) k r;unfold par at h;rw[h]at h1;exact h1.imp And.left id
theorem rK{k:PK}{r r1:List Tok}{c:Int}(h:par k r=.bad c r1):c≠0/\r1.length≤r.length:=by
 have h1:=tu h;have h2:=jI k r;rw[h]at h2;exact⟨by omega,h2.length_le⟩
end Go.Proofs.YtnhphlmblenapaaGreatDoor
