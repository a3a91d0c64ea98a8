import Derived.Test.YthekkgfmagliiaaGreatDoorLq
set_option linter.unusedVariables false
set_option linter.unusedSimpArgs false
set_option linter.unusedSectionVars false
open List renaming cons_append->Rs,map_cons->Ru,map->Rv
open Nat renaming zero_le->Rw,le_refl->Rx,le_succ_of_le->Ry
open Option renaming map_some->Rz,map_none->RA
namespace Go.Proofs.YthekkgfmagliiaaGreatDoor
open Go.RowKit
theorem cU{m:ByteArray}{r r1:List Tok}(q:List Tok)(h:acc m r=some r1):acc m (r++q)=some (r1++q):=by
 cases r with
 | nil=>cases h
 | cons t r=>
  simp only[acc,Rs]at h ⊢;split at h
  .rename_i hc;cases h;rw[if_pos hc]
  .cases h
theorem iJ{m:ByteArray}{r q:List Tok}(h:acc m r=none)(hq:acc m q=none):acc m (r++q)=none:=by
 cases r with
 | nil=>exact hq
 | cons t r=>
  simp only[acc,Rs]at h ⊢;split at h
  .cases h
  .rename_i hc;rw[if_neg hc]
theorem gW{m:ByteArray}{t:Tok}{r q:List Tok}(h:acc m (t::r)=none):acc m (t::r++q)=none:=by
 simp only[acc,Rs]at h ⊢;split at h
 .cases h
 .rename_i hc;rw[if_neg hc]
theorem ow{r r1:List Tok}{s:ByteArray}(q:List Tok)(h:bw r=some (s,r1)):bw (r++q)=some (s,r1++q):=by
 cases r with
 | nil=>cases h
 | cons t r=>
  simp only[bw,Rs]at h ⊢;split at h
  .rename_i hc;cases h;rw[if_pos hc]
  .cases h
theorem rt{r r1:List Tok}{n:Int}(q:List Tok)(h:bW r=some (n,r1)):bW (r++q)=some (n,r1++q):=by
 cases r with
 | nil=>cases h
 | cons t r=>
  simp only[bW,Rs]at h ⊢;split at h
  .rename_i hc;cases h;rw[if_pos hc]
  .cases h
theorem Br{t:Tok}{r q:List Tok}(h:bW (t::r)=none):bW (t::r++q)=none:=by
 simp only[bW,Rs]at h ⊢;split at h
 .cases h
 .rename_i hc;rw[if_neg hc]
theorem ol{k:Nat}{t:Tok}{r q:List Tok}:∀l,fy l k (t::r++q)=(fy l k (t::r)).map fun p=>(p.1,p.2++q)
 | []=>rfl
 | b::l=>by
  simp only[fy];split
  .cases h:acc b.1 (t::r)with
   | some r1=>rw[cU q h];rfl
   | none=>rw[gW h];exact ol l
  .exact ol l
theorem BP{k:Nat}{t:Tok}{r q:List Tok}:dI k (t::r++q)=(dI k (t::r)).map fun p=>(p.1,p.2.1,p.2.2++q):=by
 unfold dI;rw[ol];cases fy ci k (t::r)with
 | some p=>rfl
 | none=>
  simp only[RA];split
  .cases h:acc (aa 62) (t::r)with
   | some r1=>rw[cU q h];rfl
   | none=>
    rw[gW h];simp only;cases h2:acc (aF 62 61) (t::r)with
    | some r1=>rw[cU q h2];rfl
    | none=>rw[gW h2];rfl
  .rfl
theorem dW{x:PR}{f:Ex->List Tok->PR}{e:Ex}{r:List Tok}(h:x.bind f=.ok e r):∃a r1,x=.ok a r1/\f a r1=.ok e r:=by
 cases x with
 | out=>cases h
 | bad c r=>cases h
 | ok a r1=>exact⟨a,r1,rfl,h⟩
theorem fR{r r1:List Tok}{e:Ex}:ey r≠.ok e r1:=by cases r<;>(intro h;cases h)
def PK.good:PK->Prop
 | .L k=>3≤k
 | .Lp k _=>3≤k
 | _=>True
theorem Fl{rec:PK->List Tok->PR}{q:List Tok}(hq:Stop 1 q)(h:∀k r e r1,PK.good k->rec k r=.ok e r1->par k (r++q)=.ok e (r1++q)){r:List Tok}{e:Ex}{r9:List Tok}(hp:dP rec r=.ok e r9):dP par (r++q)=.ok e (r9++q):=by
 unfold dP at hp ⊢;cases r with
 | nil=>cases hp
 | cons t r=>
 cases h1:acc (aa 40) (t::r)with
 | some r1=>
  rw[h1]at hp;rw[cU q h1];simp only at hp ⊢;obtain⟨a,r2,g1,g2⟩:=dW hp;rw[h _ _ _ _ (by trivial) g1];simp only[PR.bind];cases h2:acc (aa 41) r2 with
  | some r3=>rw[h2]at g2;rw[cU q h2];cases g2;rfl
  | none=>rw[h2]at g2;exact absurd g2 fR
 | none=>
 rw[h1]at hp;rw[gW h1];simp only at hp ⊢;cases h2:bW (t::r)with
 | some p=>
  obtain⟨n,r1⟩:=p;rw[h2]at hp;rw[rt q h2];simp only at hp ⊢;split at hp
  .cases hp
  .rename_i hc;rw[if_neg hc];cases hp;rfl
 | none=>
 rw[h2]at hp;rw[Br h2];simp only at hp ⊢;cases h3:bw (t::r)with
 | none=>rw[h3]at hp;exact absurd hp fR
 | some p=>
 obtain⟨s,r1⟩:=p;rw[h3]at hp;rw[ow q h3];simp only at hp ⊢;have hA:∀{m r2},acc m r1=some r2->acc m (r1++q)=some (r2++q):=fun h=>cU q h
 have hN:∀(c:Prop) [Decidable c],(if c then acc (aa 40) r1 else none)=none->(if c then acc (aa 40) (r1++q)else none)=none:=fun c _ hh=>by
  split
  .rename_i hc;rw[if_pos hc]at hh;exact iJ hh hq.p
  .rfl
 have hS:∀(c:Prop) [Decidable c] {r2},(if c then acc (aa 40) r1 else none)=some r2->(if c then acc (aa 40) (r1++q)else none)=some (r2++q):=fun c _ r2 hh=>by
  split
  .rename_i hc;rw[if_pos hc]at hh;exact hA hh
  .rename_i hc;rw[if_neg hc]at hh;cases hh
 cases h4:(if s=jS then acc (aa 40) r1 else none)with
 | some r2=>
  rw[h4]at hp;rw[hS _ h4];simp only at hp ⊢;cases h5:bw r2 with
  | none=>rw[h5]at hp;exact absurd hp fR
  | some p=>
   obtain⟨a,r3⟩:=p;rw[h5]at hp;rw[ow q h5];simp only at hp ⊢;cases h6:acc (aa 41) r3 with
   | some r4=>rw[h6]at hp;rw[cU q h6];cases hp;rfl
   | none=>rw[h6]at hp;exact absurd hp fR
 | none=>
 rw[h4]at hp;rw[hN _ h4];simp only at hp ⊢;cases h5:(if s=fz then acc (aa 40) r1 else none)with
 | some r2=>
  rw[h5]at hp;rw[hS _ h5];simp only at hp ⊢;obtain⟨a,r3,g1,g2⟩:=dW hp;rw[h _ _ _ _ (by trivial) g1];simp only[PR.bind];cases h6:acc (aa 41) r3 with
  | some r4=>rw[h6]at g2;rw[cU q h6];cases g2;rfl
  | none=>rw[h6]at g2;exact absurd g2 fR
 | none=>
 rw[h5]at hp;rw[hN _ h5];simp only at hp ⊢;cases h6:acc (aa 91) r1 with
 | some r2=>
  rw[h6]at hp;rw[hA h6];simp only at hp ⊢;obtain⟨a,r3,g1,g2⟩:=dW hp;rw[h _ _ _ _ (by trivial) g1];simp only[PR.bind];cases h7:acc (aa 93) r3 with
  | some r4=>rw[h7]at g2;rw[cU q h7];cases g2;rfl
  | none=>rw[h7]at g2;exact absurd g2 fR
 | none=>
 rw[h6]at hp;rw[iJ h6 hq.b];simp only at hp ⊢;cases h7:acc (aa 64) r1 with
 | some r2=>
  rw[h7]at hp;rw[hA h7];simp only at hp ⊢;cases h8:bW r2 with
  | none=>rw[h8]at hp;exact absurd hp fR
  | some p=>
   obtain⟨n,r3⟩:=p;rw[h8]at hp;rw[rt q h8];simp only at hp ⊢;split at hp
   .cases hp
   .rename_i hc;rw[if_neg hc];cases hp;rfl
 | none=>
  rw[h7]at hp;rw[iJ h7 hq.a];simp only at hp ⊢;cases hp;rfl
theorem G1{rec:PK->List Tok->PR}{q:List Tok}(hq:Stop 1 q)(h:∀k r e r1,PK.good k->rec k r=.ok e r1->par k (r++q)=.ok e (r1++q))(h0:∀e r1,rec .P []≠.ok e r1)(k:PK)(hk:k.good){r:List Tok}{e:Ex}{r9:List Tok}(hp:aP rec k r=.ok e r9):aP par k (r++q)=.ok e (r9++q):=by
 cases k with
 | W=>
  simp only[aP]at hp ⊢;obtain⟨c,r1,g1,g2⟩:=dW hp;rw[h _ _ _ _ (by trivial) g1,PR.bind];cases h1:acc (aa 63) r1 with
  | none=>rw[h1]at g2;rw[iJ h1 (hq.q (by omega))];cases g2;rfl
  | some r2=>
   rw[h1]at g2;rw[cU q h1];simp only at g2 ⊢;obtain⟨a,r3,k1,k2⟩:=dW g2;rw[h _ _ _ _ (by trivial) k1,PR.bind];cases h2:acc (aa 58) r3 with
   | none=>rw[h2]at k2;exact absurd k2 fR
   | some r4=>
    rw[h2]at k2;rw[cU q h2];simp only at k2 ⊢;obtain⟨b,r5,l1,l2⟩:=dW k2;rw[h _ _ _ _ (by trivial) l1,PR.bind];cases l2;rfl
 | I=>
  simp only[aP]at hp ⊢;obtain⟨c,r1,g1,g2⟩:=dW hp;rw[h _ _ _ _ (by exact Rx 3) g1,PR.bind];cases h1:acc (aF 61 62) r1 with
  | none=>rw[h1]at g2;rw[iJ h1 (hq.im (by omega))];cases g2;rfl
  | some r2=>
   rw[h1]at g2;rw[cU q h1];simp only at g2 ⊢;obtain⟨a,r3,k1,k2⟩:=dW g2;rw[h _ _ _ _ (by trivial) k1,PR.bind];cases k2;rfl
 | L k=>
  simp only[aP]at hp ⊢;split at hp
  .rename_i hc;rw[if_pos hc];exact h _ _ _ _ (by trivial) hp
  .rename_i hc;rw[if_neg hc];obtain⟨c,r1,g1,g2⟩:=dW hp;rw[h _ _ _ _ (by show 3≤k+1;exact Ry hk) g1,PR.bind];exact h _ _ _ _ hk g2
 | Lp k a=>
  simp only[aP]at hp ⊢;cases h1:(if k=9 then acc bR r else none)with
  | some r1=>
   rw[h1]at hp
   have:(if k=9 then acc bR (r++q)else none)=some (r1++q):=by
    split
    .rename_i hc;rw[if_pos hc]at h1;exact cU q h1
    .rename_i hc;rw[if_neg hc]at h1;cases h1
   rw[this];simp only at hp ⊢;obtain⟨c,r2,g1,g2⟩:=dW hp;rw[h _ _ _ _ (by trivial) g1,PR.bind];exact h _ _ _ _ hk g2
  | none=>
   rw[h1]at hp
   have:(if k=9 then acc bR (r++q)else none)=none:=by
    split
    .rename_i hc;rw[if_pos hc]at h1;exact iJ h1 (hq.ins (by omega))
    .rfl
   rw[this];simp only at hp ⊢;cases r with
   | nil=>
    have hk3:3≤k:=hk;have e1:dI k []=none:=(E1 1).op k (by omega) hk3;rw[e1]at hp;simp only at hp;cases hp;rw[List.nil_append,hq.op k (by omega) hk3]
   | cons t r=>
    rw[BP];cases h2:dI k (t::r)with
    | none=>rw[h2]at hp;cases hp;rfl
    | some p=>
     obtain⟨o,ex,r1⟩:=p;rw[h2]at hp;simp only[Rz]at hp ⊢;obtain⟨c,r2,g1,g2⟩:=dW hp;rw[h _ _ _ _ (by show 3≤k+1;exact Ry hk) g1,PR.bind];exact h _ _ _ _ hk g2
 | In a=>
  simp only[aP]at hp ⊢;cases h1:acc (aa 123) r with
  | none=>rw[h1]at hp;exact absurd hp fR
  | some r1=>rw[h1]at hp;rw[cU q h1];exact h _ _ _ _ (by trivial) hp
 | Ip args=>
  simp only[aP]at hp ⊢;obtain⟨lo,r1,g1,g2⟩:=dW hp;rw[h _ _ _ _ (by trivial) g1,PR.bind];cases h1:acc (aF 46 46) r1 with
  | none=>rw[h1]at g2;exact absurd g2 fR
  | some r2=>
   rw[h1]at g2;rw[cU q h1];simp only at g2 ⊢;obtain⟨hi,r3,k1,k2⟩:=dW g2;rw[h _ _ _ _ (by trivial) k1,PR.bind];cases h2:acc (aa 44) r3 with
   | some r4=>rw[h2]at k2;rw[cU q h2];exact h _ _ _ _ (by trivial) k2
   | none=>
    rw[h2]at k2;simp only at k2;cases h3:acc (aa 125) r3 with
    | none=>rw[h3]at k2;exact absurd k2 fR
    | some r5=>
     rw[h3]at k2
     have hne:acc (aa 44) (r3++q)=none:=by
      cases r3 with
      | nil=>cases h3
      | cons t r3=>exact gW h2
     rw[hne,cU q h3];cases k2;rfl
 | U=>
  simp only[aP]at hp ⊢;cases r with
  | nil=>
   exact absurd hp (h0 _ _)
  | cons t r=>
   cases h1:acc (aa 33) (t::r)with
   | some r1=>
    rw[h1]at hp;rw[cU q h1];simp only at hp ⊢;obtain⟨c,r2,g1,g2⟩:=dW hp;rw[h _ _ _ _ (by trivial) g1,PR.bind];cases g2;rfl
   | none=>
   rw[h1]at hp;rw[gW h1];simp only at hp ⊢;cases h2:acc (aa 126) (t::r)with
   | some r1=>
    rw[h2]at hp;rw[cU q h2];simp only at hp ⊢;obtain⟨c,r2,g1,g2⟩:=dW hp;rw[h _ _ _ _ (by trivial) g1,PR.bind];cases g2;rfl
   | none=>
   rw[h2]at hp;rw[gW h2];simp only at hp ⊢;cases h3:acc (aa 45) (t::r)with
   | some r1=>
    rw[h3]at hp;rw[cU q h3];simp only at hp ⊢;obtain⟨c,r2,g1,g2⟩:=dW hp;rw[h _ _ _ _ (by trivial) g1,PR.bind];cases g2;rfl
   | none=>
    rw[h3]at hp;rw[gW h3];exact h _ _ _ _ (by trivial) hp
 | P=>exact Fl hq h hp
theorem ww{q:List Tok}(hq:Stop 1 q):∀(n:Nat) (k:PK) (r:List Tok) (e:Ex) (r1:List Tok),k.good->fW n k r=.ok e r1->par k (r++q)=.ok e (r1++q)
 | 0,_,_,_,_,_,h=>by cases h
 | n+1,k,r,e,r1,hk,h=>by
  rw[c6];refine G1 hq (fun k r e r1 hk h=>ww hq n k r e r1 hk h) (fun e r1 h=>?_) k hk h;cases n with
  | zero=>cases h
  | succ n=>cases h
def PR.mapT(f:Tok->Tok):PR->PR
 | .out=>.out
 | .bad c r=>.bad c (r.map f)
 | .ok e r=>.ok e (r.map f)
structure SameTok(f:Tok->Tok):Prop where
 kind:∀t,(f t).kind=t.kind
 num:∀t,(f t).num=t.num
 text:∀t,(f t).text=t.text
section
variable {f : Tok -> Tok} (hf : SameTok f)
include hf
theorem nU(t:Tok):bl (f t)=bl t:=by unfold bl;rw[hf.kind,hf.num,hf.text]
theorem cD(m:ByteArray)(r:List Tok):acc m (r.map f)=(acc m r).map (Rv f):=by
 cases r with
 | nil=>rfl
 | cons t r=>
  simp only[acc,Ru,nU hf,hf.kind,hf.text];split<;>rfl
theorem lB(r:List Tok):bw (r.map f)=(bw r).map fun p=>(p.1,p.2.map f):=by
 cases r with
 | nil=>rfl
 | cons t r=>
  simp only[bw,Ru,nU hf,hf.kind,hf.text];split<;>rfl
theorem mT(r:List Tok):bW (r.map f)=(bW r).map fun p=>(p.1,p.2.map f):=by
 cases r with
 | nil=>rfl
 | cons t r=>
  simp only[bW,Ru,nU hf,hf.kind,hf.num];split<;>rfl
theorem oR(k:Nat)(r:List Tok):∀l,fy l k (r.map f)=(fy l k r).map fun p=>(p.1,p.2.map f)
 | []=>rfl
 | b::l=>by
  simp only[fy,cD hf];split
  .cases acc b.1 r with
   | some r1=>rfl
   | none=>exact oR k r l
  .exact oR k r l
theorem Cz(k:Nat)(r:List Tok):dI k (r.map f)=(dI k r).map fun p=>(p.1,p.2.1,p.2.2.map f):=by
 unfold dI;rw[oR hf,cD hf,cD hf];cases fy ci k r with
 | some p=>rfl
 | none=>
  simp only[RA];split
  .cases acc (aa 62) r with
   | some r1=>rfl
   | none=>
    simp only[RA];cases acc (aF 62 61) r with
    | some r1=>rfl
    | none=>rfl
  .rfl
theorem fd(r:List Tok):ey (r.map f)=(ey r).mapT f:=by cases r<;>rfl
omit hf in
theorem dm{x:PR}{g h:Ex->List Tok->PR}(hg:∀e r,h e (r.map f)=(g e r).mapT f):(x.mapT f).bind h=(x.bind g).mapT f:=by
 cases x with
 | out=>rfl
 | bad c r=>rfl
 | ok e r=>exact hg e r
theorem Fh{rec:PK->List Tok->PR}(h:∀k r,rec k (r.map f)=(rec k r).mapT f)(r:List Tok):dP rec (r.map f)=(dP rec r).mapT f:=by
 have hif:∀(c:Prop) [Decidable c] (m:ByteArray) (r:List Tok),(if c then acc m (r.map f)else none)=(if c then acc m r else none).map (Rv f):=fun c _ m r=>by split<;>simp[cD hf]
 unfold dP;rw[cD hf,mT hf,lB hf];cases acc (aa 40) r with
 | some r1=>
  simp only[Rz,h];refine dm fun e r2=>?_;rw[cD hf];cases acc (aa 41) r2 with
  | some r3=>rfl
  | none=>exact fd hf r2
 | none=>
 simp only[RA];cases bW r with
 | some p=>simp only[Rz];split<;>rfl
 | none=>
 simp only[RA];cases bw r with
 | none=>exact fd hf r
 | some p=>
 obtain⟨s,r1⟩:=p;simp only[Rz,hif];cases (if s=jS then acc (aa 40) r1 else none)with
 | some r2=>
  simp only[Rz];rw[lB hf];cases bw r2 with
  | none=>exact fd hf r2
  | some p=>
   obtain⟨a,r3⟩:=p;simp only[Rz];rw[cD hf];cases acc (aa 41) r3 with
   | some r4=>rfl
   | none=>exact fd hf r3
 | none=>
 simp only[RA];cases (if s=fz then acc (aa 40) r1 else none)with
 | some r2=>
  simp only[Rz,h];refine dm fun e r3=>?_;rw[cD hf];cases acc (aa 41) r3 with
  | some r4=>rfl
  | none=>exact fd hf r3
 | none=>
 simp only[RA];rw[cD hf,cD hf];cases acc (aa 91) r1 with
 | some r2=>
  simp only[Rz,h];refine dm fun e r3=>?_;rw[cD hf];cases acc (aa 93) r3 with
  | some r4=>rfl
  | none=>exact fd hf r3
 | none=>
 simp only[RA];cases acc (aa 64) r1 with
 | some r2=>
  simp only[Rz];rw[mT hf];cases bW r2 with
  | none=>exact fd hf r2
  | some p=>simp only[Rz];split<;>rfl
 | none=>rfl
theorem EV{rec:PK->List Tok->PR}(h:∀k r,rec k (r.map f)=(rec k r).mapT f)(k:PK)(r:List Tok):aP rec k (r.map f)=(aP rec k r).mapT f:=by
 cases k with
 | W=>
  simp only[aP,h];refine dm fun c r1=>?_;rw[cD hf];cases acc (aa 63) r1 with
  | none=>rfl
  | some r2=>
   simp only[Rz,h];refine dm fun a r3=>?_;rw[cD hf];cases acc (aa 58) r3 with
   | none=>exact fd hf r3
   | some r4=>
    simp only[Rz,h];exact dm fun b r5=>rfl
 | I=>
  simp only[aP,h];refine dm fun c r1=>?_;rw[cD hf];cases acc (aF 61 62) r1 with
  | none=>rfl
  | some r2=>
   simp only[Rz,h];exact dm fun b r5=>rfl
 | L k=>
  simp only[aP,h];split
  .rfl
  .exact dm fun a r1=>h _ _
 | Lp k a=>
  simp only[aP];have hif:(if k=9 then acc bR (r.map f)else none)=(if k=9 then acc bR r else none).map (Rv f):=by split<;>simp[cD hf]
  rw[hif,Cz hf];cases (if k=9 then acc bR r else none)with
  | some r1=>
   simp only[Rz,h];exact dm fun b r2=>h _ _
  | none=>
   simp only[RA];cases dI k r with
   | none=>rfl
   | some p=>
    simp only[Rz,h];exact dm fun b r2=>h _ _
 | In a=>
  simp only[aP];rw[cD hf];cases acc (aa 123) r with
  | none=>exact fd hf r
  | some r1=>exact h _ _
 | Ip args=>
  simp only[aP,h];refine dm fun lo r1=>?_;rw[cD hf];cases acc (aF 46 46) r1 with
  | none=>exact fd hf r1
  | some r2=>
   simp only[Rz,h];refine dm fun hi r3=>?_;rw[cD hf,cD hf];cases acc (aa 44) r3 with
   | some r4=>exact h _ _
   | none=>
    simp only[RA];cases acc (aa 125) r3 with
    | some r5=>rfl
    | none=>exact fd hf r3
 | U=>
  simp only[aP];rw[cD hf,cD hf,cD hf];cases acc (aa 33) r with
  | some r1=>simp only[Rz,h];exact dm fun a r2=>rfl
  | none=>
  simp only[RA];cases acc (aa 126) r with
  | some r1=>simp only[Rz,h];exact dm fun a r2=>rfl
  | none=>
  simp only[RA];cases acc (aa 45) r with
  | some r1=>simp only[Rz,h];exact dm fun a r2=>rfl
  | none=>exact h _ _
 | P=>exact Fh hf h r
theorem wJ:∀(n:Nat) (k:PK) (r:List Tok),fW n k (r.map f)=(fW n k r).mapT f
 | 0,_,_=>rfl
 | n+1,k,r=>EV hf (wJ n) k r
theorem Aq(k:PK)(r:List Tok):par k (r.map f)=(par k r).mapT f:=by
 unfold par;rw[List.length_map];exact wJ hf _ k r
end
def PK.size:PK->Nat
 | .Lp _ a=>bF a
 | .In a=>bF a
 | .Ip l=>bt l
 | _=>0
theorem qP(a b:List Ex):bt (a++b)=bt a+bt b:=by
 induction a with
 | nil=>simp[bt]
 | cons x a ih=>simp only[Rs,bt,ih];omega
def Sz(k:Nat)(r:List Tok)(x:PR):Prop:=match x with
 | .ok e r1=>r1.length≤r.length/\bF e≤k+(r.length-r1.length)
 | _=>True
theorem eL{k k2:Nat}{r:List Tok}{x:PR}{f:Ex->List Tok->PR}(h:Sz k r x)(hf:∀e r1,x=.ok e r1->r1.length≤r.length->bF e≤k+(r.length-r1.length)->Sz k2 r (f e r1)):Sz k2 r (x.bind f):=by
 cases x with
 | out=>trivial
 | bad c r=>trivial
 | ok e r1=>exact hf e r1 rfl h.1 h.2
theorem gj{k:Nat}{r r1:List Tok}:Sz k r (ey r1):=by cases r1<;>trivial
theorem Sz.up{k k2:Nat}{r r2:List Tok}{x:PR}(h:Sz k r2 x)(h1:r2.length≤r.length)(h2:k≤k2+(r.length-r2.length)):Sz k2 r x:=by
 cases x with
 | out=>trivial
 | bad c r=>trivial
 | ok e r1=>exact⟨Nat.le_trans h.1 h1,by have:=h.1;have:=h.2;omega⟩
theorem Jh{rec:PK->List Tok->PR}(h:∀k r,Sz k.size r (rec k r))(r:List Tok):Sz 0 r (dP rec r):=by
 unfold dP;cases h1:acc (aa 40) r with
 | some r1=>
  have a1:=(aB h1).2;refine eL (k:=0) ((h .W r1).up (by omega) (Rw _)) fun e r2 _ l2 s2=>?_;cases h2:acc (aa 41) r2 with
  | some r3=>have:=(aB h2).2;exact⟨by omega,by omega⟩
  | none=>exact gj
 | none=>
 cases h2:bW r with
 | some p=>
  obtain⟨n,r1⟩:=p;have:=(kN h2).2;simp only;split
  .trivial
  .exact⟨by omega,by simp only[bF,bt];omega⟩
 | none=>
 cases h3:bw r with
 | none=>exact gj
 | some p=>
 obtain⟨s,r1⟩:=p;have n1:=(fK h3).2;simp only;cases h4:(if s=jS then acc (aa 40) r1 else none)with
 | some r2=>
  have a1:r2.length<r1.length:=by
   split at h4
   .exact(aB h4).2
   .cases h4
  simp only;cases h5:bw r2 with
  | none=>exact gj
  | some p=>
   obtain⟨a,r3⟩:=p;have n2:=(fK h5).2;simp only;cases h6:acc (aa 41) r3 with
   | some r4=>have:=(aB h6).2;exact⟨by omega,by simp only[bF,bt];omega⟩
   | none=>exact gj
 | none=>
 simp only;cases h5:(if s=fz then acc (aa 40) r1 else none)with
 | some r2=>
  have a1:r2.length<r1.length:=by
   split at h5
   .exact(aB h5).2
   .cases h5
  refine eL (k:=0) ((h .W r2).up (by omega) (Rw _)) fun e r3 e3 l3 s3=>?_;have hh:=h .W r2;rw[e3]at hh;have:=hh.2;have:=hh.1;cases h6:acc (aa 41) r3 with
  | some r4=>have:=(aB h6).2;exact⟨by omega,by simp only[aT,bF,bt,PK.size]at *;omega⟩
  | none=>exact gj
 | none=>
 simp only;cases h6:acc (aa 91) r1 with
 | some r2=>
  have a1:=(aB h6).2;refine eL (k:=0) ((h .W r2).up (by omega) (Rw _)) fun e r3 e3 l3 s3=>?_;have hh:=h .W r2;rw[e3]at hh;have:=hh.2;have:=hh.1;cases h7:acc (aa 93) r3 with
  | some r4=>have:=(aB h7).2;exact⟨by omega,by simp only[bF,bt,PK.size]at *;omega⟩
  | none=>exact gj
 | none=>
 simp only;cases h7:acc (aa 64) r1 with
 | some r2=>
  have a1:=(aB h7).2;simp only;cases h8:bW r2 with
  | none=>exact gj
  | some p=>
   obtain⟨n,r3⟩:=p;have:=(kN h8).2;simp only;split
   .trivial
   .exact⟨by omega,by simp only[bF,bt];omega⟩
 | none=>exact⟨by omega,by simp only[bF,bt];omega⟩
theorem Ic{rec:PK->List Tok->PR}(h:∀k r,Sz k.size r (rec k r))(k:PK)(r:List Tok):Sz k.size r (aP rec k r):=by
 cases k with
 | W=>
  simp only[aP];refine eL (h .I r) fun c r1 _ l1 s1=>?_;simp only[PK.size]at *;cases h1:acc (aa 63) r1 with
  | none=>exact⟨l1,s1⟩
  | some r2=>
   have a1:=(aB h1).2;refine eL (k:=0) ((h .W r2).up (by omega) (by simp only[PK.size];omega)) fun a r3 e3 l3 s3=>?_;have hh:=h .W r2;rw[e3]at hh;obtain⟨b1,b2⟩:=hh;simp only[PK.size]at b2;cases h2:acc (aa 58) r3 with
   | none=>exact gj
   | some r4=>
    have a2:=(aB h2).2;refine eL (k:=0) ((h .W r4).up (by omega) (by simp only[PK.size];omega)) fun b r5 e5 l5 s5=>?_;have hh:=h .W r4;rw[e5]at hh;obtain⟨d1,d2⟩:=hh;simp only[PK.size]at d2;exact⟨by omega,by simp only[aT,bF,bt];omega⟩
 | I=>
  simp only[aP];refine eL (h (.L 3) r) fun c r1 _ l1 s1=>?_;simp only[PK.size]at *;cases h1:acc (aF 61 62) r1 with
  | none=>exact⟨l1,s1⟩
  | some r2=>
   have a1:=(aB h1).2;refine eL (k:=0) ((h .I r2).up (by omega) (by simp only[PK.size];omega)) fun a r3 e3 l3 s3=>?_;have hh:=h .I r2;rw[e3]at hh;obtain⟨b1,b2⟩:=hh;simp only[PK.size]at b2;exact⟨by omega,by simp only[aT,bF,bt];omega⟩
 | L k=>
  simp only[aP];split
  .exact h .U r
  .refine eL (h (.L (k+1)) r) fun c r1 _ l1 s1=>?_;exact(h (.Lp k c) r1).up l1 (by simp only[PK.size]at *;omega)
 | Lp k a=>
  simp only[aP];cases h1:(if k=9 then acc bR r else none)with
  | some r1=>
   have a1:r1.length<r.length:=by
    split at h1
    .exact(aB h1).2
    .cases h1
   refine eL (k:=bF a) ((h (.In a) r1).up (by omega) (by simp only[PK.size];omega)) fun c r2 _ l2 s2=>?_;exact(h (.Lp k c) r2).up l2 (by simp only[PK.size]at *;omega)
  | none=>
   simp only;cases h2:dI k r with
   | none=>exact⟨Rx _,by simp only[PK.size];omega⟩
   | some p=>
    obtain⟨o,ex,r1⟩:=p;have a1:=(og h2).2;refine eL (k:=0) ((h (.L (k+1)) r1).up (by omega) (by simp only[PK.size];omega)) fun c r2 e2 l2 s2=>?_;have hh:=h (.L (k+1)) r1;rw[e2]at hh;obtain⟨b1,b2⟩:=hh;simp only[PK.size]at b2;refine(h (.Lp k _) r2).up l2 ?_;simp only[PK.size];split<;>(simp only[aT,bF,bt];omega)
 | In a=>
  simp only[aP];cases h1:acc (aa 123) r with
  | none=>exact gj
  | some r1=>
   have a1:=(aB h1).2;exact(h (.Ip [a]) r1).up (by omega) (by simp only[PK.size,bt];omega)
 | Ip args=>
  simp only[aP];refine eL (k:=0) ((h .W r).up (Rx _) (by simp only[PK.size];omega)) fun lo r1 _ l1 s1=>?_;cases h1:acc (aF 46 46) r1 with
  | none=>exact gj
  | some r2=>
   have a1:=(aB h1).2;refine eL (k:=0) ((h .W r2).up (by omega) (by simp only[PK.size];omega)) fun hi r3 e3 l3 s3=>?_;have hh:=h .W r2;rw[e3]at hh;obtain⟨b1,b2⟩:=hh;simp only[PK.size]at b2;cases h2:acc (aa 44) r3 with
   | some r4=>
    have a2:=(aB h2).2;exact(h (.Ip _) r4).up (by omega) (by simp only[PK.size,qP,bt];omega)
   | none=>
    simp only;cases h3:acc (aa 125) r3 with
    | none=>exact gj
    | some r5=>
     have a3:=(aB h3).2;exact⟨by omega,by simp only[PK.size,aT,bF,qP,bt];omega⟩
 | U=>
  have one:∀{m r1} (o:Int),acc m r=some r1->Sz 0 r ((rec .U r1).bind fun a r2=>.ok (aT o [a]) r2):=fun{m r1} o h1=>by
   have a1:=(aB h1).2;refine eL (k:=0) ((h .U r1).up (by omega) (by simp only[PK.size];omega)) fun a r3 e3 l3 s3=>?_;have hh:=h .U r1;rw[e3]at hh;obtain⟨b1,b2⟩:=hh;simp only[PK.size]at b2;exact⟨by omega,by simp only[aT,bF,bt];omega⟩
  simp only[aP];cases h1:acc (aa 33) r with
  | some r1=>exact one 4 h1
  | none=>
  cases h2:acc (aa 126) r with
  | some r1=>exact one 5 h2
  | none=>
  cases h3:acc (aa 45) r with
  | some r1=>exact one 6 h3
  | none=>exact h .P r
 | P=>exact Jh h r
theorem u6:∀(n:Nat) (k:PK) (r:List Tok),Sz k.size r (fW n k r)
 | 0,_,_=>trivial
 | n+1,k,r=>Ic (u6 n) k r
theorem Ge{r:List Tok}{e:Ex}{r1:List Tok}(h:par .W r=.ok e r1):bF e≤r.length:=by
 have:=u6 (40*r.length+20) .W r;unfold par at h;rw[h]at this;have h2:=this.2;simp only[PK.size]at h2;omega
def NB(x:PR):Prop:=match x with
 | .bad c r=>c=6\/((c=3\/c=5)/\r≠[])
 | _=>True
theorem dS{x:PR}{f:Ex->List Tok->PR}(h:NB x)(hf:∀e r,NB (f e r)):NB (x.bind f):=by
 cases x with
 | out=>trivial
 | bad c r=>exact h
 | ok e r=>exact hf e r
theorem gf{r:List Tok}:NB (ey r):=by
 cases r with
 | nil=>exact .inl rfl
 | cons t r=>exact .inr ⟨.inr rfl,by simp⟩
theorem GB{r r1:List Tok}{n:Int}(h:bW r=some (n,r1)):NB (.bad 3 r):=by
 obtain⟨t,rfl,-⟩:=sG h;exact .inr ⟨.inl rfl,by simp⟩
theorem IE{rec:PK->List Tok->PR}(h:∀k r,NB (rec k r))(k:PK)(r:List Tok):NB (aP rec k r):=by
 cases k with
 | W=>
  simp only[aP];refine dS (h _ _) fun c r1=>?_;cases acc (aa 63) r1 with
  | none=>trivial
  | some r2=>
   refine dS (h _ _) fun a r3=>?_;cases acc (aa 58) r3 with
   | none=>exact gf
   | some r4=>exact dS (h _ _) fun b r5=>trivial
 | I=>
  simp only[aP];refine dS (h _ _) fun c r1=>?_;cases acc (aF 61 62) r1 with
  | none=>trivial
  | some r2=>exact dS (h _ _) fun b r5=>trivial
 | L k=>
  simp only[aP];split
  .exact h _ _
  .exact dS (h _ _) fun _ _=>h _ _
 | Lp k a=>
  simp only[aP];cases (if k=9 then acc bR r else none)with
  | some r1=>exact dS (h _ _) fun _ _=>h _ _
  | none=>
   simp only;cases dI k r with
   | none=>trivial
   | some p=>exact dS (h _ _) fun _ _=>h _ _
 | In a=>
  simp only[aP];cases acc (aa 123) r with
  | none=>exact gf
  | some r1=>exact h _ _
 | Ip args=>
  simp only[aP];refine dS (h _ _) fun lo r1=>?_;cases acc (aF 46 46) r1 with
  | none=>exact gf
  | some r2=>
   refine dS (h _ _) fun hi r3=>?_;cases acc (aa 44) r3 with
   | some r4=>exact h _ _
   | none=>
    simp only;cases acc (aa 125) r3 with
    | some r5=>trivial
    | none=>exact gf
 | U=>
  simp only[aP];cases acc (aa 33) r with
  | some r1=>exact dS (h _ _) fun _ _=>trivial
  | none=>
  cases acc (aa 126) r with
  | some r1=>exact dS (h _ _) fun _ _=>trivial
  | none=>
  cases acc (aa 45) r with
  | some r1=>exact dS (h _ _) fun _ _=>trivial
  | none=>exact h _ _
 | P=>
  show NB (dP rec r);unfold dP;cases acc (aa 40) r with
  | some r1=>
   refine dS (h _ _) fun e r2=>?_;cases acc (aa 41) r2 with
   | some r3=>trivial
   | none=>exact gf
  | none=>
  cases hn:bW r with
  | some p=>simp only;split<;>first|trivial|exact GB (n:=p.1) (r1:=p.2) hn
  | none=>
  cases bw r with
  | none=>exact gf
  | some p=>
  obtain⟨s,r1⟩:=p;simp only;cases (if s=jS then acc (aa 40) r1 else none)with
  | some r2=>
   simp only;cases bw r2 with
   | none=>exact gf
   | some p=>
    simp only;cases acc (aa 41) p.2 with
    | some r4=>trivial
    | none=>exact gf
  | none=>
  simp only;cases (if s=fz then acc (aa 40) r1 else none)with
  | some r2=>
   refine dS (h _ _) fun e r3=>?_;cases acc (aa 41) r3 with
   | some r4=>trivial
   | none=>exact gf
  | none=>
  simp only;cases acc (aa 91) r1 with
  | some r2=>
   refine dS (h _ _) fun e r3=>?_;cases acc (aa 93) r3 with
   | some r4=>trivial
   | none=>exact gf
  | none=>
  simp only;cases acc (aa 64) r1 with
  | some r2=>
   simp only;cases hn:bW r2 with
   | none=>exact gf
   | some p=>simp only;split<;>first|trivial|exact GB (n:=p.1) (r1:=p.2) hn
  | none=>trivial
theorem z7:∀(n:Nat) (k:PK) (r:List Tok),NB (fW n k r)
 | 0,_,_=>trivial
 | n+1,k,r=>IE (z7 n) k r
theorem vu{k:PK}{r r1:List Tok}{c:Int}(h:par k r=.bad c r1):c=6\/((c=3\/c=5)/\r1≠[]):=by
 have h1:=z7 (40*r.length+20) k r;unfold par at h;rw[h]at h1;exact h1
theorem p7{k:PK}{r r1:List Tok}{c:Int}(h:par k r=.bad c r1):c≠0/\r1.length≤r.length:=by
 have h1:=vu h;have h2:=mO k r;rw[h]at h2;exact⟨by omega,h2.length_le⟩
end Go.Proofs.YthekkgfmagliiaaGreatDoor
