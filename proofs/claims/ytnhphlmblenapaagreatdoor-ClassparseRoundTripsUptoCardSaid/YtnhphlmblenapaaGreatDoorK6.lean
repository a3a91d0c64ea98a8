import Derived.Test.YtnhphlmblenapaaGreatDoorCw2
set_option linter.unusedVariables false
set_option linter.unusedSimpArgs false
set_option linter.unusedSectionVars false
set_option maxRecDepth 100000
open List renaming suffix_refl->TU,cons_append->TV,length_singleton->TW,length_nil->TX,length->TY,map_cons->TZ,length_append->T0,map->T3
open Nat renaming le_refl->T4,le_of_lt->T5,zero_le->T6,le_succ_of_le->T7,zero_add->T8,le_total->T9
open Option renaming map_some->Ua,map_none->Ub
namespace Go.Proofs.YtnhphlmblenapaaGreatDoor
open Go.RowKit
theorem cU{m:ByteArray}{r r1:List Tok}(q:List Tok)(h:acc m r=some r1):acc m (r++q)=some (r1++q):=by
 cases r with
 | nil=>cases h
 | cons t r=>
  simp only[acc,TV]at h ⊢;split at h
  .rename_i hc;cases h;rw[if_pos hc]
  .cases h
theorem kj{m:ByteArray}{r q:List Tok}(h:acc m r=none)(hq:acc m q=none):acc m (r++q)=none:=by
 cases r with
 | nil=>exact hq
 | cons t r=>
  simp only[acc,TV]at h ⊢;split at h
  .cases h
  .rename_i hc;rw[if_neg hc]
theorem iy{m:ByteArray}{t:Tok}{r q:List Tok}(h:acc m (t::r)=none):acc m (t::r++q)=none:=by
 simp only[acc,TV]at h ⊢;split at h
 .cases h
 .rename_i hc;rw[if_neg hc]
theorem uk{r r1:List Tok}{s:ByteArray}(q:List Tok)(h:bW r=some (s,r1)):bW (r++q)=some (s,r1++q):=by
 cases r with
 | nil=>cases h
 | cons t r=>
  simp only[bW,TV]at h ⊢;split at h
  .rename_i hc;cases h;rw[if_pos hc]
  .cases h
theorem yH{r r1:List Tok}{n:Int}(q:List Tok)(h:ct r=some (n,r1)):ct (r++q)=some (n,r1++q):=by
 cases r with
 | nil=>cases h
 | cons t r=>
  simp only[ct,TV]at h ⊢;split at h
  .rename_i hc;cases h;rw[if_pos hc]
  .cases h
theorem ET{t:Tok}{r q:List Tok}(h:ct (t::r)=none):ct (t::r++q)=none:=by
 simp only[ct,TV]at h ⊢;split at h
 .cases h
 .rename_i hc;rw[if_neg hc]
theorem qm{k:Nat}{t:Tok}{r q:List Tok}:∀l,fP l k (t::r++q)=(fP l k (t::r)).map fun p=>(p.1,p.2++q)
 | []=>rfl
 | b::l=>by
  simp only[fP];split
  .cases h:acc b.1 (t::r)with
   | some r1=>rw[cU q h];rfl
   | none=>rw[iy h];exact qm l
  .exact qm l
theorem Dh{k:Nat}{t:Tok}{r q:List Tok}:dH k (t::r++q)=(dH k (t::r)).map fun p=>(p.1,p.2.1,p.2.2++q):=by
 unfold dH;rw[qm];cases fP ce k (t::r)with
 | some p=>rfl
 | none=>
  simp only[Ub];split
  .cases h:acc (aa 62) (t::r)with
   | some r1=>rw[cU q h];rfl
   | none=>
    rw[iy h];simp only;cases h2:acc (aE 62 61) (t::r)with
    | some r1=>rw[cU q h2];rfl
    | none=>rw[iy h2];rfl
  .rfl
theorem dV{x:PR}{f:Ex->List Tok->PR}{e:Ex}{r:List Tok}(h:x.bind f=.ok e r):∃a r1,x=.ok a r1/\f a r1=.ok e r:=by
 cases x with
 | out=>cases h
 | bad c r=>cases h
 | ok a r1=>exact⟨a,r1,rfl,h⟩
theorem gQ{r r1:List Tok}{e:Ex}:eL r≠.ok e r1:=by cases r<;>(intro h;cases h)
def PK.good:PK->Prop
 | .L k=>3≤k
 | .Lp k _=>3≤k
 | _=>True
theorem Hw{rec:PK->List Tok->PR}{q:List Tok}(hq:Stop 1 q)(h:∀k r e r1,PK.good k->rec k r=.ok e r1->par k (r++q)=.ok e (r1++q)){r:List Tok}{e:Ex}{r9:List Tok}(hp:dO rec r=.ok e r9):dO par (r++q)=.ok e (r9++q):=by
 unfold dO at hp ⊢;cases r with
 | nil=>cases hp
 | cons t r=>
 cases h1:acc (aa 40) (t::r)with
 | some r1=>
  rw[h1]at hp;rw[cU q h1];simp only at hp ⊢;obtain⟨a,r2,g1,g2⟩:=dV hp;rw[h _ _ _ _ (by trivial) g1];simp only[PR.bind];cases h2:acc (aa 41) r2 with
  | some r3=>rw[h2]at g2;rw[cU q h2];cases g2;rfl
  | none=>rw[h2]at g2;exact absurd g2 gQ
 | none=>
 rw[h1]at hp;rw[iy h1];simp only at hp ⊢;cases h2:ct (t::r)with
 | some p=>
  obtain⟨n,r1⟩:=p;rw[h2]at hp;rw[yH q h2];simp only at hp ⊢;split at hp
  .cases hp
  .rename_i hc;rw[if_neg hc];cases hp;rfl
 | none=>
 rw[h2]at hp;rw[ET h2];simp only at hp ⊢;cases h3:bW (t::r)with
 | none=>rw[h3]at hp;exact absurd hp gQ
 | some p=>
 obtain⟨s,r1⟩:=p;rw[h3]at hp;rw[uk q h3];simp only at hp ⊢;have hA:∀{m r2},acc m r1=some r2->acc m (r1++q)=some (r2++q):=fun h=>cU q h
 have hN:∀(c:Prop) [Decidable c],(if c then acc (aa 40) r1 else none)=none->(if c then acc (aa 40) (r1++q)else none)=none:=fun c _ hh=>by
  split
  .rename_i hc;rw[if_pos hc]at hh;exact kj hh hq.p
  .rfl
 have hS:∀(c:Prop) [Decidable c] {r2},(if c then acc (aa 40) r1 else none)=some r2->(if c then acc (aa 40) (r1++q)else none)=some (r2++q):=fun c _ r2 hh=>by
  split
  .rename_i hc;rw[if_pos hc]at hh;exact hA hh
  .rename_i hc;rw[if_neg hc]at hh;cases hh
 cases h4:(if s=mD then acc (aa 40) r1 else none)with
 | some r2=>
  rw[h4]at hp;rw[hS _ h4];simp only at hp ⊢;cases h5:bW r2 with
  | none=>rw[h5]at hp;exact absurd hp gQ
  | some p=>
   obtain⟨a,r3⟩:=p;rw[h5]at hp;rw[uk q h5];simp only at hp ⊢;cases h6:acc (aa 41) r3 with
   | some r4=>rw[h6]at hp;rw[cU q h6];cases hp;rfl
   | none=>rw[h6]at hp;exact absurd hp gQ
 | none=>
 rw[h4]at hp;rw[hN _ h4];simp only at hp ⊢;cases h5:(if s=gV then acc (aa 40) r1 else none)with
 | some r2=>
  rw[h5]at hp;rw[hS _ h5];simp only at hp ⊢;obtain⟨a,r3,g1,g2⟩:=dV hp;rw[h _ _ _ _ (by trivial) g1];simp only[PR.bind];cases h6:acc (aa 41) r3 with
  | some r4=>rw[h6]at g2;rw[cU q h6];cases g2;rfl
  | none=>rw[h6]at g2;exact absurd g2 gQ
 | none=>
 rw[h5]at hp;rw[hN _ h5];simp only at hp ⊢;cases h6:acc (aa 91) r1 with
 | some r2=>
  rw[h6]at hp;rw[hA h6];simp only at hp ⊢;obtain⟨a,r3,g1,g2⟩:=dV hp;rw[h _ _ _ _ (by trivial) g1];simp only[PR.bind];cases h7:acc (aa 93) r3 with
  | some r4=>rw[h7]at g2;rw[cU q h7];cases g2;rfl
  | none=>rw[h7]at g2;exact absurd g2 gQ
 | none=>
 rw[h6]at hp;rw[kj h6 hq.b];simp only at hp ⊢;cases h7:acc (aa 64) r1 with
 | some r2=>
  rw[h7]at hp;rw[hA h7];simp only at hp ⊢;cases h8:ct r2 with
  | none=>rw[h8]at hp;exact absurd hp gQ
  | some p=>
   obtain⟨n,r3⟩:=p;rw[h8]at hp;rw[yH q h8];simp only at hp ⊢;split at hp
   .cases hp
   .rename_i hc;rw[if_neg hc];cases hp;rfl
 | none=>
  rw[h7]at hp;rw[kj h7 hq.a];simp only at hp ⊢;cases hp;rfl
theorem FN{rec:PK->List Tok->PR}{q:List Tok}(hq:Stop 1 q)(h:∀k r e r1,PK.good k->rec k r=.ok e r1->par k (r++q)=.ok e (r1++q))(h0:∀e r1,rec .P []≠.ok e r1)(k:PK)(hk:k.good){r:List Tok}{e:Ex}{r9:List Tok}(hp:aJ rec k r=.ok e r9):aJ par k (r++q)=.ok e (r9++q):=by
 cases k with
 | W=>
  simp only[aJ]at hp ⊢;obtain⟨c,r1,g1,g2⟩:=dV hp;rw[h _ _ _ _ (by trivial) g1,PR.bind];cases h1:acc (aa 63) r1 with
  | none=>rw[h1]at g2;rw[kj h1 (hq.q (by omega))];cases g2;rfl
  | some r2=>
   rw[h1]at g2;rw[cU q h1];simp only at g2 ⊢;obtain⟨a,r3,k1,k2⟩:=dV g2;rw[h _ _ _ _ (by trivial) k1,PR.bind];cases h2:acc (aa 58) r3 with
   | none=>rw[h2]at k2;exact absurd k2 gQ
   | some r4=>
    rw[h2]at k2;rw[cU q h2];simp only at k2 ⊢;obtain⟨b,r5,l1,l2⟩:=dV k2;rw[h _ _ _ _ (by trivial) l1,PR.bind];cases l2;rfl
 | I=>
  simp only[aJ]at hp ⊢;obtain⟨c,r1,g1,g2⟩:=dV hp;rw[h _ _ _ _ (by exact T4 3) g1,PR.bind];cases h1:acc (aE 61 62) r1 with
  | none=>rw[h1]at g2;rw[kj h1 (hq.im (by omega))];cases g2;rfl
  | some r2=>
   rw[h1]at g2;rw[cU q h1];simp only at g2 ⊢;obtain⟨a,r3,k1,k2⟩:=dV g2;rw[h _ _ _ _ (by trivial) k1,PR.bind];cases k2;rfl
 | L k=>
  simp only[aJ]at hp ⊢;split at hp
  .rename_i hc;rw[if_pos hc];exact h _ _ _ _ (by trivial) hp
  .rename_i hc;rw[if_neg hc];obtain⟨c,r1,g1,g2⟩:=dV hp;rw[h _ _ _ _ (by show 3≤k+1;exact T7 hk) g1,PR.bind];exact h _ _ _ _ hk g2
 | Lp k a=>
  simp only[aJ]at hp ⊢;cases h1:(if k=9 then acc b9 r else none)with
  | some r1=>
   rw[h1]at hp
   have:(if k=9 then acc b9 (r++q)else none)=some (r1++q):=by
    split
    .rename_i hc;rw[if_pos hc]at h1;exact cU q h1
    .rename_i hc;rw[if_neg hc]at h1;cases h1
   rw[this];simp only at hp ⊢;obtain⟨c,r2,g1,g2⟩:=dV hp;rw[h _ _ _ _ (by trivial) g1,PR.bind];exact h _ _ _ _ hk g2
  | none=>
   rw[h1]at hp
   have:(if k=9 then acc b9 (r++q)else none)=none:=by
    split
    .rename_i hc;rw[if_pos hc]at h1;exact kj h1 (hq.ins (by omega))
    .rfl
   rw[this];simp only at hp ⊢;cases r with
   | nil=>
    have hk3:3≤k:=hk;have e1:dH k []=none:=(xt 1).op k (by omega) hk3;rw[e1]at hp;simp only at hp;cases hp;rw[List.nil_append,hq.op k (by omega) hk3]
   | cons t r=>
    rw[Dh];cases h2:dH k (t::r)with
    | none=>rw[h2]at hp;cases hp;rfl
    | some p=>
     obtain⟨o,ex,r1⟩:=p;rw[h2]at hp;simp only[Ua]at hp ⊢;obtain⟨c,r2,g1,g2⟩:=dV hp;rw[h _ _ _ _ (by show 3≤k+1;exact T7 hk) g1,PR.bind];exact h _ _ _ _ hk g2
 | In a=>
  simp only[aJ]at hp ⊢;cases h1:acc (aa 123) r with
  | none=>rw[h1]at hp;exact absurd hp gQ
  | some r1=>rw[h1]at hp;rw[cU q h1];exact h _ _ _ _ (by trivial) hp
 | Ip args=>
  simp only[aJ]at hp ⊢;obtain⟨lo,r1,g1,g2⟩:=dV hp;rw[h _ _ _ _ (by trivial) g1,PR.bind];cases h1:acc (aE 46 46) r1 with
  | none=>rw[h1]at g2;exact absurd g2 gQ
  | some r2=>
   rw[h1]at g2;rw[cU q h1];simp only at g2 ⊢;obtain⟨hi,r3,k1,k2⟩:=dV g2;rw[h _ _ _ _ (by trivial) k1,PR.bind];cases h2:acc (aa 44) r3 with
   | some r4=>rw[h2]at k2;rw[cU q h2];exact h _ _ _ _ (by trivial) k2
   | none=>
    rw[h2]at k2;simp only at k2;cases h3:acc (aa 125) r3 with
    | none=>rw[h3]at k2;exact absurd k2 gQ
    | some r5=>
     rw[h3]at k2
     have hne:acc (aa 44) (r3++q)=none:=by
      cases r3 with
      | nil=>cases h3
      | cons t r3=>exact iy h2
     rw[hne,cU q h3];cases k2;rfl
 | U=>
  simp only[aJ]at hp ⊢;cases r with
  | nil=>
   exact absurd hp (h0 _ _)
  | cons t r=>
   cases h1:acc (aa 33) (t::r)with
   | some r1=>
    rw[h1]at hp;rw[cU q h1];simp only at hp ⊢;obtain⟨c,r2,g1,g2⟩:=dV hp;rw[h _ _ _ _ (by trivial) g1,PR.bind];cases g2;rfl
   | none=>
   rw[h1]at hp;rw[iy h1];simp only at hp ⊢;cases h2:acc (aa 126) (t::r)with
   | some r1=>
    rw[h2]at hp;rw[cU q h2];simp only at hp ⊢;obtain⟨c,r2,g1,g2⟩:=dV hp;rw[h _ _ _ _ (by trivial) g1,PR.bind];cases g2;rfl
   | none=>
   rw[h2]at hp;rw[iy h2];simp only at hp ⊢;cases h3:acc (aa 45) (t::r)with
   | some r1=>
    rw[h3]at hp;rw[cU q h3];simp only at hp ⊢;obtain⟨c,r2,g1,g2⟩:=dV hp;rw[h _ _ _ _ (by trivial) g1,PR.bind];cases g2;rfl
   | none=>
    rw[h3]at hp;rw[iy h3];exact h _ _ _ _ (by trivial) hp
 | P=>exact Hw hq h hp
theorem yj{q:List Tok}(hq:Stop 1 q):∀(n:Nat) (k:PK) (r:List Tok) (e:Ex) (r1:List Tok),k.good->gr n k r=.ok e r1->par k (r++q)=.ok e (r1++q)
 | 0,_,_,_,_,_,h=>by cases h
 | n+1,k,r,e,r1,hk,h=>by
  rw[cP];refine FN hq (fun k r e r1 hk h=>yj hq n k r e r1 hk h) (fun e r1 h=>?_) k hk h;cases n with
  | zero=>cases h
  | succ n=>cases h
theorem ND{T:List Tok}{e:Ex}(h:par .W T=.ok e []):Bp 1 T e:=fun r hr=>by
 exact yj hr _ .W T e [] trivial h
def PR.mapT(f:Tok->Tok):PR->PR
 | .out=>.out
 | .bad c r=>.bad c (r.map f)
 | .ok e r=>.ok e (r.map f)
structure SameTok(f:Tok->Tok):Prop where
 kind:∀t,(f t).kind=t.kind
 num:∀t,(f t).num=t.num
 text:∀t,(f t).text=t.text
section
variable {f : Tok -> Tok} (hf : SameTok f)
include hf
theorem pV(t:Tok):bq (f t)=bq t:=by unfold bq;rw[hf.kind,hf.num,hf.text]
theorem cx(m:ByteArray)(r:List Tok):acc m (r.map f)=(acc m r).map (T3 f):=by
 cases r with
 | nil=>rfl
 | cons t r=>
  simp only[acc,TZ,pV hf,hf.kind,hf.text];split<;>rfl
theorem no(r:List Tok):bW (r.map f)=(bW r).map fun p=>(p.1,p.2.map f):=by
 cases r with
 | nil=>rfl
 | cons t r=>
  simp only[bW,TZ,pV hf,hf.kind,hf.text];split<;>rfl
theorem pj(r:List Tok):ct (r.map f)=(ct r).map fun p=>(p.1,p.2.map f):=by
 cases r with
 | nil=>rfl
 | cons t r=>
  simp only[ct,TZ,pV hf,hf.kind,hf.num];split<;>rfl
theorem pP(k:Nat)(r:List Tok):∀l,fP l k (r.map f)=(fP l k r).map fun p=>(p.1,p.2.map f)
 | []=>rfl
 | b::l=>by
  simp only[fP,cx hf];split
  .cases acc b.1 r with
   | some r1=>rfl
   | none=>exact pP k r l
  .exact pP k r l
theorem DY(k:Nat)(r:List Tok):dH k (r.map f)=(dH k r).map fun p=>(p.1,p.2.1,p.2.2.map f):=by
 unfold dH;rw[pP hf,cx hf,cx hf];cases fP ce k r with
 | some p=>rfl
 | none=>
  simp only[Ub];split
  .cases acc (aa 62) r with
   | some r1=>rfl
   | none=>
    simp only[Ub];cases acc (aE 62 61) r with
    | some r1=>rfl
    | none=>rfl
  .rfl
theorem fi(r:List Tok):eL (r.map f)=(eL r).mapT f:=by cases r<;>rfl
omit hf in
theorem cY{x:PR}{g h:Ex->List Tok->PR}(hg:∀e r,h e (r.map f)=(g e r).mapT f):(x.mapT f).bind h=(x.bind g).mapT f:=by
 cases x with
 | out=>rfl
 | bad c r=>rfl
 | ok e r=>exact hg e r
theorem Gs{rec:PK->List Tok->PR}(h:∀k r,rec k (r.map f)=(rec k r).mapT f)(r:List Tok):dO rec (r.map f)=(dO rec r).mapT f:=by
 have hif:∀(c:Prop) [Decidable c] (m:ByteArray) (r:List Tok),(if c then acc m (r.map f)else none)=(if c then acc m r else none).map (T3 f):=fun c _ m r=>by split<;>simp[cx hf]
 unfold dO;rw[cx hf,pj hf,no hf];cases acc (aa 40) r with
 | some r1=>
  simp only[Ua,h];refine cY fun e r2=>?_;rw[cx hf];cases acc (aa 41) r2 with
  | some r3=>rfl
  | none=>exact fi hf r2
 | none=>
 simp only[Ub];cases ct r with
 | some p=>simp only[Ua];split<;>rfl
 | none=>
 simp only[Ub];cases bW r with
 | none=>exact fi hf r
 | some p=>
 obtain⟨s,r1⟩:=p;simp only[Ua,hif];cases (if s=mD then acc (aa 40) r1 else none)with
 | some r2=>
  simp only[Ua];rw[no hf];cases bW r2 with
  | none=>exact fi hf r2
  | some p=>
   obtain⟨a,r3⟩:=p;simp only[Ua];rw[cx hf];cases acc (aa 41) r3 with
   | some r4=>rfl
   | none=>exact fi hf r3
 | none=>
 simp only[Ub];cases (if s=gV then acc (aa 40) r1 else none)with
 | some r2=>
  simp only[Ua,h];refine cY fun e r3=>?_;rw[cx hf];cases acc (aa 41) r3 with
  | some r4=>rfl
  | none=>exact fi hf r3
 | none=>
 simp only[Ub];rw[cx hf,cx hf];cases acc (aa 91) r1 with
 | some r2=>
  simp only[Ua,h];refine cY fun e r3=>?_;rw[cx hf];cases acc (aa 93) r3 with
  | some r4=>rfl
  | none=>exact fi hf r3
 | none=>
 simp only[Ub];cases acc (aa 64) r1 with
 | some r2=>
  simp only[Ua];rw[pj hf];cases ct r2 with
  | none=>exact fi hf r2
  | some p=>simp only[Ua];split<;>rfl
 | none=>rfl
theorem IC{rec:PK->List Tok->PR}(h:∀k r,rec k (r.map f)=(rec k r).mapT f)(k:PK)(r:List Tok):aJ rec k (r.map f)=(aJ rec k r).mapT f:=by
 cases k with
 | W=>
  simp only[aJ,h];refine cY fun c r1=>?_;rw[cx hf];cases acc (aa 63) r1 with
  | none=>rfl
  | some r2=>
   simp only[Ua,h];refine cY fun a r3=>?_;rw[cx hf];cases acc (aa 58) r3 with
   | none=>exact fi hf r3
   | some r4=>
    simp only[Ua,h];exact cY fun b r5=>rfl
 | I=>
  simp only[aJ,h];refine cY fun c r1=>?_;rw[cx hf];cases acc (aE 61 62) r1 with
  | none=>rfl
  | some r2=>
   simp only[Ua,h];exact cY fun b r5=>rfl
 | L k=>
  simp only[aJ,h];split
  .rfl
  .exact cY fun a r1=>h _ _
 | Lp k a=>
  simp only[aJ];have hif:(if k=9 then acc b9 (r.map f)else none)=(if k=9 then acc b9 r else none).map (T3 f):=by split<;>simp[cx hf]
  rw[hif,DY hf];cases (if k=9 then acc b9 r else none)with
  | some r1=>
   simp only[Ua,h];exact cY fun b r2=>h _ _
  | none=>
   simp only[Ub];cases dH k r with
   | none=>rfl
   | some p=>
    simp only[Ua,h];exact cY fun b r2=>h _ _
 | In a=>
  simp only[aJ];rw[cx hf];cases acc (aa 123) r with
  | none=>exact fi hf r
  | some r1=>exact h _ _
 | Ip args=>
  simp only[aJ,h];refine cY fun lo r1=>?_;rw[cx hf];cases acc (aE 46 46) r1 with
  | none=>exact fi hf r1
  | some r2=>
   simp only[Ua,h];refine cY fun hi r3=>?_;rw[cx hf,cx hf];cases acc (aa 44) r3 with
   | some r4=>exact h _ _
   | none=>
    simp only[Ub];cases acc (aa 125) r3 with
    | some r5=>rfl
    | none=>exact fi hf r3
 | U=>
  simp only[aJ];rw[cx hf,cx hf,cx hf];cases acc (aa 33) r with
  | some r1=>simp only[Ua,h];exact cY fun a r2=>rfl
  | none=>
  simp only[Ub];cases acc (aa 126) r with
  | some r1=>simp only[Ua,h];exact cY fun a r2=>rfl
  | none=>
  simp only[Ub];cases acc (aa 45) r with
  | some r1=>simp only[Ua,h];exact cY fun a r2=>rfl
  | none=>exact h _ _
 | P=>exact Gs hf h r
theorem xO:∀(n:Nat) (k:PK) (r:List Tok),gr n k (r.map f)=(gr n k r).mapT f
 | 0,_,_=>rfl
 | n+1,k,r=>IC hf (xO n) k r
theorem Bl(k:PK)(r:List Tok):par k (r.map f)=(par k r).mapT f:=by
 unfold par;rw[List.length_map];exact xO hf _ k r
end
def PK.size:PK->Nat
 | .Lp _ a=>aX a
 | .In a=>aX a
 | .Ip l=>bo l
 | _=>0
theorem sB(a b:List Ex):bo (a++b)=bo a+bo b:=by
 induction a with
 | nil=>simp[bo]
 | cons x a ih=>simp only[TV,bo,ih];omega
def Sz(k:Nat)(r:List Tok)(x:PR):Prop:=match x with
 | .ok e r1=>r1.length≤r.length/\aX e≤k+(r.length-r1.length)
 | _=>True
theorem eI{k k2:Nat}{r:List Tok}{x:PR}{f:Ex->List Tok->PR}(h:Sz k r x)(hf:∀e r1,x=.ok e r1->r1.length≤r.length->aX e≤k+(r.length-r1.length)->Sz k2 r (f e r1)):Sz k2 r (x.bind f):=by
 cases x with
 | out=>trivial
 | bad c r=>trivial
 | ok e r1=>exact hf e r1 rfl h.1 h.2
theorem gE{k:Nat}{r r1:List Tok}:Sz k r (eL r1):=by cases r1<;>trivial
theorem Sz.up{k k2:Nat}{r r2:List Tok}{x:PR}(h:Sz k r2 x)(h1:r2.length≤r.length)(h2:k≤k2+(r.length-r2.length)):Sz k2 r x:=by
 cases x with
 | out=>trivial
 | bad c r=>trivial
 | ok e r1=>exact⟨Nat.le_trans h.1 h1,by have:=h.1;have:=h.2;omega⟩
theorem JU{rec:PK->List Tok->PR}(h:∀k r,Sz k.size r (rec k r))(r:List Tok):Sz 0 r (dO rec r):=by
 unfold dO;cases h1:acc (aa 40) r with
 | some r1=>
  have a1:=(az h1).2;refine eI (k:=0) ((h .W r1).up (by omega) (T6 _)) fun e r2 _ l2 s2=>?_;cases h2:acc (aa 41) r2 with
  | some r3=>have:=(az h2).2;exact⟨by omega,by omega⟩
  | none=>exact gE
 | none=>
 cases h2:ct r with
 | some p=>
  obtain⟨n,r1⟩:=p;have:=(kK h2).2;simp only;split
  .trivial
  .exact⟨by omega,by simp only[aX,bo];omega⟩
 | none=>
 cases h3:bW r with
 | none=>exact gE
 | some p=>
 obtain⟨s,r1⟩:=p;have n1:=(gp h3).2;simp only;cases h4:(if s=mD then acc (aa 40) r1 else none)with
 | some r2=>
  have a1:r2.length<r1.length:=by
   split at h4
   .exact(az h4).2
   .cases h4
  simp only;cases h5:bW r2 with
  | none=>exact gE
  | some p=>
   obtain⟨a,r3⟩:=p;have n2:=(gp h5).2;simp only;cases h6:acc (aa 41) r3 with
   | some r4=>have:=(az h6).2;exact⟨by omega,by simp only[aX,bo];omega⟩
   | none=>exact gE
 | none=>
 simp only;cases h5:(if s=gV then acc (aa 40) r1 else none)with
 | some r2=>
  have a1:r2.length<r1.length:=by
   split at h5
   .exact(az h5).2
   .cases h5
  refine eI (k:=0) ((h .W r2).up (by omega) (T6 _)) fun e r3 e3 l3 s3=>?_;have hh:=h .W r2;rw[e3]at hh;have:=hh.2;have:=hh.1;cases h6:acc (aa 41) r3 with
  | some r4=>have:=(az h6).2;exact⟨by omega,by simp only[aU,aX,bo,PK.size]at *;omega⟩
  | none=>exact gE
 | none=>
 simp only;cases h6:acc (aa 91) r1 with
 | some r2=>
  have a1:=(az h6).2;refine eI (k:=0) ((h .W r2).up (by omega) (T6 _)) fun e r3 e3 l3 s3=>?_;have hh:=h .W r2;rw[e3]at hh;have:=hh.2;have:=hh.1;cases h7:acc (aa 93) r3 with
  | some r4=>have:=(az h7).2;exact⟨by omega,by simp only[aX,bo,PK.size]at *;omega⟩
  | none=>exact gE
 | none=>
 simp only;cases h7:acc (aa 64) r1 with
 | some r2=>
  have a1:=(az h7).2;simp only;cases h8:ct r2 with
  | none=>exact gE
  | some p=>
   obtain⟨n,r3⟩:=p;have:=(kK h8).2;simp only;split
   .trivial
   .exact⟨by omega,by simp only[aX,bo];omega⟩
 | none=>exact⟨by omega,by simp only[aX,bo];omega⟩
theorem KK{rec:PK->List Tok->PR}(h:∀k r,Sz k.size r (rec k r))(k:PK)(r:List Tok):Sz k.size r (aJ rec k r):=by
 cases k with
 | W=>
  simp only[aJ];refine eI (h .I r) fun c r1 _ l1 s1=>?_;simp only[PK.size]at *;cases h1:acc (aa 63) r1 with
  | none=>exact⟨l1,s1⟩
  | some r2=>
   have a1:=(az h1).2;refine eI (k:=0) ((h .W r2).up (by omega) (by simp only[PK.size];omega)) fun a r3 e3 l3 s3=>?_;have hh:=h .W r2;rw[e3]at hh;obtain⟨b1,b2⟩:=hh;simp only[PK.size]at b2;cases h2:acc (aa 58) r3 with
   | none=>exact gE
   | some r4=>
    have a2:=(az h2).2;refine eI (k:=0) ((h .W r4).up (by omega) (by simp only[PK.size];omega)) fun b r5 e5 l5 s5=>?_;have hh:=h .W r4;rw[e5]at hh;obtain⟨d1,d2⟩:=hh;simp only[PK.size]at d2;exact⟨by omega,by simp only[aU,aX,bo];omega⟩
 | I=>
  simp only[aJ];refine eI (h (.L 3) r) fun c r1 _ l1 s1=>?_;simp only[PK.size]at *;cases h1:acc (aE 61 62) r1 with
  | none=>exact⟨l1,s1⟩
  | some r2=>
   have a1:=(az h1).2;refine eI (k:=0) ((h .I r2).up (by omega) (by simp only[PK.size];omega)) fun a r3 e3 l3 s3=>?_;have hh:=h .I r2;rw[e3]at hh;obtain⟨b1,b2⟩:=hh;simp only[PK.size]at b2;exact⟨by omega,by simp only[aU,aX,bo];omega⟩
 | L k=>
  simp only[aJ];split
  .exact h .U r
  .refine eI (h (.L (k+1)) r) fun c r1 _ l1 s1=>?_;exact(h (.Lp k c) r1).up l1 (by simp only[PK.size]at *;omega)
 | Lp k a=>
  simp only[aJ];cases h1:(if k=9 then acc b9 r else none)with
  | some r1=>
   have a1:r1.length<r.length:=by
    split at h1
    .exact(az h1).2
    .cases h1
   refine eI (k:=aX a) ((h (.In a) r1).up (by omega) (by simp only[PK.size];omega)) fun c r2 _ l2 s2=>?_;exact(h (.Lp k c) r2).up l2 (by simp only[PK.size]at *;omega)
  | none=>
   simp only;cases h2:dH k r with
   | none=>exact⟨T4 _,by simp only[PK.size];omega⟩
   | some p=>
    obtain⟨o,ex,r1⟩:=p;have a1:=(pI h2).2;refine eI (k:=0) ((h (.L (k+1)) r1).up (by omega) (by simp only[PK.size];omega)) fun c r2 e2 l2 s2=>?_;have hh:=h (.L (k+1)) r1;rw[e2]at hh;obtain⟨b1,b2⟩:=hh;simp only[PK.size]at b2;refine(h (.Lp k _) r2).up l2 ?_;simp only[PK.size];split<;>(simp only[aU,aX,bo];omega)
 | In a=>
  simp only[aJ];cases h1:acc (aa 123) r with
  | none=>exact gE
  | some r1=>
   have a1:=(az h1).2;exact(h (.Ip [a]) r1).up (by omega) (by simp only[PK.size,bo];omega)
 | Ip args=>
  simp only[aJ];refine eI (k:=0) ((h .W r).up (T4 _) (by simp only[PK.size];omega)) fun lo r1 _ l1 s1=>?_;cases h1:acc (aE 46 46) r1 with
  | none=>exact gE
  | some r2=>
   have a1:=(az h1).2;refine eI (k:=0) ((h .W r2).up (by omega) (by simp only[PK.size];omega)) fun hi r3 e3 l3 s3=>?_;have hh:=h .W r2;rw[e3]at hh;obtain⟨b1,b2⟩:=hh;simp only[PK.size]at b2;cases h2:acc (aa 44) r3 with
   | some r4=>
    have a2:=(az h2).2;exact(h (.Ip _) r4).up (by omega) (by simp only[PK.size,sB,bo];omega)
   | none=>
    simp only;cases h3:acc (aa 125) r3 with
    | none=>exact gE
    | some r5=>
     have a3:=(az h3).2;exact⟨by omega,by simp only[PK.size,aU,aX,sB,bo];omega⟩
 | U=>
  have one:∀{m r1} (o:Int),acc m r=some r1->Sz 0 r ((rec .U r1).bind fun a r2=>.ok (aU o [a]) r2):=fun{m r1} o h1=>by
   have a1:=(az h1).2;refine eI (k:=0) ((h .U r1).up (by omega) (by simp only[PK.size];omega)) fun a r3 e3 l3 s3=>?_;have hh:=h .U r1;rw[e3]at hh;obtain⟨b1,b2⟩:=hh;simp only[PK.size]at b2;exact⟨by omega,by simp only[aU,aX,bo];omega⟩
  simp only[aJ];cases h1:acc (aa 33) r with
  | some r1=>exact one 4 h1
  | none=>
  cases h2:acc (aa 126) r with
  | some r1=>exact one 5 h2
  | none=>
  cases h3:acc (aa 45) r with
  | some r1=>exact one 6 h3
  | none=>exact h .P r
 | P=>exact JU h r
theorem vN:∀(n:Nat) (k:PK) (r:List Tok),Sz k.size r (gr n k r)
 | 0,_,_=>trivial
 | n+1,k,r=>KK (vN n) k r
theorem Hh{r:List Tok}{e:Ex}{r1:List Tok}(h:par .W r=.ok e r1):aX e≤r.length:=by
 have:=vN (40*r.length+20) .W r;unfold par at h;rw[h]at this;have h2:=this.2;simp only[PK.size]at h2;omega
def NB(x:PR):Prop:=match x with
 | .bad c r=>c=6\/((c=3\/c=5)/\r≠[])
 | _=>True
theorem dU{x:PR}{f:Ex->List Tok->PR}(h:NB x)(hf:∀e r,NB (f e r)):NB (x.bind f):=by
 cases x with
 | out=>trivial
 | bad c r=>exact h
 | ok e r=>exact hf e r
theorem gI{r:List Tok}:NB (eL r):=by
 cases r with
 | nil=>exact .inl rfl
 | cons t r=>exact .inr ⟨.inr rfl,by simp⟩
theorem Hx{r r1:List Tok}{n:Int}(h:ct r=some (n,r1)):NB (.bad 3 r):=by
 obtain⟨t,rfl,-⟩:=uy h;exact .inr ⟨.inl rfl,by simp⟩
theorem JM{rec:PK->List Tok->PR}(h:∀k r,NB (rec k r))(k:PK)(r:List Tok):NB (aJ rec k r):=by
 cases k with
 | W=>
  simp only[aJ];refine dU (h _ _) fun c r1=>?_;cases acc (aa 63) r1 with
  | none=>trivial
  | some r2=>
   refine dU (h _ _) fun a r3=>?_;cases acc (aa 58) r3 with
   | none=>exact gI
   | some r4=>exact dU (h _ _) fun b r5=>trivial
 | I=>
  simp only[aJ];refine dU (h _ _) fun c r1=>?_;cases acc (aE 61 62) r1 with
  | none=>trivial
  | some r2=>exact dU (h _ _) fun b r5=>trivial
 | L k=>
  simp only[aJ];split
  .exact h _ _
  .exact dU (h _ _) fun _ _=>h _ _
 | Lp k a=>
  simp only[aJ];cases (if k=9 then acc b9 r else none)with
  | some r1=>exact dU (h _ _) fun _ _=>h _ _
  | none=>
   simp only;cases dH k r with
   | none=>trivial
   | some p=>exact dU (h _ _) fun _ _=>h _ _
 | In a=>
  simp only[aJ];cases acc (aa 123) r with
  | none=>exact gI
  | some r1=>exact h _ _
 | Ip args=>
  simp only[aJ];refine dU (h _ _) fun lo r1=>?_;cases acc (aE 46 46) r1 with
  | none=>exact gI
  | some r2=>
   refine dU (h _ _) fun hi r3=>?_;cases acc (aa 44) r3 with
   | some r4=>exact h _ _
   | none=>
    simp only;cases acc (aa 125) r3 with
    | some r5=>trivial
    | none=>exact gI
 | U=>
  simp only[aJ];cases acc (aa 33) r with
  | some r1=>exact dU (h _ _) fun _ _=>trivial
  | none=>
  cases acc (aa 126) r with
  | some r1=>exact dU (h _ _) fun _ _=>trivial
  | none=>
  cases acc (aa 45) r with
  | some r1=>exact dU (h _ _) fun _ _=>trivial
  | none=>exact h _ _
 | P=>
  show NB (dO rec r);unfold dO;cases acc (aa 40) r with
  | some r1=>
   refine dU (h _ _) fun e r2=>?_;cases acc (aa 41) r2 with
   | some r3=>trivial
   | none=>exact gI
  | none=>
  cases hn:ct r with
  | some p=>simp only;split<;>first|trivial|exact Hx (n:=p.1) (r1:=p.2) hn
  | none=>
  cases bW r with
  | none=>exact gI
  | some p=>
  obtain⟨s,r1⟩:=p;simp only;cases (if s=mD then acc (aa 40) r1 else none)with
  | some r2=>
   simp only;cases bW r2 with
   | none=>exact gI
   | some p=>
    simp only;cases acc (aa 41) p.2 with
    | some r4=>trivial
    | none=>exact gI
  | none=>
  simp only;cases (if s=gV then acc (aa 40) r1 else none)with
  | some r2=>
   refine dU (h _ _) fun e r3=>?_;cases acc (aa 41) r3 with
   | some r4=>trivial
   | none=>exact gI
  | none=>
  simp only;cases acc (aa 91) r1 with
  | some r2=>
   refine dU (h _ _) fun e r3=>?_;cases acc (aa 93) r3 with
   | some r4=>trivial
   | none=>exact gI
  | none=>
  simp only;cases acc (aa 64) r1 with
  | some r2=>
   simp only;cases hn:ct r2 with
   | none=>exact gI
   | some p=>simp only;split<;>first|trivial|exact Hx (n:=p.1) (r1:=p.2) hn
  | none=>trivial
theorem Bf:∀(n:Nat) (k:PK) (r:List Tok),NB (gr n k r)
 | 0,_,_=>trivial
 | n+1,k,r=>JM (Bf n) k r
theorem wS{k:PK}{r r1:List Tok}{c:Int}(h:par k r=.bad c r1):c=6\/((c=3\/c=5)/\r1≠[]):=by
 have h1:=Bf (40*r.length+20) k r;unfold par at h;rw[h]at h1;exact h1
theorem wB{k:PK}{r r1:List Tok}{c:Int}(h:par k r=.bad c r1):c≠0/\r1.length≤r.length:=by
 have h1:=wS h;have h2:=lW k r;rw[h]at h2;exact⟨by omega,h2.length_le⟩
end Go.Proofs.YtnhphlmblenapaaGreatDoor
namespace Go.Proofs.YtnhphlmblenapaaGreatDoor
open Go.RowKit
inductive CP(α:Type) where
 | out
 | bad (e n:Int)
 | ok (v:α) (r:List Tok)
section
variable {α β : Type}
def CP.bind(x:CP α)(f:α->List Tok->CP β):CP β:=match x with
 | .out=>.out
 | .bad e n=>.bad e n
 | .ok v r=>f v r
def lnR(z:Int):List Tok->Int
 | []=>z
 | t::_=>t.line
def jP(z:Int):List Tok->CP α
 | []=>.bad 6 z
 | t::_=>.bad 5 t.line
def bO(z:Int)(m:ByteArray)(r:List Tok)(k:List Tok->CP α):CP α:=match acc m r with
 | some r1=>k r1
 | none=>jP z r
def dP(z:Int)(r:List Tok)(k:ByteArray->List Tok->CP α):CP α:=match bW r with
 | some p=>k p.1 p.2
 | none=>jP z r
def gq(z:Int)(r:List Tok)(k:Int->List Tok->CP α):CP α:=match ct r with
 | some p=>k p.1 p.2
 | none=>jP z r
def eC(m:ByteArray)(r:List Tok)(y:List Tok->CP α)(n:CP α):CP α:=match acc m r with
 | some r1=>y r1
 | none=>n
def exC(z:Int)(r:List Tok)(k:Ex->List Tok->CP α):CP α:=match par .W r with
 | .out=>.out
 | .bad c q=>.bad c (lnR z q)
 | .ok e q=>if bz e=0 then k e q else .bad (bz e) 0
def mB(f:α->List Tok->Option (CP α)):Nat->α->List Tok->CP α
 | 0,_,_=>.out
 | n+1,a,r=>match f a r with
  | none=>.ok a r
  | some x=>x.bind fun v q=>mB f n v q
def db(f:α->List Tok->Option (CP α))(a:α)(r:List Tok):CP α:=mB f (r.length+1) a r
end
def exZ:Ex:=.mk 0 0 ⟨#[]⟩ []
def fT(z:Int)(r:List Tok):CP ByteArray:=dP z r fun s r1=>eC (aa 91) r1 (fun r2=>gq z r2 fun n r3=>bO z (aa 93) r3 fun r4=>.ok (iP s n) r4) (.ok s r1)
def fR(z:Int)(r:List Tok):CP (List ByteArray):=(fT z r).bind fun s r1=>db (fun l r=>(acc (aa 44) r).map fun r2=>(fT z r2).bind fun s r3=>.ok (l++[s]) r3) [s] r1
def gM(z:Int)(r:List Tok):CP Wt:=gq z r fun lo r1=>(eC (aE 46 46) r1 (fun r2=>gq z r2 fun hi r3=>.ok hi r3) (.ok lo r1)).bind fun hi r2=>
 (eC (aE 58 61) r2 (fun r3=>.ok true r3) (bO z (aE 58 47) r2 fun r3=>.ok false r3)).bind fun b r3=>gq z r3 fun w r4=>.ok ⟨lo,hi,w,b⟩ r4
def jy(z:Int)(r:List Tok):CP (List Wt):=(gM z r).bind fun w r1=>db (fun l r=>(acc (aa 44) r).map fun r2=>(gM z r2).bind fun w r3=>.ok (l++[w]) r3) [w] r1
def qU(z:Int)(r:List Tok):CP It:=(fT z r).bind fun s r1=>bO z (aa 123) r1 fun r2=>(jy z r2).bind fun l r3=>bO z (aa 125) r3 fun r4=>bO z (aa 59) r4 fun r5=>.ok (.mk 3 exZ s ⟨#[]⟩ l [] [] [] []) r5
def ma(z:Int)(r:List Tok):CP It:=(fR z r).bind fun l r1=>bO z ⟨#[98,101,102,111,114,101]⟩ r1 fun r2=>(fR z r2).bind fun m r3=>bO z (aa 59) r3 fun r4=>.ok (.mk 6 exZ ⟨#[]⟩ ⟨#[]⟩ [] [] [] l m) r4
def gu(z:Int)(k:Int)(r:List Tok):CP It:=exC z r fun e r1=>bO z (aa 59) r1 fun r2=>.ok (.mk k e ⟨#[]⟩ ⟨#[]⟩ [] [] [] [] []) r2
def jU:ByteArray:=⟨#[115,111,102,116]⟩
def jQ:ByteArray:=⟨#[100,105,115,116]⟩
def ifW:ByteArray:=⟨#[105,102]⟩
def gj:ByteArray:=⟨#[101,108,115,101]⟩
def iQ:ByteArray:=⟨#[101,97,99,104]⟩
def inW:ByteArray:=⟨#[105,110]⟩
def gH:ByteArray:=⟨#[115,111,108,118,101]⟩
structure Rec where
 item:List Tok->CP It
 rest:List It->List Tok->CP (List It)
def fK(z:Int)(R:Rec)(r:List Tok):CP (List It):=bO z (aa 123) r fun r1=>R.rest [] r1
def ifC(z:Int)(R:Rec)(r:List Tok):CP It:=bO z (aa 40) r fun r2=>exC z r2 fun e r3=>bO z (aa 41) r3 fun r4=>(fK z R r4).bind fun l r5=>
 (eC gj r5 (fun r6=>fK z R r6) (.ok [] r5)).bind fun m r7=>.ok (.mk 4 e ⟨#[]⟩ ⟨#[]⟩ [] l m [] []) r7
def oK(z:Int)(R:Rec)(r:List Tok):CP It:=dP z r fun i r2=>bO z inW r2 fun r3=>dP z r3 fun s r4=>(fK z R r4).bind fun l r5=>.ok (.mk 5 exZ s i [] l [] [] []) r5
def kB(z:Int)(R:Rec):Rec where
 item r:=eC jU r (gu z 2) <| eC jQ r (qU z) <| eC ifW r (ifC z R) <| eC iQ r (oK z R) <| eC gH r (ma z) (gu z 1 r)
 rest l r:=eC (aa 125) r (fun r1=>.ok l r1) ((R.item r).bind fun x r1=>R.rest (l++[x]) r1)
def gN(z:Int):Nat->Rec
 | 0=>⟨fun _=>.out,fun _ _=>.out⟩
 | n+1=>kB z (gN z n)
def jn(z:Int)(r:List Tok):CP It:=(gN z (2*r.length+1)).item r
def jI(z:Int)(l:List It)(r:List Tok):CP (List It):=(gN z (2*r.length+2)).rest l r
def jM(z:Int):Rec:=⟨jn z,jI z⟩
def p8(z:Int)(r:List Tok):CP Int:=eC (aa 91) r (fun r1=>gq z r1 fun n r2=>if n<1 then .bad 5 (lnR z r1)else bO z (aa 93) r2 fun r3=>.ok n r3) (.ok 0 r)
def eV(z:Int)(m:Int)(r:List Tok):CP Fl:=dP z r fun s r1=>(p8 z r1).bind fun k r2=>bO z (aa 58) r2 fun r3=>gq z r3 fun w r4=>
 (if m=0 then bO z (aa 61) r4 fun r5=>gq z r5 fun v r6=>.ok v r6 else .ok 0 r4:CP Int).bind fun v r5=>bO z (aa 59) r5 fun r6=>.ok ⟨s,w,k,m,v⟩ r6
def pi:ByteArray:=⟨#[114,97,110,100]⟩
def lj:ByteArray:=⟨#[114,97,110,100,99]⟩
def lv:ByteArray:=⟨#[115,116,97,116,101]⟩
def kh:ByteArray:=⟨#[99,108,97,115,115]⟩
def iF:ByteArray:=⟨#[101,120,116,101,110,100,115]⟩
def bS:ByteArray:=⟨#[99,111,110,115,116,114,97,105,110,116]⟩
def gJ(z:Int)(r:List Tok):CP (List Fl):=
 let one:List Fl->CP Fl->CP (List Fl):=fun l x=>x.bind fun x q=>.ok (l++[x]) q
 db (fun l r=>match acc pi r with
  | some r1=>some (one l (eV z 1 r1))
  | none=>match acc lj r with
   | some r1=>some (one l (eV z 2 r1))
   | none=>match acc lv r with
    | some r1=>some (one l (eV z 0 r1))
    | none=>none) [] r
def iI(z:Int)(r:List Tok):CP (ByteArray×List It):=dP z r fun s r1=>(fK z (jM z) r1).bind fun l r3=>.ok (s,l) r3
def iZ(z:Int)(r:List Tok):CP (List (ByteArray×List It)):=db (fun l r=>(acc bS r).map fun r1=>(iI z r1).bind fun b r2=>.ok (l++[b]) r2) [] r
def lE(z:Int)(r:List Tok):CP Kl:=bO z kh r fun r1=>dP z r1 fun s r2=>(eC iF r2 (fun r3=>dP z r3 fun p r4=>.ok p r4) (.ok ⟨#[]⟩ r2)).bind fun p r3=>
 bO z (aa 123) r3 fun r4=>(gJ z r4).bind fun f r5=>(iZ z r5).bind fun b r6=>bO z (aa 125) r6 fun r7=>.ok ⟨s,p,f,b⟩ r7
def iS(z:Int)(r:List Tok):CP (List It):=db (fun l r=>if r.isEmpty=true then none else some ((jn z r).bind fun x r1=>.ok (l++[x]) r1)) [] r
def pz(z:Int)(r:List Tok):CP Kl:=(lE z r).bind fun c r1=>if r1.isEmpty=true then .ok c r1 else jP z r1
end Go.Proofs.YtnhphlmblenapaaGreatDoor
namespace Go.Proofs.YtnhphlmblenapaaGreatDoor
open Go.RowKit
theorem Fx{r q:List Tok}{e:Ex}(h:par .W r=.ok e q):q <:+ r/\aX e+q.length≤r.length:=by
 have h1:=vN (40*r.length+20) .W r;have h2:=lW .W r;have h0:=h;unfold par at h;rw[h]at h1;rw[h0]at h2;have h3:=h1.2;have h4:=h1.1;simp only[PK.size]at h3;exact⟨h2.1,by omega⟩
theorem LV(e:Ex):1≤aX e:=by cases e;rw[aX];omega
def Tk{α:Type}(sz:α->Nat)(c:Nat)(r:List Tok):CP α->Prop
 | .out=>False
 | .bad e _=>e≠0
 | .ok v q=>q <:+ r/\sz v+q.length≤c
section
variable {α β : Type} {sz : α -> Nat} {sy : β -> Nat} {c c' : Nat} {r : List Tok}
theorem Tk.weak{x:CP α}{q:List Tok}(h:Tk sz c q x)(hq:q <:+ r):Tk sz c r x:=by
 cases x with
 | out=>exact h
 | bad e n=>exact h
 | ok v p=>exact⟨h.1.trans hq,h.2⟩
theorem cy{x:CP β}{f:β->List Tok->CP α}(h:Tk sy c' r x)(hf:∀v q,q <:+ r->sy v+q.length≤c'->Tk sz c r (f v q)):Tk sz c r (x.bind f):=by
 cases x with
 | out=>exact h
 | bad e n=>exact h
 | ok v p=>exact hf v p h.1 h.2
theorem rE{z:Int}{q:List Tok}:Tk sz c r (jP z q):=by
 cases q with
 | nil=>exact(by decide:(6:Int)≠0)
 | cons t q=>exact(by decide:(5:Int)≠0)
variable {z : Int} {m : ByteArray} {q : List Tok}
theorem cR{k:List Tok->CP α}(hq:q <:+ r)(h:∀r1,r1 <:+ r->r1.length<q.length->Tk sz c r (k r1)):Tk sz c r (bO z m q k):=by
 unfold bO;cases ha:acc m q with
 | some r1=>exact h r1 ((az ha).1.trans hq) (az ha).2
 | none=>exact rE
theorem iL{k:List Tok->CP α}{n:CP α}(hq:q <:+ r)(h:∀r1,r1 <:+ r->r1.length<q.length->Tk sz c r (k r1))(hn:Tk sz c r n):Tk sz c r (eC m q k n):=by
 unfold eC;cases ha:acc m q with
 | some r1=>exact h r1 ((az ha).1.trans hq) (az ha).2
 | none=>exact hn
theorem j8{k:ByteArray->List Tok->CP α}(hq:q <:+ r)(h:∀s r1,r1 <:+ r->r1.length<q.length->Tk sz c r (k s r1)):Tk sz c r (dP z q k):=by
 unfold dP;cases ha:bW q with
 | some p=>exact h p.1 p.2 ((gp ha).1.trans hq) (gp ha).2
 | none=>exact rE
theorem mh{k:Int->List Tok->CP α}(hq:q <:+ r)(h:∀s r1,r1 <:+ r->r1.length<q.length->Tk sz c r (k s r1)):Tk sz c r (gq z q k):=by
 unfold gq;cases ha:ct q with
 | some p=>exact h p.1 p.2 ((kK ha).1.trans hq) (kK ha).2
 | none=>exact rE
theorem wM{k:Ex->List Tok->CP α}(hq:q <:+ r)(h:∀e r1,bz e=0->r1 <:+ r->aX e+r1.length≤q.length->Tk sz c r (k e r1)):Tk sz c r (exC z q k):=by
 unfold exC;cases ha:par .W q with
 | out=>exact absurd ha (gC _ _)
 | bad e p=>exact(wB ha).1
 | ok e p=>
  simp only;split
  .rename_i h0;exact h e p h0 ((Fx ha).1.trans hq) (Fx ha).2
  .rename_i h0;exact h0
def Hv(f:α->List Tok->Option (CP α)):Prop:=∀a r x,f a r=some x->∀v q,x=.ok v q->q.length<r.length
theorem u6{f:α->List Tok->Option (CP α)}(hf:Hv f):∀(n m:Nat) (a:α) (q:List Tok),q.length<n->q.length<m->mB f n a q=mB f m a q
 | 0,m,_,_,h,_=>by omega
 | n+1,0,_,_,_,h=>by omega
 | n+1,m+1,a,q,h1,h2=>by
  unfold mB;cases h:f a q with
  | none=>rfl
  | some x=>
   cases x with
   | out=>rfl
   | bad e l=>rfl
   | ok v p=>have:=hf a q _ h v p rfl;exact u6 hf n m v p (by omega) (by omega)
theorem fr{f:α->List Tok->Option (CP α)}(hf:Hv f)(a:α)(q:List Tok):db f a q=match f a q with
 | none=>.ok a q
 | some x=>x.bind fun v p=>db f v p:=by
 unfold db;rw[mB];cases h:f a q with
 | none=>rfl
 | some x=>
  cases x with
  | out=>rfl
  | bad e l=>rfl
  | ok v p=>have:=hf a q _ h v p rfl;exact u6 hf _ _ v p (by omega) (by omega)
def Stp(sz:α->Nat)(f:α->List Tok->Option (CP α)):Prop:=∀a r x,f a r=some x->Tk (fun v=>max (sz v) (sz a+1)) (sz a+r.length) r x
theorem Stp.eats{f:α->List Tok->Option (CP α)}(h:Stp sz f):Hv f:=by
 intro a r x hx v q hv;have h1:=h a r x hx;subst hv;have:=h1.2;simp only at this;omega
theorem B1{f:α->List Tok->Option (CP α)}(h:Stp sz f):∀(n:Nat) (a:α) (q:List Tok),q.length<n->q <:+ r->sz a+q.length≤c->Tk sz c r (mB f n a q)
 | 0,_,_,h,_,_=>by omega
 | n+1,a,q,hn,hq,hc=>by
  unfold mB;cases hf:f a q with
  | none=>exact⟨hq,hc⟩
  | some x=>
   refine cy ((h a q x hf).weak hq) fun v p hp hs=>?_;exact B1 h n v p (by omega) hp (by omega)
theorem mO{f:α->List Tok->Option (CP α)}(h:Stp sz f){a:α}(hq:q <:+ r)(hc:sz a+q.length≤c):Tk sz c r (db f a q):=B1 h _ a q (Nat.lt_succ_self _) hq hc
end
def gS{α:Type}(_:α):Nat:=1
def zr1{α:Type}(_:α):Nat:=0
theorem nM{α:Type}{v:α}{n m:Nat}(h:n≤m):zr1 v+n≤m:=by unfold zr1;omega
variable (z : Int)
theorem gn(r:List Tok):Tk gS r.length r (fT z r):=
 j8 (TU _) fun _ r1 h1 l1=>iL h1 (fun r2 h2 l2=>mh h2 fun _ r3 h3 l3=>cR h3 fun r4 h4 l4=>⟨h4,by unfold gS;omega⟩) ⟨h1,by unfold gS;omega⟩
theorem ja{α:Type}{p:List Tok->CP α}(h:∀r,Tk gS r.length r (p r)):Stp (α:=List α) TY fun l r=>(acc (aa 44) r).map fun r2=>(p r2).bind fun s r3=>.ok (l++[s]) r3:=by
 intro l r x hx;simp only at hx;cases ha:acc (aa 44) r with
 | none=>rw[ha]at hx;cases hx
 | some r2=>
  rw[ha]at hx;cases hx;have:=az ha;exact cy ((h r2).weak this.1) fun v q hq hs=>⟨hq,by unfold gS at hs;simp only[T0,TW];omega⟩
theorem lq(r:List Tok):Tk TY r.length r (fR z r):=
 cy (gn z r) fun _ q hq hs=>mO (ja (gn z)) hq (by unfold gS at hs;rw[TW];omega)
theorem jh(r:List Tok):Tk gS r.length r (gM z r):=
 mh (TU _) fun _ r1 h1 l1=>cy (sy:=zr1) (c':=r1.length) (iL h1 (fun r2 h2 l2=>mh h2 fun _ r3 h3 l3=>⟨h3,nM (by omega)⟩) ⟨h1,nM (by omega)⟩) fun _ r2 h2 l2=>
  cy (sy:=zr1) (c':=r2.length) (iL h2 (fun r3 h3 l3=>⟨h3,nM (by omega)⟩) (cR h2 fun r3 h3 l3=>⟨h3,nM (by omega)⟩)) fun _ r3 h3 l3=>mh h3 fun _ r4 h4 l4=>⟨h4,by unfold gS;omega⟩
theorem AN(r:List Tok):Tk TY r.length r (jy z r):=
 cy (jh z r) fun _ q hq hs=>mO (ja (jh z)) hq (by unfold gS at hs;rw[TW];omega)
theorem oO(k:Int)(e:Ex)(nm ix:ByteArray)(ws:List Wt)(l m:List It)(bf af:List ByteArray):fg (.mk k e nm ix ws l m bf af)=1+aX e+ws.length+bf.length+af.length+aF l+aF m:=dI _
theorem rM:aX exZ=1:=rfl
theorem Bn(r:List Tok):Tk fg r.length r (qU z r):=
 cy (gn z r) fun _ r1 h1 l1=>cR h1 fun r2 h2 l2=>cy ((AN z r2).weak h2) fun l r3 h3 l3=>cR h3 fun r4 h4 l4=>cR h4 fun r5 h5 l5=>⟨h5,by
  rw[oO,rM];unfold gS at l1;simp only[TX,aF];omega⟩
theorem xQ(r:List Tok):Tk fg r.length r (ma z r):=
 cy (lq z r) fun l r1 h1 l1=>cR h1 fun r2 h2 l2=>cy ((lq z r2).weak h2) fun m r3 h3 l3=>cR h3 fun r4 h4 l4=>⟨h4,by
  rw[oO,rM];simp only[TX,aF];omega⟩
theorem oY(k:Int)(r:List Tok):Tk fg r.length r (gu z k r):=
 wM (TU _) fun e r1 _ h1 l1=>cR h1 fun r2 h2 l2=>⟨h2,by rw[oO];simp only[TX,aF];omega⟩
theorem ry{R:Rec}{c:Nat}{r q:List Tok}(h:∀p,p.length<q.length->Tk aF p.length p (R.rest [] p))(hq:q <:+ r):Tk aF (q.length-1) r (fK z R q):=
 cR hq fun r1 h1 l1=>by
  have h2:=(h r1 l1).weak h1;cases hx:R.rest [] r1 with
  | out=>rw[hx]at h2;exact h2
  | bad e n=>rw[hx]at h2;exact h2
  | ok v p=>rw[hx]at h2;exact⟨h2.1,by have:=h2.2;omega⟩
theorem Lc{R:Rec}{r:List Tok}(h:∀p,p.length<r.length->Tk aF p.length p (R.rest [] p)):Tk fg r.length r (ifC z R r):=
 cR (TU _) fun r2 h2 l2=>wM h2 fun e r3 _ h3 l3=>cR h3 fun r4 h4 l4=>cy (ry z (c:=0) (fun p hp=>h p (by omega)) h4) fun l r5 h5 l5=>
  cy (sy:=aF) (c':=r5.length) (iL h5 (fun r6 h6 l6=>by
   have h7:=ry z (c:=0) (fun p hp=>h p (by omega)) h6;cases hx:fK z R r6 with
   | out=>rw[hx]at h7;exact h7
   | bad e n=>rw[hx]at h7;exact h7
   | ok v p=>rw[hx]at h7;exact⟨h7.1,by have:=h7.2;omega⟩) ⟨h5,by simp only[aF];omega⟩) fun m r7 h7 l7=>⟨h7,by rw[oO];simp only[TX];omega⟩
theorem Bd{R:Rec}{r:List Tok}(h:∀p,p.length<r.length->Tk aF p.length p (R.rest [] p)):Tk fg r.length r (oK z R r):=
 j8 (TU _) fun i r2 h2 l2=>cR h2 fun r3 h3 l3=>j8 h3 fun s r4 h4 l4=>cy (ry z (c:=0) (fun p hp=>h p (by omega)) h4) fun l r5 h5 l5=>⟨h5,by rw[oO,rM];simp only[TX,aF];omega⟩
theorem Jp{R:Rec}{r:List Tok}(h:∀p,p.length<r.length->Tk aF p.length p (R.rest [] p)):Tk fg r.length r ((kB z R).item r):=by
 have up:∀{r1:List Tok} {x:CP It},r1 <:+ r->r1.length<r.length->Tk fg r1.length r1 x->Tk fg r.length r x:=fun{r1 x} h1 l1 hx=>by
  have h2:=hx.weak h1;cases x with
  | out=>exact h2
  | bad e n=>exact h2
  | ok v p=>exact⟨h2.1,by have:=h2.2;omega⟩
 have hr:=TU r
 exact iL hr (fun r1 h1 l1=>up h1 l1 (oY z 2 r1)) <| iL hr (fun r1 h1 l1=>up h1 l1 (Bn z r1)) <| iL hr (fun r1 h1 l1=>up h1 l1 (Lc z fun p hp=>h p (by omega))) <|
  iL hr (fun r1 h1 l1=>up h1 l1 (Bd z fun p hp=>h p (by omega))) <| iL hr (fun r1 h1 l1=>up h1 l1 (xQ z r1)) (oY z 1 r)
theorem um(l m:List It):aF (l++m)=aF l+aF m:=by
 induction l with
 | nil=>simp[aF]
 | cons a l ih=>simp only[TV,aF,ih];omega
theorem uJ(x:It):aF [x]=fg x:=by simp[aF]
theorem iv(x:It):1≤fg x:=by rw[dI];omega
theorem J7{R:Rec}{l:List It}{r:List Tok}(h:Tk fg r.length r (R.item r))(h2:∀l p,p.length<r.length->Tk aF (aF l+p.length) p (R.rest l p)):Tk aF (aF l+r.length) r ((kB z R).rest l r):=
 iL (TU _) (fun r1 h1 l1=>⟨h1,by omega⟩) (cy h fun x p hp hs=>by
  have h3:=iv x;have h4:=(h2 (l++[x]) p (by omega)).weak hp;cases hx:R.rest (l++[x]) p with
  | out=>rw[hx]at h4;exact h4
  | bad e n=>rw[hx]at h4;exact h4
  | ok v q=>rw[hx]at h4;exact⟨h4.1,by have:=h4.2;rw[um,uJ]at this;omega⟩)
theorem o6:∀n,(∀r,2*r.length+1≤n->Tk fg r.length r ((gN z n).item r))/\(∀l r,2*r.length+2≤n->Tk aF (aF l+r.length) r ((gN z n).rest l r))
 | 0=>⟨fun r h=>by omega,fun l r h=>by omega⟩
 | n+1=>⟨fun r h=>Jp z fun p hp=>by have:=(o6 n).2 [] p (by omega);simp only[aF,T8]at this;exact this,fun l r h=>J7 z ((o6 n).1 r (by omega)) fun l p hp=>(o6 n).2 l p (by omega)⟩
def CP.le{α:Type}(x y:CP α):Prop:=x=.out\/x=y
section
variable {α β : Type} {z : Int} {r : List Tok}
theorem CP.le.rfl{x:CP α}:x.le x:=.inr (Eq.refl x)
theorem rF{x x':CP β}{f f':β->List Tok->CP α}(h:x.le x')(hf:∀e r,(f e r).le (f' e r)):(x.bind f).le (x'.bind f'):=by
 rcases h with rfl|rfl
 .exact .inl (Eq.refl _)
 .cases x with
  | out=>exact .inl (Eq.refl _)
  | bad e r=>exact .rfl
  | ok e r=>exact hf e r
theorem rm{m:ByteArray}{k k':List Tok->CP α}(h:∀r,(k r).le (k' r)):(bO z m r k).le (bO z m r k'):=by
 unfold bO;cases acc m r with
 | some r1=>exact h r1
 | none=>exact .rfl
theorem qf{m:ByteArray}{k k':List Tok->CP α}{n n':CP α}(h:∀r,(k r).le (k' r))(hn:n.le n'):(eC m r k n).le (eC m r k' n'):=by
 unfold eC;cases acc m r with
 | some r1=>exact h r1
 | none=>exact hn
theorem AR{k k':ByteArray->List Tok->CP α}(h:∀s r,(k s r).le (k' s r)):(dP z r k).le (dP z r k'):=by
 unfold dP;cases bW r with
 | some p=>exact h _ _
 | none=>exact .rfl
theorem JY{k k':Ex->List Tok->CP α}(h:∀s r,(k s r).le (k' s r)):(exC z r k).le (exC z r k'):=by
 unfold exC;cases par .W r with
 | out=>exact .rfl
 | bad c q=>exact .rfl
 | ok e q=>
  simp only;split
  .exact h _ _
  .exact .rfl
end
theorem wz{R S:Rec}(h1:∀r,(R.item r).le (S.item r))(h2:∀l r,(R.rest l r).le (S.rest l r)):(∀r,((kB z R).item r).le ((kB z S).item r))/\∀l r,((kB z R).rest l r).le ((kB z S).rest l r):=by
 have hb:∀q,(fK z R q).le (fK z S q):=fun q=>rm fun p=>h2 [] p;refine⟨fun r=>?_,fun l r=>qf (fun _=>.rfl) (rF (h1 r) fun x p=>h2 _ p)⟩;refine qf (fun _=>.rfl) <| qf (fun _=>.rfl) <| qf (fun r1=>?_) <| qf (fun r1=>?_) <| .rfl
 .exact rm fun r2=>JY fun e r3=>rm fun r4=>rF (hb r4) fun l r5=>rF (qf hb .rfl) fun _ _=>.rfl
 .exact AR fun i r2=>rm fun r3=>AR fun s r4=>rF (hb r4) fun _ _=>.rfl
theorem rD:∀n,(∀r,((gN z n).item r).le ((gN z (n+1)).item r))/\∀l r,((gN z n).rest l r).le ((gN z (n+1)).rest l r)
 | 0=>⟨fun _=>.inl rfl,fun _ _=>.inl rfl⟩
 | n+1=>wz z (rD n).1 (rD n).2
theorem le_trans{α:Type}{x y w:CP α}(h:x.le y)(h2:y.le w):x.le w:=by
 rcases h with rfl|rfl
 .exact .inl rfl
 .exact h2
theorem ng{n m:Nat}(h:n≤m):(∀r,((gN z n).item r).le ((gN z m).item r))/\∀l r,((gN z n).rest l r).le ((gN z m).rest l r):=by
 induction h with
 | refl=>exact⟨fun _=>.rfl,fun _ _=>.rfl⟩
 | step h ih=>exact⟨fun r=>le_trans (ih.1 r) ((rD z _).1 r),fun l r=>le_trans (ih.2 l r) ((rD z _).2 l r)⟩
theorem kL(r:List Tok):Tk fg r.length r (jn z r):=(o6 z _).1 r (T4 _)
theorem wA(l:List It)(r:List Tok):Tk aF (aF l+r.length) r (jI z l r):=(o6 z _).2 l r (T4 _)
theorem Tk.ne{α:Type}{sz:α->Nat}{c:Nat}{r:List Tok}{x:CP α}(h:Tk sz c r x):x≠.out:=by rintro rfl;exact h
theorem uK(n:Nat)(r:List Tok):((gN z n).item r).le (jn z r):=by
 rcases T9 n (2*r.length+1)with h|h
 .exact(ng z h).1 r
 .rcases(ng z h).1 r with e|e
  .exact absurd e (kL z r).ne
  .exact .inr e.symm
theorem uE(n:Nat)(l:List It)(r:List Tok):((gN z n).rest l r).le (jI z l r):=by
 rcases T9 n (2*r.length+2)with h|h
 .exact(ng z h).2 l r
 .rcases(ng z h).2 l r with e|e
  .exact absurd e (wA z l r).ne
  .exact .inr e.symm
theorem Ib(r:List Tok):jn z r=(kB z (jM z)).item r:=by
 rcases(wz z (S:=jM z) (uK z (2*r.length)) (uE z (2*r.length))).1 r with e|e
 .exact absurd e (kL z r).ne
 .exact e
theorem GD(l:List It)(r:List Tok):jI z l r=(kB z (jM z)).rest l r:=by
 rcases(wz z (S:=jM z) (uK z (2*r.length+1)) (uE z (2*r.length+1))).2 l r with e|e
 .exact absurd e (wA z l r).ne
 .exact e
theorem xr(r:List Tok):Tk zr1 r.length r (p8 z r):=
 iL (TU _) (fun r1 h1 l1=>mh h1 fun n r2 h2 l2=>by
  split
  .exact(by decide:(5:Int)≠0)
  .exact cR h2 fun r3 h3 l3=>⟨h3,nM (by omega)⟩) ⟨TU _,nM (T4 _)⟩
theorem kr(m:Int)(r:List Tok):Tk gS r.length r (eV z m r):=
 j8 (TU _) fun s r1 h1 l1=>cy ((xr z r1).weak h1) fun k r2 h2 l2=>cR h2 fun r3 h3 l3=>mh h3 fun w r4 h4 l4=>
  cy (sy:=zr1) (c':=r4.length) (by
   split
   .exact cR h4 fun r5 h5 l5=>mh h5 fun v r6 h6 l6=>⟨h6,nM (by omega)⟩
   .exact⟨h4,nM (T4 _)⟩) fun v r5 h5 l5=>cR h5 fun r6 h6 l6=>⟨h6,by unfold gS;omega⟩
theorem rS{α:Type}{x:CP α}{l:List α}{r r1:List Tok}{sz:α->Nat}(h1:r1 <:+ r)(l1:r1.length≤r.length)(h:Tk sz r1.length r1 x)(hp:∀v,1≤sz v):Tk (fun v=>max v.length (l.length+1)) (l.length+r.length) r (x.bind fun v q=>.ok (l++[v]) q):=
 cy (h.weak h1) fun v q hq hs=>⟨hq,by have:=hp v;simp only[T0,TW];omega⟩
def eM(z:Int)(l:List Fl)(r:List Tok):Option (CP (List Fl)):=match acc pi r with
 | some r1=>some ((eV z 1 r1).bind fun x q=>.ok (l++[x]) q)
 | none=>match acc lj r with
  | some r1=>some ((eV z 2 r1).bind fun x q=>.ok (l++[x]) q)
  | none=>match acc lv r with
   | some r1=>some ((eV z 0 r1).bind fun x q=>.ok (l++[x]) q)
   | none=>none
theorem ov(z:Int):Stp TY (eM z):=by
 intro l r x hx;unfold eM at hx;cases h1:acc pi r with
 | some r1=>rw[h1]at hx;cases hx;exact rS (az h1).1 (T5 (az h1).2) (kr z 1 r1) fun _=>T4 _
 | none=>
 cases h2:acc lj r with
 | some r1=>rw[h1,h2]at hx;cases hx;exact rS (az h2).1 (T5 (az h2).2) (kr z 2 r1) fun _=>T4 _
 | none=>
 cases h3:acc lv r with
 | some r1=>rw[h1,h2,h3]at hx;cases hx;exact rS (az h3).1 (T5 (az h3).2) (kr z 0 r1) fun _=>T4 _
 | none=>rw[h1,h2,h3]at hx;cases hx
theorem qP{z:Int}:Hv (eM z):=(ov z).eats
theorem uO(r:List Tok):Tk TY r.length r (gJ z r):=mO (ov z) (TU _) (by simp)
def bsz(l:List (ByteArray×List It)):Nat:=(l.map fun b=>1+aF b.2).sum
def ksz(c:Kl):Nat:=1+c.flds.length+bsz c.blks
theorem mm{r q:List Tok}(hq:q <:+ r):Tk aF (q.length-1) r (fK z (jM z) q):=
 ry z (c:=0) (fun p _=>by have:=wA z [] p;simp only[aF,T8]at this;exact this) hq
theorem GE(r:List Tok):Tk (fun b:ByteArray×List It=>1+aF b.2) r.length r (iI z r):=
 j8 (TU _) fun s r1 h1 l1=>cy (mm z h1) fun l r2 h2 l2=>⟨h2,by simp only;omega⟩
theorem F2(l:List (ByteArray×List It))(b:ByteArray×List It):bsz (l++[b])=bsz l+(1+aF b.2):=by simp[bsz]
theorem ld(z:Int):Stp bsz fun(l:List (ByteArray×List It)) r=>(acc bS r).map fun r1=>(iI z r1).bind fun b r2=>.ok (l++[b]) r2:=by
 intro l r x hx;simp only at hx;cases ha:acc bS r with
 | none=>rw[ha]at hx;cases hx
 | some r2=>
  rw[ha]at hx;cases hx;have:=az ha;exact cy ((GE z r2).weak this.1) fun v q hq hs=>⟨hq,by simp only[F2]at *;omega⟩
theorem Ea(r:List Tok):Tk bsz r.length r (iZ z r):=mO (ld z) (TU _) (by simp[bsz])
theorem yi(r:List Tok):Tk ksz r.length r (lE z r):=
 cR (TU _) fun r1 h1 l1=>j8 h1 fun s r2 h2 l2=>cy (sy:=zr1) (c':=r2.length) (iL h2 (fun r3 h3 l3=>j8 h3 fun p r4 h4 l4=>⟨h4,nM (by omega)⟩) ⟨h2,nM (T4 _)⟩) fun p r3 h3 l3=>
  cR h3 fun r4 h4 l4=>cy ((uO z r4).weak h4) fun f r5 h5 l5=>cy ((Ea z r5).weak h5) fun b r6 h6 l6=>cR h6 fun r7 h7 l7=>⟨h7,by unfold ksz;simp only;omega⟩
theorem sj{α:Type}{sz:α->Nat}{p:List Tok->CP α}(hp:∀r,Tk sz r.length r (p r))(h1:∀x,1≤sz x):Hv fun(l:List α) r=>if r.isEmpty=true then none else some ((p r).bind fun x r1=>.ok (l++[x]) r1):=by
 intro l r x hx v q hv;simp only at hx;split at hx
 .cases hx
 cases hx;have h2:=hp r;cases hy:p r with
 | out=>rw[hy]at hv;cases hv
 | bad e n=>rw[hy]at hv;cases hv
 | ok y r3=>
  rw[hy]at hv h2;cases hv;have:=h2.2;have:=h1 y;omega
theorem tG(r:List Tok):Tk aF r.length r (iS z r):=by
 refine mO (sz:=aF) ?_ (TU _) (by simp[aF]);intro l r x hx;simp only at hx;split at hx
 .cases hx
 .cases hx;exact cy (kL z r) fun v q hq hs=>⟨hq,by have:=iv v;simp only[um,uJ];omega⟩
theorem vJ(r:List Tok):Tk ksz r.length r (pz z r):=
 cy (yi z r) fun c r1 h1 l1=>by
  split
  .exact⟨h1,l1⟩
  .exact rE
theorem jf(w:Int):(jM w).rest=jI w:=rfl
theorem tr(z:Int)(r:List Tok):jn z r=eC jU r (gu z 2) (eC jQ r (qU z) (eC ifW r (ifC z (jM z)) (eC iQ r (oK z (jM z)) (eC gH r (ma z) (gu z 1 r))))):=Ib z r
theorem ou(z:Int)(l:List It)(r:List Tok):jI z l r=eC (aa 125) r (fun r1=>.ok l r1) ((jn z r).bind fun x r1=>jI z (l++[x]) r1):=GD z l r
end Go.Proofs.YtnhphlmblenapaaGreatDoor
namespace Go.Proofs.YtnhphlmblenapaaGreatDoor
open Go.RowKit
def c11:Cd:=sq [oM 4 (.mv kF)] [0,1] (.seq (sq [oV 6 0,ZN 7 6,oV 8 1,ZN 9 8,Yn 10 7 9] [0,1,10] (.cond (.t 10) (sq [oM 4 (.mv kF)] [4] .ret) .skip)) (.seq (sq [oI 5 0] [0,1,5] (.block 0 (.loop (.seq (sq [oV 11 5,oV 12 0,ZN 13 12,Yl 14 11 13] [0,1,5,14] (.cond (.t 14) .skip (.exit 0))) (.seq (.block 1 (.seq (.draw [oV 17 0,oV 18 5,ZI 19 12 17 18,ZM 20 12 19,oV 21 1,oV 22 5,ZI 23 12 21 22,
 ZM 24 12 23,ZD 25 31 20 24,ZU 26 25] [0,1,5,26]) (.cond (.t 26) (sq [oM 4 (.mv kF)] [4] .ret) .skip))) (.ops [oV 15 5,Wa 16 15 1,oV 5 16] [0,1,5])))))) (sq [oM 4 (.mv kT)] [4] .ret)))
def SB:List RV:=[.t 4 false]
theorem k11:aG G.tab Tryz.f11 2 c11 SB=true:=by kernel_rfl
def c31:Cd:=sq [ZB 2 54 0,ZB 3 54 1,oM 4 (.mv kF)] [2,3] (.seq (sq [ZF 6 0 2,ZL 7 1 6,ZF 8 0 3,ZL 9 1 8,Yn 10 7 9,oV 11 10,oH 12 11 (zF 1 2),oH 13 11 (zM 4 12),oH 14 11 (zF 1 3),oH 15 11 (zM 4 14),oH 16 11 (zD 79 13 15),oH 17 11 (zU 16),ZP 18 11 17,oV 19 18,oH 20 19 (zF 5 2),oH 21 19 (zL 1 20),oH 22 19 (zF 5 3),oH 23 19 (zL 1 22),oH 24 19 (yn 21 23),ZP 25 19 24,oV 26 25,oH 27 26 (zF 6 2),
 oH 28 26 (zL 1 27),oH 29 26 (zF 6 3),oH 30 26 (zL 1 29),oH 31 26 (yn 28 30),ZP 32 26 31,oV 33 32,oH 34 33 (zF 7 2),oH 35 33 (zL 1 34),oH 36 33 (zN 35),oH 37 33 (zF 7 3),oH 38 33 (zL 1 37),oH 39 33 (zN 38),oH 40 33 (yn 36 39),ZP 41 33 40] [2,3,41] (.cond (.t 41) (sq [oM 4 (.mv kF)] [4] .ret) .skip)) (.seq (sq [oI 5 0] [2,3,5] (.block 0 (.loop (.seq (sq [oV 42 5,ZF 43 7 2,ZL 44 1 43,ZN 45 44,
 Yl 46 42 45] [2,3,5,46] (.cond (.t 46) .skip (.exit 0))) (.seq (.block 1 (.seq (.draw [ZF 49 7 2,ZL 50 1 49,oV 51 5,ZI 52 4 50 51,ZM 53 4 52,ZF 54 7 3,ZL 55 1 54,oV 56 5,ZI 57 4 55 56,ZM 58 4 57,oM 59 (.eqa true 56 [.i .i64,.i .i64,.i .i64,.b] (.t 53) (.t 58))] [2,3,5,59]) (.cond (.t 59) (sq [oM 4 (.mv kF)] [4] .ret) .skip))) (.ops [oV 47 5,Wa 48 47 1,oV 5 48] [2,3,5])))))) (sq [ZF 60 8 2,
 ZL 61 1 60,ZF 62 8 3,ZL 63 1 62,ZD 64 11 61 63,oV 65 64,oG 66 65 (zF 9 2),oG 67 65 (zL 1 66),oG 68 65 (zF 9 3),oG 69 65 (zL 1 68),oG 70 65 (zD 11 67 69),ZQ 71 65 70,oV 72 71,oG 73 72 (zF 10 2),oG 74 72 (zL 1 73),oG 75 72 (zF 10 3),oG 76 72 (zL 1 75),oG 77 72 (zD 80 74 76),ZQ 78 72 77,oV 79 78,oG 80 79 (zF 11 2),oG 81 79 (zL 1 80),oG 82 79 (zF 11 3),oG 83 79 (zL 1 82),oG 84 79 (zD 80 81 83),
 ZQ 85 79 84,oV 4 85] [4] .ret)))
def Ty:List RV:=[.t 4 false]
theorem k31:aG G.tab Tryz.f31 2 c31 Ty=true:=by kernel_rfl
def c80:Cd:=sq [oM 4 (.mv kF)] [0,1] (.seq (sq [oV 6 0,ZN 7 6,oV 8 1,ZN 9 8,Yn 10 7 9] [0,1,10] (.cond (.t 10) (sq [oM 4 (.mv kF)] [4] .ret) .skip)) (.seq (sq [oI 5 0] [0,1,5] (.block 0 (.loop (.seq (sq [oV 11 5,oV 12 0,ZN 13 12,Yl 14 11 13] [0,1,5,14] (.cond (.t 14) .skip (.exit 0))) (.seq (.block 1 (.seq (.draw [oV 17 0,oV 18 5,ZI 19 1 17 18,ZL 20 1 19,oV 21 1,oV 22 5,ZI 23 1 21 22,ZL 24 1 23,
 Yn 25 20 24] [0,1,5,25]) (.cond (.t 25) (sq [oM 4 (.mv kF)] [4] .ret) .skip))) (.ops [oV 15 5,Wa 16 15 1,oV 5 16] [0,1,5])))))) (.seq (.ops [oM 4 (.mv kT)] [4]) .ret)))
def SN:List RV:=[.t 4 false]
theorem k80:aG G.tab Tryz.f80 2 c80 SN=true:=by kernel_rfl
end Go.Proofs.YtnhphlmblenapaaGreatDoor
