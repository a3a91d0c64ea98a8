import Derived.Test.YthekkgfmagliiaaGreatDoorA18
import Derived.Orders
import Derived.RowKit
import Derived.Recover
namespace Go.Proofs.YthekkgfmagliiaaGreatDoor
open Go.RowKit
section
variable {C : Cx} {pr : Prot} {n : Nat} {Q : AEx → ak → List (List V) → Prop}
structure AV where
 d:Nat
 T:Nat
 bytes:Nat
 z:V
 s:Nat
 y:X
 st:Bool
 x:X
 k:X
 v:X
def AV.A(p:AV):O:=⟨some p.d,.appv p.T p.bytes p.z p.s p.y,none⟩
def AV.B(p:AV):O:=⟨none,.mst p.st p.x p.k p.v,none⟩
def reV(C:Cx)(σ1:List (List V)):List (O×ak×V)→Prop
 | []=>True
 | (o,ρ,v)::r=>aY C o.op ρ σ1 (fun u=>u=v)∧reV C σ1 r
def I3(C:Cx)(p:AV)(K:ak→List (List V)→Prop)(ρ:ak)(σ1:List (List V)):Prop:=
 ∃kv key,fM p.st σ1 (ev C ρ p.x)=some kv∧jy p.st (ev C ρ p.k)=some key∧K ρ (lS σ1 p.st (lh key (ev C ρ p.v).copy kv) (ev C ρ p.x))
def E8(C:Cx)(p:AV)(σ:List (List V))(K:ak→List (List V)→Prop):List O→List (O×ak×V)→ak→Prop
 | [],pend,ρ=>∃src,kK σ (ev C ρ p.y)=some src∧0<src.length∧m7 σ (get ρ p.s) src p.bytes p.z fun u σ1=>reV C σ1 pend∧I3 C p K (put ρ p.d u) σ1
 | o::r,pend,ρ=>o.g=none∧aY C o.op ρ σ fun v=>E8 C p σ K r ((o,ρ,v)::pend) (putd ρ o.dst v)
structure OKV(l:List O)(os:List Oper):Prop where
 two:2≤l.length
 lt:∀(i:Nat) (o:Oper),os[i]? = some o→∀j∈aL o,j<i
 cmp:∀(i:Nat) (o:O),l[i]? = some o→∀t∈o.looksG++o.dst.toList,∀(j:Nat) (q:O),l[j]? = some q→q.dst=some t→j≠i→(j<i∧j∈(aI os []).getD i [])∨(i<j∧i∈(aI os []).getD j [])
 calm:∀(i:Nat) (o:O),l[i]? = some o→i+2<l.length→o.op.isCalm=true
 last:∀(i:Nat) (o:O),l[i]? = some o→i+1≠l.length→i∈(aI os []).getD (l.length-1) []
end
end Go.Proofs.YthekkgfmagliiaaGreatDoor
namespace Go.Proofs.YthekkgfmagliiaaGreatDoor
open Go.RowKit
def cW(n0:Nat)(ρ:ak)(σ:List (List V))(ρ':ak)(σ':List (List V)):Prop:=
 ∀(M:av) (bm:List Nat) (tk:a6) (pr:Prot) (n:Nat) (a:Act) (w:World),SRel M bm tk pr ρ σ n a w→
  ∃M' bm',SRel M' bm' tk pr ρ' σ' n a w∧∀M0 bm0 w0,bm0.length=n0→Later M0 bm0 pr w0 M bm w→Later M0 bm0 pr w0 M' bm' w
theorem cW.refl(n0:Nat)(ρ:ak)(σ:List (List V)):cW n0 ρ σ ρ σ:=fun M bm _ _ _ _ _ h=>⟨M,bm,h,fun _ _ _ _ h=>h⟩
theorem cW.trans{n0:Nat}{ρ ρ' ρ'':ak}{σ σ' σ'':List (List V)}(h:cW n0 ρ σ ρ' σ')(k:cW n0 ρ' σ' ρ'' σ''):cW n0 ρ σ ρ'' σ'':=fun M bm tk pr n a w hs=>by
 obtain⟨M1,b1,h1,h2⟩:=h M bm tk pr n a w hs;obtain⟨M2,b2,h3,h4⟩:=k M1 b1 tk pr n a w h1;exact⟨M2,b2,h3,fun M0 bm0 w0 e hl=>h4 M0 bm0 w0 e (h2 M0 bm0 w0 e hl)⟩
theorem cW.keep(n0:Nat)(l:List Nat)(ρ:ak)(σ:List (List V)):cW n0 ρ σ (aC l ρ) σ:=fun M bm _ _ _ _ _ h=>⟨M,bm,h.keep l,fun _ _ _ _ h=>h⟩
theorem cW.cut{n0 k:Nat}{ρ:ak}{σ:List (List V)}(hk:n0≤k)(h1:az k (σ.take k)=true)(h2:aP k ρ=true):cW n0 ρ σ ρ (σ.take k):=fun M bm _ _ _ _ _ h=>
 ⟨M,bm.take k,h.drop h1 h2,fun _ _ _ e hl=>hl.drop (by omega)⟩
section
variable {M : av} {bm : List Nat} {tk : a6} {pr : Prot} {ρ : ak} {σ : List (List V)} {n : Nat} {a : Act} {w : World} {k : Nat}
end
end Go.Proofs.YthekkgfmagliiaaGreatDoor
namespace Go.Proofs.YthekkgfmagliiaaGreatDoor
open Go.RowKit
inductive Cd where
 | skip
 | ops (l:List O) (keep:List Nat)
 | draw (l:List O) (keep:List Nat)
 | draws (l:List O) (keep:List Nat)
 | drawb (s d0 d1 T k bytes:Nat) (y:X) (l:List O) (keep:List Nat)
 | drawx (pre:List O) (d:Option Nat) (f:FuncId) (args:List X) (post:List O) (kk:Nat) (y z:X) (keep:List Nat)
 | drawg (l:List (O×GK)) (keep:List Nat)
 | drawp (l:List O) (x:X)
 | seq (a b:Cd)
 | cond (x:X) (a b:Cd)
 | block (id:Nat) (a:Cd)
 | loop (a:Cd)
 | exit (id:Nat)
 | ret
abbrev bS:=AEx→ak→List (List V)→Prop
def andThen(next:ak→List (List V)→Prop)(Q:bS):bS:=fun e ρ σ=>match e with
 | .normal=>next ρ σ
 | e=>Q e ρ σ
def m9(id:Nat)(Q:bS):bS:=fun e ρ σ=>match e with
 | .exit j=>if j=id then Q .normal ρ σ else Q (.exit j) ρ σ
 | e=>Q e ρ σ
inductive Up:List (List V)→List (List V)→Prop
 | refl (σ:List (List V)):Up σ σ
 | step {σ σ':List (List V)} {i:Nat} {cs:List V} {off:Nat} (T:TypeId) (k:Nat) (h1:σ[i]? = some cs) (h2:cs[off]? = some .nil) (h:Up (σ.set i (cs.set off (.own T k []))) σ'):Up σ σ'
theorem SRel.nil_own{M:av}{bm:List Nat}{tk:a6}{pr:Prot}{ρ:ak}{σ:List (List V)}{n:Nat}{a:Act}{w:World}(h:SRel M bm tk pr ρ σ n a w){i:Nat}{cs:List V}{off:Nat}(T:TypeId)(k:Nat)(h1:σ[i]? = some cs)(h2:cs[off]? = some .nil):SRel M bm tk pr ρ (σ.set i (cs.set off (.own T k []))) n a w:=by
 refine⟨⟨h.inv.facts,by rw[List.length_set];exact h.inv.len,fun i' b cs' hi hc=>?_,h.inv.free,h.inv.bmnd,h.inv.tok,h.inv.inj,h.inv.prlt⟩,h.defers,h.size,h.slots⟩;by_cases e:i'=i
 ·subst e;obtain⟨vs,T',g1,g2,g3⟩:=(h.inv.box i' b cs hi h1).resolve_right fun hb=>by rcases hb with⟨st,kv,es,clock,rfl,-⟩|⟨T,k,rfl,-⟩<;>cases off<;>simp[tyc]at h2
  have hl:i'<σ.length:=(List.getElem?_eq_some_iff.1 h1).1;rw[List.getElem?_set_self hl]at hc;cases hc;refine .inl ⟨vs,T',g1,by rw[List.length_set];exact g2,fun j hj hj'=>?_⟩;have hj0:j<cs.length:=by simpa using hj
  obtain⟨k1,k2⟩:=g3 j hj0 hj';by_cases e2:j=off
  ·subst e2;have hn:cs[j]=.nil:=(List.getElem?_eq_some_iff.1 h2).2;rw[List.getElem_set_self];refine⟨?_,k2⟩;have hr:=k1.rep;rw[hn]at hr;generalize vs[j]=v at hr ⊢;cases hr;exact⟨.own (DRep.nil M),fun T2 k2 rows e=>by cases e;exact .inl ⟨rfl,rfl⟩⟩
  ·rw[List.getElem_set_ne (Ne.symm e2)];exact⟨k1,k2⟩
 ·rw[List.getElem?_set_ne (Ne.symm e)]at hc;exact h.inv.box i' b cs' hi hc
theorem SRel.up{M:av}{bm:List Nat}{tk:a6}{pr:Prot}{ρ:ak}{σ σ':List (List V)}{n:Nat}{a:Act}{w:World}(hu:Up σ σ')(h:SRel M bm tk pr ρ σ n a w):SRel M bm tk pr ρ σ' n a w:=by
 induction hu with
 | refl σ=>exact h
 | step T k h1 h2 _ ih=>exact ih (h.nil_own T k h1 h2)
theorem cW.up(n0:Nat)(ρ:ak){σ σ':List (List V)}(hu:Up σ σ'):cW n0 ρ σ ρ σ':=fun M bm _ _ _ _ _ h=>⟨M,bm,h.up hu,fun _ _ _ _ h=>h⟩
def awp(C:Cx)(n0:Nat):Cd→ak→List (List V)→bS→Prop
 | .skip,ρ,σ,Q=>Q .normal ρ σ
 | .ops l keep,ρ,σ,Q=>bZ C l ρ σ fun e ρ' σ'=>Q e (aC keep ρ') σ'
 | .draw l keep,ρ,σ,Q=>aH C l ρ σ fun ρ'=>Q .normal (aC keep ρ') σ
 | .draws l keep,ρ,σ,Q=>eX C σ l ρ none fun ρ' σ'=>Q .normal (aC keep ρ') σ'
 | .drawx pre d f args post kk y z keep,ρ,σ,Q=>Ck C pre d f args post kk y z ρ σ (fun ρ' σ'=>Q .normal (aC keep ρ') σ') (fun u σ'=>∀ρ',Q (.panic u) (aC keep ρ') σ')
 | .drawb s d0 d1 T k bytes y l keep,ρ,σ,Q=>zm C s d0 d1 T k bytes y l ρ σ fun ρ'=>Q .normal (aC keep ρ') σ
 | .drawg l keep,ρ,σ,Q=>dH C (fun u σ'=>∀ρ',Q (.panic u) (aC keep ρ') σ') (fun ρ' σ'=>Q .normal (aC keep ρ') σ') l 0 [] [] ρ σ
 | .drawp l x,ρ,σ,Q=>aH C l ρ σ fun ρ'=>∃ty u,ev C ρ' x=.iface ty u∧∀ρ2,Q (.panic (.iface ty u)) ρ2 σ
 | .seq a b,ρ,σ,Q=>awp C n0 a ρ σ (andThen (fun ρ' σ'=>awp C n0 b ρ' σ' Q) Q)
 | .cond x a b,ρ,σ,Q=>match ev C ρ x with
  | .d (.lit (.bool t))=>(t=true→awp C n0 a ρ σ Q)∧(t=false→awp C n0 b ρ σ Q)
  | _=>False
 | .block id a,ρ,σ,Q=>awp C n0 a ρ σ (m9 id Q)
 | .loop a,ρ,σ,Q=>∃(ρ1:ak) (σ1:List (List V)),cW n0 ρ σ ρ1 σ1∧∃I:Nat→ak→List (List V)→Prop,(∃m,I m ρ1 σ1)∧∀m ρ' σ',I m ρ' σ'→awp C n0 a ρ' σ' (andThen (fun ρ'' σ''=>∃m',m'<m∧∃ρ3 σ3,cW n0 ρ'' σ'' ρ3 σ3∧I m' ρ3 σ3) Q)
 | .exit id,ρ,σ,Q=>Q (.exit id) ρ σ
 | .ret,ρ,σ,Q=>Q .ret ρ σ
def okC(tab:Tab)(n:Nat):Cd→Code→Bool
 | .skip,.skip=>true
 | .ops l _,.region _ ops false=>eI tab n ops l ops.toList
 | .draw l _,.region _ ops true=>eI tab n ops l ops.toList&&nS l ops.toList
 | .draws l _,.region _ ops true=>eI tab n ops l ops.toList&&nM l ops.toList
 | .drawx pre d f args post kk y z _,.region _ ops true=>eI tab n ops (xL pre d f args post kk y z) ops.toList&&fq pre.length post.length (xL pre d f args post kk y z) ops.toList
 | .drawb s d0 d1 T k bytes y l _,.region _ ops true=>eI tab n ops (bL s d0 d1 T k bytes y l) ops.toList&&lE s d0 d1 y l ops.toList
 | .drawg l _,.region _ ops true=>eI tab n ops (l.map (·.1)) ops.toList&&lP l ops.toList
 | .drawp l x,.region _ ops true=>eI tab n ops (l++[⟨none,.pan x,none⟩]) ops.toList&&(fq (l.length-1) 0 (l++[⟨none,.pan x,none⟩]) ops.toList&&decide (1≤l.length))
 | .seq a b,.seq a' b'=>okC tab n a a'&&okC tab n b b'
 | .cond x a b,.cond x' a' b'=>okX x x'&&okC tab n a a'&&okC tab n b b'
 | .block i a,.block i' a'=>i==i'&&okC tab n a a'
 | .loop a,.loop a'=>okC tab n a a'
 | .exit i,.exit i'=>i==i'
 | .ret,.ret=>true
 | _,_=>false
section
variable {C : Cx} {n0 n : Nat} {pr : Prot} {M0 : av} {bm0 : List Nat} {w0 : World}
theorem ba.imp{M:av}{bm:List Nat}{w:World}{Q Q':bS}{e:Exit}{a:Act}{w':World}(hq:∀x ρ σ,Q x ρ σ→Q' x ρ σ)(h:ba M bm pr w n Q e a w'):ba M bm pr w n Q' e a w':=by
 obtain⟨M',bm',tk',ρ',σ',x,h1,h2⟩:=h;exact⟨M',bm',tk',ρ',σ',x,hq _ _ _ h1,h2⟩
theorem ba.keep{M:av}{bm:List Nat}{w:World}{Q:bS}{l:List Nat}{e:Exit}{a:Act}{w':World}(h:ba M bm pr w n (fun x ρ σ=>Q x (aC l ρ) σ) e a w'):ba M bm pr w n Q e a w':=by
 obtain⟨M',bm',tk',ρ',σ',x,h1,h2,h3,h4⟩:=h;exact⟨M',bm',tk',_,σ',x,h1,h2,h3.keep l,h4⟩
theorem jM(hG:C.glob M0 pr w0)(hn0:bm0.length=n0):∀{c:Cd} {c':Code} {M:av} {bm:List Nat} {tk:a6} {ρ:ak} {σ:List (List V)} {a:Act} {w:World} {Q:bS},okC C.tab n c c'=true→Later M0 bm0 pr w0 M bm w→SRel M bm tk pr ρ σ n a w→
 awp C n0 c ρ σ Q→c'.wp C.P (ba M0 bm0 pr w0 n Q) a w:=by
 intro c
 induction c with
 | skip=>
  intro c' M bm tk ρ σ a w Q hok hl h hq;cases c'<;>simp only[okC]at hok<;>first|(cases hok;done)|skip
  exact wp_skip ⟨M,bm,tk,ρ,σ,_,hq,.normal,h,hl⟩
 | ops l keep=>
  intro c' M bm tk ρ σ a w Q hok hl h hq;cases c' with
  | region id ops draw=>
   cases draw with
   | false=>
    have hok:eI C.tab n ops l ops.toList=true:=hok;exact wp_mono (wp_region_list (eV hG hok hl h hq)) (fun e a w hL=>ba.keep (l:=keep) hL)
   | true=>cases hok
  | _=>cases hok
 | draw l keep=>
  intro c' M bm tk ρ σ a w Q hok hl h hq;cases c' with
  | region id ops draw=>
   cases draw with
   | true=>
    have hok:(eI C.tab n ops l ops.toList&&nS l ops.toList)=true:=hok;simp only[Bool.and_eq_true]at hok;exact wp_mono (xe (Q:=fun x ρ σ=>Q x (aC keep ρ) σ) hG hok.1 hok.2 hl h hq) (fun e a w hL=>ba.keep (l:=keep) hL)
   | false=>cases hok
  | _=>cases hok
 | draws l keep=>
  intro c' M bm tk ρ σ a w Q hok hl h hq;cases c' with
  | region id ops draw=>
   cases draw with
   | true=>
    have hok:(eI C.tab n ops l ops.toList&&nM l ops.toList)=true:=hok;simp only[Bool.and_eq_true]at hok;exact wp_mono (uL (Q:=fun x ρ σ=>Q x (aC keep ρ) σ) hG hok.1 hok.2 hl h hq) (fun e a w hL=>ba.keep (l:=keep) hL)
   | false=>cases hok
  | _=>cases hok
 | drawp l x=>
  intro c' M bm tk ρ σ a w Q hok hl h hq;cases c' with
  | region id ops draw=>
   cases draw with
   | true=>
    have hok:(eI C.tab n ops (l++[⟨none,.pan x,none⟩]) ops.toList&&(fq (l.length-1) 0 (l++[⟨none,.pan x,none⟩]) ops.toList&&decide (1≤l.length)))=true:=hok;simp only[Bool.and_eq_true,decide_eq_true_eq]at hok;exact ur hG hok.1 hok.2.1 hok.2.2 hl h hq
   | false=>cases hok
  | _=>cases hok
 | drawb s0 d0 d1 T k bytes y l keep=>
  intro c' M bm tk ρ σ a w Q hok hl h hq;cases c' with
  | region id ops draw=>
   cases draw with
   | true=>
    have hok:(eI C.tab n ops (bL s0 d0 d1 T k bytes y l) ops.toList&&lE s0 d0 d1 y l ops.toList)=true:=hok;simp only[Bool.and_eq_true]at hok;exact wp_mono (uc (Q:=fun x ρ σ=>Q x (aC keep ρ) σ) hG hok.1 hok.2 hl h hq) (fun e a w hL=>ba.keep (l:=keep) hL)
   | false=>cases hok
  | _=>cases hok
 | drawx pre d f args post kk y z keep=>
  intro c' M bm tk ρ σ a w Q hok hl h hq;cases c' with
  | region id ops draw=>
   cases draw with
   | true=>
    have hok:(eI C.tab n ops (xL pre d f args post kk y z) ops.toList&&fq pre.length post.length (xL pre d f args post kk y z) ops.toList)=true:=hok;simp only[Bool.and_eq_true]at hok;exact wp_mono (uu (Q:=fun x ρ σ=>Q x (aC keep ρ) σ) hG hok.1 hok.2 hl h hq) (fun e a w hL=>ba.keep (l:=keep) hL)
   | false=>cases hok
  | _=>cases hok
 | drawg l keep=>
  intro c' M bm tk ρ σ a w Q hok hl h hq;cases c' with
  | region id ops draw=>
   cases draw with
   | true=>
    have hok:(eI C.tab n ops (l.map (·.1)) ops.toList&&lP l ops.toList)=true:=hok;simp only[Bool.and_eq_true]at hok;exact wp_mono (tg (Q:=fun x ρ σ=>Q x (aC keep ρ) σ) hG hok.1 hok.2 hl h hq) (fun e a w hL=>ba.keep (l:=keep) hL)
   | false=>cases hok
  | _=>cases hok
 | seq x y ihx ihy=>
  intro c' M bm tk ρ σ a w Q hok hl h hq;cases c'<;>simp only[okC,Bool.and_eq_true]at hok<;>first|(cases hok;done)|skip
  refine wp_seq (wp_mono (ihx hok.1 hl h hq) (fun e a' w' hL=>?_));obtain⟨M',bm',tk',ρ',σ',x,k1,k2,k3,k4⟩:=hL;cases k2 with
  | normal=>exact ihy hok.2 k4 k3 k1
  | ret=>exact⟨M',bm',tk',ρ',σ',_,k1,.ret,k3,k4⟩
  | exit id=>exact⟨M',bm',tk',ρ',σ',_,k1,.exit id,k3,k4⟩
  | panic hp=>exact⟨M',bm',tk',ρ',σ',_,k1,.panic hp,k3,k4⟩
 | cond x y z ihy ihz=>
  intro c' M bm tk ρ σ a w Q hok hl h hq;cases c'<;>simp only[okC,Bool.and_eq_true]at hok<;>first|(cases hok;done)|skip
  have hx:=au (hG.mono hl) h hok.1.1;simp only[awp]at hq;split at hq
  ·rename_i t e;rw[e]at hx;have hv:=hx.bool_inv;cases t with
   | true=>exact wp_cond_true hv (ihy hok.1.2 hl h (hq.1 rfl))
   | false=>exact wp_cond_false hv (ihz hok.2 hl h (hq.2 rfl))
  ·exact hq.elim
 | block id x ih=>
  intro c' M bm tk ρ σ a w Q hok hl h hq;cases c'<;>simp only[okC,Bool.and_eq_true,beq_iff_eq]at hok<;>first|(cases hok;done)|skip
  obtain⟨rfl,hok⟩:=hok;refine wp_block (wp_mono (ih hok hl h hq) (fun e a' w' hL=>?_));obtain⟨M',bm',tk',ρ',σ',x,k1,k2,k3,k4⟩:=hL;cases k2 with
  | normal=>exact⟨M',bm',tk',ρ',σ',_,k1,.normal,k3,k4⟩
  | ret=>exact⟨M',bm',tk',ρ',σ',_,k1,.ret,k3,k4⟩
  | exit j=>
   simp only[m9]at k1;simp only[Exit.inBlock];split
   ·rename_i e;rw[if_pos e]at k1;exact⟨M',bm',tk',ρ',σ',_,k1,.normal,k3,k4⟩
   ·rename_i e;rw[if_neg e]at k1;exact⟨M',bm',tk',ρ',σ',_,k1,.exit j,k3,k4⟩
  | panic hp=>exact⟨M',bm',tk',ρ',σ',_,k1,.panic hp,k3,k4⟩
 | loop x ih=>
  intro c' M bm tk ρ σ a w Q hok hl h hq;cases c'<;>simp only[okC]at hok<;>first|(cases hok;done)|skip
  obtain⟨ρ1,σ1,hsh,I,⟨m,hm⟩,hI⟩:=hq;obtain⟨M1,bm1,h1,h2⟩:=hsh M bm tk pr n a w h;have hl1:=h2 M0 bm0 w0 hn0 hl;rename_i c';intro b k cs
  have key:∀(m:Nat) (M:av) (bm:List Nat) (tk:a6) (ρ:ak) (σ:List (List V)) (a:Act) (w:World),Later M0 bm0 pr w0 M bm w→SRel M bm tk pr ρ σ n a w→I m ρ σ→
   ∃e a' w',ba M0 bm0 pr w0 n Q e a' w'∧Arrives C.P (lone (b.at a (.code c'::.inLoop c'::k)) cs w) b k cs e a' w':=by
   intro m
   induction m using Nat.strongRecOn with
   | _ m ihm=>
   intro M bm tk ρ σ a w hl h hm;obtain⟨e,a₁,w₁,hq,harr⟩:=ih hok hl h (hI m ρ σ hm) b (.inLoop c'::k) cs;obtain⟨M',bm',tk',ρ',σ',x,k1,k2,k3,k4⟩:=hq;cases k2 with
   | normal=>
    obtain⟨m',hlt,ρ3,σ3,g1,g4⟩:=k1;obtain⟨M3,bm3,g2,g3⟩:=g1 M' bm' tk' pr n a₁ w₁ k3;obtain⟨e₂,a₂,w₂,hq₂,harr₂⟩:=ihm m' hlt M3 bm3 tk' ρ3 σ3 a₁ w₁ (g3 M0 bm0 w0 hn0 k4) g2 g4;exact⟨e₂,a₂,w₂,hq₂,.of_steps (Steps.trans harr (.one step_inLoop)) harr₂⟩
   | ret=>exact⟨_,a₁,w₁,⟨M',bm',tk',ρ',σ',_,k1,.ret,k3,k4⟩,.pass (x:=.inLoop c') rfl (fun _ _=>.inl (by simp)) harr⟩
   | exit id=>exact⟨_,a₁,w₁,⟨M',bm',tk',ρ',σ',_,k1,.exit id,k3,k4⟩,.pass (x:=.inLoop c') rfl (fun _ _=>.inl (by simp)) harr⟩
   | panic hp=>exact⟨_,a₁,w₁,⟨M',bm',tk',ρ',σ',_,k1,.panic hp,k3,k4⟩,.pass (x:=.inLoop c') rfl (fun _ _=>.inl (by simp)) harr⟩
  obtain⟨e,a',w',hq,harr⟩:=key m M1 bm1 tk _ σ1 a w hl1 h1 hm;exact⟨e,a',w',hq,.of_steps (.one step_loop) harr⟩
 | exit id=>
  intro c' M bm tk ρ σ a w Q hok hl h hq;cases c'<;>simp only[okC,beq_iff_eq]at hok<;>first|(cases hok;done)|skip
  subst hok;exact wp_exit ⟨M,bm,tk,ρ,σ,_,hq,.exit id,h,hl⟩
 | ret=>
  intro c' M bm tk ρ σ a w Q hok hl h hq;cases c'<;>simp only[okC]at hok<;>first|(cases hok;done)|skip
  exact wp_ret ⟨M,bm,tk,ρ,σ,_,hq,.ret,h,hl⟩
end
end Go.Proofs.YthekkgfmagliiaaGreatDoor
namespace Go.Proofs.YthekkgfmagliiaaGreatDoor
open Go.RowKit
inductive D.Wf:D→Prop
 | lit (v:Value) (h:ct v):D.Wf (.lit v)
 | sl (rows:List (List D)) (hl:rows.length≤maxLen) (h:∀i j (hi:i<rows.length) (hj:j<rows[i].length),D.Wf rows[i][j]):D.Wf (.sl rows)
theorem DRep.wf{M:av}{x:D}{v:Value}(h:DRep M x v):x.Wf:=by
 induction h with
 | lit v h=>exact .lit v h
 | sl rows k p cap val hk hd hf hc hm ih=>exact .sl rows (by omega) ih
inductive V.Wf:V→Prop
 | d {x:D} (h:x.Wf):V.Wf (.d x)
 | own {T k:Nat} {rows:List (List D)} (h:(D.sl rows).Wf):V.Wf (.own T k rows)
 | agg {cs:List V} (h:∀i (h:i<cs.length),V.Wf cs[i]):V.Wf (.agg cs)
 | nil:V.Wf .nil
 | tup (cs:List V):V.Wf (.tup cs)
 | ptr (i o:Nat):V.Wf (.ptr i o)
 | bsl (i o n k:Nat):V.Wf (.bsl i o n k)
 | row (cs:List D) (o:Nat):V.Wf (.row cs o)
 | fn (f:FuncId) (cs:List V):V.Wf (.fn f cs)
 | bnd (f:FuncId) (cs:List V):V.Wf (.bnd f cs)
 | iface (t:TypeId) (v:V):V.Wf (.iface t v)
 | mp (i:Nat):V.Wf (.mp i)
 | bsc (i n c:Nat):V.Wf (.bsc i n c)
 | junk:V.Wf .junk
theorem Rep.wf{M:av}{bm:List Nat}{x:V}{v:Value}(h:Rep M bm x v):x.Wf:=by
 induction h with
 | d h=>exact .d h.wf
 | own h=>exact .own h.wf
 | nil=>exact .nil
 | agg hl h h1 ih=>exact .agg fun i hi=>ih i hi (by omega)
 | tup hl h ih=>exact .tup _
 | ptr h=>exact .ptr _ _
 | bsl h hc hm=>exact .bsl _ _ _ _
 | row val hf hd=>exact .row _ _
 | fn hl h ih=>exact .fn _ _
 | bnd hl h ih=>exact .bnd _ _
 | iface h ih=>exact .iface _ _
 | mp h=>exact .mp _
 | bsc h hc hm=>exact .bsc _ _ _
 | junk v=>exact .junk
inductive RV where
 | t (n:Nat) (own:Bool)
 | c (n k:Nat) (ag:Bool)
def zc(σ:List (List V))(ρ:ak):RV→Option V
 | .t n true=>some (get ρ n)
 | .t n false=>some (get ρ n).lend
 | .c n k ag=>(gq σ k ag (get ρ n)).map V.lend
def Ag(σ:List (List V))(ρ:ak):List RV→Option (List V)
 | []=>some []
 | r::rs=>match zc σ ρ r,Ag σ ρ rs with|some v,some l=>some (v.lend::l)|_,_=>none
def lZ(σ:List (List V))(ρ:ak):List RV→Option V
 | [r]=>zc σ ρ r
 | rs=>(Ag σ ρ rs).map V.tup
def Iq(tab:Tab):RV→ResultVar→Bool
 | .t n _,.tmp m=>n==m
 | .c n k ag,.cell m t=>n==m&&(match tab t with|some i=>i.sz==k&&i.agg==ag|none=>false)
 | _,_=>false
def lF(tab:Tab):List RV→List ResultVar→Bool
 | [],[]=>true
 | r::rs,r'::rs'=>Iq tab r r'&&lF tab rs rs'
 | _,_=>false
def aM(tab:Tab)(fn:Func)(m:Nat)(c:Cd)(rs:List RV):Bool:=
 (match fn.body with|some b=>okC tab fn.ntmps c b|none=>false)&&lF tab rs fn.results.toList&&decide (m≤fn.ntmps) && !(fn.name == "runtime.NumGoroutine")
def fin(n0:Nat)(rs:List RV)(Q:Out→List (List V)→Prop):bS:=fun e ρ σ'=>match e with
 | .normal=>∃ρ2 σ2,cW n0 ρ σ' ρ2 σ2∧∃v,lZ σ2 ρ2 rs=some v∧∃k,n0≤k∧az k (σ2.take k)=true∧V.under k v=true∧Q (.ret v) (σ2.take k)
 | .ret=>∃ρ2 σ2,cW n0 ρ σ' ρ2 σ2∧∃v,lZ σ2 ρ2 rs=some v∧∃k,n0≤k∧az k (σ2.take k)=true∧V.under k v=true∧Q (.ret v) (σ2.take k)
 | .panic v=>∃k,n0≤k∧az k (σ'.take k)=true∧V.under k v=true∧Q (.panic v) (σ'.take k)
 | .exit _=>False
def ac:Nat→List V→ak
 | _,[]=>[]
 | i,v::r=>(i,v)::ac (i+1) r
def Fe(tmps:Array Value):ResultVar→Sem Value
 | .tmp t=>pure (tmps.getD t undef)
 | .cell a t=>do loadVar t (←asAddr (tmps.getD a undef))
theorem oj(fn:Func)(tmps:Array Value):results fn tmps=(do
 let vs ←fn.results.mapM (Fe tmps)
 pure (if h:vs.size=1 then vs[0]else .tuple vs)):=by
 unfold results;congr 1
section
variable {C : Cx} {M : av} {bm : List Nat} {tk : a6} {pr : Prot} {ρ : ak} {σ : List (List V)} {n : Nat} {a : Act} {w : World}
theorem nZ(h:SRel M bm tk pr ρ σ n a w){r:RV}{r':ResultVar}(hok:Iq C.tab r r'=true){x:V}(hx:zc σ ρ r=some x):
 ∃v,(Fe a.tmps r').run C.P w=.ok v w∧∃t,CellOK M bm w x v t∧(t=none∨∃s,t=tk none s):=by
 unfold Iq at hok;split at hok
 ·rename_i m own m';simp only[beq_iff_eq]at hok;subst hok;cases own with
  | true=>cases hx;exact⟨_,rfl,_,h.slots m,.inr ⟨m,rfl⟩⟩
  | false=>cases hx;exact⟨_,rfl,none,⟨(h.slots m).rep.lend,fun _ _ _ e=>absurd e V.lend_own⟩,.inl rfl⟩
 ·rename_i m k ag m' t;simp only[Bool.and_eq_true,beq_iff_eq]at hok;obtain⟨rfl,h2⟩:=hok;split at h2
  ·rename_i i hi;simp only[Bool.and_eq_true,beq_iff_eq]at h2;obtain⟨rfl,rfl⟩:=h2;obtain⟨y,hy,rfl⟩:=Option.map_eq_some_iff.1 hx;obtain⟨v,h3,h4,h5⟩:=pL h.inv hi hy (h.slots m).rep;refine⟨v,?_,none,⟨h4.lend,fun _ _ _ e=>absurd e V.lend_own⟩,.inl rfl⟩
   have hptr:∃ad,a.tmps.getD m undef=.pointer (some ad):=by
    have hr:=(h.slots m).rep;unfold gq at hy;obtain⟨cs,hcs,-⟩:=Option.bind_eq_some_iff.1 hy;obtain⟨ad,vs,e,-⟩:=fE h.inv hcs hr;exact⟨ad,e⟩
   obtain⟨ad,e⟩:=hptr;simp only[Fe];rw[e]at h3 ⊢;simpa[Instr.loadAt,Instr.sureAddr,asAddr]using h3
  ·cases h2
 ·cases hok
theorem oE(h:SRel M bm tk pr ρ σ n a w):∀{rs:List RV} {rs':List ResultVar} {xs:List V},lF C.tab rs rs'=true→Ag σ ρ rs=some xs→
 ∃vs:List Value,(rs'.mapM (Fe a.tmps)).run C.P w=.ok vs w∧vs.length=xs.length∧rs'.length=xs.length∧∀i (h:i<xs.length) (h':i<vs.length),Rep M bm xs[i] vs[i]
 | [],[],xs,_,hx=>by cases hx;exact⟨[],rfl,rfl,rfl,fun i h=>by simp at h⟩
 | r::rs,r'::rs',xs,hok,hx=>by
  simp only[lF,Bool.and_eq_true]at hok;simp only[Ag]at hx;split at hx
  ·rename_i v l hv hl;cases hx;obtain⟨u,g1,t,g2,-⟩:=nZ h hok.1 hv;obtain⟨vs,k1,k2,k3,k4⟩:=oE h hok.2 hl;refine⟨u::vs,?_,by simp[k2],by simp[k3],fun i h1 h2=>?_⟩
   ·rw[List.mapM_cons,Sem.run_bind,g1,Result.andThen_ok,Sem.run_bind,k1];rfl
   ·cases i with
    | zero=>exact g2.rep.lend
    | succ i=>exact k4 i (by simpa using h1) (by simpa using h2)
  ·cases hx
 | [],_::_,_,hok,_=>by cases hok
 | _::_,[],_,hok,_=>by cases hok
theorem pf(h:SRel M bm tk pr ρ σ n a w){rs:List RV}{fn:Func}{x:V}(hok:lF C.tab rs fn.results.toList=true)(hx:lZ σ ρ rs=some x):
 ∃v,(results fn a.tmps).run C.P w=.ok v w∧∃t,CellOK M bm w x v t∧(t=none∨∃s,t=tk none s):=by
 rw[oj,Array.mapM_eq_mapM_toList];unfold lZ at hx;split at hx
 ·rename_i r
  match hrs:fn.results.toList,hok with
  | [r'],hok=>
   simp only[lF,Bool.and_true]at hok;obtain⟨v,g1,g2⟩:=nZ h hok hx;refine⟨v,?_,g2⟩;simp only[List.mapM_cons,List.mapM_nil,Sem.run_bind,Sem.run_map,g1,Result.andThen_ok,Sem.run_pure];rfl
  | [],hok=>cases hok
  | _::_::_,hok=>simp[lF]at hok
 ·rename_i hne;obtain⟨xs,hxs,rfl⟩:=Option.map_eq_some_iff.1 hx;obtain⟨vs,k1,k2,k3,k4⟩:=oE h hok hxs;refine⟨.tuple vs.toArray,?_,none,⟨.tup k2 k4,fun _ _ _ e=>by cases e⟩,.inl rfl⟩;simp only[Sem.run_bind,Sem.run_map,k1,Result.andThen_ok,Sem.run_pure]
  have hl:¬vs.toArray.size=1:=by
   intro e;have:fn.results.toList.length=1:=by rw[k3,←k2];simpa using e
   match rs,hne,hok with
   | [],_,hok=>match hrs:fn.results.toList,hok with | [],_=>rw[hrs]at this;cases this
   | [r],hne,_=>exact hne r rfl
   | _::_::_,_,hok=>match hrs:fn.results.toList,hok with
    | [_],hok=>simp[lF]at hok
    | _::_::_,_=>rw[hrs]at this;simp at this
  rw[dif_neg hl]
theorem iR:∀(args:List V) (i t:Nat),get (ac i args) t=if i≤t then(args[t-i]?).getD .junk else .junk
 | [],i,t=>by simp[ac,get]
 | v::r,i,t=>by
  simp only[ac,get];split
  ·rename_i e;subst e;simp
  ·rename_i e;rw[iR r (i+1) t];by_cases h:i≤t
   ·rw[if_pos (by omega),if_pos h,show t-i=(t-(i+1))+1 by omega];rfl
   ·rw[if_neg (by omega),if_neg h]
theorem bw{P:Program}{f:FuncId}{fn:Func}(hf:P.funcs[f]? = some fn)(hn:(fn.name == "runtime.NumGoroutine")=false)(hb:fn.body.isNone=false):
 ∀args w,(callFunc f args).run P w=.ok (.enter f args) w:=fun args w=>by
 have h1:fn.name ≠ "runtime.NumGoroutine" := by simpa using hn
 have h2:fn.body≠none:=fun h=>by rw[h]at hb;cases hb
 simp[callFunc,hf,h1,h2]
theorem qP{f:FuncId}{fn:Func}{c:Cd}{rs:List RV}{args:List V}{Q:Out→List (List V)→Prop}(hf:C.P.funcs[f]? = some fn)(hok:aM C.tab fn args.length c rs=true)
 (h:az σ.length σ=true→(∀i (h:i<args.length),V.Wf args[i])→awp C σ.length c (ac 0 args) σ (fin σ.length rs Q)):
 (∀as w,(callFunc f as).run C.P w=.ok (.enter f as) w)∧
 ∀(M:av) (bm:List Nat) (tk:a6) (pr:Nat→Prop) (w:World) (vs:List Value),C.glob M pr w→Inv M bm σ tk pr w→vs.length=args.length→(∀i (h:i<args.length) (h':i<vs.length),CellOK M bm w args[i] vs[i] (tk none i))→
  Calls C.P f vs.toArray w fun e w'=>∃M' bm' tk' σ' o,Q o σ'∧Inv M' bm' σ' tk' pr w'∧Later M bm pr w M' bm' w'∧OutOK M' bm' w' tk' o e:=by
 unfold aM at hok;simp only[Bool.and_eq_true,decide_eq_true_eq,Bool.not_eq_true']at hok;obtain⟨⟨⟨h1,h2⟩,h3⟩,h4⟩:=hok;cases hb:fn.body with
 | none=>rw[hb]at h1;cases h1
 | some body=>
 rw[hb]at h1;refine⟨bw hf h4 (by rw[hb];rfl),fun M bm tk pr0 w vs hG hI hl hr=>?_⟩;obtain⟨pr,rfl,hds⟩:∃pr:Prot,pr.p=pr0∧pr.ds=[]:=⟨⟨pr0,[]⟩,rfl,rfl⟩
 have hq:=h hI.under (fun i hi=>(hr i hi (by omega)).rep.wf);refine calls_of_wp hf hb ?_
 have hs:SRel M bm tk pr (ac 0 args) σ fn.ntmps {tmps:=vs.toArray++Array.replicate (fn.ntmps-vs.toArray.size) undef,defers:=[]} w:=by
  refine⟨hI,hds.symm,by simp;omega,fun t=>?_⟩;rw[iR,if_pos (Nat.zero_le _),Nat.sub_zero];by_cases hlt:t<args.length
  ·rw[List.getElem?_eq_getElem hlt,Option.getD_some]
   have hv:(vs.toArray++Array.replicate (fn.ntmps-vs.toArray.size) undef).getD t undef=vs[t]'(by omega):=by
    rw[Array.getD_eq_getD_getElem?,Array.getElem?_append_left (by simp;omega)];simp[show t<vs.length by omega]
   rw[hv];exact hr t hlt (by omega)
  ·rw[List.getElem?_eq_none (by omega),Option.getD_none];exact CellOK.junk ..
 refine wp_mono (jM hG hI.len h1 (Later.refl M bm pr w) hs hq) (fun e a' w' hL=>?_);obtain⟨M',bm',tk',ρ',σ',x,k1,k2,k3,k4⟩:=hL
 have cut:∀{M':av} {bm':List Nat} {ρ':ak} {σ':List (List V)} {k:Nat} (o:Option Nat),SRel M' bm' tk' pr ρ' σ' fn.ntmps a' w'→Later M bm pr w M' bm' w'→σ.length≤k→az k (σ'.take k)=true→(o=none∨∃s,o=tk' none s)→
  Inv M' (bm'.take k) (σ'.take k) (fun i j=>match i with|none=>if j=0 then o else none|some i=>tk' (some i) j) pr w'∧Later M bm pr w M' (bm'.take k) w':=by
  intro M' bm' ρ' σ' k o k3 k4 hk hbk ho;have hd:=k3.inv.drop hbk;refine⟨⟨hd.facts,hd.len,hd.box,hd.free,hd.bmnd,fun i j g hg=>?_,fun i j i' j' g g1 g2=>?_,hd.prlt⟩,k4.drop (by rw[hI.len];exact hk)⟩
  ·cases i with
   | some i=>exact hd.tok _ _ _ hg
   | none=>
    simp only at hg;split at hg
    ·rcases ho with rfl|⟨s,rfl⟩
     ·cases hg
     ·exact hd.tok _ _ _ hg
    ·cases hg
  ·cases i with
   | some i=>cases i' with
    | some i'=>exact hd.inj _ _ _ _ _ g1 g2
    | none=>
     simp only at g2;split at g2
     ·rcases ho with rfl|⟨s,rfl⟩
      ·cases g2
      ·have:=hd.inj _ _ _ _ _ g1 g2;simp at this
     ·cases g2
   | none=>cases i' with
    | some i'=>
     simp only at g1;split at g1
     ·rcases ho with rfl|⟨s,rfl⟩
      ·cases g1
      ·have:=hd.inj _ _ _ _ _ g1 g2;simp at this
     ·cases g1
    | none=>
     simp only at g1 g2;split at g1
     ·split at g2
      ·exact⟨rfl,by omega⟩
      ·cases g2
     ·cases g1
 have ret:∀ρ2 σ2,cW σ.length ρ' σ' ρ2 σ2→∀v,lZ σ2 ρ2 rs=some v→(∃k,σ.length≤k∧az k (σ2.take k)=true∧V.under k v=true∧Q (.ret v) (σ2.take k))→
  a'.defers=[]∧∃u,(results fn a'.tmps).run C.P w'=.ok u w'∧∃M' bm' tk' σ' o,Q o σ'∧Inv M' bm' σ' tk' pr w'∧Later M bm pr w M' bm' w'∧OutOK M' bm' w' tk' o (.returned u):=by
  rintro ρ2 σ2 hsh v hv ⟨k,g1,g2,g3,g4⟩;obtain⟨M2,bm2,s1,s2⟩:=hsh M' bm' tk' pr fn.ntmps a' w' k3;obtain⟨u,r1,t,r2,r3⟩:=pf s1 h2 hv;obtain⟨c1,c2⟩:=cut t s1 (s2 M bm w hI.len k4) g1 g2 r3;refine⟨k3.defers.trans hds,u,r1,M2,bm2.take k,_,σ2.take k,.ret v,g4,c1,c2,fun v' e=>?_,fun v' e=>by cases e⟩;cases e;exact⟨u,rfl,r2.rep.drop g3,by simpa using r2.own⟩
 cases k2 with
 | normal=>obtain⟨ρ2,σ2,g0,v,g1,g2⟩:=k1;exact ret ρ2 σ2 g0 v g1 g2
 | ret=>obtain⟨ρ2,σ2,g0,v,g1,g2⟩:=k1;exact ret ρ2 σ2 g0 v g1 g2
 | exit id=>exact k1.elim
 | panic hp=>
  obtain⟨k,g1,g2,g3,g4⟩:=k1;obtain⟨c1,c2⟩:=cut none k3 k4 g1 g2 (.inl rfl);exact⟨k3.defers.trans hds,M',bm'.take k,_,σ'.take k,_,g4,c1,c2,(fun v' e=>by cases e),fun v' e=>by cases e;exact⟨_,rfl,hp.drop g3⟩⟩
theorem qx{f:FuncId}{fn:Func}{c:Cd}{rs:List RV}{args:List V}{Q:Out→List (List V)→Prop}(hf:C.P.funcs[f]? = some fn)(hok:aM C.tab fn args.length c rs=true)(hno:args.all (! ·.isOwn)=true)
 (h:az σ.length σ=true→(∀i (h:i<args.length),V.Wf args[i])→awp C σ.length c (ac 0 args) σ (fin σ.length rs Q)):Fun C f args σ Q:=by
 obtain⟨h1,h2⟩:=qP hf hok h;refine⟨h1,fun M bm tk pr w vs hG hI _ hl hr=>h2 M bm tk pr w vs hG hI hl fun i g1 g2=>⟨hr i g1 g2,fun T k rows e=>?_⟩⟩;have:=List.all_eq_true.1 hno args[i] (List.getElem_mem g1);rw[e]at this;cases this
theorem xd{f:FuncId}{fn:Func}{c:Cd}{rs:List RV}{pre post:List V}{T k:Nat}{rows:List (List D)}{Q:Out→List (List V)→Prop}(hf:C.P.funcs[f]? = some fn)(hok:aM C.tab fn (pre++.own T k rows::post).length c rs=true)(hno:(pre++post).all (! ·.isOwn)=true)
 (h:az σ.length σ=true→(∀i (h:i<(pre++.own T k rows::post).length),V.Wf (pre++.own T k rows::post)[i])→awp C σ.length c (ac 0 (pre++.own T k rows::post)) σ (fin σ.length rs Q)):jx C f pre T k rows post σ Q:=by
 obtain⟨h1,h2⟩:=qP hf hok h;refine⟨h1,fun M bm tk pr w vs hG hI hl hr ho=>h2 M bm tk pr w vs hG hI hl fun i g1 g2=>⟨hr i g1 g2,fun T' k' rows' e=>?_⟩⟩;rw[List.all_append,Bool.and_eq_true]at hno;by_cases hi:i<pre.length
 ·rw[List.getElem_append_left hi]at e;have:=List.all_eq_true.1 hno.1 _ (List.getElem_mem hi);rw[e]at this;cases this
 ·rw[List.getElem_append_right (by omega)]at e;by_cases hm:i=pre.length
  ·subst hm;simp only[Nat.sub_self,List.getElem_cons_zero]at e;cases e;have e3:vs.getD pre.length undef=vs[pre.length]:=by simp[List.getD,g2]
   rw[e3]at ho;exact ho
  ·obtain⟨m,hm2⟩:∃m,i-pre.length=m+1:=⟨i-pre.length-1,by omega⟩
   simp only[hm2,List.getElem_cons_succ]at e;have:=List.all_eq_true.1 hno.2 _ (List.getElem_mem (l:=post) (n:=m) (by simp only[List.length_append,List.length_cons]at g1;omega));rw[e]at this;cases this
end
end Go.Proofs.YthekkgfmagliiaaGreatDoor
namespace Go.Proofs.YthekkgfmagliiaaGreatDoor
open Go.RowKit
inductive Tag{α:Type}(a:α):Type where
 | mk
def bX(o:Option V)(f:V→Prop)(_:Tag f):Prop:=match o with|some v=>f v|none=>False
theorem AC(v:V)(f:V→Prop)(t:Tag f):bX (some v) f t=f v:=rfl
def fnT(v:V)(f:FuncId→List V→Prop)(_:Tag f):Prop:=match v with | .fn g cap=>f g cap|_=>False
theorem Hv(g:FuncId)(cap:List V)(f:FuncId→List V→Prop)(t:Tag f):fnT (.fn g cap) f t=f g cap:=rfl
def IJ(v:V)(as:List V)(f:FuncId→List V→Prop)(_:Tag f):Prop:=match v with | .fn g cap=>f g (as++cap) | .bnd g first=>f g (first++as)|_=>False
theorem Fh(g:FuncId)(cap as:List V)(f:FuncId→List V→Prop)(t:Tag f):IJ (.fn g cap) as f t=f g (as++cap):=rfl
theorem CO(g:FuncId)(first as:List V)(f:FuncId→List V→Prop)(t:Tag f):IJ (.bnd g first) as f t=f g (first++as):=rfl
def wJ(v:V)(f:Nat→Nat→Prop)(_:Tag f):Prop:=match v with | .ptr i o=>f i o|_=>False
theorem Es(i o:Nat)(f:Nat→Nat→Prop)(t:Tag f):wJ (.ptr i o) f t=f i o:=rfl
def uN(v:V)(f:Nat→Nat→List (List D)→Prop)(_:Tag f):Prop:=match v with | .own T k rows=>f T k rows|_=>False
theorem Ds(T k:Nat)(rows:List (List D))(f:Nat→Nat→List (List D)→Prop)(t:Tag f):uN (.own T k rows) f t=f T k rows:=rfl
def ifT(v:V)(f:Nat→V→Prop)(_:Tag f):Prop:=match v with | .iface t v=>f t v|_=>False
theorem Ay(ty:Nat)(v:V)(f:Nat→V→Prop)(t:Tag f):ifT (.iface ty v) f t=f ty v:=rfl
def bxT(o:Option (List V))(f:List V→Prop)(_:Tag f):Prop:=match o with|some cs=>f cs|none=>False
theorem C4(cs:List V)(f:List V→Prop)(t:Tag f):bxT (some cs) f t=f cs:=rfl
def rwT(o:Option (List (List D)))(f:List (List D)→Prop)(_:Tag f):Prop:=match o with|some rows=>f rows|none=>False
theorem DR(rows:List (List D))(f:List (List D)→Prop)(t:Tag f):rwT (some rows) f t=f rows:=rfl
def GM(v:V)(f:Bool→Prop)(_:Tag f):Prop:=match v with | .d (.lit (.bool c))=>f c|_=>False
theorem wX(c:Bool)(f:Bool→Prop)(t:Tag f):GM (.d (.lit (.bool c))) f t=f c:=rfl
def qn(v:V)(f:Bool→Prop)(u:Unit→Prop)(_:Tag f)(_:Tag u):Prop:=match v with
 | .d (.lit (.bool c))=>f c
 | .tup []=>u ()
 | _=>False
theorem w9(c:Bool)(f:Bool→Prop)(u:Unit→Prop)(s:Tag f)(t:Tag u):qn (.d (.lit (.bool c))) f u s t=f c:=rfl
theorem CS(f:Bool→Prop)(u:Unit→Prop)(s:Tag f)(t:Tag u):qn (.tup []) f u s t=u ():=rfl
def pW(c:Bool)(A B:Unit→Prop)(_:Tag A)(_:Tag B):Prop:=(c=true→A ())∧(c=false→B ())
theorem Av(A B:Unit→Prop)(s:Tag A)(t:Tag B):pW true A B s t=A ():=by simp[pW]
theorem u9(A B:Unit→Prop)(s:Tag A)(t:Tag B):pW false A B s t=B ():=by simp[pW]
theorem aF{c:Bool}{A B:Unit→Prop}{s:Tag A}{t:Tag B}(h1:c=true→A ())(h2:c=false→B ()):pW c A B s t:=⟨h1,h2⟩
theorem F6(b:Bool):(b==true)=b:=by cases b<;>rfl
theorem Cu(b:Bool):(b==false) = !b:=by cases b<;>rfl
def onT(p:Prop)(A:Unit→Prop)(_:Tag A):Prop:=p∧A ()
theorem dG{p:Prop}{A:Unit→Prop}{t:Tag A}(h1:p)(h2:A ()):onT p A t:=⟨h1,h2⟩
theorem BR(A:Unit→Prop)(t:Tag A):onT True A t=A ():=by simp[onT]
def de(C:Cx)(n0:Nat)(c:Cd)(ρ:ak)(σ:List (List V))(Q:bS)(_:Tag Q):Prop:=awp C n0 c ρ σ Q
def be(C:Cx)(l:List O)(ρ:ak)(σ:List (List V))(Q:bS)(_:Tag Q):Prop:=bZ C l ρ σ Q
def aU(C:Cx)(l:List O)(ρ:ak)(σ:List (List V))(K:ak→Prop)(_:Tag K):Prop:=aH C l ρ σ K
def FT(K:V→List (List V)→Prop)(P:V→List (List V)→Prop):Out→List (List V)→Prop:=fun o σ'=>match o with
 | .ret v=>K v σ'
 | .panic v=>P v σ'
def Eg(C:Cx)(f:FuncId)(args:List V)(σ:List (List V))(K:V→List (List V)→Prop)(P:V→List (List V)→Prop)(_:Tag K)(_:Tag P):Prop:=Fun C f args σ (FT K P)
def Cq(C:Cx)(f:FuncId)(pre:List V)(T k:Nat)(rows:List (List D))(post:List V)(σ:List (List V))(K:V→List (List V)→Prop)(P:V→List (List V)→Prop)(_:Tag K)(_:Tag P):Prop:=jx C f pre T k rows post σ (FT K P)
def xZ(C:Cx)(f:FuncId)(args:List V)(σ:List (List V))(k:V→Prop)(_:Tag k):Prop:=∃v,Fun C f args σ (fun o σ'=>o=.ret v∧σ'=σ)∧k v
def Jg(x:V)(k:Int→Prop)(_:Tag k):Prop:=match x with
 | .d (.lit (.int _ n))=>k n
 | _=>False
theorem Eh(kd:IntKind)(n:Int){k:Int→Prop}(t:Tag k):Jg (.d (.lit (.int kd n))) k t=k n:=rfl
def stT(C:Cx)(l:List O)(ρ:ak)(σ:List (List V))(acc:Option (List (List V)))(K:ak→List (List V)→Prop)(_:Tag K):Prop:=eX C σ l ρ acc K
def BH(P:Program):Tab:=fun t=>
 match P.underlying t,P.info? t with
 | some d,some i=>match i.zero with
  | some z=>if z.cells.size=i.size then some ⟨d,i.size,i.bytes,z⟩else none
  | none=>none
 | _,_=>none
theorem B4(P:Program):ni P (BH P):=by
 intro t i h;unfold BH at h;split at h
 ·rename_i d inf h1 h2;split at h
  ·rename_i z hz;split at h
   ·rename_i hs;cases h;exact⟨h1,inf,h2,rfl,rfl,hz,hs⟩
   ·cases h
  ·cases h
 ·cases h
def cxk(P:Program)(gl:Nat→Option (List D))(kp:Nat→Option (Array Value→Prop))(h:P.follows .mixedOrders=true):Cx:=⟨P,BH P,gl,kp,B4 P,h,fun t=>!P.stoodInHeld t && !P.eqGuardType P.depth t,fun t ht=>by simpa using ht⟩
section
variable {C : Cx} {ρ : ak} {σ σ2 : List (List V)} {Q : bS} {K : ak → Prop} {KA : ak → List (List D) → Prop} {cc : Cell} {acc : Option (List (List D))} {KN : ak → List V → Prop} {cn : List V} {accn : Option (List V)} {KS : ak → List (List V) → Prop} {accs : Option (List (List V))} {n0 : Nat}
theorem Nd(n:Nat):ev C ρ (.t n)=get ρ n:=rfl
theorem NC(v:V):ev C ρ (.k v)=v:=rfl
theorem Cr(s:Nat)(u:V)(r:ak)(t:Nat):get ((s,u)::r) t=if s=t then u else get r t:=rfl
theorem Fx(t:Nat):get [] t=.junk:=rfl
theorem D4(s:Nat)(u:V)(r:ak)(t:Nat)(v:V):put ((s,u)::r) t v=if t<s then(t,v)::(s,u)::r else if t=s then(t,v)::r else(s,u)::put r t v:=rfl
theorem Gd(t:Nat)(v:V):put [] t v=[(t,v)]:=rfl
theorem zA(t:Nat)(v:V):putd ρ (some t) v=put ρ t v:=rfl
theorem yP(v:V):putd ρ none v=ρ:=rfl
theorem sO(l:List Nat):aC l []=[]:=rfl
theorem p8(l:List Nat)(s:Nat)(u:V)(r:ak):aC l ((s,u)::r)=if l.contains s=true then(s,u)::aC l r else aC l r:=by
 unfold aC;rw[List.filter_cons]
theorem O0(x:X)(d:Option Nat)(r:List O)(t:Tag Q):be C (⟨d,.mv x,none⟩::r) ρ σ Q t=be C r (putd ρ d (ev C ρ x).copy) σ Q .mk:=rfl
theorem ND(x:X)(d:Option Nat)(r:List O)(t:Tag K):aU C (⟨d,.mv x,none⟩::r) ρ σ K t=aU C r (putd ρ d (ev C ρ x).copy) σ K .mk:=rfl
theorem I7(x y z:X)(d:Option Nat)(r:List O)(t:Tag Q):be C (⟨d,.pick x y z,none⟩::r) ρ σ Q t=bX (i6 (ev C ρ x) (ev C ρ y) (ev C ρ z)) (fun v=>be C r (putd ρ d v) σ Q .mk) .mk:=rfl
theorem Hy(x y z:X)(d:Option Nat)(r:List O)(t:Tag K):aU C (⟨d,.pick x y z,none⟩::r) ρ σ K t=bX (i6 (ev C ρ x) (ev C ρ y) (ev C ρ z)) (fun v=>aU C r (putd ρ d v) σ K .mk) .mk:=by
 unfold aU bX;simp only[aH,aY,bz,pv];cases i6 (ev C ρ x) (ev C ρ y) (ev C ρ z)<;>rfl
theorem L6(o:BinOp)(x y:X)(d:Option Nat)(r:List O)(t:Tag Q):be C (⟨d,.bin o x y,none⟩::r) ρ σ Q t=bX (aN o (ev C ρ x) (ev C ρ y)) (fun v=>be C r (putd ρ d v) σ Q .mk) .mk:=rfl
theorem Lu(o:BinOp)(x y:X)(d:Option Nat)(r:List O)(t:Tag K):aU C (⟨d,.bin o x y,none⟩::r) ρ σ K t=bX (aN o (ev C ρ x) (ev C ρ y)) (fun v=>aU C r (putd ρ d v) σ K .mk) .mk:=by
 unfold aU bX;simp only[aH,aY,bz,pv];cases aN o (ev C ρ x) (ev C ρ y)<;>rfl
theorem Jb(o:BinOp)(x y:X)(d:Option Nat)(r:List O)(t:Tag Q):be C (⟨d,.binb o x y,none⟩::r) ρ σ Q t=bX (mU o (ev C ρ x) (ev C ρ y)) (fun v=>be C r (putd ρ d v) σ Q .mk) .mk:=rfl
theorem Jc(o:BinOp)(x y:X)(d:Option Nat)(r:List O)(t:Tag K):aU C (⟨d,.binb o x y,none⟩::r) ρ σ K t=bX (mU o (ev C ρ x) (ev C ρ y)) (fun v=>aU C r (putd ρ d v) σ K .mk) .mk:=by
 unfold aU bX;simp only[aH,aY,bz,pv];cases mU o (ev C ρ x) (ev C ρ y)<;>rfl
theorem J8(neq:Bool)(x:X)(d:Option Nat)(r:List O)(t:Tag Q):be C (⟨d,.nif neq x,none⟩::r) ρ σ Q t=bX (wT neq (ev C ρ x)) (fun v=>be C r (putd ρ d v) σ Q .mk) .mk:=by
 unfold be bX;simp only[bZ,cT,bz,pv];cases wT neq (ev C ρ x)<;>simp
theorem Jp(f:FuncId)(first:List X)(d:Option Nat)(r:List O)(t:Tag Q):be C (⟨d,.mkbd f first,none⟩::r) ρ σ Q t=be C r (putd ρ d (.bnd f (first.map (ev C ρ)))) σ Q .mk:=rfl
theorem OV(o:UnOp)(x:X)(d:Option Nat)(r:List O)(t:Tag Q):be C (⟨d,.un o x,none⟩::r) ρ σ Q t=bX (unV o (ev C ρ x)) (fun v=>be C r (putd ρ d v) σ Q .mk) .mk:=rfl
theorem OL(o:UnOp)(x:X)(d:Option Nat)(r:List O)(t:Tag K):aU C (⟨d,.un o x,none⟩::r) ρ σ K t=bX (unV o (ev C ρ x)) (fun v=>aU C r (putd ρ d v) σ K .mk) .mk:=by
 unfold aU bX;simp only[aH,aY,bz,pv];cases unV o (ev C ρ x)<;>rfl
theorem Hx(kd:IntKind)(x:X)(d:Option Nat)(r:List O)(t:Tag Q):be C (⟨d,.conv kd x,none⟩::r) ρ σ Q t=bX (xw kd (ev C ρ x)) (fun v=>be C r (putd ρ d v) σ Q .mk) .mk:=rfl
theorem FR(x:X)(d:Option Nat)(r:List O)(t:Tag Q):be C (⟨d,.nilck x,none⟩::r) ρ σ Q t=bX (hZ (ev C ρ x)) (fun v=>be C r (putd ρ d v) σ Q .mk) .mk:=rfl
theorem Fw(x:X)(d:Option Nat)(r:List O)(t:Tag K):aU C (⟨d,.nilck x,none⟩::r) ρ σ K t=bX (hZ (ev C ρ x)) (fun v=>aU C r (putd ρ d v) σ K .mk) .mk:=by
 unfold aU bX;simp only[aH,aY,bz,pv];cases hZ (ev C ρ x)<;>rfl
theorem gN{op:OP}{ρ:ak}{σ:List (List V)}{C:Cx}{k k':V→Prop}(hk:∀v,k v→k' v)(h:aY C op ρ σ k):aY C op ρ σ k':=by
 obtain⟨v,h1,h2⟩:=eE h;unfold aY at h1 ⊢;split at h1
 ·obtain⟨u,g1,g2⟩:=h1;subst g2;exact⟨u,g1,hk _ h2⟩
 ·split at h1
  ·obtain⟨u,g1,g2⟩:=h1;subst g2;exact⟨u,g1,hk _ h2⟩
  ·exact h1.elim
 ·split at h1
  ·exact⟨h1.1,by rw[h1.2];exact hk _ h2⟩
  ·exact h1.elim
 ·obtain⟨u,g1,g2⟩:=h1;subst g2;exact⟨u,g1,hk _ h2⟩
 ·split at h1
  ·subst h1;exact hk _ h2
  ·exact h1.elim
def kvT(a:Option (List (Key×V)))(b:Option Key)(f:List (Key×V)→Key→Prop)(_:Tag f):Prop:=match a,b with|some kv,some key=>f kv key|_,_=>False
theorem DZ(kv:List (Key×V))(key:Key)(f:List (Key×V)→Key→Prop)(t:Tag f):kvT (some kv) (some key) f t=f kv key:=rfl
def K1(v:V)(f:Nat→Nat→Nat→Prop)(_:Tag f):Prop:=match asB v with|some (i,off,n)=>f i off n|none=>False
theorem Ec(i off n:Nat)(f:Nat→Nat→Nat→Prop)(t:Tag f):K1 (.bsl i off n 1) f t=f i off n:=rfl
theorem Cl(i n c:Nat)(f:Nat→Nat→Nat→Prop)(t:Tag f):K1 (.bsc i n c) f t=f i 0 n:=rfl
def IB(v:V)(f g:Unit→Prop)(_:Tag f)(_:Tag g):Prop:=if rE v=true then f ()else g ()
theorem Ix(f g:Unit→Prop)(s:Tag f)(t:Tag g):IB (.d (.sl [])) f g s t=f ():=rfl
theorem Dt(i off n:Nat)(f g:Unit→Prop)(s:Tag f)(t:Tag g):IB (.bsl i off n 1) f g s t=g ():=rfl
theorem B5(i n c:Nat)(f g:Unit→Prop)(s:Tag f)(t:Tag g):IB (.bsc i n c) f g s t=g ():=rfl
def avT(x:V)(src:List V)(bytes:Nat)(z:V)(σ:List (List V))(f:V→List (List V)→Prop)(_:Tag f):Prop:=m7 σ x src bytes z f
theorem FF(src:List V)(bytes:Nat)(z:V)(σ:List (List V))(f:V→List (List V)→Prop)(t:Tag f):avT .nil src bytes z σ f t=(src.length*bytes≤140737488355328∧∀c,src.length≤c→f (.bsc σ.length src.length c) (σ++[src++List.replicate (c-src.length) z])):=rfl
theorem B6:gz []=some []:=rfl
theorem Du(i o n k:Nat)(r:List V):gz (.bsl i o n k::r)=(gz r).map fun l=>.bsl i o n k::l:=by
 simp only[gz,V.boxable1];cases gz r<;>rfl
theorem Iv(x:D)(r:List V):gz (.d x::r)=(gz r).map fun l=>.d x::l:=by
 simp only[gz,V.boxable1];cases gz r<;>rfl
theorem zp(i n c:Nat):nr false (.bsc i n c)=some (aW .i64 n):=rfl
theorem Dr(b n c:Nat)(kd:IntKind)(j:Nat):iaV 1 (.bsc b n c) (.d (.lit (.int kd (j:Int))))=if j<n then some (.ptr b j)else none:=by
 unfold iaV;simp only[Int.toNat_natCast,and_true,Nat.mul_one,Nat.zero_add];by_cases h:j<n
 ·rw[if_pos h,if_pos (by omega)]
 ·rw[if_neg h,if_neg (by omega)]
theorem H1(i n c:Nat):(V.bsc i n c).copy=.bsc i n c:=rfl
def HT(st ok:Bool)(z:V)(a:Option (List (Key×V)))(b:Option Key):Option V:=match a,b with|some kv,some key=>some (so ok z (lb key kv))|_,_=>none
theorem Kc(st ok:Bool)(z:V)(i:Nat)(y:V):D6 st ok z σ (.mp i) y=HT st ok z (wK st σ[i]?) (jy st y):=by
 unfold D6 HT fM;rfl
theorem AA(st ok:Bool)(z:V)(kv:List (Key×V))(key:Key):HT st ok z (some kv) (some key)=some (so ok z (lb key kv)):=rfl
theorem yz(st:Bool)(kv:List (Key×V)):wK st (some [.mapc st kv])=some kv:=by simp[wK]
theorem FA(n:Int):jy false (.d (.lit (.int .i64 n)))=some (.i n):=rfl
theorem Fu(s:ByteArray):jy true (.d (.lit (.string s)))=some (.s s):=rfl
theorem BT(st:Bool)(i:Nat):fM st σ (.mp i)=wK st σ[i]? := rfl
theorem DH(st:Bool)(kv:List (Key×V))(i:Nat):lS σ st kv (.mp i)=σ.set i [.mapc st kv]:=rfl
def KM(b:Option (List V)):Option V:=match b with|some [.mapc _ kv]=>if kv.length≤1000000000 then some (aW .i64 kv.length)else none|_=>none
theorem K3(i:Nat):EP σ (.mp i)=KM σ[i]? := rfl
theorem Bh(st:Bool)(kv:List (Key×V)):KM (some [.mapc st kv])=if kv.length≤1000000000 then some (aW .i64 kv.length)else none:=rfl
theorem Iy(z v:V):so false z (some v)=v:=rfl
theorem F8(z:V):so false z none=z:=rfl
theorem IO(z v:V):so true z (some v)=.tup [v,aA true]:=rfl
theorem FL(z:V):so true z none=.tup [z,aA false]:=rfl
theorem OG(x:D):(V.d x).copy=.d x:=rfl
theorem Jh(i o n k:Nat):(V.bsl i o n k).copy=.bsl i o n k:=rfl
theorem IE(T k:Nat)(rows:List (List D)):(V.own T k rows).copy=.d (.sl rows):=rfl
theorem Jf:V.nil.copy=.nil:=rfl
theorem Ig(cs:List V):(V.agg cs).copy=.agg cs:=rfl
theorem J2(i:Nat):(V.mp i).copy=.mp i:=rfl
def Is(n off:Nat)(b:Option (List V)):Option (List V):=match b with|some cs=>if off+n≤cs.length∧bC cs=true then some (((cs.drop off).take n).map V.copy)else(tyL n off cs).map fun l=>l.map V.copy|none=>none
theorem A5(n off:Nat)(cs:List V):Is n off (some cs)=if off+n≤cs.length∧bC cs=true then some (((cs.drop off).take n).map V.copy)else(tyL n off cs).map fun l=>l.map V.copy:=rfl
theorem Bo(i off n:Nat):kK σ (.bsl i off n 1)=Is n off σ[i]? := by
 unfold kK Is jp;simp only;cases σ[i]? with
 | none=>rfl
 | some cs=>simp only;split<;>rfl
theorem FU(rows:List (List D)):kK σ (.d (.sl rows))=if rows.all (fun r=>r.length==1)=true then some (rows.flatten.map V.d)else none:=rfl
theorem Oo(off:Nat)(x:X)(d:Option Nat)(r:List O)(t:Tag Q):be C (⟨d,.fa off x,none⟩::r) ρ σ Q t=bX (faV off (ev C ρ x)) (fun v=>be C r (putd ρ d v) σ Q .mk) .mk:=rfl
theorem M5(off:Nat)(x:X)(d:Option Nat)(r:List O)(t:Tag K):aU C (⟨d,.fa off x,none⟩::r) ρ σ K t=bX (faV off (ev C ρ x)) (fun v=>aU C r (putd ρ d v) σ K .mk) .mk:=by
 unfold aU bX;simp only[aH,aY,bz,pv];cases faV off (ev C ρ x)<;>rfl
theorem OB(kk:Nat)(x i:X)(d:Option Nat)(r:List O)(t:Tag Q):be C (⟨d,.ia kk x i,none⟩::r) ρ σ Q t=bX (iaV kk (ev C ρ x) (ev C ρ i)) (fun v=>be C r (putd ρ d v) σ Q .mk) .mk:=rfl
theorem M7(kk:Nat)(x i:X)(d:Option Nat)(r:List O)(t:Tag K):aU C (⟨d,.ia kk x i,none⟩::r) ρ σ K t=bX (iaV kk (ev C ρ x) (ev C ρ i)) (fun v=>aU C r (putd ρ d v) σ K .mk) .mk:=by
 unfold aU bX;simp only[aH,aY,bz,pv];cases iaV kk (ev C ρ x) (ev C ρ i)<;>rfl
theorem Nv(x i:X)(d:Option Nat)(r:List O)(t:Tag Q):be C (⟨d,.ix x i,none⟩::r) ρ σ Q t=bX (ixV (ev C ρ x) (ev C ρ i)) (fun v=>be C r (putd ρ d v) σ Q .mk) .mk:=rfl
theorem LB(off kk:Nat)(ag:Bool)(x:X)(d:Option Nat)(r:List O)(t:Tag Q):be C (⟨d,.fld off kk ag x,none⟩::r) ρ σ Q t=bX (vt off kk ag (ev C ρ x)) (fun v=>be C r (putd ρ d v) σ Q .mk) .mk:=rfl
theorem Lv(off kk:Nat)(ag:Bool)(x:X)(d:Option Nat)(r:List O)(t:Tag K):aU C (⟨d,.fld off kk ag x,none⟩::r) ρ σ K t=bX (vt off kk ag (ev C ρ x)) (fun v=>aU C r (putd ρ d v) σ K .mk) .mk:=by
 unfold aU bX;simp only[aH,aY,bz,pv];cases vt off kk ag (ev C ρ x)<;>rfl
theorem JD(s:Bool)(x:X)(d:Option Nat)(r:List O)(t:Tag Q):be C (⟨d,.len s x,none⟩::r) ρ σ Q t=bX (nr s (ev C ρ x)) (fun v=>be C r (putd ρ d v) σ Q .mk) .mk:=rfl
theorem Lq(s:Bool)(x:X)(d:Option Nat)(r:List O)(t:Tag K):aU C (⟨d,.len s x,none⟩::r) ρ σ K t=bX (nr s (ev C ρ x)) (fun v=>aU C r (putd ρ d v) σ K .mk) .mk:=by
 unfold aU bX;simp only[aH,aY,bz,pv];cases nr s (ev C ρ x)<;>rfl
theorem Ke(x:X)(i:Nat)(d:Option Nat)(r:List O)(t:Tag Q):be C (⟨d,.ext x i,none⟩::r) ρ σ Q t=bX (xr (ev C ρ x) i) (fun v=>be C r (putd ρ d v) σ Q .mk) .mk:=rfl
theorem Ln(x:X)(i:Nat)(d:Option Nat)(r:List O)(t:Tag K):aU C (⟨d,.ext x i,none⟩::r) ρ σ K t=bX (xr (ev C ρ x) i) (fun v=>aU C r (putd ρ d v) σ K .mk) .mk:=by
 unfold aU bX;simp only[aH,aY,bz,pv];cases xr (ev C ρ x) i<;>rfl
theorem Ji(kk:Nat)(ag:Bool)(x:X)(d:Option Nat)(r:List O)(t:Tag Q):be C (⟨d,.load kk ag x,none⟩::r) ρ σ Q t=bX (gq σ kk ag (ev C ρ x)) (fun v=>be C r (putd ρ d v) σ Q .mk) .mk:=rfl
theorem Ie(kk:Nat)(ag:Bool)(x:X)(d:Option Nat)(r:List O)(t:Tag K):aU C (⟨d,.load kk ag x,none⟩::r) ρ σ K t=bX (gq σ kk ag (ev C ρ x)) (fun v=>aU C r (putd ρ d v) σ K .mk) .mk:=by
 unfold aU bX;simp only[aH,aY,bz,pv];cases gq σ kk ag (ev C ρ x)<;>rfl
theorem Lh(zs:List V)(ps:List (Nat×Nat×X))(d:Option Nat)(r:List O)(t:Tag Q):be C (⟨d,.bld zs ps,none⟩::r) ρ σ Q t=bX ((al (ev C ρ) zs ps).map V.agg) (fun v=>be C r (putd ρ d v) σ Q .mk) .mk:=rfl
theorem JX(zs:List V)(ps:List (Nat×Nat×X))(d:Option Nat)(r:List O)(t:Tag K):aU C (⟨d,.bld zs ps,none⟩::r) ρ σ K t=bX ((al (ev C ρ) zs ps).map V.agg) (fun v=>aU C r (putd ρ d v) σ K .mk) .mk:=by
 unfold aU bX;simp only[aH,aY,bz,pv];cases al (ev C ρ) zs ps<;>rfl
theorem JN(s:Bool)(kk:Nat)(x:X)(lo hi:Option X)(d:Option Nat)(r:List O)(t:Tag Q):be C (⟨d,.sub s kk x lo hi,none⟩::r) ρ σ Q t=bX (pY s kk (ev C ρ x) (lo.map (ev C ρ)) (hi.map (ev C ρ))) (fun v=>be C r (putd ρ d v) σ Q .mk) .mk:=rfl
theorem Ll(s:Bool)(kk:Nat)(x:X)(lo hi:Option X)(d:Option Nat)(r:List O)(t:Tag K):aU C (⟨d,.sub s kk x lo hi,none⟩::r) ρ σ K t=bX (pY s kk (ev C ρ x) (lo.map (ev C ρ)) (hi.map (ev C ρ))) (fun v=>aU C r (putd ρ d v) σ K .mk) .mk:=by
 unfold aU bX;simp only[aH,aY,bz,pv];cases pY s kk (ev C ρ x) (lo.map (ev C ρ)) (hi.map (ev C ρ))<;>rfl
theorem Il(f:FuncId)(cap:List X)(d:Option Nat)(r:List O)(t:Tag Q):be C (⟨d,.mkfn f cap,none⟩::r) ρ σ Q t=be C r (putd ρ d (.fn f (cap.map (ev C ρ)))) σ Q .mk:=rfl
theorem KB(ty:TypeId)(x:X)(d:Option Nat)(r:List O)(t:Tag Q):be C (⟨d,.mki ty x,none⟩::r) ρ σ Q t=bX (DF ty (ev C ρ x)) (fun v=>be C r (putd ρ d v) σ Q .mk) .mk:=rfl
theorem Nk(g:Bool)(x y:X)(d:Option Nat)(r:List O)(t:Tag Q):be C (⟨d,.mx g x y,none⟩::r) ρ σ Q t=bX (mxV g (ev C ρ x) (ev C ρ y)) (fun v=>be C r (putd ρ d v) σ Q .mk) .mk:=rfl
theorem Hw(f:FuncId)(args:List X)(d:Option Nat)(r:List O)(t:Tag Q):be C (⟨d,.call f args,none⟩::r) ρ σ Q t=Eg C f (args.map fun x=>(ev C ρ x).lend) σ (fun v σ'=>be C r (putd ρ d v) σ' Q .mk) (fun v σ'=>Q (.panic v) ρ σ') .mk .mk:=rfl
theorem FX(x:X)(args:List X)(d:Option Nat)(r:List O)(t:Tag Q):be C (⟨d,.callv x args,none⟩::r) ρ σ Q t=IJ (ev C ρ x) (args.map fun x=>(ev C ρ x).lend) (fun f as=>Eg C f as σ (fun v σ'=>be C r (putd ρ d v) σ' Q .mk) (fun v σ'=>Q (.panic v) ρ σ') .mk .mk) .mk:=rfl
theorem LH(T:Nat)(cs:List V)(d:Option Nat)(r:List O)(t:Tag Q):be C (⟨d,.new T cs,none⟩::r) ρ σ Q t=be C r (putd ρ d (.ptr σ.length 0)) (σ++[cs]) Q .mk:=rfl
theorem LG(T:Nat)(x:X)(d:Option Nat)(r:List O)(t:Tag Q):be C (⟨d,.box T x,none⟩::r) ρ σ Q t=onT ((ev C ρ x).boxable=true) (fun _=>be C r (putd ρ d (.ptr σ.length 0)) (σ++[(ev C ρ x).cells]) Q .mk) .mk:=rfl
theorem IY(k:Int)(K:Int→Prop):tyT (.agg [.d (.lit (.pointer none)),.nil,.d (.lit (.int .i64 k))]) K=K k:=rfl
theorem JG(kk:Nat)(x y:X)(d:Option Nat)(r:List O)(t:Tag Q):be C (⟨d,.sto kk x y,none⟩::r) ρ σ Q t=wJ (ev C ρ x) (fun i o=>bxT σ[i]? (fun cs=>onT ((ev C ρ y).boxable=true∧(ev C ρ y).cells.length=kk∧o+kk≤cs.length∧bC cs=true) (fun _=>be C r ρ (σ.set i (over cs o (ev C ρ y).cells)) Q .mk) .mk) .mk) .mk:=rfl
theorem Lt(s:Nat)(d:Option Nat)(r:List O)(t:Tag Q):be C (⟨d,.mvo s,none⟩::r) ρ σ Q t=uN (get ρ s) (fun T k rows=>be C r (putd (put ρ s (.d (.sl rows))) d (.own T k rows)) σ Q .mk) .mk:=rfl
theorem IU(T k:Nat)(d:Option Nat)(r:List O)(t:Tag Q):be C (⟨d,.nilo T k,none⟩::r) ρ σ Q t=be C r (putd ρ d (.own T k [])) σ Q .mk:=rfl
theorem Ku(T k bytes s:Nat)(y:X)(d:Option Nat)(r:List O)(t:Tag Q):be C (⟨d,.app T k bytes s y,none⟩::r) ρ σ Q t=uN (get ρ s) (fun T' k' rows=>rwT (dV (ev C ρ y)) (fun rows2=>onT (T'=T∧k'=k∧rows2.all (fun r=>r.length==k)=true∧(rows.length+rows2.length)*bytes≤140737488355328) (fun _=>be C r (putd (put ρ s (.d (.sl rows))) d (.own T k (rows++rows2))) σ Q .mk) .mk) .mk) .mk:=by
 unfold be uN rwT onT;simp only[bZ,cT];cases get ρ s<;>simp only
 cases dV (ev C ρ y)<;>rfl
theorem LY(T k:Nat)(xs:List X)(d:Option Nat)(r:List O)(t:Tag Q):be C (⟨d,.mks T k xs,none⟩::r) ρ σ Q t=rwT (ae (xs.map (ev C ρ))) (fun rows=>onT (rows.all (fun r=>r.length==k)=true) (fun _=>be C r (putd ρ d (.d (.sl rows))) σ Q .mk) .mk) .mk:=rfl
theorem K6(T k bytes:Nat)(x:X)(d:Option Nat)(r:List O)(t:Tag Q):be C (⟨d,.mkc T k bytes x,none⟩::r) ρ σ Q t=Jg (ev C ρ x) (fun n=>onT (0≤n∧n*bytes≤140737488355328) (fun _=>be C r (putd ρ d (.own T k [])) σ Q .mk) .mk) .mk:=by
 unfold be Jg onT;simp only[bZ,cT];cases ev C ρ x with
 | d z=>cases z with
  | lit v=>cases v<;>rfl
  | sl rows=>rfl
 | _=>rfl
theorem H5(T k:Nat)(xs:List X)(d:Option Nat)(r:List O)(t:Tag Q):be C (⟨d,.mkso T k xs,none⟩::r) ρ σ Q t=rwT (ae (xs.map (ev C ρ))) (fun rows=>onT (rows.all (fun r=>r.length==k)=true) (fun _=>be C r (putd ρ d (.own T k rows)) σ Q .mk) .mk) .mk:=rfl
theorem JK(T:TypeId)(z:V)(x:X)(d:Option Nat)(r:List O)(t:Tag Q):be C (⟨d,.tas T z x,none⟩::r) ρ σ Q t=bX (C2 T z (ev C ρ x)) (fun v=>be C r (putd ρ d v) σ Q .mk) .mk:=rfl
theorem Mj(x:X)(d:Option Nat)(r:List O)(t:Tag Q):be C (⟨d,.pan x,none⟩::r) ρ σ Q t=ifT (ev C ρ x) (fun ty v=>Q (.panic (.iface ty v)) ρ σ) .mk:=rfl
theorem EI(d:Option Nat)(op:OP)(s:Nat)(b:Bool)(r:List O)(t:Tag Q):be C (⟨d,op,some (s,b)⟩::r) ρ σ Q t=qn (get ρ s) (fun c=>pW (c==b) (fun _=>be C (⟨d,op,none⟩::r) (put ρ s (.d (.lit (.bool b)))) σ Q .mk) (fun _=>be C r (putd (put ρ s (.d (.lit (.bool (!b))))) d (.tup [])) σ Q .mk) .mk .mk) (fun _=>be C r (putd ρ d (.tup [])) σ Q .mk) .mk .mk:=by
 unfold be qn pW;simp only[bZ,beq_iff_eq,beq_eq_false_iff_ne,ne_eq];all_goals rfl
theorem ME(t:Tag Q):be C [] ρ σ Q t=Q .normal ρ σ:=rfl
theorem H7(f:FuncId)(args:List X)(d:Option Nat)(r:List O)(t:Tag K):aU C (⟨d,.call f args,none⟩::r) ρ σ K t=xZ C f (args.map fun x=>(ev C ρ x).lend) σ (fun v=>aU C r (putd ρ d v) σ K .mk) .mk:=rfl
theorem EY(f:FuncId)(args:List X)(d:Option Nat)(r:List O)(t:Tag Q):be C (⟨d,.calln f args,none⟩::r) ρ σ Q t=Eg C f (args.map fun x=>(ev C ρ x).copy) σ (fun v σ'=>be C r (putd ρ d v) σ' Q .mk) (fun v σ'=>Q (.panic v) ρ σ') .mk .mk:=rfl
theorem Fb(x:X)(args:List X)(s:Nat)(d:Option Nat)(r:List O)(t:Tag Q):be C (⟨d,.callm x args s,none⟩::r) ρ σ Q t=fnT (ev C ρ x) (fun f cap=>uN (get ρ s) (fun T k rows=>Cq C f (args.map fun x=>(ev C ρ x).lend) T k rows cap σ (fun v σ'=>be C r (putd (put ρ s (.d (.sl rows))) d v) σ' Q .mk) (fun v σ'=>Q (.panic v) (put ρ s (.d (.sl rows))) σ') .mk .mk) .mk) .mk:=by
 unfold fnT uN Cq be;simp only[bZ,cT];cases ev C ρ x<;>cases get ρ s<;>rfl
theorem Ft(f:FuncId)(args:List X)(d:Option Nat)(r:List O)(t:Tag K):aU C (⟨d,.calln f args,none⟩::r) ρ σ K t=xZ C f (args.map fun x=>(ev C ρ x).copy) σ (fun v=>aU C r (putd ρ d v) σ K .mk) .mk:=rfl
theorem Jw(T k:Nat)(xs:List X)(d:Option Nat)(r:List O)(t:Tag K):aU C (⟨d,.mks T k xs,none⟩::r) ρ σ K t=rwT (ae (xs.map (ev C ρ))) (fun rows=>onT (rows.all (fun r=>r.length==k)=true) (fun _=>aU C r (putd ρ d (.d (.sl rows))) σ K .mk) .mk) .mk:=rfl
theorem FY(d:Option Nat)(op:OP)(s:Nat)(b:Bool)(r:List O)(t:Tag K):aU C (⟨d,op,some (s,b)⟩::r) ρ σ K t=qn (get ρ s) (fun c=>pW (c==b) (fun _=>aU C (⟨d,op,none⟩::r) (put ρ s (.d (.lit (.bool b)))) σ K .mk) (fun _=>aU C r (putd (put ρ s (.d (.lit (.bool (!b))))) d (.tup [])) σ K .mk) .mk .mk) (fun _=>aU C r (putd ρ d (.tup [])) σ K .mk) .mk .mk:=by
 unfold aU qn pW;simp only[aH,beq_iff_eq,beq_eq_false_iff_ne,ne_eq];all_goals rfl
theorem K9(t:Tag K):aU C [] ρ σ K t=K ρ:=rfl
theorem Oa(x:X)(d:Option Nat)(r:List O)(t:Tag KS):stT C (⟨d,.mv x,none⟩::r) ρ σ accs KS t=stT C r (putd ρ d (ev C ρ x).copy) σ accs KS .mk:=rfl
theorem LO(o:BinOp)(x y:X)(d:Option Nat)(r:List O)(t:Tag KS):stT C (⟨d,.bin o x y,none⟩::r) ρ σ accs KS t=bX (aN o (ev C ρ x) (ev C ρ y)) (fun v=>stT C r (putd ρ d v) σ accs KS .mk) .mk:=by
 unfold stT bX;simp only[eX,aY,bz,pv];cases aN o (ev C ρ x) (ev C ρ y)<;>rfl
theorem EJ(x:X)(d:Option Nat)(r:List O)(t:Tag KS):stT C (⟨d,.nilck x,none⟩::r) ρ σ accs KS t=bX (hZ (ev C ρ x)) (fun v=>stT C r (putd ρ d v) σ accs KS .mk) .mk:=by
 unfold stT bX;simp only[eX,aY,bz,pv];cases hZ (ev C ρ x)<;>rfl
theorem OI(off:Nat)(x:X)(d:Option Nat)(r:List O)(t:Tag KS):stT C (⟨d,.fa off x,none⟩::r) ρ σ accs KS t=bX (faV off (ev C ρ x)) (fun v=>stT C r (putd ρ d v) σ accs KS .mk) .mk:=by
 unfold stT bX;simp only[eX,aY,bz,pv];cases faV off (ev C ρ x)<;>rfl
theorem OU(kk:Nat)(x i:X)(d:Option Nat)(r:List O)(t:Tag KS):stT C (⟨d,.ia kk x i,none⟩::r) ρ σ accs KS t=bX (iaV kk (ev C ρ x) (ev C ρ i)) (fun v=>stT C r (putd ρ d v) σ accs KS .mk) .mk:=by
 unfold stT bX;simp only[eX,aY,bz,pv];cases iaV kk (ev C ρ x) (ev C ρ i)<;>rfl
theorem Id(kk:Nat)(ag:Bool)(x:X)(d:Option Nat)(r:List O)(t:Tag KS):stT C (⟨d,.load kk ag x,none⟩::r) ρ σ accs KS t=bX (gq σ kk ag (ev C ρ x)) (fun v=>stT C r (putd ρ d v) σ accs KS .mk) .mk:=by
 unfold stT bX;simp only[eX,aY,bz,pv];cases gq σ kk ag (ev C ρ x)<;>rfl
theorem Ks(zs:List V)(ps:List (Nat×Nat×X))(d:Option Nat)(r:List O)(t:Tag KS):stT C (⟨d,.bld zs ps,none⟩::r) ρ σ accs KS t=bX ((al (ev C ρ) zs ps).map V.agg) (fun v=>stT C r (putd ρ d v) σ accs KS .mk) .mk:=by
 unfold stT bX;simp only[eX,aY,bz,pv];cases al (ev C ρ) zs ps<;>rfl
theorem IC(f:FuncId)(args:List X)(d:Option Nat)(r:List O)(t:Tag KS):stT C (⟨d,.call f args,none⟩::r) ρ σ accs KS t=xZ C f (args.map fun x=>(ev C ρ x).lend) σ (fun v=>stT C r (putd ρ d v) σ accs KS .mk) .mk:=rfl
theorem Lj(T k:Nat)(xs:List X)(d:Option Nat)(r:List O)(t:Tag KS):stT C (⟨d,.mks T k xs,none⟩::r) ρ σ accs KS t=rwT (ae (xs.map (ev C ρ))) (fun rows=>onT (rows.all (fun r=>r.length==k)=true) (fun _=>stT C r (putd ρ d (.d (.sl rows))) σ accs KS .mk) .mk) .mk:=rfl
theorem LP(kk:Nat)(y z:X)(r:List O)(t:Tag KS):stT C (⟨none,.sto kk y z,none⟩::r) ρ σ none KS t=wJ (ev C ρ y) (fun i off=>bxT σ[i]? (fun cs=>onT ((ev C ρ z).boxable=true∧(ev C ρ z).cells.length=kk∧off+kk≤cs.length∧bC cs=true) (fun _=>stT C r ρ σ (some (σ.set i (over cs off (ev C ρ z).cells))) KS .mk) .mk) .mk) .mk:=by
 unfold stT onT wJ bxT;simp only[eX,true_and];cases ev C ρ y<;>first|rfl|(simp only;done)|(simp only;rfl)
theorem MC(σf:List (List V))(t:Tag KS):stT C [] ρ σ (some σf) KS t=KS ρ σf:=rfl
theorem F5(l:List O)(keep:List Nat)(t:Tag Q):de C n0 (.draws l keep) ρ σ Q t=stT C l ρ σ none (fun ρ' σ'=>Q .normal (aC keep ρ') σ') .mk:=rfl
theorem FS(s d0 d1 T k bytes:Nat)(y:X)(l:List O)(keep:List Nat)(t:Tag Q):de C n0 (.drawb s d0 d1 T k bytes y l keep) ρ σ Q t=uN (get ρ s) (fun T' k' rows=>onT (T'=T∧k'=k) (fun _=>aU C l ρ σ (fun ρ'=>rwT (dV (ev C ρ' y)) (fun r2=>onT (r2.all (fun r=>r.length==k)=true∧(rows.length+r2.length)*bytes≤140737488355328) (fun _=>Q .normal (aC keep (put (put (put ρ' s (.own T k (rows++r2))) d0 (.d (.sl rows))) d1 (.d (.sl (rows++r2))))) σ) .mk) .mk) .mk) .mk) .mk:=by
 unfold de uN rwT onT aU;first|(simp only[awp,zm,p7,and_assoc];done)|(simp only[awp,zm,p7,and_assoc];rfl)
def J6(C:Cx)(f:FuncId)(vs:List V)(pre:List O)(ρ ρ1:ak)(σ:List (List V))(k:V→List (List V)→Prop)(P:V→List (List V)→Prop)(_:Tag k)(_:Tag P):Prop:=
 (∃v σ1,Fun C f vs σ (fun o σ'=>o=.ret v∧σ'=σ1)∧aH C pre ρ σ1 (fun ρ'=>ρ'=ρ1)∧k v σ1)∨Fun C f vs σ (fun o σ'=>∃u,o=.panic u∧P u σ')
theorem Fn(pre:List O)(d:Option Nat)(f:FuncId)(args:List X)(post:List O)(kk:Nat)(y z:X)(keep:List Nat)(t:Tag Q):de C n0 (.drawx pre d f args post kk y z keep) ρ σ Q t=aU C pre ρ σ (fun ρ1=>J6 C f (args.map fun x=>(ev C ρ1 x).lend) pre ρ ρ1 σ (fun v σ1=>aU C post (putd ρ1 d v) σ1 (fun ρ2=>wJ (ev C ρ2 y) (fun i off=>bxT σ1[i]? (fun cs=>onT ((ev C ρ2 z).boxable=true∧(ev C ρ2 z).cells.length=kk∧off+kk≤cs.length∧bC cs=true) (fun _=>Q .normal (aC keep ρ2) (σ1.set i (over cs off (ev C ρ2 z).cells))) .mk) .mk) .mk) .mk) (fun u σ'=>∀ρ',Q (.panic u) (aC keep ρ') σ') .mk .mk) .mk:=by
 have key:∀(ρ2:ak) (σ1:List (List V)),(∃i off cs,ev C ρ2 y=.ptr i off∧σ1[i]? = some cs∧((ev C ρ2 z).boxable=true∧(ev C ρ2 z).cells.length=kk∧off+kk≤cs.length∧bC cs=true)∧Q .normal (aC keep ρ2) (σ1.set i (over cs off (ev C ρ2 z).cells)))=wJ (ev C ρ2 y) (fun i off=>bxT σ1[i]? (fun cs=>onT ((ev C ρ2 z).boxable=true∧(ev C ρ2 z).cells.length=kk∧off+kk≤cs.length∧bC cs=true) (fun _=>Q .normal (aC keep ρ2) (σ1.set i (over cs off (ev C ρ2 z).cells))) .mk) .mk) .mk:=by
  intro ρ2 σ1;unfold wJ bxT onT;apply propext;constructor
  ·rintro⟨i,off,cs,h1,h2,h3,h4⟩;rw[h1];simp only[h2];exact⟨h3,h4⟩
  ·intro h;cases hy:ev C ρ2 y<;>rw[hy]at h<;>simp only at h<;>first|exact h.elim|skip
   rename_i i off;cases hc:σ1[i]? with
   | none=>rw[hc]at h;exact h.elim
   | some cs=>rw[hc]at h;exact⟨i,off,cs,rfl,hc,h.1,h.2⟩
 unfold de aU J6;simp only[awp,Ck,key]
def gT(C:Cx)(l:List (O×GK))(m:Nat)(h:List (List (List V)))(p:List PendG)(ρ:ak)(σ:List (List V))(k:ak→List (List V)→Prop)(P:V→List (List V)→Prop)(_:Tag k)(_:Tag P):Prop:=dH C P k l m h p ρ σ
def gnx(F:ak→List (List V)→Prop):bS:=fun e ρ σ=>e=.normal∧F ρ σ
theorem u5(F:ak→List (List V)→Prop):gnx F .normal ρ σ=F ρ σ:=by simp[gnx]
section
variable {m : Nat} {h : List (List (List V))} {p : List PendG} {k : ak → List (List V) → Prop} {P : V → List (List V) → Prop} {r : List (O × GK)}
theorem Ma(s:Tag k)(t:Tag P):gT C [] m h p ρ σ k P s t=k ρ σ:=rfl
theorem HG(o:O)(lo:Nat)(s:Tag k)(t:Tag P):gT C ((o,.free lo)::r) m h p ρ σ k P s t=aU C [o] ρ σ (fun ρ'=>gT C r m h p ρ' σ k P .mk .mk) .mk:=rfl
theorem I9(o:O)(lo hi:Nat)(s:Tag k)(t:Tag P):gT C ((o,.calm lo hi)::r) m h p ρ σ k P s t=aU C [o] ρ σ (fun ρ'=>onT (jw C o ρ ρ' (m-lo) h) (fun _=>gT C r m h (pM m hi ⟨o,ρ,ρ',hi⟩ p) ρ' σ k P .mk .mk) .mk) .mk:=rfl
theorem Jk(o:O)(lo:Nat)(s:Tag k)(t:Tag P):gT C ((o,.slot lo)::r) m h p ρ σ k P s t=be C [o] ρ σ (gnx fun ρ' σ'=>gT C r m h p ρ' σ' k P .mk .mk) .mk:=rfl
def Ko(C:Cx)(f:FuncId)(vs:List V)(σ:List (List V))(R:List (List V)→Prop)(kk:V→List (List V)→Prop)(P:V→List (List V)→Prop)(pn:Unit→Prop)(_:Tag R)(_:Tag kk)(_:Tag P)(_:Tag pn):Prop:=
 (∃v σ1,Fun C f vs σ (fun o σ'=>o=.ret v∧σ'=σ1)∧R σ1∧kk v σ1)∨(Fun C f vs σ (fun o σ'=>∃u,o=.panic u∧P u σ')∧pn ())
theorem Js(d:Option Nat)(f:FuncId)(args:List X)(s:Tag k)(t:Tag P):gT C ((⟨d,.call f args,none⟩,.act)::r) m h p ρ σ k P s t=Ko C f (args.map fun x=>(ev C ρ x).lend) σ (fun σ1=>reG C (m+1) σ1 p) (fun v σ1=>gT C r (m+1) (σ::h) p (putd ρ d v) σ1 k P .mk .mk) P (fun _=>dD C r m h (putd ρ d .junk) σ) .mk .mk .mk .mk:=by
 unfold gT Ko;simp only[dH]
theorem Ky(d:Option Nat)(kk:Nat)(x y:X)(s:Tag k)(t:Tag P):gT C ((⟨d,.sto kk x y,none⟩,.act)::r) m h p ρ σ k P s t=be C [⟨d,.sto kk x y,none⟩] ρ σ (gnx fun ρ' σ'=>onT (reG C (m+1) σ' p) (fun _=>gT C r (m+1) (σ::h) p ρ' σ' k P .mk .mk) .mk) .mk:=by
 unfold gT;simp only[dH];rfl
theorem KH(d:Option Nat)(T:Nat)(cs:List V)(s:Tag k)(t:Tag P):gT C ((⟨d,.new T cs,none⟩,.act)::r) m h p ρ σ k P s t=be C [⟨d,.new T cs,none⟩] ρ σ (gnx fun ρ' σ'=>onT (reG C (m+1) σ' p) (fun _=>gT C r (m+1) (σ::h) p ρ' σ' k P .mk .mk) .mk) .mk:=by
 unfold gT;simp only[dH];rfl
theorem H6(σ':List (List V)):reG C m σ' []=True:=rfl
theorem Fs(o:O)(ρ1 ρ2:ak)(hi:Nat)(σ':List (List V)):reG C m σ' (⟨o,ρ1,ρ2,hi⟩::p)=onT (if m≤hi then aU C [o] ρ1 σ' (fun ρ'=>ρ'=ρ2) .mk else True) (fun _=>reG C m σ' p) .mk:=rfl
theorem Bz(o:O)(ρ1 ρ2:ak):jw C o ρ1 ρ2 0 h=True:=by cases h<;>rfl
theorem yC(o:O)(ρ1 ρ2:ak)(n:Nat):jw C o ρ1 ρ2 (n+1) (σ::h)=onT (aU C [o] ρ1 σ (fun ρ'=>ρ'=ρ2) .mk) (fun _=>jw C o ρ1 ρ2 n h) .mk:=rfl
theorem EA(hi:Nat)(x:PendG):pM m hi x p=if m<hi then x::p else p:=rfl
theorem KX:dD C [] m h ρ σ=True:=rfl
theorem I2(o:O)(lo:Nat):dD C ((o,.free lo)::r) m h ρ σ=if lo≤m then aU C [o] ρ σ (fun ρ'=>dD C r m h ρ' σ) .mk else dD C r m h (ap o (.junk,.junk) ρ) σ:=rfl
theorem Jj(o:O)(lo hi:Nat):dD C ((o,.calm lo hi)::r) m h ρ σ=if lo≤m then aU C [o] ρ σ (fun ρ'=>onT (jw C o ρ ρ' (m-lo) h) (fun _=>dD C r m h ρ' σ) .mk) .mk else dD C r m h (ap o (.junk,.junk) ρ) σ:=rfl
theorem Iu(o:O)(lo:Nat):dD C ((o,.slot lo)::r) m h ρ σ=if lo≤m then be C [o] ρ σ (gnx fun ρ' _=>dD C r m h ρ' σ) .mk else dD C r m h (ap o (.junk,.junk) ρ) σ:=rfl
theorem J4(o:O):dD C ((o,.act)::r) m h ρ σ=dD C r m h (ap o (.junk,.junk) ρ) σ:=rfl
end
theorem FZ(l:List (O×GK))(keep:List Nat)(t:Tag Q):de C n0 (.drawg l keep) ρ σ Q t=gT C l 0 [] [] ρ σ (fun ρ' σ'=>Q .normal (aC keep ρ') σ') (fun u σ'=>∀ρ',Q (.panic u) (aC keep ρ') σ') .mk .mk:=rfl
def vT(C:Cx)(p:AV)(σ:List (List V))(K:ak→List (List V)→Prop)(l:List O)(pend:List (O×ak×V))(ρ:ak)(_:Tag K):Prop:=E8 C p σ K l pend ρ
theorem ER(l:List O)(x:X)(t:Tag Q):de C n0 (.drawp l x) ρ σ Q t=aU C l ρ σ (fun ρ'=>ifT (ev C ρ' x) (fun ty u=>∀ρ2,Q (.panic (.iface ty u)) ρ2 σ) .mk) .mk:=by
 unfold de aU;simp only[awp];congr 1;funext ρ';unfold ifT;split
 ·rename_i ty u e;exact propext ⟨fun⟨_,_,e1,h⟩=>by rw[e]at e1;cases e1;exact h,fun h=>⟨_,_,e,h⟩⟩
 ·rename_i hne;exact propext ⟨fun⟨ty,u,e,_⟩=>hne ty u e,fun h=>h.elim⟩
theorem Fj(p:AV)(K:ak→List (List V)→Prop)(d:Option Nat)(op:OP)(r:List O)(pend:List (O×ak×V))(t:Tag K):vT C p σ K (⟨d,op,none⟩::r) pend ρ t=aU C [⟨some 0,op,none⟩] ρ σ (fun ρ'=>vT C p σ K r ((⟨d,op,none⟩,ρ,get ρ' 0)::pend) (putd ρ d (get ρ' 0)) .mk) .mk:=by
 unfold vT aU;simp only[E8,aH,true_and,putd];refine propext ⟨gN fun v hh=>?_,gN fun v hh=>?_⟩
 ·simpa only[bI,if_true]using hh
 ·simpa only[bI,if_true]using hh
theorem IL(d T bytes:Nat)(z:V)(s:Nat)(y:X)(st:Bool)(x k v:X)(K:ak→List (List V)→Prop)(pend:List (O×ak×V))(t:Tag K):vT C ⟨d,T,bytes,z,s,y,st,x,k,v⟩ σ K [] pend ρ t=bxT (kK σ (ev C ρ y)) (fun src=>onT (0<src.length) (fun _=>avT (get ρ s) src bytes z σ (fun u σ1=>onT (reV C σ1 pend) (fun _=>
 kvT (fM st σ1 (ev C (put ρ d u) x)) (jy st (ev C (put ρ d u) k)) (fun kv key=>K (put ρ d u) (lS σ1 st (lh key (ev C (put ρ d u) v).copy kv) (ev C (put ρ d u) x))) .mk) .mk) .mk) .mk) .mk:=by
 unfold vT bxT onT avT;simp only[E8]
 have inner:∀u σ1,(reV C σ1 pend∧I3 C ⟨d,T,bytes,z,s,y,st,x,k,v⟩ K (put ρ d u) σ1)=(reV C σ1 pend∧kvT (fM st σ1 (ev C (put ρ d u) x)) (jy st (ev C (put ρ d u) k)) (fun kv key=>K (put ρ d u) (lS σ1 st (lh key (ev C (put ρ d u) v).copy kv) (ev C (put ρ d u) x))) .mk):=fun u σ1=>by
  unfold I3 kvT;simp only;cases fM st σ1 (ev C (put ρ d u) x)<;>cases jy st (ev C (put ρ d u) k)<;>simp
 simp only[inner];cases kK σ (ev C ρ y)<;>simp
theorem EX:reV C σ []=True:=rfl
theorem Ek(d:Option Nat)(op:OP)(g:Option (Nat×Bool))(ρ1:ak)(v:V)(r:List (O×ak×V)):reV C σ ((⟨d,op,g⟩,ρ1,v)::r)=onT (aU C [⟨some 0,op,none⟩] ρ1 σ (fun ρ'=>get ρ' 0=v) .mk) (fun _=>reV C σ r) .mk:=by
 unfold onT aU;simp only[reV,aH,putd];refine propext ⟨fun⟨h1,h2⟩=>⟨gN (fun u hh=>?_) h1,h2⟩,fun⟨h1,h2⟩=>⟨gN (fun u hh=>?_) h1,h2⟩⟩
 ·simpa only[bI,if_true]using hh
 ·simpa only[bI,if_true]using hh
theorem Ia(t:Tag Q):de C n0 .skip ρ σ Q t=Q .normal ρ σ:=rfl
theorem KY(l:List O)(keep:List Nat)(t:Tag Q):de C n0 (.ops l keep) ρ σ Q t=be C l ρ σ (fun e ρ' σ'=>Q e (aC keep ρ') σ') .mk:=rfl
theorem H8(l:List O)(keep:List Nat)(t:Tag Q):de C n0 (.draw l keep) ρ σ Q t=aU C l ρ σ (fun ρ'=>Q .normal (aC keep ρ') σ) .mk:=rfl
theorem BW(a b:Cd)(t:Tag Q):de C n0 (.seq a b) ρ σ Q t=de C n0 a ρ σ (andThen (fun ρ' σ'=>de C n0 b ρ' σ' Q .mk) Q) .mk:=rfl
theorem Ij(x:X)(a b:Cd)(t:Tag Q):de C n0 (.cond x a b) ρ σ Q t=GM (ev C ρ x) (fun c=>pW c (fun _=>de C n0 a ρ σ Q .mk) (fun _=>de C n0 b ρ σ Q .mk) .mk .mk) .mk:=rfl
theorem Fy(id:Nat)(a:Cd)(t:Tag Q):de C n0 (.block id a) ρ σ Q t=de C n0 a ρ σ (m9 id Q) .mk:=rfl
theorem Jd(id:Nat)(t:Tag Q):de C n0 (.exit id) ρ σ Q t=Q (.exit id) ρ σ:=rfl
theorem LD(t:Tag Q):de C n0 .ret ρ σ Q t=Q .ret ρ σ:=rfl
theorem tU(next:ak→List (List V)→Prop):andThen next Q .normal ρ σ=next ρ σ:=rfl
theorem DC(next:ak→List (List V)→Prop):andThen next Q .ret ρ σ=Q .ret ρ σ:=rfl
theorem zj(next:ak→List (List V)→Prop)(i:Nat):andThen next Q (.exit i) ρ σ=Q (.exit i) ρ σ:=rfl
theorem vw(next:ak→List (List V)→Prop)(v:V):andThen next Q (.panic v) ρ σ=Q (.panic v) ρ σ:=rfl
theorem wt(id:Nat):m9 id Q .normal ρ σ=Q .normal ρ σ:=rfl
theorem EM(id:Nat):m9 id Q .ret ρ σ=Q .ret ρ σ:=rfl
theorem D0(id j:Nat):m9 id Q (.exit j) ρ σ=if j=id then Q .normal ρ σ else Q (.exit j) ρ σ:=rfl
theorem Aq(id:Nat)(v:V):m9 id Q (.panic v) ρ σ=Q (.panic v) ρ σ:=rfl
theorem dU{Q':bS}(hq:∀e ρ σ,Q e ρ σ→Q' e ρ σ):∀{l:List O} {ρ:ak} {σ:List (List V)},bZ C l ρ σ Q→bZ C l ρ σ Q'
 | [],ρ,σ,h=>hq _ _ _ h
 | o::r,ρ,σ,h=>by
  have step:∀{ρ:ak} {K K':ak→List (List V)→Prop},(∀ρ σ,K ρ σ→K' ρ σ)→cT C o.op o.dst ρ σ K Q→cT C o.op o.dst ρ σ K' Q':=by
   intro ρ K K' hk hr
   have hout:∀(o':Out) (σ':List (List V)),(match o' with | .ret v=>K (putd ρ o.dst v) σ' | .panic v=>Q (.panic v) ρ σ')→(match o' with | .ret v=>K' (putd ρ o.dst v) σ' | .panic v=>Q' (.panic v) ρ σ'):=by
    intro o' σ' hh;cases o' with
    | ret v=>exact hk _ _ hh
    | panic v=>exact hq _ _ _ hh
   generalize o.op=op at hr ⊢;unfold cT at hr ⊢;cases op<;>(try simp only at hr ⊢)
   case call f args=>exact hr.mono hout
   case callv x args=>generalize ev C ρ x=z at hr ⊢;cases z<;>(try simp only at hr ⊢)<;>first|exact hr.elim|exact hr.mono hout
   case calln f args=>exact hr.mono hout
   case callm x args t=>
    generalize ev C ρ x=z at hr ⊢;generalize get ρ t=z' at hr ⊢;split at hr;case h_2=>exact hr.elim
    refine hr.mono fun o' σ' hh=>?_;cases o' with
    | ret v=>exact hk _ _ hh
    | panic v=>exact hq _ _ _ hh
   case callo f t args=>
    generalize get ρ t=z' at hr ⊢;split at hr;case h_2=>exact hr.elim
    refine hr.mono fun o' σ' hh=>?_;cases o' with
    | ret v=>exact hk _ _ hh
    | panic v=>exact hq _ _ _ hh
   case new T cs=>exact hk _ _ hr
   case box T x=>exact⟨hr.1,hk _ _ hr.2⟩
   case sto k x y=>
    generalize ev C ρ x=z at hr ⊢;cases z<;>(try simp only at hr ⊢)<;>first|exact hr.elim|skip
    rename_i i off;generalize σ[i]? = z at hr ⊢;cases z<;>(try simp only at hr ⊢)<;>first|exact hr.elim|exact⟨hr.1,hk _ _ hr.2⟩
   case stoo x t=>
    generalize ev C ρ x=z at hr ⊢;cases z<;>(try simp only at hr ⊢)<;>first|exact hr.elim|skip
    rename_i i off;generalize get ρ t=z at hr ⊢;cases z<;>(try simp only at hr ⊢)<;>first|exact hr.elim|skip
    generalize σ[i]? = z at hr ⊢;cases z<;>(try simp only at hr ⊢)<;>first|exact hr.elim|exact⟨hr.1,hk _ _ hr.2⟩
   case ldo x=>
    generalize ev C ρ x=z at hr ⊢;cases z<;>(try simp only at hr ⊢)<;>first|exact hr.elim|skip
    rename_i i off;generalize σ[i]? = z at hr ⊢;cases z<;>(try simp only at hr ⊢)<;>first|exact hr.elim|skip
    rename_i cs;generalize cs[off]? = z at hr ⊢;cases z<;>(try simp only at hr ⊢)<;>first|exact hr.elim|skip
    rename_i v;cases v<;>(try simp only at hr ⊢)<;>first|exact hr.elim|exact hk _ _ hr
   case mvo t=>generalize get ρ t=z at hr ⊢;cases z<;>(try simp only at hr ⊢)<;>first|exact hr.elim|exact hk _ _ hr
   case nilo T k=>exact hk _ _ hr
   case app T k b t y=>
    generalize get ρ t=z at hr ⊢;cases z<;>(try simp only at hr ⊢)<;>first|exact hr.elim|skip
    generalize dV (ev C ρ y)=z at hr ⊢;cases z<;>(try simp only at hr ⊢)<;>first|exact hr.elim|exact⟨hr.1,hk _ _ hr.2⟩
   case mks T k xs=>generalize ae (xs.map (ev C ρ))=z at hr ⊢;cases z<;>(try simp only at hr ⊢)<;>first|exact hr.elim|exact⟨hr.1,hk _ _ hr.2⟩
   case mkso T k xs=>generalize ae (xs.map (ev C ρ))=z at hr ⊢;cases z<;>(try simp only at hr ⊢)<;>first|exact hr.elim|exact⟨hr.1,hk _ _ hr.2⟩
   case mkc T k bytes x=>
    generalize ev C ρ x=z at hr ⊢;cases z<;>(try simp only at hr ⊢)<;>first|exact hr.elim|skip
    rename_i z;cases z<;>(try simp only at hr ⊢)<;>first|exact hr.elim|skip
    rename_i z;cases z<;>(try simp only at hr ⊢)<;>first|exact hr.elim|exact⟨hr.1,hk _ _ hr.2⟩
   case mkb T bytes q x=>
    generalize ev C ρ x=z at hr ⊢;cases z<;>(try simp only at hr ⊢)<;>first|exact hr.elim|skip
    rename_i z;cases z<;>(try simp only at hr ⊢)<;>first|exact hr.elim|skip
    rename_i z;cases z<;>(try simp only at hr ⊢)<;>first|exact hr.elim|exact⟨hr.1,hk _ _ hr.2⟩
   case pan x=>generalize ev C ρ x=z at hr ⊢;cases z<;>(try simp only at hr ⊢)<;>first|exact hr.elim|exact hq _ _ _ hr
   case mmk st=>exact hk _ _ hr
   case mkv T xs=>generalize gz (xs.map (ev C ρ))=z at hr ⊢;cases z<;>(try simp only at hr ⊢)<;>first|exact hr.elim|exact hk _ _ hr
   case appv T bytes z t y=>
    generalize kK σ (ev C ρ y)=q at hr ⊢;cases q<;>(try simp only at hr ⊢)<;>first|exact hr.elim|exact⟨hr.1,vZ (fun v σ' hh=>hk _ _ hh) hr.2⟩
   case mst st x k v=>
    generalize fM st σ (ev C ρ x)=z at hr ⊢;cases z<;>(try simp only at hr ⊢)<;>first|exact hr.elim|skip
    generalize jy st (ev C ρ k)=z at hr ⊢;cases z<;>(try simp only at hr ⊢)<;>first|exact hr.elim|exact hk _ _ hr
   case mdl st x k=>
    generalize fM st σ (ev C ρ x)=z at hr ⊢;cases z<;>(try simp only at hr ⊢)<;>first|exact hr.elim|skip
    generalize jy st (ev C ρ k)=z at hr ⊢;cases z<;>(try simp only at hr ⊢)<;>first|exact hr.elim|exact hk _ _ hr
   case clr z x=>
    generalize ev C ρ x=v at hr ⊢;by_cases he:rE v=true
    ·rw[if_pos he]at hr ⊢;exact hk _ _ hr
    ·rw[if_neg he]at hr ⊢;generalize asB v=q at hr ⊢;cases q with
     | none=>exact hr.elim
     | some q=>
      obtain⟨i,off,n⟩:=q;simp only at hr ⊢;generalize σ[i]? = z at hr ⊢;cases z<;>(try simp only at hr ⊢)<;>first|exact hr.elim|exact⟨hr.1,hk _ _ hr.2⟩
   case cpy x y=>
    generalize asB (ev C ρ x)=q at hr ⊢;cases q with
    | none=>exact hr.elim
    | some q=>
     obtain⟨i,off,n⟩:=q;simp only at hr ⊢;generalize kK σ (ev C ρ y)=z2 at hr ⊢;generalize σ[i]? = z at hr ⊢;cases z<;>cases z2<;>(try simp only at hr ⊢)<;>first|exact hr.elim|exact⟨hr.1,hk _ _ hr.2⟩
   all_goals ((try unfold tyT at hr ⊢);split at hr<;>first|exact hk _ _ hr|exact hr.elim)
  simp only[bZ]at h ⊢;cases hg:o.g with
  | none=>rw[hg]at h;exact step (fun _ _ hh=>dU hq hh) h
  | some p=>
   obtain⟨t,want⟩:=p;rw[hg]at h;simp only at h ⊢;split at h
   ·rename_i b hb;exact⟨fun e=>step (fun _ _ hh=>dU hq hh) (h.1 e),fun e=>dU hq (h.2 e)⟩
   ·rename_i hb;exact dU hq h
   ·exact h.elim
theorem iG{op:OP}{k k':V→Prop}(hk:∀v,k v→k' v)(h:aY C op ρ σ k):aY C op ρ σ k':=by
 obtain⟨v,h1,h2⟩:=eE h;unfold aY at h1 ⊢;split at h1
 ·obtain⟨u,g1,g2⟩:=h1;subst g2;exact⟨u,g1,hk _ h2⟩
 ·split at h1
  ·obtain⟨u,g1,g2⟩:=h1;subst g2;exact⟨u,g1,hk _ h2⟩
  ·exact h1.elim
 ·split at h1
  ·exact⟨h1.1,hk _ (h1.2▸h2)⟩
  ·exact h1.elim
 ·obtain⟨u,g1,g2⟩:=h1;subst g2;exact⟨u,g1,hk _ h2⟩
 ·split at h1
  ·subst h1;exact hk _ h2
  ·exact h1.elim
theorem b7{K K':ak→Prop}(hk:∀ρ,K ρ→K' ρ):∀{l:List O} {ρ:ak},aH C l ρ σ K→aH C l ρ σ K'
 | [],ρ,h=>hk _ h
 | o::r,ρ,h=>by
  simp only[aH]at h ⊢;cases hg:o.g with
  | none=>rw[hg]at h;exact iG (fun _ hh=>b7 hk hh) h
  | some p=>
   obtain⟨t,want⟩:=p;rw[hg]at h;simp only at h ⊢;split at h
   ·rename_i b hb;exact⟨fun e=>iG (fun _ hh=>b7 hk hh) (h.1 e),fun e=>b7 hk (h.2 e)⟩
   ·rename_i hb;exact b7 hk h
   ·exact h.elim
theorem gi{K K':ak→List (List V)→Prop}(hk:∀ρ r,K ρ r→K' ρ r):∀{l:List O} {ρ:ak} {acc:Option (List (List V))},eX C σ l ρ acc K→eX C σ l ρ acc K'
 | [],ρ,acc,h=>by
  cases acc with
  | none=>exact h.elim
  | some r=>exact hk _ _ h
 | o::r,ρ,acc,h=>by
  unfold eX at h ⊢;split at h
  ·refine⟨h.1,h.2.1,?_⟩;have h2:=h.2.2;split at h2
   ·split at h2
    ·exact⟨h2.1,gi hk h2.2⟩
    ·exact h2.elim
   ·exact h2.elim
  ·split at h
   ·exact iG (fun v hh=>gi hk hh) h
   ·split at h
    ·exact⟨fun e=>iG (fun v hh=>gi hk hh) (h.1 e),fun e=>gi hk (h.2 e)⟩
    ·exact gi hk h
    ·exact h.elim
theorem gj{K K':ak→List (List V)→Prop}{P P':V→List (List V)→Prop}(hk:∀ρ r,K ρ r→K' ρ r)(hp:∀u r,P u r→P' u r):∀{l:List (O×GK)} {m:Nat} {h:List (List (List V))} {p:List PendG} {ρ:ak} {σ:List (List V)},dH C P K l m h p ρ σ→dH C P' K' l m h p ρ σ
 | [],_,_,_,_,_,hg=>hk _ _ hg
 | (o,.free _)::r,_,_,_,_,_,hg=>by
  simp only[dH]at hg ⊢;exact b7 (fun ρ' hh=>gj hk hp hh) hg
 | (o,.calm _ _)::r,_,_,_,_,_,hg=>by
  simp only[dH]at hg ⊢;exact b7 (fun ρ' hh=>⟨hh.1,gj hk hp hh.2⟩) hg
 | (o,.slot _)::r,_,_,_,_,_,hg=>by
  simp only[dH]at hg ⊢;exact dU (fun e ρ' σ' hh=>⟨hh.1,gj hk hp hh.2⟩) hg
 | (⟨d,op,g⟩,.act)::r,m,h,p,ρ,σ,hg=>by
  have call:∀{f:FuncId} {vs:List V},((∃v σ1,Fun C f vs σ (fun o σ'=>o=.ret v∧σ'=σ1)∧reG C (m+1) σ1 p∧dH C P K r (m+1) (σ::h) p (putd ρ d v) σ1)∨(Fun C f vs σ (fun o σ'=>∃u,o=.panic u∧P u σ')∧dD C r m h (putd ρ d .junk) σ))→
   ((∃v σ1,Fun C f vs σ (fun o σ'=>o=.ret v∧σ'=σ1)∧reG C (m+1) σ1 p∧dH C P' K' r (m+1) (σ::h) p (putd ρ d v) σ1)∨(Fun C f vs σ (fun o σ'=>∃u,o=.panic u∧P' u σ')∧dD C r m h (putd ρ d .junk) σ)):=fun{f vs} hh=>by
   rcases hh with⟨v,σ1,h1,h2,h3⟩|⟨h1,h2⟩
   ·exact .inl ⟨v,σ1,h1,h2,gj hk hp h3⟩
   ·exact .inr ⟨h1.mono fun o σ' ⟨u,e1,e2⟩=>⟨u,e1,hp _ _ e2⟩,h2⟩
  cases op;case call f args=>simp only[dH]at hg ⊢;exact call hg
  case callv x args=>
   simp only[dH]at hg ⊢;obtain⟨f,cap,e,hh⟩:=hg;exact⟨f,cap,e,call hh⟩
  all_goals
   simp only[dH]at hg ⊢;exact dU (fun e ρ' σ' hh=>⟨hh.1,hh.2.1,gj hk hp hh.2.2⟩) hg
theorem iE:∀{c:Cd} {ρ:ak} {σ:List (List V)} {Q Q':bS},(∀e ρ σ,Q e ρ σ→Q' e ρ σ)→awp C n0 c ρ σ Q→awp C n0 c ρ σ Q':=by
 intro c
 induction c with
 | skip=>exact fun hq h=>hq _ _ _ h
 | ops l keep=>exact fun hq h=>dU (fun e ρ σ=>hq e _ σ) h
 | draw l keep=>exact fun hq h=>b7 (fun ρ=>hq _ _ _) h
 | draws l keep=>exact fun hq h=>gi (fun ρ r hh=>hq _ _ _ hh) h
 | drawx pre d f args post kk y z keep=>
  intro ρ σ Q Q' hq h;simp only[awp,Ck]at h ⊢;refine b7 (fun ρ1 hh=>?_) h;rcases hh with⟨v,σ1,h1,h2,h3⟩|h1
  ·exact .inl ⟨v,σ1,h1,h2,b7 (fun ρ2 ⟨i,off,cs,k1,k2,k3,k4⟩=>⟨i,off,cs,k1,k2,k3,hq _ _ _ k4⟩) h3⟩
  ·exact .inr (h1.mono fun o σ' ⟨u,e1,e2⟩=>⟨u,e1,fun ρ'=>hq _ _ _ (e2 ρ')⟩)
 | drawp l x=>exact fun hq h=>b7 (fun ρ ⟨ty,u,e,hh⟩=>⟨ty,u,e,fun ρ2=>hq _ _ _ (hh ρ2)⟩) h
 | drawg l keep=>
  intro ρ σ Q Q' hq h;exact gj (fun ρ σ hh=>hq _ _ _ hh) (fun u σ hh ρ'=>hq _ _ _ (hh ρ')) h
 | drawb s d0 d1 T k bytes y l keep=>
  intro ρ σ Q Q' hq h;simp only[awp,zm]at h ⊢;split at h
  ·refine⟨h.1,h.2.1,b7 (fun ρ' hh=>?_) h.2.2⟩;split at hh
   ·exact⟨hh.1,hq _ _ _ hh.2⟩
   ·exact hh.elim
  ·exact h.elim
 | seq a b iha ihb=>
  exact fun hq h=>iha (fun e ρ σ hh=>by
   cases e with
   | normal=>exact ihb hq hh
   | ret=>exact hq _ _ _ hh
   | exit i=>exact hq _ _ _ hh
   | panic v=>exact hq _ _ _ hh) h
 | cond x a b iha ihb=>
  intro ρ σ Q Q' hq h;simp only[awp]at h ⊢;generalize ev C ρ x=z at h ⊢;cases z<;>(try simp only at h ⊢)<;>first|exact h.elim|skip
  rename_i x;cases x<;>(try simp only at h ⊢)<;>first|exact h.elim|skip
  rename_i v;cases v<;>(try simp only at h ⊢)<;>first|exact h.elim|skip
  exact⟨fun e=>iha hq (h.1 e),fun e=>ihb hq (h.2 e)⟩
 | block id a ih=>
  exact fun hq h=>ih (fun e ρ σ hh=>by
   cases e with
   | normal=>exact hq _ _ _ hh
   | ret=>exact hq _ _ _ hh
   | exit i=>
    simp only[m9]at hh ⊢;split
    ·rename_i e;rw[if_pos e]at hh;exact hq _ _ _ hh
    ·rename_i e;rw[if_neg e]at hh;exact hq _ _ _ hh
   | panic v=>exact hq _ _ _ hh) h
 | loop a ih=>
  intro ρ σ Q Q' hq h;obtain⟨ρ1,σ1,h0,I,h1,h2⟩:=h
  exact⟨ρ1,σ1,h0,I,h1,fun m ρ' σ' hI=>ih (fun e ρ σ hh=>by
   cases e with
   | normal=>exact hh
   | ret=>exact hq _ _ _ hh
   | exit i=>exact hq _ _ _ hh
   | panic v=>exact hq _ _ _ hh) (h2 m ρ' σ' hI)⟩
 | exit id=>exact fun hq h=>hq _ _ _ h
 | ret=>exact fun hq h=>hq _ _ _ h
theorem qq{a:Cd}(I:Nat→ak→List (List V)→Prop)(m:Nat){ρ1:ak}{σ1:List (List V)}(hu:cW n0 ρ σ ρ1 σ1)(h0:I m ρ1 σ1)
 (h:∀m ρ' σ',I m ρ' σ'→awp C n0 a ρ' σ' (andThen (fun ρ'' σ''=>∃m',m'<m∧∃ρ3 σ3,cW n0 ρ'' σ'' ρ3 σ3∧I m' ρ3 σ3) Q)):awp C n0 (.loop a) ρ σ Q:=
 ⟨ρ1,σ1,hu,I,⟨m,h0⟩,h⟩
theorem nj{R R':ak→List (List V)→Prop}{Q:bS}(h:∀ρ σ,R ρ σ→R' ρ σ):∀e ρ σ,andThen R Q e ρ σ→andThen R' Q e ρ σ:=fun e ρ σ hh=>by
 cases e with
 | normal=>exact h _ _ hh
 | ret=>exact hh
 | exit i=>exact hh
 | panic v=>exact hh
theorem B8{a:Cd}(I:Nat→ak→List (List V)→Prop)(m:Nat){σ1:List (List V)}(hu:Up σ σ1)(h0:I m ρ σ1)
 (h:∀m ρ' σ',I m ρ' σ'→awp C n0 a ρ' σ' (andThen (fun ρ'' σ''=>∃m',m'<m∧∃k,n0≤k∧az k (σ''.take k)=true∧aP k ρ''=true∧I m' ρ'' (σ''.take k)) Q)):awp C n0 (.loop a) ρ σ Q:=
 qq I m (cW.up n0 ρ hu) h0 fun m ρ' σ' hI=>iE (nj fun ρ'' σ'' ⟨m',h1,k,h2,h3,h4,h5⟩=>⟨m',h1,ρ'',σ''.take k,.cut h2 h3 h4,h5⟩) (h m ρ' σ' hI)
theorem zk{a:Cd}(ks:List Nat)(I:Nat→ak→List (List V)→Prop)(m:Nat){σ1:List (List V)}(hu:Up σ σ1)(h0:I m (aC ks ρ) σ1)
 (h:∀m ρ' σ',I m ρ' σ'→awp C n0 a ρ' σ' (andThen (fun ρ'' σ''=>∃m',m'<m∧∃k,n0≤k∧az k (σ''.take k)=true∧aP k (aC ks ρ'')=true∧I m' (aC ks ρ'') (σ''.take k)) Q)):awp C n0 (.loop a) ρ σ Q:=
 qq I m ((cW.keep n0 ks ρ σ).trans (cW.up n0 _ hu)) h0 fun m ρ' σ' hI=>iE (nj fun ρ'' σ'' ⟨m',h1,k,h2,h3,h4,h5⟩=>⟨m',h1,_,σ''.take k,(cW.keep n0 ks ρ'' σ'').trans (.cut h2 h3 h4),h5⟩) (h m ρ' σ' hI)
end
mutual
theorem V.under_mono{k j:Nat}(hj:k≤j):∀v:V,V.under k v=true→V.under j v=true
 | .agg cs,h=>by simp only[V.under]at h ⊢;exact V.unders_mono hj cs h
 | .tup cs,h=>by simp only[V.under]at h ⊢;exact V.unders_mono hj cs h
 | .fn _ cs,h=>by simp only[V.under]at h ⊢;exact V.unders_mono hj cs h
 | .bnd _ cs,h=>by simp only[V.under]at h ⊢;exact V.unders_mono hj cs h
 | .iface _ v,h=>by simp only[V.under]at h ⊢;exact V.under_mono hj v h
 | .ptr i o,h=>by simp only[V.under,decide_eq_true_eq]at h ⊢;omega
 | .bsl i o n m,h=>by simp only[V.under,decide_eq_true_eq]at h ⊢;omega
 | .mp i,h=>by simp only[V.under,decide_eq_true_eq]at h ⊢;omega
 | .bsc i n c,h=>by simp only[V.under,decide_eq_true_eq]at h ⊢;omega
 | .mapc _ kv,h=>by simp only[V.under]at h ⊢;exact V.underkv_mono hj kv h
 | .d _,_=>rfl
 | .own _ _ _,_=>rfl
 | .nil,_=>rfl
 | .row _ _,_=>rfl
 | .junk,_=>rfl
theorem V.unders_mono{k j:Nat}(hj:k≤j):∀cs:List V,V.unders k cs=true→V.unders j cs=true
 | [],_=>rfl
 | x::r,h=>by
  simp only[V.unders,Bool.and_eq_true]at h ⊢;exact⟨V.under_mono hj x h.1,V.unders_mono hj r h.2⟩
theorem V.underkv_mono{k j:Nat}(hj:k≤j):∀kv:List (Key×V),V.underkv k kv=true→V.underkv j kv=true
 | [],_=>rfl
 | (q,x)::r,h=>by
  simp only[V.underkv,V.underp,Bool.and_eq_true]at h ⊢;exact⟨V.under_mono hj x h.1,V.underkv_mono hj r h.2⟩
end
theorem nw{σ:List (List V)}{k j:Nat}(h:az k σ=true)(hj:k≤j):az j σ=true:=by
 unfold az at *;rw[List.all_eq_true]at h ⊢;exact fun cs hcs=>V.unders_mono hj cs (h cs hcs)
theorem bj{σ l:List (List V)}(h:az σ.length σ=true)(hl:l.all (fun cs=>V.unders (σ++l).length cs)=true):az (σ++l).length (σ++l)=true:=by
 have:=nw h (j:=(σ++l).length) (by simp);unfold az at *;rw[List.all_append,this,hl];rfl
theorem am{σ σ':List (List V)}{ρ:ak}{rs:List RV}{Q:Out→List (List V)→Prop}(hb:az σ.length σ=true){v:V}(h:lZ σ' ρ rs=some v)(hv:V.under σ.length v=true)(hσ:σ'.take σ.length=σ)(hq:Q (.ret v) σ):fin σ.length rs Q .ret ρ σ':=
 ⟨ρ,σ',.refl _ _ _,v,h,σ.length,Nat.le_refl _,by rw[hσ];exact hb,hv,by rw[hσ];exact hq⟩
def Nxt(n0:Nat)(R:ak→List (List V)→Prop)(ρ:ak)(σ:List (List V))(_:Tag R):Prop:=∃k,n0≤k∧az k (σ.take k)=true∧aP k ρ=true∧R ρ (σ.take k)
theorem Nxt.same{n0:Nat}{R:ak→List (List V)→Prop}{ρ:ak}{σ:List (List V)}(hn:n0≤σ.length)(hb:az σ.length σ=true)(hs:aP σ.length ρ=true)(hR:R ρ σ):Nxt n0 R ρ σ .mk:=
 ⟨σ.length,hn,by rw[List.take_length];exact hb,hs,by rw[List.take_length];exact hR⟩
theorem Nxt.drop{n0:Nat}{R:ak→List (List V)→Prop}{ρ:ak}{σ l:List (List V)}(hn:n0≤σ.length)(hb:az σ.length σ=true)(hs:aP σ.length ρ=true)(hR:R ρ σ):Nxt n0 R ρ (σ++l) .mk:=
 ⟨σ.length,hn,by rw[List.take_left];exact hb,hs,by rw[List.take_left];exact hR⟩
theorem Cs{C:Cx}{n0:Nat}{ρ:ak}{σ:List (List V)}{Q:bS}{a:Cd}(R:Nat→ak→List (List V)→Prop)(n:Nat){σ1:List (List V)}(hu:Up σ σ1)(h0:R 0 ρ σ1)
 (h:∀j ρ' σ',j≤n→R j ρ' σ'→de C n0 a ρ' σ' (andThen (fun ρ'' σ''=>j<n∧Nxt n0 (R (j+1)) ρ'' σ'' .mk) Q) .mk)(t:Tag Q):de C n0 (.loop a) ρ σ Q t:=
 B8 (fun m ρ σ=>∃j,j≤n∧m=n-j∧R j ρ σ) n hu ⟨0,by omega,by omega,h0⟩ fun m ρ' σ' ⟨j,hj,hm,hR⟩=>by
  have hi:∀e ρ'' σ'',andThen (fun ρ'' σ''=>j<n∧Nxt n0 (R (j+1)) ρ'' σ'' .mk) Q e ρ'' σ''→andThen (fun ρ'' σ''=>∃m',m'<m∧∃k,n0≤k∧az k (σ''.take k)=true∧aP k ρ''=true∧∃j,j≤n∧m'=n-j∧R j ρ'' (σ''.take k)) Q e ρ'' σ'':=by
   intro e ρ'' σ'' h;cases e with
   | normal=>
    obtain⟨h1,k,h2,h3,h4,h5⟩:=h;exact⟨n-(j+1),by omega,k,h2,h3,h4,j+1,by omega,rfl,h5⟩
   | ret=>exact h
   | exit i=>exact h
   | panic v=>exact h
  exact iE hi (h j ρ' σ' hj hR)
theorem y7{C:Cx}{n0:Nat}{ρ:ak}{σ:List (List V)}{Q:bS}{a:Cd}(ks:List Nat)(R:Nat→ak→List (List V)→Prop)(n:Nat){σ1:List (List V)}(hu:Up σ σ1)(h0:R 0 (aC ks ρ) σ1)
 (h:∀j ρ' σ',j≤n→R j ρ' σ'→de C n0 a ρ' σ' (andThen (fun ρ'' σ''=>j<n∧Nxt n0 (R (j+1)) (aC ks ρ'') σ'' .mk) Q) .mk)(t:Tag Q):de C n0 (.loop a) ρ σ Q t:=
 zk ks (fun m ρ σ=>∃j,j≤n∧m=n-j∧R j ρ σ) n hu ⟨0,by omega,by omega,h0⟩ fun m ρ' σ' ⟨j,hj,hm,hR⟩=>by
  have hi:∀e ρ'' σ'',andThen (fun ρ'' σ''=>j<n∧Nxt n0 (R (j+1)) (aC ks ρ'') σ'' .mk) Q e ρ'' σ''→andThen (fun ρ'' σ''=>∃m',m'<m∧∃k,n0≤k∧az k (σ''.take k)=true∧aP k (aC ks ρ'')=true∧∃j,j≤n∧m'=n-j∧R j (aC ks ρ'') (σ''.take k)) Q e ρ'' σ'':=by
   intro e ρ'' σ'' h;cases e with
   | normal=>
    obtain⟨h1,k,h2,h3,h4,h5⟩:=h;exact⟨n-(j+1),by omega,k,h2,h3,h4,j+1,by omega,rfl,h5⟩
   | ret=>exact h
   | exit i=>exact h
   | panic v=>exact h
  exact iE hi (h j ρ' σ' hj hR)
theorem ce{C:Cx}{n0:Nat}{ρ:ak}{σ:List (List V)}{Q:bS}{a:Cd}(ks:List Nat)(R:Nat→ak→List (List V)→Prop)(n:Nat)(h0:R 0 (aC ks ρ) σ)
 (h:∀j ρ' σ',j≤n→R j ρ' σ'→de C n0 a ρ' σ' (andThen (fun ρ'' σ''=>j<n∧Nxt n0 (R (j+1)) (aC ks ρ'') σ'' .mk) Q) .mk)(t:Tag Q):de C n0 (.loop a) ρ σ Q t:=y7 ks R n (.refl σ) h0 h t
theorem xX{C:Cx}{n0:Nat}{ρ:ak}{σ:List (List V)}{Q:bS}{a:Cd}(R:Nat→ak→List (List V)→Prop)(n:Nat)(h0:R 0 ρ σ)
 (h:∀j ρ' σ',j≤n→R j ρ' σ'→de C n0 a ρ' σ' (andThen (fun ρ'' σ''=>j<n∧Nxt n0 (R (j+1)) ρ'' σ'' .mk) Q) .mk)(t:Tag Q):de C n0 (.loop a) ρ σ Q t:=Cs R n (.refl σ) h0 h t
def aG(v:V)(σ:List (List V)):Out→List (List V)→Prop:=fun o σ'=>o=.ret v∧σ'=σ
theorem aq{C:Cx}{f:FuncId}{args:List V}{σ:List (List V)}{v:V}{K P:V→List (List V)→Prop}{s:Tag K}{t:Tag P}(h:Fun C f args σ (aG v σ))(hk:K v σ):Eg C f args σ K P s t:=
 h.mono fun o σ' ⟨e1,e2⟩=>by subst e1;subst e2;exact hk
theorem aS{C:Cx}{f:FuncId}{args:List V}{σ:List (List V)}{v:V}{k:V→Prop}{t:Tag k}(h:Fun C f args σ (aG v σ))(hk:k v):xZ C f args σ k t:=⟨v,h,hk⟩
theorem BJ{C:Cx}{f:FuncId}{args:List V}{σ:List (List V)}{K P:V→List (List V)→Prop}{s:Tag K}{t:Tag P}{Q:Out→List (List V)→Prop}(h:Fun C f args σ Q)(hk:∀o σ',Q o σ'→FT K P o σ'):Eg C f args σ K P s t:=h.mono hk
theorem aD{C:Cx}{f:FuncId}{fn:Func}{c:Cd}{rs:List RV}{args:List V}{σ:List (List V)}{Q:Out→List (List V)→Prop}(hf:C.P.funcs[f]? = some fn)(hok:aM C.tab fn args.length c rs=true)(hno:args.all (! ·.isOwn)=true)
 (h:az σ.length σ=true→(∀i (h:i<args.length),V.Wf args[i])→de C σ.length c (ac 0 args) σ (fin σ.length rs Q) .mk):Fun C f args σ Q:=qx hf hok hno h
theorem ow{C:Cx}{f:FuncId}{pre post:List V}{T k:Nat}{rows:List (List D)}{σ:List (List V)}{v:V}{K P:V→List (List V)→Prop}{s:Tag K}{t:Tag P}(h:jx C f pre T k rows post σ (aG v σ))(hk:K v σ):Cq C f pre T k rows post σ K P s t:=
 h.mono fun o σ' ⟨e1,e2⟩=>by subst e1;subst e2;exact hk
theorem nu{C:Cx}{f:FuncId}{pre post:List V}{T k:Nat}{σ:List (List V)}{Q:Out→List (List V)→Prop}(h:jx C f pre T k [] post σ Q):Fun C f (pre++.nil::post) σ Q:=
 ⟨h.1,fun M bm tk pr w vs hG hI ht hl hr=>by
   have hm:pre.length<(pre++V.nil::post).length:=by simp
   have h0:=hr pre.length hm (by rw[hl];exact hm);simp only[List.getElem_append_right (Nat.le_refl _),Nat.sub_self,List.getElem_cons_zero]at h0
   have e0:vs[pre.length]'(by rw[hl];exact hm)=.slice none 0 0:=by
    generalize vs[pre.length]'(by rw[hl];exact hm)=z at h0;cases h0;rfl
   refine h.2 M bm tk pr w vs hG hI (by rw[hl];simp) (fun i h1 h2=>?_) (.inl ⟨?_,rfl⟩)
   ·have h3:=hr i (by simpa using h1) h2;by_cases e:i<pre.length
    ·rw[List.getElem_append_left e]at h3 ⊢;exact h3
    ·rw[List.getElem_append_right (by omega)]at h3 ⊢;by_cases e':i=pre.length
     ·subst e';simp only[Nat.sub_self,List.getElem_cons_zero];rw[e0];exact .own (DRep.nil M)
     ·obtain⟨m,hm⟩:∃m,i-pre.length=m+1:=⟨i-pre.length-1,by omega⟩
      simp only[hm,List.getElem_cons_succ]at h3 ⊢;exact h3
   ·rw[List.getD_eq_getElem?_getD,List.getElem?_eq_getElem (by rw[hl];exact hm),Option.getD_some];exact e0⟩
theorem j6{C:Cx}{f:FuncId}{fn:Func}{c:Cd}{rs:List RV}{pre post:List V}{T k:Nat}{rows:List (List D)}{σ:List (List V)}{Q:Out→List (List V)→Prop}(hf:C.P.funcs[f]? = some fn)(hok:aM C.tab fn (pre++.own T k rows::post).length c rs=true)(hno:(pre++post).all (! ·.isOwn)=true)
 (h:az σ.length σ=true→(∀i (h:i<(pre++.own T k rows::post).length),V.Wf (pre++.own T k rows::post)[i])→de C σ.length c (ac 0 (pre++.own T k rows::post)) σ (fin σ.length rs Q) .mk):jx C f pre T k rows post σ Q:=xd hf hok hno h
section
variable {σ : List (List V)}
theorem Fq(rows:List (List D)):nr false (.d (.sl rows))=some (aW .i64 rows.length):=rfl
theorem zi(T k:Nat)(rows:List (List D)):nr false (.own T k rows)=some (aW .i64 rows.length):=rfl
theorem AB:nr false .nil=some (aW .i64 0):=rfl
theorem yy(s:ByteArray):nr true (.d (.lit (.string s)))=some (aW .i64 s.size):=rfl
theorem Et(rows:List (List D)):dV (.d (.sl rows))=some rows:=rfl
theorem vP(T k:Nat)(rows:List (List D)):dV (.own T k rows)=some rows:=rfl
theorem vC:dV .nil=some []:=rfl
theorem MF(k:IntKind)(a b:Int):aN .add (.d (.lit (.int k a))) (.d (.lit (.int k b)))=some (aW k (k.wrap (a+b))):=by simp[aN,cA,ki]
theorem JT(k:IntKind)(a b:Int):aN .sub (.d (.lit (.int k a))) (.d (.lit (.int k b)))=some (aW k (k.wrap (a-b))):=by simp[aN,cA,ki]
theorem Mw(k:IntKind)(a b:Int):aN .mul (.d (.lit (.int k a))) (.d (.lit (.int k b)))=some (aW k (k.wrap (a*b))):=by simp[aN,cA,ki]
theorem Jv(k:IntKind)(a b:Int):aN .quo (.d (.lit (.int k a))) (.d (.lit (.int k b)))=if b=0 then none else some (aW k (k.wrap (a.tdiv b))):=by simp[aN,cA,ki]
theorem Jt(k:IntKind)(a b:Int):aN .rem (.d (.lit (.int k a))) (.d (.lit (.int k b)))=if b=0 then none else some (aW k (a.tmod b)):=by simp[aN,cA,ki]
theorem Ii(k:IntKind)(a b:Int):aN .and (.d (.lit (.int k a))) (.d (.lit (.int k b)))=some (aW k (k.wrap (BitVec.ofInt k.bits a &&& BitVec.ofInt k.bits b).toNat)):=by simp only[aN,cA,Bool.false_eq_true,if_false,if_true,ki]
theorem KQ(k:IntKind)(a b:Int):aN .or (.d (.lit (.int k a))) (.d (.lit (.int k b)))=some (aW k (k.wrap (BitVec.ofInt k.bits a ||| BitVec.ofInt k.bits b).toNat)):=by simp only[aN,cA,Bool.false_eq_true,if_false,if_true,ki]
theorem I1(k:IntKind)(a b:Int):aN .xor (.d (.lit (.int k a))) (.d (.lit (.int k b)))=some (aW k (k.wrap (BitVec.ofInt k.bits a ^^^ BitVec.ofInt k.bits b).toNat)):=by simp only[aN,cA,Bool.false_eq_true,if_false,if_true,ki]
theorem Lk(k:IntKind)(a b:Int):aN .eql (.d (.lit (.int k a))) (.d (.lit (.int k b)))=some (aA (decide (a=b))):=by simp[aN,cA,ki];rfl
theorem L9(k:IntKind)(a b:Int):aN .neq (.d (.lit (.int k a))) (.d (.lit (.int k b)))=some (aA (!decide (a=b))):=by simp[aN,cA,ki];rfl
theorem Kt(k:IntKind)(a b:Int):aN .lss (.d (.lit (.int k a))) (.d (.lit (.int k b)))=some (aA (decide (a<b))):=by simp[aN,cA,ki]
theorem Km(k:IntKind)(a b:Int):aN .leq (.d (.lit (.int k a))) (.d (.lit (.int k b)))=some (aA (decide (a≤b))):=by simp[aN,cA,ki]
theorem JW(k:IntKind)(a b:Int):aN .gtr (.d (.lit (.int k a))) (.d (.lit (.int k b)))=some (aA (decide (b<a))):=by simp[aN,cA,ki]
theorem Kj(k:IntKind)(a b:Int):aN .geq (.d (.lit (.int k a))) (.d (.lit (.int k b)))=some (aA (decide (b≤a))):=by simp[aN,cA,ki]
theorem Mb(k k':IntKind)(a b:Int):aN .shl (.d (.lit (.int k a))) (.d (.lit (.int k' b)))=if b<0 then none else some (aW k (k.wrap (a*2^(min b.toNat k.bits)))):=by simp[aN,cA,yo]
theorem LF(k k':IntKind)(a b:Int):aN .shr (.d (.lit (.int k a))) (.d (.lit (.int k' b)))=if b<0 then none else some (aW k (a.fdiv (2^(min b.toNat k.bits)))):=by simp[aN,cA,yo]
theorem uY(a b:ByteArray):(a.toList==b.toList)=decide (a=b):=by
 rw[ByteArray.toList_eq,ByteArray.toList_eq,Bool.eq_iff_iff];simp only[beq_iff_eq,decide_eq_true_eq];constructor
 ·intro h;cases a;cases b;simp only[ByteArray.mk.injEq];exact Array.toList_inj.1 h
 ·intro h;rw[h]
theorem Jn(a b:ByteArray):aN .eql (.d (.lit (.string a))) (.d (.lit (.string b)))=some (aA (decide (a=b))):=by simp only[aN,EE,uY]
theorem IG(a b:ByteArray):aN .neq (.d (.lit (.string a))) (.d (.lit (.string b)))=some (aA (!decide (a=b))):=by simp only[aN,EE,uY]
theorem CL(a b:ByteArray):aN .add (.d (.lit (.string a))) (.d (.lit (.string b)))=if a.size+b.size≤9223372036854775807 then some (uh (a++b))else none:=rfl
theorem Hu(a b:ByteArray):aN .lss (.d (.lit (.string a))) (.d (.lit (.string b)))=some (aA (Op.bytesLess a.toList b.toList)):=rfl
theorem KF:dp [] [] []=some true:=rfl
theorem LM(k:IntKind)(ks:List Kd)(a b:Int)(r s:List V):dp (.i k::ks) (.d (.lit (.int k a))::r) (.d (.lit (.int k b))::s)=(dp ks r s).map fun z=>decide (a=b)&&z:=by
 simp only[dp,oK,and_self,if_true];cases dp ks r s<;>rfl
theorem LR(ks:List Kd)(a b:ByteArray)(r s:List V):dp (.s::ks) (.d (.lit (.string a))::r) (.d (.lit (.string b))::s)=(dp ks r s).map fun z=>decide (a=b)&&z:=by
 simp only[dp,oK];cases dp ks r s<;>rfl
theorem Ja(ks:List Kd)(a b:Bool)(r s:List V):dp (.b::ks) (.d (.lit (.bool a))::r) (.d (.lit (.bool b))::s)=(dp ks r s).map fun z=>(a==b)&&z:=by
 simp only[dp,oK];cases dp ks r s<;>rfl
theorem Bb(neq:Bool):wT neq (.d (.lit .nilIface))=some (aA (!neq)):=rfl
theorem Dm(neq:Bool)(t:TypeId)(x:V):wT neq (.iface t x)=some (aA neq):=rfl
theorem A3(neq:Bool):DO neq (.d (.lit (.pointer none)))=some (aA (!neq)):=rfl
theorem As(neq:Bool)(i o:Nat):DO neq (.ptr i o)=some (aA neq):=rfl
theorem I4(f:FuncId)(cs:List V):V.copy (.bnd f cs)=.bnd f cs:=rfl
theorem Je(f:FuncId)(cs:List V):V.lend (.bnd f cs)=.bnd f cs:=rfl
theorem Ib(a b:Bool):mU .eql (.d (.lit (.bool a))) (.d (.lit (.bool b)))=some (aA (a==b)):=rfl
theorem HU(a b:Bool):mU .neq (.d (.lit (.bool a))) (.d (.lit (.bool b)))=some (aA (!(a==b))):=rfl
theorem Ju(b:Bool):unV .not (.d (.lit (.bool b)))=some (aA (!b)):=rfl
theorem JZ(k:IntKind)(n:Int):unV .neg (.d (.lit (.int k n)))=some (aW k (k.wrap (0-n))):=rfl
theorem IQ(c a b:Bool):i6 (.d (.lit (.bool c))) (.d (.lit (.bool a))) (.d (.lit (.bool b)))=some (aA (bif c then a else b)):=rfl
theorem yN(b:Bool):i6 (.d (.lit (.bool false))) (.tup []) (.d (.lit (.bool b)))=some (aA b):=rfl
theorem y5(a:Bool):i6 (.d (.lit (.bool true))) (.d (.lit (.bool a))) (.tup [])=some (aA a):=rfl
theorem Bv(b:Bool):i6 (.d (.lit (.bool false))) .junk (.d (.lit (.bool b)))=some (aA b):=rfl
theorem BA(a:Bool):i6 (.d (.lit (.bool true))) (.d (.lit (.bool a))) .junk=some (aA a):=rfl
theorem CD(off i o:Nat):faV off (.ptr i o)=some (.ptr i (o+off)):=rfl
theorem Ej(off:Nat)(cs:List D)(o:Nat):faV off (.row cs o)=some (.row cs (o+off)):=rfl
def iaK(k:Nat)(o:Option (List D)):Option V:=match o with|some r=>if r.length=k then some (.row r 0)else none|none=>none
theorem lw(k:Nat)(r:List D):iaK k (some r)=if r.length=k then some (.row r 0)else none:=rfl
theorem tu(k:Nat)(y:D)(kd:IntKind)(j:Nat):iaV k (.d y) (.d (.lit (.int kd (j:Int))))=(dV (.d y)).bind fun rows=>iaK k rows[j]? := by
 unfold iaV;cases h:dV (.d y)with
 | none=>simp only[h];rfl
 | some rows=>simp only[h,Option.bind_some,Int.toNat_natCast];rw[if_pos (by omega)];rfl
theorem D9(k T k':Nat)(rows:List (List D))(kd:IntKind)(j:Nat):iaV k (.own T k' rows) (.d (.lit (.int kd (j:Int))))=iaK k rows[j]? := by
 unfold iaV;simp only[dV,Int.toNat_natCast];rw[if_pos (by omega)];rfl
theorem DY(k b off n:Nat)(kd:IntKind)(j:Nat):iaV k (.bsl b off n k) (.d (.lit (.int kd (j:Int))))=if j<n then some (.ptr b (off+j*k))else none:=by
 unfold iaV;simp only[Int.toNat_natCast,and_true];by_cases h:j<n
 ·rw[if_pos h,if_pos (by omega)]
 ·rw[if_neg h,if_neg (by omega)]
theorem z6(b off n k:Nat):nr false (.bsl b off n k)=some (aW .i64 n):=rfl
def ixK(o:Option UInt8):Option V:=match o with|some b=>some (aW .u8 b.toNat)|none=>none
theorem Do(b:UInt8):ixK (some b)=some (aW .u8 b.toNat):=rfl
theorem DQ(s:ByteArray)(kd:IntKind)(j:Nat):ixV (.d (.lit (.string s))) (.d (.lit (.int kd (j:Int))))=ixK s.data.toList[j]? := by
 simp only[ixV,Int.toNat_natCast];rw[if_pos (by omega)];rfl
theorem KI(off k:Nat)(ag:Bool)(cs:List V):vt off k ag (.agg cs)=if off+k≤cs.length then gP ag ((cs.drop off).take k)else none:=rfl
theorem FV(c:V):gP false [c]=some c.copy:=rfl
theorem Fr(cs:List V):gP true cs=some (.agg (cs.map V.copy)):=rfl
theorem JE(cs:List V)(i:Nat):xr (.tup cs) i=(cs[i]?).map V.copy:=by simp only[xr];cases cs[i]?<;>rfl
theorem Io(k k':IntKind)(n:Int):xw k (.d (.lit (.int k' n)))=some (aW k (k.wrap n)):=rfl
theorem tv(i o:Nat):hZ (.ptr i o)=some (.ptr i o):=rfl
theorem tI(cs:List D)(o:Nat):hZ (.row cs o)=some (.row cs o):=rfl
theorem xk(f:FuncId)(cs:List V):hZ (.fn f cs)=some (.fn f cs):=rfl
theorem MM(g:Bool)(k:IntKind)(a b:Int):mxV g (.d (.lit (.int k a))) (.d (.lit (.int k b)))=some (aW k (if g then max a b else min a b)):=by
 have h1:(if b>a then b else a)=max a b:=by rw[Int.max_def];split<;>split<;>omega
 have h2:(if b<a then b else a)=min a b:=by rw[Int.min_def];split<;>split<;>omega
 cases g
 ·simp only[mxV,if_true,Bool.false_eq_true,if_false,h2]
 ·simp only[mxV,if_true,h1]
theorem BZ(T t:TypeId)(z u:V):C2 T z (.iface t u)=if t=T then some (.tup [u,aA true])else some (.tup [z,aA false]):=rfl
theorem Im(rows:List (List D))(k1 k2:IntKind)(a b:Int):xF (.d (.sl rows)) (.d (.lit (.int k1 a))) (.d (.lit (.int k2 b)))=if a=rows.length∧b=rows.length then some (.d (.sl rows))else none:=rfl
theorem Ac(T:TypeId)(z:V):C2 T z (.d (.lit .nilIface))=some (.tup [z,aA false]):=rfl
theorem FP(t:TypeId)(x:D):DF t (.d x)=some (.iface t (.d x)):=rfl
theorem Ao(t:TypeId)(cs:List V):DF t (.agg cs)=some (.iface t (.agg (cs.map V.copy))):=rfl
theorem vH(k:Nat)(ag:Bool)(cs:List D)(o:Nat):gq σ k ag (.row cs o)=(if o+k≤cs.length then some (((cs.drop o).take k).map V.d)else none).bind (gP ag):=rfl
def ldK(k:Nat)(ag:Bool)(o:Nat)(b:Option (List V)):Option V:=match b with|some cs=>if o+k≤cs.length∧bC cs=true then gP ag ((cs.drop o).take k)else(tyL k o cs).bind (gP ag)|none=>none
theorem Dc(k:Nat)(ag:Bool)(o:Nat)(cs:List V):ldK k ag o (some cs)=if o+k≤cs.length∧bC cs=true then gP ag ((cs.drop o).take k)else(tyL k o cs).bind (gP ag):=rfl
theorem vS(k:Nat)(ag:Bool)(i o:Nat):gq σ k ag (.ptr i o)=ldK k ag o σ[i]? := by
 unfold gq jp ldK;simp only;cases σ[i]? with
 | none=>rfl
 | some cs=>simp only;split<;>rfl
theorem Cj(l:List (List V))(j:Nat):(σ++l)[σ.length+j]? = l[j]? := by rw[List.getElem?_append_right (by omega)];congr 1;omega
theorem Fd(l:List (List V)):(σ++l)[σ.length]? = l[0]? := Cj l 0
theorem Dv(l:List (List V))(j:Nat)(x:List V):(σ++l).set (σ.length+j) x=σ++l.set j x:=by rw[List.set_append_right _ _ (by omega)];congr 2;omega
theorem Ew(l:List (List V))(x:List V):(σ++l).set σ.length x=σ++l.set 0 x:=Dv l 0 x
theorem df{a:Int}(h1 : -9223372036854775808≤a)(h2:a≤9223372036854775807):IntKind.i64.wrap a=a:=by
 simp[IntKind.wrap,IntKind.bits,IntKind.signed];split<;>omega
end
theorem D2{rows:List (List D)}(h:V.Wf (.d (.sl rows))):rows.length≤9223372036854775807:=by
 cases h with|d h=>cases h with|sl _ h _=>exact h
theorem Fz{cs:List V}(h:V.Wf (.agg cs))(i:Nat)(hi:i<cs.length):V.Wf cs[i]:=by
 cases h with|agg h=>exact h i hi
theorem bE{j n:Nat}(h:j<n)(hn:n≤9223372036854775807):IntKind.i64.wrap ((j:Int)+1)=((j+1:Nat):Int):=by
 rw[df (by omega) (by omega)];rfl
set_option linter.defProp false in
def aw:=And.intro (And.intro (And.intro (And.intro (And.intro (And.intro (And.intro (And.intro @IY @ER) (And.intro @Jp @A3)) (And.intro (And.intro @As @I4) (And.intro @Je (And.intro @Fh @CO)))) (And.intro (And.intro (And.intro @Fj @IL) (And.intro @EX (And.intro @Ek @Ix))) (And.intro (And.intro @Dt @B5) (And.intro @FF (And.intro @B6 @Du))))) (And.intro (And.intro (And.intro (And.intro @Iv @zp) (And.intro @Dr @H1)) (And.intro (And.intro @Cl @zg) (And.intro @DZ (And.intro @Ec @Kc)))) (And.intro (And.intro (And.intro @AA @yz) (And.intro @FA (And.intro @Fu @BT))) (And.intro (And.intro @DH @K3) (And.intro @Bh (And.intro @Iy @F8)))))) (And.intro (And.intro (And.intro (And.intro (And.intro @IO @FL) (And.intro @OG @Jh)) (And.intro (And.intro @IE @Jf) (And.intro @Ig (And.intro @J2 @A5)))) (And.intro (And.intro (And.intro @Bo @FU) (And.intro @y4 (And.intro @E6 @AO))) (And.intro (And.intro @vI @yM) (And.intro @yF (And.intro @Ba @Cz))))) (And.intro (And.intro (And.intro (And.intro @tD @DE) (And.intro @vg (And.intro @AK @Bi))) (And.intro (And.intro @yV @Oa) (And.intro @LO (And.intro @EJ @OI)))) (And.intro (And.intro (And.intro @OU @Id) (And.intro @Ks (And.intro @IC @Lj))) (And.intro (And.intro @LP @MC) (And.intro @F5 (And.intro @FS @Fn))))))) (And.intro (And.intro (And.intro (And.intro (And.intro (And.intro @Ma @HG) (And.intro @I9 @Jk)) (And.intro (And.intro @Js @Ky) (And.intro @KH (And.intro @u5 @FZ)))) (And.intro (And.intro (And.intro @H6 @Fs) (And.intro @Bz (And.intro @yC @EA))) (And.intro (And.intro @KX @I2) (And.intro @Jj (And.intro @Iu @J4))))) (And.intro (And.intro (And.intro (And.intro @JK @Im) (And.intro @BZ (And.intro @Ac @Nd))) (And.intro (And.intro @NC @Cr) (And.intro @Fx (And.intro @D4 @Gd)))) (And.intro (And.intro (And.intro @zA @yP) (And.intro @sO (And.intro @p8 @AC))) (And.intro (And.intro @Hv @Es) (And.intro @Ds (And.intro @Ay @C4)))))) (And.intro (And.intro (And.intro (And.intro (And.intro @DR @wX) (And.intro @Av @u9)) (And.intro (And.intro @BR @O0) (And.intro @ND (And.intro @I7 @Hy)))) (And.intro (And.intro (And.intro @L6 @Lu) (And.intro @Jb (And.intro @Jc @J8))) (And.intro (And.intro @KF @LM) (And.intro @LR (And.intro @Ja @Bb))))) (And.intro (And.intro (And.intro (And.intro @Dm @OV) (And.intro @OL (And.intro @Hx @FR))) (And.intro (And.intro @Fw @Oo) (And.intro @M5 (And.intro @OB @M7)))) (And.intro (And.intro (And.intro @Nv @LB) (And.intro @Lv (And.intro @JD @Lq))) (And.intro (And.intro @Ke @Ln) (And.intro @Ji (And.intro @Ie @Lh)))))))) (And.intro (And.intro (And.intro (And.intro (And.intro (And.intro (And.intro @JX @JN) (And.intro @Ll @Il)) (And.intro (And.intro @KB @Nk) (And.intro @Hw (And.intro @EY @Fb)))) (And.intro (And.intro (And.intro @FX @LH) (And.intro @LG (And.intro @JG @Lt))) (And.intro (And.intro @IU @Ku) (And.intro @LY (And.intro @H5 @K6))))) (And.intro (And.intro (And.intro (And.intro @Eh @Mj) (And.intro @EI (And.intro @ME @H7))) (And.intro (And.intro @Ft @Jw) (And.intro @FY (And.intro @K9 @Ia)))) (And.intro (And.intro (And.intro @KY @H8) (And.intro @BW (And.intro @Ij @Fy))) (And.intro (And.intro @Jd @LD) (And.intro @tU (And.intro @DC @zj)))))) (And.intro (And.intro (And.intro (And.intro (And.intro @vw @wt) (And.intro @EM @D0)) (And.intro (And.intro @Aq @Fq) (And.intro @zi (And.intro @AB @z6)))) (And.intro (And.intro (And.intro @D9 @DY) (And.intro @yy (And.intro @Et @vP))) (And.intro (And.intro @vC @MF) (And.intro @JT (And.intro @Mw @Jv))))) (And.intro (And.intro (And.intro (And.intro @Jt @Ii) (And.intro @KQ (And.intro @I1 @Lk))) (And.intro (And.intro @L9 @Kt) (And.intro @Km (And.intro @JW @Kj)))) (And.intro (And.intro (And.intro @Mb @LF) (And.intro @Jn (And.intro @IG @CL))) (And.intro (And.intro @Hu @Ib) (And.intro @HU (And.intro @Ju @JZ))))))) (And.intro (And.intro (And.intro (And.intro (And.intro (And.intro @IQ @yN) (And.intro @y5 @w9)) (And.intro (And.intro @CS @Bv) (And.intro @BA (And.intro @CD @Ej)))) (And.intro (And.intro (And.intro @lw @tu) (And.intro @Do (And.intro @DQ @KI))) (And.intro (And.intro @FV @Fr) (And.intro @JE (And.intro @Io @tv))))) (And.intro (And.intro (And.intro (And.intro @tI @xk) (And.intro @MM (And.intro @FP @Ao))) (And.intro (And.intro @vH @Dc) (And.intro @vS (And.intro @Cj @Fd)))) (And.intro (And.intro (And.intro @Dv @Ew) (And.intro @Option.bind_some.{0,0} (And.intro @Option.map_some.{0,0} @Option.map_none.{0,0}))) (And.intro (And.intro @List.getElem?_map.{0,0} @List.length_map.{0,0}) (And.intro @List.length_append.{0} (And.intro @List.append_assoc.{0} @List.cons_append.{0})))))) (And.intro (And.intro (And.intro (And.intro (And.intro @List.nil_append.{0} @List.drop_succ_cons.{0}) (And.intro @List.drop_zero.{0} @List.take_succ_cons.{0})) (And.intro (And.intro @List.take_zero.{0} @List.length_cons.{0}) (And.intro @List.length_nil.{0} (And.intro @List.getElem?_cons_zero.{0} @List.getElem?_cons_succ.{0})))) (And.intro (And.intro (And.intro @List.set_cons_zero.{0} @List.set_cons_succ.{0}) (And.intro @Nat.zero_add (And.intro @and_true @true_and))) (And.intro (And.intro @true_implies @not_true_eq_false) (And.intro @not_false_eq_true (And.intro @false_implies @Bool.not_true))))) (And.intro (And.intro (And.intro (And.intro @Bool.not_false @List.contains_cons.{0}) (And.intro @List.contains_nil.{0} (And.intro @List.map_cons.{0,0} @List.map_nil.{0,0}))) (And.intro (And.intro @Bool.or_false @Bool.false_or) (And.intro @Bool.or_true (And.intro @Bool.true_or @Bool.false_eq_true)))) (And.intro (And.intro (And.intro @Bool.true_eq_false @F6) (And.intro @Cu (And.intro @Bool.not_not @decide_not))) (And.intro (And.intro @List.all_cons.{0} @List.all_nil.{0}) (And.intro @Bool.and_true (And.intro @List.getD_cons_zero.{0} @List.getD_cons_succ.{0}))))))))
end Go.Proofs.YthekkgfmagliiaaGreatDoor
namespace Go.Proofs.YthekkgfmagliiaaGreatDoor
open Go.RowKit
inductive CdD where
 | seq (a:Cd) (b:CdD)
 | dfr (s:Nat) (g:FuncId) (cap:List X) (rest:Cd)
def xD(tab:Tab)(n:Nat)(s:Nat)(g:FuncId)(cap:List X):List Oper→Bool
 | [⟨d1,.makeFunc (.func g') first cap',_,_,_,none⟩,⟨d2,.defer {callee:=.value y,args:=args,argTypes:=_},_,_,_,none⟩]=>d1==some s&&decide (s<n)&&g==g'&&first.isEmpty&&gJ cap cap'.toList&&d2==none&&okX (.t s) y&&args.isEmpty
 | _=>false
def okD(tab:Tab)(n:Nat):CdD→Code→Bool
 | .seq a b,.seq a' b'=>okC tab n a a'&&okD tab n b b'
 | .dfr s g cap rest,.seq (.region _ ops false) r=>xD tab n s g cap ops.toList&&okC tab n rest r
 | _,_=>false
abbrev uQ:=FuncId→List V→bS
def Eu(C:Cx)(n0:Nat):CdD→ak→List (List V)→bS→uQ→Prop
 | .seq a b,ρ,σ,Q,QD=>awp C n0 a ρ σ (andThen (fun ρ' σ'=>Eu C n0 b ρ' σ' Q QD) Q)
 | .dfr s g cap rest,ρ,σ,_,QD=>awp C σ.length rest (put ρ s (.fn g (cap.map (ev C ρ)))) σ (QD g (cap.map (ev C ρ)))
section
variable {C : Cx} {pr : Prot} {n n0 : Nat}
def DX(M0:av)(bm0:List Nat)(p:Nat→Prop)(w0:World)(n:Nat)(QD:uQ)(e:Exit)(a':Act)(w':World):Prop:=
 ∃(M1:av) (bm1:List Nat) (w1:World) (g:FuncId) (caps:List V) (vs:List Value),Later M0 bm0 p w0 M1 bm1 w1∧vs.length=caps.length∧(∀i (h:i<caps.length) (h':i<vs.length),Rep M1 bm1 caps[i] vs[i])∧
  ba M1 bm1 ⟨p,[{target:=.fn (.func g) vs.toArray,args := #[]}]⟩ w1 n (QD g caps) e a' w'
theorem wP{M0:av}{bm0:List Nat}{w0:World}(hG:C.glob M0 pr w0)(hn0:bm0.length=n0)(hds:pr.ds=[]):∀{c:CdD} {c':Code} {M:av} {bm:List Nat} {tk:a6} {ρ:ak} {σ:List (List V)} {a:Act} {w:World} {Q:bS} {QD:uQ},okD C.tab n c c'=true→Later M0 bm0 pr w0 M bm w→SRel M bm tk pr ρ σ n a w→
 Eu C n0 c ρ σ Q QD→c'.wp C.P (fun e a' w'=>ba M0 bm0 pr w0 n Q e a' w'∨DX M0 bm0 pr w0 n QD e a' w') a w:=by
 intro c
 induction c with
 | seq x y ih=>
  intro c' M bm tk ρ σ a w Q QD hok hl h hq
  obtain⟨a',b',rfl,ok2⟩:∃a' b',c'=.seq a' b'∧okC C.tab n x a'=true∧okD C.tab n y b'=true:=by
   cases c' with
   | seq a' b'=>
    have hok:(okC C.tab n x a'&&okD C.tab n y b')=true:=hok;rw[Bool.and_eq_true]at hok;exact⟨_,_,rfl,hok⟩
   | _=>cases hok
  refine wp_seq (wp_mono (jM hG hn0 ok2.1 hl h hq) (fun e a' w' hL=>?_));obtain⟨M',bm',tk',ρ',σ',x,k1,k2,k3,k4⟩:=hL;cases k2 with
  | normal=>exact ih ok2.2 k4 k3 k1
  | ret=>exact .inl ⟨M',bm',tk',ρ',σ',_,k1,.ret,k3,k4⟩
  | exit id=>exact .inl ⟨M',bm',tk',ρ',σ',_,k1,.exit id,k3,k4⟩
  | panic hp=>exact .inl ⟨M',bm',tk',ρ',σ',_,k1,.panic hp,k3,k4⟩
 | dfr s g cap rest=>
  intro c' M bm tk ρ σ a w Q QD hok hl h hq
  obtain⟨id,ops,r,rfl,hok1,hok2⟩:∃id ops r,c'=.seq (.region id ops false) r∧xD C.tab n s g cap ops.toList=true∧okC C.tab n rest r=true:=by
   cases c' with
   | seq a' r=>
    cases a' with
    | region id ops draw=>
     cases draw with
     | false=>
      have hok:(xD C.tab n s g cap ops.toList&&okC C.tab n rest r)=true:=hok;rw[Bool.and_eq_true]at hok;exact⟨_,_,_,rfl,hok⟩
     | true=>cases hok
    | _=>cases hok
   | _=>cases hok
  unfold xD at hok1;split at hok1
  ·rename_i d1 g' first cap' ty1 po1 af1 d2 y args at_ ty2 po2 af2 hops
   simp only[Bool.and_eq_true,beq_iff_eq,decide_eq_true_eq]at hok1;obtain⟨⟨⟨⟨⟨⟨⟨rfl,hs⟩,rfl⟩,h1⟩,h2⟩,rfl⟩,h4⟩,h5⟩:=hok1;have hf:first = #[]:=by simpa using h1
   have ha:args = #[]:=by simpa using h5
   subst hf;subst ha;obtain⟨l1,l2⟩:=dW (hG.mono hl) h h2;have hr:=Rep.fn (f:=g) l1 l2;have e9:(cap'.toList.map a.eval).toArray=cap'.map a.eval:=by rw[←Array.toList_map]
   refine wp_seq (wp_region_list ?_);rw[hops];have w1:∀(a:Act) (d:Option Tmp) (o:Op) (t:TypeId) (p:String) (af:Array Edge),Region.wanted ⟨d,o,t,p,af,none⟩ (yielded ops a.tmps)=true:=fun _ _ _ _ _ _=>rfl;simp only[wpList];rw[if_pos (w1 _ _ _ _ _ _)];left;unfold Oper.wp
   have run1:(execOp a.eval ⟨some s,.makeFunc (.func g) #[] cap',ty1,po1,af1,none⟩).run C.P w=.ok (.value (.func (.func g) #[] (cap'.map a.eval))) w:=by
    simp[execOp,Instr.makeFunc]
   rw[run1];simp only[Oper.upon_value];rw[if_pos (w1 _ _ _ _ _ _)];left;rw[e9]at hr;have h6:=h.puts hs hr (by simp)
   have hy:(a.put (some s) (.func (.func g) #[] (cap'.map a.eval))).eval y=.func (.func g) #[] (cap'.map a.eval):=by
    unfold okX at h4;split at h4
    ·rename_i m m' e;cases e;simp only[beq_iff_eq]at h4;subst h4;simp only[Act.eval];have:=fy a s s (.func (.func g) #[] (cap'.map a.eval)) (by rw[h.size];exact hs);rw[if_pos rfl]at this;exact this
    ·rename_i e;cases e
    ·rename_i e;cases e
    ·rename_i e;cases e
    ·cases h4
   have run2:(execOp (a.put (some s) (.func (.func g) #[] (cap'.map a.eval))).eval ⟨none,.defer {callee:=.value y,args := #[],argTypes:=at_},ty2,po2,af2,none⟩).run C.P w=.ok (.defer {target:=.fn (.func g) (cap'.map a.eval),args := #[]}) w:=by
    simp[execOp,resolve,hy,Deferred.ofValue]
   rw[run2];simp only[Oper.upon_defer]
   have h7:SRel M bm tk ⟨pr.p,[{target:=.fn (.func g) (cap'.map a.eval),args := #[]}]⟩ (put ρ s (.fn g (cap.map (ev C ρ)))) σ n ({(a.put (some s) (.func (.func g) #[] (cap'.map a.eval)))with defers:={target:=.fn (.func g) (cap'.map a.eval),args := #[]}::(a.put (some s) (.func (.func g) #[] (cap'.map a.eval))).defers}.put none undef) w:=
    ⟨h6.inv,by show _::_=_;rw[h6.defers,hds],h6.size,h6.slots⟩
   refine wp_mono (jM (pr:=⟨pr.p,[{target:=.fn (.func g) (cap'.map a.eval),args := #[]}]⟩) (hG.mono hl) (n0:=σ.length) h.inv.len hok2 (Later.refl _ _ _ _) h7 hq) (fun e a' w' hL=>.inr ⟨M,bm,w,g,cap.map (ev C ρ),cap'.toList.map a.eval,hl,l1,l2,?_⟩);rw[e9];exact hL
  ·cases hok1
def kL(C:Cx)(g:FuncId)(caps:List V)(σ:List (List V))(x:Option V)(R:List (List V)→Prop):Prop:=
 (∀as w,(callFunc g as).run C.P w=.ok (.enter g as) w)∧
 ∀(M:av) (bm:List Nat) (tk:a6) (pr:Nat→Prop) (w:World) (vs:List Value) (u:FrameMode),C.glob M pr w→Inv M bm σ tk pr w→(∀t,tk none t=none)→vs.length=caps.length→(∀i (h:i<caps.length) (h':i<vs.length),Rep M bm caps[i] vs[i])→
  (match x with|none=>u=.returning|some v=>∃y,u=.panicking [{v:=y,recovered:=false}]∧Rep M bm v y)→
  CallsD C.P g vs.toArray u w fun e u' w'=>(∃y,e=.returned y)∧settle u'=.returning∧∃M' bm' tk' σ',R σ'∧Inv M' bm' σ' tk' pr w'∧Later M bm pr w M' bm' w'
theorem sA{M':av}{bm':List Nat}{tk':a6}{ρ':ak}{σ':List (List V)}{a':Act}{w':World}{k:Nat}(o:Option Nat)(k3:SRel M' bm' tk' pr ρ' σ' n a' w')(hbk:az k (σ'.take k)=true)(ho:o=none∨∃s,o=tk' none s):
 Inv M' (bm'.take k) (σ'.take k) (fun i j=>match i with|none=>if j=0 then o else none|some i=>tk' (some i) j) pr w':=by
 have hd:=k3.inv.drop hbk;refine⟨hd.facts,hd.len,hd.box,hd.free,hd.bmnd,fun i j g hg=>?_,fun i j i' j' g g1 g2=>?_,hd.prlt⟩
 ·cases i with
  | some i=>exact hd.tok _ _ _ hg
  | none=>
   simp only at hg;split at hg
   ·rcases ho with rfl|⟨s,rfl⟩
    ·cases hg
    ·exact hd.tok _ _ _ hg
   ·cases hg
 ·cases i with
  | some i=>cases i' with
   | some i'=>exact hd.inj _ _ _ _ _ g1 g2
   | none=>
    simp only at g2;split at g2
    ·rcases ho with rfl|⟨s,rfl⟩
     ·cases g2
     ·have:=hd.inj _ _ _ _ _ g1 g2;simp at this
    ·cases g2
  | none=>cases i' with
   | some i'=>
    simp only at g1;split at g1
    ·rcases ho with rfl|⟨s,rfl⟩
     ·cases g1
     ·have:=hd.inj _ _ _ _ _ g1 g2;simp at this
    ·cases g1
   | none=>
    simp only at g1 g2;split at g1
    ·split at g2
     ·exact⟨rfl,by omega⟩
     ·cases g2
    ·cases g1
def xg(n0:Nat)(rs:List RV)(Q:Out→List (List V)→Prop)(ρ:ak)(σ2:List (List V)):Prop:=
 ∃v,lZ σ2 ρ rs=some v∧∃k,n0≤k∧az k (σ2.take k)=true∧V.under k v=true∧Q (.ret v) (σ2.take k)
def Hs(C:Cx)(n0:Nat)(rs:List RV)(Q:Out→List (List V)→Prop):uQ:=fun g caps e ρ σ'=>match e with
 | .normal=>kL C g caps σ' none (xg n0 rs Q ρ)
 | .ret=>kL C g caps σ' none (xg n0 rs Q ρ)
 | .panic v=>kL C g caps σ' (some v) (xg n0 rs Q ρ)
 | .exit _=>False
def qV(tab:Tab)(fn:Func)(m:Nat)(c:CdD)(rs:List RV):Bool:=
 (match fn.body with|some b=>okD tab fn.ntmps c b|none=>false)&&lF tab rs fn.results.toList&&decide (m≤fn.ntmps) && !(fn.name == "runtime.NumGoroutine")
theorem qJ{f:FuncId}{fn:Func}{c:CdD}{rs:List RV}{args:List V}{σ:List (List V)}{Q:Out→List (List V)→Prop}(hf:C.P.funcs[f]? = some fn)(hok:qV C.tab fn args.length c rs=true)(hno:args.all (! ·.isOwn)=true)
 (h:az σ.length σ=true→(∀i (h:i<args.length),V.Wf args[i])→Eu C σ.length c (ac 0 args) σ (fin σ.length rs Q) (Hs C σ.length rs Q)):Fun C f args σ Q:=by
 unfold qV at hok;simp only[Bool.and_eq_true,decide_eq_true_eq,Bool.not_eq_true']at hok;obtain⟨⟨⟨h1,h2⟩,h3⟩,h4⟩:=hok;cases hb:fn.body with
 | none=>rw[hb]at h1;cases h1
 | some body=>
 rw[hb]at h1;refine⟨bw hf h4 (by rw[hb];rfl),fun M bm tk pr0 w vs hG hI htk hl hr=>?_⟩;obtain⟨pr,rfl,hds⟩:∃pr:Prot,pr.p=pr0∧pr.ds=[]:=⟨⟨pr0,[]⟩,rfl,rfl⟩
 have hq:=h hI.under (fun i hi=>(hr i hi (by omega)).wf);refine calls_of_wp_defers hf hb ?_
 have hs:SRel M bm tk pr (ac 0 args) σ fn.ntmps {tmps:=vs.toArray++Array.replicate (fn.ntmps-vs.toArray.size) undef,defers:=[]} w:=by
  refine⟨hI,hds.symm,by simp;omega,fun t=>?_⟩;rw[iR,if_pos (Nat.zero_le _),Nat.sub_zero];by_cases hlt:t<args.length
  ·rw[List.getElem?_eq_getElem hlt,Option.getD_some]
   have hv:(vs.toArray++Array.replicate (fn.ntmps-vs.toArray.size) undef).getD t undef=vs[t]'(by omega):=by
    rw[Array.getD_eq_getD_getElem?,Array.getElem?_append_left (by simp;omega)];simp[show t<vs.length by omega]
   rw[hv];refine⟨hr t hlt (by omega),fun T k rows e=>?_⟩;have:=List.all_eq_true.1 hno args[t] (List.getElem_mem hlt);rw[e]at this;cases this
  ·rw[List.getElem?_eq_none (by omega),Option.getD_none];exact CellOK.junk ..
 refine wp_mono (wP hG hI.len hds h1 (Later.refl M bm pr w) hs hq) (fun e a' w' hL=>?_)
 have ret:∀{p2:Prot} {M2:av} {bm2:List Nat} {tk2:a6} {ρ2:ak} {σ2:List (List V)} {w2:World},p2.p=pr.p→SRel M2 bm2 tk2 p2 ρ2 σ2 fn.ntmps a' w2→Later M bm pr w M2 bm2 w2→∀v,lZ σ2 ρ2 rs=some v→(∃k,σ.length≤k∧az k (σ2.take k)=true∧V.under k v=true∧Q (.ret v) (σ2.take k))→
  ∃u,(results fn a'.tmps).run C.P w2=.ok u w2∧∃M' bm' tk' σ' o,Q o σ'∧Inv M' bm' σ' tk' pr w2∧Later M bm pr w M' bm' w2∧OutOK M' bm' w2 tk' o (.returned u):=by
  rintro p2 M2 bm2 tk2 ρ2 σ2 w2 hp s1 s2 v hv ⟨k,g1,g2,g3,g4⟩;obtain⟨u,r1,t,r2,r3⟩:=pf s1 h2 hv;have c1:=sA t s1 g2 r3;rw[hp]at c1;refine⟨u,r1,M2,bm2.take k,_,σ2.take k,.ret v,g4,c1,s2.drop (by rw[hI.len];exact g1),fun v' e=>?_,fun v' e=>by cases e⟩;cases e;exact⟨u,rfl,r2.rep.drop g3,by simpa using r2.own⟩
 rcases hL with⟨M',bm',tk',ρ',σ',x,k1,k2,k3,k4⟩|⟨M1,bm1,w1,g,caps,us,d1,d2,d3,M',bm',tk',ρ',σ',x,k1,k2,k3,k4⟩
 ·have hnil:a'.defers=[]:=k3.defers.trans hds
  have plain:(∃ρ2 σ2,cW σ.length ρ' σ' ρ2 σ2∧∃v,lZ σ2 ρ2 rs=some v∧∃k,σ.length≤k∧az k (σ2.take k)=true∧V.under k v=true∧Q (.ret v) (σ2.take k))→Leaves C.P fn a'.tmps (fun e w'=>∃M' bm' tk' σ' o,Q o σ'∧Inv M' bm' σ' tk' pr w'∧Later M bm pr w M' bm' w'∧OutOK M' bm' w' tk' o e) a'.defers .returning w':=by
   rintro⟨ρ2,σ2,g0,v,g1,g2⟩;obtain⟨M2,bm2,s1,s2⟩:=g0 M' bm' tk' pr fn.ntmps a' w' k3;rw[hnil];exact ret rfl s1 (s2 M bm w hI.len k4) v g1 g2
  cases k2 with
  | normal=>exact plain k1
  | ret=>exact plain k1
  | exit id=>exact k1.elim
  | panic hp=>
   obtain⟨k,g1,g2,g3,g4⟩:=k1;have c1:=sA none k3 g2 (.inl rfl);show Leaves C.P fn a'.tmps _ a'.defers (.panicking _) w';rw[hnil];exact⟨M',bm'.take k,_,σ'.take k,_,g4,c1,k4.drop (by rw[hI.len];exact g1),(fun v' e=>by cases e),fun v' e=>by cases e;exact⟨_,rfl,hp.drop g3⟩⟩
 ·have hdl:Later M bm pr.p w M' bm' w':=d1.trans k4 (fun _ h=>h);have hrc:∀i (h:i<caps.length) (h':i<us.length),Rep M' bm' caps[i] us[i]:=fun i g1 g2=>k4.rep (d3 i g1 g2)
  have late:∀(x:Option V) (u:FrameMode),u≠.run→(match x with|none=>u=.returning|some v=>∃y,u=.panicking [{v:=y,recovered:=false}]∧Rep M' bm' v y)→kL C g caps σ' x (xg σ.length rs Q ρ')→
   Leaves C.P fn a'.tmps (fun e w'=>∃M' bm' tk' σ' o,Q o σ'∧Inv M' bm' σ' tk' pr w'∧Later M bm pr w M' bm' w'∧OutOK M' bm' w' tk' o e) a'.defers u w':=fun x u hu hx hF=>by
   rw[k3.defers];refine leaves_cons hu ?_ ((hF.2 M' bm' (rT tk') (prot tk' pr.p) w' us u ((hG.mono hdl).prot fun _ hb=>.inl hb) k3.callee (fun _=>rfl) d2 hrc hx).mono ?_)
   ·have:=hF.1 us.toArray w';simpa[invoke]using this
   ·rintro e u' w2 ⟨⟨y,rfl⟩,hset,M2,bm2,tk2,σ2,hfin,hi2,hl2⟩;obtain⟨⟨tk3,s1⟩,-,s2⟩:=k3.called hi2 hl2;obtain⟨v,hv,hk⟩:=hfin;show Leaves C.P fn a'.tmps _ [] (settle u') w2;rw[hset];exact ret (by exact rfl) s1 (hdl.trans s2 (fun _ h=>h)) v hv hk
  cases k2 with
  | normal=>exact late none .returning (by simp) rfl k1
  | ret=>exact late none .returning (by simp) rfl k1
  | exit id=>exact k1.elim
  | panic hp=>exact late (some _) (.panicking _) (by simp) ⟨_,rfl,hp⟩ k1
inductive CdR where
 | reg (s:Nat) (l:List O) (keep:List Nat)
 | seq (a:CdR) (b:Cd)
def rz(n s:Nat):List Oper→Bool
 | ⟨d,.call {callee:=.builtin .recover,args:=args,argTypes:=_},_,_,_,none⟩::_=>d==some s&&decide (s<n)&&args.isEmpty
 | _=>false
def okR(tab:Tab)(n:Nat):CdR→Code→Bool
 | .reg s l _,.region _ ops false=>rz n s ops.toList&&eI tab n ops l ops.toList.tail
 | .seq a b,.seq a' b'=>okR tab n a a'&&okC tab n b b'
 | _,_=>false
def CI(C:Cx)(n0:Nat)(x:V):CdR→ak→List (List V)→bS→Prop
 | .reg s l keep,ρ,σ,Q=>bZ C l (put ρ s x) σ fun e ρ' σ'=>Q e (aC keep ρ') σ'
 | .seq a b,ρ,σ,Q=>CI C n0 x a ρ σ (andThen (fun ρ' σ'=>awp C n0 b ρ' σ' Q) Q)
theorem kV{P:Program}{ops:Array Oper}{Q Q':Exit→Act→World→Prop}(hq:∀e a w,Q e a w→Q' e a w):∀(l:List Oper) (a:Act) (w:World),wpList P ops Q l a w→wpList P ops Q' l a w
 | [],_,_,h=>hq _ _ _ h
 | o::l,a,w,h=>by
  simp only[wpList]at h ⊢;split
  ·rename_i hw;rw[if_pos hw]at h;rcases h with h|⟨h1,a',w',h2⟩
   ·exact .inl (Oper.wp_mono2 (fun a' w' hh=>kV hq l a' w' hh) hq h)
   ·exact .inr ⟨h1,a',w',hq _ _ _ h2⟩
  ·rename_i hw;rw[if_neg hw]at h;exact kV hq l _ w h
theorem xU{P:Program}{c:Code}{Q Q':Exit→Act→List Frame→World→Prop}{a:Act}{cs:List Frame}{w:World}(h:c.wpS P Q a cs w)(hq:∀e a cs w,Q e a cs w→Q' e a cs w):c.wpS P Q' a cs w:=
 fun b k hb hr=>let ⟨e,a',cs',w',q,r⟩:=h b k hb hr;⟨e,a',cs',w',hq _ _ _ _ q,r⟩
theorem gI{P:Program}{ops:Array Oper}{Q:Exit→Act→World→Prop}{cs:List Frame}(hno:¬LetsOut Q):∀(l:List Oper) (k:Nat) (a:Act) (w:World),(∀j,l[j]? = ops[k+j]?)→wpList P ops Q l a w→wpOpsS P ops (fun e a cs' w=>cs'=cs∧Q e a w) (List.range' k l.length) a cs w
 | [],_,_,_,_,h=>⟨rfl,h⟩
 | o::l,k,a,w,hj,h=>by
  have h0:ops[k]? = some o:=by simpa using(hj 0).symm
  have hj':∀j,l[j]? = ops[k+1+j]? := fun j=>by have:=hj (j+1);simpa[Nat.add_assoc,Nat.add_comm 1 j]using this
  simp only[List.length_cons,List.range'_succ,wpOpsS,h0];simp only[wpList]at h;split
  ·rename_i hw;rw[if_pos hw]at h;have h:=h.resolve_right fun hh=>hno hh.2;have h2:o.wp P a w (fun a' w'=>wpOpsS P ops (fun e a cs' w=>cs'=cs∧Q e a w) (List.range' (k+1) l.length) a' cs w') (fun e a' w'=>True∧Q e a' w'):=Oper.wp_mono2 (fun a' w' hh=>gI hno l (k+1) a' w' hj' hh) (fun e a' w' hh=>⟨trivial,hh⟩) h;unfold Oper.wp at h2;generalize (execOp a.eval o).run P w=r at h2;split
   ·exact h2.elim
   ·exact h2
  ·rename_i hw;rw[if_neg hw]at h;exact gI hno l (k+1) _ w hj' h
theorem ba.noOut{M:av}{bm:List Nat}{w:World}{Q:bS}:¬LetsOut (ba M bm pr w n Q):=by
 rintro⟨a,w',M',bm',tk',ρ',σ',x,h1,h2,h3⟩;cases h2
theorem xo{M0:av}{bm0:List Nat}{w0:World}(hG:C.glob M0 pr w0)(hn0:bm0.length=n0){x:V}{cs cs2:List Frame}{y:Value}(hrec:recoverD cs=some (y,cs2)∨(recoverD cs=none∧cs2=cs∧y=.nilIface))(hx:Rep M0 bm0 x y)(hxo:∀T k rows,x≠.own T k rows):
 ∀{c:CdR} {c':Code} {tk:a6} {ρ:ak} {σ:List (List V)} {a:Act} {Q:bS},okR C.tab n c c'=true→SRel M0 bm0 tk pr ρ σ n a w0→
 CI C n0 x c ρ σ Q→c'.wpS C.P (fun e a' cs' w'=>cs'=cs2∧ba M0 bm0 pr w0 n Q e a' w') a cs w0:=by
 intro c
 induction c with
 | reg s l keep=>
  intro c' tk ρ σ a Q hok h hq
  obtain⟨id,ops,rfl,hok1,hok2⟩:∃id ops,c'=.region id ops false∧rz n s ops.toList=true∧eI C.tab n ops l ops.toList.tail=true:=by
   cases c' with
   | region id ops draw=>
    cases draw with
    | false=>
     have hok:(rz n s ops.toList&&eI C.tab n ops l ops.toList.tail)=true:=hok;rw[Bool.and_eq_true]at hok;exact⟨_,_,rfl,hok⟩
    | true=>cases hok
   | _=>cases hok
  unfold rz at hok1;split at hok1
  ·rename_i d args at_ ty po af r hops;simp only[Bool.and_eq_true,beq_iff_eq,decide_eq_true_eq]at hok1;obtain⟨⟨rfl,hs⟩,h5⟩:=hok1;have ha:args = #[]:=by simpa using h5
   subst ha;rw[hops,List.tail_cons]at hok2;refine wpS_region ?_;have hsz:ops.size=r.length+1:=by rw[←Array.length_toList,hops];rfl
   have h0:ops[0]? = some ⟨some s,.call {callee:=.builtin .recover,args := #[],argTypes:=at_},ty,po,af,none⟩:=by rw[←Array.getElem?_toList,hops];rfl
   have hj:∀j,r[j]? = ops[0+1+j]? := fun j=>by rw[←Array.getElem?_toList,hops,show 0+1+j=j+1 by omega];rfl
   rw[hsz,List.range_eq_range',List.range'_succ];simp only[wpOpsS,h0];rw[if_pos (show Region.wanted ⟨some s,.call {callee:=.builtin .recover,args := #[],argTypes:=at_},ty,po,af,none⟩ (yielded ops a.tmps)=true from rfl)]
   have run1:(execOp a.eval ⟨some s,.call {callee:=.builtin .recover,args := #[],argTypes:=at_},ty,po,af,none⟩).run C.P w0=.ok .recover w0:=by
    simp[execOp,resolve,invoke,builtin]
   rw[run1]
   have go:wpOpsS C.P ops (fun e a' cs' w'=>cs'=cs2∧ba M0 bm0 pr w0 n Q e a' w') (List.range' (0+1) r.length) (a.put (some s) y) cs2 w0:=by
    refine gI ba.noOut r (0+1) _ _ hj ?_;have h6:=h.puts hs hx hxo;exact kV (fun e a w hL=>ba.keep (l:=keep) hL) _ _ _ (eV (Q:=fun e ρ' σ'=>Q e (aC keep ρ') σ') hG hok2 (Later.refl _ _ _ _) h6 hq)
   rcases hrec with hrec|⟨hrec,rfl,rfl⟩
   ·rw[hrec];exact go
   ·rw[hrec];exact go
  ·cases hok1
 | seq x1 b ih=>
  intro c' tk ρ σ a Q hok h hq
  obtain⟨a',b',rfl,ok2⟩:∃a' b',c'=.seq a' b'∧okR C.tab n x1 a'=true∧okC C.tab n b b'=true:=by
   cases c' with
   | seq a' b'=>
    have hok:(okR C.tab n x1 a'&&okC C.tab n b b')=true:=hok;rw[Bool.and_eq_true]at hok;exact⟨_,_,rfl,hok⟩
   | _=>cases hok
  refine wpS_seq (xU (ih ok2.1 h hq) (fun e a' cs' w' ⟨hcs,hL⟩=>?_));subst hcs;obtain⟨M',bm',tk',ρ',σ',z,k1,k2,k3,k4⟩:=hL;cases k2 with
  | normal=>exact wpS_of_wp (wp_mono (jM hG hn0 ok2.2 k4 k3 k1) fun e a w hh=>⟨rfl,hh⟩)
  | ret=>exact⟨rfl,M',bm',tk',ρ',σ',_,k1,.ret,k3,k4⟩
  | exit id=>exact⟨rfl,M',bm',tk',ρ',σ',_,k1,.exit id,k3,k4⟩
  | panic hp=>exact⟨rfl,M',bm',tk',ρ',σ',_,k1,.panic hp,k3,k4⟩
def O7(n0:Nat)(R:List (List V)→Prop):bS:=fun e _ σ'=>match e with
 | .normal=>∃k,n0≤k∧az k (σ'.take k)=true∧R (σ'.take k)
 | .ret=>∃k,n0≤k∧az k (σ'.take k)=true∧R (σ'.take k)
 | _=>False
def qy(tab:Tab)(fn:Func)(m:Nat)(c:CdR):Bool:=
 (match fn.body with|some b=>okR tab fn.ntmps c b|none=>false)&&fn.results.isEmpty&&decide (m≤fn.ntmps) && !(fn.name == "runtime.NumGoroutine")
theorem D1{g:FuncId}{fn:Func}{c:CdR}{caps:List V}{σ:List (List V)}{x:Option V}{R:List (List V)→Prop}(hf:C.P.funcs[g]? = some fn)(hok:qy C.tab fn caps.length c=true)(hno:caps.all (! ·.isOwn)=true)(hx:∀v,x=some v→v.isOwn=false)
 (h:az σ.length σ=true→CI C σ.length (x.getD (.d (.lit .nilIface))) c (ac 0 caps) σ (O7 σ.length R)):kL C g caps σ x R:=by
 unfold qy at hok;simp only[Bool.and_eq_true,decide_eq_true_eq,Bool.not_eq_true']at hok;obtain⟨⟨⟨h1,h2⟩,h3⟩,h4⟩:=hok;have hres:fn.results = #[]:=by simpa using h2
 cases hb:fn.body with
 | none=>rw[hb]at h1;cases h1
 | some body=>
 rw[hb]at h1;refine⟨bw hf h4 (by rw[hb];rfl),fun M bm tk pr0 w vs u hG hI htk hl hr hu=>?_⟩;obtain⟨pr,rfl,hds⟩:∃pr:Prot,pr.p=pr0∧pr.ds=[]:=⟨⟨pr0,[]⟩,rfl,rfl⟩
 have hq:=h hI.under;refine callsD_of_wpS hf hb fun c₀ cs hc=>?_
 have hs:SRel M bm tk pr (ac 0 caps) σ fn.ntmps {tmps:=vs.toArray++Array.replicate (fn.ntmps-vs.toArray.size) undef,defers:=[]} w:=by
  refine⟨hI,hds.symm,by simp;omega,fun t=>?_⟩;rw[iR,if_pos (Nat.zero_le _),Nat.sub_zero];by_cases hlt:t<caps.length
  ·rw[List.getElem?_eq_getElem hlt,Option.getD_some]
   have hv:(vs.toArray++Array.replicate (fn.ntmps-vs.toArray.size) undef).getD t undef=vs[t]'(by omega):=by
    rw[Array.getD_eq_getD_getElem?,Array.getElem?_append_left (by simp;omega)];simp[show t<vs.length by omega]
   rw[hv];refine⟨hr t hlt (by omega),fun T k rows e=>?_⟩;have:=List.all_eq_true.1 hno caps[t] (List.getElem_mem hlt);rw[e]at this;cases this
  ·rw[List.getElem?_eq_none (by omega),Option.getD_none];exact CellOK.junk ..
 have key:∀(y:Value) (cs2:List Frame),(recoverD (c₀::cs)=some (y,cs2)∨(recoverD (c₀::cs)=none∧cs2=c₀::cs∧y=.nilIface))→Rep M bm (x.getD (.d (.lit .nilIface))) y→(∃u',cs2={c₀ with mode:=u'}::cs∧settle u'=.returning)→
  body.wpS C.P (bodyPostS C.P fn c₀ cs fun e u' w'=>(∃y,e=.returned y)∧settle u'=.returning∧∃M' bm' tk' σ',R σ'∧Inv M' bm' σ' tk' pr w'∧Later M bm pr w M' bm' w') {tmps:=vs.toArray++Array.replicate (fn.ntmps-vs.toArray.size) undef,defers:=[]} (c₀::cs) w:=by
  rintro y cs2 hrec hy ⟨u',rfl,hset⟩;refine xU (xo hG hI.len hrec hy ?_ h1 hs hq) (fun e a' cs' w' ⟨hcs,hL⟩=>?_)
  ·intro T k rows e;cases x with
   | none=>cases e
   | some v=>have:=hx v rfl;rw[Option.getD_some]at e;rw[e]at this;cases this
  subst hcs;obtain⟨M',bm',tk',ρ',σ',z,k1,k2,k3,k4⟩:=hL
  have fin:(∃k,σ.length≤k∧az k (σ'.take k)=true∧R (σ'.take k))→a'.defers=[]∧∃u'',({c₀ with mode:=u'}::cs:List Frame)={c₀ with mode:=u''}::cs∧∃v,(results fn a'.tmps).run C.P w'=.ok v w'∧((∃y,Ending.returned v=.returned y)∧settle u''=.returning∧∃M' bm' tk' σ',R σ'∧Inv M' bm' σ' tk' pr w'∧Later M bm pr w M' bm' w'):=by
   rintro⟨k,g1,g2,g3⟩;have c1:=sA none k3 g2 (.inl rfl);refine⟨k3.defers.trans hds,u',rfl,.tuple #[],?_,⟨_,rfl⟩,hset,M',bm'.take k,_,σ'.take k,g3,c1,k4.drop (by rw[hI.len];exact g1)⟩;rw[oj,hres];simp
  cases k2 with
  | normal=>exact fin k1
  | ret=>exact fin k1
  | exit id=>exact k1.elim
  | panic hp=>exact k1.elim
 cases x with
 | none=>
  simp only at hu;subst hu;exact key .nilIface (c₀::cs) (.inr ⟨by simp[recoverD,hc],rfl,rfl⟩) (.d (.lit _ trivial)) ⟨.returning,by rw[←hc],rfl⟩
 | some v=>
  simp only at hu;obtain⟨y,rfl,hy⟩:=hu;exact key y ({c₀ with mode:=.panicking [{v:=y,recovered:=true}]}::cs) (.inl (by simp[recoverD,hc])) hy ⟨_,rfl,rfl⟩
end
end Go.Proofs.YthekkgfmagliiaaGreatDoor
