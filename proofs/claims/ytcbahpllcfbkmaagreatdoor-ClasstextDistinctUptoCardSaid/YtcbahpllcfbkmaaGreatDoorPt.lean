import Derived.Test.YtcbahpllcfbkmaaGreatDoorPg2
import Derived.Test.YtcbahpllcfbkmaaGreatDoorNames2
set_option linter.unusedVariables false
set_option linter.unusedSimpArgs false
set_option linter.unusedSectionVars false
namespace Go.Proofs.YtcbahpllcfbkmaaGreatDoor
open Go.RowKit
def eI(o:Int):Option (ByteArray×Nat):=(cj.find? fun b=>decide (b.2.1=o)).map fun b=>(b.1,b.2.2)
def iU(o:Int):Nat:=match eI o with
 | some (_,l)=>l
 | none=>if o=22 then 1 else if o=23 then 9 else if o=4∨o=5∨o=6 then 13 else 14
def tm(m:ByteArray):Tok:=⟨4,0,m,1⟩
def tw(m:ByteArray):Tok:=⟨2,0,m,1⟩
def tn(s:ByteArray):Tok:=⟨1,0,s,1⟩
def td(n:Int):Tok:=⟨3,n,nW n,1⟩
def dJ(k:Nat)(a:Int×List Tok):List Tok:=if iU a.1<k then tm (al 40)::(a.2++[tm (al 41)])else a.2
def cJ:List (Int×List Tok)→List Tok
 | []=>[]
 | [_]=>[]
 | [a,b]=>a.2++tm (bO 46 46)::b.2
 | a::b::c::r=>a.2++tm (bO 46 46)::(b.2++tm (al 44)::cJ (c::r))
def bT(s:ByteArray):Int:=(((fW s 91).data.toList.headD 0).toNat:Int)-48
def iu(s:ByteArray):List Tok:=if dO s=true then[tn (df s 91),tm (al 64),td (bT s)]else[tn s]
def gw(o n:Int)(s:ByteArray)(xs:List (Int×List Tok)):List Tok:=match eI o with
 | some (m,l)=>dJ (if l=2 then 3 else l) (xs.getD 0 (1,[]))++tm m::dJ (if l=2 then 2 else l+1) (xs.getD 1 (1,[]))
 | none=>
  if o=4 then tm (al 33)::dJ 13 (xs.getD 0 (1,[]))
  else if o=5 then tm (al 126)::dJ 13 (xs.getD 0 (1,[]))
  else if o=6 then tm (al 45)::dJ 13 (xs.getD 0 (1,[]))
  else if o=22 then dJ 2 (xs.getD 0 (1,[]))++tm (al 63)::(dJ 1 (xs.getD 1 (1,[]))++tm (al 58)::dJ 1 (xs.getD 2 (1,[])))
  else if o=23 then dJ 9 (xs.getD 0 (1,[]))++tw cu::tm (al 123)::(cJ xs.tail++[tm (al 125)])
  else if o=1 then[td n]
  else if o=3 then tn s::tm (al 91)::((xs.getD 0 (1,[])).2++[tm (al 93)])
  else if o=24 then[tn lY,tm (al 40),tn s,tm (al 41)]
  else if o=25 then tn ip::tm (al 40)::((xs.getD 0 (1,[])).2++[tm (al 41)])
  else iu s
mutual
def a6:Ex→List Tok
 | .mk o n s l=>gw o n s (cN l)
def cN:List Ex→List (Int×List Tok)
 | []=>[]
 | a::r=>(a.op,a6 a)::cN r
end
theorem j0(l:List Ex):cN l=l.map fun a=>(a.op,a6 a):=by
 induction l with
 | nil=>rfl
 | cons a r ih=>simp only[cN,ih,List.map_cons]
structure Stop(k:Nat)(r:List Tok):Prop where
 q:k≤1→acc (al 63) r=none
 im:k≤2→acc (bO 61 62) r=none
 op:∀j,k≤j→3≤j→iq j r=none
 ins:k≤9→acc cu r=none
 b:acc (al 91) r=none
 a:acc (al 64) r=none
 p:acc (al 40) r=none
theorem Stop.mono{k j:Nat}{r:List Tok}(h:Stop k r)(hj:k≤j):Stop j r:=
 ⟨fun e=>h.q (by omega),fun e=>h.im (by omega),fun i h1 h2=>h.op i (by omega) h2,fun e=>h.ins (by omega),h.b,h.a,h.p⟩
theorem cw{m:ByteArray}{t:Tok}{r:List Tok}(h:t.text≠m):acc m (t::r)=none:=by
 simp only[acc];rw[if_neg (fun hc=>h hc.2.2)]
theorem j8{t:Tok}{r:List Tok}{k:Nat}:∀(l:List (ByteArray×Int×Nat)),(∀b,b∈l→b.2.2=k→t.text≠b.1)→iV l k (t::r)=none
 | [],_=>rfl
 | b::l,h=>by
  simp only[iV];split
  ·rename_i hb;rw[cw (h b (by simp) hb)];exact j8 l fun c hc=>h c (by simp[hc])
  ·exact j8 l fun c hc=>h c (by simp[hc])
theorem ts{t:Tok}{r:List Tok}{k:Nat}(h:∀b,b∈cj→b.2.2=k→t.text≠b.1)(h1:t.text≠al 62)(h2:t.text≠bO 62 61):iq k (t::r)=none:=by
 unfold iq;rw[j8 cj h];simp only;split
 ·rw[cw h1,cw h2]
 ·rfl
theorem yL(k:Nat):Stop k []:=by
 refine⟨fun _=>rfl,fun _=>rfl,fun j _ _=>?_,fun _=>rfl,rfl,rfl,rfl⟩
 have:∀l:List (ByteArray×Int×Nat),iV l j []=none:=by
  intro l
  induction l with
  | nil=>rfl
  | cons b l ih=>simp only[iV,acc];split<;>exact ih
 unfold iq;rw[this];simp only[acc];split<;>rfl
theorem ki{k:Nat}{t:Tok}(r:List Tok)(h1:k≤1→t.text≠al 63)(h2:k≤2→t.text≠bO 61 62)(h3:∀b,b∈cj→k≤b.2.2→t.text≠b.1)(h4:k≤9→t.text≠cu)
 (h5:t.text≠al 62∧t.text≠bO 62 61∧t.text≠al 91∧t.text≠al 64∧t.text≠al 40):Stop k (t::r):=
 ⟨fun e=>cw (h1 e),fun e=>cw (h2 e),fun j hj _=>ts (fun b hb hbj=>h3 b hb (by omega)) h5.1 h5.2.1,fun e=>cw (h4 e),cw h5.2.2.1,cw h5.2.2.2.1,cw h5.2.2.2.2⟩
theorem fi{m:ByteArray}(h:m∈[al 41,al 93,al 125,al 44,bO 46 46,al 58])(k:Nat)(r:List Tok):Stop k (tm m::r):=by
 have hd:∀m,m∈[al 41,al 93,al 125,al 44,bO 46 46,al 58]→(m≠al 63∧m≠bO 61 62∧(∀b,b∈cj→m≠b.1)∧m≠cu)∧(m≠al 62∧m≠bO 62 61∧m≠al 91∧m≠al 64∧m≠al 40):=by decide +kernel
 obtain⟨⟨h1,h2,h3,h4⟩,h5⟩:=hd m h;exact ki r (fun _=>h1) (fun _=>h2) (fun b hb _=>h3 b hb) (fun _=>h4) h5
theorem Dl(r:List Tok):Stop 2 (tm (al 63)::r):=
 ki r (fun h=>by omega) (fun _=>by decide +kernel) (by decide +kernel) (fun _=>by decide +kernel) (by decide +kernel)
theorem rH{b:ByteArray×Int×Nat}(h:b∈cj)(r:List Tok):Stop (b.2.2+1) (tm b.1::r):=by
 have hd:∀b,b∈cj→(2≤b.2.2∧b.1≠al 63∧(b.2.2+1≤2→b.1≠bO 61 62)∧(∀c,c∈cj→b.2.2+1≤c.2.2→b.1≠c.1)∧b.1≠cu)∧(b.1≠al 62∧b.1≠bO 62 61∧b.1≠al 91∧b.1≠al 64∧b.1≠al 40):=by decide +kernel
 obtain⟨⟨h1,h2,h3,h4,h5⟩,h6⟩:=hd b h;exact ki r (fun _=>h2) h3 h4 (fun _=>h5) h6
theorem rK(r:List Tok):Stop 10 (tw cu::r):=
 ki r (fun h=>by omega) (fun h=>by omega) (by decide +kernel) (fun h=>by omega) (by decide +kernel)
theorem cO{m:ByteArray}(h:dG (tm m)=true)(r:List Tok):acc m (tm m::r)=some r:=by
 simp only[acc];rw[if_pos ⟨h,.inl rfl,rfl⟩]
theorem D5{m:ByteArray}(h:dG (tw m)=true)(r:List Tok):acc m (tw m::r)=some r:=by
 simp only[acc];rw[if_pos ⟨h,.inr rfl,rfl⟩]
theorem iQ(m s:ByteArray)(r:List Tok):acc m (tn s::r)=none:=by
 simp only[acc];rw[if_neg (fun h=>by rcases h.2.1 with h|h<;>cases h)]
theorem pC(m:ByteArray)(n:Int)(r:List Tok):acc m (td n::r)=none:=by
 simp only[acc];rw[if_neg (fun h=>by rcases h.2.1 with h|h<;>cases h)]
theorem da:∀m,m∈[al 40,al 41,al 123,al 125,al 91,al 93,al 58,bO 46 46,al 63,al 44,al 64,al 33,al 126,al 45]→dG (tm m)=true:=by decide +kernel
theorem sd:∀b,b∈cj→dG (tm b.1)=true:=by decide +kernel
theorem ol:dG (tw cu)=true:=by decide +kernel
theorem zu:∀b,b∈cj→3≤b.2.2→∀r,iq b.2.2 (tm b.1::r)=some (b.2.1,false,r):=by
 intro b hb hk r
 have key:∀(l:List (ByteArray×Int×Nat)),b∈l→(∀c,c∈l→c.1=b.1→c=b)→(∀c,c∈l→dG (tm c.1)=true)→iV l b.2.2 (tm b.1::r)=some (b.2.1,r):=by
  intro l
  induction l with
  | nil=>intro h;cases h
  | cons c l ih=>
   intro hbl hu hv;simp only[iV];by_cases e:c.1=b.1
   ·have:=hu c (by simp) e;subst this;rw[if_pos rfl,cO (hv c (by simp))]
   ·have hbl':b∈l:=by
     rcases List.mem_cons.1 hbl with h|h
     ·subst h;exact absurd rfl e
     ·exact h
    have hr:=ih hbl' (fun d hd=>hu d (by simp[hd])) (fun d hd=>hv d (by simp[hd]));rw[cw (t:=tm b.1) (fun h=>e h.symm),hr];split<;>rfl
 have hu:∀b,b∈cj→∀c,c∈cj→c.1=b.1→c=b:=by decide +kernel
 unfold iq;rw[key cj hb (hu b hb) sd]
def pk(k:Nat):PK:=if k=1 then .W else if k=2 then .I else if k=14 then .P else .L k
def Bp(k:Nat)(T:List Tok)(e:Ex):Prop:=∀r,Stop k r→par (pk k) (T++r)=.ok e r
theorem qa(r:List Tok):par (.L 13) r=par .U r:=by rw[dn];simp only[bG];rw[if_pos (by omega)]
theorem p9{k:Nat}{r:List Tok}(h:Stop k r)(hk:3≤k)(e:Ex):par (.Lp k e) r=.ok e r:=by
 rw[dn];simp only[bG]
 have h1:(if k=9 then acc cu r else none)=none:=by
  split
  ·exact h.ins (by omega)
  ·rfl
 rw[h1,h.op k (Nat.le_refl _) hk]
theorem GM{T:List Tok}{e:Ex}{j:Nat}(h:Bp (j+1) T e)(h1:1≤j)(h2:j≤13)(h3:j=13→∀r,acc (al 33) (T++r)=none∧acc (al 126) (T++r)=none∧acc (al 45) (T++r)=none):Bp j T e:=by
 intro r hr;have hn:=h r (hr.mono (Nat.le_succ j));by_cases j1:j=1
 ·subst j1;show par .W (T++r)=_;have hn:par .I (T++r)=.ok e r:=hn;rw[dn];simp only[bG,hn,PR.bind,hr.q (Nat.le_refl _)]
 by_cases j2:j=2
 ·subst j2;show par .I (T++r)=_;have hn:par (.L 3) (T++r)=.ok e r:=hn;rw[dn];simp only[bG,hn,PR.bind,hr.im (Nat.le_refl _)]
 by_cases j13:j=13
 ·subst j13;show par (.L 13) (T++r)=_;have hn:par .P (T++r)=.ok e r:=hn;obtain⟨a1,a2,a3⟩:=h3 rfl r;rw[qa,dn];simp only[bG,a1,a2,a3,hn]
 ·have hp:pk j=.L j:=by unfold pk;rw[if_neg j1,if_neg j2,if_neg (by omega)]
  have hp1:pk (j+1)=.L (j+1):=by unfold pk;rw[if_neg (by omega),if_neg (by omega),if_neg (by omega)]
  rw[hp1]at hn;rw[hp,dn];simp only[bG];rw[if_neg (by omega),hn];simp only[PR.bind];exact p9 hr (by omega) e
theorem Cs{T:List Tok}{e:Ex}{k:Nat}(h:Bp (k+1) T e)(h1:3≤k)(h2:k≤12){r:List Tok}(hr:Stop (k+1) r):par (.L k) (T++r)=par (.Lp k e) r:=by
 have hp1:pk (k+1)=.L (k+1):=by unfold pk;rw[if_neg (by omega),if_neg (by omega),if_neg (by omega)]
 have hn:=h r hr;rw[hp1]at hn;rw[dn];simp only[bG];rw[if_neg (by omega),hn];rfl
theorem FO{T:List Tok}{e:Ex}(h:Bp 1 T e):Bp 14 (tm (al 40)::(T++[tm (al 41)])) e:=by
 intro r hr;show par .P _=_;rw[dn];simp only[bG];unfold fp;rw[List.cons_append,cO (da _ (by simp))];have:=h (tm (al 41)::r) (fi (by simp) 1 r);have hp:pk 1=.W:=rfl;rw[hp]at this;simp only[List.append_assoc,List.singleton_append,this,PR.bind,cO (da (al 41) (by simp))]
structure RT(e:Ex):Prop where
 at_:∀k,1≤k→k≤14→Bp k (dJ k (e.op,a6 e)) e
 left:∀k,3≤k→k≤12→∀r,Stop (k+1) r→par (.L k) (dJ k (e.op,a6 e)++r)=par (.Lp k e) r
theorem pt{e:Ex}(k0:Nat)(hk:iU e.op=k0)(h1:1≤k0)(h14:k0≤14)(hb:Bp k0 (a6 e) e)(hp:k0=14→∀r,acc (al 33) (a6 e++r)=none∧acc (al 126) (a6 e++r)=none∧acc (al 45) (a6 e++r)=none)
 (hl:3≤k0→k0≤12→∀r,Stop (k0+1) r→par (.L k0) (a6 e++r)=par (.Lp k0 e) r):RT e:=by
 have plain:∀n k,k0=k+n→1≤k→Bp k (a6 e) e:=by
  intro n
  induction n with
  | zero=>intro k e _;rw[Nat.add_zero]at e;subst e;exact hb
  | succ n ih=>intro k hkn h1;exact GM (ih (k+1) (by omega) (by omega)) h1 (by omega) (fun e=>hp (by omega))
 have b1:Bp 1 (a6 e) e:=plain (k0-1) 1 (by omega) (Nat.le_refl _)
 have pr:∀n k,14=k+n→1≤k→Bp k (tm (al 40)::(a6 e++[tm (al 41)])) e:=by
  intro n
  induction n with
  | zero=>intro k e _;have:k=14:=by omega
          subst this;exact FO b1
  | succ n ih=>intro k hkn h1;exact GM (ih (k+1) (by omega) (by omega)) h1 (by omega) (fun e r=>⟨cw (t:=tm (al 40)) (by decide +kernel),cw (t:=tm (al 40)) (by decide +kernel),cw (t:=tm (al 40)) (by decide +kernel)⟩)
 have at_:∀k,1≤k→k≤14→Bp k (dJ k (e.op,a6 e)) e:=by
  intro k g1 g2;unfold dJ;simp only[hk];split
  ·exact pr (14-k) k (by omega) g1
  ·exact plain (k0-k) k (by omega) g1
 refine⟨at_,fun k g1 g2 r hr=>?_⟩;by_cases e0:k=k0
 ·subst e0;have:dJ k (e.op,a6 e)=a6 e:=by unfold dJ;simp only[hk];rw[if_neg (by omega)]
  rw[this];exact hl g1 g2 r hr
 ·have:dJ k (e.op,a6 e)=dJ (k+1) (e.op,a6 e):=by
   unfold dJ;simp only[hk];by_cases g:k0<k
   ·rw[if_pos g,if_pos (by omega)]
   ·rw[if_neg g,if_neg (by omega)]
  rw[this];exact Cs (at_ (k+1) (by omega) (by omega)) g1 g2 hr
end Go.Proofs.YtcbahpllcfbkmaaGreatDoor
