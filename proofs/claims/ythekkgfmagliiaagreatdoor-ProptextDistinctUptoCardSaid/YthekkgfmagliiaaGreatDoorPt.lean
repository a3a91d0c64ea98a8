import Derived.Test.YthekkgfmagliiaaGreatDoorPg2
import Derived.Test.YthekkgfmagliiaaGreatDoorNames2
set_option linter.unusedVariables false
set_option linter.unusedSimpArgs false
set_option linter.unusedSectionVars false
namespace Go.Proofs.YthekkgfmagliiaaGreatDoor
open Go.RowKit
def fD(o:Int):Option (ByteArray×Nat):=(cv.find? fun b=>decide (b.2.1=o)).map fun b=>(b.1,b.2.2)
def jD(o:Int):Nat:=match fD o with
 | some (_,l)=>l
 | none=>if o=22 then 1 else if o=23 then 9 else if o=4∨o=5∨o=6 then 13 else 14
def tm(m:ByteArray):Tok:=⟨4,0,m,1⟩
def tw(m:ByteArray):Tok:=⟨2,0,m,1⟩
def tn(s:ByteArray):Tok:=⟨1,0,s,1⟩
def td(n:Int):Tok:=⟨3,n,ta n,1⟩
def ey(k:Nat)(a:Int×List Tok):List Tok:=if jD a.1<k then tm (aj 40)::(a.2++[tm (aj 41)])else a.2
def d7:List (Int×List Tok)→List Tok
 | []=>[]
 | [_]=>[]
 | [a,b]=>a.2++tm (aO 46 46)::b.2
 | a::b::c::r=>a.2++tm (aO 46 46)::(b.2++tm (aj 44)::d7 (c::r))
def c6(s:ByteArray):Int:=(((je s 91).data.toList.headD 0).toNat:Int)-48
def kw(s:ByteArray):List Tok:=if fW s=true then[tn (gD s 91),tm (aj 64),td (c6 s)]else[tn s]
def jl(o n:Int)(s:ByteArray)(xs:List (Int×List Tok)):List Tok:=match fD o with
 | some (m,l)=>ey (if l=2 then 3 else l) (xs.getD 0 (1,[]))++tm m::ey (if l=2 then 2 else l+1) (xs.getD 1 (1,[]))
 | none=>
  if o=4 then tm (aj 33)::ey 13 (xs.getD 0 (1,[]))
  else if o=5 then tm (aj 126)::ey 13 (xs.getD 0 (1,[]))
  else if o=6 then tm (aj 45)::ey 13 (xs.getD 0 (1,[]))
  else if o=22 then ey 2 (xs.getD 0 (1,[]))++tm (aj 63)::(ey 1 (xs.getD 1 (1,[]))++tm (aj 58)::ey 1 (xs.getD 2 (1,[])))
  else if o=23 then ey 9 (xs.getD 0 (1,[]))++tw bU::tm (aj 123)::(d7 xs.tail++[tm (aj 125)])
  else if o=1 then[td n]
  else if o=3 then tn s::tm (aj 91)::((xs.getD 0 (1,[])).2++[tm (aj 93)])
  else if o=24 then[tn kP,tm (aj 40),tn s,tm (aj 41)]
  else if o=25 then tn gC::tm (aj 40)::((xs.getD 0 (1,[])).2++[tm (aj 41)])
  else kw s
mutual
def bh:Ex→List Tok
 | .mk o n s l=>jl o n s (dJ l)
def dJ:List Ex→List (Int×List Tok)
 | []=>[]
 | a::r=>(a.op,bh a)::dJ r
end
theorem wR(l:List Ex):dJ l=l.map fun a=>(a.op,bh a):=by
 induction l with
 | nil=>rfl
 | cons a r ih=>simp only[dJ,ih,List.map_cons]
structure Stop(k:Nat)(r:List Tok):Prop where
 q:k≤1→acc (aj 63) r=none
 im:k≤2→acc (aO 61 62) r=none
 op:∀j,k≤j→3≤j→fL j r=none
 ins:k≤9→acc bU r=none
 b:acc (aj 91) r=none
 a:acc (aj 64) r=none
 p:acc (aj 40) r=none
theorem Stop.mono{k j:Nat}{r:List Tok}(h:Stop k r)(hj:k≤j):Stop j r:=
 ⟨fun e=>h.q (by omega),fun e=>h.im (by omega),fun i h1 h2=>h.op i (by omega) h2,fun e=>h.ins (by omega),h.b,h.a,h.p⟩
theorem bt{m:ByteArray}{t:Tok}{r:List Tok}(h:t.text≠m):acc m (t::r)=none:=by
 simp only[acc];rw[if_neg (fun hc=>h hc.2.2)]
theorem kW{t:Tok}{r:List Tok}{k:Nat}:∀(l:List (ByteArray×Int×Nat)),(∀b,b∈l→b.2.2=k→t.text≠b.1)→ir l k (t::r)=none
 | [],_=>rfl
 | b::l,h=>by
  simp only[ir];split
  ·rename_i hb;rw[bt (h b (by simp) hb)];exact kW l fun c hc=>h c (by simp[hc])
  ·exact kW l fun c hc=>h c (by simp[hc])
theorem xb{t:Tok}{r:List Tok}{k:Nat}(h:∀b,b∈cv→b.2.2=k→t.text≠b.1)(h1:t.text≠aj 62)(h2:t.text≠aO 62 61):fL k (t::r)=none:=by
 unfold fL;rw[kW cv h];simp only;split
 ·rw[bt h1,bt h2]
 ·rfl
theorem lv{k:Nat}{t:Tok}(r:List Tok)(h1:k≤1→t.text≠aj 63)(h2:k≤2→t.text≠aO 61 62)(h3:∀b,b∈cv→k≤b.2.2→t.text≠b.1)(h4:k≤9→t.text≠bU)
 (h5:t.text≠aj 62∧t.text≠aO 62 61∧t.text≠aj 91∧t.text≠aj 64∧t.text≠aj 40):Stop k (t::r):=
 ⟨fun e=>bt (h1 e),fun e=>bt (h2 e),fun j hj _=>xb (fun b hb hbj=>h3 b hb (by omega)) h5.1 h5.2.1,fun e=>bt (h4 e),bt h5.2.2.1,bt h5.2.2.2.1,bt h5.2.2.2.2⟩
theorem eO{m:ByteArray}(h:m∈[aj 41,aj 93,aj 125,aj 44,aO 46 46,aj 58])(k:Nat)(r:List Tok):Stop k (tm m::r):=by
 have hd:∀m,m∈[aj 41,aj 93,aj 125,aj 44,aO 46 46,aj 58]→(m≠aj 63∧m≠aO 61 62∧(∀b,b∈cv→m≠b.1)∧m≠bU)∧(m≠aj 62∧m≠aO 62 61∧m≠aj 91∧m≠aj 64∧m≠aj 40):=by decide +kernel
 obtain⟨⟨h1,h2,h3,h4⟩,h5⟩:=hd m h;exact lv r (fun _=>h1) (fun _=>h2) (fun b hb _=>h3 b hb) (fun _=>h4) h5
theorem HA(r:List Tok):Stop 2 (tm (aj 63)::r):=
 lv r (fun h=>by omega) (fun _=>by decide +kernel) (by decide +kernel) (fun _=>by decide +kernel) (by decide +kernel)
theorem uF{b:ByteArray×Int×Nat}(h:b∈cv)(r:List Tok):Stop (b.2.2+1) (tm b.1::r):=by
 have hd:∀b,b∈cv→(2≤b.2.2∧b.1≠aj 63∧(b.2.2+1≤2→b.1≠aO 61 62)∧(∀c,c∈cv→b.2.2+1≤c.2.2→b.1≠c.1)∧b.1≠bU)∧(b.1≠aj 62∧b.1≠aO 62 61∧b.1≠aj 91∧b.1≠aj 64∧b.1≠aj 40):=by decide +kernel
 obtain⟨⟨h1,h2,h3,h4,h5⟩,h6⟩:=hd b h;exact lv r (fun _=>h2) h3 h4 (fun _=>h5) h6
theorem ud(r:List Tok):Stop 10 (tw bU::r):=
 lv r (fun h=>by omega) (fun h=>by omega) (by decide +kernel) (fun h=>by omega) (by decide +kernel)
theorem b5{m:ByteArray}(h:cK (tm m)=true)(r:List Tok):acc m (tm m::r)=some r:=by
 simp only[acc];rw[if_pos ⟨h,.inl rfl,rfl⟩]
theorem l8{m:ByteArray}(h:cK (tw m)=true)(r:List Tok):acc m (tw m::r)=some r:=by
 simp only[acc];rw[if_pos ⟨h,.inr rfl,rfl⟩]
theorem jo(m s:ByteArray)(r:List Tok):acc m (tn s::r)=none:=by
 simp only[acc];rw[if_neg (fun h=>by rcases h.2.1 with h|h<;>cases h)]
theorem oB(m:ByteArray)(n:Int)(r:List Tok):acc m (td n::r)=none:=by
 simp only[acc];rw[if_neg (fun h=>by rcases h.2.1 with h|h<;>cases h)]
theorem bJ:∀m,m∈[aj 40,aj 41,aj 123,aj 125,aj 91,aj 93,aj 58,aO 46 46,aj 63,aj 44,aj 64,aj 33,aj 126,aj 45]→cK (tm m)=true:=by decide +kernel
theorem u7:∀b,b∈cv→cK (tm b.1)=true:=by decide +kernel
theorem rf:cK (tw bU)=true:=by decide +kernel
theorem Dd:∀b,b∈cv→3≤b.2.2→∀r,fL b.2.2 (tm b.1::r)=some (b.2.1,false,r):=by
 intro b hb hk r
 have key:∀(l:List (ByteArray×Int×Nat)),b∈l→(∀c,c∈l→c.1=b.1→c=b)→(∀c,c∈l→cK (tm c.1)=true)→ir l b.2.2 (tm b.1::r)=some (b.2.1,r):=by
  intro l
  induction l with
  | nil=>intro h;cases h
  | cons c l ih=>
   intro hbl hu hv;simp only[ir];by_cases e:c.1=b.1
   ·have:=hu c (by simp) e;subst this;rw[if_pos rfl,b5 (hv c (by simp))]
   ·have hbl':b∈l:=by
     rcases List.mem_cons.1 hbl with h|h
     ·subst h;exact absurd rfl e
     ·exact h
    have hr:=ih hbl' (fun d hd=>hu d (by simp[hd])) (fun d hd=>hv d (by simp[hd]));rw[bt (t:=tm b.1) (fun h=>e h.symm),hr];split<;>rfl
 have hu:∀b,b∈cv→∀c,c∈cv→c.1=b.1→c=b:=by decide +kernel
 unfold fL;rw[key cv hb (hu b hb) u7]
def pk(k:Nat):PK:=if k=1 then .W else if k=2 then .I else if k=14 then .P else .L k
def Bp(k:Nat)(T:List Tok)(e:Ex):Prop:=∀r,Stop k r→par (pk k) (T++r)=.ok e r
theorem sJ(r:List Tok):par (.L 13) r=par .U r:=by rw[dT];simp only[aT];rw[if_pos (by omega)]
theorem sa{k:Nat}{r:List Tok}(h:Stop k r)(hk:3≤k)(e:Ex):par (.Lp k e) r=.ok e r:=by
 rw[dT];simp only[aT]
 have h1:(if k=9 then acc bU r else none)=none:=by
  split
  ·exact h.ins (by omega)
  ·rfl
 rw[h1,h.op k (Nat.le_refl _) hk]
theorem Kl{T:List Tok}{e:Ex}{j:Nat}(h:Bp (j+1) T e)(h1:1≤j)(h2:j≤13)(h3:j=13→∀r,acc (aj 33) (T++r)=none∧acc (aj 126) (T++r)=none∧acc (aj 45) (T++r)=none):Bp j T e:=by
 intro r hr;have hn:=h r (hr.mono (Nat.le_succ j));by_cases j1:j=1
 ·subst j1;show par .W (T++r)=_;have hn:par .I (T++r)=.ok e r:=hn;rw[dT];simp only[aT,hn,PR.bind,hr.q (Nat.le_refl _)]
 by_cases j2:j=2
 ·subst j2;show par .I (T++r)=_;have hn:par (.L 3) (T++r)=.ok e r:=hn;rw[dT];simp only[aT,hn,PR.bind,hr.im (Nat.le_refl _)]
 by_cases j13:j=13
 ·subst j13;show par (.L 13) (T++r)=_;have hn:par .P (T++r)=.ok e r:=hn;obtain⟨a1,a2,a3⟩:=h3 rfl r;rw[sJ,dT];simp only[aT,a1,a2,a3,hn]
 ·have hp:pk j=.L j:=by unfold pk;rw[if_neg j1,if_neg j2,if_neg (by omega)]
  have hp1:pk (j+1)=.L (j+1):=by unfold pk;rw[if_neg (by omega),if_neg (by omega),if_neg (by omega)]
  rw[hp1]at hn;rw[hp,dT];simp only[aT];rw[if_neg (by omega),hn];simp only[PR.bind];exact sa hr (by omega) e
theorem EO{T:List Tok}{e:Ex}{k:Nat}(h:Bp (k+1) T e)(h1:3≤k)(h2:k≤12){r:List Tok}(hr:Stop (k+1) r):par (.L k) (T++r)=par (.Lp k e) r:=by
 have hp1:pk (k+1)=.L (k+1):=by unfold pk;rw[if_neg (by omega),if_neg (by omega),if_neg (by omega)]
 have hn:=h r hr;rw[hp1]at hn;rw[dT];simp only[aT];rw[if_neg (by omega),hn];rfl
theorem JF{T:List Tok}{e:Ex}(h:Bp 1 T e):Bp 14 (tm (aj 40)::(T++[tm (aj 41)])) e:=by
 intro r hr;show par .P _=_;rw[dT];simp only[aT];unfold dY;rw[List.cons_append,b5 (bJ _ (by simp))];have:=h (tm (aj 41)::r) (eO (by simp) 1 r);have hp:pk 1=.W:=rfl;rw[hp]at this;simp only[List.append_assoc,List.singleton_append,this,PR.bind,b5 (bJ (aj 41) (by simp))]
structure RT(e:Ex):Prop where
 at_:∀k,1≤k→k≤14→Bp k (ey k (e.op,bh e)) e
 left:∀k,3≤k→k≤12→∀r,Stop (k+1) r→par (.L k) (ey k (e.op,bh e)++r)=par (.Lp k e) r
theorem qw{e:Ex}(k0:Nat)(hk:jD e.op=k0)(h1:1≤k0)(h14:k0≤14)(hb:Bp k0 (bh e) e)(hp:k0=14→∀r,acc (aj 33) (bh e++r)=none∧acc (aj 126) (bh e++r)=none∧acc (aj 45) (bh e++r)=none)
 (hl:3≤k0→k0≤12→∀r,Stop (k0+1) r→par (.L k0) (bh e++r)=par (.Lp k0 e) r):RT e:=by
 have plain:∀n k,k0=k+n→1≤k→Bp k (bh e) e:=by
  intro n
  induction n with
  | zero=>intro k e _;rw[Nat.add_zero]at e;subst e;exact hb
  | succ n ih=>intro k hkn h1;exact Kl (ih (k+1) (by omega) (by omega)) h1 (by omega) (fun e=>hp (by omega))
 have b1:Bp 1 (bh e) e:=plain (k0-1) 1 (by omega) (Nat.le_refl _)
 have pr:∀n k,14=k+n→1≤k→Bp k (tm (aj 40)::(bh e++[tm (aj 41)])) e:=by
  intro n
  induction n with
  | zero=>intro k e _;have:k=14:=by omega
          subst this;exact JF b1
  | succ n ih=>intro k hkn h1;exact Kl (ih (k+1) (by omega) (by omega)) h1 (by omega) (fun e r=>⟨bt (t:=tm (aj 40)) (by decide +kernel),bt (t:=tm (aj 40)) (by decide +kernel),bt (t:=tm (aj 40)) (by decide +kernel)⟩)
 have at_:∀k,1≤k→k≤14→Bp k (ey k (e.op,bh e)) e:=by
  intro k g1 g2;unfold ey;simp only[hk];split
  ·exact pr (14-k) k (by omega) g1
  ·exact plain (k0-k) k (by omega) g1
 refine⟨at_,fun k g1 g2 r hr=>?_⟩;by_cases e0:k=k0
 ·subst e0;have:ey k (e.op,bh e)=bh e:=by unfold ey;simp only[hk];rw[if_neg (by omega)]
  rw[this];exact hl g1 g2 r hr
 ·have:ey k (e.op,bh e)=ey (k+1) (e.op,bh e):=by
   unfold ey;simp only[hk];by_cases g:k0<k
   ·rw[if_pos g,if_pos (by omega)]
   ·rw[if_neg g,if_neg (by omega)]
  rw[this];exact EO (at_ (k+1) (by omega) (by omega)) g1 g2 hr
end Go.Proofs.YthekkgfmagliiaaGreatDoor
