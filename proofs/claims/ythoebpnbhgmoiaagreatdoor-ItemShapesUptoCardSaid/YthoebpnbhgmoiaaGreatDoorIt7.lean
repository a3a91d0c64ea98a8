import Derived.Test.YthoebpnbhgmoiaaGreatDoorIt6
set_option linter.unusedVariables false
set_option linter.unusedSimpArgs false
set_option linter.unusedSectionVars false
open List renaming not_mem_nil→JH,mem_cons→JI
open Nat renaming mul_le_mul_left→JJ,mul_le_mul_right→JK,mul_assoc→JL,zero_add→JM,le_refl→JO
namespace Go.Proofs.YthoebpnbhgmoiaaGreatDoor
open Go.RowKit
def bJ(fs:List (ByteArray×Int))(s:ByteArray):Int:=(fsz fs s).getD 0
def elE(a:ByteArray)(k:Nat):Ex:=.mk 2 0 (aB a k) []
def eH(a:ByteArray):Nat→Ex
 | 0=>elE a 0
 | k+1=>.mk 7 0 ⟨#[]⟩ [eH a k,elE a (k+1)]
def chX(a:ByteArray)(n:Nat)(i:Ex):Nat→Ex
 | 0=>aU 0
 | m+1=>.mk 22 0 ⟨#[]⟩ [.mk 15 0 ⟨#[]⟩ [i,aU ((n-(m+1):Nat):Int)],elE a (n-(m+1)),chX a n i m]
section
variable (fs : List (ByteArray × Int))
def dX(a:ByteArray)(i:Ex):Ex:=if i.op=1 then(if i.num<bJ fs a then elE a i.num.toNat else aU 0)else chX a (bZ fs a) i (bZ fs a)
mutual
def scE:Ex→Ex
 | .mk o n s l=>if o=24 then eH s (bZ fs s-1)else if o=3 then(match scL l with|a::_=>dX fs s a | []=>aU 0)else .mk o n s (scL l)
def scL:List Ex→List Ex
 | []=>[]
 | a::r=>scE a::scL r
end
mutual
def dZ:Ex→Option Int
 | .mk o n s l=>if o=1 then some n else if o=3 then(match gL l with|some i=>if bJ fs s≤i then some 0 else none|none=>none)else none
def gL:List Ex→Option Int
 | []=>none
 | a::_=>dZ a
end
mutual
def tE:Ex→Nat
 | .mk o n s l=>if o=24 then 2*bZ fs s-1 else if o=3 then(if(gL fs l).isSome=true then 1 else bZ fs s*(tL l+4)+1)else tL l+1
def tL:List Ex→Nat
 | []=>0
 | a::r=>tE a+tL r
end
mutual
def psE:Ex→Nat
 | .mk o n s l=>if o=24 then 2*bZ fs s-1 else if o=3 then(if(gL fs l).isSome=true then 1 else min (bZ fs s*(psL l 0+4)+1) 401)else min (psL l 0+1) 401
def psL:List Ex→Nat→Nat
 | [],s=>s
 | a::r,s=>psL r (min (s+psE a) 401)
end
def lA:List Ex→Bool
 | []=>false
 | a::_=>decide (a.op=1)
mutual
def rwE:Ex→Nat
 | .mk o n s l=>if o=24 then 2*bZ fs s-1 else min ((if o=3 then(if lA l=true then 0 else bZ fs s*(rwL l 0+4))else rwL l 0)+1) 100000
def rwL:List Ex→Nat→Nat
 | [],s=>s
 | a::r,s=>if s<100000 then rwL r (s+rwE a)else s
end
theorem qq(l:List Ex):scL fs l=l.map (scE fs):=by
 induction l with
 | nil=>rw[scL];rfl
 | cons a r ih=>rw[scL,ih];rfl
mutual
def SOk:Ex→Prop
 | .mk o n s l=>(o=3∨o=24→1≤bJ fs s∧bJ fs s≤8∧bH s=true)∧(o=3→∃a,l=[a])∧(o=1∨o=24→l=[])∧(o=1→s=⟨#[]⟩)∧(o=2→s≠⟨#[]⟩)∧lS l
def lS:List Ex→Prop
 | []=>True
 | a::r=>SOk a∧lS r
end
theorem ci{l:List Ex}:lS fs l↔∀a,a∈l→SOk fs a:=by
 induction l with
 | nil=>simp[lS]
 | cons b r ih=>rw[lS,ih];simp
theorem db{s:ByteArray}(h:1≤bJ fs s):(bZ fs s:Int)=bJ fs s:=by
 unfold bZ;unfold bJ at h ⊢;omega
theorem nh(e:Ex):SOk fs e→(∀i,dZ fs e=some i→scE fs e=aU i)∧(dZ fs e=none→(scE fs e).op≠1):=by
 induction e using Ex.ind with
 | h o n s l ih=>
 intro h;rw[SOk]at h;obtain⟨h1,h2,h3,h4,h5,h6⟩:=h;rw[dZ,scE];by_cases o1:o=1
 ·rw[if_pos o1,if_neg (by omega),if_neg (by omega),h3 (.inl o1),h4 o1,scL,o1];exact⟨fun i hi=>by cases hi;rfl,fun h=>by cases h⟩
 ·rw[if_neg o1];by_cases o3:o=3
  ·obtain⟨a,rfl⟩:=h2 o3;obtain⟨g1,g2,-⟩:=h1 (.inl o3);have hn:=db fs g1;rw[if_pos o3,if_neg (by omega),if_pos o3,scL,scL,gL];rw[lS]at h6;obtain⟨q1,q2⟩:=ih a (by simp) h6.1;cases hc:dZ fs a with
   | some i=>
    rw[q1 i hc];show(∀j,(if bJ fs s≤i then some 0 else none)=some j→dX fs s (aU i)=aU j)∧((if bJ fs s≤i then some 0 else none)=none→(dX fs s (aU i)).op≠1)
    unfold dX;rw[if_pos (show(aU i).op=1 from rfl)];show(∀j,(if bJ fs s≤i then some 0 else none)=some j→(if i<bJ fs s then elE s i.toNat else aU 0)=aU j)∧((if bJ fs s≤i then some 0 else none)=none→(if i<bJ fs s then elE s i.toNat else aU 0).op≠1)
    by_cases hi:bJ fs s≤i
    ·rw[if_pos hi,if_neg (by omega)];exact⟨fun j hj=>by cases hj;rfl,fun h=>by cases h⟩
    ·rw[if_neg hi,if_pos (by omega)];exact⟨fun j hj=>(by cases hj),fun _=>(by decide:(2:Int)≠1)⟩
   | none=>
    refine⟨fun j hj=>(by cases hj),fun _=>?_⟩;show(dX fs s (scE fs a)).op≠1;unfold dX;rw[if_neg (q2 hc)];obtain⟨m,hm⟩:∃m,bZ fs s=m+1:=⟨bZ fs s-1,by omega⟩
    generalize bZ fs s=N at hm;subst hm;exact(by decide:(22:Int)≠1)
  ·rw[if_neg o3];refine⟨fun j hj=>(by cases hj),fun _=>?_⟩;by_cases o24:o=24
   ·rw[if_pos o24];cases bZ fs s-1 with
    | zero=>exact(by decide:(2:Int)≠1)
    | succ k=>exact(by decide:(7:Int)≠1)
   ·rw[if_neg o24,if_neg o3];exact o1
theorem wG(a:ByteArray):∀k,aA (eH a k)=2*k+1:=by
 intro k
 induction k with
 | zero=>rfl
 | succ k ih=>
  have e1:∀k,aA (elE a k)=1:=fun _=>rfl;rw[eH,aA,aG,aG,aG,ih,e1];omega
theorem yX(a:ByteArray)(n:Nat)(i:Ex):∀m,aA (chX a n i m)=m*(aA i+4)+1:=by
 intro m
 induction m with
 | zero=>rw[Nat.zero_mul];rfl
 | succ m ih=>
  rw[chX,aA,aG,aG,aG,aG,ih,aA,aG,aG,aG,Nat.add_mul];have e1:∀k,aA (elE a k)=1:=fun _=>rfl;have e2:∀n,aA (aU n)=1:=fun _=>rfl;rw[e1,e2];generalize m*(aA i+4)=Z;omega
theorem j9(e:Ex):SOk fs e→aA (scE fs e)=tE fs e:=by
 induction e using Ex.ind with
 | h o n s l ih=>
 intro h;have hS:=h;rw[SOk]at h;obtain⟨h1,h2,h3,h4,h5,h6⟩:=h;rw[scE,tE];by_cases o24:o=24
 ·obtain⟨g1,g2,-⟩:=h1 (.inr o24);have hn:=db fs g1;rw[if_pos o24,if_pos o24,wG];omega
 ·rw[if_neg o24,if_neg o24];by_cases o3:o=3
  ·obtain⟨a,rfl⟩:=h2 o3;obtain⟨g1,g2,-⟩:=h1 (.inl o3);rw[if_pos o3,if_pos o3,scL,scL,gL,tL,tL];rw[lS]at h6;obtain⟨q1,q2⟩:=nh fs a h6.1;show aA (dX fs s (scE fs a))=_;unfold dX;cases hc:dZ fs a with
   | some i=>
    rw[q1 i hc,if_pos (show(aU i).op=1 from rfl),if_pos (show(some i).isSome=true from rfl)];split<;>rfl
   | none=>
    rw[if_neg (q2 hc),if_neg (by simp),yX,ih a (by simp) h6.1,Nat.add_zero]
  ·rw[if_neg o3,if_neg o3,aA]
   have:∀r:List Ex,(∀a,a∈r→a∈l)→aG (scL fs r)=tL fs r:=by
    intro r
    induction r with
    | nil=>intro _;rfl
    | cons a r ihr=>
     intro hm;rw[scL,aG,tL,ih a (hm a (by simp)) ((ci fs).1 h6 a (hm a (by simp))),ihr fun x hx=>hm x (by simp[hx])]
   rw[this l fun _ h=>h]
theorem B1{n x:Nat}(hn:1≤n):min (n*(min x 401+4)+1) 401=min (n*(x+4)+1) 401:=by
 rcases Nat.le_total x 401 with h|h
 ·rw[Nat.min_eq_left h]
 ·rw[Nat.min_eq_right h];have h1:1*(401+4)≤n*(401+4):=JK _ hn;have h2:n*(401+4)≤n*(x+4):=JJ _ (by omega);omega
theorem EU(e:Ex):SOk fs e→psE fs e=min (tE fs e) 401:=by
 induction e using Ex.ind with
 | h o n s l ih=>
 intro h;rw[SOk]at h;obtain⟨h1,h2,h3,h4,h5,h6⟩:=h
 have H:∀r:List Ex,(∀a,a∈r→a∈l)→∀x,x≤401→psL fs r x=min (x+tL fs r) 401:=by
  intro r
  induction r with
  | nil=>intro _ x hx;rw[psL,tL];omega
  | cons a r ihr=>
   intro hm x hx;rw[psL,tL,ih a (hm a (by simp)) ((ci fs).1 h6 a (hm a (by simp))),ihr (fun y hy=>hm y (by simp[hy])) _ (by omega)];omega
 rw[psE,tE,H l (fun _ h=>h) 0 (by omega),JM];by_cases o24:o=24
 ·obtain⟨g1,g2,-⟩:=h1 (.inr o24);have hn:=db fs g1;rw[if_pos o24,if_pos o24];omega
 ·rw[if_neg o24,if_neg o24];by_cases o3:o=3
  ·obtain⟨g1,g2,-⟩:=h1 (.inl o3);have hn:=db fs g1;rw[if_pos o3,if_pos o3];split
   ·rfl
   ·exact B1 (by omega)
  ·rw[if_neg o3,if_neg o3];omega
theorem GP{A B E F:Nat}(m1:A≤B)(m2:B≤E)(m3:E=41*F):min (A+1) 100000≤41*(F+1):=by omega
theorem Hg{A F W:Nat}(m4:W<100000→F≤A)(m5:W+4≤A):min (F+1) 100000≤min (A+1) 100000:=by
 rcases Nat.lt_or_ge W 100000 with hW|hW
 ·have:=m4 hW;omega
 ·omega
theorem Ct{e:Ex}(h:SOk fs e){i:Int}(hc:dZ fs e=some i)(hi:1≤i):e.op=1:=by
 cases e with
 | mk o n s l=>
 rw[dZ]at hc;by_cases o1:o=1
 ·exact o1
 ·rw[if_neg o1]at hc;split at hc
  ·split at hc
   ·split at hc
    ·cases hc;omega
    ·cases hc
   ·cases hc
  ·cases hc
theorem EZ(e:Ex):SOk fs e→rwE fs e≤41*tE fs e∧min (tE fs e) 100000≤rwE fs e:=by
 induction e using Ex.ind with
 | h o n s l ih=>
 intro h;rw[SOk]at h;obtain⟨h1,h2,h3,h4,h5,h6⟩:=h
 have H:∀r:List Ex,(∀a,a∈r→a∈l)→∀x,rwL fs r x≤x+41*tL fs r∧min (x+tL fs r) 100000≤rwL fs r x:=by
  intro r
  induction r with
  | nil=>intro _ x;rw[rwL,tL];omega
  | cons a r ihr=>
   intro hm x;have q:=ih a (hm a (by simp)) ((ci fs).1 h6 a (hm a (by simp)));have q':=ihr (fun y hy=>hm y (by simp[hy])) (x+rwE fs a);rw[rwL,tL];split<;>omega
 have H0:=H l (fun _ h=>h) 0;rw[rwE,tE];by_cases o24:o=24
 ·obtain⟨g1,g2,-⟩:=h1 (.inr o24);have hn:=db fs g1;rw[if_pos o24,if_pos o24];omega
 ·rw[if_neg o24,if_neg o24];by_cases o3:o=3
  ·obtain⟨g1,g2,-⟩:=h1 (.inl o3);have hn:=db fs g1;obtain⟨a,rfl⟩:=h2 o3;rw[lS]at h6;rw[if_pos o3,if_pos o3];by_cases hh:lA [a]=true
   ·have ha:a.op=1:=by simpa[lA]using hh
    have hc:(gL fs [a]).isSome=true:=by
     rw[gL];cases a with|mk o' n' s' l'=>rw[dZ,if_pos (show o'=1 from ha)];rfl
    rw[if_pos hh,if_pos hc];omega
   ·rw[if_neg hh];have ha:¬a.op=1:=by simpa[lA]using hh
    by_cases hc:(gL fs [a]).isSome=true
    ·rw[if_pos hc]
     have e1:rwL fs [a] 0=1:=by
      rw[rwL,if_pos (by omega),rwL,JM];rw[gL]at hc;cases a with
      | mk o' n' s' l'=>
      have ho:¬o'=1:=ha;rw[dZ,if_neg ho]at hc;have h7:=h6.1;rw[SOk]at h7;obtain⟨k1,k2,k3,k4,k5,k6⟩:=h7;by_cases o3':o'=3
      ·obtain⟨b,rfl⟩:=k2 o3';obtain⟨f1,f2,-⟩:=k1 (.inl o3');rw[if_pos o3',gL]at hc;rw[rwE,if_neg (by omega),if_pos o3'];cases hb:dZ fs b with
       | none=>rw[hb]at hc;cases hc
       | some i=>
        rw[hb]at hc;rw[lS]at k6
        have:bJ fs s'≤i:=by
         apply Classical.byContradiction;intro hn;simp[hn]at hc
        have hb1:=Ct fs k6.1 hb (by omega);rw[if_pos (show lA [b]=true by simp[lA,hb1])];rfl
      ·rw[if_neg o3']at hc;cases hc
     rw[e1];have:bZ fs s*(1+4)≤8*(1+4):=JK _ (by omega);omega
    ·rw[if_neg hc];generalize rwL fs [a] 0=W at H0 ⊢;generalize tL fs [a]=T at H0 ⊢;generalize bZ fs s=N at *;have m1:N*(W+4)≤N*(41*T+4):=JJ _ (by omega);have m2:N*(41*T+4)≤N*(41*(T+4)):=JJ _ (by omega);have m3:N*(41*(T+4))=41*(N*(T+4)):=by rw[←JL,←JL,Nat.mul_comm N 41]
     have m4:W<100000→N*(T+4)≤N*(W+4):=fun hW=>JJ _ (by omega);have m5:W+4≤N*(W+4):=by have:=JK (W+4) (show 1≤N by omega);omega
     clear ih;generalize N*(W+4)=A at m1 m4 m5 ⊢;generalize N*(41*T+4)=B at m1 m2;generalize N*(41*(T+4))=E at m2 m3;generalize N*(T+4)=F at m3 m4 ⊢;exact⟨GP m1 m2 m3,Hg m4 m5⟩
  ·rw[if_neg o3,if_neg o3];omega
theorem dP{ops:List Int}{P:ByteArray→Prop}(o n:Int)(s:ByteArray)(l:List Ex):eM ops P (.mk o n s l)↔(o∈ops→P s)∧∀a,a∈l→eM ops P a:=by
 have:∀r:List Ex,fU ops P r↔∀a,a∈r→eM ops P a:=by
  intro r
  induction r with
  | nil=>simp[fU]
  | cons a r ih=>rw[fU,ih];simp
 rw[eM,this]
theorem gZ{ops:List Int}{P:ByteArray→Prop}(h:(1:Int)∉ops)(n:Int):eM ops P (aU n):=by
 unfold aU;rw[dP];exact⟨fun hh=>absurd hh h,fun a ha=>(by cases ha)⟩
theorem jS{ops:List Int}{P:ByteArray→Prop}{a:ByteArray}{k:Nat}(h:2∈ops→P (aB a k)):eM ops P (elE a k):=by
 unfold elE;rw[dP];exact⟨h,fun a ha=>(by cases ha)⟩
theorem oO{ops:List Int}{P:ByteArray→Prop}(h7:(7:Int)∉ops){a:ByteArray}:∀k,(2∈ops→∀j,j≤k→P (aB a j))→eM ops P (eH a k):=by
 intro k
 induction k with
 | zero=>intro h;exact jS fun h2=>h h2 0 (by omega)
 | succ k ih=>
  intro h;rw[eH,dP];refine⟨fun hh=>absurd hh h7,fun x hx=>?_⟩;simp only[JI,JH,or_false]at hx;rcases hx with rfl|rfl
  ·exact ih fun h2 j hj=>h h2 j (by omega)
  ·exact jS fun h2=>h h2 _ (by omega)
theorem qW{ops:List Int}{P:ByteArray→Prop}(h1:(1:Int)∉ops)(h15:(15:Int)∉ops)(h22:(22:Int)∉ops){a:ByteArray}{n:Nat}{i:Ex}(hi:eM ops P i)(h:2∈ops→∀j,j<n→P (aB a j)):∀m,m≤n→eM ops P (chX a n i m):=by
 intro m
 induction m with
 | zero=>intro _;exact gZ h1 _
 | succ m ih=>
  intro hm;rw[chX,dP];refine⟨fun hh=>absurd hh h22,fun x hx=>?_⟩;simp only[JI,JH,or_false]at hx;rcases hx with rfl|rfl|rfl
  ·rw[dP];refine⟨fun hh=>absurd hh h15,fun x hx=>?_⟩;simp only[JI,JH,or_false]at hx;rcases hx with rfl|rfl
   ·exact hi
   ·exact gZ h1 _
  ·exact jS fun h2=>h h2 _ (by omega)
  ·exact ih (by omega)
theorem np(P:ByteArray→Prop)(he:∀a (k:Nat),(k:Int)<bJ fs a→P (aB a k))(e:Ex):SOk fs e→eM [2] P e→(∀n,n∈bj e→n.op=1→0≤n.num)→eM [2] P (scE fs e)∧eM [3,24] (fun _=>False) (scE fs e):=by
 induction e using Ex.ind with
 | h o n s l ih=>
 intro h hP h0;rw[SOk]at h;obtain⟨h1,h2,h3,h4,h5,h6⟩:=h;rw[dP]at hP;have hsub:∀a,a∈l→∀n,n∈bj a→n.op=1→0≤n.num:=fun a ha n hn=>h0 n (by rw[bj];exact List.mem_cons_of_mem _ (dV.2 ⟨a,ha,hn⟩));rw[scE];by_cases o24:o=24
 ·obtain⟨g1,g2,-⟩:=h1 (.inr o24);have hn:=db fs g1;rw[if_pos o24];exact⟨oO (by decide) _ fun _ j hj=>he s j (by omega),oO (by decide) _ fun h=>absurd h (by decide)⟩
 ·rw[if_neg o24];by_cases o3:o=3
  ·obtain⟨g1,g2,-⟩:=h1 (.inl o3);have hn:=db fs g1;obtain⟨a,rfl⟩:=h2 o3;rw[lS]at h6;obtain⟨q1,q2⟩:=ih a (by simp) h6.1 (hP.2 a (by simp)) (hsub a (by simp));rw[if_pos o3,scL];show eM [2] P (dX fs s (scE fs a))∧eM [3,24] (fun _=>False) (dX fs s (scE fs a));unfold dX;split
   ·rename_i hc;split
    ·rename_i hl;refine⟨jS fun _=>he _ _ ?_,jS fun h=>absurd h (by decide)⟩;obtain⟨c1,c2⟩:=nh fs a h6.1;cases hcc:dZ fs a with
     | none=>exact absurd hc (c2 hcc)
     | some i=>
      rw[c1 i hcc]at hl ⊢
      have:0≤i:=by
       cases a with
       | mk o' n' s' l'=>
       rw[dZ]at hcc;split at hcc
       ·rename_i o1;cases hcc;exact h0 (.mk o' i s' l') (by rw[bj,bT,bj];simp) o1
       ·split at hcc
        ·split at hcc
         ·split at hcc
          ·cases hcc;omega
          ·cases hcc
         ·cases hcc
        ·cases hcc
      have hl:i<bJ fs s:=hl;show((i.toNat:Nat):Int)<_;omega
    ·exact⟨gZ (by decide) _,gZ (by decide) _⟩
   ·exact⟨qW (by decide) (by decide) (by decide) q1 (fun _ j hj=>he s j (by omega)) _ (JO _),qW (by decide) (by decide) (by decide) q2 (fun h=>absurd h (by decide)) _ (JO _)⟩
  ·rw[if_neg o3,dP,dP,qq];refine⟨⟨hP.1,fun x hx=>?_⟩,⟨fun h=>?_,fun x hx=>?_⟩⟩
   ·obtain⟨a,ha,rfl⟩:=List.mem_map.1 hx;exact(ih a ha ((ci fs).1 h6 a ha) (hP.2 a ha) (hsub a ha)).1
   ·simp at h;omega
   ·obtain⟨a,ha,rfl⟩:=List.mem_map.1 hx;exact(ih a ha ((ci fs).1 h6 a ha) (hP.2 a ha) (hsub a ha)).2
end
end Go.Proofs.YthoebpnbhgmoiaaGreatDoor
