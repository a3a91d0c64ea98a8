import Derived.Test.YthoebpnbhgmoiaaGreatDoorIt6
set_option linter.unusedVariables false
set_option linter.unusedSimpArgs false
set_option linter.unusedSectionVars false
namespace Go.Proofs.YthoebpnbhgmoiaaGreatDoor
open Go.RowKit
def fszI(fs:List (ByteArray×Int))(s:ByteArray):Int:=(fsz fs s).getD 0
def elE(a:ByteArray)(k:Nat):Ex:=.mk 2 0 (elemName a k) []
def sumX(a:ByteArray):Nat→Ex
 | 0=>elE a 0
 | k+1=>.mk 7 0 ⟨#[]⟩ [sumX a k,elE a (k+1)]
def chX(a:ByteArray)(n:Nat)(i:Ex):Nat→Ex
 | 0=>constE 0
 | m+1=>.mk 22 0 ⟨#[]⟩ [.mk 15 0 ⟨#[]⟩ [i,constE ((n-(m+1):Nat):Int)],elE a (n-(m+1)),chX a n i m]
section
variable (fs : List (ByteArray × Int))
def elmX(a:ByteArray)(i:Ex):Ex:=if i.op=1 then(if i.num<fszI fs a then elE a i.num.toNat else constE 0)else chX a (fszN fs a) i (fszN fs a)
mutual
def scE:Ex→Ex
 | .mk o n s l=>if o=24 then sumX s (fszN fs s-1)else if o=3 then(match scL l with|a::_=>elmX fs s a | []=>constE 0)else .mk o n s (scL l)
def scL:List Ex→List Ex
 | []=>[]
 | a::r=>scE a::scL r
end
mutual
def cstE:Ex→Option Int
 | .mk o n s l=>if o=1 then some n else if o=3 then(match cstL l with|some i=>if fszI fs s≤i then some 0 else none|none=>none)else none
def cstL:List Ex→Option Int
 | []=>none
 | a::_=>cstE a
end
mutual
def tE:Ex→Nat
 | .mk o n s l=>if o=24 then 2*fszN fs s-1 else if o=3 then(if(cstL fs l).isSome=true then 1 else fszN fs s*(tL l+4)+1)else tL l+1
def tL:List Ex→Nat
 | []=>0
 | a::r=>tE a+tL r
end
mutual
def psE:Ex→Nat
 | .mk o n s l=>if o=24 then 2*fszN fs s-1 else if o=3 then(if(cstL fs l).isSome=true then 1 else min (fszN fs s*(psL l 0+4)+1) 401)else min (psL l 0+1) 401
def psL:List Ex→Nat→Nat
 | [],s=>s
 | a::r,s=>psL r (min (s+psE a) 401)
end
def headC:List Ex→Bool
 | []=>false
 | a::_=>decide (a.op=1)
mutual
def rwE:Ex→Nat
 | .mk o n s l=>if o=24 then 2*fszN fs s-1 else min ((if o=3 then(if headC l=true then 0 else fszN fs s*(rwL l 0+4))else rwL l 0)+1) 100000
def rwL:List Ex→Nat→Nat
 | [],s=>s
 | a::r,s=>if s<100000 then rwL r (s+rwE a)else s
end
theorem scL_map(l:List Ex):scL fs l=l.map (scE fs):=by
 induction l with
 | nil=>rw[scL];rfl
 | cons a r ih=>rw[scL,ih];rfl
mutual
def SOk:Ex→Prop
 | .mk o n s l=>(o=3∨o=24→1≤fszI fs s∧fszI fs s≤8∧nameB s=true)∧(o=3→∃a,l=[a])∧(o=1∨o=24→l=[])∧(o=1→s=⟨#[]⟩)∧(o=2→s≠⟨#[]⟩)∧SOkL l
def SOkL:List Ex→Prop
 | []=>True
 | a::r=>SOk a∧SOkL r
end
theorem SOkL_mem{l:List Ex}:SOkL fs l↔∀a,a∈l→SOk fs a:=by
 induction l with
 | nil=>simp[SOkL]
 | cons b r ih=>rw[SOkL,ih];simp
theorem fszN_I{s:ByteArray}(h:1≤fszI fs s):(fszN fs s:Int)=fszI fs s:=by
 unfold fszN;unfold fszI at h ⊢;omega
theorem cst_sc(e:Ex):SOk fs e→(∀i,cstE fs e=some i→scE fs e=constE i)∧(cstE fs e=none→(scE fs e).op≠1):=by
 induction e using Ex.ind with
 | h o n s l ih=>
 intro h;rw[SOk]at h;obtain⟨h1,h2,h3,h4,h5,h6⟩:=h;rw[cstE,scE];by_cases o1:o=1
 ·rw[if_pos o1,if_neg (by omega),if_neg (by omega),h3 (.inl o1),h4 o1,scL,o1];exact⟨fun i hi=>by cases hi;rfl,fun h=>by cases h⟩
 ·rw[if_neg o1];by_cases o3:o=3
  ·obtain⟨a,rfl⟩:=h2 o3;obtain⟨g1,g2,-⟩:=h1 (.inl o3);have hn:=fszN_I fs g1;rw[if_pos o3,if_neg (by omega),if_pos o3,scL,scL,cstL];rw[SOkL]at h6;obtain⟨q1,q2⟩:=ih a (by simp) h6.1;cases hc:cstE fs a with
   | some i=>
    rw[q1 i hc];show(∀j,(if fszI fs s≤i then some 0 else none)=some j→elmX fs s (constE i)=constE j)∧((if fszI fs s≤i then some 0 else none)=none→(elmX fs s (constE i)).op≠1)
    unfold elmX;rw[if_pos (show(constE i).op=1 from rfl)];show(∀j,(if fszI fs s≤i then some 0 else none)=some j→(if i<fszI fs s then elE s i.toNat else constE 0)=constE j)∧((if fszI fs s≤i then some 0 else none)=none→(if i<fszI fs s then elE s i.toNat else constE 0).op≠1)
    by_cases hi:fszI fs s≤i
    ·rw[if_pos hi,if_neg (by omega)];exact⟨fun j hj=>by cases hj;rfl,fun h=>by cases h⟩
    ·rw[if_neg hi,if_pos (by omega)];exact⟨fun j hj=>(by cases hj),fun _=>(by decide:(2:Int)≠1)⟩
   | none=>
    refine⟨fun j hj=>(by cases hj),fun _=>?_⟩;show(elmX fs s (scE fs a)).op≠1;unfold elmX;rw[if_neg (q2 hc)];obtain⟨m,hm⟩:∃m,fszN fs s=m+1:=⟨fszN fs s-1,by omega⟩
    generalize fszN fs s=N at hm;subst hm;exact(by decide:(22:Int)≠1)
  ·rw[if_neg o3];refine⟨fun j hj=>(by cases hj),fun _=>?_⟩;by_cases o24:o=24
   ·rw[if_pos o24];cases fszN fs s-1 with
    | zero=>exact(by decide:(2:Int)≠1)
    | succ k=>exact(by decide:(7:Int)≠1)
   ·rw[if_neg o24,if_neg o3];exact o1
theorem sumX_size(a:ByteArray):∀k,esize (sumX a k)=2*k+1:=by
 intro k
 induction k with
 | zero=>rfl
 | succ k ih=>
  have e1:∀k,esize (elE a k)=1:=fun _=>rfl;rw[sumX,esize,esizes,esizes,esizes,ih,e1];omega
theorem chX_size(a:ByteArray)(n:Nat)(i:Ex):∀m,esize (chX a n i m)=m*(esize i+4)+1:=by
 intro m
 induction m with
 | zero=>rw[Nat.zero_mul];rfl
 | succ m ih=>
  rw[chX,esize,esizes,esizes,esizes,esizes,ih,esize,esizes,esizes,esizes,Nat.add_mul];have e1:∀k,esize (elE a k)=1:=fun _=>rfl;have e2:∀n,esize (constE n)=1:=fun _=>rfl;rw[e1,e2];generalize m*(esize i+4)=Z;omega
theorem sc_size(e:Ex):SOk fs e→esize (scE fs e)=tE fs e:=by
 induction e using Ex.ind with
 | h o n s l ih=>
 intro h;have hS:=h;rw[SOk]at h;obtain⟨h1,h2,h3,h4,h5,h6⟩:=h;rw[scE,tE];by_cases o24:o=24
 ·obtain⟨g1,g2,-⟩:=h1 (.inr o24);have hn:=fszN_I fs g1;rw[if_pos o24,if_pos o24,sumX_size];omega
 ·rw[if_neg o24,if_neg o24];by_cases o3:o=3
  ·obtain⟨a,rfl⟩:=h2 o3;obtain⟨g1,g2,-⟩:=h1 (.inl o3);rw[if_pos o3,if_pos o3,scL,scL,cstL,tL,tL];rw[SOkL]at h6;obtain⟨q1,q2⟩:=cst_sc fs a h6.1;show esize (elmX fs s (scE fs a))=_;unfold elmX;cases hc:cstE fs a with
   | some i=>
    rw[q1 i hc,if_pos (show(constE i).op=1 from rfl),if_pos (show(some i).isSome=true from rfl)];split<;>rfl
   | none=>
    rw[if_neg (q2 hc),if_neg (by simp),chX_size,ih a (by simp) h6.1,Nat.add_zero]
  ·rw[if_neg o3,if_neg o3,esize]
   have:∀r:List Ex,(∀a,a∈r→a∈l)→esizes (scL fs r)=tL fs r:=by
    intro r
    induction r with
    | nil=>intro _;rfl
    | cons a r ihr=>
     intro hm;rw[scL,esizes,tL,ih a (hm a (by simp)) ((SOkL_mem fs).1 h6 a (hm a (by simp))),ihr fun x hx=>hm x (by simp[hx])]
   rw[this l fun _ h=>h]
theorem min_mul{n x:Nat}(hn:1≤n):min (n*(min x 401+4)+1) 401=min (n*(x+4)+1) 401:=by
 rcases Nat.le_total x 401 with h|h
 ·rw[Nat.min_eq_left h]
 ·rw[Nat.min_eq_right h];have h1:1*(401+4)≤n*(401+4):=Nat.mul_le_mul_right _ hn;have h2:n*(401+4)≤n*(x+4):=Nat.mul_le_mul_left _ (by omega);omega
theorem ps_t(e:Ex):SOk fs e→psE fs e=min (tE fs e) 401:=by
 induction e using Ex.ind with
 | h o n s l ih=>
 intro h;rw[SOk]at h;obtain⟨h1,h2,h3,h4,h5,h6⟩:=h
 have H:∀r:List Ex,(∀a,a∈r→a∈l)→∀x,x≤401→psL fs r x=min (x+tL fs r) 401:=by
  intro r
  induction r with
  | nil=>intro _ x hx;rw[psL,tL];omega
  | cons a r ihr=>
   intro hm x hx;rw[psL,tL,ih a (hm a (by simp)) ((SOkL_mem fs).1 h6 a (hm a (by simp))),ihr (fun y hy=>hm y (by simp[hy])) _ (by omega)];omega
 rw[psE,tE,H l (fun _ h=>h) 0 (by omega),Nat.zero_add];by_cases o24:o=24
 ·obtain⟨g1,g2,-⟩:=h1 (.inr o24);have hn:=fszN_I fs g1;rw[if_pos o24,if_pos o24];omega
 ·rw[if_neg o24,if_neg o24];by_cases o3:o=3
  ·obtain⟨g1,g2,-⟩:=h1 (.inl o3);have hn:=fszN_I fs g1;rw[if_pos o3,if_pos o3];split
   ·rfl
   ·exact min_mul (by omega)
  ·rw[if_neg o3,if_neg o3];omega
theorem rw_up{A B E F:Nat}(m1:A≤B)(m2:B≤E)(m3:E=41*F):min (A+1) 100000≤41*(F+1):=by omega
theorem rw_lo{A F W:Nat}(m4:W<100000→F≤A)(m5:W+4≤A):min (F+1) 100000≤min (A+1) 100000:=by
 rcases Nat.lt_or_ge W 100000 with hW|hW
 ·have:=m4 hW;omega
 ·omega
theorem cst_big{e:Ex}(h:SOk fs e){i:Int}(hc:cstE fs e=some i)(hi:1≤i):e.op=1:=by
 cases e with
 | mk o n s l=>
 rw[cstE]at hc;by_cases o1:o=1
 ·exact o1
 ·rw[if_neg o1]at hc;split at hc
  ·split at hc
   ·split at hc
    ·cases hc;omega
    ·cases hc
   ·cases hc
  ·cases hc
theorem rw_t(e:Ex):SOk fs e→rwE fs e≤41*tE fs e∧min (tE fs e) 100000≤rwE fs e:=by
 induction e using Ex.ind with
 | h o n s l ih=>
 intro h;rw[SOk]at h;obtain⟨h1,h2,h3,h4,h5,h6⟩:=h
 have H:∀r:List Ex,(∀a,a∈r→a∈l)→∀x,rwL fs r x≤x+41*tL fs r∧min (x+tL fs r) 100000≤rwL fs r x:=by
  intro r
  induction r with
  | nil=>intro _ x;rw[rwL,tL];omega
  | cons a r ihr=>
   intro hm x;have q:=ih a (hm a (by simp)) ((SOkL_mem fs).1 h6 a (hm a (by simp)));have q':=ihr (fun y hy=>hm y (by simp[hy])) (x+rwE fs a);rw[rwL,tL];split<;>omega
 have H0:=H l (fun _ h=>h) 0;rw[rwE,tE];by_cases o24:o=24
 ·obtain⟨g1,g2,-⟩:=h1 (.inr o24);have hn:=fszN_I fs g1;rw[if_pos o24,if_pos o24];omega
 ·rw[if_neg o24,if_neg o24];by_cases o3:o=3
  ·obtain⟨g1,g2,-⟩:=h1 (.inl o3);have hn:=fszN_I fs g1;obtain⟨a,rfl⟩:=h2 o3;rw[SOkL]at h6;rw[if_pos o3,if_pos o3];by_cases hh:headC [a]=true
   ·have ha:a.op=1:=by simpa[headC]using hh
    have hc:(cstL fs [a]).isSome=true:=by
     rw[cstL];cases a with|mk o' n' s' l'=>rw[cstE,if_pos (show o'=1 from ha)];rfl
    rw[if_pos hh,if_pos hc];omega
   ·rw[if_neg hh];have ha:¬a.op=1:=by simpa[headC]using hh
    by_cases hc:(cstL fs [a]).isSome=true
    ·rw[if_pos hc]
     have e1:rwL fs [a] 0=1:=by
      rw[rwL,if_pos (by omega),rwL,Nat.zero_add];rw[cstL]at hc;cases a with
      | mk o' n' s' l'=>
      have ho:¬o'=1:=ha;rw[cstE,if_neg ho]at hc;have h7:=h6.1;rw[SOk]at h7;obtain⟨k1,k2,k3,k4,k5,k6⟩:=h7;by_cases o3':o'=3
      ·obtain⟨b,rfl⟩:=k2 o3';obtain⟨f1,f2,-⟩:=k1 (.inl o3');rw[if_pos o3',cstL]at hc;rw[rwE,if_neg (by omega),if_pos o3'];cases hb:cstE fs b with
       | none=>rw[hb]at hc;cases hc
       | some i=>
        rw[hb]at hc;rw[SOkL]at k6
        have:fszI fs s'≤i:=by
         apply Classical.byContradiction;intro hn;simp[hn]at hc
        have hb1:=cst_big fs k6.1 hb (by omega);rw[if_pos (show headC [b]=true by simp[headC,hb1])];rfl
      ·rw[if_neg o3']at hc;cases hc
     rw[e1];have:fszN fs s*(1+4)≤8*(1+4):=Nat.mul_le_mul_right _ (by omega);omega
    ·rw[if_neg hc];generalize rwL fs [a] 0=W at H0 ⊢;generalize tL fs [a]=T at H0 ⊢;generalize fszN fs s=N at *;have m1:N*(W+4)≤N*(41*T+4):=Nat.mul_le_mul_left _ (by omega);have m2:N*(41*T+4)≤N*(41*(T+4)):=Nat.mul_le_mul_left _ (by omega);have m3:N*(41*(T+4))=41*(N*(T+4)):=by rw[←Nat.mul_assoc,←Nat.mul_assoc,Nat.mul_comm N 41]
     have m4:W<100000→N*(T+4)≤N*(W+4):=fun hW=>Nat.mul_le_mul_left _ (by omega);have m5:W+4≤N*(W+4):=by have:=Nat.mul_le_mul_right (W+4) (show 1≤N by omega);omega
     clear ih;generalize N*(W+4)=A at m1 m4 m5 ⊢;generalize N*(41*T+4)=B at m1 m2;generalize N*(41*(T+4))=E at m2 m3;generalize N*(T+4)=F at m3 m4 ⊢;exact⟨rw_up m1 m2 m3,rw_lo m4 m5⟩
  ·rw[if_neg o3,if_neg o3];omega
theorem allN_op{ops:List Int}{P:ByteArray→Prop}(o n:Int)(s:ByteArray)(l:List Ex):allN ops P (.mk o n s l)↔(o∈ops→P s)∧∀a,a∈l→allN ops P a:=by
 have:∀r:List Ex,allNs ops P r↔∀a,a∈r→allN ops P a:=by
  intro r
  induction r with
  | nil=>simp[allNs]
  | cons a r ih=>rw[allNs,ih];simp
 rw[allN,this]
theorem allN_const{ops:List Int}{P:ByteArray→Prop}(h:(1:Int)∉ops)(n:Int):allN ops P (constE n):=by
 unfold constE;rw[allN_op];exact⟨fun hh=>absurd hh h,fun a ha=>(by cases ha)⟩
theorem allN_el{ops:List Int}{P:ByteArray→Prop}{a:ByteArray}{k:Nat}(h:2∈ops→P (elemName a k)):allN ops P (elE a k):=by
 unfold elE;rw[allN_op];exact⟨h,fun a ha=>(by cases ha)⟩
theorem allN_sumX{ops:List Int}{P:ByteArray→Prop}(h7:(7:Int)∉ops){a:ByteArray}:∀k,(2∈ops→∀j,j≤k→P (elemName a j))→allN ops P (sumX a k):=by
 intro k
 induction k with
 | zero=>intro h;exact allN_el fun h2=>h h2 0 (by omega)
 | succ k ih=>
  intro h;rw[sumX,allN_op];refine⟨fun hh=>absurd hh h7,fun x hx=>?_⟩;simp only[List.mem_cons,List.not_mem_nil,or_false]at hx;rcases hx with rfl|rfl
  ·exact ih fun h2 j hj=>h h2 j (by omega)
  ·exact allN_el fun h2=>h h2 _ (by omega)
theorem allN_chX{ops:List Int}{P:ByteArray→Prop}(h1:(1:Int)∉ops)(h15:(15:Int)∉ops)(h22:(22:Int)∉ops){a:ByteArray}{n:Nat}{i:Ex}(hi:allN ops P i)(h:2∈ops→∀j,j<n→P (elemName a j)):∀m,m≤n→allN ops P (chX a n i m):=by
 intro m
 induction m with
 | zero=>intro _;exact allN_const h1 _
 | succ m ih=>
  intro hm;rw[chX,allN_op];refine⟨fun hh=>absurd hh h22,fun x hx=>?_⟩;simp only[List.mem_cons,List.not_mem_nil,or_false]at hx;rcases hx with rfl|rfl|rfl
  ·rw[allN_op];refine⟨fun hh=>absurd hh h15,fun x hx=>?_⟩;simp only[List.mem_cons,List.not_mem_nil,or_false]at hx;rcases hx with rfl|rfl
   ·exact hi
   ·exact allN_const h1 _
  ·exact allN_el fun h2=>h h2 _ (by omega)
  ·exact ih (by omega)
theorem sc_names(P:ByteArray→Prop)(he:∀a (k:Nat),(k:Int)<fszI fs a→P (elemName a k))(e:Ex):SOk fs e→allN [2] P e→(∀n,n∈nodesE e→n.op=1→0≤n.num)→allN [2] P (scE fs e)∧allN [3,24] (fun _=>False) (scE fs e):=by
 induction e using Ex.ind with
 | h o n s l ih=>
 intro h hP h0;rw[SOk]at h;obtain⟨h1,h2,h3,h4,h5,h6⟩:=h;rw[allN_op]at hP;have hsub:∀a,a∈l→∀n,n∈nodesE a→n.op=1→0≤n.num:=fun a ha n hn=>h0 n (by rw[nodesE];exact List.mem_cons_of_mem _ (nodesL_mem.2 ⟨a,ha,hn⟩));rw[scE];by_cases o24:o=24
 ·obtain⟨g1,g2,-⟩:=h1 (.inr o24);have hn:=fszN_I fs g1;rw[if_pos o24];exact⟨allN_sumX (by decide) _ fun _ j hj=>he s j (by omega),allN_sumX (by decide) _ fun h=>absurd h (by decide)⟩
 ·rw[if_neg o24];by_cases o3:o=3
  ·obtain⟨g1,g2,-⟩:=h1 (.inl o3);have hn:=fszN_I fs g1;obtain⟨a,rfl⟩:=h2 o3;rw[SOkL]at h6;obtain⟨q1,q2⟩:=ih a (by simp) h6.1 (hP.2 a (by simp)) (hsub a (by simp));rw[if_pos o3,scL];show allN [2] P (elmX fs s (scE fs a))∧allN [3,24] (fun _=>False) (elmX fs s (scE fs a));unfold elmX;split
   ·rename_i hc;split
    ·rename_i hl;refine⟨allN_el fun _=>he _ _ ?_,allN_el fun h=>absurd h (by decide)⟩;obtain⟨c1,c2⟩:=cst_sc fs a h6.1;cases hcc:cstE fs a with
     | none=>exact absurd hc (c2 hcc)
     | some i=>
      rw[c1 i hcc]at hl ⊢
      have:0≤i:=by
       cases a with
       | mk o' n' s' l'=>
       rw[cstE]at hcc;split at hcc
       ·rename_i o1;cases hcc;exact h0 (.mk o' i s' l') (by rw[nodesE,nodesL,nodesE];simp) o1
       ·split at hcc
        ·split at hcc
         ·split at hcc
          ·cases hcc;omega
          ·cases hcc
         ·cases hcc
        ·cases hcc
      have hl:i<fszI fs s:=hl;show((i.toNat:Nat):Int)<_;omega
    ·exact⟨allN_const (by decide) _,allN_const (by decide) _⟩
   ·exact⟨allN_chX (by decide) (by decide) (by decide) q1 (fun _ j hj=>he s j (by omega)) _ (Nat.le_refl _),allN_chX (by decide) (by decide) (by decide) q2 (fun h=>absurd h (by decide)) _ (Nat.le_refl _)⟩
  ·rw[if_neg o3,allN_op,allN_op,scL_map];refine⟨⟨hP.1,fun x hx=>?_⟩,⟨fun h=>?_,fun x hx=>?_⟩⟩
   ·obtain⟨a,ha,rfl⟩:=List.mem_map.1 hx;exact(ih a ha ((SOkL_mem fs).1 h6 a ha) (hP.2 a ha) (hsub a ha)).1
   ·simp at h;omega
   ·obtain⟨a,ha,rfl⟩:=List.mem_map.1 hx;exact(ih a ha ((SOkL_mem fs).1 h6 a ha) (hP.2 a ha) (hsub a ha)).2
end
end Go.Proofs.YthoebpnbhgmoiaaGreatDoor
