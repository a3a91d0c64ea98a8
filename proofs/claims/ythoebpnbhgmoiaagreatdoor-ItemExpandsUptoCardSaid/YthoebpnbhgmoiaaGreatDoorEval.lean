import Derived.Test.YthoebpnbhgmoiaaGreatDoorEnv
import Derived.Test.YthoebpnbhgmoiaaGreatDoorNames2
import Derived.Test.YthoebpnbhgmoiaaGreatDoorData
set_option linter.unusedVariables false
set_option linter.unusedSimpArgs false
set_option linter.unusedSectionVars false
namespace Go.Proofs.YthoebpnbhgmoiaaGreatDoor
open Go.RowKit
def knownB(l:List Sig)(e:Ex):Bool:=(namesOf [2] e).all (fun s=>(findS l s).isSome)&&(namesOf [3,24] e).all (fun s=>(findS l (elemName s 0)).isSome)
def leafS(env:List Sig)(o n:Int)(s:ByteArray)(vs:List Int):Int:=
 if o=1 then n else if o=2 then(findS env s).getD 0 else if o=3 then(match vs with|x::_=>(atS env s x).getD 0 | []=>0)
 else if o=24 then sumTo env s 8 else operS o vs
mutual
def valE(env:List Sig):Ex→Int
 | .mk o n s l=>leafS env o n s (valL env l)
def valL(env:List Sig):List Ex→List Int
 | []=>[]
 | a::r=>valE env a::valL env r
end
theorem valL_len(env:List Sig)(l:List Ex):(valL env l).length=l.length:=by
 induction l with
 | nil=>rfl
 | cons a r ih=>simp[valL,ih]
theorem errL_mem{l:List Ex}(h:errL l=0):∀a,a∈l→errE a=0:=by
 induction l with
 | nil=>intro a ha;cases ha
 | cons b r ih=>
  simp only[errL]at h;split at h
  ·rename_i hb;intro a ha;rcases List.mem_cons.1 ha with e|e
   ·rw[e];exact hb
   ·exact ih h a e
  ·rename_i hb;exact absurd h hb
theorem errE_node{o n:Int}{s:ByteArray}{l:List Ex}(h:errE (.mk o n s l)=0):nodeErr o n s l.length=0∧errL l=0:=by
 simp only[errE]at h;split at h
 ·exact⟨by assumption,h⟩
 ·rename_i hb;exact absurd h hb
theorem node_ok{o n:Int}{s:ByteArray}{k:Nat}(h:nodeErr o n s k=0):
 1≤o∧o≤25∧(o=1→0≤n∧n≤65535)∧operB o k=true∧(o=2→isVarB s=true)∧(o=3∨o=24→nameB s=true)∧(¬o=1→n=0)∧(namedB o=false→s.toList=[]):=by
 unfold nodeErr at h;split at h
 ·cases h
 ·split at h
  ·cases h
  ·split at h
   ·cases h
   ·split at h
    ·cases h
    ·rename_i h1 h2 h3 h4;refine⟨by omega,by omega,fun e=>by omega,?_,fun e=>?_,fun e=>?_,fun e=>by omega,fun e=>?_⟩
     ·cases hb:operB o k with
      | true=>rfl
      | false=>exact absurd (.inr hb) h3
     ·cases hb:isVarB s with
      | true=>rfl
      | false=>exact absurd (.inl ⟨e,hb⟩) h4
     ·cases hb:nameB s with
      | true=>rfl
      | false=>exact absurd (.inr ⟨e,hb⟩) h4
     ·apply Classical.byContradiction;intro hn;exact h3 (.inl ⟨e,hn⟩)
theorem nameB_size{s:ByteArray}(h:nameB s=true):s.size≤16:=by simp[nameB]at h;exact h.1.2
def Wd(x:Int):Prop:=0≤x∧x<65536
theorem Wd.ite{c:Prop}[Decidable c]{x y:Int}(h1:Wd x)(h2:Wd y):Wd (if c then x else y):=by split<;>assumption
theorem Wd.mod(x:Int):Wd (x%65536):=⟨by omega,by omega⟩
theorem b2i_bd(b:Bool):Wd (b2i b):=by cases b<;>simp[b2i,Wd]
theorem singleS_bd(o a:Int):Wd (singleS o a):=by
 unfold singleS;have:=popc_le 16 (a%65536).toNat;repeat' (first|exact b2i_bd _|exact Wd.mod _|refine Wd.ite ?_ ?_|exact⟨by omega,by omega⟩)
theorem shlS_bd(a n:Int):Wd (shlS a n):=by unfold shlS;exact Wd.ite ⟨by omega,by omega⟩ (Wd.mod _)
theorem shrS_bd(a n:Int)(h:Wd a):Wd (shrS a n):=by unfold shrS;exact Wd.ite ⟨by omega,by omega⟩ (shr_bd a n h.1 h.2)
theorem doubleS_bd(o a b:Int)(h:Wd a)(h':Wd b):Wd (doubleS o a b):=by
 obtain⟨h0,h1⟩:=h;obtain⟨h2,h3⟩:=h';obtain⟨a,rfl⟩:=Int.eq_ofNat_of_zero_le h0;obtain⟨b,rfl⟩:=Int.eq_ofNat_of_zero_le h2;have e1:a &&& b<2^16:=Nat.and_lt_two_pow _ (by omega);have e2:a ||| b<2^16:=Nat.or_lt_two_pow (by omega) (by omega)
 have e3:a ^^^ b<2^16:=Nat.xor_lt_two_pow (by omega) (by omega);unfold doubleS;simp only[Int.toNat_natCast];repeat' (first|exact b2i_bd _|exact Wd.mod _|exact shlS_bd _ _|exact shrS_bd _ _ (Wd.mod _)|refine Wd.ite ?_ ?_|exact⟨by omega,by omega⟩)
theorem operS_bd(o:Int)(l:List Int)(h:∀x,x∈l→Wd x):Wd (operS o l):=by
 have z:Wd 0:=⟨by omega,by omega⟩
 unfold operS;refine Wd.ite ?_ (Wd.ite ?_ ?_)
 ·split
  ·exact Wd.ite (h _ (by simp)) (h _ (by simp))
  ·exact z
 ·split
  ·exact b2i_bd _
  ·exact z
 ·split
  ·exact singleS_bd _ _
  ·exact doubleS_bd _ _ _ (h _ (by simp)) (h _ (by simp))
  ·exact z
theorem find_bd(l:List Sig)(s:ByteArray):Wd ((findS l s).getD 0):=findS_bd l s
theorem at_bd(l:List Sig)(s:ByteArray)(i:Int):Wd ((atS l s i).getD 0):=by
 unfold atS;split
 ·exact find_bd _ _
 ·exact⟨by simp,by simp⟩
theorem sumTo_bd(l:List Sig)(s:ByteArray):∀k,Wd (sumTo l s k)
 | 0=>⟨by simp[sumTo],by simp[sumTo]⟩
 | k+1=>Wd.mod _
theorem leafS_bd(env:List Sig)(o n:Int)(s:ByteArray)(vs:List Int)(hn:o=1→0≤n∧n≤65535)(h:∀x,x∈vs→Wd x):Wd (leafS env o n s vs):=by
 unfold leafS;by_cases h1:o=1
 ·rw[if_pos h1];have:=hn h1;exact⟨by omega,by omega⟩
 rw[if_neg h1];refine Wd.ite (find_bd _ _) (Wd.ite ?_ (Wd.ite (sumTo_bd _ _ _) (operS_bd _ _ h)));split
 ·exact at_bd _ _ _
 ·exact⟨by omega,by omega⟩
theorem valE_bd(env:List Sig)(e:Ex):errE e=0→Wd (valE env e):=by
 induction e using Ex.ind with
 | h o n s l ih=>
  intro he;obtain⟨h1,h2⟩:=errE_node he;have hok:=node_ok h1
  have H:∀(r:List Ex),(∀a,a∈r→a∈l)→∀x,x∈valL env r→Wd x:=by
   intro r
   induction r with
   | nil=>intro _ x hx;cases hx
   | cons a r ihr=>
    intro hm x hx;simp only[valL,List.mem_cons]at hx;rcases hx with e|hx
    ·rw[e];exact ih a (hm a (by simp)) (errL_mem h2 a (hm a (by simp)))
    ·exact ihr (fun y hy=>hm y (by simp[hy])) x hx
  simp only[valE];exact leafS_bd env o n s _ hok.2.2.1 (H l (fun _ h=>h))
theorem valL_bd(env:List Sig)(l:List Ex)(h:errL l=0):∀x,x∈valL env l→Wd x:=by
 induction l with
 | nil=>intro x hx;cases hx
 | cons a r ih=>
  intro x hx;have hm:=errL_mem h;simp only[valL,List.mem_cons]at hx;rcases hx with e|hx
  ·rw[e];exact valE_bd env a (hm a (by simp))
  ·refine ih ?_ x hx;simp only[errL]at h;rw[if_pos (hm a (by simp))]at h;exact h
def evalE(e:Ex)(env:List Sig):Int×Int:=if validE e=0 then(if knownB env e=true then(valE env e,0)else(0,7))else(0,1)
theorem validE_err{e:Ex}(h:validE e=0):errE e=0:=by
 unfold validE at h;split at h
 ·cases h
 ·exact h
end Go.Proofs.YthoebpnbhgmoiaaGreatDoor
