import Derived.Test.YthoebpnbhgmoiaaGreatDoorProg
import Derived.Test.YthoebpnbhgmoiaaGreatDoorA20
import Derived.KernelRfl
import Derived.Test.YthoebpnbhgmoiaaGreatDoorK3
import Derived.Test.YthoebpnbhgmoiaaGreatDoorEval
import Derived.Test.YthoebpnbhgmoiaaGreatDoorRaw
import Derived.Test.YthoebpnbhgmoiaaGreatDoorSha
import Derived.Test.YthoebpnbhgmoiaaGreatDoorIw1
import Derived.Test.YthoebpnbhgmoiaaGreatDoorIt1
import Derived.Test.YthoebpnbhgmoiaaGreatDoorItv
import Derived.Test.YthoebpnbhgmoiaaGreatDoorBrief
open Array renaming length_toList→JH
open Int renaming ofNat_lt→JI
open List renaming length_append→JJ,take_left→JK,mem_cons_self→JL,getElem?_eq_getElem→JM,length_map→JO,mem_cons_of_mem→JP,take_succ_cons→JQ,length_cons→JR,drop_eq_getElem_cons→JS,getElem_cons_zero→JT,drop_of_length_le→JU,append_assoc→JV,getElem_mem→JW,nil_append→JX,mem_append→JY,take_zero→JZ,map→J0
open Nat renaming reduceEqDiff→J1,reduceBEq→J2,reduceLT→J3,reduceLeDiff→J4,reduceAdd→J5
namespace Go.Proofs.YthoebpnbhgmoiaaGreatDoor
open Go.RowKit
set_option maxRecDepth 100000
set_option linter.unusedVariables false
set_option linter.unusedSimpArgs false
end Go.Proofs.YthoebpnbhgmoiaaGreatDoor
namespace Go.Proofs.YthoebpnbhgmoiaaGreatDoor
open Go.RowKit
mutual
def jj:Ex→Ex→Bool
 | .mk o n s l,.mk o' n' s' l'=>(decide (o=o')&&(decide (n=n')&&(decide (s=s')&&gh l l')))
def gh:List Ex→List Ex→Bool
 | [],[]=>true
 | a::r,b::r'=>jj a b&&gh r r'
 | _,_=>false
end
theorem om:∀{l l':List Ex},l.length≠l'.length→gh l l'=false
 | [],[],h=>absurd rfl h
 | a::r,b::r',h=>by simp only[gh,om (l:=r) (l':=r') (by simpa using h),Bool.and_false]
 | [],_::_,_=>rfl
 | _::_,[],_=>rfl
theorem qN(a b:Ex):jj a b=(decide (a.op=b.op)&&(decide (a.num=b.num)&&(decide (a.name=b.name)&&gh a.args b.args))):=by
 cases a;cases b;rfl
theorem Ex.ind2{P:Ex→Prop}(h:∀e:Ex,(∀a,a∈e.args→P a)→P e):∀e,P e:=Ex.ind fun o n s l ih=>h (.mk o n s l) ih
theorem na{l l':List Ex}{j:Nat}(h:j<l.length)(h':j<l'.length):gh (l.drop j) (l'.drop j)=(jj l[j] l'[j]&&gh (l.drop (j+1)) (l'.drop (j+1))):=by
 rw[JS h,JS h'];rfl
theorem oI(a:Ex):∀(b:Ex) (σ:List (List V)),Fun G 20 [vex a,vex b] σ (aO (az (jj a b)) σ):=by
 induction a using Ex.ind2 with
 | h a ih=>
 intro b σ;refine ao Tryz.func20 k20 (by simp only[am];rfl) fun hb hw=>?_;have hq:=qN a b;have h0:=hw 0 (by simp);simp only[JT,am]at h0;have hm:=zO (B8 h0 3 (by simp));simp only[JO]at hm
 have out:∀(σ' l:List (List V)) (b1:Bool),jj a b=b1→σ'=σ++l→fin σ.length GB (aO (az (jj a b)) σ) .ret [(4,.d (.lit (.bool b1)))] σ':=fun σ' l b1 h e=>by
  subst e;exact ac hb rfl rfl JK ⟨by rw[h];rfl,rfl⟩
 delta c20 oM oV kI kS kT kF;simp -dsimp -implicitDefEqProofs only[aw,aj,V.copy,V.cells,V.boxable,J4,eq_self,reduceIte,reduceCtorEq,J2,J3,J1,J5,am];refine cd (fun h1=>?_) (fun h1=>?_)
 ·simp -dsimp -implicitDefEqProofs only[aw,V.copy,J4,cond_false,eq_self,reduceIte,J3,J1,J5];refine cd (fun h2=>?_) (fun h2=>?_)
  ·simp -dsimp -implicitDefEqProofs only[aw,V.copy,J4,cond_false,eq_self,reduceIte,J3,J1,J5];refine cd (fun h3=>?_) (fun h3=>?_)
   ·simp -dsimp -implicitDefEqProofs only[aw,V.copy,J4,cond_false,eq_self,reduceIte,J2,J3,J1,J5,Int.ofNat_inj];refine cd (fun h4=>?_) (fun h4=>?_)
    ·simp -dsimp -implicitDefEqProofs only[aw,V.copy,eq_self,reduceIte,J2,J3,J1];exact out _ _ _ (by rw[hq,om (by simpa using h4)];simp) rfl
    ·simp -dsimp -implicitDefEqProofs only[aw,V.copy,eq_self,reduceIte,J2,J3,J1];have h4:a.args.length=b.args.length:=by simpa using h4
     generalize hbx:[[V.d (ah a.op),V.d (ah a.num),V.d (al a.name),V.d (D.sl (J0 dex a.args))],[V.d (ah b.op),V.d (ah b.num),V.d (al b.name),V.d (D.sl (J0 dex b.args))]]=bx at out ⊢;refine bC (R:=fun(j:Nat) ρ σ'=>ρ=[(2,.ptr σ.length 0),(3,.ptr (σ.length+1) 0),(5,aL .i64 j)]∧σ'=σ++bx∧gh a.args b.args=gh (a.args.drop j) (b.args.drop j)) a.args.length ⟨rfl,rfl,by simp⟩ ?_ _;rintro j ρ' σ' hj ⟨rfl,rfl,hrec⟩;subst hbx;by_cases hlt:j<a.args.length
     ·have hlt':j<b.args.length:=by omega
      simp -dsimp -implicitDefEqProofs only[aw,V.copy,V.lend,V.lend1,J4,eq_self,reduceIte,J2,J3,J1,J5,JI,hlt,decide_true,JM hlt,JM hlt',aT];refine aZ (by simpa only[am]using ih _ (JW hlt) _ _) ?_;simp -dsimp -implicitDefEqProofs only[aw,V.copy,eq_self,reduceIte,J2,J3,J1];refine cd (fun hs=>?_) (fun hs=>?_)
      ·simp -dsimp -implicitDefEqProofs only[aw,V.copy,eq_self,reduceIte,J2,J3,J1];exact out _ _ _ (by rw[hq,hrec,na hlt hlt'];simp_all) rfl
      ·simp -dsimp -implicitDefEqProofs only[aw,V.copy,eq_self,reduceIte,J2,J3,J1,aH hlt hm];refine⟨hlt,Nxt.same (by simp) (an hb rfl) ?_ ?_⟩
       ·simp[aq,V.under]
       ·exact⟨rfl,rfl,by rw[hrec,na hlt hlt'];simp_all⟩
     ·simp -dsimp -implicitDefEqProofs only[aw,V.copy,J4,eq_self,reduceIte,J2,J3,J1,J5,JI,hlt,decide_false];exact out _ _ _ (by rw[hq,hrec,JU (by omega),JU (by omega)];simp_all[gh]) rfl
   ·simp -dsimp -implicitDefEqProofs only[aw,V.copy,eq_self,reduceIte,J2,J3,J1];exact out _ _ _ (by rw[hq];simp_all) rfl
  ·simp -dsimp -implicitDefEqProofs only[aw,V.copy,eq_self,reduceIte,J2,J3,J1];exact out _ _ _ (by rw[hq];simp_all) rfl
 ·simp -dsimp -implicitDefEqProofs only[aw,V.copy,eq_self,reduceIte,J2,J3,J1];exact out _ _ _ (by rw[hq];simp_all) rfl
section
variable {C : Cx} {n0 : Nat}
end
end Go.Proofs.YthoebpnbhgmoiaaGreatDoor
namespace Go.Proofs.YthoebpnbhgmoiaaGreatDoor
open Go.RowKit
theorem mR:∀(l:List Ex),(∀a,a∈l→jj a a=true)→gh l l=true
 | [],_=>rfl
 | a::r,h=>by simp only[gh,h a (by simp),mR r (fun b hb=>h b (by simp[hb])),Bool.and_self]
theorem sW(a:Ex):jj a a=true:=by
 induction a using Ex.ind2 with
 | h a ih=>rw[qN,mR _ ih];simp
theorem uf:∀e:Ex,(bj e).length=aA e:=by
 intro e
 induction e using Ex.ind with
 | h o n s l ih=>
 rw[bj,aA,JR]
 have:∀r:List Ex,(∀a,a∈r→a∈l)→(bT r).length=aG r:=by
  intro r
  induction r with
  | nil=>intro _;rfl
  | cons a r ihr=>
   intro h;rw[bT,aG,JJ,ih a (h a (JL ..)),ihr fun x hx=>h x (JP _ hx)]
 rw[this l fun _ h=>h]
theorem Ak(l:List Ex){j:Nat}(h:j<l.length):bT (l.take (j+1))=bT (l.take j)++bj l[j]:=by
 induction l generalizing j with
 | nil=>simp at h
 | cons a r ih=>
  cases j with
  | zero=>simp only[JQ,JZ,bT,JT,List.append_nil,JX]
  | succ j=>simp only[JQ,bT,List.getElem_cons_succ,JV];rw[ih (by simpa using h)]
theorem rh(l:List Ex)(j:Nat):(bT (l.take j)).length≤aG l:=by
 induction l generalizing j with
 | nil=>simp[bT,aG]
 | cons a r ih=>
  cases j with
  | zero=>simp[bT,aG]
  | succ j=>rw[JQ,bT,JJ,aG,uf];have:=ih j;omega
set_option maxHeartbeats 2000000 in
theorem sr(e:Ex):∀(out:List Ex),out.length+aA e≤2000000→∀σ,lQ G 124 [] 38 4 (out.map dex) [vex e] σ (aO (.own 38 4 ((out++bj e).map dex)) σ):=by
 induction e using Ex.ind3 with
 | h e ih=>
 intro out hs σ;have he:aA e=aG e.args+1:=by cases e;rfl
 have hln:=hZ e.args;have hne:bj e=e::bT e.args:=by cases e;rw[bj];rfl
 refine xh Tryz.func124 Ij (by simp only[am];rfl) fun hb hw=>?_;delta Gf oM oV kI kS kT kF;simp -dsimp -implicitDefEqProofs only[aw,aj,V.copy,V.cells,V.boxable,aC,aF,V.plain,J4,eq_self,reduceIte,reduceCtorEq,J2,J3,J1,J5,am];refine bt (by first|omega|(simp only[JO];omega)) ?_;simp -dsimp -implicitDefEqProofs only[aw,V.copy,eq_self,reduceIte,reduceCtorEq,J2,J3,J1];refine bC (R:=fun(j:Nat) ρ σ'=>ρ=[(0,.own 38 4 ((out++e::bT (e.args.take j)).map dex)),(3,.ptr σ.length 0),(5,aL .i64 j)]∧σ'=σ++[[.d (ah e.op),.d (ah e.num),.d (al e.name),.d (.sl (e.args.map dex))]]) e.args.length ⟨by simp only[JZ,bT,List.map_append,List.map_cons,List.map_nil,aT e];rfl,rfl⟩ ?_ _;rintro j ρ' σ' hj ⟨rfl,rfl⟩
 by_cases hlt:j<e.args.length
 ·have ht:=Ak e.args hlt;have hle:=rh e.args (j+1);rw[ht,JJ,uf]at hle;have hxx:e.args[j]? = some e.args[j]:=JM hlt;have hc:=fun σ=>ih e.args[j] (JW hlt) (out++e::bT (e.args.take j)) (by simp only[JJ,JR];omega) σ;simp only[am]at hc;have wj:=aH hlt (show e.args.length≤9223372036854775807 by omega);generalize e.args[j]=a at ht hxx hc;simp -dsimp -implicitDefEqProofs only[aw,V.copy,V.lend,V.lend1,J4,eq_self,reduceIte,reduceCtorEq,J2,J3,J1,J5,JI,hlt,decide_true,hxx,aT a];refine yy (hc _) ?_;simp -dsimp -implicitDefEqProofs only[aw,V.copy,eq_self,reduceIte,reduceCtorEq,J2,J3,J1,wj]
  refine⟨hlt,Nxt.same (by simp) (an hb rfl) (by simp[aq,V.under]) ⟨?_,rfl⟩⟩;rw[ht];try simp only[JV,List.cons_append]
 ·simp -dsimp -implicitDefEqProofs only[aw,V.copy,J4,eq_self,reduceIte,reduceCtorEq,J2,J3,J1,J5,JI,hlt,decide_false];rw[List.take_of_length_le (by omega),←hne];exact ac hb rfl rfl JK ⟨rfl,rfl⟩
theorem nB(e:Ex)(hs:aA e≤1000000)(σ:List (List V)):Fun G 88 [vex e] σ (aO (.d (.sl ((bj e).map dex))) σ):=by
 refine ao Tryz.func88 k88 (by simp only[am];rfl) fun hb hw=>?_;delta c88 oM oV kI kS kT kF;have hg:=fun σ=>lX (sr e [] (by simp;omega) σ);simp only[am,JX]at hg;simp -dsimp -implicitDefEqProofs only[aw,aj,V.copy,V.cells,V.boxable,J4,eq_self,reduceIte,reduceCtorEq,J2,J3,J1,J5,am];refine ae (hg _) ?_;simp -dsimp -implicitDefEqProofs only[aw,V.copy,eq_self,reduceIte,J2,J3,J1];exact ac hb rfl rfl JK ⟨rfl,rfl⟩
theorem oX(x:It)(bd:List ByteArray)(hl:bd.length≤1000000)(σ:List (List V)):Fun G 72 [vit x,.d (aQ bd)] σ (aO (.d (aQ (bnd x bd))) σ):=by
 refine ao Tryz.func72 k72 (by simp only[aK];rfl) fun hb hw=>?_;delta c72 oM oV kI kS kT kF;have hrow:(bd.map fun s=>[al s]).all (fun r=>r.length==1)=true:=by rw[List.all_map];exact List.all_eq_true.2 fun a _=>rfl
 simp -dsimp -implicitDefEqProofs only[aw,aj,V.copy,V.cells,V.boxable,aC,eq_self,reduceIte,reduceCtorEq,J2,J3,J1,aK,aQ,hrow];refine bt (by first|omega|(simp only[JO];omega)) ?_;by_cases k5:x.kind=5
 ·have hr:bnd x bd=bd++[x.idx]:=if_pos k5;rw[hr];simp -dsimp -implicitDefEqProofs only[aw,V.copy,V.cells,aC,aF,V.plain,J4,eq_self,reduceIte,J2,J3,J1,J5,k5,decide_true];refine bt (by first|omega|(simp only[JO];omega)) ?_;simp -dsimp -implicitDefEqProofs only[aw,V.copy,eq_self,reduceIte,J2,J3,J1];exact ac (v:=.d (aQ (bd++[x.idx]))) hb (by simp[Em,cG,cS,aQ,aw,V.lend,eq_self,reduceIte]) rfl JK ⟨rfl,rfl⟩
 ·have hr:bnd x bd=bd:=if_neg k5;rw[hr];simp -dsimp -implicitDefEqProofs only[aw,V.copy,J4,eq_self,reduceIte,J2,J3,J1,J5,decide_eq_false k5];exact ac (v:=.d (aQ bd)) hb (by simp[Em,cG,cS,aQ,aw,V.lend,eq_self,reduceIte]) rfl JK ⟨rfl,rfl⟩
theorem dV{l:List Ex}{n:Ex}:n∈bT l↔∃a,a∈l∧n∈bj a:=by
 induction l with
 | nil=>simp[bT]
 | cons b r ih=>rw[bT,JY,ih];simp
section
variable (spl : ByteArray → Option (ByteArray × Int)) (fs : List (ByteArray × Int))
theorem r8(l:List Int):dL l=0↔∀a,a∈l→a=0:=by
 unfold dL;cases h:l.find? (· ≠ 0)with
 | none=>
  rw[List.find?_eq_none]at h;exact⟨fun _ a ha=>by have:=h a ha;simpa using this,fun _=>rfl⟩
 | some x=>
  have h1:=List.find?_some h;have h2:=List.mem_of_find?_eq_some h;have h1:x≠0:=by simpa using h1
  exact⟨fun hx=>absurd hx h1,fun hx=>absurd (hx x h2) h1⟩
theorem jp(bd:List ByteArray)(e:Ex):dB spl fs bd e=0↔∀n,n∈bj e→cj spl fs bd n=0:=by
 unfold dB;rw[r8];simp
end
end Go.Proofs.YthoebpnbhgmoiaaGreatDoor
namespace Go.Proofs.YthoebpnbhgmoiaaGreatDoor
open Go.RowKit
mutual
def eM(ops:List Int)(P:ByteArray→Prop):Ex→Prop
 | .mk o _ s l=>(o∈ops→P s)∧fU ops P l
def fU(ops:List Int)(P:ByteArray→Prop):List Ex→Prop
 | []=>True
 | a::r=>eM ops P a∧fU ops P r
end
theorem rD(ops:List Int)(P:ByteArray→Prop)(l:List ByteArray)(o:Int)(s:ByteArray):(∀t,t∈dt ops l o s→P t)↔(∀t,t∈l→P t)∧(o∈ops→P s):=by
 unfold dt;by_cases h1:o∈ops
 ·by_cases h2:s∈l
  ·have:inB s l=true:=by cases h:inB s l with|true=>rfl|false=>exact absurd h2 (i4.1 h)
   simp only[this,h1,true_and,Bool.true_eq_false,if_false,true_implies];exact⟨fun h=>⟨h,h s h2⟩,fun h=>h.1⟩
  ·have:inB s l=false:=i4.2 h2;simp only[this,h1,true_and,if_true,true_implies,JY,List.mem_singleton];exact⟨fun h=>⟨fun t ht=>h t (.inl ht),h s (.inr rfl)⟩,fun h t ht=>ht.elim (h.1 t) (fun e=>e▸h.2)⟩
 ·simp only[h1,false_and,if_false,false_implies,and_true]
theorem zw(ops:List Int)(P:ByteArray→Prop)(e:Ex):∀x,(∀s,s∈(da (cX ops) e x).1→P s)↔(∀s,s∈x→P s)∧eM ops P e:=by
 induction e using Ex.ind with
 | h o m s l ih=>
 intro x
 have hL:∀(r:List Ex),(∀a,a∈r→a∈l)→∀y,(∀s,s∈(dj (cX ops) r y).1→P s)↔(∀s,s∈y→P s)∧fU ops P r:=by
  intro r
  induction r with
  | nil=>intro _ y;simp[dj,fU]
  | cons a r ihr=>
   intro hm y;simp only[dj,fU,ji,if_true];rw[ihr (fun x hx=>hm x (by simp[hx])),ih a (hm a (by simp)),and_assoc]
 simp only[da,eM,cX,if_true];rw[hL l (fun _ h=>h),rD,and_assoc];rfl
theorem kV(ops:List Int)(P:ByteArray→Prop)(e:Ex):(∀s,s∈eC ops e→P s)↔eM ops P e:=by
 have:=zw ops P e [];simpa[eC]using this
theorem xX{nm:ByteArray}(h:bH nm=true)(a:ByteArray)(i:Nat):nm≠aB a i:=by
 intro he;subst he;have hw:=fT h;have hsz:(aB a i).size=a.size+3:=by simp only[aB,ByteArray.size,List.size_toArray,JJ,JH,JR,List.length_nil]
 have h1:=nu hw (k:=a.size) (by omega)
 have h2:(aB a i)[a.size]'(by omega)=91:=by
  have h3:=dD (aB a i) a.size (by omega)
  have h4:(aB a i).data.toList[a.size]? = some 91:=by
   simp only[aB];rw[List.getElem?_append_right (by rw[JH];exact Nat.le_refl _),JH,show a.size-a.data.size=0 from Nat.sub_self _];rfl
  rw[h4]at h3;exact(Option.some.inj h3).symm
 rw[h2]at h1
 revert h1
 decide
section
variable {nm : ByteArray} {x : Int} {env : List Sig}
theorem iW(env:List Sig)(e:Ex):jw env e=true↔eM [2] (fun s=>(bK env s).isSome=true) e∧eM [3,24] (fun s=>(bK env (aB s 0)).isSome=true) e:=by
 simp only[jw,Bool.and_eq_true,List.all_eq_true];rw[kV [2] (fun s=>(bK env s).isSome=true),kV [3,24] (fun s=>(bK env (aB s 0)).isSome=true)]
end
end Go.Proofs.YthoebpnbhgmoiaaGreatDoor
namespace Go.Proofs.YthoebpnbhgmoiaaGreatDoor
open Go.RowKit
section
variable (spl : ByteArray → Option (ByteArray × Int)) (fs : List (ByteArray × Int))
structure EnvOk(bd:List ByteArray)(env:List Sig):Prop where
 var:∀s,ef spl fs s=0→(bK env s).isSome=true
 arr:∀s,dN fs s=0→(bK env (aB s 0)).isSome=true
 bnd:∀s,inB s bd=true→(bK env s).isSome=true
theorem jA(ops:List Int)(P:ByteArray→Prop)(e:Ex):(∀n,n∈bj e→n.op∈ops→P n.name)→eM ops P e:=by
 induction e using Ex.ind with
 | h o n s l ih=>
 intro h;rw[eM];refine⟨fun ho=>h (.mk o n s l) (by rw[bj];exact JL ..) ho,?_⟩
 have:∀r:List Ex,(∀a,a∈r→a∈l)→fU ops P r:=by
  intro r
  induction r with
  | nil=>intro _;rw[fU];trivial
  | cons a r ihr=>
   intro hm;rw[fU];exact⟨ih a (hm a (JL ..)) fun n hn=>h n (by rw[bj];exact JP _ (dV.2 ⟨a,hm a (JL ..),hn⟩)),ihr fun x hx=>hm x (JP _ hx)⟩
 exact this l fun _ h=>h
theorem zf{bd:List ByteArray}{env:List Sig}(h:EnvOk spl fs bd env){e:Ex}(he:dB spl fs bd e=0):jw env e=true:=by
 rw[jp]at he;rw[iW];refine⟨jA _ _ _ fun n hn ho=>?_,jA _ _ _ fun n hn ho=>?_⟩
 ·have h2:n.op=2:=by simpa using ho
  have:=he n hn;unfold cj at this;rw[if_pos h2]at this;by_cases hb:inB n.name bd=true
  ·exact h.bnd _ hb
  ·rw[if_neg hb]at this;exact h.var _ this
 ·have h2:n.op=3∨n.op=24:=by simpa using ho
  have:=he n hn;unfold cj at this;rw[if_neg (by omega),if_pos h2]at this;exact h.arr _ this
theorem jF{l:List It}{d:Nat}(h:rvl l d=0){x:It}(hx:x∈l):bp x d=0∧rvl x.items (d+1)=0∧rvl x.els (d+1)=0:=by
 induction l with
 | nil=>cases hx
 | cons a r ih=>
  rw[rvl,pX]at h;by_cases h1:bp a d=0
  ·rw[if_pos h1]at h;by_cases h2:rvl a.items (d+1)=0
   ·rw[if_pos h2]at h;by_cases h3:rvl a.els (d+1)=0
    ·rw[if_pos h3]at h;rcases List.mem_cons.1 hx with rfl|hx
     ·exact⟨h1,h2,h3⟩
     ·exact ih h hx
    ·rw[if_neg h3]at h;exact absurd h h3
   ·rw[if_neg h2,if_neg h2]at h;exact absurd h h2
  ·rw[if_neg h1,if_neg h1]at h;exact absurd h h1
theorem sY{x:It}{d:Nat}(h:bp x d=0)(hk:x.kind=1∨x.kind=2∨x.kind=4):aX x.ex=0:=by
 unfold bp at h;split at h
 ·cases h
 ·rw[if_neg (by omega),if_neg (by omega),if_neg (by omega)]at h;exact h
theorem gw(env:List Sig)(j:Int):cJ env (aU j)=j:=by
 unfold aU;rw[cJ];unfold gz;rw[if_pos rfl]
end
end Go.Proofs.YthoebpnbhgmoiaaGreatDoor
