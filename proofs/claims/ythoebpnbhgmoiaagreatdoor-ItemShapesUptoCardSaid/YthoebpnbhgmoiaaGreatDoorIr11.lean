import Derived.Test.YthoebpnbhgmoiaaGreatDoorIr3
import Derived.Test.YthoebpnbhgmoiaaGreatDoorIt6
import Derived.Test.YthoebpnbhgmoiaaGreatDoorClo
set_option linter.unusedVariables false
set_option linter.unusedSimpArgs false
set_option linter.unusedSectionVars false
open Int renaming ofNat_lt→JH,reduceEq→JI
open List renaming length_map→JJ,getElem?_eq_getElem→JK,length_append→JL,take_of_length_le→JM,all_map→JO,take_left→JP,take_succ_cons→JQ,append_assoc→JR,map_append→JS,take_add_one→JT,take_length→JU,length_take→JV,getElem_mem→JW,append_nil→JX,map_nil→JY
open Nat renaming reduceEqDiff→JZ,reduceLT→J0,reduceBEq→J1,reduceLeDiff→J2,reduceAdd→J3
namespace Go.Proofs.YthoebpnbhgmoiaaGreatDoor
open Go.RowKit
abbrev r6(l:List ByteArray):V:=.own 9 1 (l.map fun s=>[al s])
set_option maxHeartbeats 2000000 in
theorem y7(x:It)(bd:List ByteArray)(hbig:eO x≤1000000)(hbd:bd.length≤1000000)(σ:List (List V)):Fun G 101 [vit x,.d (aQ bd)] σ (aO (.d (aQ (cy x bd))) σ):=by
 have hb0:=bI x;refine ao Tryz.func101 IQ (by simp only[aK];rfl) fun hb hw=>?_;delta GX oM oV kI kS kT kF;by_cases k35:x.kind=3∨x.kind=5
 ·have ho:cy x bd=[x.name]:=by unfold cy;rw[if_neg (by omega),if_pos k35]
  rw[ho];rcases k35 with k|k
  all_goals
   simp -dsimp -implicitDefEqProofs only[aw,aj,V.copy,V.cells,V.boxable,aC,aF,V.plain,J2,eq_self,reduceIte,reduceCtorEq,J1,J0,JZ,J3,aK,k,JI,decide_true,decide_false];exact ac (v:=.d (aQ [x.name])) hb (by simp[rk,cG,cS,aQ,aw,V.lend,eq_self,reduceIte]) rfl JP ⟨rfl,rfl⟩
 have n3:¬x.kind=3:=fun h=>k35 (.inl h);have n5:¬x.kind=5:=fun h=>k35 (.inr h);by_cases k6:x.kind=6
 ·have ho:cy x bd=x.bef++x.aft:=by unfold cy;rw[if_neg (by omega),if_neg k35,if_pos k6]
  rw[ho];have hr1:(x.bef.map fun s=>[al s]).all (fun r=>r.length==1)=true:=by rw[JO];exact List.all_eq_true.2 fun a _=>rfl
  have hr2:(x.aft.map fun s=>[al s]).all (fun r=>r.length==1)=true:=by rw[JO];exact List.all_eq_true.2 fun a _=>rfl
  simp -dsimp -implicitDefEqProofs only[aw,aj,V.copy,V.cells,V.boxable,J2,eq_self,reduceIte,reduceCtorEq,J1,J0,JZ,J3,aK,k6,JI,decide_true,decide_false,hr1];refine bt (by first|omega|(simp only[JJ];omega)) ?_;simp -dsimp -implicitDefEqProofs only[aw,V.copy,J2,eq_self,reduceIte,J1,J0,JZ,J3,hr2];refine bt (by first|omega|(simp only[JJ,JL];omega)) ?_;simp -dsimp -implicitDefEqProofs only[aw,V.copy,eq_self,reduceIte,J1,J0,JZ];exact ac (v:=.d (aQ (x.bef++x.aft))) hb (by simp[rk,cG,cS,aQ,aw,V.lend,eq_self,reduceIte]) rfl JP ⟨rfl,rfl⟩
 simp -dsimp -implicitDefEqProofs only[aw,aj,V.copy,V.lend,V.cells,V.boxable,J2,eq_self,reduceIte,reduceCtorEq,J1,J0,JZ,J3,aK,decide_eq_false n3,decide_eq_false n5,decide_eq_false k6];refine ae (dz x.kind _) ?_;by_cases ka:x.kind=1∨x.kind=2∨x.kind=4
 case neg=>
  have ho:cy x bd=[]:=by unfold cy;rw[if_neg ka,if_neg k35,if_neg k6]
  rw[ho];simp -dsimp -implicitDefEqProofs only[aw,V.copy,eq_self,reduceIte,J1,J0,JZ,decide_eq_false ka];exact ac (v:=.d (aQ [])) hb (by simp[rk,cG,cS,aQ,aw,V.lend,eq_self,reduceIte]) rfl JP ⟨rfl,rfl⟩
 have ho:cy x bd=(bj x.ex).flatMap (aV bd):=by unfold cy;rw[if_pos ka]
 rw[ho];have hn:=fun σ=>nB x.ex (by omega) σ;simp only[am]at hn;have hnl:=gV x.ex;simp -dsimp -implicitDefEqProofs only[aw,V.copy,V.lend,V.lend1,J2,eq_self,reduceIte,J1,J0,JZ,J3,decide_eq_true ka];refine ae (hn _) ?_;simp -dsimp -implicitDefEqProofs only[aw,V.copy,eq_self,reduceIte,J1,J0,JZ];generalize bj x.ex=N at hnl ⊢
 refine bC (R:=fun(j:Nat) ρ σ'=>ρ=[(1,.d (aQ bd)),(5,r6 ((N.take j).flatMap (aV bd))),(6,.d (.sl (N.map dex))),(7,aL .i64 j)]∧
  σ'=σ++[[.d (ah x.kind),.d (ah x.ex.op),.d (ah x.ex.num),.d (al x.ex.name),.d (.sl (x.ex.args.map dex)),.d (al x.name),.d (al x.idx),.d (.sl (x.ws.map dwt)),.d (.sl (x.items.map dit)),.d (.sl (x.els.map dit)),.d (.sl (x.bef.map fun s=>[al s])),.d (.sl (x.aft.map fun s=>[al s]))]]) N.length ⟨rfl,rfl⟩ ?_ _
 rintro j ρ' σ' hj ⟨rfl,rfl⟩;by_cases hlt:j<N.length
 ·have hx:N[j]? = some N[j]:=JK hlt;have wj:=aH hlt (show N.length≤9223372036854775807 by omega)
  have ht:(N.take (j+1)).flatMap (aV bd)=(N.take j).flatMap (aV bd)++aV bd N[j]:=by
   rw[JT,JK hlt,List.flatMap_append];simp
  have hl1:=ua bd (N.take j);rw[JV]at hl1;generalize N[j]=y at hx ht;generalize (N.take j).flatMap (aV bd)=O at ht hl1 ⊢;have no:aV bd y=[]→((N.take (j+1)).flatMap (aV bd))=O:=fun h=>by rw[ht,h,JX]
  have yes:aV bd y=[y.name]→((N.take (j+1)).flatMap (aV bd)).map (fun s=>[al s])=O.map (fun s=>[al s])++[[al y.name]]:=fun h=>by rw[ht,h,JS];rfl
  by_cases n2:y.op=2
  ·cases hi:inB y.name bd with
   | true=>
    have hk:aV bd y=[]:=by unfold aV;rw[if_neg (by simp[n2,hi])]
    simp -dsimp -implicitDefEqProofs only[aw,V.copy,V.lend,J2,eq_self,reduceIte,J1,J0,JZ,J3,JH,hlt,decide_true,hx,aT y,n2];refine ae (fF bd y.name hbd _) ?_;simp -dsimp -implicitDefEqProofs only[aw,V.copy,J2,cond_true,cond_false,eq_self,reduceIte,J1,J0,JZ,J3,hi,hx,aT y,n2,wj,JI,decide_false];exact⟨hlt,Nxt.same (by simp) (an hb rfl) (by simp[aq,V.under]) ⟨by rw[no hk],rfl⟩⟩
   | false=>
    have hk:aV bd y=[y.name]:=by unfold aV;rw[if_pos (.inr (.inr ⟨n2,hi⟩))]
    simp -dsimp -implicitDefEqProofs only[aw,V.copy,V.lend,J2,eq_self,reduceIte,J1,J0,JZ,J3,JH,hlt,decide_true,hx,aT y,n2];refine ae (fF bd y.name hbd _) ?_;simp -dsimp -implicitDefEqProofs only[aw,V.copy,V.cells,aC,aF,V.plain,J2,cond_true,eq_self,reduceIte,J1,J0,JZ,J3,hi,hx,aT y,n2];refine bt (by first|omega|(simp only[JJ]at *;omega)) ?_;simp -dsimp -implicitDefEqProofs only[aw,V.copy,eq_self,reduceIte,J1,J0,JZ,wj];exact⟨hlt,Nxt.same (by simp) (an hb rfl) (by simp[aq,V.under]) ⟨by unfold r6;rw[yes hk],rfl⟩⟩
  ·by_cases n3:y.op=3∨y.op=24
   ·have hk:aV bd y=[y.name]:=by unfold aV;rw[if_pos (by rcases n3 with h|h;exact .inl h;exact .inr (.inl h))]
    rcases n3 with n3|n3
    all_goals
     simp -dsimp -implicitDefEqProofs only[aw,V.copy,V.cells,aC,aF,V.plain,J2,cond_false,eq_self,reduceIte,J1,J0,JZ,J3,JH,hlt,decide_true,hx,aT y,n3,JI,decide_false];refine bt (by first|omega|(simp only[JJ]at *;omega)) ?_;simp -dsimp -implicitDefEqProofs only[aw,V.copy,eq_self,reduceIte,J1,J0,JZ,wj];exact⟨hlt,Nxt.same (by simp) (an hb rfl) (by simp[aq,V.under]) ⟨by unfold r6;rw[yes hk],rfl⟩⟩
   ·have m3:¬y.op=3:=fun h=>n3 (.inl h);have m24:¬y.op=24:=fun h=>n3 (.inr h);have hk:aV bd y=[]:=by unfold aV;rw[if_neg (by simp[n2,m3,m24])]
    simp -dsimp -implicitDefEqProofs only[aw,V.copy,J2,cond_false,eq_self,reduceIte,J1,J0,JZ,J3,JH,hlt,decide_true,hx,aT y,decide_eq_false n2,decide_eq_false m3,decide_eq_false m24,wj];exact Nxt.same (by simp) (an hb rfl) (by simp[aq,V.under]) ⟨by rw[no hk],rfl⟩
 ·simp -dsimp -implicitDefEqProofs only[aw,V.copy,eq_self,reduceIte,J1,J0,JZ,JH,hlt,decide_false];rw[JM (by omega)];exact ac (v:=.d (aQ (N.flatMap (aV bd)))) hb (by simp[rk,cG,cS,aQ,aw,V.lend,eq_self,reduceIte]) rfl JP ⟨rfl,rfl⟩
theorem xe(l:List It)(bd:List ByteArray){j:Nat}(h:j<l.length):ff (l.take (j+1)) bd=ff (l.take j) bd++cy l[j] bd++ff l[j].items (bnd l[j] bd)++ff l[j].els bd:=by
 induction l generalizing j with
 | nil=>simp at h
 | cons a r ih=>
  cases j with
  | zero=>simp only[JQ,List.take_zero,i8,List.getElem_cons_zero,ff,JX,List.nil_append]
  | succ j=>simp only[JQ,i8,List.getElem_cons_succ,JR];rw[ih (by simpa using h)];simp only[JR]
theorem qc(l:List It)(bd:List ByteArray)(j:Nat):(ff (l.take j) bd).length≤bu l:=by
 have h1:=mQ (l.take j) bd
 have h2:bu (l.take j)≤bu l:=by
  clear h1
  induction l generalizing j with
  | nil=>simp
  | cons a r ih=>
   cases j with
   | zero=>simp[bu]
   | succ j=>rw[JQ,bu,bu];have:=ih j;omega
 omega
theorem Ds(x:It)(bd:List ByteArray):(bnd x bd).length≤bd.length+1:=by
 unfold bnd;split<;>simp
set_option maxHeartbeats 2000000 in
theorem zp:∀l:List It,bu l≤1000000→∀(bd:List ByteArray),bd.length+bu l≤1000000→∀σ,Fun G 61 [.d (de l),.d (aQ bd)] σ (aO (.d (aQ (ff l bd))) σ):=by
 refine fe fun l ih hs bd hbd σ=>?_;have hln:=eV l;refine ao Tryz.func61 k61 rfl fun hb hw=>?_;delta c61 oM oV kI kS kT kF;simp -dsimp -implicitDefEqProofs only[aw,aj,V.copy,eq_self,reduceIte,reduceCtorEq,J1,J0,JZ];refine bC (R:=fun(j:Nat) ρ σ'=>ρ=[(0,.d (de l)),(1,.d (aQ bd)),(5,r6 (ff (l.take j) bd)),(6,aL .i64 j)]∧σ'=σ) l.length ⟨rfl,rfl⟩ ?_ _;rintro j ρ' σ' hj ⟨rfl,rfl⟩;by_cases hlt:j<l.length
 ·obtain⟨i1,i2⟩:=ih _ (JW hlt);have hm:=cm (JW hlt);have hxx:l[j]? = some l[j]:=JK hlt;have ht:=xe l bd hlt;have hle:=qc l bd (j+1);rw[ht]at hle;simp only[JL]at hle;generalize l[j]=x at i1 i2 hm hxx ht hle;have hbx:=bI x;have hbl:=Ds x bd;have hon:=fun σ=>y7 x bd (by omega) (by omega) σ;have hin:=fun σ=>oX x bd (by omega) σ;have h1:=fun σ=>i1 (by omega) (bnd x bd) (by omega) σ;have h2:=fun σ=>i2 (by omega) bd (by omega) σ;have wj:=aH hlt (show l.length≤9223372036854775807 by omega);simp only[aK]at hon hin;generalize cy x bd=A at hon ht hle;generalize ff x.items (bnd x bd)=B at h1 ht hle;generalize ff x.els bd=C at h2 ht hle;generalize ff (l.take j) bd=O at ht hle ⊢
  have hrA:(A.map fun s=>[al s]).all (fun r=>r.length==1)=true:=by rw[JO];exact List.all_eq_true.2 fun a _=>rfl
  have hrB:(B.map fun s=>[al s]).all (fun r=>r.length==1)=true:=by rw[JO];exact List.all_eq_true.2 fun a _=>rfl
  have hrC:(C.map fun s=>[al s]).all (fun r=>r.length==1)=true:=by rw[JO];exact List.all_eq_true.2 fun a _=>rfl
  simp -dsimp -implicitDefEqProofs only[aw,V.copy,V.lend,V.lend1,J2,eq_self,reduceIte,reduceCtorEq,J1,J0,JZ,J3,JH,hlt,decide_true,hxx,cr x];refine ae (hon _) ?_;simp -dsimp -implicitDefEqProofs only[aw,eq_self,reduceIte,reduceCtorEq,J0,JZ,aQ,hrA];refine bt (by first|omega|(simp only[JJ]at *;omega)) ?_;simp -dsimp -implicitDefEqProofs only[aw,V.copy,V.lend,V.lend1,J2,eq_self,reduceIte,reduceCtorEq,J1,J0,JZ,J3,hxx,cr x];refine aZ (hin _) ?_;simp -dsimp -implicitDefEqProofs only[aw,V.lend,eq_self,reduceIte,reduceCtorEq,J0,JZ];refine aZ (h1 _) ?_;simp -dsimp -implicitDefEqProofs only[aw,eq_self,reduceIte,reduceCtorEq,J0,JZ,aQ,hrB]
  refine bt (by first|omega|(simp only[JJ,JL]at *;omega)) ?_;simp -dsimp -implicitDefEqProofs only[aw,V.copy,V.lend,J2,eq_self,reduceIte,reduceCtorEq,J1,J0,JZ,J3,hxx,cr x];refine ae (h2 _) ?_;simp -dsimp -implicitDefEqProofs only[aw,eq_self,reduceIte,reduceCtorEq,J0,JZ,aQ,hrC];refine bt (by first|omega|(simp only[JJ,JL]at *;omega)) ?_;simp -dsimp -implicitDefEqProofs only[aw,V.copy,eq_self,reduceIte,reduceCtorEq,J1,J0,JZ,wj];refine⟨hlt,Nxt.same (by simp) hb (by simp[aq,V.under]) ⟨?_,rfl⟩⟩;rw[ht];simp only[r6,aQ,JS,JR]
 ·simp -dsimp -implicitDefEqProofs only[aw,V.copy,eq_self,reduceIte,reduceCtorEq,J1,J0,JZ,JH,hlt,decide_false];rw[JM (by omega)];exact ac (v:=.d (aQ (ff l bd))) hb (by simp[Ff,cG,cS,aQ,aw,V.lend,eq_self,reduceIte]) rfl JU ⟨rfl,rfl⟩
theorem uy:∀(m out:List ByteArray),(m.foldl dl out).length≤out.length+m.length:=by
 intro m
 induction m with
 | nil=>exact fun out=>Nat.le_refl _
 | cons a r ih=>
  intro out;rw[List.foldl_cons];have:=ih (dl out a);have h2:(dl out a).length≤out.length+1:=by unfold dl;split<;>simp
  rw[List.length_cons];omega
theorem rT(l:List It)(hl:bu l≤900000)(σ:List (List V)):Fun G 30 [.d (de l)] σ (aO (.d (aQ (jo l))) σ):=by
 refine ao Tryz.func30 k30 rfl fun hb hw=>?_;delta c30 oM oV kI kS kT kF;unfold jo;have ha:=fun σ=>zp l (by omega) [] (by simp;omega) σ;have hle:=mQ l [];simp only[aQ,JY]at ha;generalize ff l []=L at ha hle ⊢;simp -dsimp -implicitDefEqProofs only[aw,aj,V.copy,V.lend,eq_self,reduceIte,reduceCtorEq,J1,J0,JZ];refine ae (ha _) ?_;simp -dsimp -implicitDefEqProofs only[aw,V.copy,eq_self,reduceIte,reduceCtorEq,J1,J0,JZ];refine bC (R:=fun(j:Nat) ρ σ'=>ρ=[(3,r6 ((L.take j).foldl dl [])),(4,.d (.sl (L.map fun s=>[al s]))),(5,aL .i64 j)]∧σ'=σ) L.length ⟨rfl,rfl⟩ ?_ _;rintro j ρ' σ' hj ⟨rfl,rfl⟩;by_cases hlt:j<L.length
 ·have ht:(L.take (j+1)).foldl dl []=dl ((L.take j).foldl dl []) L[j]:=by rw[JT,JK hlt,List.foldl_append];rfl
  have hal:=uy (L.take j) [];rw[JV]at hal;simp only[List.length_nil]at hal;have hx:L[j]? = some L[j]:=JK hlt;have wj:=aH hlt (show L.length≤9223372036854775807 by omega);generalize (L.take j).foldl dl []=O at ht hal ⊢;generalize L[j]=s at ht hx;have hbn:=fun σ=>fF O s (by omega) σ;simp only[aQ]at hbn;simp -dsimp -implicitDefEqProofs only[aw,V.copy,V.lend,J2,eq_self,reduceIte,J1,J0,JZ,JH,hlt,decide_true,hx];refine ae (hbn _) ?_;cases hi:inB s O with
  | true=>
   have e:dl O s=O:=by unfold dl;rw[if_pos hi]
   rw[e]at ht;simp -dsimp -implicitDefEqProofs only[aw,V.copy,eq_self,reduceIte,J1,J0,JZ,wj];exact⟨hlt,Nxt.same (by simp) hb (by simp[aq,V.under]) ⟨by rw[ht],rfl⟩⟩
  | false=>
   have e:dl O s=O++[s]:=by unfold dl;rw[if_neg (by simp[hi])]
   rw[e]at ht;simp -dsimp -implicitDefEqProofs only[aw,V.copy,V.cells,aC,aF,V.plain,J2,eq_self,reduceIte,J1,J0,JZ,hx];refine bt (by first|omega|(simp only[JJ]at *;omega)) ?_;simp -dsimp -implicitDefEqProofs only[aw,V.copy,eq_self,reduceIte,J1,J0,JZ,wj];refine⟨hlt,Nxt.same (by simp) hb (by simp[aq,V.under]) ⟨?_,rfl⟩⟩;rw[ht];simp only[r6,JS,List.map_cons,JY]
 ·simp -dsimp -implicitDefEqProofs only[aw,V.copy,eq_self,reduceIte,J1,J0,JZ,JH,hlt,decide_false];rw[JM (by omega)];exact ac (v:=.d (aQ (L.foldl dl []))) hb (by simp[Fp,cG,cS,aQ,aw,V.lend,eq_self,reduceIte]) rfl JU ⟨rfl,rfl⟩
end Go.Proofs.YthoebpnbhgmoiaaGreatDoor
