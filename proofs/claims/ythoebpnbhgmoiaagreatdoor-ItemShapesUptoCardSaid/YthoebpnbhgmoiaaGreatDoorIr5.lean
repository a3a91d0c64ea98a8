import Derived.Test.YthoebpnbhgmoiaaGreatDoorIr3
set_option linter.unusedVariables false
set_option linter.unusedSimpArgs false
set_option linter.unusedSectionVars false
open Bool renaming not_false→JH,true_and→JI,not_true→JJ,false_and→JK
open ByteArray renaming size_extract→JL
open List renaming take_length→JM,take_left→JO
open Nat renaming reduceEqDiff→JP,reduceBEq→JQ,reduceLT→JR,reduceLeDiff→JS,reduceAdd→JT
open Option renaming isSome_some→JU,getD_some→JV,isSome_none→JW,getD_none→JX
namespace Go.Proofs.YthoebpnbhgmoiaaGreatDoor
open Go.RowKit
theorem oA{s:ByteArray}(h:dm s=true):4≤s.size∧fo s 91=s.extract 0 (s.size-3)∧dx s 91=s.extract (s.size-2) s.size:=by
 simp only[dm,Bool.and_eq_true,ga,decide_eq_true_eq]at h;obtain⟨⟨h1,h2⟩,h3⟩:=h;obtain⟨o,ho⟩:=Int.eq_ofNat_of_zero_le h1;have hA:fo s 91=s.extract 0 o:=by unfold fo;rw[ho,if_neg (by omega)];rfl
 have hB:dx s 91=s.extract (o+1) s.size:=by unfold dx;rw[ho,if_neg (by omega)];rfl
 rw[hA]at h2;rw[hB]at h3;by_cases hz:(s.extract (o+1) s.size).size=2
 ·have hz':=hz;rw[JL]at hz';have hw:=ph (fT h2);rw[JL]at hw;have e:s.size=o+3:=by omega
  have i2:s.size-2=o+1:=by omega
  have i3:s.size-3=o:=by omega
  rw[i2,i3];exact⟨by omega,hA,hB⟩
 ·rw[jb hz]at h3;cases h3
abbrev Jj(o:Option (ByteArray×Int)):V:=match o with
 | some (a,k)=>.tup [.d (al a),.d (ah k),az true]
 | none=>.tup [.d (al ⟨#[]⟩),.d (ah 0),az false]
theorem lb{s:ByteArray}(h:dm s=false):aM s=none:=by unfold aM;rw[dif_neg (by simp[h])]
theorem vW{s:ByteArray}(h:dm s=true)(hn:4≤s.size):aM s=some (s.extract 0 (s.size-3),((s[s.size-2]'(by omega)).toNat:Int)-48):=by
 obtain⟨_,hA,hB⟩:=oA h;have hl:0<(dx s 91).size:=by rw[hB,JL];omega
 unfold aM;rw[dif_pos ⟨h,hl⟩,hA]
 have:((dx s 91)[0]'hl)=s[s.size-2]'(by omega):=by
  simp only[hB];rw[mj];rfl
 rw[this]
theorem BT(s:ByteArray)(n:Nat)(h:n≤s.size):qf true 0 (V.d (al s)) none (some (V.d (ah n)))=some (V.d (al (s.extract 0 n))):=by
 simp[qf,bk,tl,h]
set_option maxHeartbeats 1000000 in
theorem rZ(s:ByteArray)(hs:s.size≤1000000)(σ:List (List V)):Fun G 125 [.d (al s)] σ (aO (Jj (aM s)) σ):=by
 refine ao Tryz.func125 HA rfl fun hb hw=>?_;delta Hf oM oV kI kS kT kF;have he:=gX s;have hlen:=Lib.size_eq s;by_cases h4:s.size<4
 ·rw[lg h4]at he;have h4':((s.size:Nat):Int)<4:=by omega
  rw[lb he];simp -dsimp -implicitDefEqProofs only[aw,aj,V.copy,eq_self,reduceIte,reduceCtorEq,JQ,JR,JP,decide_eq_true h4'];exact ac (v:=.tup [.d (al ⟨#[]⟩),.d (ah 0),az false]) hb rfl rfl JM ⟨rfl,rfl⟩
 have h4':¬((s.size:Nat):Int)<4:=by omega
 rw[iY h4]at he;have w1:IntKind.i64.wrap (((s.size:Nat):Int)-1)=((s.size-1:Nat):Int):=by rw[wrap_i64 (by omega) (by omega)];omega
 have w2:IntKind.i64.wrap (((s.size:Nat):Int)-2)=((s.size-2:Nat):Int):=by rw[wrap_i64 (by omega) (by omega)];omega
 have w3:IntKind.i64.wrap (((s.size:Nat):Int)-3)=((s.size-3:Nat):Int):=by rw[wrap_i64 (by omega) (by omega)];omega
 have x1:s.data.toList[s.size-1]? = some (s[s.size-1]'(by omega)):=dD s _ (by omega);have x2:s.data.toList[s.size-2]? = some (s[s.size-2]'(by omega)):=dD s _ (by omega);have x3:s.data.toList[s.size-3]? = some (s[s.size-3]'(by omega)):=dD s _ (by omega);have hres:dm s=true→aM s=some (s.extract 0 (s.size-3),((s[s.size-2]'(by omega)).toNat:Int)-48):=fun h=>vW h (by omega);have hsub:=BT s (s.size-3) (by omega);have hnm:=fun σ=>gS (s.extract 0 (s.size-3)) σ;generalize s[s.size-1]'(by omega)=c1 at he x1;generalize s[s.size-2]'(by omega)=c2 at he x2 hres;generalize s[s.size-3]'(by omega)=c3 at he x3;have hc2:=c2.toNat_lt;by_cases q1:c1.toNat=93
 case neg=>
  have q1':¬((c1.toNat:Nat):Int)=93:=by omega
  rw[lb (by rw[he,decide_eq_false q1];simp)];simp -dsimp -implicitDefEqProofs only[aw,aj,V.copy,cond_false,eq_self,reduceIte,reduceCtorEq,JQ,JR,JP,decide_eq_false h4',w1,x1,decide_eq_false q1'];exact ac (v:=.tup [.d (al ⟨#[]⟩),.d (ah 0),az false]) hb rfl rfl JM ⟨rfl,rfl⟩
 have q1':((c1.toNat:Nat):Int)=93:=by omega
 by_cases q3:c3.toNat=91
 case neg=>
  have q3':¬((c3.toNat:Nat):Int)=91:=by omega
  rw[lb (by rw[he,decide_eq_false q3];simp)];simp -dsimp -implicitDefEqProofs only[aw,aj,V.copy,cond_false,eq_self,reduceIte,reduceCtorEq,JQ,JR,JP,decide_eq_false h4',w1,x1,decide_eq_true q1',w3,x3,decide_eq_false q3'];exact ac (v:=.tup [.d (al ⟨#[]⟩),.d (ah 0),az false]) hb rfl rfl JM ⟨rfl,rfl⟩
 have q3':((c3.toNat:Nat):Int)=91:=by omega
 have w4:IntKind.i64.wrap ((c2.toNat:Nat):Int)=((c2.toNat:Nat):Int):=wrap_i64 (by omega) (by omega);have w5:IntKind.i64.wrap (((c2.toNat:Nat):Int)-48)=((c2.toNat:Nat):Int)-48:=wrap_i64 (by omega) (by omega);rw[decide_eq_true q1,decide_eq_true q3]at he;by_cases l1:((c2.toNat:Nat):Int)-48<0
 ·rw[lb (by rw[he,decide_eq_false (show ¬48≤c2.toNat by omega)];simp)];simp -dsimp -implicitDefEqProofs only[aw,aj,V.copy,cond_false,eq_self,reduceIte,reduceCtorEq,JQ,JR,JP,decide_eq_false h4',w1,x1,decide_eq_true q1',w3,x3,decide_eq_true q3',w2,x2,w4,w5,hsub,decide_eq_true l1];exact ac (v:=.tup [.d (al ⟨#[]⟩),.d (ah 0),az false]) hb rfl rfl JM ⟨rfl,rfl⟩
 by_cases l2:8≤((c2.toNat:Nat):Int)-48
 ·rw[lb (by rw[he,decide_eq_false (show ¬c2.toNat<56 by omega)];simp)];simp -dsimp -implicitDefEqProofs only[aw,aj,V.copy,cond_false,eq_self,reduceIte,reduceCtorEq,JQ,JR,JP,decide_eq_false h4',w1,x1,decide_eq_true q1',w3,x3,decide_eq_true q3',w2,x2,w4,w5,hsub,decide_eq_false l1,decide_eq_true l2];exact ac (v:=.tup [.d (al ⟨#[]⟩),.d (ah 0),az false]) hb rfl rfl JM ⟨rfl,rfl⟩
 rw[decide_eq_true (show 48≤c2.toNat by omega),decide_eq_true (show c2.toNat<56 by omega)]at he;simp -dsimp -implicitDefEqProofs only[aw,aj,V.copy,V.lend,cond_false,eq_self,reduceIte,reduceCtorEq,JQ,JR,JP,decide_eq_false h4',w1,x1,decide_eq_true q1',w3,x3,decide_eq_true q3',w2,x2,w4,w5,hsub,decide_eq_false l1,decide_eq_false l2];refine ae (hnm _) ?_;generalize s.extract 0 (s.size-3)=a at he hres;cases hn:bH a with
 | false=>
  rw[lb (by rw[he,hn];simp)];simp -dsimp -implicitDefEqProofs only[aw,V.copy,cond_false,eq_self,reduceIte,JQ,JR,JP];exact ac (v:=.tup [.d (al ⟨#[]⟩),.d (ah 0),az false]) hb rfl rfl JM ⟨rfl,rfl⟩
 | true=>
  rw[hres (by rw[he,hn];simp)];simp -dsimp -implicitDefEqProofs only[aw,V.copy,cond_false,eq_self,reduceIte,JQ,JR,JP];exact ac (v:=.tup [.d (al a),.d (ah (((c2.toNat:Nat):Int)-48)),az true]) hb rfl rfl JM ⟨rfl,rfl⟩
theorem jk(c:Cl)(s:ByteArray)(hs:s.size≤1000000)(hl:c.fields.length≤1000000)(σ:List (List V)):Fun G 89 [vcl c,.d (al s)] σ (aO (.d (ah (ef aM (au c) s))) σ):=by
 refine ao Tryz.func89 k89 rfl fun hb hw=>?_;delta c89 oM oV kI kS kT kF;simp -dsimp -implicitDefEqProofs only[aw,aj,V.copy,V.lend,V.lend1,V.cells,V.boxable,JS,eq_self,reduceIte,reduceCtorEq,JQ,JR,JP,JT];refine ae (eR c s hl _) ?_;cases hf:fsz (au c) s with
 | some n=>
  have e:ef aM (au c) s=if 0<n then 9 else 0:=by unfold ef;rw[hf]
  rw[e];by_cases h0:0<n
  ·rw[if_pos h0];simp -dsimp -implicitDefEqProofs only[aw,V.copy,V.lend,eq_self,reduceIte,JQ,JR,JP,JV,JU,decide_eq_true h0];first|exact ac hb rfl rfl JM ⟨rfl,rfl⟩|exact ac hb rfl rfl JO ⟨rfl,rfl⟩
  ·rw[if_neg h0];simp -dsimp -implicitDefEqProofs only[aw,V.copy,V.lend,eq_self,reduceIte,JQ,JR,JP,JV,JU,decide_eq_false h0];first|exact ac hb rfl rfl JM ⟨rfl,rfl⟩|exact ac hb rfl rfl JO ⟨rfl,rfl⟩
 | none=>
  simp -dsimp -implicitDefEqProofs only[aw,V.copy,V.lend,eq_self,reduceIte,JQ,JR,JP,JX,JW];refine ae (rZ s hs _) ?_;cases hp:aM s with
  | none=>
   have e:ef aM (au c) s=7:=by unfold ef;rw[hf,hp]
   rw[e];simp -dsimp -implicitDefEqProofs only[aw,V.copy,V.lend,V.lend1,JS,eq_self,reduceIte,JQ,JR,JP,JT];refine ae (eR c ⟨#[]⟩ hl _) ?_;simp -dsimp -implicitDefEqProofs only[aw,V.copy,eq_self,reduceIte,JQ,JR,JP];first|exact ac hb rfl rfl JM ⟨rfl,rfl⟩|exact ac hb rfl rfl JO ⟨rfl,rfl⟩
  | some ak=>
   obtain⟨a,k⟩:=ak;simp -dsimp -implicitDefEqProofs only[aw,V.copy,V.lend,V.lend1,JS,eq_self,reduceIte,JQ,JR,JP,JT];refine ae (eR c a hl _) ?_;cases hfa:fsz (au c) a with
   | none=>
    have e:ef aM (au c) s=7:=by unfold ef;rw[hf,hp];simp only[hfa]
    rw[e];simp -dsimp -implicitDefEqProofs only[aw,V.copy,cond_false,eq_self,reduceIte,JQ,JR,JP,JX,JW];first|exact ac hb rfl rfl JM ⟨rfl,rfl⟩|exact ac hb rfl rfl JO ⟨rfl,rfl⟩
   | some n=>
    have e:ef aM (au c) s=if n<1 then 9 else if n≤k then 7 else 0:=by unfold ef;rw[hf,hp];simp only[hfa]
    rw[e];by_cases h0:n<1
    ·rw[if_pos h0];simp -dsimp -implicitDefEqProofs only[aw,V.copy,cond_false,eq_self,reduceIte,JQ,JR,JP,JV,JU,decide_eq_true h0];first|exact ac hb rfl rfl JM ⟨rfl,rfl⟩|exact ac hb rfl rfl JO ⟨rfl,rfl⟩
    ·rw[if_neg h0];by_cases hk:n≤k
     ·rw[if_pos hk];simp -dsimp -implicitDefEqProofs only[aw,V.copy,cond_false,eq_self,reduceIte,JQ,JR,JP,JV,JU,decide_eq_false h0,decide_eq_true hk];first|exact ac hb rfl rfl JM ⟨rfl,rfl⟩|exact ac hb rfl rfl JO ⟨rfl,rfl⟩
     ·rw[if_neg hk];simp -dsimp -implicitDefEqProofs only[aw,V.copy,cond_false,eq_self,reduceIte,JQ,JR,JP,JV,JU,decide_eq_false h0,decide_eq_false hk];first|exact ac hb rfl rfl JM ⟨rfl,rfl⟩|exact ac hb rfl rfl JO ⟨rfl,rfl⟩
theorem Bb(fs:List (ByteArray×Int))(s:ByteArray):dg aM fs s = !(!decide (ef aM fs s=0) && !decide (dN fs s=0)):=by
 unfold dg;cases hf:fsz fs s with
 | none=>
  have ha:dN fs s=7:=by unfold dN;rw[hf]
  rw[ha];simp
 | some n=>
  have hv:ef aM fs s=if 0<n then 9 else 0:=by unfold ef;rw[hf]
  have ha:dN fs s=if n<1 then 9 else 0:=by unfold dN;rw[hf]
  rw[hv,ha];by_cases h:0<n
  ·rw[if_pos h,if_neg (by omega)];rfl
  ·rw[if_neg h,if_pos (by omega)];rfl
theorem ib(c:Cl)(l:List ByteArray)(hl:l.length≤1000000)(hs:∀s,s∈l→s.size≤1000000)(hc:c.fields.length≤1000000)(σ:List (List V)):Fun G 111 [vcl c,.d (aQ l)] σ (aO (az (l.all (dg aM (au c)))) σ):=by
 refine ao Tryz.func111 IV rfl fun hb hw=>?_;delta FQ oM oV kI kS kT kF;simp -dsimp -implicitDefEqProofs only[aw,aj,V.copy,V.cells,V.boxable,eq_self,reduceIte,reduceCtorEq,JQ,JR,JP,aQ];refine bC (R:=fun(j:Nat) ρ σ'=>ρ=[(1,.d (.sl (l.map fun s=>[al s]))),(2,.ptr σ.length 0),(5,aL .i64 j)]∧σ'=σ++[em c]∧l.all (dg aM (au c))=(l.drop j).all (dg aM (au c))) l.length ⟨rfl,rfl,rfl⟩ ?_ _;rintro j ρ' σ' hj ⟨rfl,rfl,hr⟩;by_cases hlt:j<l.length
 ·rw[List.drop_eq_getElem_cons hlt,List.all_cons]at hr;have hxx:l[j]? = some l[j]:=List.getElem?_eq_getElem hlt;have hsz:=hs _ (List.getElem_mem hlt);generalize l[j]=s at hr hxx hsz;rw[Bb]at hr;have wj:=aH hlt (show l.length≤9223372036854775807 by omega);simp -dsimp -implicitDefEqProofs only[aw,V.copy,V.lend,V.lend1,JS,eq_self,reduceIte,JQ,JR,JP,JT,Int.ofNat_lt,hlt,decide_true,hxx];refine aZ (jk c s hsz hc _) ?_;by_cases h1:ef aM (au c) s=0
  ·rw[decide_eq_true h1,JJ,JK,JH,JI]at hr;simp -dsimp -implicitDefEqProofs only[aw,V.copy,eq_self,reduceIte,JQ,JR,JP,h1,decide_true,wj];exact⟨hlt,Nxt.same (by simp) (an hb rfl) (by simp[aq,V.under]) ⟨rfl,rfl,hr⟩⟩
  ·rw[decide_eq_false h1,JH,JI]at hr;simp -dsimp -implicitDefEqProofs only[aw,V.copy,V.lend,V.lend1,JS,eq_self,reduceIte,JR,JP,JT,decide_eq_false h1,hxx];refine aZ (js c s hc _) ?_;by_cases h2:dN (au c) s=0
   ·rw[decide_eq_true h2,JJ,JH,JI]at hr;simp -dsimp -implicitDefEqProofs only[aw,V.copy,cond_true,eq_self,reduceIte,JQ,JR,JP,h2,decide_true,wj];exact⟨hlt,Nxt.same (by simp) (an hb rfl) (by simp[aq,V.under]) ⟨rfl,rfl,hr⟩⟩
   ·rw[decide_eq_false h2,JH,JJ,JK]at hr;rw[hr];simp -dsimp -implicitDefEqProofs only[aw,V.copy,cond_true,eq_self,reduceIte,JQ,JR,JP,decide_eq_false h2];first|exact ac hb rfl rfl JM ⟨rfl,rfl⟩|exact ac hb rfl rfl JO ⟨rfl,rfl⟩
 ·rw[List.drop_eq_nil_of_le (by omega),List.all_nil]at hr;rw[hr];simp -dsimp -implicitDefEqProofs only[aw,V.copy,eq_self,reduceIte,JQ,JR,JP,Int.ofNat_lt,hlt,decide_false];first|exact ac hb rfl rfl JM ⟨rfl,rfl⟩|exact ac hb rfl rfl JO ⟨rfl,rfl⟩
end Go.Proofs.YthoebpnbhgmoiaaGreatDoor
