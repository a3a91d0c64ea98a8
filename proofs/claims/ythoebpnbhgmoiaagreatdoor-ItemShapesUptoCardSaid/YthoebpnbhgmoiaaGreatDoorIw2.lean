import Derived.Test.YthoebpnbhgmoiaaGreatDoorIw1
import Derived.Test.YthoebpnbhgmoiaaGreatDoorClo
set_option linter.unusedVariables false
set_option linter.unusedSimpArgs false
set_option linter.unusedSectionVars false
open Int renaming ofNat_lt→JH
open List renaming take_left→JI,take_length→JJ,getElem?_eq_getElem→JK,getElem_mem→JL,take_of_length_le→JM,length_map→JO,map_cons→JP,length_append→JQ,map_append→JR,getElem?_append_left→JS,take_succ_cons→JT,take_add_one→JU,length_take→JV,length_cons→JW,map_nil→JX
open Nat renaming reduceEqDiff→JY,reduceBEq→JZ,reduceLT→J0,reduceAdd→J1,reduceLeDiff→J2
namespace Go.Proofs.YthoebpnbhgmoiaaGreatDoor
open Go.RowKit
theorem FB.app{σ:List (List V)}{i:Nat}{fs:List (ByteArray×Int)}(h:FB σ i fs)(l:List (List V)):FB (σ++l) i fs:=by
 unfold FB at h ⊢;rw[JS (List.getElem?_eq_some_iff.1 h).1];exact h
theorem FB.lt{σ:List (List V)}{i:Nat}{fs:List (ByteArray×Int)}(h:FB σ i fs):i<σ.length:=(List.getElem?_eq_some_iff.1 h).1
theorem FB.at{σ:List (List V)}{i:Nat}{fs:List (ByteArray×Int)}(h:FB σ i fs):σ[i]? = some [.mapc true (kvF fs)]:=h
theorem FB.at2{σ:List (List V)}{i:Nat}{fs:List (ByteArray×Int)}(h:FB σ i fs)(l:List (List V)):(σ++l)[i]? = some [.mapc true (kvF fs)]:=h.app l
def Sz8(fs:List (ByteArray×Int)):Prop:=∀s n,fsz fs s=some n→0≤n∧n≤8
theorem oJ(i:Nat)(fs:List (ByteArray×Int))(s:ByteArray)(hp:Sz8 fs)(σ:List (List V))(h:FB σ i fs):Fun G 70 [.mp i,.d (al s)] σ (aO (.d (ah (dN fs s))) σ):=by
 refine ao Tryz.func70 k70 rfl fun hb hw=>?_;delta c70 oM oV kI kS kT kF;cases hf:fsz fs s with
 | none=>
  rw[show dN fs s=7 by unfold dN;rw[hf]];simp -dsimp -implicitDefEqProofs only[aw,aj,V.copy,eq_self,reduceIte,reduceCtorEq,JZ,J0,JY,h.at,bD,hf];first|exact ac hb rfl rfl JJ ⟨rfl,rfl⟩|exact ac hb rfl rfl JI ⟨rfl,rfl⟩
 | some n=>
  have hn:=hp s n hf;have e:dN fs s=if n<1 then 9 else 0:=by unfold dN;rw[hf]
  by_cases h0:n=0
  ·rw[e,h0];subst h0;simp -dsimp -implicitDefEqProofs only[aw,aj,V.copy,eq_self,reduceIte,reduceCtorEq,JZ,J0,JY,h.at,bD,hf,decide_true];first|exact ac hb rfl rfl JJ ⟨rfl,rfl⟩|exact ac hb rfl rfl JI ⟨rfl,rfl⟩
  ·rw[e,if_neg (show ¬n<1 by omega)];simp -dsimp -implicitDefEqProofs only[aw,aj,V.copy,eq_self,reduceIte,reduceCtorEq,JZ,J0,JY,h.at,bD,hf,decide_eq_false h0];first|exact ac hb rfl rfl JJ ⟨rfl,rfl⟩|exact ac hb rfl rfl JI ⟨rfl,rfl⟩
def aM(s:ByteArray):Option (ByteArray×Int):=if h:dm s=true∧0<(dx s 91).size then some (fo s 91,((dx s 91)[0]'h.2).toNat-48)else none
theorem mD{s:ByteArray}(h:dm s=true):ga s 91=true∧bH (fo s 91)=true∧∃hl:0<(dx s 91).size,48≤((dx s 91)[0]'hl).toNat∧((dx s 91)[0]'hl).toNat<56:=by
 unfold dm at h;simp only[Bool.and_eq_true]at h;obtain⟨⟨h1,h2⟩,h3⟩:=h;refine⟨h1,h2,?_⟩;unfold jy at h3;split at h3
 ·rename_i hs;simp only[Bool.and_eq_true,decide_eq_true_eq]at h3;exact⟨by omega,h3.1.2,h3.2⟩
 ·cases h3
theorem pd{s:ByteArray}(h:dm s=true):∃hl:0<(dx s 91).size,aM s=some (fo s 91,(((dx s 91)[0]'hl).toNat:Int)-48):=by
 obtain⟨-,-,hl,-⟩:=mD h;exact⟨hl,by unfold aM;rw[dif_pos ⟨h,hl⟩]⟩
theorem oN{s:ByteArray}(h:dm s=false):aM s=none:=by
 unfold aM;rw[dif_neg (by rw[h];simp)]
theorem mt{s:ByteArray}(h:bH s=true):ga s 91=false:=by
 have hw:=fT h;unfold ga;rw[decide_eq_false];intro hn;obtain⟨o,ho⟩:=Int.eq_ofNat_of_zero_le hn;have hlt:=mf (s:=s) (c:=91) (o:=o) ho;have h2:=nu hw hlt;have h3:=dD s o hlt;rw[(Lib.indexByte_some ho).1]at h3;rw[←Option.some.inj h3]at h2
 revert h2
 decide
theorem DP{c:Nat}(h1:48≤c)(h2:c<56):IntKind.u8.wrap ((c:Int)-48)=((c-48:Nat):Int):=by
 simp[IntKind.wrap,IntKind.bits,IntKind.signed];omega
set_option maxRecDepth 20000 in
set_option maxHeartbeats 2000000 in
theorem jH(i:Nat)(fs:List (ByteArray×Int))(s:ByteArray)(hs:bv s=true)(hp:Sz8 fs)(σ:List (List V))(h:FB σ i fs):Fun G 84 [.mp i,.d (al s)] σ (aO (.d (ah (ef aM fs s))) σ):=by
 refine ao Tryz.func84 k84 rfl fun hb hw=>?_;delta c84 oM oV kI kS kT kF;cases hf:fsz fs s with
 | some n=>
  have e:ef aM fs s=if 0<n then 9 else 0:=by unfold ef;rw[hf]
  by_cases h0:0<n
  ·rw[e,if_pos h0];simp -dsimp -implicitDefEqProofs only[aw,aj,V.copy,V.lend,eq_self,reduceIte,reduceCtorEq,JZ,J0,JY,h.at,bD,hf,decide_eq_true h0];first|exact ac hb rfl rfl JJ ⟨rfl,rfl⟩|exact ac hb rfl rfl JI ⟨rfl,rfl⟩
  ·rw[e,if_neg h0];simp -dsimp -implicitDefEqProofs only[aw,aj,V.copy,V.lend,eq_self,reduceIte,reduceCtorEq,JZ,J0,JY,h.at,bD,hf,decide_eq_false h0];first|exact ac hb rfl rfl JJ ⟨rfl,rfl⟩|exact ac hb rfl rfl JI ⟨rfl,rfl⟩
 | none=>
  have e:ef aM fs s=match aM s with|none=>7|some (a,k)=>match fsz fs a with|none=>7|some n=>if n<1 then 9 else if n≤k then 7 else 0:=by unfold ef;simp only[hf];rfl
  simp -dsimp -implicitDefEqProofs only[aw,aj,V.copy,V.lend,eq_self,reduceIte,reduceCtorEq,JZ,J0,JY,h.at,bD,hf];refine ae (AH s _) ?_;cases he:dm s with
  | false=>
   have hn:bH s=true:=by unfold bv at hs;rw[he]at hs;simpa using hs
   rw[oN he]at e;rw[e];cases ha:fsz fs (fo s 91)with
   | none=>
    simp -dsimp -implicitDefEqProofs only[aw,V.copy,eq_self,reduceIte,reduceCtorEq,JZ,J0,JY,h.at,bD,ha,mt hn];first|exact ac hb rfl rfl JJ ⟨rfl,rfl⟩|exact ac hb rfl rfl JI ⟨rfl,rfl⟩
   | some n=>
    simp -dsimp -implicitDefEqProofs only[aw,V.copy,eq_self,reduceIte,reduceCtorEq,JZ,J0,JY,h.at,bD,ha,mt hn];first|exact ac hb rfl rfl JJ ⟨rfl,rfl⟩|exact ac hb rfl rfl JI ⟨rfl,rfl⟩
  | true=>
   obtain⟨hc,-,hl,h48,h56⟩:=mD he;obtain⟨hl',hsp⟩:=pd he;rw[hsp]at e;cases ha:fsz fs (fo s 91)with
   | none=>
    rw[e];simp only[];simp -dsimp -implicitDefEqProofs only[aw,V.copy,cond_false,eq_self,reduceIte,reduceCtorEq,JZ,J0,JY,h.at,bD,ha,hc];first|exact ac hb rfl rfl JJ ⟨rfl,rfl⟩|exact ac hb rfl rfl JI ⟨rfl,rfl⟩
   | some n=>
    have hn:=hp _ n ha;have e2:ef aM fs s=if n<1 then 9 else if n≤(((dx s 91)[0]'hl).toNat:Int)-48 then 7 else 0:=by rw[e];simp only[ha]
    obtain⟨c,hcb⟩:∃c,((dx s 91)[0]'hl).toNat=c:=⟨_,rfl⟩
    rw[hcb]at h48 h56 e2;clear e hsp hl';by_cases h0:n=0
    ·have ha':fsz fs (fo s 91)=some 0:=by rw[ha,h0]
     rw[e2,h0,if_pos (by decide)];clear e2 ha;simp -dsimp -implicitDefEqProofs only[aw,V.copy,cond_false,eq_self,reduceIte,reduceCtorEq,JZ,J0,JY,h.at,bD,ha',hc,decide_true];first|exact ac hb rfl rfl JJ ⟨rfl,rfl⟩|exact ac hb rfl rfl JI ⟨rfl,rfl⟩
    ·rw[e2,if_neg (show ¬n<1 by omega)];clear e2
     have e0:ixV (.d (al (dx s 91))) (.d (.lit (.int .i64 0)))=some (aL .u8 (c:Nat)):=by
      have h9:=dD (dx s 91) 0 hl;unfold ixV al;simp only[Int.toNat_zero,h9,hcb];rfl
     have w1:=DP h48 h56;have w2:IntKind.i64.wrap (((c-48:Nat):Int))=((c-48:Nat):Int):=wrap_i64 (by omega) (by omega);have e5:((c:Int)-48)=((c-48:Nat):Int):=by omega
     rw[e5];by_cases h7:n≤((c-48:Nat):Int)
     ·rw[if_pos h7];simp -dsimp -implicitDefEqProofs only[aw,V.copy,cond_false,eq_self,reduceIte,reduceCtorEq,JZ,J0,JY,h.at,bD,ha,hc,decide_eq_false h0,e0,w1,w2,decide_eq_true h7];first|exact ac hb rfl rfl JJ ⟨rfl,rfl⟩|exact ac hb rfl rfl JI ⟨rfl,rfl⟩
     ·rw[if_neg h7];simp -dsimp -implicitDefEqProofs only[aw,V.copy,cond_false,eq_self,reduceIte,reduceCtorEq,JZ,J0,JY,h.at,bD,ha,hc,decide_eq_false h0,e0,w1,w2,decide_eq_false h7];first|exact ac hb rfl rfl JJ ⟨rfl,rfl⟩|exact ac hb rfl rfl JI ⟨rfl,rfl⟩
theorem s9(i:Nat)(fs:List (ByteArray×Int))(s:ByteArray)(hs:bv s=true)(hp:Sz8 fs)(σ:List (List V))(h:FB σ i fs):Fun G 69 [.mp i,.d (al s)] σ (aO (.d (ah (if dg aM fs s=true then 0 else 7))) σ):=by
 refine ao Tryz.func69 k69 rfl fun hb hw=>?_;delta c69 oM oV kI kS kT kF;cases hf:fsz fs s with
 | some n=>
  have e:dg aM fs s=true:=by unfold dg;rw[hf];rfl
  rw[if_pos e];simp -dsimp -implicitDefEqProofs only[aw,aj,V.copy,eq_self,reduceIte,reduceCtorEq,JZ,J0,JY,h.at,bD,hf];first|exact ac hb rfl rfl JJ ⟨rfl,rfl⟩|exact ac hb rfl rfl JI ⟨rfl,rfl⟩
 | none=>
  have e:dg aM fs s=decide (ef aM fs s=0):=by unfold dg;rw[hf];rfl
  rw[e];simp -dsimp -implicitDefEqProofs only[aw,aj,V.copy,V.lend,eq_self,reduceIte,reduceCtorEq,JZ,J0,JY,h.at,bD,hf];refine ae (jH i fs s hs hp _ h) ?_;by_cases h0:ef aM fs s=0
  ·rw[h0,if_pos (by decide)];simp -dsimp -implicitDefEqProofs only[aw,V.copy,cond_false,eq_self,reduceIte,reduceCtorEq,JZ,J0,JY,decide_true];first|exact ac hb rfl rfl JJ ⟨rfl,rfl⟩|exact ac hb rfl rfl JI ⟨rfl,rfl⟩
  ·rw[if_neg (by simpa using h0)];simp -dsimp -implicitDefEqProofs only[aw,V.copy,cond_false,eq_self,reduceIte,reduceCtorEq,JZ,J0,JY,decide_eq_false h0];first|exact ac hb rfl rfl JJ ⟨rfl,rfl⟩|exact ac hb rfl rfl JI ⟨rfl,rfl⟩
theorem zV(fs:List (ByteArray×Int))(s:ByteArray)(n:Int)(h:fsz fs s=none):iz (.s s) (.d (ah n)) (kvF fs)=kvF (fs++[(s,n)]):=by
 induction fs with
 | nil=>rfl
 | cons f r ih=>
  unfold fsz at h ih;rw[List.find?_cons]at h;by_cases hs:f.1=s
  ·rw[decide_eq_true hs]at h;cases h
  ·rw[decide_eq_false hs]at h;have h2:¬(Key.s f.1=Key.s s):=fun e=>hs (Key.s.inj e);unfold kvF at ih ⊢;rw[JP,iz,if_neg h2,ih h];rfl
theorem y4{fs:List (ByteArray×Int)}(hn:(fs.map (·.1)).Nodup){j:Nat}(h:j<fs.length):fsz (fs.take j) fs[j].1=none:=by
 cases hf:fsz (fs.take j) fs[j].1 with
 | none=>rfl
 | some n=>
  exfalso;have h1:=j6 hf;obtain⟨i,hi,he⟩:=List.getElem_of_mem h1;rw[JV]at hi;rw[List.getElem_take]at he;have h2:(fs.map (·.1))[i]'(by rw[JO];omega)=(fs.map (·.1))[j]'(by rw[JO];omega):=by simp[he]
  have:=(List.getElem_inj hn).1 h2;omega
theorem kM(fs:List (ByteArray×Int))(k:Nat):V.underkv k (kvF fs)=true:=by
 induction fs with
 | nil=>rfl
 | cons f r ih=>show(V.underp k (.s f.1,.d (ah f.2))&&V.underkv k (kvF r))=true;rw[ih];rfl
def OfQ(σ:List (List V))(c:Cl):Out→List (List V)→Prop:=fun o σ'=>o=.ret (.mp (σ.length+1))∧σ'=σ++[[.d (al c.name),.d (al c.par),.d (.sl (c.fields.map dfd)),.d c.blocks],[.mapc true (kvF (au c))]]
theorem tU(c:Cl)(hs:SmallF (au c))(hl:c.fields.length≤1000000)(σ:List (List V)):Fun G 37 [vcl c] σ (OfQ σ c):=by
 refine ao Tryz.func37 k37 rfl fun hb hw=>?_;delta c37 oM oV kI kS kT kF;simp -dsimp -implicitDefEqProofs only[aw,aj,V.copy,V.cells,V.boxable,J2,eq_self,reduceIte,reduceCtorEq,JZ,J0,JY,J1];have hfl:(au c).length=c.fields.length:=by unfold au;rw[JO]
 refine cU [3,10,11,12] (fun(j:Nat) ρ σ'=>ρ=[(3,.mp (σ.length+1)),(10,.d (.sl (c.fields.map dfd))),(11,aL .i64 c.fields.length),(12,aL .i64 j)]∧σ'=σ++[[.d (al c.name),.d (al c.par),.d (.sl (c.fields.map dfd)),.d c.blocks],[.mapc true (kvF ((au c).take j))]]) c.fields.length ⟨rfl,rfl⟩ ?_ _;rintro j ρ' σ' hj ⟨rfl,rfl⟩
 have hbb:∀kv,ay (σ++[[V.d (al c.name),V.d (al c.par),V.d (.sl (c.fields.map dfd)),V.d c.blocks],[V.mapc true (kvF kv)]]).length (σ++[[V.d (al c.name),V.d (al c.par),V.d (.sl (c.fields.map dfd)),V.d c.blocks],[V.mapc true (kvF kv)]])=true:=by
  intro kv;have:∀k,V.underkv k (kvF kv)=true:=fun k=>kM kv k;exact an hb (by simp[V.unders,V.under,this])
 by_cases hlt:j<c.fields.length
 ·have hj':j<(au c).length:=by rw[hfl];exact hlt
  have hx:(au c)[j]=(c.fields[j].name,c.fields[j].size):=by simp[au]
  have hd:dfd c.fields[j]=[al c.fields[j].name,ah c.fields[j].width,ah c.fields[j].size,ah c.fields[j].mode,ah c.fields[j].init]:=rfl;have hnone:fsz ((au c).take j) c.fields[j].name=none:=by have:=y4 hs.nd hj';rw[hx]at this;exact this
  have hmp:=zV ((au c).take j) c.fields[j].name c.fields[j].size hnone;have htk:(au c).take (j+1)=(au c).take j++[(c.fields[j].name,c.fields[j].size)]:=by rw[JU,JK hj',hx];rfl
  simp -dsimp -implicitDefEqProofs only[aw,V.copy,V.cells,V.boxable,over,J2,eq_self,reduceIte,JZ,J0,JY,J1,JH,hlt,decide_true,JK hlt,hd,bD,hnone,hmp,aH hlt (show c.fields.length≤9223372036854775807 by omega)];have e3:∀a b d:List V,σ++[a,b,d]=(σ++[a,b])++[d]:=fun a b d=>by simp
  rw[e3];exact Nxt.drop (by simp) (hbb _) (by simp[aq,V.under]) ⟨rfl,by rw[htk]⟩
 ·simp -dsimp -implicitDefEqProofs only[aw,V.copy,eq_self,reduceIte,JZ,J0,JY,JH,hlt,decide_false];rw[JM (by omega)];exact⟨_,_,.refl _ _ _,.mp (σ.length+1),rfl,(σ++[[V.d (al c.name),V.d (al c.par),V.d (.sl (c.fields.map dfd)),V.d c.blocks],[V.mapc true (kvF (au c))]]).length,by simp,by rw[JJ];exact hbb _,by simp[V.under],by rw[JJ];exact⟨rfl,rfl⟩⟩
theorem Nxt.drop1{n0:Nat}{R:ai→List (List V)→Prop}{ρ:ai}{σ:List (List V)}{a b:List V}(hn:n0≤σ.length)(hb:ay (σ++[a]).length (σ++[a])=true)(hs:aq (σ++[a]).length ρ=true)(hR:R ρ (σ++[a])):Nxt n0 R ρ (σ++[a,b]) .mk:=by
 have e:σ++[a,b]=(σ++[a])++[b]:=by simp
 rw[e];exact Nxt.drop (by rw[JQ];omega) hb hs hR
mutual
theorem dW:∀e:Ex,(bj e).length=aA e
 | .mk o n s l=>by rw[bj,aA,JW,jD l]
theorem jD:∀l:List Ex,(bT l).length=aG l
 | []=>rfl
 | a::r=>by rw[bT,aG,JQ,dW a,jD r]
end
theorem qM(l:List Ex){j:Nat}(h:j<l.length):bT (l.take (j+1))=bT (l.take j)++bj l[j]:=by
 induction l generalizing j with
 | nil=>simp at h
 | cons a r ih=>
  cases j with
  | zero=>simp[bT]
  | succ j=>simp only[JT,bT,List.getElem_cons_succ];rw[ih (by simpa using h),List.append_assoc]
theorem mW(l:List Ex)(j:Nat):(bT (l.take j)).length≤aG l:=by
 rw[jD]
 induction l generalizing j with
 | nil=>simp
 | cons a r ih=>cases j with
  | zero=>simp[aG]
  | succ j=>rw[JT,aG,aG];have:=ih j;omega
theorem kL(e:Ex):bj e=e::bT e.args:=by cases e;rw[bj];rfl
theorem ip(e:Ex):aA e=aG e.args+1:=by cases e;rfl
theorem Bq(l:List Ex):(l.map dex).all (fun r=>r.length==4)=true:=by
 rw[List.all_map];exact List.all_eq_true.2 fun a _=>by simp[Function.comp,aT a]
theorem oE(e:Ex):aA e≤1000000→∀σ,Fun G 83 [vex e] σ (aO (.d (.sl ((bj e).map dex))) σ):=by
 induction e using Ex.ind3 with
 | h e ih=>
 intro hs σ;have he:=ip e;have hln:=hZ e.args;refine ao Tryz.func83 k83 (by simp only[am];rfl) fun hb hw=>?_;delta c83 oM oV kI kS kT kF;simp -dsimp -implicitDefEqProofs only[aw,aj,V.copy,V.cells,V.boxable,aC,aF,V.plain,J2,eq_self,reduceIte,reduceCtorEq,JZ,J0,JY,J1,am];refine cU [3,9,10,11] (R:=fun(j:Nat) ρ σ'=>ρ=[(3,.own 38 4 ((e::bT (e.args.take j)).map dex)),(9,.d (.sl (e.args.map dex))),(10,aL .i64 e.args.length),(11,aL .i64 j)]∧σ'=σ++[[.d (ah e.op),.d (ah e.num),.d (al e.name),.d (.sl (e.args.map dex))]]) e.args.length ⟨by simp only[List.take_zero,bT,JP,JX,aT e];rfl,rfl⟩ ?_ _;rintro j ρ' σ' hj ⟨rfl,rfl⟩;by_cases hlt:j<e.args.length
 ·have ht:=qM e.args hlt;have hle:=mW e.args (j+1);have hel:=gp (JL hlt);rw[ht,JQ,dW]at hle;simp -dsimp -implicitDefEqProofs only[aw,V.copy,V.lend,V.lend1,V.cells,V.boxable,over,J2,eq_self,reduceIte,JZ,J0,JY,J1,JH,hlt,decide_true,JK hlt,aT e.args[j]];refine ae (by simpa only[am]using ih _ (JL hlt) (by omega) _) ?_;simp -dsimp -implicitDefEqProofs only[aw,eq_self,reduceIte,J0,JY,Bq];refine bt (by first|omega|(simp only[JW,dW]at *;omega)) ?_;simp -dsimp -implicitDefEqProofs only[aw,V.copy,eq_self,reduceIte,JZ,J0,JY,aH hlt (show e.args.length≤9223372036854775807 by omega)]
  refine⟨hlt,Nxt.drop1 (by simp) (an hb rfl) (by simp[aq,V.under]) ⟨?_,rfl⟩⟩;rw[ht];simp only[JP,JR]
 ·simp -dsimp -implicitDefEqProofs only[aw,V.copy,eq_self,reduceIte,JZ,J0,JY,JH,hlt,decide_false];rw[JM (by omega)];exact ac hb rfl rfl JI ⟨by rw[kL];rfl,rfl⟩
theorem mH(e:Ex)(hn:okN e=true)(hs:aA e≤1000000)(σ:List (List V)):Fun G 113 [vex e] σ (aO (vex e) σ):=by
 refine ao Tryz.func113 Ig (by simp only[am];rfl) fun hb hw=>?_;delta Fy oM oV kI kS kT kF;have h0:=fun σ=>pq e ⟨#[]⟩ cI hs (by unfold cI;simp[aA,aG]) σ;rw[DJ cI e hn]at h0;simp only[am]at h0;simp -dsimp -implicitDefEqProofs only[aw,aj,V.copy,V.lend,V.lend1,V.cells,V.boxable,bc,J2,eq_self,reduceIte,reduceCtorEq,JZ,J0,JY,J1,am];refine ae (h0 _) ?_;simp -dsimp -implicitDefEqProofs only[aw,V.copy,V.cells,V.boxable,over,J2,eq_self,reduceIte,JZ,J0,JY,J1,am];exact ac (v:=vex e) hb (by rw[am];simp[CH,cG,cS,aw,V.copy,V.lend,V.lend1,eq_self,reduceIte,J1]) (by rw[am];rfl) JI ⟨by rw[am],rfl⟩
theorem ta(op:Int)(e:Ex)(σ:List (List V)):Fun G 114 [.d (.lit (.pointer none)),.d (ah op),vex e] σ (aO (vex (ct op none e)) σ):=by
 refine ao Tryz.func114 GF (by simp only[am];rfl) fun hb hw=>?_;delta D9 oM oV kI kS kT kF;simp -dsimp -implicitDefEqProofs only[aw,aj,V.copy,V.cells,V.boxable,over,J2,eq_self,reduceIte,reduceCtorEq,JZ,J0,JY,J1,am];exact ac (v:=vex e) hb (by rw[am];simp[At,cG,cS,aw,V.copy,V.lend,V.lend1,eq_self,reduceIte,J1]) (by rw[am];rfl) JI ⟨by rw[am];rfl,rfl⟩
def QB(σ:List (List V))(i:Nat)(c:Ex):Prop:=σ[i]? = some [.d (ah c.op),.d (ah c.num),.d (al c.name),.d (.sl (c.args.map dex))]
theorem QB.app{σ:List (List V)}{i:Nat}{c:Ex}(h:QB σ i c)(l:List (List V)):(σ++l)[i]? = some [.d (ah c.op),.d (ah c.num),.d (al c.name),.d (.sl (c.args.map dex))]:=by
 unfold QB at h;rw[JS (List.getElem?_eq_some_iff.1 h).1];exact h
theorem tc(op:Int)(i:Nat)(c e:Ex)(σ:List (List V))(h:QB σ i c):Fun G 114 [.ptr i 0,.d (ah op),vex e] σ (aO (vex (ct op (some c) e)) σ):=by
 refine ao Tryz.func114 GF (by simp only[am];rfl) fun hb hw=>?_;delta D9 oM oV kI kS kT kF;simp -dsimp -implicitDefEqProofs only[aw,aj,V.copy,V.cells,V.boxable,over,bc,aC,aF,V.plain,J2,eq_self,reduceIte,reduceCtorEq,JZ,J0,JY,J1,am,h.app];exact ac (v:=vex (ct op (some c) e)) hb (by rw[am];simp[At,cG,cS,ct,Ex.op,Ex.num,Ex.name,Ex.args,aT,aw,V.copy,V.lend,V.lend1,eq_self,reduceIte,J1]) (by rw[am];rfl) JI ⟨by rw[am],rfl⟩
theorem sU(nm:ByteArray)(b:Ex)(l:List It){j:Nat}(h:j<l.length):bU nm b (l.take (j+1))=bU nm b (l.take j)++[vF nm b l[j]]:=by
 rw[lh,lh,JU,JK h,JR];rfl
theorem xb(nm:ByteArray)(b:Ex)(l:List It):(bU nm b l).length=l.length:=by rw[lh,JO]
theorem lZ(nm:ByteArray)(b:Ex)(hb1:aA b≤1000000):∀l:List It,bu l≤1000000→∀σ,Fun G 115 [.d (de l),.d (al nm),vex b] σ (aO (.d (de (bU nm b l))) σ):=by
 refine fe fun l ih hs σ=>?_;have hln:=eV l;refine ao Tryz.func115 Hq (by simp only[am];rfl) fun hb hw=>?_;delta FR oM oV kI kS kT kF;simp -dsimp -implicitDefEqProofs only[aw,aj,V.copy,V.cells,V.boxable,eq_self,reduceIte,reduceCtorEq,JZ,J0,JY,J1,am];refine cU [1,5,7,10,11,12] (R:=fun(j:Nat) ρ σ'=>ρ=[(1,.d (al nm)),(5,.ptr σ.length 0),(7,.own 51 12 ((bU nm b (l.take j)).map dit)),(10,.d (de l)),(11,aL .i64 l.length),(12,aL .i64 j)]∧σ'=σ++[[.d (ah b.op),.d (ah b.num),.d (al b.name),.d (.sl (b.args.map dex))]]) l.length ⟨rfl,rfl⟩ ?_ _;rintro j ρ' σ' hj ⟨rfl,rfl⟩;by_cases hlt:j<l.length
 ·have hbig:=bI l[j];have hm:=cm (JL hlt);obtain⟨i1,i2⟩:=ih _ (JL hlt);have h0:=fun σ=>pq l[j].ex nm b (by omega) hb1 σ;simp only[am]at h0 i1 i2;simp -dsimp -implicitDefEqProofs only[aw,V.copy,V.lend,V.lend1,V.cells,V.boxable,over,J2,eq_self,reduceIte,JZ,J0,JY,J1,JH,hlt,decide_true,JK hlt,cr l[j]];refine ae (h0 _) ?_;simp -dsimp -implicitDefEqProofs only[aw,V.copy,V.lend,V.lend1,V.cells,V.boxable,over,J2,eq_self,reduceIte,JZ,J0,JY,J1];refine ae (i1 (by omega) _) ?_;simp -dsimp -implicitDefEqProofs only[aw,V.copy,V.lend,V.lend1,V.cells,V.boxable,over,J2,eq_self,reduceIte,JZ,J0,JY,J1]
  refine ae (i2 (by omega) _) ?_;simp -dsimp -implicitDefEqProofs only[aw,V.copy,V.cells,V.boxable,over,aC,aF,V.plain,J2,eq_self,reduceIte,JZ,J0,JY,J1];refine bt (by first|omega|(simp only[xb,JV]at *;omega)) ?_;simp -dsimp -implicitDefEqProofs only[aw,V.copy,eq_self,reduceIte,JZ,J0,JY,aH hlt (show l.length≤9223372036854775807 by omega)];refine⟨hlt,Nxt.drop1 (by simp) (an hb rfl) (by simp[aq,V.under]) ⟨?_,rfl⟩⟩;rw[sU nm b l hlt,JR];simp only[JP,JX,gg,cr (It.mk _ _ _ _ _ _ _ _ _),Bs,CL,B4,Dc,Cv,rz,zx,x9,zn]
 ·simp -dsimp -implicitDefEqProofs only[aw,V.copy,eq_self,reduceIte,JZ,J0,JY,JH,hlt,decide_false];rw[JM (by omega)];first|exact ac hb rfl rfl JJ ⟨rfl,rfl⟩|exact ac hb rfl rfl JI ⟨rfl,rfl⟩
theorem lJ(a:ByteArray)(k:Nat)(hk:k<8)(ha:a.size≤1000)(σ:List (List V)):Fun G 86 [.d (al a),.d (ah k)] σ (aO (vex (elE a k)) σ):=by
 refine ao Tryz.func86 k86 rfl fun hb hw=>?_;delta c86 oM oV kI kS kT kF;have w1:IntKind.i64.wrap (48+(k:Int))=((48+k:Nat):Int):=by rw[wrap_i64 (by omega) (by omega)];omega
 have w2:IntKind.u8.wrap ((48+k:Nat):Int)=((48+k:Nat):Int):=by simp[IntKind.wrap,IntKind.bits,IntKind.signed];omega
 simp -dsimp -implicitDefEqProofs only[aw,aj,V.copy,eq_self,reduceIte,reduceCtorEq,JZ,J0,JY];have e1:(a++⟨#[91]⟩:ByteArray).size=a.size+1:=by rw[ByteArray.size_append];rfl
 have e2:(a++⟨#[91]⟩++⟨#[(48+k).toUInt8]⟩:ByteArray).size=a.size+2:=by rw[ByteArray.size_append,e1];rfl
 have e3:(⟨#[(48+k).toUInt8]⟩:ByteArray).size=1:=rfl;have e4:(⟨#[93]⟩:ByteArray).size=1:=rfl;have e5:(⟨#[91]⟩:ByteArray).size=1:=rfl;have ec:∀σ,qm σ (.d (.sl [[.lit (.int .u8 ((48+k:Nat):Int))]]))=some (.d (al ⟨#[(48+k).toUInt8]⟩)):=fun σ=>rfl;rw[if_pos (by rw[e5];omega)];simp -dsimp -implicitDefEqProofs only[aw,V.copy,V.cells,aC,aF,V.plain,eq_self,reduceIte,reduceCtorEq,JZ,J0,JY,w1,w2,ec];rw[if_pos (by rw[e1,e3];omega)];simp -dsimp -implicitDefEqProofs only[aw,eq_self,reduceIte,reduceCtorEq,J0,JY];rw[if_pos (by rw[e2,e4];omega)];simp -dsimp -implicitDefEqProofs only[aw,V.copy,V.cells,V.boxable,over,bc,J2,eq_self,reduceIte,reduceCtorEq,JZ,J0,JY,J1]
 have:a++⟨#[91]⟩++⟨#[(48+k).toUInt8]⟩++⟨#[93]⟩=aB a k:=by
  unfold aB;apply ByteArray.ext;apply Array.ext';simp
 rw[this];exact ac (v:=vex (elE a k)) hb (by rw[am];simp[FL,cG,cS,elE,Ex.op,Ex.num,Ex.name,Ex.args,aw,V.copy,V.lend,V.lend1,eq_self,reduceIte,J1]) (by rw[am];rfl) JI ⟨rfl,rfl⟩
end Go.Proofs.YthoebpnbhgmoiaaGreatDoor
