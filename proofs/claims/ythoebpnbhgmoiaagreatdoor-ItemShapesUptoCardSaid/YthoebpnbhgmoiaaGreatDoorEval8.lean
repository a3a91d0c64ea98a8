import Derived.Test.YthoebpnbhgmoiaaGreatDoorOper8
import Derived.Test.YthoebpnbhgmoiaaGreatDoorBrief
import Derived.Test.YthoebpnbhgmoiaaGreatDoorIt6
set_option linter.unusedVariables false
set_option linter.unusedSimpArgs false
set_option linter.unusedSectionVars false
open Int renaming reduceEq→JH,ofNat_lt→JI
open List renaming take_length→JJ,take_left→JK,getElem?_eq_getElem→JL,getElem_mem→JM,take_of_length_le→JO,getElem_cons_zero→JP,getElem_cons_succ→JQ,map→JR
open Nat renaming reduceEqDiff→JS,reduceLT→JT,reduceBEq→JU,reduceLeDiff→JV,reduceAdd→JW
namespace Go.Proofs.YthoebpnbhgmoiaaGreatDoor
open Go.RowKit
theorem AN{env:List Sig}(h:V.Wf (.d (ey env))):∀j (hj:j<env.length),I64 env[j].val:=by
 intro j hj;unfold ey at h;cases h with
 | d h=>
 cases h with
 | sl _ hl h=>
 have:=h j 1 (by simpa using hj) (by simp);simp only[List.getElem_map,JQ,JP]at this;cases this with
 | lit _ hf=>simpa[I64,cR,IntKind.min,IntKind.max,IntKind.signed,IntKind.bits]using hf
theorem iZ(env:List Sig)(s:ByteArray)(σ:List (List V)):Fun G 129 [.d (ey env),.d (al s)] σ (aO (.tup [.d (ah ((bK env s).getD 0)),.d (.lit (.bool (bK env s).isSome))]) σ):=by
 refine ao Tryz.func129 JG rfl fun hb hw=>?_;have hvals:=AN (hw 0 (by simp));have hm:=zO (hw 0 (by simp));rw[List.length_map]at hm;delta GM oM oV kI kS kT kF;simp -dsimp -implicitDefEqProofs only[aw,aj,V.copy,eq_self,reduceIte,reduceCtorEq,JU,JT,JS,ey];refine bC (R:=fun(j:Nat) ρ σ'=>ρ=[(0,.d (ey env)),(1,.d (al s)),(6,aL .i64 j)]∧σ'=σ∧bK env s=bK (env.drop j) s) env.length ⟨rfl,rfl,rfl⟩ ?_ _;rintro j ρ' σ' hj ⟨rfl,rfl,hrec⟩;by_cases hlt:j<env.length
 ·have hst:bK (env.drop j) s=if env[j].name=s then some (env[j].val%65536)else bK (env.drop (j+1)) s:=by rw[List.drop_eq_getElem_cons hlt];rfl
  by_cases hs:env[j].name=s
  ·simp -dsimp -implicitDefEqProofs only[aw,V.copy,V.lend,JV,eq_self,reduceIte,reduceCtorEq,JU,JT,JS,JW,ey,JI,hlt,decide_true,JL hlt,decide_eq_true hs];refine ae (bR _ (hvals j hlt) _) ?_;simp -dsimp -implicitDefEqProofs only[aw,V.copy,eq_self,reduceIte,reduceCtorEq,JU,JT,JS];exact ac (v:=.tup _) hb rfl rfl JJ ⟨by rw[hrec,hst,if_pos hs];rfl,rfl⟩
  ·simp -dsimp -implicitDefEqProofs only[aw,V.copy,JV,eq_self,reduceIte,reduceCtorEq,JU,JT,JS,JW,ey,JI,hlt,decide_true,JL hlt,decide_eq_false hs,aH hlt hm];exact Nxt.same (by simp) hb rfl ⟨rfl,rfl,by rw[hrec,hst,if_neg hs]⟩
 ·simp -dsimp -implicitDefEqProofs only[aw,V.copy,eq_self,reduceIte,reduceCtorEq,JU,JT,JS,ey,JI,hlt,decide_false];exact ac (v:=.tup _) hb rfl rfl JJ ⟨by rw[hrec,List.drop_of_length_le (by omega)];rfl,rfl⟩
theorem wX(i:Nat)(hi:i<8):qf true 0 (V.d (D.lit (Value.string ⟨#[48,49,50,51,52,53,54,55,56,57]⟩))) (some (V.d (ah i))) (some (aL .i64 (IntKind.i64.wrap ((i:Int)+1))))=some (.d (al ⟨#[(48+i).toUInt8]⟩)):=by
 have:i=0∨i=1∨i=2∨i=3∨i=4∨i=5∨i=6∨i=7:=by omega
 rcases this with rfl|rfl|rfl|rfl|rfl|rfl|rfl|rfl<;>rfl
theorem xc(i:Nat)(hi:i<8)(σ:List (List V)):Fun G 95 [.d (ah i)] σ (aO (.d (al ⟨#[(48+i).toUInt8]⟩)) σ):=by
 refine ao Tryz.func95 k95 rfl fun hb hw=>?_;delta c95 oM oV kI kS kT kF;simp -dsimp -implicitDefEqProofs only[aw,aj,V.copy,eq_self,reduceIte,reduceCtorEq,JU,JT,JS,wX i hi];exact ac hb rfl rfl JJ ⟨rfl,rfl⟩
theorem gF(a:ByteArray)(h:a.size≤1000)(i:Nat)(hi:i<8)(σ:List (List V)):Fun G 55 [.d (al a),.d (ah i)] σ (aO (.d (al (aB a i))) σ):=by
 refine ao Tryz.func55 k55 rfl fun hb hw=>?_;delta c55 oM oV kI kS kT kF;simp -dsimp -implicitDefEqProofs only[aw,aj,V.copy,eq_self,reduceIte,reduceCtorEq,JU,JT,JS];rw[if_pos (by simp only[ByteArray.size,List.size_toArray,List.length_cons,List.length_nil]at h ⊢;omega)];simp -dsimp -implicitDefEqProofs only[aw,V.copy,V.lend,eq_self,reduceIte,reduceCtorEq,JT,JS];refine ae (xc i hi _) ?_;simp -dsimp -implicitDefEqProofs only[aw,eq_self,reduceIte,reduceCtorEq,JT,JS];have e1:(a++⟨#[91]⟩:ByteArray).size=a.size+1:=by rw[ByteArray.size_append];rfl
 have e2:(a++⟨#[91]⟩++⟨#[(48+i).toUInt8]⟩:ByteArray).size=a.size+2:=by rw[ByteArray.size_append,e1];rfl
 have e3:(⟨#[(48+i).toUInt8]⟩:ByteArray).size=1:=rfl;have e4:(⟨#[93]⟩:ByteArray).size=1:=rfl;rw[if_pos (by rw[e1,e3];omega)];simp -dsimp -implicitDefEqProofs only[aw,eq_self,reduceIte,reduceCtorEq,JT,JS];rw[if_pos (by rw[e2,e4];omega)];simp -dsimp -implicitDefEqProofs only[aw,V.copy,eq_self,reduceIte,reduceCtorEq,JU,JT,JS]
 exact ac hb rfl rfl JJ ⟨by
  have:a++⟨#[91]⟩++⟨#[(48+i).toUInt8]⟩++⟨#[93]⟩=aB a i:=by
   unfold aB;apply ByteArray.ext;apply Array.ext';simp
  rw[←this];rfl,rfl⟩
theorem jZ(env:List Sig)(a:ByteArray)(h:a.size≤1000)(i:Int)(σ:List (List V)):Fun G 130 [.d (ey env),.d (al a),.d (ah i)] σ (aO (.d (ah ((atS env a i).getD 0))) σ):=by
 refine ao Tryz.func130 JB rfl fun hb hw=>?_;delta FD oM oV kI kS kT kF;by_cases h1:i<0
 ·simp -dsimp -implicitDefEqProofs only[aw,aj,V.copy,V.lend,eq_self,reduceIte,reduceCtorEq,JU,JT,JS,JW,ey,decide_eq_true h1];exact ac hb rfl rfl JJ ⟨by unfold atS;rw[if_neg (by omega)];rfl,rfl⟩
 ·by_cases h2:8≤i
  ·simp -dsimp -implicitDefEqProofs only[aw,aj,V.copy,V.lend,cond_false,eq_self,reduceIte,reduceCtorEq,JU,JT,JS,JW,ey,decide_eq_false h1,decide_eq_true h2];exact ac hb rfl rfl JJ ⟨by unfold atS;rw[if_neg (by omega)];rfl,rfl⟩
  ·obtain⟨k,rfl⟩:=Int.eq_ofNat_of_zero_le (show 0≤i by omega);simp -dsimp -implicitDefEqProofs only[aw,aj,V.copy,V.lend,cond_false,eq_self,reduceIte,reduceCtorEq,JU,JT,JS,JW,decide_eq_false h1,decide_eq_false h2];refine ae (gF a h k (by omega) _) ?_;simp -dsimp -implicitDefEqProofs only[aw,V.lend,eq_self,reduceIte,reduceCtorEq,JT,JS];refine ae (iZ env _ _) ?_;simp -dsimp -implicitDefEqProofs only[aw,V.copy,eq_self,reduceIte,reduceCtorEq,JU,JT,JS];exact ac hb rfl rfl JJ ⟨by unfold atS;rw[if_pos (by omega)];rfl,rfl⟩
theorem wU(op:Int)(σ:List (List V)):Fun G 128 [.d (ah op)] σ (aO (.d (.lit (.bool (cf op)))) σ):=by
 refine ao Tryz.func128 Jo rfl fun hb hw=>?_;delta FF oM oV kI kS kT kF;by_cases h2:op=2
 ·simp -dsimp -implicitDefEqProofs only[aw,aj,V.copy,eq_self,reduceIte,reduceCtorEq,JU,JT,JS,decide_eq_true h2];exact ac hb rfl rfl JJ ⟨by unfold cf;rw[decide_eq_true h2];rfl,rfl⟩
 by_cases h3:op=3
 ·simp -dsimp -implicitDefEqProofs only[aw,aj,V.copy,cond_false,eq_self,reduceIte,reduceCtorEq,JU,JT,JS,decide_eq_false h2,decide_eq_true h3];exact ac hb rfl rfl JJ ⟨by unfold cf;rw[decide_eq_false h2,decide_eq_true h3];rfl,rfl⟩
 ·simp -dsimp -implicitDefEqProofs only[aw,aj,V.copy,cond_false,eq_self,reduceIte,reduceCtorEq,JU,JT,JS,decide_eq_false h2,decide_eq_false h3];exact ac hb rfl rfl JJ ⟨by unfold cf;rw[decide_eq_false h2,decide_eq_false h3];rfl,rfl⟩
theorem zG(op:Int)(σ:List (List V)):Fun G 96 [.d (ah op)] σ (aO (.d (.lit (.bool (decide (op=1)||cf op)))) σ):=by
 refine ao Tryz.func96 k96 rfl fun hb hw=>?_;delta c96 oM oV kI kS kT kF;by_cases h1:op=1
 ·simp -dsimp -implicitDefEqProofs only[aw,aj,V.copy,eq_self,reduceIte,reduceCtorEq,JU,JT,JS,decide_eq_true h1];exact ac hb rfl rfl JJ ⟨rfl,rfl⟩
 ·simp -dsimp -implicitDefEqProofs only[aw,aj,V.copy,V.lend,eq_self,reduceIte,reduceCtorEq,JU,JT,JS,decide_eq_false h1];refine ae (wU _ _) ?_;simp -dsimp -implicitDefEqProofs only[aw,V.copy,cond_false,eq_self,reduceIte,reduceCtorEq,JU,JT,JS];exact ac hb rfl rfl JJ ⟨by rw[decide_eq_false h1,Bool.false_or];rfl,rfl⟩
def iJ(env:List Sig)(o:Int)(s:ByteArray):Bool:=if o=2 then(bK env s).isSome else if o=3∨o=24 then(bK env (aB s 0)).isSome else true
def uE(env:List Sig)(o n:Int)(s:ByteArray)(vs:List Int):Int×Int:=if iJ env o s=true then(gz env o n s vs,0)else(0,7)
theorem ye(env:List Sig)(e:Ex)(vs:List Int)(ho:e.op=1∨e.op=2∨e.op=3∨e.op=24)(h3:e.op=3→vs.length=1)(hz:e.op=3∨e.op=24→e.name.size≤1000)(σ:List (List V)):
 Fun G 97 [vex e,.d (ey env),.d (.sl (vs.map fun x=>[ah x]))] σ (aO (.tup [.d (ah (uE env e.op e.num e.name vs).1),.d (ah (uE env e.op e.num e.name vs).2)]) σ):=by
 refine ao Tryz.func97 k97 (by simp only[am];rfl) fun hb hw=>?_;delta c97 oM oV kI kS kT kF;have fk:∀(b:Bool),iJ env e.op e.name=b→uE env e.op e.num e.name vs=if b=true then(gz env e.op e.num e.name vs,0)else(0,7):=fun b h=>by unfold uE;rw[h]
 rcases ho with ho|ho|ho|ho
 ·simp -dsimp -implicitDefEqProofs only[aw,aj,V.copy,V.cells,V.boxable,JV,eq_self,reduceIte,reduceCtorEq,JU,JT,JS,JW,am,ho,decide_true];exact ac (v:=.tup _) hb rfl rfl JK ⟨rfl,rfl⟩
 ·simp -dsimp -implicitDefEqProofs only[aw,aj,V.copy,V.lend,V.cells,V.boxable,JV,eq_self,reduceIte,reduceCtorEq,JU,JT,JS,JW,am,ho,JH,decide_true,decide_false];refine ae (iZ env _ _) ?_;have hk:iJ env e.op e.name=(bK env e.name).isSome:=by rw[ho];rfl
  have hr:=fk _ hk;cases hf:(bK env e.name).isSome with
  | true=>
   rw[hf]at hr;simp -dsimp -implicitDefEqProofs only[aw,V.copy,eq_self,reduceIte,JU,JT,JS];exact ac (v:=.tup _) hb rfl rfl JK ⟨by rw[hr,ho];rfl,rfl⟩
  | false=>
   rw[hf]at hr;simp -dsimp -implicitDefEqProofs only[aw,V.copy,eq_self,reduceIte,JU,JT,JS];exact ac (v:=.tup _) hb rfl rfl JK ⟨by rw[hr,ho];rfl,rfl⟩
 ·have hz':=hz (.inl ho)
  obtain⟨v,rfl⟩:∃v,vs=[v]:=by
   match vs,h3 ho with
   | [v],_=>exact⟨v,rfl⟩
  have e0:iaV 1 (V.d (D.sl [[ah v]])) (V.d (D.lit (Value.int IntKind.i64 0)))=some (.row [ah v] 0):=rfl;simp -dsimp -implicitDefEqProofs only[aw,aj,V.copy,V.lend,V.cells,V.boxable,JV,eq_self,reduceIte,reduceCtorEq,JU,JT,JS,JW,am,ho,JH,decide_false];refine ae (gF e.name hz' 0 (by decide) _) ?_;simp -dsimp -implicitDefEqProofs only[aw,V.lend,eq_self,reduceIte,JT,JS];refine ae (iZ env _ _) ?_;have hk:iJ env e.op e.name=(bK env (aB e.name 0)).isSome:=by rw[ho];rfl
  have hr:=fk _ hk;cases hf:(bK env (aB e.name 0)).isSome with
  | true=>
   rw[hf]at hr;simp -dsimp -implicitDefEqProofs only[aw,V.copy,V.lend,JV,eq_self,reduceIte,JU,JT,JS,JW,decide_true,e0];refine aZ (jZ env e.name hz' v _) ?_;simp -dsimp -implicitDefEqProofs only[aw,V.copy,eq_self,reduceIte,JU,JT,JS];exact ac (v:=.tup _) hb rfl rfl JK ⟨by rw[hr,ho];rfl,rfl⟩
  | false=>
   rw[hf]at hr;simp -dsimp -implicitDefEqProofs only[aw,V.copy,eq_self,reduceIte,JU,JT,JS];exact ac (v:=.tup _) hb rfl rfl JK ⟨by rw[hr,ho];rfl,rfl⟩
 ·have hz':=hz (.inr ho);simp -dsimp -implicitDefEqProofs only[aw,aj,V.copy,V.lend,V.cells,V.boxable,JV,eq_self,reduceIte,reduceCtorEq,JU,JT,JS,JW,am,ho,JH,decide_false];refine ae (gF e.name hz' 0 (by decide) _) ?_;simp -dsimp -implicitDefEqProofs only[aw,V.lend,eq_self,reduceIte,JT,JS];refine ae (iZ env _ _) ?_;have hk:iJ env e.op e.name=(bK env (aB e.name 0)).isSome:=by rw[ho];rfl
  have hr:=fk _ hk;cases hf:(bK env (aB e.name 0)).isSome with
  | true=>
   rw[hf]at hr;simp -dsimp -implicitDefEqProofs only[aw,V.copy,JV,eq_self,reduceIte,JU,JT,JS,JW,JH,decide_false];refine bC (R:=fun(k:Nat) ρ σ'=>ρ=[(1,.d (ey env)),(3,.ptr σ.length 0),(12,aL .i64 (fZ env e.name k)),(13,aL .i64 k)]∧σ'=σ++[[V.d (ah 24),V.d (ah e.num),V.d (al e.name),V.d (D.sl (JR dex e.args))]]) 8 ⟨rfl,rfl⟩ ?_ _;rintro k ρ' σ' hk8 ⟨rfl,rfl⟩;by_cases hlt:k<8
   ·have hat:(atS env e.name k).getD 0=(bK env (aB e.name k)).getD 0:=by unfold atS;rw[if_pos (by omega)];rfl
    have b1:=nR env e.name k;have b2:=qh env (aB e.name k);unfold Wd at b1 b2;simp -dsimp -implicitDefEqProofs only[aw,V.copy,V.lend,JV,eq_self,reduceIte,JU,JT,JS,JW,decide_eq_true (show(k:Int)<8 by omega)];refine ae (jZ env e.name hz' k _) ?_;rw[hat];simp -dsimp -implicitDefEqProofs only[aw,V.lend,eq_self,reduceIte,JT,JS];refine ae (oQ _ _ ⟨by omega,by omega⟩ ⟨by omega,by omega⟩ _) ?_;simp -dsimp -implicitDefEqProofs only[aw,V.copy,eq_self,reduceIte,JU,JT,JS,aH hlt (show 8≤9223372036854775807 by omega)];exact⟨hlt,Nxt.same (by simp) (an hb rfl) (by simp[aq,V.under]) ⟨rfl,rfl⟩⟩
   ·have hje:k=8:=by omega
    subst hje;simp -dsimp -implicitDefEqProofs only[aw,V.copy,eq_self,reduceIte,JU,JT,JS,decide_eq_false (show ¬((8:Nat):Int)<8 by omega)];exact ac (v:=.tup _) hb rfl rfl JK ⟨by rw[hr,ho];rfl,rfl⟩
  | false=>
   rw[hf]at hr;simp -dsimp -implicitDefEqProofs only[aw,V.copy,eq_self,reduceIte,JU,JT,JS];exact ac (v:=.tup _) hb rfl rfl JK ⟨by rw[hr,ho];rfl,rfl⟩
mutual
def kB(env:List Sig):Ex→Bool
 | .mk o _ s l=>kBs env l&&iJ env o s
def kBs(env:List Sig):List Ex→Bool
 | []=>true
 | a::r=>kB env a&&kBs env r
end
theorem xT(env:List Sig)(e:Ex):kB env e=jw env e:=by
 rw[Bool.eq_iff_iff,iW]
 induction e using Ex.ind with
 | h o m s l ih=>
 have hL:∀(r:List Ex),(∀a,a∈r→a∈l)→(kBs env r=true↔fU [2] (fun s=>(bK env s).isSome=true) r∧fU [3,24] (fun s=>(bK env (aB s 0)).isSome=true) r):=by
  intro r
  induction r with
  | nil=>intro _;simp[kBs,fU]
  | cons a r ihr=>
   intro hm;simp only[kBs,fU,Bool.and_eq_true];rw[ih a (hm a (by simp)),ihr (fun x hx=>hm x (by simp[hx]))];constructor
   ·rintro⟨⟨h1,h2⟩,h3,h4⟩;exact⟨⟨h1,h3⟩,h2,h4⟩
   ·rintro⟨⟨h1,h3⟩,h2,h4⟩;exact⟨⟨h1,h2⟩,h3,h4⟩
 simp only[kB,eM,Bool.and_eq_true];rw[hL l (fun _ h=>h)]
 have hk:iJ env o s=true↔(o∈[2]→(bK env s).isSome=true)∧(o∈[3,24]→(bK env (aB s 0)).isSome=true):=by
  unfold iJ;simp only[List.mem_cons,List.not_mem_nil,or_false];by_cases h2:o=2
  ·simp[h2]
  ·by_cases h3:o=3∨o=24
   ·simp[h2,h3]
   ·simp[h2,h3]
 rw[hk];constructor
 ·rintro⟨⟨h1,h2⟩,h3,h4⟩;exact⟨⟨h3,h1⟩,h4,h2⟩
 ·rintro⟨⟨h3,h1⟩,h4,h2⟩;exact⟨⟨h1,h2⟩,h3,h4⟩
theorem rt(env:List Sig):∀(l:List Ex) (j:Nat) (h:j<l.length),kBs env (l.take (j+1))=(kBs env (l.take j)&&kB env l[j])
 | a::r,0,_=>by simp[kBs]
 | a::r,j+1,h=>by
  have:=rt env r j (by simpa using h);simp only[List.take_succ_cons,kBs,JQ,this,Bool.and_assoc]
theorem pf(env:List Sig):∀(l:List Ex) (j:Nat) (h:j<l.length),kB env l[j]=false→kBs env l=false
 | a::r,0,_,hf=>by simp only[JP]at hf;simp[kBs,hf]
 | a::r,j+1,h,hf=>by
  have:=pf env r j (by simpa using h) (by simpa using hf);simp[kBs,this]
def m7(env:List Sig)(e:Ex):Int×Int:=if kB env e=true then(cJ env e,0)else(0,7)
theorem vY(env:List Sig)(e:Ex):ed e=0→aA e≤1000000→∀σ,Fun G 57 [vex e,.d (ey env)] σ (aO (.tup [.d (ah (m7 env e).1),.d (ah (m7 env e).2)]) σ):=by
 induction e using Ex.ind with
 | h o n s l ih=>
 intro he hz σ;obtain⟨hnode,herl⟩:=fE he;obtain⟨o1,o25,-,hop,hvar,hname,-,-⟩:=kK hnode;have hmem:=fg herl;have hll:l.length≤1000000:=by have:=hZ l;simp only[aA]at hz;omega
 have hsz:∀a,a∈l→aA a≤1000000:=by
  intro a ha
  have:∀(r:List Ex),a∈r→aA a≤aG r:=by
   intro r
   induction r with
   | nil=>intro h;cases h
   | cons b r ihr=>
    intro h;simp only[aG];rcases List.mem_cons.1 h with rfl|h
    ·omega
    ·have:=ihr h;omega
  have:=this l ha;simp only[aA]at hz;omega
 have hq:m7 env (.mk o n s l)=if(kBs env l&&iJ env o s)=true then(gz env o n s (dv env l),0)else(0,7):=by
  unfold m7;rw[kB,cJ]
 refine ao Tryz.func57 k57 (by simp only[am];rfl) fun hb hw=>?_;delta c57 oM oV kI kS kT kF;simp -dsimp -implicitDefEqProofs only[aw,aj,V.copy,V.cells,V.boxable,eq_self,reduceIte,reduceCtorEq,JU,JT,JS,am];simp only[Ex.op,Ex.num,Ex.name,Ex.args];generalize hτ:σ++[[V.d (ah o),V.d (ah n),V.d (al s),V.d (D.sl (JR dex l))]]=τ;refine bC (R:=fun(j:Nat) ρ σ'=>ρ=[(1,.d (ey env)),(2,.ptr σ.length 0),(6,.own 3 1 ((dv env (l.take j)).map fun x=>[ah x])),(7,aL .i64 j)]∧σ'=τ∧kBs env (l.take j)=true) l.length ⟨rfl,rfl,by simp[kBs]⟩ ?_ _;rintro j ρ' σ' hj ⟨rfl,rfl,hrec⟩;subst hτ;by_cases hlt:j<l.length
 ·simp -dsimp -implicitDefEqProofs only[aw,V.copy,V.lend,V.lend1,JV,eq_self,reduceIte,JU,JT,JS,JW,JI,hlt,decide_true,JL hlt,aT];refine ae (by simpa only[am]using ih l[j] (JM hlt) (hmem _ (JM hlt)) (hsz _ (JM hlt)) _) ?_;unfold m7;cases hk:kB env l[j]with
  | true=>
   have hvl:=rH env (l.take j);rw[List.length_take]at hvl;simp -dsimp -implicitDefEqProofs only[aw,V.copy,V.cells,aC,aF,V.plain,eq_self,reduceIte,JU,JT,JS,if_true,decide_true];refine bt (by omega) ?_;simp -dsimp -implicitDefEqProofs only[aw,V.copy,eq_self,reduceIte,JU,JT,JS,aH hlt (show l.length≤9223372036854775807 by omega)];refine⟨hlt,Nxt.same (by simp) (an hb rfl) (by simp[aq,V.under]) ⟨?_,rfl,?_⟩⟩
   ·have ht:l.take (j+1)=l.take j++[l[j]]:=by rw[List.take_add_one,JL hlt];rfl
    have hv:dv env (l.take j++[l[j]])=dv env (l.take j)++[cJ env l[j]]:=by
     generalize l.take j=r
     induction r with
     | nil=>rfl
     | cons a r ihr=>simp only[List.cons_append,dv,ihr]
    rw[ht,hv,List.map_append];rfl
   ·rw[rt env l j hlt,hrec,hk];rfl
  | false=>
   simp -dsimp -implicitDefEqProofs only[aw,V.copy,eq_self,reduceIte,JU,JT,JS,JH,decide_false];refine ac (v:=.tup _) hb rfl rfl JK ⟨?_,rfl⟩;rw[show kB env (Ex.mk o n s l)=false by rw[kB,pf env l j hlt hk];rfl];rfl
 ·rw[JO (show l.length≤j by omega)]at hrec;rw[JO (show l.length≤j by omega)];have hvl:=rH env l;have hwd:=Ce env l herl;simp -dsimp -implicitDefEqProofs only[aw,V.copy,V.lend,JV,eq_self,reduceIte,JU,JT,JS,JW,JI,hlt,decide_false];refine ae (zG o _) ?_;by_cases hlf:o=1∨o=2∨o=3∨o=24
  ·have has:(decide (o=1)||cf o)=true:=by rcases hlf with rfl|rfl|rfl|rfl<;>rfl
   rw[has];simp -dsimp -implicitDefEqProofs only[aw,V.copy,V.lend,V.lend1,JV,eq_self,reduceIte,JU,JT,JS,JW]
   have c3:o=3→(dv env l).length=1:=by
    rintro rfl;rw[hvl];have h3:cY 3 l.length=true:=hop;have:eI 3=1:=by decide
    simp only[cY]at h3;rw[if_neg (by decide)]at h3;simp only[decide_eq_true_eq]at h3;omega
   have cz:o=3∨o=24→s.size≤1000:=fun h=>by have:=dC (hname h);omega
   refine ae (by simpa only[am,Ex.op,Ex.num,Ex.name,Ex.args]using ye env (.mk o n s l) (dv env l) hlf c3 cz _) ?_;simp -dsimp -implicitDefEqProofs only[aw,V.copy,eq_self,reduceIte,JU,JT,JS];refine ac (v:=.tup _) hb rfl rfl JK ⟨?_,rfl⟩;rw[hq,hrec,Bool.true_and];rfl
  ·have hn:¬o=1∧¬o=2∧¬o=3∧¬o=24:=by omega
   obtain⟨n1,n2,n3,n24⟩:=hn;have has:(decide (o=1)||cf o)=false:=by unfold cf;simp[n1,n2,n3,n24]
   rw[has];simp -dsimp -implicitDefEqProofs only[aw,V.copy,V.lend,JV,eq_self,reduceIte,JU,JT,JS,JW];refine ae (rS o (dv env l) (by rw[hvl];exact hop) o1 o25 n1 n2 n3 n24 hwd _) ?_;simp -dsimp -implicitDefEqProofs only[aw,V.copy,eq_self,reduceIte,JU,JT,JS];refine ac (v:=.tup _) hb rfl rfl JK ⟨?_,rfl⟩;have hlk:iJ env o s=true:=by unfold iJ;rw[if_neg n2,if_neg (by omega)]
   have hls:gz env o n s (dv env l)=kz o (dv env l):=by unfold gz;rw[if_neg n1,if_neg n2,if_neg n3,if_neg n24]
   rw[hq,hrec,hlk,hls];rfl
theorem oR(e:Ex)(env:List Sig)(hs:aA e≤1000000)(hd:bM e≤999999)(σ:List (List V)):Fun G 25 [vex e,.d (ey env)] σ (aO (.tup [.d (ah (ii e env).1),.d (ah (ii e env).2)]) σ):=by
 refine ao Tryz.func25 k25 (by simp only[am];rfl) fun hb hw=>?_;delta c25 oM oV kI kS kT kF;simp -dsimp -implicitDefEqProofs only[aw,aj,V.copy,V.lend,V.lend1,V.cells,V.boxable,JV,eq_self,reduceIte,reduceCtorEq,JU,JT,JS,JW,am];refine ae (by simpa only[am]using hY e hs hd _) ?_;by_cases hv:aX e=0
 ·have hq:ii e env=m7 env e:=by unfold ii m7;rw[if_pos hv,xT]
  simp -dsimp -implicitDefEqProofs only[aw,V.copy,V.lend,V.lend1,JV,eq_self,reduceIte,JU,JT,JS,JW,decide_eq_true hv];refine ae (by simpa only[am]using vY env e (cw hv) hs _) ?_;simp -dsimp -implicitDefEqProofs only[aw,V.copy,eq_self,reduceIte,JU,JT,JS];exact ac (v:=.tup _) hb rfl rfl JK ⟨by rw[hq];rfl,rfl⟩
 ·have hq:ii e env=(0,1):=by unfold ii;rw[if_neg hv]
  simp -dsimp -implicitDefEqProofs only[aw,V.copy,eq_self,reduceIte,JU,JT,JS,decide_eq_false hv];exact ac (v:=.tup _) hb rfl rfl JK ⟨by rw[hq];rfl,rfl⟩
end Go.Proofs.YthoebpnbhgmoiaaGreatDoor
