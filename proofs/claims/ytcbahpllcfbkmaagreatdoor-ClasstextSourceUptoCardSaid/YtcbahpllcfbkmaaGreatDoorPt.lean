import Derived.Test.YtcbahpllcfbkmaaGreatDoorIwk
import Derived.Test.YtcbahpllcfbkmaaGreatDoorIt1
import Derived.Test.YtcbahpllcfbkmaaGreatDoorSha
import Derived.Test.YtcbahpllcfbkmaaGreatDoorBl2
import Derived.Test.YtcbahpllcfbkmaaGreatDoorToks7
import Derived.Test.YtcbahpllcfbkmaaGreatDoorSpan
import Derived.Test.YtcbahpllcfbkmaaGreatDoorData
import Derived.Test.YtcbahpllcfbkmaaGreatDoorNames2
set_option linter.unusedVariables false
set_option linter.unusedSimpArgs false
set_option linter.unusedSectionVars false
namespace Go.Proofs.YtcbahpllcfbkmaaGreatDoor
open Go.RowKit
theorem xg:BM fun x _ _=>eJ x≤1200000:=by
 intro x d bd h;have hb:=bU x;exact⟨fun y hy=>by have:=dh hy;omega,fun y hy=>by have:=dh hy;omega⟩
theorem sj(σ:List (List V))(hb:aC σ.length σ=true):Vst (fun(_:Unit) x d bd=>(pT x d bd,())) (fun x _ _=>eJ x≤1200000) (.fn 58 []) (fun _ τ=>τ=σ) σ.length where
 len:=fun s τ h=>by rw[h]
 bb:=fun s τ h=>by rw[h];exact hb
 und:=rfl
 val:=.inl ⟨_,_,rfl⟩
 call:=fun s τ x d bd h hp l=>by
  subst h;exact(tu x d bd hp (τ++l)).mono fun o σ' ⟨e1,e2⟩=>⟨τ,rfl,e2,e1⟩
theorem qc(l:List It)(hl:bG l≤1100000)(σ:List (List V)):Fun G 38 [.d (eO l)] σ (aN (.d (ay (d8 l))) σ):=by
 refine aq Tryz.func38 k38 rfl fun hb hw=>?_;unfold c38 d8;simp -dsimp -implicitDefEqProofs only[aw,ah,V.copy,V.lend,V.lend1,V.cells,V.boxable,over,al,ae,ac,ai,V.plain,Nat.reduceLeDiff,cond_true,cond_false,implies_true,eq_self,ne_eq,reduceIte,reduceCtorEq,Nat.reduceBEq,Nat.reduceLT,Nat.reduceEqDiff,Nat.reduceAdd,Nat.reduceSub,Nat.reduceMul];refine am (ts l (by have:=rI l;omega) _) ?_;by_cases h:64<ci l
 ·have h':(64:Int)<(ci l:Int):=by omega
  rw[if_pos h];simp -dsimp -implicitDefEqProofs only[aw,ah,V.copy,V.lend,V.lend1,V.cells,V.boxable,over,al,ae,ac,ai,V.plain,Nat.reduceLeDiff,cond_true,cond_false,implies_true,eq_self,ne_eq,reduceIte,reduceCtorEq,Nat.reduceBEq,Nat.reduceLT,Nat.reduceEqDiff,Nat.reduceAdd,Nat.reduceSub,Nat.reduceMul,decide_eq_true h'];first|exact aj hb rfl rfl List.take_length ⟨rfl,rfl⟩|exact aj hb rfl rfl List.take_left ⟨rfl,rfl⟩|(trace_state;fail "fin")
 ·have h':¬(64:Int)<(ci l:Int):=by omega
  rw[if_neg h];simp -dsimp -implicitDefEqProofs only[aw,ah,V.copy,V.lend,V.lend1,V.cells,V.boxable,over,al,ae,ac,ai,V.plain,Nat.reduceLeDiff,cond_true,cond_false,implies_true,eq_self,ne_eq,reduceIte,reduceCtorEq,Nat.reduceBEq,Nat.reduceLT,Nat.reduceEqDiff,Nat.reduceAdd,Nat.reduceSub,Nat.reduceMul,decide_eq_false h'];have:=ww _ _ xg _ l (by omega) 0 [] _ _ (sj σ hb) (fun x hx=>by have:=dh hx;omega) (by omega) (by simp;omega) () σ rfl;refine eQ this ?_;rintro o σ' ⟨τ,rfl,rfl,rfl⟩;rw[dK,List.append_nil];have e:(wks (fun(_:Unit) x d bd=>(pT x d bd,())) l 0 [] ()).1=rvl l 0:=qf l 0 [];rw[e]
  simp -dsimp -implicitDefEqProofs only[aw,ah,V.copy,V.lend,V.lend1,V.cells,V.boxable,over,al,ae,ac,ai,V.plain,Nat.reduceLeDiff,cond_true,cond_false,implies_true,eq_self,ne_eq,reduceIte,reduceCtorEq,Nat.reduceBEq,Nat.reduceLT,Nat.reduceEqDiff,Nat.reduceAdd,Nat.reduceSub,Nat.reduceMul];first|exact aj hb rfl rfl List.take_length ⟨rfl,rfl⟩|exact aj hb rfl rfl List.take_left ⟨rfl,rfl⟩|(trace_state;fail "fin")
theorem jX(c:Int)(σ:List (List V)):Fun G 78 [.d (.lit (.int .u8 c))] σ (aN (.d (.lit (.bool (ea c)))) σ):=by
 refine aq Tryz.func78 k78 rfl fun hb hw=>?_;unfold c78 ea;by_cases h1:97≤c<;>by_cases h2:c≤122
 all_goals
  simp -dsimp -implicitDefEqProofs only[aw,ah,V.copy,V.lend,V.lend1,V.cells,V.boxable,over,al,ae,ac,ai,V.plain,Nat.reduceLeDiff,cond_true,cond_false,implies_true,eq_self,ne_eq,reduceIte,reduceCtorEq,Nat.reduceBEq,Nat.reduceLT,Nat.reduceEqDiff,Nat.reduceAdd,Nat.reduceSub,Nat.reduceMul,h1,h2,decide_true,decide_false];first|exact aj hb rfl rfl List.take_length ⟨rfl,rfl⟩
theorem o9(c:Int)(σ:List (List V)):Fun G 113 [.d (.lit (.int .u8 c))] σ (aN (.d (.lit (.bool (gE c)))) σ):=by
 refine aq Tryz.func113 EW rfl fun hb hw=>?_;unfold Dt gE;by_cases h1:48≤c<;>by_cases h2:c≤57
 all_goals
  simp -dsimp -implicitDefEqProofs only[aw,ah,V.copy,V.lend,V.lend1,V.cells,V.boxable,over,al,ae,ac,ai,V.plain,Nat.reduceLeDiff,cond_true,cond_false,implies_true,eq_self,ne_eq,reduceIte,reduceCtorEq,Nat.reduceBEq,Nat.reduceLT,Nat.reduceEqDiff,Nat.reduceAdd,Nat.reduceSub,Nat.reduceMul,h1,h2,decide_true,decide_false];first|exact aj hb rfl rfl List.take_length ⟨rfl,rfl⟩
theorem oT(c:Int)(σ:List (List V)):Fun G 80 [.d (.lit (.int .u8 c))] σ (aN (.d (.lit (.bool (dI c)))) σ):=by
 refine aq Tryz.func80 k80 rfl fun hb hw=>?_;unfold c80 dI;simp -dsimp -implicitDefEqProofs only[aw,ah,V.copy,V.lend,V.lend1,V.cells,V.boxable,over,al,ae,ac,ai,V.plain,Nat.reduceLeDiff,cond_true,cond_false,implies_true,eq_self,ne_eq,reduceIte,reduceCtorEq,Nat.reduceBEq,Nat.reduceLT,Nat.reduceEqDiff,Nat.reduceAdd,Nat.reduceSub,Nat.reduceMul];refine am (jX c _) ?_;cases ea c with
 | true=>
  simp -dsimp -implicitDefEqProofs only[aw,ah,V.copy,V.lend,V.lend1,V.cells,V.boxable,over,al,ae,ac,ai,V.plain,Nat.reduceLeDiff,cond_true,cond_false,implies_true,eq_self,ne_eq,reduceIte,reduceCtorEq,Nat.reduceBEq,Nat.reduceLT,Nat.reduceEqDiff,Nat.reduceAdd,Nat.reduceSub,Nat.reduceMul];exact aj hb rfl rfl List.take_length ⟨rfl,rfl⟩
 | false=>
  simp -dsimp -implicitDefEqProofs only[aw,ah,V.copy,V.lend,V.lend1,V.cells,V.boxable,over,al,ae,ac,ai,V.plain,Nat.reduceLeDiff,cond_true,cond_false,implies_true,eq_self,ne_eq,reduceIte,reduceCtorEq,Nat.reduceBEq,Nat.reduceLT,Nat.reduceEqDiff,Nat.reduceAdd,Nat.reduceSub,Nat.reduceMul];refine am (o9 c _) ?_;cases gE c with
  | true=>
   simp -dsimp -implicitDefEqProofs only[aw,ah,V.copy,V.lend,V.lend1,V.cells,V.boxable,over,al,ae,ac,ai,V.plain,Nat.reduceLeDiff,cond_true,cond_false,implies_true,eq_self,ne_eq,reduceIte,reduceCtorEq,Nat.reduceBEq,Nat.reduceLT,Nat.reduceEqDiff,Nat.reduceAdd,Nat.reduceSub,Nat.reduceMul];exact aj hb rfl rfl List.take_length ⟨rfl,rfl⟩
  | false=>
   unfold nH;cases e1:decide (65≤c)<;>cases e2:decide (c≤90)<;>cases e3:decide (c=95)
   all_goals
    simp -dsimp -implicitDefEqProofs only[aw,ah,V.copy,V.lend,V.lend1,V.cells,V.boxable,over,al,ae,ac,ai,V.plain,Nat.reduceLeDiff,cond_true,cond_false,implies_true,eq_self,ne_eq,reduceIte,reduceCtorEq,Nat.reduceBEq,Nat.reduceLT,Nat.reduceEqDiff,Nat.reduceAdd,Nat.reduceSub,Nat.reduceMul,e1,e2,e3];first|exact aj hb rfl rfl List.take_length ⟨rfl,rfl⟩
theorem sB(l:List ByteArray)(s:ByteArray)(hl:l.length≤1200000)(σ:List (List V)):Fun G 111 [.d (bX l),.d (ak s)] σ (aN (.d (.lit (.bool (inB s l)))) σ):=by
 refine aq Tryz.func111 EX rfl fun hb hw=>?_;unfold CG;simp -dsimp -implicitDefEqProofs only[aw,ah,V.copy,V.lend,V.lend1,V.cells,V.boxable,over,al,ae,ac,ai,V.plain,Nat.reduceLeDiff,cond_true,cond_false,implies_true,eq_self,ne_eq,reduceIte,reduceCtorEq,Nat.reduceBEq,Nat.reduceLT,Nat.reduceEqDiff,Nat.reduceAdd,Nat.reduceSub,Nat.reduceMul];refine iZ (R:=fun(j:Nat) ρ σ'=>ρ=[(0,.d (bX l)),(1,.d (ak s)),(5,aK .i64 j)]∧σ'=σ∧inB s l=inB s (l.drop j)) l.length ⟨rfl,rfl,rfl⟩ ?_ _;rintro j ρ' σ' hj ⟨rfl,rfl,hr⟩;by_cases hlt:j<l.length
 ·have hd:inB s (l.drop j)=(decide (l[j]=s)||inB s (l.drop (j+1))):=by rw[List.drop_eq_getElem_cons hlt];rfl
  by_cases he:l[j]=s
  ·simp -dsimp -implicitDefEqProofs only[aw,ah,V.copy,V.lend,V.lend1,V.cells,V.boxable,over,al,ae,ac,ai,V.plain,Nat.reduceLeDiff,cond_true,cond_false,implies_true,eq_self,ne_eq,reduceIte,reduceCtorEq,Nat.reduceBEq,Nat.reduceLT,Nat.reduceEqDiff,Nat.reduceAdd,Nat.reduceSub,Nat.reduceMul,bX,Int.ofNat_lt,hlt,decide_true,List.getElem?_eq_getElem hlt,decide_eq_true he];rw[hd,decide_eq_true he]at hr;exact aj hb rfl rfl List.take_length ⟨by rw[hr];rfl,rfl⟩
  ·simp -dsimp -implicitDefEqProofs only[aw,ah,V.copy,V.lend,V.lend1,V.cells,V.boxable,over,al,ae,ac,ai,V.plain,Nat.reduceLeDiff,cond_true,cond_false,implies_true,eq_self,ne_eq,reduceIte,reduceCtorEq,Nat.reduceBEq,Nat.reduceLT,Nat.reduceEqDiff,Nat.reduceAdd,Nat.reduceSub,Nat.reduceMul,bX,Int.ofNat_lt,hlt,decide_true,List.getElem?_eq_getElem hlt,decide_eq_false he,aJ hlt (show l.length≤9223372036854775807 by omega)];rw[hd,decide_eq_false he,Bool.false_or]at hr;exact Nxt.same (Nat.le_refl _) hb rfl ⟨rfl,rfl,hr⟩
 ·simp -dsimp -implicitDefEqProofs only[aw,ah,V.copy,V.lend,V.lend1,V.cells,V.boxable,over,al,ae,ac,ai,V.plain,Nat.reduceLeDiff,cond_true,cond_false,implies_true,eq_self,ne_eq,reduceIte,reduceCtorEq,Nat.reduceBEq,Nat.reduceLT,Nat.reduceEqDiff,Nat.reduceAdd,Nat.reduceSub,Nat.reduceMul,bX,Int.ofNat_lt,hlt,decide_false];rw[List.drop_eq_nil_of_le (by omega)]at hr;exact aj hb rfl rfl List.take_length ⟨by rw[hr];rfl,rfl⟩
theorem lP(σ:List (List V)):Fun G 112 [] σ (aN (.d (bX cE)) σ):=by
 refine aq Tryz.func112 Fo rfl fun hb hw=>?_;unfold BV;simp -dsimp -implicitDefEqProofs only[aw,ah,V.copy,V.lend,V.lend1,V.cells,V.boxable,over,al,ae,ac,ai,V.plain,Nat.reduceLeDiff,cond_true,cond_false,implies_true,eq_self,ne_eq,reduceIte,reduceCtorEq,Nat.reduceBEq,Nat.reduceLT,Nat.reduceEqDiff,Nat.reduceAdd,Nat.reduceSub,Nat.reduceMul];exact aj hb rfl rfl List.take_length ⟨rfl,rfl⟩
theorem pM(s:ByteArray)(σ:List (List V)):Fun G 79 [.d (ak s)] σ (aN (.d (.lit (.bool (inB s cE)))) σ):=by
 refine aq Tryz.func79 k79 rfl fun hb hw=>?_;unfold c79;simp -dsimp -implicitDefEqProofs only[aw,ah,V.copy,V.lend,V.lend1,V.cells,V.boxable,over,al,ae,ac,ai,V.plain,Nat.reduceLeDiff,cond_true,cond_false,implies_true,eq_self,ne_eq,reduceIte,reduceCtorEq,Nat.reduceBEq,Nat.reduceLT,Nat.reduceEqDiff,Nat.reduceAdd,Nat.reduceSub,Nat.reduceMul];refine am (lP _) ?_;simp -dsimp -implicitDefEqProofs only[aw,ah,V.copy,V.lend,V.lend1,V.cells,V.boxable,over,al,ae,ac,ai,V.plain,Nat.reduceLeDiff,cond_true,cond_false,implies_true,eq_self,ne_eq,reduceIte,reduceCtorEq,Nat.reduceBEq,Nat.reduceLT,Nat.reduceEqDiff,Nat.reduceAdd,Nat.reduceSub,Nat.reduceMul];refine am (sB cE s (by decide) _) ?_
 simp -dsimp -implicitDefEqProofs only[aw,ah,V.copy,V.lend,V.lend1,V.cells,V.boxable,over,al,ae,ac,ai,V.plain,Nat.reduceLeDiff,cond_true,cond_false,implies_true,eq_self,ne_eq,reduceIte,reduceCtorEq,Nat.reduceBEq,Nat.reduceLT,Nat.reduceEqDiff,Nat.reduceAdd,Nat.reduceSub,Nat.reduceMul];exact aj hb rfl rfl List.take_length ⟨rfl,rfl⟩
theorem nz(l:Bs)(σ:List (List V)):Fun G 51 [.d (ak (bs l))] σ (aN (.d (.lit (.bool (aQ (bs l))))) σ):=by
 have hnm:aQ (bs l)=(fG l&&decide (l.length≤16) && !inB (bs l) cE):=by unfold aQ dX;rw[aY,bR]
 rw[hnm];refine aq Tryz.func51 k51 rfl fun hb hw=>?_;unfold c51
 match l with
 | []=>
  simp -dsimp -implicitDefEqProofs only[aw,ah,V.copy,V.lend,V.lend1,V.cells,V.boxable,over,al,ae,ac,ai,V.plain,Nat.reduceLeDiff,cond_true,cond_false,implies_true,eq_self,ne_eq,reduceIte,reduceCtorEq,Nat.reduceBEq,Nat.reduceLT,Nat.reduceEqDiff,Nat.reduceAdd,Nat.reduceSub,Nat.reduceMul,cv];first|exact aj hb rfl rfl List.take_length ⟨rfl,rfl⟩|exact aj hb rfl rfl List.take_left ⟨rfl,rfl⟩|(trace_state;fail "fin")
 | c::r=>
  obtain⟨l,hl⟩:∃l,l=c::r:=⟨_,rfl⟩
  have hnil:=Ar c r;have hix:=yw c r;have hwl:fG (c::r)=(ea c.toNat&&(c::r).all inn):=rfl;rw[hwl];rw[←hl]at hnil hix ⊢;by_cases h16:l.length≤16
  ·have h16':¬(16:Int)<((l.length:Nat):Int):=by omega
   simp -dsimp -implicitDefEqProofs only[aw,ah,V.copy,V.lend,V.lend1,V.cells,V.boxable,over,al,ae,ac,ai,V.plain,Nat.reduceLeDiff,cond_true,cond_false,implies_true,eq_self,ne_eq,reduceIte,reduceCtorEq,Nat.reduceBEq,Nat.reduceLT,Nat.reduceEqDiff,Nat.reduceAdd,Nat.reduceSub,Nat.reduceMul,hnil,bR,decide_eq_false h16',hix];refine am (jX _ _) ?_;rw[decide_eq_true h16,Bool.and_true];cases hlow:ea c.toNat with
   | false=>
    simp -dsimp -implicitDefEqProofs only[aw,ah,V.copy,V.lend,V.lend1,V.cells,V.boxable,over,al,ae,ac,ai,V.plain,Nat.reduceLeDiff,cond_true,cond_false,implies_true,eq_self,ne_eq,reduceIte,reduceCtorEq,Nat.reduceBEq,Nat.reduceLT,Nat.reduceEqDiff,Nat.reduceAdd,Nat.reduceSub,Nat.reduceMul];first|exact aj hb rfl rfl List.take_length ⟨rfl,rfl⟩|exact aj hb rfl rfl List.take_left ⟨rfl,rfl⟩|(trace_state;fail "fin")
   | true=>
    simp -dsimp -implicitDefEqProofs only[aw,ah,V.copy,V.lend,V.lend1,V.cells,V.boxable,over,al,ae,ac,ai,V.plain,Nat.reduceLeDiff,cond_true,cond_false,implies_true,eq_self,ne_eq,reduceIte,reduceCtorEq,Nat.reduceBEq,Nat.reduceLT,Nat.reduceEqDiff,Nat.reduceAdd,Nat.reduceSub,Nat.reduceMul];refine am (pM _ _) ?_;cases hkw:inB (bs l) cE with
    | true=>
     simp -dsimp -implicitDefEqProofs only[aw,ah,V.copy,V.lend,V.lend1,V.cells,V.boxable,over,al,ae,ac,ai,V.plain,Nat.reduceLeDiff,cond_true,cond_false,implies_true,eq_self,ne_eq,reduceIte,reduceCtorEq,Nat.reduceBEq,Nat.reduceLT,Nat.reduceEqDiff,Nat.reduceAdd,Nat.reduceSub,Nat.reduceMul];rw[Bool.and_false];first|exact aj hb rfl rfl List.take_length ⟨rfl,rfl⟩|exact aj hb rfl rfl List.take_left ⟨rfl,rfl⟩|(trace_state;fail "fin")
    | false=>
     rw[Bool.true_and,Bool.not_false,Bool.and_true];simp -dsimp -implicitDefEqProofs only[aw,ah,V.copy,V.lend,V.lend1,V.cells,V.boxable,over,al,ae,ac,ai,V.plain,Nat.reduceLeDiff,cond_true,cond_false,implies_true,eq_self,ne_eq,reduceIte,reduceCtorEq,Nat.reduceBEq,Nat.reduceLT,Nat.reduceEqDiff,Nat.reduceAdd,Nat.reduceSub,Nat.reduceMul];refine aT [0,3] (R:=fun(j:Nat) ρ σ'=>ρ=[(0,.d (ak (bs l))),(3,aK .i64 j)]∧σ'=σ∧l.all inn=(l.drop j).all inn) l.length ⟨rfl,rfl,rfl⟩ ?_ _;rintro j ρ' σ' hj ⟨rfl,rfl,hr⟩;by_cases hlt:j<l.length
     ·have hd:(l.drop j).all inn=(inn l[j]&&(l.drop (j+1)).all inn):=by rw[List.drop_eq_getElem_cons hlt];rfl
      simp -dsimp -implicitDefEqProofs only[aw,ah,V.copy,V.lend,V.lend1,V.cells,V.boxable,over,al,ae,ac,ai,V.plain,Nat.reduceLeDiff,cond_true,cond_false,implies_true,eq_self,ne_eq,reduceIte,reduceCtorEq,Nat.reduceBEq,Nat.reduceLT,Nat.reduceEqDiff,Nat.reduceAdd,Nat.reduceSub,Nat.reduceMul,bR,Int.ofNat_lt,hlt,decide_true,aY,List.getElem?_eq_getElem hlt,oL];refine am (oT _ _) ?_;cases hin:inn l[j]with
      | true=>
       rw[hd,hin,Bool.true_and]at hr;rw[show dI (l[j].toNat:Int)=true from hin];simp -dsimp -implicitDefEqProofs only[aw,ah,V.copy,V.lend,V.lend1,V.cells,V.boxable,over,al,ae,ac,ai,V.plain,Nat.reduceLeDiff,cond_true,cond_false,implies_true,eq_self,ne_eq,reduceIte,reduceCtorEq,Nat.reduceBEq,Nat.reduceLT,Nat.reduceEqDiff,Nat.reduceAdd,Nat.reduceSub,Nat.reduceMul,aJ hlt (show l.length≤9223372036854775807 by omega)];exact⟨hlt,Nxt.same (Nat.le_refl _) hb rfl ⟨rfl,rfl,hr⟩⟩
      | false=>
       rw[hd,hin,Bool.false_and]at hr;rw[show dI (l[j].toNat:Int)=false from hin];simp -dsimp -implicitDefEqProofs only[aw,ah,V.copy,V.lend,V.lend1,V.cells,V.boxable,over,al,ae,ac,ai,V.plain,Nat.reduceLeDiff,cond_true,cond_false,implies_true,eq_self,ne_eq,reduceIte,reduceCtorEq,Nat.reduceBEq,Nat.reduceLT,Nat.reduceEqDiff,Nat.reduceAdd,Nat.reduceSub,Nat.reduceMul];rw[hr];first|exact aj hb rfl rfl List.take_length ⟨rfl,rfl⟩|exact aj hb rfl rfl List.take_left ⟨rfl,rfl⟩|(trace_state;fail "fin")
     ·simp -dsimp -implicitDefEqProofs only[aw,ah,V.copy,V.lend,V.lend1,V.cells,V.boxable,over,al,ae,ac,ai,V.plain,Nat.reduceLeDiff,cond_true,cond_false,implies_true,eq_self,ne_eq,reduceIte,reduceCtorEq,Nat.reduceBEq,Nat.reduceLT,Nat.reduceEqDiff,Nat.reduceAdd,Nat.reduceSub,Nat.reduceMul,bR,Int.ofNat_lt,hlt,decide_false];rw[List.drop_eq_nil_of_le (by omega)]at hr;rw[hr];first|exact aj hb rfl rfl List.take_length ⟨rfl,rfl⟩|exact aj hb rfl rfl List.take_left ⟨rfl,rfl⟩|(trace_state;fail "fin")
  ·have h16':(16:Int)<((l.length:Nat):Int):=by omega
   simp -dsimp -implicitDefEqProofs only[aw,ah,V.copy,V.lend,V.lend1,V.cells,V.boxable,over,al,ae,ac,ai,V.plain,Nat.reduceLeDiff,cond_true,cond_false,implies_true,eq_self,ne_eq,reduceIte,reduceCtorEq,Nat.reduceBEq,Nat.reduceLT,Nat.reduceEqDiff,Nat.reduceAdd,Nat.reduceSub,Nat.reduceMul,hnil,bR,decide_eq_true h16'];rw[decide_eq_false h16,Bool.and_false,Bool.false_and];first|exact aj hb rfl rfl List.take_length ⟨rfl,rfl⟩|exact aj hb rfl rfl List.take_left ⟨rfl,rfl⟩|(trace_state;fail "fin")
inductive PR where
 | out
 | bad (e:Int) (r:List Tok)
 | ok (e:Ex) (r:List Tok)
def PR.bind(x:PR)(f:Ex→List Tok→PR):PR:=match x with
 | .out=>.out
 | .bad e r=>.bad e r
 | .ok e r=>f e r
inductive PK where
 | W
 | I
 | L (k:Nat)
 | Lp (k:Nat) (a:Ex)
 | In (a:Ex)
 | Ip (args:List Ex)
 | U
 | P
def gy:List Tok→PR
 | []=>.bad 6 []
 | t::r=>.bad 5 (t::r)
def bg(c:UInt8):ByteArray:=⟨#[c]⟩
def dQ(c d:UInt8):ByteArray:=⟨#[c,d]⟩
def acc(m:ByteArray):List Tok→Option (List Tok)
 | []=>none
 | t::r=>if zA t=true∧(t.kind=4∨t.kind=2)∧t.text=m then some r else none
def i6(o:Int)(l:List Ex):Ex:=.mk o 0 ⟨#[]⟩ l
def eS:List (ByteArray×Int×Nat):=[(dQ 61 62,21,2),(dQ 124 124,20,3),(dQ 38 38,19,4),(bg 124,11,5),(bg 94,12,6),(bg 38,10,7),(dQ 61 61,15,8),(dQ 33 61,16,8),(bg 60,17,9),(dQ 60 61,18,9),(dQ 60 60,13,10),(dQ 62 62,14,10),(bg 43,7,11),(bg 45,8,11),(bg 42,9,12)]
def xG:List (ByteArray×Int×Nat)→Nat→List Tok→Option (Int×List Tok)
 | [],_,_=>none
 | b::l,k,r=>if b.2.2=k then(match acc b.1 r with|some r1=>some (b.2.1,r1)|none=>xG l k r)else xG l k r
def Du(k:Nat)(r:List Tok):Option (Int×Bool×List Tok):=match xG eS k r with
 | some (o,r1)=>some (o,false,r1)
 | none=>if k=9 then(match acc (bg 62) r with
  | some r1=>some (17,true,r1)
  | none=>match acc (dQ 62 61) r with
   | some r1=>some (18,true,r1)
   | none=>none)else none
def m8:ByteArray:=⟨#[105,110,115,105,100,101]⟩
def Aq:ByteArray:=⟨#[115,117,109]⟩
def vj:ByteArray:=⟨#[111,110,101,115]⟩
def z8:List Tok→Option (ByteArray×List Tok)
 | []=>none
 | t::r=>if zA t=true∧t.kind=1 then some (t.text,r)else none
def B7:List Tok→Option (Int×List Tok)
 | []=>none
 | t::r=>if zA t=true∧t.kind=3 then some (t.num,r)else none
def pK(n:Int):ByteArray:=⟨(Lib.decDigits n.toNat).toArray⟩
def iv(s:ByteArray)(n:Int):ByteArray:=s++(bg 91++(pK n++bg 93))
def DA(rec:PK→List Tok→PR)(r:List Tok):PR:=match acc (bg 40) r with
 | some r1=>(rec .W r1).bind fun e r2=>match acc (bg 41) r2 with
  | some r3=>.ok e r3
  | none=>gy r2
 | none=>match B7 r with
  | some (n,r1)=>if 65535<n then .bad 3 r else .ok (.mk 1 n ⟨#[]⟩ []) r1
  | none=>match z8 r with
   | none=>gy r
   | some (s,r1)=>match (if s=Aq then acc (bg 40) r1 else none)with
    | some r2=>match z8 r2 with
     | none=>gy r2
     | some (a,r3)=>match acc (bg 41) r3 with
      | some r4=>.ok (.mk 24 0 a []) r4
      | none=>gy r3
    | none=>match (if s=vj then acc (bg 40) r1 else none)with
     | some r2=>(rec .W r2).bind fun e r3=>match acc (bg 41) r3 with
      | some r4=>.ok (i6 25 [e]) r4
      | none=>gy r3
     | none=>match acc (bg 91) r1 with
      | some r2=>(rec .W r2).bind fun e r3=>match acc (bg 93) r3 with
       | some r4=>.ok (.mk 3 0 s [e]) r4
       | none=>gy r3
      | none=>match acc (bg 64) r1 with
       | some r2=>match B7 r2 with
        | none=>gy r2
        | some (n,r3)=>if 65535<n then .bad 3 r2 else .ok (.mk 2 0 (iv s n) []) r3
       | none=>.ok (.mk 2 0 s []) r1
def B3(rec:PK→List Tok→PR):PK→List Tok→PR
 | .W,r=>(rec .I r).bind fun c r1=>match acc (bg 63) r1 with
  | none=>.ok c r1
  | some r2=>(rec .W r2).bind fun a r3=>match acc (bg 58) r3 with
   | none=>gy r3
   | some r4=>(rec .W r4).bind fun b r5=>.ok (i6 22 [c,a,b]) r5
 | .I,r=>(rec (.L 3) r).bind fun a r1=>match acc (dQ 61 62) r1 with
  | none=>.ok a r1
  | some r2=>(rec .I r2).bind fun b r3=>.ok (i6 21 [a,b]) r3
 | .L k,r=>if 12<k then rec .U r else(rec (.L (k+1)) r).bind fun a r1=>rec (.Lp k a) r1
 | .Lp k a,r=>match (if k=9 then acc m8 r else none)with
  | some r1=>(rec (.In a) r1).bind fun b r2=>rec (.Lp k b) r2
  | none=>match Du k r with
   | none=>.ok a r
   | some (o,ex,r1)=>(rec (.L (k+1)) r1).bind fun c r2=>rec (.Lp k (if ex then i6 o [c,a]else i6 o [a,c])) r2
 | .In a,r=>match acc (bg 123) r with
  | none=>gy r
  | some r1=>rec (.Ip [a]) r1
 | .Ip args,r=>(rec .W r).bind fun lo r1=>match acc (dQ 46 46) r1 with
  | none=>gy r1
  | some r2=>(rec .W r2).bind fun hi r3=>match acc (bg 44) r3 with
   | some r4=>rec (.Ip (args++[lo,hi])) r4
   | none=>match acc (bg 125) r3 with
    | some r5=>.ok (i6 23 (args++[lo,hi])) r5
    | none=>gy r3
 | .U,r=>match acc (bg 33) r with
  | some r1=>(rec .U r1).bind fun a r2=>.ok (i6 4 [a]) r2
  | none=>match acc (bg 126) r with
   | some r1=>(rec .U r1).bind fun a r2=>.ok (i6 5 [a]) r2
   | none=>match acc (bg 45) r with
    | some r1=>(rec .U r1).bind fun a r2=>.ok (i6 6 [a]) r2
    | none=>rec .P r
 | .P,r=>DA rec r
def zW:Nat→PK→List Tok→PR
 | 0,_,_=>.out
 | n+1,k,r=>B3 (zW n) k r
def PK.cost:PK→Nat
 | .W=>15
 | .I=>14
 | .L k=>3+(13-k)
 | .Lp _ _=>1
 | .In _=>1
 | .Ip _=>16
 | .U=>2
 | .P=>1
def e6(k:PK)(r:List Tok):Nat:=40*r.length+k.cost
def par(k:PK)(r:List Tok):PR:=zW (40*r.length+20) k r
def dU(o:Int):Option (ByteArray×Nat):=(eS.find? fun b=>decide (b.2.1=o)).map fun b=>(b.1,b.2.2)
def kj(o:Int):Nat:=match dU o with
 | some (_,l)=>l
 | none=>if o=22 then 1 else if o=23 then 9 else if o=4∨o=5∨o=6 then 13 else 14
def tm(m:ByteArray):Tok:=⟨4,0,m,1⟩
def tw(m:ByteArray):Tok:=⟨2,0,m,1⟩
def tn(s:ByteArray):Tok:=⟨1,0,s,1⟩
def td(n:Int):Tok:=⟨3,n,pK n,1⟩
def bj(s:ByteArray):Int:=(((ff s 91).data.toList.headD 0).toNat:Int)-48
def xj(s:ByteArray):List Tok:=if dD s=true then[tn (cQ s 91),tm (bg 64),td (bj s)]else[tn s]
end Go.Proofs.YtcbahpllcfbkmaaGreatDoor
