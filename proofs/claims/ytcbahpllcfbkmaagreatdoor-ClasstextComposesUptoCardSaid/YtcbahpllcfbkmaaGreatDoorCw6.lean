import Derived.Test.YtcbahpllcfbkmaaGreatDoorCw5
import Derived.Test.YtcbahpllcfbkmaaGreatDoorCv2
import Derived.Test.YtcbahpllcfbkmaaGreatDoorPt
set_option linter.unusedVariables false
set_option linter.unusedSimpArgs false
set_option linter.unusedSectionVars false
namespace Go.Proofs.YtcbahpllcfbkmaaGreatDoor
open Go.RowKit
theorem mm:∀l:List It,bq l≤1100000→gL l:=by
 refine fZ fun l ih hbig=>pG l hbig fun x hx=>?_;have h1:=dE hx;have h2:=cm x;obtain⟨i1,i2⟩:=ih x hx;exact⟨i1 (by omega),i2 (by omega)⟩
theorem ea{l:List It}(h:cA l=0):rvl l 0=0:=by
 unfold cA at h;split at h
 ·cases h
 ·exact h
def ce(l:List It)(n:Int):Bs:=if cA l=0∧0≤n∧n≤32 then aO n.toNat (lns l)else[]
theorem fw{l:List It}(n:Int)(hbig:bq l≤1100000):(ce l n).length≤1000000000:=by
 unfold ce;split
 ·rename_i h;have h1:=qn n.toNat l 0 (ea h.1);have h2:bq l*(12*n.toNat+172)≤1100000*(12*32+172):=Nat.mul_le_mul hbig (by omega);simp only[Nat.add_zero]at h1;omega
 ·simp
theorem s9(x:Bs):ca none x≠some []∧(ca none x).getD []=x:=by
 unfold ca;by_cases h:x=[]
 ·simp[h]
 ·simp[h]
set_option maxHeartbeats 4000000 in
theorem eX(l:List It)(n:Int)(hbig:bq l≤1100000)(σ:List (List V)):Fun G 17 [.d (dv l),.d (ay n)] σ (a7 (.d (am (bs (ce l n)))) σ):=by
 have hlen:=fw n hbig;refine ax Tryz.func17 k17 rfl fun hb hw=>?_;unfold c17;simp -dsimp -implicitDefEqProofs only[aw,ah,V.copy,V.lend,V.lend1,V.cells,V.boxable,over,ak,ae,ac,ai,V.plain,Nat.reduceLeDiff,cond_true,cond_false,implies_true,eq_self,ne_eq,reduceIte,reduceCtorEq,Nat.reduceBEq,Nat.reduceLT,Nat.reduceEqDiff,Nat.reduceAdd,Nat.reduceSub,Nat.reduceMul];refine an (j5 l hbig _) ?_;by_cases hv:cA l=0
 ·by_cases h0:n<0
  ·have:ce l n=[]:=by unfold ce;rw[if_neg (by omega)]
   rw[this];simp -dsimp -implicitDefEqProofs only[aw,ah,V.copy,V.lend,V.lend1,V.cells,V.boxable,over,ak,ae,ac,ai,V.plain,Nat.reduceLeDiff,cond_true,cond_false,implies_true,eq_self,ne_eq,reduceIte,reduceCtorEq,Nat.reduceBEq,Nat.reduceLT,Nat.reduceEqDiff,Nat.reduceAdd,Nat.reduceSub,Nat.reduceMul,decide_eq_true hv,decide_eq_true h0];first|exact aj hb rfl rfl List.take_length ⟨rfl,rfl⟩|exact aj hb rfl rfl List.take_left ⟨rfl,rfl⟩|(trace_state;fail "fin")
  by_cases h1:32<n
  ·have:ce l n=[]:=by unfold ce;rw[if_neg (by omega)]
   rw[this];simp -dsimp -implicitDefEqProofs only[aw,ah,V.copy,V.lend,V.lend1,V.cells,V.boxable,over,ak,ae,ac,ai,V.plain,Nat.reduceLeDiff,cond_true,cond_false,implies_true,eq_self,ne_eq,reduceIte,reduceCtorEq,Nat.reduceBEq,Nat.reduceLT,Nat.reduceEqDiff,Nat.reduceAdd,Nat.reduceSub,Nat.reduceMul,decide_eq_true hv,decide_eq_false h0,decide_eq_true h1];first|exact aj hb rfl rfl List.take_length ⟨rfl,rfl⟩|exact aj hb rfl rfl List.take_left ⟨rfl,rfl⟩|(trace_state;fail "fin")
  have hT:ce l n=aO n.toNat (lns l):=by unfold ce;rw[if_pos ⟨hv,by omega,by omega⟩]
  rw[hT]at hlen ⊢;obtain⟨m,rfl⟩:=Int.eq_ofNat_of_zero_le (show 0≤n by omega);rw[Int.toNat_natCast]at hlen ⊢;have hi:=fun S h=>mm l hbig 0 (ea hv) σ.length none m S h (by omega) (by show 0+_≤_;omega);generalize hX:aO m (lns l)=X at *;obtain⟨z1,z2⟩:=s9 X;have hs:=fun S h=>nC σ.length (ca none X) m z1 (by rw[z2];omega) S h;rw[z2]at hs;simp -dsimp -implicitDefEqProofs only[aw,ah,V.copy,V.lend,V.lend1,V.cells,V.boxable,over,ak,ae,ac,ai,V.plain,Nat.reduceLeDiff,cond_true,cond_false,implies_true,eq_self,ne_eq,reduceIte,reduceCtorEq,Nat.reduceBEq,Nat.reduceLT,Nat.reduceEqDiff,Nat.reduceAdd,Nat.reduceSub,Nat.reduceMul,decide_eq_true hv,decide_eq_false h0,decide_eq_false h1];refine bG (hi _ (List.getElem?_concat_length ..)) ?_;rw[List.set_append_right _ _ (Nat.le_refl _),Nat.sub_self]
  simp -dsimp -implicitDefEqProofs only[aw,ah,V.copy,V.lend,V.lend1,V.cells,V.boxable,over,ak,ae,ac,ai,V.plain,Nat.reduceLeDiff,cond_true,cond_false,implies_true,eq_self,ne_eq,reduceIte,reduceCtorEq,Nat.reduceBEq,Nat.reduceLT,Nat.reduceEqDiff,Nat.reduceAdd,Nat.reduceSub,Nat.reduceMul];refine bG (hs _ (List.getElem?_concat_length ..)) ?_;rw[List.set_append_right _ _ (Nat.le_refl _),Nat.sub_self];simp -dsimp -implicitDefEqProofs only[aw,ah,V.copy,V.lend,V.lend1,V.cells,V.boxable,over,ak,ae,ac,ai,V.plain,Nat.reduceLeDiff,cond_true,cond_false,implies_true,eq_self,ne_eq,reduceIte,reduceCtorEq,Nat.reduceBEq,Nat.reduceLT,Nat.reduceEqDiff,Nat.reduceAdd,Nat.reduceSub,Nat.reduceMul];exact aj hb rfl rfl List.take_left ⟨rfl,rfl⟩
 ·have:ce l n=[]:=by unfold ce;rw[if_neg (fun h=>hv h.1)]
  rw[this];simp -dsimp -implicitDefEqProofs only[aw,ah,V.copy,V.lend,V.lend1,V.cells,V.boxable,over,ak,ae,ac,ai,V.plain,Nat.reduceLeDiff,cond_true,cond_false,implies_true,eq_self,ne_eq,reduceIte,reduceCtorEq,Nat.reduceBEq,Nat.reduceLT,Nat.reduceEqDiff,Nat.reduceAdd,Nat.reduceSub,Nat.reduceMul,decide_eq_false hv];first|exact aj hb rfl rfl List.take_length ⟨rfl,rfl⟩|exact aj hb rfl rfl List.take_left ⟨rfl,rfl⟩|(trace_state;fail "fin")
end Go.Proofs.YtcbahpllcfbkmaaGreatDoor
