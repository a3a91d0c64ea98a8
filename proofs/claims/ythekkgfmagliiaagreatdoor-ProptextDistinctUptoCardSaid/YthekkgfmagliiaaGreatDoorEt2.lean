import Derived.Lib.AtoiErrMem
import Derived.Test.YthekkgfmagliiaaGreatDoorEt1
set_option linter.unusedVariables false
set_option linter.unusedSimpArgs false
set_option linter.unusedSectionVars false
namespace Go.Proofs.YthekkgfmagliiaaGreatDoor
open Go.RowKit
theorem qh(sep:Bs)(l:List ByteArray)(hn:l.length≤140737488355328)(hlen:(Lib.join (l.map (·.data.toList)) sep).length≤140737488355328)(σ:List (List V)):
 Fun G 88 [.d (dy l),.d (an (bs sep))] σ (aG (.d (an (bs (Lib.join (l.map (·.data.toList)) sep)))) σ):=
 ny Tryz.func88 (by kernel_rfl) (by kernel_rfl) (by show(bs _).size≤maxLen;rw[d8];unfold maxLen;omega) fun M bm pr w v v' hG hM h1 h2=>by
  cases fr h2;obtain⟨p,cap,rfl,g1,g2,g3⟩:=iF hM h1;by_cases h0:l=[]
  ·subst h0;exact iy (Tryz.strings_Join_none p cap (bs sep) w)
  ·have hp:0<l.length:=List.length_pos_iff.2 h0;obtain⟨b,off,rfl,g4⟩:=g3 0 (l[0]'hp) (List.getElem?_eq_getElem hp)
   have h:=Tryz.strings_Join b off cap l (bs sep) w (fun j x hj=>by
    obtain⟨b',off',e,g5⟩:=g3 j x hj;cases e;exact g5) (Lib.lt_of_cell g4) hn g1 (by rw[cl];exact hlen)
   rw[cl]at h;exact h
theorem xu(d:Bs)(hl:d.length≤1000000)(σ:List (List V)):Fun G 222 [.d (an (bs (d++[93]))),.d (an ⟨#[93]⟩)] σ (aG (aA true) σ):=by
 refine aD Tryz.func222 Ot rfl fun hb hw=>?_;unfold MB;have hn:(d++[93]).length=d.length+1:=by simp
 have h1:((⟨#[93]⟩:ByteArray).size:Int)=1:=rfl;have hle:(1:Int)≤(((d++[93]).length:Nat):Int):=by rw[hn];omega
 have hw1:IntKind.i64.wrap ((((d++[93]).length:Nat):Int)-1)=((d.length:Nat):Int):=by rw[hn,df (by omega) (by omega)];omega
 have hs:=Dg (d++[93]) d.length (by rw[hn];omega);rw[List.drop_left]at hs;have he:decide (bs [93]=(⟨#[93]⟩:ByteArray))=true:=by rw[decide_eq_true_eq];rfl
 generalize d++[93]=dt at *;simp -dsimp -implicitDefEqProofs only[aw,ac,V.copy,V.lend,V.lend1,V.cells,V.boxable,over,al,ah,ae,ai,V.plain,Nat.reduceLeDiff,cond_true,cond_false,implies_true,eq_self,ne_eq,reduceIte,reduceCtorEq,Nat.reduceBEq,Nat.reduceLT,Nat.reduceEqDiff,Nat.reduceAdd,Nat.reduceSub,Nat.reduceMul,d8,h1,decide_eq_true hle,hw1,hs,he];first|exact am hb rfl rfl List.take_length ⟨rfl,rfl⟩|exact am hb rfl rfl List.take_left ⟨rfl,rfl⟩|(trace_state;fail "fin")
theorem AQ(d:Bs)(hl:d.length≤1000000)(σ:List (List V)):Fun G 197 [.d (an (bs (d++[93]))),.d (an ⟨#[93]⟩)] σ (aG (.d (an (bs d))) σ):=by
 refine aD Tryz.func197 OT rfl fun hb hw=>?_;unfold Jx;have hn:(d++[93]).length=d.length+1:=by simp
 have h1:((⟨#[93]⟩:ByteArray).size:Int)=1:=rfl;have hw1:IntKind.i64.wrap ((((d++[93]).length:Nat):Int)-1)=((d.length:Nat):Int):=by rw[hn,df (by omega) (by omega)];omega
 have hs:=Dw (d++[93]) d.length (by rw[hn];omega);rw[List.take_left]at hs;have hf:=xu d hl;generalize d++[93]=dt at *;simp -dsimp -implicitDefEqProofs only[aw,ac,V.copy,V.lend,V.lend1,V.cells,V.boxable,over,al,ah,ae,ai,V.plain,Nat.reduceLeDiff,cond_true,cond_false,implies_true,eq_self,ne_eq,reduceIte,reduceCtorEq,Nat.reduceBEq,Nat.reduceLT,Nat.reduceEqDiff,Nat.reduceAdd,Nat.reduceSub,Nat.reduceMul];refine aq (hf _) ?_;simp -dsimp -implicitDefEqProofs only[aw,ac,V.copy,V.lend,V.lend1,V.cells,V.boxable,over,al,ah,ae,ai,V.plain,Nat.reduceLeDiff,cond_true,cond_false,implies_true,eq_self,ne_eq,reduceIte,reduceCtorEq,Nat.reduceBEq,Nat.reduceLT,Nat.reduceEqDiff,Nat.reduceAdd,Nat.reduceSub,Nat.reduceMul,d8,h1,hw1,hs]
 first|exact am hb rfl rfl List.take_length ⟨rfl,rfl⟩|exact am hb rfl rfl List.take_left ⟨rfl,rfl⟩|(trace_state;fail "fin")
theorem DJ(d:Bs)(hl:d.length≤1000000)(σ:List (List V)):Fun G 168 [.d (an (bs (d++[93]))),.d (an ⟨#[93]⟩)] σ (aG (.d (an (bs d))) σ):=by
 refine aD Tryz.func168 Nb rfl fun hb hw=>?_;unfold c168;simp -dsimp -implicitDefEqProofs only[aw,ac,V.copy,V.lend,V.lend1,V.cells,V.boxable,over,al,ah,ae,ai,V.plain,Nat.reduceLeDiff,cond_true,cond_false,implies_true,eq_self,ne_eq,reduceIte,reduceCtorEq,Nat.reduceBEq,Nat.reduceLT,Nat.reduceEqDiff,Nat.reduceAdd,Nat.reduceSub,Nat.reduceMul];refine aq (AQ d hl _) ?_;simp -dsimp -implicitDefEqProofs only[aw,ac,V.copy,V.lend,V.lend1,V.cells,V.boxable,over,al,ah,ae,ai,V.plain,Nat.reduceLeDiff,cond_true,cond_false,implies_true,eq_self,ne_eq,reduceIte,reduceCtorEq,Nat.reduceBEq,Nat.reduceLT,Nat.reduceEqDiff,Nat.reduceAdd,Nat.reduceSub,Nat.reduceMul];first|exact am hb rfl rfl List.take_length ⟨rfl,rfl⟩|exact am hb rfl rfl List.take_left ⟨rfl,rfl⟩|(trace_state;fail "fin")
theorem tx:∀(x q:Bs),(∀c,c∈x→c≠91)→Lib.indexByte (x++91::q) 91=(x.length:Nat)
 | [],q,_=>rfl
 | a::x,q,h=>by
  have ih:=tx x q fun c hc=>h c (by simp[hc]);have ha:(a==(91:UInt8))=false:=beq_eq_false_iff_ne.2 (h a (by simp));simp only[List.cons_append,Lib.indexByte,ha,ih,Bool.false_eq_true,if_false];rw[if_neg (by simp;try omega)];simp
theorem oU:∀(x:Bs),(∀c,c∈x→c≠91)→Lib.indexByte x 91 = -1
 | [],_=>rfl
 | a::x,h=>by
  have ih:=oU x fun c hc=>h c (by simp[hc]);have ha:(a==(91:UInt8))=false:=beq_eq_false_iff_ne.2 (h a (by simp));simp only[Lib.indexByte,ha,ih,Bool.false_eq_true,if_false];rfl
theorem kz(l:Bs)(hl:l.length≤1000000)(σ:List (List V)):Fun G 167 [.d (an (bs l)),.d (.lit (.int .u8 91))] σ (aG (.d (ao (Lib.indexByte l 91))) σ):=
 lG Tryz.func167 (by kernel_rfl) (by kernel_rfl) (by
  have h1:=Lib.indexByte_ge l 91
  have h2:Lib.indexByte l 91≤l.length:=by
   clear h1 hl
   induction l with
   | nil=>simp[Lib.indexByte]
   | cons a r ih=>simp only[Lib.indexByte,List.length_cons];repeat' split
                  all_goals omega
  simp only[ct,IntKind.min,IntKind.max,IntKind.signed,IntKind.bits];simp;omega) fun pr w _=>by
  have:=iy (Tryz.strings_IndexByte (bs l) 91 w);rw[cl]at this;exact this
theorem rj{l:Bs}(h:iq l=true):∀c,c∈l→c≠91:=by
 intro c hc;cases l with
 | nil=>cases hc
 | cons a r=>
  simp only[iq,Bool.and_eq_true]at h;have:=List.all_eq_true.1 h.2 c hc;rintro rfl;revert this;decide
theorem qT{s:ByteArray}(h:a8 s=true):iq s.data.toList=true:=by
 simp only[a8,Bool.and_eq_true]at h;exact h.1.1
theorem AH(s:ByteArray)(h:ez s=true)(σ:List (List V)):Fun G 136 [.d (an s)] σ (aG (.d (an (bs (aX (.mk 2 0 s []))))) σ):=by
 rw[um];unfold ez at h;rw[Bool.or_eq_true]at h;refine aD Tryz.func136 OE rfl fun hb hw=>?_;unfold La;by_cases hel:fW s=true
 ·rw[if_pos hel];obtain⟨g1,g2,g3,g4⟩:=jS hel;have hw1:=qT g1;have hl:=fF g1;have h91:=rj hw1;have h5:=pg (c6 s).toNat (by omega)
  have hsb:s.data.toList=(gD s 91).data.toList++91::(Lib.decDigits (c6 s).toNat++[93]):=by
   have:=congrArg (fun s:ByteArray=>s.data.toList) g4;simp only[rA,ta]at this;rw[←this];simp[aj]
  generalize (gD s 91).data.toList=x at *;generalize Lib.decDigits (c6 s).toNat=d at *;have hss:s=bs (x++91::(d++[93])):=by rw[←hsb,ef]
  rw[hss];have hix:=tx x (d++[93]) h91;have hlen:(x++91::(d++[93])).length=x.length+(d.length+2):=by simp
  have s1:=Dw (x++91::(d++[93])) x.length (by rw[hlen];omega);rw[List.take_left]at s1;have s2:=Dg (x++91::(d++[93])) (x.length+1) (by rw[hlen];omega)
  have hdr:(x++91::(d++[93])).drop (x.length+1)=d++[93]:=by
   rw[←List.drop_drop,List.drop_left];rfl
  rw[hdr]at s2;have a1:aN .add (V.d (an (bs x))) (V.d (an ⟨#[64]⟩))=some (V.d (an (bs (x++[64])))):=cm x [64] (by simp;omega)
  have a2:aN .add (V.d (an (bs (x++[64])))) (V.d (an (bs d)))=some (V.d (an (bs (x++64::d)))):=by
   have:=cm (x++[64]) d (by simp;omega);rw[this,List.append_assoc];rfl
  have hw2:IntKind.i64.wrap (((x.length:Nat):Int)+1)=((x.length+1:Nat):Int):=by rw[df (by omega) (by omega)];omega
  have hif:=kz (x++91::(d++[93])) (by rw[hlen];omega);rw[hix]at hif;generalize x++91::(d++[93])=T at *;simp -dsimp -implicitDefEqProofs only[aw,ac,V.copy,V.lend,V.lend1,V.cells,V.boxable,over,al,ah,ae,ai,V.plain,Nat.reduceLeDiff,cond_true,cond_false,implies_true,eq_self,ne_eq,reduceIte,reduceCtorEq,Nat.reduceBEq,Nat.reduceLT,Nat.reduceEqDiff,Nat.reduceAdd,Nat.reduceSub,Nat.reduceMul];refine aq (hif _) ?_;simp -dsimp -implicitDefEqProofs only[aw,ac,V.copy,V.lend,V.lend1,V.cells,V.boxable,over,al,ah,ae,ai,V.plain,Nat.reduceLeDiff,cond_true,cond_false,implies_true,eq_self,ne_eq,reduceIte,reduceCtorEq,Nat.reduceBEq,Nat.reduceLT,Nat.reduceEqDiff,Nat.reduceAdd,Nat.reduceSub,Nat.reduceMul,decide_eq_true (show(0:Int)≤((x.length:Nat):Int)by omega),s1,a1,hw2,s2];refine aS (DJ d (by omega) _) ?_
  simp -dsimp -implicitDefEqProofs only[aw,ac,V.copy,V.lend,V.lend1,V.cells,V.boxable,over,al,ah,ae,ai,V.plain,Nat.reduceLeDiff,cond_true,cond_false,implies_true,eq_self,ne_eq,reduceIte,reduceCtorEq,Nat.reduceBEq,Nat.reduceLT,Nat.reduceEqDiff,Nat.reduceAdd,Nat.reduceSub,Nat.reduceMul,a2];first|exact am hb rfl rfl List.take_length ⟨rfl,rfl⟩|exact am hb rfl rfl List.take_left ⟨rfl,rfl⟩|(trace_state;fail "fin")
 ·rw[if_neg hel];have hn:=h.resolve_left hel;have hix:=oU s.data.toList (rj (qT hn));have hif:=kz s.data.toList (by have:=fF hn;omega);rw[hix,ef]at hif;simp -dsimp -implicitDefEqProofs only[aw,ac,V.copy,V.lend,V.lend1,V.cells,V.boxable,over,al,ah,ae,ai,V.plain,Nat.reduceLeDiff,cond_true,cond_false,implies_true,eq_self,ne_eq,reduceIte,reduceCtorEq,Nat.reduceBEq,Nat.reduceLT,Nat.reduceEqDiff,Nat.reduceAdd,Nat.reduceSub,Nat.reduceMul];refine aq (hif _) ?_;simp -dsimp -implicitDefEqProofs only[aw,ac,V.copy,V.lend,V.lend1,V.cells,V.boxable,over,al,ah,ae,ai,V.plain,Nat.reduceLeDiff,cond_true,cond_false,implies_true,eq_self,ne_eq,reduceIte,reduceCtorEq,Nat.reduceBEq,Nat.reduceLT,Nat.reduceEqDiff,Nat.reduceAdd,Nat.reduceSub,Nat.reduceMul,Int.reduceLE,decide_false];rw[ef]
  first|exact am hb rfl rfl List.take_length ⟨rfl,rfl⟩|exact am hb rfl rfl List.take_left ⟨rfl,rfl⟩|(trace_state;fail "fin")
end Go.Proofs.YthekkgfmagliiaaGreatDoor
