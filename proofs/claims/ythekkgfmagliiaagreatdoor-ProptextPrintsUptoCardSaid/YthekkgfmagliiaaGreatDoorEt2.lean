import Derived.Lib.AtoiErrMem
import Derived.Test.YthekkgfmagliiaaGreatDoorEt1
set_option linter.unusedVariables false
set_option linter.unusedSimpArgs false
set_option linter.unusedSectionVars false
namespace Go.Proofs.YthekkgfmagliiaaGreatDoor
open Go.RowKit
theorem nj(sep:Bs)(l:List ByteArray)(hn:l.length≤140737488355328)(hlen:(Lib.join (l.map (·.data.toList)) sep).length≤140737488355328)(σ:List (List V)):
 Fun G 88 [.d (cj l),.d (ak (bs sep))] σ (aB (.d (ak (bs (Lib.join (l.map (·.data.toList)) sep)))) σ):=
 kZ Tryz.func88 (by kernel_rfl) (by kernel_rfl) (by show(bs _).size≤maxLen;rw[bQ];unfold maxLen;omega) fun M bm pr w v v' hG hM h1 h2=>by
  cases ec h2;obtain⟨p,cap,rfl,g1,g2,g3⟩:=fV hM h1;by_cases h0:l=[]
  ·subst h0;exact fQ (Tryz.strings_Join_none p cap (bs sep) w)
  ·have hp:0<l.length:=List.length_pos_iff.2 h0;obtain⟨b,off,rfl,g4⟩:=g3 0 (l[0]'hp) (List.getElem?_eq_getElem hp)
   have h:=Tryz.strings_Join b off cap l (bs sep) w (fun j x hj=>by
    obtain⟨b',off',e,g5⟩:=g3 j x hj;cases e;exact g5) (Lib.lt_of_cell g4) hn g1 (by rw[bg];exact hlen)
   rw[bg]at h;exact h
theorem rq(d:Bs)(hl:d.length≤1000000)(σ:List (List V)):Fun G 222 [.d (ak (bs (d++[93]))),.d (ak ⟨#[93]⟩)] σ (aB (aD true) σ):=by
 refine ax Tryz.func222 JG rfl fun hb hw=>?_;unfold Fh;have hn:(d++[93]).length=d.length+1:=by simp
 have h1:((⟨#[93]⟩:ByteArray).size:Int)=1:=rfl;have hle:(1:Int)≤(((d++[93]).length:Nat):Int):=by rw[hn];omega
 have hw1:IntKind.i64.wrap ((((d++[93]).length:Nat):Int)-1)=((d.length:Nat):Int):=by rw[hn,bd (by omega) (by omega)];omega
 have hs:=xl (d++[93]) d.length (by rw[hn];omega);rw[List.drop_left]at hs;have he:decide (bs [93]=(⟨#[93]⟩:ByteArray))=true:=by rw[decide_eq_true_eq];rfl
 generalize d++[93]=dt at *;simp -dsimp -implicitDefEqProofs only[aw,ac,V.copy,V.lend,V.lend1,V.cells,V.boxable,over,al,ah,ae,ai,V.plain,Nat.reduceLeDiff,cond_true,cond_false,implies_true,eq_self,ne_eq,reduceIte,reduceCtorEq,Nat.reduceBEq,Nat.reduceLT,Nat.reduceEqDiff,Nat.reduceAdd,Nat.reduceSub,Nat.reduceMul,bQ,h1,decide_eq_true hle,hw1,hs,he];first|exact aj hb rfl rfl List.take_length ⟨rfl,rfl⟩|exact aj hb rfl rfl List.take_left ⟨rfl,rfl⟩|(trace_state;fail "fin")
theorem vK(d:Bs)(hl:d.length≤1000000)(σ:List (List V)):Fun G 197 [.d (ak (bs (d++[93]))),.d (ak ⟨#[93]⟩)] σ (aB (.d (ak (bs d))) σ):=by
 refine ax Tryz.func197 Jl rfl fun hb hw=>?_;unfold EK;have hn:(d++[93]).length=d.length+1:=by simp
 have h1:((⟨#[93]⟩:ByteArray).size:Int)=1:=rfl;have hw1:IntKind.i64.wrap ((((d++[93]).length:Nat):Int)-1)=((d.length:Nat):Int):=by rw[hn,bd (by omega) (by omega)];omega
 have hs:=mE (d++[93]) d.length (by rw[hn];omega);rw[List.take_left]at hs;have hf:=rq d hl;generalize d++[93]=dt at *;simp -dsimp -implicitDefEqProofs only[aw,ac,V.copy,V.lend,V.lend1,V.cells,V.boxable,over,al,ah,ae,ai,V.plain,Nat.reduceLeDiff,cond_true,cond_false,implies_true,eq_self,ne_eq,reduceIte,reduceCtorEq,Nat.reduceBEq,Nat.reduceLT,Nat.reduceEqDiff,Nat.reduceAdd,Nat.reduceSub,Nat.reduceMul];refine ao (hf _) ?_;simp -dsimp -implicitDefEqProofs only[aw,ac,V.copy,V.lend,V.lend1,V.cells,V.boxable,over,al,ah,ae,ai,V.plain,Nat.reduceLeDiff,cond_true,cond_false,implies_true,eq_self,ne_eq,reduceIte,reduceCtorEq,Nat.reduceBEq,Nat.reduceLT,Nat.reduceEqDiff,Nat.reduceAdd,Nat.reduceSub,Nat.reduceMul,bQ,h1,hw1,hs]
 first|exact aj hb rfl rfl List.take_length ⟨rfl,rfl⟩|exact aj hb rfl rfl List.take_left ⟨rfl,rfl⟩|(trace_state;fail "fin")
theorem wP(d:Bs)(hl:d.length≤1000000)(σ:List (List V)):Fun G 168 [.d (ak (bs (d++[93]))),.d (ak ⟨#[93]⟩)] σ (aB (.d (ak (bs d))) σ):=by
 refine ax Tryz.func168 Jn rfl fun hb hw=>?_;unfold c168;simp -dsimp -implicitDefEqProofs only[aw,ac,V.copy,V.lend,V.lend1,V.cells,V.boxable,over,al,ah,ae,ai,V.plain,Nat.reduceLeDiff,cond_true,cond_false,implies_true,eq_self,ne_eq,reduceIte,reduceCtorEq,Nat.reduceBEq,Nat.reduceLT,Nat.reduceEqDiff,Nat.reduceAdd,Nat.reduceSub,Nat.reduceMul];refine ao (vK d hl _) ?_;simp -dsimp -implicitDefEqProofs only[aw,ac,V.copy,V.lend,V.lend1,V.cells,V.boxable,over,al,ah,ae,ai,V.plain,Nat.reduceLeDiff,cond_true,cond_false,implies_true,eq_self,ne_eq,reduceIte,reduceCtorEq,Nat.reduceBEq,Nat.reduceLT,Nat.reduceEqDiff,Nat.reduceAdd,Nat.reduceSub,Nat.reduceMul];first|exact aj hb rfl rfl List.take_length ⟨rfl,rfl⟩|exact aj hb rfl rfl List.take_left ⟨rfl,rfl⟩|(trace_state;fail "fin")
theorem pV:∀(x q:Bs),(∀c,c∈x→c≠91)→Lib.indexByte (x++91::q) 91=(x.length:Nat)
 | [],q,_=>rfl
 | a::x,q,h=>by
  have ih:=pV x q fun c hc=>h c (by simp[hc]);have ha:(a==(91:UInt8))=false:=beq_eq_false_iff_ne.2 (h a (by simp));simp only[List.cons_append,Lib.indexByte,ha,ih,Bool.false_eq_true,if_false];rw[if_neg (by simp;try omega)];simp
theorem ly:∀(x:Bs),(∀c,c∈x→c≠91)→Lib.indexByte x 91 = -1
 | [],_=>rfl
 | a::x,h=>by
  have ih:=ly x fun c hc=>h c (by simp[hc]);have ha:(a==(91:UInt8))=false:=beq_eq_false_iff_ne.2 (h a (by simp));simp only[Lib.indexByte,ha,ih,Bool.false_eq_true,if_false];rfl
theorem iq(l:Bs)(hl:l.length≤1000000)(σ:List (List V)):Fun G 167 [.d (ak (bs l)),.d (.lit (.int .u8 91))] σ (aB (.d (an (Lib.indexByte l 91))) σ):=
 ji Tryz.func167 (by kernel_rfl) (by kernel_rfl) (by
  have h1:=Lib.indexByte_ge l 91
  have h2:Lib.indexByte l 91≤l.length:=by
   clear h1 hl
   induction l with
   | nil=>simp[Lib.indexByte]
   | cons a r ih=>simp only[Lib.indexByte,List.length_cons];repeat' split
                  all_goals omega
  simp only[ca,IntKind.min,IntKind.max,IntKind.signed,IntKind.bits];simp;omega) fun pr w _=>by
  have:=fQ (Tryz.strings_IndexByte (bs l) 91 w);rw[bg]at this;exact this
theorem ni{l:Bs}(h:fN l=true):∀c,c∈l→c≠91:=by
 intro c hc;cases l with
 | nil=>cases hc
 | cons a r=>
  simp only[fN,Bool.and_eq_true]at h;have:=List.all_eq_true.1 h.2 c hc;rintro rfl;revert this;decide
theorem gV{s:ByteArray}(h:bj s=true):fN s.data.toList=true:=by
 simp only[bj,Bool.and_eq_true]at h;exact h.1.1
theorem u7(s:ByteArray)(h:dI s=true)(σ:List (List V)):Fun G 136 [.d (ak s)] σ (aB (.d (ak (bs (aJ (.mk 2 0 s []))))) σ):=by
 rw[lQ];unfold dI at h;rw[Bool.or_eq_true]at h;refine ax Tryz.func136 Jc rfl fun hb hw=>?_;unfold Eg;by_cases hel:fh s=true
 ·rw[if_pos hel];obtain⟨g1,g2,g3,g4⟩:=jU hel;have hw1:=gV g1;have hl:=cT g1;have h91:=ni hw1;have h5:=gE (bH s).toNat (by omega)
  have hsb:s.data.toList=(eR s 91).data.toList++91::(Lib.decDigits (bH s).toNat++[93]):=by
   have:=congrArg (fun s:ByteArray=>s.data.toList) g4;simp only[pd,wW]at this;rw[←this];simp[bE]
  generalize (eR s 91).data.toList=x at *;generalize Lib.decDigits (bH s).toNat=d at *;have hss:s=bs (x++91::(d++[93])):=by rw[←hsb,bZ]
  rw[hss];have hix:=pV x (d++[93]) h91;have hlen:(x++91::(d++[93])).length=x.length+(d.length+2):=by simp
  have s1:=mE (x++91::(d++[93])) x.length (by rw[hlen];omega);rw[List.take_left]at s1;have s2:=xl (x++91::(d++[93])) (x.length+1) (by rw[hlen];omega)
  have hdr:(x++91::(d++[93])).drop (x.length+1)=d++[93]:=by
   rw[←List.drop_drop,List.drop_left];rfl
  rw[hdr]at s2;have a1:aA .add (V.d (ak (bs x))) (V.d (ak ⟨#[64]⟩))=some (V.d (ak (bs (x++[64])))):=aR x [64] (by simp;omega)
  have a2:aA .add (V.d (ak (bs (x++[64])))) (V.d (ak (bs d)))=some (V.d (ak (bs (x++64::d)))):=by
   have:=aR (x++[64]) d (by simp;omega);rw[this,List.append_assoc];rfl
  have hw2:IntKind.i64.wrap (((x.length:Nat):Int)+1)=((x.length+1:Nat):Int):=by rw[bd (by omega) (by omega)];omega
  have hif:=iq (x++91::(d++[93])) (by rw[hlen];omega);rw[hix]at hif;generalize x++91::(d++[93])=T at *;simp -dsimp -implicitDefEqProofs only[aw,ac,V.copy,V.lend,V.lend1,V.cells,V.boxable,over,al,ah,ae,ai,V.plain,Nat.reduceLeDiff,cond_true,cond_false,implies_true,eq_self,ne_eq,reduceIte,reduceCtorEq,Nat.reduceBEq,Nat.reduceLT,Nat.reduceEqDiff,Nat.reduceAdd,Nat.reduceSub,Nat.reduceMul];refine ao (hif _) ?_;simp -dsimp -implicitDefEqProofs only[aw,ac,V.copy,V.lend,V.lend1,V.cells,V.boxable,over,al,ah,ae,ai,V.plain,Nat.reduceLeDiff,cond_true,cond_false,implies_true,eq_self,ne_eq,reduceIte,reduceCtorEq,Nat.reduceBEq,Nat.reduceLT,Nat.reduceEqDiff,Nat.reduceAdd,Nat.reduceSub,Nat.reduceMul,decide_eq_true (show(0:Int)≤((x.length:Nat):Int)by omega),s1,a1,hw2,s2];refine ay (wP d (by omega) _) ?_
  simp -dsimp -implicitDefEqProofs only[aw,ac,V.copy,V.lend,V.lend1,V.cells,V.boxable,over,al,ah,ae,ai,V.plain,Nat.reduceLeDiff,cond_true,cond_false,implies_true,eq_self,ne_eq,reduceIte,reduceCtorEq,Nat.reduceBEq,Nat.reduceLT,Nat.reduceEqDiff,Nat.reduceAdd,Nat.reduceSub,Nat.reduceMul,a2];first|exact aj hb rfl rfl List.take_length ⟨rfl,rfl⟩|exact aj hb rfl rfl List.take_left ⟨rfl,rfl⟩|(trace_state;fail "fin")
 ·rw[if_neg hel];have hn:=h.resolve_left hel;have hix:=ly s.data.toList (ni (gV hn));have hif:=iq s.data.toList (by have:=cT hn;omega);rw[hix,bZ]at hif;simp -dsimp -implicitDefEqProofs only[aw,ac,V.copy,V.lend,V.lend1,V.cells,V.boxable,over,al,ah,ae,ai,V.plain,Nat.reduceLeDiff,cond_true,cond_false,implies_true,eq_self,ne_eq,reduceIte,reduceCtorEq,Nat.reduceBEq,Nat.reduceLT,Nat.reduceEqDiff,Nat.reduceAdd,Nat.reduceSub,Nat.reduceMul];refine ao (hif _) ?_;simp -dsimp -implicitDefEqProofs only[aw,ac,V.copy,V.lend,V.lend1,V.cells,V.boxable,over,al,ah,ae,ai,V.plain,Nat.reduceLeDiff,cond_true,cond_false,implies_true,eq_self,ne_eq,reduceIte,reduceCtorEq,Nat.reduceBEq,Nat.reduceLT,Nat.reduceEqDiff,Nat.reduceAdd,Nat.reduceSub,Nat.reduceMul,Int.reduceLE,decide_false];rw[bZ]
  first|exact aj hb rfl rfl List.take_length ⟨rfl,rfl⟩|exact aj hb rfl rfl List.take_left ⟨rfl,rfl⟩|(trace_state;fail "fin")
end Go.Proofs.YthekkgfmagliiaaGreatDoor
