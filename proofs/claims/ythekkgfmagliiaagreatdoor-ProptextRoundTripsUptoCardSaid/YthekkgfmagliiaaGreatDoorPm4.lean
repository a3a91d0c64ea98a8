import Derived.Test.YthekkgfmagliiaaGreatDoorEt5
import Derived.Test.YthekkgfmagliiaaGreatDoorK3
set_option linter.unusedVariables false
set_option linter.unusedSimpArgs false
set_option linter.unusedSectionVars false
set_option maxHeartbeats 8000000
open Bool renaming false_eq_true->RS
open Int renaming reduceEq->RU,ofNat_lt->RW
open List renaming getElem?_eq_getElem->RX,take_left->RY,drop_eq_nil_of_le->RZ,drop_eq_getElem_cons->R0,map_cons->R5,map_nil->R6,take_length->R7,getElem?_eq_none->R8,length_map->R9,take_of_length_le->Sa,intercalate->Sb,getElem_mem->Sc,length_set->Sd,getElem?_append_right->Se,getElem?_map->Sf,length_drop->Si,map_append->Sj,find?_cons->Sk
open Nat renaming le_refl->Sl
namespace Go.Proofs.YthekkgfmagliiaaGreatDoor
open Go.RowKit
open Nat renaming reduceLeDiff -> jA, reduceBEq -> jB, reduceLT -> jC, reduceEqDiff -> jD, reduceAdd -> jE, reduceSub -> jF, reduceMul -> jG
open V renaming copy -> jV, lend -> jW, lend1 -> jX, cells -> jY, boxable -> jZ
theorem bI{a b c:Bs}(h:a++b=c)(hl:a.length+b.length≤9223372036854775807):aO .add (V.d (ae (bs a))) (V.d (ae (bs b)))=some (V.d (ae (bs c))):=by rw[bR _ _ hl,h]
theorem sf(sep:Bs):∀L:List Bs,Lib.join L sep=mt sep L
 | []=>rfl
 | [a]=>by simp[Lib.join,Sb,mt]
 | a::b::r=>by
  have:=sf sep (b::r);unfold Lib.join Sb at this;rw[mt,<-this];simp[Lib.join,Sb]
theorem rN{l:List Ts}{a:Ts}(k:Nat)(h:l[k]? = some a):iaV 9 (V.d (D.sl (l.map dts))) (V.d (D.lit (Value.int IntKind.i64 k)))=some (.row (dts a) 0):=by
 have e:(l.map dts)[k]? = some (dts a):=by rw[Sf,h];rfl
 rw[xq];show iaK 9 (l.map dts)[k]? = _;rw[e];simp[aP,lJ]
theorem Hw(s:ByteArray):∃N:Bs,s=bs N:=⟨rV s,(gi s).symm⟩
theorem zj{e:Ex}(h:aH e=0)(hs:aT e≤1000000)(σ:LLV):Fun G 54 [vex e] σ (az (.d (ae (bs (bj e)))) σ):=by
 have hd:=l8 e;have:=xg e hs (by omega) σ;rw[if_pos h]at this;exact this
theorem Ay(s:Ts)(σ:LLV):Fun G 90 [vts s] σ (az (.d (ab (lvT s.op))) σ):=by
 refine ai Tryz.func90 k90 (by simp only[ak];rfl) fun hb hw=>?_;unfold c90 lvT;by_cases h4:s.op=4
 .rw[if_pos h4];simp -dsimp only[aw,jV,jW,jX,jY,jZ,jA,reduceIte,reduceCtorEq,jB,jC,jD,jE,jF,jG,ak,decide_eq_true h4];first|exact aA hb rfl rfl|exact aB hb rfl rfl
 rw[if_neg h4];by_cases h5:s.op=5
 .rw[if_pos h5];simp -dsimp only[aw,jV,jW,jX,jY,jZ,jA,reduceIte,reduceCtorEq,jB,jC,jD,jE,jF,jG,ak,decide_eq_false h4,decide_eq_true h5];first|exact aA hb rfl rfl|exact aB hb rfl rfl
 rw[if_neg h5];by_cases h2:s.op=2
 .rw[if_pos h2];simp -dsimp only[aw,jV,jW,jX,jY,jZ,jA,reduceIte,reduceCtorEq,jB,jC,jD,jE,jF,jG,ak,decide_eq_false h4,decide_eq_false h5,decide_eq_true h2];first|exact aA hb rfl rfl|exact aB hb rfl rfl
 rw[if_neg h2];by_cases h7:s.op=7
 .rw[if_pos h7];simp -dsimp only[aw,jV,jW,jX,jY,jZ,jA,reduceIte,reduceCtorEq,jB,jC,jD,jE,jF,jG,ak,decide_eq_false h4,decide_eq_false h5,decide_eq_false h2,decide_eq_true h7];first|exact aA hb rfl rfl|exact aB hb rfl rfl
 rw[if_neg h7];by_cases h3:s.op=3
 .rw[if_pos h3];simp -dsimp only[aw,jV,jW,jX,jY,jZ,jA,reduceIte,reduceCtorEq,jB,jC,jD,jE,jF,jG,ak,decide_eq_false h4,decide_eq_false h5,decide_eq_false h2,decide_eq_false h7,decide_eq_true h3];first|exact aA hb rfl rfl|exact aB hb rfl rfl
 rw[if_neg h3];simp -dsimp only[aw,jV,jW,jX,jY,jZ,jA,reduceIte,reduceCtorEq,jB,jC,jD,jE,jF,jG,ak,decide_eq_false h4,decide_eq_false h5,decide_eq_false h2,decide_eq_false h7,decide_eq_false h3];first|exact aA hb rfl rfl|exact aB hb rfl rfl
theorem Fe{n:Int}(h0:0≤n)(h1:n≤16)(σ:LLV):Fun G 89 [.d (ab n)] σ (az (.d (ae (bs (tc n)))) σ):=
 qL n (by omega) (by omega) (by have:(Lib.itoa n).length≤2:=jR h0 h1;simp only[maxLen];omega) σ
theorem sI(s:Ts)(h0:0≤s.lo)(h1:s.lo≤s.hi)(h2:s.hi≤16)(σ:LLV):Fun G 52 [vts s] σ (az (.d (ae (bs (jt s.lo s.hi)))) σ):=by
 have f1:=fun σ=>Fe h0 (by omega) σ;have f2:=fun σ=>Fe (show 0≤s.hi by omega) h2 σ;have l1:=jR h0 (show s.lo≤16 by omega);have l2:=jR (show 0≤s.hi by omega) h2;refine ai Tryz.func52 k52 (by simp only[ak];rfl) fun hb hw=>?_;unfold c52 jt;by_cases he:s.lo=s.hi
 .rw[if_pos he];simp -dsimp only[aw,jV,jW,jX,jY,jZ,jA,reduceIte,reduceCtorEq,jB,jC,jD,jE,jF,jG,ak,decide_eq_true he];refine ac (f1 _) ?_;simp -dsimp only[aw,jV,jW,jX,jY,jZ,jA,reduceIte,reduceCtorEq,jB,jC,jD,jE,jF,jG];first|exact aA hb rfl rfl|exact aB hb rfl rfl
 .rw[if_neg he];generalize tc s.lo=A at *;generalize tc s.hi=B at *;have s1:aO .add (V.d (ae (bs (A)))) (V.d (ae (⟨#[58]⟩)))=some (V.d (ae (bs (A++[58])))):=bI (a:=A) (b:=[58]) (c:=A++[58]) (by first|rfl|simp) (by first|omega|(simp;omega));have s2:aO .add (V.d (ae (bs (A++[58])))) (V.d (ae (bs (B))))=some (V.d (ae (bs (A++(58::B))))):=bI (a:=A++[58]) (b:=B) (c:=A++(58::B)) (by first|rfl|simp) (by first|omega|(simp;omega));simp -dsimp only[aw,jV,jW,jX,jY,jZ,jA,reduceIte,reduceCtorEq,jB,jC,jD,jE,jF,jG,ak,decide_eq_false he];refine aN (f1 _) ?_;simp -dsimp only[aw,jV,jW,jX,jY,jZ,jA,reduceIte,reduceCtorEq,jB,jC,jD,jE,jF,jG,s1];refine aN (f2 _) ?_;simp -dsimp only[aw,jV,jW,jX,jY,jZ,jA,reduceIte,reduceCtorEq,jB,jC,jD,jE,jF,jG,s2];first|exact aA hb rfl rfl|exact aB hb rfl rfl
def K0(s:Ts):Prop:=OkT s->bd s≤1000000->∀σ:LLV,Fun G 26 [vts s] σ (az (.d (ae (bs (d6 s)))) σ)
theorem wZ(s:Ts)(k:Int)(h:K0 s)(ho:OkT s)(hb9:bd s≤1000000)(σ:LLV):Fun G 53 [vts s,.d (ab k)] σ (az (.d (ae (bs (gM k s)))) σ):=by
 have f0:=fun σ=>Ay s σ;have f1:=h ho hb9;have hl:=lG s ho;simp only[ak]at f0 f1;refine ai Tryz.func53 k53 (by simp only[ak];rfl) fun hb hw=>?_;unfold c53 gM atS;by_cases hk:lvT s.op<k
 .rw[if_pos hk];generalize d6 s=A at *;have s1:aO .add (V.d (ae (⟨#[40]⟩))) (V.d (ae (bs (A))))=some (V.d (ae (bs (40::A)))):=bI (a:=[40]) (b:=A) (c:=40::A) (by first|rfl|simp) (by first|omega|(simp;omega));have s2:aO .add (V.d (ae (bs (40::A)))) (V.d (ae (⟨#[41]⟩)))=some (V.d (ae (bs (40::(A++[41]))))):=bI (a:=40::A) (b:=[41]) (c:=40::(A++[41])) (by first|rfl|simp) (by first|omega|(simp;omega));simp -dsimp only[aw,jV,jW,jX,jY,jZ,jA,reduceIte,reduceCtorEq,jB,jC,jD,jE,jF,jG,ak];refine ac (f0 _) ?_;simp -dsimp only[aw,jV,jW,jX,jY,jZ,jA,reduceIte,reduceCtorEq,jB,jC,jD,jE,jF,jG,decide_eq_true hk];refine ac (f1 _) ?_;simp -dsimp only[aw,jV,jW,jX,jY,jZ,jA,reduceIte,reduceCtorEq,jB,jC,jD,jE,jF,jG,s1,s2];first|exact aA hb rfl rfl|exact aB hb rfl rfl
 .rw[if_neg hk];simp -dsimp only[aw,jV,jW,jX,jY,jZ,jA,reduceIte,reduceCtorEq,jB,jC,jD,jE,jF,jG,ak];refine ac (f0 _) ?_;simp -dsimp only[aw,jV,jW,jX,jY,jZ,jA,reduceIte,reduceCtorEq,jB,jC,jD,jE,jF,jG,decide_eq_false hk];refine ac (f1 _) ?_;simp -dsimp only[aw,jV,jW,jX,jY,jZ,jA,reduceIte,reduceCtorEq,jB,jC,jD,jE,jF,jG];first|exact aA hb rfl rfl|exact aB hb rfl rfl
theorem uF(l:List Ts)(w:Bs)(k:Int)(hw5:w.length≤5)(h:∀a,a∈l->K0 a/\OkT a)(hb9:cj l≤1000000)(σ:LLV):Fun G 51 [.d (.sl (l.map dts)),.d (ae (bs w)),.d (ab k)] σ (az (.d (ae (bs (mt w (l.map (gM k)))))) σ):=by
 have hll:=ut l;have hsl:=qi w k 0 hw5 l fun a ha=>lG a (h a ha).2;refine ai Tryz.func51 k51 rfl fun hb hw=>?_;unfold c51;simp -dsimp only[aw,jV,jW,jX,jY,jZ,jA,reduceIte,reduceCtorEq,jB,jC,jD,jE,jF,jG,R9];refine aY [1,2,7,10,11,12] (fun(j:Nat) ρ σ'=>ρ=[(1,.d (ae (bs w))),(2,.d (ab k)),(7,.own 9 1 (((l.take j).map fun a=>bs (gM k a)).map fun s=>[ae s])),(10,.d (.sl (l.map dts))),(11,aI .i64 l.length),(12,aI .i64 j)]/\σ'=σ) l.length ⟨rfl,rfl⟩ ?_ _;rintro j ρ' σ' hj ⟨rfl,rfl⟩;by_cases hlt:j<l.length
 .have wj:=bl hlt (show l.length≤9223372036854775807 by omega);have e1:(l.map dts)[j]? = some (dts l[j]):=by rw[Sf,RX hlt];rfl
  obtain⟨h1,h2⟩:=h _ (Sc hlt);have hm:=tB (Sc hlt);have f1:=fun σ=>wZ l[j] k h1 h2 (by omega) σ;simp only[ak]at f1;simp -dsimp only[aw,jV,jW,jX,jY,jZ,jA,reduceIte,reduceCtorEq,jB,jC,jD,jE,jF,jG,R9,RW,hlt,decide_true,e1,bw l[j],R5,R6];refine ac (f1 _) ?_;simp -dsimp only[aw,jV,jW,jX,jY,jZ,jA,reduceIte,reduceCtorEq,jB,jC,jD,jE,jF,jG];refine bH (by first|omega|(simp only[R9,List.length_take];omega)) ?_;simp -dsimp only[aw,jV,jW,jX,jY,jZ,jA,reduceIte,reduceCtorEq,jB,jC,jD,jE,jF,jG,wj];exact⟨hlt,Nxt.to σ' _ rfl (Sl _) hb (by simp[am,V.under]) ⟨by rw[List.take_succ_eq_append_getElem hlt,Sj,Sj];rfl,rfl⟩⟩
 .simp -dsimp only[aw,jV,jW,jX,jY,jZ,jA,reduceIte,reduceCtorEq,jB,jC,jD,jE,jF,jG,R9,RW,hlt,decide_false];rw[Sa (by omega)]
  have hm:(l.map fun a=>bs (gM k a)).map (·.data.toList)=l.map (gM k):=by
   rw[List.map_map];exact List.map_congr_left fun c _=>cq _
  have hj:=ti w (l.map fun a=>bs (gM k a)) (by rw[R9];omega) (by rw[sf,hm];omega);rw[sf,hm]at hj;simp only[dA]at hj;refine ac (hj _) ?_;simp -dsimp only[aw,jV,jW,jX,jY,jZ,jA,reduceIte,reduceCtorEq,jB,jC,jD,jE,jF,jG];first|exact aA hb rfl rfl|exact aB hb rfl rfl
theorem mS(s:Ts):K0 s:=by
 induction s using Ts.ind with
 | h s ih=>
 intro hs hb9 σ;have hn:=hs.nd;have hbe:=gm s;have hlen:=lG s hs;have hex:s.op=1\/s.op=6\/s.op=7->∀σ,Fun G 54 [vex s.ex] σ (az (.d (ae (bs (bj s.ex)))) σ):=fun g σ=>zj (hn.ex g) (by omega) σ;have hat:∀a,a∈s.args->∀(k:Int) σ,Fun G 53 [vts a,.d (ab k)] σ (az (.d (ae (bs (gM k a)))) σ):=fun a ha k σ=>wZ a k (ih a ha) (hs.arg ha) (by have:=d5 ha;omega) σ;have hjo:∀(w:Bs) (k:Int),w.length≤5->∀σ,Fun G 51 [.d (.sl (s.args.map dts)),.d (ae (bs w)),.d (ab k)] σ (az (.d (ae (bs (mt w (s.args.map (gM k)))))) σ):=fun w k hw σ=>uF s.args w k hw (fun a ha=>⟨ih a ha,hs.arg ha⟩) (by omega) σ;rw[vD]at hlen ⊢;refine ai Tryz.func26 k26 (by simp only[ak];rfl) fun hb hw=>?_;unfold c26;rcases hn.sh with⟨o,h,-⟩|⟨o,⟨a,b,h⟩,h0,h1,h2⟩|⟨o,⟨a,h⟩,h0,h1,h2⟩|⟨o,h0,h1,h2⟩|⟨o,⟨a,h⟩,h0,h1⟩
 .have f1:=hex (.inl o);have hN:dQ s.op s.lo s.hi s.ex s.name (s.args.map fun a=>(a.op,d6 a))=123::(bj s.ex++[125]):=by unfold dQ;rw[o];simp
  simp only[al]at f1;rw[hN]at hlen ⊢;generalize bj s.ex=T at *;have hl2:T.length≤90000000:=by simp at hlen;omega
  have s1:aO .add (V.d (ae (⟨#[123]⟩))) (V.d (ae (bs (T))))=some (V.d (ae (bs (123::T)))):=bI (a:=[123]) (b:=T) (c:=123::T) (by first|rfl|simp) (by first|omega|(simp;omega));have s2:aO .add (V.d (ae (bs (123::T)))) (V.d (ae (⟨#[125]⟩)))=some (V.d (ae (bs (123::(T++[125]))))):=bI (a:=123::T) (b:=[125]) (c:=123::(T++[125])) (by first|rfl|simp) (by first|omega|(simp;omega));simp -dsimp only[aw,jV,jW,jX,jY,jZ,jA,reduceIte,reduceCtorEq,jB,jC,jD,jE,jF,jG,ak,o,RU,decide_true,decide_false];refine ac (f1 _) ?_;simp -dsimp only[aw,jV,jW,jX,jY,jZ,jA,reduceIte,reduceCtorEq,jB,jC,jD,jE,jF,jG,s1,s2];first|exact aA hb rfl rfl|exact aB hb rfl rfl
 .have fb:=fun σ=>sI s h0 h1 h2 σ;have f1:=hat a (by rw[h];simp) 3;have f2:=hat b (by rw[h];simp) 4;have hN:dQ s.op s.lo s.hi s.ex s.name (s.args.map fun a=>(a.op,d6 a))=gM 3 a++32::35::35::(sF s.lo s.hi++32::gM 4 b):=by unfold dQ;rw[o,h];simp[gM]
  simp only[ak]at f1 f2 fb;simp only[o]at fb;have e0:iaV 9 (V.d (D.sl (s.args.map dts))) (V.d (D.lit (Value.int IntKind.i64 0)))=some (.row (dts a) 0):=rN 0 (by rw[h];rfl);have e1:iaV 9 (V.d (D.sl (s.args.map dts))) (V.d (D.lit (Value.int IntKind.i64 1)))=some (.row (dts b) 0):=rN 1 (by rw[h];rfl);rw[hN]at hlen ⊢;have hsp:=sx h0 h1 h2;unfold sF at hlen ⊢;generalize gM 3 a=A at *;generalize gM 4 b=B at *;by_cases he:s.lo=s.hi
  .rw[if_pos he]at hlen ⊢;generalize jt s.lo s.hi=C at *;have hl2:A.length+C.length+B.length≤90000000:=by simp at hlen;omega
   have s1:aO .add (V.d (ae (bs (A)))) (V.d (ae (⟨#[32,35,35]⟩)))=some (V.d (ae (bs (A++[32,35,35])))):=bI (a:=A) (b:=[32,35,35]) (c:=A++[32,35,35]) (by first|rfl|simp) (by first|omega|(simp;omega));have s2:aO .add (V.d (ae (bs (A++[32,35,35])))) (V.d (ae (bs (C))))=some (V.d (ae (bs (A++(32::35::35::C))))):=bI (a:=A++[32,35,35]) (b:=C) (c:=A++(32::35::35::C)) (by first|rfl|simp) (by first|omega|(simp;omega));have s3:aO .add (V.d (ae (bs (A++(32::35::35::C))))) (V.d (ae (⟨#[32]⟩)))=some (V.d (ae (bs (A++(32::35::35::(C++[32])))))):=bI (a:=A++(32::35::35::C)) (b:=[32]) (c:=A++(32::35::35::(C++[32]))) (by first|rfl|simp) (by first|omega|(simp;omega))
   have s4:aO .add (V.d (ae (bs (A++(32::35::35::(C++[32])))))) (V.d (ae (bs (B))))=some (V.d (ae (bs (A++(32::35::35::(C++(32::B))))))):=bI (a:=A++(32::35::35::(C++[32]))) (b:=B) (c:=A++(32::35::35::(C++(32::B)))) (by first|rfl|simp) (by first|omega|(simp;omega));simp -dsimp only[aw,jV,jW,jX,jY,jZ,jA,reduceIte,reduceCtorEq,jB,jC,jD,jE,jF,jG,ak,o,RU,decide_true,decide_false];refine ac (fb _) ?_;simp -dsimp only[aw,jV,jW,jX,jY,jZ,jA,reduceIte,reduceCtorEq,jB,jC,jD,jE,jF,jG,decide_eq_true he,e0,e1,bw a,bw b,R5,R6,s1,s2,s3,s4];refine aN (f1 _) ?_;simp -dsimp only[aw,jV,jW,jX,jY,jZ,jA,reduceIte,reduceCtorEq,jB,jC,jD,jE,jF,jG,e0,e1,bw a,bw b,R5,R6,s1,s2,s3,s4];refine aN (f2 _) ?_;simp -dsimp only[aw,jV,jW,jX,jY,jZ,jA,reduceIte,reduceCtorEq,jB,jC,jD,jE,jF,jG,s1,s2,s3,s4]
   first|exact aA hb rfl rfl|exact aB hb rfl rfl
  .rw[if_neg he]at hlen ⊢;generalize jt s.lo s.hi=C at *;have hl2:A.length+C.length+B.length≤90000000:=by simp at hlen;omega
   have u1:aO .add (V.d (ae (⟨#[91]⟩))) (V.d (ae (bs (C))))=some (V.d (ae (bs (91::C)))):=bI (a:=[91]) (b:=C) (c:=91::C) (by first|rfl|simp) (by first|omega|(simp;omega));have u2:aO .add (V.d (ae (bs (91::C)))) (V.d (ae (⟨#[93]⟩)))=some (V.d (ae (bs (91::(C++[93]))))):=bI (a:=91::C) (b:=[93]) (c:=91::(C++[93])) (by first|rfl|simp) (by first|omega|(simp;omega));have s1:aO .add (V.d (ae (bs (A)))) (V.d (ae (⟨#[32,35,35]⟩)))=some (V.d (ae (bs (A++[32,35,35])))):=bI (a:=A) (b:=[32,35,35]) (c:=A++[32,35,35]) (by first|rfl|simp) (by first|omega|(simp;omega));have s2:aO .add (V.d (ae (bs (A++[32,35,35])))) (V.d (ae (bs (91::(C++[93])))))=some (V.d (ae (bs (A++(32::35::35::(91::(C++[93]))))))):=bI (a:=A++[32,35,35]) (b:=91::(C++[93])) (c:=A++(32::35::35::(91::(C++[93])))) (by first|rfl|simp) (by first|omega|(simp;omega))
   have s3:aO .add (V.d (ae (bs (A++(32::35::35::91::(C++[93])))))) (V.d (ae (⟨#[32]⟩)))=some (V.d (ae (bs (A++(32::35::35::91::(C++(93::[32]))))))):=bI (a:=A++(32::35::35::91::(C++[93]))) (b:=[32]) (c:=A++(32::35::35::91::(C++(93::[32])))) (by first|rfl|simp) (by first|omega|(simp;omega));have s4:aO .add (V.d (ae (bs (A++(32::35::35::91::(C++[93,32])))))) (V.d (ae (bs (B))))=some (V.d (ae (bs (A++(32::35::35::91::(C++(93::32::B))))))):=bI (a:=A++(32::35::35::91::(C++[93,32]))) (b:=B) (c:=A++(32::35::35::91::(C++(93::32::B)))) (by first|rfl|simp) (by first|omega|(simp;omega));simp -dsimp only[aw,jV,jW,jX,jY,jZ,jA,reduceIte,reduceCtorEq,jB,jC,jD,jE,jF,jG,ak,o,RU,decide_true,decide_false];refine ac (fb _) ?_
   simp -dsimp only[aw,jV,jW,jX,jY,jZ,jA,reduceIte,reduceCtorEq,jB,jC,jD,jE,jF,jG,decide_eq_false he,e0,e1,bw a,bw b,R5,R6,s1,s2,s3,s4,u1,u2];refine aN (f1 _) ?_;simp -dsimp only[aw,jV,jW,jX,jY,jZ,jA,reduceIte,reduceCtorEq,jB,jC,jD,jE,jF,jG,e0,e1,bw a,bw b,R5,R6,s1,s2,s3,s4,u1,u2];refine aN (f2 _) ?_;simp -dsimp only[aw,jV,jW,jX,jY,jZ,jA,reduceIte,reduceCtorEq,jB,jC,jD,jE,jF,jG,s1,s2,s3,s4,u1,u2];first|exact aA hb rfl rfl|exact aB hb rfl rfl
 .have fb:=fun σ=>sI s (by omega) h1 h2 σ;have f1:=hat a (by rw[h];simp) 5;have hN:dQ s.op s.lo s.hi s.ex s.name (s.args.map fun a=>(a.op,d6 a))=gM 5 a++(32::91::42::(jt s.lo s.hi++[93])):=by unfold dQ;rw[o,h];simp[gM]
  simp only[ak]at f1 fb;simp only[o]at fb;have e0:iaV 9 (V.d (D.sl (s.args.map dts))) (V.d (D.lit (Value.int IntKind.i64 0)))=some (.row (dts a) 0):=rN 0 (by rw[h];rfl);rw[hN]at hlen ⊢;generalize gM 5 a=A at *;generalize jt s.lo s.hi=C at *;have hl2:A.length+C.length≤90000000:=by simp at hlen;omega
  have s1:aO .add (V.d (ae (bs (A)))) (V.d (ae (⟨#[32,91,42]⟩)))=some (V.d (ae (bs (A++[32,91,42])))):=bI (a:=A) (b:=[32,91,42]) (c:=A++[32,91,42]) (by first|rfl|simp) (by first|omega|(simp;omega));have s2:aO .add (V.d (ae (bs (A++[32,91,42])))) (V.d (ae (bs (C))))=some (V.d (ae (bs (A++(32::91::42::C))))):=bI (a:=A++[32,91,42]) (b:=C) (c:=A++(32::91::42::C)) (by first|rfl|simp) (by first|omega|(simp;omega));have s3:aO .add (V.d (ae (bs (A++(32::91::42::C))))) (V.d (ae (⟨#[93]⟩)))=some (V.d (ae (bs (A++(32::91::42::(C++[93])))))):=bI (a:=A++(32::91::42::C)) (b:=[93]) (c:=A++(32::91::42::(C++[93]))) (by first|rfl|simp) (by first|omega|(simp;omega));simp -dsimp only[aw,jV,jW,jX,jY,jZ,jA,reduceIte,reduceCtorEq,jB,jC,jD,jE,jF,jG,ak,o,RU,decide_true,decide_false,e0,bw a,R5,R6];refine aN (f1 _) ?_
  simp -dsimp only[aw,jV,jW,jX,jY,jZ,jA,reduceIte,reduceCtorEq,jB,jC,jD,jE,jF,jG,s1,s2,s3];refine aN (fb _) ?_;simp -dsimp only[aw,jV,jW,jX,jY,jZ,jA,reduceIte,reduceCtorEq,jB,jC,jD,jE,jF,jG,s1,s2,s3];first|exact aA hb rfl rfl|exact aB hb rfl rfl
 .rcases o with o|o
  .have f1:=hjo [32,111,114,32] 2 (by decide);have hN:dQ s.op s.lo s.hi s.ex s.name (s.args.map fun a=>(a.op,d6 a))=mt [32,111,114,32] (s.args.map (gM 2)):=by unfold dQ;rw[o,if_pos rfl,o9]
   rw[hN];simp -dsimp only[aw,jV,jW,jX,jY,jZ,jA,reduceIte,reduceCtorEq,jB,jC,jD,jE,jF,jG,ak,o,RU,decide_true,decide_false];refine ac (f1 _) ?_;simp -dsimp only[aw,jV,jW,jX,jY,jZ,jA,reduceIte,reduceCtorEq,jB,jC,jD,jE,jF,jG];first|exact aA hb rfl rfl|exact aB hb rfl rfl
  .have f1:=hjo [32,97,110,100,32] 3 (by decide);have hN:dQ s.op s.lo s.hi s.ex s.name (s.args.map fun a=>(a.op,d6 a))=mt [32,97,110,100,32] (s.args.map (gM 3)):=by unfold dQ;rw[o,if_neg (by decide),if_pos rfl,o9]
   rw[hN];simp -dsimp only[aw,jV,jW,jX,jY,jZ,jA,reduceIte,reduceCtorEq,jB,jC,jD,jE,jF,jG,ak,o,RU,decide_true,decide_false];refine ac (f1 _) ?_;simp -dsimp only[aw,jV,jW,jX,jY,jZ,jA,reduceIte,reduceCtorEq,jB,jC,jD,jE,jF,jG];first|exact aA hb rfl rfl|exact aB hb rfl rfl
 .rcases o with o|o
  .have f0:=hex (.inr (.inl o));have f1:=ih a (by rw[h];simp) (hs.arg (by rw[h];simp)) (by have:=d5 (s:=s) (a:=a) (by rw[h];simp);omega);have hN:dQ s.op s.lo s.hi s.ex s.name (s.args.map fun a=>(a.op,d6 a))=40::(d6 a++(44::32::(rV s.name++(32::61::32::(bj s.ex++[41]))))):=by unfold dQ;rw[o,h];simp
   simp only[al]at f0;simp only[ak]at f1;have e0:iaV 9 (V.d (D.sl (s.args.map dts))) (V.d (D.lit (Value.int IntKind.i64 0)))=some (.row (dts a) 0):=rN 0 (by rw[h];rfl);obtain⟨M,hM⟩:=Hw s.name;have hM2:rV s.name=M:=by rw[hM];exact cq M
   rw[hN,hM2]at hlen;rw[hN,hM2];generalize d6 a=A at *;generalize bj s.ex=T at *;have hl2:A.length+M.length+T.length≤90000000:=by simp at hlen;omega
   have s1:aO .add (V.d (ae (⟨#[40]⟩))) (V.d (ae (bs (A))))=some (V.d (ae (bs (40::A)))):=bI (a:=[40]) (b:=A) (c:=40::A) (by first|rfl|simp) (by first|omega|(simp;omega));have s2:aO .add (V.d (ae (bs (40::A)))) (V.d (ae (⟨#[44,32]⟩)))=some (V.d (ae (bs (40::(A++[44,32]))))):=bI (a:=40::A) (b:=[44,32]) (c:=40::(A++[44,32])) (by first|rfl|simp) (by first|omega|(simp;omega));have s3:aO .add (V.d (ae (bs (40::(A++[44,32]))))) (V.d (ae (bs (M))))=some (V.d (ae (bs (40::(A++(44::32::M)))))):=bI (a:=40::(A++[44,32])) (b:=M) (c:=40::(A++(44::32::M))) (by first|rfl|simp) (by first|omega|(simp;omega))
   have s4:aO .add (V.d (ae (bs (40::(A++(44::32::M)))))) (V.d (ae (⟨#[32,61,32]⟩)))=some (V.d (ae (bs (40::(A++(44::32::(M++[32,61,32]))))))):=bI (a:=40::(A++(44::32::M))) (b:=[32,61,32]) (c:=40::(A++(44::32::(M++[32,61,32])))) (by first|rfl|simp) (by first|omega|(simp;omega));have s5:aO .add (V.d (ae (bs (40::(A++(44::32::(M++[32,61,32]))))))) (V.d (ae (bs (T))))=some (V.d (ae (bs (40::(A++(44::32::(M++(32::61::32::T)))))))):=bI (a:=40::(A++(44::32::(M++[32,61,32])))) (b:=T) (c:=40::(A++(44::32::(M++(32::61::32::T))))) (by first|rfl|simp) (by first|omega|(simp;omega))
   have s6:aO .add (V.d (ae (bs (40::(A++(44::32::(M++(32::61::32::T)))))))) (V.d (ae (⟨#[41]⟩)))=some (V.d (ae (bs (40::(A++(44::32::(M++(32::61::32::(T++[41]))))))))):=bI (a:=40::(A++(44::32::(M++(32::61::32::T))))) (b:=[41]) (c:=40::(A++(44::32::(M++(32::61::32::(T++[41])))))) (by first|rfl|simp) (by first|omega|(simp;omega));simp -dsimp only[aw,jV,jW,jX,jY,jZ,jA,reduceIte,reduceCtorEq,jB,jC,jD,jE,jF,jG,ak,o,RU,decide_true,decide_false,hM,e0,bw a,R5,R6];refine aN (f1 _) ?_;simp -dsimp only[aw,jV,jW,jX,jY,jZ,jA,reduceIte,reduceCtorEq,jB,jC,jD,jE,jF,jG,hM,s1,s2,s3,s4,s5,s6];refine aN (f0 _) ?_;simp -dsimp only[aw,jV,jW,jX,jY,jZ,jA,reduceIte,reduceCtorEq,jB,jC,jD,jE,jF,jG,s1,s2,s3,s4,s5,s6];first|exact aA hb rfl rfl|exact aB hb rfl rfl
  .have f0:=hex (.inr (.inr o));have f1:=hat a (by rw[h];simp) 4;have hN:dQ s.op s.lo s.hi s.ex s.name (s.args.map fun a=>(a.op,d6 a))=104::111::108::100::32::123::(bj s.ex++(125::32::105::110::32::gM 4 a)):=by unfold dQ;rw[o,h];simp[gM]
   simp only[al]at f0;simp only[ak]at f1;have e0:iaV 9 (V.d (D.sl (s.args.map dts))) (V.d (D.lit (Value.int IntKind.i64 0)))=some (.row (dts a) 0):=rN 0 (by rw[h];rfl);rw[hN]at hlen ⊢;generalize gM 4 a=A at *;generalize bj s.ex=T at *;have hl2:A.length+T.length≤90000000:=by simp at hlen;omega
   have s1:aO .add (V.d (ae (⟨#[104,111,108,100,32,123]⟩))) (V.d (ae (bs (T))))=some (V.d (ae (bs (104::111::108::100::32::123::T)))):=bI (a:=[104,111,108,100,32,123]) (b:=T) (c:=104::111::108::100::32::123::T) (by first|rfl|simp) (by first|omega|(simp;omega));have s2:aO .add (V.d (ae (bs (104::111::108::100::32::123::T)))) (V.d (ae (⟨#[125,32,105,110,32]⟩)))=some (V.d (ae (bs (104::111::108::100::32::123::(T++[125,32,105,110,32]))))):=bI (a:=104::111::108::100::32::123::T) (b:=[125,32,105,110,32]) (c:=104::111::108::100::32::123::(T++[125,32,105,110,32])) (by first|rfl|simp) (by first|omega|(simp;omega))
   have s3:aO .add (V.d (ae (bs (104::111::108::100::32::123::(T++[125,32,105,110,32]))))) (V.d (ae (bs (A))))=some (V.d (ae (bs (104::111::108::100::32::123::(T++(125::32::105::110::32::A)))))):=bI (a:=104::111::108::100::32::123::(T++[125,32,105,110,32])) (b:=A) (c:=104::111::108::100::32::123::(T++(125::32::105::110::32::A))) (by first|rfl|simp) (by first|omega|(simp;omega));simp -dsimp only[aw,jV,jW,jX,jY,jZ,jA,reduceIte,reduceCtorEq,jB,jC,jD,jE,jF,jG,ak,o,RU,decide_true,decide_false,e0,bw a,R5,R6];refine aN (f0 _) ?_;simp -dsimp only[aw,jV,jW,jX,jY,jZ,jA,reduceIte,reduceCtorEq,jB,jC,jD,jE,jF,jG,e0,bw a,R5,R6,s1,s2,s3];refine aN (f1 _) ?_;simp -dsimp only[aw,jV,jW,jX,jY,jZ,jA,reduceIte,reduceCtorEq,jB,jC,jD,jE,jF,jG,s1,s2,s3];first|exact aA hb rfl rfl|exact aB hb rfl rfl
theorem wo{s:Ts}(hb:bd s≤1000000):(rv s).length≤80000000:=by
 unfold rv;split
 .rename_i h;have:=lG s (cR h);omega
 .simp
theorem Ec(s:Ts)(hb9:bd s≤1000000)(σ:LLV):Fun G 15 [vts s] σ (az (.d (ae (bs (rv s)))) σ):=by
 have f0:=fun σ=>je s hb9 σ;simp only[ak]at f0;refine ai Tryz.func15 k15 (by simp only[ak];rfl) fun hb hw=>?_;unfold c15 rv;by_cases h:cy s=0
 .have f1:=mS s (cR h) hb9;simp only[ak]at f1;rw[if_pos h];simp -dsimp only[aw,jV,jW,jX,jY,jZ,jA,reduceIte,reduceCtorEq,jB,jC,jD,jE,jF,jG,ak];refine ac (f0 _) ?_;simp -dsimp only[aw,jV,jW,jX,jY,jZ,jA,reduceIte,reduceCtorEq,jB,jC,jD,jE,jF,jG,decide_eq_true h];refine ac (f1 _) ?_;simp -dsimp only[aw,jV,jW,jX,jY,jZ,jA,reduceIte,reduceCtorEq,jB,jC,jD,jE,jF,jG];first|exact aA hb rfl rfl|exact aB hb rfl rfl
 .rw[if_neg h];simp -dsimp only[aw,jV,jW,jX,jY,jZ,jA,reduceIte,reduceCtorEq,jB,jC,jD,jE,jF,jG,ak];refine ac (f0 _) ?_;simp -dsimp only[aw,jV,jW,jX,jY,jZ,jA,reduceIte,reduceCtorEq,jB,jC,jD,jE,jF,jG,decide_eq_false h];first|exact aA hb rfl rfl|exact aB hb rfl rfl
theorem px(p:Pr)(hb1:bd p.cond≤1000000)(hb2:bd p.then_≤1000000)(σ:LLV):Fun G 8 [vpr p] σ (az (.d (ae (bs (xd p)))) σ):=by
 have f0:=fun σ=>jJ p hb1 hb2 σ;simp only[bW]at f0;refine ai Tryz.func8 k8 (by simp only[bW];rfl) fun hb hw=>?_;unfold c8 xd;by_cases h:cm p=0
 case neg=>
  rw[if_neg h];simp -dsimp only[aw,jV,jW,jX,jY,jZ,jA,reduceIte,reduceCtorEq,jB,jC,jD,jE,jF,jG,bW];refine ac (f0 _) ?_;simp -dsimp only[aw,jV,jW,jX,jY,jZ,jA,reduceIte,reduceCtorEq,jB,jC,jD,jE,jF,jG,decide_eq_false h];first|exact aA hb rfl rfl|exact aB hb rfl rfl
 rw[if_pos h];have hv:=oq h;have f2:=mS p.then_ (cR hv.th) hb2;have l2:=lG p.then_ (cR hv.th);have hnm:=gh hv.nm;simp only[ak]at f2;obtain⟨M,hM⟩:=Hw p.name;have hM2:rV p.name=M:=by rw[hM];exact cq M
 have hMl:M.length≤16:=by rw[<-hM2];exact hnm
 unfold eQ;rw[hM2];generalize d6 p.then_=B at *;have s1:aO .add (V.d (ae (⟨#[112,114,111,112,101,114,116,121,32]⟩))) (V.d (ae (bs (M))))=some (V.d (ae (bs (112::114::111::112::101::114::116::121::32::M)))):=bI (a:=[112,114,111,112,101,114,116,121,32]) (b:=M) (c:=112::114::111::112::101::114::116::121::32::M) (by first|rfl|simp) (by first|omega|(simp;omega));have s2:aO .add (V.d (ae (bs (112::114::111::112::101::114::116::121::32::M)))) (V.d (ae (⟨#[58,32]⟩)))=some (V.d (ae (bs (112::114::111::112::101::114::116::121::32::(M++[58,32]))))):=bI (a:=112::114::111::112::101::114::116::121::32::M) (b:=[58,32]) (c:=112::114::111::112::101::114::116::121::32::(M++[58,32])) (by first|rfl|simp) (by first|omega|(simp;omega));cases hp:p.plain with
 | true=>
  rw[if_pos rfl];have s3:aO .add (V.d (ae (bs (112::114::111::112::101::114::116::121::32::(M++[58,32]))))) (V.d (ae (⟨#[112,108,97,105,110,32]⟩)))=some (V.d (ae (bs (112::114::111::112::101::114::116::121::32::(M++(58::32::[112,108,97,105,110,32])))))):=bI (a:=112::114::111::112::101::114::116::121::32::(M++[58,32])) (b:=[112,108,97,105,110,32]) (c:=112::114::111::112::101::114::116::121::32::(M++(58::32::[112,108,97,105,110,32]))) (by first|rfl|simp) (by first|omega|(simp;omega))
  have s4:aO .add (V.d (ae (bs (112::114::111::112::101::114::116::121::32::(M++[58,32,112,108,97,105,110,32]))))) (V.d (ae (bs (B))))=some (V.d (ae (bs (112::114::111::112::101::114::116::121::32::(M++(58::32::112::108::97::105::110::32::B)))))):=bI (a:=112::114::111::112::101::114::116::121::32::(M++[58,32,112,108,97,105,110,32])) (b:=B) (c:=112::114::111::112::101::114::116::121::32::(M++(58::32::112::108::97::105::110::32::B))) (by first|rfl|simp) (by first|omega|(simp;omega))
  have s5:aO .add (V.d (ae (bs (112::114::111::112::101::114::116::121::32::(M++(58::32::112::108::97::105::110::32::B)))))) (V.d (ae (⟨#[59]⟩)))=some (V.d (ae (bs (112::114::111::112::101::114::116::121::32::(M++(58::32::112::108::97::105::110::32::(B++[59]))))))):=bI (a:=112::114::111::112::101::114::116::121::32::(M++(58::32::112::108::97::105::110::32::B))) (b:=[59]) (c:=112::114::111::112::101::114::116::121::32::(M++(58::32::112::108::97::105::110::32::(B++[59])))) (by first|rfl|simp) (by first|omega|(simp;omega));have hE:(112::114::111::112::101::114::116::121::32::(M++(58::32::([112,108,97,105,110,32]++(B++[59]))):Bs))=112::114::111::112::101::114::116::121::32::(M++(58::32::112::108::97::105::110::32::(B++[59]))):=by simp
  first|rw[show([112,114,111,112,101,114,116,121,32]++(M++(58::32::([112,108,97,105,110,32]++(B++[59]))):Bs))=112::114::111::112::101::114::116::121::32::(M++(58::32::112::108::97::105::110::32::(B++[59])))by simp]|skip
  simp -dsimp only[aw,jV,jW,jX,jY,jZ,jA,reduceIte,reduceCtorEq,jB,jC,jD,jE,jF,jG,bW];refine ac (f0 _) ?_;simp -dsimp only[aw,jV,jW,jX,jY,jZ,jA,reduceIte,reduceCtorEq,jB,jC,jD,jE,jF,jG,decide_eq_true h,hp,hM,s1,s2,s3,s4,s5];refine ac (f2 _) ?_;simp -dsimp only[aw,jV,jW,jX,jY,jZ,jA,reduceIte,reduceCtorEq,jB,jC,jD,jE,jF,jG,hM,s1,s2,s3,s4,s5];first|exact aA hb rfl rfl|exact aB hb rfl rfl
 | false=>
  have f1:=mS p.cond (cR (hv.co hp)) hb1;have l1:=lG p.cond (cR (hv.co hp));simp only[ak]at f1;rw[if_neg (by simp)];generalize d6 p.cond=A at *;cases ho:p.over with
  | true=>
   rw[if_pos rfl];have s3:aO .add (V.d (ae (bs (A)))) (V.d (ae (⟨#[32,124,45,62,32]⟩)))=some (V.d (ae (bs (A++[32,124,45,62,32])))):=bI (a:=A) (b:=[32,124,45,62,32]) (c:=A++[32,124,45,62,32]) (by first|rfl|simp) (by first|omega|(simp;omega));have s4:aO .add (V.d (ae (bs (112::114::111::112::101::114::116::121::32::(M++[58,32]))))) (V.d (ae (bs (A++[32,124,45,62,32]))))=some (V.d (ae (bs (112::114::111::112::101::114::116::121::32::(M++(58::32::(A++[32,124,45,62,32]))))))):=bI (a:=112::114::111::112::101::114::116::121::32::(M++[58,32])) (b:=A++[32,124,45,62,32]) (c:=112::114::111::112::101::114::116::121::32::(M++(58::32::(A++[32,124,45,62,32])))) (by first|rfl|simp) (by first|omega|(simp;omega))
   have s5:aO .add (V.d (ae (bs (112::114::111::112::101::114::116::121::32::(M++(58::32::(A++[32,124,45,62,32]))))))) (V.d (ae (bs (B))))=some (V.d (ae (bs (112::114::111::112::101::114::116::121::32::(M++(58::32::(A++(32::124::45::62::32::B)))))))):=bI (a:=112::114::111::112::101::114::116::121::32::(M++(58::32::(A++[32,124,45,62,32])))) (b:=B) (c:=112::114::111::112::101::114::116::121::32::(M++(58::32::(A++(32::124::45::62::32::B))))) (by first|rfl|simp) (by first|omega|(simp;omega))
   have s6:aO .add (V.d (ae (bs (112::114::111::112::101::114::116::121::32::(M++(58::32::(A++(32::124::45::62::32::B)))))))) (V.d (ae (⟨#[59]⟩)))=some (V.d (ae (bs (112::114::111::112::101::114::116::121::32::(M++(58::32::(A++(32::124::45::62::32::(B++[59]))))))))):=bI (a:=112::114::111::112::101::114::116::121::32::(M++(58::32::(A++(32::124::45::62::32::B))))) (b:=[59]) (c:=112::114::111::112::101::114::116::121::32::(M++(58::32::(A++(32::124::45::62::32::(B++[59])))))) (by first|rfl|simp) (by first|omega|(simp;omega));rw[show([112,114,111,112,101,114,116,121,32]++(M++(58::32::((A++[32,124,45,62,32])++(B++[59]))):Bs))=112::114::111::112::101::114::116::121::32::(M++(58::32::(A++(32::124::45::62::32::(B++[59])))))by simp];simp -dsimp only[aw,jV,jW,jX,jY,jZ,jA,reduceIte,reduceCtorEq,jB,jC,jD,jE,jF,jG,bW];refine ac (f0 _) ?_
   simp -dsimp only[aw,jV,jW,jX,jY,jZ,jA,reduceIte,reduceCtorEq,jB,jC,jD,jE,jF,jG,decide_eq_true h,hp,ho,hM,s1,s2,s3,s4,s5,s6];refine ac (f1 _) ?_;simp -dsimp only[aw,jV,jW,jX,jY,jZ,jA,reduceIte,reduceCtorEq,jB,jC,jD,jE,jF,jG,hM,s1,s2,s3,s4,s5,s6];refine ac (f2 _) ?_;simp -dsimp only[aw,jV,jW,jX,jY,jZ,jA,reduceIte,reduceCtorEq,jB,jC,jD,jE,jF,jG,hM,s1,s2,s3,s4,s5,s6];first|exact aA hb rfl rfl|exact aB hb rfl rfl
  | false=>
   rw[if_neg (by simp)];have s3:aO .add (V.d (ae (bs (A)))) (V.d (ae (⟨#[32,124,61,62,32]⟩)))=some (V.d (ae (bs (A++[32,124,61,62,32])))):=bI (a:=A) (b:=[32,124,61,62,32]) (c:=A++[32,124,61,62,32]) (by first|rfl|simp) (by first|omega|(simp;omega));have s4:aO .add (V.d (ae (bs (112::114::111::112::101::114::116::121::32::(M++[58,32]))))) (V.d (ae (bs (A++[32,124,61,62,32]))))=some (V.d (ae (bs (112::114::111::112::101::114::116::121::32::(M++(58::32::(A++[32,124,61,62,32]))))))):=bI (a:=112::114::111::112::101::114::116::121::32::(M++[58,32])) (b:=A++[32,124,61,62,32]) (c:=112::114::111::112::101::114::116::121::32::(M++(58::32::(A++[32,124,61,62,32])))) (by first|rfl|simp) (by first|omega|(simp;omega))
   have s5:aO .add (V.d (ae (bs (112::114::111::112::101::114::116::121::32::(M++(58::32::(A++[32,124,61,62,32]))))))) (V.d (ae (bs (B))))=some (V.d (ae (bs (112::114::111::112::101::114::116::121::32::(M++(58::32::(A++(32::124::61::62::32::B)))))))):=bI (a:=112::114::111::112::101::114::116::121::32::(M++(58::32::(A++[32,124,61,62,32])))) (b:=B) (c:=112::114::111::112::101::114::116::121::32::(M++(58::32::(A++(32::124::61::62::32::B))))) (by first|rfl|simp) (by first|omega|(simp;omega))
   have s6:aO .add (V.d (ae (bs (112::114::111::112::101::114::116::121::32::(M++(58::32::(A++(32::124::61::62::32::B)))))))) (V.d (ae (⟨#[59]⟩)))=some (V.d (ae (bs (112::114::111::112::101::114::116::121::32::(M++(58::32::(A++(32::124::61::62::32::(B++[59]))))))))):=bI (a:=112::114::111::112::101::114::116::121::32::(M++(58::32::(A++(32::124::61::62::32::B))))) (b:=[59]) (c:=112::114::111::112::101::114::116::121::32::(M++(58::32::(A++(32::124::61::62::32::(B++[59])))))) (by first|rfl|simp) (by first|omega|(simp;omega));rw[show([112,114,111,112,101,114,116,121,32]++(M++(58::32::((A++[32,124,61,62,32])++(B++[59]))):Bs))=112::114::111::112::101::114::116::121::32::(M++(58::32::(A++(32::124::61::62::32::(B++[59])))))by simp];simp -dsimp only[aw,jV,jW,jX,jY,jZ,jA,reduceIte,reduceCtorEq,jB,jC,jD,jE,jF,jG,bW];refine ac (f0 _) ?_
   simp -dsimp only[aw,jV,jW,jX,jY,jZ,jA,reduceIte,reduceCtorEq,jB,jC,jD,jE,jF,jG,decide_eq_true h,hp,ho,hM,s1,s2,s3,s4,s5,s6];refine ac (f1 _) ?_;simp -dsimp only[aw,jV,jW,jX,jY,jZ,jA,reduceIte,reduceCtorEq,jB,jC,jD,jE,jF,jG,hM,s1,s2,s3,s4,s5,s6];refine ac (f2 _) ?_;simp -dsimp only[aw,jV,jW,jX,jY,jZ,jA,reduceIte,reduceCtorEq,jB,jC,jD,jE,jF,jG,hM,s1,s2,s3,s4,s5,s6];first|exact aA hb rfl rfl|exact aB hb rfl rfl
def aG(m:ByteArray)(ts:List Tok)(a:Nat):Bool:=(acc m (ts.drop a)).isSome
theorem eZ{m:ByteArray}{ts:List Tok}{a:Nat}(h:aG m ts a=true):a<ts.length:=by
 apply Classical.byContradiction;intro hn;unfold aG at h;rw[RZ (by omega)]at h;cases h
def pb(ts:List Tok)(a:Nat):List V:=[.d (.sl (ts.map eA)),.d (ab a)]
def eT(e:Int)(a:Nat):V:=.iface 203 (.agg [.d (ab e),.d (ab a)])
theorem xZ(t:Tok)(h:t.text.size≤1000)(σ:LLV):Fun G 251 [fy t] σ (az (an (bC t)) σ):=by
 refine ai Tryz.func251 Qh rfl fun hb hw=>?_;unfold MB;have hj:=AO [t] (by simp) (by simpa using h);unfold Bo at hj;simp only[List.all_cons,List.all_nil,Bool.and_true]at hj;simp -dsimp only[aw,jV,jW,jX,jY,jZ,jA,reduceIte,reduceCtorEq,jB,jC,jD,jE,jF,jG,fy];refine ac (by simpa only[R5,R6,eA]using hj _) ?_;cases hv:bC t with
 | true=>
  simp -dsimp only[aw,jV,jW,jX,jY,jZ,jA,reduceIte,reduceCtorEq,jB,jC,jD,jE,jF,jG];first|exact aA hb rfl rfl|exact aB hb rfl rfl
 | false=>
  simp -dsimp only[aw,jV,jW,jX,jY,jZ,jA,reduceIte,reduceCtorEq,jB,jC,jD,jE,jF,jG,RU,decide_false];first|exact aA hb rfl rfl|exact aB hb rfl rfl
def f9(ts:List Tok)(a:Nat):V:=match ts[a]? with
 | some t=>if bC t=true then .tup [fy t,an true]else .tup [cJ,an false]
 | none=>.tup [cJ,an false]
theorem nx(ts:List Tok)(a i:Nat)(hz:∀t,t∈ts->t.text.size≤1000)(ha:a≤ts.length)(σ:LLV)(hi:σ[i]? = some (pb ts a)):
 Fun G 249 [.ptr i 0] σ (az (f9 ts a) σ):=by
 refine ai Tryz.func249 P9 rfl fun hb hw=>?_;unfold NR;have hio:=fun t=>au hi t;unfold pb at hio;by_cases hlt:a<ts.length
 .have d1:decide (((ts.length:Nat):Int)≤((a:Nat):Int))=false:=by rw[decide_eq_false_iff_not];omega
  have hn:f9 ts a=if bC ts[a]=true then .tup [fy ts[a],an true]else .tup [cJ,an false]:=by unfold f9;rw[RX hlt]
  have hv:=xZ ts[a] (hz _ (Sc hlt));simp -dsimp only[aw,jV,jW,jX,jY,jZ,jA,reduceIte,reduceCtorEq,jB,jC,jD,jE,jF,jG,hio,d1,RX hlt,aP,eA];refine aN (by simpa only[fy]using hv _) ?_;cases hvt:bC ts[a]with
  | true=>
   rw[hn,if_pos hvt];simp -dsimp only[aw,jV,jW,jX,jY,jZ,jA,reduceIte,reduceCtorEq,jB,jC,jD,jE,jF,jG,hio,RX hlt,aP,eA];exact ao (v:=.tup [fy ts[a],an true]) hb (by simp[Bk,aU,di,bu,fy,aw,jV,jW,jX,jY,jZ,jA,reduceIte,reduceCtorEq,jB,jC,jD,jE,jF,jG]) rfl RY ⟨rfl,rfl⟩
  | false=>
   rw[hn,if_neg (by rw[hvt];decide)];simp -dsimp only[aw,jV,jW,jX,jY,jZ,jA,reduceIte,reduceCtorEq,jB,jC,jD,jE,jF,jG];exact ao (v:=.tup [cJ,an false]) hb (by simp[Bk,aU,di,bu,cJ,dC,fx,aw,jV,jW,jX,jY,jZ,jA,reduceIte,reduceCtorEq,jB,jC,jD,jE,jF,jG]) rfl RY ⟨rfl,rfl⟩
 .have d1:decide (((ts.length:Nat):Int)≤((a:Nat):Int))=true:=by rw[decide_eq_true_eq];omega
  have hn:f9 ts a=.tup [cJ,an false]:=by unfold f9;rw[R8 (by omega)]
  rw[hn];simp -dsimp only[aw,jV,jW,jX,jY,jZ,jA,reduceIte,reduceCtorEq,jB,jC,jD,jE,jF,jG,hio,d1];exact ao (v:=.tup [cJ,an false]) hb (by simp[Bk,aU,di,bu,cJ,dC,fx,aw,jV,jW,jX,jY,jZ,jA,reduceIte,reduceCtorEq,jB,jC,jD,jE,jF,jG]) rfl RY ⟨rfl,rfl⟩
theorem Bl{m:ByteArray}{ts:List Tok}{a:Nat}(h:a<ts.length):aG m ts a=(bC ts[a]&&((decide (ts[a].kind=4)||decide (ts[a].kind=2))&&decide (ts[a].text=m))):=by
 unfold aG;rw[R0 h];simp only[acc];rw[Bool.eq_iff_iff];split<;>simp_all
theorem iN{m:ByteArray}{ts:List Tok}{a:Nat}(h:¬a<ts.length):aG m ts a=false:=by
 unfold aG;rw[RZ (by omega)];rfl
theorem F2(m:ByteArray)(ts:List Tok)(a i:Nat)(hz:∀t,t∈ts->t.text.size≤1000)(ha:a≤ts.length)(σ:LLV)(hi:σ[i]? = some (pb ts a)):
 Fun G 244 [.ptr i 0,.d (ae m)] σ (az (an (aG m ts a)) σ):=by
 refine ai Tryz.func244 Qe rfl fun hb hw=>?_;unfold OS;have hN:=nx ts a i hz ha σ hi;simp -dsimp only[aw,jV,jW,jX,jY,jZ,jA,reduceIte,reduceCtorEq,jB,jC,jD,jE,jF,jG];refine ac hN ?_;by_cases hlt:a<ts.length
 .have hn:f9 ts a=if bC ts[a]=true then .tup [fy ts[a],an true]else .tup [cJ,an false]:=by unfold f9;rw[RX hlt]
  rw[hn,Bl hlt];generalize ts[a]=t;cases hvt:bC t with
  | false=>
   rw[if_neg (by decide)];simp -dsimp only[aw,jV,jW,jX,jY,jZ,jA,reduceIte,reduceCtorEq,jB,jC,jD,jE,jF,jG,cJ,dC];first|exact aA hb rfl rfl|exact aB hb rfl rfl
  | true=>
   rw[if_pos rfl];by_cases h4:t.kind=4
   .simp -dsimp only[aw,jV,jW,jX,jY,jZ,jA,reduceIte,reduceCtorEq,jB,jC,jD,jE,jF,jG,fy,decide_eq_true h4];first|exact aA hb rfl rfl|exact aB hb rfl rfl
   .by_cases h2:t.kind=2
    .simp -dsimp only[aw,jV,jW,jX,jY,jZ,jA,reduceIte,reduceCtorEq,jB,jC,jD,jE,jF,jG,fy,decide_eq_false h4,decide_eq_true h2];first|exact aA hb rfl rfl|exact aB hb rfl rfl
    .simp -dsimp only[aw,jV,jW,jX,jY,jZ,jA,reduceIte,reduceCtorEq,jB,jC,jD,jE,jF,jG,fy,decide_eq_false h4,decide_eq_false h2];first|exact aA hb rfl rfl|exact aB hb rfl rfl
 .have hn:f9 ts a=.tup [cJ,an false]:=by unfold f9;rw[R8 (by omega)]
  rw[hn,iN hlt];simp -dsimp only[aw,jV,jW,jX,jY,jZ,jA,reduceIte,reduceCtorEq,jB,jC,jD,jE,jF,jG,cJ,dC];first|exact aA hb rfl rfl|exact aB hb rfl rfl
theorem Le{σ:LLV}{i:Nat}{ts:List Tok}{a:Nat}(hi:σ[i]? = some (pb ts a)):σ.set i (pb ts a)=σ:=by
 have hlt:=(List.getElem?_eq_some_iff.1 hi).1;rw[<-(List.getElem?_eq_some_iff.1 hi).2];exact List.set_getElem_self hlt
theorem ko(m:ByteArray)(ts:List Tok)(a i:Nat)(hz:∀t,t∈ts->t.text.size≤1000)(hn:ts.length≤1000000)(ha:a≤ts.length)(σ:LLV)(hi:σ[i]? = some (pb ts a)):
 Fun G 240 [.ptr i 0,.d (ae m)] σ fun o σ'=>o=.ret (an (aG m ts a))/\σ'=if aG m ts a=true then σ.set i (pb ts (a+1))else σ:=by
 have hlt:=(List.getElem?_eq_some_iff.1 hi).1;refine ai Tryz.func240 Qn rfl fun hb hw=>?_;unfold Nr;have hS:=F2 m ts a i hz ha σ hi;simp -dsimp only[aw,jV,jW,jX,jY,jZ,jA,reduceIte,reduceCtorEq,jB,jC,jD,jE,jF,jG];refine ac hS ?_;cases hs:aG m ts a with
 | false=>
  simp -dsimp only[aw,jV,jW,jX,jY,jZ,jA,reduceIte,reduceCtorEq,jB,jC,jD,jE,jF,jG,RS,if_false];exact ao hb rfl rfl R7 ⟨rfl,rfl⟩
 | true=>
  unfold pb at hi;simp -dsimp only[aw,jV,jW,jX,jY,jZ,jA,reduceIte,reduceCtorEq,jB,jC,jD,jE,jF,jG,hi,aX (show -9223372036854775808≤((a:Nat):Int)+1 by omega) (show((a:Nat):Int)+1≤9223372036854775807 by omega),if_true];exact bP (τ:=σ.set i (pb ts (a+1))) (bv hb rfl) rfl rfl (by rw[Sa (by rw[Sd];exact Sl _)];rfl) ⟨rfl,rfl⟩
theorem sO(ts:List Tok)(a i:Nat)(ha:a≤ts.length)(σ:LLV)(hi:σ[i]? = some (pb ts a)):
 Fun G 245 [.ptr i 0] σ fun o σ'=>o=.panic (eT (if a<ts.length then 5 else 6) a)/\σ'=σ:=by
 refine ai Tryz.func245 Ry rfl fun hb hw=>?_;unfold Ms;unfold pb at hi;by_cases hlt:a<ts.length
 .have d1:decide (((ts.length:Nat):Int)≤((a:Nat):Int))=false:=by rw[decide_eq_false_iff_not];omega
  rw[if_pos hlt];simp -dsimp only[aw,jV,jW,jX,jY,jZ,jA,reduceIte,reduceCtorEq,jB,jC,jD,jE,jF,jG,hi,d1];exact⟨σ.length,Sl _,by rw[R7];exact hb,rfl,rfl,R7⟩
 .have hae:a=ts.length:=by omega
  have d1:decide (((ts.length:Nat):Int)≤((a:Nat):Int))=true:=by rw[decide_eq_true_eq];omega
  rw[if_neg hlt];simp -dsimp only[aw,jV,jW,jX,jY,jZ,jA,reduceIte,reduceCtorEq,jB,jC,jD,jE,jF,jG,hi,d1];rw[hae];exact⟨σ.length,Sl _,by rw[R7];exact hb,rfl,rfl,R7⟩
theorem ft{σ σ' τ:LLV}{ρ:ah}{rs:List RV}{Q:Out->LLV->Prop}{v:V}(hb:aj σ.length τ=true)(hσ:σ'.take σ.length=τ)(hv:V.under σ.length v=true)(hq:Q (.panic v) τ):fin σ.length rs Q (.panic v) ρ σ':=
 ⟨σ.length,Sl _,by rw[hσ];exact hb,hv,by rw[hσ];exact hq⟩
theorem EW{σ σ' τ:LLV}{ρ:ah}{rs:List RV}{Q:Out->LLV->Prop}(hb:aj σ.length τ=true){v:V}(h:aU σ' ρ rs=some v)(hv:V.under σ.length v=true)(hσ:σ'.take σ.length=τ)(hq:Q (.ret v) τ):fin σ.length rs Q .normal ρ σ':=
 ⟨ρ,σ',.refl _ _ _,v,h,σ.length,Sl _,by rw[hσ];exact hb,hv,by rw[hσ];exact hq⟩
theorem bE{K P:V->LLV->Prop}{v:V}{σ:LLV}:Dd K P (.panic v) σ=P v σ:=rfl
def ni(ts:List Tok)(a:Nat):Int:=if a<ts.length then 5 else 6
theorem cW{σ:LLV}(hb:aj σ.length σ=true)(i:Nat)(ts:List Tok)(a:Nat):aj σ.length (σ.set i (pb ts a))=true:=bv hb rfl
theorem xL{σ:LLV}(i:Nat)(X:List V):(σ.set i X).take σ.length=σ.set i X:=Sa (by rw[Sd];exact Sl _)
theorem fo{σ:LLV}(i:Nat)(X:List V)(l:LLV):(σ.set i X++l).take σ.length=σ.set i X:=by
 rw[List.take_append_of_le_length (by simp),xL]
theorem yH(m:ByteArray)(ts:List Tok)(a i:Nat)(hz:∀t,t∈ts->t.text.size≤1000)(hn:ts.length≤1000000)(ha:a≤ts.length)(σ:LLV)(hi:σ[i]? = some (pb ts a)):
 Fun G 241 [.ptr i 0,.d (ae m)] σ fun o σ'=>if aG m ts a=true then o=.ret (.tup [])/\σ'=σ.set i (pb ts (a+1))else o=.panic (eT (ni ts a) a)/\σ'=σ:=by
 refine ai Tryz.func241 Qy rfl fun hb hw=>?_;unfold Oq;have hA:=ko m ts a i hz hn ha σ hi;have hF:=sO ts a i ha σ hi;simp -dsimp only[aw,jV,jW,jX,jY,jZ,jA,reduceIte,reduceCtorEq,jB,jC,jD,jE,jF,jG];refine dG hA ?_;cases hs:aG m ts a with
 | true=>
  simp -dsimp only[aw,jV,jW,jX,jY,jZ,jA,reduceIte,reduceCtorEq,jB,jC,jD,jE,jF,jG,if_true];exact EW (τ:=σ.set i (pb ts (a+1))) (cW hb i ts _) rfl rfl (xL _ _) ⟨rfl,rfl⟩
 | false=>
  simp -dsimp only[aw,jV,jW,jX,jY,jZ,jA,reduceIte,reduceCtorEq,jB,jC,jD,jE,jF,jG,RS,if_false];refine aW hF fun o σ' ⟨e1,e2⟩=>?_;rw[e1,e2];simp -dsimp only[aw,jV,jW,jX,jY,jZ,jA,reduceIte,reduceCtorEq,jB,jC,jD,jE,jF,jG,bE];exact ft hb R7 rfl ⟨rfl,rfl⟩
theorem sP{ts:List Tok}{a:Nat}(h:a<ts.length):bA (ts.drop a)=if bC ts[a]=true/\ts[a].kind=1 then some (ts[a].text,ts.drop (a+1))else none:=by
 rw[R0 h];rfl
theorem qx{ts:List Tok}{a:Nat}(h:a<ts.length):ch (ts.drop a)=if bC ts[a]=true/\ts[a].kind=3 then some (ts[a].num,ts.drop (a+1))else none:=by
 rw[R0 h];rfl
theorem lp(t:Tok):fy t=.agg [.d (ab t.kind),.d (ab t.num),.d (ae t.text),.d (ab t.line)]:=rfl
theorem DF(ts:List Tok)(a i:Nat)(hz:∀t,t∈ts->t.text.size≤1000)(hn:ts.length≤1000000)(ha:a≤ts.length)(σ:LLV)(hi:σ[i]? = some (pb ts a)):
 Fun G 253 [.ptr i 0] σ fun o σ'=>match bA (ts.drop a)with
  | some (s,_)=>o=.ret (.d (ae s))/\σ'=σ.set i (pb ts (a+1))
  | none=>o=.panic (eT (ni ts a) a)/\σ'=σ:=by
 have hlt:=(List.getElem?_eq_some_iff.1 hi).1;have hN:=nx ts a i hz ha σ hi;have hF:=fun l=>sO ts a i ha (σ++l) (au hi l);have hbx:∀(X cs:List V),(σ.set i X++[cs])[σ.length]? = some cs:=fun X cs=>by rw[Se (by simp)];simp
 have hio:=fun t=>au hi t;have hso:=fun l x=>aR hi l x;unfold pb at hio;have hw1:IntKind.i64.wrap (((a:Nat):Int)+1)=((a+1:Nat):Int):=by rw[aX (by omega) (by omega)];omega
 refine ai Tryz.func253 Qx rfl fun hb hw=>?_;unfold Of;simp -dsimp only[aw,jV,jW,jX,jY,jZ,jA,reduceIte,reduceCtorEq,jB,jC,jD,jE,jF,jG];refine ac hN ?_;by_cases hla:a<ts.length
 .have hnv:f9 ts a=if bC ts[a]=true then .tup [fy ts[a],an true]else .tup [cJ,an false]:=by unfold f9;rw[RX hla]
  rw[hnv,sP hla];generalize ts[a]=t;by_cases hv:bC t=true
  .rw[if_pos hv];by_cases hk:t.kind=1
   .rw[if_pos ⟨hv,hk⟩];simp -dsimp only[aw,jV,jW,jX,jY,jZ,jA,reduceIte,reduceCtorEq,jB,jC,jD,jE,jF,jG,lp,decide_eq_true hk,hio,hw1,hso,hbx];exact bP (τ:=σ.set i (pb ts (a+1))) (cW hb i ts _) rfl rfl (fo _ _ _) ⟨rfl,rfl⟩
   .rw[if_neg (fun h=>hk h.2)];simp -dsimp only[aw,jV,jW,jX,jY,jZ,jA,reduceIte,reduceCtorEq,jB,jC,jD,jE,jF,jG,lp,decide_eq_false hk];refine aW (hF _) fun o σ' ⟨e1,e2⟩=>?_;rw[e1,e2];simp -dsimp only[aw,jV,jW,jX,jY,jZ,jA,reduceIte,reduceCtorEq,jB,jC,jD,jE,jF,jG,bE];exact ft hb RY rfl ⟨rfl,rfl⟩
  .rw[if_neg hv,if_neg (fun h=>hv h.1)];simp -dsimp only[aw,jV,jW,jX,jY,jZ,jA,reduceIte,reduceCtorEq,jB,jC,jD,jE,jF,jG,cJ,dC];refine aW (hF _) fun o σ' ⟨e1,e2⟩=>?_;rw[e1,e2];simp -dsimp only[aw,jV,jW,jX,jY,jZ,jA,reduceIte,reduceCtorEq,jB,jC,jD,jE,jF,jG,bE];exact ft hb RY rfl ⟨rfl,rfl⟩
 .have hnv:f9 ts a=.tup [cJ,an false]:=by unfold f9;rw[R8 (by omega)]
  rw[hnv,RZ (show ts.length≤a by omega)];simp only[bA];simp -dsimp only[aw,jV,jW,jX,jY,jZ,jA,reduceIte,reduceCtorEq,jB,jC,jD,jE,jF,jG,cJ,dC];refine aW (hF _) fun o σ' ⟨e1,e2⟩=>?_;rw[e1,e2];simp -dsimp only[aw,jV,jW,jX,jY,jZ,jA,reduceIte,reduceCtorEq,jB,jC,jD,jE,jF,jG,bE];exact ft hb RY rfl ⟨rfl,rfl⟩
theorem xA(ts:List Tok)(a i:Nat)(hz:∀t,t∈ts->t.text.size≤1000)(hn:ts.length≤1000000)(ha:a≤ts.length)(σ:LLV)(hi:σ[i]? = some (pb ts a)):
 Fun G 252 [.ptr i 0] σ fun o σ'=>match ch (ts.drop a)with
  | some (n,_)=>if 65535<n then o=.panic (eT 3 a)/\σ'=σ else o=.ret (.d (ab n))/\σ'=σ.set i (pb ts (a+1))
  | none=>o=.panic (eT (ni ts a) a)/\σ'=σ:=by
 have hlt:=(List.getElem?_eq_some_iff.1 hi).1;have hN:=nx ts a i hz ha σ hi;have hF:=fun l=>sO ts a i ha (σ++l) (au hi l);have hbx:∀(X cs:List V),(σ.set i X++[cs])[σ.length]? = some cs:=fun X cs=>by rw[Se (by simp)];simp
 have hio:=fun t=>au hi t;have hso:=fun l x=>aR hi l x;unfold pb at hio;have hw1:IntKind.i64.wrap (((a:Nat):Int)+1)=((a+1:Nat):Int):=by rw[aX (by omega) (by omega)];omega
 refine ai Tryz.func252 QE rfl fun hb hw=>?_;unfold Mt;simp -dsimp only[aw,jV,jW,jX,jY,jZ,jA,reduceIte,reduceCtorEq,jB,jC,jD,jE,jF,jG];refine ac hN ?_;by_cases hla:a<ts.length
 .have hnv:f9 ts a=if bC ts[a]=true then .tup [fy ts[a],an true]else .tup [cJ,an false]:=by unfold f9;rw[RX hla]
  rw[hnv,qx hla];generalize ts[a]=t;by_cases hv:bC t=true
  .rw[if_pos hv];by_cases hk:t.kind=3
   .rw[if_pos ⟨hv,hk⟩];simp only;by_cases hbig:65535<t.num
    .simp -dsimp only[aw,jV,jW,jX,jY,jZ,jA,reduceIte,reduceCtorEq,jB,jC,jD,jE,jF,jG,lp,decide_eq_true hk,hio,decide_eq_true hbig];exact ft hb RY rfl (by rw[if_pos hbig];exact⟨rfl,rfl⟩)
    .simp -dsimp only[aw,jV,jW,jX,jY,jZ,jA,reduceIte,reduceCtorEq,jB,jC,jD,jE,jF,jG,lp,decide_eq_true hk,hio,decide_eq_false hbig,hw1,hso,hbx];exact bP (τ:=σ.set i (pb ts (a+1))) (cW hb i ts _) rfl rfl (fo _ _ _) (by rw[if_neg hbig];exact⟨rfl,rfl⟩)
   .rw[if_neg (fun h=>hk h.2)];simp -dsimp only[aw,jV,jW,jX,jY,jZ,jA,reduceIte,reduceCtorEq,jB,jC,jD,jE,jF,jG,lp,decide_eq_false hk];refine aW (hF _) fun o σ' ⟨e1,e2⟩=>?_;rw[e1,e2];simp -dsimp only[aw,jV,jW,jX,jY,jZ,jA,reduceIte,reduceCtorEq,jB,jC,jD,jE,jF,jG,bE];exact ft hb RY rfl ⟨rfl,rfl⟩
  .rw[if_neg hv,if_neg (fun h=>hv h.1)];simp -dsimp only[aw,jV,jW,jX,jY,jZ,jA,reduceIte,reduceCtorEq,jB,jC,jD,jE,jF,jG,cJ,dC];refine aW (hF _) fun o σ' ⟨e1,e2⟩=>?_;rw[e1,e2];simp -dsimp only[aw,jV,jW,jX,jY,jZ,jA,reduceIte,reduceCtorEq,jB,jC,jD,jE,jF,jG,bE];exact ft hb RY rfl ⟨rfl,rfl⟩
 .have hnv:f9 ts a=.tup [cJ,an false]:=by unfold f9;rw[R8 (by omega)]
  rw[hnv,RZ (show ts.length≤a by omega)];simp only[ch];simp -dsimp only[aw,jV,jW,jX,jY,jZ,jA,reduceIte,reduceCtorEq,jB,jC,jD,jE,jF,jG,cJ,dC];refine aW (hF _) fun o σ' ⟨e1,e2⟩=>?_;rw[e1,e2];simp -dsimp only[aw,jV,jW,jX,jY,jZ,jA,reduceIte,reduceCtorEq,jB,jC,jD,jE,jF,jG,bE];exact ft hb RY rfl ⟨rfl,rfl⟩
theorem fe(o:Int)(l:List Ex)(σ:LLV):Fun G 242 [.d (ab o),.d (.sl (l.map dex))] σ (az (vex (aZ o l)) σ):=by
 refine ai Tryz.func242 RE rfl fun hb hw=>?_;unfold OK;simp -dsimp only[aw,jV,jW,jX,jY,jZ,jA,reduceIte,reduceCtorEq,jB,jC,jD,jE,jF,jG];exact ao (v:=vex (aZ o l)) hb (by rw[al];simp[KD,aU,bu,aZ,bL,be,aJ,aK,aw,jV,jW,jX,jY,jZ,jA,reduceIte,reduceCtorEq,jB,jC,jD,jE,jF,jG]) (by rw[al];rfl) RY ⟨rfl,rfl⟩
def zb:V:=.agg [.d (ae ⟨#[]⟩),.d (ab 0),.d (ab 0)]
def gy(l:List (ByteArray×Int×Nat))(k:Nat)(ts:List Tok)(a:Nat):Option (ByteArray×Int×Nat):=l.find? fun b=>decide (b.2.2=k)&&aG b.1 ts a
theorem bS{m:ByteArray}{ts:List Tok}{a:Nat}:acc m (ts.drop a)=if aG m ts a=true then some (ts.drop (a+1))else none:=by
 by_cases h:a<ts.length
 .unfold aG;rw[R0 h];simp only[acc];split<;>simp
 .rw[iN h,RZ (by omega)];rfl
theorem mM(k:Nat)(ts:List Tok)(a:Nat):∀l,jb l k (ts.drop a)=(gy l k ts a).map fun b=>(b.2.1,ts.drop (a+1))
 | []=>rfl
 | b::l=>by
  have ih:=mM k ts a l;unfold gy at ih ⊢;simp only[jb,bS,Sk];by_cases hk:b.2.2=k
  .rw[if_pos hk];by_cases hs:aG b.1 ts a=true
   .simp[hk,hs]
   .simp only[hs,hk,decide_true,Bool.true_and,if_false];simpa using ih
  .rw[if_neg hk];simp only[hk,decide_false,Bool.false_and];exact ih
def kO(ts:List Tok)(a:Nat)(k:Nat):V:=match gy cf k ts a with
 | some b=>.tup [.agg [.d (ae b.1),.d (ab b.2.1),.d (ab b.2.2)],an false,an true]
 | none=>if k=9/\aG (aa 62) ts a=true then .tup [.agg [.d (ae ⟨#[]⟩),.d (ab 17),.d (ab 0)],an true,an true]
  else if k=9/\aG (aE 62 61) ts a=true then .tup [.agg [.d (ae ⟨#[]⟩),.d (ab 18),.d (ab 0)],an true,an true]
  else .tup [zb,an false,an false]
def fI(ts:List Tok)(a:Nat)(k:Nat):Bool:=(gy cf k ts a).isSome||(decide (k=9)&&(aG (aa 62) ts a||aG (aE 62 61) ts a))
theorem vj(k:Nat)(hk:k≤100)(ts:List Tok)(a i:Nat)(hz:∀t,t∈ts->t.text.size≤1000)(hn:ts.length≤1000000)(ha:a≤ts.length)(σ:LLV)(hi:σ[i]? = some (pb ts a)):
 Fun G 248 [.ptr i 0,.d (ab k)] σ fun o σ'=>o=.ret (kO ts a k)/\σ'=if fI ts a k=true then σ.set i (pb ts (a+1))else σ:=by
 have hlt:=(List.getElem?_eq_some_iff.1 hi).1;refine ai Tryz.func248 QT rfl fun hb hw=>?_;unfold M9;have hA:=fun m l=>ko m ts a i hz hn ha (σ++l) (au hi l);have hso:=fun l x=>aR hi l x;obtain⟨σ1,hs1⟩:∃x,x=σ.set i (pb ts (a+1)):=⟨_,rfl⟩
 have hl1:σ1.length=σ.length:=by rw[hs1,Sd]
 have hb1:aj σ1.length σ1=true:=by rw[hl1,hs1];exact cW hb i ts _
 have h15:cf.length≤100:=by decide
 have fin1:∀(v:V) (ρ:ah) (l:LLV),kO ts a k=v->fI ts a k=true->aU (σ1++l) ρ pM=some v->V.under σ1.length v=true->fin σ1.length pM (fun o σ'=>o=.ret (kO ts a k)/\σ'=if fI ts a k=true then σ1 else σ) .ret ρ (σ1++l):=fun v ρ l e1 e2 e3 e4=>
  bP (τ:=σ1) hb1 e3 e4 RY ⟨by rw[e1],by rw[e2,if_pos rfl]⟩
 simp -dsimp only[aw,jV,jW,jX,jY,jZ,jA,reduceIte,reduceCtorEq,jB,jC,jD,jE,jF,jG];refine ac (my _) ?_;generalize hl:cf=l at *;simp -dsimp only[aw,jV,jW,jX,jY,jZ,jA,reduceIte,reduceCtorEq,jB,jC,jD,jE,jF,jG,ja];refine aY [0,1,4,9,10,11] (R:=fun(j:Nat) ρ σ'=>ρ=[(0,.ptr i 0),(1,.d (ab k)),(4,.ptr σ.length 0),(9,.d (.sl (ja l))),(10,aI .i64 l.length),(11,aI .i64 j)]/\σ'=σ++[[.d (ae ⟨#[]⟩),.d (ab 0),.d (ab 0)]]/\gy l k ts a=gy (l.drop j) k ts a) l.length ⟨rfl,rfl,rfl⟩ ?_ _;rintro j ρ' σ' hj ⟨rfl,rfl,hr⟩;by_cases hlj:j<l.length
 .have hd:gy (l.drop j) k ts a=if l[j].2.2=k/\aG l[j].1 ts a=true then some l[j]else gy (l.drop (j+1)) k ts a:=by
   rw[R0 hlj];unfold gy;rw[Sk];by_cases h1:l[j].2.2=k<;>by_cases h2:aG l[j].1 ts a=true<;>simp[h1,h2]
  have next:gy (l.drop j) k ts a=gy (l.drop (j+1)) k ts a->j<l.length/\Nxt σ.length (fun ρ σ'=>ρ=[(0,V.ptr i 0),(1,.d (ab k)),(4,.ptr σ.length 0),(9,.d (.sl (ja l))),(10,aI .i64 l.length),(11,aI .i64 ((j+1:Nat):Int))]/\σ'=σ++[[.d (ae ⟨#[]⟩),.d (ab 0),.d (ab 0)]]/\gy l k ts a=gy (l.drop (j+1)) k ts a) [(0,V.ptr i 0),(1,.d (ab k)),(4,.ptr σ.length 0),(9,.d (.sl (ja l))),(10,aI .i64 l.length),(11,aI .i64 ((j+1:Nat):Int))] (σ++[[.d (ae ⟨#[]⟩),.d (ab 0),.d (ab 0)],[.d (ae l[j].1),.d (ab l[j].2.1),.d (ab l[j].2.2)]]) .mk:=fun e=>
   ⟨hlj,Nxt.to (σ++[[.d (ae ⟨#[]⟩),.d (ab 0),.d (ab 0)]]) [[.d (ae l[j].1),.d (ab l[j].2.1),.d (ab l[j].2.2)]] (by simp) (by simp) (av hb rfl) (by simp[am,V.under];omega) ⟨rfl,rfl,by rw[hr,e]⟩⟩
  by_cases h1:l[j].2.2=k
  .have h1':decide (((l[j].2.2:Nat):Int)=((k:Nat):Int))=true:=by rw[decide_eq_true_eq];omega
   simp -dsimp only[aw,jV,jW,jX,jY,jZ,jA,reduceIte,reduceCtorEq,jB,jC,jD,jE,jF,jG,ja,RW,hlj,decide_true,RX hlj,h1'];refine dG (hA _ _) ?_;cases hs:aG l[j].1 ts a with
   | true=>
    rw[if_pos ⟨h1,hs⟩]at hd;rw[if_pos rfl,hso,<-hs1];rw[<-hl1];simp -dsimp only[aw,jV,jW,jX,jY,jZ,jA,reduceIte,reduceCtorEq,jB,jC,jD,jE,jF,jG];refine fin1 (.tup [.agg [.d (ae l[j].1),.d (ab l[j].2.1),.d (ab l[j].2.2)],an false,an true]) _ _ ?_ ?_ ?_ ?_
    .unfold kO;rw[hl,hr,hd]
    .unfold fI;rw[hl,hr,hd];rfl
    .simp[pM,aU,di,bu,aw,jV,jW,jX,jY,jZ,jA,reduceIte,reduceCtorEq,jB,jC,jD,jE,jF,jG]
    .rfl
   | false=>
    rw[if_neg (fun h=>by rw[hs]at h;cases h.2)]at hd;simp -dsimp only[aw,jV,jW,jX,jY,jZ,jA,reduceIte,reduceCtorEq,jB,jC,jD,jE,jF,jG,RS,if_false,bl hlj (show l.length≤9223372036854775807 by omega)];exact next hd
  .have h1':decide (((l[j].2.2:Nat):Int)=((k:Nat):Int))=false:=by rw[decide_eq_false_iff_not];omega
   rw[if_neg (fun h=>h1 h.1)]at hd;simp -dsimp only[aw,jV,jW,jX,jY,jZ,jA,reduceIte,reduceCtorEq,jB,jC,jD,jE,jF,jG,ja,RW,hlj,decide_true,RX hlj,h1',bl hlj (show l.length≤9223372036854775807 by omega)];exact(next hd).2
 .rw[RZ (by omega),show gy [] k ts a=none from rfl]at hr;by_cases h9:k=9
  .subst h9;simp -dsimp only[aw,jV,jW,jX,jY,jZ,jA,reduceIte,reduceCtorEq,jB,jC,jD,jE,jF,jG,RW,hlj,decide_false,show(((9:Nat):Int))=9 from rfl,decide_true];refine dG (hA _ _) ?_;have hf9:gy cf 9 ts a=none:=by rw[hl];exact hr
   cases hs:aG ⟨#[62]⟩ ts a with
   | true=>
    have hs':aG (aa 62) ts a=true:=hs;rw[if_pos rfl,hso,<-hs1];rw[<-hl1];simp -dsimp only[aw,jV,jW,jX,jY,jZ,jA,reduceIte,reduceCtorEq,jB,jC,jD,jE,jF,jG];refine fin1 (.tup [.agg [.d (ae ⟨#[]⟩),.d (ab 17),.d (ab 0)],an true,an true]) _ _ ?_ ?_ ?_ ?_
    .unfold kO;rw[hf9];simp[hs']
    .unfold fI;rw[hf9];simp[hs']
    .simp[pM,aU,di,bu,aw,jV,jW,jX,jY,jZ,jA,reduceIte,reduceCtorEq,jB,jC,jD,jE,jF,jG]
    .rfl
   | false=>
    have hs':aG (aa 62) ts a=false:=hs;simp -dsimp only[aw,jV,jW,jX,jY,jZ,jA,reduceIte,reduceCtorEq,jB,jC,jD,jE,jF,jG,RS,if_false];refine dG (hA _ _) ?_;cases hs2:aG ⟨#[62,61]⟩ ts a with
    | true=>
     have hs2':aG (aE 62 61) ts a=true:=hs2;rw[if_pos rfl,hso,<-hs1];rw[<-hl1];simp -dsimp only[aw,jV,jW,jX,jY,jZ,jA,reduceIte,reduceCtorEq,jB,jC,jD,jE,jF,jG];refine fin1 (.tup [.agg [.d (ae ⟨#[]⟩),.d (ab 18),.d (ab 0)],an true,an true]) _ _ ?_ ?_ ?_ ?_
     .unfold kO;rw[hf9];simp[hs',hs2']
     .unfold fI;rw[hf9];simp[hs',hs2']
     .simp[pM,aU,di,bu,aw,jV,jW,jX,jY,jZ,jA,reduceIte,reduceCtorEq,jB,jC,jD,jE,jF,jG]
     .rfl
    | false=>
     have hs2':aG (aE 62 61) ts a=false:=hs2;simp -dsimp only[aw,jV,jW,jX,jY,jZ,jA,reduceIte,reduceCtorEq,jB,jC,jD,jE,jF,jG,RS,if_false];exact ao (v:=.tup [zb,an false,an false]) hb (by simp[pM,aU,di,bu,zb,aw,jV,jW,jX,jY,jZ,jA,reduceIte,reduceCtorEq,jB,jC,jD,jE,jF,jG]) rfl RY ⟨by unfold kO;rw[hf9];simp[hs',hs2'],by unfold fI;rw[hf9];simp[hs',hs2']⟩
  .have h9':decide (((k:Nat):Int)=9)=false:=by rw[decide_eq_false_iff_not];omega
   simp -dsimp only[aw,jV,jW,jX,jY,jZ,jA,reduceIte,reduceCtorEq,jB,jC,jD,jE,jF,jG,RW,hlj,decide_false,h9'];exact ao (v:=.tup [zb,an false,an false]) hb (by simp[pM,aU,di,bu,zb,aw,jV,jW,jX,jY,jZ,jA,reduceIte,reduceCtorEq,jB,jC,jD,jE,jF,jG]) rfl RY ⟨by unfold kO;rw[hl,hr];simp[h9],by unfold fI;rw[hl,hr];simp[h9]⟩
def PQ(ts:List Tok)(i:Nat)(σ:LLV)(x:PR)(o:Out)(σ':LLV):Prop:=match x with
 | .ok e r=>o=.ret (vex e)/\σ'=σ.set i (pb ts (ts.length-r.length))
 | .bad c r=>o=.panic (eT c (ts.length-r.length))/\∃b,σ'=σ.set i (pb ts b)
 | .out=>False
theorem Hf{ts r:List Tok}(h:r <:+ ts):r=ts.drop (ts.length-r.length):=List.suffix_iff_eq_drop.1 h
theorem FX{ts:List Tok}{a:Nat}{k:PK}{e:Ex}{r:List Tok}(ha:a≤ts.length)(h:par k (ts.drop a)=.ok e r):r=ts.drop (ts.length-r.length)/\a≤ts.length-r.length/\ts.length-r.length≤ts.length/\(k.eats=true->a<ts.length-r.length):=by
 have ht:=nP k (ts.drop a);rw[h]at ht;have h1:=ht.1.length_le;have h2:=ht.2;rw[Si]at h1 h2;exact⟨Hf (ht.1.trans (List.drop_suffix _ _)),by omega,by omega,fun e=>by have:=h2 e;omega⟩
theorem B7(ts:List Tok)(a:Nat)(ha:a≤ts.length):eX (ts.drop a)=.bad (ni ts a) (ts.drop a):=by
 unfold ni;by_cases h:a<ts.length
 .rw[if_pos h,R0 h];rfl
 .rw[if_neg h,RZ (by omega)];rfl
theorem j7(ts:List Tok)(a:Nat)(ha:a≤ts.length):ts.length-(ts.drop a).length=a:=by rw[Si];omega
end Go.Proofs.YthekkgfmagliiaaGreatDoor
