import Derived.Lib.AtoiErrMem
import Derived.Test.YthekkgfmagliiaaGreatDoorRow42
set_option linter.unusedVariables false
set_option linter.unusedSimpArgs false
set_option linter.unusedSectionVars false
set_option maxHeartbeats 4000000
open Bool renaming false_eq_true->RS,and_eq_true->RU
open Int renaming reduceEq->RW,ofNat_lt->RX
open List renaming length_cons->RY,length_append->RZ,getElem?_eq_getElem->R0,length_nil->R5,length_map->R6,append_assoc->R7,getElem_cons_succ->R8,take_left->R9,map_cons->Sa,take_of_length_le->Sb,getElem_cons_zero->Sc,take_add_one->Sd,length_take->Se,getElem_mem->Sf,map_append->Si,drop_left->Sj,map_map->Sk
namespace Go.Proofs.YthekkgfmagliiaaGreatDoor
open Go.RowKit
open Nat renaming reduceLeDiff -> jA, reduceBEq -> jB, reduceLT -> jC, reduceEqDiff -> jD, reduceAdd -> jE, reduceSub -> jF, reduceMul -> jG
open V renaming copy -> jV, lend -> jW, lend1 -> jX, cells -> jY, boxable -> jZ
theorem K1(t:Tok):t=⟨t.kind,t.num,bs t.text.data.toList,t.line⟩:=by rw[gi]
theorem wA(t:Tok)(σ:LLV):Fun G 255 [fy t] σ (az (.d (.lit (.bool (bC t)))) σ):=by
 rw[K1 t];exact uS _ _ _ _ _
theorem Kj(t:Tok):fy t=.agg [.d (ab t.kind),.d (ab t.num),.d (ae t.text),.d (ab t.line)]:=rfl
def Bo(ts:List Tok):V:=if ts.all bC=true then .tup [.d (ae (bs (lv ts))),.d (ab 0)]else .tup [.d (ae ⟨#[]⟩),.d (ab 1)]
theorem tT(n:Nat):∀(l:List Tok),(∀t,t∈l->t.text.size≤n)->(lv l).length≤(n+1)*l.length
 | [],_=>by simp[lv]
 | [a],h=>by have:=h a (by simp);rw[Lib.size_eq]at this;simp only[lv,RY,R5];omega
 | a::b::r,h=>by
  have h1:=h a (by simp);have h2:=tT n (b::r) fun t ht=>h t (by simp at ht ⊢;exact .inr ht);rw[Lib.size_eq]at h1;have e:(n+1)*(a::b::r).length=(n+1)*(b::r).length+(n+1):=by rw[RY (a:=a),Nat.mul_succ]
  rw[e];simp only[lv,RZ,RY]at h2 ⊢;omega
theorem B1:∀ts:List Tok,Lib.join (ts.map fun t=>t.text.data.toList) [32]=lv ts
 | []=>rfl
 | [t]=>by simp[lv,Lib.join_one]
 | t::u::r=>by
  have:=B1 (u::r);simp only[Sa]at this ⊢;rw[Lib.join_cons]at this ⊢;simp only[lv,<-this];simp[Lib.joinTail]
theorem AO(ts:List Tok)(hl:ts.length≤1000)(ht:∀t,t∈ts->t.text.size≤1000)(σ:LLV):Fun G 254 [.d (.sl (ts.map eA))] σ (az (Bo ts) σ):=by
 refine ai Tryz.func254 P1 rfl fun hb hw=>?_;unfold PF;simp -dsimp only[aw,jV,jW,jX,jY,jZ,jA,reduceIte,reduceCtorEq,jB,jC,jD,jE,jF,jG];refine bH (by first|omega|(simp only[R6];omega)) ?_;simp -dsimp only[aw,jV,jW,jX,jY,jZ,jA,reduceIte,reduceCtorEq,jB,jC,jD,jE,jF,jG];refine aY [4,10,11,12] (R:=fun(j:Nat) ρ σ'=>ρ=[(4,.own 9 1 ((ts.take j).map fun t=>[ae t.text])),(10,.d (.sl (ts.map eA))),(11,aI .i64 ts.length),(12,aI .i64 j)]/\σ'=σ/\(ts.take j).all bC=true) ts.length ⟨by simp[R6];rfl,rfl,rfl⟩ ?_ _;rintro j ρ' σ' hj ⟨rfl,rfl,hv⟩;by_cases hlt:j<ts.length
 .have htk:ts.take (j+1)=ts.take j++[ts[j]]:=by rw[Sd,R0 hlt];rfl
  have hall:(ts.take (j+1)).all bC=bC ts[j]:=by rw[htk,List.all_append,hv];simp
  simp -dsimp only[aw,jV,jW,jX,jY,jZ,jA,reduceIte,reduceCtorEq,jB,jC,jD,jE,jF,jG,RX,hlt,decide_true,R0 hlt,eA];rw[<-Kj];refine ac (wA ts[j] _) ?_;cases hvj:bC ts[j]with
  | false=>
   simp -dsimp only[aw,jV,jW,jX,jY,jZ,jA,reduceIte,reduceCtorEq,jB,jC,jD,jE,jF,jG]
   have:ts.all bC=false:=by
    rw[List.all_eq_false];exact⟨_,Sf hlt,by rw[hvj];decide⟩
   unfold Bo;rw[if_neg (by rw[this];decide)];exact Kk hb rfl rfl
  | true=>
   rw[hvj]at hall;simp -dsimp only[aw,jV,jW,jX,jY,jZ,jA,reduceIte,reduceCtorEq,jB,jC,jD,jE,jF,jG];refine bH (by first|omega|(simp only[R6,Se];omega)) ?_;simp -dsimp only[aw,jV,jW,jX,jY,jZ,jA,reduceIte,reduceCtorEq,jB,jC,jD,jE,jF,jG,bl hlt (show ts.length≤9223372036854775807 by omega)];refine⟨hlt,Nxt.drop (Nat.le_refl _) hb rfl ⟨?_,rfl,hall⟩⟩;rw[htk,Si];rfl
 .simp -dsimp only[aw,jV,jW,jX,jY,jZ,jA,reduceIte,reduceCtorEq,jB,jC,jD,jE,jF,jG,RX,hlt,decide_false];rw[Sb (by omega)]at hv ⊢;have hd:V.d (.sl (ts.map fun t=>[ae t.text]))=V.d (dA (ts.map Tok.text)):=by unfold dA;rw[Sk];rfl
  have hjl:=tT 1000 ts ht;have hjl2:(lv ts).length≤1001*1000:=Nat.le_trans hjl (Nat.mul_le_mul_left _ hl);have hjq:Lib.join ((ts.map Tok.text).map (·.data.toList)) [32]=lv ts:=by rw[<-B1,Sk];rfl
  rw[hd];refine ac (Hk (ts.map Tok.text) (by rw[R6];omega) (by rw[hjq];omega) _) ?_;rw[hjq];simp -dsimp only[aw,jV,jW,jX,jY,jZ,jA,reduceIte,reduceCtorEq,jB,jC,jD,jE,jF,jG];unfold Bo;rw[if_pos hv];first|exact aA hb rfl rfl|exact aB hb rfl rfl
theorem Nxt.to{n0:Nat}{R:ah->LLV->Prop}{ρ:ah}{S:LLV}(τ l:LLV)(h:S=τ++l)(hn:n0≤τ.length)(hb:aj τ.length τ=true)(hs:am τ.length ρ=true)(hR:R ρ τ):Nxt n0 R ρ S .mk:=by
 subst h;exact Nxt.drop hn hb hs hR
theorem bR(a b:Bs)(h:a.length+b.length≤9223372036854775807):aO .add (V.d (ae (bs a))) (V.d (ae (bs b)))=some (V.d (ae (bs (a++b)))):=by
 rw[Ha,bO,bO,if_pos h,lW]
theorem GL{n:Int}(h:0≤n):Lib.itoa n=Lib.decDigits n.toNat:=by
 unfold Lib.itoa;rw[if_neg (by omega)]
theorem Ir(k:Nat):∀u:Nat,u<10^(k+1)->(Lib.decDigits u).length≤k+1:=by
 induction k with
 | zero=>intro u h;rw[Lib.decDigits,dif_pos (by simpa using h)];simp
 | succ k ih=>
  intro u h;rw[Lib.decDigits];split
  .simp
  .have:=ih (u/10) (by rw[Nat.pow_succ]at h;omega);simp only[RZ,RY,R5];omega
theorem Bj{u:Nat}(h:u≤9223372036854775808):(Lib.decDigits u).length≤19:=Ir 18 u (by omega)
theorem E8{n:Int}(h0 : -9223372036854775808≤n)(h1:n≤9223372036854775807):(Lib.itoa n).length≤20:=by
 unfold Lib.itoa;split
 .have:=Bj (u:=n.natAbs) (by omega);simp only[RY];omega
 .have:=Bj (u:=n.toNat) (by omega);omega
theorem qN(n:Int)(h0 : -9223372036854775808≤n)(h1:n≤9223372036854775807)(σ:LLV):Fun G 135 [.d (ab n)] σ (az (.d (ae (bs (Lib.itoa n)))) σ):=by
 have h5:=E8 h0 h1;refine ai Tryz.func135 Q2 rfl fun hb hw=>?_;unfold O9;simp -dsimp only[aw,jV,jW,jX,jY,jZ,jA,reduceIte,reduceCtorEq,jB,jC,jD,jE,jF,jG];refine ac (qL n h0 h1 (by unfold maxLen;omega) _) ?_;simp -dsimp only[aw,jV,jW,jX,jY,jZ,jA,reduceIte,reduceCtorEq,jB,jC,jD,jE,jF,jG];first|exact aA hb rfl rfl|exact aB hb rfl rfl
theorem gR(n:Int)(h0:0≤n)(h1:n≤65535)(σ:LLV):Fun G 135 [.d (ab n)] σ (az (.d (ae (bs (Lib.decDigits n.toNat)))) σ):=by
 rw[<-GL h0];exact qN n (by omega) (by omega) σ
def ja(l:List (ByteArray×Int×Nat)):LLD:=l.map fun b=>[ae b.1,ab b.2.1,ab b.2.2]
theorem my(σ:LLV):Fun G 165 [] σ (az (.d (.sl (ja cf))) σ):=by
 refine ai Tryz.func165 Rz rfl fun hb hw=>?_;unfold Mw;simp -dsimp only[aw,jV,jW,jX,jY,jZ,jA,reduceIte,reduceCtorEq,jB,jC,jD,jE,jF,jG];exact ao hb rfl rfl List.take_length ⟨rfl,rfl⟩
def pS(l:List (ByteArray×Int×Nat))(o:Int):V:=match l.find? fun b=>decide (b.2.1=o)with
 | some b=>.tup [.agg [.d (ae b.1),.d (ab b.2.1),.d (ab b.2.2)],an true]
 | none=>.tup [.agg [.d (ae ⟨#[]⟩),.d (ab 0),.d (ab 0)],an false]
theorem xo(o:Int)(σ:LLV):Fun G 132 [.d (ab o)] σ (az (pS cf o) σ):=by
 refine ai Tryz.func132 Qc rfl fun hb hw=>?_;unfold Oh;have h15:cf.length≤100:=by decide
 simp -dsimp only[aw,jV,jW,jX,jY,jZ,jA,reduceIte,reduceCtorEq,jB,jC,jD,jE,jF,jG];refine ac (my _) ?_;generalize cf=l at *;simp -dsimp only[aw,jV,jW,jX,jY,jZ,jA,reduceIte,reduceCtorEq,jB,jC,jD,jE,jF,jG,ja];refine aY [0,2,6,7,8] (R:=fun(j:Nat) ρ σ'=>ρ=[(0,.d (ab o)),(2,.ptr σ.length 0),(6,.d (.sl (ja l))),(7,aI .i64 l.length),(8,aI .i64 j)]/\σ'=σ++[[.d (ae ⟨#[]⟩),.d (ab 0),.d (ab 0)]]/\pS l o=pS (l.drop j) o) l.length ⟨rfl,rfl,rfl⟩ ?_ _;rintro j ρ' σ' hj ⟨rfl,rfl,hr⟩;by_cases hlt:j<l.length
 .have hd:pS (l.drop j) o=if l[j].2.1=o then .tup [.agg [.d (ae l[j].1),.d (ab l[j].2.1),.d (ab l[j].2.2)],an true]else pS (l.drop (j+1)) o:=by
   rw[List.drop_eq_getElem_cons hlt];unfold pS;rw[List.find?_cons];by_cases h:l[j].2.1=o
   .simp[h]
   .simp[h]
  by_cases he:l[j].2.1=o
  .rw[hd,if_pos he]at hr;rw[hr];simp -dsimp only[aw,jV,jW,jX,jY,jZ,jA,reduceIte,reduceCtorEq,jB,jC,jD,jE,jF,jG,ja,RX,hlt,decide_true,R0 hlt,decide_eq_true he];exact ao (v:=.tup [.agg [.d (ae l[j].1),.d (ab l[j].2.1),.d (ab l[j].2.2)],an true]) hb (by simp[E7,aU,di,bu,aw,jV,jW,jX,jY,jZ,jA,reduceIte,reduceCtorEq,jB,jC,jD,jE,jF,jG]) rfl R9 ⟨rfl,rfl⟩
  .rw[hd,if_neg he]at hr;simp -dsimp only[aw,jV,jW,jX,jY,jZ,jA,reduceIte,reduceCtorEq,jB,jC,jD,jE,jF,jG,ja,RX,hlt,decide_true,R0 hlt,decide_eq_false he,bl hlt (show l.length≤9223372036854775807 by omega)];exact Nxt.to (σ++[[.d (ae ⟨#[]⟩),.d (ab 0),.d (ab 0)]]) [[.d (ae l[j].1),.d (ab l[j].2.1),.d (ab l[j].2.2)]] (by simp) (by simp) (av hb rfl) (by simp[am,V.under]) ⟨rfl,rfl,hr⟩
 .rw[List.drop_eq_nil_of_le (by omega)]at hr;rw[hr];simp -dsimp only[aw,jV,jW,jX,jY,jZ,jA,reduceIte,reduceCtorEq,jB,jC,jD,jE,jF,jG,RX,hlt,decide_false];exact ao (v:=.tup [.agg [.d (ae ⟨#[]⟩),.d (ab 0),.d (ab 0)],an false]) hb (by simp[E7,aU,di,bu,aw,jV,jW,jX,jY,jZ,jA,reduceIte,reduceCtorEq,jB,jC,jD,jE,jF,jG]) rfl R9 ⟨rfl,rfl⟩
theorem cU(o:Int)(σ:LLV):Fun G 134 [.d (ab o)] σ (az (.d (ae (bs (iJ o)))) σ):=by
 refine ai Tryz.func134 QO rfl fun hb hw=>?_;unfold Ml iJ;by_cases h4:o=4
 .rw[if_pos h4];simp -dsimp only[aw,jV,jW,jX,jY,jZ,jA,reduceIte,reduceCtorEq,jB,jC,jD,jE,jF,jG,decide_eq_true h4];first|exact aA hb rfl rfl|exact aB hb rfl rfl
 by_cases h5:o=5
 .rw[if_neg h4,if_pos h5];simp -dsimp only[aw,jV,jW,jX,jY,jZ,jA,reduceIte,reduceCtorEq,jB,jC,jD,jE,jF,jG,decide_eq_false h4,decide_eq_true h5];first|exact aA hb rfl rfl|exact aB hb rfl rfl
 by_cases h6:o=6
 .rw[if_neg h4,if_neg h5,if_pos h6];simp -dsimp only[aw,jV,jW,jX,jY,jZ,jA,reduceIte,reduceCtorEq,jB,jC,jD,jE,jF,jG,decide_eq_false h4,decide_eq_false h5,decide_eq_true h6];first|exact aA hb rfl rfl|exact aB hb rfl rfl
 rw[if_neg h4,if_neg h5,if_neg h6];simp -dsimp only[aw,jV,jW,jX,jY,jZ,jA,reduceIte,reduceCtorEq,jB,jC,jD,jE,jF,jG,decide_eq_false h4,decide_eq_false h5,decide_eq_false h6];first|exact aA hb rfl rfl|exact aB hb rfl rfl
theorem w8(o:Int):pS cf o=match io o with
 | some (m,l)=>.tup [.agg [.d (ae m),.d (ab o),.d (ab l)],an true]
 | none=>.tup [.agg [.d (ae ⟨#[]⟩),.d (ab 0),.d (ab 0)],an false]:=by
 unfold pS io;cases h:cf.find? fun b=>decide (b.2.1=o)with
 | none=>rfl
 | some b=>
  have:=List.find?_some h;simp only[decide_eq_true_eq]at this;simp only[Option.map_some,this]
theorem u3(o:Int):iJ o=[]↔¬(o=4\/o=5\/o=6):=by
 unfold iJ;repeat' split
 all_goals simp_all
theorem C2(e:Ex)(σ:LLV):Fun G 166 [vex e] σ (az (.d (ab (lx e.op))) σ):=by
 refine ai Tryz.func166 Rw (by simp only[al];rfl) fun hb hw=>?_;unfold NX;simp -dsimp only[aw,jV,jW,jX,jY,jZ,jA,reduceIte,reduceCtorEq,jB,jC,jD,jE,jF,jG,al];refine ac (xo e.op _) ?_;rw[w8];unfold lx;cases h:io e.op with
 | some p=>
  obtain⟨m,l⟩:=p;simp -dsimp only[aw,jV,jW,jX,jY,jZ,jA,reduceIte,reduceCtorEq,jB,jC,jD,jE,jF,jG];first|exact aA hb rfl rfl|exact aB hb rfl rfl
 | none=>
  simp only;by_cases h22:e.op=22
  .rw[if_pos h22];simp -dsimp only[aw,jV,jW,jX,jY,jZ,jA,reduceIte,reduceCtorEq,jB,jC,jD,jE,jF,jG,decide_eq_true h22];first|exact aA hb rfl rfl|exact aB hb rfl rfl
  by_cases h23:e.op=23
  .rw[if_neg h22,if_pos h23];simp -dsimp only[aw,jV,jW,jX,jY,jZ,jA,reduceIte,reduceCtorEq,jB,jC,jD,jE,jF,jG,decide_eq_false h22,decide_eq_true h23];first|exact aA hb rfl rfl|exact aB hb rfl rfl
  simp -dsimp only[aw,jV,jW,jX,jY,jZ,jA,reduceIte,reduceCtorEq,jB,jC,jD,jE,jF,jG,decide_eq_false h22,decide_eq_false h23];refine ac (cU e.op _) ?_;rw[if_neg h22,if_neg h23];by_cases hp:e.op=4\/e.op=5\/e.op=6
  .have:¬iJ e.op=[]:=fun hn=>(u3 _).1 hn hp;have hd:decide (bs (iJ e.op)=(⟨#[]⟩:ByteArray))=false:=by rw[decide_eq_false_iff_not];intro hh;exact this (sa.1 (hh:_=bs []))
   rw[if_pos hp];simp -dsimp only[aw,jV,jW,jX,jY,jZ,jA,reduceIte,reduceCtorEq,jB,jC,jD,jE,jF,jG,hd];first|exact aA hb rfl rfl|exact aB hb rfl rfl
  .have:iJ e.op=[]:=(u3 _).2 hp;rw[if_neg hp,this];simp -dsimp only[aw,jV,jW,jX,jY,jZ,jA,reduceIte,reduceCtorEq,jB,jC,jD,jE,jF,jG,gV];first|exact aA hb rfl rfl|exact aB hb rfl rfl
theorem ti(sep:Bs)(l:List ByteArray)(hn:l.length≤140737488355328)(hlen:(Lib.join (l.map (·.data.toList)) sep).length≤140737488355328)(σ:LLV):
 Fun G 88 [.d (dA l),.d (ae (bs sep))] σ (az (.d (ae (bs (Lib.join (l.map (·.data.toList)) sep)))) σ):=
 qo Tryz.func88 (by kernel_rfl) (by kernel_rfl) (by show(bs _).size≤maxLen;rw[bO];unfold maxLen;omega) fun M bm pr w v v' hG hM h1 h2=>by
  cases eM h2;obtain⟨p,cap,rfl,g1,g2,g3⟩:=kz hM h1;by_cases h0:l=[]
  .subst h0;exact j5 (Tryz.strings_Join_none p cap (bs sep) w)
  .have hp:0<l.length:=List.length_pos_iff.2 h0;obtain⟨b,off,rfl,g4⟩:=g3 0 (l[0]'hp) (R0 hp)
   have h:=Tryz.strings_Join b off cap l (bs sep) w (fun j x hj=>by
    obtain⟨b',off',e,g5⟩:=g3 j x hj;cases e;exact g5) (Lib.lt_of_cell g4) hn g1 (by rw[cq];exact hlen)
   rw[cq]at h;exact h
theorem y5(d:Bs)(hl:d.length≤1000000)(σ:LLV):Fun G 222 [.d (ae (bs (d++[93]))),.d (ae ⟨#[93]⟩)] σ (az (an true) σ):=by
 refine ai Tryz.func222 P6 rfl fun hb hw=>?_;unfold N1;have hn:(d++[93]).length=d.length+1:=by simp
 have h1:((⟨#[93]⟩:ByteArray).size:Int)=1:=rfl;have hle:(1:Int)≤(((d++[93]).length:Nat):Int):=by rw[hn];omega
 have hw1:IntKind.i64.wrap ((((d++[93]).length:Nat):Int)-1)=((d.length:Nat):Int):=by rw[hn,aX (by omega) (by omega)];omega
 have hs:=Ax (d++[93]) d.length (by rw[hn];omega);rw[Sj]at hs;have he:decide (bs [93]=(⟨#[93]⟩:ByteArray))=true:=by rw[decide_eq_true_eq];rfl
 generalize d++[93]=dt at *;simp -dsimp only[aw,jV,jW,jX,jY,jZ,jA,reduceIte,reduceCtorEq,jB,jC,jD,jE,jF,jG,bO,h1,decide_eq_true hle,hw1,hs,he];first|exact aA hb rfl rfl|exact aB hb rfl rfl
theorem Cr(d:Bs)(hl:d.length≤1000000)(σ:LLV):Fun G 197 [.d (ae (bs (d++[93]))),.d (ae ⟨#[93]⟩)] σ (az (.d (ae (bs d))) σ):=by
 refine ai Tryz.func197 P4 rfl fun hb hw=>?_;unfold O6;have hn:(d++[93]).length=d.length+1:=by simp
 have h1:((⟨#[93]⟩:ByteArray).size:Int)=1:=rfl;have hw1:IntKind.i64.wrap ((((d++[93]).length:Nat):Int)-1)=((d.length:Nat):Int):=by rw[hn,aX (by omega) (by omega)];omega
 have hs:=yX (d++[93]) d.length (by rw[hn];omega);rw[R9]at hs;have hf:=y5 d hl;generalize d++[93]=dt at *;simp -dsimp only[aw,jV,jW,jX,jY,jZ,jA,reduceIte,reduceCtorEq,jB,jC,jD,jE,jF,jG];refine ac (hf _) ?_;simp -dsimp only[aw,jV,jW,jX,jY,jZ,jA,reduceIte,reduceCtorEq,jB,jC,jD,jE,jF,jG,bO,h1,hw1,hs];first|exact aA hb rfl rfl|exact aB hb rfl rfl
theorem FL(d:Bs)(hl:d.length≤1000000)(σ:LLV):Fun G 168 [.d (ae (bs (d++[93]))),.d (ae ⟨#[93]⟩)] σ (az (.d (ae (bs d))) σ):=by
 refine ai Tryz.func168 QW rfl fun hb hw=>?_;unfold c168;simp -dsimp only[aw,jV,jW,jX,jY,jZ,jA,reduceIte,reduceCtorEq,jB,jC,jD,jE,jF,jG];refine ac (Cr d hl _) ?_;simp -dsimp only[aw,jV,jW,jX,jY,jZ,jA,reduceIte,reduceCtorEq,jB,jC,jD,jE,jF,jG];first|exact aA hb rfl rfl|exact aB hb rfl rfl
theorem xz:∀(x q:Bs),(∀c,c∈x->c≠91)->Lib.indexByte (x++91::q) 91=(x.length:Nat)
 | [],q,_=>rfl
 | a::x,q,h=>by
  have ih:=xz x q fun c hc=>h c (by simp[hc]);have ha:(a==(91:UInt8))=false:=beq_eq_false_iff_ne.2 (h a (by simp));simp only[List.cons_append,Lib.indexByte,ha,ih,RS,if_false];rw[if_neg (by simp;try omega)];simp
theorem qI:∀(x:Bs),(∀c,c∈x->c≠91)->Lib.indexByte x 91 = -1
 | [],_=>rfl
 | a::x,h=>by
  have ih:=qI x fun c hc=>h c (by simp[hc]);have ha:(a==(91:UInt8))=false:=beq_eq_false_iff_ne.2 (h a (by simp));simp only[Lib.indexByte,ha,ih,RS,if_false];rfl
theorem mF(l:Bs)(hl:l.length≤1000000)(σ:LLV):Fun G 167 [.d (ae (bs l)),.d (.lit (.int .u8 91))] σ (az (.d (ab (Lib.indexByte l 91))) σ):=
 oa Tryz.func167 (by kernel_rfl) (by kernel_rfl) (by
  have h1:=Lib.indexByte_ge l 91
  have h2:Lib.indexByte l 91≤l.length:=by
   clear h1 hl
   induction l with
   | nil=>simp[Lib.indexByte]
   | cons a r ih=>simp only[Lib.indexByte,RY];repeat' split
                  all_goals omega
  simp only[dx,IntKind.min,IntKind.max,IntKind.signed,IntKind.bits];simp;omega) fun pr w _=>by
  have:=j5 (Tryz.strings_IndexByte (bs l) 91 w);rw[cq]at this;exact this
theorem tV{l:Bs}(h:jf l=true):∀c,c∈l->c≠91:=by
 intro c hc;cases l with
 | nil=>cases hc
 | cons a r=>
  simp only[jf,RU]at h;have:=List.all_eq_true.1 h.2 c hc;rintro rfl;revert this;decide
theorem tq{s:ByteArray}(h:bt s=true):jf s.data.toList=true:=by
 simp only[bt,RU]at h;exact h.1.1
theorem Ef(s:ByteArray)(h:fO s=true)(σ:LLV):Fun G 136 [.d (ae s)] σ (az (.d (ae (bs (bj (.mk 2 0 s []))))) σ):=by
 rw[wV];unfold fO at h;rw[Bool.or_eq_true]at h;refine ai Tryz.func136 RP rfl fun hb hw=>?_;unfold Od;by_cases hel:iz s=true
 .rw[if_pos hel];obtain⟨g1,g2,g3,g4⟩:=lS hel;have hw1:=tq g1;have hl:=gh g1;have h91:=tV hw1;have h5:=nr (dU s).toNat (by omega)
  have hsb:s.data.toList=(iV s 91).data.toList++91::(Lib.decDigits (dU s).toNat++[93]):=by
   have:=congrArg (fun s:ByteArray=>s.data.toList) g4;simp only[oC,uT]at this;rw[<-this];simp[aa]
  generalize (iV s 91).data.toList=x at *;generalize Lib.decDigits (dU s).toNat=d at *;have hss:s=bs (x++91::(d++[93])):=by rw[<-hsb,gi]
  rw[hss];have hix:=xz x (d++[93]) h91;have hlen:(x++91::(d++[93])).length=x.length+(d.length+2):=by simp
  have s1:=yX (x++91::(d++[93])) x.length (by rw[hlen];omega);rw[R9]at s1;have s2:=Ax (x++91::(d++[93])) (x.length+1) (by rw[hlen];omega)
  have hdr:(x++91::(d++[93])).drop (x.length+1)=d++[93]:=by
   rw[<-List.drop_drop,Sj];rfl
  rw[hdr]at s2;have a1:aO .add (V.d (ae (bs x))) (V.d (ae ⟨#[64]⟩))=some (V.d (ae (bs (x++[64])))):=bR x [64] (by simp;omega)
  have a2:aO .add (V.d (ae (bs (x++[64])))) (V.d (ae (bs d)))=some (V.d (ae (bs (x++64::d)))):=by
   have:=bR (x++[64]) d (by simp;omega);rw[this,R7];rfl
  have hw2:IntKind.i64.wrap (((x.length:Nat):Int)+1)=((x.length+1:Nat):Int):=by rw[aX (by omega) (by omega)];omega
  have hif:=mF (x++91::(d++[93])) (by rw[hlen];omega);rw[hix]at hif;generalize x++91::(d++[93])=T at *;simp -dsimp only[aw,jV,jW,jX,jY,jZ,jA,reduceIte,reduceCtorEq,jB,jC,jD,jE,jF,jG];refine ac (hif _) ?_;simp -dsimp only[aw,jV,jW,jX,jY,jZ,jA,reduceIte,reduceCtorEq,jB,jC,jD,jE,jF,jG,decide_eq_true (show(0:Int)≤((x.length:Nat):Int)by omega),s1,a1,hw2,s2];refine aN (FL d (by omega) _) ?_;simp -dsimp only[aw,jV,jW,jX,jY,jZ,jA,reduceIte,reduceCtorEq,jB,jC,jD,jE,jF,jG,a2];first|exact aA hb rfl rfl|exact aB hb rfl rfl
 .rw[if_neg hel];have hn:=h.resolve_left hel;have hix:=qI s.data.toList (tV (tq hn));have hif:=mF s.data.toList (by have:=gh hn;omega);rw[hix,gi]at hif;simp -dsimp only[aw,jV,jW,jX,jY,jZ,jA,reduceIte,reduceCtorEq,jB,jC,jD,jE,jF,jG];refine ac (hif _) ?_;simp -dsimp only[aw,jV,jW,jX,jY,jZ,jA,reduceIte,reduceCtorEq,jB,jC,jD,jE,jF,jG,Int.reduceLE,decide_false];rw[gi];first|exact aA hb rfl rfl|exact aB hb rfl rfl
theorem ia0(a b:Int)(c:ByteArray)(q:D)(r:LLD):iaV 4 (V.d (.sl ([ab a,ab b,ae c,q]::r))) (V.d (D.lit (Value.int IntKind.i64 0)))=some (.row [ab a,ab b,ae c,q] 0):=rfl
theorem ia1(a b:Int)(c:ByteArray)(q:D)(u:List D)(r:LLD):iaV 4 (V.d (.sl (u::[ab a,ab b,ae c,q]::r))) (V.d (D.lit (Value.int IntKind.i64 1)))=some (.row [ab a,ab b,ae c,q] 0):=rfl
theorem ia2(a b:Int)(c:ByteArray)(q:D)(u u':List D)(r:LLD):iaV 4 (V.d (.sl (u::u'::[ab a,ab b,ae c,q]::r))) (V.d (D.lit (Value.int IntKind.i64 2)))=some (.row [ab a,ab b,ae c,q] 0):=rfl
theorem bL(o n:Int)(s:ByteArray)(l:List Ex):(Ex.mk o n s l).op=o:=rfl
theorem be(o n:Int)(s:ByteArray)(l:List Ex):(Ex.mk o n s l).num=n:=rfl
theorem aJ(o n:Int)(s:ByteArray)(l:List Ex):(Ex.mk o n s l).name=s:=rfl
theorem aK(o n:Int)(s:ByteArray)(l:List Ex):(Ex.mk o n s l).args=l:=rfl
theorem O7:io 22=none:=by decide +kernel
theorem Pv:io 23=none:=by decide +kernel
theorem mR{x:Ex}(k:Nat)(hl:(bj x).length≤1000000)(h:∀σ,Fun G 92 [vex x] σ (az (.d (ae (bs (bj x)))) σ))(σ:LLV):Fun G 133 [vex x,.d (ab k)] σ (az (.d (ae (bs (opS k x)))) σ):=by
 refine ai Tryz.func133 RG (by simp only[al];rfl) fun hb hw=>?_;unfold Pm;have hL:=C2 x;have a1:aO .add (V.d (ae ⟨#[40]⟩)) (V.d (ae (bs (bj x))))=some (V.d (ae (bs (40::bj x)))):=bR [40] (bj x) (by simp;omega);have a2:aO .add (V.d (ae (bs (40::bj x)))) (V.d (ae ⟨#[41]⟩))=some (V.d (ae (bs (40::(bj x++[41]))))):=bR (40::bj x) [41] (by simp;omega);unfold opS;generalize bj x=T at *;generalize lx x.op=L at *;by_cases hk:L<k
 .rw[if_pos hk];simp -dsimp only[aw,jV,jW,jX,jY,jZ,jA,reduceIte,reduceCtorEq,jB,jC,jD,jE,jF,jG,al];refine ac (by simpa only[al]using hL _) ?_;simp -dsimp only[aw,jV,jW,jX,jY,jZ,jA,reduceIte,reduceCtorEq,jB,jC,jD,jE,jF,jG,RX,hk,decide_true];refine ac (by simpa only[al]using h _) ?_;simp -dsimp only[aw,jV,jW,jX,jY,jZ,jA,reduceIte,reduceCtorEq,jB,jC,jD,jE,jF,jG,a1,a2];first|exact aA hb rfl rfl|exact aB hb rfl rfl
 .rw[if_neg hk];simp -dsimp only[aw,jV,jW,jX,jY,jZ,jA,reduceIte,reduceCtorEq,jB,jC,jD,jE,jF,jG,al];refine ac (by simpa only[al]using hL _) ?_;simp -dsimp only[aw,jV,jW,jX,jY,jZ,jA,reduceIte,reduceCtorEq,jB,jC,jD,jE,jF,jG,RX,hk,decide_false];refine ac (by simpa only[al]using h _) ?_;simp -dsimp only[aw,jV,jW,jX,jY,jZ,jA,reduceIte,reduceCtorEq,jB,jC,jD,jE,jF,jG];first|exact aA hb rfl rfl|exact aB hb rfl rfl
def prL:List Ex->List ByteArray
 | a::b::r=>bs (bj a++([32,46,46,32]++bj b))::prL r
 | _=>[]
theorem xn:∀l:List Ex,l.length%2=0->Lib.join ((prL l).map (·.data.toList)) [44,32]=gf l
 | [],_=>rfl
 | [_],h=>by simp at h
 | [a,b],_=>by simp only[prL,Sa,List.map_nil,Lib.join_one,cq,gf]
 | a::b::c::r,h=>by
  have ih:=xn (c::r) (by simp only[RY]at h ⊢;omega)
  match r,h,ih with
  | [],h,_=>simp at h
  | d::r,_,ih=>
   simp only[prL,Sa]at ih ⊢;rw[Lib.join_cons]at ih ⊢;simp only[gf,<-ih,cq];simp[Lib.joinTail]
theorem BE:∀l:List Ex,l.length%2=0->2*(prL l).length=l.length
 | [],_=>rfl
 | [_],h=>by simp at h
 | a::b::r,h=>by
  have:=BE r (by simp only[RY]at h;omega);simp only[prL,RY];omega
theorem Bx:∀(l:List Ex) (j:Nat) (h:2*j+1<l.length) (h':j<(prL l).length),(prL l)[j]=bs (bj (l[2*j]'(by omega))++([32,46,46,32]++bj l[2*j+1]))
 | [],j,h,_=>by simp at h
 | [_],j,h,_=>by simp at h
 | a::b::r,0,_,_=>rfl
 | a::b::r,j+1,h,h'=>by
  have:=Bx r j (by simp only[RY]at h;omega) (by simp only[prL,RY]at h';omega);simp only[prL,R8,this];rfl
theorem A0:∀(l:List Ex) (j:Nat) (h:2*j+1<l.length),(bj (l[2*j]'(by omega))).length+(bj l[2*j+1]).length+4≤(gf l).length
 | [],j,h=>by simp at h
 | [_],j,h=>by simp at h
 | [a,b],0,_=>by simp only[gf,RZ,RY,R5,Sc,R8];simp;omega
 | [a,b],j+1,h=>by simp at h;omega
 | a::b::c::r,0,_=>by simp only[gf,RZ,RY,R5,Sc,R8];simp;omega
 | a::b::c::r,j+1,h=>by
  have:=A0 (c::r) j (by simp only[RY]at h ⊢;omega);have e1:(a::b::c::r)[2*(j+1)]'(by omega)=(c::r)[2*j]'(by simp only[RY]at h ⊢;omega):=rfl;have e2:(a::b::c::r)[2*(j+1)+1]=(c::r)[2*j+1]'(by simp only[RY]at h ⊢;omega):=rfl;rw[e1,e2];simp only[gf,RZ];omega
theorem GX(e:Ex):dF e=0->(bj e).length≤1000000->∀σ:LLV,Fun G 92 [vex e] σ (az (.d (ae (bs (bj e)))) σ):=by
 induction e using Ex.ind2 with
 | h e ih=>
 intro he hlen σ;have hs:=KE he;refine ai Tryz.func92 k92 (by simp only[al];rfl) fun hb hw=>?_;unfold c92;simp -dsimp only[aw,jV,jW,jX,jY,jZ,jA,reduceIte,reduceCtorEq,jB,jC,jD,jE,jF,jG,al];refine ac (xo _ _) ?_;rw[w8];cases hs with
 | const n h0 h1=>
  rw[(show io (Ex.mk 1 n ⟨#[]⟩ []).op=none from(lr 1 (by simp)).2),qR];simp -dsimp only[aw,jV,jW,jX,jY,jZ,jA,reduceIte,reduceCtorEq,jB,jC,jD,jE,jF,jG,bL,be,aJ,aK];refine ac (cU _ _) ?_;rw[show iJ 1=[]from rfl];simp -dsimp only[aw,jV,jW,jX,jY,jZ,jA,reduceIte,reduceCtorEq,jB,jC,jD,jE,jF,jG,gV,RW,decide_true,decide_false];refine ac (gR n h0 h1 _) ?_;simp -dsimp only[aw,jV,jW,jX,jY,jZ,jA,reduceIte,reduceCtorEq,jB,jC,jD,jE,jF,jG];first|exact aA hb rfl rfl|exact aB hb rfl rfl
 | var s h=>
  rw[(show io (Ex.mk 2 0 s []).op=none from(lr 2 (by simp)).2)];simp -dsimp only[aw,jV,jW,jX,jY,jZ,jA,reduceIte,reduceCtorEq,jB,jC,jD,jE,jF,jG,bL,be,aJ,aK];refine ac (cU _ _) ?_;rw[show iJ 2=[]from rfl];simp -dsimp only[aw,jV,jW,jX,jY,jZ,jA,reduceIte,reduceCtorEq,jB,jC,jD,jE,jF,jG,gV,RW,decide_true,decide_false];refine ac (Ef s h _) ?_;simp -dsimp only[aw,jV,jW,jX,jY,jZ,jA,reduceIte,reduceCtorEq,jB,jC,jD,jE,jF,jG];first|exact aA hb rfl rfl|exact aB hb rfl rfl
 | elem s x h hx=>
  rw[(show io (Ex.mk 3 0 s [x]).op=none from(lr 3 (by simp)).2)];rw[tE]at hlen ⊢;have hT:=ih x (by simp[Ex.args]) hx (by simp only[RZ,RY]at hlen;omega);obtain⟨ss,rfl⟩:∃ss,s=bs ss:=⟨_,(gi s).symm⟩
  rw[cq]at hlen ⊢;simp only[RZ,RY,R5]at hlen;generalize bj x=T at *;have a1:aO .add (V.d (ae (bs ss))) (V.d (ae ⟨#[91]⟩))=some (V.d (ae (bs (ss++[91])))):=bR ss [91] (by simp;omega);have a2:aO .add (V.d (ae (bs (ss++[91])))) (V.d (ae (bs T)))=some (V.d (ae (bs ((ss++[91])++T)))):=bR (ss++[91]) T (by simp;omega);have a3:aO .add (V.d (ae (bs ((ss++[91])++T)))) (V.d (ae ⟨#[93]⟩))=some (V.d (ae (bs (((ss++[91])++T)++[93])))):=bR ((ss++[91])++T) [93] (by simp;omega);have hf:ss++91::(T++[93])=((ss++[91])++T)++[93]:=by simp
  rw[hf];generalize ((ss++[91])++T)++[93]=R3 at *;generalize (ss++[91])++T=R2 at *;generalize ss++[91]=R1 at *;simp -dsimp only[aw,jV,jW,jX,jY,jZ,jA,reduceIte,reduceCtorEq,jB,jC,jD,jE,jF,jG,bL,be,aJ,aK];refine ac (cU _ _) ?_;rw[show iJ 3=[]from rfl];simp -dsimp only[aw,jV,jW,jX,jY,jZ,jA,reduceIte,reduceCtorEq,jB,jC,jD,jE,jF,jG,gV,RW,decide_true,decide_false,a1,ia0,bq];refine aN (by simpa only[al]using hT _) ?_;simp -dsimp only[aw,jV,jW,jX,jY,jZ,jA,reduceIte,reduceCtorEq,jB,jC,jD,jE,jF,jG,a2,a3];first|exact aA hb rfl rfl|exact aB hb rfl rfl
 | pre o x h hx=>
  rw[Jn (Ex.mk o 0 ⟨#[]⟩ [x]).op (by simpa[Ex.op]using h)];rw[v8 h]at hlen ⊢;have hp:¬iJ o=[]:=fun hn=>(u3 _).1 hn h;have hd:decide (bs (iJ o)=(⟨#[]⟩:ByteArray))=false:=by rw[decide_eq_false_iff_not];intro hh;exact hp (sa.1 (hh:_=bs []))
  have hle:(bj x).length≤(opS 13 x).length:=by unfold opS;split<;>simp<;>omega
  rw[RZ]at hlen;have hA:∀σ,Fun G 133 [vex x,.d (ab 13)] σ (az (.d (ae (bs (opS 13 x)))) σ):=mR (x:=x) 13 (by omega) (ih x (by simp[Ex.args]) hx (by omega));generalize opS 13 x=A at *;have a1:aO .add (V.d (ae (bs (iJ o)))) (V.d (ae (bs A)))=some (V.d (ae (bs (iJ o++A)))):=bR _ _ (by omega);generalize iJ o++A=R1 at *;simp -dsimp only[aw,jV,jW,jX,jY,jZ,jA,reduceIte,reduceCtorEq,jB,jC,jD,jE,jF,jG,bL,be,aJ,aK];refine ac (cU _ _) ?_;simp -dsimp only[aw,jV,jW,jX,jY,jZ,jA,reduceIte,reduceCtorEq,jB,jC,jD,jE,jF,jG,hd,ia0,bq];refine ac (by simpa only[al]using hA _) ?_;simp -dsimp only[aw,jV,jW,jX,jY,jZ,jA,reduceIte,reduceCtorEq,jB,jC,jD,jE,jF,jG,a1];first|exact aA hb rfl rfl|exact aB hb rfl rfl
 | bin o m k x y h hx hy=>
  have h':io (Ex.mk o 0 ⟨#[]⟩ [x,y]).op=some (m,k):=h;rw[h'];rw[v7 h]at hlen ⊢;have hle:∀k z,(bj z).length≤(opS k z).length:=fun k z=>by unfold opS;split<;>simp<;>omega
  have l1:=hle (if k=2 then 3 else k) x;have l2:=hle (if k=2 then 2 else k+1) y;obtain⟨ms,rfl⟩:∃ms,m=bs ms:=⟨_,(gi m).symm⟩
  rw[cq]at hlen ⊢;simp only[RZ,RY]at hlen;have hA:=mR (x:=x) (if k=2 then 3 else k) (by omega) (ih x (by simp[Ex.args]) hx (by omega));have hB:=mR (x:=y) (if k=2 then 2 else k+1) (by omega) (ih y (by simp[Ex.args]) hy (by omega));have hk12:=(uO _ (jS h)).2.1;simp only at hk12;generalize opS (if k=2 then 3 else k) x=A at *;generalize opS (if k=2 then 2 else k+1) y=B at *;have a1:aO .add (V.d (ae (bs A))) (V.d (ae ⟨#[32]⟩))=some (V.d (ae (bs (A++[32])))):=bR A [32] (by simp;omega);have a2:aO .add (V.d (ae (bs (A++[32])))) (V.d (ae (bs ms)))=some (V.d (ae (bs ((A++[32])++ms)))):=bR _ _ (by simp;omega);have a3:aO .add (V.d (ae (bs ((A++[32])++ms)))) (V.d (ae ⟨#[32]⟩))=some (V.d (ae (bs (((A++[32])++ms)++[32])))):=bR _ [32] (by simp;omega)
  have a4:aO .add (V.d (ae (bs (((A++[32])++ms)++[32])))) (V.d (ae (bs B)))=some (V.d (ae (bs ((((A++[32])++ms)++[32])++B)))):=bR _ _ (by simp;omega);have hf:A++(32::(ms++(32::B)))=(((A++[32])++ms)++[32])++B:=by simp
  rw[hf];generalize (((A++[32])++ms)++[32])++B=R4 at *;generalize ((A++[32])++ms)++[32]=R3 at *;generalize (A++[32])++ms=R2 at *;generalize A++[32]=R1 at *;have hw1:IntKind.i64.wrap (((k:Nat):Int)+1)=((k+1:Nat):Int):=by rw[aX (by omega) (by omega)];omega
  by_cases hk2:k=2
  .subst hk2;have hA:∀σ,Fun G 133 [vex x,.d (ab 3)] σ (az (.d (ae (bs A))) σ):=hA;have hB:∀σ,Fun G 133 [vex y,.d (ab 2)] σ (az (.d (ae (bs B))) σ):=hB;simp -dsimp only[aw,jV,jW,jX,jY,jZ,jA,reduceIte,reduceCtorEq,jB,jC,jD,jE,jF,jG,bL,be,aJ,aK,hw1,ia0,ia1,bq,show(((2:Nat):Int))=2 from rfl,RW,decide_true];refine aN (by simpa only[al]using hA _) ?_;simp -dsimp only[aw,jV,jW,jX,jY,jZ,jA,reduceIte,reduceCtorEq,jB,jC,jD,jE,jF,jG,a1,a2,a3,ia0,ia1,bq];refine aN (by simpa only[al]using hB _) ?_;simp -dsimp only[aw,jV,jW,jX,jY,jZ,jA,reduceIte,reduceCtorEq,jB,jC,jD,jE,jF,jG,a4];first|exact aA hb rfl rfl|exact aB hb rfl rfl
  .have hk2':¬((k:Nat):Int)=2:=by omega
   rw[if_neg hk2]at hA hB;simp -dsimp only[aw,jV,jW,jX,jY,jZ,jA,reduceIte,reduceCtorEq,jB,jC,jD,jE,jF,jG,bL,be,aJ,aK,hw1,ia0,ia1,bq,decide_eq_false hk2'];refine aN (by simpa only[al]using hA _) ?_;simp -dsimp only[aw,jV,jW,jX,jY,jZ,jA,reduceIte,reduceCtorEq,jB,jC,jD,jE,jF,jG,a1,a2,a3,ia0,ia1,bq];refine aN (by simpa only[al]using hB _) ?_;simp -dsimp only[aw,jV,jW,jX,jY,jZ,jA,reduceIte,reduceCtorEq,jB,jC,jD,jE,jF,jG,a4];first|exact aA hb rfl rfl|exact aB hb rfl rfl
 | ite x y z hx hy hz=>
  rw[show io (Ex.mk 22 0 ⟨#[]⟩ [x,y,z]).op=none from O7];rw[BH]at hlen ⊢;have hle:∀k z,(bj z).length≤(opS k z).length:=fun k z=>by unfold opS;split<;>simp<;>omega
  have l1:=hle 2 x;have l2:=hle 1 y;have l3:=hle 1 z;simp only[RZ,RY,R5]at hlen;have hA:∀σ,Fun G 133 [vex x,.d (ab 2)] σ (az (.d (ae (bs (opS 2 x)))) σ):=mR (x:=x) 2 (by omega) (ih x (by simp[Ex.args]) hx (by omega));have hB:∀σ,Fun G 133 [vex y,.d (ab 1)] σ (az (.d (ae (bs (opS 1 y)))) σ):=mR (x:=y) 1 (by omega) (ih y (by simp[Ex.args]) hy (by omega));have hC:∀σ,Fun G 133 [vex z,.d (ab 1)] σ (az (.d (ae (bs (opS 1 z)))) σ):=mR (x:=z) 1 (by omega) (ih z (by simp[Ex.args]) hz (by omega));generalize opS 2 x=A at *;generalize opS 1 y=B at *;generalize opS 1 z=E at *;have a1:aO .add (V.d (ae (bs A))) (V.d (ae ⟨#[32,63,32]⟩))=some (V.d (ae (bs (A++[32,63,32])))):=bR A [32,63,32] (by simp;omega)
  have a2:aO .add (V.d (ae (bs (A++[32,63,32])))) (V.d (ae (bs B)))=some (V.d (ae (bs ((A++[32,63,32])++B)))):=bR _ _ (by simp;omega);have a3:aO .add (V.d (ae (bs ((A++[32,63,32])++B)))) (V.d (ae ⟨#[32,58,32]⟩))=some (V.d (ae (bs (((A++[32,63,32])++B)++[32,58,32])))):=bR _ [32,58,32] (by simp;omega);have a4:aO .add (V.d (ae (bs (((A++[32,63,32])++B)++[32,58,32])))) (V.d (ae (bs E)))=some (V.d (ae (bs ((((A++[32,63,32])++B)++[32,58,32])++E)))):=bR _ _ (by simp;omega);have hf:A++([32,63,32]++(B++([32,58,32]++E)))=(((A++[32,63,32])++B)++[32,58,32])++E:=by simp
  rw[hf];generalize (((A++[32,63,32])++B)++[32,58,32])++E=R4 at *;generalize ((A++[32,63,32])++B)++[32,58,32]=R3 at *;generalize (A++[32,63,32])++B=R2 at *;generalize A++[32,63,32]=R1 at *;simp -dsimp only[aw,jV,jW,jX,jY,jZ,jA,reduceIte,reduceCtorEq,jB,jC,jD,jE,jF,jG,bL,be,aJ,aK];refine ac (cU _ _) ?_;rw[show iJ 22=[]from rfl];simp -dsimp only[aw,jV,jW,jX,jY,jZ,jA,reduceIte,reduceCtorEq,jB,jC,jD,jE,jF,jG,gV,RW,decide_true,decide_false,ia0,ia1,ia2,bq];refine aN (by simpa only[al]using hA _) ?_;simp -dsimp only[aw,jV,jW,jX,jY,jZ,jA,reduceIte,reduceCtorEq,jB,jC,jD,jE,jF,jG,a1,ia0,ia1,ia2,bq];refine aN (by simpa only[al]using hB _) ?_;simp -dsimp only[aw,jV,jW,jX,jY,jZ,jA,reduceIte,reduceCtorEq,jB,jC,jD,jE,jF,jG,a2,a3,ia0,ia1,ia2,bq];refine aN (by simpa only[al]using hC _) ?_
  simp -dsimp only[aw,jV,jW,jX,jY,jZ,jA,reduceIte,reduceCtorEq,jB,jC,jD,jE,jF,jG,a4];first|exact aA hb rfl rfl|exact aB hb rfl rfl
 | inside x l hx hl hev hne h32=>
  rw[show io (Ex.mk 23 0 ⟨#[]⟩ (x::l)).op=none from Pv];rw[pQ]at hlen ⊢;have hle:∀k z,(bj z).length≤(opS k z).length:=fun k z=>by unfold opS;split<;>simp<;>omega
  have l1:=hle 9 x;simp only[RZ,RY,R5]at hlen;have hA:∀σ,Fun G 133 [vex x,.d (ab 9)] σ (az (.d (ae (bs (opS 9 x)))) σ):=mR (x:=x) 9 (by omega) (ih x (by simp[Ex.args]) hx (by omega));have hT:∀i (hi:i<l.length),(bj l[i]).length≤1000000->∀σ,Fun G 92 [vex l[i]] σ (az (.d (ae (bs (bj l[i])))) σ):=fun i hi h=>ih l[i] (by simp[Ex.args]) (hl _ (Sf hi)) h;have hpl:=BE l hev;have hjn:=xn l hev;generalize opS 9 x=A at *;simp -dsimp only[aw,jV,jW,jX,jY,jZ,jA,reduceIte,reduceCtorEq,jB,jC,jD,jE,jF,jG,bL,be,aJ,aK];refine ac (cU _ _) ?_;rw[show iJ 23=[]from rfl];simp -dsimp only[aw,jV,jW,jX,jY,jZ,jA,reduceIte,reduceCtorEq,jB,jC,jD,jE,jF,jG,gV,RW,decide_true,decide_false];have hlb:(gf l).length≤1000000:=by omega
  have hJ:∀σ,Fun G 88 [.d (.sl ((prL l).map fun s=>[ae s])),.d (ae ⟨#[44,32]⟩)] σ (az (.d (ae (bs (gf l)))) σ):=fun σ=>by
   have:=ti [44,32] (prL l) (by omega) (by rw[hjn];omega) σ;rw[hjn]at this;exact this
  refine aY [1,8,9] (R:=fun(j:Nat) ρ σ'=>ρ=[(1,.ptr σ.length 0),(8,.own 9 1 (((prL l).take j).map fun s=>[ae s])),(9,aI .i64 ((2*j+1:Nat):Int))]/\σ'=σ++[[.d (ab 23),.d (ab 0),.d (ae ⟨#[]⟩),.d (.sl (dex x::l.map dex))],[.d (ae ⟨#[]⟩),.d (ab 0),.d (ab 0)]]) (prL l).length ⟨rfl,rfl⟩ ?_ _;rintro j ρ' σ' hj ⟨rfl,rfl⟩;have hw1:IntKind.i64.wrap (((2*j+1:Nat):Int)+1)=((2*j+2:Nat):Int):=by rw[aX (by omega) (by omega)];omega
  have hw2:IntKind.i64.wrap (((2*j+1:Nat):Int)+2)=((2*(j+1)+1:Nat):Int):=by rw[aX (by omega) (by omega)];omega
  by_cases hlt:j<(prL l).length
  .have h1:2*j<l.length:=by omega
   have h2:2*j+1<l.length:=by omega
   have hpt:=Bx l j h2 hlt;have hple:=A0 l j h2;have hT1:=hT (2*j) h1 (by omega);have hT2:=hT (2*j+1) h2 (by omega);have htk:(prL l).take (j+1)=(prL l).take j++[(prL l)[j]]:=by rw[Sd,R0 hlt];rfl
   rw[hpt]at htk;generalize bj l[2*j]=T1 at *;generalize bj l[2*j+1]=T2 at *;have a1:aO .add (V.d (ae (bs T1))) (V.d (ae ⟨#[32,46,46,32]⟩))=some (V.d (ae (bs (T1++[32,46,46,32])))):=bR T1 [32,46,46,32] (by simp;omega)
   have a2:aO .add (V.d (ae (bs (T1++[32,46,46,32])))) (V.d (ae (bs T2)))=some (V.d (ae (bs (T1++([32,46,46,32]++T2))))):=by
    rw[<-R7];exact bR _ T2 (by simp;omega)
   generalize T1++([32,46,46,32]++T2)=R2 at *;generalize T1++[32,46,46,32]=R1 at *;have hc:decide (((2*j+2:Nat):Int)<((l.length+1:Nat):Int))=true:=by rw[decide_eq_true_eq];omega
   simp -dsimp only[aw,jV,jW,jX,jY,jZ,jA,reduceIte,reduceCtorEq,jB,jC,jD,jE,jF,jG,hw1,hc,R0 h1,aP,bq];refine aN (by simpa only[al]using hT1 _) ?_;simp -dsimp only[aw,jV,jW,jX,jY,jZ,jA,reduceIte,reduceCtorEq,jB,jC,jD,jE,jF,jG,hw1,a1,R0 h2,aP,bq];refine aN (by simpa only[al]using hT2 _) ?_;simp -dsimp only[aw,jV,jW,jX,jY,jZ,jA,reduceIte,reduceCtorEq,jB,jC,jD,jE,jF,jG,a2];refine bH (by simp only[R6,Se];omega) ?_;simp -dsimp only[aw,jV,jW,jX,jY,jZ,jA,reduceIte,reduceCtorEq,jB,jC,jD,jE,jF,jG,hw2];refine⟨hlt,Nxt.same (by simp) (av hb rfl) (by simp[am,V.under]) ⟨?_,by rw[bq x]⟩⟩;rw[htk,Si];rfl
  .have hc:decide (((2*j+2:Nat):Int)<((l.length+1:Nat):Int))=false:=by rw[decide_eq_false_iff_not];omega
   have hje:(prL l).take j=prL l:=Sb (by omega);rw[hje];generalize gf l=B at *;have a1:aO .add (V.d (ae (bs A))) (V.d (ae ⟨#[32,105,110,115,105,100,101,32,123,32]⟩))=some (V.d (ae (bs (A++[32,105,110,115,105,100,101,32,123,32])))):=bR A [32,105,110,115,105,100,101,32,123,32] (by simp;omega);have a2:aO .add (V.d (ae (bs (A++[32,105,110,115,105,100,101,32,123,32])))) (V.d (ae (bs B)))=some (V.d (ae (bs ((A++[32,105,110,115,105,100,101,32,123,32])++B)))):=bR _ _ (by simp;omega);have a3:aO .add (V.d (ae (bs ((A++[32,105,110,115,105,100,101,32,123,32])++B)))) (V.d (ae ⟨#[32,125]⟩))=some (V.d (ae (bs (((A++[32,105,110,115,105,100,101,32,123,32])++B)++[32,125])))):=bR _ [32,125] (by simp;omega);have hf:A++([32,105,110,115,105,100,101,32,123,32]++(B++[32,125]))=((A++[32,105,110,115,105,100,101,32,123,32])++B)++[32,125]:=by simp
   rw[hf];generalize ((A++[32,105,110,115,105,100,101,32,123,32])++B)++[32,125]=R3 at *;generalize (A++[32,105,110,115,105,100,101,32,123,32])++B=R2 at *;generalize A++[32,105,110,115,105,100,101,32,123,32]=R1 at *;simp -dsimp only[aw,jV,jW,jX,jY,jZ,jA,reduceIte,reduceCtorEq,jB,jC,jD,jE,jF,jG,hw1,hc,ia0,bq];refine ac (by simpa only[al]using hA _) ?_;simp -dsimp only[aw,jV,jW,jX,jY,jZ,jA,reduceIte,reduceCtorEq,jB,jC,jD,jE,jF,jG,a1];refine ac (hJ _) ?_;simp -dsimp only[aw,jV,jW,jX,jY,jZ,jA,reduceIte,reduceCtorEq,jB,jC,jD,jE,jF,jG,a2,a3];first|exact aA hb rfl rfl|exact aB hb rfl rfl
 | sum s h=>
  rw[show io (Ex.mk 24 0 s []).op=none from(lr 24 (by simp)).2];rw[xj]at hlen ⊢;obtain⟨ss,rfl⟩:∃ss,s=bs ss:=⟨_,(gi s).symm⟩
  rw[cq]at hlen ⊢;simp only[RZ,RY,R5]at hlen;have a1:aO .add (V.d (ae ⟨#[115,117,109,40]⟩)) (V.d (ae (bs ss)))=some (V.d (ae (bs ([115,117,109,40]++ss)))):=bR [115,117,109,40] ss (by simp;omega);have a2:aO .add (V.d (ae (bs ([115,117,109,40]++ss)))) (V.d (ae ⟨#[41]⟩))=some (V.d (ae (bs (([115,117,109,40]++ss)++[41])))):=bR _ [41] (by simp;omega);rw[<-R7];generalize ([115,117,109,40]++ss)++[41]=R2 at *;generalize [115,117,109,40]++ss=R1 at *;simp -dsimp only[aw,jV,jW,jX,jY,jZ,jA,reduceIte,reduceCtorEq,jB,jC,jD,jE,jF,jG,bL,be,aJ,aK];refine ac (cU _ _) ?_;rw[show iJ 24=[]from rfl];simp -dsimp only[aw,jV,jW,jX,jY,jZ,jA,reduceIte,reduceCtorEq,jB,jC,jD,jE,jF,jG,gV,RW,decide_true,decide_false,a1,a2];first|exact aA hb rfl rfl|exact aB hb rfl rfl
 | ones x hx=>
  rw[show io (Ex.mk 25 0 ⟨#[]⟩ [x]).op=none from(lr 25 (by simp)).2];rw[uv]at hlen ⊢;simp only[RZ,RY,R5]at hlen;have hT:=ih x (by simp[Ex.args]) hx (by omega);generalize bj x=T at *;have a1:aO .add (V.d (ae ⟨#[111,110,101,115,40]⟩)) (V.d (ae (bs T)))=some (V.d (ae (bs ([111,110,101,115,40]++T)))):=bR [111,110,101,115,40] T (by simp;omega);have a2:aO .add (V.d (ae (bs ([111,110,101,115,40]++T)))) (V.d (ae ⟨#[41]⟩))=some (V.d (ae (bs (([111,110,101,115,40]++T)++[41])))):=bR _ [41] (by simp;omega);rw[<-R7];generalize ([111,110,101,115,40]++T)++[41]=R2 at *;generalize [111,110,101,115,40]++T=R1 at *;simp -dsimp only[aw,jV,jW,jX,jY,jZ,jA,reduceIte,reduceCtorEq,jB,jC,jD,jE,jF,jG,bL,be,aJ,aK];refine ac (cU _ _) ?_;rw[show iJ 25=[]from rfl]
  simp -dsimp only[aw,jV,jW,jX,jY,jZ,jA,reduceIte,reduceCtorEq,jB,jC,jD,jE,jF,jG,gV,RW,decide_true,decide_false,ia0,bq];refine ac (by simpa only[al]using hT _) ?_;simp -dsimp only[aw,jV,jW,jX,jY,jZ,jA,reduceIte,reduceCtorEq,jB,jC,jD,jE,jF,jG,a1,a2];first|exact aA hb rfl rfl|exact aB hb rfl rfl
theorem Dk{e:Ex}(h:aH e=0):dF e=0/\aT e≤400:=by
 unfold aH at h;split at h
 .cases h
 .rename_i hn;exact⟨h,by omega⟩
theorem xg(e:Ex)(hs:aT e≤1000000)(hd:ce e≤1000000)(σ:LLV):Fun G 54 [vex e] σ (az (.d (ae (bs (if aH e=0 then bj e else[])))) σ):=by
 have hv:=pp e hs hd;refine ai Tryz.func54 k54 (by simp only[al];rfl) fun hb hw=>?_;unfold c54;simp -dsimp only[aw,jV,jW,jX,jY,jZ,jA,reduceIte,reduceCtorEq,jB,jC,jD,jE,jF,jG,al];refine ac (by simpa only[al]using hv _) ?_;by_cases h:aH e=0
 .rw[if_pos h];have he:=Dk h;have hlen:=xb e he.1;have hT:=GX e he.1 (by omega);generalize bj e=T at *;simp -dsimp only[aw,jV,jW,jX,jY,jZ,jA,reduceIte,reduceCtorEq,jB,jC,jD,jE,jF,jG,decide_eq_true h];refine ac (by simpa only[al]using hT _) ?_;simp -dsimp only[aw,jV,jW,jX,jY,jZ,jA,reduceIte,reduceCtorEq,jB,jC,jD,jE,jF,jG];first|exact aA hb rfl rfl|exact aB hb rfl rfl
 .rw[if_neg h];simp -dsimp only[aw,jV,jW,jX,jY,jZ,jA,reduceIte,reduceCtorEq,jB,jC,jD,jE,jF,jG,decide_eq_false h];first|exact aA hb rfl rfl|exact aB hb rfl rfl
end Go.Proofs.YthekkgfmagliiaaGreatDoor
