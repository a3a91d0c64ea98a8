import Derived.Test.YthekkgfmagliiaaGreatDoorWrong
set_option maxHeartbeats 1000000
set_option linter.unusedVariables false
set_option linter.unusedSimpArgs false
set_option linter.unusedSectionVars false
open Bool renaming false_and->Rs,true_and->Ru,and_eq_true->Rv,eq_iff_iff->Rw
open Int renaming ofNat_lt->Rx,reduceEq->Ry,tdiv_eq_ediv_of_nonneg->Rz,lt_irrefl->RA,ofNat_le->RB,neg_tdiv->RC
open List renaming take_length->RD,getElem?_eq_getElem->RE,takeWhile_cons_of_pos->RF,takeWhile_cons_of_neg->RG,drop_eq_getElem_cons->RH,drop_eq_nil_of_le->RI,getElem?_drop->RJ,take_add_one->RK,foldl_append->RL,length_drop->RM,count->RN,take->RO
open Nat renaming le_refl->RP
namespace Go.Proofs.YthekkgfmagliiaaGreatDoor
open Go.RowKit
open Nat renaming reduceLeDiff -> jA, reduceBEq -> jB, reduceLT -> jC, reduceEqDiff -> jD, reduceAdd -> jE, reduceSub -> jF, reduceMul -> jG
open V renaming copy -> jV, lend -> jW, lend1 -> jX, cells -> jY, boxable -> jZ
theorem El{q:UInt8->Bool}:∀{l:Bs} {j:Nat},j<(l.takeWhile q).length->∃c,l[j]? = some c/\q c=true
 | [],j,h=>by simp at h
 | a::l,j,h=>by
  by_cases ha:q a=true
  .rw[RF ha]at h;cases j with
   | zero=>exact⟨a,rfl,ha⟩
   | succ j=>obtain⟨c,h1,h2⟩:=El (l:=l) (j:=j) (by simpa using h);exact⟨c,by simpa using h1,h2⟩
  .rw[RG ha]at h;simp at h
theorem xQ{q:UInt8->Bool}:∀l:Bs,(l.takeWhile q).length=l.length\/∃c,l[(l.takeWhile q).length]? = some c/\q c=false
 | []=>.inl rfl
 | a::l=>by
  by_cases ha:q a=true
  .rw[RF ha];rcases xQ (q:=q) l with h|⟨c,h1,h2⟩
   .left;simp[h]
   .right;exact⟨c,by simpa using h1,h2⟩
  .rw[RG ha];exact .inr ⟨a,rfl,by simpa using ha⟩
theorem yL{q:UInt8->Bool}(l:Bs):(l.takeWhile q).length≤l.length:=(List.takeWhile_prefix _).length_le
theorem wM(c:UInt8)(k:Nat)(hk:k<256):decide ((c.toNat:Int)=(k:Nat))=(c==UInt8.ofNat k):=by
 rw[Rw];simp only[decide_eq_true_eq,beq_iff_eq];constructor
 .intro h;apply UInt8.toNat_inj.1;simp[UInt8.toNat_ofNat'];omega
 .intro h;subst h;simp[UInt8.toNat_ofNat'];omega
theorem Au(c:UInt8):decide ((c.toNat:Int)=32)=(c==32):=wM c 32 (by decide)
theorem Kl(c:UInt8):decide ((c.toNat:Int)=9)=(c==9):=wM c 9 (by decide)
theorem s8(c:UInt8):decide ((c.toNat:Int)=10)=(c==10):=wM c 10 (by decide)
theorem D5(c:UInt8):decide ((c.toNat:Int)=48)=(c==48):=wM c 48 (by decide)
theorem MK(c:UInt8):decide ((c.toNat:Int)=45)=(c==45):=wM c 45 (by decide)
theorem lj(c:Int)(σ:LLV):Fun G 56 [.d (.lit (.int .u8 c))] σ (aA (.d (.lit (.bool (fh c)))) σ):=by
 refine ai Tryz.func56 k56 rfl fun hb hw=>?_;unfold c56 fh;by_cases h1:97≤c<;>by_cases h2:c≤122
 all_goals
  simp -dsimp only[aw,jV,jW,jX,jY,jZ,jA,reduceIte,reduceCtorEq,jB,jC,jD,jE,jF,jG,h1,h2,decide_true,decide_false];first|exact al hb rfl rfl RD ⟨rfl,rfl⟩
theorem py(c:Int)(σ:LLV):Fun G 59 [.d (.lit (.int .u8 c))] σ (aA (.d (.lit (.bool (da c)))) σ):=by
 refine ai Tryz.func59 k59 rfl fun hb hw=>?_;unfold c59 da;by_cases h1:48≤c<;>by_cases h2:c≤57
 all_goals
  simp -dsimp only[aw,jV,jW,jX,jY,jZ,jA,reduceIte,reduceCtorEq,jB,jC,jD,jE,jF,jG,h1,h2,decide_true,decide_false];first|exact al hb rfl rfl RD ⟨rfl,rfl⟩
theorem kR(c:Int)(σ:LLV):Fun G 73 [.d (.lit (.int .u8 c))] σ (aA (.d (.lit (.bool (fP c)))) σ):=by
 refine ai Tryz.func73 k73 rfl fun hb hw=>?_;unfold c73 fP;simp -dsimp only[aw,jV,jW,jX,jY,jZ,jA,reduceIte,reduceCtorEq,jB,jC,jD,jE,jF,jG];refine ac (lj c _) ?_;cases fh c with
 | true=>
  simp -dsimp only[aw,jV,jW,jX,jY,jZ,jA,reduceIte,reduceCtorEq,jB,jC,jD,jE,jF,jG];exact al hb rfl rfl RD ⟨rfl,rfl⟩
 | false=>
  simp -dsimp only[aw,jV,jW,jX,jY,jZ,jA,reduceIte,reduceCtorEq,jB,jC,jD,jE,jF,jG];refine ac (py c _) ?_;cases da c with
  | true=>
   simp -dsimp only[aw,jV,jW,jX,jY,jZ,jA,reduceIte,reduceCtorEq,jB,jC,jD,jE,jF,jG];exact al hb rfl rfl RD ⟨rfl,rfl⟩
  | false=>
   unfold Di;cases e1:decide (65≤c)<;>cases e2:decide (c≤90)<;>cases e3:decide (c=95)
   all_goals
    simp -dsimp only[aw,jV,jW,jX,jY,jZ,jA,reduceIte,reduceCtorEq,jB,jC,jD,jE,jF,jG,e1,e2,e3];first|exact al hb rfl rfl RD ⟨rfl,rfl⟩
theorem ta(l:List ByteArray)(s:ByteArray)(hl:l.length≤1000000)(σ:LLV):Fun G 93 [.d (dw l),.d (ae s)] σ (aA (.d (.lit (.bool (inB s l)))) σ):=by
 refine ai Tryz.func93 k93 rfl fun hb hw=>?_;unfold c93;simp -dsimp only[aw,jV,jW,jX,jY,jZ,jA,reduceIte,reduceCtorEq,jB,jC,jD,jE,jF,jG];refine fT (R:=fun(j:Nat) ρ σ'=>ρ=[(0,.d (dw l)),(1,.d (ae s)),(5,aL .i64 j)]/\σ'=σ/\inB s l=inB s (l.drop j)) l.length ⟨rfl,rfl,rfl⟩ ?_ _;rintro j ρ' σ' hj ⟨rfl,rfl,hr⟩;by_cases hlt:j<l.length
 .have hd:inB s (l.drop j)=(decide (l[j]=s)||inB s (l.drop (j+1))):=by rw[RH hlt];rfl
  by_cases he:l[j]=s
  .simp -dsimp only[aw,jV,jW,jX,jY,jZ,jA,reduceIte,reduceCtorEq,jB,jC,jD,jE,jF,jG,dw,Rx,hlt,decide_true,RE hlt,decide_eq_true he];rw[hd,decide_eq_true he]at hr;exact al hb rfl rfl RD ⟨by rw[hr];rfl,rfl⟩
  .simp -dsimp only[aw,jV,jW,jX,jY,jZ,jA,reduceIte,reduceCtorEq,jB,jC,jD,jE,jF,jG,dw,Rx,hlt,decide_true,RE hlt,decide_eq_false he,ba hlt (show l.length≤9223372036854775807 by omega)];rw[hd,decide_eq_false he,Bool.false_or]at hr;exact Nxt.same (RP _) hb rfl ⟨rfl,rfl,hr⟩
 .simp -dsimp only[aw,jV,jW,jX,jY,jZ,jA,reduceIte,reduceCtorEq,jB,jC,jD,jE,jF,jG,dw,Rx,hlt,decide_false];rw[RI (by omega)]at hr;exact al hb rfl rfl RD ⟨by rw[hr];rfl,rfl⟩
theorem qq(σ:LLV):Fun G 94 [] σ (aA (.d (dw dk)) σ):=by
 refine ai Tryz.func94 k94 rfl fun hb hw=>?_;unfold c94;simp -dsimp only[aw,jV,jW,jX,jY,jZ,jA,reduceIte,reduceCtorEq,jB,jC,jD,jE,jF,jG];exact al hb rfl rfl RD ⟨rfl,rfl⟩
def gC:List ByteArray:=aC.map bs
theorem pu(σ:LLV):Fun G 98 [] σ (aA (.d (dw gC)) σ):=by
 refine ai Tryz.func98 k98 rfl fun hb hw=>?_;unfold c98;simp -dsimp only[aw,jV,jW,jX,jY,jZ,jA,reduceIte,reduceCtorEq,jB,jC,jD,jE,jF,jG];exact al hb rfl rfl RD ⟨rfl,rfl⟩
theorem mo(s:ByteArray)(σ:LLV):Fun G 58 [.d (ae s)] σ (aA (.d (.lit (.bool (inB s dk)))) σ):=by
 refine ai Tryz.func58 k58 rfl fun hb hw=>?_;unfold c58;simp -dsimp only[aw,jV,jW,jX,jY,jZ,jA,reduceIte,reduceCtorEq,jB,jC,jD,jE,jF,jG];refine ac (qq _) ?_;simp -dsimp only[aw,jV,jW,jX,jY,jZ,jA,reduceIte,reduceCtorEq,jB,jC,jD,jE,jF,jG];refine ac (ta dk s (by decide) _) ?_;simp -dsimp only[aw,jV,jW,jX,jY,jZ,jA,reduceIte,reduceCtorEq,jB,jC,jD,jE,jF,jG];exact al hb rfl rfl RD ⟨rfl,rfl⟩
theorem uR(s:ByteArray)(σ:LLV):Fun G 63 [.d (ae s)] σ (aA (.d (.lit (.bool (inB s gC)))) σ):=by
 refine ai Tryz.func63 k63 rfl fun hb hw=>?_;unfold c63;simp -dsimp only[aw,jV,jW,jX,jY,jZ,jA,reduceIte,reduceCtorEq,jB,jC,jD,jE,jF,jG];refine ac (pu _) ?_;simp -dsimp only[aw,jV,jW,jX,jY,jZ,jA,reduceIte,reduceCtorEq,jB,jC,jD,jE,jF,jG];refine ac (ta gC s (by decide) _) ?_;simp -dsimp only[aw,jV,jW,jX,jY,jZ,jA,reduceIte,reduceCtorEq,jB,jC,jD,jE,jF,jG];exact al hb rfl rfl RD ⟨rfl,rfl⟩
theorem E3(m r:Bs):m.isPrefixOf r=(decide (m.length≤r.length)&&decide (r.take m.length=m)):=by
 rw[Rw];simp only[List.isPrefixOf_iff_prefix,Rv,decide_eq_true_eq];exact⟨fun h=>⟨h.length_le,(List.prefix_iff_eq_take.1 h).symm⟩,fun h=>List.prefix_iff_eq_take.2 h.2.symm⟩
theorem F6(l:Bs)(a n:Nat)(h:a+n≤l.length):nM true 0 (V.d (ae (bs l))) (some (V.d (ab (a:Int)))) (some (V.d (ab ((a+n:Nat):Int))))=some (V.d (ae (bs ((l.drop a).take n)))):=by
 have e:(bs l).extract a (a+n)=bs ((l.drop a).take n):=by
  rw[Lib.extract_eq,aV];unfold bs;rw[Nat.add_sub_cancel_left]
 have h2:(0:Int)≤((a+n:Nat):Int):=by omega
 have h3:(0:Int)≤((a:Nat):Int):=by omega
 simp only[nM,fI,if_pos h2,if_pos h3,Int.toNat_natCast,ay,h,Nat.le_add_right,and_self,if_true,e]
theorem mQ(l m:Bs)(a:Nat)(ha:a≤l.length)(hl:l.length≤1000000)(hm:m.length≤1000000)(σ:LLV):Fun G 55 [.d (ae (bs l)),.d (ab a),.d (ae (bs m))] σ (aA (.d (.lit (.bool (m.isPrefixOf (l.drop a))))) σ):=by
 refine ai Tryz.func55 k55 rfl fun hb hw=>?_;unfold c55;have w1:IntKind.i64.wrap (((l.length:Nat):Int)-(a:Nat))=((l.length-a:Nat):Int):=by rw[aJ (by omega) (by omega)];omega
 have w2:IntKind.i64.wrap (((a:Nat):Int)+(m.length:Nat))=((a+m.length:Nat):Int):=by rw[aJ (by omega) (by omega)];omega
 have hp:=E3 m (l.drop a);rw[RM]at hp;by_cases hc:m.length≤l.length-a
 .simp -dsimp only[aw,jV,jW,jX,jY,jZ,jA,reduceIte,reduceCtorEq,jB,jC,jD,jE,jF,jG,ay,w1,w2,RB,hc,decide_true,F6 l a m.length (by omega),qv];rw[decide_eq_true hc,Ru]at hp;exact al hb rfl rfl RD ⟨by rw[hp];rfl,rfl⟩
 .simp -dsimp only[aw,jV,jW,jX,jY,jZ,jA,reduceIte,reduceCtorEq,jB,jC,jD,jE,jF,jG,ay,w1,w2,RB,hc,decide_false];rw[decide_eq_false hc,Rs]at hp;exact al hb rfl rfl RD ⟨by rw[hp];rfl,rfl⟩
theorem tY(l:Bs)(a:Nat)(ha:a≤l.length)(hl:l.length≤1000000)(σ:LLV):Fun G 57 [.d (ae (bs l)),.d (ab a)] σ (aA (.d (ab ((a+((l.drop a).takeWhile inn).length:Nat):Int))) σ):=by
 refine ai Tryz.func57 k57 rfl fun hb hw=>?_;unfold c57;have hle:=yL (q:=inn) (l.drop a);have hd:=RM (l:=l) (i:=a);have he:=xQ (q:=inn) (l.drop a);have ht:=fun j=>@El inn (l.drop a) j;generalize ((l.drop a).takeWhile inn).length=K at *;simp -dsimp only[aw,jV,jW,jX,jY,jZ,jA,reduceIte,reduceCtorEq,jB,jC,jD,jE,jF,jG];refine fT (R:=fun(j:Nat) ρ σ'=>ρ=[(0,.d (ae (bs l))),(1,aL .i64 ((a+j:Nat):Int))]/\σ'=σ) K ⟨rfl,rfl⟩ ?_ _;rintro j ρ' σ' hj ⟨rfl,rfl⟩;have w1:IntKind.i64.wrap (((a+j:Nat):Int)+1)=((a+(j+1):Nat):Int):=by rw[aJ (by omega) (by omega)];omega
 by_cases hlt:j<K
 .obtain⟨c,h1,h2⟩:=ht j hlt;rw[RJ]at h1;have hx:a+j<l.length:=by omega
  simp -dsimp only[aw,jV,jW,jX,jY,jZ,jA,reduceIte,reduceCtorEq,jB,jC,jD,jE,jF,jG,ay,Rx,hx,decide_true,aV,h1,cJ];refine ac (kR _ _) ?_;rw[show fP (c.toNat:Int)=true from h2];simp -dsimp only[aw,jV,jW,jX,jY,jZ,jA,reduceIte,reduceCtorEq,jB,jC,jD,jE,jF,jG,w1];exact⟨hlt,Nxt.same (RP _) hb rfl ⟨rfl,rfl⟩⟩
 .have hjk:j=K:=by omega
  subst hjk;rcases he with he|⟨c,h1,h2⟩
  .have hx:¬a+j<l.length:=by omega
   simp -dsimp only[aw,jV,jW,jX,jY,jZ,jA,reduceIte,reduceCtorEq,jB,jC,jD,jE,jF,jG,ay,Rx,hx,decide_false];exact al hb rfl rfl RD ⟨rfl,rfl⟩
  .rw[RJ]at h1;have hx:a+j<l.length:=(List.getElem?_eq_some_iff.1 h1).1;simp -dsimp only[aw,jV,jW,jX,jY,jZ,jA,reduceIte,reduceCtorEq,jB,jC,jD,jE,jF,jG,ay,Rx,hx,decide_true,aV,h1,cJ];refine ac (kR _ _) ?_;rw[show fP (c.toNat:Int)=false from h2];simp -dsimp only[aw,jV,jW,jX,jY,jZ,jA,reduceIte,reduceCtorEq,jB,jC,jD,jE,jF,jG];exact al hb rfl rfl RD ⟨rfl,rfl⟩
theorem qe(l:Bs)(a:Nat)(ha:a≤l.length)(hl:l.length≤1000000)(σ:LLV):Fun G 29 [.d (ae (bs l)),.d (ab a)] σ (aA (.d (ab (1+((l.take a).count 10:Nat)))) σ):=by
 refine ai Tryz.func29 k29 rfl fun hb hw=>?_;unfold c29;simp -dsimp only[aw,jV,jW,jX,jY,jZ,jA,reduceIte,reduceCtorEq,jB,jC,jD,jE,jF,jG];refine fT (R:=fun(j:Nat) ρ σ'=>ρ=[(0,.d (ae (bs l))),(1,aL .i64 a),(5,aL .i64 (1+((l.take j).count 10:Nat))),(6,aL .i64 j)]/\σ'=σ) a ⟨rfl,rfl⟩ ?_ _;rintro j ρ' σ' hj ⟨rfl,rfl⟩;by_cases hlt:j<a
 .have hx:j<l.length:=by omega
  have hct:(l.take (j+1)).count 10=(l.take j).count 10+if(l[j]==10)=true then 1 else 0:=by
   rw[RK,RE hx,List.count_append,Option.toList_some,List.count_cons,List.count_nil,Nat.zero_add]
  have hcl:(l.take j).count 10≤l.length:=Nat.le_trans List.count_le_length (by rw[List.length_take];omega);have w1:IntKind.i64.wrap (1+((RN 10 (RO j l):Nat):Int)+1)=1+((RN 10 (RO j l)+1:Nat):Int):=by rw[aJ (by omega) (by omega)];omega
  cases h10:(l[j]==10)with
  | true=>
   rw[h10,if_pos rfl]at hct;simp -dsimp only[aw,jV,jW,jX,jY,jZ,jA,reduceIte,reduceCtorEq,jB,jC,jD,jE,jF,jG,Rx,hlt,decide_true,aV,RE hx,cJ,s8,h10,w1,ba hlt (show a≤9223372036854775807 by omega)];exact Nxt.same (RP _) hb rfl ⟨by rw[hct],rfl⟩
  | false=>
   rw[h10,if_neg Bool.false_ne_true]at hct;simp -dsimp only[aw,jV,jW,jX,jY,jZ,jA,reduceIte,reduceCtorEq,jB,jC,jD,jE,jF,jG,Rx,hlt,decide_true,aV,RE hx,cJ,s8,h10,ba hlt (show a≤9223372036854775807 by omega)];exact Nxt.same (RP _) hb rfl ⟨by rw[hct];rfl,rfl⟩
 .have hja:j=a:=by omega
  subst hja;simp -dsimp only[aw,jV,jW,jX,jY,jZ,jA,reduceIte,reduceCtorEq,jB,jC,jD,jE,jF,jG,RA,decide_false];exact al hb rfl rfl RD ⟨rfl,rfl⟩
def ovV(x:Int):V:=if -9223372036854775808≤x/\x≤9223372036854775807 then .tup [.d (ab x),.d (ab 0)]else .tup [.d (ab 0),.d (ab 3)]
theorem ir{x:Int}(h1 : -9223372036854775808≤x)(h2:x≤9223372036854775807):ovV x=.tup [.d (ab x),.d (ab 0)]:=if_pos ⟨h1,h2⟩
theorem mw{x:Int}(h:x < -9223372036854775808\/9223372036854775807<x):ovV x=.tup [.d (ab 0),.d (ab 3)]:=if_neg (by omega)
theorem vf(n:Int)(h0 : -9223372036854775808≤n)(h1:n≤9223372036854775807)(σ:LLV):Fun G 99 [.d (ab n)] σ (aA (.d (ab (-(n.natAbs:Int)))) σ):=by
 refine ai Tryz.func99 k99 rfl fun hb hw=>?_;unfold c99;by_cases h:0<n
 .have w:IntKind.i64.wrap (0-n) = -(n.natAbs:Int):=by rw[aJ (by omega) (by omega)];omega
  simp -dsimp only[aw,jV,jW,jX,jY,jZ,jA,reduceIte,reduceCtorEq,jB,jC,jD,jE,jF,jG,decide_eq_true h,w];first|exact au hb rfl rfl|exact av hb rfl rfl
 .have w:n = -(n.natAbs:Int):=by omega
  simp -dsimp only[aw,jV,jW,jX,jY,jZ,jA,reduceIte,reduceCtorEq,jB,jC,jD,jE,jF,jG,decide_eq_false h];rw[<-w];first|exact au hb rfl rfl|exact av hb rfl rfl
theorem yH(x:Int)(h0 : -18446744073709551616≤x)(h1:x≤18446744073709551616):(-9223372036854775808≤x/\x≤9223372036854775807/\IntKind.i64.wrap x=x)\/(x < -9223372036854775808/\IntKind.i64.wrap x=x+18446744073709551616)\/(9223372036854775807<x/\IntKind.i64.wrap x=x-18446744073709551616):=by
 by_cases a:x < -9223372036854775808
 .exact .inr (.inl ⟨a,by simp[IntKind.wrap,IntKind.bits,IntKind.signed];split<;>omega⟩)
 .by_cases b:9223372036854775807<x
  .exact .inr (.inr ⟨b,by simp[IntKind.wrap,IntKind.bits,IntKind.signed];split<;>omega⟩)
  .exact .inl ⟨by omega,by omega,aJ (by omega) (by omega)⟩
theorem Db(a b:Int)(ha : -9223372036854775808≤a)(ha':a≤9223372036854775807)(hb' : -9223372036854775808≤b)(hb2:b≤9223372036854775807)(σ:LLV):Fun G 137 [.d (ab a),.d (ab b)] σ (aA (ovV (a+b)) σ):=by
 refine ai Tryz.func137 Qw rfl fun hb hw=>?_;unfold MA;have hc:=yH (a+b) (by omega) (by omega);simp -dsimp only[aw,jV,jW,jX,jY,jZ,jA,reduceIte,reduceCtorEq,jB,jC,jD,jE,jF,jG];generalize IntKind.i64.wrap (a+b)=s at hc ⊢;by_cases h1:0<a<;>by_cases h2:0<b<;>by_cases h3:s<0<;>by_cases h4:a<0<;>by_cases h5:b<0<;>by_cases h6:0≤s<;>try (exfalso;omega)
 all_goals
  simp -dsimp only[aw,jV,jW,jX,jY,jZ,jA,reduceIte,reduceCtorEq,jB,jC,jD,jE,jF,jG,h1,h2,h3,h4,h5,h6,decide_true,decide_false]
  first
   | (rw[mw (by omega)];exact al hb rfl rfl RD ⟨rfl,rfl⟩)
   | (rw[ir (by omega) (by omega),show a+b=s by omega];exact al hb rfl rfl RD ⟨rfl,rfl⟩)
theorem ot(a b:Int)(ha : -9223372036854775808≤a)(ha':a≤9223372036854775807)(hb' : -9223372036854775808≤b)(hb2:b≤9223372036854775807)(σ:LLV):Fun G 97 [.d (ab a),.d (ab b)] σ (aA (ovV (a-b)) σ):=by
 refine ai Tryz.func97 k97 rfl fun hb hw=>?_;unfold c97;by_cases h:b = -9223372036854775808
 .by_cases h1:0≤a
  .simp -dsimp only[aw,jV,jW,jX,jY,jZ,jA,reduceIte,reduceCtorEq,jB,jC,jD,jE,jF,jG,decide_eq_true h,decide_eq_true h1];rw[mw (by omega)];first|exact au hb rfl rfl|exact av hb rfl rfl
  .simp -dsimp only[aw,jV,jW,jX,jY,jZ,jA,reduceIte,reduceCtorEq,jB,jC,jD,jE,jF,jG,decide_eq_true h,decide_eq_false h1,aJ (show -9223372036854775808≤a-b by omega) (by omega)];rw[ir (by omega) (by omega)];first|exact au hb rfl rfl|exact av hb rfl rfl
 .simp -dsimp only[aw,jV,jW,jX,jY,jZ,jA,reduceIte,reduceCtorEq,jB,jC,jD,jE,jF,jG,decide_eq_false h,aJ (show -9223372036854775808≤0-b by omega) (by omega)];refine ac (Db a (0-b) ha ha' (by omega) (by omega) _) ?_;rw[show a+(0-b)=a-b by omega];by_cases hr : -9223372036854775808≤a-b/\a-b≤9223372036854775807
  .rw[ir hr.1 hr.2];simp -dsimp only[aw,jV,jW,jX,jY,jZ,jA,reduceIte,reduceCtorEq,jB,jC,jD,jE,jF,jG];first|exact au hb rfl rfl|exact av hb rfl rfl
  .rw[mw (by omega)];simp -dsimp only[aw,jV,jW,jX,jY,jZ,jA,reduceIte,reduceCtorEq,jB,jC,jD,jE,jF,jG];first|exact au hb rfl rfl|exact av hb rfl rfl
theorem Eu(x:Int)(h:x≤0):x.tdiv 10 = -((-x)/10):=by
 have:x = -((-x)):=by omega
 rw[this,RC,Rz (by omega)];simp
theorem vF(a:Int)(ha : -9223372036854775808≤a)(ha':a≤0)(σ:LLV):Fun G 96 [.d (ab a),.d (ab 10)] σ (aA (ovV (a*10)) σ):=by
 refine ai Tryz.func96 k96 rfl fun hb hw=>?_;unfold c96;by_cases h0:a=0
 .subst h0;simp -dsimp only[aw,jV,jW,jX,jY,jZ,jA,reduceIte,reduceCtorEq,jB,jC,jD,jE,jF,jG,Ry,decide_true,decide_false];rw[ir (by omega) (by omega)];first|exact au hb rfl rfl|exact av hb rfl rfl
 .by_cases hr : -9223372036854775808≤a*10
  .have w:=aJ hr (by omega);have hd:(a*10).tdiv 10=a:=by rw[Eu _ (by omega)];omega
   have w2:=aJ ha (show a≤9223372036854775807 by omega);rw[ir hr (by omega)];by_cases h1:a = -1
   .simp -dsimp only[aw,jV,jW,jX,jY,jZ,jA,reduceIte,reduceCtorEq,jB,jC,jD,jE,jF,jG,decide_eq_false h0,w,hd,decide_eq_true h1,w2,Ry,decide_true,decide_false];first|exact au hb rfl rfl|exact av hb rfl rfl
   .simp -dsimp only[aw,jV,jW,jX,jY,jZ,jA,reduceIte,reduceCtorEq,jB,jC,jD,jE,jF,jG,decide_eq_false h0,w,hd,decide_eq_false h1,w2,Ry,decide_true,decide_false];first|exact au hb rfl rfl|exact av hb rfl rfl
  .rw[mw (by omega)];have h1:¬a = -1:=by omega
   have hp : -9223372036854775808≤IntKind.i64.wrap (a*10)/\IntKind.i64.wrap (a*10)≤9223372036854775807:=by
    simp only[IntKind.wrap,IntKind.bits,IntKind.signed];simp;split<;>omega
   have hd:¬IntKind.i64.wrap ((IntKind.i64.wrap (a*10)).tdiv 10)=a:=by
    generalize IntKind.i64.wrap (a*10)=p at hp;by_cases hp0:p≤0
    .rw[Eu p hp0,aJ (by omega) (by omega)];omega
    .rw[Rz (by omega),aJ (by omega) (by omega)];omega
   simp -dsimp only[aw,jV,jW,jX,jY,jZ,jA,reduceIte,reduceCtorEq,jB,jC,jD,jE,jF,jG,decide_eq_false h0,decide_eq_false h1,decide_eq_false hd,Ry,decide_true,decide_false];first|exact au hb rfl rfl|exact av hb rfl rfl
theorem uW(l:Bs)(hl:l.length≤1000000)(σ:LLV):Fun G 95 [.d (ae (bs l))] σ (aA (.d (.lit (.bool (l.all dig&&decide (0<l.length))))) σ):=by
 refine ai Tryz.func95 k95 rfl fun hb hw=>?_;unfold c95;simp -dsimp only[aw,jV,jW,jX,jY,jZ,jA,reduceIte,reduceCtorEq,jB,jC,jD,jE,jF,jG];refine fT (R:=fun(j:Nat) ρ σ'=>ρ=[(0,.d (ae (bs l))),(3,aL .i64 j)]/\σ'=σ/\l.all dig=(l.drop j).all dig) l.length ⟨rfl,rfl,rfl⟩ ?_ _;rintro j ρ' σ' hj ⟨rfl,rfl,hr⟩;by_cases hlt:j<l.length
 .have hd:(l.drop j).all dig=(dig l[j]&&(l.drop (j+1)).all dig):=by rw[RH hlt];rfl
  have hdg:dig l[j]=(decide (48≤(l[j].toNat:Int))&&decide ((l[j].toNat:Int)≤57)):=rfl;by_cases h1:(l[j].toNat:Int)<48
  .simp -dsimp only[aw,jV,jW,jX,jY,jZ,jA,reduceIte,reduceCtorEq,jB,jC,jD,jE,jF,jG,ay,Rx,hlt,decide_true,aV,RE hlt,cJ,decide_eq_true h1];rw[hd,hdg,decide_eq_false (by omega),Rs,Rs]at hr;rw[hr];first|exact au hb rfl rfl|exact av hb rfl rfl
  .by_cases h2:57<(l[j].toNat:Int)
   .simp -dsimp only[aw,jV,jW,jX,jY,jZ,jA,reduceIte,reduceCtorEq,jB,jC,jD,jE,jF,jG,ay,Rx,hlt,decide_true,aV,RE hlt,cJ,decide_eq_false h1,decide_eq_true h2];rw[hd,hdg,decide_eq_false (p:=(l[j].toNat:Int)≤57) (by omega),Bool.and_false,Rs]at hr;rw[hr];first|exact au hb rfl rfl|exact av hb rfl rfl
   .simp -dsimp only[aw,jV,jW,jX,jY,jZ,jA,reduceIte,reduceCtorEq,jB,jC,jD,jE,jF,jG,ay,Rx,hlt,decide_true,aV,RE hlt,cJ,decide_eq_false h1,decide_eq_false h2,ba hlt (show l.length≤9223372036854775807 by omega)];rw[hd,hdg,decide_eq_true (p:=(l[j].toNat:Int)≤57) (by omega),decide_eq_true (p:=48≤(l[j].toNat:Int)) (by omega),Ru,Ru]at hr;exact Nxt.same (RP _) hb rfl ⟨rfl,rfl,hr⟩
 .simp -dsimp only[aw,jV,jW,jX,jY,jZ,jA,reduceIte,reduceCtorEq,jB,jC,jD,jE,jF,jG,ay,Rx,hlt,decide_false];rw[RI (by omega)]at hr;rw[hr];have e0:decide ((0:Int)<((l.length:Nat):Int))=decide (0<l.length):=by rw[decide_eq_decide];omega
  rw[e0];first|exact au hb rfl rfl|exact av hb rfl rfl
theorem Du(l:Bs)(c:UInt8)(acc:Nat):qV acc (l++[c])=10*qV acc l+(c.toNat-48):=by unfold qV;rw[RL];rfl
theorem B6{l:Bs}{j:Nat}(h:j<l.length):ct (l.take (j+1))=10*ct (l.take j)+(l[j].toNat-48):=by
 rw[RK,RE h];exact Du _ _ 0
theorem Bl(l:Bs)(j:Nat):ct (l.take j)≤ct l:=by
 have:ct l=qV (ct (l.take j)) (l.drop j):=by
  conv=>lhs;rw[<-List.take_append_drop j l]
  unfold ct qV;rw[RL]
 rw[this];exact ue _ _
def oj(c:UInt8)(l:Bs):V:=if l.all dig=false\/(1<l.length/\c=48)then .tup [.d (ab 0),.d (ab 5)]else if 9223372036854775807<ct l then .tup [.d (ab 0),.d (ab 3)]else .tup [.d (ab (ct l:Nat)),.d (ab 0)]
theorem wi(c:UInt8)(r l:Bs)(he:l=c::r)(hc:dig c=true)(hl:l.length≤1000000)(σ:LLV):Fun G 60 [.d (ae (bs l))] σ (aA (oj c l) σ):=by
 have hix:ixV (V.d (ae (bs l))) (V.d (.lit (.int .i64 0)))=some (aL .u8 c.toNat):=by rw[he];simp[ixV,aV]
 have hlp:0<l.length:=by rw[he];simp
 have hlp':(0:Int)<((l.length:Nat):Int):=by omega
 have h45:(c==45)=false:=by
  rw[beq_eq_false_iff_ne];intro e;subst e;revert hc;decide
 refine ai Tryz.func60 k60 rfl fun hb hw=>?_;unfold c60;simp -dsimp only[aw,jV,jW,jX,jY,jZ,jA,reduceIte,reduceCtorEq,jB,jC,jD,jE,jF,jG,ay,decide_eq_true hlp',hix,MK,h45];refine ac (uW l hl _) ?_;rw[decide_eq_true hlp,Bool.and_true];cases hall:l.all dig with
 | false=>
  simp -dsimp only[aw,jV,jW,jX,jY,jZ,jA,reduceIte,reduceCtorEq,jB,jC,jD,jE,jF,jG];unfold oj;rw[if_pos (.inl hall)];first|exact au hb rfl rfl|exact av hb rfl rfl
 | true=>
  have hds:∀x,x∈l->dig x=true:=fun x hx=>List.all_eq_true.1 hall x hx;have h48:decide (bs l=(⟨#[48]⟩:ByteArray))=decide (l=[48]):=qv l [48];by_cases hlead:1<l.length/\c=48
  .have hne:¬l=[48]:=by rintro rfl;simp at hlead
   simp -dsimp only[aw,jV,jW,jX,jY,jZ,jA,reduceIte,reduceCtorEq,jB,jC,jD,jE,jF,jG,hix,D5,beq_iff_eq.2 hlead.2,h48,decide_eq_false hne];unfold oj;rw[if_pos (.inr hlead)];first|exact au hb rfl rfl|exact av hb rfl rfl
  .have hR:oj c l=if 9223372036854775807<ct l then .tup [.d (ab 0),.d (ab 3)]else .tup [.d (ab (ct l:Nat)),.d (ab 0)]:=by
    unfold oj;rw[if_neg (by rw[hall];simpa using hlead)]
   have hcond:(c==48)=false\/((c==48)=true/\l=[48]):=by
    by_cases h:c=48
    .refine .inr ⟨by simp[h],?_⟩
     have:r=[]:=by
      cases r with
      | nil=>rfl
      | cons a r=>exact absurd ⟨by rw[he];simp,h⟩ hlead
     rw[he,this,h]
    .exact .inl (by simpa using h)
   rw[hR];rcases hcond with h|⟨h,h2⟩
   all_goals
    first
     | simp -dsimp only[aw,jV,jW,jX,jY,jZ,jA,reduceIte,reduceCtorEq,jB,jC,jD,jE,jF,jG,hix,D5,h,h48,decide_eq_true h2]
     | simp -dsimp only[aw,jV,jW,jX,jY,jZ,jA,reduceIte,reduceCtorEq,jB,jC,jD,jE,jF,jG,hix,D5,h]
    refine fT (R:=fun(j:Nat) ρ σ'=>ρ=[(4,.d (ae (bs l))),(5,aq false),(6,aL .i64 (-(ct (l.take j):Nat))),(7,aL .i64 j)]/\σ'=σ/\ct (l.take j)≤9223372036854775808) l.length ⟨rfl,rfl,by simp[ct]⟩ ?_ _;rintro j ρ' σ' hj ⟨rfl,rfl,hm⟩;by_cases hlt:j<l.length
    .have hst:=B6 hlt;have hmono:=Bl l (j+1);have hdg:=hds _ (List.getElem_mem hlt);unfold dig da at hdg;simp only[Rv,decide_eq_true_eq]at hdg;have hu8:IntKind.u8.wrap ((l[j].toNat:Int)-48)=(l[j].toNat:Int)-48:=by simp[IntKind.wrap,IntKind.bits,IntKind.signed];omega
     have hi64:IntKind.i64.wrap ((l[j].toNat:Int)-48)=(l[j].toNat:Int)-48:=aJ (by omega) (by omega);generalize ct (l.take (j+1))=m1 at *;generalize ct (l.take j)=m0 at *;simp -dsimp only[aw,jV,jW,jX,jY,jZ,jA,reduceIte,reduceCtorEq,jB,jC,jD,jE,jF,jG,ay,Rx,hlt,decide_true];refine ac (vF (-(m0:Int)) (by omega) (by omega) _) ?_;by_cases hx:m0*10≤9223372036854775808
     .rw[ir (by omega) (by omega)];simp -dsimp only[aw,jV,jW,jX,jY,jZ,jA,reduceIte,reduceCtorEq,jB,jC,jD,jE,jF,jG,aV,RE hlt,cJ,hu8,hi64];refine ac (ot (-(m0:Int)*10) ((l[j].toNat:Int)-48) (by omega) (by omega) (by omega) (by omega) _) ?_;by_cases hy:m1≤9223372036854775808
      .rw[ir (by omega) (by omega)];simp -dsimp only[aw,jV,jW,jX,jY,jZ,jA,reduceIte,reduceCtorEq,jB,jC,jD,jE,jF,jG,Ry,decide_true,ba hlt (show l.length≤9223372036854775807 by omega)];exact⟨hlt,Nxt.same (RP _) hb rfl ⟨by rw[show -(m0:Int)*10-((l[j].toNat:Int)-48) = -(m1:Int)by omega],rfl,hy⟩⟩
      .rw[mw (by omega)];simp -dsimp only[aw,jV,jW,jX,jY,jZ,jA,reduceIte,reduceCtorEq,jB,jC,jD,jE,jF,jG,Ry,decide_true,decide_false];rw[if_pos (show 9223372036854775807<ct l by omega)];first|exact au hb rfl rfl|exact av hb rfl rfl
     .rw[mw (by omega)];simp -dsimp only[aw,jV,jW,jX,jY,jZ,jA,reduceIte,reduceCtorEq,jB,jC,jD,jE,jF,jG,aV,RE hlt,cJ,hu8,hi64];refine ac (ot 0 ((l[j].toNat:Int)-48) (by omega) (by omega) (by omega) (by omega) _) ?_;rw[ir (by omega) (by omega)];simp -dsimp only[aw,jV,jW,jX,jY,jZ,jA,reduceIte,reduceCtorEq,jB,jC,jD,jE,jF,jG,Ry,decide_true,decide_false];rw[if_pos (show 9223372036854775807<ct l by omega)];first|exact au hb rfl rfl|exact av hb rfl rfl
    .have hje:j=l.length:=by omega
     subst hje;rw[RD]at hm ⊢;simp -dsimp only[aw,jV,jW,jX,jY,jZ,jA,reduceIte,reduceCtorEq,jB,jC,jD,jE,jF,jG,ay,RA,decide_false];refine ac (ot 0 (-(ct l:Nat):Int) (by omega) (by omega) (by omega) (by omega) _) ?_;rw[show(0:Int) - -((ct l:Nat):Int)=(ct l:Nat)by omega];by_cases hy:9223372036854775807<ct l
     .rw[mw (by omega),if_pos hy];simp -dsimp only[aw,jV,jW,jX,jY,jZ,jA,reduceIte,reduceCtorEq,jB,jC,jD,jE,jF,jG];first|exact au hb rfl rfl|exact av hb rfl rfl
     .rw[ir (by omega) (by omega),if_neg hy];simp -dsimp only[aw,jV,jW,jX,jY,jZ,jA,reduceIte,reduceCtorEq,jB,jC,jD,jE,jF,jG];first|exact au hb rfl rfl|exact av hb rfl rfl
theorem tZ(n:Int)(h0 : -9223372036854775808≤n)(h1:n≤9223372036854775807)(hs:(Lib.itoa n).length≤1000)(σ:LLV):Fun G 62 [.d (ab n)] σ (aA (.d (ae (bs (Lib.itoa n)))) σ):=by
 have hlen:(Lib.decDigits n.natAbs).length≤1000:=by
  unfold Lib.itoa at hs;split at hs
  .simp at hs;omega
  .rwa[show n.toNat=n.natAbs by omega]at hs
 refine ai Tryz.func62 k62 rfl fun hb hw=>?_;unfold c62;simp -dsimp only[aw,jV,jW,jX,jY,jZ,jA,reduceIte,reduceCtorEq,jB,jC,jD,jE,jF,jG];refine ac (vf n h0 h1 _) ?_;simp -dsimp only[aw,jV,jW,jX,jY,jZ,jA,reduceIte,reduceCtorEq,jB,jC,jD,jE,jF,jG];refine fT (R:=fun(j:Nat) ρ σ'=>∃(u:Nat) (tl:Bs),(j=0\/1≤u)/\u+j≤n.natAbs/\Lib.decDigits n.natAbs=(if j=0 then Lib.decDigits u else Lib.decDigits u++tl)/\(j=0->tl=[])/\(ρ=[(0,.d (ab n)),(3,.d (ae (bs tl))),(4,aL .i64 (-(u:Int)))]\/ρ=[(0,.d (ab n)),(3,.d (ae (bs tl))),(4,aL .i64 (-(u:Int))),(18,aq false)])/\σ'=σ) n.natAbs ⟨n.natAbs,[],.inl rfl,by omega,by rw[if_pos rfl],fun _=>rfl,.inl rfl,rfl⟩ ?_ _;rintro j ρ' σ' hj ⟨u,tl,hu,huj,hd,htl,hρ,rfl⟩
 have hd':Lib.decDigits n.natAbs=Lib.decDigits u++tl:=by
  rw[hd];split
  .rename_i e;rw[htl e,List.append_nil]
  .rfl
 have htlen:tl.length≤1000:=by have:=congrArg List.length hd';rw[List.length_append]at this;omega
 have hrem:(-(u:Int)).tmod 10 = -((u%10:Nat):Int):=by rw[Int.neg_tmod];rfl
 have hquo:(-(u:Int)).tdiv 10 = -((u/10:Nat):Int):=by rw[RC];rfl
 have hsub:IntKind.i64.wrap (48 - -((u%10:Nat):Int))=((48+u%10:Nat):Int):=by rw[aJ (by omega) (by omega)];omega
 have hu8:IntKind.u8.wrap ((48+u%10:Nat):Int)=((48+u%10:Nat):Int):=by simp[IntKind.wrap,IntKind.bits,IntKind.signed];omega
 have hcb:∀τ:LLV,FG τ (.d (.sl [[.lit (.int .u8 ((48+u%10:Nat):Int))]]))=some (.d (ae (bs [UInt8.ofNat (48+u%10)]))):=fun _=>rfl;have hwq:IntKind.i64.wrap (-((u/10:Nat):Int)) = -((u/10:Nat):Int):=aJ (by omega) (by omega);have hle:1+tl.length≤9223372036854775807:=by omega
 have e45:(⟨#[45]⟩:ByteArray)=bs [45]:=rfl;rcases hρ with rfl|rfl
 all_goals
  by_cases hz:u/10=0
  .have hz':(-((u/10:Nat):Int))=0:=by omega
   have hlast:Lib.decDigits n.natAbs=UInt8.ofNat (48+u%10)::tl:=by
    rw[hd',Lib.decDigits,dif_pos (by omega),show u%10=u by omega];rfl
   have hle2:1+(tl.length+1)≤9223372036854775807:=by omega
   simp -dsimp only[aw,jV,jW,jX,jY,jZ,jA,reduceIte,reduceCtorEq,jB,jC,jD,jE,jF,jG,hrem,hquo,hsub,hu8,hcb,hwq,ay,eB,hle,decide_eq_true hz',Ry];by_cases hn:n<0
   .simp -dsimp only[aw,jV,jW,jX,jY,jZ,jA,reduceIte,reduceCtorEq,jB,jC,jD,jE,jF,jG,decide_eq_true hn,e45,ay,eB,hle2];have:Lib.itoa n=45::UInt8.ofNat (48+u%10)::tl:=by unfold Lib.itoa;rw[if_pos hn,hlast]
    rw[this];first|exact au hb rfl rfl|exact av hb rfl rfl
   .simp -dsimp only[aw,jV,jW,jX,jY,jZ,jA,reduceIte,reduceCtorEq,jB,jC,jD,jE,jF,jG,decide_eq_false hn];have:Lib.itoa n=UInt8.ofNat (48+u%10)::tl:=by unfold Lib.itoa;rw[if_neg hn,show n.toNat=n.natAbs by omega,hlast]
    rw[this];first|exact au hb rfl rfl|exact av hb rfl rfl
  .have hz':¬(-((u/10:Nat):Int))=0:=by omega
   simp -dsimp only[aw,jV,jW,jX,jY,jZ,jA,reduceIte,reduceCtorEq,jB,jC,jD,jE,jF,jG,hrem,hquo,hsub,hu8,hcb,hwq,ay,eB,hle,decide_eq_false hz',Ry];refine⟨by omega,Nxt.same (RP _) hb rfl ⟨u/10,UInt8.ofNat (48+u%10)::tl,.inr (by omega),by omega,?_,fun h=>by omega,.inr rfl,rfl⟩⟩;rw[if_neg (by omega),hd',Lib.decDigits,dif_neg (by omega),List.append_assoc];rfl
end Go.Proofs.YthekkgfmagliiaaGreatDoor
