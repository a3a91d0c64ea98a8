import Derived.Test.YthekkgfmagliiaaGreatDoorShelf
set_option linter.unusedVariables false
set_option linter.unusedSimpArgs false
set_option linter.unusedSectionVars false
set_option maxHeartbeats 1000000
open Bool renaming false_and->RS,and_false->RU,true_and->RW,and_true->RX,and_assoc->RY,false_or->RZ,true_or->R0,and_eq_true->R5
open Int renaming reduceEq->R6,ofNat_lt->R7,reduceLT->R8
open List renaming take_left->R9,getElem?_eq_getElem->Sa,length_append->Sb,drop_eq_getElem_cons->Sc,map_cons->Sd,drop_eq_nil_of_le->Se,take_add_one->Sf,flatten_cons->Si,getElem_mem->Sj,map_append->Sk,take_of_length_le->Sl,append_assoc->Sm,take_length->Sn,any_eq_true->So,sum_append->Sr,mem_append->Ss,append_nil->Su,sum_cons->Sv
namespace Go.Proofs.YthekkgfmagliiaaGreatDoor
open Go.RowKit
open Nat renaming reduceLeDiff -> jA, reduceBEq -> jB, reduceLT -> jC, reduceEqDiff -> jD, reduceAdd -> jE, reduceSub -> jF, reduceMul -> jG
open V renaming copy -> jV, lend -> jW, lend1 -> jX, cells -> jY, boxable -> jZ
mutual
def ic:Ts->List ByteArray
 | .mk o _ _ _ s l=>(if o=6 then[s]else[])++js l
def js:List Ts->List ByteArray
 | []=>[]
 | a::r=>ic a++js r
end
theorem A4(s:Ts):ic s=(if s.op=6 then[s.name]else[])++js s.args:=by cases s;rfl
theorem mZ(l:List Ts):js l=(l.map ic).flatten:=by
 induction l with
 | nil=>rfl
 | cons a r ih=>simp only[js,ih,Sd,Si]
theorem tJ(s:Ts):(ic s).length=(tnm s).length/\∀x,x∈ic s↔x∈tnm s:=by
 induction s using Ts.ind with
 | h s ih=>
 rw[A4,AB,mZ]
 have H:∀l:List Ts,(∀a,a∈l->(ic a).length=(tnm a).length/\∀x,x∈ic a↔x∈tnm a)->((l.map ic).flatten.length=(l.map tnm).flatten.length/\∀x,x∈(l.map ic).flatten↔x∈(l.map tnm).flatten):=by
  intro l
  induction l with
  | nil=>intro _;exact⟨rfl,fun x=>Iff.rfl⟩
  | cons a r ihr=>
   intro h;obtain⟨h1,h2⟩:=h a (by simp);obtain⟨h3,h4⟩:=ihr (fun x hx=>h x (by simp[hx]));refine⟨by simp only[Sd,Si,Sb,h1,h3],fun x=>?_⟩;simp only[Sd,Si,Ss,h2 x,h4 x]
 obtain⟨h1,h2⟩:=H s.args ih;refine⟨by simp only[Sb,h1];omega,fun x=>?_⟩;simp only[Ss,h2 x];exact Or.comm
theorem tg(e:Ex)(σ:LLV):Fun G 74 [vex e] σ (az (an (ib e)) σ):=by
 refine ai Tryz.func74 k74 (by simp only[al];rfl) fun hb hw=>?_;unfold c74 ib;simp -dsimp only[aw,jV,jW,jX,jY,jZ,jA,reduceIte,reduceCtorEq,jB,jC,jD,jE,jF,jG,al];refine aD (fun h1=>?_) (fun h1=>?_)
 .simp -dsimp only[aw,jV,jW,jX,jY,jZ,jA,reduceIte,reduceCtorEq,jB,jC,jD,jE,jF,jG];refine aD (fun h2=>?_) (fun h2=>?_)
  .simp -dsimp only[aw,jV,jW,jX,jY,jZ,jA,reduceIte,reduceCtorEq,jB,jC,jD,jE,jF,jG];refine aD (fun h3=>?_) (fun h3=>?_)
   .simp -dsimp only[aw,jV,jW,jX,jY,jZ,jA,reduceIte,reduceCtorEq,jB,jC,jD,jE,jF,jG];exact ao hb rfl rfl R9 ⟨by rw[h1,h2,h3];simp;rfl,rfl⟩
   .simp -dsimp only[aw,jV,jW,jX,jY,jZ,jA,reduceIte,reduceCtorEq,jB,jC,jD,jE,jF,jG];exact ao hb rfl rfl R9 ⟨by rw[h1,h2,h3];simp;rfl,rfl⟩
  .simp -dsimp only[aw,jV,jW,jX,jY,jZ,jA,reduceIte,reduceCtorEq,jB,jC,jD,jE,jF,jG];exact ao hb rfl rfl R9 ⟨by rw[h1,h2];simp;rfl,rfl⟩
 .simp -dsimp only[aw,jV,jW,jX,jY,jZ,jA,reduceIte,reduceCtorEq,jB,jC,jD,jE,jF,jG];exact ao hb rfl rfl R9 ⟨by rw[h1];simp;rfl,rfl⟩
theorem FJ{l:List ByteArray}{s:ByteArray}{j:Nat}(h:j<l.length):inB s (l.drop j)=(decide (l[j]=s)||inB s (l.drop (j+1))):=by
 rw[Sc h];unfold inB;rfl
theorem Gv(l:List ByteArray)(s:ByteArray)(hl:l.length≤1000000)(σ:LLV):Fun G 79 [.d (dA l),.d (ae s)] σ (az (an (inB s l)) σ):=by
 refine ai Tryz.func79 k79 rfl fun hb hw=>?_;unfold c79;simp -dsimp only[aw,jV,jW,jX,jY,jZ,jA,reduceIte,reduceCtorEq,jB,jC,jD,jE,jF,jG,dA];refine aY [0,1,5] (R:=fun(j:Nat) ρ σ'=>ρ=[(0,.d (.sl (l.map fun s=>[ae s]))),(1,.d (ae s)),(5,aI .i64 j)]/\σ'=σ/\inB s l=inB s (l.drop j)) l.length ⟨rfl,rfl,by simp⟩ ?_ _;rintro j ρ' σ' hj ⟨rfl,rfl,hr⟩;by_cases hlt:j<l.length
 .rw[FJ hlt]at hr;simp -dsimp only[aw,jV,jW,jX,jY,jZ,jA,reduceIte,reduceCtorEq,jB,jC,jD,jE,jF,jG,R7,hlt,decide_true,Sa hlt];by_cases he:l[j]=s
  .rw[decide_eq_true he,R0]at hr;simp -dsimp only[aw,jV,jW,jX,jY,jZ,jA,reduceIte,reduceCtorEq,jB,jC,jD,jE,jF,jG,decide_eq_true he];exact ao hb rfl rfl Sn ⟨by rw[hr];rfl,rfl⟩
  .rw[decide_eq_false he,RZ]at hr;simp -dsimp only[aw,jV,jW,jX,jY,jZ,jA,reduceIte,reduceCtorEq,jB,jC,jD,jE,jF,jG,decide_eq_false he,bl hlt (show l.length≤9223372036854775807 by omega)];exact⟨hlt,Nxt.same (Nat.le_refl _) hb rfl ⟨rfl,rfl,hr⟩⟩
 .simp -dsimp only[aw,jV,jW,jX,jY,jZ,jA,reduceIte,reduceCtorEq,jB,jC,jD,jE,jF,jG,R7,hlt,decide_false];rw[Se (by omega)]at hr;exact ao hb rfl rfl Sn ⟨by rw[hr];rfl,rfl⟩
def ii(s:Ts)(n d:Int):Int:=if(tsz s:Int)≤n/\(tdp s:Int)≤d then n-tsz s else -1
abbrev szs(l:List Ts):Nat:=(l.map tsz).sum
theorem xC{l:List Ts}{j:Nat}(h:j<l.length):szs (l.take (j+1))=szs (l.take j)+tsz l[j]:=by
 unfold szs;rw[Sf,Sa h,Sk,Sr];show _+(tsz l[j]+0)=_;omega
theorem Gh(l:List Ts)(j:Nat):szs (l.take j)≤szs l:=by
 unfold szs
 conv=>rhs;rw[<-List.take_append_drop j l,Sk,Sr]
 omega
theorem J3{l:List Ts}{d:Nat}(h:∀a,a∈l->tdp a≤d):lm l≤d:=by
 induction l with
 | nil=>exact Nat.zero_le _
 | cons a r ih=>
  simp only[lm];have:=h a (by simp);have:=ih fun x hx=>h x (by simp[hx]);omega
theorem yc(s:Ts):∀(n d:Int),bd s≤1000000->0≤n->n≤1000000->0≤d->d≤1000000->∀σ,Fun G 39 [vts s,.d (ab n),.d (ab d)] σ (az (.d (ab (ii s n d))) σ):=by
 induction s using Ts.ind with
 | h s ih=>
 intro n d hs hn0 hn1 hd0 hd1 σ;have hln:=ey s;have hsz:=pt s;have hdp:=uM s;refine ai Tryz.func39 k39 (by simp only[ak];rfl) fun hb hw=>?_;unfold c39
 have out:∀(r:Int) (l:LLV),ii s n d=r->fin σ.length MU (az (.d (ab (ii s n d))) σ) .ret [(6,.d (.lit (.int .i64 r)))] (σ++l):=fun r l h=>by
  rw[h];exact ao hb rfl rfl R9 ⟨rfl,rfl⟩
 simp -dsimp only[aw,jV,jW,jX,jY,jZ,jA,reduceIte,reduceCtorEq,jB,jC,jD,jE,jF,jG,ak];by_cases h1:n<1
 .simp -dsimp only[aw,jV,jW,jX,jY,jZ,jA,reduceIte,reduceCtorEq,jB,jC,jD,jE,jF,jG,decide_eq_true h1];exact out (-1) _ (by unfold ii;rw[if_neg (by omega)])
 by_cases h2:d<1
 .simp -dsimp only[aw,jV,jW,jX,jY,jZ,jA,reduceIte,reduceCtorEq,jB,jC,jD,jE,jF,jG,decide_eq_false h1,decide_eq_true h2];exact out (-1) _ (by unfold ii;rw[if_neg (by omega)])
 have hw1:IntKind.i64.wrap (n-1)=n-1:=aX (by omega) (by omega);simp -dsimp only[aw,jV,jW,jX,jY,jZ,jA,reduceIte,reduceCtorEq,jB,jC,jD,jE,jF,jG,decide_eq_false h1,decide_eq_false h2,hw1];refine aY [1,2,3,7] (R:=fun(j:Nat) ρ σ'=>ρ=[(1,.d (ab (n-1-szs (s.args.take j)))),(2,.d (ab d)),(3,.ptr σ.length 0),(7,aI .i64 j)]/\σ'=σ++[ig s]/\(szs (s.args.take j):Int)≤n-1/\∀a,a∈s.args.take j->(tdp a:Int)≤d-1) s.args.length ⟨by simp[szs];rfl,rfl,by simp[szs];omega,by simp⟩ ?_ _;rintro j ρ' σ' hj ⟨rfl,rfl,hle,hdl⟩;by_cases hlt:j<s.args.length
 .have hw2:IntKind.i64.wrap (d-1)=d-1:=aX (by omega) (by omega);have ha:=Sj hlt;have ht:=xC hlt;have hle2:=Gh s.args (j+1);simp -dsimp only[aw,jV,jW,jX,jY,jZ,jA,reduceIte,reduceCtorEq,jB,jC,jD,jE,jF,jG,R7,hlt,decide_true,Sa hlt,bw s.args[j],hw2];refine ac (by simpa only[ak]using ih s.args[j] ha (n-1-szs (s.args.take j)) (d-1) (by have:=d5 ha;omega) (by omega) (by omega) (by omega) (by omega) _) ?_;by_cases hc:(tsz s.args[j]:Int)≤n-1-szs (s.args.take j)/\(tdp s.args[j]:Int)≤d-1
  .have hr:ii s.args[j] (n-1-szs (s.args.take j)) (d-1)=n-1-szs (s.args.take (j+1)):=by
    unfold ii;rw[if_pos hc,ht];omega
   have h0:¬n-1-(szs (s.args.take (j+1)):Int)<0:=by omega
   rw[hr];simp -dsimp only[aw,jV,jW,jX,jY,jZ,jA,reduceIte,reduceCtorEq,jB,jC,jD,jE,jF,jG,decide_eq_false h0,bl hlt (show s.args.length≤9223372036854775807 by omega)];refine⟨hlt,Nxt.same (by simp) (av hb rfl) (by simp[am,V.under]) ⟨rfl,rfl,by omega,fun a ha'=>?_⟩⟩;rw[Sf,Sa hlt]at ha';rcases List.mem_append.1 ha' with e|e
   .exact hdl a e
   .have:a=s.args[j]:=by simpa using e
    rw[this];exact hc.2
  .have hr:ii s.args[j] (n-1-szs (s.args.take j)) (d-1) = -1:=by unfold ii;rw[if_neg hc]
   rw[hr];simp -dsimp only[aw,jV,jW,jX,jY,jZ,jA,reduceIte,reduceCtorEq,jB,jC,jD,jE,jF,jG,R8,decide_true];refine out (-1) _ ?_;unfold ii;refine if_neg fun⟨g1,g2⟩=>hc ⟨?_,?_⟩
   .show(tsz s.args[j]:Int)≤n-1-szs (s.args.take j);have:szs (s.args.take (j+1))≤szs s.args:=hle2;have e:tsz s=1+szs s.args:=hsz;omega
   .have:=vZ ha;omega
 .simp -dsimp only[aw,jV,jW,jX,jY,jZ,jA,reduceIte,reduceCtorEq,jB,jC,jD,jE,jF,jG,R7,hlt,decide_false];rw[Sl (show s.args.length≤j by omega)]at hle hdl ⊢;refine out _ _ ?_;have e:tsz s=1+szs s.args:=hsz;have hdd:lm s.args≤(d-1).toNat:=J3 fun a ha=>by have:=hdl a ha;omega
  unfold ii;rw[if_pos ⟨by omega,by omega⟩];omega
def nmB(s:Ts):Bool:=decide (s.name=⟨#[]⟩)
def sX(s:Ts):Bool:=(decide (0≤s.lo)&&decide (s.lo≤s.hi))&&decide (s.hi≤16)
def pw(s:Ts):Bool:=ib s.ex&&nmB s
def gu(s:Ts):Bool:=
 if s.op=1 then(decide ((s.args.length:Int)=0)&&el s)&&nmB s
 else if s.op=2 then(decide ((s.args.length:Int)=2)&&sX s)&&pw s
 else if s.op=3 then((decide ((s.args.length:Int)=1)&&sX s)&&decide (1≤s.lo))&&pw s
 else if s.op=4\/s.op=5 then((decide (2≤(s.args.length:Int))&&decide ((s.args.length:Int)≤8))&&el s)&&pw s
 else if s.op=6 then decide ((s.args.length:Int)=1)&&el s
 else if s.op=7 then(decide ((s.args.length:Int)=1)&&el s)&&nmB s
 else false
theorem rk(s:Ts):gu s=(gj s&&((cK s.op||ib s.ex)&&(decide (s.op=6)||nmB s))):=by
 have c0:decide ((s.args.length:Int)=0)=decide (s.args.length=0):=by congr 1;apply propext;omega
 have c1:decide ((s.args.length:Int)=1)=decide (s.args.length=1):=by congr 1;apply propext;omega
 have c2:decide ((s.args.length:Int)=2)=decide (s.args.length=2):=by congr 1;apply propext;omega
 have c3:(decide (2≤(s.args.length:Int))&&decide ((s.args.length:Int)≤8))=decide (2≤s.args.length/\s.args.length≤8):=by
  rw[<-Bool.decide_and];congr 1;apply propext;omega
 unfold gu gj cK sX pw jp;rw[c0,c1,c2,c3];generalize ib s.ex=z;generalize nmB s=m;generalize el s=p;by_cases o1:s.op=1
 .simp[o1,RY]
 by_cases o2:s.op=2
 .simp[o2,RY]
 by_cases o3:s.op=3
 .simp only[o3,R6,if_true,if_false,decide_false,decide_true,RZ,Bool.or_false];by_cases g:1≤s.lo
  .rw[decide_eq_true g,decide_eq_true (show 0≤s.lo by omega)];simp[RY]
  .rw[decide_eq_false g];simp
 by_cases o4:s.op=4\/s.op=5
 .have e1:decide (s.op=1)=false:=decide_eq_false o1;have e6:decide (s.op=6)=false:=decide_eq_false (by omega);have e7:decide (s.op=7)=false:=decide_eq_false (by omega);rw[if_neg o1,if_neg o2,if_neg o3,if_pos o4,if_neg o1,if_neg o2,if_neg o3,if_pos o4,e1,e6,e7];simp[RY]
 rw[if_neg o1,if_neg o2,if_neg o3,if_neg o4,if_neg o1,if_neg o2,if_neg o3,if_neg o4];by_cases o6:s.op=6
 .simp[o6]
 by_cases o7:s.op=7
 .simp[o7,RY]
 .simp[o6,o7]
theorem yY(s:Ts)(hs:s.args.length≤1000000)(σ:LLV):Fun G 75 [vts s] σ (az (an (gu s)) σ):=by
 have hsh:gu s=gu s:=rfl
 conv at hsh=>rhs;unfold gu
 refine ai Tryz.func75 k75 (by simp only[ak];rfl) fun hb hw=>?_;unfold c75;refine ep [(1,.ptr σ.length 0)] (σ++[ig s]) ?_ ?_
 .simp -dsimp only[aw,jV,jW,jX,jY,jZ,jA,reduceIte,reduceCtorEq,jB,jC,jD,jE,jF,jG,ak]
 refine ep [(1,.ptr σ.length 0),(3,aI .i64 s.args.length)] (σ++[ig s]) ?_ ?_
 .simp -dsimp only[aw,jV,jW,jX,jY,jZ,jA,reduceIte,reduceCtorEq,jB,jC,jD,jE,jF,jG]
 refine ep [(1,.ptr σ.length 0),(3,aI .i64 s.args.length),(4,an (sX s))] (σ++[ig s]) ?_ ?_
 .simp -dsimp only[aw,jV,jW,jX,jY,jZ,jA,reduceIte,reduceCtorEq,jB,jC,jD,jE,jF,jG];refine aD (fun h1=>?_) (fun h1=>?_)
  .simp -dsimp only[aw,jV,jW,jX,jY,jZ,jA,reduceIte,reduceCtorEq,jB,jC,jD,jE,jF,jG];refine aD (fun h2=>?_) (fun h2=>?_)
   .simp -dsimp only[aw,jV,jW,jX,jY,jZ,jA,reduceIte,reduceCtorEq,jB,jC,jD,jE,jF,jG];simp[sX,h1,h2]
   .simp -dsimp only[aw,jV,jW,jX,jY,jZ,jA,reduceIte,reduceCtorEq,jB,jC,jD,jE,jF,jG];simp[sX,h1,h2]
  .simp -dsimp only[aw,jV,jW,jX,jY,jZ,jA,reduceIte,reduceCtorEq,jB,jC,jD,jE,jF,jG];simp[sX,h1]
 refine ep [(1,.ptr σ.length 0),(3,aI .i64 s.args.length),(4,an (sX s)),(5,an (el s))] (σ++[ig s]) ?_ ?_
 .simp -dsimp only[aw,jV,jW,jX,jY,jZ,jA,reduceIte,reduceCtorEq,jB,jC,jD,jE,jF,jG];refine aD (fun h1=>?_) (fun h1=>?_)
  .simp -dsimp only[aw,jV,jW,jX,jY,jZ,jA,reduceIte,reduceCtorEq,jB,jC,jD,jE,jF,jG];simp[el,h1]
  .simp -dsimp only[aw,jV,jW,jX,jY,jZ,jA,reduceIte,reduceCtorEq,jB,jC,jD,jE,jF,jG];simp[el,h1]
 refine ep [(1,.ptr σ.length 0),(3,aI .i64 s.args.length),(4,an (sX s)),(5,an (el s)),(6,an (pw s))] (σ++[ig s]) ?_ ?_
 .simp -dsimp only[aw,jV,jW,jX,jY,jZ,jA,reduceIte,reduceCtorEq,jB,jC,jD,jE,jF,jG];refine ac (by simpa only[al]using tg s.ex _) ?_;cases hz:ib s.ex with
  | true=>
   simp -dsimp only[aw,jV,jW,jX,jY,jZ,jA,reduceIte,reduceCtorEq,jB,jC,jD,jE,jF,jG];simp[pw,hz,nmB]
  | false=>
   simp -dsimp only[aw,jV,jW,jX,jY,jZ,jA,reduceIte,reduceCtorEq,jB,jC,jD,jE,jF,jG];simp[pw,hz]
 generalize sX s=bB at *;generalize el s=pB at *;generalize pw s=rB at *;have hnm:decide (s.name=⟨#[]⟩)=nmB s:=rfl;by_cases o1:s.op=1
 .rw[if_pos o1]at hsh;simp -dsimp only[aw,jV,jW,jX,jY,jZ,jA,reduceIte,reduceCtorEq,jB,jC,jD,jE,jF,jG,o1,R6,decide_true,decide_false,hnm];repeat' (first|exact ao hb rfl rfl R9 ⟨by rw[hsh];first|(simp_all;done)|(simp_all;rfl)|(simp only[*,RS,RU,RW,RX];done)|(simp only[*,RS,RU,RW,RX];rfl),rfl⟩|(refine aD (fun h=>?_) (fun h=>?_)<;>simp -dsimp only[aw,jV,jW,jX,jY,jZ,jA,reduceIte,reduceCtorEq,jB,jC,jD,jE,jF,jG,hnm]))
 rw[if_neg o1]at hsh;by_cases o2:s.op=2
 .rw[if_pos o2]at hsh;simp -dsimp only[aw,jV,jW,jX,jY,jZ,jA,reduceIte,reduceCtorEq,jB,jC,jD,jE,jF,jG,o2,R6,decide_true,decide_false,hnm];repeat' (first|exact ao hb rfl rfl R9 ⟨by rw[hsh];first|(simp_all;done)|(simp_all;rfl)|(simp only[*,RS,RU,RW,RX];done)|(simp only[*,RS,RU,RW,RX];rfl),rfl⟩|(refine aD (fun h=>?_) (fun h=>?_)<;>simp -dsimp only[aw,jV,jW,jX,jY,jZ,jA,reduceIte,reduceCtorEq,jB,jC,jD,jE,jF,jG,hnm]))
 rw[if_neg o2]at hsh;by_cases o3:s.op=3
 .rw[if_pos o3]at hsh;simp -dsimp only[aw,jV,jW,jX,jY,jZ,jA,reduceIte,reduceCtorEq,jB,jC,jD,jE,jF,jG,o3,R6,decide_true,decide_false,hnm];repeat' (first|exact ao hb rfl rfl R9 ⟨by rw[hsh];first|(simp_all;done)|(simp_all;rfl)|(simp only[*,RS,RU,RW,RX];done)|(simp only[*,RS,RU,RW,RX];rfl),rfl⟩|(refine aD (fun h=>?_) (fun h=>?_)<;>simp -dsimp only[aw,jV,jW,jX,jY,jZ,jA,reduceIte,reduceCtorEq,jB,jC,jD,jE,jF,jG,hnm]))
 rw[if_neg o3]at hsh;by_cases o4:s.op=4
 .rw[if_pos (.inl o4)]at hsh;simp -dsimp only[aw,jV,jW,jX,jY,jZ,jA,reduceIte,reduceCtorEq,jB,jC,jD,jE,jF,jG,o4,R6,decide_true,decide_false,hnm];repeat' (first|exact ao hb rfl rfl R9 ⟨by rw[hsh];first|(simp_all;done)|(simp_all;rfl)|(simp only[*,RS,RU,RW,RX];done)|(simp only[*,RS,RU,RW,RX];rfl),rfl⟩|(refine aD (fun h=>?_) (fun h=>?_)<;>simp -dsimp only[aw,jV,jW,jX,jY,jZ,jA,reduceIte,reduceCtorEq,jB,jC,jD,jE,jF,jG,hnm]))
 by_cases o5:s.op=5
 .rw[if_pos (.inr o5)]at hsh;simp -dsimp only[aw,jV,jW,jX,jY,jZ,jA,reduceIte,reduceCtorEq,jB,jC,jD,jE,jF,jG,o5,R6,decide_true,decide_false,hnm];repeat' (first|exact ao hb rfl rfl R9 ⟨by rw[hsh];first|(simp_all;done)|(simp_all;rfl)|(simp only[*,RS,RU,RW,RX];done)|(simp only[*,RS,RU,RW,RX];rfl),rfl⟩|(refine aD (fun h=>?_) (fun h=>?_)<;>simp -dsimp only[aw,jV,jW,jX,jY,jZ,jA,reduceIte,reduceCtorEq,jB,jC,jD,jE,jF,jG,hnm]))
 rw[if_neg (by omega)]at hsh;by_cases o6:s.op=6
 .rw[if_pos o6]at hsh;simp -dsimp only[aw,jV,jW,jX,jY,jZ,jA,reduceIte,reduceCtorEq,jB,jC,jD,jE,jF,jG,o6,R6,decide_true,decide_false,hnm];repeat' (first|exact ao hb rfl rfl R9 ⟨by rw[hsh];first|(simp_all;done)|(simp_all;rfl)|(simp only[*,RS,RU,RW,RX];done)|(simp only[*,RS,RU,RW,RX];rfl),rfl⟩|(refine aD (fun h=>?_) (fun h=>?_)<;>simp -dsimp only[aw,jV,jW,jX,jY,jZ,jA,reduceIte,reduceCtorEq,jB,jC,jD,jE,jF,jG,hnm]))
 rw[if_neg o6]at hsh;by_cases o7:s.op=7
 .rw[if_pos o7]at hsh;simp -dsimp only[aw,jV,jW,jX,jY,jZ,jA,reduceIte,reduceCtorEq,jB,jC,jD,jE,jF,jG,o7,R6,decide_true,decide_false,hnm];repeat' (first|exact ao hb rfl rfl R9 ⟨by rw[hsh];first|(simp_all;done)|(simp_all;rfl)|(simp only[*,RS,RU,RW,RX];done)|(simp only[*,RS,RU,RW,RX];rfl),rfl⟩|(refine aD (fun h=>?_) (fun h=>?_)<;>simp -dsimp only[aw,jV,jW,jX,jY,jZ,jA,reduceIte,reduceCtorEq,jB,jC,jD,jE,jF,jG,hnm]))
 rw[if_neg o7]at hsh;simp -dsimp only[aw,jV,jW,jX,jY,jZ,jA,reduceIte,reduceCtorEq,jB,jC,jD,jE,jF,jG,decide_eq_false o1,decide_eq_false o2,decide_eq_false o3,decide_eq_false o4,decide_eq_false o5,decide_eq_false o6,decide_eq_false o7];exact ao hb rfl rfl R9 ⟨by rw[hsh];rfl,rfl⟩
theorem GQ{C:Cx}{f:FuncId}{args:List V}{σ:LLV}{T k:Nat}{rows:LLD}(h:Fun C f args σ (az (.own T k rows) σ)):Fun C f args σ (az (.d (.sl rows)) σ):=
 ⟨h.1,fun M bm tk pr w vs hG hI ht hl hr=>(h.2 M bm tk pr w vs hG hI ht hl hr).mono fun e w' ⟨M',bm',tk',σ',o,⟨h1,h2⟩,h3,h4,h5⟩=>by
   subst h1;obtain⟨u,g1,g2⟩:=h5.1 _ rfl;refine⟨M',bm',tk',σ',.ret (.d (.sl rows)),⟨rfl,h2⟩,h3,h4,fun v e=>?_,fun v e=>by cases e⟩;cases e;have gr:=g2.rep;cases gr with
   | own hd=>exact⟨u,g1,.d hd,fun _ _ _ e=>by cases e⟩⟩
theorem wQ{s:Ts}(h1:tsz s≤100)(h2:tdp s≤8):0≤ii s 100 8:=by
 unfold ii;rw[if_pos ⟨by omega,by omega⟩];omega
theorem Ik{s:Ts}(h:8<tdp s\/100<tsz s):ii s 100 8 = -1:=by
 unfold ii;rw[if_neg (by omega)]
theorem nZ{s a:Ts}(h:a∈s.args):tsz a<tsz s:=by
 rw[pt s]
 have:∀l:List Ts,a∈l->tsz a≤(l.map tsz).sum:=by
  intro l
  induction l with
  | nil=>intro h;cases h
  | cons b r ih=>
   intro h;simp only[Sd,Sv];rcases List.mem_cons.1 h with e|e
   .subst e;omega
   .have:=ih e;omega
 have:=this s.args h;omega
theorem rJ{s a:Ts}(h:a∈s.args):tdp a<tdp s:=by
 have:=vZ h;rw[uM s];omega
theorem As{l:List Ts}{j:Nat}(h:j<l.length):js (l.take (j+1))=js (l.take j)++ic l[j]:=by
 rw[mZ,mZ,Sf,Sa h,Sk,List.flatten_append];show _++(ic l[j]++[])=_;rw[Su]
theorem qA(s:Ts):(ic s).length≤tsz s:=by
 rw[(tJ s).1];exact vz s
theorem Fa(s:Ts):∀(out:List ByteArray),bd s≤1000000->tsz s≤100->tdp s≤8->out.length+tsz s≤1000000->∀σ,mn G 78 [vts s] 9 1 (out.map fun s=>[ae s]) [] σ (az (oB (out++ic s)) σ):=by
 induction s using Ts.ind with
 | h s ih=>
 intro out hs h100 h8 hlen σ;have hln:=ey s;have hpl:=qA s;have hpe:=A4 s;have h0:¬ii s 100 8<0:=by have:=wQ h100 h8;omega
 refine ma Tryz.func78 k78 (by simp only[ak];rfl) fun hb hw=>?_;unfold c78;refine ep [(1,oB out),(2,.ptr σ.length 0)] (σ++[ig s]) ?_ ?_
 .simp -dsimp only[aw,jV,jW,jX,jY,jZ,jA,reduceIte,reduceCtorEq,jB,jC,jD,jE,jF,jG,ak]
 refine ep [(1,oB out),(2,.ptr σ.length 0),(8,an false)] (σ++[ig s]) ?_ ?_
 .simp -dsimp only[aw,jV,jW,jX,jY,jZ,jA,reduceIte,reduceCtorEq,jB,jC,jD,jE,jF,jG];refine ac (by simpa only[ak]using yc s 100 8 hs (by omega) (by omega) (by omega) (by omega) _) ?_;simp -dsimp only[aw,jV,jW,jX,jY,jZ,jA,reduceIte,reduceCtorEq,jB,jC,jD,jE,jF,jG,decide_eq_false h0]
 obtain⟨o1,ho1⟩:∃o1,o1=out++(if s.op=6 then[s.name]else[]):=⟨_,rfl⟩
 have hl1:o1.length≤out.length+1:=by rw[ho1];split<;>simp
 refine rA (fun ρ' σ'=>∃l:ah,(l=[]\/l=[(12,an false)])/\ρ'=(1,oB o1)::(2,.ptr σ.length 0)::l/\σ'=σ++[ig s]) ?_ ?_
 .by_cases o6:s.op=6
  .rw[if_pos o6]at ho1;simp -dsimp only[aw,jV,jW,jX,jY,jZ,jA,reduceIte,reduceCtorEq,jB,jC,jD,jE,jF,jG,decide_eq_true o6];refine bH (by first|omega|(simp only[List.length_map];omega)) ?_;simp -dsimp only[aw,jV,jW,jX,jY,jZ,jA,reduceIte,reduceCtorEq,jB,jC,jD,jE,jF,jG];first|exact⟨[],.inl rfl,by simp[ho1],rfl⟩|(simp[ho1];done)|(trace_state;fail)
  .rw[if_neg o6,Su]at ho1;simp -dsimp only[aw,jV,jW,jX,jY,jZ,jA,reduceIte,reduceCtorEq,jB,jC,jD,jE,jF,jG,decide_eq_false o6];rw[ho1];first|exact⟨_,.inr rfl,rfl,rfl⟩|(simp;done)|(trace_state;fail)
 rintro ρ1 σ1 ⟨l,rfl|rfl,rfl,rfl⟩
 all_goals
  simp -dsimp only[aw,jV,jW,jX,jY,jZ,jA,reduceIte,reduceCtorEq,jB,jC,jD,jE,jF,jG];refine aY [1,2,5] (R:=fun(j:Nat) ρ σ'=>ρ=[(1,oB (o1++js (s.args.take j))),(2,.ptr σ.length 0),(5,aI .i64 j)]/\σ'=σ++[ig s]) s.args.length ⟨by simp[js];rfl,rfl⟩ ?_ _;rintro j ρ' σ' hj ⟨rfl,rfl⟩;by_cases hlt:j<s.args.length
  .have ha:=Sj hlt;have ht:=As hlt;have h5:tsz s=1+szs s.args:=pt s
   have hpp:(js (s.args.take j)).length+tsz s.args[j]≤tsz s-1:=by
    have h1:∀l:List Ts,(js l).length≤szs l:=by
     intro l
     induction l with
     | nil=>exact Nat.zero_le _
     | cons a r ihr=>
      have:=qA a;simp only[js,Sb,szs,Sd,Sv]at *;omega
    have h2:=h1 (s.args.take j);have h3:=xC hlt;have h4:=Gh s.args (j+1);omega
   simp -dsimp only[aw,jV,jW,jX,jY,jZ,jA,reduceIte,reduceCtorEq,jB,jC,jD,jE,jF,jG,R7,hlt,decide_true,Sa hlt,bw s.args[j]];refine qD (by simpa only[ak]using ih s.args[j] ha (o1++js (s.args.take j)) (by have:=d5 ha;omega) (by have:=nZ ha;omega) (by have:=rJ ha;omega) (by rw[Sb];omega) _) ?_;simp -dsimp only[aw,jV,jW,jX,jY,jZ,jA,reduceIte,reduceCtorEq,jB,jC,jD,jE,jF,jG,bl hlt (show s.args.length≤9223372036854775807 by omega)];refine⟨hlt,Nxt.same (by simp) (av hb rfl) (by simp[am,V.under]) ⟨?_,rfl⟩⟩;rw[ht,<-Sm]
  .simp -dsimp only[aw,jV,jW,jX,jY,jZ,jA,reduceIte,reduceCtorEq,jB,jC,jD,jE,jF,jG,R7,hlt,decide_false];rw[Sl (show s.args.length≤j by omega)];have e:o1++js s.args=out++ic s:=by rw[hpe,ho1,Sm]
   exact ao (v:=oB (out++ic s)) hb (by rw[<-e];rfl) rfl R9 ⟨rfl,rfl⟩
theorem FT(s:Ts)(hs:bd s≤1000000)(h1:tsz s≤100)(h2:tdp s≤8)(σ:LLV):Fun G 78 [vts s,.nil] σ (az (.d (dA (ic s))) σ):=
 GQ (p4 (by simpa using Fa s [] hs h1 h2 (by simp;omega) σ))
theorem Il{l:List ByteArray}{p:ByteArray->Bool}{j:Nat}(h:j<l.length):(l.drop j).any p=(p l[j]||(l.drop (j+1)).any p):=by
 rw[Sc h];rfl
theorem EU(s:Ts)(n:ByteArray):inB n (ic s)=inB n (tnm s):=by
 have h:=(tJ s).2 n;unfold inB;rw[Bool.eq_iff_iff,So,So];constructor
 .rintro⟨x,hx,e⟩;have:=of_decide_eq_true e;subst this;exact⟨x,h.1 hx,by simp⟩
 .rintro⟨x,hx,e⟩;have:=of_decide_eq_true e;subst this;exact⟨x,h.2 hx,by simp⟩
theorem Do{s:Ts}(h:gu s=true)(o:s.op=6\/s.op=7):s.args.length=1:=by
 rw[rk,R5]at h;have h1:=h.1;unfold gj at h1;rw[if_neg (by omega),if_neg (by omega),if_neg (by omega),if_neg (by omega),if_pos o,R5]at h1;simpa using h1.1
theorem EG(s:Ts)(below:Bool):fQ s below=
 if gu s=false then 1
 else if s.op=6/\bt s.name=false then 7
 else if(s.op=1\/s.op=6\/s.op=7)/\aH s.ex≠0 then aH s.ex
 else if s.op=6/\below=true then 13
 else if s.op=7/\((cM [2] s.ex).any fun n=>inB n (ic s.arg0))=true then 13
 else 0:=by
 have hw:cK s.op=true↔(s.op=1\/s.op=6\/s.op=7):=by
  unfold cK;simp only[Bool.or_eq_true,decide_eq_true_eq]
 have hc:((!gj s||((!cK s.op && !ib s.ex)||(decide (s.op≠6)&&decide (s.name≠⟨#[]⟩))))=true)↔gu s=false:=by
  rw[rk];unfold nmB;cases gj s<;>cases cK s.op<;>cases ib s.ex<;>by_cases h6:s.op=6<;>by_cases hn:s.name=⟨#[]⟩<;>simp[h6,hn]
 have hi:((cM [2] s.ex).any fun n=>inB n (ic s.arg0))=((cM [2] s.ex).any fun n=>inB n (tnm s.arg0)):=by
  congr 1;funext n;exact EU s.arg0 n
 rw[hi];unfold fQ;simp only[hc,hw,R5,decide_eq_true_eq,Bool.not_eq_true']
theorem Dc(s:Ts):∀(below:Bool),bd s≤1000000->tsz s≤100->tdp s≤8->∀σ,Fun G 40 [vts s,.d (.lit (.bool below))] σ (az (.d (ab (ed s below))) σ):=by
 induction s using Ts.ind with
 | h s ih=>
 intro below hs h100 h8 σ;have hln:=ey s;have hsz:=gm s;have hq:=lM s below;have hn:=EG s below;have hv:∀σ,Fun G 76 [vex s.ex] σ (az (.d (ab (aH s.ex))) σ):=AL s.ex (by omega) (by have:=l8 s.ex;omega);refine ai Tryz.func40 k40 (by simp only[ak];rfl) fun hb hw=>?_;unfold c40
 have out:∀(n:Int) (l:LLV),ed s below=n->fin σ.length LI (az (.d (ab (ed s below))) σ) .ret [(4,.d (.lit (.int .i64 n)))] (σ++l):=fun n l h=>by
  rw[h];exact ao hb rfl rfl R9 ⟨rfl,rfl⟩
 have outE:∀(n:Int) (l:LLV),fQ s below=n->n≠0->fin σ.length LI (az (.d (ab (ed s below))) σ) .ret [(4,.d (.lit (.int .i64 n)))] (σ++l):=fun n l h h0=>out n l (by rw[hq,if_neg (by omega),h]);refine ep [(1,.d (.lit (.bool below))),(2,.ptr σ.length 0)] (σ++[ig s]) ?_ ?_
 .simp -dsimp only[aw,jV,jW,jX,jY,jZ,jA,reduceIte,reduceCtorEq,jB,jC,jD,jE,jF,jG,ak]
 refine hZ (fun ρ' σ'=>ρ'=[(1,.d (.lit (.bool below))),(2,.ptr σ.length 0),(13,an false)]/\σ'=σ++[ig s]/\gu s=true) ?_ ?_
 .simp -dsimp only[aw,jV,jW,jX,jY,jZ,jA,reduceIte,reduceCtorEq,jB,jC,jD,jE,jF,jG];refine ac (by simpa only[ak]using yY s (by omega) _) ?_;cases hsp:gu s with
  | false=>
   simp -dsimp only[aw,jV,jW,jX,jY,jZ,jA,reduceIte,reduceCtorEq,jB,jC,jD,jE,jF,jG];exact outE 1 _ (by rw[hn,if_pos hsp]) (by omega)
  | true=>
   simp -dsimp only[aw,jV,jW,jX,jY,jZ,jA,reduceIte,reduceCtorEq,jB,jC,jD,jE,jF,jG];exact Mid.mk ⟨rfl,rfl,rfl⟩
 rintro ρ1 σ1 ⟨rfl,rfl,hsp⟩;rw[if_neg (by rw[hsp];simp)]at hn;refine hZ (fun ρ' σ'=>ρ'=[(1,.d (.lit (.bool below))),(2,.ptr σ.length 0),(22,an false)]/\σ'=σ++[ig s]/\(s.op=6->bt s.name=true)) ?_ ?_
 .by_cases o6:s.op=6
  .simp -dsimp only[aw,jV,jW,jX,jY,jZ,jA,reduceIte,reduceCtorEq,jB,jC,jD,jE,jF,jG,decide_eq_true o6];refine ac (pZ s.name _) ?_;cases hnm:bt s.name with
   | false=>
    simp -dsimp only[aw,jV,jW,jX,jY,jZ,jA,reduceIte,reduceCtorEq,jB,jC,jD,jE,jF,jG];exact outE 7 _ (by rw[hn,if_pos ⟨o6,hnm⟩]) (by omega)
   | true=>
    simp -dsimp only[aw,jV,jW,jX,jY,jZ,jA,reduceIte,reduceCtorEq,jB,jC,jD,jE,jF,jG];exact Mid.mk ⟨rfl,rfl,fun _=>rfl⟩
  .simp -dsimp only[aw,jV,jW,jX,jY,jZ,jA,reduceIte,reduceCtorEq,jB,jC,jD,jE,jF,jG,decide_eq_false o6];exact Mid.mk ⟨rfl,rfl,fun h=>absurd h o6⟩
 rintro ρ1 σ1 ⟨rfl,rfl,hnm⟩;rw[if_neg (fun⟨h1,h2⟩=>by rw[hnm h1]at h2;cases h2)]at hn;refine hZ (fun ρ' σ'=>(ρ'=[(1,.d (.lit (.bool below))),(2,.ptr σ.length 0),(35,an false)]\/ρ'=[(1,.d (.lit (.bool below))),(2,.ptr σ.length 0),(5,.d (ab 0)),(40,an false)])/\σ'=σ++[ig s]/\((s.op=1\/s.op=6\/s.op=7)->aH s.ex=0)) ?_ ?_
 .have some7:(s.op=1\/s.op=6\/s.op=7)->fQ s below=(if aH s.ex≠0 then aH s.ex else fQ s below):=fun h=>by
   by_cases hz:aH s.ex=0
   .rw[if_neg (by simp[hz])]
   .rw[if_pos hz,hn,if_pos ⟨h,hz⟩]
  have fin7:(s.op=1\/s.op=6\/s.op=7)->aH s.ex≠0->fQ s below=aH s.ex:=fun h hz=>by rw[some7 h,if_pos hz]
  by_cases o1:s.op=1
  .simp -dsimp only[aw,jV,jW,jX,jY,jZ,jA,reduceIte,reduceCtorEq,jB,jC,jD,jE,jF,jG,decide_eq_true o1];refine ac (by simpa only[al]using hv _) ?_;by_cases hz:aH s.ex=0
   .simp -dsimp only[aw,jV,jW,jX,jY,jZ,jA,reduceIte,reduceCtorEq,jB,jC,jD,jE,jF,jG,hz,R6,decide_true,decide_false];exact Mid.mk ⟨.inr rfl,rfl,fun _=>hz⟩
   .simp -dsimp only[aw,jV,jW,jX,jY,jZ,jA,reduceIte,reduceCtorEq,jB,jC,jD,jE,jF,jG,decide_eq_false hz];exact outE _ _ (fin7 (.inl o1) hz) hz
  by_cases o6:s.op=6
  .simp -dsimp only[aw,jV,jW,jX,jY,jZ,jA,reduceIte,reduceCtorEq,jB,jC,jD,jE,jF,jG,decide_eq_false o1,decide_eq_true o6];refine ac (by simpa only[al]using hv _) ?_;by_cases hz:aH s.ex=0
   .simp -dsimp only[aw,jV,jW,jX,jY,jZ,jA,reduceIte,reduceCtorEq,jB,jC,jD,jE,jF,jG,hz,R6,decide_true,decide_false];exact Mid.mk ⟨.inr rfl,rfl,fun _=>hz⟩
   .simp -dsimp only[aw,jV,jW,jX,jY,jZ,jA,reduceIte,reduceCtorEq,jB,jC,jD,jE,jF,jG,decide_eq_false hz];exact outE _ _ (fin7 (.inr (.inl o6)) hz) hz
  by_cases o7:s.op=7
  .simp -dsimp only[aw,jV,jW,jX,jY,jZ,jA,reduceIte,reduceCtorEq,jB,jC,jD,jE,jF,jG,decide_eq_false o1,decide_eq_false o6,decide_eq_true o7];refine ac (by simpa only[al]using hv _) ?_;by_cases hz:aH s.ex=0
   .simp -dsimp only[aw,jV,jW,jX,jY,jZ,jA,reduceIte,reduceCtorEq,jB,jC,jD,jE,jF,jG,hz,R6,decide_true,decide_false];exact Mid.mk ⟨.inr rfl,rfl,fun _=>hz⟩
   .simp -dsimp only[aw,jV,jW,jX,jY,jZ,jA,reduceIte,reduceCtorEq,jB,jC,jD,jE,jF,jG,decide_eq_false hz];exact outE _ _ (fin7 (.inr (.inr o7)) hz) hz
  .simp -dsimp only[aw,jV,jW,jX,jY,jZ,jA,reduceIte,reduceCtorEq,jB,jC,jD,jE,jF,jG,decide_eq_false o1,decide_eq_false o6,decide_eq_false o7];exact Mid.mk ⟨.inl rfl,rfl,fun h=>by omega⟩
 rintro ρ1 σ1 ⟨hρ,rfl,hz⟩;rw[if_neg (fun⟨h1,h2⟩=>h2 (hz h1))]at hn;refine hZ (fun ρ' σ'=>ρ'=[(1,.d (.lit (.bool below))),(2,.ptr σ.length 0),(47,an false)]/\σ'=σ++[ig s]/\(s.op=6->below=false)) ?_ ?_
 .by_cases o6:s.op=6
  .cases below with
   | true=>
    rcases hρ with rfl|rfl
    all_goals
     simp -dsimp only[aw,jV,jW,jX,jY,jZ,jA,reduceIte,reduceCtorEq,jB,jC,jD,jE,jF,jG,decide_eq_true o6];exact outE 13 _ (by rw[hn,if_pos ⟨o6,rfl⟩]) (by omega)
   | false=>
    rcases hρ with rfl|rfl
    all_goals
     simp -dsimp only[aw,jV,jW,jX,jY,jZ,jA,reduceIte,reduceCtorEq,jB,jC,jD,jE,jF,jG,decide_eq_true o6];exact Mid.mk ⟨rfl,rfl,fun _=>rfl⟩
  .rcases hρ with rfl|rfl
   all_goals
    simp -dsimp only[aw,jV,jW,jX,jY,jZ,jA,reduceIte,reduceCtorEq,jB,jC,jD,jE,jF,jG,decide_eq_false o6];exact Mid.mk ⟨rfl,rfl,fun h=>absurd h o6⟩
 rintro ρ1 σ1 ⟨rfl,rfl,hbl⟩;rw[if_neg (fun⟨h1,h2⟩=>by rw[hbl h1]at h2;cases h2)]at hn;refine hZ (fun ρ' σ'=>(ρ'=[(1,.d (.lit (.bool below))),(2,.ptr σ.length 0),(50,an false)]\/∃x y z,ρ'=[(1,.d (.lit (.bool below))),(2,.ptr σ.length 0),(6,x),(7,y),(8,z),(62,an false)])/\σ'=σ++[ig s]/\fQ s below=0) ?_ ?_
 .by_cases o7:s.op=7
  .have hlen:=Do hsp (.inr o7);obtain⟨a,ha⟩:=List.length_eq_one_iff.1 hlen;have hmem:a∈s.args:=by rw[ha];simp
   have ha0:s.arg0=a:=by unfold Ts.arg0;rw[ha];rfl
   have hidx:iaV 9 (.d (.sl (s.args.map dts))) (V.d (D.lit (Value.int IntKind.i64 0)))=some (.row (dts a) 0):=by rw[ha];simp[iaV,fC,lJ]
   have hnl:(cM [2] s.ex).length≤1000000:=by have:=yB s.ex;omega
   have hpl:(ic a).length≤1000000:=by have:=qA a;have:=nZ hmem;omega
   have hsets:∀σ,Fun G 78 [vts a,.nil] σ (az (.d (dA (ic a))) σ):=fun σ=>FT a (by have:=d5 hmem;omega) (by have:=nZ hmem;omega) (by have:=rJ hmem;omega) σ;rw[ha0]at hn;simp -dsimp only[aw,jV,jW,jX,jY,jZ,jA,reduceIte,reduceCtorEq,jB,jC,jD,jE,jF,jG,decide_eq_true o7];refine aN (by simpa only[al]using Aq s.ex (by omega) (by have:=l8 s.ex;omega) _) ?_;simp -dsimp only[aw,jV,jW,jX,jY,jZ,jA,reduceIte,reduceCtorEq,jB,jC,jD,jE,jF,jG,hidx,bw a];refine aN (by simpa only[ak]using hsets _) ?_;simp -dsimp only[aw,jV,jW,jX,jY,jZ,jA,reduceIte,reduceCtorEq,jB,jC,jD,jE,jF,jG,dA];generalize cM [2] s.ex=N at *
   refine aY [1,2,6,7,8] (R:=fun(j:Nat) ρ σ'=>ρ=[(1,.d (.lit (.bool below))),(2,.ptr σ.length 0),(6,.d (.sl (N.map fun s=>[ae s]))),(7,.d (.sl ((ic a).map fun s=>[ae s]))),(8,aI .i64 j)]/\σ'=σ++[ig s]/\(N.any fun n=>inB n (ic a))=(N.drop j).any fun n=>inB n (ic a)) N.length ⟨rfl,rfl,by simp⟩ ?_ _;rintro j ρ' σ' hj ⟨rfl,rfl,hr⟩;by_cases hlt:j<N.length
   .rw[Il hlt]at hr;simp -dsimp only[aw,jV,jW,jX,jY,jZ,jA,reduceIte,reduceCtorEq,jB,jC,jD,jE,jF,jG,R7,hlt,decide_true,Sa hlt];refine ac (Gv (ic a) N[j] hpl _) ?_;cases hx:inB N[j] (ic a)with
    | true=>
     rw[hx,R0]at hr;simp -dsimp only[aw,jV,jW,jX,jY,jZ,jA,reduceIte,reduceCtorEq,jB,jC,jD,jE,jF,jG];exact outE 13 _ (by rw[hn,if_pos ⟨o7,hr⟩]) (by omega)
    | false=>
     rw[hx,RZ]at hr;simp -dsimp only[aw,jV,jW,jX,jY,jZ,jA,reduceIte,reduceCtorEq,jB,jC,jD,jE,jF,jG,bl hlt (show N.length≤9223372036854775807 by omega)];exact⟨hlt,Nxt.same (by simp) (av hb rfl) (by simp[am,V.under]) ⟨rfl,rfl,hr⟩⟩
   .simp -dsimp only[aw,jV,jW,jX,jY,jZ,jA,reduceIte,reduceCtorEq,jB,jC,jD,jE,jF,jG,R7,hlt,decide_false];rw[Se (by omega)]at hr;exact Mid.mk ⟨.inr ⟨_,_,_,rfl⟩,rfl,by rw[hn,hr];simp⟩
  .simp -dsimp only[aw,jV,jW,jX,jY,jZ,jA,reduceIte,reduceCtorEq,jB,jC,jD,jE,jF,jG,decide_eq_false o7];exact Mid.mk ⟨.inl rfl,rfl,by rw[hn,if_neg (fun h=>o7 h.1)]⟩
 rintro ρ1 σ1 ⟨hρ,rfl,h0⟩;rw[if_pos h0]at hq;rcases hρ with rfl|⟨x,y,z,rfl⟩
 all_goals
  simp -dsimp only[aw,jV,jW,jX,jY,jZ,jA,reduceIte,reduceCtorEq,jB,jC,jD,jE,jF,jG];refine aY [1,2,9] (R:=fun(j:Nat) ρ σ'=>ρ=[(1,.d (.lit (.bool below))),(2,.ptr σ.length 0),(9,aI .i64 j)]/\σ'=σ++[ig s]/\ed s below=iG (s.args.drop j) (below||decide (s.op=5))) s.args.length ⟨rfl,rfl,by rw[List.drop_zero];exact hq⟩ ?_ _;rintro j ρ' σ' hj ⟨rfl,rfl,hrec⟩;by_cases hlt:j<s.args.length
  .rw[Sc hlt]at hrec;simp only[iG]at hrec;have hmem:=Sj hlt;have ihj:=ih s.args[j] hmem (below||decide (s.op=5)) (by have:=d5 hmem;omega) (by have:=nZ hmem;omega) (by have:=rJ hmem;omega);cases below with
   | true=>
    rw[R0]at hrec ihj;simp -dsimp only[aw,jV,jW,jX,jY,jZ,jA,reduceIte,reduceCtorEq,jB,jC,jD,jE,jF,jG,R7,hlt,decide_true,Sa hlt,bw s.args[j]];refine aN (by simpa only[ak]using ihj _) ?_;by_cases h1:ed s.args[j] true=0
    .rw[if_pos h1]at hrec;simp -dsimp only[aw,jV,jW,jX,jY,jZ,jA,reduceIte,reduceCtorEq,jB,jC,jD,jE,jF,jG,h1,R6,decide_true,decide_false,bl hlt (show s.args.length≤9223372036854775807 by omega)];exact⟨hlt,Nxt.same (by simp) (av hb rfl) (by simp[am,V.under]) ⟨rfl,rfl,by rw[R0];exact hrec⟩⟩
    .rw[if_neg h1]at hrec;simp -dsimp only[aw,jV,jW,jX,jY,jZ,jA,reduceIte,reduceCtorEq,jB,jC,jD,jE,jF,jG,decide_eq_false h1];exact out _ _ hrec
   | false=>
    rw[RZ]at hrec ihj;simp -dsimp only[aw,jV,jW,jX,jY,jZ,jA,reduceIte,reduceCtorEq,jB,jC,jD,jE,jF,jG,R7,hlt,decide_true,Sa hlt,bw s.args[j]];refine aN (by simpa only[ak]using ihj _) ?_;by_cases h1:ed s.args[j] (decide (s.op=5))=0
    .rw[if_pos h1]at hrec;simp -dsimp only[aw,jV,jW,jX,jY,jZ,jA,reduceIte,reduceCtorEq,jB,jC,jD,jE,jF,jG,h1,R6,decide_true,decide_false,bl hlt (show s.args.length≤9223372036854775807 by omega)];exact⟨hlt,Nxt.same (by simp) (av hb rfl) (by simp[am,V.under]) ⟨rfl,rfl,by rw[RZ];exact hrec⟩⟩
    .rw[if_neg h1]at hrec;simp -dsimp only[aw,jV,jW,jX,jY,jZ,jA,reduceIte,reduceCtorEq,jB,jC,jD,jE,jF,jG,decide_eq_false h1];exact out _ _ hrec
  .simp -dsimp only[aw,jV,jW,jX,jY,jZ,jA,reduceIte,reduceCtorEq,jB,jC,jD,jE,jF,jG,R7,hlt,decide_false];rw[Se (by omega)]at hrec;exact out 0 _ (by rw[hrec];rfl)
theorem iI(s:Ts)(hs:bd s≤1000000)(σ:LLV):Fun G 19 [vts s] σ (az (.d (ab (cy s))) σ):=by
 refine ai Tryz.func19 k19 (by simp only[ak];rfl) fun hb hw=>?_;unfold c19
 have out:∀(n:Int) (l:LLV),cy s=n->fin σ.length Ng (az (.d (ab (cy s))) σ) .ret [(2,.d (.lit (.int .i64 n)))] (σ++l):=fun n l h=>by
  rw[h];exact ao hb rfl rfl R9 ⟨rfl,rfl⟩
 simp -dsimp only[aw,jV,jW,jX,jY,jZ,jA,reduceIte,reduceCtorEq,jB,jC,jD,jE,jF,jG,ak];refine ac (by simpa only[ak]using yc s 100 8 hs (by omega) (by omega) (by omega) (by omega) _) ?_;by_cases h1:8<tdp s\/100<tsz s
 .rw[Ik h1];simp -dsimp only[aw,jV,jW,jX,jY,jZ,jA,reduceIte,reduceCtorEq,jB,jC,jD,jE,jF,jG,R8,decide_true];exact out 2 _ (by unfold cy;rw[if_pos h1])
 .have h2:=wQ (s:=s) (by omega) (by omega);have h3:¬ii s 100 8<0:=by omega
  simp -dsimp only[aw,jV,jW,jX,jY,jZ,jA,reduceIte,reduceCtorEq,jB,jC,jD,jE,jF,jG,decide_eq_false h3];refine ac (by simpa only[ak]using Dc s false hs (by omega) (by omega) _) ?_;simp -dsimp only[aw,jV,jW,jX,jY,jZ,jA,reduceIte,reduceCtorEq,jB,jC,jD,jE,jF,jG];exact out _ _ (by unfold cy;rw[if_neg h1])
end Go.Proofs.YthekkgfmagliiaaGreatDoor
