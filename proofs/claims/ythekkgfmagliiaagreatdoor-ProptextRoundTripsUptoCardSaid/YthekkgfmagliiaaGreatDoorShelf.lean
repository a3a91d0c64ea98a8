import Derived.ChangeArms
import Derived.Shelf.Strings.OnBuilder
import Derived.Shelf.LaysM
import Derived.Shelf.Strconv.Itoa3
import Derived.Shelf.LaysC
import Derived.Shelf.Strconv.ParseIntPublic10
import Derived.Shelf.Strings.Count
import Derived.Shelf.Small.Strs
import Derived.Shelf.Small.Utf8
import Derived.Shelf.Strings.Prefix
import Derived.Shelf.Strings.Runes
import Derived.Test.YthekkgfmagliiaaGreatDoorTShape
import Derived.Test.YthekkgfmagliiaaGreatDoorChecked
set_option linter.unusedVariables false
set_option linter.unusedSimpArgs false
set_option linter.unusedSectionVars false
open Bool renaming false_or->RS,true_or->RU
open Int renaming reduceEq->RW,ofNat_lt->RX
open List renaming getElem?_eq_getElem->RY,getElem_mem->RZ,take_left->R0,getElem_append_right->R5,drop_eq_getElem_cons->R6,getElem_append_left->R7,drop_eq_nil_of_le->R8,take_length->R9
namespace Go.Proofs.YthekkgfmagliiaaGreatDoor
open Go.RowKit
open Nat renaming reduceLeDiff -> jA, reduceBEq -> jB, reduceLT -> jC, reduceEqDiff -> jD, reduceAdd -> jE, reduceSub -> jF, reduceMul -> jG
open V renaming copy -> jV, lend -> jW, lend1 -> jX, cells -> jY, boxable -> jZ
theorem Aa(l:List ByteArray)(s:ByteArray)(hl:l.length≤1000000)(σ:LLV):Fun G 121 [.d (dA l),.d (ae s)] σ (az (.d (.lit (.bool (inB s l)))) σ):=
 FC Tryz.func121 (by kernel_rfl) (by kernel_rfl) trivial fun M bm w v v' hG hM h1 h2=>by
  cases h2 with
  | d h2=>cases h2 with
   | lit _ h=>exact(iM l s v w (kz hM h1)).mono fun e w' ⟨h3,h4⟩=>by subst h4;exact⟨h3,Ext.refl _⟩
theorem An(l:List ByteArray)(p:ByteArray->Bool)(f:FuncId)(cap:List V)(hl:l.length≤1000000)(σ:LLV)(hc:V.unders σ.length cap=true)(hf:∀s,s∈l->Fun G f (.d (ae s)::cap) σ (az (an (p s)) σ)):
 Fun G 174 [.d (.sl (l.map fun s=>[ae s])),.fn f cap] σ fun o σ'=>∃i:Int,o=.ret (.d (ab i))/\σ'=σ/\decide (0≤i)=l.any p:=by
 refine ai Tryz.func174 QG rfl fun hb hw=>?_;unfold MO;simp -dsimp only[aw,jV,jW,jX,jY,jZ,jA,reduceIte,reduceCtorEq,jB,jC,jD,jE,jF,jG];refine aY [0,1,7,8] (R:=fun(j:Nat) ρ σ'=>ρ=[(0,.d (.sl (l.map fun s=>[ae s]))),(1,.fn f cap),(7,aI .i64 l.length),(8,aI .i64 j)]/\σ'=σ/\l.any p=(l.drop j).any p) l.length ⟨rfl,rfl,by simp⟩ ?_ _;rintro j ρ' σ' hj ⟨rfl,rfl,hr⟩;by_cases hlt:j<l.length
 .have hd:(l.drop j).any p=(p l[j]||(l.drop (j+1)).any p):=by rw[R6 hlt];rfl
  simp -dsimp only[aw,jV,jW,jX,jY,jZ,jA,reduceIte,reduceCtorEq,jB,jC,jD,jE,jF,jG,RX,hlt,decide_true,RY hlt];refine ac (hf l[j] (RZ hlt)) ?_;rw[hd]at hr;cases hp:p l[j]with
  | true=>
   rw[hp]at hr;simp -dsimp only[aw,jV,jW,jX,jY,jZ,jA,reduceIte,reduceCtorEq,jB,jC,jD,jE,jF,jG];exact ao hb rfl rfl R9 ⟨j,rfl,rfl,by rw[hr,decide_eq_true (by omega)];rfl⟩
  | false=>
   rw[hp,RS]at hr;simp -dsimp only[aw,jV,jW,jX,jY,jZ,jA,reduceIte,reduceCtorEq,jB,jC,jD,jE,jF,jG,bl hlt (show l.length≤9223372036854775807 by omega)];exact⟨hlt,Nxt.same (Nat.le_refl _) hb (by simp[am,V.under,V.unders,hc]) ⟨rfl,rfl,hr⟩⟩
 .simp -dsimp only[aw,jV,jW,jX,jY,jZ,jA,reduceIte,reduceCtorEq,jB,jC,jD,jE,jF,jG,RX,hlt,decide_false];rw[R8 (by omega)]at hr;exact ao hb rfl rfl R9 ⟨-1,rfl,rfl,by rw[hr];rfl⟩
theorem KQ(K P:V->LLV->Prop)(v:V)(σ:LLV):Dd K P (.ret v) σ=K v σ:=rfl
theorem sV(l:List ByteArray)(p:ByteArray->Bool)(f:FuncId)(cap:List V)(hl:l.length≤1000000)(σ:LLV)(hc:V.unders σ.length cap=true)(hf:∀s,s∈l->Fun G f (.d (ae s)::cap) σ (az (an (p s)) σ)):
 Fun G 143 [.d (.sl (l.map fun s=>[ae s])),.fn f cap] σ (az (an (l.any p)) σ):=by
 refine ai Tryz.func143 Qp rfl fun hb hw=>?_;unfold c143;simp -dsimp only[aw,jV,jW,jX,jY,jZ,jA,reduceIte,reduceCtorEq,jB,jC,jD,jE,jF,jG];refine aW (An l p f cap hl _ hc hf) fun o σ' ⟨i,h1,h2,h3⟩=>?_;subst h1;subst h2;simp -dsimp only[aw,jV,jW,jX,jY,jZ,jA,reduceIte,reduceCtorEq,jB,jC,jD,jE,jF,jG,KQ,h3];first|exact aA hb rfl rfl|exact aB hb rfl rfl
theorem CT(l:List ByteArray)(hl:l.length≤1000000)(s:ByteArray)(σ:LLV)(i:Nat)(hi:σ[i]? = some [.d (dA l)]):Fun G 145 [.d (ae s),.ptr i 0] σ (az (an (inB s l)) σ):=by
 refine ai Tryz.func145 Q4 rfl fun hb hw=>?_;unfold c145;simp -dsimp only[aw,jV,jW,jX,jY,jZ,jA,reduceIte,reduceCtorEq,jB,jC,jD,jE,jF,jG,hi];refine ac (Aa l s hl _) ?_;simp -dsimp only[aw,jV,jW,jX,jY,jZ,jA,reduceIte,reduceCtorEq,jB,jC,jD,jE,jF,jG];first|exact aA hb rfl rfl|exact aB hb rfl rfl
def Ts.arg0(s:Ts):Ts:=(s.args.head?).getD s
def fQ(s:Ts)(below:Bool):Int:=
 if(!gj s||((!cK s.op && !ib s.ex)||(decide (s.op≠6)&&decide (s.name≠⟨#[]⟩))))=true then 1
 else if(decide (s.op=6) && !bt s.name)=true then 7
 else if cK s.op=true/\aH s.ex≠0 then aH s.ex
 else if(decide (s.op=6)&&below)=true then 13
 else if s.op=7/\((cM [2] s.ex).any fun n=>inB n (tnm s.arg0))=true then 13
 else 0
theorem wD(ops:List Int)(l:List ByteArray)(o:Int)(s:ByteArray):(dI ops l o s).length≤l.length+1:=by
 unfold dI;split<;>simp
theorem D8(ops:List Int)(e:Ex):∀x:List ByteArray,(d7 (ck ops) e x).1.length≤x.length+aT e:=by
 induction e using Ex.ind with
 | h o n s l ih=>
  intro x
  have H:∀(r:List Ex),(∀a,a∈r->a∈l)->∀x:List ByteArray,(ez (ck ops) r x).1.length≤x.length+ba r:=by
   intro r
   induction r with
   | nil=>intro _ x;simp[ez,ba]
   | cons a r ihr=>
    intro hr x;rw[ez,if_pos (mE _ a x)];have h1:=ih a (hr a (by simp)) x;have h2:=ihr (fun y hy=>hr y (by simp[hy])) (d7 (ck ops) a x).1;simp only[ba];omega
  rw[d7,if_pos (show(ck ops x (Ex.mk o n s l)).2=true from rfl)];have h1:=H l (fun _ h=>h) (ck ops x (Ex.mk o n s l)).1;have h2:(ck ops x (Ex.mk o n s l)).1.length≤x.length+1:=wD ..;simp only[aT];omega
theorem yB(e:Ex):(cM [2] e).length≤aT e:=by
 have:=D8 [2] e [];simpa[cM]using this
theorem Dn(s:Ts)(below:Bool)(hs:bd s≤1000000)(σ:LLV):Fun G 106 [vts s,.d (.lit (.bool below))] σ (az (.d (ab (fQ s below))) σ):=by
 have hsz:=gm s;have hln:=ey s;have hq:fQ s below=fQ s below:=rfl
 conv at hq=>rhs;unfold fQ
 refine ai Tryz.func106 Q0 (by simp only[ak];rfl) fun hb hw=>?_;unfold Nc;simp -dsimp only[aw,jV,jW,jX,jY,jZ,jA,reduceIte,reduceCtorEq,jB,jC,jD,jE,jF,jG,ak];refine ac (by simpa only[ak]using Co s (by omega) _) ?_
 have out:∀(n:Int) (l:LLV),fQ s below=n->fin σ.length Ks (az (.d (ab (fQ s below))) σ) .ret [(4,.d (.lit (.int .i64 n)))] (σ++l):=fun n l h=>by
  rw[h];exact ao hb rfl rfl R0 ⟨rfl,rfl⟩
 cases h1:gj s with
 | false=>
  simp -dsimp only[aw,jV,jW,jX,jY,jZ,jA,reduceIte,reduceCtorEq,jB,jC,jD,jE,jF,jG];exact out 1 _ (by rw[hq,h1];rfl)
 | true=>
 have hv:∀σ,Fun G 91 [vex s.ex] σ (az (.d (ab (aH s.ex))) σ):=pp s.ex (by omega) (by have:=l8 s.ex;omega);by_cases o6:s.op=6
 .have w6:cK s.op=true:=by rw[o6];rfl
  rw[h1,w6,if_neg (by simp[o6]),decide_eq_true o6]at hq;simp -dsimp only[aw,jV,jW,jX,jY,jZ,jA,reduceIte,reduceCtorEq,jB,jC,jD,jE,jF,jG,o6,RW,decide_true,decide_false];refine ac (dJ 6 _) ?_;have w6':cK 6=true:=rfl;simp -dsimp only[aw,jV,jW,jX,jY,jZ,jA,reduceIte,reduceCtorEq,jB,jC,jD,jE,jF,jG,w6',RW,decide_true,decide_false];refine ac (pP s.name _) ?_;cases h2:bt s.name with
  | false=>
   rw[h2,if_pos (show(true && !false)=true from rfl)]at hq;simp -dsimp only[aw,jV,jW,jX,jY,jZ,jA,reduceIte,reduceCtorEq,jB,jC,jD,jE,jF,jG];exact out 7 _ hq
  | true=>
   rw[h2,if_neg (by simp)]at hq;simp -dsimp only[aw,jV,jW,jX,jY,jZ,jA,reduceIte,reduceCtorEq,jB,jC,jD,jE,jF,jG];refine ac (dJ 6 _) ?_;simp -dsimp only[aw,jV,jW,jX,jY,jZ,jA,reduceIte,reduceCtorEq,jB,jC,jD,jE,jF,jG,w6'];refine ac (by simpa only[al]using hv _) ?_;by_cases h3:aH s.ex=0
   .rw[if_neg (by simp[h3])]at hq;simp -dsimp only[aw,jV,jW,jX,jY,jZ,jA,reduceIte,reduceCtorEq,jB,jC,jD,jE,jF,jG,h3,RW,decide_true,decide_false];cases below with
    | true=>
     simp -dsimp only[aw,jV,jW,jX,jY,jZ,jA,reduceIte,reduceCtorEq,jB,jC,jD,jE,jF,jG];exact out 13 _ hq
    | false=>
     simp -dsimp only[aw,jV,jW,jX,jY,jZ,jA,reduceIte,reduceCtorEq,jB,jC,jD,jE,jF,jG,RW,decide_false];exact out 0 _ (by rw[hq,if_neg (by simp),if_neg (by simp[o6])])
   .rw[if_pos ⟨rfl,h3⟩]at hq;simp -dsimp only[aw,jV,jW,jX,jY,jZ,jA,reduceIte,reduceCtorEq,jB,jC,jD,jE,jF,jG,decide_eq_false h3];exact out _ _ hq
 .have q6:=decide_eq_false o6;have n6:decide (s.op≠6)=true:=decide_eq_true o6;by_cases hn:s.name=⟨#[]⟩
  .have nn:decide (s.name≠⟨#[]⟩)=false:=decide_eq_false (fun h=>h hn);have kn:decide (s.name=⟨#[]⟩)=true:=decide_eq_true hn;rw[h1,n6,nn,q6]at hq;by_cases o7:s.op=7
   .have w7:cK s.op=true:=by rw[o7];rfl
    have q7:=decide_eq_true o7
    have hlen:s.args.length=1:=by
     unfold gj at h1;rw[if_neg (by omega),if_neg (by omega),if_neg (by omega),if_neg (by omega),if_pos (.inr o7),Bool.and_eq_true]at h1;simpa using h1.1
    obtain⟨a,ha⟩:=List.length_eq_one_iff.1 hlen;have hba:bd a≤1000000:=by have:=d5 (s:=s) (a:=a) (by rw[ha];simp);omega
    have ha0:s.arg0=a:=by unfold Ts.arg0;rw[ha];rfl
    rw[w7,if_neg (by simp),if_neg (by simp)]at hq;simp -dsimp only[aw,jV,jW,jX,jY,jZ,jA,reduceIte,reduceCtorEq,jB,jC,jD,jE,jF,jG,q6,n6];refine ac (dJ s.op _) ?_;simp -dsimp only[aw,jV,jW,jX,jY,jZ,jA,reduceIte,reduceCtorEq,jB,jC,jD,jE,jF,jG,w7,q6,kn];refine ac (dJ s.op _) ?_;simp -dsimp only[aw,jV,jW,jX,jY,jZ,jA,reduceIte,reduceCtorEq,jB,jC,jD,jE,jF,jG,w7];refine ac (by simpa only[al]using hv _) ?_;by_cases h3:aH s.ex=0
    .have hnm:(cM [2] s.ex).length≤1000000:=by have:=yB s.ex;omega
     have hidx:iaV 9 (.d (.sl (s.args.map dts))) (V.d (D.lit (Value.int IntKind.i64 0)))=some (.row (dts a) 0):=by rw[ha];simp[iaV,fC,lJ]
     have htn:(tnm a).length≤1000000:=by have:=vz a;have:=z6 a;omega
     rw[if_neg (by simp[h3]),if_neg (by simp)]at hq;simp -dsimp only[aw,jV,jW,jX,jY,jZ,jA,reduceIte,reduceCtorEq,jB,jC,jD,jE,jF,jG,h3,RW,decide_true,decide_false,q6,q7,hidx,bw a];refine ac (by simpa only[ak]using Jg a hba _) ?_;simp -dsimp only[aw,jV,jW,jX,jY,jZ,jA,reduceIte,reduceCtorEq,jB,jC,jD,jE,jF,jG];refine ac (by simpa only[al]using DT s.ex (by omega) _) ?_;simp -dsimp only[aw,jV,jW,jX,jY,jZ,jA,reduceIte,reduceCtorEq,jB,jC,jD,jE,jF,jG,dA];refine ac (sV (cM [2] s.ex) (fun n=>inB n (tnm a)) 145 _ hnm _ (by simp[V.unders,V.under]) (fun n hn'=>CT (tnm a) htn n _ _ (by simp[dA]))) ?_;rw[ha0]at hq;cases h4:((cM [2] s.ex).any fun n=>inB n (tnm a))with
     | true=>
      simp -dsimp only[aw,jV,jW,jX,jY,jZ,jA,reduceIte,reduceCtorEq,jB,jC,jD,jE,jF,jG];exact out 13 _ (by rw[hq,if_pos ⟨o7,h4⟩])
     | false=>
      simp -dsimp only[aw,jV,jW,jX,jY,jZ,jA,reduceIte,reduceCtorEq,jB,jC,jD,jE,jF,jG];exact out 0 _ (by rw[hq,if_neg (by simp only[h4];simp)])
    .rw[if_pos ⟨rfl,h3⟩]at hq;simp -dsimp only[aw,jV,jW,jX,jY,jZ,jA,reduceIte,reduceCtorEq,jB,jC,jD,jE,jF,jG,decide_eq_false h3];exact out _ _ hq
   .have q7:=decide_eq_false o7;cases hw1:cK s.op with
    | true=>
     rw[hw1,if_neg (by simp),if_neg (by simp)]at hq;simp -dsimp only[aw,jV,jW,jX,jY,jZ,jA,reduceIte,reduceCtorEq,jB,jC,jD,jE,jF,jG,q6,n6];refine ac (dJ s.op _) ?_;simp -dsimp only[aw,jV,jW,jX,jY,jZ,jA,reduceIte,reduceCtorEq,jB,jC,jD,jE,jF,jG,hw1,q6,kn];refine ac (dJ s.op _) ?_;simp -dsimp only[aw,jV,jW,jX,jY,jZ,jA,reduceIte,reduceCtorEq,jB,jC,jD,jE,jF,jG,hw1];refine ac (by simpa only[al]using hv _) ?_;by_cases h3:aH s.ex=0
     .rw[if_neg (by simp[h3]),if_neg (by simp),if_neg (by simp[o7])]at hq;simp -dsimp only[aw,jV,jW,jX,jY,jZ,jA,reduceIte,reduceCtorEq,jB,jC,jD,jE,jF,jG,h3,RW,decide_true,decide_false,q6,q7];exact out 0 _ hq
     .rw[if_pos ⟨rfl,h3⟩]at hq;simp -dsimp only[aw,jV,jW,jX,jY,jZ,jA,reduceIte,reduceCtorEq,jB,jC,jD,jE,jF,jG,decide_eq_false h3];exact out _ _ hq
    | false=>
     simp -dsimp only[aw,jV,jW,jX,jY,jZ,jA,reduceIte,reduceCtorEq,jB,jC,jD,jE,jF,jG,q6,n6];refine ac (dJ s.op _) ?_;simp -dsimp only[aw,jV,jW,jX,jY,jZ,jA,reduceIte,reduceCtorEq,jB,jC,jD,jE,jF,jG,hw1,q6,kn];refine ac (by simpa only[al]using wb s.ex _) ?_;cases hz:ib s.ex with
     | false=>
      rw[hw1,hz,if_pos (by rfl)]at hq;simp -dsimp only[aw,jV,jW,jX,jY,jZ,jA,reduceIte,reduceCtorEq,jB,jC,jD,jE,jF,jG];exact out 1 _ hq
     | true=>
      rw[hw1,hz,if_neg (by simp),if_neg (by simp),if_neg (by simp),if_neg (by simp),if_neg (by simp[o7])]at hq;simp -dsimp only[aw,jV,jW,jX,jY,jZ,jA,reduceIte,reduceCtorEq,jB,jC,jD,jE,jF,jG,q6,kn];refine ac (dJ s.op _) ?_;simp -dsimp only[aw,jV,jW,jX,jY,jZ,jA,reduceIte,reduceCtorEq,jB,jC,jD,jE,jF,jG,hw1,q6,q7];exact out 0 _ hq
  .have kn:decide (s.name=⟨#[]⟩)=false:=decide_eq_false hn;have nn:decide (s.name≠⟨#[]⟩)=true:=decide_eq_true hn;rw[h1,n6,nn,if_pos (by simp)]at hq;simp -dsimp only[aw,jV,jW,jX,jY,jZ,jA,reduceIte,reduceCtorEq,jB,jC,jD,jE,jF,jG,q6,n6];refine ac (dJ s.op _) ?_;cases hw1:cK s.op with
   | true=>
    simp -dsimp only[aw,jV,jW,jX,jY,jZ,jA,reduceIte,reduceCtorEq,jB,jC,jD,jE,jF,jG,q6,kn];exact out 1 _ hq
   | false=>
    simp -dsimp only[aw,jV,jW,jX,jY,jZ,jA,reduceIte,reduceCtorEq,jB,jC,jD,jE,jF,jG];refine ac (by simpa only[al]using wb s.ex _) ?_;cases hz:ib s.ex with
    | false=>
     simp -dsimp only[aw,jV,jW,jX,jY,jZ,jA,reduceIte,reduceCtorEq,jB,jC,jD,jE,jF,jG];exact out 1 _ hq
    | true=>
     simp -dsimp only[aw,jV,jW,jX,jY,jZ,jA,reduceIte,reduceCtorEq,jB,jC,jD,jE,jF,jG,q6,kn];exact out 1 _ hq
mutual
def ed:Ts->Bool->Int
 | .mk o a b e s l,below=>if fQ (.mk o a b e s l) below=0 then iG l (below||decide (o=5))else fQ (.mk o a b e s l) below
def iG:List Ts->Bool->Int
 | [],_=>0
 | a::r,b=>if ed a b=0 then iG r b else ed a b
end
theorem lM(s:Ts)(below:Bool):ed s below=if fQ s below=0 then iG s.args (below||decide (s.op=5))else fQ s below:=by cases s;rfl
theorem Cb(s:Ts):∀(below:Bool),bd s≤1000000->∀σ,Fun G 68 [vts s,.d (.lit (.bool below))] σ (az (.d (ab (ed s below))) σ):=by
 induction s using Ts.ind with
 | h s ih=>
 intro below hs σ;have hln:=ey s;have hq:=lM s below;refine ai Tryz.func68 k68 (by simp only[ak];rfl) fun hb hw=>?_;unfold c68
 have out:∀(n:Int) (l:LLV),ed s below=n->fin σ.length Ox (az (.d (ab (ed s below))) σ) .ret [(4,.d (.lit (.int .i64 n)))] (σ++l):=fun n l h=>by
  rw[h];exact ao hb rfl rfl R0 ⟨rfl,rfl⟩
 simp -dsimp only[aw,jV,jW,jX,jY,jZ,jA,reduceIte,reduceCtorEq,jB,jC,jD,jE,jF,jG,ak];refine ac (by simpa only[ak]using Dn s below hs _) ?_;by_cases h0:fQ s below=0
 .rw[if_pos h0]at hq;simp -dsimp only[aw,jV,jW,jX,jY,jZ,jA,reduceIte,reduceCtorEq,jB,jC,jD,jE,jF,jG,h0,RW,decide_true,decide_false];refine aY [1,2,16,17,18] (R:=fun(j:Nat) ρ σ'=>ρ=[(1,.d (.lit (.bool below))),(2,.ptr σ.length 0),(16,.d (.sl (s.args.map dts))),(17,aI .i64 s.args.length),(18,aI .i64 j)]/\σ'=σ++[ig s]/\ed s below=iG (s.args.drop j) (below||decide (s.op=5))) s.args.length ⟨rfl,rfl,by rw[List.drop_zero];exact hq⟩ ?_ _;rintro j ρ' σ' hj ⟨rfl,rfl,hrec⟩;by_cases hlt:j<s.args.length
  .rw[R6 hlt]at hrec;simp only[iG]at hrec;have ihj:=ih s.args[j] (RZ hlt) (below||decide (s.op=5)) (by have:=d5 (RZ hlt);omega);cases below with
   | true=>
    rw[RU]at hrec ihj;simp -dsimp only[aw,jV,jW,jX,jY,jZ,jA,reduceIte,reduceCtorEq,jB,jC,jD,jE,jF,jG,RX,hlt,decide_true,RY hlt,bw s.args[j]];refine ac (by simpa only[ak]using ihj _) ?_;by_cases h1:ed s.args[j] true=0
    .rw[if_pos h1]at hrec;simp -dsimp only[aw,jV,jW,jX,jY,jZ,jA,reduceIte,reduceCtorEq,jB,jC,jD,jE,jF,jG,h1,RW,decide_true,decide_false,bl hlt (show s.args.length≤9223372036854775807 by omega)];exact⟨hlt,Nxt.drop1 (Nat.le_refl _) (av hb rfl) (by simp[am,V.under,V.unders]) ⟨rfl,rfl,by rw[RU];exact hrec⟩⟩
    .rw[if_neg h1]at hrec;simp -dsimp only[aw,jV,jW,jX,jY,jZ,jA,reduceIte,reduceCtorEq,jB,jC,jD,jE,jF,jG,decide_eq_false h1];exact out _ _ hrec
   | false=>
    rw[RS]at hrec ihj;simp -dsimp only[aw,jV,jW,jX,jY,jZ,jA,reduceIte,reduceCtorEq,jB,jC,jD,jE,jF,jG,RX,hlt,decide_true,RY hlt,bw s.args[j]];refine ac (by simpa only[ak]using ihj _) ?_;by_cases h1:ed s.args[j] (decide (s.op=5))=0
    .rw[if_pos h1]at hrec;simp -dsimp only[aw,jV,jW,jX,jY,jZ,jA,reduceIte,reduceCtorEq,jB,jC,jD,jE,jF,jG,h1,RW,decide_true,decide_false,bl hlt (show s.args.length≤9223372036854775807 by omega)];exact⟨hlt,Nxt.drop1 (Nat.le_refl _) (av hb rfl) (by simp[am,V.under,V.unders]) ⟨rfl,rfl,by rw[RS];exact hrec⟩⟩
    .rw[if_neg h1]at hrec;simp -dsimp only[aw,jV,jW,jX,jY,jZ,jA,reduceIte,reduceCtorEq,jB,jC,jD,jE,jF,jG,decide_eq_false h1];exact out _ _ hrec
  .simp -dsimp only[aw,jV,jW,jX,jY,jZ,jA,reduceIte,reduceCtorEq,jB,jC,jD,jE,jF,jG,RX,hlt,decide_false];rw[R8 (by omega)]at hrec;exact out 0 _ (by rw[hrec];rfl)
 .rw[if_neg h0]at hq;simp -dsimp only[aw,jV,jW,jX,jY,jZ,jA,reduceIte,reduceCtorEq,jB,jC,jD,jE,jF,jG,decide_eq_false h0];exact out _ _ hq
def cy(s:Ts):Int:=if 8<tdp s\/100<tsz s then 2 else ed s false
theorem je(s:Ts)(hs:bd s≤1000000)(σ:LLV):Fun G 33 [vts s] σ (az (.d (ab (cy s))) σ):=by
 refine ai Tryz.func33 k33 (by simp only[ak];rfl) fun hb hw=>?_;unfold c33
 have out:∀(n:Int) (l:LLV),cy s=n->fin σ.length Pl (az (.d (ab (cy s))) σ) .ret [(2,.d (.lit (.int .i64 n)))] (σ++l):=fun n l h=>by
  rw[h];exact ao hb rfl rfl R0 ⟨rfl,rfl⟩
 have c8:decide ((8:Int)<(tdp s:Nat))=decide (8<tdp s):=by congr 1;apply propext;omega
 have Hy:decide ((100:Int)<(tsz s:Nat))=decide (100<tsz s):=by congr 1;apply propext;omega
 simp -dsimp only[aw,jV,jW,jX,jY,jZ,jA,reduceIte,reduceCtorEq,jB,jC,jD,jE,jF,jG,ak];refine ac (by simpa only[ak]using AN s hs _) ?_;by_cases h1:8<tdp s
 .simp -dsimp only[aw,jV,jW,jX,jY,jZ,jA,reduceIte,reduceCtorEq,jB,jC,jD,jE,jF,jG,c8,decide_eq_true h1];exact out 2 _ (by unfold cy;rw[if_pos (.inl h1)])
 .simp -dsimp only[aw,jV,jW,jX,jY,jZ,jA,reduceIte,reduceCtorEq,jB,jC,jD,jE,jF,jG,c8,decide_eq_false h1];refine ac (by simpa only[ak]using Ee s hs _) ?_;by_cases h2:100<tsz s
  .simp -dsimp only[aw,jV,jW,jX,jY,jZ,jA,reduceIte,reduceCtorEq,jB,jC,jD,jE,jF,jG,Hy,decide_eq_true h2];exact out 2 _ (by unfold cy;rw[if_pos (.inr h2)])
  .simp -dsimp only[aw,jV,jW,jX,jY,jZ,jA,reduceIte,reduceCtorEq,jB,jC,jD,jE,jF,jG,Hy,decide_eq_false h2];refine ac (by simpa only[ak]using Cb s false hs _) ?_;simp -dsimp only[aw,jV,jW,jX,jY,jZ,jA,reduceIte,reduceCtorEq,jB,jC,jD,jE,jF,jG];exact out _ _ (by unfold cy;rw[if_neg (by omega)])
def mem(w:World):aq:=fun b o=>w.cell? ⟨b,o,none⟩
theorem FW(w:World):(mem w).hold w:=fun _ _ _ h=>h
theorem CC(w:World):Inv (mem w) [] [] (fun _ _=>none) (fun b=>b<w.heap.size) w:=
 {facts:=FW w,len:=rfl,box:=fun i b cs h=>by simp at h,free:=fun b h=>by simp at h,bmnd:=List.nodup_nil,
  tok:=fun i j g h=>(nomatch h),inj:=fun i j i' j' g h=>(nomatch h),prlt:=fun b h=>h}
def iA(M:aq)(ds:List D)(cs:List Value):Prop:=cs.length=ds.length/\∀i (h:i<ds.length) (h':i<cs.length),DRep M ds[i] cs[i]
theorem iA.nil{M:aq}:iA M [] []:=⟨rfl,fun i h=>by simp at h⟩
theorem iA.cons{M:aq}{d:D}{v:Value}{ds:List D}{cs:List Value}(h:DRep M d v)(hs:iA M ds cs):iA M (d::ds) (v::cs):=
 ⟨by simp[hs.1],fun i h1 h2=>by
   cases i with
   | zero=>exact h
   | succ i=>exact hs.2 i (by simpa using h1) (by simpa using h2)⟩
theorem iA.append{M:aq}{ds ds':List D}{cs cs':List Value}(h:iA M ds cs)(h':iA M ds' cs'):iA M (ds++ds') (cs++cs'):=by
 refine⟨by simp[h.1,h'.1],fun i h1 h2=>?_⟩;by_cases hi:i<ds.length
 .rw[R7 hi,R7 (by rw[h.1];exact hi)];exact h.2 i _ _
 .rw[R5 (by omega),R5 (by rw[h.1];omega)];have hl:=h.1;simp only[hl];exact h'.2 (i-ds.length) (by simp at h1;omega) (by simp at h2;omega)
theorem iA.rep{M:aq}{bm:List Nat}{ds:List D}{cs:List Value}(h:iA M ds cs):Rep M bm (.agg (ds.map V.d)) (.agg cs.toArray):=by
 refine .agg (by simp[h.1]) (fun i g g'=>?_) (fun v hv=>?_)
 .simp only[List.getElem_map];exact .d (h.2 i (by simpa using g) g')
 .obtain⟨i,hi,rfl⟩:=List.getElem_of_mem hv;exact(h.2 i (by rw[<-h.1];exact hi) hi).one
theorem uP{w:World}{a:Addr}{v:Value}(h:w.cell? a=some v):a.spot=none:=by
 unfold World.cell? at h;split at h
 .split at h
  .cases h
  .rename_i hs;simpa using hs
 .cases h
section
variable {H : Type} {enc : TypeId × Value -> H} {P : Program} {W : World} {base : Nat} {spare : Nat -> Bool} {held : Bool} {fuel : Nat} {t : TypeId} {cs : List Value} {x : DataW H × List MemPlace}
theorem j6(hu:P.underlying t=some (.int .i64))(h:DataW.trod enc P W base spare held fuel t cs=some x):∃n,cs=[.int .i64 n]/\dx (.int .i64 n):=by
 obtain⟨n,rfl,-,w0⟩:=DataW.trod_int hu h;exact⟨n,rfl,by simpa[dx,Lit.wf,IntKind.min,IntKind.max,IntKind.signed,IntKind.bits]using w0⟩
theorem oJ(hu:P.underlying t=some .string)(h:DataW.trod enc P W base spare held fuel t cs=some x):∃s:ByteArray,cs=[.string s]/\dx (.string s):=by
 obtain⟨n,rfl,-,w0⟩:=DataW.trod_string hu h;exact⟨n,rfl,w0⟩
theorem ro(hu:P.underlying t=some .bool)(h:DataW.trod enc P W base spare held fuel t cs=some x):∃b,cs=[.bool b]:=by
 obtain⟨n,rfl,-⟩:=DataW.trod_bool hu h;exact⟨n,rfl⟩
end
end Go.Proofs.YthekkgfmagliiaaGreatDoor
namespace Go.Proofs.YthekkgfmagliiaaGreatDoor
open Go.Shelf
def Tryz.lays156_ren:Go.Shelf.Ren:=⟨fun|156=>88|165=>123|166=>124|169=>125|240=>158|241=>159|276=>188|277=>189|n=>n,fun|31=>92|9=>9|3=>3|4=>4|0=>0|20=>20|72=>123|76=>127|70=>121|37=>107|75=>126|127=>151|164=>167|5=>5|80=>129|n=>n,fun|n=>n⟩
theorem Tryz.lays156:Go.Proofs.Lays.n156 Tryz.prog Tryz.lays156_ren:={
 mixed:=by kernel_rfl
 f156:=Tryz.func88.trans (congrArg some (by kernel_rfl))
 f165:=Tryz.func123.trans (congrArg some (by kernel_rfl))
 f166:=Tryz.func124.trans (congrArg some (by kernel_rfl))
 f169:=Tryz.func125.trans (congrArg some (by kernel_rfl))
 f240:=Tryz.func158.trans (congrArg some (by kernel_rfl))
 f241:=Tryz.func159.trans (congrArg some (by kernel_rfl))
 f276:=Tryz.func188.trans (congrArg some (by kernel_rfl))
 f277:=Tryz.func189.trans (congrArg some (by kernel_rfl))
 t0:=Tryz.underlying0
 a0:=Tryz.isAgg0
 z0:=Tryz.sizeOf0
 v0:=Tryz.zeroValue0
 t3:=Tryz.underlying3
 a3:=Tryz.isAgg3
 z3:=Tryz.sizeOf3
 v3:=Tryz.zeroValue3
 t4:=Tryz.underlying4
 a4:=Tryz.isAgg4
 z4:=Tryz.sizeOf4
 v4:=Tryz.zeroValue4
 t9:=Tryz.underlying9
 a9:=Tryz.isAgg9
 z9:=Tryz.sizeOf9
 v9:=Tryz.zeroValue9
 t20:=Tryz.underlying20
 a20:=Tryz.isAgg20
 z20:=Tryz.sizeOf20
 v20:=Tryz.zeroValue20
 t31:=Tryz.underlying92
 a31:=Tryz.isAgg92
 z31:=Tryz.sizeOf92
 v31:=Tryz.zeroValue92
 t37:=Tryz.underlying107
 a37:=Tryz.isAgg107
 z37:=Tryz.sizeOf107
 v37:=Tryz.zeroValue107
 t70:=Tryz.underlying121
 a70:=Tryz.isAgg121
 z70:=Tryz.sizeOf121
 v70:=Tryz.zeroValue121
 t72:=Tryz.underlying123
 a72:=Tryz.isAgg123
 z72:=Tryz.sizeOf123
 v72:=Tryz.zeroValue123
 t75:=Tryz.underlying126
 a75:=Tryz.isAgg126
 z75:=Tryz.sizeOf126
 v75:=Tryz.zeroValue126
 t76:=Tryz.underlying127
 a76:=Tryz.isAgg127
 z76:=Tryz.sizeOf127
 v76:=Tryz.zeroValue127
 t127:=Tryz.underlying151
 a127:=Tryz.isAgg151
 z127:=Tryz.sizeOf151
 v127:=Tryz.zeroValue151
 t164:=Tryz.underlying167
 a164:=Tryz.isAgg167
 z164:=Tryz.sizeOf167
 v164:=Tryz.zeroValue167}
theorem Tryz.Builder_Extra_156:Builder.Extra Tryz.prog Tryz.lays156_ren:={
 sizeBuilder:=by kernel_rfl
 liesBuilder:=by kernel_rfl
 t5:=Tryz.underlying5
 a5:=Tryz.isAgg5
 z5:=Tryz.sizeOf5
 v5:=Tryz.zeroValue5
 infoByte:=by kernel_rfl
 cellsByte:=by kernel_rfl
 sizeByte:=by kernel_rfl
 neB5:=by decide}
open Go.RowKit in
theorem Tryz.strings_Join_none(a:Option Addr)(c:Nat)(sep:ByteArray)(w:World):
 Calls Tryz.prog 88 #[.slice a 0 c,.string sep] w fun e w'=>e=.returned (.string ⟨#[]⟩)/\w'=w:=Any.strings_Join_none Tryz.lays156 Tryz.Builder_Extra_156 a c sep w
open Go.RowKit in
theorem Tryz.strings_Join(bk o c:Nat)(xs:List ByteArray)(sep:ByteArray)(w:World)(hcells:∀(j:Nat) x,xs[j]? = some x->w.cell? ⟨bk,o+j,none⟩=some (.string x))(hbk:bk<w.heap.size)(hN:xs.length≤140737488355328)(hcap:xs.length≤c)(hlen:(Lib.join (xs.map (·.data.toList)) sep.data.toList).length≤140737488355328):
 Calls Tryz.prog 88 #[.slice (some ⟨bk,o,none⟩) xs.length c,.string sep] w fun e w'=>e=.returned (.string ⟨(Lib.join (xs.map (·.data.toList)) sep.data.toList).toArray⟩)/\Below w.heap.size w w':=Any.strings_Join Tryz.lays156 Tryz.Builder_Extra_156 bk o c xs sep w hcells hbk hN hcap hlen
def Tryz.lays119_ren:Go.Shelf.Ren:=⟨fun|119=>183|n=>n,fun|21=>21|4=>4|n=>n,fun|n=>n⟩
theorem Tryz.lays119:Go.Proofs.Lays.n119 Tryz.prog Tryz.lays119_ren:={
 mixed:=by kernel_rfl
 f119:=Tryz.func183.trans (congrArg some (by kernel_rfl))
 t4:=Tryz.underlying4
 a4:=Tryz.isAgg4
 z4:=Tryz.sizeOf4
 v4:=Tryz.zeroValue4
 t21:=Tryz.underlying21
 a21:=Tryz.isAgg21
 z21:=Tryz.sizeOf21
 v21:=Tryz.zeroValue21}
theorem Tryz.utf8_ValidRune(r:Int)(w:World):
 Calls Tryz.prog 183 #[.int .i32 r] w fun e w'=>e=.returned (.bool (Lib.validRune r))/\w'=w:=Any.utf8_ValidRune Tryz.lays119 r w
def Tryz.lays137_ren:Go.Shelf.Ren:=⟨fun|137=>167|217=>196|266=>221|n=>n,fun|9=>9|5=>5|3=>3|n=>n,fun|n=>n⟩
theorem Tryz.lays137:Go.Proofs.Lays.n137 Tryz.prog Tryz.lays137_ren:={
 mixed:=by kernel_rfl
 f137:=Tryz.func167.trans (congrArg some (by kernel_rfl))
 f217:=Tryz.func196.trans (congrArg some (by kernel_rfl))
 f266:=Tryz.func221.trans (congrArg some (by kernel_rfl))
 t3:=Tryz.underlying3
 a3:=Tryz.isAgg3
 z3:=Tryz.sizeOf3
 v3:=Tryz.zeroValue3
 t5:=Tryz.underlying5
 a5:=Tryz.isAgg5
 z5:=Tryz.sizeOf5
 v5:=Tryz.zeroValue5
 t9:=Tryz.underlying9
 a9:=Tryz.isAgg9
 z9:=Tryz.sizeOf9
 v9:=Tryz.zeroValue9}
open Go.RowKit in
theorem Tryz.strings_IndexByte(s:ByteArray)(c:Int)(w:World):
 Calls Tryz.prog 167 #[.string s,.int .u8 c] w fun e w'=>e=.returned (.int .i64 (Lib.indexByte s.data.toList c.toNat.toUInt8))/\w'=w:=Any.strings_IndexByte Tryz.lays137 s c w
def Tryz.laysM171_ren:Go.Shelf.Ren:=⟨fun|171=>89|243=>126|246=>160|283=>190|284=>191|285=>192|286=>193|129=>216|317=>215|318=>217|319=>218|320=>219|337=>233|338=>234|n=>n,fun|3=>3|9=>9|2=>2|4=>4|171=>170|0=>0|53=>171|37=>107|5=>5|173=>174|212=>189|51=>190|20=>20|213=>191|46=>165|232=>213|233=>214|n=>n,fun|17=>3|18=>6|19=>7|n=>n⟩
theorem Tryz.laysM171:Go.Proofs.LaysM.n171 Tryz.prog Tryz.laysM171_ren:={
 mixed:=by kernel_rfl
 f129:=Tryz.func216.trans (congrArg some (by kernel_rfl))
 f171:=Tryz.func89.trans (congrArg some (by kernel_rfl))
 f243:=Tryz.func126.trans (congrArg some (by kernel_rfl))
 f246:=Tryz.func160.trans (congrArg some (by kernel_rfl))
 f283:=Tryz.func190.trans (congrArg some (by kernel_rfl))
 f284:=Tryz.func191.trans (congrArg some (by kernel_rfl))
 f285:=Tryz.func192.trans (congrArg some (by kernel_rfl))
 f286:=Tryz.func193.trans (congrArg some (by kernel_rfl))
 f317:=Tryz.func215.trans (congrArg some (by kernel_rfl))
 f318:=Tryz.func217.trans (congrArg some (by kernel_rfl))
 f319:=Tryz.func218.trans (congrArg some (by kernel_rfl))
 f320:=Tryz.func219.trans (congrArg some (by kernel_rfl))
 f337:=Tryz.func233.trans (congrArg some (by kernel_rfl))
 f338:=Tryz.func234.trans (congrArg some (by kernel_rfl))
 t0:=Tryz.underlying0
 a0:=Tryz.isAgg0
 z0:=Tryz.sizeOf0
 v0:=Tryz.zeroValue0
 t2:=Tryz.underlying2
 a2:=Tryz.isAgg2
 z2:=Tryz.sizeOf2
 v2:=Tryz.zeroValue2
 t3:=Tryz.underlying3
 a3:=Tryz.isAgg3
 z3:=Tryz.sizeOf3
 v3:=Tryz.zeroValue3
 t4:=Tryz.underlying4
 a4:=Tryz.isAgg4
 z4:=Tryz.sizeOf4
 v4:=Tryz.zeroValue4
 t5:=Tryz.underlying5
 a5:=Tryz.isAgg5
 z5:=Tryz.sizeOf5
 v5:=Tryz.zeroValue5
 t9:=Tryz.underlying9
 a9:=Tryz.isAgg9
 z9:=Tryz.sizeOf9
 v9:=Tryz.zeroValue9
 t20:=Tryz.underlying20
 a20:=Tryz.isAgg20
 z20:=Tryz.sizeOf20
 v20:=Tryz.zeroValue20
 t37:=Tryz.underlying107
 a37:=Tryz.isAgg107
 z37:=Tryz.sizeOf107
 v37:=Tryz.zeroValue107
 t46:=Tryz.underlying165
 a46:=Tryz.isAgg165
 z46:=Tryz.sizeOf165
 v46:=Tryz.zeroValue165
 t51:=Tryz.underlying190
 a51:=Tryz.isAgg190
 z51:=Tryz.sizeOf190
 v51:=Tryz.zeroValue190
 t53:=Tryz.underlying171
 a53:=Tryz.isAgg171
 z53:=Tryz.sizeOf171
 v53:=Tryz.zeroValue171
 t171:=Tryz.underlying170
 a171:=Tryz.isAgg170
 z171:=Tryz.sizeOf170
 v171:=Tryz.zeroValue170
 t173:=Tryz.underlying174
 a173:=Tryz.isAgg174
 z173:=Tryz.sizeOf174
 v173:=Tryz.zeroValue174
 t212:=Tryz.underlying189
 a212:=Tryz.isAgg189
 z212:=Tryz.sizeOf189
 v212:=Tryz.zeroValue189
 t213:=Tryz.underlying191
 a213:=Tryz.isAgg191
 z213:=Tryz.sizeOf191
 t232:=Tryz.underlying213
 a232:=Tryz.isAgg213
 z232:=Tryz.sizeOf213
 v232:=Tryz.zeroValue213
 t233:=Tryz.underlying214
 a233:=Tryz.isAgg214
 z233:=Tryz.sizeOf214
 v233:=Tryz.zeroValue214
 g17:=by kernel_rfl
 g18:=by kernel_rfl
 g19:=by kernel_rfl
 i0:=by kernel_rfl
 i2:=by kernel_rfl
 i3:=by kernel_rfl
 i4:=by kernel_rfl
 i5:=by kernel_rfl
 i9:=by kernel_rfl
 i20:=by kernel_rfl
 i37:=by kernel_rfl
 i46:=by kernel_rfl
 i51:=by kernel_rfl
 i53:=by kernel_rfl
 i171:=by kernel_rfl
 i173:=by kernel_rfl
 i212:=by kernel_rfl
 i232:=by kernel_rfl
 i233:=by kernel_rfl
 m17:=by kernel_rfl
 m18:=by kernel_rfl
 m19:=by kernel_rfl}
open Go.RowKit Go.Sort Go.Lib in
theorem Tryz.strconv_Itoa(n:Int)(h0 : -9223372036854775808≤n)(h1:n≤9223372036854775807)(w:World)(htab:Lib.TabIs Tryz.prog w "internal/strconv.uint64pow10" .u64 Lib.pow10Tab):
 Calls Tryz.prog 89 #[.int .i64 n] w fun e w'=>e=.returned (.string ⟨(Lib.itoa n).toArray⟩)/\∃k os,w'=grow (w.drewN k) os:=Any.strconv_Itoa Tryz.laysM171 n h0 h1 w htab
def Tryz.laysC174_ren:Go.Shelf.Ren:=⟨fun|174=>156|247=>186|245=>187|287=>210|279=>211|280=>212|281=>213|282=>214|321=>229|322=>230|316=>231|171=>89|205=>232|243=>126|246=>160|283=>190|284=>191|285=>192|286=>193|129=>216|317=>215|318=>217|319=>218|320=>219|337=>233|338=>234|n=>n,fun|9=>9|3=>3|2=>2|75=>126|85=>148|4=>4|167=>182|5=>5|53=>171|175=>183|46=>165|168=>185|37=>107|0=>0|210=>199|21=>21|127=>151|145=>212|143=>210|171=>170|173=>174|212=>189|51=>190|20=>20|213=>191|232=>213|233=>214|80=>129|n=>n,fun|15=>4|16=>5|17=>3|18=>6|19=>7|n=>n⟩
theorem Tryz.laysC174:Go.Proofs.LaysC.n174 Tryz.prog Tryz.laysC174_ren:={
 mixed:=by kernel_rfl
 f129:=Tryz.func216.trans (congrArg some (by kernel_rfl))
 f171:=Tryz.func89.trans (congrArg some (by kernel_rfl))
 f174:=Tryz.func156.trans (congrArg some (by kernel_rfl))
 f205:=Tryz.func232.trans (congrArg some (by kernel_rfl))
 f243:=Tryz.func126.trans (congrArg some (by kernel_rfl))
 f245:=Tryz.func187.trans (congrArg some (by kernel_rfl))
 f246:=Tryz.func160.trans (congrArg some (by kernel_rfl))
 f247:=Tryz.func186.trans (congrArg some (by kernel_rfl))
 f279:=Tryz.func211.trans (congrArg some (by kernel_rfl))
 f280:=Tryz.func212.trans (congrArg some (by kernel_rfl))
 f281:=Tryz.func213.trans (congrArg some (by kernel_rfl))
 f282:=Tryz.func214.trans (congrArg some (by kernel_rfl))
 f283:=Tryz.func190.trans (congrArg some (by kernel_rfl))
 f284:=Tryz.func191.trans (congrArg some (by kernel_rfl))
 f285:=Tryz.func192.trans (congrArg some (by kernel_rfl))
 f286:=Tryz.func193.trans (congrArg some (by kernel_rfl))
 f287:=Tryz.func210.trans (congrArg some (by kernel_rfl))
 f316:=Tryz.func231.trans (congrArg some (by kernel_rfl))
 f317:=Tryz.func215.trans (congrArg some (by kernel_rfl))
 f318:=Tryz.func217.trans (congrArg some (by kernel_rfl))
 f319:=Tryz.func218.trans (congrArg some (by kernel_rfl))
 f320:=Tryz.func219.trans (congrArg some (by kernel_rfl))
 f321:=Tryz.func229.trans (congrArg some (by kernel_rfl))
 f322:=Tryz.func230.trans (congrArg some (by kernel_rfl))
 f337:=Tryz.func233.trans (congrArg some (by kernel_rfl))
 f338:=Tryz.func234.trans (congrArg some (by kernel_rfl))
 t0:=Tryz.underlying0
 a0:=Tryz.isAgg0
 z0:=Tryz.sizeOf0
 v0:=Tryz.zeroValue0
 t2:=Tryz.underlying2
 a2:=Tryz.isAgg2
 z2:=Tryz.sizeOf2
 v2:=Tryz.zeroValue2
 t3:=Tryz.underlying3
 a3:=Tryz.isAgg3
 z3:=Tryz.sizeOf3
 v3:=Tryz.zeroValue3
 t4:=Tryz.underlying4
 a4:=Tryz.isAgg4
 z4:=Tryz.sizeOf4
 v4:=Tryz.zeroValue4
 t5:=Tryz.underlying5
 a5:=Tryz.isAgg5
 z5:=Tryz.sizeOf5
 v5:=Tryz.zeroValue5
 t9:=Tryz.underlying9
 a9:=Tryz.isAgg9
 z9:=Tryz.sizeOf9
 v9:=Tryz.zeroValue9
 t20:=Tryz.underlying20
 a20:=Tryz.isAgg20
 z20:=Tryz.sizeOf20
 v20:=Tryz.zeroValue20
 t21:=Tryz.underlying21
 a21:=Tryz.isAgg21
 z21:=Tryz.sizeOf21
 v21:=Tryz.zeroValue21
 t37:=Tryz.underlying107
 a37:=Tryz.isAgg107
 z37:=Tryz.sizeOf107
 v37:=Tryz.zeroValue107
 t46:=Tryz.underlying165
 a46:=Tryz.isAgg165
 z46:=Tryz.sizeOf165
 v46:=Tryz.zeroValue165
 t51:=Tryz.underlying190
 a51:=Tryz.isAgg190
 z51:=Tryz.sizeOf190
 v51:=Tryz.zeroValue190
 t53:=Tryz.underlying171
 a53:=Tryz.isAgg171
 z53:=Tryz.sizeOf171
 v53:=Tryz.zeroValue171
 t75:=Tryz.underlying126
 a75:=Tryz.isAgg126
 z75:=Tryz.sizeOf126
 v75:=Tryz.zeroValue126
 t85:=Tryz.underlying148
 a85:=Tryz.isAgg148
 z85:=Tryz.sizeOf148
 v85:=Tryz.zeroValue148
 t127:=Tryz.underlying151
 a127:=Tryz.isAgg151
 z127:=Tryz.sizeOf151
 v127:=Tryz.zeroValue151
 t143:=Tryz.underlying210
 a143:=Tryz.isAgg210
 z143:=Tryz.sizeOf210
 v143:=Tryz.zeroValue210
 t145:=Tryz.underlying212
 a145:=Tryz.isAgg212
 z145:=Tryz.sizeOf212
 v145:=Tryz.zeroValue212
 t167:=Tryz.underlying182
 a167:=Tryz.isAgg182
 z167:=Tryz.sizeOf182
 v167:=Tryz.zeroValue182
 t168:=Tryz.underlying185
 a168:=Tryz.isAgg185
 z168:=Tryz.sizeOf185
 v168:=Tryz.zeroValue185
 t171:=Tryz.underlying170
 a171:=Tryz.isAgg170
 z171:=Tryz.sizeOf170
 v171:=Tryz.zeroValue170
 t173:=Tryz.underlying174
 a173:=Tryz.isAgg174
 z173:=Tryz.sizeOf174
 v173:=Tryz.zeroValue174
 t175:=Tryz.underlying183
 a175:=Tryz.isAgg183
 z175:=Tryz.sizeOf183
 v175:=Tryz.zeroValue183
 t210:=Tryz.underlying199
 a210:=Tryz.isAgg199
 z210:=Tryz.sizeOf199
 v210:=Tryz.zeroValue199
 t212:=Tryz.underlying189
 a212:=Tryz.isAgg189
 z212:=Tryz.sizeOf189
 v212:=Tryz.zeroValue189
 t213:=Tryz.underlying191
 a213:=Tryz.isAgg191
 z213:=Tryz.sizeOf191
 t232:=Tryz.underlying213
 a232:=Tryz.isAgg213
 z232:=Tryz.sizeOf213
 v232:=Tryz.zeroValue213
 t233:=Tryz.underlying214
 a233:=Tryz.isAgg214
 z233:=Tryz.sizeOf214
 v233:=Tryz.zeroValue214
 g15:=by kernel_rfl
 g16:=by kernel_rfl
 g17:=by kernel_rfl
 g18:=by kernel_rfl
 g19:=by kernel_rfl
 t80:=Tryz.underlying129
 a80:=Tryz.isAgg129
 z80:=Tryz.sizeOf129
 v80:=Tryz.zeroValue129
 i0:=by kernel_rfl
 i2:=by kernel_rfl
 i3:=by kernel_rfl
 i4:=by kernel_rfl
 i5:=by kernel_rfl
 i9:=by kernel_rfl
 i20:=by kernel_rfl
 i21:=by kernel_rfl
 i37:=by kernel_rfl
 i46:=by kernel_rfl
 i51:=by kernel_rfl
 i53:=by kernel_rfl
 i75:=by kernel_rfl
 i80:=by kernel_rfl
 i85:=by kernel_rfl
 i127:=by kernel_rfl
 i143:=by kernel_rfl
 i145:=by kernel_rfl
 i167:=by kernel_rfl
 i168:=by kernel_rfl
 i171:=by kernel_rfl
 i173:=by kernel_rfl
 i175:=by kernel_rfl
 i210:=by kernel_rfl
 i212:=by kernel_rfl
 i232:=by kernel_rfl
 i233:=by kernel_rfl
 m15:=by kernel_rfl
 m16:=by kernel_rfl
 m17:=by kernel_rfl
 m18:=by kernel_rfl
 m19:=by kernel_rfl
 c0:=by kernel_rfl
 c2:=by kernel_rfl
 c3:=by kernel_rfl
 c4:=by kernel_rfl
 c5:=by kernel_rfl
 c9:=by kernel_rfl
 c20:=by kernel_rfl
 c21:=by kernel_rfl
 c37:=by kernel_rfl
 c46:=by kernel_rfl
 c51:=by kernel_rfl
 c53:=by kernel_rfl
 c75:=by kernel_rfl
 c80:=by kernel_rfl
 c85:=by kernel_rfl
 c127:=by kernel_rfl
 c143:=by kernel_rfl
 c145:=by kernel_rfl
 c167:=by kernel_rfl
 c168:=by kernel_rfl
 c171:=by kernel_rfl
 c173:=by kernel_rfl
 c175:=by kernel_rfl
 c210:=by kernel_rfl
 c212:=by kernel_rfl
 c213:=by kernel_rfl
 c232:=by kernel_rfl
 c233:=by kernel_rfl}
open Go.RowKit in
theorem Tryz.strconv_ParseInt_10_at64_ok(s:ByteArray)(hmax:s.size≤9223372036854775806)(v:Int)(h:Lib.parseIntB 64 s.data.toList=.ok v)(w:World):
 Calls Tryz.prog 156 #[.string s,.int .i64 10,.int .i64 64] w fun e w'=>e=.returned (.tuple #[.int .i64 v,.nilIface])/\(w'=w\/∃t,w'=Lib.bytesWorld w 5 t):=Any.strconv_ParseInt_10_at64_ok Tryz.laysC174 s hmax v h w
open Go.RowKit in
theorem Tryz.strconv_ParseInt_10_at64_range(s:ByteArray)(hlim:s.size≤281474976710656)(h:Lib.parseIntB 64 s.data.toList=.range)(ev:Value)(w:World)(hv:w.cell? ⟨5,0,none⟩=some ev)(hev:ev=.nilIface\/∃te pe,ev=.iface te pe):
 Calls Tryz.prog 156 #[.string s,.int .i64 10,.int .i64 64] w fun e w'=>∃N,e=.returned (.tuple #[.int .i64 (Lib.intSat 64 s.data.toList),.iface 185 (.pointer (some ⟨N,0,none⟩))])/\w.heap.size≤N/\w'.heap[N]? = some (.cells #[.string ⟨#[80,97,114,115,101,73,110,116]⟩,.string s,ev] 199 (0,0))/\Below w.heap.size w w':=Any.strconv_ParseInt_10_at64_range Tryz.laysC174 s hlim h ev w hv hev
def Tryz.lays138_ren:Go.Shelf.Ren:=⟨fun|138=>154|195=>180|218=>181|143=>182|219=>209|217=>196|225=>185|224=>184|267=>228|266=>221|314=>238|n=>n,fun|9=>9|3=>3|4=>4|5=>5|0=>0|46=>165|146=>208|51=>190|n=>n,fun|1=>2|n=>n⟩
theorem Tryz.lays138:Go.Proofs.Lays.n138 Tryz.prog Tryz.lays138_ren:={
 mixed:=by kernel_rfl
 f138:=Tryz.func154.trans (congrArg some (by kernel_rfl))
 f143:=Tryz.func182.trans (congrArg some (by kernel_rfl))
 f195:=Tryz.func180.trans (congrArg some (by kernel_rfl))
 f217:=Tryz.func196.trans (congrArg some (by kernel_rfl))
 f218:=Tryz.func181.trans (congrArg some (by kernel_rfl))
 f219:=Tryz.func209.trans (congrArg some (by kernel_rfl))
 f224:=Tryz.func184.trans (congrArg some (by kernel_rfl))
 f225:=Tryz.func185.trans (congrArg some (by kernel_rfl))
 f266:=Tryz.func221.trans (congrArg some (by kernel_rfl))
 f267:=Tryz.func228.trans (congrArg some (by kernel_rfl))
 f314:=Tryz.func238.trans (congrArg some (by kernel_rfl))
 t0:=Tryz.underlying0
 a0:=Tryz.isAgg0
 z0:=Tryz.sizeOf0
 v0:=Tryz.zeroValue0
 t3:=Tryz.underlying3
 a3:=Tryz.isAgg3
 z3:=Tryz.sizeOf3
 v3:=Tryz.zeroValue3
 t4:=Tryz.underlying4
 a4:=Tryz.isAgg4
 z4:=Tryz.sizeOf4
 v4:=Tryz.zeroValue4
 t5:=Tryz.underlying5
 a5:=Tryz.isAgg5
 z5:=Tryz.sizeOf5
 v5:=Tryz.zeroValue5
 t9:=Tryz.underlying9
 a9:=Tryz.isAgg9
 z9:=Tryz.sizeOf9
 v9:=Tryz.zeroValue9
 t46:=Tryz.underlying165
 a46:=Tryz.isAgg165
 z46:=Tryz.sizeOf165
 v46:=Tryz.zeroValue165
 t51:=Tryz.underlying190
 a51:=Tryz.isAgg190
 z51:=Tryz.sizeOf190
 v51:=Tryz.zeroValue190
 t146:=Tryz.underlying208
 a146:=Tryz.isAgg208
 z146:=Tryz.sizeOf208
 v146:=Tryz.zeroValue208
 g1:=by kernel_rfl}
open Go.RowKit Go.Lib in
theorem Tryz.strings_Count_one(s:ByteArray)(c:UInt8)(w:World):
 Calls Tryz.prog 154 #[.string s,.string ⟨#[c]⟩] w fun e w'=>e=.returned (.int .i64 (Lib.countByte s.data.toList c))/\w'=w:=Any.strings_Count_one Tryz.lays138 s c w
def Tryz.lays99_ren:Go.Shelf.Ren:=⟨fun|99=>110|206=>153|n=>n,fun|9=>9|4=>4|3=>3|n=>n,fun|n=>n⟩
theorem Tryz.lays99:Go.Proofs.Lays.n99 Tryz.prog Tryz.lays99_ren:={
 mixed:=by kernel_rfl
 f99:=Tryz.func110.trans (congrArg some (by kernel_rfl))
 f206:=Tryz.func153.trans (congrArg some (by kernel_rfl))
 t3:=Tryz.underlying3
 a3:=Tryz.isAgg3
 z3:=Tryz.sizeOf3
 v3:=Tryz.zeroValue3
 t4:=Tryz.underlying4
 a4:=Tryz.isAgg4
 z4:=Tryz.sizeOf4
 v4:=Tryz.zeroValue4
 t9:=Tryz.underlying9
 a9:=Tryz.isAgg9
 z9:=Tryz.sizeOf9
 v9:=Tryz.zeroValue9}
open Go.RowKit Go.Lib in
theorem Tryz.strings_HasPrefix(s p:ByteArray)(w:World):
 Calls Tryz.prog 110 #[.string s,.string p] w fun e w'=>e=.returned (.bool (Lib.hasPrefix s.data.toList p.data.toList))/\w'=w:=Any.strings_HasPrefix Tryz.lays99 s p w
def Tryz.lays151_ren:Go.Shelf.Ren:=⟨fun|151=>114|152=>155|137=>167|119=>183|224=>184|225=>185|217=>196|266=>221|n=>n,fun|9=>9|21=>21|4=>4|3=>3|5=>5|0=>0|46=>165|n=>n,fun|n=>n⟩
theorem Tryz.lays151:Go.Proofs.Lays.n151 Tryz.prog Tryz.lays151_ren:={
 mixed:=by kernel_rfl
 f119:=Tryz.func183.trans (congrArg some (by kernel_rfl))
 f137:=Tryz.func167.trans (congrArg some (by kernel_rfl))
 f151:=Tryz.func114.trans (congrArg some (by kernel_rfl))
 f152:=Tryz.func155.trans (congrArg some (by kernel_rfl))
 f217:=Tryz.func196.trans (congrArg some (by kernel_rfl))
 f224:=Tryz.func184.trans (congrArg some (by kernel_rfl))
 f225:=Tryz.func185.trans (congrArg some (by kernel_rfl))
 f266:=Tryz.func221.trans (congrArg some (by kernel_rfl))
 t0:=Tryz.underlying0
 a0:=Tryz.isAgg0
 z0:=Tryz.sizeOf0
 v0:=Tryz.zeroValue0
 t3:=Tryz.underlying3
 a3:=Tryz.isAgg3
 z3:=Tryz.sizeOf3
 v3:=Tryz.zeroValue3
 t4:=Tryz.underlying4
 a4:=Tryz.isAgg4
 z4:=Tryz.sizeOf4
 v4:=Tryz.zeroValue4
 t5:=Tryz.underlying5
 a5:=Tryz.isAgg5
 z5:=Tryz.sizeOf5
 v5:=Tryz.zeroValue5
 t9:=Tryz.underlying9
 a9:=Tryz.isAgg9
 z9:=Tryz.sizeOf9
 v9:=Tryz.zeroValue9
 t21:=Tryz.underlying21
 a21:=Tryz.isAgg21
 z21:=Tryz.sizeOf21
 v21:=Tryz.zeroValue21
 t46:=Tryz.underlying165
 a46:=Tryz.isAgg165
 z46:=Tryz.sizeOf165
 v46:=Tryz.zeroValue165}
open Go.RowKit Go.Lib in
theorem Tryz.strings_ContainsRune_ascii(s:ByteArray)(r:Int)(w:World)(h0:0≤r)(h1:r<128):
 Calls Tryz.prog 114 #[.string s,.int .i32 r] w fun e w'=>e=.returned (.bool (decide (0≤Lib.indexByte s.data.toList r.toNat.toUInt8)))/\w'=w:=Any.strings_ContainsRune_ascii Tryz.lays151 s r w h0 h1
end Go.Proofs.YthekkgfmagliiaaGreatDoor
