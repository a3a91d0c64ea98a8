import Derived.Test.YtnhphlmblenapaaGreatDoorCw5
set_option linter.unusedVariables false
set_option linter.unusedSimpArgs false
set_option linter.unusedSectionVars false
set_option maxHeartbeats 8000000
open Int renaming ofNat_lt->TU,reduceEq->TV
open List renaming getElem?_eq_getElem->TW,map_cons->TX,map_nil->TY,length_map->TZ,getElem?_map->T0,getElem?_append_left->T3,set_append_left->T4,length_append->T5,getElem?_concat_length->T6,drop_eq_getElem_cons->T7,drop_eq_nil_of_le->T8,set_append_right->T9,take_left'->Ua
open Nat renaming le_refl->Ub,sub_self->Uc
open Prod renaming fst->Ud
namespace Go.Proofs.YtnhphlmblenapaaGreatDoor
open Go.RowKit
open Nat renaming reduceLeDiff -> jA, reduceBEq -> jB, reduceLT -> jC, reduceEqDiff -> jD, reduceAdd -> jE, reduceSub -> jF, reduceMul -> jG
open V renaming copy -> jV, lend -> jW, lend1 -> jX, cells -> jY, boxable -> jZ
def dfl(f:Fl):List D:=[ab f.name,ac f.width,ac f.size,ac f.mode,ac f.init]
abbrev Bk:=ByteArray×List It
def dbk(b:Bk):List D:=[ab b.1,fF b.2]
abbrev vkl(c:Kl):V:=.agg [.d (ab c.name),.d (ab c.par),.d (.sl (c.flds.map dfl)),.d (.sl (c.blks.map dbk))]
def rR(f:Fl):Int:=
 if aS f.name=false then 7 else if f.width<1\/8<f.width\/f.size<0\/8<f.size then 1 else if f.mode≠0/\f.mode≠1/\f.mode≠2 then 1 else if f.size≠0/\f.mode=2 then 1
 else if f.init<0\/(if f.mode=0 then 2^f.width.toNat-1 else 0)<f.init then 1 else 0
def lM:List Fl->Int
 | []=>0
 | f::r=>if rR f≠0 then rR f else lM r
def rg:List Bk->Int->Int
 | [],_=>-1
 | b::r,k=>if aS b.1=false then k else rg r (k+1)
def pY(c:Kl):Int:=
 if aS c.name=false\/(c.par≠⟨#[]⟩/\aS c.par=false)then 7 else if 16<c.flds.length\/16<c.blks.length then 2 else if lM c.flds≠0 then lM c.flds
 else if 0≤rg c.blks 0 then 7 else if ¬(c.flds.map Fl.name).Nodup\/¬(c.blks.map Ud).Nodup then 8 else 0
theorem A6{n:Int}(h0:1≤n)(h1:n≤8):bE .shl (.d (.lit (.int .i64 1))) (.d (ac n))=some (.d (ac (2^n.toNat)))/\(2:Int)^n.toNat≤256/\(1:Int)≤2^n.toNat:=by
 have hn:n=1\/n=2\/n=3\/n=4\/n=5\/n=6\/n=7\/n=8:=by omega
 rcases hn with rfl|rfl|rfl|rfl|rfl|rfl|rfl|rfl<;>exact⟨by rw[Lg];rfl,by decide,by decide⟩
theorem AC(f:Fl)(σ:LLV):Fun G 97 [.agg ((dfl f).map V.d)] σ (aP (.d (ac (rR f))) σ):=by
 refine ai Tryz.func97 k97 rfl fun hb hw=>?_;unfold c97 rR;obtain⟨nm,wd,sz,md,ini⟩:=f;simp only;simp -dsimp only[aw,jV,jW,jX,jY,jZ,jA,reduceIte,reduceCtorEq,jB,jC,jD,jE,jF,jG,dfl,TX,TY];refine ae (fA nm _) ?_;cases hn:aS nm with
 | false=>
  rw[if_pos rfl];simp -dsimp only[aw,jV,jW,jX,jY,jZ,jA,reduceIte,reduceCtorEq,jB,jC,jD,jE,jF,jG];first|exact av hb rfl rfl|exact au hb rfl rfl
 | true=>
 rw[if_neg (show ¬(true=false)by simp)];by_cases a1:wd<1
 .rw[if_pos (.inl a1)];simp -dsimp only[aw,jV,jW,jX,jY,jZ,jA,reduceIte,reduceCtorEq,jB,jC,jD,jE,jF,jG,decide_eq_true a1];first|exact av hb rfl rfl|exact au hb rfl rfl
 by_cases a2:8<wd
 .rw[if_pos (.inr (.inl a2))];simp -dsimp only[aw,jV,jW,jX,jY,jZ,jA,reduceIte,reduceCtorEq,jB,jC,jD,jE,jF,jG,decide_eq_false a1,decide_eq_true a2];first|exact av hb rfl rfl|exact au hb rfl rfl
 by_cases a3:sz<0
 .rw[if_pos (.inr (.inr (.inl a3)))];simp -dsimp only[aw,jV,jW,jX,jY,jZ,jA,reduceIte,reduceCtorEq,jB,jC,jD,jE,jF,jG,decide_eq_false a1,decide_eq_false a2,decide_eq_true a3];first|exact av hb rfl rfl|exact au hb rfl rfl
 by_cases a4:8<sz
 .rw[if_pos (.inr (.inr (.inr a4)))];simp -dsimp only[aw,jV,jW,jX,jY,jZ,jA,reduceIte,reduceCtorEq,jB,jC,jD,jE,jF,jG,decide_eq_false a1,decide_eq_false a2,decide_eq_false a3,decide_eq_true a4];first|exact av hb rfl rfl|exact au hb rfl rfl
 rw[if_neg (by omega)];obtain⟨q1,q2,q3⟩:=A6 (n:=wd) (by omega) (by omega);have q4:IntKind.i64.wrap ((2:Int)^wd.toNat-1)=2^wd.toNat-1:=ba (by omega) (by omega);generalize (2:Int)^wd.toNat=top at *;by_cases m0:md=0
 .subst m0;rw[if_neg (show ¬((0:Int)≠0/\(0:Int)≠1/\(0:Int)≠2)by omega),if_neg (show ¬(sz≠0/\(0:Int)=2)by omega),if_pos (rfl:(0:Int)=0)];by_cases i1:ini<0
  .rw[if_pos (.inl i1)];cases hz:decide (sz=0)
   all_goals
    simp -dsimp only[aw,jV,jW,jX,jY,jZ,jA,reduceIte,reduceCtorEq,jB,jC,jD,jE,jF,jG,decide_eq_false a1,decide_eq_false a2,decide_eq_false a3,decide_eq_false a4,decide_true,decide_false,TV,hz,q1,q4,decide_eq_true i1];first|exact av hb rfl rfl|exact au hb rfl rfl
  .by_cases i2:top-1<ini
   .rw[if_pos (.inr i2)];cases hz:decide (sz=0)
    all_goals
     simp -dsimp only[aw,jV,jW,jX,jY,jZ,jA,reduceIte,reduceCtorEq,jB,jC,jD,jE,jF,jG,decide_eq_false a1,decide_eq_false a2,decide_eq_false a3,decide_eq_false a4,decide_true,decide_false,TV,hz,q1,q4,decide_eq_false i1,decide_eq_true i2];first|exact av hb rfl rfl|exact au hb rfl rfl
   .rw[if_neg (by omega)];cases hz:decide (sz=0)
    all_goals
     simp -dsimp only[aw,jV,jW,jX,jY,jZ,jA,reduceIte,reduceCtorEq,jB,jC,jD,jE,jF,jG,decide_eq_false a1,decide_eq_false a2,decide_eq_false a3,decide_eq_false a4,decide_true,decide_false,TV,hz,q1,q4,decide_eq_false i1,decide_eq_false i2];first|exact av hb rfl rfl|exact au hb rfl rfl
 .by_cases m1:md=1
  .subst m1;rw[if_neg (show ¬((1:Int)≠0/\(1:Int)≠1/\(1:Int)≠2)by omega),if_neg (show ¬(sz≠0/\(1:Int)=2)by omega),if_neg (show ¬(1:Int)=0 by omega)];by_cases i1:ini<0
   .rw[if_pos (.inl i1)];cases hz:decide (sz=0)
    all_goals
     simp -dsimp only[aw,jV,jW,jX,jY,jZ,jA,reduceIte,reduceCtorEq,jB,jC,jD,jE,jF,jG,decide_eq_false a1,decide_eq_false a2,decide_eq_false a3,decide_eq_false a4,decide_true,decide_false,TV,hz,decide_eq_true i1];first|exact av hb rfl rfl|exact au hb rfl rfl
   .by_cases i2:0<ini
    .rw[if_pos (.inr i2)];cases hz:decide (sz=0)
     all_goals
      simp -dsimp only[aw,jV,jW,jX,jY,jZ,jA,reduceIte,reduceCtorEq,jB,jC,jD,jE,jF,jG,decide_eq_false a1,decide_eq_false a2,decide_eq_false a3,decide_eq_false a4,decide_true,decide_false,TV,hz,decide_eq_false i1,decide_eq_true i2];first|exact av hb rfl rfl|exact au hb rfl rfl
    .rw[if_neg (by omega)];cases hz:decide (sz=0)
     all_goals
      simp -dsimp only[aw,jV,jW,jX,jY,jZ,jA,reduceIte,reduceCtorEq,jB,jC,jD,jE,jF,jG,decide_eq_false a1,decide_eq_false a2,decide_eq_false a3,decide_eq_false a4,decide_true,decide_false,TV,hz,decide_eq_false i1,decide_eq_false i2];first|exact av hb rfl rfl|exact au hb rfl rfl
  .by_cases m2:md=2
   .subst m2;rw[if_neg (show ¬((2:Int)≠0/\(2:Int)≠1/\(2:Int)≠2)by omega)];by_cases z:sz=0
    .rw[if_neg (show ¬(sz≠0/\(2:Int)=2)by omega),if_neg (show ¬(2:Int)=0 by omega)];by_cases i1:ini<0
     .rw[if_pos (.inl i1)];simp -dsimp only[aw,jV,jW,jX,jY,jZ,jA,reduceIte,reduceCtorEq,jB,jC,jD,jE,jF,jG,decide_eq_false a1,decide_eq_false a2,decide_eq_false a3,decide_eq_false a4,decide_true,decide_false,TV,decide_eq_true z,decide_eq_true i1];first|exact av hb rfl rfl|exact au hb rfl rfl
     .by_cases i2:0<ini
      .rw[if_pos (.inr i2)];simp -dsimp only[aw,jV,jW,jX,jY,jZ,jA,reduceIte,reduceCtorEq,jB,jC,jD,jE,jF,jG,decide_eq_false a1,decide_eq_false a2,decide_eq_false a3,decide_eq_false a4,decide_true,decide_false,TV,decide_eq_true z,decide_eq_false i1,decide_eq_true i2];first|exact av hb rfl rfl|exact au hb rfl rfl
      .rw[if_neg (by omega)];simp -dsimp only[aw,jV,jW,jX,jY,jZ,jA,reduceIte,reduceCtorEq,jB,jC,jD,jE,jF,jG,decide_eq_false a1,decide_eq_false a2,decide_eq_false a3,decide_eq_false a4,decide_true,decide_false,TV,decide_eq_true z,decide_eq_false i1,decide_eq_false i2];first|exact av hb rfl rfl|exact au hb rfl rfl
    .rw[if_pos ⟨z,rfl⟩];simp -dsimp only[aw,jV,jW,jX,jY,jZ,jA,reduceIte,reduceCtorEq,jB,jC,jD,jE,jF,jG,decide_eq_false a1,decide_eq_false a2,decide_eq_false a3,decide_eq_false a4,decide_true,decide_false,TV,decide_eq_false z];first|exact av hb rfl rfl|exact au hb rfl rfl
   .rw[if_pos ⟨m0,m1,m2⟩];simp -dsimp only[aw,jV,jW,jX,jY,jZ,jA,reduceIte,reduceCtorEq,jB,jC,jD,jE,jF,jG,decide_eq_false a1,decide_eq_false a2,decide_eq_false a3,decide_eq_false a4,decide_true,decide_false,TV,decide_eq_false m0,decide_eq_false m1,decide_eq_false m2];first|exact av hb rfl rfl|exact au hb rfl rfl
theorem ua(f:Fl)(σ:LLV):Fun G 101 [.agg ((dfl f).map V.d)] σ (aP (.d (ab f.name)) σ):=by
 refine ai Tryz.func101 Rt rfl fun hb hw=>?_;unfold Qz;simp -dsimp only[aw,jV,jW,jX,jY,jZ,jA,reduceIte,reduceCtorEq,jB,jC,jD,jE,jF,jG,dfl,TX,TY];first|exact av hb rfl rfl|exact au hb rfl rfl
theorem ui(b:Bk)(σ:LLV):Fun G 103 [.agg ((dbk b).map V.d)] σ (aP (.d (ab b.1)) σ):=by
 refine ai Tryz.func103 Tb rfl fun hb hw=>?_;unfold PV;simp -dsimp only[aw,jV,jW,jX,jY,jZ,jA,reduceIte,reduceCtorEq,jB,jC,jD,jE,jF,jG,dbk,TX,TY];first|exact av hb rfl rfl|exact au hb rfl rfl
theorem GG{L:List ByteArray}(h:∀a b,a<b->b<L.length->L[a]? ≠ L[b]?):L.Nodup:=List.pairwise_iff_getElem.2 fun i j hi hj hij e=>h i j hij hj (by rw[TW hi,TW hj,e])
theorem Bw{L:List ByteArray}{a b:Nat}(h:a<b)(hb:b<L.length)(e:L[a]? = L[b]?):¬L.Nodup:=fun hn=>List.pairwise_iff_getElem.1 hn a b (by omega) hb h (by
 rw[TW (show a<L.length by omega),TW hb]at e;exact Option.some.inj e)
theorem IB(l:List Fl)(hl:l.length≤1200000)(σ:LLV):Fun G 100 [.d (.sl (l.map dfl)),.fn 101 []] σ (aP (ak (decide (¬(l.map Fl.name).Nodup))) σ):=by
 refine ai Tryz.func100 Tf rfl fun hb hw=>?_;unfold Qs;simp -dsimp only[aw,jV,jW,jX,jY,jZ,jA,reduceIte,reduceCtorEq,jB,jC,jD,jE,jF,jG,TZ];refine aN [0,1,8,9] (fun(j:Nat) ρ σ'=>ρ=[(0,.d (.sl (l.map dfl))),(1,.fn 101 []),(8,aB .i64 l.length),(9,aB .i64 j)]/\σ'=σ/\∀a b,a<b->b<j->(l.map Fl.name)[a]? ≠ (l.map Fl.name)[b]?) l.length ⟨rfl,rfl,fun a b _ h=>by omega⟩ ?_ _;rintro j ρ' σ' hj ⟨rfl,rfl,hN⟩;by_cases hlt:j<l.length
 .have wj:=aH hlt (show l.length≤9223372036854775807 by omega);simp -dsimp only[aw,jV,jW,jX,jY,jZ,jA,reduceIte,reduceCtorEq,jB,jC,jD,jE,jF,jG,TU,hlt,decide_true];refine aN [0,1,5,8,9,12,13] (fun(m:Nat) ρ σ2=>ρ=[(0,.d (.sl (l.map dfl))),(1,.fn 101 []),(5,aB .i64 j),(8,aB .i64 l.length),(9,aB .i64 j),(12,aB .i64 j),(13,aB .i64 m)]/\σ2=σ'/\∀a,a<m->(l.map Fl.name)[a]? ≠ (l.map Fl.name)[j]?) j ⟨rfl,rfl,fun a h=>by omega⟩ ?_ _;rintro m ρ' σ2 hm ⟨rfl,rfl,hM⟩;by_cases hlm:m<j
  .have wm:=aH hlm (show j≤9223372036854775807 by omega);have hml:m<l.length:=by omega
   have e1:(l.map dfl)[j]? = some (dfl l[j]):=by rw[T0,TW hlt];rfl
   have e2:(l.map dfl)[m]? = some (dfl l[m]):=by rw[T0,TW hml];rfl
   have n1:(l.map Fl.name)[j]? = some l[j].name:=by rw[T0,TW hlt];rfl
   have n2:(l.map Fl.name)[m]? = some l[m].name:=by rw[T0,TW hml];rfl
   have d1:∀f:Fl,dfl f=[ab f.name,ac f.width,ac f.size,ac f.mode,ac f.init]:=fun _=>rfl;have f1:=ua l[j];have f2:=ua l[m];simp only[d1,TX,TY]at f1 f2;simp -dsimp only[aw,jV,jW,jX,jY,jZ,jA,reduceIte,reduceCtorEq,jB,jC,jD,jE,jF,jG,TU,hlm,decide_true,e1,e2,d1,TX,TY];refine aA (f1 _) ?_;simp -dsimp only[aw,jV,jW,jX,jY,jZ,jA,reduceIte,reduceCtorEq,jB,jC,jD,jE,jF,jG,e1,e2,d1,TX,TY];refine aA (f2 _) ?_;by_cases hq:l[j].name=l[m].name
   .have hd:decide (¬(l.map Fl.name).Nodup)=true:=decide_eq_true (Bw hlm (by rw[TZ];exact hlt) (by rw[n1,n2,hq]));rw[hd];simp -dsimp only[aw,jV,jW,jX,jY,jZ,jA,reduceIte,reduceCtorEq,jB,jC,jD,jE,jF,jG,hq,decide_true];first|exact av hb rfl rfl|exact au hb rfl rfl
   .simp -dsimp only[aw,jV,jW,jX,jY,jZ,jA,reduceIte,reduceCtorEq,jB,jC,jD,jE,jF,jG,decide_eq_false hq,wm]
    exact⟨hlm,Nxt.same (Ub _) hb (by simp[aq,V.under,V.unders]) ⟨rfl,rfl,fun a ha=>by
     by_cases e:a=m
     .subst e;rw[n1,n2];exact fun h=>hq (Option.some.inj h).symm
     .exact hM a (by omega)⟩⟩
  .simp -dsimp only[aw,jV,jW,jX,jY,jZ,jA,reduceIte,reduceCtorEq,jB,jC,jD,jE,jF,jG,TU,hlm,decide_false,wj]
   exact⟨hlt,Nxt.same (Ub _) hb (by simp[aq,V.under,V.unders]) ⟨rfl,rfl,fun a b hab hbj=>by
    by_cases e:b=j
    .subst e;exact hM a (by omega)
    .exact hN a b hab (by omega)⟩⟩
 .have hd:decide (¬(l.map Fl.name).Nodup)=false:=decide_eq_false (fun h=>h (GG fun a b hab hbl=>hN a b hab (by rw[TZ]at hbl;omega)));rw[hd];simp -dsimp only[aw,jV,jW,jX,jY,jZ,jA,reduceIte,reduceCtorEq,jB,jC,jD,jE,jF,jG,TU,hlt,decide_false];first|exact av hb rfl rfl|exact au hb rfl rfl
theorem E0(l:List Bk)(hl:l.length≤1200000)(σ:LLV):Fun G 102 [.d (.sl (l.map dbk)),.fn 103 []] σ (aP (ak (decide (¬(l.map Ud).Nodup))) σ):=by
 refine ai Tryz.func102 RD rfl fun hb hw=>?_;unfold Nw;simp -dsimp only[aw,jV,jW,jX,jY,jZ,jA,reduceIte,reduceCtorEq,jB,jC,jD,jE,jF,jG,TZ];refine aN [0,1,8,9] (fun(j:Nat) ρ σ'=>ρ=[(0,.d (.sl (l.map dbk))),(1,.fn 103 []),(8,aB .i64 l.length),(9,aB .i64 j)]/\σ'=σ/\∀a b,a<b->b<j->(l.map Ud)[a]? ≠ (l.map Ud)[b]?) l.length ⟨rfl,rfl,fun a b _ h=>by omega⟩ ?_ _;rintro j ρ' σ' hj ⟨rfl,rfl,hN⟩;by_cases hlt:j<l.length
 .have wj:=aH hlt (show l.length≤9223372036854775807 by omega);simp -dsimp only[aw,jV,jW,jX,jY,jZ,jA,reduceIte,reduceCtorEq,jB,jC,jD,jE,jF,jG,TU,hlt,decide_true];refine aN [0,1,5,8,9,12,13] (fun(m:Nat) ρ σ2=>ρ=[(0,.d (.sl (l.map dbk))),(1,.fn 103 []),(5,aB .i64 j),(8,aB .i64 l.length),(9,aB .i64 j),(12,aB .i64 j),(13,aB .i64 m)]/\σ2=σ'/\∀a,a<m->(l.map Ud)[a]? ≠ (l.map Ud)[j]?) j ⟨rfl,rfl,fun a h=>by omega⟩ ?_ _;rintro m ρ' σ2 hm ⟨rfl,rfl,hM⟩;by_cases hlm:m<j
  .have wm:=aH hlm (show j≤9223372036854775807 by omega);have hml:m<l.length:=by omega
   have e1:(l.map dbk)[j]? = some (dbk l[j]):=by rw[T0,TW hlt];rfl
   have e2:(l.map dbk)[m]? = some (dbk l[m]):=by rw[T0,TW hml];rfl
   have n1:(l.map Ud)[j]? = some l[j].1:=by rw[T0,TW hlt];rfl
   have n2:(l.map Ud)[m]? = some l[m].1:=by rw[T0,TW hml];rfl
   have d1:∀b:Bk,dbk b=[ab b.1,fF b.2]:=fun _=>rfl;have f1:=ui l[j];have f2:=ui l[m];simp only[d1,TX,TY]at f1 f2;simp -dsimp only[aw,jV,jW,jX,jY,jZ,jA,reduceIte,reduceCtorEq,jB,jC,jD,jE,jF,jG,TU,hlm,decide_true,e1,e2,d1,TX,TY];refine aA (f1 _) ?_;simp -dsimp only[aw,jV,jW,jX,jY,jZ,jA,reduceIte,reduceCtorEq,jB,jC,jD,jE,jF,jG,e1,e2,d1,TX,TY];refine aA (f2 _) ?_;by_cases hq:l[j].1=l[m].1
   .have hd:decide (¬(l.map Ud).Nodup)=true:=decide_eq_true (Bw hlm (by rw[TZ];exact hlt) (by rw[n1,n2,hq]));rw[hd];simp -dsimp only[aw,jV,jW,jX,jY,jZ,jA,reduceIte,reduceCtorEq,jB,jC,jD,jE,jF,jG,hq,decide_true];first|exact av hb rfl rfl|exact au hb rfl rfl
   .simp -dsimp only[aw,jV,jW,jX,jY,jZ,jA,reduceIte,reduceCtorEq,jB,jC,jD,jE,jF,jG,decide_eq_false hq,wm]
    exact⟨hlm,Nxt.same (Ub _) hb (by simp[aq,V.under,V.unders]) ⟨rfl,rfl,fun a ha=>by
     by_cases e:a=m
     .subst e;rw[n1,n2];exact fun h=>hq (Option.some.inj h).symm
     .exact hM a (by omega)⟩⟩
  .simp -dsimp only[aw,jV,jW,jX,jY,jZ,jA,reduceIte,reduceCtorEq,jB,jC,jD,jE,jF,jG,TU,hlm,decide_false,wj]
   exact⟨hlt,Nxt.same (Ub _) hb (by simp[aq,V.under,V.unders]) ⟨rfl,rfl,fun a b hab hbj=>by
    by_cases e:b=j
    .subst e;exact hM a (by omega)
    .exact hN a b hab (by omega)⟩⟩
 .have hd:decide (¬(l.map Ud).Nodup)=false:=decide_eq_false (fun h=>h (GG fun a b hab hbl=>hN a b hab (by rw[TZ]at hbl;omega)));rw[hd];simp -dsimp only[aw,jV,jW,jX,jY,jZ,jA,reduceIte,reduceCtorEq,jB,jC,jD,jE,jF,jG,TU,hlt,decide_false];first|exact av hb rfl rfl|exact au hb rfl rfl
theorem II(b:Bk)(σ:LLV):Fun G 99 [.agg ((dbk b).map V.d)] σ (aP (ak (!aS b.1)) σ):=by
 refine ai Tryz.func99 k99 rfl fun hb hw=>?_;unfold c99;simp -dsimp only[aw,jV,jW,jX,jY,jZ,jA,reduceIte,reduceCtorEq,jB,jC,jD,jE,jF,jG,dbk,TX,TY];refine ae (fA b.1 _) ?_;simp -dsimp only[aw,jV,jW,jX,jY,jZ,jA,reduceIte,reduceCtorEq,jB,jC,jD,jE,jF,jG];first|exact av hb rfl rfl|exact au hb rfl rfl
theorem KU(l:List Bk)(hl:l.length≤1200000)(σ:LLV):Fun G 148 [.d (.sl (l.map dbk)),.fn 99 []] σ (aP (.d (ac (rg l 0))) σ):=by
 refine ai Tryz.func148 RB rfl fun hb hw=>?_;unfold QE;simp -dsimp only[aw,jV,jW,jX,jY,jZ,jA,reduceIte,reduceCtorEq,jB,jC,jD,jE,jF,jG,TZ];refine aN [0,1,7,8] (fun(j:Nat) ρ σ'=>ρ=[(0,.d (.sl (l.map dbk))),(1,.fn 99 []),(7,aB .i64 l.length),(8,aB .i64 j)]/\σ'=σ/\rg l 0=rg (l.drop j) j) l.length ⟨rfl,rfl,rfl⟩ ?_ _;rintro j ρ' σ' hj ⟨rfl,rfl,hI⟩;by_cases hlt:j<l.length
 .have wj:=aH hlt (show l.length≤9223372036854775807 by omega);have e1:(l.map dbk)[j]? = some (dbk l[j]):=by rw[T0,TW hlt];rfl
  have d1:∀b:Bk,dbk b=[ab b.1,fF b.2]:=fun _=>rfl;have f1:=II l[j];simp only[d1,TX,TY]at f1;rw[T7 hlt,rg]at hI;rw[hI];simp -dsimp only[aw,jV,jW,jX,jY,jZ,jA,reduceIte,reduceCtorEq,jB,jC,jD,jE,jF,jG,TU,hlt,decide_true,e1,d1,TX,TY];refine ae (f1 _) ?_;cases hn:aS l[j].1 with
  | false=>
   rw[if_pos rfl];simp -dsimp only[aw,jV,jW,jX,jY,jZ,jA,reduceIte,reduceCtorEq,jB,jC,jD,jE,jF,jG];first|exact av hb rfl rfl|exact au hb rfl rfl
  | true=>
   rw[if_neg (show ¬(true=false)by simp)];rw[hn,if_neg (show ¬(true=false)by simp)]at hI;simp -dsimp only[aw,jV,jW,jX,jY,jZ,jA,reduceIte,reduceCtorEq,jB,jC,jD,jE,jF,jG,wj];exact⟨hlt,Nxt.same (Ub _) hb (by simp[aq,V.under,V.unders]) ⟨rfl,rfl,by rw[show((j+1:Nat):Int)=(j:Int)+1 by omega]⟩⟩
 .rw[T8 (by omega),rg]at hI;rw[hI];simp -dsimp only[aw,jV,jW,jX,jY,jZ,jA,reduceIte,reduceCtorEq,jB,jC,jD,jE,jF,jG,TU,hlt,decide_false];first|exact av hb rfl rfl|exact au hb rfl rfl
theorem Il(l:List Bk)(hl:l.length≤1200000)(σ:LLV):Fun G 98 [.d (.sl (l.map dbk)),.fn 99 []] σ (aP (ak (decide (0≤rg l 0))) σ):=by
 refine ai Tryz.func98 k98 rfl fun hb hw=>?_;unfold c98;simp -dsimp only[aw,jV,jW,jX,jY,jZ,jA,reduceIte,reduceCtorEq,jB,jC,jD,jE,jF,jG];refine ae (KU l hl _) ?_;simp -dsimp only[aw,jV,jW,jX,jY,jZ,jA,reduceIte,reduceCtorEq,jB,jC,jD,jE,jF,jG];first|exact av hb rfl rfl|exact au hb rfl rfl
theorem Nxt.drp1{n0:Nat}{R:ah->LLV->Prop}{ρ:ah}{σ:LLV}{a b:List V}(hn:n0≤σ.length)(hb:aj (σ++[a]).length (σ++[a])=true)(hs:aq (σ++[a]).length ρ=true)(hR:R ρ (σ++[a])):Nxt n0 R ρ (σ++[a,b]) .mk:=by
 have e:σ++[a,b]=(σ++[a])++[b]:=by simp
 rw[e];exact Nxt.drop (by rw[T5];omega) hb hs hR
theorem Dq(l:List Fl){j:Nat}(h:j<l.length):lM (l.drop j)=if rR l[j]≠0 then rR l[j]else lM (l.drop (j+1)):=by rw[T7 h,lM]
theorem mC(c:Kl)(hf:c.flds.length≤1200000)(hbk:c.blks.length≤1200000)(σ:LLV):Fun G 45 [vkl c] σ (aP (.d (ac (pY c))) σ):=by
 refine ai Tryz.func45 k45 rfl fun hb hw=>?_;unfold c45 pY;obtain⟨nm,pr,fs,bl⟩:=c;simp only at hf hbk ⊢;simp -dsimp only[aw,jV,jW,jX,jY,jZ,jA,reduceIte,reduceCtorEq,jB,jC,jD,jE,jF,jG];refine ae (fA nm _) ?_;cases hn:aS nm with
 | false=>
  rw[if_pos (.inl rfl)];simp -dsimp only[aw,jV,jW,jX,jY,jZ,jA,reduceIte,reduceCtorEq,jB,jC,jD,jE,jF,jG];first|exact av hb rfl rfl|exact au hb rfl rfl
 | true=>
 by_cases hbad:pr≠⟨#[]⟩/\aS pr=false
 .rw[if_pos (.inr hbad)];simp -dsimp only[aw,jV,jW,jX,jY,jZ,jA,reduceIte,reduceCtorEq,jB,jC,jD,jE,jF,jG,decide_eq_false hbad.1];refine ae (fA pr _) ?_;rw[hbad.2];simp -dsimp only[aw,jV,jW,jX,jY,jZ,jA,reduceIte,reduceCtorEq,jB,jC,jD,jE,jF,jG];first|exact av hb rfl rfl|exact au hb rfl rfl
 rw[if_neg (fun h=>h.elim (fun h=>by cases h) hbad)]
 have hpar:∀{K:Prop},(pr=⟨#[]⟩->K)->(pr≠⟨#[]⟩->aS pr=true->K)->K:=fun h1 h2=>by
  by_cases hp:pr=⟨#[]⟩
  .exact h1 hp
  .refine h2 hp ?_;cases hq:aS pr with
   | true=>rfl
   | false=>exact absurd ⟨hp,hq⟩ hbad
 by_cases l1:16<fs.length
 .have d1:decide ((16:Int)<(fs.length:Nat))=true:=decide_eq_true (by omega);rw[if_pos (.inl l1)];refine hpar (fun hp=>?_) fun hp hq=>?_
  .simp -dsimp only[aw,jV,jW,jX,jY,jZ,jA,reduceIte,reduceCtorEq,jB,jC,jD,jE,jF,jG,decide_eq_true hp,d1,TZ];first|exact av hb rfl rfl|exact au hb rfl rfl
  .simp -dsimp only[aw,jV,jW,jX,jY,jZ,jA,reduceIte,reduceCtorEq,jB,jC,jD,jE,jF,jG,decide_eq_false hp];refine ae (fA pr _) ?_;rw[hq];simp -dsimp only[aw,jV,jW,jX,jY,jZ,jA,reduceIte,reduceCtorEq,jB,jC,jD,jE,jF,jG,d1,TZ];first|exact av hb rfl rfl|exact au hb rfl rfl
 have d1:decide ((16:Int)<(fs.length:Nat))=false:=decide_eq_false (by omega);by_cases l2:16<bl.length
 .have d2:decide ((16:Int)<(bl.length:Nat))=true:=decide_eq_true (by omega);rw[if_pos (.inr l2)];refine hpar (fun hp=>?_) fun hp hq=>?_
  .simp -dsimp only[aw,jV,jW,jX,jY,jZ,jA,reduceIte,reduceCtorEq,jB,jC,jD,jE,jF,jG,decide_eq_true hp,d1,d2,TZ];first|exact av hb rfl rfl|exact au hb rfl rfl
  .simp -dsimp only[aw,jV,jW,jX,jY,jZ,jA,reduceIte,reduceCtorEq,jB,jC,jD,jE,jF,jG,decide_eq_false hp];refine ae (fA pr _) ?_;rw[hq];simp -dsimp only[aw,jV,jW,jX,jY,jZ,jA,reduceIte,reduceCtorEq,jB,jC,jD,jE,jF,jG,d1,d2,TZ];first|exact av hb rfl rfl|exact au hb rfl rfl
 have d2:decide ((16:Int)<(bl.length:Nat))=false:=decide_eq_false (by omega);rw[if_neg (show ¬(16<fs.length\/16<bl.length)by omega)];refine hpar (fun hp=>?_) fun hp hq=>?_;simp -dsimp only[aw,jV,jW,jX,jY,jZ,jA,reduceIte,reduceCtorEq,jB,jC,jD,jE,jF,jG,decide_eq_true hp,d1,d2,TZ]
 rotate_left
 simp -dsimp only[aw,jV,jW,jX,jY,jZ,jA,reduceIte,reduceCtorEq,jB,jC,jD,jE,jF,jG,decide_eq_false hp];refine ae (fA pr _) ?_;rw[hq];simp -dsimp only[aw,jV,jW,jX,jY,jZ,jA,reduceIte,reduceCtorEq,jB,jC,jD,jE,jF,jG,d1,d2,TZ]
 all_goals
  refine aN [1,34,35,36] (fun(j:Nat) ρ σ'=>ρ=[(1,.ptr σ.length 0),(34,.d (.sl (fs.map dfl))),(35,aB .i64 fs.length),(36,aB .i64 j)]/\σ'=σ++[[.d (ab nm),.d (ab pr),.d (.sl (fs.map dfl)),.d (.sl (bl.map dbk))]]/\lM fs=lM (fs.drop j)) fs.length ⟨rfl,rfl,rfl⟩ ?_ _;rintro j ρ' σ' hj ⟨rfl,rfl,hI⟩;by_cases hlt:j<fs.length
  .have wj:=aH hlt (show fs.length≤9223372036854775807 by omega);have e1:(fs.map dfl)[j]? = some (dfl fs[j]):=by rw[T0,TW hlt];rfl
   have dd:∀f:Fl,dfl f=[ab f.name,ac f.width,ac f.size,ac f.mode,ac f.init]:=fun _=>rfl;have f1:=AC fs[j];simp only[dd,TX,TY]at f1;rw[Dq fs hlt]at hI;simp -dsimp only[aw,jV,jW,jX,jY,jZ,jA,reduceIte,reduceCtorEq,jB,jC,jD,jE,jF,jG,TU,hlt,decide_true,e1,dd,TX,TY];refine ae (f1 _) ?_;by_cases h0:rR fs[j]=0
   .rw[if_neg (by simp[h0])]at hI;simp -dsimp only[aw,jV,jW,jX,jY,jZ,jA,reduceIte,reduceCtorEq,jB,jC,jD,jE,jF,jG,h0,decide_true,wj];exact⟨hlt,Nxt.drp1 (by simp) (ax hb rfl) (by simp[aq,V.under]) ⟨rfl,rfl,hI⟩⟩
   .rw[if_pos h0]at hI;rw[hI,if_pos h0];simp -dsimp only[aw,jV,jW,jX,jY,jZ,jA,reduceIte,reduceCtorEq,jB,jC,jD,jE,jF,jG,decide_eq_false h0];first|exact av hb rfl rfl|exact au hb rfl rfl
  .rw[T8 (by omega),lM]at hI;rw[hI,if_neg (by simp)];simp -dsimp only[aw,jV,jW,jX,jY,jZ,jA,reduceIte,reduceCtorEq,jB,jC,jD,jE,jF,jG,TU,hlt,decide_false];refine ae (Il bl hbk _) ?_;by_cases hi0:0≤rg bl 0
   .rw[if_pos hi0];simp -dsimp only[aw,jV,jW,jX,jY,jZ,jA,reduceIte,reduceCtorEq,jB,jC,jD,jE,jF,jG,decide_eq_true hi0];first|exact av hb rfl rfl|exact au hb rfl rfl
   .rw[if_neg hi0];simp -dsimp only[aw,jV,jW,jX,jY,jZ,jA,reduceIte,reduceCtorEq,jB,jC,jD,jE,jF,jG,decide_eq_false hi0];refine ae (IB fs hf _) ?_;by_cases n1:¬(fs.map Fl.name).Nodup
    .rw[if_pos (.inl n1)];simp -dsimp only[aw,jV,jW,jX,jY,jZ,jA,reduceIte,reduceCtorEq,jB,jC,jD,jE,jF,jG,decide_eq_true n1];first|exact av hb rfl rfl|exact au hb rfl rfl
    .simp -dsimp only[aw,jV,jW,jX,jY,jZ,jA,reduceIte,reduceCtorEq,jB,jC,jD,jE,jF,jG,decide_eq_false n1];refine ae (E0 bl hbk _) ?_;by_cases n2:¬(bl.map Ud).Nodup
     .rw[if_pos (.inr n2)];simp -dsimp only[aw,jV,jW,jX,jY,jZ,jA,reduceIte,reduceCtorEq,jB,jC,jD,jE,jF,jG,decide_eq_true n2];first|exact av hb rfl rfl|exact au hb rfl rfl
     .rw[if_neg (fun h=>h.elim n1 n2)];simp -dsimp only[aw,jV,jW,jX,jY,jZ,jA,reduceIte,reduceCtorEq,jB,jC,jD,jE,jF,jG,decide_eq_false n2];first|exact av hb rfl rfl|exact au hb rfl rfl
theorem t8:∀l:List It,aF l≤1100000->nG l:=by
 refine l9 fun l ih hbig=>Aj l hbig fun x hx=>?_;have h1:=ib hx;have h2:=dI x;obtain⟨i1,i2⟩:=ih x hx;exact⟨i1 (by omega),i2 (by omega)⟩
theorem kC{l:List It}(h:cN l=0):rvl l 0=0:=by
 unfold cN at h;split at h
 .cases h
 .exact h
def fX(l:List It)(n:Int):Bs:=if cN l=0/\0≤n/\n≤32 then aZ n.toNat (lns l)else[]
theorem zj{l:List It}(n:Int)(hbig:aF l≤1100000):(fX l n).length≤1000000000:=by
 unfold fX;split
 .rename_i h;have h1:=A3 n.toNat l 0 (kC h.1);have h2:aF l*(12*n.toNat+172)≤1100000*(12*32+172):=Nat.mul_le_mul hbig (by omega);simp only[Nat.add_zero]at h1;omega
 .simp
theorem ED(x:Bs):dx none x≠some []/\(dx none x).getD []=x:=by
 unfold dx;by_cases h:x=[]
 .simp[h]
 .simp[h]
theorem yA(l:List It)(n:Int)(hbig:aF l≤1100000)(σ:LLV):Fun G 22 [.d (fF l),.d (ac n)] σ (aP (.d (ab (bs (fX l n)))) σ):=by
 have hlen:=zj n hbig;refine ai Tryz.func22 k22 rfl fun hb hw=>?_;unfold c22;simp -dsimp only[aw,jV,jW,jX,jY,jZ,jA,reduceIte,reduceCtorEq,jB,jC,jD,jE,jF,jG];refine ae (ji l hbig _) ?_;by_cases hv:cN l=0
 .by_cases h0:n<0
  .have:fX l n=[]:=by unfold fX;rw[if_neg (by omega)]
   rw[this];simp -dsimp only[aw,jV,jW,jX,jY,jZ,jA,reduceIte,reduceCtorEq,jB,jC,jD,jE,jF,jG,decide_eq_true hv,decide_eq_true h0];first|exact av hb rfl rfl|exact au hb rfl rfl
  by_cases h1:32<n
  .have:fX l n=[]:=by unfold fX;rw[if_neg (by omega)]
   rw[this];simp -dsimp only[aw,jV,jW,jX,jY,jZ,jA,reduceIte,reduceCtorEq,jB,jC,jD,jE,jF,jG,decide_eq_true hv,decide_eq_false h0,decide_eq_true h1];first|exact av hb rfl rfl|exact au hb rfl rfl
  have hT:fX l n=aZ n.toNat (lns l):=by unfold fX;rw[if_pos ⟨hv,by omega,by omega⟩]
  rw[hT]at hlen ⊢;obtain⟨m,rfl⟩:=Int.eq_ofNat_of_zero_le (show 0≤n by omega);rw[Int.toNat_natCast]at hlen ⊢;have hi:=fun S h=>t8 l hbig 0 (kC hv) σ.length none m S h (by omega) (by show 0+_≤_;omega);generalize hX:aZ m (lns l)=X at *;obtain⟨z1,z2⟩:=ED X;have hs:=fun S h=>yO σ.length (dx none X) m z1 (by rw[z2];omega) S h;rw[z2]at hs;simp -dsimp only[aw,jV,jW,jX,jY,jZ,jA,reduceIte,reduceCtorEq,jB,jC,jD,jE,jF,jG,decide_eq_true hv,decide_eq_false h0,decide_eq_false h1];refine cj (hi _ (T6 ..)) ?_;rw[T9 _ _ (Ub _),Uc];simp -dsimp only[aw,jV,jW,jX,jY,jZ,jA,reduceIte,reduceCtorEq,jB,jC,jD,jE,jF,jG];refine cj (hs _ (T6 ..)) ?_;rw[T9 _ _ (Ub _),Uc];simp -dsimp only[aw,jV,jW,jX,jY,jZ,jA,reduceIte,reduceCtorEq,jB,jC,jD,jE,jF,jG]
  exact aO hb rfl rfl List.take_left ⟨rfl,rfl⟩
 .have:fX l n=[]:=by unfold fX;rw[if_neg (fun h=>hv h.1)]
  rw[this];simp -dsimp only[aw,jV,jW,jX,jY,jZ,jA,reduceIte,reduceCtorEq,jB,jC,jD,jE,jF,jG,decide_eq_false hv];first|exact av hb rfl rfl|exact au hb rfl rfl
structure FlV(f:Fl):Prop where
 nm:aS f.name=true
 w0:1≤f.width
 w1:f.width≤8
 s0:0≤f.size
 s1:f.size≤8
 md:f.mode=0\/f.mode=1\/f.mode=2
 i0:0≤f.init
 i1:f.init≤255
 i2:f.mode≠0->f.init=0
theorem MS{f:Fl}(h:rR f=0):FlV f:=by
 unfold rR at h;by_cases h1:aS f.name=false
 .rw[if_pos h1]at h;omega
 rw[if_neg h1]at h;by_cases h2:f.width<1\/8<f.width\/f.size<0\/8<f.size
 .rw[if_pos h2]at h;omega
 rw[if_neg h2]at h;by_cases h3:f.mode≠0/\f.mode≠1/\f.mode≠2
 .rw[if_pos h3]at h;omega
 rw[if_neg h3]at h;by_cases h4:f.size≠0/\f.mode=2
 .rw[if_pos h4]at h;omega
 rw[if_neg h4]at h;by_cases h5:f.init<0\/(if f.mode=0 then 2^f.width.toNat-1 else 0)<f.init
 .rw[if_pos h5]at h;omega
 have hw:1≤f.width/\f.width≤8:=by omega
 obtain⟨-,q2,q3⟩:=A6 hw.1 hw.2;have hm:f.mode=0\/f.mode=1\/f.mode=2:=by omega
 refine⟨by cases hn:aS f.name<;>simp_all,hw.1,hw.2,by omega,by omega,hm,by omega,?_,?_⟩
 .by_cases m0:f.mode=0
  .rw[if_pos m0]at h5;omega
  .rw[if_neg m0]at h5;omega
 .intro m0;rw[if_neg m0]at h5;omega
theorem H8(m:Int):(nK m).length≤6:=by
 unfold nK;split
 .simp
 .split<;>simp
theorem FP{f:Fl}(h:FlV f):(nw f).length≤60:=by
 have h1:=H8 f.mode;have h2:=dg h.nm;have h3:=mX (n:=f.size) h.s0 (by have:=h.s1;omega);have h4:=mX (n:=f.width) (by have:=h.w0;omega) (by have:=h.w1;omega);have h5:=mX (n:=f.init) h.i0 (by have:=h.i1;omega);unfold nw bw;split<;>split<;>simp only[T5,List.length_cons,List.length_nil]<;>omega
theorem AG(i:Nat)(t:Option Bs)(k:Nat)(f:Fl)(σ:LLV)(hp:PgOk σ i t k)(hv:FlV f)(hl:(t.getD []).length+(lnT k (0,nw f)).length≤140737488355328):
 Fun G 54 [.ptr i 0,.agg ((dfl f).map V.d)] σ (fun o σ'=>o=.ret (.tup [])/\σ'=σ.set i (pgc i (dx t (lnT k (0,nw f))) k)):=by
 have hi:i<σ.length:=(List.getElem?_eq_some_iff.1 hp.at_).1;have k1:=hp.k1;have n1 : -9223372036854775808≤f.size/\f.size≤9223372036854775807:=by have:=hv.s0;have:=hv.s1;omega
 have n2 : -9223372036854775808≤f.width/\f.width≤9223372036854775807:=by have:=hv.w0;have:=hv.w1;omega
 have n3 : -9223372036854775808≤f.init/\f.init≤9223372036854775807:=by have:=hv.i0;have:=hv.i1;omega
 have f1:=fun σ=>du f.size n1.1 n1.2 σ;have f2:=fun σ=>du f.width n2.1 n2.2 σ;have f3:=fun σ=>du f.init n3.1 n3.2 σ;have l1:=gF n1.1 n1.2;have l3:=gF n3.1 n3.2;obtain⟨S,hS⟩:∃S,S=(if 0<f.size then 91::(lC f.size++[93])else[]):=⟨_,rfl⟩
 obtain⟨W,hW⟩:∃W,W=(if f.mode=0 then[32,61,32]++lC f.init else[]):=⟨_,rfl⟩
 have hF:nw f=nK f.mode++(bw f.name++(S++([32,58,32]++(lC f.width++(W++[59]))))):=by rw[hS,hW];rfl
 have fl:[bs (nK f.mode),f.name,bs S,bs [32,58,32],bs (Lib.itoa f.width),bs W,bs [59]].flatMap bw=nw f:=by rw[hF];simp[bw,bJ,lC]
 have hL:=eP i t k [bs (nK f.mode),f.name,bs S,bs [32,58,32],bs (Lib.itoa f.width),bs W,bs [59]] (by omega) (by rw[fl];exact hl) (by simp);rw[fl]at hL;have dd:dfl f=[ab f.name,ac f.width,ac f.size,ac f.mode,ac f.init]:=rfl;unfold lC at hS hW;have s1:bE .add (V.d (ab ⟨#[91]⟩)) (V.d (ab (bs (Lib.itoa f.size))))=some (V.d (ab (bs (91::Lib.itoa f.size)))):=bK [91] _ (by simp;omega);have s2:bE .add (V.d (ab (bs (91::Lib.itoa f.size)))) (V.d (ab ⟨#[93]⟩))=some (V.d (ab (bs (91::(Lib.itoa f.size++[93]))))):=bK (91::Lib.itoa f.size) [93] (by simp;omega);have s3:bE .add (V.d (ab ⟨#[32,61,32]⟩)) (V.d (ab (bs (Lib.itoa f.init))))=some (V.d (ab (bs (32::61::32::Lib.itoa f.init)))):=bK [32,61,32] _ (by simp;omega);refine ai Tryz.func54 k54 rfl fun hb hw=>?_;unfold c54
 have fin:∀ρ τ,τ=σ.set i (pgc i (dx t (lnT k (0,nw f))) k)++[[.d (ab f.name),.d (ac f.width),.d (ac f.size),.d (ac f.mode),.d (ac f.init)]]->Go.Proofs.YtnhphlmblenapaaGreatDoor.fin σ.length Nn (fun o σ'=>o=.ret (.tup [])/\σ'=σ.set i (pgc i (dx t (lnT k (0,nw f))) k)) .normal ρ τ:=fun ρ τ e=>by
  subst e;exact eT (v:=.tup []) (k:=σ.length) (Ub _) (Ua (by simp)) (gm hb (cv hi)) rfl rfl ⟨rfl,rfl⟩
 by_cases z0:0<f.size
 .rw[if_pos z0]at hS;by_cases m0:f.mode=0
  .rw[if_pos m0]at hW;have hW:W=32::61::32::Lib.itoa f.init:=hW;simp -dsimp only[aw,jV,jW,jX,jY,jZ,jA,reduceIte,reduceCtorEq,jB,jC,jD,jE,jF,jG,dd,TX,TY,decide_eq_true z0];refine ae (f1 _) ?_;simp -dsimp only[aw,jV,jW,jX,jY,jZ,jA,reduceIte,reduceCtorEq,jB,jC,jD,jE,jF,jG,s1,s2,decide_eq_true m0];refine ae (f3 _) ?_;simp -dsimp only[aw,jV,jW,jX,jY,jZ,jA,reduceIte,reduceCtorEq,jB,jC,jD,jE,jF,jG,s3];refine aA (lb f.mode _) ?_;simp -dsimp only[aw,jV,jW,jX,jY,jZ,jA,reduceIte,reduceCtorEq,jB,jC,jD,jE,jF,jG];refine aA (f2 _) ?_;simp -dsimp only[aw,jV,jW,jX,jY,jZ,jA,reduceIte,reduceCtorEq,jB,jC,jD,jE,jF,jG];rw[<-hS,<-hW];refine fm (hL _ (by rw[T3 hi];exact hp.at_)) ?_ ?_
   .simp -dsimp only[aw,jV,jW,jX,jY,jZ,jA,reduceIte,reduceCtorEq,jB,jC,jD,jE,jF,jG]
   rw[T4 _ _ hi];simp -dsimp only[aw,jV,jW,jX,jY,jZ,jA,reduceIte,reduceCtorEq,jB,jC,jD,jE,jF,jG];exact fin _ _ rfl
  .rw[if_neg m0]at hW;subst hW;simp -dsimp only[aw,jV,jW,jX,jY,jZ,jA,reduceIte,reduceCtorEq,jB,jC,jD,jE,jF,jG,dd,TX,TY,decide_eq_true z0];refine ae (f1 _) ?_;simp -dsimp only[aw,jV,jW,jX,jY,jZ,jA,reduceIte,reduceCtorEq,jB,jC,jD,jE,jF,jG,s1,s2,decide_eq_false m0];refine aA (lb f.mode _) ?_;simp -dsimp only[aw,jV,jW,jX,jY,jZ,jA,reduceIte,reduceCtorEq,jB,jC,jD,jE,jF,jG];refine aA (f2 _) ?_;simp -dsimp only[aw,jV,jW,jX,jY,jZ,jA,reduceIte,reduceCtorEq,jB,jC,jD,jE,jF,jG];rw[<-hS];refine fm (hL _ (by rw[T3 hi];exact hp.at_)) ?_ ?_
   .simp -dsimp only[aw,jV,jW,jX,jY,jZ,jA,reduceIte,reduceCtorEq,jB,jC,jD,jE,jF,jG]
   rw[T4 _ _ hi];simp -dsimp only[aw,jV,jW,jX,jY,jZ,jA,reduceIte,reduceCtorEq,jB,jC,jD,jE,jF,jG];exact fin _ _ rfl
 .rw[if_neg z0]at hS;subst hS;by_cases m0:f.mode=0
  .rw[if_pos m0]at hW;have hW:W=32::61::32::Lib.itoa f.init:=hW;simp -dsimp only[aw,jV,jW,jX,jY,jZ,jA,reduceIte,reduceCtorEq,jB,jC,jD,jE,jF,jG,dd,TX,TY,decide_eq_false z0,decide_eq_true m0];refine ae (f3 _) ?_;simp -dsimp only[aw,jV,jW,jX,jY,jZ,jA,reduceIte,reduceCtorEq,jB,jC,jD,jE,jF,jG,s3];refine aA (lb f.mode _) ?_;simp -dsimp only[aw,jV,jW,jX,jY,jZ,jA,reduceIte,reduceCtorEq,jB,jC,jD,jE,jF,jG];refine aA (f2 _) ?_;simp -dsimp only[aw,jV,jW,jX,jY,jZ,jA,reduceIte,reduceCtorEq,jB,jC,jD,jE,jF,jG];rw[<-hW];refine fm (hL _ (by rw[T3 hi];exact hp.at_)) ?_ ?_
   .simp -dsimp only[aw,jV,jW,jX,jY,jZ,jA,reduceIte,reduceCtorEq,jB,jC,jD,jE,jF,jG]
   rw[T4 _ _ hi];simp -dsimp only[aw,jV,jW,jX,jY,jZ,jA,reduceIte,reduceCtorEq,jB,jC,jD,jE,jF,jG];exact fin _ _ rfl
  .rw[if_neg m0]at hW;subst hW;simp -dsimp only[aw,jV,jW,jX,jY,jZ,jA,reduceIte,reduceCtorEq,jB,jC,jD,jE,jF,jG,dd,TX,TY,decide_eq_false z0,decide_eq_false m0];refine aA (lb f.mode _) ?_;simp -dsimp only[aw,jV,jW,jX,jY,jZ,jA,reduceIte,reduceCtorEq,jB,jC,jD,jE,jF,jG];refine aA (f2 _) ?_;simp -dsimp only[aw,jV,jW,jX,jY,jZ,jA,reduceIte,reduceCtorEq,jB,jC,jD,jE,jF,jG];refine fm (hL _ (by rw[T3 hi];exact hp.at_)) ?_ ?_
   .simp -dsimp only[aw,jV,jW,jX,jY,jZ,jA,reduceIte,reduceCtorEq,jB,jC,jD,jE,jF,jG]
   rw[T4 _ _ hi];simp -dsimp only[aw,jV,jW,jX,jY,jZ,jA,reduceIte,reduceCtorEq,jB,jC,jD,jE,jF,jG];exact fin _ _ rfl
theorem Ke(b c i:Nat)(t:Option Bs)(k:Nat)(x:Bk)(σ:LLV)(hbig:aF x.2≤1100000)(hv:rvl x.2 0=0)(hb:σ[b]? = some [.ptr i 0])(hc:σ[c]? = some [.d (ab x.1),.d (fF x.2)])(hp:σ[i]? = some (pgc i t k))(hk:k≤100)(hl:(t.getD []).length+(aZ k (lns x.2)).length≤140737488355328):
 Fun G 113 [.ptr b 0,.ptr c 0] σ (fun o σ'=>o=.ret (.tup [])/\σ'=σ.set i (pgc i (dx t (aZ k (lns x.2))) k)):=by
 have hi:i<σ.length:=(List.getElem?_eq_some_iff.1 hp).1;have h:=t8 x.2 hbig 0 hv i t k σ hp (by omega) hl;refine ai Tryz.func113 R0 rfl fun hb' hw=>?_;unfold Po;simp -dsimp only[aw,jV,jW,jX,jY,jZ,jA,reduceIte,reduceCtorEq,jB,jC,jD,jE,jF,jG,hb,hc];refine cj h ?_;simp -dsimp only[aw,jV,jW,jX,jY,jZ,jA,reduceIte,reduceCtorEq,jB,jC,jD,jE,jF,jG];exact eT (v:=.tup []) (k:=σ.length) (Ub _) (List.take_of_length_le (by simp)) (gm hb' (cv hi)) rfl rfl ⟨rfl,rfl⟩
theorem Al(i:Nat)(t:Option Bs)(k:Nat)(x:Bk)(σ:LLV)(hbig:aF x.2≤1100000)(hp:PgOk σ i t k)(hd:k≤99)(hv:rvl x.2 0=0)(hl:(t.getD []).length+(aZ k (gw x)).length≤140737488355328):
 Fun G 55 [.ptr i 0,.agg ((dbk x).map V.d)] σ (fun o σ'=>o=.ret (.tup [])/\σ'=σ.set i (pgc i (dx t (aZ k (gw x))) k)):=by
 have hlns:gw x=(0,[99,111,110,115,116,114,97,105,110,116,32]++(bw x.1++[32,123]))::(upL (lns x.2)++[(0,[125])]):=rfl;rw[hlns,aM,bj,ed,aM,cd,List.append_nil]at hl ⊢;simp only[T5]at hl;have hi:i<σ.length:=(List.getElem?_eq_some_iff.1 hp.at_).1;have k1:=hp.k1;have fl:[bs [99,111,110,115,116,114,97,105,110,116,32],x.1,bs [32,123]].flatMap bw=[99,111,110,115,116,114,97,105,110,116,32]++(bw x.1++[32,123]):=by simp[bw,bJ]
 generalize hH:(0,[99,111,110,115,116,114,97,105,110,116,32]++(bw x.1++[32,123]))=H at hl ⊢;obtain⟨u,hu,hul⟩:=pO t k H;have hL1:=eP i t k [bs [99,111,110,115,116,114,97,105,110,116,32],x.1,bs [32,123]] (by omega) (by rw[fl,hH];omega) (by simp);rw[fl,hH,hu]at hL1;have hL3:=eP i (some (u++aZ (k+1) (lns x.2))) k [bs [125]] (by omega) (by rw[f125,Option.getD_some,T5];omega) (by simp);have dd:dbk x=[ab x.1,fF x.2]:=rfl;refine ai Tryz.func55 k55 rfl fun hb hw=>?_;unfold c55;simp -dsimp only[aw,jV,jW,jX,jY,jZ,jA,reduceIte,reduceCtorEq,jB,jC,jD,jE,jF,jG,dd,TX,TY];refine cj (hL1 _ (by rw[T3 hi];exact hp.at_)) ?_;rw[T4 _ _ hi];simp -dsimp only[aw,jV,jW,jX,jY,jZ,jA,reduceIte,reduceCtorEq,jB,jC,jD,jE,jF,jG,bT,bi]
 refine cj (fp i u (u++aZ (k+1) (lns x.2)) k (by omega) _ _ _ (bU σ _ i _ hi) ?_) ?_
 .rw[aT _ _ _ _ _ hi,aT _ _ _ _ _ hi];have:=Ke σ.length (σ.length+1) i (some u) (k+1) x (σ.set i (pgc i (some u) ((k+1:Nat):Int))++[[.ptr i 0],[.d (ab x.1),.d (fF x.2)]]) hbig hv (bi ..) (bT ..) (bU σ _ i _ hi) (by omega) (by rw[Option.getD_some];omega);rw[aT _ _ _ _ _ hi]at this;exact this
 rw[aT _ _ _ _ _ hi];simp -dsimp only[aw,jV,jW,jX,jY,jZ,jA,reduceIte,reduceCtorEq,jB,jC,jD,jE,jF,jG,bT,bi];refine cj (hL3 _ (bU σ _ i _ hi)) ?_;rw[aT _ _ _ _ _ hi];simp -dsimp only[aw,jV,jW,jX,jY,jZ,jA,reduceIte,reduceCtorEq,jB,jC,jD,jE,jF,jG];refine eT (v:=.tup []) (k:=σ.length) (Ub _) (Ua (by simp)) (gm hb (cv hi)) rfl rfl ⟨rfl,?_⟩;rw[<-iB,<-iB,hu,f125];rfl
end Go.Proofs.YtnhphlmblenapaaGreatDoor
