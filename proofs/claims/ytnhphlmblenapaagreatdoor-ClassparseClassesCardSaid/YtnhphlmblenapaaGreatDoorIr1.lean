import Derived.Test.YtnhphlmblenapaaGreatDoorIw4
set_option linter.unusedVariables false
set_option linter.unusedSimpArgs false
set_option linter.unusedSectionVars false
set_option maxHeartbeats 8000000
open Bool renaming true_and->TJ,false_and->TK
open Int renaming reduceEq->TL,ofNat_lt->TM
open List renaming length_map->TN,getElem?_eq_getElem->TO,map_cons->TP,getElem?_map->TQ,map_nil->TR,drop_eq_nil_of_le->TS,drop_eq_getElem_cons->TT,take_length->TU,all_nil->TV
open Nat renaming le_refl->TW
open Prod renaming fst->TX
namespace Go.Proofs.YtnhphlmblenapaaGreatDoor
open Go.RowKit
def dfl(f:Fl):List D:=[ai f.name,ab f.width,ab f.size,ab f.mode,ab f.init]
abbrev Bk:=ByteArray×List It
def dbk(b:Bk):List D:=[ai b.1,gZ b.2]
abbrev vkl(c:Kl):V:=.agg [.d (ai c.name),.d (ai c.par),.d (.sl (c.flds.map dfl)),.d (.sl (c.blks.map dbk))]
def r9(f:Fl):Int:=
 if bC f.name=false then 7 else if f.width<1\/8<f.width\/f.size<0\/8<f.size then 1 else if f.mode≠0/\f.mode≠1/\f.mode≠2 then 1 else if f.size≠0/\f.mode=2 then 1
 else if f.init<0\/(if f.mode=0 then 2^f.width.toNat-1 else 0)<f.init then 1 else 0
def jU:List Fl->Int
 | []=>0
 | f::r=>if r9 f≠0 then r9 f else jU r
def mL:List Bk->Int->Int
 | [],_=>-1
 | b::r,k=>if bC b.1=false then k else mL r (k+1)
def uL(c:Kl):Int:=
 if bC c.name=false\/(c.par≠⟨#[]⟩/\bC c.par=false)then 7 else if 16<c.flds.length\/16<c.blks.length then 2 else if jU c.flds≠0 then jU c.flds
 else if 0≤mL c.blks 0 then 7 else if ¬(c.flds.map Fl.name).Nodup\/¬(c.blks.map TX).Nodup then 8 else 0
theorem Au{n:Int}(h0:1≤n)(h1:n≤8):cd .shl (.d (.lit (.int .i64 1))) (.d (ab n))=some (.d (ab (2^n.toNat)))/\(2:Int)^n.toNat≤256/\(1:Int)≤2^n.toNat:=by
 have hn:n=1\/n=2\/n=3\/n=4\/n=5\/n=6\/n=7\/n=8:=by omega
 rcases hn with rfl|rfl|rfl|rfl|rfl|rfl|rfl|rfl<;>exact⟨by rw[EH];rfl,by decide,by decide⟩
theorem zx(f:Fl)(σ:LLV):Fun G 97 [.agg ((dfl f).map V.d)] σ (aN (.d (ab (r9 f))) σ):=by
 refine ae Tryz.func97 k97 rfl fun hb hw=>?_;unfold c97 r9;obtain⟨nm,wd,sz,md,ini⟩:=f;simp only;simp -dsimp only[aw,seval,dfl,TP,TR];refine ac (eH nm _) ?_;cases hn:bC nm with
 | false=>
  rw[if_pos rfl];simp -dsimp only[aw,seval];exact ak hb rfl rfl
 | true=>
 rw[if_neg (show ¬(true=false)by simp)];by_cases a1:wd<1
 .rw[if_pos (.inl a1)];simp -dsimp only[aw,seval,decide_eq_true a1];exact ak hb rfl rfl
 by_cases a2:8<wd
 .rw[if_pos (.inr (.inl a2))];simp -dsimp only[aw,seval,decide_eq_false a1,decide_eq_true a2];exact ak hb rfl rfl
 by_cases a3:sz<0
 .rw[if_pos (.inr (.inr (.inl a3)))];simp -dsimp only[aw,seval,decide_eq_false a1,decide_eq_false a2,decide_eq_true a3];exact ak hb rfl rfl
 by_cases a4:8<sz
 .rw[if_pos (.inr (.inr (.inr a4)))];simp -dsimp only[aw,seval,decide_eq_false a1,decide_eq_false a2,decide_eq_false a3,decide_eq_true a4];exact ak hb rfl rfl
 rw[if_neg (by omega)];obtain⟨q1,q2,q3⟩:=Au (n:=wd) (by omega) (by omega);have q4:IntKind.i64.wrap ((2:Int)^wd.toNat-1)=2^wd.toNat-1:=aA (by omega) (by omega);generalize (2:Int)^wd.toNat=top at *;by_cases m0:md=0
 .subst m0;rw[if_neg (show ¬((0:Int)≠0/\(0:Int)≠1/\(0:Int)≠2)by omega),if_neg (show ¬(sz≠0/\(0:Int)=2)by omega),if_pos (rfl:(0:Int)=0)];by_cases i1:ini<0
  .rw[if_pos (.inl i1)];cases hz:decide (sz=0)
   all_goals
    simp -dsimp only[aw,seval,decide_eq_false a1,decide_eq_false a2,decide_eq_false a3,decide_eq_false a4,decide_true,decide_false,TL,hz,q1,q4,decide_eq_true i1];exact ak hb rfl rfl
  .by_cases i2:top-1<ini
   .rw[if_pos (.inr i2)];cases hz:decide (sz=0)
    all_goals
     simp -dsimp only[aw,seval,decide_eq_false a1,decide_eq_false a2,decide_eq_false a3,decide_eq_false a4,decide_true,decide_false,TL,hz,q1,q4,decide_eq_false i1,decide_eq_true i2];exact ak hb rfl rfl
   .rw[if_neg (by omega)];cases hz:decide (sz=0)
    all_goals
     simp -dsimp only[aw,seval,decide_eq_false a1,decide_eq_false a2,decide_eq_false a3,decide_eq_false a4,decide_true,decide_false,TL,hz,q1,q4,decide_eq_false i1,decide_eq_false i2];exact ak hb rfl rfl
 .by_cases m1:md=1
  .subst m1;rw[if_neg (show ¬((1:Int)≠0/\(1:Int)≠1/\(1:Int)≠2)by omega),if_neg (show ¬(sz≠0/\(1:Int)=2)by omega),if_neg (show ¬(1:Int)=0 by omega)];by_cases i1:ini<0
   .rw[if_pos (.inl i1)];cases hz:decide (sz=0)
    all_goals
     simp -dsimp only[aw,seval,decide_eq_false a1,decide_eq_false a2,decide_eq_false a3,decide_eq_false a4,decide_true,decide_false,TL,hz,decide_eq_true i1];exact ak hb rfl rfl
   .by_cases i2:0<ini
    .rw[if_pos (.inr i2)];cases hz:decide (sz=0)
     all_goals
      simp -dsimp only[aw,seval,decide_eq_false a1,decide_eq_false a2,decide_eq_false a3,decide_eq_false a4,decide_true,decide_false,TL,hz,decide_eq_false i1,decide_eq_true i2];exact ak hb rfl rfl
    .rw[if_neg (by omega)];cases hz:decide (sz=0)
     all_goals
      simp -dsimp only[aw,seval,decide_eq_false a1,decide_eq_false a2,decide_eq_false a3,decide_eq_false a4,decide_true,decide_false,TL,hz,decide_eq_false i1,decide_eq_false i2];exact ak hb rfl rfl
  .by_cases m2:md=2
   .subst m2;rw[if_neg (show ¬((2:Int)≠0/\(2:Int)≠1/\(2:Int)≠2)by omega)];by_cases z:sz=0
    .rw[if_neg (show ¬(sz≠0/\(2:Int)=2)by omega),if_neg (show ¬(2:Int)=0 by omega)];by_cases i1:ini<0
     .rw[if_pos (.inl i1)];simp -dsimp only[aw,seval,decide_eq_false a1,decide_eq_false a2,decide_eq_false a3,decide_eq_false a4,decide_true,decide_false,TL,decide_eq_true z,decide_eq_true i1];exact ak hb rfl rfl
     .by_cases i2:0<ini
      .rw[if_pos (.inr i2)];simp -dsimp only[aw,seval,decide_eq_false a1,decide_eq_false a2,decide_eq_false a3,decide_eq_false a4,decide_true,decide_false,TL,decide_eq_true z,decide_eq_false i1,decide_eq_true i2];exact ak hb rfl rfl
      .rw[if_neg (by omega)];simp -dsimp only[aw,seval,decide_eq_false a1,decide_eq_false a2,decide_eq_false a3,decide_eq_false a4,decide_true,decide_false,TL,decide_eq_true z,decide_eq_false i1,decide_eq_false i2];exact ak hb rfl rfl
    .rw[if_pos ⟨z,rfl⟩];simp -dsimp only[aw,seval,decide_eq_false a1,decide_eq_false a2,decide_eq_false a3,decide_eq_false a4,decide_true,decide_false,TL,decide_eq_false z];exact ak hb rfl rfl
   .rw[if_pos ⟨m0,m1,m2⟩];simp -dsimp only[aw,seval,decide_eq_false a1,decide_eq_false a2,decide_eq_false a3,decide_eq_false a4,decide_true,decide_false,TL,decide_eq_false m0,decide_eq_false m1,decide_eq_false m2];exact ak hb rfl rfl
theorem tf(f:Fl)(σ:LLV):Fun G 101 [.agg ((dfl f).map V.d)] σ (aN (.d (ai f.name)) σ):=by
 refine ae Tryz.func101 RX rfl fun hb hw=>?_;unfold LT;simp -dsimp only[aw,seval,dfl,TP,TR];exact ak hb rfl rfl
theorem tq(b:Bk)(σ:LLV):Fun G 103 [.agg ((dbk b).map V.d)] σ (aN (.d (ai b.1)) σ):=by
 refine ae Tryz.func103 Q5 rfl fun hb hw=>?_;unfold LA;simp -dsimp only[aw,seval,dbk,TP,TR];exact ak hb rfl rfl
theorem Dn{L:List ByteArray}(h:∀a b,a<b->b<L.length->L[a]? ≠ L[b]?):L.Nodup:=List.pairwise_iff_getElem.2 fun i j hi hj hij e=>h i j hij hj (by rw[TO hi,TO hj,e])
theorem Am{L:List ByteArray}{a b:Nat}(h:a<b)(hb:b<L.length)(e:L[a]? = L[b]?):¬L.Nodup:=fun hn=>List.pairwise_iff_getElem.1 hn a b (by omega) hb h (by
 rw[TO (show a<L.length by omega),TO hb]at e;exact Option.some.inj e)
theorem Fq(l:List Fl)(hl:l.length≤1200000)(σ:LLV):Fun G 100 [.d (.sl (l.map dfl)),.fn 101 []] σ (aN (ao (decide (¬(l.map Fl.name).Nodup))) σ):=by
 refine ae Tryz.func100 SA rfl fun hb hw=>?_;unfold Qf;simp -dsimp only[aw,seval,TN];refine aL [0,1,8,9] (fun(j:Nat) ρ σ'=>ρ=[(0,.d (.sl (l.map dfl))),(1,.fn 101 []),(8,aF .i64 l.length),(9,aF .i64 j)]/\σ'=σ/\∀a b,a<b->b<j->(l.map Fl.name)[a]? ≠ (l.map Fl.name)[b]?) l.length ⟨rfl,rfl,fun a b _ h=>by omega⟩ ?_ _;rintro j ρ' σ' hj ⟨rfl,rfl,hN⟩;by_cases hlt:j<l.length
 .have wj:=aJ hlt (show l.length≤9223372036854775807 by omega);simp -dsimp only[aw,seval,TM,hlt];refine aL [0,1,5,8,9,12,13] (fun(m:Nat) ρ σ2=>ρ=[(0,.d (.sl (l.map dfl))),(1,.fn 101 []),(5,aF .i64 j),(8,aF .i64 l.length),(9,aF .i64 j),(12,aF .i64 j),(13,aF .i64 m)]/\σ2=σ'/\∀a,a<m->(l.map Fl.name)[a]? ≠ (l.map Fl.name)[j]?) j ⟨rfl,rfl,fun a h=>by omega⟩ ?_ _;rintro m ρ' σ2 hm ⟨rfl,rfl,hM⟩;by_cases hlm:m<j
  .have wm:=aJ hlm (show j≤9223372036854775807 by omega);have hml:m<l.length:=by omega
   have e1:(l.map dfl)[j]? = some (dfl l[j]):=by rw[TQ,TO hlt];rfl
   have e2:(l.map dfl)[m]? = some (dfl l[m]):=by rw[TQ,TO hml];rfl
   have n1:(l.map Fl.name)[j]? = some l[j].name:=by rw[TQ,TO hlt];rfl
   have n2:(l.map Fl.name)[m]? = some l[m].name:=by rw[TQ,TO hml];rfl
   have d1:∀f:Fl,dfl f=[ai f.name,ab f.width,ab f.size,ab f.mode,ab f.init]:=fun _=>rfl;have f1:=tf l[j];have f2:=tf l[m];simp only[d1,TP,TR]at f1 f2;simp -dsimp only[aw,seval,TM,hlm,e1,e2,d1,TP,TR];refine bo (f1 _) ?_;simp -dsimp only[aw,seval,e1,e2,d1,TP,TR];refine bo (f2 _) ?_;by_cases hq:l[j].name=l[m].name
   .have hd:decide (¬(l.map Fl.name).Nodup)=true:=decide_eq_true (Am hlm (by rw[TN];exact hlt) (by rw[n1,n2,hq]));rw[hd];simp -dsimp only[aw,seval,hq];exact ak hb rfl rfl
   .simp -dsimp only[aw,seval,decide_eq_false hq,wm]
    exact⟨hlm,Nxt.same (TW _) hb (by simp[an,V.under,V.unders]) ⟨rfl,rfl,fun a ha=>by
     by_cases e:a=m
     .subst e;rw[n1,n2];exact fun h=>hq (Option.some.inj h).symm
     .exact hM a (by omega)⟩⟩
  .simp -dsimp only[aw,seval,TM,hlm,wj]
   exact⟨hlt,Nxt.same (TW _) hb (by simp[an,V.under,V.unders]) ⟨rfl,rfl,fun a b hab hbj=>by
    by_cases e:b=j
    .subst e;exact hM a (by omega)
    .exact hN a b hab (by omega)⟩⟩
 .have hd:decide (¬(l.map Fl.name).Nodup)=false:=decide_eq_false (fun h=>h (Dn fun a b hab hbl=>hN a b hab (by rw[TN]at hbl;omega)));rw[hd];simp -dsimp only[aw,seval,TM,hlt];exact ak hb rfl rfl
theorem DW(l:List Bk)(hl:l.length≤1200000)(σ:LLV):Fun G 102 [.d (.sl (l.map dbk)),.fn 103 []] σ (aN (ao (decide (¬(l.map TX).Nodup))) σ):=by
 refine ae Tryz.func102 R1 rfl fun hb hw=>?_;unfold Mc;simp -dsimp only[aw,seval,TN];refine aL [0,1,8,9] (fun(j:Nat) ρ σ'=>ρ=[(0,.d (.sl (l.map dbk))),(1,.fn 103 []),(8,aF .i64 l.length),(9,aF .i64 j)]/\σ'=σ/\∀a b,a<b->b<j->(l.map TX)[a]? ≠ (l.map TX)[b]?) l.length ⟨rfl,rfl,fun a b _ h=>by omega⟩ ?_ _;rintro j ρ' σ' hj ⟨rfl,rfl,hN⟩;by_cases hlt:j<l.length
 .have wj:=aJ hlt (show l.length≤9223372036854775807 by omega);simp -dsimp only[aw,seval,TM,hlt];refine aL [0,1,5,8,9,12,13] (fun(m:Nat) ρ σ2=>ρ=[(0,.d (.sl (l.map dbk))),(1,.fn 103 []),(5,aF .i64 j),(8,aF .i64 l.length),(9,aF .i64 j),(12,aF .i64 j),(13,aF .i64 m)]/\σ2=σ'/\∀a,a<m->(l.map TX)[a]? ≠ (l.map TX)[j]?) j ⟨rfl,rfl,fun a h=>by omega⟩ ?_ _;rintro m ρ' σ2 hm ⟨rfl,rfl,hM⟩;by_cases hlm:m<j
  .have wm:=aJ hlm (show j≤9223372036854775807 by omega);have hml:m<l.length:=by omega
   have e1:(l.map dbk)[j]? = some (dbk l[j]):=by rw[TQ,TO hlt];rfl
   have e2:(l.map dbk)[m]? = some (dbk l[m]):=by rw[TQ,TO hml];rfl
   have n1:(l.map TX)[j]? = some l[j].1:=by rw[TQ,TO hlt];rfl
   have n2:(l.map TX)[m]? = some l[m].1:=by rw[TQ,TO hml];rfl
   have d1:∀b:Bk,dbk b=[ai b.1,gZ b.2]:=fun _=>rfl;have f1:=tq l[j];have f2:=tq l[m];simp only[d1,TP,TR]at f1 f2;simp -dsimp only[aw,seval,TM,hlm,e1,e2,d1,TP,TR];refine bo (f1 _) ?_;simp -dsimp only[aw,seval,e1,e2,d1,TP,TR];refine bo (f2 _) ?_;by_cases hq:l[j].1=l[m].1
   .have hd:decide (¬(l.map TX).Nodup)=true:=decide_eq_true (Am hlm (by rw[TN];exact hlt) (by rw[n1,n2,hq]));rw[hd];simp -dsimp only[aw,seval,hq];exact ak hb rfl rfl
   .simp -dsimp only[aw,seval,decide_eq_false hq,wm]
    exact⟨hlm,Nxt.same (TW _) hb (by simp[an,V.under,V.unders]) ⟨rfl,rfl,fun a ha=>by
     by_cases e:a=m
     .subst e;rw[n1,n2];exact fun h=>hq (Option.some.inj h).symm
     .exact hM a (by omega)⟩⟩
  .simp -dsimp only[aw,seval,TM,hlm,wj]
   exact⟨hlt,Nxt.same (TW _) hb (by simp[an,V.under,V.unders]) ⟨rfl,rfl,fun a b hab hbj=>by
    by_cases e:b=j
    .subst e;exact hM a (by omega)
    .exact hN a b hab (by omega)⟩⟩
 .have hd:decide (¬(l.map TX).Nodup)=false:=decide_eq_false (fun h=>h (Dn fun a b hab hbl=>hN a b hab (by rw[TN]at hbl;omega)));rw[hd];simp -dsimp only[aw,seval,TM,hlt];exact ak hb rfl rfl
theorem Es(b:Bk)(σ:LLV):Fun G 99 [.agg ((dbk b).map V.d)] σ (aN (ao (!bC b.1)) σ):=by
 refine ae Tryz.func99 k99 rfl fun hb hw=>?_;unfold c99;simp -dsimp only[aw,seval,dbk,TP,TR];refine ac (eH b.1 _) ?_;simp -dsimp only[aw,seval];exact ak hb rfl rfl
theorem G2(l:List Bk)(hl:l.length≤1200000)(σ:LLV):Fun G 148 [.d (.sl (l.map dbk)),.fn 99 []] σ (aN (.d (ab (mL l 0))) σ):=by
 refine ae Tryz.func148 QM rfl fun hb hw=>?_;unfold Nd;simp -dsimp only[aw,seval,TN];refine aL [0,1,7,8] (fun(j:Nat) ρ σ'=>ρ=[(0,.d (.sl (l.map dbk))),(1,.fn 99 []),(7,aF .i64 l.length),(8,aF .i64 j)]/\σ'=σ/\mL l 0=mL (l.drop j) j) l.length ⟨rfl,rfl,rfl⟩ ?_ _;rintro j ρ' σ' hj ⟨rfl,rfl,hI⟩;by_cases hlt:j<l.length
 .have wj:=aJ hlt (show l.length≤9223372036854775807 by omega);have e1:(l.map dbk)[j]? = some (dbk l[j]):=by rw[TQ,TO hlt];rfl
  have d1:∀b:Bk,dbk b=[ai b.1,gZ b.2]:=fun _=>rfl;have f1:=Es l[j];simp only[d1,TP,TR]at f1;rw[TT hlt,mL]at hI;rw[hI];simp -dsimp only[aw,seval,TM,hlt,e1,d1,TP,TR];refine ac (f1 _) ?_;cases hn:bC l[j].1 with
  | false=>
   rw[if_pos rfl];simp -dsimp only[aw,seval];exact ak hb rfl rfl
  | true=>
   rw[if_neg (show ¬(true=false)by simp)];rw[hn,if_neg (show ¬(true=false)by simp)]at hI;simp -dsimp only[aw,seval,wj];exact⟨hlt,Nxt.same (TW _) hb (by simp[an,V.under,V.unders]) ⟨rfl,rfl,by rw[show((j+1:Nat):Int)=(j:Int)+1 by omega]⟩⟩
 .rw[TS (by omega),mL]at hI;rw[hI];simp -dsimp only[aw,seval,TM,hlt];exact ak hb rfl rfl
theorem GF(l:List Bk)(hl:l.length≤1200000)(σ:LLV):Fun G 98 [.d (.sl (l.map dbk)),.fn 99 []] σ (aN (ao (decide (0≤mL l 0))) σ):=by
 refine ae Tryz.func98 k98 rfl fun hb hw=>?_;unfold c98;simp -dsimp only[aw,seval];refine ac (G2 l hl _) ?_;simp -dsimp only[aw,seval];exact ak hb rfl rfl
theorem Nxt.drp1{n0:Nat}{R:aj->LLV->Prop}{ρ:aj}{σ:LLV}{a b:List V}(hn:n0≤σ.length)(hb:am (σ++[a]).length (σ++[a])=true)(hs:an (σ++[a]).length ρ=true)(hR:R ρ (σ++[a])):Nxt n0 R ρ (σ++[a,b]) .mk:=by
 have e:σ++[a,b]=(σ++[a])++[b]:=by simp
 rw[e];exact Nxt.drop (by rw[List.length_append];omega) hb hs hR
theorem tW(l:List Fl){j:Nat}(h:j<l.length):jU (l.drop j)=if r9 l[j]≠0 then r9 l[j]else jU (l.drop (j+1)):=by rw[TT h,jU]
theorem wS(c:Kl)(hf:c.flds.length≤1200000)(hbk:c.blks.length≤1200000)(σ:LLV):Fun G 45 [vkl c] σ (aN (.d (ab (uL c))) σ):=by
 refine ae Tryz.func45 k45 rfl fun hb hw=>?_;unfold c45 uL;obtain⟨nm,pr,fs,bl⟩:=c;simp only at hf hbk ⊢;simp -dsimp only[aw,seval];refine ac (eH nm _) ?_;cases hn:bC nm with
 | false=>
  rw[if_pos (.inl rfl)];simp -dsimp only[aw,seval];exact ak hb rfl rfl
 | true=>
 by_cases hbad:pr≠⟨#[]⟩/\bC pr=false
 .rw[if_pos (.inr hbad)];simp -dsimp only[aw,seval,decide_eq_false hbad.1];refine ac (eH pr _) ?_;rw[hbad.2];simp -dsimp only[aw,seval];exact ak hb rfl rfl
 rw[if_neg (fun h=>h.elim (fun h=>by cases h) hbad)]
 have hpar:∀{K:Prop},(pr=⟨#[]⟩->K)->(pr≠⟨#[]⟩->bC pr=true->K)->K:=fun h1 h2=>by
  by_cases hp:pr=⟨#[]⟩
  .exact h1 hp
  .refine h2 hp ?_;cases hq:bC pr with
   | true=>rfl
   | false=>exact absurd ⟨hp,hq⟩ hbad
 by_cases l1:16<fs.length
 .have d1:decide ((16:Int)<(fs.length:Nat))=true:=decide_eq_true (by omega);rw[if_pos (.inl l1)];refine hpar (fun hp=>?_) fun hp hq=>?_
  .simp -dsimp only[aw,seval,decide_eq_true hp,d1,TN];exact ak hb rfl rfl
  .simp -dsimp only[aw,seval,decide_eq_false hp];refine ac (eH pr _) ?_;rw[hq];simp -dsimp only[aw,seval,d1,TN];exact ak hb rfl rfl
 have d1:decide ((16:Int)<(fs.length:Nat))=false:=decide_eq_false (by omega);by_cases l2:16<bl.length
 .have d2:decide ((16:Int)<(bl.length:Nat))=true:=decide_eq_true (by omega);rw[if_pos (.inr l2)];refine hpar (fun hp=>?_) fun hp hq=>?_
  .simp -dsimp only[aw,seval,decide_eq_true hp,d1,d2,TN];exact ak hb rfl rfl
  .simp -dsimp only[aw,seval,decide_eq_false hp];refine ac (eH pr _) ?_;rw[hq];simp -dsimp only[aw,seval,d1,d2,TN];exact ak hb rfl rfl
 have d2:decide ((16:Int)<(bl.length:Nat))=false:=decide_eq_false (by omega);rw[if_neg (show ¬(16<fs.length\/16<bl.length)by omega)];refine hpar (fun hp=>?_) fun hp hq=>?_;simp -dsimp only[aw,seval,decide_eq_true hp,d1,d2,TN]
 rotate_left
 simp -dsimp only[aw,seval,decide_eq_false hp];refine ac (eH pr _) ?_;rw[hq];simp -dsimp only[aw,seval,d1,d2,TN]
 all_goals
  refine aL [1,34,35,36] (fun(j:Nat) ρ σ'=>ρ=[(1,.ptr σ.length 0),(34,.d (.sl (fs.map dfl))),(35,aF .i64 fs.length),(36,aF .i64 j)]/\σ'=σ++[[.d (ai nm),.d (ai pr),.d (.sl (fs.map dfl)),.d (.sl (bl.map dbk))]]/\jU fs=jU (fs.drop j)) fs.length ⟨rfl,rfl,rfl⟩ ?_ _;rintro j ρ' σ' hj ⟨rfl,rfl,hI⟩;by_cases hlt:j<fs.length
  .have wj:=aJ hlt (show fs.length≤9223372036854775807 by omega);have e1:(fs.map dfl)[j]? = some (dfl fs[j]):=by rw[TQ,TO hlt];rfl
   have dd:∀f:Fl,dfl f=[ai f.name,ab f.width,ab f.size,ab f.mode,ab f.init]:=fun _=>rfl;have f1:=zx fs[j];simp only[dd,TP,TR]at f1;rw[tW fs hlt]at hI;simp -dsimp only[aw,seval,TM,hlt,e1,dd,TP,TR];refine ac (f1 _) ?_;by_cases h0:r9 fs[j]=0
   .rw[if_neg (by simp[h0])]at hI;simp -dsimp only[aw,seval,h0,wj];exact⟨hlt,Nxt.drp1 (by simp) (aq hb rfl) (by simp[an,V.under]) ⟨rfl,rfl,hI⟩⟩
   .rw[if_pos h0]at hI;rw[hI,if_pos h0];simp -dsimp only[aw,seval,decide_eq_false h0];exact ak hb rfl rfl
  .rw[TS (by omega),jU]at hI;rw[hI,if_neg (by simp)];simp -dsimp only[aw,seval,TM,hlt];refine ac (GF bl hbk _) ?_;by_cases hi0:0≤mL bl 0
   .rw[if_pos hi0];simp -dsimp only[aw,seval,decide_eq_true hi0];exact ak hb rfl rfl
   .rw[if_neg hi0];simp -dsimp only[aw,seval,decide_eq_false hi0];refine ac (Fq fs hf _) ?_;by_cases n1:¬(fs.map Fl.name).Nodup
    .rw[if_pos (.inl n1)];simp -dsimp only[aw,seval,decide_eq_true n1];exact ak hb rfl rfl
    .simp -dsimp only[aw,seval,decide_eq_false n1];refine ac (DW bl hbk _) ?_;by_cases n2:¬(bl.map TX).Nodup
     .rw[if_pos (.inr n2)];simp -dsimp only[aw,seval,decide_eq_true n2];exact ak hb rfl rfl
     .rw[if_neg (fun h=>h.elim n1 n2)];simp -dsimp only[aw,seval,decide_eq_false n2];exact ak hb rfl rfl
def B5(c:Kl):Nat:=(c.blks.map fun b=>bu b.2).sum
theorem Ff{c:Kl}{b:Bk}(h:b∈c.blks):bu b.2≤B5 c:=by
 unfold B5;generalize c.blks=l at h
 induction l with
 | nil=>cases h
 | cons a r ih=>
  rw[TP,List.sum_cons];rcases List.mem_cons.1 h with rfl|h
  .omega
  .have:=ih h;omega
theorem mV(f:Fl):dfl f=[ai f.name,ab f.width,ab f.size,ab f.mode,ab f.init]:=rfl
theorem ly(b:Bk):dbk b=[ai b.1,gZ b.2]:=rfl
theorem Ob:vex Ai=.agg [.d (ab 0),.d (ab 0),.d (ai ⟨#[]⟩),.d (.sl [])]:=by rw[au];rfl
theorem rj(s:ByteArray)(σ:LLV):Fun G 236 [.d (ai s)] σ (aN (.d (.lit (.bool (bN s)))) σ):=
 rZ Tryz.func236 (by kernel_rfl) (by kernel_rfl) trivial fun M bm w v hG hM hr=>by
  cases hr with
  | d h=>cases h with
   | lit _ hs=>
    have:=qM s w (by simp only[df,maxLen]at hs;omega);rw[<-nV]at this;exact this
theorem ft(k:Int)(σ:LLV):Fun G 235 [.d (ab k)] σ (aN (ao (decide (k=1\/k=2\/k=4))) σ):=by
 refine ae Tryz.func235 Q6 rfl fun hb hw=>?_;unfold OD;by_cases k1:k=1
 .subst k1;simp -dsimp only[aw,seval];exact az hb rfl rfl TU ⟨rfl,rfl⟩
 by_cases k2:k=2
 .subst k2;simp -dsimp only[aw,seval];exact az hb rfl rfl TU ⟨rfl,rfl⟩
 have e:decide (k=1\/k=2\/k=4)=decide (k=4):=by simp[k1,k2]
 rw[e];simp -dsimp only[aw,seval,decide_eq_false k1,decide_eq_false k2];exact ak hb rfl rfl
theorem vm{α:Type}(l:List α):decide ((0:Int)<((l.length:Nat):Int)) = !l.isEmpty:=by cases l<;>simp
theorem Cq(e:Ex):lj e Ai=fC e:=by
 cases e with
 | mk o n s l=>
 have e1:fC (.mk o n s l)=(decide (o=0)&&decide (n=0)&&decide (s=⟨#[]⟩)&&l.isEmpty):=rfl;rw[e1];unfold Ai;rw[lj,Bool.eq_iff_iff];cases l with
 | nil=>simp[iU,and_assoc]
 | cons a r=>simp[iU]
theorem za(x:It)(hbig:gz x≤1200000)(hk:1≤x.kind/\x.kind≤6)(σ:LLV):Fun G 195 [vit x] σ (aN (ao (bU x)) σ):=by
 have hb0:=ew x;have e1:=vm x.ws;have e2:=vm x.items;have e3:=vm x.els;have e4:=jn x.bef;have e5:=jn x.aft;have hk6:x.kind=1\/x.kind=2\/x.kind=3\/x.kind=4\/x.kind=5\/x.kind=6:=by omega
 refine ae Tryz.func195 RL (by simp only[aM];rfl) fun hb hw=>?_;unfold ND;have hsm:=fun σ=>sX x.ex Ai σ;rw[Cq,Ob]at hsm;simp only[au]at hsm;rcases hk6 with hk|hk|hk|hk|hk|hk
 .have hp:bU x=(x.ws.isEmpty&&(decide (x.name=⟨#[]⟩)&&(decide (x.idx=⟨#[]⟩)&&(x.items.isEmpty&&(x.els.isEmpty&&(x.bef.isEmpty&&(x.aft.isEmpty))))))):=by unfold bU;simp[hk];try ac_rfl
  have ha:=fun σ=>ft x.kind σ;rw[hk,decide_eq_true (by omega)]at ha;simp -dsimp only[aw,seval,aM,hk];refine ac (ha _) ?_;simp -dsimp only[aw,seval,TN,e1,e2,e3,e4,e5];rw[hp];cases h_ws:x.ws.isEmpty with
  | false=>
   simp -dsimp only[aw,seval,TN,e1,e2,e3,e4,e5,h_ws,TK,TJ];exact ak hb rfl rfl
  | true=>
  simp -dsimp only[aw,seval,TN,e1,e2,e3,e4,e5,h_ws,TJ];cases h_name:decide (x.name=⟨#[]⟩)with
  | false=>
   simp -dsimp only[aw,seval,TN,e1,e2,e3,e4,e5,h_name,TK,TJ];exact ak hb rfl rfl
  | true=>
  simp -dsimp only[aw,seval,TN,e1,e2,e3,e4,e5,h_name,TJ];cases h_idx:decide (x.idx=⟨#[]⟩)with
  | false=>
   simp -dsimp only[aw,seval,TN,e1,e2,e3,e4,e5,h_idx,TK,TJ];exact ak hb rfl rfl
  | true=>
  simp -dsimp only[aw,seval,TN,e1,e2,e3,e4,e5,h_idx,TJ];cases h_items:x.items.isEmpty with
  | false=>
   simp -dsimp only[aw,seval,TN,e1,e2,e3,e4,e5,h_items,TK,TJ];exact ak hb rfl rfl
  | true=>
  simp -dsimp only[aw,seval,TN,e1,e2,e3,e4,e5,h_items,TJ];cases h_els:x.els.isEmpty with
  | false=>
   simp -dsimp only[aw,seval,TN,e1,e2,e3,e4,e5,h_els,TK,TJ];exact ak hb rfl rfl
  | true=>
  simp -dsimp only[aw,seval,TN,e1,e2,e3,e4,e5,h_els,TJ];cases h_bef:x.bef.isEmpty with
  | false=>
   simp -dsimp only[aw,seval,TN,e1,e2,e3,e4,e5,h_bef,TK,TJ];exact ak hb rfl rfl
  | true=>
  simp -dsimp only[aw,seval,TN,e1,e2,e3,e4,e5,h_bef,TJ];exact ak hb rfl rfl
 .have hp:bU x=(x.ws.isEmpty&&(decide (x.name=⟨#[]⟩)&&(decide (x.idx=⟨#[]⟩)&&(x.items.isEmpty&&(x.els.isEmpty&&(x.bef.isEmpty&&(x.aft.isEmpty))))))):=by unfold bU;simp[hk];try ac_rfl
  have ha:=fun σ=>ft x.kind σ;rw[hk,decide_eq_true (by omega)]at ha;simp -dsimp only[aw,seval,aM,hk];refine ac (ha _) ?_;simp -dsimp only[aw,seval,TN,e1,e2,e3,e4,e5];rw[hp];cases h_ws:x.ws.isEmpty with
  | false=>
   simp -dsimp only[aw,seval,TN,e1,e2,e3,e4,e5,h_ws,TK,TJ];exact ak hb rfl rfl
  | true=>
  simp -dsimp only[aw,seval,TN,e1,e2,e3,e4,e5,h_ws,TJ];cases h_name:decide (x.name=⟨#[]⟩)with
  | false=>
   simp -dsimp only[aw,seval,TN,e1,e2,e3,e4,e5,h_name,TK,TJ];exact ak hb rfl rfl
  | true=>
  simp -dsimp only[aw,seval,TN,e1,e2,e3,e4,e5,h_name,TJ];cases h_idx:decide (x.idx=⟨#[]⟩)with
  | false=>
   simp -dsimp only[aw,seval,TN,e1,e2,e3,e4,e5,h_idx,TK,TJ];exact ak hb rfl rfl
  | true=>
  simp -dsimp only[aw,seval,TN,e1,e2,e3,e4,e5,h_idx,TJ];cases h_items:x.items.isEmpty with
  | false=>
   simp -dsimp only[aw,seval,TN,e1,e2,e3,e4,e5,h_items,TK,TJ];exact ak hb rfl rfl
  | true=>
  simp -dsimp only[aw,seval,TN,e1,e2,e3,e4,e5,h_items,TJ];cases h_els:x.els.isEmpty with
  | false=>
   simp -dsimp only[aw,seval,TN,e1,e2,e3,e4,e5,h_els,TK,TJ];exact ak hb rfl rfl
  | true=>
  simp -dsimp only[aw,seval,TN,e1,e2,e3,e4,e5,h_els,TJ];cases h_bef:x.bef.isEmpty with
  | false=>
   simp -dsimp only[aw,seval,TN,e1,e2,e3,e4,e5,h_bef,TK,TJ];exact ak hb rfl rfl
  | true=>
  simp -dsimp only[aw,seval,TN,e1,e2,e3,e4,e5,h_bef,TJ];exact ak hb rfl rfl
 .have hp:bU x=(fC x.ex&&(decide (x.idx=⟨#[]⟩)&&(x.items.isEmpty&&(x.els.isEmpty&&(x.bef.isEmpty&&(x.aft.isEmpty)))))):=by unfold bU;simp[hk];try ac_rfl
  have ha:=fun σ=>ft x.kind σ;rw[hk,decide_eq_false (by omega)]at ha;simp -dsimp only[aw,seval,aM,hk];refine ac (ha _) ?_;simp -dsimp only[aw,seval,TN,e1,e2,e3,e4,e5];rw[hp];refine ac (hsm _) ?_;cases h_bl:fC x.ex with
  | false=>
   simp -dsimp only[aw,seval,TN,e1,e2,e3,e4,e5,h_bl,TK,TJ];exact ak hb rfl rfl
  | true=>
  simp -dsimp only[aw,seval,TN,e1,e2,e3,e4,e5,h_bl,TJ];cases h_idx:decide (x.idx=⟨#[]⟩)with
  | false=>
   simp -dsimp only[aw,seval,TN,e1,e2,e3,e4,e5,h_idx,TK,TJ];exact ak hb rfl rfl
  | true=>
  simp -dsimp only[aw,seval,TN,e1,e2,e3,e4,e5,h_idx,TJ];cases h_items:x.items.isEmpty with
  | false=>
   simp -dsimp only[aw,seval,TN,e1,e2,e3,e4,e5,h_items,TK,TJ];exact ak hb rfl rfl
  | true=>
  simp -dsimp only[aw,seval,TN,e1,e2,e3,e4,e5,h_items,TJ];cases h_els:x.els.isEmpty with
  | false=>
   simp -dsimp only[aw,seval,TN,e1,e2,e3,e4,e5,h_els,TK,TJ];exact ak hb rfl rfl
  | true=>
  simp -dsimp only[aw,seval,TN,e1,e2,e3,e4,e5,h_els,TJ];cases h_bef:x.bef.isEmpty with
  | false=>
   simp -dsimp only[aw,seval,TN,e1,e2,e3,e4,e5,h_bef,TK,TJ];exact ak hb rfl rfl
  | true=>
  simp -dsimp only[aw,seval,TN,e1,e2,e3,e4,e5,h_bef,TJ];exact ak hb rfl rfl
 .have hp:bU x=(x.ws.isEmpty&&(decide (x.name=⟨#[]⟩)&&(decide (x.idx=⟨#[]⟩)&&(x.bef.isEmpty&&(x.aft.isEmpty))))):=by unfold bU;simp[hk];try ac_rfl
  have ha:=fun σ=>ft x.kind σ;rw[hk,decide_eq_true (by omega)]at ha;simp -dsimp only[aw,seval,aM,hk];refine ac (ha _) ?_;simp -dsimp only[aw,seval,TN,e1,e2,e3,e4,e5];rw[hp];cases h_ws:x.ws.isEmpty with
  | false=>
   simp -dsimp only[aw,seval,TN,e1,e2,e3,e4,e5,h_ws,TK,TJ];exact ak hb rfl rfl
  | true=>
  simp -dsimp only[aw,seval,TN,e1,e2,e3,e4,e5,h_ws,TJ];cases h_name:decide (x.name=⟨#[]⟩)with
  | false=>
   simp -dsimp only[aw,seval,TN,e1,e2,e3,e4,e5,h_name,TK,TJ];exact ak hb rfl rfl
  | true=>
  simp -dsimp only[aw,seval,TN,e1,e2,e3,e4,e5,h_name,TJ];cases h_idx:decide (x.idx=⟨#[]⟩)with
  | false=>
   simp -dsimp only[aw,seval,TN,e1,e2,e3,e4,e5,h_idx,TK,TJ];exact ak hb rfl rfl
  | true=>
  simp -dsimp only[aw,seval,TN,e1,e2,e3,e4,e5,h_idx,TJ];cases h_bef:x.bef.isEmpty with
  | false=>
   simp -dsimp only[aw,seval,TN,e1,e2,e3,e4,e5,h_bef,TK,TJ];exact ak hb rfl rfl
  | true=>
  simp -dsimp only[aw,seval,TN,e1,e2,e3,e4,e5,h_bef,TJ];exact ak hb rfl rfl
 .have hp:bU x=(fC x.ex&&(x.ws.isEmpty&&(x.els.isEmpty&&(x.bef.isEmpty&&(x.aft.isEmpty))))):=by unfold bU;simp[hk];try ac_rfl
  have ha:=fun σ=>ft x.kind σ;rw[hk,decide_eq_false (by omega)]at ha;simp -dsimp only[aw,seval,aM,hk];refine ac (ha _) ?_;simp -dsimp only[aw,seval,TN,e1,e2,e3,e4,e5];rw[hp];refine ac (hsm _) ?_;cases h_bl:fC x.ex with
  | false=>
   simp -dsimp only[aw,seval,TN,e1,e2,e3,e4,e5,h_bl,TK,TJ];exact ak hb rfl rfl
  | true=>
  simp -dsimp only[aw,seval,TN,e1,e2,e3,e4,e5,h_bl,TJ];cases h_ws:x.ws.isEmpty with
  | false=>
   simp -dsimp only[aw,seval,TN,e1,e2,e3,e4,e5,h_ws,TK,TJ];exact ak hb rfl rfl
  | true=>
  simp -dsimp only[aw,seval,TN,e1,e2,e3,e4,e5,h_ws,TJ];cases h_els:x.els.isEmpty with
  | false=>
   simp -dsimp only[aw,seval,TN,e1,e2,e3,e4,e5,h_els,TK,TJ];exact ak hb rfl rfl
  | true=>
  simp -dsimp only[aw,seval,TN,e1,e2,e3,e4,e5,h_els,TJ];cases h_bef:x.bef.isEmpty with
  | false=>
   simp -dsimp only[aw,seval,TN,e1,e2,e3,e4,e5,h_bef,TK,TJ];exact ak hb rfl rfl
  | true=>
  simp -dsimp only[aw,seval,TN,e1,e2,e3,e4,e5,h_bef,TJ];exact ak hb rfl rfl
 .have hp:bU x=(fC x.ex&&(x.ws.isEmpty&&(decide (x.name=⟨#[]⟩)&&(decide (x.idx=⟨#[]⟩)&&(x.items.isEmpty&&(x.els.isEmpty)))))):=by unfold bU;simp[hk];try ac_rfl
  have ha:=fun σ=>ft x.kind σ;rw[hk,decide_eq_false (by omega)]at ha;simp -dsimp only[aw,seval,aM,hk];refine ac (ha _) ?_;simp -dsimp only[aw,seval,TN,e1,e2,e3,e4,e5];rw[hp];refine ac (hsm _) ?_;cases h_bl:fC x.ex with
  | false=>
   simp -dsimp only[aw,seval,TN,e1,e2,e3,e4,e5,h_bl,TK,TJ];exact ak hb rfl rfl
  | true=>
  simp -dsimp only[aw,seval,TN,e1,e2,e3,e4,e5,h_bl,TJ];cases h_ws:x.ws.isEmpty with
  | false=>
   simp -dsimp only[aw,seval,TN,e1,e2,e3,e4,e5,h_ws,TK,TJ];exact ak hb rfl rfl
  | true=>
  simp -dsimp only[aw,seval,TN,e1,e2,e3,e4,e5,h_ws,TJ];cases h_name:decide (x.name=⟨#[]⟩)with
  | false=>
   simp -dsimp only[aw,seval,TN,e1,e2,e3,e4,e5,h_name,TK,TJ];exact ak hb rfl rfl
  | true=>
  simp -dsimp only[aw,seval,TN,e1,e2,e3,e4,e5,h_name,TJ];cases h_idx:decide (x.idx=⟨#[]⟩)with
  | false=>
   simp -dsimp only[aw,seval,TN,e1,e2,e3,e4,e5,h_idx,TK,TJ];exact ak hb rfl rfl
  | true=>
  simp -dsimp only[aw,seval,TN,e1,e2,e3,e4,e5,h_idx,TJ];cases h_items:x.items.isEmpty with
  | false=>
   simp -dsimp only[aw,seval,TN,e1,e2,e3,e4,e5,h_items,TK,TJ];exact ak hb rfl rfl
  | true=>
  simp -dsimp only[aw,seval,TN,e1,e2,e3,e4,e5,h_items,TJ];cases h_els:x.els.isEmpty with
  | false=>
   simp -dsimp only[aw,seval,TN,e1,e2,e3,e4,e5,h_els,TK,TJ];exact ak hb rfl rfl
  | true=>
  simp -dsimp only[aw,seval,TN,e1,e2,e3,e4,e5,h_els,TJ];exact ak hb rfl rfl
theorem Eo(x:It)(hbig:gz x≤1200000)(σ:LLV):Fun G 196 [vit x] σ (aN (.d (ab (j6 x))) σ):=by
 have hb0:=ew x;refine ae Tryz.func196 RQ (by simp only[aM];rfl) fun hb hw=>?_;unfold Mu;by_cases h1:x.ws.length>16
 .have h1':((16:Int)<((x.ws.length:Nat):Int)):=by omega
  have hr:j6 x=2:=by unfold j6;rw[if_pos h1]
  rw[hr];simp -dsimp only[aw,seval,aM,TN,decide_eq_true h1'];exact ak hb rfl rfl
 have h1':¬((16:Int)<((x.ws.length:Nat):Int)):=by omega
 by_cases h2:x.ws=[]
 .have h2':((x.ws.length:Nat):Int)=0:=by rw[h2];rfl
  have hr:j6 x=1:=by unfold j6;rw[if_neg h1,if_pos h2]
  rw[hr];simp -dsimp only[aw,seval,aM,TN,decide_eq_false h1',decide_eq_true h2'];exact ak hb rfl rfl
 have h2':¬(((x.ws.length:Nat):Int)=0):=by have:=List.length_pos_iff.2 h2;omega
 have hr:j6 x=if x.ws.all wtB=false then 1 else if bN x.name=true then 0 else 7:=by unfold j6;rw[if_neg h1,if_neg h2]
 rw[hr];simp -dsimp only[aw,seval,aM,TN,decide_eq_false h1',decide_eq_false h2'];refine eJ (R:=fun(j:Nat) ρ σ'=>ρ=[(1,.ptr σ.length 0),(3,aF .i64 j)]/\σ'=σ++[[.d (ab x.kind),.d (ab x.ex.op),.d (ab x.ex.num),.d (ai x.ex.name),.d (.sl (x.ex.args.map dex)),.d (ai x.name),.d (ai x.idx),.d (.sl (x.ws.map dwt)),.d (.sl (x.items.map dit)),.d (.sl (x.els.map dit)),.d (.sl (x.bef.map fun s=>[ai s])),.d (.sl (x.aft.map fun s=>[ai s]))]]/\x.ws.all wtB=(x.ws.drop j).all wtB) x.ws.length ⟨rfl,rfl,rfl⟩ ?_ _;rintro j ρ' σ' hj ⟨rfl,rfl,hrr⟩;by_cases hlt:j<x.ws.length
 .rw[TT hlt,List.all_cons]at hrr;have hxx:x.ws[j]? = some x.ws[j]:=TO hlt;generalize x.ws[j]=w at hrr hxx;have hd:dwt w=[ab w.lo,ab w.hi,ab w.w,dbl w.each]:=rfl;have wj:=aJ hlt (show x.ws.length≤9223372036854775807 by omega);have lY:wtB w=true->x.ws.all wtB=(x.ws.drop (j+1)).all wtB:=fun h=>by rw[hrr,h,TJ]
  have bad:wtB w=false->(if x.ws.all wtB=false then(1:Int)else if bN x.name=true then 0 else 7)=1:=fun h=>by rw[hrr,h,TK,if_pos rfl]
  by_cases q1:w.lo<0
  .rw[bad (by unfold wtB;simp;intro;omega)];simp -dsimp only[aw,seval,TN,TM,hlt,decide_true,hxx,hd,decide_eq_true q1];exact ak hb rfl rfl
  by_cases q2:w.hi<w.lo
  .rw[bad (by unfold wtB;simp;intro _ _;omega)];simp -dsimp only[aw,seval,TN,TM,hlt,decide_true,hxx,hd,decide_eq_false q1,decide_eq_true q2];exact ak hb rfl rfl
  by_cases q3:65535<w.hi
  .rw[bad (by unfold wtB;simp;intro _ _ _;omega)];simp -dsimp only[aw,seval,TN,TM,hlt,decide_true,hxx,hd,decide_eq_false q1,decide_eq_false q2,decide_eq_true q3];exact ak hb rfl rfl
  by_cases q4:w.w<0
  .rw[bad (by unfold wtB;simp;intro _ _ _ _;omega)];simp -dsimp only[aw,seval,TN,TM,hlt,decide_true,hxx,hd,decide_eq_false q1,decide_eq_false q2,decide_eq_false q3,decide_eq_true q4];exact ak hb rfl rfl
  by_cases q5:1000<w.w
  .rw[bad (by unfold wtB;simp;intro _ _ _ _;omega)];simp -dsimp only[aw,seval,TN,TM,hlt,decide_true,hxx,hd,decide_eq_false q1,decide_eq_false q2,decide_eq_false q3,decide_eq_false q4,decide_eq_true q5];exact ak hb rfl rfl
  have hg:=lY (by unfold wtB;simp;omega);simp -dsimp only[aw,seval,TN,TM,hlt,decide_true,hxx,hd,decide_eq_false q1,decide_eq_false q2,decide_eq_false q3,decide_eq_false q4,decide_eq_false q5,wj];have e3:∀a b:List V,σ++[a,b]=(σ++[a])++[b]:=fun a b=>by simp
  rw[e3];exact Nxt.drop (by simp) (aq hb rfl) (by simp[an,V.under]) ⟨rfl,rfl,hg⟩
 .rw[TS (by omega)]at hrr;rw[hrr,TV,if_neg (by simp)];simp -dsimp only[aw,seval,TN,TM,hlt];refine ac (rj x.name _) ?_;cases hi:bN x.name with
  | true=>
   simp -dsimp only[aw,seval];exact ak hb rfl rfl
  | false=>
   simp -dsimp only[aw,seval];exact ak hb rfl rfl
theorem wW(l:List ByteArray)(hl:l.length≤1200000)(σ:LLV):Fun G 197 [.d (cV l)] σ (aN (ao (l.all bN)) σ):=by
 refine ae Tryz.func197 Td rfl fun hb hw=>?_;unfold Qz;simp -dsimp only[aw,seval,cV];refine eJ (R:=fun(j:Nat) ρ σ'=>ρ=[(0,.d (.sl (l.map fun s=>[ai s]))),(3,aF .i64 j)]/\σ'=σ/\l.all bN=(l.drop j).all bN) l.length ⟨rfl,rfl,rfl⟩ ?_ _;rintro j ρ' σ' hj ⟨rfl,rfl,hr⟩;by_cases hlt:j<l.length
 .rw[sw l hlt]at hr;have wj:=aJ hlt (show l.length≤9223372036854775807 by omega);simp -dsimp only[aw,seval,TN,TM,hlt,decide_true,TO hlt];refine ac (rj l[j] _) ?_;cases hi:bN l[j]with
  | true=>
   simp -dsimp only[aw,seval,wj];exact⟨hlt,Nxt.same (TW _) hb (by simp[an,V.under]) ⟨rfl,rfl,by rw[hr,hi,TJ]⟩⟩
  | false=>
   rw[hr,hi,TK];simp -dsimp only[aw,seval];exact ak hb rfl rfl
 .rw[TS (by omega)]at hr;rw[hr,TV];simp -dsimp only[aw,seval,TN,TM,hlt];exact ak hb rfl rfl
end Go.Proofs.YtnhphlmblenapaaGreatDoor
