import Derived.Test.YtnhphlmblenapaaGreatDoorIw4
set_option linter.unusedVariables false
set_option linter.unusedSimpArgs false
set_option linter.unusedSectionVars false
set_option maxHeartbeats 8000000
open Bool renaming true_and->Sq,false_and->Ss
open Int renaming reduceEq->Su,ofNat_lt->Sv
open List renaming length_map->Sw,getElem?_eq_getElem->Sx,map_cons->Sy,getElem?_map->SA,map_nil->SB,drop_eq_nil_of_le->SC,drop_eq_getElem_cons->SD,take_length->SE,all_nil->SF
open Nat renaming le_refl->SG
open Prod renaming fst->SH
namespace Go.Proofs.YtnhphlmblenapaaGreatDoor
open Go.RowKit
def dfl(f:Fl):List D:=[aj f.name,ab f.width,ab f.size,ab f.mode,ab f.init]
abbrev Bk:=ByteArray×List It
def dbk(b:Bk):List D:=[aj b.1,gR b.2]
abbrev vkl(c:Kl):V:=.agg [.d (aj c.name),.d (aj c.par),.d (.sl (c.flds.map dfl)),.d (.sl (c.blks.map dbk))]
def yQ(f:Fl):Int:=
 if bH f.name=false then 7 else if f.width<1\/8<f.width\/f.size<0\/8<f.size then 1 else if f.mode≠0/\f.mode≠1/\f.mode≠2 then 1 else if f.size≠0/\f.mode=2 then 1
 else if f.init<0\/(if f.mode=0 then 2^f.width.toNat-1 else 0)<f.init then 1 else 0
def nh:List Fl->Int
 | []=>0
 | f::r=>if yQ f≠0 then yQ f else nh r
def uB:List Bk->Int->Int
 | [],_=>-1
 | b::r,k=>if bH b.1=false then k else uB r (k+1)
def AG(c:Kl):Int:=
 if bH c.name=false\/(c.par≠⟨#[]⟩/\bH c.par=false)then 7 else if 16<c.flds.length\/16<c.blks.length then 2 else if nh c.flds≠0 then nh c.flds
 else if 0≤uB c.blks 0 then 7 else if ¬(c.flds.map Fl.name).Nodup\/¬(c.blks.map SH).Nodup then 8 else 0
theorem G6{n:Int}(h0:1≤n)(h1:n≤8):cf .shl (.d (.lit (.int .i64 1))) (.d (ab n))=some (.d (ab (2^n.toNat)))/\(2:Int)^n.toNat≤256/\(1:Int)≤2^n.toNat:=by
 have hn:n=1\/n=2\/n=3\/n=4\/n=5\/n=6\/n=7\/n=8:=by omega
 rcases hn with rfl|rfl|rfl|rfl|rfl|rfl|rfl|rfl<;>exact⟨by rw[Iw];rfl,by decide,by decide⟩
theorem xF(f:Fl)(σ:LLV):Fun G 97 [.agg ((dfl f).map V.d)] σ (aN (.d (ab (yQ f))) σ):=by
 refine ae Tryz.func97 k97 rfl fun hb hw=>?_;unfold c97 yQ;obtain⟨nm,wd,sz,md,ini⟩:=f;simp only;simp -dsimp only[aw,seval,dfl,Sy,SB];refine ac (eC nm _) ?_;cases hn:bH nm with
 | false=>
  rw[if_pos rfl];simp -dsimp only[aw,seval];first|exact al hb rfl rfl|exact am hb rfl rfl
 | true=>
 rw[if_neg (show ¬(true=false)by simp)];by_cases a1:wd<1
 .rw[if_pos (.inl a1)];simp -dsimp only[aw,seval,decide_eq_true a1];first|exact al hb rfl rfl|exact am hb rfl rfl
 by_cases a2:8<wd
 .rw[if_pos (.inr (.inl a2))];simp -dsimp only[aw,seval,decide_eq_false a1,decide_eq_true a2];first|exact al hb rfl rfl|exact am hb rfl rfl
 by_cases a3:sz<0
 .rw[if_pos (.inr (.inr (.inl a3)))];simp -dsimp only[aw,seval,decide_eq_false a1,decide_eq_false a2,decide_eq_true a3];first|exact al hb rfl rfl|exact am hb rfl rfl
 by_cases a4:8<sz
 .rw[if_pos (.inr (.inr (.inr a4)))];simp -dsimp only[aw,seval,decide_eq_false a1,decide_eq_false a2,decide_eq_false a3,decide_eq_true a4];first|exact al hb rfl rfl|exact am hb rfl rfl
 rw[if_neg (by omega)];obtain⟨q1,q2,q3⟩:=G6 (n:=wd) (by omega) (by omega);have q4:IntKind.i64.wrap ((2:Int)^wd.toNat-1)=2^wd.toNat-1:=aA (by omega) (by omega);generalize (2:Int)^wd.toNat=top at *;by_cases m0:md=0
 .subst m0;rw[if_neg (show ¬((0:Int)≠0/\(0:Int)≠1/\(0:Int)≠2)by omega),if_neg (show ¬(sz≠0/\(0:Int)=2)by omega),if_pos (rfl:(0:Int)=0)];by_cases i1:ini<0
  .rw[if_pos (.inl i1)];cases hz:decide (sz=0)
   all_goals
    simp -dsimp only[aw,seval,decide_eq_false a1,decide_eq_false a2,decide_eq_false a3,decide_eq_false a4,decide_true,decide_false,Su,hz,q1,q4,decide_eq_true i1];first|exact al hb rfl rfl|exact am hb rfl rfl
  .by_cases i2:top-1<ini
   .rw[if_pos (.inr i2)];cases hz:decide (sz=0)
    all_goals
     simp -dsimp only[aw,seval,decide_eq_false a1,decide_eq_false a2,decide_eq_false a3,decide_eq_false a4,decide_true,decide_false,Su,hz,q1,q4,decide_eq_false i1,decide_eq_true i2];first|exact al hb rfl rfl|exact am hb rfl rfl
   .rw[if_neg (by omega)];cases hz:decide (sz=0)
    all_goals
     simp -dsimp only[aw,seval,decide_eq_false a1,decide_eq_false a2,decide_eq_false a3,decide_eq_false a4,decide_true,decide_false,Su,hz,q1,q4,decide_eq_false i1,decide_eq_false i2];first|exact al hb rfl rfl|exact am hb rfl rfl
 .by_cases m1:md=1
  .subst m1;rw[if_neg (show ¬((1:Int)≠0/\(1:Int)≠1/\(1:Int)≠2)by omega),if_neg (show ¬(sz≠0/\(1:Int)=2)by omega),if_neg (show ¬(1:Int)=0 by omega)];by_cases i1:ini<0
   .rw[if_pos (.inl i1)];cases hz:decide (sz=0)
    all_goals
     simp -dsimp only[aw,seval,decide_eq_false a1,decide_eq_false a2,decide_eq_false a3,decide_eq_false a4,decide_true,decide_false,Su,hz,decide_eq_true i1];first|exact al hb rfl rfl|exact am hb rfl rfl
   .by_cases i2:0<ini
    .rw[if_pos (.inr i2)];cases hz:decide (sz=0)
     all_goals
      simp -dsimp only[aw,seval,decide_eq_false a1,decide_eq_false a2,decide_eq_false a3,decide_eq_false a4,decide_true,decide_false,Su,hz,decide_eq_false i1,decide_eq_true i2];first|exact al hb rfl rfl|exact am hb rfl rfl
    .rw[if_neg (by omega)];cases hz:decide (sz=0)
     all_goals
      simp -dsimp only[aw,seval,decide_eq_false a1,decide_eq_false a2,decide_eq_false a3,decide_eq_false a4,decide_true,decide_false,Su,hz,decide_eq_false i1,decide_eq_false i2];first|exact al hb rfl rfl|exact am hb rfl rfl
  .by_cases m2:md=2
   .subst m2;rw[if_neg (show ¬((2:Int)≠0/\(2:Int)≠1/\(2:Int)≠2)by omega)];by_cases z:sz=0
    .rw[if_neg (show ¬(sz≠0/\(2:Int)=2)by omega),if_neg (show ¬(2:Int)=0 by omega)];by_cases i1:ini<0
     .rw[if_pos (.inl i1)];simp -dsimp only[aw,seval,decide_eq_false a1,decide_eq_false a2,decide_eq_false a3,decide_eq_false a4,decide_true,decide_false,Su,decide_eq_true z,decide_eq_true i1];first|exact al hb rfl rfl|exact am hb rfl rfl
     .by_cases i2:0<ini
      .rw[if_pos (.inr i2)];simp -dsimp only[aw,seval,decide_eq_false a1,decide_eq_false a2,decide_eq_false a3,decide_eq_false a4,decide_true,decide_false,Su,decide_eq_true z,decide_eq_false i1,decide_eq_true i2];first|exact al hb rfl rfl|exact am hb rfl rfl
      .rw[if_neg (by omega)];simp -dsimp only[aw,seval,decide_eq_false a1,decide_eq_false a2,decide_eq_false a3,decide_eq_false a4,decide_true,decide_false,Su,decide_eq_true z,decide_eq_false i1,decide_eq_false i2];first|exact al hb rfl rfl|exact am hb rfl rfl
    .rw[if_pos ⟨z,rfl⟩];simp -dsimp only[aw,seval,decide_eq_false a1,decide_eq_false a2,decide_eq_false a3,decide_eq_false a4,decide_true,decide_false,Su,decide_eq_false z];first|exact al hb rfl rfl|exact am hb rfl rfl
   .rw[if_pos ⟨m0,m1,m2⟩];simp -dsimp only[aw,seval,decide_eq_false a1,decide_eq_false a2,decide_eq_false a3,decide_eq_false a4,decide_true,decide_false,Su,decide_eq_false m0,decide_eq_false m1,decide_eq_false m2];first|exact al hb rfl rfl|exact am hb rfl rfl
theorem sk(f:Fl)(σ:LLV):Fun G 101 [.agg ((dfl f).map V.d)] σ (aN (.d (aj f.name)) σ):=by
 refine ae Tryz.func101 R1 rfl fun hb hw=>?_;unfold OG;simp -dsimp only[aw,seval,dfl,Sy,SB];first|exact al hb rfl rfl|exact am hb rfl rfl
theorem sH(b:Bk)(σ:LLV):Fun G 103 [.agg ((dbk b).map V.d)] σ (aN (.d (aj b.1)) σ):=by
 refine ae Tryz.func103 Pz rfl fun hb hw=>?_;unfold Pv;simp -dsimp only[aw,seval,dbk,Sy,SB];first|exact al hb rfl rfl|exact am hb rfl rfl
theorem EF{L:List ByteArray}(h:∀a b,a<b->b<L.length->L[a]? ≠ L[b]?):L.Nodup:=List.pairwise_iff_getElem.2 fun i j hi hj hij e=>h i j hij hj (by rw[Sx hi,Sx hj,e])
theorem zJ{L:List ByteArray}{a b:Nat}(h:a<b)(hb:b<L.length)(e:L[a]? = L[b]?):¬L.Nodup:=fun hn=>List.pairwise_iff_getElem.1 hn a b (by omega) hb h (by
 rw[Sx (show a<L.length by omega),Sx hb]at e;exact Option.some.inj e)
theorem C3(l:List Fl)(hl:l.length≤1200000)(σ:LLV):Fun G 100 [.d (.sl (l.map dfl)),.fn 101 []] σ (aN (an (decide (¬(l.map Fl.name).Nodup))) σ):=by
 refine ae Tryz.func100 Qw rfl fun hb hw=>?_;unfold KM;simp -dsimp only[aw,seval,Sw];refine aS [0,1,8,9] (fun(j:Nat) ρ σ'=>ρ=[(0,.d (.sl (l.map dfl))),(1,.fn 101 []),(8,aK .i64 l.length),(9,aK .i64 j)]/\σ'=σ/\∀a b,a<b->b<j->(l.map Fl.name)[a]? ≠ (l.map Fl.name)[b]?) l.length ⟨rfl,rfl,fun a b _ h=>by omega⟩ ?_ _;rintro j ρ' σ' hj ⟨rfl,rfl,hN⟩;by_cases hlt:j<l.length
 .have wj:=aT hlt (show l.length≤9223372036854775807 by omega);simp -dsimp only[aw,seval,Sv,hlt,decide_true];refine aS [0,1,5,8,9,12,13] (fun(m:Nat) ρ σ2=>ρ=[(0,.d (.sl (l.map dfl))),(1,.fn 101 []),(5,aK .i64 j),(8,aK .i64 l.length),(9,aK .i64 j),(12,aK .i64 j),(13,aK .i64 m)]/\σ2=σ'/\∀a,a<m->(l.map Fl.name)[a]? ≠ (l.map Fl.name)[j]?) j ⟨rfl,rfl,fun a h=>by omega⟩ ?_ _;rintro m ρ' σ2 hm ⟨rfl,rfl,hM⟩;by_cases hlm:m<j
  .have wm:=aT hlm (show j≤9223372036854775807 by omega);have hml:m<l.length:=by omega
   have e1:(l.map dfl)[j]? = some (dfl l[j]):=by rw[SA,Sx hlt];rfl
   have e2:(l.map dfl)[m]? = some (dfl l[m]):=by rw[SA,Sx hml];rfl
   have n1:(l.map Fl.name)[j]? = some l[j].name:=by rw[SA,Sx hlt];rfl
   have n2:(l.map Fl.name)[m]? = some l[m].name:=by rw[SA,Sx hml];rfl
   have d1:∀f:Fl,dfl f=[aj f.name,ab f.width,ab f.size,ab f.mode,ab f.init]:=fun _=>rfl;have f1:=sk l[j];have f2:=sk l[m];simp only[d1,Sy,SB]at f1 f2;simp -dsimp only[aw,seval,Sv,hlm,decide_true,e1,e2,d1,Sy,SB];refine bA (f1 _) ?_;simp -dsimp only[aw,seval,e1,e2,d1,Sy,SB];refine bA (f2 _) ?_;by_cases hq:l[j].name=l[m].name
   .have hd:decide (¬(l.map Fl.name).Nodup)=true:=decide_eq_true (zJ hlm (by rw[Sw];exact hlt) (by rw[n1,n2,hq]));rw[hd];simp -dsimp only[aw,seval,hq,decide_true];first|exact al hb rfl rfl|exact am hb rfl rfl
   .simp -dsimp only[aw,seval,decide_eq_false hq,wm]
    exact⟨hlm,Nxt.same (SG _) hb (by simp[au,V.under,V.unders]) ⟨rfl,rfl,fun a ha=>by
     by_cases e:a=m
     .subst e;rw[n1,n2];exact fun h=>hq (Option.some.inj h).symm
     .exact hM a (by omega)⟩⟩
  .simp -dsimp only[aw,seval,Sv,hlm,decide_false,wj]
   exact⟨hlt,Nxt.same (SG _) hb (by simp[au,V.under,V.unders]) ⟨rfl,rfl,fun a b hab hbj=>by
    by_cases e:b=j
    .subst e;exact hM a (by omega)
    .exact hN a b hab (by omega)⟩⟩
 .have hd:decide (¬(l.map Fl.name).Nodup)=false:=decide_eq_false (fun h=>h (EF fun a b hab hbl=>hN a b hab (by rw[Sw]at hbl;omega)));rw[hd];simp -dsimp only[aw,seval,Sv,hlt,decide_false];first|exact al hb rfl rfl|exact am hb rfl rfl
theorem DO(l:List Bk)(hl:l.length≤1200000)(σ:LLV):Fun G 102 [.d (.sl (l.map dbk)),.fn 103 []] σ (aN (an (decide (¬(l.map SH).Nodup))) σ):=by
 refine ae Tryz.func102 Qi rfl fun hb hw=>?_;unfold Od;simp -dsimp only[aw,seval,Sw];refine aS [0,1,8,9] (fun(j:Nat) ρ σ'=>ρ=[(0,.d (.sl (l.map dbk))),(1,.fn 103 []),(8,aK .i64 l.length),(9,aK .i64 j)]/\σ'=σ/\∀a b,a<b->b<j->(l.map SH)[a]? ≠ (l.map SH)[b]?) l.length ⟨rfl,rfl,fun a b _ h=>by omega⟩ ?_ _;rintro j ρ' σ' hj ⟨rfl,rfl,hN⟩;by_cases hlt:j<l.length
 .have wj:=aT hlt (show l.length≤9223372036854775807 by omega);simp -dsimp only[aw,seval,Sv,hlt,decide_true];refine aS [0,1,5,8,9,12,13] (fun(m:Nat) ρ σ2=>ρ=[(0,.d (.sl (l.map dbk))),(1,.fn 103 []),(5,aK .i64 j),(8,aK .i64 l.length),(9,aK .i64 j),(12,aK .i64 j),(13,aK .i64 m)]/\σ2=σ'/\∀a,a<m->(l.map SH)[a]? ≠ (l.map SH)[j]?) j ⟨rfl,rfl,fun a h=>by omega⟩ ?_ _;rintro m ρ' σ2 hm ⟨rfl,rfl,hM⟩;by_cases hlm:m<j
  .have wm:=aT hlm (show j≤9223372036854775807 by omega);have hml:m<l.length:=by omega
   have e1:(l.map dbk)[j]? = some (dbk l[j]):=by rw[SA,Sx hlt];rfl
   have e2:(l.map dbk)[m]? = some (dbk l[m]):=by rw[SA,Sx hml];rfl
   have n1:(l.map SH)[j]? = some l[j].1:=by rw[SA,Sx hlt];rfl
   have n2:(l.map SH)[m]? = some l[m].1:=by rw[SA,Sx hml];rfl
   have d1:∀b:Bk,dbk b=[aj b.1,gR b.2]:=fun _=>rfl;have f1:=sH l[j];have f2:=sH l[m];simp only[d1,Sy,SB]at f1 f2;simp -dsimp only[aw,seval,Sv,hlm,decide_true,e1,e2,d1,Sy,SB];refine bA (f1 _) ?_;simp -dsimp only[aw,seval,e1,e2,d1,Sy,SB];refine bA (f2 _) ?_;by_cases hq:l[j].1=l[m].1
   .have hd:decide (¬(l.map SH).Nodup)=true:=decide_eq_true (zJ hlm (by rw[Sw];exact hlt) (by rw[n1,n2,hq]));rw[hd];simp -dsimp only[aw,seval,hq,decide_true];first|exact al hb rfl rfl|exact am hb rfl rfl
   .simp -dsimp only[aw,seval,decide_eq_false hq,wm]
    exact⟨hlm,Nxt.same (SG _) hb (by simp[au,V.under,V.unders]) ⟨rfl,rfl,fun a ha=>by
     by_cases e:a=m
     .subst e;rw[n1,n2];exact fun h=>hq (Option.some.inj h).symm
     .exact hM a (by omega)⟩⟩
  .simp -dsimp only[aw,seval,Sv,hlm,decide_false,wj]
   exact⟨hlt,Nxt.same (SG _) hb (by simp[au,V.under,V.unders]) ⟨rfl,rfl,fun a b hab hbj=>by
    by_cases e:b=j
    .subst e;exact hM a (by omega)
    .exact hN a b hab (by omega)⟩⟩
 .have hd:decide (¬(l.map SH).Nodup)=false:=decide_eq_false (fun h=>h (EF fun a b hab hbl=>hN a b hab (by rw[Sw]at hbl;omega)));rw[hd];simp -dsimp only[aw,seval,Sv,hlt,decide_false];first|exact al hb rfl rfl|exact am hb rfl rfl
theorem DA(b:Bk)(σ:LLV):Fun G 99 [.agg ((dbk b).map V.d)] σ (aN (an (!bH b.1)) σ):=by
 refine ae Tryz.func99 k99 rfl fun hb hw=>?_;unfold c99;simp -dsimp only[aw,seval,dbk,Sy,SB];refine ac (eC b.1 _) ?_;simp -dsimp only[aw,seval];first|exact al hb rfl rfl|exact am hb rfl rfl
theorem Gz(l:List Bk)(hl:l.length≤1200000)(σ:LLV):Fun G 148 [.d (.sl (l.map dbk)),.fn 99 []] σ (aN (.d (ab (uB l 0))) σ):=by
 refine ae Tryz.func148 PU rfl fun hb hw=>?_;unfold N1;simp -dsimp only[aw,seval,Sw];refine aS [0,1,7,8] (fun(j:Nat) ρ σ'=>ρ=[(0,.d (.sl (l.map dbk))),(1,.fn 99 []),(7,aK .i64 l.length),(8,aK .i64 j)]/\σ'=σ/\uB l 0=uB (l.drop j) j) l.length ⟨rfl,rfl,rfl⟩ ?_ _;rintro j ρ' σ' hj ⟨rfl,rfl,hI⟩;by_cases hlt:j<l.length
 .have wj:=aT hlt (show l.length≤9223372036854775807 by omega);have e1:(l.map dbk)[j]? = some (dbk l[j]):=by rw[SA,Sx hlt];rfl
  have d1:∀b:Bk,dbk b=[aj b.1,gR b.2]:=fun _=>rfl;have f1:=DA l[j];simp only[d1,Sy,SB]at f1;rw[SD hlt,uB]at hI;rw[hI];simp -dsimp only[aw,seval,Sv,hlt,decide_true,e1,d1,Sy,SB];refine ac (f1 _) ?_;cases hn:bH l[j].1 with
  | false=>
   rw[if_pos rfl];simp -dsimp only[aw,seval];first|exact al hb rfl rfl|exact am hb rfl rfl
  | true=>
   rw[if_neg (show ¬(true=false)by simp)];rw[hn,if_neg (show ¬(true=false)by simp)]at hI;simp -dsimp only[aw,seval,wj];exact⟨hlt,Nxt.same (SG _) hb (by simp[au,V.under,V.unders]) ⟨rfl,rfl,by rw[show((j+1:Nat):Int)=(j:Int)+1 by omega]⟩⟩
 .rw[SC (by omega),uB]at hI;rw[hI];simp -dsimp only[aw,seval,Sv,hlt,decide_false];first|exact al hb rfl rfl|exact am hb rfl rfl
theorem Fv(l:List Bk)(hl:l.length≤1200000)(σ:LLV):Fun G 98 [.d (.sl (l.map dbk)),.fn 99 []] σ (aN (an (decide (0≤uB l 0))) σ):=by
 refine ae Tryz.func98 k98 rfl fun hb hw=>?_;unfold c98;simp -dsimp only[aw,seval];refine ac (Gz l hl _) ?_;simp -dsimp only[aw,seval];first|exact al hb rfl rfl|exact am hb rfl rfl
theorem Nxt.drp1{n0:Nat}{R:ai->LLV->Prop}{ρ:ai}{σ:LLV}{a b:List V}(hn:n0≤σ.length)(hb:ak (σ++[a]).length (σ++[a])=true)(hs:au (σ++[a]).length ρ=true)(hR:R ρ (σ++[a])):Nxt n0 R ρ (σ++[a,b]) .mk:=by
 have e:σ++[a,b]=(σ++[a])++[b]:=by simp
 rw[e];exact Nxt.drop (by rw[List.length_append];omega) hb hs hR
theorem Bv(l:List Fl){j:Nat}(h:j<l.length):nh (l.drop j)=if yQ l[j]≠0 then yQ l[j]else nh (l.drop (j+1)):=by rw[SD h,nh]
theorem vG(c:Kl)(hf:c.flds.length≤1200000)(hbk:c.blks.length≤1200000)(σ:LLV):Fun G 45 [vkl c] σ (aN (.d (ab (AG c))) σ):=by
 refine ae Tryz.func45 k45 rfl fun hb hw=>?_;unfold c45 AG;obtain⟨nm,pr,fs,bl⟩:=c;simp only at hf hbk ⊢;simp -dsimp only[aw,seval];refine ac (eC nm _) ?_;cases hn:bH nm with
 | false=>
  rw[if_pos (.inl rfl)];simp -dsimp only[aw,seval];first|exact al hb rfl rfl|exact am hb rfl rfl
 | true=>
 by_cases hbad:pr≠⟨#[]⟩/\bH pr=false
 .rw[if_pos (.inr hbad)];simp -dsimp only[aw,seval,decide_eq_false hbad.1];refine ac (eC pr _) ?_;rw[hbad.2];simp -dsimp only[aw,seval];first|exact al hb rfl rfl|exact am hb rfl rfl
 rw[if_neg (fun h=>h.elim (fun h=>by cases h) hbad)]
 have hpar:∀{K:Prop},(pr=⟨#[]⟩->K)->(pr≠⟨#[]⟩->bH pr=true->K)->K:=fun h1 h2=>by
  by_cases hp:pr=⟨#[]⟩
  .exact h1 hp
  .refine h2 hp ?_;cases hq:bH pr with
   | true=>rfl
   | false=>exact absurd ⟨hp,hq⟩ hbad
 by_cases l1:16<fs.length
 .have d1:decide ((16:Int)<(fs.length:Nat))=true:=decide_eq_true (by omega);rw[if_pos (.inl l1)];refine hpar (fun hp=>?_) fun hp hq=>?_
  .simp -dsimp only[aw,seval,decide_eq_true hp,d1,Sw];first|exact al hb rfl rfl|exact am hb rfl rfl
  .simp -dsimp only[aw,seval,decide_eq_false hp];refine ac (eC pr _) ?_;rw[hq];simp -dsimp only[aw,seval,d1,Sw];first|exact al hb rfl rfl|exact am hb rfl rfl
 have d1:decide ((16:Int)<(fs.length:Nat))=false:=decide_eq_false (by omega);by_cases l2:16<bl.length
 .have d2:decide ((16:Int)<(bl.length:Nat))=true:=decide_eq_true (by omega);rw[if_pos (.inr l2)];refine hpar (fun hp=>?_) fun hp hq=>?_
  .simp -dsimp only[aw,seval,decide_eq_true hp,d1,d2,Sw];first|exact al hb rfl rfl|exact am hb rfl rfl
  .simp -dsimp only[aw,seval,decide_eq_false hp];refine ac (eC pr _) ?_;rw[hq];simp -dsimp only[aw,seval,d1,d2,Sw];first|exact al hb rfl rfl|exact am hb rfl rfl
 have d2:decide ((16:Int)<(bl.length:Nat))=false:=decide_eq_false (by omega);rw[if_neg (show ¬(16<fs.length\/16<bl.length)by omega)];refine hpar (fun hp=>?_) fun hp hq=>?_;simp -dsimp only[aw,seval,decide_eq_true hp,d1,d2,Sw]
 rotate_left
 simp -dsimp only[aw,seval,decide_eq_false hp];refine ac (eC pr _) ?_;rw[hq];simp -dsimp only[aw,seval,d1,d2,Sw]
 all_goals
  refine aS [1,34,35,36] (fun(j:Nat) ρ σ'=>ρ=[(1,.ptr σ.length 0),(34,.d (.sl (fs.map dfl))),(35,aK .i64 fs.length),(36,aK .i64 j)]/\σ'=σ++[[.d (aj nm),.d (aj pr),.d (.sl (fs.map dfl)),.d (.sl (bl.map dbk))]]/\nh fs=nh (fs.drop j)) fs.length ⟨rfl,rfl,rfl⟩ ?_ _;rintro j ρ' σ' hj ⟨rfl,rfl,hI⟩;by_cases hlt:j<fs.length
  .have wj:=aT hlt (show fs.length≤9223372036854775807 by omega);have e1:(fs.map dfl)[j]? = some (dfl fs[j]):=by rw[SA,Sx hlt];rfl
   have dd:∀f:Fl,dfl f=[aj f.name,ab f.width,ab f.size,ab f.mode,ab f.init]:=fun _=>rfl;have f1:=xF fs[j];simp only[dd,Sy,SB]at f1;rw[Bv fs hlt]at hI;simp -dsimp only[aw,seval,Sv,hlt,decide_true,e1,dd,Sy,SB];refine ac (f1 _) ?_;by_cases h0:yQ fs[j]=0
   .rw[if_neg (by simp[h0])]at hI;simp -dsimp only[aw,seval,h0,decide_true,wj];exact⟨hlt,Nxt.drp1 (by simp) (aq hb rfl) (by simp[au,V.under]) ⟨rfl,rfl,hI⟩⟩
   .rw[if_pos h0]at hI;rw[hI,if_pos h0];simp -dsimp only[aw,seval,decide_eq_false h0];first|exact al hb rfl rfl|exact am hb rfl rfl
  .rw[SC (by omega),nh]at hI;rw[hI,if_neg (by simp)];simp -dsimp only[aw,seval,Sv,hlt,decide_false];refine ac (Fv bl hbk _) ?_;by_cases hi0:0≤uB bl 0
   .rw[if_pos hi0];simp -dsimp only[aw,seval,decide_eq_true hi0];first|exact al hb rfl rfl|exact am hb rfl rfl
   .rw[if_neg hi0];simp -dsimp only[aw,seval,decide_eq_false hi0];refine ac (C3 fs hf _) ?_;by_cases n1:¬(fs.map Fl.name).Nodup
    .rw[if_pos (.inl n1)];simp -dsimp only[aw,seval,decide_eq_true n1];first|exact al hb rfl rfl|exact am hb rfl rfl
    .simp -dsimp only[aw,seval,decide_eq_false n1];refine ac (DO bl hbk _) ?_;by_cases n2:¬(bl.map SH).Nodup
     .rw[if_pos (.inr n2)];simp -dsimp only[aw,seval,decide_eq_true n2];first|exact al hb rfl rfl|exact am hb rfl rfl
     .rw[if_neg (fun h=>h.elim n1 n2)];simp -dsimp only[aw,seval,decide_eq_false n2];first|exact al hb rfl rfl|exact am hb rfl rfl
theorem K3:vex zx=.agg [.d (ab 0),.d (ab 0),.d (aj ⟨#[]⟩),.d (.sl [])]:=by rw[ao];rfl
theorem re(s:ByteArray)(σ:LLV):Fun G 236 [.d (aj s)] σ (aN (.d (.lit (.bool (bK s)))) σ):=
 pY Tryz.func236 (by kernel_rfl) (by kernel_rfl) trivial fun M bm w v hG hM hr=>by
  cases hr with
  | d h=>cases h with
   | lit _ hs=>
    have:=qA s w (by simp only[da,maxLen]at hs;omega);rw[<-mW]at this;exact this
theorem fc(k:Int)(σ:LLV):Fun G 235 [.d (ab k)] σ (aN (an (decide (k=1\/k=2\/k=4))) σ):=by
 refine ae Tryz.func235 RH rfl fun hb hw=>?_;unfold Mb;by_cases k1:k=1
 .subst k1;simp -dsimp only[aw,seval,Su,decide_true,decide_false];exact az hb rfl rfl SE ⟨rfl,rfl⟩
 by_cases k2:k=2
 .subst k2;simp -dsimp only[aw,seval,Su,decide_true,decide_false];exact az hb rfl rfl SE ⟨rfl,rfl⟩
 have e:decide (k=1\/k=2\/k=4)=decide (k=4):=by simp[k1,k2]
 rw[e];simp -dsimp only[aw,seval,decide_eq_false k1,decide_eq_false k2];first|exact al hb rfl rfl|exact am hb rfl rfl
theorem tM{α:Type}(l:List α):decide ((0:Int)<((l.length:Nat):Int)) = !l.isEmpty:=by cases l<;>simp
theorem AM(e:Ex):kN e zx=fq e:=by
 cases e with
 | mk o n s l=>
 have e1:fq (.mk o n s l)=(decide (o=0)&&decide (n=0)&&decide (s=⟨#[]⟩)&&l.isEmpty):=rfl;rw[e1];unfold zx;rw[kN,Bool.eq_iff_iff];cases l with
 | nil=>simp[iz,and_assoc]
 | cons a r=>simp[iz]
theorem xE(x:It)(hbig:fN x≤1200000)(hk:1≤x.kind/\x.kind≤6)(σ:LLV):Fun G 195 [vit x] σ (aN (an (bS x)) σ):=by
 have hb0:=ep x;have e1:=tM x.ws;have e2:=tM x.items;have e3:=tM x.els;have e4:=iX x.bef;have e5:=iX x.aft;have hk6:x.kind=1\/x.kind=2\/x.kind=3\/x.kind=4\/x.kind=5\/x.kind=6:=by omega
 refine ae Tryz.func195 R7 (by simp only[aJ];rfl) fun hb hw=>?_;unfold M6;have hsm:=fun σ=>rX x.ex zx σ;rw[AM,K3]at hsm;simp only[ao]at hsm;rcases hk6 with hk|hk|hk|hk|hk|hk
 .have hp:bS x=(x.ws.isEmpty&&(decide (x.name=⟨#[]⟩)&&(decide (x.idx=⟨#[]⟩)&&(x.items.isEmpty&&(x.els.isEmpty&&(x.bef.isEmpty&&(x.aft.isEmpty))))))):=by unfold bS;simp[hk];try ac_rfl
  have ha:=fun σ=>fc x.kind σ;rw[hk,decide_eq_true (by omega)]at ha;simp -dsimp only[aw,seval,aJ,hk];refine ac (ha _) ?_;simp -dsimp only[aw,seval,Sw,e1,e2,e3,e4,e5,Su,decide_true,decide_false];rw[hp];cases h_ws:x.ws.isEmpty with
  | false=>
   simp -dsimp only[aw,seval,Sw,e1,e2,e3,e4,e5,Su,decide_true,decide_false,h_ws,Ss,Sq];first|exact al hb rfl rfl|exact am hb rfl rfl
  | true=>
  simp -dsimp only[aw,seval,Sw,e1,e2,e3,e4,e5,Su,decide_true,decide_false,h_ws,Sq];cases h_name:decide (x.name=⟨#[]⟩)with
  | false=>
   simp -dsimp only[aw,seval,Sw,e1,e2,e3,e4,e5,Su,decide_true,decide_false,h_name,Ss,Sq];first|exact al hb rfl rfl|exact am hb rfl rfl
  | true=>
  simp -dsimp only[aw,seval,Sw,e1,e2,e3,e4,e5,Su,decide_true,decide_false,h_name,Sq];cases h_idx:decide (x.idx=⟨#[]⟩)with
  | false=>
   simp -dsimp only[aw,seval,Sw,e1,e2,e3,e4,e5,Su,decide_true,decide_false,h_idx,Ss,Sq];first|exact al hb rfl rfl|exact am hb rfl rfl
  | true=>
  simp -dsimp only[aw,seval,Sw,e1,e2,e3,e4,e5,Su,decide_true,decide_false,h_idx,Sq];cases h_items:x.items.isEmpty with
  | false=>
   simp -dsimp only[aw,seval,Sw,e1,e2,e3,e4,e5,Su,decide_true,decide_false,h_items,Ss,Sq];first|exact al hb rfl rfl|exact am hb rfl rfl
  | true=>
  simp -dsimp only[aw,seval,Sw,e1,e2,e3,e4,e5,Su,decide_true,decide_false,h_items,Sq];cases h_els:x.els.isEmpty with
  | false=>
   simp -dsimp only[aw,seval,Sw,e1,e2,e3,e4,e5,Su,decide_true,decide_false,h_els,Ss,Sq];first|exact al hb rfl rfl|exact am hb rfl rfl
  | true=>
  simp -dsimp only[aw,seval,Sw,e1,e2,e3,e4,e5,Su,decide_true,decide_false,h_els,Sq];cases h_bef:x.bef.isEmpty with
  | false=>
   simp -dsimp only[aw,seval,Sw,e1,e2,e3,e4,e5,Su,decide_true,decide_false,h_bef,Ss,Sq];first|exact al hb rfl rfl|exact am hb rfl rfl
  | true=>
  simp -dsimp only[aw,seval,Sw,e1,e2,e3,e4,e5,Su,decide_true,decide_false,h_bef,Sq];first|exact al hb rfl rfl|exact am hb rfl rfl
 .have hp:bS x=(x.ws.isEmpty&&(decide (x.name=⟨#[]⟩)&&(decide (x.idx=⟨#[]⟩)&&(x.items.isEmpty&&(x.els.isEmpty&&(x.bef.isEmpty&&(x.aft.isEmpty))))))):=by unfold bS;simp[hk];try ac_rfl
  have ha:=fun σ=>fc x.kind σ;rw[hk,decide_eq_true (by omega)]at ha;simp -dsimp only[aw,seval,aJ,hk];refine ac (ha _) ?_;simp -dsimp only[aw,seval,Sw,e1,e2,e3,e4,e5,Su,decide_true,decide_false];rw[hp];cases h_ws:x.ws.isEmpty with
  | false=>
   simp -dsimp only[aw,seval,Sw,e1,e2,e3,e4,e5,Su,decide_true,decide_false,h_ws,Ss,Sq];first|exact al hb rfl rfl|exact am hb rfl rfl
  | true=>
  simp -dsimp only[aw,seval,Sw,e1,e2,e3,e4,e5,Su,decide_true,decide_false,h_ws,Sq];cases h_name:decide (x.name=⟨#[]⟩)with
  | false=>
   simp -dsimp only[aw,seval,Sw,e1,e2,e3,e4,e5,Su,decide_true,decide_false,h_name,Ss,Sq];first|exact al hb rfl rfl|exact am hb rfl rfl
  | true=>
  simp -dsimp only[aw,seval,Sw,e1,e2,e3,e4,e5,Su,decide_true,decide_false,h_name,Sq];cases h_idx:decide (x.idx=⟨#[]⟩)with
  | false=>
   simp -dsimp only[aw,seval,Sw,e1,e2,e3,e4,e5,Su,decide_true,decide_false,h_idx,Ss,Sq];first|exact al hb rfl rfl|exact am hb rfl rfl
  | true=>
  simp -dsimp only[aw,seval,Sw,e1,e2,e3,e4,e5,Su,decide_true,decide_false,h_idx,Sq];cases h_items:x.items.isEmpty with
  | false=>
   simp -dsimp only[aw,seval,Sw,e1,e2,e3,e4,e5,Su,decide_true,decide_false,h_items,Ss,Sq];first|exact al hb rfl rfl|exact am hb rfl rfl
  | true=>
  simp -dsimp only[aw,seval,Sw,e1,e2,e3,e4,e5,Su,decide_true,decide_false,h_items,Sq];cases h_els:x.els.isEmpty with
  | false=>
   simp -dsimp only[aw,seval,Sw,e1,e2,e3,e4,e5,Su,decide_true,decide_false,h_els,Ss,Sq];first|exact al hb rfl rfl|exact am hb rfl rfl
  | true=>
  simp -dsimp only[aw,seval,Sw,e1,e2,e3,e4,e5,Su,decide_true,decide_false,h_els,Sq];cases h_bef:x.bef.isEmpty with
  | false=>
   simp -dsimp only[aw,seval,Sw,e1,e2,e3,e4,e5,Su,decide_true,decide_false,h_bef,Ss,Sq];first|exact al hb rfl rfl|exact am hb rfl rfl
  | true=>
  simp -dsimp only[aw,seval,Sw,e1,e2,e3,e4,e5,Su,decide_true,decide_false,h_bef,Sq];first|exact al hb rfl rfl|exact am hb rfl rfl
 .have hp:bS x=(fq x.ex&&(decide (x.idx=⟨#[]⟩)&&(x.items.isEmpty&&(x.els.isEmpty&&(x.bef.isEmpty&&(x.aft.isEmpty)))))):=by unfold bS;simp[hk];try ac_rfl
  have ha:=fun σ=>fc x.kind σ;rw[hk,decide_eq_false (by omega)]at ha;simp -dsimp only[aw,seval,aJ,hk];refine ac (ha _) ?_;simp -dsimp only[aw,seval,Sw,e1,e2,e3,e4,e5,Su,decide_true,decide_false];rw[hp];refine ac (hsm _) ?_;cases h_bl:fq x.ex with
  | false=>
   simp -dsimp only[aw,seval,Sw,e1,e2,e3,e4,e5,Su,decide_true,decide_false,h_bl,Ss,Sq];first|exact al hb rfl rfl|exact am hb rfl rfl
  | true=>
  simp -dsimp only[aw,seval,Sw,e1,e2,e3,e4,e5,Su,decide_true,decide_false,h_bl,Sq];cases h_idx:decide (x.idx=⟨#[]⟩)with
  | false=>
   simp -dsimp only[aw,seval,Sw,e1,e2,e3,e4,e5,Su,decide_true,decide_false,h_idx,Ss,Sq];first|exact al hb rfl rfl|exact am hb rfl rfl
  | true=>
  simp -dsimp only[aw,seval,Sw,e1,e2,e3,e4,e5,Su,decide_true,decide_false,h_idx,Sq];cases h_items:x.items.isEmpty with
  | false=>
   simp -dsimp only[aw,seval,Sw,e1,e2,e3,e4,e5,Su,decide_true,decide_false,h_items,Ss,Sq];first|exact al hb rfl rfl|exact am hb rfl rfl
  | true=>
  simp -dsimp only[aw,seval,Sw,e1,e2,e3,e4,e5,Su,decide_true,decide_false,h_items,Sq];cases h_els:x.els.isEmpty with
  | false=>
   simp -dsimp only[aw,seval,Sw,e1,e2,e3,e4,e5,Su,decide_true,decide_false,h_els,Ss,Sq];first|exact al hb rfl rfl|exact am hb rfl rfl
  | true=>
  simp -dsimp only[aw,seval,Sw,e1,e2,e3,e4,e5,Su,decide_true,decide_false,h_els,Sq];cases h_bef:x.bef.isEmpty with
  | false=>
   simp -dsimp only[aw,seval,Sw,e1,e2,e3,e4,e5,Su,decide_true,decide_false,h_bef,Ss,Sq];first|exact al hb rfl rfl|exact am hb rfl rfl
  | true=>
  simp -dsimp only[aw,seval,Sw,e1,e2,e3,e4,e5,Su,decide_true,decide_false,h_bef,Sq];first|exact al hb rfl rfl|exact am hb rfl rfl
 .have hp:bS x=(x.ws.isEmpty&&(decide (x.name=⟨#[]⟩)&&(decide (x.idx=⟨#[]⟩)&&(x.bef.isEmpty&&(x.aft.isEmpty))))):=by unfold bS;simp[hk];try ac_rfl
  have ha:=fun σ=>fc x.kind σ;rw[hk,decide_eq_true (by omega)]at ha;simp -dsimp only[aw,seval,aJ,hk];refine ac (ha _) ?_;simp -dsimp only[aw,seval,Sw,e1,e2,e3,e4,e5,Su,decide_true,decide_false];rw[hp];cases h_ws:x.ws.isEmpty with
  | false=>
   simp -dsimp only[aw,seval,Sw,e1,e2,e3,e4,e5,Su,decide_true,decide_false,h_ws,Ss,Sq];first|exact al hb rfl rfl|exact am hb rfl rfl
  | true=>
  simp -dsimp only[aw,seval,Sw,e1,e2,e3,e4,e5,Su,decide_true,decide_false,h_ws,Sq];cases h_name:decide (x.name=⟨#[]⟩)with
  | false=>
   simp -dsimp only[aw,seval,Sw,e1,e2,e3,e4,e5,Su,decide_true,decide_false,h_name,Ss,Sq];first|exact al hb rfl rfl|exact am hb rfl rfl
  | true=>
  simp -dsimp only[aw,seval,Sw,e1,e2,e3,e4,e5,Su,decide_true,decide_false,h_name,Sq];cases h_idx:decide (x.idx=⟨#[]⟩)with
  | false=>
   simp -dsimp only[aw,seval,Sw,e1,e2,e3,e4,e5,Su,decide_true,decide_false,h_idx,Ss,Sq];first|exact al hb rfl rfl|exact am hb rfl rfl
  | true=>
  simp -dsimp only[aw,seval,Sw,e1,e2,e3,e4,e5,Su,decide_true,decide_false,h_idx,Sq];cases h_bef:x.bef.isEmpty with
  | false=>
   simp -dsimp only[aw,seval,Sw,e1,e2,e3,e4,e5,Su,decide_true,decide_false,h_bef,Ss,Sq];first|exact al hb rfl rfl|exact am hb rfl rfl
  | true=>
  simp -dsimp only[aw,seval,Sw,e1,e2,e3,e4,e5,Su,decide_true,decide_false,h_bef,Sq];first|exact al hb rfl rfl|exact am hb rfl rfl
 .have hp:bS x=(fq x.ex&&(x.ws.isEmpty&&(x.els.isEmpty&&(x.bef.isEmpty&&(x.aft.isEmpty))))):=by unfold bS;simp[hk];try ac_rfl
  have ha:=fun σ=>fc x.kind σ;rw[hk,decide_eq_false (by omega)]at ha;simp -dsimp only[aw,seval,aJ,hk];refine ac (ha _) ?_;simp -dsimp only[aw,seval,Sw,e1,e2,e3,e4,e5,Su,decide_true,decide_false];rw[hp];refine ac (hsm _) ?_;cases h_bl:fq x.ex with
  | false=>
   simp -dsimp only[aw,seval,Sw,e1,e2,e3,e4,e5,Su,decide_true,decide_false,h_bl,Ss,Sq];first|exact al hb rfl rfl|exact am hb rfl rfl
  | true=>
  simp -dsimp only[aw,seval,Sw,e1,e2,e3,e4,e5,Su,decide_true,decide_false,h_bl,Sq];cases h_ws:x.ws.isEmpty with
  | false=>
   simp -dsimp only[aw,seval,Sw,e1,e2,e3,e4,e5,Su,decide_true,decide_false,h_ws,Ss,Sq];first|exact al hb rfl rfl|exact am hb rfl rfl
  | true=>
  simp -dsimp only[aw,seval,Sw,e1,e2,e3,e4,e5,Su,decide_true,decide_false,h_ws,Sq];cases h_els:x.els.isEmpty with
  | false=>
   simp -dsimp only[aw,seval,Sw,e1,e2,e3,e4,e5,Su,decide_true,decide_false,h_els,Ss,Sq];first|exact al hb rfl rfl|exact am hb rfl rfl
  | true=>
  simp -dsimp only[aw,seval,Sw,e1,e2,e3,e4,e5,Su,decide_true,decide_false,h_els,Sq];cases h_bef:x.bef.isEmpty with
  | false=>
   simp -dsimp only[aw,seval,Sw,e1,e2,e3,e4,e5,Su,decide_true,decide_false,h_bef,Ss,Sq];first|exact al hb rfl rfl|exact am hb rfl rfl
  | true=>
  simp -dsimp only[aw,seval,Sw,e1,e2,e3,e4,e5,Su,decide_true,decide_false,h_bef,Sq];first|exact al hb rfl rfl|exact am hb rfl rfl
 .have hp:bS x=(fq x.ex&&(x.ws.isEmpty&&(decide (x.name=⟨#[]⟩)&&(decide (x.idx=⟨#[]⟩)&&(x.items.isEmpty&&(x.els.isEmpty)))))):=by unfold bS;simp[hk];try ac_rfl
  have ha:=fun σ=>fc x.kind σ;rw[hk,decide_eq_false (by omega)]at ha;simp -dsimp only[aw,seval,aJ,hk];refine ac (ha _) ?_;simp -dsimp only[aw,seval,Sw,e1,e2,e3,e4,e5,Su,decide_true,decide_false];rw[hp];refine ac (hsm _) ?_;cases h_bl:fq x.ex with
  | false=>
   simp -dsimp only[aw,seval,Sw,e1,e2,e3,e4,e5,Su,decide_true,decide_false,h_bl,Ss,Sq];first|exact al hb rfl rfl|exact am hb rfl rfl
  | true=>
  simp -dsimp only[aw,seval,Sw,e1,e2,e3,e4,e5,Su,decide_true,decide_false,h_bl,Sq];cases h_ws:x.ws.isEmpty with
  | false=>
   simp -dsimp only[aw,seval,Sw,e1,e2,e3,e4,e5,Su,decide_true,decide_false,h_ws,Ss,Sq];first|exact al hb rfl rfl|exact am hb rfl rfl
  | true=>
  simp -dsimp only[aw,seval,Sw,e1,e2,e3,e4,e5,Su,decide_true,decide_false,h_ws,Sq];cases h_name:decide (x.name=⟨#[]⟩)with
  | false=>
   simp -dsimp only[aw,seval,Sw,e1,e2,e3,e4,e5,Su,decide_true,decide_false,h_name,Ss,Sq];first|exact al hb rfl rfl|exact am hb rfl rfl
  | true=>
  simp -dsimp only[aw,seval,Sw,e1,e2,e3,e4,e5,Su,decide_true,decide_false,h_name,Sq];cases h_idx:decide (x.idx=⟨#[]⟩)with
  | false=>
   simp -dsimp only[aw,seval,Sw,e1,e2,e3,e4,e5,Su,decide_true,decide_false,h_idx,Ss,Sq];first|exact al hb rfl rfl|exact am hb rfl rfl
  | true=>
  simp -dsimp only[aw,seval,Sw,e1,e2,e3,e4,e5,Su,decide_true,decide_false,h_idx,Sq];cases h_items:x.items.isEmpty with
  | false=>
   simp -dsimp only[aw,seval,Sw,e1,e2,e3,e4,e5,Su,decide_true,decide_false,h_items,Ss,Sq];first|exact al hb rfl rfl|exact am hb rfl rfl
  | true=>
  simp -dsimp only[aw,seval,Sw,e1,e2,e3,e4,e5,Su,decide_true,decide_false,h_items,Sq];cases h_els:x.els.isEmpty with
  | false=>
   simp -dsimp only[aw,seval,Sw,e1,e2,e3,e4,e5,Su,decide_true,decide_false,h_els,Ss,Sq];first|exact al hb rfl rfl|exact am hb rfl rfl
  | true=>
  simp -dsimp only[aw,seval,Sw,e1,e2,e3,e4,e5,Su,decide_true,decide_false,h_els,Sq];first|exact al hb rfl rfl|exact am hb rfl rfl
theorem DG(x:It)(hbig:fN x≤1200000)(σ:LLV):Fun G 196 [vit x] σ (aN (.d (ab (jH x))) σ):=by
 have hb0:=ep x;refine ae Tryz.func196 Rv (by simp only[aJ];rfl) fun hb hw=>?_;unfold K6;by_cases h1:x.ws.length>16
 .have h1':((16:Int)<((x.ws.length:Nat):Int)):=by omega
  have hr:jH x=2:=by unfold jH;rw[if_pos h1]
  rw[hr];simp -dsimp only[aw,seval,aJ,Sw,decide_eq_true h1'];first|exact al hb rfl rfl|exact am hb rfl rfl
 have h1':¬((16:Int)<((x.ws.length:Nat):Int)):=by omega
 by_cases h2:x.ws=[]
 .have h2':((x.ws.length:Nat):Int)=0:=by rw[h2];rfl
  have hr:jH x=1:=by unfold jH;rw[if_neg h1,if_pos h2]
  rw[hr];simp -dsimp only[aw,seval,aJ,Sw,decide_eq_false h1',decide_eq_true h2'];first|exact al hb rfl rfl|exact am hb rfl rfl
 have h2':¬(((x.ws.length:Nat):Int)=0):=by have:=List.length_pos_iff.2 h2;omega
 have hr:jH x=if x.ws.all wtB=false then 1 else if bK x.name=true then 0 else 7:=by unfold jH;rw[if_neg h1,if_neg h2]
 rw[hr];simp -dsimp only[aw,seval,aJ,Sw,decide_eq_false h1',decide_eq_false h2'];refine eu (R:=fun(j:Nat) ρ σ'=>ρ=[(1,.ptr σ.length 0),(3,aK .i64 j)]/\σ'=σ++[[.d (ab x.kind),.d (ab x.ex.op),.d (ab x.ex.num),.d (aj x.ex.name),.d (.sl (x.ex.args.map dex)),.d (aj x.name),.d (aj x.idx),.d (.sl (x.ws.map dwt)),.d (.sl (x.items.map dit)),.d (.sl (x.els.map dit)),.d (.sl (x.bef.map fun s=>[aj s])),.d (.sl (x.aft.map fun s=>[aj s]))]]/\x.ws.all wtB=(x.ws.drop j).all wtB) x.ws.length ⟨rfl,rfl,rfl⟩ ?_ _;rintro j ρ' σ' hj ⟨rfl,rfl,hrr⟩;by_cases hlt:j<x.ws.length
 .rw[SD hlt,List.all_cons]at hrr;have hxx:x.ws[j]? = some x.ws[j]:=Sx hlt;generalize x.ws[j]=w at hrr hxx;have hd:dwt w=[ab w.lo,ab w.hi,ab w.w,dbl w.each]:=rfl;have wj:=aT hlt (show x.ws.length≤9223372036854775807 by omega);have ly:wtB w=true->x.ws.all wtB=(x.ws.drop (j+1)).all wtB:=fun h=>by rw[hrr,h,Sq]
  have bad:wtB w=false->(if x.ws.all wtB=false then(1:Int)else if bK x.name=true then 0 else 7)=1:=fun h=>by rw[hrr,h,Ss,if_pos rfl]
  by_cases q1:w.lo<0
  .rw[bad (by unfold wtB;simp;intro;omega)];simp -dsimp only[aw,seval,Sw,Sv,hlt,decide_true,hxx,hd,decide_eq_true q1];first|exact al hb rfl rfl|exact am hb rfl rfl
  by_cases q2:w.hi<w.lo
  .rw[bad (by unfold wtB;simp;intro _ _;omega)];simp -dsimp only[aw,seval,Sw,Sv,hlt,decide_true,hxx,hd,decide_eq_false q1,decide_eq_true q2];first|exact al hb rfl rfl|exact am hb rfl rfl
  by_cases q3:65535<w.hi
  .rw[bad (by unfold wtB;simp;intro _ _ _;omega)];simp -dsimp only[aw,seval,Sw,Sv,hlt,decide_true,hxx,hd,decide_eq_false q1,decide_eq_false q2,decide_eq_true q3];first|exact al hb rfl rfl|exact am hb rfl rfl
  by_cases q4:w.w<0
  .rw[bad (by unfold wtB;simp;intro _ _ _ _;omega)];simp -dsimp only[aw,seval,Sw,Sv,hlt,decide_true,hxx,hd,decide_eq_false q1,decide_eq_false q2,decide_eq_false q3,decide_eq_true q4];first|exact al hb rfl rfl|exact am hb rfl rfl
  by_cases q5:1000<w.w
  .rw[bad (by unfold wtB;simp;intro _ _ _ _;omega)];simp -dsimp only[aw,seval,Sw,Sv,hlt,decide_true,hxx,hd,decide_eq_false q1,decide_eq_false q2,decide_eq_false q3,decide_eq_false q4,decide_eq_true q5];first|exact al hb rfl rfl|exact am hb rfl rfl
  have hg:=ly (by unfold wtB;simp;omega);simp -dsimp only[aw,seval,Sw,Sv,hlt,decide_true,hxx,hd,decide_eq_false q1,decide_eq_false q2,decide_eq_false q3,decide_eq_false q4,decide_eq_false q5,wj];have e3:∀a b:List V,σ++[a,b]=(σ++[a])++[b]:=fun a b=>by simp
  rw[e3];exact Nxt.drop (by simp) (aq hb rfl) (by simp[au,V.under]) ⟨rfl,rfl,hg⟩
 .rw[SC (by omega)]at hrr;rw[hrr,SF,if_neg (by simp)];simp -dsimp only[aw,seval,Sw,Sv,hlt,decide_false];refine ac (re x.name _) ?_;cases hi:bK x.name with
  | true=>
   simp -dsimp only[aw,seval];first|exact al hb rfl rfl|exact am hb rfl rfl
  | false=>
   simp -dsimp only[aw,seval];first|exact al hb rfl rfl|exact am hb rfl rfl
theorem wb(l:List ByteArray)(hl:l.length≤1200000)(σ:LLV):Fun G 197 [.d (cT l)] σ (aN (an (l.all bK)) σ):=by
 refine ae Tryz.func197 Se rfl fun hb hw=>?_;unfold NF;simp -dsimp only[aw,seval,cT];refine eu (R:=fun(j:Nat) ρ σ'=>ρ=[(0,.d (.sl (l.map fun s=>[aj s]))),(3,aK .i64 j)]/\σ'=σ/\l.all bK=(l.drop j).all bK) l.length ⟨rfl,rfl,rfl⟩ ?_ _;rintro j ρ' σ' hj ⟨rfl,rfl,hr⟩;by_cases hlt:j<l.length
 .rw[sE l hlt]at hr;have wj:=aT hlt (show l.length≤9223372036854775807 by omega);simp -dsimp only[aw,seval,Sw,Sv,hlt,decide_true,Sx hlt];refine ac (re l[j] _) ?_;cases hi:bK l[j]with
  | true=>
   simp -dsimp only[aw,seval,wj];exact⟨hlt,Nxt.same (SG _) hb (by simp[au,V.under]) ⟨rfl,rfl,by rw[hr,hi,Sq]⟩⟩
  | false=>
   rw[hr,hi,Ss];simp -dsimp only[aw,seval];first|exact al hb rfl rfl|exact am hb rfl rfl
 .rw[SC (by omega)]at hr;rw[hr,SF];simp -dsimp only[aw,seval,Sw,Sv,hlt,decide_false];first|exact al hb rfl rfl|exact am hb rfl rfl
end Go.Proofs.YtnhphlmblenapaaGreatDoor
