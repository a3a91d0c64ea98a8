import Derived.LaidLaws
import Derived.OpenShut
import Derived.ChangeSame
import Derived.ChangeVars
import Derived.JoinedOf
import Derived.RowKitTokens
import Derived.ChangeOld
import Derived.Below
import Derived.Lib.AppendZerosOnto
import Derived.Lib.SliceRun
import Derived.Lib.Walk
import Derived.Test.YtnhphlmblenapaaGreatDoorNum7
set_option linter.unusedVariables false
set_option linter.unusedSimpArgs false
set_option linter.unusedSectionVars false
set_option maxRecDepth 100000
set_option maxHeartbeats 2000000
open Bool renaming false_eq_true->TU,true_and->TV,eq_iff_iff->TW
open Int renaming reduceEq->TX,ofNat_lt->TY
open List renaming getElem?_eq_getElem->TZ,take_left->T0,length->T3,length_map->T4,getElem?_map->T5,take_of_length_le->T6,map_append->T7,length_set->T8,take_add_one->T9,take_length->Ua,getElem_cons_zero->Ub,takeWhile_prefix->Uc,length_append->Ud,length_drop->Ue,getElem_mem->Uf,sum_append->Ug
open Nat renaming le_refl->Uh,zero_le->Ui
open Option renaming map_some->Uj,getD_some->Uk
namespace Go.Proofs.YtnhphlmblenapaaGreatDoor
open Go.RowKit
open Nat renaming reduceLeDiff -> jA, reduceBEq -> jB, reduceLT -> jC, reduceEqDiff -> jD, reduceAdd -> jE, reduceSub -> jF, reduceMul -> jG
open V renaming copy -> jV, lend -> jW, lend1 -> jX, cells -> jY, boxable -> jZ
theorem rX(l:Bs):∀(ms:List Bs) (m:Bs) (b:Nat),iG (ms++[m]) b l=if iG ms b l<m.length/\m.isPrefixOf l=true then m.length else iG ms b l
 | [],m,b=>rfl
 | a::ms,m,b=>by simp only[List.cons_append,iG];exact rX l ms m _
theorem HG(T:Int)(l:Bs)(i:Nat)(hl:l.length≤1200000)(h0:0≤T)(h1:T≤1000000000)(σ:LLV)(hi:σ[i]? = some (rdr T l)):
 Fun G 174 [.ptr i 0] σ fun o σ'=>o=.ret (.tup (if cT l=0 then[cH,.d (ac 5)]else[dE 4 0 (l.take (cT l)) (T-(l.count 10:Nat)),.d (ac 0)]))/\σ'=σ.set i (rdr T (l.drop (cT l))):=by
 have hli:i<σ.length:=(List.getElem?_eq_some_iff.1 hi).1;have hbm:=(B2 l).1;have hmk:aY.length=36:=rfl;refine ai Tryz.func174 SU rfl fun hb hw=>?_;unfold PN;have hio:=fun t=>al hi t;unfold rdr rd at hio;have hg:∀ρ,ev G ρ (.g 1)=.row [.sl (aY.map fun s=>[.lit (.string (bs s))])] 0:=fun _=>rfl;simp -dsimp only[aw,jV,jW,jX,jY,jZ,jA,reduceIte,reduceCtorEq,jB,jC,jD,jE,jF,jG,hio,hg,T4,hmk];generalize hrows:(aY.map fun s=>[D.lit (Value.string (bs s))])=rows;have hlen:rows.length=36:=by rw[<-hrows];rfl
 refine rA (R:=fun(j:Nat) ρ σ'=>ρ=[(0,.ptr i 0),(2,.ptr σ.length 0),(4,aB .i64 (iG (aY.take j) 0 l:Nat)),(8,.d (.sl rows)),(9,aB .i64 36),(10,aB .i64 j)]/\σ'=σ++[[.d (ac 0),.d (ac 0),.d (ab ⟨#[]⟩),.d (ac 0)]]) 36 ⟨rfl,rfl⟩ ?_ _;rintro j ρ' σ' hj ⟨rfl,rfl⟩;by_cases hlt:j<36
 .have hjm:j<aY.length:=hlt;have hrj:rows[j]? = some [D.lit (Value.string (bs aY[j]))]:=by rw[<-hrows,T5,TZ hjm];rfl
  have hlt':(j:Int)<36:=by omega
  have htk:aY.take (j+1)=aY.take j++[aY[j]]:=by rw[T9,TZ hjm];rfl
  have hbs:=rX l (aY.take j) aY[j] 0;rw[<-htk]at hbs;generalize hm:aY[j]=m at *;generalize hbe:iG (aY.take j) 0 l=best at *;have hml:m.length≤2:=(by decide:∀m,m∈aY->m.length≤2) m (hm▸Uf hjm)
  have next:∀b:Nat,iG (aY.take (j+1)) 0 l=b->j<36/\Nxt σ.length (fun ρ σ'=>ρ=[(0,V.ptr i 0),(2,V.ptr σ.length 0),(4,aB IntKind.i64 (iG (List.take (j+1) aY) 0 l:Nat)),(8,V.d (D.sl rows)),(9,aB IntKind.i64 36),(10,aB IntKind.i64 ((j+1:Nat):Int))]/\σ'=σ++[[V.d (ac 0),V.d (ac 0),V.d (ab {data := #[]}),V.d (ac 0)]]) [(0,.ptr i 0),(2,.ptr σ.length 0),(4,aB .i64 b),(8,.d (.sl rows)),(9,aB .i64 36),(10,aB .i64 ((j+1:Nat):Int))] (σ++[[.d (ac 0),.d (ac 0),.d (ab ⟨#[]⟩),.d (ac 0)]]) .mk:=fun b h=>
   ⟨hlt,Nxt.same (by simp) (ax hb rfl) (by simp[aq,V.under];omega) ⟨by rw[h],rfl⟩⟩
  simp -dsimp only[aw,jV,jW,jX,jY,jZ,jA,reduceIte,reduceCtorEq,jB,jC,jD,jE,jF,jG,decide_eq_true hlt',hrj,hio,bF];by_cases hgt:best<m.length
  .have hgt':(best:Int)<(m.length:Nat):=by omega
   simp -dsimp only[aw,jV,jW,jX,jY,jZ,jA,reduceIte,reduceCtorEq,jB,jC,jD,jE,jF,jG,decide_eq_true hgt',hio];refine ae (nE l m _) ?_;cases hp:m.isPrefixOf l with
   | true=>
    simp -dsimp only[aw,jV,jW,jX,jY,jZ,jA,reduceIte,reduceCtorEq,jB,jC,jD,jE,jF,jG,bF,aH hlt (by decide)];exact next _ (by rw[hbs,if_pos ⟨hgt,hp⟩])
   | false=>
    simp -dsimp only[aw,jV,jW,jX,jY,jZ,jA,reduceIte,reduceCtorEq,jB,jC,jD,jE,jF,jG,aH hlt (by decide)];exact next _ (by rw[hbs,if_neg (fun h=>by rw[hp]at h;cases h.2)])
  .have hgt':¬(best:Int)<(m.length:Nat):=by omega
   simp -dsimp only[aw,jV,jW,jX,jY,jZ,jA,reduceIte,reduceCtorEq,jB,jC,jD,jE,jF,jG,decide_eq_false hgt',aH hlt (by decide)];exact next _ (by rw[hbs,if_neg (fun h=>hgt h.1)])
 .have hlt':¬(j:Int)<36:=by omega
  simp -dsimp only[aw,jV,jW,jX,jY,jZ,jA,reduceIte,reduceCtorEq,jB,jC,jD,jE,jF,jG,decide_eq_false hlt',hio];have hbe:iG (aY.take j) 0 l=cT l:=by rw[T6 (by rw[hmk];omega)];rfl
  rw[hbe];by_cases hz:cT l=0
  .have hz':((cT l:Nat):Int)=0:=by omega
   have hself:σ.set i (rdr T (l.drop (cT l)))=σ:=by
    rw[hz,List.drop_zero,<-(List.getElem?_eq_some_iff.1 hi).2];exact List.set_getElem_self hli
   simp -dsimp only[aw,jV,jW,jX,jY,jZ,jA,reduceIte,reduceCtorEq,jB,jC,jD,jE,jF,jG,decide_eq_true hz'];rw[if_pos hz,hself];exact bQ (τ:=σ) hb (v:=.tup [cH,.d (ac 5)]) (by simp[Hn,be,dp,bL,cH,dE,fG,aw,jV,jW,jX,jY,jZ,jA,reduceIte,reduceCtorEq,jB,jC,jD,jE,jF,jG]) rfl T0 ⟨rfl,rfl⟩
  .have hz':¬((cT l:Nat):Int)=0:=by omega
   simp -dsimp only[aw,jV,jW,jX,jY,jZ,jA,reduceIte,reduceCtorEq,jB,jC,jD,jE,jF,jG,decide_eq_false hz',hio];refine dL (mu T l _ i hbm hl h0 h1 _ (al hi _)) ?_;rw[bN hi,if_neg hz];obtain⟨σ1,hs1⟩:∃x,x=σ.set i (rdr T (l.drop (cT l))):=⟨_,rfl⟩
   have hl1:σ1.length=σ.length:=by rw[hs1,T8]
   have hb1:aj σ1.length σ1=true:=by rw[hl1,hs1];exact cE hb rfl
   rw[<-hs1,<-hl1];simp -dsimp only[aw,jV,jW,jX,jY,jZ,jA,reduceIte,reduceCtorEq,jB,jC,jD,jE,jF,jG];exact bQ (τ:=σ1) hb1 (v:=.tup [dE 4 0 (l.take (cT l)) (T-(l.count 10:Nat)),.d (ac 0)]) (by simp[Hn,be,dp,bL,cH,dE,fG,aw,jV,jW,jX,jY,jZ,jA,reduceIte,reduceCtorEq,jB,jC,jD,jE,jF,jG]) rfl T0 ⟨rfl,rfl⟩
def sk(T:Int)(l:Bs)(i:Nat)(σ:LLV)(o:Out)(σ':LLV):Prop:=match cB l with
 | .err e=>o=.ret (.tup [cH,.d (ac e)])/\∃l',σ'=σ.set i (rdr T l')
 | .tok k n len=>o=.ret (.tup [dE k n (l.take len) (T-(l.count 10:Nat)),.d (ac 0)])/\σ'=σ.set i (rdr T (l.drop len))
theorem y3(c:UInt8)(r:Bs)(h1:iz c.toNat=false)(h2:d5 c.toNat=false):cB (c::r)=if cT (c::r)=0 then .err 5 else .tok 4 0 (cT (c::r)):=by
 simp only[cB,h1,h2,TU,if_false]
theorem D1(c:Int)(σ:LLV):Fun G 170 [.d (.lit (.int .i32 c))] σ (aP (.d (.lit (.bool (iz c)))) σ):=
 sa Tryz.func170 (by kernel_rfl) (by kernel_rfl) trivial fun pr w _=>(eG c w).mono fun e w' ⟨h1,h2⟩=>⟨h1,h2▸Ext.refl _⟩
theorem Da(c:Int)(σ:LLV):Fun G 172 [.d (.lit (.int .i32 c))] σ (aP (.d (.lit (.bool (d5 c)))) σ):=
 sa Tryz.func172 (by kernel_rfl) (by kernel_rfl) trivial fun pr w _=>(ig c w).mono fun e w' ⟨h1,h2⟩=>⟨h1,h2▸Ext.refl _⟩
theorem C9(n:Nat)(T:Int)(l:Bs)(hn:cT l=n)(i:Nat)(hl:l.length≤1200000)(h0:0≤T)(h1:T≤1000000000)(σ:LLV)(hi:σ[i]? = some (rdr T l)):
 Fun G 174 [.ptr i 0] σ fun o σ'=>o=.ret (.tup (if n=0 then[cH,.d (ac 5)]else[dE 4 0 (l.take n) (T-(l.count 10:Nat)),.d (ac 0)]))/\σ'=σ.set i (rdr T (l.drop n)):=by
 have h:=HG T l i hl h0 h1 σ hi;rw[hn]at h;exact h
theorem C5(n:Nat)(T:Int)(l0:Bs)(hn:cT l0=n)(c:UInt8)(r:Bs)(he:l0=c::r)(i:Nat)(hl:l0.length≤1200000)(h0:0≤T)(h1:T≤1000000000)(σ:LLV)(hi:σ[i]? = some (rdr T l0)):
 Fun G 116 [.ptr i 0] σ (sk T l0 i σ):=by
 have hix:ixV (V.d (ab (bs l0))) (V.d (.lit (.int .i64 0)))=some (aB .u8 c.toNat):=by rw[he];exact oQ c r
 have hlt:i<σ.length:=(List.getElem?_eq_some_iff.1 hi).1;refine ai Tryz.func116 TM rfl fun hb hw=>?_;unfold PZ;have hio:=fun t=>al hi t;unfold rdr rd at hio;simp -dsimp only[aw,jV,jW,jX,jY,jZ,jA,reduceIte,reduceCtorEq,jB,jC,jD,jE,jF,jG,hio,hix];rw[F5 _ c.toNat_lt];refine ae (D1 _ _) ?_
 have fin1:∀(X:List V) (σ1:LLV) (k n:Int) (tx:Bs) (ln e:Int) (B:List V),σ1.length=σ.length->σ1=σ.set i X->aj σ1.length σ1=true->sk T l0 i σ (.ret (.tup [dE k n tx ln,.d (ac e)])) σ1->
  fin σ1.length HF (sk T l0 i σ) .ret [(2,.ptr σ1.length 0),(3,.d (ac e))] (σ1++[[.d (ac k),.d (ac n),.d (ab (bs tx)),.d (ac ln)]]):=fun X σ1 k n tx ln e B g1 g2 g3 g4=>
  bQ (τ:=σ1) g3 (v:=.tup [dE k n tx ln,.d (ac e)]) (by simp[HF,be,dp,bL,dE,aw,jV,jW,jX,jY,jZ,jA,reduceIte,reduceCtorEq,jB,jC,jD,jE,jF,jG]) rfl T0 g4
 cases hlow:iz c.toNat with
 | true=>
  subst he;simp -dsimp only[aw,jV,jW,jX,jY,jZ,jA,reduceIte,reduceCtorEq,jB,jC,jD,jE,jF,jG];refine dL (GL T (c::r) i hl h0 h1 _ (al hi _)) ?_;rw[bN hi];obtain⟨σ1,hs1⟩:∃x,x=σ.set i (rdr T ((c::r).drop ((c::r).takeWhile inn).length)):=⟨_,rfl⟩
  have hl1:σ1.length=σ.length:=by rw[hs1,T8]
  have hb1:aj σ1.length σ1=true:=by rw[hl1,hs1];exact cE hb rfl
  rw[<-hs1,<-hl1];have htk:(c::r).take ((c::r).takeWhile inn).length=(c::r).takeWhile inn:=List.prefix_iff_eq_take.1 (Uc _) |>.symm
  by_cases h16:16<((c::r).takeWhile inn).length
  .rw[if_pos h16];simp -dsimp only[aw,jV,jW,jX,jY,jZ,jA,reduceIte,reduceCtorEq,jB,jC,jD,jE,jF,jG,cH,dE];refine fin1 _ σ1 0 0 [] 0 2 [] hl1 hs1 hb1 ?_;unfold sk;simp only[cB,hlow,if_true,h16];exact⟨rfl,_,hs1⟩
  .rw[if_neg h16];simp -dsimp only[aw,jV,jW,jX,jY,jZ,jA,reduceIte,reduceCtorEq,jB,jC,jD,jE,jF,jG,cH,dE];refine fin1 _ σ1 _ 0 ((c::r).takeWhile inn) _ 0 [] hl1 hs1 hb1 ?_;unfold sk;simp only[cB,hlow,if_true,h16,if_false];exact⟨by rw[htk];rfl,hs1⟩
 | false=>
  simp -dsimp only[aw,jV,jW,jX,jY,jZ,jA,reduceIte,reduceCtorEq,jB,jC,jD,jE,jF,jG];refine ae (Da _ _) ?_;cases hdig:d5 c.toNat with
  | true=>
   subst he;simp -dsimp only[aw,jV,jW,jX,jY,jZ,jA,reduceIte,reduceCtorEq,jB,jC,jD,jE,jF,jG];refine dL (zf T c r i hl hdig h0 h1 _ (al hi _)) ?_;rw[bN hi];obtain⟨σ1,hs1⟩:∃x,x=σ.set i (rdr T (r.drop (r.takeWhile dig).length)):=⟨_,rfl⟩
   have hl1:σ1.length=σ.length:=by rw[hs1,T8]
   have hb1:aj σ1.length σ1=true:=by rw[hl1,hs1];exact cE hb rfl
   rw[<-hs1,<-hl1];have htc:(c::r).takeWhile dig=c::r.takeWhile dig:=List.takeWhile_cons_of_pos hdig;have hdr:(c::r).drop ((c::r).takeWhile dig).length=r.drop (r.takeWhile dig).length:=by rw[htc];rfl
   have hall:((c::r).takeWhile inn).all dig=((c::r).takeWhile inn).all fun x=>d5 x.toNat:=rfl;have hsp:=yP (c::r);rw[hdr,htc]at hsp;by_cases hA:(1<(c::r.takeWhile dig).length/\c=48)\/(r.drop (r.takeWhile dig).length).takeWhile inn≠[]
   .rw[if_pos hA];simp -dsimp only[aw,jV,jW,jX,jY,jZ,jA,reduceIte,reduceCtorEq,jB,jC,jD,jE,jF,jG,cH,dE];refine fin1 _ σ1 0 0 [] 0 5 [] hl1 hs1 hb1 ?_
    have hcond:(((c::r).takeWhile inn).all fun x=>d5 x.toNat)=false\/(1<((c::r).takeWhile inn).length/\c=48):=by
     rcases hsp with⟨g1,g2,g3⟩|⟨g1,g2⟩
     .refine .inr ?_;rw[<-g2];exact hA.elim id (fun h=>absurd g3 h)
     .exact .inl g1
    unfold sk;simp only[cB,hlow,hdig,if_true,TU,if_false,hcond];exact⟨rfl,_,hs1⟩
   .rw[if_neg hA]
    have hsp1:((c::r).takeWhile inn).all dig=true/\c::r.takeWhile dig=(c::r).takeWhile inn:=by
     rcases hsp with⟨g1,g2,g3⟩|⟨g1,g2⟩
     .exact⟨g1,g2⟩
     .exact absurd (.inr g2) hA
    have hcond:¬((((c::r).takeWhile inn).all fun x=>d5 x.toNat)=false\/(1<((c::r).takeWhile inn).length/\c=48)):=by
     rintro(h|h)
     .rw[<-hall,hsp1.1]at h;cases h
     .rw[<-hsp1.2]at h;exact hA (.inl h)
    have hdr2:r.drop (r.takeWhile dig).length=(c::r).drop ((c::r).takeWhile inn).length:=by rw[<-hsp1.2];rfl
    have htk:(c::r).take ((c::r).takeWhile inn).length=(c::r).takeWhile inn:=List.prefix_iff_eq_take.1 (Uc _) |>.symm
    rw[hsp1.2];rw[hdr2]at hs1;by_cases hB:2147483647<eQ ((c::r).takeWhile inn)
    .rw[if_pos hB];simp -dsimp only[aw,jV,jW,jX,jY,jZ,jA,reduceIte,reduceCtorEq,jB,jC,jD,jE,jF,jG,cH,dE];refine fin1 _ σ1 0 0 [] 0 3 [] hl1 hs1 hb1 ?_;unfold sk;simp only[cB,hlow,hdig,if_true,TU,if_false,hcond,hB];exact⟨rfl,_,hs1⟩
    .rw[if_neg hB];simp -dsimp only[aw,jV,jW,jX,jY,jZ,jA,reduceIte,reduceCtorEq,jB,jC,jD,jE,jF,jG,cH,dE];refine fin1 _ σ1 _ _ ((c::r).takeWhile inn) _ 0 [] hl1 hs1 hb1 ?_;unfold sk;simp only[cB,hlow,hdig,if_true,TU,if_false,hcond,hB];exact⟨by rw[htk],hs1⟩
  | false=>
   simp -dsimp only[aw,jV,jW,jX,jY,jZ,jA,reduceIte,reduceCtorEq,jB,jC,jD,jE,jF,jG];have hrd:cB l0=if n=0 then .err 5 else .tok 4 0 n:=by rw[<-hn,he];exact y3 c r hlow hdig
   refine dL (C9 n T l0 hn i hl h0 h1 _ (al hi _)) ?_;rw[bN hi];obtain⟨σ1,hs1⟩:∃x,x=σ.set i (rdr T (l0.drop n)):=⟨_,rfl⟩
   have hl1:σ1.length=σ.length:=by rw[hs1,T8]
   have hb1:aj σ1.length σ1=true:=by rw[hl1,hs1];exact cE hb rfl
   rw[<-hs1,<-hl1];by_cases hz:n=0
   .rw[if_pos hz];rw[if_pos hz]at hrd;simp -dsimp only[aw,jV,jW,jX,jY,jZ,jA,reduceIte,reduceCtorEq,jB,jC,jD,jE,jF,jG,cH,dE];refine fin1 _ σ1 0 0 [] 0 5 [] hl1 hs1 hb1 ?_;unfold sk;rw[hrd];exact⟨rfl,_,hs1⟩
   .rw[if_neg hz];rw[if_neg hz]at hrd;simp -dsimp only[aw,jV,jW,jX,jY,jZ,jA,reduceIte,reduceCtorEq,jB,jC,jD,jE,jF,jG,cH,dE];refine fin1 _ σ1 4 0 (l0.take n) _ 0 [] hl1 hs1 hb1 ?_;unfold sk;rw[hrd];exact⟨rfl,hs1⟩
theorem bB{K P:V->LLV->Prop}{v:V}{σ:LLV}:Iw K P (.ret v) σ=K v σ:=rfl
def ny(t:Tok):List D:=[ac t.kind,ac t.num,ab t.text,ac t.line]
def sZ:Lx->V
 | .ok ts=>.tup [.d (.sl (ts.map ny)),.d (ac 0),.d (ac 0)]
 | .err n e=>.tup [.d (.sl []),.d (ac n),.d (ac e)]
def tO(l:Bs):V:=if 16384<l.length then .tup [.d (.sl []),.d (ac 0),.d (ac 2)]else sZ (gG l)
theorem yL{l:Bs}{e:Int}(h:cB l=.err e):e≠0:=by
 match l with
 | []=>cases h;decide
 | c::r=>
  simp only[cB]at h;split at h
  .split at h<;>cases h<;>decide
  .split at h
   .split at h
    .cases h;decide
    .split at h<;>cases h<;>decide
   .split at h<;>cases h<;>decide
theorem si(N:Int)(l:Bs):gk N (ck l)=gk N l:=by rw[cK,cK N l,nv]
theorem FK(x:Lx)(t:Tok)(a:List Tok):(x.cons t).app a=x.app (a++[t]):=by cases x<;>simp[Lx.cons,Lx.app]
theorem Kp(x:Lx):x.app []=x:=by cases x<;>rfl
theorem rY(l:Bs)(hl:l.length≤1200000)(σ:LLV):Fun G 58 [.d (ab (bs l))] σ (aP (tO l) σ):=by
 have hcl:l.count 10≤l.length:=List.count_le_length;refine ai Tryz.func58 k58 rfl fun hb hw=>?_;unfold c58;by_cases hbig:16384<l.length
 .have hbig':(16384:Int)<((l.length:Nat):Int):=by omega
  simp -dsimp only[aw,jV,jW,jX,jY,jZ,jA,reduceIte,reduceCtorEq,jB,jC,jD,jE,jF,jG,bF,decide_eq_true hbig'];exact aO hb (v:=tO l) (by unfold tO;rw[if_pos hbig];rfl) (by unfold tO;rw[if_pos hbig];rfl) Ua ⟨rfl,rfl⟩
 .have hbig':¬(16384:Int)<((l.length:Nat):Int):=by omega
  have hR:tO l=sZ (gG l):=by unfold tO;rw[if_neg hbig]
  rw[hR];obtain⟨T,hT⟩:∃T:Int,T=1+(l.count 10:Nat):=⟨_,rfl⟩
  have hT0:0≤T:=by omega
  have hT1:T≤1000000000:=by omega
  have htk:gG l=gk T l:=by rw[hT];rfl
  have h1:(1:Int)=T-(l.count 10:Nat):=by omega
  have hbox:[V.d (ab (bs l)),V.d (ac 1)]=rdr T l:=by unfold rdr rd;rw[h1]
  simp -dsimp only[aw,jV,jW,jX,jY,jZ,jA,reduceIte,reduceCtorEq,jB,jC,jD,jE,jF,jG,bF,decide_eq_false hbig',hbox];refine dL (yN T l σ.length hl hT0 hT1 _ (nc _)) ?_;rw[oT];simp -dsimp only[aw,jV,jW,jX,jY,jZ,jA,reduceIte,reduceCtorEq,jB,jC,jD,jE,jF,jG];refine rA (R:=fun(j:Nat) ρ σ'=>∃(acc:List Tok) (r:Bs),ck r=r/\gG l=(gk T r).app acc/\r.length+j≤l.length/\acc.length≤j/\ρ=[(5,.ptr σ.length 0),(6,.own 121 4 (acc.map ny))]/\σ'=σ++[rdr T r]) l.length ⟨[],ck l,nv l,by rw[Kp,si,htk],by have:=(gf l).length_le;omega,by simp,rfl,rfl⟩ ?_ _;rintro j ρ' σ' hj ⟨acc,r,hs,hr,hrl,hal,rfl,rfl⟩
  match hre:r with
  | []=>
   simp -dsimp only[aw,jV,jW,jX,jY,jZ,jA,reduceIte,reduceCtorEq,jB,jC,jD,jE,jF,jG,rdr,rd,ik];refine aO hb (v:=sZ (gG l)) ?_ ?_ T0 ⟨rfl,rfl⟩
   .rw[hr,cK,jd];simp only[Lx.app,List.append_nil,sZ];rfl
   .rw[hr,cK,jd];rfl
  | c::r'=>
   have hnil:=EZ c r';simp -dsimp only[aw,jV,jW,jX,jY,jZ,jA,reduceIte,reduceCtorEq,jB,jC,jD,jE,jF,jG,rdr,rd,hnil];rw[<-hre]at hs hr hrl ⊢;have hfold:[V.d (ab (bs r)),V.d (ac (T-(r.count 10:Nat)))]=rdr T r:=rfl;rw[hfold];refine aC (C5 (cT r) T r rfl c r' hre σ.length (by omega) hT0 hT1 _ (nc _)) fun o σ' hq=>?_;unfold sk at hq;have hst:=cK T r;rw[hs]at hst;cases hrd:cB r with
   | err e=>
    rw[hrd]at hq;obtain⟨rfl,l',rfl⟩:=hq;have he0:=yL hrd;rw[oT];simp -dsimp only[aw,jV,jW,jX,jY,jZ,jA,reduceIte,reduceCtorEq,jB,jC,jD,jE,jF,jG,bB,cH,dE,decide_eq_false he0]
    have hv:gG l=.err (T-(r.count 10:Nat)) e:=by
     rw[hr,hst];rw[hre]at hrd ⊢;simp only[hrd,Lx.app]
    exact aO hb (v:=sZ (gG l)) (by rw[hv];rfl) (by rw[hv];rfl) T0 ⟨rfl,rfl⟩
   | tok kd n len=>
    rw[hrd]at hq;obtain⟨rfl,rfl⟩:=hq;obtain⟨g1,g2⟩:=lY hrd;rw[oT];simp -dsimp only[aw,jV,jW,jX,jY,jZ,jA,reduceIte,reduceCtorEq,jB,jC,jD,jE,jF,jG,bB,dE,decide_true,T4];refine bI (by omega) ?_;simp -dsimp only[aw,jV,jW,jX,jY,jZ,jA,reduceIte,reduceCtorEq,jB,jC,jD,jE,jF,jG];refine dL (yN T (r.drop len) σ.length (by rw[Ue];omega) hT0 hT1 _ (nc _)) ?_;rw[oT];simp -dsimp only[aw,jV,jW,jX,jY,jZ,jA,reduceIte,reduceCtorEq,jB,jC,jD,jE,jF,jG];have hsl:=(gf (r.drop len)).length_le;rw[Ue]at hsl
    have hv:gG l=(gk T (ck (r.drop len))).app (acc++[iO T r kd n len]):=by
     rw[hr,hst,si,<-FK];rw[hre]at hrd ⊢;simp only[hrd]
    have ha2:∀a b:List V,σ++[a,b]=(σ++[a])++[b]:=fun a b=>by simp
    rw[ha2];refine⟨by omega,Nxt.drop (by simp) (ax hb rfl) (by simp[aq,V.under]) ⟨acc++[iO T r kd n len],ck (r.drop len),nv _,hv,by omega,by simp;omega,?_,rfl⟩⟩;simp only[T7,List.map_cons,List.map_nil];rfl
theorem Jz{σ:LLV}{ρ:ah}{rs:List RV}{v:V}{l:LLV}(hb:aj σ.length σ=true)(h:be (σ++l) ρ rs=some v)(hv:V.under σ.length v=true):fin σ.length rs (aP v σ) .ret ρ (σ++l):=
 aO hb h hv T0 ⟨rfl,rfl⟩
theorem zd(l:Bs)(σ:LLV):Fun G 96 [.d (ab (bs l))] σ (aP (.d (.lit (.bool (aS (bs l))))) σ):=
 rt Tryz.func96 (by kernel_rfl) (by kernel_rfl) trivial fun M bm pr w v hG hM h1=>by
  have hs:(bs l).size≤9223372036854775807:=by
   cases h1 with|d h=>cases h with|lit _ hf=>exact hf
  cases eK h1;exact g9 (bs l) w hs (rp hG.1 hM)
theorem DL(l:List ByteArray)(s:ByteArray)(hl:l.length≤1200000)(σ:LLV):Fun G 237 [.d (dy l),.d (ab s)] σ fun o σ'=>∃i:Int,o=.ret (.d (ac i))/\σ'=σ/\decide (0≤i)=inB s l:=by
 refine ai Tryz.func237 Rx rfl fun hb hw=>?_;unfold O5;simp -dsimp only[aw,jV,jW,jX,jY,jZ,jA,reduceIte,reduceCtorEq,jB,jC,jD,jE,jF,jG,dy];refine aN [0,1,7,8] (R:=fun(j:Nat) ρ σ'=>ρ=[(0,.d (.sl (l.map fun s=>[ab s]))),(1,.d (ab s)),(7,aB .i64 l.length),(8,aB .i64 j)]/\σ'=σ/\inB s l=inB s (l.drop j)) l.length ⟨rfl,rfl,rfl⟩ ?_ _;rintro j ρ' σ' hj ⟨rfl,rfl,hr⟩;by_cases hlt:j<l.length
 .have hd:inB s (l.drop j)=(decide (l[j]=s)||inB s (l.drop (j+1))):=by rw[List.drop_eq_getElem_cons hlt];rfl
  by_cases he:l[j]=s
  .simp -dsimp only[aw,jV,jW,jX,jY,jZ,jA,reduceIte,reduceCtorEq,jB,jC,jD,jE,jF,jG,TY,hlt,decide_true,TZ hlt,decide_eq_true he.symm];rw[hd,decide_eq_true he]at hr;exact aO hb rfl rfl Ua ⟨j,rfl,rfl,by rw[hr,decide_eq_true (by omega)];rfl⟩
  .simp -dsimp only[aw,jV,jW,jX,jY,jZ,jA,reduceIte,reduceCtorEq,jB,jC,jD,jE,jF,jG,TY,hlt,decide_true,TZ hlt,decide_eq_false (Ne.symm he),aH hlt (show l.length≤9223372036854775807 by omega)];rw[hd,decide_eq_false he,Bool.false_or]at hr;exact Nxt.same (Uh _) hb rfl ⟨rfl,rfl,hr⟩
 .simp -dsimp only[aw,jV,jW,jX,jY,jZ,jA,reduceIte,reduceCtorEq,jB,jC,jD,jE,jF,jG,TY,hlt,decide_false];rw[List.drop_eq_nil_of_le (by omega)]at hr;exact aO hb rfl rfl Ua ⟨-1,rfl,rfl,by rw[hr];rfl⟩
theorem wJ(l:List ByteArray)(s:ByteArray)(hl:l.length≤1200000)(σ:LLV):Fun G 201 [.d (dy l),.d (ab s)] σ (aP (.d (.lit (.bool (inB s l)))) σ):=by
 refine ai Tryz.func201 RQ rfl fun hb hw=>?_;unfold Qb;simp -dsimp only[aw,jV,jW,jX,jY,jZ,jA,reduceIte,reduceCtorEq,jB,jC,jD,jE,jF,jG];refine aC (DL l s hl _) fun o σ' ⟨i,h1,h2,h3⟩=>?_;subst h1;subst h2;simp -dsimp only[aw,jV,jW,jX,jY,jZ,jA,reduceIte,reduceCtorEq,jB,jC,jD,jE,jF,jG,bB,h3];first|exact av hb rfl rfl|exact au hb rfl rfl
theorem JX(l:Bs):inB (bs l) oj=aY.contains l:=by
 unfold inB oj;rw[List.any_map,List.contains_eq_any_beq];congr 1;funext x;rw[TW];simp only[Function.comp,decide_eq_true_eq,rJ,beq_iff_eq];exact eq_comm
theorem AE(l:Bs)(σ:LLV):Fun G 333 [.d (ab (bs l))] σ (aP (.d (.lit (.bool (aY.contains l)))) σ):=by
 refine ai Tryz.func333 Sk rfl fun hb hw=>?_;unfold Re;have hg:∀ρ,ev G ρ (.g 1)=.row [.sl (aY.map fun s=>[.lit (.string (bs s))])] 0:=fun _=>rfl;simp -dsimp only[aw,jV,jW,jX,jY,jZ,jA,reduceIte,reduceCtorEq,jB,jC,jD,jE,jF,jG,hg];refine ae (wJ oj (bs l) (by decide) _) ?_;rw[JX];simp -dsimp only[aw,jV,jW,jX,jY,jZ,jA,reduceIte,reduceCtorEq,jB,jC,jD,jE,jF,jG];first|exact av hb rfl rfl|exact au hb rfl rfl
theorem BF:∀(k u:Nat),u<10^(k+1)->(Lib.decDigits u).length≤k+1
 | 0,u,h=>by rw[Lib.decDigits,dif_pos (by simpa using h)];exact Uh _
 | k+1,u,h=>by
  rw[Lib.decDigits];split
  .simp
  .rw[Ud];have:=BF k (u/10) (by rw[Nat.pow_succ]at h;omega);simp;omega
theorem yG(n:Int)(h0:0≤n)(h1:n≤2147483647):(Lib.itoa n).length≤10:=by
 unfold Lib.itoa;rw[if_neg (by omega)];exact BF 9 _ (by omega)
def jo(t:Tok):V:=.agg [.d (ac t.kind),.d (ac t.num),.d (ab t.text),.d (ac t.line)]
theorem Fr(n:Int)(l:Bs)(ln:Int)(h0:0≤n):bq ⟨3,n,bs l,ln⟩=(decide (n≤2147483647)&&decide (bs l=bs (Lib.itoa n))):=by
 have e:Lib.itoa n=Lib.decDigits n.toNat:=by unfold Lib.itoa;rw[if_neg (by omega)]
 unfold bq;rw[if_pos rfl,e,bJ,Hs,decide_eq_true h0,TV];show(decide (n≤2147483647)&&(l==Lib.decDigits n.toNat))=_;congr 1;rw[TW];simp
theorem IJ(n:Int)(l:Bs)(ln:Int)(h0:¬0≤n):bq ⟨3,n,bs l,ln⟩=false:=by
 unfold bq;rw[if_pos rfl,decide_eq_false h0];rfl
theorem OI(n:Int)(l:Bs)(ln:Int):bq ⟨1,n,bs l,ln⟩=(decide (n=0)&&aS (bs l)):=rfl
theorem Pa(n:Int)(l:Bs)(ln:Int):bq ⟨2,n,bs l,ln⟩=(decide (n=0)&&inB (bs l) em):=rfl
theorem NI(n:Int)(l:Bs)(ln:Int):bq ⟨4,n,bs l,ln⟩=(decide (n=0)&&aY.contains l):=by
 unfold bq;rw[if_neg (by show ¬(4:Int)=3;decide),if_neg (by show ¬(4:Int)=1;decide),if_neg (by show ¬(4:Int)=2;decide),if_pos rfl,bJ]
theorem P2(k n:Int)(l:Bs)(ln:Int)(h1:¬k=1)(h2:¬k=2)(h3:¬k=3)(h4:¬k=4):bq ⟨k,n,bs l,ln⟩=false:=by
 unfold bq;rw[if_neg h3,if_neg h1,if_neg h2,if_neg h4]
theorem wK(k n:Int)(l:Bs)(ln:Int)(σ:LLV):Fun G 332 [jo ⟨k,n,bs l,ln⟩] σ (aP (.d (.lit (.bool (bq ⟨k,n,bs l,ln⟩)))) σ):=by
 unfold jo;refine ai Tryz.func332 Ru rfl fun hb hw=>?_;have hn:=Mb (BA (hw 0 (by simp)) 1 (by simp));unfold N0;by_cases h3:k=3
 .subst h3;by_cases h0:0≤n
  .rw[Fr n l ln h0];by_cases hm:n≤2147483647
   .simp -dsimp only[aw,jV,jW,jX,jY,jZ,jA,reduceIte,reduceCtorEq,jB,jC,jD,jE,jF,jG,TX,decide_true,decide_false,decide_eq_true h0,decide_eq_true hm];refine aA (sr n (by omega) (by omega) (by have:=yG n h0 hm;unfold maxLen;omega) _) ?_;simp -dsimp only[aw,jV,jW,jX,jY,jZ,jA,reduceIte,reduceCtorEq,jB,jC,jD,jE,jF,jG,Hs];rw[decide_eq_true hm,TV];exact aO hb rfl rfl T0 ⟨rfl,rfl⟩
   .simp -dsimp only[aw,jV,jW,jX,jY,jZ,jA,reduceIte,reduceCtorEq,jB,jC,jD,jE,jF,jG,TX,decide_true,decide_false,decide_eq_true h0,decide_eq_false hm];exact aO hb rfl rfl T0 ⟨rfl,rfl⟩
  .rw[IJ n l ln h0];simp -dsimp only[aw,jV,jW,jX,jY,jZ,jA,reduceIte,reduceCtorEq,jB,jC,jD,jE,jF,jG,TX,decide_true,decide_false,decide_eq_false h0];exact aO hb rfl rfl T0 ⟨rfl,rfl⟩
 by_cases h1:k=1
 .subst h1;rw[OI];by_cases hz:n=0
  .simp -dsimp only[aw,jV,jW,jX,jY,jZ,jA,reduceIte,reduceCtorEq,jB,jC,jD,jE,jF,jG,TX,decide_true,decide_false,decide_eq_true hz];refine ae (zd l _) ?_;simp -dsimp only[aw,jV,jW,jX,jY,jZ,jA,reduceIte,reduceCtorEq,jB,jC,jD,jE,jF,jG];rw[decide_eq_true hz,TV];exact aO hb rfl rfl T0 ⟨rfl,rfl⟩
  .simp -dsimp only[aw,jV,jW,jX,jY,jZ,jA,reduceIte,reduceCtorEq,jB,jC,jD,jE,jF,jG,TX,decide_true,decide_false,decide_eq_false hz];exact aO hb rfl rfl T0 ⟨rfl,rfl⟩
 by_cases h2:k=2
 .subst h2;rw[Pa];by_cases hz:n=0
  .simp -dsimp only[aw,jV,jW,jX,jY,jZ,jA,reduceIte,reduceCtorEq,jB,jC,jD,jE,jF,jG,TX,decide_true,decide_false,decide_eq_true hz];refine ae (wX l _) ?_;simp -dsimp only[aw,jV,jW,jX,jY,jZ,jA,reduceIte,reduceCtorEq,jB,jC,jD,jE,jF,jG];rw[decide_eq_true hz,TV];exact aO hb rfl rfl T0 ⟨rfl,rfl⟩
  .simp -dsimp only[aw,jV,jW,jX,jY,jZ,jA,reduceIte,reduceCtorEq,jB,jC,jD,jE,jF,jG,TX,decide_true,decide_false,decide_eq_false hz];exact aO hb rfl rfl T0 ⟨rfl,rfl⟩
 by_cases h4:k=4
 .subst h4;rw[NI];by_cases hz:n=0
  .simp -dsimp only[aw,jV,jW,jX,jY,jZ,jA,reduceIte,reduceCtorEq,jB,jC,jD,jE,jF,jG,TX,decide_true,decide_false,decide_eq_true hz];refine ae (AE l _) ?_;simp -dsimp only[aw,jV,jW,jX,jY,jZ,jA,reduceIte,reduceCtorEq,jB,jC,jD,jE,jF,jG];rw[decide_eq_true hz,TV];exact aO hb rfl rfl T0 ⟨rfl,rfl⟩
  .simp -dsimp only[aw,jV,jW,jX,jY,jZ,jA,reduceIte,reduceCtorEq,jB,jC,jD,jE,jF,jG,TX,decide_true,decide_false,decide_eq_false hz];exact aO hb rfl rfl T0 ⟨rfl,rfl⟩
 rw[P2 k n l ln h1 h2 h3 h4];simp -dsimp only[aw,jV,jW,jX,jY,jZ,jA,reduceIte,reduceCtorEq,jB,jC,jD,jE,jF,jG,decide_eq_false h1,decide_eq_false h2,decide_eq_false h3,decide_eq_false h4];exact aO hb rfl rfl T0 ⟨rfl,rfl⟩
theorem qD{P:Program}{W:World}{n:String}{d:DataW Unit}:∀{l:List (String×DataW Unit)} {ps:List MemPlace},DataW.LaidVars P W l ps->(n,d)∈l->
 ∃g t cs fuel p,P.globalNamed n=some g/\(P.globals[g]?).map (·.type)=some t/\W.var? P n=some cs/\DataW.trod (fun _=>()) P W 0 (fun _=>true) false fuel t cs.toList=some (d,p)
 | [],_,_,h=>by cases h
 | (n',d')::r,ps,hv,h=>by
  obtain⟨g,t,cs,fuel,p,q,h1,h2,h3,h4,h5,-⟩:=hv;rcases List.mem_cons.1 h with h|h
  .cases h;exact⟨g,t,cs,fuel,p,h1,h2,h3,h4⟩
  .exact qD h5 h
theorem pB{W:World}{n:String}{g:Nat}{l:List ByteArray}{d:DataW Unit}(hg:Tryz.prog.globalNamed n=some g)(ht:(Tryz.prog.globals[g]?).map (·.type)=some 52)(hd:d=.slice (l.map fun s=>.lit (.string s.data.toList)) [])(hl:0<l.length)
 {cs:Array Value}{fuel:Nat}{p:List MemPlace}(hvar:W.var? Tryz.prog n=some cs)(hr:DataW.trod (fun _=>()) Tryz.prog W 0 (fun _=>true) false fuel 52 cs.toList=some (d,p)):∃v,W.cell? ⟨g,0,none⟩=some v/\fB W l v:=by
 subst hd;rcases DataW.trod_slice Tryz.underlying52 hr with⟨-,hx⟩|⟨ad,len,cap,elems,rest,n',hn',g3,hx,hb,hl',hm,hlen2,hel,-,-⟩
 .simp at hx
 .simp only[Prod.mk.injEq,DataW.slice.injEq]at hx;obtain⟨⟨hx1,-⟩,-⟩:=hx;have hlen:len=l.length:=by have h9:=congrArg T3 hx1;rw[T4,T4]at h9;rw[<-hlen2,h9]
  have hc0:=World.var?_cell hg hvar 0;have hv:cs.toList[0]? = some (.slice (some ad) len cap):=by rw[g3];rfl
  refine⟨.slice (some ad) len cap,by rw[hc0];simpa using hv,?_⟩
  have hcell:∀i (hi:i<len),∃s:ByteArray,W.cell? (ad.add i)=some (.string s)/\l[i]? = some s:=by
   intro i hi;have h1:=hel i hi;rw[show Tryz.prog.cellsOf 9=1 by kernel_rfl,Nat.mul_one,TZ (by omega)]at h1;obtain⟨cs',hc,ht⟩:=Option.bind_eq_some_iff.1 h1;obtain⟨-,hcl,hcc⟩:=World.cells?_some hc;obtain⟨s,rfl,hs,-⟩:=DataW.trod_string Tryz.underlying9 ht;have h2:=hcc 0 (by omega);refine⟨s,by simpa[Addr.add]using h2,?_⟩;have h3:=congrArg (·[i]?) hx1;simp only[T5,TZ (show i<elems.length by omega),Uj,hs]at h3;rw[Option.map_eq_some_iff]at h3;obtain⟨s',h4,h5⟩:=h3;rw[h4];simp only[DataW.lit.injEq,Lit.string.injEq]at h5;congr 1;cases s';cases s;simp at h5;simp[h5]
  have hsp:ad.spot=none:=by
   obtain⟨s,h1,-⟩:=hcell 0 (by rw[hlen];exact hl);have:=Eo h1;simpa[Addr.add]using this
  rw[hlen];refine⟨some ad,cap,rfl,by omega,hm,fun i s hi=>⟨ad.block,ad.off,by cases ad;simp_all,?_⟩⟩;obtain⟨s',h1,h2⟩:=hcell i (by rw[hlen];exact(List.getElem?_eq_some_iff.1 hi).1);rw[hi]at h2;cases h2
  have ha:ad.add i=⟨ad.block,ad.off+i,none⟩:=by
   cases ad;simp only at hsp;subst hsp;unfold Addr.add;by_cases h:i=0
   .subst h;simp
   .simp[h]
  rw[ha]at h1;exact h1
theorem zm{w:World}{l:List ByteArray}{v:Value}(h:fB w l v)(hs:∀s,s∈l->s.size≤maxLen):DRep (mem w) (dy l) v:=by
 obtain⟨p,cap,rfl,h4,h5,h6⟩:=h;have hlen:l.length=(l.map fun s=>[ab s]).length:=by simp
 unfold dy;rw[hlen];refine .sl _ 1 p cap (fun i _=>.string (l[i]?.getD ⟨#[]⟩)) (fun r hr=>?_) (fun i j hi hj=>?_) (fun i hi=>?_) (by omega) h5
 .obtain⟨s,-,rfl⟩:=List.mem_map.1 hr;rfl
 .have hi':i<l.length:=by simpa using hi
  have hj0:j=0:=by simpa using hj
  subst hj0;simp only[List.getElem_map,Ub,TZ hi',Uk];exact .lit _ (hs _ (Uf hi'))
 .have hi':i<l.length:=by simpa using hi
  obtain⟨b,off,h7,h8⟩:=h6 i _ (TZ hi');refine⟨b,off,h7,fun j hj=>?_⟩;have hj0:j=0:=by omega
  subst hj0;simp only[TZ hi',Uk];simpa[mem]using h8
def vp:List (String×DataW Unit):=[("math/bits.deBruijn32tab",Rows.laid_math_bits_deBruijn32tab),("math/bits.deBruijn64tab",Rows.laid_math_bits_deBruijn64tab),("internal/strconv.uint64pow10",Rows.laid_internal_strconv_uint64pow10),("strconv.ErrRange",Rows.laid_strconv_ErrRange),("strconv.ErrSyntax",Rows.laid_strconv_ErrSyntax),("testbench/lexer.keywords",Rows.laid_testbench_lexer_keywords),("testbench/lexer.marks",Rows.laid_testbench_lexer_marks)]
theorem QN{w:World}(h:laidMet Tryz.prog vp w):G.glob (mem w) (fun b=>b<w.heap.size) w:=by
 obtain⟨ps,hv,-,hpl⟩:=h;have at':=fun n d=>@qD Tryz.prog w n d vp ps hv;refine⟨fun g cs hg=>?_,fun g p hg=>?_⟩
 .change (if g=0 then some [dy em]else if g=1 then some [.sl (aY.map fun s=>[.lit (.string (bs s))])]else none)=some cs at hg
  have fin:∀(l:List ByteArray),(∃v,w.cell? ⟨g,0,none⟩=some v/\fB w l v)->(∀s,s∈l->s.size≤maxLen)->cs=[dy l]->∃val:Nat->Value,(∀j,j<cs.length->mem w g j=some (val j))/\∀j (h:j<cs.length),DRep (mem w) cs[j] (val j):=by
   rintro l ⟨v,h1,h2⟩ hs rfl;refine⟨fun _=>v,fun j hj=>?_,fun j hj=>?_⟩
   .have hj0:j=0:=by simpa using hj
    subst hj0;exact h1
   .have hj0:j=0:=by simpa using hj
    subst hj0;exact zm h2 hs
  split at hg
  .rename_i e;subst e;obtain⟨g',t,vs,fuel,p,h1,h2,h3,h4⟩:=at' "testbench/lexer.keywords" Rows.laid_testbench_lexer_keywords (by simp[vp]);obtain rfl:=Option.some.inj ((show Tryz.prog.globalNamed "testbench/lexer.keywords" = some 0 by kernel_rfl).symm.trans h1);obtain rfl:=Option.some.inj ((show(Tryz.prog.globals[0]?).map (·.type)=some 52 by kernel_rfl).symm.trans h2);exact fin em (pB h1 h2 (show Rows.laid_testbench_lexer_keywords (H:=Unit)=.slice (em.map fun s=>.lit (.string s.data.toList)) []by kernel_rfl) (by decide) h3 h4) (by decide +kernel) (by simpa using hg.symm)
  .split at hg
   .rename_i e;subst e;obtain⟨g',t,vs,fuel,p,h1,h2,h3,h4⟩:=at' "testbench/lexer.marks" Rows.laid_testbench_lexer_marks (by simp[vp]);obtain rfl:=Option.some.inj ((show Tryz.prog.globalNamed "testbench/lexer.marks" = some 1 by kernel_rfl).symm.trans h1);obtain rfl:=Option.some.inj ((show(Tryz.prog.globals[1]?).map (·.type)=some 52 by kernel_rfl).symm.trans h2);exact fin oj (pB h1 h2 (show Rows.laid_testbench_lexer_marks (H:=Unit)=.slice (oj.map fun s=>.lit (.string s.data.toList)) []by kernel_rfl) (by decide) h3 h4) (by decide +kernel) (by have:=Option.some.inj hg;rw[<-this];unfold dy oj;rw[List.map_map];rfl)
   .cases hg
 .have block:∀{n:String} {g:Nat} {cs:Array Value},Tryz.prog.globalNamed n=some g->w.var? Tryz.prog n=some cs->g<w.heap.size/\∃T z,w.heap[g]? = some (.cells cs T z):=by
   intro n g cs h1 h2;unfold World.var? at h2;rw[h1,Option.bind_some]at h2;split at h2
   .rename_i cs' T z hh;cases h2;exact⟨(Array.getElem?_eq_some_iff.1 hh).1,T,z,hh⟩
   .cases h2
  change (if g=3 then some (fun cs=>cs=(Lib.pow10Tab.map fun z=>Value.int .u64 z).toArray)else if g=5 then some (fun cs=>∃t x,cs[0]? = some (.iface t x))else none)=some p at hg;split at hg
  .rename_i e;subst e;cases hg;obtain⟨g',t,vs,fuel,p,h1,h2,h3,h4⟩:=at' "internal/strconv.uint64pow10" Rows.laid_internal_strconv_uint64pow10 (by simp[vp]);obtain rfl:=Option.some.inj ((show Tryz.prog.globalNamed "internal/strconv.uint64pow10" = some 3 by kernel_rfl).symm.trans h1);obtain rfl:=Option.some.inj ((show(Tryz.prog.globals[3]?).map (·.type)=some 271 by kernel_rfl).symm.trans h2);obtain⟨k1,T,z,k2⟩:=block h1 h3;refine⟨k1,vs,T,z,k2,?_⟩;have e:Rows.laid_internal_strconv_uint64pow10 (H:=Unit)=Lib.tabData .u64 Lib.pow10Tab:=by kernel_rfl
   rw[e]at h4;have:=Lib.cells_of_tab (n:=20) Tryz.underlying271 Tryz.underlying207 (by kernel_rfl) (by kernel_rfl) h4;rw[<-this]
  .split at hg
   .rename_i e;subst e;cases hg;obtain⟨g',t,vs,fuel,p,h1,h2,h3,h4⟩:=at' "strconv.ErrRange" Rows.laid_strconv_ErrRange (by simp[vp]);obtain rfl:=Option.some.inj ((show Tryz.prog.globalNamed "strconv.ErrRange" = some 5 by kernel_rfl).symm.trans h1);obtain rfl:=Option.some.inj ((show(Tryz.prog.globals[5]?).map (·.type)=some 140 by kernel_rfl).symm.trans h2);obtain⟨k1,T,z,k2⟩:=block h1 h3;refine⟨k1,vs,T,z,k2,?_⟩;cases fuel with
    | zero=>simp[DataW.trod]at h4
    | succ fuel=>
     obtain⟨ms,hms⟩:∃ms,Tryz.prog.underlying 140=some (.interface ms):=⟨_,Tryz.underlying140⟩
     unfold DataW.trod at h4;rw[hms]at h4
     have hl:∃a,vs.toList=[a]/\∃t x,a=.iface t x:=by
      split at h4<;>simp_all[Rows.laid_strconv_ErrRange]
     obtain⟨a,ha,t,x,rfl⟩:=hl;exact⟨t,x,by rw[<-Array.getElem?_toList,ha];rfl⟩
   .cases hg
theorem tQ{f:FuncId}{args:List V}{vs:List Value}{u:Value}{w:World}(hk:laidMet Tryz.prog vp w)(h:Fun G f args [] (aP (.d (.lit u)) []))(hl:vs.length=args.length)
 (hr:∀i (h:i<args.length) (h':i<vs.length),Rep (mem w) [] args[i] vs[i]):Calls Tryz.prog f vs.toArray w fun e w'=>e=.returned u/\Ext w w':=by
 refine(h.2 _ _ _ _ _ _ (QN hk) (Cj w) (fun _=>rfl) hl hr).mono fun e w' ⟨M',bm',tk',σ',o,⟨h1,h2⟩,h3,h4,h5⟩=>?_;subst h1;obtain⟨v,h6,h7,-⟩:=h5.1 _ rfl;cases h7 with
 | d h7=>
 cases h7 with
 | lit _ _=>exact⟨h6,h4.os,h4.tape,h4.output,h4.size,fun b hb=>h4.keep b hb⟩
end Go.Proofs.YtnhphlmblenapaaGreatDoor
namespace Go.Proofs.YtnhphlmblenapaaGreatDoor
open Go.ChangeShapes Go.WideShapes Go.RowKit
theorem Tryz.own:ownKnob Tryz.prog.godebug=none:=by kernel_rfl
theorem Tryz.laidOut:laidOutB Tryz.prog=true:=by kernel_rfl
def js(w:World)(g:Nat)(cs:Array Value):World:=
 {w with heap:=w.heap.modify g fun
   | .cells _ t frozen=>.cells cs t frozen
   | o=>o}
noncomputable def pL(os:Os):World:=
 let w0:=World.holding Tryz.prog os ⟨#[],#[],[]⟩;let n:=w0.heap.size;let w1:=(((w0.alloc (.cells (em.map Value.string).toArray 9)).alloc (.cells (oj.map Value.string).toArray 9)).alloc (.cells #[.string ⟨#[118,97,108,117,101,32,111,117,116,32,111,102,32,114,97,110,103,101]⟩] 285)).alloc (.cells #[.string ⟨#[105,110,118,97,108,105,100,32,115,121,110,116,97,120]⟩] 285);let w2:=js w1 0 #[.slice (some ⟨n,0,none⟩) 24 24];let w3:=js w2 1 #[.slice (some ⟨n+1,0,none⟩) 36 36];let w4:=js w3 5 #[.iface 283 (.pointer (some ⟨n+2,0,none⟩))];let w5:=js w4 4 #[.iface 283 (.pointer (some ⟨n+3,0,none⟩))];let w6:=js w5 3 (Lib.pow10Tab.map fun z=>Value.int .u64 z).toArray;let w7:=js w6 6 (([0,1,28,2,29,14,24,3,30,22,20,15,25,17,4,8,31,27,13,23,21,19,16,7,26,12,18,6,11,5,10,9]:List Int).map fun z=>Value.int .u8 z).toArray
 js w7 7 (([0,1,56,2,57,49,28,3,61,58,42,50,38,29,17,4,62,47,59,36,45,43,51,22,53,39,33,30,24,18,12,5,63,55,48,27,60,41,37,16,46,35,44,21,52,32,23,11,54,26,40,15,34,20,31,10,25,14,19,9,13,8,7,6]:List Int).map fun z=>Value.int .u8 z).toArray
theorem tN(os:Os)(args:Array Value):laidMet Tryz.prog vp ((pL os).forCall (fun _ _=>0) ⟨#[],args,[]⟩).memory:=
 laidMet_of_run' 8 (by kernel_rfl) (by kernel_rfl)
theorem Ext.below{w w':World}(h:Ext w w'):Below w.heap.size w w':=⟨h.os,h.tape,h.output,h.size,h.block⟩
theorem sp{H:Type}{enc:TypeId×Value->H}{w:World}{t:TypeId}{v:Value}{d:DataW H}{p:List MemPlace}{base:Nat}{spare:Nat->Bool}{held:Bool}(h:DataW.Trod enc Tryz.prog w base spare held t v d p):∀x∈p,x.block<w.heap.size:=by
 obtain⟨m,hm⟩:=h;exact DataW.trod_lt m _ _ _ hm
section
variable {H : Type} {enc : TypeId × Value -> H} {w : World} {v : Value} {d : DataW H} {p : List MemPlace} {base : Nat} {spare : Nat -> Bool} {held : Bool}
theorem FO(h:DataW.Trod enc Tryz.prog w base spare held 9 v d p)(hv:Value.okWide Tryz.prog w .any base 9 v):∃l:Bs,Rep (mem w) [] (V.d (ab (bs l))) v:=by
 obtain⟨n,rfl⟩:=okWide_string Tryz.underlying9 hv;obtain⟨fuel,hf⟩:=h;cases fuel with
 | zero=>simp[DataW.trod]at hf
 | succ m=>
  obtain⟨o,g0,-,w0⟩:=DataW.trod_string Tryz.underlying9 hf;cases g0;exact⟨n.data.toList,by rw[ec];exact .d (.lit _ w0)⟩
instance:Inhabited Tok:=⟨⟨0,0,⟨#[]⟩,0⟩⟩
end
end Go.Proofs.YtnhphlmblenapaaGreatDoor
namespace Go.Proofs.YtnhphlmblenapaaGreatDoor
open Go.RowKit
open Nat renaming reduceLeDiff -> jA, reduceBEq -> jB, reduceLT -> jC, reduceEqDiff -> jD, reduceAdd -> jE, reduceSub -> jF, reduceMul -> jG
open V renaming copy -> jV, lend -> jW, lend1 -> jX, cells -> jY, boxable -> jZ
theorem Tryz.under_strs:Tryz.prog.underlying 52=some (.slice 9):=by kernel_rfl
theorem Tryz.under_int:Tryz.prog.underlying 3=some (.int .i64):=by kernel_rfl
theorem DA(w:World):Calls Tryz.prog 179 #[.slice none 0 0,.int .i64 0] w fun e w'=>e=.returned (.slice none 0 0)/\w'=w:=by
 have h2:wrap64 ((0:Int)-(0:Int))=0:=by unfold wrap64;omega
 go_enter Tryz.func179,Tryz.ntmps179;go_wp2_with fail;go_ret;exact⟨rfl,rfl⟩
theorem FA(n:Nat)(h0:0<n)(hn:n≤1200000)(w:World):Calls Tryz.prog 179 #[.slice none 0 0,.int .i64 n] w fun e w'=>
 e=.returned (.slice (some ⟨w.heap.size,0,none⟩) 0 (grownCap w n 0 9))/\
  w'=w.drew.alloc (.cells (Builtin.zeroCells #[.string ⟨#[]⟩] n++Builtin.zeroCells #[.string ⟨#[]⟩] (grownCap w n 0 9-n)) 9):=by
 obtain⟨i0,hi0,hz0,hs0,hb0⟩:∃i0,Tryz.prog.info? 9=some i0/\i0.zero=some (.string ⟨#[]⟩)/\i0.size=1/\i0.bytes=16:=by
  have h:=Tryz.infoS;cases hi:Tryz.prog.info? 9 with
  | none=>rw[hi]at h;cases h
  | some i0=>rw[hi]at h;simp only[Uj,Option.some.injEq,Prod.mk.injEq]at h;exact⟨i0,rfl,h.1,h.2.1,h.2.2⟩
 have h1:¬((n:Int)<0):=by omega
 have h2:wrap64 ((0:Int)-(0:Int))=0:=by unfold wrap64;omega
 have h3:wrap64 ((n:Int)-0)=n:=by unfold wrap64;omega
 have h4:(n:Int)>0:=by omega
 have hold:(Builtin.firstCells i0.size 0 (.slice none 0 0)).run Tryz.prog w.drew=.ok (#[]:Array Value) w.drew:=run_firstCells_none w.drew i0.size 0 0 0
 have hrz:∀ty,(Builtin.append_ #[52,3] ty #[.slice none 0 0,.int .i64 (n:Int)]).run Tryz.prog w=
  .ok (.slice (some ⟨w.heap.size,0,none⟩) n (grownCap w n 0 9)) (w.drew.alloc (.cells (Builtin.zeroCells #[.string ⟨#[]⟩] n++Builtin.zeroCells #[.string ⟨#[]⟩] (grownCap w n 0 9-n)) 9)):=fun ty=>by
  have h:=Lib.run_append_grow_zeros w 52 3 ty 9 i0 _ .i64 .i64 Tryz.under_strs Tryz.under_int hi0 hz0 none 0 0 [] hold n (by omega) (by omega) (by omega) (by omega) (by rw[hb0];omega)
   (growslice_fits (by omega) (by rw[hb0];omega))
  simp only[Nat.zero_add]at h;rw[h];simp[Value.cells]
 have hGn:n≤grownCap w n 0 9:=grownCap_ge w _ _ _;obtain⟨G,hG⟩:∃G,G=grownCap w n 0 9:=⟨_,rfl⟩
 rw[<-hG]at hrz hGn ⊢
 have hG63:G≤9223372036854775807:=by
  have:=grownCap_le_maxLen w n 0 9 (by unfold maxLen;omega);rw[<-hG]at this;unfold maxLen at this;omega
 clear hold hG;go_enter Tryz.func179,Tryz.ntmps179;go_wp2_with (at_builtin;refine Lib.wpList_append_run _ rfl _ _ _ _ rfl _ _ rfl rfl _ _ (hrz _) ?_);all_goals (go_ret;exact⟨rfl,rfl⟩)
theorem Gk(n:Nat)(hn:n≤1200000)(σ:LLV):Fun G 179 [.nil,.d (ac n)] σ (aP (.own 9 1 []) σ):=
 pt (l:=[]) Tryz.func179 (by kernel_rfl) (by kernel_rfl) fun M bm w vs hG hM hl hr=>match vs,hl with
  | [v,u],_=>by
   refine⟨by simp,?_⟩;have h1:Rep M bm .nil v:=hr 0 (by simp) (by simp);have h2:Rep M bm (.d (ac n)) u:=hr 1 (by simp) (by simp);cases h1 with
   | nil=>cases h2 with
    | d h2=>cases h2 with
     | lit _ _=>
      by_cases h0:n=0
      .subst h0;refine(DA w).mono fun e w' ⟨h3,h4⟩=>?_;subst h4;exact⟨_,h3,⟨rfl,.inl ⟨rfl,rfl⟩⟩,(fun k hk=>by cases hk),Ext.refl _⟩
      .refine(FA n (by omega) hn w).mono fun e w' ⟨h3,h4⟩=>?_;subst h4;have hGn:n≤grownCap w n 0 9:=grownCap_ge w _ _ _;have hGm:=grownCap_le_maxLen w n 0 9 (by unfold maxLen;omega);refine⟨_,h3,⟨rfl,.inr ⟨w.heap.size,_,_,rfl,Ui _,heap_alloc_new w.drew _,Ui _,hGm,?_,rfl⟩⟩,fun k hk=>?_,((Ext.refl w).drew).alloc _⟩
       .simp only[Array.size_append,size_zeroCells,List.size_toArray,List.length_cons,List.length_nil];omega
       .simp only[Value.ownBlock,Option.some.injEq]at hk;omega
theorem Ap(ls:List (List ByteArray))(hs:(ls.map T3).sum≤1200000)(hn:ls.length≤1200000)(σ:LLV):
 Fun G 128 [.d (.sl (ls.map fun l=>[D.sl (l.map fun s=>[ab s])]))] σ (aP (.own 9 1 (ls.flatten.map fun s=>[ab s])) σ):=by
 refine ai Tryz.func128 TC rfl fun hb hw=>?_;unfold Oi;generalize hrows:(ls.map fun l=>[D.sl (l.map fun s=>[ab s])])=rows;have hrl:rows.length=ls.length:=by rw[<-hrows,T4]
 have hre:∀j (h:j<ls.length),rows[j]? = some [D.sl (ls[j].map fun s=>[ab s])]:=fun j h=>by rw[<-hrows,T5,TZ h];rfl
 have hle:∀j,((ls.take j).map T3).sum≤(ls.map T3).sum:=fun j=>by
  conv=>rhs;rw[<-List.take_append_drop j ls]
  rw[T7,Ug];omega
 simp -dsimp only[aw,jV,jW,jX,jY,jZ,jA,reduceIte,reduceCtorEq,jB,jC,jD,jE,jF,jG,hrl];refine aN [0,3,9,10,11] (R:=fun(j:Nat) ρ σ'=>ρ=[(0,.d (.sl rows)),(3,aB .i64 (((ls.take j).map T3).sum:Nat)),(9,.d (.sl rows)),(10,aB .i64 ls.length),(11,aB .i64 j)]/\σ'=σ) ls.length ⟨rfl,rfl⟩ ?_ _;rintro j ρ' σ' hj ⟨rfl,rfl⟩;by_cases hlt:j<ls.length
 .have ht:((ls.take (j+1)).map T3).sum=((ls.take j).map T3).sum+ls[j].length:=by
   rw[T9,TZ hlt,T7,Ug];show _+(ls[j].length+0)=_;omega
  have h1:=hle (j+1);have hw1:IntKind.i64.wrap ((((ls.take j).map T3).sum:Nat)+(ls[j].length:Int))=(((ls.take (j+1)).map T3).sum:Nat):=by rw[ba (by omega) (by omega),ht];omega
  have hng:¬((((ls.take (j+1)).map T3).sum:Nat):Int)<0:=by omega
  simp -dsimp only[aw,jV,jW,jX,jY,jZ,jA,reduceIte,reduceCtorEq,jB,jC,jD,jE,jF,jG,TY,hlt,decide_true,hre j hlt,hw1,decide_eq_false hng,aH hlt (show ls.length≤9223372036854775807 by omega)];exact Nxt.same (Uh _) hb rfl ⟨rfl,rfl⟩
 .simp -dsimp only[aw,jV,jW,jX,jY,jZ,jA,reduceIte,reduceCtorEq,jB,jC,jD,jE,jF,jG,TY,hlt,decide_false];rw[T6 (show ls.length≤j by omega)];refine ae (Gk _ hs _) ?_;simp -dsimp only[aw,jV,jW,jX,jY,jZ,jA,reduceIte,reduceCtorEq,jB,jC,jD,jE,jF,jG,hrl];refine aN [6,25,26,27] (R:=fun(j:Nat) ρ σ''=>ρ=[(6,.own 9 1 ((ls.take j).flatten.map fun s=>[ab s])),(25,.d (.sl rows)),(26,aB .i64 ls.length),(27,aB .i64 j)]/\σ''=σ') ls.length ⟨rfl,rfl⟩ ?_ _;rintro j ρ' σ'' hj ⟨rfl,rfl⟩;by_cases hlt:j<ls.length
  .have ht:(ls.take (j+1)).flatten=(ls.take j).flatten++ls[j]:=by
    rw[T9,TZ hlt,List.flatten_append];simp
   have h1:=hle (j+1);have h2:((ls.take j).flatten++ls[j]).length=((ls.take (j+1)).map T3).sum:=by rw[<-ht,List.length_flatten]
   rw[Ud]at h2;have hal:(ls[j].map fun s=>[ab s]).all (fun r=>r.length==1)=true:=by rw[List.all_map];exact List.all_eq_true.2 fun _ _=>rfl
   simp -dsimp only[aw,jV,jW,jX,jY,jZ,jA,reduceIte,reduceCtorEq,jB,jC,jD,jE,jF,jG,TY,hlt,decide_true,hre j hlt,hal];refine bI (by first|omega|(simp only[T4];omega)) ?_;simp -dsimp only[aw,jV,jW,jX,jY,jZ,jA,reduceIte,reduceCtorEq,jB,jC,jD,jE,jF,jG,aH hlt (show ls.length≤9223372036854775807 by omega)];refine⟨hlt,Nxt.same (Uh _) hb rfl ⟨?_,rfl⟩⟩;rw[ht,T7]
  .simp -dsimp only[aw,jV,jW,jX,jY,jZ,jA,reduceIte,reduceCtorEq,jB,jC,jD,jE,jF,jG,TY,hlt,decide_false];rw[T6 (show ls.length≤j by omega)];first|exact av hb rfl rfl|exact au hb rfl rfl
end Go.Proofs.YtnhphlmblenapaaGreatDoor
namespace Go.Proofs.YtnhphlmblenapaaGreatDoor
open Go.RowKit Go.Shelf
theorem xP{w:World}{base T k n:Nat}{v:Value}{xs:List Value}(h:w.ownsRow base T k v n xs):w.ownsRow 0 T k v n xs:=
 ⟨h.1,h.2.imp id fun⟨g,cap,cur,a,b,c⟩=>⟨g,cap,cur,a,Ui _,c⟩⟩
theorem KM:∃i0,Tryz.prog.info? 9=some i0/\i0.zero=some (.string ⟨#[]⟩)/\i0.size=1/\i0.bytes=16:=by
 have h:(Tryz.prog.info? 9).map (fun i=>(i.zero,i.size,i.bytes))=some (some (.string ⟨#[]⟩),1,16):=by kernel_rfl
 cases hi:Tryz.prog.info? 9 with
 | none=>rw[hi]at h;cases h
 | some i0=>rw[hi]at h;simp only[Uj,Option.some.injEq,Prod.mk.injEq]at h;exact⟨i0,rfl,h.1,h.2.1,h.2.2⟩
theorem D9(l:List ByteArray)(hl:l.length≤1200000)(v:Value)(w:World)(hv:fB w l v):Calls Tryz.prog 123 #[v] w (vI l w):=by
 obtain⟨p,cap,rfl,h1,h2,h3⟩:=hv
 have fin:∀e w',(∃v',e=Ending.returned v'/\w'.ownsRow w.heap.size 9 1 v' l.length (l.map Value.string)/\v'≠.slice none 0 0/\Below w.heap.size w w')->vI l w e w':=fun e w' ⟨v',g1,g2,_,g4⟩=>
  ⟨v',g1,xP g2,(fun k hk=>(g2.lt k hk).1),g4⟩
 cases p with
 | none=>
  have hl0:l=[]:=by
   cases l with
   | nil=>rfl
   | cons a r=>obtain⟨b,off,e,-⟩:=h3 0 a rfl;cases e
  subst hl0;refine(AnyE.slices_Clone_nil (ρ:=Tryz.cloneSA_ren) Tryz.cloneSA 0 cap w).mono fun e w' ⟨g1,g2⟩=>?_;subst g2;exact⟨_,g1,⟨rfl,.inl ⟨rfl,rfl⟩⟩,(fun k hk=>by cases hk),Ext.refl _⟩
 | some a=>
  by_cases hl0:l=[]
  .subst hl0;exact(AnyG.slices_Clone_string_zero (ρ:=Tryz.cloneZA_ren) Tryz.cloneZA a cap w).mono fin
  .obtain⟨x,r,rfl⟩:=List.exists_cons_of_ne_nil hl0;obtain⟨b,off,e,-⟩:=h3 0 x rfl;cases e;obtain⟨i0,hi,z0,z1,z2⟩:=KM;refine(AnyE.slices_Clone (ρ:=Tryz.cloneSA_ren) Tryz.cloneSA i0 _ 1 16 hi z0 z1 z2 rfl (by decide) (fun w=>Tryz.sizeOf9 w) b off (x::r).length cap ((x::r).map Value.string) w (by simp) (by unfold maxLen;omega) (by omega) (fun j u hu=>?_) (fun u hu=>?_)).mono fin
   .rw[T5]at hu;obtain⟨s,hs,rfl⟩:=Option.map_eq_some_iff.1 hu;obtain⟨b',off',e,hc⟩:=h3 j s hs;cases e;exact hc
   .obtain⟨s,-,rfl⟩:=List.mem_map.1 hu;rfl
theorem Cp{M:am}{bm:List Nat}{l:List ByteArray}{v:Value}(h:Rep M bm (.d (dy l)) v):∀s,s∈l->s.size≤maxLen:=by
 intro s hs;cases h with
 | d h=>
 unfold dy at h;generalize hr:(l.map fun s=>[ab s])=rows at h;cases h with
 | sl _ k p cap val hk hd hf hc hm=>
 obtain⟨i,hi,rfl⟩:=List.getElem_of_mem hs;have hir:i<rows.length:=by rw[<-hr];simpa using hi
 have e:rows[i]=[ab l[i]]:=by subst hr;simp
 have:=hd i 0 hir (by rw[e];simp);simp only[e,Ub,ab]at this;generalize val i 0=u at this;cases this with|lit _ hf=>exact hf
theorem Es(l:List ByteArray)(hl:l.length≤1200000)(σ:LLV):Fun G 123 [.d (dy l)] σ (aP (.own 9 1 (l.map fun s=>[ab s])) σ):=
 pt Tryz.func123 (by kernel_rfl) (by kernel_rfl) fun M bm w vs hG hM hn hr=>match vs,hn with
  | [v],_=>by
   have h1:Rep M bm (.d (dy l)) v:=hr 0 (by simp) (by simp);exact⟨Cp h1,D9 l hl v w (lu hM h1)⟩
end Go.Proofs.YtnhphlmblenapaaGreatDoor
namespace Go.Proofs.YtnhphlmblenapaaGreatDoor
open Go.RowKit
open Nat renaming reduceLeDiff -> jA, reduceBEq -> jB, reduceLT -> jC, reduceEqDiff -> jD, reduceAdd -> jE, reduceSub -> jF, reduceMul -> jG
open V renaming copy -> jV, lend -> jW, lend1 -> jX, cells -> jY, boxable -> jZ
end Go.Proofs.YtnhphlmblenapaaGreatDoor
