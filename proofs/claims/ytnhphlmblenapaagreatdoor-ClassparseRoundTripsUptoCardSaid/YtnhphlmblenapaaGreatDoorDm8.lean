import Derived.Test.YtnhphlmblenapaaGreatDoorDm3
import Derived.Test.YtnhphlmblenapaaGreatDoorCw7
set_option linter.unusedVariables false
set_option linter.unusedSimpArgs false
set_option linter.unusedSectionVars false
set_option maxHeartbeats 4000000
open List renaming length_drop->TU,map_append->TV,map_cons->TW,suffix_refl->TX,getElem?_append_right->TY,set_append_right->TZ,getElem?_set_ne->T0,length_set->T3,set_comm->T4,map_nil->T5
open Nat renaming add_sub_cancel_left->T6,le_refl->T7
namespace Go.Proofs.YtnhphlmblenapaaGreatDoor
open Go.RowKit
open Nat renaming reduceLeDiff -> jA, reduceBEq -> jB, reduceLT -> jC, reduceEqDiff -> jD, reduceAdd -> jE, reduceSub -> jF, reduceMul -> jG
open V renaming copy -> jV, lend -> jW, lend1 -> jX, cells -> jY, boxable -> jZ
theorem fd(ρ:ah)(d t:Nat)(v:V):get (put ρ d v) t=if d=t then v else get ρ t:=by
 rw[dn];by_cases e:d=t
 .subst e;simp
 .rw[if_neg e,if_neg];exact fun h=>e h.symm
theorem MM{C:Cx}{n0:Nat}{l:List O}{es:List (List Nat)}{ρ:ah}{σ σ':LLV}{Q:co}(hu:Up σ σ')(h:mc C n0 l es ρ σ' Q):mc C n0 l es ρ σ Q:=
 fun pr M0 bm0 w0 id ops n M bm tk a w hG hbm hok hes hl hs=>h pr M0 bm0 w0 id ops n M bm tk a w hG hbm hok hes hl (hs.up hu)
theorem G0{cs:List V}{fo:Nat}(h:fo<cs.length)(x y:V):over (cs.set fo x) fo [y]=cs.set fo y:=by
 unfold over;rw[List.take_set_of_le (T7 _),List.drop_set_of_lt (by simp),List.set_eq_take_append_cons_drop,if_pos h];simp
abbrev Md(b p o fo f:Nat)(ex:List V)(T k by_:Nat):List O:=[⟨some b,.fa fo (.t o),none⟩,⟨some (b+1),.ldo (.t b),none⟩,⟨some (b+2),.mv (.t p),none⟩,⟨some (b+3),.call f (.t (b+2)::ex.map .k),none⟩,⟨some (b+4),.mks T k [.t (b+3)],none⟩,⟨some (b+5),.app T k by_ (b+1) (.t (b+4)),none⟩,⟨some (b+6),.fa fo (.t o),none⟩,⟨none,.stoo (.t (b+6)) (b+5),none⟩]
abbrev es8:List (List Nat):=[[],[0],[],[2],[3],[1,4,3],[0,1,2,3,4,5],[6,5,5,0,1,2,3,4,5]]
section
variable {C : Cx} {n0 : Nat} (ρ0 : ah) (σ0 : LLV) (T k i o fo b : Nat) (cs : List V) (rows : LLD) (r : List D) (v : V) (P : List V)
def st8(S:Nat->Bool):ah:=
 put (put (put (put (put (put (put ρ0 b (if S 0 then .ptr o fo else get ρ0 b)) (b+1) (if S 5 then .d (.sl rows)else if S 1 then .own T k rows else get ρ0 (b+1))) (b+2) (if S 2 then .ptr i 0 else get ρ0 (b+2))) (b+3) (if S 3 then v else get ρ0 (b+3)))
  (b+4) (if S 4 then .d (.sl [r])else get ρ0 (b+4))) (b+5) (if S 7 then .d (.sl (rows++[r]))else if S 5 then .own T k (rows++[r])else get ρ0 (b+5))) (b+6) (if S 6 then .ptr o fo else get ρ0 (b+6))
def sg8(S:Nat->Bool):LLV:=
 if S 7 then(if S 3 then σ0.set i P else σ0).set o (cs.set fo (.own T k (rows++[r])))else if S 1 then(if S 3 then σ0.set i P else σ0).set o (cs.set fo (.d (.sl rows)))else if S 3 then σ0.set i P else σ0
theorem qJ{f by_ p os:Nat}{ex:List V}{Q:co}(good:Bool)(PP:V->List V->Prop)(hp:get ρ0 p=.ptr i 0)(hob:get ρ0 os=.ptr o 0)(hpb:p<b)(hosb:os<b)(hio:i≠o)(ho:σ0[o]? = some cs)(hc:cs[fo]? = some (.own T k rows))
 (hf:∀σ,σ[i]? = σ0[i]? -> Fun C f (.ptr i 0::ex.map V.lend) σ fun out σ'=>if good=true then out=.ret v/\σ'=σ.set i P else ∃u P',out=.panic u/\σ'=σ.set i P'/\PP u P')
 (hr:d7 [v]=some [r])(hk:r.length=k)(hby:(rows.length+1)*by_≤140737488355328)
 (hq:good=true->Q .normal (st8 ρ0 T k i o fo b rows r v fun _=>true) ((σ0.set i P).set o (cs.set fo (.own T k (rows++[r])))))
 (hpan:good=false->∀u P' ρ' X,PP u P'->(X=cs\/X=cs.set fo (.d (.sl rows)))->Q (.panic u) ρ' ((σ0.set i P').set o X)):mc C n0 (Md b p os fo f ex T k by_) es8 ρ0 σ0 Q:=by
 intro pr M0 bm0 w0 id ops n M bm tk a w hG hbm hok hes hl h;obtain⟨hlen,hget⟩:=kG hok;have hsz:ops.size=8:=by rw[<-Array.length_toList,<-hlen];rfl
 have hedge:∀(i:Nat) (o:Oper),ops.toList[i]? = some o->es8[i]? = some (aQ o):=fun i o ho=>by rw[<-hes,List.getElem?_map,ho];rfl
 have hol:o<σ0.length:=(List.getElem?_eq_some_iff.1 ho).1;have hfl:fo<cs.length:=(List.getElem?_eq_some_iff.1 hc).1
 have hwant:∀(p:O) (o':Oper),okO C.tab n ops p o'=true->p.g=none->∀a:Act,Region.wanted o' (yielded ops a.tmps)=true:=by
  intro p o' hoo hg a;have hgd:=hoo;unfold okO at hgd;simp only[Bool.and_eq_true]at hgd;replace hgd:=hgd.2;rw[hg]at hgd;split at hgd
  .rename_i hg2;simp[Region.wanted,hg2]
  .rename_i e _;cases e
  .cases hgd
 have hext:∀S S':Nat->Bool,(∀j,j<ops.size->S j=S' j)->st8 ρ0 T k i o fo b rows r v S=st8 ρ0 T k i o fo b rows r v S'/\sg8 σ0 T k i o fo cs rows r P S=sg8 σ0 T k i o fo cs rows r P S'/\S 3=S' 3:=fun S S' hS=>by
  rw[hsz]at hS;unfold st8 sg8;rw[hS 0 (by omega),hS 1 (by omega),hS 2 (by omega),hS 3 (by omega),hS 4 (by omega),hS 5 (by omega),hS 6 (by omega),hS 7 (by omega)];exact⟨rfl,rfl,rfl⟩
 refine qg (M:=M) (bm:=bm) (tk:=tk) (st8 ρ0 T k i o fo b rows r v) (sg8 σ0 T k i o fo cs rows r P) (st8 ρ0 T k i o fo b rows r v fun _=>true) ((σ0.set i P).set o (cs.set fo (.own T k (rows++[r])))) (fun S=>good=true\/S 3=false) (.inr rfl) (fun S S' hS hI=>by rw[<-(hext S S' hS).2.2];exact hI)
  (fun i o ho j hj=>?_) (fun S S' hS=>⟨fun t=>by rw[(hext S S' hS).1],(hext S S' hS).2.1⟩) hl ?_ (fun hI=>?_) (fun S j o' ho' hSj hclo hed hI M bm tk a w hl h=>?_)
 .have he:=hedge i o ho;have hi:i<8:=by have:=(List.getElem?_eq_some_iff.1 ho).1;simp at this;omega
  have key:∀i,i<8->∀l,es8[i]? = some l->∀j∈l,j<i:=by decide
  exact key i hi _ he j hj
 .refine h.congr fun t=>?_;unfold st8;simp only[Bool.false_eq_true,if_false,fd];repeat' split
  all_goals first|rfl|(subst_vars;rfl)
 .rcases hI with hg|hg
  .exact⟨⟨fun t=>rfl,rfl⟩,hq hg⟩
  .cases hg
 .have he:=hedge j o' ho';have hj:j<8:=by have:=(List.getElem?_eq_some_iff.1 ho').1;simp at this;omega
  have hed:∀l,es8[j]? = some l->∀e∈l,S e=true:=fun l hl e hm=>by rw[hl]at he;cases he;exact hed e hm
  have hcl:∀q,q<8->j∈(es8[q]?.getD [])->S q=false:=fun q hq hm=>by
   cases hs:S q with
   | false=>rfl
   | true=>
    have h8:ops.toList[q]? = some (ops.toList[q]'(by rw[<-hlen];exact hq)):=List.getElem?_eq_getElem _;rw[hedge q _ h8]at hm;have:=hclo q _ h8 hs j hm;rw[this]at hSj;cases hSj
  have g0:∀t,t<b->get (st8 ρ0 T k i o fo b rows r v S) t=get ρ0 t:=fun t ht=>by unfold st8;simp only[fd];rw[if_neg (by omega),if_neg (by omega),if_neg (by omega),if_neg (by omega),if_neg (by omega),if_neg (by omega),if_neg (by omega)]
  have gg:∀S t,get (st8 ρ0 T k i o fo b rows r v S) t=if b+6=t then(if S 6 then .ptr o fo else get ρ0 (b+6))else if b+5=t then(if S 7 then .d (.sl (rows++[r]))else if S 5 then .own T k (rows++[r])else get ρ0 (b+5))else if b+4=t then(if S 4 then .d (.sl [r])else get ρ0 (b+4))else if b+3=t then(if S 3 then v else get ρ0 (b+3))else if b+2=t then(if S 2 then .ptr i 0 else get ρ0 (b+2))else if b+1=t then(if S 5 then .d (.sl rows)else if S 1 then .own T k rows else get ρ0 (b+1))else if b=t then(if S 0 then .ptr o fo else get ρ0 b)else get ρ0 t:=fun S t=>by
   unfold st8;simp only[fd]
  have go:∀(p':O) ,(Md b p os fo f ex T k by_)[j]? = some p'->p'.g=none->dq C p'.op p'.dst (st8 ρ0 T k i o fo b rows r v S) (sg8 σ0 T k i o fo cs rows r P S) (fun ρ' σ'=>(∀t,get ρ' t=get (st8 ρ0 T k i o fo b rows r v fun q=>q==j||S q) t)/\σ'=sg8 σ0 T k i o fo cs rows r P (fun q=>q==j||S q)/\(good=true\/(j==3||S 3)=false)) Q->
   (if Region.wanted o' (yielded ops a.tmps)then o'.wp C.P a w (re M bm pr w n fun ρ' σ'=>(∀t,get ρ' t=get (st8 ρ0 T k i o fo b rows r v fun q=>q==j||S q) t)/\σ'=sg8 σ0 T k i o fo cs rows r P (fun q=>q==j||S q)/\(good=true\/(j==3||S 3)=false)) (bY M bm pr w n Q)
   else SRel M bm tk pr (st8 ρ0 T k i o fo b rows r v fun q=>q==j||S q) (sg8 σ0 T k i o fo cs rows r P fun q=>q==j||S q) n (a.put o'.dst undef) w/\(good=true\/(j==3||S 3)=false)):=by
   intro p' hp' hg hr;have hoo:=hget j p' o' hp' ho';rw[if_pos (hwant p' o' hoo hg a)];exact fh (hG.mono hl) h hoo hr
  have xp:ev C (st8 ρ0 T k i o fo b rows r v S) (.t p)=.ptr i 0:=by rw[<-hp];exact g0 p hpb
  have xo:ev C (st8 ρ0 T k i o fo b rows r v S) (.t os)=.ptr o 0:=by rw[<-hob];exact g0 os hosb
  have fa:pv C (.fa fo (.t os)) (st8 ρ0 T k i o fo b rows r v S) (sg8 σ0 T k i o fo cs rows r P S)=some (.ptr o fo):=by simp[pv,xo,faV]
  have hj':j=0\/j=1\/j=2\/j=3\/j=4\/j=5\/j=6\/j=7:=by omega
  have hsl:(σ0.set i P).length=σ0.length:=T3;rcases hj' with rfl|rfl|rfl|rfl|rfl|rfl|rfl|rfl
  .refine go _ rfl rfl ?_;simp only[dq,fa,putd];refine⟨fun t=>?_,?_,by simpa using hI⟩
   .simp only[gg,fd,hSj];simp;grind
   .unfold sg8;simp
  .have s0:=hed _ rfl 0 (by simp);have s5:=hcl 5 (by omega) (by decide);have s7:=hcl 7 (by omega) (by decide);have x0:ev C (st8 ρ0 T k i o fo b rows r v S) (.t b)=.ptr o fo:=by show get _ b=_;rw[gg];simp[s0]
   have hσ:(sg8 σ0 T k i o fo cs rows r P S)[o]? = some cs:=by
    unfold sg8;rw[s7,hSj];cases S 3<;>simp[hio,ho]
   refine go _ rfl rfl ?_;simp only[dq,x0,hσ,hc,putd];refine⟨fun t=>?_,?_,by simpa using hI⟩
   .simp only[gg,fd,s5,hSj];simp;grind
   .unfold sg8;simp[s7,hSj]
  .refine go _ rfl rfl ?_;have:pv C (.mv (.t p)) (st8 ρ0 T k i o fo b rows r v S) (sg8 σ0 T k i o fo cs rows r P S)=some (.ptr i 0):=by show some (ev C _ (.t p)).copy=_;rw[xp];rfl
   simp only[dq,this,putd];refine⟨fun t=>?_,?_,by simpa using hI⟩
   .simp only[gg,fd,hSj];simp;grind
   .unfold sg8;simp
  .have s2:=hed _ rfl 2 (by simp);have s4:=hcl 4 (by omega) (by decide);have s5:=hcl 5 (by omega) (by decide);have s7:=hcl 7 (by omega) (by decide);have x2:ev C (st8 ρ0 T k i o fo b rows r v S) (.t (b+2))=.ptr i 0:=by show get _ (b+2)=_;rw[gg];simp[s2]
   refine go _ rfl rfl ?_
   have hσ:(sg8 σ0 T k i o fo cs rows r P S)[i]? = σ0[i]? := by
    unfold sg8;rw[s7,hSj];cases S 1<;>simp[Ne.symm hio]
   have hx:(ex.map X.k).map (fun x=>(ev C (st8 ρ0 T k i o fo b rows r v S) x).lend)=ex.map V.lend:=by rw[List.map_map];rfl
   simp only[dq,TW,hx,x2];show Fun C f (.ptr i 0::ex.map V.lend) _ _;refine(hf _ hσ).mono fun out σ' hx=>?_;cases hg:good with
   | true=>
    rw[hg,if_pos rfl]at hx;obtain⟨rfl,rfl⟩:=hx;refine⟨fun t=>?_,?_,.inl rfl⟩
    .simp only[putd,gg,fd,hSj,s4,s5,s7];simp;grind
    .unfold sg8;rw[s7,hSj];cases hs1:S 1<;>simp[s7,hs1,T4 _ _ hio]
   | false=>
    rw[hg,if_neg (by simp)]at hx;obtain⟨u,P',rfl,rfl,hp⟩:=hx
    have e:∃X,(X=cs\/X=cs.set fo (.d (.sl rows)))/\(sg8 σ0 T k i o fo cs rows r P S).set i P'=(σ0.set i P').set o X:=by
     unfold sg8;rw[s7,hSj];cases S 1 with
     | true=>exact⟨_,.inr rfl,by simp[T4 _ _ hio]⟩
     | false=>
      refine⟨cs,.inl rfl,?_⟩;simp only[Bool.false_eq_true,if_false];apply List.ext_getElem?;intro q;by_cases e:q=o
      .subst e;rw[T0 hio,ho,List.getElem?_set_self (by simpa using hol)]
      .rw[T0 (Ne.symm e)]
    obtain⟨X,hX,e⟩:=e;rw[e];exact hpan hg u P' _ X hp hX
  .have s3:=hed _ rfl 3 (by simp);have x3:ev C (st8 ρ0 T k i o fo b rows r v S) (.t (b+3))=v:=by show get _ (b+3)=_;rw[gg];simp[s3]
   have hI':good=true:=by rcases hI with h|h;exact h;rw[s3]at h;cases h
   refine go _ rfl rfl ?_;simp only[dq,TW,T5,x3,hr,List.all_cons,List.all_nil,hk,putd];refine⟨by simp,fun t=>?_,?_,.inl hI'⟩
   .simp only[gg,fd,hSj];simp;grind
   .unfold sg8;simp
  .have s1:=hed _ rfl 1 (by simp);have s4:=hed _ rfl 4 (by simp);have s3:=hed _ rfl 3 (by simp);have s7:=hcl 7 (by omega) (by decide);have hI':good=true:=by rcases hI with h|h;exact h;rw[s3]at h;cases h
   have x1:get (st8 ρ0 T k i o fo b rows r v S) (b+1)=.own T k rows:=by rw[gg];simp[s1,hSj]
   have x4:gW (ev C (st8 ρ0 T k i o fo b rows r v S) (.t (b+4)))=some [r]:=by
    have:ev C (st8 ρ0 T k i o fo b rows r v S) (.t (b+4))=.d (.sl [r]):=by show get _ (b+4)=_;rw[gg];simp[s4]
    rw[this];rfl
   refine go _ rfl rfl ?_;simp only[dq,x1,x4,putd];refine⟨⟨trivial,trivial,by simp[hk],by simpa using hby⟩,fun t=>?_,?_,.inl hI'⟩
   .simp only[gg,fd,s7,hSj];simp;grind
   .unfold sg8;simp
  .refine go _ rfl rfl ?_;simp only[dq,fa,putd];refine⟨fun t=>?_,?_,by simpa using hI⟩
   .simp only[gg,fd,hSj];simp;grind
   .unfold sg8;simp
  .have s1:=hed _ rfl 1 (by simp);have s5:=hed _ rfl 5 (by simp);have s3:=hed _ rfl 3 (by simp);have s6:=hed _ rfl 6 (by simp);have hI':good=true:=by rcases hI with h|h;exact h;rw[s3]at h;cases h
   have x5:get (st8 ρ0 T k i o fo b rows r v S) (b+5)=.own T k (rows++[r]):=by rw[gg];simp[s5,hSj]
   have x6:ev C (st8 ρ0 T k i o fo b rows r v S) (.t (b+6))=.ptr o fo:=by show get _ (b+6)=_;rw[gg];simp[s6]
   have hσ:(sg8 σ0 T k i o fo cs rows r P S)[o]? = some (cs.set fo (.d (.sl rows))):=by
    unfold sg8;simp[hSj,s1,s3,hol]
   refine go _ rfl rfl ?_;simp only[dq,x6,x5,hσ];refine⟨⟨by simpa using hfl,?_⟩,fun t=>?_,?_,.inl hI'⟩
   .exact DU _ hfl
   .simp only[gg,fd,s5,hSj];simp;grind
   .unfold sg8;simp[hSj,s1,s3,G0 hfl]
end
end Go.Proofs.YtnhphlmblenapaaGreatDoor
namespace Go.Proofs.YtnhphlmblenapaaGreatDoor
open Go.RowKit
open Nat renaming reduceLeDiff -> jA, reduceBEq -> jB, reduceLT -> jC, reduceEqDiff -> jD, reduceAdd -> jE, reduceSub -> jF, reduceMul -> jG
open V renaming copy -> jV, lend -> jW, lend1 -> jX, cells -> jY, boxable -> jZ
def Mid(R:ah->LLV->Prop)(ρ:ah)(σ:LLV)(_:Tag R):Prop:=R ρ σ
theorem Mid.mk{R:ah->LLV->Prop}{ρ:ah}{σ:LLV}(h:R ρ σ):Mid R ρ σ .mk:=h
def kM:Nat->Cd->Cd×Cd
 | n+1,.seq a b=>(.seq a (kM n b).1,(kM n b).2)
 | _,c=>(.skip,c)
theorem BB{C:Cx}{n0:Nat}{Q:co}:∀(n:Nat) (c:Cd) (ρ:ah) (σ:LLV),awp C n0 (kM n c).1 ρ σ (andThen (fun ρ σ=>awp C n0 (kM n c).2 ρ σ Q) Q)->awp C n0 c ρ σ Q
 | 0,c,ρ,σ,h=>by simpa only[kM,awp,andThen]using h
 | n+1,c,ρ,σ,h=>by
  cases c with
  | seq a b=>
   simp only[kM,awp]at h ⊢;refine kq (fun e ρ' σ' h=>?_) h;cases e with
   | normal=>exact BB n b ρ' σ' h
   | _=>exact h
  | _=>simpa only[kM,awp,andThen]using h
theorem mK{C:Cx}{n0:Nat}{c:Cd}{ρ:ah}{σ:LLV}{Q:co}{t:Tag Q}(n:Nat)(R:ah->LLV->Prop)(h1:fE C n0 (kM n c).1 ρ σ (andThen (fun ρ σ=>Mid R ρ σ .mk) Q) .mk)(h2:∀ρ' σ',R ρ' σ'->fE C n0 (kM n c).2 ρ' σ' Q .mk):fE C n0 c ρ σ Q t:=by
 refine BB n c ρ σ (kq (fun e ρ' σ' h=>?_) h1);cases e with
 | normal=>exact h2 _ _ h
 | _=>exact h
theorem Je(σ:LLV)(X:List V):(σ++[X]).length=σ.length+1:=by simp
def w4(lo hi w:Int)(b:Bool):List V:=[.d (ac lo),.d (ac hi),.d (ac w),ak b]
section
variable {ts : List Tok} {a i : Nat} (H : TsV ts) (ha : a ≤ ts.length) (σ : LLV) (hi : σ[i]? = some (pb ts a))
include H ha hi
theorem qV:Fun G 120 [.ptr i 0] σ (CQ (fun w=>.agg ((dwt w).map V.d)) ts i σ (gM (zLs ts) (ts.drop a))):=by
 refine ai Tryz.func120 SQ rfl fun hb hw=>?_;have S:=St.init hi hb;obtain⟨x,hx⟩:∃x,x=gM (zLs ts) (ts.drop a):=⟨_,rfl⟩
 rw[<-hx];unfold gM at hx;rw[mr]at hx;unfold Oa
 refine mK 5 (fun ρ σ'=>∃(lo hi:Int) (a2:Nat) (σ2:LLV),(ρ=[(0,.ptr i 0),(2,.ptr σ2.length 0),(3,.ptr (σ2.length+1) 0)]\/ρ=[(0,.ptr i 0),(2,.ptr σ2.length 0),(3,.ptr (σ2.length+1) 0),(11,ak false)])/\σ'=σ2++[w4 0 0 0 false,w4 lo hi 0 false]/\St σ i ts a2 σ2/\a2≤ts.length/\
  x=(eC (aE 58 61) (ts.drop a2) (fun r3=>.ok true r3) (bO (zLs ts) (aE 58 47) (ts.drop a2) fun r3=>.ok false r3)).bind fun b r3=>gq (zLs ts) r3 fun w r4=>.ok ⟨lo,hi,w,b⟩ r4) ?_ ?_
 .simp only[kM];simp -dsimp only[aw,jV,jW,jX,jY,jZ,jA,reduceIte,reduceCtorEq,jB,jC,jD,jE,jF,jG];rw[Je];refine aR S ha (ll _) hx (e6 H ha _ (al hi _)) (fun lo a1 hx h1 h2 h3 hy σ1 S1 hl1=>?_) (fun e n b hx σ1 S1 hl1=>?_)
  case refine_2=>
   rw[<-hl1];simp -dsimp only[aw,jV,jW,jX,jY,jZ,jA,reduceIte,reduceCtorEq,jB,jC,jD,jE,jF,jG];exact aD S1 hx
  rw[<-hl1];simp -dsimp only[aw,jV,jW,jX,jY,jZ,jA,reduceIte,reduceCtorEq,jB,jC,jD,jE,jF,jG];refine mP H (m:=aE 46 46) (by decide +kernel) S1 h2 (fun hs2 hlt2 σ2 S2 hl2=>?_) (fun hs2=>?_)
  .rw[eD (m:=aE 46 46) hs2]at hx;rw[<-hl2];simp -dsimp only[aw,jV,jW,jX,jY,jZ,jA,reduceIte,reduceCtorEq,jB,jC,jD,jE,jF,jG];refine aR S2 hlt2 (ll _) hx (e6 H hlt2 _ (al S2.at_ _)) (fun hi2 a3 hx h1 h2 h3 hy σ1 S1 hl1=>?_) (fun e n b hx σ1 S1 hl1=>?_)
   case refine_2=>
    rw[<-hl1];simp -dsimp only[aw,jV,jW,jX,jY,jZ,jA,reduceIte,reduceCtorEq,jB,jC,jD,jE,jF,jG];exact aD S1 hx
   rw[<-hl1];simp -dsimp only[aw,jV,jW,jX,jY,jZ,jA,reduceIte,reduceCtorEq,jB,jC,jD,jE,jF,jG];exact Mid.mk ⟨lo,hi2,a3,σ1,.inl rfl,rfl,S1,h2,hx⟩
  .rw[ez (m:=aE 46 46) hs2]at hx;simp -dsimp only[aw,jV,jW,jX,jY,jZ,jA,reduceIte,reduceCtorEq,jB,jC,jD,jE,jF,jG];exact Mid.mk ⟨lo,lo,a1,σ1,.inr rfl,rfl,S1,h2,hx⟩
 .simp only[kM];rintro ρ' σ' ⟨lo,hi2,a2,σ2,hρ,rfl,S2,h2,hx⟩;rw[<-S2.len];unfold w4
  refine mK 2 (fun ρ σ'=>∃(b:Bool) (a2:Nat) (σ2:LLV),(ρ=[(0,.ptr i 0),(2,.ptr σ2.length 0),(3,.ptr (σ2.length+1) 0)]\/ρ=[(0,.ptr i 0),(2,.ptr σ2.length 0),(3,.ptr (σ2.length+1) 0),(20,ak false)])/\σ'=σ2++[w4 0 0 0 false,w4 lo hi2 0 b]/\St σ i ts a2 σ2/\a2≤ts.length/\
   x=gq (zLs ts) (ts.drop a2) fun w r4=>.ok ⟨lo,hi2,w,b⟩ r4) ?_ ?_
  .simp only[kM];rcases hρ with rfl|rfl
   all_goals
    simp -dsimp only[aw,jV,jW,jX,jY,jZ,jA,reduceIte,reduceCtorEq,jB,jC,jD,jE,jF,jG];refine mP H (m:=aE 58 61) (by decide +kernel) S2 h2 (fun hs2 hlt2 σ1 S1 hl1=>?_) (fun hs2=>?_)
    .rw[eD hs2]at hx;rw[<-hl1];simp -dsimp only[aw,jV,jW,jX,jY,jZ,jA,reduceIte,reduceCtorEq,jB,jC,jD,jE,jF,jG];exact Mid.mk ⟨true,a2+1,σ1,.inr rfl,rfl,S1,hlt2,hx⟩
    .rw[ez hs2,bZ,dN]at hx;simp -dsimp only[aw,jV,jW,jX,jY,jZ,jA,reduceIte,reduceCtorEq,jB,jC,jD,jE,jF,jG];refine aR S2 h2 (cq _) hx (cw H (aE 58 47) h2 (by decide +kernel) _ (al S2.at_ _)) (fun _ a3 hx h1 h2 h3 hy σ1 S1 hl1=>?_) (fun e n b hx σ1 S1 hl1=>?_)
     case refine_2=>
      rw[<-hl1];simp -dsimp only[aw,jV,jW,jX,jY,jZ,jA,reduceIte,reduceCtorEq,jB,jC,jD,jE,jF,jG];exact aD S1 hx
     rw[<-hl1];simp -dsimp only[aw,jV,jW,jX,jY,jZ,jA,reduceIte,reduceCtorEq,jB,jC,jD,jE,jF,jG];exact Mid.mk ⟨false,a3,σ1,.inl rfl,rfl,S1,h2,hx⟩
  .simp only[kM];rintro ρ' σ' ⟨b,a3,σ3,hρ,rfl,S3,h3,hx⟩;rw[S2.len,<-S3.len];rw[mr]at hx;unfold w4;rcases hρ with rfl|rfl
   all_goals
    simp -dsimp only[aw,jV,jW,jX,jY,jZ,jA,reduceIte,reduceCtorEq,jB,jC,jD,jE,jF,jG];refine aR S3 h3 (ll _) hx (e6 H h3 _ (al S3.at_ _)) (fun w a4 hx h1 h2 h3 hy σ1 S1 hl1=>?_) (fun e n b hx σ1 S1 hl1=>?_)
    case refine_2=>
     rw[<-hl1];simp -dsimp only[aw,jV,jW,jX,jY,jZ,jA,reduceIte,reduceCtorEq,jB,jC,jD,jE,jF,jG];exact aD S1 hx
    rw[<-hl1];simp -dsimp only[aw,jV,jW,jX,jY,jZ,jA,reduceIte,reduceCtorEq,jB,jC,jD,jE,jF,jG];exact cO S1 h2 hx rfl (by simp[Lf,be,bL,dwt,aw,jV,jW,jX,jY,jZ,jA,reduceIte,reduceCtorEq,jB,jC,jD,jE,jF,jG])
end
end Go.Proofs.YtnhphlmblenapaaGreatDoor
namespace Go.Proofs.YtnhphlmblenapaaGreatDoor
open Go.RowKit
open Nat renaming reduceLeDiff -> jA, reduceBEq -> jB, reduceLT -> jC, reduceEqDiff -> jD, reduceAdd -> jE, reduceSub -> jF, reduceMul -> jG
open V renaming copy -> jV, lend -> jW, lend1 -> jX, cells -> jY, boxable -> jZ
theorem ym:∀l:List D,j9 (l.map V.d)=some l
 | []=>rfl
 | d::l=>by simp only[TW,j9,V.plain,ym l]
theorem w9(l:List D):d7 [.agg (l.map V.d)]=some [l]:=by
 have:(V.agg (l.map V.d)).cells=l.map V.d:=by simp[V.cells,V.copy]
 simp only[d7,this,ym]
section
variable {α β : Type} {mk : β -> V} {σ0 σ : LLV} {i : Nat} {ts : List Tok} {a : Nat} {l l' : LLV} {x : CP α} {y : CP β} {k : β -> List Tok -> CP α} {sz : β -> Nat} {c : Nat} {n0 : Nat} {ρ0 : ah} {Q : co}
theorem r8{b p os fo f T kk by_ q:Nat}{ex:List V}{cs:List V}{rows:LLD}(row:β->List D)(S:St σ0 i ts a σ)(ha:a≤ts.length)(hT:Tk sz c (ts.drop a) y)(hx:x=y.bind k)(hup:Up (σ++l) (σ++l'))
 (hf:∀σ:LLV,σ[i]? = some (pb ts a)->Fun G f (.ptr i 0::ex.map V.lend) σ (CQ mk ts i σ y))(hp:get ρ0 p=.ptr i 0)(ho:get ρ0 os=.ptr (σ.length+q) 0)(hpb:p<b)(hosb:os<b)(hl:l'[q]? = some cs)(hc:cs[fo]? = some (.own T kk rows))
 (hr:∀v,d7 [mk v]=some [row v])(hk:∀v,(row v).length=kk)(hby:(rows.length+1)*by_≤140737488355328)[Inhabited β]
 (ht:∀v a2,x=k v (ts.drop a2)->a≤a2->a2≤ts.length->sz v+(ts.length-a2)≤c->∀σ',St σ0 i ts a2 σ'->σ'.length=σ.length->Q .normal (st8 ρ0 T kk i (σ'.length+q) fo b rows (row v) (mk v) fun _=>true) (σ'++l'.set q (cs.set fo (.own T kk (rows++[row v])))))
 (hb:∀e n b',x=.bad e n->∀σ',St σ0 i ts b' σ'->σ'.length=σ.length->∀ρ' X,Q (.panic (ep e n)) ρ' (σ'++l'.set q X)):mc G n0 (Md b p os fo f ex T kk by_) es8 ρ0 (σ++l) Q:=by
 refine MM hup ?_;have hil:=S.lt;rw[<-S.len]at hil;have hio:i≠σ.length+q:=by omega
 have hob:(σ++l')[σ.length+q]? = some cs:=by rw[TY (by omega),T6];exact hl
 have hii:(σ++l')[i]? = some (pb ts a):=al S.at_ _
 have hset:∀(P X:List V),(((σ++l').set i P).set (σ.length+q) X)=σ.set i P++l'.set q X:=fun P X=>by
  rw[List.set_append_left _ _ hil,TZ _ _ (by simp),T3,T6]
 cases y with
 | out=>exact hT.elim
 | bad e n=>
  refine qJ (ρ0:=ρ0) (σ0:=σ++l') (T:=T) (k:=kk) (i:=i) (o:=σ.length+q) (fo:=fo) (b:=b) (cs:=cs) (rows:=rows) (v:=mk default) (r:=row default) (P:=[]) false (fun u P'=>u=ep e n/\∃b',P'=pb ts b') hp ho hpb hosb hio hob hc (fun σ' h=>(hf σ' (by rw[h,hii])).mono fun out σ'' hq=>?_) (hr _) (hk _) hby (fun h=>by cases h) ?_
  .rw[if_neg (by simp)];obtain⟨rfl,b',rfl⟩:=hq;exact⟨_,_,rfl,rfl,rfl,b',rfl⟩
  .rintro-u P' ρ' X ⟨rfl,b',rfl⟩ -;rw[hset];exact hb e n b' (by rw[hx];rfl) _ (S.step _) (S.slen _) ρ' X
 | ok v r=>
  obtain⟨h1,h2,h3⟩:=vP ha hT.1;refine qJ (ρ0:=ρ0) (σ0:=σ++l') (T:=T) (k:=kk) (i:=i) (o:=σ.length+q) (fo:=fo) (b:=b) (cs:=cs) (rows:=rows) (v:=mk v) (r:=row v) (P:=pb ts (ts.length-r.length)) true (fun _ _=>True) hp ho hpb hosb hio hob hc (fun σ' h=>(hf σ' (by rw[h,hii])).mono fun out σ'' hq=>?_) (hr _) (hk _) hby (fun _=>?_) (fun h=>by cases h)
  .rw[if_pos rfl];exact hq
  .rw[hset];have:=ht v (ts.length-r.length) (by rw[hx,<-h1];rfl) h2 h3 (by have:=hT.2;rw[h1,TU]at this;omega) _ (S.step _) (S.slen _);rw[S.slen]at this;exact this
end
theorem GR{C:Cx}{n0:Nat}{l:List O}{es:List (List Nat)}{keep:List Nat}{ρ:ah}{σ:LLV}{Q:co}{t:Tag Q}(h:mc C n0 l es ρ σ fun e ρ' σ'=>Q e (aV keep ρ') σ'):fE C n0 (.raw l es keep) ρ σ Q t:=h
theorem FG{σ l:LLV}{q fo:Nat}{cs:List V}(T k:Nat)(h:l[q]? = some cs)(hc:cs[fo]? = some .nil):Up (σ++l) (σ++l.set q (cs.set fo (.own T k []))):=by
 have h1:(σ++l)[σ.length+q]? = some cs:=by rw[TY (by omega),T6];exact h
 have:=Up.step (off:=fo) T k h1 hc (.refl _);rwa[TZ _ _ (by omega),T6]at this
def z12:List V:=[.d (ac 0),.d (ac 0),.d (ac 0),.d (ab ⟨#[]⟩),.nil,.d (ab ⟨#[]⟩),.d (ab ⟨#[]⟩),.nil,.nil,.nil,.nil,.nil]
def d12(s:ByteArray)(c:V):List V:=[.d (ac 3),.d (ac 0),.d (ac 0),.d (ab ⟨#[]⟩),.nil,.d (ab s),.d (ab ⟨#[]⟩),c,.nil,.nil,.nil,.nil]
theorem Bc(w:Wt):(dwt w).length=4:=rfl
instance:Inhabited Wt:=⟨⟨0,0,0,false⟩⟩
section
variable {ts : List Tok} {a i : Nat} (H : TsV ts) (ha : a ≤ ts.length) (σ : LLV) (hi : σ[i]? = some (pb ts a))
include H ha hi
theorem Cu:Fun G 62 [.ptr i 0] σ (CQ vit ts i σ (qU (zLs ts) (ts.drop a))):=by
 refine ai Tryz.func62 k62 rfl fun hb hw=>?_;have S:=St.init hi hb;have hL:=H.ok.len;obtain⟨x,hx⟩:∃x,x=qU (zLs ts) (ts.drop a):=⟨_,rfl⟩
 rw[<-hx];unfold qU at hx;unfold c62;simp -dsimp only[aw,jV,jW,jX,jY,jZ,jA,reduceIte,reduceCtorEq,jB,jC,jD,jE,jF,jG];refine aR S ha (gn _ _) hx (mS H ha _ (al hi _)) (fun s a1 hx h1 h2 h3 hy σ1 S1 hl1=>?_) (fun e n b hx σ1 S1 hl1=>?_)
 case refine_2=>
  rw[<-hl1];simp -dsimp only[aw,jV,jW,jX,jY,jZ,jA,reduceIte,reduceCtorEq,jB,jC,jD,jE,jF,jG];exact aD S1 hx
 rw[<-hl1];rw[bZ]at hx;simp -dsimp only[aw,jV,jW,jX,jY,jZ,jA,reduceIte,reduceCtorEq,jB,jC,jD,jE,jF,jG];refine aR S1 h2 (cq _) hx (cw H (aa 123) h2 (by decide +kernel) _ (al S1.at_ _)) (fun _ a2 hx h1 h2 h3 hy σ2 S2 hl2=>?_) (fun e n b hx σ1 S1 hl1=>?_)
 case refine_2=>
  rw[<-hl1];simp -dsimp only[aw,jV,jW,jX,jY,jZ,jA,reduceIte,reduceCtorEq,jB,jC,jD,jE,jF,jG];exact aD S1 hx
 rw[<-hl2];unfold jy at hx;rw[dN]at hx;simp -dsimp only[aw,jV,jW,jX,jY,jZ,jA,reduceIte,reduceCtorEq,jB,jC,jD,jE,jF,jG];refine GR (show mc _ _ _ _ _ _ _ from r8 (b:=9) (p:=0) (os:=3) (fo:=7) (f:=120) (ex:=[]) (T:=56) (kk:=4) (by_:=32) (q:=1) (rows:=[]) dwt S2 h2 (jh _ _) hx (FG (cs:=d12 s .nil) (fo:=7) (q:=1) 56 4 rfl rfl) (fun σ h=>qV H h2 σ h) rfl rfl (by decide) (by decide) rfl rfl (fun v=>w9 _) Bc (by decide) (fun w a3 hx h4 h5 h6 σ3 S3 hl3=>?_) (fun e n b hx σ3 S3 hl3 ρ' X=>?_))
 case refine_2=>
  rw[<-hl3];exact aD (rs:=Ky) (ρ:=ρ') S3 hx
 rw[<-hl3];simp -dsimp only[aw,jV,jW,jX,jY,jZ,jA,reduceIte,reduceCtorEq,jB,jC,jD,jE,jF,jG,st8,d12]
 refine aN [0,2,3] (R:=fun(j:Nat) ρ σ'=>∃(a1:Nat) (l:List Wt) (σ2:LLV),ρ=[(0,.ptr i 0),(2,.ptr σ2.length 0),(3,.ptr (σ2.length+1) 0)]/\σ'=σ2++[z12,d12 s (.own 56 4 (l.map dwt))]/\St σ i ts a1 σ2/\a1≤ts.length/\l.length+j≤a1+1/\j≤a1/\
  x=(db (fun l r=>(acc (aa 44) r).map fun r2=>(gM (zLs ts) r2).bind fun s r3=>.ok (l++[s]) r3) l (ts.drop a1)).bind fun l r3=>bO (zLs ts) (aa 125) r3 fun r4=>bO (zLs ts) (aa 59) r4 fun r5=>.ok (.mk 3 exZ s ⟨#[]⟩ l [] [] [] []) r5) ts.length ⟨a3,[w],σ3,rfl,rfl,S3,h5,by simp,by omega,hx⟩ ?_ _
 rintro j ρ' σ' hj ⟨a1,l,σ4,rfl,rfl,S4,h7,h8,h9,hx⟩;rw[fr (ja (jh _)).eats]at hx;rw[S3.len,<-S4.len];unfold z12 d12;simp -dsimp only[aw,jV,jW,jX,jY,jZ,jA,reduceIte,reduceCtorEq,jB,jC,jD,jE,jF,jG];refine mP H (m:=aa 44) (by decide +kernel) S4 h7 (fun hs2 hlt2 σ5 S5 hl5=>?_) (fun hs2=>?_)
 .simp only[hs2,Option.map_some,dN]at hx;rw[<-hl5];simp -dsimp only[aw,jV,jW,jX,jY,jZ,jA,reduceIte,reduceCtorEq,jB,jC,jD,jE,jF,jG];refine GR (show mc _ _ _ _ _ _ _ from r8 (b:=18) (p:=0) (os:=3) (fo:=7) (f:=120) (ex:=[]) (T:=56) (kk:=4) (by_:=32) (q:=1) (rows:=l.map dwt) dwt S5 hlt2 (jh _ _) hx (.refl _) (fun σ h=>qV H hlt2 σ h) rfl rfl (by decide) (by decide) rfl rfl (fun v=>w9 _) Bc (by rw[List.length_map];omega) (fun w a5 hx h4 h5 h6 σ3 S3 hl3=>?_) (fun e n b hx σ3 S3 hl3 ρ' X=>?_))
  case refine_2=>
   rw[<-hl3];exact aD (rs:=Ky) (ρ:=ρ') S3 hx
  rw[<-hl3];simp -dsimp only[aw,jV,jW,jX,jY,jZ,jA,reduceIte,reduceCtorEq,jB,jC,jD,jE,jF,jG,st8];have h10:a1+1<a5:=by unfold gS at h6;rw[TU]at h6;omega
  refine⟨by omega,Nxt.same (by simp) (ax S3.bb rfl) (by simp[aq,V.under,S3.len];have:=S3.lt;omega) ⟨a5,l++[w],σ3,rfl,by simp[z12,d12],S3,h5,by simp;omega,by omega,hx⟩⟩
 .simp only[hs2,Option.map_none,CP.bind]at hx;rw[bZ]at hx;simp -dsimp only[aw,jV,jW,jX,jY,jZ,jA,reduceIte,reduceCtorEq,jB,jC,jD,jE,jF,jG];refine aR S4 h7 (cq _) hx (cw H (aa 125) h7 (by decide +kernel) _ (al S4.at_ _)) (fun _ a2 hx h1 h2 h3 hy σ2 S2 hl2=>?_) (fun e n b hx σ1 S1 hl1=>?_)
  case refine_2=>
   rw[<-hl1];simp -dsimp only[aw,jV,jW,jX,jY,jZ,jA,reduceIte,reduceCtorEq,jB,jC,jD,jE,jF,jG];exact aD S1 hx
  rw[<-hl2];rw[bZ]at hx;simp -dsimp only[aw,jV,jW,jX,jY,jZ,jA,reduceIte,reduceCtorEq,jB,jC,jD,jE,jF,jG];refine aR S2 h2 (cq _) hx (cw H (aa 59) h2 (by decide +kernel) _ (al S2.at_ _)) (fun _ a2 hx h1 h2 h3 hy σ3 S3 hl3=>?_) (fun e n b hx σ1 S1 hl1=>?_)
  case refine_2=>
   rw[<-hl1];simp -dsimp only[aw,jV,jW,jX,jY,jZ,jA,reduceIte,reduceCtorEq,jB,jC,jD,jE,jF,jG];exact aD S1 hx
  rw[<-hl3];simp -dsimp only[aw,jV,jW,jX,jY,jZ,jA,reduceIte,reduceCtorEq,jB,jC,jD,jE,jF,jG];exact cO S3 h2 hx (by rw[bg];rfl) (by rw[bg];simp[Ky,be,bL,m8,sJ,nk,pJ,sP,e8,lr,n9,og,exZ,bX,bp,aK,aL,aw,jV,jW,jX,jY,jZ,jA,reduceIte,reduceCtorEq,jB,jC,jD,jE,jF,jG])
end
end Go.Proofs.YtnhphlmblenapaaGreatDoor
namespace Go.Proofs.YtnhphlmblenapaaGreatDoor
open Go.RowKit
open Nat renaming reduceLeDiff -> jA, reduceBEq -> jB, reduceLT -> jC, reduceEqDiff -> jD, reduceAdd -> jE, reduceSub -> jF, reduceMul -> jG
open V renaming copy -> jV, lend -> jW, lend1 -> jX, cells -> jY, boxable -> jZ
section
variable {ts : List Tok} {a i : Nat} (H : TsV ts) (ha : a ≤ ts.length) (σ : LLV) (hi : σ[i]? = some (pb ts a))
include H ha hi
theorem tE(k:Int):Fun G 61 [.ptr i 0,.d (ac k)] σ (CQ vit ts i σ (gu (zLs ts) k (ts.drop a))):=by
 refine ai Tryz.func61 k61 rfl fun hb hw=>?_;have S:=St.init hi hb;obtain⟨x,hx⟩:∃x,x=gu (zLs ts) k (ts.drop a):=⟨_,rfl⟩
 rw[<-hx];unfold gu at hx;rw[yf]at hx;unfold c61;simp -dsimp only[aw,jV,jW,jX,jY,jZ,jA,reduceIte,reduceCtorEq,jB,jC,jD,jE,jF,jG];refine aR S ha (Fd _) hx (uH H ha _ (al hi _)) (fun e a1 hx h1 h2 h3 hy σ1 S1 hl1=>?_) (fun e n b hx σ1 S1 hl1=>?_)
 case refine_2=>
  rw[<-hl1];simp -dsimp only[aw,jV,jW,jX,jY,jZ,jA,reduceIte,reduceCtorEq,jB,jC,jD,jE,jF,jG];exact aD S1 hx
 rw[<-hl1];rw[bZ]at hx;simp -dsimp only[aw,jV,jW,jX,jY,jZ,jA,reduceIte,reduceCtorEq,jB,jC,jD,jE,jF,jG,an];refine aR S1 h2 (cq _) hx (cw H (aa 59) h2 (by decide +kernel) _ (al S1.at_ _)) (fun _ a2 hx h1 h2 h3 hy σ2 S2 hl2=>?_) (fun e n b hx σ1 S1 hl1=>?_)
 case refine_2=>
  rw[<-hl1];simp -dsimp only[aw,jV,jW,jX,jY,jZ,jA,reduceIte,reduceCtorEq,jB,jC,jD,jE,jF,jG];exact aD S1 hx
 rw[<-hl2];simp -dsimp only[aw,jV,jW,jX,jY,jZ,jA,reduceIte,reduceCtorEq,jB,jC,jD,jE,jF,jG];exact cO S2 h2 hx (by rw[bg];rfl) (by rw[bg];simp[N2,be,bL,m8,sJ,nk,pJ,sP,e8,lr,n9,og,aw,jV,jW,jX,jY,jZ,jA,reduceIte,reduceCtorEq,jB,jC,jD,jE,jF,jG])
theorem zg:Fun G 65 [.ptr i 0] σ (CQ vit ts i σ (ma (zLs ts) (ts.drop a))):=by
 refine ai Tryz.func65 k65 rfl fun hb hw=>?_;have S:=St.init hi hb;obtain⟨x,hx⟩:∃x,x=ma (zLs ts) (ts.drop a):=⟨_,rfl⟩
 rw[<-hx];unfold ma at hx;unfold c65;simp -dsimp only[aw,jV,jW,jX,jY,jZ,jA,reduceIte,reduceCtorEq,jB,jC,jD,jE,jF,jG];refine aR S ha (lq _ _) hx (oD H ha _ (al hi _)) (fun l a1 hx h1 h2 h3 hy σ1 S1 hl1=>?_) (fun e n b hx σ1 S1 hl1=>?_)
 case refine_2=>
  rw[<-hl1];simp -dsimp only[aw,jV,jW,jX,jY,jZ,jA,reduceIte,reduceCtorEq,jB,jC,jD,jE,jF,jG];exact aD S1 hx
 rw[<-hl1];rw[bZ]at hx;simp -dsimp only[aw,jV,jW,jX,jY,jZ,jA,reduceIte,reduceCtorEq,jB,jC,jD,jE,jF,jG];refine aR S1 h2 (cq _) hx (pW H ⟨#[98,101,102,111,114,101]⟩ h2 (by decide +kernel) _ (al S1.at_ _)) (fun _ a2 hx h1 h2 h3 hy σ2 S2 hl2=>?_) (fun e n b hx σ1 S1 hl1=>?_)
 case refine_2=>
  rw[<-hl1];simp -dsimp only[aw,jV,jW,jX,jY,jZ,jA,reduceIte,reduceCtorEq,jB,jC,jD,jE,jF,jG];exact aD S1 hx
 rw[<-hl2];simp -dsimp only[aw,jV,jW,jX,jY,jZ,jA,reduceIte,reduceCtorEq,jB,jC,jD,jE,jF,jG];refine aR S2 h2 (lq _ _) hx (oD H h2 _ (al S2.at_ _)) (fun m a3 hx h1 h2 h3 hy σ3 S3 hl3=>?_) (fun e n b hx σ1 S1 hl1=>?_)
 case refine_2=>
  rw[<-hl1];simp -dsimp only[aw,jV,jW,jX,jY,jZ,jA,reduceIte,reduceCtorEq,jB,jC,jD,jE,jF,jG];exact aD S1 hx
 rw[<-hl3];rw[bZ]at hx;simp -dsimp only[aw,jV,jW,jX,jY,jZ,jA,reduceIte,reduceCtorEq,jB,jC,jD,jE,jF,jG];refine aR S3 h2 (cq _) hx (cw H (aa 59) h2 (by decide +kernel) _ (al S3.at_ _)) (fun _ a4 hx h1 h2 h3 hy σ4 S4 hl4=>?_) (fun e n b hx σ1 S1 hl1=>?_)
 case refine_2=>
  rw[<-hl1];simp -dsimp only[aw,jV,jW,jX,jY,jZ,jA,reduceIte,reduceCtorEq,jB,jC,jD,jE,jF,jG];exact aD S1 hx
 rw[<-hl4];simp -dsimp only[aw,jV,jW,jX,jY,jZ,jA,reduceIte,reduceCtorEq,jB,jC,jD,jE,jF,jG];exact cO S4 h2 hx (by rw[bg];rfl) (by rw[bg];simp[NY,be,bL,m8,sJ,nk,pJ,sP,e8,lr,n9,og,exZ,bX,bp,aK,aL,aw,jV,jW,jX,jY,jZ,jA,reduceIte,reduceCtorEq,jB,jC,jD,jE,jF,jG])
abbrev pU(ts:List Tok)(i b:Nat):Prop:=∀σ:LLV,σ[i]? = some (pb ts b)->Fun G 86 [.ptr i 0] σ (CQ (fun l=>.d (.sl (l.map dit))) ts i σ (fK (zLs ts) (jM (zLs ts)) (ts.drop b)))
theorem CG(hB:∀b,a<b->b≤ts.length->pU ts i b):Fun G 64 [.ptr i 0] σ (CQ vit ts i σ (oK (zLs ts) (jM (zLs ts)) (ts.drop a))):=by
 refine ai Tryz.func64 k64 rfl fun hb hw=>?_;have S:=St.init hi hb;obtain⟨x,hx⟩:∃x,x=oK (zLs ts) (jM (zLs ts)) (ts.drop a):=⟨_,rfl⟩
 rw[<-hx];unfold oK at hx;rw[i8]at hx;unfold c64;simp -dsimp only[aw,jV,jW,jX,jY,jZ,jA,reduceIte,reduceCtorEq,jB,jC,jD,jE,jF,jG];refine aR S ha (jx _) hx (gY H ha _ (al hi _)) (fun ix a1 hx h1 h2 h3 hy σ1 S1 hl1=>?_) (fun e n b hx σ1 S1 hl1=>?_)
 case refine_2=>
  rw[<-hl1];simp -dsimp only[aw,jV,jW,jX,jY,jZ,jA,reduceIte,reduceCtorEq,jB,jC,jD,jE,jF,jG];exact aD S1 hx
 rw[<-hl1];rw[bZ]at hx;simp -dsimp only[aw,jV,jW,jX,jY,jZ,jA,reduceIte,reduceCtorEq,jB,jC,jD,jE,jF,jG];refine aR S1 h2 (cq _) hx (pW H inW h2 (by decide +kernel) _ (al S1.at_ _)) (fun _ a2 hx h1 h2 h3 hy σ2 S2 hl2=>?_) (fun e n b hx σ1 S1 hl1=>?_)
 case refine_2=>
  rw[<-hl1];simp -dsimp only[aw,jV,jW,jX,jY,jZ,jA,reduceIte,reduceCtorEq,jB,jC,jD,jE,jF,jG];exact aD S1 hx
 rw[<-hl2];rw[i8]at hx;simp -dsimp only[aw,jV,jW,jX,jY,jZ,jA,reduceIte,reduceCtorEq,jB,jC,jD,jE,jF,jG];refine aR S2 h2 (jx _) hx (gY H h2 _ (al S2.at_ _)) (fun nm a3 hx h4 h5 h6 hy σ3 S3 hl3=>?_) (fun e n b hx σ1 S1 hl1=>?_)
 case refine_2=>
  rw[<-hl1];simp -dsimp only[aw,jV,jW,jX,jY,jZ,jA,reduceIte,reduceCtorEq,jB,jC,jD,jE,jF,jG];exact aD S1 hx
 rw[<-hl3];simp -dsimp only[aw,jV,jW,jX,jY,jZ,jA,reduceIte,reduceCtorEq,jB,jC,jD,jE,jF,jG];have hlt:a<a3:=by unfold gS at h6;rw[TU]at h6;omega
 refine aR S3 h5 (mm _ (TX _)) hx (hB a3 hlt h5 _ (al S3.at_ _)) (fun l a4 hx h1 h2 h3 hy σ4 S4 hl4=>?_) (fun e n b hx σ1 S1 hl1=>?_)
 case refine_2=>
  rw[<-hl1];simp -dsimp only[aw,jV,jW,jX,jY,jZ,jA,reduceIte,reduceCtorEq,jB,jC,jD,jE,jF,jG];exact aD S1 hx
 rw[<-hl4];simp -dsimp only[aw,jV,jW,jX,jY,jZ,jA,reduceIte,reduceCtorEq,jB,jC,jD,jE,jF,jG];exact cO S4 h2 hx (by rw[bg];rfl) (by rw[bg];simp[PA,be,bL,m8,sJ,nk,pJ,sP,e8,lr,n9,og,exZ,bX,bp,aK,aL,aw,jV,jW,jX,jY,jZ,jA,reduceIte,reduceCtorEq,jB,jC,jD,jE,jF,jG])
theorem xu(hB:∀b,a<b->b≤ts.length->pU ts i b):Fun G 63 [.ptr i 0] σ (CQ vit ts i σ (ifC (zLs ts) (jM (zLs ts)) (ts.drop a))):=by
 refine ai Tryz.func63 k63 rfl fun hb hw=>?_;have S:=St.init hi hb;obtain⟨x,hx⟩:∃x,x=ifC (zLs ts) (jM (zLs ts)) (ts.drop a):=⟨_,rfl⟩
 rw[<-hx];unfold ifC at hx;rw[bZ]at hx;unfold c63;simp -dsimp only[aw,jV,jW,jX,jY,jZ,jA,reduceIte,reduceCtorEq,jB,jC,jD,jE,jF,jG];refine aR S ha (cq _) hx (cw H (aa 40) ha (by decide +kernel) _ (al S.at_ _)) (fun _ a1 hx h1 h2 h3 hy σ1 S1 hl1=>?_) (fun e n b hx σ1 S1 hl1=>?_)
 case refine_2=>
  rw[<-hl1];simp -dsimp only[aw,jV,jW,jX,jY,jZ,jA,reduceIte,reduceCtorEq,jB,jC,jD,jE,jF,jG];exact aD S1 hx
 rw[<-hl1];rw[yf]at hx;simp -dsimp only[aw,jV,jW,jX,jY,jZ,jA,reduceIte,reduceCtorEq,jB,jC,jD,jE,jF,jG];have hlt:a<a1:=by unfold gS at h3;rw[TU]at h3;omega
 refine aR S1 h2 (Fd _) hx (uH H h2 _ (al S1.at_ _)) (fun e a2 hx h4 h5 h6 hy σ2 S2 hl2=>?_) (fun e n b hx σ1 S1 hl1=>?_)
 case refine_2=>
  rw[<-hl1];simp -dsimp only[aw,jV,jW,jX,jY,jZ,jA,reduceIte,reduceCtorEq,jB,jC,jD,jE,jF,jG];exact aD S1 hx
 rw[<-hl2];rw[bZ]at hx;simp -dsimp only[aw,jV,jW,jX,jY,jZ,jA,reduceIte,reduceCtorEq,jB,jC,jD,jE,jF,jG,an];refine aR S2 h5 (cq _) hx (cw H (aa 41) h5 (by decide +kernel) _ (al S2.at_ _)) (fun _ a3 hx h7 h8 h9 hy σ3 S3 hl3=>?_) (fun e n b hx σ1 S1 hl1=>?_)
 case refine_2=>
  rw[<-hl1];simp -dsimp only[aw,jV,jW,jX,jY,jZ,jA,reduceIte,reduceCtorEq,jB,jC,jD,jE,jF,jG];exact aD S1 hx
 rw[<-hl3];simp -dsimp only[aw,jV,jW,jX,jY,jZ,jA,reduceIte,reduceCtorEq,jB,jC,jD,jE,jF,jG];refine aR S3 h8 (mm _ (TX _)) hx (hB a3 (by omega) h8 _ (al S3.at_ _)) (fun l a4 hx h1 h2 h3 hy σ4 S4 hl4=>?_) (fun e n b hx σ1 S1 hl1=>?_)
 case refine_2=>
  rw[<-hl1];simp -dsimp only[aw,jV,jW,jX,jY,jZ,jA,reduceIte,reduceCtorEq,jB,jC,jD,jE,jF,jG];exact aD S1 hx
 rw[<-hl4];simp -dsimp only[aw,jV,jW,jX,jY,jZ,jA,reduceIte,reduceCtorEq,jB,jC,jD,jE,jF,jG];refine iJ H (m:=gj) (by decide +kernel) S4 h2 (fun hs2 hlt2 σ5 S5 hl5=>?_) (fun hs2=>?_)
 .rw[eD hs2]at hx;rw[<-hl5];simp -dsimp only[aw,jV,jW,jX,jY,jZ,jA,reduceIte,reduceCtorEq,jB,jC,jD,jE,jF,jG];refine aR S5 hlt2 (mm _ (TX _)) hx (hB (a4+1) (by omega) hlt2 _ (al S5.at_ _)) (fun m a6 hx h1 h2 h3 hy σ6 S6 hl6=>?_) (fun e n b hx σ1 S1 hl1=>?_)
  case refine_2=>
   rw[<-hl1];simp -dsimp only[aw,jV,jW,jX,jY,jZ,jA,reduceIte,reduceCtorEq,jB,jC,jD,jE,jF,jG];exact aD S1 hx
  rw[<-hl6];simp -dsimp only[aw,jV,jW,jX,jY,jZ,jA,reduceIte,reduceCtorEq,jB,jC,jD,jE,jF,jG];exact cO S6 h2 hx (by rw[bg];rfl) (by rw[bg];simp[My,be,bL,m8,sJ,nk,pJ,sP,e8,lr,n9,og,aw,jV,jW,jX,jY,jZ,jA,reduceIte,reduceCtorEq,jB,jC,jD,jE,jF,jG])
 .rw[ez hs2]at hx;simp -dsimp only[aw,jV,jW,jX,jY,jZ,jA,reduceIte,reduceCtorEq,jB,jC,jD,jE,jF,jG];exact cO S4 h2 hx (by rw[bg];rfl) (by rw[bg];simp[My,be,bL,m8,sJ,nk,pJ,sP,e8,lr,n9,og,aw,jV,jW,jX,jY,jZ,jA,reduceIte,reduceCtorEq,jB,jC,jD,jE,jF,jG])
end
end Go.Proofs.YtnhphlmblenapaaGreatDoor
namespace Go.Proofs.YtnhphlmblenapaaGreatDoor
open Go.RowKit
open Nat renaming reduceLeDiff -> jA, reduceBEq -> jB, reduceLT -> jC, reduceEqDiff -> jD, reduceAdd -> jE, reduceSub -> jF, reduceMul -> jG
open V renaming copy -> jV, lend -> jW, lend1 -> jX, cells -> jY, boxable -> jZ
theorem ic{α:Type}(y:CP α):y=y.bind .ok:=by cases y<;>rfl
theorem xJ(z:Int)(p:List Tok):Tk aF p.length p ((jM z).rest [] p):=by have:=wA z [] p;simp only[aF,Nat.zero_add]at this;exact this
theorem Me(z:Int)(r:List Tok):Tk fg r.length r (ifC z (jM z) r):=Lc z fun p _=>xJ z p
theorem Fh(z:Int)(r:List Tok):Tk fg r.length r (oK z (jM z) r):=Bd z fun p _=>xJ z p
abbrev vK(ts:List Tok)(i b:Nat):Prop:=∀σ:LLV,σ[i]? = some (pb ts b)->Fun G 26 [.ptr i 0] σ (CQ vit ts i σ (jn (zLs ts) (ts.drop b)))
section
variable {ts : List Tok} {a i : Nat} (H : TsV ts) (ha : a ≤ ts.length)
include H ha
theorem uU(hI:∀b,a<b->b≤ts.length->vK ts i b):pU ts i a:=fun σ hi=>by
 refine ai Tryz.func86 k86 rfl fun hb hw=>?_;have S:=St.init hi hb;have hL:=H.ok.len;obtain⟨x,hx⟩:∃x,x=fK (zLs ts) (jM (zLs ts)) (ts.drop a):=⟨_,rfl⟩
 rw[<-hx];unfold fK at hx;rw[bZ,jf]at hx;unfold c86;simp -dsimp only[aw,jV,jW,jX,jY,jZ,jA,reduceIte,reduceCtorEq,jB,jC,jD,jE,jF,jG];refine jz (aR S ha (cq _) hx (cw H (aa 123) ha (by decide +kernel) _ (al S.at_ _)) (fun _ a1 hx h1 h2 h3 hy σ1 S1 hl1=>?_) (fun e n b hx σ1 S1 hl1=>?_))
 case refine_2=>
  rw[<-hl1];simp -dsimp only[aw,jV,jW,jX,jY,jZ,jA,reduceIte,reduceCtorEq,jB,jC,jD,jE,jF,jG];exact aD S1 hx
 rw[<-hl1];simp -dsimp only[aw,jV,jW,jX,jY,jZ,jA,reduceIte,reduceCtorEq,jB,jC,jD,jE,jF,jG];have hlt:a<a1:=by unfold gS at h3;rw[TU]at h3;omega
 refine aN [0,3] (R:=fun(j:Nat) ρ σ'=>∃(a1:Nat) (l:List It) (σ2:LLV),ρ=[(0,.ptr i 0),(3,.own 54 12 (l.map dit))]/\σ'=σ2++[]/\St σ i ts a1 σ2/\a<a1/\a1≤ts.length/\l.length+j≤2*a1/\j≤a1/\x=jI (zLs ts) l (ts.drop a1)) ts.length ⟨a1,[],σ1,rfl,rfl,S1,hlt,h2,by simp,by omega,hx⟩ ?_ _;rintro j ρ' σ' hj ⟨a1,l,σ2,rfl,rfl,S2,h4,h5,h6,h7,hx⟩;rw[ou]at hx;rw[S1.len,<-S2.len];simp -dsimp only[aw,jV,jW,jX,jY,jZ,jA,reduceIte,reduceCtorEq,jB,jC,jD,jE,jF,jG];refine mP H (m:=aa 125) (by decide +kernel) S2 h5 (fun hs2 hlt2 σ3 S3 hl3=>?_) (fun hs2=>?_)
 .rw[eD hs2]at hx;rw[<-hl3];simp -dsimp only[aw,jV,jW,jX,jY,jZ,jA,reduceIte,reduceCtorEq,jB,jC,jD,jE,jF,jG];exact cO S3 hlt2 hx rfl rfl
 rw[ez hs2]at hx;simp -dsimp only[aw,jV,jW,jX,jY,jZ,jA,reduceIte,reduceCtorEq,jB,jC,jD,jE,jF,jG];refine aR S2 h5 (kL _ _) hx (hI a1 h4 h5 _ (al S2.at_ _)) (fun y a3 hx h7 h8 h9 hy σ4 S4 hl4=>?_) (fun e n b hx σ1 S1 hl1=>?_)
 case refine_2=>
  rw[<-hl1];simp -dsimp only[aw,jV,jW,jX,jY,jZ,jA,reduceIte,reduceCtorEq,jB,jC,jD,jE,jF,jG];exact aD S1 hx
 rw[<-hl4];simp -dsimp only[aw,jV,jW,jX,jY,jZ,jA,reduceIte,reduceCtorEq,jB,jC,jD,jE,jF,jG,bg];refine bI (by omega) ?_;simp -dsimp only[aw,jV,jW,jX,jY,jZ,jA,reduceIte,reduceCtorEq,jB,jC,jD,jE,jF,jG];have hlt4:a1<a3:=by have:=iv y;rw[TU]at h9;omega
 refine⟨by omega,Nxt.same (by simp) (ax S4.bb rfl) (by simp[aq,V.under,S4.len];exact S4.lt) ⟨a3,l++[y],σ4,by rw[TV,TW,T5,ea],rfl,S4,by omega,h8,by simp;omega,by omega,hx⟩⟩
theorem tz(hB:∀b,a<b->b≤ts.length->pU ts i b):vK ts i a:=fun σ hi=>by
 refine ai Tryz.func26 k26 rfl fun hb hw=>?_;have S:=St.init hi hb;obtain⟨x,hx⟩:∃x,x=jn (zLs ts) (ts.drop a):=⟨_,rfl⟩
 rw[<-hx];rw[tr]at hx;unfold c26
 have fin:∀{σ1:LLV} {a2:Nat} {v:It} {ρ:ah},St σ i ts a2 σ1->a2≤ts.length->x=.ok v (ts.drop a2)->get ρ 2=.ptr σ1.length 0->fin σ1.length MG (CQ vit ts i σ x) .ret ρ (σ1++[(dit v).map V.d]):=fun{σ1 a2 v ρ} S1 h2 hx hρ=>
  cO S1 h2 hx (by rw[bg];rfl) (by rw[bg,ea];simp[MG,be,bL,hρ,aw,jV,jW,jX,jY,jZ,jA,reduceIte,reduceCtorEq,jB,jC,jD,jE,jF,jG])
 simp -dsimp only[aw,jV,jW,jX,jY,jZ,jA,reduceIte,reduceCtorEq,jB,jC,jD,jE,jF,jG];refine iJ H (m:=jU) (by decide +kernel) S ha (fun hs2 hlt2 σ1 S1 hl1=>?_) (fun hs2=>?_)
 .rw[eD hs2,ic (gu _ _ _)]at hx;rw[<-hl1];simp -dsimp only[aw,jV,jW,jX,jY,jZ,jA,reduceIte,reduceCtorEq,jB,jC,jD,jE,jF,jG];refine aR S1 hlt2 (oY _ _ _) hx (tE H hlt2 _ (al S1.at_ _) 2) (fun y a3 hx h7 h8 h9 hy σ4 S4 hl4=>?_) (fun e n b hx σ1 S1 hl1=>?_)
  case refine_2=>
   rw[<-hl1];simp -dsimp only[aw,jV,jW,jX,jY,jZ,jA,reduceIte,reduceCtorEq,jB,jC,jD,jE,jF,jG];exact aD S1 hx
  rw[<-hl4];simp -dsimp only[aw,jV,jW,jX,jY,jZ,jA,reduceIte,reduceCtorEq,jB,jC,jD,jE,jF,jG,bg];have:=fin (ρ:=[(2,.ptr σ4.length 0)]) S4 h8 hx rfl;rw[ea]at this;exact this
 rw[ez hs2]at hx;simp -dsimp only[aw,jV,jW,jX,jY,jZ,jA,reduceIte,reduceCtorEq,jB,jC,jD,jE,jF,jG];refine iJ H (m:=jQ) (by decide +kernel) S ha (fun hs2 hlt2 σ1 S1 hl1=>?_) (fun hs2=>?_)
 .rw[eD hs2,ic (qU _ _)]at hx;rw[<-hl1];simp -dsimp only[aw,jV,jW,jX,jY,jZ,jA,reduceIte,reduceCtorEq,jB,jC,jD,jE,jF,jG];refine aR S1 hlt2 (Bn _ _) hx (Cu H hlt2 _ (al S1.at_ _)) (fun y a3 hx h7 h8 h9 hy σ4 S4 hl4=>?_) (fun e n b hx σ1 S1 hl1=>?_)
  case refine_2=>
   rw[<-hl1];simp -dsimp only[aw,jV,jW,jX,jY,jZ,jA,reduceIte,reduceCtorEq,jB,jC,jD,jE,jF,jG];exact aD S1 hx
  rw[<-hl4];simp -dsimp only[aw,jV,jW,jX,jY,jZ,jA,reduceIte,reduceCtorEq,jB,jC,jD,jE,jF,jG,bg];have:=fin (ρ:=[(2,.ptr σ4.length 0)]) S4 h8 hx rfl;rw[ea]at this;exact this
 rw[ez hs2]at hx;simp -dsimp only[aw,jV,jW,jX,jY,jZ,jA,reduceIte,reduceCtorEq,jB,jC,jD,jE,jF,jG];refine iJ H (m:=ifW) (by decide +kernel) S ha (fun hs2 hlt2 σ1 S1 hl1=>?_) (fun hs2=>?_)
 .rw[eD hs2,ic (ifC _ _ _)]at hx;rw[<-hl1];simp -dsimp only[aw,jV,jW,jX,jY,jZ,jA,reduceIte,reduceCtorEq,jB,jC,jD,jE,jF,jG];refine aR S1 hlt2 (Me _ _) hx (xu H hlt2 _ (al S1.at_ _) fun b h1 h2=>hB b (by omega) h2) (fun y a3 hx h7 h8 h9 hy σ4 S4 hl4=>?_) (fun e n b hx σ1 S1 hl1=>?_)
  case refine_2=>
   rw[<-hl1];simp -dsimp only[aw,jV,jW,jX,jY,jZ,jA,reduceIte,reduceCtorEq,jB,jC,jD,jE,jF,jG];exact aD S1 hx
  rw[<-hl4];simp -dsimp only[aw,jV,jW,jX,jY,jZ,jA,reduceIte,reduceCtorEq,jB,jC,jD,jE,jF,jG,bg];have:=fin (ρ:=[(2,.ptr σ4.length 0)]) S4 h8 hx rfl;rw[ea]at this;exact this
 rw[ez hs2]at hx;simp -dsimp only[aw,jV,jW,jX,jY,jZ,jA,reduceIte,reduceCtorEq,jB,jC,jD,jE,jF,jG];refine iJ H (m:=iQ) (by decide +kernel) S ha (fun hs2 hlt2 σ1 S1 hl1=>?_) (fun hs2=>?_)
 .rw[eD hs2,ic (oK _ _ _)]at hx;rw[<-hl1];simp -dsimp only[aw,jV,jW,jX,jY,jZ,jA,reduceIte,reduceCtorEq,jB,jC,jD,jE,jF,jG];refine aR S1 hlt2 (Fh _ _) hx (CG H hlt2 _ (al S1.at_ _) fun b h1 h2=>hB b (by omega) h2) (fun y a3 hx h7 h8 h9 hy σ4 S4 hl4=>?_) (fun e n b hx σ1 S1 hl1=>?_)
  case refine_2=>
   rw[<-hl1];simp -dsimp only[aw,jV,jW,jX,jY,jZ,jA,reduceIte,reduceCtorEq,jB,jC,jD,jE,jF,jG];exact aD S1 hx
  rw[<-hl4];simp -dsimp only[aw,jV,jW,jX,jY,jZ,jA,reduceIte,reduceCtorEq,jB,jC,jD,jE,jF,jG,bg];have:=fin (ρ:=[(2,.ptr σ4.length 0)]) S4 h8 hx rfl;rw[ea]at this;exact this
 rw[ez hs2]at hx;simp -dsimp only[aw,jV,jW,jX,jY,jZ,jA,reduceIte,reduceCtorEq,jB,jC,jD,jE,jF,jG];refine iJ H (m:=gH) (by decide +kernel) S ha (fun hs2 hlt2 σ1 S1 hl1=>?_) (fun hs2=>?_)
 .rw[eD hs2,ic (ma _ _)]at hx;rw[<-hl1];simp -dsimp only[aw,jV,jW,jX,jY,jZ,jA,reduceIte,reduceCtorEq,jB,jC,jD,jE,jF,jG];refine aR S1 hlt2 (xQ _ _) hx (zg H hlt2 _ (al S1.at_ _)) (fun y a3 hx h7 h8 h9 hy σ4 S4 hl4=>?_) (fun e n b hx σ1 S1 hl1=>?_)
  case refine_2=>
   rw[<-hl1];simp -dsimp only[aw,jV,jW,jX,jY,jZ,jA,reduceIte,reduceCtorEq,jB,jC,jD,jE,jF,jG];exact aD S1 hx
  rw[<-hl4];simp -dsimp only[aw,jV,jW,jX,jY,jZ,jA,reduceIte,reduceCtorEq,jB,jC,jD,jE,jF,jG,bg];have:=fin (ρ:=[(2,.ptr σ4.length 0)]) S4 h8 hx rfl;rw[ea]at this;exact this
 rw[ez hs2,ic (gu _ _ _)]at hx;simp -dsimp only[aw,jV,jW,jX,jY,jZ,jA,reduceIte,reduceCtorEq,jB,jC,jD,jE,jF,jG];refine aR S ha (oY _ _ _) hx (tE H ha _ (al S.at_ _) 1) (fun y a3 hx h7 h8 h9 hy σ4 S4 hl4=>?_) (fun e n b hx σ1 S1 hl1=>?_)
 case refine_2=>
  rw[<-hl1];simp -dsimp only[aw,jV,jW,jX,jY,jZ,jA,reduceIte,reduceCtorEq,jB,jC,jD,jE,jF,jG];exact aD S1 hx
 rw[<-hl4];simp -dsimp only[aw,jV,jW,jX,jY,jZ,jA,reduceIte,reduceCtorEq,jB,jC,jD,jE,jF,jG,bg];have:=fin (ρ:=[(2,.ptr σ4.length 0)]) S4 h8 hx rfl;rw[ea]at this;exact this
end
theorem vQ{ts:List Tok}{i:Nat}(H:TsV ts):∀(n a:Nat),a≤ts.length->ts.length-a≤n->vK ts i a/\pU ts i a
 | 0,a,ha,hn=>⟨tz H ha fun b h1 h2=>by omega,uU H ha fun b h1 h2=>by omega⟩
 | n+1,a,ha,hn=>⟨tz H ha fun b h1 h2=>(vQ H n b h2 (by omega)).2,uU H ha fun b h1 h2=>(vQ H n b h2 (by omega)).1⟩
theorem C7{ts:List Tok}{i a:Nat}(H:TsV ts)(ha:a≤ts.length):vK ts i a:=(vQ H _ a ha (T7 _)).1
theorem EB{ts:List Tok}{i a:Nat}(H:TsV ts)(ha:a≤ts.length):pU ts i a:=(vQ H _ a ha (T7 _)).2
end Go.Proofs.YtnhphlmblenapaaGreatDoor
namespace Go.Proofs.YtnhphlmblenapaaGreatDoor
open Go.RowKit
open Nat renaming reduceLeDiff -> jA, reduceBEq -> jB, reduceLT -> jC, reduceEqDiff -> jD, reduceAdd -> jE, reduceSub -> jF, reduceMul -> jG
open V renaming copy -> jV, lend -> jW, lend1 -> jX, cells -> jY, boxable -> jZ
section
variable {ts : List Tok} {a i : Nat} (H : TsV ts) (ha : a ≤ ts.length) (σ : LLV) (hi : σ[i]? = some (pb ts a))
include H ha hi
theorem Ag:Fun G 198 [.ptr i 0] σ (CQ (fun n=>.d (ac n)) ts i σ (p8 (zLs ts) (ts.drop a))):=by
 refine ai Tryz.func198 RA rfl fun hb hw=>?_;have S:=St.init hi hb;have hL:=H.ok.len;obtain⟨x,hx⟩:∃x,x=p8 (zLs ts) (ts.drop a):=⟨_,rfl⟩
 rw[<-hx];unfold p8 at hx;unfold Qy;simp -dsimp only[aw,jV,jW,jX,jY,jZ,jA,reduceIte,reduceCtorEq,jB,jC,jD,jE,jF,jG];refine jz (mP H (m:=aa 91) (by decide +kernel) S ha (fun hs2 hlt2 σ2 S2 hl2=>?_) (fun hs2=>?_))
 case refine_2=>
  rw[ez hs2]at hx;simp -dsimp only[aw,jV,jW,jX,jY,jZ,jA,reduceIte,reduceCtorEq,jB,jC,jD,jE,jF,jG];exact cO S ha hx rfl rfl
 rw[eD hs2,mr]at hx;rw[<-hl2];simp -dsimp only[aw,jV,jW,jX,jY,jZ,jA,reduceIte,reduceCtorEq,jB,jC,jD,jE,jF,jG];refine aR S2 hlt2 (ll _) hx (e6 H hlt2 _ (al S2.at_ _)) (fun n a3 hx h4 h5 h6 hy σ3 S3 hl3=>?_) (fun e n b hx σ1 S1 hl1=>?_)
 case refine_2=>
  rw[<-hl1];simp -dsimp only[aw,jV,jW,jX,jY,jZ,jA,reduceIte,reduceCtorEq,jB,jC,jD,jE,jF,jG];exact aD S1 hx
 have ha3:a3=a+1+1:=by
  have h:=Ft hy;unfold ct at h;split at h
  .cases h
  .rename_i t r he;split at h
   .simp only[Option.some.injEq,Prod.mk.injEq]at h;have h2:=congrArg List.length he;rw[h.2]at h2;simp only[TU,List.length_cons]at h2;omega
   .cases h
 rw[<-hl3];by_cases hn:n<1
 .rw[if_pos hn]at hx;have hi3:=S3.at_;have hF:=pT ts a3 (a+1) i 5 H (by omega) (σ3++[]) (al hi3 _);have hbo:=al hi3 [];unfold pb at hbo;have hw1:IntKind.i64.wrap (((a3:Nat):Int)-1)=((a+1:Nat):Int):=by rw[ha3,ba (by omega) (by omega)];omega
  simp -dsimp only[aw,jV,jW,jX,jY,jZ,jA,reduceIte,reduceCtorEq,jB,jC,jD,jE,jF,jG,decide_eq_true hn,hbo,hw1];refine aC hF fun o σ' ⟨e1,e2⟩=>?_;subst e1;subst e2;simp -dsimp only[aw,jV,jW,jX,jY,jZ,jA,reduceIte,reduceCtorEq,jB,jC,jD,jE,jF,jG,bu];exact aD S3 hx
 .rw[if_neg hn,bZ]at hx;simp -dsimp only[aw,jV,jW,jX,jY,jZ,jA,reduceIte,reduceCtorEq,jB,jC,jD,jE,jF,jG,decide_eq_false hn];refine aR S3 h5 (cq _) hx (cw H (aa 93) h5 (by decide +kernel) _ (al S3.at_ _)) (fun _ a4 hx h7 h8 h9 hy σ4 S4 hl4=>?_) (fun e n b hx σ1 S1 hl1=>?_)
  case refine_2=>
   rw[<-hl1];simp -dsimp only[aw,jV,jW,jX,jY,jZ,jA,reduceIte,reduceCtorEq,jB,jC,jD,jE,jF,jG];exact aD S1 hx
  rw[<-hl4];simp -dsimp only[aw,jV,jW,jX,jY,jZ,jA,reduceIte,reduceCtorEq,jB,jC,jD,jE,jF,jG];exact cO S4 h8 hx rfl rfl
theorem oi(m:Int):Fun G 140 [.ptr i 0,.d (ac m)] σ (CQ (fun f=>.agg ((dfl f).map V.d)) ts i σ (eV (zLs ts) m (ts.drop a))):=by
 refine ai Tryz.func140 Sb rfl fun hb hw=>?_;have S:=St.init hi hb;obtain⟨x,hx⟩:∃x,x=eV (zLs ts) m (ts.drop a):=⟨_,rfl⟩
 rw[<-hx];unfold eV at hx;rw[i8]at hx;unfold O6;simp -dsimp only[aw,jV,jW,jX,jY,jZ,jA,reduceIte,reduceCtorEq,jB,jC,jD,jE,jF,jG];refine aR S ha (jx _) hx (gY H ha _ (al hi _)) (fun s a1 hx h1 h2 h3 hy σ1 S1 hl1=>?_) (fun e n b hx σ1 S1 hl1=>?_)
 case refine_2=>
  rw[<-hl1];simp -dsimp only[aw,jV,jW,jX,jY,jZ,jA,reduceIte,reduceCtorEq,jB,jC,jD,jE,jF,jG];exact aD S1 hx
 rw[<-hl1];simp -dsimp only[aw,jV,jW,jX,jY,jZ,jA,reduceIte,reduceCtorEq,jB,jC,jD,jE,jF,jG];refine aR S1 h2 (xr _ _) hx (Ag H h2 _ (al S1.at_ _)) (fun k a2 hx h1 h2 h3 hy σ2 S2 hl2=>?_) (fun e n b hx σ1 S1 hl1=>?_)
 case refine_2=>
  rw[<-hl1];simp -dsimp only[aw,jV,jW,jX,jY,jZ,jA,reduceIte,reduceCtorEq,jB,jC,jD,jE,jF,jG];exact aD S1 hx
 rw[<-hl2];rw[bZ]at hx;simp -dsimp only[aw,jV,jW,jX,jY,jZ,jA,reduceIte,reduceCtorEq,jB,jC,jD,jE,jF,jG];refine aR S2 h2 (cq _) hx (cw H (aa 58) h2 (by decide +kernel) _ (al S2.at_ _)) (fun _ a3 hx h1 h2 h3 hy σ3 S3 hl3=>?_) (fun e n b hx σ1 S1 hl1=>?_)
 case refine_2=>
  rw[<-hl1];simp -dsimp only[aw,jV,jW,jX,jY,jZ,jA,reduceIte,reduceCtorEq,jB,jC,jD,jE,jF,jG];exact aD S1 hx
 rw[<-hl3];rw[mr]at hx;simp -dsimp only[aw,jV,jW,jX,jY,jZ,jA,reduceIte,reduceCtorEq,jB,jC,jD,jE,jF,jG];refine aR S3 h2 (ll _) hx (e6 H h2 _ (al S3.at_ _)) (fun w a4 hx h1 h2 h3 hy σ4 S4 hl4=>?_) (fun e n b hx σ1 S1 hl1=>?_)
 case refine_2=>
  rw[<-hl1];simp -dsimp only[aw,jV,jW,jX,jY,jZ,jA,reduceIte,reduceCtorEq,jB,jC,jD,jE,jF,jG];exact aD S1 hx
 rw[<-hl4];by_cases h0:m=0
 .rw[if_pos h0,bZ,dN]at hx;simp -dsimp only[aw,jV,jW,jX,jY,jZ,jA,reduceIte,reduceCtorEq,jB,jC,jD,jE,jF,jG,decide_eq_true h0];refine aR S4 h2 (cq _) hx (cw H (aa 61) h2 (by decide +kernel) _ (al S4.at_ _)) (fun _ a5 hx h1 h2 h3 hy σ5 S5 hl5=>?_) (fun e n b hx σ1 S1 hl1=>?_)
  case refine_2=>
   rw[<-hl1];simp -dsimp only[aw,jV,jW,jX,jY,jZ,jA,reduceIte,reduceCtorEq,jB,jC,jD,jE,jF,jG];exact aD S1 hx
  rw[<-hl5];simp -dsimp only[aw,jV,jW,jX,jY,jZ,jA,reduceIte,reduceCtorEq,jB,jC,jD,jE,jF,jG];refine aR S5 h2 (ll _) hx (e6 H h2 _ (al S5.at_ _)) (fun v a6 hx h1 h2 h3 hy σ6 S6 hl6=>?_) (fun e n b hx σ1 S1 hl1=>?_)
  case refine_2=>
   rw[<-hl1];simp -dsimp only[aw,jV,jW,jX,jY,jZ,jA,reduceIte,reduceCtorEq,jB,jC,jD,jE,jF,jG];exact aD S1 hx
  rw[<-hl6];rw[bZ]at hx;simp -dsimp only[aw,jV,jW,jX,jY,jZ,jA,reduceIte,reduceCtorEq,jB,jC,jD,jE,jF,jG];refine aR S6 h2 (cq _) hx (cw H (aa 59) h2 (by decide +kernel) _ (al S6.at_ _)) (fun _ a7 hx h1 h2 h3 hy σ7 S7 hl7=>?_) (fun e n b hx σ1 S1 hl1=>?_)
  case refine_2=>
   rw[<-hl1];simp -dsimp only[aw,jV,jW,jX,jY,jZ,jA,reduceIte,reduceCtorEq,jB,jC,jD,jE,jF,jG];exact aD S1 hx
  rw[<-hl7];simp -dsimp only[aw,jV,jW,jX,jY,jZ,jA,reduceIte,reduceCtorEq,jB,jC,jD,jE,jF,jG];exact cO S7 h2 hx rfl (by simp[GQ,be,bL,dfl,aw,jV,jW,jX,jY,jZ,jA,reduceIte,reduceCtorEq,jB,jC,jD,jE,jF,jG])
 .rw[if_neg h0]at hx;simp only[CP.bind]at hx;rw[bZ]at hx;simp -dsimp only[aw,jV,jW,jX,jY,jZ,jA,reduceIte,reduceCtorEq,jB,jC,jD,jE,jF,jG,decide_eq_false h0];refine aR S4 h2 (cq _) hx (cw H (aa 59) h2 (by decide +kernel) _ (al S4.at_ _)) (fun _ a7 hx h1 h2 h3 hy σ7 S7 hl7=>?_) (fun e n b hx σ1 S1 hl1=>?_)
  case refine_2=>
   rw[<-hl1];simp -dsimp only[aw,jV,jW,jX,jY,jZ,jA,reduceIte,reduceCtorEq,jB,jC,jD,jE,jF,jG];exact aD S1 hx
  rw[<-hl7];simp -dsimp only[aw,jV,jW,jX,jY,jZ,jA,reduceIte,reduceCtorEq,jB,jC,jD,jE,jF,jG];exact cO S7 h2 hx rfl (by simp[GQ,be,bL,dfl,aw,jV,jW,jX,jY,jZ,jA,reduceIte,reduceCtorEq,jB,jC,jD,jE,jF,jG])
theorem xl:Fun G 85 [.ptr i 0] σ (CQ (fun l=>.d (.sl (l.map dfl))) ts i σ (gJ (zLs ts) (ts.drop a))):=by
 refine ai Tryz.func85 k85 rfl fun hb hw=>?_;have S:=St.init hi hb;have hL:=H.ok.len;obtain⟨x,hx⟩:∃x,x=gJ (zLs ts) (ts.drop a):=⟨_,rfl⟩
 rw[<-hx];rw[show gJ (zLs ts) (ts.drop a)=db (eM (zLs ts)) [] (ts.drop a)from rfl]at hx;unfold c85;simp -dsimp only[aw,jV,jW,jX,jY,jZ,jA,reduceIte,reduceCtorEq,jB,jC,jD,jE,jF,jG];refine aN [0,3] (R:=fun(j:Nat) ρ σ'=>∃(a1:Nat) (l:List Fl) (σ2:LLV),ρ=[(0,.ptr i 0),(3,.own 74 5 (l.map dfl))]/\σ'=σ2++[]/\St σ i ts a1 σ2/\a1≤ts.length/\l.length+j≤2*a1/\j≤a1/\x=db (eM (zLs ts)) l (ts.drop a1)) ts.length ⟨a,[],σ,rfl,(List.append_nil _).symm,S,ha,by simp,by omega,hx⟩ ?_ _;rintro j ρ' σ' hj ⟨a1,l,σ2,rfl,rfl,S2,h4,h5,h6,hx⟩;rw[fr (ov _).eats]at hx;rw[<-S2.len];unfold eM at hx;have next:∀(m:Int) (r1:Nat),a1<r1->r1≤ts.length->x=((eV (zLs ts) m (ts.drop r1)).bind fun y q=>.ok (l++[y]) q).bind (fun v p=>db (eM (zLs ts)) v p)->x=(eV (zLs ts) m (ts.drop r1)).bind fun y q=>db (eM (zLs ts)) (l++[y]) q:=fun m r1 _ _ h=>by rw[h,dN];rfl
 simp -dsimp only[aw,jV,jW,jX,jY,jZ,jA,reduceIte,reduceCtorEq,jB,jC,jD,jE,jF,jG];refine iJ H (m:=pi) (by decide +kernel) S2 h4 (fun hs2 hlt2 σ3 S3 hl3=>?_) (fun hs1=>?_)
 .simp only[hs2]at hx;have hx:=next 1 (a1+1) (by omega) hlt2 hx
  rw[<-hl3];simp -dsimp only[aw,jV,jW,jX,jY,jZ,jA,reduceIte,reduceCtorEq,jB,jC,jD,jE,jF,jG];refine aR S3 hlt2 (kr _ _ _) hx (oi H hlt2 _ (al S3.at_ _) 1) (fun y a3 hx h7 h8 h9 hy σ4 S4 hl4=>?_) (fun e n b hx σ1 S1 hl1=>?_)
  case refine_2=>
   rw[<-hl1];simp -dsimp only[aw,jV,jW,jX,jY,jZ,jA,reduceIte,reduceCtorEq,jB,jC,jD,jE,jF,jG];exact aD S1 hx
  rw[<-hl4];simp -dsimp only[aw,jV,jW,jX,jY,jZ,jA,reduceIte,reduceCtorEq,jB,jC,jD,jE,jF,jG,dfl];refine bI (by omega) ?_;simp -dsimp only[aw,jV,jW,jX,jY,jZ,jA,reduceIte,reduceCtorEq,jB,jC,jD,jE,jF,jG];have hlt4:a1+1<a3:=by unfold gS at h9;rw[TU]at h9;omega
  exact⟨by omega,Nxt.same (by simp) (ax S4.bb rfl) (by simp[aq,V.under,S4.len];exact S4.lt) ⟨a3,l++[y],σ4,by rw[TV];rfl,rfl,S4,h8,by simp;omega,by omega,hx⟩⟩
 simp -dsimp only[aw,jV,jW,jX,jY,jZ,jA,reduceIte,reduceCtorEq,jB,jC,jD,jE,jF,jG];refine iJ H (m:=lj) (by decide +kernel) S2 h4 (fun hs2 hlt2 σ3 S3 hl3=>?_) (fun hs2=>?_)
 .simp only[hs1,hs2]at hx;have hx:=next 2 (a1+1) (by omega) hlt2 hx
  rw[<-hl3];simp -dsimp only[aw,jV,jW,jX,jY,jZ,jA,reduceIte,reduceCtorEq,jB,jC,jD,jE,jF,jG];refine aR S3 hlt2 (kr _ _ _) hx (oi H hlt2 _ (al S3.at_ _) 2) (fun y a3 hx h7 h8 h9 hy σ4 S4 hl4=>?_) (fun e n b hx σ1 S1 hl1=>?_)
  case refine_2=>
   rw[<-hl1];simp -dsimp only[aw,jV,jW,jX,jY,jZ,jA,reduceIte,reduceCtorEq,jB,jC,jD,jE,jF,jG];exact aD S1 hx
  rw[<-hl4];simp -dsimp only[aw,jV,jW,jX,jY,jZ,jA,reduceIte,reduceCtorEq,jB,jC,jD,jE,jF,jG,dfl];refine bI (by omega) ?_;simp -dsimp only[aw,jV,jW,jX,jY,jZ,jA,reduceIte,reduceCtorEq,jB,jC,jD,jE,jF,jG];have hlt4:a1+1<a3:=by unfold gS at h9;rw[TU]at h9;omega
  exact⟨by omega,Nxt.same (by simp) (ax S4.bb rfl) (by simp[aq,V.under,S4.len];exact S4.lt) ⟨a3,l++[y],σ4,by rw[TV];rfl,rfl,S4,h8,by simp;omega,by omega,hx⟩⟩
 simp -dsimp only[aw,jV,jW,jX,jY,jZ,jA,reduceIte,reduceCtorEq,jB,jC,jD,jE,jF,jG];refine iJ H (m:=lv) (by decide +kernel) S2 h4 (fun hs3 hlt2 σ3 S3 hl3=>?_) (fun hs3=>?_)
 .simp only[hs1,hs2,hs3]at hx;have hx:=next 0 (a1+1) (by omega) hlt2 hx
  rw[<-hl3];simp -dsimp only[aw,jV,jW,jX,jY,jZ,jA,reduceIte,reduceCtorEq,jB,jC,jD,jE,jF,jG];refine aR S3 hlt2 (kr _ _ _) hx (oi H hlt2 _ (al S3.at_ _) 0) (fun y a3 hx h7 h8 h9 hy σ4 S4 hl4=>?_) (fun e n b hx σ1 S1 hl1=>?_)
  case refine_2=>
   rw[<-hl1];simp -dsimp only[aw,jV,jW,jX,jY,jZ,jA,reduceIte,reduceCtorEq,jB,jC,jD,jE,jF,jG];exact aD S1 hx
  rw[<-hl4];simp -dsimp only[aw,jV,jW,jX,jY,jZ,jA,reduceIte,reduceCtorEq,jB,jC,jD,jE,jF,jG,dfl];refine bI (by omega) ?_;simp -dsimp only[aw,jV,jW,jX,jY,jZ,jA,reduceIte,reduceCtorEq,jB,jC,jD,jE,jF,jG];have hlt4:a1+1<a3:=by unfold gS at h9;rw[TU]at h9;omega
  exact⟨by omega,Nxt.same (by simp) (ax S4.bb rfl) (by simp[aq,V.under,S4.len];exact S4.lt) ⟨a3,l++[y],σ4,by rw[TV];rfl,rfl,S4,h8,by simp;omega,by omega,hx⟩⟩
 .simp only[hs1,hs2,hs3]at hx;simp -dsimp only[aw,jV,jW,jX,jY,jZ,jA,reduceIte,reduceCtorEq,jB,jC,jD,jE,jF,jG];exact cO S2 h4 hx rfl rfl
end
end Go.Proofs.YtnhphlmblenapaaGreatDoor
