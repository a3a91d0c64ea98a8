import Derived.Test.YthekkgfmagliiaaGreatDoorK4
set_option linter.unusedVariables false
set_option linter.unusedSimpArgs false
set_option linter.unusedSectionVars false
set_option maxRecDepth 100000
set_option maxHeartbeats 8000000
open Bool renaming false_eq_true->RS,eq_iff_iff->RU
open List renaming length_map->RW,take_of_length_le->RX,getElem?_eq_getElem->RY,map_cons->RZ,length_append->R0,length_cons->R5,getElem?_set_self->R6,drop_eq_nil_of_le->R7,length_nil->R8,take_left->R9,getElem?_set_ne->Sa,set_comm->Sb,mem_singleton->Sc,set_set->Sd,getElem_mem->Se,drop_eq_getElem_cons->Sf,map_nil->Si,append_assoc->Sj,take_length->Sk,take_append->Sl,map_append->Sm,mem_cons->Sn
open Nat renaming zero_le->So,le_refl->Sr,add_sub_cancel_left->Ss,le_trans->Su,mul_le_mul_right->Sv
open Ne renaming symm->Sw
open Option renaming map_some->Sx
namespace Go.Proofs.YthekkgfmagliiaaGreatDoor
open Go.RowKit
open Nat renaming reduceLeDiff -> jA, reduceBEq -> jB, reduceLT -> jC, reduceEqDiff -> jD, reduceAdd -> jE, reduceSub -> jF, reduceMul -> jG
open V renaming copy -> jV, lend -> jW, lend1 -> jX, cells -> jY, boxable -> jZ
theorem d9(ρ:ah)(d t:Nat)(v:V):get (put ρ d v) t=if d=t then v else get ρ t:=by
 rw[cY];by_cases e:d=t
 .subst e;simp
 .rw[if_neg e,if_neg];exact fun h=>e h.symm
abbrev Ge(f:FuncId)(T k by_:Nat):List O:=[⟨some 13,.ldo (.t 1),none⟩,⟨some 14,.mv (.t 0),none⟩,⟨some 15,.call f [.t 14],none⟩,⟨some 16,.mks T k [.t 15],none⟩,⟨some 17,.app T k by_ 13 (.t 16),none⟩,⟨none,.stoo (.t 1) 17,none⟩]
abbrev wv:List (List Nat):=[[],[],[1],[2],[0,3,2],[4,4,0,1,2,3,4]]
section
variable {C : Cx} {n0 : Nat} (ρ0 : ah) (σ0 : LLV) (T k i o : Nat) (rows : LLD) (r : List D) (v : V) (P : List V)
def cO(S:Nat->Bool):ah:=
 put (put (put (put (put ρ0 13 (if S 4 then .d (.sl rows)else if S 0 then .own T k rows else get ρ0 13)) 14 (if S 1 then .ptr i 0 else get ρ0 14)) 15 (if S 2 then v else get ρ0 15))
  16 (if S 3 then .d (.sl [r])else get ρ0 16)) 17 (if S 5 then .d (.sl (rows++[r]))else if S 4 then .own T k (rows++[r])else get ρ0 17)
def fc(S:Nat->Bool):LLV:=
 if S 5 then(if S 2 then σ0.set i P else σ0).set o [.own T k (rows++[r])]else if S 0 then(if S 2 then σ0.set i P else σ0).set o [.d (.sl rows)]else if S 2 then σ0.set i P else σ0
theorem su{f by_:Nat}{Q:cH}(fz:Bool)(PP:V->List V->Prop)(h0:get ρ0 0=.ptr i 0)(h1:get ρ0 1=.ptr o 0)(hio:i≠o)(ho:σ0[o]? = some [.own T k rows])
 (hf:∀σ,σ[i]? = σ0[i]? -> Fun C f [.ptr i 0] σ fun out σ'=>if fz=true then out=.ret v/\σ'=σ.set i P else ∃u P',out=.panic u/\σ'=σ.set i P'/\PP u P')
 (hr:eI [v]=some [r])(hk:r.length=k)(hby:(rows.length+1)*by_≤140737488355328)
 (hq:fz=true->Q .normal (cO ρ0 T k i rows r v fun _=>true) ((σ0.set i P).set o [.own T k (rows++[r])]))
 (hpan:fz=false->∀u P' ρ' X,PP u P'->(X=[.own T k rows]\/X=[.d (.sl rows)])->Q (.panic u) ρ' ((σ0.set i P').set o X)):xr C n0 (Ge f T k by_) wv ρ0 σ0 Q:=by
 intro pr M0 bm0 w0 id ops n M bm tk a w hG hbm hok hes hl h;obtain⟨hlen,hget⟩:=lf hok;have hsz:ops.size=6:=by rw[<-Array.length_toList,<-hlen];rfl
 have hedge:∀(i:Nat) (o:Oper),ops.toList[i]? = some o->wv[i]? = some (br o):=fun i o ho=>by rw[<-hes,List.getElem?_map,ho];rfl
 have hol:o<σ0.length:=(List.getElem?_eq_some_iff.1 ho).1
 have hwant:∀(p:O) (o':Oper),okO C.tab n ops p o'=true->p.g=none->∀a:Act,Region.wanted o' (yielded ops a.tmps)=true:=by
  intro p o' hoo hg a;have hgd:=hoo;unfold okO at hgd;simp only[Bool.and_eq_true]at hgd;replace hgd:=hgd.2;rw[hg]at hgd;split at hgd
  .rename_i hg2;simp[Region.wanted,hg2]
  .rename_i e _;cases e
  .cases hgd
 have hext:∀S S':Nat->Bool,(∀j,j<ops.size->S j=S' j)->cO ρ0 T k i rows r v S=cO ρ0 T k i rows r v S'/\fc σ0 T k i o rows r P S=fc σ0 T k i o rows r P S'/\S 2=S' 2:=fun S S' hS=>by
  rw[hsz]at hS;unfold cO fc;rw[hS 0 (by omega),hS 1 (by omega),hS 2 (by omega),hS 3 (by omega),hS 4 (by omega),hS 5 (by omega)];exact⟨rfl,rfl,rfl⟩
 refine oK (M:=M) (bm:=bm) (tk:=tk) (cO ρ0 T k i rows r v) (fc σ0 T k i o rows r P) (cO ρ0 T k i rows r v fun _=>true) ((σ0.set i P).set o [.own T k (rows++[r])]) (fun S=>fz=true\/S 2=false) (.inr rfl) (fun S S' hS hI=>by rw[<-(hext S S' hS).2.2];exact hI)
  (fun i o ho j hj=>?_) (fun S S' hS=>⟨fun t=>by rw[(hext S S' hS).1],(hext S S' hS).2.1⟩) hl ?_ (fun hI=>?_) (fun S j o' ho' hSj hclo hed hI M bm tk a w hl h=>?_)
 .have he:=hedge i o ho;have hi:i<6:=by have:=(List.getElem?_eq_some_iff.1 ho).1;simp at this;omega
  have key:∀i,i<6->∀l,wv[i]? = some l->∀j∈l,j<i:=by decide
  exact key i hi _ he j hj
 .refine h.congr fun t=>?_;unfold cO;simp only[RS,if_false,d9];repeat' split
  all_goals first|rfl|(subst_vars;rfl)
 .rcases hI with hg|hg
  .exact⟨⟨fun t=>rfl,rfl⟩,hq hg⟩
  .cases hg
 .have he:=hedge j o' ho';have hj:j<6:=by have:=(List.getElem?_eq_some_iff.1 ho').1;simp at this;omega
  have hed:∀l,wv[j]? = some l->∀e∈l,S e=true:=fun l hl e hm=>by rw[hl]at he;cases he;exact hed e hm
  have hcl:∀q,q<6->j∈(wv[q]?.getD [])->S q=false:=fun q hq hm=>by
   cases hs:S q with
   | false=>rfl
   | true=>
    have h8:ops.toList[q]? = some (ops.toList[q]'(by rw[<-hlen];exact hq)):=RY _;rw[hedge q _ h8]at hm;have:=hclo q _ h8 hs j hm;rw[this]at hSj;cases hSj
  have g0:∀t,t<13->get (cO ρ0 T k i rows r v S) t=get ρ0 t:=fun t ht=>by unfold cO;simp only[d9];rw[if_neg (by omega),if_neg (by omega),if_neg (by omega),if_neg (by omega),if_neg (by omega)]
  have go:∀(p:O),(Ge f T k by_)[j]? = some p->p.g=none->fl C p.op p.dst (cO ρ0 T k i rows r v S) (fc σ0 T k i o rows r P S) (fun ρ' σ'=>(∀t,get ρ' t=get (cO ρ0 T k i rows r v fun q=>q==j||S q) t)/\σ'=fc σ0 T k i o rows r P (fun q=>q==j||S q)/\(fz=true\/(j==2||S 2)=false)) Q->
   (if Region.wanted o' (yielded ops a.tmps)then o'.wp C.P a w (s7 M bm pr w n fun ρ' σ'=>(∀t,get ρ' t=get (cO ρ0 T k i rows r v fun q=>q==j||S q) t)/\σ'=fc σ0 T k i o rows r P (fun q=>q==j||S q)/\(fz=true\/(j==2||S 2)=false)) (cd M bm pr w n Q)
   else SRel M bm tk pr (cO ρ0 T k i rows r v fun q=>q==j||S q) (fc σ0 T k i o rows r P fun q=>q==j||S q) n (a.put o'.dst undef) w/\(fz=true\/(j==2||S 2)=false)):=by
   intro p hp hg hr;have hoo:=hget j p o' hp ho';rw[if_pos (hwant p o' hoo hg a)];exact fM (hG.mono hl) h hoo hr
  have x0:ev C (cO ρ0 T k i rows r v S) (.t 0)=.ptr i 0:=by rw[<-h0];exact g0 0 (by omega)
  have x1:ev C (cO ρ0 T k i rows r v S) (.t 1)=.ptr o 0:=by rw[<-h1];exact g0 1 (by omega)
  have hj':j=0\/j=1\/j=2\/j=3\/j=4\/j=5:=by omega
  rcases hj' with rfl|rfl|rfl|rfl|rfl|rfl
  .have s4:=hcl 4 (by omega) (by decide);have s5:=hcl 5 (by omega) (by decide)
   have hσ:(fc σ0 T k i o rows r P S)[o]? = some [.own T k rows]:=by
    unfold fc;rw[s5,hSj];cases S 2<;>simp[hio,ho]
   refine go _ rfl rfl ?_;simp only[fl,x1,hσ,List.getElem?_cons_zero,putd];refine⟨fun t=>?_,?_,by simpa using hI⟩
   .unfold cO;simp only[d9,s4,s5,hSj];simp;grind
   .unfold fc;simp[s5,hSj]
  .refine go _ rfl rfl ?_;have:pv C (.mv (.t 0)) (cO ρ0 T k i rows r v S) (fc σ0 T k i o rows r P S)=some (.ptr i 0):=by show some (ev C _ (.t 0)).copy=_;rw[x0];rfl
   simp only[fl,this,putd];refine⟨fun t=>?_,?_,by simpa using hI⟩
   .unfold cO;simp only[d9,hSj];simp;grind
   .unfold fc;simp
  .have s1:=hed _ rfl 1 (by simp);have s3:=hcl 3 (by omega) (by decide);have s4:=hcl 4 (by omega) (by decide);have s5:=hcl 5 (by omega) (by decide);have x14:ev C (cO ρ0 T k i rows r v S) (.t 14)=.ptr i 0:=by show get _ 14=_;unfold cO;simp[d9,s1]
   refine go _ rfl rfl ?_
   have hσ:(fc σ0 T k i o rows r P S)[i]? = σ0[i]? := by
    unfold fc;rw[s5,hSj];cases S 0<;>simp[Sw hio]
   simp only[fl,RZ,Si,x14,V.lend];refine(hf _ hσ).mono fun out σ' hx=>?_;cases hg:fz with
   | true=>
    rw[hg,if_pos rfl]at hx;obtain⟨rfl,rfl⟩:=hx;refine⟨fun t=>?_,?_,.inl rfl⟩
    .unfold cO;simp only[putd,d9,hSj,s3,s4,s5];simp;grind
    .unfold fc;rw[s5,hSj];cases hs0:S 0<;>simp[s5,hs0,Sb _ _ hio]
   | false=>
    rw[hg,if_neg (by simp)]at hx;obtain⟨u,P',rfl,rfl,hp⟩:=hx
    have e:∃X,(X=[.own T k rows]\/X=[.d (.sl rows)])/\(fc σ0 T k i o rows r P S).set i P'=(σ0.set i P').set o X:=by
     unfold fc;rw[s5,hSj];cases S 0 with
     | true=>exact⟨_,.inr rfl,by simp[Sb _ _ hio]⟩
     | false=>
      refine⟨[.own T k rows],.inl rfl,?_⟩;simp only[RS,if_false];apply List.ext_getElem?;intro q;by_cases e:q=o
      .subst e;rw[Sa hio,ho,R6 (by simpa using hol)]
      .rw[Sa (Sw e)]
    obtain⟨X,hX,e⟩:=e;rw[e];exact hpan hg u P' _ X hp hX
  .have s2:=hed _ rfl 2 (by simp);have x15:ev C (cO ρ0 T k i rows r v S) (.t 15)=v:=by show get _ 15=_;unfold cO;simp[d9,s2]
   have hI':fz=true:=by rcases hI with h|h;exact h;rw[s2]at h;cases h
   refine go _ rfl rfl ?_;simp only[fl,RZ,Si,x15,hr,List.all_cons,List.all_nil,hk,putd];refine⟨by simp,fun t=>?_,?_,.inl hI'⟩
   .unfold cO;simp only[d9,hSj];simp;grind
   .unfold fc;simp
  .have s0:=hed _ rfl 0 (by simp);have s3:=hed _ rfl 3 (by simp);have s2:=hed _ rfl 2 (by simp);have s5:=hcl 5 (by omega) (by decide);have hI':fz=true:=by rcases hI with h|h;exact h;rw[s2]at h;cases h
   have x13:get (cO ρ0 T k i rows r v S) 13=.own T k rows:=by unfold cO;simp[d9,s0,hSj]
   have x16:fC (ev C (cO ρ0 T k i rows r v S) (.t 16))=some [r]:=by
    have:ev C (cO ρ0 T k i rows r v S) (.t 16)=.d (.sl [r]):=by show get _ 16=_;unfold cO;simp[d9,s3]
    rw[this];rfl
   refine go _ rfl rfl ?_;simp only[fl,x13,x16,putd];refine⟨⟨trivial,trivial,by simp[hk],by simpa using hby⟩,fun t=>?_,?_,.inl hI'⟩
   .unfold cO;simp only[d9,s5,hSj];simp;grind
   .unfold fc;simp
  .have s0:=hed _ rfl 0 (by simp);have s4:=hed _ rfl 4 (by simp);have s2:=hed _ rfl 2 (by simp);have hI':fz=true:=by rcases hI with h|h;exact h;rw[s2]at h;cases h
   have x17:get (cO ρ0 T k i rows r v S) 17=.own T k (rows++[r]):=by unfold cO;simp[d9,s4,hSj]
   have hσ:(fc σ0 T k i o rows r P S)[o]? = some [.d (.sl rows)]:=by
    unfold fc;simp[hSj,s0,s2,hol]
   refine go _ rfl rfl ?_;simp only[fl,x1,x17,hσ];refine⟨⟨by simp,rfl⟩,fun t=>?_,?_,.inl hI'⟩
   .unfold cO;simp only[d9,s4,hSj];simp;grind
   .unfold fc;simp[hSj,s0,s2,over]
end
end Go.Proofs.YthekkgfmagliiaaGreatDoor
namespace Go.Proofs.YthekkgfmagliiaaGreatDoor
open Go.RowKit
open Nat renaming reduceLeDiff -> jA, reduceBEq -> jB, reduceLT -> jC, reduceEqDiff -> jD, reduceAdd -> jE, reduceSub -> jF, reduceMul -> jG
open V renaming copy -> jV, lend -> jW, lend1 -> jX, cells -> jY, boxable -> jZ
def kD(ts:List Tok):Nat->List Pr->Nat->Int->QF (List Pr)
 | n,l,a,L=>if a<ts.length then(match n with|0=>.out|n+1=>(ip ts (pfl ts) a L).bind fun p a2 L2=>kD ts n (l++[p]) a2 L2)else .ok l a L
def lX(ts:List Tok):QF (List Pr):=kD ts ts.length [] 0 0
theorem rm(ts:List Tok):∀(n:Nat) (l:List Pr) (a:Nat) (L:Int),Fit ts L (kD ts n l a L) (ir (dm ts) n l (ts.drop a))
 | n,l,a,L=>by
  unfold kD;by_cases h:a<ts.length
  .rw[if_pos h];cases n with
   | zero=>trivial
   | succ n=>
    have e:ir (dm ts) (n+1) l (ts.drop a)=(i6 (dm ts) (ts.drop a)).bind fun p r1=>ir (dm ts) n (l++[p]) r1:=by
     rw[Sf h];rfl
    rw[e];exact dp (xE _ _ _ _) fun p a2 L2=>rm ts n _ a2 L2
  .rw[if_neg h,R7 (by omega)];cases n<;>(have:=iu (ts:=ts) (a:=a) (L:=L) (v:=l);rw[R7 (by omega)]at this;exact this)
theorem wR(ts:List Tok):Fit ts 0 (lX ts) (se ts):=rm ts _ _ _ _
theorem tY(ts:List Tok):∀(n:Nat) (l:List Pr) (a:Nat) (L:Int),a≤ts.length->ts.length-a≤n->GF ts a (kD ts n l a L)
 | n,l,a,L,ha,hn=>by
  unfold kD;by_cases h:a<ts.length
  .rw[if_pos h];cases n with
   | zero=>omega
   | succ n=>exact(qg ha (Sr _)).bind fun p a2 L2 h1 h2=>(tY ts n _ a2 L2 h2 (by omega)).weak (by omega)
  .rw[if_neg h];exact kP (Sr _) ha
theorem qF(ts:List Tok):GF ts 0 (lX ts):=tY ts _ _ _ _ (So _) (by omega)
abbrev vE(l:List Pr):List V:=[.own 29 21 (l.map dpr)]
theorem vU(p:Pr):(dpr p).length=21:=by unfold dpr;simp[lJ]
theorem wF:∀l:List D,jI (l.map V.d)=some l
 | []=>rfl
 | d::l=>by simp only[RZ,jI,V.plain,wF l]
theorem yz(p:Pr):eI [vpr p]=some [dpr p]:=by
 have:(vpr p).cells=(dpr p).map V.d:=by unfold vpr;simp[V.cells,V.copy]
 simp only[eI,this,wF]
theorem zo(ts:List Tok)(H:TsV ts)(hl16:ts.length≤16384)(i o:Nat)(τ:LLV)(hoi:o<i)(hi:τ[i]? = some (pq ts 0 0))(ho:τ[o]? = some [.nil]):
 Fun G 41 [.ptr i 0,.ptr o 0] τ (JX vE ts i o τ (lX ts)):=by
 refine ai Tryz.func41 k41 rfl fun hb hw=>?_;have hil:=(List.getElem?_eq_some_iff.1 hi).1;have hol:=(List.getElem?_eq_some_iff.1 ho).1;have hne:i≠o:=by omega
 unfold c41;simp -dsimp only[aw,jV,jW,jX,jY,jZ,jA,reduceIte,reduceCtorEq,jB,jC,jD,jE,jF,jG]
 refine wI (R:=fun(j:Nat) ρ σ'=>∃(a:Nat) (L:Int) (l:List Pr),ρ=[(0,.ptr i 0),(1,.ptr o 0)]/\σ'=(τ.set i (pq ts a L)).set o (vE l)/\j≤a/\a≤ts.length/\l.length=j/\lX ts=kD ts (ts.length-j) l a L) ts.length
  (.step (i:=o) (off:=0) (cs:=[.nil]) 29 21 ho rfl (.refl _)) ⟨0,0,[],rfl,by rw[y0 hi];rfl,Sr _,So _,rfl,rfl⟩ ?_ _
 rintro j ρ1 σ1 hj ⟨a,L,l,rfl,hσ,hja,ha,hlj,hG⟩;have hi1:σ1[i]? = some (pq ts a L):=by rw[hσ,Sa (Sw hne),R6 hil]
 have ho1:σ1[o]? = some (vE l):=by rw[hσ,R6 (by simpa using hol)]
 have hl1:σ1.length=τ.length:=by rw[hσ];simp
 have hbb:aj σ1.length σ1=true:=by
  rw[hl1,hσ];have:=bv (bv hb (cs:=pq ts a L) (i:=i) rfl) (cs:=vE l) (i:=o) rfl;simpa using this
 unfold pq at hi1;by_cases hlt:a<ts.length
 .have hlt':((a:Nat):Int)<((ts.length:Nat):Int):=by omega
  simp -dsimp only[aw,jV,jW,jX,jY,jZ,jA,reduceIte,reduceCtorEq,jB,jC,jD,jE,jF,jG,hi1,RW,decide_eq_true hlt'];have hp:∀σ,σ[i]? = σ1[i]? -> Fun G 24 [.ptr i 0] σ (QC vpr ts i σ (ip ts (pfl ts) a L)):=fun σ h=>uh ts i H a L ha σ (by rw[h,hi1];rfl);have hgf:=qg (ts:=ts) (n:=pfl ts) (a:=a) (L:=L) ha (Sr _);unfold kD at hG;rw[if_pos hlt,show ts.length-j=(ts.length-(j+1))+1 by omega]at hG;simp only at hG;cases hx:ip ts (pfl ts) a L with
  | out=>exact absurd hx hgf.ne
  | bad l' e=>
   rw[hx]at hp hG;refine(show xr _ _ _ _ _ _ _ from su (ρ0:=_) (σ0:=_) (T:=29) (k:=21) (rows:=l.map dpr) (r:=dpr zPr) (v:=vpr zPr) (P:=[]) (i:=i) (o:=o) false (fun u P'=>u=gL l' e/\∃b L2,P'=pq ts b L2) rfl rfl hne ho1 (fun σ h=>(hp σ h).mono fun out σ' hq=>?_) (yz zPr) (vU _) (by rw[RW];omega) (fun h=>by cases h) ?_)
   .rw[if_neg (by simp)];obtain⟨rfl,b,L2,rfl⟩:=hq;exact⟨_,_,rfl,rfl,rfl,b,L2,rfl⟩
   .rintro-u P' ρ' X ⟨rfl,b,L2,rfl⟩ hX;have hXu:∀n,V.unders n X=true:=fun n=>by rcases hX with rfl|rfl<;>rfl
    have hset:(σ1.set i (pq ts b L2)).set o X=(τ.set i (pq ts b L2)).set o X:=by
     rw[hσ,Sb _ _ (Sw hne),Sd,Sd]
    have hbb2:aj τ.length ((τ.set i (pq ts b L2)).set o X)=true:=by
     have:=bv (bv hb (cs:=pq ts b L2) (i:=i) rfl) (cs:=X) (i:=o) (hXu _);simpa using this
    rw[hG,hset];refine⟨τ.length,Sr _,?_,rfl,rfl,b,L2,X,?_,hXu⟩
    .rw[RX (by simp)];exact hbb2
    .rw[RX (by simp)]
  | ok p a2 L2=>
   rw[hx]at hp hG;have hga:=hgf.ok _ _ _ hx;refine(show xr _ _ _ _ _ _ _ from su (ρ0:=_) (σ0:=_) (T:=29) (k:=21) (rows:=l.map dpr) (r:=dpr p) (v:=vpr p) (P:=pq ts a2 L2) (i:=i) (o:=o) true (fun _ _=>True) rfl rfl hne ho1 (fun σ h=>(hp σ h).mono fun out σ' hq=>?_) (yz p) (vU _) (by rw[RW];omega) (fun _=>?_) (fun h=>by cases h))
   .rw[if_pos rfl];exact hq
   .have hset:(σ1.set i (pq ts a2 L2)).set o [.own 29 21 (l.map dpr++[dpr p])]=(τ.set i (pq ts a2 L2)).set o (vE (l++[p])):=by
     rw[hσ,Sb _ _ (Sw hne),Sd,Sd];simp[vE]
    rw[hset]
    have hbb2:aj τ.length ((τ.set i (pq ts a2 L2)).set o (vE (l++[p])))=true:=by
     have:=bv (bv hb (cs:=pq ts a2 L2) (i:=i) rfl) (cs:=vE (l++[p])) (i:=o) rfl;simpa using this
    refine(show j<ts.length/\Nxt _ _ _ _ .mk from⟨by omega,Nxt.same (by simp) (by simpa using hbb2) ?_ ⟨a2,L2,l++[p],rfl,rfl,by omega,hga.2,by simp[hlj],hG⟩⟩);simp[am,aV,cO,put,V.under,hil,hol]
 .have hlt':¬((a:Nat):Int)<((ts.length:Nat):Int):=by omega
  simp -dsimp only[aw,jV,jW,jX,jY,jZ,jA,reduceIte,reduceCtorEq,jB,jC,jD,jE,jF,jG,hi1,RW,decide_eq_false hlt'];unfold kD at hG;rw[if_neg hlt]at hG;rw[hG];exact nc (τ:=σ1) (by rw[<-hl1];exact hbb) rfl rfl (by rw[<-hl1,Sk]) ⟨rfl,hσ⟩
theorem uI(p:Pr):dpr p=[ae p.name,.lit (.bool p.plain),.lit (.bool p.over),ab p.cond.op,ab p.cond.lo,ab p.cond.hi,ab p.cond.ex.op,ab p.cond.ex.num,ae p.cond.ex.name,.sl (p.cond.ex.args.map dex),ae p.cond.name,.sl (p.cond.args.map dts),ab p.then_.op,ab p.then_.lo,ab p.then_.hi,ab p.then_.ex.op,ab p.then_.ex.num,ae p.then_.ex.name,.sl (p.then_.ex.args.map dex),ae p.then_.name,.sl (p.then_.args.map dts)]:=by
 unfold dpr;rw[bw,bw];rfl
def kvK(known:List ByteArray):List (Key×V):=known.reverse.map fun n=>(.s n,an true)
theorem wS(n:ByteArray):∀l:List ByteArray,rU false (.d (.lit (.bool false))) (m6 (.s n) (l.map fun n=>(Key.s n,an true)))=an (inB n l)
 | []=>rfl
 | a::l=>by
  have ih:=wS n l;simp only[RZ,m6,Key.s.injEq];by_cases h:a=n
  .rw[if_pos h,gn.2 (by rw[h];exact List.mem_cons_self ..)];rfl
  .rw[if_neg h,ih];congr 1;rw[RU,gn,gn,Sn];exact⟨.inr,fun h2=>h2.resolve_left fun e=>h e.symm⟩
theorem yp(n:ByteArray)(x:V):∀l:List ByteArray,n∉l->kW (.s n) x (l.map fun n=>(Key.s n,an true))=(l.map fun n=>(Key.s n,an true))++[(.s n,x)]
 | [],_=>rfl
 | a::l,h=>by
  simp only[Sn,not_or]at h;simp only[RZ,kW,Key.s.injEq,yp n x l h.2];rw[if_neg (Sw h.1)];rfl
theorem IF(n:ByteArray)(known:List ByteArray):rU false (.d (.lit (.bool false))) (m6 (.s n) (kvK known))=an (inB n known):=by
 unfold kvK;rw[wS];congr 1;rw[RU,gn,gn,List.mem_reverse]
theorem En(k:Nat)(known:List ByteArray):V.underkv k (kvK known)=true:=by
 unfold kvK;generalize known.reverse=l
 induction l with
 | nil=>rfl
 | cons a l ih=>simp only[RZ,V.underkv,V.underp,V.under,ih,Bool.and_self]
theorem Kc(n:ByteArray)(known:List ByteArray)(h:inB n known=false):kW (.s n) (an true) (kvK known)=kvK (n::known):=by
 unfold kvK;rw[yp n _ _ (fun hh=>by rw[gn.2 (List.mem_reverse.1 hh)]at h;cases h)];simp
theorem yy(l:List Pr)(hl:l.length≤1000000)(hB:∀p,p∈l->bd p.cond≤1000000/\bd p.then_≤1000000)(σ:LLV):Fun G 42 [.d (.sl (l.map dpr))] σ (az (.d (ab (iv [] l))) σ):=by
 refine ai Tryz.func42 k42 rfl fun hb hw=>?_;generalize hc0:iv [] l=c0;unfold c42;simp -dsimp only[aw,jV,jW,jX,jY,jZ,jA,reduceIte,reduceCtorEq,jB,jC,jD,jE,jF,jG,RW];refine aY [3,8,9,10] (R:=fun(j:Nat) ρ σ'=>∃known,ρ=[(3,.mp σ.length),(8,.d (.sl (l.map dpr))),(9,aI .i64 l.length),(10,aI .i64 j)]/\σ'=σ++[[.mapc true (kvK known)]]/\c0=iv known (l.drop j)) l.length ⟨[],rfl,rfl,hc0.symm⟩ ?_ _;rintro j ρ1 σ1 hj ⟨known,rfl,rfl,hc⟩;by_cases hlt:j<l.length
 .have hlt':((j:Nat):Int)<((l.length:Nat):Int):=by omega
  have hget:l[j]? = some l[j]:=RY hlt;have hp:=hB l[j] (Se hlt);rw[Sf hlt]at hc;generalize l[j]=p at hget hc hp;have hV:=fun σ=>jJ p hp.1 hp.2 σ;simp only[bW]at hV;have hd:=uI p;have hk:=IF p.name known;rw[iv]at hc;cases hin:inB p.name known with
  | true=>
   rw[if_pos hin]at hc;rw[hin]at hk;simp -dsimp only[aw,jV,jW,jX,jY,jZ,jA,reduceIte,reduceCtorEq,jB,jC,jD,jE,jF,jG,decide_eq_true hlt',aP,hget,Sx,hd,lH,hk];rw[hc];first|exact aA hb rfl rfl|exact aB hb rfl rfl
  | false=>
   rw[if_neg (by rw[hin];decide)]at hc;rw[hin]at hk;have hput:=Kc p.name known hin;by_cases hv:cm p=0
   .rw[if_pos hv]at hc;simp -dsimp only[aw,jV,jW,jX,jY,jZ,jA,reduceIte,reduceCtorEq,jB,jC,jD,jE,jF,jG,decide_eq_true hlt',aP,hget,Sx,hd,lH,hk,hput];refine ac (hV _) ?_;simp -dsimp only[aw,jV,jW,jX,jY,jZ,jA,reduceIte,reduceCtorEq,jB,jC,jD,jE,jF,jG,decide_eq_true hv];rw[aX (by omega) (by omega)];refine⟨hlt,σ.length+1,by omega,?_,by simp[am,V.under],p.name::known,rfl,?_,hc⟩
    .rw[Sl,RX (by omega),Ss];have:=av (l:=[[V.mapc true (kvK (p.name::known))]]) hb (by simp[V.unders,V.under,En]);simpa using this
    .rw[Sl,RX (by omega),Ss];rfl
   .rw[if_neg hv]at hc;simp -dsimp only[aw,jV,jW,jX,jY,jZ,jA,reduceIte,reduceCtorEq,jB,jC,jD,jE,jF,jG,decide_eq_true hlt',aP,hget,Sx,hd,lH,hk,hput];refine ac (hV _) ?_;simp -dsimp only[aw,jV,jW,jX,jY,jZ,jA,reduceIte,reduceCtorEq,jB,jC,jD,jE,jF,jG,decide_eq_false hv];rw[hc];first|exact aA hb rfl rfl|exact aB hb rfl rfl
 .have hlt':¬((j:Nat):Int)<((l.length:Nat):Int):=by omega
  rw[R7 (by omega)]at hc;simp -dsimp only[aw,jV,jW,jX,jY,jZ,jA,reduceIte,reduceCtorEq,jB,jC,jD,jE,jF,jG,decide_eq_false hlt'];rw[hc];first|exact aA hb rfl rfl|exact aB hb rfl rfl
theorem GP{N:Int}{r r1:List Tok}{p:Pr}(h:i6 N r=.ok p r1):r1.length≤r.length:=by
 unfold i6 at h
 have jK:∀{m:ByteArray} {q:List Tok} {f:List Tok->QR Pr},cz N m q f=.ok p r1->∃q1,q1.length<q.length/\f q1=.ok p r1:=fun{m q f} h=>by
  unfold cz at h;cases ha:acc m q with
  | none=>rw[ha]at h;cases q<;>cases h
  | some q1=>rw[ha]at h;exact⟨q1,(ay ha).2,h⟩
 have bind:∀{x:QR Ts} {f:Ts->List Tok->QR Pr},x.bind f=.ok p r1->∃s q,x=.ok s q/\f s q=.ok p r1:=fun{x f} h=>by
  cases x with
  | ok s q=>exact⟨s,q,rfl,h⟩
  | _=>cases h
 obtain⟨q1,l1,h⟩:=jK h;unfold iy at h;cases hn:bA q1 with
 | none=>rw[hn]at h;cases q1<;>cases h
 | some pn=>
  obtain⟨nm,q2⟩:=pn;rw[hn]at h;have l2:=(fq hn).2;obtain⟨q3,l3,h⟩:=jK h;cases hp:acc jh q3 with
  | some q4=>
   rw[hp]at h;have l4:=(ay hp).2;obtain⟨s,q5,h5,h⟩:=bind h;obtain⟨q6,l6,h⟩:=jK h;have:=oW h5;simp only[QK.eats]at this;cases h;omega
  | none=>
   rw[hp]at h;obtain⟨c,q5,h5,h⟩:=bind h;obtain⟨q6,l6,h⟩:=jK h;have e5:=oW h5;simp only[QK.eats]at e5;cases ho:acc (aE 45 62) q6 with
   | some q7=>
    rw[ho]at h;have l7:=(ay ho).2;obtain⟨s,q8,h8,h⟩:=bind h;obtain⟨q9,l9,h⟩:=jK h;have:=oW h8;simp only[QK.eats]at this;cases h;omega
   | none=>
    rw[ho]at h;obtain⟨q7,l7,h⟩:=jK h;obtain⟨s,q8,h8,h⟩:=bind h;obtain⟨q9,l9,h⟩:=jK h;have:=oW h8;simp only[QK.eats]at this;cases h;omega
theorem rh{N:Int}{B:Nat}:∀(n:Nat) (l:List Pr) (r r1:List Tok) (v:List Pr),ir N n l r=.ok v r1->2*r.length+2≤B->(∀p,p∈l->bd p.cond≤B/\bd p.then_≤B)->v.length≤l.length+n/\∀p,p∈v->bd p.cond≤B/\bd p.then_≤B
 | 0,l,[],r1,v,h,hr,hl=>by cases h;exact⟨by omega,hl⟩
 | n+1,l,[],r1,v,h,hr,hl=>by cases h;exact⟨by omega,hl⟩
 | 0,l,t::r,r1,v,h,hr,hl=>by cases h
 | n+1,l,t::r,r1,v,h,hr,hl=>by
  unfold ir at h;cases hp:i6 N (t::r)with
  | out=>rw[hp]at h;cases h
  | late=>rw[hp]at h;cases h
  | bad a b=>rw[hp]at h;cases h
  | ok p r2=>
   rw[hp]at h;have hb:=yd hp;have hle:=GP hp
   obtain⟨g1,g2⟩:=rh (B:=B) n (l++[p]) r2 r1 v h (by omega) (fun q hq=>by
    rcases List.mem_append.1 hq with hq|hq
    .exact hl q hq
    .rw[Sc]at hq;subst hq;omega)
   exact⟨by rw[R0,List.length_singleton]at g1;omega,g2⟩
theorem B6{ts:List Tok}{v:List Pr}(h:se ts=.ok v []):v.length≤ts.length/\∀p,p∈v->bd p.cond≤2*ts.length+2/\bd p.then_≤2*ts.length+2:=by
 have:=rh (B:=2*ts.length+2) _ _ _ _ _ h (Sr _) (fun p hp=>by cases hp);exact⟨by simpa using this.1,this.2⟩
theorem zf(l:List Pr)(hl:l.length≤1000000)(hB:∀p,p∈l->bd p.cond≤1000000/\bd p.then_≤1000000)(σ:LLV):Fun G 21 [.d (.sl (l.map dpr)),.d (.sl (l.map dpr))] σ (az (an true) σ):=by
 refine ai Tryz.func21 k21 rfl fun hb hw=>?_;unfold c21;simp -dsimp only[aw,jV,jW,jX,jY,jZ,jA,reduceIte,reduceCtorEq,jB,jC,jD,jE,jF,jG,RW,decide_false,decide_true];refine aY [0,1,5] (R:=fun(j:Nat) ρ σ'=>ρ=[(0,.d (.sl (l.map dpr))),(1,.d (.sl (l.map dpr))),(5,aI .i64 j)]/\σ'=σ) l.length ⟨rfl,rfl⟩ ?_ _;rintro j ρ1 σ1 hj ⟨rfl,rfl⟩;by_cases hlt:j<l.length
 .have hlt':((j:Nat):Int)<((l.length:Nat):Int):=by omega
  have hget:l[j]? = some l[j]:=RY hlt;have hp:=hB l[j] (Se hlt);generalize l[j]=p at hget hp;have hS:=fun σ=>mC p p hp.1 hp.2 σ;rw[(qP p p).2 rfl]at hS;simp only[bW]at hS;have hd:=uI p;simp -dsimp only[aw,jV,jW,jX,jY,jZ,jA,reduceIte,reduceCtorEq,jB,jC,jD,jE,jF,jG,RW,decide_eq_true hlt',aP,hget,Sx,hd];refine aN (hS _) ?_;simp -dsimp only[aw,jV,jW,jX,jY,jZ,jA,reduceIte,reduceCtorEq,jB,jC,jD,jE,jF,jG];rw[aX (by omega) (by omega)];exact⟨hlt,Nxt.same (by simp) hb (by simp[am,V.under]) ⟨rfl,rfl⟩⟩
 .have hlt':¬((j:Nat):Int)<((l.length:Nat):Int):=by omega
  simp -dsimp only[aw,jV,jW,jX,jY,jZ,jA,reduceIte,reduceCtorEq,jB,jC,jD,jE,jF,jG,RW,decide_eq_false hlt'];first|exact aA hb rfl rfl|exact aB hb rfl rfl
abbrev kR(l:List Pr):V:=.d (.sl (l.map dpr))
theorem xJ(l:Bs)(σ:LLV):Fun G 20 [.d (ae (bs l))] σ (Lw kR [] (xW l) σ):=by
 refine ai Tryz.func20 k20 rfl fun hb hw=>?_;have hP:=mT vE lX 41 l σ.length [.nil] (σ++[[.nil]]) (by simp) (fun n=>rfl) (fun v n=>rfl) qF (fun ts H hl i τ hoi hi ho=>zo ts H hl i _ τ hoi hi ho);obtain⟨f1,f2⟩:=pj [] (iv []) l wR qF;generalize hr:kG lX l=r at *;obtain⟨n,e,w⟩:=r;simp only at f1 f2;unfold c20;simp -dsimp only[aw,jV,jW,jX,jY,jZ,jA,reduceIte,reduceCtorEq,jB,jC,jD,jE,jF,jG];refine aW hP fun out σ' ⟨e1,X,e2,hX,hXu⟩=>?_;subst e1;subst e2;rw[show(σ++[[V.nil]]).set σ.length X=σ++[X]by simp];by_cases h0:e=0
 .obtain⟨v,ts,e3,e4,hl16,ht,hf,hsrc⟩:=f2 h0;have hXv:=hX v e3;subst hXv;have hts:=(gE ht).2;have hbig:=B6 hf;have hC:=fun σ=>yy v (by have:=hbig.1;omega) (fun p hp=>by have:=hbig.2 p hp;omega) σ;by_cases hv:iv [] v=0
  .rw[if_pos hv]at hsrc;simp -dsimp only[aw,jV,jW,jX,jY,jZ,jA,reduceIte,reduceCtorEq,jB,jC,jD,jE,jF,jG,bg,decide_eq_true h0];refine ac (hC _) ?_;simp -dsimp only[aw,jV,jW,jX,jY,jZ,jA,reduceIte,reduceCtorEq,jB,jC,jD,jE,jF,jG,decide_eq_true hv];refine ao hb (v:=.tup [kR v,.d (ab 0),.d (ab 0)]) ?_ rfl R9 ⟨rfl,v,0,0,rfl,by unfold xW;rw[hsrc];rfl⟩;simp[Ji,aU,di,bu,aw,jV,jW,jX,jY,jZ,jA,reduceIte,reduceCtorEq,jB,jC,jD,jE,jF,jG]
  .rw[if_neg hv]at hsrc;simp -dsimp only[aw,jV,jW,jX,jY,jZ,jA,reduceIte,reduceCtorEq,jB,jC,jD,jE,jF,jG,bg,decide_eq_true h0];refine ac (hC _) ?_;simp -dsimp only[aw,jV,jW,jX,jY,jZ,jA,reduceIte,reduceCtorEq,jB,jC,jD,jE,jF,jG,decide_eq_false hv];refine ao hb (v:=.tup [kR [],.d (ab n),.d (ab (iv [] v))]) ?_ rfl R9 ⟨rfl,[],n,iv [] v,rfl,by unfold xW;rw[hsrc,e4];rfl⟩;simp[Ji,aU,di,bu,aw,jV,jW,jX,jY,jZ,jA,reduceIte,reduceCtorEq,jB,jC,jD,jE,jF,jG]
 .have hfit:=f1 h0;simp -dsimp only[aw,jV,jW,jX,jY,jZ,jA,reduceIte,reduceCtorEq,jB,jC,jD,jE,jF,jG,bg,decide_eq_false h0];refine ao hb (v:=.tup [kR [],.d (ab n),.d (ab e)]) ?_ rfl R9 ⟨rfl,[],n,e,rfl,hfit⟩;simp[Ji,aU,di,bu,aw,jV,jW,jX,jY,jZ,jA,reduceIte,reduceCtorEq,jB,jC,jD,jE,jF,jG]
abbrev bxQ(s:Ts):List V:=[.d (ab s.op),.d (ab s.lo),.d (ab s.hi),.d (ab s.ex.op),.d (ab s.ex.num),.d (ae s.ex.name),.d (.sl (s.ex.args.map dex)),.d (ae s.name),.d (.sl (s.args.map dts))]
abbrev bxR(p:Pr):List V:=[.d (ae p.name),.d (.lit (.bool p.plain)),.d (.lit (.bool p.over)),
 .d (ab p.cond.op),.d (ab p.cond.lo),.d (ab p.cond.hi),.d (ab p.cond.ex.op),.d (ab p.cond.ex.num),.d (ae p.cond.ex.name),.d (.sl (p.cond.ex.args.map dex)),.d (ae p.cond.name),.d (.sl (p.cond.args.map dts)),
 .d (ab p.then_.op),.d (ab p.then_.lo),.d (ab p.then_.hi),.d (ab p.then_.ex.op),.d (ab p.then_.ex.num),.d (ae p.then_.ex.name),.d (.sl (p.then_.ex.args.map dex)),.d (ae p.then_.name),.d (.sl (p.then_.args.map dts))]
def k9(K:List Pr)(n:ByteArray):Bool:=K.all fun o=>!decide (o.name=n)
theorem CX{p:Pr}(h1:bd p.cond≤1000000)(h2:bd p.then_≤1000000)(hv:cm p=0):(eQ p).length≤190000000:=by
 have hp:=oq hv;have hn:(rV p.name).length≤16:=gh hp.nm;have ht:=wo h2;unfold rv at ht;rw[if_pos hp.th]at ht;unfold eQ;cases hpl:p.plain with
 | true=>simp only[R0,R5,if_true,R8];omega
 | false=>
  have hc:=wo h1;unfold rv at hc;rw[if_pos (hp.co hpl)]at hc;cases p.over<;>(simp only[R0,R5,if_true,R8,RS,if_false];omega)
structure KOK(l K:List Pr)(j:Nat):Prop where
 mem:∀p,p∈K->p∈l/\cm p=0
 nodup:(K.map (·.name)).Nodup
 len:K.length≤j
 src:(fP K).length≤j*200000000
theorem KOK.add{l K:List Pr}{j:Nat}(h:KOK l K j){p:Pr}(hp:p∈l)(hv:cm p=0)(hf:k9 K p.name=true)(hs:(eQ p).length≤190000000):KOK l (K++[p]) (j+1):=by
 refine⟨fun q hq=>?_,?_,by simp;exact h.len,by rw[oF];simp only[R0,R5,R8];have:=h.src;omega⟩
 .rcases List.mem_append.1 hq with hq|hq
  .exact h.mem q hq
  .rw[Sc]at hq;subst hq;exact⟨hp,hv⟩
 .rw[Sm,List.nodup_append];refine⟨h.nodup,by simp,fun a ha b hb e=>?_⟩;simp only[RZ,Si,Sc]at hb;obtain⟨q,hq,rfl⟩:=List.mem_map.1 ha;have:=List.all_eq_true.1 hf q hq;simp only[Bool.not_eq_true',decide_eq_false_iff_not]at this;exact this (by rw[e,hb])
theorem KOK.more{l K:List Pr}{j:Nat}(h:KOK l K j):KOK l K (j+1):=⟨h.mem,h.nodup,Nat.le_succ_of_le h.len,Su h.src (Sv _ (Nat.le_succ _))⟩
theorem KOK.le{l K:List Pr}{j i:Nat}(h:KOK l K j)(hi:j≤i):KOK l K i:=⟨h.mem,h.nodup,Su h.len hi,Su h.src (Sv _ hi)⟩
theorem zH{K:List Pr}{n:ByteArray}{j:Nat}(h:j<K.length):k9 (K.take (j+1)) n=(k9 (K.take j) n && !decide (K[j].name=n)):=by
 unfold k9;rw[List.take_succ_eq_append_getElem h,List.all_append];simp
theorem EE(l:List Pr):p9 false 21 (kR l) none (some (aI .i64 (min ((l.length:Nat):Int) 6)))=some (kR (l.take 6)):=by
 have e:min ((l.length:Nat):Int) 6=((min l.length 6:Nat):Int):=by omega
 have e2:(l.map dpr).take (min l.length 6)=(l.take 6).map dpr:=by
  rw[List.map_take];by_cases h:l.length≤6
  .rw[Nat.min_eq_left h,RX (by simp),RX (by simpa using h)]
  .rw[Nat.min_eq_right (by omega)]
 rw[e];have hk:(l.map dpr).all (fun r=>r.length==21)=true:=by rw[List.all_eq_true];intro r hr;obtain⟨p,-,rfl⟩:=List.mem_map.1 hr;rw[vU];rfl
 have hm:min l.length 6≤(l.map dpr).length:=by rw[RW];omega
 simp[p9,fC,fN,aI,hk,e2];omega
theorem I5(s:Ts)(l:List Pr)(hs:bd s≤1000000)(hB:∀p,p∈l->bd p.cond≤1000000/\bd p.then_≤1000000)(hl:l.length≤1000000):Fun G 6 [vts s,kR l] [] (az (an true) []):=by
 refine ai Tryz.func6 k6 (by simp only[ak];rfl) fun hb hw=>?_;unfold c6;refine ep [(1,kR l),(2,.ptr 0 0)] [bxQ s] ?_ ?_
 .simp -dsimp only[aw,jV,jW,jX,jY,jZ,jA,reduceIte,reduceCtorEq,jB,jC,jD,jE,jF,jG,ak]
 refine ep [(1,kR l),(2,.ptr 0 0),(5,.d (ae (bs (rv s))))] [bxQ s] ?_ ?_
 .have h1:=fun σ=>Ec s hs σ;simp only[ak]at h1;simp -dsimp only[aw,jV,jW,jX,jY,jZ,jA,reduceIte,reduceCtorEq,jB,jC,jD,jE,jF,jG];refine ac (h1 _) ?_;simp -dsimp only[aw,jV,jW,jX,jY,jZ,jA,reduceIte,reduceCtorEq,jB,jC,jD,jE,jF,jG]
 refine hZ (fun ρ σ'=>∃v n e,ρ=[(1,kR l),(2,.ptr 0 0),(5,.d (ae (bs (rv s)))),(6,.ptr 1 0),(7,.d (ab n)),(8,.d (ab e))]/\σ'=[bxQ s,bxQ v]/\Gx zT (nU (rv s)) v n e) ?_ ?_
 .simp -dsimp only[aw,jV,jW,jX,jY,jZ,jA,reduceIte,reduceCtorEq,jB,jC,jD,jE,jF,jG];refine aW (og _ _) fun out σ' ⟨e1,v,n,e,e2,hf⟩=>?_;subst e1;subst e2;simp -dsimp only[aw,jV,jW,jX,jY,jZ,jA,reduceIte,reduceCtorEq,jB,jC,jD,jE,jF,jG,bg,ak];exact Mid.mk ⟨v,n,e,rfl,rfl,hf⟩
 rintro ρ1 σ1 ⟨v,n,e,rfl,rfl,hf⟩;refine hZ (fun ρ σ'=>ρ=[(1,kR l),(52,an false)]/\σ'=[bxQ s,bxQ v]) ?_ ?_
 .have h1:=fun σ=>iI s hs σ;simp only[ak]at h1;by_cases hv:cy s=0
  .have hR:rv s=d6 s:=by unfold rv;rw[if_pos hv]
   rw[hR]at hf ⊢;by_cases hT:16384<(d6 s).length
   .have hT':¬(((d6 s).length:Nat):Int)≤16384:=by omega
    simp -dsimp only[aw,jV,jW,jX,jY,jZ,jA,reduceIte,reduceCtorEq,jB,jC,jD,jE,jF,jG];refine ac (h1 _) ?_;simp -dsimp only[aw,jV,jW,jX,jY,jZ,jA,reduceIte,reduceCtorEq,jB,jC,jD,jE,jF,jG,decide_eq_true hv,bO,decide_eq_false hT'];exact Mid.mk ⟨rfl,rfl⟩
   .have hT':(((d6 s).length:Nat):Int)≤16384:=by omega
    rw[CV hv,if_neg hT]at hf;cases (show(s,(0:Int),(0:Int))=(v,n,e)from hf);have h2:=fun σ=>kK s s hs σ;rw[(j0 s s).2 rfl]at h2;simp only[ak]at h2;simp -dsimp only[aw,jV,jW,jX,jY,jZ,jA,reduceIte,reduceCtorEq,jB,jC,jD,jE,jF,jG];refine ac (h1 _) ?_;simp -dsimp only[aw,jV,jW,jX,jY,jZ,jA,reduceIte,reduceCtorEq,jB,jC,jD,jE,jF,jG,decide_eq_true hv,bO,decide_eq_true hT'];refine ac (h2 _) ?_;simp -dsimp only[aw,jV,jW,jX,jY,jZ,jA,reduceIte,reduceCtorEq,jB,jC,jD,jE,jF,jG,decide_true];exact Mid.mk ⟨rfl,rfl⟩
  .simp -dsimp only[aw,jV,jW,jX,jY,jZ,jA,reduceIte,reduceCtorEq,jB,jC,jD,jE,jF,jG];refine ac (h1 _) ?_;simp -dsimp only[aw,jV,jW,jX,jY,jZ,jA,reduceIte,reduceCtorEq,jB,jC,jD,jE,jF,jG,decide_eq_false hv];exact Mid.mk ⟨rfl,rfl⟩
 rintro ρ1 σ1 ⟨rfl,hσ1⟩;have hbb:aj σ1.length σ1=true:=by rw[hσ1];rfl
 clear hf hσ1;refine ep [(1,kR l),(9,.d (ae (bs [])))] σ1 ?_ ?_
 .simp -dsimp only[aw,jV,jW,jX,jY,jZ,jA,reduceIte,reduceCtorEq,jB,jC,jD,jE,jF,jG];exact rfl
 refine ep [(1,kR l),(9,.d (ae (bs []))),(10,.own 29 21 [])] σ1 ?_ ?_
 .simp -dsimp only[aw,jV,jW,jX,jY,jZ,jA,reduceIte,reduceCtorEq,jB,jC,jD,jE,jF,jG]
 refine hZ (fun ρ σ'=>∃K,ρ=[(9,.d (ae (bs (fP K)))),(10,.own 29 21 (K.map dpr)),(57,kR (l.take 6)),(58,aI .i64 (l.take 6).length),(59,aI .i64 (l.take 6).length),(60,an false)]/\σ'=σ1/\KOK l K 6) ?_ ?_
 .have hsub:=EE l;simp -dsimp only[aw,jV,jW,jX,jY,jZ,jA,reduceIte,reduceCtorEq,jB,jC,jD,jE,jF,jG,RW,hsub];have hLl:∀p,p∈l.take 6->p∈l:=fun p hp=>List.mem_of_mem_take hp;have hL6:(l.take 6).length≤6:=by rw[List.length_take];omega
  generalize l.take 6=L at *;clear hsub;refine aY [9,10,57,58,59] (R:=fun(j:Nat) ρ σ'=>∃K,ρ=[(9,.d (ae (bs (fP K)))),(10,.own 29 21 (K.map dpr)),(57,kR L),(58,aI .i64 L.length),(59,aI .i64 j)]/\σ'=σ1/\KOK l K j) L.length ⟨[],rfl,rfl,⟨fun p hp=>(by cases hp),List.nodup_nil,Sr _,So _⟩⟩ ?_ _;rintro j ρ2 σ2 hj ⟨K,rfl,rfl,hK⟩;by_cases hlt:j<L.length
  .have hlt':((j:Nat):Int)<((L.length:Nat):Int):=by omega
   have hget:L[j]? = some L[j]:=RY hlt;have hpl:=hLl L[j] (Se hlt);have hp:=hB L[j] hpl;generalize L[j]=p at hget hp hpl;have h1:=fun σ=>qO p hp.1 hp.2 σ;simp only[bW]at h1;have hd:=uI p;by_cases hv:cm p=0
   .have h2:=fun σ=>px p hp.1 hp.2 σ;have hpr:xd p=eQ p:=by unfold xd;rw[if_pos hv]
    rw[hpr]at h2;simp only[bW]at h2;have hbk:=zd hv;have hlen:=CX hp.1 hp.2 hv;have hks:=hK.src;have hkl:=hK.len;have a1:aO .add (V.d (ae (bs (fP K)))) (V.d (ae (bs (eQ p))))=some (V.d (ae (bs (fP K++eQ p)))):=bR _ _ (by omega)
    have a2:aO .add (V.d (ae (bs (fP K++eQ p)))) (V.d (ae ⟨#[10]⟩))=some (V.d (ae (bs (fP (K++[p]))))):=by
     rw[oF,<-Sj];exact bR (fP K++eQ p) [10] (by simp only[R0,R5,R8];omega)
    have hx:∃q n e,(m8 (eQ p)=some (q,n,e))/\(((eQ p).length:Int)≤16384->q=p/\e=0):=by
     rw[hbk];by_cases h:16384<(eQ p).length
     .rw[if_pos h];exact⟨_,_,_,rfl,fun h'=>by omega⟩
     .rw[if_neg h];exact⟨_,_,_,rfl,fun _=>⟨rfl,rfl⟩⟩
    obtain⟨q,n,e,hpq,hqe⟩:=hx;have h3:=fun σ=>pG hpq σ;simp only[bW]at h3;simp -dsimp only[aw,jV,jW,jX,jY,jZ,jA,reduceIte,reduceCtorEq,jB,jC,jD,jE,jF,jG,RW,decide_eq_true hlt',aP,hget,Sx,hd];refine ac (h1 _) ?_;simp -dsimp only[aw,jV,jW,jX,jY,jZ,jA,reduceIte,reduceCtorEq,jB,jC,jD,jE,jF,jG,decide_eq_true hv];refine ac (h2 _) ?_;simp -dsimp only[aw,jV,jW,jX,jY,jZ,jA,reduceIte,reduceCtorEq,jB,jC,jD,jE,jF,jG];refine ac (h3 _) ?_;have h5:=fun σ=>mC p q hp.1 hp.2 σ;simp only[bW]at h5;have hadd:=fun(hf:k9 K p.name=true)=>hK.add hpl hv hf hlen;have hmore:=hK.more;have hwj:IntKind.i64.wrap ((j:Int)+1)=((j+1:Nat):Int):=aX (by omega) (by omega);obtain⟨S2,hS2⟩:∃S2,S2=fP (K++[p]):=⟨_,rfl⟩
    rw[<-hS2]at a2;generalize hT:eQ p=T at *;by_cases hTl:(T.length:Int)≤16384
    case' pos=>
     have he:=(hqe hTl).2;rw[(qP p q).2 (hqe hTl).1.symm]at h5;simp -dsimp only[aw,jV,jW,jX,jY,jZ,jA,reduceIte,reduceCtorEq,jB,jC,jD,jE,jF,jG,bO,decide_eq_true hTl,he,decide_true];refine ac (h5 _) ?_;simp -dsimp only[aw,jV,jW,jX,jY,jZ,jA,reduceIte,reduceCtorEq,jB,jC,jD,jE,jF,jG]
    case' neg=>
     simp -dsimp only[aw,jV,jW,jX,jY,jZ,jA,reduceIte,reduceCtorEq,jB,jC,jD,jE,jF,jG,bO,decide_eq_false hTl]
    all_goals
     refine aY [9,10,12,13,17,57,58,59,87,88,89] (R:=fun(i:Nat) ρ σ'=>ρ=[(9,.d (ae (bs (fP K)))),(10,.own 29 21 (K.map dpr)),(12,.ptr σ2.length 0),(13,.d (ae (bs T))),(17,an (k9 (K.take i) p.name)),(57,kR L),(58,aI .i64 L.length),(59,aI .i64 j),(87,kR K),(88,aI .i64 K.length),(89,aI .i64 i)]/\σ'=σ2++[bxR p,bxR q]) K.length ⟨rfl,rfl⟩ ?_ _;rintro i ρ3 σ3 hi ⟨rfl,rfl⟩;by_cases hit:i<K.length
     .have hit':((i:Nat):Int)<((K.length:Nat):Int):=by omega
      have hget2:K[i]? = some K[i]:=RY hit;have hft:=zH (n:=p.name) hit;have hwi:IntKind.i64.wrap ((i:Int)+1)=((i+1:Nat):Int):=aX (by omega) (by omega);generalize K[i]=o at hget2 hft;have hd2:=uI o;have hbx:=av (l:=[bxR p,bxR q]) hbb rfl
      have htk:∀X,(σ2++[bxR p,bxR q,X]).take (σ2++[bxR p,bxR q]).length=σ2++[bxR p,bxR q]:=fun X=>by
       have:=R9 (l₁:=σ2++[bxR p,bxR q]) (l₂:=[X]);rwa[Sj]at this
      cases hfb:k9 (K.take i) p.name with
      | true=>
       rw[hfb,Bool.true_and]at hft;simp -dsimp only[aw,jV,jW,jX,jY,jZ,jA,reduceIte,reduceCtorEq,jB,jC,jD,jE,jF,jG,decide_eq_true hit',aP,hget2,Sx,hd2,hwi];rw[<-hft];exact⟨hit,_,So _,by rw[htk];exact hbx,by simp[am,V.under],rfl,htk _⟩
      | false=>
       rw[hfb,Bool.false_and]at hft;simp -dsimp only[aw,jV,jW,jX,jY,jZ,jA,reduceIte,reduceCtorEq,jB,jC,jD,jE,jF,jG,decide_eq_true hit',aP,hget2,Sx,hd2,hwi];rw[<-hft];exact⟨hit,_,So _,by rw[htk];exact hbx,by simp[am,V.under],rfl,htk _⟩
     .have hit':¬((i:Nat):Int)<((K.length:Nat):Int):=by omega
      have hiK:i=K.length:=by omega
      subst hiK;rw[Sk];cases hfb:k9 K p.name with
      | true=>
       simp -dsimp only[aw,jV,jW,jX,jY,jZ,jA,reduceIte,reduceCtorEq,jB,jC,jD,jE,jF,jG,decide_eq_false hit',hwj,a1,a2];refine bH (by omega) ?_;simp -dsimp only[aw,jV,jW,jX,jY,jZ,jA,reduceIte,reduceCtorEq,jB,jC,jD,jE,jF,jG,hwj,a1,a2];refine⟨hlt,Nxt.drop (So _) hbb (by simp[am,V.under]) ⟨K++[p],?_,rfl,hadd hfb⟩⟩;rw[<-hS2,Sm,RZ,hd];rfl
      | false=>
       simp -dsimp only[aw,jV,jW,jX,jY,jZ,jA,reduceIte,reduceCtorEq,jB,jC,jD,jE,jF,jG,decide_eq_false hit',hwj];exact⟨hlt,Nxt.drop (So _) hbb (by simp[am,V.under]) ⟨K,rfl,rfl,hmore⟩⟩
   .simp -dsimp only[aw,jV,jW,jX,jY,jZ,jA,reduceIte,reduceCtorEq,jB,jC,jD,jE,jF,jG,RW,decide_eq_true hlt',aP,hget,Sx,hd];refine ac (h1 _) ?_;simp -dsimp only[aw,jV,jW,jX,jY,jZ,jA,reduceIte,reduceCtorEq,jB,jC,jD,jE,jF,jG,decide_eq_false hv];rw[aX (by omega) (by omega)];exact⟨hlt,Nxt.drop (So _) hbb (by simp[am,V.under]) ⟨K,rfl,rfl,hK.more⟩⟩
  .have hlt':¬((j:Nat):Int)<((L.length:Nat):Int):=by omega
   simp -dsimp only[aw,jV,jW,jX,jY,jZ,jA,reduceIte,reduceCtorEq,jB,jC,jD,jE,jF,jG,decide_eq_false hlt'];have hjL:j=L.length:=by omega
   subst hjL;exact Mid.mk ⟨K,rfl,rfl,hK.le hL6⟩
 rintro ρ2 σ2 ⟨K,rfl,rfl,hK⟩;have hKv:∀p,p∈K->cm p=0:=fun p hp=>(hK.mem p hp).2;have hS:=EA hKv hK.nodup
 have hsrc:∃v n e,(xW (fP K)=some (v,n,e))/\(¬16384<(fP K).length->v=K/\e=0):=by
  rw[hS];by_cases h:16384<(fP K).length
  .rw[if_pos h];exact⟨_,_,_,rfl,fun h'=>absurd h h'⟩
  .rw[if_neg h];exact⟨_,_,_,rfl,fun _=>⟨rfl,rfl⟩⟩
 obtain⟨v2,n2,e2,hsr,hse⟩:=hsrc
 have h1:∀σ,Fun G 20 [.d (ae (bs (fP K)))] σ (az (.tup [kR v2,.d (ab n2),.d (ab e2)]) σ):=fun σ=>(xJ _ σ).mono fun o σ' hr=>by
  obtain⟨g1,v',n',e',g2,g3⟩:=hr;rw[hsr]at g3;cases (show(v2,n2,e2)=(v',n',e')from g3);exact⟨g2,g1⟩
 generalize fP K=T at *;by_cases hT:16384<T.length
 .have hT':(16384:Int)<((T.length:Nat):Int):=by omega
  simp -dsimp only[aw,jV,jW,jX,jY,jZ,jA,reduceIte,reduceCtorEq,jB,jC,jD,jE,jF,jG];refine ac (h1 _) ?_;simp -dsimp only[aw,jV,jW,jX,jY,jZ,jA,reduceIte,reduceCtorEq,jB,jC,jD,jE,jF,jG,bO,decide_eq_true hT'];refine ac (tv _) ?_;simp -dsimp only[aw,jV,jW,jX,jY,jZ,jA,reduceIte,reduceCtorEq,jB,jC,jD,jE,jF,jG];exact ao hb rfl rfl rfl ⟨rfl,rfl⟩
 .have hT':¬(16384:Int)<((T.length:Nat):Int):=by omega
  obtain⟨rfl,rfl⟩:=hse hT;have h2:=fun σ=>zf v2 (by have:=hK.len;omega) (fun p hp=>hB p (hK.mem p hp).1) σ;simp -dsimp only[aw,jV,jW,jX,jY,jZ,jA,reduceIte,reduceCtorEq,jB,jC,jD,jE,jF,jG];refine ac (h1 _) ?_;simp -dsimp only[aw,jV,jW,jX,jY,jZ,jA,reduceIte,reduceCtorEq,jB,jC,jD,jE,jF,jG,bO,decide_eq_false hT',decide_true];refine ac (h2 _) ?_;simp -dsimp only[aw,jV,jW,jX,jY,jZ,jA,reduceIte,reduceCtorEq,jB,jC,jD,jE,jF,jG];refine ac (tv _) ?_;simp -dsimp only[aw,jV,jW,jX,jY,jZ,jA,reduceIte,reduceCtorEq,jB,jC,jD,jE,jF,jG];exact ao hb rfl rfl rfl ⟨rfl,rfl⟩
end Go.Proofs.YthekkgfmagliiaaGreatDoor
namespace Go.Proofs.YthekkgfmagliiaaGreatDoor
open Go.ChangeShapes Go.WideShapes Go.ChangeAt Go.RowKit
theorem iE(H:Type)(enc:TypeId×Value->H)(W:World)(base:Nat)(args:Array Value)(ds gs:List (DataW H))(before:List MemPlace)
 (hval:∀(j:Nat) t v,Tryz.f6.params[j]? = some t->args[j]? = some v->Value.okWide Tryz.prog W .any base t v)
 (hW:DataW.Whole enc Tryz.prog Tryz.f6.params.toList Rows.proptextRoundTripsSpec.vars false W args.toList ds gs before)(hL:laidMetH Tryz.prog vw W)(hk:Rows.uptoSmall H (ds++gs)=true):
 Calls Tryz.prog 6 args W fun e W'=>∃v,e=.returned v/\Rows.proptextRoundTripsSpec.post enc Tryz.prog Tryz.f6 false true false false W args v W':=by
 have hW':=hW;obtain⟨p,q,hA0,hV0,rfl,hfz,hnd⟩:=hW;have hA:DataW.TrodAll enc Tryz.prog W 0 (fun _=>true) true Tryz.f6.params.toList args.toList ds p:=hA0;have hV:DataW.TrodVars enc Tryz.prog W (fun _=>true) [] gs q:=hV0;rw[Tryz.params6]at hA hval;obtain⟨v0,v1,d0,d1,p0,p1,rfl,rfl,rfl,h0,h1⟩:=trodAll_two hA;obtain⟨rfl,rfl⟩:=trodVars_none hV;have lt0:=sG h0;obtain⟨s0,hv0,hb0⟩:=Jx h0 (hval 0 27 v0 rfl rfl);have lt1:=sG h1;obtain⟨l1,hv1,hb1,hl1⟩:=F0 h1 (hval 1 48 v1 rfl rfl)
 have hbd:Rows.uptoBulk d0+(Rows.uptoBulk d1+0)≤1048576:=by
  have:=of_decide_eq_true hk;simpa only[List.cons_append,List.nil_append,Rows.uptoBulkAll]using this
 have e1:Rows.proptextRoundTripsSpec.fn H ([d0,d1]++[])={results:=[.lit (.bool true)],args:=[d0,d1]}:=by simp[Rows.proptextRoundTripsSpec]
 refine(sW (vs:=[v0,v1]) hL (I5 s0 l1 (by omega) (fun c hc=>by have:=hb1 c hc;exact⟨by omega,by omega⟩) (by omega)) rfl (fun i h h'=>?_)).mono fun en W' ⟨he,hx⟩=>?_
 .match i,h with
  | 0,_=>exact hv0
  | 1,_=>exact hv1
 subst he;have bel:=hx.below;refine⟨_,rfl,_,_,_,[],p0++p1,[],hW',?_,?_,?_,bel.frame _,fun h=>by cases h⟩
 .rw[e1];exact trodAll_mk1 (shut_bool Tryz.underlying4 true)
 .rw[e1];exact trodAll_mk2 (Below.trod Tryz.laidOut (by kernel_rfl) (of_decide_eq_true (by kernel_rfl)) h0 bel lt0) (Below.trod Tryz.laidOut (by kernel_rfl) (of_decide_eq_true (by kernel_rfl)) h1 bel lt1)
 .rw[e1];rfl
theorem jn(os:Os)(started:os.Started)(H:Type)(enc:TypeId×Value->H)(F:Stop.Interp):
 ReturnsInHanded {} Tryz.checked os 6 .any ((Rows.OpenSpec.upto Rows.proptextRoundTripsSpec).preRow enc Tryz.prog Tryz.f6 Rows.proptextRoundTripsUptoRow.domain false Rows.proptextRoundTripsUptoRow.laid) (((Rows.OpenSpec.upto Rows.proptextRoundTripsSpec).at F).post enc Tryz.prog Tryz.f6 false true false false):=by
 have hx:DataW.whole enc Tryz.prog ((o0 os).forCall (fun _ _=>0) ⟨#[],#[.agg yR,.slice none 0 0],[]⟩).memory Tryz.f6.params.toList Rows.proptextRoundTripsSpec.vars false #[Value.agg yR,Value.slice none 0 0].toList 8=some ([.agg [.lit (.int .i64 0),.lit (.int .i64 0),.lit (.int .i64 0),.agg [.lit (.int .i64 0),.lit (.int .i64 0),.lit (.string []),.nil],.lit (.string []),.nil],.nil],[],[]):=by kernel_rfl
 refine returnsInHanded_of_row (C:=Tryz.checked) (s:=Rows.OpenSpec.upto Rows.proptextRoundTripsSpec) Tryz.own started (by kernel_rfl) Tryz.func6
  (witness_row_atRef (enc:=enc) (C:=Tryz.checked) false (o0 os) #[.agg yR,.slice none 0 0] rfl (by kernel_rfl) (by kernel_rfl) (by kernel_rfl)
    (OpenSpec.preRow_of_cond 8 hx (by kernel_rfl) (fun k hk=>by cases hk;kernel_rfl) (by kernel_rfl) (s9 os _))) ?_
 intro W base args ds gs before hval hW _ hcond _ hL _ _;exact iE H enc W base args ds gs before hval hW hL (hcond _ rfl)
theorem fU:Rows.ProptextRoundTripsUptoSaid:=
 OpenClaim.holds_of_cond 6 Tryz.f6 rfl rfl rfl rfl rfl rfl rfl ⟨rfl,rfl,rfl,rfl,rfl⟩ rfl rfl rfl rfl rfl (by kernel_rfl) Tryz.func6 (by kernel_rfl)
  (of_decide_eq_true (by kernel_rfl)) (by unfold Func.isWrapper;first|(rw[if_pos (by decide +kernel)];kernel_rfl)|(rw[if_neg (by decide +kernel)];exact⟨rfl,rfl⟩))
  (fun os started H enc _ F=>by rw[OpenClaim.pre_eq_preRow];exact jn os started H enc F)
#print axioms fU
end Go.Proofs.YthekkgfmagliiaaGreatDoor
