import Derived.Test.YtnhphlmblenapaaGreatDoorDm3
set_option linter.unusedVariables false
set_option linter.unusedSimpArgs false
set_option linter.unusedSectionVars false
set_option maxHeartbeats 4000000
open List renaming getElem?_append_right->Pa,map_cons->Pb,set_append_right->Pd,getElem?_set_ne->Pe,length_drop->Pf,length_set->Pg,set_comm->Ph
open Nat renaming add_sub_cancel_left->Pi
namespace Go.Proofs.YtnhphlmblenapaaGreatDoor
open Go.RowKit
theorem el(ρ:ac)(d t:Nat)(v:V):get (put ρ d v) t=if d=t then v else get ρ t:=by
 rw[bg];by_cases e:d=t
 .subst e;simp
 .rw[if_neg e,if_neg];exact fun h=>e h.symm
theorem H6{C:Cx}{n0:Nat}{l:List O}{es:List (List Nat)}{ρ:ac}{σ σ':LLV}{Q:ce}(hu:Up σ σ')(h:jH C n0 l es ρ σ' Q):jH C n0 l es ρ σ Q:=
 fun pr M0 bm0 w0 id ops n M bm tk a w hG hbm hok hes hl hs=>h pr M0 bm0 w0 id ops n M bm tk a w hG hbm hok hes hl (hs.up hu)
theorem Eh{cs:List V}{fo:Nat}(h:fo<cs.length)(x y:V):over (cs.set fo x) fo [y]=cs.set fo y:=by
 unfold over;rw[List.take_set_of_le (Nat.le_refl _),List.drop_set_of_lt (by simp),List.set_eq_take_append_cons_drop,if_pos h];simp
abbrev G8(b p o fo f:Nat)(ex:List V)(T k by_:Nat):List O:=[⟨some b,.fa fo (.t o),none⟩,⟨some (b+1),.ldo (.t b),none⟩,⟨some (b+2),.mv (.t p),none⟩,⟨some (b+3),.call f (.t (b+2)::ex.map .k),none⟩,⟨some (b+4),.mks T k [.t (b+3)],none⟩,⟨some (b+5),.app T k by_ (b+1) (.t (b+4)),none⟩,⟨some (b+6),.fa fo (.t o),none⟩,⟨none,.stoo (.t (b+6)) (b+5),none⟩]
abbrev es8:List (List Nat):=[[],[0],[],[2],[3],[1,4,3],[0,1,2,3,4,5],[6,5,5,0,1,2,3,4,5]]
section
variable {C : Cx} {n0 : Nat} (ρ0 : ac) (σ0 : LLV) (T k i o fo b : Nat) (cs : List V) (rows : LLD) (r : List D) (v : V) (P : List V)
def st8(S:Nat->Bool):ac:=
 put (put (put (put (put (put (put ρ0 b (if S 0 then .ptr o fo else get ρ0 b)) (b+1) (if S 5 then .d (.sl rows)else if S 1 then .own T k rows else get ρ0 (b+1))) (b+2) (if S 2 then .ptr i 0 else get ρ0 (b+2))) (b+3) (if S 3 then v else get ρ0 (b+3)))
  (b+4) (if S 4 then .d (.sl [r])else get ρ0 (b+4))) (b+5) (if S 7 then .d (.sl (rows++[r]))else if S 5 then .own T k (rows++[r])else get ρ0 (b+5))) (b+6) (if S 6 then .ptr o fo else get ρ0 (b+6))
def sg8(S:Nat->Bool):LLV:=
 if S 7 then(if S 3 then σ0.set i P else σ0).set o (cs.set fo (.own T k (rows++[r])))else if S 1 then(if S 3 then σ0.set i P else σ0).set o (cs.set fo (.d (.sl rows)))else if S 3 then σ0.set i P else σ0
theorem nO{f by_ p os:Nat}{ex:List V}{Q:ce}(good:Bool)(PP:V->List V->Prop)(hp:get ρ0 p=.ptr i 0)(hob:get ρ0 os=.ptr o 0)(hpb:p<b)(hosb:os<b)(hio:i≠o)(ho:σ0[o]? = some cs)(hc:cs[fo]? = some (.own T k rows))
 (hf:∀σ,σ[i]? = σ0[i]? -> Fun C f (.ptr i 0::ex.map V.lend) σ fun out σ'=>if good=true then out=.ret v/\σ'=σ.set i P else ∃u P',out=.panic u/\σ'=σ.set i P'/\PP u P')
 (hr:dh [v]=some [r])(hk:r.length=k)(hby:(rows.length+1)*by_≤140737488355328)
 (hq:good=true->Q .normal (st8 ρ0 T k i o fo b rows r v fun _=>true) ((σ0.set i P).set o (cs.set fo (.own T k (rows++[r])))))
 (hpan:good=false->∀u P' ρ' X,PP u P'->(X=cs\/X=cs.set fo (.d (.sl rows)))->Q (.panic u) ρ' ((σ0.set i P').set o X)):jH C n0 (G8 b p os fo f ex T k by_) es8 ρ0 σ0 Q:=by
 intro pr M0 bm0 w0 id ops n M bm tk a w hG hbm hok hes hl h;obtain⟨hlen,hget⟩:=fr hok;have hsz:ops.size=8:=by rw[<-Array.length_toList,<-hlen];rfl
 have hedge:∀(i:Nat) (o:Oper),ops.toList[i]? = some o->es8[i]? = some (aB o):=fun i o ho=>by rw[<-hes,List.getElem?_map,ho];rfl
 have hol:o<σ0.length:=(List.getElem?_eq_some_iff.1 ho).1;have hfl:fo<cs.length:=(List.getElem?_eq_some_iff.1 hc).1
 have hwant:∀(p:O) (o':Oper),okO C.tab n ops p o'=true->p.g=none->∀a:Act,Region.wanted o' (yielded ops a.tmps)=true:=by
  intro p o' hoo hg a;have hgd:=hoo;unfold okO at hgd;simp only[Bool.and_eq_true]at hgd;replace hgd:=hgd.2;rw[hg]at hgd;split at hgd
  .rename_i hg2;simp[Region.wanted,hg2]
  .rename_i e _;cases e
  .cases hgd
 have hext:∀S S':Nat->Bool,(∀j,j<ops.size->S j=S' j)->st8 ρ0 T k i o fo b rows r v S=st8 ρ0 T k i o fo b rows r v S'/\sg8 σ0 T k i o fo cs rows r P S=sg8 σ0 T k i o fo cs rows r P S'/\S 3=S' 3:=fun S S' hS=>by
  rw[hsz]at hS;unfold st8 sg8;rw[hS 0 (by omega),hS 1 (by omega),hS 2 (by omega),hS 3 (by omega),hS 4 (by omega),hS 5 (by omega),hS 6 (by omega),hS 7 (by omega)];exact⟨rfl,rfl,rfl⟩
 refine nk (M:=M) (bm:=bm) (tk:=tk) (st8 ρ0 T k i o fo b rows r v) (sg8 σ0 T k i o fo cs rows r P) (st8 ρ0 T k i o fo b rows r v fun _=>true) ((σ0.set i P).set o (cs.set fo (.own T k (rows++[r])))) (fun S=>good=true\/S 3=false) (.inr rfl) (fun S S' hS hI=>by rw[<-(hext S S' hS).2.2];exact hI)
  (fun i o ho j hj=>?_) (fun S S' hS=>⟨fun t=>by rw[(hext S S' hS).1],(hext S S' hS).2.1⟩) hl ?_ (fun hI=>?_) (fun S j o' ho' hSj hclo hed hI M bm tk a w hl h=>?_)
 .have he:=hedge i o ho;have hi:i<8:=by have:=(List.getElem?_eq_some_iff.1 ho).1;simp at this;omega
  have key:∀i,i<8->∀l,es8[i]? = some l->∀j∈l,j<i:=by decide
  exact key i hi _ he j hj
 .refine h.congr fun t=>?_;unfold st8;simp only[Bool.false_eq_true,if_false,el];repeat' split
  all_goals first|rfl|(subst_vars;rfl)
 .rcases hI with hg|hg
  .exact⟨⟨fun t=>rfl,rfl⟩,hq hg⟩
  .cases hg
 .have he:=hedge j o' ho';have hj:j<8:=by have:=(List.getElem?_eq_some_iff.1 ho').1;simp at this;omega
  have hed:∀l,es8[j]? = some l->∀e∈l,S e=true:=fun l hl e hm=>by rw[hl]at he;cases he;exact hed e hm
  have hcl:∀q,q<8->j∈(es8[q]?.getD [])->S q=false:=fun q hq hm=>by
   cases hs:S q with
   | false=>rfl
   | true=>
    have h8:ops.toList[q]? = some (ops.toList[q]'(by rw[<-hlen];exact hq)):=List.getElem?_eq_getElem _;rw[hedge q _ h8]at hm;have:=hclo q _ h8 hs j hm;rw[this]at hSj;cases hSj
  have g0:∀t,t<b->get (st8 ρ0 T k i o fo b rows r v S) t=get ρ0 t:=fun t ht=>by unfold st8;simp only[el];rw[if_neg (by omega),if_neg (by omega),if_neg (by omega),if_neg (by omega),if_neg (by omega),if_neg (by omega),if_neg (by omega)]
  have gg:∀S t,get (st8 ρ0 T k i o fo b rows r v S) t=if b+6=t then(if S 6 then .ptr o fo else get ρ0 (b+6))else if b+5=t then(if S 7 then .d (.sl (rows++[r]))else if S 5 then .own T k (rows++[r])else get ρ0 (b+5))else if b+4=t then(if S 4 then .d (.sl [r])else get ρ0 (b+4))else if b+3=t then(if S 3 then v else get ρ0 (b+3))else if b+2=t then(if S 2 then .ptr i 0 else get ρ0 (b+2))else if b+1=t then(if S 5 then .d (.sl rows)else if S 1 then .own T k rows else get ρ0 (b+1))else if b=t then(if S 0 then .ptr o fo else get ρ0 b)else get ρ0 t:=fun S t=>by
   unfold st8;simp only[el]
  have go:∀(p':O) ,(G8 b p os fo f ex T k by_)[j]? = some p'->p'.g=none->cw C p'.op p'.dst (st8 ρ0 T k i o fo b rows r v S) (sg8 σ0 T k i o fo cs rows r P S) (fun ρ' σ'=>(∀t,get ρ' t=get (st8 ρ0 T k i o fo b rows r v fun q=>q==j||S q) t)/\σ'=sg8 σ0 T k i o fo cs rows r P (fun q=>q==j||S q)/\(good=true\/(j==3||S 3)=false)) Q->
   (if Region.wanted o' (yielded ops a.tmps)then o'.wp C.P a w (g8 M bm pr w n fun ρ' σ'=>(∀t,get ρ' t=get (st8 ρ0 T k i o fo b rows r v fun q=>q==j||S q) t)/\σ'=sg8 σ0 T k i o fo cs rows r P (fun q=>q==j||S q)/\(good=true\/(j==3||S 3)=false)) (aY M bm pr w n Q)
   else SRel M bm tk pr (st8 ρ0 T k i o fo b rows r v fun q=>q==j||S q) (sg8 σ0 T k i o fo cs rows r P fun q=>q==j||S q) n (a.put o'.dst undef) w/\(good=true\/(j==3||S 3)=false)):=by
   intro p' hp' hg hr;have hoo:=hget j p' o' hp' ho';rw[if_pos (hwant p' o' hoo hg a)];exact bO (hG.mono hl) h hoo hr
  have xp:ev C (st8 ρ0 T k i o fo b rows r v S) (.t p)=.ptr i 0:=by rw[<-hp];exact g0 p hpb
  have xo:ev C (st8 ρ0 T k i o fo b rows r v S) (.t os)=.ptr o 0:=by rw[<-hob];exact g0 os hosb
  have fa:pv C (.fa fo (.t os)) (st8 ρ0 T k i o fo b rows r v S) (sg8 σ0 T k i o fo cs rows r P S)=some (.ptr o fo):=by simp[pv,xo,faV]
  have hj':j=0\/j=1\/j=2\/j=3\/j=4\/j=5\/j=6\/j=7:=by omega
  have hsl:(σ0.set i P).length=σ0.length:=Pg;rcases hj' with rfl|rfl|rfl|rfl|rfl|rfl|rfl|rfl
  .refine go _ rfl rfl ?_;simp only[cw,fa,putd];refine⟨fun t=>?_,?_,by simpa using hI⟩
   .simp only[gg,el,hSj];simp;grind
   .unfold sg8;simp
  .have s0:=hed _ rfl 0 (by simp);have s5:=hcl 5 (by omega) (by decide);have s7:=hcl 7 (by omega) (by decide);have x0:ev C (st8 ρ0 T k i o fo b rows r v S) (.t b)=.ptr o fo:=by show get _ b=_;rw[gg];simp[s0]
   have hσ:(sg8 σ0 T k i o fo cs rows r P S)[o]? = some cs:=by
    unfold sg8;rw[s7,hSj];cases S 3<;>simp[hio,ho]
   refine go _ rfl rfl ?_;simp only[cw,x0,hσ,hc,putd];refine⟨fun t=>?_,?_,by simpa using hI⟩
   .simp only[gg,el,s5,hSj];simp;grind
   .unfold sg8;simp[s7,hSj]
  .refine go _ rfl rfl ?_;have:pv C (.mv (.t p)) (st8 ρ0 T k i o fo b rows r v S) (sg8 σ0 T k i o fo cs rows r P S)=some (.ptr i 0):=by show some (ev C _ (.t p)).copy=_;rw[xp];rfl
   simp only[cw,this,putd];refine⟨fun t=>?_,?_,by simpa using hI⟩
   .simp only[gg,el,hSj];simp;grind
   .unfold sg8;simp
  .have s2:=hed _ rfl 2 (by simp);have s4:=hcl 4 (by omega) (by decide);have s5:=hcl 5 (by omega) (by decide);have s7:=hcl 7 (by omega) (by decide);have x2:ev C (st8 ρ0 T k i o fo b rows r v S) (.t (b+2))=.ptr i 0:=by show get _ (b+2)=_;rw[gg];simp[s2]
   refine go _ rfl rfl ?_
   have hσ:(sg8 σ0 T k i o fo cs rows r P S)[i]? = σ0[i]? := by
    unfold sg8;rw[s7,hSj];cases S 1<;>simp[Ne.symm hio]
   have hx:(ex.map X.k).map (fun x=>(ev C (st8 ρ0 T k i o fo b rows r v S) x).lend)=ex.map V.lend:=by rw[List.map_map];rfl
   simp only[cw,Pb,hx,x2];show Fun C f (.ptr i 0::ex.map V.lend) _ _;refine(hf _ hσ).mono fun out σ' hx=>?_;cases hg:good with
   | true=>
    rw[hg,if_pos rfl]at hx;obtain⟨rfl,rfl⟩:=hx;refine⟨fun t=>?_,?_,.inl rfl⟩
    .simp only[putd,gg,el,hSj,s4,s5,s7];simp;grind
    .unfold sg8;rw[s7,hSj];cases hs1:S 1<;>simp[s7,hs1,Ph _ _ hio]
   | false=>
    rw[hg,if_neg (by simp)]at hx;obtain⟨u,P',rfl,rfl,hp⟩:=hx
    have e:∃X,(X=cs\/X=cs.set fo (.d (.sl rows)))/\(sg8 σ0 T k i o fo cs rows r P S).set i P'=(σ0.set i P').set o X:=by
     unfold sg8;rw[s7,hSj];cases S 1 with
     | true=>exact⟨_,.inr rfl,by simp[Ph _ _ hio]⟩
     | false=>
      refine⟨cs,.inl rfl,?_⟩;simp only[Bool.false_eq_true,if_false];apply List.ext_getElem?;intro q;by_cases e:q=o
      .subst e;rw[Pe hio,ho,List.getElem?_set_self (by simpa using hol)]
      .rw[Pe (Ne.symm e)]
    obtain⟨X,hX,e⟩:=e;rw[e];exact hpan hg u P' _ X hp hX
  .have s3:=hed _ rfl 3 (by simp);have x3:ev C (st8 ρ0 T k i o fo b rows r v S) (.t (b+3))=v:=by show get _ (b+3)=_;rw[gg];simp[s3]
   have hI':good=true:=by rcases hI with h|h;exact h;rw[s3]at h;cases h
   refine go _ rfl rfl ?_;simp only[cw,Pb,List.map_nil,x3,hr,List.all_cons,List.all_nil,hk,putd];refine⟨by simp,fun t=>?_,?_,.inl hI'⟩
   .simp only[gg,el,hSj];simp;grind
   .unfold sg8;simp
  .have s1:=hed _ rfl 1 (by simp);have s4:=hed _ rfl 4 (by simp);have s3:=hed _ rfl 3 (by simp);have s7:=hcl 7 (by omega) (by decide);have hI':good=true:=by rcases hI with h|h;exact h;rw[s3]at h;cases h
   have x1:get (st8 ρ0 T k i o fo b rows r v S) (b+1)=.own T k rows:=by rw[gg];simp[s1,hSj]
   have x4:eC (ev C (st8 ρ0 T k i o fo b rows r v S) (.t (b+4)))=some [r]:=by
    have:ev C (st8 ρ0 T k i o fo b rows r v S) (.t (b+4))=.d (.sl [r]):=by show get _ (b+4)=_;rw[gg];simp[s4]
    rw[this];rfl
   refine go _ rfl rfl ?_;simp only[cw,x1,x4,putd];refine⟨⟨trivial,trivial,by simp[hk],by simpa using hby⟩,fun t=>?_,?_,.inl hI'⟩
   .simp only[gg,el,s7,hSj];simp;grind
   .unfold sg8;simp
  .refine go _ rfl rfl ?_;simp only[cw,fa,putd];refine⟨fun t=>?_,?_,by simpa using hI⟩
   .simp only[gg,el,hSj];simp;grind
   .unfold sg8;simp
  .have s1:=hed _ rfl 1 (by simp);have s5:=hed _ rfl 5 (by simp);have s3:=hed _ rfl 3 (by simp);have s6:=hed _ rfl 6 (by simp);have hI':good=true:=by rcases hI with h|h;exact h;rw[s3]at h;cases h
   have x5:get (st8 ρ0 T k i o fo b rows r v S) (b+5)=.own T k (rows++[r]):=by rw[gg];simp[s5,hSj]
   have x6:ev C (st8 ρ0 T k i o fo b rows r v S) (.t (b+6))=.ptr o fo:=by show get _ (b+6)=_;rw[gg];simp[s6]
   have hσ:(sg8 σ0 T k i o fo cs rows r P S)[o]? = some (cs.set fo (.d (.sl rows))):=by
    unfold sg8;simp[hSj,s1,s3,hol]
   refine go _ rfl rfl ?_;simp only[cw,x6,x5,hσ];refine⟨⟨by simpa using hfl,?_⟩,fun t=>?_,?_,.inl hI'⟩
   .exact rB _ hfl
   .simp only[gg,el,s5,hSj];simp;grind
   .unfold sg8;simp[hSj,s1,s3,Eh hfl]
end
end Go.Proofs.YtnhphlmblenapaaGreatDoor
namespace Go.Proofs.YtnhphlmblenapaaGreatDoor
open Go.RowKit
def Mid(R:ac->LLV->Prop)(ρ:ac)(σ:LLV)(_:Tag R):Prop:=R ρ σ
theorem Mid.mk{R:ac->LLV->Prop}{ρ:ac}{σ:LLV}(h:R ρ σ):Mid R ρ σ .mk:=h
def jy:Nat->Cd->Cd×Cd
 | n+1,.seq a b=>(.seq a (jy n b).1,(jy n b).2)
 | _,c=>(.skip,c)
theorem xt{C:Cx}{n0:Nat}{Q:ce}:∀(n:Nat) (c:Cd) (ρ:ac) (σ:LLV),awp C n0 (jy n c).1 ρ σ (andThen (fun ρ σ=>awp C n0 (jy n c).2 ρ σ Q) Q)->awp C n0 c ρ σ Q
 | 0,c,ρ,σ,h=>by simpa only[jy,awp,andThen]using h
 | n+1,c,ρ,σ,h=>by
  cases c with
  | seq a b=>
   simp only[jy,awp]at h ⊢;refine iI (fun e ρ' σ' h=>?_) h;cases e with
   | normal=>exact xt n b ρ' σ' h
   | _=>exact h
  | _=>simpa only[jy,awp,andThen]using h
theorem lR{C:Cx}{n0:Nat}{c:Cd}{ρ:ac}{σ:LLV}{Q:ce}{t:Tag Q}(n:Nat)(R:ac->LLV->Prop)(h1:d7 C n0 (jy n c).1 ρ σ (andThen (fun ρ σ=>Mid R ρ σ .mk) Q) .mk)(h2:∀ρ' σ',R ρ' σ'->d7 C n0 (jy n c).2 ρ' σ' Q .mk):d7 C n0 c ρ σ Q t:=by
 refine xt n c ρ σ (iI (fun e ρ' σ' h=>?_) h1);cases e with
 | normal=>exact h2 _ _ h
 | _=>exact h
theorem Gt(σ:LLV)(X:List V):(σ++[X]).length=σ.length+1:=by simp
def w4(lo hi w:Int)(b:Bool):List V:=[.d (aa lo),.d (aa hi),.d (aa w),ak b]
section
variable {ts : List Tok} {a i : Nat} (H : TsV ts) (ha : a ≤ ts.length) (σ : LLV) (hi : σ[i]? = some (pb ts a))
include H ha hi
theorem nF:Fun G 120 [.ptr i 0] σ (CQ (fun w=>.agg ((dwt w).map V.d)) ts i σ (fq (zLs ts) (ts.drop a))):=by
 refine al Tryz.func120 Nz rfl fun hb hw=>?_;have S:=St.init hi hb;obtain⟨x,hx⟩:∃x,x=fq (zLs ts) (ts.drop a):=⟨_,rfl⟩
 rw[<-hx];unfold fq at hx;rw[jn]at hx;unfold KP
 refine lR 5 (fun ρ σ'=>∃(lo hi:Int) (a2:Nat) (σ2:LLV),(ρ=[(0,.ptr i 0),(2,.ptr σ2.length 0),(3,.ptr (σ2.length+1) 0)]\/ρ=[(0,.ptr i 0),(2,.ptr σ2.length 0),(3,.ptr (σ2.length+1) 0),(11,ak false)])/\σ'=σ2++[w4 0 0 0 false,w4 lo hi 0 false]/\St σ i ts a2 σ2/\a2≤ts.length/\
  x=(ep (bL 58 61) (ts.drop a2) (fun r3=>.ok true r3) (bJ (zLs ts) (bL 58 47) (ts.drop a2) fun r3=>.ok false r3)).bind fun b r3=>fD (zLs ts) r3 fun w r4=>.ok ⟨lo,hi,w,b⟩ r4) ?_ ?_
 .simp only[jy];simp -dsimp only[aw,seval];rw[Gt];refine aK S ha (iW _) hx (ef H ha _ (am hi _)) (fun lo a1 hx h1 h2 h3 hy σ1 S1 hl1=>?_) (fun e n b hx σ1 S1 hl1=>?_)
  case refine_2=>
   rw[<-hl1];simp -dsimp only[aw,seval];exact aH S1 hx
  rw[<-hl1];simp -dsimp only[aw,seval];refine js H (m:=bL 46 46) (by decide +kernel) S1 h2 (fun hs2 hlt2 σ2 S2 hl2=>?_) (fun hs2=>?_)
  .rw[dM (m:=bL 46 46) hs2]at hx;rw[<-hl2];simp -dsimp only[aw,seval];refine aK S2 hlt2 (iW _) hx (ef H hlt2 _ (am S2.at_ _)) (fun hi2 a3 hx h1 h2 h3 hy σ1 S1 hl1=>?_) (fun e n b hx σ1 S1 hl1=>?_)
   case refine_2=>
    rw[<-hl1];simp -dsimp only[aw,seval];exact aH S1 hx
   rw[<-hl1];simp -dsimp only[aw,seval];exact Mid.mk ⟨lo,hi2,a3,σ1,.inl rfl,rfl,S1,h2,hx⟩
  .rw[dO (m:=bL 46 46) hs2]at hx;simp -dsimp only[aw,seval];exact Mid.mk ⟨lo,lo,a1,σ1,.inr rfl,rfl,S1,h2,hx⟩
 .simp only[jy];rintro ρ' σ' ⟨lo,hi2,a2,σ2,hρ,rfl,S2,h2,hx⟩;rw[<-S2.len];unfold w4
  refine lR 2 (fun ρ σ'=>∃(b:Bool) (a2:Nat) (σ2:LLV),(ρ=[(0,.ptr i 0),(2,.ptr σ2.length 0),(3,.ptr (σ2.length+1) 0)]\/ρ=[(0,.ptr i 0),(2,.ptr σ2.length 0),(3,.ptr (σ2.length+1) 0),(20,ak false)])/\σ'=σ2++[w4 0 0 0 false,w4 lo hi2 0 b]/\St σ i ts a2 σ2/\a2≤ts.length/\
   x=fD (zLs ts) (ts.drop a2) fun w r4=>.ok ⟨lo,hi2,w,b⟩ r4) ?_ ?_
  .simp only[jy];rcases hρ with rfl|rfl
   all_goals
    simp -dsimp only[aw,seval];refine js H (m:=bL 58 61) (by decide +kernel) S2 h2 (fun hs2 hlt2 σ1 S1 hl1=>?_) (fun hs2=>?_)
    .rw[dM hs2]at hx;rw[<-hl1];simp -dsimp only[aw,seval];exact Mid.mk ⟨true,a2+1,σ1,.inr rfl,rfl,S1,hlt2,hx⟩
    .rw[dO hs2,bK,cN]at hx;simp -dsimp only[aw,seval];refine aK S2 h2 (cd _) hx (b8 H (bL 58 47) h2 (by decide +kernel) _ (am S2.at_ _)) (fun _ a3 hx h1 h2 h3 hy σ1 S1 hl1=>?_) (fun e n b hx σ1 S1 hl1=>?_)
     case refine_2=>
      rw[<-hl1];simp -dsimp only[aw,seval];exact aH S1 hx
     rw[<-hl1];simp -dsimp only[aw,seval];exact Mid.mk ⟨false,a3,σ1,.inl rfl,rfl,S1,h2,hx⟩
  .simp only[jy];rintro ρ' σ' ⟨b,a3,σ3,hρ,rfl,S3,h3,hx⟩;rw[S2.len,<-S3.len];rw[jn]at hx;unfold w4;rcases hρ with rfl|rfl
   all_goals
    simp -dsimp only[aw,seval];refine aK S3 h3 (iW _) hx (ef H h3 _ (am S3.at_ _)) (fun w a4 hx h1 h2 h3 hy σ1 S1 hl1=>?_) (fun e n b hx σ1 S1 hl1=>?_)
    case refine_2=>
     rw[<-hl1];simp -dsimp only[aw,seval];exact aH S1 hx
    rw[<-hl1];simp -dsimp only[aw,seval];exact cx S1 h2 hx rfl (by simp[GM,aL,bc,dwt,aw,seval])
end
end Go.Proofs.YtnhphlmblenapaaGreatDoor
namespace Go.Proofs.YtnhphlmblenapaaGreatDoor
open Go.RowKit
theorem uN:∀l:List D,io (l.map V.d)=some l
 | []=>rfl
 | d::l=>by simp only[Pb,io,V.plain,uN l]
theorem tC(l:List D):dh [.agg (l.map V.d)]=some [l]:=by
 have:(V.agg (l.map V.d)).cells=l.map V.d:=by simp[V.cells,V.copy]
 simp only[dh,this,uN]
section
variable {α β : Type} {mk : β -> V} {σ0 σ : LLV} {i : Nat} {ts : List Tok} {a : Nat} {l l' : LLV} {x : CP α} {y : CP β} {k : β -> List Tok -> CP α} {sz : β -> Nat} {c : Nat} {n0 : Nat} {ρ0 : ac} {Q : ce}
theorem r8{b p os fo f T kk by_ q:Nat}{ex:List V}{cs:List V}{rows:LLD}(row:β->List D)(S:St σ0 i ts a σ)(ha:a≤ts.length)(hT:Tk sz c (ts.drop a) y)(hx:x=y.bind k)(hup:Up (σ++l) (σ++l'))
 (hf:∀σ:LLV,σ[i]? = some (pb ts a)->Fun G f (.ptr i 0::ex.map V.lend) σ (CQ mk ts i σ y))(hp:get ρ0 p=.ptr i 0)(ho:get ρ0 os=.ptr (σ.length+q) 0)(hpb:p<b)(hosb:os<b)(hl:l'[q]? = some cs)(hc:cs[fo]? = some (.own T kk rows))
 (hr:∀v,dh [mk v]=some [row v])(hk:∀v,(row v).length=kk)(hby:(rows.length+1)*by_≤140737488355328)[Inhabited β]
 (ht:∀v a2,x=k v (ts.drop a2)->a≤a2->a2≤ts.length->sz v+(ts.length-a2)≤c->∀σ',St σ0 i ts a2 σ'->σ'.length=σ.length->Q .normal (st8 ρ0 T kk i (σ'.length+q) fo b rows (row v) (mk v) fun _=>true) (σ'++l'.set q (cs.set fo (.own T kk (rows++[row v])))))
 (hb:∀e n b',x=.bad e n->∀σ',St σ0 i ts b' σ'->σ'.length=σ.length->∀ρ' X,Q (.panic (dg e n)) ρ' (σ'++l'.set q X)):jH G n0 (G8 b p os fo f ex T kk by_) es8 ρ0 (σ++l) Q:=by
 refine H6 hup ?_;have hil:=S.lt;rw[<-S.len]at hil;have hio:i≠σ.length+q:=by omega
 have hob:(σ++l')[σ.length+q]? = some cs:=by rw[Pa (by omega),Pi];exact hl
 have hii:(σ++l')[i]? = some (pb ts a):=am S.at_ _
 have hset:∀(P X:List V),(((σ++l').set i P).set (σ.length+q) X)=σ.set i P++l'.set q X:=fun P X=>by
  rw[List.set_append_left _ _ hil,Pd _ _ (by simp),Pg,Pi]
 cases y with
 | out=>exact hT.elim
 | bad e n=>
  refine nO (ρ0:=ρ0) (σ0:=σ++l') (T:=T) (k:=kk) (i:=i) (o:=σ.length+q) (fo:=fo) (b:=b) (cs:=cs) (rows:=rows) (v:=mk default) (r:=row default) (P:=[]) false (fun u P'=>u=dg e n/\∃b',P'=pb ts b') hp ho hpb hosb hio hob hc (fun σ' h=>(hf σ' (by rw[h,hii])).mono fun out σ'' hq=>?_) (hr _) (hk _) hby (fun h=>by cases h) ?_
  .rw[if_neg (by simp)];obtain⟨rfl,b',rfl⟩:=hq;exact⟨_,_,rfl,rfl,rfl,b',rfl⟩
  .rintro-u P' ρ' X ⟨rfl,b',rfl⟩ -;rw[hset];exact hb e n b' (by rw[hx];rfl) _ (S.step _) (S.slen _) ρ' X
 | ok v r=>
  obtain⟨h1,h2,h3⟩:=sG ha hT.1;refine nO (ρ0:=ρ0) (σ0:=σ++l') (T:=T) (k:=kk) (i:=i) (o:=σ.length+q) (fo:=fo) (b:=b) (cs:=cs) (rows:=rows) (v:=mk v) (r:=row v) (P:=pb ts (ts.length-r.length)) true (fun _ _=>True) hp ho hpb hosb hio hob hc (fun σ' h=>(hf σ' (by rw[h,hii])).mono fun out σ'' hq=>?_) (hr _) (hk _) hby (fun _=>?_) (fun h=>by cases h)
  .rw[if_pos rfl];exact hq
  .rw[hset];have:=ht v (ts.length-r.length) (by rw[hx,<-h1];rfl) h2 h3 (by have:=hT.2;rw[h1,Pf]at this;omega) _ (S.step _) (S.slen _);rw[S.slen]at this;exact this
end
theorem BE{C:Cx}{n0:Nat}{l:List O}{es:List (List Nat)}{keep:List Nat}{ρ:ac}{σ:LLV}{Q:ce}{t:Tag Q}(h:jH C n0 l es ρ σ fun e ρ' σ'=>Q e (aG keep ρ') σ'):d7 C n0 (.raw l es keep) ρ σ Q t:=h
theorem En{σ l:LLV}{q fo:Nat}{cs:List V}(T k:Nat)(h:l[q]? = some cs)(hc:cs[fo]? = some .nil):Up (σ++l) (σ++l.set q (cs.set fo (.own T k []))):=by
 have h1:(σ++l)[σ.length+q]? = some cs:=by rw[Pa (by omega),Pi];exact h
 have:=Up.step (off:=fo) T k h1 hc (.refl _);rwa[Pd _ _ (by omega),Pi]at this
def z12:List V:=[.d (aa 0),.d (aa 0),.d (aa 0),.d (ae ⟨#[]⟩),.nil,.d (ae ⟨#[]⟩),.d (ae ⟨#[]⟩),.nil,.nil,.nil,.nil,.nil]
def d12(s:ByteArray)(c:V):List V:=[.d (aa 3),.d (aa 0),.d (aa 0),.d (ae ⟨#[]⟩),.nil,.d (ae s),.d (ae ⟨#[]⟩),c,.nil,.nil,.nil,.nil]
theorem xm(w:Wt):(dwt w).length=4:=rfl
instance:Inhabited Wt:=⟨⟨0,0,0,false⟩⟩
section
variable {ts : List Tok} {a i : Nat} (H : TsV ts) (ha : a ≤ ts.length) (σ : LLV) (hi : σ[i]? = some (pb ts a))
include H ha hi
theorem yC:Fun G 62 [.ptr i 0] σ (CQ vit ts i σ (px (zLs ts) (ts.drop a))):=by
 refine al Tryz.func62 k62 rfl fun hb hw=>?_;have S:=St.init hi hb;have hL:=H.ok.len;obtain⟨x,hx⟩:∃x,x=px (zLs ts) (ts.drop a):=⟨_,rfl⟩
 rw[<-hx];unfold px at hx;unfold c62;simp -dsimp only[aw,seval];refine aK S ha (e8 _ _) hx (jO H ha _ (am hi _)) (fun s a1 hx h1 h2 h3 hy σ1 S1 hl1=>?_) (fun e n b hx σ1 S1 hl1=>?_)
 case refine_2=>
  rw[<-hl1];simp -dsimp only[aw,seval];exact aH S1 hx
 rw[<-hl1];rw[bK]at hx;simp -dsimp only[aw,seval];refine aK S1 h2 (cd _) hx (b8 H (ah 123) h2 (by decide +kernel) _ (am S1.at_ _)) (fun _ a2 hx h1 h2 h3 hy σ2 S2 hl2=>?_) (fun e n b hx σ1 S1 hl1=>?_)
 case refine_2=>
  rw[<-hl1];simp -dsimp only[aw,seval];exact aH S1 hx
 rw[<-hl2];unfold gI at hx;rw[cN]at hx;simp -dsimp only[aw,seval];refine BE (show jH _ _ _ _ _ _ _ from r8 (b:=9) (p:=0) (os:=3) (fo:=7) (f:=120) (ex:=[]) (T:=56) (kk:=4) (by_:=32) (q:=1) (rows:=[]) dwt S2 h2 (gC _ _) hx (En (cs:=d12 s .nil) (fo:=7) (q:=1) 56 4 rfl rfl) (fun σ h=>nF H h2 σ h) rfl rfl (by decide) (by decide) rfl rfl (fun v=>tC _) xm (by decide) (fun w a3 hx h4 h5 h6 σ3 S3 hl3=>?_) (fun e n b hx σ3 S3 hl3 ρ' X=>?_))
 case refine_2=>
  rw[<-hl3];exact aH (rs:=E0) (ρ:=ρ') S3 hx
 rw[<-hl3];simp -dsimp only[aw,seval,st8,d12]
 refine aI [0,2,3] (R:=fun(j:Nat) ρ σ'=>∃(a1:Nat) (l:List Wt) (σ2:LLV),ρ=[(0,.ptr i 0),(2,.ptr σ2.length 0),(3,.ptr (σ2.length+1) 0)]/\σ'=σ2++[z12,d12 s (.own 56 4 (l.map dwt))]/\St σ i ts a1 σ2/\a1≤ts.length/\l.length+j≤a1+1/\j≤a1/\
  x=(bY (fun l r=>(acc (ah 44) r).map fun r2=>(fq (zLs ts) r2).bind fun s r3=>.ok (l++[s]) r3) l (ts.drop a1)).bind fun l r3=>bJ (zLs ts) (ah 125) r3 fun r4=>bJ (zLs ts) (ah 59) r4 fun r5=>.ok (.mk 3 exZ s ⟨#[]⟩ l [] [] [] []) r5) ts.length ⟨a3,[w],σ3,rfl,rfl,S3,h5,by simp,by omega,hx⟩ ?_ _
 rintro j ρ' σ' hj ⟨a1,l,σ4,rfl,rfl,S4,h7,h8,h9,hx⟩;rw[gy (iD (gC _)).eats]at hx;rw[S3.len,<-S4.len];unfold z12 d12;simp -dsimp only[aw,seval];refine js H (m:=ah 44) (by decide +kernel) S4 h7 (fun hs2 hlt2 σ5 S5 hl5=>?_) (fun hs2=>?_)
 .simp only[hs2,Option.map_some,cN]at hx;rw[<-hl5];simp -dsimp only[aw,seval];refine BE (show jH _ _ _ _ _ _ _ from r8 (b:=18) (p:=0) (os:=3) (fo:=7) (f:=120) (ex:=[]) (T:=56) (kk:=4) (by_:=32) (q:=1) (rows:=l.map dwt) dwt S5 hlt2 (gC _ _) hx (.refl _) (fun σ h=>nF H hlt2 σ h) rfl rfl (by decide) (by decide) rfl rfl (fun v=>tC _) xm (by rw[List.length_map];omega) (fun w a5 hx h4 h5 h6 σ3 S3 hl3=>?_) (fun e n b hx σ3 S3 hl3 ρ' X=>?_))
  case refine_2=>
   rw[<-hl3];exact aH (rs:=E0) (ρ:=ρ') S3 hx
  rw[<-hl3];simp -dsimp only[aw,seval,st8];have h10:a1+1<a5:=by unfold fE at h6;rw[Pf]at h6;omega
  refine⟨by omega,Nxt.same (by simp) (aq S3.bb rfl) (by simp[an,V.under,S3.len];have:=S3.lt;omega) ⟨a5,l++[w],σ3,rfl,by simp[z12,d12],S3,h5,by simp;omega,by omega,hx⟩⟩
 .simp only[hs2,Option.map_none,CP.bind]at hx;rw[bK]at hx;simp -dsimp only[aw,seval];refine aK S4 h7 (cd _) hx (b8 H (ah 125) h7 (by decide +kernel) _ (am S4.at_ _)) (fun _ a2 hx h1 h2 h3 hy σ2 S2 hl2=>?_) (fun e n b hx σ1 S1 hl1=>?_)
  case refine_2=>
   rw[<-hl1];simp -dsimp only[aw,seval];exact aH S1 hx
  rw[<-hl2];rw[bK]at hx;simp -dsimp only[aw,seval];refine aK S2 h2 (cd _) hx (b8 H (ah 59) h2 (by decide +kernel) _ (am S2.at_ _)) (fun _ a2 hx h1 h2 h3 hy σ3 S3 hl3=>?_) (fun e n b hx σ1 S1 hl1=>?_)
  case refine_2=>
   rw[<-hl1];simp -dsimp only[aw,seval];exact aH S1 hx
  rw[<-hl3];simp -dsimp only[aw,seval];exact cx S3 h2 hx (by rw[bw];rfl) (by rw[bw];simp[E0,aL,bc,kB,qN,kr,mK,qR,iC,nv,mS,m9,exZ,ca,bu,aT,aW,aw,seval])
end
end Go.Proofs.YtnhphlmblenapaaGreatDoor
