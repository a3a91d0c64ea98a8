import Derived.Test.YtnhphlmblenapaaGreatDoorK8
set_option linter.unusedVariables false
set_option linter.unusedSimpArgs false
set_option linter.unusedSectionVars false
set_option maxHeartbeats 1200000
open Bool renaming and_eq_true->TJ,true_and->TK,false_and->TL
open Classical renaming byContradiction->TM
open Int renaming reduceEq->TN
open List renaming getElem?_eq_getElem->TO,drop_eq_nil_of_le->TP,getElem?_eq_none->TQ,take_left->TR,getElem_mem->TS,getElem?_set_self->TT,take_of_length_le->TU,length_set->TV
open Nat renaming le_refl->TW,le_succ->TX
namespace Go.Proofs.YtnhphlmblenapaaGreatDoor
open Go.RowKit
theorem sG(n:Int)(h0:0≤n)(h1:n≤2147483648)(σ:LLV):Fun G 291 [.d (ab n)] σ (aN (.d (ai (bs (Lib.decDigits n.toNat)))) σ):=by
 have h5:=lN (u:=n.toNat) (by omega);have hN:=fun σ=>ss n (by omega) (by omega) σ;rw[n8 h0]at hN;refine ae Tryz.func291 SH rfl fun hb hw=>?_;unfold LC;have hl:(Lib.decDigits n.toNat++[59]).length=(Lib.decDigits n.toNat).length+1:=by simp
 have hw1:IntKind.i64.wrap ((((Lib.decDigits n.toNat++[59]).length:Nat):Int)-1)=(((Lib.decDigits n.toNat).length:Nat):Int):=by rw[hl,aA (by omega) (by omega)];omega
 have hs:=DB (Lib.decDigits n.toNat++[59]) (Lib.decDigits n.toNat).length (by rw[hl];omega);rw[TR]at hs;simp -dsimp only[aw,seval];refine ac (hN _) ?_;generalize Lib.decDigits n.toNat=ds at *;generalize ds++[59]=dt at *;simp -dsimp only[aw,seval,aG,hw1,hs];exact ak hb rfl rfl
theorem wP(t:Tok)(ht:bO t=true)(σ:LLV):Fun G 313 [ea t] σ (aN (ao true) σ):=by
 obtain⟨k,n,x,ln⟩:=t;obtain⟨l,rfl⟩:∃l,x=bs l:=⟨_,(jR x).symm⟩
 unfold ea;refine ae Tryz.func313 Rz rfl fun hb hw=>?_;unfold Mw;by_cases h3:k=3
 .subst h3;by_cases h0:0≤n;case neg=>rw[w9 n l ln h0]at ht;cases ht
  rw[vH n l ln h0,TJ,decide_eq_true_eq,decide_eq_true_eq]at ht;obtain⟨hm,he⟩:=ht;rw[n8 h0]at he;have hd:=fun σ=>sG n h0 (by omega) σ;rw[<-he]at hd;simp -dsimp only[aw,seval,TN,decide_true,decide_false,decide_eq_true h0,decide_eq_true (show n<2147483648 by omega)];refine bo (hd _) ?_;simp -dsimp only[aw,seval];exact az hb rfl rfl TR ⟨rfl,rfl⟩
 by_cases h1:k=1
 .subst h1;rw[Ja,TJ,decide_eq_true_eq]at ht;obtain⟨rfl,hn⟩:=ht;have hd:=fun σ=>u6 l σ;rw[hn]at hd;simp -dsimp only[aw,seval];refine ac (hd _) ?_;simp -dsimp only[aw,seval];exact az hb rfl rfl TR ⟨rfl,rfl⟩
 by_cases h2:k=2
 .subst h2;rw[Jk,TJ,decide_eq_true_eq]at ht;obtain⟨rfl,hn⟩:=ht;have hd:=fun σ=>mW (bs l) σ;rw[hn]at hd;simp -dsimp only[aw,seval];refine ac (hd _) ?_;simp -dsimp only[aw,seval];exact az hb rfl rfl TR ⟨rfl,rfl⟩
 by_cases h4:k=4
 .subst h4;rw[Jf,TJ,decide_eq_true_eq]at ht;obtain⟨rfl,hn⟩:=ht;have hd:=fun σ=>sj l σ;rw[hn]at hd;simp -dsimp only[aw,seval];refine ac (hd _) ?_;simp -dsimp only[aw,seval];exact az hb rfl rfl TR ⟨rfl,rfl⟩
 rw[Je k n l ln h1 h2 h3 h4]at ht;cases ht
def rb(ts:List Tok)(a:Nat)(e:Int):List V:=[.d (.sl (ts.map di)),.d (ab a),.d (ab e)]
def gW(ts:List Tok)(a:Nat):Int:=match ts[a]? with
 | some t=>t.kind
 | none=>0
theorem oh{σ:LLV}{i:Nat}{X:List V}(hi:σ[i]? = some X):σ.set i X=σ:=by
 have hlt:=(List.getElem?_eq_some_iff.1 hi).1;rw[<-(List.getElem?_eq_some_iff.1 hi).2];exact List.set_getElem_self hlt
theorem oL{σ:LLV}{i a:Nat}{ts:List Tok}{e:Int}{v:V}{rs:List RV}{ρ:aj}(hb:am σ.length σ=true)(h:aC (σ.set i (rb ts a e)) ρ rs=some v)(hv:V.under σ.length v=true):fin σ.length rs (fun o σ'=>o=.ret v/\σ'=σ.set i (rb ts a e)) .ret ρ (σ.set i (rb ts a e)):=
 bp (bq hb rfl) h hv (by rw[TU (by rw[TV];exact TW _)]) ⟨rfl,rfl⟩
theorem vu{σ:LLV}{i a:Nat}{ts:List Tok}{e:Int}{v:V}{rs:List RV}{ρ:aj}(hb:am σ.length σ=true)(h:aC (σ.set i (rb ts a e)) ρ rs=some v)(hv:V.under σ.length v=true):fin σ.length rs (fun o σ'=>o=.ret v/\σ'=σ.set i (rb ts a e)) .normal ρ (σ.set i (rb ts a e)):=
 rG (bq hb rfl) h hv (by rw[TU (by rw[TV];exact TW _)]) ⟨rfl,rfl⟩
def bX(ts:List Tok)(a:Nat)(e:Int):ByteArray×Nat×Int:=match (if e=0 then bW (ts.drop a)else none)with
 | some p=>(p.1,a+1,0)
 | none=>(⟨#[]⟩,a,if e=0 then bQ ts a else e)
def cD(ts:List Tok)(a:Nat)(e:Int):Int×Nat×Int:=match (if e=0 then cB (ts.drop a)else none)with
 | some p=>if 65535<p.1 then(0,a,3)else(p.1,a+1,0)
 | none=>(0,a,if e=0 then bQ ts a else e)
section
variable {ts : List Tok} {a i : Nat} {e : Int} (H : TsV ts) (ha : a ≤ ts.length) (σ : LLV) (hi : σ[i]? = some (rb ts a e))
include H ha hi
theorem lR:Fun G 288 [.ptr i 0] σ (aN (.d (ab (if e=0 then gW ts a else 0))) σ):=by
 refine ae Tryz.func288 Q3 rfl fun hb hw=>?_;unfold Mz;have hio:=hi;unfold rb at hio;by_cases he:e=0
 case neg=>
  rw[if_neg he];simp -dsimp only[aw,seval,hio,decide_eq_false he];exact ak hb rfl rfl
 rw[if_pos he];unfold gW;by_cases hlt:a<ts.length
 .have d1:decide (((ts.length:Nat):Int)≤((a:Nat):Int))=false:=by rw[decide_eq_false_iff_not];omega
  have hv:=wP ts[a] (H.v _ (TS hlt));rw[TO hlt];simp -dsimp only[aw,seval,hio,decide_eq_true he,d1,TO hlt,bG,di];refine bo (by simpa only[ea]using hv _) ?_;simp -dsimp only[aw,seval,hio,TO hlt,bG,di];exact ak hb rfl rfl
 .have d1:decide (((ts.length:Nat):Int)≤((a:Nat):Int))=true:=by rw[decide_eq_true_eq];omega
  rw[TQ (by omega)];simp -dsimp only[aw,seval,hio,decide_eq_true he,d1];exact ak hb rfl rfl
theorem gF(m:ByteArray):Fun G 260 [.ptr i 0,.d (ai m)] σ (aN (ao (decide (e=0)&&ax m ts a)) σ):=by
 refine ae Tryz.func260 SO rfl fun hb hw=>?_;unfold MS;have hk:=lR H ha σ hi;have hio:=hi;unfold rb at hio;by_cases he:e=0
 case neg=>
  rw[if_neg he]at hk;rw[decide_eq_false he,TL];simp -dsimp only[aw,seval];refine ac hk ?_;simp -dsimp only[aw,seval];exact ak hb rfl rfl
 rw[if_pos he]at hk;rw[decide_eq_true he,TK];by_cases hlt:a<ts.length
 .have e1:gW ts a=ts[a].kind:=by unfold gW;rw[TO hlt]
  rw[e1]at hk;rw[nI hlt,H.v _ (TS hlt),TK];by_cases h4:ts[a].kind=4
  .rw[decide_eq_true h4,Bool.true_or,TK];simp -dsimp only[aw,seval];refine ac hk ?_;simp -dsimp only[aw,seval,decide_eq_true h4,hio,TO hlt,bG,di];exact ak hb rfl rfl
  by_cases h2:ts[a].kind=2
  .rw[decide_eq_true h2,Bool.or_true,TK];simp -dsimp only[aw,seval];refine ac hk ?_;simp -dsimp only[aw,seval,decide_eq_false h4,decide_eq_true h2,hio,TO hlt,bG,di];exact ak hb rfl rfl
  .rw[decide_eq_false h4,decide_eq_false h2,Bool.false_or,TL];simp -dsimp only[aw,seval];refine ac hk ?_;simp -dsimp only[aw,seval,decide_eq_false h4,decide_eq_false h2];exact ak hb rfl rfl
 .have e1:gW ts a=0:=by unfold gW;rw[TQ (by omega)]
  rw[e1]at hk;rw[fH hlt];simp -dsimp only[aw,seval];refine ac hk ?_;simp -dsimp only[aw,seval];exact ak hb rfl rfl
theorem oW:Fun G 292 [.ptr i 0] σ fun o σ'=>o=.ret (.tup [])/\σ'=σ.set i (rb ts a (if e=0 then bQ ts a else e)):=by
 have hlt:=(List.getElem?_eq_some_iff.1 hi).1;refine ae Tryz.func292 R2 rfl fun hb hw=>?_;unfold Pk;have hio:=hi;unfold rb at hio;by_cases he:e=0
 .rw[if_pos he];unfold bQ;by_cases hl:a=ts.length
  .have d1:decide (((a:Nat):Int)=((ts.length:Nat):Int))=true:=decide_eq_true (by omega);rw[if_neg (show ¬a<ts.length by omega)];simp -dsimp only[aw,seval,hio,decide_eq_true he,d1,TT hlt,List.set_set];exact vu (a:=a) (e:=6) hb rfl rfl
  .have d1:decide (((a:Nat):Int)=((ts.length:Nat):Int))=false:=decide_eq_false (by omega);rw[if_pos (show a<ts.length by omega)];simp -dsimp only[aw,seval,hio,decide_eq_true he,d1,TT hlt];exact vu (a:=a) (e:=5) hb rfl rfl
 .rw[if_neg he,oh hi];simp -dsimp only[aw,seval,hio,decide_eq_false he];exact az hb rfl rfl List.take_length ⟨rfl,rfl⟩
theorem Bq(m:ByteArray):Fun G 262 [.ptr i 0,.d (ai m)] σ fun o σ'=>o=.ret (.tup [])/\σ'=σ.set i (if e=0 then(if ax m ts a=true then rb ts (a+1) 0 else rb ts a (bQ ts a))else rb ts a e):=by
 have hlt:=(List.getElem?_eq_some_iff.1 hi).1;have hS:=gF H ha σ hi m;have hF:=oW H ha σ hi;have hL:=H.ok.len;refine ae Tryz.func262 RH rfl fun hb hw=>?_;unfold PL;cases hs:(decide (e=0)&&ax m ts a)with
 | true=>
  rw[hs]at hS;rw[TJ,decide_eq_true_eq]at hs;obtain⟨rfl,hs⟩:=hs;rw[if_pos rfl,if_pos hs];have hio:=hi;unfold rb at hio;simp -dsimp only[aw,seval];refine ac hS ?_;simp -dsimp only[aw,seval,hio,aA (show -9223372036854775808≤((a:Nat):Int)+1 by omega) (show((a:Nat):Int)+1≤9223372036854775807 by omega)];exact vu (a:=a+1) (e:=0) hb rfl rfl
 | false=>
  have e1:(if e=0 then(if ax m ts a=true then rb ts (a+1) 0 else rb ts a (bQ ts a))else rb ts a e)=rb ts a (if e=0 then bQ ts a else e):=by
   by_cases he:e=0
   .rw[if_pos he,if_pos he,if_neg (by rw[decide_eq_true he,TK]at hs;rw[hs];decide)]
   .rw[if_neg he,if_neg he]
  rw[e1];rw[hs]at hS;simp -dsimp only[aw,seval];refine ac hS ?_;simp -dsimp only[aw,seval];refine aB hF fun o σ' ⟨g1,g2⟩=>?_;subst g1;subst g2;simp -dsimp only[aw,seval,aR];exact oL (a:=a) hb rfl rfl
theorem t7:Fun G 290 [.ptr i 0] σ fun o σ'=>o=.ret (.d (ai (bX ts a e).1))/\σ'=σ.set i (rb ts (bX ts a e).2.1 (bX ts a e).2.2):=by
 have hlt:=(List.getElem?_eq_some_iff.1 hi).1;have hK:=lR H ha σ hi;have hF:=oW H ha σ hi;have hL:=H.ok.len;refine ae Tryz.func290 SQ rfl fun hb hw=>?_;unfold L5
 have bad:(if e=0 then bW (ts.drop a)else none)=none->(if e=0 then gW ts a else 0)≠1:=by
  intro h;by_cases he:e=0
  .rw[if_pos he]at h ⊢;unfold gW;by_cases hl:a<ts.length
   .rw[fM hl,H.v _ (TS hl)]at h;rw[TO hl];intro hk;rw[if_pos ⟨rfl,hk⟩]at h;cases h
   .rw[TQ (by omega)];decide
  .rw[if_neg he];decide
 cases hx:(if e=0 then bW (ts.drop a)else none)with
 | none=>
  have d1:=decide_eq_false (bad hx);have eS:bX ts a e=(⟨#[]⟩,a,if e=0 then bQ ts a else e):=by unfold bX;rw[hx]
  rw[eS];simp -dsimp only[aw,seval];refine ac hK ?_;simp -dsimp only[aw,seval,d1];refine aB hF fun o σ' ⟨g1,g2⟩=>?_;subst g1;subst g2;simp -dsimp only[aw,seval,aR];exact oL (a:=a) hb rfl rfl
 | some p=>
  have he:e=0:=TM fun h=>by rw[if_neg h]at hx;cases hx
  subst he;have hx0:=hx;rw[if_pos rfl]at hx hK;have hl:a<ts.length:=TM fun h=>by rw[TP (by omega)]at hx;cases hx
  rw[fM hl]at hx;split at hx;case isFalse=>cases hx
  rename_i hk;cases hx;have e1:gW ts a=1:=by unfold gW;rw[TO hl];exact hk.2
  rw[e1]at hK;have hio:=hi;unfold rb at hio;have w1:IntKind.i64.wrap (((a:Nat):Int)+1)=((a+1:Nat):Int):=aA (by omega) (by omega);have w2:IntKind.i64.wrap (((a+1:Nat):Int)-1)=((a:Nat):Int):=by rw[aA (by omega) (by omega)];omega
  have eS:bX ts a 0=(ts[a].text,a+1,0):=by unfold bX;rw[hx0]
  rw[eS];simp -dsimp only[aw,seval];refine ac hK ?_;simp -dsimp only[aw,seval,hio,TN,decide_true,w1,w2,TT hlt,TO hl,bG,di];exact oL (a:=a+1) (e:=0) hb rfl rfl
theorem pz:Fun G 289 [.ptr i 0] σ fun o σ'=>o=.ret (.d (ab (cD ts a e).1))/\σ'=σ.set i (rb ts (cD ts a e).2.1 (cD ts a e).2.2):=by
 have hlt:=(List.getElem?_eq_some_iff.1 hi).1;have hK:=lR H ha σ hi;have hF:=oW H ha σ hi;have hL:=H.ok.len;refine ae Tryz.func289 Ru rfl fun hb hw=>?_;unfold NK
 have bad:(if e=0 then cB (ts.drop a)else none)=none->(if e=0 then gW ts a else 0)≠3:=by
  intro h;by_cases he:e=0
  .rw[if_pos he]at h ⊢;unfold gW;by_cases hl:a<ts.length
   .rw[ez hl,H.v _ (TS hl)]at h;rw[TO hl];intro hk;rw[if_pos ⟨rfl,hk⟩]at h;cases h
   .rw[TQ (by omega)];decide
  .rw[if_neg he];decide
 cases hx:(if e=0 then cB (ts.drop a)else none)with
 | none=>
  have d1:=decide_eq_false (bad hx);have eS:cD ts a e=(0,a,if e=0 then bQ ts a else e):=by unfold cD;rw[hx]
  rw[eS];simp -dsimp only[aw,seval];refine ac hK ?_;simp -dsimp only[aw,seval,d1];refine aB hF fun o σ' ⟨g1,g2⟩=>?_;subst g1;subst g2;simp -dsimp only[aw,seval,aR];exact oL (a:=a) hb rfl rfl
 | some p=>
  have he:e=0:=TM fun h=>by rw[if_neg h]at hx;cases hx
  subst he;have hx0:=hx;rw[if_pos rfl]at hx hK;have hl:a<ts.length:=TM fun h=>by rw[TP (by omega)]at hx;cases hx
  rw[ez hl]at hx;split at hx;case isFalse=>cases hx
  rename_i hk;cases hx;have e1:gW ts a=3:=by unfold gW;rw[TO hl];exact hk.2
  rw[e1]at hK;have hio:=hi;unfold rb at hio;have w1:IntKind.i64.wrap (((a:Nat):Int)+1)=((a+1:Nat):Int):=aA (by omega) (by omega);by_cases hbig:65535<ts[a].num
  .have eS:cD ts a 0=(0,a,3):=by unfold cD;rw[hx0];exact if_pos hbig
   rw[eS];simp -dsimp only[aw,seval];refine ac hK ?_;simp -dsimp only[aw,seval,hio,TN,decide_true,TO hl,bG,di,decide_eq_true hbig];exact oL (a:=a) (e:=3) hb rfl rfl
  .have eS:cD ts a 0=(ts[a].num,a+1,0):=by unfold cD;rw[hx0];exact if_neg hbig
   rw[eS];simp -dsimp only[aw,seval];refine ac hK ?_;simp -dsimp only[aw,seval,hio,TN,decide_true,TO hl,bG,di,decide_eq_false hbig,w1];exact oL (a:=a+1) (e:=0) hb rfl rfl
end
end Go.Proofs.YtnhphlmblenapaaGreatDoor
namespace Go.Proofs.YtnhphlmblenapaaGreatDoor
open Go.RowKit
theorem qp{m:ByteArray}{r r1:List Tok}(h:acc m r=some r1):∃t,r=t::r1/\t.text=m/\bO t=true/\(t.kind=4\/t.kind=2):=by
 cases r with
 | nil=>cases h
 | cons t r=>
  by_cases hc:bO t=true/\(t.kind=4\/t.kind=2)/\t.text=m
  .have e:acc m (t::r)=some r:=if_pos hc;rw[e]at h;cases h;exact⟨t,rfl,hc.2.2,hc.1,hc.2.1⟩
  .have e:acc m (t::r)=none:=if_neg hc;rw[e]at h;cases h
theorem pV{m m':ByteArray}{r r1:List Tok}(h:acc m r=some r1)(hne:m'≠m):acc m' r=none:=by
 cases hx:acc m' r with
 | none=>rfl
 | some r2=>
  obtain⟨t,rfl,h1,-⟩:=qp h;obtain⟨t',e,h2,-⟩:=qp hx;cases e;exact absurd (h2.symm.trans h1) hne
theorem yJ:∀b,b∈cC->∀c,c∈cC->b.1=c.1->b=c:=by decide +kernel
theorem qP{k:Nat}{m:ByteArray}{o:Int}{r r1:List Tok}(hm:(m,o,k)∈cC)(h:acc m r=some r1):∀l:List (ByteArray×Int×Nat),(∀b,b∈l->b∈cC)->(m,o,k)∈l->jp l k r=some (o,r1)
 | [],_,hl=>by cases hl
 | b::l,hs,hl=>by
  rw[jp];by_cases hb:b.1=m
  .have:=yJ b (hs b (by simp)) _ hm hb;subst this;rw[if_pos rfl,h]
  .have hl2:(m,o,k)∈l:=(List.mem_cons.1 hl).resolve_left fun e=>hb (by rw[<-e]);have ih:=qP hm h l (fun c hc=>hs c (by simp[hc])) hl2;have hn:=pV h hb;split
   .rw[hn];exact ih
   .exact ih
theorem nl{k:Nat}{r:List Tok}:∀l:List (ByteArray×Int×Nat),(∀b,b∈l->b.2.2=k->acc b.1 r=none)->jp l k r=none
 | [],_=>rfl
 | b::l,h=>by
  have ih:=nl l (fun c hc=>h c (by simp[hc]));rw[jp];split
  .rename_i hk;rw[h b (by simp) hk];exact ih
  .exact ih
theorem D4:∀b,b∈cC->b.1≠aa 62/\b.1≠ba 62 61:=by decide +kernel
theorem Bo{k:Nat}{m:ByteArray}{o:Int}{r r1:List Tok}(hm:(m,o,k)∈cC)(h:acc m r=some r1):dM k r=some (o,false,r1):=by
 unfold dM;rw[qP hm h cC (fun _ h=>h) hm]
theorem FY{r r1:List Tok}(h:acc (aa 62) r=some r1):dM 9 r=some (17,true,r1):=by
 unfold dM;rw[nl cC fun b hb _=>pV h (D4 b hb).1];simp only;rw[if_pos trivial,h]
theorem F8{r r1:List Tok}(h:acc (ba 62 61) r=some r1):dM 9 r=some (18,true,r1):=by
 unfold dM;rw[nl cC fun b hb _=>pV h (D4 b hb).2];simp only;rw[if_pos trivial,pV h (by decide +kernel),h]
theorem E8{k:Nat}{r:List Tok}(h:∀b,b∈cC->b.2.2=k->acc b.1 r=none)(h1:k=9->acc (aa 62) r=none)(h2:k=9->acc (ba 62 61) r=none):dM k r=none:=by
 unfold dM;rw[nl cC h];simp only;by_cases hk:k=9
 .rw[if_pos hk,h1 hk,h2 hk]
 .rw[if_neg hk]
def hH(ts:List Tok)(a:Nat)(e:Int)(k:Nat):Int×Bool:=if e=0 then(match dM k (ts.drop a)with
 | some p=>(p.1,p.2.1)
 | none=>(0,false))else(0,false)
theorem Hm:∀j,j<14->∃p,pC (7+((j:Nat):Int))=some p:=by
 have:∀j,j<14->(pC (7+((j:Nat):Int))).isSome=true:=by decide +kernel
 exact fun j h=>Option.isSome_iff_exists.1 (this j h)
theorem IF:∀b,b∈cC->b.2.2=2\/∃j,j<14/\pC (7+((j:Nat):Int))=some (b.1,b.2.2):=by
 have:∀b,b∈cC->b.2.2=2\/(b.2.1-7).toNat<14/\pC (7+(((b.2.1-7).toNat:Nat):Int))=some (b.1,b.2.2):=by decide +kernel
 exact fun b hb=>(this b hb).imp id fun h=>⟨_,h⟩
theorem rq{m:ByteArray}{ts:List Tok}{a:Nat}(h:ax m ts a=false):acc m (ts.drop a)=none:=by
 unfold ax at h;cases hx:acc m (ts.drop a)with
 | none=>rfl
 | some r=>rw[hx]at h;cases h
theorem rQ{m:ByteArray}{ts:List Tok}{a:Nat}(h:ax m ts a=true):acc m (ts.drop a)=some (ts.drop (a+1)):=by
 have hl:=bv h;unfold ax at h;obtain⟨r,hr⟩:=Option.isSome_iff_exists.1 h;obtain⟨t,e,-⟩:=qp hr;rw[hr];rw[List.drop_eq_getElem_cons hl]at e;cases e;rfl
section
variable {ts : List Tok} {a i : Nat} {e : Int} (H : TsV ts) (ha : a ≤ ts.length) (σ : LLV) (hi : σ[i]? = some (rb ts a e))
include H ha hi
theorem Br(k:Nat)(hk:3≤k)(hk2:k≤12):Fun G 264 [.ptr i 0,.d (ab k)] σ (aN (.tup [.d (ab (hH ts a e k).1),ao (hH ts a e k).2]) σ):=by
 have h1:=gF H ha σ hi (aa 62);have h2:=gF H ha σ hi (ba 62 61);have hs:=fun m=>gF H ha σ hi m;have hil:=(List.getElem?_eq_some_iff.1 hi).1;refine ae Tryz.func264 SM rfl fun hb hw=>?_;unfold LF;have dk:decide (((k:Nat):Int)=9)=decide (k=9):=decide_eq_decide.2 (by omega);by_cases g1:k=9/\(decide (e=0)&&ax (aa 62) ts a)=true
 .obtain⟨rfl,g1⟩:=g1;rw[g1]at h1;rw[TJ,decide_eq_true_eq]at g1;have eS:hH ts a e 9=(17,true):=by unfold hH;rw[if_pos g1.1,FY (rQ g1.2)]
  rw[eS];unfold aa at h1;simp -dsimp only[aw,seval,dk];refine ac h1 ?_;simp -dsimp only[aw,seval];exact ak hb rfl rfl
 by_cases g2:k=9/\(decide (e=0)&&ax (ba 62 61) ts a)=true
 .obtain⟨rfl,g2⟩:=g2;have g1':(decide (e=0)&&ax (aa 62) ts a)=false:=Bool.eq_false_iff.2 fun h=>g1 ⟨rfl,h⟩;rw[g1']at h1;rw[g2]at h2;rw[TJ,decide_eq_true_eq]at g2;have eS:hH ts a e 9=(18,true):=by unfold hH;rw[if_pos g2.1,F8 (rQ g2.2)]
  rw[eS];unfold aa at h1;unfold ba at h2;simp -dsimp only[aw,seval,dk];refine ac h1 ?_;simp -dsimp only[aw,seval,dk];refine ac h2 ?_;simp -dsimp only[aw,seval];exact ak hb rfl rfl
 have c1:k=9->(decide (e=0)&&ax (aa 62) ts a)=false:=fun h=>Bool.eq_false_iff.2 fun h'=>g1 ⟨h,h'⟩;have c2:k=9->(decide (e=0)&&ax (ba 62 61) ts a)=false:=fun h=>Bool.eq_false_iff.2 fun h'=>g2 ⟨h,h'⟩;clear g1 g2;by_cases h9:k=9
 case' pos=>
  rw[c1 h9]at h1;rw[c2 h9]at h2;unfold aa at h1;unfold ba at h2;simp -dsimp only[aw,seval,dk,decide_eq_true h9];refine ac h1 ?_;simp -dsimp only[aw,seval,dk,decide_eq_true h9];refine ac h2 ?_;simp -dsimp only[aw,seval]
 case' neg=>
  simp -dsimp only[aw,seval,dk,decide_eq_false h9]
 all_goals
  refine aL [0,1,6] (fun(j:Nat) ρ σ'=>ρ=[(0,.ptr i 0),(1,.d (ab k)),(6,aF .i64 (7+((j:Nat):Int)))]/\σ'=σ/\∀j',j'<j->∀m,pC (7+((j':Nat):Int))=some (m,k)->(decide (e=0)&&ax m ts a)=false) 14 ⟨rfl,rfl,fun j' h=>by omega⟩ ?_ _;rintro j ρ' σ' hj ⟨rfl,rfl,hI⟩;by_cases hlt:j<14
  .obtain⟨⟨m,l⟩,hB⟩:=Hm j hlt;have hsg:=fun σ=>DP (7+((j:Nat):Int)) σ;have e1:xm (7+((j:Nat):Int))=.tup [.d (ai m),.d (ab l)]:=by unfold xm;rw[if_neg (by omega),hB]
   rw[e1]at hsg;have hw1:IntKind.i64.wrap (7+((j:Nat):Int)+1)=7+((j+1:Nat):Int):=by rw[aA (by omega) (by omega)];omega
   have dj:decide (7+((j:Nat):Int)≤20)=true:=decide_eq_true (by omega);have dl:decide (((l:Nat):Int)=((k:Nat):Int))=decide (l=k):=decide_eq_decide.2 (by omega);have hm:=hs m;simp -dsimp only[aw,seval,dj];refine ac (hsg _) ?_;by_cases hl:l=k
   .subst hl;cases hsm:(decide (e=0)&&ax m ts a)with
    | true=>
     rw[hsm]at hm;rw[TJ,decide_eq_true_eq]at hsm;have eS:hH ts a e l=(7+((j:Nat):Int),false):=by unfold hH;rw[if_pos hsm.1,Bo (sS hB) (rQ hsm.2)]
     rw[eS];simp -dsimp only[aw,seval,dl];refine ac hm ?_;simp -dsimp only[aw,seval];exact ak hb rfl rfl
    | false=>
     rw[hsm]at hm;simp -dsimp only[aw,seval,dl];refine ac hm ?_;simp -dsimp only[aw,seval,hw1];refine⟨hlt,Nxt.same (TW _) hb (by simp[an,V.under,hil]) ⟨rfl,rfl,fun j' hj' m' hm'=>?_⟩⟩;rcases Nat.lt_succ_iff_lt_or_eq.1 hj' with h|rfl
     .exact hI j' h m' hm'
     .rw[hB]at hm';cases hm';exact hsm
   .simp -dsimp only[aw,seval,dl,decide_eq_false hl,hw1];refine⟨hlt,Nxt.same (TW _) hb (by simp[an,V.under,hil]) ⟨rfl,rfl,fun j' hj' m' hm'=>?_⟩⟩;rcases Nat.lt_succ_iff_lt_or_eq.1 hj' with h|rfl
    .exact hI j' h m' hm'
    .rw[hB]at hm';cases hm';exact absurd rfl hl
  .have dj:decide (7+((j:Nat):Int)≤20)=false:=decide_eq_false (by omega);have ej:j=14:=by omega
   subst ej
   have eS:hH ts a e k=(0,false):=by
    unfold hH;by_cases he:e=0
    .rw[if_pos he,E8 ?_ (fun h=>rq (by have:=c1 h;rwa[decide_eq_true he,TK]at this)) (fun h=>rq (by have:=c2 h;rwa[decide_eq_true he,TK]at this))];intro b hb hbk;rcases IF b hb with h|⟨j',hj',hB⟩
     .omega
     .rw[hbk]at hB;have:=hI j' hj' b.1 hB;rw[decide_eq_true he,TK]at this;exact rq this
    .rw[if_neg he]
   rw[eS];simp -dsimp only[aw,seval,dj];exact ak hb rfl rfl
end
end Go.Proofs.YtnhphlmblenapaaGreatDoor
namespace Go.Proofs.YtnhphlmblenapaaGreatDoor
open Go.RowKit
abbrev RS:=Nat×Int
inductive RK where
 | E (k:Nat)
 | Lp (k:Nat) (a:Ex)
 | In (a:Ex)
 | Rg (args:List Ex)
def isX(ts:List Tok)(m:ByteArray)(s:RS):Bool:=decide (s.2=0)&&ax m ts s.1
def upS(s:RS):RS:=(s.1+1,s.2)
def cw(ts:List Tok)(m:ByteArray)(s:RS):RS:=if s.2=0 then(if ax m ts s.1=true then(s.1+1,0)else(s.1,bQ ts s.1))else s
def nD(ts:List Tok)(s:RS):Int:=if s.2=0 then gW ts s.1 else 0
def fX(ts:List Tok)(rec:RK->RS->Option (Ex×RS))(s:RS):Option (Ex×RS):=
 if nD ts s=3 then some (.mk 1 (cD ts s.1 s.2).1 ⟨#[]⟩ [],(cD ts s.1 s.2).2)
 else if isX ts (aa 40) s=true then(rec (.E 1) (upS s)).map fun p=>(p.1,cw ts (aa 41) p.2)
 else
  let nm:=bX ts s.1 s.2
  if nm.1=me/\isX ts (aa 40) nm.2=true then
   let q:=bX ts (nm.2.1+1) nm.2.2
   some (.mk 24 0 q.1 [],cw ts (aa 41) q.2)
  else if nm.1=gS/\isX ts (aa 40) nm.2=true then(rec (.E 1) (upS nm.2)).map fun p=>(aK 25 [p.1],cw ts (aa 41) p.2)
  else if isX ts (aa 91) nm.2=true then(rec (.E 1) (upS nm.2)).map fun p=>(.mk 3 0 nm.1 [p.1],cw ts (aa 93) p.2)
  else if isX ts (aa 64) nm.2=true then
   let q:=cD ts (nm.2.1+1) nm.2.2
   some (.mk 2 0 (gX nm.1 q.1) [],q.2)
  else some (.mk 2 0 nm.1 [],nm.2)
def stX(ts:List Tok)(rec:RK->RS->Option (Ex×RS)):RK->RS->Option (Ex×RS)
 | .E k,s=>
  if k=14 then fX ts rec s
  else if k=13 then
   if isX ts (aa 33) s=true then(rec (.E 13) (upS s)).map fun p=>(aK 4 [p.1],p.2)
   else if isX ts (aa 126) s=true then(rec (.E 13) (upS s)).map fun p=>(aK 5 [p.1],p.2)
   else if isX ts (aa 45) s=true then(rec (.E 13) (upS s)).map fun p=>(aK 6 [p.1],p.2)
   else fX ts rec s
  else(rec (.E (k+1)) s).bind fun p=>
   if k=1/\isX ts (aa 63) p.2=true then(rec (.E 1) (upS p.2)).bind fun q=>(rec (.E 1) (cw ts (aa 58) q.2)).map fun w=>(aK 22 [p.1,q.1,w.1],w.2)
   else if k=2/\isX ts (ba 61 62) p.2=true then(rec (.E 2) (upS p.2)).map fun q=>(aK 21 [p.1,q.1],q.2)
   else if 2<k then rec (.Lp k p.1) p.2 else some p
 | .Lp k a,s=>
  if k=9/\isX ts ct s=true then(rec (.In a) (upS s)).bind fun p=>rec (.Lp k p.1) p.2
  else if(hH ts s.1 s.2 k).1=0 then some (a,s)
  else(rec (.E (k+1)) (upS s)).bind fun p=>rec (.Lp k (if(hH ts s.1 s.2 k).2=true then aK (hH ts s.1 s.2 k).1 [p.1,a]else aK (hH ts s.1 s.2 k).1 [a,p.1])) p.2
 | .In a,s=>(rec (.Rg [a]) (cw ts (aa 123) s)).map fun p=>(p.1,cw ts (aa 125) p.2)
 | .Rg args,s=>
  if s.2=0 then(rec (.E 1) s).bind fun p=>(rec (.E 1) (cw ts (ba 46 46) p.2)).bind fun q=>
   if isX ts (aa 44) q.2=true then rec (.Rg (args++[p.1,q.1])) (upS q.2)else some (aK 23 (args++[p.1,q.1]),q.2)
  else some (aK 23 args,s)
def cT(ts:List Tok):Nat->RK->RS->Option (Ex×RS)
 | 0,_,_=>none
 | n+1,k,s=>stX ts (cT ts n) k s
def OkS(ts:List Tok)(s s':RS):Prop:=s.1≤s'.1/\s'.1≤ts.length
theorem OkS.trans{ts:List Tok}{s s' s'':RS}(h:OkS ts s s')(h':OkS ts s' s''):OkS ts s s'':=⟨Nat.le_trans h.1 h'.1,h'.2⟩
theorem fI{ts:List Tok}{m:ByteArray}{s:RS}(h:s.1≤ts.length):OkS ts s (cw ts m s):=by
 unfold cw;split
 .split
  .rename_i h1;have:=bv h1;exact⟨TX _,this⟩
  .exact⟨TW _,h⟩
 .exact⟨TW _,h⟩
theorem cG{ts:List Tok}{m:ByteArray}{s:RS}(h:isX ts m s=true):OkS ts s (upS s):=by
 unfold isX at h;rw[TJ]at h;exact⟨TX _,bv h.2⟩
theorem i7{ts:List Tok}{a:Nat}(h:(bW (ts.drop a)).isSome=true):a+1≤ts.length:=by
 apply TM;intro hn;rw[TP (by omega)]at h;cases h
theorem kh{ts:List Tok}{a:Nat}(h:(cB (ts.drop a)).isSome=true):a+1≤ts.length:=by
 apply TM;intro hn;rw[TP (by omega)]at h;cases h
theorem pX{ts:List Tok}{s:RS}(h:s.1≤ts.length):OkS ts s (bX ts s.1 s.2).2:=by
 unfold bX;split
 .rename_i p hp;split at hp
  .exact⟨TX _,i7 (by rw[hp];rfl)⟩
  .cases hp
 .exact⟨TW _,h⟩
theorem GC{ts:List Tok}{s:RS}(h:s.1≤ts.length):OkS ts s (cD ts s.1 s.2).2:=by
 unfold cD;split
 .rename_i p hp;split at hp
  .split
   .exact⟨TW _,h⟩
   .exact⟨TX _,kh (by rw[hp];rfl)⟩
  .cases hp
 .exact⟨TW _,h⟩
theorem EF{ts:List Tok}{s:RS}{k:Nat}(h:(hH ts s.1 s.2 k).1≠0):OkS ts s (upS s):=by
 unfold hH at h;split at h
 .split at h
  .rename_i p hp;have:=(lO hp).2;rw[List.length_drop]at this;exact⟨TX _,by show s.1+1≤_;omega⟩
  .exact absurd rfl h
 .exact absurd rfl h
theorem Ih{ts:List Tok}{rec:RK->RS->Option (Ex×RS)}(hr:∀k s v s',rec k s=some (v,s')->s.1≤ts.length->OkS ts s s'){s s':RS}{v:Ex}(h:fX ts rec s=some (v,s'))(hs:s.1≤ts.length):OkS ts s s':=by
 have hn:=pX hs;have hq:=GC hs;unfold fX at h;split at h
 .cases h;exact hq
 split at h
 .rename_i h1;obtain⟨⟨v1,s1⟩,e1,e2⟩:=Option.map_eq_some_iff.1 h;cases e2;have h2:=hr _ _ _ _ e1 (cG h1).2;exact((cG h1).trans h2).trans (fI h2.2)
 simp only at h;split at h
 .rename_i h1;cases h;have h2:=pX (s:=upS (bX ts s.1 s.2).2) (cG h1.2).2;exact((hn.trans (cG h1.2)).trans h2).trans (fI h2.2)
 split at h
 .rename_i h1;obtain⟨⟨v1,s1⟩,e1,e2⟩:=Option.map_eq_some_iff.1 h;cases e2;have h2:=hr _ _ _ _ e1 (cG h1.2).2;exact((hn.trans (cG h1.2)).trans h2).trans (fI h2.2)
 split at h
 .rename_i h1;obtain⟨⟨v1,s1⟩,e1,e2⟩:=Option.map_eq_some_iff.1 h;cases e2;have h2:=hr _ _ _ _ e1 (cG h1).2;exact((hn.trans (cG h1)).trans h2).trans (fI h2.2)
 split at h
 .rename_i h1;cases h;have h2:=GC (s:=upS (bX ts s.1 s.2).2) (cG h1).2;exact(hn.trans (cG h1)).trans h2
 .cases h;exact hn
theorem eY(ts:List Tok):∀(n:Nat) (k:RK) (s:RS) (v:Ex) (s':RS),cT ts n k s=some (v,s')->s.1≤ts.length->OkS ts s s'
 | 0,_,_,_,_,h,_=>by cases h
 | n+1,k,s,v,s',h,hs=>by
  have ih:=eY ts n;have hp:=fun s s' v h hs=>Ih (s:=s) (s':=s') (v:=v) ih h hs;unfold cT at h;generalize cT ts n=rec at *;cases k with
  | E k=>
   simp only[stX]at h;split at h
   .exact hp _ _ _ h hs
   split at h
   .split at h
    .rename_i h1;obtain⟨⟨v1,s1⟩,e1,e2⟩:=Option.map_eq_some_iff.1 h;cases e2;exact(cG h1).trans (ih _ _ _ _ e1 (cG h1).2)
    split at h
    .rename_i h1;obtain⟨⟨v1,s1⟩,e1,e2⟩:=Option.map_eq_some_iff.1 h;cases e2;exact(cG h1).trans (ih _ _ _ _ e1 (cG h1).2)
    split at h
    .rename_i h1;obtain⟨⟨v1,s1⟩,e1,e2⟩:=Option.map_eq_some_iff.1 h;cases e2;exact(cG h1).trans (ih _ _ _ _ e1 (cG h1).2)
    .exact hp _ _ _ h hs
   .obtain⟨⟨v1,s1⟩,e1,h⟩:=Option.bind_eq_some_iff.1 h;have h1:=ih _ _ _ _ e1 hs;simp only at h;split at h
    .rename_i g;obtain⟨⟨v2,s2⟩,e2,h⟩:=Option.bind_eq_some_iff.1 h;obtain⟨⟨v3,s3⟩,e3,h⟩:=Option.map_eq_some_iff.1 h;cases h;have h2:=ih _ _ _ _ e2 (cG g.2).2;have h3:=fI (m:=aa 58) h2.2;exact(((h1.trans (cG g.2)).trans h2).trans h3).trans (ih _ _ _ _ e3 h3.2)
    split at h
    .rename_i g;obtain⟨⟨v2,s2⟩,e2,h⟩:=Option.map_eq_some_iff.1 h;cases h;exact(h1.trans (cG g.2)).trans (ih _ _ _ _ e2 (cG g.2).2)
    split at h
    .exact h1.trans (ih _ _ _ _ h h1.2)
    .cases h;exact h1
  | Lp k a=>
   simp only[stX]at h;split at h
   .rename_i g;obtain⟨⟨v1,s1⟩,e1,h⟩:=Option.bind_eq_some_iff.1 h;have h1:=ih _ _ _ _ e1 (cG g.2).2;exact((cG g.2).trans h1).trans (ih _ _ _ _ h h1.2)
   split at h
   .cases h;exact⟨TW _,hs⟩
   .rename_i g;obtain⟨⟨v1,s1⟩,e1,h⟩:=Option.bind_eq_some_iff.1 h;have h1:=ih _ _ _ _ e1 (EF g).2;exact((EF g).trans h1).trans (ih _ _ _ _ h h1.2)
  | In a=>
   simp only[stX]at h;obtain⟨⟨v1,s1⟩,e1,h⟩:=Option.map_eq_some_iff.1 h;cases h;have h0:=fI (m:=aa 123) hs;have h1:=ih _ _ _ _ e1 h0.2;exact(h0.trans h1).trans (fI h1.2)
  | Rg args=>
   simp only[stX]at h;split at h
   .obtain⟨⟨v1,s1⟩,e1,h⟩:=Option.bind_eq_some_iff.1 h;obtain⟨⟨v2,s2⟩,e2,h⟩:=Option.bind_eq_some_iff.1 h;have h1:=ih _ _ _ _ e1 hs;have h2:=fI (m:=ba 46 46) h1.2;have h3:=ih _ _ _ _ e2 h2.2;simp only at h;split at h
    .rename_i g;exact(((h1.trans h2).trans h3).trans (cG g)).trans (ih _ _ _ _ h (cG g).2)
    .cases h;exact(h1.trans h2).trans h3
   .cases h;exact⟨TW _,hs⟩
end Go.Proofs.YtnhphlmblenapaaGreatDoor
