import Derived.Test.YtnhphlmblenapaaGreatDoorDm9
set_option linter.unusedVariables false
set_option linter.unusedSimpArgs false
set_option linter.unusedSectionVars false
set_option maxRecDepth 100000
set_option maxHeartbeats 2000000
open Bool renaming and_eq_true->TJ,and_true->TK
open List renaming take_length->TL,take_left->TM,drop_zero->TN,length_cons->TO,map_cons->TP,take_of_length_le->TQ,drop_eq_nil_of_le->TR,length_append->TS,take_append->TT,length_nil->TU,all_append->TV,sum_cons->TW,all_cons->TX,all_nil->TY
open Nat renaming le_refl->TZ,zero_le->T0,add_sub_cancel_left->T1,reduceAdd->T3
open Option renaming getD_some->T4,getD_none->T5
namespace Go.Proofs.YtnhphlmblenapaaGreatDoor
open Go.RowKit
theorem yP{l:Bs}{ts:List Tok}(h:cS l=.ok ts)(hl:l.length≤16384):TsV ts:=⟨IC h hl,fun t ht=>((gf h).1 t ht).1⟩
def pH{α:Type}(z:α):CP α->α×Int×Int
 | .out=>(z,0,1)
 | .bad e n=>(z,n,e)
 | .ok v _=>(v,0,0)
def fy{α:Type}(z:α)(F:List Tok->CP α)(l:Bs):α×Int×Int:=if 16384<l.length then(z,0,2)else match cS l with
 | .err n e=>(z,n,e)
 | .ok ts=>pH z (F ts)
def d9{α:Type}(mk:α->V)(r:α×Int×Int):V:=.tup [mk r.1,.d (ab r.2.1),.d (ab r.2.2)]
def kZ:Kl:=⟨⟨#[]⟩,⟨#[]⟩,[],[]⟩
def l8(l:List It):V:=.d (.sl (l.map dit))
theorem Hc(σ:LLV)(i j k:Nat):fi G 59 [.ptr i 0,.ptr j 0,.ptr k 0] σ none (fun σ'=>σ'=σ):=by
 refine eE Tryz.func59 k59 rfl (fun v h=>by cases h) fun hb=>?_;unfold c59;simp -dsimp only[aw,seval,tU,sF,T5];exact⟨σ.length,TZ _,by rw[TL];exact hb,TL⟩
theorem HG(τ:LLV)(e n:Int)(x:List V):fi G 59 [.ptr τ.length 0,.ptr (τ.length+1) 0,.ptr (τ.length+2) 0] (τ++[[.nil],[.d (ab 0)],[.d (ab 0)],x]) (some (dU e n))
 (fun σ'=>σ'=τ++[[.nil],[.d (ab n)],[.d (ab e)],x]):=by
 refine eE Tryz.func59 k59 rfl (fun v h=>by cases h;rfl) fun hb=>?_;unfold c59 dU;simp -dsimp only[aw,seval,tU,sF,T4]
 have hT:∀y:LLV,(τ++[.nil]::[.d (ab n)]::[.d (ab e)]::x::y).take (τ.length+4)=τ++[[.nil],[V.d (ab n)],[V.d (ab e)],x]:=fun y=>by
  rw[TT,TQ (by omega),T1];rfl
 refine⟨τ.length+4,by simp,?_,?_⟩
 .rw[hT];simp only[TS,TO,TU,T3]at hb;unfold am at hb ⊢;rw[TV,TJ]at hb ⊢;refine⟨hb.1,?_⟩;have:=hb.2;simp only[TX,TY,TK,TJ]at this ⊢;exact⟨rfl,rfl,rfl,this.2.2.2⟩
 .rw[hT]
theorem GE(F:List Tok->CP (List It))(hF:∀ts,F ts≠.out)(g:FuncId)(l:Bs)(hc:∀ts,TsV ts->ts.length≤16384->∀(i:Nat) (τ:LLV),τ[i]? = some (pb ts 0)->Fun G g [.ptr i 0] τ (CQ l8 ts i τ (F ts)))(σ:LLV):
 Fun G 23 [.d (ai (bs l)),.fn g []] σ (aN (d9 l8 (fy [] F l)) σ):=by
 refine mT Tryz.func23 k23 rfl fun hb hw=>?_;unfold c23
 have fin:∀(r:(List It)×Int×Int) (x:LLV) ρ,fy [] F l=r->aC (σ++x) ρ uf=some (d9 l8 r)->fin σ.length uf (aN (d9 l8 (fy [] F l)) σ) .ret ρ (σ++x):=fun r x ρ hp h=>by
  rw[hp];exact az hb h rfl TM ⟨rfl,rfl⟩
 have finl:∀(r:(List It)×Int×Int) (x:LLV) ρ,fy [] F l=r->aC (σ++x) ρ uf=some (d9 l8 r)->Bu σ.length uf (aN (d9 l8 (fy [] F l)) σ) ρ (σ++x):=fun r x ρ hp h=>by
  rw[hp];exact⟨_,h,σ.length,TZ _,by rw[TM];exact hb,rfl,by rw[TM];exact⟨rfl,rfl⟩⟩
 by_cases hbig:16384<l.length
 .have hP:fy [] F l=([],0,2):=by unfold fy;rw[if_pos hbig]
  simp -dsimp only[aw,seval,je];refine ac (pk l hbig _) ?_;simp -dsimp only[aw,seval,je];refine fin _ _ _ hP ?_;simp[d9,l8,uf,aC,bZ,aQ,aw,seval]
 have ht:=rz l (by omega);have hR:kf l=kB (cS l):=by unfold kf;rw[if_neg hbig]
 rw[hR]at ht;cases hx:cS l with
 | err n e=>
  have hP:fy [] F l=([],n,e):=by unfold fy;rw[if_neg hbig,hx]
  have de:=decide_eq_false (oN hx);rw[hx]at ht;unfold kB at ht;simp -dsimp only[aw,seval,je];refine ac (ht _) ?_;simp -dsimp only[aw,seval,je,de];refine fin _ _ _ hP ?_;simp[d9,l8,uf,aC,bZ,aQ,aw,seval]
 | ok ts=>
  have H:=yP hx (by omega);have hl16:=(gf hx).2;have hP:fy [] F l=pH [] (F ts):=by unfold fy;rw[if_neg hbig,hx]
  rw[hx]at ht;unfold kB at ht;have hC:=hc ts H (by omega) (σ.length+3);simp -dsimp only[aw,seval,je];refine ac (ht _) ?_;simp -dsimp only[aw,seval,je,F0];refine aB (hC _ (by rw[qj];rfl)) fun out σ' hq=>?_;cases hy:F ts with
  | out=>exact absurd hy (hF ts)
  | bad e n=>
   rw[hy]at hq hP;obtain⟨rfl,b,rfl⟩:=hq;rw[lp];simp -dsimp only[aw,seval,bi];refine(HG σ e n (pb ts b)).mono fun σ' h=>?_;subst h;have:=finl _ [[.nil],[.d (ab n)],[.d (ab e)],pb ts b] [(4,.ptr σ.length 0),(5,.ptr (σ.length+1) 0),(6,.ptr (σ.length+2) 0)] hP (by simp[d9,pH,l8,uf,aC,bZ,aQ,aw,seval]);exact this
  | ok v r=>
   rw[hy]at hq hP;obtain⟨rfl,rfl⟩:=hq;rw[lp];simp -dsimp only[aw,seval,aR,pb,l8];refine(Hc _ _ _ _).mono fun σ' h=>?_;subst h;have:=finl _ [[l8 v],[.d (ab 0)],[.d (ab 0)],pb ts (ts.length-r.length)] [(4,.ptr σ.length 0),(5,.ptr (σ.length+1) 0),(6,.ptr (σ.length+2) 0)] hP (by simp[d9,pH,l8,uf,aC,bZ,aQ,aw,seval]);exact this
theorem HP(σ:LLV)(i j k:Nat):fi G 81 [.ptr i 0,.ptr j 0,.ptr k 0] σ none (fun σ'=>σ'=σ):=by
 refine eE Tryz.func81 k81 rfl (fun v h=>by cases h) fun hb=>?_;unfold c81;simp -dsimp only[aw,seval,tU,sF,T5];exact⟨σ.length,TZ _,by rw[TL];exact hb,TL⟩
theorem Hk(τ:LLV)(e n:Int)(x:List V):fi G 81 [.ptr τ.length 0,.ptr (τ.length+1) 0,.ptr (τ.length+2) 0] (τ++[[.d (ai ⟨#[]⟩),.d (ai ⟨#[]⟩),.nil,.nil],[.d (ab 0)],[.d (ab 0)],x]) (some (dU e n))
 (fun σ'=>σ'=τ++[[.d (ai ⟨#[]⟩),.d (ai ⟨#[]⟩),.nil,.nil],[.d (ab n)],[.d (ab e)],x]):=by
 refine eE Tryz.func81 k81 rfl (fun v h=>by cases h;rfl) fun hb=>?_;unfold c81 dU;simp -dsimp only[aw,seval,tU,sF,T4]
 have hT:∀y:LLV,(τ++[.d (ai ⟨#[]⟩),.d (ai ⟨#[]⟩),.nil,.nil]::[.d (ab n)]::[.d (ab e)]::x::y).take (τ.length+4)=τ++[[.d (ai ⟨#[]⟩),.d (ai ⟨#[]⟩),.nil,.nil],[V.d (ab n)],[V.d (ab e)],x]:=fun y=>by
  rw[TT,TQ (by omega),T1];rfl
 refine⟨τ.length+4,by simp,?_,?_⟩
 .rw[hT];simp only[TS,TO,TU,T3]at hb;unfold am at hb ⊢;rw[TV,TJ]at hb ⊢;refine⟨hb.1,?_⟩;have:=hb.2;simp only[TX,TY,TK,TJ]at this ⊢;exact⟨rfl,rfl,rfl,this.2.2.2⟩
 .rw[hT]
theorem DJ(F:List Tok->CP Kl)(hF:∀ts,F ts≠.out)(g:FuncId)(l:Bs)(hc:∀ts,TsV ts->ts.length≤16384->∀(i:Nat) (τ:LLV),τ[i]? = some (pb ts 0)->Fun G g [.ptr i 0] τ (CQ vkl ts i τ (F ts)))(σ:LLV):
 Fun G 32 [.d (ai (bs l)),.fn g []] σ (aN (d9 vkl (fy kZ F l)) σ):=by
 refine mT Tryz.func32 k32 rfl fun hb hw=>?_;unfold c32
 have fin:∀(r:Kl×Int×Int) (x:LLV) ρ,fy kZ F l=r->aC (σ++x) ρ um=some (d9 vkl r)->fin σ.length um (aN (d9 vkl (fy kZ F l)) σ) .ret ρ (σ++x):=fun r x ρ hp h=>by
  rw[hp];exact az hb h rfl TM ⟨rfl,rfl⟩
 have finl:∀(r:Kl×Int×Int) (x:LLV) ρ,fy kZ F l=r->aC (σ++x) ρ um=some (d9 vkl r)->Bu σ.length um (aN (d9 vkl (fy kZ F l)) σ) ρ (σ++x):=fun r x ρ hp h=>by
  rw[hp];exact⟨_,h,σ.length,TZ _,by rw[TM];exact hb,rfl,by rw[TM];exact⟨rfl,rfl⟩⟩
 by_cases hbig:16384<l.length
 .have hP:fy kZ F l=(kZ,0,2):=by unfold fy;rw[if_pos hbig]
  simp -dsimp only[aw,seval,je];refine ac (pk l hbig _) ?_;simp -dsimp only[aw,seval,je];refine fin _ _ _ hP ?_;simp[d9,kZ,um,aC,bZ,aQ,aw,seval]
 have ht:=rz l (by omega);have hR:kf l=kB (cS l):=by unfold kf;rw[if_neg hbig]
 rw[hR]at ht;cases hx:cS l with
 | err n e=>
  have hP:fy kZ F l=(kZ,n,e):=by unfold fy;rw[if_neg hbig,hx]
  have de:=decide_eq_false (oN hx);rw[hx]at ht;unfold kB at ht;simp -dsimp only[aw,seval,je];refine ac (ht _) ?_;simp -dsimp only[aw,seval,je,de];refine fin _ _ _ hP ?_;simp[d9,kZ,um,aC,bZ,aQ,aw,seval]
 | ok ts=>
  have H:=yP hx (by omega);have hl16:=(gf hx).2;have hP:fy kZ F l=pH kZ (F ts):=by unfold fy;rw[if_neg hbig,hx]
  rw[hx]at ht;unfold kB at ht;have hC:=hc ts H (by omega) (σ.length+3);simp -dsimp only[aw,seval,je];refine ac (ht _) ?_;simp -dsimp only[aw,seval,je,F0];refine aB (hC _ (by rw[qj];rfl)) fun out σ' hq=>?_;cases hy:F ts with
  | out=>exact absurd hy (hF ts)
  | bad e n=>
   rw[hy]at hq hP;obtain⟨rfl,b,rfl⟩:=hq;rw[lp];simp -dsimp only[aw,seval,bi];refine(Hk σ e n (pb ts b)).mono fun σ' h=>?_;subst h;have:=finl _ [[.d (ai ⟨#[]⟩),.d (ai ⟨#[]⟩),.nil,.nil],[.d (ab n)],[.d (ab e)],pb ts b] [(4,.ptr σ.length 0),(5,.ptr (σ.length+1) 0),(6,.ptr (σ.length+2) 0)] hP (by simp[d9,pH,kZ,um,aC,bZ,aQ,aw,seval]);exact this
  | ok v r=>
   rw[hy]at hq hP;obtain⟨rfl,rfl⟩:=hq;rw[lp];simp -dsimp only[aw,seval,aR,pb,kZ];refine(HP _ _ _ _).mono fun σ' h=>?_;subst h;have:=finl _ [[.d (ai v.name),.d (ai v.par),.d (.sl (v.flds.map dfl)),.d (.sl (v.blks.map dbk))],[.d (ab 0)],[.d (ab 0)],pb ts (ts.length-r.length)] [(4,.ptr σ.length 0),(5,.ptr (σ.length+1) 0),(6,.ptr (σ.length+2) 0)] hP (by simp[d9,pH,kZ,um,aC,bZ,aQ,aw,seval]);exact this
def sn:List Bk->Int
 | []=>0
 | b::r=>if g7 b.2=0 then sn r else g7 b.2
def mK(c:Kl):Int:=if uL c=0 then sn c.blks else uL c
theorem AE{l:List Bk}{b:Bk}(h:b∈l):bu b.2≤bsz l:=by
 induction l with
 | nil=>cases h
 | cons a r ih=>
  unfold bsz at *;rw[TP,TW];rcases List.mem_cons.1 h with rfl|h
  .omega
  .have:=ih h;omega
theorem uk(l:List Bk):l.length≤bsz l:=by
 induction l with
 | nil=>exact TZ _
 | cons a r ih=>unfold bsz at *;rw[TP,TW,TO];omega
theorem yd(c:Kl)(hk:ksz c≤1100000)(σ:LLV):Fun G 37 [vkl c] σ (aN (.d (ab (mK c))) σ):=by
 have hk2:c.flds.length≤1100000/\bsz c.blks≤1100000:=by unfold ksz at hk;omega
 have hbl:=uk c.blks;refine ae Tryz.func37 k37 rfl fun hb hw=>?_;unfold c37;simp -dsimp only[aw,seval];refine ac (wS c (by omega) (by omega) _) ?_;by_cases h0:uL c=0
 .have hv:mK c=sn c.blks:=by unfold mK;rw[if_pos h0]
  rw[hv];simp -dsimp only[aw,seval,decide_eq_true h0,List.length_map];refine aL [13,14,15] (fun(j:Nat) ρ σ'=>ρ=[(13,.d (.sl (c.blks.map dbk))),(14,aF .i64 c.blks.length),(15,aF .i64 j)]/\σ'=σ++[[.d (ai c.name),.d (ai c.par),.d (.sl (c.flds.map dfl)),.d (.sl (c.blks.map dbk))]]/\sn c.blks=sn (c.blks.drop j)) c.blks.length ⟨rfl,rfl,rfl⟩ ?_ _;rintro j ρ' σ' hj ⟨rfl,rfl,hI⟩;by_cases hlt:j<c.blks.length
  .have wj:=aJ hlt (show c.blks.length≤9223372036854775807 by omega);have e1:(c.blks.map dbk)[j]? = some (dbk c.blks[j]):=by rw[List.getElem?_map,List.getElem?_eq_getElem hlt];rfl
   have hm:=AE (List.getElem_mem hlt);rw[List.drop_eq_getElem_cons hlt,sn]at hI;have hd:dbk c.blks[j]=[ai c.blks[j].1,gZ c.blks[j].2]:=rfl;simp -dsimp only[aw,seval,Int.ofNat_lt,hlt,e1,hd,TP,List.map_nil];refine ac (re _ (by omega) _) ?_;by_cases h0:g7 c.blks[j].2=0
   .rw[if_pos h0]at hI;simp -dsimp only[aw,seval,h0,wj];exact⟨hlt,Nxt.drp1 (by simp) (aq hb rfl) (by simp[an,V.under]) ⟨rfl,rfl,hI⟩⟩
   .rw[if_neg h0]at hI;rw[hI];simp -dsimp only[aw,seval,decide_eq_false h0];exact ak hb rfl rfl
  .rw[TR (by omega),sn]at hI;rw[hI];simp -dsimp only[aw,seval,Int.ofNat_lt,hlt];exact ak hb rfl rfl
 .have hv:mK c=uL c:=by unfold mK;rw[if_neg h0]
  rw[hv];simp -dsimp only[aw,seval,decide_eq_false h0];exact ak hb rfl rfl
theorem Af{α:Type}{sz:α->Nat}{z:α}{F:List Tok->CP α}(hF:∀ts,Tk sz ts.length ts (F ts))(hz:sz z≤16384)(l:Bs):sz (fy z F l).1≤16384:=by
 unfold fy;split
 .exact hz
 .rename_i hl;cases ht:cS l with
  | err n' e'=>exact hz
  | ok ts=>
   have hl16:=(gf ht).2;have h:=hF ts;simp only;cases hf:F ts with
   | out=>exact hz
   | bad e' n'=>exact hz
   | ok w r=>rw[hf]at h;have:=h.2;simp only[pH];omega
def pM(l:Bs):List It×Int×Int:=
 let r:=fy [] (fun ts=>mn (zLs ts) ts) l
 if r.2.2=0 then(if g7 r.1=0 then(r.1,0,0)else([],0,g7 r.1))else([],r.2.1,r.2.2)
def gJ(l:Bs):Kl×Int×Int:=
 let r:=fy kZ (fun ts=>se (zLs ts) ts) l
 if r.2.2=0 then(if mK r.1=0 then(r.1,0,0)else(kZ,0,mK r.1))else(kZ,r.2.1,r.2.2)
theorem H6(ts:List Tok)(H:TsV ts)(i:Nat)(τ:LLV)(hi:τ[i]? = some (pb ts 0)):Fun G 24 [.ptr i 0] τ (CQ l8 ts i τ (mn (zLs ts) ts)):=by
 refine ae Tryz.func24 k24 rfl fun hb hw=>?_;have S:=St.init hi hb;obtain⟨x,hx⟩:∃x,x=mn (zLs ts) ts:=⟨_,rfl⟩
 rw[<-hx];rw[gb (mn _ _)]at hx;have h:=xT (a:=0) H (T0 _) (τ++[]) (ah hi []);rw[TN]at h;unfold c24;simp -dsimp only[aw,seval];refine eV (aX S (T0 _) (by rw[TN];exact qD _ _) hx h (fun v a2 hx h1 h2 h3 hy σ1 S1 hl1=>?_) (fun e n b hx σ1 S1 hl1=>?_))
 case refine_2=>
  rw[<-hl1];simp -dsimp only[aw,seval];exact aS S1 hx
 rw[<-hl1];simp -dsimp only[aw,seval];exact cE S1 h2 hx rfl rfl
theorem GU(ts:List Tok)(H:TsV ts)(i:Nat)(τ:LLV)(hi:τ[i]? = some (pb ts 0)):Fun G 33 [.ptr i 0] τ (CQ vkl ts i τ (se (zLs ts) ts)):=by
 refine ae Tryz.func33 k33 rfl fun hb hw=>?_;have S:=St.init hi hb;obtain⟨x,hx⟩:∃x,x=se (zLs ts) ts:=⟨_,rfl⟩
 rw[<-hx];unfold se at hx;have h:=fun l=>yL (a:=0) H (T0 _) (τ++l) (ah hi l);rw[TN]at h;unfold c33;simp -dsimp only[aw,seval];refine aX S (T0 _) (by rw[TN];exact rt _ _) hx (h _) (fun v a2 hx h1 h2 h3 hy σ1 S1 hl1=>?_) (fun e n b hx σ1 S1 hl1=>?_)
 case refine_2=>
  rw[<-hl1];simp -dsimp only[aw,seval];exact aS S1 hx
 rw[<-hl1];simp -dsimp only[aw,seval];refine ac (jg ts a2 i _ (ah S1.at_ _)) ?_;by_cases hlt:a2<ts.length
 .simp only[isE hlt,Bool.false_eq_true,if_false]at hx;simp -dsimp only[aw,seval,decide_eq_true hlt];refine aB (jt ts a2 i H h2 _ (ah S1.at_ _)) fun o σ' ⟨e1,e2⟩=>?_;subst e1;subst e2;simp -dsimp only[aw,seval,bi];exact nU S1 hx
 .have hd:ts.drop a2=[]:=TR (by omega);rw[hd]at hx;simp only[List.isEmpty_nil,if_true]at hx;simp -dsimp only[aw,seval,decide_eq_false hlt];exact cE S1 h2 (by rw[hx,hd]) rfl (by simp[Pu,aC,aQ,aw,seval])
theorem rf(l:Bs)(σ:LLV):Fun G 9 [.d (ai (bs l))] σ (aN (d9 l8 (pM l)) σ):=by
 refine ae Tryz.func9 k9 rfl fun hb hw=>?_;have hP:=GE (fun ts=>mn (zLs ts) ts) (fun ts=>(qD _ _).ne) 24 l (fun ts H _ i τ hi=>H6 ts H i τ hi) σ;have hsz:=Af (z:=[]) (fun ts=>qD (zLs ts) ts) (by decide) l;unfold c9 pM;generalize fy [] (fun ts=>mn (zLs ts) ts) l=r at *;obtain⟨v,n,e⟩:=r;unfold d9 l8 at *;simp only at hsz hP ⊢;simp -dsimp only[aw,seval];refine ac hP ?_;by_cases he:e=0
 .have hv:=re v (by omega);rw[if_pos he];simp -dsimp only[aw,seval,decide_eq_true he];refine ac (by simpa only[gZ]using hv _) ?_;by_cases h0:g7 v=0
  .rw[if_pos h0];simp -dsimp only[aw,seval,decide_eq_true h0];exact az hb (v:=.tup [.d (.sl (v.map dit)),.d (ab 0),.d (ab 0)]) (by simp[rs9,aC,bZ,aQ,aw,seval]) rfl TL ⟨rfl,rfl⟩
  .rw[if_neg h0];simp -dsimp only[aw,seval,decide_eq_false h0];exact az hb (v:=.tup [.d (.sl []),.d (ab 0),.d (ab (g7 v))]) (by simp[rs9,aC,bZ,aQ,aw,seval]) rfl TL ⟨rfl,rfl⟩
 .rw[if_neg he];simp -dsimp only[aw,seval,decide_eq_false he];exact az hb (v:=.tup [.d (.sl []),.d (ab n),.d (ab e)]) (by simp[rs9,aC,bZ,aQ,aw,seval]) rfl TL ⟨rfl,rfl⟩
theorem qk(l:Bs)(σ:LLV):Fun G 12 [.d (ai (bs l))] σ (aN (d9 vkl (gJ l)) σ):=by
 refine ae Tryz.func12 k12 rfl fun hb hw=>?_;have hP:=fun σ=>DJ (fun ts=>se (zLs ts) ts) (fun ts=>(zV _ _).ne) 33 l (fun ts H _ i τ hi=>GU ts H i τ hi) σ;have hsz:=Af (z:=kZ) (fun ts=>zV (zLs ts) ts) (by decide) l;unfold c12 gJ;generalize fy kZ (fun ts=>se (zLs ts) ts) l=r at *;obtain⟨v,n,e⟩:=r;unfold d9 at *;simp only at hsz hP ⊢;simp -dsimp only[aw,seval];refine ac (hP _) ?_;have fin:∀(k:Kl) (n e:Int) (x:LLV) ρ,aC (σ++x) ρ BI=some (d9 vkl (k,n,e))->fin σ.length BI (aN (d9 vkl (k,n,e)) σ) .ret ρ (σ++x):=fun k n e x ρ h=>az hb h rfl TM ⟨rfl,rfl⟩;by_cases he:e=0
 .have hv:=yd v (by omega);generalize mK v=y at *;rw[if_pos he];simp -dsimp only[aw,seval,decide_eq_true he];refine ac (hv _) ?_;by_cases h0:y=0
  .rw[if_pos h0];simp -dsimp only[aw,seval,decide_eq_true h0];exact fin v 0 0 _ _ (by simp[d9,BI,aC,bZ,aQ,aw,seval])
  .rw[if_neg h0];simp -dsimp only[aw,seval,decide_eq_false h0];exact fin kZ 0 y _ _ (by simp[d9,kZ,BI,aC,bZ,aQ,aw,seval])
 .rw[if_neg he];simp -dsimp only[aw,seval,decide_eq_false he];exact fin kZ n e _ _ (by simp[d9,kZ,BI,aC,bZ,aQ,aw,seval])
def K5:Cd:=sq [oM 4 (.new 50 zz0),oI 5 0,oI 6 0] [0,1,4] (.seq (sq [oV 10 1,Wl 11 10 0,oV 12 11,oH 13 12 (.mv (.t 1)),oH 14 12 (.mv (.t 0)),oH 15 12 (zN 14),oH 16 12 (yg 13 15),ZP 17 12 16] [0,1,4,17] (.cond (.t 17) (sq [oM 18 (.bld zz0 []),oS 4 4 18,oI 5 0,oI 6 1] [4,5,6] .ret) .skip)) (sq [oV 20 0,oV 21 1,ZD 22 193 20 21,oV 19 22,ZX 23 19 0,ZX 24 19 1,ZX 25 19 2,oM 7 (.new 50 zz0),oS 4 7 23,
 oV 8 24,oV 9 25] [4,7,8,9] (.seq (sq [oV 26 9,Wn 27 26 0] [4,7,8,9,27] (.cond (.t 27) (sq [oM 28 (.bld zz0 []),oV 29 8,oV 30 9,oS 4 4 28,oV 5 29,oV 6 30] [4,5,6] (.ret)) .skip)) (sq [ZM 31 4 7,ZC 32 194 31,oV 9 32] [4,7,8,9] (.seq (sq [oV 33 9,Wn 34 33 0] [4,7,8,9,34] (.cond (.t 34) (sq [oM 35 (.bld zz0 []),oV 36 9,oS 4 4 35,oI 5 0,oV 6 36] [4,5,6] (.ret)) .skip)) (sq [ZM 37 4 7,oV 38 8,oS 4 4 37,
 oV 5 38,oI 6 0] [4,5,6] .ret))))))
def xv:List RV:=[.c 4 4 true,.t 5 false,.t 6 false]
theorem Og:aE G.tab Tryz.f136 2 K5 xv=true:=by kernel_rfl
def Lz:Cd:=sq [oM 4 (.new 50 zz0),oI 5 0,oI 6 0] [0,1,4] (sq [oV 9 0,oV 10 1,oM 11 (.bld [.nil,.d (.lit (.int .i64 0)),.d (.lit (.int .i64 0))] [(0,1,.t 9),(1,1,.t 10)]),ZB 12 222 11,oV 7 12] [4,7] (sq [oV 13 7,oM 14 (.call 233 [.t 13,.k (.d (.lit (.int .i64 1)))]),oM 8 (.new 50 zz0),oS 4 8 14] [4,7,8] (.seq (.drawg [(ZM 15 4 8,.calm 0 0),(oV 16 7,.free 0),(ZK 17 16,.free 0),(ZF 18 1 17,
 .free 0),(ZL 19 1 18,.calm 0 1),(oV 20 7,.free 0),(ZK 21 20,.free 0),(ZF 22 2 21,.free 0),(ZL 23 1 22,.calm 0 1),(oS 4 4 15,.act),(oV 5 19,.free 1),(oV 6 23,.free 1)] [4,5,6]) .ret)))
def I9:List RV:=[.c 4 4 true,.t 5 false,.t 6 false]
theorem Rm:aE G.tab Tryz.f193 2 Lz I9=true:=by kernel_rfl
def Mw:Cd:=sq [ZB 1 121 0,oM 2 (.mv kF)] [1] (.seq (sq [ZF 3 0 1,ZL 4 1 3] [1,4] (.block 0 (sq [We 6 4 1,oV 5 6] [1,4,5] (.cond (.t 5) (sq [ZF 7 2 1,ZL 8 1 7,ZC 9 142 8,oV 10 9,oG 11 10 (zF 1 1),oG 12 10 (zL 1 11),oG 13 10 (we 12 0),ZQ 14 10 13,oV 2 14] [2] .ret) (sq [We 16 4 2,oV 15 16] [1,4,15] (.cond (.t 15) (.seq (.ops [ZF 17 2 1,ZL 18 1 17,ZC 19 188 18,oV 20 19,oG 21 20 (zF 1 1),
 oG 22 20 (zL 1 21),oG 23 20 (we 22 0),ZQ 24 20 23,oV 2 24] [2]) .ret) (sq [We 26 4 3,oV 25 26] [1,4,25] (.cond (.t 25) (.seq (.draw [ZF 27 1 1,ZL 28 1 27,Wh 29 28 0,oV 30 29,oG 31 30 (zF 1 1),oG 32 30 (zL 1 31),oG 33 30 (wl 32 2147483648),ZQ 34 30 33,oV 35 34,oG 36 35 (zF 2 1),oG 37 35 (zL 1 36),oG 38 35 (zF 1 1),oG 39 35 (zL 1 38),oG 40 35 (zC 291 39),oG 41 35 (ye 37 40),ZQ 42 35 41,
 oV 2 42] [2]) .ret) (sq [We 44 4 4,oV 43 44] [1,43] (.cond (.t 43) (sq [ZF 45 2 1,ZL 46 1 45,ZC 47 324 46,oV 48 47,oG 49 48 (zF 1 1),oG 50 48 (zL 1 49),oG 51 48 (we 50 0),ZQ 52 48 51,oV 2 52] [2] .ret) .skip)))))))))) (sq [oM 2 (.mv kF)] [2] .ret))
def NI:List RV:=[.t 2 false]
theorem Rz:aE G.tab Tryz.f313 1 Mw NI=true:=by kernel_rfl
def c233:Cd:=sq [oM 4 (.new 50 zz0)] [0,1,4] (.seq (sq [oV 14 1,We 15 14 14] [0,1,4,15] (.cond (.t 15) (sq [oV 16 0,ZC 17 259 16,oS 4 4 17] [4] .ret) .skip)) (.seq (sq [oV 18 1,We 19 18 13] [0,1,4,19] (.cond (.t 19) (.seq (sq [oI 5 4] [0,4,5] (.block 0 (.loop (.seq (sq [oV 20 5,Wq 21 20 6] [0,4,5,21] (.cond (.t 21) .skip (.exit 0))) (.seq (.block 1 (sq [oV 24 0,oV 25 5,ZC 26 261 25,
 ZD 27 260 24 26] [0,4,5,27] (.cond (.t 27) (sq [oV 28 0,ZK 29 28,ZF 30 1 29,ZL 31 1 30,Wa 32 31 1,ZK 33 28,ZF 34 1 33,oS 1 34 32] [0,4,5] (sq [oV 35 0,oM 36 (.call 233 [.t 35,.k (.d (.lit (.int .i64 13)))]),oM 6 (.new 50 zz0),oS 4 6 36] [4,5,6] (sq [oV 37 5,ZM 38 4 6,oM 39 (.mks 50 4 [.t 38]),oM 40 (.bld zz0 [(0,1,.t 37),(3,1,.t 39)]),oS 4 4 40] [4] (.ret)))) .skip))) (.ops [oV 22 5,Wa 23 22 1,
 oV 5 23] [0,4,5])))))) (sq [oV 41 0,ZC 42 259 41,oS 4 4 42] [4] .ret)) .skip)) (sq [oV 43 0,oV 44 1,Wa 45 44 1,ZD 46 233 43 45,oM 7 (.new 50 zz0),oS 4 7 46] [0,1,4,7] (.seq (sq [oV 47 1,We 48 47 1,oV 49 48,oG 50 49 (.mv (.t 0)),⟨some 51,.call 260 [.t 50,.k (.d (.lit (.string ⟨#[63]⟩)))],(some (49,true))⟩,ZQ 52 49 51] [0,1,4,7,52] (.cond (.t 52) (sq [oV 53 0,ZK 54 53,ZF 55 1 54,ZL 56 1 55,
 Wa 57 56 1,ZK 58 53,ZF 59 1 58,oS 1 59 57] [0,4,7] (sq [oV 60 0,oM 61 (.call 233 [.t 60,.k (.d (.lit (.int .i64 1)))]),oM 8 (.new 50 zz0),oS 4 8 61] [0,4,7,8] (sq [oV 62 0,oM 63 (.call 262 [.t 62,.k (.d (.lit (.string ⟨#[58]⟩)))])] [0,4,7,8] (sq [oV 64 0,oM 65 (.call 233 [.t 64,.k (.d (.lit (.int .i64 1)))]),oM 9 (.new 50 zz0),oS 4 9 65] [4,7,8,9] (sq [ZM 66 4 7,ZM 67 4 8,ZM 68 4 9,
 oM 69 (.mks 50 4 [.t 66,.t 67,.t 68]),oM 70 (.bld zz0 [(0,1,.k (.d (.lit (.int .i64 22)))),(3,1,.t 69)]),oS 4 4 70] [4] .ret))))) .skip)) (.seq (sq [oV 71 1,We 72 71 2,oV 73 72,oG 74 73 (.mv (.t 0)),⟨some 75,.call 260 [.t 74,.k (.d (.lit (.string ⟨#[61,62]⟩)))],(some (73,true))⟩,ZQ 76 73 75] [0,1,4,7,76] (.cond (.t 76) (sq [oV 77 0,ZK 78 77,ZF 79 1 78,ZL 80 1 79,Wa 81 80 1,ZK 82 77,ZF 83 1 82,
 oS 1 83 81] [0,4,7] (sq [oV 84 0,oM 85 (.call 233 [.t 84,.k (.d (.lit (.int .i64 2)))]),oM 10 (.new 50 zz0),oS 4 10 85] [4,7,10] (sq [ZM 86 4 7,ZM 87 4 10,oM 88 (.mks 50 4 [.t 86,.t 87]),oM 89 (.bld zz0 [(0,1,.k (.d (.lit (.int .i64 21)))),(3,1,.t 88)]),oS 4 4 89] [4] .ret))) .skip)) (.seq (.block 2 (.loop (.seq (sq [oV 90 1,Wg 91 90 2] [0,1,4,7,
 91] (.cond (.t 91) .skip (.exit 2))) (.block 3 (.seq (sq [oV 92 1,We 93 92 9,oV 94 93,oG 95 94 (.mv (.t 0)),⟨some 96,.call 260 [.t 95,.k (.d (.lit (.string ⟨#[105,110,115,105,100,101]⟩)))],(some (94,true))⟩,ZQ 97 94 96] [0,1,4,7,97] (.cond (.t 97) (sq [oV 98 0,ZK 99 98,ZF 100 1 99,ZL 101 1 100,Wa 102 101 1,ZK 103 98,ZF 104 1 103,oS 1 104 102] [0,1,4,7] (sq [oV 105 0,ZM 106 4 7,ZD 107 263 105 106,
 oS 4 7 107] [0,1,4,7] (.exit 3))) .skip)) (sq [oV 109 0,oV 110 1,ZD 111 264 109 110,oV 108 111,ZX 112 108 0,ZX 113 108 1,oV 11 112,oV 12 113] [0,1,4,7,11,12] (.seq (sq [oV 114 11,We 115 114 0] [0,1,4,7,11,12,115] (.cond (.t 115) (sq [ZM 116 4 7,oS 4 4 116] [4] .ret) (.skip))) (sq [oV 117 0,ZK 118 117,ZF 119 1 118,ZL 120 1 119,Wa 121 120 1,ZK 122 117,ZF 123 1 122,oS 1 123 121] [0,1,4,7,11,
 12] (sq [oV 124 0,oV 125 1,Wa 126 125 1,ZD 127 233 124 126,oM 13 (.new 50 zz0),oS 4 13 127] [0,1,4,7,11,12,13] (sq [oV 128 12] [0,1,4,7,11,13,128] (.cond (.t 128) (.ops [oV 129 11,ZM 130 4 13,ZM 131 4 7,oM 132 (.mks 50 4 [.t 130,.t 131]),oM 133 (.bld zz0 [(0,1,.t 129),(3,1,.t 132)]),oS 4 7 133] [0,1,4,7]) (.ops [oV 134 11,ZM 135 4 7,ZM 136 4 13,oM 137 (.mks 50 4 [.t 135,.t 136]),
 oM 138 (.bld zz0 [(0,1,.t 134),(3,1,.t 137)]),oS 4 7 138] [0,1,4,7])))))))))))) (sq [ZM 139 4 7,oS 4 4 139] [4] .ret)))))))
def m9:List RV:=[.c 4 4 true]
theorem Li:aE G.tab Tryz.f233 2 c233 m9=true:=by kernel_rfl
def NF:Cd:=sq [oM 2 (.new 50 zz0)] [0,2] (.seq (sq [oV 10 0,ZC 11 288 10,We 12 11 3] [0,2,12] (.cond (.t 12) (sq [oV 13 0,ZC 14 289 13,oV 3 14] [2,3] (sq [oV 15 3,oM 16 (.bld zz0 [(0,1,.k (.d (.lit (.int .i64 1)))),(1,1,.t 15)]),oS 4 2 16] [2] .ret)) .skip)) (.seq (sq [oV 17 0,oM 18 (.call 260 [.t 17,.k (.d (.lit (.string ⟨#[40]⟩)))])] [0,2,18] (.cond (.t 18) (sq [oV 19 0,ZK 20 19,ZF 21 1 20,
 ZL 22 1 21,Wa 23 22 1,ZK 24 19,ZF 25 1 24,oS 1 25 23] [0,2] (sq [oV 26 0,oM 27 (.call 233 [.t 26,.k (.d (.lit (.int .i64 1)))]),oM 4 (.new 50 zz0),oS 4 4 27] [0,2,4] (sq [oV 28 0,oM 29 (.call 262 [.t 28,.k (.d (.lit (.string ⟨#[41]⟩)))])] [2,4] (sq [ZM 30 4 4,oS 4 2 30] [2] .ret)))) .skip)) (.seq (.ops [oV 31 0,ZC 32 290 31,oV 5 32] [0,2,5]) (.seq (sq [oV 33 5,oM 34 (.bin .eql (.t 33) (kS ⟨#[115,
 117,109]⟩)),oV 35 34,oH 36 35 (.mv (.t 5)),oH 37 35 (.bin .eql (.t 36) (kS ⟨#[111,110,101,115]⟩)),ZP 38 35 37,oV 39 38,oG 40 39 (.mv (.t 0)),⟨some 41,.call 260 [.t 40,.k (.d (.lit (.string ⟨#[40]⟩)))],(some (39,true))⟩,ZQ 42 39 41] [0,2,5,42] (.cond (.t 42) (sq [oV 43 0,ZK 44 43,ZF 45 1 44,ZL 46 1 45,Wa 47 46 1,ZK 48 43,ZF 49 1 48,oS 1 49 47] [0,2,5] (sq [oM 50 (.bld zz0 [(0,1,
 .k (.d (.lit (.int .i64 24))))]),oM 6 (.new 50 zz0),oS 4 6 50] [0,2,5,6] (.seq (sq [oV 51 5,oM 52 (.bin .eql (.t 51) (kS ⟨#[115,117,109]⟩))] [0,2,6,52] (.cond (.t 52) (.ops [oV 53 0,ZC 54 290 53,ZF 55 2 6,oS 1 55 54] [0,2,6]) (sq [oV 56 0,oM 57 (.call 233 [.t 56,.k (.d (.lit (.int .i64 1)))]),oM 7 (.new 50 zz0),oS 4 7 57] [0,2,6,7] (.ops [ZM 58 4 7,oM 59 (.mks 50 4 [.t 58]),oM 60 (.bld zz0 [(0,1,
 .k (.d (.lit (.int .i64 25)))),(3,1,.t 59)]),oS 4 6 60] [0,2,6])))) (sq [oV 61 0,oM 62 (.call 262 [.t 61,.k (.d (.lit (.string ⟨#[41]⟩)))])] [2,6] (sq [ZM 63 4 6,oS 4 2 63] [2] (.ret)))))) .skip)) (.seq (sq [oV 64 0,oM 65 (.call 260 [.t 64,.k (.d (.lit (.string ⟨#[91]⟩)))])] [0,2,5,65] (.cond (.t 65) (sq [oV 66 0,ZK 67 66,ZF 68 1 67,ZL 69 1 68,Wa 70 69 1,ZK 71 66,ZF 72 1 71,oS 1 72 70] [0,2,
 5] (sq [oV 73 0,oM 74 (.call 233 [.t 73,.k (.d (.lit (.int .i64 1)))]),oM 8 (.new 50 zz0),oS 4 8 74] [0,2,5,8] (sq [oV 75 0,oM 76 (.call 262 [.t 75,.k (.d (.lit (.string ⟨#[93]⟩)))])] [2,5,8] (sq [oV 77 5,ZM 78 4 8,oM 79 (.mks 50 4 [.t 78]),oM 80 (.bld zz0 [(0,1,.k (.d (.lit (.int .i64 3)))),(2,1,.t 77),(3,1,.t 79)]),oS 4 2 80] [2] .ret)))) .skip)) (.seq (sq [oV 81 0,oM 82 (.call 260 [.t 81,
 .k (.d (.lit (.string ⟨#[64]⟩)))])] [0,2,5,82] (.cond (.t 82) (sq [oV 83 0,ZK 84 83,ZF 85 1 84,ZL 86 1 85,Wa 87 86 1,ZK 88 83,ZF 89 1 88,oS 1 89 87] [0,2,5] (sq [oV 90 0,ZC 91 289 90,oV 9 91] [2,5,9] (sq [oV 92 5,oM 93 (.bin .add (.t 92) (kS ⟨#[91]⟩)),oV 94 9,ZC 95 291 94,Ya 96 93 95,oM 97 (.bin .add (.t 96) (kS ⟨#[93]⟩)),oM 98 (.bld zz0 [(0,1,.k (.d (.lit (.int .i64 2)))),(2,1,.t 97)]),
 oS 4 2 98] [2] (.ret)))) .skip)) (sq [oV 99 5,oM 100 (.bld zz0 [(0,1,.k (.d (.lit (.int .i64 2)))),(2,1,.t 99)]),oS 4 2 100] [2] (.ret))))))))
def o9:List RV:=[.c 2 4 true]
theorem Tl:aE G.tab Tryz.f259 1 NF o9=true:=by kernel_rfl
def MS:Cd:=sq [oM 4 (.mv kF)] [0,1] (sq [oV 6 0,ZC 7 288 6,oV 5 7] [0,1,5] (.seq (.draw [oV 8 5,We 9 8 4,oV 10 9,oH 11 10 (.mv (.t 5)),oH 12 10 (we 11 2),ZP 13 10 12,oV 14 13,oG 15 14 (.mv (.t 0)),oG 16 14 (zK 15),oG 17 14 (zF 0 16),oG 18 14 (zL 1 17),oG 19 14 (.mv (.t 0)),oG 20 14 (zK 19),oG 21 14 (zF 1 20),oG 22 14 (zL 1 21),oG 23 14 (zI 4 18 22),oG 24 14 (zF 2 23),oG 25 14 (zL 1 24),
 oG 26 14 (.mv (.t 1)),oG 27 14 (ye 25 26),ZQ 28 14 27,oV 4 28] [4]) .ret))
def NL:List RV:=[.t 4 false]
theorem SO:aE G.tab Tryz.f260 2 MS NL=true:=by kernel_rfl
def PL:Cd:=.seq (sq [oV 4 0,oV 5 1,ZD 6 260 4 5,ZU 7 6] [0,7] (.cond (.t 7) (sq [oV 8 0,ZC 9 292 8] [] .ret) .skip)) (.ops [oV 10 0,ZK 11 10,ZF 12 1 11,ZL 13 1 12,Wa 14 13 1,ZK 15 10,ZF 16 1 15,oS 1 16 14] [])
def Lr:List RV:=[]
theorem RH:aE G.tab Tryz.f262 2 PL Lr=true:=by kernel_rfl
def Ly:Cd:=sq [ZB 3 50 1,oM 4 (.new 50 zz0)] [0,3,4] (sq [ZM 8 4 3,oM 9 (.mkso 50 4 [.t 8]),oM 5 (.mvo 9)] [0,4,5] (sq [oV 10 0,oM 11 (.call 262 [.t 10,.k (.d (.lit (.string ⟨#[123]⟩)))])] [0,4,5] (.seq (.block 0 (.loop (.seq (sq [oV 12 0,ZK 13 12,ZF 14 2 13,ZL 15 1 14,We 16 15 0] [0,4,5,16] (.cond (.t 16) .skip (.exit 0))) (.block 1 (sq [oV 17 0,oM 18 (.call 233 [.t 17,
 .k (.d (.lit (.int .i64 1)))]),oM 6 (.new 50 zz0),oS 4 6 18] [0,4,5,6] (sq [oV 19 0,oM 20 (.call 262 [.t 19,.k (.d (.lit (.string ⟨#[46,46]⟩)))])] [0,4,5,6] (sq [oV 21 0,oM 22 (.call 233 [.t 21,.k (.d (.lit (.int .i64 1)))]),oM 7 (.new 50 zz0),oS 4 7 22] [0,4,5,6,7] (sq [oM 23 (.mvo 5),ZM 24 4 6,ZM 25 4 7,oM 26 (.mks 50 4 [.t 24,.t 25]),oM 27 (.app 50 4 56 23 (.t 26)),oM 5 (.mvo 27)] [0,4,
 5] (.seq (sq [oV 28 0,oM 29 (.call 260 [.t 28,.k (.d (.lit (.string ⟨#[44]⟩)))]),ZU 30 29] [0,4,5,30] (.cond (.t 30) (.exit 0) .skip)) (.ops [oV 31 0,ZK 32 31,ZF 33 1 32,ZL 34 1 33,Wa 35 34 1,ZK 36 31,ZF 37 1 36,oS 1 37 35] [0,4,5])))))))))) (sq [oV 38 0,oM 39 (.call 262 [.t 38,.k (.d (.lit (.string ⟨#[125]⟩)))])] [4,5] (sq [oV 40 5,oM 41 (.bld zz0 [(0,1,.k (.d (.lit (.int .i64 23)))),(3,1,
 .t 40)]),oS 4 4 41] [4] (.ret))))))
def Fv:List RV:=[.c 4 4 true]
theorem Ra:aE G.tab Tryz.f263 2 Ly Fv=true:=by kernel_rfl
def LF:Cd:=sq [oI 4 0,oM 5 (.mv kF)] [0,1] (.seq (sq [oV 9 1,We 10 9 9,oV 11 10,oG 12 11 (.mv (.t 0)),⟨some 13,.call 260 [.t 12,.k (.d (.lit (.string ⟨#[62]⟩)))],(some (11,true))⟩,ZQ 14 11 13] [0,1,14] (.cond (.t 14) (sq [oI 4 17,oM 5 (.mv kT)] [4,5] .ret) .skip)) (.seq (sq [oV 15 1,We 16 15 9,oV 17 16,oG 18 17 (.mv (.t 0)),⟨some 19,.call 260 [.t 18,.k (.d (.lit (.string ⟨#[62,61]⟩)))],
 (some (17,true))⟩,ZQ 20 17 19] [0,1,20] (.cond (.t 20) (sq [oI 4 18,oM 5 (.mv kT)] [4,5] .ret) .skip)) (.seq (sq [oI 6 7] [0,1,6] (.block 0 (.loop (.seq (sq [oV 21 6,Wq 22 21 20] [0,1,6,22] (.cond (.t 22) .skip (.exit 0))) (.seq (.block 1 (sq [oV 26 6,ZC 27 293 26,oV 25 27,ZX 28 25 0,ZX 29 25 1,oV 7 28,oV 8 29] [0,1,6,7,8] (.seq (.ops [oV 30 8,oV 31 1,Ye 32 30 31,oV 33 32,oG 34 33 (.mv (.t 0)),
 oG 35 33 (.mv (.t 7)),oG 36 33 (zD 260 34 35),ZQ 37 33 36] [0,1,6,37]) (.cond (.t 37) (sq [oV 38 6,oV 4 38,oM 5 (.mv kF)] [4,5] .ret) .skip)))) (.ops [oV 23 6,Wa 24 23 1,oV 6 24] [0,1,6])))))) (sq [oI 4 0,oM 5 (.mv kF)] [4,5] .ret))))
def P5:List RV:=[.t 4 false,.t 5 false]
theorem SM:aE G.tab Tryz.f264 2 LF P5=true:=by kernel_rfl
def Mz:Cd:=sq [oI 2 0] [0] (.seq (.seq (.draw [oV 3 0,ZK 4 3,ZF 5 2 4,ZL 6 1 5,Wn 7 6 0,oV 8 7,oH 9 8 (.mv (.t 0)),oH 10 8 (zK 9),oH 11 8 (zF 1 10),oH 12 8 (zL 1 11),oH 13 8 (.mv (.t 0)),oH 14 8 (zK 13),oH 15 8 (zF 0 14),oH 16 8 (zL 1 15),oH 17 8 (zN 16),oH 18 8 (yh 12 17),ZP 19 8 18,oV 20 19,oH 21 20 (.mv (.t 0)),oH 22 20 (zK 21),oH 23 20 (zF 0 22),oH 24 20 (zL 1 23),oH 25 20 (.mv (.t 0)),
 oH 26 20 (zK 25),oH 27 20 (zF 1 26),oH 28 20 (zL 1 27),oH 29 20 (zI 4 24 28),oH 30 20 (zM 4 29),oH 31 20 (zC 313 30),oH 32 20 (zU 31),ZP 33 20 32] [0,33]) (.cond (.t 33) (sq [oI 2 0] [2] .ret) .skip)) (.seq (.draw [oV 34 0,ZK 35 34,ZF 36 0 35,ZL 37 1 36,oV 38 0,ZK 39 38,ZF 40 1 39,ZL 41 1 40,ZI 42 4 37 41,ZF 43 0 42,ZL 44 1 43,oV 2 44] [2]) .ret))
def Nj:List RV:=[.t 2 false]
theorem Q3:aE G.tab Tryz.f288 1 Mz Nj=true:=by kernel_rfl
def NK:Cd:=sq [oI 2 0] [0] (.seq (sq [oV 4 0,ZC 5 288 4,Wn 6 5 3] [0,6] (.cond (.t 6) (sq [oV 7 0,ZC 8 292 7] [] (sq [oI 2 0] [2] .ret)) .skip)) (.seq (.draw [oV 9 0,ZK 10 9,ZF 11 0 10,ZL 12 1 11,oV 13 0,ZK 14 13,ZF 15 1 14,ZL 16 1 15,ZI 17 4 12 16,ZF 18 1 17,ZL 19 1 18,oV 3 19] [0,3]) (.seq (sq [oV 20 3,Wg 21 20 65535] [0,3,21] (.cond (.t 21) (sq [oV 22 0,ZK 23 22,ZF 24 2 23,⟨none,
 .sto 1 (.t 24) (kI 3),none⟩] [] (sq [oI 2 0] [2] .ret)) .skip)) (sq [oV 25 0,ZK 26 25,ZF 27 1 26,ZL 28 1 27,Wa 29 28 1,ZK 30 25,ZF 31 1 30,oS 1 31 29] [3] (sq [oV 32 3,oV 2 32] [2] .ret)))))
def Qn:List RV:=[.t 2 false]
theorem Ru:aE G.tab Tryz.f289 1 NK Qn=true:=by kernel_rfl
def L5:Cd:=sq [oM 2 (.mv (kS ⟨#[]⟩))] [0] (.seq (sq [oV 3 0,ZC 4 288 3,Wn 5 4 1] [0,5] (.cond (.t 5) (sq [oV 6 0,ZC 7 292 6] [] (sq [oM 2 (.mv (kS ⟨#[]⟩))] [2] .ret)) .skip)) (sq [oV 8 0,ZK 9 8,ZF 10 1 9,ZL 11 1 10,Wa 12 11 1,ZK 13 8,ZF 14 1 13,oS 1 14 12] [0] (.seq (.draw [oV 15 0,ZK 16 15,ZF 17 0 16,ZL 18 1 17,oV 19 0,ZK 20 19,ZF 21 1 20,ZL 22 1 21,Ws 23 22 1,ZI 24 4 18 23,ZF 25 2 24,
 ZL 26 1 25,oV 2 26] [2]) .ret)))
def PV:List RV:=[.t 2 false]
theorem SQ:aE G.tab Tryz.f290 1 L5 PV=true:=by kernel_rfl
def Pk:Cd:=.seq (sq [oV 2 0,ZK 3 2,ZF 4 2 3,ZL 5 1 4,Wn 6 5 0] [0,6] (.cond (.t 6) .ret .skip)) (sq [oV 7 0,ZK 8 7,ZF 9 2 8,⟨none,.sto 1 (.t 9) (kI 5),none⟩] [0] (.seq (.draw [oV 10 0,ZK 11 10,ZF 12 1 11,ZL 13 1 12,oV 14 0,ZK 15 14,ZF 16 0 15,ZL 17 1 16,ZN 18 17,Ye 19 13 18] [0,19]) (.cond (.t 19) (.ops [oV 20 0,ZK 21 20,ZF 22 2 21,⟨none,.sto 1 (.t 22) (kI 6),none⟩] []) .skip)))
def Nh:List RV:=[]
theorem R2:aE G.tab Tryz.f292 1 Pk Nh=true:=by kernel_rfl
def c13:Cd:=sq [oM 2 (.new 32 zz5),oI 3 0,oI 4 0] [0,2] (sq [oV 8 0,ZC 9 28 8,oV 5 9] [2,5] (sq [oV 10 5,ZC 11 38 10,oM 6 (.new 32 zz5),oS 4 6 11] [2,5,6] (.seq (.seq (.draw [oV 12 5,ZK 13 12,ZF 14 3 13,ZL 15 1 14,We 16 15 0,oV 17 16,oG 18 17 (.mv (.t 5)),oG 19 17 (zK 18),oG 20 17 (zF 1 19),oG 21 17 (zL 1 20),oG 22 17 (.mv (.t 5)),oG 23 17 (zK 22),oG 24 17 (zF 0 23),oG 25 17 (zL 1 24),
 oG 26 17 (zN 25),oG 27 17 (yl 21 26),ZQ 28 17 27] [2,5,6,28]) (.cond (.t 28) (.ops [oV 29 5,ZC 30 39 29] [2,5,6]) .skip)) (.seq (sq [oV 31 5,ZK 32 31,ZF 33 3 32,ZL 34 1 33,Wn 35 34 0] [2,5,6,35] (.cond (.t 35) (.seq (.drawg [(oM 36 (.bld zz5 []),.free 0),(oV 37 5,.free 0),(ZK 38 37,.free 0),(ZF 39 2 38,.free 0),(ZL 40 1 39,.calm 0 1),(oV 41 5,.free 0),(ZK 42 41,.free 0),(ZF 43 3 42,.free 0),
 (ZL 44 1 43,.calm 0 1),(oS 4 2 36,.act),(oV 3 40,.free 1),(oV 4 44,.free 1)] [2,3,4]) .ret) .skip)) (sq [ZM 45 4 6,ZC 46 40 45,oV 7 46] [2,6,7] (.seq (sq [oV 47 7,Wn 48 47 0] [2,6,7,48] (.cond (.t 48) (sq [oM 49 (.bld zz5 []),oV 50 7,oS 4 2 49,oI 3 0,oV 4 50] [2,3,4] .ret) (.skip))) (sq [ZM 51 4 6,oS 4 2 51,oI 3 0,oI 4 0] [2,3,4] .ret)))))))
def zp:List RV:=[.c 2 4 true,.t 3 false,.t 4 false]
theorem k13:aE G.tab Tryz.f13 1 c13 zp=true:=by kernel_rfl
def c28:Cd:=sq [oM 2 (.mv (.k (.d (.lit (.pointer none)))))] [0] (sq [oV 7 0,ZC 8 69 7,oV 6 8,ZX 9 6 0,ZX 10 6 1,ZX 11 6 2,oV 3 9,oV 4 10,oV 5 11] [3,4,5] (sq [oV 12 3,oV 13 4,oV 14 5,oM 15 (.bld [.nil,.d (.lit (.int .i64 0)),.d (.lit (.int .i64 0)),.d (.lit (.int .i64 0))] [(0,1,.t 12),(2,1,.t 13),(3,1,.t 14)]),ZB 16 67 15,oV 2 16] [2] .ret))
def KR:List RV:=[.t 2 false]
theorem k28:aE G.tab Tryz.f28 1 c28 KR=true:=by kernel_rfl
def c40:Cd:=sq [ZB 1 32 0,oI 2 0] [1] (sq [ZM 5 4 1,ZC 6 90 5,oV 3 6] [1,3] (.seq (sq [oI 4 0] [1,3,4] (.block 0 (.loop (.seq (sq [oV 7 4,ZF 8 3 1,ZL 9 1 8,ZN 10 9,Yl 11 7 10,oV 12 11,oG 13 12 (.mv (.t 3)),oG 14 12 (we 13 0),ZQ 15 12 14] [1,3,4,15] (.cond (.t 15) .skip (.exit 0))) (.seq (.block 1 (.ops [ZF 18 3 1,ZL 19 1 18,oV 20 4,ZI 21 2 19 20,ZF 22 1 21,ZL 23 1 22,ZC 24 30 23,oV 3 24] [1,3,
 4])) (.ops [oV 16 4,Wa 17 16 1,oV 4 17] [1,3,4])))))) (sq [oV 25 3,oV 2 25] [2] .ret)))
def Ry:List RV:=[.t 2 false]
theorem k40:aE G.tab Tryz.f40 1 c40 Ry=true:=by kernel_rfl
def c29:Cd:=sq [oM 2 (.new 54 zz1)] [0,2] (sq [oM 4 (.bld zz1 []),oM 3 (.new 54 zz1),oS 12 3 4] [0,2,3] (.seq (sq [oV 5 0,oM 6 (.call 70 [.t 5,.k (.d (.lit (.string ⟨#[100,105,115,116]⟩)))])] [0,2,3,6] (.cond (.t 6) (sq [oV 7 0,ZC 8 71 7,oS 12 2 8] [2] .ret) .skip)) (.seq (sq [oV 9 0,oM 10 (.call 70 [.t 9,.k (.d (.lit (.string ⟨#[105,102]⟩)))])] [0,2,3,10] (.cond (.t 10) (sq [ZF 11 0 3,⟨none,
 .sto 1 (.t 11) (kI 4),none⟩] [0,2,3] (sq [oV 12 0,oM 13 (.call 72 [.t 12,.k (.d (.lit (.string ⟨#[40]⟩)))])] [0,2,3] (sq [oV 14 0,ZC 15 73 14,ZF 16 1 3,oS 4 16 15] [0,2,3] (sq [oV 17 0,oM 18 (.call 72 [.t 17,.k (.d (.lit (.string ⟨#[41]⟩)))])] [0,2,3] (sq [oV 19 0,ZC 20 74 19,ZF 21 8 3,oS 1 21 20] [0,2,3] (.seq (sq [oV 22 0,oM 23 (.call 70 [.t 22,.k (.d (.lit (.string ⟨#[101,108,115,
 101]⟩)))])] [0,2,3,23] (.cond (.t 23) (.ops [oV 24 0,ZC 25 74 24,ZF 26 9 3,oS 1 26 25] [2,3]) .skip)) (sq [ZM 27 12 3,oS 12 2 27] [2] .ret))))))) (.skip))) (.seq (sq [oV 28 0,oM 29 (.call 70 [.t 28,.k (.d (.lit (.string ⟨#[101,97,99,104]⟩)))])] [0,2,3,29] (.cond (.t 29) (sq [ZF 30 0 3,⟨none,.sto 1 (.t 30) (kI 5),none⟩] [0,2,3] (sq [oV 31 0,ZC 32 75 31,ZF 33 6 3,oS 1 33 32] [0,2,3] (sq [oV 34 0,
 oM 35 (.call 72 [.t 34,.k (.d (.lit (.string ⟨#[105,110]⟩)))])] [0,2,3] (sq [oV 36 0,ZC 37 75 36,ZF 38 5 3,oS 1 38 37] [0,2,3] (sq [oV 39 0,ZC 40 74 39,ZF 41 8 3,oS 1 41 40] [2,3] (sq [ZM 42 12 3,oS 12 2 42] [2] .ret)))))) .skip)) (sq [ZF 43 0 3,⟨none,.sto 1 (.t 43) (kI 1),none⟩] [0,2,3] (.seq (sq [oV 44 0,oM 45 (.call 70 [.t 44,.k (.d (.lit (.string ⟨#[115,111,108,118,101]⟩)))])] [0,2,3,
 45] (.cond (.t 45) (sq [ZF 46 0 3,⟨none,.sto 1 (.t 46) (kI 6),none⟩] [0,2,3] (sq [oV 47 0,ZC 48 76 47,ZF 49 10 3,oS 1 49 48] [0,2,3] (sq [oV 50 0,oM 51 (.call 72 [.t 50,.k (.d (.lit (.string ⟨#[98,101,102,111,114,101]⟩)))])] [0,2,3] (.ops [oV 52 0,ZC 53 76 52,ZF 54 11 3,oS 1 54 53] [0,2,3])))) (.seq (sq [oV 55 0,oM 56 (.call 70 [.t 55,.k (.d (.lit (.string ⟨#[115,111,102,116]⟩)))])] [0,2,3,
 56] (.cond (.t 56) (.ops [ZF 57 0 3,⟨none,.sto 1 (.t 57) (kI 2),none⟩] [0,2,3]) .skip)) (.ops [oV 58 0,ZC 59 73 58,ZF 60 1 3,oS 4 60 59] [0,2,3])))) (sq [oV 61 0,oM 62 (.call 72 [.t 61,.k (.d (.lit (.string ⟨#[59]⟩)))])] [2,3] (sq [ZM 63 12 3,oS 12 2 63] [2] .ret))))))))
def wN:List RV:=[.c 2 12 true]
theorem k29:aE G.tab Tryz.f29 1 c29 wN=true:=by kernel_rfl
def c38:Cd:=sq [oM 2 (.new 32 zz5)] [0,2] (sq [oM 6 (.bld zz5 []),oM 3 (.new 32 zz5),oS 4 3 6] [0,2,3] (sq [oV 7 0,oM 8 (.call 72 [.t 7,.k (.d (.lit (.string ⟨#[99,108,97,115,115]⟩)))])] [0,2,3] (sq [oV 9 0,ZC 10 75 9,ZF 11 0 3,oS 1 11 10] [0,2,3] (.seq (sq [oV 12 0,oM 13 (.call 70 [.t 12,.k (.d (.lit (.string ⟨#[101,120,116,101,110,100,115]⟩)))])] [0,2,3,13] (.cond (.t 13) (.ops [oV 14 0,
 ZC 15 75 14,ZF 16 1 3,oS 1 16 15] [0,2,3]) .skip)) (sq [oV 17 0,oM 18 (.call 72 [.t 17,.k (.d (.lit (.string ⟨#[123]⟩)))])] [0,2,3] (.seq (sq [oM 4 (.mv kT)] [0,2,3,4] (.block 0 (.loop (.seq (sq [oV 19 4,oV 20 19,oG 21 20 (.mv (.t 0)),oG 22 20 (zK 21),oG 23 20 (zF 3 22),oG 24 20 (zL 1 23),oG 25 20 (we 24 0),ZQ 26 20 25] [0,2,3,4,26] (.cond (.t 26) .skip (.exit 0))) (.block 1 (sq [oV 27 0,
 oM 28 (.call 70 [.t 27,.k (.d (.lit (.string ⟨#[114,97,110,100]⟩)))])] [0,2,3,4,28] (.cond (.t 28) (.raw [ZF 29 2 3,oM 30 (.ldo (.t 29)),oV 31 0,oM 32 (.call 88 [.t 31,.k (.d (.lit (.int .i64 1)))]),oM 33 (.mks 74 5 [.t 32]),oM 34 (.app 74 5 48 30 (.t 33)),ZF 35 2 3,⟨none,.stoo (.t 35) 34,none⟩] [[],[0],[],[2],[3],[1,4,3],[0,1,2,3,4,5],[6,5,5,0,1,2,3,4,5]] [0,2,3,4]) (sq [oV 36 0,
 oM 37 (.call 70 [.t 36,.k (.d (.lit (.string ⟨#[114,97,110,100,99]⟩)))])] [0,2,3,4,37] (.cond (.t 37) (.raw [ZF 38 2 3,oM 39 (.ldo (.t 38)),oV 40 0,oM 41 (.call 88 [.t 40,.k (.d (.lit (.int .i64 2)))]),oM 42 (.mks 74 5 [.t 41]),oM 43 (.app 74 5 48 39 (.t 42)),ZF 44 2 3,⟨none,.stoo (.t 44) 43,none⟩] [[],[0],[],[2],[3],[1,4,3],[0,1,2,3,4,5],[6,5,5,0,1,2,3,4,5]] [0,2,3,4]) (sq [oV 45 0,
 oM 46 (.call 70 [.t 45,.k (.d (.lit (.string ⟨#[115,116,97,116,101]⟩)))])] [0,2,3,4,46] (.cond (.t 46) (.raw [ZF 47 2 3,oM 48 (.ldo (.t 47)),oV 49 0,oM 50 (.call 88 [.t 49,.k (.d (.lit (.int .i64 0)))]),oM 51 (.mks 74 5 [.t 50]),oM 52 (.app 74 5 48 48 (.t 51)),ZF 53 2 3,⟨none,.stoo (.t 53) 52,none⟩] [[],[0],[],[2],[3],[1,4,3],[0,1,2,3,4,5],[6,5,5,0,1,2,3,4,5]] [0,2,3,4]) (.ops [oM 4 (.mv kF)] [0,
 2,3,4])))))))))))) (.seq (.block 2 (.loop (.seq (sq [oV 54 0,oM 55 (.call 70 [.t 54,.k (.d (.lit (.string ⟨#[99,111,110,115,116,114,97,105,110,116]⟩)))])] [0,2,3,55] (.cond (.t 55) .skip (.exit 2))) (.block 3 (sq [oM 56 (.bld zz9 []),oM 5 (.new 46 zz9),oS 2 5 56] [0,2,3,5] (sq [oV 57 0,ZC 58 75 57,ZF 59 0 5,oS 1 59 58] [0,2,3,5] (sq [oV 60 0,ZC 61 74 60,ZF 62 1 5,oS 1 62 61] [0,2,3,
 5] (.ops [ZF 63 3 3,oM 64 (.ldo (.t 63)),ZM 65 2 5,oM 66 (.mks 46 2 [.t 65]),oM 67 (.app 46 2 40 64 (.t 66)),ZF 68 3 3,⟨none,.stoo (.t 68) 67,none⟩] [0,2,3])))))))) (sq [oV 69 0,oM 70 (.call 72 [.t 69,.k (.d (.lit (.string ⟨#[125]⟩)))])] [2,3] (sq [ZM 71 4 3,oS 4 2 71] [2] .ret)))))))))
def LS:List RV:=[.c 2 4 true]
theorem k38:aE G.tab Tryz.f38 1 c38 LS=true:=by kernel_rfl
def c39:Cd:=.seq (sq [oV 2 0,ZK 3 2,ZF 4 3 3,ZL 5 1 4,Wn 6 5 0] [0,6] (.cond (.t 6) .ret .skip)) (.seq (.seq (.draw [oV 7 0,ZK 8 7,ZF 9 1 8,ZL 10 1 9,oV 11 0,ZK 12 11,ZF 13 0 12,ZL 14 1 13,ZN 15 14,Yh 16 10 15] [0,16]) (.cond (.t 16) (sq [oV 17 0,ZK 18 17,ZF 19 3 18,⟨none,.sto 1 (.t 19) (kI 6),none⟩] [0] (sq [oV 20 0,oV 21 0,ZC 22 89 21,ZK 23 20,ZF 24 2 23,
 oS 1 24 22] [] .ret)) .skip)) (sq [oV 25 0,ZK 26 25,ZF 27 3 26,⟨none,.sto 1 (.t 27) (kI 5),none⟩] [0] (.drawg [(oV 28 0,.free 0),(oV 29 0,.free 0),(ZK 30 29,.free 0),(ZF 31 0 30,.free 0),(ZL 32 1 31,.calm 0 0),(oV 33 0,.free 0),(ZK 34 33,.free 0),(ZF 35 1 34,.free 0),(ZL 36 1 35,.calm 0 0),(ZI 37 4 32 36,.free 0),(ZF 38 3 37,.free 0),(ZL 39 1 38,.calm 0 0),(ZK 40 28,.free 0),(ZF 41 2 40,.free 0),
 (oS 1 41 39,.act)] [])))
def Ri:List RV:=[]
theorem k39:aE G.tab Tryz.f39 1 c39 Ri=true:=by kernel_rfl
def c70:Cd:=sq [oM 4 (.mv kF)] [0,1] (sq [oV 6 0,oV 7 1,ZD 8 133 6 7,oV 5 8] [0,5] (.seq (sq [oV 9 5] [0,5,9] (.cond (.t 9) (.ops [oV 10 0,ZK 11 10,ZF 12 1 11,ZL 13 1 12,Wa 14 13 1,ZK 15 10,ZF 16 1 15,oS 1 16 14] [5]) .skip)) (sq [oV 17 5,oV 4 17] [4] .ret)))
def JW:List RV:=[.t 4 false]
theorem k70:aE G.tab Tryz.f70 2 c70 JW=true:=by kernel_rfl
def c71:Cd:=sq [oM 2 (.new 54 zz1)] [0,2] (sq [oV 5 0,ZC 6 134 5,oM 7 (.bld zz1 [(0,1,.k (.d (.lit (.int .i64 3)))),(5,1,.t 6)]),oM 3 (.new 54 zz1),oS 12 3 7] [0,2,3] (sq [oV 8 0,oM 9 (.call 72 [.t 8,.k (.d (.lit (.string ⟨#[123]⟩)))])] [0,2,3] (.seq (sq [oM 4 (.mv kT)] [0,2,3,4] (.block 0 (.loop (.seq (sq [oV 10 4] [0,2,3,10] (.cond (.t 10) .skip (.exit 0))) (.seq (.block 1 (.raw [ZF 13 7 3,
 oM 14 (.ldo (.t 13)),oV 15 0,ZC 16 135 15,oM 17 (.mks 56 4 [.t 16]),oM 18 (.app 56 4 32 14 (.t 17)),ZF 19 7 3,⟨none,.stoo (.t 19) 18,none⟩] [[],[0],[],[2],[3],[1,4,3],[0,1,2,3,4,5],[6,5,5,0,1,2,3,4,5]] [0,2,3])) (.ops [oV 11 0,oM 12 (.call 70 [.t 11,.k (.d (.lit (.string ⟨#[44]⟩)))]),oV 4 12] [0,2,3,4])))))) (sq [oV 20 0,oM 21 (.call 72 [.t 20,.k (.d (.lit (.string ⟨#[125]⟩)))])] [0,2,
 3] (sq [oV 22 0,oM 23 (.call 72 [.t 22,.k (.d (.lit (.string ⟨#[59]⟩)))])] [2,3] (sq [ZM 24 12 3,oS 12 2 24] [2] .ret))))))
def N7:List RV:=[.c 2 12 true]
theorem k71:aE G.tab Tryz.f71 1 c71 N7=true:=by kernel_rfl
def c72:Cd:=sq [oV 4 0,ZK 5 4,ZF 6 3 5,ZL 7 1 6,We 8 7 0,oV 9 8,oG 10 9 (.mv (.t 0)),oG 11 9 (.mv (.t 1)),oG 12 9 (zD 70 10 11),oG 13 9 (zU 12),ZQ 14 9 13] [0,14] (.cond (.t 14) (.ops [oV 15 0,ZC 16 39 15] []) (.skip))
def TH:List RV:=[]
theorem k72:aE G.tab Tryz.f72 2 c72 TH=true:=by kernel_rfl
def c73:Cd:=sq [oM 2 (.new 50 zz0)] [0,2] (.seq (sq [oV 6 0,ZK 7 6,ZF 8 3 7,ZL 9 1 8,Wn 10 9 0] [0,2,10] (.cond (.t 10) (sq [oM 11 (.bld zz0 []),oS 4 2 11] [2] .ret) .skip)) (.seq (.drawg [(oV 13 0,.free 0),(ZK 14 13,.free 0),(ZF 15 0 14,.free 0),(ZL 16 1 15,.calm 0 1),(oV 17 0,.free 0),(ZK 18 17,.free 0),(ZF 19 1 18,.free 0),(ZL 20 1 19,.calm 0 1),(ZD 21 136 16 20,.calm 0 1),(oV 12 21,.free 0),
 (ZX 22 12 0,.free 0),(ZX 23 12 1,.free 0),(ZX 24 12 2,.free 0),(oM 3 (.new 50 zz0),.act),(oS 4 3 22,.act),(oV 4 23,.free 2),(oV 5 24,.free 2)] [0,2,3,4,5]) (.seq (sq [oV 25 5,We 26 25 0] [0,2,3,4,5,26] (.cond (.t 26) (sq [oV 27 0,oV 28 4,ZK 29 27,ZF 30 1 29,oS 1 30 28] [2,3] (sq [ZM 31 4 3,oS 4 2 31] [2] (.ret))) .skip)) (sq [oV 32 0,oV 33 5,ZK 34 32,ZF 35 3 34,oS 1 35 33] [0,2,4,
 5] (.seq (sq [oV 36 5,We 37 36 6] [0,2,4,5,37] (.cond (.t 37) (.ops [oV 38 0,oV 39 0,ZC 40 89 39,ZK 41 38,ZF 42 2 41,oS 1 42 40] [2]) (sq [oV 43 5,We 44 43 5,oV 45 44,oH 46 45 (.mv (.t 5)),oH 47 45 (we 46 3),ZP 48 45 47,oV 49 48,oG 50 49 (.mv (.t 4)),oG 51 49 (wh 50 0),ZQ 52 49 51,oV 53 52,oG 54 53 (.mv (.t 4)),oG 55 53 (.mv (.t 0)),oG 56 53 (zK 55),oG 57 53 (zF 0 56),oG 58 53 (zL 1 57),
 oG 59 53 (zN 58),oG 60 53 (yl 54 59),ZQ 61 53 60] [0,2,4,61] (.cond (.t 61) (.ops [oV 62 0,oV 63 0,ZK 64 63,ZF 65 0 64,ZL 66 1 65,oV 67 4,ZI 68 4 66 67,ZF 69 3 68,ZL 70 1 69,ZK 71 62,ZF 72 2 71,oS 1 72 70] [2]) .skip)))) (sq [oM 73 (.bld zz0 []),oS 4 2 73] [2] .ret))))))
def rg:List RV:=[.c 2 4 true]
theorem k73:aE G.tab Tryz.f73 1 c73 rg=true:=by kernel_rfl
def c74:Cd:=sq [oM 2 (.mv (.k .nil))] [0] (sq [oV 4 0,oM 5 (.call 72 [.t 4,.k (.d (.lit (.string ⟨#[123]⟩)))])] [0] (sq [oM 3 (.nilo 54 12)] [0,3] (.seq (.block 0 (.loop (.seq (sq [oV 6 0,ZK 7 6,ZF 8 3 7,ZL 9 1 8,We 10 9 0,oV 11 10,oG 12 11 (.mv (.t 0)),⟨some 13,.call 133 [.t 12,.k (.d (.lit (.string ⟨#[125]⟩)))],(some (11,true))⟩,oG 14 11 (zU 13),ZQ 15 11 14] [0,3,
 15] (.cond (.t 15) .skip (.exit 0))) (.block 1 (.ops [oM 16 (.mvo 3),oV 17 0,ZC 18 29 17,oM 19 (.mks 54 12 [.t 18]),oM 20 (.app 54 12 216 16 (.t 19)),oM 3 (.mvo 20)] [0,3]))))) (sq [oV 21 0,oM 22 (.call 72 [.t 21,.k (.d (.lit (.string ⟨#[125]⟩)))])] [3] (sq [oV 23 3,oV 2 23] [2] .ret)))))
def RW:List RV:=[.t 2 false]
theorem k74:aE G.tab Tryz.f74 1 c74 RW=true:=by kernel_rfl
def c75:Cd:=sq [oM 2 (.mv (kS ⟨#[]⟩))] [0] (sq [oV 3 0,oM 4 (.call 137 [.t 3,.k (.d (.lit (.int .i64 1)))]),oM 5 (.fld 2 1 false (.t 4)),oV 2 5] [2] .ret)
def SI:List RV:=[.t 2 false]
theorem k75:aE G.tab Tryz.f75 1 c75 SI=true:=by kernel_rfl
def c76:Cd:=sq [oM 2 (.mv (.k .nil))] [0] (sq [oV 4 0,ZC 5 134 4,oM 6 (.mkso 9 1 [.t 5]),oM 3 (.mvo 6)] [0,3] (.seq (.block 0 (.loop (.seq (sq [oV 7 0,oM 8 (.call 70 [.t 7,.k (.d (.lit (.string ⟨#[44]⟩)))])] [0,3,8] (.cond (.t 8) .skip (.exit 0))) (.block 1 (.ops [oM 9 (.mvo 3),oV 10 0,ZC 11 134 10,oM 12 (.mks 9 1 [.t 11]),oM 13 (.app 9 1 16 9 (.t 12)),oM 3 (.mvo 13)] [0,3]))))) (sq [oV 14 3,
 oV 2 14] [2] .ret)))
def QP:List RV:=[.t 2 false]
theorem k76:aE G.tab Tryz.f76 1 c76 QP=true:=by kernel_rfl
def c88:Cd:=sq [oM 4 (.new 74 zz6)] [0,1,4] (sq [oV 6 1,oM 7 (.bld zz6 [(3,1,.t 6)]),oM 5 (.new 74 zz6),oS 5 5 7] [0,1,4,5] (sq [oV 8 0,ZC 9 75 8,ZF 10 0 5,oS 1 10 9] [0,1,4,5] (.seq (sq [oV 11 0,oM 12 (.call 70 [.t 11,.k (.d (.lit (.string ⟨#[91]⟩)))])] [0,1,4,5,12] (.cond (.t 12) (.seq (.seq (.draw [oV 13 0,ZK 14 13,ZF 15 3 14,ZL 16 1 15,We 17 16 0,oV 18 17,oG 19 18 (.mv (.t 0)),
 oG 20 18 (zK 19),oG 21 18 (zF 1 20),oG 22 18 (zL 1 21),oG 23 18 (.mv (.t 0)),oG 24 18 (zK 23),oG 25 18 (zF 0 24),oG 26 18 (zL 1 25),oG 27 18 (zN 26),oG 28 18 (yl 22 27),ZQ 29 18 28,oV 30 29,oG 31 30 (.mv (.t 0)),oG 32 30 (zK 31),oG 33 30 (zF 0 32),oG 34 30 (zL 1 33),oG 35 30 (.mv (.t 0)),oG 36 30 (zK 35),oG 37 30 (zF 1 36),oG 38 30 (zL 1 37),oG 39 30 (zI 4 34 38),oG 40 30 (zF 0 39),
 oG 41 30 (zL 1 40),oG 42 30 (we 41 3),ZQ 43 30 42,oV 44 43,oG 45 44 (.mv (.t 0)),oG 46 44 (zK 45),oG 47 44 (zF 0 46),oG 48 44 (zL 1 47),oG 49 44 (.mv (.t 0)),oG 50 44 (zK 49),oG 51 44 (zF 1 50),oG 52 44 (zL 1 51),oG 53 44 (zI 4 48 52),oG 54 44 (zF 1 53),oG 55 44 (zL 1 54),oG 56 44 (we 55 0),ZQ 57 44 56] [0,1,4,5,57]) (.cond (.t 57) (.ops [oV 58 0,ZC 59 39 58] [0,1,4,5]) .skip)) (sq [oV 60 0,
 ZC 61 141 60,ZF 62 2 5,oS 1 62 61] [0,1,4,5] (.ops [oV 63 0,oM 64 (.call 72 [.t 63,.k (.d (.lit (.string ⟨#[93]⟩)))])] [0,1,4,5]))) (.skip))) (sq [oV 65 0,oM 66 (.call 72 [.t 65,.k (.d (.lit (.string ⟨#[58]⟩)))])] [0,1,4,5] (sq [oV 67 0,ZC 68 141 67,ZF 69 1 5,oS 1 69 68] [0,1,4,5] (.seq (sq [oV 70 1,We 71 70 0] [0,4,5,71] (.cond (.t 71) (sq [oV 72 0,oM 73 (.call 72 [.t 72,
 .k (.d (.lit (.string ⟨#[61]⟩)))])] [0,4,5] (.ops [oV 74 0,ZC 75 141 74,ZF 76 4 5,oS 1 76 75] [0,4,5])) .skip)) (sq [oV 77 0,oM 78 (.call 72 [.t 77,.k (.d (.lit (.string ⟨#[59]⟩)))])] [4,5] (sq [ZM 79 5 5,oS 5 4 79] [4] .ret))))))))
def JB:List RV:=[.c 4 5 true]
theorem k88:aE G.tab Tryz.f88 2 c88 JB=true:=by kernel_rfl
def c89:Cd:=sq [oI 2 0] [0] (.seq (sq [oV 3 0,ZK 4 3,ZF 5 0 4,ZL 6 1 5,ZN 7 6,We 8 7 0] [0,8] (.cond (.t 8) (sq [oI 2 0] [2] .ret) .skip)) (.seq (.draw [oV 9 0,ZK 10 9,ZF 11 0 10,ZL 12 1 11,oV 13 0,ZK 14 13,ZF 15 0 14,ZL 16 1 15,ZN 17 16,Ws 18 17 1,ZI 19 4 12 18,ZF 20 3 19,ZL 21 1 20,oV 2 21] [2]) .ret))
def Q8:List RV:=[.t 2 false]
theorem k89:aE G.tab Tryz.f89 1 c89 Q8=true:=by kernel_rfl
def Pb:Cd:=sq [oM 4 (.mv kF)] [0,1] (.seq (.seq (.draw [oV 6 0,ZK 7 6,ZF 8 3 7,ZL 9 1 8,Wn 10 9 0,oV 11 10,oH 12 11 (.mv (.t 0)),oH 13 11 (zK 12),oH 14 11 (zF 1 13),oH 15 11 (zL 1 14),oH 16 11 (.mv (.t 0)),oH 17 11 (zK 16),oH 18 11 (zF 0 17),oH 19 11 (zL 1 18),oH 20 11 (zN 19),oH 21 11 (yh 15 20),ZP 22 11 21] [0,1,22]) (.cond (.t 22) (sq [oM 4 (.mv kF)] [4] .ret) .skip)) (.seq (.drawg [(oV 23 0,
 .free 0),(ZK 24 23,.free 0),(ZF 25 0 24,.free 0),(ZL 26 1 25,.calm 0 1),(oV 27 0,.free 0),(ZK 28 27,.free 0),(ZF 29 1 28,.free 0),(ZL 30 1 29,.calm 0 1),(ZI 31 4 26 30,.free 0),(ZM 32 4 31,.calm 0 1),(oM 5 (.new 121 zz2),.act),(oS 4 5 32,.act)] [1,5]) (sq [ZF 33 0 5,ZL 34 1 33,We 35 34 2,oV 36 35,oH 37 36 (zF 0 5),oH 38 36 (zL 1 37),oH 39 36 (we 38 4),ZP 40 36 39,oV 41 40,oG 42 41 (zF 2 5),
 oG 43 41 (zL 1 42),oG 44 41 (.mv (.t 1)),oG 45 41 (ye 43 44),ZQ 46 41 45,oV 4 46] [4] .ret)))
def Mx:List RV:=[.t 4 false]
theorem QK:aE G.tab Tryz.f133 2 Pb Mx=true:=by kernel_rfl
def MI:Cd:=sq [oM 2 (.mv (kS ⟨#[]⟩))] [0] (sq [oV 4 0,ZC 5 75 4,oV 3 5] [0,3] (.seq (sq [oV 6 0,oM 7 (.call 70 [.t 6,.k (.d (.lit (.string ⟨#[91]⟩)))])] [0,3,7] (.cond (.t 7) (sq [oV 8 3,oV 9 0,ZC 10 141 9,ZC 11 192 10,oM 12 (.bin .add (kS ⟨#[91]⟩) (.t 11)),oM 13 (.bin .add (.t 12) (kS ⟨#[93]⟩)),Ya 14 8 13,oV 3 14] [0,3] (.ops [oV 15 0,oM 16 (.call 72 [.t 15,
 .k (.d (.lit (.string ⟨#[93]⟩)))])] [3])) .skip)) (sq [oV 17 3,oV 2 17] [2] .ret)))
def OE:List RV:=[.t 2 false]
theorem RN:aE G.tab Tryz.f134 1 MI OE=true:=by kernel_rfl
def NG:Cd:=sq [oM 2 (.new 56 zz7)] [0,2] (sq [oM 4 (.bld zz7 []),oM 3 (.new 56 zz7),oS 4 3 4] [0,2,3] (sq [oV 5 0,ZC 6 141 5,ZF 7 0 3,oS 1 7 6] [0,2,3] (sq [ZF 8 0 3,ZL 9 1 8,ZF 10 1 3,oS 1 10 9] [0,2,3] (.seq (sq [oV 11 0,oM 12 (.call 70 [.t 11,.k (.d (.lit (.string ⟨#[46,46]⟩)))])] [0,2,3,12] (.cond (.t 12) (.ops [oV 13 0,ZC 14 141 13,ZF 15 1 3,oS 1 15 14] [0,2,3]) (.skip))) (sq [oV 16 0,
 oM 17 (.call 70 [.t 16,.k (.d (.lit (.string ⟨#[58,61]⟩)))]),ZF 18 3 3,oS 1 18 17] [0,2,3] (.seq (sq [ZF 19 3 3,ZL 20 1 19,ZU 21 20] [0,2,3,21] (.cond (.t 21) (.ops [oV 22 0,oM 23 (.call 72 [.t 22,.k (.d (.lit (.string ⟨#[58,47]⟩)))])] [0,2,3]) .skip)) (sq [oV 24 0,ZC 25 141 24,ZF 26 2 3,oS 1 26 25] [2,3] (sq [ZM 27 4 3,oS 4 2 27] [2] .ret))))))))
def Jt:List RV:=[.c 2 4 true]
theorem SB:aE G.tab Tryz.f135 1 NG Jt=true:=by kernel_rfl
def Na:Cd:=sq [oM 4 (.new 121 zz2)] [0,1,4] (.seq (.seq (.draw [oV 5 0,ZK 6 5,ZF 7 3 6,ZL 8 1 7,Wn 9 8 0,oV 10 9,oH 11 10 (.mv (.t 0)),oH 12 10 (zK 11),oH 13 10 (zF 1 12),oH 14 10 (zL 1 13),oH 15 10 (.mv (.t 0)),oH 16 10 (zK 15),oH 17 10 (zF 0 16),oH 18 10 (zL 1 17),oH 19 10 (zN 18),oH 20 10 (yh 14 19),ZP 21 10 20,oV 22 21,oH 23 22 (.mv (.t 0)),oH 24 22 (zK 23),oH 25 22 (zF 0 24),
 oH 26 22 (zL 1 25),oH 27 22 (.mv (.t 0)),oH 28 22 (zK 27),oH 29 22 (zF 1 28),oH 30 22 (zL 1 29),oH 31 22 (zI 4 26 30),oH 32 22 (zF 0 31),oH 33 22 (zL 1 32),oH 34 22 (.mv (.t 1)),oH 35 22 (yn 33 34),ZP 36 22 35] [0,4,36]) (.cond (.t 36) (sq [oV 37 0,ZC 38 39 37] [4] (sq [oM 39 (.bld zz2 []),oS 4 4 39] [4] .ret)) .skip)) (.seq (.ops [oV 40 0,ZK 41 40,ZF 42 1 41,ZL 43 1 42,Wa 44 43 1,ZK 45 40,
 ZF 46 1 45,oS 1 46 44] [0,4]) (.seq (.drawg [(oV 47 0,.free 0),(ZK 48 47,.free 0),(ZF 49 0 48,.free 0),(ZL 50 1 49,.calm 0 0),(oV 51 0,.free 0),(ZK 52 51,.free 0),(ZF 53 1 52,.free 0),(ZL 54 1 53,.calm 0 0),(Ws 55 54 1,.free 0),(ZI 56 4 50 55,.free 0),(ZM 57 4 56,.calm 0 0),(oS 4 4 57,.act)] [4]) .ret)))
def ri:List RV:=[.c 4 4 true]
theorem RU:aE G.tab Tryz.f137 2 Na ri=true:=by kernel_rfl
def Ou:Cd:=sq [oI 2 0] [0] (sq [oV 3 0,oM 4 (.call 137 [.t 3,.k (.d (.lit (.int .i64 3)))]),oM 5 (.fld 1 1 false (.t 4)),oV 2 5] [2] .ret)
def Pt:List RV:=[.t 2 false]
theorem QE:aE G.tab Tryz.f141 1 Ou Pt=true:=by kernel_rfl
end Go.Proofs.YtnhphlmblenapaaGreatDoor
