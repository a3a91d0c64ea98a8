import Derived.Test.YtnhphlmblenapaaGreatDoorPm6
set_option linter.unusedVariables false
set_option linter.unusedSimpArgs false
set_option linter.unusedSectionVars false
set_option maxHeartbeats 4000000
open Bool renaming and_eq_true->TJ,false_eq_true->TK,true_and->TL,false_or->TM
open List renaming getElem?_eq_getElem->TN,map_cons->TO,take_length->TP,map_nil->TQ,take_of_length_le->TR,take_left->TS,eq_nil_of_length_eq_zero->TT,length_cons->TU,length_nil->TV,length_set->TW,takeWhile_cons_of_pos->TX,drop_eq_getElem_cons->TY,drop_eq_nil_of_le->TZ,getElem?_eq_none->T0,length_append->T1,length_drop->T3,getElem_mem->T4
open Nat renaming le_refl->T5
open Option renaming isSome_none->T6,map_none->T7
open UInt8 renaming toNat_inj->T8
namespace Go.Proofs.YtnhphlmblenapaaGreatDoor
open Go.RowKit
theorem yF(ts:List Tok)(a i:Nat)(H:TsOK ts)(ha:a≤ts.length)(a0:Ex)
 (hW:∀b,a<b->b≤ts.length->∀σ:LLV,σ[i]? = some (pb ts b)->Fun G 255 [.ptr i 0] σ (PQ ts i σ (par .W (ts.drop b))))
 (σ:LLV)(hi:σ[i]? = some (pb ts a)):Fun G 321 [.ptr i 0,vex a0] σ (PQ ts i σ (par (.In a0) (ts.drop a))):=by
 refine ae Tryz.func321 RT (by simp only[au];rfl) fun hb hw=>?_;have S:=St.init hi hb;have hpar:=lm (.In a0) (ts.drop a);simp only[bj,aT]at hpar;unfold PZ;simp -dsimp only[aw,seval,au];refine eX H (m:=aa 123) S ha (fun hs ha1 σ1 S1 hl1=>?_) (fun hs=>?_)
 case refine_2=>
  rw[hs,if_neg (by decide)]at hpar;simp -dsimp only[aw,seval];exact dS S ha hpar
 rw[hs,if_pos rfl]at hpar;simp only at hpar;rw[<-hl1];simp -dsimp only[aw,seval];refine aL [0,4,5] (R:=fun(j:Nat) ρ σ'=>∃(a1:Nat) (args:List Ex) (σ2:LLV) (x:LLV),ρ=[(0,.ptr i 0),(4,.ptr (σ1.length+1) 0),(5,.own 50 4 (args.map dex))]/\σ'=σ2++x/\x=[[.d (ab a0.op),.d (ab a0.num),.d (ai a0.name),.d (.sl (a0.args.map dex))],[.d (ab 0),.d (ab 0),.d (ai ⟨#[]⟩),.nil]]/\St σ i ts a1 σ2/\σ2.length=σ1.length/\a1≤ts.length/\a+1+j≤a1/\args.length≤2*a1/\par (.In a0) (ts.drop a)=par (.Ip args) (ts.drop a1)) (ts.length-a) ⟨a+1,[a0],σ1,_,by simp only[TO,TQ,bF];rfl,rfl,rfl,S1,rfl,ha1,by omega,by simp only[TU,TV];omega,hpar⟩ ?_ _;rintro j ρ' σ' hj ⟨a1,args,σ2,x,rfl,rfl,hx,S2,hl2,h1,h2,h3,hp2⟩;have hp3:=lm (.Ip args) (ts.drop a1);rw[<-hp2]at hp3;simp only[bj]at hp3
 subst hx;rw[<-hl2];simp -dsimp only[aw,seval];refine iR H S2 h1 (hW _ (by omega) h1 _ (ah S2.at_ _)) (fun e1 a2 hx g1 g2 g3 σ3 S3 hl3=>?_) (fun c r b hx σ3 S3 hl3=>?_)
 case refine_2=>
  rw[hx,PR.bind]at hp3;rw[<-hl3];simp -dsimp only[aw,seval];exact db S3 hp3 rfl
 rw[hx,PR.bind,aT]at hp3;have g3:=g3 rfl;rw[<-hl3];simp -dsimp only[aw,seval,au];refine eX H (m:=ba 46 46) S3 g2 (fun hs3 ha4 σ4 S4 hl4=>?_) (fun hs3=>?_)
 case refine_2=>
  rw[hs3,if_neg (by decide)]at hp3;simp -dsimp only[aw,seval];exact dS S3 g2 hp3
 rw[hs3,if_pos rfl]at hp3;simp only at hp3;rw[<-hl4];simp -dsimp only[aw,seval];refine Ei H S4 ha4 (hW _ (by omega) ha4 _ (ah S4.at_ _)) (fun e2 a3 hx2 k1 k2 k3 σ5 S5 hl5=>⟨?_,?_⟩) (fun c r b hx2 σ5 S5 hl5=>?_) (fun⟨c,r,hx2⟩=>?_)
 .rw[<-hl5];simp -dsimp only[aw,seval]
 .rw[<-hl5];rw[hx2,PR.bind,aT]at hp3;have k3:=k3 rfl;have hL:=H.len;simp -dsimp only[aw,seval,au];refine bg (by omega) ?_;simp -dsimp only[aw,seval];have hrows:args.map dex++[[ab e1.op,ab e1.num,ai e1.name,D.sl (e1.args.map dex)],[ab e2.op,ab e2.num,ai e2.name,D.sl (e2.args.map dex)]]=(args++[e1,e2]).map dex:=by rw[List.map_append,TO,TO,TQ,bF,bF]
  rw[hrows];refine dH H (m:=aa 44) S5 k2 (fun h44 ha6 σ6 S6 hl6=>?_) (fun h44=>?_)
  .rw[h44,if_pos rfl]at hp3;simp only at hp3;rw[<-hl6];simp -dsimp only[aw,seval];refine⟨by omega,Nxt.to (σ6++[[.d (ab a0.op),.d (ab a0.num),.d (ai a0.name),.d (.sl (a0.args.map dex))],[.d (ab 0),.d (ab 0),.d (ai ⟨#[]⟩),.nil]]) [[.d (ab e1.op),.d (ab e1.num),.d (ai e1.name),.d (.sl (e1.args.map dex))]] (by simp) (by simp) (aq S6.bb rfl) ?_ ⟨a3+1,args++[e1,e2],σ6,_,?_,rfl,rfl,S6,?_,ha6,by omega,?_,hp3⟩⟩
   .have:=S6.lt;simp[an,V.under,S6.len];omega
   .rw[hl6,hl5,hl4,hl3,hl2]
   .omega
   .simp only[T1,TU,TV];omega
  .rw[h44,if_neg (by decide),aT]at hp3;simp -dsimp only[aw,seval];refine eX H (m:=aa 125) S5 k2 (fun hs6 ha6 σ6 S6 hl6=>?_) (fun hs6=>?_)
   .rw[hs6,if_pos rfl]at hp3;have hN:=eo 23 (args++[e1,e2]);rw[<-hl6];simp -dsimp only[aw,seval];refine ac (hN _) ?_;simp -dsimp only[aw,seval,au,aK,bt,aU,aH,aI];exact dr S6 ha6 hp3 (by rw[au];simp[Jz,aC,aQ,aK,bt,aU,aH,aI,bF,aw,seval])
   .rw[hs6,if_neg (by decide)]at hp3;simp -dsimp only[aw,seval];exact dS S5 k2 hp3
 .rw[hx2,PR.bind]at hp3;intro ρ2;rw[<-hl5];simp -dsimp only[aw,seval];exact db S5 hp3 rfl
 .simp -dsimp only[aw,seval]
theorem zw{ts:List Tok}{a k:Nat}(h:fc ts a k=true):∃(o:Int) (ex:Bool) (m:ByteArray) (n:Int),j7 ts a k=.tup [.agg [.d (ai m),.d (ab o),.d (ab n)],ao ex,ao true]/\dM k (ts.drop a)=some (o,ex,ts.drop (a+1)):=by
 unfold fc at h;unfold j7 dM;rw[mz];cases hf:fW cC k ts a with
 | some b=>exact⟨_,_,_,_,rfl,rfl⟩
 | none=>
  rw[hf]at h;simp only[T6,TM,TJ,decide_eq_true_eq,Bool.or_eq_true]at h;obtain⟨rfl,h⟩:=h;simp only[T7,if_true,true_and,aT];cases h62:ax (aa 62) ts a with
  | true=>exact⟨_,_,_,_,rfl,by simp⟩
  | false=>
   rw[h62]at h;have h:=h.resolve_left (by decide);simp only[h,TK,if_false,if_true];exact⟨_,_,_,_,rfl,rfl⟩
theorem zh{ts:List Tok}{a k:Nat}(h:fc ts a k=false):j7 ts a k=.tup [zb,ao false,ao false]/\dM k (ts.drop a)=none:=by
 unfold fc at h;unfold j7 dM;rw[mz];cases hf:fW cC k ts a with
 | some b=>rw[hf]at h;simp at h
 | none=>
  rw[hf]at h;simp only[T6,TM,Bool.and_eq_false_iff,decide_eq_false_iff_not,Bool.or_eq_false_iff]at h;simp only[T7,aT];rcases h with h|⟨h1,h2⟩
  .simp[h]
  .simp[h1,h2]
section
variable {σ0 σ : LLV} {i : Nat} {ts : List Tok} {a : Nat} (H : TsOK ts) {l : LLV} {K P : V -> LLV -> Prop} {s : Tag K} {t : Tag P}
include H
theorem CR{k:Nat}(h:fc ts a k=true):a+1≤ts.length:=by
 apply Classical.byContradiction;intro hn;have hs:∀m,ax m ts a=false:=fun m=>fH (by omega);unfold fc fW at h;simp only[hs,Bool.and_false,Bool.or_false]at h;have:cC.find? (fun _=>false)=none:=rfl;rw[this]at h;cases h
theorem DI{k:Nat}(hk:k≤100)(S:St σ0 i ts a σ)(ha:a≤ts.length)(ht:∀(o:Int) (ex:Bool) (m:ByteArray) (n:Int),dM k (ts.drop a)=some (o,ex,ts.drop (a+1))->a+1≤ts.length->∀σ',St σ0 i ts (a+1) σ'->σ'.length=σ.length->K (.tup [.agg [.d (ai m),.d (ab o),.d (ab n)],ao ex,ao true]) (σ'++l))(hf:dM k (ts.drop a)=none->K (.tup [zb,ao false,ao false]) (σ++l)):
 fk G 322 [.ptr i 0,.d (ab k)] (σ++l) K P s t:=by
 refine aB (uH k hk ts a i H.size H.len ha (σ++l) (ah S.at_ l)) fun o σ' ⟨e1,e2⟩=>?_;subst e1;rw[aR];cases hs:fc ts a k with
 | true=>
  rw[hs,if_pos rfl,be S.at_]at e2;subst e2;obtain⟨o,ex,m,n,h1,h2⟩:=zw hs;rw[h1];exact ht o ex m n h2 (CR H hs) _ (S.step _) (S.slen _)
 | false=>
  rw[hs,if_neg (by decide)]at e2;subst e2;obtain⟨h1,h2⟩:=zh hs;rw[h1];exact hf h2
end
theorem EE(k:Nat)(hk:k≤13)(ts:List Tok)(a i:Nat)(H:TsOK ts)(ha:a≤ts.length)
 (hU:∀σ:LLV,σ[i]? = some (pb ts a)->Fun G 320 [.ptr i 0] σ (PQ ts i σ (par .U (ts.drop a))))
 (hL:k≤12->∀b,a≤b->b≤ts.length->∀σ:LLV,σ[i]? = some (pb ts b)->Fun G 310 [.ptr i 0,.d (ab ((k:Int)+1))] σ (PQ ts i σ (par (.L (k+1)) (ts.drop b))))
 (hN:∀b e,a<b->b≤ts.length->∀σ:LLV,σ[i]? = some (pb ts b)->Fun G 321 [.ptr i 0,vex e] σ (PQ ts i σ (par (.In e) (ts.drop b))))
 (σ:LLV)(hi:σ[i]? = some (pb ts a)):Fun G 310 [.ptr i 0,.d (ab k)] σ (PQ ts i σ (par (.L k) (ts.drop a))):=by
 refine ae Tryz.func310 RY rfl fun hb hw=>?_;have S:=St.init hi hb;have hpar:=lm (.L k) (ts.drop a);simp only[bj]at hpar;unfold P3;by_cases hgt:12<k
 .have hd:decide (12<((k:Nat):Int))=true:=by rw[decide_eq_true_eq];omega
  rw[if_pos hgt]at hpar;simp -dsimp only[aw,seval,hd];refine iR H S ha (hU _ (ah S.at_ _)) (fun e1 a2 hx g1 g2 g3 σ3 S3 hl3=>?_) (fun c r b hx σ3 S3 hl3=>?_)
  .rw[hx]at hpar;rw[<-hl3];simp -dsimp only[aw,seval,au];exact dr S3 g2 hpar (by rw[au];simp[AG,aC,aQ,aw,seval])
  .rw[hx]at hpar;rw[<-hl3];simp -dsimp only[aw,seval];exact db S3 hpar rfl
 have hd:decide (12<((k:Nat):Int))=false:=by rw[decide_eq_false_iff_not];omega
 have hwr:IntKind.i64.wrap (((k:Nat):Int)+1)=(k:Int)+1:=aA (by omega) (by omega);rw[if_neg hgt]at hpar;simp -dsimp only[aw,seval,hd,hwr];refine iR H S ha (hL (by omega) a (T5 _) ha _ (ah S.at_ _)) (fun e1 a1 hx g1 g2 g3 σ1 S1 hl1=>?_) (fun c r b hx σ3 S3 hl3=>?_)
 case refine_2=>
  rw[hx,PR.bind]at hpar;rw[<-hl3];simp -dsimp only[aw,seval];exact db S3 hpar rfl
 rw[hx,PR.bind]at hpar;have g3:=g3 rfl;rw[<-hl1];simp -dsimp only[aw,seval,au];refine aL [0,1,4,5] (R:=fun(j:Nat) ρ σ'=>∃(a1:Nat) (e:Ex) (σ2:LLV) (x:LLV),ρ=[(0,.ptr i 0),(1,.d (ab k)),(4,.ptr σ1.length 0),(5,.ptr (σ1.length+1) 0)]/\σ'=σ2++x/\x=[[.d (ab 0),.d (ab 0),.d (ai ⟨#[]⟩),.nil],[.d (ab e.op),.d (ab e.num),.d (ai e.name),.d (.sl (e.args.map dex))]]/\St σ i ts a1 σ2/\σ2.length=σ1.length/\a1≤ts.length/\a+1+j≤a1/\par (.L k) (ts.drop a)=par (.Lp k e) (ts.drop a1)) (ts.length-a) ⟨a1,e1,σ1,_,rfl,rfl,rfl,S1,rfl,g2,by omega,hpar⟩ ?_ _;rintro j ρ' σ' hj ⟨a2,e,σ2,x,rfl,rfl,hx2,S2,hl2,h1,h2,hp2⟩;have hp3:=lm (.Lp k e) (ts.drop a2);rw[<-hp2]at hp3;simp only[bj]at hp3;subst hx2;rw[<-hl2];have hL1:=H.len;have h1lt:=S2.lt;by_cases h9:k=9
 .have hd9:decide (((k:Nat):Int)=9)=true:=by rw[decide_eq_true_eq];omega
  rw[if_pos h9,aT]at hp3;simp -dsimp only[aw,seval,hd9];refine dH H (m:=ct) S2 h1 (fun hin ha3 σ3 S3 hl3=>?_) (fun hin=>?_)
  .rw[hin,if_pos rfl]at hp3;simp only at hp3;have hN':=fun l=>hN (a2+1) e (by omega) ha3 _ (ah S3.at_ l);rw[au]at hN';rw[<-hl3];simp -dsimp only[aw,seval];refine iR H S3 ha3 (hN' _) (fun e4 a4 hx4 k1 k2 k3 σ4 S4 hl4=>?_) (fun c r b hx σ3 S3 hl3=>?_)
   .rw[hx4,PR.bind]at hp3;rw[<-hl4];simp -dsimp only[aw,seval,au];refine⟨by omega,Nxt.to (σ4++[[.d (ab 0),.d (ab 0),.d (ai ⟨#[]⟩),.nil],[.d (ab e4.op),.d (ab e4.num),.d (ai e4.name),.d (.sl (e4.args.map dex))]]) [] (by simp) (by simp) (aq S4.bb rfl) ?_ ⟨a4,e4,σ4,_,?_,rfl,rfl,S4,by omega,k2,by omega,hp3⟩⟩
    .simp[an,V.under];omega
    .rw[hl4,hl3,hl2]
   .rw[hx,PR.bind]at hp3;rw[<-hl3];simp -dsimp only[aw,seval];exact db S3 hp3 rfl
  rw[hin,if_neg (by decide)]at hp3;simp only at hp3;simp -dsimp only[aw,seval];refine DI H (by omega) S2 h1 (fun o ex m n hop ha3 σ3 S3 hl3=>?_) (fun hop=>?_)
  case refine_2=>
   rw[hop]at hp3;simp -dsimp only[aw,seval,zb];exact dr S2 h1 hp3 (by rw[au];simp[AG,aC,aQ,aw,seval])
  rw[hop]at hp3;simp only at hp3;rw[<-hl3];simp -dsimp only[aw,seval,hwr];refine iR H S3 ha3 (hL (by omega) _ (by omega) ha3 _ (ah S3.at_ _)) (fun e4 a4 hx4 k1 k2 k3 σ4 S4 hl4=>?_) (fun c r b hx σ4 S4 hl4=>?_)
  case refine_2=>
   rw[hx,PR.bind]at hp3;rw[<-hl4];simp -dsimp only[aw,seval];exact db S4 hp3 rfl
  rw[hx4,PR.bind]at hp3;have hle:=S4.lt;rw[<-hl4];cases ex with
  | true=>
   have hNd:=eo o [e4,e];rw[if_pos rfl]at hp3;simp -dsimp only[aw,seval,au];refine ac (by simpa only[TO,TQ,bF]using hNd _) ?_;simp -dsimp only[aw,seval,au,aK,bt,aU,aH,aI];refine⟨by omega,Nxt.to (σ4++[[.d (ab 0),.d (ab 0),.d (ai ⟨#[]⟩),.nil],[.d (ab o),.d (ab 0),.d (ai ⟨#[]⟩),.d (.sl ([e4,e].map dex))]]) [[.d (ai m),.d (ab o),.d (ab n)],[.d (ab e.op),.d (ab e.num),.d (ai e.name),.d (.sl (e.args.map dex))]] (by simp[bF]) (by simp) (aq S4.bb rfl) ?_ ⟨a4,aK o [e4,e],σ4,_,?_,rfl,rfl,S4,by omega,k2,by omega,hp3⟩⟩
   .simp[an,V.under];omega
   .rw[hl4,hl3,hl2]
  | false=>
   have hNd:=eo o [e,e4];rw[if_neg (by decide)]at hp3;simp -dsimp only[aw,seval,au];refine ac (by simpa only[TO,TQ,bF]using hNd _) ?_;simp -dsimp only[aw,seval,au,aK,bt,aU,aH,aI];refine⟨by omega,Nxt.to (σ4++[[.d (ab 0),.d (ab 0),.d (ai ⟨#[]⟩),.nil],[.d (ab o),.d (ab 0),.d (ai ⟨#[]⟩),.d (.sl ([e,e4].map dex))]]) [[.d (ai m),.d (ab o),.d (ab n)],[.d (ab e4.op),.d (ab e4.num),.d (ai e4.name),.d (.sl (e4.args.map dex))]] (by simp[bF]) (by simp) (aq S4.bb rfl) ?_ ⟨a4,aK o [e,e4],σ4,_,?_,rfl,rfl,S4,by omega,k2,by omega,hp3⟩⟩
   .simp[an,V.under];omega
   .rw[hl4,hl3,hl2]
 .have hd9:decide (((k:Nat):Int)=9)=false:=by rw[decide_eq_false_iff_not];omega
  rw[if_neg h9]at hp3;simp only at hp3;simp -dsimp only[aw,seval,hd9];refine DI H (by omega) S2 h1 (fun o ex m n hop ha3 σ3 S3 hl3=>?_) (fun hop=>?_)
  case refine_2=>
   rw[hop]at hp3;simp -dsimp only[aw,seval,zb];exact dr S2 h1 hp3 (by rw[au];simp[AG,aC,aQ,aw,seval])
  rw[hop]at hp3;simp only at hp3;rw[<-hl3];simp -dsimp only[aw,seval,hwr];refine iR H S3 ha3 (hL (by omega) _ (by omega) ha3 _ (ah S3.at_ _)) (fun e4 a4 hx4 k1 k2 k3 σ4 S4 hl4=>?_) (fun c r b hx σ4 S4 hl4=>?_)
  case refine_2=>
   rw[hx,PR.bind]at hp3;rw[<-hl4];simp -dsimp only[aw,seval];exact db S4 hp3 rfl
  rw[hx4,PR.bind]at hp3;have hle:=S4.lt;rw[<-hl4];cases ex with
  | true=>
   have hNd:=eo o [e4,e];rw[if_pos rfl]at hp3;simp -dsimp only[aw,seval,au];refine ac (by simpa only[TO,TQ,bF]using hNd _) ?_;simp -dsimp only[aw,seval,au,aK,bt,aU,aH,aI];refine⟨by omega,Nxt.to (σ4++[[.d (ab 0),.d (ab 0),.d (ai ⟨#[]⟩),.nil],[.d (ab o),.d (ab 0),.d (ai ⟨#[]⟩),.d (.sl ([e4,e].map dex))]]) [[.d (ai m),.d (ab o),.d (ab n)],[.d (ab e.op),.d (ab e.num),.d (ai e.name),.d (.sl (e.args.map dex))]] (by simp[bF]) (by simp) (aq S4.bb rfl) ?_ ⟨a4,aK o [e4,e],σ4,_,?_,rfl,rfl,S4,by omega,k2,by omega,hp3⟩⟩
   .simp[an,V.under];omega
   .rw[hl4,hl3,hl2]
  | false=>
   have hNd:=eo o [e,e4];rw[if_neg (by decide)]at hp3;simp -dsimp only[aw,seval,au];refine ac (by simpa only[TO,TQ,bF]using hNd _) ?_;simp -dsimp only[aw,seval,au,aK,bt,aU,aH,aI];refine⟨by omega,Nxt.to (σ4++[[.d (ab 0),.d (ab 0),.d (ai ⟨#[]⟩),.nil],[.d (ab o),.d (ab 0),.d (ai ⟨#[]⟩),.d (.sl ([e,e4].map dex))]]) [[.d (ai m),.d (ab o),.d (ab n)],[.d (ab e4.op),.d (ab e4.num),.d (ai e4.name),.d (.sl (e4.args.map dex))]] (by simp[bF]) (by simp) (aq S4.bb rfl) ?_ ⟨a4,aK o [e,e4],σ4,_,?_,rfl,rfl,S4,by omega,k2,by omega,hp3⟩⟩
   .simp[an,V.under];omega
   .rw[hl4,hl3,hl2]
end Go.Proofs.YtnhphlmblenapaaGreatDoor
namespace Go.Proofs.YtnhphlmblenapaaGreatDoor
open Go.RowKit
theorem Gf(ts:List Tok)(a i:Nat)(H:TsOK ts)(ha:a≤ts.length)
 (hL:∀σ:LLV,σ[i]? = some (pb ts a)->Fun G 310 [.ptr i 0,.d (ab 3)] σ (PQ ts i σ (par (.L 3) (ts.drop a))))
 (hI:∀b,a<b->b≤ts.length->∀σ:LLV,σ[i]? = some (pb ts b)->Fun G 284 [.ptr i 0] σ (PQ ts i σ (par .I (ts.drop b))))
 (σ:LLV)(hi:σ[i]? = some (pb ts a)):Fun G 284 [.ptr i 0] σ (PQ ts i σ (par .I (ts.drop a))):=by
 refine ae Tryz.func284 Rv rfl fun hb hw=>?_;have S:=St.init hi hb;have hpar:=lm .I (ts.drop a);simp only[bj]at hpar;unfold Mk;simp -dsimp only[aw,seval];refine iR H S ha (hL _ (ah hi _)) (fun e a1 hx g1 g2 g3 σ1 S1 hl1=>?_) (fun c r b hx σ1 S1 hl1=>?_)
 case refine_2=>
  rw[hx,PR.bind]at hpar;rw[<-hl1];simp -dsimp only[aw,seval];exact db S1 hpar rfl
 rw[hx,PR.bind,aT]at hpar;have g3:=g3 rfl;rw[<-hl1];simp -dsimp only[aw,seval,au];refine dH H (m:=ba 61 62) S1 g2 (fun hs ha2 σ2 S2 hl2=>?_) (fun hs=>?_)
 case refine_2=>
  rw[hs,if_neg (by decide)]at hpar;simp -dsimp only[aw,seval];exact dr S1 g2 hpar (by rw[au];simp[EV,aC,aQ,aw,seval])
 rw[hs,if_pos rfl]at hpar;simp only at hpar;rw[<-hl2];simp -dsimp only[aw,seval];refine Ei H S2 ha2 (hI _ (by omega) ha2 _ (ah S2.at_ _)) (fun e2 a3 hx2 k1 k2 k3 σ3 S3 hl3=>⟨?_,?_⟩) (fun c r b hx2 σ3 S3 hl3=>?_) (fun⟨c,r,hx2⟩=>?_)
 .rw[<-hl3];simp -dsimp only[aw,seval]
 .rw[hx2,PR.bind]at hpar;have hN:=eo 21 [e,e2];rw[<-hl3];simp -dsimp only[aw,seval,au];refine bo (by simpa only[TO,TQ,bF]using hN _) ?_;simp -dsimp only[aw,seval,au,aK,bt,aU,aH,aI];exact dr S3 k2 hpar (by rw[au];simp[EV,aC,aQ,aK,bt,aU,aH,aI,bF,aw,seval])
 .rw[hx2,PR.bind]at hpar;intro ρ2;rw[<-hl3];simp -dsimp only[aw,seval];exact db S3 hpar rfl
 .simp -dsimp only[aw,seval]
theorem Ce(ts:List Tok)(a i:Nat)(H:TsOK ts)(ha:a≤ts.length)
 (hI:∀σ:LLV,σ[i]? = some (pb ts a)->Fun G 284 [.ptr i 0] σ (PQ ts i σ (par .I (ts.drop a))))
 (hW:∀b,a<b->b≤ts.length->∀σ:LLV,σ[i]? = some (pb ts b)->Fun G 255 [.ptr i 0] σ (PQ ts i σ (par .W (ts.drop b))))
 (σ:LLV)(hi:σ[i]? = some (pb ts a)):Fun G 255 [.ptr i 0] σ (PQ ts i σ (par .W (ts.drop a))):=by
 refine ae Tryz.func255 Tc rfl fun hb hw=>?_;have S:=St.init hi hb;have hpar:=lm .W (ts.drop a);simp only[bj]at hpar;unfold ME;simp -dsimp only[aw,seval];refine iR H S ha (hI _ (ah hi _)) (fun e a1 hx g1 g2 g3 σ1 S1 hl1=>?_) (fun c r b hx σ1 S1 hl1=>?_)
 case refine_2=>
  rw[hx,PR.bind]at hpar;rw[<-hl1];simp -dsimp only[aw,seval];exact db S1 hpar rfl
 rw[hx,PR.bind,aT]at hpar;have g3:=g3 rfl;rw[<-hl1];simp -dsimp only[aw,seval,au];refine dH H (m:=aa 63) S1 g2 (fun hs ha2 σ2 S2 hl2=>?_) (fun hs=>?_)
 case refine_2=>
  rw[hs,if_neg (by decide)]at hpar;simp -dsimp only[aw,seval];exact dr S1 g2 hpar (by rw[au];simp[Fd,aC,aQ,aw,seval])
 rw[hs,if_pos rfl]at hpar;simp only at hpar;rw[<-hl2];simp -dsimp only[aw,seval];refine iR H S2 ha2 (hW _ (by omega) ha2 _ (ah S2.at_ _)) (fun e2 a3 hx2 k1 k2 k3 σ3 S3 hl3=>?_) (fun c r b hx2 σ3 S3 hl3=>?_)
 case refine_2=>
  rw[hx2,PR.bind]at hpar;rw[<-hl3];simp -dsimp only[aw,seval];exact db S3 hpar rfl
 rw[hx2,PR.bind,aT]at hpar;have k3:=k3 rfl;rw[<-hl3];simp -dsimp only[aw,seval,au];refine eX H (m:=aa 58) S3 k2 (fun hs4 ha4 σ4 S4 hl4=>?_) (fun hs4=>?_)
 case refine_2=>
  rw[hs4,if_neg (by decide)]at hpar;simp -dsimp only[aw,seval];exact dS S3 k2 hpar
 rw[hs4,if_pos rfl]at hpar;simp only at hpar;rw[<-hl4];simp -dsimp only[aw,seval];refine Ei H S4 ha4 (hW _ (by omega) ha4 _ (ah S4.at_ _)) (fun e3 a5 hx5 m1 m2 m3 σ5 S5 hl5=>⟨?_,?_⟩) (fun c r b hx5 σ5 S5 hl5=>?_) (fun⟨c,r,hx5⟩=>?_)
 .rw[<-hl5];simp -dsimp only[aw,seval]
 .rw[hx5,PR.bind]at hpar;have hN:=eo 22 [e,e2,e3];rw[<-hl5];simp -dsimp only[aw,seval,au];refine bo (by simpa only[TO,TQ,bF]using hN _) ?_;simp -dsimp only[aw,seval,au,aK,bt,aU,aH,aI];exact dr S5 m2 hpar (by rw[au];simp[Fd,aC,aQ,aK,bt,aU,aH,aI,bF,aw,seval])
 .rw[hx5,PR.bind]at hpar;intro ρ2;rw[<-hl5];simp -dsimp only[aw,seval];exact db S5 hpar rfl
 .simp -dsimp only[aw,seval]
theorem KZ(ts:List Tok)(i:Nat)(H:TsOK ts):∀n a,a≤ts.length->
 (40*(ts.length-a)+15≤n->∀σ:LLV,σ[i]? = some (pb ts a)->Fun G 255 [.ptr i 0] σ (PQ ts i σ (par .W (ts.drop a))))/\
 (40*(ts.length-a)+14≤n->∀σ:LLV,σ[i]? = some (pb ts a)->Fun G 284 [.ptr i 0] σ (PQ ts i σ (par .I (ts.drop a))))/\
 (∀k,k≤13->40*(ts.length-a)+(16-k)≤n->∀σ:LLV,σ[i]? = some (pb ts a)->Fun G 310 [.ptr i 0,.d (ab ((k:Nat):Int))] σ (PQ ts i σ (par (.L k) (ts.drop a))))/\
 (∀e,40*(ts.length-a)≤n->∀σ:LLV,σ[i]? = some (pb ts a)->Fun G 321 [.ptr i 0,vex e] σ (PQ ts i σ (par (.In e) (ts.drop a))))/\
 (40*(ts.length-a)+2≤n->∀σ:LLV,σ[i]? = some (pb ts a)->Fun G 320 [.ptr i 0] σ (PQ ts i σ (par .U (ts.drop a))))/\
 (40*(ts.length-a)+1≤n->∀σ:LLV,σ[i]? = some (pb ts a)->Fun G 326 [.ptr i 0] σ (PQ ts i σ (par .P (ts.drop a)))):=by
 intro n
 induction n using Nat.strongRecOn with
 | _ n ih=>
 intro a ha;have W:∀b,a<b->b≤ts.length->40*(ts.length-a)≤n->∀σ:LLV,σ[i]? = some (pb ts b)->Fun G 255 [.ptr i 0] σ (PQ ts i σ (par .W (ts.drop b))):=fun b hb hb2 hn=>(ih (n-1) (by omega) b hb2).1 (by omega);refine⟨fun hn=>?_,fun hn=>?_,fun k hk hn=>?_,fun e hn=>?_,fun hn=>?_,fun hn=>?_⟩
 .exact Ce ts a i H ha ((ih (n-1) (by omega) a ha).2.1 (by omega)) fun b hb hb2=>W b hb hb2 (by omega)
 .refine Gf ts a i H ha (fun σ hi=>?_) fun b hb hb2=>(ih (n-1) (by omega) b hb2).2.1 (by omega);exact(ih (n-1) (by omega) a ha).2.2.1 3 (by omega) (by omega) σ hi
 .refine EE k hk ts a i H ha (fun σ hi=>?_) (fun hk2 b hb hb2 σ hi=>?_) fun b e hb hb2=>(ih (n-1) (by omega) b hb2).2.2.2.1 e (by omega)
  .exact(ih (n-1) (by omega) a ha).2.2.2.2.1 (by omega) σ hi
  .exact(ih (n-1) (by omega) b hb2).2.2.1 (k+1) (by omega) (by omega) σ hi
 .exact yF ts a i H ha e fun b hb hb2=>W b hb hb2 hn
 .exact De ts a i H.size H.len ha ((ih (n-1) (by omega) a ha).2.2.2.2.2 (by omega)) fun b hb hb2=>(ih (n-1) (by omega) b hb2).2.2.2.2.1 (by omega)
 .exact vR ts a i H ha fun b hb hb2=>W b hb hb2 (by omega)
theorem CV(ts:List Tok)(i:Nat)(H:TsOK ts)(a:Nat)(ha:a≤ts.length)(σ:LLV)(hi:σ[i]? = some (pb ts a)):Fun G 255 [.ptr i 0] σ (PQ ts i σ (par .W (ts.drop a))):=
 (KZ ts i H _ a ha).1 (T5 _) σ hi
def F5(ts:List Tok)(x:PR):V:=match x with
 | .ok e r=>.tup [vex e,.d (ab ((ts.length-r.length:Nat):Int)),.d (ab 0)]
 | .bad c r=>.tup [vex (.mk 0 0 ⟨#[]⟩ []),.d (ab ((ts.length-r.length:Nat):Int)),.d (ab c)]
 | .out=>.junk
theorem uh(σ:LLV)(i j k:Nat):fi G 254 [.ptr i 0,.ptr j 0,.ptr k 0] σ none (fun σ'=>σ'=σ):=by
 refine eE Tryz.func254 LW rfl (fun v h=>by cases h) fun hb=>?_;unfold KC;simp -dsimp only[aw,seval,tU,sF,Option.getD_none];exact⟨σ.length,T5 _,by rw[TS];exact hb,TS⟩
theorem I6(τ:LLV)(a b c d e:List V):(τ++[a,b,c,d,e]).take (τ.length+4)=τ++[a,b,c,d]:=by
 rw[List.take_append,TR (by omega),Nat.add_sub_cancel_left];rfl
theorem uT(τ:LLV)(c:Int)(n:Nat)(l:List V):fi G 254 [.ptr τ.length 0,.ptr (τ.length+1) 0,.ptr (τ.length+2) 0] (τ++[[.d (ab 0),.d (ab 0),.d (ai ⟨#[]⟩),.nil],[.d (ab 0)],[.d (ab 0)],l]) (some (ef c n))
 (fun σ'=>σ'=τ++[[.d (ab 0),.d (ab 0),.d (ai ⟨#[]⟩),.nil],[.d (ab n)],[.d (ab c)],l]):=by
 refine eE Tryz.func254 LW rfl (fun v h=>by cases h;rfl) fun hb=>?_;unfold KC ef;simp -dsimp only[aw,seval,tU,sF,Option.getD_some];refine⟨τ.length+4,by simp,?_,?_⟩
 .rw[I6];simp only[T1,TU,TV,Nat.reduceAdd]at hb;unfold am at hb ⊢;rw[List.all_append,TJ]at hb ⊢;refine⟨hb.1,?_⟩;have:=hb.2;simp only[List.all_cons,List.all_nil,Bool.and_true,TJ]at this ⊢;exact⟨rfl,rfl,rfl,this.2.2.2⟩
 .rw[I6]
theorem wY(ts:List Tok)(H:TsOK ts)(a:Nat)(ha:a≤ts.length)(σ:LLV):Fun G 221 [.d (.sl (ts.map di)),.d (ab a)] σ (aN (F5 ts (par .W (ts.drop a))) σ):=by
 refine mT Tryz.func221 Sh rfl fun hb hw=>?_;unfold Pa;have hP:=CV ts (σ.length+3) H a ha;simp -dsimp only[aw,seval,je,F0];refine aB (hP _ (by rw[qj];rfl)) fun o σ' hq=>?_;cases hx:par .W (ts.drop a)with
 | out=>exact absurd hx (fA _ _)
 | bad c r=>
  rw[hx]at hq;obtain⟨rfl,b,rfl⟩:=hq;rw[lp];simp -dsimp only[aw,seval,bi];refine(uT σ c (ts.length-r.length) _).mono fun σ' h=>?_;subst h;exact⟨_,by simp[Gc,aC,bZ,aQ,aw,seval];rfl,σ.length,T5 _,by rw[TS];exact hb,rfl,by rw[TS];exact⟨by simp[F5,au,bt,aU,aH,aI],rfl⟩⟩
 | ok e r=>
  rw[hx]at hq;obtain⟨rfl,rfl⟩:=hq;rw[lp];simp -dsimp only[aw,seval,aR,au,pb];refine(uh _ _ _ _).mono fun σ' h=>?_;subst h;exact⟨.tup [vex e,.d (ab ((ts.length-r.length:Nat):Int)),.d (ab 0)],by rw[au];simp[Gc,aC,bZ,aQ,aw,seval],σ.length,T5 _,by rw[TS];exact hb,by rw[au];rfl,by rw[TS];exact⟨rfl,rfl⟩⟩
def dU(e n:Int):V:=.iface 101 (.agg [.d (ab e),.d (ab n)])
structure TsV(ts:List Tok):Prop where
 ok:TsOK ts
 v:∀t,t∈ts->bO t=true
def zLs(ts:List Tok):Int:=match ts.getLast? with
 | some t=>t.line
 | none=>0
def lnA(ts:List Tok)(a:Nat):Int:=lnR (zLs ts) (ts.drop a)
theorem Jo{ts:List Tok}(h:ts.length-1<ts.length):zLs ts=ts[ts.length-1].line:=by
 unfold zLs;rw[List.getLast?_eq_getElem?,TN h]
theorem nN{α:Type}{ts:List Tok}{a:Nat}:(jc (zLs ts) (ts.drop a):CP α)=.bad (bQ ts a) (lnA ts a):=by
 unfold bQ lnA;by_cases h:a<ts.length
 .rw[if_pos h,TY h];rfl
 .rw[if_neg h,TZ (by omega)];rfl
theorem jg(ts:List Tok)(a i:Nat)(σ:LLV)(hi:σ[i]? = some (pb ts a)):Fun G 35 [.ptr i 0] σ (aN (ao (decide (a<ts.length))) σ):=by
 refine ae Tryz.func35 k35 rfl fun hb hw=>?_;unfold c35;unfold pb at hi;simp -dsimp only[aw,seval,hi,Int.ofNat_lt];exact ak hb rfl rfl
theorem oE(ts:List Tok)(a b i:Nat)(e:Int)(H:TsV ts)(hb9:b≤ts.length)(σ:LLV)(hi:σ[i]? = some (pb ts a)):
 Fun G 87 [.ptr i 0,.d (ab e),.d (ab b)] σ fun o σ'=>o=.panic (dU e (lnA ts b))/\σ'=σ:=by
 refine ae Tryz.func87 k87 rfl fun hb hw=>?_;unfold c87;have hl:=H.ok.len;unfold pb at hi;have done:∀(ρ:aj) rs,fin σ.length rs (fun o σ'=>o=.panic (dU e (lnA ts b))/\σ'=σ) (.panic (dU e (lnA ts b))) ρ σ:=fun ρ rs=>⟨σ.length,T5 _,by rw[TP];exact hb,rfl,rfl,TP⟩
 by_cases h0:ts.length=0
 .have:ts=[]:=TT h0;subst this;have dz:decide ((0:Int)<((0:Nat):Int))=false:=rfl;have hln:lnA [] b=0:=by unfold lnA;rw[List.drop_nil];rfl
  rw[hln]at done ⊢;simp only[TQ]at hi;simp -dsimp only[aw,seval,hi,dz,TV];exact done _ _
 .have d0:decide ((0:Int)<((ts.length:Nat):Int))=true:=by rw[decide_eq_true_eq];omega
  have hw1:IntKind.i64.wrap (((ts.length:Nat):Int)-1)=((ts.length-1:Nat):Int):=by rw[aA (by omega) (by omega)];omega
  have hmin:min ((b:Nat):Int) ((ts.length-1:Nat):Int)=((min b (ts.length-1):Nat):Int):=by omega
  have hlt:min b (ts.length-1)<ts.length:=by omega
  have hln:lnA ts b=ts[min b (ts.length-1)].line:=by
   unfold lnA;by_cases h:b<ts.length
   .have e:min b (ts.length-1)=b:=by omega
    rw[TY h];simp only[e];rfl
   .have e:min b (ts.length-1)=ts.length-1:=by omega
    rw[TZ (by omega)];simp only[e];exact Jo (by omega)
  rw[hln]at done ⊢;simp -dsimp only[aw,seval,hi,d0,hw1,hmin,TN hlt,bG,di];exact done _ _
theorem jt(ts:List Tok)(a i:Nat)(H:TsV ts)(ha:a≤ts.length)(σ:LLV)(hi:σ[i]? = some (pb ts a)):
 Fun G 36 [.ptr i 0] σ fun o σ'=>o=.panic (dU (bQ ts a) (lnA ts a))/\σ'=σ:=by
 refine ae Tryz.func36 k36 rfl fun hb hw=>?_;unfold c36;have hM:=jg ts a i σ hi;have hF:=fun e=>oE ts a a i e H ha σ hi;unfold pb at hi;have done:∀(ρ:aj) rs,fin σ.length rs (fun o σ'=>o=.panic (dU (bQ ts a) (lnA ts a))/\σ'=σ) (.panic (dU (bQ ts a) (lnA ts a))) ρ σ:=fun ρ rs=>⟨σ.length,T5 _,by rw[TP];exact hb,rfl,rfl,TP⟩
 simp -dsimp only[aw,seval];refine ac hM ?_;by_cases hlt:a<ts.length
 .have hE:bQ ts a=5:=by unfold bQ;rw[if_pos hlt]
  rw[hE]at done ⊢;simp -dsimp only[aw,seval,decide_eq_true hlt,hi];refine aB (hF 5) fun o σ' ⟨e1,e2⟩=>?_;subst e1;subst e2;simp -dsimp only[aw,seval,bi];exact done _ _
 .have hE:bQ ts a=6:=by unfold bQ;rw[if_neg hlt]
  rw[hE]at done ⊢;simp -dsimp only[aw,seval,decide_eq_false hlt,hi];refine aB (hF 6) fun o σ' ⟨e1,e2⟩=>?_;subst e1;subst e2;simp -dsimp only[aw,seval,bi];exact done _ _
def nxB(k:Int)(m:ByteArray)(ts:List Tok)(a:Nat):Bool:=match ts[a]? with
 | some t=>decide (t.kind=k)&&decide (t.text=m)
 | none=>false
theorem BP(k:Int)(m:ByteArray)(ts:List Tok)(a i:Nat)(H:TsV ts)(σ:LLV)(hi:σ[i]? = some (pb ts a)):
 Fun G 175 [.ptr i 0,.d (ab k),.d (ai m)] σ (aN (ao (nxB k m ts a)) σ):=by
 refine ae Tryz.func175 SK rfl fun hb hw=>?_;unfold c175;have hM:=fun l=>jg ts a i (σ++l) (ah hi l);have hM0:=jg ts a i σ hi;unfold pb at hi;simp -dsimp only[aw,seval];refine bo hM0 ?_;by_cases hlt:a<ts.length
 .unfold nxB;rw[TN hlt];simp only;by_cases h1:ts[a].kind=k
  .simp -dsimp only[aw,seval,hi,decide_eq_true hlt,TN hlt,bG,di,decide_eq_true h1];exact ak hb rfl rfl
  .simp -dsimp only[aw,seval,hi,decide_eq_true hlt,TN hlt,bG,di,decide_eq_false h1];exact ak hb rfl rfl
 .unfold nxB;rw[T0 (by omega)];simp -dsimp only[aw,seval,hi,decide_eq_false hlt];exact ak hb rfl rfl
theorem tV(k:Int)(m:ByteArray)(ts:List Tok)(a i:Nat)(H:TsV ts)(ha:a≤ts.length)(σ:LLV)(hi:σ[i]? = some (pb ts a)):
 Fun G 117 [.ptr i 0,.d (ab k),.d (ai m)] σ fun o σ'=>o=.ret (ao (nxB k m ts a))/\σ'=if nxB k m ts a=true then σ.set i (pb ts (a+1))else σ:=by
 refine ae Tryz.func117 RA rfl fun hb hw=>?_;unfold NM;have hS:=BP k m ts a i H σ hi;have hl:=H.ok.len;simp -dsimp only[aw,seval];refine ac hS ?_;cases hs:nxB k m ts a with
 | false=>
  simp -dsimp only[aw,seval,TK,if_false];exact az hb rfl rfl TP ⟨rfl,rfl⟩
 | true=>
  unfold pb at hi;simp -dsimp only[aw,seval,hi,aA (show -9223372036854775808≤((a:Nat):Int)+1 by omega) (show((a:Nat):Int)+1≤9223372036854775807 by omega),if_true];exact bp (τ:=σ.set i (pb ts (a+1))) (bq hb rfl) rfl rfl (by rw[TR (by rw[TW];exact T5 _)];rfl) ⟨rfl,rfl⟩
theorem Dt{k:Int}{m:ByteArray}{ts:List Tok}{a:Nat}(H:TsV ts)(hm:k=4/\bO (tw m)=false\/k=2/\bO (tm m)=false):nxB k m ts a=ax m ts a:=by
 unfold nxB;by_cases hlt:a<ts.length
 .rw[TN hlt,nI hlt,H.v _ (T4 hlt),TL];have hv:=H.v _ (T4 hlt);generalize ts[a]=t at *;simp only;by_cases ht:t.text=m
  .subst ht
   have h2:t.kind=2->bO (tw t.text)=true:=fun h=>by
    have e:bO (tw t.text)=(decide ((0:Int)=0)&&inB t.text cj):=rfl;unfold bO at hv;rw[if_neg (by omega),if_neg (by omega),if_pos h]at hv;rw[e];exact Bool.and_eq_true_iff.2 ⟨rfl,(Bool.and_eq_true_iff.1 hv).2⟩
   have h4:t.kind=4->bO (tm t.text)=true:=fun h=>by
    have e:bO (tm t.text)=(decide ((0:Int)=0)&&aP.contains t.text.data.toList):=rfl;unfold bO at hv;rw[if_neg (by omega),if_neg (by omega),if_neg (by omega),if_pos h]at hv;rw[e];exact Bool.and_eq_true_iff.2 ⟨rfl,(Bool.and_eq_true_iff.1 hv).2⟩
   rcases hm with⟨rfl,hm⟩|⟨rfl,hm⟩
   .have:t.kind≠2:=fun h=>by rw[h2 h]at hm;cases hm
    simp[this]
   .have:t.kind≠4:=fun h=>by rw[h4 h]at hm;cases hm
    simp[this]
  .simp[ht]
 .rw[T0 (by omega),fH hlt]
theorem AQ(m:ByteArray)(ts:List Tok)(a i:Nat)(H:TsV ts)(ha:a≤ts.length)(hm:bO (tw m)=false)(σ:LLV)(hi:σ[i]? = some (pb ts a)):
 Fun G 121 [.ptr i 0,.d (ai m)] σ fun o σ'=>o=.ret (ao (ax m ts a))/\σ'=if ax m ts a=true then σ.set i (pb ts (a+1))else σ:=by
 refine ae Tryz.func121 TG rfl fun hb hw=>?_;unfold Of;have hS:=tV 4 m ts a i H ha σ hi;rw[Dt H (.inl ⟨rfl,hm⟩)]at hS;simp -dsimp only[aw,seval];refine aB hS fun o σ' ⟨e1,e2⟩=>?_;subst e1;rw[aR];simp -dsimp only[aw,seval];cases hs:ax m ts a with
 | false=>
  rw[hs,if_neg (by decide)]at e2;subst e2;exact az hb rfl rfl TP ⟨rfl,by rw[if_neg (by decide)]⟩
 | true=>
  rw[hs,if_pos rfl]at e2;subst e2;exact bp (τ:=σ.set i (pb ts (a+1))) (bq hb rfl) rfl rfl (by rw[TR (by rw[TW];exact T5 _)]) ⟨rfl,by rw[if_pos rfl]⟩
theorem CT(m:ByteArray)(ts:List Tok)(a i:Nat)(H:TsV ts)(ha:a≤ts.length)(hm:bO (tm m)=false)(σ:LLV)(hi:σ[i]? = some (pb ts a)):
 Fun G 60 [.ptr i 0,.d (ai m)] σ fun o σ'=>o=.ret (ao (ax m ts a))/\σ'=if ax m ts a=true then σ.set i (pb ts (a+1))else σ:=by
 refine ae Tryz.func60 k60 rfl fun hb hw=>?_;unfold c60;have hS:=tV 2 m ts a i H ha σ hi;rw[Dt H (.inr ⟨rfl,hm⟩)]at hS;simp -dsimp only[aw,seval];refine aB hS fun o σ' ⟨e1,e2⟩=>?_;subst e1;rw[aR];simp -dsimp only[aw,seval];cases hs:ax m ts a with
 | false=>
  rw[hs,if_neg (by decide)]at e2;subst e2;exact az hb rfl rfl TP ⟨rfl,by rw[if_neg (by decide)]⟩
 | true=>
  rw[hs,if_pos rfl]at e2;subst e2;exact bp (τ:=σ.set i (pb ts (a+1))) (bq hb rfl) rfl rfl (by rw[TR (by rw[TW];exact T5 _)]) ⟨rfl,by rw[if_pos rfl]⟩
theorem B0(l:Bs)(d:UInt8):ck (l++[d])=10*ck l+(d.toNat-48):=by
 unfold ck;rw[List.foldl_append];rfl
theorem Av:∀(l:Bs) (n:Nat),n≤l.foldl (fun n c=>10*n+(c.toNat-48)) n
 | [],n=>T5 _
 | c::l,n=>Nat.le_trans (by omega) (Av l (10*n+(c.toNat-48)))
theorem Gu:∀(k:Nat) (l:Bs),l.length=k+1->(∀x,x∈l->dG x.toNat=true)->(1<l.length->l.head? ≠ some 48)->Lib.decDigits (ck l)=l:=by
 intro k
 induction k with
 | zero=>
  intro l hl hd _
  match l,hl with
  | [d],_=>
   have:=hd d (by simp);simp only[dG,TJ,decide_eq_true_eq]at this;have e:ck [d]=d.toNat-48:=by simp[ck]
   rw[e,Lib.decDigits,dif_pos (by omega)];congr 1;rw[<-T8,xb _ (by omega)];omega
 | succ k ih=>
  intro l hl hd hz
  obtain⟨x,d,rfl⟩:∃x d,l=x++[d]:=by
   rcases List.eq_nil_or_concat l with h|⟨x,d,h⟩
   .rw[h]at hl;simp at hl
   .exact⟨x,d,by rw[h];simp⟩
  have hxl:x.length=k+1:=by simpa using hl
  have hdd:=hd d (by simp);simp only[dG,TJ,decide_eq_true_eq]at hdd
  have hx:=ih x hxl (fun y hy=>hd y (by simp[hy])) (fun h1 h2=>hz (by simp;omega) (by
   cases x with
   | nil=>simp at hxl
   | cons a x=>simpa using h2))
  have hpos:1≤ck x:=by
   match x,hxl with
   | a::r,_=>
    have ha:=hd a (by simp);simp only[dG,TJ,decide_eq_true_eq]at ha;have hne:a≠48:=fun e=>hz (by simp) (by simp[e])
    have h49:49≤a.toNat:=by
     apply Classical.byContradiction;intro hh;exact hne (by rw[<-T8];show a.toNat=48;omega)
    have:=Av r (10*0+(a.toNat-48));show 1≤(a::r).foldl _ 0;rw[List.foldl_cons];omega
  rw[B0,Lib.decDigits,dif_neg (by omega)];have e1:(10*ck x+(d.toNat-48))/10=ck x:=by omega
  have e2:(10*ck x+(d.toNat-48))%10=d.toNat-48:=by omega
  rw[e1,e2,hx];congr 2;rw[<-T8,xb _ (by omega)];omega
theorem xe:∀(k u:Nat),u<10^(k+1)->(Lib.decDigits u).length≤k+1
 | 0,u,h=>by rw[Lib.decDigits,dif_pos (by omega)];simp
 | k+1,u,h=>by
  rw[Lib.decDigits];split
  .simp
  .have:=xe k (u/10) (by rw[Nat.pow_succ]at h;omega);simp;omega
theorem Cg{c:UInt8}{r:Bs}{kd n:Int}{len:Nat}(N:Int)(h:c7 (c::r)=.tok kd n len):bO (iH N (c::r) kd n len)=true/\len≤16:=by
 have htake:∀(p:UInt8->Bool),(c::r).take ((c::r).takeWhile p).length=(c::r).takeWhile p:=fun p=>(List.prefix_iff_eq_take.1 (List.takeWhile_prefix p)).symm;simp only[c7]at h;split at h
 .rename_i hl;split at h
  .cases h
  .rename_i h16;cases h;refine⟨?_,by omega⟩;unfold iH;rw[htake]
   have hall:∀x,x∈(c::r).takeWhile inn->inn x=true:=fun x hx=>by
    have:=List.all_takeWhile (p:=inn) (l:=c::r);exact List.all_eq_true.1 this x hx
   have hinc:inn c=true:=by unfold inn dV;simp[hl]
   have hne:(c::r).takeWhile inn=c::r.takeWhile inn:=TX hinc
   have hw:fm (⟨((c::r).takeWhile inn).toArray⟩:ByteArray)=true:=by
    unfold fm;show kj ((c::r).takeWhile inn)=true;rw[hne]at hall ⊢;simp only[kj,hl,TL];rw[List.all_eq_true];exact hall
   by_cases hk:inB ⟨((c::r).takeWhile inn).toArray⟩ cj=true
   .rw[if_pos hk];unfold bO;simp[hk]
   .have hsz:(⟨((c::r).takeWhile inn).toArray⟩:ByteArray).size≤16:=by rw[Lib.size_eq];simpa using h16
    rw[if_neg hk];have hk2:inB ⟨((c::r).takeWhile inn).toArray⟩ cj=false:=by simpa using hk
    unfold bO bC;simp only[hw,hk2,hsz,decide_true,Bool.and_self,Bool.not_false];rfl
 .split at h
  .rename_i hd;split at h
   .cases h
   .rename_i h1;split at h
    .cases h
    .rename_i h2;cases h
     have hd2:∀x,x∈(c::r).takeWhile inn->dG x.toNat=true:=fun x hx=>by
      have:((c::r).takeWhile inn).all (fun x=>dG x.toNat)=true:=by
       cases hh:((c::r).takeWhile inn).all fun x=>dG x.toNat with
       | true=>rfl
       | false=>exact absurd (.inl hh) h1
      exact List.all_eq_true.1 this x hx
     have hne:(c::r).takeWhile inn=c::r.takeWhile inn:=TX (by unfold inn dV;simp[hd])
     have hz:1<((c::r).takeWhile inn).length->((c::r).takeWhile inn).head? ≠ some 48:=fun hh e=>by
      rw[hne]at e;simp at e;exact h1 (.inr ⟨hh,e⟩)
     have hb:=Gu (r.takeWhile inn).length _ (by rw[hne];rfl) hd2 hz
     have hlen:((c::r).takeWhile inn).length≤16:=by
      have:=xe 9 (ck ((c::r).takeWhile inn)) (by omega);rw[hb]at this;omega
     refine⟨?_,hlen⟩;unfold iH;rw[htake];unfold bO;simp[hb];omega
  .split at h
   .cases h
   .rename_i hb;cases h;rcases nH aP 0 (c::r)with h1|⟨m,h1,h2,h3⟩
    .exact absurd h1 hb
    .have h5:=wF m h1;have h6:dN (c::r)=m.length:=h3;refine⟨?_,by rw[h6];omega⟩;unfold iH;rw[h6,<-List.prefix_iff_eq_take.1 (List.isPrefixOf_iff_prefix.1 h2)];unfold bO;simp[h1]
theorem Db:∀(k:Nat) (N:Int) (l:Bs) (ts:List Tok),l.length≤k->fV N l=.ok ts->(∀t,t∈ts->bO t=true/\t.text.size≤16)/\ts.length≤l.length:=by
 intro k
 induction k with
 | zero=>
  intro N l ts h ht;have:l=[]:=TT (by omega);subst this;rw[cX,gx]at ht;cases ht;simp
 | succ k ih=>
  intro N l ts h ht;rw[cX]at ht;have hs:=(dI l).length_le;cases hsk:bE l with
  | nil=>rw[hsk]at ht;cases ht;simp
  | cons c r=>
   rw[hsk]at ht hs;simp only at ht;cases hrd:c7 (c::r)with
   | err e=>rw[hrd]at ht;cases ht
   | tok kd n len=>
    obtain⟨g1,g2⟩:=jh hrd;obtain⟨v1,v2⟩:=Cg N hrd;rw[hrd]at ht;simp only at ht;have hdl:=T3 (l:=c::r) (i:=len);cases hq:fV N ((c::r).drop len)with
    | err x e=>rw[hq]at ht;cases ht
    | ok us=>
     rw[hq]at ht;cases ht;obtain⟨i1,i2⟩:=ih N _ us (by omega) hq;refine⟨fun t ht=>?_,by simp only[TU]at *;omega⟩;rcases List.mem_cons.1 ht with rfl|ht
     .refine⟨v1,?_⟩;unfold iH;rw[Lib.size_eq];simp only[List.length_take,List.size_toArray];simp;omega
     .exact i1 t ht
theorem gf{l:Bs}{ts:List Tok}(h:cS l=.ok ts):(∀t,t∈ts->bO t=true/\t.text.size≤16)/\ts.length≤l.length:=Db _ _ l ts (T5 _) h
def z0:Ex:=.mk 0 0 ⟨#[]⟩ []
theorem jQ:vex z0=.agg [.d (ab 0),.d (ab 0),.d (ai ⟨#[]⟩),.d (.sl [])]:=by unfold z0;rw[au];rfl
def iu(x:Ex×Int×Int):V:=.tup [vex x.1,.d (ab x.2.1),.d (ab x.2.2)]
theorem pk(l:Bs)(hl:16384<l.length)(σ:LLV):Fun G 58 [.d (ai (bs l))] σ (aN (.tup [.d (.sl []),.d (ab 0),.d (ab 2)]) σ):=by
 refine ae Tryz.func58 k58 rfl fun hb hw=>?_;unfold c58;have hbig':(16384:Int)<((l.length:Nat):Int):=by omega
 simp -dsimp only[aw,seval,aG,decide_eq_true hbig'];exact ak hb rfl rfl
theorem IC{l:Bs}{ts:List Tok}(h:cS l=.ok ts)(hl:l.length≤16384):TsOK ts:=by
 obtain⟨h1,h2⟩:=gf h;exact⟨fun t ht=>by have:=(h1 t ht).2;omega,by omega⟩
theorem oN{l:Bs}{n e:Int}(h:cS l=.err n e):e≠0:=by
 suffices H:∀(k:Nat) (N:Int) (l:Bs),l.length≤k->fV N l=.err n e->e≠0 from H _ _ l (T5 _) h
 intro k
 induction k with
 | zero=>
  intro N l h ht;have:l=[]:=TT (by omega);subst this;rw[cX,gx]at ht;cases ht
 | succ k ih=>
  intro N l h ht;rw[cX]at ht;have hs:=(dI l).length_le;cases hsk:bE l with
  | nil=>rw[hsk]at ht;cases ht
  | cons c r=>
   rw[hsk]at ht hs;simp only at ht;cases hrd:c7 (c::r)with
   | err e'=>rw[hrd]at ht;cases ht;exact qR hrd
   | tok kd n' len=>
    obtain⟨g1,g2⟩:=jh hrd;rw[hrd]at ht;simp only at ht;have hdl:=T3 (l:=c::r) (i:=len);cases hq:fV N ((c::r).drop len)with
    | err x e'=>
     rw[hq]at ht;cases ht;exact ih N _ (by omega) hq
    | ok us=>rw[hq]at ht;cases ht
end Go.Proofs.YtnhphlmblenapaaGreatDoor
