import Derived.Test.YtnhphlmblenapaaGreatDoorPm6
set_option linter.unusedVariables false
set_option linter.unusedSimpArgs false
set_option linter.unusedSectionVars false
set_option maxHeartbeats 4000000
open Bool renaming and_eq_true->TU,false_eq_true->TV,true_and->TW,false_or->TX
open List renaming getElem?_eq_getElem->TY,map_cons->TZ,take_length->T0,map_nil->T3,take_of_length_le->T4,take_left->T5,eq_nil_of_length_eq_zero->T6,length_cons->T7,length_nil->T8,length_set->T9,takeWhile_cons_of_pos->Ua,drop_eq_getElem_cons->Ub,drop_eq_nil_of_le->Uc,getElem?_eq_none->Ud,length_append->Ue,length_drop->Uf,getElem_mem->Ug
open Nat renaming le_refl->Uh
open Option renaming isSome_none->Ui,map_none->Uj
open UInt8 renaming toNat_inj->Uk
namespace Go.Proofs.YtnhphlmblenapaaGreatDoor
open Go.RowKit
open Nat renaming reduceLeDiff -> jA, reduceBEq -> jB, reduceLT -> jC, reduceEqDiff -> jD, reduceAdd -> jE, reduceSub -> jF, reduceMul -> jG
open V renaming copy -> jV, lend -> jW, lend1 -> jX, cells -> jY, boxable -> jZ
theorem y8(ts:List Tok)(a i:Nat)(H:TsOK ts)(ha:a≤ts.length)(a0:Ex)
 (hW:∀b,a<b->b≤ts.length->∀σ:LLV,σ[i]? = some (pb ts b)->Fun G 255 [.ptr i 0] σ (PQ ts i σ (par .W (ts.drop b))))
 (σ:LLV)(hi:σ[i]? = some (pb ts a)):Fun G 321 [.ptr i 0,vex a0] σ (PQ ts i σ (par (.In a0) (ts.drop a))):=by
 refine ai Tryz.func321 Rq (by simp only[an];rfl) fun hb hw=>?_;have S:=St.init hi hb;have hpar:=cP (.In a0) (ts.drop a);simp only[aJ,bR]at hpar;unfold NP;simp -dsimp only[aw,jV,jW,jX,jY,jZ,jA,reduceIte,reduceCtorEq,jB,jC,jD,jE,jF,jG,an];refine fI H (m:=aa 123) S ha (fun hs ha1 σ1 S1 hl1=>?_) (fun hs=>?_)
 case refine_2=>
  rw[hs,if_neg (by decide)]at hpar;simp -dsimp only[aw,jV,jW,jX,jY,jZ,jA,reduceIte,reduceCtorEq,jB,jC,jD,jE,jF,jG];exact eu S ha hpar
 rw[hs,if_pos rfl]at hpar;simp only at hpar;rw[<-hl1];simp -dsimp only[aw,jV,jW,jX,jY,jZ,jA,reduceIte,reduceCtorEq,jB,jC,jD,jE,jF,jG];refine aN [0,4,5] (R:=fun(j:Nat) ρ σ'=>∃(a1:Nat) (args:List Ex) (σ2:LLV) (x:LLV),ρ=[(0,.ptr i 0),(4,.ptr (σ1.length+1) 0),(5,.own 50 4 (args.map dex))]/\σ'=σ2++x/\x=[[.d (ac a0.op),.d (ac a0.num),.d (ab a0.name),.d (.sl (a0.args.map dex))],[.d (ac 0),.d (ac 0),.d (ab ⟨#[]⟩),.nil]]/\St σ i ts a1 σ2/\σ2.length=σ1.length/\a1≤ts.length/\a+1+j≤a1/\args.length≤2*a1/\par (.In a0) (ts.drop a)=par (.Ip args) (ts.drop a1)) (ts.length-a) ⟨a+1,[a0],σ1,_,by simp only[TZ,T3,bC];rfl,rfl,rfl,S1,rfl,ha1,by omega,by simp only[T7,T8];omega,hpar⟩ ?_ _;rintro j ρ' σ' hj ⟨a1,args,σ2,x,rfl,rfl,hx,S2,hl2,h1,h2,h3,hp2⟩;have hp3:=cP (.Ip args) (ts.drop a1);rw[<-hp2]at hp3;simp only[aJ]at hp3
 subst hx;rw[<-hl2];simp -dsimp only[aw,jV,jW,jX,jY,jZ,jA,reduceIte,reduceCtorEq,jB,jC,jD,jE,jF,jG];refine jR H S2 h1 (hW _ (by omega) h1 _ (al S2.at_ _)) (fun e1 a2 hx g1 g2 g3 σ3 S3 hl3=>?_) (fun c r b hx σ3 S3 hl3=>?_)
 case refine_2=>
  rw[hx,PR.bind]at hp3;rw[<-hl3];simp -dsimp only[aw,jV,jW,jX,jY,jZ,jA,reduceIte,reduceCtorEq,jB,jC,jD,jE,jF,jG];exact dD S3 hp3 rfl
 rw[hx,PR.bind,bR]at hp3;have g3:=g3 rfl;rw[<-hl3];simp -dsimp only[aw,jV,jW,jX,jY,jZ,jA,reduceIte,reduceCtorEq,jB,jC,jD,jE,jF,jG,an];refine fI H (m:=aE 46 46) S3 g2 (fun hs3 ha4 σ4 S4 hl4=>?_) (fun hs3=>?_)
 case refine_2=>
  rw[hs3,if_neg (by decide)]at hp3;simp -dsimp only[aw,jV,jW,jX,jY,jZ,jA,reduceIte,reduceCtorEq,jB,jC,jD,jE,jF,jG];exact eu S3 g2 hp3
 rw[hs3,if_pos rfl]at hp3;simp only at hp3;rw[<-hl4];simp -dsimp only[aw,jV,jW,jX,jY,jZ,jA,reduceIte,reduceCtorEq,jB,jC,jD,jE,jF,jG];refine FE H S4 ha4 (hW _ (by omega) ha4 _ (al S4.at_ _)) (fun e2 a3 hx2 k1 k2 k3 σ5 S5 hl5=>⟨?_,?_⟩) (fun c r b hx2 σ5 S5 hl5=>?_) (fun⟨c,r,hx2⟩=>?_)
 .rw[<-hl5];simp -dsimp only[aw,jV,jW,jX,jY,jZ,jA,reduceIte,reduceCtorEq,jB,jC,jD,jE,jF,jG]
 .rw[<-hl5];rw[hx2,PR.bind,bR]at hp3;have k3:=k3 rfl;have hL:=H.len;simp -dsimp only[aw,jV,jW,jX,jY,jZ,jA,reduceIte,reduceCtorEq,jB,jC,jD,jE,jF,jG,an];refine bI (by omega) ?_;simp -dsimp only[aw,jV,jW,jX,jY,jZ,jA,reduceIte,reduceCtorEq,jB,jC,jD,jE,jF,jG];have hrows:args.map dex++[[ac e1.op,ac e1.num,ab e1.name,D.sl (e1.args.map dex)],[ac e2.op,ac e2.num,ab e2.name,D.sl (e2.args.map dex)]]=(args++[e1,e2]).map dex:=by rw[List.map_append,TZ,TZ,T3,bC,bC]
  rw[hrows];refine dY H (m:=aa 44) S5 k2 (fun h44 ha6 σ6 S6 hl6=>?_) (fun h44=>?_)
  .rw[h44,if_pos rfl]at hp3;simp only at hp3;rw[<-hl6];simp -dsimp only[aw,jV,jW,jX,jY,jZ,jA,reduceIte,reduceCtorEq,jB,jC,jD,jE,jF,jG];refine⟨by omega,Nxt.to (σ6++[[.d (ac a0.op),.d (ac a0.num),.d (ab a0.name),.d (.sl (a0.args.map dex))],[.d (ac 0),.d (ac 0),.d (ab ⟨#[]⟩),.nil]]) [[.d (ac e1.op),.d (ac e1.num),.d (ab e1.name),.d (.sl (e1.args.map dex))]] (by simp) (by simp) (ax S6.bb rfl) ?_ ⟨a3+1,args++[e1,e2],σ6,_,?_,rfl,rfl,S6,?_,ha6,by omega,?_,hp3⟩⟩
   .have:=S6.lt;simp[aq,V.under,S6.len];omega
   .rw[hl6,hl5,hl4,hl3,hl2]
   .omega
   .simp only[Ue,T7,T8];omega
  .rw[h44,if_neg (by decide),bR]at hp3;simp -dsimp only[aw,jV,jW,jX,jY,jZ,jA,reduceIte,reduceCtorEq,jB,jC,jD,jE,jF,jG];refine fI H (m:=aa 125) S5 k2 (fun hs6 ha6 σ6 S6 hl6=>?_) (fun hs6=>?_)
   .rw[hs6,if_pos rfl]at hp3;have hN:=eS 23 (args++[e1,e2]);rw[<-hl6];simp -dsimp only[aw,jV,jW,jX,jY,jZ,jA,reduceIte,reduceCtorEq,jB,jC,jD,jE,jF,jG];refine ae (hN _) ?_;simp -dsimp only[aw,jV,jW,jX,jY,jZ,jA,reduceIte,reduceCtorEq,jB,jC,jD,jE,jF,jG,an,aU,bX,bp,aK,aL];exact dM S6 ha6 hp3 (by rw[an];simp[Lo,be,bL,aU,bX,bp,aK,aL,bC,aw,jV,jW,jX,jY,jZ,jA,reduceIte,reduceCtorEq,jB,jC,jD,jE,jF,jG])
   .rw[hs6,if_neg (by decide)]at hp3;simp -dsimp only[aw,jV,jW,jX,jY,jZ,jA,reduceIte,reduceCtorEq,jB,jC,jD,jE,jF,jG];exact eu S5 k2 hp3
 .rw[hx2,PR.bind]at hp3;intro ρ2;rw[<-hl5];simp -dsimp only[aw,jV,jW,jX,jY,jZ,jA,reduceIte,reduceCtorEq,jB,jC,jD,jE,jF,jG];exact dD S5 hp3 rfl
 .simp -dsimp only[aw,jV,jW,jX,jY,jZ,jA,reduceIte,reduceCtorEq,jB,jC,jD,jE,jF,jG]
theorem zx{ts:List Tok}{a k:Nat}(h:ga ts a k=true):∃(o:Int) (ex:Bool) (m:ByteArray) (n:Int),lJ ts a k=.tup [.agg [.d (ab m),.d (ac o),.d (ac n)],ak ex,ak true]/\dH k (ts.drop a)=some (o,ex,ts.drop (a+1)):=by
 unfold ga at h;unfold lJ dH;rw[oc];cases hf:gU ce k ts a with
 | some b=>exact⟨_,_,_,_,rfl,rfl⟩
 | none=>
  rw[hf]at h;simp only[Ui,TX,TU,decide_eq_true_eq,Bool.or_eq_true]at h;obtain⟨rfl,h⟩:=h;simp only[Uj,if_true,true_and,bR];cases h62:bG (aa 62) ts a with
  | true=>exact⟨_,_,_,_,rfl,by simp⟩
  | false=>
   rw[h62]at h;have h:=h.resolve_left (by decide);simp only[h,TV,if_false,if_true];exact⟨_,_,_,_,rfl,rfl⟩
theorem yW{ts:List Tok}{a k:Nat}(h:ga ts a k=false):lJ ts a k=.tup [zb,ak false,ak false]/\dH k (ts.drop a)=none:=by
 unfold ga at h;unfold lJ dH;rw[oc];cases hf:gU ce k ts a with
 | some b=>rw[hf]at h;simp at h
 | none=>
  rw[hf]at h;simp only[Ui,TX,Bool.and_eq_false_iff,decide_eq_false_iff_not,Bool.or_eq_false_iff]at h;simp only[Uj,bR];rcases h with h|⟨h1,h2⟩
  .simp[h]
  .simp[h1,h2]
section
variable {σ0 σ : LLV} {i : Nat} {ts : List Tok} {a : Nat} (H : TsOK ts) {l : LLV} {K P : V -> LLV -> Prop} {s : Tag K} {t : Tag P}
include H
theorem CX{k:Nat}(h:ga ts a k=true):a+1≤ts.length:=by
 apply Classical.byContradiction;intro hn;have hs:∀m,bG m ts a=false:=fun m=>iX (by omega);unfold ga gU at h;simp only[hs,Bool.and_false,Bool.or_false]at h;have:ce.find? (fun _=>false)=none:=rfl;rw[this]at h;cases h
theorem Gj{k:Nat}(hk:k≤100)(S:St σ0 i ts a σ)(ha:a≤ts.length)(ht:∀(o:Int) (ex:Bool) (m:ByteArray) (n:Int),dH k (ts.drop a)=some (o,ex,ts.drop (a+1))->a+1≤ts.length->∀σ',St σ0 i ts (a+1) σ'->σ'.length=σ.length->K (.tup [.agg [.d (ab m),.d (ac o),.d (ac n)],ak ex,ak true]) (σ'++l))(hf:dH k (ts.drop a)=none->K (.tup [zb,ak false,ak false]) (σ++l)):
 kf G 322 [.ptr i 0,.d (ac k)] (σ++l) K P s t:=by
 refine aC (vZ k hk ts a i H.size H.len ha (σ++l) (al S.at_ l)) fun o σ' ⟨e1,e2⟩=>?_;subst e1;rw[bB];cases hs:ga ts a k with
 | true=>
  rw[hs,if_pos rfl,bN S.at_]at e2;subst e2;obtain⟨o,ex,m,n,h1,h2⟩:=zx hs;rw[h1];exact ht o ex m n h2 (CX H hs) _ (S.step _) (S.slen _)
 | false=>
  rw[hs,if_neg (by decide)]at e2;subst e2;obtain⟨h1,h2⟩:=yW hs;rw[h1];exact hf h2
end
theorem Gn(k:Nat)(hk:k≤13)(ts:List Tok)(a i:Nat)(H:TsOK ts)(ha:a≤ts.length)
 (hU:∀σ:LLV,σ[i]? = some (pb ts a)->Fun G 320 [.ptr i 0] σ (PQ ts i σ (par .U (ts.drop a))))
 (hL:k≤12->∀b,a≤b->b≤ts.length->∀σ:LLV,σ[i]? = some (pb ts b)->Fun G 310 [.ptr i 0,.d (ac ((k:Int)+1))] σ (PQ ts i σ (par (.L (k+1)) (ts.drop b))))
 (hN:∀b e,a<b->b≤ts.length->∀σ:LLV,σ[i]? = some (pb ts b)->Fun G 321 [.ptr i 0,vex e] σ (PQ ts i σ (par (.In e) (ts.drop b))))
 (σ:LLV)(hi:σ[i]? = some (pb ts a)):Fun G 310 [.ptr i 0,.d (ac k)] σ (PQ ts i σ (par (.L k) (ts.drop a))):=by
 refine ai Tryz.func310 TL rfl fun hb hw=>?_;have S:=St.init hi hb;have hpar:=cP (.L k) (ts.drop a);simp only[aJ]at hpar;unfold NJ;by_cases hgt:12<k
 .have hd:decide (12<((k:Nat):Int))=true:=by rw[decide_eq_true_eq];omega
  rw[if_pos hgt]at hpar;simp -dsimp only[aw,jV,jW,jX,jY,jZ,jA,reduceIte,reduceCtorEq,jB,jC,jD,jE,jF,jG,hd];refine jR H S ha (hU _ (al S.at_ _)) (fun e1 a2 hx g1 g2 g3 σ3 S3 hl3=>?_) (fun c r b hx σ3 S3 hl3=>?_)
  .rw[hx]at hpar;rw[<-hl3];simp -dsimp only[aw,jV,jW,jX,jY,jZ,jA,reduceIte,reduceCtorEq,jB,jC,jD,jE,jF,jG,an];exact dM S3 g2 hpar (by rw[an];simp[BI,be,bL,aw,jV,jW,jX,jY,jZ,jA,reduceIte,reduceCtorEq,jB,jC,jD,jE,jF,jG])
  .rw[hx]at hpar;rw[<-hl3];simp -dsimp only[aw,jV,jW,jX,jY,jZ,jA,reduceIte,reduceCtorEq,jB,jC,jD,jE,jF,jG];exact dD S3 hpar rfl
 have hd:decide (12<((k:Nat):Int))=false:=by rw[decide_eq_false_iff_not];omega
 have hwr:IntKind.i64.wrap (((k:Nat):Int)+1)=(k:Int)+1:=ba (by omega) (by omega);rw[if_neg hgt]at hpar;simp -dsimp only[aw,jV,jW,jX,jY,jZ,jA,reduceIte,reduceCtorEq,jB,jC,jD,jE,jF,jG,hd,hwr];refine jR H S ha (hL (by omega) a (Uh _) ha _ (al S.at_ _)) (fun e1 a1 hx g1 g2 g3 σ1 S1 hl1=>?_) (fun c r b hx σ3 S3 hl3=>?_)
 case refine_2=>
  rw[hx,PR.bind]at hpar;rw[<-hl3];simp -dsimp only[aw,jV,jW,jX,jY,jZ,jA,reduceIte,reduceCtorEq,jB,jC,jD,jE,jF,jG];exact dD S3 hpar rfl
 rw[hx,PR.bind]at hpar;have g3:=g3 rfl;rw[<-hl1];simp -dsimp only[aw,jV,jW,jX,jY,jZ,jA,reduceIte,reduceCtorEq,jB,jC,jD,jE,jF,jG,an];refine aN [0,1,4,5] (R:=fun(j:Nat) ρ σ'=>∃(a1:Nat) (e:Ex) (σ2:LLV) (x:LLV),ρ=[(0,.ptr i 0),(1,.d (ac k)),(4,.ptr σ1.length 0),(5,.ptr (σ1.length+1) 0)]/\σ'=σ2++x/\x=[[.d (ac 0),.d (ac 0),.d (ab ⟨#[]⟩),.nil],[.d (ac e.op),.d (ac e.num),.d (ab e.name),.d (.sl (e.args.map dex))]]/\St σ i ts a1 σ2/\σ2.length=σ1.length/\a1≤ts.length/\a+1+j≤a1/\par (.L k) (ts.drop a)=par (.Lp k e) (ts.drop a1)) (ts.length-a) ⟨a1,e1,σ1,_,rfl,rfl,rfl,S1,rfl,g2,by omega,hpar⟩ ?_ _;rintro j ρ' σ' hj ⟨a2,e,σ2,x,rfl,rfl,hx2,S2,hl2,h1,h2,hp2⟩;have hp3:=cP (.Lp k e) (ts.drop a2);rw[<-hp2]at hp3;simp only[aJ]at hp3;subst hx2;rw[<-hl2];have hL1:=H.len;have h1lt:=S2.lt;by_cases h9:k=9
 .have hd9:decide (((k:Nat):Int)=9)=true:=by rw[decide_eq_true_eq];omega
  rw[if_pos h9,bR]at hp3;simp -dsimp only[aw,jV,jW,jX,jY,jZ,jA,reduceIte,reduceCtorEq,jB,jC,jD,jE,jF,jG,hd9];refine dY H (m:=b9) S2 h1 (fun hin ha3 σ3 S3 hl3=>?_) (fun hin=>?_)
  .rw[hin,if_pos rfl]at hp3;simp only at hp3;have hN':=fun l=>hN (a2+1) e (by omega) ha3 _ (al S3.at_ l);rw[an]at hN';rw[<-hl3];simp -dsimp only[aw,jV,jW,jX,jY,jZ,jA,reduceIte,reduceCtorEq,jB,jC,jD,jE,jF,jG];refine jR H S3 ha3 (hN' _) (fun e4 a4 hx4 k1 k2 k3 σ4 S4 hl4=>?_) (fun c r b hx σ3 S3 hl3=>?_)
   .rw[hx4,PR.bind]at hp3;rw[<-hl4];simp -dsimp only[aw,jV,jW,jX,jY,jZ,jA,reduceIte,reduceCtorEq,jB,jC,jD,jE,jF,jG,an];refine⟨by omega,Nxt.to (σ4++[[.d (ac 0),.d (ac 0),.d (ab ⟨#[]⟩),.nil],[.d (ac e4.op),.d (ac e4.num),.d (ab e4.name),.d (.sl (e4.args.map dex))]]) [] (by simp) (by simp) (ax S4.bb rfl) ?_ ⟨a4,e4,σ4,_,?_,rfl,rfl,S4,by omega,k2,by omega,hp3⟩⟩
    .simp[aq,V.under];omega
    .rw[hl4,hl3,hl2]
   .rw[hx,PR.bind]at hp3;rw[<-hl3];simp -dsimp only[aw,jV,jW,jX,jY,jZ,jA,reduceIte,reduceCtorEq,jB,jC,jD,jE,jF,jG];exact dD S3 hp3 rfl
  rw[hin,if_neg (by decide)]at hp3;simp only at hp3;simp -dsimp only[aw,jV,jW,jX,jY,jZ,jA,reduceIte,reduceCtorEq,jB,jC,jD,jE,jF,jG];refine Gj H (by omega) S2 h1 (fun o ex m n hop ha3 σ3 S3 hl3=>?_) (fun hop=>?_)
  case refine_2=>
   rw[hop]at hp3;simp -dsimp only[aw,jV,jW,jX,jY,jZ,jA,reduceIte,reduceCtorEq,jB,jC,jD,jE,jF,jG,zb];exact dM S2 h1 hp3 (by rw[an];simp[BI,be,bL,aw,jV,jW,jX,jY,jZ,jA,reduceIte,reduceCtorEq,jB,jC,jD,jE,jF,jG])
  rw[hop]at hp3;simp only at hp3;rw[<-hl3];simp -dsimp only[aw,jV,jW,jX,jY,jZ,jA,reduceIte,reduceCtorEq,jB,jC,jD,jE,jF,jG,hwr];refine jR H S3 ha3 (hL (by omega) _ (by omega) ha3 _ (al S3.at_ _)) (fun e4 a4 hx4 k1 k2 k3 σ4 S4 hl4=>?_) (fun c r b hx σ4 S4 hl4=>?_)
  case refine_2=>
   rw[hx,PR.bind]at hp3;rw[<-hl4];simp -dsimp only[aw,jV,jW,jX,jY,jZ,jA,reduceIte,reduceCtorEq,jB,jC,jD,jE,jF,jG];exact dD S4 hp3 rfl
  rw[hx4,PR.bind]at hp3;have hle:=S4.lt;rw[<-hl4];cases ex with
  | true=>
   have hNd:=eS o [e4,e];rw[if_pos rfl]at hp3;simp -dsimp only[aw,jV,jW,jX,jY,jZ,jA,reduceIte,reduceCtorEq,jB,jC,jD,jE,jF,jG,an];refine ae (by simpa only[TZ,T3,bC]using hNd _) ?_;simp -dsimp only[aw,jV,jW,jX,jY,jZ,jA,reduceIte,reduceCtorEq,jB,jC,jD,jE,jF,jG,an,aU,bX,bp,aK,aL];refine⟨by omega,Nxt.to (σ4++[[.d (ac 0),.d (ac 0),.d (ab ⟨#[]⟩),.nil],[.d (ac o),.d (ac 0),.d (ab ⟨#[]⟩),.d (.sl ([e4,e].map dex))]]) [[.d (ab m),.d (ac o),.d (ac n)],[.d (ac e.op),.d (ac e.num),.d (ab e.name),.d (.sl (e.args.map dex))]] (by simp[bC]) (by simp) (ax S4.bb rfl) ?_ ⟨a4,aU o [e4,e],σ4,_,?_,rfl,rfl,S4,by omega,k2,by omega,hp3⟩⟩
   .simp[aq,V.under];omega
   .rw[hl4,hl3,hl2]
  | false=>
   have hNd:=eS o [e,e4];rw[if_neg (by decide)]at hp3;simp -dsimp only[aw,jV,jW,jX,jY,jZ,jA,reduceIte,reduceCtorEq,jB,jC,jD,jE,jF,jG,an];refine ae (by simpa only[TZ,T3,bC]using hNd _) ?_;simp -dsimp only[aw,jV,jW,jX,jY,jZ,jA,reduceIte,reduceCtorEq,jB,jC,jD,jE,jF,jG,an,aU,bX,bp,aK,aL];refine⟨by omega,Nxt.to (σ4++[[.d (ac 0),.d (ac 0),.d (ab ⟨#[]⟩),.nil],[.d (ac o),.d (ac 0),.d (ab ⟨#[]⟩),.d (.sl ([e,e4].map dex))]]) [[.d (ab m),.d (ac o),.d (ac n)],[.d (ac e4.op),.d (ac e4.num),.d (ab e4.name),.d (.sl (e4.args.map dex))]] (by simp[bC]) (by simp) (ax S4.bb rfl) ?_ ⟨a4,aU o [e,e4],σ4,_,?_,rfl,rfl,S4,by omega,k2,by omega,hp3⟩⟩
   .simp[aq,V.under];omega
   .rw[hl4,hl3,hl2]
 .have hd9:decide (((k:Nat):Int)=9)=false:=by rw[decide_eq_false_iff_not];omega
  rw[if_neg h9]at hp3;simp only at hp3;simp -dsimp only[aw,jV,jW,jX,jY,jZ,jA,reduceIte,reduceCtorEq,jB,jC,jD,jE,jF,jG,hd9];refine Gj H (by omega) S2 h1 (fun o ex m n hop ha3 σ3 S3 hl3=>?_) (fun hop=>?_)
  case refine_2=>
   rw[hop]at hp3;simp -dsimp only[aw,jV,jW,jX,jY,jZ,jA,reduceIte,reduceCtorEq,jB,jC,jD,jE,jF,jG,zb];exact dM S2 h1 hp3 (by rw[an];simp[BI,be,bL,aw,jV,jW,jX,jY,jZ,jA,reduceIte,reduceCtorEq,jB,jC,jD,jE,jF,jG])
  rw[hop]at hp3;simp only at hp3;rw[<-hl3];simp -dsimp only[aw,jV,jW,jX,jY,jZ,jA,reduceIte,reduceCtorEq,jB,jC,jD,jE,jF,jG,hwr];refine jR H S3 ha3 (hL (by omega) _ (by omega) ha3 _ (al S3.at_ _)) (fun e4 a4 hx4 k1 k2 k3 σ4 S4 hl4=>?_) (fun c r b hx σ4 S4 hl4=>?_)
  case refine_2=>
   rw[hx,PR.bind]at hp3;rw[<-hl4];simp -dsimp only[aw,jV,jW,jX,jY,jZ,jA,reduceIte,reduceCtorEq,jB,jC,jD,jE,jF,jG];exact dD S4 hp3 rfl
  rw[hx4,PR.bind]at hp3;have hle:=S4.lt;rw[<-hl4];cases ex with
  | true=>
   have hNd:=eS o [e4,e];rw[if_pos rfl]at hp3;simp -dsimp only[aw,jV,jW,jX,jY,jZ,jA,reduceIte,reduceCtorEq,jB,jC,jD,jE,jF,jG,an];refine ae (by simpa only[TZ,T3,bC]using hNd _) ?_;simp -dsimp only[aw,jV,jW,jX,jY,jZ,jA,reduceIte,reduceCtorEq,jB,jC,jD,jE,jF,jG,an,aU,bX,bp,aK,aL];refine⟨by omega,Nxt.to (σ4++[[.d (ac 0),.d (ac 0),.d (ab ⟨#[]⟩),.nil],[.d (ac o),.d (ac 0),.d (ab ⟨#[]⟩),.d (.sl ([e4,e].map dex))]]) [[.d (ab m),.d (ac o),.d (ac n)],[.d (ac e.op),.d (ac e.num),.d (ab e.name),.d (.sl (e.args.map dex))]] (by simp[bC]) (by simp) (ax S4.bb rfl) ?_ ⟨a4,aU o [e4,e],σ4,_,?_,rfl,rfl,S4,by omega,k2,by omega,hp3⟩⟩
   .simp[aq,V.under];omega
   .rw[hl4,hl3,hl2]
  | false=>
   have hNd:=eS o [e,e4];rw[if_neg (by decide)]at hp3;simp -dsimp only[aw,jV,jW,jX,jY,jZ,jA,reduceIte,reduceCtorEq,jB,jC,jD,jE,jF,jG,an];refine ae (by simpa only[TZ,T3,bC]using hNd _) ?_;simp -dsimp only[aw,jV,jW,jX,jY,jZ,jA,reduceIte,reduceCtorEq,jB,jC,jD,jE,jF,jG,an,aU,bX,bp,aK,aL];refine⟨by omega,Nxt.to (σ4++[[.d (ac 0),.d (ac 0),.d (ab ⟨#[]⟩),.nil],[.d (ac o),.d (ac 0),.d (ab ⟨#[]⟩),.d (.sl ([e,e4].map dex))]]) [[.d (ab m),.d (ac o),.d (ac n)],[.d (ac e4.op),.d (ac e4.num),.d (ab e4.name),.d (.sl (e4.args.map dex))]] (by simp[bC]) (by simp) (ax S4.bb rfl) ?_ ⟨a4,aU o [e,e4],σ4,_,?_,rfl,rfl,S4,by omega,k2,by omega,hp3⟩⟩
   .simp[aq,V.under];omega
   .rw[hl4,hl3,hl2]
end Go.Proofs.YtnhphlmblenapaaGreatDoor
namespace Go.Proofs.YtnhphlmblenapaaGreatDoor
open Go.RowKit
open Nat renaming reduceLeDiff -> jA, reduceBEq -> jB, reduceLT -> jC, reduceEqDiff -> jD, reduceAdd -> jE, reduceSub -> jF, reduceMul -> jG
open V renaming copy -> jV, lend -> jW, lend1 -> jX, cells -> jY, boxable -> jZ
theorem EW(ts:List Tok)(a i:Nat)(H:TsOK ts)(ha:a≤ts.length)
 (hL:∀σ:LLV,σ[i]? = some (pb ts a)->Fun G 310 [.ptr i 0,.d (ac 3)] σ (PQ ts i σ (par (.L 3) (ts.drop a))))
 (hI:∀b,a<b->b≤ts.length->∀σ:LLV,σ[i]? = some (pb ts b)->Fun G 284 [.ptr i 0] σ (PQ ts i σ (par .I (ts.drop b))))
 (σ:LLV)(hi:σ[i]? = some (pb ts a)):Fun G 284 [.ptr i 0] σ (PQ ts i σ (par .I (ts.drop a))):=by
 refine ai Tryz.func284 Sc rfl fun hb hw=>?_;have S:=St.init hi hb;have hpar:=cP .I (ts.drop a);simp only[aJ]at hpar;unfold OC;simp -dsimp only[aw,jV,jW,jX,jY,jZ,jA,reduceIte,reduceCtorEq,jB,jC,jD,jE,jF,jG];refine jR H S ha (hL _ (al hi _)) (fun e a1 hx g1 g2 g3 σ1 S1 hl1=>?_) (fun c r b hx σ1 S1 hl1=>?_)
 case refine_2=>
  rw[hx,PR.bind]at hpar;rw[<-hl1];simp -dsimp only[aw,jV,jW,jX,jY,jZ,jA,reduceIte,reduceCtorEq,jB,jC,jD,jE,jF,jG];exact dD S1 hpar rfl
 rw[hx,PR.bind,bR]at hpar;have g3:=g3 rfl;rw[<-hl1];simp -dsimp only[aw,jV,jW,jX,jY,jZ,jA,reduceIte,reduceCtorEq,jB,jC,jD,jE,jF,jG,an];refine dY H (m:=aE 61 62) S1 g2 (fun hs ha2 σ2 S2 hl2=>?_) (fun hs=>?_)
 case refine_2=>
  rw[hs,if_neg (by decide)]at hpar;simp -dsimp only[aw,jV,jW,jX,jY,jZ,jA,reduceIte,reduceCtorEq,jB,jC,jD,jE,jF,jG];exact dM S1 g2 hpar (by rw[an];simp[FZ,be,bL,aw,jV,jW,jX,jY,jZ,jA,reduceIte,reduceCtorEq,jB,jC,jD,jE,jF,jG])
 rw[hs,if_pos rfl]at hpar;simp only at hpar;rw[<-hl2];simp -dsimp only[aw,jV,jW,jX,jY,jZ,jA,reduceIte,reduceCtorEq,jB,jC,jD,jE,jF,jG];refine FE H S2 ha2 (hI _ (by omega) ha2 _ (al S2.at_ _)) (fun e2 a3 hx2 k1 k2 k3 σ3 S3 hl3=>⟨?_,?_⟩) (fun c r b hx2 σ3 S3 hl3=>?_) (fun⟨c,r,hx2⟩=>?_)
 .rw[<-hl3];simp -dsimp only[aw,jV,jW,jX,jY,jZ,jA,reduceIte,reduceCtorEq,jB,jC,jD,jE,jF,jG]
 .rw[hx2,PR.bind]at hpar;have hN:=eS 21 [e,e2];rw[<-hl3];simp -dsimp only[aw,jV,jW,jX,jY,jZ,jA,reduceIte,reduceCtorEq,jB,jC,jD,jE,jF,jG,an];refine aA (by simpa only[TZ,T3,bC]using hN _) ?_;simp -dsimp only[aw,jV,jW,jX,jY,jZ,jA,reduceIte,reduceCtorEq,jB,jC,jD,jE,jF,jG,an,aU,bX,bp,aK,aL];exact dM S3 k2 hpar (by rw[an];simp[FZ,be,bL,aU,bX,bp,aK,aL,bC,aw,jV,jW,jX,jY,jZ,jA,reduceIte,reduceCtorEq,jB,jC,jD,jE,jF,jG])
 .rw[hx2,PR.bind]at hpar;intro ρ2;rw[<-hl3];simp -dsimp only[aw,jV,jW,jX,jY,jZ,jA,reduceIte,reduceCtorEq,jB,jC,jD,jE,jF,jG];exact dD S3 hpar rfl
 .simp -dsimp only[aw,jV,jW,jX,jY,jZ,jA,reduceIte,reduceCtorEq,jB,jC,jD,jE,jF,jG]
theorem CO(ts:List Tok)(a i:Nat)(H:TsOK ts)(ha:a≤ts.length)
 (hI:∀σ:LLV,σ[i]? = some (pb ts a)->Fun G 284 [.ptr i 0] σ (PQ ts i σ (par .I (ts.drop a))))
 (hW:∀b,a<b->b≤ts.length->∀σ:LLV,σ[i]? = some (pb ts b)->Fun G 255 [.ptr i 0] σ (PQ ts i σ (par .W (ts.drop b))))
 (σ:LLV)(hi:σ[i]? = some (pb ts a)):Fun G 255 [.ptr i 0] σ (PQ ts i σ (par .W (ts.drop a))):=by
 refine ai Tryz.func255 SV rfl fun hb hw=>?_;have S:=St.init hi hb;have hpar:=cP .W (ts.drop a);simp only[aJ]at hpar;unfold Rf;simp -dsimp only[aw,jV,jW,jX,jY,jZ,jA,reduceIte,reduceCtorEq,jB,jC,jD,jE,jF,jG];refine jR H S ha (hI _ (al hi _)) (fun e a1 hx g1 g2 g3 σ1 S1 hl1=>?_) (fun c r b hx σ1 S1 hl1=>?_)
 case refine_2=>
  rw[hx,PR.bind]at hpar;rw[<-hl1];simp -dsimp only[aw,jV,jW,jX,jY,jZ,jA,reduceIte,reduceCtorEq,jB,jC,jD,jE,jF,jG];exact dD S1 hpar rfl
 rw[hx,PR.bind,bR]at hpar;have g3:=g3 rfl;rw[<-hl1];simp -dsimp only[aw,jV,jW,jX,jY,jZ,jA,reduceIte,reduceCtorEq,jB,jC,jD,jE,jF,jG,an];refine dY H (m:=aa 63) S1 g2 (fun hs ha2 σ2 S2 hl2=>?_) (fun hs=>?_)
 case refine_2=>
  rw[hs,if_neg (by decide)]at hpar;simp -dsimp only[aw,jV,jW,jX,jY,jZ,jA,reduceIte,reduceCtorEq,jB,jC,jD,jE,jF,jG];exact dM S1 g2 hpar (by rw[an];simp[IL,be,bL,aw,jV,jW,jX,jY,jZ,jA,reduceIte,reduceCtorEq,jB,jC,jD,jE,jF,jG])
 rw[hs,if_pos rfl]at hpar;simp only at hpar;rw[<-hl2];simp -dsimp only[aw,jV,jW,jX,jY,jZ,jA,reduceIte,reduceCtorEq,jB,jC,jD,jE,jF,jG];refine jR H S2 ha2 (hW _ (by omega) ha2 _ (al S2.at_ _)) (fun e2 a3 hx2 k1 k2 k3 σ3 S3 hl3=>?_) (fun c r b hx2 σ3 S3 hl3=>?_)
 case refine_2=>
  rw[hx2,PR.bind]at hpar;rw[<-hl3];simp -dsimp only[aw,jV,jW,jX,jY,jZ,jA,reduceIte,reduceCtorEq,jB,jC,jD,jE,jF,jG];exact dD S3 hpar rfl
 rw[hx2,PR.bind,bR]at hpar;have k3:=k3 rfl;rw[<-hl3];simp -dsimp only[aw,jV,jW,jX,jY,jZ,jA,reduceIte,reduceCtorEq,jB,jC,jD,jE,jF,jG,an];refine fI H (m:=aa 58) S3 k2 (fun hs4 ha4 σ4 S4 hl4=>?_) (fun hs4=>?_)
 case refine_2=>
  rw[hs4,if_neg (by decide)]at hpar;simp -dsimp only[aw,jV,jW,jX,jY,jZ,jA,reduceIte,reduceCtorEq,jB,jC,jD,jE,jF,jG];exact eu S3 k2 hpar
 rw[hs4,if_pos rfl]at hpar;simp only at hpar;rw[<-hl4];simp -dsimp only[aw,jV,jW,jX,jY,jZ,jA,reduceIte,reduceCtorEq,jB,jC,jD,jE,jF,jG];refine FE H S4 ha4 (hW _ (by omega) ha4 _ (al S4.at_ _)) (fun e3 a5 hx5 m1 m2 m3 σ5 S5 hl5=>⟨?_,?_⟩) (fun c r b hx5 σ5 S5 hl5=>?_) (fun⟨c,r,hx5⟩=>?_)
 .rw[<-hl5];simp -dsimp only[aw,jV,jW,jX,jY,jZ,jA,reduceIte,reduceCtorEq,jB,jC,jD,jE,jF,jG]
 .rw[hx5,PR.bind]at hpar;have hN:=eS 22 [e,e2,e3];rw[<-hl5];simp -dsimp only[aw,jV,jW,jX,jY,jZ,jA,reduceIte,reduceCtorEq,jB,jC,jD,jE,jF,jG,an];refine aA (by simpa only[TZ,T3,bC]using hN _) ?_;simp -dsimp only[aw,jV,jW,jX,jY,jZ,jA,reduceIte,reduceCtorEq,jB,jC,jD,jE,jF,jG,an,aU,bX,bp,aK,aL];exact dM S5 m2 hpar (by rw[an];simp[IL,be,bL,aU,bX,bp,aK,aL,bC,aw,jV,jW,jX,jY,jZ,jA,reduceIte,reduceCtorEq,jB,jC,jD,jE,jF,jG])
 .rw[hx5,PR.bind]at hpar;intro ρ2;rw[<-hl5];simp -dsimp only[aw,jV,jW,jX,jY,jZ,jA,reduceIte,reduceCtorEq,jB,jC,jD,jE,jF,jG];exact dD S5 hpar rfl
 .simp -dsimp only[aw,jV,jW,jX,jY,jZ,jA,reduceIte,reduceCtorEq,jB,jC,jD,jE,jF,jG]
theorem MN(ts:List Tok)(i:Nat)(H:TsOK ts):∀n a,a≤ts.length->
 (40*(ts.length-a)+15≤n->∀σ:LLV,σ[i]? = some (pb ts a)->Fun G 255 [.ptr i 0] σ (PQ ts i σ (par .W (ts.drop a))))/\
 (40*(ts.length-a)+14≤n->∀σ:LLV,σ[i]? = some (pb ts a)->Fun G 284 [.ptr i 0] σ (PQ ts i σ (par .I (ts.drop a))))/\
 (∀k,k≤13->40*(ts.length-a)+(16-k)≤n->∀σ:LLV,σ[i]? = some (pb ts a)->Fun G 310 [.ptr i 0,.d (ac ((k:Nat):Int))] σ (PQ ts i σ (par (.L k) (ts.drop a))))/\
 (∀e,40*(ts.length-a)≤n->∀σ:LLV,σ[i]? = some (pb ts a)->Fun G 321 [.ptr i 0,vex e] σ (PQ ts i σ (par (.In e) (ts.drop a))))/\
 (40*(ts.length-a)+2≤n->∀σ:LLV,σ[i]? = some (pb ts a)->Fun G 320 [.ptr i 0] σ (PQ ts i σ (par .U (ts.drop a))))/\
 (40*(ts.length-a)+1≤n->∀σ:LLV,σ[i]? = some (pb ts a)->Fun G 326 [.ptr i 0] σ (PQ ts i σ (par .P (ts.drop a)))):=by
 intro n
 induction n using Nat.strongRecOn with
 | _ n ih=>
 intro a ha;have W:∀b,a<b->b≤ts.length->40*(ts.length-a)≤n->∀σ:LLV,σ[i]? = some (pb ts b)->Fun G 255 [.ptr i 0] σ (PQ ts i σ (par .W (ts.drop b))):=fun b hb hb2 hn=>(ih (n-1) (by omega) b hb2).1 (by omega);refine⟨fun hn=>?_,fun hn=>?_,fun k hk hn=>?_,fun e hn=>?_,fun hn=>?_,fun hn=>?_⟩
 .exact CO ts a i H ha ((ih (n-1) (by omega) a ha).2.1 (by omega)) fun b hb hb2=>W b hb hb2 (by omega)
 .refine EW ts a i H ha (fun σ hi=>?_) fun b hb hb2=>(ih (n-1) (by omega) b hb2).2.1 (by omega);exact(ih (n-1) (by omega) a ha).2.2.1 3 (by omega) (by omega) σ hi
 .refine Gn k hk ts a i H ha (fun σ hi=>?_) (fun hk2 b hb hb2 σ hi=>?_) fun b e hb hb2=>(ih (n-1) (by omega) b hb2).2.2.2.1 e (by omega)
  .exact(ih (n-1) (by omega) a ha).2.2.2.2.1 (by omega) σ hi
  .exact(ih (n-1) (by omega) b hb2).2.2.1 (k+1) (by omega) (by omega) σ hi
 .exact y8 ts a i H ha e fun b hb hb2=>W b hb hb2 hn
 .exact Ed ts a i H.size H.len ha ((ih (n-1) (by omega) a ha).2.2.2.2.2 (by omega)) fun b hb hb2=>(ih (n-1) (by omega) b hb2).2.2.2.2.1 (by omega)
 .exact xN ts a i H ha fun b hb hb2=>W b hb hb2 (by omega)
theorem Ct(ts:List Tok)(i:Nat)(H:TsOK ts)(a:Nat)(ha:a≤ts.length)(σ:LLV)(hi:σ[i]? = some (pb ts a)):Fun G 255 [.ptr i 0] σ (PQ ts i σ (par .W (ts.drop a))):=
 (MN ts i H _ a ha).1 (Uh _) σ hi
def GM(ts:List Tok)(x:PR):V:=match x with
 | .ok e r=>.tup [vex e,.d (ac ((ts.length-r.length:Nat):Int)),.d (ac 0)]
 | .bad c r=>.tup [vex (.mk 0 0 ⟨#[]⟩ []),.d (ac ((ts.length-r.length:Nat):Int)),.d (ac c)]
 | .out=>.junk
theorem vm(σ:LLV)(i j k:Nat):fW G 254 [.ptr i 0,.ptr j 0,.ptr k 0] σ none (fun σ'=>σ'=σ):=by
 refine fu Tryz.func254 Pj rfl (fun v h=>by cases h) fun hb=>?_;unfold MK;simp -dsimp only[aw,jV,jW,jX,jY,jZ,jA,reduceIte,reduceCtorEq,jB,jC,jD,jE,jF,jG,ur,tZ,Option.getD_none];exact⟨σ.length,Uh _,by rw[T5];exact hb,T5⟩
theorem Li(τ:LLV)(a b c d e:List V):(τ++[a,b,c,d,e]).take (τ.length+4)=τ++[a,b,c,d]:=by
 rw[List.take_append,T4 (by omega),Nat.add_sub_cancel_left];rfl
theorem vF(τ:LLV)(c:Int)(n:Nat)(l:List V):fW G 254 [.ptr τ.length 0,.ptr (τ.length+1) 0,.ptr (τ.length+2) 0] (τ++[[.d (ac 0),.d (ac 0),.d (ab ⟨#[]⟩),.nil],[.d (ac 0)],[.d (ac 0)],l]) (some (eU c n))
 (fun σ'=>σ'=τ++[[.d (ac 0),.d (ac 0),.d (ab ⟨#[]⟩),.nil],[.d (ac n)],[.d (ac c)],l]):=by
 refine fu Tryz.func254 Pj rfl (fun v h=>by cases h;rfl) fun hb=>?_;unfold MK eU;simp -dsimp only[aw,jV,jW,jX,jY,jZ,jA,reduceIte,reduceCtorEq,jB,jC,jD,jE,jF,jG,ur,tZ,Option.getD_some];refine⟨τ.length+4,by simp,?_,?_⟩
 .rw[Li];simp only[Ue,T7,T8,Nat.reduceAdd]at hb;unfold aj at hb ⊢;rw[List.all_append,TU]at hb ⊢;refine⟨hb.1,?_⟩;have:=hb.2;simp only[List.all_cons,List.all_nil,Bool.and_true,TU]at this ⊢;exact⟨rfl,rfl,rfl,this.2.2.2⟩
 .rw[Li]
theorem xF(ts:List Tok)(H:TsOK ts)(a:Nat)(ha:a≤ts.length)(σ:LLV):Fun G 221 [.d (.sl (ts.map ny)),.d (ac a)] σ (aP (GM ts (par .W (ts.drop a))) σ):=by
 refine nZ Tryz.func221 SA rfl fun hb hw=>?_;unfold Rk;have hP:=Ct ts (σ.length+3) H a ha;simp -dsimp only[aw,jV,jW,jX,jY,jZ,jA,reduceIte,reduceCtorEq,jB,jC,jD,jE,jF,jG,kx,GY];refine aC (hP _ (by rw[rK];rfl)) fun o σ' hq=>?_;cases hx:par .W (ts.drop a)with
 | out=>exact absurd hx (gC _ _)
 | bad c r=>
  rw[hx]at hq;obtain⟨rfl,b,rfl⟩:=hq;rw[lZ];simp -dsimp only[aw,jV,jW,jX,jY,jZ,jA,reduceIte,reduceCtorEq,jB,jC,jD,jE,jF,jG,bu];refine(vF σ c (ts.length-r.length) _).mono fun σ' h=>?_;subst h;exact⟨_,by simp[Gh,be,dp,bL,aw,jV,jW,jX,jY,jZ,jA,reduceIte,reduceCtorEq,jB,jC,jD,jE,jF,jG];rfl,σ.length,Uh _,by rw[T5];exact hb,rfl,by rw[T5];exact⟨by simp[GM,an,bX,bp,aK,aL],rfl⟩⟩
 | ok e r=>
  rw[hx]at hq;obtain⟨rfl,rfl⟩:=hq;rw[lZ];simp -dsimp only[aw,jV,jW,jX,jY,jZ,jA,reduceIte,reduceCtorEq,jB,jC,jD,jE,jF,jG,bB,an,pb];refine(vm _ _ _ _).mono fun σ' h=>?_;subst h;exact⟨.tup [vex e,.d (ac ((ts.length-r.length:Nat):Int)),.d (ac 0)],by rw[an];simp[Gh,be,dp,bL,aw,jV,jW,jX,jY,jZ,jA,reduceIte,reduceCtorEq,jB,jC,jD,jE,jF,jG],σ.length,Uh _,by rw[T5];exact hb,by rw[an];rfl,by rw[T5];exact⟨rfl,rfl⟩⟩
def ep(e n:Int):V:=.iface 101 (.agg [.d (ac e),.d (ac n)])
structure TsV(ts:List Tok):Prop where
 ok:TsOK ts
 v:∀t,t∈ts->bq t=true
def zLs(ts:List Tok):Int:=match ts.getLast? with
 | some t=>t.line
 | none=>0
def lnA(ts:List Tok)(a:Nat):Int:=lnR (zLs ts) (ts.drop a)
theorem NL{ts:List Tok}(h:ts.length-1<ts.length):zLs ts=ts[ts.length-1].line:=by
 unfold zLs;rw[List.getLast?_eq_getElem?,TY h]
theorem Hz{α:Type}{ts:List Tok}{a:Nat}:(jP (zLs ts) (ts.drop a):CP α)=.bad (fM ts a) (lnA ts a):=by
 unfold fM lnA;by_cases h:a<ts.length
 .rw[if_pos h,Ub h];rfl
 .rw[if_neg h,Uc (by omega)];rfl
theorem kz(ts:List Tok)(a i:Nat)(σ:LLV)(hi:σ[i]? = some (pb ts a)):Fun G 35 [.ptr i 0] σ (aP (ak (decide (a<ts.length))) σ):=by
 refine ai Tryz.func35 k35 rfl fun hb hw=>?_;unfold c35;unfold pb at hi;simp -dsimp only[aw,jV,jW,jX,jY,jZ,jA,reduceIte,reduceCtorEq,jB,jC,jD,jE,jF,jG,hi,Int.ofNat_lt];first|exact av hb rfl rfl|exact au hb rfl rfl
theorem pT(ts:List Tok)(a b i:Nat)(e:Int)(H:TsV ts)(hb9:b≤ts.length)(σ:LLV)(hi:σ[i]? = some (pb ts a)):
 Fun G 87 [.ptr i 0,.d (ac e),.d (ac b)] σ fun o σ'=>o=.panic (ep e (lnA ts b))/\σ'=σ:=by
 refine ai Tryz.func87 k87 rfl fun hb hw=>?_;unfold c87;have hl:=H.ok.len;unfold pb at hi;have done:∀(ρ:ah) rs,fin σ.length rs (fun o σ'=>o=.panic (ep e (lnA ts b))/\σ'=σ) (.panic (ep e (lnA ts b))) ρ σ:=fun ρ rs=>⟨σ.length,Uh _,by rw[T0];exact hb,rfl,rfl,T0⟩
 by_cases h0:ts.length=0
 .have:ts=[]:=T6 h0;subst this;have dz:decide ((0:Int)<((0:Nat):Int))=false:=rfl;have hln:lnA [] b=0:=by unfold lnA;rw[List.drop_nil];rfl
  rw[hln]at done ⊢;simp only[T3]at hi;simp -dsimp only[aw,jV,jW,jX,jY,jZ,jA,reduceIte,reduceCtorEq,jB,jC,jD,jE,jF,jG,hi,dz,T8];exact done _ _
 .have d0:decide ((0:Int)<((ts.length:Nat):Int))=true:=by rw[decide_eq_true_eq];omega
  have hw1:IntKind.i64.wrap (((ts.length:Nat):Int)-1)=((ts.length-1:Nat):Int):=by rw[ba (by omega) (by omega)];omega
  have hmin:min ((b:Nat):Int) ((ts.length-1:Nat):Int)=((min b (ts.length-1):Nat):Int):=by omega
  have hlt:min b (ts.length-1)<ts.length:=by omega
  have hln:lnA ts b=ts[min b (ts.length-1)].line:=by
   unfold lnA;by_cases h:b<ts.length
   .have e:min b (ts.length-1)=b:=by omega
    rw[Ub h];simp only[e];rfl
   .have e:min b (ts.length-1)=ts.length-1:=by omega
    rw[Uc (by omega)];simp only[e];exact NL (by omega)
  rw[hln]at done ⊢;simp -dsimp only[aw,jV,jW,jX,jY,jZ,jA,reduceIte,reduceCtorEq,jB,jC,jD,jE,jF,jG,hi,d0,hw1,hmin,TY hlt,fL,ny];exact done _ _
theorem kX(ts:List Tok)(a i:Nat)(H:TsV ts)(ha:a≤ts.length)(σ:LLV)(hi:σ[i]? = some (pb ts a)):
 Fun G 36 [.ptr i 0] σ fun o σ'=>o=.panic (ep (fM ts a) (lnA ts a))/\σ'=σ:=by
 refine ai Tryz.func36 k36 rfl fun hb hw=>?_;unfold c36;have hM:=kz ts a i σ hi;have hF:=fun e=>pT ts a a i e H ha σ hi;unfold pb at hi;have done:∀(ρ:ah) rs,fin σ.length rs (fun o σ'=>o=.panic (ep (fM ts a) (lnA ts a))/\σ'=σ) (.panic (ep (fM ts a) (lnA ts a))) ρ σ:=fun ρ rs=>⟨σ.length,Uh _,by rw[T0];exact hb,rfl,rfl,T0⟩
 simp -dsimp only[aw,jV,jW,jX,jY,jZ,jA,reduceIte,reduceCtorEq,jB,jC,jD,jE,jF,jG];refine ae hM ?_;by_cases hlt:a<ts.length
 .have hE:fM ts a=5:=by unfold fM;rw[if_pos hlt]
  rw[hE]at done ⊢;simp -dsimp only[aw,jV,jW,jX,jY,jZ,jA,reduceIte,reduceCtorEq,jB,jC,jD,jE,jF,jG,decide_eq_true hlt,hi];refine aC (hF 5) fun o σ' ⟨e1,e2⟩=>?_;subst e1;subst e2;simp -dsimp only[aw,jV,jW,jX,jY,jZ,jA,reduceIte,reduceCtorEq,jB,jC,jD,jE,jF,jG,bu];exact done _ _
 .have hE:fM ts a=6:=by unfold fM;rw[if_neg hlt]
  rw[hE]at done ⊢;simp -dsimp only[aw,jV,jW,jX,jY,jZ,jA,reduceIte,reduceCtorEq,jB,jC,jD,jE,jF,jG,decide_eq_false hlt,hi];refine aC (hF 6) fun o σ' ⟨e1,e2⟩=>?_;subst e1;subst e2;simp -dsimp only[aw,jV,jW,jX,jY,jZ,jA,reduceIte,reduceCtorEq,jB,jC,jD,jE,jF,jG,bu];exact done _ _
def nxB(k:Int)(m:ByteArray)(ts:List Tok)(a:Nat):Bool:=match ts[a]? with
 | some t=>decide (t.kind=k)&&decide (t.text=m)
 | none=>false
theorem ER(k:Int)(m:ByteArray)(ts:List Tok)(a i:Nat)(H:TsV ts)(σ:LLV)(hi:σ[i]? = some (pb ts a)):
 Fun G 175 [.ptr i 0,.d (ac k),.d (ab m)] σ (aP (ak (nxB k m ts a)) σ):=by
 refine ai Tryz.func175 Td rfl fun hb hw=>?_;unfold c175;have hM:=fun l=>kz ts a i (σ++l) (al hi l);have hM0:=kz ts a i σ hi;unfold pb at hi;simp -dsimp only[aw,jV,jW,jX,jY,jZ,jA,reduceIte,reduceCtorEq,jB,jC,jD,jE,jF,jG];refine aA hM0 ?_;by_cases hlt:a<ts.length
 .unfold nxB;rw[TY hlt];simp only;by_cases h1:ts[a].kind=k
  .simp -dsimp only[aw,jV,jW,jX,jY,jZ,jA,reduceIte,reduceCtorEq,jB,jC,jD,jE,jF,jG,hi,decide_eq_true hlt,TY hlt,fL,ny,decide_eq_true h1];first|exact av hb rfl rfl|exact au hb rfl rfl
  .simp -dsimp only[aw,jV,jW,jX,jY,jZ,jA,reduceIte,reduceCtorEq,jB,jC,jD,jE,jF,jG,hi,decide_eq_true hlt,TY hlt,fL,ny,decide_eq_false h1];first|exact av hb rfl rfl|exact au hb rfl rfl
 .unfold nxB;rw[Ud (by omega)];simp -dsimp only[aw,jV,jW,jX,jY,jZ,jA,reduceIte,reduceCtorEq,jB,jC,jD,jE,jF,jG,hi,decide_eq_false hlt];first|exact av hb rfl rfl|exact au hb rfl rfl
theorem uI(k:Int)(m:ByteArray)(ts:List Tok)(a i:Nat)(H:TsV ts)(ha:a≤ts.length)(σ:LLV)(hi:σ[i]? = some (pb ts a)):
 Fun G 117 [.ptr i 0,.d (ac k),.d (ab m)] σ fun o σ'=>o=.ret (ak (nxB k m ts a))/\σ'=if nxB k m ts a=true then σ.set i (pb ts (a+1))else σ:=by
 refine ai Tryz.func117 RY rfl fun hb hw=>?_;unfold OK;have hS:=ER k m ts a i H σ hi;have hl:=H.ok.len;simp -dsimp only[aw,jV,jW,jX,jY,jZ,jA,reduceIte,reduceCtorEq,jB,jC,jD,jE,jF,jG];refine ae hS ?_;cases hs:nxB k m ts a with
 | false=>
  simp -dsimp only[aw,jV,jW,jX,jY,jZ,jA,reduceIte,reduceCtorEq,jB,jC,jD,jE,jF,jG,TV,if_false];exact aO hb rfl rfl T0 ⟨rfl,rfl⟩
 | true=>
  unfold pb at hi;simp -dsimp only[aw,jV,jW,jX,jY,jZ,jA,reduceIte,reduceCtorEq,jB,jC,jD,jE,jF,jG,hi,ba (show -9223372036854775808≤((a:Nat):Int)+1 by omega) (show((a:Nat):Int)+1≤9223372036854775807 by omega),if_true];exact bQ (τ:=σ.set i (pb ts (a+1))) (cE hb rfl) rfl rfl (by rw[T4 (by rw[T9];exact Uh _)];rfl) ⟨rfl,rfl⟩
theorem Io{k:Int}{m:ByteArray}{ts:List Tok}{a:Nat}(H:TsV ts)(hm:k=4/\bq (tw m)=false\/k=2/\bq (tm m)=false):nxB k m ts a=bG m ts a:=by
 unfold nxB;by_cases hlt:a<ts.length
 .rw[TY hlt,Cg hlt,H.v _ (Ug hlt),TW];have hv:=H.v _ (Ug hlt);generalize ts[a]=t at *;simp only;by_cases ht:t.text=m
  .subst ht
   have h2:t.kind=2->bq (tw t.text)=true:=fun h=>by
    have e:bq (tw t.text)=(decide ((0:Int)=0)&&inB t.text em):=rfl;unfold bq at hv;rw[if_neg (by omega),if_neg (by omega),if_pos h]at hv;rw[e];exact Bool.and_eq_true_iff.2 ⟨rfl,(Bool.and_eq_true_iff.1 hv).2⟩
   have h4:t.kind=4->bq (tm t.text)=true:=fun h=>by
    have e:bq (tm t.text)=(decide ((0:Int)=0)&&aY.contains t.text.data.toList):=rfl;unfold bq at hv;rw[if_neg (by omega),if_neg (by omega),if_neg (by omega),if_pos h]at hv;rw[e];exact Bool.and_eq_true_iff.2 ⟨rfl,(Bool.and_eq_true_iff.1 hv).2⟩
   rcases hm with⟨rfl,hm⟩|⟨rfl,hm⟩
   .have:t.kind≠2:=fun h=>by rw[h2 h]at hm;cases hm
    simp[this]
   .have:t.kind≠4:=fun h=>by rw[h4 h]at hm;cases hm
    simp[this]
  .simp[ht]
 .rw[Ud (by omega),iX hlt]
theorem Et(m:ByteArray)(ts:List Tok)(a i:Nat)(H:TsV ts)(ha:a≤ts.length)(hm:bq (tw m)=false)(σ:LLV)(hi:σ[i]? = some (pb ts a)):
 Fun G 121 [.ptr i 0,.d (ab m)] σ fun o σ'=>o=.ret (ak (bG m ts a))/\σ'=if bG m ts a=true then σ.set i (pb ts (a+1))else σ:=by
 refine ai Tryz.func121 Te rfl fun hb hw=>?_;unfold PM;have hS:=uI 4 m ts a i H ha σ hi;rw[Io H (.inl ⟨rfl,hm⟩)]at hS;simp -dsimp only[aw,jV,jW,jX,jY,jZ,jA,reduceIte,reduceCtorEq,jB,jC,jD,jE,jF,jG];refine aC hS fun o σ' ⟨e1,e2⟩=>?_;subst e1;rw[bB];simp -dsimp only[aw,jV,jW,jX,jY,jZ,jA,reduceIte,reduceCtorEq,jB,jC,jD,jE,jF,jG];cases hs:bG m ts a with
 | false=>
  rw[hs,if_neg (by decide)]at e2;subst e2;exact aO hb rfl rfl T0 ⟨rfl,by rw[if_neg (by decide)]⟩
 | true=>
  rw[hs,if_pos rfl]at e2;subst e2;exact bQ (τ:=σ.set i (pb ts (a+1))) (cE hb rfl) rfl rfl (by rw[T4 (by rw[T9];exact Uh _)]) ⟨rfl,by rw[if_pos rfl]⟩
theorem Cr(m:ByteArray)(ts:List Tok)(a i:Nat)(H:TsV ts)(ha:a≤ts.length)(hm:bq (tm m)=false)(σ:LLV)(hi:σ[i]? = some (pb ts a)):
 Fun G 60 [.ptr i 0,.d (ab m)] σ fun o σ'=>o=.ret (ak (bG m ts a))/\σ'=if bG m ts a=true then σ.set i (pb ts (a+1))else σ:=by
 refine ai Tryz.func60 k60 rfl fun hb hw=>?_;unfold c60;have hS:=uI 2 m ts a i H ha σ hi;rw[Io H (.inr ⟨rfl,hm⟩)]at hS;simp -dsimp only[aw,jV,jW,jX,jY,jZ,jA,reduceIte,reduceCtorEq,jB,jC,jD,jE,jF,jG];refine aC hS fun o σ' ⟨e1,e2⟩=>?_;subst e1;rw[bB];simp -dsimp only[aw,jV,jW,jX,jY,jZ,jA,reduceIte,reduceCtorEq,jB,jC,jD,jE,jF,jG];cases hs:bG m ts a with
 | false=>
  rw[hs,if_neg (by decide)]at e2;subst e2;exact aO hb rfl rfl T0 ⟨rfl,by rw[if_neg (by decide)]⟩
 | true=>
  rw[hs,if_pos rfl]at e2;subst e2;exact bQ (τ:=σ.set i (pb ts (a+1))) (cE hb rfl) rfl rfl (by rw[T4 (by rw[T9];exact Uh _)]) ⟨rfl,by rw[if_pos rfl]⟩
theorem Em(l:Bs)(d:UInt8):eQ (l++[d])=10*eQ l+(d.toNat-48):=by
 unfold eQ;rw[List.foldl_append];rfl
theorem BP:∀(l:Bs) (n:Nat),n≤l.foldl (fun n c=>10*n+(c.toNat-48)) n
 | [],n=>Uh _
 | c::l,n=>Nat.le_trans (by omega) (BP l (10*n+(c.toNat-48)))
theorem GX:∀(k:Nat) (l:Bs),l.length=k+1->(∀x,x∈l->d5 x.toNat=true)->(1<l.length->l.head? ≠ some 48)->Lib.decDigits (eQ l)=l:=by
 intro k
 induction k with
 | zero=>
  intro l hl hd _
  match l,hl with
  | [d],_=>
   have:=hd d (by simp);simp only[d5,TU,decide_eq_true_eq]at this;have e:eQ [d]=d.toNat-48:=by simp[eQ]
   rw[e,Lib.decDigits,dif_pos (by omega)];congr 1;rw[<-Uk,ir _ (by omega)];omega
 | succ k ih=>
  intro l hl hd hz
  obtain⟨x,d,rfl⟩:∃x d,l=x++[d]:=by
   rcases List.eq_nil_or_concat l with h|⟨x,d,h⟩
   .rw[h]at hl;simp at hl
   .exact⟨x,d,by rw[h];simp⟩
  have hxl:x.length=k+1:=by simpa using hl
  have hdd:=hd d (by simp);simp only[d5,TU,decide_eq_true_eq]at hdd
  have hx:=ih x hxl (fun y hy=>hd y (by simp[hy])) (fun h1 h2=>hz (by simp;omega) (by
   cases x with
   | nil=>simp at hxl
   | cons a x=>simpa using h2))
  have hpos:1≤eQ x:=by
   match x,hxl with
   | a::r,_=>
    have ha:=hd a (by simp);simp only[d5,TU,decide_eq_true_eq]at ha;have hne:a≠48:=fun e=>hz (by simp) (by simp[e])
    have h49:49≤a.toNat:=by
     apply Classical.byContradiction;intro hh;exact hne (by rw[<-Uk];show a.toNat=48;omega)
    have:=BP r (10*0+(a.toNat-48));show 1≤(a::r).foldl _ 0;rw[List.foldl_cons];omega
  rw[Em,Lib.decDigits,dif_neg (by omega)];have e1:(10*eQ x+(d.toNat-48))/10=eQ x:=by omega
  have e2:(10*eQ x+(d.toNat-48))%10=d.toNat-48:=by omega
  rw[e1,e2,hx];congr 2;rw[<-Uk,ir _ (by omega)];omega
theorem xT:∀(k u:Nat),u<10^(k+1)->(Lib.decDigits u).length≤k+1
 | 0,u,h=>by rw[Lib.decDigits,dif_pos (by omega)];simp
 | k+1,u,h=>by
  rw[Lib.decDigits];split
  .simp
  .have:=xT k (u/10) (by rw[Nat.pow_succ]at h;omega);simp;omega
theorem Ev{c:UInt8}{r:Bs}{kd n:Int}{len:Nat}(N:Int)(h:cB (c::r)=.tok kd n len):bq (iO N (c::r) kd n len)=true/\len≤16:=by
 have htake:∀(p:UInt8->Bool),(c::r).take ((c::r).takeWhile p).length=(c::r).takeWhile p:=fun p=>(List.prefix_iff_eq_take.1 (List.takeWhile_prefix p)).symm;simp only[cB]at h;split at h
 .rename_i hl;split at h
  .cases h
  .rename_i h16;cases h;refine⟨?_,by omega⟩;unfold iO;rw[htake]
   have hall:∀x,x∈(c::r).takeWhile inn->inn x=true:=fun x hx=>by
    have:=List.all_takeWhile (p:=inn) (l:=c::r);exact List.all_eq_true.1 this x hx
   have hinc:inn c=true:=by unfold inn i6;simp[hl]
   have hne:(c::r).takeWhile inn=c::r.takeWhile inn:=Ua hinc
   have hw:ju (⟨((c::r).takeWhile inn).toArray⟩:ByteArray)=true:=by
    unfold ju;show lP ((c::r).takeWhile inn)=true;rw[hne]at hall ⊢;simp only[lP,hl,TW];rw[List.all_eq_true];exact hall
   by_cases hk:inB ⟨((c::r).takeWhile inn).toArray⟩ em=true
   .rw[if_pos hk];unfold bq;simp[hk]
   .have hsz:(⟨((c::r).takeWhile inn).toArray⟩:ByteArray).size≤16:=by rw[Lib.size_eq];simpa using h16
    rw[if_neg hk];have hk2:inB ⟨((c::r).takeWhile inn).toArray⟩ em=false:=by simpa using hk
    unfold bq aS;simp only[hw,hk2,hsz,decide_true,Bool.and_self,Bool.not_false];rfl
 .split at h
  .rename_i hd;split at h
   .cases h
   .rename_i h1;split at h
    .cases h
    .rename_i h2;cases h
     have hd2:∀x,x∈(c::r).takeWhile inn->d5 x.toNat=true:=fun x hx=>by
      have:((c::r).takeWhile inn).all (fun x=>d5 x.toNat)=true:=by
       cases hh:((c::r).takeWhile inn).all fun x=>d5 x.toNat with
       | true=>rfl
       | false=>exact absurd (.inl hh) h1
      exact List.all_eq_true.1 this x hx
     have hne:(c::r).takeWhile inn=c::r.takeWhile inn:=Ua (by unfold inn i6;simp[hd])
     have hz:1<((c::r).takeWhile inn).length->((c::r).takeWhile inn).head? ≠ some 48:=fun hh e=>by
      rw[hne]at e;simp at e;exact h1 (.inr ⟨hh,e⟩)
     have hb:=GX (r.takeWhile inn).length _ (by rw[hne];rfl) hd2 hz
     have hlen:((c::r).takeWhile inn).length≤16:=by
      have:=xT 9 (eQ ((c::r).takeWhile inn)) (by omega);rw[hb]at this;omega
     refine⟨?_,hlen⟩;unfold iO;rw[htake];unfold bq;simp[hb];omega
  .split at h
   .cases h
   .rename_i hb;cases h;rcases rv aY 0 (c::r)with h1|⟨m,h1,h2,h3⟩
    .exact absurd h1 hb
    .have h5:=qv m h1;have h6:cT (c::r)=m.length:=h3;refine⟨?_,by rw[h6];omega⟩;unfold iO;rw[h6,<-List.prefix_iff_eq_take.1 (List.isPrefixOf_iff_prefix.1 h2)];unfold bq;simp[h1]
theorem CN:∀(k:Nat) (N:Int) (l:Bs) (ts:List Tok),l.length≤k->gk N l=.ok ts->(∀t,t∈ts->bq t=true/\t.text.size≤16)/\ts.length≤l.length:=by
 intro k
 induction k with
 | zero=>
  intro N l ts h ht;have:l=[]:=T6 (by omega);subst this;rw[cK,jd]at ht;cases ht;simp
 | succ k ih=>
  intro N l ts h ht;rw[cK]at ht;have hs:=(gf l).length_le;cases hsk:ck l with
  | nil=>rw[hsk]at ht;cases ht;simp
  | cons c r=>
   rw[hsk]at ht hs;simp only at ht;cases hrd:cB (c::r)with
   | err e=>rw[hrd]at ht;cases ht
   | tok kd n len=>
    obtain⟨g1,g2⟩:=lY hrd;obtain⟨v1,v2⟩:=Ev N hrd;rw[hrd]at ht;simp only at ht;have hdl:=Uf (l:=c::r) (i:=len);cases hq:gk N ((c::r).drop len)with
    | err x e=>rw[hq]at ht;cases ht
    | ok us=>
     rw[hq]at ht;cases ht;obtain⟨i1,i2⟩:=ih N _ us (by omega) hq;refine⟨fun t ht=>?_,by simp only[T7]at *;omega⟩;rcases List.mem_cons.1 ht with rfl|ht
     .refine⟨v1,?_⟩;unfold iO;rw[Lib.size_eq];simp only[List.length_take,List.size_toArray];simp;omega
     .exact i1 t ht
theorem jv{l:Bs}{ts:List Tok}(h:gG l=.ok ts):(∀t,t∈ts->bq t=true/\t.text.size≤16)/\ts.length≤l.length:=CN _ _ l ts (Uh _) h
def z0:Ex:=.mk 0 0 ⟨#[]⟩ []
theorem vj:vex z0=.agg [.d (ac 0),.d (ac 0),.d (ab ⟨#[]⟩),.d (.sl [])]:=by unfold z0;rw[an];rfl
def lR(x:Ex×Int×Int):V:=.tup [vex x.1,.d (ac x.2.1),.d (ac x.2.2)]
theorem qE(l:Bs)(hl:16384<l.length)(σ:LLV):Fun G 58 [.d (ab (bs l))] σ (aP (.tup [.d (.sl []),.d (ac 0),.d (ac 2)]) σ):=by
 refine ai Tryz.func58 k58 rfl fun hb hw=>?_;unfold c58;have hbig':(16384:Int)<((l.length:Nat):Int):=by omega
 simp -dsimp only[aw,jV,jW,jX,jY,jZ,jA,reduceIte,reduceCtorEq,jB,jC,jD,jE,jF,jG,bF,decide_eq_true hbig'];first|exact av hb rfl rfl|exact au hb rfl rfl
theorem Jf{l:Bs}{ts:List Tok}(h:gG l=.ok ts)(hl:l.length≤16384):TsOK ts:=by
 obtain⟨h1,h2⟩:=jv h;exact⟨fun t ht=>by have:=(h1 t ht).2;omega,by omega⟩
theorem uS{l:Bs}{n e:Int}(h:gG l=.err n e):e≠0:=by
 suffices H:∀(k:Nat) (N:Int) (l:Bs),l.length≤k->gk N l=.err n e->e≠0 from H _ _ l (Uh _) h
 intro k
 induction k with
 | zero=>
  intro N l h ht;have:l=[]:=T6 (by omega);subst this;rw[cK,jd]at ht;cases ht
 | succ k ih=>
  intro N l h ht;rw[cK]at ht;have hs:=(gf l).length_le;cases hsk:ck l with
  | nil=>rw[hsk]at ht;cases ht
  | cons c r=>
   rw[hsk]at ht hs;simp only at ht;cases hrd:cB (c::r)with
   | err e'=>rw[hrd]at ht;cases ht;exact yL hrd
   | tok kd n' len=>
    obtain⟨g1,g2⟩:=lY hrd;rw[hrd]at ht;simp only at ht;have hdl:=Uf (l:=c::r) (i:=len);cases hq:gk N ((c::r).drop len)with
    | err x e'=>
     rw[hq]at ht;cases ht;exact ih N _ (by omega) hq
    | ok us=>rw[hq]at ht;cases ht
end Go.Proofs.YtnhphlmblenapaaGreatDoor
