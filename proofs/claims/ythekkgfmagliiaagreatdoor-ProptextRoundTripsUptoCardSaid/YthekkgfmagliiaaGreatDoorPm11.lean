import Derived.Test.YthekkgfmagliiaaGreatDoorPm6
set_option linter.unusedVariables false
set_option linter.unusedSimpArgs false
set_option linter.unusedSectionVars false
set_option maxHeartbeats 4000000
open Bool renaming and_eq_true->RS,false_or->RU
open List renaming map_cons->RW,map_nil->RX,take_left->RY,length_cons->RZ,length_nil->R0,length_append->R5
open Nat renaming le_refl->R6
open Option renaming isSome_none->R7,map_none->R8
namespace Go.Proofs.YthekkgfmagliiaaGreatDoor
open Go.RowKit
open Nat renaming reduceLeDiff -> jA, reduceBEq -> jB, reduceLT -> jC, reduceEqDiff -> jD, reduceAdd -> jE, reduceSub -> jF, reduceMul -> jG
open V renaming copy -> jV, lend -> jW, lend1 -> jX, cells -> jY, boxable -> jZ
theorem AH(ts:List Tok)(a i:Nat)(H:TsOK ts)(ha:a≤ts.length)(a0:Ex)
 (hW:∀b,a<b->b≤ts.length->∀σ:LLV,σ[i]? = some (pb ts b)->Fun G 237 [.ptr i 0] σ (PQ ts i σ (par .W (ts.drop b))))
 (σ:LLV)(hi:σ[i]? = some (pb ts a)):Fun G 247 [.ptr i 0,vex a0] σ (PQ ts i σ (par (.In a0) (ts.drop a))):=by
 refine ai Tryz.func247 Q1 (by simp only[al];rfl) fun hb hw=>?_;have S:=St.init hi hb;have hpar:=cT (.In a0) (ts.drop a);simp only[aQ,bS]at hpar;unfold MN;simp -dsimp only[aw,jV,jW,jX,jY,jZ,jA,reduceIte,reduceCtorEq,jB,jC,jD,jE,jF,jG,al];refine fA H (m:=aa 123) S ha (fun hs ha1 σ1 S1 hl1=>?_) (fun hs=>?_)
 case refine_2=>
  rw[hs,if_neg (by decide)]at hpar;simp -dsimp only[aw,jV,jW,jX,jY,jZ,jA,reduceIte,reduceCtorEq,jB,jC,jD,jE,jF,jG];exact eo S ha hpar
 rw[hs,if_pos rfl]at hpar;simp only at hpar;rw[<-hl1];simp -dsimp only[aw,jV,jW,jX,jY,jZ,jA,reduceIte,reduceCtorEq,jB,jC,jD,jE,jF,jG];refine aY [0,4,5] (R:=fun(j:Nat) ρ σ'=>∃(a1:Nat) (args:List Ex) (σ2:LLV) (x:LLV),ρ=[(0,.ptr i 0),(4,.ptr (σ1.length+1) 0),(5,.own 24 4 (args.map dex))]/\σ'=σ2++x/\x=[[.d (ab a0.op),.d (ab a0.num),.d (ae a0.name),.d (.sl (a0.args.map dex))],[.d (ab 0),.d (ab 0),.d (ae ⟨#[]⟩),.nil]]/\St σ i ts a1 σ2/\σ2.length=σ1.length/\a1≤ts.length/\a+1+j≤a1/\args.length≤2*a1/\par (.In a0) (ts.drop a)=par (.Ip args) (ts.drop a1)) (ts.length-a) ⟨a+1,[a0],σ1,_,by simp only[RW,RX,bq];rfl,rfl,rfl,S1,rfl,ha1,by omega,by simp only[RZ,R0];omega,hpar⟩ ?_ _;rintro j ρ' σ' hj ⟨a1,args,σ2,x,rfl,rfl,hx,S2,hl2,h1,h2,h3,hp2⟩;have hp3:=cT (.Ip args) (ts.drop a1);rw[<-hp2]at hp3;simp only[aQ]at hp3
 subst hx;rw[<-hl2];simp -dsimp only[aw,jV,jW,jX,jY,jZ,jA,reduceIte,reduceCtorEq,jB,jC,jD,jE,jF,jG];refine jv H S2 h1 (hW _ (by omega) h1 _ (au S2.at_ _)) (fun e1 a2 hx g1 g2 g3 σ3 S3 hl3=>?_) (fun c r b hx σ3 S3 hl3=>?_)
 case refine_2=>
  rw[hx,PR.bind]at hp3;rw[<-hl3];simp -dsimp only[aw,jV,jW,jX,jY,jZ,jA,reduceIte,reduceCtorEq,jB,jC,jD,jE,jF,jG];exact dD S3 hp3 rfl
 rw[hx,PR.bind,bS]at hp3;have g3:=g3 rfl;rw[<-hl3];simp -dsimp only[aw,jV,jW,jX,jY,jZ,jA,reduceIte,reduceCtorEq,jB,jC,jD,jE,jF,jG,al];refine fA H (m:=aE 46 46) S3 g2 (fun hs3 ha4 σ4 S4 hl4=>?_) (fun hs3=>?_)
 case refine_2=>
  rw[hs3,if_neg (by decide)]at hp3;simp -dsimp only[aw,jV,jW,jX,jY,jZ,jA,reduceIte,reduceCtorEq,jB,jC,jD,jE,jF,jG];exact eo S3 g2 hp3
 rw[hs3,if_pos rfl]at hp3;simp only at hp3;rw[<-hl4];simp -dsimp only[aw,jV,jW,jX,jY,jZ,jA,reduceIte,reduceCtorEq,jB,jC,jD,jE,jF,jG];refine Fx H S4 ha4 (hW _ (by omega) ha4 _ (au S4.at_ _)) (fun e2 a3 hx2 k1 k2 k3 σ5 S5 hl5=>⟨?_,?_⟩) (fun c r b hx2 σ5 S5 hl5=>?_) (fun⟨c,r,hx2⟩=>?_)
 .rw[<-hl5];simp -dsimp only[aw,jV,jW,jX,jY,jZ,jA,reduceIte,reduceCtorEq,jB,jC,jD,jE,jF,jG]
 .rw[<-hl5];rw[hx2,PR.bind,bS]at hp3;have k3:=k3 rfl;have hL:=H.len;simp -dsimp only[aw,jV,jW,jX,jY,jZ,jA,reduceIte,reduceCtorEq,jB,jC,jD,jE,jF,jG,al];refine bH (by omega) ?_;simp -dsimp only[aw,jV,jW,jX,jY,jZ,jA,reduceIte,reduceCtorEq,jB,jC,jD,jE,jF,jG];have hrows:args.map dex++[[ab e1.op,ab e1.num,ae e1.name,D.sl (e1.args.map dex)],[ab e2.op,ab e2.num,ae e2.name,D.sl (e2.args.map dex)]]=(args++[e1,e2]).map dex:=by rw[List.map_append,RW,RW,RX,bq,bq]
  rw[hrows];refine dX H (m:=aa 44) S5 k2 (fun h44 ha6 σ6 S6 hl6=>?_) (fun h44=>?_)
  .rw[h44,if_pos rfl]at hp3;simp only at hp3;rw[<-hl6];simp -dsimp only[aw,jV,jW,jX,jY,jZ,jA,reduceIte,reduceCtorEq,jB,jC,jD,jE,jF,jG];refine⟨by omega,Nxt.to (σ6++[[.d (ab a0.op),.d (ab a0.num),.d (ae a0.name),.d (.sl (a0.args.map dex))],[.d (ab 0),.d (ab 0),.d (ae ⟨#[]⟩),.nil]]) [[.d (ab e1.op),.d (ab e1.num),.d (ae e1.name),.d (.sl (e1.args.map dex))]] (by simp) (by simp) (av S6.bb rfl) ?_ ⟨a3+1,args++[e1,e2],σ6,_,?_,rfl,rfl,S6,?_,ha6,by omega,?_,hp3⟩⟩
   .have:=S6.lt;simp[am,V.under,S6.len];omega
   .rw[hl6,hl5,hl4,hl3,hl2]
   .omega
   .simp only[R5,RZ,R0];omega
  .rw[h44,if_neg (by decide),bS]at hp3;simp -dsimp only[aw,jV,jW,jX,jY,jZ,jA,reduceIte,reduceCtorEq,jB,jC,jD,jE,jF,jG];refine fA H (m:=aa 125) S5 k2 (fun hs6 ha6 σ6 S6 hl6=>?_) (fun hs6=>?_)
   .rw[hs6,if_pos rfl]at hp3;have hN:=fe 23 (args++[e1,e2]);rw[<-hl6];simp -dsimp only[aw,jV,jW,jX,jY,jZ,jA,reduceIte,reduceCtorEq,jB,jC,jD,jE,jF,jG];refine ac (hN _) ?_;simp -dsimp only[aw,jV,jW,jX,jY,jZ,jA,reduceIte,reduceCtorEq,jB,jC,jD,jE,jF,jG,al,aZ,bL,be,aJ,aK];exact dM S6 ha6 hp3 (by rw[al];simp[Kw,aU,bu,aZ,bL,be,aJ,aK,bq,aw,jV,jW,jX,jY,jZ,jA,reduceIte,reduceCtorEq,jB,jC,jD,jE,jF,jG])
   .rw[hs6,if_neg (by decide)]at hp3;simp -dsimp only[aw,jV,jW,jX,jY,jZ,jA,reduceIte,reduceCtorEq,jB,jC,jD,jE,jF,jG];exact eo S5 k2 hp3
 .rw[hx2,PR.bind]at hp3;intro ρ2;rw[<-hl5];simp -dsimp only[aw,jV,jW,jX,jY,jZ,jA,reduceIte,reduceCtorEq,jB,jC,jD,jE,jF,jG];exact dD S5 hp3 rfl
 .simp -dsimp only[aw,jV,jW,jX,jY,jZ,jA,reduceIte,reduceCtorEq,jB,jC,jD,jE,jF,jG]
theorem zz{ts:List Tok}{a k:Nat}(h:fI ts a k=true):∃(o:Int) (ex:Bool) (m:ByteArray) (n:Int),kO ts a k=.tup [.agg [.d (ae m),.d (ab o),.d (ab n)],an ex,an true]/\eY k (ts.drop a)=some (o,ex,ts.drop (a+1)):=by
 unfold fI at h;unfold kO eY;rw[mM];cases hf:gy cf k ts a with
 | some b=>exact⟨_,_,_,_,rfl,rfl⟩
 | none=>
  rw[hf]at h;simp only[R7,RU,RS,decide_eq_true_eq,Bool.or_eq_true]at h;obtain⟨rfl,h⟩:=h;simp only[R8,if_true,true_and,bS];cases h62:aG (aa 62) ts a with
  | true=>exact⟨_,_,_,_,rfl,by simp⟩
  | false=>
   rw[h62]at h;have h:=h.resolve_left (by decide);simp only[h,Bool.false_eq_true,if_false,if_true];exact⟨_,_,_,_,rfl,rfl⟩
theorem zG{ts:List Tok}{a k:Nat}(h:fI ts a k=false):kO ts a k=.tup [zb,an false,an false]/\eY k (ts.drop a)=none:=by
 unfold fI at h;unfold kO eY;rw[mM];cases hf:gy cf k ts a with
 | some b=>rw[hf]at h;simp at h
 | none=>
  rw[hf]at h;simp only[R7,RU,Bool.and_eq_false_iff,decide_eq_false_iff_not,Bool.or_eq_false_iff]at h;simp only[R8,bS];rcases h with h|⟨h1,h2⟩
  .simp[h]
  .simp[h1,h2]
section
variable {σ0 σ : LLV} {i : Nat} {ts : List Tok} {a : Nat} (H : TsOK ts) {l : LLV} {K P : V -> LLV -> Prop} {s : Tag K} {t : Tag P}
include H
theorem Dj{k:Nat}(h:fI ts a k=true):a+1≤ts.length:=by
 apply Classical.byContradiction;intro hn;have hs:∀m,aG m ts a=false:=fun m=>iN (by omega);unfold fI gy at h;simp only[hs,Bool.and_false,Bool.or_false]at h;have:cf.find? (fun _=>false)=none:=rfl;rw[this]at h;cases h
theorem Fi{k:Nat}(hk:k≤100)(S:St σ0 i ts a σ)(ha:a≤ts.length)(ht:∀(o:Int) (ex:Bool) (m:ByteArray) (n:Int),eY k (ts.drop a)=some (o,ex,ts.drop (a+1))->a+1≤ts.length->∀σ',St σ0 i ts (a+1) σ'->σ'.length=σ.length->K (.tup [.agg [.d (ae m),.d (ab o),.d (ab n)],an ex,an true]) (σ'++l))(hf:eY k (ts.drop a)=none->K (.tup [zb,an false,an false]) (σ++l)):
 jN G 248 [.ptr i 0,.d (ab k)] (σ++l) K P s t:=by
 refine aW (vj k hk ts a i H.size H.len ha (σ++l) (au S.at_ l)) fun o σ' ⟨e1,e2⟩=>?_;subst e1;rw[bg];cases hs:fI ts a k with
 | true=>
  rw[hs,if_pos rfl,aR S.at_]at e2;subst e2;obtain⟨o,ex,m,n,h1,h2⟩:=zz hs;rw[h1];exact ht o ex m n h2 (Dj H hs) _ (S.step _) (S.slen _)
 | false=>
  rw[hs,if_neg (by decide)]at e2;subst e2;obtain⟨h1,h2⟩:=zG hs;rw[h1];exact hf h2
end
theorem Ho(k:Nat)(hk:k≤13)(ts:List Tok)(a i:Nat)(H:TsOK ts)(ha:a≤ts.length)
 (hU:∀σ:LLV,σ[i]? = some (pb ts a)->Fun G 246 [.ptr i 0] σ (PQ ts i σ (par .U (ts.drop a))))
 (hL:k≤12->∀b,a≤b->b≤ts.length->∀σ:LLV,σ[i]? = some (pb ts b)->Fun G 243 [.ptr i 0,.d (ab ((k:Int)+1))] σ (PQ ts i σ (par (.L (k+1)) (ts.drop b))))
 (hN:∀b e,a<b->b≤ts.length->∀σ:LLV,σ[i]? = some (pb ts b)->Fun G 247 [.ptr i 0,vex e] σ (PQ ts i σ (par (.In e) (ts.drop b))))
 (σ:LLV)(hi:σ[i]? = some (pb ts a)):Fun G 243 [.ptr i 0,.d (ab k)] σ (PQ ts i σ (par (.L k) (ts.drop a))):=by
 refine ai Tryz.func243 P3 rfl fun hb hw=>?_;have S:=St.init hi hb;have hpar:=cT (.L k) (ts.drop a);simp only[aQ]at hpar;unfold Nu;by_cases hgt:12<k
 .have hd:decide (12<((k:Nat):Int))=true:=by rw[decide_eq_true_eq];omega
  rw[if_pos hgt]at hpar;simp -dsimp only[aw,jV,jW,jX,jY,jZ,jA,reduceIte,reduceCtorEq,jB,jC,jD,jE,jF,jG,hd];refine jv H S ha (hU _ (au S.at_ _)) (fun e1 a2 hx g1 g2 g3 σ3 S3 hl3=>?_) (fun c r b hx σ3 S3 hl3=>?_)
  .rw[hx]at hpar;rw[<-hl3];simp -dsimp only[aw,jV,jW,jX,jY,jZ,jA,reduceIte,reduceCtorEq,jB,jC,jD,jE,jF,jG,al];exact dM S3 g2 hpar (by rw[al];simp[BX,aU,bu,aw,jV,jW,jX,jY,jZ,jA,reduceIte,reduceCtorEq,jB,jC,jD,jE,jF,jG])
  .rw[hx]at hpar;rw[<-hl3];simp -dsimp only[aw,jV,jW,jX,jY,jZ,jA,reduceIte,reduceCtorEq,jB,jC,jD,jE,jF,jG];exact dD S3 hpar rfl
 have hd:decide (12<((k:Nat):Int))=false:=by rw[decide_eq_false_iff_not];omega
 have hwr:IntKind.i64.wrap (((k:Nat):Int)+1)=(k:Int)+1:=aX (by omega) (by omega);rw[if_neg hgt]at hpar;simp -dsimp only[aw,jV,jW,jX,jY,jZ,jA,reduceIte,reduceCtorEq,jB,jC,jD,jE,jF,jG,hd,hwr];refine jv H S ha (hL (by omega) a (R6 _) ha _ (au S.at_ _)) (fun e1 a1 hx g1 g2 g3 σ1 S1 hl1=>?_) (fun c r b hx σ3 S3 hl3=>?_)
 case refine_2=>
  rw[hx,PR.bind]at hpar;rw[<-hl3];simp -dsimp only[aw,jV,jW,jX,jY,jZ,jA,reduceIte,reduceCtorEq,jB,jC,jD,jE,jF,jG];exact dD S3 hpar rfl
 rw[hx,PR.bind]at hpar;have g3:=g3 rfl;rw[<-hl1];simp -dsimp only[aw,jV,jW,jX,jY,jZ,jA,reduceIte,reduceCtorEq,jB,jC,jD,jE,jF,jG,al];refine aY [0,1,4,5] (R:=fun(j:Nat) ρ σ'=>∃(a1:Nat) (e:Ex) (σ2:LLV) (x:LLV),ρ=[(0,.ptr i 0),(1,.d (ab k)),(4,.ptr σ1.length 0),(5,.ptr (σ1.length+1) 0)]/\σ'=σ2++x/\x=[[.d (ab 0),.d (ab 0),.d (ae ⟨#[]⟩),.nil],[.d (ab e.op),.d (ab e.num),.d (ae e.name),.d (.sl (e.args.map dex))]]/\St σ i ts a1 σ2/\σ2.length=σ1.length/\a1≤ts.length/\a+1+j≤a1/\par (.L k) (ts.drop a)=par (.Lp k e) (ts.drop a1)) (ts.length-a) ⟨a1,e1,σ1,_,rfl,rfl,rfl,S1,rfl,g2,by omega,hpar⟩ ?_ _;rintro j ρ' σ' hj ⟨a2,e,σ2,x,rfl,rfl,hx2,S2,hl2,h1,h2,hp2⟩;have hp3:=cT (.Lp k e) (ts.drop a2);rw[<-hp2]at hp3;simp only[aQ]at hp3;subst hx2;rw[<-hl2];have hL1:=H.len;have h1lt:=S2.lt;by_cases h9:k=9
 .have hd9:decide (((k:Nat):Int)=9)=true:=by rw[decide_eq_true_eq];omega
  rw[if_pos h9,bS]at hp3;simp -dsimp only[aw,jV,jW,jX,jY,jZ,jA,reduceIte,reduceCtorEq,jB,jC,jD,jE,jF,jG,hd9];refine dX H (m:=bX) S2 h1 (fun hin ha3 σ3 S3 hl3=>?_) (fun hin=>?_)
  .rw[hin,if_pos rfl]at hp3;simp only at hp3;have hN':=fun l=>hN (a2+1) e (by omega) ha3 _ (au S3.at_ l);rw[al]at hN';rw[<-hl3];simp -dsimp only[aw,jV,jW,jX,jY,jZ,jA,reduceIte,reduceCtorEq,jB,jC,jD,jE,jF,jG];refine jv H S3 ha3 (hN' _) (fun e4 a4 hx4 k1 k2 k3 σ4 S4 hl4=>?_) (fun c r b hx σ3 S3 hl3=>?_)
   .rw[hx4,PR.bind]at hp3;rw[<-hl4];simp -dsimp only[aw,jV,jW,jX,jY,jZ,jA,reduceIte,reduceCtorEq,jB,jC,jD,jE,jF,jG,al];refine⟨by omega,Nxt.to (σ4++[[.d (ab 0),.d (ab 0),.d (ae ⟨#[]⟩),.nil],[.d (ab e4.op),.d (ab e4.num),.d (ae e4.name),.d (.sl (e4.args.map dex))]]) [] (by simp) (by simp) (av S4.bb rfl) ?_ ⟨a4,e4,σ4,_,?_,rfl,rfl,S4,by omega,k2,by omega,hp3⟩⟩
    .simp[am,V.under];omega
    .rw[hl4,hl3,hl2]
   .rw[hx,PR.bind]at hp3;rw[<-hl3];simp -dsimp only[aw,jV,jW,jX,jY,jZ,jA,reduceIte,reduceCtorEq,jB,jC,jD,jE,jF,jG];exact dD S3 hp3 rfl
  rw[hin,if_neg (by decide)]at hp3;simp only at hp3;simp -dsimp only[aw,jV,jW,jX,jY,jZ,jA,reduceIte,reduceCtorEq,jB,jC,jD,jE,jF,jG];refine Fi H (by omega) S2 h1 (fun o ex m n hop ha3 σ3 S3 hl3=>?_) (fun hop=>?_)
  case refine_2=>
   rw[hop]at hp3;simp -dsimp only[aw,jV,jW,jX,jY,jZ,jA,reduceIte,reduceCtorEq,jB,jC,jD,jE,jF,jG,zb];exact dM S2 h1 hp3 (by rw[al];simp[BX,aU,bu,aw,jV,jW,jX,jY,jZ,jA,reduceIte,reduceCtorEq,jB,jC,jD,jE,jF,jG])
  rw[hop]at hp3;simp only at hp3;rw[<-hl3];simp -dsimp only[aw,jV,jW,jX,jY,jZ,jA,reduceIte,reduceCtorEq,jB,jC,jD,jE,jF,jG,hwr];refine jv H S3 ha3 (hL (by omega) _ (by omega) ha3 _ (au S3.at_ _)) (fun e4 a4 hx4 k1 k2 k3 σ4 S4 hl4=>?_) (fun c r b hx σ4 S4 hl4=>?_)
  case refine_2=>
   rw[hx,PR.bind]at hp3;rw[<-hl4];simp -dsimp only[aw,jV,jW,jX,jY,jZ,jA,reduceIte,reduceCtorEq,jB,jC,jD,jE,jF,jG];exact dD S4 hp3 rfl
  rw[hx4,PR.bind]at hp3;have hle:=S4.lt;rw[<-hl4];cases ex with
  | true=>
   have hNd:=fe o [e4,e];rw[if_pos rfl]at hp3;simp -dsimp only[aw,jV,jW,jX,jY,jZ,jA,reduceIte,reduceCtorEq,jB,jC,jD,jE,jF,jG,al];refine ac (by simpa only[RW,RX,bq]using hNd _) ?_;simp -dsimp only[aw,jV,jW,jX,jY,jZ,jA,reduceIte,reduceCtorEq,jB,jC,jD,jE,jF,jG,al,aZ,bL,be,aJ,aK];refine⟨by omega,Nxt.to (σ4++[[.d (ab 0),.d (ab 0),.d (ae ⟨#[]⟩),.nil],[.d (ab o),.d (ab 0),.d (ae ⟨#[]⟩),.d (.sl ([e4,e].map dex))]]) [[.d (ae m),.d (ab o),.d (ab n)],[.d (ab e.op),.d (ab e.num),.d (ae e.name),.d (.sl (e.args.map dex))]] (by simp[bq]) (by simp) (av S4.bb rfl) ?_ ⟨a4,aZ o [e4,e],σ4,_,?_,rfl,rfl,S4,by omega,k2,by omega,hp3⟩⟩
   .simp[am,V.under];omega
   .rw[hl4,hl3,hl2]
  | false=>
   have hNd:=fe o [e,e4];rw[if_neg (by decide)]at hp3;simp -dsimp only[aw,jV,jW,jX,jY,jZ,jA,reduceIte,reduceCtorEq,jB,jC,jD,jE,jF,jG,al];refine ac (by simpa only[RW,RX,bq]using hNd _) ?_;simp -dsimp only[aw,jV,jW,jX,jY,jZ,jA,reduceIte,reduceCtorEq,jB,jC,jD,jE,jF,jG,al,aZ,bL,be,aJ,aK];refine⟨by omega,Nxt.to (σ4++[[.d (ab 0),.d (ab 0),.d (ae ⟨#[]⟩),.nil],[.d (ab o),.d (ab 0),.d (ae ⟨#[]⟩),.d (.sl ([e,e4].map dex))]]) [[.d (ae m),.d (ab o),.d (ab n)],[.d (ab e4.op),.d (ab e4.num),.d (ae e4.name),.d (.sl (e4.args.map dex))]] (by simp[bq]) (by simp) (av S4.bb rfl) ?_ ⟨a4,aZ o [e,e4],σ4,_,?_,rfl,rfl,S4,by omega,k2,by omega,hp3⟩⟩
   .simp[am,V.under];omega
   .rw[hl4,hl3,hl2]
 .have hd9:decide (((k:Nat):Int)=9)=false:=by rw[decide_eq_false_iff_not];omega
  rw[if_neg h9]at hp3;simp only at hp3;simp -dsimp only[aw,jV,jW,jX,jY,jZ,jA,reduceIte,reduceCtorEq,jB,jC,jD,jE,jF,jG,hd9];refine Fi H (by omega) S2 h1 (fun o ex m n hop ha3 σ3 S3 hl3=>?_) (fun hop=>?_)
  case refine_2=>
   rw[hop]at hp3;simp -dsimp only[aw,jV,jW,jX,jY,jZ,jA,reduceIte,reduceCtorEq,jB,jC,jD,jE,jF,jG,zb];exact dM S2 h1 hp3 (by rw[al];simp[BX,aU,bu,aw,jV,jW,jX,jY,jZ,jA,reduceIte,reduceCtorEq,jB,jC,jD,jE,jF,jG])
  rw[hop]at hp3;simp only at hp3;rw[<-hl3];simp -dsimp only[aw,jV,jW,jX,jY,jZ,jA,reduceIte,reduceCtorEq,jB,jC,jD,jE,jF,jG,hwr];refine jv H S3 ha3 (hL (by omega) _ (by omega) ha3 _ (au S3.at_ _)) (fun e4 a4 hx4 k1 k2 k3 σ4 S4 hl4=>?_) (fun c r b hx σ4 S4 hl4=>?_)
  case refine_2=>
   rw[hx,PR.bind]at hp3;rw[<-hl4];simp -dsimp only[aw,jV,jW,jX,jY,jZ,jA,reduceIte,reduceCtorEq,jB,jC,jD,jE,jF,jG];exact dD S4 hp3 rfl
  rw[hx4,PR.bind]at hp3;have hle:=S4.lt;rw[<-hl4];cases ex with
  | true=>
   have hNd:=fe o [e4,e];rw[if_pos rfl]at hp3;simp -dsimp only[aw,jV,jW,jX,jY,jZ,jA,reduceIte,reduceCtorEq,jB,jC,jD,jE,jF,jG,al];refine ac (by simpa only[RW,RX,bq]using hNd _) ?_;simp -dsimp only[aw,jV,jW,jX,jY,jZ,jA,reduceIte,reduceCtorEq,jB,jC,jD,jE,jF,jG,al,aZ,bL,be,aJ,aK];refine⟨by omega,Nxt.to (σ4++[[.d (ab 0),.d (ab 0),.d (ae ⟨#[]⟩),.nil],[.d (ab o),.d (ab 0),.d (ae ⟨#[]⟩),.d (.sl ([e4,e].map dex))]]) [[.d (ae m),.d (ab o),.d (ab n)],[.d (ab e.op),.d (ab e.num),.d (ae e.name),.d (.sl (e.args.map dex))]] (by simp[bq]) (by simp) (av S4.bb rfl) ?_ ⟨a4,aZ o [e4,e],σ4,_,?_,rfl,rfl,S4,by omega,k2,by omega,hp3⟩⟩
   .simp[am,V.under];omega
   .rw[hl4,hl3,hl2]
  | false=>
   have hNd:=fe o [e,e4];rw[if_neg (by decide)]at hp3;simp -dsimp only[aw,jV,jW,jX,jY,jZ,jA,reduceIte,reduceCtorEq,jB,jC,jD,jE,jF,jG,al];refine ac (by simpa only[RW,RX,bq]using hNd _) ?_;simp -dsimp only[aw,jV,jW,jX,jY,jZ,jA,reduceIte,reduceCtorEq,jB,jC,jD,jE,jF,jG,al,aZ,bL,be,aJ,aK];refine⟨by omega,Nxt.to (σ4++[[.d (ab 0),.d (ab 0),.d (ae ⟨#[]⟩),.nil],[.d (ab o),.d (ab 0),.d (ae ⟨#[]⟩),.d (.sl ([e,e4].map dex))]]) [[.d (ae m),.d (ab o),.d (ab n)],[.d (ab e4.op),.d (ab e4.num),.d (ae e4.name),.d (.sl (e4.args.map dex))]] (by simp[bq]) (by simp) (av S4.bb rfl) ?_ ⟨a4,aZ o [e,e4],σ4,_,?_,rfl,rfl,S4,by omega,k2,by omega,hp3⟩⟩
   .simp[am,V.under];omega
   .rw[hl4,hl3,hl2]
end Go.Proofs.YthekkgfmagliiaaGreatDoor
namespace Go.Proofs.YthekkgfmagliiaaGreatDoor
open Go.RowKit
open Nat renaming reduceLeDiff -> jA, reduceBEq -> jB, reduceLT -> jC, reduceEqDiff -> jD, reduceAdd -> jE, reduceSub -> jF, reduceMul -> jG
open V renaming copy -> jV, lend -> jW, lend1 -> jX, cells -> jY, boxable -> jZ
theorem Hp(ts:List Tok)(a i:Nat)(H:TsOK ts)(ha:a≤ts.length)
 (hL:∀σ:LLV,σ[i]? = some (pb ts a)->Fun G 243 [.ptr i 0,.d (ab 3)] σ (PQ ts i σ (par (.L 3) (ts.drop a))))
 (hI:∀b,a<b->b≤ts.length->∀σ:LLV,σ[i]? = some (pb ts b)->Fun G 239 [.ptr i 0] σ (PQ ts i σ (par .I (ts.drop b))))
 (σ:LLV)(hi:σ[i]? = some (pb ts a)):Fun G 239 [.ptr i 0] σ (PQ ts i σ (par .I (ts.drop a))):=by
 refine ai Tryz.func239 Ru rfl fun hb hw=>?_;have S:=St.init hi hb;have hpar:=cT .I (ts.drop a);simp only[aQ]at hpar;unfold Oz;simp -dsimp only[aw,jV,jW,jX,jY,jZ,jA,reduceIte,reduceCtorEq,jB,jC,jD,jE,jF,jG];refine jv H S ha (hL _ (au hi _)) (fun e a1 hx g1 g2 g3 σ1 S1 hl1=>?_) (fun c r b hx σ1 S1 hl1=>?_)
 case refine_2=>
  rw[hx,PR.bind]at hpar;rw[<-hl1];simp -dsimp only[aw,jV,jW,jX,jY,jZ,jA,reduceIte,reduceCtorEq,jB,jC,jD,jE,jF,jG];exact dD S1 hpar rfl
 rw[hx,PR.bind,bS]at hpar;have g3:=g3 rfl;rw[<-hl1];simp -dsimp only[aw,jV,jW,jX,jY,jZ,jA,reduceIte,reduceCtorEq,jB,jC,jD,jE,jF,jG,al];refine dX H (m:=aE 61 62) S1 g2 (fun hs ha2 σ2 S2 hl2=>?_) (fun hs=>?_)
 case refine_2=>
  rw[hs,if_neg (by decide)]at hpar;simp -dsimp only[aw,jV,jW,jX,jY,jZ,jA,reduceIte,reduceCtorEq,jB,jC,jD,jE,jF,jG];exact dM S1 g2 hpar (by rw[al];simp[FB,aU,bu,aw,jV,jW,jX,jY,jZ,jA,reduceIte,reduceCtorEq,jB,jC,jD,jE,jF,jG])
 rw[hs,if_pos rfl]at hpar;simp only at hpar;rw[<-hl2];simp -dsimp only[aw,jV,jW,jX,jY,jZ,jA,reduceIte,reduceCtorEq,jB,jC,jD,jE,jF,jG];refine Fx H S2 ha2 (hI _ (by omega) ha2 _ (au S2.at_ _)) (fun e2 a3 hx2 k1 k2 k3 σ3 S3 hl3=>⟨?_,?_⟩) (fun c r b hx2 σ3 S3 hl3=>?_) (fun⟨c,r,hx2⟩=>?_)
 .rw[<-hl3];simp -dsimp only[aw,jV,jW,jX,jY,jZ,jA,reduceIte,reduceCtorEq,jB,jC,jD,jE,jF,jG]
 .rw[hx2,PR.bind]at hpar;have hN:=fe 21 [e,e2];rw[<-hl3];simp -dsimp only[aw,jV,jW,jX,jY,jZ,jA,reduceIte,reduceCtorEq,jB,jC,jD,jE,jF,jG,al];refine aN (by simpa only[RW,RX,bq]using hN _) ?_;simp -dsimp only[aw,jV,jW,jX,jY,jZ,jA,reduceIte,reduceCtorEq,jB,jC,jD,jE,jF,jG,al,aZ,bL,be,aJ,aK];exact dM S3 k2 hpar (by rw[al];simp[FB,aU,bu,aZ,bL,be,aJ,aK,bq,aw,jV,jW,jX,jY,jZ,jA,reduceIte,reduceCtorEq,jB,jC,jD,jE,jF,jG])
 .rw[hx2,PR.bind]at hpar;intro ρ2;rw[<-hl3];simp -dsimp only[aw,jV,jW,jX,jY,jZ,jA,reduceIte,reduceCtorEq,jB,jC,jD,jE,jF,jG];exact dD S3 hpar rfl
 .simp -dsimp only[aw,jV,jW,jX,jY,jZ,jA,reduceIte,reduceCtorEq,jB,jC,jD,jE,jF,jG]
theorem DP(ts:List Tok)(a i:Nat)(H:TsOK ts)(ha:a≤ts.length)
 (hI:∀σ:LLV,σ[i]? = some (pb ts a)->Fun G 239 [.ptr i 0] σ (PQ ts i σ (par .I (ts.drop a))))
 (hW:∀b,a<b->b≤ts.length->∀σ:LLV,σ[i]? = some (pb ts b)->Fun G 237 [.ptr i 0] σ (PQ ts i σ (par .W (ts.drop b))))
 (σ:LLV)(hi:σ[i]? = some (pb ts a)):Fun G 237 [.ptr i 0] σ (PQ ts i σ (par .W (ts.drop a))):=by
 refine ai Tryz.func237 Qi rfl fun hb hw=>?_;have S:=St.init hi hb;have hpar:=cT .W (ts.drop a);simp only[aQ]at hpar;unfold MD;simp -dsimp only[aw,jV,jW,jX,jY,jZ,jA,reduceIte,reduceCtorEq,jB,jC,jD,jE,jF,jG];refine jv H S ha (hI _ (au hi _)) (fun e a1 hx g1 g2 g3 σ1 S1 hl1=>?_) (fun c r b hx σ1 S1 hl1=>?_)
 case refine_2=>
  rw[hx,PR.bind]at hpar;rw[<-hl1];simp -dsimp only[aw,jV,jW,jX,jY,jZ,jA,reduceIte,reduceCtorEq,jB,jC,jD,jE,jF,jG];exact dD S1 hpar rfl
 rw[hx,PR.bind,bS]at hpar;have g3:=g3 rfl;rw[<-hl1];simp -dsimp only[aw,jV,jW,jX,jY,jZ,jA,reduceIte,reduceCtorEq,jB,jC,jD,jE,jF,jG,al];refine dX H (m:=aa 63) S1 g2 (fun hs ha2 σ2 S2 hl2=>?_) (fun hs=>?_)
 case refine_2=>
  rw[hs,if_neg (by decide)]at hpar;simp -dsimp only[aw,jV,jW,jX,jY,jZ,jA,reduceIte,reduceCtorEq,jB,jC,jD,jE,jF,jG];exact dM S1 g2 hpar (by rw[al];simp[HM,aU,bu,aw,jV,jW,jX,jY,jZ,jA,reduceIte,reduceCtorEq,jB,jC,jD,jE,jF,jG])
 rw[hs,if_pos rfl]at hpar;simp only at hpar;rw[<-hl2];simp -dsimp only[aw,jV,jW,jX,jY,jZ,jA,reduceIte,reduceCtorEq,jB,jC,jD,jE,jF,jG];refine jv H S2 ha2 (hW _ (by omega) ha2 _ (au S2.at_ _)) (fun e2 a3 hx2 k1 k2 k3 σ3 S3 hl3=>?_) (fun c r b hx2 σ3 S3 hl3=>?_)
 case refine_2=>
  rw[hx2,PR.bind]at hpar;rw[<-hl3];simp -dsimp only[aw,jV,jW,jX,jY,jZ,jA,reduceIte,reduceCtorEq,jB,jC,jD,jE,jF,jG];exact dD S3 hpar rfl
 rw[hx2,PR.bind,bS]at hpar;have k3:=k3 rfl;rw[<-hl3];simp -dsimp only[aw,jV,jW,jX,jY,jZ,jA,reduceIte,reduceCtorEq,jB,jC,jD,jE,jF,jG,al];refine fA H (m:=aa 58) S3 k2 (fun hs4 ha4 σ4 S4 hl4=>?_) (fun hs4=>?_)
 case refine_2=>
  rw[hs4,if_neg (by decide)]at hpar;simp -dsimp only[aw,jV,jW,jX,jY,jZ,jA,reduceIte,reduceCtorEq,jB,jC,jD,jE,jF,jG];exact eo S3 k2 hpar
 rw[hs4,if_pos rfl]at hpar;simp only at hpar;rw[<-hl4];simp -dsimp only[aw,jV,jW,jX,jY,jZ,jA,reduceIte,reduceCtorEq,jB,jC,jD,jE,jF,jG];refine Fx H S4 ha4 (hW _ (by omega) ha4 _ (au S4.at_ _)) (fun e3 a5 hx5 m1 m2 m3 σ5 S5 hl5=>⟨?_,?_⟩) (fun c r b hx5 σ5 S5 hl5=>?_) (fun⟨c,r,hx5⟩=>?_)
 .rw[<-hl5];simp -dsimp only[aw,jV,jW,jX,jY,jZ,jA,reduceIte,reduceCtorEq,jB,jC,jD,jE,jF,jG]
 .rw[hx5,PR.bind]at hpar;have hN:=fe 22 [e,e2,e3];rw[<-hl5];simp -dsimp only[aw,jV,jW,jX,jY,jZ,jA,reduceIte,reduceCtorEq,jB,jC,jD,jE,jF,jG,al];refine aN (by simpa only[RW,RX,bq]using hN _) ?_;simp -dsimp only[aw,jV,jW,jX,jY,jZ,jA,reduceIte,reduceCtorEq,jB,jC,jD,jE,jF,jG,al,aZ,bL,be,aJ,aK];exact dM S5 m2 hpar (by rw[al];simp[HM,aU,bu,aZ,bL,be,aJ,aK,bq,aw,jV,jW,jX,jY,jZ,jA,reduceIte,reduceCtorEq,jB,jC,jD,jE,jF,jG])
 .rw[hx5,PR.bind]at hpar;intro ρ2;rw[<-hl5];simp -dsimp only[aw,jV,jW,jX,jY,jZ,jA,reduceIte,reduceCtorEq,jB,jC,jD,jE,jF,jG];exact dD S5 hpar rfl
 .simp -dsimp only[aw,jV,jW,jX,jY,jZ,jA,reduceIte,reduceCtorEq,jB,jC,jD,jE,jF,jG]
theorem KV(ts:List Tok)(i:Nat)(H:TsOK ts):∀n a,a≤ts.length->
 (40*(ts.length-a)+15≤n->∀σ:LLV,σ[i]? = some (pb ts a)->Fun G 237 [.ptr i 0] σ (PQ ts i σ (par .W (ts.drop a))))/\
 (40*(ts.length-a)+14≤n->∀σ:LLV,σ[i]? = some (pb ts a)->Fun G 239 [.ptr i 0] σ (PQ ts i σ (par .I (ts.drop a))))/\
 (∀k,k≤13->40*(ts.length-a)+(16-k)≤n->∀σ:LLV,σ[i]? = some (pb ts a)->Fun G 243 [.ptr i 0,.d (ab ((k:Nat):Int))] σ (PQ ts i σ (par (.L k) (ts.drop a))))/\
 (∀e,40*(ts.length-a)≤n->∀σ:LLV,σ[i]? = some (pb ts a)->Fun G 247 [.ptr i 0,vex e] σ (PQ ts i σ (par (.In e) (ts.drop a))))/\
 (40*(ts.length-a)+2≤n->∀σ:LLV,σ[i]? = some (pb ts a)->Fun G 246 [.ptr i 0] σ (PQ ts i σ (par .U (ts.drop a))))/\
 (40*(ts.length-a)+1≤n->∀σ:LLV,σ[i]? = some (pb ts a)->Fun G 250 [.ptr i 0] σ (PQ ts i σ (par .P (ts.drop a)))):=by
 intro n
 induction n using Nat.strongRecOn with
 | _ n ih=>
 intro a ha;have W:∀b,a<b->b≤ts.length->40*(ts.length-a)≤n->∀σ:LLV,σ[i]? = some (pb ts b)->Fun G 237 [.ptr i 0] σ (PQ ts i σ (par .W (ts.drop b))):=fun b hb hb2 hn=>(ih (n-1) (by omega) b hb2).1 (by omega);refine⟨fun hn=>?_,fun hn=>?_,fun k hk hn=>?_,fun e hn=>?_,fun hn=>?_,fun hn=>?_⟩
 .exact DP ts a i H ha ((ih (n-1) (by omega) a ha).2.1 (by omega)) fun b hb hb2=>W b hb hb2 (by omega)
 .refine Hp ts a i H ha (fun σ hi=>?_) fun b hb hb2=>(ih (n-1) (by omega) b hb2).2.1 (by omega);exact(ih (n-1) (by omega) a ha).2.2.1 3 (by omega) (by omega) σ hi
 .refine Ho k hk ts a i H ha (fun σ hi=>?_) (fun hk2 b hb hb2 σ hi=>?_) fun b e hb hb2=>(ih (n-1) (by omega) b hb2).2.2.2.1 e (by omega)
  .exact(ih (n-1) (by omega) a ha).2.2.2.2.1 (by omega) σ hi
  .exact(ih (n-1) (by omega) b hb2).2.2.1 (k+1) (by omega) (by omega) σ hi
 .exact AH ts a i H ha e fun b hb hb2=>W b hb hb2 hn
 .exact CI ts a i H.size H.len ha ((ih (n-1) (by omega) a ha).2.2.2.2.2 (by omega)) fun b hb hb2=>(ih (n-1) (by omega) b hb2).2.2.2.2.1 (by omega)
 .exact wE ts a i H ha fun b hb hb2=>W b hb hb2 (by omega)
theorem D5(ts:List Tok)(i:Nat)(H:TsOK ts)(a:Nat)(ha:a≤ts.length)(σ:LLV)(hi:σ[i]? = some (pb ts a)):Fun G 237 [.ptr i 0] σ (PQ ts i σ (par .W (ts.drop a))):=
 (KV ts i H _ a ha).1 (R6 _) σ hi
def Hi(ts:List Tok)(x:PR):V:=match x with
 | .ok e r=>.tup [vex e,.d (ab ((ts.length-r.length:Nat):Int)),.d (ab 0)]
 | .bad c r=>.tup [vex (.mk 0 0 ⟨#[]⟩ []),.d (ab ((ts.length-r.length:Nat):Int)),.d (ab c)]
 | .out=>.junk
theorem vM(σ:LLV)(i j k:Nat):gN G 236 [.ptr i 0,.ptr j 0,.ptr k 0] σ none (fun σ'=>σ'=σ):=by
 refine iD Tryz.func236 N9 rfl (fun v h=>by cases h) fun hb=>?_;unfold Mb;simp -dsimp only[aw,jV,jW,jX,jY,jZ,jA,reduceIte,reduceCtorEq,jB,jC,jD,jE,jF,jG,Bu,A9,Option.getD_none];exact⟨σ.length,R6 _,by rw[RY];exact hb,RY⟩
theorem Ku(τ:LLV)(a b c d e:List V):(τ++[a,b,c,d,e]).take (τ.length+4)=τ++[a,b,c,d]:=by
 rw[List.take_append,List.take_of_length_le (by omega),Nat.add_sub_cancel_left];rfl
theorem vd(τ:LLV)(c:Int)(n:Nat)(l:List V):gN G 236 [.ptr τ.length 0,.ptr (τ.length+1) 0,.ptr (τ.length+2) 0] (τ++[[.d (ab 0),.d (ab 0),.d (ae ⟨#[]⟩),.nil],[.d (ab 0)],[.d (ab 0)],l]) (some (eT c n))
 (fun σ'=>σ'=τ++[[.d (ab 0),.d (ab 0),.d (ae ⟨#[]⟩),.nil],[.d (ab n)],[.d (ab c)],l]):=by
 refine iD Tryz.func236 N9 rfl (fun v h=>by cases h;rfl) fun hb=>?_;unfold Mb eT;simp -dsimp only[aw,jV,jW,jX,jY,jZ,jA,reduceIte,reduceCtorEq,jB,jC,jD,jE,jF,jG,Bu,A9,Option.getD_some];refine⟨τ.length+4,by simp,?_,?_⟩
 .rw[Ku];simp only[R5,RZ,R0,Nat.reduceAdd]at hb;unfold aj at hb ⊢;rw[List.all_append,RS]at hb ⊢;refine⟨hb.1,?_⟩;have:=hb.2;simp only[List.all_cons,List.all_nil,Bool.and_true,RS]at this ⊢;exact⟨rfl,rfl,rfl,this.2.2.2⟩
 .rw[Ku]
theorem xU(ts:List Tok)(H:TsOK ts)(a:Nat)(ha:a≤ts.length)(σ:LLV):Fun G 223 [.d (.sl (ts.map eA)),.d (ab a)] σ (az (Hi ts (par .W (ts.drop a))) σ):=by
 refine rz Tryz.func223 Rs rfl fun hb hw=>?_;unfold Mj;have hP:=D5 ts (σ.length+3) H a ha;simp -dsimp only[aw,jV,jW,jX,jY,jZ,jA,reduceIte,reduceCtorEq,jB,jC,jD,jE,jF,jG,sB,KC];refine aW (hP _ (by rw[mJ];rfl)) fun o σ' hq=>?_;cases hx:par .W (ts.drop a)with
 | out=>exact absurd hx (eV _ _)
 | bad c r=>
  rw[hx]at hq;obtain⟨rfl,b,rfl⟩:=hq;rw[lw];simp -dsimp only[aw,jV,jW,jX,jY,jZ,jA,reduceIte,reduceCtorEq,jB,jC,jD,jE,jF,jG,bE];refine(vd σ c (ts.length-r.length) _).mono fun σ' h=>?_;subst h;exact⟨_,by simp[EZ,aU,di,bu,aw,jV,jW,jX,jY,jZ,jA,reduceIte,reduceCtorEq,jB,jC,jD,jE,jF,jG];rfl,σ.length,R6 _,by rw[RY];exact hb,rfl,by rw[RY];exact⟨by simp[Hi,al,bL,be,aJ,aK],rfl⟩⟩
 | ok e r=>
  rw[hx]at hq;obtain⟨rfl,rfl⟩:=hq;rw[lw];simp -dsimp only[aw,jV,jW,jX,jY,jZ,jA,reduceIte,reduceCtorEq,jB,jC,jD,jE,jF,jG,bg,al,pb];refine(vM _ _ _ _).mono fun σ' h=>?_;subst h;exact⟨.tup [vex e,.d (ab ((ts.length-r.length:Nat):Int)),.d (ab 0)],by rw[al];simp[EZ,aU,di,bu,aw,jV,jW,jX,jY,jZ,jA,reduceIte,reduceCtorEq,jB,jC,jD,jE,jF,jG],σ.length,R6 _,by rw[RY];exact hb,by rw[al];rfl,by rw[RY];exact⟨rfl,rfl⟩⟩
def z0:Ex:=.mk 0 0 ⟨#[]⟩ []
theorem kJ:vex z0=.agg [.d (ab 0),.d (ab 0),.d (ae ⟨#[]⟩),.d (.sl [])]:=by unfold z0;rw[al];rfl
def jd(x:Ex×Int×Int):V:=.tup [vex x.1,.d (ab x.2.1),.d (ab x.2.2)]
theorem xD(l:Bs)(hl:16384<l.length)(σ:LLV):Fun G 43 [.d (ae (bs l))] σ (az (.tup [.d (.sl []),.d (ab 0),.d (ab 2)]) σ):=by
 refine ai Tryz.func43 k43 rfl fun hb hw=>?_;unfold c43;have hbig':(16384:Int)<((l.length:Nat):Int):=by omega
 simp -dsimp only[aw,jV,jW,jX,jY,jZ,jA,reduceIte,reduceCtorEq,jB,jC,jD,jE,jF,jG,bO,decide_eq_true hbig'];first|exact aA hb rfl rfl|exact aB hb rfl rfl
theorem IM{l:Bs}{ts:List Tok}(h:dP l=.ok ts)(hl:l.length≤16384):TsOK ts:=by
 obtain⟨h1,h2⟩:=gE h;exact⟨fun t ht=>by have:=(h1 t ht).2;omega,by omega⟩
end Go.Proofs.YthekkgfmagliiaaGreatDoor
