import Derived.Test.YtnhphlmblenapaaGreatDoorPm6
import Derived.Test.YtnhphlmblenapaaGreatDoorK7
set_option linter.unusedVariables false
set_option linter.unusedSimpArgs false
set_option linter.unusedSectionVars false
set_option maxHeartbeats 4000000
open Bool renaming and_eq_true->Sq,false_eq_true->Ss,true_and->Su,false_or->Sv
open List renaming getElem?_eq_getElem->Sw,map_cons->Sx,take_length->Sy,map_nil->SA,take_of_length_le->SB,take_left->SC,eq_nil_of_length_eq_zero->SD,length_cons->SE,length_nil->SF,length_set->SG,takeWhile_cons_of_pos->SH,drop_eq_getElem_cons->SI,drop_eq_nil_of_le->SJ,getElem?_eq_none->SK,length_append->SL,length_drop->SM,getElem_mem->SN
open Nat renaming le_refl->SO
open Option renaming isSome_none->SP,map_none->SQ
open UInt8 renaming toNat_inj->SR
namespace Go.Proofs.YtnhphlmblenapaaGreatDoor
open Go.RowKit
theorem xJ(ts:List Tok)(a i:Nat)(H:TsOK ts)(ha:a≤ts.length)(a0:Ex)
 (hW:∀b,a<b->b≤ts.length->∀σ:LLV,σ[i]? = some (pb ts b)->Fun G 255 [.ptr i 0] σ (PQ ts i σ (par .W (ts.drop b))))
 (σ:LLV)(hi:σ[i]? = some (pb ts a)):Fun G 321 [.ptr i 0,vex a0] σ (PQ ts i σ (par (.In a0) (ts.drop a))):=by
 refine ae Tryz.func321 Sd (by simp only[ao];rfl) fun hb hw=>?_;have S:=St.init hi hb;have hpar:=ku (.In a0) (ts.drop a);simp only[bo,aR]at hpar;unfold OL;simp -dsimp only[aw,seval,ao];refine eL H (m:=aa 123) S ha (fun hs ha1 σ1 S1 hl1=>?_) (fun hs=>?_)
 case refine_2=>
  rw[hs,if_neg (by decide)]at hpar;simp -dsimp only[aw,seval];exact dL S ha hpar
 rw[hs,if_pos rfl]at hpar;simp only at hpar;rw[<-hl1];simp -dsimp only[aw,seval];refine aS [0,4,5] (R:=fun(j:Nat) ρ σ'=>∃(a1:Nat) (args:List Ex) (σ2:LLV) (x:LLV),ρ=[(0,.ptr i 0),(4,.ptr (σ1.length+1) 0),(5,.own 50 4 (args.map dex))]/\σ'=σ2++x/\x=[[.d (ab a0.op),.d (ab a0.num),.d (aj a0.name),.d (.sl (a0.args.map dex))],[.d (ab 0),.d (ab 0),.d (aj ⟨#[]⟩),.nil]]/\St σ i ts a1 σ2/\σ2.length=σ1.length/\a1≤ts.length/\a+1+j≤a1/\args.length≤2*a1/\par (.In a0) (ts.drop a)=par (.Ip args) (ts.drop a1)) (ts.length-a) ⟨a+1,[a0],σ1,_,by simp only[Sx,SA,bD];rfl,rfl,rfl,S1,rfl,ha1,by omega,by simp only[SE,SF];omega,hpar⟩ ?_ _;rintro j ρ' σ' hj ⟨a1,args,σ2,x,rfl,rfl,hx,S2,hl2,h1,h2,h3,hp2⟩;have hp3:=ku (.Ip args) (ts.drop a1);rw[<-hp2]at hp3;simp only[bo]at hp3
 subst hx;rw[<-hl2];simp -dsimp only[aw,seval];refine iw H S2 h1 (hW _ (by omega) h1 _ (ah S2.at_ _)) (fun e1 a2 hx g1 g2 g3 σ3 S3 hl3=>?_) (fun c r b hx σ3 S3 hl3=>?_)
 case refine_2=>
  rw[hx,PR.bind]at hp3;rw[<-hl3];simp -dsimp only[aw,seval];exact db S3 hp3 rfl
 rw[hx,PR.bind,aR]at hp3;have g3:=g3 rfl;rw[<-hl3];simp -dsimp only[aw,seval,ao];refine eL H (m:=aZ 46 46) S3 g2 (fun hs3 ha4 σ4 S4 hl4=>?_) (fun hs3=>?_)
 case refine_2=>
  rw[hs3,if_neg (by decide)]at hp3;simp -dsimp only[aw,seval];exact dL S3 g2 hp3
 rw[hs3,if_pos rfl]at hp3;simp only at hp3;rw[<-hl4];simp -dsimp only[aw,seval];refine CZ H S4 ha4 (hW _ (by omega) ha4 _ (ah S4.at_ _)) (fun e2 a3 hx2 k1 k2 k3 σ5 S5 hl5=>⟨?_,?_⟩) (fun c r b hx2 σ5 S5 hl5=>?_) (fun⟨c,r,hx2⟩=>?_)
 .rw[<-hl5];simp -dsimp only[aw,seval]
 .rw[<-hl5];rw[hx2,PR.bind,aR]at hp3;have k3:=k3 rfl;have hL:=H.len;simp -dsimp only[aw,seval,ao];refine bh (by omega) ?_;simp -dsimp only[aw,seval];have hrows:args.map dex++[[ab e1.op,ab e1.num,aj e1.name,D.sl (e1.args.map dex)],[ab e2.op,ab e2.num,aj e2.name,D.sl (e2.args.map dex)]]=(args++[e1,e2]).map dex:=by rw[List.map_append,Sx,Sx,SA,bD,bD]
  rw[hrows];refine dv H (m:=aa 44) S5 k2 (fun h44 ha6 σ6 S6 hl6=>?_) (fun h44=>?_)
  .rw[h44,if_pos rfl]at hp3;simp only at hp3;rw[<-hl6];simp -dsimp only[aw,seval];refine⟨by omega,Nxt.to (σ6++[[.d (ab a0.op),.d (ab a0.num),.d (aj a0.name),.d (.sl (a0.args.map dex))],[.d (ab 0),.d (ab 0),.d (aj ⟨#[]⟩),.nil]]) [[.d (ab e1.op),.d (ab e1.num),.d (aj e1.name),.d (.sl (e1.args.map dex))]] (by simp) (by simp) (aq S6.bb rfl) ?_ ⟨a3+1,args++[e1,e2],σ6,_,?_,rfl,rfl,S6,?_,ha6,by omega,?_,hp3⟩⟩
   .have:=S6.lt;simp[au,V.under,S6.len];omega
   .rw[hl6,hl5,hl4,hl3,hl2]
   .omega
   .simp only[SL,SE,SF];omega
  .rw[h44,if_neg (by decide),aR]at hp3;simp -dsimp only[aw,seval];refine eL H (m:=aa 125) S5 k2 (fun hs6 ha6 σ6 S6 hl6=>?_) (fun hs6=>?_)
   .rw[hs6,if_pos rfl]at hp3;have hN:=ec 23 (args++[e1,e2]);rw[<-hl6];simp -dsimp only[aw,seval];refine ac (hN _) ?_;simp -dsimp only[aw,seval,ao,aI,bq,aU,aG,aH];exact dp S6 ha6 hp3 (by rw[ao];simp[Ih,aC,aO,aI,bq,aU,aG,aH,bD,aw,seval])
   .rw[hs6,if_neg (by decide)]at hp3;simp -dsimp only[aw,seval];exact dL S5 k2 hp3
 .rw[hx2,PR.bind]at hp3;intro ρ2;rw[<-hl5];simp -dsimp only[aw,seval];exact db S5 hp3 rfl
 .simp -dsimp only[aw,seval]
theorem x7{ts:List Tok}{a k:Nat}(h:eX ts a k=true):∃(o:Int) (ex:Bool) (m:ByteArray) (n:Int),jy ts a k=.tup [.agg [.d (aj m),.d (ab o),.d (ab n)],an ex,an true]/\dG k (ts.drop a)=some (o,ex,ts.drop (a+1)):=by
 unfold eX at h;unfold jy dG;rw[lY];cases hf:fL cD k ts a with
 | some b=>exact⟨_,_,_,_,rfl,rfl⟩
 | none=>
  rw[hf]at h;simp only[SP,Sv,Sq,decide_eq_true_eq,Bool.or_eq_true]at h;obtain⟨rfl,h⟩:=h;simp only[SQ,if_true,true_and,aR];cases h62:ax (aa 62) ts a with
  | true=>exact⟨_,_,_,_,rfl,by simp⟩
  | false=>
   rw[h62]at h;have h:=h.resolve_left (by decide);simp only[h,Ss,if_false,if_true];exact⟨_,_,_,_,rfl,rfl⟩
theorem xC{ts:List Tok}{a k:Nat}(h:eX ts a k=false):jy ts a k=.tup [zb,an false,an false]/\dG k (ts.drop a)=none:=by
 unfold eX at h;unfold jy dG;rw[lY];cases hf:fL cD k ts a with
 | some b=>rw[hf]at h;simp at h
 | none=>
  rw[hf]at h;simp only[SP,Sv,Bool.and_eq_false_iff,decide_eq_false_iff_not,Bool.or_eq_false_iff]at h;simp only[SQ,aR];rcases h with h|⟨h1,h2⟩
  .simp[h]
  .simp[h1,h2]
section
variable {σ0 σ : LLV} {i : Nat} {ts : List Tok} {a : Nat} (H : TsOK ts) {l : LLV} {K P : V -> LLV -> Prop} {s : Tag K} {t : Tag P}
include H
theorem A1{k:Nat}(h:eX ts a k=true):a+1≤ts.length:=by
 apply Classical.byContradiction;intro hn;have hs:∀m,ax m ts a=false:=fun m=>fk (by omega);unfold eX fL at h;simp only[hs,Bool.and_false,Bool.or_false]at h;have:cD.find? (fun _=>false)=none:=rfl;rw[this]at h;cases h
theorem DP{k:Nat}(hk:k≤100)(S:St σ0 i ts a σ)(ha:a≤ts.length)(ht:∀(o:Int) (ex:Bool) (m:ByteArray) (n:Int),dG k (ts.drop a)=some (o,ex,ts.drop (a+1))->a+1≤ts.length->∀σ',St σ0 i ts (a+1) σ'->σ'.length=σ.length->K (.tup [.agg [.d (aj m),.d (ab o),.d (ab n)],an ex,an true]) (σ'++l))(hf:dG k (ts.drop a)=none->K (.tup [zb,an false,an false]) (σ++l)):
 e8 G 322 [.ptr i 0,.d (ab k)] (σ++l) K P s t:=by
 refine aB (tY k hk ts a i H.size H.len ha (σ++l) (ah S.at_ l)) fun o σ' ⟨e1,e2⟩=>?_;subst e1;rw[aP];cases hs:eX ts a k with
 | true=>
  rw[hs,if_pos rfl,bc S.at_]at e2;subst e2;obtain⟨o,ex,m,n,h1,h2⟩:=x7 hs;rw[h1];exact ht o ex m n h2 (A1 H hs) _ (S.step _) (S.slen _)
 | false=>
  rw[hs,if_neg (by decide)]at e2;subst e2;obtain⟨h1,h2⟩:=xC hs;rw[h1];exact hf h2
end
theorem Dw(k:Nat)(hk:k≤13)(ts:List Tok)(a i:Nat)(H:TsOK ts)(ha:a≤ts.length)
 (hU:∀σ:LLV,σ[i]? = some (pb ts a)->Fun G 320 [.ptr i 0] σ (PQ ts i σ (par .U (ts.drop a))))
 (hL:k≤12->∀b,a≤b->b≤ts.length->∀σ:LLV,σ[i]? = some (pb ts b)->Fun G 310 [.ptr i 0,.d (ab ((k:Int)+1))] σ (PQ ts i σ (par (.L (k+1)) (ts.drop b))))
 (hN:∀b e,a<b->b≤ts.length->∀σ:LLV,σ[i]? = some (pb ts b)->Fun G 321 [.ptr i 0,vex e] σ (PQ ts i σ (par (.In e) (ts.drop b))))
 (σ:LLV)(hi:σ[i]? = some (pb ts a)):Fun G 310 [.ptr i 0,.d (ab k)] σ (PQ ts i σ (par (.L k) (ts.drop a))):=by
 refine ae Tryz.func310 QU rfl fun hb hw=>?_;have S:=St.init hi hb;have hpar:=ku (.L k) (ts.drop a);simp only[bo]at hpar;unfold Pm;by_cases hgt:12<k
 .have hd:decide (12<((k:Nat):Int))=true:=by rw[decide_eq_true_eq];omega
  rw[if_pos hgt]at hpar;simp -dsimp only[aw,seval,hd];refine iw H S ha (hU _ (ah S.at_ _)) (fun e1 a2 hx g1 g2 g3 σ3 S3 hl3=>?_) (fun c r b hx σ3 S3 hl3=>?_)
  .rw[hx]at hpar;rw[<-hl3];simp -dsimp only[aw,seval,ao];exact dp S3 g2 hpar (by rw[ao];simp[zr,aC,aO,aw,seval])
  .rw[hx]at hpar;rw[<-hl3];simp -dsimp only[aw,seval];exact db S3 hpar rfl
 have hd:decide (12<((k:Nat):Int))=false:=by rw[decide_eq_false_iff_not];omega
 have hwr:IntKind.i64.wrap (((k:Nat):Int)+1)=(k:Int)+1:=aA (by omega) (by omega);rw[if_neg hgt]at hpar;simp -dsimp only[aw,seval,hd,hwr];refine iw H S ha (hL (by omega) a (SO _) ha _ (ah S.at_ _)) (fun e1 a1 hx g1 g2 g3 σ1 S1 hl1=>?_) (fun c r b hx σ3 S3 hl3=>?_)
 case refine_2=>
  rw[hx,PR.bind]at hpar;rw[<-hl3];simp -dsimp only[aw,seval];exact db S3 hpar rfl
 rw[hx,PR.bind]at hpar;have g3:=g3 rfl;rw[<-hl1];simp -dsimp only[aw,seval,ao];refine aS [0,1,4,5] (R:=fun(j:Nat) ρ σ'=>∃(a1:Nat) (e:Ex) (σ2:LLV) (x:LLV),ρ=[(0,.ptr i 0),(1,.d (ab k)),(4,.ptr σ1.length 0),(5,.ptr (σ1.length+1) 0)]/\σ'=σ2++x/\x=[[.d (ab 0),.d (ab 0),.d (aj ⟨#[]⟩),.nil],[.d (ab e.op),.d (ab e.num),.d (aj e.name),.d (.sl (e.args.map dex))]]/\St σ i ts a1 σ2/\σ2.length=σ1.length/\a1≤ts.length/\a+1+j≤a1/\par (.L k) (ts.drop a)=par (.Lp k e) (ts.drop a1)) (ts.length-a) ⟨a1,e1,σ1,_,rfl,rfl,rfl,S1,rfl,g2,by omega,hpar⟩ ?_ _;rintro j ρ' σ' hj ⟨a2,e,σ2,x,rfl,rfl,hx2,S2,hl2,h1,h2,hp2⟩;have hp3:=ku (.Lp k e) (ts.drop a2);rw[<-hp2]at hp3;simp only[bo]at hp3;subst hx2;rw[<-hl2];have hL1:=H.len;have h1lt:=S2.lt;by_cases h9:k=9
 .have hd9:decide (((k:Nat):Int)=9)=true:=by rw[decide_eq_true_eq];omega
  rw[if_pos h9,aR]at hp3;simp -dsimp only[aw,seval,hd9];refine dv H (m:=cr) S2 h1 (fun hin ha3 σ3 S3 hl3=>?_) (fun hin=>?_)
  .rw[hin,if_pos rfl]at hp3;simp only at hp3;have hN':=fun l=>hN (a2+1) e (by omega) ha3 _ (ah S3.at_ l);rw[ao]at hN';rw[<-hl3];simp -dsimp only[aw,seval];refine iw H S3 ha3 (hN' _) (fun e4 a4 hx4 k1 k2 k3 σ4 S4 hl4=>?_) (fun c r b hx σ3 S3 hl3=>?_)
   .rw[hx4,PR.bind]at hp3;rw[<-hl4];simp -dsimp only[aw,seval,ao];refine⟨by omega,Nxt.to (σ4++[[.d (ab 0),.d (ab 0),.d (aj ⟨#[]⟩),.nil],[.d (ab e4.op),.d (ab e4.num),.d (aj e4.name),.d (.sl (e4.args.map dex))]]) [] (by simp) (by simp) (aq S4.bb rfl) ?_ ⟨a4,e4,σ4,_,?_,rfl,rfl,S4,by omega,k2,by omega,hp3⟩⟩
    .simp[au,V.under];omega
    .rw[hl4,hl3,hl2]
   .rw[hx,PR.bind]at hp3;rw[<-hl3];simp -dsimp only[aw,seval];exact db S3 hp3 rfl
  rw[hin,if_neg (by decide)]at hp3;simp only at hp3;simp -dsimp only[aw,seval];refine DP H (by omega) S2 h1 (fun o ex m n hop ha3 σ3 S3 hl3=>?_) (fun hop=>?_)
  case refine_2=>
   rw[hop]at hp3;simp -dsimp only[aw,seval,zb];exact dp S2 h1 hp3 (by rw[ao];simp[zr,aC,aO,aw,seval])
  rw[hop]at hp3;simp only at hp3;rw[<-hl3];simp -dsimp only[aw,seval,hwr];refine iw H S3 ha3 (hL (by omega) _ (by omega) ha3 _ (ah S3.at_ _)) (fun e4 a4 hx4 k1 k2 k3 σ4 S4 hl4=>?_) (fun c r b hx σ4 S4 hl4=>?_)
  case refine_2=>
   rw[hx,PR.bind]at hp3;rw[<-hl4];simp -dsimp only[aw,seval];exact db S4 hp3 rfl
  rw[hx4,PR.bind]at hp3;have hle:=S4.lt;rw[<-hl4];cases ex with
  | true=>
   have hNd:=ec o [e4,e];rw[if_pos rfl]at hp3;simp -dsimp only[aw,seval,ao];refine ac (by simpa only[Sx,SA,bD]using hNd _) ?_;simp -dsimp only[aw,seval,ao,aI,bq,aU,aG,aH];refine⟨by omega,Nxt.to (σ4++[[.d (ab 0),.d (ab 0),.d (aj ⟨#[]⟩),.nil],[.d (ab o),.d (ab 0),.d (aj ⟨#[]⟩),.d (.sl ([e4,e].map dex))]]) [[.d (aj m),.d (ab o),.d (ab n)],[.d (ab e.op),.d (ab e.num),.d (aj e.name),.d (.sl (e.args.map dex))]] (by simp[bD]) (by simp) (aq S4.bb rfl) ?_ ⟨a4,aI o [e4,e],σ4,_,?_,rfl,rfl,S4,by omega,k2,by omega,hp3⟩⟩
   .simp[au,V.under];omega
   .rw[hl4,hl3,hl2]
  | false=>
   have hNd:=ec o [e,e4];rw[if_neg (by decide)]at hp3;simp -dsimp only[aw,seval,ao];refine ac (by simpa only[Sx,SA,bD]using hNd _) ?_;simp -dsimp only[aw,seval,ao,aI,bq,aU,aG,aH];refine⟨by omega,Nxt.to (σ4++[[.d (ab 0),.d (ab 0),.d (aj ⟨#[]⟩),.nil],[.d (ab o),.d (ab 0),.d (aj ⟨#[]⟩),.d (.sl ([e,e4].map dex))]]) [[.d (aj m),.d (ab o),.d (ab n)],[.d (ab e4.op),.d (ab e4.num),.d (aj e4.name),.d (.sl (e4.args.map dex))]] (by simp[bD]) (by simp) (aq S4.bb rfl) ?_ ⟨a4,aI o [e,e4],σ4,_,?_,rfl,rfl,S4,by omega,k2,by omega,hp3⟩⟩
   .simp[au,V.under];omega
   .rw[hl4,hl3,hl2]
 .have hd9:decide (((k:Nat):Int)=9)=false:=by rw[decide_eq_false_iff_not];omega
  rw[if_neg h9]at hp3;simp only at hp3;simp -dsimp only[aw,seval,hd9];refine DP H (by omega) S2 h1 (fun o ex m n hop ha3 σ3 S3 hl3=>?_) (fun hop=>?_)
  case refine_2=>
   rw[hop]at hp3;simp -dsimp only[aw,seval,zb];exact dp S2 h1 hp3 (by rw[ao];simp[zr,aC,aO,aw,seval])
  rw[hop]at hp3;simp only at hp3;rw[<-hl3];simp -dsimp only[aw,seval,hwr];refine iw H S3 ha3 (hL (by omega) _ (by omega) ha3 _ (ah S3.at_ _)) (fun e4 a4 hx4 k1 k2 k3 σ4 S4 hl4=>?_) (fun c r b hx σ4 S4 hl4=>?_)
  case refine_2=>
   rw[hx,PR.bind]at hp3;rw[<-hl4];simp -dsimp only[aw,seval];exact db S4 hp3 rfl
  rw[hx4,PR.bind]at hp3;have hle:=S4.lt;rw[<-hl4];cases ex with
  | true=>
   have hNd:=ec o [e4,e];rw[if_pos rfl]at hp3;simp -dsimp only[aw,seval,ao];refine ac (by simpa only[Sx,SA,bD]using hNd _) ?_;simp -dsimp only[aw,seval,ao,aI,bq,aU,aG,aH];refine⟨by omega,Nxt.to (σ4++[[.d (ab 0),.d (ab 0),.d (aj ⟨#[]⟩),.nil],[.d (ab o),.d (ab 0),.d (aj ⟨#[]⟩),.d (.sl ([e4,e].map dex))]]) [[.d (aj m),.d (ab o),.d (ab n)],[.d (ab e.op),.d (ab e.num),.d (aj e.name),.d (.sl (e.args.map dex))]] (by simp[bD]) (by simp) (aq S4.bb rfl) ?_ ⟨a4,aI o [e4,e],σ4,_,?_,rfl,rfl,S4,by omega,k2,by omega,hp3⟩⟩
   .simp[au,V.under];omega
   .rw[hl4,hl3,hl2]
  | false=>
   have hNd:=ec o [e,e4];rw[if_neg (by decide)]at hp3;simp -dsimp only[aw,seval,ao];refine ac (by simpa only[Sx,SA,bD]using hNd _) ?_;simp -dsimp only[aw,seval,ao,aI,bq,aU,aG,aH];refine⟨by omega,Nxt.to (σ4++[[.d (ab 0),.d (ab 0),.d (aj ⟨#[]⟩),.nil],[.d (ab o),.d (ab 0),.d (aj ⟨#[]⟩),.d (.sl ([e,e4].map dex))]]) [[.d (aj m),.d (ab o),.d (ab n)],[.d (ab e4.op),.d (ab e4.num),.d (aj e4.name),.d (.sl (e4.args.map dex))]] (by simp[bD]) (by simp) (aq S4.bb rfl) ?_ ⟨a4,aI o [e,e4],σ4,_,?_,rfl,rfl,S4,by omega,k2,by omega,hp3⟩⟩
   .simp[au,V.under];omega
   .rw[hl4,hl3,hl2]
end Go.Proofs.YtnhphlmblenapaaGreatDoor
namespace Go.Proofs.YtnhphlmblenapaaGreatDoor
open Go.RowKit
theorem Fp(ts:List Tok)(a i:Nat)(H:TsOK ts)(ha:a≤ts.length)
 (hL:∀σ:LLV,σ[i]? = some (pb ts a)->Fun G 310 [.ptr i 0,.d (ab 3)] σ (PQ ts i σ (par (.L 3) (ts.drop a))))
 (hI:∀b,a<b->b≤ts.length->∀σ:LLV,σ[i]? = some (pb ts b)->Fun G 284 [.ptr i 0] σ (PQ ts i σ (par .I (ts.drop b))))
 (σ:LLV)(hi:σ[i]? = some (pb ts a)):Fun G 284 [.ptr i 0] σ (PQ ts i σ (par .I (ts.drop a))):=by
 refine ae Tryz.func284 Sk rfl fun hb hw=>?_;have S:=St.init hi hb;have hpar:=ku .I (ts.drop a);simp only[bo]at hpar;unfold Lr;simp -dsimp only[aw,seval];refine iw H S ha (hL _ (ah hi _)) (fun e a1 hx g1 g2 g3 σ1 S1 hl1=>?_) (fun c r b hx σ1 S1 hl1=>?_)
 case refine_2=>
  rw[hx,PR.bind]at hpar;rw[<-hl1];simp -dsimp only[aw,seval];exact db S1 hpar rfl
 rw[hx,PR.bind,aR]at hpar;have g3:=g3 rfl;rw[<-hl1];simp -dsimp only[aw,seval,ao];refine dv H (m:=aZ 61 62) S1 g2 (fun hs ha2 σ2 S2 hl2=>?_) (fun hs=>?_)
 case refine_2=>
  rw[hs,if_neg (by decide)]at hpar;simp -dsimp only[aw,seval];exact dp S1 g2 hpar (by rw[ao];simp[ED,aC,aO,aw,seval])
 rw[hs,if_pos rfl]at hpar;simp only at hpar;rw[<-hl2];simp -dsimp only[aw,seval];refine CZ H S2 ha2 (hI _ (by omega) ha2 _ (ah S2.at_ _)) (fun e2 a3 hx2 k1 k2 k3 σ3 S3 hl3=>⟨?_,?_⟩) (fun c r b hx2 σ3 S3 hl3=>?_) (fun⟨c,r,hx2⟩=>?_)
 .rw[<-hl3];simp -dsimp only[aw,seval]
 .rw[hx2,PR.bind]at hpar;have hN:=ec 21 [e,e2];rw[<-hl3];simp -dsimp only[aw,seval,ao];refine bA (by simpa only[Sx,SA,bD]using hN _) ?_;simp -dsimp only[aw,seval,ao,aI,bq,aU,aG,aH];exact dp S3 k2 hpar (by rw[ao];simp[ED,aC,aO,aI,bq,aU,aG,aH,bD,aw,seval])
 .rw[hx2,PR.bind]at hpar;intro ρ2;rw[<-hl3];simp -dsimp only[aw,seval];exact db S3 hpar rfl
 .simp -dsimp only[aw,seval]
theorem Ce(ts:List Tok)(a i:Nat)(H:TsOK ts)(ha:a≤ts.length)
 (hI:∀σ:LLV,σ[i]? = some (pb ts a)->Fun G 284 [.ptr i 0] σ (PQ ts i σ (par .I (ts.drop a))))
 (hW:∀b,a<b->b≤ts.length->∀σ:LLV,σ[i]? = some (pb ts b)->Fun G 255 [.ptr i 0] σ (PQ ts i σ (par .W (ts.drop b))))
 (σ:LLV)(hi:σ[i]? = some (pb ts a)):Fun G 255 [.ptr i 0] σ (PQ ts i σ (par .W (ts.drop a))):=by
 refine ae Tryz.func255 PL rfl fun hb hw=>?_;have S:=St.init hi hb;have hpar:=ku .W (ts.drop a);simp only[bo]at hpar;unfold MH;simp -dsimp only[aw,seval];refine iw H S ha (hI _ (ah hi _)) (fun e a1 hx g1 g2 g3 σ1 S1 hl1=>?_) (fun c r b hx σ1 S1 hl1=>?_)
 case refine_2=>
  rw[hx,PR.bind]at hpar;rw[<-hl1];simp -dsimp only[aw,seval];exact db S1 hpar rfl
 rw[hx,PR.bind,aR]at hpar;have g3:=g3 rfl;rw[<-hl1];simp -dsimp only[aw,seval,ao];refine dv H (m:=aa 63) S1 g2 (fun hs ha2 σ2 S2 hl2=>?_) (fun hs=>?_)
 case refine_2=>
  rw[hs,if_neg (by decide)]at hpar;simp -dsimp only[aw,seval];exact dp S1 g2 hpar (by rw[ao];simp[FX,aC,aO,aw,seval])
 rw[hs,if_pos rfl]at hpar;simp only at hpar;rw[<-hl2];simp -dsimp only[aw,seval];refine iw H S2 ha2 (hW _ (by omega) ha2 _ (ah S2.at_ _)) (fun e2 a3 hx2 k1 k2 k3 σ3 S3 hl3=>?_) (fun c r b hx2 σ3 S3 hl3=>?_)
 case refine_2=>
  rw[hx2,PR.bind]at hpar;rw[<-hl3];simp -dsimp only[aw,seval];exact db S3 hpar rfl
 rw[hx2,PR.bind,aR]at hpar;have k3:=k3 rfl;rw[<-hl3];simp -dsimp only[aw,seval,ao];refine eL H (m:=aa 58) S3 k2 (fun hs4 ha4 σ4 S4 hl4=>?_) (fun hs4=>?_)
 case refine_2=>
  rw[hs4,if_neg (by decide)]at hpar;simp -dsimp only[aw,seval];exact dL S3 k2 hpar
 rw[hs4,if_pos rfl]at hpar;simp only at hpar;rw[<-hl4];simp -dsimp only[aw,seval];refine CZ H S4 ha4 (hW _ (by omega) ha4 _ (ah S4.at_ _)) (fun e3 a5 hx5 m1 m2 m3 σ5 S5 hl5=>⟨?_,?_⟩) (fun c r b hx5 σ5 S5 hl5=>?_) (fun⟨c,r,hx5⟩=>?_)
 .rw[<-hl5];simp -dsimp only[aw,seval]
 .rw[hx5,PR.bind]at hpar;have hN:=ec 22 [e,e2,e3];rw[<-hl5];simp -dsimp only[aw,seval,ao];refine bA (by simpa only[Sx,SA,bD]using hN _) ?_;simp -dsimp only[aw,seval,ao,aI,bq,aU,aG,aH];exact dp S5 m2 hpar (by rw[ao];simp[FX,aC,aO,aI,bq,aU,aG,aH,bD,aw,seval])
 .rw[hx5,PR.bind]at hpar;intro ρ2;rw[<-hl5];simp -dsimp only[aw,seval];exact db S5 hpar rfl
 .simp -dsimp only[aw,seval]
theorem Jy(ts:List Tok)(i:Nat)(H:TsOK ts):∀n a,a≤ts.length->
 (40*(ts.length-a)+15≤n->∀σ:LLV,σ[i]? = some (pb ts a)->Fun G 255 [.ptr i 0] σ (PQ ts i σ (par .W (ts.drop a))))/\
 (40*(ts.length-a)+14≤n->∀σ:LLV,σ[i]? = some (pb ts a)->Fun G 284 [.ptr i 0] σ (PQ ts i σ (par .I (ts.drop a))))/\
 (∀k,k≤13->40*(ts.length-a)+(16-k)≤n->∀σ:LLV,σ[i]? = some (pb ts a)->Fun G 310 [.ptr i 0,.d (ab ((k:Nat):Int))] σ (PQ ts i σ (par (.L k) (ts.drop a))))/\
 (∀e,40*(ts.length-a)≤n->∀σ:LLV,σ[i]? = some (pb ts a)->Fun G 321 [.ptr i 0,vex e] σ (PQ ts i σ (par (.In e) (ts.drop a))))/\
 (40*(ts.length-a)+2≤n->∀σ:LLV,σ[i]? = some (pb ts a)->Fun G 320 [.ptr i 0] σ (PQ ts i σ (par .U (ts.drop a))))/\
 (40*(ts.length-a)+1≤n->∀σ:LLV,σ[i]? = some (pb ts a)->Fun G 326 [.ptr i 0] σ (PQ ts i σ (par .P (ts.drop a)))):=by
 intro n
 induction n using Nat.strongRecOn with
 | _ n ih=>
 intro a ha;have W:∀b,a<b->b≤ts.length->40*(ts.length-a)≤n->∀σ:LLV,σ[i]? = some (pb ts b)->Fun G 255 [.ptr i 0] σ (PQ ts i σ (par .W (ts.drop b))):=fun b hb hb2 hn=>(ih (n-1) (by omega) b hb2).1 (by omega);refine⟨fun hn=>?_,fun hn=>?_,fun k hk hn=>?_,fun e hn=>?_,fun hn=>?_,fun hn=>?_⟩
 .exact Ce ts a i H ha ((ih (n-1) (by omega) a ha).2.1 (by omega)) fun b hb hb2=>W b hb hb2 (by omega)
 .refine Fp ts a i H ha (fun σ hi=>?_) fun b hb hb2=>(ih (n-1) (by omega) b hb2).2.1 (by omega);exact(ih (n-1) (by omega) a ha).2.2.1 3 (by omega) (by omega) σ hi
 .refine Dw k hk ts a i H ha (fun σ hi=>?_) (fun hk2 b hb hb2 σ hi=>?_) fun b e hb hb2=>(ih (n-1) (by omega) b hb2).2.2.2.1 e (by omega)
  .exact(ih (n-1) (by omega) a ha).2.2.2.2.1 (by omega) σ hi
  .exact(ih (n-1) (by omega) b hb2).2.2.1 (k+1) (by omega) (by omega) σ hi
 .exact xJ ts a i H ha e fun b hb hb2=>W b hb hb2 hn
 .exact BN ts a i H.size H.len ha ((ih (n-1) (by omega) a ha).2.2.2.2.2 (by omega)) fun b hb hb2=>(ih (n-1) (by omega) b hb2).2.2.2.2.1 (by omega)
 .exact uX ts a i H ha fun b hb hb2=>W b hb hb2 (by omega)
theorem Bq(ts:List Tok)(i:Nat)(H:TsOK ts)(a:Nat)(ha:a≤ts.length)(σ:LLV)(hi:σ[i]? = some (pb ts a)):Fun G 255 [.ptr i 0] σ (PQ ts i σ (par .W (ts.drop a))):=
 (Jy ts i H _ a ha).1 (SO _) σ hi
def Fu(ts:List Tok)(x:PR):V:=match x with
 | .ok e r=>.tup [vex e,.d (ab ((ts.length-r.length:Nat):Int)),.d (ab 0)]
 | .bad c r=>.tup [vex (.mk 0 0 ⟨#[]⟩ []),.d (ab ((ts.length-r.length:Nat):Int)),.d (ab c)]
 | .out=>.junk
theorem uf(σ:LLV)(i j k:Nat):eW G 254 [.ptr i 0,.ptr j 0,.ptr k 0] σ none (fun σ'=>σ'=σ):=by
 refine eD Tryz.func254 NN rfl (fun v h=>by cases h) fun hb=>?_;unfold J5;simp -dsimp only[aw,seval,rW,si,Option.getD_none];exact⟨σ.length,SO _,by rw[SC];exact hb,SC⟩
theorem Ir(τ:LLV)(a b c d e:List V):(τ++[a,b,c,d,e]).take (τ.length+4)=τ++[a,b,c,d]:=by
 rw[List.take_append,SB (by omega),Nat.add_sub_cancel_left];rfl
theorem th(τ:LLV)(c:Int)(n:Nat)(l:List V):eW G 254 [.ptr τ.length 0,.ptr (τ.length+1) 0,.ptr (τ.length+2) 0] (τ++[[.d (ab 0),.d (ab 0),.d (aj ⟨#[]⟩),.nil],[.d (ab 0)],[.d (ab 0)],l]) (some (d8 c n))
 (fun σ'=>σ'=τ++[[.d (ab 0),.d (ab 0),.d (aj ⟨#[]⟩),.nil],[.d (ab n)],[.d (ab c)],l]):=by
 refine eD Tryz.func254 NN rfl (fun v h=>by cases h;rfl) fun hb=>?_;unfold J5 d8;simp -dsimp only[aw,seval,rW,si,Option.getD_some];refine⟨τ.length+4,by simp,?_,?_⟩
 .rw[Ir];simp only[SL,SE,SF,Nat.reduceAdd]at hb;unfold ak at hb ⊢;rw[List.all_append,Sq]at hb ⊢;refine⟨hb.1,?_⟩;have:=hb.2;simp only[List.all_cons,List.all_nil,Bool.and_true,Sq]at this ⊢;exact⟨rfl,rfl,rfl,this.2.2.2⟩
 .rw[Ir]
theorem wP(ts:List Tok)(H:TsOK ts)(a:Nat)(ha:a≤ts.length)(σ:LLV):Fun G 221 [.d (.sl (ts.map dA)),.d (ab a)] σ (aN (Fu ts (par .W (ts.drop a))) σ):=by
 refine mg Tryz.func221 Rs rfl fun hb hw=>?_;unfold MM;have hP:=Bq ts (σ.length+3) H a ha;simp -dsimp only[aw,seval,i7,Dn];refine aB (hP _ (by rw[qt];rfl)) fun o σ' hq=>?_;cases hx:par .W (ts.drop a)with
 | out=>exact absurd hx (fA _ _)
 | bad c r=>
  rw[hx]at hq;obtain⟨rfl,b,rfl⟩:=hq;rw[kx];simp -dsimp only[aw,seval,bg];refine(th σ c (ts.length-r.length) _).mono fun σ' h=>?_;subst h;exact⟨_,by simp[EZ,aC,bY,aO,aw,seval];rfl,σ.length,SO _,by rw[SC];exact hb,rfl,by rw[SC];exact⟨by simp[Fu,ao,bq,aU,aG,aH],rfl⟩⟩
 | ok e r=>
  rw[hx]at hq;obtain⟨rfl,rfl⟩:=hq;rw[kx];simp -dsimp only[aw,seval,aP,ao,pb];refine(uf _ _ _ _).mono fun σ' h=>?_;subst h;exact⟨.tup [vex e,.d (ab ((ts.length-r.length:Nat):Int)),.d (ab 0)],by rw[ao];simp[EZ,aC,bY,aO,aw,seval],σ.length,SO _,by rw[SC];exact hb,by rw[ao];rfl,by rw[SC];exact⟨rfl,rfl⟩⟩
def dN(e n:Int):V:=.iface 101 (.agg [.d (ab e),.d (ab n)])
structure TsV(ts:List Tok):Prop where
 ok:TsOK ts
 v:∀t,t∈ts->bO t=true
def zLs(ts:List Tok):Int:=match ts.getLast? with
 | some t=>t.line
 | none=>0
def lnA(ts:List Tok)(a:Nat):Int:=lnR (zLs ts) (ts.drop a)
theorem Iv{ts:List Tok}(h:ts.length-1<ts.length):zLs ts=ts[ts.length-1].line:=by
 unfold zLs;rw[List.getLast?_eq_getElem?,Sw h]
theorem vP{α:Type}{ts:List Tok}{a:Nat}:(iR (zLs ts) (ts.drop a):CP α)=.bad (bV ts a) (lnA ts a):=by
 unfold bV lnA;by_cases h:a<ts.length
 .rw[if_pos h,SI h];rfl
 .rw[if_neg h,SJ (by omega)];rfl
theorem iU(ts:List Tok)(a i:Nat)(σ:LLV)(hi:σ[i]? = some (pb ts a)):Fun G 35 [.ptr i 0] σ (aN (an (decide (a<ts.length))) σ):=by
 refine ae Tryz.func35 k35 rfl fun hb hw=>?_;unfold c35;unfold pb at hi;simp -dsimp only[aw,seval,hi,Int.ofNat_lt];first|exact al hb rfl rfl|exact am hb rfl rfl
theorem nN(ts:List Tok)(a b i:Nat)(e:Int)(H:TsV ts)(hb9:b≤ts.length)(σ:LLV)(hi:σ[i]? = some (pb ts a)):
 Fun G 87 [.ptr i 0,.d (ab e),.d (ab b)] σ fun o σ'=>o=.panic (dN e (lnA ts b))/\σ'=σ:=by
 refine ae Tryz.func87 k87 rfl fun hb hw=>?_;unfold c87;have hl:=H.ok.len;unfold pb at hi;have done:∀(ρ:ai) rs,fin σ.length rs (fun o σ'=>o=.panic (dN e (lnA ts b))/\σ'=σ) (.panic (dN e (lnA ts b))) ρ σ:=fun ρ rs=>⟨σ.length,SO _,by rw[Sy];exact hb,rfl,rfl,Sy⟩
 by_cases h0:ts.length=0
 .have:ts=[]:=SD h0;subst this;have dz:decide ((0:Int)<((0:Nat):Int))=false:=rfl;have hln:lnA [] b=0:=by unfold lnA;rw[List.drop_nil];rfl
  rw[hln]at done ⊢;simp only[SA]at hi;simp -dsimp only[aw,seval,hi,dz,SF];exact done _ _
 .have d0:decide ((0:Int)<((ts.length:Nat):Int))=true:=by rw[decide_eq_true_eq];omega
  have hw1:IntKind.i64.wrap (((ts.length:Nat):Int)-1)=((ts.length-1:Nat):Int):=by rw[aA (by omega) (by omega)];omega
  have hmin:min ((b:Nat):Int) ((ts.length-1:Nat):Int)=((min b (ts.length-1):Nat):Int):=by omega
  have hlt:min b (ts.length-1)<ts.length:=by omega
  have hln:lnA ts b=ts[min b (ts.length-1)].line:=by
   unfold lnA;by_cases h:b<ts.length
   .have e:min b (ts.length-1)=b:=by omega
    rw[SI h];simp only[e];rfl
   .have e:min b (ts.length-1)=ts.length-1:=by omega
    rw[SJ (by omega)];simp only[e];exact Iv (by omega)
  rw[hln]at done ⊢;simp -dsimp only[aw,seval,hi,d0,hw1,hmin,Sw hlt,bM,dA];exact done _ _
theorem jj(ts:List Tok)(a i:Nat)(H:TsV ts)(ha:a≤ts.length)(σ:LLV)(hi:σ[i]? = some (pb ts a)):
 Fun G 36 [.ptr i 0] σ fun o σ'=>o=.panic (dN (bV ts a) (lnA ts a))/\σ'=σ:=by
 refine ae Tryz.func36 k36 rfl fun hb hw=>?_;unfold c36;have hM:=iU ts a i σ hi;have hF:=fun e=>nN ts a a i e H ha σ hi;unfold pb at hi;have done:∀(ρ:ai) rs,fin σ.length rs (fun o σ'=>o=.panic (dN (bV ts a) (lnA ts a))/\σ'=σ) (.panic (dN (bV ts a) (lnA ts a))) ρ σ:=fun ρ rs=>⟨σ.length,SO _,by rw[Sy];exact hb,rfl,rfl,Sy⟩
 simp -dsimp only[aw,seval];refine ac hM ?_;by_cases hlt:a<ts.length
 .have hE:bV ts a=5:=by unfold bV;rw[if_pos hlt]
  rw[hE]at done ⊢;simp -dsimp only[aw,seval,decide_eq_true hlt,hi];refine aB (hF 5) fun o σ' ⟨e1,e2⟩=>?_;subst e1;subst e2;simp -dsimp only[aw,seval,bg];exact done _ _
 .have hE:bV ts a=6:=by unfold bV;rw[if_neg hlt]
  rw[hE]at done ⊢;simp -dsimp only[aw,seval,decide_eq_false hlt,hi];refine aB (hF 6) fun o σ' ⟨e1,e2⟩=>?_;subst e1;subst e2;simp -dsimp only[aw,seval,bg];exact done _ _
def nxB(k:Int)(m:ByteArray)(ts:List Tok)(a:Nat):Bool:=match ts[a]? with
 | some t=>decide (t.kind=k)&&decide (t.text=m)
 | none=>false
theorem z7(k:Int)(m:ByteArray)(ts:List Tok)(a i:Nat)(H:TsV ts)(σ:LLV)(hi:σ[i]? = some (pb ts a)):
 Fun G 175 [.ptr i 0,.d (ab k),.d (aj m)] σ (aN (an (nxB k m ts a)) σ):=by
 refine ae Tryz.func175 PY rfl fun hb hw=>?_;unfold c175;have hM:=fun l=>iU ts a i (σ++l) (ah hi l);have hM0:=iU ts a i σ hi;unfold pb at hi;simp -dsimp only[aw,seval];refine bA hM0 ?_;by_cases hlt:a<ts.length
 .unfold nxB;rw[Sw hlt];simp only;by_cases h1:ts[a].kind=k
  .simp -dsimp only[aw,seval,hi,decide_eq_true hlt,Sw hlt,bM,dA,decide_eq_true h1];first|exact al hb rfl rfl|exact am hb rfl rfl
  .simp -dsimp only[aw,seval,hi,decide_eq_true hlt,Sw hlt,bM,dA,decide_eq_false h1];first|exact al hb rfl rfl|exact am hb rfl rfl
 .unfold nxB;rw[SK (by omega)];simp -dsimp only[aw,seval,hi,decide_eq_false hlt];first|exact al hb rfl rfl|exact am hb rfl rfl
theorem sK(k:Int)(m:ByteArray)(ts:List Tok)(a i:Nat)(H:TsV ts)(ha:a≤ts.length)(σ:LLV)(hi:σ[i]? = some (pb ts a)):
 Fun G 117 [.ptr i 0,.d (ab k),.d (aj m)] σ fun o σ'=>o=.ret (an (nxB k m ts a))/\σ'=if nxB k m ts a=true then σ.set i (pb ts (a+1))else σ:=by
 refine ae Tryz.func117 P5 rfl fun hb hw=>?_;unfold Om;have hS:=z7 k m ts a i H σ hi;have hl:=H.ok.len;simp -dsimp only[aw,seval];refine ac hS ?_;cases hs:nxB k m ts a with
 | false=>
  simp -dsimp only[aw,seval,Ss,if_false];exact az hb rfl rfl Sy ⟨rfl,rfl⟩
 | true=>
  unfold pb at hi;simp -dsimp only[aw,seval,hi,aA (show -9223372036854775808≤((a:Nat):Int)+1 by omega) (show((a:Nat):Int)+1≤9223372036854775807 by omega),if_true];exact bp (τ:=σ.set i (pb ts (a+1))) (bt hb rfl) rfl rfl (by rw[SB (by rw[SG];exact SO _)];rfl) ⟨rfl,rfl⟩
theorem Ek{k:Int}{m:ByteArray}{ts:List Tok}{a:Nat}(H:TsV ts)(hm:k=4/\bO (tw m)=false\/k=2/\bO (tm m)=false):nxB k m ts a=ax m ts a:=by
 unfold nxB;by_cases hlt:a<ts.length
 .rw[Sw hlt,nx hlt,H.v _ (SN hlt),Su];have hv:=H.v _ (SN hlt);generalize ts[a]=t at *;simp only;by_cases ht:t.text=m
  .subst ht
   have h2:t.kind=2->bO (tw t.text)=true:=fun h=>by
    have e:bO (tw t.text)=(decide ((0:Int)=0)&&inB t.text ch):=rfl;unfold bO at hv;rw[if_neg (by omega),if_neg (by omega),if_pos h]at hv;rw[e];exact Bool.and_eq_true_iff.2 ⟨rfl,(Bool.and_eq_true_iff.1 hv).2⟩
   have h4:t.kind=4->bO (tm t.text)=true:=fun h=>by
    have e:bO (tm t.text)=(decide ((0:Int)=0)&&aM.contains t.text.data.toList):=rfl;unfold bO at hv;rw[if_neg (by omega),if_neg (by omega),if_neg (by omega),if_pos h]at hv;rw[e];exact Bool.and_eq_true_iff.2 ⟨rfl,(Bool.and_eq_true_iff.1 hv).2⟩
   rcases hm with⟨rfl,hm⟩|⟨rfl,hm⟩
   .have:t.kind≠2:=fun h=>by rw[h2 h]at hm;cases hm
    simp[this]
   .have:t.kind≠4:=fun h=>by rw[h4 h]at hm;cases hm
    simp[this]
  .simp[ht]
 .rw[SK (by omega),fk hlt]
theorem CC(m:ByteArray)(ts:List Tok)(a i:Nat)(H:TsV ts)(ha:a≤ts.length)(hm:bO (tw m)=false)(σ:LLV)(hi:σ[i]? = some (pb ts a)):
 Fun G 121 [.ptr i 0,.d (aj m)] σ fun o σ'=>o=.ret (an (ax m ts a))/\σ'=if ax m ts a=true then σ.set i (pb ts (a+1))else σ:=by
 refine ae Tryz.func121 RJ rfl fun hb hw=>?_;unfold MA;have hS:=sK 4 m ts a i H ha σ hi;rw[Ek H (.inl ⟨rfl,hm⟩)]at hS;simp -dsimp only[aw,seval];refine aB hS fun o σ' ⟨e1,e2⟩=>?_;subst e1;rw[aP];simp -dsimp only[aw,seval];cases hs:ax m ts a with
 | false=>
  rw[hs,if_neg (by decide)]at e2;subst e2;exact az hb rfl rfl Sy ⟨rfl,by rw[if_neg (by decide)]⟩
 | true=>
  rw[hs,if_pos rfl]at e2;subst e2;exact bp (τ:=σ.set i (pb ts (a+1))) (bt hb rfl) rfl rfl (by rw[SB (by rw[SG];exact SO _)]) ⟨rfl,by rw[if_pos rfl]⟩
theorem Cs(m:ByteArray)(ts:List Tok)(a i:Nat)(H:TsV ts)(ha:a≤ts.length)(hm:bO (tm m)=false)(σ:LLV)(hi:σ[i]? = some (pb ts a)):
 Fun G 60 [.ptr i 0,.d (aj m)] σ fun o σ'=>o=.ret (an (ax m ts a))/\σ'=if ax m ts a=true then σ.set i (pb ts (a+1))else σ:=by
 refine ae Tryz.func60 k60 rfl fun hb hw=>?_;unfold c60;have hS:=sK 2 m ts a i H ha σ hi;rw[Ek H (.inr ⟨rfl,hm⟩)]at hS;simp -dsimp only[aw,seval];refine aB hS fun o σ' ⟨e1,e2⟩=>?_;subst e1;rw[aP];simp -dsimp only[aw,seval];cases hs:ax m ts a with
 | false=>
  rw[hs,if_neg (by decide)]at e2;subst e2;exact az hb rfl rfl Sy ⟨rfl,by rw[if_neg (by decide)]⟩
 | true=>
  rw[hs,if_pos rfl]at e2;subst e2;exact bp (τ:=σ.set i (pb ts (a+1))) (bt hb rfl) rfl rfl (by rw[SB (by rw[SG];exact SO _)]) ⟨rfl,by rw[if_pos rfl]⟩
theorem CA(l:Bs)(d:UInt8):ci (l++[d])=10*ci l+(d.toNat-48):=by
 unfold ci;rw[List.foldl_append];rfl
theorem zG:∀(l:Bs) (n:Nat),n≤l.foldl (fun n c=>10*n+(c.toNat-48)) n
 | [],n=>SO _
 | c::l,n=>Nat.le_trans (by omega) (zG l (10*n+(c.toNat-48)))
theorem EG:∀(k:Nat) (l:Bs),l.length=k+1->(∀x,x∈l->dD x.toNat=true)->(1<l.length->l.head? ≠ some 48)->Lib.decDigits (ci l)=l:=by
 intro k
 induction k with
 | zero=>
  intro l hl hd _
  match l,hl with
  | [d],_=>
   have:=hd d (by simp);simp only[dD,Sq,decide_eq_true_eq]at this;have e:ci [d]=d.toNat-48:=by simp[ci]
   rw[e,Lib.decDigits,dif_pos (by omega)];congr 1;rw[<-SR,vn _ (by omega)];omega
 | succ k ih=>
  intro l hl hd hz
  obtain⟨x,d,rfl⟩:∃x d,l=x++[d]:=by
   rcases List.eq_nil_or_concat l with h|⟨x,d,h⟩
   .rw[h]at hl;simp at hl
   .exact⟨x,d,by rw[h];simp⟩
  have hxl:x.length=k+1:=by simpa using hl
  have hdd:=hd d (by simp);simp only[dD,Sq,decide_eq_true_eq]at hdd
  have hx:=ih x hxl (fun y hy=>hd y (by simp[hy])) (fun h1 h2=>hz (by simp;omega) (by
   cases x with
   | nil=>simp at hxl
   | cons a x=>simpa using h2))
  have hpos:1≤ci x:=by
   match x,hxl with
   | a::r,_=>
    have ha:=hd a (by simp);simp only[dD,Sq,decide_eq_true_eq]at ha;have hne:a≠48:=fun e=>hz (by simp) (by simp[e])
    have h49:49≤a.toNat:=by
     apply Classical.byContradiction;intro hh;exact hne (by rw[<-SR];show a.toNat=48;omega)
    have:=zG r (10*0+(a.toNat-48));show 1≤(a::r).foldl _ 0;rw[List.foldl_cons];omega
  rw[CA,Lib.decDigits,dif_neg (by omega)];have e1:(10*ci x+(d.toNat-48))/10=ci x:=by omega
  have e2:(10*ci x+(d.toNat-48))%10=d.toNat-48:=by omega
  rw[e1,e2,hx];congr 2;rw[<-SR,vn _ (by omega)];omega
theorem u6:∀(k u:Nat),u<10^(k+1)->(Lib.decDigits u).length≤k+1
 | 0,u,h=>by rw[Lib.decDigits,dif_pos (by omega)];simp
 | k+1,u,h=>by
  rw[Lib.decDigits];split
  .simp
  .have:=u6 k (u/10) (by rw[Nat.pow_succ]at h;omega);simp;omega
theorem BV{c:UInt8}{r:Bs}{kd n:Int}{len:Nat}(N:Int)(h:cZ (c::r)=.tok kd n len):bO (g8 N (c::r) kd n len)=true/\len≤16:=by
 have htake:∀(p:UInt8->Bool),(c::r).take ((c::r).takeWhile p).length=(c::r).takeWhile p:=fun p=>(List.prefix_iff_eq_take.1 (List.takeWhile_prefix p)).symm;simp only[cZ]at h;split at h
 .rename_i hl;split at h
  .cases h
  .rename_i h16;cases h;refine⟨?_,by omega⟩;unfold g8;rw[htake]
   have hall:∀x,x∈(c::r).takeWhile inn->inn x=true:=fun x hx=>by
    have:=List.all_takeWhile (p:=inn) (l:=c::r);exact List.all_eq_true.1 this x hx
   have hinc:inn c=true:=by unfold inn dR;simp[hl]
   have hne:(c::r).takeWhile inn=c::r.takeWhile inn:=SH hinc
   have hw:ff (⟨((c::r).takeWhile inn).toArray⟩:ByteArray)=true:=by
    unfold ff;show kH ((c::r).takeWhile inn)=true;rw[hne]at hall ⊢;simp only[kH,hl,Su];rw[List.all_eq_true];exact hall
   by_cases hk:inB ⟨((c::r).takeWhile inn).toArray⟩ ch=true
   .rw[if_pos hk];unfold bO;simp[hk]
   .have hsz:(⟨((c::r).takeWhile inn).toArray⟩:ByteArray).size≤16:=by rw[Lib.size_eq];simpa using h16
    rw[if_neg hk];have hk2:inB ⟨((c::r).takeWhile inn).toArray⟩ ch=false:=by simpa using hk
    unfold bO bH;simp only[hw,hk2,hsz,decide_true,Bool.and_self,Bool.not_false];rfl
 .split at h
  .rename_i hd;split at h
   .cases h
   .rename_i h1;split at h
    .cases h
    .rename_i h2;cases h
     have hd2:∀x,x∈(c::r).takeWhile inn->dD x.toNat=true:=fun x hx=>by
      have:((c::r).takeWhile inn).all (fun x=>dD x.toNat)=true:=by
       cases hh:((c::r).takeWhile inn).all fun x=>dD x.toNat with
       | true=>rfl
       | false=>exact absurd (.inl hh) h1
      exact List.all_eq_true.1 this x hx
     have hne:(c::r).takeWhile inn=c::r.takeWhile inn:=SH (by unfold inn dR;simp[hd])
     have hz:1<((c::r).takeWhile inn).length->((c::r).takeWhile inn).head? ≠ some 48:=fun hh e=>by
      rw[hne]at e;simp at e;exact h1 (.inr ⟨hh,e⟩)
     have hb:=EG (r.takeWhile inn).length _ (by rw[hne];rfl) hd2 hz
     have hlen:((c::r).takeWhile inn).length≤16:=by
      have:=u6 9 (ci ((c::r).takeWhile inn)) (by omega);rw[hb]at this;omega
     refine⟨?_,hlen⟩;unfold g8;rw[htake];unfold bO;simp[hb];omega
  .split at h
   .cases h
   .rename_i hb;cases h;rcases nr aM 0 (c::r)with h1|⟨m,h1,h2,h3⟩
    .exact absurd h1 hb
    .have h5:=u2 m h1;have h6:dJ (c::r)=m.length:=h3;refine⟨?_,by rw[h6];omega⟩;unfold g8;rw[h6,<-List.prefix_iff_eq_take.1 (List.isPrefixOf_iff_prefix.1 h2)];unfold bO;simp[h1]
theorem A5:∀(k:Nat) (N:Int) (l:Bs) (ts:List Tok),l.length≤k->fK N l=.ok ts->(∀t,t∈ts->bO t=true/\t.text.size≤16)/\ts.length≤l.length:=by
 intro k
 induction k with
 | zero=>
  intro N l ts h ht;have:l=[]:=SD (by omega);subst this;rw[cW,fO]at ht;cases ht;simp
 | succ k ih=>
  intro N l ts h ht;rw[cW]at ht;have hs:=(dH l).length_le;cases hsk:bC l with
  | nil=>rw[hsk]at ht;cases ht;simp
  | cons c r=>
   rw[hsk]at ht hs;simp only at ht;cases hrd:cZ (c::r)with
   | err e=>rw[hrd]at ht;cases ht
   | tok kd n len=>
    obtain⟨g1,g2⟩:=iN hrd;obtain⟨v1,v2⟩:=BV N hrd;rw[hrd]at ht;simp only at ht;have hdl:=SM (l:=c::r) (i:=len);cases hq:fK N ((c::r).drop len)with
    | err x e=>rw[hq]at ht;cases ht
    | ok us=>
     rw[hq]at ht;cases ht;obtain⟨i1,i2⟩:=ih N _ us (by omega) hq;refine⟨fun t ht=>?_,by simp only[SE]at *;omega⟩;rcases List.mem_cons.1 ht with rfl|ht
     .refine⟨v1,?_⟩;unfold g8;rw[Lib.size_eq];simp only[List.length_take,List.size_toArray];simp;omega
     .exact i1 t ht
theorem fQ{l:Bs}{ts:List Tok}(h:cR l=.ok ts):(∀t,t∈ts->bO t=true/\t.text.size≤16)/\ts.length≤l.length:=A5 _ _ l ts (SO _) h
def z0:Ex:=.mk 0 0 ⟨#[]⟩ []
theorem jc:vex z0=.agg [.d (ab 0),.d (ab 0),.d (aj ⟨#[]⟩),.d (.sl [])]:=by unfold z0;rw[ao];rfl
def ij(x:Ex×Int×Int):V:=.tup [vex x.1,.d (ab x.2.1),.d (ab x.2.2)]
theorem ot(l:Bs)(hl:16384<l.length)(σ:LLV):Fun G 58 [.d (aj (bs l))] σ (aN (.tup [.d (.sl []),.d (ab 0),.d (ab 2)]) σ):=by
 refine ae Tryz.func58 k58 rfl fun hb hw=>?_;unfold c58;have hbig':(16384:Int)<((l.length:Nat):Int):=by omega
 simp -dsimp only[aw,seval,aE,decide_eq_true hbig'];first|exact al hb rfl rfl|exact am hb rfl rfl
theorem Hd{l:Bs}{ts:List Tok}(h:cR l=.ok ts)(hl:l.length≤16384):TsOK ts:=by
 obtain⟨h1,h2⟩:=fQ h;exact⟨fun t ht=>by have:=(h1 t ht).2;omega,by omega⟩
theorem nH{l:Bs}{n e:Int}(h:cR l=.err n e):e≠0:=by
 suffices H:∀(k:Nat) (N:Int) (l:Bs),l.length≤k->fK N l=.err n e->e≠0 from H _ _ l (SO _) h
 intro k
 induction k with
 | zero=>
  intro N l h ht;have:l=[]:=SD (by omega);subst this;rw[cW,fO]at ht;cases ht
 | succ k ih=>
  intro N l h ht;rw[cW]at ht;have hs:=(dH l).length_le;cases hsk:bC l with
  | nil=>rw[hsk]at ht;cases ht
  | cons c r=>
   rw[hsk]at ht hs;simp only at ht;cases hrd:cZ (c::r)with
   | err e'=>rw[hrd]at ht;cases ht;exact pL hrd
   | tok kd n' len=>
    obtain⟨g1,g2⟩:=iN hrd;rw[hrd]at ht;simp only at ht;have hdl:=SM (l:=c::r) (i:=len);cases hq:fK N ((c::r).drop len)with
    | err x e'=>
     rw[hq]at ht;cases ht;exact ih N _ (by omega) hq
    | ok us=>rw[hq]at ht;cases ht
end Go.Proofs.YtnhphlmblenapaaGreatDoor
