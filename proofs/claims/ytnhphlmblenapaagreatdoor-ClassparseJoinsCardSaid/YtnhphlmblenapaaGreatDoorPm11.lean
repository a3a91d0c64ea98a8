import Derived.Test.YtnhphlmblenapaaGreatDoorPm6
set_option linter.unusedVariables false
set_option linter.unusedSimpArgs false
set_option linter.unusedSectionVars false
set_option maxHeartbeats 4000000
open Bool renaming and_eq_true->Pa,false_eq_true->Pb,true_and->Pd,false_or->Pe
open List renaming getElem?_eq_getElem->Pf,map_cons->Pg,take_length->Ph,map_nil->Pi,take_of_length_le->Pj,take_left->Pk,eq_nil_of_length_eq_zero->Pl,length_cons->Pm,length_nil->Pn,length_set->Po,takeWhile_cons_of_pos->Pp,drop_eq_getElem_cons->Pq,drop_eq_nil_of_le->Pr,getElem?_eq_none->Ps,length_append->Pt,length_drop->Pu,getElem_mem->Pv
open Nat renaming le_refl->Pw
open Option renaming isSome_none->Px,map_none->Py
open UInt8 renaming toNat_inj->Pz
namespace Go.Proofs.YtnhphlmblenapaaGreatDoor
open Go.RowKit
theorem wA(ts:List Tok)(a i:Nat)(H:TsOK ts)(ha:a≤ts.length)(a0:Ex)
 (hW:∀b,a<b->b≤ts.length->∀σ:LLV,σ[i]? = some (pb ts b)->Fun G 255 [.ptr i 0] σ (PQ ts i σ (par .W (ts.drop b))))
 (σ:LLV)(hi:σ[i]? = some (pb ts a)):Fun G 321 [.ptr i 0,vex a0] σ (PQ ts i σ (par (.In a0) (ts.drop a))):=by
 refine al Tryz.func321 Nf (by simp only[au];rfl) fun hb hw=>?_;have S:=St.init hi hb;have hpar:=iT (.In a0) (ts.drop a);simp only[aX,bA]at hpar;unfold JT;simp -dsimp only[aw,seval,au];refine eK H (m:=ah 123) S ha (fun hs ha1 σ1 S1 hl1=>?_) (fun hs=>?_)
 case refine_2=>
  rw[hs,if_neg (by decide)]at hpar;simp -dsimp only[aw,seval];exact dI S ha hpar
 rw[hs,if_pos rfl]at hpar;simp only at hpar;rw[<-hl1];simp -dsimp only[aw,seval];refine aI [0,4,5] (R:=fun(j:Nat) ρ σ'=>∃(a1:Nat) (args:List Ex) (σ2:LLV) (x:LLV),ρ=[(0,.ptr i 0),(4,.ptr (σ1.length+1) 0),(5,.own 50 4 (args.map dex))]/\σ'=σ2++x/\x=[[.d (aa a0.op),.d (aa a0.num),.d (ae a0.name),.d (.sl (a0.args.map dex))],[.d (aa 0),.d (aa 0),.d (ae ⟨#[]⟩),.nil]]/\St σ i ts a1 σ2/\σ2.length=σ1.length/\a1≤ts.length/\a+1+j≤a1/\args.length≤2*a1/\par (.In a0) (ts.drop a)=par (.Ip args) (ts.drop a1)) (ts.length-a) ⟨a+1,[a0],σ1,_,by simp only[Pg,Pi,bV];rfl,rfl,rfl,S1,rfl,ha1,by omega,by simp only[Pm,Pn];omega,hpar⟩ ?_ _;rintro j ρ' σ' hj ⟨a1,args,σ2,x,rfl,rfl,hx,S2,hl2,h1,h2,h3,hp2⟩;have hp3:=iT (.Ip args) (ts.drop a1);rw[<-hp2]at hp3;simp only[aX]at hp3
 subst hx;rw[<-hl2];simp -dsimp only[aw,seval];refine ig H S2 h1 (hW _ (by omega) h1 _ (am S2.at_ _)) (fun e1 a2 hx g1 g2 g3 σ3 S3 hl3=>?_) (fun c r b hx σ3 S3 hl3=>?_)
 case refine_2=>
  rw[hx,PR.bind]at hp3;rw[<-hl3];simp -dsimp only[aw,seval];exact cQ S3 hp3 rfl
 rw[hx,PR.bind,bA]at hp3;have g3:=g3 rfl;rw[<-hl3];simp -dsimp only[aw,seval,au];refine eK H (m:=bL 46 46) S3 g2 (fun hs3 ha4 σ4 S4 hl4=>?_) (fun hs3=>?_)
 case refine_2=>
  rw[hs3,if_neg (by decide)]at hp3;simp -dsimp only[aw,seval];exact dI S3 g2 hp3
 rw[hs3,if_pos rfl]at hp3;simp only at hp3;rw[<-hl4];simp -dsimp only[aw,seval];refine B1 H S4 ha4 (hW _ (by omega) ha4 _ (am S4.at_ _)) (fun e2 a3 hx2 k1 k2 k3 σ5 S5 hl5=>⟨?_,?_⟩) (fun c r b hx2 σ5 S5 hl5=>?_) (fun⟨c,r,hx2⟩=>?_)
 .rw[<-hl5];simp -dsimp only[aw,seval]
 .rw[<-hl5];rw[hx2,PR.bind,bA]at hp3;have k3:=k3 rfl;have hL:=H.len;simp -dsimp only[aw,seval,au];refine aU (by omega) ?_;simp -dsimp only[aw,seval];have hrows:args.map dex++[[aa e1.op,aa e1.num,ae e1.name,D.sl (e1.args.map dex)],[aa e2.op,aa e2.num,ae e2.name,D.sl (e2.args.map dex)]]=(args++[e1,e2]).map dex:=by rw[List.map_append,Pg,Pg,Pi,bV,bV]
  rw[hrows];refine dq H (m:=ah 44) S5 k2 (fun h44 ha6 σ6 S6 hl6=>?_) (fun h44=>?_)
  .rw[h44,if_pos rfl]at hp3;simp only at hp3;rw[<-hl6];simp -dsimp only[aw,seval];refine⟨by omega,Nxt.to (σ6++[[.d (aa a0.op),.d (aa a0.num),.d (ae a0.name),.d (.sl (a0.args.map dex))],[.d (aa 0),.d (aa 0),.d (ae ⟨#[]⟩),.nil]]) [[.d (aa e1.op),.d (aa e1.num),.d (ae e1.name),.d (.sl (e1.args.map dex))]] (by simp) (by simp) (aq S6.bb rfl) ?_ ⟨a3+1,args++[e1,e2],σ6,_,?_,rfl,rfl,S6,?_,ha6,by omega,?_,hp3⟩⟩
   .have:=S6.lt;simp[an,V.under,S6.len];omega
   .rw[hl6,hl5,hl4,hl3,hl2]
   .omega
   .simp only[Pt,Pm,Pn];omega
  .rw[h44,if_neg (by decide),bA]at hp3;simp -dsimp only[aw,seval];refine eK H (m:=ah 125) S5 k2 (fun hs6 ha6 σ6 S6 hl6=>?_) (fun hs6=>?_)
   .rw[hs6,if_pos rfl]at hp3;have hN:=d8 23 (args++[e1,e2]);rw[<-hl6];simp -dsimp only[aw,seval];refine aj (hN _) ?_;simp -dsimp only[aw,seval,au,bh,ca,bu,aT,aW];exact da S6 ha6 hp3 (by rw[au];simp[GY,aL,bc,bh,ca,bu,aT,aW,bV,aw,seval])
   .rw[hs6,if_neg (by decide)]at hp3;simp -dsimp only[aw,seval];exact dI S5 k2 hp3
 .rw[hx2,PR.bind]at hp3;intro ρ2;rw[<-hl5];simp -dsimp only[aw,seval];exact cQ S5 hp3 rfl
 .simp -dsimp only[aw,seval]
theorem w9{ts:List Tok}{a k:Nat}(h:eQ ts a k=true):∃(o:Int) (ex:Bool) (m:ByteArray) (n:Int),ji ts a k=.tup [.agg [.d (ae m),.d (aa o),.d (aa n)],ak ex,ak true]/\dw k (ts.drop a)=some (o,ex,ts.drop (a+1)):=by
 unfold eQ at h;unfold ji dw;rw[lr];cases hf:fG fp k ts a with
 | some b=>exact⟨_,_,_,_,rfl,rfl⟩
 | none=>
  rw[hf]at h;simp only[Px,Pe,Pa,decide_eq_true_eq,Bool.or_eq_true]at h;obtain⟨rfl,h⟩:=h;simp only[Py,if_true,true_and,bA];cases h62:bo (ah 62) ts a with
  | true=>exact⟨_,_,_,_,rfl,by simp⟩
  | false=>
   rw[h62]at h;have h:=h.resolve_left (by decide);simp only[h,Pb,if_false,if_true];exact⟨_,_,_,_,rfl,rfl⟩
theorem vD{ts:List Tok}{a k:Nat}(h:eQ ts a k=false):ji ts a k=.tup [zb,ak false,ak false]/\dw k (ts.drop a)=none:=by
 unfold eQ at h;unfold ji dw;rw[lr];cases hf:fG fp k ts a with
 | some b=>rw[hf]at h;simp at h
 | none=>
  rw[hf]at h;simp only[Px,Pe,Bool.and_eq_false_iff,decide_eq_false_iff_not,Bool.or_eq_false_iff]at h;simp only[Py,bA];rcases h with h|⟨h1,h2⟩
  .simp[h]
  .simp[h1,h2]
section
variable {σ0 σ : LLV} {i : Nat} {ts : List Tok} {a : Nat} (H : TsOK ts) {l : LLV} {K P : V -> LLV -> Prop} {s : Tag K} {t : Tag P}
include H
theorem Be{k:Nat}(h:eQ ts a k=true):a+1≤ts.length:=by
 apply Classical.byContradiction;intro hn;have hs:∀m,bo m ts a=false:=fun m=>gx (by omega);unfold eQ fG at h;simp only[hs,Bool.and_false,Bool.or_false]at h;have:fp.find? (fun _=>false)=none:=rfl;rw[this]at h;cases h
theorem Cc{k:Nat}(hk:k≤100)(S:St σ0 i ts a σ)(ha:a≤ts.length)(ht:∀(o:Int) (ex:Bool) (m:ByteArray) (n:Int),dw k (ts.drop a)=some (o,ex,ts.drop (a+1))->a+1≤ts.length->∀σ',St σ0 i ts (a+1) σ'->σ'.length=σ.length->K (.tup [.agg [.d (ae m),.d (aa o),.d (aa n)],ak ex,ak true]) (σ'++l))(hf:dw k (ts.drop a)=none->K (.tup [zb,ak false,ak false]) (σ++l)):
 iq G 322 [.ptr i 0,.d (aa k)] (σ++l) K P s t:=by
 refine aE (sc k hk ts a i H.size H.len ha (σ++l) (am S.at_ l)) fun o σ' ⟨e1,e2⟩=>?_;subst e1;rw[aZ];cases hs:eQ ts a k with
 | true=>
  rw[hs,if_pos rfl,bj S.at_]at e2;subst e2;obtain⟨o,ex,m,n,h1,h2⟩:=w9 hs;rw[h1];exact ht o ex m n h2 (Be H hs) _ (S.step _) (S.slen _)
 | false=>
  rw[hs,if_neg (by decide)]at e2;subst e2;obtain⟨h1,h2⟩:=vD hs;rw[h1];exact hf h2
end
theorem BP(k:Nat)(hk:k≤13)(ts:List Tok)(a i:Nat)(H:TsOK ts)(ha:a≤ts.length)
 (hU:∀σ:LLV,σ[i]? = some (pb ts a)->Fun G 320 [.ptr i 0] σ (PQ ts i σ (par .U (ts.drop a))))
 (hL:k≤12->∀b,a≤b->b≤ts.length->∀σ:LLV,σ[i]? = some (pb ts b)->Fun G 310 [.ptr i 0,.d (aa ((k:Int)+1))] σ (PQ ts i σ (par (.L (k+1)) (ts.drop b))))
 (hN:∀b e,a<b->b≤ts.length->∀σ:LLV,σ[i]? = some (pb ts b)->Fun G 321 [.ptr i 0,vex e] σ (PQ ts i σ (par (.In e) (ts.drop b))))
 (σ:LLV)(hi:σ[i]? = some (pb ts a)):Fun G 310 [.ptr i 0,.d (aa k)] σ (PQ ts i σ (par (.L k) (ts.drop a))):=by
 refine al Tryz.func310 NC rfl fun hb hw=>?_;have S:=St.init hi hb;have hpar:=iT (.L k) (ts.drop a);simp only[aX]at hpar;unfold MP;by_cases hgt:12<k
 .have hd:decide (12<((k:Nat):Int))=true:=by rw[decide_eq_true_eq];omega
  rw[if_pos hgt]at hpar;simp -dsimp only[aw,seval,hd];refine ig H S ha (hU _ (am S.at_ _)) (fun e1 a2 hx g1 g2 g3 σ3 S3 hl3=>?_) (fun c r b hx σ3 S3 hl3=>?_)
  .rw[hx]at hpar;rw[<-hl3];simp -dsimp only[aw,seval,au];exact da S3 g2 hpar (by rw[au];simp[xW,aL,bc,aw,seval])
  .rw[hx]at hpar;rw[<-hl3];simp -dsimp only[aw,seval];exact cQ S3 hpar rfl
 have hd:decide (12<((k:Nat):Int))=false:=by rw[decide_eq_false_iff_not];omega
 have hwr:IntKind.i64.wrap (((k:Nat):Int)+1)=(k:Int)+1:=bI (by omega) (by omega);rw[if_neg hgt]at hpar;simp -dsimp only[aw,seval,hd,hwr];refine ig H S ha (hL (by omega) a (Pw _) ha _ (am S.at_ _)) (fun e1 a1 hx g1 g2 g3 σ1 S1 hl1=>?_) (fun c r b hx σ3 S3 hl3=>?_)
 case refine_2=>
  rw[hx,PR.bind]at hpar;rw[<-hl3];simp -dsimp only[aw,seval];exact cQ S3 hpar rfl
 rw[hx,PR.bind]at hpar;have g3:=g3 rfl;rw[<-hl1];simp -dsimp only[aw,seval,au];refine aI [0,1,4,5] (R:=fun(j:Nat) ρ σ'=>∃(a1:Nat) (e:Ex) (σ2:LLV) (x:LLV),ρ=[(0,.ptr i 0),(1,.d (aa k)),(4,.ptr σ1.length 0),(5,.ptr (σ1.length+1) 0)]/\σ'=σ2++x/\x=[[.d (aa 0),.d (aa 0),.d (ae ⟨#[]⟩),.nil],[.d (aa e.op),.d (aa e.num),.d (ae e.name),.d (.sl (e.args.map dex))]]/\St σ i ts a1 σ2/\σ2.length=σ1.length/\a1≤ts.length/\a+1+j≤a1/\par (.L k) (ts.drop a)=par (.Lp k e) (ts.drop a1)) (ts.length-a) ⟨a1,e1,σ1,_,rfl,rfl,rfl,S1,rfl,g2,by omega,hpar⟩ ?_ _;rintro j ρ' σ' hj ⟨a2,e,σ2,x,rfl,rfl,hx2,S2,hl2,h1,h2,hp2⟩;have hp3:=iT (.Lp k e) (ts.drop a2);rw[<-hp2]at hp3;simp only[aX]at hp3;subst hx2;rw[<-hl2];have hL1:=H.len;have h1lt:=S2.lt;by_cases h9:k=9
 .have hd9:decide (((k:Nat):Int)=9)=true:=by rw[decide_eq_true_eq];omega
  rw[if_pos h9,bA]at hp3;simp -dsimp only[aw,seval,hd9];refine dq H (m:=dF) S2 h1 (fun hin ha3 σ3 S3 hl3=>?_) (fun hin=>?_)
  .rw[hin,if_pos rfl]at hp3;simp only at hp3;have hN':=fun l=>hN (a2+1) e (by omega) ha3 _ (am S3.at_ l);rw[au]at hN';rw[<-hl3];simp -dsimp only[aw,seval];refine ig H S3 ha3 (hN' _) (fun e4 a4 hx4 k1 k2 k3 σ4 S4 hl4=>?_) (fun c r b hx σ3 S3 hl3=>?_)
   .rw[hx4,PR.bind]at hp3;rw[<-hl4];simp -dsimp only[aw,seval,au];refine⟨by omega,Nxt.to (σ4++[[.d (aa 0),.d (aa 0),.d (ae ⟨#[]⟩),.nil],[.d (aa e4.op),.d (aa e4.num),.d (ae e4.name),.d (.sl (e4.args.map dex))]]) [] (by simp) (by simp) (aq S4.bb rfl) ?_ ⟨a4,e4,σ4,_,?_,rfl,rfl,S4,by omega,k2,by omega,hp3⟩⟩
    .simp[an,V.under];omega
    .rw[hl4,hl3,hl2]
   .rw[hx,PR.bind]at hp3;rw[<-hl3];simp -dsimp only[aw,seval];exact cQ S3 hp3 rfl
  rw[hin,if_neg (by decide)]at hp3;simp only at hp3;simp -dsimp only[aw,seval];refine Cc H (by omega) S2 h1 (fun o ex m n hop ha3 σ3 S3 hl3=>?_) (fun hop=>?_)
  case refine_2=>
   rw[hop]at hp3;simp -dsimp only[aw,seval,zb];exact da S2 h1 hp3 (by rw[au];simp[xW,aL,bc,aw,seval])
  rw[hop]at hp3;simp only at hp3;rw[<-hl3];simp -dsimp only[aw,seval,hwr];refine ig H S3 ha3 (hL (by omega) _ (by omega) ha3 _ (am S3.at_ _)) (fun e4 a4 hx4 k1 k2 k3 σ4 S4 hl4=>?_) (fun c r b hx σ4 S4 hl4=>?_)
  case refine_2=>
   rw[hx,PR.bind]at hp3;rw[<-hl4];simp -dsimp only[aw,seval];exact cQ S4 hp3 rfl
  rw[hx4,PR.bind]at hp3;have hle:=S4.lt;rw[<-hl4];cases ex with
  | true=>
   have hNd:=d8 o [e4,e];rw[if_pos rfl]at hp3;simp -dsimp only[aw,seval,au];refine aj (by simpa only[Pg,Pi,bV]using hNd _) ?_;simp -dsimp only[aw,seval,au,bh,ca,bu,aT,aW];refine⟨by omega,Nxt.to (σ4++[[.d (aa 0),.d (aa 0),.d (ae ⟨#[]⟩),.nil],[.d (aa o),.d (aa 0),.d (ae ⟨#[]⟩),.d (.sl ([e4,e].map dex))]]) [[.d (ae m),.d (aa o),.d (aa n)],[.d (aa e.op),.d (aa e.num),.d (ae e.name),.d (.sl (e.args.map dex))]] (by simp[bV]) (by simp) (aq S4.bb rfl) ?_ ⟨a4,bh o [e4,e],σ4,_,?_,rfl,rfl,S4,by omega,k2,by omega,hp3⟩⟩
   .simp[an,V.under];omega
   .rw[hl4,hl3,hl2]
  | false=>
   have hNd:=d8 o [e,e4];rw[if_neg (by decide)]at hp3;simp -dsimp only[aw,seval,au];refine aj (by simpa only[Pg,Pi,bV]using hNd _) ?_;simp -dsimp only[aw,seval,au,bh,ca,bu,aT,aW];refine⟨by omega,Nxt.to (σ4++[[.d (aa 0),.d (aa 0),.d (ae ⟨#[]⟩),.nil],[.d (aa o),.d (aa 0),.d (ae ⟨#[]⟩),.d (.sl ([e,e4].map dex))]]) [[.d (ae m),.d (aa o),.d (aa n)],[.d (aa e4.op),.d (aa e4.num),.d (ae e4.name),.d (.sl (e4.args.map dex))]] (by simp[bV]) (by simp) (aq S4.bb rfl) ?_ ⟨a4,bh o [e,e4],σ4,_,?_,rfl,rfl,S4,by omega,k2,by omega,hp3⟩⟩
   .simp[an,V.under];omega
   .rw[hl4,hl3,hl2]
 .have hd9:decide (((k:Nat):Int)=9)=false:=by rw[decide_eq_false_iff_not];omega
  rw[if_neg h9]at hp3;simp only at hp3;simp -dsimp only[aw,seval,hd9];refine Cc H (by omega) S2 h1 (fun o ex m n hop ha3 σ3 S3 hl3=>?_) (fun hop=>?_)
  case refine_2=>
   rw[hop]at hp3;simp -dsimp only[aw,seval,zb];exact da S2 h1 hp3 (by rw[au];simp[xW,aL,bc,aw,seval])
  rw[hop]at hp3;simp only at hp3;rw[<-hl3];simp -dsimp only[aw,seval,hwr];refine ig H S3 ha3 (hL (by omega) _ (by omega) ha3 _ (am S3.at_ _)) (fun e4 a4 hx4 k1 k2 k3 σ4 S4 hl4=>?_) (fun c r b hx σ4 S4 hl4=>?_)
  case refine_2=>
   rw[hx,PR.bind]at hp3;rw[<-hl4];simp -dsimp only[aw,seval];exact cQ S4 hp3 rfl
  rw[hx4,PR.bind]at hp3;have hle:=S4.lt;rw[<-hl4];cases ex with
  | true=>
   have hNd:=d8 o [e4,e];rw[if_pos rfl]at hp3;simp -dsimp only[aw,seval,au];refine aj (by simpa only[Pg,Pi,bV]using hNd _) ?_;simp -dsimp only[aw,seval,au,bh,ca,bu,aT,aW];refine⟨by omega,Nxt.to (σ4++[[.d (aa 0),.d (aa 0),.d (ae ⟨#[]⟩),.nil],[.d (aa o),.d (aa 0),.d (ae ⟨#[]⟩),.d (.sl ([e4,e].map dex))]]) [[.d (ae m),.d (aa o),.d (aa n)],[.d (aa e.op),.d (aa e.num),.d (ae e.name),.d (.sl (e.args.map dex))]] (by simp[bV]) (by simp) (aq S4.bb rfl) ?_ ⟨a4,bh o [e4,e],σ4,_,?_,rfl,rfl,S4,by omega,k2,by omega,hp3⟩⟩
   .simp[an,V.under];omega
   .rw[hl4,hl3,hl2]
  | false=>
   have hNd:=d8 o [e,e4];rw[if_neg (by decide)]at hp3;simp -dsimp only[aw,seval,au];refine aj (by simpa only[Pg,Pi,bV]using hNd _) ?_;simp -dsimp only[aw,seval,au,bh,ca,bu,aT,aW];refine⟨by omega,Nxt.to (σ4++[[.d (aa 0),.d (aa 0),.d (ae ⟨#[]⟩),.nil],[.d (aa o),.d (aa 0),.d (ae ⟨#[]⟩),.d (.sl ([e,e4].map dex))]]) [[.d (ae m),.d (aa o),.d (aa n)],[.d (aa e4.op),.d (aa e4.num),.d (ae e4.name),.d (.sl (e4.args.map dex))]] (by simp[bV]) (by simp) (aq S4.bb rfl) ?_ ⟨a4,bh o [e,e4],σ4,_,?_,rfl,rfl,S4,by omega,k2,by omega,hp3⟩⟩
   .simp[an,V.under];omega
   .rw[hl4,hl3,hl2]
end Go.Proofs.YtnhphlmblenapaaGreatDoor
namespace Go.Proofs.YtnhphlmblenapaaGreatDoor
open Go.RowKit
theorem B0(ts:List Tok)(a i:Nat)(H:TsOK ts)(ha:a≤ts.length)
 (hL:∀σ:LLV,σ[i]? = some (pb ts a)->Fun G 310 [.ptr i 0,.d (aa 3)] σ (PQ ts i σ (par (.L 3) (ts.drop a))))
 (hI:∀b,a<b->b≤ts.length->∀σ:LLV,σ[i]? = some (pb ts b)->Fun G 284 [.ptr i 0] σ (PQ ts i σ (par .I (ts.drop b))))
 (σ:LLV)(hi:σ[i]? = some (pb ts a)):Fun G 284 [.ptr i 0] σ (PQ ts i σ (par .I (ts.drop a))):=by
 refine al Tryz.func284 OY rfl fun hb hw=>?_;have S:=St.init hi hb;have hpar:=iT .I (ts.drop a);simp only[aX]at hpar;unfold Ll;simp -dsimp only[aw,seval];refine ig H S ha (hL _ (am hi _)) (fun e a1 hx g1 g2 g3 σ1 S1 hl1=>?_) (fun c r b hx σ1 S1 hl1=>?_)
 case refine_2=>
  rw[hx,PR.bind]at hpar;rw[<-hl1];simp -dsimp only[aw,seval];exact cQ S1 hpar rfl
 rw[hx,PR.bind,bA]at hpar;have g3:=g3 rfl;rw[<-hl1];simp -dsimp only[aw,seval,au];refine dq H (m:=bL 61 62) S1 g2 (fun hs ha2 σ2 S2 hl2=>?_) (fun hs=>?_)
 case refine_2=>
  rw[hs,if_neg (by decide)]at hpar;simp -dsimp only[aw,seval];exact da S1 g2 hpar (by rw[au];simp[Ck,aL,bc,aw,seval])
 rw[hs,if_pos rfl]at hpar;simp only at hpar;rw[<-hl2];simp -dsimp only[aw,seval];refine B1 H S2 ha2 (hI _ (by omega) ha2 _ (am S2.at_ _)) (fun e2 a3 hx2 k1 k2 k3 σ3 S3 hl3=>⟨?_,?_⟩) (fun c r b hx2 σ3 S3 hl3=>?_) (fun⟨c,r,hx2⟩=>?_)
 .rw[<-hl3];simp -dsimp only[aw,seval]
 .rw[hx2,PR.bind]at hpar;have hN:=d8 21 [e,e2];rw[<-hl3];simp -dsimp only[aw,seval,au];refine bp (by simpa only[Pg,Pi,bV]using hN _) ?_;simp -dsimp only[aw,seval,au,bh,ca,bu,aT,aW];exact da S3 k2 hpar (by rw[au];simp[Ck,aL,bc,bh,ca,bu,aT,aW,bV,aw,seval])
 .rw[hx2,PR.bind]at hpar;intro ρ2;rw[<-hl3];simp -dsimp only[aw,seval];exact cQ S3 hpar rfl
 .simp -dsimp only[aw,seval]
theorem yQ(ts:List Tok)(a i:Nat)(H:TsOK ts)(ha:a≤ts.length)
 (hI:∀σ:LLV,σ[i]? = some (pb ts a)->Fun G 284 [.ptr i 0] σ (PQ ts i σ (par .I (ts.drop a))))
 (hW:∀b,a<b->b≤ts.length->∀σ:LLV,σ[i]? = some (pb ts b)->Fun G 255 [.ptr i 0] σ (PQ ts i σ (par .W (ts.drop b))))
 (σ:LLV)(hi:σ[i]? = some (pb ts a)):Fun G 255 [.ptr i 0] σ (PQ ts i σ (par .W (ts.drop a))):=by
 refine al Tryz.func255 NN rfl fun hb hw=>?_;have S:=St.init hi hb;have hpar:=iT .W (ts.drop a);simp only[aX]at hpar;unfold Le;simp -dsimp only[aw,seval];refine ig H S ha (hI _ (am hi _)) (fun e a1 hx g1 g2 g3 σ1 S1 hl1=>?_) (fun c r b hx σ1 S1 hl1=>?_)
 case refine_2=>
  rw[hx,PR.bind]at hpar;rw[<-hl1];simp -dsimp only[aw,seval];exact cQ S1 hpar rfl
 rw[hx,PR.bind,bA]at hpar;have g3:=g3 rfl;rw[<-hl1];simp -dsimp only[aw,seval,au];refine dq H (m:=ah 63) S1 g2 (fun hs ha2 σ2 S2 hl2=>?_) (fun hs=>?_)
 case refine_2=>
  rw[hs,if_neg (by decide)]at hpar;simp -dsimp only[aw,seval];exact da S1 g2 hpar (by rw[au];simp[Cp,aL,bc,aw,seval])
 rw[hs,if_pos rfl]at hpar;simp only at hpar;rw[<-hl2];simp -dsimp only[aw,seval];refine ig H S2 ha2 (hW _ (by omega) ha2 _ (am S2.at_ _)) (fun e2 a3 hx2 k1 k2 k3 σ3 S3 hl3=>?_) (fun c r b hx2 σ3 S3 hl3=>?_)
 case refine_2=>
  rw[hx2,PR.bind]at hpar;rw[<-hl3];simp -dsimp only[aw,seval];exact cQ S3 hpar rfl
 rw[hx2,PR.bind,bA]at hpar;have k3:=k3 rfl;rw[<-hl3];simp -dsimp only[aw,seval,au];refine eK H (m:=ah 58) S3 k2 (fun hs4 ha4 σ4 S4 hl4=>?_) (fun hs4=>?_)
 case refine_2=>
  rw[hs4,if_neg (by decide)]at hpar;simp -dsimp only[aw,seval];exact dI S3 k2 hpar
 rw[hs4,if_pos rfl]at hpar;simp only at hpar;rw[<-hl4];simp -dsimp only[aw,seval];refine B1 H S4 ha4 (hW _ (by omega) ha4 _ (am S4.at_ _)) (fun e3 a5 hx5 m1 m2 m3 σ5 S5 hl5=>⟨?_,?_⟩) (fun c r b hx5 σ5 S5 hl5=>?_) (fun⟨c,r,hx5⟩=>?_)
 .rw[<-hl5];simp -dsimp only[aw,seval]
 .rw[hx5,PR.bind]at hpar;have hN:=d8 22 [e,e2,e3];rw[<-hl5];simp -dsimp only[aw,seval,au];refine bp (by simpa only[Pg,Pi,bV]using hN _) ?_;simp -dsimp only[aw,seval,au,bh,ca,bu,aT,aW];exact da S5 m2 hpar (by rw[au];simp[Cp,aL,bc,bh,ca,bu,aT,aW,bV,aw,seval])
 .rw[hx5,PR.bind]at hpar;intro ρ2;rw[<-hl5];simp -dsimp only[aw,seval];exact cQ S5 hpar rfl
 .simp -dsimp only[aw,seval]
theorem IP(ts:List Tok)(i:Nat)(H:TsOK ts):∀n a,a≤ts.length->
 (40*(ts.length-a)+15≤n->∀σ:LLV,σ[i]? = some (pb ts a)->Fun G 255 [.ptr i 0] σ (PQ ts i σ (par .W (ts.drop a))))/\
 (40*(ts.length-a)+14≤n->∀σ:LLV,σ[i]? = some (pb ts a)->Fun G 284 [.ptr i 0] σ (PQ ts i σ (par .I (ts.drop a))))/\
 (∀k,k≤13->40*(ts.length-a)+(16-k)≤n->∀σ:LLV,σ[i]? = some (pb ts a)->Fun G 310 [.ptr i 0,.d (aa ((k:Nat):Int))] σ (PQ ts i σ (par (.L k) (ts.drop a))))/\
 (∀e,40*(ts.length-a)≤n->∀σ:LLV,σ[i]? = some (pb ts a)->Fun G 321 [.ptr i 0,vex e] σ (PQ ts i σ (par (.In e) (ts.drop a))))/\
 (40*(ts.length-a)+2≤n->∀σ:LLV,σ[i]? = some (pb ts a)->Fun G 320 [.ptr i 0] σ (PQ ts i σ (par .U (ts.drop a))))/\
 (40*(ts.length-a)+1≤n->∀σ:LLV,σ[i]? = some (pb ts a)->Fun G 326 [.ptr i 0] σ (PQ ts i σ (par .P (ts.drop a)))):=by
 intro n
 induction n using Nat.strongRecOn with
 | _ n ih=>
 intro a ha;have W:∀b,a<b->b≤ts.length->40*(ts.length-a)≤n->∀σ:LLV,σ[i]? = some (pb ts b)->Fun G 255 [.ptr i 0] σ (PQ ts i σ (par .W (ts.drop b))):=fun b hb hb2 hn=>(ih (n-1) (by omega) b hb2).1 (by omega);refine⟨fun hn=>?_,fun hn=>?_,fun k hk hn=>?_,fun e hn=>?_,fun hn=>?_,fun hn=>?_⟩
 .exact yQ ts a i H ha ((ih (n-1) (by omega) a ha).2.1 (by omega)) fun b hb hb2=>W b hb hb2 (by omega)
 .refine B0 ts a i H ha (fun σ hi=>?_) fun b hb hb2=>(ih (n-1) (by omega) b hb2).2.1 (by omega);exact(ih (n-1) (by omega) a ha).2.2.1 3 (by omega) (by omega) σ hi
 .refine BP k hk ts a i H ha (fun σ hi=>?_) (fun hk2 b hb hb2 σ hi=>?_) fun b e hb hb2=>(ih (n-1) (by omega) b hb2).2.2.2.1 e (by omega)
  .exact(ih (n-1) (by omega) a ha).2.2.2.2.1 (by omega) σ hi
  .exact(ih (n-1) (by omega) b hb2).2.2.1 (k+1) (by omega) (by omega) σ hi
 .exact wA ts a i H ha e fun b hb hb2=>W b hb hb2 hn
 .exact yK ts a i H.size H.len ha ((ih (n-1) (by omega) a ha).2.2.2.2.2 (by omega)) fun b hb hb2=>(ih (n-1) (by omega) b hb2).2.2.2.2.1 (by omega)
 .exact sU ts a i H ha fun b hb hb2=>W b hb hb2 (by omega)
theorem yw(ts:List Tok)(i:Nat)(H:TsOK ts)(a:Nat)(ha:a≤ts.length)(σ:LLV)(hi:σ[i]? = some (pb ts a)):Fun G 255 [.ptr i 0] σ (PQ ts i σ (par .W (ts.drop a))):=
 (IP ts i H _ a ha).1 (Pw _) σ hi
def CK(ts:List Tok)(x:PR):V:=match x with
 | .ok e r=>.tup [vex e,.d (aa ((ts.length-r.length:Nat):Int)),.d (aa 0)]
 | .bad c r=>.tup [vex (.mk 0 0 ⟨#[]⟩ []),.d (aa ((ts.length-r.length:Nat):Int)),.d (aa c)]
 | .out=>.junk
theorem sm(σ:LLV)(i j k:Nat):ed G 254 [.ptr i 0,.ptr j 0,.ptr k 0] σ none (fun σ'=>σ'=σ):=by
 refine cV Tryz.func254 Lb rfl (fun v h=>by cases h) fun hb=>?_;unfold Hl;simp -dsimp only[aw,seval,nD,nQ,Option.getD_none];exact⟨σ.length,Pw _,by rw[Pk];exact hb,Pk⟩
theorem G1(τ:LLV)(a b c d e:List V):(τ++[a,b,c,d,e]).take (τ.length+4)=τ++[a,b,c,d]:=by
 rw[List.take_append,Pj (by omega),Nat.add_sub_cancel_left];rfl
theorem sH(τ:LLV)(c:Int)(n:Nat)(l:List V):ed G 254 [.ptr τ.length 0,.ptr (τ.length+1) 0,.ptr (τ.length+2) 0] (τ++[[.d (aa 0),.d (aa 0),.d (ae ⟨#[]⟩),.nil],[.d (aa 0)],[.d (aa 0)],l]) (some (d9 c n))
 (fun σ'=>σ'=τ++[[.d (aa 0),.d (aa 0),.d (ae ⟨#[]⟩),.nil],[.d (aa n)],[.d (aa c)],l]):=by
 refine cV Tryz.func254 Lb rfl (fun v h=>by cases h;rfl) fun hb=>?_;unfold Hl d9;simp -dsimp only[aw,seval,nD,nQ,Option.getD_some];refine⟨τ.length+4,by simp,?_,?_⟩
 .rw[G1];simp only[Pt,Pm,Pn,Nat.reduceAdd]at hb;unfold ai at hb ⊢;rw[List.all_append,Pa]at hb ⊢;refine⟨hb.1,?_⟩;have:=hb.2;simp only[List.all_cons,List.all_nil,Bool.and_true,Pa]at this ⊢;exact⟨rfl,rfl,rfl,this.2.2.2⟩
 .rw[G1]
theorem t8(ts:List Tok)(H:TsOK ts)(a:Nat)(ha:a≤ts.length)(σ:LLV):Fun G 221 [.d (.sl (ts.map kJ)),.d (aa a)] σ (aO (CK ts (par .W (ts.drop a))) σ):=by
 refine iV Tryz.func221 Oe rfl fun hb hw=>?_;unfold K8;have hP:=yw ts (σ.length+3) H a ha;simp -dsimp only[aw,seval,fj,xJ];refine aE (hP _ (by rw[mW];rfl)) fun o σ' hq=>?_;cases hx:par .W (ts.drop a)with
 | out=>exact absurd hx (eR _ _)
 | bad c r=>
  rw[hx]at hq;obtain⟨rfl,b,rfl⟩:=hq;rw[ik];simp -dsimp only[aw,seval,aS];refine(sH σ c (ts.length-r.length) _).mono fun σ' h=>?_;subst h;exact⟨_,by simp[Br,aL,cv,bc,aw,seval];rfl,σ.length,Pw _,by rw[Pk];exact hb,rfl,by rw[Pk];exact⟨by simp[CK,au,ca,bu,aT,aW],rfl⟩⟩
 | ok e r=>
  rw[hx]at hq;obtain⟨rfl,rfl⟩:=hq;rw[ik];simp -dsimp only[aw,seval,aZ,au,pb];refine(sm _ _ _ _).mono fun σ' h=>?_;subst h;exact⟨.tup [vex e,.d (aa ((ts.length-r.length:Nat):Int)),.d (aa 0)],by rw[au];simp[Br,aL,cv,bc,aw,seval],σ.length,Pw _,by rw[Pk];exact hb,by rw[au];rfl,by rw[Pk];exact⟨rfl,rfl⟩⟩
def dg(e n:Int):V:=.iface 101 (.agg [.d (aa e),.d (aa n)])
structure TsV(ts:List Tok):Prop where
 ok:TsOK ts
 v:∀t,t∈ts->bS t=true
def zLs(ts:List Tok):Int:=match ts.getLast? with
 | some t=>t.line
 | none=>0
def lnA(ts:List Tok)(a:Nat):Int:=lnR (zLs ts) (ts.drop a)
theorem J9{ts:List Tok}(h:ts.length-1<ts.length):zLs ts=ts[ts.length-1].line:=by
 unfold zLs;rw[List.getLast?_eq_getElem?,Pf h]
theorem Dw{α:Type}{ts:List Tok}{a:Nat}:(gV (zLs ts) (ts.drop a):CP α)=.bad (eO ts a) (lnA ts a):=by
 unfold eO lnA;by_cases h:a<ts.length
 .rw[if_pos h,Pq h];rfl
 .rw[if_neg h,Pr (by omega)];rfl
theorem gH(ts:List Tok)(a i:Nat)(σ:LLV)(hi:σ[i]? = some (pb ts a)):Fun G 35 [.ptr i 0] σ (aO (ak (decide (a<ts.length))) σ):=by
 refine al Tryz.func35 k35 rfl fun hb hw=>?_;unfold c35;unfold pb at hi;simp -dsimp only[aw,seval,hi,Int.ofNat_lt];exact av hb rfl rfl
theorem m6(ts:List Tok)(a b i:Nat)(e:Int)(H:TsV ts)(hb9:b≤ts.length)(σ:LLV)(hi:σ[i]? = some (pb ts a)):
 Fun G 87 [.ptr i 0,.d (aa e),.d (aa b)] σ fun o σ'=>o=.panic (dg e (lnA ts b))/\σ'=σ:=by
 refine al Tryz.func87 k87 rfl fun hb hw=>?_;unfold c87;have hl:=H.ok.len;unfold pb at hi;have done:∀(ρ:ac) rs,fin σ.length rs (fun o σ'=>o=.panic (dg e (lnA ts b))/\σ'=σ) (.panic (dg e (lnA ts b))) ρ σ:=fun ρ rs=>⟨σ.length,Pw _,by rw[Ph];exact hb,rfl,rfl,Ph⟩
 by_cases h0:ts.length=0
 .have:ts=[]:=Pl h0;subst this;have dz:decide ((0:Int)<((0:Nat):Int))=false:=rfl;have hln:lnA [] b=0:=by unfold lnA;rw[List.drop_nil];rfl
  rw[hln]at done ⊢;simp only[Pi]at hi;simp -dsimp only[aw,seval,hi,dz,Pn];exact done _ _
 .have d0:decide ((0:Int)<((ts.length:Nat):Int))=true:=by rw[decide_eq_true_eq];omega
  have hw1:IntKind.i64.wrap (((ts.length:Nat):Int)-1)=((ts.length-1:Nat):Int):=by rw[bI (by omega) (by omega)];omega
  have hmin:min ((b:Nat):Int) ((ts.length-1:Nat):Int)=((min b (ts.length-1):Nat):Int):=by omega
  have hlt:min b (ts.length-1)<ts.length:=by omega
  have hln:lnA ts b=ts[min b (ts.length-1)].line:=by
   unfold lnA;by_cases h:b<ts.length
   .have e:min b (ts.length-1)=b:=by omega
    rw[Pq h];simp only[e];rfl
   .have e:min b (ts.length-1)=ts.length-1:=by omega
    rw[Pr (by omega)];simp only[e];exact J9 (by omega)
  rw[hln]at done ⊢;simp -dsimp only[aw,seval,hi,d0,hw1,hmin,Pf hlt,ge,kJ];exact done _ _
theorem jd(ts:List Tok)(a i:Nat)(H:TsV ts)(ha:a≤ts.length)(σ:LLV)(hi:σ[i]? = some (pb ts a)):
 Fun G 36 [.ptr i 0] σ fun o σ'=>o=.panic (dg (eO ts a) (lnA ts a))/\σ'=σ:=by
 refine al Tryz.func36 k36 rfl fun hb hw=>?_;unfold c36;have hM:=gH ts a i σ hi;have hF:=fun e=>m6 ts a a i e H ha σ hi;unfold pb at hi;have done:∀(ρ:ac) rs,fin σ.length rs (fun o σ'=>o=.panic (dg (eO ts a) (lnA ts a))/\σ'=σ) (.panic (dg (eO ts a) (lnA ts a))) ρ σ:=fun ρ rs=>⟨σ.length,Pw _,by rw[Ph];exact hb,rfl,rfl,Ph⟩
 simp -dsimp only[aw,seval];refine aj hM ?_;by_cases hlt:a<ts.length
 .have hE:eO ts a=5:=by unfold eO;rw[if_pos hlt]
  rw[hE]at done ⊢;simp -dsimp only[aw,seval,decide_eq_true hlt,hi];refine aE (hF 5) fun o σ' ⟨e1,e2⟩=>?_;subst e1;subst e2;simp -dsimp only[aw,seval,aS];exact done _ _
 .have hE:eO ts a=6:=by unfold eO;rw[if_neg hlt]
  rw[hE]at done ⊢;simp -dsimp only[aw,seval,decide_eq_false hlt,hi];refine aE (hF 6) fun o σ' ⟨e1,e2⟩=>?_;subst e1;subst e2;simp -dsimp only[aw,seval,aS];exact done _ _
def nxB(k:Int)(m:ByteArray)(ts:List Tok)(a:Nat):Bool:=match ts[a]? with
 | some t=>decide (t.kind=k)&&decide (t.text=m)
 | none=>false
theorem y6(k:Int)(m:ByteArray)(ts:List Tok)(a i:Nat)(H:TsV ts)(σ:LLV)(hi:σ[i]? = some (pb ts a)):
 Fun G 175 [.ptr i 0,.d (aa k),.d (ae m)] σ (aO (ak (nxB k m ts a)) σ):=by
 refine al Tryz.func175 Oq rfl fun hb hw=>?_;unfold c175;have hM:=fun l=>gH ts a i (σ++l) (am hi l);have hM0:=gH ts a i σ hi;unfold pb at hi;simp -dsimp only[aw,seval];refine bp hM0 ?_;by_cases hlt:a<ts.length
 .unfold nxB;rw[Pf hlt];simp only;by_cases h1:ts[a].kind=k
  .simp -dsimp only[aw,seval,hi,decide_eq_true hlt,Pf hlt,ge,kJ,decide_eq_true h1];exact av hb rfl rfl
  .simp -dsimp only[aw,seval,hi,decide_eq_true hlt,Pf hlt,ge,kJ,decide_eq_false h1];exact av hb rfl rfl
 .unfold nxB;rw[Ps (by omega)];simp -dsimp only[aw,seval,hi,decide_eq_false hlt];exact av hb rfl rfl
theorem rf(k:Int)(m:ByteArray)(ts:List Tok)(a i:Nat)(H:TsV ts)(ha:a≤ts.length)(σ:LLV)(hi:σ[i]? = some (pb ts a)):
 Fun G 117 [.ptr i 0,.d (aa k),.d (ae m)] σ fun o σ'=>o=.ret (ak (nxB k m ts a))/\σ'=if nxB k m ts a=true then σ.set i (pb ts (a+1))else σ:=by
 refine al Tryz.func117 Oa rfl fun hb hw=>?_;unfold Lv;have hS:=y6 k m ts a i H σ hi;have hl:=H.ok.len;simp -dsimp only[aw,seval];refine aj hS ?_;cases hs:nxB k m ts a with
 | false=>
  simp -dsimp only[aw,seval,Pb,if_false];exact aF hb rfl rfl Ph ⟨rfl,rfl⟩
 | true=>
  unfold pb at hi;simp -dsimp only[aw,seval,hi,bI (show -9223372036854775808≤((a:Nat):Int)+1 by omega) (show((a:Nat):Int)+1≤9223372036854775807 by omega),if_true];exact bv (τ:=σ.set i (pb ts (a+1))) (ct hb rfl) rfl rfl (by rw[Pj (by rw[Po];exact Pw _)];rfl) ⟨rfl,rfl⟩
theorem EG{k:Int}{m:ByteArray}{ts:List Tok}{a:Nat}(H:TsV ts)(hm:k=4/\bS (tw m)=false\/k=2/\bS (tm m)=false):nxB k m ts a=bo m ts a:=by
 unfold nxB;by_cases hlt:a<ts.length
 .rw[Pf hlt,yc hlt,H.v _ (Pv hlt),Pd];have hv:=H.v _ (Pv hlt);generalize ts[a]=t at *;simp only;by_cases ht:t.text=m
  .subst ht
   have h2:t.kind=2->bS (tw t.text)=true:=fun h=>by
    have e:bS (tw t.text)=(decide ((0:Int)=0)&&inB t.text dU):=rfl;unfold bS at hv;rw[if_neg (by omega),if_neg (by omega),if_pos h]at hv;rw[e];exact Bool.and_eq_true_iff.2 ⟨rfl,(Bool.and_eq_true_iff.1 hv).2⟩
   have h4:t.kind=4->bS (tm t.text)=true:=fun h=>by
    have e:bS (tm t.text)=(decide ((0:Int)=0)&&aV.contains t.text.data.toList):=rfl;unfold bS at hv;rw[if_neg (by omega),if_neg (by omega),if_neg (by omega),if_pos h]at hv;rw[e];exact Bool.and_eq_true_iff.2 ⟨rfl,(Bool.and_eq_true_iff.1 hv).2⟩
   rcases hm with⟨rfl,hm⟩|⟨rfl,hm⟩
   .have:t.kind≠2:=fun h=>by rw[h2 h]at hm;cases hm
    simp[this]
   .have:t.kind≠4:=fun h=>by rw[h4 h]at hm;cases hm
    simp[this]
  .simp[ht]
 .rw[Ps (by omega),gx hlt]
theorem AX(m:ByteArray)(ts:List Tok)(a i:Nat)(H:TsV ts)(ha:a≤ts.length)(hm:bS (tw m)=false)(σ:LLV)(hi:σ[i]? = some (pb ts a)):
 Fun G 121 [.ptr i 0,.d (ae m)] σ fun o σ'=>o=.ret (ak (bo m ts a))/\σ'=if bo m ts a=true then σ.set i (pb ts (a+1))else σ:=by
 refine al Tryz.func121 Na rfl fun hb hw=>?_;unfold KQ;have hS:=rf 4 m ts a i H ha σ hi;rw[EG H (.inl ⟨rfl,hm⟩)]at hS;simp -dsimp only[aw,seval];refine aE hS fun o σ' ⟨e1,e2⟩=>?_;subst e1;rw[aZ];simp -dsimp only[aw,seval];cases hs:bo m ts a with
 | false=>
  rw[hs,if_neg (by decide)]at e2;subst e2;exact aF hb rfl rfl Ph ⟨rfl,by rw[if_neg (by decide)]⟩
 | true=>
  rw[hs,if_pos rfl]at e2;subst e2;exact bv (τ:=σ.set i (pb ts (a+1))) (ct hb rfl) rfl rfl (by rw[Pj (by rw[Po];exact Pw _)]) ⟨rfl,by rw[if_pos rfl]⟩
theorem AR(m:ByteArray)(ts:List Tok)(a i:Nat)(H:TsV ts)(ha:a≤ts.length)(hm:bS (tm m)=false)(σ:LLV)(hi:σ[i]? = some (pb ts a)):
 Fun G 60 [.ptr i 0,.d (ae m)] σ fun o σ'=>o=.ret (ak (bo m ts a))/\σ'=if bo m ts a=true then σ.set i (pb ts (a+1))else σ:=by
 refine al Tryz.func60 k60 rfl fun hb hw=>?_;unfold c60;have hS:=rf 2 m ts a i H ha σ hi;rw[EG H (.inr ⟨rfl,hm⟩)]at hS;simp -dsimp only[aw,seval];refine aE hS fun o σ' ⟨e1,e2⟩=>?_;subst e1;rw[aZ];simp -dsimp only[aw,seval];cases hs:bo m ts a with
 | false=>
  rw[hs,if_neg (by decide)]at e2;subst e2;exact aF hb rfl rfl Ph ⟨rfl,by rw[if_neg (by decide)]⟩
 | true=>
  rw[hs,if_pos rfl]at e2;subst e2;exact bv (τ:=σ.set i (pb ts (a+1))) (ct hb rfl) rfl rfl (by rw[Pj (by rw[Po];exact Pw _)]) ⟨rfl,by rw[if_pos rfl]⟩
theorem zr(l:Bs)(d:UInt8):eG (l++[d])=10*eG l+(d.toNat-48):=by
 unfold eG;rw[List.foldl_append];rfl
theorem x7:∀(l:Bs) (n:Nat),n≤l.foldl (fun n c=>10*n+(c.toNat-48)) n
 | [],n=>Pw _
 | c::l,n=>Nat.le_trans (by omega) (x7 l (10*n+(c.toNat-48)))
theorem Cv:∀(k:Nat) (l:Bs),l.length=k+1->(∀x,x∈l->fC x.toNat=true)->(1<l.length->l.head? ≠ some 48)->Lib.decDigits (eG l)=l:=by
 intro k
 induction k with
 | zero=>
  intro l hl hd _
  match l,hl with
  | [d],_=>
   have:=hd d (by simp);simp only[fC,Pa,decide_eq_true_eq]at this;have e:eG [d]=d.toNat-48:=by simp[eG]
   rw[e,Lib.decDigits,dif_pos (by omega)];congr 1;rw[<-Pz,ut _ (by omega)];omega
 | succ k ih=>
  intro l hl hd hz
  obtain⟨x,d,rfl⟩:∃x d,l=x++[d]:=by
   rcases List.eq_nil_or_concat l with h|⟨x,d,h⟩
   .rw[h]at hl;simp at hl
   .exact⟨x,d,by rw[h];simp⟩
  have hxl:x.length=k+1:=by simpa using hl
  have hdd:=hd d (by simp);simp only[fC,Pa,decide_eq_true_eq]at hdd
  have hx:=ih x hxl (fun y hy=>hd y (by simp[hy])) (fun h1 h2=>hz (by simp;omega) (by
   cases x with
   | nil=>simp at hxl
   | cons a x=>simpa using h2))
  have hpos:1≤eG x:=by
   match x,hxl with
   | a::r,_=>
    have ha:=hd a (by simp);simp only[fC,Pa,decide_eq_true_eq]at ha;have hne:a≠48:=fun e=>hz (by simp) (by simp[e])
    have h49:49≤a.toNat:=by
     apply Classical.byContradiction;intro hh;exact hne (by rw[<-Pz];show a.toNat=48;omega)
    have:=x7 r (10*0+(a.toNat-48));show 1≤(a::r).foldl _ 0;rw[List.foldl_cons];omega
  rw[zr,Lib.decDigits,dif_neg (by omega)];have e1:(10*eG x+(d.toNat-48))/10=eG x:=by omega
  have e2:(10*eG x+(d.toNat-48))%10=d.toNat-48:=by omega
  rw[e1,e2,hx];congr 2;rw[<-Pz,ut _ (by omega)];omega
theorem uy:∀(k u:Nat),u<10^(k+1)->(Lib.decDigits u).length≤k+1
 | 0,u,h=>by rw[Lib.decDigits,dif_pos (by omega)];simp
 | k+1,u,h=>by
  rw[Lib.decDigits];split
  .simp
  .have:=uy k (u/10) (by rw[Nat.pow_succ]at h;omega);simp;omega
theorem Bj{c:UInt8}{r:Bs}{kd n:Int}{len:Nat}(N:Int)(h:cP (c::r)=.tok kd n len):bS (fN N (c::r) kd n len)=true/\len≤16:=by
 have htake:∀(p:UInt8->Bool),(c::r).take ((c::r).takeWhile p).length=(c::r).takeWhile p:=fun p=>(List.prefix_iff_eq_take.1 (List.takeWhile_prefix p)).symm;simp only[cP]at h;split at h
 .rename_i hl;split at h
  .cases h
  .rename_i h16;cases h;refine⟨?_,by omega⟩;unfold fN;rw[htake]
   have hall:∀x,x∈(c::r).takeWhile inn->inn x=true:=fun x hx=>by
    have:=List.all_takeWhile (p:=inn) (l:=c::r);exact List.all_eq_true.1 this x hx
   have hinc:inn c=true:=by unfold inn g9;simp[hl]
   have hne:(c::r).takeWhile inn=c::r.takeWhile inn:=Pp hinc
   have hw:iu (⟨((c::r).takeWhile inn).toArray⟩:ByteArray)=true:=by
    unfold iu;show p7 ((c::r).takeWhile inn)=true;rw[hne]at hall ⊢;simp only[p7,hl,Pd];rw[List.all_eq_true];exact hall
   by_cases hk:inB ⟨((c::r).takeWhile inn).toArray⟩ dU=true
   .rw[if_pos hk];unfold bS;simp[hk]
   .have hsz:(⟨((c::r).takeWhile inn).toArray⟩:ByteArray).size≤16:=by rw[Lib.size_eq];simpa using h16
    rw[if_neg hk];have hk2:inB ⟨((c::r).takeWhile inn).toArray⟩ dU=false:=by simpa using hk
    unfold bS cX;simp only[hw,hk2,hsz,decide_true,Bool.and_self,Bool.not_false];rfl
 .split at h
  .rename_i hd;split at h
   .cases h
   .rename_i h1;split at h
    .cases h
    .rename_i h2;cases h
     have hd2:∀x,x∈(c::r).takeWhile inn->fC x.toNat=true:=fun x hx=>by
      have:((c::r).takeWhile inn).all (fun x=>fC x.toNat)=true:=by
       cases hh:((c::r).takeWhile inn).all fun x=>fC x.toNat with
       | true=>rfl
       | false=>exact absurd (.inl hh) h1
      exact List.all_eq_true.1 this x hx
     have hne:(c::r).takeWhile inn=c::r.takeWhile inn:=Pp (by unfold inn g9;simp[hd])
     have hz:1<((c::r).takeWhile inn).length->((c::r).takeWhile inn).head? ≠ some 48:=fun hh e=>by
      rw[hne]at e;simp at e;exact h1 (.inr ⟨hh,e⟩)
     have hb:=Cv (r.takeWhile inn).length _ (by rw[hne];rfl) hd2 hz
     have hlen:((c::r).takeWhile inn).length≤16:=by
      have:=uy 9 (eG ((c::r).takeWhile inn)) (by omega);rw[hb]at this;omega
     refine⟨?_,hlen⟩;unfold fN;rw[htake];unfold bS;simp[hb];omega
  .split at h
   .cases h
   .rename_i hb;cases h;rcases ot aV 0 (c::r)with h1|⟨m,h1,h2,h3⟩
    .exact absurd h1 hb
    .have h5:=tb m h1;have h6:dW (c::r)=m.length:=h3;refine⟨?_,by rw[h6];omega⟩;unfold fN;rw[h6,<-List.prefix_iff_eq_take.1 (List.isPrefixOf_iff_prefix.1 h2)];unfold bS;simp[h1]
theorem zd:∀(k:Nat) (N:Int) (l:Bs) (ts:List Tok),l.length≤k->dL N l=.ok ts->(∀t,t∈ts->bS t=true/\t.text.size≤16)/\ts.length≤l.length:=by
 intro k
 induction k with
 | zero=>
  intro N l ts h ht;have:l=[]:=Pl (by omega);subst this;rw[bC,dP]at ht;cases ht;simp
 | succ k ih=>
  intro N l ts h ht;rw[bC]at ht;have hs:=(dx l).length_le;cases hsk:bQ l with
  | nil=>rw[hsk]at ht;cases ht;simp
  | cons c r=>
   rw[hsk]at ht hs;simp only at ht;cases hrd:cP (c::r)with
   | err e=>rw[hrd]at ht;cases ht
   | tok kd n len=>
    obtain⟨g1,g2⟩:=gG hrd;obtain⟨v1,v2⟩:=Bj N hrd;rw[hrd]at ht;simp only at ht;have hdl:=Pu (l:=c::r) (i:=len);cases hq:dL N ((c::r).drop len)with
    | err x e=>rw[hq]at ht;cases ht
    | ok us=>
     rw[hq]at ht;cases ht;obtain⟨i1,i2⟩:=ih N _ us (by omega) hq;refine⟨fun t ht=>?_,by simp only[Pm]at *;omega⟩;rcases List.mem_cons.1 ht with rfl|ht
     .refine⟨v1,?_⟩;unfold fN;rw[Lib.size_eq];simp only[List.length_take,List.size_toArray];simp;omega
     .exact i1 t ht
theorem fK{l:Bs}{ts:List Tok}(h:dj l=.ok ts):(∀t,t∈ts->bS t=true/\t.text.size≤16)/\ts.length≤l.length:=zd _ _ l ts (Pw _) h
def z0:Ex:=.mk 0 0 ⟨#[]⟩ []
theorem rO:vex z0=.agg [.d (aa 0),.d (aa 0),.d (ae ⟨#[]⟩),.d (.sl [])]:=by unfold z0;rw[au];rfl
def jm(x:Ex×Int×Int):V:=.tup [vex x.1,.d (aa x.2.1),.d (aa x.2.2)]
theorem ju(l:Bs)(hl:16384<l.length)(σ:LLV):Fun G 58 [.d (ae (bs l))] σ (aO (.tup [.d (.sl []),.d (aa 0),.d (aa 2)]) σ):=by
 refine al Tryz.func58 k58 rfl fun hb hw=>?_;unfold c58;have hbig':(16384:Int)<((l.length:Nat):Int):=by omega
 simp -dsimp only[aw,seval,bW,decide_eq_true hbig'];exact av hb rfl rfl
theorem GD{l:Bs}{ts:List Tok}(h:dj l=.ok ts)(hl:l.length≤16384):TsOK ts:=by
 obtain⟨h1,h2⟩:=fK h;exact⟨fun t ht=>by have:=(h1 t ht).2;omega,by omega⟩
theorem kw{l:Bs}{n e:Int}(h:dj l=.err n e):e≠0:=by
 suffices H:∀(k:Nat) (N:Int) (l:Bs),l.length≤k->dL N l=.err n e->e≠0 from H _ _ l (Pw _) h
 intro k
 induction k with
 | zero=>
  intro N l h ht;have:l=[]:=Pl (by omega);subst this;rw[bC,dP]at ht;cases ht
 | succ k ih=>
  intro N l h ht;rw[bC]at ht;have hs:=(dx l).length_le;cases hsk:bQ l with
  | nil=>rw[hsk]at ht;cases ht
  | cons c r=>
   rw[hsk]at ht hs;simp only at ht;cases hrd:cP (c::r)with
   | err e'=>rw[hrd]at ht;cases ht;exact tJ hrd
   | tok kd n' len=>
    obtain⟨g1,g2⟩:=gG hrd;rw[hrd]at ht;simp only at ht;have hdl:=Pu (l:=c::r) (i:=len);cases hq:dL N ((c::r).drop len)with
    | err x e'=>
     rw[hq]at ht;cases ht;exact ih N _ (by omega) hq
    | ok us=>rw[hq]at ht;cases ht
end Go.Proofs.YtnhphlmblenapaaGreatDoor
