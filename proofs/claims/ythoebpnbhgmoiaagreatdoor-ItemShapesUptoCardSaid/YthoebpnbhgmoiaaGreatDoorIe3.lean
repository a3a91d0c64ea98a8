import Derived.Test.YthoebpnbhgmoiaaGreatDoorIe1
set_option linter.unusedVariables false
set_option linter.unusedSimpArgs false
set_option linter.unusedSectionVars false
open Bool renaming and_eq_true→JH
open Int renaming reduceEq→JI,ofNat_lt→JJ
open List renaming getElem?_append_right→JK,take_left→JL,range→JM,getElem?_append_left→JO,take_length→JP,set_append_left→JQ,mem_singleton→JR,mem_cons_self→JS,map→JT,getElem?_set_self→JU,flatMap_nil→JV,set_set→JW
open Nat renaming reduceEqDiff→JX,reduceLT→JY,reduceLeDiff→JZ,reduceAdd→J0,reduceBEq→J1,reduceSub→J2,le_refl→J3
namespace Go.Proofs.YthoebpnbhgmoiaaGreatDoor
open Go.RowKit
mutual
def jd:List It→Prop
 | []=>True
 | x::r=>qD x∧jd r
def qD:It→Prop
 | .mk k _ _ _ ws l m _ _=>(k=3→ws≠[])∧jd l∧jd m
end
theorem jW(x:It):qD x↔(x.kind=3→x.ws≠[])∧jd x.items∧jd x.els:=by cases x;rw[qD];rfl
theorem zm{l:List It}(h:jd l){x:It}(hx:x∈l):qD x:=by
 induction l with
 | nil=>cases hx
 | cons a r ih=>
  rw[jd]at h;rcases List.mem_cons.1 hx with rfl|hx
  ·exact h.1
  ·exact ih h.2 hx
theorem z6(nm:ByteArray)(b:Ex):∀l:List It,jd l→jd (bU nm b l):=by
 refine cL (fun h=>by rw[bU,jd];trivial) fun x r h1 h2 h3 h=>?_;rw[jd,jW]at h;rw[bU,jd,jW,gg];exact⟨⟨h.1.1,h1 h.1.2.1,h2 h.1.2.2⟩,h3 h.2⟩
theorem tJ:∀(l:List It) (d:Nat),rvl l d=0→jd l:=by
 refine cL (fun d h=>by rw[jd];trivial) fun x r h1 h2 h3 d h=>?_;obtain⟨g1,g2,g3⟩:=jF h (JS ..);rw[jd,jW];refine⟨⟨fun hk he=>?_,h1 _ g2,h2 _ g3⟩,h3 d ?_⟩
 ·have:=gM g1;rw[if_pos hk]at this;unfold fY at this;rw[he]at this;simp at this
 ·rw[rvl]at h;split at h
  ·exact h
  ·rename_i hn;exact absurd h hn
theorem xn(nm:ByteArray)(n:Int):∀l:List It,bu (bU nm (aU n) l)≤bu l:=by
 refine cL (by rw[bU];exact J3 _) fun x r h1 h2 h3=>?_;rw[bU,bu,bu,bI,bI x,gg];show 1+aA (fy nm (aU n) x.ex)+x.ws.length+x.bef.length+x.aft.length+bu (bU nm (aU n) x.items)+bu (bU nm (aU n) x.els)+_≤_;have:=qU nm n x.ex;omega
theorem mY(op:Int)(e:Ex){σ:List (List V)}{q:Option Ex}{cv:V}(hc:CV σ q cv):Fun G 114 [cv,.d (ah op),vex e] σ (aO (vex (ct op q e)) σ):=by
 cases q with
 | none=>have:cv=_:=hc;rw[this];exact ta op e σ
 | some c=>obtain⟨j,rfl,hj⟩:=hc;exact tc op j c e σ hj
theorem Co(k:Int)(e:Ex):vit (itE k e)=.agg [.d (ah k),.d (ah e.op),.d (ah e.num),.d (al e.name),.d (.sl (e.args.map dex)),.d (al ⟨#[]⟩),.d (al ⟨#[]⟩),.d (.sl []),.d (.sl []),.d (.sl []),.d (.sl []),.d (.sl [])]:=by rw[aK];rfl
theorem AD(x:It):vit (itD x)=.agg [.d (ah x.kind),.d (ah 0),.d (ah 0),.d (al ⟨#[]⟩),.d (.sl []),.d (al x.name),.d (al ⟨#[]⟩),.d (.sl (x.ws.map dwt)),.d (.sl []),.d (.sl []),.d (.sl []),.d (.sl [])]:=by rw[aK];rfl
theorem BE(x:It):vit (itS x)=.agg [.d (ah x.kind),.d (ah 0),.d (ah 0),.d (al ⟨#[]⟩),.d (.sl []),.d (al ⟨#[]⟩),.d (al ⟨#[]⟩),.d (.sl []),.d (.sl []),.d (.sl []),.d (.sl (x.bef.map fun s=>[al s])),.d (.sl (x.aft.map fun s=>[al s]))]:=by rw[aK];rfl
def LF(fs:List (ByteArray×Int))(k:Nat):Prop:=∀(l:List It) (d:Nat) (q:Option Ex),bN l≤k→frm l d→d≤5→iE l→jd l→bu l≤1000000→QOk d q→∀(σ:List (List V)) (i m:Nat) (s:List It×Bool) (cv:V),Sok s→FB σ m fs→
 (σ[i]? = some (cN m s)∨s=([],false)∧σ[i]? = some [.mp m,.nil,az false])→CV σ q cv→Fun G 40 [.ptr i 0,.d (de l),cv] σ (fun o σ'=>o=.ret (.tup [])∧σ'=σ.set i (cN m (push s (fm fs k l q))))
theorem mG(i m:Nat)(s:List It×Bool)(hs:Sok s)(x:It)(σ:List (List V))(hx:σ[i]? = some (cN m s)):Fun G 112 [.ptr i 0,vit x] σ (fun o σ'=>o=.ret (.tup [])∧σ'=σ.set i (cN m (push s [x]))):=
 (BB i m s.1 s.2 x hs.1 σ hx).mono fun o σ' ⟨e1,e2⟩=>⟨e1,by
   rw[e2,yb s hs];by_cases h:400≤s.1.length
   ·rw[if_pos h,if_pos h]
   ·rw[if_neg h,if_neg h]⟩
set_option maxHeartbeats 4000000 in
theorem BK(fs:List (ByteArray×Int))(hz:Sz8 fs)(k:Nat)(IH:LF fs k)(x:It)(d:Nat)(q:Option Ex)(hfr:zC x d)(hX:rI x)(hW:qD x)(hbig:eO x≤1000000)(hz1:bN x.items≤k)(hz2:bN x.els≤k)(hq:QOk d q)
 (σ:List (List V))(i m:Nat)(s:List It×Bool)(cv:V)(hs:Sok s)(hf:FB σ m fs)(hx:σ[i]? = some (cN m s))(hc:CV σ q cv):
 Fun G 73 [.ptr i 0,vit x,cv] σ (fun o σ'=>o=.ret (.tup [])∧σ'=σ.set i (cN m (push s (iU fs k x q)))):=by
 have hb0:=bI x;have hcv:=hc.val;obtain⟨hk6,hpl,hd4,hf1,hf2⟩:=(jR x d).1 hfr;obtain⟨hX0,hX1,hX2⟩:=(iN x).1 hX;obtain⟨hW0,hW1,hW2⟩:=(jW x).1 hW;refine ao Tryz.func73 k73 (by simp only[aK];rcases hcv with rfl|⟨j,rfl,_⟩<;>rfl) fun hb hw=>?_;have hlm:cv.lend=cv:=by rcases hcv with rfl|⟨j,rfl,_⟩<;>rfl
 have hcm:cv.copy=cv:=by rcases hcv with rfl|⟨j,rfl,_⟩<;>rfl
 have hun:V.under σ.length cv=true:=by
  rcases hcv with rfl|⟨j,rfl,h⟩
  ·rfl
  ·simp[V.under,h]
 unfold V.lend at hlm;unfold V.copy at hcm;have hm:=hf.lt;have hi:i<σ.length:=(List.getElem?_eq_some_iff.1 hx).1;have hbx:∀L,(σ++L)[i]? = some (cN m s):=fun L=>by rw[JO hi];exact hx
 have hbb:∀s,ay (σ.set i (cN m s)).length (σ.set i (cN m s))=true:=fun s=>by
  rw[List.length_set];exact su hb (by simp[V.unders,V.under,hm])
 have hsa:∀L cs,(σ++L).set i cs=σ.set i cs++L:=fun L cs=>JQ _ _ hi
 have fin:∀(X:List It) (L:List (List V)) ρ,iU fs k x q=X→fin σ.length G2 (fun o σ'=>o=.ret (.tup [])∧σ'=σ.set i (cN m (push s (iU fs k x q)))) .ret ρ (σ.set i (cN m (push s X))++L):=fun X L ρ e=>
  fr (n0:=σ.length) (Q:=fun o σ'=>o=.ret (.tup [])∧σ'=σ.set i (cN m (push s (iU fs k x q)))) (v:=.tup []) (k:=(σ.set i (cN m (push s X))).length) (τ:=σ.set i (cN m (push s X))) (by simp) JL (hbb _) rfl rfl ⟨rfl,by rw[e]⟩
 delta c73 oM oV kI kS kT kF;by_cases k12:x.kind=1∨x.kind=2
 ·have e1:iU fs k x q=[itE x.kind (ct 21 q x.ex)]:=by unfold iU;rw[if_pos k12]
  obtain⟨u1,u2⟩:=m6 hq 21 (by decide) hX0.nm (by have:=hX0.sz;omega);have hu:=fun L=>mY 21 x.ex (hc.app L);have hcp:=fun σ=>mH (ct 21 q x.ex) u1 (by omega) σ;have ha:=fun L=>mG i m s hs (itE x.kind (ct 21 q x.ex)) (σ++L) (hbx L);simp only[Co,hsa]at ha;generalize ct 21 q x.ex=u at hu hcp ha e1;simp only[am]at hu hcp;rcases k12 with k|k
  all_goals
   rw[k]at ha;simp -dsimp -implicitDefEqProofs only[aw,aj,V.copy,V.lend,V.lend1,V.cells,V.boxable,JZ,eq_self,reduceIte,reduceCtorEq,J1,JY,JX,J0,J2,aK,k,JI,decide_true,decide_false,hcm,hlm];refine aZ (hu _) ?_;simp -dsimp -implicitDefEqProofs only[aw,V.lend,V.lend1,eq_self,reduceIte,reduceCtorEq,JY,JX,J2];refine aZ (hcp _) ?_;simp -dsimp -implicitDefEqProofs only[aw,V.copy,V.lend,V.lend1,V.cells,over,bc,JZ,eq_self,reduceIte,reduceCtorEq,JY,JX,J0,J2];refine gH (ha _) ?_ ?_
   ·simp -dsimp -implicitDefEqProofs only[aw]
   simp -dsimp -implicitDefEqProofs only[aw,reduceIte,reduceCtorEq,JY,JX];exact fin _ _ _ (by rw[e1,k])
 have n1:¬x.kind=1:=fun h=>k12 (.inl h);have n2:¬x.kind=2:=fun h=>k12 (.inr h);by_cases k4:x.kind=4
 ·have e1:iU fs k x q=fm fs k x.items (some (ct 19 q x.ex))++fm fs k x.els (some (ct 19 q (nY x.ex))):=by unfold iU;rw[if_neg k12,if_pos k4]
  have hq1:=l9 hq hX0.nm (by have:=hX0.sz;omega);have hq2:=l9 hq (pB hX0).1 (pB hX0).2;have hu:=fun L=>mY 19 x.ex (hc.app L);have hu2:=fun cs L=>mY 19 (nY x.ex) (hc.upd (cs:=cs) hx L);have vn:vex (nY x.ex)=.agg [.d (ah 4),.d (ah 0),.d (al ⟨#[]⟩),.d (.sl [[ah x.ex.op,ah x.ex.num,al x.ex.name,.sl (x.ex.args.map dex)]])]:=by rw[←aT x.ex,am];rfl
  rw[vn]at hu2;generalize ct 19 q x.ex=c1 at hu hq1 e1;generalize ct 19 q (nY x.ex)=c2 at hu2 hq2 e1;have hl1:=fun L cv' (h:CV (σ++L) (some c1) cv')=>IH x.items (d+1) (some c1) hz1 hf1 (by omega) hX1 hW1 (by omega) hq1 (σ++L) i m s cv' hs (hf.app L) (.inl (hbx L)) h;have hs1:=pI s hs (fm fs k x.items (some c1));generalize fm fs k x.items (some c1)=A at e1 hl1 hs1;have hx1:∀L,(σ.set i (cN m (push s A))++L)[i]? = some (cN m (push s A)):=fun L=>by rw[JO (by simpa using hi),JU hi]
  have hl2:=fun L cv' (h:CV (σ.set i (cN m (push s A))++L) (some c2) cv')=>IH x.els (d+1) (some c2) hz2 hf2 (by omega) hX2 hW2 (by omega) hq2 (σ.set i (cN m (push s A))++L) i m (push s A) cv' hs1 (hf.upd hx L) (.inl (hx1 L)) h;generalize fm fs k x.els (some c2)=B at e1 hl2;have hsa2:∀L cs,(σ.set i (cN m (push s A))++L).set i cs=σ.set i cs++L:=fun L cs=>by rw[JQ _ _ (by simpa using hi),JW]
  simp only[hsa,hsa2,iV]at hl1 hl2;simp only[am]at hu hu2;simp -dsimp -implicitDefEqProofs only[aw,aj,V.copy,V.lend,V.lend1,V.cells,V.boxable,JZ,eq_self,reduceIte,reduceCtorEq,J1,JY,JX,J0,aK,k4,JI,decide_true,decide_false,hcm,hlm];refine ae (hu _) ?_;simp -dsimp -implicitDefEqProofs only[aw,V.copy,V.lend,V.cells,V.boxable,over,JZ,eq_self,reduceIte,reduceCtorEq,J1,JY,JX,J0];refine ck (hl1 _ _ ⟨σ.length+1,rfl,by unfold QB;simp only[kY];rfl⟩) ?_;rintro o σ' ⟨rfl,rfl⟩;rw[ce];have h0:∀(cs c:List V) (L:List (List V)),(σ.set i cs++c::L)[σ.length]? = some c:=fun cs c L=>by rw[JK (by simp)];simp
  simp -dsimp -implicitDefEqProofs only[aw,V.copy,V.lend,V.lend1,V.cells,over,bc,aC,aF,V.plain,JZ,eq_self,reduceIte,reduceCtorEq,J1,JY,JX,J0,hcm,hlm,h0];refine ae (hu2 _ _) ?_;simp -dsimp -implicitDefEqProofs only[aw,V.copy,V.lend,V.cells,V.boxable,over,JZ,eq_self,reduceIte,reduceCtorEq,J1,JY,JX,J0,h0];refine ck (hl2 _ _ ⟨_,rfl,by unfold QB;simp only[kY];rfl⟩) ?_;rintro o σ' ⟨rfl,rfl⟩;rw[ce];simp -dsimp -implicitDefEqProofs only[aw,reduceIte,reduceCtorEq,JY,JX];exact fin _ _ _ e1
 have hf5:x.kind=5→frm x.items (d+1):=fun _=>hf1;by_cases k5:x.kind=5
 ·have e1:iU fs k x q=(JM (bZ fs x.name)).flatMap fun(j:Nat)=>fm fs k (bU x.idx (aU (j:Int)) x.items) q:=by unfold iU;rw[if_neg k12,if_neg k4,if_pos k5]
  have hN:∃n:Nat,n≤8∧lf false (V.d (D.lit (Value.int IntKind.i64 0))) ((fsz fs x.name).map fun n=>V.d (ah n))=.d (ah n)∧bZ fs x.name=n:=by
   unfold bZ;cases hfz:fsz fs x.name with
   | none=>exact⟨0,by omega,rfl,rfl⟩
   | some n=>
    obtain⟨h1,h2⟩:=hz _ _ hfz;exact⟨n.toNat,by omega,by show V.d (ah n)=V.d (ah (n.toNat:Nat));rw[show((n.toNat:Nat):Int)=n by omega],rfl⟩
  obtain⟨n,hn8,hmr,hfn⟩:=hN;rw[hfn]at e1;simp -dsimp -implicitDefEqProofs only[aw,aj,V.copy,V.cells,V.boxable,JZ,eq_self,reduceIte,reduceCtorEq,J1,JY,JX,J0,aK,k5,JI,decide_true,decide_false,hbx,hf.at2,bD];rw[hmr];have h0:∀(cs c:List V) (L:List (List V)),(σ.set i cs++c::L)[σ.length]? = some c:=fun cs c L=>by rw[JK (by simp)];simp
  refine bC (R:=fun(j:Nat) ρ σ'=>ρ=[(0,.ptr i 0),(2,cv),(4,.ptr σ.length 0),(52,.d (ah n)),(53,aL .i64 j)]∧σ'=σ.set i (cN m (push s ((JM j).flatMap fun(j:Nat)=>fm fs k (bU x.idx (aU (j:Int)) x.items) q))) ++
   [[V.d (ah 5),V.d (ah x.ex.op),V.d (ah x.ex.num),V.d (al x.ex.name),V.d (D.sl (JT dex x.ex.args)),V.d (al x.name),V.d (al x.idx),V.d (D.sl (JT dwt x.ws)),V.d (D.sl (JT dit x.items)),V.d (D.sl (JT dit x.els)),V.d (D.sl (JT (fun s=>[al s]) x.bef)),V.d (D.sl (JT (fun s=>[al s]) x.aft))]]) n ⟨rfl,by rw[show JM 0=[]from rfl,JV,qP s hs,rK hx]⟩ ?_ _
  rintro j ρ' σ' hj ⟨rfl,rfl⟩
  have hr:push s ((JM (j+1)).flatMap fun(j:Nat)=>fm fs k (bU x.idx (aU (j:Int)) x.items) q)=push (push s ((JM j).flatMap fun(j:Nat)=>fm fs k (bU x.idx (aU (j:Int)) x.items) q)) (fm fs k (bU x.idx (aU (j:Int)) x.items) q):=by
   rw[iV,List.range_succ,List.flatMap_append,List.flatMap_cons,JV,List.append_nil]
  have hsj:=pI s hs ((JM j).flatMap fun(j:Nat)=>fm fs k (bU x.idx (aU (j:Int)) x.items) q);by_cases hlt:j<n
  ·generalize push s ((JM j).flatMap fun(j:Nat)=>fm fs k (bU x.idx (aU (j:Int)) x.items) q)=sj at hr hsj ⊢;have hxj:∀L,(σ.set i (cN m sj)++L)[i]? = some (cN m sj):=fun L=>by rw[JO (by simpa using hi),JU hi]
   have hsub:=fun σ=>lZ x.idx (aU (j:Int)) (by unfold aU;simp[aA,aG]) x.items (by omega) σ;have vc:vex (aU (j:Int))=.agg [.d (ah 1),.d (ah j),.d (al ⟨#[]⟩),.d (.sl [])]:=by rw[am];rfl
   rw[vc]at hsub;have hib:=xn x.idx (j:Int) x.items;have hl:=fun L=>IH (bU x.idx (aU (j:Int)) x.items) (d+1) q (by rw[tS];exact hz1) (uk _ _ _ _ hf1) (by omega) (re _ _ _ hX1) (z6 _ _ _ hW1) (by omega) hq.mono (σ.set i (cN m sj)++L) i m sj cv hsj (hf.upd hx L) (.inl (hxj L)) (hc.upd hx L);have hsa2:∀L cs,(σ.set i (cN m sj)++L).set i cs=σ.set i cs++L:=fun L cs=>by rw[JQ _ _ (by simpa using hi),JW]
   simp only[hsa2]at hl;have wj:=aH hlt (show n≤9223372036854775807 by omega);simp -dsimp -implicitDefEqProofs only[aw,V.copy,V.lend,V.lend1,V.cells,over,bc,JZ,eq_self,reduceIte,reduceCtorEq,J1,JY,JX,J0,JJ,hlt,decide_true,h0];refine ae (hsub _) ?_;simp -dsimp -implicitDefEqProofs only[aw,V.copy,V.lend,eq_self,reduceIte,reduceCtorEq,JY,JX,hcm,hlm];refine ck (hl _) ?_;rintro o σ' ⟨rfl,rfl⟩;rw[ce,←hr];simp -dsimp -implicitDefEqProofs only[aw,V.copy,eq_self,reduceIte,reduceCtorEq,J1,JY,JX,wj];exact⟨hlt,Nxt.same (by simp) (an (hbb _) rfl) (by simp[aq,V.under];exact⟨by omega,V.under_mono (by omega) _ hun⟩) ⟨rfl,rfl⟩⟩
  ·simp -dsimp -implicitDefEqProofs only[aw,V.copy,eq_self,reduceIte,reduceCtorEq,J1,JY,JX,JJ,hlt,decide_false];have:j=n:=by omega
   subst this;exact fin _ _ _ e1
 have n5:=k5;by_cases k3:x.kind=3
 ·have e1:iU fs k x q=[itD x]:=by unfold iU;rw[if_neg k12,if_neg k4,if_neg k5,if_pos k3]
  have ha:=fun L=>mG i m s hs (itD x) (σ++L) (hbx L);simp only[AD,hsa,k3]at ha;simp -dsimp -implicitDefEqProofs only[aw,aj,V.copy,V.lend,V.cells,V.boxable,JZ,eq_self,reduceIte,reduceCtorEq,J1,JY,JX,J0,J2,aK,k3,JI,decide_true,decide_false];refine aZ (vR x.ws (hW0 k3) (by omega) _) ?_;simp -dsimp -implicitDefEqProofs only[aw,V.copy,V.lend,V.lend1,V.cells,over,bc,JZ,eq_self,reduceIte,reduceCtorEq,JY,JX,J0,J2];refine gH (ha _) ?_ ?_
  ·simp -dsimp -implicitDefEqProofs only[aw]
  simp -dsimp -implicitDefEqProofs only[aw,reduceIte,reduceCtorEq,JY,JX];exact fin _ _ _ e1
 have k6:x.kind=6:=by omega
 have e1:iU fs k x q=[itS x]:=by unfold iU;rw[if_neg k12,if_neg k4,if_neg k5,if_neg k3]
 have ha:=fun L=>mG i m s hs (itS x) (σ++L) (hbx L);simp only[BE,hsa,k6]at ha;simp -dsimp -implicitDefEqProofs only[aw,aj,V.copy,V.lend,V.cells,V.boxable,JZ,eq_self,reduceIte,reduceCtorEq,J1,JY,JX,J0,J2,aK,k6,JI,decide_true,decide_false];refine gH (nM x.bef (by omega) _) ?_ ?_
 ·simp -dsimp -implicitDefEqProofs only[aw,V.copy,JZ,eq_self,reduceIte,reduceCtorEq,JY,JX,J0]
 simp -dsimp -implicitDefEqProofs only[aw,V.copy,V.lend,JZ,eq_self,reduceIte,reduceCtorEq,JY,JX,J0,J2];refine gH (nM x.aft (by omega) _) ?_ ?_
 ·simp -dsimp -implicitDefEqProofs only[aw,V.copy,JZ,eq_self,reduceIte,reduceCtorEq,JY,JX,J0]
 simp -dsimp -implicitDefEqProofs only[aw,V.copy,V.lend,V.lend1,V.cells,over,bc,JZ,eq_self,reduceIte,reduceCtorEq,JY,JX,J0,aQ];refine gH (ha _) ?_ ?_
 ·simp -dsimp -implicitDefEqProofs only[aw,JZ,eq_self,reduceIte,reduceCtorEq,JX,J0]
 simp -dsimp -implicitDefEqProofs only[aw,reduceIte,reduceCtorEq,JY,JX,J0];exact fin _ _ _ e1
theorem Nxt.drop5{n0:Nat}{R:ai→List (List V)→Prop}{ρ:ai}{σ:List (List V)}{a b c d e:List V}(hn:n0≤σ.length)(hb:ay (σ++[a,b,c,d]).length (σ++[a,b,c,d])=true)(hs:aq (σ++[a,b,c,d]).length ρ=true)(hR:R ρ (σ++[a,b,c,d])):Nxt n0 R ρ (σ++[a,b,c,d,e]) .mk:=by
 have h:σ++[a,b,c,d,e]=(σ++[a,b,c,d])++[e]:=by simp
 rw[h];exact Nxt.drop (by rw[List.length_append];omega) hb hs hR
theorem zg(fs:List (ByteArray×Int))(hz:Sz8 fs):∀k,LF fs k:=by
 intro k
 induction k with
 | zero=>
  intro l d q hk hfr hd hX hW hbig hq σ i m s cv hs hf hx hc
  have hl:l=[]:=by
   cases l with
   | nil=>rfl
   | cons a r=>rw[bN]at hk;have:=me a;omega
  subst hl;exact o7 [] (by simp) (fun _=>[]) q cv i m fs s σ hs hf hx hc (fun x hx=>by cases hx)
 | succ k ih=>
  intro l d q hk hfr hd hX hW hbig hq σ i m s cv hs hf hx hc;have hln:=eV l;rw[uv];refine o7 l (by omega) (fun x=>iU fs k x q) q cv i m fs s σ hs hf hx hc fun x hxl τ s hs hf hx hc=>?_;have h1:=mL hxl;have h2:=hU x;have h3:=cm hxl;exact BK fs hz k ih x d q (uw hfr hxl) (rp hX hxl) (zm hW hxl) (by omega) (by omega) (by omega) hq τ i m s cv hs hf hx hc
theorem wv(e:Ex):(∀n,n∈bj e→n.op=2→n.name≠⟨#[]⟩)→okN e=true:=by
 induction e using Ex.ind with
 | h o m s l ih=>
 intro h;rw[okN,JH,iH];rw[bj]at h;refine⟨?_,fun a ha=>ih a ha fun n hn=>h n (List.mem_cons_of_mem _ (dV.2 ⟨a,ha,hn⟩))⟩;have:=h _ (JS ..);simp only[Ex.op,Ex.name]at this;by_cases ho:o=2
 ·simp[ho,this ho]
 ·simp[ho]
theorem uG{e:Ex}(h:aX e=0):EOk e:=by
 refine⟨wv e fun n hn ho he=>?_,(gU h).1⟩;have:=jY e (cw h) n hn ho;rw[he]at this
 revert this
 decide
theorem sQ:∀(l:List It) (d:Nat),rvl l d=0→iE l:=by
 refine cL (fun d h=>by rw[iE];trivial) fun x r h1 h2 h3 d h=>?_;obtain⟨g1,g2,g3⟩:=jF h (JS ..);rw[iE,iN];refine⟨⟨?_,h1 _ g2,h2 _ g3⟩,h3 d ?_⟩
 ·by_cases hk:x.kind=1∨x.kind=2∨x.kind=4
  ·exact uG (sY g1 hk)
  ·obtain⟨-,hp,-⟩:=gK g1;unfold bE at hp;simp only[JH,Bool.or_eq_true,decide_eq_true_eq]at hp;have hbk:=hp.1.1.1.1.1.1.resolve_left hk;cases x with
   | mk k e s ix ws l m bf af=>
   cases e with
   | mk o n s2 a=>
   unfold dk at hbk;simp only[It.ex,Ex.op,Ex.num,Ex.name,Ex.args,JH,List.isEmpty_iff]at hbk;obtain⟨⟨⟨h1,h2⟩,h3⟩,h4⟩:=hbk;have h1:=of_decide_eq_true h1;subst h1;subst h4;exact⟨by simp[It.ex,okN,ny],by simp[It.ex,aA,aG]⟩
 ·rw[rvl]at h;split at h
  ·exact h
  ·rename_i hn;exact absurd h hn
theorem AJ(fs:List (ByteArray×Int)):∀(k:Nat) (l:List It) (d:Nat) (q:Option Ex),frm l d→d≤5→iE l→QOk d q→∀y,y∈fm fs k l q→aA y.ex≤3000:=by
 intro k
 induction k with
 | zero=>intro l d q _ _ _ _ y hy;cases hy
 | succ k ih=>
  intro l d q hf hd hX hq y hy;rw[uv]at hy;obtain⟨x,hx,hy⟩:=List.mem_flatMap.1 hy;obtain⟨-,-,hd4,hf1,hf2⟩:=(jR x d).1 (uw hf hx);obtain⟨hX0,hX1,hX2⟩:=(iN x).1 (rp hX hx);unfold iU at hy;split at hy
  ·simp only[JR]at hy;subst hy;have:=(m6 hq 21 (by decide) hX0.nm (by have:=hX0.sz;omega)).2;show aA (ct 21 q x.ex)≤3000;omega
  ·split at hy
   ·rcases List.mem_append.1 hy with hy|hy
    ·exact ih _ _ _ hf1 (by omega) hX1 (l9 hq hX0.nm (by have:=hX0.sz;omega)) y hy
    ·exact ih _ _ _ hf2 (by omega) hX2 (l9 hq (pB hX0).1 (pB hX0).2) y hy
   ·split at hy
    ·obtain⟨j,-,hy⟩:=List.mem_flatMap.1 hy;exact ih _ _ _ (uk _ _ _ _ hf1) (by omega) (re _ _ _ hX1) hq.mono y hy
    ·split at hy
     ·simp only[JR]at hy;subst hy;show aA cI≤3000;unfold cI;simp[aA,aG]
     ·simp only[JR]at hy;subst hy;show aA cI≤3000;unfold cI;simp[aA,aG]
def nJ(x:It):Bool:=!(decide (x.kind=1)||decide (x.kind=2))||decide (aX x.ex=0)
abbrev em(c:Cl):List V:=[.d (al c.name),.d (al c.par),.d (.sl (c.fields.map dfd)),.d c.blocks]
def mh(spl:ByteArray→Option (ByteArray×Int))(fs:List (ByteArray×Int))(l:List It):List It×Int:=
 if gP spl fs l≠0 then([],gP spl fs l)else if 400<(fm fs (bN l) l none).length then([],2)else if(fm fs (bN l) l none).all nJ=true then(fm fs (bN l) l none,0)else([],2)
set_option maxHeartbeats 4000000 in
theorem rB(l:List It)(c:Cl)(hl:bu l≤900000)(hs:SmallF (au c))(hc:c.fields.length≤1000000)(σ:List (List V)):Fun G 14 [.d (de l),vcl c] σ (aO (.tup [.d (de (mh aM (au c) l).1),.d (ah (mh aM (au c) l).2)]) σ):=by
 have hz:=tY hs;refine ao Tryz.func14 k14 rfl fun hb hw=>?_;delta c14 oM oV kI kS kT kF;unfold mh;have hch:=fun σ=>jr l c hl hs hc σ;simp -dsimp -implicitDefEqProofs only[aw,aj,V.copy,V.lend,V.lend1,V.cells,V.boxable,JZ,eq_self,ne_eq,reduceIte,reduceCtorEq,J1,JY,JX,J0];refine ae (hch _) ?_;by_cases h0:gP aM (au c) l=0
 case neg=>
  rw[if_pos h0];simp -dsimp -implicitDefEqProofs only[aw,V.copy,eq_self,reduceIte,reduceCtorEq,J1,JY,JX,decide_eq_false h0];first|exact ac hb rfl rfl JP ⟨rfl,rfl⟩|exact ac hb rfl rfl JL ⟨rfl,rfl⟩
 rw[if_neg (by simp[h0])]
 have hv:rvl l 0=0:=by
  unfold gP at h0;by_cases hv:fp l=0
  ·unfold fp at hv;split at hv
   ·cases hv
   ·exact hv
  ·rw[if_pos hv]at h0;exact absurd h0 hv
 have hfr:=vt l 0 hv;have hX:=sQ l 0 hv;have hsz:=AJ (au c) (bN l) l 0 none hfr (by omega) hX (.none 0);simp -dsimp -implicitDefEqProofs only[aw,V.copy,V.lend,V.lend1,JZ,eq_self,reduceIte,reduceCtorEq,J1,JY,JX,J0,h0,decide_true];refine ck (tU c hs hc _) ?_;rintro o σ' ⟨rfl,rfl⟩;rw[ce];simp -dsimp -implicitDefEqProofs only[aw,V.copy,V.lend,V.cells,V.boxable,over,bc,JZ,eq_self,reduceIte,reduceCtorEq,J1,JY,JX,J0]
 have hFB:FB (σ++[em c,em c,[V.mapc true (kvF (au c))],[V.mp (σ.length+1+1),V.nil,V.d (D.lit (Value.bool false))]]) (σ.length+1+1) (au c):=by
  unfold FB;rw[JK (by omega),show σ.length+1+1-σ.length=2 by omega];rfl
 have hL:=zg (au c) hz (bN l) l 0 none (J3 _) hfr (by omega) hX (tJ l 0 hv) (by omega) (.none 0) (σ++[em c,em c,[V.mapc true (kvF (au c))],[V.mp (σ.length+1+1),V.nil,V.d (D.lit (Value.bool false))]]) (σ.length+3) (σ.length+1+1) ([],false) (.d (.lit (.pointer none)))
  ⟨by simp,by simp⟩ hFB (.inr ⟨rfl,by rw[JK (by omega),show σ.length+3-σ.length=3 by omega];rfl⟩) rfl
 rw[zh]at hL;generalize fm (au c) (bN l) l none=X at hL hsz ⊢;refine ck hL ?_;rintro o σ' ⟨rfl,rfl⟩
 have hset:∀e:List V,(σ++[em c,em c,[V.mapc true (kvF (au c))],[V.mp (σ.length+1+1),V.nil,V.d (D.lit (Value.bool false))]]).set (σ.length+3) e=σ++[em c,em c,[V.mapc true (kvF (au c))],e]:=fun e=>by
  rw[List.set_append_right _ _ (by omega),show σ.length+3-σ.length=3 by omega];rfl
 rw[ce,hset];by_cases h4:400<X.length
 ·rw[if_pos h4];simp -dsimp -implicitDefEqProofs only[aw,V.copy,JZ,eq_self,reduceIte,reduceCtorEq,J1,JY,JX,J0,decide_eq_true h4];first|exact ac hb rfl rfl JP ⟨rfl,rfl⟩|exact ac hb rfl rfl JL ⟨rfl,rfl⟩
 rw[if_neg h4,List.take_of_length_le (by omega)];simp -dsimp -implicitDefEqProofs only[aw,V.copy,JZ,eq_self,reduceIte,reduceCtorEq,J1,JY,JX,J0,decide_eq_false h4];refine bC (R:=fun(j:Nat) ρ σ'=>ρ=[(7,.ptr (σ.length+3) 0),(30,.d (de X)),(31,aL .i64 X.length),(32,aL .i64 j)]∧σ'=σ++[em c,em c,[V.mapc true (kvF (au c))],cN (σ.length+1+1) (X,false)]∧X.all nJ=(X.drop j).all nJ) X.length ⟨rfl,rfl,rfl⟩ ?_ _
 have hbB:ay (σ++[em c,em c,[V.mapc true (kvF (au c))],cN (σ.length+1+1) (X,false)]).length (σ++[em c,em c,[V.mapc true (kvF (au c))],cN (σ.length+1+1) (X,false)])=true:=by
  have:∀k,V.underkv k (kvF (au c))=true:=fun k=>kM _ k;exact an hb (by simp[V.unders,V.under,this])
 rintro j ρ' σ' hj ⟨rfl,rfl,hr⟩;by_cases hlt:j<X.length
 ·rw[List.drop_eq_getElem_cons hlt,List.all_cons]at hr;have hxx:X[j]? = some X[j]:=List.getElem?_eq_getElem hlt;have hsx:=hsz _ (List.getElem_mem hlt);generalize X[j]=x at hxx hsx hr;have wj:=aH hlt (show X.length≤9223372036854775807 by omega);have hvx:=fun σ=>gD x.ex (by omega) (by have:=dO x.ex;omega) σ;simp only[am]at hvx;have good:nJ x=true→X.all nJ=(X.drop (j+1)).all nJ:=fun h=>by rw[hr,h,Bool.true_and]
  by_cases k12:x.kind=1∨x.kind=2
  ·by_cases hv0:aX x.ex=0
   ·have hg:=good (by unfold nJ;simp[hv0]);rcases k12 with k|k
    all_goals
     simp -dsimp -implicitDefEqProofs only[aw,V.copy,V.lend,V.lend1,V.cells,V.boxable,over,JZ,cond_false,eq_self,reduceIte,J1,JY,JX,J0,JJ,hlt,decide_true,hxx,cr x,k,JI,decide_false];refine ae (hvx _) ?_;simp -dsimp -implicitDefEqProofs only[aw,V.copy,cond_true,eq_self,reduceIte,J1,JY,JX,hv0,decide_true,wj];exact⟨hlt,Nxt.drop5 (J3 _) hbB (by simp[aq,V.under]) ⟨rfl,rfl,hg⟩⟩
   ·have hf:X.all nJ=false:=by rw[hr,show nJ x=false by unfold nJ;rcases k12 with k|k<;>simp[k,hv0],Bool.false_and]
    rw[hf,if_neg Bool.false_ne_true];rcases k12 with k|k
    all_goals
     simp -dsimp -implicitDefEqProofs only[aw,V.copy,V.lend,V.lend1,V.cells,V.boxable,over,JZ,cond_false,eq_self,reduceIte,J1,JY,JX,J0,JJ,hlt,decide_true,hxx,cr x,k,JI,decide_false];refine ae (hvx _) ?_;simp -dsimp -implicitDefEqProofs only[aw,V.copy,cond_true,eq_self,reduceIte,J1,JY,JX,decide_eq_false hv0];first|exact ac hb rfl rfl JP ⟨rfl,rfl⟩|exact ac hb rfl rfl JL ⟨rfl,rfl⟩
  ·have n1:¬x.kind=1:=fun h=>k12 (.inl h);have n2:¬x.kind=2:=fun h=>k12 (.inr h);have hg:=good (by unfold nJ;simp[n1,n2]);simp -dsimp -implicitDefEqProofs only[aw,V.copy,V.cells,V.boxable,over,JZ,cond_false,eq_self,reduceIte,J1,JY,JX,J0,JJ,hlt,decide_true,hxx,cr x,decide_eq_false n1,decide_eq_false n2,wj];exact Nxt.drop5 (J3 _) hbB (by simp[aq,V.under]) ⟨rfl,rfl,hg⟩
 ·rw[List.drop_eq_nil_of_le (by omega)]at hr;rw[hr,List.all_nil,if_pos rfl];simp -dsimp -implicitDefEqProofs only[aw,V.copy,JZ,eq_self,reduceIte,J1,JY,JX,J0,JJ,hlt,decide_false];first|exact ac hb rfl rfl JP ⟨rfl,rfl⟩|exact ac hb rfl rfl JL ⟨rfl,rfl⟩
end Go.Proofs.YthoebpnbhgmoiaaGreatDoor
