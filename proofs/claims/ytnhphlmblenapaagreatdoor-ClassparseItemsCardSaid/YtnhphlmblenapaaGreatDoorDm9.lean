import Derived.Test.YtnhphlmblenapaaGreatDoorDm5
set_option linter.unusedVariables false
set_option linter.unusedSimpArgs false
set_option linter.unusedSectionVars false
set_option maxHeartbeats 4000000
open List renaming length_drop->Sq,map_append->Ss,suffix_refl->Su,drop_eq_nil_of_le->Sv,append_nil->Sw,map_cons->Sx,map_nil->Sy
namespace Go.Proofs.YtnhphlmblenapaaGreatDoor
open Go.RowKit
section
variable {ts : List Tok} {a i : Nat} (H : TsV ts) (ha : a ≤ ts.length) (σ : LLV) (hi : σ[i]? = some (pb ts a))
include H ha hi
theorem qK(k:Int):Fun G 61 [.ptr i 0,.d (ab k)] σ (CQ vit ts i σ (eP (zLs ts) k (ts.drop a))):=by
 refine ae Tryz.func61 k61 rfl fun hb hw=>?_;have S:=St.init hi hb;obtain⟨x,hx⟩:∃x,x=eP (zLs ts) k (ts.drop a):=⟨_,rfl⟩
 rw[<-hx];unfold eP at hx;rw[v8]at hx;unfold c61;simp -dsimp only[aw,seval];refine aX S ha (FP _) hx (rV H ha _ (ah hi _)) (fun e a1 hx h1 h2 h3 hy σ1 S1 hl1=>?_) (fun e n b hx σ1 S1 hl1=>?_)
 case refine_2=>
  rw[<-hl1];simp -dsimp only[aw,seval];exact aQ S1 hx
 rw[<-hl1];rw[bJ]at hx;simp -dsimp only[aw,seval,ao];refine aX S1 h2 (cd _) hx (b9 H (aa 59) h2 (by decide +kernel) _ (ah S1.at_ _)) (fun _ a2 hx h1 h2 h3 hy σ2 S2 hl2=>?_) (fun e n b hx σ1 S1 hl1=>?_)
 case refine_2=>
  rw[<-hl1];simp -dsimp only[aw,seval];exact aQ S1 hx
 rw[<-hl2];simp -dsimp only[aw,seval];exact cC S2 h2 hx (by rw[aJ];rfl) (by rw[aJ];simp[Mt,aC,aO,eE,iO,ez,ga,iL,dC,fZ,fM,f7,aw,seval])
theorem yE:Fun G 65 [.ptr i 0] σ (CQ vit ts i σ (iK (zLs ts) (ts.drop a))):=by
 refine ae Tryz.func65 k65 rfl fun hb hw=>?_;have S:=St.init hi hb;obtain⟨x,hx⟩:∃x,x=iK (zLs ts) (ts.drop a):=⟨_,rfl⟩
 rw[<-hx];unfold iK at hx;unfold c65;simp -dsimp only[aw,seval];refine aX S ha (ju _ _) hx (mV H ha _ (ah hi _)) (fun l a1 hx h1 h2 h3 hy σ1 S1 hl1=>?_) (fun e n b hx σ1 S1 hl1=>?_)
 case refine_2=>
  rw[<-hl1];simp -dsimp only[aw,seval];exact aQ S1 hx
 rw[<-hl1];rw[bJ]at hx;simp -dsimp only[aw,seval];refine aX S1 h2 (cd _) hx (oe H ⟨#[98,101,102,111,114,101]⟩ h2 (by decide +kernel) _ (ah S1.at_ _)) (fun _ a2 hx h1 h2 h3 hy σ2 S2 hl2=>?_) (fun e n b hx σ1 S1 hl1=>?_)
 case refine_2=>
  rw[<-hl1];simp -dsimp only[aw,seval];exact aQ S1 hx
 rw[<-hl2];simp -dsimp only[aw,seval];refine aX S2 h2 (ju _ _) hx (mV H h2 _ (ah S2.at_ _)) (fun m a3 hx h1 h2 h3 hy σ3 S3 hl3=>?_) (fun e n b hx σ1 S1 hl1=>?_)
 case refine_2=>
  rw[<-hl1];simp -dsimp only[aw,seval];exact aQ S1 hx
 rw[<-hl3];rw[bJ]at hx;simp -dsimp only[aw,seval];refine aX S3 h2 (cd _) hx (b9 H (aa 59) h2 (by decide +kernel) _ (ah S3.at_ _)) (fun _ a4 hx h1 h2 h3 hy σ4 S4 hl4=>?_) (fun e n b hx σ1 S1 hl1=>?_)
 case refine_2=>
  rw[<-hl1];simp -dsimp only[aw,seval];exact aQ S1 hx
 rw[<-hl4];simp -dsimp only[aw,seval];exact cC S4 h2 hx (by rw[aJ];rfl) (by rw[aJ];simp[MZ,aC,aO,eE,iO,ez,ga,iL,dC,fZ,fM,f7,exZ,bq,aU,aG,aH,aw,seval])
abbrev og(ts:List Tok)(i b:Nat):Prop:=∀σ:LLV,σ[i]? = some (pb ts b)->Fun G 86 [.ptr i 0] σ (CQ (fun l=>.d (.sl (l.map dit))) ts i σ (ir (zLs ts) (jM (zLs ts)) (ts.drop b)))
theorem B0(hB:∀b,a<b->b≤ts.length->og ts i b):Fun G 64 [.ptr i 0] σ (CQ vit ts i σ (kQ (zLs ts) (jM (zLs ts)) (ts.drop a))):=by
 refine ae Tryz.func64 k64 rfl fun hb hw=>?_;have S:=St.init hi hb;obtain⟨x,hx⟩:∃x,x=kQ (zLs ts) (jM (zLs ts)) (ts.drop a):=⟨_,rfl⟩
 rw[<-hx];unfold kQ at hx;rw[gS]at hx;unfold c64;simp -dsimp only[aw,seval];refine aX S ha (hY _) hx (fS H ha _ (ah hi _)) (fun ix a1 hx h1 h2 h3 hy σ1 S1 hl1=>?_) (fun e n b hx σ1 S1 hl1=>?_)
 case refine_2=>
  rw[<-hl1];simp -dsimp only[aw,seval];exact aQ S1 hx
 rw[<-hl1];rw[bJ]at hx;simp -dsimp only[aw,seval];refine aX S1 h2 (cd _) hx (oe H inW h2 (by decide +kernel) _ (ah S1.at_ _)) (fun _ a2 hx h1 h2 h3 hy σ2 S2 hl2=>?_) (fun e n b hx σ1 S1 hl1=>?_)
 case refine_2=>
  rw[<-hl1];simp -dsimp only[aw,seval];exact aQ S1 hx
 rw[<-hl2];rw[gS]at hx;simp -dsimp only[aw,seval];refine aX S2 h2 (hY _) hx (fS H h2 _ (ah S2.at_ _)) (fun nm a3 hx h4 h5 h6 hy σ3 S3 hl3=>?_) (fun e n b hx σ1 S1 hl1=>?_)
 case refine_2=>
  rw[<-hl1];simp -dsimp only[aw,seval];exact aQ S1 hx
 rw[<-hl3];simp -dsimp only[aw,seval];have hlt:a<a3:=by unfold fV at h6;rw[Sq]at h6;omega
 refine aX S3 h5 (ky _ (Su _)) hx (hB a3 hlt h5 _ (ah S3.at_ _)) (fun l a4 hx h1 h2 h3 hy σ4 S4 hl4=>?_) (fun e n b hx σ1 S1 hl1=>?_)
 case refine_2=>
  rw[<-hl1];simp -dsimp only[aw,seval];exact aQ S1 hx
 rw[<-hl4];simp -dsimp only[aw,seval];exact cC S4 h2 hx (by rw[aJ];rfl) (by rw[aJ];simp[L1,aC,aO,eE,iO,ez,ga,iL,dC,fZ,fM,f7,exZ,bq,aU,aG,aH,aw,seval])
theorem vo(hB:∀b,a<b->b≤ts.length->og ts i b):Fun G 63 [.ptr i 0] σ (CQ vit ts i σ (ifC (zLs ts) (jM (zLs ts)) (ts.drop a))):=by
 refine ae Tryz.func63 k63 rfl fun hb hw=>?_;have S:=St.init hi hb;obtain⟨x,hx⟩:∃x,x=ifC (zLs ts) (jM (zLs ts)) (ts.drop a):=⟨_,rfl⟩
 rw[<-hx];unfold ifC at hx;rw[bJ]at hx;unfold c63;simp -dsimp only[aw,seval];refine aX S ha (cd _) hx (b9 H (aa 40) ha (by decide +kernel) _ (ah S.at_ _)) (fun _ a1 hx h1 h2 h3 hy σ1 S1 hl1=>?_) (fun e n b hx σ1 S1 hl1=>?_)
 case refine_2=>
  rw[<-hl1];simp -dsimp only[aw,seval];exact aQ S1 hx
 rw[<-hl1];rw[v8]at hx;simp -dsimp only[aw,seval];have hlt:a<a1:=by unfold fV at h3;rw[Sq]at h3;omega
 refine aX S1 h2 (FP _) hx (rV H h2 _ (ah S1.at_ _)) (fun e a2 hx h4 h5 h6 hy σ2 S2 hl2=>?_) (fun e n b hx σ1 S1 hl1=>?_)
 case refine_2=>
  rw[<-hl1];simp -dsimp only[aw,seval];exact aQ S1 hx
 rw[<-hl2];rw[bJ]at hx;simp -dsimp only[aw,seval,ao];refine aX S2 h5 (cd _) hx (b9 H (aa 41) h5 (by decide +kernel) _ (ah S2.at_ _)) (fun _ a3 hx h7 h8 h9 hy σ3 S3 hl3=>?_) (fun e n b hx σ1 S1 hl1=>?_)
 case refine_2=>
  rw[<-hl1];simp -dsimp only[aw,seval];exact aQ S1 hx
 rw[<-hl3];simp -dsimp only[aw,seval];refine aX S3 h8 (ky _ (Su _)) hx (hB a3 (by omega) h8 _ (ah S3.at_ _)) (fun l a4 hx h1 h2 h3 hy σ4 S4 hl4=>?_) (fun e n b hx σ1 S1 hl1=>?_)
 case refine_2=>
  rw[<-hl1];simp -dsimp only[aw,seval];exact aQ S1 hx
 rw[<-hl4];simp -dsimp only[aw,seval];refine gF H (m:=sM) (by decide +kernel) S4 h2 (fun hs2 hlt2 σ5 S5 hl5=>?_) (fun hs2=>?_)
 .rw[df hs2]at hx;rw[<-hl5];simp -dsimp only[aw,seval];refine aX S5 hlt2 (ky _ (Su _)) hx (hB (a4+1) (by omega) hlt2 _ (ah S5.at_ _)) (fun m a6 hx h1 h2 h3 hy σ6 S6 hl6=>?_) (fun e n b hx σ1 S1 hl1=>?_)
  case refine_2=>
   rw[<-hl1];simp -dsimp only[aw,seval];exact aQ S1 hx
  rw[<-hl6];simp -dsimp only[aw,seval];exact cC S6 h2 hx (by rw[aJ];rfl) (by rw[aJ];simp[JV,aC,aO,eE,iO,ez,ga,iL,dC,fZ,fM,f7,aw,seval])
 .rw[cu hs2]at hx;simp -dsimp only[aw,seval];exact cC S4 h2 hx (by rw[aJ];rfl) (by rw[aJ];simp[JV,aC,aO,eE,iO,ez,ga,iL,dC,fZ,fM,f7,aw,seval])
end
end Go.Proofs.YtnhphlmblenapaaGreatDoor
namespace Go.Proofs.YtnhphlmblenapaaGreatDoor
open Go.RowKit
theorem fW{α:Type}(y:CP α):y=y.bind .ok:=by cases y<;>rfl
theorem wK(z:Int)(p:List Tok):Tk bi p.length p ((jM z).rest [] p):=by have:=ux z [] p;simp only[bi,Nat.zero_add]at this;exact this
theorem JQ(z:Int)(r:List Tok):Tk fN r.length r (ifC z (jM z) r):=Is z fun p _=>wK z p
theorem Eb(z:Int)(r:List Tok):Tk fN r.length r (kQ z (jM z) r):=zl z fun p _=>wK z p
abbrev sT(ts:List Tok)(i b:Nat):Prop:=∀σ:LLV,σ[i]? = some (pb ts b)->Fun G 26 [.ptr i 0] σ (CQ vit ts i σ (jK (zLs ts) (ts.drop b)))
section
variable {ts : List Tok} {a i : Nat} (H : TsV ts) (ha : a ≤ ts.length)
include H ha
theorem sR(hI:∀b,a<b->b≤ts.length->sT ts i b):og ts i a:=fun σ hi=>by
 refine ae Tryz.func86 k86 rfl fun hb hw=>?_;have S:=St.init hi hb;have hL:=H.ok.len;obtain⟨x,hx⟩:∃x,x=ir (zLs ts) (jM (zLs ts)) (ts.drop a):=⟨_,rfl⟩
 rw[<-hx];unfold ir at hx;rw[bJ,AL]at hx;unfold c86;simp -dsimp only[aw,seval];refine eN (aX S ha (cd _) hx (b9 H (aa 123) ha (by decide +kernel) _ (ah S.at_ _)) (fun _ a1 hx h1 h2 h3 hy σ1 S1 hl1=>?_) (fun e n b hx σ1 S1 hl1=>?_))
 case refine_2=>
  rw[<-hl1];simp -dsimp only[aw,seval];exact aQ S1 hx
 rw[<-hl1];simp -dsimp only[aw,seval];have hlt:a<a1:=by unfold fV at h3;rw[Sq]at h3;omega
 refine aS [0,3] (R:=fun(j:Nat) ρ σ'=>∃(a1:Nat) (l:List It) (σ2:LLV),ρ=[(0,.ptr i 0),(3,.own 54 12 (l.map dit))]/\σ'=σ2++[]/\St σ i ts a1 σ2/\a<a1/\a1≤ts.length/\l.length+j≤2*a1/\j≤a1/\x=oK (zLs ts) l (ts.drop a1)) ts.length ⟨a1,[],σ1,rfl,rfl,S1,hlt,h2,by simp,by omega,hx⟩ ?_ _;rintro j ρ' σ' hj ⟨a1,l,σ2,rfl,rfl,S2,h4,h5,h6,h7,hx⟩;rw[wS]at hx;rw[S1.len,<-S2.len];simp -dsimp only[aw,seval];refine j0 H (m:=aa 125) (by decide +kernel) S2 h5 (fun hs2 hlt2 σ3 S3 hl3=>?_) (fun hs2=>?_)
 .rw[df hs2]at hx;rw[<-hl3];simp -dsimp only[aw,seval];exact cC S3 hlt2 hx rfl rfl
 rw[cu hs2]at hx;simp -dsimp only[aw,seval];refine aX S2 h5 (n8 _ _) hx (hI a1 h4 h5 _ (ah S2.at_ _)) (fun y a3 hx h7 h8 h9 hy σ4 S4 hl4=>?_) (fun e n b hx σ1 S1 hl1=>?_)
 case refine_2=>
  rw[<-hl1];simp -dsimp only[aw,seval];exact aQ S1 hx
 rw[<-hl4];simp -dsimp only[aw,seval,aJ];refine bh (by omega) ?_;simp -dsimp only[aw,seval];have hlt4:a1<a3:=by have:=j9 y;rw[Sq]at h9;omega
 refine⟨by omega,Nxt.same (by simp) (aq S4.bb rfl) (by simp[au,V.under,S4.len];exact S4.lt) ⟨a3,l++[y],σ4,by rw[Ss,Sx,Sy,dq],rfl,S4,by omega,h8,by simp;omega,by omega,hx⟩⟩
theorem qp(hB:∀b,a<b->b≤ts.length->og ts i b):sT ts i a:=fun σ hi=>by
 refine ae Tryz.func26 k26 rfl fun hb hw=>?_;have S:=St.init hi hb;obtain⟨x,hx⟩:∃x,x=jK (zLs ts) (ts.drop a):=⟨_,rfl⟩
 rw[<-hx];rw[yp]at hx;unfold c26
 have fin:∀{σ1:LLV} {a2:Nat} {v:It} {ρ:ai},St σ i ts a2 σ1->a2≤ts.length->x=.ok v (ts.drop a2)->get ρ 2=.ptr σ1.length 0->fin σ1.length IZ (CQ vit ts i σ x) .ret ρ (σ1++[(dit v).map V.d]):=fun{σ1 a2 v ρ} S1 h2 hx hρ=>
  cC S1 h2 hx (by rw[aJ];rfl) (by rw[aJ,dq];simp[IZ,aC,aO,hρ,aw,seval])
 simp -dsimp only[aw,seval];refine gF H (m:=lK) (by decide +kernel) S ha (fun hs2 hlt2 σ1 S1 hl1=>?_) (fun hs2=>?_)
 .rw[df hs2,fW (eP _ _ _)]at hx;rw[<-hl1];simp -dsimp only[aw,seval];refine aX S1 hlt2 (mG _ _ _) hx (qK H hlt2 _ (ah S1.at_ _) 2) (fun y a3 hx h7 h8 h9 hy σ4 S4 hl4=>?_) (fun e n b hx σ1 S1 hl1=>?_)
  case refine_2=>
   rw[<-hl1];simp -dsimp only[aw,seval];exact aQ S1 hx
  rw[<-hl4];simp -dsimp only[aw,seval,aJ];have:=fin (ρ:=[(2,.ptr σ4.length 0)]) S4 h8 hx rfl;rw[dq]at this;exact this
 rw[cu hs2]at hx;simp -dsimp only[aw,seval];refine gF H (m:=qP) (by decide +kernel) S ha (fun hs2 hlt2 σ1 S1 hl1=>?_) (fun hs2=>?_)
 .rw[df hs2,fW (lL _ _)]at hx;rw[<-hl1];simp -dsimp only[aw,seval];refine aX S1 hlt2 (zj _ _) hx (Bh H hlt2 _ (ah S1.at_ _)) (fun y a3 hx h7 h8 h9 hy σ4 S4 hl4=>?_) (fun e n b hx σ1 S1 hl1=>?_)
  case refine_2=>
   rw[<-hl1];simp -dsimp only[aw,seval];exact aQ S1 hx
  rw[<-hl4];simp -dsimp only[aw,seval,aJ];have:=fin (ρ:=[(2,.ptr σ4.length 0)]) S4 h8 hx rfl;rw[dq]at this;exact this
 rw[cu hs2]at hx;simp -dsimp only[aw,seval];refine gF H (m:=ifW) (by decide +kernel) S ha (fun hs2 hlt2 σ1 S1 hl1=>?_) (fun hs2=>?_)
 .rw[df hs2,fW (ifC _ _ _)]at hx;rw[<-hl1];simp -dsimp only[aw,seval];refine aX S1 hlt2 (JQ _ _) hx (vo H hlt2 _ (ah S1.at_ _) fun b h1 h2=>hB b (by omega) h2) (fun y a3 hx h7 h8 h9 hy σ4 S4 hl4=>?_) (fun e n b hx σ1 S1 hl1=>?_)
  case refine_2=>
   rw[<-hl1];simp -dsimp only[aw,seval];exact aQ S1 hx
  rw[<-hl4];simp -dsimp only[aw,seval,aJ];have:=fin (ρ:=[(2,.ptr σ4.length 0)]) S4 h8 hx rfl;rw[dq]at this;exact this
 rw[cu hs2]at hx;simp -dsimp only[aw,seval];refine gF H (m:=qf) (by decide +kernel) S ha (fun hs2 hlt2 σ1 S1 hl1=>?_) (fun hs2=>?_)
 .rw[df hs2,fW (kQ _ _ _)]at hx;rw[<-hl1];simp -dsimp only[aw,seval];refine aX S1 hlt2 (Eb _ _) hx (B0 H hlt2 _ (ah S1.at_ _) fun b h1 h2=>hB b (by omega) h2) (fun y a3 hx h7 h8 h9 hy σ4 S4 hl4=>?_) (fun e n b hx σ1 S1 hl1=>?_)
  case refine_2=>
   rw[<-hl1];simp -dsimp only[aw,seval];exact aQ S1 hx
  rw[<-hl4];simp -dsimp only[aw,seval,aJ];have:=fin (ρ:=[(2,.ptr σ4.length 0)]) S4 h8 hx rfl;rw[dq]at this;exact this
 rw[cu hs2]at hx;simp -dsimp only[aw,seval];refine gF H (m:=mi) (by decide +kernel) S ha (fun hs2 hlt2 σ1 S1 hl1=>?_) (fun hs2=>?_)
 .rw[df hs2,fW (iK _ _)]at hx;rw[<-hl1];simp -dsimp only[aw,seval];refine aX S1 hlt2 (vp _ _) hx (yE H hlt2 _ (ah S1.at_ _)) (fun y a3 hx h7 h8 h9 hy σ4 S4 hl4=>?_) (fun e n b hx σ1 S1 hl1=>?_)
  case refine_2=>
   rw[<-hl1];simp -dsimp only[aw,seval];exact aQ S1 hx
  rw[<-hl4];simp -dsimp only[aw,seval,aJ];have:=fin (ρ:=[(2,.ptr σ4.length 0)]) S4 h8 hx rfl;rw[dq]at this;exact this
 rw[cu hs2,fW (eP _ _ _)]at hx;simp -dsimp only[aw,seval];refine aX S ha (mG _ _ _) hx (qK H ha _ (ah S.at_ _) 1) (fun y a3 hx h7 h8 h9 hy σ4 S4 hl4=>?_) (fun e n b hx σ1 S1 hl1=>?_)
 case refine_2=>
  rw[<-hl1];simp -dsimp only[aw,seval];exact aQ S1 hx
 rw[<-hl4];simp -dsimp only[aw,seval,aJ];have:=fin (ρ:=[(2,.ptr σ4.length 0)]) S4 h8 hx rfl;rw[dq]at this;exact this
end
theorem sZ{ts:List Tok}{i:Nat}(H:TsV ts):∀(n a:Nat),a≤ts.length->ts.length-a≤n->sT ts i a/\og ts i a
 | 0,a,ha,hn=>⟨qp H ha fun b h1 h2=>by omega,sR H ha fun b h1 h2=>by omega⟩
 | n+1,a,ha,hn=>⟨qp H ha fun b h1 h2=>(sZ H n b h2 (by omega)).2,sR H ha fun b h1 h2=>(sZ H n b h2 (by omega)).1⟩
theorem Bp{ts:List Tok}{i a:Nat}(H:TsV ts)(ha:a≤ts.length):sT ts i a:=(sZ H _ a ha (Nat.le_refl _)).1
theorem Bn{ts:List Tok}{i a:Nat}(H:TsV ts)(ha:a≤ts.length):og ts i a:=(sZ H _ a ha (Nat.le_refl _)).2
end Go.Proofs.YtnhphlmblenapaaGreatDoor
namespace Go.Proofs.YtnhphlmblenapaaGreatDoor
open Go.RowKit
section
variable {ts : List Tok} {a i : Nat} (H : TsV ts) (ha : a ≤ ts.length) (σ : LLV) (hi : σ[i]? = some (pb ts a))
include H ha hi
theorem xO:Fun G 198 [.ptr i 0] σ (CQ (fun n=>.d (ab n)) ts i σ (pS (zLs ts) (ts.drop a))):=by
 refine ae Tryz.func198 Qx rfl fun hb hw=>?_;have S:=St.init hi hb;have hL:=H.ok.len;obtain⟨x,hx⟩:∃x,x=pS (zLs ts) (ts.drop a):=⟨_,rfl⟩
 rw[<-hx];unfold pS at hx;unfold Ln;simp -dsimp only[aw,seval];refine eN (j0 H (m:=aa 91) (by decide +kernel) S ha (fun hs2 hlt2 σ2 S2 hl2=>?_) (fun hs2=>?_))
 case refine_2=>
  rw[cu hs2]at hx;simp -dsimp only[aw,seval];exact cC S ha hx rfl rfl
 rw[df hs2,ki]at hx;rw[<-hl2];simp -dsimp only[aw,seval];refine aX S2 hlt2 (jt _) hx (ef H hlt2 _ (ah S2.at_ _)) (fun n a3 hx h4 h5 h6 hy σ3 S3 hl3=>?_) (fun e n b hx σ1 S1 hl1=>?_)
 case refine_2=>
  rw[<-hl1];simp -dsimp only[aw,seval];exact aQ S1 hx
 have ha3:a3=a+1+1:=by
  have h:=CN hy;unfold cH at h;split at h
  .cases h
  .rename_i t r he;split at h
   .simp only[Option.some.injEq,Prod.mk.injEq]at h;have h2:=congrArg List.length he;rw[h.2]at h2;simp only[Sq,List.length_cons]at h2;omega
   .cases h
 rw[<-hl3];by_cases hn:n<1
 .rw[if_pos hn]at hx;have hi3:=S3.at_;have hF:=nN ts a3 (a+1) i 5 H (by omega) (σ3++[]) (ah hi3 _);have hbo:=ah hi3 [];unfold pb at hbo;have hw1:IntKind.i64.wrap (((a3:Nat):Int)-1)=((a+1:Nat):Int):=by rw[ha3,aA (by omega) (by omega)];omega
  simp -dsimp only[aw,seval,decide_eq_true hn,hbo,hw1];refine aB hF fun o σ' ⟨e1,e2⟩=>?_;subst e1;subst e2;simp -dsimp only[aw,seval,bg];exact aQ S3 hx
 .rw[if_neg hn,bJ]at hx;simp -dsimp only[aw,seval,decide_eq_false hn];refine aX S3 h5 (cd _) hx (b9 H (aa 93) h5 (by decide +kernel) _ (ah S3.at_ _)) (fun _ a4 hx h7 h8 h9 hy σ4 S4 hl4=>?_) (fun e n b hx σ1 S1 hl1=>?_)
  case refine_2=>
   rw[<-hl1];simp -dsimp only[aw,seval];exact aQ S1 hx
  rw[<-hl4];simp -dsimp only[aw,seval];exact cC S4 h8 hx rfl rfl
theorem lW(m:Int):Fun G 140 [.ptr i 0,.d (ab m)] σ (CQ (fun f=>.agg ((dfl f).map V.d)) ts i σ (gE (zLs ts) m (ts.drop a))):=by
 refine ae Tryz.func140 Qn rfl fun hb hw=>?_;have S:=St.init hi hb;obtain⟨x,hx⟩:∃x,x=gE (zLs ts) m (ts.drop a):=⟨_,rfl⟩
 rw[<-hx];unfold gE at hx;rw[gS]at hx;unfold Ot;simp -dsimp only[aw,seval];refine aX S ha (hY _) hx (fS H ha _ (ah hi _)) (fun s a1 hx h1 h2 h3 hy σ1 S1 hl1=>?_) (fun e n b hx σ1 S1 hl1=>?_)
 case refine_2=>
  rw[<-hl1];simp -dsimp only[aw,seval];exact aQ S1 hx
 rw[<-hl1];simp -dsimp only[aw,seval];refine aX S1 h2 (u7 _ _) hx (xO H h2 _ (ah S1.at_ _)) (fun k a2 hx h1 h2 h3 hy σ2 S2 hl2=>?_) (fun e n b hx σ1 S1 hl1=>?_)
 case refine_2=>
  rw[<-hl1];simp -dsimp only[aw,seval];exact aQ S1 hx
 rw[<-hl2];rw[bJ]at hx;simp -dsimp only[aw,seval];refine aX S2 h2 (cd _) hx (b9 H (aa 58) h2 (by decide +kernel) _ (ah S2.at_ _)) (fun _ a3 hx h1 h2 h3 hy σ3 S3 hl3=>?_) (fun e n b hx σ1 S1 hl1=>?_)
 case refine_2=>
  rw[<-hl1];simp -dsimp only[aw,seval];exact aQ S1 hx
 rw[<-hl3];rw[ki]at hx;simp -dsimp only[aw,seval];refine aX S3 h2 (jt _) hx (ef H h2 _ (ah S3.at_ _)) (fun w a4 hx h1 h2 h3 hy σ4 S4 hl4=>?_) (fun e n b hx σ1 S1 hl1=>?_)
 case refine_2=>
  rw[<-hl1];simp -dsimp only[aw,seval];exact aQ S1 hx
 rw[<-hl4];by_cases h0:m=0
 .rw[if_pos h0,bJ,bind_assoc]at hx;simp -dsimp only[aw,seval,decide_eq_true h0];refine aX S4 h2 (cd _) hx (b9 H (aa 61) h2 (by decide +kernel) _ (ah S4.at_ _)) (fun _ a5 hx h1 h2 h3 hy σ5 S5 hl5=>?_) (fun e n b hx σ1 S1 hl1=>?_)
  case refine_2=>
   rw[<-hl1];simp -dsimp only[aw,seval];exact aQ S1 hx
  rw[<-hl5];simp -dsimp only[aw,seval];refine aX S5 h2 (jt _) hx (ef H h2 _ (ah S5.at_ _)) (fun v a6 hx h1 h2 h3 hy σ6 S6 hl6=>?_) (fun e n b hx σ1 S1 hl1=>?_)
  case refine_2=>
   rw[<-hl1];simp -dsimp only[aw,seval];exact aQ S1 hx
  rw[<-hl6];rw[bJ]at hx;simp -dsimp only[aw,seval];refine aX S6 h2 (cd _) hx (b9 H (aa 59) h2 (by decide +kernel) _ (ah S6.at_ _)) (fun _ a7 hx h1 h2 h3 hy σ7 S7 hl7=>?_) (fun e n b hx σ1 S1 hl1=>?_)
  case refine_2=>
   rw[<-hl1];simp -dsimp only[aw,seval];exact aQ S1 hx
  rw[<-hl7];simp -dsimp only[aw,seval];exact cC S7 h2 hx rfl (by simp[FA,aC,aO,dfl,aw,seval])
 .rw[if_neg h0]at hx;simp only[CP.bind]at hx;rw[bJ]at hx;simp -dsimp only[aw,seval,decide_eq_false h0];refine aX S4 h2 (cd _) hx (b9 H (aa 59) h2 (by decide +kernel) _ (ah S4.at_ _)) (fun _ a7 hx h1 h2 h3 hy σ7 S7 hl7=>?_) (fun e n b hx σ1 S1 hl1=>?_)
  case refine_2=>
   rw[<-hl1];simp -dsimp only[aw,seval];exact aQ S1 hx
  rw[<-hl7];simp -dsimp only[aw,seval];exact cC S7 h2 hx rfl (by simp[FA,aC,aO,dfl,aw,seval])
theorem ve:Fun G 85 [.ptr i 0] σ (CQ (fun l=>.d (.sl (l.map dfl))) ts i σ (jl (zLs ts) (ts.drop a))):=by
 refine ae Tryz.func85 k85 rfl fun hb hw=>?_;have S:=St.init hi hb;have hL:=H.ok.len;obtain⟨x,hx⟩:∃x,x=jl (zLs ts) (ts.drop a):=⟨_,rfl⟩
 rw[<-hx];rw[show jl (zLs ts) (ts.drop a)=fC (jp (zLs ts)) [] (ts.drop a)from rfl]at hx;unfold c85;simp -dsimp only[aw,seval];refine aS [0,3] (R:=fun(j:Nat) ρ σ'=>∃(a1:Nat) (l:List Fl) (σ2:LLV),ρ=[(0,.ptr i 0),(3,.own 74 5 (l.map dfl))]/\σ'=σ2++[]/\St σ i ts a1 σ2/\a1≤ts.length/\l.length+j≤2*a1/\j≤a1/\x=fC (jp (zLs ts)) l (ts.drop a1)) ts.length ⟨a,[],σ,rfl,(Sw _).symm,S,ha,by simp,by omega,hx⟩ ?_ _;rintro j ρ' σ' hj ⟨a1,l,σ2,rfl,rfl,S2,h4,h5,h6,hx⟩;rw[m5 (qb _).eats]at hx;rw[<-S2.len];unfold jp at hx
 have next:∀(m:Int) (r1:Nat),a1<r1->r1≤ts.length->x=((gE (zLs ts) m (ts.drop r1)).bind fun y q=>.ok (l++[y]) q).bind (fun v p=>fC (jp (zLs ts)) v p)->x=(gE (zLs ts) m (ts.drop r1)).bind fun y q=>fC (jp (zLs ts)) (l++[y]) q:=fun m r1 _ _ h=>by rw[h,bind_assoc];rfl
 simp -dsimp only[aw,seval];refine gF H (m:=yY) (by decide +kernel) S2 h4 (fun hs2 hlt2 σ3 S3 hl3=>?_) (fun hs1=>?_)
 .simp only[hs2]at hx;have hx:=next 1 (a1+1) (by omega) hlt2 hx
  rw[<-hl3];simp -dsimp only[aw,seval];refine aX S3 hlt2 (ja _ _ _) hx (lW H hlt2 _ (ah S3.at_ _) 1) (fun y a3 hx h7 h8 h9 hy σ4 S4 hl4=>?_) (fun e n b hx σ1 S1 hl1=>?_)
  case refine_2=>
   rw[<-hl1];simp -dsimp only[aw,seval];exact aQ S1 hx
  rw[<-hl4];simp -dsimp only[aw,seval,dfl];refine bh (by omega) ?_;simp -dsimp only[aw,seval];have hlt4:a1+1<a3:=by unfold fV at h9;rw[Sq]at h9;omega
  exact⟨by omega,Nxt.same (by simp) (aq S4.bb rfl) (by simp[au,V.under,S4.len];exact S4.lt) ⟨a3,l++[y],σ4,by rw[Ss];rfl,rfl,S4,h8,by simp;omega,by omega,hx⟩⟩
 simp -dsimp only[aw,seval];refine gF H (m:=sX) (by decide +kernel) S2 h4 (fun hs2 hlt2 σ3 S3 hl3=>?_) (fun hs2=>?_)
 .simp only[hs1,hs2]at hx;have hx:=next 2 (a1+1) (by omega) hlt2 hx
  rw[<-hl3];simp -dsimp only[aw,seval];refine aX S3 hlt2 (ja _ _ _) hx (lW H hlt2 _ (ah S3.at_ _) 2) (fun y a3 hx h7 h8 h9 hy σ4 S4 hl4=>?_) (fun e n b hx σ1 S1 hl1=>?_)
  case refine_2=>
   rw[<-hl1];simp -dsimp only[aw,seval];exact aQ S1 hx
  rw[<-hl4];simp -dsimp only[aw,seval,dfl];refine bh (by omega) ?_;simp -dsimp only[aw,seval];have hlt4:a1+1<a3:=by unfold fV at h9;rw[Sq]at h9;omega
  exact⟨by omega,Nxt.same (by simp) (aq S4.bb rfl) (by simp[au,V.under,S4.len];exact S4.lt) ⟨a3,l++[y],σ4,by rw[Ss];rfl,rfl,S4,h8,by simp;omega,by omega,hx⟩⟩
 simp -dsimp only[aw,seval];refine gF H (m:=tE) (by decide +kernel) S2 h4 (fun hs3 hlt2 σ3 S3 hl3=>?_) (fun hs3=>?_)
 .simp only[hs1,hs2,hs3]at hx;have hx:=next 0 (a1+1) (by omega) hlt2 hx
  rw[<-hl3];simp -dsimp only[aw,seval];refine aX S3 hlt2 (ja _ _ _) hx (lW H hlt2 _ (ah S3.at_ _) 0) (fun y a3 hx h7 h8 h9 hy σ4 S4 hl4=>?_) (fun e n b hx σ1 S1 hl1=>?_)
  case refine_2=>
   rw[<-hl1];simp -dsimp only[aw,seval];exact aQ S1 hx
  rw[<-hl4];simp -dsimp only[aw,seval,dfl];refine bh (by omega) ?_;simp -dsimp only[aw,seval];have hlt4:a1+1<a3:=by unfold fV at h9;rw[Sq]at h9;omega
  exact⟨by omega,Nxt.same (by simp) (aq S4.bb rfl) (by simp[au,V.under,S4.len];exact S4.lt) ⟨a3,l++[y],σ4,by rw[Ss];rfl,rfl,S4,h8,by simp;omega,by omega,hx⟩⟩
 .simp only[hs1,hs2,hs3]at hx;simp -dsimp only[aw,seval];exact cC S2 h4 hx rfl rfl
end
end Go.Proofs.YtnhphlmblenapaaGreatDoor
namespace Go.Proofs.YtnhphlmblenapaaGreatDoor
open Go.RowKit
def kbz:List V:=[.d (aj ⟨#[]⟩),.d (aj ⟨#[]⟩),.nil,.nil]
def kbx(nm p:ByteArray)(f b:V):List V:=[.d (aj nm),.d (aj p),f,b]
section
variable {ts : List Tok} {a i : Nat} (H : TsV ts) (ha : a ≤ ts.length) (σ : LLV) (hi : σ[i]? = some (pb ts a))
include H ha hi
theorem ym:Fun G 34 [.ptr i 0] σ (CQ vkl ts i σ (qR (zLs ts) (ts.drop a))):=by
 refine ae Tryz.func34 k34 rfl fun hb hw=>?_;have S:=St.init hi hb;have hL:=H.ok.len;obtain⟨x,hx⟩:∃x,x=qR (zLs ts) (ts.drop a):=⟨_,rfl⟩
 rw[<-hx];unfold qR at hx;rw[bJ]at hx;unfold c34
 refine i6 4 (fun ρ σ'=>∃(nm par:ByteArray) (a2:Nat) (σ2:LLV),(ρ=[(0,.ptr i 0),(2,.ptr σ2.length 0),(3,.ptr (σ2.length+1) 0)]\/ρ=[(0,.ptr i 0),(2,.ptr σ2.length 0),(3,.ptr (σ2.length+1) 0),(11,an false)])/\σ'=σ2++[kbz,kbx nm par .nil .nil]/\St σ i ts a2 σ2/\a2≤ts.length/\
  x=bQ (zLs ts) (aa 123) (ts.drop a2) fun r4=>(jl (zLs ts) r4).bind fun f r5=>(mR (zLs ts) r5).bind fun b r6=>bQ (zLs ts) (aa 125) r6 fun r7=>.ok ⟨nm,par,f,b⟩ r7) ?_ ?_
 .simp only[iH];simp -dsimp only[aw,seval];refine aX S ha (cd _) hx (oe H Er ha (by decide +kernel) _ (ah S.at_ _)) (fun _ a1 hx h1 h2 h3 hy σ1 S1 hl1=>?_) (fun e n b hx σ1 S1 hl1=>?_)
  case refine_2=>
   rw[<-hl1];simp -dsimp only[aw,seval];exact aQ S1 hx
  rw[<-hl1];rw[gS]at hx;simp -dsimp only[aw,seval];refine aX S1 h2 (hY _) hx (fS H h2 _ (ah S1.at_ _)) (fun nm a2 hx h1 h2 h3 hy σ2 S2 hl2=>?_) (fun e n b hx σ1 S1 hl1=>?_)
  case refine_2=>
   rw[<-hl1];simp -dsimp only[aw,seval];exact aQ S1 hx
  rw[<-hl2];simp -dsimp only[aw,seval];refine gF H (m:=wt) (by decide +kernel) S2 h2 (fun hs2 hlt2 σ3 S3 hl3=>?_) (fun hs2=>?_)
  .rw[df hs2]at hx;rw[<-hl3];simp -dsimp only[aw,seval];refine aX S3 hlt2 (hY _) hx (fS H hlt2 _ (ah S3.at_ _)) (fun par a4 hx h1 h2 h3 hy σ1 S1 hl1=>?_) (fun e n b hx σ1 S1 hl1=>?_)
   case refine_2=>
    rw[<-hl1];simp -dsimp only[aw,seval];exact aQ S1 hx
   rw[<-hl1];simp -dsimp only[aw,seval];exact Mid.mk ⟨nm,par,a4,σ1,.inl rfl,rfl,S1,h2,hx⟩
  .rw[cu hs2]at hx;simp -dsimp only[aw,seval];exact Mid.mk ⟨nm,⟨#[]⟩,a2,σ2,.inr rfl,rfl,S2,h2,hx⟩
 .simp only[iH];rintro ρ' σ' ⟨nm,par,a2,σ2,hρ,rfl,S2,h2,hx⟩;rw[<-S2.len];rw[bJ]at hx;unfold kbz kbx
  refine i6 1 (fun ρ σ'=>∃(a2:Nat) (σ2:LLV),ρ=[(0,.ptr i 0),(2,.ptr σ2.length 0),(3,.ptr (σ2.length+1) 0)]/\σ'=σ2++[kbz,kbx nm par .nil .nil]/\St σ i ts a2 σ2/\a2≤ts.length/\
   x=(jl (zLs ts) (ts.drop a2)).bind fun f r5=>(mR (zLs ts) r5).bind fun b r6=>bQ (zLs ts) (aa 125) r6 fun r7=>.ok ⟨nm,par,f,b⟩ r7) ?_ ?_
  .simp only[iH];rcases hρ with rfl|rfl
   all_goals
    simp -dsimp only[aw,seval];refine aX S2 h2 (cd _) hx (b9 H (aa 123) h2 (by decide +kernel) _ (ah S2.at_ _)) (fun _ a3 hx h1 h2 h3 hy σ1 S1 hl1=>?_) (fun e n b hx σ1 S1 hl1=>?_)
    case refine_2=>
     rw[<-hl1];simp -dsimp only[aw,seval];exact aQ S1 hx
    rw[<-hl1];simp -dsimp only[aw,seval];exact Mid.mk ⟨a3,σ1,rfl,rfl,S1,h2,hx⟩
  .simp only[iH];rintro ρ' σ' ⟨a3,σ3,rfl,rfl,S3,h3,hx⟩;rw[S2.len,<-S3.len];unfold kbz kbx;simp -dsimp only[aw,seval];refine aX S3 h3 (rY _ _) hx (ve H h3 _ (ah S3.at_ _)) (fun fl a4 hx h1 h4 h5 hy σ1 S1 hl1=>?_) (fun e n b hx σ1 S1 hl1=>?_)
   case refine_2=>
    rw[<-hl1];simp -dsimp only[aw,seval];exact aQ S1 hx
   rw[<-hl1];unfold mR at hx;simp -dsimp only[aw,seval]
   refine nO [0,2,3] (R:=fun(j:Nat) ρ σ'=>∃(a1:Nat) (l:List Bk) (σ2:LLV),ρ=[(0,.ptr i 0),(2,.ptr σ2.length 0),(3,.ptr (σ2.length+1) 0)]/\σ'=σ2++[kbz,kbx nm par (.d (.sl (fl.map dfl))) (.own 46 2 (l.map dbk))]/\St σ i ts a1 σ2/\a1≤ts.length/\l.length+j≤2*a1/\j≤a1/\
    x=(fC (fun(l:List Bk) r=>(acc fd r).map fun r1=>(nD (zLs ts) r1).bind fun b r2=>.ok (l++[b]) r2) l (ts.drop a1)).bind fun b r6=>bQ (zLs ts) (aa 125) r6 fun r7=>.ok ⟨nm,par,fl,b⟩ r7) ts.length (xT (σ:=σ1) (cs:=kbx nm par (.d (.sl (fl.map dfl))) .nil) (fo:=3) (q:=1) 46 2 rfl rfl) ⟨a4,[],σ1,rfl,rfl,S1,h4,by simp,by omega,hx⟩ ?_ _
   rintro j ρ' σ' hj ⟨a5,l,σ5,rfl,rfl,S5,h6,h7,h8,hx⟩;rw[m5 (qw _).eats]at hx;rw[S1.len,<-S5.len];unfold kbz kbx;simp -dsimp only[aw,seval];refine gF H (m:=fd) (by decide +kernel) S5 h6 (fun hs2 hlt2 σ6 S6 hl6=>?_) (fun hs2=>?_)
   .simp only[hs2,Option.map_some,bind_assoc]at hx;unfold nD at hx;rw[gS,bind_assoc]at hx;rw[<-hl6];simp -dsimp only[aw,seval];refine aX S6 hlt2 (hY _) hx (fS H hlt2 _ (ah S6.at_ _)) (fun bn a7 hx h1 h9 h10 hy σ7 S7 hl7=>?_) (fun e n b hx σ1 S1 hl1=>?_)
    case refine_2=>
     rw[<-hl1];simp -dsimp only[aw,seval];exact aQ S1 hx
    rw[bind_assoc]at hx;rw[<-hl7];simp -dsimp only[aw,seval];have hlt7:a5+1<a7:=by unfold fV at h10;rw[Sq]at h10;omega
    refine aX S7 h9 (ky _ (Su _)) hx (Bn H h9 _ (ah S7.at_ _)) (fun bl a8 hx h1 h11 h12 hy σ8 S8 hl8=>?_) (fun e n b hx σ1 S1 hl1=>?_)
    case refine_2=>
     rw[<-hl1];simp -dsimp only[aw,seval];exact aQ S1 hx
    have hx:x=(fC (fun(l:List Bk) r=>(acc fd r).map fun r1=>(nD (zLs ts) r1).bind fun b r2=>.ok (l++[b]) r2) (l++[(bn,bl)]) (ts.drop a8)).bind fun b r6=>bQ (zLs ts) (aa 125) r6 fun r7=>.ok ⟨nm,par,fl,b⟩ r7:=hx;rw[<-hl8];simp -dsimp only[aw,seval];refine bh (by omega) ?_;simp -dsimp only[aw,seval];exact⟨by omega,Nxt.to (σ8++[kbz,kbx nm par (.d (.sl (fl.map dfl))) (.own 46 2 ((l++[(bn,bl)]).map dbk))]) [[.d (aj bn),.d (.sl (bl.map dit))]] (by simp[kbz,kbx,dbk,gR]) (by simp) (aq S8.bb rfl) (by simp[au,V.under,S8.len];have:=S8.lt;omega) ⟨a8,l++[(bn,bl)],σ8,rfl,rfl,S8,h11,by simp;omega,by omega,hx⟩⟩
   .simp only[hs2,Option.map_none,CP.bind]at hx;rw[bJ]at hx;simp -dsimp only[aw,seval];refine aX S5 h6 (cd _) hx (b9 H (aa 125) h6 (by decide +kernel) _ (ah S5.at_ _)) (fun _ a6 hx h1 h2 h3 hy σ6 S6 hl6=>?_) (fun e n b hx σ1 S1 hl1=>?_)
    case refine_2=>
     rw[<-hl1];simp -dsimp only[aw,seval];exact aQ S1 hx
    rw[<-hl6];simp -dsimp only[aw,seval];exact cC S6 h2 hx rfl (by simp[OE,aC,aO,aw,seval])
end
theorem isE{ts:List Tok}{a:Nat}(h:a<ts.length):(ts.drop a).isEmpty=false:=by rw[List.drop_eq_getElem_cons h];rfl
section
variable {ts : List Tok} {a i : Nat} (H : TsV ts) (ha : a ≤ ts.length) (σ : LLV) (hi : σ[i]? = some (pb ts a))
include H ha hi
theorem xe:Fun G 25 [.ptr i 0,.bnd 26 [.ptr i 0]] σ (CQ (fun l=>.d (.sl (l.map dit))) ts i σ (iD (zLs ts) (ts.drop a))):=by
 refine ae Tryz.func25 k25 rfl fun hb hw=>?_;have S:=St.init hi hb;have hL:=H.ok.len;obtain⟨x,hx⟩:∃x,x=iD (zLs ts) (ts.drop a):=⟨_,rfl⟩
 rw[<-hx];unfold iD at hx;unfold c25;simp -dsimp only[aw,seval]
 refine aS [0,1,5] (R:=fun(j:Nat) ρ σ'=>∃(a1:Nat) (l:List It) (σ2:LLV),ρ=[(0,.ptr i 0),(1,.bnd 26 [.ptr i 0]),(5,.own 54 12 (l.map dit))]/\σ'=σ2++[]/\St σ i ts a1 σ2/\a1≤ts.length/\l.length+j≤2*a1/\j≤a1/\
  x=fC (fun l r=>if r.isEmpty=true then none else some ((jK (zLs ts) r).bind fun x r1=>.ok (l++[x]) r1)) l (ts.drop a1)) ts.length ⟨a,[],σ,rfl,(Sw _).symm,S,ha,by simp,by omega,hx⟩ ?_ _
 rintro j ρ' σ' hj ⟨a1,l,σ2,rfl,rfl,S2,h4,h5,h6,hx⟩;rw[m5 (DZ (n8 (zLs ts)) j9)]at hx;rw[<-S2.len];simp -dsimp only[aw,seval];refine ac (iU ts a1 i _ (ah S2.at_ [])) ?_;by_cases hlt:a1<ts.length
 .simp only[isE hlt,Bool.false_eq_true,if_false,bind_assoc]at hx;simp -dsimp only[aw,seval,decide_eq_true hlt];refine aX S2 h4 (n8 _ _) hx (Bp H h4 _ (ah S2.at_ _)) (fun y a3 hx h7 h8 h9 hy σ4 S4 hl4=>?_) (fun e n b hx σ1 S1 hl1=>?_)
  case refine_2=>
   rw[<-hl1];simp -dsimp only[aw,seval];exact aQ S1 hx
  rw[<-hl4];simp -dsimp only[aw,seval,aJ];refine bh (by omega) ?_;simp -dsimp only[aw,seval];have hlt4:a1<a3:=by have:=j9 y;rw[Sq]at h9;omega
  exact⟨by omega,Nxt.same (by simp) (aq S4.bb rfl) (by have:=S4.lt;simp[au,V.under,V.unders,S4.len,this]) ⟨a3,l++[y],σ4,by rw[Ss,Sx,Sy,dq],rfl,S4,h8,by simp;omega,by omega,hx⟩⟩
 .rw[Sv (by omega)]at hx;simp only[List.isEmpty_nil,if_true]at hx;simp -dsimp only[aw,seval,decide_eq_false hlt];exact cC S2 h4 (by rw[hx,Sv (by omega)]) rfl rfl
end
end Go.Proofs.YtnhphlmblenapaaGreatDoor
