import Derived.Test.YtnhphlmblenapaaGreatDoorDm5
set_option linter.unusedVariables false
set_option linter.unusedSimpArgs false
set_option linter.unusedSectionVars false
set_option maxHeartbeats 4000000
open List renaming length_drop->Pa,map_append->Pb,drop_eq_nil_of_le->Pd,suffix_refl->Pe,append_nil->Pf,map_cons->Pg,map_nil->Ph,isEmpty_nil->Pi
namespace Go.Proofs.YtnhphlmblenapaaGreatDoor
open Go.RowKit
section
variable {ts : List Tok} {a i : Nat} (H : TsV ts) (ha : a ≤ ts.length) (σ : LLV) (hi : σ[i]? = some (pb ts a))
include H ha hi
theorem pf(k:Int):Fun G 61 [.ptr i 0,.d (aa k)] σ (CQ vit ts i σ (fA (zLs ts) k (ts.drop a))):=by
 refine al Tryz.func61 k61 rfl fun hb hw=>?_;have S:=St.init hi hb;obtain⟨x,hx⟩:∃x,x=fA (zLs ts) k (ts.drop a):=⟨_,rfl⟩
 rw[<-hx];unfold fA at hx;rw[tD]at hx;unfold c61;simp -dsimp only[aw,seval];refine aK S ha (CS _) hx (rI H ha _ (am hi _)) (fun e a1 hx h1 h2 h3 hy σ1 S1 hl1=>?_) (fun e n b hx σ1 S1 hl1=>?_)
 case refine_2=>
  rw[<-hl1];simp -dsimp only[aw,seval];exact aH S1 hx
 rw[<-hl1];rw[bK]at hx;simp -dsimp only[aw,seval,au];refine aK S1 h2 (cd _) hx (b8 H (ah 59) h2 (by decide +kernel) _ (am S1.at_ _)) (fun _ a2 hx h1 h2 h3 hy σ2 S2 hl2=>?_) (fun e n b hx σ1 S1 hl1=>?_)
 case refine_2=>
  rw[<-hl1];simp -dsimp only[aw,seval];exact aH S1 hx
 rw[<-hl2];simp -dsimp only[aw,seval];exact cx S2 h2 hx (by rw[bw];rfl) (by rw[bw];simp[K3,aL,bc,kB,qN,kr,mK,qR,iC,nv,mS,m9,aw,seval])
theorem u0:Fun G 65 [.ptr i 0] σ (CQ vit ts i σ (lg (zLs ts) (ts.drop a))):=by
 refine al Tryz.func65 k65 rfl fun hb hw=>?_;have S:=St.init hi hb;obtain⟨x,hx⟩:∃x,x=lg (zLs ts) (ts.drop a):=⟨_,rfl⟩
 rw[<-hx];unfold lg at hx;unfold c65;simp -dsimp only[aw,seval];refine aK S ha (iX _ _) hx (lK H ha _ (am hi _)) (fun l a1 hx h1 h2 h3 hy σ1 S1 hl1=>?_) (fun e n b hx σ1 S1 hl1=>?_)
 case refine_2=>
  rw[<-hl1];simp -dsimp only[aw,seval];exact aH S1 hx
 rw[<-hl1];rw[bK]at hx;simp -dsimp only[aw,seval];refine aK S1 h2 (cd _) hx (nw H ⟨#[98,101,102,111,114,101]⟩ h2 (by decide +kernel) _ (am S1.at_ _)) (fun _ a2 hx h1 h2 h3 hy σ2 S2 hl2=>?_) (fun e n b hx σ1 S1 hl1=>?_)
 case refine_2=>
  rw[<-hl1];simp -dsimp only[aw,seval];exact aH S1 hx
 rw[<-hl2];simp -dsimp only[aw,seval];refine aK S2 h2 (iX _ _) hx (lK H h2 _ (am S2.at_ _)) (fun m a3 hx h1 h2 h3 hy σ3 S3 hl3=>?_) (fun e n b hx σ1 S1 hl1=>?_)
 case refine_2=>
  rw[<-hl1];simp -dsimp only[aw,seval];exact aH S1 hx
 rw[<-hl3];rw[bK]at hx;simp -dsimp only[aw,seval];refine aK S3 h2 (cd _) hx (b8 H (ah 59) h2 (by decide +kernel) _ (am S3.at_ _)) (fun _ a4 hx h1 h2 h3 hy σ4 S4 hl4=>?_) (fun e n b hx σ1 S1 hl1=>?_)
 case refine_2=>
  rw[<-hl1];simp -dsimp only[aw,seval];exact aH S1 hx
 rw[<-hl4];simp -dsimp only[aw,seval];exact cx S4 h2 hx (by rw[bw];rfl) (by rw[bw];simp[JI,aL,bc,kB,qN,kr,mK,qR,iC,nv,mS,m9,exZ,ca,bu,aT,aW,aw,seval])
abbrev mO(ts:List Tok)(i b:Nat):Prop:=∀σ:LLV,σ[i]? = some (pb ts b)->Fun G 86 [.ptr i 0] σ (CQ (fun l=>.d (.sl (l.map dit))) ts i σ (fc (zLs ts) (gM (zLs ts)) (ts.drop b)))
theorem zk(hB:∀b,a<b->b≤ts.length->mO ts i b):Fun G 64 [.ptr i 0] σ (CQ vit ts i σ (nM (zLs ts) (gM (zLs ts)) (ts.drop a))):=by
 refine al Tryz.func64 k64 rfl fun hb hw=>?_;have S:=St.init hi hb;obtain⟨x,hx⟩:∃x,x=nM (zLs ts) (gM (zLs ts)) (ts.drop a):=⟨_,rfl⟩
 rw[<-hx];unfold nM at hx;rw[gA]at hx;unfold c64;simp -dsimp only[aw,seval];refine aK S ha (gK _) hx (fM H ha _ (am hi _)) (fun ix a1 hx h1 h2 h3 hy σ1 S1 hl1=>?_) (fun e n b hx σ1 S1 hl1=>?_)
 case refine_2=>
  rw[<-hl1];simp -dsimp only[aw,seval];exact aH S1 hx
 rw[<-hl1];rw[bK]at hx;simp -dsimp only[aw,seval];refine aK S1 h2 (cd _) hx (nw H inW h2 (by decide +kernel) _ (am S1.at_ _)) (fun _ a2 hx h1 h2 h3 hy σ2 S2 hl2=>?_) (fun e n b hx σ1 S1 hl1=>?_)
 case refine_2=>
  rw[<-hl1];simp -dsimp only[aw,seval];exact aH S1 hx
 rw[<-hl2];rw[gA]at hx;simp -dsimp only[aw,seval];refine aK S2 h2 (gK _) hx (fM H h2 _ (am S2.at_ _)) (fun nm a3 hx h4 h5 h6 hy σ3 S3 hl3=>?_) (fun e n b hx σ1 S1 hl1=>?_)
 case refine_2=>
  rw[<-hl1];simp -dsimp only[aw,seval];exact aH S1 hx
 rw[<-hl3];simp -dsimp only[aw,seval];have hlt:a<a3:=by unfold fE at h6;rw[Pa]at h6;omega
 refine aK S3 h5 (jw _ (Pe _)) hx (hB a3 hlt h5 _ (am S3.at_ _)) (fun l a4 hx h1 h2 h3 hy σ4 S4 hl4=>?_) (fun e n b hx σ1 S1 hl1=>?_)
 case refine_2=>
  rw[<-hl1];simp -dsimp only[aw,seval];exact aH S1 hx
 rw[<-hl4];simp -dsimp only[aw,seval];exact cx S4 h2 hx (by rw[bw];rfl) (by rw[bw];simp[Mb,aL,bc,kB,qN,kr,mK,qR,iC,nv,mS,m9,exZ,ca,bu,aT,aW,aw,seval])
theorem tS(hB:∀b,a<b->b≤ts.length->mO ts i b):Fun G 63 [.ptr i 0] σ (CQ vit ts i σ (ifC (zLs ts) (gM (zLs ts)) (ts.drop a))):=by
 refine al Tryz.func63 k63 rfl fun hb hw=>?_;have S:=St.init hi hb;obtain⟨x,hx⟩:∃x,x=ifC (zLs ts) (gM (zLs ts)) (ts.drop a):=⟨_,rfl⟩
 rw[<-hx];unfold ifC at hx;rw[bK]at hx;unfold c63;simp -dsimp only[aw,seval];refine aK S ha (cd _) hx (b8 H (ah 40) ha (by decide +kernel) _ (am S.at_ _)) (fun _ a1 hx h1 h2 h3 hy σ1 S1 hl1=>?_) (fun e n b hx σ1 S1 hl1=>?_)
 case refine_2=>
  rw[<-hl1];simp -dsimp only[aw,seval];exact aH S1 hx
 rw[<-hl1];rw[tD]at hx;simp -dsimp only[aw,seval];have hlt:a<a1:=by unfold fE at h3;rw[Pa]at h3;omega
 refine aK S1 h2 (CS _) hx (rI H h2 _ (am S1.at_ _)) (fun e a2 hx h4 h5 h6 hy σ2 S2 hl2=>?_) (fun e n b hx σ1 S1 hl1=>?_)
 case refine_2=>
  rw[<-hl1];simp -dsimp only[aw,seval];exact aH S1 hx
 rw[<-hl2];rw[bK]at hx;simp -dsimp only[aw,seval,au];refine aK S2 h5 (cd _) hx (b8 H (ah 41) h5 (by decide +kernel) _ (am S2.at_ _)) (fun _ a3 hx h7 h8 h9 hy σ3 S3 hl3=>?_) (fun e n b hx σ1 S1 hl1=>?_)
 case refine_2=>
  rw[<-hl1];simp -dsimp only[aw,seval];exact aH S1 hx
 rw[<-hl3];simp -dsimp only[aw,seval];refine aK S3 h8 (jw _ (Pe _)) hx (hB a3 (by omega) h8 _ (am S3.at_ _)) (fun l a4 hx h1 h2 h3 hy σ4 S4 hl4=>?_) (fun e n b hx σ1 S1 hl1=>?_)
 case refine_2=>
  rw[<-hl1];simp -dsimp only[aw,seval];exact aH S1 hx
 rw[<-hl4];simp -dsimp only[aw,seval];refine gn H (m:=GH) (by decide +kernel) S4 h2 (fun hs2 hlt2 σ5 S5 hl5=>?_) (fun hs2=>?_)
 .rw[dM hs2]at hx;rw[<-hl5];simp -dsimp only[aw,seval];refine aK S5 hlt2 (jw _ (Pe _)) hx (hB (a4+1) (by omega) hlt2 _ (am S5.at_ _)) (fun m a6 hx h1 h2 h3 hy σ6 S6 hl6=>?_) (fun e n b hx σ1 S1 hl1=>?_)
  case refine_2=>
   rw[<-hl1];simp -dsimp only[aw,seval];exact aH S1 hx
  rw[<-hl6];simp -dsimp only[aw,seval];exact cx S6 h2 hx (by rw[bw];rfl) (by rw[bw];simp[Jg,aL,bc,kB,qN,kr,mK,qR,iC,nv,mS,m9,aw,seval])
 .rw[dO hs2]at hx;simp -dsimp only[aw,seval];exact cx S4 h2 hx (by rw[bw];rfl) (by rw[bw];simp[Jg,aL,bc,kB,qN,kr,mK,qR,iC,nv,mS,m9,aw,seval])
end
end Go.Proofs.YtnhphlmblenapaaGreatDoor
namespace Go.Proofs.YtnhphlmblenapaaGreatDoor
open Go.RowKit
theorem eZ{α:Type}(y:CP α):y=y.bind .ok:=by cases y<;>rfl
theorem uR(z:Int)(p:List Tok):Tk bi p.length p ((gM z).rest [] p):=by have:=sn z [] p;simp only[bi,Nat.zero_add]at this;exact this
theorem Hp(z:Int)(r:List Tok):Tk gq r.length r (ifC z (gM z) r):=GS z fun p _=>uR z p
theorem Es(z:Int)(r:List Tok):Tk gq r.length r (nM z (gM z) r):=yi z fun p _=>uR z p
abbrev sM(ts:List Tok)(i b:Nat):Prop:=∀σ:LLV,σ[i]? = some (pb ts b)->Fun G 26 [.ptr i 0] σ (CQ vit ts i σ (jt (zLs ts) (ts.drop b)))
section
variable {ts : List Tok} {a i : Nat} (H : TsV ts) (ha : a ≤ ts.length)
include H ha
theorem qW(hI:∀b,a<b->b≤ts.length->sM ts i b):mO ts i a:=fun σ hi=>by
 refine al Tryz.func86 k86 rfl fun hb hw=>?_;have S:=St.init hi hb;have hL:=H.ok.len;obtain⟨x,hx⟩:∃x,x=fc (zLs ts) (gM (zLs ts)) (ts.drop a):=⟨_,rfl⟩
 rw[<-hx];unfold fc at hx;rw[bK,mQ]at hx;unfold c86;simp -dsimp only[aw,seval];refine f7 (aK S ha (cd _) hx (b8 H (ah 123) ha (by decide +kernel) _ (am S.at_ _)) (fun _ a1 hx h1 h2 h3 hy σ1 S1 hl1=>?_) (fun e n b hx σ1 S1 hl1=>?_))
 case refine_2=>
  rw[<-hl1];simp -dsimp only[aw,seval];exact aH S1 hx
 rw[<-hl1];simp -dsimp only[aw,seval];have hlt:a<a1:=by unfold fE at h3;rw[Pa]at h3;omega
 refine aI [0,3] (R:=fun(j:Nat) ρ σ'=>∃(a1:Nat) (l:List It) (σ2:LLV),ρ=[(0,.ptr i 0),(3,.own 54 12 (l.map dit))]/\σ'=σ2++[]/\St σ i ts a1 σ2/\a<a1/\a1≤ts.length/\l.length+j≤2*a1/\j≤a1/\x=ic (zLs ts) l (ts.drop a1)) ts.length ⟨a1,[],σ1,rfl,rfl,S1,hlt,h2,by simp,by omega,hx⟩ ?_ _;rintro j ρ' σ' hj ⟨a1,l,σ2,rfl,rfl,S2,h4,h5,h6,h7,hx⟩;rw[wZ]at hx;rw[S1.len,<-S2.len];simp -dsimp only[aw,seval];refine js H (m:=ah 125) (by decide +kernel) S2 h5 (fun hs2 hlt2 σ3 S3 hl3=>?_) (fun hs2=>?_)
 .rw[dM hs2]at hx;rw[<-hl3];simp -dsimp only[aw,seval];exact cx S3 hlt2 hx rfl rfl
 rw[dO hs2]at hx;simp -dsimp only[aw,seval];refine aK S2 h5 (mX _ _) hx (hI a1 h4 h5 _ (am S2.at_ _)) (fun y a3 hx h7 h8 h9 hy σ4 S4 hl4=>?_) (fun e n b hx σ1 S1 hl1=>?_)
 case refine_2=>
  rw[<-hl1];simp -dsimp only[aw,seval];exact aH S1 hx
 rw[<-hl4];simp -dsimp only[aw,seval,bw];refine aU (by omega) ?_;simp -dsimp only[aw,seval];have hlt4:a1<a3:=by have:=jU y;rw[Pa]at h9;omega
 refine⟨by omega,Nxt.same (by simp) (aq S4.bb rfl) (by simp[an,V.under,S4.len];exact S4.lt) ⟨a3,l++[y],σ4,by rw[Pb,Pg,Ph,eV],rfl,S4,by omega,h8,by simp;omega,by omega,hx⟩⟩
theorem pZ(hB:∀b,a<b->b≤ts.length->mO ts i b):sM ts i a:=fun σ hi=>by
 refine al Tryz.func26 k26 rfl fun hb hw=>?_;have S:=St.init hi hb;obtain⟨x,hx⟩:∃x,x=jt (zLs ts) (ts.drop a):=⟨_,rfl⟩
 rw[<-hx];rw[uX]at hx;unfold c26
 have fin:∀{σ1:LLV} {a2:Nat} {v:It} {ρ:ac},St σ i ts a2 σ1->a2≤ts.length->x=.ok v (ts.drop a2)->get ρ 2=.ptr σ1.length 0->fin σ1.length Io (CQ vit ts i σ x) .ret ρ (σ1++[(dit v).map V.d]):=fun{σ1 a2 v ρ} S1 h2 hx hρ=>
  cx S1 h2 hx (by rw[bw];rfl) (by rw[bw,eV];simp[Io,aL,bc,hρ,aw,seval])
 simp -dsimp only[aw,seval];refine gn H (m:=DA) (by decide +kernel) S ha (fun hs2 hlt2 σ1 S1 hl1=>?_) (fun hs2=>?_)
 .rw[dM hs2,eZ (fA _ _ _)]at hx;rw[<-hl1];simp -dsimp only[aw,seval];refine aK S1 hlt2 (l8 _ _ _) hx (pf H hlt2 _ (am S1.at_ _) 2) (fun y a3 hx h7 h8 h9 hy σ4 S4 hl4=>?_) (fun e n b hx σ1 S1 hl1=>?_)
  case refine_2=>
   rw[<-hl1];simp -dsimp only[aw,seval];exact aH S1 hx
  rw[<-hl4];simp -dsimp only[aw,seval,bw];have:=fin (ρ:=[(2,.ptr σ4.length 0)]) S4 h8 hx rfl;rw[eV]at this;exact this
 rw[dO hs2]at hx;simp -dsimp only[aw,seval];refine gn H (m:=BZ) (by decide +kernel) S ha (fun hs2 hlt2 σ1 S1 hl1=>?_) (fun hs2=>?_)
 .rw[dM hs2,eZ (px _ _)]at hx;rw[<-hl1];simp -dsimp only[aw,seval];refine aK S1 hlt2 (xK _ _) hx (yC H hlt2 _ (am S1.at_ _)) (fun y a3 hx h7 h8 h9 hy σ4 S4 hl4=>?_) (fun e n b hx σ1 S1 hl1=>?_)
  case refine_2=>
   rw[<-hl1];simp -dsimp only[aw,seval];exact aH S1 hx
  rw[<-hl4];simp -dsimp only[aw,seval,bw];have:=fin (ρ:=[(2,.ptr σ4.length 0)]) S4 h8 hx rfl;rw[eV]at this;exact this
 rw[dO hs2]at hx;simp -dsimp only[aw,seval];refine gn H (m:=ifW) (by decide +kernel) S ha (fun hs2 hlt2 σ1 S1 hl1=>?_) (fun hs2=>?_)
 .rw[dM hs2,eZ (ifC _ _ _)]at hx;rw[<-hl1];simp -dsimp only[aw,seval];refine aK S1 hlt2 (Hp _ _) hx (tS H hlt2 _ (am S1.at_ _) fun b h1 h2=>hB b (by omega) h2) (fun y a3 hx h7 h8 h9 hy σ4 S4 hl4=>?_) (fun e n b hx σ1 S1 hl1=>?_)
  case refine_2=>
   rw[<-hl1];simp -dsimp only[aw,seval];exact aH S1 hx
  rw[<-hl4];simp -dsimp only[aw,seval,bw];have:=fin (ρ:=[(2,.ptr σ4.length 0)]) S4 h8 hx rfl;rw[eV]at this;exact this
 rw[dO hs2]at hx;simp -dsimp only[aw,seval];refine gn H (m:=Bo) (by decide +kernel) S ha (fun hs2 hlt2 σ1 S1 hl1=>?_) (fun hs2=>?_)
 .rw[dM hs2,eZ (nM _ _ _)]at hx;rw[<-hl1];simp -dsimp only[aw,seval];refine aK S1 hlt2 (Es _ _) hx (zk H hlt2 _ (am S1.at_ _) fun b h1 h2=>hB b (by omega) h2) (fun y a3 hx h7 h8 h9 hy σ4 S4 hl4=>?_) (fun e n b hx σ1 S1 hl1=>?_)
  case refine_2=>
   rw[<-hl1];simp -dsimp only[aw,seval];exact aH S1 hx
  rw[<-hl4];simp -dsimp only[aw,seval,bw];have:=fin (ρ:=[(2,.ptr σ4.length 0)]) S4 h8 hx rfl;rw[eV]at this;exact this
 rw[dO hs2]at hx;simp -dsimp only[aw,seval];refine gn H (m:=vT) (by decide +kernel) S ha (fun hs2 hlt2 σ1 S1 hl1=>?_) (fun hs2=>?_)
 .rw[dM hs2,eZ (lg _ _)]at hx;rw[<-hl1];simp -dsimp only[aw,seval];refine aK S1 hlt2 (sZ _ _) hx (u0 H hlt2 _ (am S1.at_ _)) (fun y a3 hx h7 h8 h9 hy σ4 S4 hl4=>?_) (fun e n b hx σ1 S1 hl1=>?_)
  case refine_2=>
   rw[<-hl1];simp -dsimp only[aw,seval];exact aH S1 hx
  rw[<-hl4];simp -dsimp only[aw,seval,bw];have:=fin (ρ:=[(2,.ptr σ4.length 0)]) S4 h8 hx rfl;rw[eV]at this;exact this
 rw[dO hs2,eZ (fA _ _ _)]at hx;simp -dsimp only[aw,seval];refine aK S ha (l8 _ _ _) hx (pf H ha _ (am S.at_ _) 1) (fun y a3 hx h7 h8 h9 hy σ4 S4 hl4=>?_) (fun e n b hx σ1 S1 hl1=>?_)
 case refine_2=>
  rw[<-hl1];simp -dsimp only[aw,seval];exact aH S1 hx
 rw[<-hl4];simp -dsimp only[aw,seval,bw];have:=fin (ρ:=[(2,.ptr σ4.length 0)]) S4 h8 hx rfl;rw[eV]at this;exact this
end
theorem rQ{ts:List Tok}{i:Nat}(H:TsV ts):∀(n a:Nat),a≤ts.length->ts.length-a≤n->sM ts i a/\mO ts i a
 | 0,a,ha,hn=>⟨pZ H ha fun b h1 h2=>by omega,qW H ha fun b h1 h2=>by omega⟩
 | n+1,a,ha,hn=>⟨pZ H ha fun b h1 h2=>(rQ H n b h2 (by omega)).2,qW H ha fun b h1 h2=>(rQ H n b h2 (by omega)).1⟩
theorem A1{ts:List Tok}{i a:Nat}(H:TsV ts)(ha:a≤ts.length):sM ts i a:=(rQ H _ a ha (Nat.le_refl _)).1
theorem yH{ts:List Tok}{i a:Nat}(H:TsV ts)(ha:a≤ts.length):mO ts i a:=(rQ H _ a ha (Nat.le_refl _)).2
end Go.Proofs.YtnhphlmblenapaaGreatDoor
namespace Go.Proofs.YtnhphlmblenapaaGreatDoor
open Go.RowKit
section
variable {ts : List Tok} {a i : Nat} (H : TsV ts) (ha : a ≤ ts.length) (σ : LLV) (hi : σ[i]? = some (pb ts a))
include H ha hi
theorem vG:Fun G 198 [.ptr i 0] σ (CQ (fun n=>.d (aa n)) ts i σ (pC (zLs ts) (ts.drop a))):=by
 refine al Tryz.func198 OZ rfl fun hb hw=>?_;have S:=St.init hi hb;have hL:=H.ok.len;obtain⟨x,hx⟩:∃x,x=pC (zLs ts) (ts.drop a):=⟨_,rfl⟩
 rw[<-hx];unfold pC at hx;unfold Mh;simp -dsimp only[aw,seval];refine f7 (js H (m:=ah 91) (by decide +kernel) S ha (fun hs2 hlt2 σ2 S2 hl2=>?_) (fun hs2=>?_))
 case refine_2=>
  rw[dO hs2]at hx;simp -dsimp only[aw,seval];exact cx S ha hx rfl rfl
 rw[dM hs2,jn]at hx;rw[<-hl2];simp -dsimp only[aw,seval];refine aK S2 hlt2 (iW _) hx (ef H hlt2 _ (am S2.at_ _)) (fun n a3 hx h4 h5 h6 hy σ3 S3 hl3=>?_) (fun e n b hx σ1 S1 hl1=>?_)
 case refine_2=>
  rw[<-hl1];simp -dsimp only[aw,seval];exact aH S1 hx
 have ha3:a3=a+1+1:=by
  have h:=C9 hy;unfold cm at h;split at h
  .cases h
  .rename_i t r he;split at h
   .simp only[Option.some.injEq,Prod.mk.injEq]at h;have h2:=congrArg List.length he;rw[h.2]at h2;simp only[Pa,List.length_cons]at h2;omega
   .cases h
 rw[<-hl3];by_cases hn:n<1
 .rw[if_pos hn]at hx;have hi3:=S3.at_;have hF:=m6 ts a3 (a+1) i 5 H (by omega) (σ3++[]) (am hi3 _);have hbo:=am hi3 [];unfold pb at hbo;have hw1:IntKind.i64.wrap (((a3:Nat):Int)-1)=((a+1:Nat):Int):=by rw[ha3,bI (by omega) (by omega)];omega
  simp -dsimp only[aw,seval,decide_eq_true hn,hbo,hw1];refine aE hF fun o σ' ⟨e1,e2⟩=>?_;subst e1;subst e2;simp -dsimp only[aw,seval,aS];exact aH S3 hx
 .rw[if_neg hn,bK]at hx;simp -dsimp only[aw,seval,decide_eq_false hn];refine aK S3 h5 (cd _) hx (b8 H (ah 93) h5 (by decide +kernel) _ (am S3.at_ _)) (fun _ a4 hx h7 h8 h9 hy σ4 S4 hl4=>?_) (fun e n b hx σ1 S1 hl1=>?_)
  case refine_2=>
   rw[<-hl1];simp -dsimp only[aw,seval];exact aH S1 hx
  rw[<-hl4];simp -dsimp only[aw,seval];exact cx S4 h8 hx rfl rfl
theorem lm(m:Int):Fun G 140 [.ptr i 0,.d (aa m)] σ (CQ (fun f=>.agg ((dfl f).map V.d)) ts i σ (eD (zLs ts) m (ts.drop a))):=by
 refine al Tryz.func140 OO rfl fun hb hw=>?_;have S:=St.init hi hb;obtain⟨x,hx⟩:∃x,x=eD (zLs ts) m (ts.drop a):=⟨_,rfl⟩
 rw[<-hx];unfold eD at hx;rw[gA]at hx;unfold KV;simp -dsimp only[aw,seval];refine aK S ha (gK _) hx (fM H ha _ (am hi _)) (fun s a1 hx h1 h2 h3 hy σ1 S1 hl1=>?_) (fun e n b hx σ1 S1 hl1=>?_)
 case refine_2=>
  rw[<-hl1];simp -dsimp only[aw,seval];exact aH S1 hx
 rw[<-hl1];simp -dsimp only[aw,seval];refine aK S1 h2 (uj _ _) hx (vG H h2 _ (am S1.at_ _)) (fun k a2 hx h1 h2 h3 hy σ2 S2 hl2=>?_) (fun e n b hx σ1 S1 hl1=>?_)
 case refine_2=>
  rw[<-hl1];simp -dsimp only[aw,seval];exact aH S1 hx
 rw[<-hl2];rw[bK]at hx;simp -dsimp only[aw,seval];refine aK S2 h2 (cd _) hx (b8 H (ah 58) h2 (by decide +kernel) _ (am S2.at_ _)) (fun _ a3 hx h1 h2 h3 hy σ3 S3 hl3=>?_) (fun e n b hx σ1 S1 hl1=>?_)
 case refine_2=>
  rw[<-hl1];simp -dsimp only[aw,seval];exact aH S1 hx
 rw[<-hl3];rw[jn]at hx;simp -dsimp only[aw,seval];refine aK S3 h2 (iW _) hx (ef H h2 _ (am S3.at_ _)) (fun w a4 hx h1 h2 h3 hy σ4 S4 hl4=>?_) (fun e n b hx σ1 S1 hl1=>?_)
 case refine_2=>
  rw[<-hl1];simp -dsimp only[aw,seval];exact aH S1 hx
 rw[<-hl4];by_cases h0:m=0
 .rw[if_pos h0,bK,cN]at hx;simp -dsimp only[aw,seval,decide_eq_true h0];refine aK S4 h2 (cd _) hx (b8 H (ah 61) h2 (by decide +kernel) _ (am S4.at_ _)) (fun _ a5 hx h1 h2 h3 hy σ5 S5 hl5=>?_) (fun e n b hx σ1 S1 hl1=>?_)
  case refine_2=>
   rw[<-hl1];simp -dsimp only[aw,seval];exact aH S1 hx
  rw[<-hl5];simp -dsimp only[aw,seval];refine aK S5 h2 (iW _) hx (ef H h2 _ (am S5.at_ _)) (fun v a6 hx h1 h2 h3 hy σ6 S6 hl6=>?_) (fun e n b hx σ1 S1 hl1=>?_)
  case refine_2=>
   rw[<-hl1];simp -dsimp only[aw,seval];exact aH S1 hx
  rw[<-hl6];rw[bK]at hx;simp -dsimp only[aw,seval];refine aK S6 h2 (cd _) hx (b8 H (ah 59) h2 (by decide +kernel) _ (am S6.at_ _)) (fun _ a7 hx h1 h2 h3 hy σ7 S7 hl7=>?_) (fun e n b hx σ1 S1 hl1=>?_)
  case refine_2=>
   rw[<-hl1];simp -dsimp only[aw,seval];exact aH S1 hx
  rw[<-hl7];simp -dsimp only[aw,seval];exact cx S7 h2 hx rfl (by simp[Ea,aL,bc,dfl,aw,seval])
 .rw[if_neg h0]at hx;simp only[CP.bind]at hx;rw[bK]at hx;simp -dsimp only[aw,seval,decide_eq_false h0];refine aK S4 h2 (cd _) hx (b8 H (ah 59) h2 (by decide +kernel) _ (am S4.at_ _)) (fun _ a7 hx h1 h2 h3 hy σ7 S7 hl7=>?_) (fun e n b hx σ1 S1 hl1=>?_)
  case refine_2=>
   rw[<-hl1];simp -dsimp only[aw,seval];exact aH S1 hx
  rw[<-hl7];simp -dsimp only[aw,seval];exact cx S7 h2 hx rfl (by simp[Ea,aL,bc,dfl,aw,seval])
theorem uK:Fun G 85 [.ptr i 0] σ (CQ (fun l=>.d (.sl (l.map dfl))) ts i σ (fk (zLs ts) (ts.drop a))):=by
 refine al Tryz.func85 k85 rfl fun hb hw=>?_;have S:=St.init hi hb;have hL:=H.ok.len;obtain⟨x,hx⟩:∃x,x=fk (zLs ts) (ts.drop a):=⟨_,rfl⟩
 rw[<-hx];rw[show fk (zLs ts) (ts.drop a)=bY (fT (zLs ts)) [] (ts.drop a)from rfl]at hx;unfold c85;simp -dsimp only[aw,seval];refine aI [0,3] (R:=fun(j:Nat) ρ σ'=>∃(a1:Nat) (l:List Fl) (σ2:LLV),ρ=[(0,.ptr i 0),(3,.own 74 5 (l.map dfl))]/\σ'=σ2++[]/\St σ i ts a1 σ2/\a1≤ts.length/\l.length+j≤2*a1/\j≤a1/\x=bY (fT (zLs ts)) l (ts.drop a1)) ts.length ⟨a,[],σ,rfl,(Pf _).symm,S,ha,by simp,by omega,hx⟩ ?_ _;rintro j ρ' σ' hj ⟨a1,l,σ2,rfl,rfl,S2,h4,h5,h6,hx⟩;rw[gy (lx _).eats]at hx;rw[<-S2.len];unfold fT at hx
 have next:∀(m:Int) (r1:Nat),a1<r1->r1≤ts.length->x=((eD (zLs ts) m (ts.drop r1)).bind fun y q=>.ok (l++[y]) q).bind (fun v p=>bY (fT (zLs ts)) v p)->x=(eD (zLs ts) m (ts.drop r1)).bind fun y q=>bY (fT (zLs ts)) (l++[y]) q:=fun m r1 _ _ h=>by rw[h,cN];rfl
 simp -dsimp only[aw,seval];refine gn H (m:=ro) (by decide +kernel) S2 h4 (fun hs2 hlt2 σ3 S3 hl3=>?_) (fun hs1=>?_)
 .simp only[hs2]at hx;have hx:=next 1 (a1+1) (by omega) hlt2 hx
  rw[<-hl3];simp -dsimp only[aw,seval];refine aK S3 hlt2 (iH _ _ _) hx (lm H hlt2 _ (am S3.at_ _) 1) (fun y a3 hx h7 h8 h9 hy σ4 S4 hl4=>?_) (fun e n b hx σ1 S1 hl1=>?_)
  case refine_2=>
   rw[<-hl1];simp -dsimp only[aw,seval];exact aH S1 hx
  rw[<-hl4];simp -dsimp only[aw,seval,dfl];refine aU (by omega) ?_;simp -dsimp only[aw,seval];have hlt4:a1+1<a3:=by unfold fE at h9;rw[Pa]at h9;omega
  exact⟨by omega,Nxt.same (by simp) (aq S4.bb rfl) (by simp[an,V.under,S4.len];exact S4.lt) ⟨a3,l++[y],σ4,by rw[Pb];rfl,rfl,S4,h8,by simp;omega,by omega,hx⟩⟩
 simp -dsimp only[aw,seval];refine gn H (m:=nx) (by decide +kernel) S2 h4 (fun hs2 hlt2 σ3 S3 hl3=>?_) (fun hs2=>?_)
 .simp only[hs1,hs2]at hx;have hx:=next 2 (a1+1) (by omega) hlt2 hx
  rw[<-hl3];simp -dsimp only[aw,seval];refine aK S3 hlt2 (iH _ _ _) hx (lm H hlt2 _ (am S3.at_ _) 2) (fun y a3 hx h7 h8 h9 hy σ4 S4 hl4=>?_) (fun e n b hx σ1 S1 hl1=>?_)
  case refine_2=>
   rw[<-hl1];simp -dsimp only[aw,seval];exact aH S1 hx
  rw[<-hl4];simp -dsimp only[aw,seval,dfl];refine aU (by omega) ?_;simp -dsimp only[aw,seval];have hlt4:a1+1<a3:=by unfold fE at h9;rw[Pa]at h9;omega
  exact⟨by omega,Nxt.same (by simp) (aq S4.bb rfl) (by simp[an,V.under,S4.len];exact S4.lt) ⟨a3,l++[y],σ4,by rw[Pb];rfl,rfl,S4,h8,by simp;omega,by omega,hx⟩⟩
 simp -dsimp only[aw,seval];refine gn H (m:=mV) (by decide +kernel) S2 h4 (fun hs3 hlt2 σ3 S3 hl3=>?_) (fun hs3=>?_)
 .simp only[hs1,hs2,hs3]at hx;have hx:=next 0 (a1+1) (by omega) hlt2 hx
  rw[<-hl3];simp -dsimp only[aw,seval];refine aK S3 hlt2 (iH _ _ _) hx (lm H hlt2 _ (am S3.at_ _) 0) (fun y a3 hx h7 h8 h9 hy σ4 S4 hl4=>?_) (fun e n b hx σ1 S1 hl1=>?_)
  case refine_2=>
   rw[<-hl1];simp -dsimp only[aw,seval];exact aH S1 hx
  rw[<-hl4];simp -dsimp only[aw,seval,dfl];refine aU (by omega) ?_;simp -dsimp only[aw,seval];have hlt4:a1+1<a3:=by unfold fE at h9;rw[Pa]at h9;omega
  exact⟨by omega,Nxt.same (by simp) (aq S4.bb rfl) (by simp[an,V.under,S4.len];exact S4.lt) ⟨a3,l++[y],σ4,by rw[Pb];rfl,rfl,S4,h8,by simp;omega,by omega,hx⟩⟩
 .simp only[hs1,hs2,hs3]at hx;simp -dsimp only[aw,seval];exact cx S2 h4 hx rfl rfl
end
end Go.Proofs.YtnhphlmblenapaaGreatDoor
namespace Go.Proofs.YtnhphlmblenapaaGreatDoor
open Go.RowKit
def kbz:List V:=[.d (ae ⟨#[]⟩),.d (ae ⟨#[]⟩),.nil,.nil]
def kbx(nm p:ByteArray)(f b:V):List V:=[.d (ae nm),.d (ae p),f,b]
section
variable {ts : List Tok} {a i : Nat} (H : TsV ts) (ha : a ≤ ts.length) (σ : LLV) (hi : σ[i]? = some (pb ts a))
include H ha hi
theorem oX:Fun G 34 [.ptr i 0] σ (CQ vkl ts i σ (dR (zLs ts) (ts.drop a))):=by
 refine al Tryz.func34 k34 rfl fun hb hw=>?_;have S:=St.init hi hb;have hL:=H.ok.len;obtain⟨x,hx⟩:∃x,x=dR (zLs ts) (ts.drop a):=⟨_,rfl⟩
 rw[<-hx];unfold dR at hx;rw[bK]at hx;unfold c34
 refine lR 4 (fun ρ σ'=>∃(nm par:ByteArray) (a2:Nat) (σ2:LLV),(ρ=[(0,.ptr i 0),(2,.ptr σ2.length 0),(3,.ptr (σ2.length+1) 0)]\/ρ=[(0,.ptr i 0),(2,.ptr σ2.length 0),(3,.ptr (σ2.length+1) 0),(11,ak false)])/\σ'=σ2++[kbz,kbx nm par .nil .nil]/\St σ i ts a2 σ2/\a2≤ts.length/\
  x=bJ (zLs ts) (ah 123) (ts.drop a2) fun r4=>(fk (zLs ts) r4).bind fun f r5=>(gr (zLs ts) r5).bind fun b r6=>bJ (zLs ts) (ah 125) r6 fun r7=>.ok ⟨nm,par,f,b⟩ r7) ?_ ?_
 .simp only[jy];simp -dsimp only[aw,seval];refine aK S ha (cd _) hx (nw H jJ ha (by decide +kernel) _ (am S.at_ _)) (fun _ a1 hx h1 h2 h3 hy σ1 S1 hl1=>?_) (fun e n b hx σ1 S1 hl1=>?_)
  case refine_2=>
   rw[<-hl1];simp -dsimp only[aw,seval];exact aH S1 hx
  rw[<-hl1];rw[gA]at hx;simp -dsimp only[aw,seval];refine aK S1 h2 (gK _) hx (fM H h2 _ (am S1.at_ _)) (fun nm a2 hx h1 h2 h3 hy σ2 S2 hl2=>?_) (fun e n b hx σ1 S1 hl1=>?_)
  case refine_2=>
   rw[<-hl1];simp -dsimp only[aw,seval];exact aH S1 hx
  rw[<-hl2];simp -dsimp only[aw,seval];refine gn H (m:=uH) (by decide +kernel) S2 h2 (fun hs2 hlt2 σ3 S3 hl3=>?_) (fun hs2=>?_)
  .rw[dM hs2]at hx;rw[<-hl3];simp -dsimp only[aw,seval];refine aK S3 hlt2 (gK _) hx (fM H hlt2 _ (am S3.at_ _)) (fun par a4 hx h1 h2 h3 hy σ1 S1 hl1=>?_) (fun e n b hx σ1 S1 hl1=>?_)
   case refine_2=>
    rw[<-hl1];simp -dsimp only[aw,seval];exact aH S1 hx
   rw[<-hl1];simp -dsimp only[aw,seval];exact Mid.mk ⟨nm,par,a4,σ1,.inl rfl,rfl,S1,h2,hx⟩
  .rw[dO hs2]at hx;simp -dsimp only[aw,seval];exact Mid.mk ⟨nm,⟨#[]⟩,a2,σ2,.inr rfl,rfl,S2,h2,hx⟩
 .simp only[jy];rintro ρ' σ' ⟨nm,par,a2,σ2,hρ,rfl,S2,h2,hx⟩;rw[<-S2.len];rw[bK]at hx;unfold kbz kbx
  refine lR 1 (fun ρ σ'=>∃(a2:Nat) (σ2:LLV),ρ=[(0,.ptr i 0),(2,.ptr σ2.length 0),(3,.ptr (σ2.length+1) 0)]/\σ'=σ2++[kbz,kbx nm par .nil .nil]/\St σ i ts a2 σ2/\a2≤ts.length/\
   x=(fk (zLs ts) (ts.drop a2)).bind fun f r5=>(gr (zLs ts) r5).bind fun b r6=>bJ (zLs ts) (ah 125) r6 fun r7=>.ok ⟨nm,par,f,b⟩ r7) ?_ ?_
  .simp only[jy];rcases hρ with rfl|rfl
   all_goals
    simp -dsimp only[aw,seval];refine aK S2 h2 (cd _) hx (b8 H (ah 123) h2 (by decide +kernel) _ (am S2.at_ _)) (fun _ a3 hx h1 h2 h3 hy σ1 S1 hl1=>?_) (fun e n b hx σ1 S1 hl1=>?_)
    case refine_2=>
     rw[<-hl1];simp -dsimp only[aw,seval];exact aH S1 hx
    rw[<-hl1];simp -dsimp only[aw,seval];exact Mid.mk ⟨a3,σ1,rfl,rfl,S1,h2,hx⟩
  .simp only[jy];rintro ρ' σ' ⟨a3,σ3,rfl,rfl,S3,h3,hx⟩;rw[S2.len,<-S3.len];unfold kbz kbx;simp -dsimp only[aw,seval];refine aK S3 h3 (ri _ _) hx (uK H h3 _ (am S3.at_ _)) (fun fl a4 hx h1 h4 h5 hy σ1 S1 hl1=>?_) (fun e n b hx σ1 S1 hl1=>?_)
   case refine_2=>
    rw[<-hl1];simp -dsimp only[aw,seval];exact aH S1 hx
   rw[<-hl1];unfold gr at hx;simp -dsimp only[aw,seval]
   refine qy [0,2,3] (R:=fun(j:Nat) ρ σ'=>∃(a1:Nat) (l:List Bk) (σ2:LLV),ρ=[(0,.ptr i 0),(2,.ptr σ2.length 0),(3,.ptr (σ2.length+1) 0)]/\σ'=σ2++[kbz,kbx nm par (.d (.sl (fl.map dfl))) (.own 46 2 (l.map dbk))]/\St σ i ts a1 σ2/\a1≤ts.length/\l.length+j≤2*a1/\j≤a1/\
    x=(bY (fun(l:List Bk) r=>(acc dA r).map fun r1=>(gQ (zLs ts) r1).bind fun b r2=>.ok (l++[b]) r2) l (ts.drop a1)).bind fun b r6=>bJ (zLs ts) (ah 125) r6 fun r7=>.ok ⟨nm,par,fl,b⟩ r7) ts.length (En (σ:=σ1) (cs:=kbx nm par (.d (.sl (fl.map dfl))) .nil) (fo:=3) (q:=1) 46 2 rfl rfl) ⟨a4,[],σ1,rfl,rfl,S1,h4,by simp,by omega,hx⟩ ?_ _
   rintro j ρ' σ' hj ⟨a5,l,σ5,rfl,rfl,S5,h6,h7,h8,hx⟩;rw[gy (lu _).eats]at hx;rw[S1.len,<-S5.len];unfold kbz kbx;simp -dsimp only[aw,seval];refine gn H (m:=dA) (by decide +kernel) S5 h6 (fun hs2 hlt2 σ6 S6 hl6=>?_) (fun hs2=>?_)
   .simp only[hs2,Option.map_some,cN]at hx;unfold gQ at hx;rw[gA,cN]at hx;rw[<-hl6];simp -dsimp only[aw,seval];refine aK S6 hlt2 (gK _) hx (fM H hlt2 _ (am S6.at_ _)) (fun bn a7 hx h1 h9 h10 hy σ7 S7 hl7=>?_) (fun e n b hx σ1 S1 hl1=>?_)
    case refine_2=>
     rw[<-hl1];simp -dsimp only[aw,seval];exact aH S1 hx
    rw[cN]at hx;rw[<-hl7];simp -dsimp only[aw,seval];have hlt7:a5+1<a7:=by unfold fE at h10;rw[Pa]at h10;omega
    refine aK S7 h9 (jw _ (Pe _)) hx (yH H h9 _ (am S7.at_ _)) (fun bl a8 hx h1 h11 h12 hy σ8 S8 hl8=>?_) (fun e n b hx σ1 S1 hl1=>?_)
    case refine_2=>
     rw[<-hl1];simp -dsimp only[aw,seval];exact aH S1 hx
    have hx:x=(bY (fun(l:List Bk) r=>(acc dA r).map fun r1=>(gQ (zLs ts) r1).bind fun b r2=>.ok (l++[b]) r2) (l++[(bn,bl)]) (ts.drop a8)).bind fun b r6=>bJ (zLs ts) (ah 125) r6 fun r7=>.ok ⟨nm,par,fl,b⟩ r7:=hx;rw[<-hl8];simp -dsimp only[aw,seval];refine aU (by omega) ?_;simp -dsimp only[aw,seval];exact⟨by omega,Nxt.to (σ8++[kbz,kbx nm par (.d (.sl (fl.map dfl))) (.own 46 2 ((l++[(bn,bl)]).map dbk))]) [[.d (ae bn),.d (.sl (bl.map dit))]] (by simp[kbz,kbx,dbk,cT]) (by simp) (aq S8.bb rfl) (by simp[an,V.under,S8.len];have:=S8.lt;omega) ⟨a8,l++[(bn,bl)],σ8,rfl,rfl,S8,h11,by simp;omega,by omega,hx⟩⟩
   .simp only[hs2,Option.map_none,CP.bind]at hx;rw[bK]at hx;simp -dsimp only[aw,seval];refine aK S5 h6 (cd _) hx (b8 H (ah 125) h6 (by decide +kernel) _ (am S5.at_ _)) (fun _ a6 hx h1 h2 h3 hy σ6 S6 hl6=>?_) (fun e n b hx σ1 S1 hl1=>?_)
    case refine_2=>
     rw[<-hl1];simp -dsimp only[aw,seval];exact aH S1 hx
    rw[<-hl6];simp -dsimp only[aw,seval];exact cx S6 h2 hx rfl (by simp[JS,aL,bc,aw,seval])
end
theorem oA(c:Kl):1≤ksz c:=by unfold ksz;omega
theorem isE{ts:List Tok}{a:Nat}(h:a<ts.length):(ts.drop a).isEmpty=false:=by rw[List.drop_eq_getElem_cons h];rfl
def dkk(c:Kl):List D:=[ae c.name,ae c.par,.sl (c.flds.map dfl),.sl (c.blks.map dbk)]
section
variable {ts : List Tok} {a i : Nat} (H : TsV ts) (ha : a ≤ ts.length) (σ : LLV) (hi : σ[i]? = some (pb ts a))
include H ha hi
theorem u4:Fun G 25 [.ptr i 0,.bnd 26 [.ptr i 0]] σ (CQ (fun l=>.d (.sl (l.map dit))) ts i σ (kP (zLs ts) (ts.drop a))):=by
 refine al Tryz.func25 k25 rfl fun hb hw=>?_;have S:=St.init hi hb;have hL:=H.ok.len;obtain⟨x,hx⟩:∃x,x=kP (zLs ts) (ts.drop a):=⟨_,rfl⟩
 rw[<-hx];unfold kP at hx;unfold c25;simp -dsimp only[aw,seval]
 refine aI [0,1,5] (R:=fun(j:Nat) ρ σ'=>∃(a1:Nat) (l:List It) (σ2:LLV),ρ=[(0,.ptr i 0),(1,.bnd 26 [.ptr i 0]),(5,.own 54 12 (l.map dit))]/\σ'=σ2++[]/\St σ i ts a1 σ2/\a1≤ts.length/\l.length+j≤2*a1/\j≤a1/\
  x=bY (fun l r=>if r.isEmpty=true then none else some ((jt (zLs ts) r).bind fun x r1=>.ok (l++[x]) r1)) l (ts.drop a1)) ts.length ⟨a,[],σ,rfl,(Pf _).symm,S,ha,by simp,by omega,hx⟩ ?_ _
 rintro j ρ' σ' hj ⟨a1,l,σ2,rfl,rfl,S2,h4,h5,h6,hx⟩;rw[gy (pS (mX (zLs ts)) jU)]at hx;rw[<-S2.len];simp -dsimp only[aw,seval];refine aj (gH ts a1 i _ (am S2.at_ [])) ?_;by_cases hlt:a1<ts.length
 .simp only[isE hlt,Bool.false_eq_true,if_false,cN]at hx;simp -dsimp only[aw,seval,decide_eq_true hlt];refine aK S2 h4 (mX _ _) hx (A1 H h4 _ (am S2.at_ _)) (fun y a3 hx h7 h8 h9 hy σ4 S4 hl4=>?_) (fun e n b hx σ1 S1 hl1=>?_)
  case refine_2=>
   rw[<-hl1];simp -dsimp only[aw,seval];exact aH S1 hx
  rw[<-hl4];simp -dsimp only[aw,seval,bw];refine aU (by omega) ?_;simp -dsimp only[aw,seval];have hlt4:a1<a3:=by have:=jU y;rw[Pa]at h9;omega
  exact⟨by omega,Nxt.same (by simp) (aq S4.bb rfl) (by have:=S4.lt;simp[an,V.under,V.unders,S4.len,this]) ⟨a3,l++[y],σ4,by rw[Pb,Pg,Ph,eV],rfl,S4,h8,by simp;omega,by omega,hx⟩⟩
 .rw[Pd (by omega)]at hx;simp only[Pi,if_true]at hx;simp -dsimp only[aw,seval,decide_eq_false hlt];exact cx S2 h4 (by rw[hx,Pd (by omega)]) rfl rfl
theorem wb:Fun G 43 [.ptr i 0,.bnd 34 [.ptr i 0]] σ (CQ (fun l=>.d (.sl (l.map dkk))) ts i σ (fB (zLs ts) (ts.drop a))):=by
 refine al Tryz.func43 k43 rfl fun hb hw=>?_;have S:=St.init hi hb;have hL:=H.ok.len;obtain⟨x,hx⟩:∃x,x=fB (zLs ts) (ts.drop a):=⟨_,rfl⟩
 rw[<-hx];unfold fB at hx;unfold c43;simp -dsimp only[aw,seval]
 refine aI [0,1,5] (R:=fun(j:Nat) ρ σ'=>∃(a1:Nat) (l:List Kl) (σ2:LLV),ρ=[(0,.ptr i 0),(1,.bnd 34 [.ptr i 0]),(5,.own 32 4 (l.map dkk))]/\σ'=σ2++[]/\St σ i ts a1 σ2/\a1≤ts.length/\l.length+j≤2*a1/\j≤a1/\
  x=bY (fun l r=>if r.isEmpty=true then none else some ((dR (zLs ts) r).bind fun x r1=>.ok (l++[x]) r1)) l (ts.drop a1)) ts.length ⟨a,[],σ,rfl,(Pf _).symm,S,ha,by simp,by omega,hx⟩ ?_ _
 rintro j ρ' σ' hj ⟨a1,l,σ2,rfl,rfl,S2,h4,h5,h6,hx⟩;rw[gy (pS (gb (zLs ts)) oA)]at hx;rw[<-S2.len];simp -dsimp only[aw,seval];refine aj (gH ts a1 i _ (am S2.at_ [])) ?_;by_cases hlt:a1<ts.length
 .simp only[isE hlt,Bool.false_eq_true,if_false,cN]at hx;simp -dsimp only[aw,seval,decide_eq_true hlt];refine aK S2 h4 (gb _ _) hx (oX H h4 _ (am S2.at_ _)) (fun y a3 hx h7 h8 h9 hy σ4 S4 hl4=>?_) (fun e n b hx σ1 S1 hl1=>?_)
  case refine_2=>
   rw[<-hl1];simp -dsimp only[aw,seval];exact aH S1 hx
  rw[<-hl4];simp -dsimp only[aw,seval];refine aU (by omega) ?_;simp -dsimp only[aw,seval];have hlt4:a1<a3:=by have:=oA y;rw[Pa]at h9;omega
  exact⟨by omega,Nxt.same (by simp) (aq S4.bb rfl) (by have:=S4.lt;simp[an,V.under,V.unders,S4.len,this]) ⟨a3,l++[y],σ4,by rw[Pb,Pg,Ph];rfl,rfl,S4,h8,by simp;omega,by omega,hx⟩⟩
 .rw[Pd (by omega)]at hx;simp only[Pi,if_true]at hx;simp -dsimp only[aw,seval,decide_eq_false hlt];exact cx S2 h4 (by rw[hx,Pd (by omega)]) rfl rfl
end
end Go.Proofs.YtnhphlmblenapaaGreatDoor
