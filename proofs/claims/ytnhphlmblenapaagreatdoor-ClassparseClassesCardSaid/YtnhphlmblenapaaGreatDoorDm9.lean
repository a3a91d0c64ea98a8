import Derived.Test.YtnhphlmblenapaaGreatDoorDm5
import Derived.Test.YtnhphlmblenapaaGreatDoorIr1
set_option linter.unusedVariables false
set_option linter.unusedSimpArgs false
set_option linter.unusedSectionVars false
set_option maxHeartbeats 4000000
open List renaming length_drop->TJ,map_append->TK,suffix_refl->TL,drop_eq_nil_of_le->TM,append_nil->TN,map_cons->TO,map_nil->TP
namespace Go.Proofs.YtnhphlmblenapaaGreatDoor
open Go.RowKit
section
variable {ts : List Tok} {a i : Nat} (H : TsV ts) (ha : a ≤ ts.length) (σ : LLV) (hi : σ[i]? = some (pb ts a))
include H ha hi
theorem rC(k:Int):Fun G 61 [.ptr i 0,.d (ab k)] σ (CQ vit ts i σ (fj (zLs ts) k (ts.drop a))):=by
 refine ae Tryz.func61 k61 rfl fun hb hw=>?_;have S:=St.init hi hb;obtain⟨x,hx⟩:∃x,x=fj (zLs ts) k (ts.drop a):=⟨_,rfl⟩
 rw[<-hx];unfold fj at hx;rw[wG]at hx;unfold c61;simp -dsimp only[aw,seval];refine aX S ha (Dz _) hx (sZ H ha _ (ah hi _)) (fun e a1 hx h1 h2 h3 hy σ1 S1 hl1=>?_) (fun e n b hx σ1 S1 hl1=>?_)
 case refine_2=>
  rw[<-hl1];simp -dsimp only[aw,seval];exact aS S1 hx
 rw[<-hl1];rw[bL]at hx;simp -dsimp only[aw,seval,au];refine aX S1 h2 (cf _) hx (ca H (aa 59) h2 (by decide +kernel) _ (ah S1.at_ _)) (fun _ a2 hx h1 h2 h3 hy σ2 S2 hl2=>?_) (fun e n b hx σ1 S1 hl1=>?_)
 case refine_2=>
  rw[<-hl1];simp -dsimp only[aw,seval];exact aS S1 hx
 rw[<-hl2];simp -dsimp only[aw,seval];exact cE S2 h2 hx (by rw[aM];rfl) (by rw[aM];simp[PO,aC,aQ,eM,jr,eG,gm,jb,dA,ga,gy,gw,aw,seval])
theorem xP:Fun G 65 [.ptr i 0] σ (CQ vit ts i σ (iY (zLs ts) (ts.drop a))):=by
 refine ae Tryz.func65 k65 rfl fun hb hw=>?_;have S:=St.init hi hb;obtain⟨x,hx⟩:∃x,x=iY (zLs ts) (ts.drop a):=⟨_,rfl⟩
 rw[<-hx];unfold iY at hx;unfold c65;simp -dsimp only[aw,seval];refine aX S ha (jL _ _) hx (m5 H ha _ (ah hi _)) (fun l a1 hx h1 h2 h3 hy σ1 S1 hl1=>?_) (fun e n b hx σ1 S1 hl1=>?_)
 case refine_2=>
  rw[<-hl1];simp -dsimp only[aw,seval];exact aS S1 hx
 rw[<-hl1];rw[bL]at hx;simp -dsimp only[aw,seval];refine aX S1 h2 (cf _) hx (oC H ⟨#[98,101,102,111,114,101]⟩ h2 (by decide +kernel) _ (ah S1.at_ _)) (fun _ a2 hx h1 h2 h3 hy σ2 S2 hl2=>?_) (fun e n b hx σ1 S1 hl1=>?_)
 case refine_2=>
  rw[<-hl1];simp -dsimp only[aw,seval];exact aS S1 hx
 rw[<-hl2];simp -dsimp only[aw,seval];refine aX S2 h2 (jL _ _) hx (m5 H h2 _ (ah S2.at_ _)) (fun m a3 hx h1 h2 h3 hy σ3 S3 hl3=>?_) (fun e n b hx σ1 S1 hl1=>?_)
 case refine_2=>
  rw[<-hl1];simp -dsimp only[aw,seval];exact aS S1 hx
 rw[<-hl3];rw[bL]at hx;simp -dsimp only[aw,seval];refine aX S3 h2 (cf _) hx (ca H (aa 59) h2 (by decide +kernel) _ (ah S3.at_ _)) (fun _ a4 hx h1 h2 h3 hy σ4 S4 hl4=>?_) (fun e n b hx σ1 S1 hl1=>?_)
 case refine_2=>
  rw[<-hl1];simp -dsimp only[aw,seval];exact aS S1 hx
 rw[<-hl4];simp -dsimp only[aw,seval];exact cE S4 h2 hx (by rw[aM];rfl) (by rw[aM];simp[OL,aC,aQ,eM,jr,eG,gm,jb,dA,ga,gy,gw,exZ,bt,aU,aH,aI,aw,seval])
abbrev oU(ts:List Tok)(i b:Nat):Prop:=∀σ:LLV,σ[i]? = some (pb ts b)->Fun G 86 [.ptr i 0] σ (CQ (fun l=>.d (.sl (l.map dit))) ts i σ (ig (zLs ts) (jK (zLs ts)) (ts.drop b)))
theorem CS(hB:∀b,a<b->b≤ts.length->oU ts i b):Fun G 64 [.ptr i 0] σ (CQ vit ts i σ (kY (zLs ts) (jK (zLs ts)) (ts.drop a))):=by
 refine ae Tryz.func64 k64 rfl fun hb hw=>?_;have S:=St.init hi hb;obtain⟨x,hx⟩:∃x,x=kY (zLs ts) (jK (zLs ts)) (ts.drop a):=⟨_,rfl⟩
 rw[<-hx];unfold kY at hx;rw[gj]at hx;unfold c64;simp -dsimp only[aw,seval];refine aX S ha (iG _) hx (gi H ha _ (ah hi _)) (fun ix a1 hx h1 h2 h3 hy σ1 S1 hl1=>?_) (fun e n b hx σ1 S1 hl1=>?_)
 case refine_2=>
  rw[<-hl1];simp -dsimp only[aw,seval];exact aS S1 hx
 rw[<-hl1];rw[bL]at hx;simp -dsimp only[aw,seval];refine aX S1 h2 (cf _) hx (oC H inW h2 (by decide +kernel) _ (ah S1.at_ _)) (fun _ a2 hx h1 h2 h3 hy σ2 S2 hl2=>?_) (fun e n b hx σ1 S1 hl1=>?_)
 case refine_2=>
  rw[<-hl1];simp -dsimp only[aw,seval];exact aS S1 hx
 rw[<-hl2];rw[gj]at hx;simp -dsimp only[aw,seval];refine aX S2 h2 (iG _) hx (gi H h2 _ (ah S2.at_ _)) (fun nm a3 hx h4 h5 h6 hy σ3 S3 hl3=>?_) (fun e n b hx σ1 S1 hl1=>?_)
 case refine_2=>
  rw[<-hl1];simp -dsimp only[aw,seval];exact aS S1 hx
 rw[<-hl3];simp -dsimp only[aw,seval];have hlt:a<a3:=by unfold gr at h6;rw[TJ]at h6;omega
 refine aX S3 h5 (kE _ (TL _)) hx (hB a3 hlt h5 _ (ah S3.at_ _)) (fun l a4 hx h1 h2 h3 hy σ4 S4 hl4=>?_) (fun e n b hx σ1 S1 hl1=>?_)
 case refine_2=>
  rw[<-hl1];simp -dsimp only[aw,seval];exact aS S1 hx
 rw[<-hl4];simp -dsimp only[aw,seval];exact cE S4 h2 hx (by rw[aM];rfl) (by rw[aM];simp[OW,aC,aQ,eM,jr,eG,gm,jb,dA,ga,gy,gw,exZ,bt,aU,aH,aI,aw,seval])
theorem xr(hB:∀b,a<b->b≤ts.length->oU ts i b):Fun G 63 [.ptr i 0] σ (CQ vit ts i σ (ifC (zLs ts) (jK (zLs ts)) (ts.drop a))):=by
 refine ae Tryz.func63 k63 rfl fun hb hw=>?_;have S:=St.init hi hb;obtain⟨x,hx⟩:∃x,x=ifC (zLs ts) (jK (zLs ts)) (ts.drop a):=⟨_,rfl⟩
 rw[<-hx];unfold ifC at hx;rw[bL]at hx;unfold c63;simp -dsimp only[aw,seval];refine aX S ha (cf _) hx (ca H (aa 40) ha (by decide +kernel) _ (ah S.at_ _)) (fun _ a1 hx h1 h2 h3 hy σ1 S1 hl1=>?_) (fun e n b hx σ1 S1 hl1=>?_)
 case refine_2=>
  rw[<-hl1];simp -dsimp only[aw,seval];exact aS S1 hx
 rw[<-hl1];rw[wG]at hx;simp -dsimp only[aw,seval];have hlt:a<a1:=by unfold gr at h3;rw[TJ]at h3;omega
 refine aX S1 h2 (Dz _) hx (sZ H h2 _ (ah S1.at_ _)) (fun e a2 hx h4 h5 h6 hy σ2 S2 hl2=>?_) (fun e n b hx σ1 S1 hl1=>?_)
 case refine_2=>
  rw[<-hl1];simp -dsimp only[aw,seval];exact aS S1 hx
 rw[<-hl2];rw[bL]at hx;simp -dsimp only[aw,seval,au];refine aX S2 h5 (cf _) hx (ca H (aa 41) h5 (by decide +kernel) _ (ah S2.at_ _)) (fun _ a3 hx h7 h8 h9 hy σ3 S3 hl3=>?_) (fun e n b hx σ1 S1 hl1=>?_)
 case refine_2=>
  rw[<-hl1];simp -dsimp only[aw,seval];exact aS S1 hx
 rw[<-hl3];simp -dsimp only[aw,seval];refine aX S3 h8 (kE _ (TL _)) hx (hB a3 (by omega) h8 _ (ah S3.at_ _)) (fun l a4 hx h1 h2 h3 hy σ4 S4 hl4=>?_) (fun e n b hx σ1 S1 hl1=>?_)
 case refine_2=>
  rw[<-hl1];simp -dsimp only[aw,seval];exact aS S1 hx
 rw[<-hl4];simp -dsimp only[aw,seval];refine g8 H (m:=tu) (by decide +kernel) S4 h2 (fun hs2 hlt2 σ5 S5 hl5=>?_) (fun hs2=>?_)
 .rw[dh hs2]at hx;rw[<-hl5];simp -dsimp only[aw,seval];refine aX S5 hlt2 (kE _ (TL _)) hx (hB (a4+1) (by omega) hlt2 _ (ah S5.at_ _)) (fun m a6 hx h1 h2 h3 hy σ6 S6 hl6=>?_) (fun e n b hx σ1 S1 hl1=>?_)
  case refine_2=>
   rw[<-hl1];simp -dsimp only[aw,seval];exact aS S1 hx
  rw[<-hl6];simp -dsimp only[aw,seval];exact cE S6 h2 hx (by rw[aM];rfl) (by rw[aM];simp[KB,aC,aQ,eM,jr,eG,gm,jb,dA,ga,gy,gw,aw,seval])
 .rw[cv hs2]at hx;simp -dsimp only[aw,seval];exact cE S4 h2 hx (by rw[aM];rfl) (by rw[aM];simp[KB,aC,aQ,eM,jr,eG,gm,jb,dA,ga,gy,gw,aw,seval])
end
end Go.Proofs.YtnhphlmblenapaaGreatDoor
namespace Go.Proofs.YtnhphlmblenapaaGreatDoor
open Go.RowKit
theorem gb{α:Type}(y:CP α):y=y.bind .ok:=by cases y<;>rfl
theorem xA(z:Int)(p:List Tok):Tk bu p.length p ((jK z).rest [] p):=by have:=u7 z [] p;simp only[bu,Nat.zero_add]at this;exact this
theorem K9(z:Int)(r:List Tok):Tk gz r.length r (ifC z (jK z) r):=Jr z fun p _=>xA z p
theorem Gv(z:Int)(r:List Tok):Tk gz r.length r (kY z (jK z) r):=An z fun p _=>xA z p
abbrev ua(ts:List Tok)(i b:Nat):Prop:=∀σ:LLV,σ[i]? = some (pb ts b)->Fun G 26 [.ptr i 0] σ (CQ vit ts i σ (mg (zLs ts) (ts.drop b)))
section
variable {ts : List Tok} {a i : Nat} (H : TsV ts) (ha : a ≤ ts.length)
include H ha
theorem sA(hI:∀b,a<b->b≤ts.length->ua ts i b):oU ts i a:=fun σ hi=>by
 refine ae Tryz.func86 k86 rfl fun hb hw=>?_;have S:=St.init hi hb;have hL:=H.ok.len;obtain⟨x,hx⟩:∃x,x=ig (zLs ts) (jK (zLs ts)) (ts.drop a):=⟨_,rfl⟩
 rw[<-hx];unfold ig at hx;rw[bL,Da]at hx;unfold c86;simp -dsimp only[aw,seval];refine eV (aX S ha (cf _) hx (ca H (aa 123) ha (by decide +kernel) _ (ah S.at_ _)) (fun _ a1 hx h1 h2 h3 hy σ1 S1 hl1=>?_) (fun e n b hx σ1 S1 hl1=>?_))
 case refine_2=>
  rw[<-hl1];simp -dsimp only[aw,seval];exact aS S1 hx
 rw[<-hl1];simp -dsimp only[aw,seval];have hlt:a<a1:=by unfold gr at h3;rw[TJ]at h3;omega
 refine aL [0,3] (R:=fun(j:Nat) ρ σ'=>∃(a1:Nat) (l:List It) (σ2:LLV),ρ=[(0,.ptr i 0),(3,.own 54 12 (l.map dit))]/\σ'=σ2++[]/\St σ i ts a1 σ2/\a<a1/\a1≤ts.length/\l.length+j≤2*a1/\j≤a1/\x=py (zLs ts) l (ts.drop a1)) ts.length ⟨a1,[],σ1,rfl,rfl,S1,hlt,h2,by simp,by omega,hx⟩ ?_ _;rintro j ρ' σ' hj ⟨a1,l,σ2,rfl,rfl,S2,h4,h5,h6,h7,hx⟩;rw[yx]at hx;rw[S1.len,<-S2.len];simp -dsimp only[aw,seval];refine kq H (m:=aa 125) (by decide +kernel) S2 h5 (fun hs2 hlt2 σ3 S3 hl3=>?_) (fun hs2=>?_)
 .rw[dh hs2]at hx;rw[<-hl3];simp -dsimp only[aw,seval];exact cE S3 hlt2 hx rfl rfl
 rw[cv hs2]at hx;simp -dsimp only[aw,seval];refine aX S2 h5 (ot _ _) hx (hI a1 h4 h5 _ (ah S2.at_ _)) (fun y a3 hx h7 h8 h9 hy σ4 S4 hl4=>?_) (fun e n b hx σ1 S1 hl1=>?_)
 case refine_2=>
  rw[<-hl1];simp -dsimp only[aw,seval];exact aS S1 hx
 rw[<-hl4];simp -dsimp only[aw,seval,aM];refine bg (by omega) ?_;simp -dsimp only[aw,seval];have hlt4:a1<a3:=by have:=ld y;rw[TJ]at h9;omega
 refine⟨by omega,Nxt.same (by simp) (aq S4.bb rfl) (by simp[an,V.under,S4.len];exact S4.lt) ⟨a3,l++[y],σ4,by rw[TK,TO,TP,dB],rfl,S4,by omega,h8,by simp;omega,by omega,hx⟩⟩
theorem qq(hB:∀b,a<b->b≤ts.length->oU ts i b):ua ts i a:=fun σ hi=>by
 refine ae Tryz.func26 k26 rfl fun hb hw=>?_;have S:=St.init hi hb;obtain⟨x,hx⟩:∃x,x=mg (zLs ts) (ts.drop a):=⟨_,rfl⟩
 rw[<-hx];rw[zz]at hx;unfold c26
 have fin:∀{σ1:LLV} {a2:Nat} {v:It} {ρ:aj},St σ i ts a2 σ1->a2≤ts.length->x=.ok v (ts.drop a2)->get ρ 2=.ptr σ1.length 0->fin σ1.length JL (CQ vit ts i σ x) .ret ρ (σ1++[(dit v).map V.d]):=fun{σ1 a2 v ρ} S1 h2 hx hρ=>
  cE S1 h2 hx (by rw[aM];rfl) (by rw[aM,dB];simp[JL,aC,aQ,hρ,aw,seval])
 simp -dsimp only[aw,seval];refine g8 H (m:=mo) (by decide +kernel) S ha (fun hs2 hlt2 σ1 S1 hl1=>?_) (fun hs2=>?_)
 .rw[dh hs2,gb (fj _ _ _)]at hx;rw[<-hl1];simp -dsimp only[aw,seval];refine aX S1 hlt2 (nK _ _ _) hx (rC H hlt2 _ (ah S1.at_ _) 2) (fun y a3 hx h7 h8 h9 hy σ4 S4 hl4=>?_) (fun e n b hx σ1 S1 hl1=>?_)
  case refine_2=>
   rw[<-hl1];simp -dsimp only[aw,seval];exact aS S1 hx
  rw[<-hl4];simp -dsimp only[aw,seval,aM];have:=fin (ρ:=[(2,.ptr σ4.length 0)]) S4 h8 hx rfl;rw[dB]at this;exact this
 rw[cv hs2]at hx;simp -dsimp only[aw,seval];refine g8 H (m:=qf) (by decide +kernel) S ha (fun hs2 hlt2 σ1 S1 hl1=>?_) (fun hs2=>?_)
 .rw[dh hs2,gb (mt _ _)]at hx;rw[<-hl1];simp -dsimp only[aw,seval];refine aX S1 hlt2 (Ak _ _) hx (CG H hlt2 _ (ah S1.at_ _)) (fun y a3 hx h7 h8 h9 hy σ4 S4 hl4=>?_) (fun e n b hx σ1 S1 hl1=>?_)
  case refine_2=>
   rw[<-hl1];simp -dsimp only[aw,seval];exact aS S1 hx
  rw[<-hl4];simp -dsimp only[aw,seval,aM];have:=fin (ρ:=[(2,.ptr σ4.length 0)]) S4 h8 hx rfl;rw[dB]at this;exact this
 rw[cv hs2]at hx;simp -dsimp only[aw,seval];refine g8 H (m:=ifW) (by decide +kernel) S ha (fun hs2 hlt2 σ1 S1 hl1=>?_) (fun hs2=>?_)
 .rw[dh hs2,gb (ifC _ _ _)]at hx;rw[<-hl1];simp -dsimp only[aw,seval];refine aX S1 hlt2 (K9 _ _) hx (xr H hlt2 _ (ah S1.at_ _) fun b h1 h2=>hB b (by omega) h2) (fun y a3 hx h7 h8 h9 hy σ4 S4 hl4=>?_) (fun e n b hx σ1 S1 hl1=>?_)
  case refine_2=>
   rw[<-hl1];simp -dsimp only[aw,seval];exact aS S1 hx
  rw[<-hl4];simp -dsimp only[aw,seval,aM];have:=fin (ρ:=[(2,.ptr σ4.length 0)]) S4 h8 hx rfl;rw[dB]at this;exact this
 rw[cv hs2]at hx;simp -dsimp only[aw,seval];refine g8 H (m:=qx) (by decide +kernel) S ha (fun hs2 hlt2 σ1 S1 hl1=>?_) (fun hs2=>?_)
 .rw[dh hs2,gb (kY _ _ _)]at hx;rw[<-hl1];simp -dsimp only[aw,seval];refine aX S1 hlt2 (Gv _ _) hx (CS H hlt2 _ (ah S1.at_ _) fun b h1 h2=>hB b (by omega) h2) (fun y a3 hx h7 h8 h9 hy σ4 S4 hl4=>?_) (fun e n b hx σ1 S1 hl1=>?_)
  case refine_2=>
   rw[<-hl1];simp -dsimp only[aw,seval];exact aS S1 hx
  rw[<-hl4];simp -dsimp only[aw,seval,aM];have:=fin (ρ:=[(2,.ptr σ4.length 0)]) S4 h8 hx rfl;rw[dB]at this;exact this
 rw[cv hs2]at hx;simp -dsimp only[aw,seval];refine g8 H (m:=mQ) (by decide +kernel) S ha (fun hs2 hlt2 σ1 S1 hl1=>?_) (fun hs2=>?_)
 .rw[dh hs2,gb (iY _ _)]at hx;rw[<-hl1];simp -dsimp only[aw,seval];refine aX S1 hlt2 (xl _ _) hx (xP H hlt2 _ (ah S1.at_ _)) (fun y a3 hx h7 h8 h9 hy σ4 S4 hl4=>?_) (fun e n b hx σ1 S1 hl1=>?_)
  case refine_2=>
   rw[<-hl1];simp -dsimp only[aw,seval];exact aS S1 hx
  rw[<-hl4];simp -dsimp only[aw,seval,aM];have:=fin (ρ:=[(2,.ptr σ4.length 0)]) S4 h8 hx rfl;rw[dB]at this;exact this
 rw[cv hs2,gb (fj _ _ _)]at hx;simp -dsimp only[aw,seval];refine aX S ha (nK _ _ _) hx (rC H ha _ (ah S.at_ _) 1) (fun y a3 hx h7 h8 h9 hy σ4 S4 hl4=>?_) (fun e n b hx σ1 S1 hl1=>?_)
 case refine_2=>
  rw[<-hl1];simp -dsimp only[aw,seval];exact aS S1 hx
 rw[<-hl4];simp -dsimp only[aw,seval,aM];have:=fin (ρ:=[(2,.ptr σ4.length 0)]) S4 h8 hx rfl;rw[dB]at this;exact this
end
theorem t8{ts:List Tok}{i:Nat}(H:TsV ts):∀(n a:Nat),a≤ts.length->ts.length-a≤n->ua ts i a/\oU ts i a
 | 0,a,ha,hn=>⟨qq H ha fun b h1 h2=>by omega,sA H ha fun b h1 h2=>by omega⟩
 | n+1,a,ha,hn=>⟨qq H ha fun b h1 h2=>(t8 H n b h2 (by omega)).2,sA H ha fun b h1 h2=>(t8 H n b h2 (by omega)).1⟩
theorem CE{ts:List Tok}{i a:Nat}(H:TsV ts)(ha:a≤ts.length):ua ts i a:=(t8 H _ a ha (Nat.le_refl _)).1
theorem C9{ts:List Tok}{i a:Nat}(H:TsV ts)(ha:a≤ts.length):oU ts i a:=(t8 H _ a ha (Nat.le_refl _)).2
end Go.Proofs.YtnhphlmblenapaaGreatDoor
namespace Go.Proofs.YtnhphlmblenapaaGreatDoor
open Go.RowKit
section
variable {ts : List Tok} {a i : Nat} (H : TsV ts) (ha : a ≤ ts.length) (σ : LLV) (hi : σ[i]? = some (pb ts a))
include H ha hi
theorem yM:Fun G 198 [.ptr i 0] σ (CQ (fun n=>.d (ab n)) ts i σ (mX (zLs ts) (ts.drop a))):=by
 refine ae Tryz.func198 QY rfl fun hb hw=>?_;have S:=St.init hi hb;have hL:=H.ok.len;obtain⟨x,hx⟩:∃x,x=mX (zLs ts) (ts.drop a):=⟨_,rfl⟩
 rw[<-hx];unfold mX at hx;unfold M9;simp -dsimp only[aw,seval];refine eV (kq H (m:=aa 91) (by decide +kernel) S ha (fun hs2 hlt2 σ2 S2 hl2=>?_) (fun hs2=>?_))
 case refine_2=>
  rw[cv hs2]at hx;simp -dsimp only[aw,seval];exact cE S ha hx rfl rfl
 rw[dh hs2,kD]at hx;rw[<-hl2];simp -dsimp only[aw,seval];refine aX S2 hlt2 (jN _) hx (ei H hlt2 _ (ah S2.at_ _)) (fun n a3 hx h4 h5 h6 hy σ3 S3 hl3=>?_) (fun e n b hx σ1 S1 hl1=>?_)
 case refine_2=>
  rw[<-hl1];simp -dsimp only[aw,seval];exact aS S1 hx
 have ha3:a3=a+1+1:=by
  have h:=D9 hy;unfold cB at h;split at h
  .cases h
  .rename_i t r he;split at h
   .simp only[Option.some.injEq,Prod.mk.injEq]at h;have h2:=congrArg List.length he;rw[h.2]at h2;simp only[TJ,List.length_cons]at h2;omega
   .cases h
 rw[<-hl3];by_cases hn:n<1
 .rw[if_pos hn]at hx;have hi3:=S3.at_;have hF:=oE ts a3 (a+1) i 5 H (by omega) (σ3++[]) (ah hi3 _);have hbo:=ah hi3 [];unfold pb at hbo;have hw1:IntKind.i64.wrap (((a3:Nat):Int)-1)=((a+1:Nat):Int):=by rw[ha3,aA (by omega) (by omega)];omega
  simp -dsimp only[aw,seval,decide_eq_true hn,hbo,hw1];refine aB hF fun o σ' ⟨e1,e2⟩=>?_;subst e1;subst e2;simp -dsimp only[aw,seval,bi];exact aS S3 hx
 .rw[if_neg hn,bL]at hx;simp -dsimp only[aw,seval,decide_eq_false hn];refine aX S3 h5 (cf _) hx (ca H (aa 93) h5 (by decide +kernel) _ (ah S3.at_ _)) (fun _ a4 hx h7 h8 h9 hy σ4 S4 hl4=>?_) (fun e n b hx σ1 S1 hl1=>?_)
  case refine_2=>
   rw[<-hl1];simp -dsimp only[aw,seval];exact aS S1 hx
  rw[<-hl4];simp -dsimp only[aw,seval];exact cE S4 h8 hx rfl rfl
theorem mE(m:Int):Fun G 140 [.ptr i 0,.d (ab m)] σ (CQ (fun f=>.agg ((dfl f).map V.d)) ts i σ (fK (zLs ts) m (ts.drop a))):=by
 refine ae Tryz.func140 RE rfl fun hb hw=>?_;have S:=St.init hi hb;obtain⟨x,hx⟩:∃x,x=fK (zLs ts) m (ts.drop a):=⟨_,rfl⟩
 rw[<-hx];unfold fK at hx;rw[gj]at hx;unfold NO;simp -dsimp only[aw,seval];refine aX S ha (iG _) hx (gi H ha _ (ah hi _)) (fun s a1 hx h1 h2 h3 hy σ1 S1 hl1=>?_) (fun e n b hx σ1 S1 hl1=>?_)
 case refine_2=>
  rw[<-hl1];simp -dsimp only[aw,seval];exact aS S1 hx
 rw[<-hl1];simp -dsimp only[aw,seval];refine aX S1 h2 (vK _ _) hx (yM H h2 _ (ah S1.at_ _)) (fun k a2 hx h1 h2 h3 hy σ2 S2 hl2=>?_) (fun e n b hx σ1 S1 hl1=>?_)
 case refine_2=>
  rw[<-hl1];simp -dsimp only[aw,seval];exact aS S1 hx
 rw[<-hl2];rw[bL]at hx;simp -dsimp only[aw,seval];refine aX S2 h2 (cf _) hx (ca H (aa 58) h2 (by decide +kernel) _ (ah S2.at_ _)) (fun _ a3 hx h1 h2 h3 hy σ3 S3 hl3=>?_) (fun e n b hx σ1 S1 hl1=>?_)
 case refine_2=>
  rw[<-hl1];simp -dsimp only[aw,seval];exact aS S1 hx
 rw[<-hl3];rw[kD]at hx;simp -dsimp only[aw,seval];refine aX S3 h2 (jN _) hx (ei H h2 _ (ah S3.at_ _)) (fun w a4 hx h1 h2 h3 hy σ4 S4 hl4=>?_) (fun e n b hx σ1 S1 hl1=>?_)
 case refine_2=>
  rw[<-hl1];simp -dsimp only[aw,seval];exact aS S1 hx
 rw[<-hl4];by_cases h0:m=0
 .rw[if_pos h0,bL,bind_assoc]at hx;simp -dsimp only[aw,seval,decide_eq_true h0];refine aX S4 h2 (cf _) hx (ca H (aa 61) h2 (by decide +kernel) _ (ah S4.at_ _)) (fun _ a5 hx h1 h2 h3 hy σ5 S5 hl5=>?_) (fun e n b hx σ1 S1 hl1=>?_)
  case refine_2=>
   rw[<-hl1];simp -dsimp only[aw,seval];exact aS S1 hx
  rw[<-hl5];simp -dsimp only[aw,seval];refine aX S5 h2 (jN _) hx (ei H h2 _ (ah S5.at_ _)) (fun v a6 hx h1 h2 h3 hy σ6 S6 hl6=>?_) (fun e n b hx σ1 S1 hl1=>?_)
  case refine_2=>
   rw[<-hl1];simp -dsimp only[aw,seval];exact aS S1 hx
  rw[<-hl6];rw[bL]at hx;simp -dsimp only[aw,seval];refine aX S6 h2 (cf _) hx (ca H (aa 59) h2 (by decide +kernel) _ (ah S6.at_ _)) (fun _ a7 hx h1 h2 h3 hy σ7 S7 hl7=>?_) (fun e n b hx σ1 S1 hl1=>?_)
  case refine_2=>
   rw[<-hl1];simp -dsimp only[aw,seval];exact aS S1 hx
  rw[<-hl7];simp -dsimp only[aw,seval];exact cE S7 h2 hx rfl (by simp[Gi,aC,aQ,dfl,aw,seval])
 .rw[if_neg h0]at hx;simp only[CP.bind]at hx;rw[bL]at hx;simp -dsimp only[aw,seval,decide_eq_false h0];refine aX S4 h2 (cf _) hx (ca H (aa 59) h2 (by decide +kernel) _ (ah S4.at_ _)) (fun _ a7 hx h1 h2 h3 hy σ7 S7 hl7=>?_) (fun e n b hx σ1 S1 hl1=>?_)
  case refine_2=>
   rw[<-hl1];simp -dsimp only[aw,seval];exact aS S1 hx
  rw[<-hl7];simp -dsimp only[aw,seval];exact cE S7 h2 hx rfl (by simp[Gi,aC,aQ,dfl,aw,seval])
theorem vI:Fun G 85 [.ptr i 0] σ (CQ (fun l=>.d (.sl (l.map dfl))) ts i σ (iS (zLs ts) (ts.drop a))):=by
 refine ae Tryz.func85 k85 rfl fun hb hw=>?_;have S:=St.init hi hb;have hL:=H.ok.len;obtain⟨x,hx⟩:∃x,x=iS (zLs ts) (ts.drop a):=⟨_,rfl⟩
 rw[<-hx];rw[show iS (zLs ts) (ts.drop a)=fQ (gG (zLs ts)) [] (ts.drop a)from rfl]at hx;unfold c85;simp -dsimp only[aw,seval];refine aL [0,3] (R:=fun(j:Nat) ρ σ'=>∃(a1:Nat) (l:List Fl) (σ2:LLV),ρ=[(0,.ptr i 0),(3,.own 74 5 (l.map dfl))]/\σ'=σ2++[]/\St σ i ts a1 σ2/\a1≤ts.length/\l.length+j≤2*a1/\j≤a1/\x=fQ (gG (zLs ts)) l (ts.drop a1)) ts.length ⟨a,[],σ,rfl,(TN _).symm,S,ha,by simp,by omega,hx⟩ ?_ _;rintro j ρ' σ' hj ⟨a1,l,σ2,rfl,rfl,S2,h4,h5,h6,hx⟩;rw[ng (rB _).eats]at hx;rw[<-S2.len];unfold gG at hx
 have next:∀(m:Int) (r1:Nat),a1<r1->r1≤ts.length->x=((fK (zLs ts) m (ts.drop r1)).bind fun y q=>.ok (l++[y]) q).bind (fun v p=>fQ (gG (zLs ts)) v p)->x=(fK (zLs ts) m (ts.drop r1)).bind fun y q=>fQ (gG (zLs ts)) (l++[y]) q:=fun m r1 _ _ h=>by rw[h,bind_assoc];rfl
 simp -dsimp only[aw,seval];refine g8 H (m:=qA) (by decide +kernel) S2 h4 (fun hs2 hlt2 σ3 S3 hl3=>?_) (fun hs1=>?_)
 .simp only[hs2]at hx;have hx:=next 1 (a1+1) (by omega) hlt2 hx
  rw[<-hl3];simp -dsimp only[aw,seval];refine aX S3 hlt2 (ja _ _ _) hx (mE H hlt2 _ (ah S3.at_ _) 1) (fun y a3 hx h7 h8 h9 hy σ4 S4 hl4=>?_) (fun e n b hx σ1 S1 hl1=>?_)
  case refine_2=>
   rw[<-hl1];simp -dsimp only[aw,seval];exact aS S1 hx
  rw[<-hl4];simp -dsimp only[aw,seval,dfl];refine bg (by omega) ?_;simp -dsimp only[aw,seval];have hlt4:a1+1<a3:=by unfold gr at h9;rw[TJ]at h9;omega
  exact⟨by omega,Nxt.same (by simp) (aq S4.bb rfl) (by simp[an,V.under,S4.len];exact S4.lt) ⟨a3,l++[y],σ4,by rw[TK];rfl,rfl,S4,h8,by simp;omega,by omega,hx⟩⟩
 simp -dsimp only[aw,seval];refine g8 H (m:=mS) (by decide +kernel) S2 h4 (fun hs2 hlt2 σ3 S3 hl3=>?_) (fun hs2=>?_)
 .simp only[hs1,hs2]at hx;have hx:=next 2 (a1+1) (by omega) hlt2 hx
  rw[<-hl3];simp -dsimp only[aw,seval];refine aX S3 hlt2 (ja _ _ _) hx (mE H hlt2 _ (ah S3.at_ _) 2) (fun y a3 hx h7 h8 h9 hy σ4 S4 hl4=>?_) (fun e n b hx σ1 S1 hl1=>?_)
  case refine_2=>
   rw[<-hl1];simp -dsimp only[aw,seval];exact aS S1 hx
  rw[<-hl4];simp -dsimp only[aw,seval,dfl];refine bg (by omega) ?_;simp -dsimp only[aw,seval];have hlt4:a1+1<a3:=by unfold gr at h9;rw[TJ]at h9;omega
  exact⟨by omega,Nxt.same (by simp) (aq S4.bb rfl) (by simp[an,V.under,S4.len];exact S4.lt) ⟨a3,l++[y],σ4,by rw[TK];rfl,rfl,S4,h8,by simp;omega,by omega,hx⟩⟩
 simp -dsimp only[aw,seval];refine g8 H (m:=mO) (by decide +kernel) S2 h4 (fun hs3 hlt2 σ3 S3 hl3=>?_) (fun hs3=>?_)
 .simp only[hs1,hs2,hs3]at hx;have hx:=next 0 (a1+1) (by omega) hlt2 hx
  rw[<-hl3];simp -dsimp only[aw,seval];refine aX S3 hlt2 (ja _ _ _) hx (mE H hlt2 _ (ah S3.at_ _) 0) (fun y a3 hx h7 h8 h9 hy σ4 S4 hl4=>?_) (fun e n b hx σ1 S1 hl1=>?_)
  case refine_2=>
   rw[<-hl1];simp -dsimp only[aw,seval];exact aS S1 hx
  rw[<-hl4];simp -dsimp only[aw,seval,dfl];refine bg (by omega) ?_;simp -dsimp only[aw,seval];have hlt4:a1+1<a3:=by unfold gr at h9;rw[TJ]at h9;omega
  exact⟨by omega,Nxt.same (by simp) (aq S4.bb rfl) (by simp[an,V.under,S4.len];exact S4.lt) ⟨a3,l++[y],σ4,by rw[TK];rfl,rfl,S4,h8,by simp;omega,by omega,hx⟩⟩
 .simp only[hs1,hs2,hs3]at hx;simp -dsimp only[aw,seval];exact cE S2 h4 hx rfl rfl
end
end Go.Proofs.YtnhphlmblenapaaGreatDoor
namespace Go.Proofs.YtnhphlmblenapaaGreatDoor
open Go.RowKit
def kbz:List V:=[.d (ai ⟨#[]⟩),.d (ai ⟨#[]⟩),.nil,.nil]
def kbx(nm p:ByteArray)(f b:V):List V:=[.d (ai nm),.d (ai p),f,b]
section
variable {ts : List Tok} {a i : Nat} (H : TsV ts) (ha : a ≤ ts.length) (σ : LLV) (hi : σ[i]? = some (pb ts a))
include H ha hi
theorem yL:Fun G 34 [.ptr i 0] σ (CQ vkl ts i σ (lx (zLs ts) (ts.drop a))):=by
 refine ae Tryz.func34 k34 rfl fun hb hw=>?_;have S:=St.init hi hb;have hL:=H.ok.len;obtain⟨x,hx⟩:∃x,x=lx (zLs ts) (ts.drop a):=⟨_,rfl⟩
 rw[<-hx];unfold lx at hx;rw[bL]at hx;unfold c34
 refine eW 4 (fun ρ σ'=>∃(nm par:ByteArray) (a2:Nat) (σ2:LLV),(ρ=[(0,.ptr i 0),(2,.ptr σ2.length 0),(3,.ptr (σ2.length+1) 0)]\/ρ=[(0,.ptr i 0),(2,.ptr σ2.length 0),(3,.ptr (σ2.length+1) 0),(11,ao false)])/\σ'=σ2++[kbz,kbx nm par .nil .nil]/\St σ i ts a2 σ2/\a2≤ts.length/\
  x=bR (zLs ts) (aa 123) (ts.drop a2) fun r4=>(iS (zLs ts) r4).bind fun f r5=>(lM (zLs ts) r5).bind fun b r6=>bR (zLs ts) (aa 125) r6 fun r7=>.ok ⟨nm,par,f,b⟩ r7) ?_ ?_
 .simp only[fN];simp -dsimp only[aw,seval];refine aX S ha (cf _) hx (oC H uo ha (by decide +kernel) _ (ah S.at_ _)) (fun _ a1 hx h1 h2 h3 hy σ1 S1 hl1=>?_) (fun e n b hx σ1 S1 hl1=>?_)
  case refine_2=>
   rw[<-hl1];simp -dsimp only[aw,seval];exact aS S1 hx
  rw[<-hl1];rw[gj]at hx;simp -dsimp only[aw,seval];refine aX S1 h2 (iG _) hx (gi H h2 _ (ah S1.at_ _)) (fun nm a2 hx h1 h2 h3 hy σ2 S2 hl2=>?_) (fun e n b hx σ1 S1 hl1=>?_)
  case refine_2=>
   rw[<-hl1];simp -dsimp only[aw,seval];exact aS S1 hx
  rw[<-hl2];simp -dsimp only[aw,seval];refine g8 H (m:=li) (by decide +kernel) S2 h2 (fun hs2 hlt2 σ3 S3 hl3=>?_) (fun hs2=>?_)
  .rw[dh hs2]at hx;rw[<-hl3];simp -dsimp only[aw,seval];refine aX S3 hlt2 (iG _) hx (gi H hlt2 _ (ah S3.at_ _)) (fun par a4 hx h1 h2 h3 hy σ1 S1 hl1=>?_) (fun e n b hx σ1 S1 hl1=>?_)
   case refine_2=>
    rw[<-hl1];simp -dsimp only[aw,seval];exact aS S1 hx
   rw[<-hl1];simp -dsimp only[aw,seval];exact Mid.mk ⟨nm,par,a4,σ1,.inl rfl,rfl,S1,h2,hx⟩
  .rw[cv hs2]at hx;simp -dsimp only[aw,seval];exact Mid.mk ⟨nm,⟨#[]⟩,a2,σ2,.inr rfl,rfl,S2,h2,hx⟩
 .simp only[fN];rintro ρ' σ' ⟨nm,par,a2,σ2,hρ,rfl,S2,h2,hx⟩;rw[<-S2.len];rw[bL]at hx;unfold kbz kbx
  refine eW 1 (fun ρ σ'=>∃(a2:Nat) (σ2:LLV),ρ=[(0,.ptr i 0),(2,.ptr σ2.length 0),(3,.ptr (σ2.length+1) 0)]/\σ'=σ2++[kbz,kbx nm par .nil .nil]/\St σ i ts a2 σ2/\a2≤ts.length/\
   x=(iS (zLs ts) (ts.drop a2)).bind fun f r5=>(lM (zLs ts) r5).bind fun b r6=>bR (zLs ts) (aa 125) r6 fun r7=>.ok ⟨nm,par,f,b⟩ r7) ?_ ?_
  .simp only[fN];rcases hρ with rfl|rfl
   all_goals
    simp -dsimp only[aw,seval];refine aX S2 h2 (cf _) hx (ca H (aa 123) h2 (by decide +kernel) _ (ah S2.at_ _)) (fun _ a3 hx h1 h2 h3 hy σ1 S1 hl1=>?_) (fun e n b hx σ1 S1 hl1=>?_)
    case refine_2=>
     rw[<-hl1];simp -dsimp only[aw,seval];exact aS S1 hx
    rw[<-hl1];simp -dsimp only[aw,seval];exact Mid.mk ⟨a3,σ1,rfl,rfl,S1,h2,hx⟩
  .simp only[fN];rintro ρ' σ' ⟨a3,σ3,rfl,rfl,S3,h3,hx⟩;rw[S2.len,<-S3.len];unfold kbz kbx;simp -dsimp only[aw,seval];refine aX S3 h3 (tF _ _) hx (vI H h3 _ (ah S3.at_ _)) (fun fl a4 hx h1 h4 h5 hy σ1 S1 hl1=>?_) (fun e n b hx σ1 S1 hl1=>?_)
   case refine_2=>
    rw[<-hl1];simp -dsimp only[aw,seval];exact aS S1 hx
   rw[<-hl1];unfold lM at hx;simp -dsimp only[aw,seval]
   refine i8 [0,2,3] (R:=fun(j:Nat) ρ σ'=>∃(a1:Nat) (l:List Bk) (σ2:LLV),ρ=[(0,.ptr i 0),(2,.ptr σ2.length 0),(3,.ptr (σ2.length+1) 0)]/\σ'=σ2++[kbz,kbx nm par (.d (.sl (fl.map dfl))) (.own 46 2 (l.map dbk))]/\St σ i ts a1 σ2/\a1≤ts.length/\l.length+j≤2*a1/\j≤a1/\
    x=(fQ (fun(l:List Bk) r=>(acc cR r).map fun r1=>(kU (zLs ts) r1).bind fun b r2=>.ok (l++[b]) r2) l (ts.drop a1)).bind fun b r6=>bR (zLs ts) (aa 125) r6 fun r7=>.ok ⟨nm,par,fl,b⟩ r7) ts.length (rL (σ:=σ1) (cs:=kbx nm par (.d (.sl (fl.map dfl))) .nil) (fo:=3) (q:=1) 46 2 rfl rfl) ⟨a4,[],σ1,rfl,rfl,S1,h4,by simp,by omega,hx⟩ ?_ _
   rintro j ρ' σ' hj ⟨a5,l,σ5,rfl,rfl,S5,h6,h7,h8,hx⟩;rw[ng (qW _).eats]at hx;rw[S1.len,<-S5.len];unfold kbz kbx;simp -dsimp only[aw,seval];refine g8 H (m:=cR) (by decide +kernel) S5 h6 (fun hs2 hlt2 σ6 S6 hl6=>?_) (fun hs2=>?_)
   .simp only[hs2,Option.map_some,bind_assoc]at hx;unfold kU at hx;rw[gj,bind_assoc]at hx;rw[<-hl6];simp -dsimp only[aw,seval];refine aX S6 hlt2 (iG _) hx (gi H hlt2 _ (ah S6.at_ _)) (fun bn a7 hx h1 h9 h10 hy σ7 S7 hl7=>?_) (fun e n b hx σ1 S1 hl1=>?_)
    case refine_2=>
     rw[<-hl1];simp -dsimp only[aw,seval];exact aS S1 hx
    rw[bind_assoc]at hx;rw[<-hl7];simp -dsimp only[aw,seval];have hlt7:a5+1<a7:=by unfold gr at h10;rw[TJ]at h10;omega
    refine aX S7 h9 (kE _ (TL _)) hx (C9 H h9 _ (ah S7.at_ _)) (fun bl a8 hx h1 h11 h12 hy σ8 S8 hl8=>?_) (fun e n b hx σ1 S1 hl1=>?_)
    case refine_2=>
     rw[<-hl1];simp -dsimp only[aw,seval];exact aS S1 hx
    have hx:x=(fQ (fun(l:List Bk) r=>(acc cR r).map fun r1=>(kU (zLs ts) r1).bind fun b r2=>.ok (l++[b]) r2) (l++[(bn,bl)]) (ts.drop a8)).bind fun b r6=>bR (zLs ts) (aa 125) r6 fun r7=>.ok ⟨nm,par,fl,b⟩ r7:=hx;rw[<-hl8];simp -dsimp only[aw,seval];refine bg (by omega) ?_;simp -dsimp only[aw,seval];exact⟨by omega,Nxt.to (σ8++[kbz,kbx nm par (.d (.sl (fl.map dfl))) (.own 46 2 ((l++[(bn,bl)]).map dbk))]) [[.d (ai bn),.d (.sl (bl.map dit))]] (by simp[kbz,kbx,dbk,gZ]) (by simp) (aq S8.bb rfl) (by simp[an,V.under,S8.len];have:=S8.lt;omega) ⟨a8,l++[(bn,bl)],σ8,rfl,rfl,S8,h11,by simp;omega,by omega,hx⟩⟩
   .simp only[hs2,Option.map_none,CP.bind]at hx;rw[bL]at hx;simp -dsimp only[aw,seval];refine aX S5 h6 (cf _) hx (ca H (aa 125) h6 (by decide +kernel) _ (ah S5.at_ _)) (fun _ a6 hx h1 h2 h3 hy σ6 S6 hl6=>?_) (fun e n b hx σ1 S1 hl1=>?_)
    case refine_2=>
     rw[<-hl1];simp -dsimp only[aw,seval];exact aS S1 hx
    rw[<-hl6];simp -dsimp only[aw,seval];exact cE S6 h2 hx rfl (by simp[Pj,aC,aQ,aw,seval])
end
theorem isE{ts:List Tok}{a:Nat}(h:a<ts.length):(ts.drop a).isEmpty=false:=by rw[List.drop_eq_getElem_cons h];rfl
section
variable {ts : List Tok} {a i : Nat} (H : TsV ts) (ha : a ≤ ts.length) (σ : LLV) (hi : σ[i]? = some (pb ts a))
include H ha hi
theorem xT:Fun G 25 [.ptr i 0,.bnd 26 [.ptr i 0]] σ (CQ (fun l=>.d (.sl (l.map dit))) ts i σ (mn (zLs ts) (ts.drop a))):=by
 refine ae Tryz.func25 k25 rfl fun hb hw=>?_;have S:=St.init hi hb;have hL:=H.ok.len;obtain⟨x,hx⟩:∃x,x=mn (zLs ts) (ts.drop a):=⟨_,rfl⟩
 rw[<-hx];unfold mn at hx;unfold c25;simp -dsimp only[aw,seval]
 refine aL [0,1,5] (R:=fun(j:Nat) ρ σ'=>∃(a1:Nat) (l:List It) (σ2:LLV),ρ=[(0,.ptr i 0),(1,.bnd 26 [.ptr i 0]),(5,.own 54 12 (l.map dit))]/\σ'=σ2++[]/\St σ i ts a1 σ2/\a1≤ts.length/\l.length+j≤2*a1/\j≤a1/\
  x=fQ (fun l r=>if r.isEmpty=true then none else some ((mg (zLs ts) r).bind fun x r1=>.ok (l++[x]) r1)) l (ts.drop a1)) ts.length ⟨a,[],σ,rfl,(TN _).symm,S,ha,by simp,by omega,hx⟩ ?_ _
 rintro j ρ' σ' hj ⟨a1,l,σ2,rfl,rfl,S2,h4,h5,h6,hx⟩;rw[ng (Gz (ot (zLs ts)) ld)]at hx;rw[<-S2.len];simp -dsimp only[aw,seval];refine ac (jg ts a1 i _ (ah S2.at_ [])) ?_;by_cases hlt:a1<ts.length
 .simp only[isE hlt,Bool.false_eq_true,if_false,bind_assoc]at hx;simp -dsimp only[aw,seval,decide_eq_true hlt];refine aX S2 h4 (ot _ _) hx (CE H h4 _ (ah S2.at_ _)) (fun y a3 hx h7 h8 h9 hy σ4 S4 hl4=>?_) (fun e n b hx σ1 S1 hl1=>?_)
  case refine_2=>
   rw[<-hl1];simp -dsimp only[aw,seval];exact aS S1 hx
  rw[<-hl4];simp -dsimp only[aw,seval,aM];refine bg (by omega) ?_;simp -dsimp only[aw,seval];have hlt4:a1<a3:=by have:=ld y;rw[TJ]at h9;omega
  exact⟨by omega,Nxt.same (by simp) (aq S4.bb rfl) (by have:=S4.lt;simp[an,V.under,V.unders,S4.len,this]) ⟨a3,l++[y],σ4,by rw[TK,TO,TP,dB],rfl,S4,h8,by simp;omega,by omega,hx⟩⟩
 .rw[TM (by omega)]at hx;simp only[List.isEmpty_nil,if_true]at hx;simp -dsimp only[aw,seval,decide_eq_false hlt];exact cE S2 h4 (by rw[hx,TM (by omega)]) rfl rfl
end
end Go.Proofs.YtnhphlmblenapaaGreatDoor
