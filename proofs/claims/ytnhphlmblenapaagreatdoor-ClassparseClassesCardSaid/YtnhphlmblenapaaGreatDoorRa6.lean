import Derived.Test.YtnhphlmblenapaaGreatDoorRa3
set_option linter.unusedVariables false
set_option linter.unusedSimpArgs false
set_option linter.unusedSectionVars false
set_option maxHeartbeats 8000000
open List renaming length_cons->TJ,length_nil->TK,length_append->TL,length_set->TM,map_cons->TN,map_nil->TO
namespace Go.Proofs.YtnhphlmblenapaaGreatDoor
open Go.RowKit
structure Sr(σ0:LLV)(i:Nat)(ts:List Tok)(s:RS)(σ:LLV):Prop where
 eq:σ=σ0.set i (rb ts s.1 s.2)
 below:am σ0.length σ0=true
 lt:i<σ0.length
def RB(v:V)(σ:LLV)(i:Nat)(ts:List Tok)(s:RS):Out->LLV->Prop:=fun o σ'=>o=.ret v/\σ'=σ.set i (rb ts s.1 s.2)
section
variable {σ0 σ : LLV} {i : Nat} {ts : List Tok} {s : RS}
theorem Sr.init(hi:σ[i]? = some (rb ts s.1 s.2))(hb:am σ.length σ=true):Sr σ i ts s σ:=⟨(oh hi).symm,hb,(List.getElem?_eq_some_iff.1 hi).1⟩
theorem Sr.len(S:Sr σ0 i ts s σ):σ.length=σ0.length:=by rw[S.eq,TM]
theorem Sr.at_(S:Sr σ0 i ts s σ):σ[i]? = some (rb ts s.1 s.2):=by rw[S.eq,List.getElem?_set_self S.lt]
theorem Sr.bb(S:Sr σ0 i ts s σ):am σ.length σ=true:=by rw[S.len,S.eq];exact bq S.below rfl
theorem Sr.step(S:Sr σ0 i ts s σ)(s':RS):Sr σ0 i ts s' (σ.set i (rb ts s'.1 s'.2)):=⟨by rw[S.eq,List.set_set],S.below,S.lt⟩
theorem cx{f:FuncId}{args:List V}{v:V}{s':RS}{l:LLV}{K P:V->LLV->Prop}{tK:Tag K}{tP:Tag P}(S:Sr σ0 i ts s σ)(h:Fun G f args (σ++l) (RB v (σ++l) i ts s'))(hk:∀σ',Sr σ0 i ts s' σ'->σ'.length=σ.length->K v (σ'++l)):fk G f args (σ++l) K P tK tP:=by
 refine aB h fun o σ' ⟨e1,e2⟩=>?_;subst e1;rw[be S.at_]at e2;subst e2;rw[aR];exact hk _ (S.step s') TM
theorem Sr.up(S:Sr σ0 i ts s σ)(h:s.1≤100000000):∃σ',Sr σ0 i ts (upS s) σ'/\σ'.length=σ.length/\IntKind.i64.wrap (((s.1:Nat):Int)+1)=((s.1+1:Nat):Int)/\∀l:LLV,(σ++l).set i [.d (.sl (ts.map di)),aF .i64 ((s.1+1:Nat):Int),.d (ab s.2)]=σ'++l:=
 ⟨_,S.step (upS s),TM,aA (by omega) (by omega),fun l=>be S.at_ l _⟩
theorem fD(m:ByteArray)(H:TsV ts)(hs:s.1≤ts.length)(σ:LLV)(hi:σ[i]? = some (rb ts s.1 s.2)):Fun G 262 [.ptr i 0,.d (ai m)] σ (RB (.tup []) σ i ts (cw ts m s)):=by
 have e:(if s.2=0 then(if ax m ts s.1=true then rb ts (s.1+1) 0 else rb ts s.1 (bQ ts s.1))else rb ts s.1 s.2)=rb ts (cw ts m s).1 (cw ts m s).2:=by
  unfold cw;split
  .split<;>rfl
  .rfl
 have h:=Bq H hs σ hi m;rw[e]at h;exact h
theorem gQ{v:V}{s':RS}{σ':LLV}{l:LLV}{rs:List RV}{ρ:aj}(S:Sr σ i ts s' σ')(h:aC (σ'++l) ρ rs=some v)(hv:V.under σ'.length v=true):fin σ'.length rs (RB v σ i ts s') .ret ρ (σ'++l):=by
 have e:σ'=σ.set i (rb ts s'.1 s'.2):=S.eq;have hl:=S.len;rw[hl]at hv ⊢;refine bp (τ:=σ.set i (rb ts s'.1 s'.2)) (bq S.below rfl) h hv (by rw[e,cO]) ⟨rfl,rfl⟩
theorem gY(n:Nat)(v:Ex):V.under n (vex v)=true:=by rw[au];rfl
end
theorem Hl{ts:List Tok}(H:TsV ts)(a:Nat)(e:Int):(bX ts a e).1.size≤1000:=by
 unfold bX;split
 .rename_i p hp;split at hp
  .have hl:=i7 (ts:=ts) (a:=a) (by rw[hp];rfl);rw[fM hl]at hp;split at hp
   .cases hp;exact H.ok.size _ (List.getElem_mem hl)
   .cases hp
  .cases hp
 .exact Nat.zero_le _
theorem Hr{ts:List Tok}(a:Nat)(e:Int):0≤(cD ts a e).1/\(cD ts a e).1≤65535:=by
 unfold cD;split
 .rename_i p hp;split at hp
  .have hl:=kh (ts:=ts) (a:=a) (by rw[hp];rfl);rw[ez hl]at hp;split at hp
   .rename_i hk;cases hp;have h1:=hk.1;unfold bO at h1;rw[if_pos hk.2,Bool.and_eq_true,Bool.and_eq_true,decide_eq_true_eq]at h1;split
    .show(0:Int)≤0/\(0:Int)≤65535;exact⟨by decide,by decide⟩
    .exact⟨h1.1.1,by omega⟩
   .cases hp
  .cases hp
 .show(0:Int)≤0/\(0:Int)≤65535;exact⟨by decide,by decide⟩
def RC(ts:List Tok)(n:Nat):Prop:=∀(k:Nat) (s s':RS) (v:Ex),1≤k->k≤14->cT ts n (.E k) s=some (v,s')->s.1≤ts.length->∀(σ:LLV) (i:Nat),σ[i]? = some (rb ts s.1 s.2)->Fun G 233 [.ptr i 0,.d (ab k)] σ (RB (vex v) σ i ts s')
section
variable {ts : List Tok} {i : Nat} {s : RS} (H : TsV ts) (hs : s.1 ≤ ts.length) (σ : LLV) (hi : σ[i]? = some (rb ts s.1 s.2))
include H hs hi
theorem nr(n:Nat)(hR:RC ts n){v:Ex}{s':RS}(h:fX ts (cT ts n) s=some (v,s')):Fun G 259 [.ptr i 0] σ (RB (vex v) σ i ts s'):=by
 have hL:=H.ok.len;refine ae Tryz.func259 Tl rfl fun hb hw=>?_;have S:=Sr.init hi hb;have hK:=fun l=>lR H hs (σ++l) (ah hi l);unfold NF;unfold fX at h;simp -dsimp only[aw,seval];refine ac (hK _) ?_;by_cases h3:nD ts s=3
 .rw[if_pos h3]at h;unfold nD at h3;rw[h3];cases h;simp -dsimp only[aw,seval];refine cx S (pz H hs _ (ah hi _)) fun σ1 S1 hl1=>?_;rw[<-hl1];simp -dsimp only[aw,seval];exact gQ S1 (by rw[au];simp[o9,aC,aQ,bt,aU,aH,aI,aw,seval]<;>rfl) (gY _ _)
 rw[if_neg h3]at h;unfold nD at h3;have isr:=fun{m:ByteArray} {s1:RS} {σ1:LLV} (S1:Sr σ i ts s1 σ1) (h1:s1.1≤ts.length) (l:LLV)=>gF H h1 (σ1++l) (ah S1.at_ l) m;simp -dsimp only[aw,seval,decide_eq_false h3];refine ac (isr (m:=aa 40) S hs _) ?_;by_cases h40:isX ts (aa 40) s=true
 .rw[if_pos h40]at h;obtain⟨⟨v1,s1⟩,e1,e2⟩:=Option.map_eq_some_iff.1 h;cases e2;obtain⟨σ1,S1,hl1,hw1,hup⟩:=S.up (by omega);have hu:=cG h40;have hio:=ah hi;unfold rb at hio;have h40':(decide (s.2=0)&&ax (aa 40) ts s.1)=true:=h40;rw[h40'];simp -dsimp only[aw,seval,hio,hw1,hup];rw[<-hl1];refine cx S1 (hR 1 _ _ _ (by omega) (by omega) e1 hu.2 _ _ (ah S1.at_ _)) fun σ2 S2 hl2=>?_;have h2:=(eY ts n _ _ _ _ e1 hu.2).2;rw[<-hl2];simp -dsimp only[aw,seval,au];refine cx S2 (fD (aa 41) H h2 _ (ah S2.at_ _)) fun σ3 S3 hl3=>?_;rw[<-hl3];simp -dsimp only[aw,seval];exact gQ S3 (by rw[au];simp[o9,aC,aQ,aw,seval]<;>rfl) (gY _ _)
 rw[if_neg h40]at h;simp only at h;have h40':(decide (s.2=0)&&ax (aa 40) ts s.1)=false:=by rw[<-Bool.not_eq_true];exact h40
 rw[h40'];simp -dsimp only[aw,seval];have hn:=pX hs;have hxs:=Hl H s.1 s.2;refine cx S (t7 H hs _ (ah hi _)) fun σ1 S1 hl1=>?_;have e1:bX ts s.1 s.2=((bX ts s.1 s.2).1,(bX ts s.1 s.2).2.1,(bX ts s.1 s.2).2.2):=rfl;generalize bX ts s.1 s.2=nm at *;obtain⟨x,s1⟩:=nm;simp only at h hn hxs S1 e1 ⊢;clear e1 isr;have isr:=fun{m:ByteArray} (l:LLV)=>gF H hn.2 (σ1++l) (ah S1.at_ l) m;have hio:=fun l=>ah S1.at_ l;unfold rb at hio;rw[<-hl1];have hsw:(me=(⟨#[115,117,109]⟩:ByteArray)):=rfl;have how:(gS=(⟨#[111,110,101,115]⟩:ByteArray)):=rfl;by_cases c1:x=me/\isX ts (aa 40) s1=true
 .rw[if_pos c1]at h;cases h;obtain⟨c0,c1⟩:=c1;have hu:=cG c1;obtain⟨σ2,S2,hl2,hw2,hup⟩:=S1.up (by have:=hn.2;omega);have dx:decide (x=⟨#[115,117,109]⟩)=true:=decide_eq_true c0;have c1':(decide (s1.2=0)&&ax (aa 40) ts s1.1)=true:=c1;have hi1:=isr (m:=aa 40);rw[c1']at hi1;unfold aa at hi1;simp -dsimp only[aw,seval,dx];refine ac (hi1 _) ?_;simp -dsimp only[aw,seval,hio,hw2,hup,dx];rw[<-hl2];refine cx S2 (t7 H hu.2 _ (ah S2.at_ _)) fun σ3 S3 hl3=>?_;have hq:=pX hu.2;rw[<-hl3];simp -dsimp only[aw,seval];refine cx S3 (fD (aa 41) H hq.2 _ (ah S3.at_ _)) fun σ4 S4 hl4=>?_;rw[<-hl4];simp -dsimp only[aw,seval]
  exact gQ S4 (by rw[au];simp[o9,aC,aQ,bt,aU,aH,aI,aw,seval]<;>rfl) (gY _ _)
 rw[if_neg c1]at h;by_cases c2:x=gS/\isX ts (aa 40) s1=true
 .rw[if_pos c2]at h;obtain⟨c0,c2⟩:=c2;have hu:=cG c2;obtain⟨⟨v1,s2⟩,e1,e2⟩:=Option.map_eq_some_iff.1 h;cases e2;obtain⟨σ2,S2,hl2,hw2,hup⟩:=S1.up (by have:=hn.2;omega);have dy:decide (x=⟨#[115,117,109]⟩)=false:=decide_eq_false (by rw[c0];decide);have dx:decide (x=⟨#[111,110,101,115]⟩)=true:=decide_eq_true c0;have c2':(decide (s1.2=0)&&ax (aa 40) ts s1.1)=true:=c2;have hi1:=isr (m:=aa 40);rw[c2']at hi1;unfold aa at hi1;simp -dsimp only[aw,seval,dx,dy];refine ac (hi1 _) ?_;simp -dsimp only[aw,seval,hio,hw2,hup,dx,dy];rw[<-hl2];refine cx S2 (hR 1 _ _ _ (by omega) (by omega) e1 hu.2 _ _ (ah S2.at_ _)) fun σ3 S3 hl3=>?_;have h2:=(eY ts n _ _ _ _ e1 hu.2).2;rw[<-hl3];simp -dsimp only[aw,seval,au]
  refine cx S3 (fD (aa 41) H h2 _ (ah S3.at_ _)) fun σ4 S4 hl4=>?_;rw[<-hl4];simp -dsimp only[aw,seval];exact gQ S4 (by rw[au];simp[o9,aC,aQ,aK,bF,bt,aU,aH,aI,aw,seval]<;>rfl) (gY _ _)
 rw[if_neg c2]at h;by_cases d1:x=me
 case' pos=>
  have dx:decide (x=⟨#[115,117,109]⟩)=true:=decide_eq_true d1;have hi1:=isr (m:=aa 40);rw[show(decide (s1.2=0)&&ax (aa 40) ts s1.1)=false from Bool.eq_false_iff.2 fun h=>c1 ⟨d1,h⟩]at hi1;unfold aa at hi1;simp -dsimp only[aw,seval,dx];refine ac (hi1 _) ?_;simp -dsimp only[aw,seval]
 case' neg=>
  have dx:decide (x=⟨#[115,117,109]⟩)=false:=decide_eq_false d1;by_cases d2:x=gS
  case' pos=>
   have dy:decide (x=⟨#[111,110,101,115]⟩)=true:=decide_eq_true d2;have hi1:=isr (m:=aa 40);rw[show(decide (s1.2=0)&&ax (aa 40) ts s1.1)=false from Bool.eq_false_iff.2 fun h=>c2 ⟨d2,h⟩]at hi1;unfold aa at hi1;simp -dsimp only[aw,seval,dx,dy];refine ac (hi1 _) ?_;simp -dsimp only[aw,seval]
  case' neg=>
   have dy:decide (x=⟨#[111,110,101,115]⟩)=false:=decide_eq_false d2;simp -dsimp only[aw,seval,dx,dy]
 all_goals
  have hi2:=isr (m:=aa 91);refine ac (hi2 _) ?_;by_cases c3:isX ts (aa 91) s1=true
  .rw[if_pos c3]at h;have hu:=cG c3;obtain⟨⟨v1,s2⟩,e1,e2⟩:=Option.map_eq_some_iff.1 h;cases e2;obtain⟨σ2,S2,hl2,hw2,hup⟩:=S1.up (by have:=hn.2;omega);rw[show(decide (s1.2=0)&&ax (aa 91) ts s1.1)=true from c3];simp -dsimp only[aw,seval,hio,hw2,hup];rw[<-hl2];refine cx S2 (hR 1 _ _ _ (by omega) (by omega) e1 hu.2 _ _ (ah S2.at_ _)) fun σ3 S3 hl3=>?_;have h2:=(eY ts n _ _ _ _ e1 hu.2).2;rw[<-hl3];simp -dsimp only[aw,seval,au];refine cx S3 (fD (aa 93) H h2 _ (ah S3.at_ _)) fun σ4 S4 hl4=>?_;rw[<-hl4];simp -dsimp only[aw,seval];exact gQ S4 (by rw[au];simp[o9,aC,aQ,bF,bt,aU,aH,aI,aw,seval]<;>rfl) (gY _ _)
  rw[if_neg c3]at h;rw[show(decide (s1.2=0)&&ax (aa 91) ts s1.1)=false from Bool.eq_false_iff.2 c3];have hi3:=isr (m:=aa 64);simp -dsimp only[aw,seval];refine ac (hi3 _) ?_;by_cases c4:isX ts (aa 64) s1=true
  .rw[if_pos c4]at h;have hu:=cG c4;cases h;obtain⟨σ2,S2,hl2,hw2,hup⟩:=S1.up (by have:=hn.2;omega);rw[show(decide (s1.2=0)&&ax (aa 64) ts s1.1)=true from c4];simp -dsimp only[aw,seval,hio,hw2,hup];rw[<-hl2];refine cx S2 (pz H hu.2 _ (ah S2.at_ _)) fun σ3 S3 hl3=>?_;have hnum:=Hr (ts:=ts) (upS s1).1 (upS s1).2;have hd:=fun σ=>sG _ hnum.1 (by omega) σ;obtain⟨y,rfl⟩:∃y,x=bs y:=⟨_,(jR x).symm⟩
   rw[aG]at hxs;have h5:=wI (cD ts (upS s1).1 (upS s1).2).1.toNat (by omega);have hel:=p4 y (cD ts (upS s1).1 (upS s1).2).1;have a1:cd .add (V.d (ai (bs y))) (V.d (ai ⟨#[91]⟩))=some (V.d (ai (bs (y++[91])))):=fg y [91] (by simp only[TJ,TK];omega)
   have a2:cd .add (V.d (ai (bs (y++[91])))) (V.d (ai (bs (Lib.decDigits (cD ts (upS s1).1 (upS s1).2).1.toNat))))=some (V.d (ai (bs (y++91::Lib.decDigits (cD ts (upS s1).1 (upS s1).2).1.toNat)))):=by
    have:=fg (y++[91]) (Lib.decDigits (cD ts (upS s1).1 (upS s1).2).1.toNat) (by simp only[TL,TJ,TK];omega);simpa using this
   have a3:cd .add (V.d (ai (bs (y++91::Lib.decDigits (cD ts (upS s1).1 (upS s1).2).1.toNat)))) (V.d (ai ⟨#[93]⟩))=some (V.d (ai (gX (bs y) (cD ts (upS s1).1 (upS s1).2).1))):=by
    have:=fg (y++91::Lib.decDigits (cD ts (upS s1).1 (upS s1).2).1.toNat) [93] (by simp only[TL,TJ,TK];omega);rw[hel];show cd .add _ (V.d (ai (bs [93])))=_;simpa using this
   rw[<-hl3];simp -dsimp only[aw,seval,a1];refine ac (hd _) ?_;simp -dsimp only[aw,seval,a2,a3];exact gQ S3 (by rw[au];simp[o9,aC,aQ,bt,aU,aH,aI,aw,seval]<;>rfl) (gY _ _)
  rw[if_neg c4]at h;rw[show(decide (s1.2=0)&&ax (aa 64) ts s1.1)=false from Bool.eq_false_iff.2 c4];cases h;simp -dsimp only[aw,seval];exact gQ S1 (by rw[au];simp[o9,aC,aQ,bt,aU,aH,aI,aw,seval]<;>rfl) (gY _ _)
end
end Go.Proofs.YtnhphlmblenapaaGreatDoor
namespace Go.Proofs.YtnhphlmblenapaaGreatDoor
open Go.RowKit
theorem wH{ts:List Tok}{i:Nat}{s:RS}(H:TsV ts)(hs:s.1≤ts.length)(σ:LLV)(hi:σ[i]? = some (rb ts s.1 s.2))(n:Nat)(hR:∀m,m<n->RC ts m)(a0:Ex){v:Ex}{s':RS}(h:cT ts (n+1) (.In a0) s=some (v,s')):Fun G 263 [.ptr i 0,vex a0] σ (RB (vex v) σ i ts s'):=by
 have hL:=H.ok.len;refine ae Tryz.func263 Ra (by simp only[au];rfl) fun hb hw=>?_;have S:=Sr.init hi hb;have h0:=fI (m:=aa 123) hs;obtain⟨⟨v1,sf⟩,e1,e2⟩:=Option.map_eq_some_iff.1 (show(cT ts n (.Rg [a0]) (cw ts (aa 123) s)).map (fun p=>(p.1,cw ts (aa 125) p.2))=some (v,s')from h);cases e2;unfold Ly;simp -dsimp only[aw,seval,au];refine cx S (fD (aa 123) H hs _ (ah S.at_ _)) fun σ1 S1 hl1=>?_;rw[<-hl1];simp -dsimp only[aw,seval]
 refine aL [0,4,5] (R:=fun(j:Nat) ρ σ'=>∃(s1:RS) (args:List Ex) (σ2:LLV) (x:LLV),ρ=[(0,.ptr i 0),(4,.ptr (σ1.length+1) 0),(5,.own 50 4 (args.map dex))]/\σ'=σ2++x/\x=[[.d (ab a0.op),.d (ab a0.num),.d (ai a0.name),.d (.sl (a0.args.map dex))],[.d (ab 0),.d (ab 0),.d (ai ⟨#[]⟩),.nil]]/\Sr σ i ts s1 σ2/\σ2.length=σ1.length/\s1.1≤ts.length/\args.length≤2*s1.1+1/\cT ts (n-j) (.Rg args) s1=some (v1,sf)) n ⟨_,[a0],σ1,_,by simp only[TN,TO,bF];rfl,rfl,rfl,S1,rfl,h0.2,by simp only[TJ,TK];omega,e1⟩ ?_ _;rintro j ρ' σ' hj ⟨s1,args,σ2,x,rfl,rfl,hx,S2,hl2,g1,g2,g3⟩
 obtain⟨m,hm⟩:∃m,n-j=m+1:=⟨n-j-1,by
  have:n-j≠0:=fun h=>by rw[h]at g3;cases g3
  omega⟩
 rw[hm]at g3;have hRm:=hR m (by omega);simp only[cT,stX]at g3;have hio:=fun l=>ah S2.at_ l;unfold rb at hio;subst hx;rw[<-hl2];by_cases he:s1.2=0
 case neg=>
  rw[if_neg he]at g3;cases g3;simp -dsimp only[aw,seval,hio,decide_eq_false he];refine cx S2 (fD (aa 125) H g1 _ (ah S2.at_ _)) fun σ3 S3 hl3=>?_;rw[<-hl3];simp -dsimp only[aw,seval];exact gQ S3 (by rw[au];simp[Fv,aC,aQ,aK,bt,aU,aH,aI,aw,seval]<;>rfl) (gY _ _)
 rw[if_pos he]at g3;obtain⟨⟨x1,s2⟩,e1,g3⟩:=Option.bind_eq_some_iff.1 g3;obtain⟨⟨x2,s4⟩,e2,g3⟩:=Option.bind_eq_some_iff.1 g3;have k1:=eY ts _ _ _ _ _ e1 g1;have k2:=fI (m:=ba 46 46) k1.2;have k3:=eY ts _ _ _ _ _ e2 k2.2;simp -dsimp only[aw,seval,hio,decide_eq_true he];refine cx S2 (hRm 1 _ _ _ (by omega) (by omega) e1 g1 _ _ (ah S2.at_ _)) fun σ3 S3 hl3=>?_;rw[<-hl3];simp -dsimp only[aw,seval,au];refine cx S3 (fD (ba 46 46) H k1.2 _ (ah S3.at_ _)) fun σ4 S4 hl4=>?_;rw[<-hl4];simp -dsimp only[aw,seval];refine cx S4 (hRm 1 _ _ _ (by omega) (by omega) e2 k2.2 _ _ (ah S4.at_ _)) fun σ5 S5 hl5=>?_;rw[<-hl5]
 simp -dsimp only[aw,seval,au];refine bg (by omega) ?_;simp -dsimp only[aw,seval];have hrows:args.map dex++[[ab x1.op,ab x1.num,ai x1.name,D.sl (x1.args.map dex)],[ab x2.op,ab x2.num,ai x2.name,D.sl (x2.args.map dex)]]=(args++[x1,x2]).map dex:=by rw[List.map_append,TN,TN,TO,bF,bF]
 rw[hrows];have hc:=fun l=>gF H k3.2 (σ5++l) (ah S5.at_ l) (aa 44);unfold aa at hc;refine ac (hc _) ?_;simp only at g3;by_cases h44:isX ts (aa 44) s4=true
 .rw[if_pos h44]at g3;have hu:=cG h44;obtain⟨σ6,S6,hl6,hw6,hup⟩:=S5.up (by have:=k3.2;omega);have hio5:=fun l=>ah S5.at_ l;unfold rb at hio5;rw[show(decide (s4.2=0)&&ax ⟨#[44]⟩ ts s4.1)=true from h44];simp -dsimp only[aw,seval,hio5,hw6,hup];rw[<-hl6];have k12:=Nat.le_trans (Nat.le_trans k1.1 k2.1) k3.1;refine⟨by omega,Nxt.to (σ6++[[.d (ab a0.op),.d (ab a0.num),.d (ai a0.name),.d (.sl (a0.args.map dex))],[.d (ab 0),.d (ab 0),.d (ai ⟨#[]⟩),.nil]]) [[.d (ab x1.op),.d (ab x1.num),.d (ai x1.name),.d (.sl (x1.args.map dex))],[.d (ab x2.op),.d (ab x2.num),.d (ai x2.name),.d (.sl (x2.args.map dex))]] (by simp) (by simp) (aq S6.bb rfl) ?_ ⟨upS s4,args++[x1,x2],σ6,_,?_,rfl,rfl,S6,?_,hu.2,?_,?_⟩⟩
  .have:=S6.lt;simp[an,V.under,S6.len];omega
  .rw[hl6,hl5,hl4,hl3,hl2]
  .omega
  .simp only[TL,TJ,TK];show _≤2*(s4.1+1)+1;omega
  .rw[show n-(j+1)=m by omega];exact g3
 .rw[if_neg h44]at g3;rw[show(decide (s4.2=0)&&ax ⟨#[44]⟩ ts s4.1)=false from Bool.eq_false_iff.2 h44];cases g3;simp -dsimp only[aw,seval];refine cx S5 (fD (aa 125) H k3.2 _ (ah S5.at_ _)) fun σ6 S6 hl6=>?_;rw[<-hl6];simp -dsimp only[aw,seval];exact gQ S6 (by rw[au];simp[Fv,aC,aQ,aK,bt,aU,aH,aI,aw,seval]<;>rfl) (gY _ _)
abbrev eB(a:Ex):List V:=[.d (ab a.op),.d (ab a.num),.d (ai a.name),.d (.sl (a.args.map dex))]
abbrev zBs:List V:=[.d (ab 0),.d (ab 0),.d (ai ⟨#[]⟩),.nil]
def n9:List (UInt8×Int):=[(33,4),(126,5),(45,6)]
def A3(ts:List Tok)(rec:RK->RS->Option (Ex×RS))(s:RS):List (UInt8×Int)->Option (Ex×RS)
 | []=>fX ts rec s
 | p::l=>if isX ts (aa p.1) s=true then(rec (.E 13) (upS s)).map fun q=>(aK p.2 [q.1],q.2)else A3 ts rec s l
theorem IQ:∀j,j<3->∃c,n9.drop j=(c,4+((j:Nat):Int))::n9.drop (j+1)/\wJ (4+((j:Nat):Int))=[c]:=by
 intro j h;have:j=0\/j=1\/j=2:=by omega
 rcases this with rfl|rfl|rfl
 .exact⟨33,rfl,rfl⟩
 .exact⟨126,rfl,rfl⟩
 .exact⟨45,rfl,rfl⟩
section
variable {ts : List Tok} {i : Nat} {s : RS} (H : TsV ts) (hs : s.1 ≤ ts.length) (σ : LLV) (hi : σ[i]? = some (rb ts s.1 s.2)) (n : Nat) (hR : ∀ m, m < n + 1 -> RC ts m) {v : Ex} {s' : RS}
include H hs hi hR
theorem IW(h:cT ts (n+1) (.E 14) s=some (v,s')):Fun G 233 [.ptr i 0,.d (ab 14)] σ (RB (vex v) σ i ts s'):=by
 have h':fX ts (cT ts n) s=some (v,s'):=h;refine ae Tryz.func233 Li rfl fun hb hw=>?_;have S:=Sr.init hi hb;unfold c233;simp -dsimp only[aw,seval];refine cx S (nr H hs _ (ah hi _) n (hR n (by omega)) h') fun σ1 S1 hl1=>?_;rw[<-hl1];simp -dsimp only[aw,seval,au];exact gQ S1 (by simp[m9,aC,aQ,aw,seval]<;>rfl) (by rfl)
theorem G9(h:cT ts (n+1) (.E 13) s=some (v,s')):Fun G 233 [.ptr i 0,.d (ab 13)] σ (RB (vex v) σ i ts s'):=by
 have hL:=H.ok.len;refine ae Tryz.func233 Li rfl fun hb hw=>?_;have S:=Sr.init hi hb;have hp:=fun o σ=>uZ o σ;have hio:=fun l=>ah hi l;unfold rb at hio;replace h:A3 ts (cT ts n) s (n9.drop 0)=some (v,s'):=h;unfold c233;simp -dsimp only[aw,seval];refine aL [0,4,5] (fun(j:Nat) ρ σ'=>ρ=[(0,.ptr i 0),(4,.ptr σ.length 0),(5,aF .i64 (4+((j:Nat):Int)))]/\σ'=σ++[zBs]/\A3 ts (cT ts n) s (n9.drop j)=some (v,s')) 3 ⟨rfl,rfl,h⟩ ?_ _;rintro j ρ' σ' hj ⟨rfl,rfl,hI⟩;by_cases hlt:j<3
 .obtain⟨c,hc,hpj⟩:=IQ j hlt;have hp:=hp (4+((j:Nat):Int));rw[hpj]at hp;rw[hc]at hI;unfold A3 at hI;have dj:decide (4+((j:Nat):Int)≤6)=true:=decide_eq_true (by omega);have hw1:IntKind.i64.wrap (4+((j:Nat):Int)+1)=4+((j+1:Nat):Int):=by rw[aA (by omega) (by omega)];omega
  have hsee:=fun l=>gF H hs (σ++l) (ah hi l) (bs [c]);simp -dsimp only[aw,seval,dj];refine ac (hp _) ?_;simp -dsimp only[aw,seval];refine ac (hsee _) ?_;by_cases hm:isX ts (aa c) s=true
  .rw[if_pos hm]at hI;obtain⟨⟨v1,s1⟩,e1,e2⟩:=Option.map_eq_some_iff.1 hI;cases e2;have hu:=cG hm;obtain⟨σ1,S1,hl1,hw2,hup⟩:=S.up (by omega);rw[show(decide (s.2=0)&&ax (bs [c]) ts s.1)=true from hm];simp -dsimp only[aw,seval,hio,hw2,hup];rw[<-hl1];refine cx S1 (hR n (by omega) 13 _ _ _ (by omega) (by omega) e1 hu.2 _ _ (ah S1.at_ _)) fun σ2 S2 hl2=>?_;rw[<-hl2];simp -dsimp only[aw,seval,au];exact gQ S2 (by simp[m9,aC,aQ,aK,bF,bt,aU,aH,aI,aw,seval]<;>rfl) (by rfl)
  .rw[if_neg hm]at hI;rw[show(decide (s.2=0)&&ax (bs [c]) ts s.1)=false from Bool.eq_false_iff.2 hm];simp -dsimp only[aw,seval,hw1];exact⟨hlt,Nxt.same (by simp) (aq hb rfl) (by have:=S.lt;simp[an,V.under];omega) ⟨rfl,rfl,hI⟩⟩
 .have ej:j=3:=by omega
  subst ej;have hI:fX ts (cT ts n) s=some (v,s'):=hI;have dj:decide (4+((3:Nat):Int)≤6)=false:=rfl;simp -dsimp only[aw,seval,dj];refine cx S (nr H hs _ (ah hi _) n (hR n (by omega)) hI) fun σ1 S1 hl1=>?_;rw[<-hl1];simp -dsimp only[aw,seval,au];exact gQ S1 (by simp[m9,aC,aQ,aw,seval]<;>rfl) (by rfl)
theorem Kp(k:Nat)(hk1:1≤k)(hk2:k≤12)(h:cT ts (n+1) (.E k) s=some (v,s')):Fun G 233 [.ptr i 0,.d (ab k)] σ (RB (vex v) σ i ts s'):=by
 have hL:=H.ok.len;refine ae Tryz.func233 Li rfl fun hb hw=>?_;have S:=Sr.init hi hb;simp only[cT,stX]at h;rw[if_neg (by omega),if_neg (by omega)]at h;obtain⟨⟨x1,s1⟩,e1,h⟩:=Option.bind_eq_some_iff.1 h;simp only at h;have k1:=eY ts _ _ _ _ _ e1 hs;have dk:∀c:Nat,decide (((k:Nat):Int)=(c:Int))=decide (k=c):=fun c=>decide_eq_decide.2 (by omega);have d14:decide (((k:Nat):Int)=14)=false:=decide_eq_false (by omega);have d13:decide (((k:Nat):Int)=13)=false:=decide_eq_false (by omega);have wk:IntKind.i64.wrap (((k:Nat):Int)+1)=((k+1:Nat):Int):=aA (by omega) (by omega);unfold c233;simp -dsimp only[aw,seval,d14,d13,wk];refine cx S (hR n (by omega) (k+1) _ _ _ (by omega) (by omega) e1 hs _ _ (ah S.at_ _)) fun σ1 S1 hl1=>?_;rw[<-hl1];have hio:=fun l=>ah S1.at_ l;unfold rb at hio
 have hsee:=fun m l=>gF H k1.2 (σ1++l) (ah S1.at_ l) m;by_cases q1:k=1
 .subst q1;have c11:decide (((1:Nat):Int)=1)=true:=rfl;have c12:decide (((1:Nat):Int)=2)=false:=rfl;have hs1:=hsee (aa 63);unfold aa at hs1;by_cases hm:isX ts (aa 63) s1=true
  .rw[if_pos ⟨rfl,hm⟩]at h;obtain⟨⟨x2,s2⟩,e2,h⟩:=Option.bind_eq_some_iff.1 h;obtain⟨⟨x3,s4⟩,e3,e4⟩:=Option.map_eq_some_iff.1 h;cases e4;have hu:=cG hm;have k2:=eY ts _ _ _ _ _ e2 hu.2;have k3:=fI (m:=aa 58) k2.2;obtain⟨σ2,S2,hl2,hw2,hup⟩:=S1.up (by have:=k1.2;omega);rw[show(decide (s1.2=0)&&ax ⟨#[63]⟩ ts s1.1)=true from hm]at hs1;simp -dsimp only[aw,seval,au,c11];refine ac (hs1 _) ?_;simp -dsimp only[aw,seval,hio,hw2,hup,c11];rw[<-hl2];refine cx S2 (hR n (by omega) 1 _ _ _ (by omega) (by omega) e2 hu.2 _ _ (ah S2.at_ _)) fun σ3 S3 hl3=>?_;rw[<-hl3];simp -dsimp only[aw,seval,au];refine cx S3 (fD (aa 58) H k2.2 _ (ah S3.at_ _)) fun σ4 S4 hl4=>?_;rw[<-hl4]
   simp -dsimp only[aw,seval];refine cx S4 (hR n (by omega) 1 _ _ _ (by omega) (by omega) e3 k3.2 _ _ (ah S4.at_ _)) fun σ5 S5 hl5=>?_;rw[<-hl5];simp -dsimp only[aw,seval,au];exact gQ S5 (by simp[m9,aC,aQ,aK,bF,bt,aU,aH,aI,aw,seval]<;>rfl) (by rfl)
  .rw[if_neg fun h=>hm h.2,if_neg (by omega),if_neg (by omega)]at h;rw[show(decide (s1.2=0)&&ax ⟨#[63]⟩ ts s1.1)=false from Bool.eq_false_iff.2 hm]at hs1;cases h;simp -dsimp only[aw,seval,au,c11,c12];refine ac (hs1 _) ?_;simp -dsimp only[aw,seval,c11,c12];refine aL [0,1,4,7] (fun(j:Nat) ρ σ'=>ρ=[(0,.ptr i 0),(1,.d (ab (1:Nat))),(4,.ptr σ1.length 0),(7,.ptr (σ1.length+1) 0)]/\σ'=σ1++[zBs,eB v]) 0 ⟨rfl,rfl⟩ ?_ _;rintro j ρ' σ' hj ⟨rfl,rfl⟩;have d2:decide ((2:Int)<((1:Nat):Int))=false:=rfl;simp -dsimp only[aw,seval,d2];exact gQ S1 (by rw[au];simp[m9,aC,aQ,aw,seval]<;>rfl) (gY _ _)
 by_cases q2:k=2
 .subst q2;have c21:decide (((2:Nat):Int)=1)=false:=rfl;have c22:decide (((2:Nat):Int)=2)=true:=rfl;have hs1:=hsee (ba 61 62);unfold ba at hs1;rw[if_neg (by omega)]at h;by_cases hm:isX ts (ba 61 62) s1=true
  .rw[if_pos ⟨rfl,hm⟩]at h;obtain⟨⟨x2,s2⟩,e2,e4⟩:=Option.map_eq_some_iff.1 h;cases e4;have hu:=cG hm;obtain⟨σ2,S2,hl2,hw2,hup⟩:=S1.up (by have:=k1.2;omega);rw[show(decide (s1.2=0)&&ax ⟨#[61,62]⟩ ts s1.1)=true from hm]at hs1;simp -dsimp only[aw,seval,au,c21,c22];refine ac (hs1 _) ?_;simp -dsimp only[aw,seval,hio,hw2,hup,c22];rw[<-hl2];refine cx S2 (hR n (by omega) 2 _ _ _ (by omega) (by omega) e2 hu.2 _ _ (ah S2.at_ _)) fun σ3 S3 hl3=>?_;rw[<-hl3];simp -dsimp only[aw,seval,au];exact gQ S3 (by simp[m9,aC,aQ,aK,bF,bt,aU,aH,aI,aw,seval]<;>rfl) (by rfl)
  .rw[if_neg fun h=>hm h.2,if_neg (by omega)]at h;rw[show(decide (s1.2=0)&&ax ⟨#[61,62]⟩ ts s1.1)=false from Bool.eq_false_iff.2 hm]at hs1;cases h;simp -dsimp only[aw,seval,au,c21,c22];refine ac (hs1 _) ?_;simp -dsimp only[aw,seval,c22];refine aL [0,1,4,7] (fun(j:Nat) ρ σ'=>ρ=[(0,.ptr i 0),(1,.d (ab (2:Nat))),(4,.ptr σ1.length 0),(7,.ptr (σ1.length+1) 0)]/\σ'=σ1++[zBs,eB v]) 0 ⟨rfl,rfl⟩ ?_ _;rintro j ρ' σ' hj ⟨rfl,rfl⟩;have d2:decide ((2:Int)<((2:Nat):Int))=false:=rfl;simp -dsimp only[aw,seval,d2];exact gQ S1 (by rw[au];simp[m9,aC,aQ,aw,seval]<;>rfl) (gY _ _)
 rw[if_neg (by omega),if_neg (by omega),if_pos (by omega)]at h;have c1:decide (((k:Nat):Int)=1)=false:=decide_eq_false (by omega);have c2:decide (((k:Nat):Int)=2)=false:=decide_eq_false (by omega);have d2:decide ((2:Int)<((k:Nat):Int))=true:=decide_eq_true (by omega);have dk9:decide (((k:Nat):Int)=9)=decide (k=9):=decide_eq_decide.2 (by omega);simp -dsimp only[aw,seval,au,c1,c2];clear hsee hio;refine aL [0,1,4,7] (fun(j:Nat) ρ σ'=>∃(s2:RS) (a:Ex) (σ2:LLV),ρ=[(0,.ptr i 0),(1,.d (ab k)),(4,.ptr σ2.length 0),(7,.ptr (σ2.length+1) 0)]/\σ'=σ2++[zBs,eB a]/\Sr σ i ts s2 σ2/\s2.1≤ts.length/\σ2.length=σ1.length/\cT ts (n-j) (.Lp k a) s2=some (v,s')) n ⟨s1,x1,σ1,rfl,rfl,S1,k1.2,rfl,h⟩ ?_ _;rintro j ρ' σ' hj ⟨s2,a,σ2,rfl,rfl,S2,g1,hl2,g3⟩
 obtain⟨m,hm⟩:∃m,n-j=m+1:=⟨n-j-1,by
  have:n-j≠0:=fun h=>by rw[h]at g3;cases g3
  omega⟩
 rw[hm]at g3;have hRm:=hR m (by omega);have g0:=g3;simp only[cT,stX]at g3;have hio:=fun l=>ah S2.at_ l;unfold rb at hio;have hop:=fun l=>Br H g1 (σ2++l) (ah S2.at_ l) k (by omega) hk2;obtain⟨σ3,S3,hl3,hw3,hup⟩:=S2.up (by omega);have hsee:=fun l=>gF H g1 (σ2++l) (ah S2.at_ l) ct;rw[<-hl2];by_cases c9:k=9/\isX ts ct s2=true
 .rw[if_pos c9]at g3;obtain⟨⟨x2,s3⟩,e2,g4⟩:=Option.bind_eq_some_iff.1 g3;have hu:=cG c9.2
  obtain⟨m',rfl⟩:∃m',m=m'+1:=⟨m-1,by
   have:m≠0:=fun h=>by rw[h]at e2;cases e2
   omega⟩
  have k2:=eY ts _ _ _ _ _ e2 hu.2;rw[show(decide (s2.2=0)&&ax ct ts s2.1)=true from c9.2]at hsee;unfold ct at hsee;simp -dsimp only[aw,seval,d2,dk9,decide_eq_true c9.1];refine ac (hsee _) ?_;simp -dsimp only[aw,seval,hio,hw3,hup,dk9,decide_eq_true c9.1];rw[<-hl3];have hin:=wH H hu.2 (σ3++[zBs,eB a]) (ah S3.at_ _) m' (fun q hq=>hR q (by omega)) a e2;rw[au]at hin;simp -dsimp only[aw,seval];refine cx S3 hin fun σ4 S4 hl4=>?_;rw[<-hl4];simp -dsimp only[aw,seval,au];refine⟨by omega,Nxt.to (σ4++[zBs,eB x2]) [] (by simp) (by simp) (aq S4.bb rfl) ?_ ⟨s3,x2,σ4,rfl,rfl,S4,k2.2,?_,by rw[show n-(j+1)=m'+1 by omega];exact g4⟩⟩
  .have:=S4.lt;have:=S4.len;simp[an,V.under];omega
  .first|rfl|rw[hl4,hl3,hl2]
 rw[if_neg c9]at g3;by_cases k9:k=9
 case' pos=>
  rw[show(decide (s2.2=0)&&ax ct ts s2.1)=false from Bool.eq_false_iff.2 fun h=>c9 ⟨k9,h⟩]at hsee;unfold ct at hsee;simp -dsimp only[aw,seval,d2,dk9,decide_eq_true k9];refine ac (hsee _) ?_;simp -dsimp only[aw,seval,dk9,decide_eq_true k9];refine ac (hop _) ?_
 case' neg=>
  simp -dsimp only[aw,seval,d2,dk9,decide_eq_false k9];refine ac (hop _) ?_
 all_goals
  by_cases o0:(hH ts s2.1 s2.2 k).1=0
  .rw[if_pos o0]at g3;cases g3;simp -dsimp only[aw,seval,decide_eq_true o0];exact gQ S2 (by rw[au];simp[m9,aC,aQ,aw,seval]<;>rfl) (gY _ _)
  .rw[if_neg o0]at g3;obtain⟨⟨x2,s3⟩,e2,g4⟩:=Option.bind_eq_some_iff.1 g3;have hu:=EF o0;have k2:=eY ts _ _ _ _ _ e2 hu.2;generalize hH ts s2.1 s2.2 k=ob at *;obtain⟨o,ex⟩:=ob;simp only at o0 g4 ⊢;simp -dsimp only[aw,seval,decide_eq_false o0,hio,hw3,hup,wk];rw[<-hl3];refine cx S3 (hRm (k+1) _ _ _ (by omega) (by omega) e2 hu.2 _ _ (ah S3.at_ _)) fun σ4 S4 hl4=>?_;rw[<-hl4];cases ex with
   | true=>
    rw[if_pos rfl]at g4;simp -dsimp only[aw,seval,au];refine⟨by omega,Nxt.to (σ4++[zBs,eB (aK o [x2,a])]) [eB x2] (by simp[aK,bt,aU,aH,aI,bF]) (by simp) (aq S4.bb rfl) ?_ ⟨s3,aK o [x2,a],σ4,rfl,rfl,S4,k2.2,?_,by rw[show n-(j+1)=m by omega];exact g4⟩⟩
    .have:=S4.lt;have:=S4.len;simp[an,V.under];omega
    .first|rfl|rw[hl4,hl3,hl2]
   | false=>
    rw[if_neg (by decide)]at g4;simp -dsimp only[aw,seval,au];refine⟨by omega,Nxt.to (σ4++[zBs,eB (aK o [a,x2])]) [eB x2] (by simp[aK,bt,aU,aH,aI,bF]) (by simp) (aq S4.bb rfl) ?_ ⟨s3,aK o [a,x2],σ4,rfl,rfl,S4,k2.2,?_,by rw[show n-(j+1)=m by omega];exact g4⟩⟩
    .have:=S4.lt;have:=S4.len;simp[an,V.under];omega
    .first|rfl|rw[hl4,hl3,hl2]
end
theorem Cj{ts:List Tok}(H:TsV ts)(n:Nat):RC ts n:=by
 induction n using Nat.strongRecOn with
 | _ n ih=>
  intro k s s' v h1 h2 h hs σ i hi
  obtain⟨m,rfl⟩:∃m,n=m+1:=⟨n-1,by
   have:n≠0:=fun e=>by rw[e]at h;cases h
   omega⟩
  by_cases c1:k=14
  .subst c1;exact IW H hs σ hi m ih h
  by_cases c2:k=13
  .subst c2;exact G9 H hs σ hi m ih h
  .exact Kp H hs σ hi m ih k h1 (by omega) h
end Go.Proofs.YtnhphlmblenapaaGreatDoor
