import Derived.Test.YtnhphlmblenapaaGreatDoorRa3
set_option linter.unusedVariables false
set_option linter.unusedSimpArgs false
set_option linter.unusedSectionVars false
set_option maxHeartbeats 8000000
open List renaming length_cons->Sq,length_nil->Ss,length_append->Su,length_set->Sv,map_cons->Sw,map_nil->Sx
namespace Go.Proofs.YtnhphlmblenapaaGreatDoor
open Go.RowKit
structure Sr(σ0:LLV)(i:Nat)(ts:List Tok)(s:RS)(σ:LLV):Prop where
 eq:σ=σ0.set i (rb ts s.1 s.2)
 below:ak σ0.length σ0=true
 lt:i<σ0.length
def RB(v:V)(σ:LLV)(i:Nat)(ts:List Tok)(s:RS):Out->LLV->Prop:=fun o σ'=>o=.ret v/\σ'=σ.set i (rb ts s.1 s.2)
section
variable {σ0 σ : LLV} {i : Nat} {ts : List Tok} {s : RS}
theorem Sr.init(hi:σ[i]? = some (rb ts s.1 s.2))(hb:ak σ.length σ=true):Sr σ i ts s σ:=⟨(oc hi).symm,hb,(List.getElem?_eq_some_iff.1 hi).1⟩
theorem Sr.len(S:Sr σ0 i ts s σ):σ.length=σ0.length:=by rw[S.eq,Sv]
theorem Sr.at_(S:Sr σ0 i ts s σ):σ[i]? = some (rb ts s.1 s.2):=by rw[S.eq,List.getElem?_set_self S.lt]
theorem Sr.bb(S:Sr σ0 i ts s σ):ak σ.length σ=true:=by rw[S.len,S.eq];exact bt S.below rfl
theorem Sr.step(S:Sr σ0 i ts s σ)(s':RS):Sr σ0 i ts s' (σ.set i (rb ts s'.1 s'.2)):=⟨by rw[S.eq,List.set_set],S.below,S.lt⟩
theorem cw{f:FuncId}{args:List V}{v:V}{s':RS}{l:LLV}{K P:V->LLV->Prop}{tK:Tag K}{tP:Tag P}(S:Sr σ0 i ts s σ)(h:Fun G f args (σ++l) (RB v (σ++l) i ts s'))(hk:∀σ',Sr σ0 i ts s' σ'->σ'.length=σ.length->K v (σ'++l)):e8 G f args (σ++l) K P tK tP:=by
 refine aB h fun o σ' ⟨e1,e2⟩=>?_;subst e1;rw[bc S.at_]at e2;subst e2;rw[aP];exact hk _ (S.step s') Sv
theorem Sr.up(S:Sr σ0 i ts s σ)(h:s.1≤100000000):∃σ',Sr σ0 i ts (upS s) σ'/\σ'.length=σ.length/\IntKind.i64.wrap (((s.1:Nat):Int)+1)=((s.1+1:Nat):Int)/\∀l:LLV,(σ++l).set i [.d (.sl (ts.map dA)),aK .i64 ((s.1+1:Nat):Int),.d (ab s.2)]=σ'++l:=
 ⟨_,S.step (upS s),Sv,aA (by omega) (by omega),fun l=>bc S.at_ l _⟩
theorem fp(m:ByteArray)(H:TsV ts)(hs:s.1≤ts.length)(σ:LLV)(hi:σ[i]? = some (rb ts s.1 s.2)):Fun G 262 [.ptr i 0,.d (aj m)] σ (RB (.tup []) σ i ts (cv ts m s)):=by
 have e:(if s.2=0 then(if ax m ts s.1=true then rb ts (s.1+1) 0 else rb ts s.1 (bV ts s.1))else rb ts s.1 s.2)=rb ts (cv ts m s).1 (cv ts m s).2:=by
  unfold cv;split
  .split<;>rfl
  .rfl
 have h:=BS H hs σ hi m;rw[e]at h;exact h
theorem gu{v:V}{s':RS}{σ':LLV}{l:LLV}{rs:List RV}{ρ:ai}(S:Sr σ i ts s' σ')(h:aC (σ'++l) ρ rs=some v)(hv:V.under σ'.length v=true):fin σ'.length rs (RB v σ i ts s') .ret ρ (σ'++l):=by
 have e:σ'=σ.set i (rb ts s'.1 s'.2):=S.eq;have hl:=S.len;rw[hl]at hv ⊢;refine bp (τ:=σ.set i (rb ts s'.1 s'.2)) (bt S.below rfl) h hv (by rw[e,cP]) ⟨rfl,rfl⟩
theorem gI(n:Nat)(v:Ex):V.under n (vex v)=true:=by rw[ao];rfl
end
theorem HP{ts:List Tok}(H:TsV ts)(a:Nat)(e:Int):(bU ts a e).1.size≤1000:=by
 unfold bU;split
 .rename_i p hp;split at hp
  .have hl:=iW (ts:=ts) (a:=a) (by rw[hp];rfl);rw[fv hl]at hp;split at hp
   .cases hp;exact H.ok.size _ (List.getElem_mem hl)
   .cases hp
  .cases hp
 .exact Nat.zero_le _
theorem F9{ts:List Tok}(a:Nat)(e:Int):0≤(cA ts a e).1/\(cA ts a e).1≤65535:=by
 unfold cA;split
 .rename_i p hp;split at hp
  .have hl:=mN (ts:=ts) (a:=a) (by rw[hp];rfl);rw[eO hl]at hp;split at hp
   .rename_i hk;cases hp;have h1:=hk.1;unfold bO at h1;rw[if_pos hk.2,Bool.and_eq_true,Bool.and_eq_true,decide_eq_true_eq]at h1;split
    .show(0:Int)≤0/\(0:Int)≤65535;exact⟨by decide,by decide⟩
    .exact⟨h1.1.1,by omega⟩
   .cases hp
  .cases hp
 .show(0:Int)≤0/\(0:Int)≤65535;exact⟨by decide,by decide⟩
def RC(ts:List Tok)(n:Nat):Prop:=∀(k:Nat) (s s':RS) (v:Ex),1≤k->k≤14->cQ ts n (.E k) s=some (v,s')->s.1≤ts.length->∀(σ:LLV) (i:Nat),σ[i]? = some (rb ts s.1 s.2)->Fun G 233 [.ptr i 0,.d (ab k)] σ (RB (vex v) σ i ts s')
section
variable {ts : List Tok} {i : Nat} {s : RS} (H : TsV ts) (hs : s.1 ≤ ts.length) (σ : LLV) (hi : σ[i]? = some (rb ts s.1 s.2))
include H hs hi
theorem mD(n:Nat)(hR:RC ts n){v:Ex}{s':RS}(h:fJ ts (cQ ts n) s=some (v,s')):Fun G 259 [.ptr i 0] σ (RB (vex v) σ i ts s'):=by
 have hL:=H.ok.len;refine ae Tryz.func259 QN rfl fun hb hw=>?_;have S:=Sr.init hi hb;have hK:=fun l=>la H hs (σ++l) (ah hi l);unfold NT;unfold fJ at h;simp -dsimp only[aw,seval];refine ac (hK _) ?_;by_cases h3:m9 ts s=3
 .rw[if_pos h3]at h;unfold m9 at h3;rw[h3];cases h;simp -dsimp only[aw,seval,decide_true];refine cw S (oq H hs _ (ah hi _)) fun σ1 S1 hl1=>?_;rw[<-hl1];simp -dsimp only[aw,seval];exact gu S1 (by rw[ao];simp[oh,aC,aO,bq,aU,aG,aH,aw,seval]<;>rfl) (gI _ _)
 rw[if_neg h3]at h;unfold m9 at h3;have isr:=fun{m:ByteArray} {s1:RS} {σ1:LLV} (S1:Sr σ i ts s1 σ1) (h1:s1.1≤ts.length) (l:LLV)=>gk H h1 (σ1++l) (ah S1.at_ l) m;simp -dsimp only[aw,seval,decide_eq_false h3];refine ac (isr (m:=aa 40) S hs _) ?_;by_cases h40:isX ts (aa 40) s=true
 .rw[if_pos h40]at h;obtain⟨⟨v1,s1⟩,e1,e2⟩:=Option.map_eq_some_iff.1 h;cases e2;obtain⟨σ1,S1,hl1,hw1,hup⟩:=S.up (by omega);have hu:=cF h40;have hio:=ah hi;unfold rb at hio;have h40':(decide (s.2=0)&&ax (aa 40) ts s.1)=true:=h40;rw[h40'];simp -dsimp only[aw,seval,hio,hw1,hup];rw[<-hl1];refine cw S1 (hR 1 _ _ _ (by omega) (by omega) e1 hu.2 _ _ (ah S1.at_ _)) fun σ2 S2 hl2=>?_;have h2:=(eJ ts n _ _ _ _ e1 hu.2).2;rw[<-hl2];simp -dsimp only[aw,seval,ao];refine cw S2 (fp (aa 41) H h2 _ (ah S2.at_ _)) fun σ3 S3 hl3=>?_;rw[<-hl3];simp -dsimp only[aw,seval];exact gu S3 (by rw[ao];simp[oh,aC,aO,aw,seval]<;>rfl) (gI _ _)
 rw[if_neg h40]at h;simp only at h;have h40':(decide (s.2=0)&&ax (aa 40) ts s.1)=false:=by rw[<-Bool.not_eq_true];exact h40
 rw[h40'];simp -dsimp only[aw,seval];have hn:=oY hs;have hxs:=HP H s.1 s.2;refine cw S (rG H hs _ (ah hi _)) fun σ1 S1 hl1=>?_;have e1:bU ts s.1 s.2=((bU ts s.1 s.2).1,(bU ts s.1 s.2).2.1,(bU ts s.1 s.2).2.2):=rfl;generalize bU ts s.1 s.2=nm at *;obtain⟨x,s1⟩:=nm;simp only at h hn hxs S1 e1 ⊢;clear e1 isr;have isr:=fun{m:ByteArray} (l:LLV)=>gk H hn.2 (σ1++l) (ah S1.at_ l) m;have hio:=fun l=>ah S1.at_ l;unfold rb at hio;rw[<-hl1];have hsw:(lB=(⟨#[115,117,109]⟩:ByteArray)):=rfl;have how:(gC=(⟨#[111,110,101,115]⟩:ByteArray)):=rfl;by_cases c1:x=lB/\isX ts (aa 40) s1=true
 .rw[if_pos c1]at h;cases h;obtain⟨c0,c1⟩:=c1;have hu:=cF c1;obtain⟨σ2,S2,hl2,hw2,hup⟩:=S1.up (by have:=hn.2;omega);have dx:decide (x=⟨#[115,117,109]⟩)=true:=decide_eq_true c0;have c1':(decide (s1.2=0)&&ax (aa 40) ts s1.1)=true:=c1;have hi1:=isr (m:=aa 40);rw[c1']at hi1;unfold aa at hi1;simp -dsimp only[aw,seval,dx];refine ac (hi1 _) ?_;simp -dsimp only[aw,seval,hio,hw2,hup,dx];rw[<-hl2];refine cw S2 (rG H hu.2 _ (ah S2.at_ _)) fun σ3 S3 hl3=>?_;have hq:=oY hu.2;rw[<-hl3];simp -dsimp only[aw,seval];refine cw S3 (fp (aa 41) H hq.2 _ (ah S3.at_ _)) fun σ4 S4 hl4=>?_;rw[<-hl4];simp -dsimp only[aw,seval]
  exact gu S4 (by rw[ao];simp[oh,aC,aO,bq,aU,aG,aH,aw,seval]<;>rfl) (gI _ _)
 rw[if_neg c1]at h;by_cases c2:x=gC/\isX ts (aa 40) s1=true
 .rw[if_pos c2]at h;obtain⟨c0,c2⟩:=c2;have hu:=cF c2;obtain⟨⟨v1,s2⟩,e1,e2⟩:=Option.map_eq_some_iff.1 h;cases e2;obtain⟨σ2,S2,hl2,hw2,hup⟩:=S1.up (by have:=hn.2;omega);have dy:decide (x=⟨#[115,117,109]⟩)=false:=decide_eq_false (by rw[c0];decide);have dx:decide (x=⟨#[111,110,101,115]⟩)=true:=decide_eq_true c0;have c2':(decide (s1.2=0)&&ax (aa 40) ts s1.1)=true:=c2;have hi1:=isr (m:=aa 40);rw[c2']at hi1;unfold aa at hi1;simp -dsimp only[aw,seval,dx,dy];refine ac (hi1 _) ?_;simp -dsimp only[aw,seval,hio,hw2,hup,dx,dy];rw[<-hl2];refine cw S2 (hR 1 _ _ _ (by omega) (by omega) e1 hu.2 _ _ (ah S2.at_ _)) fun σ3 S3 hl3=>?_;have h2:=(eJ ts n _ _ _ _ e1 hu.2).2;rw[<-hl3];simp -dsimp only[aw,seval,ao]
  refine cw S3 (fp (aa 41) H h2 _ (ah S3.at_ _)) fun σ4 S4 hl4=>?_;rw[<-hl4];simp -dsimp only[aw,seval];exact gu S4 (by rw[ao];simp[oh,aC,aO,aI,bD,bq,aU,aG,aH,aw,seval]<;>rfl) (gI _ _)
 rw[if_neg c2]at h;by_cases d1:x=lB
 case' pos=>
  have dx:decide (x=⟨#[115,117,109]⟩)=true:=decide_eq_true d1;have hi1:=isr (m:=aa 40);rw[show(decide (s1.2=0)&&ax (aa 40) ts s1.1)=false from Bool.eq_false_iff.2 fun h=>c1 ⟨d1,h⟩]at hi1;unfold aa at hi1;simp -dsimp only[aw,seval,dx];refine ac (hi1 _) ?_;simp -dsimp only[aw,seval]
 case' neg=>
  have dx:decide (x=⟨#[115,117,109]⟩)=false:=decide_eq_false d1;by_cases d2:x=gC
  case' pos=>
   have dy:decide (x=⟨#[111,110,101,115]⟩)=true:=decide_eq_true d2;have hi1:=isr (m:=aa 40);rw[show(decide (s1.2=0)&&ax (aa 40) ts s1.1)=false from Bool.eq_false_iff.2 fun h=>c2 ⟨d2,h⟩]at hi1;unfold aa at hi1;simp -dsimp only[aw,seval,dx,dy];refine ac (hi1 _) ?_;simp -dsimp only[aw,seval]
  case' neg=>
   have dy:decide (x=⟨#[111,110,101,115]⟩)=false:=decide_eq_false d2;simp -dsimp only[aw,seval,dx,dy]
 all_goals
  have hi2:=isr (m:=aa 91);refine ac (hi2 _) ?_;by_cases c3:isX ts (aa 91) s1=true
  .rw[if_pos c3]at h;have hu:=cF c3;obtain⟨⟨v1,s2⟩,e1,e2⟩:=Option.map_eq_some_iff.1 h;cases e2;obtain⟨σ2,S2,hl2,hw2,hup⟩:=S1.up (by have:=hn.2;omega);rw[show(decide (s1.2=0)&&ax (aa 91) ts s1.1)=true from c3];simp -dsimp only[aw,seval,hio,hw2,hup];rw[<-hl2];refine cw S2 (hR 1 _ _ _ (by omega) (by omega) e1 hu.2 _ _ (ah S2.at_ _)) fun σ3 S3 hl3=>?_;have h2:=(eJ ts n _ _ _ _ e1 hu.2).2;rw[<-hl3];simp -dsimp only[aw,seval,ao];refine cw S3 (fp (aa 93) H h2 _ (ah S3.at_ _)) fun σ4 S4 hl4=>?_;rw[<-hl4];simp -dsimp only[aw,seval];exact gu S4 (by rw[ao];simp[oh,aC,aO,bD,bq,aU,aG,aH,aw,seval]<;>rfl) (gI _ _)
  rw[if_neg c3]at h;rw[show(decide (s1.2=0)&&ax (aa 91) ts s1.1)=false from Bool.eq_false_iff.2 c3];have hi3:=isr (m:=aa 64);simp -dsimp only[aw,seval];refine ac (hi3 _) ?_;by_cases c4:isX ts (aa 64) s1=true
  .rw[if_pos c4]at h;have hu:=cF c4;cases h;obtain⟨σ2,S2,hl2,hw2,hup⟩:=S1.up (by have:=hn.2;omega);rw[show(decide (s1.2=0)&&ax (aa 64) ts s1.1)=true from c4];simp -dsimp only[aw,seval,hio,hw2,hup];rw[<-hl2];refine cw S2 (oq H hu.2 _ (ah S2.at_ _)) fun σ3 S3 hl3=>?_;have hnum:=F9 (ts:=ts) (upS s1).1 (upS s1).2;have hd:=fun σ=>rB _ hnum.1 (by omega) σ;obtain⟨y,rfl⟩:∃y,x=bs y:=⟨_,(jk x).symm⟩
   rw[aE]at hxs;have h5:=u0 (cA ts (upS s1).1 (upS s1).2).1.toNat (by omega);have hel:=pf y (cA ts (upS s1).1 (upS s1).2).1;have a1:cf .add (V.d (aj (bs y))) (V.d (aj ⟨#[91]⟩))=some (V.d (aj (bs (y++[91])))):=eY y [91] (by simp only[Sq,Ss];omega)
   have a2:cf .add (V.d (aj (bs (y++[91])))) (V.d (aj (bs (Lib.decDigits (cA ts (upS s1).1 (upS s1).2).1.toNat))))=some (V.d (aj (bs (y++91::Lib.decDigits (cA ts (upS s1).1 (upS s1).2).1.toNat)))):=by
    have:=eY (y++[91]) (Lib.decDigits (cA ts (upS s1).1 (upS s1).2).1.toNat) (by simp only[Su,Sq,Ss];omega);simpa using this
   have a3:cf .add (V.d (aj (bs (y++91::Lib.decDigits (cA ts (upS s1).1 (upS s1).2).1.toNat)))) (V.d (aj ⟨#[93]⟩))=some (V.d (aj (gJ (bs y) (cA ts (upS s1).1 (upS s1).2).1))):=by
    have:=eY (y++91::Lib.decDigits (cA ts (upS s1).1 (upS s1).2).1.toNat) [93] (by simp only[Su,Sq,Ss];omega);rw[hel];show cf .add _ (V.d (aj (bs [93])))=_;simpa using this
   rw[<-hl3];simp -dsimp only[aw,seval,a1];refine ac (hd _) ?_;simp -dsimp only[aw,seval,a2,a3];exact gu S3 (by rw[ao];simp[oh,aC,aO,bq,aU,aG,aH,aw,seval]<;>rfl) (gI _ _)
  rw[if_neg c4]at h;rw[show(decide (s1.2=0)&&ax (aa 64) ts s1.1)=false from Bool.eq_false_iff.2 c4];cases h;simp -dsimp only[aw,seval];exact gu S1 (by rw[ao];simp[oh,aC,aO,bq,aU,aG,aH,aw,seval]<;>rfl) (gI _ _)
end
end Go.Proofs.YtnhphlmblenapaaGreatDoor
namespace Go.Proofs.YtnhphlmblenapaaGreatDoor
open Go.RowKit
theorem wi{ts:List Tok}{i:Nat}{s:RS}(H:TsV ts)(hs:s.1≤ts.length)(σ:LLV)(hi:σ[i]? = some (rb ts s.1 s.2))(n:Nat)(hR:∀m,m<n->RC ts m)(a0:Ex){v:Ex}{s':RS}(h:cQ ts (n+1) (.In a0) s=some (v,s')):Fun G 263 [.ptr i 0,vex a0] σ (RB (vex v) σ i ts s'):=by
 have hL:=H.ok.len;refine ae Tryz.func263 Q0 (by simp only[ao];rfl) fun hb hw=>?_;have S:=Sr.init hi hb;have h0:=fw (m:=aa 123) hs;obtain⟨⟨v1,sf⟩,e1,e2⟩:=Option.map_eq_some_iff.1 (show(cQ ts n (.Rg [a0]) (cv ts (aa 123) s)).map (fun p=>(p.1,cv ts (aa 125) p.2))=some (v,s')from h);cases e2;unfold LD;simp -dsimp only[aw,seval,ao];refine cw S (fp (aa 123) H hs _ (ah S.at_ _)) fun σ1 S1 hl1=>?_;rw[<-hl1];simp -dsimp only[aw,seval]
 refine aS [0,4,5] (R:=fun(j:Nat) ρ σ'=>∃(s1:RS) (args:List Ex) (σ2:LLV) (x:LLV),ρ=[(0,.ptr i 0),(4,.ptr (σ1.length+1) 0),(5,.own 50 4 (args.map dex))]/\σ'=σ2++x/\x=[[.d (ab a0.op),.d (ab a0.num),.d (aj a0.name),.d (.sl (a0.args.map dex))],[.d (ab 0),.d (ab 0),.d (aj ⟨#[]⟩),.nil]]/\Sr σ i ts s1 σ2/\σ2.length=σ1.length/\s1.1≤ts.length/\args.length≤2*s1.1+1/\cQ ts (n-j) (.Rg args) s1=some (v1,sf)) n ⟨_,[a0],σ1,_,by simp only[Sw,Sx,bD];rfl,rfl,rfl,S1,rfl,h0.2,by simp only[Sq,Ss];omega,e1⟩ ?_ _;rintro j ρ' σ' hj ⟨s1,args,σ2,x,rfl,rfl,hx,S2,hl2,g1,g2,g3⟩
 obtain⟨m,hm⟩:∃m,n-j=m+1:=⟨n-j-1,by
  have:n-j≠0:=fun h=>by rw[h]at g3;cases g3
  omega⟩
 rw[hm]at g3;have hRm:=hR m (by omega);simp only[cQ,stX]at g3;have hio:=fun l=>ah S2.at_ l;unfold rb at hio;subst hx;rw[<-hl2];by_cases he:s1.2=0
 case neg=>
  rw[if_neg he]at g3;cases g3;simp -dsimp only[aw,seval,hio,decide_eq_false he];refine cw S2 (fp (aa 125) H g1 _ (ah S2.at_ _)) fun σ3 S3 hl3=>?_;rw[<-hl3];simp -dsimp only[aw,seval];exact gu S3 (by rw[ao];simp[CR,aC,aO,aI,bq,aU,aG,aH,aw,seval]<;>rfl) (gI _ _)
 rw[if_pos he]at g3;obtain⟨⟨x1,s2⟩,e1,g3⟩:=Option.bind_eq_some_iff.1 g3;obtain⟨⟨x2,s4⟩,e2,g3⟩:=Option.bind_eq_some_iff.1 g3;have k1:=eJ ts _ _ _ _ _ e1 g1;have k2:=fw (m:=aZ 46 46) k1.2;have k3:=eJ ts _ _ _ _ _ e2 k2.2;simp -dsimp only[aw,seval,hio,decide_eq_true he];refine cw S2 (hRm 1 _ _ _ (by omega) (by omega) e1 g1 _ _ (ah S2.at_ _)) fun σ3 S3 hl3=>?_;rw[<-hl3];simp -dsimp only[aw,seval,ao];refine cw S3 (fp (aZ 46 46) H k1.2 _ (ah S3.at_ _)) fun σ4 S4 hl4=>?_;rw[<-hl4];simp -dsimp only[aw,seval];refine cw S4 (hRm 1 _ _ _ (by omega) (by omega) e2 k2.2 _ _ (ah S4.at_ _)) fun σ5 S5 hl5=>?_;rw[<-hl5]
 simp -dsimp only[aw,seval,ao];refine bh (by omega) ?_;simp -dsimp only[aw,seval];have hrows:args.map dex++[[ab x1.op,ab x1.num,aj x1.name,D.sl (x1.args.map dex)],[ab x2.op,ab x2.num,aj x2.name,D.sl (x2.args.map dex)]]=(args++[x1,x2]).map dex:=by rw[List.map_append,Sw,Sw,Sx,bD,bD]
 rw[hrows];have hc:=fun l=>gk H k3.2 (σ5++l) (ah S5.at_ l) (aa 44);unfold aa at hc;refine ac (hc _) ?_;simp only at g3;by_cases h44:isX ts (aa 44) s4=true
 .rw[if_pos h44]at g3;have hu:=cF h44;obtain⟨σ6,S6,hl6,hw6,hup⟩:=S5.up (by have:=k3.2;omega);have hio5:=fun l=>ah S5.at_ l;unfold rb at hio5;rw[show(decide (s4.2=0)&&ax ⟨#[44]⟩ ts s4.1)=true from h44];simp -dsimp only[aw,seval,hio5,hw6,hup];rw[<-hl6];have k12:=Nat.le_trans (Nat.le_trans k1.1 k2.1) k3.1;refine⟨by omega,Nxt.to (σ6++[[.d (ab a0.op),.d (ab a0.num),.d (aj a0.name),.d (.sl (a0.args.map dex))],[.d (ab 0),.d (ab 0),.d (aj ⟨#[]⟩),.nil]]) [[.d (ab x1.op),.d (ab x1.num),.d (aj x1.name),.d (.sl (x1.args.map dex))],[.d (ab x2.op),.d (ab x2.num),.d (aj x2.name),.d (.sl (x2.args.map dex))]] (by simp) (by simp) (aq S6.bb rfl) ?_ ⟨upS s4,args++[x1,x2],σ6,_,?_,rfl,rfl,S6,?_,hu.2,?_,?_⟩⟩
  .have:=S6.lt;simp[au,V.under,S6.len];omega
  .rw[hl6,hl5,hl4,hl3,hl2]
  .omega
  .simp only[Su,Sq,Ss];show _≤2*(s4.1+1)+1;omega
  .rw[show n-(j+1)=m by omega];exact g3
 .rw[if_neg h44]at g3;rw[show(decide (s4.2=0)&&ax ⟨#[44]⟩ ts s4.1)=false from Bool.eq_false_iff.2 h44];cases g3;simp -dsimp only[aw,seval];refine cw S5 (fp (aa 125) H k3.2 _ (ah S5.at_ _)) fun σ6 S6 hl6=>?_;rw[<-hl6];simp -dsimp only[aw,seval];exact gu S6 (by rw[ao];simp[CR,aC,aO,aI,bq,aU,aG,aH,aw,seval]<;>rfl) (gI _ _)
abbrev eB(a:Ex):List V:=[.d (ab a.op),.d (ab a.num),.d (aj a.name),.d (.sl (a.args.map dex))]
abbrev zBs:List V:=[.d (ab 0),.d (ab 0),.d (aj ⟨#[]⟩),.nil]
def nl:List (UInt8×Int):=[(33,4),(126,5),(45,6)]
def Cg(ts:List Tok)(rec:RK->RS->Option (Ex×RS))(s:RS):List (UInt8×Int)->Option (Ex×RS)
 | []=>fJ ts rec s
 | p::l=>if isX ts (aa p.1) s=true then(rec (.E 13) (upS s)).map fun q=>(aI p.2 [q.1],q.2)else Cg ts rec s l
theorem Hz:∀j,j<3->∃c,nl.drop j=(c,4+((j:Nat):Int))::nl.drop (j+1)/\vC (4+((j:Nat):Int))=[c]:=by
 intro j h;have:j=0\/j=1\/j=2:=by omega
 rcases this with rfl|rfl|rfl
 .exact⟨33,rfl,rfl⟩
 .exact⟨126,rfl,rfl⟩
 .exact⟨45,rfl,rfl⟩
section
variable {ts : List Tok} {i : Nat} {s : RS} (H : TsV ts) (hs : s.1 ≤ ts.length) (σ : LLV) (hi : σ[i]? = some (rb ts s.1 s.2)) (n : Nat) (hR : ∀ m, m < n + 1 -> RC ts m) {v : Ex} {s' : RS}
include H hs hi hR
theorem HG(h:cQ ts (n+1) (.E 14) s=some (v,s')):Fun G 233 [.ptr i 0,.d (ab 14)] σ (RB (vex v) σ i ts s'):=by
 have h':fJ ts (cQ ts n) s=some (v,s'):=h;refine ae Tryz.func233 Ko rfl fun hb hw=>?_;have S:=Sr.init hi hb;unfold c233;simp -dsimp only[aw,seval,decide_true];refine cw S (mD H hs _ (ah hi _) n (hR n (by omega)) h') fun σ1 S1 hl1=>?_;rw[<-hl1];simp -dsimp only[aw,seval,ao];exact gu S1 (by simp[nc,aC,aO,aw,seval]<;>rfl) (by rfl)
theorem Gw(h:cQ ts (n+1) (.E 13) s=some (v,s')):Fun G 233 [.ptr i 0,.d (ab 13)] σ (RB (vex v) σ i ts s'):=by
 have hL:=H.ok.len;refine ae Tryz.func233 Ko rfl fun hb hw=>?_;have S:=Sr.init hi hb;have hp:=fun o σ=>uk o σ;have hio:=fun l=>ah hi l;unfold rb at hio;replace h:Cg ts (cQ ts n) s (nl.drop 0)=some (v,s'):=h;unfold c233;simp -dsimp only[aw,seval,Int.reduceEq,decide_true,decide_false];refine aS [0,4,5] (fun(j:Nat) ρ σ'=>ρ=[(0,.ptr i 0),(4,.ptr σ.length 0),(5,aK .i64 (4+((j:Nat):Int)))]/\σ'=σ++[zBs]/\Cg ts (cQ ts n) s (nl.drop j)=some (v,s')) 3 ⟨rfl,rfl,h⟩ ?_ _;rintro j ρ' σ' hj ⟨rfl,rfl,hI⟩;by_cases hlt:j<3
 .obtain⟨c,hc,hpj⟩:=Hz j hlt;have hp:=hp (4+((j:Nat):Int));rw[hpj]at hp;rw[hc]at hI;unfold Cg at hI;have dj:decide (4+((j:Nat):Int)≤6)=true:=decide_eq_true (by omega);have hw1:IntKind.i64.wrap (4+((j:Nat):Int)+1)=4+((j+1:Nat):Int):=by rw[aA (by omega) (by omega)];omega
  have hsee:=fun l=>gk H hs (σ++l) (ah hi l) (bs [c]);simp -dsimp only[aw,seval,dj];refine ac (hp _) ?_;simp -dsimp only[aw,seval];refine ac (hsee _) ?_;by_cases hm:isX ts (aa c) s=true
  .rw[if_pos hm]at hI;obtain⟨⟨v1,s1⟩,e1,e2⟩:=Option.map_eq_some_iff.1 hI;cases e2;have hu:=cF hm;obtain⟨σ1,S1,hl1,hw2,hup⟩:=S.up (by omega);rw[show(decide (s.2=0)&&ax (bs [c]) ts s.1)=true from hm];simp -dsimp only[aw,seval,hio,hw2,hup];rw[<-hl1];refine cw S1 (hR n (by omega) 13 _ _ _ (by omega) (by omega) e1 hu.2 _ _ (ah S1.at_ _)) fun σ2 S2 hl2=>?_;rw[<-hl2];simp -dsimp only[aw,seval,ao];exact gu S2 (by simp[nc,aC,aO,aI,bD,bq,aU,aG,aH,aw,seval]<;>rfl) (by rfl)
  .rw[if_neg hm]at hI;rw[show(decide (s.2=0)&&ax (bs [c]) ts s.1)=false from Bool.eq_false_iff.2 hm];simp -dsimp only[aw,seval,hw1];exact⟨hlt,Nxt.same (by simp) (aq hb rfl) (by have:=S.lt;simp[au,V.under];omega) ⟨rfl,rfl,hI⟩⟩
 .have ej:j=3:=by omega
  subst ej;have hI:fJ ts (cQ ts n) s=some (v,s'):=hI;have dj:decide (4+((3:Nat):Int)≤6)=false:=rfl;simp -dsimp only[aw,seval,dj];refine cw S (mD H hs _ (ah hi _) n (hR n (by omega)) hI) fun σ1 S1 hl1=>?_;rw[<-hl1];simp -dsimp only[aw,seval,ao];exact gu S1 (by simp[nc,aC,aO,aw,seval]<;>rfl) (by rfl)
theorem Jd(k:Nat)(hk1:1≤k)(hk2:k≤12)(h:cQ ts (n+1) (.E k) s=some (v,s')):Fun G 233 [.ptr i 0,.d (ab k)] σ (RB (vex v) σ i ts s'):=by
 have hL:=H.ok.len;refine ae Tryz.func233 Ko rfl fun hb hw=>?_;have S:=Sr.init hi hb;simp only[cQ,stX]at h;rw[if_neg (by omega),if_neg (by omega)]at h;obtain⟨⟨x1,s1⟩,e1,h⟩:=Option.bind_eq_some_iff.1 h;simp only at h;have k1:=eJ ts _ _ _ _ _ e1 hs;have dk:∀c:Nat,decide (((k:Nat):Int)=(c:Int))=decide (k=c):=fun c=>decide_eq_decide.2 (by omega);have d14:decide (((k:Nat):Int)=14)=false:=decide_eq_false (by omega);have d13:decide (((k:Nat):Int)=13)=false:=decide_eq_false (by omega);have wk:IntKind.i64.wrap (((k:Nat):Int)+1)=((k+1:Nat):Int):=aA (by omega) (by omega);unfold c233;simp -dsimp only[aw,seval,d14,d13,wk];refine cw S (hR n (by omega) (k+1) _ _ _ (by omega) (by omega) e1 hs _ _ (ah S.at_ _)) fun σ1 S1 hl1=>?_;rw[<-hl1];have hio:=fun l=>ah S1.at_ l;unfold rb at hio
 have hsee:=fun m l=>gk H k1.2 (σ1++l) (ah S1.at_ l) m;by_cases q1:k=1
 .subst q1;have c11:decide (((1:Nat):Int)=1)=true:=rfl;have c12:decide (((1:Nat):Int)=2)=false:=rfl;have hs1:=hsee (aa 63);unfold aa at hs1;by_cases hm:isX ts (aa 63) s1=true
  .rw[if_pos ⟨rfl,hm⟩]at h;obtain⟨⟨x2,s2⟩,e2,h⟩:=Option.bind_eq_some_iff.1 h;obtain⟨⟨x3,s4⟩,e3,e4⟩:=Option.map_eq_some_iff.1 h;cases e4;have hu:=cF hm;have k2:=eJ ts _ _ _ _ _ e2 hu.2;have k3:=fw (m:=aa 58) k2.2;obtain⟨σ2,S2,hl2,hw2,hup⟩:=S1.up (by have:=k1.2;omega);rw[show(decide (s1.2=0)&&ax ⟨#[63]⟩ ts s1.1)=true from hm]at hs1;simp -dsimp only[aw,seval,ao,c11];refine ac (hs1 _) ?_;simp -dsimp only[aw,seval,hio,hw2,hup,c11];rw[<-hl2];refine cw S2 (hR n (by omega) 1 _ _ _ (by omega) (by omega) e2 hu.2 _ _ (ah S2.at_ _)) fun σ3 S3 hl3=>?_;rw[<-hl3];simp -dsimp only[aw,seval,ao];refine cw S3 (fp (aa 58) H k2.2 _ (ah S3.at_ _)) fun σ4 S4 hl4=>?_;rw[<-hl4]
   simp -dsimp only[aw,seval];refine cw S4 (hR n (by omega) 1 _ _ _ (by omega) (by omega) e3 k3.2 _ _ (ah S4.at_ _)) fun σ5 S5 hl5=>?_;rw[<-hl5];simp -dsimp only[aw,seval,ao];exact gu S5 (by simp[nc,aC,aO,aI,bD,bq,aU,aG,aH,aw,seval]<;>rfl) (by rfl)
  .rw[if_neg fun h=>hm h.2,if_neg (by omega),if_neg (by omega)]at h;rw[show(decide (s1.2=0)&&ax ⟨#[63]⟩ ts s1.1)=false from Bool.eq_false_iff.2 hm]at hs1;cases h;simp -dsimp only[aw,seval,ao,c11,c12];refine ac (hs1 _) ?_;simp -dsimp only[aw,seval,c11,c12];refine aS [0,1,4,7] (fun(j:Nat) ρ σ'=>ρ=[(0,.ptr i 0),(1,.d (ab (1:Nat))),(4,.ptr σ1.length 0),(7,.ptr (σ1.length+1) 0)]/\σ'=σ1++[zBs,eB v]) 0 ⟨rfl,rfl⟩ ?_ _;rintro j ρ' σ' hj ⟨rfl,rfl⟩;have d2:decide ((2:Int)<((1:Nat):Int))=false:=rfl;simp -dsimp only[aw,seval,d2];exact gu S1 (by rw[ao];simp[nc,aC,aO,aw,seval]<;>rfl) (gI _ _)
 by_cases q2:k=2
 .subst q2;have c21:decide (((2:Nat):Int)=1)=false:=rfl;have c22:decide (((2:Nat):Int)=2)=true:=rfl;have hs1:=hsee (aZ 61 62);unfold aZ at hs1;rw[if_neg (by omega)]at h;by_cases hm:isX ts (aZ 61 62) s1=true
  .rw[if_pos ⟨rfl,hm⟩]at h;obtain⟨⟨x2,s2⟩,e2,e4⟩:=Option.map_eq_some_iff.1 h;cases e4;have hu:=cF hm;obtain⟨σ2,S2,hl2,hw2,hup⟩:=S1.up (by have:=k1.2;omega);rw[show(decide (s1.2=0)&&ax ⟨#[61,62]⟩ ts s1.1)=true from hm]at hs1;simp -dsimp only[aw,seval,ao,c21,c22];refine ac (hs1 _) ?_;simp -dsimp only[aw,seval,hio,hw2,hup,c22];rw[<-hl2];refine cw S2 (hR n (by omega) 2 _ _ _ (by omega) (by omega) e2 hu.2 _ _ (ah S2.at_ _)) fun σ3 S3 hl3=>?_;rw[<-hl3];simp -dsimp only[aw,seval,ao];exact gu S3 (by simp[nc,aC,aO,aI,bD,bq,aU,aG,aH,aw,seval]<;>rfl) (by rfl)
  .rw[if_neg fun h=>hm h.2,if_neg (by omega)]at h;rw[show(decide (s1.2=0)&&ax ⟨#[61,62]⟩ ts s1.1)=false from Bool.eq_false_iff.2 hm]at hs1;cases h;simp -dsimp only[aw,seval,ao,c21,c22];refine ac (hs1 _) ?_;simp -dsimp only[aw,seval,c22];refine aS [0,1,4,7] (fun(j:Nat) ρ σ'=>ρ=[(0,.ptr i 0),(1,.d (ab (2:Nat))),(4,.ptr σ1.length 0),(7,.ptr (σ1.length+1) 0)]/\σ'=σ1++[zBs,eB v]) 0 ⟨rfl,rfl⟩ ?_ _;rintro j ρ' σ' hj ⟨rfl,rfl⟩;have d2:decide ((2:Int)<((2:Nat):Int))=false:=rfl;simp -dsimp only[aw,seval,d2];exact gu S1 (by rw[ao];simp[nc,aC,aO,aw,seval]<;>rfl) (gI _ _)
 rw[if_neg (by omega),if_neg (by omega),if_pos (by omega)]at h;have c1:decide (((k:Nat):Int)=1)=false:=decide_eq_false (by omega);have c2:decide (((k:Nat):Int)=2)=false:=decide_eq_false (by omega);have d2:decide ((2:Int)<((k:Nat):Int))=true:=decide_eq_true (by omega);have dk9:decide (((k:Nat):Int)=9)=decide (k=9):=decide_eq_decide.2 (by omega);simp -dsimp only[aw,seval,ao,c1,c2];clear hsee hio;refine aS [0,1,4,7] (fun(j:Nat) ρ σ'=>∃(s2:RS) (a:Ex) (σ2:LLV),ρ=[(0,.ptr i 0),(1,.d (ab k)),(4,.ptr σ2.length 0),(7,.ptr (σ2.length+1) 0)]/\σ'=σ2++[zBs,eB a]/\Sr σ i ts s2 σ2/\s2.1≤ts.length/\σ2.length=σ1.length/\cQ ts (n-j) (.Lp k a) s2=some (v,s')) n ⟨s1,x1,σ1,rfl,rfl,S1,k1.2,rfl,h⟩ ?_ _;rintro j ρ' σ' hj ⟨s2,a,σ2,rfl,rfl,S2,g1,hl2,g3⟩
 obtain⟨m,hm⟩:∃m,n-j=m+1:=⟨n-j-1,by
  have:n-j≠0:=fun h=>by rw[h]at g3;cases g3
  omega⟩
 rw[hm]at g3;have hRm:=hR m (by omega);have g0:=g3;simp only[cQ,stX]at g3;have hio:=fun l=>ah S2.at_ l;unfold rb at hio;have hop:=fun l=>Cb H g1 (σ2++l) (ah S2.at_ l) k (by omega) hk2;obtain⟨σ3,S3,hl3,hw3,hup⟩:=S2.up (by omega);have hsee:=fun l=>gk H g1 (σ2++l) (ah S2.at_ l) cr;rw[<-hl2];by_cases c9:k=9/\isX ts cr s2=true
 .rw[if_pos c9]at g3;obtain⟨⟨x2,s3⟩,e2,g4⟩:=Option.bind_eq_some_iff.1 g3;have hu:=cF c9.2
  obtain⟨m',rfl⟩:∃m',m=m'+1:=⟨m-1,by
   have:m≠0:=fun h=>by rw[h]at e2;cases e2
   omega⟩
  have k2:=eJ ts _ _ _ _ _ e2 hu.2;rw[show(decide (s2.2=0)&&ax cr ts s2.1)=true from c9.2]at hsee;unfold cr at hsee;simp -dsimp only[aw,seval,d2,dk9,decide_eq_true c9.1];refine ac (hsee _) ?_;simp -dsimp only[aw,seval,hio,hw3,hup,dk9,decide_eq_true c9.1];rw[<-hl3];have hin:=wi H hu.2 (σ3++[zBs,eB a]) (ah S3.at_ _) m' (fun q hq=>hR q (by omega)) a e2;rw[ao]at hin;simp -dsimp only[aw,seval];refine cw S3 hin fun σ4 S4 hl4=>?_;rw[<-hl4];simp -dsimp only[aw,seval,ao];refine⟨by omega,Nxt.to (σ4++[zBs,eB x2]) [] (by simp) (by simp) (aq S4.bb rfl) ?_ ⟨s3,x2,σ4,rfl,rfl,S4,k2.2,?_,by rw[show n-(j+1)=m'+1 by omega];exact g4⟩⟩
  .have:=S4.lt;have:=S4.len;simp[au,V.under];omega
  .first|rfl|rw[hl4,hl3,hl2]
 rw[if_neg c9]at g3;by_cases k9:k=9
 case' pos=>
  rw[show(decide (s2.2=0)&&ax cr ts s2.1)=false from Bool.eq_false_iff.2 fun h=>c9 ⟨k9,h⟩]at hsee;unfold cr at hsee;simp -dsimp only[aw,seval,d2,dk9,decide_eq_true k9];refine ac (hsee _) ?_;simp -dsimp only[aw,seval,dk9,decide_eq_true k9];refine ac (hop _) ?_
 case' neg=>
  simp -dsimp only[aw,seval,d2,dk9,decide_eq_false k9];refine ac (hop _) ?_
 all_goals
  by_cases o0:(gH ts s2.1 s2.2 k).1=0
  .rw[if_pos o0]at g3;cases g3;simp -dsimp only[aw,seval,decide_eq_true o0];exact gu S2 (by rw[ao];simp[nc,aC,aO,aw,seval]<;>rfl) (gI _ _)
  .rw[if_neg o0]at g3;obtain⟨⟨x2,s3⟩,e2,g4⟩:=Option.bind_eq_some_iff.1 g3;have hu:=EA o0;have k2:=eJ ts _ _ _ _ _ e2 hu.2;generalize gH ts s2.1 s2.2 k=ob at *;obtain⟨o,ex⟩:=ob;simp only at o0 g4 ⊢;simp -dsimp only[aw,seval,decide_eq_false o0,hio,hw3,hup,wk];rw[<-hl3];refine cw S3 (hRm (k+1) _ _ _ (by omega) (by omega) e2 hu.2 _ _ (ah S3.at_ _)) fun σ4 S4 hl4=>?_;rw[<-hl4];cases ex with
   | true=>
    rw[if_pos rfl]at g4;simp -dsimp only[aw,seval,ao];refine⟨by omega,Nxt.to (σ4++[zBs,eB (aI o [x2,a])]) [eB x2] (by simp[aI,bq,aU,aG,aH,bD]) (by simp) (aq S4.bb rfl) ?_ ⟨s3,aI o [x2,a],σ4,rfl,rfl,S4,k2.2,?_,by rw[show n-(j+1)=m by omega];exact g4⟩⟩
    .have:=S4.lt;have:=S4.len;simp[au,V.under];omega
    .first|rfl|rw[hl4,hl3,hl2]
   | false=>
    rw[if_neg (by decide)]at g4;simp -dsimp only[aw,seval,ao];refine⟨by omega,Nxt.to (σ4++[zBs,eB (aI o [a,x2])]) [eB x2] (by simp[aI,bq,aU,aG,aH,bD]) (by simp) (aq S4.bb rfl) ?_ ⟨s3,aI o [a,x2],σ4,rfl,rfl,S4,k2.2,?_,by rw[show n-(j+1)=m by omega];exact g4⟩⟩
    .have:=S4.lt;have:=S4.len;simp[au,V.under];omega
    .first|rfl|rw[hl4,hl3,hl2]
end
theorem A6{ts:List Tok}(H:TsV ts)(n:Nat):RC ts n:=by
 induction n using Nat.strongRecOn with
 | _ n ih=>
  intro k s s' v h1 h2 h hs σ i hi
  obtain⟨m,rfl⟩:∃m,n=m+1:=⟨n-1,by
   have:n≠0:=fun e=>by rw[e]at h;cases h
   omega⟩
  by_cases c1:k=14
  .subst c1;exact HG H hs σ hi m ih h
  by_cases c2:k=13
  .subst c2;exact Gw H hs σ hi m ih h
  .exact Jd H hs σ hi m ih k h1 (by omega) h
end Go.Proofs.YtnhphlmblenapaaGreatDoor
