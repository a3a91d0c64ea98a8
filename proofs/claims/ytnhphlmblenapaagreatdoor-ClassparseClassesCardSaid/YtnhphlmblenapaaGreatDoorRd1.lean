import Derived.Test.YtnhphlmblenapaaGreatDoorRa6
set_option linter.unusedVariables false
set_option linter.unusedSimpArgs false
set_option linter.unusedSectionVars false
open Bool renaming false_eq_true->TJ,true_and->TK,false_and->TL,and_eq_true->TM
open List renaming getElem?_eq_getElem->TN,getElem?_set_self->TO,take_left->TP,take_of_length_le->TQ,mem_cons_of_mem->TR,length_drop->TS,getElem_mem->TT,length_set->TU,set_set->TV
open Nat renaming reduceEqDiff->TW,le_refl->TX,reduceAdd->TY
open Option renaming bind_some->TZ
namespace Go.Proofs.YtnhphlmblenapaaGreatDoor
open Go.RowKit
theorem vW{ts:List Tok}(H:TsV ts){a:Nat}(ha:a≤ts.length){n:Nat}{v:Ex}{s':RS}(h:cT ts n (.E 1) (a,0)=some (v,s'))(σ:LLV):Fun G 193 [.d (.sl (ts.map di)),.d (ab a)] σ (aN (.tup [vex v,.d (ab s'.1),.d (ab s'.2)]) σ):=by
 refine ae Tryz.func193 Rm rfl fun hb hw=>?_;unfold Lz;simp -dsimp only[aw,seval];have hE:=Cj H n 1 (a,0) s' v (by omega) (by omega) h ha (σ++[zBs,rb ts a 0]) (σ.length+1) (by simp);refine aB hE fun o σ' ⟨g1,g2⟩=>?_
 have e:(σ++[zBs,rb ts a 0]).set (σ.length+1) (rb ts s'.1 s'.2)=σ++[zBs,rb ts s'.1 s'.2]:=by
  rw[List.set_append_right _ _ (by omega)];simp
 rw[e]at g2;subst g1;subst g2;unfold rb;simp -dsimp only[aw,seval,aR,au];exact az hb (by simp[I9,aC,bZ,aQ,aw,seval]) (by simp[V.under,V.unders]) TP ⟨rfl,rfl⟩
theorem sY{ts:List Tok}(H:TsV ts){a:Nat}(ha:a≤ts.length){n:Nat}{v:Ex}{s':RS}(h:cT ts n (.E 1) (a,0)=some (v,s'))(hx:s'.2=0->bD v≤1200000/\b8 v≤1199999)(σ:LLV):
 Fun G 136 [.d (.sl (ts.map di)),.d (ab a)] σ (aN (iu (if s'.2=0 then(if bB v=0 then(v,((s'.1:Nat):Int),0)else(z0,0,bB v))else(z0,((s'.1:Nat):Int),s'.2))) σ):=by
 have hS:=fun σ=>vW H ha h σ;refine ae Tryz.func136 Og rfl fun hb hw=>?_;have d0:decide (((a:Nat):Int)<0)=false:=decide_eq_false (by omega);have d1:decide (((ts.length:Nat):Int)<((a:Nat):Int))=false:=decide_eq_false (by omega);unfold K5;simp -dsimp only[aw,seval,d0,d1];refine ac (hS _) ?_;by_cases he:s'.2=0
 case neg=>
  rw[if_neg he,gE];simp -dsimp only[aw,seval,au,decide_eq_false he];exact az hb (by simp[xv,aC,bZ,aQ,z0,bt,aU,aH,aI,aw,seval]) (by simp[V.under,V.unders]) TP ⟨rfl,rfl⟩
 obtain⟨h1,h2⟩:=hx he;have hv:=fun σ=>rH v h1 h2 σ;rw[au]at hv;rw[if_pos he];simp -dsimp only[aw,seval,au,decide_eq_true he];refine ac (hv _) ?_;by_cases h0:bB v=0
 .rw[if_pos h0,gE];simp -dsimp only[aw,seval,decide_eq_true h0];exact az hb (by simp[xv,aC,bZ,aQ,aw,seval]) (by simp[V.under,V.unders]) TP ⟨rfl,rfl⟩
 .rw[if_neg h0,gE];simp -dsimp only[aw,seval,decide_eq_false h0];exact az hb (by simp[xv,aC,bZ,aQ,z0,bt,aU,aH,aI,aw,seval]) (by simp[V.under,V.unders]) TP ⟨rfl,rfl⟩
def Ev(ts:List Tok)(k:RK)(s:RS)(x:Ex×RS):Prop:=∃n0,∀m,n0≤m->cT ts m k s=some x
theorem cY{ts:List Tok}{k:RK}{s:RS}{x:Ex×RS}(n0:Nat)(h:∀m,n0≤m->stX ts (cT ts m) k s=some x):Ev ts k s x:=
 ⟨n0+1,fun m hm=>by
   obtain⟨m,rfl⟩:∃q,m=q+1:=⟨m-1,by omega⟩
   exact h m (by omega)⟩
section
variable (ts : List Tok) (a : Nat) {c : Int} (hc : c ≠ 0)
include hc
theorem iQ(m:ByteArray):isX ts m (a,c)=false:=by unfold isX;rw[decide_eq_false hc];rfl
theorem iF(m:ByteArray):cw ts m (a,c)=(a,c):=by unfold cw;exact if_neg hc
theorem El:bX ts a c=(⟨#[]⟩,a,c):=by unfold bX;rw[if_neg hc,if_neg hc]
theorem JN(k:Nat):hH ts a c k=(0,false):=by unfold hH;exact if_neg hc
theorem xu(rec:RK->RS->Option (Ex×RS)):fX ts rec (a,c)=some (.mk 2 0 ⟨#[]⟩ [],(a,c)):=by
 unfold fX;have hk:nD ts (a,c)=0:=if_neg hc;simp only[hk,iQ ts a hc,El ts a hc];simp
theorem uC(k:Nat)(x:Ex):Ev ts (.Lp k x) (a,c) (x,(a,c)):=cY 0 fun m _=>by
 simp only[stX,iQ ts a hc,JN ts a hc];simp
theorem Ji:∀j k:Nat,k+j=14->1≤k->Ev ts (.E k) (a,c) (.mk 2 0 ⟨#[]⟩ [],(a,c))
 | 0,k,hk,_=>cY 0 fun m _=>by
  obtain rfl:k=14:=by omega
  simp only[stX,if_true];exact xu ts a hc _
 | 1,k,hk,_=>cY 0 fun m _=>by
  obtain rfl:k=13:=by omega
  simp only[stX,iQ ts a hc,xu ts a hc];simp
 | j+2,k,hk,h1=>by
  obtain⟨n1,g1⟩:=Ji (j+1) (k+1) (by omega) (by omega);obtain⟨n2,g2⟩:=uC ts a hc k (.mk 2 0 ⟨#[]⟩ []);refine cY (max n1 n2) fun m hm=>?_;have q1:=g1 m (by omega);have q2:=g2 m (by omega);simp only[stX];rw[if_neg (by omega),if_neg (by omega),q1];simp only[TZ,iQ ts a hc];simp only[TJ,and_false,if_false];split
  .exact q2
  .rfl
theorem J8(args:List Ex):Ev ts (.Rg args) (a,c) (aK 23 args,(a,c)):=cY 0 fun m _=>by
 simp only[stX];rw[if_neg hc]
end
section
variable {ts : List Tok} {s s1 s2 s3 : RS} {v v2 v3 : Ex} {x : Ex × RS}
theorem Jn(h:Ev ts (.E 2) s (v,s1))(g:isX ts (aa 63) s1=false):Ev ts (.E 1) s (v,s1):=by
 obtain⟨n1,h⟩:=h;refine cY n1 fun m hm=>?_;simp only[stX,TY,TW,if_false];rw[h m hm];simp only[TZ,g,TJ,and_false,if_false,false_and,Nat.reduceLT]
theorem vp(h:Ev ts (.E 2) s (v,s1))(g:isX ts (aa 63) s1=true)(h2:Ev ts (.E 1) (upS s1) (v2,s2))(h3:Ev ts (.E 1) (cw ts (aa 58) s2) (v3,s3)):Ev ts (.E 1) s (aK 22 [v,v2,v3],s3):=by
 obtain⟨n1,h⟩:=h;obtain⟨n2,h2⟩:=h2;obtain⟨n3,h3⟩:=h3;refine cY (n1+n2+n3) fun m hm=>?_;simp only[stX,TY,TW,if_false];rw[h m (by omega)];simp only[TZ,g,and_true,if_true];rw[h2 m (by omega)];simp only[TZ];rw[h3 m (by omega)];rfl
theorem I8(h:Ev ts (.E 3) s (v,s1))(g:isX ts (ba 61 62) s1=false):Ev ts (.E 2) s (v,s1):=by
 obtain⟨n1,h⟩:=h;refine cY n1 fun m hm=>?_;simp only[stX,TY,TW,if_false];rw[h m hm];simp only[TZ,g,TJ,and_false,if_false,false_and,Nat.lt_irrefl]
theorem E9(h:Ev ts (.E 3) s (v,s1))(g:isX ts (ba 61 62) s1=true)(h2:Ev ts (.E 2) (upS s1) (v2,s2)):Ev ts (.E 2) s (aK 21 [v,v2],s2):=by
 obtain⟨n1,h⟩:=h;obtain⟨n2,h2⟩:=h2;refine cY (n1+n2) fun m hm=>?_;simp only[stX,TY,TW,if_false];rw[h m (by omega)];simp only[TZ,g,and_true,if_true,false_and,if_false];rw[h2 m (by omega)];rfl
theorem ES{k:Nat}(hk:3≤k)(hk2:k≤12)(h:Ev ts (.E (k+1)) s (v,s1))(h2:Ev ts (.Lp k v) s1 x):Ev ts (.E k) s x:=by
 obtain⟨n1,h⟩:=h;obtain⟨n2,h2⟩:=h2;refine cY (n1+n2) fun m hm=>?_;simp only[stX];rw[if_neg (by omega),if_neg (by omega),h m (by omega)];simp only[TZ];rw[if_neg (by omega),if_neg (by omega),if_pos (by omega)];exact h2 m (by omega)
theorem JD{k:Nat}(g:¬(k=9/\isX ts ct s=true))(g2:(hH ts s.1 s.2 k).1=0):Ev ts (.Lp k v) s (v,s):=
 cY 0 fun m _=>by
  simp only[stX];rw[if_neg g,if_pos g2]
theorem D5(g:isX ts ct s=true)(h:Ev ts (.In v) (upS s) (v2,s1))(h2:Ev ts (.Lp 9 v2) s1 x):Ev ts (.Lp 9 v) s x:=by
 obtain⟨n1,h⟩:=h;obtain⟨n2,h2⟩:=h2;refine cY (n1+n2) fun m hm=>?_;simp only[stX];rw[if_pos ⟨trivial,g⟩,h m (by omega)];exact h2 m (by omega)
theorem EM{k:Nat}{o:Int}{ex:Bool}(g:¬(k=9/\isX ts ct s=true))(g2:hH ts s.1 s.2 k=(o,ex))(ho:o≠0)(h:Ev ts (.E (k+1)) (upS s) (v2,s1))(h2:Ev ts (.Lp k (if ex then aK o [v2,v]else aK o [v,v2])) s1 x):Ev ts (.Lp k v) s x:=by
 obtain⟨n1,h⟩:=h;obtain⟨n2,h2⟩:=h2;refine cY (n1+n2) fun m hm=>?_;simp only[stX,g2];rw[if_neg g,if_neg ho,h m (by omega)];exact h2 m (by omega)
theorem Ga(h:Ev ts (.Rg [v]) (cw ts (aa 123) s) (v2,s1)):Ev ts (.In v) s (v2,cw ts (aa 125) s1):=by
 obtain⟨n1,h⟩:=h;refine cY n1 fun m hm=>?_;simp only[stX];rw[h m hm];rfl
theorem As{args:List Ex}(h0:s.2=0)(h:Ev ts (.E 1) s (v,s1))(h2:Ev ts (.E 1) (cw ts (ba 46 46) s1) (v2,s2))(g:isX ts (aa 44) s2=true)(h3:Ev ts (.Rg (args++[v,v2])) (upS s2) x):Ev ts (.Rg args) s x:=by
 obtain⟨n1,h⟩:=h;obtain⟨n2,h2⟩:=h2;obtain⟨n3,h3⟩:=h3;refine cY (n1+n2+n3) fun m hm=>?_;simp only[stX];rw[if_pos h0,h m (by omega)];simp only[TZ];rw[h2 m (by omega)];simp only[TZ,g,if_true];exact h3 m (by omega)
theorem xS{args:List Ex}(h0:s.2=0)(h:Ev ts (.E 1) s (v,s1))(h2:Ev ts (.E 1) (cw ts (ba 46 46) s1) (v2,s2))(g:isX ts (aa 44) s2=false):Ev ts (.Rg args) s (aK 23 (args++[v,v2]),s2):=by
 obtain⟨n1,h⟩:=h;obtain⟨n2,h2⟩:=h2;refine cY (n1+n2) fun m hm=>?_;simp only[stX];rw[if_pos h0,h m (by omega)];simp only[TZ];rw[h2 m (by omega)];simp only[TZ,g,TJ,if_false]
end
end Go.Proofs.YtnhphlmblenapaaGreatDoor
namespace Go.Proofs.YtnhphlmblenapaaGreatDoor
open Go.RowKit
def Rl(ts:List Tok)(K:RK)(a:Nat):PR->Prop
 | .out=>True
 | .ok v r=>∃b,a≤b/\b≤ts.length/\r=ts.drop b/\Ev ts K (a,0) (v,(b,0))
 | .bad c r=>∃v b,b≤ts.length/\r=ts.drop b/\c≠0/\Ev ts K (a,0) (v,(b,c))
theorem ce(ts:List Tok)(a:Nat):bQ ts a≠0:=by unfold bQ;split<;>decide
section
variable {ts : List Tok}
theorem ma(m:ByteArray)(b:Nat):isX ts m (b,0)=ax m ts b:=by unfold isX;simp
theorem gC{m:ByteArray}{b:Nat}(g:ax m ts b=true):cw ts m (b,0)=(b+1,0):=by unfold cw;rw[if_pos rfl,if_pos g]
theorem jM{m:ByteArray}{b:Nat}(g:ax m ts b=false):cw ts m (b,0)=(b,bQ ts b):=by unfold cw;rw[if_pos rfl,if_neg (by rw[g];decide)]
theorem uO(b:Nat){c:Int}(hc:c≠0):Ev ts (.E 1) (b,c) (.mk 2 0 ⟨#[]⟩ [],(b,c)):=Ji ts b hc 13 1 rfl (by omega)
variable (rec : PK -> List Tok -> PR) (hW : ∀ a, a ≤ ts.length -> Rl ts (.E 1) a (rec .W (ts.drop a)))
include hW
theorem R0(hI:∀a,a≤ts.length->Rl ts (.E 2) a (rec .I (ts.drop a)))(a:Nat)(ha:a≤ts.length):Rl ts (.E 1) a (bj rec .W (ts.drop a)):=by
 simp only[bj];have h:=hI a ha;cases hx:rec .I (ts.drop a)with
 | out=>trivial
 | bad c r=>
  rw[hx]at h;obtain⟨v,b,hb,hr,hc,he⟩:=h;exact⟨v,b,hb,hr,hc,Jn he (iQ ts b hc _)⟩
 | ok v r=>
  rw[hx]at h;obtain⟨b,hab,hb,rfl,he⟩:=h;simp only[PR.bind,aT];cases g:ax (aa 63) ts b with
  | false=>exact⟨b,hab,hb,rfl,Jn he (by rw[ma];exact g)⟩
  | true=>
   have hu:=bv g;have g':isX ts (aa 63) (b,0)=true:=by rw[ma];exact g
   simp only[if_true];have h2:=hW (b+1) hu;cases hx2:rec .W (ts.drop (b+1))with
   | out=>trivial
   | bad c r=>
    rw[hx2]at h2;obtain⟨v2,b2,hb2,hr2,hc,he2⟩:=h2;exact⟨_,b2,hb2,hr2,hc,vp he g' he2 (by rw[iF ts b2 hc];exact uO b2 hc)⟩
   | ok v2 r2=>
    rw[hx2]at h2;obtain⟨b2,hab2,hb2,rfl,he2⟩:=h2;simp only[PR.bind,aT];cases g2:ax (aa 58) ts b2 with
    | false=>
     simp only[TJ,if_false];rw[dC ts b2 hb2];exact⟨_,b2,hb2,rfl,ce ts b2,vp he g' he2 (by rw[jM g2];exact uO b2 (ce ts b2))⟩
    | true=>
     have hu2:=bv g2;simp only[if_true];have h3:=hW (b2+1) hu2;cases hx3:rec .W (ts.drop (b2+1))with
     | out=>trivial
     | bad c r=>
      rw[hx3]at h3;obtain⟨v3,b3,hb3,hr3,hc,he3⟩:=h3;exact⟨_,b3,hb3,hr3,hc,vp he g' he2 (by rw[gC g2];exact he3)⟩
     | ok v3 r3=>
      rw[hx3]at h3;obtain⟨b3,hab3,hb3,rfl,he3⟩:=h3;exact⟨b3,by omega,hb3,rfl,vp he g' he2 (by rw[gC g2];exact he3)⟩
omit hW in
theorem QN(hI:∀a,a≤ts.length->Rl ts (.E 2) a (rec .I (ts.drop a)))(hL:∀a,a≤ts.length->Rl ts (.E 3) a (rec (.L 3) (ts.drop a)))(a:Nat)(ha:a≤ts.length):Rl ts (.E 2) a (bj rec .I (ts.drop a)):=by
 simp only[bj];have h:=hL a ha;cases hx:rec (.L 3) (ts.drop a)with
 | out=>trivial
 | bad c r=>
  rw[hx]at h;obtain⟨v,b,hb,hr,hc,he⟩:=h;exact⟨v,b,hb,hr,hc,I8 he (iQ ts b hc _)⟩
 | ok v r=>
  rw[hx]at h;obtain⟨b,hab,hb,rfl,he⟩:=h;simp only[PR.bind,aT];cases g:ax (ba 61 62) ts b with
  | false=>exact⟨b,hab,hb,rfl,I8 he (by rw[ma];exact g)⟩
  | true=>
   have hu:=bv g;have g':isX ts (ba 61 62) (b,0)=true:=by rw[ma];exact g
   simp only[if_true];have h2:=hI (b+1) hu;cases hx2:rec .I (ts.drop (b+1))with
   | out=>trivial
   | bad c r=>
    rw[hx2]at h2;obtain⟨v2,b2,hb2,hr2,hc,he2⟩:=h2;exact⟨_,b2,hb2,hr2,hc,E9 he g' he2⟩
   | ok v2 r2=>
    rw[hx2]at h2;obtain⟨b2,hab2,hb2,rfl,he2⟩:=h2;exact⟨b2,by omega,hb2,rfl,E9 he g' he2⟩
omit hW in
theorem SL{k:Nat}(hk:3≤k)(hk2:k≤12)(hL:∀a,a≤ts.length->Rl ts (.E (k+1)) a (rec (.L (k+1)) (ts.drop a)))(hP:∀e a,a≤ts.length->Rl ts (.Lp k e) a (rec (.Lp k e) (ts.drop a)))(a:Nat)(ha:a≤ts.length):Rl ts (.E k) a (bj rec (.L k) (ts.drop a)):=by
 simp only[bj];rw[if_neg (by omega)];have h:=hL a ha;cases hx:rec (.L (k+1)) (ts.drop a)with
 | out=>trivial
 | bad c r=>
  rw[hx]at h;obtain⟨v,b,hb,hr,hc,he⟩:=h;exact⟨v,b,hb,hr,hc,ES hk hk2 he (uC ts b hc k v)⟩
 | ok v r=>
  rw[hx]at h;obtain⟨b,hab,hb,rfl,he⟩:=h;simp only[PR.bind];have h2:=hP v b hb;cases hx2:rec (.Lp k v) (ts.drop b)with
  | out=>trivial
  | bad c r=>
   rw[hx2]at h2;obtain⟨v2,b2,hb2,hr2,hc,he2⟩:=h2;exact⟨_,b2,hb2,hr2,hc,ES hk hk2 he he2⟩
  | ok v2 r2=>
   rw[hx2]at h2;obtain⟨b2,hab2,hb2,rfl,he2⟩:=h2;exact⟨b2,by omega,hb2,rfl,ES hk hk2 he he2⟩
omit hW in
theorem oT{k:Nat}{r r1:List Tok}{o:Int}:∀l:List (ByteArray×Int×Nat),jp l k r=some (o,r1)->∃m,acc m r=some r1/\(m,o,k)∈l
 | [],h=>by cases h
 | b::l,h=>by
  simp only[jp]at h;split at h
  .rename_i hk;split at h
   .rename_i r2 h2;cases h;exact⟨b.1,h2,by rw[<-hk];exact List.mem_cons_self⟩
   .obtain⟨m,g1,g2⟩:=oT l h;exact⟨m,g1,TR _ g2⟩
  .obtain⟨m,g1,g2⟩:=oT l h;exact⟨m,g1,TR _ g2⟩
omit hW in
theorem jq{m:ByteArray}{a:Nat}{r1:List Tok}(h:acc m (ts.drop a)=some r1):r1=ts.drop (a+1)/\a<ts.length:=by
 rw[aT]at h;split at h
 .rename_i g;cases h;exact⟨rfl,bv g⟩
 .cases h
omit hW in
theorem yV{k:Nat}{a:Nat}{o:Int}{ex:Bool}{r1:List Tok}(h:dM k (ts.drop a)=some (o,ex,r1)):r1=ts.drop (a+1)/\a<ts.length/\o≠0:=by
 unfold dM at h;split at h
 .rename_i o' r' hq;cases h;obtain⟨m,g1,g2⟩:=oT _ hq;have:=zT _ g2;simp only at this;exact⟨(jq g1).1,(jq g1).2,by omega⟩
 .split at h
  .split at h
   .rename_i r' hq;cases h;exact⟨(jq hq).1,(jq hq).2,by decide⟩
   .split at h
    .rename_i r' hq;cases h;exact⟨(jq hq).1,(jq hq).2,by decide⟩
    .cases h
  .cases h
omit hW in
theorem Ns{k:Nat}(hk:3≤k)(hk2:k≤12)(hL:∀a,a≤ts.length->Rl ts (.E (k+1)) a (rec (.L (k+1)) (ts.drop a)))(hN:∀e a,a≤ts.length->Rl ts (.In e) a (rec (.In e) (ts.drop a)))(hP:∀e a,a≤ts.length->Rl ts (.Lp k e) a (rec (.Lp k e) (ts.drop a)))(e:Ex)(a:Nat)(ha:a≤ts.length):Rl ts (.Lp k e) a (bj rec (.Lp k e) (ts.drop a)):=by
 simp only[bj];by_cases h9:k=9/\ax ct ts a=true
 .obtain⟨rfl,g⟩:=h9;have hu:=bv g;have g':isX ts ct (a,0)=true:=by rw[ma];exact g
  rw[if_pos rfl,aT,if_pos g];simp only;have h2:=hN e (a+1) hu;cases hx:rec (.In e) (ts.drop (a+1))with
  | out=>trivial
  | bad c r=>
   rw[hx]at h2;obtain⟨v,b,hb,hr,hc,he⟩:=h2;exact⟨v,b,hb,hr,hc,D5 g' he (uC ts b hc 9 v)⟩
  | ok v r=>
   rw[hx]at h2;obtain⟨b,hab,hb,rfl,he⟩:=h2;simp only[PR.bind];have h3:=hP v b hb;cases hx3:rec (.Lp 9 v) (ts.drop b)with
   | out=>trivial
   | bad c r=>
    rw[hx3]at h3;obtain⟨v2,b2,hb2,hr2,hc,he2⟩:=h3;exact⟨_,b2,hb2,hr2,hc,D5 g' he he2⟩
   | ok v2 r2=>
    rw[hx3]at h3;obtain⟨b2,hab2,hb2,rfl,he2⟩:=h3;exact⟨b2,by omega,hb2,rfl,D5 g' he he2⟩
 have g9:¬(k=9/\isX ts ct (a,0)=true):=by rw[ma];exact h9
 have e0:(if k=9 then acc ct (ts.drop a)else none)=none:=by
  by_cases h:k=9
  .rw[if_pos h,aT,if_neg fun g=>h9 ⟨h,g⟩]
  .rw[if_neg h]
 rw[e0];simp only;cases ho:dM k (ts.drop a)with
 | none=>
  refine⟨a,TX _,ha,rfl,JD g9 ?_⟩;unfold hH;rw[if_pos rfl,ho]
 | some p=>
  obtain⟨o,ex,r1⟩:=p;obtain⟨rfl,hu,hne⟩:=yV ho;have hS:hH ts a 0 k=(o,ex):=by unfold hH;rw[if_pos rfl,ho]
  simp only;have h2:=hL (a+1) hu;cases hx:rec (.L (k+1)) (ts.drop (a+1))with
  | out=>trivial
  | bad c r=>
   rw[hx]at h2;obtain⟨v,b,hb,hr,hc,he⟩:=h2;exact⟨_,b,hb,hr,hc,EM g9 hS hne he (uC ts b hc k _)⟩
  | ok v r=>
   rw[hx]at h2;obtain⟨b,hab,hb,rfl,he⟩:=h2;simp only[PR.bind];have h3:=hP (if ex=true then aK o [v,e]else aK o [e,v]) b hb;cases hx3:rec (.Lp k (if ex=true then aK o [v,e]else aK o [e,v])) (ts.drop b)with
   | out=>trivial
   | bad c r=>
    rw[hx3]at h3;obtain⟨v2,b2,hb2,hr2,hc,he2⟩:=h3;exact⟨_,b2,hb2,hr2,hc,EM g9 hS hne he he2⟩
   | ok v2 r2=>
    rw[hx3]at h3;obtain⟨b2,hab2,hb2,rfl,he2⟩:=h3;exact⟨b2,by omega,hb2,rfl,EM g9 hS hne he he2⟩
omit hW in
def Rp(ts:List Tok)(args:List Ex)(a:Nat):PR->Prop
 | .out=>True
 | .ok v r=>∃b s1,a≤b/\b≤ts.length/\r=ts.drop b/\Ev ts (.Rg args) (a,0) (v,s1)/\cw ts (aa 125) s1=(b,0)
 | .bad c r=>∃v b s1,b≤ts.length/\r=ts.drop b/\c≠0/\Ev ts (.Rg args) (a,0) (v,s1)/\cw ts (aa 125) s1=(b,c)
theorem NR(hP:∀l a,a≤ts.length->Rp ts l a (rec (.Ip l) (ts.drop a)))(args:List Ex)(a:Nat)(ha:a≤ts.length):Rp ts args a (bj rec (.Ip args) (ts.drop a)):=by
 simp only[bj];have h:=hW a ha
 have stop:∀{v v2:Ex} {s1:RS} {b:Nat} {c:Int},Ev ts (.E 1) (a,0) (v,s1)->Ev ts (.E 1) (cw ts (ba 46 46) s1) (v2,(b,c))->c≠0->b≤ts.length->Rp ts args a (.bad c (ts.drop b)):=fun{v v2 s1 b c} h1 h2 hc hb=>
  ⟨_,b,_,hb,rfl,hc,xS rfl h1 h2 (iQ ts b hc _),iF ts b hc _⟩
 cases hx:rec .W (ts.drop a)with
 | out=>trivial
 | bad c r=>
  rw[hx]at h;obtain⟨v,b,hb,rfl,hc,he⟩:=h;exact stop he (by rw[iF ts b hc];exact uO b hc) hc hb
 | ok v r=>
  rw[hx]at h;obtain⟨b,hab,hb,rfl,he⟩:=h;simp only[PR.bind,aT];cases g:ax (ba 46 46) ts b with
  | false=>
   simp only[TJ,if_false];rw[dC ts b hb];exact stop he (by rw[jM g];exact uO b (ce ts b)) (ce ts b) hb
  | true=>
   have hu:=bv g;simp only[if_true];have h2:=hW (b+1) hu;cases hx2:rec .W (ts.drop (b+1))with
   | out=>trivial
   | bad c r=>
    rw[hx2]at h2;obtain⟨v2,b2,hb2,rfl,hc,he2⟩:=h2;exact stop he (by rw[gC g];exact he2) hc hb2
   | ok v2 r2=>
    rw[hx2]at h2;obtain⟨b2,hab2,hb2,rfl,he2⟩:=h2;have he2':Ev ts (.E 1) (cw ts (ba 46 46) (b,0)) (v2,(b2,0)):=by rw[gC g];exact he2
    simp only[PR.bind,aT];cases g2:ax (aa 44) ts b2 with
    | true=>
     have hu2:=bv g2;have g2':isX ts (aa 44) (b2,0)=true:=by rw[ma];exact g2
     simp only[if_true];have h3:=hP (args++[v,v2]) (b2+1) hu2;cases hx3:rec (.Ip (args++[v,v2])) (ts.drop (b2+1))with
     | out=>trivial
     | bad c r=>
      rw[hx3]at h3;obtain⟨v3,b3,s3,hb3,hr3,hc,he3,hn3⟩:=h3;exact⟨v3,b3,s3,hb3,hr3,hc,As rfl he he2' g2' he3,hn3⟩
     | ok v3 r3=>
      rw[hx3]at h3;obtain⟨b3,s3,hab3,hb3,hr3,he3,hn3⟩:=h3;exact⟨b3,s3,by omega,hb3,hr3,As rfl he he2' g2' he3,hn3⟩
    | false=>
     have g2':isX ts (aa 44) (b2,0)=false:=by rw[ma];exact g2
     simp only[TJ,if_false];cases g3:ax (aa 125) ts b2 with
     | true=>
      simp only[if_true];exact⟨b2+1,_,by omega,bv g3,rfl,xS rfl he he2' g2',gC g3⟩
     | false=>
      simp only[TJ,if_false];rw[dC ts b2 hb2];exact⟨_,b2,_,hb2,rfl,ce ts b2,xS rfl he he2' g2',jM g3⟩
omit hW in
theorem Lt(hP:∀l a,a≤ts.length->Rp ts l a (rec (.Ip l) (ts.drop a)))(e:Ex)(a:Nat)(ha:a≤ts.length):Rl ts (.In e) a (bj rec (.In e) (ts.drop a)):=by
 simp only[bj,aT];cases g:ax (aa 123) ts a with
 | false=>
  simp only[TJ,if_false];rw[dC ts a ha];have hr:=J8 ts a (ce ts a) [e];have:=Ga (s:=(a,0)) (by rw[jM g];exact hr);rw[iF ts a (ce ts a)]at this;exact⟨_,a,ha,rfl,ce ts a,this⟩
 | true=>
  have hu:=bv g;simp only[if_true];have h3:=hP [e] (a+1) hu;cases hx3:rec (.Ip [e]) (ts.drop (a+1))with
  | out=>trivial
  | bad c r=>
   rw[hx3]at h3;obtain⟨v3,b3,s3,hb3,hr3,hc,he3,hn3⟩:=h3;have:=Ga (s:=(a,0)) (by rw[gC g];exact he3);rw[hn3]at this;exact⟨v3,b3,hb3,hr3,hc,this⟩
  | ok v3 r3=>
   rw[hx3]at h3;obtain⟨b3,s3,hab3,hb3,hr3,he3,hn3⟩:=h3;have:=Ga (s:=(a,0)) (by rw[gC g];exact he3);rw[hn3]at this;exact⟨b3,by omega,hb3,hr3,this⟩
end
end Go.Proofs.YtnhphlmblenapaaGreatDoor
namespace Go.Proofs.YtnhphlmblenapaaGreatDoor
open Go.RowKit
def EvP(ts:List Tok)(s:RS)(x:Ex×RS):Prop:=∃n0,∀m,n0≤m->fX ts (cT ts m) s=some x
def RlP(ts:List Tok)(a:Nat):PR->Prop
 | .out=>True
 | .ok v r=>∃b,a≤b/\b≤ts.length/\r=ts.drop b/\EvP ts (a,0) (v,(b,0))
 | .bad c r=>∃v b,b≤ts.length/\r=ts.drop b/\c≠0/\EvP ts (a,0) (v,(b,c))
section
variable {ts : List Tok} {s s1 : RS} {v : Ex}
theorem IB{j:Nat}(hj:j<3)(c:UInt8)(hc:n9.drop j=(c,4+((j:Nat):Int))::n9.drop (j+1))(g:isX ts (aa c) s=true)(hno:∀p,p∈n9.take j->isX ts (aa p.1) s=false)(h:Ev ts (.E 13) (upS s) (v,s1)):Ev ts (.E 13) s (aK (4+((j:Nat):Int)) [v],s1):=by
 obtain⟨n0,h⟩:=h;refine cY n0 fun m hm=>?_;have hm:=h m hm;show A3 ts (cT ts m) s n9=_
 have key:∀l:List (UInt8×Int),(∀p,p∈l->isX ts (aa p.1) s=false)->A3 ts (cT ts m) s (l++(c,4+((j:Nat):Int))::n9.drop (j+1))=some (aK (4+((j:Nat):Int)) [v],s1):=by
  intro l hl
  induction l with
  | nil=>show(if _ then _ else _)=_;rw[if_pos g,hm];rfl
  | cons p l ih=>show(if _ then _ else _)=_;rw[if_neg (by rw[hl p (by simp)];decide)];exact ih fun q hq=>hl q (by simp[hq])
 have:=key _ hno;rw[<-hc,List.take_append_drop]at this;exact this
theorem Kj{x:Ex×RS}(h1:isX ts (aa 33) s=false)(h2:isX ts (aa 126) s=false)(h3:isX ts (aa 45) s=false)(h:EvP ts s x):Ev ts (.E 13) s x:=by
 obtain⟨n0,h⟩:=h;refine cY n0 fun m hm=>?_;simp only[stX,h1,h2,h3,TW,if_false,if_true,TJ];exact h m hm
variable (rec : PK -> List Tok -> PR)
theorem QA(hU:∀a,a≤ts.length->Rl ts (.E 13) a (rec .U (ts.drop a)))(hP:∀a,a≤ts.length->RlP ts a (rec .P (ts.drop a)))(a:Nat)(ha:a≤ts.length):Rl ts (.E 13) a (bj rec .U (ts.drop a)):=by
 have pre:∀(j:Nat) (c:UInt8),j<3->n9.drop j=(c,4+((j:Nat):Int))::n9.drop (j+1)->ax (aa c) ts a=true->(∀p,p∈n9.take j->ax (aa p.1) ts a=false)->Rl ts (.E 13) a ((rec .U (ts.drop (a+1))).bind fun x r2=>.ok (aK (4+((j:Nat):Int)) [x]) r2):=by
  intro j c hj hc g hno;have hu:=bv g;have h:=hU (a+1) hu;have st:=fun{v:Ex} {s1:RS} (he:Ev ts (.E 13) (a+1,0) (v,s1))=>IB (s:=(a,0)) hj c hc (by rw[ma];exact g) (fun p hp=>by rw[ma];exact hno p hp) he;cases hx:rec .U (ts.drop (a+1))with
  | out=>trivial
  | bad c r=>
   rw[hx]at h;obtain⟨v,b,hb,hr,hc,he⟩:=h;exact⟨_,b,hb,hr,hc,st he⟩
  | ok v r=>
   rw[hx]at h;obtain⟨b,hab,hb,hr,he⟩:=h;exact⟨b,by omega,hb,hr,st he⟩
 simp only[bj,aT];cases g1:ax (aa 33) ts a with
 | true=>simp only[if_true];exact pre 0 33 (by omega) rfl g1 (fun p hp=>by simp at hp)
 | false=>
  simp only[TJ,if_false];cases g2:ax (aa 126) ts a with
  | true=>simp only[if_true];exact pre 1 126 (by omega) rfl g2 (fun p hp=>by simp[n9]at hp;subst hp;exact g1)
  | false=>
   simp only[TJ,if_false];cases g3:ax (aa 45) ts a with
   | true=>simp only[if_true];exact pre 2 45 (by omega) rfl g3 (fun p hp=>by simp[n9]at hp;rcases hp with rfl|rfl;exact g1;exact g2)
   | false=>
    simp only[TJ,if_false];have h:=hP a ha;have st:=fun{x:Ex×RS} (he:EvP ts (a,0) x)=>Kj (by rw[ma];exact g1) (by rw[ma];exact g2) (by rw[ma];exact g3) he;cases hx:rec .P (ts.drop a)with
    | out=>trivial
    | bad c r=>
     rw[hx]at h;obtain⟨v,b,hb,hr,hc,he⟩:=h;exact⟨v,b,hb,hr,hc,st he⟩
    | ok v r=>
     rw[hx]at h;obtain⟨b,hab,hb,hr,he⟩:=h;exact⟨b,hab,hb,hr,st he⟩
end
end Go.Proofs.YtnhphlmblenapaaGreatDoor
namespace Go.Proofs.YtnhphlmblenapaaGreatDoor
open Go.RowKit
section
variable {ts : List Tok} (H : TsV ts) (rec : PK -> List Tok -> PR) (hW : ∀ a, a ≤ ts.length -> Rl ts (.E 1) a (rec .W (ts.drop a)))
include H
theorem FQ{a:Nat}{n:Int}{r:List Tok}(h:cB (ts.drop a)=some (n,r)):nD ts (a,0)=3/\r=ts.drop (a+1)/\a<ts.length:=by
 have hl:=kh (ts:=ts) (a:=a) (by rw[h];rfl);rw[ez hl]at h;split at h
 .rename_i hk;cases h;refine⟨?_,rfl,hl⟩;unfold nD gW;rw[if_pos rfl,TN hl];exact hk.2
 .cases h
theorem vM{a:Nat}(h:cB (ts.drop a)=none):¬nD ts (a,0)=3:=by
 unfold nD gW;rw[if_pos rfl];by_cases hl:a<ts.length
 .rw[TN hl];rw[ez hl,H.v _ (TT hl)]at h;intro hk;rw[if_pos ⟨rfl,hk⟩]at h;cases h
 .rw[List.getElem?_eq_none (by omega)];decide
theorem Fp{m:ByteArray}{a:Nat}(g:ax m ts a=true):cB (ts.drop a)=none:=by
 have hl:=bv g;rw[nI hl,TM,TM,Bool.or_eq_true,decide_eq_true_eq,decide_eq_true_eq]at g;rw[ez hl,if_neg];intro hk;have:=hk.2;rcases g.2.1 with h|h<;>omega
include hW
theorem Sm(a:Nat)(ha:a≤ts.length):RlP ts a (ic rec (ts.drop a)):=by
 unfold ic;rw[aT];cases g:ax (aa 40) ts a with
 | true=>
  have hu:=bv g;have hk:=vM H (Fp H g)
  have st:∀{v:Ex} {s1:RS},Ev ts (.E 1) (a+1,0) (v,s1)->EvP ts (a,0) (v,cw ts (aa 41) s1):=fun{v s1} ⟨n0,h⟩=>⟨n0,fun m hm=>by
   unfold fX;rw[if_neg hk,if_pos (by rw[ma];exact g),show upS (a,0)=(a+1,0)from rfl,h m hm];rfl⟩
  simp only[if_true];have h:=hW (a+1) hu;cases hx:rec .W (ts.drop (a+1))with
  | out=>trivial
  | bad c r=>
   rw[hx]at h;obtain⟨v,b,hb,hr,hc,he⟩:=h;have:=st he;rw[iF ts b hc]at this;exact⟨v,b,hb,hr,hc,this⟩
  | ok v r=>
   rw[hx]at h;obtain⟨b,hab,hb,rfl,he⟩:=h;have:=st he;simp only[PR.bind,aT];cases g2:ax (aa 41) ts b with
   | true=>
    rw[gC g2]at this;simp only[if_true];exact⟨b+1,by omega,bv g2,rfl,this⟩
   | false=>
    rw[jM g2]at this;simp only[TJ,if_false];rw[dC ts b hb];exact⟨v,b,hb,rfl,ce ts b,this⟩
 | false=>
  have g':isX ts (aa 40) (a,0)=false:=by rw[ma];exact g
  simp only[TJ,if_false];cases hn:cB (ts.drop a)with
  | some p=>
   obtain⟨n,r1⟩:=p;obtain⟨hk,rfl,hl⟩:=FQ H hn;simp only;have st:EvP ts (a,0) (.mk 1 (cD ts a 0).1 ⟨#[]⟩ [],(cD ts a 0).2):=⟨0,fun m _=>by unfold fX;rw[if_pos hk]⟩
   have hS:cD ts a 0=if 65535<n then(0,a,3)else(n,a+1,0):=by unfold cD;rw[if_pos rfl,hn]
   rw[hS]at st;by_cases hbig:65535<n
   .rw[if_pos hbig]at st ⊢;exact⟨_,a,ha,rfl,by decide,st⟩
   .rw[if_neg hbig]at st ⊢;exact⟨a+1,by omega,hl,rfl,st⟩
  | none=>
   have hk:=vM H hn;simp only;cases hm:bW (ts.drop a)with
   | none=>
    simp only;rw[dC ts a ha];refine⟨.mk 2 0 ⟨#[]⟩ [],a,ha,rfl,ce ts a,0,fun m _=>?_⟩;have hS:bX ts a 0=(⟨#[]⟩,a,bQ ts a):=by unfold bX;rw[if_pos rfl,hm,if_pos rfl]
    unfold fX;rw[if_neg hk,if_neg (by rw[g'];decide)];simp only[hS,iQ ts a (ce ts a)];simp
   | some p=>
    obtain⟨x,r1⟩:=p;have hl:=i7 (ts:=ts) (a:=a) (by rw[hm];rfl)
    have hr1:r1=ts.drop (a+1):=by
     rw[fM hl]at hm;split at hm
     .cases hm;rfl
     .cases hm
    subst hr1;have hS:bX ts a 0=(x,a+1,0):=by unfold bX;rw[if_pos rfl,hm]
    have base:∀m,fX ts (cT ts m) (a,0)=(if x=me/\isX ts (aa 40) (a+1,0)=true then some (.mk 24 0 (bX ts (a+2) 0).1 [],cw ts (aa 41) (bX ts (a+2) 0).2)
     else if x=gS/\isX ts (aa 40) (a+1,0)=true then(cT ts m (.E 1) (a+2,0)).map fun p=>(aK 25 [p.1],cw ts (aa 41) p.2)
     else if isX ts (aa 91) (a+1,0)=true then(cT ts m (.E 1) (a+2,0)).map fun p=>(.mk 3 0 x [p.1],cw ts (aa 93) p.2)
     else if isX ts (aa 64) (a+1,0)=true then some (.mk 2 0 (gX x (cD ts (a+2) 0).1) [],(cD ts (a+2) 0).2)
     else some (.mk 2 0 x [],(a+1,0))):=fun m=>by
     unfold fX;rw[if_neg hk,if_neg (by rw[g'];decide)];simp only[hS];rfl
    simp only[ma]at base;simp only[aT];by_cases c1:x=me/\ax (aa 40) ts (a+1)=true
    .simp only[if_pos c1]at base;rw[if_pos c1.1,if_pos c1.2];have hu:=bv c1.2;simp only;cases hq:bW (ts.drop (a+1+1))with
     | none=>
      have hS2:bX ts (a+2) 0=(⟨#[]⟩,a+2,bQ ts (a+2)):=by unfold bX;rw[if_pos rfl,hq,if_pos rfl]
      simp only[hS2,iF ts (a+2) (ce ts _)]at base;simp only;rw[dC ts (a+1+1) hu];exact⟨_,a+2,hu,rfl,ce ts _,0,fun m _=>base m⟩
     | some p=>
      obtain⟨q,r2⟩:=p;obtain⟨hr2,hl2⟩:=vQ H.ok hq;subst hr2;have hS2:bX ts (a+2) 0=(q,a+3,0):=by unfold bX;rw[if_pos rfl,hq]
      simp only[hS2]at base;simp only[aT];cases g3:ax (aa 41) ts (a+1+1+1)with
      | true=>
       simp only[gC (ts:=ts) (b:=a+3) g3]at base;simp only[if_true];exact⟨a+4,by omega,bv g3,rfl,0,fun m _=>base m⟩
      | false=>
       simp only[jM (ts:=ts) (b:=a+3) g3]at base;simp only[TJ,if_false];rw[dC ts _ hl2];exact⟨_,a+3,hl2,rfl,ce ts _,0,fun m _=>base m⟩
    simp only[if_neg c1]at base
    have e1:(if x=me then(if ax (aa 40) ts (a+1)=true then some (ts.drop (a+1+1))else none)else none)=none:=by
     by_cases h:x=me
     .rw[if_pos h,if_neg fun g=>c1 ⟨h,g⟩]
     .rw[if_neg h]
    rw[e1];simp only
    have sub:∀(f:Ex->Ex) (w:ByteArray),a+1+1≤ts.length->(∀m,fX ts (cT ts m) (a,0)=(cT ts m (.E 1) (a+2,0)).map fun p=>(f p.1,cw ts w p.2))->RlP ts a ((rec .W (ts.drop (a+1+1))).bind fun e r3=>match acc w r3 with
     | some r4=>.ok (f e) r4
     | none=>eO r3):=by
     intro f w hu hb;have st:∀{v:Ex} {s1:RS},Ev ts (.E 1) (a+2,0) (v,s1)->EvP ts (a,0) (f v,cw ts w s1):=fun{v s1} ⟨n0,h⟩=>⟨n0,fun m hm=>by rw[hb m,h m hm];rfl⟩
     have h:=hW (a+1+1) hu;cases hx:rec .W (ts.drop (a+1+1))with
     | out=>trivial
     | bad c r=>
      rw[hx]at h;obtain⟨v,b,hb,hr,hc,he⟩:=h;have:=st he;rw[iF ts b hc]at this;exact⟨_,b,hb,hr,hc,this⟩
     | ok v r=>
      rw[hx]at h;obtain⟨b,hab,hb,rfl,he⟩:=h;have:=st he;simp only[PR.bind,aT];cases g2:ax w ts b with
      | true=>
       rw[gC g2]at this;simp only[if_true];exact⟨b+1,by omega,bv g2,rfl,this⟩
      | false=>
       rw[jM g2]at this;simp only[TJ,if_false];rw[dC ts b hb];exact⟨_,b,hb,rfl,ce ts b,this⟩
    by_cases c2:x=gS/\ax (aa 40) ts (a+1)=true
    .simp only[if_pos c2]at base;rw[if_pos c2.1,if_pos c2.2];exact sub (fun e=>aK 25 [e]) (aa 41) (bv c2.2) base
    simp only[if_neg c2]at base
    have e2:(if x=gS then(if ax (aa 40) ts (a+1)=true then some (ts.drop (a+1+1))else none)else none)=none:=by
     by_cases h:x=gS
     .rw[if_pos h,if_neg fun g=>c2 ⟨h,g⟩]
     .rw[if_neg h]
    rw[e2];simp only;by_cases c3:ax (aa 91) ts (a+1)=true
    .simp only[if_pos c3]at base;rw[if_pos c3];exact sub (fun e=>.mk 3 0 x [e]) (aa 93) (bv c3) base
    simp only[if_neg c3]at base;rw[if_neg c3];simp only;by_cases c4:ax (aa 64) ts (a+1)=true
    .simp only[if_pos c4]at base;rw[if_pos c4];have hu:=bv c4;simp only;cases hq:cB (ts.drop (a+1+1))with
     | none=>
      have hS2:cD ts (a+2) 0=(0,a+2,bQ ts (a+2)):=by unfold cD;rw[if_pos rfl,hq,if_pos rfl]
      simp only[hS2]at base;simp only;rw[dC ts (a+1+1) hu];exact⟨_,a+2,hu,rfl,ce ts _,0,fun m _=>base m⟩
     | some p=>
      obtain⟨q,r2⟩:=p;obtain⟨hr2,hl2⟩:=Ad H.ok hq;subst hr2;have hS2:cD ts (a+2) 0=if 65535<q then(0,a+2,3)else(q,a+3,0):=by unfold cD;rw[if_pos rfl,hq]
      simp only;by_cases hbig:65535<q
      .rw[if_pos hbig]at hS2 ⊢;simp only[hS2]at base;exact⟨_,a+2,hu,rfl,by decide,0,fun m _=>base m⟩
      .rw[if_neg hbig]at hS2 ⊢;simp only[hS2]at base;exact⟨a+3,by omega,hl2,rfl,0,fun m _=>base m⟩
    simp only[if_neg c4]at base;rw[if_neg c4];exact⟨a+1,by omega,hl,rfl,0,fun m _=>base m⟩
end
end Go.Proofs.YtnhphlmblenapaaGreatDoor
namespace Go.Proofs.YtnhphlmblenapaaGreatDoor
open Go.RowKit
def RM(ts:List Tok)(K:PK)(a:Nat)(x:PR):Prop:=match K with
 | .W=>Rl ts (.E 1) a x
 | .I=>Rl ts (.E 2) a x
 | .L k=>3≤k->k≤13->Rl ts (.E k) a x
 | .Lp k e=>3≤k->k≤12->Rl ts (.Lp k e) a x
 | .In e=>Rl ts (.In e) a x
 | .Ip l=>Rp ts l a x
 | .U=>Rl ts (.E 13) a x
 | .P=>RlP ts a x
theorem Eb{ts:List Tok}(H:TsV ts):∀(n:Nat) (K:PK) (a:Nat),a≤ts.length->RM ts K a (fY n K (ts.drop a))
 | 0,K,a,_=>by
  cases K with
  | L k=>exact fun _ _=>trivial
  | Lp k e=>exact fun _ _=>trivial
  | _=>trivial
 | n+1,K,a,ha=>by
  have ih:=Eb H n;have hW:∀a,a≤ts.length->Rl ts (.E 1) a (fY n .W (ts.drop a)):=fun a h=>ih .W a h;cases K with
  | W=>exact R0 _ hW (fun a h=>ih .I a h) a ha
  | I=>exact QN _ (fun a h=>ih .I a h) (fun a h=>ih (.L 3) a h (by omega) (by omega)) a ha
  | L k=>
   intro h1 h2;by_cases hk:k=13
   .subst hk;exact ih .U a ha
   .exact SL _ h1 (by omega) (fun a h=>ih (.L (k+1)) a h (by omega) (by omega)) (fun e a h=>ih (.Lp k e) a h h1 (by omega)) a ha
  | Lp k e=>
   intro h1 h2;exact Ns _ h1 h2 (fun a h=>ih (.L (k+1)) a h (by omega) (by omega)) (fun e a h=>ih (.In e) a h) (fun e a h=>ih (.Lp k e) a h h1 h2) e a ha
  | In e=>exact Lt _ (fun l a h=>ih (.Ip l) a h) e a ha
  | Ip l=>exact NR _ hW (fun l a h=>ih (.Ip l) a h) l a ha
  | U=>exact QA _ (fun a h=>ih .U a h) (fun a h=>ih .P a h) a ha
  | P=>exact Sm H _ hW a ha
theorem Ch{ts:List Tok}(H:TsV ts){a:Nat}(ha:a≤ts.length):Rl ts (.E 1) a (par .W (ts.drop a)):=Eb H _ .W a ha
theorem FR{ts:List Tok}(H:TsV ts)(h9:ts.length≤1100000){a:Nat}(ha:a≤ts.length)(σ:LLV):Fun G 136 [.d (.sl (ts.map di)),.d (ab a)] σ (aN (iu (iP ts.length (ts.drop a))) σ):=by
 have hL:=H.ok.len;have h:=Ch H ha;have dl:∀b,b≤ts.length->ts.length-(ts.drop b).length=b:=fun b hb=>by rw[TS];omega
 unfold iP;cases hx:par .W (ts.drop a)with
 | out=>exact absurd hx (fA _ _)
 | bad c r=>
  rw[hx]at h;obtain⟨v,b,hb,rfl,hc,n0,he⟩:=h;have:=sY H ha (he n0 (TX _)) (fun e=>absurd e hc) σ;rw[if_neg hc]at this;simp only[dl b hb];exact this
 | ok v r=>
  have hsz:=wK hx;rw[TS]at hsz;rw[hx]at h;obtain⟨b,hab,hb,rfl,n0,he⟩:=h;have:=sY H ha (he n0 (TX _)) (fun _=>⟨by omega,by have:=mY v;omega⟩) σ;rw[if_pos rfl]at this;simp only[dl b hb];exact this
abbrev PS:=Nat×Int×Int
def rp(ts:List Tok)(s:PS):List V:=[.d (.sl (ts.map di)),.d (ab s.1),.d (ab s.2.1),.d (ab s.2.2)]
def eN(ts:List Tok)(s:PS):PS:=if s.2.2=0 then(s.1,lnA ts s.1,bQ ts s.1)else s
section
variable {ts : List Tok} {i : Nat} {s : PS} (H : TsV ts) (σ : LLV) (hi : σ[i]? = some (rp ts s))
include H hi
theorem tQ:Fun G 89 [.ptr i 0] σ (aN (.d (ab (zLs ts))) σ):=by
 have hL:=H.ok.len;refine ae Tryz.func89 k89 rfl fun hb hw=>?_;unfold c89;have hio:=hi;unfold rp at hio;by_cases h0:ts.length=0
 .have:ts=[]:=List.eq_nil_of_length_eq_zero h0;subst this;simp only[List.map_nil]at hio;have dz:decide (((0:Nat):Int)=0)=true:=rfl;simp -dsimp only[aw,seval,hio,List.length_nil,dz];exact ak hb rfl rfl
 .have d0:decide (((ts.length:Nat):Int)=0)=false:=decide_eq_false (by omega);have hw1:IntKind.i64.wrap (((ts.length:Nat):Int)-1)=((ts.length-1:Nat):Int):=by rw[aA (by omega) (by omega)];omega
  have hlt:ts.length-1<ts.length:=by omega
  rw[Jo hlt];simp -dsimp only[aw,seval,hio,d0,hw1,TN hlt,bG,di];exact ak hb rfl rfl
theorem fe:Fun G 39 [.ptr i 0] σ fun o σ'=>o=.ret (.tup [])/\σ'=σ.set i (rp ts (eN ts s)):=by
 have hlt:=(List.getElem?_eq_some_iff.1 hi).1;refine ae Tryz.func39 k39 rfl fun hb hw=>?_;unfold c39 eN;have hio:=hi;unfold rp at hio
 have done:∀(s':PS) (ρ:aj) rs,aC (σ.set i (rp ts s')) ρ rs=some (.tup [])->fin σ.length rs (fun o σ'=>o=.ret (.tup [])/\σ'=σ.set i (rp ts s')) .ret ρ (σ.set i (rp ts s')):=fun s' ρ rs h=>
  bp (bq hb rfl) h rfl (by rw[TQ (by rw[TU];exact TX _)]) ⟨rfl,rfl⟩
 have donee:∀(s':PS) (ρ:aj) rs,aC (σ.set i (rp ts s')) ρ rs=some (.tup [])->fin σ.length rs (fun o σ'=>o=.ret (.tup [])/\σ'=σ.set i (rp ts s')) .normal ρ (σ.set i (rp ts s')):=fun s' ρ rs h=>
  rG (bq hb rfl) h rfl (by rw[TQ (by rw[TU];exact TX _)]) ⟨rfl,rfl⟩
 by_cases he:s.2.2=0
 case neg=>
  rw[if_neg he,oh hi];simp -dsimp only[aw,seval,hio,decide_eq_false he];exact az hb rfl rfl List.take_length ⟨rfl,rfl⟩
 rw[if_pos he];by_cases hl:s.1<ts.length
 .have d1:decide (((ts.length:Nat):Int)≤((s.1:Nat):Int))=false:=decide_eq_false (by omega);have e1:lnA ts s.1=ts[s.1].line:=by unfold lnA;rw[List.drop_eq_getElem_cons hl];rfl
  have e2:bQ ts s.1=5:=if_pos hl;rw[e1,e2];simp -dsimp only[aw,seval,hio,decide_eq_true he,d1,TO hlt,TV,TN hl,bG,di];exact donee (s.1,ts[s.1].line,5) _ _ rfl
 .have d1:decide (((ts.length:Nat):Int)≤((s.1:Nat):Int))=true:=decide_eq_true (by omega);have e1:lnA ts s.1=zLs ts:=by unfold lnA;rw[List.drop_eq_nil_of_le (by omega)];rfl
  have e2:bQ ts s.1=6:=if_neg hl;rw[e1,e2];have hla:=tQ (i:=i) (s:=(s.1,s.2.1,6)) H (σ.set i (rp ts (s.1,s.2.1,6))) (TO hlt);unfold rp at hla;simp -dsimp only[aw,seval,hio,decide_eq_true he,d1];refine ac hla ?_;simp -dsimp only[aw,seval,hio,TO hlt,TV];exact done (s.1,zLs ts,6) _ _ rfl
theorem ql(m:ByteArray):Fun G 133 [.ptr i 0,.d (ai m)] σ (aN (ao (decide (s.2.2=0)&&ax m ts s.1)) σ):=by
 refine ae Tryz.func133 QK rfl fun hb hw=>?_;unfold Pb;have hio:=hi;unfold rp at hio;have hio2:=fun l=>ah hio l;by_cases he:s.2.2=0
 case neg=>
  rw[decide_eq_false he,TL];simp -dsimp only[aw,seval,hio,decide_eq_false he];exact ak hb rfl rfl
 rw[decide_eq_true he,TK];by_cases hl:s.1<ts.length
 .have d1:decide (((ts.length:Nat):Int)≤((s.1:Nat):Int))=false:=decide_eq_false (by omega);rw[nI hl,H.v _ (TT hl),TK];by_cases h2:ts[s.1].kind=2
  .rw[decide_eq_true h2,Bool.or_true,TK];simp -dsimp only[aw,seval,hio,hio2,decide_eq_true he,d1,TN hl,bG,di,decide_eq_true h2];exact ak hb rfl rfl
  by_cases h4:ts[s.1].kind=4
  .rw[decide_eq_true h4,Bool.true_or,TK];simp -dsimp only[aw,seval,hio,hio2,decide_eq_true he,d1,TN hl,bG,di,decide_eq_false h2,decide_eq_true h4];exact ak hb rfl rfl
  .rw[decide_eq_false h4,decide_eq_false h2,Bool.false_or,TL];simp -dsimp only[aw,seval,hio,hio2,decide_eq_true he,d1,TN hl,bG,di,decide_eq_false h2,decide_eq_false h4];exact ak hb rfl rfl
 .have d1:decide (((ts.length:Nat):Int)≤((s.1:Nat):Int))=true:=decide_eq_true (by omega);rw[fH hl];simp -dsimp only[aw,seval,hio,decide_eq_true he,d1];exact ak hb rfl rfl
end
end Go.Proofs.YtnhphlmblenapaaGreatDoor
namespace Go.Proofs.YtnhphlmblenapaaGreatDoor
open Go.RowKit
section
variable {β : Type} (ts : List Tok)
abbrev upP(s:PS):PS:=(s.1+1,s.2.1,s.2.2)
def nxP(m:ByteArray)(s:PS):Bool:=decide (s.2.2=0)&&ax m ts s.1
def neP(m:ByteArray)(s:PS):PS:=if s.2.2=0 then(if ax m ts s.1=true then upP s else eN ts s)else s
def nmP(s:PS):ByteArray×PS:=match (if s.2.2=0 then bW (ts.drop s.1)else none)with
 | some p=>(p.1,upP s)
 | none=>(⟨#[]⟩,eN ts s)
def nuP(s:PS):Int×PS:=match (if s.2.2=0 then cB (ts.drop s.1)else none)with
 | some p=>(p.1,upP s)
 | none=>(0,eN ts s)
def fO(a:Nat):Ex×Int×Int:=if a≤ts.length then iP ts.length (ts.drop a)else(z0,0,1)
def lnX(s:PS)(at_ e:Int):Int:=if e=6 then zLs ts else if(e=5\/e=3)/\0≤at_/\at_<ts.length then(match ts[at_.toNat]? with|some t=>t.line|none=>0)else s.2.1
def exP(s:PS):Ex×PS:=if s.2.2=0 then(if(fO ts s.1).2.2=0 then((fO ts s.1).1,((fO ts s.1).2.1.toNat,s.2.1,0))else(z0,(s.1,lnX ts s (fO ts s.1).2.1 (fO ts s.1).2.2,(fO ts s.1).2.2)))else(z0,s)
def nmM(s:PS)(k:ByteArray->PS->β):β:=k (nmP ts s).1 (nmP ts s).2
def nuM(s:PS)(k:Int->PS->β):β:=k (nuP ts s).1 (nuP ts s).2
def exM(s:PS)(k:Ex->PS->β):β:=k (exP ts s).1 (exP ts s).2
def neM(m:ByteArray)(s:PS)(k:PS->β):β:=k (neP ts m s)
def opM(m:ByteArray)(s:PS)(y:PS->β)(n:β):β:=if nxP ts m s=true then y (upP s)else n
def clM{α:Type}(p:α×PS)(k:α->PS->β):β:=k p.1 p.2
end
abbrev OQ(α:Type):=Option (α×PS)
section
variable (ts : List Tok)
def tgP(s:PS):ByteArray×PS:=nmM ts s fun x s1=>opM ts (aa 91) s1 (fun s2=>nuM ts s2 fun n s3=>neM ts (aa 93) s3 fun s4=>(gX x n,s4)) (x,s1)
def tgL:Nat->List ByteArray->PS->OQ (List ByteArray)
 | 0,_,_=>none
 | n+1,l,s=>opM ts (aa 44) s (fun s1=>clM (tgP ts s1) fun x s2=>tgL n (l++[x]) s2) (some (l,s))
def xB(s:PS):OQ (List ByteArray):=clM (tgP ts s) fun x s1=>tgL ts (ts.length+2) [x] s1
def hiP(lo:Int)(s:PS):Int×PS:=opM ts (ba 46 46) s (fun s2=>nuM ts s2 fun hi s3=>(hi,s3)) (lo,s)
def eaB(s:PS):Bool×PS:=opM ts (ba 58 61) s (fun s3=>(true,s3)) (neM ts (ba 58 47) s fun s3=>(false,s3))
def wtP(s:PS):Wt×PS:=nuM ts s fun lo s1=>clM (hiP ts lo s1) fun hi s2=>clM (eaB ts s2) fun b s3=>nuM ts s3 fun w s4=>(⟨lo,hi,w,b⟩,s4)
def wtL:Nat->List Wt->PS->OQ (List Wt)
 | 0,_,_=>none
 | n+1,l,s=>clM (wtP ts s) fun w s1=>opM ts (aa 44) s1 (fun s2=>wtL n (l++[w]) s2) (some (l++[w],s1))
def Bv(s:PS):OQ It:=clM (tgP ts s) fun x s1=>neM ts (aa 123) s1 fun s2=>(wtL ts (ts.length+2) [] s2).bind fun p=>neM ts (aa 125) p.2 fun s4=>neM ts (aa 59) s4 fun s5=>some (.mk 3 exZ x ⟨#[]⟩ p.1 [] [] [] [],s5)
def Pm:ByteArray:=⟨#[98,101,102,111,114,101]⟩
def soP(s:PS):OQ It:=(xB ts s).bind fun p=>neM ts Pm p.2 fun s2=>(xB ts s2).bind fun q=>neM ts (aa 59) q.2 fun s4=>some (.mk 6 exZ ⟨#[]⟩ ⟨#[]⟩ [] [] [] p.1 q.1,s4)
def plP(k:Int)(s:PS):OQ It:=exM ts s fun e s1=>neM ts (aa 59) s1 fun s2=>some (.mk k e ⟨#[]⟩ ⟨#[]⟩ [] [] [] [] [],s2)
structure RecP where
 item:PS->OQ It
 rest:List It->PS->OQ (List It)
def bdP(R:RecP)(s:PS):OQ (List It):=neM ts (aa 123) s fun s1=>(R.rest [] s1).bind fun p=>neM ts (aa 125) p.2 fun s3=>some (p.1,s3)
def elP(R:RecP)(s:PS):OQ (List It):=opM ts tu s (fun s5=>bdP ts R s5) (some ([],s))
def ifP(R:RecP)(s:PS):OQ It:=neM ts (aa 40) s fun s1=>exM ts s1 fun e s2=>neM ts (aa 41) s2 fun s3=>(bdP ts R s3).bind fun p=>(elP ts R p.2).bind fun q=>some (.mk 4 e ⟨#[]⟩ ⟨#[]⟩ [] p.1 q.1 [] [],q.2)
def eaP(R:RecP)(s:PS):OQ It:=nmM ts s fun i s1=>neM ts inW s1 fun s2=>nmM ts s2 fun x s3=>(bdP ts R s3).bind fun p=>some (.mk 5 exZ x i [] p.1 [] [] [],p.2)
def stP(R:RecP):RecP where
 item s:=opM ts qf s (Bv ts) <| opM ts ifW s (ifP ts R) <| opM ts qx s (eaP ts R) <| opM ts mQ s (soP ts) <| opM ts mo s (plP ts 2) (plP ts 1 s)
 rest l s:=if s.2.2=0/\nxP ts (aa 125) s=false then(R.item s).bind fun p=>R.rest (l++[p.1]) p.2 else some (l,s)
def cI:Nat->RecP
 | 0=>⟨fun _=>none,fun _ _=>none⟩
 | n+1=>stP ts (cI n)
def zeP(s:PS):PS:=match (if s.2.2=0 then cB (ts.drop s.1)else none)with
 | some p=>if p.1=0 then eN ts s else s
 | none=>s
def arP(s:PS):Int×PS:=opM ts (aa 91) s (fun s1=>nuM ts (zeP ts s1) fun n s2=>neM ts (aa 93) s2 fun s3=>(n,s3)) (0,s)
def inP(m:Int)(s:PS):Int×PS:=if m=0 then neM ts (aa 61) s fun s5=>nuM ts s5 fun v s6=>(v,s6)else(0,s)
def flP(m:Int)(s:PS):Fl×PS:=nmM ts s fun x s1=>clM (arP ts s1) fun k s2=>neM ts (aa 58) s2 fun s3=>nuM ts s3 fun w s4=>clM (inP ts m s4) fun v s5=>neM ts (aa 59) s5 fun s6=>(⟨x,w,k,m,v⟩,s6)
def fsL:Nat->List Fl->PS->OQ (List Fl)
 | 0,_,_=>none
 | n+1,l,s=>
  let one:Int->PS->OQ (List Fl):=fun m s1=>clM (flP ts m s1) fun f s2=>fsL n (l++[f]) s2
  opM ts qA s (one 1) <| opM ts mS s (one 2) <| opM ts mO s (one 0) <| some (l,s)
def blL(N:Nat):Nat->List (ByteArray×List It)->PS->OQ (List (ByteArray×List It))
 | 0,_,_=>none
 | n+1,l,s=>opM ts cR s (fun s1=>nmM ts s1 fun x s2=>(bdP ts (cI ts N) s2).bind fun p=>blL N n (l++[(x,p.1)]) p.2) (some (l,s))
def paP(s:PS):ByteArray×PS:=opM ts li s (fun s3=>nmM ts s3 fun p s4=>(p,s4)) (⟨#[]⟩,s)
def klP(N:Nat)(s:PS):OQ Kl:=neM ts uo s fun s1=>nmM ts s1 fun x s2=>clM (paP ts s2) fun p s3=>neM ts (aa 123) s3 fun s4=>(fsL ts (ts.length+2) [] s4).bind fun q=>(blL ts N (ts.length+2) [] q.2).bind fun w=>neM ts (aa 125) w.2 fun s7=>some (⟨x,p,q.1,w.1⟩,s7)
end
section
variable {β : Type} {ts : List Tok} {s : PS} (h : s.2.2 ≠ 0)
include h
theorem JU{m:ByteArray}:nxP ts m s=false:=by unfold nxP;rw[decide_eq_false h,TL]
theorem vO:eN ts s=s:=if_neg h
theorem J7:nmP ts s=(⟨#[]⟩,s):=by unfold nmP;rw[if_neg h,vO h]
theorem K1:nuP ts s=(0,s):=by unfold nuP;rw[if_neg h,vO h]
theorem Ft:exP ts s=(z0,s):=if_neg h
theorem Ln{m:ByteArray}:neP ts m s=s:=if_neg h
theorem oa{k:ByteArray->PS->β}:nmM ts s k=k ⟨#[]⟩ s:=by unfold nmM;rw[J7 h]
theorem gI{k:Int->PS->β}:nuM ts s k=k 0 s:=by unfold nuM;rw[K1 h]
theorem Hn{k:Ex->PS->β}:exM ts s k=k z0 s:=by unfold exM;rw[Ft h]
theorem bw{m:ByteArray}{k:PS->β}:neM ts m s k=k s:=by unfold neM;rw[Ln h]
theorem eK{m:ByteArray}{y:PS->β}{n:β}:opM ts m s y n=n:=by unfold opM;rw[JU h];rfl
theorem JQ:(tgP ts s).2=s:=by unfold tgP;simp only[oa h,eK h]
theorem uF{n:Nat}{l:List ByteArray}:tgL ts (n+1) l s=some (l,s):=by unfold tgL;simp only[eK h]
theorem AB:∃v,xB ts s=some (v,s):=⟨_,by unfold xB;simp only[clM,JQ h,uF h];rfl⟩
theorem EO{lo:Int}:(hiP ts lo s)=(lo,s):=by unfold hiP;simp only[eK h]
theorem vn:eaB ts s=(false,s):=by unfold eaB;simp only[eK h,bw h]
theorem KU:(wtP ts s).2=s:=by unfold wtP;simp only[gI h,clM,EO h,vn h]
theorem Aq{n:Nat}{l:List Wt}:∃v,wtL ts (n+1) l s=some (v,s):=⟨_,by unfold wtL;simp only[clM,KU h,eK h];rfl⟩
theorem nQ{n:Nat}{l:List It}:(cI ts (n+1)).rest l s=some (l,s):=if_neg fun c=>h c.1
theorem qr{n:Nat}:bdP ts (cI ts (n+1)) s=some ([],s):=by unfold bdP;simp only[bw h,nQ h,TZ]
theorem Kz:arP ts s=(0,s):=by unfold arP;simp only[eK h]
theorem vw{m:Int}:inP ts m s=(0,s):=by
 unfold inP;split
 .simp only[bw h,gI h]
 .rfl
theorem pT{n:Nat}{l:List Fl}:fsL ts (n+1) l s=some (l,s):=by unfold fsL;simp only[eK h]
theorem qa{N n:Nat}{l:List (ByteArray×List It)}:blL ts N (n+1) l s=some (l,s):=by unfold blL;simp only[eK h]
theorem yN:paP ts s=(⟨#[]⟩,s):=by unfold paP;simp only[eK h]
end
end Go.Proofs.YtnhphlmblenapaaGreatDoor
