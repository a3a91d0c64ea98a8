import Derived.Test.YtnhphlmblenapaaGreatDoorRa6
set_option linter.unusedVariables false
set_option linter.unusedSimpArgs false
set_option linter.unusedSectionVars false
open Bool renaming false_eq_true->Sq,true_and->Ss,false_and->Su,and_eq_true->Sv
open List renaming getElem?_eq_getElem->Sw,getElem?_set_self->Sx,take_left->Sy,take_of_length_le->SA,mem_cons_of_mem->SB,length_drop->SC,getElem_mem->SD,length_set->SE,set_set->SF
open Nat renaming reduceEqDiff->SG,le_refl->SH,reduceAdd->SI
open Option renaming bind_some->SJ
namespace Go.Proofs.YtnhphlmblenapaaGreatDoor
open Go.RowKit
theorem u9{ts:List Tok}(H:TsV ts){a:Nat}(ha:a≤ts.length){n:Nat}{v:Ex}{s':RS}(h:cQ ts n (.E 1) (a,0)=some (v,s'))(σ:LLV):Fun G 193 [.d (.sl (ts.map dA)),.d (ab a)] σ (aN (.tup [vex v,.d (ab s'.1),.d (ab s'.2)]) σ):=by
 refine ae Tryz.func193 PA rfl fun hb hw=>?_;unfold Pi;simp -dsimp only[aw,seval];have hE:=A6 H n 1 (a,0) s' v (by omega) (by omega) h ha (σ++[zBs,rb ts a 0]) (σ.length+1) (by simp);refine aB hE fun o σ' ⟨g1,g2⟩=>?_
 have e:(σ++[zBs,rb ts a 0]).set (σ.length+1) (rb ts s'.1 s'.2)=σ++[zBs,rb ts s'.1 s'.2]:=by
  rw[List.set_append_right _ _ (by omega)];simp
 rw[e]at g2;subst g1;subst g2;unfold rb;simp -dsimp only[aw,seval,aP,ao];exact az hb (by simp[Id,aC,bY,aO,aw,seval]) (by simp[V.under,V.unders]) Sy ⟨rfl,rfl⟩
theorem rN{ts:List Tok}(H:TsV ts){a:Nat}(ha:a≤ts.length){n:Nat}{v:Ex}{s':RS}(h:cQ ts n (.E 1) (a,0)=some (v,s'))(hx:s'.2=0->bB v≤1200000/\bZ v≤1199999)(σ:LLV):
 Fun G 136 [.d (.sl (ts.map dA)),.d (ab a)] σ (aN (ij (if s'.2=0 then(if bz v=0 then(v,((s'.1:Nat):Int),0)else(z0,0,bz v))else(z0,((s'.1:Nat):Int),s'.2))) σ):=by
 have hS:=fun σ=>u9 H ha h σ;refine ae Tryz.func136 O8 rfl fun hb hw=>?_;have d0:decide (((a:Nat):Int)<0)=false:=decide_eq_false (by omega);have d1:decide (((ts.length:Nat):Int)<((a:Nat):Int))=false:=decide_eq_false (by omega);unfold Jw;simp -dsimp only[aw,seval,d0,d1];refine ac (hS _) ?_;by_cases he:s'.2=0
 case neg=>
  rw[if_neg he,gh];simp -dsimp only[aw,seval,ao,decide_eq_false he];exact az hb (by simp[wO,aC,bY,aO,z0,bq,aU,aG,aH,aw,seval]) (by simp[V.under,V.unders]) Sy ⟨rfl,rfl⟩
 obtain⟨h1,h2⟩:=hx he;have hv:=fun σ=>pC v h1 h2 σ;rw[ao]at hv;rw[if_pos he];simp -dsimp only[aw,seval,ao,decide_eq_true he];refine ac (hv _) ?_;by_cases h0:bz v=0
 .rw[if_pos h0,gh];simp -dsimp only[aw,seval,decide_eq_true h0];exact az hb (by simp[wO,aC,bY,aO,aw,seval]) (by simp[V.under,V.unders]) Sy ⟨rfl,rfl⟩
 .rw[if_neg h0,gh];simp -dsimp only[aw,seval,decide_eq_false h0];exact az hb (by simp[wO,aC,bY,aO,z0,bq,aU,aG,aH,aw,seval]) (by simp[V.under,V.unders]) Sy ⟨rfl,rfl⟩
def Ev(ts:List Tok)(k:RK)(s:RS)(x:Ex×RS):Prop:=∃n0,∀m,n0≤m->cQ ts m k s=some x
theorem cY{ts:List Tok}{k:RK}{s:RS}{x:Ex×RS}(n0:Nat)(h:∀m,n0≤m->stX ts (cQ ts m) k s=some x):Ev ts k s x:=
 ⟨n0+1,fun m hm=>by
   obtain⟨m,rfl⟩:∃q,m=q+1:=⟨m-1,by omega⟩
   exact h m (by omega)⟩
section
variable (ts : List Tok) (a : Nat) {c : Int} (hc : c ≠ 0)
include hc
theorem iB(m:ByteArray):isX ts m (a,c)=false:=by unfold isX;rw[decide_eq_false hc];rfl
theorem g7(m:ByteArray):cv ts m (a,c)=(a,c):=by unfold cv;exact if_neg hc
theorem DK:bU ts a c=(⟨#[]⟩,a,c):=by unfold bU;rw[if_neg hc,if_neg hc]
theorem I3(k:Nat):gH ts a c k=(0,false):=by unfold gH;exact if_neg hc
theorem wF(rec:RK->RS->Option (Ex×RS)):fJ ts rec (a,c)=some (.mk 2 0 ⟨#[]⟩ [],(a,c)):=by
 unfold fJ;have hk:m9 ts (a,c)=0:=if_neg hc;simp only[hk,iB ts a hc,DK ts a hc];simp
theorem uI(k:Nat)(x:Ex):Ev ts (.Lp k x) (a,c) (x,(a,c)):=cY 0 fun m _=>by
 simp only[stX,iB ts a hc,I3 ts a hc];simp
theorem IL:∀j k:Nat,k+j=14->1≤k->Ev ts (.E k) (a,c) (.mk 2 0 ⟨#[]⟩ [],(a,c))
 | 0,k,hk,_=>cY 0 fun m _=>by
  obtain rfl:k=14:=by omega
  simp only[stX,if_true];exact wF ts a hc _
 | 1,k,hk,_=>cY 0 fun m _=>by
  obtain rfl:k=13:=by omega
  simp only[stX,iB ts a hc,wF ts a hc];simp
 | j+2,k,hk,h1=>by
  obtain⟨n1,g1⟩:=IL (j+1) (k+1) (by omega) (by omega);obtain⟨n2,g2⟩:=uI ts a hc k (.mk 2 0 ⟨#[]⟩ []);refine cY (max n1 n2) fun m hm=>?_;have q1:=g1 m (by omega);have q2:=g2 m (by omega);simp only[stX];rw[if_neg (by omega),if_neg (by omega),q1];simp only[SJ,iB ts a hc];simp only[Sq,and_false,if_false];split
  .exact q2
  .rfl
theorem Kn(args:List Ex):Ev ts (.Rg args) (a,c) (aI 23 args,(a,c)):=cY 0 fun m _=>by
 simp only[stX];rw[if_neg hc]
end
section
variable {ts : List Tok} {s s1 s2 s3 : RS} {v v2 v3 : Ex} {x : Ex × RS}
theorem IP(h:Ev ts (.E 2) s (v,s1))(g:isX ts (aa 63) s1=false):Ev ts (.E 1) s (v,s1):=by
 obtain⟨n1,h⟩:=h;refine cY n1 fun m hm=>?_;simp only[stX,SI,SG,if_false];rw[h m hm];simp only[SJ,g,Sq,and_false,if_false,false_and,Nat.reduceLT]
theorem uz(h:Ev ts (.E 2) s (v,s1))(g:isX ts (aa 63) s1=true)(h2:Ev ts (.E 1) (upS s1) (v2,s2))(h3:Ev ts (.E 1) (cv ts (aa 58) s2) (v3,s3)):Ev ts (.E 1) s (aI 22 [v,v2,v3],s3):=by
 obtain⟨n1,h⟩:=h;obtain⟨n2,h2⟩:=h2;obtain⟨n3,h3⟩:=h3;refine cY (n1+n2+n3) fun m hm=>?_;simp only[stX,SI,SG,if_false];rw[h m (by omega)];simp only[SJ,g,and_true,if_true];rw[h2 m (by omega)];simp only[SJ];rw[h3 m (by omega)];rfl
theorem IC(h:Ev ts (.E 3) s (v,s1))(g:isX ts (aZ 61 62) s1=false):Ev ts (.E 2) s (v,s1):=by
 obtain⟨n1,h⟩:=h;refine cY n1 fun m hm=>?_;simp only[stX,SI,SG,if_false];rw[h m hm];simp only[SJ,g,Sq,and_false,if_false,false_and,Nat.lt_irrefl]
theorem DD(h:Ev ts (.E 3) s (v,s1))(g:isX ts (aZ 61 62) s1=true)(h2:Ev ts (.E 2) (upS s1) (v2,s2)):Ev ts (.E 2) s (aI 21 [v,v2],s2):=by
 obtain⟨n1,h⟩:=h;obtain⟨n2,h2⟩:=h2;refine cY (n1+n2) fun m hm=>?_;simp only[stX,SI,SG,if_false];rw[h m (by omega)];simp only[SJ,g,and_true,if_true,false_and,if_false];rw[h2 m (by omega)];rfl
theorem DF{k:Nat}(hk:3≤k)(hk2:k≤12)(h:Ev ts (.E (k+1)) s (v,s1))(h2:Ev ts (.Lp k v) s1 x):Ev ts (.E k) s x:=by
 obtain⟨n1,h⟩:=h;obtain⟨n2,h2⟩:=h2;refine cY (n1+n2) fun m hm=>?_;simp only[stX];rw[if_neg (by omega),if_neg (by omega),h m (by omega)];simp only[SJ];rw[if_neg (by omega),if_neg (by omega),if_pos (by omega)];exact h2 m (by omega)
theorem Kf{k:Nat}(g:¬(k=9/\isX ts cr s=true))(g2:(gH ts s.1 s.2 k).1=0):Ev ts (.Lp k v) s (v,s):=
 cY 0 fun m _=>by
  simp only[stX];rw[if_neg g,if_pos g2]
theorem FJ(g:isX ts cr s=true)(h:Ev ts (.In v) (upS s) (v2,s1))(h2:Ev ts (.Lp 9 v2) s1 x):Ev ts (.Lp 9 v) s x:=by
 obtain⟨n1,h⟩:=h;obtain⟨n2,h2⟩:=h2;refine cY (n1+n2) fun m hm=>?_;simp only[stX];rw[if_pos ⟨trivial,g⟩,h m (by omega)];exact h2 m (by omega)
theorem DN{k:Nat}{o:Int}{ex:Bool}(g:¬(k=9/\isX ts cr s=true))(g2:gH ts s.1 s.2 k=(o,ex))(ho:o≠0)(h:Ev ts (.E (k+1)) (upS s) (v2,s1))(h2:Ev ts (.Lp k (if ex then aI o [v2,v]else aI o [v,v2])) s1 x):Ev ts (.Lp k v) s x:=by
 obtain⟨n1,h⟩:=h;obtain⟨n2,h2⟩:=h2;refine cY (n1+n2) fun m hm=>?_;simp only[stX,g2];rw[if_neg g,if_neg ho,h m (by omega)];exact h2 m (by omega)
theorem E4(h:Ev ts (.Rg [v]) (cv ts (aa 123) s) (v2,s1)):Ev ts (.In v) s (v2,cv ts (aa 125) s1):=by
 obtain⟨n1,h⟩:=h;refine cY n1 fun m hm=>?_;simp only[stX];rw[h m hm];rfl
theorem zt{args:List Ex}(h0:s.2=0)(h:Ev ts (.E 1) s (v,s1))(h2:Ev ts (.E 1) (cv ts (aZ 46 46) s1) (v2,s2))(g:isX ts (aa 44) s2=true)(h3:Ev ts (.Rg (args++[v,v2])) (upS s2) x):Ev ts (.Rg args) s x:=by
 obtain⟨n1,h⟩:=h;obtain⟨n2,h2⟩:=h2;obtain⟨n3,h3⟩:=h3;refine cY (n1+n2+n3) fun m hm=>?_;simp only[stX];rw[if_pos h0,h m (by omega)];simp only[SJ];rw[h2 m (by omega)];simp only[SJ,g,if_true];exact h3 m (by omega)
theorem xu{args:List Ex}(h0:s.2=0)(h:Ev ts (.E 1) s (v,s1))(h2:Ev ts (.E 1) (cv ts (aZ 46 46) s1) (v2,s2))(g:isX ts (aa 44) s2=false):Ev ts (.Rg args) s (aI 23 (args++[v,v2]),s2):=by
 obtain⟨n1,h⟩:=h;obtain⟨n2,h2⟩:=h2;refine cY (n1+n2) fun m hm=>?_;simp only[stX];rw[if_pos h0,h m (by omega)];simp only[SJ];rw[h2 m (by omega)];simp only[SJ,g,Sq,if_false]
end
end Go.Proofs.YtnhphlmblenapaaGreatDoor
namespace Go.Proofs.YtnhphlmblenapaaGreatDoor
open Go.RowKit
def Rl(ts:List Tok)(K:RK)(a:Nat):PR->Prop
 | .out=>True
 | .ok v r=>∃b,a≤b/\b≤ts.length/\r=ts.drop b/\Ev ts K (a,0) (v,(b,0))
 | .bad c r=>∃v b,b≤ts.length/\r=ts.drop b/\c≠0/\Ev ts K (a,0) (v,(b,c))
theorem ct(ts:List Tok)(a:Nat):bV ts a≠0:=by unfold bV;split<;>decide
section
variable {ts : List Tok}
theorem lA(m:ByteArray)(b:Nat):isX ts m (b,0)=ax m ts b:=by unfold isX;simp
theorem gi{m:ByteArray}{b:Nat}(g:ax m ts b=true):cv ts m (b,0)=(b+1,0):=by unfold cv;rw[if_pos rfl,if_pos g]
theorem jw{m:ByteArray}{b:Nat}(g:ax m ts b=false):cv ts m (b,0)=(b,bV ts b):=by unfold cv;rw[if_pos rfl,if_neg (by rw[g];decide)]
theorem t8(b:Nat){c:Int}(hc:c≠0):Ev ts (.E 1) (b,c) (.mk 2 0 ⟨#[]⟩ [],(b,c)):=IL ts b hc 13 1 rfl (by omega)
variable (rec : PK -> List Tok -> PR) (hW : ∀ a, a ≤ ts.length -> Rl ts (.E 1) a (rec .W (ts.drop a)))
include hW
theorem R2(hI:∀a,a≤ts.length->Rl ts (.E 2) a (rec .I (ts.drop a)))(a:Nat)(ha:a≤ts.length):Rl ts (.E 1) a (bo rec .W (ts.drop a)):=by
 simp only[bo];have h:=hI a ha;cases hx:rec .I (ts.drop a)with
 | out=>trivial
 | bad c r=>
  rw[hx]at h;obtain⟨v,b,hb,hr,hc,he⟩:=h;exact⟨v,b,hb,hr,hc,IP he (iB ts b hc _)⟩
 | ok v r=>
  rw[hx]at h;obtain⟨b,hab,hb,rfl,he⟩:=h;simp only[PR.bind,aR];cases g:ax (aa 63) ts b with
  | false=>exact⟨b,hab,hb,rfl,IP he (by rw[lA];exact g)⟩
  | true=>
   have hu:=bw g;have g':isX ts (aa 63) (b,0)=true:=by rw[lA];exact g
   simp only[if_true];have h2:=hW (b+1) hu;cases hx2:rec .W (ts.drop (b+1))with
   | out=>trivial
   | bad c r=>
    rw[hx2]at h2;obtain⟨v2,b2,hb2,hr2,hc,he2⟩:=h2;exact⟨_,b2,hb2,hr2,hc,uz he g' he2 (by rw[g7 ts b2 hc];exact t8 b2 hc)⟩
   | ok v2 r2=>
    rw[hx2]at h2;obtain⟨b2,hab2,hb2,rfl,he2⟩:=h2;simp only[PR.bind,aR];cases g2:ax (aa 58) ts b2 with
    | false=>
     simp only[Sq,if_false];rw[dB ts b2 hb2];exact⟨_,b2,hb2,rfl,ct ts b2,uz he g' he2 (by rw[jw g2];exact t8 b2 (ct ts b2))⟩
    | true=>
     have hu2:=bw g2;simp only[if_true];have h3:=hW (b2+1) hu2;cases hx3:rec .W (ts.drop (b2+1))with
     | out=>trivial
     | bad c r=>
      rw[hx3]at h3;obtain⟨v3,b3,hb3,hr3,hc,he3⟩:=h3;exact⟨_,b3,hb3,hr3,hc,uz he g' he2 (by rw[gi g2];exact he3)⟩
     | ok v3 r3=>
      rw[hx3]at h3;obtain⟨b3,hab3,hb3,rfl,he3⟩:=h3;exact⟨b3,by omega,hb3,rfl,uz he g' he2 (by rw[gi g2];exact he3)⟩
omit hW in
theorem Qz(hI:∀a,a≤ts.length->Rl ts (.E 2) a (rec .I (ts.drop a)))(hL:∀a,a≤ts.length->Rl ts (.E 3) a (rec (.L 3) (ts.drop a)))(a:Nat)(ha:a≤ts.length):Rl ts (.E 2) a (bo rec .I (ts.drop a)):=by
 simp only[bo];have h:=hL a ha;cases hx:rec (.L 3) (ts.drop a)with
 | out=>trivial
 | bad c r=>
  rw[hx]at h;obtain⟨v,b,hb,hr,hc,he⟩:=h;exact⟨v,b,hb,hr,hc,IC he (iB ts b hc _)⟩
 | ok v r=>
  rw[hx]at h;obtain⟨b,hab,hb,rfl,he⟩:=h;simp only[PR.bind,aR];cases g:ax (aZ 61 62) ts b with
  | false=>exact⟨b,hab,hb,rfl,IC he (by rw[lA];exact g)⟩
  | true=>
   have hu:=bw g;have g':isX ts (aZ 61 62) (b,0)=true:=by rw[lA];exact g
   simp only[if_true];have h2:=hI (b+1) hu;cases hx2:rec .I (ts.drop (b+1))with
   | out=>trivial
   | bad c r=>
    rw[hx2]at h2;obtain⟨v2,b2,hb2,hr2,hc,he2⟩:=h2;exact⟨_,b2,hb2,hr2,hc,DD he g' he2⟩
   | ok v2 r2=>
    rw[hx2]at h2;obtain⟨b2,hab2,hb2,rfl,he2⟩:=h2;exact⟨b2,by omega,hb2,rfl,DD he g' he2⟩
omit hW in
theorem Px{k:Nat}(hk:3≤k)(hk2:k≤12)(hL:∀a,a≤ts.length->Rl ts (.E (k+1)) a (rec (.L (k+1)) (ts.drop a)))(hP:∀e a,a≤ts.length->Rl ts (.Lp k e) a (rec (.Lp k e) (ts.drop a)))(a:Nat)(ha:a≤ts.length):Rl ts (.E k) a (bo rec (.L k) (ts.drop a)):=by
 simp only[bo];rw[if_neg (by omega)];have h:=hL a ha;cases hx:rec (.L (k+1)) (ts.drop a)with
 | out=>trivial
 | bad c r=>
  rw[hx]at h;obtain⟨v,b,hb,hr,hc,he⟩:=h;exact⟨v,b,hb,hr,hc,DF hk hk2 he (uI ts b hc k v)⟩
 | ok v r=>
  rw[hx]at h;obtain⟨b,hab,hb,rfl,he⟩:=h;simp only[PR.bind];have h2:=hP v b hb;cases hx2:rec (.Lp k v) (ts.drop b)with
  | out=>trivial
  | bad c r=>
   rw[hx2]at h2;obtain⟨v2,b2,hb2,hr2,hc,he2⟩:=h2;exact⟨_,b2,hb2,hr2,hc,DF hk hk2 he he2⟩
  | ok v2 r2=>
   rw[hx2]at h2;obtain⟨b2,hab2,hb2,rfl,he2⟩:=h2;exact⟨b2,by omega,hb2,rfl,DF hk hk2 he he2⟩
omit hW in
theorem nX{k:Nat}{r r1:List Tok}{o:Int}:∀l:List (ByteArray×Int×Nat),iV l k r=some (o,r1)->∃m,acc m r=some r1/\(m,o,k)∈l
 | [],h=>by cases h
 | b::l,h=>by
  simp only[iV]at h;split at h
  .rename_i hk;split at h
   .rename_i r2 h2;cases h;exact⟨b.1,h2,by rw[<-hk];exact List.mem_cons_self⟩
   .obtain⟨m,g1,g2⟩:=nX l h;exact⟨m,g1,SB _ g2⟩
  .obtain⟨m,g1,g2⟩:=nX l h;exact⟨m,g1,SB _ g2⟩
omit hW in
theorem iP{m:ByteArray}{a:Nat}{r1:List Tok}(h:acc m (ts.drop a)=some r1):r1=ts.drop (a+1)/\a<ts.length:=by
 rw[aR]at h;split at h
 .rename_i g;cases h;exact⟨rfl,bw g⟩
 .cases h
omit hW in
theorem yj{k:Nat}{a:Nat}{o:Int}{ex:Bool}{r1:List Tok}(h:dG k (ts.drop a)=some (o,ex,r1)):r1=ts.drop (a+1)/\a<ts.length/\o≠0:=by
 unfold dG at h;split at h
 .rename_i o' r' hq;cases h;obtain⟨m,g1,g2⟩:=nX _ hq;have:=y9 _ g2;simp only at this;exact⟨(iP g1).1,(iP g1).2,by omega⟩
 .split at h
  .split at h
   .rename_i r' hq;cases h;exact⟨(iP hq).1,(iP hq).2,by decide⟩
   .split at h
    .rename_i r' hq;cases h;exact⟨(iP hq).1,(iP hq).2,by decide⟩
    .cases h
  .cases h
omit hW in
theorem Oy{k:Nat}(hk:3≤k)(hk2:k≤12)(hL:∀a,a≤ts.length->Rl ts (.E (k+1)) a (rec (.L (k+1)) (ts.drop a)))(hN:∀e a,a≤ts.length->Rl ts (.In e) a (rec (.In e) (ts.drop a)))(hP:∀e a,a≤ts.length->Rl ts (.Lp k e) a (rec (.Lp k e) (ts.drop a)))(e:Ex)(a:Nat)(ha:a≤ts.length):Rl ts (.Lp k e) a (bo rec (.Lp k e) (ts.drop a)):=by
 simp only[bo];by_cases h9:k=9/\ax cr ts a=true
 .obtain⟨rfl,g⟩:=h9;have hu:=bw g;have g':isX ts cr (a,0)=true:=by rw[lA];exact g
  rw[if_pos rfl,aR,if_pos g];simp only;have h2:=hN e (a+1) hu;cases hx:rec (.In e) (ts.drop (a+1))with
  | out=>trivial
  | bad c r=>
   rw[hx]at h2;obtain⟨v,b,hb,hr,hc,he⟩:=h2;exact⟨v,b,hb,hr,hc,FJ g' he (uI ts b hc 9 v)⟩
  | ok v r=>
   rw[hx]at h2;obtain⟨b,hab,hb,rfl,he⟩:=h2;simp only[PR.bind];have h3:=hP v b hb;cases hx3:rec (.Lp 9 v) (ts.drop b)with
   | out=>trivial
   | bad c r=>
    rw[hx3]at h3;obtain⟨v2,b2,hb2,hr2,hc,he2⟩:=h3;exact⟨_,b2,hb2,hr2,hc,FJ g' he he2⟩
   | ok v2 r2=>
    rw[hx3]at h3;obtain⟨b2,hab2,hb2,rfl,he2⟩:=h3;exact⟨b2,by omega,hb2,rfl,FJ g' he he2⟩
 have g9:¬(k=9/\isX ts cr (a,0)=true):=by rw[lA];exact h9
 have e0:(if k=9 then acc cr (ts.drop a)else none)=none:=by
  by_cases h:k=9
  .rw[if_pos h,aR,if_neg fun g=>h9 ⟨h,g⟩]
  .rw[if_neg h]
 rw[e0];simp only;cases ho:dG k (ts.drop a)with
 | none=>
  refine⟨a,SH _,ha,rfl,Kf g9 ?_⟩;unfold gH;rw[if_pos rfl,ho]
 | some p=>
  obtain⟨o,ex,r1⟩:=p;obtain⟨rfl,hu,hne⟩:=yj ho;have hS:gH ts a 0 k=(o,ex):=by unfold gH;rw[if_pos rfl,ho]
  simp only;have h2:=hL (a+1) hu;cases hx:rec (.L (k+1)) (ts.drop (a+1))with
  | out=>trivial
  | bad c r=>
   rw[hx]at h2;obtain⟨v,b,hb,hr,hc,he⟩:=h2;exact⟨_,b,hb,hr,hc,DN g9 hS hne he (uI ts b hc k _)⟩
  | ok v r=>
   rw[hx]at h2;obtain⟨b,hab,hb,rfl,he⟩:=h2;simp only[PR.bind];have h3:=hP (if ex=true then aI o [v,e]else aI o [e,v]) b hb;cases hx3:rec (.Lp k (if ex=true then aI o [v,e]else aI o [e,v])) (ts.drop b)with
   | out=>trivial
   | bad c r=>
    rw[hx3]at h3;obtain⟨v2,b2,hb2,hr2,hc,he2⟩:=h3;exact⟨_,b2,hb2,hr2,hc,DN g9 hS hne he he2⟩
   | ok v2 r2=>
    rw[hx3]at h3;obtain⟨b2,hab2,hb2,rfl,he2⟩:=h3;exact⟨b2,by omega,hb2,rfl,DN g9 hS hne he he2⟩
omit hW in
def Rp(ts:List Tok)(args:List Ex)(a:Nat):PR->Prop
 | .out=>True
 | .ok v r=>∃b s1,a≤b/\b≤ts.length/\r=ts.drop b/\Ev ts (.Rg args) (a,0) (v,s1)/\cv ts (aa 125) s1=(b,0)
 | .bad c r=>∃v b s1,b≤ts.length/\r=ts.drop b/\c≠0/\Ev ts (.Rg args) (a,0) (v,s1)/\cv ts (aa 125) s1=(b,c)
theorem MC(hP:∀l a,a≤ts.length->Rp ts l a (rec (.Ip l) (ts.drop a)))(args:List Ex)(a:Nat)(ha:a≤ts.length):Rp ts args a (bo rec (.Ip args) (ts.drop a)):=by
 simp only[bo];have h:=hW a ha
 have stop:∀{v v2:Ex} {s1:RS} {b:Nat} {c:Int},Ev ts (.E 1) (a,0) (v,s1)->Ev ts (.E 1) (cv ts (aZ 46 46) s1) (v2,(b,c))->c≠0->b≤ts.length->Rp ts args a (.bad c (ts.drop b)):=fun{v v2 s1 b c} h1 h2 hc hb=>
  ⟨_,b,_,hb,rfl,hc,xu rfl h1 h2 (iB ts b hc _),g7 ts b hc _⟩
 cases hx:rec .W (ts.drop a)with
 | out=>trivial
 | bad c r=>
  rw[hx]at h;obtain⟨v,b,hb,rfl,hc,he⟩:=h;exact stop he (by rw[g7 ts b hc];exact t8 b hc) hc hb
 | ok v r=>
  rw[hx]at h;obtain⟨b,hab,hb,rfl,he⟩:=h;simp only[PR.bind,aR];cases g:ax (aZ 46 46) ts b with
  | false=>
   simp only[Sq,if_false];rw[dB ts b hb];exact stop he (by rw[jw g];exact t8 b (ct ts b)) (ct ts b) hb
  | true=>
   have hu:=bw g;simp only[if_true];have h2:=hW (b+1) hu;cases hx2:rec .W (ts.drop (b+1))with
   | out=>trivial
   | bad c r=>
    rw[hx2]at h2;obtain⟨v2,b2,hb2,rfl,hc,he2⟩:=h2;exact stop he (by rw[gi g];exact he2) hc hb2
   | ok v2 r2=>
    rw[hx2]at h2;obtain⟨b2,hab2,hb2,rfl,he2⟩:=h2;have he2':Ev ts (.E 1) (cv ts (aZ 46 46) (b,0)) (v2,(b2,0)):=by rw[gi g];exact he2
    simp only[PR.bind,aR];cases g2:ax (aa 44) ts b2 with
    | true=>
     have hu2:=bw g2;have g2':isX ts (aa 44) (b2,0)=true:=by rw[lA];exact g2
     simp only[if_true];have h3:=hP (args++[v,v2]) (b2+1) hu2;cases hx3:rec (.Ip (args++[v,v2])) (ts.drop (b2+1))with
     | out=>trivial
     | bad c r=>
      rw[hx3]at h3;obtain⟨v3,b3,s3,hb3,hr3,hc,he3,hn3⟩:=h3;exact⟨v3,b3,s3,hb3,hr3,hc,zt rfl he he2' g2' he3,hn3⟩
     | ok v3 r3=>
      rw[hx3]at h3;obtain⟨b3,s3,hab3,hb3,hr3,he3,hn3⟩:=h3;exact⟨b3,s3,by omega,hb3,hr3,zt rfl he he2' g2' he3,hn3⟩
    | false=>
     have g2':isX ts (aa 44) (b2,0)=false:=by rw[lA];exact g2
     simp only[Sq,if_false];cases g3:ax (aa 125) ts b2 with
     | true=>
      simp only[if_true];exact⟨b2+1,_,by omega,bw g3,rfl,xu rfl he he2' g2',gi g3⟩
     | false=>
      simp only[Sq,if_false];rw[dB ts b2 hb2];exact⟨_,b2,_,hb2,rfl,ct ts b2,xu rfl he he2' g2',jw g3⟩
omit hW in
theorem L2(hP:∀l a,a≤ts.length->Rp ts l a (rec (.Ip l) (ts.drop a)))(e:Ex)(a:Nat)(ha:a≤ts.length):Rl ts (.In e) a (bo rec (.In e) (ts.drop a)):=by
 simp only[bo,aR];cases g:ax (aa 123) ts a with
 | false=>
  simp only[Sq,if_false];rw[dB ts a ha];have hr:=Kn ts a (ct ts a) [e];have:=E4 (s:=(a,0)) (by rw[jw g];exact hr);rw[g7 ts a (ct ts a)]at this;exact⟨_,a,ha,rfl,ct ts a,this⟩
 | true=>
  have hu:=bw g;simp only[if_true];have h3:=hP [e] (a+1) hu;cases hx3:rec (.Ip [e]) (ts.drop (a+1))with
  | out=>trivial
  | bad c r=>
   rw[hx3]at h3;obtain⟨v3,b3,s3,hb3,hr3,hc,he3,hn3⟩:=h3;have:=E4 (s:=(a,0)) (by rw[gi g];exact he3);rw[hn3]at this;exact⟨v3,b3,hb3,hr3,hc,this⟩
  | ok v3 r3=>
   rw[hx3]at h3;obtain⟨b3,s3,hab3,hb3,hr3,he3,hn3⟩:=h3;have:=E4 (s:=(a,0)) (by rw[gi g];exact he3);rw[hn3]at this;exact⟨b3,by omega,hb3,hr3,this⟩
end
end Go.Proofs.YtnhphlmblenapaaGreatDoor
namespace Go.Proofs.YtnhphlmblenapaaGreatDoor
open Go.RowKit
def EvP(ts:List Tok)(s:RS)(x:Ex×RS):Prop:=∃n0,∀m,n0≤m->fJ ts (cQ ts m) s=some x
def RlP(ts:List Tok)(a:Nat):PR->Prop
 | .out=>True
 | .ok v r=>∃b,a≤b/\b≤ts.length/\r=ts.drop b/\EvP ts (a,0) (v,(b,0))
 | .bad c r=>∃v b,b≤ts.length/\r=ts.drop b/\c≠0/\EvP ts (a,0) (v,(b,c))
section
variable {ts : List Tok} {s s1 : RS} {v : Ex}
theorem Gq{j:Nat}(hj:j<3)(c:UInt8)(hc:nl.drop j=(c,4+((j:Nat):Int))::nl.drop (j+1))(g:isX ts (aa c) s=true)(hno:∀p,p∈nl.take j->isX ts (aa p.1) s=false)(h:Ev ts (.E 13) (upS s) (v,s1)):Ev ts (.E 13) s (aI (4+((j:Nat):Int)) [v],s1):=by
 obtain⟨n0,h⟩:=h;refine cY n0 fun m hm=>?_;have hm:=h m hm;show Cg ts (cQ ts m) s nl=_
 have key:∀l:List (UInt8×Int),(∀p,p∈l->isX ts (aa p.1) s=false)->Cg ts (cQ ts m) s (l++(c,4+((j:Nat):Int))::nl.drop (j+1))=some (aI (4+((j:Nat):Int)) [v],s1):=by
  intro l hl
  induction l with
  | nil=>show(if _ then _ else _)=_;rw[if_pos g,hm];rfl
  | cons p l ih=>show(if _ then _ else _)=_;rw[if_neg (by rw[hl p (by simp)];decide)];exact ih fun q hq=>hl q (by simp[hq])
 have:=key _ hno;rw[<-hc,List.take_append_drop]at this;exact this
theorem Kq{x:Ex×RS}(h1:isX ts (aa 33) s=false)(h2:isX ts (aa 126) s=false)(h3:isX ts (aa 45) s=false)(h:EvP ts s x):Ev ts (.E 13) s x:=by
 obtain⟨n0,h⟩:=h;refine cY n0 fun m hm=>?_;simp only[stX,h1,h2,h3,SG,if_false,if_true,Sq];exact h m hm
variable (rec : PK -> List Tok -> PR)
theorem P8(hU:∀a,a≤ts.length->Rl ts (.E 13) a (rec .U (ts.drop a)))(hP:∀a,a≤ts.length->RlP ts a (rec .P (ts.drop a)))(a:Nat)(ha:a≤ts.length):Rl ts (.E 13) a (bo rec .U (ts.drop a)):=by
 have pre:∀(j:Nat) (c:UInt8),j<3->nl.drop j=(c,4+((j:Nat):Int))::nl.drop (j+1)->ax (aa c) ts a=true->(∀p,p∈nl.take j->ax (aa p.1) ts a=false)->Rl ts (.E 13) a ((rec .U (ts.drop (a+1))).bind fun x r2=>.ok (aI (4+((j:Nat):Int)) [x]) r2):=by
  intro j c hj hc g hno;have hu:=bw g;have h:=hU (a+1) hu;have st:=fun{v:Ex} {s1:RS} (he:Ev ts (.E 13) (a+1,0) (v,s1))=>Gq (s:=(a,0)) hj c hc (by rw[lA];exact g) (fun p hp=>by rw[lA];exact hno p hp) he;cases hx:rec .U (ts.drop (a+1))with
  | out=>trivial
  | bad c r=>
   rw[hx]at h;obtain⟨v,b,hb,hr,hc,he⟩:=h;exact⟨_,b,hb,hr,hc,st he⟩
  | ok v r=>
   rw[hx]at h;obtain⟨b,hab,hb,hr,he⟩:=h;exact⟨b,by omega,hb,hr,st he⟩
 simp only[bo,aR];cases g1:ax (aa 33) ts a with
 | true=>simp only[if_true];exact pre 0 33 (by omega) rfl g1 (fun p hp=>by simp at hp)
 | false=>
  simp only[Sq,if_false];cases g2:ax (aa 126) ts a with
  | true=>simp only[if_true];exact pre 1 126 (by omega) rfl g2 (fun p hp=>by simp[nl]at hp;subst hp;exact g1)
  | false=>
   simp only[Sq,if_false];cases g3:ax (aa 45) ts a with
   | true=>simp only[if_true];exact pre 2 45 (by omega) rfl g3 (fun p hp=>by simp[nl]at hp;rcases hp with rfl|rfl;exact g1;exact g2)
   | false=>
    simp only[Sq,if_false];have h:=hP a ha;have st:=fun{x:Ex×RS} (he:EvP ts (a,0) x)=>Kq (by rw[lA];exact g1) (by rw[lA];exact g2) (by rw[lA];exact g3) he;cases hx:rec .P (ts.drop a)with
    | out=>trivial
    | bad c r=>
     rw[hx]at h;obtain⟨v,b,hb,hr,hc,he⟩:=h;exact⟨v,b,hb,hr,hc,st he⟩
    | ok v r=>
     rw[hx]at h;obtain⟨b,hab,hb,hr,he⟩:=h;exact⟨b,hab,hb,hr,st he⟩
end
end Go.Proofs.YtnhphlmblenapaaGreatDoor
namespace Go.Proofs.YtnhphlmblenapaaGreatDoor
open Go.RowKit
section
variable {ts : List Tok} (H : TsV ts) (rec : PK -> List Tok -> PR) (hW : ∀ a, a ≤ ts.length -> Rl ts (.E 1) a (rec .W (ts.drop a)))
include H
theorem CW{a:Nat}{n:Int}{r:List Tok}(h:cH (ts.drop a)=some (n,r)):m9 ts (a,0)=3/\r=ts.drop (a+1)/\a<ts.length:=by
 have hl:=mN (ts:=ts) (a:=a) (by rw[h];rfl);rw[eO hl]at h;split at h
 .rename_i hk;cases h;refine⟨?_,rfl,hl⟩;unfold m9 gB;rw[if_pos rfl,Sw hl];exact hk.2
 .cases h
theorem wM{a:Nat}(h:cH (ts.drop a)=none):¬m9 ts (a,0)=3:=by
 unfold m9 gB;rw[if_pos rfl];by_cases hl:a<ts.length
 .rw[Sw hl];rw[eO hl,H.v _ (SD hl)]at h;intro hk;rw[if_pos ⟨rfl,hk⟩]at h;cases h
 .rw[List.getElem?_eq_none (by omega)];decide
theorem EU{m:ByteArray}{a:Nat}(g:ax m ts a=true):cH (ts.drop a)=none:=by
 have hl:=bw g;rw[nx hl,Sv,Sv,Bool.or_eq_true,decide_eq_true_eq,decide_eq_true_eq]at g;rw[eO hl,if_neg];intro hk;have:=hk.2;rcases g.2.1 with h|h<;>omega
include hW
theorem RR(a:Nat)(ha:a≤ts.length):RlP ts a (gK rec (ts.drop a)):=by
 unfold gK;rw[aR];cases g:ax (aa 40) ts a with
 | true=>
  have hu:=bw g;have hk:=wM H (EU H g)
  have st:∀{v:Ex} {s1:RS},Ev ts (.E 1) (a+1,0) (v,s1)->EvP ts (a,0) (v,cv ts (aa 41) s1):=fun{v s1} ⟨n0,h⟩=>⟨n0,fun m hm=>by
   unfold fJ;rw[if_neg hk,if_pos (by rw[lA];exact g),show upS (a,0)=(a+1,0)from rfl,h m hm];rfl⟩
  simp only[if_true];have h:=hW (a+1) hu;cases hx:rec .W (ts.drop (a+1))with
  | out=>trivial
  | bad c r=>
   rw[hx]at h;obtain⟨v,b,hb,hr,hc,he⟩:=h;have:=st he;rw[g7 ts b hc]at this;exact⟨v,b,hb,hr,hc,this⟩
  | ok v r=>
   rw[hx]at h;obtain⟨b,hab,hb,rfl,he⟩:=h;have:=st he;simp only[PR.bind,aR];cases g2:ax (aa 41) ts b with
   | true=>
    rw[gi g2]at this;simp only[if_true];exact⟨b+1,by omega,bw g2,rfl,this⟩
   | false=>
    rw[jw g2]at this;simp only[Sq,if_false];rw[dB ts b hb];exact⟨v,b,hb,rfl,ct ts b,this⟩
 | false=>
  have g':isX ts (aa 40) (a,0)=false:=by rw[lA];exact g
  simp only[Sq,if_false];cases hn:cH (ts.drop a)with
  | some p=>
   obtain⟨n,r1⟩:=p;obtain⟨hk,rfl,hl⟩:=CW H hn;simp only;have st:EvP ts (a,0) (.mk 1 (cA ts a 0).1 ⟨#[]⟩ [],(cA ts a 0).2):=⟨0,fun m _=>by unfold fJ;rw[if_pos hk]⟩
   have hS:cA ts a 0=if 65535<n then(0,a,3)else(n,a+1,0):=by unfold cA;rw[if_pos rfl,hn]
   rw[hS]at st;by_cases hbig:65535<n
   .rw[if_pos hbig]at st ⊢;exact⟨_,a,ha,rfl,by decide,st⟩
   .rw[if_neg hbig]at st ⊢;exact⟨a+1,by omega,hl,rfl,st⟩
  | none=>
   have hk:=wM H hn;simp only;cases hm:bT (ts.drop a)with
   | none=>
    simp only;rw[dB ts a ha];refine⟨.mk 2 0 ⟨#[]⟩ [],a,ha,rfl,ct ts a,0,fun m _=>?_⟩;have hS:bU ts a 0=(⟨#[]⟩,a,bV ts a):=by unfold bU;rw[if_pos rfl,hm,if_pos rfl]
    unfold fJ;rw[if_neg hk,if_neg (by rw[g'];decide)];simp only[hS,iB ts a (ct ts a)];simp
   | some p=>
    obtain⟨x,r1⟩:=p;have hl:=iW (ts:=ts) (a:=a) (by rw[hm];rfl)
    have hr1:r1=ts.drop (a+1):=by
     rw[fv hl]at hm;split at hm
     .cases hm;rfl
     .cases hm
    subst hr1;have hS:bU ts a 0=(x,a+1,0):=by unfold bU;rw[if_pos rfl,hm]
    have base:∀m,fJ ts (cQ ts m) (a,0)=(if x=lB/\isX ts (aa 40) (a+1,0)=true then some (.mk 24 0 (bU ts (a+2) 0).1 [],cv ts (aa 41) (bU ts (a+2) 0).2)
     else if x=gC/\isX ts (aa 40) (a+1,0)=true then(cQ ts m (.E 1) (a+2,0)).map fun p=>(aI 25 [p.1],cv ts (aa 41) p.2)
     else if isX ts (aa 91) (a+1,0)=true then(cQ ts m (.E 1) (a+2,0)).map fun p=>(.mk 3 0 x [p.1],cv ts (aa 93) p.2)
     else if isX ts (aa 64) (a+1,0)=true then some (.mk 2 0 (gJ x (cA ts (a+2) 0).1) [],(cA ts (a+2) 0).2)
     else some (.mk 2 0 x [],(a+1,0))):=fun m=>by
     unfold fJ;rw[if_neg hk,if_neg (by rw[g'];decide)];simp only[hS];rfl
    simp only[lA]at base;simp only[aR];by_cases c1:x=lB/\ax (aa 40) ts (a+1)=true
    .simp only[if_pos c1]at base;rw[if_pos c1.1,if_pos c1.2];have hu:=bw c1.2;simp only;cases hq:bT (ts.drop (a+1+1))with
     | none=>
      have hS2:bU ts (a+2) 0=(⟨#[]⟩,a+2,bV ts (a+2)):=by unfold bU;rw[if_pos rfl,hq,if_pos rfl]
      simp only[hS2,g7 ts (a+2) (ct ts _)]at base;simp only;rw[dB ts (a+1+1) hu];exact⟨_,a+2,hu,rfl,ct ts _,0,fun m _=>base m⟩
     | some p=>
      obtain⟨q,r2⟩:=p;obtain⟨hr2,hl2⟩:=wG H.ok hq;subst hr2;have hS2:bU ts (a+2) 0=(q,a+3,0):=by unfold bU;rw[if_pos rfl,hq]
      simp only[hS2]at base;simp only[aR];cases g3:ax (aa 41) ts (a+1+1+1)with
      | true=>
       simp only[gi (ts:=ts) (b:=a+3) g3]at base;simp only[if_true];exact⟨a+4,by omega,bw g3,rfl,0,fun m _=>base m⟩
      | false=>
       simp only[jw (ts:=ts) (b:=a+3) g3]at base;simp only[Sq,if_false];rw[dB ts _ hl2];exact⟨_,a+3,hl2,rfl,ct ts _,0,fun m _=>base m⟩
    simp only[if_neg c1]at base
    have e1:(if x=lB then(if ax (aa 40) ts (a+1)=true then some (ts.drop (a+1+1))else none)else none)=none:=by
     by_cases h:x=lB
     .rw[if_pos h,if_neg fun g=>c1 ⟨h,g⟩]
     .rw[if_neg h]
    rw[e1];simp only
    have sub:∀(f:Ex->Ex) (w:ByteArray),a+1+1≤ts.length->(∀m,fJ ts (cQ ts m) (a,0)=(cQ ts m (.E 1) (a+2,0)).map fun p=>(f p.1,cv ts w p.2))->RlP ts a ((rec .W (ts.drop (a+1+1))).bind fun e r3=>match acc w r3 with
     | some r4=>.ok (f e) r4
     | none=>eF r3):=by
     intro f w hu hb;have st:∀{v:Ex} {s1:RS},Ev ts (.E 1) (a+2,0) (v,s1)->EvP ts (a,0) (f v,cv ts w s1):=fun{v s1} ⟨n0,h⟩=>⟨n0,fun m hm=>by rw[hb m,h m hm];rfl⟩
     have h:=hW (a+1+1) hu;cases hx:rec .W (ts.drop (a+1+1))with
     | out=>trivial
     | bad c r=>
      rw[hx]at h;obtain⟨v,b,hb,hr,hc,he⟩:=h;have:=st he;rw[g7 ts b hc]at this;exact⟨_,b,hb,hr,hc,this⟩
     | ok v r=>
      rw[hx]at h;obtain⟨b,hab,hb,rfl,he⟩:=h;have:=st he;simp only[PR.bind,aR];cases g2:ax w ts b with
      | true=>
       rw[gi g2]at this;simp only[if_true];exact⟨b+1,by omega,bw g2,rfl,this⟩
      | false=>
       rw[jw g2]at this;simp only[Sq,if_false];rw[dB ts b hb];exact⟨_,b,hb,rfl,ct ts b,this⟩
    by_cases c2:x=gC/\ax (aa 40) ts (a+1)=true
    .simp only[if_pos c2]at base;rw[if_pos c2.1,if_pos c2.2];exact sub (fun e=>aI 25 [e]) (aa 41) (bw c2.2) base
    simp only[if_neg c2]at base
    have e2:(if x=gC then(if ax (aa 40) ts (a+1)=true then some (ts.drop (a+1+1))else none)else none)=none:=by
     by_cases h:x=gC
     .rw[if_pos h,if_neg fun g=>c2 ⟨h,g⟩]
     .rw[if_neg h]
    rw[e2];simp only;by_cases c3:ax (aa 91) ts (a+1)=true
    .simp only[if_pos c3]at base;rw[if_pos c3];exact sub (fun e=>.mk 3 0 x [e]) (aa 93) (bw c3) base
    simp only[if_neg c3]at base;rw[if_neg c3];simp only;by_cases c4:ax (aa 64) ts (a+1)=true
    .simp only[if_pos c4]at base;rw[if_pos c4];have hu:=bw c4;simp only;cases hq:cH (ts.drop (a+1+1))with
     | none=>
      have hS2:cA ts (a+2) 0=(0,a+2,bV ts (a+2)):=by unfold cA;rw[if_pos rfl,hq,if_pos rfl]
      simp only[hS2]at base;simp only;rw[dB ts (a+1+1) hu];exact⟨_,a+2,hu,rfl,ct ts _,0,fun m _=>base m⟩
     | some p=>
      obtain⟨q,r2⟩:=p;obtain⟨hr2,hl2⟩:=zp H.ok hq;subst hr2;have hS2:cA ts (a+2) 0=if 65535<q then(0,a+2,3)else(q,a+3,0):=by unfold cA;rw[if_pos rfl,hq]
      simp only;by_cases hbig:65535<q
      .rw[if_pos hbig]at hS2 ⊢;simp only[hS2]at base;exact⟨_,a+2,hu,rfl,by decide,0,fun m _=>base m⟩
      .rw[if_neg hbig]at hS2 ⊢;simp only[hS2]at base;exact⟨a+3,by omega,hl2,rfl,0,fun m _=>base m⟩
    simp only[if_neg c4]at base;rw[if_neg c4];exact⟨a+1,by omega,hl,rfl,0,fun m _=>base m⟩
end
end Go.Proofs.YtnhphlmblenapaaGreatDoor
namespace Go.Proofs.YtnhphlmblenapaaGreatDoor
open Go.RowKit
def RM(ts:List Tok)(K:PK)(a:Nat)(x:PR):Prop:=match K with
 | .W=>Rl ts (.E 1) a x
 | .I=>Rl ts (.E 2) a x
 | .L k=>3≤k->k≤13->Rl ts (.E k) a x
 | .Lp k e=>3≤k->k≤12->Rl ts (.Lp k e) a x
 | .In e=>Rl ts (.In e) a x
 | .Ip l=>Rp ts l a x
 | .U=>Rl ts (.E 13) a x
 | .P=>RlP ts a x
theorem EX{ts:List Tok}(H:TsV ts):∀(n:Nat) (K:PK) (a:Nat),a≤ts.length->RM ts K a (fG n K (ts.drop a))
 | 0,K,a,_=>by
  cases K with
  | L k=>exact fun _ _=>trivial
  | Lp k e=>exact fun _ _=>trivial
  | _=>trivial
 | n+1,K,a,ha=>by
  have ih:=EX H n;have hW:∀a,a≤ts.length->Rl ts (.E 1) a (fG n .W (ts.drop a)):=fun a h=>ih .W a h;cases K with
  | W=>exact R2 _ hW (fun a h=>ih .I a h) a ha
  | I=>exact Qz _ (fun a h=>ih .I a h) (fun a h=>ih (.L 3) a h (by omega) (by omega)) a ha
  | L k=>
   intro h1 h2;by_cases hk:k=13
   .subst hk;exact ih .U a ha
   .exact Px _ h1 (by omega) (fun a h=>ih (.L (k+1)) a h (by omega) (by omega)) (fun e a h=>ih (.Lp k e) a h h1 (by omega)) a ha
  | Lp k e=>
   intro h1 h2;exact Oy _ h1 h2 (fun a h=>ih (.L (k+1)) a h (by omega) (by omega)) (fun e a h=>ih (.In e) a h) (fun e a h=>ih (.Lp k e) a h h1 h2) e a ha
  | In e=>exact L2 _ (fun l a h=>ih (.Ip l) a h) e a ha
  | Ip l=>exact MC _ hW (fun l a h=>ih (.Ip l) a h) l a ha
  | U=>exact P8 _ (fun a h=>ih .U a h) (fun a h=>ih .P a h) a ha
  | P=>exact RR H _ hW a ha
theorem CD{ts:List Tok}(H:TsV ts){a:Nat}(ha:a≤ts.length):Rl ts (.E 1) a (par .W (ts.drop a)):=EX H _ .W a ha
theorem D9{ts:List Tok}(H:TsV ts)(h9:ts.length≤1100000){a:Nat}(ha:a≤ts.length)(σ:LLV):Fun G 136 [.d (.sl (ts.map dA)),.d (ab a)] σ (aN (ij (iG ts.length (ts.drop a))) σ):=by
 have hL:=H.ok.len;have h:=CD H ha;have dl:∀b,b≤ts.length->ts.length-(ts.drop b).length=b:=fun b hb=>by rw[SC];omega
 unfold iG;cases hx:par .W (ts.drop a)with
 | out=>exact absurd hx (fA _ _)
 | bad c r=>
  rw[hx]at h;obtain⟨v,b,hb,rfl,hc,n0,he⟩:=h;have:=rN H ha (he n0 (SH _)) (fun e=>absurd e hc) σ;rw[if_neg hc]at this;simp only[dl b hb];exact this
 | ok v r=>
  have hsz:=uO hx;rw[SC]at hsz;rw[hx]at h;obtain⟨b,hab,hb,rfl,n0,he⟩:=h;have:=rN H ha (he n0 (SH _)) (fun _=>⟨by omega,by have:=no v;omega⟩) σ;rw[if_pos rfl]at this;simp only[dl b hb];exact this
abbrev PS:=Nat×Int×Int
def rp(ts:List Tok)(s:PS):List V:=[.d (.sl (ts.map dA)),.d (ab s.1),.d (ab s.2.1),.d (ab s.2.2)]
def ik(ts:List Tok)(s:PS):PS:=if s.2.2=0 then(s.1,lnA ts s.1,bV ts s.1)else s
section
variable {ts : List Tok} {i : Nat} {s : PS} (H : TsV ts) (σ : LLV) (hi : σ[i]? = some (rp ts s))
include H hi
theorem rI:Fun G 89 [.ptr i 0] σ (aN (.d (ab (zLs ts))) σ):=by
 have hL:=H.ok.len;refine ae Tryz.func89 k89 rfl fun hb hw=>?_;unfold c89;have hio:=hi;unfold rp at hio;by_cases h0:ts.length=0
 .have:ts=[]:=List.eq_nil_of_length_eq_zero h0;subst this;simp only[List.map_nil]at hio;have dz:decide (((0:Nat):Int)=0)=true:=rfl;simp -dsimp only[aw,seval,hio,List.length_nil,dz];first|exact al hb rfl rfl|exact am hb rfl rfl
 .have d0:decide (((ts.length:Nat):Int)=0)=false:=decide_eq_false (by omega);have hw1:IntKind.i64.wrap (((ts.length:Nat):Int)-1)=((ts.length-1:Nat):Int):=by rw[aA (by omega) (by omega)];omega
  have hlt:ts.length-1<ts.length:=by omega
  rw[Iv hlt];simp -dsimp only[aw,seval,hio,d0,hw1,Sw hlt,bM,dA];first|exact al hb rfl rfl|exact am hb rfl rfl
theorem io:Fun G 39 [.ptr i 0] σ fun o σ'=>o=.ret (.tup [])/\σ'=σ.set i (rp ts (ik ts s)):=by
 have hlt:=(List.getElem?_eq_some_iff.1 hi).1;refine ae Tryz.func39 k39 rfl fun hb hw=>?_;unfold c39 ik;have hio:=hi;unfold rp at hio
 have done:∀(s':PS) (ρ:ai) rs,aC (σ.set i (rp ts s')) ρ rs=some (.tup [])->fin σ.length rs (fun o σ'=>o=.ret (.tup [])/\σ'=σ.set i (rp ts s')) .ret ρ (σ.set i (rp ts s')):=fun s' ρ rs h=>
  bp (bt hb rfl) h rfl (by rw[SA (by rw[SE];exact SH _)]) ⟨rfl,rfl⟩
 have donee:∀(s':PS) (ρ:ai) rs,aC (σ.set i (rp ts s')) ρ rs=some (.tup [])->fin σ.length rs (fun o σ'=>o=.ret (.tup [])/\σ'=σ.set i (rp ts s')) .normal ρ (σ.set i (rp ts s')):=fun s' ρ rs h=>
  pB (bt hb rfl) h rfl (by rw[SA (by rw[SE];exact SH _)]) ⟨rfl,rfl⟩
 by_cases he:s.2.2=0
 case neg=>
  rw[if_neg he,oc hi];simp -dsimp only[aw,seval,hio,decide_eq_false he];exact az hb rfl rfl List.take_length ⟨rfl,rfl⟩
 rw[if_pos he];by_cases hl:s.1<ts.length
 .have d1:decide (((ts.length:Nat):Int)≤((s.1:Nat):Int))=false:=decide_eq_false (by omega);have e1:lnA ts s.1=ts[s.1].line:=by unfold lnA;rw[List.drop_eq_getElem_cons hl];rfl
  have e2:bV ts s.1=5:=if_pos hl;rw[e1,e2];simp -dsimp only[aw,seval,hio,decide_eq_true he,d1,Sx hlt,SF,Sw hl,bM,dA];exact donee (s.1,ts[s.1].line,5) _ _ rfl
 .have d1:decide (((ts.length:Nat):Int)≤((s.1:Nat):Int))=true:=decide_eq_true (by omega);have e1:lnA ts s.1=zLs ts:=by unfold lnA;rw[List.drop_eq_nil_of_le (by omega)];rfl
  have e2:bV ts s.1=6:=if_neg hl;rw[e1,e2];have hla:=rI (i:=i) (s:=(s.1,s.2.1,6)) H (σ.set i (rp ts (s.1,s.2.1,6))) (Sx hlt);unfold rp at hla;simp -dsimp only[aw,seval,hio,decide_eq_true he,d1];refine ac hla ?_;simp -dsimp only[aw,seval,hio,Sx hlt,SF];exact done (s.1,zLs ts,6) _ _ rfl
theorem qJ(m:ByteArray):Fun G 133 [.ptr i 0,.d (aj m)] σ (aN (an (decide (s.2.2=0)&&ax m ts s.1)) σ):=by
 refine ae Tryz.func133 RI rfl fun hb hw=>?_;unfold Po;have hio:=hi;unfold rp at hio;have hio2:=fun l=>ah hio l;by_cases he:s.2.2=0
 case neg=>
  rw[decide_eq_false he,Su];simp -dsimp only[aw,seval,hio,decide_eq_false he];first|exact al hb rfl rfl|exact am hb rfl rfl
 rw[decide_eq_true he,Ss];by_cases hl:s.1<ts.length
 .have d1:decide (((ts.length:Nat):Int)≤((s.1:Nat):Int))=false:=decide_eq_false (by omega);rw[nx hl,H.v _ (SD hl),Ss];by_cases h2:ts[s.1].kind=2
  .rw[decide_eq_true h2,Bool.or_true,Ss];simp -dsimp only[aw,seval,hio,hio2,decide_eq_true he,d1,Sw hl,bM,dA,decide_eq_true h2];first|exact al hb rfl rfl|exact am hb rfl rfl
  by_cases h4:ts[s.1].kind=4
  .rw[decide_eq_true h4,Bool.true_or,Ss];simp -dsimp only[aw,seval,hio,hio2,decide_eq_true he,d1,Sw hl,bM,dA,decide_eq_false h2,decide_eq_true h4];first|exact al hb rfl rfl|exact am hb rfl rfl
  .rw[decide_eq_false h4,decide_eq_false h2,Bool.false_or,Su];simp -dsimp only[aw,seval,hio,hio2,decide_eq_true he,d1,Sw hl,bM,dA,decide_eq_false h2,decide_eq_false h4];first|exact al hb rfl rfl|exact am hb rfl rfl
 .have d1:decide (((ts.length:Nat):Int)≤((s.1:Nat):Int))=true:=decide_eq_true (by omega);rw[fk hl];simp -dsimp only[aw,seval,hio,decide_eq_true he,d1];first|exact al hb rfl rfl|exact am hb rfl rfl
end
end Go.Proofs.YtnhphlmblenapaaGreatDoor
namespace Go.Proofs.YtnhphlmblenapaaGreatDoor
open Go.RowKit
section
variable {β : Type} (ts : List Tok)
abbrev upP(s:PS):PS:=(s.1+1,s.2.1,s.2.2)
def nxP(m:ByteArray)(s:PS):Bool:=decide (s.2.2=0)&&ax m ts s.1
def neP(m:ByteArray)(s:PS):PS:=if s.2.2=0 then(if ax m ts s.1=true then upP s else ik ts s)else s
def nmP(s:PS):ByteArray×PS:=match (if s.2.2=0 then bT (ts.drop s.1)else none)with
 | some p=>(p.1,upP s)
 | none=>(⟨#[]⟩,ik ts s)
def nuP(s:PS):Int×PS:=match (if s.2.2=0 then cH (ts.drop s.1)else none)with
 | some p=>(p.1,upP s)
 | none=>(0,ik ts s)
def fE(a:Nat):Ex×Int×Int:=if a≤ts.length then iG ts.length (ts.drop a)else(z0,0,1)
def lnX(s:PS)(at_ e:Int):Int:=if e=6 then zLs ts else if(e=5\/e=3)/\0≤at_/\at_<ts.length then(match ts[at_.toNat]? with|some t=>t.line|none=>0)else s.2.1
def exP(s:PS):Ex×PS:=if s.2.2=0 then(if(fE ts s.1).2.2=0 then((fE ts s.1).1,((fE ts s.1).2.1.toNat,s.2.1,0))else(z0,(s.1,lnX ts s (fE ts s.1).2.1 (fE ts s.1).2.2,(fE ts s.1).2.2)))else(z0,s)
def nmM(s:PS)(k:ByteArray->PS->β):β:=k (nmP ts s).1 (nmP ts s).2
def nuM(s:PS)(k:Int->PS->β):β:=k (nuP ts s).1 (nuP ts s).2
def exM(s:PS)(k:Ex->PS->β):β:=k (exP ts s).1 (exP ts s).2
def neM(m:ByteArray)(s:PS)(k:PS->β):β:=k (neP ts m s)
def opM(m:ByteArray)(s:PS)(y:PS->β)(n:β):β:=if nxP ts m s=true then y (upP s)else n
def clM{α:Type}(p:α×PS)(k:α->PS->β):β:=k p.1 p.2
end
abbrev OQ(α:Type):=Option (α×PS)
section
variable (ts : List Tok)
def tgP(s:PS):ByteArray×PS:=nmM ts s fun x s1=>opM ts (aa 91) s1 (fun s2=>nuM ts s2 fun n s3=>neM ts (aa 93) s3 fun s4=>(gJ x n,s4)) (x,s1)
def tgL:Nat->List ByteArray->PS->OQ (List ByteArray)
 | 0,_,_=>none
 | n+1,l,s=>opM ts (aa 44) s (fun s1=>clM (tgP ts s1) fun x s2=>tgL n (l++[x]) s2) (some (l,s))
def wo(s:PS):OQ (List ByteArray):=clM (tgP ts s) fun x s1=>tgL ts (ts.length+2) [x] s1
def hiP(lo:Int)(s:PS):Int×PS:=opM ts (aZ 46 46) s (fun s2=>nuM ts s2 fun hi s3=>(hi,s3)) (lo,s)
def eaB(s:PS):Bool×PS:=opM ts (aZ 58 61) s (fun s3=>(true,s3)) (neM ts (aZ 58 47) s fun s3=>(false,s3))
def wtP(s:PS):Wt×PS:=nuM ts s fun lo s1=>clM (hiP ts lo s1) fun hi s2=>clM (eaB ts s2) fun b s3=>nuM ts s3 fun w s4=>(⟨lo,hi,w,b⟩,s4)
def wtL:Nat->List Wt->PS->OQ (List Wt)
 | 0,_,_=>none
 | n+1,l,s=>clM (wtP ts s) fun w s1=>opM ts (aa 44) s1 (fun s2=>wtL n (l++[w]) s2) (some (l++[w],s1))
def Ai(s:PS):OQ It:=clM (tgP ts s) fun x s1=>neM ts (aa 123) s1 fun s2=>(wtL ts (ts.length+2) [] s2).bind fun p=>neM ts (aa 125) p.2 fun s4=>neM ts (aa 59) s4 fun s5=>some (.mk 3 exZ x ⟨#[]⟩ p.1 [] [] [] [],s5)
def ML:ByteArray:=⟨#[98,101,102,111,114,101]⟩
def soP(s:PS):OQ It:=(wo ts s).bind fun p=>neM ts ML p.2 fun s2=>(wo ts s2).bind fun q=>neM ts (aa 59) q.2 fun s4=>some (.mk 6 exZ ⟨#[]⟩ ⟨#[]⟩ [] [] [] p.1 q.1,s4)
def plP(k:Int)(s:PS):OQ It:=exM ts s fun e s1=>neM ts (aa 59) s1 fun s2=>some (.mk k e ⟨#[]⟩ ⟨#[]⟩ [] [] [] [] [],s2)
structure RecP where
 item:PS->OQ It
 rest:List It->PS->OQ (List It)
def bdP(R:RecP)(s:PS):OQ (List It):=neM ts (aa 123) s fun s1=>(R.rest [] s1).bind fun p=>neM ts (aa 125) p.2 fun s3=>some (p.1,s3)
def elP(R:RecP)(s:PS):OQ (List It):=opM ts sM s (fun s5=>bdP ts R s5) (some ([],s))
def ifP(R:RecP)(s:PS):OQ It:=neM ts (aa 40) s fun s1=>exM ts s1 fun e s2=>neM ts (aa 41) s2 fun s3=>(bdP ts R s3).bind fun p=>(elP ts R p.2).bind fun q=>some (.mk 4 e ⟨#[]⟩ ⟨#[]⟩ [] p.1 q.1 [] [],q.2)
def eaP(R:RecP)(s:PS):OQ It:=nmM ts s fun i s1=>neM ts inW s1 fun s2=>nmM ts s2 fun x s3=>(bdP ts R s3).bind fun p=>some (.mk 5 exZ x i [] p.1 [] [] [],p.2)
def stP(R:RecP):RecP where
 item s:=opM ts qP s (Ai ts) <| opM ts ifW s (ifP ts R) <| opM ts qf s (eaP ts R) <| opM ts mi s (soP ts) <| opM ts lK s (plP ts 2) (plP ts 1 s)
 rest l s:=if s.2.2=0/\nxP ts (aa 125) s=false then(R.item s).bind fun p=>R.rest (l++[p.1]) p.2 else some (l,s)
def cO:Nat->RecP
 | 0=>⟨fun _=>none,fun _ _=>none⟩
 | n+1=>stP ts (cO n)
def itL(N:Nat):Nat->List It->PS->OQ (List It)
 | 0,_,_=>none
 | n+1,l,s=>if s.2.2=0/\s.1<ts.length then((cO ts N).item s).bind fun p=>itL N n (l++[p.1]) p.2 else some (l,s)
end
section
variable {β : Type} {ts : List Tok} {s : PS} (h : s.2.2 ≠ 0)
include h
theorem JX{m:ByteArray}:nxP ts m s=false:=by unfold nxP;rw[decide_eq_false h,Su]
theorem vQ:ik ts s=s:=if_neg h
theorem JB:nmP ts s=(⟨#[]⟩,s):=by unfold nmP;rw[if_neg h,vQ h]
theorem Kj:nuP ts s=(0,s):=by unfold nuP;rw[if_neg h,vQ h]
theorem DI:exP ts s=(z0,s):=if_neg h
theorem Kr{m:ByteArray}:neP ts m s=s:=if_neg h
theorem uH{k:ByteArray->PS->β}:nmM ts s k=k ⟨#[]⟩ s:=by unfold nmM;rw[JB h]
theorem o8{k:Int->PS->β}:nuM ts s k=k 0 s:=by unfold nuM;rw[Kj h]
theorem Ib{k:Ex->PS->β}:exM ts s k=k z0 s:=by unfold exM;rw[DI h]
theorem cz{m:ByteArray}{k:PS->β}:neM ts m s k=k s:=by unfold neM;rw[Kr h]
theorem gO{m:ByteArray}{y:PS->β}{n:β}:opM ts m s y n=n:=by unfold opM;rw[JX h];rfl
theorem Je:(tgP ts s).2=s:=by unfold tgP;simp only[uH h,gO h]
theorem ti{n:Nat}{l:List ByteArray}:tgL ts (n+1) l s=some (l,s):=by unfold tgL;simp only[gO h]
theorem zo:∃v,wo ts s=some (v,s):=⟨_,by unfold wo;simp only[clM,Je h,ti h];rfl⟩
theorem Ep{lo:Int}:(hiP ts lo s)=(lo,s):=by unfold hiP;simp only[gO h]
theorem uq:eaB ts s=(false,s):=by unfold eaB;simp only[gO h,cz h]
theorem Ks:(wtP ts s).2=s:=by unfold wtP;simp only[o8 h,clM,Ep h,uq h]
theorem zi{n:Nat}{l:List Wt}:∃v,wtL ts (n+1) l s=some (v,s):=⟨_,by unfold wtL;simp only[clM,Ks h,gO h];rfl⟩
theorem pI{n:Nat}{l:List It}:(cO ts (n+1)).rest l s=some (l,s):=if_neg fun c=>h c.1
theorem tF{n:Nat}:bdP ts (cO ts (n+1)) s=some ([],s):=by unfold bdP;simp only[cz h,pI h,SJ]
end
end Go.Proofs.YtnhphlmblenapaaGreatDoor
