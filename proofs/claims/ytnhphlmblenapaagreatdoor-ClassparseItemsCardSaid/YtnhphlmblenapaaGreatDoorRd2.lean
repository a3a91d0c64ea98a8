import Derived.Test.YtnhphlmblenapaaGreatDoorRd1
set_option linter.unusedVariables false
set_option linter.unusedSimpArgs false
set_option linter.unusedSectionVars false
set_option maxHeartbeats 4000000
open Bool renaming true_and->Sq,false_eq_true->Ss,not_false->Su,not_true->Sv
open ByteArray renaming size_append->Sw
open Int renaming toNat_natCast->Sx,reduceEq->Sy,le_refl->SA,natCast_nonneg->SB
open List renaming getElem?_eq_getElem->SC,length_set->SD,append_nil->SE,getElem?_set_self->SF,length_drop->SG,drop_eq_getElem_cons->SH,set_set->SI
open Nat renaming add_sub_cancel_left->SJ,zero_le->SK
open Option renaming bind_some->SL,map_some->SM
namespace Go.Proofs.YtnhphlmblenapaaGreatDoor
open Go.RowKit
structure Sp(σ0:LLV)(i:Nat)(ts:List Tok)(s:PS)(σ:LLV):Prop where
 eq:σ=σ0.set i (rp ts s)
 below:ak σ0.length σ0=true
 lt:i<σ0.length
def RP(v:V)(σ:LLV)(i:Nat)(ts:List Tok)(s:PS):Out->LLV->Prop:=fun o σ'=>o=.ret v/\σ'=σ.set i (rp ts s)
section
variable {σ0 σ : LLV} {i : Nat} {ts : List Tok} {s : PS}
theorem Sp.init(hi:σ[i]? = some (rp ts s))(hb:ak σ.length σ=true):Sp σ i ts s σ:=⟨(oc hi).symm,hb,(List.getElem?_eq_some_iff.1 hi).1⟩
theorem Sp.len(S:Sp σ0 i ts s σ):σ.length=σ0.length:=by rw[S.eq,SD]
theorem Sp.at_(S:Sp σ0 i ts s σ):σ[i]? = some (rp ts s):=by rw[S.eq,SF S.lt]
theorem Sp.bb(S:Sp σ0 i ts s σ):ak σ.length σ=true:=by rw[S.len,S.eq];exact bt S.below rfl
theorem Sp.step(S:Sp σ0 i ts s σ)(s':PS):Sp σ0 i ts s' (σ.set i (rp ts s')):=⟨by rw[S.eq,SI],S.below,S.lt⟩
theorem kG{f:FuncId}{args:List V}{v:V}{s':PS}{l:LLV}{K P:V->LLV->Prop}{tK:Tag K}{tP:Tag P}(S:Sp σ0 i ts s σ)(h:Fun G f args (σ++l) (RP v (σ++l) i ts s'))(hk:∀σ',Sp σ0 i ts s' σ'->σ'.length=σ.length->K v (σ'++l)):e8 G f args (σ++l) K P tK tP:=by
 refine aB h fun o σ' ⟨e1,e2⟩=>?_;subst e1;rw[bc S.at_]at e2;subst e2;rw[aP];exact hk _ (S.step s') SD
theorem eM{v:V}{s':PS}{σ':LLV}{l:LLV}{rs:List RV}{ρ:ai}(S:Sp σ i ts s' σ')(h:aC (σ'++l) ρ rs=some v)(hv:V.under σ'.length v=true):fin σ'.length rs (RP v σ i ts s') .ret ρ (σ'++l):=by
 have e:σ'=σ.set i (rp ts s'):=S.eq;have hl:=S.len;rw[hl]at hv ⊢;refine bp (τ:=σ.set i (rp ts s')) (bt S.below rfl) h hv (by rw[e,cP]) ⟨rfl,rfl⟩
theorem I9{v:V}{s':PS}{σ':LLV}{l:LLV}{rs:List RV}{ρ:ai}(S:Sp σ i ts s' σ')(h:aC (σ'++l) ρ rs=some v)(hv:V.under σ'.length v=true):fin σ'.length rs (RP v σ i ts s') .normal ρ (σ'++l):=by
 have e:σ'=σ.set i (rp ts s'):=S.eq;have hl:=S.len;rw[hl]at hv ⊢;refine pB (τ:=σ.set i (rp ts s')) (bt S.below rfl) h hv (by rw[e,cP]) ⟨rfl,rfl⟩
theorem Sp.up(S:Sp σ0 i ts s σ)(h:s.1≤100000000):∃σ',Sp σ0 i ts (upP s) σ'/\σ'.length=σ.length/\IntKind.i64.wrap (((s.1:Nat):Int)+1)=((s.1+1:Nat):Int)/\∀l:LLV,(σ++l).set i [.d (.sl (ts.map dA)),aK .i64 ((s.1+1:Nat):Int),.d (ab s.2.1),.d (ab s.2.2)]=σ'++l:=
 ⟨_,S.step (upP s),SD,aA (by omega) (by omega),fun l=>bc S.at_ l _⟩
end
def tZ:Tok:=⟨0,0,⟨#[]⟩,0⟩
def kdP(ts:List Tok)(k:Int)(s:PS):Tok×PS:=match (if s.2.2=0 then ts[s.1]? else none)with
 | some t=>if t.kind=k then(t,upP s)else(tZ,ik ts s)
 | none=>(tZ,ik ts s)
section
variable {ts : List Tok} {i : Nat} {s : PS} (H : TsV ts) (σ : LLV) (hi : σ[i]? = some (rp ts s))
include H hi
theorem rh(m:ByteArray):Fun G 70 [.ptr i 0,.d (aj m)] σ (RP (an (nxP ts m s)) σ i ts (if nxP ts m s=true then upP s else s)):=by
 have hL:=H.ok.len;have hN:=qJ H σ hi m;refine ae Tryz.func70 k70 rfl fun hb hw=>?_;have S:=Sp.init hi hb;unfold c70;simp -dsimp only[aw,seval];refine ac hN ?_;have hio:=hi;unfold rp at hio;by_cases hm:nxP ts m s=true
 .rw[hm,if_pos rfl];have hm':(decide (s.2.2=0)&&ax m ts s.1)=true:=hm;have hlt:=bw (m:=m) (Bool.and_eq_true_iff.1 hm').2;rw[hm'];obtain⟨σ1,S1,hl1,hw1,hp⟩:=S.up (by omega);have hp:=hp [];simp only[SE]at hp;simp -dsimp only[aw,seval,hio,hw1,hp];have:=eM (v:=an true) (l:=[]) (rs:=J2) (ρ:=[(4,an true)]) S1 rfl rfl;rw[SE,hl1]at this;exact this
 .have hm:=Bool.eq_false_iff.2 hm;have hm':(decide (s.2.2=0)&&ax m ts s.1)=false:=hm;rw[hm,hm',if_neg (by decide)];simp -dsimp only[aw,seval];have:=eM (v:=an false) (l:=[]) (rs:=J2) (ρ:=[(4,an false)]) S rfl rfl;rw[SE]at this;exact this
theorem yG(m:ByteArray):Fun G 72 [.ptr i 0,.d (aj m)] σ (RP (.tup []) σ i ts (neP ts m s)):=by
 have hT:=rh H σ hi m;have hF:=io H σ hi;refine ae Tryz.func72 k72 rfl fun hb hw=>?_;have S:=Sp.init hi hb;unfold c72 neP;have hio:=hi;unfold rp at hio
 have done:∀(s':PS) (σ1:LLV) (ρ:ai) rs,Sp σ i ts s' σ1->aC σ1 ρ rs=some (.tup [])->fin σ.length rs (RP (.tup []) σ i ts s') .ret ρ σ1:=fun s' σ1 ρ rs S1 h=>by
  have:=eM (v:=.tup []) (l:=[]) (rs:=rs) (ρ:=ρ) S1 (by rw[SE];exact h) rfl;rw[SE,S1.len]at this;exact this
 have donee:∀(s':PS) (σ1:LLV) (ρ:ai) rs,Sp σ i ts s' σ1->aC σ1 ρ rs=some (.tup [])->fin σ.length rs (RP (.tup []) σ i ts s') .normal ρ σ1:=fun s' σ1 ρ rs S1 h=>by
  have:=I9 (v:=.tup []) (l:=[]) (rs:=rs) (ρ:=ρ) S1 (by rw[SE];exact h) rfl;rw[SE,S1.len]at this;exact this
 by_cases he:s.2.2=0
 case neg=>
  rw[if_neg he];simp -dsimp only[aw,seval,hio,decide_eq_false he];exact done _ _ _ _ S rfl
 rw[if_pos he];have e1:nxP ts m s=ax m ts s.1:=by unfold nxP;rw[decide_eq_true he,Sq]
 rw[e1]at hT;cases hs:ax m ts s.1 with
 | true=>
  rw[hs,if_pos rfl]at hT;rw[if_pos rfl];simp -dsimp only[aw,seval,hio,decide_eq_true he];refine aB hT fun o σ' ⟨g1,g2⟩=>?_;subst g1;subst g2;simp -dsimp only[aw,seval,aP];exact done _ _ _ _ (S.step _) rfl
 | false=>
  rw[hs,if_neg (by decide)]at hT;rw[if_neg (by decide)];simp -dsimp only[aw,seval,hio,decide_eq_true he];refine aB hT fun o σ' ⟨g1,g2⟩=>?_;rw[oc hi]at g2;subst g1;subst g2;simp -dsimp only[aw,seval,aP];refine aB hF fun o σ' ⟨g1,g2⟩=>?_;subst g1;subst g2;simp -dsimp only[aw,seval,aP];exact done _ _ _ _ (S.step _) rfl
theorem qL(k:Int):Fun G 137 [.ptr i 0,.d (ab k)] σ (RP (dZ (kdP ts k s).1) σ i ts (kdP ts k s).2):=by
 have hL:=H.ok.len;have hF:=io H σ hi;refine ae Tryz.func137 P0 rfl fun hb hw=>?_;have S:=Sp.init hi hb;have hil:=S.lt;have hio:=fun l=>ah hi l;have hso:=fun X l=>bc hi X l;unfold rp at hio hso
 have bad:kdP ts k s=(tZ,ik ts s)->∀(l:LLV) (ρ:ai) (σ1:LLV),Sp σ i ts (ik ts s) σ1->aC (σ1++l) ρ pZ=some (dZ tZ)->fin σ1.length pZ (RP (dZ (kdP ts k s).1) σ i ts (kdP ts k s).2) .ret ρ (σ1++l):=fun e l ρ σ1 S1 h=>by
  rw[e];exact eM S1 h rfl
 unfold Mx;by_cases he:s.2.2=0
 case neg=>
  have eS:kdP ts k s=(tZ,ik ts s):=by unfold kdP;rw[if_neg he]
  simp -dsimp only[aw,seval,hio,decide_eq_false he];refine kG S (io H _ (ah hi _)) fun σ1 S1 hl1=>?_;rw[<-hl1];simp -dsimp only[aw,seval];exact bad eS _ _ _ S1 (by simp[pZ,aC,aO,dZ,tZ,aw,seval])
 by_cases hlt:s.1<ts.length
 case neg=>
  have eS:kdP ts k s=(tZ,ik ts s):=by unfold kdP;rw[if_pos he,List.getElem?_eq_none (by omega)]
  have d1:decide (((ts.length:Nat):Int)≤((s.1:Nat):Int))=true:=decide_eq_true (by omega);simp -dsimp only[aw,seval,hio,decide_eq_true he,d1];refine kG S (io H _ (ah hi _)) fun σ1 S1 hl1=>?_;rw[<-hl1];simp -dsimp only[aw,seval];exact bad eS _ _ _ S1 (by simp[pZ,aC,aO,dZ,tZ,aw,seval])
 have d1:decide (((ts.length:Nat):Int)≤((s.1:Nat):Int))=false:=decide_eq_false (by omega);by_cases hk:ts[s.1].kind=k
 case neg=>
  have eS:kdP ts k s=(tZ,ik ts s):=by unfold kdP;rw[if_pos he,SC hlt];exact if_neg hk
  simp -dsimp only[aw,seval,hio,decide_eq_true he,d1,SC hlt,bM,dA,decide_eq_false hk];refine kG S (io H _ (ah hi _)) fun σ1 S1 hl1=>?_;rw[<-hl1];simp -dsimp only[aw,seval];exact bad eS _ _ _ S1 (by simp[pZ,aC,aO,dZ,tZ,aw,seval])
 have eS:kdP ts k s=(ts[s.1],upP s):=by unfold kdP;rw[if_pos he,SC hlt];exact if_pos hk
 have hw1:IntKind.i64.wrap (((s.1:Nat):Int)+1)=((s.1+1:Nat):Int):=by rw[aA (by omega) (by omega)];omega
 have hw2:IntKind.i64.wrap (((s.1+1:Nat):Int)-1)=((s.1:Nat):Int):=by rw[aA (by omega) (by omega)];omega
 have hs1:=fun l=>ah (SF (a:=rp ts (upP s)) hil) l;unfold rp at hs1;rw[eS];simp -dsimp only[aw,seval,hio,decide_eq_true he,d1,SC hlt,bM,dA,hk,hw1,hw2,decide_true,hso,hs1,eo,gN];refine bp (σ:=σ) (τ:=σ.set i (rp ts (upP s))) (v:=dZ ts[s.1]) (bt hb rfl) ?_ rfl ?_ ⟨rfl,rfl⟩
 .simp[pZ,aC,aO,dZ,hk,aw,seval]
 .simp[rp]
theorem wT:Fun G 75 [.ptr i 0] σ (RP (.d (aj (nmP ts s).1)) σ i ts (nmP ts s).2):=by
 have e:nmP ts s=((kdP ts 1 s).1.text,(kdP ts 1 s).2):=by
  unfold nmP kdP;by_cases he:s.2.2=0
  .rw[if_pos he,if_pos he];cases ht:ts[s.1]? with
   | none=>rw[(ic H).2 fun t h=>by rw[ht]at h;cases h];rfl
   | some t=>
    by_cases hk:t.kind=1
    .rw[(ic H).1 t ht hk];simp only[if_pos hk]
    .rw[(ic H).2 fun u h=>by rw[ht]at h;cases h;exact hk];simp only[if_neg hk];rfl
  .rw[if_neg he,if_neg he];rfl
 rw[e];have hK:=qL H σ hi 1;refine ae Tryz.func75 k75 rfl fun hb hw=>?_;have S:=Sp.init hi hb;unfold c75;simp -dsimp only[aw,seval];refine aB hK fun o σ' ⟨g1,g2⟩=>?_;subst g1;subst g2;simp -dsimp only[aw,seval,aP,dZ];have:=fun ρ rs h=>eM (v:=.d (aj (kdP ts 1 s).1.text)) (l:=[]) (rs:=rs) (ρ:=ρ) (S.step (kdP ts 1 s).2) h rfl;rw[SE,SD]at this;exact this _ _ rfl
theorem uy:Fun G 141 [.ptr i 0] σ (RP (.d (ab (nuP ts s).1)) σ i ts (nuP ts s).2):=by
 have e:nuP ts s=((kdP ts 3 s).1.num,(kdP ts 3 s).2):=by
  unfold nuP kdP;by_cases he:s.2.2=0
  .rw[if_pos he,if_pos he];cases ht:ts[s.1]? with
   | none=>rw[(i8 H).2 fun t h=>by rw[ht]at h;cases h];rfl
   | some t=>
    by_cases hk:t.kind=3
    .rw[(i8 H).1 t ht hk];simp only[if_pos hk]
    .rw[(i8 H).2 fun u h=>by rw[ht]at h;cases h;exact hk];simp only[if_neg hk];rfl
  .rw[if_neg he,if_neg he];rfl
 rw[e];have hK:=qL H σ hi 3;refine ae Tryz.func141 R4 rfl fun hb hw=>?_;have S:=Sp.init hi hb;unfold L6;simp -dsimp only[aw,seval];refine aB hK fun o σ' ⟨g1,g2⟩=>?_;subst g1;subst g2;simp -dsimp only[aw,seval,aP,dZ];have:=fun ρ rs h=>eM (v:=.d (ab (kdP ts 3 s).1.num)) (l:=[]) (rs:=rs) (ρ:=ρ) (S.step (kdP ts 3 s).2) h rfl;rw[SE,SD]at this;exact this _ _ rfl
end
section
variable {α β : Type} {σ0 σ : LLV} {i : Nat} {ts : List Tok} {s : PS} (H : TsV ts) {l : LLV} {K P : V -> LLV -> Prop} {tK : Tag K} {tP : Tag P}
theorem Cw{x:α}{mk:β->V}{p:β×PS}{k:β->PS->α}{f:FuncId}{args:List V}(S:Sp σ0 i ts s σ)(h:Fun G f args (σ++l) (RP (mk p.1) (σ++l) i ts p.2))(hx:x=clM p k)(ht:∀v s2,x=k v s2->(v,s2)=p->∀σ',Sp σ0 i ts s2 σ'->σ'.length=σ.length->K (mk v) (σ'++l)):e8 G f args (σ++l) K P tK tP:=
 kG S h fun σ' S' hl=>ht p.1 p.2 hx rfl σ' S' hl
theorem Cv{w:α×PS}{mk:β->V}{r:OQ β}{k:β×PS->OQ α}{f:FuncId}{args:List V}(S:Sp σ0 i ts s σ)(h:∀v s2,r=some (v,s2)->Fun G f args (σ++l) (RP (mk v) (σ++l) i ts s2))(hx:some w=r.bind k)(ht:∀v s2,some w=k (v,s2)->r=some (v,s2)->∀σ',Sp σ0 i ts s2 σ'->σ'.length=σ.length->K (mk v) (σ'++l)):e8 G f args (σ++l) K P tK tP:=by
 obtain⟨⟨v,s2⟩,e1,e2⟩:=Option.bind_eq_some_iff.1 hx.symm;exact kG S (h v s2 e1) fun σ' S' hl=>ht v s2 e2.symm e1 σ' S' hl
include H
theorem Ky{x:α}{k:ByteArray->PS->α}(S:Sp σ0 i ts s σ)(hx:x=nmM ts s k)(ht:∀v s2,x=k v s2->(v,s2)=nmP ts s->∀σ',Sp σ0 i ts s2 σ'->σ'.length=σ.length->K (.d (aj v)) (σ'++l)):e8 G 75 [.ptr i 0] (σ++l) K P tK tP:=
 Cw (mk:=fun v=>.d (aj v)) S (wT H _ (ah S.at_ _)) hx ht
theorem Hk{x:α}{k:Int->PS->α}(S:Sp σ0 i ts s σ)(hx:x=nuM ts s k)(ht:∀v s2,x=k v s2->(v,s2)=nuP ts s->∀σ',Sp σ0 i ts s2 σ'->σ'.length=σ.length->K (.d (ab v)) (σ'++l)):e8 G 141 [.ptr i 0] (σ++l) K P tK tP:=
 Cw (mk:=fun v=>.d (ab v)) S (uy H _ (ah S.at_ _)) hx ht
theorem lS{x:α}{m:ByteArray}{k:PS->α}(S:Sp σ0 i ts s σ)(hx:x=neM ts m s k)(ht:∀s2,x=k s2->∀σ',Sp σ0 i ts s2 σ'->σ'.length=σ.length->K (.tup []) (σ'++l)):e8 G 72 [.ptr i 0,.d (aj m)] (σ++l) K P tK tP:=
 kG S (yG H _ (ah S.at_ _) m) fun σ' S' hl=>ht _ hx σ' S' hl
theorem uj{m:ByteArray}(S:Sp σ0 i ts s σ)(ht:nxP ts m s=true->∀σ',Sp σ0 i ts (upP s) σ'->σ'.length=σ.length->K (an true) (σ'++l))(hf:nxP ts m s=false->K (an false) (σ++l)):e8 G 70 [.ptr i 0,.d (aj m)] (σ++l) K P tK tP:=by
 have h:=rh H (σ++l) (ah S.at_ l) m;cases hm:nxP ts m s with
 | true=>
  rw[hm,if_pos rfl]at h;exact kG S h fun σ' S' hl=>ht hm σ' S' hl
 | false=>
  rw[hm,if_neg (by decide)]at h;refine aB h fun o σ' ⟨e1,e2⟩=>?_;subst e1;rw[oc (ah S.at_ l)]at e2;subst e2;rw[aP];exact hf hm
theorem wI{x:α}{m:ByteArray}{y:PS->α}{n:α}(S:Sp σ0 i ts s σ)(hx:x=opM ts m s y n)(ht:nxP ts m s=true->x=y (upP s)->∀σ',Sp σ0 i ts (upP s) σ'->σ'.length=σ.length->K (an true) (σ'++l))(hf:nxP ts m s=false->x=n->K (an false) (σ++l)):e8 G 70 [.ptr i 0,.d (aj m)] (σ++l) K P tK tP:=
 uj H S (fun hm=>ht hm (by rw[hx];exact if_pos hm)) fun hm=>hf hm (by rw[hx];exact if_neg (by rw[hm];decide))
end
end Go.Proofs.YtnhphlmblenapaaGreatDoor
namespace Go.Proofs.YtnhphlmblenapaaGreatDoor
open Go.RowKit
theorem DH(ts:List Tok)(a:Nat):0≤(fE ts a).2.1:=by
 unfold fE iG;split
 .split
  .exact SB _
  .split
   .exact SB _
   .exact SA _
  .exact SA _
 .exact SA _
theorem Pp{ts:List Tok}(H:TsV ts)(s:PS):(nmP ts s).1.size≤1000:=by
 unfold nmP;split
 .rename_i p hp;split at hp
  .have hl:=iW (ts:=ts) (a:=s.1) (by rw[hp];rfl);rw[fv hl]at hp;split at hp
   .cases hp;exact H.ok.size _ (List.getElem_mem hl)
   .cases hp
  .cases hp
 .exact SK _
theorem JY{ts:List Tok}(s:PS):0≤(nuP ts s).1/\(nuP ts s).1≤2147483647:=by
 unfold nuP;split
 .rename_i p hp;split at hp
  .exact za (n:=p.1) (r:=p.2) hp
  .cases hp
 .show(0:Int)≤0/\(0:Int)≤2147483647;exact⟨by decide,by decide⟩
theorem G5(n:Nat)(v:Ex):V.under n (vex v)=true:=by rw[ao];rfl
theorem Aa{ts:List Tok}(H:TsV ts)(h9:ts.length≤1100000)(a:Nat)(σ:LLV):Fun G 136 [.d (.sl (ts.map dA)),.d (ab a)] σ (aN (ij (fE ts a)) σ):=by
 by_cases ha:a≤ts.length
 .have e:fE ts a=iG ts.length (ts.drop a):=if_pos ha;rw[e];exact D9 H h9 ha σ
 have e:fE ts a=(z0,0,1):=if_neg ha;rw[e,gh];refine ae Tryz.func136 O8 rfl fun hb hw=>?_;have d0:decide (((a:Nat):Int)<0)=false:=decide_eq_false (by omega);have d1:decide (((ts.length:Nat):Int)<((a:Nat):Int))=true:=decide_eq_true (by omega);unfold Jw;simp -dsimp only[aw,seval,d0,d1];exact az hb (by simp[wO,aC,bY,aO,z0,bq,aU,aG,aH,aw,seval]) (by simp[V.under,V.unders]) List.take_left ⟨rfl,rfl⟩
section
variable {ts : List Tok} {i : Nat} {s : PS} (H : TsV ts) (σ : LLV) (hi : σ[i]? = some (rp ts s))
include H hi
theorem w9(h9:ts.length≤1100000):Fun G 73 [.ptr i 0] σ (RP (vex (exP ts s).1) σ i ts (exP ts s).2):=by
 have hT:=fun σ=>Aa H h9 s.1 σ;have hnn:=DH ts s.1;obtain⟨p,ln,er⟩:=s;have hil:=(List.getElem?_eq_some_iff.1 hi).1;refine ae Tryz.func73 k73 rfl fun hb hw=>?_;have S:=Sp.init hi hb;have hio:=fun l=>ah hi l;have hso:=fun X l=>bc hi X l;unfold rp at hio hso
 have done:∀{v:Ex} {s':PS} {l:LLV} {ρ:ai} {σ1:LLV},exP ts (p,ln,er)=(v,s')->Sp σ i ts s' σ1->aC (σ1++l) ρ qX=some (vex v)->fin σ1.length qX (RP (vex (exP ts (p,ln,er)).1) σ i ts (exP ts (p,ln,er)).2) .ret ρ (σ1++l):=fun{v s' l ρ σ1} e S1 h=>by
  rw[e];exact eM S1 h (G5 _ _)
 unfold c73;by_cases he:er=0
 case neg=>
  simp -dsimp only[aw,seval,hio,decide_eq_false he];exact done (DI he) S (by rw[jc];simp[qX,aC,aO,aw,seval])
 subst he;have hE:exP ts (p,ln,0)=if(fE ts p).2.2=0 then((fE ts p).1,((fE ts p).2.1.toNat,ln,0))else(z0,(p,lnX ts (p,ln,0) (fE ts p).2.1 (fE ts p).2.2,(fE ts p).2.2)):=if_pos rfl
 simp only at hT hnn;generalize fE ts p=X at *;obtain⟨x,at_,e⟩:=X;simp only at hnn hE;obtain⟨n,rfl⟩:=Int.eq_ofNat_of_zero_le hnn;rw[Sx]at hE;have hs1:=fun(s':PS) l=>ah (SF (a:=rp ts s') hil) l;have hs2:=fun(s':PS) X l=>bc (SF (a:=rp ts s') hil) X l;simp -dsimp only[aw,seval,hio,decide_true];refine bA (hT _) ?_;simp -dsimp only[aw,seval,ij,ao,z0,bq,aU,aG,aH];refine bh (bh (bA (hT _) ?_) ?_) ?_
 .simp -dsimp only[aw,seval,ij,ao,z0,bq,aU,aG,aH]
 .simp -dsimp only[aw,seval,hio]
 by_cases e0:e=0
 .subst e0;rw[if_pos rfl]at hE;have S1:=S.step (n,ln,0);simp -dsimp only[aw,seval,gh,hio,hso,decide_true,eo,gN,mc,me];have:=fun l ρ h=>done (l:=l) (ρ:=ρ) hE S1 h;unfold rp at this;rw[SD]at this;refine this _ _ ?_;rw[ao];simp[qX,aC,aO,aw,seval]
 rw[if_neg e0]at hE
 have fin:∀(ln':Int) l ρ,lnX ts (p,ln,0) ((n:Nat):Int) e=ln'->aC (σ.set i (rp ts (p,ln',e))++l) ρ qX=some (vex z0)->fin σ.length qX (RP (vex (exP ts (p,ln,0)).1) σ i ts (exP ts (p,ln,0)).2) .ret ρ (σ.set i (rp ts (p,ln',e))++l):=fun ln' l ρ h1 h=>by
  rw[h1]at hE;have:=done hE (S.step (p,ln',e)) h;rwa[SD]at this
 by_cases e6:e=6
 .subst e6;have hla:=fun l=>rI (s:=(p,ln,6)) H (σ.set i (rp ts (p,ln,6))++l) (hs1 _ l);have hs1:=hs1 (p,ln,6);have hs2:=hs2 (p,ln,6);have fin:=fun l ρ=>fin (zLs ts) l ρ (if_pos rfl);unfold rp at hla hs1 hs2 fin;simp -dsimp only[aw,seval,gh,hio,hso,Sy,decide_true,decide_false,eo,gN,mc,me];refine ac (hla _) ?_;simp -dsimp only[aw,seval,hs1,hs2,SI,eo,gN,mc,me];exact fin _ _ (by rw[jc];simp[qX,aC,aO,eo,aw,seval])
 have d6:=decide_eq_false e6;by_cases c:(e=5\/e=3)/\n<ts.length
 .obtain⟨c5,hn⟩:=c;have dn:decide (((n:Nat):Int)<((ts.length:Nat):Int))=true:=decide_eq_true (by omega);have dg:decide ((0:Int)≤((n:Nat):Int))=true:=decide_eq_true (by omega);have fin:=fun l ρ=>fin ts[n].line l ρ (by unfold lnX;rw[if_neg e6,if_pos ⟨c5,by omega,by omega⟩,Sx,SC hn]);have hs1:=hs1 (p,ln,e);have hs2:=hs2 (p,ln,e);unfold rp at hs1 hs2 fin;rcases c5 with rfl|rfl
  all_goals
   simp -dsimp only[aw,seval,gh,hio,hso,Sy,decide_true,decide_false,eo,gN,mc,me,hs1,hs2,SI,dn,dg,SC hn,bM,dA];exact fin _ _ (by rw[jc];simp[qX,aC,aO,eo,aw,seval])
 .have fin:=fun l ρ=>fin ln l ρ (by unfold lnX;rw[if_neg e6,if_neg fun h=>c ⟨h.1,by omega⟩]);have hs1:=hs1 (p,ln,e);unfold rp at hs1 fin;by_cases c5:e=5\/e=3
  .have hn:¬n<ts.length:=fun h=>c ⟨c5,h⟩;have dn:decide (((n:Nat):Int)<((ts.length:Nat):Int))=false:=decide_eq_false (by omega);have dg:decide ((0:Int)≤((n:Nat):Int))=true:=decide_eq_true (by omega);rcases c5 with rfl|rfl
   all_goals
    simp -dsimp only[aw,seval,gh,hio,hso,Sy,decide_true,decide_false,eo,gN,mc,me,hs1,dn,dg];exact fin _ _ (by rw[jc];simp[qX,aC,aO,eo,aw,seval])
  .have d5:decide (e=5)=false:=decide_eq_false fun h=>c5 (.inl h);have d3:decide (e=3)=false:=decide_eq_false fun h=>c5 (.inr h);simp -dsimp only[aw,seval,gh,hio,hso,decide_eq_false e0,d6,d5,d3,eo,gN,mc,me,hs1];exact fin _ _ (by rw[jc];simp[qX,aC,aO,eo,aw,seval])
theorem jg:Fun G 134 [.ptr i 0] σ (RP (.d (aj (tgP ts s).1)) σ i ts (tgP ts s).2):=by
 refine ae Tryz.func134 QO rfl fun hb hw=>?_;have S:=Sp.init hi hb;obtain⟨w,hx⟩:∃w,w=tgP ts s:=⟨_,rfl⟩
 rw[<-hx];unfold tgP at hx;unfold Lq;simp -dsimp only[aw,seval];refine eN (Ky H S hx fun x s1 hx hv σ1 S1 hl1=>?_);have hsz:=Pp H s;rw[<-hv]at hsz;simp only at hsz;rw[<-hl1];simp -dsimp only[aw,seval];refine wI (m:=aa 91) H S1 hx (fun hm hx σ2 S2 hl2=>?_) (fun hm hx=>?_)
 case refine_2=>
  simp -dsimp only[aw,seval];rw[hx];exact eM S1 rfl rfl
 rw[<-hl2];simp -dsimp only[aw,seval];refine Hk H S2 hx fun n s3 hx hv σ3 S3 hl3=>?_;have hn:=JY (ts:=ts) (upP s1);rw[<-hv]at hn;simp only at hn;have hl10:=qj n hn.1 hn.2;have hI:=fun σ=>uF n (by omega) (by omega) (by omega) σ;rw[<-hl3];simp -dsimp only[aw,seval];refine ac (hI _) ?_;have hb10:(bs (Lib.itoa n)).size≤10:=by rw[aE];exact hl10
 have c1:(⟨#[91]⟩:ByteArray).size+(bs (Lib.itoa n)).size≤9223372036854775807:=by show 1+_≤_;omega
 have c2:((⟨#[91]⟩:ByteArray)++bs (Lib.itoa n)).size+(⟨#[93]⟩:ByteArray).size≤9223372036854775807:=by rw[Sw];show 1+_+1≤_;omega
 have c3:x.size+((⟨#[91]⟩:ByteArray)++bs (Lib.itoa n)++⟨#[93]⟩).size≤9223372036854775807:=by rw[Sw,Sw];show x.size+(1+_+1)≤_;omega
 have c4:=rU x hn.1;simp -dsimp only[aw,seval,c1,c2,c3,c4];refine lS (m:=aa 93) H S3 hx fun s4 hx σ4 S4 hl4=>?_;rw[<-hl4];simp -dsimp only[aw,seval];rw[hx];exact eM S4 rfl rfl
theorem lD{l0:List ByteArray}{s':PS}(h:wo ts s=some (l0,s')):Fun G 76 [.ptr i 0] σ (RP (.d (.sl (l0.map fun s=>[aj s]))) σ i ts s'):=by
 refine ae Tryz.func76 k76 rfl fun hb hw=>?_;have S:=Sp.init hi hb;have hL:=H.ok.len;unfold wo at h;unfold c76;simp -dsimp only[aw,seval];refine eN (Cw (mk:=fun x=>.d (aj x)) S (jg H _ (ah hi _)) h.symm fun x s1 h _ σ1 S1 hl1=>?_);rw[<-hl1];simp -dsimp only[aw,seval];refine aS [0,3] (R:=fun(j:Nat) ρ σ'=>∃(s2:PS) (l:List ByteArray) (σ2:LLV),ρ=[(0,.ptr i 0),(3,.own 9 1 (l.map fun s=>[aj s]))]/\σ'=σ2++[]/\Sp σ i ts s2 σ2/\σ2.length=σ1.length/\l.length=j+1/\some (l0,s')=tgL ts (ts.length+2-j) l s2) (ts.length+1) ⟨s1,[x],σ1,rfl,rfl,S1,rfl,rfl,h⟩ ?_ _;rintro j ρ' σ' hj ⟨s2,l,σ2,rfl,rfl,S2,hl2,h5,h⟩;obtain⟨m,hm⟩:∃m,ts.length+2-j=m+1:=⟨ts.length+1-j,by omega⟩
 rw[hm]at h;unfold tgL at h;rw[<-hl2];simp -dsimp only[aw,seval];refine wI (m:=aa 44) H S2 h (fun hm2 h σ3 S3 hl3=>?_) (fun hm2 h=>?_)
 case refine_2=>
  cases h;simp -dsimp only[aw,seval];exact eM S2 rfl rfl
 rw[<-hl3];simp -dsimp only[aw,seval];refine Cw (mk:=fun x=>.d (aj x)) S3 (jg H _ (ah S3.at_ _)) h fun x s3 h _ σ4 S4 hl4=>?_;rw[<-hl4];simp -dsimp only[aw,seval];refine bh (by omega) ?_;simp -dsimp only[aw,seval]
 have hlt:j<ts.length+1:=Classical.byContradiction fun hc=>by
  have:m=0:=by omega
  subst this;cases h
 exact⟨hlt,Nxt.same (by simp) (aq S4.bb rfl) (by simp[au,V.under,S4.len];exact S4.lt) ⟨s3,l++[x],σ4,by simp,rfl,S4,by rw[hl4,hl3,hl2],by simp[h5],by rw[show ts.length+2-(j+1)=m by omega];exact h⟩⟩
theorem ut:Fun G 135 [.ptr i 0] σ (RP (.agg ((dwt (wtP ts s).1).map V.d)) σ i ts (wtP ts s).2):=by
 refine ae Tryz.func135 Qf rfl fun hb hw=>?_;have S:=Sp.init hi hb;obtain⟨x,hx⟩:∃x,x=wtP ts s:=⟨_,rfl⟩
 rw[<-hx];unfold wtP at hx;unfold Pe
 refine i6 5 (fun ρ σ'=>∃(lo hi:Int) (s2:PS) (σ2:LLV),(ρ=[(0,.ptr i 0),(2,.ptr σ2.length 0),(3,.ptr (σ2.length+1) 0)]\/ρ=[(0,.ptr i 0),(2,.ptr σ2.length 0),(3,.ptr (σ2.length+1) 0),(12,an false)])/\σ'=σ2++[w4 0 0 0 false,w4 lo hi 0 false]/\Sp σ i ts s2 σ2/\
  x=clM (eaB ts s2) fun b s3=>nuM ts s3 fun w s4=>(⟨lo,hi,w,b⟩,s4)) ?_ ?_
 .simp only[iH];simp -dsimp only[aw,seval];refine Hk H S hx fun lo s1 hx _ σ1 S1 hl1=>?_;rw[<-hl1];simp -dsimp only[aw,seval];unfold hiP at hx;refine uj (m:=aZ 46 46) H S1 (fun hm σ2 S2 hl2=>?_) (fun hm=>?_)
  .unfold clM opM at hx;rw[if_pos hm]at hx;rw[<-hl2];simp -dsimp only[aw,seval];refine Hk H S2 (k:=fun hi s2=>clM (eaB ts s2) fun b s3=>nuM ts s3 fun w s4=>((⟨lo,hi,w,b⟩:Wt),s4)) hx fun hi2 s3 hx _ σ1 S1 hl1=>?_;rw[<-hl1];simp -dsimp only[aw,seval];exact Mid.mk ⟨lo,hi2,s3,σ1,.inl rfl,rfl,S1,hx⟩
  .unfold clM opM at hx;rw[if_neg (by rw[hm];decide)]at hx;simp -dsimp only[aw,seval];exact Mid.mk ⟨lo,lo,s1,σ1,.inr rfl,rfl,S1,hx⟩
 .simp only[iH];rintro ρ' σ' ⟨lo,hi2,s2,σ2,hρ,rfl,S2,hx⟩;rw[<-S2.len];unfold w4
  refine i6 2 (fun ρ σ'=>∃(b:Bool) (s2:PS) (σ2:LLV),(ρ=[(0,.ptr i 0),(2,.ptr σ2.length 0),(3,.ptr (σ2.length+1) 0)]\/ρ=[(0,.ptr i 0),(2,.ptr σ2.length 0),(3,.ptr (σ2.length+1) 0),(21,an false)])/\σ'=σ2++[w4 0 0 0 false,w4 lo hi2 0 b]/\Sp σ i ts s2 σ2/\
   x=nuM ts s2 fun w s4=>(⟨lo,hi2,w,b⟩,s4)) ?_ ?_
  .simp only[iH];unfold eaB clM opM at hx;rcases hρ with rfl|rfl
   all_goals
    simp -dsimp only[aw,seval];refine uj (m:=aZ 58 61) H S2 (fun hm σ1 S1 hl1=>?_) (fun hm=>?_)
    .rw[if_pos hm]at hx;rw[<-hl1];simp -dsimp only[aw,seval,Sv];exact Mid.mk ⟨true,upP s2,σ1,.inr rfl,rfl,S1,hx⟩
    .rw[if_neg (by rw[hm];decide)]at hx;simp -dsimp only[aw,seval,Su];refine lS (m:=aZ 58 47) (k:=fun s3=>nuM ts s3 fun w s4=>((⟨lo,hi2,w,false⟩:Wt),s4)) H S2 hx fun s3 hx σ1 S1 hl1=>?_;rw[<-hl1];simp -dsimp only[aw,seval];exact Mid.mk ⟨false,s3,σ1,.inl rfl,rfl,S1,hx⟩
  .simp only[iH];rintro ρ' σ' ⟨b,s3,σ3,hρ,rfl,S3,hx⟩;rw[S2.len,<-S3.len];unfold w4;rcases hρ with rfl|rfl
   all_goals
    simp -dsimp only[aw,seval];refine Hk H S3 hx fun w s4 hx _ σ1 S1 hl1=>?_;rw[<-hl1];simp -dsimp only[aw,seval];rw[hx];exact eM S1 (by simp[II,aC,aO,dwt,aw,seval]) rfl
end
end Go.Proofs.YtnhphlmblenapaaGreatDoor
namespace Go.Proofs.YtnhphlmblenapaaGreatDoor
open Go.RowKit
section
variable {σ0 σ : LLV} {i : Nat} {ts : List Tok} {s s' : PS} {l l' : LLV} {n0 : Nat} {ρ0 : ai} {Q : bX}
theorem QT{b p os fo f T kk by_ q:Nat}{ex:List V}{cs:List V}{rows:LLD}{v:V}{r:List D}(S:Sp σ0 i ts s σ)(hup:Up (σ++l) (σ++l'))
 (hf:∀σ:LLV,σ[i]? = some (rp ts s)->Fun G f (.ptr i 0::ex.map V.lend) σ (RP v σ i ts s'))(hp:get ρ0 p=.ptr i 0)(ho:get ρ0 os=.ptr (σ.length+q) 0)(hpb:p<b)(hosb:os<b)(hl:l'[q]? = some cs)(hc:cs[fo]? = some (.own T kk rows))
 (hr:dE [v]=some [r])(hk:r.length=kk)(hby:(rows.length+1)*by_≤140737488355328)
 (ht:∀σ',Sp σ0 i ts s' σ'->σ'.length=σ.length->Q .normal (st8 ρ0 T kk i (σ'.length+q) fo b rows r v fun _=>true) (σ'++l'.set q (cs.set fo (.own T kk (rows++[r]))))):iQ G n0 (GT b p os fo f ex T kk by_) es8 ρ0 (σ++l) Q:=by
 refine EO hup ?_;have hil:=S.lt;rw[<-S.len]at hil;have hio:i≠σ.length+q:=by omega
 have hob:(σ++l')[σ.length+q]? = some cs:=by rw[List.getElem?_append_right (by omega),SJ];exact hl
 have hii:(σ++l')[i]? = some (rp ts s):=ah S.at_ _
 have hset:∀(P X:List V),(((σ++l').set i P).set (σ.length+q) X)=σ.set i P++l'.set q X:=fun P X=>by
  rw[List.set_append_left _ _ hil,List.set_append_right _ _ (by simp),SD,SJ]
 refine jS (ρ0:=ρ0) (σ0:=σ++l') (T:=T) (k:=kk) (i:=i) (o:=σ.length+q) (fo:=fo) (b:=b) (cs:=cs) (rows:=rows) (v:=v) (r:=r) (P:=rp ts s') true (fun _ _=>True) hp ho hpb hosb hio hob hc (fun σ' h=>(hf σ' (by rw[h,hii])).mono fun out σ'' hq=>?_) hr hk hby (fun _=>?_) (fun h=>by cases h)
 .rw[if_pos rfl];exact hq
 .rw[hset];have:=ht _ (S.step s') SD;rw[SD]at this;exact this
end
section
variable {ts : List Tok} {i : Nat} {s : PS} (H : TsV ts) (σ : LLV) (hi : σ[i]? = some (rp ts s))
include H hi
theorem yB{v:It}{s':PS}(h:Ai ts s=some (v,s')):Fun G 71 [.ptr i 0] σ (RP (vit v) σ i ts s'):=by
 refine ae Tryz.func71 k71 rfl fun hb hw=>?_;have S:=Sp.init hi hb;have hL:=H.ok.len;replace h:=h.symm;unfold Ai at h;unfold c71;simp -dsimp only[aw,seval];refine Cw (mk:=fun x=>.d (aj x)) S (jg H _ (ah hi _)) h fun x s1 h _ σ1 S1 hl1=>?_;rw[<-hl1];simp -dsimp only[aw,seval];refine lS (m:=aa 123) H S1 h fun s2 h σ2 S2 hl2=>?_;rw[<-hl2];obtain⟨⟨lw,s3⟩,e1,h⟩:=Option.bind_eq_some_iff.1 h.symm;replace h:=h.symm;simp only at h;simp -dsimp only[aw,seval]
 refine nO [0,2,3,4] (fun(j:Nat) ρ σ'=>∃(σ4:LLV),σ4.length=σ2.length/\
  ((∃(s4:PS) (l:List Wt),ρ=[(0,.ptr i 0),(2,.ptr σ4.length 0),(3,.ptr (σ4.length+1) 0),(4,an true)]/\σ'=σ4++[z12,d12 x (.own 56 4 (l.map dwt))]/\Sp σ i ts s4 σ4/\l.length=j/\some (lw,s3)=wtL ts (ts.length+2-j) l s4)\/
    (ρ=[(0,.ptr i 0),(2,.ptr σ4.length 0),(3,.ptr (σ4.length+1) 0),(4,an false)]/\σ'=σ4++[z12,d12 x (.own 56 4 (lw.map dwt))]/\Sp σ i ts s3 σ4))) (ts.length+2)
  (xT (cs:=d12 x .nil) (fo:=7) (q:=1) 56 4 rfl rfl) ⟨σ2,rfl,.inl ⟨s2,[],rfl,rfl,S2,rfl,e1.symm⟩⟩ ?_ _
 rintro j ρ' σ' hj ⟨σ4,hl4,⟨s4,l,rfl,rfl,S4,hl,e1⟩|⟨rfl,rfl,S4⟩⟩
 .obtain⟨m,hm⟩:∃m,ts.length+2-j=m+1:=⟨ts.length+1-j,by
   have:ts.length+2-j≠0:=fun h0=>by rw[h0]at e1;cases e1
   omega⟩
  rw[hm]at e1;unfold wtL clM at e1;rw[<-hl4];unfold z12 d12;simp -dsimp only[aw,seval];refine xQ (show iQ _ _ _ _ _ _ _ from QT (b:=13) (p:=0) (os:=3) (fo:=7) (f:=135) (ex:=[]) (T:=56) (kk:=4) (by_:=32) (q:=1) (rows:=l.map dwt) (v:=.agg ((dwt (wtP ts s4).1).map V.d)) (r:=dwt (wtP ts s4).1) (s':=(wtP ts s4).2) S4 (.refl _) (fun σ h=>ut H σ h) rfl rfl (by decide) (by decide) rfl rfl (pT _) (tf _) (by rw[List.length_map];omega) fun σ5 S5 hl5=>?_);generalize wtP ts s4=p at *;obtain⟨w,s5⟩:=p;simp only at S5 e1 ⊢;rw[<-hl5];simp -dsimp only[aw,seval,st8];refine wI (m:=aa 44) H S5 e1 (fun hm2 e1 σ6 S6 hl6=>?_) (fun hm2 e1=>?_)
  .rw[<-hl6];simp -dsimp only[aw,seval];refine⟨by omega,Nxt.same (by simp) (aq S6.bb rfl) (by have:=S6.lt;simp[au,V.under,S6.len];omega) ⟨σ6,by rw[hl6,hl5,hl4],.inl ⟨upP s5,l++[w],rfl,by simp[z12,d12],S6,by simp[hl],by rw[show ts.length+2-(j+1)=m by omega];exact e1⟩⟩⟩
  .cases e1;simp -dsimp only[aw,seval];refine⟨by omega,Nxt.same (by simp) (aq S5.bb rfl) (by have:=S5.lt;simp[au,V.under,S5.len];omega) ⟨σ5,by rw[hl5,hl4],.inr ⟨rfl,by simp[z12,d12],S5⟩⟩⟩
 .rw[<-hl4];unfold z12 d12;simp -dsimp only[aw,seval];refine lS (m:=aa 125) H S4 h fun s5 h σ5 S5 hl5=>?_;rw[<-hl5];simp -dsimp only[aw,seval];refine lS (m:=aa 59) H S5 h fun s6 h σ6 S6 hl6=>?_;rw[<-hl6];simp -dsimp only[aw,seval];cases h;exact eM S6 (by rw[aJ];simp[OI,aC,aO,eE,iO,ez,ga,iL,dC,fZ,fM,f7,exZ,bq,aU,aG,aH,aw,seval]) (by rw[aJ];rfl)
end
end Go.Proofs.YtnhphlmblenapaaGreatDoor
namespace Go.Proofs.YtnhphlmblenapaaGreatDoor
open Go.RowKit
def ItC(ts:List Tok)(n:Nat):Prop:=∀(s s':PS) (v:It),(cO ts n).item s=some (v,s')->∀(σ:LLV) (i:Nat),σ[i]? = some (rp ts s)->Fun G 29 [.ptr i 0] σ (RP (vit v) σ i ts s')
def BdC(ts:List Tok)(n:Nat):Prop:=∀(s s':PS) (v:List It),bdP ts (cO ts n) s=some (v,s')->∀(σ:LLV) (i:Nat),σ[i]? = some (rp ts s)->Fun G 74 [.ptr i 0] σ (RP (.d (.sl (v.map dit))) σ i ts s')
section
variable {ts : List Tok} (H : TsV ts) (h9 : ts.length ≤ 1100000)
include H
theorem C1{i:Nat}{s:PS}(σ:LLV)(hi:σ[i]? = some (rp ts s))(m:ByteArray):Fun G 133 [.ptr i 0,.d (aj m)] σ (aN (an (nxP ts m s)) σ):=qJ H σ hi m
theorem u3{n:Nat}(hn:n≤100000000)(hI:∀m,m<n->ItC ts m):BdC ts n:=fun s s' v h σ i hi=>by
 refine ae Tryz.func74 k74 rfl fun hb hw=>?_;have S:=Sp.init hi hb;replace h:=h.symm;unfold bdP at h;unfold c74;simp -dsimp only[aw,seval];refine eN (lS (m:=aa 123) H S h fun s1 h σ1 S1 hl1=>?_);obtain⟨⟨lw,s3⟩,e1,h⟩:=Option.bind_eq_some_iff.1 h.symm;replace h:=h.symm;simp only at h;rw[<-hl1];simp -dsimp only[aw,seval];refine aS [0,3] (R:=fun(j:Nat) ρ σ'=>∃(s2:PS) (l:List It) (σ2:LLV),ρ=[(0,.ptr i 0),(3,.own 54 12 (l.map dit))]/\σ'=σ2++[]/\Sp σ i ts s2 σ2/\σ2.length=σ1.length/\l.length=j/\(cO ts (n-j)).rest l s2=some (lw,s3)) n ⟨s1,[],σ1,rfl,rfl,S1,rfl,rfl,e1⟩ ?_ _;rintro j ρ' σ' hj ⟨s2,l,σ2,rfl,rfl,S2,hl2,h5,e1⟩
 obtain⟨m,hm⟩:∃m,n-j=m+1:=⟨n-j-1,by
  have:n-j≠0:=fun h0=>by rw[h0]at e1;cases e1
  omega⟩
 rw[hm]at e1;replace e1:(if s2.2.2=0/\nxP ts (aa 125) s2=false then((cO ts m).item s2).bind fun p=>(cO ts m).rest (l++[p.1]) p.2 else some (l,s2))=some (lw,s3):=e1;have hio:=fun l=>ah S2.at_ l;unfold rp at hio;have hN:=fun l=>C1 H (σ2++l) (ah S2.at_ l) (aa 125);unfold aa at hN;rw[<-hl2];have leave:some (l,s2)=some (lw,s3)->some (v,s')=neM ts (aa 125) s2 fun s3=>some (l,s3):=fun e=>by cases e;exact h
 by_cases he:s2.2.2=0
 case neg=>
  rw[if_neg fun c=>he c.1]at e1;have h:=leave e1;simp -dsimp only[aw,seval,hio,decide_eq_false he];refine lS (m:=aa 125) H S2 h fun s5 h σ5 S5 hl5=>?_;rw[<-hl5];cases h;simp -dsimp only[aw,seval];exact eM S5 rfl rfl
 cases hx:nxP ts (aa 125) s2 with
 | true=>
  rw[if_neg fun c=>by rw[hx]at c;cases c.2]at e1;have h:=leave e1;have hx':nxP ts ⟨#[125]⟩ s2=true:=hx;rw[hx']at hN;simp -dsimp only[aw,seval,hio,decide_eq_true he];refine ac (hN _) ?_;simp -dsimp only[aw,seval,Sv];refine lS (m:=aa 125) H S2 h fun s5 h σ5 S5 hl5=>?_;rw[<-hl5];cases h;simp -dsimp only[aw,seval];exact eM S5 rfl rfl
 | false=>
  rw[if_pos ⟨he,hx⟩]at e1;have hx':nxP ts ⟨#[125]⟩ s2=false:=hx;rw[hx']at hN;simp -dsimp only[aw,seval,hio,decide_eq_true he];refine ac (hN _) ?_;simp -dsimp only[aw,seval,Su];refine Cv (mk:=vit) S2 (fun v s2 h=>hI m (by omega) _ _ v h _ _ (ah S2.at_ _)) e1.symm fun y s4 e1 _ σ4 S4 hl4=>?_;rw[<-hl4];simp -dsimp only[aw,seval,aJ];refine bh (by omega) ?_;simp -dsimp only[aw,seval];refine⟨by omega,Nxt.same (by simp) (aq S4.bb rfl) (by simp[au,V.under,S4.len];exact S4.lt) ⟨s4,l++[y],σ4,by rw[List.map_append,List.map_cons,List.map_nil,dq],rfl,S4,by rw[hl4,hl2],by simp[h5],by rw[show n-(j+1)=m by omega];exact e1.symm⟩⟩
include h9
theorem Js{α:Type}{σ0 σ:LLV}{i:Nat}{s:PS}{l:LLV}{K P:V->LLV->Prop}{tK:Tag K}{tP:Tag P}{x:α}{k:Ex->PS->α}(S:Sp σ0 i ts s σ)(hx:x=exM ts s k)(ht:∀v s2,x=k v s2->(v,s2)=exP ts s->∀σ',Sp σ0 i ts s2 σ'->σ'.length=σ.length->K (vex v) (σ'++l)):e8 G 73 [.ptr i 0] (σ++l) K P tK tP:=
 Cw (mk:=vex) S (w9 H _ (ah S.at_ _) h9) hx ht
theorem uU{n:Nat}(hB:BdC ts n):ItC ts (n+1):=fun s s' v h σ i hi=>by
 refine ae Tryz.func29 k29 rfl fun hb hw=>?_;have S:=Sp.init hi hb;replace h:some (v,s')=opM ts qP s (Ai ts) (opM ts ifW s (ifP ts (cO ts n)) (opM ts qf s (eaP ts (cO ts n)) (opM ts mi s (soP ts) (opM ts lK s (plP ts 2) (plP ts 1 s))))):=h.symm;have hBd:=fun{s:PS} {σ1:LLV} (S1:Sp σ i ts s σ1) (l:LLV) (v:List It) s' h=>hB s s' v h (σ1++l) i (ah S1.at_ l);unfold c29;simp -dsimp only[aw,seval];refine wI (m:=qP) H S h (fun hm h σ1 S1 hl1=>?_) (fun hm h=>?_)
 .rw[<-hl1];simp -dsimp only[aw,seval];refine kG S1 (yB H _ (ah S1.at_ _) h.symm) fun σ2 S2 hl2=>?_;rw[<-hl2];simp -dsimp only[aw,seval,aJ];exact eM S2 (by simp[vN,aC,aO,aw,seval]) rfl
 simp -dsimp only[aw,seval];refine wI (m:=ifW) H S h (fun hm h σ1 S1 hl1=>?_) (fun hm h=>?_)
 .unfold ifP at h;rw[<-hl1];simp -dsimp only[aw,seval];refine lS (m:=aa 40) H S1 h fun s2 h σ2 S2 hl2=>?_;rw[<-hl2];simp -dsimp only[aw,seval];refine Js H h9 S2 h fun x s3 h _ σ3 S3 hl3=>?_;rw[<-hl3];simp -dsimp only[aw,seval,ao];refine lS (m:=aa 41) H S3 h fun s4 h σ4 S4 hl4=>?_;rw[<-hl4];simp -dsimp only[aw,seval];refine Cv (mk:=fun l=>.d (.sl (l.map dit))) S4 (hBd S4 _) h fun p s5 h _ σ5 S5 hl5=>?_;rw[<-hl5];unfold elP at h;simp -dsimp only[aw,seval];refine uj (m:=sM) H S5 (fun hm σ6 S6 hl6=>?_) (fun hm=>?_)
  .unfold opM at h;simp only[if_pos hm]at h;rw[<-hl6];simp -dsimp only[aw,seval];refine Cv (mk:=fun l=>.d (.sl (l.map dit))) S6 (hBd S6 _) h fun q s7 h _ σ7 S7 hl7=>?_;rw[<-hl7];cases h;simp -dsimp only[aw,seval];exact eM S7 (by rw[aJ];simp[vN,aC,aO,eE,iO,ez,ga,iL,dC,fZ,fM,f7,aw,seval]) (by rw[aJ];rfl)
  .unfold opM at h;simp only[hm,Ss,if_false,SL]at h;cases h;simp -dsimp only[aw,seval];exact eM S5 (by rw[aJ];simp[vN,aC,aO,eE,iO,ez,ga,iL,dC,fZ,fM,f7,aw,seval]) (by rw[aJ];rfl)
 simp -dsimp only[aw,seval];refine wI (m:=qf) H S h (fun hm h σ1 S1 hl1=>?_) (fun hm h=>?_)
 .unfold eaP at h;rw[<-hl1];simp -dsimp only[aw,seval];refine Ky H S1 h fun ix s2 h _ σ2 S2 hl2=>?_;rw[<-hl2];simp -dsimp only[aw,seval];refine lS (m:=inW) H S2 h fun s3 h σ3 S3 hl3=>?_;rw[<-hl3];simp -dsimp only[aw,seval];refine Ky H S3 h fun nm s4 h _ σ4 S4 hl4=>?_;rw[<-hl4];simp -dsimp only[aw,seval];refine Cv (mk:=fun l=>.d (.sl (l.map dit))) S4 (hBd S4 _) h fun p s5 h _ σ5 S5 hl5=>?_;rw[<-hl5];cases h;simp -dsimp only[aw,seval]
  exact eM S5 (by rw[aJ];simp[vN,aC,aO,eE,iO,ez,ga,iL,dC,fZ,fM,f7,exZ,bq,aU,aG,aH,aw,seval]) (by rw[aJ];rfl)
 simp -dsimp only[aw,seval];refine wI (m:=mi) H S h (fun hm h σ1 S1 hl1=>?_) (fun hm h=>?_)
 .unfold soP at h;rw[<-hl1];simp -dsimp only[aw,seval];refine Cv (mk:=fun l=>.d (.sl (l.map fun s=>[aj s]))) S1 (fun v s2 h=>lD H _ (ah S1.at_ _) h) h fun l1 s2 h _ σ2 S2 hl2=>?_;rw[<-hl2];simp -dsimp only[aw,seval];refine lS (m:=ML) H S2 h fun s3 h σ3 S3 hl3=>?_;rw[<-hl3];simp -dsimp only[aw,seval];refine Cv (mk:=fun l=>.d (.sl (l.map fun s=>[aj s]))) S3 (fun v s2 h=>lD H _ (ah S3.at_ _) h) h fun l2 s4 h _ σ4 S4 hl4=>?_;rw[<-hl4];simp -dsimp only[aw,seval];refine lS (m:=aa 59) H S4 h fun s5 h σ5 S5 hl5=>?_;rw[<-hl5];cases h;simp -dsimp only[aw,seval]
  exact eM S5 (by rw[aJ];simp[vN,aC,aO,eE,iO,ez,ga,iL,dC,fZ,fM,f7,exZ,bq,aU,aG,aH,aw,seval]) (by rw[aJ];rfl)
 simp -dsimp only[aw,seval];refine wI (m:=lK) H S h (fun hm h σ1 S1 hl1=>?_) (fun hm h=>?_)
 .unfold plP at h;rw[<-hl1];simp -dsimp only[aw,seval];refine Js H h9 S1 h fun x s3 h _ σ3 S3 hl3=>?_;rw[<-hl3];simp -dsimp only[aw,seval,ao];refine lS (m:=aa 59) H S3 h fun s4 h σ4 S4 hl4=>?_;rw[<-hl4];cases h;simp -dsimp only[aw,seval];exact eM S4 (by rw[aJ];simp[vN,aC,aO,eE,iO,ez,ga,iL,dC,fZ,fM,f7,aw,seval]) (by rw[aJ];rfl)
 unfold plP at h;simp -dsimp only[aw,seval];refine Js H h9 S h fun x s3 h _ σ3 S3 hl3=>?_;rw[<-hl3];simp -dsimp only[aw,seval,ao];refine lS (m:=aa 59) H S3 h fun s4 h σ4 S4 hl4=>?_;rw[<-hl4];cases h;simp -dsimp only[aw,seval];exact eM S4 (by rw[aJ];simp[vN,aC,aO,eE,iO,ez,ga,iL,dC,fZ,fM,f7,aw,seval]) (by rw[aJ];rfl)
theorem wZ:∀n:Nat,n≤100000000->ItC ts n:=fun n=>by
 induction n using Nat.strongRecOn with
 | _ n ih=>
  intro hn;cases n with
  | zero=>intro s s' v h;cases h
  | succ n=>exact uU H h9 (u3 H (by omega) fun m hm=>ih m (by omega) (by omega))
end
end Go.Proofs.YtnhphlmblenapaaGreatDoor
namespace Go.Proofs.YtnhphlmblenapaaGreatDoor
open Go.RowKit
section
variable {ts : List Tok} {i : Nat} {s : PS} (H : TsV ts) (σ : LLV) (hi : σ[i]? = some (rp ts s))
include H hi
end
section
variable {ts : List Tok} {i : Nat} {s : PS} (H : TsV ts) (h9 : ts.length ≤ 1100000) (σ : LLV) (hi : σ[i]? = some (rp ts s))
include H h9 hi
end
end Go.Proofs.YtnhphlmblenapaaGreatDoor
namespace Go.Proofs.YtnhphlmblenapaaGreatDoor
open Go.RowKit
def Ag{α:Type}(ts:List Tok)(x:CP α)(r:OQ α):Prop:=match x with
 | .out=>True
 | .bad e n=>e≠0/\∃v b,r=some (v,(b,n,e))
 | .ok v q=>∃b,b≤ts.length/\q=ts.drop b/\r=some (v,(b,0,0))
def Em{α:Type}(k:PS->OQ α):Prop:=∀s:PS,s.2.2≠0->∃v,k s=some (v,s)
section
variable {α β : Type} {ts : List Tok} {a : Nat}
theorem sS{f:PS->OQ α}(hf:Em f):Ag ts (iR (zLs ts) (ts.drop a)) (f (ik ts (a,0,0))):=by
 have e:ik ts (a,0,0)=(a,lnA ts a,bV ts a):=if_pos rfl;obtain⟨v,hv⟩:=hf (a,lnA ts a,bV ts a) (ct ts a);rw[vP,e];exact⟨ct ts a,v,a,hv⟩
theorem Eo{x:ByteArray}{q:List Tok}(h:bT (ts.drop a)=some (x,q)):q=ts.drop (a+1)/\a+1≤ts.length:=by
 have hl:=iW (ts:=ts) (a:=a) (by rw[h];rfl);rw[fv hl]at h;split at h
 .cases h;exact⟨rfl,hl⟩
 .cases h
theorem GJ{x:Int}{q:List Tok}(h:cH (ts.drop a)=some (x,q)):q=ts.drop (a+1)/\a+1≤ts.length:=by
 have hl:=mN (ts:=ts) (a:=a) (by rw[h];rfl);rw[eO hl]at h;split at h
 .cases h;exact⟨rfl,hl⟩
 .cases h
theorem Db{k:ByteArray->List Tok->CP α}{k':ByteArray->PS->OQ α}(h:∀x b,b≤ts.length->Ag ts (k x (ts.drop b)) (k' x (b,0,0)))(he:∀x,Em (k' x)):Ag ts (dS (zLs ts) (ts.drop a) k) (nmM ts (a,0,0) k'):=by
 unfold nmM nmP dS;rw[if_pos rfl];cases hp:bT (ts.drop a)with
 | none=>exact sS (he _)
 | some p=>
  obtain⟨x,q⟩:=p;obtain⟨rfl,hl⟩:=Eo hp;exact h x _ hl
theorem y7{k:Int->List Tok->CP α}{k':Int->PS->OQ α}(h:∀x b,b≤ts.length->Ag ts (k x (ts.drop b)) (k' x (b,0,0)))(he:∀x,Em (k' x)):Ag ts (gD (zLs ts) (ts.drop a) k) (nuM ts (a,0,0) k'):=by
 unfold nuM nuP gD;rw[if_pos rfl];cases hp:cH (ts.drop a)with
 | none=>exact sS (he _)
 | some p=>
  obtain⟨x,q⟩:=p;obtain⟨rfl,hl⟩:=GJ hp;exact h x _ hl
theorem pt{m:ByteArray}:acc m (ts.drop a)=if nxP ts m (a,0,0)=true then some (ts.drop (a+1))else none:=by
 have:nxP ts m (a,0,0)=ax m ts a:=Sq _;rw[aR,this]
theorem jI{m:ByteArray}{k:List Tok->CP α}{k':PS->OQ α}(h:∀b,b≤ts.length->Ag ts (k (ts.drop b)) (k' (b,0,0)))(he:Em k'):Ag ts (bQ (zLs ts) m (ts.drop a) k) (neM ts m (a,0,0) k'):=by
 unfold neM neP bQ;rw[if_pos rfl,aR];by_cases hs:ax m ts a=true
 .rw[if_pos hs,if_pos hs];exact h _ (bw hs)
 .rw[if_neg hs,if_neg hs];exact sS he
theorem ny{m:ByteArray}{k:List Tok->CP α}{n:CP α}{k':PS->OQ α}{n':OQ α}(h:∀b,b≤ts.length->Ag ts (k (ts.drop b)) (k' (b,0,0)))(hn:Ag ts n n'):Ag ts (dF m (ts.drop a) k n) (opM ts m (a,0,0) k' n'):=by
 unfold opM dF;rw[pt];by_cases hs:nxP ts m (a,0,0)=true
 .rw[if_pos hs,if_pos hs];exact h _ (bw (m:=m) (by rw[<-hs];exact(Sq _).symm))
 .rw[if_neg hs,if_neg hs];exact hn
theorem IM(ha:a≤ts.length){k:Ex->List Tok->CP α}{k':Ex->PS->OQ α}(h:∀x b,b≤ts.length->Ag ts (k x (ts.drop b)) (k' x (b,0,0)))(he:∀x,Em (k' x)):Ag ts (exC (zLs ts) (ts.drop a) k) (exM ts (a,0,0) k'):=by
 unfold exM exP exC fE;simp only[if_pos ha,if_true];unfold iG;have htk:=iM .W (ts.drop a);cases hx:par .W (ts.drop a)with
 | out=>trivial
 | bad c r=>
  rw[hx]at htk;have hb3:=qg hx;have hc:=(pq hx).1;simp only;rw[if_neg hc];obtain⟨v,hv⟩:=he z0 (a,lnX ts (a,0,0) ((ts.length-r.length:Nat):Int) c,c) hc
  have e:lnX ts (a,0,0) ((ts.length-r.length:Nat):Int) c=lnR (zLs ts) r:=by
   have hs:=(kK ha htk).1;unfold lnX;by_cases h6:c=6
   .rw[if_pos h6,D0 hx h6];rfl
   .have hr:r≠[]:=hb3.elim (fun h=>absurd h h6) And.right;have hpos:0<r.length:=List.length_pos_iff.2 hr;have hlt:ts.length-r.length<ts.length:=by have:=(kK ha htk).2;have:=(kK ha htk).1;have:=congrArg List.length this;rw[SG]at this;omega
    rw[if_neg h6,if_pos ⟨by omega,by omega,by omega⟩,Sx,SC hlt];rw[SH hlt]at hs;exact(congrArg (lnR (zLs ts)) hs).symm
  rw[e]at hv;exact⟨hc,v,a,by rw[e];exact hv⟩
 | ok v r=>
  rw[hx]at htk;obtain⟨h1,h2,h3⟩:=kK ha htk.1;simp only;by_cases h0:bz v=0
  .rw[if_pos h0,if_pos h0];simp only[if_true];rw[h1];have:=h v (ts.length-r.length) h3;rw[<-h1]at this ⊢;rw[Sx];exact this
  .rw[if_neg h0,if_neg h0];simp only;rw[if_neg h0];have hcd:=m4 v;obtain⟨w,hw⟩:=he z0 (a,lnX ts (a,0,0) 0 (bz v),bz v) h0
   have e:lnX ts (a,0,0) 0 (bz v)=0:=by
    unfold lnX;rw[if_neg (by omega),if_neg (by omega)]
   rw[e]at hw;exact⟨h0,w,a,by rw[e];exact hw⟩
theorem sp{x:CP β}{p:β×PS}{k:β->List Tok->CP α}{k':β->PS->OQ α}(hx:Ag ts x (some p))(h:∀v b,b≤ts.length->Ag ts (k v (ts.drop b)) (k' v (b,0,0)))(he:∀v,Em (k' v)):Ag ts (x.bind k) (clM p k'):=by
 cases x with
 | out=>trivial
 | bad e n=>
  obtain⟨h0,v,b,hp⟩:=hx;cases hp;obtain⟨w,hw⟩:=he v (b,n,e) h0;exact⟨h0,w,b,hw⟩
 | ok v q=>
  obtain⟨b,hb,rfl,hp⟩:=hx;cases hp;exact h v b hb
theorem oi{x:CP β}{r:OQ β}{k:β->List Tok->CP α}{k':β×PS->OQ α}(hx:Ag ts x r)(h:∀v b,b≤ts.length->Ag ts (k v (ts.drop b)) (k' (v,(b,0,0))))(he:∀v (s:PS),s.2.2≠0->∃w,k' (v,s)=some (w,s)):Ag ts (x.bind k) (r.bind k'):=by
 cases x with
 | out=>trivial
 | bad e n=>
  obtain⟨h0,v,b,rfl⟩:=hx;obtain⟨w,hw⟩:=he v (b,n,e) h0;exact⟨h0,w,b,hw⟩
 | ok v q=>
  obtain⟨b,hb,rfl,rfl⟩:=hx;exact h v b hb
theorem gx{v:α}{b:Nat}(hb:b≤ts.length):Ag ts (.ok v (ts.drop b)) (some (v,(b,0,0))):=⟨b,hb,rfl,rfl⟩
theorem ug{m:ByteArray}{s:PS}{y:PS->α×PS}{n:α×PS}:some (opM ts m s y n)=opM ts m s (fun s=>some (y s)) (some n):=by
 unfold opM;split<;>rfl
end
section
variable {ts : List Tok} {a : Nat} (ha : a ≤ ts.length)
include ha
theorem CS:Ag ts (gc (zLs ts) (ts.drop a)) (some (tgP ts (a,0,0))):=by
 show Ag ts _ (nmM ts (a,0,0) fun x s1=>some (opM ts (aa 91) s1 (fun s2=>nuM ts s2 fun n s3=>neM ts (aa 93) s3 fun s4=>(gJ x n,s4)) (x,s1)));refine Db (fun x b hb=>?_) fun x s h=>⟨_,by rw[gO h]⟩
 rw[ug];refine ny (fun b hb=>?_) (gx hb);show Ag ts _ (nuM ts (b,0,0) fun n s3=>neM ts (aa 93) s3 fun s4=>some (gJ x n,s4));exact y7 (fun n b hb=>jI (fun b hb=>gx hb) fun s h=>⟨_,rfl⟩) fun n s h=>⟨_,by rw[cz h]⟩
theorem MO(lo:Int):Ag ts (dF (aZ 46 46) (ts.drop a) (fun r2=>gD (zLs ts) r2 fun hi r3=>.ok hi r3) (.ok lo (ts.drop a))) (some (hiP ts lo (a,0,0))):=by
 unfold hiP;rw[ug];refine ny (fun b hb=>?_) (gx ha);show Ag ts _ (nuM ts (b,0,0) fun n s3=>some (n,s3));exact y7 (fun n b hb=>gx hb) fun n s h=>⟨_,rfl⟩
theorem MU:Ag ts (dF (aZ 58 61) (ts.drop a) (fun r3=>.ok true r3) (bQ (zLs ts) (aZ 58 47) (ts.drop a) fun r3=>.ok false r3)) (some (eaB ts (a,0,0))):=by
 unfold eaB;rw[ug];refine ny (fun b hb=>gx hb) ?_;show Ag ts _ (neM ts (aZ 58 47) (a,0,0) fun s3=>some (false,s3));exact jI (fun b hb=>gx hb) fun s h=>⟨_,rfl⟩
theorem NK:Ag ts (gf (zLs ts) (ts.drop a)) (some (wtP ts (a,0,0))):=by
 show Ag ts _ (nuM ts (a,0,0) fun lo s1=>clM (hiP ts lo s1) fun hi s2=>clM (eaB ts s2) fun b s3=>nuM ts s3 fun w s4=>some ((⟨lo,hi,w,b⟩:Wt),s4))
 exact y7 (fun lo b hb=>sp (MO hb lo) (fun hi b hb=>sp (MU hb) (fun e b hb=>y7 (fun w b hb=>gx hb) fun w s h=>⟨_,rfl⟩) fun e s h=>⟨_,by rw[o8 h]⟩)
  fun hi s h=>⟨_,by simp only[clM,uq h,o8 h];rfl⟩) fun lo s h=>⟨_,by simp only[clM,Ep h,uq h,o8 h];rfl⟩
end
section
variable {ts : List Tok}
theorem Fe:∀(n m:Nat) (l:List ByteArray) (a:Nat),n+1≤m->a≤ts.length->Ag ts (iC (fun l r=>(acc (aa 44) r).map fun r2=>(gc (zLs ts) r2).bind fun s r3=>.ok (l++[s]) r3) n l (ts.drop a)) (tgL ts m l (a,0,0))
 | 0,m,_,_,_,_=>trivial
 | n+1,0,_,_,h,_=>by omega
 | n+1,m+1,l,a,h,ha=>by
  unfold iC tgL opM;rw[pt];by_cases hs:nxP ts (aa 44) (a,0,0)=true
  .rw[if_pos hs,if_pos hs];have hl:a+1≤ts.length:=bw (m:=aa 44) (by rw[<-hs];exact(Sq _).symm);simp only[SM];rw[bind_assoc];obtain⟨m',rfl⟩:∃m',m=m'+1:=⟨m-1,by omega⟩
   exact sp (CS hl) (fun x b hb=>Fe n (m'+1) (l++[x]) b (by omega) hb) fun x s h=>⟨_,ti h⟩
  .rw[if_neg hs,if_neg hs];exact gx ha
theorem Fm{a:Nat}(ha:a≤ts.length):Ag ts (gz (zLs ts) (ts.drop a)) (wo ts (a,0,0)):=by
 unfold gz wo;refine sp (CS ha) (fun x b hb=>?_) fun x s h=>⟨_,ti h⟩
 unfold fC;exact Fe _ _ _ b (by rw[SG];omega) hb
theorem EB:∀(m:Nat) (N:List Tok->Nat) (l:List Wt) (a:Nat),(∀b,N (ts.drop b)≤m)->a≤ts.length->Ag ts ((gf (zLs ts) (ts.drop a)).bind fun w r=>iC (fun l r=>(acc (aa 44) r).map fun r2=>(gf (zLs ts) r2).bind fun w r3=>.ok (l++[w]) r3) (N r) (l++[w]) r) (wtL ts (m+1) l (a,0,0))
 | m,N,l,a,h,ha=>by
  unfold wtL;refine sp (NK ha) (fun w b hb=>?_) fun w s h=>⟨_,by rw[gO h]⟩
  have hN:=h b;generalize N (ts.drop b)=n at hN;cases n with
  | zero=>trivial
  | succ n=>
   unfold iC opM;rw[pt];by_cases hs:nxP ts (aa 44) (b,0,0)=true
   .rw[if_pos hs,if_pos hs];have hl:b+1≤ts.length:=bw (m:=aa 44) (by rw[<-hs];exact(Sq _).symm);simp only[SM];rw[bind_assoc];obtain⟨m',rfl⟩:∃m',m=m'+1:=⟨m-1,by omega⟩
    exact EB m' (fun _=>n) (l++[w]) (b+1) (fun _=>by omega) hl
   .rw[if_neg hs,if_neg hs];exact gx hb
theorem Ja{a:Nat}(ha:a≤ts.length):Ag ts (mU (zLs ts) (ts.drop a)) (wtL ts (ts.length+2) [] (a,0,0)):=by
 exact EB (ts.length+1) (fun r=>r.length+1) [] a (fun b=>by rw[SG];omega) ha
theorem Ke{a:Nat}(ha:a≤ts.length):Ag ts (lL (zLs ts) (ts.drop a)) (Ai ts (a,0,0)):=by
 unfold lL Ai;refine sp (CS ha) (fun x b hb=>jI (fun b hb=>oi (Ja hb) (fun l b hb=>jI (fun b hb=>jI (fun b hb=>gx hb) fun s h=>⟨_,rfl⟩) fun s h=>⟨_,by rw[cz h]⟩) fun l s h=>⟨_,by rw[cz h,cz h]⟩) fun s h=>?_) fun x s h=>?_
 .obtain⟨v,hv⟩:=zi h (n:=ts.length+1) (l:=[]);exact⟨_,by rw[hv,SL,cz h,cz h]⟩
 .obtain⟨v,hv⟩:=zi h (n:=ts.length+1) (l:=[]);exact⟨_,by rw[cz h,hv,SL,cz h,cz h]⟩
theorem MS{a:Nat}(ha:a≤ts.length):Ag ts (iK (zLs ts) (ts.drop a)) (soP ts (a,0,0)):=by
 unfold iK soP;refine oi (Fm ha) (fun l b hb=>jI (fun b hb=>oi (Fm hb) (fun m b hb=>jI (fun b hb=>gx hb) fun s h=>⟨_,rfl⟩) fun m s h=>⟨_,by rw[cz h]⟩) fun s h=>?_) fun l s h=>?_
 .obtain⟨v,hv⟩:=zo h;exact⟨_,by rw[hv,SL,cz h]⟩
 .obtain⟨v,hv⟩:=zo h;exact⟨_,by rw[cz h,hv,SL,cz h]⟩
theorem IG(k:Int){a:Nat}(ha:a≤ts.length):Ag ts (eP (zLs ts) k (ts.drop a)) (plP ts k (a,0,0)):=by
 unfold eP plP;exact IM ha (fun e b hb=>jI (fun b hb=>gx hb) fun s h=>⟨_,rfl⟩) fun e s h=>⟨_,by rw[cz h]⟩
def AgR(ts:List Tok)(R:Rec)(Q:RecP):Prop:=(∀a,a≤ts.length->Ag ts (R.item (ts.drop a)) (Q.item (a,0,0)))/\∀l a,a≤ts.length->Ag ts (R.rest l (ts.drop a)) ((Q.rest l (a,0,0)).bind fun p=>neM ts (aa 125) p.2 fun s3=>some (p.1,s3))
theorem F1{R:Rec}{n:Nat}{a:Nat}(hR:AgR ts R (cO ts (n+1)))(ha:a≤ts.length):Ag ts (ir (zLs ts) R (ts.drop a)) (bdP ts (cO ts (n+1)) (a,0,0)):=by
 unfold ir bdP;exact jI (fun b hb=>hR.2 [] b hb) fun s h=>⟨_,by rw[pI h,SL,cz h]⟩
theorem Pl{R:Rec}{n:Nat}{a:Nat}(hR:AgR ts R (cO ts (n+1))):Ag ts (ifC (zLs ts) R (ts.drop a)) (ifP ts (cO ts (n+1)) (a,0,0)):=by
 unfold ifC ifP elP;have e1:∀(x:Ex) (p:List It) (s:PS),s.2.2≠0->∃v:It,((opM ts sM s (fun s5=>bdP ts (cO ts (n+1)) s5) (some ([],s))).bind fun q=>some (It.mk 4 x ⟨#[]⟩ ⟨#[]⟩ [] p q.1 [] [],q.2))=some (v,s):=fun x p s h=>⟨_,by rw[gO h,SL]⟩
 have e2:∀(x:Ex) (s:PS),s.2.2≠0->∃v:It,((bdP ts (cO ts (n+1)) s).bind fun p=>(opM ts sM p.2 (fun s5=>bdP ts (cO ts (n+1)) s5) (some ([],p.2))).bind fun q=>some (It.mk 4 x ⟨#[]⟩ ⟨#[]⟩ [] p.1 q.1 [] [],q.2))=some (v,s):=fun x s h=>⟨_,by rw[tF h,SL,gO h,SL]⟩
 refine jI (fun b hb=>IM hb (fun e b hb=>jI (fun b hb=>oi (F1 hR hb) (fun l b hb=>oi (ny (fun b hb=>F1 hR hb) (gx hb)) (fun m b hb=>gx hb) fun m s h=>⟨_,rfl⟩) fun l s h=>e1 e l s h) fun s h=>e2 e s h) fun e s h=>?_) fun s h=>?_
 .rw[cz h];exact e2 e s h
 .rw[Ib h,cz h];exact e2 z0 s h
theorem GC{R:Rec}{n:Nat}{a:Nat}(hR:AgR ts R (cO ts (n+1))):Ag ts (kQ (zLs ts) R (ts.drop a)) (eaP ts (cO ts (n+1)) (a,0,0)):=by
 unfold kQ eaP;refine Db (fun i b hb=>jI (fun b hb=>Db (fun x b hb=>oi (F1 hR hb) (fun l b hb=>gx hb) fun l s h=>⟨_,rfl⟩) fun x s h=>⟨_,by rw[tF h,SL]⟩) fun s h=>⟨_,by rw[uH h,tF h,SL]⟩) fun i s h=>⟨_,by rw[cz h,uH h,tF h,SL]⟩
theorem kV{m m':ByteArray}{r r1:List Tok}(h:acc m r=some r1)(hm:m≠m'):acc m' r=none:=by
 cases r with
 | nil=>rfl
 | cons t r=>
  have e:∀m,acc m (t::r)=if bO t=true/\(t.kind=4\/t.kind=2)/\t.text=m then some r else none:=fun _=>rfl
  rw[e]at h ⊢;by_cases c:bO t=true/\(t.kind=4\/t.kind=2)/\t.text=m
  .rw[if_neg fun c'=>hm (c.2.2.symm.trans c'.2.2)]
  .rw[if_neg c]at h;cases h
theorem yq(z:Int)(R:Rec)(r:List Tok):(kj z R).item r=dF qP r (lL z) (dF ifW r (ifC z R) (dF qf r (kQ z R) (dF mi r (iK z) (dF lK r (eP z 2) (eP z 1 r))))):=by
 show dF lK r (eP z 2) _=_;cases hs:acc lK r with
 | none=>rw[cu hs,cu (m:=lK) hs]
 | some r1=>
  rw[df hs,cu (kV hs (by decide)),cu (kV hs (by decide)),cu (kV hs (by decide)),cu (kV hs (by decide)),df hs]
theorem zy:∀(n m:Nat),n+1≤m->AgR ts (ft (zLs ts) n) (cO ts m)
 | 0,m,_=>⟨fun _ _=>trivial,fun _ _ _=>trivial⟩
 | n+1,0,h=>by omega
 | n+1,m+1,h=>by
  obtain⟨m,rfl⟩:∃m',m=m'+1:=⟨m-1,by omega⟩
  have ih:=zy n (m+1) (by omega);constructor
  .intro a ha;show Ag ts ((kj (zLs ts) (ft (zLs ts) n)).item (ts.drop a)) _;rw[yq];exact ny (fun b hb=>Ke hb) (ny (fun b hb=>Pl ih) (ny (fun b hb=>GC ih) (ny (fun b hb=>MS hb) (ny (fun b hb=>IG 2 hb) (IG 1 ha)))))
  .intro l a ha;show Ag ts (dF (aa 125) (ts.drop a) (fun r1=>.ok l r1) (((ft (zLs ts) n).item (ts.drop a)).bind fun x r1=>(ft (zLs ts) n).rest (l++[x]) r1)) ((if(0:Int)=0/\nxP ts (aa 125) (a,0,0)=false then((cO ts (m+1)).item (a,0,0)).bind fun p=>(cO ts (m+1)).rest (l++[p.1]) p.2 else some (l,(a,0,0))).bind fun p=>neM ts (aa 125) p.2 fun s3=>some (p.1,s3));unfold dF;rw[pt];cases hs:nxP ts (aa 125) (a,0,0)with
   | true=>
    have hss:ax (aa 125) ts a=true:=by rw[<-hs];exact(Sq _).symm
    rw[if_pos rfl,if_neg (by simp)];have e:neP ts (aa 125) (a,0,0)=(a+1,0,0):=by unfold neP;rw[if_pos rfl];simp only;rw[if_pos hss]
    simp only[SL,neM,e];exact gx (bw hss)
   | false=>
    rw[if_neg (by decide),if_pos ⟨rfl,rfl⟩,Option.bind_assoc];exact oi (ih.1 a ha) (fun x b hb=>ih.2 _ b hb) fun x s h=>⟨_,by rw[pI h,SL,cz h]⟩
theorem Hx{N a:Nat}(hN:2*ts.length+4≤N)(ha:a≤ts.length):Ag ts (jK (zLs ts) (ts.drop a)) ((cO ts N).item (a,0,0)):=
 (zy _ N (by rw[SG];omega)).1 a ha
end
section
variable {ts : List Tok} (H : TsV ts)
include H
omit H in
omit H in
omit H in
omit H in
omit H in
omit H in
theorem Fi{N:Nat}(hN:2*ts.length+4≤N):∀(n m:Nat) (l:List It) (a:Nat),n+1≤m->a≤ts.length->Ag ts (iC (fun(l:List It) r=>if r.isEmpty=true then none else some ((jK (zLs ts) r).bind fun x r1=>.ok (l++[x]) r1)) n l (ts.drop a)) (itL ts N m l (a,0,0))
 | 0,m,_,_,_,_=>trivial
 | n+1,0,_,_,h,_=>by omega
 | n+1,m+1,l,a,h,ha=>by
  unfold iC itL;by_cases hs:a<ts.length
  .have he:(ts.drop a).isEmpty=false:=by rw[SH hs];rfl
   simp only[he,hs,Ss,if_false,and_self,if_true];obtain⟨m',rfl⟩:∃m',m=m'+1:=⟨m-1,by omega⟩
   rw[bind_assoc];exact oi (Hx hN ha) (fun x b hb=>Fi hN n (m'+1) _ b (by omega) hb) fun x s h=>⟨_,if_neg fun c=>h c.1⟩
  .have he:(ts.drop a).isEmpty=true:=by rw[List.drop_eq_nil_of_le (by omega)];rfl
   simp only[he,hs,if_true,and_false,if_false];exact gx ha
omit H in
theorem KB{N:Nat}(hN:2*ts.length+4≤N):Ag ts (iD (zLs ts) ts) (itL ts N (ts.length+2) [] (0,0,0)):=by
 have:=Fi hN (ts.length+1) (ts.length+2) [] 0 (by omega) (SK _);rw[List.drop_zero]at this;exact this
end
end Go.Proofs.YtnhphlmblenapaaGreatDoor
