import Derived.Test.YtnhphlmblenapaaGreatDoorRd1
set_option linter.unusedVariables false
set_option linter.unusedSimpArgs false
set_option linter.unusedSectionVars false
set_option maxRecDepth 10000
set_option maxHeartbeats 8000000
open ByteArray renaming size_append->TJ
open Int renaming reduceEq->TK,le_refl->TL,natCast_nonneg->TM,toNat_natCast->TN
open List renaming getElem?_eq_getElem->TO,length_set->TP,append_nil->TQ,getElem?_set_self->TR,length_map->TS,set_set->TT,getElem?_eq_none->TU
namespace Go.Proofs.YtnhphlmblenapaaGreatDoor
open Go.RowKit
structure Sp(σ0:LLV)(i:Nat)(ts:List Tok)(s:PS)(σ:LLV):Prop where
 eq:σ=σ0.set i (rp ts s)
 below:am σ0.length σ0=true
 lt:i<σ0.length
def RP(v:V)(σ:LLV)(i:Nat)(ts:List Tok)(s:PS):Out->LLV->Prop:=fun o σ'=>o=.ret v/\σ'=σ.set i (rp ts s)
section
variable {σ0 σ : LLV} {i : Nat} {ts : List Tok} {s : PS}
theorem Sp.init(hi:σ[i]? = some (rp ts s))(hb:am σ.length σ=true):Sp σ i ts s σ:=⟨(oh hi).symm,hb,(List.getElem?_eq_some_iff.1 hi).1⟩
theorem Sp.len(S:Sp σ0 i ts s σ):σ.length=σ0.length:=by rw[S.eq,TP]
theorem Sp.at_(S:Sp σ0 i ts s σ):σ[i]? = some (rp ts s):=by rw[S.eq,TR S.lt]
theorem Sp.bb(S:Sp σ0 i ts s σ):am σ.length σ=true:=by rw[S.len,S.eq];exact bq S.below rfl
theorem Sp.step(S:Sp σ0 i ts s σ)(s':PS):Sp σ0 i ts s' (σ.set i (rp ts s')):=⟨by rw[S.eq,TT],S.below,S.lt⟩
theorem jO{f:FuncId}{args:List V}{v:V}{s':PS}{l:LLV}{K P:V->LLV->Prop}{tK:Tag K}{tP:Tag P}(S:Sp σ0 i ts s σ)(h:Fun G f args (σ++l) (RP v (σ++l) i ts s'))(hk:∀σ',Sp σ0 i ts s' σ'->σ'.length=σ.length->K v (σ'++l)):fk G f args (σ++l) K P tK tP:=by
 refine aB h fun o σ' ⟨e1,e2⟩=>?_;subst e1;rw[be S.at_]at e2;subst e2;rw[aR];exact hk _ (S.step s') TP
theorem d7{v:V}{s':PS}{σ':LLV}{l:LLV}{rs:List RV}{ρ:aj}(S:Sp σ i ts s' σ')(h:aC (σ'++l) ρ rs=some v)(hv:V.under σ'.length v=true):fin σ'.length rs (RP v σ i ts s') .ret ρ (σ'++l):=by
 have e:σ'=σ.set i (rp ts s'):=S.eq;have hl:=S.len;rw[hl]at hv ⊢;refine bp (τ:=σ.set i (rp ts s')) (bq S.below rfl) h hv (by rw[e,cO]) ⟨rfl,rfl⟩
theorem Ll{v:V}{s':PS}{σ':LLV}{l:LLV}{rs:List RV}{ρ:aj}(S:Sp σ i ts s' σ')(h:aC (σ'++l) ρ rs=some v)(hv:V.under σ'.length v=true):fin σ'.length rs (RP v σ i ts s') .normal ρ (σ'++l):=by
 have e:σ'=σ.set i (rp ts s'):=S.eq;have hl:=S.len;rw[hl]at hv ⊢;refine rG (τ:=σ.set i (rp ts s')) (bq S.below rfl) h hv (by rw[e,cO]) ⟨rfl,rfl⟩
theorem Sp.up(S:Sp σ0 i ts s σ)(h:s.1≤100000000):∃σ',Sp σ0 i ts (upP s) σ'/\σ'.length=σ.length/\IntKind.i64.wrap (((s.1:Nat):Int)+1)=((s.1+1:Nat):Int)/\∀l:LLV,(σ++l).set i [.d (.sl (ts.map di)),aF .i64 ((s.1+1:Nat):Int),.d (ab s.2.1),.d (ab s.2.2)]=σ'++l:=
 ⟨_,S.step (upP s),TP,aA (by omega) (by omega),fun l=>be S.at_ l _⟩
end
def tZ:Tok:=⟨0,0,⟨#[]⟩,0⟩
def kdP(ts:List Tok)(k:Int)(s:PS):Tok×PS:=match (if s.2.2=0 then ts[s.1]? else none)with
 | some t=>if t.kind=k then(t,upP s)else(tZ,eN ts s)
 | none=>(tZ,eN ts s)
section
variable {ts : List Tok} {i : Nat} {s : PS} (H : TsV ts) (σ : LLV) (hi : σ[i]? = some (rp ts s))
include H hi
theorem rD(m:ByteArray):Fun G 70 [.ptr i 0,.d (ai m)] σ (RP (ao (nxP ts m s)) σ i ts (if nxP ts m s=true then upP s else s)):=by
 have hL:=H.ok.len;have hN:=ql H σ hi m;refine ae Tryz.func70 k70 rfl fun hb hw=>?_;have S:=Sp.init hi hb;unfold c70;simp -dsimp only[aw,seval];refine ac hN ?_;have hio:=hi;unfold rp at hio;by_cases hm:nxP ts m s=true
 .rw[hm,if_pos rfl];have hm':(decide (s.2.2=0)&&ax m ts s.1)=true:=hm;have hlt:=bv (m:=m) (Bool.and_eq_true_iff.1 hm').2;rw[hm'];obtain⟨σ1,S1,hl1,hw1,hp⟩:=S.up (by omega);have hp:=hp [];simp only[TQ]at hp;simp -dsimp only[aw,seval,hio,hw1,hp];have:=d7 (v:=ao true) (l:=[]) (rs:=JW) (ρ:=[(4,ao true)]) S1 rfl rfl;rw[TQ,hl1]at this;exact this
 .have hm:=Bool.eq_false_iff.2 hm;have hm':(decide (s.2.2=0)&&ax m ts s.1)=false:=hm;rw[hm,hm',if_neg (by decide)];simp -dsimp only[aw,seval];have:=d7 (v:=ao false) (l:=[]) (rs:=JW) (ρ:=[(4,ao false)]) S rfl rfl;rw[TQ]at this;exact this
theorem yE(m:ByteArray):Fun G 72 [.ptr i 0,.d (ai m)] σ (RP (.tup []) σ i ts (neP ts m s)):=by
 have hT:=rD H σ hi m;have hF:=fe H σ hi;refine ae Tryz.func72 k72 rfl fun hb hw=>?_;have S:=Sp.init hi hb;unfold c72 neP;have hio:=hi;unfold rp at hio
 have done:∀(s':PS) (σ1:LLV) (ρ:aj) rs,Sp σ i ts s' σ1->aC σ1 ρ rs=some (.tup [])->fin σ.length rs (RP (.tup []) σ i ts s') .ret ρ σ1:=fun s' σ1 ρ rs S1 h=>by
  have:=d7 (v:=.tup []) (l:=[]) (rs:=rs) (ρ:=ρ) S1 (by rw[TQ];exact h) rfl;rw[TQ,S1.len]at this;exact this
 have donee:∀(s':PS) (σ1:LLV) (ρ:aj) rs,Sp σ i ts s' σ1->aC σ1 ρ rs=some (.tup [])->fin σ.length rs (RP (.tup []) σ i ts s') .normal ρ σ1:=fun s' σ1 ρ rs S1 h=>by
  have:=Ll (v:=.tup []) (l:=[]) (rs:=rs) (ρ:=ρ) S1 (by rw[TQ];exact h) rfl;rw[TQ,S1.len]at this;exact this
 by_cases he:s.2.2=0
 case neg=>
  rw[if_neg he];simp -dsimp only[aw,seval,hio,decide_eq_false he];exact done _ _ _ _ S rfl
 rw[if_pos he];have e1:nxP ts m s=ax m ts s.1:=by unfold nxP;rw[decide_eq_true he,Bool.true_and]
 rw[e1]at hT;cases hs:ax m ts s.1 with
 | true=>
  rw[hs,if_pos rfl]at hT;rw[if_pos rfl];simp -dsimp only[aw,seval,hio,decide_eq_true he];refine aB hT fun o σ' ⟨g1,g2⟩=>?_;subst g1;subst g2;simp -dsimp only[aw,seval,aR];exact done _ _ _ _ (S.step _) rfl
 | false=>
  rw[hs,if_neg (by decide)]at hT;rw[if_neg (by decide)];simp -dsimp only[aw,seval,hio,decide_eq_true he];refine aB hT fun o σ' ⟨g1,g2⟩=>?_;rw[oh hi]at g2;subst g1;subst g2;simp -dsimp only[aw,seval,aR];refine aB hF fun o σ' ⟨g1,g2⟩=>?_;subst g1;subst g2;simp -dsimp only[aw,seval,aR];exact done _ _ _ _ (S.step _) rfl
theorem qI(k:Int):Fun G 137 [.ptr i 0,.d (ab k)] σ (RP (ea (kdP ts k s).1) σ i ts (kdP ts k s).2):=by
 have hL:=H.ok.len;have hF:=fe H σ hi;refine ae Tryz.func137 RU rfl fun hb hw=>?_;have S:=Sp.init hi hb;have hil:=S.lt;have hio:=fun l=>ah hi l;have hso:=fun X l=>be hi X l;unfold rp at hio hso
 have bad:kdP ts k s=(tZ,eN ts s)->∀(l:LLV) (ρ:aj) (σ1:LLV),Sp σ i ts (eN ts s) σ1->aC (σ1++l) ρ ri=some (ea tZ)->fin σ1.length ri (RP (ea (kdP ts k s).1) σ i ts (kdP ts k s).2) .ret ρ (σ1++l):=fun e l ρ σ1 S1 h=>by
  rw[e];exact d7 S1 h rfl
 unfold Na;by_cases he:s.2.2=0
 case neg=>
  have eS:kdP ts k s=(tZ,eN ts s):=by unfold kdP;rw[if_neg he]
  simp -dsimp only[aw,seval,hio,decide_eq_false he];refine jO S (fe H _ (ah hi _)) fun σ1 S1 hl1=>?_;rw[<-hl1];simp -dsimp only[aw,seval];exact bad eS _ _ _ S1 (by simp[ri,aC,aQ,ea,tZ,aw,seval])
 by_cases hlt:s.1<ts.length
 case neg=>
  have eS:kdP ts k s=(tZ,eN ts s):=by unfold kdP;rw[if_pos he,TU (by omega)]
  have d1:decide (((ts.length:Nat):Int)≤((s.1:Nat):Int))=true:=decide_eq_true (by omega);simp -dsimp only[aw,seval,hio,decide_eq_true he,d1];refine jO S (fe H _ (ah hi _)) fun σ1 S1 hl1=>?_;rw[<-hl1];simp -dsimp only[aw,seval];exact bad eS _ _ _ S1 (by simp[ri,aC,aQ,ea,tZ,aw,seval])
 have d1:decide (((ts.length:Nat):Int)≤((s.1:Nat):Int))=false:=decide_eq_false (by omega);by_cases hk:ts[s.1].kind=k
 case neg=>
  have eS:kdP ts k s=(tZ,eN ts s):=by unfold kdP;rw[if_pos he,TO hlt];exact if_neg hk
  simp -dsimp only[aw,seval,hio,decide_eq_true he,d1,TO hlt,bG,di,decide_eq_false hk];refine jO S (fe H _ (ah hi _)) fun σ1 S1 hl1=>?_;rw[<-hl1];simp -dsimp only[aw,seval];exact bad eS _ _ _ S1 (by simp[ri,aC,aQ,ea,tZ,aw,seval])
 have eS:kdP ts k s=(ts[s.1],upP s):=by unfold kdP;rw[if_pos he,TO hlt];exact if_pos hk
 have hw1:IntKind.i64.wrap (((s.1:Nat):Int)+1)=((s.1+1:Nat):Int):=by rw[aA (by omega) (by omega)];omega
 have hw2:IntKind.i64.wrap (((s.1+1:Nat):Int)-1)=((s.1:Nat):Int):=by rw[aA (by omega) (by omega)];omega
 have hs1:=fun l=>ah (TR (a:=rp ts (upP s)) hil) l;unfold rp at hs1;rw[eS];simp -dsimp only[aw,seval,hio,decide_eq_true he,d1,TO hlt,bG,di,hk,hw1,hw2,decide_true,hso,hs1,eD,ik];refine bp (σ:=σ) (τ:=σ.set i (rp ts (upP s))) (v:=ea ts[s.1]) (bq hb rfl) ?_ rfl ?_ ⟨rfl,rfl⟩
 .simp[ri,aC,aQ,ea,hk,aw,seval]
 .simp[rp]
theorem yQ:Fun G 75 [.ptr i 0] σ (RP (.d (ai (nmP ts s).1)) σ i ts (nmP ts s).2):=by
 have e:nmP ts s=((kdP ts 1 s).1.text,(kdP ts 1 s).2):=by
  unfold nmP kdP;by_cases he:s.2.2=0
  .rw[if_pos he,if_pos he];cases ht:ts[s.1]? with
   | none=>rw[(iI H).2 fun t h=>by rw[ht]at h;cases h];rfl
   | some t=>
    by_cases hk:t.kind=1
    .rw[(iI H).1 t ht hk];simp only[if_pos hk]
    .rw[(iI H).2 fun u h=>by rw[ht]at h;cases h;exact hk];simp only[if_neg hk];rfl
  .rw[if_neg he,if_neg he];rfl
 rw[e];have hK:=qI H σ hi 1;refine ae Tryz.func75 k75 rfl fun hb hw=>?_;have S:=Sp.init hi hb;unfold c75;simp -dsimp only[aw,seval];refine aB hK fun o σ' ⟨g1,g2⟩=>?_;subst g1;subst g2;simp -dsimp only[aw,seval,aR,ea];have:=fun ρ rs h=>d7 (v:=.d (ai (kdP ts 1 s).1.text)) (l:=[]) (rs:=rs) (ρ:=ρ) (S.step (kdP ts 1 s).2) h rfl;rw[TQ,TP]at this;exact this _ _ rfl
theorem uv:Fun G 141 [.ptr i 0] σ (RP (.d (ab (nuP ts s).1)) σ i ts (nuP ts s).2):=by
 have e:nuP ts s=((kdP ts 3 s).1.num,(kdP ts 3 s).2):=by
  unfold nuP kdP;by_cases he:s.2.2=0
  .rw[if_pos he,if_pos he];cases ht:ts[s.1]? with
   | none=>rw[(fv H).2 fun t h=>by rw[ht]at h;cases h];rfl
   | some t=>
    by_cases hk:t.kind=3
    .rw[(fv H).1 t ht hk];simp only[if_pos hk]
    .rw[(fv H).2 fun u h=>by rw[ht]at h;cases h;exact hk];simp only[if_neg hk];rfl
  .rw[if_neg he,if_neg he];rfl
 rw[e];have hK:=qI H σ hi 3;refine ae Tryz.func141 QE rfl fun hb hw=>?_;have S:=Sp.init hi hb;unfold Ou;simp -dsimp only[aw,seval];refine aB hK fun o σ' ⟨g1,g2⟩=>?_;subst g1;subst g2;simp -dsimp only[aw,seval,aR,ea];have:=fun ρ rs h=>d7 (v:=.d (ab (kdP ts 3 s).1.num)) (l:=[]) (rs:=rs) (ρ:=ρ) (S.step (kdP ts 3 s).2) h rfl;rw[TQ,TP]at this;exact this _ _ rfl
end
section
variable {α β : Type} {σ0 σ : LLV} {i : Nat} {ts : List Tok} {s : PS} (H : TsV ts) {l : LLV} {K P : V -> LLV -> Prop} {tK : Tag K} {tP : Tag P}
theorem AR{x:α}{mk:β->V}{p:β×PS}{k:β->PS->α}{f:FuncId}{args:List V}(S:Sp σ0 i ts s σ)(h:Fun G f args (σ++l) (RP (mk p.1) (σ++l) i ts p.2))(hx:x=clM p k)(ht:∀v s2,x=k v s2->(v,s2)=p->∀σ',Sp σ0 i ts s2 σ'->σ'.length=σ.length->K (mk v) (σ'++l)):fk G f args (σ++l) K P tK tP:=
 jO S h fun σ' S' hl=>ht p.1 p.2 hx rfl σ' S' hl
theorem zc{w:α×PS}{mk:β->V}{r:OQ β}{k:β×PS->OQ α}{f:FuncId}{args:List V}(S:Sp σ0 i ts s σ)(h:∀v s2,r=some (v,s2)->Fun G f args (σ++l) (RP (mk v) (σ++l) i ts s2))(hx:some w=r.bind k)(ht:∀v s2,some w=k (v,s2)->r=some (v,s2)->∀σ',Sp σ0 i ts s2 σ'->σ'.length=σ.length->K (mk v) (σ'++l)):fk G f args (σ++l) K P tK tP:=by
 obtain⟨⟨v,s2⟩,e1,e2⟩:=Option.bind_eq_some_iff.1 hx.symm;exact jO S (h v s2 e1) fun σ' S' hl=>ht v s2 e2.symm e1 σ' S' hl
include H
theorem xK{x:α}{k:ByteArray->PS->α}(S:Sp σ0 i ts s σ)(hx:x=nmM ts s k)(ht:∀v s2,x=k v s2->(v,s2)=nmP ts s->∀σ',Sp σ0 i ts s2 σ'->σ'.length=σ.length->K (.d (ai v)) (σ'++l)):fk G 75 [.ptr i 0] (σ++l) K P tK tP:=
 AR (mk:=fun v=>.d (ai v)) S (yQ H _ (ah S.at_ _)) hx ht
theorem sb{x:α}{k:Int->PS->α}(S:Sp σ0 i ts s σ)(hx:x=nuM ts s k)(ht:∀v s2,x=k v s2->(v,s2)=nuP ts s->∀σ',Sp σ0 i ts s2 σ'->σ'.length=σ.length->K (.d (ab v)) (σ'++l)):fk G 141 [.ptr i 0] (σ++l) K P tK tP:=
 AR (mk:=fun v=>.d (ab v)) S (uv H _ (ah S.at_ _)) hx ht
theorem gO{x:α}{m:ByteArray}{k:PS->α}(S:Sp σ0 i ts s σ)(hx:x=neM ts m s k)(ht:∀s2,x=k s2->∀σ',Sp σ0 i ts s2 σ'->σ'.length=σ.length->K (.tup []) (σ'++l)):fk G 72 [.ptr i 0,.d (ai m)] (σ++l) K P tK tP:=
 jO S (yE H _ (ah S.at_ _) m) fun σ' S' hl=>ht _ hx σ' S' hl
theorem oj{m:ByteArray}(S:Sp σ0 i ts s σ)(ht:nxP ts m s=true->∀σ',Sp σ0 i ts (upP s) σ'->σ'.length=σ.length->K (ao true) (σ'++l))(hf:nxP ts m s=false->K (ao false) (σ++l)):fk G 70 [.ptr i 0,.d (ai m)] (σ++l) K P tK tP:=by
 have h:=rD H (σ++l) (ah S.at_ l) m;cases hm:nxP ts m s with
 | true=>
  rw[hm,if_pos rfl]at h;exact jO S h fun σ' S' hl=>ht hm σ' S' hl
 | false=>
  rw[hm,if_neg (by decide)]at h;refine aB h fun o σ' ⟨e1,e2⟩=>?_;subst e1;rw[oh (ah S.at_ l)]at e2;subst e2;rw[aR];exact hf hm
theorem pG{x:α}{m:ByteArray}{y:PS->α}{n:α}(S:Sp σ0 i ts s σ)(hx:x=opM ts m s y n)(ht:nxP ts m s=true->x=y (upP s)->∀σ',Sp σ0 i ts (upP s) σ'->σ'.length=σ.length->K (ao true) (σ'++l))(hf:nxP ts m s=false->x=n->K (ao false) (σ++l)):fk G 70 [.ptr i 0,.d (ai m)] (σ++l) K P tK tP:=
 oj H S (fun hm=>ht hm (by rw[hx];exact if_pos hm)) fun hm=>hf hm (by rw[hx];exact if_neg (by rw[hm];decide))
end
end Go.Proofs.YtnhphlmblenapaaGreatDoor
namespace Go.Proofs.YtnhphlmblenapaaGreatDoor
open Go.RowKit
theorem Ed(ts:List Tok)(a:Nat):0≤(fO ts a).2.1:=by
 unfold fO iP;split
 .split
  .exact TM _
  .split
   .exact TM _
   .exact TL _
  .exact TL _
 .exact TL _
theorem OH{ts:List Tok}(H:TsV ts)(s:PS):(nmP ts s).1.size≤1000:=by
 unfold nmP;split
 .rename_i p hp;split at hp
  .have hl:=i7 (ts:=ts) (a:=s.1) (by rw[hp];rfl);rw[fM hl]at hp;split at hp
   .cases hp;exact H.ok.size _ (List.getElem_mem hl)
   .cases hp
  .cases hp
 .exact Nat.zero_le _
theorem J5{ts:List Tok}(s:PS):0≤(nuP ts s).1/\(nuP ts s).1≤2147483647:=by
 unfold nuP;split
 .rename_i p hp;split at hp
  .exact At (n:=p.1) (r:=p.2) hp
  .cases hp
 .show(0:Int)≤0/\(0:Int)≤2147483647;exact⟨by decide,by decide⟩
theorem Hg(n:Nat)(v:Ex):V.under n (vex v)=true:=by rw[au];rfl
theorem Cc{ts:List Tok}(H:TsV ts)(h9:ts.length≤1100000)(a:Nat)(σ:LLV):Fun G 136 [.d (.sl (ts.map di)),.d (ab a)] σ (aN (iu (fO ts a)) σ):=by
 by_cases ha:a≤ts.length
 .have e:fO ts a=iP ts.length (ts.drop a):=if_pos ha;rw[e];exact FR H h9 ha σ
 have e:fO ts a=(z0,0,1):=if_neg ha;rw[e,gE];refine ae Tryz.func136 Og rfl fun hb hw=>?_;have d0:decide (((a:Nat):Int)<0)=false:=decide_eq_false (by omega);have d1:decide (((ts.length:Nat):Int)<((a:Nat):Int))=true:=decide_eq_true (by omega);unfold K5;simp -dsimp only[aw,seval,d0,d1];exact az hb (by simp[xv,aC,bZ,aQ,z0,bt,aU,aH,aI,aw,seval]) (by simp[V.under,V.unders]) List.take_left ⟨rfl,rfl⟩
section
variable {ts : List Tok} {i : Nat} {s : PS} (H : TsV ts) (σ : LLV) (hi : σ[i]? = some (rp ts s))
include H hi
theorem zv(h9:ts.length≤1100000):Fun G 73 [.ptr i 0] σ (RP (vex (exP ts s).1) σ i ts (exP ts s).2):=by
 have hT:=fun σ=>Cc H h9 s.1 σ;have hnn:=Ed ts s.1;obtain⟨p,ln,er⟩:=s;have hil:=(List.getElem?_eq_some_iff.1 hi).1;refine ae Tryz.func73 k73 rfl fun hb hw=>?_;have S:=Sp.init hi hb;have hio:=fun l=>ah hi l;have hso:=fun X l=>be hi X l;unfold rp at hio hso
 have done:∀{v:Ex} {s':PS} {l:LLV} {ρ:aj} {σ1:LLV},exP ts (p,ln,er)=(v,s')->Sp σ i ts s' σ1->aC (σ1++l) ρ rg=some (vex v)->fin σ1.length rg (RP (vex (exP ts (p,ln,er)).1) σ i ts (exP ts (p,ln,er)).2) .ret ρ (σ1++l):=fun{v s' l ρ σ1} e S1 h=>by
  rw[e];exact d7 S1 h (Hg _ _)
 unfold c73;by_cases he:er=0
 case neg=>
  simp -dsimp only[aw,seval,hio,decide_eq_false he];exact done (Ft he) S (by rw[jQ];simp[rg,aC,aQ,aw,seval])
 subst he;have hE:exP ts (p,ln,0)=if(fO ts p).2.2=0 then((fO ts p).1,((fO ts p).2.1.toNat,ln,0))else(z0,(p,lnX ts (p,ln,0) (fO ts p).2.1 (fO ts p).2.2,(fO ts p).2.2)):=if_pos rfl
 simp only at hT hnn;generalize fO ts p=X at *;obtain⟨x,at_,e⟩:=X;simp only at hnn hE;obtain⟨n,rfl⟩:=Int.eq_ofNat_of_zero_le hnn;rw[TN]at hE;have hs1:=fun(s':PS) l=>ah (TR (a:=rp ts s') hil) l;have hs2:=fun(s':PS) X l=>be (TR (a:=rp ts s') hil) X l;simp -dsimp only[aw,seval,hio];refine bo (hT _) ?_;simp -dsimp only[aw,seval,iu,au,z0,bt,aU,aH,aI];refine bg (bg (bo (hT _) ?_) ?_) ?_
 .simp -dsimp only[aw,seval,iu,au,z0,bt,aU,aH,aI]
 .simp -dsimp only[aw,seval,hio]
 by_cases e0:e=0
 .subst e0;rw[if_pos rfl]at hE;have S1:=S.step (n,ln,0);simp -dsimp only[aw,seval,gE,hio,hso,eD,ik,mN,mD];have:=fun l ρ h=>done (l:=l) (ρ:=ρ) hE S1 h;unfold rp at this;rw[TP]at this;refine this _ _ ?_;rw[au];simp[rg,aC,aQ,aw,seval]
 rw[if_neg e0]at hE
 have fin:∀(ln':Int) l ρ,lnX ts (p,ln,0) ((n:Nat):Int) e=ln'->aC (σ.set i (rp ts (p,ln',e))++l) ρ rg=some (vex z0)->fin σ.length rg (RP (vex (exP ts (p,ln,0)).1) σ i ts (exP ts (p,ln,0)).2) .ret ρ (σ.set i (rp ts (p,ln',e))++l):=fun ln' l ρ h1 h=>by
  rw[h1]at hE;have:=done hE (S.step (p,ln',e)) h;rwa[TP]at this
 by_cases e6:e=6
 .subst e6;have hla:=fun l=>tQ (s:=(p,ln,6)) H (σ.set i (rp ts (p,ln,6))++l) (hs1 _ l);have hs1:=hs1 (p,ln,6);have hs2:=hs2 (p,ln,6);have fin:=fun l ρ=>fin (zLs ts) l ρ (if_pos rfl);unfold rp at hla hs1 hs2 fin;simp -dsimp only[aw,seval,gE,hio,hso,eD,ik,mN,mD];refine ac (hla _) ?_;simp -dsimp only[aw,seval,hs1,hs2,TT,eD,ik,mN,mD];exact fin _ _ (by rw[jQ];simp[rg,aC,aQ,eD,aw,seval])
 have d6:=decide_eq_false e6;by_cases c:(e=5\/e=3)/\n<ts.length
 .obtain⟨c5,hn⟩:=c;have dn:decide (((n:Nat):Int)<((ts.length:Nat):Int))=true:=decide_eq_true (by omega);have dg:decide ((0:Int)≤((n:Nat):Int))=true:=decide_eq_true (by omega);have fin:=fun l ρ=>fin ts[n].line l ρ (by unfold lnX;rw[if_neg e6,if_pos ⟨c5,by omega,by omega⟩,TN,TO hn]);have hs1:=hs1 (p,ln,e);have hs2:=hs2 (p,ln,e);unfold rp at hs1 hs2 fin;rcases c5 with rfl|rfl
  all_goals
   simp -dsimp only[aw,seval,gE,hio,hso,TK,decide_true,decide_false,eD,ik,mN,mD,hs1,hs2,TT,dn,dg,TO hn,bG,di];exact fin _ _ (by rw[jQ];simp[rg,aC,aQ,eD,aw,seval])
 .have fin:=fun l ρ=>fin ln l ρ (by unfold lnX;rw[if_neg e6,if_neg fun h=>c ⟨h.1,by omega⟩]);have hs1:=hs1 (p,ln,e);unfold rp at hs1 fin;by_cases c5:e=5\/e=3
  .have hn:¬n<ts.length:=fun h=>c ⟨c5,h⟩;have dn:decide (((n:Nat):Int)<((ts.length:Nat):Int))=false:=decide_eq_false (by omega);have dg:decide ((0:Int)≤((n:Nat):Int))=true:=decide_eq_true (by omega);rcases c5 with rfl|rfl
   all_goals
    simp -dsimp only[aw,seval,gE,hio,hso,eD,ik,mN,mD,hs1,dn,dg];exact fin _ _ (by rw[jQ];simp[rg,aC,aQ,eD,aw,seval])
  .have d5:decide (e=5)=false:=decide_eq_false fun h=>c5 (.inl h);have d3:decide (e=3)=false:=decide_eq_false fun h=>c5 (.inr h);simp -dsimp only[aw,seval,gE,hio,hso,decide_eq_false e0,d6,d5,d3,eD,ik,mN,mD,hs1];exact fin _ _ (by rw[jQ];simp[rg,aC,aQ,eD,aw,seval])
theorem jS:Fun G 134 [.ptr i 0] σ (RP (.d (ai (tgP ts s).1)) σ i ts (tgP ts s).2):=by
 refine ae Tryz.func134 RN rfl fun hb hw=>?_;have S:=Sp.init hi hb;obtain⟨w,hx⟩:∃w,w=tgP ts s:=⟨_,rfl⟩
 rw[<-hx];unfold tgP at hx;unfold MI;simp -dsimp only[aw,seval];refine eV (xK H S hx fun x s1 hx hv σ1 S1 hl1=>?_);have hsz:=OH H s;rw[<-hv]at hsz;simp only at hsz;rw[<-hl1];simp -dsimp only[aw,seval];refine pG (m:=aa 91) H S1 hx (fun hm hx σ2 S2 hl2=>?_) (fun hm hx=>?_)
 case refine_2=>
  simp -dsimp only[aw,seval];rw[hx];exact d7 S1 rfl rfl
 rw[<-hl2];simp -dsimp only[aw,seval];refine sb H S2 hx fun n s3 hx hv σ3 S3 hl3=>?_;have hn:=J5 (ts:=ts) (upP s1);rw[<-hv]at hn;simp only at hn;have hl10:=qd n hn.1 hn.2;have hI:=fun σ=>vt n (by omega) (by omega) (by omega) σ;rw[<-hl3];simp -dsimp only[aw,seval];refine ac (hI _) ?_;have hb10:(bs (Lib.itoa n)).size≤10:=by rw[aG];exact hl10
 have c1:(⟨#[91]⟩:ByteArray).size+(bs (Lib.itoa n)).size≤9223372036854775807:=by show 1+_≤_;omega
 have c2:((⟨#[91]⟩:ByteArray)++bs (Lib.itoa n)).size+(⟨#[93]⟩:ByteArray).size≤9223372036854775807:=by rw[TJ];show 1+_+1≤_;omega
 have c3:x.size+((⟨#[91]⟩:ByteArray)++bs (Lib.itoa n)++⟨#[93]⟩).size≤9223372036854775807:=by rw[TJ,TJ];show x.size+(1+_+1)≤_;omega
 have c4:=sU x hn.1;simp -dsimp only[aw,seval,c1,c2,c3,c4];refine gO (m:=aa 93) H S3 hx fun s4 hx σ4 S4 hl4=>?_;rw[<-hl4];simp -dsimp only[aw,seval];rw[hx];exact d7 S4 rfl rfl
theorem mr{l0:List ByteArray}{s':PS}(h:xB ts s=some (l0,s')):Fun G 76 [.ptr i 0] σ (RP (.d (.sl (l0.map fun s=>[ai s]))) σ i ts s'):=by
 refine ae Tryz.func76 k76 rfl fun hb hw=>?_;have S:=Sp.init hi hb;have hL:=H.ok.len;unfold xB at h;unfold c76;simp -dsimp only[aw,seval];refine eV (AR (mk:=fun x=>.d (ai x)) S (jS H _ (ah hi _)) h.symm fun x s1 h _ σ1 S1 hl1=>?_);rw[<-hl1];simp -dsimp only[aw,seval];refine aL [0,3] (R:=fun(j:Nat) ρ σ'=>∃(s2:PS) (l:List ByteArray) (σ2:LLV),ρ=[(0,.ptr i 0),(3,.own 9 1 (l.map fun s=>[ai s]))]/\σ'=σ2++[]/\Sp σ i ts s2 σ2/\σ2.length=σ1.length/\l.length=j+1/\some (l0,s')=tgL ts (ts.length+2-j) l s2) (ts.length+1) ⟨s1,[x],σ1,rfl,rfl,S1,rfl,rfl,h⟩ ?_ _;rintro j ρ' σ' hj ⟨s2,l,σ2,rfl,rfl,S2,hl2,h5,h⟩;obtain⟨m,hm⟩:∃m,ts.length+2-j=m+1:=⟨ts.length+1-j,by omega⟩
 rw[hm]at h;unfold tgL at h;rw[<-hl2];simp -dsimp only[aw,seval];refine pG (m:=aa 44) H S2 h (fun hm2 h σ3 S3 hl3=>?_) (fun hm2 h=>?_)
 case refine_2=>
  cases h;simp -dsimp only[aw,seval];exact d7 S2 rfl rfl
 rw[<-hl3];simp -dsimp only[aw,seval];refine AR (mk:=fun x=>.d (ai x)) S3 (jS H _ (ah S3.at_ _)) h fun x s3 h _ σ4 S4 hl4=>?_;rw[<-hl4];simp -dsimp only[aw,seval];refine bg (by omega) ?_;simp -dsimp only[aw,seval]
 have hlt:j<ts.length+1:=Classical.byContradiction fun hc=>by
  have:m=0:=by omega
  subst this;cases h
 exact⟨hlt,Nxt.same (by simp) (aq S4.bb rfl) (by simp[an,V.under,S4.len];exact S4.lt) ⟨s3,l++[x],σ4,by simp,rfl,S4,by rw[hl4,hl3,hl2],by simp[h5],by rw[show ts.length+2-(j+1)=m by omega];exact h⟩⟩
theorem uR:Fun G 135 [.ptr i 0] σ (RP (.agg ((dwt (wtP ts s).1).map V.d)) σ i ts (wtP ts s).2):=by
 refine ae Tryz.func135 SB rfl fun hb hw=>?_;have S:=Sp.init hi hb;obtain⟨x,hx⟩:∃x,x=wtP ts s:=⟨_,rfl⟩
 rw[<-hx];unfold wtP at hx;unfold NG
 refine eW 5 (fun ρ σ'=>∃(lo hi:Int) (s2:PS) (σ2:LLV),(ρ=[(0,.ptr i 0),(2,.ptr σ2.length 0),(3,.ptr (σ2.length+1) 0)]\/ρ=[(0,.ptr i 0),(2,.ptr σ2.length 0),(3,.ptr (σ2.length+1) 0),(12,ao false)])/\σ'=σ2++[w4 0 0 0 false,w4 lo hi 0 false]/\Sp σ i ts s2 σ2/\
  x=clM (eaB ts s2) fun b s3=>nuM ts s3 fun w s4=>(⟨lo,hi,w,b⟩,s4)) ?_ ?_
 .simp only[fN];simp -dsimp only[aw,seval];refine sb H S hx fun lo s1 hx _ σ1 S1 hl1=>?_;rw[<-hl1];simp -dsimp only[aw,seval];unfold hiP at hx;refine oj (m:=ba 46 46) H S1 (fun hm σ2 S2 hl2=>?_) (fun hm=>?_)
  .unfold clM opM at hx;rw[if_pos hm]at hx;rw[<-hl2];simp -dsimp only[aw,seval];refine sb H S2 (k:=fun hi s2=>clM (eaB ts s2) fun b s3=>nuM ts s3 fun w s4=>((⟨lo,hi,w,b⟩:Wt),s4)) hx fun hi2 s3 hx _ σ1 S1 hl1=>?_;rw[<-hl1];simp -dsimp only[aw,seval];exact Mid.mk ⟨lo,hi2,s3,σ1,.inl rfl,rfl,S1,hx⟩
  .unfold clM opM at hx;rw[if_neg (by rw[hm];decide)]at hx;simp -dsimp only[aw,seval];exact Mid.mk ⟨lo,lo,s1,σ1,.inr rfl,rfl,S1,hx⟩
 .simp only[fN];rintro ρ' σ' ⟨lo,hi2,s2,σ2,hρ,rfl,S2,hx⟩;rw[<-S2.len];unfold w4
  refine eW 2 (fun ρ σ'=>∃(b:Bool) (s2:PS) (σ2:LLV),(ρ=[(0,.ptr i 0),(2,.ptr σ2.length 0),(3,.ptr (σ2.length+1) 0)]\/ρ=[(0,.ptr i 0),(2,.ptr σ2.length 0),(3,.ptr (σ2.length+1) 0),(21,ao false)])/\σ'=σ2++[w4 0 0 0 false,w4 lo hi2 0 b]/\Sp σ i ts s2 σ2/\
   x=nuM ts s2 fun w s4=>(⟨lo,hi2,w,b⟩,s4)) ?_ ?_
  .simp only[fN];unfold eaB clM opM at hx;rcases hρ with rfl|rfl
   all_goals
    simp -dsimp only[aw,seval];refine oj (m:=ba 58 61) H S2 (fun hm σ1 S1 hl1=>?_) (fun hm=>?_)
    .rw[if_pos hm]at hx;rw[<-hl1];simp -dsimp only[aw,seval,Bool.not_true];exact Mid.mk ⟨true,upP s2,σ1,.inr rfl,rfl,S1,hx⟩
    .rw[if_neg (by rw[hm];decide)]at hx;simp -dsimp only[aw,seval,Bool.not_false];refine gO (m:=ba 58 47) (k:=fun s3=>nuM ts s3 fun w s4=>((⟨lo,hi2,w,false⟩:Wt),s4)) H S2 hx fun s3 hx σ1 S1 hl1=>?_;rw[<-hl1];simp -dsimp only[aw,seval];exact Mid.mk ⟨false,s3,σ1,.inl rfl,rfl,S1,hx⟩
  .simp only[fN];rintro ρ' σ' ⟨b,s3,σ3,hρ,rfl,S3,hx⟩;rw[S2.len,<-S3.len];unfold w4;rcases hρ with rfl|rfl
   all_goals
    simp -dsimp only[aw,seval];refine sb H S3 hx fun w s4 hx _ σ1 S1 hl1=>?_;rw[<-hl1];simp -dsimp only[aw,seval];rw[hx];exact d7 S1 (by simp[Jt,aC,aQ,dwt,aw,seval]) rfl
end
end Go.Proofs.YtnhphlmblenapaaGreatDoor
namespace Go.Proofs.YtnhphlmblenapaaGreatDoor
open Go.RowKit
section
variable {σ0 σ : LLV} {i : Nat} {ts : List Tok} {s s' : PS} {l l' : LLV} {n0 : Nat} {ρ0 : aj} {Q : bV}
theorem HJ{b p os fo f T kk by_ q:Nat}{ex:List V}{cs:List V}{rows:LLD}{v:V}{r:List D}(S:Sp σ0 i ts s σ)(hup:Up (σ++l) (σ++l'))
 (hf:∀σ:LLV,σ[i]? = some (rp ts s)->Fun G f (.ptr i 0::ex.map V.lend) σ (RP v σ i ts s'))(hp:get ρ0 p=.ptr i 0)(ho:get ρ0 os=.ptr (σ.length+q) 0)(hpb:p<b)(hosb:os<b)(hl:l'[q]? = some cs)(hc:cs[fo]? = some (.own T kk rows))
 (hr:dw [v]=some [r])(hk:r.length=kk)(hby:(rows.length+1)*by_≤140737488355328)
 (ht:∀σ',Sp σ0 i ts s' σ'->σ'.length=σ.length->Q .normal (st8 ρ0 T kk i (σ'.length+q) fo b rows r v fun _=>true) (σ'++l'.set q (cs.set fo (.own T kk (rows++[r]))))):ib G n0 (Hy b p os fo f ex T kk by_) es8 ρ0 (σ++l) Q:=by
 refine GL hup ?_;have hil:=S.lt;rw[<-S.len]at hil;have hio:i≠σ.length+q:=by omega
 have hob:(σ++l')[σ.length+q]? = some cs:=by rw[List.getElem?_append_right (by omega),Nat.add_sub_cancel_left];exact hl
 have hii:(σ++l')[i]? = some (rp ts s):=ah S.at_ _
 have hset:∀(P X:List V),(((σ++l').set i P).set (σ.length+q) X)=σ.set i P++l'.set q X:=fun P X=>by
  rw[List.set_append_left _ _ hil,List.set_append_right _ _ (by simp),TP,Nat.add_sub_cancel_left]
 refine ki (ρ0:=ρ0) (σ0:=σ++l') (T:=T) (k:=kk) (i:=i) (o:=σ.length+q) (fo:=fo) (b:=b) (cs:=cs) (rows:=rows) (v:=v) (r:=r) (P:=rp ts s') true (fun _ _=>True) hp ho hpb hosb hio hob hc (fun σ' h=>(hf σ' (by rw[h,hii])).mono fun out σ'' hq=>?_) hr hk hby (fun _=>?_) (fun h=>by cases h)
 .rw[if_pos rfl];exact hq
 .rw[hset];have:=ht _ (S.step s') TP;rw[TP]at this;exact this
end
section
variable {ts : List Tok} {i : Nat} {s : PS} (H : TsV ts) (σ : LLV) (hi : σ[i]? = some (rp ts s))
include H hi
theorem yi{v:It}{s':PS}(h:Bv ts s=some (v,s')):Fun G 71 [.ptr i 0] σ (RP (vit v) σ i ts s'):=by
 refine ae Tryz.func71 k71 rfl fun hb hw=>?_;have S:=Sp.init hi hb;have hL:=H.ok.len;replace h:=h.symm;unfold Bv at h;unfold c71;simp -dsimp only[aw,seval];refine AR (mk:=fun x=>.d (ai x)) S (jS H _ (ah hi _)) h fun x s1 h _ σ1 S1 hl1=>?_;rw[<-hl1];simp -dsimp only[aw,seval];refine gO (m:=aa 123) H S1 h fun s2 h σ2 S2 hl2=>?_;rw[<-hl2];obtain⟨⟨lw,s3⟩,e1,h⟩:=Option.bind_eq_some_iff.1 h.symm;replace h:=h.symm;simp only at h;simp -dsimp only[aw,seval]
 refine i8 [0,2,3,4] (fun(j:Nat) ρ σ'=>∃(σ4:LLV),σ4.length=σ2.length/\
  ((∃(s4:PS) (l:List Wt),ρ=[(0,.ptr i 0),(2,.ptr σ4.length 0),(3,.ptr (σ4.length+1) 0),(4,ao true)]/\σ'=σ4++[z12,d12 x (.own 56 4 (l.map dwt))]/\Sp σ i ts s4 σ4/\l.length=j/\some (lw,s3)=wtL ts (ts.length+2-j) l s4)\/
    (ρ=[(0,.ptr i 0),(2,.ptr σ4.length 0),(3,.ptr (σ4.length+1) 0),(4,ao false)]/\σ'=σ4++[z12,d12 x (.own 56 4 (lw.map dwt))]/\Sp σ i ts s3 σ4))) (ts.length+2)
  (rL (cs:=d12 x .nil) (fo:=7) (q:=1) 56 4 rfl rfl) ⟨σ2,rfl,.inl ⟨s2,[],rfl,rfl,S2,rfl,e1.symm⟩⟩ ?_ _
 rintro j ρ' σ' hj ⟨σ4,hl4,⟨s4,l,rfl,rfl,S4,hl,e1⟩|⟨rfl,rfl,S4⟩⟩
 .obtain⟨m,hm⟩:∃m,ts.length+2-j=m+1:=⟨ts.length+1-j,by
   have:ts.length+2-j≠0:=fun h0=>by rw[h0]at e1;cases e1
   omega⟩
  rw[hm]at e1;unfold wtL clM at e1;rw[<-hl4];unfold z12 d12;simp -dsimp only[aw,seval];refine oi (show ib _ _ _ _ _ _ _ from HJ (b:=13) (p:=0) (os:=3) (fo:=7) (f:=135) (ex:=[]) (T:=56) (kk:=4) (by_:=32) (q:=1) (rows:=l.map dwt) (v:=.agg ((dwt (wtP ts s4).1).map V.d)) (r:=dwt (wtP ts s4).1) (s':=(wtP ts s4).2) S4 (.refl _) (fun σ h=>uR H σ h) rfl rfl (by decide) (by decide) rfl rfl (jf _) (uK _) (by rw[TS];omega) fun σ5 S5 hl5=>?_);generalize wtP ts s4=p at *;obtain⟨w,s5⟩:=p;simp only at S5 e1 ⊢;rw[<-hl5];simp -dsimp only[aw,seval,st8];refine pG (m:=aa 44) H S5 e1 (fun hm2 e1 σ6 S6 hl6=>?_) (fun hm2 e1=>?_)
  .rw[<-hl6];simp -dsimp only[aw,seval];refine⟨by omega,Nxt.same (by simp) (aq S6.bb rfl) (by have:=S6.lt;simp[an,V.under,S6.len];omega) ⟨σ6,by rw[hl6,hl5,hl4],.inl ⟨upP s5,l++[w],rfl,by simp[z12,d12],S6,by simp[hl],by rw[show ts.length+2-(j+1)=m by omega];exact e1⟩⟩⟩
  .cases e1;simp -dsimp only[aw,seval];refine⟨by omega,Nxt.same (by simp) (aq S5.bb rfl) (by have:=S5.lt;simp[an,V.under,S5.len];omega) ⟨σ5,by rw[hl5,hl4],.inr ⟨rfl,by simp[z12,d12],S5⟩⟩⟩
 .rw[<-hl4];unfold z12 d12;simp -dsimp only[aw,seval];refine gO (m:=aa 125) H S4 h fun s5 h σ5 S5 hl5=>?_;rw[<-hl5];simp -dsimp only[aw,seval];refine gO (m:=aa 59) H S5 h fun s6 h σ6 S6 hl6=>?_;rw[<-hl6];simp -dsimp only[aw,seval];cases h;exact d7 S6 (by rw[aM];simp[N7,aC,aQ,eM,jr,eG,gm,jb,dA,ga,gy,gw,exZ,bt,aU,aH,aI,aw,seval]) (by rw[aM];rfl)
end
end Go.Proofs.YtnhphlmblenapaaGreatDoor
namespace Go.Proofs.YtnhphlmblenapaaGreatDoor
open Go.RowKit
def ItC(ts:List Tok)(n:Nat):Prop:=∀(s s':PS) (v:It),(cI ts n).item s=some (v,s')->∀(σ:LLV) (i:Nat),σ[i]? = some (rp ts s)->Fun G 29 [.ptr i 0] σ (RP (vit v) σ i ts s')
def BdC(ts:List Tok)(n:Nat):Prop:=∀(s s':PS) (v:List It),bdP ts (cI ts n) s=some (v,s')->∀(σ:LLV) (i:Nat),σ[i]? = some (rp ts s)->Fun G 74 [.ptr i 0] σ (RP (.d (.sl (v.map dit))) σ i ts s')
section
variable {ts : List Tok} (H : TsV ts) (h9 : ts.length ≤ 1100000)
include H
theorem DY{i:Nat}{s:PS}(σ:LLV)(hi:σ[i]? = some (rp ts s))(m:ByteArray):Fun G 133 [.ptr i 0,.d (ai m)] σ (aN (ao (nxP ts m s)) σ):=ql H σ hi m
theorem o6{n:Nat}(hn:n≤100000000)(hI:∀m,m<n->ItC ts m):BdC ts n:=fun s s' v h σ i hi=>by
 refine ae Tryz.func74 k74 rfl fun hb hw=>?_;have S:=Sp.init hi hb;replace h:=h.symm;unfold bdP at h;unfold c74;simp -dsimp only[aw,seval];refine eV (gO (m:=aa 123) H S h fun s1 h σ1 S1 hl1=>?_);obtain⟨⟨lw,s3⟩,e1,h⟩:=Option.bind_eq_some_iff.1 h.symm;replace h:=h.symm;simp only at h;rw[<-hl1];simp -dsimp only[aw,seval];refine aL [0,3] (R:=fun(j:Nat) ρ σ'=>∃(s2:PS) (l:List It) (σ2:LLV),ρ=[(0,.ptr i 0),(3,.own 54 12 (l.map dit))]/\σ'=σ2++[]/\Sp σ i ts s2 σ2/\σ2.length=σ1.length/\l.length=j/\(cI ts (n-j)).rest l s2=some (lw,s3)) n ⟨s1,[],σ1,rfl,rfl,S1,rfl,rfl,e1⟩ ?_ _;rintro j ρ' σ' hj ⟨s2,l,σ2,rfl,rfl,S2,hl2,h5,e1⟩
 obtain⟨m,hm⟩:∃m,n-j=m+1:=⟨n-j-1,by
  have:n-j≠0:=fun h0=>by rw[h0]at e1;cases e1
  omega⟩
 rw[hm]at e1;replace e1:(if s2.2.2=0/\nxP ts (aa 125) s2=false then((cI ts m).item s2).bind fun p=>(cI ts m).rest (l++[p.1]) p.2 else some (l,s2))=some (lw,s3):=e1;have hio:=fun l=>ah S2.at_ l;unfold rp at hio;have hN:=fun l=>DY H (σ2++l) (ah S2.at_ l) (aa 125);unfold aa at hN;rw[<-hl2];have leave:some (l,s2)=some (lw,s3)->some (v,s')=neM ts (aa 125) s2 fun s3=>some (l,s3):=fun e=>by cases e;exact h
 by_cases he:s2.2.2=0
 case neg=>
  rw[if_neg fun c=>he c.1]at e1;have h:=leave e1;simp -dsimp only[aw,seval,hio,decide_eq_false he];refine gO (m:=aa 125) H S2 h fun s5 h σ5 S5 hl5=>?_;rw[<-hl5];cases h;simp -dsimp only[aw,seval];exact d7 S5 rfl rfl
 cases hx:nxP ts (aa 125) s2 with
 | true=>
  rw[if_neg fun c=>by rw[hx]at c;cases c.2]at e1;have h:=leave e1;have hx':nxP ts ⟨#[125]⟩ s2=true:=hx;rw[hx']at hN;simp -dsimp only[aw,seval,hio,decide_eq_true he];refine ac (hN _) ?_;simp -dsimp only[aw,seval,Bool.not_true];refine gO (m:=aa 125) H S2 h fun s5 h σ5 S5 hl5=>?_;rw[<-hl5];cases h;simp -dsimp only[aw,seval];exact d7 S5 rfl rfl
 | false=>
  rw[if_pos ⟨he,hx⟩]at e1;have hx':nxP ts ⟨#[125]⟩ s2=false:=hx;rw[hx']at hN;simp -dsimp only[aw,seval,hio,decide_eq_true he];refine ac (hN _) ?_;simp -dsimp only[aw,seval,Bool.not_false];refine zc (mk:=vit) S2 (fun v s2 h=>hI m (by omega) _ _ v h _ _ (ah S2.at_ _)) e1.symm fun y s4 e1 _ σ4 S4 hl4=>?_;rw[<-hl4];simp -dsimp only[aw,seval,aM];refine bg (by omega) ?_;simp -dsimp only[aw,seval];refine⟨by omega,Nxt.same (by simp) (aq S4.bb rfl) (by simp[an,V.under,S4.len];exact S4.lt) ⟨s4,l++[y],σ4,by rw[List.map_append,List.map_cons,List.map_nil,dB],rfl,S4,by rw[hl4,hl2],by simp[h5],by rw[show n-(j+1)=m by omega];exact e1.symm⟩⟩
include h9
theorem Km{α:Type}{σ0 σ:LLV}{i:Nat}{s:PS}{l:LLV}{K P:V->LLV->Prop}{tK:Tag K}{tP:Tag P}{x:α}{k:Ex->PS->α}(S:Sp σ0 i ts s σ)(hx:x=exM ts s k)(ht:∀v s2,x=k v s2->(v,s2)=exP ts s->∀σ',Sp σ0 i ts s2 σ'->σ'.length=σ.length->K (vex v) (σ'++l)):fk G 73 [.ptr i 0] (σ++l) K P tK tP:=
 AR (mk:=vex) S (zv H _ (ah S.at_ _) h9) hx ht
theorem xw{n:Nat}(hB:BdC ts n):ItC ts (n+1):=fun s s' v h σ i hi=>by
 refine ae Tryz.func29 k29 rfl fun hb hw=>?_;have S:=Sp.init hi hb;replace h:some (v,s')=opM ts qf s (Bv ts) (opM ts ifW s (ifP ts (cI ts n)) (opM ts qx s (eaP ts (cI ts n)) (opM ts mQ s (soP ts) (opM ts mo s (plP ts 2) (plP ts 1 s))))):=h.symm;have hBd:=fun{s:PS} {σ1:LLV} (S1:Sp σ i ts s σ1) (l:LLV) (v:List It) s' h=>hB s s' v h (σ1++l) i (ah S1.at_ l);unfold c29;simp -dsimp only[aw,seval];refine pG (m:=qf) H S h (fun hm h σ1 S1 hl1=>?_) (fun hm h=>?_)
 .rw[<-hl1];simp -dsimp only[aw,seval];refine jO S1 (yi H _ (ah S1.at_ _) h.symm) fun σ2 S2 hl2=>?_;rw[<-hl2];simp -dsimp only[aw,seval,aM];exact d7 S2 (by simp[wN,aC,aQ,aw,seval]) rfl
 simp -dsimp only[aw,seval];refine pG (m:=ifW) H S h (fun hm h σ1 S1 hl1=>?_) (fun hm h=>?_)
 .unfold ifP at h;rw[<-hl1];simp -dsimp only[aw,seval];refine gO (m:=aa 40) H S1 h fun s2 h σ2 S2 hl2=>?_;rw[<-hl2];simp -dsimp only[aw,seval];refine Km H h9 S2 h fun x s3 h _ σ3 S3 hl3=>?_;rw[<-hl3];simp -dsimp only[aw,seval,au];refine gO (m:=aa 41) H S3 h fun s4 h σ4 S4 hl4=>?_;rw[<-hl4];simp -dsimp only[aw,seval];refine zc (mk:=fun l=>.d (.sl (l.map dit))) S4 (hBd S4 _) h fun p s5 h _ σ5 S5 hl5=>?_;rw[<-hl5];unfold elP at h;simp -dsimp only[aw,seval];refine oj (m:=tu) H S5 (fun hm σ6 S6 hl6=>?_) (fun hm=>?_)
  .unfold opM at h;simp only[if_pos hm]at h;rw[<-hl6];simp -dsimp only[aw,seval];refine zc (mk:=fun l=>.d (.sl (l.map dit))) S6 (hBd S6 _) h fun q s7 h _ σ7 S7 hl7=>?_;rw[<-hl7];cases h;simp -dsimp only[aw,seval];exact d7 S7 (by rw[aM];simp[wN,aC,aQ,eM,jr,eG,gm,jb,dA,ga,gy,gw,aw,seval]) (by rw[aM];rfl)
  .unfold opM at h;simp only[hm,Bool.false_eq_true,if_false,Option.bind_some]at h;cases h;simp -dsimp only[aw,seval];exact d7 S5 (by rw[aM];simp[wN,aC,aQ,eM,jr,eG,gm,jb,dA,ga,gy,gw,aw,seval]) (by rw[aM];rfl)
 simp -dsimp only[aw,seval];refine pG (m:=qx) H S h (fun hm h σ1 S1 hl1=>?_) (fun hm h=>?_)
 .unfold eaP at h;rw[<-hl1];simp -dsimp only[aw,seval];refine xK H S1 h fun ix s2 h _ σ2 S2 hl2=>?_;rw[<-hl2];simp -dsimp only[aw,seval];refine gO (m:=inW) H S2 h fun s3 h σ3 S3 hl3=>?_;rw[<-hl3];simp -dsimp only[aw,seval];refine xK H S3 h fun nm s4 h _ σ4 S4 hl4=>?_;rw[<-hl4];simp -dsimp only[aw,seval];refine zc (mk:=fun l=>.d (.sl (l.map dit))) S4 (hBd S4 _) h fun p s5 h _ σ5 S5 hl5=>?_;rw[<-hl5];cases h;simp -dsimp only[aw,seval]
  exact d7 S5 (by rw[aM];simp[wN,aC,aQ,eM,jr,eG,gm,jb,dA,ga,gy,gw,exZ,bt,aU,aH,aI,aw,seval]) (by rw[aM];rfl)
 simp -dsimp only[aw,seval];refine pG (m:=mQ) H S h (fun hm h σ1 S1 hl1=>?_) (fun hm h=>?_)
 .unfold soP at h;rw[<-hl1];simp -dsimp only[aw,seval];refine zc (mk:=fun l=>.d (.sl (l.map fun s=>[ai s]))) S1 (fun v s2 h=>mr H _ (ah S1.at_ _) h) h fun l1 s2 h _ σ2 S2 hl2=>?_;rw[<-hl2];simp -dsimp only[aw,seval];refine gO (m:=Pm) H S2 h fun s3 h σ3 S3 hl3=>?_;rw[<-hl3];simp -dsimp only[aw,seval];refine zc (mk:=fun l=>.d (.sl (l.map fun s=>[ai s]))) S3 (fun v s2 h=>mr H _ (ah S3.at_ _) h) h fun l2 s4 h _ σ4 S4 hl4=>?_;rw[<-hl4];simp -dsimp only[aw,seval];refine gO (m:=aa 59) H S4 h fun s5 h σ5 S5 hl5=>?_;rw[<-hl5];cases h;simp -dsimp only[aw,seval]
  exact d7 S5 (by rw[aM];simp[wN,aC,aQ,eM,jr,eG,gm,jb,dA,ga,gy,gw,exZ,bt,aU,aH,aI,aw,seval]) (by rw[aM];rfl)
 simp -dsimp only[aw,seval];refine pG (m:=mo) H S h (fun hm h σ1 S1 hl1=>?_) (fun hm h=>?_)
 .unfold plP at h;rw[<-hl1];simp -dsimp only[aw,seval];refine Km H h9 S1 h fun x s3 h _ σ3 S3 hl3=>?_;rw[<-hl3];simp -dsimp only[aw,seval,au];refine gO (m:=aa 59) H S3 h fun s4 h σ4 S4 hl4=>?_;rw[<-hl4];cases h;simp -dsimp only[aw,seval];exact d7 S4 (by rw[aM];simp[wN,aC,aQ,eM,jr,eG,gm,jb,dA,ga,gy,gw,aw,seval]) (by rw[aM];rfl)
 unfold plP at h;simp -dsimp only[aw,seval];refine Km H h9 S h fun x s3 h _ σ3 S3 hl3=>?_;rw[<-hl3];simp -dsimp only[aw,seval,au];refine gO (m:=aa 59) H S3 h fun s4 h σ4 S4 hl4=>?_;rw[<-hl4];cases h;simp -dsimp only[aw,seval];exact d7 S4 (by rw[aM];simp[wN,aC,aQ,eM,jr,eG,gm,jb,dA,ga,gy,gw,aw,seval]) (by rw[aM];rfl)
theorem y6:∀n:Nat,n≤100000000->ItC ts n:=fun n=>by
 induction n using Nat.strongRecOn with
 | _ n ih=>
  intro hn;cases n with
  | zero=>intro s s' v h;cases h
  | succ n=>exact xw H h9 (o6 H (by omega) fun m hm=>ih m (by omega) (by omega))
theorem ze(n:Nat)(hn:n≤100000000):BdC ts n:=o6 H hn fun m _=>y6 H h9 m (by omega)
end
end Go.Proofs.YtnhphlmblenapaaGreatDoor
namespace Go.Proofs.YtnhphlmblenapaaGreatDoor
open Go.RowKit
theorem NU{ts:List Tok}{m:ByteArray}{s:PS}(h:nxP ts m s=true):s.2.2=0:=by
 unfold nxP at h;rw[Bool.and_eq_true,decide_eq_true_eq]at h;exact h.1
def f5(nm:ByteArray)(w k m v:Int):List V:=[.d (ai nm),.d (ab w),.d (ab k),.d (ab m),.d (ab v)]
section
variable {ts : List Tok} {i : Nat} {s : PS} (H : TsV ts) (σ : LLV) (hi : σ[i]? = some (rp ts s))
include H hi
theorem km(m:Int):Fun G 88 [.ptr i 0,.d (ab m)] σ (RP (.agg ((dfl (flP ts m s).1).map V.d)) σ i ts (flP ts m s).2):=by
 refine ae Tryz.func88 k88 rfl fun hb hw=>?_;have S:=Sp.init hi hb;obtain⟨x,hx⟩:∃x,x=flP ts m s:=⟨_,rfl⟩
 rw[<-hx];unfold flP at hx;unfold c88
 refine eW 4 (fun ρ σ'=>∃(nm:ByteArray) (k:Int) (s2:PS) (σ2:LLV),(ρ=[(0,.ptr i 0),(1,.d (ab m)),(4,.ptr σ2.length 0),(5,.ptr (σ2.length+1) 0)]\/ρ=[(0,.ptr i 0),(1,.d (ab m)),(4,.ptr σ2.length 0),(5,.ptr (σ2.length+1) 0),(12,ao false)])/\σ'=σ2++[f5 ⟨#[]⟩ 0 0 0 0,f5 nm 0 k m 0]/\Sp σ i ts s2 σ2/\
  x=neM ts (aa 58) s2 fun s3=>nuM ts s3 fun w s4=>clM (inP ts m s4) fun v s5=>neM ts (aa 59) s5 fun s6=>(⟨nm,w,k,m,v⟩,s6)) ?_ ?_
 .simp only[fN];simp -dsimp only[aw,seval];refine xK H S hx fun nm s1 hx _ σ1 S1 hl1=>?_;obtain⟨K,hK⟩:∃K:Int->PS->Fl×PS,K=fun k s2=>neM ts (aa 58) s2 fun s3=>nuM ts s3 fun w s4=>clM (inP ts m s4) fun v s5=>neM ts (aa 59) s5 fun s6=>(⟨nm,w,k,m,v⟩,s6):=⟨_,rfl⟩
  have fold:∀k s2,(neM ts (aa 58) s2 fun s3=>nuM ts s3 fun w s4=>clM (inP ts m s4) fun v s5=>neM ts (aa 59) s5 fun s6=>((⟨nm,w,k,m,v⟩:Fl),s6))=K k s2:=fun k s2=>by rw[hK]
  simp only[fold]at hx;clear hK;unfold clM arP at hx;rw[<-hl1];simp -dsimp only[aw,seval];refine oj (m:=aa 91) H S1 (fun hm σ2 S2 hl2=>?_) (fun hm=>?_)
  case refine_2=>
   unfold opM at hx;rw[if_neg (by rw[hm];decide)]at hx;simp -dsimp only[aw,seval];exact Mid.mk ⟨nm,0,s1,σ1,.inr rfl,rfl,S1,hx.trans (fold 0 s1).symm⟩
  unfold opM at hx;rw[if_pos hm]at hx;have he:(upP s1).2.2=0:=(NU hm:s1.2.2=0)
  generalize upP s1=s2 at *;dsimp only at hx;have hio:=fun l=>ah S2.at_ l;unfold rp at hio;rw[<-hl2];by_cases hlt:s2.1<ts.length
  .have d1:decide (((s2.1:Nat):Int)<((ts.length:Nat):Int))=true:=decide_eq_true (by omega);by_cases hk:ts[s2.1].kind=3
   .have hp:=(fv H).1 ts[s2.1] (TO hlt) hk;by_cases h0:ts[s2.1].num=0
    .have eZ:zeP ts s2=eN ts s2:=by unfold zeP;rw[if_pos he,hp];exact if_pos h0
     rw[eZ]at hx;simp -dsimp only[aw,seval,hio,decide_eq_true he,d1,TO hlt,bG,di,decide_eq_true hk,decide_eq_true h0];refine jO S2 (fe H _ (ah S2.at_ _)) fun σ3 S3 hl3=>?_;rw[<-hl3];simp -dsimp only[aw,seval];refine sb H S3 (k:=fun k s4=>neM ts (aa 93) s4 fun s5=>K k s5) hx fun k s4 hx _ σ4 S4 hl4=>?_;rw[<-hl4];simp -dsimp only[aw,seval];refine gO (m:=aa 93) H S4 hx fun s5 hx σ5 S5 hl5=>?_;rw[<-hl5];simp -dsimp only[aw,seval];exact Mid.mk ⟨nm,k,s5,σ5,.inl rfl,rfl,S5,hx.trans (fold k s5).symm⟩
    .have eZ:zeP ts s2=s2:=by unfold zeP;rw[if_pos he,hp];exact if_neg h0
     rw[eZ]at hx;have S3:=S2;simp -dsimp only[aw,seval,hio,decide_eq_true he,d1,TO hlt,bG,di,decide_eq_true hk,decide_eq_false h0];refine sb H S3 (k:=fun k s4=>neM ts (aa 93) s4 fun s5=>K k s5) hx fun k s4 hx _ σ4 S4 hl4=>?_;rw[<-hl4];simp -dsimp only[aw,seval];refine gO (m:=aa 93) H S4 hx fun s5 hx σ5 S5 hl5=>?_;rw[<-hl5];simp -dsimp only[aw,seval];exact Mid.mk ⟨nm,k,s5,σ5,.inl rfl,rfl,S5,hx.trans (fold k s5).symm⟩
   .have hp:=(fv (ts:=ts) (a:=s2.1) H).2 fun t ht=>by rw[TO hlt]at ht;cases ht;exact hk
    have eZ:zeP ts s2=s2:=by unfold zeP;rw[if_pos he,hp]
    rw[eZ]at hx;have S3:=S2;simp -dsimp only[aw,seval,hio,decide_eq_true he,d1,TO hlt,bG,di,decide_eq_false hk];refine sb H S3 (k:=fun k s4=>neM ts (aa 93) s4 fun s5=>K k s5) hx fun k s4 hx _ σ4 S4 hl4=>?_;rw[<-hl4];simp -dsimp only[aw,seval];refine gO (m:=aa 93) H S4 hx fun s5 hx σ5 S5 hl5=>?_;rw[<-hl5];simp -dsimp only[aw,seval];exact Mid.mk ⟨nm,k,s5,σ5,.inl rfl,rfl,S5,hx.trans (fold k s5).symm⟩
  .have d1:decide (((s2.1:Nat):Int)<((ts.length:Nat):Int))=false:=decide_eq_false (by omega);have hp:=(fv (ts:=ts) (a:=s2.1) H).2 fun t ht=>by rw[TU (by omega)]at ht;cases ht
   have eZ:zeP ts s2=s2:=by unfold zeP;rw[if_pos he,hp]
   rw[eZ]at hx;have S3:=S2;simp -dsimp only[aw,seval,hio,decide_eq_true he,d1];refine sb H S3 (k:=fun k s4=>neM ts (aa 93) s4 fun s5=>K k s5) hx fun k s4 hx _ σ4 S4 hl4=>?_;rw[<-hl4];simp -dsimp only[aw,seval];refine gO (m:=aa 93) H S4 hx fun s5 hx σ5 S5 hl5=>?_;rw[<-hl5];simp -dsimp only[aw,seval];exact Mid.mk ⟨nm,k,s5,σ5,.inl rfl,rfl,S5,hx.trans (fold k s5).symm⟩
 .simp only[fN];rintro ρ' σ' ⟨nm,k,s2,σ2,hρ,rfl,S2,hx⟩;rw[<-S2.len];unfold f5;rcases hρ with rfl|rfl
  all_goals
   simp -dsimp only[aw,seval];refine gO (m:=aa 58) H S2 hx fun s3 hx σ3 S3 hl3=>?_;rw[<-hl3];simp -dsimp only[aw,seval];refine sb H S3 hx fun w s4 hx _ σ4 S4 hl4=>?_;unfold clM inP at hx;rw[<-hl4];by_cases h0:m=0
   .rw[if_pos h0]at hx;simp -dsimp only[aw,seval,decide_eq_true h0];refine gO (m:=aa 61) (k:=fun s5=>nuM ts s5 fun v s6=>neM ts (aa 59) s6 fun s7=>((⟨nm,w,k,m,v⟩:Fl),s7)) H S4 hx fun s5 hx σ5 S5 hl5=>?_;rw[<-hl5];simp -dsimp only[aw,seval];refine sb H S5 hx fun v s6 hx _ σ6 S6 hl6=>?_;rw[<-hl6];simp -dsimp only[aw,seval];refine gO (m:=aa 59) H S6 hx fun s7 hx σ7 S7 hl7=>?_;rw[<-hl7];simp -dsimp only[aw,seval];rw[hx];exact d7 S7 (by simp[JB,aC,aQ,dfl,aw,seval]) rfl
   .rw[if_neg h0]at hx;simp -dsimp only[aw,seval,decide_eq_false h0];refine gO (m:=aa 59) H S4 hx fun s7 hx σ7 S7 hl7=>?_;rw[<-hl7];simp -dsimp only[aw,seval];rw[hx];exact d7 S7 (by simp[JB,aC,aQ,dfl,aw,seval]) rfl
end
section
variable {ts : List Tok} {i : Nat} {s : PS} (H : TsV ts) (h9 : ts.length ≤ 1100000) (σ : LLV) (hi : σ[i]? = some (rp ts s))
include H h9 hi
theorem vN{N:Nat}(hN:N≤100000000){v:Kl}{s':PS}(h:klP ts N s=some (v,s')):Fun G 38 [.ptr i 0] σ (RP (vkl v) σ i ts s'):=by
 refine ae Tryz.func38 k38 rfl fun hb hw=>?_;have S:=Sp.init hi hb;replace h:=h.symm;unfold klP at h;unfold c38
 refine eW 5 (fun ρ σ'=>∃(nm par:ByteArray) (s2:PS) (σ2:LLV),(ρ=[(0,.ptr i 0),(2,.ptr σ2.length 0),(3,.ptr (σ2.length+1) 0)]\/ρ=[(0,.ptr i 0),(2,.ptr σ2.length 0),(3,.ptr (σ2.length+1) 0),(13,ao false)])/\σ'=σ2++[kbz,kbx nm par .nil .nil]/\Sp σ i ts s2 σ2/\
  some (v,s')=neM ts (aa 123) s2 fun s4=>(fsL ts (ts.length+2) [] s4).bind fun q=>(blL ts N (ts.length+2) [] q.2).bind fun w=>neM ts (aa 125) w.2 fun s7=>some (⟨nm,par,q.1,w.1⟩,s7)) ?_ ?_
 .simp only[fN];simp -dsimp only[aw,seval];refine gO (m:=uo) H S h fun s1 h σ1 S1 hl1=>?_;rw[<-hl1];simp -dsimp only[aw,seval];refine xK H S1 h fun nm s2 h _ σ2 S2 hl2=>?_;unfold clM paP at h;rw[<-hl2];simp -dsimp only[aw,seval];refine oj (m:=li) H S2 (fun hm σ3 S3 hl3=>?_) (fun hm=>?_)
  .unfold opM at h;rw[if_pos hm]at h;rw[<-hl3];simp -dsimp only[aw,seval];refine xK H S3 (k:=fun par s4=>neM ts (aa 123) s4 fun s4=>(fsL ts (ts.length+2) [] s4).bind fun q=>(blL ts N (ts.length+2) [] q.2).bind fun w=>neM ts (aa 125) w.2 fun s7=>some ((⟨nm,par,q.1,w.1⟩:Kl),s7)) h fun par s4 h _ σ4 S4 hl4=>?_;rw[<-hl4];simp -dsimp only[aw,seval];exact Mid.mk ⟨nm,par,s4,σ4,.inl rfl,rfl,S4,h⟩
  .unfold opM at h;rw[if_neg (by rw[hm];decide)]at h;simp -dsimp only[aw,seval];exact Mid.mk ⟨nm,⟨#[]⟩,s2,σ2,.inr rfl,rfl,S2,h⟩
 .simp only[fN];rintro ρ' σ' ⟨nm,par,s2,σ2,hρ,rfl,S2,h⟩;rw[<-S2.len];unfold kbz kbx
  refine eW 1 (fun ρ σ'=>∃(s2:PS) (σ2:LLV),ρ=[(0,.ptr i 0),(2,.ptr σ2.length 0),(3,.ptr (σ2.length+1) 0)]/\σ'=σ2++[kbz,kbx nm par .nil .nil]/\Sp σ i ts s2 σ2/\
   some (v,s')=(fsL ts (ts.length+2) [] s2).bind fun q=>(blL ts N (ts.length+2) [] q.2).bind fun w=>neM ts (aa 125) w.2 fun s7=>some (⟨nm,par,q.1,w.1⟩,s7)) ?_ ?_
  .simp only[fN];rcases hρ with rfl|rfl
   all_goals
    simp -dsimp only[aw,seval];refine gO (m:=aa 123) H S2 h fun s3 h σ1 S1 hl1=>?_;rw[<-hl1];simp -dsimp only[aw,seval];exact Mid.mk ⟨s3,σ1,rfl,rfl,S1,h⟩
  .simp only[fN];rintro ρ' σ' ⟨s3,σ3,rfl,rfl,S3,h⟩;rw[S2.len,<-S3.len];obtain⟨⟨lf,s4⟩,e1,h⟩:=Option.bind_eq_some_iff.1 h.symm;obtain⟨⟨lb,s5⟩,e2,h⟩:=Option.bind_eq_some_iff.1 h;replace h:=h.symm;simp only at h e2;refine eW 1 (fun ρ σ'=>∃(σ2:LLV),(ρ=[(0,.ptr i 0),(2,.ptr σ2.length 0),(3,.ptr (σ2.length+1) 0)]\/∃b c,ρ=[(0,.ptr i 0),(2,.ptr σ2.length 0),(3,.ptr (σ2.length+1) 0),(4,b),(26,c)])/\σ'=σ2++[kbz,kbx nm par (.own 74 5 (lf.map dfl)) .nil]/\Sp σ i ts s4 σ2) ?_ ?_
   .simp only[fN];unfold kbz kbx;simp -dsimp only[aw,seval]
    refine i8 [0,2,3,4] (fun(j:Nat) ρ σ'=>∃(σ4:LLV),σ4.length=σ3.length/\
     ((∃(s6:PS) (l:List Fl),ρ=[(0,.ptr i 0),(2,.ptr σ4.length 0),(3,.ptr (σ4.length+1) 0),(4,ao true)]/\σ'=σ4++[kbz,kbx nm par (.own 74 5 (l.map dfl)) .nil]/\Sp σ i ts s6 σ4/\l.length=j/\some (lf,s4)=fsL ts (ts.length+2-j) l s6)\/
       (ρ=[(0,.ptr i 0),(2,.ptr σ4.length 0),(3,.ptr (σ4.length+1) 0),(4,ao false)]/\σ'=σ4++[kbz,kbx nm par (.own 74 5 (lf.map dfl)) .nil]/\Sp σ i ts s4 σ4))) (ts.length+3)
     (rL (cs:=kbx nm par .nil .nil) (fo:=2) (q:=1) 74 5 rfl rfl) ⟨σ3,rfl,.inl ⟨s3,[],rfl,rfl,S3,rfl,e1.symm⟩⟩ ?_ _
    rintro j ρ' σ' hj ⟨σ4,hl4,⟨s6,l,rfl,rfl,S4,hl,e1⟩|⟨rfl,rfl,S4⟩⟩
    .obtain⟨m,hm⟩:∃m,ts.length+2-j=m+1:=⟨ts.length+1-j,by
      have:ts.length+2-j≠0:=fun h0=>by rw[h0]at e1;cases e1
      omega⟩
     rw[hm]at e1;rw[<-hl4];have hio:=fun l=>ah S4.at_ l;unfold rp at hio;unfold kbz kbx;by_cases he:s6.2.2=0
     case neg=>
      rw[pT he]at e1;cases e1;simp -dsimp only[aw,seval,hio,decide_eq_false he];exact Mid.mk ⟨σ4,by first|exact .inl rfl|exact .inr ⟨_,_,rfl⟩,rfl,S4⟩
     unfold fsL at e1;simp only at e1;have step:∀(k:Int) (w:Fl) (s7:PS) (σ5:LLV),some (lf,s4)=fsL ts m (l++[w]) s7->σ5.length=σ4.length->Sp σ i ts s7 σ5->j<ts.length+3/\σ5.length=σ3.length/\(l++[w]).length=j+1/\some (lf,s4)=fsL ts (ts.length+2-(j+1)) (l++[w]) s7:=fun k w s7 σ5 e hl5 S5=>⟨by omega,by rw[hl5,hl4],by simp[hl],by rw[show ts.length+2-(j+1)=m by omega];exact e⟩
     simp -dsimp only[aw,seval,hio,decide_eq_true he];refine pG (m:=qA) H S4 e1 (fun hm2 e1 σ5 S5 hl5=>?_) (fun hm2 e1=>?_)
     .unfold clM at e1;rw[<-hl5];simp -dsimp only[aw,seval];refine oi (show ib _ _ _ _ _ _ _ from HJ (b:=29) (p:=0) (os:=3) (fo:=2) (f:=88) (ex:=[.d (ab 1)]) (T:=74) (kk:=5) (by_:=48) (q:=1) (rows:=l.map dfl) (v:=.agg ((dfl (flP ts 1 (upP s6)).1).map V.d)) (r:=dfl (flP ts 1 (upP s6)).1) (s':=(flP ts 1 (upP s6)).2) S5 (.refl _) (fun σ h=>km H σ h 1) rfl rfl (by decide) (by decide) rfl rfl (jf _) rfl (by rw[TS];omega) fun σ6 S6 hl6=>?_);generalize flP ts 1 (upP s6)=p at *;obtain⟨w,s7⟩:=p;simp only at S6 e1 ⊢;obtain⟨q1,q2,q3,q4⟩:=step 1 w s7 σ6 e1 (by rw[hl6,hl5]) S6;rw[<-hl6];simp -dsimp only[aw,seval,st8]
      exact⟨q1,Nxt.same (by simp) (aq S6.bb rfl) (by have:=S6.lt;simp[an,V.under,S6.len];omega) ⟨σ6,by first|rfl|exact q2,.inl ⟨s7,l++[w],rfl,by simp[kbz,kbx],S6,q3,q4⟩⟩⟩
     simp -dsimp only[aw,seval];refine pG (m:=mS) H S4 e1 (fun hm2 e1 σ5 S5 hl5=>?_) (fun hm2 e1=>?_)
     .unfold clM at e1;rw[<-hl5];simp -dsimp only[aw,seval];refine oi (show ib _ _ _ _ _ _ _ from HJ (b:=38) (p:=0) (os:=3) (fo:=2) (f:=88) (ex:=[.d (ab 2)]) (T:=74) (kk:=5) (by_:=48) (q:=1) (rows:=l.map dfl) (v:=.agg ((dfl (flP ts 2 (upP s6)).1).map V.d)) (r:=dfl (flP ts 2 (upP s6)).1) (s':=(flP ts 2 (upP s6)).2) S5 (.refl _) (fun σ h=>km H σ h 2) rfl rfl (by decide) (by decide) rfl rfl (jf _) rfl (by rw[TS];omega) fun σ6 S6 hl6=>?_);generalize flP ts 2 (upP s6)=p at *;obtain⟨w,s7⟩:=p;simp only at S6 e1 ⊢;obtain⟨q1,q2,q3,q4⟩:=step 2 w s7 σ6 e1 (by rw[hl6,hl5]) S6;rw[<-hl6];simp -dsimp only[aw,seval,st8]
      exact⟨q1,Nxt.same (by simp) (aq S6.bb rfl) (by have:=S6.lt;simp[an,V.under,S6.len];omega) ⟨σ6,by first|rfl|exact q2,.inl ⟨s7,l++[w],rfl,by simp[kbz,kbx],S6,q3,q4⟩⟩⟩
     simp -dsimp only[aw,seval];refine pG (m:=mO) H S4 e1 (fun hm2 e1 σ5 S5 hl5=>?_) (fun hm2 e1=>?_)
     .unfold clM at e1;rw[<-hl5];simp -dsimp only[aw,seval];refine oi (show ib _ _ _ _ _ _ _ from HJ (b:=47) (p:=0) (os:=3) (fo:=2) (f:=88) (ex:=[.d (ab 0)]) (T:=74) (kk:=5) (by_:=48) (q:=1) (rows:=l.map dfl) (v:=.agg ((dfl (flP ts 0 (upP s6)).1).map V.d)) (r:=dfl (flP ts 0 (upP s6)).1) (s':=(flP ts 0 (upP s6)).2) S5 (.refl _) (fun σ h=>km H σ h 0) rfl rfl (by decide) (by decide) rfl rfl (jf _) rfl (by rw[TS];omega) fun σ6 S6 hl6=>?_);generalize flP ts 0 (upP s6)=p at *;obtain⟨w,s7⟩:=p;simp only at S6 e1 ⊢;obtain⟨q1,q2,q3,q4⟩:=step 0 w s7 σ6 e1 (by rw[hl6,hl5]) S6;rw[<-hl6];simp -dsimp only[aw,seval,st8]
      exact⟨q1,Nxt.same (by simp) (aq S6.bb rfl) (by have:=S6.lt;simp[an,V.under,S6.len];omega) ⟨σ6,by first|rfl|exact q2,.inl ⟨s7,l++[w],rfl,by simp[kbz,kbx],S6,q3,q4⟩⟩⟩
     cases e1;simp -dsimp only[aw,seval];exact⟨by omega,Nxt.same (by simp) (aq S4.bb rfl) (by have:=S4.lt;simp[an,V.under,S4.len];omega) ⟨σ4,by first|rfl|exact hl4,.inr ⟨rfl,rfl,S4⟩⟩⟩
    .rw[<-hl4];unfold kbz kbx;simp -dsimp only[aw,seval];exact Mid.mk ⟨σ4,by first|exact .inl rfl|exact .inr ⟨_,_,rfl⟩,rfl,S4⟩
   .simp only[fN];rintro ρ' σ' ⟨σ4,hρ,rfl,S4⟩;rw[S3.len,<-S4.len];unfold kbz kbx;rcases hρ with rfl|⟨b,c,rfl⟩
    all_goals
     simp -dsimp only[aw,seval]
     refine i8 [0,2,3] (fun(j:Nat) ρ σ'=>∃(s6:PS) (l:List Bk) (σ5:LLV),σ5.length=σ4.length/\ρ=[(0,.ptr i 0),(2,.ptr σ5.length 0),(3,.ptr (σ5.length+1) 0)]/\σ'=σ5++[kbz,kbx nm par (.own 74 5 (lf.map dfl)) (.own 46 2 (l.map dbk))]/\Sp σ i ts s6 σ5/\l.length=j/\some (lb,s5)=blL ts N (ts.length+2-j) l s6) (ts.length+2)
      (rL (cs:=kbx nm par (.own 74 5 (lf.map dfl)) .nil) (fo:=3) (q:=1) 46 2 rfl rfl) ⟨s4,[],σ4,rfl,rfl,rfl,S4,rfl,e2.symm⟩ ?_ _
     rintro j ρ' σ' hj ⟨s6,l,σ5,hl5,rfl,rfl,S5,hl,e2⟩
     obtain⟨m,hm⟩:∃m,ts.length+2-j=m+1:=⟨ts.length+1-j,by
      have:ts.length+2-j≠0:=fun h0=>by rw[h0]at e2;cases e2
      omega⟩
     rw[hm]at e2;unfold blL at e2;rw[<-hl5];unfold kbz kbx;simp -dsimp only[aw,seval];refine pG (m:=cR) H S5 e2 (fun hm2 e2 σ6 S6 hl6=>?_) (fun hm2 e2=>?_)
     .rw[<-hl6];simp -dsimp only[aw,seval];refine xK H S6 e2 fun bn s7 e2 _ σ7 S7 hl7=>?_;rw[<-hl7];simp -dsimp only[aw,seval];refine zc (mk:=fun l=>.d (.sl (l.map dit))) S7 (fun v s2 h=>ze H h9 N hN _ _ v h _ _ (ah S7.at_ _)) e2 fun bl s8 e2 _ σ8 S8 hl8=>?_;rw[<-hl8];simp -dsimp only[aw,seval];refine bg (by omega) ?_;simp -dsimp only[aw,seval]
      exact⟨by omega,Nxt.to (σ8++[kbz,kbx nm par (.own 74 5 (lf.map dfl)) (.own 46 2 ((l++[(bn,bl)]).map dbk))]) [[.d (ai bn),.d (.sl (bl.map dit))]] (by simp[kbz,kbx,dbk,gZ]) (by simp) (aq S8.bb rfl) (by simp[an,V.under,S8.len];have:=S8.lt;omega) ⟨s8,l++[(bn,bl)],σ8,by rw[hl8,hl7,hl6,hl5],rfl,rfl,S8,by simp[hl],by rw[show ts.length+2-(j+1)=m by omega];exact e2⟩⟩
     .cases e2;simp -dsimp only[aw,seval];refine gO (m:=aa 125) H S5 h fun s9 h σ9 S9 hl9=>?_;rw[<-hl9];cases h;simp -dsimp only[aw,seval];exact d7 S9 (by simp[LS,aC,aQ,aw,seval]) rfl
end
end Go.Proofs.YtnhphlmblenapaaGreatDoor
