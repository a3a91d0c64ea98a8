import Derived.Test.YtnhphlmblenapaaGreatDoorEt2
set_option linter.unusedVariables false
set_option linter.unusedSimpArgs false
set_option linter.unusedSectionVars false
set_option maxHeartbeats 1200000
open Bool renaming false_eq_true->Pa
open Int renaming ofNat_lt->Pb
open List renaming getElem?_eq_getElem->Pd,take_left->Pe,drop_eq_getElem_cons->Pf,drop_eq_nil_of_le->Pg,take_length->Ph,getElem?_eq_none->Pi,length_set->Pj,getElem?_append_right->Pk,take_of_length_le->Pl,getElem_cons_zero->Pm,drop_of_length_le->Pn,length_drop->Po,getElem_mem->Pp,find?_cons->Pq,map->Pr
open Nat renaming le_refl->Ps
namespace Go.Proofs.YtnhphlmblenapaaGreatDoor
open Go.RowKit
mutual
def lM:Ex->Ex->Bool
 | .mk o n s l,.mk o' n' s' l'=>(decide (o=o')&&(decide (n=n')&&(decide (s=s')&&jg l l')))
def jg:List Ex->List Ex->Bool
 | [],[]=>true
 | a::r,b::r'=>lM a b&&jg r r'
 | _,_=>false
end
theorem rH:∀{l l':List Ex},l.length≠l'.length->jg l l'=false
 | [],[],h=>absurd rfl h
 | a::r,b::r',h=>by simp only[jg,rH (l:=r) (l':=r') (by simpa using h),Bool.and_false]
 | [],_::_,_=>rfl
 | _::_,[],_=>rfl
theorem tG(a b:Ex):lM a b=(decide (a.op=b.op)&&(decide (a.num=b.num)&&(decide (a.name=b.name)&&jg a.args b.args))):=by
 cases a;cases b;rfl
theorem Ex.ind2{P:Ex->Prop}(h:∀e:Ex,(∀a,a∈e.args->P a)->P e):∀e,P e:=Ex.ind fun o n s l ih=>h (.mk o n s l) ih
theorem pP{l l':List Ex}{j:Nat}(h:j<l.length)(h':j<l'.length):jg (l.drop j) (l'.drop j)=(lM l[j] l'[j]&&jg (l.drop (j+1)) (l'.drop (j+1))):=by
 rw[Pf h,Pf h'];rfl
theorem y4(a:Ex):∀(b:Ex) (σ:LLV),Fun G 79 [vex a,vex b] σ (aO (ak (lM a b)) σ):=by
 induction a using Ex.ind2 with
 | h a ih=>
 intro b σ;refine al Tryz.func79 k79 (by simp only[au];rfl) fun hb hw=>?_;have hq:=tG a b;have h0:=hw 0 (by simp);simp only[Pm,au]at h0;have hm:=Ji (xB h0 3 (by simp));simp only[List.getElem_cons_succ,Pm,List.length_map]at hm
 have out:∀(σ' l:LLV) (b1:Bool),lM a b=b1->σ'=σ++l->fin σ.length Mj (aO (ak (lM a b)) σ) .ret [(4,.d (.lit (.bool b1)))] σ':=fun σ' l b1 h e=>by
  subst e;exact aF hb rfl rfl Pe ⟨by rw[h];rfl,rfl⟩
 unfold c79;simp -dsimp only[aw,seval,au];refine cA (fun h1=>?_) (fun h1=>?_)
 .simp -dsimp only[aw,seval];refine cA (fun h2=>?_) (fun h2=>?_)
  .simp -dsimp only[aw,seval];refine cA (fun h3=>?_) (fun h3=>?_)
   .simp -dsimp only[aw,seval,Int.ofNat_inj];refine cA (fun h4=>?_) (fun h4=>?_)
    .simp -dsimp only[aw,seval];exact out _ _ _ (by rw[hq,rH (by simpa using h4)];simp) rfl
    .simp -dsimp only[aw,seval];have h4:a.args.length=b.args.length:=by simpa using h4
     generalize hbx:[[V.d (aa a.op),V.d (aa a.num),V.d (ae a.name),V.d (D.sl (Pr dex a.args))],[V.d (aa b.op),V.d (aa b.num),V.d (ae b.name),V.d (D.sl (Pr dex b.args))]]=bx at out ⊢;refine oc (R:=fun(j:Nat) ρ σ'=>ρ=[(2,.ptr σ.length 0),(3,.ptr (σ.length+1) 0),(5,aC .i64 j)]/\σ'=σ++bx/\jg a.args b.args=jg (a.args.drop j) (b.args.drop j)) a.args.length ⟨rfl,rfl,by simp⟩ ?_ _;rintro j ρ' σ' hj ⟨rfl,rfl,hrec⟩;subst hbx;by_cases hlt:j<a.args.length
     .have hlt':j<b.args.length:=by omega
      simp -dsimp only[aw,seval,Pb,hlt,decide_true,Pd hlt,Pd hlt',bV];refine bp (by simpa only[au]using ih _ (Pp hlt) _ _) ?_;simp -dsimp only[aw,seval,aJ hlt hm];refine cA (fun hs=>?_) (fun hs=>?_)
      .simp -dsimp only[aw,seval];exact out _ _ _ (by rw[hq,hrec,pP hlt hlt'];simp_all) rfl
      .simp -dsimp only[aw,seval,aJ hlt hm];refine⟨hlt,Nxt.same (by simp) (aq hb rfl) ?_ ?_⟩
       .simp[an,V.under]
       .exact⟨rfl,rfl,by rw[hrec,pP hlt hlt'];simp_all⟩
     .simp -dsimp only[aw,seval,Pb,hlt];exact out _ _ _ (by rw[hq,hrec,Pn (by omega),Pn (by omega)];simp_all[jg]) rfl
   .simp -dsimp only[aw,seval];exact out _ _ _ (by rw[hq];simp_all) rfl
  .simp -dsimp only[aw,seval];exact out _ _ _ (by rw[hq];simp_all) rfl
 .simp -dsimp only[aw,seval];exact out _ _ _ (by rw[hq];simp_all) rfl
theorem ca(o n:Int)(s:ByteArray)(l:List Ex):(Ex.mk o n s l).op=o:=rfl
theorem bu(o n:Int)(s:ByteArray)(l:List Ex):(Ex.mk o n s l).num=n:=rfl
theorem aT(o n:Int)(s:ByteArray)(l:List Ex):(Ex.mk o n s l).name=s:=rfl
theorem aW(o n:Int)(s:ByteArray)(l:List Ex):(Ex.mk o n s l).args=l:=rfl
def bo(m:ByteArray)(ts:List Tok)(a:Nat):Bool:=(acc m (ts.drop a)).isSome
theorem DU{m:ByteArray}{ts:List Tok}{a:Nat}(h:bo m ts a=true):a<ts.length:=by
 apply Classical.byContradiction;intro hn;unfold bo at h;rw[Pg (by omega)]at h;cases h
def pb(ts:List Tok)(a:Nat):List V:=[.d (.sl (ts.map kJ)),.d (aa a)]
def d9(e:Int)(a:Nat):V:=.iface 241 (.agg [.d (aa e),.d (aa a)])
theorem tj(t:Tok)(h:t.text.size≤1000)(σ:LLV):Fun G 327 [gU t] σ (aO (ak (bS t)) σ):=by
 refine al Tryz.func327 MY rfl fun hb hw=>?_;unfold Lo;have hj:=vX [t] (by simp) (by simpa using h);unfold xG at hj;simp only[List.all_cons,List.all_nil,Bool.and_true]at hj;simp -dsimp only[aw,seval,gU];refine aj (by simpa only[List.map_cons,List.map_nil,kJ]using hj _) ?_;cases hv:bS t with
 | true=>
  simp -dsimp only[aw,seval];exact av hb rfl rfl
 | false=>
  simp -dsimp only[aw,seval];exact av hb rfl rfl
def ft(ts:List Tok)(a:Nat):V:=match ts[a]? with
 | some t=>if bS t=true then .tup [gU t,ak true]else .tup [cy,ak false]
 | none=>.tup [cy,ak false]
theorem mD(ts:List Tok)(a i:Nat)(hz:∀t,t∈ts->t.text.size≤1000)(ha:a≤ts.length)(σ:LLV)(hi:σ[i]? = some (pb ts a)):
 Fun G 323 [.ptr i 0] σ (aO (ft ts a) σ):=by
 refine al Tryz.func323 NX rfl fun hb hw=>?_;unfold LS;have hio:=fun t=>am hi t;unfold pb at hio;by_cases hlt:a<ts.length
 .have d1:decide (((ts.length:Nat):Int)≤((a:Nat):Int))=false:=by rw[decide_eq_false_iff_not];omega
  have hn:ft ts a=if bS ts[a]=true then .tup [gU ts[a],ak true]else .tup [cy,ak false]:=by unfold ft;rw[Pd hlt]
  have hv:=tj ts[a] (hz _ (Pp hlt));simp -dsimp only[aw,seval,hio,d1,Pd hlt,ge,kJ];refine bp (by simpa only[gU]using hv _) ?_;cases hvt:bS ts[a]with
  | true=>
   rw[hn,if_pos hvt];simp -dsimp only[aw,seval,hio,Pd hlt,ge,kJ];exact aF (v:=.tup [gU ts[a],ak true]) hb (by simp[yb,aL,cv,bc,gU,aw,seval]) rfl Pe ⟨rfl,rfl⟩
  | false=>
   rw[hn,if_neg (by rw[hvt];decide)];simp -dsimp only[aw,seval];exact aF (v:=.tup [cy,ak false]) hb (by simp[yb,aL,cv,bc,cy,cS,eH,aw,seval]) rfl Pe ⟨rfl,rfl⟩
 .have d1:decide (((ts.length:Nat):Int)≤((a:Nat):Int))=true:=by rw[decide_eq_true_eq];omega
  have hn:ft ts a=.tup [cy,ak false]:=by unfold ft;rw[Pi (by omega)]
  rw[hn];simp -dsimp only[aw,seval,hio,d1];exact aF (v:=.tup [cy,ak false]) hb (by simp[yb,aL,cv,bc,cy,cS,eH,aw,seval]) rfl Pe ⟨rfl,rfl⟩
theorem yc{m:ByteArray}{ts:List Tok}{a:Nat}(h:a<ts.length):bo m ts a=(bS ts[a]&&((decide (ts[a].kind=4)||decide (ts[a].kind=2))&&decide (ts[a].text=m))):=by
 unfold bo;rw[Pf h];simp only[acc];rw[Bool.eq_iff_iff];split<;>simp_all
theorem gx{m:ByteArray}{ts:List Tok}{a:Nat}(h:¬a<ts.length):bo m ts a=false:=by
 unfold bo;rw[Pg (by omega)];rfl
theorem DY(m:ByteArray)(ts:List Tok)(a i:Nat)(hz:∀t,t∈ts->t.text.size≤1000)(ha:a≤ts.length)(σ:LLV)(hi:σ[i]? = some (pb ts a)):
 Fun G 311 [.ptr i 0,.d (ae m)] σ (aO (ak (bo m ts a)) σ):=by
 refine al Tryz.func311 NT rfl fun hb hw=>?_;unfold JY;have hN:=mD ts a i hz ha σ hi;simp -dsimp only[aw,seval];refine aj hN ?_;by_cases hlt:a<ts.length
 .have hn:ft ts a=if bS ts[a]=true then .tup [gU ts[a],ak true]else .tup [cy,ak false]:=by unfold ft;rw[Pd hlt]
  rw[hn,yc hlt];generalize ts[a]=t;cases hvt:bS t with
  | false=>
   rw[if_neg (by decide)];simp -dsimp only[aw,seval,cy,cS];exact av hb rfl rfl
  | true=>
   rw[if_pos rfl];by_cases h4:t.kind=4
   .simp -dsimp only[aw,seval,gU,decide_eq_true h4];exact av hb rfl rfl
   .by_cases h2:t.kind=2
    .simp -dsimp only[aw,seval,gU,decide_eq_false h4,decide_eq_true h2];exact av hb rfl rfl
    .simp -dsimp only[aw,seval,gU,decide_eq_false h4,decide_eq_false h2];exact av hb rfl rfl
 .have hn:ft ts a=.tup [cy,ak false]:=by unfold ft;rw[Pi (by omega)]
  rw[hn,gx hlt];simp -dsimp only[aw,seval,cy,cS];exact av hb rfl rfl
theorem Jf{σ:LLV}{i:Nat}{ts:List Tok}{a:Nat}(hi:σ[i]? = some (pb ts a)):σ.set i (pb ts a)=σ:=by
 have hlt:=(List.getElem?_eq_some_iff.1 hi).1;rw[<-(List.getElem?_eq_some_iff.1 hi).2];exact List.set_getElem_self hlt
theorem iZ(m:ByteArray)(ts:List Tok)(a i:Nat)(hz:∀t,t∈ts->t.text.size≤1000)(hn:ts.length≤1200000)(ha:a≤ts.length)(σ:LLV)(hi:σ[i]? = some (pb ts a)):
 Fun G 285 [.ptr i 0,.d (ae m)] σ fun o σ'=>o=.ret (ak (bo m ts a))/\σ'=if bo m ts a=true then σ.set i (pb ts (a+1))else σ:=by
 have hlt:=(List.getElem?_eq_some_iff.1 hi).1;refine al Tryz.func285 NR rfl fun hb hw=>?_;unfold JW;have hS:=DY m ts a i hz ha σ hi;simp -dsimp only[aw,seval];refine aj hS ?_;cases hs:bo m ts a with
 | false=>
  simp -dsimp only[aw,seval,Pa,if_false];exact aF hb rfl rfl Ph ⟨rfl,rfl⟩
 | true=>
  unfold pb at hi;simp -dsimp only[aw,seval,hi,bI (show -9223372036854775808≤((a:Nat):Int)+1 by omega) (show((a:Nat):Int)+1≤9223372036854775807 by omega),if_true];exact bv (τ:=σ.set i (pb ts (a+1))) (ct hb rfl) rfl rfl (by rw[Pl (by rw[Pj];exact Ps _)];rfl) ⟨rfl,rfl⟩
theorem pR(ts:List Tok)(a i:Nat)(ha:a≤ts.length)(σ:LLV)(hi:σ[i]? = some (pb ts a)):
 Fun G 312 [.ptr i 0] σ fun o σ'=>o=.panic (d9 (if a<ts.length then 5 else 6) a)/\σ'=σ:=by
 refine al Tryz.func312 OT rfl fun hb hw=>?_;unfold J1;unfold pb at hi;by_cases hlt:a<ts.length
 .have d1:decide (((ts.length:Nat):Int)≤((a:Nat):Int))=false:=by rw[decide_eq_false_iff_not];omega
  rw[if_pos hlt];simp -dsimp only[aw,seval,hi,d1];exact⟨σ.length,Ps _,by rw[Ph];exact hb,rfl,rfl,Ph⟩
 .have hae:a=ts.length:=by omega
  have d1:decide (((ts.length:Nat):Int)≤((a:Nat):Int))=true:=by rw[decide_eq_true_eq];omega
  rw[if_neg hlt];simp -dsimp only[aw,seval,hi,d1];rw[hae];exact⟨σ.length,Ps _,by rw[Ph];exact hb,rfl,rfl,Ph⟩
theorem ew{σ σ' τ:LLV}{ρ:ac}{rs:List RV}{Q:Out->LLV->Prop}{v:V}(hb:ai σ.length τ=true)(hσ:σ'.take σ.length=τ)(hv:V.under σ.length v=true)(hq:Q (.panic v) τ):fin σ.length rs Q (.panic v) ρ σ':=
 ⟨σ.length,Ps _,by rw[hσ];exact hb,hv,by rw[hσ];exact hq⟩
theorem C3{σ σ' τ:LLV}{ρ:ac}{rs:List RV}{Q:Out->LLV->Prop}(hb:ai σ.length τ=true){v:V}(h:aL σ' ρ rs=some v)(hv:V.under σ.length v=true)(hσ:σ'.take σ.length=τ)(hq:Q (.ret v) τ):fin σ.length rs Q .normal ρ σ':=
 ⟨ρ,σ',.refl _ _ _,v,h,σ.length,Ps _,by rw[hσ];exact hb,hv,by rw[hσ];exact hq⟩
theorem aS{K P:V->LLV->Prop}{v:V}{σ:LLV}:C4 K P (.panic v) σ=P v σ:=rfl
def eO(ts:List Tok)(a:Nat):Int:=if a<ts.length then 5 else 6
theorem cG{σ:LLV}(hb:ai σ.length σ=true)(i:Nat)(ts:List Tok)(a:Nat):ai σ.length (σ.set i (pb ts a))=true:=ct hb rfl
theorem tX{σ:LLV}(i:Nat)(X:List V):(σ.set i X).take σ.length=σ.set i X:=Pl (by rw[Pj];exact Ps _)
theorem eu{σ:LLV}(i:Nat)(X:List V)(l:LLV):(σ.set i X++l).take σ.length=σ.set i X:=by
 rw[List.take_append_of_le_length (by simp),tX]
theorem wy(m:ByteArray)(ts:List Tok)(a i:Nat)(hz:∀t,t∈ts->t.text.size≤1000)(hn:ts.length≤1200000)(ha:a≤ts.length)(σ:LLV)(hi:σ[i]? = some (pb ts a)):
 Fun G 286 [.ptr i 0,.d (ae m)] σ fun o σ'=>if bo m ts a=true then o=.ret (.tup [])/\σ'=σ.set i (pb ts (a+1))else o=.panic (d9 (eO ts a) a)/\σ'=σ:=by
 refine al Tryz.func286 NK rfl fun hb hw=>?_;unfold ME;have hA:=iZ m ts a i hz hn ha σ hi;have hF:=pR ts a i ha σ hi;simp -dsimp only[aw,seval];refine cY hA ?_;cases hs:bo m ts a with
 | true=>
  simp -dsimp only[aw,seval,if_true];exact C3 (τ:=σ.set i (pb ts (a+1))) (cG hb i ts _) rfl rfl (tX _ _) ⟨rfl,rfl⟩
 | false=>
  simp -dsimp only[aw,seval,Pa,if_false];refine aE hF fun o σ' ⟨e1,e2⟩=>?_;rw[e1,e2];simp -dsimp only[aw,seval,aS];exact ew hb Ph rfl ⟨rfl,rfl⟩
theorem qh{ts:List Tok}{a:Nat}(h:a<ts.length):bD (ts.drop a)=if bS ts[a]=true/\ts[a].kind=1 then some (ts[a].text,ts.drop (a+1))else none:=by
 rw[Pf h];rfl
theorem mg{ts:List Tok}{a:Nat}(h:a<ts.length):cm (ts.drop a)=if bS ts[a]=true/\ts[a].kind=3 then some (ts[a].num,ts.drop (a+1))else none:=by
 rw[Pf h];rfl
theorem jx(t:Tok):gU t=.agg [.d (aa t.kind),.d (aa t.num),.d (ae t.text),.d (aa t.line)]:=rfl
theorem y7(ts:List Tok)(a i:Nat)(hz:∀t,t∈ts->t.text.size≤1000)(hn:ts.length≤1200000)(ha:a≤ts.length)(σ:LLV)(hi:σ[i]? = some (pb ts a)):
 Fun G 330 [.ptr i 0] σ fun o σ'=>match bD (ts.drop a)with
  | some (s,_)=>o=.ret (.d (ae s))/\σ'=σ.set i (pb ts (a+1))
  | none=>o=.panic (d9 (eO ts a) a)/\σ'=σ:=by
 have hlt:=(List.getElem?_eq_some_iff.1 hi).1;have hN:=mD ts a i hz ha σ hi;have hF:=fun l=>pR ts a i ha (σ++l) (am hi l);have hbx:∀(X cs:List V),(σ.set i X++[cs])[σ.length]? = some cs:=fun X cs=>by rw[Pk (by simp)];simp
 have hio:=fun t=>am hi t;have hso:=fun l x=>bj hi l x;unfold pb at hio;have hw1:IntKind.i64.wrap (((a:Nat):Int)+1)=((a+1:Nat):Int):=by rw[bI (by omega) (by omega)];omega
 refine al Tryz.func330 N6 rfl fun hb hw=>?_;unfold KE;simp -dsimp only[aw,seval];refine aj hN ?_;by_cases hla:a<ts.length
 .have hnv:ft ts a=if bS ts[a]=true then .tup [gU ts[a],ak true]else .tup [cy,ak false]:=by unfold ft;rw[Pd hla]
  rw[hnv,qh hla];generalize ts[a]=t;by_cases hv:bS t=true
  .rw[if_pos hv];by_cases hk:t.kind=1
   .rw[if_pos ⟨hv,hk⟩];simp -dsimp only[aw,seval,jx,decide_eq_true hk,hio,hw1,hso,hbx];exact bv (τ:=σ.set i (pb ts (a+1))) (cG hb i ts _) rfl rfl (eu _ _ _) ⟨rfl,rfl⟩
   .rw[if_neg (fun h=>hk h.2)];simp -dsimp only[aw,seval,jx,decide_eq_false hk];refine aE (hF _) fun o σ' ⟨e1,e2⟩=>?_;rw[e1,e2];simp -dsimp only[aw,seval,aS];exact ew hb Pe rfl ⟨rfl,rfl⟩
  .rw[if_neg hv,if_neg (fun h=>hv h.1)];simp -dsimp only[aw,seval,cy,cS];refine aE (hF _) fun o σ' ⟨e1,e2⟩=>?_;rw[e1,e2];simp -dsimp only[aw,seval,aS];exact ew hb Pe rfl ⟨rfl,rfl⟩
 .have hnv:ft ts a=.tup [cy,ak false]:=by unfold ft;rw[Pi (by omega)]
  rw[hnv,Pg (show ts.length≤a by omega)];simp only[bD];simp -dsimp only[aw,seval,cy,cS];refine aE (hF _) fun o σ' ⟨e1,e2⟩=>?_;rw[e1,e2];simp -dsimp only[aw,seval,aS];exact ew hb Pe rfl ⟨rfl,rfl⟩
theorem uF(ts:List Tok)(a i:Nat)(hz:∀t,t∈ts->t.text.size≤1000)(hn:ts.length≤1200000)(ha:a≤ts.length)(σ:LLV)(hi:σ[i]? = some (pb ts a)):
 Fun G 329 [.ptr i 0] σ fun o σ'=>match cm (ts.drop a)with
  | some (n,_)=>if 65535<n then o=.panic (d9 3 a)/\σ'=σ else o=.ret (.d (aa n))/\σ'=σ.set i (pb ts (a+1))
  | none=>o=.panic (d9 (eO ts a) a)/\σ'=σ:=by
 have hlt:=(List.getElem?_eq_some_iff.1 hi).1;have hN:=mD ts a i hz ha σ hi;have hF:=fun l=>pR ts a i ha (σ++l) (am hi l);have hbx:∀(X cs:List V),(σ.set i X++[cs])[σ.length]? = some cs:=fun X cs=>by rw[Pk (by simp)];simp
 have hio:=fun t=>am hi t;have hso:=fun l x=>bj hi l x;unfold pb at hio;have hw1:IntKind.i64.wrap (((a:Nat):Int)+1)=((a+1:Nat):Int):=by rw[bI (by omega) (by omega)];omega
 refine al Tryz.func329 Oc rfl fun hb hw=>?_;unfold Ls;simp -dsimp only[aw,seval];refine aj hN ?_;by_cases hla:a<ts.length
 .have hnv:ft ts a=if bS ts[a]=true then .tup [gU ts[a],ak true]else .tup [cy,ak false]:=by unfold ft;rw[Pd hla]
  rw[hnv,mg hla];generalize ts[a]=t;by_cases hv:bS t=true
  .rw[if_pos hv];by_cases hk:t.kind=3
   .rw[if_pos ⟨hv,hk⟩];simp only;by_cases hbig:65535<t.num
    .simp -dsimp only[aw,seval,jx,decide_eq_true hk,hio,decide_eq_true hbig];exact ew hb Pe rfl (by rw[if_pos hbig];exact⟨rfl,rfl⟩)
    .simp -dsimp only[aw,seval,jx,decide_eq_true hk,hio,decide_eq_false hbig,hw1,hso,hbx];exact bv (τ:=σ.set i (pb ts (a+1))) (cG hb i ts _) rfl rfl (eu _ _ _) (by rw[if_neg hbig];exact⟨rfl,rfl⟩)
   .rw[if_neg (fun h=>hk h.2)];simp -dsimp only[aw,seval,jx,decide_eq_false hk];refine aE (hF _) fun o σ' ⟨e1,e2⟩=>?_;rw[e1,e2];simp -dsimp only[aw,seval,aS];exact ew hb Pe rfl ⟨rfl,rfl⟩
  .rw[if_neg hv,if_neg (fun h=>hv h.1)];simp -dsimp only[aw,seval,cy,cS];refine aE (hF _) fun o σ' ⟨e1,e2⟩=>?_;rw[e1,e2];simp -dsimp only[aw,seval,aS];exact ew hb Pe rfl ⟨rfl,rfl⟩
 .have hnv:ft ts a=.tup [cy,ak false]:=by unfold ft;rw[Pi (by omega)]
  rw[hnv,Pg (show ts.length≤a by omega)];simp only[cm];simp -dsimp only[aw,seval,cy,cS];refine aE (hF _) fun o σ' ⟨e1,e2⟩=>?_;rw[e1,e2];simp -dsimp only[aw,seval,aS];exact ew hb Pe rfl ⟨rfl,rfl⟩
theorem d8(o:Int)(l:List Ex)(σ:LLV):Fun G 287 [.d (aa o),.d (.sl (l.map dex))] σ (aO (vex (bh o l)) σ):=by
 refine al Tryz.func287 Nu rfl fun hb hw=>?_;unfold Kz;simp -dsimp only[aw,seval];exact aF (v:=vex (bh o l)) hb (by rw[au];simp[G0,aL,bc,bh,ca,bu,aT,aW,aw,seval]) (by rw[au];rfl) Pe ⟨rfl,rfl⟩
def zb:V:=.agg [.d (ae ⟨#[]⟩),.d (aa 0),.d (aa 0)]
def fG(l:List (ByteArray×Int×Nat))(k:Nat)(ts:List Tok)(a:Nat):Option (ByteArray×Int×Nat):=l.find? fun b=>decide (b.2.2=k)&&bo b.1 ts a
theorem bA{m:ByteArray}{ts:List Tok}{a:Nat}:acc m (ts.drop a)=if bo m ts a=true then some (ts.drop (a+1))else none:=by
 by_cases h:a<ts.length
 .unfold bo;rw[Pf h];simp only[acc];split<;>simp
 .rw[gx h,Pg (by omega)];rfl
theorem lr(k:Nat)(ts:List Tok)(a:Nat):∀l,fm l k (ts.drop a)=(fG l k ts a).map fun b=>(b.2.1,ts.drop (a+1))
 | []=>rfl
 | b::l=>by
  have ih:=lr k ts a l;unfold fG at ih ⊢;simp only[fm,bA,Pq];by_cases hk:b.2.2=k
  .rw[if_pos hk];by_cases hs:bo b.1 ts a=true
   .simp[hk,hs]
   .simp only[hs,hk,decide_true,Bool.true_and,if_false];simpa using ih
  .rw[if_neg hk];simp only[hk,decide_false,Bool.false_and];exact ih
def ji(ts:List Tok)(a:Nat)(k:Nat):V:=match fG fp k ts a with
 | some b=>.tup [.agg [.d (ae b.1),.d (aa b.2.1),.d (aa b.2.2)],ak false,ak true]
 | none=>if k=9/\bo (ah 62) ts a=true then .tup [.agg [.d (ae ⟨#[]⟩),.d (aa 17),.d (aa 0)],ak true,ak true]
  else if k=9/\bo (bL 62 61) ts a=true then .tup [.agg [.d (ae ⟨#[]⟩),.d (aa 18),.d (aa 0)],ak true,ak true]
  else .tup [zb,ak false,ak false]
def eQ(ts:List Tok)(a:Nat)(k:Nat):Bool:=(fG fp k ts a).isSome||(decide (k=9)&&(bo (ah 62) ts a||bo (bL 62 61) ts a))
theorem sc(k:Nat)(hk:k≤100)(ts:List Tok)(a i:Nat)(hz:∀t,t∈ts->t.text.size≤1000)(hn:ts.length≤1200000)(ha:a≤ts.length)(σ:LLV)(hi:σ[i]? = some (pb ts a)):
 Fun G 322 [.ptr i 0,.d (aa k)] σ fun o σ'=>o=.ret (ji ts a k)/\σ'=if eQ ts a k=true then σ.set i (pb ts (a+1))else σ:=by
 have hlt:=(List.getElem?_eq_some_iff.1 hi).1;refine al Tryz.func322 N7 rfl fun hb hw=>?_;unfold Ju;have hA:=fun m l=>iZ m ts a i hz hn ha (σ++l) (am hi l);have hso:=fun l x=>bj hi l x;obtain⟨σ1,hs1⟩:∃x,x=σ.set i (pb ts (a+1)):=⟨_,rfl⟩
 have hl1:σ1.length=σ.length:=by rw[hs1,Pj]
 have hb1:ai σ1.length σ1=true:=by rw[hl1,hs1];exact cG hb i ts _
 have h15:fp.length≤100:=by decide
 have fin1:∀(v:V) (ρ:ac) (l:LLV),ji ts a k=v->eQ ts a k=true->aL (σ1++l) ρ nS=some v->V.under σ1.length v=true->fin σ1.length nS (fun o σ'=>o=.ret (ji ts a k)/\σ'=if eQ ts a k=true then σ1 else σ) .ret ρ (σ1++l):=fun v ρ l e1 e2 e3 e4=>
  bv (τ:=σ1) hb1 e3 e4 Pe ⟨by rw[e1],by rw[e2,if_pos rfl]⟩
 simp -dsimp only[aw,seval];refine aj (qp _) ?_;generalize hl:fp=l at *;simp -dsimp only[aw,seval,k7];refine aI [0,1,4,9,10,11] (R:=fun(j:Nat) ρ σ'=>ρ=[(0,.ptr i 0),(1,.d (aa k)),(4,.ptr σ.length 0),(9,.d (.sl (k7 l))),(10,aC .i64 l.length),(11,aC .i64 j)]/\σ'=σ++[[.d (ae ⟨#[]⟩),.d (aa 0),.d (aa 0)]]/\fG l k ts a=fG (l.drop j) k ts a) l.length ⟨rfl,rfl,rfl⟩ ?_ _;rintro j ρ' σ' hj ⟨rfl,rfl,hr⟩;by_cases hlj:j<l.length
 .have hd:fG (l.drop j) k ts a=if l[j].2.2=k/\bo l[j].1 ts a=true then some l[j]else fG (l.drop (j+1)) k ts a:=by
   rw[Pf hlj];unfold fG;rw[Pq];by_cases h1:l[j].2.2=k<;>by_cases h2:bo l[j].1 ts a=true<;>simp[h1,h2]
  have next:fG (l.drop j) k ts a=fG (l.drop (j+1)) k ts a->j<l.length/\Nxt σ.length (fun ρ σ'=>ρ=[(0,V.ptr i 0),(1,.d (aa k)),(4,.ptr σ.length 0),(9,.d (.sl (k7 l))),(10,aC .i64 l.length),(11,aC .i64 ((j+1:Nat):Int))]/\σ'=σ++[[.d (ae ⟨#[]⟩),.d (aa 0),.d (aa 0)]]/\fG l k ts a=fG (l.drop (j+1)) k ts a) [(0,V.ptr i 0),(1,.d (aa k)),(4,.ptr σ.length 0),(9,.d (.sl (k7 l))),(10,aC .i64 l.length),(11,aC .i64 ((j+1:Nat):Int))] (σ++[[.d (ae ⟨#[]⟩),.d (aa 0),.d (aa 0)],[.d (ae l[j].1),.d (aa l[j].2.1),.d (aa l[j].2.2)]]) .mk:=fun e=>
   ⟨hlj,Nxt.to (σ++[[.d (ae ⟨#[]⟩),.d (aa 0),.d (aa 0)]]) [[.d (ae l[j].1),.d (aa l[j].2.1),.d (aa l[j].2.2)]] (by simp) (by simp) (aq hb rfl) (by simp[an,V.under];omega) ⟨rfl,rfl,by rw[hr,e]⟩⟩
  by_cases h1:l[j].2.2=k
  .have h1':decide (((l[j].2.2:Nat):Int)=((k:Nat):Int))=true:=by rw[decide_eq_true_eq];omega
   simp -dsimp only[aw,seval,k7,Pb,hlj,decide_true,Pd hlj,h1'];refine cY (hA _ _) ?_;cases hs:bo l[j].1 ts a with
   | true=>
    rw[if_pos ⟨h1,hs⟩]at hd;rw[if_pos rfl,hso,<-hs1];rw[<-hl1];simp -dsimp only[aw,seval];refine fin1 (.tup [.agg [.d (ae l[j].1),.d (aa l[j].2.1),.d (aa l[j].2.2)],ak false,ak true]) _ _ ?_ ?_ ?_ ?_
    .unfold ji;rw[hl,hr,hd]
    .unfold eQ;rw[hl,hr,hd];rfl
    .simp[nS,aL,cv,bc,aw,seval]
    .rfl
   | false=>
    rw[if_neg (fun h=>by rw[hs]at h;cases h.2)]at hd;simp -dsimp only[aw,seval,Pa,if_false,aJ hlj (show l.length≤9223372036854775807 by omega)];exact next hd
  .have h1':decide (((l[j].2.2:Nat):Int)=((k:Nat):Int))=false:=by rw[decide_eq_false_iff_not];omega
   rw[if_neg (fun h=>h1 h.1)]at hd;simp -dsimp only[aw,seval,k7,Pb,hlj,decide_true,Pd hlj,h1',aJ hlj (show l.length≤9223372036854775807 by omega)];exact(next hd).2
 .rw[Pg (by omega),show fG [] k ts a=none from rfl]at hr;by_cases h9:k=9
  .subst h9;simp -dsimp only[aw,seval,Pb,hlj,decide_false,show(((9:Nat):Int))=9 from rfl,decide_true];refine cY (hA _ _) ?_;have hf9:fG fp 9 ts a=none:=by rw[hl];exact hr
   cases hs:bo ⟨#[62]⟩ ts a with
   | true=>
    have hs':bo (ah 62) ts a=true:=hs;rw[if_pos rfl,hso,<-hs1];rw[<-hl1];simp -dsimp only[aw,seval];refine fin1 (.tup [.agg [.d (ae ⟨#[]⟩),.d (aa 17),.d (aa 0)],ak true,ak true]) _ _ ?_ ?_ ?_ ?_
    .unfold ji;rw[hf9];simp[hs']
    .unfold eQ;rw[hf9];simp[hs']
    .simp[nS,aL,cv,bc,aw,seval]
    .rfl
   | false=>
    have hs':bo (ah 62) ts a=false:=hs;simp -dsimp only[aw,seval,Pa,if_false];refine cY (hA _ _) ?_;cases hs2:bo ⟨#[62,61]⟩ ts a with
    | true=>
     have hs2':bo (bL 62 61) ts a=true:=hs2;rw[if_pos rfl,hso,<-hs1];rw[<-hl1];simp -dsimp only[aw,seval];refine fin1 (.tup [.agg [.d (ae ⟨#[]⟩),.d (aa 18),.d (aa 0)],ak true,ak true]) _ _ ?_ ?_ ?_ ?_
     .unfold ji;rw[hf9];simp[hs',hs2']
     .unfold eQ;rw[hf9];simp[hs',hs2']
     .simp[nS,aL,cv,bc,aw,seval]
     .rfl
    | false=>
     have hs2':bo (bL 62 61) ts a=false:=hs2;simp -dsimp only[aw,seval,Pa,if_false];exact aF (v:=.tup [zb,ak false,ak false]) hb (by simp[nS,aL,cv,bc,zb,aw,seval]) rfl Pe ⟨by unfold ji;rw[hf9];simp[hs',hs2'],by unfold eQ;rw[hf9];simp[hs',hs2']⟩
  .have h9':decide (((k:Nat):Int)=9)=false:=by rw[decide_eq_false_iff_not];omega
   simp -dsimp only[aw,seval,Pb,hlj,h9'];exact aF (v:=.tup [zb,ak false,ak false]) hb (by simp[nS,aL,cv,bc,zb,aw,seval]) rfl Pe ⟨by unfold ji;rw[hl,hr];simp[h9],by unfold eQ;rw[hl,hr];simp[h9]⟩
def PQ(ts:List Tok)(i:Nat)(σ:LLV)(x:PR)(o:Out)(σ':LLV):Prop:=match x with
 | .ok e r=>o=.ret (vex e)/\σ'=σ.set i (pb ts (ts.length-r.length))
 | .bad c r=>o=.panic (d9 c (ts.length-r.length))/\∃b,σ'=σ.set i (pb ts b)
 | .out=>False
theorem tq{ts r:List Tok}(h:r <:+ ts):r=ts.drop (ts.length-r.length):=List.suffix_iff_eq_drop.1 h
theorem EJ{ts:List Tok}{a:Nat}{k:PK}{e:Ex}{r:List Tok}(ha:a≤ts.length)(h:par k (ts.drop a)=.ok e r):r=ts.drop (ts.length-r.length)/\a≤ts.length-r.length/\ts.length-r.length≤ts.length/\(k.eats=true->a<ts.length-r.length):=by
 have ht:=jI k (ts.drop a);rw[h]at ht;have h1:=ht.1.length_le;have h2:=ht.2;rw[Po]at h1 h2;exact⟨tq (ht.1.trans (List.drop_suffix _ _)),by omega,by omega,fun e=>by have:=h2 e;omega⟩
theorem A8(ts:List Tok)(a:Nat)(ha:a≤ts.length):dZ (ts.drop a)=.bad (eO ts a) (ts.drop a):=by
 unfold eO;by_cases h:a<ts.length
 .rw[if_pos h,Pf h];rfl
 .rw[if_neg h,Pg (by omega)];rfl
theorem gY(ts:List Tok)(a:Nat)(ha:a≤ts.length):ts.length-(ts.drop a).length=a:=by rw[Po];omega
end Go.Proofs.YtnhphlmblenapaaGreatDoor
