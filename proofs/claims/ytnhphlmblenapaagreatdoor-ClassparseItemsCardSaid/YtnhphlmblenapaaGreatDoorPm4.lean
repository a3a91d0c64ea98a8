import Derived.Test.YtnhphlmblenapaaGreatDoorIw2
set_option linter.unusedVariables false
set_option linter.unusedSimpArgs false
set_option linter.unusedSectionVars false
set_option maxHeartbeats 1200000
open Bool renaming false_eq_true->Sq
open Int renaming ofNat_lt->Ss
open List renaming take_left->Su,getElem?_eq_getElem->Sv,drop_eq_nil_of_le->Sw,drop_eq_getElem_cons->Sx,take_length->Sy,getElem?_eq_none->SA,length_set->SB,getElem?_append_right->SC,take_of_length_le->SD,length_drop->SE,find?_cons->SF
open Nat renaming le_refl->SG
namespace Go.Proofs.YtnhphlmblenapaaGreatDoor
open Go.RowKit
def ax(m:ByteArray)(ts:List Tok)(a:Nat):Bool:=(acc m (ts.drop a)).isSome
theorem bw{m:ByteArray}{ts:List Tok}{a:Nat}(h:ax m ts a=true):a<ts.length:=by
 apply Classical.byContradiction;intro hn;unfold ax at h;rw[Sw (by omega)]at h;cases h
def pb(ts:List Tok)(a:Nat):List V:=[.d (.sl (ts.map dA)),.d (ab a)]
def d8(e:Int)(a:Nat):V:=.iface 241 (.agg [.d (ab e),.d (ab a)])
theorem vz(t:Tok)(h:t.text.size≤1000)(σ:LLV):Fun G 327 [dZ t] σ (aN (an (bO t)) σ):=by
 refine ae Tryz.func327 RQ rfl fun hb hw=>?_;unfold Mk;have hj:=xX [t] (by simp) (by simpa using h);unfold zm at hj;simp only[List.all_cons,List.all_nil,Bool.and_true]at hj;simp -dsimp only[aw,seval,dZ];refine ac (by simpa only[List.map_cons,List.map_nil,dA]using hj _) ?_;cases hv:bO t with
 | true=>
  simp -dsimp only[aw,seval];first|exact al hb rfl rfl|exact am hb rfl rfl
 | false=>
  simp -dsimp only[aw,seval,Int.reduceEq,decide_false];first|exact al hb rfl rfl|exact am hb rfl rfl
def fB(ts:List Tok)(a:Nat):V:=match ts[a]? with
 | some t=>if bO t=true then .tup [dZ t,an true]else .tup [bR,an false]
 | none=>.tup [bR,an false]
theorem mB(ts:List Tok)(a i:Nat)(hz:∀t,t∈ts->t.text.size≤1000)(ha:a≤ts.length)(σ:LLV)(hi:σ[i]? = some (pb ts a)):
 Fun G 323 [.ptr i 0] σ (aN (fB ts a) σ):=by
 refine ae Tryz.func323 PG rfl fun hb hw=>?_;unfold LL;have hio:=fun t=>ah hi t;unfold pb at hio;by_cases hlt:a<ts.length
 .have d1:decide (((ts.length:Nat):Int)≤((a:Nat):Int))=false:=by rw[decide_eq_false_iff_not];omega
  have hn:fB ts a=if bO ts[a]=true then .tup [dZ ts[a],an true]else .tup [bR,an false]:=by unfold fB;rw[Sv hlt]
  have hv:=vz ts[a] (hz _ (List.getElem_mem hlt));simp -dsimp only[aw,seval,hio,d1,Sv hlt,bM,dA];refine bA (by simpa only[dZ]using hv _) ?_;cases hvt:bO ts[a]with
  | true=>
   rw[hn,if_pos hvt];simp -dsimp only[aw,seval,hio,Sv hlt,bM,dA];exact az (v:=.tup [dZ ts[a],an true]) hb (by simp[zk,aC,bY,aO,dZ,aw,seval]) rfl Su ⟨rfl,rfl⟩
  | false=>
   rw[hn,if_neg (by rw[hvt];decide)];simp -dsimp only[aw,seval];exact az (v:=.tup [bR,an false]) hb (by simp[zk,aC,bY,aO,bR,co,cG,aw,seval]) rfl Su ⟨rfl,rfl⟩
 .have d1:decide (((ts.length:Nat):Int)≤((a:Nat):Int))=true:=by rw[decide_eq_true_eq];omega
  have hn:fB ts a=.tup [bR,an false]:=by unfold fB;rw[SA (by omega)]
  rw[hn];simp -dsimp only[aw,seval,hio,d1];exact az (v:=.tup [bR,an false]) hb (by simp[zk,aC,bY,aO,bR,co,cG,aw,seval]) rfl Su ⟨rfl,rfl⟩
theorem nx{m:ByteArray}{ts:List Tok}{a:Nat}(h:a<ts.length):ax m ts a=(bO ts[a]&&((decide (ts[a].kind=4)||decide (ts[a].kind=2))&&decide (ts[a].text=m))):=by
 unfold ax;rw[Sx h];simp only[acc];rw[Bool.eq_iff_iff];split<;>simp_all
theorem fk{m:ByteArray}{ts:List Tok}{a:Nat}(h:¬a<ts.length):ax m ts a=false:=by
 unfold ax;rw[Sw (by omega)];rfl
theorem E6(m:ByteArray)(ts:List Tok)(a i:Nat)(hz:∀t,t∈ts->t.text.size≤1000)(ha:a≤ts.length)(σ:LLV)(hi:σ[i]? = some (pb ts a)):
 Fun G 311 [.ptr i 0,.d (aj m)] σ (aN (an (ax m ts a)) σ):=by
 refine ae Tryz.func311 R9 rfl fun hb hw=>?_;unfold Ok;have hN:=mB ts a i hz ha σ hi;simp -dsimp only[aw,seval];refine ac hN ?_;by_cases hlt:a<ts.length
 .have hn:fB ts a=if bO ts[a]=true then .tup [dZ ts[a],an true]else .tup [bR,an false]:=by unfold fB;rw[Sv hlt]
  rw[hn,nx hlt];generalize ts[a]=t;cases hvt:bO t with
  | false=>
   rw[if_neg (by decide)];simp -dsimp only[aw,seval,bR,co];first|exact al hb rfl rfl|exact am hb rfl rfl
  | true=>
   rw[if_pos rfl];by_cases h4:t.kind=4
   .simp -dsimp only[aw,seval,dZ,decide_eq_true h4];first|exact al hb rfl rfl|exact am hb rfl rfl
   .by_cases h2:t.kind=2
    .simp -dsimp only[aw,seval,dZ,decide_eq_false h4,decide_eq_true h2];first|exact al hb rfl rfl|exact am hb rfl rfl
    .simp -dsimp only[aw,seval,dZ,decide_eq_false h4,decide_eq_false h2];first|exact al hb rfl rfl|exact am hb rfl rfl
 .have hn:fB ts a=.tup [bR,an false]:=by unfold fB;rw[SA (by omega)]
  rw[hn,fk hlt];simp -dsimp only[aw,seval,bR,co];first|exact al hb rfl rfl|exact am hb rfl rfl
theorem Jp{σ:LLV}{i:Nat}{ts:List Tok}{a:Nat}(hi:σ[i]? = some (pb ts a)):σ.set i (pb ts a)=σ:=by
 have hlt:=(List.getElem?_eq_some_iff.1 hi).1;rw[<-(List.getElem?_eq_some_iff.1 hi).2];exact List.set_getElem_self hlt
theorem jm(m:ByteArray)(ts:List Tok)(a i:Nat)(hz:∀t,t∈ts->t.text.size≤1000)(hn:ts.length≤1200000)(ha:a≤ts.length)(σ:LLV)(hi:σ[i]? = some (pb ts a)):
 Fun G 285 [.ptr i 0,.d (aj m)] σ fun o σ'=>o=.ret (an (ax m ts a))/\σ'=if ax m ts a=true then σ.set i (pb ts (a+1))else σ:=by
 have hlt:=(List.getElem?_eq_some_iff.1 hi).1;refine ae Tryz.func285 RX rfl fun hb hw=>?_;unfold MI;have hS:=E6 m ts a i hz ha σ hi;simp -dsimp only[aw,seval];refine ac hS ?_;cases hs:ax m ts a with
 | false=>
  simp -dsimp only[aw,seval,Sq,if_false];exact az hb rfl rfl Sy ⟨rfl,rfl⟩
 | true=>
  unfold pb at hi;simp -dsimp only[aw,seval,hi,aA (show -9223372036854775808≤((a:Nat):Int)+1 by omega) (show((a:Nat):Int)+1≤9223372036854775807 by omega),if_true];exact bp (τ:=σ.set i (pb ts (a+1))) (bt hb rfl) rfl rfl (by rw[SD (by rw[SB];exact SG _)];rfl) ⟨rfl,rfl⟩
theorem pK(ts:List Tok)(a i:Nat)(ha:a≤ts.length)(σ:LLV)(hi:σ[i]? = some (pb ts a)):
 Fun G 312 [.ptr i 0] σ fun o σ'=>o=.panic (d8 (if a<ts.length then 5 else 6) a)/\σ'=σ:=by
 refine ae Tryz.func312 Ri rfl fun hb hw=>?_;unfold L0;unfold pb at hi;by_cases hlt:a<ts.length
 .have d1:decide (((ts.length:Nat):Int)≤((a:Nat):Int))=false:=by rw[decide_eq_false_iff_not];omega
  rw[if_pos hlt];simp -dsimp only[aw,seval,hi,d1];exact⟨σ.length,SG _,by rw[Sy];exact hb,rfl,rfl,Sy⟩
 .have hae:a=ts.length:=by omega
  have d1:decide (((ts.length:Nat):Int)≤((a:Nat):Int))=true:=by rw[decide_eq_true_eq];omega
  rw[if_neg hlt];simp -dsimp only[aw,seval,hi,d1];rw[hae];exact⟨σ.length,SG _,by rw[Sy];exact hb,rfl,rfl,Sy⟩
theorem ey{σ σ' τ:LLV}{ρ:ai}{rs:List RV}{Q:Out->LLV->Prop}{v:V}(hb:ak σ.length τ=true)(hσ:σ'.take σ.length=τ)(hv:V.under σ.length v=true)(hq:Q (.panic v) τ):fin σ.length rs Q (.panic v) ρ σ':=
 ⟨σ.length,SG _,by rw[hσ];exact hb,hv,by rw[hσ];exact hq⟩
theorem Ej{σ σ' τ:LLV}{ρ:ai}{rs:List RV}{Q:Out->LLV->Prop}(hb:ak σ.length τ=true){v:V}(h:aC σ' ρ rs=some v)(hv:V.under σ.length v=true)(hσ:σ'.take σ.length=τ)(hq:Q (.ret v) τ):fin σ.length rs Q .normal ρ σ':=
 ⟨ρ,σ',.refl _ _ _,v,h,σ.length,SG _,by rw[hσ];exact hb,hv,by rw[hσ];exact hq⟩
theorem bg{K P:V->LLV->Prop}{v:V}{σ:LLV}:DU K P (.panic v) σ=P v σ:=rfl
def bV(ts:List Tok)(a:Nat):Int:=if a<ts.length then 5 else 6
theorem cI{σ:LLV}(hb:ak σ.length σ=true)(i:Nat)(ts:List Tok)(a:Nat):ak σ.length (σ.set i (pb ts a))=true:=bt hb rfl
theorem wQ{σ:LLV}(i:Nat)(X:List V):(σ.set i X).take σ.length=σ.set i X:=SD (by rw[SB];exact SG _)
theorem cP{σ:LLV}(i:Nat)(X:List V)(l:LLV):(σ.set i X++l).take σ.length=σ.set i X:=by
 rw[List.take_append_of_le_length (by simp),wQ]
theorem x8(m:ByteArray)(ts:List Tok)(a i:Nat)(hz:∀t,t∈ts->t.text.size≤1000)(hn:ts.length≤1200000)(ha:a≤ts.length)(σ:LLV)(hi:σ[i]? = some (pb ts a)):
 Fun G 286 [.ptr i 0,.d (aj m)] σ fun o σ'=>if ax m ts a=true then o=.ret (.tup [])/\σ'=σ.set i (pb ts (a+1))else o=.panic (d8 (bV ts a) a)/\σ'=σ:=by
 refine ae Tryz.func286 Ru rfl fun hb hw=>?_;unfold L4;have hA:=jm m ts a i hz hn ha σ hi;have hF:=pK ts a i ha σ hi;simp -dsimp only[aw,seval];refine dh hA ?_;cases hs:ax m ts a with
 | true=>
  simp -dsimp only[aw,seval,if_true];exact Ej (τ:=σ.set i (pb ts (a+1))) (cI hb i ts _) rfl rfl (wQ _ _) ⟨rfl,rfl⟩
 | false=>
  simp -dsimp only[aw,seval,Sq,if_false];refine aB hF fun o σ' ⟨e1,e2⟩=>?_;rw[e1,e2];simp -dsimp only[aw,seval,bg];exact ey hb Sy rfl ⟨rfl,rfl⟩
theorem fv{ts:List Tok}{a:Nat}(h:a<ts.length):bT (ts.drop a)=if bO ts[a]=true/\ts[a].kind=1 then some (ts[a].text,ts.drop (a+1))else none:=by
 rw[Sx h];rfl
theorem eO{ts:List Tok}{a:Nat}(h:a<ts.length):cH (ts.drop a)=if bO ts[a]=true/\ts[a].kind=3 then some (ts[a].num,ts.drop (a+1))else none:=by
 rw[Sx h];rfl
theorem kD(t:Tok):dZ t=.agg [.d (ab t.kind),.d (ab t.num),.d (aj t.text),.d (ab t.line)]:=rfl
theorem Ba(ts:List Tok)(a i:Nat)(hz:∀t,t∈ts->t.text.size≤1000)(hn:ts.length≤1200000)(ha:a≤ts.length)(σ:LLV)(hi:σ[i]? = some (pb ts a)):
 Fun G 330 [.ptr i 0] σ fun o σ'=>match bT (ts.drop a)with
  | some (s,_)=>o=.ret (.d (aj s))/\σ'=σ.set i (pb ts (a+1))
  | none=>o=.panic (d8 (bV ts a) a)/\σ'=σ:=by
 have hlt:=(List.getElem?_eq_some_iff.1 hi).1;have hN:=mB ts a i hz ha σ hi;have hF:=fun l=>pK ts a i ha (σ++l) (ah hi l);have hbx:∀(X cs:List V),(σ.set i X++[cs])[σ.length]? = some cs:=fun X cs=>by rw[SC (by simp)];simp
 have hio:=fun t=>ah hi t;have hso:=fun l x=>bc hi l x;unfold pb at hio;have hw1:IntKind.i64.wrap (((a:Nat):Int)+1)=((a+1:Nat):Int):=by rw[aA (by omega) (by omega)];omega
 refine ae Tryz.func330 QV rfl fun hb hw=>?_;unfold Ms;simp -dsimp only[aw,seval];refine ac hN ?_;by_cases hla:a<ts.length
 .have hnv:fB ts a=if bO ts[a]=true then .tup [dZ ts[a],an true]else .tup [bR,an false]:=by unfold fB;rw[Sv hla]
  rw[hnv,fv hla];generalize ts[a]=t;by_cases hv:bO t=true
  .rw[if_pos hv];by_cases hk:t.kind=1
   .rw[if_pos ⟨hv,hk⟩];simp -dsimp only[aw,seval,kD,decide_eq_true hk,hio,hw1,hso,hbx];exact bp (τ:=σ.set i (pb ts (a+1))) (cI hb i ts _) rfl rfl (cP _ _ _) ⟨rfl,rfl⟩
   .rw[if_neg (fun h=>hk h.2)];simp -dsimp only[aw,seval,kD,decide_eq_false hk];refine aB (hF _) fun o σ' ⟨e1,e2⟩=>?_;rw[e1,e2];simp -dsimp only[aw,seval,bg];exact ey hb Su rfl ⟨rfl,rfl⟩
  .rw[if_neg hv,if_neg (fun h=>hv h.1)];simp -dsimp only[aw,seval,bR,co];refine aB (hF _) fun o σ' ⟨e1,e2⟩=>?_;rw[e1,e2];simp -dsimp only[aw,seval,bg];exact ey hb Su rfl ⟨rfl,rfl⟩
 .have hnv:fB ts a=.tup [bR,an false]:=by unfold fB;rw[SA (by omega)]
  rw[hnv,Sw (show ts.length≤a by omega)];simp only[bT];simp -dsimp only[aw,seval,bR,co];refine aB (hF _) fun o σ' ⟨e1,e2⟩=>?_;rw[e1,e2];simp -dsimp only[aw,seval,bg];exact ey hb Su rfl ⟨rfl,rfl⟩
theorem vJ(ts:List Tok)(a i:Nat)(hz:∀t,t∈ts->t.text.size≤1000)(hn:ts.length≤1200000)(ha:a≤ts.length)(σ:LLV)(hi:σ[i]? = some (pb ts a)):
 Fun G 329 [.ptr i 0] σ fun o σ'=>match cH (ts.drop a)with
  | some (n,_)=>if 65535<n then o=.panic (d8 3 a)/\σ'=σ else o=.ret (.d (ab n))/\σ'=σ.set i (pb ts (a+1))
  | none=>o=.panic (d8 (bV ts a) a)/\σ'=σ:=by
 have hlt:=(List.getElem?_eq_some_iff.1 hi).1;have hN:=mB ts a i hz ha σ hi;have hF:=fun l=>pK ts a i ha (σ++l) (ah hi l);have hbx:∀(X cs:List V),(σ.set i X++[cs])[σ.length]? = some cs:=fun X cs=>by rw[SC (by simp)];simp
 have hio:=fun t=>ah hi t;have hso:=fun l x=>bc hi l x;unfold pb at hio;have hw1:IntKind.i64.wrap (((a:Nat):Int)+1)=((a+1:Nat):Int):=by rw[aA (by omega) (by omega)];omega
 refine ae Tryz.func329 Qb rfl fun hb hw=>?_;unfold KX;simp -dsimp only[aw,seval];refine ac hN ?_;by_cases hla:a<ts.length
 .have hnv:fB ts a=if bO ts[a]=true then .tup [dZ ts[a],an true]else .tup [bR,an false]:=by unfold fB;rw[Sv hla]
  rw[hnv,eO hla];generalize ts[a]=t;by_cases hv:bO t=true
  .rw[if_pos hv];by_cases hk:t.kind=3
   .rw[if_pos ⟨hv,hk⟩];simp only;by_cases hbig:65535<t.num
    .simp -dsimp only[aw,seval,kD,decide_eq_true hk,hio,decide_eq_true hbig];exact ey hb Su rfl (by rw[if_pos hbig];exact⟨rfl,rfl⟩)
    .simp -dsimp only[aw,seval,kD,decide_eq_true hk,hio,decide_eq_false hbig,hw1,hso,hbx];exact bp (τ:=σ.set i (pb ts (a+1))) (cI hb i ts _) rfl rfl (cP _ _ _) (by rw[if_neg hbig];exact⟨rfl,rfl⟩)
   .rw[if_neg (fun h=>hk h.2)];simp -dsimp only[aw,seval,kD,decide_eq_false hk];refine aB (hF _) fun o σ' ⟨e1,e2⟩=>?_;rw[e1,e2];simp -dsimp only[aw,seval,bg];exact ey hb Su rfl ⟨rfl,rfl⟩
  .rw[if_neg hv,if_neg (fun h=>hv h.1)];simp -dsimp only[aw,seval,bR,co];refine aB (hF _) fun o σ' ⟨e1,e2⟩=>?_;rw[e1,e2];simp -dsimp only[aw,seval,bg];exact ey hb Su rfl ⟨rfl,rfl⟩
 .have hnv:fB ts a=.tup [bR,an false]:=by unfold fB;rw[SA (by omega)]
  rw[hnv,Sw (show ts.length≤a by omega)];simp only[cH];simp -dsimp only[aw,seval,bR,co];refine aB (hF _) fun o σ' ⟨e1,e2⟩=>?_;rw[e1,e2];simp -dsimp only[aw,seval,bg];exact ey hb Su rfl ⟨rfl,rfl⟩
theorem ec(o:Int)(l:List Ex)(σ:LLV):Fun G 287 [.d (ab o),.d (.sl (l.map dex))] σ (aN (vex (aI o l)) σ):=by
 refine ae Tryz.func287 RA rfl fun hb hw=>?_;unfold KG;simp -dsimp only[aw,seval];exact az (v:=vex (aI o l)) hb (by rw[ao];simp[IA,aC,aO,aI,bq,aU,aG,aH,aw,seval]) (by rw[ao];rfl) Su ⟨rfl,rfl⟩
def zb:V:=.agg [.d (aj ⟨#[]⟩),.d (ab 0),.d (ab 0)]
def fL(l:List (ByteArray×Int×Nat))(k:Nat)(ts:List Tok)(a:Nat):Option (ByteArray×Int×Nat):=l.find? fun b=>decide (b.2.2=k)&&ax b.1 ts a
theorem aR{m:ByteArray}{ts:List Tok}{a:Nat}:acc m (ts.drop a)=if ax m ts a=true then some (ts.drop (a+1))else none:=by
 by_cases h:a<ts.length
 .unfold ax;rw[Sx h];simp only[acc];split<;>simp
 .rw[fk h,Sw (by omega)];rfl
theorem lY(k:Nat)(ts:List Tok)(a:Nat):∀l,iV l k (ts.drop a)=(fL l k ts a).map fun b=>(b.2.1,ts.drop (a+1))
 | []=>rfl
 | b::l=>by
  have ih:=lY k ts a l;unfold fL at ih ⊢;simp only[iV,aR,SF];by_cases hk:b.2.2=k
  .rw[if_pos hk];by_cases hs:ax b.1 ts a=true
   .simp[hk,hs]
   .simp only[hs,hk,decide_true,Bool.true_and,if_false];simpa using ih
  .rw[if_neg hk];simp only[hk,decide_false,Bool.false_and];exact ih
def jy(ts:List Tok)(a:Nat)(k:Nat):V:=match fL cD k ts a with
 | some b=>.tup [.agg [.d (aj b.1),.d (ab b.2.1),.d (ab b.2.2)],an false,an true]
 | none=>if k=9/\ax (aa 62) ts a=true then .tup [.agg [.d (aj ⟨#[]⟩),.d (ab 17),.d (ab 0)],an true,an true]
  else if k=9/\ax (aZ 62 61) ts a=true then .tup [.agg [.d (aj ⟨#[]⟩),.d (ab 18),.d (ab 0)],an true,an true]
  else .tup [zb,an false,an false]
def eX(ts:List Tok)(a:Nat)(k:Nat):Bool:=(fL cD k ts a).isSome||(decide (k=9)&&(ax (aa 62) ts a||ax (aZ 62 61) ts a))
theorem tY(k:Nat)(hk:k≤100)(ts:List Tok)(a i:Nat)(hz:∀t,t∈ts->t.text.size≤1000)(hn:ts.length≤1200000)(ha:a≤ts.length)(σ:LLV)(hi:σ[i]? = some (pb ts a)):
 Fun G 322 [.ptr i 0,.d (ab k)] σ fun o σ'=>o=.ret (jy ts a k)/\σ'=if eX ts a k=true then σ.set i (pb ts (a+1))else σ:=by
 have hlt:=(List.getElem?_eq_some_iff.1 hi).1;refine ae Tryz.func322 Rh rfl fun hb hw=>?_;unfold Lj;have hA:=fun m l=>jm m ts a i hz hn ha (σ++l) (ah hi l);have hso:=fun l x=>bc hi l x;obtain⟨σ1,hs1⟩:∃x,x=σ.set i (pb ts (a+1)):=⟨_,rfl⟩
 have hl1:σ1.length=σ.length:=by rw[hs1,SB]
 have hb1:ak σ1.length σ1=true:=by rw[hl1,hs1];exact cI hb i ts _
 have h15:cD.length≤100:=by decide
 have fin1:∀(v:V) (ρ:ai) (l:LLV),jy ts a k=v->eX ts a k=true->aC (σ1++l) ρ ow=some v->V.under σ1.length v=true->fin σ1.length ow (fun o σ'=>o=.ret (jy ts a k)/\σ'=if eX ts a k=true then σ1 else σ) .ret ρ (σ1++l):=fun v ρ l e1 e2 e3 e4=>
  bp (τ:=σ1) hb1 e3 e4 Su ⟨by rw[e1],by rw[e2,if_pos rfl]⟩
 simp -dsimp only[aw,seval];refine ac (ro _) ?_;generalize hl:cD=l at *;simp -dsimp only[aw,seval,mf];refine aS [0,1,4,9,10,11] (R:=fun(j:Nat) ρ σ'=>ρ=[(0,.ptr i 0),(1,.d (ab k)),(4,.ptr σ.length 0),(9,.d (.sl (mf l))),(10,aK .i64 l.length),(11,aK .i64 j)]/\σ'=σ++[[.d (aj ⟨#[]⟩),.d (ab 0),.d (ab 0)]]/\fL l k ts a=fL (l.drop j) k ts a) l.length ⟨rfl,rfl,rfl⟩ ?_ _;rintro j ρ' σ' hj ⟨rfl,rfl,hr⟩;by_cases hlj:j<l.length
 .have hd:fL (l.drop j) k ts a=if l[j].2.2=k/\ax l[j].1 ts a=true then some l[j]else fL (l.drop (j+1)) k ts a:=by
   rw[Sx hlj];unfold fL;rw[SF];by_cases h1:l[j].2.2=k<;>by_cases h2:ax l[j].1 ts a=true<;>simp[h1,h2]
  have next:fL (l.drop j) k ts a=fL (l.drop (j+1)) k ts a->j<l.length/\Nxt σ.length (fun ρ σ'=>ρ=[(0,V.ptr i 0),(1,.d (ab k)),(4,.ptr σ.length 0),(9,.d (.sl (mf l))),(10,aK .i64 l.length),(11,aK .i64 ((j+1:Nat):Int))]/\σ'=σ++[[.d (aj ⟨#[]⟩),.d (ab 0),.d (ab 0)]]/\fL l k ts a=fL (l.drop (j+1)) k ts a) [(0,V.ptr i 0),(1,.d (ab k)),(4,.ptr σ.length 0),(9,.d (.sl (mf l))),(10,aK .i64 l.length),(11,aK .i64 ((j+1:Nat):Int))] (σ++[[.d (aj ⟨#[]⟩),.d (ab 0),.d (ab 0)],[.d (aj l[j].1),.d (ab l[j].2.1),.d (ab l[j].2.2)]]) .mk:=fun e=>
   ⟨hlj,Nxt.to (σ++[[.d (aj ⟨#[]⟩),.d (ab 0),.d (ab 0)]]) [[.d (aj l[j].1),.d (ab l[j].2.1),.d (ab l[j].2.2)]] (by simp) (by simp) (aq hb rfl) (by simp[au,V.under];omega) ⟨rfl,rfl,by rw[hr,e]⟩⟩
  by_cases h1:l[j].2.2=k
  .have h1':decide (((l[j].2.2:Nat):Int)=((k:Nat):Int))=true:=by rw[decide_eq_true_eq];omega
   simp -dsimp only[aw,seval,mf,Ss,hlj,decide_true,Sv hlj,h1'];refine dh (hA _ _) ?_;cases hs:ax l[j].1 ts a with
   | true=>
    rw[if_pos ⟨h1,hs⟩]at hd;rw[if_pos rfl,hso,<-hs1];rw[<-hl1];simp -dsimp only[aw,seval];refine fin1 (.tup [.agg [.d (aj l[j].1),.d (ab l[j].2.1),.d (ab l[j].2.2)],an false,an true]) _ _ ?_ ?_ ?_ ?_
    .unfold jy;rw[hl,hr,hd]
    .unfold eX;rw[hl,hr,hd];rfl
    .simp[ow,aC,bY,aO,aw,seval]
    .rfl
   | false=>
    rw[if_neg (fun h=>by rw[hs]at h;cases h.2)]at hd;simp -dsimp only[aw,seval,Sq,if_false,aT hlj (show l.length≤9223372036854775807 by omega)];exact next hd
  .have h1':decide (((l[j].2.2:Nat):Int)=((k:Nat):Int))=false:=by rw[decide_eq_false_iff_not];omega
   rw[if_neg (fun h=>h1 h.1)]at hd;simp -dsimp only[aw,seval,mf,Ss,hlj,decide_true,Sv hlj,h1',aT hlj (show l.length≤9223372036854775807 by omega)];exact(next hd).2
 .rw[Sw (by omega),show fL [] k ts a=none from rfl]at hr;by_cases h9:k=9
  .subst h9;simp -dsimp only[aw,seval,Ss,hlj,decide_false,show(((9:Nat):Int))=9 from rfl,decide_true];refine dh (hA _ _) ?_;have hf9:fL cD 9 ts a=none:=by rw[hl];exact hr
   cases hs:ax ⟨#[62]⟩ ts a with
   | true=>
    have hs':ax (aa 62) ts a=true:=hs;rw[if_pos rfl,hso,<-hs1];rw[<-hl1];simp -dsimp only[aw,seval];refine fin1 (.tup [.agg [.d (aj ⟨#[]⟩),.d (ab 17),.d (ab 0)],an true,an true]) _ _ ?_ ?_ ?_ ?_
    .unfold jy;rw[hf9];simp[hs']
    .unfold eX;rw[hf9];simp[hs']
    .simp[ow,aC,bY,aO,aw,seval]
    .rfl
   | false=>
    have hs':ax (aa 62) ts a=false:=hs;simp -dsimp only[aw,seval,Sq,if_false];refine dh (hA _ _) ?_;cases hs2:ax ⟨#[62,61]⟩ ts a with
    | true=>
     have hs2':ax (aZ 62 61) ts a=true:=hs2;rw[if_pos rfl,hso,<-hs1];rw[<-hl1];simp -dsimp only[aw,seval];refine fin1 (.tup [.agg [.d (aj ⟨#[]⟩),.d (ab 18),.d (ab 0)],an true,an true]) _ _ ?_ ?_ ?_ ?_
     .unfold jy;rw[hf9];simp[hs',hs2']
     .unfold eX;rw[hf9];simp[hs',hs2']
     .simp[ow,aC,bY,aO,aw,seval]
     .rfl
    | false=>
     have hs2':ax (aZ 62 61) ts a=false:=hs2;simp -dsimp only[aw,seval,Sq,if_false];exact az (v:=.tup [zb,an false,an false]) hb (by simp[ow,aC,bY,aO,zb,aw,seval]) rfl Su ⟨by unfold jy;rw[hf9];simp[hs',hs2'],by unfold eX;rw[hf9];simp[hs',hs2']⟩
  .have h9':decide (((k:Nat):Int)=9)=false:=by rw[decide_eq_false_iff_not];omega
   simp -dsimp only[aw,seval,Ss,hlj,decide_false,h9'];exact az (v:=.tup [zb,an false,an false]) hb (by simp[ow,aC,bY,aO,zb,aw,seval]) rfl Su ⟨by unfold jy;rw[hl,hr];simp[h9],by unfold eX;rw[hl,hr];simp[h9]⟩
def PQ(ts:List Tok)(i:Nat)(σ:LLV)(x:PR)(o:Out)(σ':LLV):Prop:=match x with
 | .ok e r=>o=.ret (vex e)/\σ'=σ.set i (pb ts (ts.length-r.length))
 | .bad c r=>o=.panic (d8 c (ts.length-r.length))/\∃b,σ'=σ.set i (pb ts b)
 | .out=>False
theorem ww{ts r:List Tok}(h:r <:+ ts):r=ts.drop (ts.length-r.length):=List.suffix_iff_eq_drop.1 h
theorem Fx{ts:List Tok}{a:Nat}{k:PK}{e:Ex}{r:List Tok}(ha:a≤ts.length)(h:par k (ts.drop a)=.ok e r):r=ts.drop (ts.length-r.length)/\a≤ts.length-r.length/\ts.length-r.length≤ts.length/\(k.eats=true->a<ts.length-r.length):=by
 have ht:=iM k (ts.drop a);rw[h]at ht;have h1:=ht.1.length_le;have h2:=ht.2;rw[SE]at h1 h2;exact⟨ww (ht.1.trans (List.drop_suffix _ _)),by omega,by omega,fun e=>by have:=h2 e;omega⟩
theorem dB(ts:List Tok)(a:Nat)(ha:a≤ts.length):eF (ts.drop a)=.bad (bV ts a) (ts.drop a):=by
 unfold bV;by_cases h:a<ts.length
 .rw[if_pos h,Sx h];rfl
 .rw[if_neg h,Sw (by omega)];rfl
theorem gX(ts:List Tok)(a:Nat)(ha:a≤ts.length):ts.length-(ts.drop a).length=a:=by rw[SE];omega
end Go.Proofs.YtnhphlmblenapaaGreatDoor
