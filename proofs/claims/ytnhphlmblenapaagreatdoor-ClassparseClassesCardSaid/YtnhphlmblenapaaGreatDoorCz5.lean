import Derived.Test.YtnhphlmblenapaaGreatDoorIr1
set_option linter.unusedVariables false
set_option linter.unusedSimpArgs false
set_option linter.unusedSectionVars false
set_option maxHeartbeats 8000000
open Bool renaming false_ne_true->TJ,true_and->TK,false_or->TL
open Int renaming reduceEq->TM,ofNat_lt->TN,reduceLT->TO
open List renaming length_map->TP,getElem?_eq_getElem->TQ,map_cons->TR,drop_eq_nil_of_le->TS,getElem?_map->TT,map_nil->TU,drop_eq_getElem_cons->TV,map_take->TW,take_of_length_le->TX,length_take->TY,getElem_mem->TZ,getElem_map->T0,all_eq_true->T1,nodup_nil->T3,all_map->T4
open Nat renaming le_refl->T5
open Option renaming map_some->T6,map_none->T7
open Prod renaming fst->T8
namespace Go.Proofs.YtnhphlmblenapaaGreatDoor
open Go.RowKit
theorem Bn(x:It)(d:Nat)(hbig:gz x≤1200000)(hd:d≤1200000)(σ:LLV):Fun G 138 [vit x,.d (ab d)] σ (aN (.d (ab (bM x d))) σ):=by
 have hb0:=ew x;refine ae Tryz.func138 SF (by simp only[aM];rfl) fun hb hw=>?_;unfold Lv;by_cases q1:x.kind<1
 .have hs:bM x d=1:=by unfold bM;rw[if_pos (.inl (by omega))]
  rw[hs];simp -dsimp only[aw,seval,aM,decide_eq_true q1];exact ak hb rfl rfl
 by_cases q6:6<x.kind
 .have hs:bM x d=1:=by unfold bM;rw[if_pos (.inl (by omega))]
  rw[hs];simp -dsimp only[aw,seval,aM,decide_eq_false q1,decide_eq_true q6];exact ak hb rfl rfl
 have hk:1≤x.kind/\x.kind≤6:=by omega
 have hun:=fun σ=>za x hbig hk σ;simp only[aM]at hun;simp -dsimp only[aw,seval,aM,decide_eq_false q1,decide_eq_false q6];refine ac (hun _) ?_;cases hp:bU x with
 | false=>
  have hs:bM x d=1:=by unfold bM;rw[if_pos (.inr (.inl hp))]
  rw[hs];simp -dsimp only[aw,seval];exact ak hb rfl rfl
 | true=>
 by_cases h4:4<d
 .have hs:bM x d=1:=by unfold bM;rw[if_pos (.inr (.inr (.inl h4)))]
  have h4':(4:Int)<(d:Int):=by omega
  rw[hs];simp -dsimp only[aw,seval,decide_eq_true h4'];exact ak hb rfl rfl
 have h4':¬(4:Int)<(d:Int):=by omega
 by_cases hdd:0<d/\(x.kind=3\/x.kind=6)
 .have hs:bM x d=1:=by unfold bM;rw[if_pos (.inr (.inr (.inr hdd)))]
  have h0:(0:Int)<(d:Int):=by omega
  rw[hs];rcases hdd.2 with k|k
  all_goals
   simp -dsimp only[aw,seval,decide_eq_false h4',decide_eq_true h0,k,TM,decide_true,decide_false];exact ak hb rfl rfl
 have hs:bM x d=if x.kind=3 then j6 x else if x.kind=6 then oA x else if x.kind=5 then wX x else bB x.ex:=by
  unfold bM;rw[if_neg];rintro(h|h|h|h)
  .exact h hk
  .rw[hp]at h;cases h
  .exact h4 h
  .exact hdd h
 rw[hs];have hv:=fun σ=>rH x.ex (by omega) (by have:=mY x.ex;omega) σ;simp only[au]at hv;have hds:=fun σ=>Eo x hbig σ;simp only[aM]at hds;by_cases k3:x.kind=3
 .have h0:¬(0:Int)<(d:Int):=by have:¬0<d:=fun h=>hdd ⟨h,.inl k3⟩;omega
  rw[if_pos k3];rw[k3]at hds;simp -dsimp only[aw,seval,decide_eq_false h4',decide_eq_false h0,k3,TM,decide_true,decide_false];refine ac (hds _) ?_;simp -dsimp only[aw,seval];exact ak hb rfl rfl
 by_cases k6:x.kind=6
 .have h0:¬(0:Int)<(d:Int):=by have:¬0<d:=fun h=>hdd ⟨h,.inr k6⟩;omega
  rw[if_neg k3,if_pos k6];have hvb:=fun σ=>wW x.bef (by omega) σ;have hva:=fun σ=>wW x.aft (by omega) σ;simp only[cV]at hvb hva;have hsol:oA x=if x.bef=[]\/x.aft=[]then 1 else if(x.bef.all bN&&x.aft.all bN)=true then 0 else 7:=by unfold oA;rw[List.all_append]
  rw[hsol];by_cases hB:x.bef=[]
  .have e:decide (((x.bef.length:Nat):Int)=0)=true:=by simp[hB]
   rw[if_pos (.inl hB)];simp -dsimp only[aw,seval,decide_eq_false h4',decide_eq_false h0,k6,TM,decide_true,decide_false,TP,e];exact ak hb rfl rfl
  have eB:decide (((x.bef.length:Nat):Int)=0)=false:=by have:=List.length_pos_iff.2 hB;simp;omega
  by_cases hA:x.aft=[]
  .have e:decide (((x.aft.length:Nat):Int)=0)=true:=by simp[hA]
   rw[if_pos (.inr hA)];simp -dsimp only[aw,seval,decide_eq_false h4',decide_eq_false h0,k6,TM,decide_true,decide_false,TP,eB,e];exact ak hb rfl rfl
  have eA:decide (((x.aft.length:Nat):Int)=0)=false:=by have:=List.length_pos_iff.2 hA;simp;omega
  rw[if_neg (fun h=>h.elim hB hA)];simp -dsimp only[aw,seval,decide_eq_false h4',decide_eq_false h0,k6,TM,decide_true,decide_false,TP,eB,eA];refine ac (hvb _) ?_;cases h1:x.bef.all bN with
  | false=>
   rw[Bool.false_and,if_neg TJ];simp -dsimp only[aw,seval];exact ak hb rfl rfl
  | true=>
   simp -dsimp only[aw,seval];refine ac (hva _) ?_;cases h2:x.aft.all bN with
   | false=>
    rw[TK,if_neg TJ];simp -dsimp only[aw,seval];exact ak hb rfl rfl
   | true=>
    rw[TK,if_pos rfl];simp -dsimp only[aw,seval];exact ak hb rfl rfl
 rw[if_neg k3,if_neg k6];by_cases k5:x.kind=5
 .rw[if_pos k5];unfold wX;by_cases h0:(0:Int)<(d:Int)
  all_goals
   simp -dsimp only[aw,seval,decide_eq_false h4',h0,k5,TM,decide_true,decide_false];refine ac (eL x.name _) ?_;cases hn:bC x.name with
   | false=>
    rw[if_neg (by simp)];simp -dsimp only[aw,seval];exact ak hb rfl rfl
   | true=>
    simp -dsimp only[aw,seval];refine ac (eL x.idx _) ?_;cases hx:bC x.idx with
    | false=>
     rw[if_neg (by simp)];simp -dsimp only[aw,seval];exact ak hb rfl rfl
    | true=>
     rw[if_pos ⟨rfl,rfl⟩];simp -dsimp only[aw,seval];exact ak hb rfl rfl
 rw[if_neg k5];by_cases h0:(0:Int)<(d:Int)
 all_goals
  simp -dsimp only[aw,seval,decide_eq_false h4',h0,decide_eq_false k3,decide_eq_false k5,decide_eq_false k6,decide_true,decide_false];refine ac (hv _) ?_;simp -dsimp only[aw,seval];exact ak hb rfl rfl
theorem wu:∀l:List It,bu l≤1200000->∀(d:Nat),d+bu l≤1200000->∀σ,Fun G 78 [.d (gZ l),.d (ab d)] σ (aN (.d (ab (rvl l d))) σ):=by
 refine lr fun l ih hs d hd σ=>?_;have hln:=ov l;refine ae Tryz.func78 k78 rfl fun hb hw=>?_;unfold c78;simp -dsimp only[aw,seval];refine eJ (R:=fun(j:Nat) ρ σ'=>ρ=[(0,.d (gZ l)),(1,.d (ab d)),(5,aF .i64 j)]/\σ'=σ/\rvl l d=rvl (l.drop j) d) l.length ⟨rfl,rfl,rfl⟩ ?_ _;rintro j ρ' σ' hj ⟨rfl,rfl,hr⟩;by_cases hlt:j<l.length
 .rw[TV hlt,rvl,Er]at hr;obtain⟨i1,i2⟩:=ih _ (TZ hlt);have hm:=iq (TZ hlt);have hxx:l[j]? = some l[j]:=TQ hlt;generalize l[j]=x at hr i1 i2 hm hxx;have hbx:=ew x;have hwr:=fun σ=>Bn x d (by omega) (by omega) σ;have h1:=fun σ=>i1 (by omega) (d+1) (by omega) σ;have h2:=fun σ=>i2 (by omega) (d+1) (by omega) σ;have w1:IntKind.i64.wrap ((d:Int)+1)=((d+1:Nat):Int):=by rw[aA (by omega) (by omega)];omega
  have wj:=aJ hlt (show l.length≤9223372036854775807 by omega);simp only[aM]at hwr;simp -dsimp only[aw,seval,TP,TN,hlt,decide_true,hxx,dB x];refine ac (hwr _) ?_;by_cases s1:bM x d=0
  case neg=>
   rw[if_neg s1,if_neg s1]at hr;rw[hr];simp -dsimp only[aw,seval,decide_eq_false s1];exact ak hb rfl rfl
  rw[if_pos s1]at hr;simp -dsimp only[aw,seval,s1,decide_true,TP,hxx,dB x,w1];refine ac (h1 _) ?_;by_cases s2:rvl x.items (d+1)=0
  case neg=>
   rw[if_neg s2,if_neg s2]at hr;rw[hr];simp -dsimp only[aw,seval,decide_eq_false s2];exact ak hb rfl rfl
  rw[if_pos s2]at hr;simp -dsimp only[aw,seval,s2,decide_true,TP,hxx,dB x,w1];refine ac (h2 _) ?_;by_cases s3:rvl x.els (d+1)=0
  case neg=>
   rw[if_neg s3]at hr;rw[hr];simp -dsimp only[aw,seval,decide_eq_false s3];exact ak hb rfl rfl
  rw[if_pos s3]at hr;simp -dsimp only[aw,seval,s3,wj];exact⟨hlt,Nxt.same (T5 _) hb (by simp[an,V.under]) ⟨rfl,rfl,hr⟩⟩
 .rw[TS (by omega),rvl]at hr;rw[hr];simp -dsimp only[aw,seval,TP,TN,hlt];exact ak hb rfl rfl
theorem vP(l:List It)(hl:bu l≤1100000)(σ:LLV):Fun G 30 [.d (gZ l)] σ (aN (.d (ab (g7 l))) σ):=by
 refine ae Tryz.func30 k30 rfl fun hb hw=>?_;unfold c30 g7;simp -dsimp only[aw,seval];refine ac (yR l (by have:=zG l;omega) _) ?_;by_cases h:64<cL l
 .have h':(64:Int)<(cL l:Int):=by omega
  rw[if_pos h];simp -dsimp only[aw,seval,decide_eq_true h'];exact ak hb rfl rfl
 .have h':¬(64:Int)<(cL l:Int):=by omega
  rw[if_neg h];simp -dsimp only[aw,seval,decide_eq_false h'];refine ac (wu l (by omega) 0 (by omega) _) ?_;simp -dsimp only[aw,seval];exact ak hb rfl rfl
theorem xa(k:Nat)(rows:LLD)(m:Nat)(hm:m≤rows.length)(h:rows.all (fun r=>r.length==k)=true):mC false k (.d (.sl rows)) none (some (aF .i64 (m:Int)))=some (.d (.sl (rows.take m))):=by
 simp[mC,fw,eR,aF,hm,h]
theorem EU{n:Int}(h0:1≤n)(h1:n≤8):cd .shl (.d (.lit (.int .i64 1))) (.d (.lit (.int .u64 n)))=some (.d (ab (2^n.toNat))):=by
 have hn:n=1\/n=2\/n=3\/n=4\/n=5\/n=6\/n=7\/n=8:=by omega
 rcases hn with rfl|rfl|rfl|rfl|rfl|rfl|rfl|rfl<;>rw[EH]<;>rfl
theorem Ir{n:Int}(h0:1≤n)(h1:n≤8):IntKind.u64.wrap n=n:=by
 have hn:n=1\/n=2\/n=3\/n=4\/n=5\/n=6\/n=7\/n=8:=by omega
 rcases hn with rfl|rfl|rfl|rfl|rfl|rfl|rfl|rfl<;>rfl
theorem vL(f:Fl)(σ:LLV):Fun G 143 [.agg ((dfl f).map V.d)] σ (aN (.d (ab (r9 f))) σ):=by
 refine ae Tryz.func143 Tt rfl fun hb hw=>?_;unfold c143 r9;obtain⟨nm,wd,sz,md,ini⟩:=f;simp only;simp -dsimp only[aw,seval,dfl,TR,TU];refine ac (eL nm _) ?_;cases hn:bC nm with
 | false=>
  rw[if_pos rfl];simp -dsimp only[aw,seval];exact ak hb rfl rfl
 | true=>
 rw[if_neg (show ¬(true=false)by simp)];by_cases a1:wd<1
 .rw[if_pos (.inl a1)];simp -dsimp only[aw,seval,decide_eq_true a1];exact ak hb rfl rfl
 by_cases a2:8<wd
 .rw[if_pos (.inr (.inl a2))];simp -dsimp only[aw,seval,decide_eq_false a1,decide_eq_true a2];exact ak hb rfl rfl
 by_cases a3:sz<0
 .rw[if_pos (.inr (.inr (.inl a3)))];simp -dsimp only[aw,seval,decide_eq_false a1,decide_eq_false a2,decide_eq_true a3];exact ak hb rfl rfl
 by_cases a4:8<sz
 .rw[if_pos (.inr (.inr (.inr a4)))];simp -dsimp only[aw,seval,decide_eq_false a1,decide_eq_false a2,decide_eq_false a3,decide_eq_true a4];exact ak hb rfl rfl
 rw[if_neg (by omega)];by_cases m1:md<0
 .rw[if_pos (by omega)];simp -dsimp only[aw,seval,decide_eq_false a1,decide_eq_false a2,decide_eq_false a3,decide_eq_false a4,decide_eq_true m1];exact ak hb rfl rfl
 by_cases m2:2<md
 .rw[if_pos (by omega)];simp -dsimp only[aw,seval,decide_eq_false a1,decide_eq_false a2,decide_eq_false a3,decide_eq_false a4,decide_eq_false m1,decide_eq_true m2];exact ak hb rfl rfl
 rw[if_neg (by omega)];have q1:=EU (n:=wd) (by omega) (by omega);have q0:=Ir (n:=wd) (by omega) (by omega);obtain⟨-,q2,q3⟩:=Au (n:=wd) (by omega) (by omega);have q4:IntKind.i64.wrap ((2:Int)^wd.toNat-1)=2^wd.toNat-1:=aA (by omega) (by omega);generalize (2:Int)^wd.toNat=top at *;have hm:md=0\/md=1\/md=2:=by omega
 have step:(sz=0->decide (sz=0)=true)/\(sz≠0->decide (sz=0)=false):=⟨decide_eq_true,decide_eq_false⟩
 rcases hm with rfl|rfl|rfl
 .rw[if_neg (show ¬(sz≠0/\(0:Int)=2)by omega),if_pos (rfl:(0:Int)=0)];cases hz:decide (sz=0)
  all_goals
   by_cases i1:ini<0
   .rw[if_pos (.inl i1)];simp -dsimp only[aw,seval,decide_eq_false a1,decide_eq_false a2,decide_eq_false a3,decide_eq_false a4,decide_true,decide_false,TM,TO,hz,q0,q1,q4,decide_eq_true i1];exact ak hb rfl rfl
   by_cases i2:top-1<ini
   .rw[if_pos (.inr i2)];simp -dsimp only[aw,seval,decide_eq_false a1,decide_eq_false a2,decide_eq_false a3,decide_eq_false a4,decide_true,decide_false,TM,TO,hz,q0,q1,q4,decide_eq_false i1,decide_eq_true i2];exact ak hb rfl rfl
   rw[if_neg (by omega)];simp -dsimp only[aw,seval,decide_eq_false a1,decide_eq_false a2,decide_eq_false a3,decide_eq_false a4,decide_true,decide_false,TM,TO,hz,q0,q1,q4,decide_eq_false i1,decide_eq_false i2];exact ak hb rfl rfl
 .rw[if_neg (show ¬(sz≠0/\(1:Int)=2)by omega),if_neg (show ¬(1:Int)=0 by omega)];cases hz:decide (sz=0)
  all_goals
   by_cases i1:ini<0
   .rw[if_pos (.inl i1)];simp -dsimp only[aw,seval,decide_eq_false a1,decide_eq_false a2,decide_eq_false a3,decide_eq_false a4,decide_true,decide_false,TM,TO,hz,decide_eq_true i1];exact ak hb rfl rfl
   by_cases i2:0<ini
   .rw[if_pos (.inr i2)];simp -dsimp only[aw,seval,decide_eq_false a1,decide_eq_false a2,decide_eq_false a3,decide_eq_false a4,decide_true,decide_false,TM,TO,hz,decide_eq_false i1,decide_eq_true i2];exact ak hb rfl rfl
   rw[if_neg (by omega)];simp -dsimp only[aw,seval,decide_eq_false a1,decide_eq_false a2,decide_eq_false a3,decide_eq_false a4,decide_true,decide_false,TM,TO,hz,decide_eq_false i1,decide_eq_false i2];exact ak hb rfl rfl
 .by_cases z:sz=0
  .rw[if_neg (show ¬(sz≠0/\(2:Int)=2)by omega),if_neg (show ¬(2:Int)=0 by omega)];by_cases i1:ini<0
   .rw[if_pos (.inl i1)];simp -dsimp only[aw,seval,decide_eq_false a1,decide_eq_false a2,decide_eq_false a3,decide_eq_false a4,decide_true,decide_false,TM,TO,decide_eq_true z,decide_eq_true i1];exact ak hb rfl rfl
   by_cases i2:0<ini
   .rw[if_pos (.inr i2)];simp -dsimp only[aw,seval,decide_eq_false a1,decide_eq_false a2,decide_eq_false a3,decide_eq_false a4,decide_true,decide_false,TM,TO,decide_eq_true z,decide_eq_false i1,decide_eq_true i2];exact ak hb rfl rfl
   rw[if_neg (by omega)];simp -dsimp only[aw,seval,decide_eq_false a1,decide_eq_false a2,decide_eq_false a3,decide_eq_false a4,decide_true,decide_false,TM,TO,decide_eq_true z,decide_eq_false i1,decide_eq_false i2];exact ak hb rfl rfl
  .rw[if_pos ⟨z,rfl⟩];simp -dsimp only[aw,seval,decide_eq_false a1,decide_eq_false a2,decide_eq_false a3,decide_eq_false a4,decide_true,decide_false,TM,TO,decide_eq_false z];exact ak hb rfl rfl
def u4(n:ByteArray)(l:List Fl):Bool:=l.any fun f=>decide (f.name=n)
theorem qF(n:ByteArray)(l:List Fl):u4 n l=true↔n∈l.map Fl.name:=by
 unfold u4;rw[List.any_eq_true,List.mem_map];exact⟨fun⟨x,h1,h2⟩=>⟨x,h1,of_decide_eq_true h2⟩,fun⟨x,h1,h2⟩=>⟨x,h1,decide_eq_true h2⟩⟩
theorem I0(l:List Fl)(n:ByteArray)(hl:l.length≤1200000)(σ:LLV):Fun G 144 [.d (.sl (l.map dfl)),.d (ai n)] σ (aN (ao (u4 n l)) σ):=by
 refine ae Tryz.func144 Q9 rfl fun hb hw=>?_;unfold NC;simp -dsimp only[aw,seval,TP];refine aL [0,1,5] (fun(j:Nat) ρ σ'=>ρ=[(0,.d (.sl (l.map dfl))),(1,.d (ai n)),(5,aF .i64 j)]/\σ'=σ/\u4 n l=u4 n (l.drop j)) l.length ⟨rfl,rfl,rfl⟩ ?_ _;rintro j ρ' σ' hj ⟨rfl,rfl,hI⟩;by_cases hlt:j<l.length
 .have wj:=aJ hlt (show l.length≤9223372036854775807 by omega);have e1:(l.map dfl)[j]? = some (dfl l[j]):=by rw[TT,TQ hlt];rfl
  rw[TV hlt,u4,u4,List.any_cons]at hI;by_cases hq:l[j].name=n
  .rw[decide_eq_true hq,Bool.true_or]at hI;rw[u4,hI];simp -dsimp only[aw,seval,TP,TN,hlt,decide_true,e1,mV,TR,TU,decide_eq_true hq];exact ak hb rfl rfl
  .simp -dsimp only[aw,seval,TP,TN,hlt,decide_true,e1,mV,TR,TU,decide_eq_false hq,wj];first|exact⟨hlt,Nxt.same (T5 _) hb (by simp[an,V.under]) ⟨rfl,rfl,by rw[decide_eq_false hq,TL]at hI;exact hI⟩⟩|exact Nxt.same (T5 _) hb (by simp[an,V.under]) ⟨rfl,rfl,by rw[decide_eq_false hq,TL]at hI;exact hI⟩
 .rw[TS (by omega)]at hI;rw[hI];simp -dsimp only[aw,seval,TP,TN,hlt];exact ak hb rfl rfl
def sg(n:ByteArray):List Bk->Int->Int
 | [],_=>-1
 | b::r,k=>if b.1=n then k else sg n r (k+1)
theorem vZ(n:ByteArray):∀(l:List Bk) (k:Int),0≤k->(0≤sg n l k↔n∈l.map T8)
 | [],k,_=>by simp[sg]
 | b::r,k,hk=>by
  rw[sg,TR,List.mem_cons];by_cases h:b.1=n
  .rw[if_pos h];exact⟨fun _=>.inl h.symm,fun _=>hk⟩
  .rw[if_neg h,vZ n r (k+1) (by omega)];exact⟨.inr,fun g=>g.resolve_left fun e=>h e.symm⟩
theorem DC(l:List Bk)(n:ByteArray)(hl:l.length≤1200000)(σ:LLV):Fun G 145 [.d (.sl (l.map dbk)),.d (ai n)] σ (aN (.d (ab (sg n l 0))) σ):=by
 refine ae Tryz.func145 Te rfl fun hb hw=>?_;unfold c145;simp -dsimp only[aw,seval,TP];refine aL [0,1,5] (fun(j:Nat) ρ σ'=>ρ=[(0,.d (.sl (l.map dbk))),(1,.d (ai n)),(5,aF .i64 j)]/\σ'=σ/\sg n l 0=sg n (l.drop j) j) l.length ⟨rfl,rfl,rfl⟩ ?_ _;rintro j ρ' σ' hj ⟨rfl,rfl,hI⟩;by_cases hlt:j<l.length
 .have wj:=aJ hlt (show l.length≤9223372036854775807 by omega);have e1:(l.map dbk)[j]? = some (dbk l[j]):=by rw[TT,TQ hlt];rfl
  rw[TV hlt,sg]at hI;by_cases hq:l[j].1=n
  .rw[if_pos hq]at hI;rw[hI];simp -dsimp only[aw,seval,TP,TN,hlt,decide_true,e1,ly,TR,TU,decide_eq_true hq];exact ak hb rfl rfl
  .rw[if_neg hq]at hI;simp -dsimp only[aw,seval,TP,TN,hlt,decide_true,e1,ly,TR,TU,decide_eq_false hq,wj];first|exact⟨hlt,Nxt.same (T5 _) hb (by simp[an,V.under]) ⟨rfl,rfl,by rw[hI];rfl⟩⟩|exact Nxt.same (T5 _) hb (by simp[an,V.under]) ⟨rfl,rfl,by rw[hI];rfl⟩
 .rw[TS (by omega),sg]at hI;rw[hI];simp -dsimp only[aw,seval,TP,TN,hlt];exact ak hb rfl rfl
theorem xy{L:List ByteArray}{j:Nat}(h:j<L.length)(hn:(L.take j).Nodup):((L.take (j+1)).Nodup↔L[j]∉L.take j):=by
 rw[List.take_succ_eq_append_getElem h,List.nodup_append];refine⟨fun g hm=>g.2.2 _ hm _ (List.mem_singleton_self _) rfl,fun g=>⟨hn,by simp,fun a ha b hb e=>?_⟩⟩;rw[List.mem_singleton.1 hb]at e;exact g (e▸ha)
theorem xz{L:List ByteArray}(j:Nat)(h:¬(L.take j).Nodup):¬L.Nodup:=fun g=>h (g.sublist (List.take_sublist j L))
theorem Fs(l:List Bk){j:Nat}(h:j<l.length)(k:Int):mL (l.drop j) k=if bC l[j].1=false then k else mL (l.drop (j+1)) (k+1):=by rw[TV h,mL]
theorem GR(c:Kl)(hf:c.flds.length≤1200000)(hbk:c.blks.length≤1200000)(σ:LLV):Fun G 90 [vkl c] σ (aN (.d (ab (uL c))) σ):=by
 refine ae Tryz.func90 k90 rfl fun hb hw=>?_;unfold c90 uL;obtain⟨nm,pr,fs,bl⟩:=c;simp only at hf hbk ⊢;simp -dsimp only[aw,seval];refine ac (eL nm _) ?_;cases hn:bC nm with
 | false=>
  rw[if_pos (.inl rfl)];simp -dsimp only[aw,seval];exact ak hb rfl rfl
 | true=>
 by_cases hbad:pr≠⟨#[]⟩/\bC pr=false
 .rw[if_pos (.inr hbad)];simp -dsimp only[aw,seval,decide_eq_false hbad.1];refine ac (eL pr _) ?_;rw[hbad.2];simp -dsimp only[aw,seval];exact ak hb rfl rfl
 rw[if_neg (fun h=>h.elim (fun h=>by cases h) hbad)]
 have hpar:∀{K:Prop},(pr=⟨#[]⟩->K)->(pr≠⟨#[]⟩->bC pr=true->K)->K:=fun h1 h2=>by
  by_cases hp:pr=⟨#[]⟩
  .exact h1 hp
  .refine h2 hp ?_;cases hq:bC pr with
   | true=>rfl
   | false=>exact absurd ⟨hp,hq⟩ hbad
 by_cases l1:16<fs.length
 .have d1:decide ((16:Int)<(fs.length:Nat))=true:=decide_eq_true (by omega);rw[if_pos (.inl l1)];refine hpar (fun hp=>?_) fun hp hq=>?_
  .simp -dsimp only[aw,seval,decide_eq_true hp,d1,TP];exact ak hb rfl rfl
  .simp -dsimp only[aw,seval,decide_eq_false hp];refine ac (eL pr _) ?_;rw[hq];simp -dsimp only[aw,seval,d1,TP];exact ak hb rfl rfl
 have d1:decide ((16:Int)<(fs.length:Nat))=false:=decide_eq_false (by omega);by_cases l2:16<bl.length
 .have d2:decide ((16:Int)<(bl.length:Nat))=true:=decide_eq_true (by omega);rw[if_pos (.inr l2)];refine hpar (fun hp=>?_) fun hp hq=>?_
  .simp -dsimp only[aw,seval,decide_eq_true hp,d1,d2,TP];exact ak hb rfl rfl
  .simp -dsimp only[aw,seval,decide_eq_false hp];refine ac (eL pr _) ?_;rw[hq];simp -dsimp only[aw,seval,d1,d2,TP];exact ak hb rfl rfl
 have d2:decide ((16:Int)<(bl.length:Nat))=false:=decide_eq_false (by omega);rw[if_neg (show ¬(16<fs.length\/16<bl.length)by omega)];have hbb:am (σ++[[V.d (ai nm),.d (ai pr),.d (.sl (fs.map dfl)),.d (.sl (bl.map dbk))]]).length (σ++[[V.d (ai nm),.d (ai pr),.d (.sl (fs.map dfl)),.d (.sl (bl.map dbk))]])=true:=aq hb rfl;refine hpar (fun hp=>?_) fun hp hq=>?_;simp -dsimp only[aw,seval,decide_eq_true hp,d1,d2,TP]
 rotate_left
 simp -dsimp only[aw,seval,decide_eq_false hp];refine ac (eL pr _) ?_;rw[hq];simp -dsimp only[aw,seval,d1,d2,TP]
 all_goals
  refine aL [1,3] (fun(j:Nat) ρ σ'=>ρ=[(1,.ptr σ.length 0),(3,aF .i64 j)]/\σ'=σ++[[.d (ai nm),.d (ai pr),.d (.sl (fs.map dfl)),.d (.sl (bl.map dbk))]]/\jU fs=jU (fs.drop j)) fs.length ⟨rfl,rfl,rfl⟩ ?_ _;rintro j ρ' σ' hj ⟨rfl,rfl,hI⟩;by_cases hlt:j<fs.length
  .have wj:=aJ hlt (show fs.length≤9223372036854775807 by omega);have e1:(fs.map dfl)[j]? = some (dfl fs[j]):=by rw[TT,TQ hlt];rfl
   have f1:=vL fs[j];simp only[mV,TR,TU]at f1;rw[tW fs hlt]at hI;simp -dsimp only[aw,seval,TP,TN,hlt,decide_true,e1,mV fs[j],TR,TU];refine ac (f1 _) ?_;by_cases h0:r9 fs[j]=0
   .rw[if_neg (by simp[h0])]at hI;simp -dsimp only[aw,seval,h0,wj];first|exact⟨hlt,Nxt.same (by simp) hbb (by simp[an,V.under]) ⟨rfl,rfl,hI⟩⟩|exact Nxt.same (by simp) hbb (by simp[an,V.under]) ⟨rfl,rfl,hI⟩
   .rw[if_pos h0]at hI;rw[hI,if_pos h0];simp -dsimp only[aw,seval,decide_eq_false h0];exact ak hb rfl rfl
  rw[TS (by omega),jU]at hI;rw[hI,if_neg (by simp)];simp -dsimp only[aw,seval,TP,TN,hlt];clear hI hlt hj j;refine aL [1,5] (fun(j:Nat) ρ σ'=>ρ=[(1,.ptr σ.length 0),(5,aF .i64 j)]/\σ'=σ++[[.d (ai nm),.d (ai pr),.d (.sl (fs.map dfl)),.d (.sl (bl.map dbk))]]/\mL bl 0=mL (bl.drop j) j) bl.length ⟨rfl,rfl,rfl⟩ ?_ _;rintro j ρ' σ' hj ⟨rfl,rfl,hI⟩;by_cases hlt:j<bl.length
  .have wj:=aJ hlt (show bl.length≤9223372036854775807 by omega);have e1:(bl.map dbk)[j]? = some (dbk bl[j]):=by rw[TT,TQ hlt];rfl
   rw[Fs bl hlt]at hI;simp -dsimp only[aw,seval,TP,TN,hlt,decide_true,e1,ly bl[j],TR,TU];refine ac (eL bl[j].1 _) ?_;cases hq2:bC bl[j].1 with
   | true=>
    rw[hq2,if_neg (by simp)]at hI;simp -dsimp only[aw,seval,wj];first|exact⟨hlt,Nxt.same (by simp) hbb (by simp[an,V.under]) ⟨rfl,rfl,by rw[hI];rfl⟩⟩|exact Nxt.same (by simp) hbb (by simp[an,V.under]) ⟨rfl,rfl,by rw[hI];rfl⟩
   | false=>
    rw[hq2,if_pos rfl]at hI;rw[hI,if_pos (by omega)];simp -dsimp only[aw,seval];exact ak hb rfl rfl
  rw[TS (by omega),mL]at hI;rw[hI,if_neg (by omega)];simp -dsimp only[aw,seval,TP,TN,hlt];clear hI hlt hj j;refine aL [1,6] (fun(j:Nat) ρ σ'=>ρ=[(1,.ptr σ.length 0),(6,aF .i64 j)]/\σ'=σ++[[.d (ai nm),.d (ai pr),.d (.sl (fs.map dfl)),.d (.sl (bl.map dbk))]]/\((fs.map Fl.name).take j).Nodup) fs.length ⟨rfl,rfl,T3⟩ ?_ _;rintro j ρ' σ' hj ⟨rfl,rfl,hI⟩;by_cases hlt:j<fs.length
  .have wj:=aJ hlt (show fs.length≤9223372036854775807 by omega);have e1:(fs.map dfl)[j]? = some (dfl fs[j]):=by rw[TT,TQ hlt];rfl
   have hsub:=xa 5 (fs.map dfl) j (by rw[TP];omega) (by rw[T4,T1];intro c _;rfl);rw[<-TW]at hsub
   have hst:((fs.map Fl.name).take (j+1)).Nodup↔fs[j].name∉(fs.take j).map Fl.name:=by
    have:=xy (L:=fs.map Fl.name) (j:=j) (by rw[TP];exact hlt) hI;rw[T0]at this;rw[TW];exact this
   have f1:=I0 (fs.take j) fs[j].name (by rw[TY];omega);simp -dsimp only[aw,seval,TP,TN,hlt,decide_true,e1,mV fs[j],hsub,T7,T6];refine bo (f1 _) ?_;cases hm:u4 fs[j].name (fs.take j)with
   | true=>
    rw[if_pos (.inl (xz (j+1) fun g=>hst.1 g ((qF _ _).1 hm)))];simp -dsimp only[aw,seval];exact ak hb rfl rfl
   | false=>
    simp -dsimp only[aw,seval,wj];first|exact⟨hlt,Nxt.same (by simp) hbb (by simp[an,V.under]) ⟨rfl,rfl,hst.2 fun g=>by rw[(qF _ _).2 g]at hm;cases hm⟩⟩|exact Nxt.same (by simp) hbb (by simp[an,V.under]) ⟨rfl,rfl,hst.2 fun g=>by rw[(qF _ _).2 g]at hm;cases hm⟩
  rw[TX (by rw[TP];omega)]at hI;simp -dsimp only[aw,seval,TP,TN,hlt];clear hlt hj j;have hN:=hI;clear hI;refine aL [1,7] (fun(j:Nat) ρ σ'=>ρ=[(1,.ptr σ.length 0),(7,aF .i64 j)]/\σ'=σ++[[.d (ai nm),.d (ai pr),.d (.sl (fs.map dfl)),.d (.sl (bl.map dbk))]]/\((bl.map T8).take j).Nodup) bl.length ⟨rfl,rfl,T3⟩ ?_ _;rintro j ρ' σ' hj ⟨rfl,rfl,hI⟩;by_cases hlt:j<bl.length
  .have wj:=aJ hlt (show bl.length≤9223372036854775807 by omega);have e1:(bl.map dbk)[j]? = some (dbk bl[j]):=by rw[TT,TQ hlt];rfl
   have hsub:=xa 2 (bl.map dbk) j (by rw[TP];omega) (by rw[T4,T1];intro c _;rfl);rw[<-TW]at hsub
   have hst:((bl.map T8).take (j+1)).Nodup↔bl[j].1∉(bl.take j).map T8:=by
    have:=xy (L:=bl.map T8) (j:=j) (by rw[TP];exact hlt) hI;rw[T0]at this;rw[TW];exact this
   have f1:=DC (bl.take j) bl[j].1 (by rw[TY];omega);have hpq:=vZ bl[j].1 (bl.take j) 0 (by omega);simp -dsimp only[aw,seval,TP,TN,hlt,decide_true,e1,ly bl[j],hsub,T7,T6];refine bo (f1 _) ?_;by_cases hm:0≤sg bl[j].1 (bl.take j) 0
   .rw[if_pos (.inr (xz (j+1) fun g=>hst.1 g (hpq.1 hm)))];simp -dsimp only[aw,seval,decide_eq_true hm];exact ak hb rfl rfl
   .simp -dsimp only[aw,seval,decide_eq_false hm,wj];first|exact⟨hlt,Nxt.same (by simp) hbb (by simp[an,V.under]) ⟨rfl,rfl,hst.2 fun g=>hm (hpq.2 g)⟩⟩|exact Nxt.same (by simp) hbb (by simp[an,V.under]) ⟨rfl,rfl,hst.2 fun g=>hm (hpq.2 g)⟩
  rw[TX (by rw[TP];omega)]at hI;rw[if_neg (fun h=>h.elim (fun g=>g hN) fun g=>g hI)];simp -dsimp only[aw,seval,TP,TN,hlt];exact ak hb rfl rfl
end Go.Proofs.YtnhphlmblenapaaGreatDoor
