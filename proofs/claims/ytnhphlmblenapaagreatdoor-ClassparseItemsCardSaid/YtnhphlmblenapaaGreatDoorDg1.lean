import Derived.Test.YtnhphlmblenapaaGreatDoorIr1
set_option linter.unusedVariables false
set_option linter.unusedSimpArgs false
set_option linter.unusedSectionVars false
set_option maxHeartbeats 4000000
open Bool renaming false_ne_true->Sq,true_and->Ss
open Int renaming reduceEq->Su,ofNat_lt->Sv
open List renaming length_map->Sw,getElem_mem->Sx
open Nat renaming zero_le->Sy,le_refl->SA
namespace Go.Proofs.YtnhphlmblenapaaGreatDoor
open Go.RowKit
theorem BI(x:It)(d:Nat)(hbig:fN x≤1200000)(hd:d≤1200000)(σ:LLV):Fun G 138 [vit x,.d (ab d)] σ (aN (.d (ab (bL x d))) σ):=by
 have hb0:=ep x;refine ae Tryz.func138 Ql (by simp only[aJ];rfl) fun hb hw=>?_;unfold NU;by_cases q1:x.kind<1
 .have hs:bL x d=1:=by unfold bL;rw[if_pos (.inl (by omega))]
  rw[hs];simp -dsimp only[aw,seval,aJ,decide_eq_true q1];first|exact al hb rfl rfl|exact am hb rfl rfl
 by_cases q6:6<x.kind
 .have hs:bL x d=1:=by unfold bL;rw[if_pos (.inl (by omega))]
  rw[hs];simp -dsimp only[aw,seval,aJ,decide_eq_false q1,decide_eq_true q6];first|exact al hb rfl rfl|exact am hb rfl rfl
 have hk:1≤x.kind/\x.kind≤6:=by omega
 have hun:=fun σ=>xE x hbig hk σ;simp only[aJ]at hun;simp -dsimp only[aw,seval,aJ,decide_eq_false q1,decide_eq_false q6];refine ac (hun _) ?_;cases hp:bS x with
 | false=>
  have hs:bL x d=1:=by unfold bL;rw[if_pos (.inr (.inl hp))]
  rw[hs];simp -dsimp only[aw,seval];first|exact al hb rfl rfl|exact am hb rfl rfl
 | true=>
 by_cases h4:4<d
 .have hs:bL x d=1:=by unfold bL;rw[if_pos (.inr (.inr (.inl h4)))]
  have h4':(4:Int)<(d:Int):=by omega
  rw[hs];simp -dsimp only[aw,seval,decide_eq_true h4'];first|exact al hb rfl rfl|exact am hb rfl rfl
 have h4':¬(4:Int)<(d:Int):=by omega
 by_cases hdd:0<d/\(x.kind=3\/x.kind=6)
 .have hs:bL x d=1:=by unfold bL;rw[if_pos (.inr (.inr (.inr hdd)))]
  have h0:(0:Int)<(d:Int):=by omega
  rw[hs];rcases hdd.2 with k|k
  all_goals
   simp -dsimp only[aw,seval,decide_eq_false h4',decide_eq_true h0,k,Su,decide_true,decide_false];first|exact al hb rfl rfl|exact am hb rfl rfl
 have hs:bL x d=if x.kind=3 then jH x else if x.kind=6 then nY x else if x.kind=5 then vm x else bz x.ex:=by
  unfold bL;rw[if_neg];rintro(h|h|h|h)
  .exact h hk
  .rw[hp]at h;cases h
  .exact h4 h
  .exact hdd h
 rw[hs];have hv:=fun σ=>pC x.ex (by omega) (by have:=no x.ex;omega) σ;simp only[ao]at hv;have hds:=fun σ=>DG x hbig σ;simp only[aJ]at hds;by_cases k3:x.kind=3
 .have h0:¬(0:Int)<(d:Int):=by have:¬0<d:=fun h=>hdd ⟨h,.inl k3⟩;omega
  rw[if_pos k3];rw[k3]at hds;simp -dsimp only[aw,seval,decide_eq_false h4',decide_eq_false h0,k3,Su,decide_true,decide_false];refine ac (hds _) ?_;simp -dsimp only[aw,seval];first|exact al hb rfl rfl|exact am hb rfl rfl
 by_cases k6:x.kind=6
 .have h0:¬(0:Int)<(d:Int):=by have:¬0<d:=fun h=>hdd ⟨h,.inr k6⟩;omega
  rw[if_neg k3,if_pos k6];have hvb:=fun σ=>wb x.bef (by omega) σ;have hva:=fun σ=>wb x.aft (by omega) σ;simp only[cT]at hvb hva;have hsol:nY x=if x.bef=[]\/x.aft=[]then 1 else if(x.bef.all bK&&x.aft.all bK)=true then 0 else 7:=by unfold nY;rw[List.all_append]
  rw[hsol];by_cases hB:x.bef=[]
  .have e:decide (((x.bef.length:Nat):Int)=0)=true:=by simp[hB]
   rw[if_pos (.inl hB)];simp -dsimp only[aw,seval,decide_eq_false h4',decide_eq_false h0,k6,Su,decide_true,decide_false,Sw,e];first|exact al hb rfl rfl|exact am hb rfl rfl
  have eB:decide (((x.bef.length:Nat):Int)=0)=false:=by have:=List.length_pos_iff.2 hB;simp;omega
  by_cases hA:x.aft=[]
  .have e:decide (((x.aft.length:Nat):Int)=0)=true:=by simp[hA]
   rw[if_pos (.inr hA)];simp -dsimp only[aw,seval,decide_eq_false h4',decide_eq_false h0,k6,Su,decide_true,decide_false,Sw,eB,e];first|exact al hb rfl rfl|exact am hb rfl rfl
  have eA:decide (((x.aft.length:Nat):Int)=0)=false:=by have:=List.length_pos_iff.2 hA;simp;omega
  rw[if_neg (fun h=>h.elim hB hA)];simp -dsimp only[aw,seval,decide_eq_false h4',decide_eq_false h0,k6,Su,decide_true,decide_false,Sw,eB,eA];refine ac (hvb _) ?_;cases h1:x.bef.all bK with
  | false=>
   rw[Bool.false_and,if_neg Sq];simp -dsimp only[aw,seval];first|exact al hb rfl rfl|exact am hb rfl rfl
  | true=>
   simp -dsimp only[aw,seval];refine ac (hva _) ?_;cases h2:x.aft.all bK with
   | false=>
    rw[Ss,if_neg Sq];simp -dsimp only[aw,seval];first|exact al hb rfl rfl|exact am hb rfl rfl
   | true=>
    rw[Ss,if_pos rfl];simp -dsimp only[aw,seval];first|exact al hb rfl rfl|exact am hb rfl rfl
 rw[if_neg k3,if_neg k6];by_cases k5:x.kind=5
 .rw[if_pos k5];unfold vm;by_cases h0:(0:Int)<(d:Int)
  all_goals
   simp -dsimp only[aw,seval,decide_eq_false h4',h0,k5,Su,decide_true,decide_false];refine ac (rM x.name _) ?_;cases hn:bH x.name with
   | false=>
    rw[if_neg (by simp)];simp -dsimp only[aw,seval];first|exact al hb rfl rfl|exact am hb rfl rfl
   | true=>
    simp -dsimp only[aw,seval];refine ac (rM x.idx _) ?_;cases hx:bH x.idx with
    | false=>
     rw[if_neg (by simp)];simp -dsimp only[aw,seval];first|exact al hb rfl rfl|exact am hb rfl rfl
    | true=>
     rw[if_pos ⟨rfl,rfl⟩];simp -dsimp only[aw,seval];first|exact al hb rfl rfl|exact am hb rfl rfl
 rw[if_neg k5];by_cases h0:(0:Int)<(d:Int)
 all_goals
  simp -dsimp only[aw,seval,decide_eq_false h4',h0,decide_eq_false k3,decide_eq_false k5,decide_eq_false k6,decide_true,decide_false];refine ac (hv _) ?_;simp -dsimp only[aw,seval];first|exact al hb rfl rfl|exact am hb rfl rfl
theorem vZ:∀l:List It,bi l≤1200000->∀(d:Nat),d+bi l≤1200000->∀σ,Fun G 78 [.d (gR l),.d (ab d)] σ (aN (.d (ab (rvl l d))) σ):=by
 refine jR fun l ih hs d hd σ=>?_;have hln:=nJ l;refine ae Tryz.func78 k78 rfl fun hb hw=>?_;unfold c78;simp -dsimp only[aw,seval];refine eu (R:=fun(j:Nat) ρ σ'=>ρ=[(0,.d (gR l)),(1,.d (ab d)),(5,aK .i64 j)]/\σ'=σ/\rvl l d=rvl (l.drop j) d) l.length ⟨rfl,rfl,rfl⟩ ?_ _;rintro j ρ' σ' hj ⟨rfl,rfl,hr⟩;by_cases hlt:j<l.length
 .rw[List.drop_eq_getElem_cons hlt,rvl,Dg]at hr;obtain⟨i1,i2⟩:=ih _ (Sx hlt);have hm:=gV (Sx hlt);have hxx:l[j]? = some l[j]:=List.getElem?_eq_getElem hlt;generalize l[j]=x at hr i1 i2 hm hxx;have hbx:=ep x;have hwr:=fun σ=>BI x d (by omega) (by omega) σ;have h1:=fun σ=>i1 (by omega) (d+1) (by omega) σ;have h2:=fun σ=>i2 (by omega) (d+1) (by omega) σ;have w1:IntKind.i64.wrap ((d:Int)+1)=((d+1:Nat):Int):=by rw[aA (by omega) (by omega)];omega
  have wj:=aT hlt (show l.length≤9223372036854775807 by omega);simp only[aJ]at hwr;simp -dsimp only[aw,seval,Sw,Sv,hlt,decide_true,hxx,dq x];refine ac (hwr _) ?_;by_cases s1:bL x d=0
  case neg=>
   rw[if_neg s1,if_neg s1]at hr;rw[hr];simp -dsimp only[aw,seval,decide_eq_false s1];first|exact al hb rfl rfl|exact am hb rfl rfl
  rw[if_pos s1]at hr;simp -dsimp only[aw,seval,s1,decide_true,Sw,hxx,dq x,w1];refine ac (h1 _) ?_;by_cases s2:rvl x.items (d+1)=0
  case neg=>
   rw[if_neg s2,if_neg s2]at hr;rw[hr];simp -dsimp only[aw,seval,decide_eq_false s2];first|exact al hb rfl rfl|exact am hb rfl rfl
  rw[if_pos s2]at hr;simp -dsimp only[aw,seval,s2,decide_true,Sw,hxx,dq x,w1];refine ac (h2 _) ?_;by_cases s3:rvl x.els (d+1)=0
  case neg=>
   rw[if_neg s3]at hr;rw[hr];simp -dsimp only[aw,seval,decide_eq_false s3];first|exact al hb rfl rfl|exact am hb rfl rfl
  rw[if_pos s3]at hr;simp -dsimp only[aw,seval,s3,decide_true,wj];exact⟨hlt,Nxt.same (SA _) hb (by simp[au,V.under]) ⟨rfl,rfl,hr⟩⟩
 .rw[List.drop_eq_nil_of_le (by omega),rvl]at hr;rw[hr];simp -dsimp only[aw,seval,Sw,Sv,hlt,decide_false];first|exact al hb rfl rfl|exact am hb rfl rfl
theorem wJ(l:List It)(hl:bi l≤1100000)(σ:LLV):Fun G 30 [.d (gR l)] σ (aN (.d (ab (eR l))) σ):=by
 refine ae Tryz.func30 k30 rfl fun hb hw=>?_;unfold c30 eR;simp -dsimp only[aw,seval];refine ac (xi l (by have:=zH l;omega) _) ?_;by_cases h:64<cJ l
 .have h':(64:Int)<(cJ l:Int):=by omega
  rw[if_pos h];simp -dsimp only[aw,seval,decide_eq_true h'];first|exact al hb rfl rfl|exact am hb rfl rfl
 .have h':¬(64:Int)<(cJ l:Int):=by omega
  rw[if_neg h];simp -dsimp only[aw,seval,decide_eq_false h'];refine ac (vZ l (by omega) 0 (by omega) _) ?_;simp -dsimp only[aw,seval];first|exact al hb rfl rfl|exact am hb rfl rfl
structure SameTok(f:Tok->Tok):Prop where
 kind:∀t,(f t).kind=t.kind
 num:∀t,(f t).num=t.num
 text:∀t,(f t).text=t.text
section
variable {f : Tok -> Tok} (hf : SameTok f)
include hf
omit hf in
end
def PK.size:PK->Nat
 | .Lp _ a=>bB a
 | .In a=>bB a
 | .Ip l=>bF l
 | _=>0
theorem qz(a b:List Ex):bF (a++b)=bF a+bF b:=by
 induction a with
 | nil=>simp[bF]
 | cons x a ih=>simp only[List.cons_append,bF,ih];omega
def Sz(k:Nat)(r:List Tok)(x:PR):Prop:=match x with
 | .ok e r1=>r1.length≤r.length/\bB e≤k+(r.length-r1.length)
 | _=>True
theorem dX{k k2:Nat}{r:List Tok}{x:PR}{f:Ex->List Tok->PR}(h:Sz k r x)(hf:∀e r1,x=.ok e r1->r1.length≤r.length->bB e≤k+(r.length-r1.length)->Sz k2 r (f e r1)):Sz k2 r (x.bind f):=by
 cases x with
 | out=>trivial
 | bad c r=>trivial
 | ok e r1=>exact hf e r1 rfl h.1 h.2
theorem fz{k:Nat}{r r1:List Tok}:Sz k r (eF r1):=by cases r1<;>trivial
theorem Sz.up{k k2:Nat}{r r2:List Tok}{x:PR}(h:Sz k r2 x)(h1:r2.length≤r.length)(h2:k≤k2+(r.length-r2.length)):Sz k2 r x:=by
 cases x with
 | out=>trivial
 | bad c r=>trivial
 | ok e r1=>exact⟨Nat.le_trans h.1 h1,by have:=h.1;have:=h.2;omega⟩
theorem Hb{rec:PK->List Tok->PR}(h:∀k r,Sz k.size r (rec k r))(r:List Tok):Sz 0 r (gK rec r):=by
 unfold gK;cases h1:acc (aa 40) r with
 | some r1=>
  have a1:=(aD h1).2;refine dX (k:=0) ((h .W r1).up (by omega) (Sy _)) fun e r2 _ l2 s2=>?_;cases h2:acc (aa 41) r2 with
  | some r3=>have:=(aD h2).2;exact⟨by omega,by omega⟩
  | none=>exact fz
 | none=>
 cases h2:cH r with
 | some p=>
  obtain⟨n,r1⟩:=p;have:=(iT h2).2;simp only;split
  .trivial
  .exact⟨by omega,by simp only[bB,bF];omega⟩
 | none=>
 cases h3:bT r with
 | none=>exact fz
 | some p=>
 obtain⟨s,r1⟩:=p;have n1:=(fe h3).2;simp only;cases h4:(if s=lB then acc (aa 40) r1 else none)with
 | some r2=>
  have a1:r2.length<r1.length:=by
   split at h4
   .exact(aD h4).2
   .cases h4
  simp only;cases h5:bT r2 with
  | none=>exact fz
  | some p=>
   obtain⟨a,r3⟩:=p;have n2:=(fe h5).2;simp only;cases h6:acc (aa 41) r3 with
   | some r4=>have:=(aD h6).2;exact⟨by omega,by simp only[bB,bF];omega⟩
   | none=>exact fz
 | none=>
 simp only;cases h5:(if s=gC then acc (aa 40) r1 else none)with
 | some r2=>
  have a1:r2.length<r1.length:=by
   split at h5
   .exact(aD h5).2
   .cases h5
  refine dX (k:=0) ((h .W r2).up (by omega) (Sy _)) fun e r3 e3 l3 s3=>?_;have hh:=h .W r2;rw[e3]at hh;have:=hh.2;have:=hh.1;cases h6:acc (aa 41) r3 with
  | some r4=>have:=(aD h6).2;exact⟨by omega,by simp only[aI,bB,bF,PK.size]at *;omega⟩
  | none=>exact fz
 | none=>
 simp only;cases h6:acc (aa 91) r1 with
 | some r2=>
  have a1:=(aD h6).2;refine dX (k:=0) ((h .W r2).up (by omega) (Sy _)) fun e r3 e3 l3 s3=>?_;have hh:=h .W r2;rw[e3]at hh;have:=hh.2;have:=hh.1;cases h7:acc (aa 93) r3 with
  | some r4=>have:=(aD h7).2;exact⟨by omega,by simp only[bB,bF,PK.size]at *;omega⟩
  | none=>exact fz
 | none=>
 simp only;cases h7:acc (aa 64) r1 with
 | some r2=>
  have a1:=(aD h7).2;simp only;cases h8:cH r2 with
  | none=>exact fz
  | some p=>
   obtain⟨n,r3⟩:=p;have:=(iT h8).2;simp only;split
   .trivial
   .exact⟨by omega,by simp only[bB,bF];omega⟩
 | none=>exact⟨by omega,by simp only[bB,bF];omega⟩
theorem Gr{rec:PK->List Tok->PR}(h:∀k r,Sz k.size r (rec k r))(k:PK)(r:List Tok):Sz k.size r (bo rec k r):=by
 cases k with
 | W=>
  simp only[bo];refine dX (h .I r) fun c r1 _ l1 s1=>?_;simp only[PK.size]at *;cases h1:acc (aa 63) r1 with
  | none=>exact⟨l1,s1⟩
  | some r2=>
   have a1:=(aD h1).2;refine dX (k:=0) ((h .W r2).up (by omega) (by simp only[PK.size];omega)) fun a r3 e3 l3 s3=>?_;have hh:=h .W r2;rw[e3]at hh;obtain⟨b1,b2⟩:=hh;simp only[PK.size]at b2;cases h2:acc (aa 58) r3 with
   | none=>exact fz
   | some r4=>
    have a2:=(aD h2).2;refine dX (k:=0) ((h .W r4).up (by omega) (by simp only[PK.size];omega)) fun b r5 e5 l5 s5=>?_;have hh:=h .W r4;rw[e5]at hh;obtain⟨d1,d2⟩:=hh;simp only[PK.size]at d2;exact⟨by omega,by simp only[aI,bB,bF];omega⟩
 | I=>
  simp only[bo];refine dX (h (.L 3) r) fun c r1 _ l1 s1=>?_;simp only[PK.size]at *;cases h1:acc (aZ 61 62) r1 with
  | none=>exact⟨l1,s1⟩
  | some r2=>
   have a1:=(aD h1).2;refine dX (k:=0) ((h .I r2).up (by omega) (by simp only[PK.size];omega)) fun a r3 e3 l3 s3=>?_;have hh:=h .I r2;rw[e3]at hh;obtain⟨b1,b2⟩:=hh;simp only[PK.size]at b2;exact⟨by omega,by simp only[aI,bB,bF];omega⟩
 | L k=>
  simp only[bo];split
  .exact h .U r
  .refine dX (h (.L (k+1)) r) fun c r1 _ l1 s1=>?_;exact(h (.Lp k c) r1).up l1 (by simp only[PK.size]at *;omega)
 | Lp k a=>
  simp only[bo];cases h1:(if k=9 then acc cr r else none)with
  | some r1=>
   have a1:r1.length<r.length:=by
    split at h1
    .exact(aD h1).2
    .cases h1
   refine dX (k:=bB a) ((h (.In a) r1).up (by omega) (by simp only[PK.size];omega)) fun c r2 _ l2 s2=>?_;exact(h (.Lp k c) r2).up l2 (by simp only[PK.size]at *;omega)
  | none=>
   simp only;cases h2:dG k r with
   | none=>exact⟨SA _,by simp only[PK.size];omega⟩
   | some p=>
    obtain⟨o,ex,r1⟩:=p;have a1:=(lq h2).2;refine dX (k:=0) ((h (.L (k+1)) r1).up (by omega) (by simp only[PK.size];omega)) fun c r2 e2 l2 s2=>?_;have hh:=h (.L (k+1)) r1;rw[e2]at hh;obtain⟨b1,b2⟩:=hh;simp only[PK.size]at b2;refine(h (.Lp k _) r2).up l2 ?_;simp only[PK.size];split<;>(simp only[aI,bB,bF];omega)
 | In a=>
  simp only[bo];cases h1:acc (aa 123) r with
  | none=>exact fz
  | some r1=>
   have a1:=(aD h1).2;exact(h (.Ip [a]) r1).up (by omega) (by simp only[PK.size,bF];omega)
 | Ip args=>
  simp only[bo];refine dX (k:=0) ((h .W r).up (SA _) (by simp only[PK.size];omega)) fun lo r1 _ l1 s1=>?_;cases h1:acc (aZ 46 46) r1 with
  | none=>exact fz
  | some r2=>
   have a1:=(aD h1).2;refine dX (k:=0) ((h .W r2).up (by omega) (by simp only[PK.size];omega)) fun hi r3 e3 l3 s3=>?_;have hh:=h .W r2;rw[e3]at hh;obtain⟨b1,b2⟩:=hh;simp only[PK.size]at b2;cases h2:acc (aa 44) r3 with
   | some r4=>
    have a2:=(aD h2).2;exact(h (.Ip _) r4).up (by omega) (by simp only[PK.size,qz,bF];omega)
   | none=>
    simp only;cases h3:acc (aa 125) r3 with
    | none=>exact fz
    | some r5=>
     have a3:=(aD h3).2;exact⟨by omega,by simp only[PK.size,aI,bB,qz,bF];omega⟩
 | U=>
  have one:∀{m r1} (o:Int),acc m r=some r1->Sz 0 r ((rec .U r1).bind fun a r2=>.ok (aI o [a]) r2):=fun{m r1} o h1=>by
   have a1:=(aD h1).2;refine dX (k:=0) ((h .U r1).up (by omega) (by simp only[PK.size];omega)) fun a r3 e3 l3 s3=>?_;have hh:=h .U r1;rw[e3]at hh;obtain⟨b1,b2⟩:=hh;simp only[PK.size]at b2;exact⟨by omega,by simp only[aI,bB,bF];omega⟩
  simp only[bo];cases h1:acc (aa 33) r with
  | some r1=>exact one 4 h1
  | none=>
  cases h2:acc (aa 126) r with
  | some r1=>exact one 5 h2
  | none=>
  cases h3:acc (aa 45) r with
  | some r1=>exact one 6 h3
  | none=>exact h .P r
 | P=>exact Hb h r
theorem ud:∀(n:Nat) (k:PK) (r:List Tok),Sz k.size r (fG n k r)
 | 0,_,_=>trivial
 | n+1,k,r=>Gr (ud n) k r
theorem uO{r:List Tok}{e:Ex}{r1:List Tok}(h:par .W r=.ok e r1):bB e≤r.length:=by
 have:=ud (40*r.length+20) .W r;unfold par at h;rw[h]at this;have h2:=this.2;simp only[PK.size]at h2;omega
def NB(x:PR):Prop:=match x with
 | .bad c r=>(c=6/\r=[])\/((c=3\/c=5)/\r≠[])
 | _=>True
theorem dr{x:PR}{f:Ex->List Tok->PR}(h:NB x)(hf:∀e r,NB (f e r)):NB (x.bind f):=by
 cases x with
 | out=>trivial
 | bad c r=>exact h
 | ok e r=>exact hf e r
theorem fx{r:List Tok}:NB (eF r):=by
 cases r with
 | nil=>exact .inl ⟨rfl,rfl⟩
 | cons t r=>exact .inr ⟨.inr rfl,by simp⟩
theorem DR{r r1:List Tok}{n:Int}(h:cH r=some (n,r1)):NB (.bad 3 r):=by
 obtain⟨t,rfl,-⟩:=sI h;exact .inr ⟨.inl rfl,by simp⟩
theorem Gb{rec:PK->List Tok->PR}(h:∀k r,NB (rec k r))(k:PK)(r:List Tok):NB (bo rec k r):=by
 cases k with
 | W=>
  simp only[bo];refine dr (h _ _) fun c r1=>?_;cases acc (aa 63) r1 with
  | none=>trivial
  | some r2=>
   refine dr (h _ _) fun a r3=>?_;cases acc (aa 58) r3 with
   | none=>exact fx
   | some r4=>exact dr (h _ _) fun b r5=>trivial
 | I=>
  simp only[bo];refine dr (h _ _) fun c r1=>?_;cases acc (aZ 61 62) r1 with
  | none=>trivial
  | some r2=>exact dr (h _ _) fun b r5=>trivial
 | L k=>
  simp only[bo];split
  .exact h _ _
  .exact dr (h _ _) fun _ _=>h _ _
 | Lp k a=>
  simp only[bo];cases (if k=9 then acc cr r else none)with
  | some r1=>exact dr (h _ _) fun _ _=>h _ _
  | none=>
   simp only;cases dG k r with
   | none=>trivial
   | some p=>exact dr (h _ _) fun _ _=>h _ _
 | In a=>
  simp only[bo];cases acc (aa 123) r with
  | none=>exact fx
  | some r1=>exact h _ _
 | Ip args=>
  simp only[bo];refine dr (h _ _) fun lo r1=>?_;cases acc (aZ 46 46) r1 with
  | none=>exact fx
  | some r2=>
   refine dr (h _ _) fun hi r3=>?_;cases acc (aa 44) r3 with
   | some r4=>exact h _ _
   | none=>
    simp only;cases acc (aa 125) r3 with
    | some r5=>trivial
    | none=>exact fx
 | U=>
  simp only[bo];cases acc (aa 33) r with
  | some r1=>exact dr (h _ _) fun _ _=>trivial
  | none=>
  cases acc (aa 126) r with
  | some r1=>exact dr (h _ _) fun _ _=>trivial
  | none=>
  cases acc (aa 45) r with
  | some r1=>exact dr (h _ _) fun _ _=>trivial
  | none=>exact h _ _
 | P=>
  show NB (gK rec r);unfold gK;cases acc (aa 40) r with
  | some r1=>
   refine dr (h _ _) fun e r2=>?_;cases acc (aa 41) r2 with
   | some r3=>trivial
   | none=>exact fx
  | none=>
  cases hn:cH r with
  | some p=>simp only;split<;>first|trivial|exact DR (n:=p.1) (r1:=p.2) hn
  | none=>
  cases bT r with
  | none=>exact fx
  | some p=>
  obtain⟨s,r1⟩:=p;simp only;cases (if s=lB then acc (aa 40) r1 else none)with
  | some r2=>
   simp only;cases bT r2 with
   | none=>exact fx
   | some p=>
    simp only;cases acc (aa 41) p.2 with
    | some r4=>trivial
    | none=>exact fx
  | none=>
  simp only;cases (if s=gC then acc (aa 40) r1 else none)with
  | some r2=>
   refine dr (h _ _) fun e r3=>?_;cases acc (aa 41) r3 with
   | some r4=>trivial
   | none=>exact fx
  | none=>
  simp only;cases acc (aa 91) r1 with
  | some r2=>
   refine dr (h _ _) fun e r3=>?_;cases acc (aa 93) r3 with
   | some r4=>trivial
   | none=>exact fx
  | none=>
  simp only;cases acc (aa 64) r1 with
  | some r2=>
   simp only;cases hn:cH r2 with
   | none=>exact fx
   | some p=>simp only;split<;>first|trivial|exact DR (n:=p.1) (r1:=p.2) hn
  | none=>trivial
theorem tW:∀(n:Nat) (k:PK) (r:List Tok),NB (fG n k r)
 | 0,_,_=>trivial
 | n+1,k,r=>Gb (tW n) k r
theorem qg{k:PK}{r r1:List Tok}{c:Int}(h:par k r=.bad c r1):c=6\/((c=3\/c=5)/\r1≠[]):=by
 have h1:=tW (40*r.length+20) k r;unfold par at h;rw[h]at h1;exact h1.imp And.left id
theorem D0{k:PK}{r r1:List Tok}{c:Int}(h:par k r=.bad c r1):c=6->r1=[]:=by
 have h1:=tW (40*r.length+20) k r;unfold par at h;rw[h]at h1;intro h6;rcases h1 with h1|h1
 .exact h1.2
 .omega
theorem pq{k:PK}{r r1:List Tok}{c:Int}(h:par k r=.bad c r1):c≠0/\r1.length≤r.length:=by
 have h1:=qg h;have h2:=iM k r;rw[h]at h2;exact⟨by omega,h2.length_le⟩
end Go.Proofs.YtnhphlmblenapaaGreatDoor
namespace Go.Proofs.YtnhphlmblenapaaGreatDoor
open Go.RowKit
inductive CP(α:Type) where
 | out
 | bad (e n:Int)
 | ok (v:α) (r:List Tok)
section
variable {α β : Type}
def CP.bind(x:CP α)(f:α->List Tok->CP β):CP β:=match x with
 | .out=>.out
 | .bad e n=>.bad e n
 | .ok v r=>f v r
def lnR(z:Int):List Tok->Int
 | []=>z
 | t::_=>t.line
def iR(z:Int):List Tok->CP α
 | []=>.bad 6 z
 | t::_=>.bad 5 t.line
def bQ(z:Int)(m:ByteArray)(r:List Tok)(k:List Tok->CP α):CP α:=match acc m r with
 | some r1=>k r1
 | none=>iR z r
def dS(z:Int)(r:List Tok)(k:ByteArray->List Tok->CP α):CP α:=match bT r with
 | some p=>k p.1 p.2
 | none=>iR z r
def gD(z:Int)(r:List Tok)(k:Int->List Tok->CP α):CP α:=match cH r with
 | some p=>k p.1 p.2
 | none=>iR z r
def dF(m:ByteArray)(r:List Tok)(y:List Tok->CP α)(n:CP α):CP α:=match acc m r with
 | some r1=>y r1
 | none=>n
def exC(z:Int)(r:List Tok)(k:Ex->List Tok->CP α):CP α:=match par .W r with
 | .out=>.out
 | .bad c q=>.bad c (lnR z q)
 | .ok e q=>if bz e=0 then k e q else .bad (bz e) 0
def iC(f:α->List Tok->Option (CP α)):Nat->α->List Tok->CP α
 | 0,_,_=>.out
 | n+1,a,r=>match f a r with
  | none=>.ok a r
  | some x=>x.bind fun v q=>iC f n v q
def fC(f:α->List Tok->Option (CP α))(a:α)(r:List Tok):CP α:=iC f (r.length+1) a r
end
def exZ:Ex:=.mk 0 0 ⟨#[]⟩ []
def gc(z:Int)(r:List Tok):CP ByteArray:=dS z r fun s r1=>dF (aa 91) r1 (fun r2=>gD z r2 fun n r3=>bQ z (aa 93) r3 fun r4=>.ok (gJ s n) r4) (.ok s r1)
def gz(z:Int)(r:List Tok):CP (List ByteArray):=(gc z r).bind fun s r1=>fC (fun l r=>(acc (aa 44) r).map fun r2=>(gc z r2).bind fun s r3=>.ok (l++[s]) r3) [s] r1
def gf(z:Int)(r:List Tok):CP Wt:=gD z r fun lo r1=>(dF (aZ 46 46) r1 (fun r2=>gD z r2 fun hi r3=>.ok hi r3) (.ok lo r1)).bind fun hi r2=>
 (dF (aZ 58 61) r2 (fun r3=>.ok true r3) (bQ z (aZ 58 47) r2 fun r3=>.ok false r3)).bind fun b r3=>gD z r3 fun w r4=>.ok ⟨lo,hi,w,b⟩ r4
def mU(z:Int)(r:List Tok):CP (List Wt):=(gf z r).bind fun w r1=>fC (fun l r=>(acc (aa 44) r).map fun r2=>(gf z r2).bind fun w r3=>.ok (l++[w]) r3) [w] r1
def lL(z:Int)(r:List Tok):CP It:=(gc z r).bind fun s r1=>bQ z (aa 123) r1 fun r2=>(mU z r2).bind fun l r3=>bQ z (aa 125) r3 fun r4=>bQ z (aa 59) r4 fun r5=>.ok (.mk 3 exZ s ⟨#[]⟩ l [] [] [] []) r5
def iK(z:Int)(r:List Tok):CP It:=(gz z r).bind fun l r1=>bQ z ⟨#[98,101,102,111,114,101]⟩ r1 fun r2=>(gz z r2).bind fun m r3=>bQ z (aa 59) r3 fun r4=>.ok (.mk 6 exZ ⟨#[]⟩ ⟨#[]⟩ [] [] [] l m) r4
def eP(z:Int)(k:Int)(r:List Tok):CP It:=exC z r fun e r1=>bQ z (aa 59) r1 fun r2=>.ok (.mk k e ⟨#[]⟩ ⟨#[]⟩ [] [] [] [] []) r2
def lK:ByteArray:=⟨#[115,111,102,116]⟩
def qP:ByteArray:=⟨#[100,105,115,116]⟩
def ifW:ByteArray:=⟨#[105,102]⟩
def sM:ByteArray:=⟨#[101,108,115,101]⟩
def qf:ByteArray:=⟨#[101,97,99,104]⟩
def inW:ByteArray:=⟨#[105,110]⟩
def mi:ByteArray:=⟨#[115,111,108,118,101]⟩
structure Rec where
 item:List Tok->CP It
 rest:List It->List Tok->CP (List It)
def ir(z:Int)(R:Rec)(r:List Tok):CP (List It):=bQ z (aa 123) r fun r1=>R.rest [] r1
def ifC(z:Int)(R:Rec)(r:List Tok):CP It:=bQ z (aa 40) r fun r2=>exC z r2 fun e r3=>bQ z (aa 41) r3 fun r4=>(ir z R r4).bind fun l r5=>
 (dF sM r5 (fun r6=>ir z R r6) (.ok [] r5)).bind fun m r7=>.ok (.mk 4 e ⟨#[]⟩ ⟨#[]⟩ [] l m [] []) r7
def kQ(z:Int)(R:Rec)(r:List Tok):CP It:=dS z r fun i r2=>bQ z inW r2 fun r3=>dS z r3 fun s r4=>(ir z R r4).bind fun l r5=>.ok (.mk 5 exZ s i [] l [] [] []) r5
def kj(z:Int)(R:Rec):Rec where
 item r:=dF lK r (eP z 2) <| dF qP r (lL z) <| dF ifW r (ifC z R) <| dF qf r (kQ z R) <| dF mi r (iK z) (eP z 1 r)
 rest l r:=dF (aa 125) r (fun r1=>.ok l r1) ((R.item r).bind fun x r1=>R.rest (l++[x]) r1)
def ft(z:Int):Nat->Rec
 | 0=>⟨fun _=>.out,fun _ _=>.out⟩
 | n+1=>kj z (ft z n)
def jK(z:Int)(r:List Tok):CP It:=(ft z (2*r.length+1)).item r
def oK(z:Int)(l:List It)(r:List Tok):CP (List It):=(ft z (2*r.length+2)).rest l r
def jM(z:Int):Rec:=⟨jK z,oK z⟩
def pS(z:Int)(r:List Tok):CP Int:=dF (aa 91) r (fun r1=>gD z r1 fun n r2=>if n<1 then .bad 5 (lnR z r1)else bQ z (aa 93) r2 fun r3=>.ok n r3) (.ok 0 r)
def gE(z:Int)(m:Int)(r:List Tok):CP Fl:=dS z r fun s r1=>(pS z r1).bind fun k r2=>bQ z (aa 58) r2 fun r3=>gD z r3 fun w r4=>
 (if m=0 then bQ z (aa 61) r4 fun r5=>gD z r5 fun v r6=>.ok v r6 else .ok 0 r4:CP Int).bind fun v r5=>bQ z (aa 59) r5 fun r6=>.ok ⟨s,w,k,m,v⟩ r6
def yY:ByteArray:=⟨#[114,97,110,100]⟩
def sX:ByteArray:=⟨#[114,97,110,100,99]⟩
def tE:ByteArray:=⟨#[115,116,97,116,101]⟩
def Er:ByteArray:=⟨#[99,108,97,115,115]⟩
def wt:ByteArray:=⟨#[101,120,116,101,110,100,115]⟩
def fd:ByteArray:=⟨#[99,111,110,115,116,114,97,105,110,116]⟩
def jl(z:Int)(r:List Tok):CP (List Fl):=
 let one:List Fl->CP Fl->CP (List Fl):=fun l x=>x.bind fun x q=>.ok (l++[x]) q
 fC (fun l r=>match acc yY r with
  | some r1=>some (one l (gE z 1 r1))
  | none=>match acc sX r with
   | some r1=>some (one l (gE z 2 r1))
   | none=>match acc tE r with
    | some r1=>some (one l (gE z 0 r1))
    | none=>none) [] r
def nD(z:Int)(r:List Tok):CP (ByteArray×List It):=dS z r fun s r1=>(ir z (jM z) r1).bind fun l r3=>.ok (s,l) r3
def mR(z:Int)(r:List Tok):CP (List (ByteArray×List It)):=fC (fun l r=>(acc fd r).map fun r1=>(nD z r1).bind fun b r2=>.ok (l++[b]) r2) [] r
def qR(z:Int)(r:List Tok):CP Kl:=bQ z Er r fun r1=>dS z r1 fun s r2=>(dF wt r2 (fun r3=>dS z r3 fun p r4=>.ok p r4) (.ok ⟨#[]⟩ r2)).bind fun p r3=>
 bQ z (aa 123) r3 fun r4=>(jl z r4).bind fun f r5=>(mR z r5).bind fun b r6=>bQ z (aa 125) r6 fun r7=>.ok ⟨s,p,f,b⟩ r7
def iD(z:Int)(r:List Tok):CP (List It):=fC (fun l r=>if r.isEmpty=true then none else some ((jK z r).bind fun x r1=>.ok (l++[x]) r1)) [] r
def yy(z:Int)(r:List Tok):CP Kl:=(qR z r).bind fun c r1=>if r1.isEmpty=true then .ok c r1 else iR z r1
end Go.Proofs.YtnhphlmblenapaaGreatDoor
