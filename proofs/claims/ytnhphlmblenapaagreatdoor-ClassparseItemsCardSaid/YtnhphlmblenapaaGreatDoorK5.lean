import Derived.Lib.AtoiErrMem
import Derived.Test.YtnhphlmblenapaaGreatDoorPg2
set_option linter.unusedVariables false
set_option linter.unusedSimpArgs false
set_option linter.unusedSectionVars false
set_option maxRecDepth 100000
open List renaming length_cons->Sq,length_nil->Ss,drop_eq_getElem_cons->Su,getElem?_eq_getElem->Sv,getElem_cons_zero->Sw,drop_of_length_le->Sx,length_append->Sy,map->SA
open Nat renaming le_refl->SB,pow_succ->SC
namespace Go.Proofs.YtnhphlmblenapaaGreatDoor
open Go.RowKit
def oR(o:Int):Option (ByteArray×Nat):=(cD.find? fun b=>decide (b.2.1=o)).map fun b=>(b.1,b.2.2)
def Q5(o:Int):Nat:=match oR o with
 | some (_,l)=>l
 | none=>if o=22 then 1 else if o=23 then 9 else if o=4\/o=5\/o=6 then 13 else 14
def tm(m:ByteArray):Tok:=⟨4,0,m,1⟩
def tw(m:ByteArray):Tok:=⟨2,0,m,1⟩
def tn(s:ByteArray):Tok:=⟨1,0,s,1⟩
def td(n:Int):Tok:=⟨3,n,Ia n,1⟩
def Hq(s:ByteArray):Int:=(((nP s 91).data.toList.headD 0).toNat:Int)-48
def Oi(s:ByteArray):List Tok:=if lH s=true then[tn (nL s 91),tm (aa 64),td (Hq s)]else[tn s]
theorem sw{o:Int}{m:ByteArray}{l:Nat}(h:oR o=some (m,l)):(m,o,l)∈cD:=by
 unfold oR at h;obtain⟨b,hb,e⟩:=Option.map_eq_some_iff.1 h;have h1:=List.mem_of_find?_eq_some hb;have h2:=List.find?_some hb;simp only[decide_eq_true_eq]at h2;cases e;subst h2;exact h1
theorem y9:∀b,b∈cD->2≤b.2.2/\b.2.2≤12/\(b.2.2=2->b.2.1=21/\b.1=aZ 61 62)/\7≤b.2.1/\b.2.1≤21:=by decide +kernel
abbrev Pc:=List (Option Tok)
def txt:Pc->Bs
 | []=>[]
 | none::r=>32::txt r
 | some t::r=>t.text.data.toList++txt r
structure Fine(t:Tok)(q:Bs):Prop where
 v:bO t=true
 n:t.text.data.toList≠[]
 r:cZ (t.text.data.toList++q)=.tok t.kind t.num t.text.data.toList.length
 s:bC (t.text.data.toList++q)=t.text.data.toList++q
def ly:Pc->Bs->Prop
 | [],_=>True
 | none::r,q=>ly r q
 | some t::r,q=>Fine t (txt r++q)/\ly r q
def sW(k:Nat)(a:Int×Pc):Pc:=if Q5 a.1<k then some (tm (aa 40))::(a.2++[some (tm (aa 41))])else a.2
def yT:List (Int×Pc)->Pc
 | []=>[]
 | [_]=>[]
 | [a,b]=>a.2++none::some (tm (aZ 46 46))::none::b.2
 | a::b::c::r=>a.2++none::some (tm (aZ 46 46))::none::(b.2++some (tm (aa 44))::none::yT (c::r))
def I8(o n:Int)(s:ByteArray)(xs:List (Int×Pc)):Pc:=match oR o with
 | some (m,l)=>sW (if l=2 then 3 else l) (xs.getD 0 (1,[]))++none::some (tm m)::none::sW (if l=2 then 2 else l+1) (xs.getD 1 (1,[]))
 | none=>
  if o=4 then some (tm (aa 33))::sW 13 (xs.getD 0 (1,[]))
  else if o=5 then some (tm (aa 126))::sW 13 (xs.getD 0 (1,[]))
  else if o=6 then some (tm (aa 45))::sW 13 (xs.getD 0 (1,[]))
  else if o=22 then sW 2 (xs.getD 0 (1,[]))++none::some (tm (aa 63))::none::(sW 1 (xs.getD 1 (1,[]))++none::some (tm (aa 58))::none::sW 1 (xs.getD 2 (1,[])))
  else if o=23 then sW 9 (xs.getD 0 (1,[]))++none::some (tw cr)::none::some (tm (aa 123))::none::(yT xs.tail++[none,some (tm (aa 125))])
  else if o=1 then[some (td n)]
  else if o=3 then some (tn s)::some (tm (aa 91))::((xs.getD 0 (1,[])).2++[some (tm (aa 93))])
  else if o=24 then[some (tn lB),some (tm (aa 40)),some (tn s),some (tm (aa 41))]
  else if o=25 then some (tn gC)::some (tm (aa 40))::((xs.getD 0 (1,[])).2++[some (tm (aa 41))])
  else(Oi s).map some
mutual
def pcE:Ex->Pc
 | .mk o n s l=>I8 o n s (N6 l)
def N6:List Ex->List (Int×Pc)
 | []=>[]
 | a::r=>(a.op,pcE a)::N6 r
end
def vC(o:Int):Bs:=if o=4 then[33]else if o=5 then[126]else if o=6 then[45]else[]
theorem u0(u:Nat)(h:u≤65535):(Lib.decDigits u).length≤5:=by
 have H:∀(k u:Nat),u<10^(k+1)->(Lib.decDigits u).length≤k+1:=by
  intro k
  induction k with
  | zero=>intro u h;rw[Lib.decDigits,dif_pos (by simpa using h)];simp
  | succ k ih=>
   intro u h;rw[Lib.decDigits];split
   .simp
   .have:=ih (u/10) (by rw[SC]at h;omega);rw[Sy,List.length_singleton];omega
 exact H 4 u (by omega)
theorem Nxt.to{n0:Nat}{R:ai->LLV->Prop}{ρ:ai}{S:LLV}(τ l:LLV)(h:S=τ++l)(hn:n0≤τ.length)(hb:ak τ.length τ=true)(hs:au τ.length ρ=true)(hR:R ρ τ):Nxt n0 R ρ S .mk:=by
 subst h;exact Nxt.drop hn hb hs hR
theorem eY(a b:Bs)(h:a.length+b.length≤9223372036854775807):cf .add (V.d (aj (bs a))) (V.d (aj (bs b)))=some (V.d (aj (bs (a++b)))):=by
 rw[Fa,aE,aE,if_pos h,fR]
theorem na{n:Int}(h:0≤n):Lib.itoa n=Lib.decDigits n.toNat:=by
 unfold Lib.itoa;rw[if_neg (by omega)]
theorem F0(k:Nat):∀u:Nat,u<10^(k+1)->(Lib.decDigits u).length≤k+1:=by
 induction k with
 | zero=>intro u h;rw[Lib.decDigits,dif_pos (by simpa using h)];simp
 | succ k ih=>
  intro u h;rw[Lib.decDigits];split
  .simp
  .have:=ih (u/10) (by rw[SC]at h;omega);simp only[Sy,Sq,Ss];omega
theorem lk{u:Nat}(h:u≤9223372036854775808):(Lib.decDigits u).length≤19:=F0 18 u (by omega)
theorem vF{n:Int}(h0 : -9223372036854775808≤n)(h1:n≤9223372036854775807):(Lib.itoa n).length≤20:=by
 unfold Lib.itoa;split
 .have:=lk (u:=n.natAbs) (by omega);simp only[Sq];omega
 .have:=lk (u:=n.toNat) (by omega);omega
theorem qU(n:Int)(h0 : -9223372036854775808≤n)(h1:n≤9223372036854775807)(σ:LLV):Fun G 111 [.d (ab n)] σ (aN (.d (aj (bs (Lib.itoa n)))) σ):=by
 have h5:=vF h0 h1;refine ae Tryz.func111 Sn rfl fun hb hw=>?_;unfold Nm;simp -dsimp only[aw,seval];refine ac (pG n h0 h1 (by unfold maxLen;omega) _) ?_;simp -dsimp only[aw,seval];first|exact al hb rfl rfl|exact am hb rfl rfl
theorem iJ(n:Int)(h0:0≤n)(h1:n≤65535)(σ:LLV):Fun G 111 [.d (ab n)] σ (aN (.d (aj (bs (Lib.decDigits n.toNat)))) σ):=by
 rw[<-na h0];exact qU n (by omega) (by omega) σ
theorem mE(u:Nat):u≤9223372036854775808->∀σ:LLV,Fun G 328 [.d (ab (-(u:Int)))] σ (aN (.d (aj (bs (Lib.decDigits u)))) σ):=by
 induction u using Nat.strongRecOn with
 | ind u ih=>
 intro hu σ;have h5:=lk hu;have hrem:(-(u:Int)).tmod 10 = -((u%10:Nat):Int):=by rw[Int.neg_tmod];rfl
 have hquo:(-(u:Int)).tdiv 10 = -((u/10:Nat):Int):=by rw[Int.neg_tdiv];rfl
 have hwq:IntKind.i64.wrap (-((u/10:Nat):Int)) = -((u/10:Nat):Int):=aA (by omega) (by omega);refine ae Tryz.func328 QW rfl fun hb hw=>?_;unfold K0;by_cases h:u<10
 .have hsub:IntKind.i64.wrap (48 - -(u:Int))=((48+u:Nat):Int):=by rw[aA (by omega) (by omega)];omega
  have hu8:IntKind.u8.wrap ((48+u:Nat):Int)=((48+u:Nat):Int):=by simp[IntKind.wrap,IntKind.bits,IntKind.signed];omega
  have hcb:∀τ:LLV,tv τ (.d (.sl [[.lit (.int .u8 ((48+u:Nat):Int))]]))=some (.d (aj (bs [UInt8.ofNat (48+u)]))):=fun _=>rfl;have hd:Lib.decDigits u=[UInt8.ofNat (48+u)]:=by rw[Lib.decDigits,dif_pos h]
  rw[hd];simp -dsimp only[aw,seval,decide_eq_true (show(-10:Int) < -(u:Int)by omega),hsub,hu8,hcb];first|exact al hb rfl rfl|exact am hb rfl rfl
 .have hsub:IntKind.i64.wrap (48 - -((u%10:Nat):Int))=((48+u%10:Nat):Int):=by rw[aA (by omega) (by omega)];omega
  have hu8:IntKind.u8.wrap ((48+u%10:Nat):Int)=((48+u%10:Nat):Int):=by simp[IntKind.wrap,IntKind.bits,IntKind.signed];omega
  have hcb:∀τ:LLV,tv τ (.d (.sl [[.lit (.int .u8 ((48+u%10:Nat):Int))]]))=some (.d (aj (bs [UInt8.ofNat (48+u%10)]))):=fun _=>rfl;have hd:Lib.decDigits u=Lib.decDigits (u/10)++[UInt8.ofNat (48+u%10)]:=by rw[Lib.decDigits,dif_neg h]
  have h6:=lk (u:=u/10) (by omega);have ha:=eY (Lib.decDigits (u/10)) [UInt8.ofNat (48+u%10)] (by simp only[Sq,Ss];omega);rw[hd];simp -dsimp only[aw,seval,decide_eq_false (show ¬(-10:Int) < -(u:Int)by omega),hquo,hwq,Int.reduceEq];refine bA (ih (u/10) (by omega) (by omega) _) ?_;simp -dsimp only[aw,seval,hrem,hsub,hu8,hcb,ha,Int.reduceEq];first|exact al hb rfl rfl|exact am hb rfl rfl
theorem ql(n:Int)(h0 : -9223372036854775808≤n)(h1:n≤9223372036854775807)(σ:LLV):Fun G 325 [.d (ab n)] σ (aN (.d (aj (bs (Lib.itoa n)))) σ):=by
 refine ae Tryz.func325 PO rfl fun hb hw=>?_;unfold N7 Lib.itoa;by_cases hn:n<0
 .have hd:=lk (u:=n.natAbs) (by omega);have ha:cf .add (V.d (aj ⟨#[45]⟩)) (V.d (aj (bs (Lib.decDigits n.natAbs))))=_:=eY [45] (Lib.decDigits n.natAbs) (by simp only[Sq,Ss];omega);have hr:=mE n.natAbs (by omega);have e : -((n.natAbs:Nat):Int)=n:=by omega
  rw[e]at hr;rw[if_pos hn];simp -dsimp only[aw,seval,decide_eq_true hn];refine ac (hr _) ?_;simp -dsimp only[aw,seval,ha];first|exact al hb rfl rfl|exact am hb rfl rfl
 .have hw0:IntKind.i64.wrap (0-n) = -(n.toNat:Int):=by rw[aA (by omega) (by omega)];omega
  rw[if_neg hn];simp -dsimp only[aw,seval,decide_eq_false hn,hw0];refine ac (mE n.toNat (by omega) _) ?_;simp -dsimp only[aw,seval];first|exact al hb rfl rfl|exact am hb rfl rfl
theorem ru(n:Int)(h0 : -9223372036854775808≤n)(h1:n≤9223372036854775807)(σ:LLV):Fun G 314 [.d (ab n)] σ (aN (.d (aj (bs (Lib.itoa n++[59])))) σ):=by
 have h5:=vF h0 h1;have ha:cf .add (V.d (aj (bs (Lib.itoa n)))) (V.d (aj ⟨#[59]⟩))=_:=eY (Lib.itoa n) [59] (by simp only[Sq,Ss];omega);refine ae Tryz.func314 QF rfl fun hb hw=>?_;unfold Nk;simp -dsimp only[aw,seval];refine ac (ql n h0 h1 _) ?_;simp -dsimp only[aw,seval,ha];first|exact al hb rfl rfl|exact am hb rfl rfl
def mf(l:List (ByteArray×Int×Nat)):LLD:=l.map fun b=>[aj b.1,ab b.2.1,ab b.2.2]
theorem ro(σ:LLV):Fun G 301 [] σ (aN (.d (.sl (mf cD))) σ):=by
 refine ae Tryz.func301 PT rfl fun hb hw=>?_;unfold NL;simp -dsimp only[aw,seval];exact az hb rfl rfl List.take_length ⟨rfl,rfl⟩
theorem lP(o:Int)(σ:LLV):Fun G 273 [.d (ab o)] σ (aN (.d (aj (bs (vC o)))) σ):=by
 refine ae Tryz.func273 QQ rfl fun hb hw=>?_;unfold Mj vC;by_cases h4:o=4
 .rw[if_pos h4];simp -dsimp only[aw,seval,decide_eq_true h4];first|exact al hb rfl rfl|exact am hb rfl rfl
 by_cases h5:o=5
 .rw[if_neg h4,if_pos h5];simp -dsimp only[aw,seval,decide_eq_false h4,decide_eq_true h5];first|exact al hb rfl rfl|exact am hb rfl rfl
 by_cases h6:o=6
 .rw[if_neg h4,if_neg h5,if_pos h6];simp -dsimp only[aw,seval,decide_eq_false h4,decide_eq_false h5,decide_eq_true h6];first|exact al hb rfl rfl|exact am hb rfl rfl
 rw[if_neg h4,if_neg h5,if_neg h6];simp -dsimp only[aw,seval,decide_eq_false h4,decide_eq_false h5,decide_eq_false h6];first|exact al hb rfl rfl|exact am hb rfl rfl
theorem uk(o:Int)(σ:LLV):Fun G 261 [.d (ab o)] σ (aN (.d (aj (bs (vC o)))) σ):=by
 refine ae Tryz.func261 QK rfl fun hb hw=>?_;unfold LS vC;by_cases h4:o=4
 .rw[if_pos h4];simp -dsimp only[aw,seval,decide_eq_true h4];first|exact al hb rfl rfl|exact am hb rfl rfl
 by_cases h5:o=5
 .rw[if_neg h4,if_pos h5];simp -dsimp only[aw,seval,decide_eq_false h4,decide_eq_true h5];first|exact al hb rfl rfl|exact am hb rfl rfl
 by_cases h6:o=6
 .rw[if_neg h4,if_neg h5,if_pos h6];simp -dsimp only[aw,seval,decide_eq_false h4,decide_eq_false h5,decide_eq_true h6];first|exact al hb rfl rfl|exact am hb rfl rfl
 rw[if_neg h4,if_neg h5,if_neg h6];simp -dsimp only[aw,seval,decide_eq_false h4,decide_eq_false h5,decide_eq_false h6];first|exact al hb rfl rfl|exact am hb rfl rfl
mutual
def kN:Ex->Ex->Bool
 | .mk o n s l,.mk o' n' s' l'=>(decide (o=o')&&(decide (n=n')&&(decide (s=s')&&iz l l')))
def iz:List Ex->List Ex->Bool
 | [],[]=>true
 | a::r,b::r'=>kN a b&&iz r r'
 | _,_=>false
end
theorem se:∀{l l':List Ex},l.length≠l'.length->iz l l'=false
 | [],[],h=>absurd rfl h
 | a::r,b::r',h=>by simp only[iz,se (l:=r) (l':=r') (by simpa using h),Bool.and_false]
 | [],_::_,_=>rfl
 | _::_,[],_=>rfl
theorem vX(a b:Ex):kN a b=(decide (a.op=b.op)&&(decide (a.num=b.num)&&(decide (a.name=b.name)&&iz a.args b.args))):=by
 cases a;cases b;rfl
theorem Ex.ind2{P:Ex->Prop}(h:∀e:Ex,(∀a,a∈e.args->P a)->P e):∀e,P e:=Ex.ind fun o n s l ih=>h (.mk o n s l) ih
theorem pP{l l':List Ex}{j:Nat}(h:j<l.length)(h':j<l'.length):iz (l.drop j) (l'.drop j)=(kN l[j] l'[j]&&iz (l.drop (j+1)) (l'.drop (j+1))):=by
 rw[Su h,Su h'];rfl
theorem rX(a:Ex):∀(b:Ex) (σ:LLV),Fun G 79 [vex a,vex b] σ (aN (an (kN a b)) σ):=by
 induction a using Ex.ind2 with
 | h a ih=>
 intro b σ;refine ae Tryz.func79 k79 (by simp only[ao];rfl) fun hb hw=>?_;have hq:=vX a b;have h0:=hw 0 (by simp);simp only[Sw,ao]at h0;have hm:=Kh (zS h0 3 (by simp));simp only[List.getElem_cons_succ,Sw,List.length_map]at hm
 have out:∀(σ' l:LLV) (b1:Bool),kN a b=b1->σ'=σ++l->fin σ.length LN (aN (an (kN a b)) σ) .ret [(4,.d (.lit (.bool b1)))] σ':=fun σ' l b1 h e=>by
  subst e;exact az hb rfl rfl List.take_left ⟨by rw[h];rfl,rfl⟩
 unfold c79;simp -dsimp only[aw,seval,ao];refine cx (fun h1=>?_) (fun h1=>?_)
 .simp -dsimp only[aw,seval];refine cx (fun h2=>?_) (fun h2=>?_)
  .simp -dsimp only[aw,seval];refine cx (fun h3=>?_) (fun h3=>?_)
   .simp -dsimp only[aw,seval,Int.ofNat_inj];refine cx (fun h4=>?_) (fun h4=>?_)
    .simp -dsimp only[aw,seval];exact out _ _ _ (by rw[hq,se (by simpa using h4)];simp) rfl
    .simp -dsimp only[aw,seval];have h4:a.args.length=b.args.length:=by simpa using h4
     generalize hbx:[[V.d (ab a.op),V.d (ab a.num),V.d (aj a.name),V.d (D.sl (SA dex a.args))],[V.d (ab b.op),V.d (ab b.num),V.d (aj b.name),V.d (D.sl (SA dex b.args))]]=bx at out ⊢;refine eu (R:=fun(j:Nat) ρ σ'=>ρ=[(2,.ptr σ.length 0),(3,.ptr (σ.length+1) 0),(5,aK .i64 j)]/\σ'=σ++bx/\iz a.args b.args=iz (a.args.drop j) (b.args.drop j)) a.args.length ⟨rfl,rfl,by simp⟩ ?_ _;rintro j ρ' σ' hj ⟨rfl,rfl,hrec⟩;subst hbx;by_cases hlt:j<a.args.length
     .have hlt':j<b.args.length:=by omega
      simp -dsimp only[aw,seval,Int.ofNat_lt,hlt,decide_true,Sv hlt,Sv hlt',bD];refine bA (by simpa only[ao]using ih _ (List.getElem_mem hlt) _ _) ?_;simp -dsimp only[aw,seval,aT hlt hm];refine cx (fun hs=>?_) (fun hs=>?_)
      .simp -dsimp only[aw,seval];exact out _ _ _ (by rw[hq,hrec,pP hlt hlt'];simp_all) rfl
      .simp -dsimp only[aw,seval,aT hlt hm];refine⟨hlt,Nxt.same (by simp) (aq hb rfl) ?_ ?_⟩
       .simp[au,V.under]
       .exact⟨rfl,rfl,by rw[hrec,pP hlt hlt'];simp_all⟩
     .simp -dsimp only[aw,seval,Int.ofNat_lt,hlt,decide_false];exact out _ _ _ (by rw[hq,hrec,Sx (by omega),Sx (by omega)];simp_all[iz]) rfl
   .simp -dsimp only[aw,seval];exact out _ _ _ (by rw[hq];simp_all) rfl
  .simp -dsimp only[aw,seval];exact out _ _ _ (by rw[hq];simp_all) rfl
 .simp -dsimp only[aw,seval];exact out _ _ _ (by rw[hq];simp_all) rfl
theorem bq(o n:Int)(s:ByteArray)(l:List Ex):(Ex.mk o n s l).op=o:=rfl
theorem aU(o n:Int)(s:ByteArray)(l:List Ex):(Ex.mk o n s l).num=n:=rfl
theorem aG(o n:Int)(s:ByteArray)(l:List Ex):(Ex.mk o n s l).name=s:=rfl
theorem aH(o n:Int)(s:ByteArray)(l:List Ex):(Ex.mk o n s l).args=l:=rfl
structure Wt where
 lo:Int
 hi:Int
 w:Int
 each:Bool
 deriving DecidableEq
inductive It where
 | mk (kind:Int) (e:Ex) (name idx:ByteArray) (ws:List Wt) (items els:List It) (bef aft:List ByteArray)
namespace It
def kind:It->Int|mk k _ _ _ _ _ _ _ _=>k
def ex:It->Ex|mk _ e _ _ _ _ _ _ _=>e
def name:It->ByteArray|mk _ _ s _ _ _ _ _ _=>s
def idx:It->ByteArray|mk _ _ _ s _ _ _ _ _=>s
def ws:It->List Wt|mk _ _ _ _ l _ _ _ _=>l
def items:It->List It|mk _ _ _ _ _ l _ _ _=>l
def els:It->List It|mk _ _ _ _ _ _ l _ _=>l
def bef:It->List ByteArray|mk _ _ _ _ _ _ _ l _=>l
def aft:It->List ByteArray|mk _ _ _ _ _ _ _ _ l=>l
end It
theorem eE(k:Int)(e:Ex)(nm ix:ByteArray)(ws:List Wt)(l m:List It)(bf af:List ByteArray):(It.mk k e nm ix ws l m bf af).kind=k:=rfl
theorem iO(k:Int)(e:Ex)(nm ix:ByteArray)(ws:List Wt)(l m:List It)(bf af:List ByteArray):(It.mk k e nm ix ws l m bf af).ex=e:=rfl
theorem ez(k:Int)(e:Ex)(nm ix:ByteArray)(ws:List Wt)(l m:List It)(bf af:List ByteArray):(It.mk k e nm ix ws l m bf af).name=nm:=rfl
theorem ga(k:Int)(e:Ex)(nm ix:ByteArray)(ws:List Wt)(l m:List It)(bf af:List ByteArray):(It.mk k e nm ix ws l m bf af).idx=ix:=rfl
theorem iL(k:Int)(e:Ex)(nm ix:ByteArray)(ws:List Wt)(l m:List It)(bf af:List ByteArray):(It.mk k e nm ix ws l m bf af).ws=ws:=rfl
theorem dC(k:Int)(e:Ex)(nm ix:ByteArray)(ws:List Wt)(l m:List It)(bf af:List ByteArray):(It.mk k e nm ix ws l m bf af).items=l:=rfl
theorem fZ(k:Int)(e:Ex)(nm ix:ByteArray)(ws:List Wt)(l m:List It)(bf af:List ByteArray):(It.mk k e nm ix ws l m bf af).els=m:=rfl
theorem fM(k:Int)(e:Ex)(nm ix:ByteArray)(ws:List Wt)(l m:List It)(bf af:List ByteArray):(It.mk k e nm ix ws l m bf af).bef=bf:=rfl
theorem f7(k:Int)(e:Ex)(nm ix:ByteArray)(ws:List Wt)(l m:List It)(bf af:List ByteArray):(It.mk k e nm ix ws l m bf af).aft=af:=rfl
mutual
def isz:It->Nat
 | .mk _ _ _ _ _ l m _ _=>1+cJ l+cJ m
def cJ:List It->Nat
 | []=>0
 | a::r=>isz a+cJ r
end
theorem tc(x:It):1≤isz x:=by cases x;rw[isz];omega
theorem p0(x:It):isz x=1+cJ x.items+cJ x.els:=by cases x;rfl
theorem vM{l:List It}{a:It}(h:a∈l):isz a≤cJ l:=by
 induction l with
 | nil=>cases h
 | cons b r ih=>
  rw[cJ];rcases List.mem_cons.1 h with rfl|h
  .omega
  .have:=ih h;omega
theorem vw(l:List It):l.length≤cJ l:=by
 induction l with
 | nil=>exact SB _
 | cons b r ih=>rw[cJ,Sq];have:=tc b;omega
theorem zd{P:List It->Prop}(h0:P [])(h:∀(a:It) (r:List It),P a.items->P a.els->P r->P (a::r)):∀l,P l:=by
 have H:∀n l,cJ l≤n->P l:=by
  intro n
  induction n with
  | zero=>
   intro l hl;cases l with
   | nil=>exact h0
   | cons a r=>rw[cJ]at hl;have:=tc a;omega
  | succ n ih=>
   intro l hl;cases l with
   | nil=>exact h0
   | cons a r=>
    rw[cJ]at hl;have h1:=p0 a;exact h a r (ih _ (by omega)) (ih _ (by omega)) (ih _ (by omega))
 exact fun l=>H _ l (SB _)
section
variable {σ : Type} (step : σ -> It -> Nat -> List ByteArray -> Int × σ)
mutual
def wk:It->Nat->List ByteArray->σ->Int×σ
 | .mk k e nm ix ws l m bf af,d,bd,s=>
  if(step s (.mk k e nm ix ws l m bf af) d bd).1=0 then
   if(wks l (if k=4\/k=5 then d+1 else d) (if k=5 then bd++[ix]else bd) (step s (.mk k e nm ix ws l m bf af) d bd).2).1=0 then
    wks m (if k=4\/k=5 then d+1 else d) bd (wks l (if k=4\/k=5 then d+1 else d) (if k=5 then bd++[ix]else bd) (step s (.mk k e nm ix ws l m bf af) d bd).2).2
   else wks l (if k=4\/k=5 then d+1 else d) (if k=5 then bd++[ix]else bd) (step s (.mk k e nm ix ws l m bf af) d bd).2
  else step s (.mk k e nm ix ws l m bf af) d bd
def wks:List It->Nat->List ByteArray->σ->Int×σ
 | [],_,_,s=>(0,s)
 | a::r,d,bd,s=>if(wk a d bd s).1=0 then wks r d bd (wk a d bd s).2 else wk a d bd s
end
def dep(x:It)(d:Nat):Nat:=if x.kind=4\/x.kind=5 then d+1 else d
def bnd(x:It)(bd:List ByteArray):List ByteArray:=if x.kind=5 then bd++[x.idx]else bd
theorem Im(x:It)(d:Nat)(bd:List ByteArray)(s:σ):wk step x d bd s=if(step s x d bd).1=0 then(if(wks step x.items (dep x d) (bnd x bd) (step s x d bd).2).1=0 then wks step x.els (dep x d) bd (wks step x.items (dep x d) (bnd x bd) (step s x d bd).2).2 else wks step x.items (dep x d) (bnd x bd) (step s x d bd).2)else step s x d bd:=by
 cases x;rw[wk];rfl
end
def wkE(f:It->Nat->List ByteArray->Int)(l:List It)(d:Nat)(bd:List ByteArray):Int:=(wks (fun(_:Unit) x d bd=>(f x d bd,())) l d bd ()).1
theorem yW(f:It->Nat->List ByteArray->Int)(d:Nat)(bd:List ByteArray):wkE f [] d bd=0:=rfl
theorem Ds(f:It->Nat->List ByteArray->Int)(x:It)(r:List It)(d:Nat)(bd:List ByteArray):wkE f (x::r) d bd=
 if f x d bd=0 then(if wkE f x.items (dep x d) (bnd x bd)=0 then(if wkE f x.els (dep x d) bd=0 then wkE f r d bd else wkE f x.els (dep x d) bd)else wkE f x.items (dep x d) (bnd x bd))else f x d bd:=by
 unfold wkE;rw[wks,Im];by_cases h1:f x d bd=0
 .rw[if_pos h1,if_pos h1];by_cases h2:(wks (fun(_:Unit) x d bd=>(f x d bd,())) x.items (dep x d) (bnd x bd) ()).1=0
  .rw[if_pos h2,if_pos h2];by_cases h3:(wks (fun(_:Unit) x d bd=>(f x d bd,())) x.els (dep x d) bd ()).1=0
   .rw[if_pos h3,if_pos h3]
   .rw[if_neg h3,if_neg h3]
  .rw[if_neg h2,if_neg h2,if_neg h2]
 .rw[if_neg h1,if_neg h1,if_neg h1]
def fq(e:Ex):Bool:=decide (e.op=0)&&decide (e.num=0)&&decide (e.name=⟨#[]⟩)&&e.args.isEmpty
def bS(x:It):Bool:=
 (decide (x.kind=1\/x.kind=2\/x.kind=4)||fq x.ex)&&(decide (x.kind=3\/x.kind=5)||decide (x.name=⟨#[]⟩))&&(decide (x.kind=5)||decide (x.idx=⟨#[]⟩)) &&
   (decide (x.kind=3)||x.ws.isEmpty)&&(decide (x.kind=4\/x.kind=5)||x.items.isEmpty)&&(decide (x.kind=4)||x.els.isEmpty)&&(decide (x.kind=6)||x.bef.isEmpty&&x.aft.isEmpty)
def wtB(w:Wt):Bool:=decide (0≤w.lo)&&decide (w.lo≤w.hi)&&decide (w.hi≤65535)&&decide (0≤w.w)&&decide (w.w≤1000)
def jH(x:It):Int:=if x.ws.length>16 then 2 else if x.ws=[]then 1 else if x.ws.all wtB=false then 1 else if bK x.name=true then 0 else 7
def nY(x:It):Int:=if x.bef=[]\/x.aft=[]then 1 else if(x.bef++x.aft).all bK=true then 0 else 7
def vm(x:It):Int:=if bH x.name=true/\bH x.idx=true then 0 else 7
def bL(x:It)(d:Nat):Int:=
 if ¬(1≤x.kind/\x.kind≤6)\/bS x=false\/4<d\/0<d/\(x.kind=3\/x.kind=6)then 1
 else if x.kind=3 then jH x else if x.kind=6 then nY x else if x.kind=5 then vm x else bz x.ex
theorem wU{x:It}{d:Nat}(h:bL x d=0):(1≤x.kind/\x.kind≤6)/\bS x=true/\d≤4:=by
 unfold bL at h;split at h
 .cases h
 .rename_i hn;refine⟨Classical.byContradiction fun hh=>hn (.inl hh),?_,?_⟩
  .cases hp:bS x with
   | true=>rfl
   | false=>exact absurd (.inr (.inl hp)) hn
  .exact Classical.byContradiction fun hh=>hn (.inr (.inr (.inl (by omega))))
theorem yP{x:It}(h:bS x=true)(hk:¬(x.kind=4\/x.kind=5)):x.items=[]/\x.els=[]:=by
 unfold bS at h;simp only[Bool.and_eq_true,Bool.or_eq_true,decide_eq_true_eq,List.isEmpty_iff]at h;obtain⟨⟨⟨-,h1⟩,h2⟩,-⟩:=h;exact⟨h1.resolve_left hk,h2.resolve_left fun h=>hk (.inl h)⟩
mutual
def rvl:List It->Nat->Int
 | [],_=>0
 | x::r,d=>if rv1 x d=0 then rvl r d else rv1 x d
def rv1:It->Nat->Int
 | .mk k e nm ix ws l m bf af,d=>if bL (.mk k e nm ix ws l m bf af) d=0 then(if rvl l (d+1)=0 then rvl m (d+1)else rvl l (d+1))else bL (.mk k e nm ix ws l m bf af) d
end
theorem Dg(x:It)(d:Nat):rv1 x d=if bL x d=0 then(if rvl x.items (d+1)=0 then rvl x.els (d+1)else rvl x.items (d+1))else bL x d:=by cases x;rw[rv1];rfl
def yF(x:It)(d:Nat)(_:List ByteArray):Int:=bL x d
theorem wV:∀(l:List It) (d:Nat) (bd:List ByteArray),wkE yF l d bd=rvl l d:=by
 refine zd (fun d bd=>rfl) fun x r h1 h2 h3 d bd=>?_;rw[Ds,rvl,Dg];show(if bL x d=0 then _ else bL x d)=_;by_cases hs:bL x d=0
 .rw[if_pos hs,if_pos hs];obtain⟨-,hp,-⟩:=wU hs;by_cases hk:x.kind=4\/x.kind=5
  .have hd:dep x d=d+1:=if_pos hk;rw[hd,h1,h2,h3];by_cases e1:rvl x.items (d+1)=0
   .rw[if_pos e1,if_pos e1]
   .rw[if_neg e1,if_neg e1,if_neg e1]
  .obtain⟨g1,g2⟩:=yP hp hk;rw[g1,g2,yW,if_pos rfl,yW,if_pos rfl,h3,rvl,if_pos rfl,if_pos rfl]
 .rw[if_neg hs,if_neg hs,if_neg hs]
def eR(l:List It):Int:=if 64<cJ l then 2 else rvl l 0
section
variable (spl : ByteArray -> Option (ByteArray × Int)) (fs : List (ByteArray × Int))
end
end Go.Proofs.YtnhphlmblenapaaGreatDoor
namespace Go.Proofs.YtnhphlmblenapaaGreatDoor
open Go.RowKit
def zx:Ex:=.mk 0 0 ⟨#[]⟩ []
section
variable (fs : List (ByteArray × Int))
end
end Go.Proofs.YtnhphlmblenapaaGreatDoor
namespace Go.Proofs.YtnhphlmblenapaaGreatDoor
open Go.RowKit
abbrev dbl(b:Bool):D:=.lit (.bool b)
def dwt(w:Wt):List D:=[ab w.lo,ab w.hi,ab w.w,dbl w.each]
mutual
def dit:It->List D
 | .mk k e nm ix ws l m bf af=>[ab k,ab e.op,ab e.num,aj e.name,.sl (e.args.map dex),aj nm,aj ix,.sl (ws.map dwt),.sl (Do l),.sl (Do m),.sl (bf.map fun s=>[aj s]),.sl (af.map fun s=>[aj s])]
def Do:List It->LLD
 | []=>[]
 | a::r=>dit a::Do r
end
theorem D6(l:List It):Do l=l.map dit:=by
 induction l with
 | nil=>rfl
 | cons a r ih=>simp only[Do,ih,List.map_cons]
theorem dq(x:It):dit x=[ab x.kind,ab x.ex.op,ab x.ex.num,aj x.ex.name,.sl (x.ex.args.map dex),aj x.name,aj x.idx,.sl (x.ws.map dwt),.sl (x.items.map dit),.sl (x.els.map dit),.sl (x.bef.map fun s=>[aj s]),.sl (x.aft.map fun s=>[aj s])]:=by
 cases x;simp only[dit,D6,It.kind,It.ex,It.name,It.idx,It.ws,It.items,It.els,It.bef,It.aft]
def vit(x:It):V:=.agg ((dit x).map V.d)
theorem aJ(x:It):vit x=.agg [.d (ab x.kind),.d (ab x.ex.op),.d (ab x.ex.num),.d (aj x.ex.name),.d (.sl (x.ex.args.map dex)),.d (aj x.name),.d (aj x.idx),.d (.sl (x.ws.map dwt)),.d (.sl (x.items.map dit)),.d (.sl (x.els.map dit)),.d (.sl (x.bef.map fun s=>[aj s])),.d (.sl (x.aft.map fun s=>[aj s]))]:=by
 unfold vit;rw[dq];rfl
abbrev gR(l:List It):D:=.sl (l.map dit)
mutual
def fN:It->Nat
 | .mk _ e _ _ ws l m bf af=>1+bB e+ws.length+bf.length+af.length+bi l+bi m
def bi:List It->Nat
 | []=>0
 | a::r=>fN a+bi r
end
theorem ep(x:It):fN x=1+bB x.ex+x.ws.length+x.bef.length+x.aft.length+bi x.items+bi x.els:=by cases x;rfl
theorem gV{l:List It}{a:It}(h:a∈l):fN a≤bi l:=by
 induction l with
 | nil=>cases h
 | cons b r ih=>
  rw[bi];rcases List.mem_cons.1 h with rfl|h
  .omega
  .have:=ih h;omega
theorem nJ(l:List It):l.length≤bi l:=by
 induction l with
 | nil=>exact SB _
 | cons b r ih=>rw[bi,Sq,ep];omega
theorem zH:∀l:List It,cJ l≤bi l:=by
 refine zd (SB _) fun x r h1 h2 h3=>?_;rw[cJ,bi,p0,ep];omega
abbrev BE(d:Nat)(bd:List ByteArray):V:=.agg [.d (ab d),.d (.sl (bd.map fun s=>[aj s]))]
section
variable (spl : ByteArray -> Option (ByteArray × Int)) (fs : List (ByteArray × Int))
end
end Go.Proofs.YtnhphlmblenapaaGreatDoor
namespace Go.Proofs.YtnhphlmblenapaaGreatDoor
open Go.RowKit
section
variable (spl : ByteArray -> Option (ByteArray × Int)) (fs : List (ByteArray × Int))
end
end Go.Proofs.YtnhphlmblenapaaGreatDoor
namespace Go.Proofs.YtnhphlmblenapaaGreatDoor
open Go.RowKit
structure Fl where
 name:ByteArray
 width:Int
 size:Int
 mode:Int
 init:Int
structure Kl where
 name:ByteArray
 par:ByteArray
 flds:List Fl
 blks:List (ByteArray×List It)
def c77:Cd:=sq [oI 2 0] [0] (sq [oV 5 0,ZN 6 5,oV 3 6] [0,3] (.seq (sq [oI 4 0] [0,3,4] (.block 0 (.loop (.seq (sq [oV 7 4,oV 8 0,ZN 9 8,Yl 10 7 9] [0,3,4,10] (.cond (.t 10) .skip (.exit 0))) (.seq (.block 1 (.draw [oV 13 3,oV 14 0,oV 15 4,ZI 16 12 14 15,ZF 17 8 16,ZL 18 1 17,ZC 19 77 18,Ya 20 13 19,oV 21 0,oV 22 4,ZI 23 12 21 22,ZF 24 9 23,ZL 25 1 24,ZC 26 77 25,Ya 27 20 26,oV 3 27] [0,3,
 4])) (.ops [oV 11 4,Wa 12 11 1,oV 4 12] [0,3,4])))))) (sq [oV 28 3,oV 2 28] [2] .ret)))
def PX:List RV:=[.t 2 false]
theorem k77:aF G.tab Tryz.f77 1 c77 PX=true:=by kernel_rfl
def c30:Cd:=sq [oI 2 0] [0] (.seq (sq [oV 3 0,ZC 4 77 3,Wg 5 4 64] [0,5] (.cond (.t 5) (sq [oI 2 2] [2] .ret) (.skip))) (sq [oV 6 0,oM 7 (.call 78 [.t 6,.k (.d (.lit (.int .i64 0)))]),oV 2 7] [2] .ret))
def Q4:List RV:=[.t 2 false]
theorem k30:aF G.tab Tryz.f30 1 c30 Q4=true:=by kernel_rfl
def Mb:Cd:=sq [oM 2 (.mv kF)] [0] (sq [oV 3 0,We 4 3 1,oV 5 4,oH 6 5 (.mv (.t 0)),oH 7 5 (we 6 2),ZP 8 5 7,oV 9 8,oH 10 9 (.mv (.t 0)),oH 11 9 (we 10 4),ZP 12 9 11,oV 2 12] [2] .ret)
def NQ:List RV:=[.t 2 false]
theorem RH:aF G.tab Tryz.f235 1 Mb NQ=true:=by kernel_rfl
def c78:Cd:=sq [oI 4 0] [0,1] (.seq (sq [oI 5 0] [0,1,5] (.block 0 (.loop (.seq (sq [oV 9 5,oV 10 0,ZN 11 10,Yl 12 9 11] [0,1,5,12] (.cond (.t 12) .skip (.exit 0))) (.seq (.block 1 (.seq (sq [oV 15 0,oV 16 5,ZI 17 12 15 16,ZM 18 12 17,oV 19 1,ZD 20 138 18 19,oV 6 20] [0,1,5,6] (sq [oV 21 6,Wn 22 21 0] [0,1,5,6,22] (.cond (.t 22) (sq [oV 23 6,oV 4 23] [4] .ret) .skip))) (.seq (sq [oV 24 0,oV 25 5,
 ZI 26 12 24 25,ZF 27 8 26,ZL 28 1 27,oV 29 1,Wa 30 29 1,ZD 31 78 28 30,oV 7 31] [0,1,5,7] (sq [oV 32 7,Wn 33 32 0] [0,1,5,7,33] (.cond (.t 33) (sq [oV 34 7,oV 4 34] [4] .ret) .skip))) (sq [oV 35 0,oV 36 5,ZI 37 12 35 36,ZF 38 9 37,ZL 39 1 38,oV 40 1,Wa 41 40 1,ZD 42 78 39 41,oV 8 42] [0,1,5,8] (sq [oV 43 8,Wn 44 43 0] [0,1,5,8,44] (.cond (.t 44) (sq [oV 45 8,
 oV 4 45] [4] .ret) .skip)))))) (.ops [oV 13 5,Wa 14 13 1,oV 5 14] [0,1,5])))))) (sq [oI 4 0] [4] .ret))
def Qg:List RV:=[.t 4 false]
theorem k78:aF G.tab Tryz.f78 2 c78 Qg=true:=by kernel_rfl
def NU:Cd:=sq [ZB 2 54 0,oI 4 0] [1,2] (.seq (sq [ZF 5 0 2,ZL 6 1 5,Wl 7 6 1,oV 8 7,oH 9 8 (zF 0 2),oH 10 8 (zL 1 9),oH 11 8 (wg 10 6),ZP 12 8 11,oV 13 12,oH 14 13 (zM 12 2),oH 15 13 (zC 195 14),oH 16 13 (zU 15),ZP 17 13 16,oV 18 17,oH 19 18 (.mv (.t 1)),oH 20 18 (wg 19 4),ZP 21 18 20,oV 22 21,oH 23 22 (.mv (.t 1)),oH 24 22 (wg 23 0),oH 25 22 (.mv (.t 24)),oG 26 25 (zF 0 2),oG 27 25 (zL 1 26),
 oG 28 25 (we 27 3),oG 29 25 (.mv (.t 28)),oH 30 29 (zF 0 2),oH 31 29 (zL 1 30),oH 32 29 (we 31 6),oG 33 25 (zP 29 32),oH 34 22 (zQ 25 33),ZP 35 22 34] [2,35] (.cond (.t 35) (sq [oI 4 1] [4] .ret) .skip)) (.seq (sq [ZF 36 0 2,ZL 37 1 36] [2,37] (.block 0 (sq [We 39 37 3,oV 38 39] [2,37,38] (.cond (.t 38) (sq [ZM 40 12 2,ZC 41 196 40,oV 4 41] [4] .ret) (sq [We 43 37 6,oV 42 43] [2,37,
 42] (.cond (.t 42) (.seq (sq [ZF 44 10 2,ZL 45 1 44,ZN 46 45,We 47 46 0,oV 48 47,oH 49 48 (zF 11 2),oH 50 48 (zL 1 49),oH 51 48 (zN 50),oH 52 48 (we 51 0),ZP 53 48 52] [2,53] (.cond (.t 53) (sq [oI 4 1] [4] .ret) .skip)) (.seq (sq [ZF 54 10 2,ZL 55 1 54,ZC 56 197 55,ZU 57 56,oV 58 57,oH 59 58 (zF 11 2),oH 60 58 (zL 1 59),oH 61 58 (zC 197 60),oH 62 58 (zU 61),
 ZP 63 58 62] [63] (.cond (.t 63) (sq [oI 4 7] [4] .ret) .skip)) (sq [oI 4 0] [4] .ret))) (sq [We 65 37 5,oV 64 65] [2,64] (.cond (.t 64) (.seq (sq [ZF 66 5 2,ZL 67 1 66,ZC 68 142 67,ZU 69 68,oV 70 69,oH 71 70 (zF 6 2),oH 72 70 (zL 1 71),oH 73 70 (zC 142 72),oH 74 70 (zU 73),ZP 75 70 74] [75] (.cond (.t 75) (sq [oI 4 7] [4] .ret) .skip)) (sq [oI 4 0] [4] .ret)) .skip)))))))) (sq [ZF 76 1 2,
 ZM 77 4 76,ZC 78 194 77,oV 4 78] [4] .ret)))
def Mz:List RV:=[.t 4 false]
theorem Ql:aF G.tab Tryz.f138 2 NU Mz=true:=by kernel_rfl
def M6:Cd:=sq [ZB 1 54 0,oM 2 (.mv kF)] [1] (.seq (sq [ZF 3 0 1,ZL 4 1 3,ZC 5 235 4,ZU 6 5,oV 7 6,oG 8 7 (zF 1 1),oG 9 7 (zM 4 8),⟨some 10,.bld zz0 [],(some (7,true))⟩,oG 11 7 (zD 79 9 10),oG 12 7 (zU 11),ZQ 13 7 12,oV 14 13,oH 15 14 (zF 0 1),oH 16 14 (zL 1 15),oH 17 14 (wn 16 3),oH 18 14 (.mv (.t 17)),oG 19 18 (zF 7 1),oG 20 18 (zL 1 19),oG 21 18 (zN 20),oG 22 18 (wg 21 0),
 oG 23 18 (.mv (.t 22)),oH 24 23 (zF 0 1),oH 25 23 (zL 1 24),oH 26 23 (wn 25 5),oH 27 23 (.mv (.t 26)),oG 28 27 (zF 5 1),oG 29 27 (zL 1 28),oG 30 27 (.bin .neq (.t 29) (kS ⟨#[]⟩)),oH 31 23 (zQ 27 30),oG 32 18 (zP 23 31),oH 33 14 (zQ 18 32),ZP 34 14 33] [1,34] (.cond (.t 34) (sq [oM 2 (.mv kF)] [2] .ret) .skip)) (.seq (sq [ZF 35 0 1,ZL 36 1 35,Wn 37 36 5,oV 38 37,oG 39 38 (zF 6 1),
 oG 40 38 (zL 1 39),oG 41 38 (.bin .neq (.t 40) (kS ⟨#[]⟩)),oG 42 38 (.mv (.t 41)),oH 43 42 (zF 0 1),oH 44 42 (zL 1 43),oH 45 42 (wn 44 4),oH 46 42 (.mv (.t 45)),oG 47 46 (zF 8 1),oG 48 46 (zL 1 47),oG 49 46 (zN 48),oG 50 46 (wg 49 0),oH 51 42 (zQ 46 50),oG 52 38 (zP 42 51),ZQ 53 38 52,oV 54 53,oH 55 54 (zF 0 1),oH 56 54 (zL 1 55),oH 57 54 (wn 56 4),oH 58 54 (.mv (.t 57)),oG 59 58 (zF 9 1),
 oG 60 58 (zL 1 59),oG 61 58 (zN 60),oG 62 58 (wg 61 0),oH 63 54 (zQ 58 62),ZP 64 54 63] [1,64] (.cond (.t 64) (sq [oM 2 (.mv kF)] [2] (.ret)) .skip)) (sq [ZF 65 0 1,ZL 66 1 65,We 67 66 6,oV 68 67,oH 69 68 (zF 10 1),oH 70 68 (zL 1 69),oH 71 68 (zN 70),oH 72 68 (we 71 0),oH 73 68 (.mv (.t 72)),oG 74 73 (zF 11 1),oG 75 73 (zL 1 74),oG 76 73 (zN 75),oG 77 73 (we 76 0),oH 78 68 (zQ 73 77),ZP 79 68 78,
 oV 2 79] [2] (.ret))))
def Ol:List RV:=[.t 2 false]
theorem R7:aF G.tab Tryz.f195 1 M6 Ol=true:=by kernel_rfl
def K6:Cd:=sq [ZB 1 54 0,oI 2 0] [1] (.seq (sq [ZF 5 7 1,ZL 6 1 5,ZN 7 6,Wg 8 7 16] [1,8] (.cond (.t 8) (sq [oI 2 2] [2] .ret) .skip)) (.seq (sq [ZF 9 7 1,ZL 10 1 9,ZN 11 10,We 12 11 0] [1,12] (.cond (.t 12) (sq [oI 2 1] [2] .ret) .skip)) (.seq (sq [oI 3 0] [1,3] (.block 0 (.loop (.seq (sq [oV 13 3,ZF 14 7 1,ZL 15 1 14,ZN 16 15,Yl 17 13 16] [1,3,
 17] (.cond (.t 17) .skip (.exit 0))) (.seq (.block 1 (sq [ZF 20 7 1,ZL 21 1 20,oV 22 3,ZI 23 4 21 22,ZM 24 4 23,oM 4 (.new 56 zz5),oS 4 4 24] [1,3,4] (sq [ZF 25 0 4,ZL 26 1 25,Wl 27 26 0,oV 28 27,oH 29 28 (zF 0 4),oH 30 28 (zL 1 29),oH 31 28 (zF 1 4),oH 32 28 (zL 1 31),oH 33 28 (yg 30 32),ZP 34 28 33,oV 35 34,oH 36 35 (zF 1 4),oH 37 35 (zL 1 36),oH 38 35 (wg 37 65535),ZP 39 35 38,oV 40 39,
 oH 41 40 (zF 2 4),oH 42 40 (zL 1 41),oH 43 40 (wl 42 0),ZP 44 40 43,oV 45 44,oH 46 45 (zF 2 4),oH 47 45 (zL 1 46),oH 48 45 (wg 47 1000),ZP 49 45 48] [1,3,49] (.cond (.t 49) (sq [oI 2 1] [2] .ret) .skip)))) (.ops [oV 18 3,Wa 19 18 1,oV 3 19] [1,3])))))) (.seq (sq [ZF 50 5 1,ZL 51 1 50,ZC 52 236 51,ZU 53 52] [53] (.cond (.t 53) (sq [oI 2 7] [2] .ret) .skip)) (sq [oI 2 0] [2] .ret)))))
def L8:List RV:=[.t 2 false]
theorem Rv:aF G.tab Tryz.f196 1 K6 L8=true:=by kernel_rfl
def NF:Cd:=sq [oM 2 (.mv kF)] [0] (.seq (sq [oI 3 0] [0,3] (.block 0 (.loop (.seq (sq [oV 4 3,oV 5 0,ZN 6 5,Yl 7 4 6] [0,3,7] (.cond (.t 7) .skip (.exit 0))) (.seq (.block 1 (sq [oV 10 0,oV 11 3,ZI 12 1 10 11,ZL 13 1 12,ZC 14 236 13,ZU 15 14] [0,3,15] (.cond (.t 15) (sq [oM 2 (.mv kF)] [2] .ret) .skip))) (.ops [oV 8 3,Wa 9 8 1,oV 3 9] [0,3])))))) (sq [oM 2 (.mv kT)] [2] .ret))
def MT:List RV:=[.t 2 false]
theorem Se:aF G.tab Tryz.f197 1 NF MT=true:=by kernel_rfl
end Go.Proofs.YtnhphlmblenapaaGreatDoor
namespace Go.Proofs.YtnhphlmblenapaaGreatDoor
open Go.RowKit
def c213:Cd:=sq [oM 2 (.mv (kS ⟨#[]⟩))] [0] (sq [oM 3 (.nilo 9 1)] [0,3] (.seq (sq [oV 6 0,ZN 7 6,oI 8 0] [3,6,7,8] (.block 0 (.loop (sq [Yl 9 8 7] [3,6,7,8,9] (.seq (.cond (.t 9) .skip (.exit 0)) (.seq (.block 1 (sq [ZI 10 4 6 8,ZM 11 4 10,oM 5 (.new 56 zz5),oS 4 5 11] [3,5,6,7,8] (.ops [oM 12 (.mvo 3),ZM 13 4 5,ZC 14 243 13,oM 15 (.mks 9 1 [.t 14]),oM 16 (.app 9 1 16 12 (.t 15)),
 oM 3 (.mvo 16)] [3,6,7,8]))) (.ops [Wa 17 8 1,oV 8 17] [3,6,7,8]))))))) (sq [oV 18 3,oM 19 (.call 244 [.t 18,.k (.d (.lit (.string ⟨#[44,32]⟩)))]),oV 2 19] [2] .ret)))
def c212:Cd:=sq [oM 2 (.mv (kS ⟨#[]⟩))] [0] (.seq (sq [oV 7 0,oM 8 (.call 241 [.t 7,.k (.d (.lit (.string ⟨#[91]⟩)))]),oV 6 8,ZX 9 6 0,ZX 10 6 1,ZX 11 6 2,oV 3 9,oV 4 10,oV 5 11] [0,3,4,5] (sq [oV 12 5] [0,3,4,12] (.cond (.t 12) (sq [oV 13 3,oM 14 (.bin .add (.t 13) (kS ⟨#[91]⟩)),oV 15 4,oM 16 (.call 242 [.t 15,.k (.d (.lit (.string ⟨#[93]⟩)))]),Ya 17 14 16,oM 18 (.bin .add (.t 17) (kS ⟨#[93]⟩)),
 oV 2 18] [2] .ret) .skip))) (sq [oV 19 0,oV 2 19] [2] .ret))
def c20:Cd:=sq [ZB 1 32 0,oM 2 (.mv (kS ⟨#[]⟩))] [1] (.seq (sq [ZM 5 4 1,ZC 6 50 5,ZU 7 6] [1,7] (.cond (.t 7) (.seq (.ops [oM 2 (.mv (kS ⟨#[]⟩))] [2]) .ret) .skip)) (sq [oM 8 (.bld [.d (.lit (.pointer none)),.nil,.d (.lit (.int .i64 0))] []),oM 9 (.boxt 91 (.t 8)),oM 3 (.new 85 [.d (.lit (.pointer none))]),oS 1 3 9] [1,3] (sq [oM 4 (.mv (kS ⟨#[]⟩))] [1,3,4] (.seq (sq [ZF 10 1 1,ZL 11 1 10,
 oM 12 (.bin .neq (.t 11) (kS ⟨#[]⟩))] [1,3,4,12] (.cond (.t 12) (.ops [ZF 13 1 1,ZL 14 1 13,oM 15 (.bin .add (kS ⟨#[32,101,120,116,101,110,100,115,32]⟩) (.t 14)),oV 4 15] [1,3,4]) .skip)) (sq [ZL 16 1 3,ZF 17 0 1,ZL 18 1 17,oV 19 4,oM 20 (.mks 9 1 [.k (.d (.lit (.string ⟨#[99,108,97,115,115,32]⟩))),.t 18,.t 19,.k (.d (.lit (.string ⟨#[32,123]⟩)))]),ZD 21 51 16 20] [1,3] (sq [ZL 22 1 3,
 oM 23 (.mkfn 53 [.t 1,.t 3]),ZD 24 52 22 23] [3] (sq [ZL 25 1 3,oM 26 (.mks 9 1 [.k (.d (.lit (.string ⟨#[125]⟩)))]),ZD 27 51 25 26] [3] (sq [ZL 28 1 3,ZK 29 28,ZF 30 0 29,ZC 31 56 30,oV 2 31] [2] .ret))))))))
def c22:Cd:=sq [oM 4 (.mv (kS ⟨#[]⟩))] [0,1] (.seq (sq [oV 6 0,ZC 7 27 6,Wn 8 7 0,oV 9 8,oH 10 9 (.mv (.t 1)),oH 11 9 (wl 10 0),ZP 12 9 11,oV 13 12,oH 14 13 (.mv (.t 1)),oH 15 13 (wg 14 32),ZP 16 13 15] [0,1,16] (.cond (.t 16) (sq [oM 4 (.mv (kS ⟨#[]⟩))] [4] .ret) .skip)) (sq [oV 17 1,oM 18 (.bld [.d (.lit (.pointer none)),.nil,.d (.lit (.int .i64 0))] [(2,1,.t 17)]),oM 19 (.boxt 91 (.t 18)),
 oV 5 19] [0,5] (sq [oV 20 5,oV 21 0,ZD 22 57 20 21] [5] (sq [oV 23 5,ZK 24 23,ZF 25 0 24,ZC 26 56 25,oV 4 26] [4] .ret))))
def c53:Cd:=.seq (sq [ZF 6 2 0,ZL 7 1 6,ZN 8 7,oI 9 0] [0,1,7,8,9] (.block 0 (.loop (sq [Yl 10 9 8] [0,1,7,8,9,10] (.seq (.cond (.t 10) .skip (.exit 0)) (.seq (.block 1 (sq [ZI 11 5 7 9,ZM 12 5 11,oM 3 (.new 74 zz7),oS 5 3 12] [0,1,3,7,8,9] (.ops [ZL 13 1 1,ZM 14 5 3,ZD 15 54 13 14] [0,1,7,8,9]))) (.ops [Wa 16 9 1,oV 9 16] [0,1,7,8,9]))))))) (sq [ZF 17 3 0,ZL 18 1 17,ZN 19 18,oI 20 0] [1,18,19,
 20] (.block 2 (.loop (sq [Yl 21 20 19] [1,18,19,20,21] (.seq (.cond (.t 21) .skip (.exit 2)) (.seq (.block 3 (sq [ZI 22 2 18 20,ZM 23 2 22,oM 5 (.new 46 GG),oS 2 5 23] [1,5,18,19,20] (.ops [ZL 24 1 1,ZM 25 2 5,ZD 26 55 24 25] [1,18,19,20]))) (.ops [Wa 27 20 1,oV 20 27] [1,18,19,20])))))))
def c51:Cd:=.seq (.drawg [(oV 6 0,.free 0),(ZK 7 6,.free 0),(ZF 8 0 7,.free 0),(oV 9 0,.free 0),(ZK 10 9,.free 0),(ZF 11 2 10,.free 0),(ZL 12 1 11,.calm 0 0),(oM 13 (.call 110 [.k (.d (.lit (.string ⟨#[32,32,32,32]⟩))),.t 12]),.calm 0 0),(ZD 14 109 8 13,.act)] [0,1]) (.seq (sq [oV 15 1,ZN 16 15,oI 17 0] [0,15,16,17] (.block 0 (.loop (sq [Yl 18 17 16] [0,15,16,17,
 18] (.seq (.cond (.t 18) .skip (.exit 0)) (.seq (.block 1 (sq [ZI 19 1 15 17,ZL 20 1 19,oV 5 20] [0,5,15,16,17] (.ops [oV 21 0,ZK 22 21,ZF 23 0 22,oV 24 5,ZD 25 109 23 24] [0,15,16,17]))) (.ops [Wa 26 17 1,oV 17 26] [0,15,16,17]))))))) (.ops [oV 27 0,ZK 28 27,ZF 29 0 28,oM 30 (.call 109 [.t 29,.k (.d (.lit (.string ⟨#[10]⟩)))])] []))
def c45:Cd:=sq [ZB 1 32 0,oI 2 0] [1] (.seq (.block 0 (sq [ZF 7 0 1,ZL 8 1 7,ZC 9 96 8,ZU 10 9,oV 11 10,oH 12 11 (zF 1 1),oH 13 11 (zL 1 12),oH 14 11 (.bin .neq (.t 13) (kS ⟨#[]⟩)),oH 15 11 (.mv (.t 14)),oG 16 15 (zF 1 1),oG 17 15 (zL 1 16),oG 18 15 (zC 96 17),oG 19 15 (zU 18),oH 20 11 (zQ 15 19),ZP 21 11 20,oV 6 21] [1,6] (.cond (.t 6) (sq [oI 2 7] [2] .ret) (sq [ZF 23 2 1,ZL 24 1 23,ZN 25 24,
 Wg 26 25 16,oV 27 26,oH 28 27 (zF 3 1),oH 29 27 (zL 1 28),oH 30 27 (zN 29),oH 31 27 (wg 30 16),ZP 32 27 31,oV 22 32] [1,22] (.cond (.t 22) (sq [oI 2 2] [2] .ret) .skip))))) (.seq (sq [ZF 33 2 1,ZL 34 1 33,ZN 35 34,oI 36 0] [1,34,35,36] (.block 1 (.loop (sq [Yl 37 36 35] [1,34,35,36,37] (.seq (.cond (.t 37) .skip (.exit 1)) (.seq (.block 2 (sq [ZI 38 5 34 36,ZM 39 5 38,oM 4 (.new 74 zz7),
 oS 5 4 39] [1,4,34,35,36] (sq [ZM 40 5 4,ZC 41 97 40,oV 5 41] [1,5,34,35,36] (sq [oV 42 5,Wn 43 42 0] [1,5,34,35,36,43] (.cond (.t 43) (.seq (.ops [oV 44 5,oV 2 44] [2]) .ret) .skip))))) (.ops [Wa 45 36 1,oV 36 45] [1,34,35,36]))))))) (.seq (sq [ZF 46 3 1,ZL 47 1 46,oM 48 (.call 98 [.t 47,.k (.fn 99 [])])] [1,48] (.cond (.t 48) (sq [oI 2 7] [2] .ret) .skip)) (.seq (sq [ZF 49 2 1,ZL 50 1 49,
 oM 51 (.call 100 [.t 50,.k (.fn 101 [])]),oV 52 51,oH 53 52 (zF 3 1),oH 54 52 (zL 1 53),⟨some 55,.call 102 [.t 54,.k (.fn 103 [])],(some (52,false))⟩,ZP 56 52 55] [56] (.cond (.t 56) (sq [oI 2 8] [2] (.ret)) .skip)) (sq [oI 2 0] [2] .ret)))))
def PZ:List RV:=[.t 2 false]
theorem k45:aF G.tab Tryz.f45 1 c45 PZ=true:=by kernel_rfl
def c99:Cd:=sq [ZB 1 46 0,oM 2 (.mv kF)] [1] (sq [ZF 3 0 1,ZL 4 1 3,ZC 5 96 4,ZU 6 5,oV 2 6] [2] .ret)
def Rc:List RV:=[.t 2 false]
theorem k99:aF G.tab Tryz.f99 1 c99 Rc=true:=by kernel_rfl
def c97:Cd:=sq [ZB 1 74 0,oI 2 0] [1] (.seq (.block 0 (sq [ZF 5 0 1,ZL 6 1 5,ZC 7 96 6,ZU 8 7,oV 4 8] [1,4] (.cond (.t 4) (sq [oI 2 7] [2] .ret) (sq [ZF 10 1 1,ZL 11 1 10,Wl 12 11 1,oV 13 12,oH 14 13 (zF 1 1),oH 15 13 (zL 1 14),oH 16 13 (wg 15 8),ZP 17 13 16,oV 18 17,oH 19 18 (zF 2 1),oH 20 18 (zL 1 19),oH 21 18 (wl 20 0),ZP 22 18 21,oV 23 22,oH 24 23 (zF 2 1),oH 25 23 (zL 1 24),
 oH 26 23 (wg 25 8),ZP 27 23 26,oV 9 27] [1,9] (.cond (.t 9) (sq [oI 2 1] [2] (.ret)) (sq [ZF 29 3 1,ZL 30 1 29,Wn 31 30 0,oV 32 31,oG 33 32 (zF 3 1),oG 34 32 (zL 1 33),oG 35 32 (wn 34 1),ZQ 36 32 35,oV 37 36,oG 38 37 (zF 3 1),oG 39 37 (zL 1 38),oG 40 37 (wn 39 2),ZQ 41 37 40,oV 28 41] [1,28] (.cond (.t 28) (sq [oI 2 1] [2] .ret) (sq [ZF 43 2 1,ZL 44 1 43,Wn 45 44 0,oV 46 45,oG 47 46 (zF 3 1),
 oG 48 46 (zL 1 47),oG 49 46 (we 48 2),ZQ 50 46 49,oV 42 50] [1,42] (.cond (.t 42) (sq [oI 2 1] [2] .ret) .skip))))))))) (sq [oI 3 0] [1,3] (.seq (sq [ZF 51 3 1,ZL 52 1 51,We 53 52 0] [1,3,53] (.cond (.t 53) (.ops [ZF 54 1 1,ZL 55 1 54,oM 56 (.bin .shl (kI 1) (.t 55)),Ws 57 56 1,oV 3 57] [1,3]) .skip)) (.seq (sq [ZF 58 4 1,ZL 59 1 58,Wl 60 59 0,oV 61 60,oH 62 61 (zF 4 1),oH 63 61 (zL 1 62),
 oH 64 61 (.mv (.t 3)),oH 65 61 (yg 63 64),ZP 66 61 65] [66] (.cond (.t 66) (sq [oI 2 1] [2] .ret) .skip)) (sq [oI 2 0] [2] (.ret))))))
def P4:List RV:=[.t 2 false]
theorem k97:aF G.tab Tryz.f97 1 c97 P4=true:=by kernel_rfl
def KM:Cd:=sq [oM 4 (.mv kF)] [0,1] (.seq (sq [oV 7 0,ZN 8 7,oI 9 0] [0,1,8,9] (.block 0 (.loop (sq [Yl 10 9 8] [0,1,8,9,10] (.seq (.cond (.t 10) .skip (.exit 0)) (.seq (.block 1 (sq [oV 11 9,oV 5 11] [0,1,5,8,9] (sq [oV 12 5,oI 13 0] [0,1,5,8,9,12,13] (.block 2 (.loop (sq [Yl 14 13 12] [0,1,5,8,9,12,13,14] (.seq (.cond (.t 14) .skip (.exit 2)) (.seq (.block 3 (sq [oV 15 13,oV 6 15] [0,1,5,6,8,
 9,12,13] (.seq (.draw [oV 16 1,oV 17 0,oV 18 5,ZI 19 5 17 18,ZM 20 5 19,oM 21 (.callv (.t 16) [.t 20]),oV 22 1,oV 23 0,oV 24 6,ZI 25 5 23 24,ZM 26 5 25,oM 27 (.callv (.t 22) [.t 26]),Ye 28 21 27] [0,1,5,8,9,12,13,28]) (.cond (.t 28) (sq [oM 4 (.mv kT)] [4] .ret) .skip)))) (.ops [Wa 29 13 1,oV 13 29] [0,1,5,8,9,12,13]))))))))) (.ops [Wa 30 9 1,oV 9 30] [0,1,8,
 9]))))))) (sq [oM 4 (.mv kF)] [4] .ret))
def KW:List RV:=[.t 4 false]
theorem Qw:aF G.tab Tryz.f100 2 KM KW=true:=by kernel_rfl
def Od:Cd:=sq [oM 4 (.mv kF)] [0,1] (.seq (sq [oV 7 0,ZN 8 7,oI 9 0] [0,1,8,9] (.block 0 (.loop (sq [Yl 10 9 8] [0,1,8,9,10] (.seq (.cond (.t 10) .skip (.exit 0)) (.seq (.block 1 (sq [oV 11 9,oV 5 11] [0,1,5,8,9] (sq [oV 12 5,oI 13 0] [0,1,5,8,9,12,13] (.block 2 (.loop (sq [Yl 14 13 12] [0,1,5,8,9,12,13,14] (.seq (.cond (.t 14) .skip (.exit 2)) (.seq (.block 3 (sq [oV 15 13,oV 6 15] [0,1,5,6,8,
 9,12,13] (.seq (.draw [oV 16 1,oV 17 0,oV 18 5,ZI 19 2 17 18,ZM 20 2 19,oM 21 (.callv (.t 16) [.t 20]),oV 22 1,oV 23 0,oV 24 6,ZI 25 2 23 24,ZM 26 2 25,oM 27 (.callv (.t 22) [.t 26]),Ye 28 21 27] [0,1,5,8,9,12,13,28]) (.cond (.t 28) (sq [oM 4 (.mv kT)] [4] .ret) .skip)))) (.ops [Wa 29 13 1,oV 13 29] [0,1,5,8,9,12,13]))))))))) (.ops [Wa 30 9 1,oV 9 30] [0,1,8,
 9]))))))) (sq [oM 4 (.mv kF)] [4] .ret))
def LP:List RV:=[.t 4 false]
theorem Qi:aF G.tab Tryz.f102 2 Od LP=true:=by kernel_rfl
def OG:Cd:=sq [ZB 1 74 0,oM 2 (.mv (kS ⟨#[]⟩))] [1] (sq [ZF 3 0 1,ZL 4 1 3,oV 2 4] [2] .ret)
def OC:List RV:=[.t 2 false]
theorem R1:aF G.tab Tryz.f101 1 OG OC=true:=by kernel_rfl
def Pv:Cd:=sq [ZB 1 46 0,oM 2 (.mv (kS ⟨#[]⟩))] [1] (sq [ZF 3 0 1,ZL 4 1 3,oV 2 4] [2] .ret)
def NW:List RV:=[.t 2 false]
theorem Pz:aF G.tab Tryz.f103 1 Pv NW=true:=by kernel_rfl
def c98:Cd:=sq [oM 4 (.mv kF)] [0,1] (sq [oV 5 0,oV 6 1,ZD 7 148 5 6,Wh 8 7 0,oV 4 8] [4] .ret)
def Qe:List RV:=[.t 4 false]
theorem k98:aF G.tab Tryz.f98 2 c98 Qe=true:=by kernel_rfl
def N1:Cd:=sq [oI 4 0] [0,1] (.seq (sq [oV 6 0,ZN 7 6,oI 8 0] [0,1,7,8] (.block 0 (.loop (sq [Yl 9 8 7] [0,1,7,8,9] (.seq (.cond (.t 9) .skip (.exit 0)) (.seq (.block 1 (sq [oV 10 8,oV 5 10] [0,1,5,7,8] (sq [oV 11 1,oV 12 0,oV 13 5,ZI 14 2 12 13,ZM 15 2 14,oM 16 (.callv (.t 11) [.t 15])] [0,1,5,7,8,16] (.cond (.t 16) (sq [oV 17 5,oV 4 17] [4] .ret) .skip)))) (.ops [Wa 18 8 1,oV 8 18] [0,1,7,
 8]))))))) (.seq (.ops [oI 4 (-1)] [4]) .ret))
def Lb:List RV:=[.t 4 false]
theorem PU:aF G.tab Tryz.f148 2 N1 Lb=true:=by kernel_rfl
def c143:Cd:=sq [ZB 1 74 0,oI 2 0] [1] (.seq (sq [ZF 4 0 1,ZL 5 1 4,ZC 6 142 5,ZU 7 6] [1,7] (.cond (.t 7) (sq [oI 2 7] [2] .ret) .skip)) (.seq (sq [ZF 8 1 1,ZL 9 1 8,Wl 10 9 1,oV 11 10,oH 12 11 (zF 1 1),oH 13 11 (zL 1 12),oH 14 11 (wg 13 8),ZP 15 11 14,oV 16 15,oH 17 16 (zF 2 1),oH 18 16 (zL 1 17),oH 19 16 (wl 18 0),ZP 20 16 19,oV 21 20,oH 22 21 (zF 2 1),oH 23 21 (zL 1 22),oH 24 21 (wg 23 8),
 ZP 25 21 24,oV 26 25,oH 27 26 (zF 3 1),oH 28 26 (zL 1 27),oH 29 26 (wl 28 0),ZP 30 26 29,oV 31 30,oH 32 31 (zF 3 1),oH 33 31 (zL 1 32),oH 34 31 (wg 33 2),ZP 35 31 34] [1,35] (.cond (.t 35) (sq [oI 2 1] [2] (.ret)) .skip)) (.seq (sq [ZF 36 2 1,ZL 37 1 36,Wn 38 37 0,oV 39 38,oG 40 39 (zF 3 1),oG 41 39 (zL 1 40),oG 42 39 (we 41 2),ZQ 43 39 42] [1,
 43] (.cond (.t 43) (sq [oI 2 1] [2] .ret) .skip)) (sq [oI 3 0] [1,3] (.seq (sq [ZF 44 3 1,ZL 45 1 44,We 46 45 0] [1,3,46] (.cond (.t 46) (.ops [ZF 47 1 1,ZL 48 1 47,oM 49 (.conv .u64 (.t 48)),oM 50 (.bin .shl (kI 1) (.t 49)),Ws 51 50 1,oV 3 51] [1,3]) .skip)) (.seq (sq [ZF 52 4 1,ZL 53 1 52,Wl 54 53 0,oV 55 54,oH 56 55 (zF 4 1),oH 57 55 (zL 1 56),oH 58 55 (.mv (.t 3)),oH 59 55 (yg 57 58),
 ZP 60 55 59] [60] (.cond (.t 60) (sq [oI 2 1] [2] .ret) .skip)) (sq [oI 2 0] [2] .ret)))))))
def c145:Cd:=sq [oI 4 0] [0,1] (.seq (sq [oI 5 0] [0,1,5] (.block 0 (.loop (.seq (sq [oV 6 5,oV 7 0,ZN 8 7,Yl 9 6 8] [0,1,5,9] (.cond (.t 9) .skip (.exit 0))) (.seq (.block 1 (sq [oV 12 0,oV 13 5,ZI 14 2 12 13,ZF 15 0 14,ZL 16 1 15,oV 17 1,Ye 18 16 17] [0,1,5,18] (.cond (.t 18) (sq [oV 19 5,oV 4 19] [4] .ret) .skip))) (.ops [oV 10 5,Wa 11 10 1,oV 5 11] [0,1,5])))))) (sq [oI 4 (-1)] [4] .ret))
end Go.Proofs.YtnhphlmblenapaaGreatDoor
