import Derived.Scope
import Derived.Test.YtnhphlmblenapaaGreatDoorRef7
set_option linter.unusedVariables false
set_option linter.unusedSimpArgs false
set_option linter.unusedSectionVars false
set_option maxRecDepth 1200000
set_option maxHeartbeats 2000000
open Bool renaming false_and->TJ,and_eq_false_iff->TK,eq_iff_iff->TL,true_and->TM
open Int renaming reduceEq->TN,ofNat_lt->TO,tdiv_eq_ediv_of_nonneg->TP,neg_tdiv->TQ
open List renaming getElem?_eq_getElem->TR,take_of_length_le->TS,length_set->TT,take_length->TU,takeWhile_cons_of_pos->TV,set_set->TW,getElem_cons_zero->TX,getElem_cons_succ->TY,take_append_drop->TZ,takeWhile_prefix->T0,count_le_length->T1,foldl_append->T3,cons_append->T4
open Nat renaming le_refl->T5,le_trans->T6
namespace Go.Proofs.YtnhphlmblenapaaGreatDoor
open Go.RowKit
def ovV(x:Int):V:=if -9223372036854775808≤x/\x≤9223372036854775807 then .tup [.d (ab x),.d (ab 0)]else .tup [.d (ab 0),.d (ab 3)]
theorem im{x:Int}(h1 : -9223372036854775808≤x)(h2:x≤9223372036854775807):ovV x=.tup [.d (ab x),.d (ab 0)]:=if_pos ⟨h1,h2⟩
theorem mI{x:Int}(h:x < -9223372036854775808\/9223372036854775807<x):ovV x=.tup [.d (ab 0),.d (ab 3)]:=if_neg (by omega)
theorem wi(n:Int)(h0 : -9223372036854775808≤n)(h1:n≤9223372036854775807)(σ:LLV):Fun G 232 [.d (ab n)] σ (aN (.d (ab (-(n.natAbs:Int)))) σ):=by
 refine ae Tryz.func232 To rfl fun hb hw=>?_;unfold c232;by_cases h:0<n
 .have w:IntKind.i64.wrap (0-n) = -(n.natAbs:Int):=by rw[aA (by omega) (by omega)];omega
  simp -dsimp only[aw,seval,decide_eq_true h,w];exact ak hb rfl rfl
 .have w:n = -(n.natAbs:Int):=by omega
  simp -dsimp only[aw,seval,decide_eq_false h];rw[<-w];exact ak hb rfl rfl
theorem xX(x:Int)(h0 : -18446744073709551616≤x)(h1:x≤18446744073709551616):(-9223372036854775808≤x/\x≤9223372036854775807/\IntKind.i64.wrap x=x)\/(x < -9223372036854775808/\IntKind.i64.wrap x=x+18446744073709551616)\/(9223372036854775807<x/\IntKind.i64.wrap x=x-18446744073709551616):=by
 by_cases a:x < -9223372036854775808
 .exact .inr (.inl ⟨a,by simp[IntKind.wrap,IntKind.bits,IntKind.signed];split<;>omega⟩)
 .by_cases b:9223372036854775807<x
  .exact .inr (.inr ⟨b,by simp[IntKind.wrap,IntKind.bits,IntKind.signed];split<;>omega⟩)
  .exact .inl ⟨by omega,by omega,aA (by omega) (by omega)⟩
theorem B2(a b:Int)(ha : -9223372036854775808≤a)(ha':a≤9223372036854775807)(hb' : -9223372036854775808≤b)(hb2:b≤9223372036854775807)(σ:LLV):Fun G 258 [.d (ab a),.d (ab b)] σ (aN (ovV (a+b)) σ):=by
 refine ae Tryz.func258 QF rfl fun hb hw=>?_;unfold OZ;have hc:=xX (a+b) (by omega) (by omega);simp -dsimp only[aw,seval];generalize IntKind.i64.wrap (a+b)=s at hc ⊢;by_cases h1:0<a<;>by_cases h2:0<b<;>by_cases h3:s<0<;>by_cases h4:a<0<;>by_cases h5:b<0<;>by_cases h6:0≤s<;>try (exfalso;omega)
 all_goals
  simp -dsimp only[aw,seval,h1,h2,h3,h4,h5,h6]
  first
   | (rw[mI (by omega)];exact az hb rfl rfl TU ⟨rfl,rfl⟩)
   | (rw[im (by omega) (by omega),show a+b=s by omega];exact az hb rfl rfl TU ⟨rfl,rfl⟩)
theorem oe(a b:Int)(ha : -9223372036854775808≤a)(ha':a≤9223372036854775807)(hb' : -9223372036854775808≤b)(hb2:b≤9223372036854775807)(σ:LLV):Fun G 230 [.d (ab a),.d (ab b)] σ (aN (ovV (a-b)) σ):=by
 refine ae Tryz.func230 Sc rfl fun hb hw=>?_;unfold MN;by_cases h:b = -9223372036854775808
 .by_cases h1:0≤a
  .simp -dsimp only[aw,seval,decide_eq_true h,decide_eq_true h1];rw[mI (by omega)];exact ak hb rfl rfl
  .simp -dsimp only[aw,seval,decide_eq_true h,decide_eq_false h1,aA (show -9223372036854775808≤a-b by omega) (by omega)];rw[im (by omega) (by omega)];exact ak hb rfl rfl
 .simp -dsimp only[aw,seval,decide_eq_false h,aA (show -9223372036854775808≤0-b by omega) (by omega)];refine ac (B2 a (0-b) ha ha' (by omega) (by omega) _) ?_;rw[show a+(0-b)=a-b by omega];by_cases hr : -9223372036854775808≤a-b/\a-b≤9223372036854775807
  .rw[im hr.1 hr.2];simp -dsimp only[aw,seval];exact ak hb rfl rfl
  .rw[mI (by omega)];simp -dsimp only[aw,seval];exact ak hb rfl rfl
theorem Gn(x:Int)(h:x≤0):x.tdiv 10 = -((-x)/10):=by
 have:x = -((-x)):=by omega
 rw[this,TQ,TP (by omega)];simp
theorem xc(a:Int)(ha : -9223372036854775808≤a)(ha':a≤0)(σ:LLV):Fun G 229 [.d (ab a),.d (ab 10)] σ (aN (ovV (a*10)) σ):=by
 refine ae Tryz.func229 Re rfl fun hb hw=>?_;unfold Oh;by_cases h0:a=0
 .subst h0;simp -dsimp only[aw,seval];rw[im (by omega) (by omega)];exact ak hb rfl rfl
 .by_cases hr : -9223372036854775808≤a*10
  .have w:=aA hr (by omega);have hd:(a*10).tdiv 10=a:=by rw[Gn _ (by omega)];omega
   have w2:=aA ha (show a≤9223372036854775807 by omega);rw[im hr (by omega)];by_cases h1:a = -1
   .simp -dsimp only[aw,seval,decide_eq_false h0,w,hd,decide_eq_true h1,w2,TN,decide_true,decide_false];exact ak hb rfl rfl
   .simp -dsimp only[aw,seval,decide_eq_false h0,w,hd,decide_eq_false h1,w2,TN,decide_true,decide_false];exact ak hb rfl rfl
  .rw[mI (by omega)];have h1:¬a = -1:=by omega
   have hp : -9223372036854775808≤IntKind.i64.wrap (a*10)/\IntKind.i64.wrap (a*10)≤9223372036854775807:=by
    simp only[IntKind.wrap,IntKind.bits,IntKind.signed];simp;split<;>omega
   have hd:¬IntKind.i64.wrap ((IntKind.i64.wrap (a*10)).tdiv 10)=a:=by
    generalize IntKind.i64.wrap (a*10)=p at hp;by_cases hp0:p≤0
    .rw[Gn p hp0,aA (by omega) (by omega)];omega
    .rw[TP (by omega),aA (by omega) (by omega)];omega
   simp -dsimp only[aw,seval,decide_eq_false h0,decide_eq_false h1,decide_eq_false hd,TN,decide_true,decide_false];exact ak hb rfl rfl
theorem uE(l:Bs)(hl:l.length≤1200000)(σ:LLV):Fun G 228 [.d (ai (bs l))] σ (aN (.d (.lit (.bool (l.all dig&&decide (0<l.length))))) σ):=by
 refine ae Tryz.func228 Sl rfl fun hb hw=>?_;unfold Pr;simp -dsimp only[aw,seval];refine eJ (R:=fun(j:Nat) ρ σ'=>ρ=[(0,.d (ai (bs l))),(3,aF .i64 j)]/\σ'=σ/\l.all dig=(l.drop j).all dig) l.length ⟨rfl,rfl,rfl⟩ ?_ _;rintro j ρ' σ' hj ⟨rfl,rfl,hr⟩;by_cases hlt:j<l.length
 .have hd:(l.drop j).all dig=(dig l[j]&&(l.drop (j+1)).all dig):=by rw[List.drop_eq_getElem_cons hlt];rfl
  have hdg:dig l[j]=(decide (48≤(l[j].toNat:Int))&&decide ((l[j].toNat:Int)≤57)):=rfl;by_cases h1:(l[j].toNat:Int)<48
  .simp -dsimp only[aw,seval,aG,TO,hlt,decide_true,bz,TR hlt,cm,decide_eq_true h1];rw[hd,hdg,decide_eq_false (by omega),TJ,TJ]at hr;rw[hr];exact ak hb rfl rfl
  .by_cases h2:57<(l[j].toNat:Int)
   .simp -dsimp only[aw,seval,aG,TO,hlt,decide_true,bz,TR hlt,cm,decide_eq_false h1,decide_eq_true h2];rw[hd,hdg,decide_eq_false (p:=(l[j].toNat:Int)≤57) (by omega),Bool.and_false,TJ]at hr;rw[hr];exact ak hb rfl rfl
   .simp -dsimp only[aw,seval,aG,TO,hlt,decide_true,bz,TR hlt,cm,decide_eq_false h1,decide_eq_false h2,aJ hlt (show l.length≤9223372036854775807 by omega)];rw[hd,hdg,decide_eq_true (p:=(l[j].toNat:Int)≤57) (by omega),decide_eq_true (p:=48≤(l[j].toNat:Int)) (by omega),TM,TM]at hr;exact Nxt.same (T5 _) hb rfl ⟨rfl,rfl,hr⟩
 .simp -dsimp only[aw,seval,aG,TO,hlt];rw[List.drop_eq_nil_of_le (by omega)]at hr;rw[hr];have e0:decide ((0:Int)<((l.length:Nat):Int))=decide (0<l.length):=by rw[decide_eq_decide];omega
  rw[e0];exact ak hb rfl rfl
theorem B4(l:Bs)(c:UInt8)(acc:Nat):rk acc (l++[c])=10*rk acc l+(c.toNat-48):=by unfold rk;rw[T3];rfl
theorem Cl{l:Bs}{j:Nat}(h:j<l.length):ck (l.take (j+1))=10*ck (l.take j)+(l[j].toNat-48):=by
 rw[List.take_add_one,TR h];exact B4 _ _ 0
theorem Bz(l:Bs)(j:Nat):ck (l.take j)≤ck l:=by
 have:ck l=rk (ck (l.take j)) (l.drop j):=by
  conv=>lhs;rw[<-TZ j l]
  unfold ck rk;rw[T3]
 rw[this];exact u5 _ _
def oP(c:UInt8)(l:Bs):V:=if l.all dig=false\/(1<l.length/\c=48)then .tup [.d (ab 0),.d (ab 5)]else if 9223372036854775807<ck l then .tup [.d (ab 0),.d (ab 3)]else .tup [.d (ab (ck l:Nat)),.d (ab 0)]
theorem w8(c:UInt8)(r l:Bs)(he:l=c::r)(hc:dig c=true)(hl:l.length≤1200000)(σ:LLV):Fun G 190 [.d (ai (bs l))] σ (aN (oP c l) σ):=by
 have hix:ixV (V.d (ai (bs l))) (V.d (.lit (.int .i64 0)))=some (aF .u8 c.toNat):=by rw[he];simp[ixV,bz]
 have hlp:0<l.length:=by rw[he];simp
 have hlp':(0:Int)<((l.length:Nat):Int):=by omega
 have h45:(c==45)=false:=by
  rw[beq_eq_false_iff_ne];intro e;subst e;revert hc;decide
 refine ae Tryz.func190 TD rfl fun hb hw=>?_;unfold Or;simp -dsimp only[aw,seval,aG,decide_eq_true hlp',hix,NT,h45];refine ac (uE l hl _) ?_;rw[decide_eq_true hlp,Bool.and_true];cases hall:l.all dig with
 | false=>
  simp -dsimp only[aw,seval];unfold oP;rw[if_pos (.inl hall)];exact ak hb rfl rfl
 | true=>
  have hds:∀x,x∈l->dig x=true:=fun x hx=>List.all_eq_true.1 hall x hx;have h48:decide (bs l=(⟨#[48]⟩:ByteArray))=decide (l=[48]):=vg l [48];by_cases hlead:1<l.length/\c=48
  .have hne:¬l=[48]:=by rintro rfl;simp at hlead
   simp -dsimp only[aw,seval,hix,EG,beq_iff_eq.2 hlead.2,h48,decide_eq_false hne];unfold oP;rw[if_pos (.inr hlead)];exact ak hb rfl rfl
  .have hR:oP c l=if 9223372036854775807<ck l then .tup [.d (ab 0),.d (ab 3)]else .tup [.d (ab (ck l:Nat)),.d (ab 0)]:=by
    unfold oP;rw[if_neg (by rw[hall];simpa using hlead)]
   have hcond:(c==48)=false\/((c==48)=true/\l=[48]):=by
    by_cases h:c=48
    .refine .inr ⟨by simp[h],?_⟩
     have:r=[]:=by
      cases r with
      | nil=>rfl
      | cons a r=>exact absurd ⟨by rw[he];simp,h⟩ hlead
     rw[he,this,h]
    .exact .inl (by simpa using h)
   rw[hR];rcases hcond with h|⟨h,h2⟩
   all_goals
    first
     | simp -dsimp only[aw,seval,hix,EG,h,h48,decide_eq_true h2]
     | simp -dsimp only[aw,seval,hix,EG,h]
    refine eJ (R:=fun(j:Nat) ρ σ'=>ρ=[(4,.d (ai (bs l))),(5,ao false),(6,aF .i64 (-(ck (l.take j):Nat))),(7,aF .i64 j)]/\σ'=σ/\ck (l.take j)≤9223372036854775808) l.length ⟨rfl,rfl,by simp[ck]⟩ ?_ _;rintro j ρ' σ' hj ⟨rfl,rfl,hm⟩;by_cases hlt:j<l.length
    .have hst:=Cl hlt;have hmono:=Bz l (j+1);have hdg:=hds _ (List.getElem_mem hlt);unfold dig dG at hdg;simp only[Bool.and_eq_true,decide_eq_true_eq]at hdg;have hu8:IntKind.u8.wrap ((l[j].toNat:Int)-48)=(l[j].toNat:Int)-48:=by simp[IntKind.wrap,IntKind.bits,IntKind.signed];omega
     have hi64:IntKind.i64.wrap ((l[j].toNat:Int)-48)=(l[j].toNat:Int)-48:=aA (by omega) (by omega);generalize ck (l.take (j+1))=m1 at *;generalize ck (l.take j)=m0 at *;simp -dsimp only[aw,seval,aG,TO,hlt];refine ac (xc (-(m0:Int)) (by omega) (by omega) _) ?_;by_cases hx:m0*10≤9223372036854775808
     .rw[im (by omega) (by omega)];simp -dsimp only[aw,seval,bz,TR hlt,cm,hu8,hi64];refine ac (oe (-(m0:Int)*10) ((l[j].toNat:Int)-48) (by omega) (by omega) (by omega) (by omega) _) ?_;by_cases hy:m1≤9223372036854775808
      .rw[im (by omega) (by omega)];simp -dsimp only[aw,seval,TN,decide_true,aJ hlt (show l.length≤9223372036854775807 by omega)];exact⟨hlt,Nxt.same (T5 _) hb rfl ⟨by rw[show -(m0:Int)*10-((l[j].toNat:Int)-48) = -(m1:Int)by omega],rfl,hy⟩⟩
      .rw[mI (by omega)];simp -dsimp only[aw,seval];rw[if_pos (show 9223372036854775807<ck l by omega)];exact ak hb rfl rfl
     .rw[mI (by omega)];simp -dsimp only[aw,seval,bz,TR hlt,cm,hu8,hi64];refine ac (oe 0 ((l[j].toNat:Int)-48) (by omega) (by omega) (by omega) (by omega) _) ?_;rw[im (by omega) (by omega)];simp -dsimp only[aw,seval];rw[if_pos (show 9223372036854775807<ck l by omega)];exact ak hb rfl rfl
    .have hje:j=l.length:=by omega
     subst hje;rw[TU]at hm ⊢;simp -dsimp only[aw,seval,aG,Int.lt_irrefl];refine ac (oe 0 (-(ck l:Nat):Int) (by omega) (by omega) (by omega) (by omega) _) ?_;rw[show(0:Int) - -((ck l:Nat):Int)=(ck l:Nat)by omega];by_cases hy:9223372036854775807<ck l
     .rw[mI (by omega),if_pos hy];simp -dsimp only[aw,seval];exact ak hb rfl rfl
     .rw[im (by omega) (by omega),if_neg hy];simp -dsimp only[aw,seval];exact ak hb rfl rfl
theorem vt(n:Int)(h0 : -9223372036854775808≤n)(h1:n≤9223372036854775807)(hs:(Lib.itoa n).length≤1000)(σ:LLV):Fun G 192 [.d (ab n)] σ (aN (.d (ai (bs (Lib.itoa n)))) σ):=by
 have hlen:(Lib.decDigits n.natAbs).length≤1000:=by
  unfold Lib.itoa at hs;split at hs
  .simp at hs;omega
  .rwa[show n.toNat=n.natAbs by omega]at hs
 refine ae Tryz.func192 SD rfl fun hb hw=>?_;unfold Mp;simp -dsimp only[aw,seval];refine ac (wi n h0 h1 _) ?_;simp -dsimp only[aw,seval];refine eJ (R:=fun(j:Nat) ρ σ'=>∃(u:Nat) (tl:Bs),(j=0\/1≤u)/\u+j≤n.natAbs/\Lib.decDigits n.natAbs=(if j=0 then Lib.decDigits u else Lib.decDigits u++tl)/\(j=0->tl=[])/\(ρ=[(0,.d (ab n)),(3,.d (ai (bs tl))),(4,aF .i64 (-(u:Int)))]\/ρ=[(0,.d (ab n)),(3,.d (ai (bs tl))),(4,aF .i64 (-(u:Int))),(18,ao false)])/\σ'=σ) n.natAbs ⟨n.natAbs,[],.inl rfl,by omega,by rw[if_pos rfl],fun _=>rfl,.inl rfl,rfl⟩ ?_ _;rintro j ρ' σ' hj ⟨u,tl,hu,huj,hd,htl,hρ,rfl⟩
 have hd':Lib.decDigits n.natAbs=Lib.decDigits u++tl:=by
  rw[hd];split
  .rename_i e;rw[htl e,List.append_nil]
  .rfl
 have htlen:tl.length≤1000:=by have:=congrArg List.length hd';rw[List.length_append]at this;omega
 have hrem:(-(u:Int)).tmod 10 = -((u%10:Nat):Int):=by rw[Int.neg_tmod];rfl
 have hquo:(-(u:Int)).tdiv 10 = -((u/10:Nat):Int):=by rw[TQ];rfl
 have hsub:IntKind.i64.wrap (48 - -((u%10:Nat):Int))=((48+u%10:Nat):Int):=by rw[aA (by omega) (by omega)];omega
 have hu8:IntKind.u8.wrap ((48+u%10:Nat):Int)=((48+u%10:Nat):Int):=by simp[IntKind.wrap,IntKind.bits,IntKind.signed];omega
 have hcb:∀τ:LLV,ub τ (.d (.sl [[.lit (.int .u8 ((48+u%10:Nat):Int))]]))=some (.d (ai (bs [UInt8.ofNat (48+u%10)]))):=fun _=>rfl;have hwq:IntKind.i64.wrap (-((u/10:Nat):Int)) = -((u/10:Nat):Int):=aA (by omega) (by omega);have hle:1+tl.length≤9223372036854775807:=by omega
 have e45:(⟨#[45]⟩:ByteArray)=bs [45]:=rfl;rcases hρ with rfl|rfl
 all_goals
  by_cases hz:u/10=0
  .have hz':(-((u/10:Nat):Int))=0:=by omega
   have hlast:Lib.decDigits n.natAbs=UInt8.ofNat (48+u%10)::tl:=by
    rw[hd',Lib.decDigits,dif_pos (by omega),show u%10=u by omega];rfl
   have hle2:1+(tl.length+1)≤9223372036854775807:=by omega
   simp -dsimp only[aw,seval,hrem,hquo,hsub,hu8,hcb,hwq,aG,gp,hle,decide_eq_true hz',TN];by_cases hn:n<0
   .simp -dsimp only[aw,seval,decide_eq_true hn,e45,aG,gp,hle2];have:Lib.itoa n=45::UInt8.ofNat (48+u%10)::tl:=by unfold Lib.itoa;rw[if_pos hn,hlast]
    rw[this];exact ak hb rfl rfl
   .simp -dsimp only[aw,seval,decide_eq_false hn];have:Lib.itoa n=UInt8.ofNat (48+u%10)::tl:=by unfold Lib.itoa;rw[if_neg hn,show n.toNat=n.natAbs by omega,hlast]
    rw[this];exact ak hb rfl rfl
  .have hz':¬(-((u/10:Nat):Int))=0:=by omega
   simp -dsimp only[aw,seval,hrem,hquo,hsub,hu8,hcb,hwq,aG,gp,hle,decide_eq_false hz',TN];refine⟨by omega,Nxt.same (T5 _) hb rfl ⟨u/10,UInt8.ofNat (48+u%10)::tl,.inr (by omega),by omega,?_,fun h=>by omega,.inr rfl,rfl⟩⟩;rw[if_neg (by omega),hd',Lib.decDigits,dif_neg (by omega),List.append_assoc];rfl
theorem eC{M:av}{bm:List Nat}{u v:Value}(h:Rep M bm (.d (.lit u)) v):v=u:=by
 cases h with
 | d h=>cases h with
 | lit _ _=>rfl
theorem qC{f:FuncId}{fn:Func}{a u:Value}{σ:LLV}(hf:Tryz.prog.funcs[f]? = some fn)(hn:(fn.name == "runtime.NumGoroutine")=false)(hb:fn.body.isNone=false)(hu:df u)
 (h:∀pr w,G.kept pr w->Calls Tryz.prog f #[a] w fun e w'=>e=.returned u/\Ext w w'):Fun G f [.d (.lit a)] σ (aN (.d (.lit u)) σ):=
 nW hf hn hb hu fun M bm pr w v hG hM h1=>by cases eC h1;exact h pr w hG.2
theorem rV{f:FuncId}{fn:Func}{a b u:Value}{σ:LLV}(hf:Tryz.prog.funcs[f]? = some fn)(hn:(fn.name == "runtime.NumGoroutine")=false)(hb:fn.body.isNone=false)(hu:df u)
 (h:∀pr w,G.kept pr w->Calls Tryz.prog f #[a,b] w fun e w'=>e=.returned u/\Ext w w'):Fun G f [.d (.lit a),.d (.lit b)] σ (aN (.d (.lit u)) σ):=
 uJ hf hn hb hu fun M bm pr w v v' hG hM h1 h2=>by cases eC h1;cases eC h2;exact h pr w hG.2
theorem nt{P:Program}{f:FuncId}{args:Array Value}{w:World}{u:Value}(h:Calls P f args w fun e w'=>e=.returned u/\w'=w):Calls P f args w fun e w'=>e=.returned u/\Ext w w':=
 h.mono fun e w' ⟨he,hw⟩=>⟨he,hw▸Ext.refl _⟩
theorem m4{n:Nat}(h:n≤9223372036854775807):df (.int .i64 n):=by
 simp only[df,IntKind.min,IntKind.max,IntKind.signed,IntKind.bits];omega
theorem BF(l:Bs)(hl:l.length≤9223372036854775807)(σ:LLV):Fun G 218 [.d (ai (bs l)),.d (ai ⟨#[10]⟩)] σ (aN (.d (ab (l.count 10:Nat))) σ):=
 rV Tryz.func218 (by kernel_rfl) (by kernel_rfl) (m4 (T6 T1 hl)) fun pr w _=>by
  have:=nt (Tryz.strings_Count_one (bs l) 10 w);rw[bz]at this;exact this
theorem mf(s p:Bs)(σ:LLV):Fun G 156 [.d (ai (bs s)),.d (ai (bs p))] σ (aN (.d (.lit (.bool (p.isPrefixOf s)))) σ):=
 rV Tryz.func156 (by kernel_rfl) (by kernel_rfl) trivial fun pr w _=>by
  have:=nt (Tryz.strings_HasPrefix (bs s) (bs p) w);rw[bz,bz]at this;exact this
theorem BL:∀c:Nat,c<128->decide (0≤Lib.indexByte [32,9,10] ((c:Int).toNat.toUInt8))=(c==32||c==9||c==10):=by decide
theorem rm(n:Int)(h0 : -9223372036854775808≤n)(h1:n≤9223372036854775807)(hs:(Lib.itoa n).length≤maxLen)(σ:LLV):Fun G 159 [.d (ab n)] σ (aN (.d (ai (bs (Lib.itoa n)))) σ):=
 qC Tryz.func159 (by kernel_rfl) (by kernel_rfl) (by show(bs (Lib.itoa n)).size≤maxLen;rw[aG];exact hs) fun pr w hk=>by
  obtain⟨-,cs,T,z,g1,rfl⟩:=hk 3 _ (by rfl);refine(Tryz.strconv_Itoa n h0 h1 w ?_).mono fun e w' ⟨he,k,os,hw⟩=>⟨he,?_⟩
  .have hg:Tryz.prog.globalNamed "internal/strconv.uint64pow10" = some 3:=by kernel_rfl
   simp only[Lib.TabIs,World.var?,hg,Option.bind_some,g1]
  .subst hw
   exact⟨rfl,rfl,rfl,by simp[Sort.grow,World.drewN],fun i hi=>by
    show((w.drewN k).heap++os)[i]? = _;rw[Array.getElem?_append_left (by show i<w.heap.size;omega)];rfl⟩
theorem nc(l:Bs)(v:Int)(hl:l.length≤9223372036854775806)(hp:Lib.parseIntB 64 l=.ok v)(hv:df (.int .i64 v))(σ:LLV):Fun G 220 [.d (ai (bs l)),.d (ab 10),.d (ab 64)] σ (aN (.tup [.d (ab v),.d (.lit .nilIface)]) σ):=
 qn Tryz.func220 (by kernel_rfl) (by kernel_rfl) (fun T k rows e=>by cases e) fun M bm pr w vs hG hM hl' hr=>by
  match vs,hl' with
  | [a,b,c],_=>
  have e1:=eC (hr 0 (by simp) (by simp));have e2:=eC (hr 1 (by simp) (by simp));have e3:=eC (hr 2 (by simp) (by simp));simp only[TX,TY]at e1 e2 e3;subst e1 e2 e3;refine(Tryz.strconv_ParseInt_10_at64_ok (bs l) (by rw[aG];exact hl) v (by rw[bz];exact hp) w).mono fun e w' ⟨he,hw⟩=>⟨_,he,?_,?_⟩
  .rcases hw with rfl|⟨t,rfl⟩
   .exact Ext.refl _
   .exact Lib.bytesWorld_below _ _ _
  .refine .tup (vs:=[_,_]) rfl fun i g g'=>?_
   match i with
   | 0=>exact .d (.lit _ hv)
   | 1=>exact .d (.lit _ trivial)
theorem j8(l:Bs)(hl:l.length≤281474976710656)(hp:Lib.parseIntB 64 l=.range)(σ:LLV):Fun G 220 [.d (ai (bs l)),.d (ab 10),.d (ab 64)] σ (aN (.tup [.junk,.iface 264 .junk]) σ):=
 qn Tryz.func220 (by kernel_rfl) (by kernel_rfl) (fun T k rows e=>by cases e) fun M bm pr w vs hG hM hl' hr=>by
  match vs,hl' with
  | [a,b,c],_=>
  have e1:=eC (hr 0 (by simp) (by simp));have e2:=eC (hr 1 (by simp) (by simp));have e3:=eC (hr 2 (by simp) (by simp));simp only[TX,TY]at e1 e2 e3;subst e1 e2 e3;obtain⟨-,cs,T,z,g1,t,x,g2⟩:=hG.2 5 _ (by rfl);refine(Tryz.strconv_ParseInt_10_at64_range (bs l) (by rw[aG];exact hl) (by rw[bz];exact hp) (.iface t x) w (by simp[World.cell?,g1,g2]) (.inr ⟨_,_,rfl⟩)).mono fun e w' ⟨N,he,h1,h2,h3⟩=>⟨_,he,h3,?_⟩
  refine .tup (vs:=[_,_]) rfl fun i g g'=>?_
  match i with
  | 0=>exact .junk _
  | 1=>exact .iface (.junk _)
theorem Gt(l:List ByteArray)(hn:l.length≤140737488355328)(hlen:(Lib.join (l.map (·.data.toList)) [32]).length≤140737488355328)(σ:LLV):
 Fun G 244 [.d (cV l),.d (ai ⟨#[32]⟩)] σ (aN (.d (ai (bs (Lib.join (l.map (·.data.toList)) [32])))) σ):=
 uJ Tryz.func244 (by kernel_rfl) (by kernel_rfl) (by show(bs _).size≤maxLen;rw[aG];unfold maxLen;omega) fun M bm pr w v v' hG hM h1 h2=>by
  cases eC h2;obtain⟨p,cap,rfl,g1,g2,g3⟩:=mH hM h1;by_cases h0:l=[]
  .subst h0;exact nt (Tryz.strings_Join_none p cap ⟨#[32]⟩ w)
  .have hp:0<l.length:=List.length_pos_iff.2 h0;obtain⟨b,off,rfl,g4⟩:=g3 0 (l[0]'hp) (TR hp);refine Tryz.strings_Join b off cap l ⟨#[32]⟩ w (fun j x hj=>?_) (Lib.lt_of_cell g4) hn g1 hlen;obtain⟨b',off',e,g5⟩:=g3 j x hj;cases e;exact g5
theorem Dm:ByteP inn dV:=⟨fun b hb=>rfl,false,fun c h=>lD h,fun b hb=>lD (by omega)⟩
theorem FI:ByteP dig dG:=⟨fun b hb=>rfl,false,fun c h=>by simp only[dG,TK,decide_eq_false_iff_not];omega,fun b hb=>by simp only[dig,dG,TK,decide_eq_false_iff_not];omega⟩
theorem C3:ByteP (fun b=>b != 10) (fun c=>decide (c≠10)):=by
 refine⟨fun b hb=>?_,true,fun c h=>by simp;omega,fun b hb=>?_⟩
 .rw[TL];simp only[ne_eq,decide_eq_true_eq,bne_iff_ne];refine not_congr ⟨fun h=>UInt8.toNat_inj.1 (by show b.toNat=10;omega),fun h=>by rw[h];rfl⟩
 .simp only[bne_iff_ne,ne_eq];intro e;rw[e]at hb;revert hb;decide
theorem BV(c:Int)(w:World):Calls Tryz.prog 168 #[.int .i32 c] w fun e w'=>e=.returned (.bool (decide (c≠10)))/\w=w':=by
 go_enter Tryz.func168,Tryz.ntmps168;go_wp2_with fail;go_ret;exact⟨aV (by by_cases h:c=10<;>simp[h]),rfl⟩
theorem qG{F:FuncId}{q:UInt8->Bool}{p:Int->Bool}(hq:ByteP q p)(hF:∀args w,(callFunc F args).run Tryz.prog w=.ok (.enter F args) w)
 (H:∀(c:Int) (w:World),Calls Tryz.prog F #[.int .i32 c] w fun e w'=>e=.returned (.bool (p c))/\w=w')(l:Bs)(hl:l.length≤9223372036854775807)(σ:LLV):
 Fun G 167 [.d (ai (bs l)),.fn F []] σ (aN (.d (ab (l.takeWhile q).length)) σ):=
 uJ Tryz.func167 (by kernel_rfl) (by kernel_rfl) (m4 (T6 (T0 _).length_le hl)) fun M bm pr w v v' hG hM h1 h2=>by
  cases eC h1;cases h2 with
  | @fn _ _ vs hl' h=>
  have:vs=[]:=List.eq_nil_of_length_eq_zero hl';subst this;have:=Gr F #[] q p hq hF (fun c w=>H c w) (bs l) w (by rw[aG];exact hl);rw[bz]at this;exact this
theorem rP(l:Bs)(hl:l.length≤9223372036854775807)(σ:LLV):Fun G 167 [.d (ai (bs l)),.fn 200 []] σ (aN (.d (ab (l.takeWhile inn).length)) σ):=
 qG Dm (bP (P:=Tryz.prog) Tryz.func200 (by kernel_rfl) (by kernel_rfl)) gU l hl σ
theorem Dj(l:Bs)(hl:l.length≤9223372036854775807)(σ:LLV):Fun G 167 [.d (ai (bs l)),.fn 172 []] σ (aN (.d (ab (l.takeWhile dig).length)) σ):=
 qG FI (bP (P:=Tryz.prog) Tryz.func172 (by kernel_rfl) (by kernel_rfl)) f6 l hl σ
theorem CJ(l:Bs)(hl:l.length≤9223372036854775807)(σ:LLV):Fun G 167 [.d (ai (bs l)),.fn 168 []] σ (aN (.d (ab (l.takeWhile (· != 10)).length)) σ):=
 qG C3 (bP (P:=Tryz.prog) Tryz.func168 (by kernel_rfl) (by kernel_rfl)) BV l hl σ
theorem xN(c:Nat)(h1:128≤c)(h2:c<256):∃x y:UInt8,Utf8.encode c=⟨#[x,y]⟩/\128≤y.toNat:=by
 refine⟨UInt8.ofNat (192+c/64),UInt8.ofNat (128+c%64),?_,?_⟩
 .have hv:Utf8.valid (c:Int)=true:=by simp only[Utf8.valid];simp;omega
  unfold Utf8.encode;simp only[hv,if_true,Int.toNat_natCast,show ¬c<128 by omega,if_false,show c<2048 by omega]
 .rw[UInt8.toNat_ofNat'];omega
theorem rY(c:Nat)(h1:128≤c)(h2:c<256)(w:World):Calls Tryz.prog 219 #[.string ⟨#[32,9,10]⟩,.int .i32 c] w fun e w'=>e=.returned (.int .i64 (-1))/\Ext w w':=by
 obtain⟨x,y,he,hy⟩:=xN c h1 h2;have n1:(decide ((c:Int)<128))=false:=by simp;omega
 have n2:((c:Int)==65533)=false:=by simp;omega
 have n3:Lib.validRune (c:Int)=true:=by simp[Lib.validRune];omega
 have n4:((9:Int)==((y.toNat:Nat):Int))=false:=by simp;omega
 have n5:Lib.indexByte [10] ((y.toNat:Int).toNat.toUInt8) = -1:=by
  have:(10:UInt8)≠y:=by intro e;rw[<-e]at hy;revert hy;decide
  have e:(y.toNat:Int).toNat.toUInt8=y:=by simp
  rw[e];simp[Lib.indexByte,this]
 go_enter Tryz.func219,Tryz.ntmps219;go_wp2_with (first|(go_at_call 249;refine(Tryz.utf8_ValidRune _ _).mono ?_;rintro e w' ⟨rfl,rfl⟩)|(go_at_call 248;refine(Tryz.strings_IndexByte _ _ _).mono ?_;rintro e w' ⟨rfl,rfl⟩));refine wp_scope_straight ?_;go_wp2_with (first|(go_at_call 249;refine(Tryz.utf8_ValidRune _ _).mono ?_;rintro e w' ⟨rfl,rfl⟩)|(go_at_call 248;refine(Tryz.strings_IndexByte _ _ _).mono ?_;rintro e w' ⟨rfl,rfl⟩));go_loop [9,10,11,12] (fun i j k l=>i=.int .i64 1) (fun i j k l=>0);case atStart=>rfl
 case round=>
  subst hrel;go_wp2_with (first|(go_at_call 249;refine(Tryz.utf8_ValidRune _ _).mono ?_;rintro e w' ⟨rfl,rfl⟩)|(go_at_call 248;refine(Tryz.strings_IndexByte _ _ _).mono ?_;rintro e w' ⟨rfl,rfl⟩));refine wp_scope_straight ?_;go_wp2_with (first|(go_at_call 249;refine(Tryz.utf8_ValidRune _ _).mono ?_;rintro e w' ⟨rfl,rfl⟩)|(go_at_call 248;refine(Tryz.strings_IndexByte _ _ _).mono ?_;rintro e w' ⟨rfl,rfl⟩))
  have n6:∀(h1:1<(⟨#[32,9,10]⟩:ByteArray).size) (h2:1<(⟨#[x,y]⟩:ByteArray).size),((((⟨#[32,9,10]⟩:ByteArray)[1]'h1).toNat:Int) != (((⟨#[x,y]⟩:ByteArray)[1]'h2).toNat:Int))=true:=fun h1 h2=>by
   have a1:(⟨#[32,9,10]⟩:ByteArray)[1]'h1=9:=rfl;have a2:(⟨#[x,y]⟩:ByteArray)[1]'h2=y:=rfl;rw[a1,a2,bne,show(((9:UInt8).toNat:Int)==(y.toNat:Int))=false from n4];rfl
  have n7:∀(h2:1<(⟨#[x,y]⟩:ByteArray).size),Lib.indexByte [10] ((⟨#[x,y]⟩:ByteArray)[1]'h2) = -1:=fun h2=>by
   have a2:(⟨#[x,y]⟩:ByteArray)[1]'h2=y:=rfl;rw[a2];have e:(y.toNat:Int).toNat.toUInt8=y:=by simp
   rw[e]at n5;exact n5
  go_region;go_wp2_with fail;go_region_with (first|(go_at_call 248;refine(Tryz.strings_IndexByte _ _ _).mono ?_;rintro e w' ⟨rfl,rfl⟩));all_goals (go_wp2_with fail)
  all_goals (rw[Exit.noGoto_ret];go_wp2_with fail)
  all_goals (rw[Exit.noGoto_ret];go_wp2_with fail;go_ret;exact⟨rfl,(Ext.refl _).drew.drew⟩)
theorem nf(c:Nat)(h1:128≤c)(h2:c<256)(w:World):Calls Tryz.prog 169 #[.string ⟨#[32,9,10]⟩,.int .i32 c] w fun e w'=>e=.returned (.bool false)/\Ext w w':=by
 go_enter Tryz.func169,Tryz.ntmps169;go_wp2_with (go_at_call 219;refine(rY c h1 h2 _).mono ?_;rintro e w' ⟨rfl,hx⟩);go_ret;exact⟨rfl,hx⟩
theorem DB(l:Bs)(n:Nat)(h:n≤l.length):mC true 0 (V.d (ai (bs l))) none (some (V.d (ab n)))=some (V.d (ai (bs (l.take n)))):=by
 simp[mC,eR,xU,aG,h,I2]
theorem Lb(l:Bs)(n:Nat)(h:n≤l.length):mC true 0 (V.d (ai (bs l))) (some (V.d (ab n))) none=some (V.d (ai (bs (l.drop n)))):=by
 have:=Hz l n;rw[aG]at this;simp[mC,eR,xU,aG,h,this]
theorem ut:decide (bs []=({data := #[]}:ByteArray))=true:=by rw[decide_eq_true_eq];rfl
theorem yC(c:UInt8)(r:Bs):decide (bs (c::r)=({data := #[]}:ByteArray))=false:=by
 rw[decide_eq_false_iff_not];intro h;have h2:=uY.1 (h:bs (c::r)=bs []);cases h2
theorem lU(c:UInt8)(r:Bs):ixV (V.d (ai (bs (c::r)))) (V.d (.lit (.int .i64 0)))=some (aF .u8 c.toNat):=by simp[ixV,bz]
theorem FP(n:Nat)(h:n<256):IntKind.i32.wrap (n:Int)=n:=by
 simp[IntKind.wrap,IntKind.bits,IntKind.signed];split<;>omega
theorem C5(c:UInt8):(c.toNat==32||c.toNat==9||c.toNat==10)=xO c:=by
 rw[TL];simp[xO,<-UInt8.toNat_inj]
theorem vB(q:UInt8->Bool):∀l:Bs,l.drop (l.takeWhile q).length=l.dropWhile q
 | []=>rfl
 | a::r=>by
  by_cases h:q a=true
  .rw[TV h,List.dropWhile_cons_of_pos h,List.length_cons,List.drop_succ_cons,vB q r]
  .rw[List.takeWhile_cons_of_neg h,List.dropWhile_cons_of_neg h];rfl
def rd(l:Bs)(n:Int):List V:=[.d (ai (bs l)),.d (ab n)]
theorem bq{k:Nat}{σ:LLV}{cs:List V}{i:Nat}(h:am k σ=true)(hc:V.unders k cs=true):am k (σ.set i cs)=true:=by
 unfold am at h ⊢;rw[List.all_eq_true]at h ⊢;intro x hx;rcases List.mem_or_eq_of_mem_set hx with h1|rfl
 .exact h x h1
 .exact hc
theorem bp{σ σ' τ:LLV}{ρ:aj}{rs:List RV}{Q:Out->LLV->Prop}(hb:am σ.length τ=true){v:V}(h:aC σ' ρ rs=some v)(hv:V.under σ.length v=true)(hσ:σ'.take σ.length=τ)(hq:Q (.ret v) τ):fin σ.length rs Q .ret ρ σ':=
 ⟨ρ,σ',.refl _ _ _,v,h,σ.length,T5 _,by rw[hσ];exact hb,hv,by rw[hσ];exact hq⟩
theorem dm{C:Cx}{f:FuncId}{args:List V}{σ τ:LLV}{v:V}{K P:V->LLV->Prop}{s:Tag K}{t:Tag P}(h:Fun C f args σ fun o σ'=>o=.ret v/\σ'=τ)(hk:K v τ):fk C f args σ K P s t:=
 h.mono fun o σ' ⟨e1,e2⟩=>by subst e1;subst e2;exact hk
def rdr(T:Int)(l:Bs):List V:=rd l (T-(l.count 10:Nat))
theorem kC(T:Int)(l:Bs)(n i:Nat)(hn:n≤l.length)(hl:l.length≤1200000)(h0:0≤T)(h1:T≤1000000000)(σ:LLV)(hi:σ[i]? = some (rdr T l)):
 Fun G 166 [.ptr i 0,.d (ab n)] σ fun o σ'=>o=.ret (.d (ai (bs (l.take n))))/\σ'=σ.set i (rdr T (l.drop n)):=by
 have hlt:i<σ.length:=(List.getElem?_eq_some_iff.1 hi).1;have hcl:(l.count 10:Nat)=(l.take n).count 10+(l.drop n).count 10:=by rw[<-List.count_append,TZ]
 have hc2:l.count 10≤l.length:=T1;refine ae Tryz.func166 Tb rfl fun hb hw=>?_;unfold L1;unfold rdr rd at hi;have hi':(σ.set i [.d (ai (bs (l.drop n))),.d (ab (T-(l.count 10:Nat)))])[i]? = some [.d (ai (bs (l.drop n))),.d (ab (T-(l.count 10:Nat)))]:=by simp[hlt]
 simp -dsimp only[aw,seval,hi,DB l n hn,Lb l n hn,hi'];refine bo (BF _ (by rw[List.length_take];omega) _) ?_;simp -dsimp only[aw,seval,hi'];rw[aA (by omega) (by omega),TW,show T-(l.count 10:Nat)+((l.take n).count 10:Nat)=T-((l.drop n).count 10:Nat)by omega];exact bp (τ:=σ.set i (rdr T (l.drop n))) (bq hb rfl) rfl rfl (by rw[TS (by rw[TT];exact T5 _)];rfl) ⟨rfl,rfl⟩
theorem xq(c:Nat)(hc:c<256)(σ:LLV):Fun G 169 [.d (ai ⟨#[32,9,10]⟩),.d (.lit (.int .i32 c))] σ (aN (.d (.lit (.bool (c==32||c==9||c==10)))) σ):=
 rV Tryz.func169 (by kernel_rfl) (by kernel_rfl) trivial fun pr w _=>by
  by_cases h:c<128
  .have:=nt (Tryz.strings_ContainsRune_ascii ⟨#[32,9,10]⟩ c w (by omega) (by omega));rw[<-BL c h];exact this
  .have e:(c==32||c==9||c==10)=false:=by simp;omega
   rw[e];exact nf c (by omega) hc w
theorem wZ(T:Int)(l:Bs)(i:Nat)(hl:l.length≤1200000)(h0:0≤T)(h1:T≤1000000000)(σ:LLV)(hi:σ[i]? = some (rdr T l)):
 Fun G 115 [.ptr i 0] σ fun o σ'=>o=.ret (.tup [])/\σ'=σ.set i (rdr T (bE l)):=by
 have hlt:i<σ.length:=(List.getElem?_eq_some_iff.1 hi).1;have hset:∀X:List V,(σ.set i X)[i]? = some X:=fun X=>by simp[hlt]
 have hself:σ.set i (rdr T l)=σ:=by rw[<-List.getElem?_eq_some_iff.1 hi |>.2];exact List.set_getElem_self hlt
 refine ae Tryz.func115 Rj rfl fun hb hw=>?_;unfold Oi;simp -dsimp only[aw,seval];refine eJ (R:=fun(j:Nat) ρ σ'=>∃r:Bs,bE r=bE l/\r.length+j≤l.length/\ρ=[(0,.ptr i 0)]/\σ'=σ.set i (rdr T r)) (l.length+1) ⟨l,rfl,by omega,rfl,hself.symm⟩ ?_ _;rintro j ρ' σ' hj ⟨r,hr,hrl,rfl,rfl⟩;have hset':=hset (rdr T r);have hset2:=hset';unfold rdr rd at hset2;simp -dsimp only[aw,seval,hset2,rdr,rd];refine ac (mf r [47,47] _) ?_
 have next:∀r2:Bs,bE r2=bE l->r2.length<r.length->j<l.length+1/\Nxt σ.length (fun ρ σ'=>∃r,bE r=bE l/\r.length+(j+1)≤l.length/\ρ=[(0,V.ptr i 0)]/\σ'=σ.set i (rdr T r)) [(0,.ptr i 0)] (σ.set i (rdr T r2)) .mk:=fun r2 h2 h3=>
  ⟨by omega,Nxt.same (by simp) (by rw[TT];exact bq hb rfl) (by simp[an,V.under,hlt]) ⟨r2,h2,by omega,rfl,rfl⟩⟩
 cases hpre:([47,47]:Bs).isPrefixOf r with
 | true=>
  obtain⟨r2,hr2⟩:=List.isPrefixOf_iff_prefix.1 hpre;have hdw:r.drop (r.takeWhile (· != 10)).length=r.dropWhile (· != 10):=vB _ r
  have hsk:bE r=bE (r.dropWhile (· != 10)):=by
   subst hr2;rw[T4,dP,if_neg (by decide),if_pos ⟨rfl,rfl⟩]
  have htw:(r.takeWhile (· != 10)).length≤r.length:=(T0 _).length_le
  have htp:1≤(r.takeWhile (· != 10)).length:=by
   subst hr2;rw[T4,TV (by decide)];simp
  simp -dsimp only[aw,seval,hset2];refine ac (CJ r (by omega) _) ?_;simp -dsimp only[aw,seval];refine dm (kC T r _ i htw (by omega) h0 h1 _ hset2) ?_;rw[TW];simp -dsimp only[aw,seval];exact next _ (by rw[hdw,<-hsk,hr]) (by rw[List.length_drop];omega)
 | false=>
  match r with
  | []=>
   simp -dsimp only[aw,seval,hset2,ut];rw[gx]at hr;exact bp (τ:=σ.set i (rdr T [])) (bq hb rfl) rfl rfl (by rw[TS (by rw[TT];exact T5 _)];rfl) ⟨rfl,by rw[<-hr]⟩
  | c::r2=>
   simp -dsimp only[aw,seval,hset2,yC,lU];have hc:c.toNat<256:=c.toNat_lt;rw[FP _ hc];refine ac (xq c.toNat hc _) ?_;rw[C5];cases hbl:xO c with
   | true=>
    simp -dsimp only[aw,seval,hset2];refine dm (kC T (c::r2) 1 i (by simp) (by omega) h0 h1 _ hset2) ?_;rw[TW];simp -dsimp only[aw,seval];exact next r2 (by rw[<-hr,dP,if_pos hbl]) (by simp)
   | false=>
    simp -dsimp only[aw,seval,hset2]
    have hs:bE (c::r2)=c::r2:=by
     rw[dP,if_neg (by rw[hbl];decide),if_neg];rintro⟨rfl,h⟩
     match r2,h with
     | d::r3,h=>
      simp only[List.head?_cons,Option.some.injEq]at h;subst h;simp at hpre
    exact bp (τ:=σ.set i (rdr T (c::r2))) (bq hb rfl) rfl rfl (by rw[TS (by rw[TT];exact T5 _)];rfl) ⟨rfl,by rw[<-hr,hs]⟩
end Go.Proofs.YtnhphlmblenapaaGreatDoor
