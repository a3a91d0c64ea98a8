import Derived.Scope
import Derived.Test.YtnhphlmblenapaaGreatDoorRef7
set_option linter.unusedVariables false
set_option linter.unusedSimpArgs false
set_option linter.unusedSectionVars false
set_option maxRecDepth 1200000
set_option maxHeartbeats 2000000
open Bool renaming false_and->Sq,and_eq_false_iff->Ss,eq_iff_iff->Su,true_and->Sv
open Int renaming reduceEq->Sw,ofNat_lt->Sx,tdiv_eq_ediv_of_nonneg->Sy,neg_tdiv->SA
open List renaming getElem?_eq_getElem->SB,take_of_length_le->SC,length_set->SD,take_length->SE,takeWhile_cons_of_pos->SF,set_set->SG,getElem_cons_zero->SH,getElem_cons_succ->SI,take_append_drop->SJ,takeWhile_prefix->SK,count_le_length->SL,foldl_append->SM,cons_append->SN
open Nat renaming le_refl->SO,le_trans->SP
namespace Go.Proofs.YtnhphlmblenapaaGreatDoor
open Go.RowKit
def ovV(x:Int):V:=if -9223372036854775808≤x/\x≤9223372036854775807 then .tup [.d (ab x),.d (ab 0)]else .tup [.d (ab 0),.d (ab 3)]
theorem gQ{x:Int}(h1 : -9223372036854775808≤x)(h2:x≤9223372036854775807):ovV x=.tup [.d (ab x),.d (ab 0)]:=if_pos ⟨h1,h2⟩
theorem lQ{x:Int}(h:x < -9223372036854775808\/9223372036854775807<x):ovV x=.tup [.d (ab 0),.d (ab 3)]:=if_neg (by omega)
theorem vU(n:Int)(h0 : -9223372036854775808≤n)(h1:n≤9223372036854775807)(σ:LLV):Fun G 232 [.d (ab n)] σ (aN (.d (ab (-(n.natAbs:Int)))) σ):=by
 refine ae Tryz.func232 QL rfl fun hb hw=>?_;unfold c232;by_cases h:0<n
 .have w:IntKind.i64.wrap (0-n) = -(n.natAbs:Int):=by rw[aA (by omega) (by omega)];omega
  simp -dsimp only[aw,seval,decide_eq_true h,w];first|exact al hb rfl rfl|exact am hb rfl rfl
 .have w:n = -(n.natAbs:Int):=by omega
  simp -dsimp only[aw,seval,decide_eq_false h];rw[<-w];first|exact al hb rfl rfl|exact am hb rfl rfl
theorem xf(x:Int)(h0 : -18446744073709551616≤x)(h1:x≤18446744073709551616):(-9223372036854775808≤x/\x≤9223372036854775807/\IntKind.i64.wrap x=x)\/(x < -9223372036854775808/\IntKind.i64.wrap x=x+18446744073709551616)\/(9223372036854775807<x/\IntKind.i64.wrap x=x-18446744073709551616):=by
 by_cases a:x < -9223372036854775808
 .exact .inr (.inl ⟨a,by simp[IntKind.wrap,IntKind.bits,IntKind.signed];split<;>omega⟩)
 .by_cases b:9223372036854775807<x
  .exact .inr (.inr ⟨b,by simp[IntKind.wrap,IntKind.bits,IntKind.signed];split<;>omega⟩)
  .exact .inl ⟨by omega,by omega,aA (by omega) (by omega)⟩
theorem AW(a b:Int)(ha : -9223372036854775808≤a)(ha':a≤9223372036854775807)(hb' : -9223372036854775808≤b)(hb2:b≤9223372036854775807)(σ:LLV):Fun G 258 [.d (ab a),.d (ab b)] σ (aN (ovV (a+b)) σ):=by
 refine ae Tryz.func258 QS rfl fun hb hw=>?_;unfold Pd;have hc:=xf (a+b) (by omega) (by omega);simp -dsimp only[aw,seval];generalize IntKind.i64.wrap (a+b)=s at hc ⊢;by_cases h1:0<a<;>by_cases h2:0<b<;>by_cases h3:s<0<;>by_cases h4:a<0<;>by_cases h5:b<0<;>by_cases h6:0≤s<;>try (exfalso;omega)
 all_goals
  simp -dsimp only[aw,seval,h1,h2,h3,h4,h5,h6,decide_true,decide_false]
  first
   | (rw[lQ (by omega)];exact az hb rfl rfl SE ⟨rfl,rfl⟩)
   | (rw[gQ (by omega) (by omega),show a+b=s by omega];exact az hb rfl rfl SE ⟨rfl,rfl⟩)
theorem nK(a b:Int)(ha : -9223372036854775808≤a)(ha':a≤9223372036854775807)(hb' : -9223372036854775808≤b)(hb2:b≤9223372036854775807)(σ:LLV):Fun G 230 [.d (ab a),.d (ab b)] σ (aN (ovV (a-b)) σ):=by
 refine ae Tryz.func230 P7 rfl fun hb hw=>?_;unfold Pg;by_cases h:b = -9223372036854775808
 .by_cases h1:0≤a
  .simp -dsimp only[aw,seval,decide_eq_true h,decide_eq_true h1];rw[lQ (by omega)];first|exact al hb rfl rfl|exact am hb rfl rfl
  .simp -dsimp only[aw,seval,decide_eq_true h,decide_eq_false h1,aA (show -9223372036854775808≤a-b by omega) (by omega)];rw[gQ (by omega) (by omega)];first|exact al hb rfl rfl|exact am hb rfl rfl
 .simp -dsimp only[aw,seval,decide_eq_false h,aA (show -9223372036854775808≤0-b by omega) (by omega)];refine ac (AW a (0-b) ha ha' (by omega) (by omega) _) ?_;rw[show a+(0-b)=a-b by omega];by_cases hr : -9223372036854775808≤a-b/\a-b≤9223372036854775807
  .rw[gQ hr.1 hr.2];simp -dsimp only[aw,seval];first|exact al hb rfl rfl|exact am hb rfl rfl
  .rw[lQ (by omega)];simp -dsimp only[aw,seval];first|exact al hb rfl rfl|exact am hb rfl rfl
theorem CI(x:Int)(h:x≤0):x.tdiv 10 = -((-x)/10):=by
 have:x = -((-x)):=by omega
 rw[this,SA,Sy (by omega)];simp
theorem wC(a:Int)(ha : -9223372036854775808≤a)(ha':a≤0)(σ:LLV):Fun G 229 [.d (ab a),.d (ab 10)] σ (aN (ovV (a*10)) σ):=by
 refine ae Tryz.func229 QJ rfl fun hb hw=>?_;unfold OZ;by_cases h0:a=0
 .subst h0;simp -dsimp only[aw,seval,Sw,decide_true,decide_false];rw[gQ (by omega) (by omega)];first|exact al hb rfl rfl|exact am hb rfl rfl
 .by_cases hr : -9223372036854775808≤a*10
  .have w:=aA hr (by omega);have hd:(a*10).tdiv 10=a:=by rw[CI _ (by omega)];omega
   have w2:=aA ha (show a≤9223372036854775807 by omega);rw[gQ hr (by omega)];by_cases h1:a = -1
   .simp -dsimp only[aw,seval,decide_eq_false h0,w,hd,decide_eq_true h1,w2,Sw,decide_true,decide_false];first|exact al hb rfl rfl|exact am hb rfl rfl
   .simp -dsimp only[aw,seval,decide_eq_false h0,w,hd,decide_eq_false h1,w2,Sw,decide_true,decide_false];first|exact al hb rfl rfl|exact am hb rfl rfl
  .rw[lQ (by omega)];have h1:¬a = -1:=by omega
   have hp : -9223372036854775808≤IntKind.i64.wrap (a*10)/\IntKind.i64.wrap (a*10)≤9223372036854775807:=by
    simp only[IntKind.wrap,IntKind.bits,IntKind.signed];simp;split<;>omega
   have hd:¬IntKind.i64.wrap ((IntKind.i64.wrap (a*10)).tdiv 10)=a:=by
    generalize IntKind.i64.wrap (a*10)=p at hp;by_cases hp0:p≤0
    .rw[CI p hp0,aA (by omega) (by omega)];omega
    .rw[Sy (by omega),aA (by omega) (by omega)];omega
   simp -dsimp only[aw,seval,decide_eq_false h0,decide_eq_false h1,decide_eq_false hd,Sw,decide_true,decide_false];first|exact al hb rfl rfl|exact am hb rfl rfl
theorem um(l:Bs)(hl:l.length≤1200000)(σ:LLV):Fun G 228 [.d (aj (bs l))] σ (aN (.d (.lit (.bool (l.all dig&&decide (0<l.length))))) σ):=by
 refine ae Tryz.func228 RY rfl fun hb hw=>?_;unfold LG;simp -dsimp only[aw,seval];refine eu (R:=fun(j:Nat) ρ σ'=>ρ=[(0,.d (aj (bs l))),(3,aK .i64 j)]/\σ'=σ/\l.all dig=(l.drop j).all dig) l.length ⟨rfl,rfl,rfl⟩ ?_ _;rintro j ρ' σ' hj ⟨rfl,rfl,hr⟩;by_cases hlt:j<l.length
 .have hd:(l.drop j).all dig=(dig l[j]&&(l.drop (j+1)).all dig):=by rw[List.drop_eq_getElem_cons hlt];rfl
  have hdg:dig l[j]=(decide (48≤(l[j].toNat:Int))&&decide ((l[j].toNat:Int)≤57)):=rfl;by_cases h1:(l[j].toNat:Int)<48
  .simp -dsimp only[aw,seval,aE,Sx,hlt,decide_true,bu,SB hlt,cj,decide_eq_true h1];rw[hd,hdg,decide_eq_false (by omega),Sq,Sq]at hr;rw[hr];first|exact al hb rfl rfl|exact am hb rfl rfl
  .by_cases h2:57<(l[j].toNat:Int)
   .simp -dsimp only[aw,seval,aE,Sx,hlt,decide_true,bu,SB hlt,cj,decide_eq_false h1,decide_eq_true h2];rw[hd,hdg,decide_eq_false (p:=(l[j].toNat:Int)≤57) (by omega),Bool.and_false,Sq]at hr;rw[hr];first|exact al hb rfl rfl|exact am hb rfl rfl
   .simp -dsimp only[aw,seval,aE,Sx,hlt,decide_true,bu,SB hlt,cj,decide_eq_false h1,decide_eq_false h2,aT hlt (show l.length≤9223372036854775807 by omega)];rw[hd,hdg,decide_eq_true (p:=(l[j].toNat:Int)≤57) (by omega),decide_eq_true (p:=48≤(l[j].toNat:Int)) (by omega),Sv,Sv]at hr;exact Nxt.same (SO _) hb rfl ⟨rfl,rfl,hr⟩
 .simp -dsimp only[aw,seval,aE,Sx,hlt,decide_false];rw[List.drop_eq_nil_of_le (by omega)]at hr;rw[hr];have e0:decide ((0:Int)<((l.length:Nat):Int))=decide (0<l.length):=by rw[decide_eq_decide];omega
  rw[e0];first|exact al hb rfl rfl|exact am hb rfl rfl
theorem AY(l:Bs)(c:UInt8)(acc:Nat):qr acc (l++[c])=10*qr acc l+(c.toNat-48):=by unfold qr;rw[SM];rfl
theorem AN{l:Bs}{j:Nat}(h:j<l.length):ci (l.take (j+1))=10*ci (l.take j)+(l[j].toNat-48):=by
 rw[List.take_add_one,SB h];exact AY _ _ 0
theorem AR(l:Bs)(j:Nat):ci (l.take j)≤ci l:=by
 have:ci l=qr (ci (l.take j)) (l.drop j):=by
  conv=>lhs;rw[<-SJ j l]
  unfold ci qr;rw[SM]
 rw[this];exact tL _ _
def nT(c:UInt8)(l:Bs):V:=if l.all dig=false\/(1<l.length/\c=48)then .tup [.d (ab 0),.d (ab 5)]else if 9223372036854775807<ci l then .tup [.d (ab 0),.d (ab 3)]else .tup [.d (ab (ci l:Nat)),.d (ab 0)]
theorem uL(c:UInt8)(r l:Bs)(he:l=c::r)(hc:dig c=true)(hl:l.length≤1200000)(σ:LLV):Fun G 190 [.d (aj (bs l))] σ (aN (nT c l) σ):=by
 have hix:ixV (V.d (aj (bs l))) (V.d (.lit (.int .i64 0)))=some (aK .u8 c.toNat):=by rw[he];simp[ixV,bu]
 have hlp:0<l.length:=by rw[he];simp
 have hlp':(0:Int)<((l.length:Nat):Int):=by omega
 have h45:(c==45)=false:=by
  rw[beq_eq_false_iff_ne];intro e;subst e;revert hc;decide
 refine ae Tryz.func190 Rz rfl fun hb hw=>?_;unfold OO;simp -dsimp only[aw,seval,aE,decide_eq_true hlp',hix,Nx,h45];refine ac (um l hl _) ?_;rw[decide_eq_true hlp,Bool.and_true];cases hall:l.all dig with
 | false=>
  simp -dsimp only[aw,seval];unfold nT;rw[if_pos (.inl hall)];first|exact al hb rfl rfl|exact am hb rfl rfl
 | true=>
  have hds:∀x,x∈l->dig x=true:=fun x hx=>List.all_eq_true.1 hall x hx;have h48:decide (bs l=(⟨#[48]⟩:ByteArray))=decide (l=[48]):=tI l [48];by_cases hlead:1<l.length/\c=48
  .have hne:¬l=[48]:=by rintro rfl;simp at hlead
   simp -dsimp only[aw,seval,hix,Ew,beq_iff_eq.2 hlead.2,h48,decide_eq_false hne];unfold nT;rw[if_pos (.inr hlead)];first|exact al hb rfl rfl|exact am hb rfl rfl
  .have hR:nT c l=if 9223372036854775807<ci l then .tup [.d (ab 0),.d (ab 3)]else .tup [.d (ab (ci l:Nat)),.d (ab 0)]:=by
    unfold nT;rw[if_neg (by rw[hall];simpa using hlead)]
   have hcond:(c==48)=false\/((c==48)=true/\l=[48]):=by
    by_cases h:c=48
    .refine .inr ⟨by simp[h],?_⟩
     have:r=[]:=by
      cases r with
      | nil=>rfl
      | cons a r=>exact absurd ⟨by rw[he];simp,h⟩ hlead
     rw[he,this,h]
    .exact .inl (by simpa using h)
   rw[hR];rcases hcond with h|⟨h,h2⟩
   all_goals
    first
     | simp -dsimp only[aw,seval,hix,Ew,h,h48,decide_eq_true h2]
     | simp -dsimp only[aw,seval,hix,Ew,h]
    refine eu (R:=fun(j:Nat) ρ σ'=>ρ=[(4,.d (aj (bs l))),(5,an false),(6,aK .i64 (-(ci (l.take j):Nat))),(7,aK .i64 j)]/\σ'=σ/\ci (l.take j)≤9223372036854775808) l.length ⟨rfl,rfl,by simp[ci]⟩ ?_ _;rintro j ρ' σ' hj ⟨rfl,rfl,hm⟩;by_cases hlt:j<l.length
    .have hst:=AN hlt;have hmono:=AR l (j+1);have hdg:=hds _ (List.getElem_mem hlt);unfold dig dD at hdg;simp only[Bool.and_eq_true,decide_eq_true_eq]at hdg;have hu8:IntKind.u8.wrap ((l[j].toNat:Int)-48)=(l[j].toNat:Int)-48:=by simp[IntKind.wrap,IntKind.bits,IntKind.signed];omega
     have hi64:IntKind.i64.wrap ((l[j].toNat:Int)-48)=(l[j].toNat:Int)-48:=aA (by omega) (by omega);generalize ci (l.take (j+1))=m1 at *;generalize ci (l.take j)=m0 at *;simp -dsimp only[aw,seval,aE,Sx,hlt,decide_true];refine ac (wC (-(m0:Int)) (by omega) (by omega) _) ?_;by_cases hx:m0*10≤9223372036854775808
     .rw[gQ (by omega) (by omega)];simp -dsimp only[aw,seval,bu,SB hlt,cj,hu8,hi64];refine ac (nK (-(m0:Int)*10) ((l[j].toNat:Int)-48) (by omega) (by omega) (by omega) (by omega) _) ?_;by_cases hy:m1≤9223372036854775808
      .rw[gQ (by omega) (by omega)];simp -dsimp only[aw,seval,Sw,decide_true,aT hlt (show l.length≤9223372036854775807 by omega)];exact⟨hlt,Nxt.same (SO _) hb rfl ⟨by rw[show -(m0:Int)*10-((l[j].toNat:Int)-48) = -(m1:Int)by omega],rfl,hy⟩⟩
      .rw[lQ (by omega)];simp -dsimp only[aw,seval,Sw,decide_true,decide_false];rw[if_pos (show 9223372036854775807<ci l by omega)];first|exact al hb rfl rfl|exact am hb rfl rfl
     .rw[lQ (by omega)];simp -dsimp only[aw,seval,bu,SB hlt,cj,hu8,hi64];refine ac (nK 0 ((l[j].toNat:Int)-48) (by omega) (by omega) (by omega) (by omega) _) ?_;rw[gQ (by omega) (by omega)];simp -dsimp only[aw,seval,Sw,decide_true,decide_false];rw[if_pos (show 9223372036854775807<ci l by omega)];first|exact al hb rfl rfl|exact am hb rfl rfl
    .have hje:j=l.length:=by omega
     subst hje;rw[SE]at hm ⊢;simp -dsimp only[aw,seval,aE,Int.lt_irrefl,decide_false];refine ac (nK 0 (-(ci l:Nat):Int) (by omega) (by omega) (by omega) (by omega) _) ?_;rw[show(0:Int) - -((ci l:Nat):Int)=(ci l:Nat)by omega];by_cases hy:9223372036854775807<ci l
     .rw[lQ (by omega),if_pos hy];simp -dsimp only[aw,seval];first|exact al hb rfl rfl|exact am hb rfl rfl
     .rw[gQ (by omega) (by omega),if_neg hy];simp -dsimp only[aw,seval];first|exact al hb rfl rfl|exact am hb rfl rfl
theorem uF(n:Int)(h0 : -9223372036854775808≤n)(h1:n≤9223372036854775807)(hs:(Lib.itoa n).length≤1000)(σ:LLV):Fun G 192 [.d (ab n)] σ (aN (.d (aj (bs (Lib.itoa n)))) σ):=by
 have hlen:(Lib.decDigits n.natAbs).length≤1000:=by
  unfold Lib.itoa at hs;split at hs
  .simp at hs;omega
  .rwa[show n.toNat=n.natAbs by omega]at hs
 refine ae Tryz.func192 Pw rfl fun hb hw=>?_;unfold LH;simp -dsimp only[aw,seval];refine ac (vU n h0 h1 _) ?_;simp -dsimp only[aw,seval];refine eu (R:=fun(j:Nat) ρ σ'=>∃(u:Nat) (tl:Bs),(j=0\/1≤u)/\u+j≤n.natAbs/\Lib.decDigits n.natAbs=(if j=0 then Lib.decDigits u else Lib.decDigits u++tl)/\(j=0->tl=[])/\(ρ=[(0,.d (ab n)),(3,.d (aj (bs tl))),(4,aK .i64 (-(u:Int)))]\/ρ=[(0,.d (ab n)),(3,.d (aj (bs tl))),(4,aK .i64 (-(u:Int))),(18,an false)])/\σ'=σ) n.natAbs ⟨n.natAbs,[],.inl rfl,by omega,by rw[if_pos rfl],fun _=>rfl,.inl rfl,rfl⟩ ?_ _;rintro j ρ' σ' hj ⟨u,tl,hu,huj,hd,htl,hρ,rfl⟩
 have hd':Lib.decDigits n.natAbs=Lib.decDigits u++tl:=by
  rw[hd];split
  .rename_i e;rw[htl e,List.append_nil]
  .rfl
 have htlen:tl.length≤1000:=by have:=congrArg List.length hd';rw[List.length_append]at this;omega
 have hrem:(-(u:Int)).tmod 10 = -((u%10:Nat):Int):=by rw[Int.neg_tmod];rfl
 have hquo:(-(u:Int)).tdiv 10 = -((u/10:Nat):Int):=by rw[SA];rfl
 have hsub:IntKind.i64.wrap (48 - -((u%10:Nat):Int))=((48+u%10:Nat):Int):=by rw[aA (by omega) (by omega)];omega
 have hu8:IntKind.u8.wrap ((48+u%10:Nat):Int)=((48+u%10:Nat):Int):=by simp[IntKind.wrap,IntKind.bits,IntKind.signed];omega
 have hcb:∀τ:LLV,tv τ (.d (.sl [[.lit (.int .u8 ((48+u%10:Nat):Int))]]))=some (.d (aj (bs [UInt8.ofNat (48+u%10)]))):=fun _=>rfl;have hwq:IntKind.i64.wrap (-((u/10:Nat):Int)) = -((u/10:Nat):Int):=aA (by omega) (by omega);have hle:1+tl.length≤9223372036854775807:=by omega
 have e45:(⟨#[45]⟩:ByteArray)=bs [45]:=rfl;rcases hρ with rfl|rfl
 all_goals
  by_cases hz:u/10=0
  .have hz':(-((u/10:Nat):Int))=0:=by omega
   have hlast:Lib.decDigits n.natAbs=UInt8.ofNat (48+u%10)::tl:=by
    rw[hd',Lib.decDigits,dif_pos (by omega),show u%10=u by omega];rfl
   have hle2:1+(tl.length+1)≤9223372036854775807:=by omega
   simp -dsimp only[aw,seval,hrem,hquo,hsub,hu8,hcb,hwq,aE,fR,hle,decide_eq_true hz',Sw];by_cases hn:n<0
   .simp -dsimp only[aw,seval,decide_eq_true hn,e45,aE,fR,hle2];have:Lib.itoa n=45::UInt8.ofNat (48+u%10)::tl:=by unfold Lib.itoa;rw[if_pos hn,hlast]
    rw[this];first|exact al hb rfl rfl|exact am hb rfl rfl
   .simp -dsimp only[aw,seval,decide_eq_false hn];have:Lib.itoa n=UInt8.ofNat (48+u%10)::tl:=by unfold Lib.itoa;rw[if_neg hn,show n.toNat=n.natAbs by omega,hlast]
    rw[this];first|exact al hb rfl rfl|exact am hb rfl rfl
  .have hz':¬(-((u/10:Nat):Int))=0:=by omega
   simp -dsimp only[aw,seval,hrem,hquo,hsub,hu8,hcb,hwq,aE,fR,hle,decide_eq_false hz',Sw];refine⟨by omega,Nxt.same (SO _) hb rfl ⟨u/10,UInt8.ofNat (48+u%10)::tl,.inr (by omega),by omega,?_,fun h=>by omega,.inr rfl,rfl⟩⟩;rw[if_neg (by omega),hd',Lib.decDigits,dif_neg (by omega),List.append_assoc];rfl
theorem em{M:av}{bm:List Nat}{u v:Value}(h:Rep M bm (.d (.lit u)) v):v=u:=by
 cases h with
 | d h=>cases h with
 | lit _ _=>rfl
theorem pU{f:FuncId}{fn:Func}{a u:Value}{σ:LLV}(hf:Tryz.prog.funcs[f]? = some fn)(hn:(fn.name == "runtime.NumGoroutine")=false)(hb:fn.body.isNone=false)(hu:da u)
 (h:∀pr w,G.kept pr w->Calls Tryz.prog f #[a] w fun e w'=>e=.returned u/\Ext w w'):Fun G f [.d (.lit a)] σ (aN (.d (.lit u)) σ):=
 m8 hf hn hb hu fun M bm pr w v hG hM h1=>by cases em h1;exact h pr w hG.2
theorem pH{f:FuncId}{fn:Func}{a b u:Value}{σ:LLV}(hf:Tryz.prog.funcs[f]? = some fn)(hn:(fn.name == "runtime.NumGoroutine")=false)(hb:fn.body.isNone=false)(hu:da u)
 (h:∀pr w,G.kept pr w->Calls Tryz.prog f #[a,b] w fun e w'=>e=.returned u/\Ext w w'):Fun G f [.d (.lit a),.d (.lit b)] σ (aN (.d (.lit u)) σ):=
 tz hf hn hb hu fun M bm pr w v v' hG hM h1 h2=>by cases em h1;cases em h2;exact h pr w hG.2
theorem mM{P:Program}{f:FuncId}{args:Array Value}{w:World}{u:Value}(h:Calls P f args w fun e w'=>e=.returned u/\w'=w):Calls P f args w fun e w'=>e=.returned u/\Ext w w':=
 h.mono fun e w' ⟨he,hw⟩=>⟨he,hw▸Ext.refl _⟩
theorem mJ{n:Nat}(h:n≤9223372036854775807):da (.int .i64 n):=by
 simp only[da,IntKind.min,IntKind.max,IntKind.signed,IntKind.bits];omega
theorem Ar(l:Bs)(hl:l.length≤9223372036854775807)(σ:LLV):Fun G 218 [.d (aj (bs l)),.d (aj ⟨#[10]⟩)] σ (aN (.d (ab (l.count 10:Nat))) σ):=
 pH Tryz.func218 (by kernel_rfl) (by kernel_rfl) (mJ (SP SL hl)) fun pr w _=>by
  have:=mM (Tryz.strings_Count_one (bs l) 10 w);rw[bu]at this;exact this
theorem lJ(s p:Bs)(σ:LLV):Fun G 156 [.d (aj (bs s)),.d (aj (bs p))] σ (aN (.d (.lit (.bool (p.isPrefixOf s)))) σ):=
 pH Tryz.func156 (by kernel_rfl) (by kernel_rfl) trivial fun pr w _=>by
  have:=mM (Tryz.strings_HasPrefix (bs s) (bs p) w);rw[bu,bu]at this;exact this
theorem Br:∀c:Nat,c<128->decide (0≤Lib.indexByte [32,9,10] ((c:Int).toNat.toUInt8))=(c==32||c==9||c==10):=by decide
theorem pG(n:Int)(h0 : -9223372036854775808≤n)(h1:n≤9223372036854775807)(hs:(Lib.itoa n).length≤maxLen)(σ:LLV):Fun G 159 [.d (ab n)] σ (aN (.d (aj (bs (Lib.itoa n)))) σ):=
 pU Tryz.func159 (by kernel_rfl) (by kernel_rfl) (by show(bs (Lib.itoa n)).size≤maxLen;rw[aE];exact hs) fun pr w hk=>by
  obtain⟨-,cs,T,z,g1,rfl⟩:=hk 3 _ (by rfl);refine(Tryz.strconv_Itoa n h0 h1 w ?_).mono fun e w' ⟨he,k,os,hw⟩=>⟨he,?_⟩
  .have hg:Tryz.prog.globalNamed "internal/strconv.uint64pow10" = some 3:=by kernel_rfl
   simp only[Lib.TabIs,World.var?,hg,Option.bind_some,g1]
  .subst hw
   exact⟨rfl,rfl,rfl,by simp[Sort.grow,World.drewN],fun i hi=>by
    show((w.drewN k).heap++os)[i]? = _;rw[Array.getElem?_append_left (by show i<w.heap.size;omega)];rfl⟩
theorem mt(l:Bs)(v:Int)(hl:l.length≤9223372036854775806)(hp:Lib.parseIntB 64 l=.ok v)(hv:da (.int .i64 v))(σ:LLV):Fun G 220 [.d (aj (bs l)),.d (ab 10),.d (ab 64)] σ (aN (.tup [.d (ab v),.d (.lit .nilIface)]) σ):=
 qZ Tryz.func220 (by kernel_rfl) (by kernel_rfl) (fun T k rows e=>by cases e) fun M bm pr w vs hG hM hl' hr=>by
  match vs,hl' with
  | [a,b,c],_=>
  have e1:=em (hr 0 (by simp) (by simp));have e2:=em (hr 1 (by simp) (by simp));have e3:=em (hr 2 (by simp) (by simp));simp only[SH,SI]at e1 e2 e3;subst e1 e2 e3;refine(Tryz.strconv_ParseInt_10_at64_ok (bs l) (by rw[aE];exact hl) v (by rw[bu];exact hp) w).mono fun e w' ⟨he,hw⟩=>⟨_,he,?_,?_⟩
  .rcases hw with rfl|⟨t,rfl⟩
   .exact Ext.refl _
   .exact Lib.bytesWorld_below _ _ _
  .refine .tup (vs:=[_,_]) rfl fun i g g'=>?_
   match i with
   | 0=>exact .d (.lit _ hv)
   | 1=>exact .d (.lit _ trivial)
theorem jx(l:Bs)(hl:l.length≤281474976710656)(hp:Lib.parseIntB 64 l=.range)(σ:LLV):Fun G 220 [.d (aj (bs l)),.d (ab 10),.d (ab 64)] σ (aN (.tup [.junk,.iface 264 .junk]) σ):=
 qZ Tryz.func220 (by kernel_rfl) (by kernel_rfl) (fun T k rows e=>by cases e) fun M bm pr w vs hG hM hl' hr=>by
  match vs,hl' with
  | [a,b,c],_=>
  have e1:=em (hr 0 (by simp) (by simp));have e2:=em (hr 1 (by simp) (by simp));have e3:=em (hr 2 (by simp) (by simp));simp only[SH,SI]at e1 e2 e3;subst e1 e2 e3;obtain⟨-,cs,T,z,g1,t,x,g2⟩:=hG.2 5 _ (by rfl);refine(Tryz.strconv_ParseInt_10_at64_range (bs l) (by rw[aE];exact hl) (by rw[bu];exact hp) (.iface t x) w (by simp[World.cell?,g1,g2]) (.inr ⟨_,_,rfl⟩)).mono fun e w' ⟨N,he,h1,h2,h3⟩=>⟨_,he,h3,?_⟩
  refine .tup (vs:=[_,_]) rfl fun i g g'=>?_
  match i with
  | 0=>exact .junk _
  | 1=>exact .iface (.junk _)
theorem Ey(l:List ByteArray)(hn:l.length≤140737488355328)(hlen:(Lib.join (l.map (·.data.toList)) [32]).length≤140737488355328)(σ:LLV):
 Fun G 244 [.d (cT l),.d (aj ⟨#[32]⟩)] σ (aN (.d (aj (bs (Lib.join (l.map (·.data.toList)) [32])))) σ):=
 tz Tryz.func244 (by kernel_rfl) (by kernel_rfl) (by show(bs _).size≤maxLen;rw[aE];unfold maxLen;omega) fun M bm pr w v v' hG hM h1 h2=>by
  cases em h2;obtain⟨p,cap,rfl,g1,g2,g3⟩:=mm hM h1;by_cases h0:l=[]
  .subst h0;exact mM (Tryz.strings_Join_none p cap ⟨#[32]⟩ w)
  .have hp:0<l.length:=List.length_pos_iff.2 h0;obtain⟨b,off,rfl,g4⟩:=g3 0 (l[0]'hp) (SB hp);refine Tryz.strings_Join b off cap l ⟨#[32]⟩ w (fun j x hj=>?_) (Lib.lt_of_cell g4) hn g1 hlen;obtain⟨b',off',e,g5⟩:=g3 j x hj;cases e;exact g5
theorem Fh:ByteP inn dR:=⟨fun b hb=>rfl,false,fun c h=>kY h,fun b hb=>kY (by omega)⟩
theorem Dt:ByteP dig dD:=⟨fun b hb=>rfl,false,fun c h=>by simp only[dD,Ss,decide_eq_false_iff_not];omega,fun b hb=>by simp only[dig,dD,Ss,decide_eq_false_iff_not];omega⟩
theorem B4:ByteP (fun b=>b != 10) (fun c=>decide (c≠10)):=by
 refine⟨fun b hb=>?_,true,fun c h=>by simp;omega,fun b hb=>?_⟩
 .rw[Su];simp only[ne_eq,decide_eq_true_eq,bne_iff_ne];refine not_congr ⟨fun h=>UInt8.toNat_inj.1 (by show b.toNat=10;omega),fun h=>by rw[h];rfl⟩
 .simp only[bne_iff_ne,ne_eq];intro e;rw[e]at hb;revert hb;decide
theorem BR(c:Int)(w:World):Calls Tryz.prog 168 #[.int .i32 c] w fun e w'=>e=.returned (.bool (decide (c≠10)))/\w=w':=by
 go_enter Tryz.func168,Tryz.ntmps168;go_wp2_with fail;go_ret;exact⟨aV (by by_cases h:c=10<;>simp[h]),rfl⟩
theorem qi{F:FuncId}{q:UInt8->Bool}{p:Int->Bool}(hq:ByteP q p)(hF:∀args w,(callFunc F args).run Tryz.prog w=.ok (.enter F args) w)
 (H:∀(c:Int) (w:World),Calls Tryz.prog F #[.int .i32 c] w fun e w'=>e=.returned (.bool (p c))/\w=w')(l:Bs)(hl:l.length≤9223372036854775807)(σ:LLV):
 Fun G 167 [.d (aj (bs l)),.fn F []] σ (aN (.d (ab (l.takeWhile q).length)) σ):=
 tz Tryz.func167 (by kernel_rfl) (by kernel_rfl) (mJ (SP (SK _).length_le hl)) fun M bm pr w v v' hG hM h1 h2=>by
  cases em h1;cases h2 with
  | @fn _ _ vs hl' h=>
  have:vs=[]:=List.eq_nil_of_length_eq_zero hl';subst this;have:=EC F #[] q p hq hF (fun c w=>H c w) (bs l) w (by rw[aE];exact hl);rw[bu]at this;exact this
theorem pW(l:Bs)(hl:l.length≤9223372036854775807)(σ:LLV):Fun G 167 [.d (aj (bs l)),.fn 200 []] σ (aN (.d (ab (l.takeWhile inn).length)) σ):=
 qi Fh (bN (P:=Tryz.prog) Tryz.func200 (by kernel_rfl) (by kernel_rfl)) gw l hl σ
theorem C2(l:Bs)(hl:l.length≤9223372036854775807)(σ:LLV):Fun G 167 [.d (aj (bs l)),.fn 172 []] σ (aN (.d (ab (l.takeWhile dig).length)) σ):=
 qi Dt (bN (P:=Tryz.prog) Tryz.func172 (by kernel_rfl) (by kernel_rfl)) fU l hl σ
theorem B9(l:Bs)(hl:l.length≤9223372036854775807)(σ:LLV):Fun G 167 [.d (aj (bs l)),.fn 168 []] σ (aN (.d (ab (l.takeWhile (· != 10)).length)) σ):=
 qi B4 (bN (P:=Tryz.prog) Tryz.func168 (by kernel_rfl) (by kernel_rfl)) BR l hl σ
theorem yD(c:Nat)(h1:128≤c)(h2:c<256):∃x y:UInt8,Utf8.encode c=⟨#[x,y]⟩/\128≤y.toNat:=by
 refine⟨UInt8.ofNat (192+c/64),UInt8.ofNat (128+c%64),?_,?_⟩
 .have hv:Utf8.valid (c:Int)=true:=by simp only[Utf8.valid];simp;omega
  unfold Utf8.encode;simp only[hv,if_true,Int.toNat_natCast,show ¬c<128 by omega,if_false,show c<2048 by omega]
 .rw[UInt8.toNat_ofNat'];omega
theorem qI(c:Nat)(h1:128≤c)(h2:c<256)(w:World):Calls Tryz.prog 219 #[.string ⟨#[32,9,10]⟩,.int .i32 c] w fun e w'=>e=.returned (.int .i64 (-1))/\Ext w w':=by
 obtain⟨x,y,he,hy⟩:=yD c h1 h2;have n1:(decide ((c:Int)<128))=false:=by simp;omega
 have n2:((c:Int)==65533)=false:=by simp;omega
 have n3:Lib.validRune (c:Int)=true:=by simp[Lib.validRune];omega
 have n4:((9:Int)==((y.toNat:Nat):Int))=false:=by simp;omega
 have n5:Lib.indexByte [10] ((y.toNat:Int).toNat.toUInt8) = -1:=by
  have:(10:UInt8)≠y:=by intro e;rw[<-e]at hy;revert hy;decide
  have e:(y.toNat:Int).toNat.toUInt8=y:=by simp
  rw[e];simp[Lib.indexByte,this]
 go_enter Tryz.func219,Tryz.ntmps219;go_wp2_with (first|(go_at_call 249;refine(Tryz.utf8_ValidRune _ _).mono ?_;rintro e w' ⟨rfl,rfl⟩)|(go_at_call 248;refine(Tryz.strings_IndexByte _ _ _).mono ?_;rintro e w' ⟨rfl,rfl⟩));refine wp_scope_straight ?_;go_wp2_with (first|(go_at_call 249;refine(Tryz.utf8_ValidRune _ _).mono ?_;rintro e w' ⟨rfl,rfl⟩)|(go_at_call 248;refine(Tryz.strings_IndexByte _ _ _).mono ?_;rintro e w' ⟨rfl,rfl⟩));go_loop [9,10,11,12] (fun i j k l=>i=.int .i64 1) (fun i j k l=>0);case atStart=>rfl
 case round=>
  subst hrel;go_wp2_with (first|(go_at_call 249;refine(Tryz.utf8_ValidRune _ _).mono ?_;rintro e w' ⟨rfl,rfl⟩)|(go_at_call 248;refine(Tryz.strings_IndexByte _ _ _).mono ?_;rintro e w' ⟨rfl,rfl⟩));refine wp_scope_straight ?_;go_wp2_with (first|(go_at_call 249;refine(Tryz.utf8_ValidRune _ _).mono ?_;rintro e w' ⟨rfl,rfl⟩)|(go_at_call 248;refine(Tryz.strings_IndexByte _ _ _).mono ?_;rintro e w' ⟨rfl,rfl⟩))
  have n6:∀(h1:1<(⟨#[32,9,10]⟩:ByteArray).size) (h2:1<(⟨#[x,y]⟩:ByteArray).size),((((⟨#[32,9,10]⟩:ByteArray)[1]'h1).toNat:Int) != (((⟨#[x,y]⟩:ByteArray)[1]'h2).toNat:Int))=true:=fun h1 h2=>by
   have a1:(⟨#[32,9,10]⟩:ByteArray)[1]'h1=9:=rfl;have a2:(⟨#[x,y]⟩:ByteArray)[1]'h2=y:=rfl;rw[a1,a2,bne,show(((9:UInt8).toNat:Int)==(y.toNat:Int))=false from n4];rfl
  have n7:∀(h2:1<(⟨#[x,y]⟩:ByteArray).size),Lib.indexByte [10] ((⟨#[x,y]⟩:ByteArray)[1]'h2) = -1:=fun h2=>by
   have a2:(⟨#[x,y]⟩:ByteArray)[1]'h2=y:=rfl;rw[a2];have e:(y.toNat:Int).toNat.toUInt8=y:=by simp
   rw[e]at n5;exact n5
  go_region;go_wp2_with fail;go_region_with (first|(go_at_call 248;refine(Tryz.strings_IndexByte _ _ _).mono ?_;rintro e w' ⟨rfl,rfl⟩));all_goals (go_wp2_with fail)
  all_goals (rw[Exit.noGoto_ret];go_wp2_with fail)
  all_goals (rw[Exit.noGoto_ret];go_wp2_with fail;go_ret;exact⟨rfl,(Ext.refl _).drew.drew⟩)
theorem nk(c:Nat)(h1:128≤c)(h2:c<256)(w:World):Calls Tryz.prog 169 #[.string ⟨#[32,9,10]⟩,.int .i32 c] w fun e w'=>e=.returned (.bool false)/\Ext w w':=by
 go_enter Tryz.func169,Tryz.ntmps169;go_wp2_with (go_at_call 219;refine(qI c h1 h2 _).mono ?_;rintro e w' ⟨rfl,hx⟩);go_ret;exact⟨rfl,hx⟩
theorem EK(l:Bs)(n:Nat)(h:n≤l.length):rf true 0 (V.d (aj (bs l))) none (some (V.d (ab n)))=some (V.d (aj (bs (l.take n)))):=by
 simp[rf,eV,xq,aE,h,HA]
theorem IY(l:Bs)(n:Nat)(h:n≤l.length):rf true 0 (V.d (aj (bs l))) (some (V.d (ab n))) none=some (V.d (aj (bs (l.drop n)))):=by
 have:=Hu l n;rw[aE]at this;simp[rf,eV,xq,aE,h,this]
theorem sY:decide (bs []=({data := #[]}:ByteArray))=true:=by rw[decide_eq_true_eq];rfl
theorem xn(c:UInt8)(r:Bs):decide (bs (c::r)=({data := #[]}:ByteArray))=false:=by
 rw[decide_eq_false_iff_not];intro h;have h2:=uA.1 (h:bs (c::r)=bs []);cases h2
theorem lg(c:UInt8)(r:Bs):ixV (V.d (aj (bs (c::r)))) (V.d (.lit (.int .i64 0)))=some (aK .u8 c.toNat):=by simp[ixV,bu]
theorem D3(n:Nat)(h:n<256):IntKind.i32.wrap (n:Int)=n:=by
 simp[IntKind.wrap,IntKind.bits,IntKind.signed];split<;>omega
theorem Ch(c:UInt8):(c.toNat==32||c.toNat==9||c.toNat==10)=xY c:=by
 rw[Su];simp[xY,<-UInt8.toNat_inj]
theorem tB(q:UInt8->Bool):∀l:Bs,l.drop (l.takeWhile q).length=l.dropWhile q
 | []=>rfl
 | a::r=>by
  by_cases h:q a=true
  .rw[SF h,List.dropWhile_cons_of_pos h,List.length_cons,List.drop_succ_cons,tB q r]
  .rw[List.takeWhile_cons_of_neg h,List.dropWhile_cons_of_neg h];rfl
def rd(l:Bs)(n:Int):List V:=[.d (aj (bs l)),.d (ab n)]
theorem bt{k:Nat}{σ:LLV}{cs:List V}{i:Nat}(h:ak k σ=true)(hc:V.unders k cs=true):ak k (σ.set i cs)=true:=by
 unfold ak at h ⊢;rw[List.all_eq_true]at h ⊢;intro x hx;rcases List.mem_or_eq_of_mem_set hx with h1|rfl
 .exact h x h1
 .exact hc
theorem bp{σ σ' τ:LLV}{ρ:ai}{rs:List RV}{Q:Out->LLV->Prop}(hb:ak σ.length τ=true){v:V}(h:aC σ' ρ rs=some v)(hv:V.under σ.length v=true)(hσ:σ'.take σ.length=τ)(hq:Q (.ret v) τ):fin σ.length rs Q .ret ρ σ':=
 ⟨ρ,σ',.refl _ _ _,v,h,σ.length,SO _,by rw[hσ];exact hb,hv,by rw[hσ];exact hq⟩
theorem dh{C:Cx}{f:FuncId}{args:List V}{σ τ:LLV}{v:V}{K P:V->LLV->Prop}{s:Tag K}{t:Tag P}(h:Fun C f args σ fun o σ'=>o=.ret v/\σ'=τ)(hk:K v τ):e8 C f args σ K P s t:=
 h.mono fun o σ' ⟨e1,e2⟩=>by subst e1;subst e2;exact hk
def rdr(T:Int)(l:Bs):List V:=rd l (T-(l.count 10:Nat))
theorem km(T:Int)(l:Bs)(n i:Nat)(hn:n≤l.length)(hl:l.length≤1200000)(h0:0≤T)(h1:T≤1000000000)(σ:LLV)(hi:σ[i]? = some (rdr T l)):
 Fun G 166 [.ptr i 0,.d (ab n)] σ fun o σ'=>o=.ret (.d (aj (bs (l.take n))))/\σ'=σ.set i (rdr T (l.drop n)):=by
 have hlt:i<σ.length:=(List.getElem?_eq_some_iff.1 hi).1;have hcl:(l.count 10:Nat)=(l.take n).count 10+(l.drop n).count 10:=by rw[<-List.count_append,SJ]
 have hc2:l.count 10≤l.length:=SL;refine ae Tryz.func166 QP rfl fun hb hw=>?_;unfold M9;unfold rdr rd at hi;have hi':(σ.set i [.d (aj (bs (l.drop n))),.d (ab (T-(l.count 10:Nat)))])[i]? = some [.d (aj (bs (l.drop n))),.d (ab (T-(l.count 10:Nat)))]:=by simp[hlt]
 simp -dsimp only[aw,seval,hi,EK l n hn,IY l n hn,hi'];refine bA (Ar _ (by rw[List.length_take];omega) _) ?_;simp -dsimp only[aw,seval,hi'];rw[aA (by omega) (by omega),SG,show T-(l.count 10:Nat)+((l.take n).count 10:Nat)=T-((l.drop n).count 10:Nat)by omega];exact bp (τ:=σ.set i (rdr T (l.drop n))) (bt hb rfl) rfl rfl (by rw[SC (by rw[SD];exact SO _)];rfl) ⟨rfl,rfl⟩
theorem v7(c:Nat)(hc:c<256)(σ:LLV):Fun G 169 [.d (aj ⟨#[32,9,10]⟩),.d (.lit (.int .i32 c))] σ (aN (.d (.lit (.bool (c==32||c==9||c==10)))) σ):=
 pH Tryz.func169 (by kernel_rfl) (by kernel_rfl) trivial fun pr w _=>by
  by_cases h:c<128
  .have:=mM (Tryz.strings_ContainsRune_ascii ⟨#[32,9,10]⟩ c w (by omega) (by omega));rw[<-Br c h];exact this
  .have e:(c==32||c==9||c==10)=false:=by simp;omega
   rw[e];exact nk c (by omega) hc w
theorem wA(T:Int)(l:Bs)(i:Nat)(hl:l.length≤1200000)(h0:0≤T)(h1:T≤1000000000)(σ:LLV)(hi:σ[i]? = some (rdr T l)):
 Fun G 115 [.ptr i 0] σ fun o σ'=>o=.ret (.tup [])/\σ'=σ.set i (rdr T (bC l)):=by
 have hlt:i<σ.length:=(List.getElem?_eq_some_iff.1 hi).1;have hset:∀X:List V,(σ.set i X)[i]? = some X:=fun X=>by simp[hlt]
 have hself:σ.set i (rdr T l)=σ:=by rw[<-List.getElem?_eq_some_iff.1 hi |>.2];exact List.set_getElem_self hlt
 refine ae Tryz.func115 RE rfl fun hb hw=>?_;unfold Nb;simp -dsimp only[aw,seval];refine eu (R:=fun(j:Nat) ρ σ'=>∃r:Bs,bC r=bC l/\r.length+j≤l.length/\ρ=[(0,.ptr i 0)]/\σ'=σ.set i (rdr T r)) (l.length+1) ⟨l,rfl,by omega,rfl,hself.symm⟩ ?_ _;rintro j ρ' σ' hj ⟨r,hr,hrl,rfl,rfl⟩;have hset':=hset (rdr T r);have hset2:=hset';unfold rdr rd at hset2;simp -dsimp only[aw,seval,hset2,rdr,rd];refine ac (lJ r [47,47] _) ?_
 have next:∀r2:Bs,bC r2=bC l->r2.length<r.length->j<l.length+1/\Nxt σ.length (fun ρ σ'=>∃r,bC r=bC l/\r.length+(j+1)≤l.length/\ρ=[(0,V.ptr i 0)]/\σ'=σ.set i (rdr T r)) [(0,.ptr i 0)] (σ.set i (rdr T r2)) .mk:=fun r2 h2 h3=>
  ⟨by omega,Nxt.same (by simp) (by rw[SD];exact bt hb rfl) (by simp[au,V.under,hlt]) ⟨r2,h2,by omega,rfl,rfl⟩⟩
 cases hpre:([47,47]:Bs).isPrefixOf r with
 | true=>
  obtain⟨r2,hr2⟩:=List.isPrefixOf_iff_prefix.1 hpre;have hdw:r.drop (r.takeWhile (· != 10)).length=r.dropWhile (· != 10):=tB _ r
  have hsk:bC r=bC (r.dropWhile (· != 10)):=by
   subst hr2;rw[SN,dO,if_neg (by decide),if_pos ⟨rfl,rfl⟩]
  have htw:(r.takeWhile (· != 10)).length≤r.length:=(SK _).length_le
  have htp:1≤(r.takeWhile (· != 10)).length:=by
   subst hr2;rw[SN,SF (by decide)];simp
  simp -dsimp only[aw,seval,hset2];refine ac (B9 r (by omega) _) ?_;simp -dsimp only[aw,seval];refine dh (km T r _ i htw (by omega) h0 h1 _ hset2) ?_;rw[SG];simp -dsimp only[aw,seval];exact next _ (by rw[hdw,<-hsk,hr]) (by rw[List.length_drop];omega)
 | false=>
  match r with
  | []=>
   simp -dsimp only[aw,seval,hset2,sY];rw[fO]at hr;exact bp (τ:=σ.set i (rdr T [])) (bt hb rfl) rfl rfl (by rw[SC (by rw[SD];exact SO _)];rfl) ⟨rfl,by rw[<-hr]⟩
  | c::r2=>
   simp -dsimp only[aw,seval,hset2,xn,lg];have hc:c.toNat<256:=c.toNat_lt;rw[D3 _ hc];refine ac (v7 c.toNat hc _) ?_;rw[Ch];cases hbl:xY c with
   | true=>
    simp -dsimp only[aw,seval,hset2];refine dh (km T (c::r2) 1 i (by simp) (by omega) h0 h1 _ hset2) ?_;rw[SG];simp -dsimp only[aw,seval];exact next r2 (by rw[<-hr,dO,if_pos hbl]) (by simp)
   | false=>
    simp -dsimp only[aw,seval,hset2]
    have hs:bC (c::r2)=c::r2:=by
     rw[dO,if_neg (by rw[hbl];decide),if_neg];rintro⟨rfl,h⟩
     match r2,h with
     | d::r3,h=>
      simp only[List.head?_cons,Option.some.injEq]at h;subst h;simp at hpre
    exact bp (τ:=σ.set i (rdr T (c::r2))) (bt hb rfl) rfl rfl (by rw[SC (by rw[SD];exact SO _)];rfl) ⟨rfl,by rw[<-hr,hs]⟩
end Go.Proofs.YtnhphlmblenapaaGreatDoor
