import Derived.Laws.EntriesVeiled
import Derived.Test.YthekkgfmagliiaaGreatDoorElem
set_option linter.unusedVariables false
set_option linter.unusedSimpArgs false
set_option linter.unusedSectionVars false
set_option maxRecDepth 100000
set_option maxHeartbeats 2000000
open Bool renaming and_eq_true->RS,eq_iff_iff->RU
open ByteArray renaming size_extract->RW,data_extract->RX
open List renaming drop_eq_getElem_cons->RY,mem_cons->RZ
open Nat renaming le_trans->R0,zero_le->R5
namespace Go.Proofs.YthekkgfmagliiaaGreatDoor
open Go.RowKit
def fO(s:ByteArray):Bool:=iz s||bt s
theorem CO(s:ByteArray)(w:World)(hs:s.size≤9223372036854775807)(hk:o8 w):
 Calls Tryz.prog 163 #[.string s] w fun e w'=>e=.returned (.bool (fO s))/\Ext w w':=by
 have HK:=Lib.hid hk;clear hk;have hq:fO s=(iz s||bt s):=rfl;have HQ:=Lib.hid hq;clear hq;generalize fO s=r at *;have he:=fun w hk=>xY s w hs hk;generalize iz s=eb at *;have HE:=Lib.hid he;clear he;go_enter Tryz.func163,Tryz.ntmps163;go_wp2_with (first|(go_at_call 195;refine(HE.out _ HK.out).mono ?_;rintro e w' ⟨a,i,rfl,hx⟩)|(go_at_call 49;refine(gO _ _ (by omega) (HK.out.ext (by assumption))).mono ?_;rintro e w' ⟨rfl,hy⟩));all_goals go_ret
 all_goals (go_light;refine⟨aL ?_,(by first|exact hx.trans hy|exact hx)⟩;rw[HQ.out];simp[*])
def ki(s:ByteArray):Bool:=
 if h:s.size<4 then false else decide ((s[s.size-1]'(by omega)).toNat=93)&&decide ((s[s.size-3]'(by omega)).toNat=91) &&
  decide (48≤(s[s.size-2]'(by omega)).toNat)&&decide ((s[s.size-2]'(by omega)).toNat<56)&&bt (s.extract 0 (s.size-3))
theorem tr{s:ByteArray}(h:s.size<4):ki s=false:=by unfold ki;rw[dif_pos h]
theorem oR{s:ByteArray}(h:¬s.size<4):ki s=(decide ((s[s.size-1]'(by omega)).toNat=93)&&decide ((s[s.size-3]'(by omega)).toNat=91) &&
 decide (48≤(s[s.size-2]'(by omega)).toNat)&&decide ((s[s.size-2]'(by omega)).toNat<56)&&bt (s.extract 0 (s.size-3))):=by unfold ki;rw[dif_neg h]
theorem places{s:ByteArray}(k:Nat)(hk:1≤k)(h:k≤s.size):((s.size:Int)-k<s.size)/\(0≤(s.size:Int)-k)/\((s.size:Int)-k).toNat=s.size-k:=by omega
theorem Dg(s:ByteArray)(w:World)(hs:s.size≤9223372036854775807):
 Calls Tryz.prog 150 #[.string s] w (vA (ki s) w):=by
 by_cases hz:s.size<4
 .rw[tr hz];go_enter Tryz.func150,Tryz.ntmps150;go_wp2_with fail;go_ret3;exact lO rfl (Ext.refl _)
 .have hq:=oR hz;generalize ki s=eb at *;have hsz:(s.extract 0 (s.size-3)).size≤9223372036854775807:=by rw[RW];omega
  obtain⟨p1,p1',e1⟩:=places (s:=s) 1 (by omega) (by omega);obtain⟨p2,p2',e2⟩:=places (s:=s) 2 (by omega) (by omega);obtain⟨p3,p3',e3⟩:=places (s:=s) 3 (by omega) (by omega);have b1:s.size-1<s.size:=by omega
  have b2:s.size-2<s.size:=by omega
  have b3:s.size-3<s.size:=by omega
  have q1:(1:Int)≤s.size:=by omega
  have q2:(2:Int)≤s.size:=by omega
  have q3:(3:Int)≤s.size:=by omega
  have q4:(4:Int)≤s.size:=by omega
  have y1:((s[s.size-1]'b1).toNat:Int)<256:=by have:=(s[s.size-1]'b1).toNat_lt;omega
  have y2:((s[s.size-2]'b2).toNat:Int)<256:=by have:=(s[s.size-2]'b2).toNat_lt;omega
  have y3:((s[s.size-3]'b3).toNat:Int)<256:=by have:=(s[s.size-3]'b3).toNat_lt;omega
  have hz':decide ((s.size:Int)<4)=false:=decide_eq_false (by omega);have HQ:=Lib.hid hq;clear hq;by_cases g1:(s[s.size-1]'b1).toNat=93
  .have h93:(((s[s.size-1]'b1).toNat:Int) != 93)=false:=by rw[g1];rfl
   have G1:=Lib.hid g1;clear g1;by_cases g3:(s[s.size-3]'b3).toNat=91
   .have h91:(((s[s.size-3]'b3).toNat:Int) != 91)=false:=by rw[g3];rfl
    have G3:=Lib.hid g3;clear g3;go_enter Tryz.func150,Tryz.ntmps150;go_wp2_with (go_at_call 37;refine(jH _ _ hsz).mono ?_;rintro e w' ⟨rfl,hy⟩);all_goals go_ret3
    all_goals (go_light;refine lO ?_ (by first|exact hy|exact Ext.refl _);rw[HQ.out,decide_eq_true G1.out,decide_eq_true G3.out];first
     | (rw[decide_eq_false (p:=48≤(s[s.size-2]'b2).toNat) (by omega)];simp;done)
     | (rw[decide_eq_false (p:=(s[s.size-2]'b2).toNat<56) (by omega)];simp;done)
     | (rw[decide_eq_true (p:=48≤(s[s.size-2]'b2).toNat) (by omega),decide_eq_true (p:=(s[s.size-2]'b2).toNat<56) (by omega)];cases hnm:bt (s.extract 0 (s.size-3))<;>simp[hnm]at * <;>omega))
   .have h91:(((s[s.size-3]'b3).toNat:Int) != 91)=true:=by rw[bne_iff_ne];omega
    have G3:=Lib.hid g3;clear g3;go_enter Tryz.func150,Tryz.ntmps150;go_wp2_with fail;go_ret3;exact lO (by rw[HQ.out,decide_eq_false G3.out];simp) (Ext.refl _)
  .have h93:(((s[s.size-1]'b1).toNat:Int) != 93)=true:=by rw[bne_iff_ne];omega
   have G1:=Lib.hid g1;clear g1;go_enter Tryz.func150,Tryz.ntmps150;go_wp2_with fail;go_ret3;exact lO (by rw[HQ.out,decide_eq_false G1.out];simp) (Ext.refl _)
theorem yZ(s:ByteArray)(w:World)(hs:s.size≤9223372036854775807):
 Calls Tryz.prog 208 #[.string s] w fun e w'=>e=.returned (.bool (ki s||bt s))/\Ext w w':=by
 have he:=fun w=>Dg s w hs;generalize ki s=eb at *;have HE:=Lib.hid he;clear he;go_enter Tryz.func208,Tryz.ntmps208;go_wp2_with (first|(go_at_call 150;refine(HE.out _).mono ?_;rintro e w' ⟨a,i,rfl,hx⟩)|(go_at_call 37;refine(jH _ _ (by omega)).mono ?_;rintro e w' ⟨rfl,hy⟩));all_goals go_ret
 all_goals (go_light;refine⟨aL ?_,(by first|exact hx.trans hy|exact hx)⟩;simp[*])
def cX(op:Int):Int:=
 if op=1\/op=2\/op=24 then 0 else if op=3\/op=4\/op=5\/op=6\/op=25 then 1 else if op=22 then 3 else if op=23 then -1
 else if op<1\/25<op then -1 else 2
theorem uy(op:Int)(w:World):
 Calls Tryz.prog 194 #[.int .i64 op] w fun e w'=>e=.returned (.int .i64 (cX op))/\w=w':=by
 go_enter Tryz.func194,Tryz.ntmps194;go_wp2_with fail;all_goals go_ret
 all_goals (go_light;refine⟨cv ?_,rfl⟩;unfold cX;simp only[beq_iff_eq,beq_eq_false_iff_ne,ne_eq]at *;simp[*])
theorem gK(op:Int)(w:World):
 Calls Tryz.prog 207 #[.int .i64 op] w fun e w'=>e=.returned (.int .i64 (cX op))/\w=w':=by
 go_enter Tryz.func207,Tryz.ntmps207;go_wp2_with fail;all_goals go_ret
 all_goals (go_light;refine⟨cv ?_,rfl⟩;unfold cX;simp only[beq_iff_eq,beq_eq_false_iff_ne,ne_eq]at *;simp[*])
def dN(op:Int):Bool:=decide (op=2)||decide (op=3)||decide (op=24)
def ci(op:Int)(n:Nat):Bool:=if op=23 then decide (n%2=1)&&decide (3≤n)&&decide (n≤33)else decide ((n:Int)=cX op)
def aF(op num:Int)(s:ByteArray)(n:Nat):Int:=
 if op<1\/25<op then 1
 else if(op=1/\(num<0\/65535<num))\/(op≠1/\num≠0)then 1
 else if(dN op=false/\¬s.toList=[])\/ci op n=false then 1
 else if(op=2/\fO s=false)\/((op=3\/op=24)/\bt s=false)then 7 else 0
theorem iF(o m:Int)(s:ByteArray)(p:Option Addr)(n cap:Nat)(w:World)(hn:n≤9223372036854775807):
 Calls Tryz.prog 162 #[.agg #[.int .i64 o,.int .i64 m,.string s,.slice p n cap]] w fun e w'=>e=.returned (.bool (ci o n))/\Ext w w':=by
 by_cases ho:o=23
 .subst ho;have h2:((n:Int)%2=1)↔n%2=1:=by omega
  have H2:=Lib.hid h2;clear h2;go_enter Tryz.func162,Tryz.ntmps162;go_wp2_with (go_at_call 194;refine(uy _ _).mono ?_;rintro e w' ⟨rfl,rfl⟩);all_goals go_ret
  all_goals (go_light;refine⟨aL ?_,(Ext.refl _).alloc _⟩;simp only[beq_iff_eq,beq_eq_false_iff_ne,ne_eq,H2.out]at *;simp only[ci,if_true];rw[RU];simp[*]<;>omega)
 .have ho':(o==23)=false:=by rw[beq_eq_false_iff_ne];exact ho
  have HO:=Lib.hid ho;clear ho;go_enter Tryz.func162,Tryz.ntmps162;go_wp2_with (go_at_call 194;refine(uy _ _).mono ?_;rintro e w' ⟨rfl,rfl⟩);all_goals go_ret
  all_goals (go_light;refine⟨aL ?_,(Ext.refl _).alloc _⟩;rw[ci,if_neg HO.out,RU];simp)
theorem iP(o:Int)(w:World):
 Calls Tryz.prog 206 #[.int .i64 o] w fun e w'=>e=.returned (.bool (dN o))/\w=w':=by
 go_enter Tryz.func206,Tryz.ntmps206;go_wp2_with fail;all_goals go_ret
 all_goals (go_light;refine⟨aL ?_,rfl⟩;(try simp only[beq_iff_eq,beq_eq_false_iff_ne,ne_eq]at *);unfold dN;rw[RU];simp[*])
def eL(v:Int)(w:World)(e:Ending)(w':World):Prop:=e=.returned (.int .i64 v)/\Ext w w'
theorem Fm(o m:Int)(s:ByteArray)(p:Option Addr)(n cap:Nat)(w:World)(ho:o<1\/25<o):
 Calls Tryz.prog 129 #[.agg #[.int .i64 o,.int .i64 m,.string s,.slice p n cap]] w (eL (aF o m s n) w):=by
 have e1:(o==2)=false:=by rw[beq_eq_false_iff_ne];omega
 have e2:(o==3)=false:=by rw[beq_eq_false_iff_ne];omega
 have e3:(o==24)=false:=by rw[beq_eq_false_iff_ne];omega
 rw[aF,if_pos ho];rcases ho with ho|ho
 all_goals
  go_enter Tryz.func129,Tryz.ntmps129;go_wp2_with fail;go_ret;exact⟨rfl,(Ext.refl _).alloc _⟩
theorem yQ(m:Int)(s:ByteArray)(p:Option Addr)(n cap:Nat)(w:World)(hn:n≤9223372036854775807):
 Calls Tryz.prog 129 #[.agg #[.int .i64 1,.int .i64 m,.string s,.slice p n cap]] w (eL (aF 1 m s n) w):=by
 have hq:aF 1 m s n=if m<0\/65535<m then 1 else if ¬s.toList=[]\/ci 1 n=false then 1 else 0:=by
  simp[aF,dN]
 generalize aF 1 m s n=r at *;have hop:=fun w=>iF 1 m s p n cap w hn;generalize ci 1 n=ob at *;have HO:=Lib.hid hop;clear hop;have HQ:=Lib.hid hq;clear hq;go_enter Tryz.func129,Tryz.ntmps129;go_wp2_with (first|(go_at_call 162;refine(HO.out _).mono ?_;rintro e w' ⟨rfl,hx⟩;obtain⟨c0,c1,c2,c3⟩:=hx.box4));all_goals go_ret
 all_goals (go_light;refine⟨cv ?_,(by first|exact hx.past.trans hy|exact hx.past|exact(Ext.refl _).alloc _)⟩;rw[HQ.out];first|(rw[if_pos (by omega)];done)|(rw[if_neg (by omega)];simp_all;done))
theorem D0(o m:Int)(s:ByteArray)(p:Option Addr)(n cap:Nat)(w:World)(hn:n≤9223372036854775807)(ho:o=3\/o=24)(hs:s.size≤9223372036854775807)(hk:o8 w):
 Calls Tryz.prog 129 #[.agg #[.int .i64 o,.int .i64 m,.string s,.slice p n cap]] w (eL (aF o m s n) w):=by
 have hq:aF o m s n=if ¬m=0 then 1 else if ci o n=false then 1 else if bt s=false then 7 else 0:=by
  rcases ho with rfl|rfl<;>simp[aF,dN]
 generalize aF o m s n=r at *;have hop:=fun w=>iF o m s p n cap w hn;generalize ci o n=ob at *;have HK:=Lib.hid hk;clear hk;have HO:=Lib.hid hop;clear hop;have HQ:=Lib.hid hq;clear hq;rcases ho with rfl|rfl;all_goals
 go_enter Tryz.func129,Tryz.ntmps129;go_wp2_with (first|(go_at_call 162;refine(HO.out _).mono ?_;rintro e w' ⟨rfl,hx⟩;obtain⟨c0,c1,c2,c3⟩:=hx.box4)|(go_at_call 49;refine(gO s _ hs (HK.out.ext hx.past)).mono ?_;rintro e w' ⟨rfl,hy⟩));all_goals go_ret
 all_goals (go_light;refine⟨cv ?_,(by first|exact hx.past.trans hy|exact hx.past|exact(Ext.refl _).alloc _)⟩;rw[HQ.out];simp_all;done)
theorem E6(m:Int)(s:ByteArray)(p:Option Addr)(n cap:Nat)(w:World)(hn:n≤9223372036854775807)(hs:s.size≤9223372036854775807)(hk:o8 w):
 Calls Tryz.prog 129 #[.agg #[.int .i64 2,.int .i64 m,.string s,.slice p n cap]] w (eL (aF 2 m s n) w):=by
 have hq:aF 2 m s n=if ¬m=0 then 1 else if ci 2 n=false then 1 else if fO s=false then 7 else 0:=by
  simp[aF,dN]
 generalize aF 2 m s n=r at *;have hop:=fun w=>iF 2 m s p n cap w hn;generalize ci 2 n=ob at *;have HK:=Lib.hid hk;clear hk;have HO:=Lib.hid hop;clear hop;have HQ:=Lib.hid hq;clear hq;go_enter Tryz.func129,Tryz.ntmps129;go_wp2_with (first|(go_at_call 162;refine(HO.out _).mono ?_;rintro e w' ⟨rfl,hx⟩;obtain⟨c0,c1,c2,c3⟩:=hx.box4)|(go_at_call 163;refine(CO s _ hs (HK.out.ext hx.past)).mono ?_;rintro e w' ⟨rfl,hy⟩;have d0:=hy.cell c0));all_goals go_ret
 all_goals (go_light;refine⟨cv ?_,(by first|exact hx.past.trans hy|exact hx.past|exact(Ext.refl _).alloc _)⟩;rw[HQ.out];simp_all;done)
theorem DC(o m:Int)(s:ByteArray)(p:Option Addr)(n cap:Nat)(w:World)(hn:n≤9223372036854775807)(h1:1≤o)(h25:o≤25)(n1:¬o=1)(n2:¬o=2)(n3:¬o=3)(n24:¬o=24):
 Calls Tryz.prog 129 #[.agg #[.int .i64 o,.int .i64 m,.string s,.slice p n cap]] w (eL (aF o m s n) w):=by
 have hq:aF o m s n=if ¬m=0 then 1 else if ¬s.toList=[]\/ci o n=false then 1 else 0:=by
  have:¬(o<1\/25<o):=by omega
  simp[aF,dN,this,n1,n2,n3,n24]
 generalize aF o m s n=r at *;have hop:=fun w=>iF o m s p n cap w hn;generalize ci o n=ob at *;have e1:(o==1)=false:=beq_eq_false_iff_ne.2 n1;have e1':(o != 1)=true:=bne_iff_ne.2 n1;have e2:(o==2)=false:=beq_eq_false_iff_ne.2 n2;have e3:(o==3)=false:=beq_eq_false_iff_ne.2 n3;have e24:(o==24)=false:=beq_eq_false_iff_ne.2 n24;clear n1 n2 n3 n24;have HO:=Lib.hid hop;clear hop;have HQ:=Lib.hid hq;clear hq;go_enter Tryz.func129,Tryz.ntmps129;go_wp2_with (first|(go_at_call 162;refine(HO.out _).mono ?_;rintro e w' ⟨rfl,hx⟩;obtain⟨c0,c1,c2,c3⟩:=hx.box4));all_goals go_ret
 all_goals (go_light;refine⟨cv ?_,(by first|exact hx.past.trans hy|exact hx.past|exact(Ext.refl _).alloc _)⟩;rw[HQ.out];simp_all;done)
theorem Fn(o m:Int)(s:ByteArray)(p:Option Addr)(n cap:Nat)(w:World)(hn:n≤9223372036854775807)(hs:s.size≤9223372036854775807)(hk:o8 w):
 Calls Tryz.prog 129 #[.agg #[.int .i64 o,.int .i64 m,.string s,.slice p n cap]] w (eL (aF o m s n) w):=by
 by_cases h:o<1\/25<o
 .exact Fm o m s p n cap w h
 by_cases h1:o=1
 .subst h1;exact yQ m s p n cap w hn
 by_cases h2:o=2
 .subst h2;exact E6 m s p n cap w hn hs hk
 by_cases h3:o=3\/o=24
 .exact D0 o m s p n cap w hn h3 hs hk
 exact DC o m s p n cap w hn (by omega) (by omega) h1 h2 (by omega) (by omega)
def tD(e:Ex):Int:=aF e.op e.num e.name e.args.length
theorem vC(s:ByteArray)(a b k:Nat)(h:k<(s.extract a b).size):(s.extract a b)[k]'h=s[a+k]'(by rw[RW]at h;omega):=by
 show(s.extract a b).data[k]'h=s.data[a+k]'_;simp only[RX,Array.getElem_extract]
theorem FZ{s:ByteArray}(h:fv s=true){k:Nat}(hk:k<s.size):fm (s[k]'hk).toNat=true:=by
 cases hf:fm (s[k]'hk).toNat with
 | true=>rfl
 | false=>rw[mg hk hf]at h;cases h
theorem DN{s:ByteArray}(h:fv s=true):0<s.size:=by
 apply Classical.byContradiction;intro hn;have:s.data.toList=[]:=List.eq_nil_of_length_eq_zero (by have:=Lib.size_eq s;omega);simp[fv,this,jf]at h
theorem qC{s:ByteArray}(h:bt s=true):fv s=true:=by simp[bt]at h;exact h.1.1
theorem vO(s:ByteArray):iz s=ki s:=by
 rw[RU];constructor
 .intro h;simp only[iz,RS,pJ,decide_eq_true_eq]at h;obtain⟨⟨h1,h2⟩,h3⟩:=h;obtain⟨o,ho⟩:=Int.eq_ofNat_of_zero_le h1;have hlt:=vJ ho;have hsome:=Lib.indexByte_some ho;have hA:iV s 91=s.extract 0 o:=by unfold iV;rw[ho,if_neg (by omega)];rfl
  have hB:kQ s 91=s.extract (o+1) s.size:=by unfold kQ;rw[ho,if_neg (by omega)];rfl
  rw[hA]at h2;rw[hB]at h3;by_cases hz:(s.extract (o+1) s.size).size=2
  .rw[jT hz]at h3;simp only[RS,decide_eq_true_eq,vC]at h3;have hz':=hz;rw[RW]at hz';have hw:=DN (qC h2);rw[RW]at hw;have e:s.size=o+3:=by omega
   have hn:¬s.size<4:=by omega
   have h91:(s[o]'hlt).toNat=91:=by
    have h:=hsome.1;rw[jk s o hlt]at h;have h':s[o]'hlt=91:=Option.some.inj h;rw[h'];rfl
   rw[oR hn];have i1:s.size-1=o+1+1:=by omega
   have i2:s.size-2=o+1+0:=by omega
   have i3:s.size-3=o:=by omega
   simp only[i1,i2,i3,RS,decide_eq_true_eq];exact⟨⟨⟨⟨h3.1.1,h91⟩,h3.1.2⟩,h3.2⟩,h2⟩
  .rw[oZ hz]at h3;cases h3
 .intro h;by_cases hn:s.size<4
  .rw[tr hn]at h;cases h
  .rw[oR hn]at h;simp only[RS,decide_eq_true_eq]at h;obtain⟨⟨⟨⟨h1,h2⟩,h3⟩,h4⟩,h5⟩:=h
   have hidx:Lib.indexByte s.data.toList 91=((s.size-3:Nat):Int):=by
    have hlen:=Lib.size_eq s
    have hat:s.data.toList[s.size-3]? = some 91:=by
     rw[jk s _ (by omega)]
     have:(s[s.size-3]'(by omega))=91:=by
      apply UInt8.toNat_inj.1;rw[h2];rfl
     rw[this]
    cases hi:Lib.indexByte s.data.toList 91 with
    | negSucc m=>
     have:=Lib.indexByte_ge s.data.toList 91;have hm:Lib.indexByte s.data.toList 91 = -1:=by omega
     exact absurd hat (Lib.indexByte_none hm _)
    | ofNat o=>
     have hs:=Lib.indexByte_some hi;have hlt:=vJ hi;by_cases h':o<s.size-3
     .have hw:=FZ (qC h5) (k:=o) (by rw[RW];omega);rw[vC]at hw
      have h9:(s[o]'hlt)=91:=by
       have h:=hs.1;rw[jk s o hlt]at h;exact Option.some.inj h
      simp only[Nat.zero_add]at hw;rw[h9]at hw;cases hw
     .by_cases h'':o=s.size-3
      .rw[h''];rfl
      .exact absurd hat (hs.2 _ (by omega))
   have hA:iV s 91=s.extract 0 (s.size-3):=by unfold iV;rw[hidx,if_neg (by omega)];rfl
   have hB:kQ s 91=s.extract (s.size-3+1) s.size:=by unfold kQ;rw[hidx,if_neg (by omega)];rfl
   have hz:(s.extract (s.size-3+1) s.size).size=2:=by rw[RW];omega
   simp only[iz,RS,pJ,decide_eq_true_eq];rw[hA,hB,hidx,jT hz];simp only[RS,decide_eq_true_eq,vC];have i1:s.size-3+1+1=s.size-1:=by omega
   have i2:s.size-3+1+0=s.size-2:=by omega
   have j1:(s[s.size-3+1+1]'(by omega)).toNat=93:=by simp only[i1];exact h1
   have j3:48≤(s[s.size-3+1+0]'(by omega)).toNat:=by simp only[i2];exact h3
   have j4:(s[s.size-3+1+0]'(by omega)).toNat<56:=by simp only[i2];exact h4
   exact⟨⟨by omega,h5⟩,⟨j1,j3⟩,j4⟩
theorem Dz(o m:Int)(s:ByteArray)(p:Option Addr)(n cap:Nat)(w:World)(hn:n≤9223372036854775807)(ho:o<1\/25<o):
 Calls Tryz.prog 178 #[.agg #[.int .i64 o,.int .i64 m,.string s,.slice p n cap]] w (eL (aF o m s n) w):=by
 have hq:aF o m s n=1:=by
  rw[aF,if_pos ho]
 generalize aF o m s n=r at *;have HQ:=Lib.hid hq;clear hq;rcases ho with ho|ho;all_goals
 go_enter Tryz.func178,Tryz.ntmps178;go_wp2_with (first|(go_at_call 206;refine(iP _ _).mono ?_;rintro e w' ⟨rfl,rfl⟩)|(go_at_call 207;refine(gK _ _).mono ?_;rintro e w' ⟨rfl,rfl⟩));all_goals go_ret
 all_goals (go_light;refine⟨cv ?_,(by first|exact hx.past|exact(Ext.refl _).alloc _)⟩;rw[HQ.out])
theorem xG(m:Int)(s:ByteArray)(p:Option Addr)(n cap:Nat)(w:World)(hn:n≤9223372036854775807):
 Calls Tryz.prog 178 #[.agg #[.int .i64 1,.int .i64 m,.string s,.slice p n cap]] w (eL (aF 1 m s n) w):=by
 have hq:aF 1 m s n=if m<0\/65535<m then 1 else if ¬s.toList=[]\/¬(n:Int)=cX 1 then 1 else 0:=by
  simp[aF,dN,ci]
 generalize aF 1 m s n=r at *;have hnm:dN 1=false:=rfl;have HQ:=Lib.hid hq;clear hq;go_enter Tryz.func178,Tryz.ntmps178;go_wp2_with (first|(go_at_call 206;refine(iP _ _).mono ?_;rintro e w' ⟨rfl,rfl⟩)|(go_at_call 207;refine(gK _ _).mono ?_;rintro e w' ⟨rfl,rfl⟩));all_goals go_ret
 all_goals (go_light;refine⟨cv ?_,(by first|exact hx.past|exact(Ext.refl _).alloc _)⟩;rw[HQ.out];first|(rw[if_pos (by omega)];done)|(rw[if_neg (by omega)];simp_all;done))
theorem AK(o m:Int)(s:ByteArray)(p:Option Addr)(n cap:Nat)(w:World)(hn:n≤9223372036854775807)(ho:o=3\/o=24)(hs:s.size≤9223372036854775807):
 Calls Tryz.prog 178 #[.agg #[.int .i64 o,.int .i64 m,.string s,.slice p n cap]] w (eL (aF o m s n) w):=by
 have hq:aF o m s n=if ¬m=0 then 1 else if ¬(n:Int)=cX o then 1 else if bt s=false then 7 else 0:=by
  rcases ho with rfl|rfl<;>simp[aF,dN,ci]
 generalize aF o m s n=r at *;have HQ:=Lib.hid hq;clear hq;have hnm:dN o=true:=by rcases ho with rfl|rfl<;>rfl
 rcases ho with rfl|rfl;all_goals
 go_enter Tryz.func178,Tryz.ntmps178;go_wp2_with (first|(go_at_call 206;refine(iP _ _).mono ?_;rintro e w' ⟨rfl,rfl⟩)|(go_at_call 207;refine(gK _ _).mono ?_;rintro e w' ⟨rfl,rfl⟩)|(go_at_call 37;refine(jH s _ hs).mono ?_;rintro e w' ⟨rfl,hx⟩;obtain⟨c0,c1,c2,c3⟩:=hx.box4));all_goals go_ret
 all_goals (go_light;refine⟨cv ?_,(by first|exact hx.past|exact(Ext.refl _).alloc _)⟩;rw[HQ.out];first|(simp_all;done)|(simp_all;omega))
theorem CN(m:Int)(s:ByteArray)(p:Option Addr)(n cap:Nat)(w:World)(hn:n≤9223372036854775807)(hs:s.size≤9223372036854775807):
 Calls Tryz.prog 178 #[.agg #[.int .i64 2,.int .i64 m,.string s,.slice p n cap]] w (eL (aF 2 m s n) w):=by
 have hq:aF 2 m s n=if ¬m=0 then 1 else if ¬(n:Int)=cX 2 then 1 else if fO s=false then 7 else 0:=by
  simp[aF,dN,ci]
 generalize aF 2 m s n=r at *;have hv:=fun w=>yZ s w hs;rw[<-vO]at hv;change ∀w,Calls _ _ _ _ (fun e w'=>e=.returned (.bool (fO s))/\Ext w w')at hv;have HV:=Lib.hid hv;clear hv;have hnm:dN 2=true:=rfl;have HQ:=Lib.hid hq;clear hq;go_enter Tryz.func178,Tryz.ntmps178;go_wp2_with (first|(go_at_call 206;refine(iP _ _).mono ?_;rintro e w' ⟨rfl,rfl⟩)|(go_at_call 207;refine(gK _ _).mono ?_;rintro e w' ⟨rfl,rfl⟩)|(go_at_call 208;refine(HV.out _).mono ?_;rintro e w' ⟨rfl,hx⟩;obtain⟨c0,c1,c2,c3⟩:=hx.box4));all_goals go_ret
 all_goals (go_light;refine⟨cv ?_,(by first|exact hx.past|exact(Ext.refl _).alloc _)⟩;rw[HQ.out];first|(simp_all;done)|(simp_all;omega))
theorem y6(o m:Int)(s:ByteArray)(p:Option Addr)(n cap:Nat)(w:World)(hn:n≤9223372036854775807)(h1:1≤o)(h25:o≤25)(n1:¬o=1)(n2:¬o=2)(n3:¬o=3)(n24:¬o=24)(n23:¬o=23):
 Calls Tryz.prog 178 #[.agg #[.int .i64 o,.int .i64 m,.string s,.slice p n cap]] w (eL (aF o m s n) w):=by
 have hq:aF o m s n=if ¬m=0 then 1 else if ¬s.toList=[]\/¬(n:Int)=cX o then 1 else 0:=by
  have:¬(o<1\/25<o):=by omega
  simp[aF,dN,ci,this,n1,n2,n3,n24,n23]
 generalize aF o m s n=r at *;have e1:(o==1)=false:=beq_eq_false_iff_ne.2 n1;have e1':(o != 1)=true:=bne_iff_ne.2 n1;have e2:(o==2)=false:=beq_eq_false_iff_ne.2 n2;have e23:(o==23)=false:=beq_eq_false_iff_ne.2 n23;have e23':(o != 23)=true:=bne_iff_ne.2 n23;have hnm:dN o=false:=by simp[dN,n2,n3,n24]
 clear n1 n2 n3 n24 n23;have HQ:=Lib.hid hq;clear hq;go_enter Tryz.func178,Tryz.ntmps178;go_wp2_with (first|(go_at_call 206;refine(iP _ _).mono ?_;rintro e w' ⟨rfl,rfl⟩)|(go_at_call 207;refine(gK _ _).mono ?_;rintro e w' ⟨rfl,rfl⟩));all_goals go_ret
 all_goals (go_light;refine⟨cv ?_,(by first|exact hx.past|exact(Ext.refl _).alloc _)⟩;rw[HQ.out];first|(simp_all;done)|(simp_all;omega))
theorem vf(m:Int)(s:ByteArray)(p:Option Addr)(n cap:Nat)(w:World)(hn:n≤9223372036854775807):
 Calls Tryz.prog 178 #[.agg #[.int .i64 23,.int .i64 m,.string s,.slice p n cap]] w (eL (aF 23 m s n) w):=by
 have hq:aF 23 m s n=if ¬m=0 then 1 else if ¬s.toList=[]\/¬((n:Int)%2=1/\3≤(n:Int)/\(n:Int)≤33)then 1 else 0:=by
  have h2:ci 23 n=decide ((n:Int)%2=1/\3≤(n:Int)/\(n:Int)≤33):=by
   simp only[ci,if_true];rw[RU];simp;omega
  simp only[aF,dN,h2,decide_eq_false_iff_not];simp
 generalize aF 23 m s n=r at *;have hnm:dN 23=false:=rfl;have HQ:=Lib.hid hq;clear hq;go_enter Tryz.func178,Tryz.ntmps178;go_wp2_with (first|(go_at_call 206;refine(iP _ _).mono ?_;rintro e w' ⟨rfl,rfl⟩)|(go_at_call 207;refine(gK _ _).mono ?_;rintro e w' ⟨rfl,rfl⟩));all_goals go_ret
 all_goals (go_light;refine⟨cv ?_,(by first|exact hx.past|exact(Ext.refl _).alloc _)⟩;rw[HQ.out];first|(simp_all;done)|(rw[if_neg (by omega),if_neg (by simp_all;omega)];done)|(rw[if_neg (by omega),if_pos (by simp_all;omega)];done)|(simp_all;omega))
theorem De(o m:Int)(s:ByteArray)(p:Option Addr)(n cap:Nat)(w:World)(hn:n≤9223372036854775807)(hs:s.size≤9223372036854775807):
 Calls Tryz.prog 178 #[.agg #[.int .i64 o,.int .i64 m,.string s,.slice p n cap]] w (eL (aF o m s n) w):=by
 by_cases h:o<1\/25<o
 .exact Dz o m s p n cap w hn h
 by_cases h1:o=1
 .subst h1;exact xG m s p n cap w hn
 by_cases h2:o=2
 .subst h2;exact CN m s p n cap w hn hs
 by_cases h3:o=3\/o=24
 .exact AK o m s p n cap w hn h3 hs
 by_cases h23:o=23
 .subst h23;exact vf m s p n cap w hn
 exact y6 o m s p n cap w hn (by omega) (by omega) h1 h2 (by omega) (by omega) h23
def Gf{σ:Type}(I:(Nat->Prop)->σ->World->Prop)(O:Nat->Prop)(r:σ×Bool)(w:World)(e:Ending)(w':World):Prop:=
 e=.returned (.bool r.2)/\∃O',I O' r.1 w'/\(∀k,O' k->O k\/w.heap.size≤k)/\Keep O w w'
theorem F9{σ:Type}{next:σ->Ex->σ×Bool}{I:(Nat->Prop)->σ->World->Prop}{Q:Ex->Prop}{w0:World}{F:FuncId}{cap:Array Value}
 (hF:∀args w,(callFunc F args).run Tryz.prog w=.ok (.enter F args) w)(H:Visits Tryz.prog w0 F cap next I Q)(b3 b4:Nat):
 ∀(e:Ex) (O:Nat->Prop) (s:σ) (w:World) (v:Value),Q e->Ext w0 w->gB w0 e v->I O s w->¬O b3->¬O b4->
  One b3 90 (.func (.func F) #[] cap) w->One b4 90 (.func (.func 161) #[] #[.pointer (some ⟨b3,0,none⟩),.pointer (some ⟨b4,0,none⟩)]) w->
  Calls Tryz.prog 161 #[v,.pointer (some ⟨b3,0,none⟩),.pointer (some ⟨b4,0,none⟩)] w (Gf I O (d7 next e s) w):=by
 intro e
 induction e using Ex.ind with
 | h o m nm l ih=>
  intro O s w v hq h0 hv hI n3 n4 h3 h4;have HQ:=Lib.hid hq;clear hq;have IH:=Lib.hid ih;clear ih;obtain⟨p,cp,rfl,hl,h1,h2,-,-,-⟩:=eN hv;simp only[Ex.op,Ex.num,Ex.name,Ex.args]at *;have HV:=Lib.hid hv;clear hv;have HL:=Lib.hid hl;clear hl;have HI:=Lib.hid hI;clear hI;have H0:=Lib.hid h0;clear h0;have N3:=Lib.hid n3;clear n3;have N4:=Lib.hid n4;clear n4;have c3:=h3.cell;have c4:=h4.cell;have l3:=h3.lt;have l4:=h4.lt;have H3:=Lib.hid h3;clear h3;have H4:=Lib.hid h4;clear h4;have HH:=Lib.hid H;clear H;have HL3:=Lib.hid l3;have HL4:=Lib.hid l4;have hw:d7 next (.mk o m nm l) s=if(next s (.mk o m nm l)).2 then ez next l (next s (.mk o m nm l)).1 else((next s (.mk o m nm l)).1,false):=by rw[d7]
  generalize hs1:(next s (.mk o m nm l)).1=s1 at hw;generalize hg1:(next s (.mk o m nm l)).2=g1 at hw;generalize d7 next (.mk o m nm l) s=R at *
  have HW:=Lib.hid hw;clear hw;have HS1:=Lib.hid hs1;clear hs1;have HG1:=Lib.hid hg1;clear hg1;go_enter Tryz.func161,Tryz.ntmps161;go_wp2_with fail;refine(HH.out.call HQ.out (H0.out.alloc _) (HH.out.stays HI.out (fun k hk=>Below.heap_alloc _ _ _ (HH.out.lt HI.out k hk).2)) HV.out).mono ?_;rintro en w1 ⟨rfl,O1,hI1,hO1,hk1⟩;rw[HS1.out]at hI1;rw[HG1.out];have n31:¬O1 b3:=fun hx=>(hO1 b3 hx).elim N3.out (fun h=>by simp at h;have:=HL3.out;omega);have n41:¬O1 b4:=fun hx=>(hO1 b4 hx).elim N4.out (fun h=>by simp at h;have:=HL4.out;omega);have n51:¬O1 w.heap.size:=fun hx=>(hO1 _ hx).elim (fun h=>by have:=(HH.out.lt HI.out _ h).2;omega) (fun h=>by simp at h;omega);have hkw:Keep O w w1:=(Keep.of_ext ((Ext.refl w).alloc _)).trans hk1 (fun x hx=>.inl hx);have hO1w:∀k,O1 k->O k\/w.heap.size≤k:=fun k hk=>(hO1 k hk).imp id (fun h=>by simp at h;omega)
  have h01:Ext w0 w1:=hkw.ext H0.out (fun k hk=>(HH.out.lt HI.out k hk).1);have c5:w1.cell? ⟨w.heap.size,3,none⟩=some (.slice p l.length cp):=hk1.cell (fun hx=>by have:=(HH.out.lt HI.out _ hx).2;simp at this) (by simp[World.cell?_alloc_new]);have g3:=One.keep hkw N3.out H3.out;have g4:=One.keep hkw N4.out H4.out;have HI1:=Lib.hid hI1;clear hI1;have HO1:=Lib.hid hO1;clear hO1;have HK1:=Lib.hid hk1;clear hk1;have N31:=Lib.hid n31;clear n31;have N41:=Lib.hid n41;clear n41;have N51:=Lib.hid n51;clear n51;have HKW:=Lib.hid hkw;clear hkw;have HO1W:=Lib.hid hO1w;clear hO1w;have H01:=Lib.hid h01;clear h01;have G3:=Lib.hid g3;clear g3;have G4:=Lib.hid g4;clear g4;clear c3 c4 l3 l4;cases g1 with
  | false=>
   go_wp2_with fail;go_ret;rw[HW.out];exact⟨rfl,O1,HI1.out,HO1W.out,HKW.out⟩
  | true=>
   go_wp2_with fail;go_loopw [14,6] (fun i _ wr=>∃(j:Nat) (O2:Nat->Prop) (s2:σ),i=.int .i64 j/\j≤l.length/\I O2 s2 wr/\(∀k,O2 k->O1 k\/w1.heap.size≤k)/\Keep O1 w1 wr/\ez next (l.drop j) s2=ez next l s1) (fun i _ _=>l.length-(intOf i).toNat);case atStart=>exact⟨0,O1,s1,rfl,R5 _,HI1.out,fun k hk=>.inl hk,Keep.refl _ _,rfl⟩
   case round=>
    obtain⟨j,O2,s2,rfl,hj,hI2,hO2,hk2,hrec⟩:=hrel;have HR:=Lib.hid hrec;clear hrec;have HI2:=Lib.hid hI2;clear hI2;have hO2w:∀k,O2 k->O k\/w.heap.size≤k:=fun k hk=>(hO2 k hk).elim (fun h=>HO1W.out k h) (fun h=>.inr (R0 HKW.out.size h));have hkw2:Keep O w wr:=HKW.out.trans hk2 HO1W.out;have HO2W:=Lib.hid hO2w;clear hO2w;have HKW2:=Lib.hid hkw2;clear hkw2;by_cases hlt:j<l.length
    .obtain⟨b,off,cs,rfl,hr,hc⟩:=y9 HL.out hlt;have h02:Ext w0 wr:=hk2.ext H01.out (fun k hk=>(HH.out.lt HI1.out k hk).1);obtain⟨sv,gv,gl,q2,q3,q4,q5⟩:=yG hr hc;obtain⟨p',cp',rfl,-,-⟩:=lL gl;clear gl;have r2:=h02.cell q2;have r3:=h02.cell q3;have r4:=h02.cell q4;have r5:=h02.cell q5;clear q2 q3 q4 q5 hr hc;have n32:¬O2 b3:=fun hx=>(hO2 b3 hx).elim N31.out (fun h=>by have:=HL3.out;have:=HKW.out.size;omega);have n42:¬O2 b4:=fun hx=>(hO2 b4 hx).elim N41.out (fun h=>by have:=HL4.out;have:=HKW.out.size;omega);have f3:=(One.keep hk2 N31.out G3.out)
     have f4:=(One.keep hk2 N41.out G4.out)
     have d4:=f4.cell;have e4:=f4.lt;have F3:=Lib.hid f3;clear f3;have F4:=Lib.hid f4;clear f4;have N32:=Lib.hid n32;clear n32;have N42:=Lib.hid n42;clear n42;have H02:=Lib.hid h02;clear h02;have HO2:=Lib.hid hO2;clear hO2;have HK2:=Lib.hid hk2;clear hk2;have GV:=Lib.hid gv;clear gv
     have hwl:ez next (l.drop j) s2=if(d7 next l[j] s2).2 then ez next (l.drop (j+1)) (d7 next l[j] s2).1 else((d7 next l[j] s2).1,false):=by
      rw[RY hlt,ez]
     have HWL:=Lib.hid hwl;clear hwl;go_wp2_with fail;refine(IH.out l[j] (by simp) O2 s2 _ _ (HH.out.sub HQ.out _ (by simp)) (H02.out.alloc _) GV.out (HH.out.stays HI2.out (fun k hk=>Below.heap_alloc _ _ _ (HH.out.lt HI2.out k hk).2)) N32.out N42.out (F3.out.alloc _) (F4.out.alloc _)).mono ?_;rintro en w2 ⟨rfl,O3,hI3,hO3,hk3⟩;have hk3':Keep O2 wr w2:=(Keep.of_ext ((Ext.refl wr).alloc _)).trans hk3 (fun x hx=>.inl hx);have hO3':∀k,O3 k->O2 k\/wr.heap.size≤k:=fun k hk=>(hO3 k hk).imp id (fun h=>by simp at h;omega);have hK13:Keep O1 w1 w2:=HK2.out.trans hk3' HO2.out;have hO13:∀k,O3 k->O1 k\/w1.heap.size≤k:=fun k hk=>(hO3' k hk).elim (fun h=>HO2.out k h) (fun h=>.inr (R0 HK2.out.size h));have HI3:=Lib.hid hI3;clear hI3;have HO13:=Lib.hid hO13;clear hO13;have HK13:=Lib.hid hK13;clear hK13;clear hO3 hk3 hk3' hO3';generalize hr3:(d7 next l[j] s2).1=s3 at *
     have HR3:=Lib.hid hr3;clear hr3;cases hg:(d7 next l[j] s2).2 with
     | false=>
      go_wp2_with fail;go_ret;have h9:=HWL.out;rw[hg]at h9;rw[HW.out,if_pos trivial,<-HR.out,h9,if_neg (by simp)];exact⟨rfl,O3,HI3.out,fun k hk=>(HO13.out k hk).elim (fun h=>HO1W.out k h) (fun h=>.inr (R0 HKW.out.size h)),HKW.out.trans HK13.out HO1W.out⟩
     | true=>
      have h9:=HWL.out;rw[hg,if_pos rfl]at h9;have H9:=Lib.hid h9;clear h9;go_wp2_with fail;go_roundw;case rel=>exact⟨j+1,O3,s3,by go_num,by omega,HI3.out,HO13.out,HK13.out,by rw[<-HR.out,H9.out]⟩
      case measure=>simp[intOf];omega
    .have:j=l.length:=by omega
     subst this;go_wp2_with fail;go_ret;have hr:=HR.out;simp only[List.drop_length,ez]at hr;rw[HW.out,if_pos trivial,<-hr];exact⟨rfl,O2,HI2.out,HO2W.out,HKW2.out⟩
def xe{σ:Type}(I:(Nat->Prop)->σ->World->Prop)(O:Nat->Prop)(s:σ)(w:World)(e:Ending)(w':World):Prop:=
 e=.returned (.tuple #[])/\∃O',I O' s w'/\(∀k,O' k->O k\/w.heap.size≤k)/\Keep O w w'
theorem qS{σ:Type}{next:σ->Ex->σ×Bool}{I:(Nat->Prop)->σ->World->Prop}{Q:Ex->Prop}{w0:World}{F:FuncId}{cap:Array Value}
 (hF:∀args w,(callFunc F args).run Tryz.prog w=.ok (.enter F args) w)(H:Visits Tryz.prog w0 F cap next I Q)
 (e:Ex)(O:Nat->Prop)(s:σ)(w:World)(v:Value)(hq:Q e)(h0:Ext w0 w)(hv:gB w0 e v)(hI:I O s w):
   Calls Tryz.prog 127 #[v,.func (.func F) #[] cap] w (xe I O (d7 next e s).1 w):=by
 obtain⟨p,cp,rfl,hl,h1,h2,-,-,-⟩:=eN hv;have HV:=Lib.hid hv;clear hv;have HI:=Lib.hid hI;clear hI;have H0:=Lib.hid h0;clear h0;have HH:=Lib.hid H;clear H;clear hl;go_enter Tryz.func127,Tryz.ntmps127;go_wp2_with fail;have hl0:∀k,O k->k<w.heap.size:=fun k hk=>(HH.out.lt HI.out k hk).2;have e1:=((Ext.refl w).alloc (.cells #[.int .i64 e.op,.int .i64 e.num,.string e.name,.slice p e.args.length cp] 24)).alloc (.cells #[.func (.func F) #[] cap] 90)
 have o3:One (w.heap.size+1) 90 (.func (.func F) #[] cap) ((w.alloc (.cells #[.int .i64 e.op,.int .i64 e.num,.string e.name,.slice p e.args.length cp] 24)).alloc (.cells #[.func (.func F) #[] cap] 90)):=by
  have:=One.new (w.alloc (.cells #[.int .i64 e.op,.int .i64 e.num,.string e.name,.slice p e.args.length cp] 24)) 90 (.func (.func F) #[] cap);simpa using this
 have o4:=fun u=>One.new ((w.alloc (.cells #[.int .i64 e.op,.int .i64 e.num,.string e.name,.slice p e.args.length cp] 24)).alloc (.cells #[.func (.func F) #[] cap] 90)) 90 u;simp only[World.size_alloc]at o4;refine(F9 hF HH.out (w.heap.size+1) (w.heap.size+1+1) e O s _ _ hq (H0.out.trans (e1.alloc _)) HV.out (HH.out.stays HI.out (fun k hk=>(e1.alloc _).block k (hl0 k hk))) (fun hx=>by have:=hl0 _ hx;omega) (fun hx=>by have:=hl0 _ hx;omega) (o3.alloc _) (o4 _)).mono ?_;rintro en w1 ⟨rfl,O1,hI1,hO1,hk1⟩;have hk:Keep O w w1:=(Keep.of_ext (e1.alloc _)).trans hk1 (fun x hx=>.inl hx);have hO:∀k,O1 k->O k\/w.heap.size≤k:=fun k hk=>(hO1 k hk).imp id (fun h=>by simp at h;omega);clear hk1 hO1 e1 o3 o4;go_wp2_with fail;go_end0;exact⟨rfl,O1,hI1,hO,hk⟩
theorem ji{P:Program}{f:FuncId}{fn:Func}(hf:P.funcs[f]? = some fn)(hn:(fn.name == "runtime.NumGoroutine")=false)(hb:fn.body.isNone=false):
 ∀args w,(callFunc f args).run P w=.ok (.enter f args) w:=fun args w=>by
 have h1:fn.name ≠ "runtime.NumGoroutine" := by simpa using hn
 have h2:fn.body≠none:=fun h=>by rw[h]at hb;cases hb
 simp[callFunc,hf,h1,h2]
mutual
def aT:Ex->Nat
 | .mk _ _ _ l=>ba l+1
def ba:List Ex->Nat
 | []=>0
 | a::r=>aT a+ba r
end
def ly(n:Int)(_:Ex):Int×Bool:=(wrap64 (n+1),true)
def Nl(b:Nat)(O:Nat->Prop)(n:Int)(w:World):Prop:=(∀k,O k↔k=b)/\One b 3 (.int .i64 n) w
theorem ym(w0:World)(b:Nat)(hb:w0.heap.size≤b):Visits Tryz.prog w0 164 #[.pointer (some ⟨b,0,none⟩)] ly (Nl b) (fun _=>True) where
 sub:=fun _ _ _=>trivial
 stays:=fun h hs=>⟨h.1,by unfold One;rw[hs b ((h.1 b).2 rfl)];exact h.2⟩
 lt:=fun h k hk=>by have:=(h.1 k).1 hk;subst this;exact⟨hb,h.2.lt⟩
 call:=by
  intro O s w e v _ h0 hI hv;obtain⟨p,cp,rfl,hl,h1,h2,-,-,-⟩:=eN hv;have c0:=hI.2.cell;have f0:=hI.2.frozen;have l0:=hI.2.lt;have HI:=Lib.hid hI;clear hI;clear hv hl;go_enter Tryz.func164,Tryz.ntmps164;go_wp2_with fail;go_ret;exact⟨rfl,O,⟨HI.out.1,(HI.out.2.set _).alloc _⟩,fun k hk=>.inl hk,((Keep.refl O w).setCell (.inl ((HI.out.1 b).2 rfl)) _).alloc _⟩
theorem sT(a b:Int):wrap64 (wrap64 a+b)=wrap64 (a+b):=by unfold wrap64;omega
theorem uo(a:Int)(h1 : -9223372036854775808≤a)(h2:a≤9223372036854775807):wrap64 a=a:=by unfold wrap64;omega
theorem Ed(e:Ex):∀n,(d7 ly e n)=(wrap64 (n+aT e),true):=by
 induction e using Ex.ind with
 | h o m s l ih=>
  intro n
  suffices H:∀(r:List Ex),(∀a,a∈r->a∈l)->∀n,ez ly r (wrap64 n)=(wrap64 (n+ba r),true)by
   simp only[d7,ly,if_true,aT];rw[H l (fun _ h=>h)];congr 2;omega
  intro r
  induction r with
  | nil=>intro _ n;simp[ez,ba]
  | cons a r ihr=>
   intro hm n;simp only[ez,ih a (hm a (by simp)),if_true,ba];rw[sT,ihr (fun x hx=>hm x (by simp[hx]))];congr 2;omega
theorem HA(e:Ex)(w:World)(v:Value)(hv:gB w e v):
 Calls Tryz.prog 131 #[v] w fun en w'=>en=.returned (.int .i64 (wrap64 (aT e)))/\Ext w w':=by
 obtain⟨p,cp,rfl,hl,h1,h2,-,-,-⟩:=eN hv;have HV:=Lib.hid hv;clear hv;clear hl
 have hW:=qS (σ:=Int) (Q:=fun _=>True) (F:=164) (next:=ly) (ji Tryz.func164 (by kernel_rfl) (by kernel_rfl)) (ym (w.alloc (.cells #[.int .i64 e.op,.int .i64 e.num,.string e.name,.slice p e.args.length cp] 24)) (w.heap.size+1) (by simp)) e
  (fun k=>k=w.heap.size+1) 0 ((w.alloc (.cells #[.int .i64 e.op,.int .i64 e.num,.string e.name,.slice p e.args.length cp] 24)).alloc (.cells #[.int .i64 0] 3)) _ trivial ((Ext.refl _).alloc _) (HV.out.ext ((Ext.refl w).alloc _)) ⟨fun k=>Iff.rfl,by simpa using One.new (w.alloc (.cells #[.int .i64 e.op,.int .i64 e.num,.string e.name,.slice p e.args.length cp] 24)) 3 (.int .i64 0)⟩
 rw[Ed]at hW;have HW:=Lib.hid hW;clear hW;go_enter Tryz.func131,Tryz.ntmps131;go_wp2_with fail;refine HW.out.mono ?_;rintro en w1 ⟨rfl,O1,hI1,hO1,hk1⟩;have c0:=hI1.2.cell
 have hx:Ext w w1:=by
  have h:=hk1.ext (w0:=w) (((Ext.refl w).alloc _).alloc _) (fun x hx=>by omega);exact h
 clear hI1 hO1 hk1;go_wp2_with fail;go_ret;exact⟨cv (by simp),hx⟩
mutual
def dF:Ex->Int
 | .mk o m s l=>if aF o m s l.length=0 then kC l else aF o m s l.length
def kC:List Ex->Int
 | []=>0
 | a::r=>if dF a=0 then kC r else dF a
end
def nG(_:Int)(e:Ex):Int×Bool:=(tD e,tD e==0)
theorem Hu(e:Ex):∀n,d7 nG e n=(dF e,dF e==0):=by
 induction e using Ex.ind with
 | h o m s l ih=>
  intro n
  have H:∀(r:List Ex),(∀a,a∈r->a∈l)->ez nG r 0=(kC r,kC r==0):=by
   intro r
   induction r with
   | nil=>intro _;simp[ez,kC]
   | cons a r ihr=>
    intro hm;simp only[ez,ih a (hm a (by simp)),kC];by_cases h:dF a=0
    .rw[h];simp only[BEq.rfl,if_true];exact ihr (fun x hx=>hm x (by simp[hx]))
    .simp[h]
  simp only[d7,nG,dF,tD,Ex.op,Ex.num,Ex.name,Ex.args];by_cases h:aF o m s l.length=0
  .simp[h,H l (fun _ h=>h)]
  .simp[h]
def KO(b:Nat)(O:Nat->Prop)(n:Int)(w:World):Prop:=(∀k,O k↔k=b)/\One b 30 (.int .i64 n) w
theorem vo(w0:World)(b:Nat)(hb:w0.heap.size≤b)(hk:o8 w0):Visits Tryz.prog w0 128 #[.pointer (some ⟨b,0,none⟩)] nG (KO b) (fun _=>True) where
 sub:=fun _ _ _=>trivial
 stays:=fun h hs=>⟨h.1,by unfold One;rw[hs b ((h.1 b).2 rfl)];exact h.2⟩
 lt:=fun h k hk=>by have:=(h.1 k).1 hk;subst this;exact⟨hb,h.2.lt⟩
 call:=by
  intro O s w e v _ h0 hI hv;obtain⟨p,cp,rfl,hl,h1,h2,-,-,h3⟩:=eN hv;have c0:=hI.2.cell;have l0:=hI.2.lt;have HI:=Lib.hid hI;clear hI;have HK:=Lib.hid (hk.ext h0);clear hk;have hlen:e.args.length≤9223372036854775807:=by omega
  have hn:=fun w hk=>Fn e.op e.num e.name p e.args.length cp w hlen h3 hk;change ∀w hk,Calls _ _ _ _ (eL (tD e) w)at hn;have HN:=Lib.hid hn;clear hn;clear hv hl;go_enter Tryz.func128,Tryz.ntmps128;go_wp2_with fail;refine(HN.out _ (HK.out.ext ((Ext.refl w).alloc _))).mono ?_;rintro en w1 ⟨rfl,hx⟩;have o1:=(One.keep (Keep.of_ext (O:=fun _=>False) hx.past) id HI.out.2)
  have c1:=o1.cell;have f1:=o1.frozen;have HX:=Lib.hid hx.past;clear hx;have O1:=Lib.hid o1;clear o1;clear c0;go_wp2_with fail;go_ret;exact⟨rfl,O,⟨HI.out.1,O1.out.set _⟩,fun k hk=>.inl hk,(Keep.of_ext HX.out).setCell (.inl ((HI.out.1 b).2 rfl)) _⟩
def aH(e:Ex):Int:=if dF e=0/\(24<ce e\/400<aT e)then 2 else dF e
theorem DB(e:Ex)(w:World)(v:Value)(hv:gB w e v)(hk:o8 w)(hd:ce e≤1000000)(hs:aT e≤1000000):
 Calls Tryz.prog 91 #[v] w fun en w'=>en=.returned (.int .i64 (aH e))/\Ext w w':=by
 have hq:aH e=if dF e=0/\(24<ce e\/400<aT e)then 2 else dF e:=rfl
 generalize aH e=R at *;have HQ:=Lib.hid hq;clear hq;obtain⟨p,cp,rfl,hl,h1,h2,-,-,-⟩:=eN hv;have HV:=Lib.hid hv;clear hv;clear hl
 have hW:=qS (σ:=Int) (Q:=fun _=>True) (F:=128) (next:=nG) (ji Tryz.func128 (by kernel_rfl) (by kernel_rfl)) (vo (w.alloc (.cells #[.int .i64 e.op,.int .i64 e.num,.string e.name,.slice p e.args.length cp] 24)) (w.heap.size+1) (by simp) (hk.ext ((Ext.refl w).alloc _))) e
  (fun k=>k=w.heap.size+1) 0 ((w.alloc (.cells #[.int .i64 e.op,.int .i64 e.num,.string e.name,.slice p e.args.length cp] 24)).alloc (.cells #[.int .i64 0] 30)) _ trivial ((Ext.refl _).alloc _) (HV.out.ext ((Ext.refl w).alloc _)) ⟨fun k=>Iff.rfl,by simpa using One.new (w.alloc (.cells #[.int .i64 e.op,.int .i64 e.num,.string e.name,.slice p e.args.length cp] 24)) 30 (.int .i64 0)⟩
 rw[Hu]at hW;have HW:=Lib.hid hW;clear hW;have hsz:wrap64 (aT e:Int)=(aT e:Int):=uo _ (by omega) (by omega);have hS:=fun w hv=>HA e w (.agg #[.int .i64 e.op,.int .i64 e.num,.string e.name,.slice p e.args.length cp]) hv;rw[hsz]at hS;have HS:=Lib.hid hS;clear hS hsz;have hD:=fun w hv=>DO e (.agg #[.int .i64 e.op,.int .i64 e.num,.string e.name,.slice p e.args.length cp]) w hd hv;have HD:=Lib.hid hD;clear hD;have hd0:(0:Int)≤ce e:=by omega
 generalize dF e=er at *;go_enter Tryz.func91,Tryz.ntmps91;go_wp2_with fail;refine HW.out.mono ?_;rintro en w1 ⟨rfl,O1,hI1,hO1,hk1⟩;have c0:=hI1.2.cell;have hx:Ext w w1:=hk1.ext (w0:=w) (((Ext.refl w).alloc _).alloc _) (fun x hx=>by omega);have b0:∀q:Nat,q=w.heap.size->¬(q=w.heap.size+1):=fun q h=>by omega
 have d0:w1.cell? ⟨w.heap.size,0,none⟩=some (.int .i64 e.op):=hk1.cell (by simp) (by simp[World.cell?_alloc_new]);have d1:w1.cell? ⟨w.heap.size,1,none⟩=some (.int .i64 e.num):=hk1.cell (by simp) (by simp[World.cell?_alloc_new]);have d2:w1.cell? ⟨w.heap.size,2,none⟩=some (.string e.name):=hk1.cell (by simp) (by simp[World.cell?_alloc_new]);have d3:w1.cell? ⟨w.heap.size,3,none⟩=some (.slice p e.args.length cp):=hk1.cell (by simp) (by simp[World.cell?_alloc_new]);have HX:=Lib.hid hx;clear hx;clear hI1 hO1 hk1 b0;go_wp2_with (first|(go_at_call 130;refine(HD.out _ (HV.out.ext HX.out)).mono ?_;rintro e w' ⟨rfl,hy⟩;have q0:=hy.cell c0;have q1:=hy.cell d0;have q2:=hy.cell d1;have q3:=hy.cell d2;have q4:=hy.cell d3)|(go_at_call 131;refine(HS.out _ (HV.out.ext (HX.out.trans hy))).mono ?_;rintro e w' ⟨rfl,hz⟩;have q5:=hz.cell q0));all_goals go_ret
 all_goals (go_light;refine⟨cv ?_,(by first|exact(HX.out.trans hy).trans hz|exact HX.out.trans hy|exact HX.out)⟩;rw[HQ.out];first|(rw[if_pos (by omega)];done)|(rw[if_neg (by omega)];done)|(rw[if_neg (by omega)];omega))
def s8:List Int->Int->Nat->Int
 | [],_,_=>-1
 | a::r,s,i=>if s=a then i else s8 r s (i+1)
theorem JS(l:List Int)(s:Int):∀i:Nat,(0≤s8 l s i↔s∈l):=by
 induction l with
 | nil=>intro i;simp[s8]
 | cons a r ih=>
  intro i;simp only[s8,RZ];split
  .rename_i h;simp[h]
  .rename_i h;rw[ih];simp[h]
theorem zk(l:List Int)(s:Int)(v:Value)(w:World)(hv:iH w l v):
 Calls Tryz.prog 227 #[v,.int .i64 s] w fun e w'=>e=.returned (.int .i64 (s8 l s 0))/\w=w':=by
 have hv':=hv;obtain⟨p,cap,rfl,h1,h2,h3⟩:=hv';have H3:=Lib.hid h3;clear h3;have HV:=Lib.hid hv;clear hv;go_enter Tryz.func227,Tryz.ntmps227;go_wp2_with fail;go_loop [8,5] (fun i _=>∃j:Nat,i=.int .i64 j/\j≤l.length/\s8 (l.drop j) s j=s8 l s 0) (fun i _=>l.length-(intOf i).toNat);case atStart=>exact⟨0,rfl,R5 _,rfl⟩
 case round=>
  obtain⟨j,rfl,hj,hrec⟩:=hrel;have HR:=Lib.hid hrec;clear hrec;by_cases hlt:j<l.length
  .obtain⟨b,off,rfl,hc⟩:=I7 HV.out hlt;by_cases he:s=l[j]
   .have he':(s==l[j])=true:=by simpa using he
    have HE:=Lib.hid he;clear he;go_wp2_with fail;go_ret;exact⟨cv (by rw[<-HR.out,RY hlt,s8,if_pos HE.out]),rfl⟩
   .have he':(s==l[j])=false:=by simpa using he
    go_wp2_with fail;go_round;case rel=>exact⟨j+1,by go_num,by omega,by rw[<-HR.out,RY hlt,s8,if_neg he]⟩
    case measure=>simp[intOf];omega
  .have:j=l.length:=by omega
   subst this;go_wp2_with fail;go_ret;exact⟨cv (by rw[<-HR.out];simp[s8]),rfl⟩
theorem jO(l:List Int)(s:Int)(v:Value)(w:World)(hv:iH w l v):
 Calls Tryz.prog 204 #[v,.int .i64 s] w fun e w'=>e=.returned (.bool (decide (s∈l)))/\w=w':=by
 have hi:=JS l s 0;have HI:=Lib.hid hi;clear hi;go_enter Tryz.func204,Tryz.ntmps204;go_wp2_with (go_at_call 227;refine(zk _ _ _ _ hv).mono ?_;rintro e w' ⟨rfl,rfl⟩);go_ret;exact⟨aL (by rw[RU,decide_eq_true_iff];simpa using HI.out),rfl⟩
mutual
def kV:Ex->List ByteArray
 | .mk _ _ s l=>s::CJ l
def CJ:List Ex->List ByteArray
 | []=>[]
 | a::r=>kV a++CJ r
end
theorem yA{l:List Ex}{a:Ex}(h:a∈l){s:ByteArray}(hs:s∈kV a):s∈CJ l:=by
 induction l with
 | nil=>cases h
 | cons b r ih=>
  simp only[CJ,List.mem_append];rcases List.mem_cons.1 h with h|h
  .subst h;exact .inl hs
  .exact .inr (ih h)
theorem yC(e:Ex):(kV e).length=aT e:=by
 induction e using Ex.ind with
 | h o m s l ih=>
  have H:∀(r:List Ex),(∀a,a∈r->a∈l)->(CJ r).length=ba r:=by
   intro r
   induction r with
   | nil=>intro _;rfl
   | cons a r ihr=>intro hm;simp only[CJ,ba,List.length_append,ih a (hm a (by simp)),ihr (fun x hx=>hm x (by simp[hx]))]
  simp only[kV,aT,List.length_cons,H l (fun _ h=>h)]
def dI(ops:List Int)(l:List ByteArray)(op:Int)(s:ByteArray):List ByteArray:=if op∈ops/\inB s l=false then l++[s]else l
def ck(ops:List Int)(l:List ByteArray)(e:Ex):List ByteArray×Bool:=(dI ops l e.op e.name,true)
structure NameIn(bo:Nat)(N:List ByteArray)(O:Nat->Prop)(l:List ByteArray)(w:World)(v:Value):Prop where
 own:∀k,O k↔(k=bo\/v.ownBlock=some k)
 one:One bo 92 v w
 row:w.ownsRow 0 9 1 v l.length (l.map Value.string)
 ne:v.ownBlock≠some bo
 lo:∀k,v.ownBlock=some k->bo≤k
 nodup:l.Nodup
 sub:∀s,s∈l->s∈N
def FF(bo:Nat)(N:List ByteArray)(O:Nat->Prop)(l:List ByteArray)(w:World):Prop:=∃v,NameIn bo N O l w v
theorem Tryz.infoS:(Tryz.prog.info? 9).map (fun i=>(i.zero,i.size,i.bytes))=some (some (.string ⟨#[]⟩),1,16):=by kernel_rfl
theorem uN(w0:World)(ops:List Int)(bp bo:Nat)(hb:w0.heap.size≤bo)(vp:Value)(hp:w0.cell? ⟨bp,0,none⟩=some vp)(hops:iH w0 ops vp)(N:List ByteArray)(hN:N.length≤1000000):
 Visits Tryz.prog w0 203 #[.pointer (some ⟨bp,0,none⟩),.pointer (some ⟨bo,0,none⟩)] (ck ops) (FF bo N) (fun e=>∀s,s∈kV e->s∈N) where
 sub:=fun h a ha s hs=>h s (by simp only[kV,RZ];exact .inr (yA ha hs))
 stays:=by
  rintro O s w w' ⟨v,h⟩ hs;have h1:One bo 92 v w':=by unfold One;rw[hs bo ((h.own bo).2 (.inl rfl))];exact h.one
  refine⟨v,h.own,h1,?_,h.ne,h.lo,h.nodup,h.sub⟩;refine⟨h.row.1,h.row.2.imp id ?_⟩;rintro⟨g,cap,cur,rfl,hb,hh,hr⟩;exact⟨g,cap,cur,rfl,hb,by rw[hs g ((h.own g).2 (.inr rfl))];exact hh,hr⟩
 lt:=by
  rintro O s w ⟨v,h⟩ k hk;rcases(h.own k).1 hk with rfl|hk
  .exact⟨hb,h.one.lt⟩
  .have:=h.row.lt k hk;have:=h.lo k hk;omega
 call:=by
  rintro O l w e v hq h0 ⟨u,hI⟩ hv;obtain⟨p,cp,rfl,hl,h1,h2,-,-,h3⟩:=eN hv;have c0:=hI.one.cell;have l0:=hI.one.lt;have cp0:=h0.cell hp
  have lp0:bp<w.heap.size:=by
   have:=hp;unfold World.cell? at this;split at this
   .rename_i h9;have:=(Array.getElem?_eq_some_iff.1 h9).1;have:=h0.size;simp at *;omega
   .cases this
  have HP:=Lib.hid (hops.ext h0);have HI:=Lib.hid hI;clear hI;have HQ:=Lib.hid hq;clear hq;clear hv hl hp hops;by_cases hop:e.op∈ops
  .by_cases hin:inB e.name l=false
   .have hd:decide (e.op∈ops)=true:=decide_eq_true hop;have hlen:l.length≤1000000:=R0 (ny HI.out.nodup HI.out.sub) hN;obtain⟨i0,hi,hz0,hz1,hz2⟩:=info_parts Tryz.infoS;have HOP:=Lib.hid hop;clear hop;have HIN:=Lib.hid hin;go_enter Tryz.func203,Tryz.ntmps203;go_wp2_with (first|(go_at_call 204;refine(jO ops _ _ _ (HP.out.ext ((Ext.refl w).alloc _))).mono ?_;rintro e w' ⟨rfl,rfl⟩)|(go_at_call 121;refine(iM l _ _ _ (jl (HI.out.row.alloc _))).mono ?_;rintro e w' ⟨rfl,rfl⟩)|(at_builtin;refine sN _ rfl (.tmp 16) (.tmp 19) 92 rfl 9 i0 (.string ⟨#[]⟩) 1 16 Tryz.underlying92 hi hz0 hz1 hz2 rfl (by decide) u l.length (l.map Value.string) rfl ((HI.out.row.alloc _).alloc _) ⟨w.heap.size+1,0,none⟩ 1 1 [.string e.name] rfl rfl ?c1 ?c2 ?c3 ?c4 (by decide) ?_));case c1=>exact D3 _ _ _ _
    case c2=>intro x hx;simp at hx;subst hx;rfl
    case c3=>unfold maxLen;omega
    case c4=>omega
    intro g cap1 w1 hgr;have hk1:Keep (fun k=>u.ownBlock=some k) w w1:=(((Keep.refl _ w).alloc _).alloc _).grown hgr.grown (fun k hk=>.inl hk);have o1:One bo 92 u w1:=One.keep hk1 HI.out.ne HI.out.one;have c1:=o1.cell;have f1:=o1.frozen;have l1:=o1.lt;clear hi hz0 hz1 hz2 hlen;have hnew:u.ownBlock=some g\/w.heap.size≤g:=hgr.new.imp id (fun h=>by simp at h;omega)
    have hgb:g≠bo:=fun h=>by rcases hnew with hn|hn
                             .exact HI.out.ne (h▸hn)
                             .omega
    have hgl:bo≤g:=by rcases hnew with hn|hn
                      .exact HI.out.lo g hn
                      .omega
    have hrow:=hgr.row;have HROW:=Lib.hid hrow;clear hrow;have O1:=Lib.hid o1;clear o1;have HK1:=Lib.hid hk1;clear hk1;have HNEW:=Lib.hid hnew;clear hnew;have HGB:=Lib.hid hgb;clear hgb;have HGL:=Lib.hid hgl;clear hgl;clear hgr;go_wp2_with fail;go_ret;refine⟨rfl,fun k=>k=bo\/k=g,?_,?_,?_⟩
    .simp only[ck,dI];rw[if_pos ⟨HOP.out,HIN.out⟩];refine⟨.slice (some ⟨g,0,none⟩) (l.length+1) cap1,fun k=>?_,O1.out.set _,?_,fun h=>HGB.out (by simpa[Value.ownBlock]using h),fun k hk=>?_,?_,?_⟩
     .simp[Value.ownBlock,eq_comm]
     .have:=ownsRow_setCell_other HROW.out (a:=⟨bo,0,none⟩) (fun h=>HGB.out (by simpa[Value.ownBlock]using h)) (.slice (some ⟨g,0,none⟩) (l.length+1) cap1);simpa using this
     .have:g=k:=by simpa[Value.ownBlock]using hk
      rw[<-this];exact HGL.out
     .exact List.nodup_append.2 ⟨HI.out.nodup,by simp,fun a ha b hb=>by simp at hb;subst hb;exact fun e'=>lK.1 HIN.out (e'▸ha)⟩
     .intro s hs;rcases List.mem_append.1 hs with h|h
      .exact HI.out.sub s h
      .simp at h;subst h;exact HQ.out _ (by cases e;simp[kV,Ex.name])
    .intro k hk;rcases hk with rfl|rfl
     .exact .inl ((HI.out.own _).2 (.inl rfl))
     .exact HNEW.out.imp (fun h=>(HI.out.own _).2 (.inr h)) id
    .exact(HK1.out.mono (fun k hk=>(HI.out.own k).2 (.inr hk))).setCell (.inl ((HI.out.own bo).2 (.inl rfl))) _
   .have hin':inB e.name l=true:=by simpa using hin
    have hd:decide (e.op∈ops)=true:=decide_eq_true hop;have HOP:=Lib.hid hop;clear hop;have HIN:=Lib.hid hin;clear hin;go_enter Tryz.func203,Tryz.ntmps203;go_wp2_with (first|(go_at_call 204;refine(jO ops _ _ _ (HP.out.ext ((Ext.refl w).alloc _))).mono ?_;rintro e w' ⟨rfl,rfl⟩)|(go_at_call 121;refine(iM l _ _ _ (jl (HI.out.row.alloc _))).mono ?_;rintro e w' ⟨rfl,rfl⟩));go_ret;refine⟨rfl,O,?_,fun k hk=>.inl hk,(Keep.refl O w).alloc _⟩;simp only[ck,dI];rw[if_neg (fun h=>HIN.out h.2)];exact⟨u,HI.out.own,HI.out.one.alloc _,HI.out.row.alloc _,HI.out.ne,HI.out.lo,HI.out.nodup,HI.out.sub⟩
  .have hd:decide (e.op∈ops)=false:=decide_eq_false hop;have HD:=Lib.hid hop;clear hop;go_enter Tryz.func203,Tryz.ntmps203;go_wp2_with (go_at_call 204;refine(jO ops _ _ _ (HP.out.ext ((Ext.refl w).alloc _))).mono ?_;rintro e w' ⟨rfl,rfl⟩);go_ret;refine⟨rfl,O,?_,fun k hk=>.inl hk,(Keep.refl O w).alloc _⟩;simp only[ck,dI];rw[if_neg (fun h=>HD.out h.1)];exact⟨u,HI.out.own,HI.out.one.alloc _,HI.out.row.alloc _,HI.out.ne,HI.out.lo,HI.out.nodup,HI.out.sub⟩
def qv(l:List ByteArray)(w:World)(e:Ending)(w':World):Prop:=
 ∃v,e=.returned v/\w'.ownsRow 0 9 1 v l.length (l.map Value.string)/\(∀k,v.ownBlock=some k->w.heap.size≤k)/\Ext w w'
def cM(ops:List Int)(e:Ex):List ByteArray:=(d7 (ck ops) e []).1
theorem CZ(e:Ex)(ops:List Int)(w:World)(v vp:Value)(hv:gB w e v)(hp:iH w ops vp)(hs:aT e≤1000000):
 Calls Tryz.prog 175 #[v,vp] w (qv (cM ops e) w):=by
 obtain⟨p,cp,rfl,hl,h1,h2,-,-,-⟩:=eN hv;have hp':=hp;obtain⟨p2,cap2,rfl,-,-,-⟩:=hp';have HV:=Lib.hid hv;clear hv;clear hl
 have hW:=qS (σ:=List ByteArray) (Q:=fun e'=>∀s,s∈kV e'->s∈kV e) (F:=203) (next:=ck ops) (ji Tryz.func203 (by kernel_rfl) (by kernel_rfl))
  (uN ((w.alloc (.cells #[.int .i64 e.op,.int .i64 e.num,.string e.name,.slice p e.args.length cp] 24)).alloc (.cells #[.slice p2 ops.length cap2] 109)) ops (w.heap.size+1) (w.heap.size+1+1) (by simp) (.slice p2 ops.length cap2)
    (by have:=(One.new (w.alloc (.cells #[.int .i64 e.op,.int .i64 e.num,.string e.name,.slice p e.args.length cp] 24)) 109 (.slice p2 ops.length cap2)).cell;simpa only[World.size_alloc]using this)
    (hp.ext (((Ext.refl w).alloc _).alloc _)) (kV e) (by rw[yC];exact hs)) e
  (fun k=>k=w.heap.size+1+1) [] (((w.alloc (.cells #[.int .i64 e.op,.int .i64 e.num,.string e.name,.slice p e.args.length cp] 24)).alloc (.cells #[.slice p2 ops.length cap2] 109)).alloc (.cells #[.slice none 0 0] 92)) _ (fun _ h=>h) ((Ext.refl _).alloc _) (HV.out.ext (((Ext.refl w).alloc _).alloc _))
  ⟨.slice none 0 0,fun k=>by simp[Value.ownBlock],by
    have:=One.new ((w.alloc (.cells #[.int .i64 e.op,.int .i64 e.num,.string e.name,.slice p e.args.length cp] 24)).alloc (.cells #[.slice p2 ops.length cap2] 109)) 92 (.slice none 0 0);simpa only[World.size_alloc]using this,World.ownsRow_nil _ _ _ _,by simp[Value.ownBlock],by simp[Value.ownBlock],by simp,by simp⟩
 change Calls _ _ _ _ (xe (FF (w.heap.size+1+1) (kV e)) _ (cM ops e) _)at hW;generalize cM ops e=R at *;have HW:=Lib.hid hW;clear hW;clear hp;go_enter Tryz.func175,Tryz.ntmps175;go_wp2_with fail;refine HW.out.mono ?_;rintro en w1 ⟨rfl,O1,⟨u,hI⟩,hO1,hk1⟩;have c0:=hI.one.cell;have hx:Ext w w1:=hk1.ext (w0:=w) ((((Ext.refl w).alloc _).alloc _).alloc _) (fun x hx=>by omega);have hr:∀k,u.ownBlock=some k->w.heap.size≤k:=fun k hk=>by have:=hI.lo k hk;omega
 have hrow:=hI.row;have HR:=Lib.hid hr;clear hr;have HROW:=Lib.hid hrow;clear hrow;have HX:=Lib.hid hx;clear hx;clear hI hO1 hk1;go_wp2_with fail;go_ret;exact⟨u,rfl,HROW.out,HR.out,HX.out⟩
theorem Di(e:Ex)(w:World)(v:Value)(hv:gB w e v)(hs:aT e≤1000000):
 Calls Tryz.prog 144 #[v] w (qv (cM [2] e) w):=by
 obtain⟨p,cp,rfl,hl,h1,h2,-,-,-⟩:=eN hv;have HV:=Lib.hid hv;clear hv;have hi:=Af (w.alloc (.cells #[.int .i64 e.op,.int .i64 e.num,.string e.name,.slice p e.args.length cp] 24)) [2] 3 (by decide);simp only[World.size_alloc]at hi;have HI:=Lib.hid hi;clear hi;clear hl;go_enter Tryz.func144,Tryz.ntmps144;go_wp2_with fail;refine(CZ e [2] _ _ _ (HV.out.ext (((Ext.refl w).alloc _).alloc _)) HI.out hs).mono ?_;rintro en w1 ⟨u,rfl,hrow,hn,hx⟩;have HROW:=Lib.hid hrow;clear hrow;have HN:=Lib.hid hn;clear hn;have HX:=Lib.hid hx;clear hx;go_wp2_with fail;go_ret;exact⟨u,rfl,HROW.out,fun k hk=>by have:=HN.out k hk;simp at this;omega,(((Ext.refl w).alloc _).alloc _).trans HX.out⟩
theorem mE(ops:List Int)(e:Ex):∀x,(d7 (ck ops) e x).2=true:=by
 induction e using Ex.ind with
 | h o n s l ih=>
  intro x
  have H:∀(r:List Ex),(∀a,a∈r->a∈l)->∀x,(ez (ck ops) r x).2=true:=by
   intro r
   induction r with
   | nil=>intro _ x;rfl
   | cons a r ihr=>intro hm x;rw[ez,if_pos (ih a (hm a (by simp)) x)];exact ihr (fun y hy=>hm y (by simp[hy])) _
  rw[d7,if_pos (show(ck ops x (Ex.mk o n s l)).2=true from rfl)];exact H l (fun _ h=>h) _
theorem wW{ops:List Int}{l:List ByteArray}{o:Int}{s t:ByteArray}(h:t∈dI ops l o s):t∈l\/(t=s/\o∈ops):=by
 unfold dI at h;by_cases hc:o∈ops/\inB s l=false
 .rw[if_pos hc]at h;rcases List.mem_append.1 h with h|h
  .exact .inl h
  .exact .inr ⟨by simpa using h,hc.1⟩
 .rw[if_neg hc]at h;exact .inl h
end Go.Proofs.YthekkgfmagliiaaGreatDoor
