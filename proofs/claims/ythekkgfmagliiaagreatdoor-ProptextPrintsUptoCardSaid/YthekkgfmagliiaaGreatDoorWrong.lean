import Derived.Test.YthekkgfmagliiaaGreatDoorElem
import Derived.Test.YthekkgfmagliiaaGreatDoorSpan
set_option linter.unusedVariables false
set_option linter.unusedSimpArgs false
set_option linter.unusedSectionVars false
namespace Go.Proofs.YthekkgfmagliiaaGreatDoor
open Go.RowKit
def dI(s:ByteArray):Bool:=fh s||bj s
set_option maxRecDepth 100000 in
theorem vd(s:ByteArray)(w:World)(hs:s.size≤9223372036854775807)(hk:jR w):
 Calls Tryz.prog 163 #[.string s] w fun e w'=>e=.returned (.bool (dI s))∧Ext w w':=by
 have HK:=Lib.hid hk;clear hk;have hq:dI s=(fh s||bj s):=rfl;have HQ:=Lib.hid hq;clear hq;generalize dI s=r at *;have he:=fun w hk=>qN s w hs hk;generalize fh s=eb at *;have HE:=Lib.hid he;clear he;go_enter Tryz.func163,Tryz.ntmps163;go_wp2_with (first|(go_at_call 195;refine(HE.out _ HK.out).mono ?_;rintro e w' ⟨a,i,rfl,hx⟩)|(go_at_call 49;refine(fd _ _ (by omega) (HK.out.ext (by assumption))).mono ?_;rintro e w' ⟨rfl,hy⟩));all_goals go_ret
 all_goals (go_light;refine⟨aP ?_,(by first|exact hx.trans hy|exact hx)⟩;rw[HQ.out];simp[*])
def ga(s:ByteArray):Bool:=
 if h:s.size<4 then false else decide ((s[s.size-1]'(by omega)).toNat=93)&&decide ((s[s.size-3]'(by omega)).toNat=91) &&
  decide (48≤(s[s.size-2]'(by omega)).toNat)&&decide ((s[s.size-2]'(by omega)).toNat<56)&&bj (s.extract 0 (s.size-3))
theorem nw{s:ByteArray}(h:s.size<4):ga s=false:=by unfold ga;rw[dif_pos h]
theorem jJ{s:ByteArray}(h:¬s.size<4):ga s=(decide ((s[s.size-1]'(by omega)).toNat=93)&&decide ((s[s.size-3]'(by omega)).toNat=91) &&
 decide (48≤(s[s.size-2]'(by omega)).toNat)&&decide ((s[s.size-2]'(by omega)).toNat<56)&&bj (s.extract 0 (s.size-3))):=by unfold ga;rw[dif_neg h]
theorem places{s:ByteArray}(k:Nat)(hk:1≤k)(h:k≤s.size):((s.size:Int)-k<s.size)∧(0≤(s.size:Int)-k)∧((s.size:Int)-k).toNat=s.size-k:=by omega
set_option maxRecDepth 100000 in
set_option maxHeartbeats 1600000 in
theorem v7(s:ByteArray)(w:World)(hs:s.size≤9223372036854775807):
 Calls Tryz.prog 150 #[.string s] w (oe (ga s) w):=by
 by_cases hz:s.size<4
 ·rw[nw hz];go_enter Tryz.func150,Tryz.ntmps150;go_wp2_with fail;go_ret3;exact gZ rfl (Ext.refl _)
 ·have hq:=jJ hz;generalize ga s=eb at *;have hsz:(s.extract 0 (s.size-3)).size≤9223372036854775807:=by rw[ByteArray.size_extract];omega
  obtain⟨p1,p1',e1⟩:=places (s:=s) 1 (by omega) (by omega);obtain⟨p2,p2',e2⟩:=places (s:=s) 2 (by omega) (by omega);obtain⟨p3,p3',e3⟩:=places (s:=s) 3 (by omega) (by omega);have b1:s.size-1<s.size:=by omega
  have b2:s.size-2<s.size:=by omega
  have b3:s.size-3<s.size:=by omega
  have q1:(1:Int)≤s.size:=by omega
  have q2:(2:Int)≤s.size:=by omega
  have q3:(3:Int)≤s.size:=by omega
  have q4:(4:Int)≤s.size:=by omega
  have y1:((s[s.size-1]'b1).toNat:Int)<256:=by have:=(s[s.size-1]'b1).toNat_lt;omega
  have y2:((s[s.size-2]'b2).toNat:Int)<256:=by have:=(s[s.size-2]'b2).toNat_lt;omega
  have y3:((s[s.size-3]'b3).toNat:Int)<256:=by have:=(s[s.size-3]'b3).toNat_lt;omega
  have hz':decide ((s.size:Int)<4)=false:=decide_eq_false (by omega);have HQ:=Lib.hid hq;clear hq;by_cases g1:(s[s.size-1]'b1).toNat=93
  ·have h93:(((s[s.size-1]'b1).toNat:Int) != 93)=false:=by rw[g1];rfl
   have G1:=Lib.hid g1;clear g1;by_cases g3:(s[s.size-3]'b3).toNat=91
   ·have h91:(((s[s.size-3]'b3).toNat:Int) != 91)=false:=by rw[g3];rfl
    have G3:=Lib.hid g3;clear g3;go_enter Tryz.func150,Tryz.ntmps150;go_wp2_with (go_at_call 37;refine(fy _ _ hsz).mono ?_;rintro e w' ⟨rfl,hy⟩);all_goals go_ret3
    all_goals (go_light;refine gZ ?_ (by first|exact hy|exact Ext.refl _);rw[HQ.out,decide_eq_true G1.out,decide_eq_true G3.out];first
     | (rw[decide_eq_false (p:=48≤(s[s.size-2]'b2).toNat) (by omega)];simp;done)
     | (rw[decide_eq_false (p:=(s[s.size-2]'b2).toNat<56) (by omega)];simp;done)
     | (rw[decide_eq_true (p:=48≤(s[s.size-2]'b2).toNat) (by omega),decide_eq_true (p:=(s[s.size-2]'b2).toNat<56) (by omega)];cases hnm:bj (s.extract 0 (s.size-3))<;>simp[hnm]at * <;>omega))
   ·have h91:(((s[s.size-3]'b3).toNat:Int) != 91)=true:=by rw[bne_iff_ne];omega
    have G3:=Lib.hid g3;clear g3;go_enter Tryz.func150,Tryz.ntmps150;go_wp2_with fail;go_ret3;exact gZ (by rw[HQ.out,decide_eq_false G3.out];simp) (Ext.refl _)
  ·have h93:(((s[s.size-1]'b1).toNat:Int) != 93)=true:=by rw[bne_iff_ne];omega
   have G1:=Lib.hid g1;clear g1;go_enter Tryz.func150,Tryz.ntmps150;go_wp2_with fail;go_ret3;exact gZ (by rw[HQ.out,decide_eq_false G1.out];simp) (Ext.refl _)
theorem rk(s:ByteArray)(w:World)(hs:s.size≤9223372036854775807):
 Calls Tryz.prog 208 #[.string s] w fun e w'=>e=.returned (.bool (ga s||bj s))∧Ext w w':=by
 have he:=fun w=>v7 s w hs;generalize ga s=eb at *;have HE:=Lib.hid he;clear he;go_enter Tryz.func208,Tryz.ntmps208;go_wp2_with (first|(go_at_call 150;refine(HE.out _).mono ?_;rintro e w' ⟨a,i,rfl,hx⟩)|(go_at_call 37;refine(fy _ _ (by omega)).mono ?_;rintro e w' ⟨rfl,hy⟩));all_goals go_ret
 all_goals (go_light;refine⟨aP ?_,(by first|exact hx.trans hy|exact hx)⟩;simp[*])
def dT(op:Int):Int:=
 if op=1∨op=2∨op=24 then 0 else if op=3∨op=4∨op=5∨op=6∨op=25 then 1 else if op=22 then 3 else if op=23 then -1
 else if op<1∨25<op then -1 else 2
theorem nO(op:Int)(w:World):
 Calls Tryz.prog 194 #[.int .i64 op] w fun e w'=>e=.returned (.int .i64 (dT op))∧w=w':=by
 go_enter Tryz.func194,Tryz.ntmps194;go_wp2_with fail;all_goals go_ret
 all_goals (go_light;refine⟨bP ?_,rfl⟩;unfold dT;simp only[beq_iff_eq,beq_eq_false_iff_ne,ne_eq]at *;simp[*])
theorem dZ(op:Int)(w:World):
 Calls Tryz.prog 207 #[.int .i64 op] w fun e w'=>e=.returned (.int .i64 (dT op))∧w=w':=by
 go_enter Tryz.func207,Tryz.ntmps207;go_wp2_with fail;all_goals go_ret
 all_goals (go_light;refine⟨bP ?_,rfl⟩;unfold dT;simp only[beq_iff_eq,beq_eq_false_iff_ne,ne_eq]at *;simp[*])
def cG(op:Int):Bool:=decide (op=2)||decide (op=3)||decide (op=24)
def cw(op:Int)(n:Nat):Bool:=if op=23 then decide (n%2=1)&&decide (3≤n)&&decide (n≤33)else decide ((n:Int)=dT op)
def aM(op num:Int)(s:ByteArray)(n:Nat):Int:=
 if op<1∨25<op then 1
 else if(op=1∧(num<0∨65535<num))∨(op≠1∧num≠0)then 1
 else if(cG op=false∧¬s.toList=[])∨cw op n=false then 1
 else if(op=2∧dI s=false)∨((op=3∨op=24)∧bj s=false)then 7 else 0
set_option maxRecDepth 100000 in
theorem eO(o m:Int)(s:ByteArray)(p:Option Addr)(n cap:Nat)(w:World)(hn:n≤9223372036854775807):
 Calls Tryz.prog 162 #[.agg #[.int .i64 o,.int .i64 m,.string s,.slice p n cap]] w fun e w'=>e=.returned (.bool (cw o n))∧Ext w w':=by
 by_cases ho:o=23
 ·subst ho;have h2:((n:Int)%2=1)↔n%2=1:=by omega
  have H2:=Lib.hid h2;clear h2;go_enter Tryz.func162,Tryz.ntmps162;go_wp2_with (go_at_call 194;refine(nO _ _).mono ?_;rintro e w' ⟨rfl,rfl⟩);all_goals go_ret
  all_goals (go_light;refine⟨aP ?_,(Ext.refl _).alloc _⟩;simp only[beq_iff_eq,beq_eq_false_iff_ne,ne_eq,H2.out]at *;simp only[cw,if_true];rw[Bool.eq_iff_iff];simp[*]<;>omega)
 ·have ho':(o==23)=false:=by rw[beq_eq_false_iff_ne];exact ho
  have HO:=Lib.hid ho;clear ho;go_enter Tryz.func162,Tryz.ntmps162;go_wp2_with (go_at_call 194;refine(nO _ _).mono ?_;rintro e w' ⟨rfl,rfl⟩);all_goals go_ret
  all_goals (go_light;refine⟨aP ?_,(Ext.refl _).alloc _⟩;rw[cw,if_neg HO.out,Bool.eq_iff_iff];simp)
theorem eU(o:Int)(w:World):
 Calls Tryz.prog 206 #[.int .i64 o] w fun e w'=>e=.returned (.bool (cG o))∧w=w':=by
 go_enter Tryz.func206,Tryz.ntmps206;go_wp2_with fail;all_goals go_ret
 all_goals (go_light;refine⟨aP ?_,rfl⟩;(try simp only[beq_iff_eq,beq_eq_false_iff_ne,ne_eq]at *);unfold cG;rw[Bool.eq_iff_iff];simp[*])
def dc(v:Int)(w:World)(e:Ending)(w':World):Prop:=e=.returned (.int .i64 v)∧Ext w w'
set_option maxRecDepth 100000 in
set_option maxHeartbeats 1000000 in
theorem yG(o m:Int)(s:ByteArray)(p:Option Addr)(n cap:Nat)(w:World)(ho:o<1∨25<o):
 Calls Tryz.prog 129 #[.agg #[.int .i64 o,.int .i64 m,.string s,.slice p n cap]] w (dc (aM o m s n) w):=by
 have e1:(o==2)=false:=by rw[beq_eq_false_iff_ne];omega
 have e2:(o==3)=false:=by rw[beq_eq_false_iff_ne];omega
 have e3:(o==24)=false:=by rw[beq_eq_false_iff_ne];omega
 rw[aM,if_pos ho];rcases ho with ho|ho
 all_goals
  go_enter Tryz.func129,Tryz.ntmps129;go_wp2_with fail;go_ret;exact⟨rfl,(Ext.refl _).alloc _⟩
set_option maxRecDepth 100000 in
set_option maxHeartbeats 2000000 in
theorem rZ(m:Int)(s:ByteArray)(p:Option Addr)(n cap:Nat)(w:World)(hn:n≤9223372036854775807):
 Calls Tryz.prog 129 #[.agg #[.int .i64 1,.int .i64 m,.string s,.slice p n cap]] w (dc (aM 1 m s n) w):=by
 have hq:aM 1 m s n=if m<0∨65535<m then 1 else if ¬s.toList=[]∨cw 1 n=false then 1 else 0:=by
  simp[aM,cG]
 generalize aM 1 m s n=r at *;have hop:=fun w=>eO 1 m s p n cap w hn;generalize cw 1 n=ob at *;have HO:=Lib.hid hop;clear hop;have HQ:=Lib.hid hq;clear hq;go_enter Tryz.func129,Tryz.ntmps129;go_wp2_with (first|(go_at_call 162;refine(HO.out _).mono ?_;rintro e w' ⟨rfl,hx⟩;obtain⟨c0,c1,c2,c3⟩:=hx.box4));all_goals go_ret
 all_goals (go_light;refine⟨bP ?_,(by first|exact hx.past.trans hy|exact hx.past|exact(Ext.refl _).alloc _)⟩;rw[HQ.out];first|(rw[if_pos (by omega)];done)|(rw[if_neg (by omega)];simp_all;done))
set_option maxRecDepth 100000 in
set_option maxHeartbeats 2000000 in
theorem v6(o m:Int)(s:ByteArray)(p:Option Addr)(n cap:Nat)(w:World)(hn:n≤9223372036854775807)(ho:o=3∨o=24)(hs:s.size≤9223372036854775807)(hk:jR w):
 Calls Tryz.prog 129 #[.agg #[.int .i64 o,.int .i64 m,.string s,.slice p n cap]] w (dc (aM o m s n) w):=by
 have hq:aM o m s n=if ¬m=0 then 1 else if cw o n=false then 1 else if bj s=false then 7 else 0:=by
  rcases ho with rfl|rfl<;>simp[aM,cG]
 generalize aM o m s n=r at *;have hop:=fun w=>eO o m s p n cap w hn;generalize cw o n=ob at *;have HK:=Lib.hid hk;clear hk;have HO:=Lib.hid hop;clear hop;have HQ:=Lib.hid hq;clear hq;rcases ho with rfl|rfl;all_goals
 go_enter Tryz.func129,Tryz.ntmps129;go_wp2_with (first|(go_at_call 162;refine(HO.out _).mono ?_;rintro e w' ⟨rfl,hx⟩;obtain⟨c0,c1,c2,c3⟩:=hx.box4)|(go_at_call 49;refine(fd s _ hs (HK.out.ext hx.past)).mono ?_;rintro e w' ⟨rfl,hy⟩));all_goals go_ret
 all_goals (go_light;refine⟨bP ?_,(by first|exact hx.past.trans hy|exact hx.past|exact(Ext.refl _).alloc _)⟩;rw[HQ.out];simp_all;done)
set_option maxRecDepth 100000 in
set_option maxHeartbeats 2000000 in
theorem zw(m:Int)(s:ByteArray)(p:Option Addr)(n cap:Nat)(w:World)(hn:n≤9223372036854775807)(hs:s.size≤9223372036854775807)(hk:jR w):
 Calls Tryz.prog 129 #[.agg #[.int .i64 2,.int .i64 m,.string s,.slice p n cap]] w (dc (aM 2 m s n) w):=by
 have hq:aM 2 m s n=if ¬m=0 then 1 else if cw 2 n=false then 1 else if dI s=false then 7 else 0:=by
  simp[aM,cG]
 generalize aM 2 m s n=r at *;have hop:=fun w=>eO 2 m s p n cap w hn;generalize cw 2 n=ob at *;have HK:=Lib.hid hk;clear hk;have HO:=Lib.hid hop;clear hop;have HQ:=Lib.hid hq;clear hq;go_enter Tryz.func129,Tryz.ntmps129;go_wp2_with (first|(go_at_call 162;refine(HO.out _).mono ?_;rintro e w' ⟨rfl,hx⟩;obtain⟨c0,c1,c2,c3⟩:=hx.box4)|(go_at_call 163;refine(vd s _ hs (HK.out.ext hx.past)).mono ?_;rintro e w' ⟨rfl,hy⟩;have d0:=hy.cell c0));all_goals go_ret
 all_goals (go_light;refine⟨bP ?_,(by first|exact hx.past.trans hy|exact hx.past|exact(Ext.refl _).alloc _)⟩;rw[HQ.out];simp_all;done)
set_option maxRecDepth 100000 in
set_option maxHeartbeats 2000000 in
theorem vW(o m:Int)(s:ByteArray)(p:Option Addr)(n cap:Nat)(w:World)(hn:n≤9223372036854775807)(h1:1≤o)(h25:o≤25)(n1:¬o=1)(n2:¬o=2)(n3:¬o=3)(n24:¬o=24):
 Calls Tryz.prog 129 #[.agg #[.int .i64 o,.int .i64 m,.string s,.slice p n cap]] w (dc (aM o m s n) w):=by
 have hq:aM o m s n=if ¬m=0 then 1 else if ¬s.toList=[]∨cw o n=false then 1 else 0:=by
  have:¬(o<1∨25<o):=by omega
  simp[aM,cG,this,n1,n2,n3,n24]
 generalize aM o m s n=r at *;have hop:=fun w=>eO o m s p n cap w hn;generalize cw o n=ob at *;have e1:(o==1)=false:=beq_eq_false_iff_ne.2 n1;have e1':(o != 1)=true:=bne_iff_ne.2 n1;have e2:(o==2)=false:=beq_eq_false_iff_ne.2 n2;have e3:(o==3)=false:=beq_eq_false_iff_ne.2 n3;have e24:(o==24)=false:=beq_eq_false_iff_ne.2 n24;clear n1 n2 n3 n24;have HO:=Lib.hid hop;clear hop;have HQ:=Lib.hid hq;clear hq;go_enter Tryz.func129,Tryz.ntmps129;go_wp2_with (first|(go_at_call 162;refine(HO.out _).mono ?_;rintro e w' ⟨rfl,hx⟩;obtain⟨c0,c1,c2,c3⟩:=hx.box4));all_goals go_ret
 all_goals (go_light;refine⟨bP ?_,(by first|exact hx.past.trans hy|exact hx.past|exact(Ext.refl _).alloc _)⟩;rw[HQ.out];simp_all;done)
theorem xS(o m:Int)(s:ByteArray)(p:Option Addr)(n cap:Nat)(w:World)(hn:n≤9223372036854775807)(hs:s.size≤9223372036854775807)(hk:jR w):
 Calls Tryz.prog 129 #[.agg #[.int .i64 o,.int .i64 m,.string s,.slice p n cap]] w (dc (aM o m s n) w):=by
 by_cases h:o<1∨25<o
 ·exact yG o m s p n cap w h
 by_cases h1:o=1
 ·subst h1;exact rZ m s p n cap w hn
 by_cases h2:o=2
 ·subst h2;exact zw m s p n cap w hn hs hk
 by_cases h3:o=3∨o=24
 ·exact v6 o m s p n cap w hn h3 hs hk
 exact vW o m s p n cap w hn (by omega) (by omega) h1 h2 (by omega) (by omega)
def nk(e:Ex):Int:=aM e.op e.num e.name e.args.length
theorem oJ(s:ByteArray)(a b k:Nat)(h:k<(s.extract a b).size):(s.extract a b)[k]'h=s[a+k]'(by rw[ByteArray.size_extract]at h;omega):=by
 show(s.extract a b).data[k]'h=s.data[a+k]'_;simp only[ByteArray.data_extract,Array.getElem_extract]
theorem xN{s:ByteArray}(h:dQ s=true){k:Nat}(hk:k<s.size):dy (s[k]'hk).toNat=true:=by
 cases hf:dy (s[k]'hk).toNat with
 | true=>rfl
 | false=>rw[gO hk hf]at h;cases h
theorem uD{s:ByteArray}(h:dQ s=true):0<s.size:=by
 apply Classical.byContradiction;intro hn;have:s.data.toList=[]:=List.eq_nil_of_length_eq_zero (by have:=Lib.size_eq s;omega);simp[dQ,this,fN]at h
theorem lp{s:ByteArray}(h:bj s=true):dQ s=true:=by simp[bj]at h;exact h.1.1
theorem oi(s:ByteArray):fh s=ga s:=by
 rw[Bool.eq_iff_iff];constructor
 ·intro h;simp only[fh,Bool.and_eq_true,kM,decide_eq_true_eq]at h;obtain⟨⟨h1,h2⟩,h3⟩:=h;obtain⟨o,ho⟩:=Int.eq_ofNat_of_zero_le h1;have hlt:=ot ho;have hsome:=Lib.indexByte_some ho;have hA:eR s 91=s.extract 0 o:=by unfold eR;rw[ho,if_neg (by omega)];rfl
  have hB:gj s 91=s.extract (o+1) s.size:=by unfold gj;rw[ho,if_neg (by omega)];rfl
  rw[hA]at h2;rw[hB]at h3;by_cases hz:(s.extract (o+1) s.size).size=2
  ·rw[fM hz]at h3;simp only[Bool.and_eq_true,decide_eq_true_eq,oJ]at h3;have hz':=hz;rw[ByteArray.size_extract]at hz';have hw:=uD (lp h2);rw[ByteArray.size_extract]at hw;have e:s.size=o+3:=by omega
   have hn:¬s.size<4:=by omega
   have h91:(s[o]'hlt).toNat=91:=by
    have h:=hsome.1;rw[fc s o hlt]at h;have h':s[o]'hlt=91:=Option.some.inj h;rw[h'];rfl
   rw[jJ hn];have i1:s.size-1=o+1+1:=by omega
   have i2:s.size-2=o+1+0:=by omega
   have i3:s.size-3=o:=by omega
   simp only[i1,i2,i3,Bool.and_eq_true,decide_eq_true_eq];exact⟨⟨⟨⟨h3.1.1,h91⟩,h3.1.2⟩,h3.2⟩,h2⟩
  ·rw[jW hz]at h3;cases h3
 ·intro h;by_cases hn:s.size<4
  ·rw[nw hn]at h;cases h
  ·rw[jJ hn]at h;simp only[Bool.and_eq_true,decide_eq_true_eq]at h;obtain⟨⟨⟨⟨h1,h2⟩,h3⟩,h4⟩,h5⟩:=h
   have hidx:Lib.indexByte s.data.toList 91=((s.size-3:Nat):Int):=by
    have hlen:=Lib.size_eq s
    have hat:s.data.toList[s.size-3]? = some 91:=by
     rw[fc s _ (by omega)]
     have:(s[s.size-3]'(by omega))=91:=by
      apply UInt8.toNat_inj.1;rw[h2];rfl
     rw[this]
    cases hi:Lib.indexByte s.data.toList 91 with
    | negSucc m=>
     have:=Lib.indexByte_ge s.data.toList 91;have hm:Lib.indexByte s.data.toList 91 = -1:=by omega
     exact absurd hat (Lib.indexByte_none hm _)
    | ofNat o=>
     have hs:=Lib.indexByte_some hi;have hlt:=ot hi;by_cases h':o<s.size-3
     ·have hw:=xN (lp h5) (k:=o) (by rw[ByteArray.size_extract];omega);rw[oJ]at hw
      have h9:(s[o]'hlt)=91:=by
       have h:=hs.1;rw[fc s o hlt]at h;exact Option.some.inj h
      simp only[Nat.zero_add]at hw;rw[h9]at hw;cases hw
     ·by_cases h'':o=s.size-3
      ·rw[h''];rfl
      ·exact absurd hat (hs.2 _ (by omega))
   have hA:eR s 91=s.extract 0 (s.size-3):=by unfold eR;rw[hidx,if_neg (by omega)];rfl
   have hB:gj s 91=s.extract (s.size-3+1) s.size:=by unfold gj;rw[hidx,if_neg (by omega)];rfl
   have hz:(s.extract (s.size-3+1) s.size).size=2:=by rw[ByteArray.size_extract];omega
   simp only[fh,Bool.and_eq_true,kM,decide_eq_true_eq];rw[hA,hB,hidx,fM hz];simp only[Bool.and_eq_true,decide_eq_true_eq,oJ];have i1:s.size-3+1+1=s.size-1:=by omega
   have i2:s.size-3+1+0=s.size-2:=by omega
   have j1:(s[s.size-3+1+1]'(by omega)).toNat=93:=by simp only[i1];exact h1
   have j3:48≤(s[s.size-3+1+0]'(by omega)).toNat:=by simp only[i2];exact h3
   have j4:(s[s.size-3+1+0]'(by omega)).toNat<56:=by simp only[i2];exact h4
   exact⟨⟨by omega,h5⟩,⟨j1,j3⟩,j4⟩
set_option maxRecDepth 100000 in
set_option maxHeartbeats 2000000 in
theorem uj(o m:Int)(s:ByteArray)(p:Option Addr)(n cap:Nat)(w:World)(hn:n≤9223372036854775807)(ho:o<1∨25<o):
 Calls Tryz.prog 178 #[.agg #[.int .i64 o,.int .i64 m,.string s,.slice p n cap]] w (dc (aM o m s n) w):=by
 have hq:aM o m s n=1:=by
  rw[aM,if_pos ho]
 generalize aM o m s n=r at *;have HQ:=Lib.hid hq;clear hq;rcases ho with ho|ho;all_goals
 go_enter Tryz.func178,Tryz.ntmps178;go_wp2_with (first|(go_at_call 206;refine(eU _ _).mono ?_;rintro e w' ⟨rfl,rfl⟩)|(go_at_call 207;refine(dZ _ _).mono ?_;rintro e w' ⟨rfl,rfl⟩));all_goals go_ret
 all_goals (go_light;refine⟨bP ?_,(by first|exact hx.past|exact(Ext.refl _).alloc _)⟩;rw[HQ.out])
set_option maxRecDepth 100000 in
set_option maxHeartbeats 2000000 in
theorem qn(m:Int)(s:ByteArray)(p:Option Addr)(n cap:Nat)(w:World)(hn:n≤9223372036854775807):
 Calls Tryz.prog 178 #[.agg #[.int .i64 1,.int .i64 m,.string s,.slice p n cap]] w (dc (aM 1 m s n) w):=by
 have hq:aM 1 m s n=if m<0∨65535<m then 1 else if ¬s.toList=[]∨¬(n:Int)=dT 1 then 1 else 0:=by
  simp[aM,cG,cw]
 generalize aM 1 m s n=r at *;have hnm:cG 1=false:=rfl;have HQ:=Lib.hid hq;clear hq;go_enter Tryz.func178,Tryz.ntmps178;go_wp2_with (first|(go_at_call 206;refine(eU _ _).mono ?_;rintro e w' ⟨rfl,rfl⟩)|(go_at_call 207;refine(dZ _ _).mono ?_;rintro e w' ⟨rfl,rfl⟩));all_goals go_ret
 all_goals (go_light;refine⟨bP ?_,(by first|exact hx.past|exact(Ext.refl _).alloc _)⟩;rw[HQ.out];first|(rw[if_pos (by omega)];done)|(rw[if_neg (by omega)];simp_all;done))
set_option maxRecDepth 100000 in
set_option maxHeartbeats 2000000 in
theorem rz(o m:Int)(s:ByteArray)(p:Option Addr)(n cap:Nat)(w:World)(hn:n≤9223372036854775807)(ho:o=3∨o=24)(hs:s.size≤9223372036854775807):
 Calls Tryz.prog 178 #[.agg #[.int .i64 o,.int .i64 m,.string s,.slice p n cap]] w (dc (aM o m s n) w):=by
 have hq:aM o m s n=if ¬m=0 then 1 else if ¬(n:Int)=dT o then 1 else if bj s=false then 7 else 0:=by
  rcases ho with rfl|rfl<;>simp[aM,cG,cw]
 generalize aM o m s n=r at *;have HQ:=Lib.hid hq;clear hq;have hnm:cG o=true:=by rcases ho with rfl|rfl<;>rfl
 rcases ho with rfl|rfl;all_goals
 go_enter Tryz.func178,Tryz.ntmps178;go_wp2_with (first|(go_at_call 206;refine(eU _ _).mono ?_;rintro e w' ⟨rfl,rfl⟩)|(go_at_call 207;refine(dZ _ _).mono ?_;rintro e w' ⟨rfl,rfl⟩)|(go_at_call 37;refine(fy s _ hs).mono ?_;rintro e w' ⟨rfl,hx⟩;obtain⟨c0,c1,c2,c3⟩:=hx.box4));all_goals go_ret
 all_goals (go_light;refine⟨bP ?_,(by first|exact hx.past|exact(Ext.refl _).alloc _)⟩;rw[HQ.out];first|(simp_all;done)|(simp_all;omega))
set_option maxRecDepth 100000 in
set_option maxHeartbeats 2000000 in
theorem uh(m:Int)(s:ByteArray)(p:Option Addr)(n cap:Nat)(w:World)(hn:n≤9223372036854775807)(hs:s.size≤9223372036854775807):
 Calls Tryz.prog 178 #[.agg #[.int .i64 2,.int .i64 m,.string s,.slice p n cap]] w (dc (aM 2 m s n) w):=by
 have hq:aM 2 m s n=if ¬m=0 then 1 else if ¬(n:Int)=dT 2 then 1 else if dI s=false then 7 else 0:=by
  simp[aM,cG,cw]
 generalize aM 2 m s n=r at *;have hv:=fun w=>rk s w hs;rw[←oi]at hv;change ∀w,Calls _ _ _ _ (fun e w'=>e=.returned (.bool (dI s))∧Ext w w')at hv;have HV:=Lib.hid hv;clear hv;have hnm:cG 2=true:=rfl;have HQ:=Lib.hid hq;clear hq;go_enter Tryz.func178,Tryz.ntmps178;go_wp2_with (first|(go_at_call 206;refine(eU _ _).mono ?_;rintro e w' ⟨rfl,rfl⟩)|(go_at_call 207;refine(dZ _ _).mono ?_;rintro e w' ⟨rfl,rfl⟩)|(go_at_call 208;refine(HV.out _).mono ?_;rintro e w' ⟨rfl,hx⟩;obtain⟨c0,c1,c2,c3⟩:=hx.box4));all_goals go_ret
 all_goals (go_light;refine⟨bP ?_,(by first|exact hx.past|exact(Ext.refl _).alloc _)⟩;rw[HQ.out];first|(simp_all;done)|(simp_all;omega))
set_option maxRecDepth 100000 in
set_option maxHeartbeats 2000000 in
theorem rf(o m:Int)(s:ByteArray)(p:Option Addr)(n cap:Nat)(w:World)(hn:n≤9223372036854775807)(h1:1≤o)(h25:o≤25)(n1:¬o=1)(n2:¬o=2)(n3:¬o=3)(n24:¬o=24)(n23:¬o=23):
 Calls Tryz.prog 178 #[.agg #[.int .i64 o,.int .i64 m,.string s,.slice p n cap]] w (dc (aM o m s n) w):=by
 have hq:aM o m s n=if ¬m=0 then 1 else if ¬s.toList=[]∨¬(n:Int)=dT o then 1 else 0:=by
  have:¬(o<1∨25<o):=by omega
  simp[aM,cG,cw,this,n1,n2,n3,n24,n23]
 generalize aM o m s n=r at *;have e1:(o==1)=false:=beq_eq_false_iff_ne.2 n1;have e1':(o != 1)=true:=bne_iff_ne.2 n1;have e2:(o==2)=false:=beq_eq_false_iff_ne.2 n2;have e23:(o==23)=false:=beq_eq_false_iff_ne.2 n23;have e23':(o != 23)=true:=bne_iff_ne.2 n23;have hnm:cG o=false:=by simp[cG,n2,n3,n24]
 clear n1 n2 n3 n24 n23;have HQ:=Lib.hid hq;clear hq;go_enter Tryz.func178,Tryz.ntmps178;go_wp2_with (first|(go_at_call 206;refine(eU _ _).mono ?_;rintro e w' ⟨rfl,rfl⟩)|(go_at_call 207;refine(dZ _ _).mono ?_;rintro e w' ⟨rfl,rfl⟩));all_goals go_ret
 all_goals (go_light;refine⟨bP ?_,(by first|exact hx.past|exact(Ext.refl _).alloc _)⟩;rw[HQ.out];first|(simp_all;done)|(simp_all;omega))
set_option maxRecDepth 100000 in
set_option maxHeartbeats 2000000 in
theorem oR(m:Int)(s:ByteArray)(p:Option Addr)(n cap:Nat)(w:World)(hn:n≤9223372036854775807):
 Calls Tryz.prog 178 #[.agg #[.int .i64 23,.int .i64 m,.string s,.slice p n cap]] w (dc (aM 23 m s n) w):=by
 have hq:aM 23 m s n=if ¬m=0 then 1 else if ¬s.toList=[]∨¬((n:Int)%2=1∧3≤(n:Int)∧(n:Int)≤33)then 1 else 0:=by
  have h2:cw 23 n=decide ((n:Int)%2=1∧3≤(n:Int)∧(n:Int)≤33):=by
   simp only[cw,if_true];rw[Bool.eq_iff_iff];simp;omega
  simp only[aM,cG,h2,decide_eq_false_iff_not];simp
 generalize aM 23 m s n=r at *;have hnm:cG 23=false:=rfl;have HQ:=Lib.hid hq;clear hq;go_enter Tryz.func178,Tryz.ntmps178;go_wp2_with (first|(go_at_call 206;refine(eU _ _).mono ?_;rintro e w' ⟨rfl,rfl⟩)|(go_at_call 207;refine(dZ _ _).mono ?_;rintro e w' ⟨rfl,rfl⟩));all_goals go_ret
 all_goals (go_light;refine⟨bP ?_,(by first|exact hx.past|exact(Ext.refl _).alloc _)⟩;rw[HQ.out];first|(simp_all;done)|(rw[if_neg (by omega),if_neg (by simp_all;omega)];done)|(rw[if_neg (by omega),if_pos (by simp_all;omega)];done)|(simp_all;omega))
theorem tG(o m:Int)(s:ByteArray)(p:Option Addr)(n cap:Nat)(w:World)(hn:n≤9223372036854775807)(hs:s.size≤9223372036854775807):
 Calls Tryz.prog 178 #[.agg #[.int .i64 o,.int .i64 m,.string s,.slice p n cap]] w (dc (aM o m s n) w):=by
 by_cases h:o<1∨25<o
 ·exact uj o m s p n cap w hn h
 by_cases h1:o=1
 ·subst h1;exact qn m s p n cap w hn
 by_cases h2:o=2
 ·subst h2;exact uh m s p n cap w hn hs
 by_cases h3:o=3∨o=24
 ·exact rz o m s p n cap w hn h3 hs
 by_cases h23:o=23
 ·subst h23;exact oR m s p n cap w hn
 exact rf o m s p n cap w hn (by omega) (by omega) h1 h2 (by omega) (by omega) h23
end Go.Proofs.YthekkgfmagliiaaGreatDoor
