import Derived.Test.YthekkgfmagliiaaGreatDoorElem
set_option linter.unusedVariables false
set_option linter.unusedSimpArgs false
set_option linter.unusedSectionVars false
namespace Go.Proofs.YthekkgfmagliiaaGreatDoor
open Go.RowKit
def ez(s:ByteArray):Bool:=fW s||a8 s
set_option maxRecDepth 100000 in
theorem yX(s:ByteArray)(w:World)(hs:s.size≤9223372036854775807)(hk:mw w):
 Calls Tryz.prog 163 #[.string s] w fun e w'=>e=.returned (.bool (ez s))∧Ext w w':=by
 have HK:=Lib.hid hk;clear hk;have hq:ez s=(fW s||a8 s):=rfl;have HQ:=Lib.hid hq;clear hq;generalize ez s=r at *;have he:=fun w hk=>tj s w hs hk;generalize fW s=eb at *;have HE:=Lib.hid he;clear he;go_enter Tryz.func163,Tryz.ntmps163;go_wp2_with (first|(go_at_call 195;refine(HE.out _ HK.out).mono ?_;rintro e w' ⟨a,i,rfl,hx⟩)|(go_at_call 49;refine(gy _ _ (by omega) (HK.out.ext (by assumption))).mono ?_;rintro e w' ⟨rfl,hy⟩));all_goals go_ret
 all_goals (go_light;refine⟨aK ?_,(by first|exact hx.trans hy|exact hx)⟩;rw[HQ.out];simp[*])
def iI(s:ByteArray):Bool:=
 if h:s.size<4 then false else decide ((s[s.size-1]'(by omega)).toNat=93)&&decide ((s[s.size-3]'(by omega)).toNat=91) &&
  decide (48≤(s[s.size-2]'(by omega)).toNat)&&decide ((s[s.size-2]'(by omega)).toNat<56)&&a8 (s.extract 0 (s.size-3))
theorem ql{s:ByteArray}(h:s.size<4):iI s=false:=by unfold iI;rw[dif_pos h]
theorem l9{s:ByteArray}(h:¬s.size<4):iI s=(decide ((s[s.size-1]'(by omega)).toNat=93)&&decide ((s[s.size-3]'(by omega)).toNat=91) &&
 decide (48≤(s[s.size-2]'(by omega)).toNat)&&decide ((s[s.size-2]'(by omega)).toNat<56)&&a8 (s.extract 0 (s.size-3))):=by unfold iI;rw[dif_neg h]
theorem places{s:ByteArray}(k:Nat)(hk:1≤k)(h:k≤s.size):((s.size:Int)-k<s.size)∧(0≤(s.size:Int)-k)∧((s.size:Int)-k).toNat=s.size-k:=by omega
set_option maxRecDepth 100000 in
set_option maxHeartbeats 1600000 in
theorem za(s:ByteArray)(w:World)(hs:s.size≤9223372036854775807):
 Calls Tryz.prog 150 #[.string s] w (sV (iI s) w):=by
 by_cases hz:s.size<4
 ·rw[ql hz];go_enter Tryz.func150,Tryz.ntmps150;go_wp2_with fail;go_ret3;exact jN rfl (Ext.refl _)
 ·have hq:=l9 hz;generalize iI s=eb at *;have hsz:(s.extract 0 (s.size-3)).size≤9223372036854775807:=by rw[ByteArray.size_extract];omega
  obtain⟨p1,p1',e1⟩:=places (s:=s) 1 (by omega) (by omega);obtain⟨p2,p2',e2⟩:=places (s:=s) 2 (by omega) (by omega);obtain⟨p3,p3',e3⟩:=places (s:=s) 3 (by omega) (by omega);have b1:s.size-1<s.size:=by omega
  have b2:s.size-2<s.size:=by omega
  have b3:s.size-3<s.size:=by omega
  have q1:(1:Int)≤s.size:=by omega
  have q2:(2:Int)≤s.size:=by omega
  have q3:(3:Int)≤s.size:=by omega
  have q4:(4:Int)≤s.size:=by omega
  have y1:((s[s.size-1]'b1).toNat:Int)<256:=by have:=(s[s.size-1]'b1).toNat_lt;omega
  have y2:((s[s.size-2]'b2).toNat:Int)<256:=by have:=(s[s.size-2]'b2).toNat_lt;omega
  have y3:((s[s.size-3]'b3).toNat:Int)<256:=by have:=(s[s.size-3]'b3).toNat_lt;omega
  have hz':decide ((s.size:Int)<4)=false:=decide_eq_false (by omega);have HQ:=Lib.hid hq;clear hq;by_cases g1:(s[s.size-1]'b1).toNat=93
  ·have h93:(((s[s.size-1]'b1).toNat:Int) != 93)=false:=by rw[g1];rfl
   have G1:=Lib.hid g1;clear g1;by_cases g3:(s[s.size-3]'b3).toNat=91
   ·have h91:(((s[s.size-3]'b3).toNat:Int) != 91)=false:=by rw[g3];rfl
    have G3:=Lib.hid g3;clear g3;go_enter Tryz.func150,Tryz.ntmps150;go_wp2_with (go_at_call 37;refine(gS _ _ hsz).mono ?_;rintro e w' ⟨rfl,hy⟩);all_goals go_ret3
    all_goals (go_light;refine jN ?_ (by first|exact hy|exact Ext.refl _);rw[HQ.out,decide_eq_true G1.out,decide_eq_true G3.out];first
     | (rw[decide_eq_false (p:=48≤(s[s.size-2]'b2).toNat) (by omega)];simp;done)
     | (rw[decide_eq_false (p:=(s[s.size-2]'b2).toNat<56) (by omega)];simp;done)
     | (rw[decide_eq_true (p:=48≤(s[s.size-2]'b2).toNat) (by omega),decide_eq_true (p:=(s[s.size-2]'b2).toNat<56) (by omega)];cases hnm:a8 (s.extract 0 (s.size-3))<;>simp[hnm]at * <;>omega))
   ·have h91:(((s[s.size-3]'b3).toNat:Int) != 91)=true:=by rw[bne_iff_ne];omega
    have G3:=Lib.hid g3;clear g3;go_enter Tryz.func150,Tryz.ntmps150;go_wp2_with fail;go_ret3;exact jN (by rw[HQ.out,decide_eq_false G3.out];simp) (Ext.refl _)
  ·have h93:(((s[s.size-1]'b1).toNat:Int) != 93)=true:=by rw[bne_iff_ne];omega
   have G1:=Lib.hid g1;clear g1;go_enter Tryz.func150,Tryz.ntmps150;go_wp2_with fail;go_ret3;exact jN (by rw[HQ.out,decide_eq_false G1.out];simp) (Ext.refl _)
theorem v7(s:ByteArray)(w:World)(hs:s.size≤9223372036854775807):
 Calls Tryz.prog 208 #[.string s] w fun e w'=>e=.returned (.bool (iI s||a8 s))∧Ext w w':=by
 have he:=fun w=>za s w hs;generalize iI s=eb at *;have HE:=Lib.hid he;clear he;go_enter Tryz.func208,Tryz.ntmps208;go_wp2_with (first|(go_at_call 150;refine(HE.out _).mono ?_;rintro e w' ⟨a,i,rfl,hx⟩)|(go_at_call 37;refine(gS _ _ (by omega)).mono ?_;rintro e w' ⟨rfl,hy⟩));all_goals go_ret
 all_goals (go_light;refine⟨aK ?_,(by first|exact hx.trans hy|exact hx)⟩;simp[*])
def cy(op:Int):Int:=
 if op=1∨op=2∨op=24 then 0 else if op=3∨op=4∨op=5∨op=6∨op=25 then 1 else if op=22 then 3 else if op=23 then -1
 else if op<1∨25<op then -1 else 2
theorem rr(op:Int)(w:World):
 Calls Tryz.prog 194 #[.int .i64 op] w fun e w'=>e=.returned (.int .i64 (cy op))∧w=w':=by
 go_enter Tryz.func194,Tryz.ntmps194;go_wp2_with fail;all_goals go_ret
 all_goals (go_light;refine⟨bV ?_,rfl⟩;unfold cy;simp only[beq_iff_eq,beq_eq_false_iff_ne,ne_eq]at *;simp[*])
theorem ff(op:Int)(w:World):
 Calls Tryz.prog 207 #[.int .i64 op] w fun e w'=>e=.returned (.int .i64 (cy op))∧w=w':=by
 go_enter Tryz.func207,Tryz.ntmps207;go_wp2_with fail;all_goals go_ret
 all_goals (go_light;refine⟨bV ?_,rfl⟩;unfold cy;simp only[beq_iff_eq,beq_eq_false_iff_ne,ne_eq]at *;simp[*])
def cR(op:Int):Bool:=decide (op=2)||decide (op=3)||decide (op=24)
def bK(op:Int)(n:Nat):Bool:=if op=23 then decide (n%2=1)&&decide (3≤n)&&decide (n≤33)else decide ((n:Int)=cy op)
def aJ(op num:Int)(s:ByteArray)(n:Nat):Int:=
 if op<1∨25<op then 1
 else if(op=1∧(num<0∨65535<num))∨(op≠1∧num≠0)then 1
 else if(cR op=false∧¬s.toList=[])∨bK op n=false then 1
 else if(op=2∧ez s=false)∨((op=3∨op=24)∧a8 s=false)then 7 else 0
set_option maxRecDepth 100000 in
theorem gg(o m:Int)(s:ByteArray)(p:Option Addr)(n cap:Nat)(w:World)(hn:n≤9223372036854775807):
 Calls Tryz.prog 162 #[.agg #[.int .i64 o,.int .i64 m,.string s,.slice p n cap]] w fun e w'=>e=.returned (.bool (bK o n))∧Ext w w':=by
 by_cases ho:o=23
 ·subst ho;have h2:((n:Int)%2=1)↔n%2=1:=by omega
  have H2:=Lib.hid h2;clear h2;go_enter Tryz.func162,Tryz.ntmps162;go_wp2_with (go_at_call 194;refine(rr _ _).mono ?_;rintro e w' ⟨rfl,rfl⟩);all_goals go_ret
  all_goals (go_light;refine⟨aK ?_,(Ext.refl _).alloc _⟩;simp only[beq_iff_eq,beq_eq_false_iff_ne,ne_eq,H2.out]at *;simp only[bK,if_true];rw[Bool.eq_iff_iff];simp[*]<;>omega)
 ·have ho':(o==23)=false:=by rw[beq_eq_false_iff_ne];exact ho
  have HO:=Lib.hid ho;clear ho;go_enter Tryz.func162,Tryz.ntmps162;go_wp2_with (go_at_call 194;refine(rr _ _).mono ?_;rintro e w' ⟨rfl,rfl⟩);all_goals go_ret
  all_goals (go_light;refine⟨aK ?_,(Ext.refl _).alloc _⟩;rw[bK,if_neg HO.out,Bool.eq_iff_iff];simp)
theorem gm(o:Int)(w:World):
 Calls Tryz.prog 206 #[.int .i64 o] w fun e w'=>e=.returned (.bool (cR o))∧w=w':=by
 go_enter Tryz.func206,Tryz.ntmps206;go_wp2_with fail;all_goals go_ret
 all_goals (go_light;refine⟨aK ?_,rfl⟩;(try simp only[beq_iff_eq,beq_eq_false_iff_ne,ne_eq]at *);unfold cR;rw[Bool.eq_iff_iff];simp[*])
def dO(v:Int)(w:World)(e:Ending)(w':World):Prop:=e=.returned (.int .i64 v)∧Ext w w'
set_option maxRecDepth 100000 in
set_option maxHeartbeats 1000000 in
theorem Ci(o m:Int)(s:ByteArray)(p:Option Addr)(n cap:Nat)(w:World)(ho:o<1∨25<o):
 Calls Tryz.prog 129 #[.agg #[.int .i64 o,.int .i64 m,.string s,.slice p n cap]] w (dO (aJ o m s n) w):=by
 have e1:(o==2)=false:=by rw[beq_eq_false_iff_ne];omega
 have e2:(o==3)=false:=by rw[beq_eq_false_iff_ne];omega
 have e3:(o==24)=false:=by rw[beq_eq_false_iff_ne];omega
 rw[aJ,if_pos ho];rcases ho with ho|ho
 all_goals
  go_enter Tryz.func129,Tryz.ntmps129;go_wp2_with fail;go_ret;exact⟨rfl,(Ext.refl _).alloc _⟩
set_option maxRecDepth 100000 in
set_option maxHeartbeats 2000000 in
theorem xt(m:Int)(s:ByteArray)(p:Option Addr)(n cap:Nat)(w:World)(hn:n≤9223372036854775807):
 Calls Tryz.prog 129 #[.agg #[.int .i64 1,.int .i64 m,.string s,.slice p n cap]] w (dO (aJ 1 m s n) w):=by
 have hq:aJ 1 m s n=if m<0∨65535<m then 1 else if ¬s.toList=[]∨bK 1 n=false then 1 else 0:=by
  simp[aJ,cR]
 generalize aJ 1 m s n=r at *;have hop:=fun w=>gg 1 m s p n cap w hn;generalize bK 1 n=ob at *;have HO:=Lib.hid hop;clear hop;have HQ:=Lib.hid hq;clear hq;go_enter Tryz.func129,Tryz.ntmps129;go_wp2_with (first|(go_at_call 162;refine(HO.out _).mono ?_;rintro e w' ⟨rfl,hx⟩;obtain⟨c0,c1,c2,c3⟩:=hx.box4));all_goals go_ret
 all_goals (go_light;refine⟨bV ?_,(by first|exact hx.past.trans hy|exact hx.past|exact(Ext.refl _).alloc _)⟩;rw[HQ.out];first|(rw[if_pos (by omega)];done)|(rw[if_neg (by omega)];simp_all;done))
set_option maxRecDepth 100000 in
set_option maxHeartbeats 2000000 in
theorem yT(o m:Int)(s:ByteArray)(p:Option Addr)(n cap:Nat)(w:World)(hn:n≤9223372036854775807)(ho:o=3∨o=24)(hs:s.size≤9223372036854775807)(hk:mw w):
 Calls Tryz.prog 129 #[.agg #[.int .i64 o,.int .i64 m,.string s,.slice p n cap]] w (dO (aJ o m s n) w):=by
 have hq:aJ o m s n=if ¬m=0 then 1 else if bK o n=false then 1 else if a8 s=false then 7 else 0:=by
  rcases ho with rfl|rfl<;>simp[aJ,cR]
 generalize aJ o m s n=r at *;have hop:=fun w=>gg o m s p n cap w hn;generalize bK o n=ob at *;have HK:=Lib.hid hk;clear hk;have HO:=Lib.hid hop;clear hop;have HQ:=Lib.hid hq;clear hq;rcases ho with rfl|rfl;all_goals
 go_enter Tryz.func129,Tryz.ntmps129;go_wp2_with (first|(go_at_call 162;refine(HO.out _).mono ?_;rintro e w' ⟨rfl,hx⟩;obtain⟨c0,c1,c2,c3⟩:=hx.box4)|(go_at_call 49;refine(gy s _ hs (HK.out.ext hx.past)).mono ?_;rintro e w' ⟨rfl,hy⟩));all_goals go_ret
 all_goals (go_light;refine⟨bV ?_,(by first|exact hx.past.trans hy|exact hx.past|exact(Ext.refl _).alloc _)⟩;rw[HQ.out];simp_all;done)
set_option maxRecDepth 100000 in
set_option maxHeartbeats 2000000 in
theorem Cf(m:Int)(s:ByteArray)(p:Option Addr)(n cap:Nat)(w:World)(hn:n≤9223372036854775807)(hs:s.size≤9223372036854775807)(hk:mw w):
 Calls Tryz.prog 129 #[.agg #[.int .i64 2,.int .i64 m,.string s,.slice p n cap]] w (dO (aJ 2 m s n) w):=by
 have hq:aJ 2 m s n=if ¬m=0 then 1 else if bK 2 n=false then 1 else if ez s=false then 7 else 0:=by
  simp[aJ,cR]
 generalize aJ 2 m s n=r at *;have hop:=fun w=>gg 2 m s p n cap w hn;generalize bK 2 n=ob at *;have HK:=Lib.hid hk;clear hk;have HO:=Lib.hid hop;clear hop;have HQ:=Lib.hid hq;clear hq;go_enter Tryz.func129,Tryz.ntmps129;go_wp2_with (first|(go_at_call 162;refine(HO.out _).mono ?_;rintro e w' ⟨rfl,hx⟩;obtain⟨c0,c1,c2,c3⟩:=hx.box4)|(go_at_call 163;refine(yX s _ hs (HK.out.ext hx.past)).mono ?_;rintro e w' ⟨rfl,hy⟩;have d0:=hy.cell c0));all_goals go_ret
 all_goals (go_light;refine⟨bV ?_,(by first|exact hx.past.trans hy|exact hx.past|exact(Ext.refl _).alloc _)⟩;rw[HQ.out];simp_all;done)
set_option maxRecDepth 100000 in
set_option maxHeartbeats 2000000 in
theorem zR(o m:Int)(s:ByteArray)(p:Option Addr)(n cap:Nat)(w:World)(hn:n≤9223372036854775807)(h1:1≤o)(h25:o≤25)(n1:¬o=1)(n2:¬o=2)(n3:¬o=3)(n24:¬o=24):
 Calls Tryz.prog 129 #[.agg #[.int .i64 o,.int .i64 m,.string s,.slice p n cap]] w (dO (aJ o m s n) w):=by
 have hq:aJ o m s n=if ¬m=0 then 1 else if ¬s.toList=[]∨bK o n=false then 1 else 0:=by
  have:¬(o<1∨25<o):=by omega
  simp[aJ,cR,this,n1,n2,n3,n24]
 generalize aJ o m s n=r at *;have hop:=fun w=>gg o m s p n cap w hn;generalize bK o n=ob at *;have e1:(o==1)=false:=beq_eq_false_iff_ne.2 n1;have e1':(o != 1)=true:=bne_iff_ne.2 n1;have e2:(o==2)=false:=beq_eq_false_iff_ne.2 n2;have e3:(o==3)=false:=beq_eq_false_iff_ne.2 n3;have e24:(o==24)=false:=beq_eq_false_iff_ne.2 n24;clear n1 n2 n3 n24;have HO:=Lib.hid hop;clear hop;have HQ:=Lib.hid hq;clear hq;go_enter Tryz.func129,Tryz.ntmps129;go_wp2_with (first|(go_at_call 162;refine(HO.out _).mono ?_;rintro e w' ⟨rfl,hx⟩;obtain⟨c0,c1,c2,c3⟩:=hx.box4));all_goals go_ret
 all_goals (go_light;refine⟨bV ?_,(by first|exact hx.past.trans hy|exact hx.past|exact(Ext.refl _).alloc _)⟩;rw[HQ.out];simp_all;done)
theorem Dq(o m:Int)(s:ByteArray)(p:Option Addr)(n cap:Nat)(w:World)(hn:n≤9223372036854775807)(hs:s.size≤9223372036854775807)(hk:mw w):
 Calls Tryz.prog 129 #[.agg #[.int .i64 o,.int .i64 m,.string s,.slice p n cap]] w (dO (aJ o m s n) w):=by
 by_cases h:o<1∨25<o
 ·exact Ci o m s p n cap w h
 by_cases h1:o=1
 ·subst h1;exact xt m s p n cap w hn
 by_cases h2:o=2
 ·subst h2;exact Cf m s p n cap w hn hs hk
 by_cases h3:o=3∨o=24
 ·exact yT o m s p n cap w hn h3 hs hk
 exact zR o m s p n cap w hn (by omega) (by omega) h1 h2 (by omega) (by omega)
def qW(e:Ex):Int:=aJ e.op e.num e.name e.args.length
theorem si(s:ByteArray)(a b k:Nat)(h:k<(s.extract a b).size):(s.extract a b)[k]'h=s[a+k]'(by rw[ByteArray.size_extract]at h;omega):=by
 show(s.extract a b).data[k]'h=s.data[a+k]'_;simp only[ByteArray.data_extract,Array.getElem_extract]
theorem C6{s:ByteArray}(h:eq s=true){k:Nat}(hk:k<s.size):eu (s[k]'hk).toNat=true:=by
 cases hf:eu (s[k]'hk).toNat with
 | true=>rfl
 | false=>rw[ke hk hf]at h;cases h
theorem yK{s:ByteArray}(h:eq s=true):0<s.size:=by
 apply Classical.byContradiction;intro hn;have:s.data.toList=[]:=List.eq_nil_of_length_eq_zero (by have:=Lib.size_eq s;omega);simp[eq,this,iq]at h
theorem pS{s:ByteArray}(h:a8 s=true):eq s=true:=by simp[a8]at h;exact h.1.1
theorem se(s:ByteArray):fW s=iI s:=by
 rw[Bool.eq_iff_iff];constructor
 ·intro h;simp only[fW,Bool.and_eq_true,mK,decide_eq_true_eq]at h;obtain⟨⟨h1,h2⟩,h3⟩:=h;obtain⟨o,ho⟩:=Int.eq_ofNat_of_zero_le h1;have hlt:=sE ho;have hsome:=Lib.indexByte_some ho;have hA:gD s 91=s.extract 0 o:=by unfold gD;rw[ho,if_neg (by omega)];rfl
  have hB:je s 91=s.extract (o+1) s.size:=by unfold je;rw[ho,if_neg (by omega)];rfl
  rw[hA]at h2;rw[hB]at h3;by_cases hz:(s.extract (o+1) s.size).size=2
  ·rw[ii hz]at h3;simp only[Bool.and_eq_true,decide_eq_true_eq,si]at h3;have hz':=hz;rw[ByteArray.size_extract]at hz';have hw:=yK (pS h2);rw[ByteArray.size_extract]at hw;have e:s.size=o+3:=by omega
   have hn:¬s.size<4:=by omega
   have h91:(s[o]'hlt).toNat=91:=by
    have h:=hsome.1;rw[gH s o hlt]at h;have h':s[o]'hlt=91:=Option.some.inj h;rw[h'];rfl
   rw[l9 hn];have i1:s.size-1=o+1+1:=by omega
   have i2:s.size-2=o+1+0:=by omega
   have i3:s.size-3=o:=by omega
   simp only[i1,i2,i3,Bool.and_eq_true,decide_eq_true_eq];exact⟨⟨⟨⟨h3.1.1,h91⟩,h3.1.2⟩,h3.2⟩,h2⟩
  ·rw[l6 hz]at h3;cases h3
 ·intro h;by_cases hn:s.size<4
  ·rw[ql hn]at h;cases h
  ·rw[l9 hn]at h;simp only[Bool.and_eq_true,decide_eq_true_eq]at h;obtain⟨⟨⟨⟨h1,h2⟩,h3⟩,h4⟩,h5⟩:=h
   have hidx:Lib.indexByte s.data.toList 91=((s.size-3:Nat):Int):=by
    have hlen:=Lib.size_eq s
    have hat:s.data.toList[s.size-3]? = some 91:=by
     rw[gH s _ (by omega)]
     have:(s[s.size-3]'(by omega))=91:=by
      apply UInt8.toNat_inj.1;rw[h2];rfl
     rw[this]
    cases hi:Lib.indexByte s.data.toList 91 with
    | negSucc m=>
     have:=Lib.indexByte_ge s.data.toList 91;have hm:Lib.indexByte s.data.toList 91 = -1:=by omega
     exact absurd hat (Lib.indexByte_none hm _)
    | ofNat o=>
     have hs:=Lib.indexByte_some hi;have hlt:=sE hi;by_cases h':o<s.size-3
     ·have hw:=C6 (pS h5) (k:=o) (by rw[ByteArray.size_extract];omega);rw[si]at hw
      have h9:(s[o]'hlt)=91:=by
       have h:=hs.1;rw[gH s o hlt]at h;exact Option.some.inj h
      simp only[Nat.zero_add]at hw;rw[h9]at hw;cases hw
     ·by_cases h'':o=s.size-3
      ·rw[h''];rfl
      ·exact absurd hat (hs.2 _ (by omega))
   have hA:gD s 91=s.extract 0 (s.size-3):=by unfold gD;rw[hidx,if_neg (by omega)];rfl
   have hB:je s 91=s.extract (s.size-3+1) s.size:=by unfold je;rw[hidx,if_neg (by omega)];rfl
   have hz:(s.extract (s.size-3+1) s.size).size=2:=by rw[ByteArray.size_extract];omega
   simp only[fW,Bool.and_eq_true,mK,decide_eq_true_eq];rw[hA,hB,hidx,ii hz];simp only[Bool.and_eq_true,decide_eq_true_eq,si];have i1:s.size-3+1+1=s.size-1:=by omega
   have i2:s.size-3+1+0=s.size-2:=by omega
   have j1:(s[s.size-3+1+1]'(by omega)).toNat=93:=by simp only[i1];exact h1
   have j3:48≤(s[s.size-3+1+0]'(by omega)).toNat:=by simp only[i2];exact h3
   have j4:(s[s.size-3+1+0]'(by omega)).toNat<56:=by simp only[i2];exact h4
   exact⟨⟨by omega,h5⟩,⟨j1,j3⟩,j4⟩
set_option maxRecDepth 100000 in
set_option maxHeartbeats 2000000 in
theorem AF(o m:Int)(s:ByteArray)(p:Option Addr)(n cap:Nat)(w:World)(hn:n≤9223372036854775807)(ho:o<1∨25<o):
 Calls Tryz.prog 178 #[.agg #[.int .i64 o,.int .i64 m,.string s,.slice p n cap]] w (dO (aJ o m s n) w):=by
 have hq:aJ o m s n=1:=by
  rw[aJ,if_pos ho]
 generalize aJ o m s n=r at *;have HQ:=Lib.hid hq;clear hq;rcases ho with ho|ho;all_goals
 go_enter Tryz.func178,Tryz.ntmps178;go_wp2_with (first|(go_at_call 206;refine(gm _ _).mono ?_;rintro e w' ⟨rfl,rfl⟩)|(go_at_call 207;refine(ff _ _).mono ?_;rintro e w' ⟨rfl,rfl⟩));all_goals go_ret
 all_goals (go_light;refine⟨bV ?_,(by first|exact hx.past|exact(Ext.refl _).alloc _)⟩;rw[HQ.out])
set_option maxRecDepth 100000 in
set_option maxHeartbeats 2000000 in
theorem uk(m:Int)(s:ByteArray)(p:Option Addr)(n cap:Nat)(w:World)(hn:n≤9223372036854775807):
 Calls Tryz.prog 178 #[.agg #[.int .i64 1,.int .i64 m,.string s,.slice p n cap]] w (dO (aJ 1 m s n) w):=by
 have hq:aJ 1 m s n=if m<0∨65535<m then 1 else if ¬s.toList=[]∨¬(n:Int)=cy 1 then 1 else 0:=by
  simp[aJ,cR,bK]
 generalize aJ 1 m s n=r at *;have hnm:cR 1=false:=rfl;have HQ:=Lib.hid hq;clear hq;go_enter Tryz.func178,Tryz.ntmps178;go_wp2_with (first|(go_at_call 206;refine(gm _ _).mono ?_;rintro e w' ⟨rfl,rfl⟩)|(go_at_call 207;refine(ff _ _).mono ?_;rintro e w' ⟨rfl,rfl⟩));all_goals go_ret
 all_goals (go_light;refine⟨bV ?_,(by first|exact hx.past|exact(Ext.refl _).alloc _)⟩;rw[HQ.out];first|(rw[if_pos (by omega)];done)|(rw[if_neg (by omega)];simp_all;done))
set_option maxRecDepth 100000 in
set_option maxHeartbeats 2000000 in
theorem vf(o m:Int)(s:ByteArray)(p:Option Addr)(n cap:Nat)(w:World)(hn:n≤9223372036854775807)(ho:o=3∨o=24)(hs:s.size≤9223372036854775807):
 Calls Tryz.prog 178 #[.agg #[.int .i64 o,.int .i64 m,.string s,.slice p n cap]] w (dO (aJ o m s n) w):=by
 have hq:aJ o m s n=if ¬m=0 then 1 else if ¬(n:Int)=cy o then 1 else if a8 s=false then 7 else 0:=by
  rcases ho with rfl|rfl<;>simp[aJ,cR,bK]
 generalize aJ o m s n=r at *;have HQ:=Lib.hid hq;clear hq;have hnm:cR o=true:=by rcases ho with rfl|rfl<;>rfl
 rcases ho with rfl|rfl;all_goals
 go_enter Tryz.func178,Tryz.ntmps178;go_wp2_with (first|(go_at_call 206;refine(gm _ _).mono ?_;rintro e w' ⟨rfl,rfl⟩)|(go_at_call 207;refine(ff _ _).mono ?_;rintro e w' ⟨rfl,rfl⟩)|(go_at_call 37;refine(gS s _ hs).mono ?_;rintro e w' ⟨rfl,hx⟩;obtain⟨c0,c1,c2,c3⟩:=hx.box4));all_goals go_ret
 all_goals (go_light;refine⟨bV ?_,(by first|exact hx.past|exact(Ext.refl _).alloc _)⟩;rw[HQ.out];first|(simp_all;done)|(simp_all;omega))
set_option maxRecDepth 100000 in
set_option maxHeartbeats 2000000 in
theorem Bw(m:Int)(s:ByteArray)(p:Option Addr)(n cap:Nat)(w:World)(hn:n≤9223372036854775807)(hs:s.size≤9223372036854775807):
 Calls Tryz.prog 178 #[.agg #[.int .i64 2,.int .i64 m,.string s,.slice p n cap]] w (dO (aJ 2 m s n) w):=by
 have hq:aJ 2 m s n=if ¬m=0 then 1 else if ¬(n:Int)=cy 2 then 1 else if ez s=false then 7 else 0:=by
  simp[aJ,cR,bK]
 generalize aJ 2 m s n=r at *;have hv:=fun w=>v7 s w hs;rw[←se]at hv;change ∀w,Calls _ _ _ _ (fun e w'=>e=.returned (.bool (ez s))∧Ext w w')at hv;have HV:=Lib.hid hv;clear hv;have hnm:cR 2=true:=rfl;have HQ:=Lib.hid hq;clear hq;go_enter Tryz.func178,Tryz.ntmps178;go_wp2_with (first|(go_at_call 206;refine(gm _ _).mono ?_;rintro e w' ⟨rfl,rfl⟩)|(go_at_call 207;refine(ff _ _).mono ?_;rintro e w' ⟨rfl,rfl⟩)|(go_at_call 208;refine(HV.out _).mono ?_;rintro e w' ⟨rfl,hx⟩;obtain⟨c0,c1,c2,c3⟩:=hx.box4));all_goals go_ret
 all_goals (go_light;refine⟨bV ?_,(by first|exact hx.past|exact(Ext.refl _).alloc _)⟩;rw[HQ.out];first|(simp_all;done)|(simp_all;omega))
set_option maxRecDepth 100000 in
set_option maxHeartbeats 2000000 in
theorem wW(o m:Int)(s:ByteArray)(p:Option Addr)(n cap:Nat)(w:World)(hn:n≤9223372036854775807)(h1:1≤o)(h25:o≤25)(n1:¬o=1)(n2:¬o=2)(n3:¬o=3)(n24:¬o=24)(n23:¬o=23):
 Calls Tryz.prog 178 #[.agg #[.int .i64 o,.int .i64 m,.string s,.slice p n cap]] w (dO (aJ o m s n) w):=by
 have hq:aJ o m s n=if ¬m=0 then 1 else if ¬s.toList=[]∨¬(n:Int)=cy o then 1 else 0:=by
  have:¬(o<1∨25<o):=by omega
  simp[aJ,cR,bK,this,n1,n2,n3,n24,n23]
 generalize aJ o m s n=r at *;have e1:(o==1)=false:=beq_eq_false_iff_ne.2 n1;have e1':(o != 1)=true:=bne_iff_ne.2 n1;have e2:(o==2)=false:=beq_eq_false_iff_ne.2 n2;have e23:(o==23)=false:=beq_eq_false_iff_ne.2 n23;have e23':(o != 23)=true:=bne_iff_ne.2 n23;have hnm:cR o=false:=by simp[cR,n2,n3,n24]
 clear n1 n2 n3 n24 n23;have HQ:=Lib.hid hq;clear hq;go_enter Tryz.func178,Tryz.ntmps178;go_wp2_with (first|(go_at_call 206;refine(gm _ _).mono ?_;rintro e w' ⟨rfl,rfl⟩)|(go_at_call 207;refine(ff _ _).mono ?_;rintro e w' ⟨rfl,rfl⟩));all_goals go_ret
 all_goals (go_light;refine⟨bV ?_,(by first|exact hx.past|exact(Ext.refl _).alloc _)⟩;rw[HQ.out];first|(simp_all;done)|(simp_all;omega))
set_option maxRecDepth 100000 in
set_option maxHeartbeats 2000000 in
theorem rC(m:Int)(s:ByteArray)(p:Option Addr)(n cap:Nat)(w:World)(hn:n≤9223372036854775807):
 Calls Tryz.prog 178 #[.agg #[.int .i64 23,.int .i64 m,.string s,.slice p n cap]] w (dO (aJ 23 m s n) w):=by
 have hq:aJ 23 m s n=if ¬m=0 then 1 else if ¬s.toList=[]∨¬((n:Int)%2=1∧3≤(n:Int)∧(n:Int)≤33)then 1 else 0:=by
  have h2:bK 23 n=decide ((n:Int)%2=1∧3≤(n:Int)∧(n:Int)≤33):=by
   simp only[bK,if_true];rw[Bool.eq_iff_iff];simp;omega
  simp only[aJ,cR,h2,decide_eq_false_iff_not];simp
 generalize aJ 23 m s n=r at *;have hnm:cR 23=false:=rfl;have HQ:=Lib.hid hq;clear hq;go_enter Tryz.func178,Tryz.ntmps178;go_wp2_with (first|(go_at_call 206;refine(gm _ _).mono ?_;rintro e w' ⟨rfl,rfl⟩)|(go_at_call 207;refine(ff _ _).mono ?_;rintro e w' ⟨rfl,rfl⟩));all_goals go_ret
 all_goals (go_light;refine⟨bV ?_,(by first|exact hx.past|exact(Ext.refl _).alloc _)⟩;rw[HQ.out];first|(simp_all;done)|(rw[if_neg (by omega),if_neg (by simp_all;omega)];done)|(rw[if_neg (by omega),if_pos (by simp_all;omega)];done)|(simp_all;omega))
theorem At(o m:Int)(s:ByteArray)(p:Option Addr)(n cap:Nat)(w:World)(hn:n≤9223372036854775807)(hs:s.size≤9223372036854775807):
 Calls Tryz.prog 178 #[.agg #[.int .i64 o,.int .i64 m,.string s,.slice p n cap]] w (dO (aJ o m s n) w):=by
 by_cases h:o<1∨25<o
 ·exact AF o m s p n cap w hn h
 by_cases h1:o=1
 ·subst h1;exact uk m s p n cap w hn
 by_cases h2:o=2
 ·subst h2;exact Bw m s p n cap w hn hs
 by_cases h3:o=3∨o=24
 ·exact vf o m s p n cap w hn h3 hs
 by_cases h23:o=23
 ·subst h23;exact rC m s p n cap w hn
 exact wW o m s p n cap w hn (by omega) (by omega) h1 h2 (by omega) (by omega) h23
end Go.Proofs.YthekkgfmagliiaaGreatDoor
