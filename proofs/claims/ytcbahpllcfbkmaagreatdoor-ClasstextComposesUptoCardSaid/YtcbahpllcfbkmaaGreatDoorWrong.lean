import Derived.Test.YtcbahpllcfbkmaaGreatDoorSpan
set_option linter.unusedVariables false
set_option linter.unusedSimpArgs false
set_option linter.unusedSectionVars false
namespace Go.Proofs.YtcbahpllcfbkmaaGreatDoor
open Go.RowKit
def aK(s:ByteArray):Bool:=dj s||aL s
set_option maxRecDepth 100000 in
theorem sV(s:ByteArray)(w:World)(hs:s.size≤9223372036854775807)(hk:iW w):
 Calls Tryz.prog 141 #[.string s] w fun e w'=>e=.returned (.bool (aK s))∧Ext w w':=by
 have HK:=Lib.hid hk;clear hk;have hq:aK s=(dj s||aL s):=rfl;have HQ:=Lib.hid hq;clear hq;generalize aK s=r at *;have he:=fun w hk=>nM s w hs hk;generalize dj s=eb at *;have HE:=Lib.hid he;clear he;go_enter Tryz.func141,Tryz.ntmps141;go_wp2_with (first|(go_at_call 155;refine(HE.out _ HK.out).mono ?_;rintro e w' ⟨a,i,rfl,hx⟩)|(go_at_call 65;refine(eu _ _ (by omega) (HK.out.ext (by assumption))).mono ?_;rintro e w' ⟨rfl,hy⟩));all_goals go_ret
 all_goals (go_light;refine⟨aE ?_,(by first|exact hx.trans hy|exact hx)⟩;rw[HQ.out];simp[*])
def fq(s:ByteArray):Bool:=
 if h:s.size<4 then false else decide ((s[s.size-1]'(by omega)).toNat=93)&&decide ((s[s.size-3]'(by omega)).toNat=91) &&
  decide (48≤(s[s.size-2]'(by omega)).toNat)&&decide ((s[s.size-2]'(by omega)).toNat<56)&&aL (s.extract 0 (s.size-3))
theorem lW{s:ByteArray}(h:s.size<4):fq s=false:=by unfold fq;rw[dif_pos h]
theorem je{s:ByteArray}(h:¬s.size<4):fq s=(decide ((s[s.size-1]'(by omega)).toNat=93)&&decide ((s[s.size-3]'(by omega)).toNat=91) &&
 decide (48≤(s[s.size-2]'(by omega)).toNat)&&decide ((s[s.size-2]'(by omega)).toNat<56)&&aL (s.extract 0 (s.size-3))):=by unfold fq;rw[dif_neg h]
theorem places{s:ByteArray}(k:Nat)(hk:1≤k)(h:k≤s.size):((s.size:Int)-k<s.size)∧(0≤(s.size:Int)-k)∧((s.size:Int)-k).toNat=s.size-k:=by omega
set_option maxRecDepth 100000 in
set_option maxHeartbeats 1600000 in
theorem rf(s:ByteArray)(w:World)(hs:s.size≤9223372036854775807):
 Calls Tryz.prog 137 #[.string s] w (mJ (fq s) w):=by
 by_cases hz:s.size<4
 ·rw[lW hz];go_enter Tryz.func137,Tryz.ntmps137;go_wp2_with fail;go_ret3;exact gq rfl (Ext.refl _)
 ·have hq:=je hz;generalize fq s=eb at *;have hsz:(s.extract 0 (s.size-3)).size≤9223372036854775807:=by rw[ByteArray.size_extract];omega
  obtain⟨p1,p1',e1⟩:=places (s:=s) 1 (by omega) (by omega);obtain⟨p2,p2',e2⟩:=places (s:=s) 2 (by omega) (by omega);obtain⟨p3,p3',e3⟩:=places (s:=s) 3 (by omega) (by omega);have b1:s.size-1<s.size:=by omega
  have b2:s.size-2<s.size:=by omega
  have b3:s.size-3<s.size:=by omega
  have q1:(1:Int)≤s.size:=by omega
  have q2:(2:Int)≤s.size:=by omega
  have q3:(3:Int)≤s.size:=by omega
  have q4:(4:Int)≤s.size:=by omega
  have y1:((s[s.size-1]'b1).toNat:Int)<256:=by have:=(s[s.size-1]'b1).toNat_lt;omega
  have y2:((s[s.size-2]'b2).toNat:Int)<256:=by have:=(s[s.size-2]'b2).toNat_lt;omega
  have y3:((s[s.size-3]'b3).toNat:Int)<256:=by have:=(s[s.size-3]'b3).toNat_lt;omega
  have hz':decide ((s.size:Int)<4)=false:=decide_eq_false (by omega);have HQ:=Lib.hid hq;clear hq;by_cases g1:(s[s.size-1]'b1).toNat=93
  ·have h93:(((s[s.size-1]'b1).toNat:Int) != 93)=false:=by rw[g1];rfl
   have G1:=Lib.hid g1;clear g1;by_cases g3:(s[s.size-3]'b3).toNat=91
   ·have h91:(((s[s.size-3]'b3).toNat:Int) != 91)=false:=by rw[g3];rfl
    have G3:=Lib.hid g3;clear g3;go_enter Tryz.func137,Tryz.ntmps137;go_wp2_with (go_at_call 51;refine(eM _ _ hsz).mono ?_;rintro e w' ⟨rfl,hy⟩);all_goals go_ret3
    all_goals (go_light;refine gq ?_ (by first|exact hy|exact Ext.refl _);rw[HQ.out,decide_eq_true G1.out,decide_eq_true G3.out];first
     | (rw[decide_eq_false (p:=48≤(s[s.size-2]'b2).toNat) (by omega)];simp;done)
     | (rw[decide_eq_false (p:=(s[s.size-2]'b2).toNat<56) (by omega)];simp;done)
     | (rw[decide_eq_true (p:=48≤(s[s.size-2]'b2).toNat) (by omega),decide_eq_true (p:=(s[s.size-2]'b2).toNat<56) (by omega)];cases hnm:aL (s.extract 0 (s.size-3))<;>simp[hnm]at * <;>omega))
   ·have h91:(((s[s.size-3]'b3).toNat:Int) != 91)=true:=by rw[bne_iff_ne];omega
    have G3:=Lib.hid g3;clear g3;go_enter Tryz.func137,Tryz.ntmps137;go_wp2_with fail;go_ret3;exact gq (by rw[HQ.out,decide_eq_false G3.out];simp) (Ext.refl _)
  ·have h93:(((s[s.size-1]'b1).toNat:Int) != 93)=true:=by rw[bne_iff_ne];omega
   have G1:=Lib.hid g1;clear g1;go_enter Tryz.func137,Tryz.ntmps137;go_wp2_with fail;go_ret3;exact gq (by rw[HQ.out,decide_eq_false G1.out];simp) (Ext.refl _)
theorem ki(s:ByteArray)(w:World)(hs:s.size≤9223372036854775807):
 Calls Tryz.prog 128 #[.string s] w fun e w'=>e=.returned (.bool (fq s||aL s))∧Ext w w':=by
 have he:=fun w=>rf s w hs;generalize fq s=eb at *;have HE:=Lib.hid he;clear he;go_enter Tryz.func128,Tryz.ntmps128;go_wp2_with (first|(go_at_call 137;refine(HE.out _).mono ?_;rintro e w' ⟨a,i,rfl,hx⟩)|(go_at_call 51;refine(eM _ _ (by omega)).mono ?_;rintro e w' ⟨rfl,hy⟩));all_goals go_ret
 all_goals (go_light;refine⟨aE ?_,(by first|exact hx.trans hy|exact hx)⟩;simp[*])
def dg(op:Int):Int:=
 if op=1∨op=2∨op=24 then 0 else if op=3∨op=4∨op=5∨op=6∨op=25 then 1 else if op=22 then 3 else if op=23 then -1
 else if op<1∨25<op then -1 else 2
theorem l9(op:Int)(w:World):
 Calls Tryz.prog 154 #[.int .i64 op] w fun e w'=>e=.returned (.int .i64 (dg op))∧w=w':=by
 go_enter Tryz.func154,Tryz.ntmps154;go_wp2_with fail;all_goals go_ret
 all_goals (go_light;refine⟨bT ?_,rfl⟩;unfold dg;simp only[beq_iff_eq,beq_eq_false_iff_ne,ne_eq]at *;simp[*])
theorem dA(op:Int)(w:World):
 Calls Tryz.prog 175 #[.int .i64 op] w fun e w'=>e=.returned (.int .i64 (dg op))∧w=w':=by
 go_enter Tryz.func175,Tryz.ntmps175;go_wp2_with fail;all_goals go_ret
 all_goals (go_light;refine⟨bT ?_,rfl⟩;unfold dg;simp only[beq_iff_eq,beq_eq_false_iff_ne,ne_eq]at *;simp[*])
def cr(op:Int):Bool:=decide (op=2)||decide (op=3)||decide (op=24)
def cd(op:Int)(n:Nat):Bool:=if op=23 then decide (n%2=1)&&decide (3≤n)&&decide (n≤33)else decide ((n:Int)=dg op)
def aC(op num:Int)(s:ByteArray)(n:Nat):Int:=
 if op<1∨25<op then 1
 else if(op=1∧(num<0∨65535<num))∨(op≠1∧num≠0)then 1
 else if(cr op=false∧¬s.toList=[])∨cd op n=false then 1
 else if(op=2∧aK s=false)∨((op=3∨op=24)∧aL s=false)then 7 else 0
set_option maxRecDepth 100000 in
theorem d5(o m:Int)(s:ByteArray)(p:Option Addr)(n cap:Nat)(w:World)(hn:n≤9223372036854775807):
 Calls Tryz.prog 140 #[.agg #[.int .i64 o,.int .i64 m,.string s,.slice p n cap]] w fun e w'=>e=.returned (.bool (cd o n))∧Ext w w':=by
 by_cases ho:o=23
 ·subst ho;have h2:((n:Int)%2=1)↔n%2=1:=by omega
  have H2:=Lib.hid h2;clear h2;go_enter Tryz.func140,Tryz.ntmps140;go_wp2_with (go_at_call 154;refine(l9 _ _).mono ?_;rintro e w' ⟨rfl,rfl⟩);all_goals go_ret
  all_goals (go_light;refine⟨aE ?_,(Ext.refl _).alloc _⟩;simp only[beq_iff_eq,beq_eq_false_iff_ne,ne_eq,H2.out]at *;simp only[cd,if_true];rw[Bool.eq_iff_iff];simp[*]<;>omega)
 ·have ho':(o==23)=false:=by rw[beq_eq_false_iff_ne];exact ho
  have HO:=Lib.hid ho;clear ho;go_enter Tryz.func140,Tryz.ntmps140;go_wp2_with (go_at_call 154;refine(l9 _ _).mono ?_;rintro e w' ⟨rfl,rfl⟩);all_goals go_ret
  all_goals (go_light;refine⟨aE ?_,(Ext.refl _).alloc _⟩;rw[cd,if_neg HO.out,Bool.eq_iff_iff];simp)
theorem d6(o:Int)(w:World):
 Calls Tryz.prog 174 #[.int .i64 o] w fun e w'=>e=.returned (.bool (cr o))∧w=w':=by
 go_enter Tryz.func174,Tryz.ntmps174;go_wp2_with fail;all_goals go_ret
 all_goals (go_light;refine⟨aE ?_,rfl⟩;(try simp only[beq_iff_eq,beq_eq_false_iff_ne,ne_eq]at *);unfold cr;rw[Bool.eq_iff_iff];simp[*])
def cE(v:Int)(w:World)(e:Ending)(w':World):Prop:=e=.returned (.int .i64 v)∧Ext w w'
set_option maxRecDepth 100000 in
set_option maxHeartbeats 1200000 in
theorem vG(o m:Int)(s:ByteArray)(p:Option Addr)(n cap:Nat)(w:World)(ho:o<1∨25<o):
 Calls Tryz.prog 118 #[.agg #[.int .i64 o,.int .i64 m,.string s,.slice p n cap]] w (cE (aC o m s n) w):=by
 have e1:(o==2)=false:=by rw[beq_eq_false_iff_ne];omega
 have e2:(o==3)=false:=by rw[beq_eq_false_iff_ne];omega
 have e3:(o==24)=false:=by rw[beq_eq_false_iff_ne];omega
 rw[aC,if_pos ho];rcases ho with ho|ho
 all_goals
  go_enter Tryz.func118,Tryz.ntmps118;go_wp2_with fail;go_ret;exact⟨rfl,(Ext.refl _).alloc _⟩
set_option maxRecDepth 100000 in
set_option maxHeartbeats 2000000 in
theorem pp(m:Int)(s:ByteArray)(p:Option Addr)(n cap:Nat)(w:World)(hn:n≤9223372036854775807):
 Calls Tryz.prog 118 #[.agg #[.int .i64 1,.int .i64 m,.string s,.slice p n cap]] w (cE (aC 1 m s n) w):=by
 have hq:aC 1 m s n=if m<0∨65535<m then 1 else if ¬s.toList=[]∨cd 1 n=false then 1 else 0:=by
  simp[aC,cr]
 generalize aC 1 m s n=r at *;have hop:=fun w=>d5 1 m s p n cap w hn;generalize cd 1 n=ob at *;have HO:=Lib.hid hop;clear hop;have HQ:=Lib.hid hq;clear hq;go_enter Tryz.func118,Tryz.ntmps118;go_wp2_with (first|(go_at_call 140;refine(HO.out _).mono ?_;rintro e w' ⟨rfl,hx⟩;obtain⟨c0,c1,c2,c3⟩:=hx.box4));all_goals go_ret
 all_goals (go_light;refine⟨bT ?_,(by first|exact hx.past.trans hy|exact hx.past|exact(Ext.refl _).alloc _)⟩;rw[HQ.out];first|(rw[if_pos (by omega)];done)|(rw[if_neg (by omega)];simp_all;done))
set_option maxRecDepth 100000 in
set_option maxHeartbeats 2000000 in
theorem rI(o m:Int)(s:ByteArray)(p:Option Addr)(n cap:Nat)(w:World)(hn:n≤9223372036854775807)(ho:o=3∨o=24)(hs:s.size≤9223372036854775807)(hk:iW w):
 Calls Tryz.prog 118 #[.agg #[.int .i64 o,.int .i64 m,.string s,.slice p n cap]] w (cE (aC o m s n) w):=by
 have hq:aC o m s n=if ¬m=0 then 1 else if cd o n=false then 1 else if aL s=false then 7 else 0:=by
  rcases ho with rfl|rfl<;>simp[aC,cr]
 generalize aC o m s n=r at *;have hop:=fun w=>d5 o m s p n cap w hn;generalize cd o n=ob at *;have HK:=Lib.hid hk;clear hk;have HO:=Lib.hid hop;clear hop;have HQ:=Lib.hid hq;clear hq;rcases ho with rfl|rfl;all_goals
 go_enter Tryz.func118,Tryz.ntmps118;go_wp2_with (first|(go_at_call 140;refine(HO.out _).mono ?_;rintro e w' ⟨rfl,hx⟩;obtain⟨c0,c1,c2,c3⟩:=hx.box4)|(go_at_call 65;refine(eu s _ hs (HK.out.ext hx.past)).mono ?_;rintro e w' ⟨rfl,hy⟩));all_goals go_ret
 all_goals (go_light;refine⟨bT ?_,(by first|exact hx.past.trans hy|exact hx.past|exact(Ext.refl _).alloc _)⟩;rw[HQ.out];simp_all;done)
set_option maxRecDepth 100000 in
set_option maxHeartbeats 2000000 in
theorem wG(m:Int)(s:ByteArray)(p:Option Addr)(n cap:Nat)(w:World)(hn:n≤9223372036854775807)(hs:s.size≤9223372036854775807)(hk:iW w):
 Calls Tryz.prog 118 #[.agg #[.int .i64 2,.int .i64 m,.string s,.slice p n cap]] w (cE (aC 2 m s n) w):=by
 have hq:aC 2 m s n=if ¬m=0 then 1 else if cd 2 n=false then 1 else if aK s=false then 7 else 0:=by
  simp[aC,cr]
 generalize aC 2 m s n=r at *;have hop:=fun w=>d5 2 m s p n cap w hn;generalize cd 2 n=ob at *;have HK:=Lib.hid hk;clear hk;have HO:=Lib.hid hop;clear hop;have HQ:=Lib.hid hq;clear hq;go_enter Tryz.func118,Tryz.ntmps118;go_wp2_with (first|(go_at_call 140;refine(HO.out _).mono ?_;rintro e w' ⟨rfl,hx⟩;obtain⟨c0,c1,c2,c3⟩:=hx.box4)|(go_at_call 141;refine(sV s _ hs (HK.out.ext hx.past)).mono ?_;rintro e w' ⟨rfl,hy⟩;have d0:=hy.cell c0));all_goals go_ret
 all_goals (go_light;refine⟨bT ?_,(by first|exact hx.past.trans hy|exact hx.past|exact(Ext.refl _).alloc _)⟩;rw[HQ.out];simp_all;done)
set_option maxRecDepth 100000 in
set_option maxHeartbeats 2000000 in
theorem sb(o m:Int)(s:ByteArray)(p:Option Addr)(n cap:Nat)(w:World)(hn:n≤9223372036854775807)(h1:1≤o)(h25:o≤25)(n1:¬o=1)(n2:¬o=2)(n3:¬o=3)(n24:¬o=24):
 Calls Tryz.prog 118 #[.agg #[.int .i64 o,.int .i64 m,.string s,.slice p n cap]] w (cE (aC o m s n) w):=by
 have hq:aC o m s n=if ¬m=0 then 1 else if ¬s.toList=[]∨cd o n=false then 1 else 0:=by
  have:¬(o<1∨25<o):=by omega
  simp[aC,cr,this,n1,n2,n3,n24]
 generalize aC o m s n=r at *;have hop:=fun w=>d5 o m s p n cap w hn;generalize cd o n=ob at *;have e1:(o==1)=false:=beq_eq_false_iff_ne.2 n1;have e1':(o != 1)=true:=bne_iff_ne.2 n1;have e2:(o==2)=false:=beq_eq_false_iff_ne.2 n2;have e3:(o==3)=false:=beq_eq_false_iff_ne.2 n3;have e24:(o==24)=false:=beq_eq_false_iff_ne.2 n24;clear n1 n2 n3 n24;have HO:=Lib.hid hop;clear hop;have HQ:=Lib.hid hq;clear hq;go_enter Tryz.func118,Tryz.ntmps118;go_wp2_with (first|(go_at_call 140;refine(HO.out _).mono ?_;rintro e w' ⟨rfl,hx⟩;obtain⟨c0,c1,c2,c3⟩:=hx.box4));all_goals go_ret
 all_goals (go_light;refine⟨bT ?_,(by first|exact hx.past.trans hy|exact hx.past|exact(Ext.refl _).alloc _)⟩;rw[HQ.out];simp_all;done)
theorem wM(o m:Int)(s:ByteArray)(p:Option Addr)(n cap:Nat)(w:World)(hn:n≤9223372036854775807)(hs:s.size≤9223372036854775807)(hk:iW w):
 Calls Tryz.prog 118 #[.agg #[.int .i64 o,.int .i64 m,.string s,.slice p n cap]] w (cE (aC o m s n) w):=by
 by_cases h:o<1∨25<o
 ·exact vG o m s p n cap w h
 by_cases h1:o=1
 ·subst h1;exact pp m s p n cap w hn
 by_cases h2:o=2
 ·subst h2;exact wG m s p n cap w hn hs hk
 by_cases h3:o=3∨o=24
 ·exact rI o m s p n cap w hn h3 hs hk
 exact sb o m s p n cap w hn (by omega) (by omega) h1 h2 (by omega) (by omega)
def lS(e:Ex):Int:=aC e.op e.num e.name e.args.length
theorem mA(s:ByteArray)(a b k:Nat)(h:k<(s.extract a b).size):(s.extract a b)[k]'h=s[a+k]'(by rw[ByteArray.size_extract]at h;omega):=by
 show(s.extract a b).data[k]'h=s.data[a+k]'_;simp only[ByteArray.data_extract,Array.getElem_extract]
theorem kR{s:ByteArray}(h:dP s=true){k:Nat}(hk:k<s.size):dw (s[k]'hk).toNat=true:=by
 cases hf:dw (s[k]'hk).toNat with
 | true=>rfl
 | false=>rw[gn hk hf]at h;cases h
theorem ma{s:ByteArray}(h:dP s=true):0<s.size:=by
 apply Classical.byContradiction;intro hn;have:s.data.toList=[]:=List.eq_nil_of_length_eq_zero (by have:=Lib.size_eq s;omega);simp[dP,this,gJ]at h
theorem eE{s:ByteArray}(h:aL s=true):dP s=true:=by simp[aL]at h;exact h.1.1
theorem ip(s:ByteArray):dj s=fq s:=by
 rw[Bool.eq_iff_iff];constructor
 ·intro h;simp only[dj,Bool.and_eq_true,fh,decide_eq_true_eq]at h;obtain⟨⟨h1,h2⟩,h3⟩:=h;obtain⟨o,ho⟩:=Int.eq_ofNat_of_zero_le h1;have hlt:=m4 ho;have hsome:=Lib.indexByte_some ho;have hA:cI s 91=s.extract 0 o:=by unfold cI;rw[ho,if_neg (by omega)];rfl
  have hB:eG s 91=s.extract (o+1) s.size:=by unfold eG;rw[ho,if_neg (by omega)];rfl
  rw[hA]at h2;rw[hB]at h3;by_cases hz:(s.extract (o+1) s.size).size=2
  ·rw[fp hz]at h3;simp only[Bool.and_eq_true,decide_eq_true_eq,mA]at h3;have hz':=hz;rw[ByteArray.size_extract]at hz';have hw:=ma (eE h2);rw[ByteArray.size_extract]at hw;have e:s.size=o+3:=by omega
   have hn:¬s.size<4:=by omega
   have h91:(s[o]'hlt).toNat=91:=by
    have h:=hsome.1;rw[eo s o hlt]at h;have h':s[o]'hlt=91:=Option.some.inj h;rw[h'];rfl
   rw[je hn];have i1:s.size-1=o+1+1:=by omega
   have i2:s.size-2=o+1+0:=by omega
   have i3:s.size-3=o:=by omega
   simp only[i1,i2,i3,Bool.and_eq_true,decide_eq_true_eq];exact⟨⟨⟨⟨h3.1.1,h91⟩,h3.1.2⟩,h3.2⟩,h2⟩
  ·rw[iY hz]at h3;cases h3
 ·intro h;by_cases hn:s.size<4
  ·rw[lW hn]at h;cases h
  ·rw[je hn]at h;simp only[Bool.and_eq_true,decide_eq_true_eq]at h;obtain⟨⟨⟨⟨h1,h2⟩,h3⟩,h4⟩,h5⟩:=h
   have hidx:Lib.indexByte s.data.toList 91=((s.size-3:Nat):Int):=by
    have hlen:=Lib.size_eq s
    have hat:s.data.toList[s.size-3]? = some 91:=by
     rw[eo s _ (by omega)]
     have:(s[s.size-3]'(by omega))=91:=by
      apply UInt8.toNat_inj.1;rw[h2];rfl
     rw[this]
    cases hi:Lib.indexByte s.data.toList 91 with
    | negSucc m=>
     have:=Lib.indexByte_ge s.data.toList 91;have hm:Lib.indexByte s.data.toList 91 = -1:=by omega
     exact absurd hat (Lib.indexByte_none hm _)
    | ofNat o=>
     have hs:=Lib.indexByte_some hi;have hlt:=m4 hi;by_cases h':o<s.size-3
     ·have hw:=kR (eE h5) (k:=o) (by rw[ByteArray.size_extract];omega);rw[mA]at hw
      have h9:(s[o]'hlt)=91:=by
       have h:=hs.1;rw[eo s o hlt]at h;exact Option.some.inj h
      simp only[Nat.zero_add]at hw;rw[h9]at hw;cases hw
     ·by_cases h'':o=s.size-3
      ·rw[h''];rfl
      ·exact absurd hat (hs.2 _ (by omega))
   have hA:cI s 91=s.extract 0 (s.size-3):=by unfold cI;rw[hidx,if_neg (by omega)];rfl
   have hB:eG s 91=s.extract (s.size-3+1) s.size:=by unfold eG;rw[hidx,if_neg (by omega)];rfl
   have hz:(s.extract (s.size-3+1) s.size).size=2:=by rw[ByteArray.size_extract];omega
   simp only[dj,Bool.and_eq_true,fh,decide_eq_true_eq];rw[hA,hB,hidx,fp hz];simp only[Bool.and_eq_true,decide_eq_true_eq,mA];have i1:s.size-3+1+1=s.size-1:=by omega
   have i2:s.size-3+1+0=s.size-2:=by omega
   have j1:(s[s.size-3+1+1]'(by omega)).toNat=93:=by simp only[i1];exact h1
   have j3:48≤(s[s.size-3+1+0]'(by omega)).toNat:=by simp only[i2];exact h3
   have j4:(s[s.size-3+1+0]'(by omega)).toNat<56:=by simp only[i2];exact h4
   exact⟨⟨by omega,h5⟩,⟨j1,j3⟩,j4⟩
set_option maxRecDepth 100000 in
set_option maxHeartbeats 2000000 in
theorem rx(o m:Int)(s:ByteArray)(p:Option Addr)(n cap:Nat)(w:World)(hn:n≤9223372036854775807)(ho:o<1∨25<o):
 Calls Tryz.prog 162 #[.agg #[.int .i64 o,.int .i64 m,.string s,.slice p n cap]] w (cE (aC o m s n) w):=by
 have hq:aC o m s n=1:=by
  rw[aC,if_pos ho]
 generalize aC o m s n=r at *;have HQ:=Lib.hid hq;clear hq;rcases ho with ho|ho;all_goals
 go_enter Tryz.func162,Tryz.ntmps162;go_wp2_with (first|(go_at_call 174;refine(d6 _ _).mono ?_;rintro e w' ⟨rfl,rfl⟩)|(go_at_call 175;refine(dA _ _).mono ?_;rintro e w' ⟨rfl,rfl⟩));all_goals go_ret
 all_goals (go_light;refine⟨bT ?_,(by first|exact hx.past|exact(Ext.refl _).alloc _)⟩;rw[HQ.out])
set_option maxRecDepth 100000 in
set_option maxHeartbeats 2000000 in
theorem nW(m:Int)(s:ByteArray)(p:Option Addr)(n cap:Nat)(w:World)(hn:n≤9223372036854775807):
 Calls Tryz.prog 162 #[.agg #[.int .i64 1,.int .i64 m,.string s,.slice p n cap]] w (cE (aC 1 m s n) w):=by
 have hq:aC 1 m s n=if m<0∨65535<m then 1 else if ¬s.toList=[]∨¬(n:Int)=dg 1 then 1 else 0:=by
  simp[aC,cr,cd]
 generalize aC 1 m s n=r at *;have hnm:cr 1=false:=rfl;have HQ:=Lib.hid hq;clear hq;go_enter Tryz.func162,Tryz.ntmps162;go_wp2_with (first|(go_at_call 174;refine(d6 _ _).mono ?_;rintro e w' ⟨rfl,rfl⟩)|(go_at_call 175;refine(dA _ _).mono ?_;rintro e w' ⟨rfl,rfl⟩));all_goals go_ret
 all_goals (go_light;refine⟨bT ?_,(by first|exact hx.past|exact(Ext.refl _).alloc _)⟩;rw[HQ.out];first|(rw[if_pos (by omega)];done)|(rw[if_neg (by omega)];simp_all;done))
set_option maxRecDepth 100000 in
set_option maxHeartbeats 2000000 in
theorem pz(o m:Int)(s:ByteArray)(p:Option Addr)(n cap:Nat)(w:World)(hn:n≤9223372036854775807)(ho:o=3∨o=24)(hs:s.size≤9223372036854775807):
 Calls Tryz.prog 162 #[.agg #[.int .i64 o,.int .i64 m,.string s,.slice p n cap]] w (cE (aC o m s n) w):=by
 have hq:aC o m s n=if ¬m=0 then 1 else if ¬(n:Int)=dg o then 1 else if aL s=false then 7 else 0:=by
  rcases ho with rfl|rfl<;>simp[aC,cr,cd]
 generalize aC o m s n=r at *;have HQ:=Lib.hid hq;clear hq;have hnm:cr o=true:=by rcases ho with rfl|rfl<;>rfl
 rcases ho with rfl|rfl;all_goals
 go_enter Tryz.func162,Tryz.ntmps162;go_wp2_with (first|(go_at_call 174;refine(d6 _ _).mono ?_;rintro e w' ⟨rfl,rfl⟩)|(go_at_call 175;refine(dA _ _).mono ?_;rintro e w' ⟨rfl,rfl⟩)|(go_at_call 51;refine(eM s _ hs).mono ?_;rintro e w' ⟨rfl,hx⟩;obtain⟨c0,c1,c2,c3⟩:=hx.box4));all_goals go_ret
 all_goals (go_light;refine⟨bT ?_,(by first|exact hx.past|exact(Ext.refl _).alloc _)⟩;rw[HQ.out];first|(simp_all;done)|(simp_all;omega))
set_option maxRecDepth 100000 in
set_option maxHeartbeats 2000000 in
theorem qW(m:Int)(s:ByteArray)(p:Option Addr)(n cap:Nat)(w:World)(hn:n≤9223372036854775807)(hs:s.size≤9223372036854775807):
 Calls Tryz.prog 162 #[.agg #[.int .i64 2,.int .i64 m,.string s,.slice p n cap]] w (cE (aC 2 m s n) w):=by
 have hq:aC 2 m s n=if ¬m=0 then 1 else if ¬(n:Int)=dg 2 then 1 else if aK s=false then 7 else 0:=by
  simp[aC,cr,cd]
 generalize aC 2 m s n=r at *;have hv:=fun w=>ki s w hs;rw[←ip]at hv;change ∀w,Calls _ _ _ _ (fun e w'=>e=.returned (.bool (aK s))∧Ext w w')at hv;have HV:=Lib.hid hv;clear hv;have hnm:cr 2=true:=rfl;have HQ:=Lib.hid hq;clear hq;go_enter Tryz.func162,Tryz.ntmps162;go_wp2_with (first|(go_at_call 174;refine(d6 _ _).mono ?_;rintro e w' ⟨rfl,rfl⟩)|(go_at_call 175;refine(dA _ _).mono ?_;rintro e w' ⟨rfl,rfl⟩)|(go_at_call 128;refine(HV.out _).mono ?_;rintro e w' ⟨rfl,hx⟩;obtain⟨c0,c1,c2,c3⟩:=hx.box4));all_goals go_ret
 all_goals (go_light;refine⟨bT ?_,(by first|exact hx.past|exact(Ext.refl _).alloc _)⟩;rw[HQ.out];first|(simp_all;done)|(simp_all;omega))
set_option maxRecDepth 100000 in
set_option maxHeartbeats 2000000 in
theorem pK(o m:Int)(s:ByteArray)(p:Option Addr)(n cap:Nat)(w:World)(hn:n≤9223372036854775807)(h1:1≤o)(h25:o≤25)(n1:¬o=1)(n2:¬o=2)(n3:¬o=3)(n24:¬o=24)(n23:¬o=23):
 Calls Tryz.prog 162 #[.agg #[.int .i64 o,.int .i64 m,.string s,.slice p n cap]] w (cE (aC o m s n) w):=by
 have hq:aC o m s n=if ¬m=0 then 1 else if ¬s.toList=[]∨¬(n:Int)=dg o then 1 else 0:=by
  have:¬(o<1∨25<o):=by omega
  simp[aC,cr,cd,this,n1,n2,n3,n24,n23]
 generalize aC o m s n=r at *;have e1:(o==1)=false:=beq_eq_false_iff_ne.2 n1;have e1':(o != 1)=true:=bne_iff_ne.2 n1;have e2:(o==2)=false:=beq_eq_false_iff_ne.2 n2;have e23:(o==23)=false:=beq_eq_false_iff_ne.2 n23;have e23':(o != 23)=true:=bne_iff_ne.2 n23;have hnm:cr o=false:=by simp[cr,n2,n3,n24]
 clear n1 n2 n3 n24 n23;have HQ:=Lib.hid hq;clear hq;go_enter Tryz.func162,Tryz.ntmps162;go_wp2_with (first|(go_at_call 174;refine(d6 _ _).mono ?_;rintro e w' ⟨rfl,rfl⟩)|(go_at_call 175;refine(dA _ _).mono ?_;rintro e w' ⟨rfl,rfl⟩));all_goals go_ret
 all_goals (go_light;refine⟨bT ?_,(by first|exact hx.past|exact(Ext.refl _).alloc _)⟩;rw[HQ.out];first|(simp_all;done)|(simp_all;omega))
set_option maxRecDepth 100000 in
set_option maxHeartbeats 2000000 in
theorem m6(m:Int)(s:ByteArray)(p:Option Addr)(n cap:Nat)(w:World)(hn:n≤9223372036854775807):
 Calls Tryz.prog 162 #[.agg #[.int .i64 23,.int .i64 m,.string s,.slice p n cap]] w (cE (aC 23 m s n) w):=by
 have hq:aC 23 m s n=if ¬m=0 then 1 else if ¬s.toList=[]∨¬((n:Int)%2=1∧3≤(n:Int)∧(n:Int)≤33)then 1 else 0:=by
  have h2:cd 23 n=decide ((n:Int)%2=1∧3≤(n:Int)∧(n:Int)≤33):=by
   simp only[cd,if_true];rw[Bool.eq_iff_iff];simp;omega
  simp only[aC,cr,h2,decide_eq_false_iff_not];simp
 generalize aC 23 m s n=r at *;have hnm:cr 23=false:=rfl;have HQ:=Lib.hid hq;clear hq;go_enter Tryz.func162,Tryz.ntmps162;go_wp2_with (first|(go_at_call 174;refine(d6 _ _).mono ?_;rintro e w' ⟨rfl,rfl⟩)|(go_at_call 175;refine(dA _ _).mono ?_;rintro e w' ⟨rfl,rfl⟩));all_goals go_ret
 all_goals (go_light;refine⟨bT ?_,(by first|exact hx.past|exact(Ext.refl _).alloc _)⟩;rw[HQ.out];first|(simp_all;done)|(rw[if_neg (by omega),if_neg (by simp_all;omega)];done)|(rw[if_neg (by omega),if_pos (by simp_all;omega)];done)|(simp_all;omega))
theorem sK(o m:Int)(s:ByteArray)(p:Option Addr)(n cap:Nat)(w:World)(hn:n≤9223372036854775807)(hs:s.size≤9223372036854775807):
 Calls Tryz.prog 162 #[.agg #[.int .i64 o,.int .i64 m,.string s,.slice p n cap]] w (cE (aC o m s n) w):=by
 by_cases h:o<1∨25<o
 ·exact rx o m s p n cap w hn h
 by_cases h1:o=1
 ·subst h1;exact nW m s p n cap w hn
 by_cases h2:o=2
 ·subst h2;exact qW m s p n cap w hn hs
 by_cases h3:o=3∨o=24
 ·exact pz o m s p n cap w hn h3 hs
 by_cases h23:o=23
 ·subst h23;exact m6 m s p n cap w hn
 exact pK o m s p n cap w hn (by omega) (by omega) h1 h2 (by omega) (by omega) h23
end Go.Proofs.YtcbahpllcfbkmaaGreatDoor
