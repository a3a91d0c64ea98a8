import Derived.Test.YtcbahpllcfbkmaaGreatDoorSpan
set_option linter.unusedVariables false
set_option linter.unusedSimpArgs false
set_option linter.unusedSectionVars false
namespace Go.Proofs.YtcbahpllcfbkmaaGreatDoor
open Go.RowKit
def isVarB(s:ByteArray):Bool:=elemB s||nameB s
set_option maxRecDepth 100000 in
theorem isvar_any(s:ByteArray)(w:World)(hs:s.size≤9223372036854775807)(hk:Keys w):
 Calls Tryz.prog 141 #[.string s] w fun e w'=>e=.returned (.bool (isVarB s))∧Ext w w':=by
 have HK:=Lib.hid hk;clear hk;have hq:isVarB s=(elemB s||nameB s):=rfl;have HQ:=Lib.hid hq;clear hq;generalize isVarB s=r at *;have he:=fun w hk=>element_any s w hs hk;generalize elemB s=eb at *;have HE:=Lib.hid he;clear he;go_enter Tryz.func141,Tryz.ntmps141;go_wp2_with (first|(go_at_call 155;refine(HE.out _ HK.out).mono ?_;rintro e w' ⟨a,i,rfl,hx⟩)|(go_at_call 65;refine(isname_any _ _ (by omega) (HK.out.ext (by assumption))).mono ?_;rintro e w' ⟨rfl,hy⟩));all_goals go_ret
 all_goals (go_light;refine⟨ret_bool ?_,(by first|exact hx.trans hy|exact hx)⟩;rw[HQ.out];simp[*])
theorem places{s:ByteArray}(k:Nat)(hk:1≤k)(h:k≤s.size):((s.size:Int)-k<s.size)∧(0≤(s.size:Int)-k)∧((s.size:Int)-k).toNat=s.size-k:=by omega
def arity(op:Int):Int:=
 if op=1∨op=2∨op=24 then 0 else if op=3∨op=4∨op=5∨op=6∨op=25 then 1 else if op=22 then 3 else if op=23 then -1
 else if op<1∨25<op then -1 else 2
theorem arity_any(op:Int)(w:World):
 Calls Tryz.prog 154 #[.int .i64 op] w fun e w'=>e=.returned (.int .i64 (arity op))∧w=w':=by
 go_enter Tryz.func154,Tryz.ntmps154;go_wp2_with fail;all_goals go_ret
 all_goals (go_light;refine⟨ret_int ?_,rfl⟩;unfold arity;simp only[beq_iff_eq,beq_eq_false_iff_ne,ne_eq]at *;simp[*])
def namedB(op:Int):Bool:=decide (op=2)||decide (op=3)||decide (op=24)
def operB(op:Int)(n:Nat):Bool:=if op=23 then decide (n%2=1)&&decide (3≤n)&&decide (n≤33)else decide ((n:Int)=arity op)
def nodeErr(op num:Int)(s:ByteArray)(n:Nat):Int:=
 if op<1∨25<op then 1
 else if(op=1∧(num<0∨65535<num))∨(op≠1∧num≠0)then 1
 else if(namedB op=false∧¬s.toList=[])∨operB op n=false then 1
 else if(op=2∧isVarB s=false)∨((op=3∨op=24)∧nameB s=false)then 7 else 0
set_option maxRecDepth 100000 in
theorem operands_any(o m:Int)(s:ByteArray)(p:Option Addr)(n cap:Nat)(w:World)(hn:n≤9223372036854775807):
 Calls Tryz.prog 140 #[.agg #[.int .i64 o,.int .i64 m,.string s,.slice p n cap]] w fun e w'=>e=.returned (.bool (operB o n))∧Ext w w':=by
 by_cases ho:o=23
 ·subst ho;have h2:((n:Int)%2=1)↔n%2=1:=by omega
  have H2:=Lib.hid h2;clear h2;go_enter Tryz.func140,Tryz.ntmps140;go_wp2_with (go_at_call 154;refine(arity_any _ _).mono ?_;rintro e w' ⟨rfl,rfl⟩);all_goals go_ret
  all_goals (go_light;refine⟨ret_bool ?_,(Ext.refl _).alloc _⟩;simp only[beq_iff_eq,beq_eq_false_iff_ne,ne_eq,H2.out]at *;simp only[operB,if_true];rw[Bool.eq_iff_iff];simp[*]<;>omega)
 ·have ho':(o==23)=false:=by rw[beq_eq_false_iff_ne];exact ho
  have HO:=Lib.hid ho;clear ho;go_enter Tryz.func140,Tryz.ntmps140;go_wp2_with (go_at_call 154;refine(arity_any _ _).mono ?_;rintro e w' ⟨rfl,rfl⟩);all_goals go_ret
  all_goals (go_light;refine⟨ret_bool ?_,(Ext.refl _).alloc _⟩;rw[operB,if_neg HO.out,Bool.eq_iff_iff];simp)
def ErrPost(v:Int)(w:World)(e:Ending)(w':World):Prop:=e=.returned (.int .i64 v)∧Ext w w'
set_option maxRecDepth 100000 in
set_option maxHeartbeats 1200000 in
theorem node_out(o m:Int)(s:ByteArray)(p:Option Addr)(n cap:Nat)(w:World)(ho:o<1∨25<o):
 Calls Tryz.prog 118 #[.agg #[.int .i64 o,.int .i64 m,.string s,.slice p n cap]] w (ErrPost (nodeErr o m s n) w):=by
 have e1:(o==2)=false:=by rw[beq_eq_false_iff_ne];omega
 have e2:(o==3)=false:=by rw[beq_eq_false_iff_ne];omega
 have e3:(o==24)=false:=by rw[beq_eq_false_iff_ne];omega
 rw[nodeErr,if_pos ho];rcases ho with ho|ho
 all_goals
  go_enter Tryz.func118,Tryz.ntmps118;go_wp2_with fail;go_ret;exact⟨rfl,(Ext.refl _).alloc _⟩
set_option maxRecDepth 100000 in
set_option maxHeartbeats 2000000 in
theorem node_const(m:Int)(s:ByteArray)(p:Option Addr)(n cap:Nat)(w:World)(hn:n≤9223372036854775807):
 Calls Tryz.prog 118 #[.agg #[.int .i64 1,.int .i64 m,.string s,.slice p n cap]] w (ErrPost (nodeErr 1 m s n) w):=by
 have hq:nodeErr 1 m s n=if m<0∨65535<m then 1 else if ¬s.toList=[]∨operB 1 n=false then 1 else 0:=by
  simp[nodeErr,namedB]
 generalize nodeErr 1 m s n=r at *;have hop:=fun w=>operands_any 1 m s p n cap w hn;generalize operB 1 n=ob at *;have HO:=Lib.hid hop;clear hop;have HQ:=Lib.hid hq;clear hq;go_enter Tryz.func118,Tryz.ntmps118;go_wp2_with (first|(go_at_call 140;refine(HO.out _).mono ?_;rintro e w' ⟨rfl,hx⟩;obtain⟨c0,c1,c2,c3⟩:=hx.box4));all_goals go_ret
 all_goals (go_light;refine⟨ret_int ?_,(by first|exact hx.past.trans hy|exact hx.past|exact(Ext.refl _).alloc _)⟩;rw[HQ.out];first|(rw[if_pos (by omega)];done)|(rw[if_neg (by omega)];simp_all;done))
set_option maxRecDepth 100000 in
set_option maxHeartbeats 2000000 in
theorem node_elem(o m:Int)(s:ByteArray)(p:Option Addr)(n cap:Nat)(w:World)(hn:n≤9223372036854775807)(ho:o=3∨o=24)(hs:s.size≤9223372036854775807)(hk:Keys w):
 Calls Tryz.prog 118 #[.agg #[.int .i64 o,.int .i64 m,.string s,.slice p n cap]] w (ErrPost (nodeErr o m s n) w):=by
 have hq:nodeErr o m s n=if ¬m=0 then 1 else if operB o n=false then 1 else if nameB s=false then 7 else 0:=by
  rcases ho with rfl|rfl<;>simp[nodeErr,namedB]
 generalize nodeErr o m s n=r at *;have hop:=fun w=>operands_any o m s p n cap w hn;generalize operB o n=ob at *;have HK:=Lib.hid hk;clear hk;have HO:=Lib.hid hop;clear hop;have HQ:=Lib.hid hq;clear hq;rcases ho with rfl|rfl;all_goals
 go_enter Tryz.func118,Tryz.ntmps118;go_wp2_with (first|(go_at_call 140;refine(HO.out _).mono ?_;rintro e w' ⟨rfl,hx⟩;obtain⟨c0,c1,c2,c3⟩:=hx.box4)|(go_at_call 65;refine(isname_any s _ hs (HK.out.ext hx.past)).mono ?_;rintro e w' ⟨rfl,hy⟩));all_goals go_ret
 all_goals (go_light;refine⟨ret_int ?_,(by first|exact hx.past.trans hy|exact hx.past|exact(Ext.refl _).alloc _)⟩;rw[HQ.out];simp_all;done)
set_option maxRecDepth 100000 in
set_option maxHeartbeats 2000000 in
theorem node_var(m:Int)(s:ByteArray)(p:Option Addr)(n cap:Nat)(w:World)(hn:n≤9223372036854775807)(hs:s.size≤9223372036854775807)(hk:Keys w):
 Calls Tryz.prog 118 #[.agg #[.int .i64 2,.int .i64 m,.string s,.slice p n cap]] w (ErrPost (nodeErr 2 m s n) w):=by
 have hq:nodeErr 2 m s n=if ¬m=0 then 1 else if operB 2 n=false then 1 else if isVarB s=false then 7 else 0:=by
  simp[nodeErr,namedB]
 generalize nodeErr 2 m s n=r at *;have hop:=fun w=>operands_any 2 m s p n cap w hn;generalize operB 2 n=ob at *;have HK:=Lib.hid hk;clear hk;have HO:=Lib.hid hop;clear hop;have HQ:=Lib.hid hq;clear hq;go_enter Tryz.func118,Tryz.ntmps118;go_wp2_with (first|(go_at_call 140;refine(HO.out _).mono ?_;rintro e w' ⟨rfl,hx⟩;obtain⟨c0,c1,c2,c3⟩:=hx.box4)|(go_at_call 141;refine(isvar_any s _ hs (HK.out.ext hx.past)).mono ?_;rintro e w' ⟨rfl,hy⟩;have d0:=hy.cell c0));all_goals go_ret
 all_goals (go_light;refine⟨ret_int ?_,(by first|exact hx.past.trans hy|exact hx.past|exact(Ext.refl _).alloc _)⟩;rw[HQ.out];simp_all;done)
set_option maxRecDepth 100000 in
set_option maxHeartbeats 2000000 in
theorem node_rest(o m:Int)(s:ByteArray)(p:Option Addr)(n cap:Nat)(w:World)(hn:n≤9223372036854775807)(h1:1≤o)(h25:o≤25)(n1:¬o=1)(n2:¬o=2)(n3:¬o=3)(n24:¬o=24):
 Calls Tryz.prog 118 #[.agg #[.int .i64 o,.int .i64 m,.string s,.slice p n cap]] w (ErrPost (nodeErr o m s n) w):=by
 have hq:nodeErr o m s n=if ¬m=0 then 1 else if ¬s.toList=[]∨operB o n=false then 1 else 0:=by
  have:¬(o<1∨25<o):=by omega
  simp[nodeErr,namedB,this,n1,n2,n3,n24]
 generalize nodeErr o m s n=r at *;have hop:=fun w=>operands_any o m s p n cap w hn;generalize operB o n=ob at *;have e1:(o==1)=false:=beq_eq_false_iff_ne.2 n1;have e1':(o != 1)=true:=bne_iff_ne.2 n1;have e2:(o==2)=false:=beq_eq_false_iff_ne.2 n2;have e3:(o==3)=false:=beq_eq_false_iff_ne.2 n3;have e24:(o==24)=false:=beq_eq_false_iff_ne.2 n24;clear n1 n2 n3 n24;have HO:=Lib.hid hop;clear hop;have HQ:=Lib.hid hq;clear hq;go_enter Tryz.func118,Tryz.ntmps118;go_wp2_with (first|(go_at_call 140;refine(HO.out _).mono ?_;rintro e w' ⟨rfl,hx⟩;obtain⟨c0,c1,c2,c3⟩:=hx.box4));all_goals go_ret
 all_goals (go_light;refine⟨ret_int ?_,(by first|exact hx.past.trans hy|exact hx.past|exact(Ext.refl _).alloc _)⟩;rw[HQ.out];simp_all;done)
theorem node_any(o m:Int)(s:ByteArray)(p:Option Addr)(n cap:Nat)(w:World)(hn:n≤9223372036854775807)(hs:s.size≤9223372036854775807)(hk:Keys w):
 Calls Tryz.prog 118 #[.agg #[.int .i64 o,.int .i64 m,.string s,.slice p n cap]] w (ErrPost (nodeErr o m s n) w):=by
 by_cases h:o<1∨25<o
 ·exact node_out o m s p n cap w h
 by_cases h1:o=1
 ·subst h1;exact node_const m s p n cap w hn
 by_cases h2:o=2
 ·subst h2;exact node_var m s p n cap w hn hs hk
 by_cases h3:o=3∨o=24
 ·exact node_elem o m s p n cap w hn h3 hs hk
 exact node_rest o m s p n cap w hn (by omega) (by omega) h1 h2 (by omega) (by omega)
def exErr(e:Ex):Int:=nodeErr e.op e.num e.name e.args.length
theorem wordB_no{s:ByteArray}(h:wordB s=true){k:Nat}(hk:k<s.size):folB (s[k]'hk).toNat=true:=by
 cases hf:folB (s[k]'hk).toNat with
 | true=>rfl
 | false=>rw[wordB_fol hk hf]at h;cases h
theorem wordB_pos{s:ByteArray}(h:wordB s=true):0<s.size:=by
 apply Classical.byContradiction;intro hn;have:s.data.toList=[]:=List.eq_nil_of_length_eq_zero (by have:=Lib.size_eq s;omega);simp[wordB,this,wordL]at h
theorem nameB_word{s:ByteArray}(h:nameB s=true):wordB s=true:=by simp[nameB]at h;exact h.1.1
end Go.Proofs.YtcbahpllcfbkmaaGreatDoor
