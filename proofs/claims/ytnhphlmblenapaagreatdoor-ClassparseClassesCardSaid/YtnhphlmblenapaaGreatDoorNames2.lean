import Derived.Laws.EntriesVeiled
import Derived.Test.YtnhphlmblenapaaGreatDoorSpan
set_option linter.unusedVariables false
set_option linter.unusedSimpArgs false
set_option linter.unusedSectionVars false
set_option maxRecDepth 100000
set_option maxHeartbeats 2000000
open Bool renaming and_eq_true->TJ,eq_iff_iff->TK
open ByteArray renaming size_extract->TL,data_extract->TM
namespace Go.Proofs.YtnhphlmblenapaaGreatDoor
open Go.RowKit
def bN(s:ByteArray):Bool:=my s||bC s
theorem Bi(s:ByteArray)(w:World)(hs:s.size≤9223372036854775807)(hk:ol w):
 Calls Tryz.prog 224 #[.string s] w fun e w'=>e=.returned (.bool (bN s))/\Ext w w':=by
 have HK:=Lib.hid hk;clear hk;have hq:bN s=(my s||bC s):=rfl;have HQ:=Lib.hid hq;clear hq;generalize bN s=r at *;have he:=fun w hk=>vY s w hs hk;generalize my s=eb at *;have HE:=Lib.hid he;clear he;go_enter Tryz.func224,Tryz.ntmps224;go_wp2_with (first|(go_at_call 257;refine(HE.out _ HK.out).mono ?_;rintro e w' ⟨a,i,rfl,hx⟩)|(go_at_call 96;refine(gh _ _ (by omega) (HK.out.ext (by assumption))).mono ?_;rintro e w' ⟨rfl,hy⟩));all_goals go_ret
 all_goals (go_light;refine⟨aV ?_,(by first|exact hx.trans hy|exact hx)⟩;rw[HQ.out];simp[*])
def jw(s:ByteArray):Bool:=
 if h:s.size<4 then false else decide ((s[s.size-1]'(by omega)).toNat=93)&&decide ((s[s.size-3]'(by omega)).toNat=91) &&
  decide (48≤(s[s.size-2]'(by omega)).toNat)&&decide ((s[s.size-2]'(by omega)).toNat<56)&&bC (s.extract 0 (s.size-3))
theorem tE{s:ByteArray}(h:s.size<4):jw s=false:=by unfold jw;rw[dif_pos h]
theorem oY{s:ByteArray}(h:¬s.size<4):jw s=(decide ((s[s.size-1]'(by omega)).toNat=93)&&decide ((s[s.size-3]'(by omega)).toNat=91) &&
 decide (48≤(s[s.size-2]'(by omega)).toNat)&&decide ((s[s.size-2]'(by omega)).toNat<56)&&bC (s.extract 0 (s.size-3))):=by unfold jw;rw[dif_neg h]
theorem places{s:ByteArray}(k:Nat)(hk:1≤k)(h:k≤s.size):((s.size:Int)-k<s.size)/\(0≤(s.size:Int)-k)/\((s.size:Int)-k).toNat=s.size-k:=by omega
theorem A0(s:ByteArray)(w:World)(hs:s.size≤9223372036854775807):
 Calls Tryz.prog 266 #[.string s] w (uA (jw s) w):=by
 by_cases hz:s.size<4
 .rw[tE hz];go_enter Tryz.func266,Tryz.ntmps266;go_wp2_with fail;go_ret3;exact lQ rfl (Ext.refl _)
 .have hq:=oY hz;generalize jw s=eb at *;have hsz:(s.extract 0 (s.size-3)).size≤9223372036854775807:=by rw[TL];omega
  obtain⟨p1,p1',e1⟩:=places (s:=s) 1 (by omega) (by omega);obtain⟨p2,p2',e2⟩:=places (s:=s) 2 (by omega) (by omega);obtain⟨p3,p3',e3⟩:=places (s:=s) 3 (by omega) (by omega);have b1:s.size-1<s.size:=by omega
  have b2:s.size-2<s.size:=by omega
  have b3:s.size-3<s.size:=by omega
  have q1:(1:Int)≤s.size:=by omega
  have q2:(2:Int)≤s.size:=by omega
  have q3:(3:Int)≤s.size:=by omega
  have q4:(4:Int)≤s.size:=by omega
  have y1:((s[s.size-1]'b1).toNat:Int)<256:=by have:=(s[s.size-1]'b1).toNat_lt;omega
  have y2:((s[s.size-2]'b2).toNat:Int)<256:=by have:=(s[s.size-2]'b2).toNat_lt;omega
  have y3:((s[s.size-3]'b3).toNat:Int)<256:=by have:=(s[s.size-3]'b3).toNat_lt;omega
  have hz':decide ((s.size:Int)<4)=false:=decide_eq_false (by omega);have HQ:=Lib.hid hq;clear hq;by_cases g1:(s[s.size-1]'b1).toNat=93
  .have h93:(((s[s.size-1]'b1).toNat:Int) != 93)=false:=by rw[g1];rfl
   have G1:=Lib.hid g1;clear g1;by_cases g3:(s[s.size-3]'b3).toNat=91
   .have h91:(((s[s.size-3]'b3).toNat:Int) != 91)=false:=by rw[g3];rfl
    have G3:=Lib.hid g3;clear g3;go_enter Tryz.func266,Tryz.ntmps266;go_wp2_with (go_at_call 142;refine(iK _ _ hsz).mono ?_;rintro e w' ⟨rfl,hy⟩);all_goals go_ret3
    all_goals (go_light;refine lQ ?_ (by first|exact hy|exact Ext.refl _);rw[HQ.out,decide_eq_true G1.out,decide_eq_true G3.out];first
     | (rw[decide_eq_false (p:=48≤(s[s.size-2]'b2).toNat) (by omega)];simp;done)
     | (rw[decide_eq_false (p:=(s[s.size-2]'b2).toNat<56) (by omega)];simp;done)
     | (rw[decide_eq_true (p:=48≤(s[s.size-2]'b2).toNat) (by omega),decide_eq_true (p:=(s[s.size-2]'b2).toNat<56) (by omega)];cases hnm:bC (s.extract 0 (s.size-3))<;>simp[hnm]at * <;>omega))
   .have h91:(((s[s.size-3]'b3).toNat:Int) != 91)=true:=by rw[bne_iff_ne];omega
    have G3:=Lib.hid g3;clear g3;go_enter Tryz.func266,Tryz.ntmps266;go_wp2_with fail;go_ret3;exact lQ (by rw[HQ.out,decide_eq_false G3.out];simp) (Ext.refl _)
  .have h93:(((s[s.size-1]'b1).toNat:Int) != 93)=true:=by rw[bne_iff_ne];omega
   have G1:=Lib.hid g1;clear g1;go_enter Tryz.func266,Tryz.ntmps266;go_wp2_with fail;go_ret3;exact lQ (by rw[HQ.out,decide_eq_false G1.out];simp) (Ext.refl _)
theorem qM(s:ByteArray)(w:World)(hs:s.size≤9223372036854775807):
 Calls Tryz.prog 236 #[.string s] w fun e w'=>e=.returned (.bool (jw s||bC s))/\Ext w w':=by
 have he:=fun w=>A0 s w hs;generalize jw s=eb at *;have HE:=Lib.hid he;clear he;go_enter Tryz.func236,Tryz.ntmps236;go_wp2_with (first|(go_at_call 266;refine(HE.out _).mono ?_;rintro e w' ⟨a,i,rfl,hx⟩)|(go_at_call 142;refine(iK _ _ (by omega)).mono ?_;rintro e w' ⟨rfl,hy⟩));all_goals go_ret
 all_goals (go_light;refine⟨aV ?_,(by first|exact hx.trans hy|exact hx)⟩;simp[*])
def mm(op:Int):Int:=
 if op=1\/op=2\/op=24 then 0 else if op=3\/op=4\/op=5\/op=6\/op=25 then 1 else if op=22 then 3 else if op=23 then -1
 else if op<1\/25<op then -1 else 2
theorem tG(op:Int)(w:World):
 Calls Tryz.prog 256 #[.int .i64 op] w fun e w'=>e=.returned (.int .i64 (mm op))/\w=w':=by
 go_enter Tryz.func256,Tryz.ntmps256;go_wp2_with fail;all_goals go_ret
 all_goals (go_light;refine⟨cu ?_,rfl⟩;unfold mm;simp only[beq_iff_eq,beq_eq_false_iff_ne,ne_eq]at *;simp[*])
theorem gc(op:Int)(w:World):
 Calls Tryz.prog 316 #[.int .i64 op] w fun e w'=>e=.returned (.int .i64 (mm op))/\w=w':=by
 go_enter Tryz.func316,Tryz.ntmps316;go_wp2_with fail;all_goals go_ret
 all_goals (go_light;refine⟨cu ?_,rfl⟩;unfold mm;simp only[beq_iff_eq,beq_eq_false_iff_ne,ne_eq]at *;simp[*])
def dQ(op:Int):Bool:=decide (op=2)||decide (op=3)||decide (op=24)
def fz(op:Int)(n:Nat):Bool:=if op=23 then decide (n%2=1)&&decide (3≤n)&&decide (n≤33)else decide ((n:Int)=mm op)
def aO(op num:Int)(s:ByteArray)(n:Nat):Int:=
 if op<1\/25<op then 1
 else if(op=1/\(num<0\/65535<num))\/(op≠1/\num≠0)then 1
 else if(dQ op=false/\¬s.toList=[])\/fz op n=false then 1
 else if(op=2/\bN s=false)\/((op=3\/op=24)/\bC s=false)then 7 else 0
theorem ij(o m:Int)(s:ByteArray)(p:Option Addr)(n cap:Nat)(w:World)(hn:n≤9223372036854775807):
 Calls Tryz.prog 223 #[.agg #[.int .i64 o,.int .i64 m,.string s,.slice p n cap]] w fun e w'=>e=.returned (.bool (fz o n))/\Ext w w':=by
 by_cases ho:o=23
 .subst ho;have h2:((n:Int)%2=1)↔n%2=1:=by omega
  have H2:=Lib.hid h2;clear h2;go_enter Tryz.func223,Tryz.ntmps223;go_wp2_with (go_at_call 256;refine(tG _ _).mono ?_;rintro e w' ⟨rfl,rfl⟩);all_goals go_ret
  all_goals (go_light;refine⟨aV ?_,(Ext.refl _).alloc _⟩;simp only[beq_iff_eq,beq_eq_false_iff_ne,ne_eq,H2.out]at *;simp only[fz,if_true];rw[TK];simp[*]<;>omega)
 .have ho':(o==23)=false:=by rw[beq_eq_false_iff_ne];exact ho
  have HO:=Lib.hid ho;clear ho;go_enter Tryz.func223,Tryz.ntmps223;go_wp2_with (go_at_call 256;refine(tG _ _).mono ?_;rintro e w' ⟨rfl,rfl⟩);all_goals go_ret
  all_goals (go_light;refine⟨aV ?_,(Ext.refl _).alloc _⟩;rw[fz,if_neg HO.out,TK];simp)
theorem io(o:Int)(w:World):
 Calls Tryz.prog 315 #[.int .i64 o] w fun e w'=>e=.returned (.bool (dQ o))/\w=w':=by
 go_enter Tryz.func315,Tryz.ntmps315;go_wp2_with fail;all_goals go_ret
 all_goals (go_light;refine⟨aV ?_,rfl⟩;(try simp only[beq_iff_eq,beq_eq_false_iff_ne,ne_eq]at *);unfold dQ;rw[TK];simp[*])
def dY(v:Int)(w:World)(e:Ending)(w':World):Prop:=e=.returned (.int .i64 v)/\Ext w w'
theorem D2(o m:Int)(s:ByteArray)(p:Option Addr)(n cap:Nat)(w:World)(ho:o<1\/25<o):
 Calls Tryz.prog 182 #[.agg #[.int .i64 o,.int .i64 m,.string s,.slice p n cap]] w (dY (aO o m s n) w):=by
 have e1:(o==2)=false:=by rw[beq_eq_false_iff_ne];omega
 have e2:(o==3)=false:=by rw[beq_eq_false_iff_ne];omega
 have e3:(o==24)=false:=by rw[beq_eq_false_iff_ne];omega
 rw[aO,if_pos ho];rcases ho with ho|ho
 all_goals
  go_enter Tryz.func182,Tryz.ntmps182;go_wp2_with fail;go_ret;exact⟨rfl,(Ext.refl _).alloc _⟩
theorem zm(m:Int)(s:ByteArray)(p:Option Addr)(n cap:Nat)(w:World)(hn:n≤9223372036854775807):
 Calls Tryz.prog 182 #[.agg #[.int .i64 1,.int .i64 m,.string s,.slice p n cap]] w (dY (aO 1 m s n) w):=by
 have hq:aO 1 m s n=if m<0\/65535<m then 1 else if ¬s.toList=[]\/fz 1 n=false then 1 else 0:=by
  simp[aO,dQ]
 generalize aO 1 m s n=r at *;have hop:=fun w=>ij 1 m s p n cap w hn;generalize fz 1 n=ob at *;have HO:=Lib.hid hop;clear hop;have HQ:=Lib.hid hq;clear hq;go_enter Tryz.func182,Tryz.ntmps182;go_wp2_with (first|(go_at_call 223;refine(HO.out _).mono ?_;rintro e w' ⟨rfl,hx⟩;obtain⟨c0,c1,c2,c3⟩:=hx.box4));all_goals go_ret
 all_goals (go_light;refine⟨cu ?_,(by first|exact hx.past.trans hy|exact hx.past|exact(Ext.refl _).alloc _)⟩;rw[HQ.out];first|(rw[if_pos (by omega)];done)|(rw[if_neg (by omega)];simp_all;done))
theorem A8(o m:Int)(s:ByteArray)(p:Option Addr)(n cap:Nat)(w:World)(hn:n≤9223372036854775807)(ho:o=3\/o=24)(hs:s.size≤9223372036854775807)(hk:ol w):
 Calls Tryz.prog 182 #[.agg #[.int .i64 o,.int .i64 m,.string s,.slice p n cap]] w (dY (aO o m s n) w):=by
 have hq:aO o m s n=if ¬m=0 then 1 else if fz o n=false then 1 else if bC s=false then 7 else 0:=by
  rcases ho with rfl|rfl<;>simp[aO,dQ]
 generalize aO o m s n=r at *;have hop:=fun w=>ij o m s p n cap w hn;generalize fz o n=ob at *;have HK:=Lib.hid hk;clear hk;have HO:=Lib.hid hop;clear hop;have HQ:=Lib.hid hq;clear hq;rcases ho with rfl|rfl;all_goals
 go_enter Tryz.func182,Tryz.ntmps182;go_wp2_with (first|(go_at_call 223;refine(HO.out _).mono ?_;rintro e w' ⟨rfl,hx⟩;obtain⟨c0,c1,c2,c3⟩:=hx.box4)|(go_at_call 96;refine(gh s _ hs (HK.out.ext hx.past)).mono ?_;rintro e w' ⟨rfl,hy⟩));all_goals go_ret
 all_goals (go_light;refine⟨cu ?_,(by first|exact hx.past.trans hy|exact hx.past|exact(Ext.refl _).alloc _)⟩;rw[HQ.out];simp_all;done)
theorem Fz(m:Int)(s:ByteArray)(p:Option Addr)(n cap:Nat)(w:World)(hn:n≤9223372036854775807)(hs:s.size≤9223372036854775807)(hk:ol w):
 Calls Tryz.prog 182 #[.agg #[.int .i64 2,.int .i64 m,.string s,.slice p n cap]] w (dY (aO 2 m s n) w):=by
 have hq:aO 2 m s n=if ¬m=0 then 1 else if fz 2 n=false then 1 else if bN s=false then 7 else 0:=by
  simp[aO,dQ]
 generalize aO 2 m s n=r at *;have hop:=fun w=>ij 2 m s p n cap w hn;generalize fz 2 n=ob at *;have HK:=Lib.hid hk;clear hk;have HO:=Lib.hid hop;clear hop;have HQ:=Lib.hid hq;clear hq;go_enter Tryz.func182,Tryz.ntmps182;go_wp2_with (first|(go_at_call 223;refine(HO.out _).mono ?_;rintro e w' ⟨rfl,hx⟩;obtain⟨c0,c1,c2,c3⟩:=hx.box4)|(go_at_call 224;refine(Bi s _ hs (HK.out.ext hx.past)).mono ?_;rintro e w' ⟨rfl,hy⟩;have d0:=hy.cell c0));all_goals go_ret
 all_goals (go_light;refine⟨cu ?_,(by first|exact hx.past.trans hy|exact hx.past|exact(Ext.refl _).alloc _)⟩;rw[HQ.out];simp_all;done)
theorem CY(o m:Int)(s:ByteArray)(p:Option Addr)(n cap:Nat)(w:World)(hn:n≤9223372036854775807)(h1:1≤o)(h25:o≤25)(n1:¬o=1)(n2:¬o=2)(n3:¬o=3)(n24:¬o=24):
 Calls Tryz.prog 182 #[.agg #[.int .i64 o,.int .i64 m,.string s,.slice p n cap]] w (dY (aO o m s n) w):=by
 have hq:aO o m s n=if ¬m=0 then 1 else if ¬s.toList=[]\/fz o n=false then 1 else 0:=by
  have:¬(o<1\/25<o):=by omega
  simp[aO,dQ,this,n1,n2,n3,n24]
 generalize aO o m s n=r at *;have hop:=fun w=>ij o m s p n cap w hn;generalize fz o n=ob at *;have e1:(o==1)=false:=beq_eq_false_iff_ne.2 n1;have e1':(o != 1)=true:=bne_iff_ne.2 n1;have e2:(o==2)=false:=beq_eq_false_iff_ne.2 n2;have e3:(o==3)=false:=beq_eq_false_iff_ne.2 n3;have e24:(o==24)=false:=beq_eq_false_iff_ne.2 n24;clear n1 n2 n3 n24;have HO:=Lib.hid hop;clear hop;have HQ:=Lib.hid hq;clear hq;go_enter Tryz.func182,Tryz.ntmps182;go_wp2_with (first|(go_at_call 223;refine(HO.out _).mono ?_;rintro e w' ⟨rfl,hx⟩;obtain⟨c0,c1,c2,c3⟩:=hx.box4));all_goals go_ret
 all_goals (go_light;refine⟨cu ?_,(by first|exact hx.past.trans hy|exact hx.past|exact(Ext.refl _).alloc _)⟩;rw[HQ.out];simp_all;done)
theorem EN(o m:Int)(s:ByteArray)(p:Option Addr)(n cap:Nat)(w:World)(hn:n≤9223372036854775807)(hs:s.size≤9223372036854775807)(hk:ol w):
 Calls Tryz.prog 182 #[.agg #[.int .i64 o,.int .i64 m,.string s,.slice p n cap]] w (dY (aO o m s n) w):=by
 by_cases h:o<1\/25<o
 .exact D2 o m s p n cap w h
 by_cases h1:o=1
 .subst h1;exact zm m s p n cap w hn
 by_cases h2:o=2
 .subst h2;exact Fz m s p n cap w hn hs hk
 by_cases h3:o=3\/o=24
 .exact A8 o m s p n cap w hn h3 hs hk
 exact CY o m s p n cap w hn (by omega) (by omega) h1 h2 (by omega) (by omega)
def th(e:Ex):Int:=aO e.op e.num e.name e.args.length
theorem uQ(s:ByteArray)(a b k:Nat)(h:k<(s.extract a b).size):(s.extract a b)[k]'h=s[a+k]'(by rw[TL]at h;omega):=by
 show(s.extract a b).data[k]'h=s.data[a+k]'_;simp only[TM,Array.getElem_extract]
theorem FM{s:ByteArray}(h:fm s=true){k:Nat}(hk:k<s.size):dV (s[k]'hk).toNat=true:=by
 cases hf:dV (s[k]'hk).toNat with
 | true=>rfl
 | false=>rw[lG hk hf]at h;cases h
theorem AW{s:ByteArray}(h:fm s=true):0<s.size:=by
 apply Classical.byContradiction;intro hn;have:s.data.toList=[]:=List.eq_nil_of_length_eq_zero (by have:=Lib.size_eq s;omega);simp[fm,this,kj]at h
theorem rR{s:ByteArray}(h:bC s=true):fm s=true:=by simp[bC]at h;exact h.1.1
theorem nV(s:ByteArray):my s=jw s:=by
 rw[TK];constructor
 .intro h;simp only[my,TJ,px,decide_eq_true_eq]at h;obtain⟨⟨h1,h2⟩,h3⟩:=h;obtain⟨o,ho⟩:=Int.eq_ofNat_of_zero_le h1;have hlt:=uc ho;have hsome:=Lib.indexByte_some ho;have hA:om s 91=s.extract 0 o:=by unfold om;rw[ho,if_neg (by omega)];rfl
  have hB:oq s 91=s.extract (o+1) s.size:=by unfold oq;rw[ho,if_neg (by omega)];rfl
  rw[hA]at h2;rw[hB]at h3;by_cases hz:(s.extract (o+1) s.size).size=2
  .rw[lE hz]at h3;simp only[TJ,decide_eq_true_eq,uQ]at h3;have hz':=hz;rw[TL]at hz';have hw:=AW (rR h2);rw[TL]at hw;have e:s.size=o+3:=by omega
   have hn:¬s.size<4:=by omega
   have h91:(s[o]'hlt).toNat=91:=by
    have h:=hsome.1;rw[lg s o hlt]at h;have h':s[o]'hlt=91:=Option.some.inj h;rw[h'];rfl
   rw[oY hn];have i1:s.size-1=o+1+1:=by omega
   have i2:s.size-2=o+1+0:=by omega
   have i3:s.size-3=o:=by omega
   simp only[i1,i2,i3,TJ,decide_eq_true_eq];exact⟨⟨⟨⟨h3.1.1,h91⟩,h3.1.2⟩,h3.2⟩,h2⟩
  .rw[sW hz]at h3;cases h3
 .intro h;by_cases hn:s.size<4
  .rw[tE hn]at h;cases h
  .rw[oY hn]at h;simp only[TJ,decide_eq_true_eq]at h;obtain⟨⟨⟨⟨h1,h2⟩,h3⟩,h4⟩,h5⟩:=h
   have hidx:Lib.indexByte s.data.toList 91=((s.size-3:Nat):Int):=by
    have hlen:=Lib.size_eq s
    have hat:s.data.toList[s.size-3]? = some 91:=by
     rw[lg s _ (by omega)]
     have:(s[s.size-3]'(by omega))=91:=by
      apply UInt8.toNat_inj.1;rw[h2];rfl
     rw[this]
    cases hi:Lib.indexByte s.data.toList 91 with
    | negSucc m=>
     have:=Lib.indexByte_ge s.data.toList 91;have hm:Lib.indexByte s.data.toList 91 = -1:=by omega
     exact absurd hat (Lib.indexByte_none hm _)
    | ofNat o=>
     have hs:=Lib.indexByte_some hi;have hlt:=uc hi;by_cases h':o<s.size-3
     .have hw:=FM (rR h5) (k:=o) (by rw[TL];omega);rw[uQ]at hw
      have h9:(s[o]'hlt)=91:=by
       have h:=hs.1;rw[lg s o hlt]at h;exact Option.some.inj h
      simp only[Nat.zero_add]at hw;rw[h9]at hw;cases hw
     .by_cases h'':o=s.size-3
      .rw[h''];rfl
      .exact absurd hat (hs.2 _ (by omega))
   have hA:om s 91=s.extract 0 (s.size-3):=by unfold om;rw[hidx,if_neg (by omega)];rfl
   have hB:oq s 91=s.extract (s.size-3+1) s.size:=by unfold oq;rw[hidx,if_neg (by omega)];rfl
   have hz:(s.extract (s.size-3+1) s.size).size=2:=by rw[TL];omega
   simp only[my,TJ,px,decide_eq_true_eq];rw[hA,hB,hidx,lE hz];simp only[TJ,decide_eq_true_eq,uQ];have i1:s.size-3+1+1=s.size-1:=by omega
   have i2:s.size-3+1+0=s.size-2:=by omega
   have j1:(s[s.size-3+1+1]'(by omega)).toNat=93:=by simp only[i1];exact h1
   have j3:48≤(s[s.size-3+1+0]'(by omega)).toNat:=by simp only[i2];exact h3
   have j4:(s[s.size-3+1+0]'(by omega)).toNat<56:=by simp only[i2];exact h4
   exact⟨⟨by omega,h5⟩,⟨j1,j3⟩,j4⟩
theorem Cm(o m:Int)(s:ByteArray)(p:Option Addr)(n cap:Nat)(w:World)(hn:n≤9223372036854775807)(ho:o<1\/25<o):
 Calls Tryz.prog 294 #[.agg #[.int .i64 o,.int .i64 m,.string s,.slice p n cap]] w (dY (aO o m s n) w):=by
 have hq:aO o m s n=1:=by
  rw[aO,if_pos ho]
 generalize aO o m s n=r at *;have HQ:=Lib.hid hq;clear hq;rcases ho with ho|ho;all_goals
 go_enter Tryz.func294,Tryz.ntmps294;go_wp2_with (first|(go_at_call 315;refine(io _ _).mono ?_;rintro e w' ⟨rfl,rfl⟩)|(go_at_call 316;refine(gc _ _).mono ?_;rintro e w' ⟨rfl,rfl⟩));all_goals go_ret
 all_goals (go_light;refine⟨cu ?_,(by first|exact hx.past|exact(Ext.refl _).alloc _)⟩;rw[HQ.out])
theorem xn(m:Int)(s:ByteArray)(p:Option Addr)(n cap:Nat)(w:World)(hn:n≤9223372036854775807):
 Calls Tryz.prog 294 #[.agg #[.int .i64 1,.int .i64 m,.string s,.slice p n cap]] w (dY (aO 1 m s n) w):=by
 have hq:aO 1 m s n=if m<0\/65535<m then 1 else if ¬s.toList=[]\/¬(n:Int)=mm 1 then 1 else 0:=by
  simp[aO,dQ,fz]
 generalize aO 1 m s n=r at *;have hnm:dQ 1=false:=rfl;have HQ:=Lib.hid hq;clear hq;go_enter Tryz.func294,Tryz.ntmps294;go_wp2_with (first|(go_at_call 315;refine(io _ _).mono ?_;rintro e w' ⟨rfl,rfl⟩)|(go_at_call 316;refine(gc _ _).mono ?_;rintro e w' ⟨rfl,rfl⟩));all_goals go_ret
 all_goals (go_light;refine⟨cu ?_,(by first|exact hx.past|exact(Ext.refl _).alloc _)⟩;rw[HQ.out];first|(rw[if_pos (by omega)];done)|(rw[if_neg (by omega)];simp_all;done))
theorem yz(o m:Int)(s:ByteArray)(p:Option Addr)(n cap:Nat)(w:World)(hn:n≤9223372036854775807)(ho:o=3\/o=24)(hs:s.size≤9223372036854775807):
 Calls Tryz.prog 294 #[.agg #[.int .i64 o,.int .i64 m,.string s,.slice p n cap]] w (dY (aO o m s n) w):=by
 have hq:aO o m s n=if ¬m=0 then 1 else if ¬(n:Int)=mm o then 1 else if bC s=false then 7 else 0:=by
  rcases ho with rfl|rfl<;>simp[aO,dQ,fz]
 generalize aO o m s n=r at *;have HQ:=Lib.hid hq;clear hq;have hnm:dQ o=true:=by rcases ho with rfl|rfl<;>rfl
 rcases ho with rfl|rfl;all_goals
 go_enter Tryz.func294,Tryz.ntmps294;go_wp2_with (first|(go_at_call 315;refine(io _ _).mono ?_;rintro e w' ⟨rfl,rfl⟩)|(go_at_call 316;refine(gc _ _).mono ?_;rintro e w' ⟨rfl,rfl⟩)|(go_at_call 142;refine(iK s _ hs).mono ?_;rintro e w' ⟨rfl,hx⟩;obtain⟨c0,c1,c2,c3⟩:=hx.box4));all_goals go_ret
 all_goals (go_light;refine⟨cu ?_,(by first|exact hx.past|exact(Ext.refl _).alloc _)⟩;rw[HQ.out];first|(simp_all;done)|(simp_all;omega))
theorem CD(m:Int)(s:ByteArray)(p:Option Addr)(n cap:Nat)(w:World)(hn:n≤9223372036854775807)(hs:s.size≤9223372036854775807):
 Calls Tryz.prog 294 #[.agg #[.int .i64 2,.int .i64 m,.string s,.slice p n cap]] w (dY (aO 2 m s n) w):=by
 have hq:aO 2 m s n=if ¬m=0 then 1 else if ¬(n:Int)=mm 2 then 1 else if bN s=false then 7 else 0:=by
  simp[aO,dQ,fz]
 generalize aO 2 m s n=r at *;have hv:=fun w=>qM s w hs;rw[<-nV]at hv;change ∀w,Calls _ _ _ _ (fun e w'=>e=.returned (.bool (bN s))/\Ext w w')at hv;have HV:=Lib.hid hv;clear hv;have hnm:dQ 2=true:=rfl;have HQ:=Lib.hid hq;clear hq;go_enter Tryz.func294,Tryz.ntmps294;go_wp2_with (first|(go_at_call 315;refine(io _ _).mono ?_;rintro e w' ⟨rfl,rfl⟩)|(go_at_call 316;refine(gc _ _).mono ?_;rintro e w' ⟨rfl,rfl⟩)|(go_at_call 236;refine(HV.out _).mono ?_;rintro e w' ⟨rfl,hx⟩;obtain⟨c0,c1,c2,c3⟩:=hx.box4));all_goals go_ret
 all_goals (go_light;refine⟨cu ?_,(by first|exact hx.past|exact(Ext.refl _).alloc _)⟩;rw[HQ.out];first|(simp_all;done)|(simp_all;omega))
theorem yy(o m:Int)(s:ByteArray)(p:Option Addr)(n cap:Nat)(w:World)(hn:n≤9223372036854775807)(h1:1≤o)(h25:o≤25)(n1:¬o=1)(n2:¬o=2)(n3:¬o=3)(n24:¬o=24)(n23:¬o=23):
 Calls Tryz.prog 294 #[.agg #[.int .i64 o,.int .i64 m,.string s,.slice p n cap]] w (dY (aO o m s n) w):=by
 have hq:aO o m s n=if ¬m=0 then 1 else if ¬s.toList=[]\/¬(n:Int)=mm o then 1 else 0:=by
  have:¬(o<1\/25<o):=by omega
  simp[aO,dQ,fz,this,n1,n2,n3,n24,n23]
 generalize aO o m s n=r at *;have e1:(o==1)=false:=beq_eq_false_iff_ne.2 n1;have e1':(o != 1)=true:=bne_iff_ne.2 n1;have e2:(o==2)=false:=beq_eq_false_iff_ne.2 n2;have e23:(o==23)=false:=beq_eq_false_iff_ne.2 n23;have e23':(o != 23)=true:=bne_iff_ne.2 n23;have hnm:dQ o=false:=by simp[dQ,n2,n3,n24]
 clear n1 n2 n3 n24 n23;have HQ:=Lib.hid hq;clear hq;go_enter Tryz.func294,Tryz.ntmps294;go_wp2_with (first|(go_at_call 315;refine(io _ _).mono ?_;rintro e w' ⟨rfl,rfl⟩)|(go_at_call 316;refine(gc _ _).mono ?_;rintro e w' ⟨rfl,rfl⟩));all_goals go_ret
 all_goals (go_light;refine⟨cu ?_,(by first|exact hx.past|exact(Ext.refl _).alloc _)⟩;rw[HQ.out];first|(simp_all;done)|(simp_all;omega))
theorem ug(m:Int)(s:ByteArray)(p:Option Addr)(n cap:Nat)(w:World)(hn:n≤9223372036854775807):
 Calls Tryz.prog 294 #[.agg #[.int .i64 23,.int .i64 m,.string s,.slice p n cap]] w (dY (aO 23 m s n) w):=by
 have hq:aO 23 m s n=if ¬m=0 then 1 else if ¬s.toList=[]\/¬((n:Int)%2=1/\3≤(n:Int)/\(n:Int)≤33)then 1 else 0:=by
  have h2:fz 23 n=decide ((n:Int)%2=1/\3≤(n:Int)/\(n:Int)≤33):=by
   simp only[fz,if_true];rw[TK];simp;omega
  simp only[aO,dQ,h2,decide_eq_false_iff_not];simp
 generalize aO 23 m s n=r at *;have hnm:dQ 23=false:=rfl;have HQ:=Lib.hid hq;clear hq;go_enter Tryz.func294,Tryz.ntmps294;go_wp2_with (first|(go_at_call 315;refine(io _ _).mono ?_;rintro e w' ⟨rfl,rfl⟩)|(go_at_call 316;refine(gc _ _).mono ?_;rintro e w' ⟨rfl,rfl⟩));all_goals go_ret
 all_goals (go_light;refine⟨cu ?_,(by first|exact hx.past|exact(Ext.refl _).alloc _)⟩;rw[HQ.out];first|(simp_all;done)|(rw[if_neg (by omega),if_neg (by simp_all;omega)];done)|(rw[if_neg (by omega),if_pos (by simp_all;omega)];done)|(simp_all;omega))
theorem CA(o m:Int)(s:ByteArray)(p:Option Addr)(n cap:Nat)(w:World)(hn:n≤9223372036854775807)(hs:s.size≤9223372036854775807):
 Calls Tryz.prog 294 #[.agg #[.int .i64 o,.int .i64 m,.string s,.slice p n cap]] w (dY (aO o m s n) w):=by
 by_cases h:o<1\/25<o
 .exact Cm o m s p n cap w hn h
 by_cases h1:o=1
 .subst h1;exact xn m s p n cap w hn
 by_cases h2:o=2
 .subst h2;exact CD m s p n cap w hn hs
 by_cases h3:o=3\/o=24
 .exact yz o m s p n cap w hn h3 hs
 by_cases h23:o=23
 .subst h23;exact ug m s p n cap w hn
 exact yy o m s p n cap w hn (by omega) (by omega) h1 h2 (by omega) (by omega) h23
def FO{σ:Type}(I:(Nat->Prop)->σ->World->Prop)(O:Nat->Prop)(r:σ×Bool)(w:World)(e:Ending)(w':World):Prop:=
 e=.returned (.bool r.2)/\∃O',I O' r.1 w'/\(∀k,O' k->O k\/w.heap.size≤k)/\Keep O w w'
theorem Fr{σ:Type}{next:σ->Ex->σ×Bool}{I:(Nat->Prop)->σ->World->Prop}{Q:Ex->Prop}{w0:World}{F:FuncId}{cap:Array Value}
 (hF:∀args w,(callFunc F args).run Tryz.prog w=.ok (.enter F args) w)(H:Visits Tryz.prog w0 F cap next I Q)(b3 b4:Nat):
 ∀(e:Ex) (O:Nat->Prop) (s:σ) (w:World) (v:Value),Q e->Ext w0 w->iD w0 e v->I O s w->¬O b3->¬O b4->
  One b3 186 (.func (.func F) #[] cap) w->One b4 186 (.func (.func 222) #[] #[.pointer (some ⟨b3,0,none⟩),.pointer (some ⟨b4,0,none⟩)]) w->
  Calls Tryz.prog 222 #[v,.pointer (some ⟨b3,0,none⟩),.pointer (some ⟨b4,0,none⟩)] w (FO I O (fr next e s) w):=by
 intro e
 induction e using Ex.ind with
 | h o m nm l ih=>
  intro O s w v hq h0 hv hI n3 n4 h3 h4;have HQ:=Lib.hid hq;clear hq;have IH:=Lib.hid ih;clear ih;obtain⟨p,cp,rfl,hl,h1,h2,-,-,-⟩:=gB hv;simp only[Ex.op,Ex.num,Ex.name,Ex.args]at *;have HV:=Lib.hid hv;clear hv;have HL:=Lib.hid hl;clear hl;have HI:=Lib.hid hI;clear hI;have H0:=Lib.hid h0;clear h0;have N3:=Lib.hid n3;clear n3;have N4:=Lib.hid n4;clear n4;have c3:=h3.cell;have c4:=h4.cell;have l3:=h3.lt;have l4:=h4.lt;have H3:=Lib.hid h3;clear h3;have H4:=Lib.hid h4;clear h4;have HH:=Lib.hid H;clear H;have HL3:=Lib.hid l3;have HL4:=Lib.hid l4;have hw:fr next (.mk o m nm l) s=if(next s (.mk o m nm l)).2 then fZ next l (next s (.mk o m nm l)).1 else((next s (.mk o m nm l)).1,false):=by rw[fr]
  generalize hs1:(next s (.mk o m nm l)).1=s1 at hw;generalize hg1:(next s (.mk o m nm l)).2=g1 at hw;generalize fr next (.mk o m nm l) s=R at *
  have HW:=Lib.hid hw;clear hw;have HS1:=Lib.hid hs1;clear hs1;have HG1:=Lib.hid hg1;clear hg1;go_enter Tryz.func222,Tryz.ntmps222;go_wp2_with fail;refine(HH.out.call HQ.out (H0.out.alloc _) (HH.out.stays HI.out (fun k hk=>Below.heap_alloc _ _ _ (HH.out.lt HI.out k hk).2)) HV.out).mono ?_;rintro en w1 ⟨rfl,O1,hI1,hO1,hk1⟩;rw[HS1.out]at hI1;rw[HG1.out];have n31:¬O1 b3:=fun hx=>(hO1 b3 hx).elim N3.out (fun h=>by simp at h;have:=HL3.out;omega);have n41:¬O1 b4:=fun hx=>(hO1 b4 hx).elim N4.out (fun h=>by simp at h;have:=HL4.out;omega);have n51:¬O1 w.heap.size:=fun hx=>(hO1 _ hx).elim (fun h=>by have:=(HH.out.lt HI.out _ h).2;omega) (fun h=>by simp at h;omega);have hkw:Keep O w w1:=(Keep.of_ext ((Ext.refl w).alloc _)).trans hk1 (fun x hx=>.inl hx);have hO1w:∀k,O1 k->O k\/w.heap.size≤k:=fun k hk=>(hO1 k hk).imp id (fun h=>by simp at h;omega)
  have h01:Ext w0 w1:=hkw.ext H0.out (fun k hk=>(HH.out.lt HI.out k hk).1);have c5:w1.cell? ⟨w.heap.size,3,none⟩=some (.slice p l.length cp):=hk1.cell (fun hx=>by have:=(HH.out.lt HI.out _ hx).2;simp at this) (by simp[World.cell?_alloc_new]);have g3:=One.keep hkw N3.out H3.out;have g4:=One.keep hkw N4.out H4.out;have HI1:=Lib.hid hI1;clear hI1;have HO1:=Lib.hid hO1;clear hO1;have HK1:=Lib.hid hk1;clear hk1;have N31:=Lib.hid n31;clear n31;have N41:=Lib.hid n41;clear n41;have N51:=Lib.hid n51;clear n51;have HKW:=Lib.hid hkw;clear hkw;have HO1W:=Lib.hid hO1w;clear hO1w;have H01:=Lib.hid h01;clear h01;have G3:=Lib.hid g3;clear g3;have G4:=Lib.hid g4;clear g4;clear c3 c4 l3 l4;cases g1 with
  | false=>
   go_wp2_with fail;go_ret;rw[HW.out];exact⟨rfl,O1,HI1.out,HO1W.out,HKW.out⟩
  | true=>
   go_wp2_with fail;go_loopw [14,6] (fun i _ wr=>∃(j:Nat) (O2:Nat->Prop) (s2:σ),i=.int .i64 j/\j≤l.length/\I O2 s2 wr/\(∀k,O2 k->O1 k\/w1.heap.size≤k)/\Keep O1 w1 wr/\fZ next (l.drop j) s2=fZ next l s1) (fun i _ _=>l.length-(intOf i).toNat);case atStart=>exact⟨0,O1,s1,rfl,Nat.zero_le _,HI1.out,fun k hk=>.inl hk,Keep.refl _ _,rfl⟩
   case round=>
    obtain⟨j,O2,s2,rfl,hj,hI2,hO2,hk2,hrec⟩:=hrel;have HR:=Lib.hid hrec;clear hrec;have HI2:=Lib.hid hI2;clear hI2;have hO2w:∀k,O2 k->O k\/w.heap.size≤k:=fun k hk=>(hO2 k hk).elim (fun h=>HO1W.out k h) (fun h=>.inr (Nat.le_trans HKW.out.size h));have hkw2:Keep O w wr:=HKW.out.trans hk2 HO1W.out;have HO2W:=Lib.hid hO2w;clear hO2w;have HKW2:=Lib.hid hkw2;clear hkw2;by_cases hlt:j<l.length
    .obtain⟨b,off,cs,rfl,hr,hc⟩:=x7 HL.out hlt;have h02:Ext w0 wr:=hk2.ext H01.out (fun k hk=>(HH.out.lt HI1.out k hk).1);obtain⟨sv,gv,gl,q2,q3,q4,q5⟩:=zk hr hc;obtain⟨p',cp',rfl,-,-⟩:=lH gl;clear gl;have r2:=h02.cell q2;have r3:=h02.cell q3;have r4:=h02.cell q4;have r5:=h02.cell q5;clear q2 q3 q4 q5 hr hc;have n32:¬O2 b3:=fun hx=>(hO2 b3 hx).elim N31.out (fun h=>by have:=HL3.out;have:=HKW.out.size;omega);have n42:¬O2 b4:=fun hx=>(hO2 b4 hx).elim N41.out (fun h=>by have:=HL4.out;have:=HKW.out.size;omega);have f3:=(One.keep hk2 N31.out G3.out)
     have f4:=(One.keep hk2 N41.out G4.out)
     have d4:=f4.cell;have e4:=f4.lt;have F3:=Lib.hid f3;clear f3;have F4:=Lib.hid f4;clear f4;have N32:=Lib.hid n32;clear n32;have N42:=Lib.hid n42;clear n42;have H02:=Lib.hid h02;clear h02;have HO2:=Lib.hid hO2;clear hO2;have HK2:=Lib.hid hk2;clear hk2;have GV:=Lib.hid gv;clear gv
     have hwl:fZ next (l.drop j) s2=if(fr next l[j] s2).2 then fZ next (l.drop (j+1)) (fr next l[j] s2).1 else((fr next l[j] s2).1,false):=by
      rw[List.drop_eq_getElem_cons hlt,fZ]
     have HWL:=Lib.hid hwl;clear hwl;go_wp2_with fail;refine(IH.out l[j] (by simp) O2 s2 _ _ (HH.out.sub HQ.out _ (by simp)) (H02.out.alloc _) GV.out (HH.out.stays HI2.out (fun k hk=>Below.heap_alloc _ _ _ (HH.out.lt HI2.out k hk).2)) N32.out N42.out (F3.out.alloc _) (F4.out.alloc _)).mono ?_;rintro en w2 ⟨rfl,O3,hI3,hO3,hk3⟩;have hk3':Keep O2 wr w2:=(Keep.of_ext ((Ext.refl wr).alloc _)).trans hk3 (fun x hx=>.inl hx);have hO3':∀k,O3 k->O2 k\/wr.heap.size≤k:=fun k hk=>(hO3 k hk).imp id (fun h=>by simp at h;omega);have hK13:Keep O1 w1 w2:=HK2.out.trans hk3' HO2.out;have hO13:∀k,O3 k->O1 k\/w1.heap.size≤k:=fun k hk=>(hO3' k hk).elim (fun h=>HO2.out k h) (fun h=>.inr (Nat.le_trans HK2.out.size h));have HI3:=Lib.hid hI3;clear hI3;have HO13:=Lib.hid hO13;clear hO13;have HK13:=Lib.hid hK13;clear hK13;clear hO3 hk3 hk3' hO3';generalize hr3:(fr next l[j] s2).1=s3 at *
     have HR3:=Lib.hid hr3;clear hr3;cases hg:(fr next l[j] s2).2 with
     | false=>
      go_wp2_with fail;go_ret;have h9:=HWL.out;rw[hg]at h9;rw[HW.out,if_pos trivial,<-HR.out,h9,if_neg (by simp)];exact⟨rfl,O3,HI3.out,fun k hk=>(HO13.out k hk).elim (fun h=>HO1W.out k h) (fun h=>.inr (Nat.le_trans HKW.out.size h)),HKW.out.trans HK13.out HO1W.out⟩
     | true=>
      have h9:=HWL.out;rw[hg,if_pos rfl]at h9;have H9:=Lib.hid h9;clear h9;go_wp2_with fail;go_roundw;case rel=>exact⟨j+1,O3,s3,by go_num,by omega,HI3.out,HO13.out,HK13.out,by rw[<-HR.out,H9.out]⟩
      case measure=>simp[intOf];omega
    .have:j=l.length:=by omega
     subst this;go_wp2_with fail;go_ret;have hr:=HR.out;simp only[List.drop_length,fZ]at hr;rw[HW.out,if_pos trivial,<-hr];exact⟨rfl,O2,HI2.out,HO2W.out,HKW2.out⟩
def Ey{σ:Type}(I:(Nat->Prop)->σ->World->Prop)(O:Nat->Prop)(s:σ)(w:World)(e:Ending)(w':World):Prop:=
 e=.returned (.tuple #[])/\∃O',I O' s w'/\(∀k,O' k->O k\/w.heap.size≤k)/\Keep O w w'
theorem wU{σ:Type}{next:σ->Ex->σ×Bool}{I:(Nat->Prop)->σ->World->Prop}{Q:Ex->Prop}{w0:World}{F:FuncId}{cap:Array Value}
 (hF:∀args w,(callFunc F args).run Tryz.prog w=.ok (.enter F args) w)(H:Visits Tryz.prog w0 F cap next I Q)
 (e:Ex)(O:Nat->Prop)(s:σ)(w:World)(v:Value)(hq:Q e)(h0:Ext w0 w)(hv:iD w0 e v)(hI:I O s w):
   Calls Tryz.prog 180 #[v,.func (.func F) #[] cap] w (Ey I O (fr next e s).1 w):=by
 obtain⟨p,cp,rfl,hl,h1,h2,-,-,-⟩:=gB hv;have HV:=Lib.hid hv;clear hv;have HI:=Lib.hid hI;clear hI;have H0:=Lib.hid h0;clear h0;have HH:=Lib.hid H;clear H;clear hl;go_enter Tryz.func180,Tryz.ntmps180;go_wp2_with fail;have hl0:∀k,O k->k<w.heap.size:=fun k hk=>(HH.out.lt HI.out k hk).2;have e1:=((Ext.refl w).alloc (.cells #[.int .i64 e.op,.int .i64 e.num,.string e.name,.slice p e.args.length cp] 50)).alloc (.cells #[.func (.func F) #[] cap] 186)
 have o3:One (w.heap.size+1) 186 (.func (.func F) #[] cap) ((w.alloc (.cells #[.int .i64 e.op,.int .i64 e.num,.string e.name,.slice p e.args.length cp] 50)).alloc (.cells #[.func (.func F) #[] cap] 186)):=by
  have:=One.new (w.alloc (.cells #[.int .i64 e.op,.int .i64 e.num,.string e.name,.slice p e.args.length cp] 50)) 186 (.func (.func F) #[] cap);simpa using this
 have o4:=fun u=>One.new ((w.alloc (.cells #[.int .i64 e.op,.int .i64 e.num,.string e.name,.slice p e.args.length cp] 50)).alloc (.cells #[.func (.func F) #[] cap] 186)) 186 u;simp only[World.size_alloc]at o4;refine(Fr hF HH.out (w.heap.size+1) (w.heap.size+1+1) e O s _ _ hq (H0.out.trans (e1.alloc _)) HV.out (HH.out.stays HI.out (fun k hk=>(e1.alloc _).block k (hl0 k hk))) (fun hx=>by have:=hl0 _ hx;omega) (fun hx=>by have:=hl0 _ hx;omega) (o3.alloc _) (o4 _)).mono ?_;rintro en w1 ⟨rfl,O1,hI1,hO1,hk1⟩;have hk:Keep O w w1:=(Keep.of_ext (e1.alloc _)).trans hk1 (fun x hx=>.inl hx);have hO:∀k,O1 k->O k\/w.heap.size≤k:=fun k hk=>(hO1 k hk).imp id (fun h=>by simp at h;omega);clear hk1 hO1 e1 o3 o4;go_wp2_with fail;go_end0;exact⟨rfl,O1,hI1,hO,hk⟩
theorem ko{P:Program}{f:FuncId}{fn:Func}(hf:P.funcs[f]? = some fn)(hn:(fn.name == "runtime.NumGoroutine")=false)(hb:fn.body.isNone=false):
 ∀args w,(callFunc f args).run P w=.ok (.enter f args) w:=fun args w=>by
 have h1:fn.name ≠ "runtime.NumGoroutine" := by simpa using hn
 have h2:fn.body≠none:=fun h=>by rw[h]at hb;cases hb
 simp[callFunc,hf,h1,h2]
mutual
def bD:Ex->Nat
 | .mk _ _ _ l=>bI l+1
def bI:List Ex->Nat
 | []=>0
 | a::r=>bD a+bI r
end
def lz(n:Int)(_:Ex):Int×Bool:=(wrap64 (n+1),true)
def Mb(b:Nat)(O:Nat->Prop)(n:Int)(w:World):Prop:=(∀k,O k↔k=b)/\One b 3 (.int .i64 n) w
theorem wA(w0:World)(b:Nat)(hb:w0.heap.size≤b):Visits Tryz.prog w0 225 #[.pointer (some ⟨b,0,none⟩)] lz (Mb b) (fun _=>True) where
 sub:=fun _ _ _=>trivial
 stays:=fun h hs=>⟨h.1,by unfold One;rw[hs b ((h.1 b).2 rfl)];exact h.2⟩
 lt:=fun h k hk=>by have:=(h.1 k).1 hk;subst this;exact⟨hb,h.2.lt⟩
 call:=by
  intro O s w e v _ h0 hI hv;obtain⟨p,cp,rfl,hl,h1,h2,-,-,-⟩:=gB hv;have c0:=hI.2.cell;have f0:=hI.2.frozen;have l0:=hI.2.lt;have HI:=Lib.hid hI;clear hI;clear hv hl;go_enter Tryz.func225,Tryz.ntmps225;go_wp2_with fail;go_ret;exact⟨rfl,O,⟨HI.out.1,(HI.out.2.set _).alloc _⟩,fun k hk=>.inl hk,((Keep.refl O w).setCell (.inl ((HI.out.1 b).2 rfl)) _).alloc _⟩
theorem sp(a b:Int):wrap64 (wrap64 a+b)=wrap64 (a+b):=by unfold wrap64;omega
theorem sL(a:Int)(h1 : -9223372036854775808≤a)(h2:a≤9223372036854775807):wrap64 a=a:=by unfold wrap64;omega
theorem BE(e:Ex):∀n,(fr lz e n)=(wrap64 (n+bD e),true):=by
 induction e using Ex.ind with
 | h o m s l ih=>
  intro n
  suffices H:∀(r:List Ex),(∀a,a∈r->a∈l)->∀n,fZ lz r (wrap64 n)=(wrap64 (n+bI r),true)by
   simp only[fr,lz,if_true,bD];rw[H l (fun _ h=>h)];congr 2;omega
  intro r
  induction r with
  | nil=>intro _ n;simp[fZ,bI]
  | cons a r ihr=>
   intro hm n;simp only[fZ,ih a (hm a (by simp)),if_true,bI];rw[sp,ihr (fun x hx=>hm x (by simp[hx]))];congr 2;omega
theorem GB(e:Ex)(w:World)(v:Value)(hv:iD w e v):
 Calls Tryz.prog 184 #[v] w fun en w'=>en=.returned (.int .i64 (wrap64 (bD e)))/\Ext w w':=by
 obtain⟨p,cp,rfl,hl,h1,h2,-,-,-⟩:=gB hv;have HV:=Lib.hid hv;clear hv;clear hl
 have hW:=wU (σ:=Int) (Q:=fun _=>True) (F:=225) (next:=lz) (ko Tryz.func225 (by kernel_rfl) (by kernel_rfl)) (wA (w.alloc (.cells #[.int .i64 e.op,.int .i64 e.num,.string e.name,.slice p e.args.length cp] 50)) (w.heap.size+1) (by simp)) e
  (fun k=>k=w.heap.size+1) 0 ((w.alloc (.cells #[.int .i64 e.op,.int .i64 e.num,.string e.name,.slice p e.args.length cp] 50)).alloc (.cells #[.int .i64 0] 3)) _ trivial ((Ext.refl _).alloc _) (HV.out.ext ((Ext.refl w).alloc _)) ⟨fun k=>Iff.rfl,by simpa using One.new (w.alloc (.cells #[.int .i64 e.op,.int .i64 e.num,.string e.name,.slice p e.args.length cp] 50)) 3 (.int .i64 0)⟩
 rw[BE]at hW;have HW:=Lib.hid hW;clear hW;go_enter Tryz.func184,Tryz.ntmps184;go_wp2_with fail;refine HW.out.mono ?_;rintro en w1 ⟨rfl,O1,hI1,hO1,hk1⟩;have c0:=hI1.2.cell
 have hx:Ext w w1:=by
  have h:=hk1.ext (w0:=w) (((Ext.refl w).alloc _).alloc _) (fun x hx=>by omega);exact h
 clear hI1 hO1 hk1;go_wp2_with fail;go_ret;exact⟨cu (by simp),hx⟩
mutual
def gM:Ex->Int
 | .mk o m s l=>if aO o m s l.length=0 then j9 l else aO o m s l.length
def j9:List Ex->Int
 | []=>0
 | a::r=>if gM a=0 then j9 r else gM a
end
def nJ(_:Int)(e:Ex):Int×Bool:=(th e,th e==0)
theorem Gq(e:Ex):∀n,fr nJ e n=(gM e,gM e==0):=by
 induction e using Ex.ind with
 | h o m s l ih=>
  intro n
  have H:∀(r:List Ex),(∀a,a∈r->a∈l)->fZ nJ r 0=(j9 r,j9 r==0):=by
   intro r
   induction r with
   | nil=>intro _;simp[fZ,j9]
   | cons a r ihr=>
    intro hm;simp only[fZ,ih a (hm a (by simp)),j9];by_cases h:gM a=0
    .rw[h];simp only[BEq.rfl,if_true];exact ihr (fun x hx=>hm x (by simp[hx]))
    .simp[h]
  simp only[fr,nJ,gM,th,Ex.op,Ex.num,Ex.name,Ex.args];by_cases h:aO o m s l.length=0
  .simp[h,H l (fun _ h=>h)]
  .simp[h]
def Ld(b:Nat)(O:Nat->Prop)(n:Int)(w:World):Prop:=(∀k,O k↔k=b)/\One b 24 (.int .i64 n) w
theorem ur(w0:World)(b:Nat)(hb:w0.heap.size≤b)(hk:ol w0):Visits Tryz.prog w0 181 #[.pointer (some ⟨b,0,none⟩)] nJ (Ld b) (fun _=>True) where
 sub:=fun _ _ _=>trivial
 stays:=fun h hs=>⟨h.1,by unfold One;rw[hs b ((h.1 b).2 rfl)];exact h.2⟩
 lt:=fun h k hk=>by have:=(h.1 k).1 hk;subst this;exact⟨hb,h.2.lt⟩
 call:=by
  intro O s w e v _ h0 hI hv;obtain⟨p,cp,rfl,hl,h1,h2,-,-,h3⟩:=gB hv;have c0:=hI.2.cell;have l0:=hI.2.lt;have HI:=Lib.hid hI;clear hI;have HK:=Lib.hid (hk.ext h0);clear hk;have hlen:e.args.length≤9223372036854775807:=by omega
  have hn:=fun w hk=>EN e.op e.num e.name p e.args.length cp w hlen h3 hk;change ∀w hk,Calls _ _ _ _ (dY (th e) w)at hn;have HN:=Lib.hid hn;clear hn;clear hv hl;go_enter Tryz.func181,Tryz.ntmps181;go_wp2_with fail;refine(HN.out _ (HK.out.ext ((Ext.refl w).alloc _))).mono ?_;rintro en w1 ⟨rfl,hx⟩;have o1:=(One.keep (Keep.of_ext (O:=fun _=>False) hx.past) id HI.out.2)
  have c1:=o1.cell;have f1:=o1.frozen;have HX:=Lib.hid hx.past;clear hx;have O1:=Lib.hid o1;clear o1;clear c0;go_wp2_with fail;go_ret;exact⟨rfl,O,⟨HI.out.1,O1.out.set _⟩,fun k hk=>.inl hk,(Keep.of_ext HX.out).setCell (.inl ((HI.out.1 b).2 rfl)) _⟩
def bB(e:Ex):Int:=if gM e=0/\(24<b8 e\/400<bD e)then 2 else gM e
theorem CU(e:Ex)(w:World)(v:Value)(hv:iD w e v)(hk:ol w)(hd:b8 e≤1200000)(hs:bD e≤1200000):
 Calls Tryz.prog 129 #[v] w fun en w'=>en=.returned (.int .i64 (bB e))/\Ext w w':=by
 have hq:bB e=if gM e=0/\(24<b8 e\/400<bD e)then 2 else gM e:=rfl
 generalize bB e=R at *;have HQ:=Lib.hid hq;clear hq;obtain⟨p,cp,rfl,hl,h1,h2,-,-,-⟩:=gB hv;have HV:=Lib.hid hv;clear hv;clear hl
 have hW:=wU (σ:=Int) (Q:=fun _=>True) (F:=181) (next:=nJ) (ko Tryz.func181 (by kernel_rfl) (by kernel_rfl)) (ur (w.alloc (.cells #[.int .i64 e.op,.int .i64 e.num,.string e.name,.slice p e.args.length cp] 50)) (w.heap.size+1) (by simp) (hk.ext ((Ext.refl w).alloc _))) e
  (fun k=>k=w.heap.size+1) 0 ((w.alloc (.cells #[.int .i64 e.op,.int .i64 e.num,.string e.name,.slice p e.args.length cp] 50)).alloc (.cells #[.int .i64 0] 24)) _ trivial ((Ext.refl _).alloc _) (HV.out.ext ((Ext.refl w).alloc _)) ⟨fun k=>Iff.rfl,by simpa using One.new (w.alloc (.cells #[.int .i64 e.op,.int .i64 e.num,.string e.name,.slice p e.args.length cp] 50)) 24 (.int .i64 0)⟩
 rw[Gq]at hW;have HW:=Lib.hid hW;clear hW;have hsz:wrap64 (bD e:Int)=(bD e:Int):=sL _ (by omega) (by omega);have hS:=fun w hv=>GB e w (.agg #[.int .i64 e.op,.int .i64 e.num,.string e.name,.slice p e.args.length cp]) hv;rw[hsz]at hS;have HS:=Lib.hid hS;clear hS hsz;have hD:=fun w hv=>BD e (.agg #[.int .i64 e.op,.int .i64 e.num,.string e.name,.slice p e.args.length cp]) w hd hv;have HD:=Lib.hid hD;clear hD;have hd0:(0:Int)≤b8 e:=by omega
 generalize gM e=er at *;go_enter Tryz.func129,Tryz.ntmps129;go_wp2_with fail;refine HW.out.mono ?_;rintro en w1 ⟨rfl,O1,hI1,hO1,hk1⟩;have c0:=hI1.2.cell;have hx:Ext w w1:=hk1.ext (w0:=w) (((Ext.refl w).alloc _).alloc _) (fun x hx=>by omega);have b0:∀q:Nat,q=w.heap.size->¬(q=w.heap.size+1):=fun q h=>by omega
 have d0:w1.cell? ⟨w.heap.size,0,none⟩=some (.int .i64 e.op):=hk1.cell (by simp) (by simp[World.cell?_alloc_new]);have d1:w1.cell? ⟨w.heap.size,1,none⟩=some (.int .i64 e.num):=hk1.cell (by simp) (by simp[World.cell?_alloc_new]);have d2:w1.cell? ⟨w.heap.size,2,none⟩=some (.string e.name):=hk1.cell (by simp) (by simp[World.cell?_alloc_new]);have d3:w1.cell? ⟨w.heap.size,3,none⟩=some (.slice p e.args.length cp):=hk1.cell (by simp) (by simp[World.cell?_alloc_new]);have HX:=Lib.hid hx;clear hx;clear hI1 hO1 hk1 b0;go_wp2_with (first|(go_at_call 183;refine(HD.out _ (HV.out.ext HX.out)).mono ?_;rintro e w' ⟨rfl,hy⟩;have q0:=hy.cell c0;have q1:=hy.cell d0;have q2:=hy.cell d1;have q3:=hy.cell d2;have q4:=hy.cell d3)|(go_at_call 184;refine(HS.out _ (HV.out.ext (HX.out.trans hy))).mono ?_;rintro e w' ⟨rfl,hz⟩;have q5:=hz.cell q0));all_goals go_ret
 all_goals (go_light;refine⟨cu ?_,(by first|exact(HX.out.trans hy).trans hz|exact HX.out.trans hy|exact HX.out)⟩;rw[HQ.out];first|(rw[if_pos (by omega)];done)|(rw[if_neg (by omega)];done)|(rw[if_neg (by omega)];omega))
mutual
def rl:Ex->List ByteArray
 | .mk _ _ s l=>s::B7 l
def B7:List Ex->List ByteArray
 | []=>[]
 | a::r=>rl a++B7 r
end
theorem GN{l:List Ex}{a:Ex}(h:a∈l){s:ByteArray}(hs:s∈rl a):s∈B7 l:=by
 induction l with
 | nil=>cases h
 | cons b r ih=>
  simp only[B7,List.mem_append];rcases List.mem_cons.1 h with h|h
  .subst h;exact .inl hs
  .exact .inr (ih h)
theorem FL(e:Ex):(rl e).length=bD e:=by
 induction e using Ex.ind with
 | h o m s l ih=>
  have H:∀(r:List Ex),(∀a,a∈r->a∈l)->(B7 r).length=bI r:=by
   intro r
   induction r with
   | nil=>intro _;rfl
   | cons a r ihr=>intro hm;simp only[B7,bI,List.length_append,ih a (hm a (by simp)),ihr (fun x hx=>hm x (by simp[hx]))]
  simp only[rl,bD,List.length_cons,H l (fun _ h=>h)]
def gK(ops:List Int)(l:List ByteArray)(op:Int)(s:ByteArray):List ByteArray:=if op∈ops/\inB s l=false then l++[s]else l
def mZ(ops:List Int)(l:List ByteArray)(e:Ex):List ByteArray×Bool:=(gK ops l e.op e.name,true)
theorem Tryz.infoS:(Tryz.prog.info? 9).map (fun i=>(i.zero,i.size,i.bytes))=some (some (.string ⟨#[]⟩),1,16):=by kernel_rfl
def u1(l:List ByteArray)(w:World)(e:Ending)(w':World):Prop:=
 ∃v,e=.returned v/\w'.ownsRow 0 9 1 v l.length (l.map Value.string)/\(∀k,v.ownBlock=some k->w.heap.size≤k)/\Ext w w'
def pZ(ops:List Int)(e:Ex):List ByteArray:=(fr (mZ ops) e []).1
end Go.Proofs.YtnhphlmblenapaaGreatDoor
