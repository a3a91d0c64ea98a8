import Derived.Test.YtcbahpllcfbkmaaGreatDoorData
import Derived.Test.YtcbahpllcfbkmaaGreatDoorWrong
import Derived.Outline
import Derived.Laws.EntriesVeiled
set_option linter.unusedVariables false
set_option linter.unusedSimpArgs false
set_option linter.unusedSectionVars false
namespace Go.Proofs.YtcbahpllcfbkmaaGreatDoor
open Go.RowKit
def AW{σ:Type}(I:(Nat→Prop)→σ→World→Prop)(O:Nat→Prop)(r:σ×Bool)(w:World)(e:Ending)(w':World):Prop:=
 e=.returned (.bool r.2)∧∃O',I O' r.1 w'∧(∀k,O' k→O k∨w.heap.size≤k)∧Keep O w w'
set_option maxRecDepth 100000 in
set_option maxHeartbeats 1200000 in
theorem A3{σ:Type}{next:σ→Ex→σ×Bool}{I:(Nat→Prop)→σ→World→Prop}{Q:Ex→Prop}{w0:World}{F:FuncId}{cap:Array Value}
 (hF:∀args w,(callFunc F args).run Tryz.prog w=.ok (.enter F args) w)(H:Visits Tryz.prog w0 F cap next I Q)(b3 b4:Nat):
 ∀(e:Ex) (O:Nat→Prop) (s:σ) (w:World) (v:Value),Q e→Ext w0 w→fU w0 e v→I O s w→¬O b3→¬O b4→
  One b3 136 (.func (.func F) #[] cap) w→One b4 136 (.func (.func 139) #[] #[.pointer (some ⟨b3,0,none⟩),.pointer (some ⟨b4,0,none⟩)]) w→
  Calls Tryz.prog 139 #[v,.pointer (some ⟨b3,0,none⟩),.pointer (some ⟨b4,0,none⟩)] w (AW I O (dX next e s) w):=by
 intro e
 induction e using Ex.ind with
 | h o m nm l ih=>
  intro O s w v hq h0 hv hI n3 n4 h3 h4;have HQ:=Lib.hid hq;clear hq;have IH:=Lib.hid ih;clear ih;obtain⟨p,cp,rfl,hl,h1,h2,-,-,-⟩:=eV hv;simp only[Ex.op,Ex.num,Ex.name,Ex.args]at *;have HV:=Lib.hid hv;clear hv;have HL:=Lib.hid hl;clear hl;have HI:=Lib.hid hI;clear hI;have H0:=Lib.hid h0;clear h0;have N3:=Lib.hid n3;clear n3;have N4:=Lib.hid n4;clear n4;have c3:=h3.cell;have c4:=h4.cell;have l3:=h3.lt;have l4:=h4.lt;have H3:=Lib.hid h3;clear h3;have H4:=Lib.hid h4;clear h4;have HH:=Lib.hid H;clear H;have HL3:=Lib.hid l3;have HL4:=Lib.hid l4;have hw:dX next (.mk o m nm l) s=if(next s (.mk o m nm l)).2 then eG next l (next s (.mk o m nm l)).1 else((next s (.mk o m nm l)).1,false):=by rw[dX]
  generalize hs1:(next s (.mk o m nm l)).1=s1 at hw;generalize hg1:(next s (.mk o m nm l)).2=g1 at hw;generalize dX next (.mk o m nm l) s=R at *
  have HW:=Lib.hid hw;clear hw;have HS1:=Lib.hid hs1;clear hs1;have HG1:=Lib.hid hg1;clear hg1;go_enter Tryz.func139,Tryz.ntmps139;go_wp2_with fail;refine(HH.out.call HQ.out (H0.out.alloc _) (HH.out.stays HI.out (fun k hk=>Below.heap_alloc _ _ _ (HH.out.lt HI.out k hk).2)) HV.out).mono ?_;rintro en w1 ⟨rfl,O1,hI1,hO1,hk1⟩;rw[HS1.out]at hI1;rw[HG1.out];have n31:¬O1 b3:=fun hx=>(hO1 b3 hx).elim N3.out (fun h=>by simp at h;have:=HL3.out;omega);have n41:¬O1 b4:=fun hx=>(hO1 b4 hx).elim N4.out (fun h=>by simp at h;have:=HL4.out;omega);have n51:¬O1 w.heap.size:=fun hx=>(hO1 _ hx).elim (fun h=>by have:=(HH.out.lt HI.out _ h).2;omega) (fun h=>by simp at h;omega);have hkw:Keep O w w1:=(Keep.of_ext ((Ext.refl w).alloc _)).trans hk1 (fun x hx=>.inl hx);have hO1w:∀k,O1 k→O k∨w.heap.size≤k:=fun k hk=>(hO1 k hk).imp id (fun h=>by simp at h;omega)
  have h01:Ext w0 w1:=hkw.ext H0.out (fun k hk=>(HH.out.lt HI.out k hk).1);have c5:w1.cell? ⟨w.heap.size,3,none⟩=some (.slice p l.length cp):=hk1.cell (fun hx=>by have:=(HH.out.lt HI.out _ hx).2;simp at this) (by simp[World.cell?_alloc_new]);have g3:=One.keep hkw N3.out H3.out;have g4:=One.keep hkw N4.out H4.out;have HI1:=Lib.hid hI1;clear hI1;have HO1:=Lib.hid hO1;clear hO1;have HK1:=Lib.hid hk1;clear hk1;have N31:=Lib.hid n31;clear n31;have N41:=Lib.hid n41;clear n41;have N51:=Lib.hid n51;clear n51;have HKW:=Lib.hid hkw;clear hkw;have HO1W:=Lib.hid hO1w;clear hO1w;have H01:=Lib.hid h01;clear h01;have G3:=Lib.hid g3;clear g3;have G4:=Lib.hid g4;clear g4;clear c3 c4 l3 l4;cases g1 with
  | false=>
   go_wp2_with fail;go_ret;rw[HW.out];exact⟨rfl,O1,HI1.out,HO1W.out,HKW.out⟩
  | true=>
   go_wp2_with fail;go_loopw [14,6] (fun i _ wr=>∃(j:Nat) (O2:Nat→Prop) (s2:σ),i=.int .i64 j∧j≤l.length∧I O2 s2 wr∧(∀k,O2 k→O1 k∨w1.heap.size≤k)∧Keep O1 w1 wr∧eG next (l.drop j) s2=eG next l s1) (fun i _ _=>l.length-(intOf i).toNat);case atStart=>exact⟨0,O1,s1,rfl,Nat.zero_le _,HI1.out,fun k hk=>.inl hk,Keep.refl _ _,rfl⟩
   case round=>
    obtain⟨j,O2,s2,rfl,hj,hI2,hO2,hk2,hrec⟩:=hrel;have HR:=Lib.hid hrec;clear hrec;have HI2:=Lib.hid hI2;clear hI2;have hO2w:∀k,O2 k→O k∨w.heap.size≤k:=fun k hk=>(hO2 k hk).elim (fun h=>HO1W.out k h) (fun h=>.inr (Nat.le_trans HKW.out.size h));have hkw2:Keep O w wr:=HKW.out.trans hk2 HO1W.out;have HO2W:=Lib.hid hO2w;clear hO2w;have HKW2:=Lib.hid hkw2;clear hkw2;by_cases hlt:j<l.length
    ·obtain⟨b,off,cs,rfl,hr,hc⟩:=tG HL.out hlt;have h02:Ext w0 wr:=hk2.ext H01.out (fun k hk=>(HH.out.lt HI1.out k hk).1);obtain⟨sv,gv,gl,q2,q3,q4,q5⟩:=sk hr hc;obtain⟨p',cp',rfl,-,-⟩:=jt gl;clear gl;have r2:=h02.cell q2;have r3:=h02.cell q3;have r4:=h02.cell q4;have r5:=h02.cell q5;clear q2 q3 q4 q5 hr hc;have n32:¬O2 b3:=fun hx=>(hO2 b3 hx).elim N31.out (fun h=>by have:=HL3.out;have:=HKW.out.size;omega);have n42:¬O2 b4:=fun hx=>(hO2 b4 hx).elim N41.out (fun h=>by have:=HL4.out;have:=HKW.out.size;omega);have f3:=(One.keep hk2 N31.out G3.out)
     have f4:=(One.keep hk2 N41.out G4.out)
     have d4:=f4.cell;have e4:=f4.lt;have F3:=Lib.hid f3;clear f3;have F4:=Lib.hid f4;clear f4;have N32:=Lib.hid n32;clear n32;have N42:=Lib.hid n42;clear n42;have H02:=Lib.hid h02;clear h02;have HO2:=Lib.hid hO2;clear hO2;have HK2:=Lib.hid hk2;clear hk2;have GV:=Lib.hid gv;clear gv
     have hwl:eG next (l.drop j) s2=if(dX next l[j] s2).2 then eG next (l.drop (j+1)) (dX next l[j] s2).1 else((dX next l[j] s2).1,false):=by
      rw[List.drop_eq_getElem_cons hlt,eG]
     have HWL:=Lib.hid hwl;clear hwl;go_wp2_with fail;refine(IH.out l[j] (by simp) O2 s2 _ _ (HH.out.sub HQ.out _ (by simp)) (H02.out.alloc _) GV.out (HH.out.stays HI2.out (fun k hk=>Below.heap_alloc _ _ _ (HH.out.lt HI2.out k hk).2)) N32.out N42.out (F3.out.alloc _) (F4.out.alloc _)).mono ?_;rintro en w2 ⟨rfl,O3,hI3,hO3,hk3⟩;have hk3':Keep O2 wr w2:=(Keep.of_ext ((Ext.refl wr).alloc _)).trans hk3 (fun x hx=>.inl hx);have hO3':∀k,O3 k→O2 k∨wr.heap.size≤k:=fun k hk=>(hO3 k hk).imp id (fun h=>by simp at h;omega);have hK13:Keep O1 w1 w2:=HK2.out.trans hk3' HO2.out;have hO13:∀k,O3 k→O1 k∨w1.heap.size≤k:=fun k hk=>(hO3' k hk).elim (fun h=>HO2.out k h) (fun h=>.inr (Nat.le_trans HK2.out.size h));have HI3:=Lib.hid hI3;clear hI3;have HO13:=Lib.hid hO13;clear hO13;have HK13:=Lib.hid hK13;clear hK13;clear hO3 hk3 hk3' hO3';generalize hr3:(dX next l[j] s2).1=s3 at *
     have HR3:=Lib.hid hr3;clear hr3;cases hg:(dX next l[j] s2).2 with
     | false=>
      go_wp2_with fail;go_ret;have h9:=HWL.out;rw[hg]at h9;rw[HW.out,if_pos trivial,←HR.out,h9,if_neg (by simp)];exact⟨rfl,O3,HI3.out,fun k hk=>(HO13.out k hk).elim (fun h=>HO1W.out k h) (fun h=>.inr (Nat.le_trans HKW.out.size h)),HKW.out.trans HK13.out HO1W.out⟩
     | true=>
      have h9:=HWL.out;rw[hg,if_pos rfl]at h9;have H9:=Lib.hid h9;clear h9;go_wp2_with fail;go_roundw;case rel=>exact⟨j+1,O3,s3,by go_num,by omega,HI3.out,HO13.out,HK13.out,by rw[←HR.out,H9.out]⟩
      case measure=>simp[intOf];omega
    ·have:j=l.length:=by omega
     subst this;go_wp2_with fail;go_ret;have hr:=HR.out;simp only[List.drop_length,eG]at hr;rw[HW.out,if_pos trivial,←hr];exact⟨rfl,O2,HI2.out,HO2W.out,HKW2.out⟩
def zw{σ:Type}(I:(Nat→Prop)→σ→World→Prop)(O:Nat→Prop)(s:σ)(w:World)(e:Ending)(w':World):Prop:=
 e=.returned (.tuple #[])∧∃O',I O' s w'∧(∀k,O' k→O k∨w.heap.size≤k)∧Keep O w w'
set_option maxRecDepth 100000 in
theorem rW{σ:Type}{next:σ→Ex→σ×Bool}{I:(Nat→Prop)→σ→World→Prop}{Q:Ex→Prop}{w0:World}{F:FuncId}{cap:Array Value}
 (hF:∀args w,(callFunc F args).run Tryz.prog w=.ok (.enter F args) w)(H:Visits Tryz.prog w0 F cap next I Q)
 (e:Ex)(O:Nat→Prop)(s:σ)(w:World)(v:Value)(hq:Q e)(h0:Ext w0 w)(hv:fU w0 e v)(hI:I O s w):
   Calls Tryz.prog 116 #[v,.func (.func F) #[] cap] w (zw I O (dX next e s).1 w):=by
 obtain⟨p,cp,rfl,hl,h1,h2,-,-,-⟩:=eV hv;have HV:=Lib.hid hv;clear hv;have HI:=Lib.hid hI;clear hI;have H0:=Lib.hid h0;clear h0;have HH:=Lib.hid H;clear H;clear hl;go_enter Tryz.func116,Tryz.ntmps116;go_wp2_with fail;have hl0:∀k,O k→k<w.heap.size:=fun k hk=>(HH.out.lt HI.out k hk).2;have e1:=((Ext.refl w).alloc (.cells #[.int .i64 e.op,.int .i64 e.num,.string e.name,.slice p e.args.length cp] 51)).alloc (.cells #[.func (.func F) #[] cap] 136)
 have o3:One (w.heap.size+1) 136 (.func (.func F) #[] cap) ((w.alloc (.cells #[.int .i64 e.op,.int .i64 e.num,.string e.name,.slice p e.args.length cp] 51)).alloc (.cells #[.func (.func F) #[] cap] 136)):=by
  have:=One.new (w.alloc (.cells #[.int .i64 e.op,.int .i64 e.num,.string e.name,.slice p e.args.length cp] 51)) 136 (.func (.func F) #[] cap);simpa using this
 have o4:=fun u=>One.new ((w.alloc (.cells #[.int .i64 e.op,.int .i64 e.num,.string e.name,.slice p e.args.length cp] 51)).alloc (.cells #[.func (.func F) #[] cap] 136)) 136 u;simp only[World.size_alloc]at o4;refine(A3 hF HH.out (w.heap.size+1) (w.heap.size+1+1) e O s _ _ hq (H0.out.trans (e1.alloc _)) HV.out (HH.out.stays HI.out (fun k hk=>(e1.alloc _).block k (hl0 k hk))) (fun hx=>by have:=hl0 _ hx;omega) (fun hx=>by have:=hl0 _ hx;omega) (o3.alloc _) (o4 _)).mono ?_;rintro en w1 ⟨rfl,O1,hI1,hO1,hk1⟩;have hk:Keep O w w1:=(Keep.of_ext (e1.alloc _)).trans hk1 (fun x hx=>.inl hx);have hO:∀k,O1 k→O k∨w.heap.size≤k:=fun k hk=>(hO1 k hk).imp id (fun h=>by simp at h;omega);clear hk1 hO1 e1 o3 o4;go_wp2_with fail;go_end0;exact⟨rfl,O1,hI1,hO,hk⟩
theorem i6{P:Program}{f:FuncId}{fn:Func}(hf:P.funcs[f]? = some fn)(hn:(fn.name == "runtime.NumGoroutine")=false)(hb:fn.body.isNone=false):
 ∀args w,(callFunc f args).run P w=.ok (.enter f args) w:=fun args w=>by
 have h1:fn.name ≠ "runtime.NumGoroutine" := by simpa using hn
 have h2:fn.body≠none:=fun h=>by rw[h]at hb;cases hb
 simp[callFunc,hf,h1,h2]
mutual
def ba:Ex→Nat
 | .mk _ _ _ l=>bF l+1
def bF:List Ex→Nat
 | []=>0
 | a::r=>ba a+bF r
end
def iI(n:Int)(_:Ex):Int×Bool:=(wrap64 (n+1),true)
def E7(b:Nat)(O:Nat→Prop)(n:Int)(w:World):Prop:=(∀k,O k↔k=b)∧One b 3 (.int .i64 n) w
theorem rd(w0:World)(b:Nat)(hb:w0.heap.size≤b):Visits Tryz.prog w0 142 #[.pointer (some ⟨b,0,none⟩)] iI (E7 b) (fun _=>True) where
 sub:=fun _ _ _=>trivial
 stays:=fun h hs=>⟨h.1,by unfold One;rw[hs b ((h.1 b).2 rfl)];exact h.2⟩
 lt:=fun h k hk=>by have:=(h.1 k).1 hk;subst this;exact⟨hb,h.2.lt⟩
 call:=by
  intro O s w e v _ h0 hI hv;obtain⟨p,cp,rfl,hl,h1,h2,-,-,-⟩:=eV hv;have c0:=hI.2.cell;have f0:=hI.2.frozen;have l0:=hI.2.lt;have HI:=Lib.hid hI;clear hI;clear hv hl;go_enter Tryz.func142,Tryz.ntmps142;go_wp2_with fail;go_ret;exact⟨rfl,O,⟨HI.out.1,(HI.out.2.set _).alloc _⟩,fun k hk=>.inl hk,((Keep.refl O w).setCell (.inl ((HI.out.1 b).2 rfl)) _).alloc _⟩
theorem oe(a b:Int):wrap64 (wrap64 a+b)=wrap64 (a+b):=by unfold wrap64;omega
theorem oW(a:Int)(h1 : -9223372036854775808≤a)(h2:a≤9223372036854775807):wrap64 a=a:=by unfold wrap64;omega
theorem wX(e:Ex):∀n,(dX iI e n)=(wrap64 (n+ba e),true):=by
 induction e using Ex.ind with
 | h o m s l ih=>
  intro n
  suffices H:∀(r:List Ex),(∀a,a∈r→a∈l)→∀n,eG iI r (wrap64 n)=(wrap64 (n+bF r),true)by
   simp only[dX,iI,if_true,ba];rw[H l (fun _ h=>h)];congr 2;omega
  intro r
  induction r with
  | nil=>intro _ n;simp[eG,bF]
  | cons a r ihr=>
   intro hm n;simp only[eG,ih a (hm a (by simp)),if_true,bF];rw[oe,ihr (fun x hx=>hm x (by simp[hx]))];congr 2;omega
set_option maxRecDepth 100000 in
theorem yk(e:Ex)(w:World)(v:Value)(hv:fU w e v):
 Calls Tryz.prog 120 #[v] w fun en w'=>en=.returned (.int .i64 (wrap64 (ba e)))∧Ext w w':=by
 obtain⟨p,cp,rfl,hl,h1,h2,-,-,-⟩:=eV hv;have HV:=Lib.hid hv;clear hv;clear hl
 have hW:=rW (σ:=Int) (Q:=fun _=>True) (F:=142) (next:=iI) (i6 Tryz.func142 (by kernel_rfl) (by kernel_rfl)) (rd (w.alloc (.cells #[.int .i64 e.op,.int .i64 e.num,.string e.name,.slice p e.args.length cp] 51)) (w.heap.size+1) (by simp)) e
  (fun k=>k=w.heap.size+1) 0 ((w.alloc (.cells #[.int .i64 e.op,.int .i64 e.num,.string e.name,.slice p e.args.length cp] 51)).alloc (.cells #[.int .i64 0] 3)) _ trivial ((Ext.refl _).alloc _) (HV.out.ext ((Ext.refl w).alloc _)) ⟨fun k=>Iff.rfl,by simpa using One.new (w.alloc (.cells #[.int .i64 e.op,.int .i64 e.num,.string e.name,.slice p e.args.length cp] 51)) 3 (.int .i64 0)⟩
 rw[wX]at hW;have HW:=Lib.hid hW;clear hW;go_enter Tryz.func120,Tryz.ntmps120;go_wp2_with fail;refine HW.out.mono ?_;rintro en w1 ⟨rfl,O1,hI1,hO1,hk1⟩;have c0:=hI1.2.cell
 have hx:Ext w w1:=by
  have h:=hk1.ext (w0:=w) (((Ext.refl w).alloc _).alloc _) (fun x hx=>by omega);exact h
 clear hI1 hO1 hk1;go_wp2_with fail;go_ret;exact⟨ch (by simp),hx⟩
mutual
def b8:Ex→Int
 | .mk o m s l=>if aH o m s l.length=0 then jB l else aH o m s l.length
def jB:List Ex→Int
 | []=>0
 | a::r=>if b8 a=0 then jB r else b8 a
end
def kq(_:Int)(e:Ex):Int×Bool:=(o9 e,o9 e==0)
theorem z6(e:Ex):∀n,dX kq e n=(b8 e,b8 e==0):=by
 induction e using Ex.ind with
 | h o m s l ih=>
  intro n
  have H:∀(r:List Ex),(∀a,a∈r→a∈l)→eG kq r 0=(jB r,jB r==0):=by
   intro r
   induction r with
   | nil=>intro _;simp[eG,jB]
   | cons a r ihr=>
    intro hm;simp only[eG,ih a (hm a (by simp)),jB];by_cases h:b8 a=0
    ·rw[h];simp only[BEq.rfl,if_true];exact ihr (fun x hx=>hm x (by simp[hx]))
    ·simp[h]
  simp only[dX,kq,b8,o9,Ex.op,Ex.num,Ex.name,Ex.args];by_cases h:aH o m s l.length=0
  ·simp[h,H l (fun _ h=>h)]
  ·simp[h]
def Di(b:Nat)(O:Nat→Prop)(n:Int)(w:World):Prop:=(∀k,O k↔k=b)∧One b 37 (.int .i64 n) w
set_option maxRecDepth 100000 in
theorem p7(w0:World)(b:Nat)(hb:w0.heap.size≤b)(hk:lk w0):Visits Tryz.prog w0 117 #[.pointer (some ⟨b,0,none⟩)] kq (Di b) (fun _=>True) where
 sub:=fun _ _ _=>trivial
 stays:=fun h hs=>⟨h.1,by unfold One;rw[hs b ((h.1 b).2 rfl)];exact h.2⟩
 lt:=fun h k hk=>by have:=(h.1 k).1 hk;subst this;exact⟨hb,h.2.lt⟩
 call:=by
  intro O s w e v _ h0 hI hv;obtain⟨p,cp,rfl,hl,h1,h2,-,-,h3⟩:=eV hv;have c0:=hI.2.cell;have l0:=hI.2.lt;have HI:=Lib.hid hI;clear hI;have HK:=Lib.hid (hk.ext h0);clear hk;have hlen:e.args.length≤9223372036854775807:=by omega
  have hn:=fun w hk=>yr e.op e.num e.name p e.args.length cp w hlen h3 hk;change ∀w hk,Calls _ _ _ _ (dh (o9 e) w)at hn;have HN:=Lib.hid hn;clear hn;clear hv hl;go_enter Tryz.func117,Tryz.ntmps117;go_wp2_with fail;refine(HN.out _ (HK.out.ext ((Ext.refl w).alloc _))).mono ?_;rintro en w1 ⟨rfl,hx⟩;have o1:=(One.keep (Keep.of_ext (O:=fun _=>False) hx.past) id HI.out.2)
  have c1:=o1.cell;have f1:=o1.frozen;have HX:=Lib.hid hx.past;clear hx;have O1:=Lib.hid o1;clear o1;clear c0;go_wp2_with fail;go_ret;exact⟨rfl,O,⟨HI.out.1,O1.out.set _⟩,fun k hk=>.inl hk,(Keep.of_ext HX.out).setCell (.inl ((HI.out.1 b).2 rfl)) _⟩
def bU(e:Ex):Int:=if b8 e=0∧(24<bP e∨400<ba e)then 2 else b8 e
set_option maxRecDepth 100000 in
set_option maxHeartbeats 1200000 in
theorem wU(e:Ex)(w:World)(v:Value)(hv:fU w e v)(hk:lk w)(hd:bP e≤1200000)(hs:ba e≤1200000):
 Calls Tryz.prog 89 #[v] w fun en w'=>en=.returned (.int .i64 (bU e))∧Ext w w':=by
 have hq:bU e=if b8 e=0∧(24<bP e∨400<ba e)then 2 else b8 e:=rfl
 generalize bU e=R at *;have HQ:=Lib.hid hq;clear hq;obtain⟨p,cp,rfl,hl,h1,h2,-,-,-⟩:=eV hv;have HV:=Lib.hid hv;clear hv;clear hl
 have hW:=rW (σ:=Int) (Q:=fun _=>True) (F:=117) (next:=kq) (i6 Tryz.func117 (by kernel_rfl) (by kernel_rfl)) (p7 (w.alloc (.cells #[.int .i64 e.op,.int .i64 e.num,.string e.name,.slice p e.args.length cp] 51)) (w.heap.size+1) (by simp) (hk.ext ((Ext.refl w).alloc _))) e
  (fun k=>k=w.heap.size+1) 0 ((w.alloc (.cells #[.int .i64 e.op,.int .i64 e.num,.string e.name,.slice p e.args.length cp] 51)).alloc (.cells #[.int .i64 0] 37)) _ trivial ((Ext.refl _).alloc _) (HV.out.ext ((Ext.refl w).alloc _)) ⟨fun k=>Iff.rfl,by simpa using One.new (w.alloc (.cells #[.int .i64 e.op,.int .i64 e.num,.string e.name,.slice p e.args.length cp] 51)) 37 (.int .i64 0)⟩
 rw[z6]at hW;have HW:=Lib.hid hW;clear hW;have hsz:wrap64 (ba e:Int)=(ba e:Int):=oW _ (by omega) (by omega);have hS:=fun w hv=>yk e w (.agg #[.int .i64 e.op,.int .i64 e.num,.string e.name,.slice p e.args.length cp]) hv;rw[hsz]at hS;have HS:=Lib.hid hS;clear hS hsz;have hD:=fun w hv=>wM e (.agg #[.int .i64 e.op,.int .i64 e.num,.string e.name,.slice p e.args.length cp]) w hd hv;have HD:=Lib.hid hD;clear hD;have hd0:(0:Int)≤bP e:=by omega
 generalize b8 e=er at *;go_enter Tryz.func89,Tryz.ntmps89;go_wp2_with fail;refine HW.out.mono ?_;rintro en w1 ⟨rfl,O1,hI1,hO1,hk1⟩;have c0:=hI1.2.cell;have hx:Ext w w1:=hk1.ext (w0:=w) (((Ext.refl w).alloc _).alloc _) (fun x hx=>by omega);have b0:∀q:Nat,q=w.heap.size→¬(q=w.heap.size+1):=fun q h=>by omega
 have d0:w1.cell? ⟨w.heap.size,0,none⟩=some (.int .i64 e.op):=hk1.cell (by simp) (by simp[World.cell?_alloc_new]);have d1:w1.cell? ⟨w.heap.size,1,none⟩=some (.int .i64 e.num):=hk1.cell (by simp) (by simp[World.cell?_alloc_new]);have d2:w1.cell? ⟨w.heap.size,2,none⟩=some (.string e.name):=hk1.cell (by simp) (by simp[World.cell?_alloc_new]);have d3:w1.cell? ⟨w.heap.size,3,none⟩=some (.slice p e.args.length cp):=hk1.cell (by simp) (by simp[World.cell?_alloc_new]);have HX:=Lib.hid hx;clear hx;clear hI1 hO1 hk1 b0;go_wp2_with (first|(go_at_call 119;refine(HD.out _ (HV.out.ext HX.out)).mono ?_;rintro e w' ⟨rfl,hy⟩;have q0:=hy.cell c0;have q1:=hy.cell d0;have q2:=hy.cell d1;have q3:=hy.cell d2;have q4:=hy.cell d3)|(go_at_call 120;refine(HS.out _ (HV.out.ext (HX.out.trans hy))).mono ?_;rintro e w' ⟨rfl,hz⟩;have q5:=hz.cell q0));all_goals go_ret
 all_goals (go_light;refine⟨ch ?_,(by first|exact(HX.out.trans hy).trans hz|exact HX.out.trans hy|exact HX.out)⟩;rw[HQ.out];first|(rw[if_pos (by omega)];done)|(rw[if_neg (by omega)];done)|(rw[if_neg (by omega)];omega))
mutual
def mM:Ex→List ByteArray
 | .mk _ _ s l=>s::xu l
def xu:List Ex→List ByteArray
 | []=>[]
 | a::r=>mM a++xu r
end
theorem AD{l:List Ex}{a:Ex}(h:a∈l){s:ByteArray}(hs:s∈mM a):s∈xu l:=by
 induction l with
 | nil=>cases h
 | cons b r ih=>
  simp only[xu,List.mem_append];rcases List.mem_cons.1 h with h|h
  ·subst h;exact .inl hs
  ·exact .inr (ih h)
theorem At(e:Ex):(mM e).length=ba e:=by
 induction e using Ex.ind with
 | h o m s l ih=>
  have H:∀(r:List Ex),(∀a,a∈r→a∈l)→(xu r).length=bF r:=by
   intro r
   induction r with
   | nil=>intro _;rfl
   | cons a r ihr=>intro hm;simp only[xu,bF,List.length_append,ih a (hm a (by simp)),ihr (fun x hx=>hm x (by simp[hx]))]
  simp only[mM,ba,List.length_cons,H l (fun _ h=>h)]
def eX(ops:List Int)(l:List ByteArray)(op:Int)(s:ByteArray):List ByteArray:=if op∈ops∧inB s l=false then l++[s]else l
def ko(ops:List Int)(l:List ByteArray)(e:Ex):List ByteArray×Bool:=(eX ops l e.op e.name,true)
theorem Tryz.infoS:(Tryz.prog.info? 9).map (fun i=>(i.zero,i.size,i.bytes))=some (some (.string ⟨#[]⟩),1,16):=by kernel_rfl
def qj(l:List ByteArray)(w:World)(e:Ending)(w':World):Prop:=
 ∃v,e=.returned v∧w'.ownsRow 0 9 1 v l.length (l.map Value.string)∧(∀k,v.ownBlock=some k→w.heap.size≤k)∧Ext w w'
def mu(ops:List Int)(e:Ex):List ByteArray:=(dX (ko ops) e []).1
end Go.Proofs.YtcbahpllcfbkmaaGreatDoor
