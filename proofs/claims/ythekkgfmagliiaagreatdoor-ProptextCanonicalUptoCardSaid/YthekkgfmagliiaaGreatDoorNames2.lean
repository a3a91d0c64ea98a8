import Derived.Laws.EntriesVeiled
import Derived.Test.YthekkgfmagliiaaGreatDoorWrong
set_option maxRecDepth 100000
set_option maxHeartbeats 1000000
set_option linter.unusedVariables false
set_option linter.unusedSimpArgs false
set_option linter.unusedSectionVars false
open List renaming drop_eq_getElem_cons->Rs,mem_cons->Ru
open Nat renaming le_trans->Rv,zero_le->Rw
namespace Go.Proofs.YthekkgfmagliiaaGreatDoor
open Go.RowKit
def FW{σ:Type}(I:(Nat->Prop)->σ->World->Prop)(O:Nat->Prop)(r:σ×Bool)(w:World)(e:Ending)(w':World):Prop:=
 e=.returned (.bool r.2)/\∃O',I O' r.1 w'/\(∀k,O' k->O k\/w.heap.size≤k)/\Keep O w w'
theorem EB{σ:Type}{next:σ->Ex->σ×Bool}{I:(Nat->Prop)->σ->World->Prop}{Q:Ex->Prop}{w0:World}{F:FuncId}{cap:Array Value}
 (hF:∀args w,(callFunc F args).run Tryz.prog w=.ok (.enter F args) w)(H:Visits Tryz.prog w0 F cap next I Q)(b3 b4:Nat):
 ∀(e:Ex) (O:Nat->Prop) (s:σ) (w:World) (v:Value),Q e->Ext w0 w->jg w0 e v->I O s w->¬O b3->¬O b4->
  One b3 90 (.func (.func F) #[] cap) w->One b4 90 (.func (.func 161) #[] #[.pointer (some ⟨b3,0,none⟩),.pointer (some ⟨b4,0,none⟩)]) w->
  Calls Tryz.prog 161 #[v,.pointer (some ⟨b3,0,none⟩),.pointer (some ⟨b4,0,none⟩)] w (FW I O (ew next e s) w):=by
 intro e
 induction e using Ex.ind with
 | h o m nm l ih=>
  intro O s w v hq h0 hv hI n3 n4 h3 h4;have HQ:=Lib.hid hq;clear hq;have IH:=Lib.hid ih;clear ih;obtain⟨p,cp,rfl,hl,h1,h2,-,-,-⟩:=gK hv;simp only[Ex.op,Ex.num,Ex.name,Ex.args]at *;have HV:=Lib.hid hv;clear hv;have HL:=Lib.hid hl;clear hl;have HI:=Lib.hid hI;clear hI;have H0:=Lib.hid h0;clear h0;have N3:=Lib.hid n3;clear n3;have N4:=Lib.hid n4;clear n4;have c3:=h3.cell;have c4:=h4.cell;have l3:=h3.lt;have l4:=h4.lt;have H3:=Lib.hid h3;clear h3;have H4:=Lib.hid h4;clear h4;have HH:=Lib.hid H;clear H;have HL3:=Lib.hid l3;have HL4:=Lib.hid l4;have hw:ew next (.mk o m nm l) s=if(next s (.mk o m nm l)).2 then fo next l (next s (.mk o m nm l)).1 else((next s (.mk o m nm l)).1,false):=by rw[ew]
  generalize hs1:(next s (.mk o m nm l)).1=s1 at hw;generalize hg1:(next s (.mk o m nm l)).2=g1 at hw;generalize ew next (.mk o m nm l) s=R at *
  have HW:=Lib.hid hw;clear hw;have HS1:=Lib.hid hs1;clear hs1;have HG1:=Lib.hid hg1;clear hg1;go_enter Tryz.func161,Tryz.ntmps161;go_wp2_with fail;refine(HH.out.call HQ.out (H0.out.alloc _) (HH.out.stays HI.out (fun k hk=>Below.heap_alloc _ _ _ (HH.out.lt HI.out k hk).2)) HV.out).mono ?_;rintro en w1 ⟨rfl,O1,hI1,hO1,hk1⟩;rw[HS1.out]at hI1;rw[HG1.out];have n31:¬O1 b3:=fun hx=>(hO1 b3 hx).elim N3.out (fun h=>by simp at h;have:=HL3.out;omega);have n41:¬O1 b4:=fun hx=>(hO1 b4 hx).elim N4.out (fun h=>by simp at h;have:=HL4.out;omega);have n51:¬O1 w.heap.size:=fun hx=>(hO1 _ hx).elim (fun h=>by have:=(HH.out.lt HI.out _ h).2;omega) (fun h=>by simp at h;omega);have hkw:Keep O w w1:=(Keep.of_ext ((Ext.refl w).alloc _)).trans hk1 (fun x hx=>.inl hx);have hO1w:∀k,O1 k->O k\/w.heap.size≤k:=fun k hk=>(hO1 k hk).imp id (fun h=>by simp at h;omega)
  have h01:Ext w0 w1:=hkw.ext H0.out (fun k hk=>(HH.out.lt HI.out k hk).1);have c5:w1.cell? ⟨w.heap.size,3,none⟩=some (.slice p l.length cp):=hk1.cell (fun hx=>by have:=(HH.out.lt HI.out _ hx).2;simp at this) (by simp[World.cell?_alloc_new]);have g3:=One.keep hkw N3.out H3.out;have g4:=One.keep hkw N4.out H4.out;have HI1:=Lib.hid hI1;clear hI1;have HO1:=Lib.hid hO1;clear hO1;have HK1:=Lib.hid hk1;clear hk1;have N31:=Lib.hid n31;clear n31;have N41:=Lib.hid n41;clear n41;have N51:=Lib.hid n51;clear n51;have HKW:=Lib.hid hkw;clear hkw;have HO1W:=Lib.hid hO1w;clear hO1w;have H01:=Lib.hid h01;clear h01;have G3:=Lib.hid g3;clear g3;have G4:=Lib.hid g4;clear g4;clear c3 c4 l3 l4;cases g1 with
  | false=>
   go_wp2_with fail;go_ret;rw[HW.out];exact⟨rfl,O1,HI1.out,HO1W.out,HKW.out⟩
  | true=>
   go_wp2_with fail;go_loopw [14,6] (fun i _ wr=>∃(j:Nat) (O2:Nat->Prop) (s2:σ),i=.int .i64 j/\j≤l.length/\I O2 s2 wr/\(∀k,O2 k->O1 k\/w1.heap.size≤k)/\Keep O1 w1 wr/\fo next (l.drop j) s2=fo next l s1) (fun i _ _=>l.length-(intOf i).toNat);case atStart=>exact⟨0,O1,s1,rfl,Rw _,HI1.out,fun k hk=>.inl hk,Keep.refl _ _,rfl⟩
   case round=>
    obtain⟨j,O2,s2,rfl,hj,hI2,hO2,hk2,hrec⟩:=hrel;have HR:=Lib.hid hrec;clear hrec;have HI2:=Lib.hid hI2;clear hI2;have hO2w:∀k,O2 k->O k\/w.heap.size≤k:=fun k hk=>(hO2 k hk).elim (fun h=>HO1W.out k h) (fun h=>.inr (Rv HKW.out.size h));have hkw2:Keep O w wr:=HKW.out.trans hk2 HO1W.out;have HO2W:=Lib.hid hO2w;clear hO2w;have HKW2:=Lib.hid hkw2;clear hkw2;by_cases hlt:j<l.length
    .obtain⟨b,off,cs,rfl,hr,hc⟩:=EU HL.out hlt;have h02:Ext w0 wr:=hk2.ext H01.out (fun k hk=>(HH.out.lt HI1.out k hk).1);obtain⟨sv,gv,gl,q2,q3,q4,q5⟩:=Gb hr hc;obtain⟨p',cp',rfl,-,-⟩:=nW gl;clear gl;have r2:=h02.cell q2;have r3:=h02.cell q3;have r4:=h02.cell q4;have r5:=h02.cell q5;clear q2 q3 q4 q5 hr hc;have n32:¬O2 b3:=fun hx=>(hO2 b3 hx).elim N31.out (fun h=>by have:=HL3.out;have:=HKW.out.size;omega);have n42:¬O2 b4:=fun hx=>(hO2 b4 hx).elim N41.out (fun h=>by have:=HL4.out;have:=HKW.out.size;omega);have f3:=(One.keep hk2 N31.out G3.out)
     have f4:=(One.keep hk2 N41.out G4.out)
     have d4:=f4.cell;have e4:=f4.lt;have F3:=Lib.hid f3;clear f3;have F4:=Lib.hid f4;clear f4;have N32:=Lib.hid n32;clear n32;have N42:=Lib.hid n42;clear n42;have H02:=Lib.hid h02;clear h02;have HO2:=Lib.hid hO2;clear hO2;have HK2:=Lib.hid hk2;clear hk2;have GV:=Lib.hid gv;clear gv
     have hwl:fo next (l.drop j) s2=if(ew next l[j] s2).2 then fo next (l.drop (j+1)) (ew next l[j] s2).1 else((ew next l[j] s2).1,false):=by
      rw[Rs hlt,fo]
     have HWL:=Lib.hid hwl;clear hwl;go_wp2_with fail;refine(IH.out l[j] (by simp) O2 s2 _ _ (HH.out.sub HQ.out _ (by simp)) (H02.out.alloc _) GV.out (HH.out.stays HI2.out (fun k hk=>Below.heap_alloc _ _ _ (HH.out.lt HI2.out k hk).2)) N32.out N42.out (F3.out.alloc _) (F4.out.alloc _)).mono ?_;rintro en w2 ⟨rfl,O3,hI3,hO3,hk3⟩;have hk3':Keep O2 wr w2:=(Keep.of_ext ((Ext.refl wr).alloc _)).trans hk3 (fun x hx=>.inl hx);have hO3':∀k,O3 k->O2 k\/wr.heap.size≤k:=fun k hk=>(hO3 k hk).imp id (fun h=>by simp at h;omega);have hK13:Keep O1 w1 w2:=HK2.out.trans hk3' HO2.out;have hO13:∀k,O3 k->O1 k\/w1.heap.size≤k:=fun k hk=>(hO3' k hk).elim (fun h=>HO2.out k h) (fun h=>.inr (Rv HK2.out.size h));have HI3:=Lib.hid hI3;clear hI3;have HO13:=Lib.hid hO13;clear hO13;have HK13:=Lib.hid hK13;clear hK13;clear hO3 hk3 hk3' hO3';generalize hr3:(ew next l[j] s2).1=s3 at *
     have HR3:=Lib.hid hr3;clear hr3;cases hg:(ew next l[j] s2).2 with
     | false=>
      go_wp2_with fail;go_ret;have h9:=HWL.out;rw[hg]at h9;rw[HW.out,if_pos trivial,<-HR.out,h9,if_neg (by simp)];exact⟨rfl,O3,HI3.out,fun k hk=>(HO13.out k hk).elim (fun h=>HO1W.out k h) (fun h=>.inr (Rv HKW.out.size h)),HKW.out.trans HK13.out HO1W.out⟩
     | true=>
      have h9:=HWL.out;rw[hg,if_pos rfl]at h9;have H9:=Lib.hid h9;clear h9;go_wp2_with fail;go_roundw;case rel=>exact⟨j+1,O3,s3,by go_num,by omega,HI3.out,HO13.out,HK13.out,by rw[<-HR.out,H9.out]⟩
      case measure=>simp[intOf];omega
    .have:j=l.length:=by omega
     subst this;go_wp2_with fail;go_ret;have hr:=HR.out;simp only[List.drop_length,fo]at hr;rw[HW.out,if_pos trivial,<-hr];exact⟨rfl,O2,HI2.out,HO2W.out,HKW2.out⟩
def xe{σ:Type}(I:(Nat->Prop)->σ->World->Prop)(O:Nat->Prop)(s:σ)(w:World)(e:Ending)(w':World):Prop:=
 e=.returned (.tuple #[])/\∃O',I O' s w'/\(∀k,O' k->O k\/w.heap.size≤k)/\Keep O w w'
theorem qG{σ:Type}{next:σ->Ex->σ×Bool}{I:(Nat->Prop)->σ->World->Prop}{Q:Ex->Prop}{w0:World}{F:FuncId}{cap:Array Value}
 (hF:∀args w,(callFunc F args).run Tryz.prog w=.ok (.enter F args) w)(H:Visits Tryz.prog w0 F cap next I Q)
 (e:Ex)(O:Nat->Prop)(s:σ)(w:World)(v:Value)(hq:Q e)(h0:Ext w0 w)(hv:jg w0 e v)(hI:I O s w):
   Calls Tryz.prog 127 #[v,.func (.func F) #[] cap] w (xe I O (ew next e s).1 w):=by
 obtain⟨p,cp,rfl,hl,h1,h2,-,-,-⟩:=gK hv;have HV:=Lib.hid hv;clear hv;have HI:=Lib.hid hI;clear hI;have H0:=Lib.hid h0;clear h0;have HH:=Lib.hid H;clear H;clear hl;go_enter Tryz.func127,Tryz.ntmps127;go_wp2_with fail;have hl0:∀k,O k->k<w.heap.size:=fun k hk=>(HH.out.lt HI.out k hk).2;have e1:=((Ext.refl w).alloc (.cells #[.int .i64 e.op,.int .i64 e.num,.string e.name,.slice p e.args.length cp] 24)).alloc (.cells #[.func (.func F) #[] cap] 90)
 have o3:One (w.heap.size+1) 90 (.func (.func F) #[] cap) ((w.alloc (.cells #[.int .i64 e.op,.int .i64 e.num,.string e.name,.slice p e.args.length cp] 24)).alloc (.cells #[.func (.func F) #[] cap] 90)):=by
  have:=One.new (w.alloc (.cells #[.int .i64 e.op,.int .i64 e.num,.string e.name,.slice p e.args.length cp] 24)) 90 (.func (.func F) #[] cap);simpa using this
 have o4:=fun u=>One.new ((w.alloc (.cells #[.int .i64 e.op,.int .i64 e.num,.string e.name,.slice p e.args.length cp] 24)).alloc (.cells #[.func (.func F) #[] cap] 90)) 90 u;simp only[World.size_alloc]at o4;refine(EB hF HH.out (w.heap.size+1) (w.heap.size+1+1) e O s _ _ hq (H0.out.trans (e1.alloc _)) HV.out (HH.out.stays HI.out (fun k hk=>(e1.alloc _).block k (hl0 k hk))) (fun hx=>by have:=hl0 _ hx;omega) (fun hx=>by have:=hl0 _ hx;omega) (o3.alloc _) (o4 _)).mono ?_;rintro en w1 ⟨rfl,O1,hI1,hO1,hk1⟩;have hk:Keep O w w1:=(Keep.of_ext (e1.alloc _)).trans hk1 (fun x hx=>.inl hx);have hO:∀k,O1 k->O k\/w.heap.size≤k:=fun k hk=>(hO1 k hk).imp id (fun h=>by simp at h;omega);clear hk1 hO1 e1 o3 o4;go_wp2_with fail;go_end0;exact⟨rfl,O1,hI1,hO,hk⟩
theorem i7{P:Program}{f:FuncId}{fn:Func}(hf:P.funcs[f]? = some fn)(hn:(fn.name == "runtime.NumGoroutine")=false)(hb:fn.body.isNone=false):
 ∀args w,(callFunc f args).run P w=.ok (.enter f args) w:=fun args w=>by
 have h1:fn.name ≠ "runtime.NumGoroutine" := by simpa using hn
 have h2:fn.body≠none:=fun h=>by rw[h]at hb;cases hb
 simp[callFunc,hf,h1,h2]
mutual
def bF:Ex->Nat
 | .mk _ _ _ l=>bt l+1
def bt:List Ex->Nat
 | []=>0
 | a::r=>bF a+bt r
end
def lm(n:Int)(_:Ex):Int×Bool:=(wrap64 (n+1),true)
def N6(b:Nat)(O:Nat->Prop)(n:Int)(w:World):Prop:=(∀k,O k↔k=b)/\One b 3 (.int .i64 n) w
theorem xF(w0:World)(b:Nat)(hb:w0.heap.size≤b):Visits Tryz.prog w0 164 #[.pointer (some ⟨b,0,none⟩)] lm (N6 b) (fun _=>True) where
 sub:=fun _ _ _=>trivial
 stays:=fun h hs=>⟨h.1,by unfold One;rw[hs b ((h.1 b).2 rfl)];exact h.2⟩
 lt:=fun h k hk=>by have:=(h.1 k).1 hk;subst this;exact⟨hb,h.2.lt⟩
 call:=by
  intro O s w e v _ h0 hI hv;obtain⟨p,cp,rfl,hl,h1,h2,-,-,-⟩:=gK hv;have c0:=hI.2.cell;have f0:=hI.2.frozen;have l0:=hI.2.lt;have HI:=Lib.hid hI;clear hI;clear hv hl;go_enter Tryz.func164,Tryz.ntmps164;go_wp2_with fail;go_ret;exact⟨rfl,O,⟨HI.out.1,(HI.out.2.set _).alloc _⟩,fun k hk=>.inl hk,((Keep.refl O w).setCell (.inl ((HI.out.1 b).2 rfl)) _).alloc _⟩
theorem sb(a b:Int):wrap64 (wrap64 a+b)=wrap64 (a+b):=by unfold wrap64;omega
theorem B9(a:Int)(h1 : -9223372036854775808≤a)(h2:a≤9223372036854775807):wrap64 a=a:=by unfold wrap64;omega
theorem Cc(e:Ex):∀n,(ew lm e n)=(wrap64 (n+bF e),true):=by
 induction e using Ex.ind with
 | h o m s l ih=>
  intro n
  suffices H:∀(r:List Ex),(∀a,a∈r->a∈l)->∀n,fo lm r (wrap64 n)=(wrap64 (n+bt r),true)by
   simp only[ew,lm,if_true,bF];rw[H l (fun _ h=>h)];congr 2;omega
  intro r
  induction r with
  | nil=>intro _ n;simp[fo,bt]
  | cons a r ihr=>
   intro hm n;simp only[fo,ih a (hm a (by simp)),if_true,bt];rw[sb,ihr (fun x hx=>hm x (by simp[hx]))];congr 2;omega
theorem GX(e:Ex)(w:World)(v:Value)(hv:jg w e v):
 Calls Tryz.prog 131 #[v] w fun en w'=>en=.returned (.int .i64 (wrap64 (bF e)))/\Ext w w':=by
 obtain⟨p,cp,rfl,hl,h1,h2,-,-,-⟩:=gK hv;have HV:=Lib.hid hv;clear hv;clear hl
 have hW:=qG (σ:=Int) (Q:=fun _=>True) (F:=164) (next:=lm) (i7 Tryz.func164 (by kernel_rfl) (by kernel_rfl)) (xF (w.alloc (.cells #[.int .i64 e.op,.int .i64 e.num,.string e.name,.slice p e.args.length cp] 24)) (w.heap.size+1) (by simp)) e
  (fun k=>k=w.heap.size+1) 0 ((w.alloc (.cells #[.int .i64 e.op,.int .i64 e.num,.string e.name,.slice p e.args.length cp] 24)).alloc (.cells #[.int .i64 0] 3)) _ trivial ((Ext.refl _).alloc _) (HV.out.ext ((Ext.refl w).alloc _)) ⟨fun k=>Iff.rfl,by simpa using One.new (w.alloc (.cells #[.int .i64 e.op,.int .i64 e.num,.string e.name,.slice p e.args.length cp] 24)) 3 (.int .i64 0)⟩
 rw[Cc]at hW;have HW:=Lib.hid hW;clear hW;go_enter Tryz.func131,Tryz.ntmps131;go_wp2_with fail;refine HW.out.mono ?_;rintro en w1 ⟨rfl,O1,hI1,hO1,hk1⟩;have c0:=hI1.2.cell
 have hx:Ext w w1:=by
  have h:=hk1.ext (w0:=w) (((Ext.refl w).alloc _).alloc _) (fun x hx=>by omega);exact h
 clear hI1 hO1 hk1;go_wp2_with fail;go_ret;exact⟨dX (by simp),hx⟩
mutual
def dR:Ex->Int
 | .mk o m s l=>if bK o m s l.length=0 then lW l else bK o m s l.length
def lW:List Ex->Int
 | []=>0
 | a::r=>if dR a=0 then lW r else dR a
end
def nK(_:Int)(e:Ex):Int×Bool:=(AF e,AF e==0)
theorem Ez(e:Ex):∀n,ew nK e n=(dR e,dR e==0):=by
 induction e using Ex.ind with
 | h o m s l ih=>
  intro n
  have H:∀(r:List Ex),(∀a,a∈r->a∈l)->fo nK r 0=(lW r,lW r==0):=by
   intro r
   induction r with
   | nil=>intro _;simp[fo,lW]
   | cons a r ihr=>
    intro hm;simp only[fo,ih a (hm a (by simp)),lW];by_cases h:dR a=0
    .rw[h];simp only[BEq.rfl,if_true];exact ihr (fun x hx=>hm x (by simp[hx]))
    .simp[h]
  simp only[ew,nK,dR,AF,Ex.op,Ex.num,Ex.name,Ex.args];by_cases h:bK o m s l.length=0
  .simp[h,H l (fun _ h=>h)]
  .simp[h]
def Lf(b:Nat)(O:Nat->Prop)(n:Int)(w:World):Prop:=(∀k,O k↔k=b)/\One b 30 (.int .i64 n) w
theorem ug(w0:World)(b:Nat)(hb:w0.heap.size≤b)(hk:oE w0):Visits Tryz.prog w0 128 #[.pointer (some ⟨b,0,none⟩)] nK (Lf b) (fun _=>True) where
 sub:=fun _ _ _=>trivial
 stays:=fun h hs=>⟨h.1,by unfold One;rw[hs b ((h.1 b).2 rfl)];exact h.2⟩
 lt:=fun h k hk=>by have:=(h.1 k).1 hk;subst this;exact⟨hb,h.2.lt⟩
 call:=by
  intro O s w e v _ h0 hI hv;obtain⟨p,cp,rfl,hl,h1,h2,-,-,h3⟩:=gK hv;have c0:=hI.2.cell;have l0:=hI.2.lt;have HI:=Lib.hid hI;clear hI;have HK:=Lib.hid (hk.ext h0);clear hk;have hlen:e.args.length≤9223372036854775807:=by omega
  have hn:=fun w hk=>GC e.op e.num e.name p e.args.length cp w hlen h3 hk;change ∀w hk,Calls _ _ _ _ (j3 (AF e) w)at hn;have HN:=Lib.hid hn;clear hn;clear hv hl;go_enter Tryz.func128,Tryz.ntmps128;go_wp2_with fail;refine(HN.out _ (HK.out.ext ((Ext.refl w).alloc _))).mono ?_;rintro en w1 ⟨rfl,hx⟩;have o1:=(One.keep (Keep.of_ext (O:=fun _=>False) hx.past) id HI.out.2)
  have c1:=o1.cell;have f1:=o1.frozen;have HX:=Lib.hid hx.past;clear hx;have O1:=Lib.hid o1;clear o1;clear c0;go_wp2_with fail;go_ret;exact⟨rfl,O,⟨HI.out.1,O1.out.set _⟩,fun k hk=>.inl hk,(Keep.of_ext HX.out).setCell (.inl ((HI.out.1 b).2 rfl)) _⟩
def aZ(e:Ex):Int:=if dR e=0/\(24<eu e\/400<bF e)then 2 else dR e
theorem Dc(e:Ex)(w:World)(v:Value)(hv:jg w e v)(hk:oE w)(hd:eu e≤1000000)(hs:bF e≤1000000):
 Calls Tryz.prog 91 #[v] w fun en w'=>en=.returned (.int .i64 (aZ e))/\Ext w w':=by
 have hq:aZ e=if dR e=0/\(24<eu e\/400<bF e)then 2 else dR e:=rfl
 generalize aZ e=R at *;have HQ:=Lib.hid hq;clear hq;obtain⟨p,cp,rfl,hl,h1,h2,-,-,-⟩:=gK hv;have HV:=Lib.hid hv;clear hv;clear hl
 have hW:=qG (σ:=Int) (Q:=fun _=>True) (F:=128) (next:=nK) (i7 Tryz.func128 (by kernel_rfl) (by kernel_rfl)) (ug (w.alloc (.cells #[.int .i64 e.op,.int .i64 e.num,.string e.name,.slice p e.args.length cp] 24)) (w.heap.size+1) (by simp) (hk.ext ((Ext.refl w).alloc _))) e
  (fun k=>k=w.heap.size+1) 0 ((w.alloc (.cells #[.int .i64 e.op,.int .i64 e.num,.string e.name,.slice p e.args.length cp] 24)).alloc (.cells #[.int .i64 0] 30)) _ trivial ((Ext.refl _).alloc _) (HV.out.ext ((Ext.refl w).alloc _)) ⟨fun k=>Iff.rfl,by simpa using One.new (w.alloc (.cells #[.int .i64 e.op,.int .i64 e.num,.string e.name,.slice p e.args.length cp] 24)) 30 (.int .i64 0)⟩
 rw[Ez]at hW;have HW:=Lib.hid hW;clear hW;have hsz:wrap64 (bF e:Int)=(bF e:Int):=B9 _ (by omega) (by omega);have hS:=fun w hv=>GX e w (.agg #[.int .i64 e.op,.int .i64 e.num,.string e.name,.slice p e.args.length cp]) hv;rw[hsz]at hS;have HS:=Lib.hid hS;clear hS hsz;have hD:=fun w hv=>BE e (.agg #[.int .i64 e.op,.int .i64 e.num,.string e.name,.slice p e.args.length cp]) w hd hv;have HD:=Lib.hid hD;clear hD;have hd0:(0:Int)≤eu e:=by omega
 generalize dR e=er at *;go_enter Tryz.func91,Tryz.ntmps91;go_wp2_with fail;refine HW.out.mono ?_;rintro en w1 ⟨rfl,O1,hI1,hO1,hk1⟩;have c0:=hI1.2.cell;have hx:Ext w w1:=hk1.ext (w0:=w) (((Ext.refl w).alloc _).alloc _) (fun x hx=>by omega);have b0:∀q:Nat,q=w.heap.size->¬(q=w.heap.size+1):=fun q h=>by omega
 have d0:w1.cell? ⟨w.heap.size,0,none⟩=some (.int .i64 e.op):=hk1.cell (by simp) (by simp[World.cell?_alloc_new]);have d1:w1.cell? ⟨w.heap.size,1,none⟩=some (.int .i64 e.num):=hk1.cell (by simp) (by simp[World.cell?_alloc_new]);have d2:w1.cell? ⟨w.heap.size,2,none⟩=some (.string e.name):=hk1.cell (by simp) (by simp[World.cell?_alloc_new]);have d3:w1.cell? ⟨w.heap.size,3,none⟩=some (.slice p e.args.length cp):=hk1.cell (by simp) (by simp[World.cell?_alloc_new]);have HX:=Lib.hid hx;clear hx;clear hI1 hO1 hk1 b0;go_wp2_with (first|(go_at_call 130;refine(HD.out _ (HV.out.ext HX.out)).mono ?_;rintro e w' ⟨rfl,hy⟩;have q0:=hy.cell c0;have q1:=hy.cell d0;have q2:=hy.cell d1;have q3:=hy.cell d2;have q4:=hy.cell d3)|(go_at_call 131;refine(HS.out _ (HV.out.ext (HX.out.trans hy))).mono ?_;rintro e w' ⟨rfl,hz⟩;have q5:=hz.cell q0));all_goals go_ret
 all_goals (go_light;refine⟨dX ?_,(by first|exact(HX.out.trans hy).trans hz|exact HX.out.trans hy|exact HX.out)⟩;rw[HQ.out];first|(rw[if_pos (by omega)];done)|(rw[if_neg (by omega)];done)|(rw[if_neg (by omega)];omega))
def sr:List Int->Int->Nat->Int
 | [],_,_=>-1
 | a::r,s,i=>if s=a then i else sr r s (i+1)
theorem Ii(l:List Int)(s:Int):∀i:Nat,(0≤sr l s i↔s∈l):=by
 induction l with
 | nil=>intro i;simp[sr]
 | cons a r ih=>
  intro i;simp only[sr,Ru];split
  .rename_i h;simp[h]
  .rename_i h;rw[ih];simp[h]
theorem yJ(l:List Int)(s:Int)(v:Value)(w:World)(hv:iu w l v):
 Calls Tryz.prog 227 #[v,.int .i64 s] w fun e w'=>e=.returned (.int .i64 (sr l s 0))/\w=w':=by
 have hv':=hv;obtain⟨p,cap,rfl,h1,h2,h3⟩:=hv';have H3:=Lib.hid h3;clear h3;have HV:=Lib.hid hv;clear hv;go_enter Tryz.func227,Tryz.ntmps227;go_wp2_with fail;go_loop [8,5] (fun i _=>∃j:Nat,i=.int .i64 j/\j≤l.length/\sr (l.drop j) s j=sr l s 0) (fun i _=>l.length-(intOf i).toNat);case atStart=>exact⟨0,rfl,Rw _,rfl⟩
 case round=>
  obtain⟨j,rfl,hj,hrec⟩:=hrel;have HR:=Lib.hid hrec;clear hrec;by_cases hlt:j<l.length
  .obtain⟨b,off,rfl,hc⟩:=Hp HV.out hlt;by_cases he:s=l[j]
   .have he':(s==l[j])=true:=by simpa using he
    have HE:=Lib.hid he;clear he;go_wp2_with fail;go_ret;exact⟨dX (by rw[<-HR.out,Rs hlt,sr,if_pos HE.out]),rfl⟩
   .have he':(s==l[j])=false:=by simpa using he
    go_wp2_with fail;go_round;case rel=>exact⟨j+1,by go_num,by omega,by rw[<-HR.out,Rs hlt,sr,if_neg he]⟩
    case measure=>simp[intOf];omega
  .have:j=l.length:=by omega
   subst this;go_wp2_with fail;go_ret;exact⟨dX (by rw[<-HR.out];simp[sr]),rfl⟩
theorem ju(l:List Int)(s:Int)(v:Value)(w:World)(hv:iu w l v):
 Calls Tryz.prog 204 #[v,.int .i64 s] w fun e w'=>e=.returned (.bool (decide (s∈l)))/\w=w':=by
 have hi:=Ii l s 0;have HI:=Lib.hid hi;clear hi;go_enter Tryz.func204,Tryz.ntmps204;go_wp2_with (go_at_call 227;refine(yJ _ _ _ _ hv).mono ?_;rintro e w' ⟨rfl,rfl⟩);go_ret;exact⟨cq (by rw[Bool.eq_iff_iff,decide_eq_true_iff];simpa using HI.out),rfl⟩
mutual
def rf:Ex->List ByteArray
 | .mk _ _ s l=>s::B3 l
def B3:List Ex->List ByteArray
 | []=>[]
 | a::r=>rf a++B3 r
end
theorem FL{l:List Ex}{a:Ex}(h:a∈l){s:ByteArray}(hs:s∈rf a):s∈B3 l:=by
 induction l with
 | nil=>cases h
 | cons b r ih=>
  simp only[B3,List.mem_append];rcases List.mem_cons.1 h with h|h
  .subst h;exact .inl hs
  .exact .inr (ih h)
theorem FK(e:Ex):(rf e).length=bF e:=by
 induction e using Ex.ind with
 | h o m s l ih=>
  have H:∀(r:List Ex),(∀a,a∈r->a∈l)->(B3 r).length=bt r:=by
   intro r
   induction r with
   | nil=>intro _;rfl
   | cons a r ihr=>intro hm;simp only[B3,bt,List.length_append,ih a (hm a (by simp)),ihr (fun x hx=>hm x (by simp[hx]))]
  simp only[rf,bF,List.length_cons,H l (fun _ h=>h)]
def je(ops:List Int)(l:List ByteArray)(op:Int)(s:ByteArray):List ByteArray:=if op∈ops/\inB s l=false then l++[s]else l
def cW(ops:List Int)(l:List ByteArray)(e:Ex):List ByteArray×Bool:=(je ops l e.op e.name,true)
structure NameIn(bo:Nat)(N:List ByteArray)(O:Nat->Prop)(l:List ByteArray)(w:World)(v:Value):Prop where
 own:∀k,O k↔(k=bo\/v.ownBlock=some k)
 one:One bo 92 v w
 row:w.ownsRow 0 9 1 v l.length (l.map Value.string)
 ne:v.ownBlock≠some bo
 lo:∀k,v.ownBlock=some k->bo≤k
 nodup:l.Nodup
 sub:∀s,s∈l->s∈N
def EP(bo:Nat)(N:List ByteArray)(O:Nat->Prop)(l:List ByteArray)(w:World):Prop:=∃v,NameIn bo N O l w v
theorem Tryz.infoS:(Tryz.prog.info? 9).map (fun i=>(i.zero,i.size,i.bytes))=some (some (.string ⟨#[]⟩),1,16):=by kernel_rfl
theorem uT(w0:World)(ops:List Int)(bp bo:Nat)(hb:w0.heap.size≤bo)(vp:Value)(hp:w0.cell? ⟨bp,0,none⟩=some vp)(hops:iu w0 ops vp)(N:List ByteArray)(hN:N.length≤1000000):
 Visits Tryz.prog w0 203 #[.pointer (some ⟨bp,0,none⟩),.pointer (some ⟨bo,0,none⟩)] (cW ops) (EP bo N) (fun e=>∀s,s∈rf e->s∈N) where
 sub:=fun h a ha s hs=>h s (by simp only[rf,Ru];exact .inr (FL ha hs))
 stays:=by
  rintro O s w w' ⟨v,h⟩ hs;have h1:One bo 92 v w':=by unfold One;rw[hs bo ((h.own bo).2 (.inl rfl))];exact h.one
  refine⟨v,h.own,h1,?_,h.ne,h.lo,h.nodup,h.sub⟩;refine⟨h.row.1,h.row.2.imp id ?_⟩;rintro⟨g,cap,cur,rfl,hb,hh,hr⟩;exact⟨g,cap,cur,rfl,hb,by rw[hs g ((h.own g).2 (.inr rfl))];exact hh,hr⟩
 lt:=by
  rintro O s w ⟨v,h⟩ k hk;rcases(h.own k).1 hk with rfl|hk
  .exact⟨hb,h.one.lt⟩
  .have:=h.row.lt k hk;have:=h.lo k hk;omega
 call:=by
  rintro O l w e v hq h0 ⟨u,hI⟩ hv;obtain⟨p,cp,rfl,hl,h1,h2,-,-,h3⟩:=gK hv;have c0:=hI.one.cell;have l0:=hI.one.lt;have cp0:=h0.cell hp
  have lp0:bp<w.heap.size:=by
   have:=hp;unfold World.cell? at this;split at this
   .rename_i h9;have:=(Array.getElem?_eq_some_iff.1 h9).1;have:=h0.size;simp at *;omega
   .cases this
  have HP:=Lib.hid (hops.ext h0);have HI:=Lib.hid hI;clear hI;have HQ:=Lib.hid hq;clear hq;clear hv hl hp hops;by_cases hop:e.op∈ops
  .by_cases hin:inB e.name l=false
   .have hd:decide (e.op∈ops)=true:=decide_eq_true hop;have hlen:l.length≤1000000:=Rv (wb HI.out.nodup HI.out.sub) hN;obtain⟨i0,hi,hz0,hz1,hz2⟩:=info_parts Tryz.infoS;have HOP:=Lib.hid hop;clear hop;have HIN:=Lib.hid hin;go_enter Tryz.func203,Tryz.ntmps203;go_wp2_with (first|(go_at_call 204;refine(ju ops _ _ _ (HP.out.ext ((Ext.refl w).alloc _))).mono ?_;rintro e w' ⟨rfl,rfl⟩)|(go_at_call 121;refine(iC l _ _ _ (nJ (HI.out.row.alloc _))).mono ?_;rintro e w' ⟨rfl,rfl⟩)|(at_builtin;refine rm _ rfl (.tmp 16) (.tmp 19) 92 rfl 9 i0 (.string ⟨#[]⟩) 1 16 Tryz.underlying92 hi hz0 hz1 hz2 rfl (by decide) u l.length (l.map Value.string) rfl ((HI.out.row.alloc _).alloc _) ⟨w.heap.size+1,0,none⟩ 1 1 [.string e.name] rfl rfl ?c1 ?c2 ?c3 ?c4 (by decide) ?_));case c1=>exact CN _ _ _ _
    case c2=>intro x hx;simp at hx;subst hx;rfl
    case c3=>unfold maxLen;omega
    case c4=>omega
    intro g cap1 w1 hgr;have hk1:Keep (fun k=>u.ownBlock=some k) w w1:=(((Keep.refl _ w).alloc _).alloc _).grown hgr.grown (fun k hk=>.inl hk);have o1:One bo 92 u w1:=One.keep hk1 HI.out.ne HI.out.one;have c1:=o1.cell;have f1:=o1.frozen;have l1:=o1.lt;clear hi hz0 hz1 hz2 hlen;have hnew:u.ownBlock=some g\/w.heap.size≤g:=hgr.new.imp id (fun h=>by simp at h;omega)
    have hgb:g≠bo:=fun h=>by rcases hnew with hn|hn
                             .exact HI.out.ne (h▸hn)
                             .omega
    have hgl:bo≤g:=by rcases hnew with hn|hn
                      .exact HI.out.lo g hn
                      .omega
    have hrow:=hgr.row;have HROW:=Lib.hid hrow;clear hrow;have O1:=Lib.hid o1;clear o1;have HK1:=Lib.hid hk1;clear hk1;have HNEW:=Lib.hid hnew;clear hnew;have HGB:=Lib.hid hgb;clear hgb;have HGL:=Lib.hid hgl;clear hgl;clear hgr;go_wp2_with fail;go_ret;refine⟨rfl,fun k=>k=bo\/k=g,?_,?_,?_⟩
    .simp only[cW,je];rw[if_pos ⟨HOP.out,HIN.out⟩];refine⟨.slice (some ⟨g,0,none⟩) (l.length+1) cap1,fun k=>?_,O1.out.set _,?_,fun h=>HGB.out (by simpa[Value.ownBlock]using h),fun k hk=>?_,?_,?_⟩
     .simp[Value.ownBlock,eq_comm]
     .have:=ownsRow_setCell_other HROW.out (a:=⟨bo,0,none⟩) (fun h=>HGB.out (by simpa[Value.ownBlock]using h)) (.slice (some ⟨g,0,none⟩) (l.length+1) cap1);simpa using this
     .have:g=k:=by simpa[Value.ownBlock]using hk
      rw[<-this];exact HGL.out
     .exact List.nodup_append.2 ⟨HI.out.nodup,by simp,fun a ha b hb=>by simp at hb;subst hb;exact fun e'=>AN.1 HIN.out (e'▸ha)⟩
     .intro s hs;rcases List.mem_append.1 hs with h|h
      .exact HI.out.sub s h
      .simp at h;subst h;exact HQ.out _ (by cases e;simp[rf,Ex.name])
    .intro k hk;rcases hk with rfl|rfl
     .exact .inl ((HI.out.own _).2 (.inl rfl))
     .exact HNEW.out.imp (fun h=>(HI.out.own _).2 (.inr h)) id
    .exact(HK1.out.mono (fun k hk=>(HI.out.own k).2 (.inr hk))).setCell (.inl ((HI.out.own bo).2 (.inl rfl))) _
   .have hin':inB e.name l=true:=by simpa using hin
    have hd:decide (e.op∈ops)=true:=decide_eq_true hop;have HOP:=Lib.hid hop;clear hop;have HIN:=Lib.hid hin;clear hin;go_enter Tryz.func203,Tryz.ntmps203;go_wp2_with (first|(go_at_call 204;refine(ju ops _ _ _ (HP.out.ext ((Ext.refl w).alloc _))).mono ?_;rintro e w' ⟨rfl,rfl⟩)|(go_at_call 121;refine(iC l _ _ _ (nJ (HI.out.row.alloc _))).mono ?_;rintro e w' ⟨rfl,rfl⟩));go_ret;refine⟨rfl,O,?_,fun k hk=>.inl hk,(Keep.refl O w).alloc _⟩;simp only[cW,je];rw[if_neg (fun h=>HIN.out h.2)];exact⟨u,HI.out.own,HI.out.one.alloc _,HI.out.row.alloc _,HI.out.ne,HI.out.lo,HI.out.nodup,HI.out.sub⟩
  .have hd:decide (e.op∈ops)=false:=decide_eq_false hop;have HD:=Lib.hid hop;clear hop;go_enter Tryz.func203,Tryz.ntmps203;go_wp2_with (go_at_call 204;refine(ju ops _ _ _ (HP.out.ext ((Ext.refl w).alloc _))).mono ?_;rintro e w' ⟨rfl,rfl⟩);go_ret;refine⟨rfl,O,?_,fun k hk=>.inl hk,(Keep.refl O w).alloc _⟩;simp only[cW,je];rw[if_neg (fun h=>HD.out h.1)];exact⟨u,HI.out.own,HI.out.one.alloc _,HI.out.row.alloc _,HI.out.ne,HI.out.lo,HI.out.nodup,HI.out.sub⟩
def ul(l:List ByteArray)(w:World)(e:Ending)(w':World):Prop:=
 ∃v,e=.returned v/\w'.ownsRow 0 9 1 v l.length (l.map Value.string)/\(∀k,v.ownBlock=some k->w.heap.size≤k)/\Ext w w'
def gn(ops:List Int)(e:Ex):List ByteArray:=(ew (cW ops) e []).1
theorem BR(e:Ex)(ops:List Int)(w:World)(v vp:Value)(hv:jg w e v)(hp:iu w ops vp)(hs:bF e≤1000000):
 Calls Tryz.prog 175 #[v,vp] w (ul (gn ops e) w):=by
 obtain⟨p,cp,rfl,hl,h1,h2,-,-,-⟩:=gK hv;have hp':=hp;obtain⟨p2,cap2,rfl,-,-,-⟩:=hp';have HV:=Lib.hid hv;clear hv;clear hl
 have hW:=qG (σ:=List ByteArray) (Q:=fun e'=>∀s,s∈rf e'->s∈rf e) (F:=203) (next:=cW ops) (i7 Tryz.func203 (by kernel_rfl) (by kernel_rfl))
  (uT ((w.alloc (.cells #[.int .i64 e.op,.int .i64 e.num,.string e.name,.slice p e.args.length cp] 24)).alloc (.cells #[.slice p2 ops.length cap2] 109)) ops (w.heap.size+1) (w.heap.size+1+1) (by simp) (.slice p2 ops.length cap2)
    (by have:=(One.new (w.alloc (.cells #[.int .i64 e.op,.int .i64 e.num,.string e.name,.slice p e.args.length cp] 24)) 109 (.slice p2 ops.length cap2)).cell;simpa only[World.size_alloc]using this)
    (hp.ext (((Ext.refl w).alloc _).alloc _)) (rf e) (by rw[FK];exact hs)) e
  (fun k=>k=w.heap.size+1+1) [] (((w.alloc (.cells #[.int .i64 e.op,.int .i64 e.num,.string e.name,.slice p e.args.length cp] 24)).alloc (.cells #[.slice p2 ops.length cap2] 109)).alloc (.cells #[.slice none 0 0] 92)) _ (fun _ h=>h) ((Ext.refl _).alloc _) (HV.out.ext (((Ext.refl w).alloc _).alloc _))
  ⟨.slice none 0 0,fun k=>by simp[Value.ownBlock],by
    have:=One.new ((w.alloc (.cells #[.int .i64 e.op,.int .i64 e.num,.string e.name,.slice p e.args.length cp] 24)).alloc (.cells #[.slice p2 ops.length cap2] 109)) 92 (.slice none 0 0);simpa only[World.size_alloc]using this,World.ownsRow_nil _ _ _ _,by simp[Value.ownBlock],by simp[Value.ownBlock],by simp,by simp⟩
 change Calls _ _ _ _ (xe (EP (w.heap.size+1+1) (rf e)) _ (gn ops e) _)at hW;generalize gn ops e=R at *;have HW:=Lib.hid hW;clear hW;clear hp;go_enter Tryz.func175,Tryz.ntmps175;go_wp2_with fail;refine HW.out.mono ?_;rintro en w1 ⟨rfl,O1,⟨u,hI⟩,hO1,hk1⟩;have c0:=hI.one.cell;have hx:Ext w w1:=hk1.ext (w0:=w) ((((Ext.refl w).alloc _).alloc _).alloc _) (fun x hx=>by omega);have hr:∀k,u.ownBlock=some k->w.heap.size≤k:=fun k hk=>by have:=hI.lo k hk;omega
 have hrow:=hI.row;have HR:=Lib.hid hr;clear hr;have HROW:=Lib.hid hrow;clear hrow;have HX:=Lib.hid hx;clear hx;clear hI hO1 hk1;go_wp2_with fail;go_ret;exact⟨u,rfl,HROW.out,HR.out,HX.out⟩
theorem BU(e:Ex)(w:World)(v:Value)(hv:jg w e v)(hs:bF e≤1000000):
 Calls Tryz.prog 144 #[v] w (ul (gn [2] e) w):=by
 obtain⟨p,cp,rfl,hl,h1,h2,-,-,-⟩:=gK hv;have HV:=Lib.hid hv;clear hv;have hi:=yF (w.alloc (.cells #[.int .i64 e.op,.int .i64 e.num,.string e.name,.slice p e.args.length cp] 24)) [2] 3 (by decide);simp only[World.size_alloc]at hi;have HI:=Lib.hid hi;clear hi;clear hl;go_enter Tryz.func144,Tryz.ntmps144;go_wp2_with fail;refine(BR e [2] _ _ _ (HV.out.ext (((Ext.refl w).alloc _).alloc _)) HI.out hs).mono ?_;rintro en w1 ⟨u,rfl,hrow,hn,hx⟩;have HROW:=Lib.hid hrow;clear hrow;have HN:=Lib.hid hn;clear hn;have HX:=Lib.hid hx;clear hx;go_wp2_with fail;go_ret;exact⟨u,rfl,HROW.out,fun k hk=>by have:=HN.out k hk;simp at this;omega,(((Ext.refl w).alloc _).alloc _).trans HX.out⟩
theorem mc(ops:List Int)(e:Ex):∀x,(ew (cW ops) e x).2=true:=by
 induction e using Ex.ind with
 | h o n s l ih=>
  intro x
  have H:∀(r:List Ex),(∀a,a∈r->a∈l)->∀x,(fo (cW ops) r x).2=true:=by
   intro r
   induction r with
   | nil=>intro _ x;rfl
   | cons a r ihr=>intro hm x;rw[fo,if_pos (ih a (hm a (by simp)) x)];exact ihr (fun y hy=>hm y (by simp[hy])) _
  rw[ew,if_pos (show(cW ops x (Ex.mk o n s l)).2=true from rfl)];exact H l (fun _ h=>h) _
theorem xp{ops:List Int}{l:List ByteArray}{o:Int}{s t:ByteArray}(h:t∈je ops l o s):t∈l\/(t=s/\o∈ops):=by
 unfold je at h;by_cases hc:o∈ops/\inB s l=false
 .rw[if_pos hc]at h;rcases List.mem_append.1 h with h|h
  .exact .inl h
  .exact .inr ⟨by simpa using h,hc.1⟩
 .rw[if_neg hc]at h;exact .inl h
end Go.Proofs.YthekkgfmagliiaaGreatDoor
