import Derived.Lib.ItoaNum
import Derived.Lib.ParseIntB
import Derived.Lib.ParseIntBCases
import Derived.Laws.EntriesVeiled
import Derived.Deep.DeepCutAuto
import Derived.Deep.RegionLaw
import Derived.Test.YtnhphlmblenapaaGreatDoorLex
import Derived.Test.YtnhphlmblenapaaGreatDoorA20
set_option linter.unusedVariables false
set_option linter.unusedSimpArgs false
set_option linter.unusedSectionVars false
set_option maxRecDepth 100000
set_option maxHeartbeats 2000000
open Bool renaming and_eq_true->Pa,eq_iff_iff->Pb
open List renaming takeWhile_cons_of_pos->Pd,takeWhile_cons_of_neg->Pe,length_nil->Pf,drop_eq_getElem_cons->Pg,getElem?_eq_getElem->Ph,drop_succ_cons->Pi,length_cons->Pj
open Nat renaming le_trans->Pk,add_zero->Pl,zero_le->Pm
namespace Go.Proofs.YtnhphlmblenapaaGreatDoor
open Go.RowKit
theorem sS:∀m,m∈aV->∀x,x∈m->x≠10:=by decide
theorem tb:∀m,m∈aV->m.length≤2:=by decide
def bS(t:Tok):Bool:=
 if t.kind=3 then decide (0≤t.num)&&decide (t.num≤2147483647)&&(t.text.data.toList==Lib.decDigits t.num.toNat)
 else if t.kind=1 then decide (t.num=0)&&cX t.text
 else if t.kind=2 then decide (t.num=0)&&inB t.text dU
 else if t.kind=4 then decide (t.num=0)&&aV.contains t.text.data.toList
 else false
theorem ut(d:Nat)(h:d<10):(UInt8.ofNat (48+d)).toNat=48+d:=by
 have:∀d,d<10->(UInt8.ofNat (48+d)).toNat=48+d:=by decide
 exact this d h
def kg:List Tok->Bs
 | []=>[]
 | [t]=>t.text.data.toList
 | t::u::r=>t.text.data.toList++32::kg (u::r)
def Tok.down(d:Int)(t:Tok):Tok:=⟨t.kind,t.num,t.text,t.line+d⟩
def Lx.down(d:Int):Lx->Lx
 | .ok l=>.ok (l.map (Tok.down d))
 | .err n e=>.err (n+d) e
def bs(l:Bs):ByteArray:=⟨l.toArray⟩
theorem d6(l:Bs):(bs l).data.toList=l:=by simp[bs]
theorem lJ(s:ByteArray):bs s.data.toList=s:=Lib.mk_data s
theorem bW(l:Bs):(bs l).size=l.length:=by rw[Lib.size_eq,d6]
theorem FL(l:Bs)(n:Nat):(bs l).extract 0 n=bs (l.take n):=by rw[Lib.extract_eq,d6];rfl
theorem ES(l:Bs)(n:Nat):(bs l).extract n (bs l).size=bs (l.drop n):=by
 rw[Lib.extract_eq,d6,bW];unfold bs;rw[List.take_of_length_le (by simp)]
theorem vj{a b:Bs}:bs a=bs b↔a=b:=⟨fun h=>by rw[<-d6 a,<-d6 b,h],fun h=>by rw[h]⟩
theorem eH:bs []=⟨#[]⟩:=rfl
theorem kx(a b:Bs):bs a++bs b=bs (a++b):=by
 apply ByteArray.ext;apply Array.ext';simp[bs]
theorem Cy(a b:Bs):decide (bs a=bs b)=decide (a=b):=by rw[decide_eq_decide];exact vj
def dig(x:UInt8):Bool:=fC x.toNat
theorem Gd{x:UInt8}(h:dig x=true):inn x=true:=by unfold dig at h;simp[inn,g9,h]
theorem tr:∀l:Bs,((l.takeWhile inn).all dig=true/\l.takeWhile dig=l.takeWhile inn/\(l.drop (l.takeWhile dig).length).takeWhile inn=[])\/((l.takeWhile inn).all dig=false/\(l.drop (l.takeWhile dig).length).takeWhile inn≠[])
 | []=>.inl ⟨rfl,rfl,rfl⟩
 | a::l=>by
  by_cases h:dig a=true
  .rw[Pd h,Pd (Gd h)];simp only[Pj,Pi,List.all_cons,h,Bool.true_and];rcases tr l with⟨h1,h2,h3⟩|⟨h1,h2⟩
   .exact .inl ⟨h1,by rw[h2],h3⟩
   .exact .inr ⟨h1,h2⟩
  .rw[Pe h];simp only[Pf,List.drop_zero];by_cases hi:inn a=true
   .rw[Pd hi];refine .inr ⟨by simp[h],by simp⟩
   .rw[Pe hi];exact .inl ⟨rfl,rfl,rfl⟩
def yr(acc:Nat)(l:Bs):Nat:=l.foldl (fun n c=>10*n+(c.toNat-48)) acc
theorem xO:∀(l:Bs) (acc:Nat),acc≤yr acc l
 | [],acc=>Nat.le_refl _
 | c::r,acc=>by have:=xO r (10*acc+(c.toNat-48));simp only[yr,List.foldl_cons]at this ⊢;omega
theorem qX:∀(l:Bs) (acc:Nat),(∀x,x∈l->dig x=true)->acc≤18446744073709551615->Lib.parseUintM 18446744073709551615 acc l=if yr acc l≤18446744073709551615 then .ok (yr acc l)else .range
 | [],acc,_,h=>(if_pos h).symm
 | c::r,acc,hd,h=>by
  have hc:=hd c (by simp);simp only[dig,fC,Pa,decide_eq_true_eq]at hc;have hge:=xO r (10*acc+(c.toNat-48));have hst:yr acc (c::r)=yr (10*acc+(c.toNat-48)) r:=rfl;rw[hst,Lib.parseUintM,if_pos (by omega)];split
  .rw[if_neg (by omega)]
  .split
   .rw[if_neg (by omega)]
   .rw[show acc*10+(c.toNat-48)=10*acc+(c.toNat-48)by omega];exact qX r _ (fun x hx=>hd x (by simp[hx])) (by omega)
theorem lO{l:Bs}(h0:l≠[])(hd:∀x,x∈l->dig x=true):Lib.parseIntB 64 l=if eG l≤9223372036854775807 then .ok (eG l)else .range:=by
 match l,h0 with
 | c::r,_=>
  have hc:=hd c (by simp);simp only[dig,fC,Pa,decide_eq_true_eq]at hc;rw[Lib.parseIntB_plain 64 c r (by omega) (by omega)];have hp:=qX (c::r) 0 hd (by omega)
  have hu:Lib.parseUintB 64 (c::r)=if eG (c::r)≤18446744073709551615 then .ok (eG (c::r))else .range:=by
   unfold Lib.parseUintB;rw[if_neg (by simp)];exact hp
  rw[hu];generalize eG (c::r)=v;by_cases h1:v≤18446744073709551615
  .rw[if_pos h1];simp only[Lib.signlessC];by_cases h2:v≤9223372036854775807
   .rw[if_pos h2,if_neg (by omega)]
   .rw[if_neg h2,if_pos (by omega)]
  .rw[if_neg h1,if_neg (by omega)];rfl
structure ByteP(q:UInt8->Bool)(p:Int->Bool):Prop where
 low:∀b:UInt8,b.toNat<128->p b.toNat=q b
 high:∃v,(∀c:Int,128≤c->p c=v)/\∀b:UInt8,128≤b.toNat->q b=v
theorem DB(s:ByteArray)(k:Nat)(h:k<s.size):s.get! k=s[k]'h:=by
 simp[ByteArray.get!,getElem!_pos,h];rfl
theorem uo(s:ByteArray)(k:Nat)(h:k<s.size):s.data.toList[k]? = some (s[k]'h):=by
 have h1:s.data.toList.length=s.size:=Lib.size_eq s;rw[Ph (by omega)];rfl
theorem tW(s:ByteArray)(pos:Nat)(h:pos<s.size)(ha:128≤(s[pos]'h).toNat):1≤(Utf8.decode s pos).2/\∀k,k<(Utf8.decode s pos).2->∃hk:pos+k<s.size,128≤(s[pos+k]'hk).toNat:=by
 have e0:s.get! (pos+0)=s[pos]'h:=DB s pos h;have e2:¬(s[pos]'h).toNat<128:=by omega
 have one:∀k,k<1->∃hk:pos+k<s.size,128≤(s[pos+k]'hk).toNat:=fun k hk=>by
  have:k=0:=by omega
  subst this;exact⟨h,ha⟩
 have cont:∀k,(decide (pos+k<s.size)&&((s.get! (pos+k)).toNat/64==2))=true->∃hk:pos+k<s.size,128≤(s[pos+k]'hk).toNat:=fun k hk=>by
  simp only[Pa,decide_eq_true_eq,beq_iff_eq]at hk;refine⟨hk.1,?_⟩;have:=hk.2;rw[DB s _ hk.1]at this;omega
 simp only[Utf8.decode,e0,e2,if_false];split
 .rename_i h1;simp only[Pa]at h1;split
  .refine⟨by omega,fun k hk=>?_⟩;have:k=0\/k=1:=by simp only at hk;omega
   rcases this with rfl|rfl
   .exact⟨h,ha⟩
   .exact cont 1 (by simpa using h1.2)
  .exact⟨by omega,one⟩
 .split
  .rename_i h1;simp only[Pa]at h1;split
   .refine⟨by omega,fun k hk=>?_⟩;have:k=0\/k=1\/k=2:=by simp only at hk;omega
    rcases this with rfl|rfl|rfl
    .exact⟨h,ha⟩
    .exact cont 1 (by simpa using h1.1.2)
    .exact cont 2 (by simpa using h1.2)
   .exact⟨by omega,one⟩
  .split
   .rename_i h1;simp only[Pa]at h1;split
    .refine⟨by omega,fun k hk=>?_⟩;have:k=0\/k=1\/k=2\/k=3:=by simp only at hk;omega
     rcases this with rfl|rfl|rfl|rfl
     .exact⟨h,ha⟩
     .exact cont 1 (by simpa using h1.1.1.2)
     .exact cont 2 (by simpa using h1.1.2)
     .exact cont 3 (by simpa using h1.2)
    .exact⟨by omega,one⟩
   .exact⟨by omega,one⟩
theorem CR(q:UInt8->Bool):∀(n:Nat) (l:Bs),(∀k,k<n->∃b,l[k]? = some b/\q b=true)->(l.takeWhile q).length=n+((l.drop n).takeWhile q).length
 | 0,l,_=>by simp
 | n+1,[],h=>by obtain⟨b,h1,-⟩:=h 0 (by omega);simp at h1
 | n+1,a::l,h=>by
  obtain⟨b,h1,h2⟩:=h 0 (by omega);simp only[List.getElem?_cons_zero,Option.some.injEq]at h1;subst h1;have:=CR q n l (fun k hk=>by obtain⟨b,h3,h4⟩:=h (k+1) (by omega);exact⟨b,by simpa using h3,h4⟩);rw[Pd h2,Pi,Pj,this];omega
theorem BI(F:FuncId)(cap:Array Value)(q:UInt8->Bool)(p:Int->Bool)(hq:ByteP q p)(hF:∀args w,(callFunc F args).run Tryz.prog w=.ok (.enter F args) w)
 (H:∀(c:Int) (w:World),Calls Tryz.prog F (#[.int .i32 c]++cap) w fun e w'=>e=.returned (.bool (p c))/\w=w')(s:ByteArray)(w:World)(hs:s.size≤9223372036854775807):
 Calls Tryz.prog 167 #[.string s,.func (.func F) #[] cap] w fun e w'=>e=.returned (.int .i64 (s.data.toList.takeWhile q).length)/\Ext w w':=by
 have HH:=Lib.hid H;clear H;obtain⟨N,hN⟩:∃N,N=(s.data.toList.takeWhile q).length:=⟨_,rfl⟩
 rw[<-hN];have HN:=Lib.hid hN;clear hN;have HQ:=Lib.hid hq;clear hq;go_enter Tryz.func167,Tryz.ntmps167;go_wp2_with fail;go_loopw [5,6] (fun _ _ wr=>∃pos:Nat,pos≤s.size/\wr=w.iter s pos/\N=pos+((s.data.toList.drop pos).takeWhile q).length) (fun _ _ wr=>match wr.heap[w.heap.size]? with|some (.stringIter _ p)=>s.size-p|_=>0);case atStart=>exact⟨0,Pm _,rfl,by rw[HN.out];simp⟩
 case round=>
  obtain⟨pos,hp,rfl,hb⟩:=hrel;have HB:=Lib.hid hb;clear hb;by_cases hlt:pos<s.size
  .have hnx:=fun ty=>mr (P:=Tryz.prog) w s pos ty hlt;have hl:s.data.toList[pos]? = some (s[pos]'hlt):=uo s pos hlt
   have hpq:p (Utf8.decode s pos).1=q (s[pos]'hlt)/\(q (s[pos]'hlt)=true->1≤(Utf8.decode s pos).2/\pos+(Utf8.decode s pos).2≤s.size/\N=pos+(Utf8.decode s pos).2+((s.data.toList.drop (pos+(Utf8.decode s pos).2)).takeWhile q).length):=by
    have adv:∀n,(∀k,k<n->∃hk:pos+k<s.size,q (s[pos+k]'hk)=true)->pos+n≤s.size/\N=pos+n+((s.data.toList.drop (pos+n)).takeWhile q).length:=fun n h=>by
     have h1:pos+n≤s.size:=by
      cases n with
      | zero=>omega
      | succ n=>obtain⟨hk,-⟩:=h n (by omega);omega
     refine⟨h1,?_⟩;rw[HB.out,CR q n _ (fun k hk=>?_),List.drop_drop]
     .omega
     .obtain⟨hk2,h3⟩:=h k hk;exact⟨_,by rw[List.getElem?_drop];exact uo s _ hk2,h3⟩
    by_cases ha:(s[pos]'hlt).toNat<128
    .rw[decode_ascii s pos hlt ha];refine⟨HQ.out.low _ ha,fun h=>⟨by omega,adv 1 fun k hk=>?_⟩⟩;have:k=0:=by omega
     subst this;exact⟨hlt,h⟩
    .obtain⟨v,h1,h2⟩:=HQ.out.high;have hd:=jP s pos hlt (by omega);obtain⟨g1,g2⟩:=tW s pos hlt (by omega);rw[h1 _ (by omega),h2 _ (by omega)];refine⟨rfl,fun h=>⟨g1,adv _ fun k hk=>?_⟩⟩;obtain⟨g3,g4⟩:=g2 k hk;exact⟨g3,by rw[h2 _ g4];exact h⟩
   have HPQ:=Lib.hid hpq;clear hpq;generalize hrd:(Utf8.decode s pos).1=rn at *;generalize hwd:(Utf8.decode s pos).2=wd at *;cases hqv:q (s[pos]'hlt)with
   | true=>
    go_wp2_with fail;refine(HH.out _ _).mono ?_;rintro e2 w2 ⟨rfl,rfl⟩;have hpv:=HPQ.out.1;rw[hqv]at hpv;rw[hpv];obtain⟨g1,g2,g3⟩:=HPQ.out.2 hqv;go_wp2_with fail;go_roundw;case rel=>exact⟨pos+wd,g2,rfl,g3⟩
    case measure=>simp[World.iter_heap];omega
   | false=>
    go_wp2_with fail;refine(HH.out _ _).mono ?_;rintro e2 w2 ⟨rfl,rfl⟩;have hpv:=HPQ.out.1;rw[hqv]at hpv;rw[hpv];go_wp2_with fail;go_ret;refine⟨dY ?_,(Ext.refl w).iter _ _⟩
    have hnil:(s.data.toList.drop pos).takeWhile q=[]:=by
     rw[Pg (by have:=Lib.size_eq s;omega)]
     have:s.data.toList[pos]'(by have:=Lib.size_eq s;omega)=s[pos]'hlt:=by
      have h9:=Ph (l:=s.data.toList) (i:=pos) (by have:=Lib.size_eq s;omega);rw[hl]at h9;exact(Option.some.inj h9).symm
     rw[Pe (by rw[this,hqv];decide)]
    have h8:=HB.out;rw[hnil]at h8;simp only[Pf,Pl]at h8;rw[h8]
  .have:pos=s.size:=by omega
   subst this;have hnx:=fun ty=>run_next_end (P:=Tryz.prog) w s s.size ty (by omega);go_wp2_with fail;go_ret;refine⟨dY ?_,(Ext.refl w).iter _ _⟩;have h8:=HB.out;rw[List.drop_of_length_le (by have:=Lib.size_eq s;omega)]at h8;simp only[List.takeWhile_nil,Pf,Pl]at h8;rw[h8]
def db(s:ByteArray):Bool:=pj s||cX s
theorem AN(s:ByteArray)(w:World)(hs:s.size≤9223372036854775807)(hk:mG w):
 Calls Tryz.prog 224 #[.string s] w fun e w'=>e=.returned (.bool (db s))/\Ext w w':=by
 have HK:=Lib.hid hk;clear hk;have hq:db s=(pj s||cX s):=rfl;have HQ:=Lib.hid hq;clear hq;generalize db s=r at *;have he:=fun w hk=>uk s w hs hk;generalize pj s=eb at *;have HE:=Lib.hid he;clear he;go_enter Tryz.func224,Tryz.ntmps224;go_wp2_with (first|(go_at_call 257;refine(HE.out _ HK.out).mono ?_;rintro e w' ⟨a,i,rfl,hx⟩)|(go_at_call 96;refine(fQ _ _ (by omega) (HK.out.ext (by assumption))).mono ?_;rintro e w' ⟨rfl,hy⟩));all_goals go_ret
 all_goals (go_light;refine⟨b9 ?_,(by first|exact hx.trans hy|exact hx)⟩;rw[HQ.out];simp[*])
theorem places{s:ByteArray}(k:Nat)(hk:1≤k)(h:k≤s.size):((s.size:Int)-k<s.size)/\(0≤(s.size:Int)-k)/\((s.size:Int)-k).toNat=s.size-k:=by omega
def xM(op:Int):Int:=
 if op=1\/op=2\/op=24 then 0 else if op=3\/op=4\/op=5\/op=6\/op=25 then 1 else if op=22 then 3 else if op=23 then -1
 else if op<1\/25<op then -1 else 2
theorem qE(op:Int)(w:World):
 Calls Tryz.prog 256 #[.int .i64 op] w fun e w'=>e=.returned (.int .i64 (xM op))/\w=w':=by
 go_enter Tryz.func256,Tryz.ntmps256;go_wp2_with fail;all_goals go_ret
 all_goals (go_light;refine⟨dY ?_,rfl⟩;unfold xM;simp only[beq_iff_eq,beq_eq_false_iff_ne,ne_eq]at *;simp[*])
def m5(op:Int):Bool:=decide (op=2)||decide (op=3)||decide (op=24)
def iv(op:Int)(n:Nat):Bool:=if op=23 then decide (n%2=1)&&decide (3≤n)&&decide (n≤33)else decide ((n:Int)=xM op)
def bB(op num:Int)(s:ByteArray)(n:Nat):Int:=
 if op<1\/25<op then 1
 else if(op=1/\(num<0\/65535<num))\/(op≠1/\num≠0)then 1
 else if(m5 op=false/\¬s.toList=[])\/iv op n=false then 1
 else if(op=2/\db s=false)\/((op=3\/op=24)/\cX s=false)then 7 else 0
theorem gw(o m:Int)(s:ByteArray)(p:Option Addr)(n cap:Nat)(w:World)(hn:n≤9223372036854775807):
 Calls Tryz.prog 223 #[.agg #[.int .i64 o,.int .i64 m,.string s,.slice p n cap]] w fun e w'=>e=.returned (.bool (iv o n))/\Ext w w':=by
 by_cases ho:o=23
 .subst ho;have h2:((n:Int)%2=1)↔n%2=1:=by omega
  have H2:=Lib.hid h2;clear h2;go_enter Tryz.func223,Tryz.ntmps223;go_wp2_with (go_at_call 256;refine(qE _ _).mono ?_;rintro e w' ⟨rfl,rfl⟩);all_goals go_ret
  all_goals (go_light;refine⟨b9 ?_,(Ext.refl _).alloc _⟩;simp only[beq_iff_eq,beq_eq_false_iff_ne,ne_eq,H2.out]at *;simp only[iv,if_true];rw[Pb];simp[*]<;>omega)
 .have ho':(o==23)=false:=by rw[beq_eq_false_iff_ne];exact ho
  have HO:=Lib.hid ho;clear ho;go_enter Tryz.func223,Tryz.ntmps223;go_wp2_with (go_at_call 256;refine(qE _ _).mono ?_;rintro e w' ⟨rfl,rfl⟩);all_goals go_ret
  all_goals (go_light;refine⟨b9 ?_,(Ext.refl _).alloc _⟩;rw[iv,if_neg HO.out,Pb];simp)
def iQ(v:Int)(w:World)(e:Ending)(w':World):Prop:=e=.returned (.int .i64 v)/\Ext w w'
theorem Cf(o m:Int)(s:ByteArray)(p:Option Addr)(n cap:Nat)(w:World)(ho:o<1\/25<o):
 Calls Tryz.prog 182 #[.agg #[.int .i64 o,.int .i64 m,.string s,.slice p n cap]] w (iQ (bB o m s n) w):=by
 have e1:(o==2)=false:=by rw[beq_eq_false_iff_ne];omega
 have e2:(o==3)=false:=by rw[beq_eq_false_iff_ne];omega
 have e3:(o==24)=false:=by rw[beq_eq_false_iff_ne];omega
 rw[bB,if_pos ho];rcases ho with ho|ho
 all_goals
  go_enter Tryz.func182,Tryz.ntmps182;go_wp2_with fail;go_ret;exact⟨rfl,(Ext.refl _).alloc _⟩
theorem vt(m:Int)(s:ByteArray)(p:Option Addr)(n cap:Nat)(w:World)(hn:n≤9223372036854775807):
 Calls Tryz.prog 182 #[.agg #[.int .i64 1,.int .i64 m,.string s,.slice p n cap]] w (iQ (bB 1 m s n) w):=by
 have hq:bB 1 m s n=if m<0\/65535<m then 1 else if ¬s.toList=[]\/iv 1 n=false then 1 else 0:=by
  simp[bB,m5]
 generalize bB 1 m s n=r at *;have hop:=fun w=>gw 1 m s p n cap w hn;generalize iv 1 n=ob at *;have HO:=Lib.hid hop;clear hop;have HQ:=Lib.hid hq;clear hq;go_enter Tryz.func182,Tryz.ntmps182;go_wp2_with (first|(go_at_call 223;refine(HO.out _).mono ?_;rintro e w' ⟨rfl,hx⟩;obtain⟨c0,c1,c2,c3⟩:=hx.box4));all_goals go_ret
 all_goals (go_light;refine⟨dY ?_,(by first|exact hx.past.trans hy|exact hx.past|exact(Ext.refl _).alloc _)⟩;rw[HQ.out];first|(rw[if_pos (by omega)];done)|(rw[if_neg (by omega)];simp_all;done))
theorem AJ(o m:Int)(s:ByteArray)(p:Option Addr)(n cap:Nat)(w:World)(hn:n≤9223372036854775807)(ho:o=3\/o=24)(hs:s.size≤9223372036854775807)(hk:mG w):
 Calls Tryz.prog 182 #[.agg #[.int .i64 o,.int .i64 m,.string s,.slice p n cap]] w (iQ (bB o m s n) w):=by
 have hq:bB o m s n=if ¬m=0 then 1 else if iv o n=false then 1 else if cX s=false then 7 else 0:=by
  rcases ho with rfl|rfl<;>simp[bB,m5]
 generalize bB o m s n=r at *;have hop:=fun w=>gw o m s p n cap w hn;generalize iv o n=ob at *;have HK:=Lib.hid hk;clear hk;have HO:=Lib.hid hop;clear hop;have HQ:=Lib.hid hq;clear hq;rcases ho with rfl|rfl;all_goals
 go_enter Tryz.func182,Tryz.ntmps182;go_wp2_with (first|(go_at_call 223;refine(HO.out _).mono ?_;rintro e w' ⟨rfl,hx⟩;obtain⟨c0,c1,c2,c3⟩:=hx.box4)|(go_at_call 96;refine(fQ s _ hs (HK.out.ext hx.past)).mono ?_;rintro e w' ⟨rfl,hy⟩));all_goals go_ret
 all_goals (go_light;refine⟨dY ?_,(by first|exact hx.past.trans hy|exact hx.past|exact(Ext.refl _).alloc _)⟩;rw[HQ.out];simp_all;done)
theorem D8(m:Int)(s:ByteArray)(p:Option Addr)(n cap:Nat)(w:World)(hn:n≤9223372036854775807)(hs:s.size≤9223372036854775807)(hk:mG w):
 Calls Tryz.prog 182 #[.agg #[.int .i64 2,.int .i64 m,.string s,.slice p n cap]] w (iQ (bB 2 m s n) w):=by
 have hq:bB 2 m s n=if ¬m=0 then 1 else if iv 2 n=false then 1 else if db s=false then 7 else 0:=by
  simp[bB,m5]
 generalize bB 2 m s n=r at *;have hop:=fun w=>gw 2 m s p n cap w hn;generalize iv 2 n=ob at *;have HK:=Lib.hid hk;clear hk;have HO:=Lib.hid hop;clear hop;have HQ:=Lib.hid hq;clear hq;go_enter Tryz.func182,Tryz.ntmps182;go_wp2_with (first|(go_at_call 223;refine(HO.out _).mono ?_;rintro e w' ⟨rfl,hx⟩;obtain⟨c0,c1,c2,c3⟩:=hx.box4)|(go_at_call 224;refine(AN s _ hs (HK.out.ext hx.past)).mono ?_;rintro e w' ⟨rfl,hy⟩;have d0:=hy.cell c0));all_goals go_ret
 all_goals (go_light;refine⟨dY ?_,(by first|exact hx.past.trans hy|exact hx.past|exact(Ext.refl _).alloc _)⟩;rw[HQ.out];simp_all;done)
theorem Bb(o m:Int)(s:ByteArray)(p:Option Addr)(n cap:Nat)(w:World)(hn:n≤9223372036854775807)(h1:1≤o)(h25:o≤25)(n1:¬o=1)(n2:¬o=2)(n3:¬o=3)(n24:¬o=24):
 Calls Tryz.prog 182 #[.agg #[.int .i64 o,.int .i64 m,.string s,.slice p n cap]] w (iQ (bB o m s n) w):=by
 have hq:bB o m s n=if ¬m=0 then 1 else if ¬s.toList=[]\/iv o n=false then 1 else 0:=by
  have:¬(o<1\/25<o):=by omega
  simp[bB,m5,this,n1,n2,n3,n24]
 generalize bB o m s n=r at *;have hop:=fun w=>gw o m s p n cap w hn;generalize iv o n=ob at *;have e1:(o==1)=false:=beq_eq_false_iff_ne.2 n1;have e1':(o != 1)=true:=bne_iff_ne.2 n1;have e2:(o==2)=false:=beq_eq_false_iff_ne.2 n2;have e3:(o==3)=false:=beq_eq_false_iff_ne.2 n3;have e24:(o==24)=false:=beq_eq_false_iff_ne.2 n24;clear n1 n2 n3 n24;have HO:=Lib.hid hop;clear hop;have HQ:=Lib.hid hq;clear hq;go_enter Tryz.func182,Tryz.ntmps182;go_wp2_with (first|(go_at_call 223;refine(HO.out _).mono ?_;rintro e w' ⟨rfl,hx⟩;obtain⟨c0,c1,c2,c3⟩:=hx.box4));all_goals go_ret
 all_goals (go_light;refine⟨dY ?_,(by first|exact hx.past.trans hy|exact hx.past|exact(Ext.refl _).alloc _)⟩;rw[HQ.out];simp_all;done)
theorem Ek(o m:Int)(s:ByteArray)(p:Option Addr)(n cap:Nat)(w:World)(hn:n≤9223372036854775807)(hs:s.size≤9223372036854775807)(hk:mG w):
 Calls Tryz.prog 182 #[.agg #[.int .i64 o,.int .i64 m,.string s,.slice p n cap]] w (iQ (bB o m s n) w):=by
 by_cases h:o<1\/25<o
 .exact Cf o m s p n cap w h
 by_cases h1:o=1
 .subst h1;exact vt m s p n cap w hn
 by_cases h2:o=2
 .subst h2;exact D8 m s p n cap w hn hs hk
 by_cases h3:o=3\/o=24
 .exact AJ o m s p n cap w hn h3 hs hk
 exact Bb o m s p n cap w hn (by omega) (by omega) h1 h2 (by omega) (by omega)
def xz(e:Ex):Int:=bB e.op e.num e.name e.args.length
def DT{σ:Type}(I:(Nat->Prop)->σ->World->Prop)(O:Nat->Prop)(r:σ×Bool)(w:World)(e:Ending)(w':World):Prop:=
 e=.returned (.bool r.2)/\∃O',I O' r.1 w'/\(∀k,O' k->O k\/w.heap.size≤k)/\Keep O w w'
theorem Cn{σ:Type}{next:σ->Ex->σ×Bool}{I:(Nat->Prop)->σ->World->Prop}{Q:Ex->Prop}{w0:World}{F:FuncId}{cap:Array Value}
 (hF:∀args w,(callFunc F args).run Tryz.prog w=.ok (.enter F args) w)(H:Visits Tryz.prog w0 F cap next I Q)(b3 b4:Nat):
 ∀(e:Ex) (O:Nat->Prop) (s:σ) (w:World) (v:Value),Q e->Ext w0 w->jh w0 e v->I O s w->¬O b3->¬O b4->
  One b3 186 (.func (.func F) #[] cap) w->One b4 186 (.func (.func 222) #[] #[.pointer (some ⟨b3,0,none⟩),.pointer (some ⟨b4,0,none⟩)]) w->
  Calls Tryz.prog 222 #[v,.pointer (some ⟨b3,0,none⟩),.pointer (some ⟨b4,0,none⟩)] w (DT I O (fX next e s) w):=by
 intro e
 induction e using Ex.ind with
 | h o m nm l ih=>
  intro O s w v hq h0 hv hI n3 n4 h3 h4;have HQ:=Lib.hid hq;clear hq;have IH:=Lib.hid ih;clear ih;obtain⟨p,cp,rfl,hl,h1,h2,-,-,-⟩:=iK hv;simp only[Ex.op,Ex.num,Ex.name,Ex.args]at *;have HV:=Lib.hid hv;clear hv;have HL:=Lib.hid hl;clear hl;have HI:=Lib.hid hI;clear hI;have H0:=Lib.hid h0;clear h0;have N3:=Lib.hid n3;clear n3;have N4:=Lib.hid n4;clear n4;have c3:=h3.cell;have c4:=h4.cell;have l3:=h3.lt;have l4:=h4.lt;have H3:=Lib.hid h3;clear h3;have H4:=Lib.hid h4;clear h4;have HH:=Lib.hid H;clear H;have HL3:=Lib.hid l3;have HL4:=Lib.hid l4;have hw:fX next (.mk o m nm l) s=if(next s (.mk o m nm l)).2 then gJ next l (next s (.mk o m nm l)).1 else((next s (.mk o m nm l)).1,false):=by rw[fX]
  generalize hs1:(next s (.mk o m nm l)).1=s1 at hw;generalize hg1:(next s (.mk o m nm l)).2=g1 at hw;generalize fX next (.mk o m nm l) s=R at *
  have HW:=Lib.hid hw;clear hw;have HS1:=Lib.hid hs1;clear hs1;have HG1:=Lib.hid hg1;clear hg1;go_enter Tryz.func222,Tryz.ntmps222;go_wp2_with fail;refine(HH.out.call HQ.out (H0.out.alloc _) (HH.out.stays HI.out (fun k hk=>Below.heap_alloc _ _ _ (HH.out.lt HI.out k hk).2)) HV.out).mono ?_;rintro en w1 ⟨rfl,O1,hI1,hO1,hk1⟩;rw[HS1.out]at hI1;rw[HG1.out];have n31:¬O1 b3:=fun hx=>(hO1 b3 hx).elim N3.out (fun h=>by simp at h;have:=HL3.out;omega);have n41:¬O1 b4:=fun hx=>(hO1 b4 hx).elim N4.out (fun h=>by simp at h;have:=HL4.out;omega);have n51:¬O1 w.heap.size:=fun hx=>(hO1 _ hx).elim (fun h=>by have:=(HH.out.lt HI.out _ h).2;omega) (fun h=>by simp at h;omega);have hkw:Keep O w w1:=(Keep.of_ext ((Ext.refl w).alloc _)).trans hk1 (fun x hx=>.inl hx);have hO1w:∀k,O1 k->O k\/w.heap.size≤k:=fun k hk=>(hO1 k hk).imp id (fun h=>by simp at h;omega)
  have h01:Ext w0 w1:=hkw.ext H0.out (fun k hk=>(HH.out.lt HI.out k hk).1);have c5:w1.cell? ⟨w.heap.size,3,none⟩=some (.slice p l.length cp):=hk1.cell (fun hx=>by have:=(HH.out.lt HI.out _ hx).2;simp at this) (by simp[World.cell?_alloc_new]);have g3:=One.keep hkw N3.out H3.out;have g4:=One.keep hkw N4.out H4.out;have HI1:=Lib.hid hI1;clear hI1;have HO1:=Lib.hid hO1;clear hO1;have HK1:=Lib.hid hk1;clear hk1;have N31:=Lib.hid n31;clear n31;have N41:=Lib.hid n41;clear n41;have N51:=Lib.hid n51;clear n51;have HKW:=Lib.hid hkw;clear hkw;have HO1W:=Lib.hid hO1w;clear hO1w;have H01:=Lib.hid h01;clear h01;have G3:=Lib.hid g3;clear g3;have G4:=Lib.hid g4;clear g4;clear c3 c4 l3 l4;cases g1 with
  | false=>
   go_wp2_with fail;go_ret;rw[HW.out];exact⟨rfl,O1,HI1.out,HO1W.out,HKW.out⟩
  | true=>
   go_wp2_with fail;go_loopw [14,6] (fun i _ wr=>∃(j:Nat) (O2:Nat->Prop) (s2:σ),i=.int .i64 j/\j≤l.length/\I O2 s2 wr/\(∀k,O2 k->O1 k\/w1.heap.size≤k)/\Keep O1 w1 wr/\gJ next (l.drop j) s2=gJ next l s1) (fun i _ _=>l.length-(intOf i).toNat);case atStart=>exact⟨0,O1,s1,rfl,Pm _,HI1.out,fun k hk=>.inl hk,Keep.refl _ _,rfl⟩
   case round=>
    obtain⟨j,O2,s2,rfl,hj,hI2,hO2,hk2,hrec⟩:=hrel;have HR:=Lib.hid hrec;clear hrec;have HI2:=Lib.hid hI2;clear hI2;have hO2w:∀k,O2 k->O k\/w.heap.size≤k:=fun k hk=>(hO2 k hk).elim (fun h=>HO1W.out k h) (fun h=>.inr (Pk HKW.out.size h));have hkw2:Keep O w wr:=HKW.out.trans hk2 HO1W.out;have HO2W:=Lib.hid hO2w;clear hO2w;have HKW2:=Lib.hid hkw2;clear hkw2;by_cases hlt:j<l.length
    .obtain⟨b,off,cs,rfl,hr,hc⟩:=Eb HL.out hlt;have h02:Ext w0 wr:=hk2.ext H01.out (fun k hk=>(HH.out.lt HI1.out k hk).1);obtain⟨sv,gv,gl,q2,q3,q4,q5⟩:=CH hr hc;obtain⟨p',cp',rfl,-,-⟩:=mP gl;clear gl;have r2:=h02.cell q2;have r3:=h02.cell q3;have r4:=h02.cell q4;have r5:=h02.cell q5;clear q2 q3 q4 q5 hr hc;have n32:¬O2 b3:=fun hx=>(hO2 b3 hx).elim N31.out (fun h=>by have:=HL3.out;have:=HKW.out.size;omega);have n42:¬O2 b4:=fun hx=>(hO2 b4 hx).elim N41.out (fun h=>by have:=HL4.out;have:=HKW.out.size;omega);have f3:=(One.keep hk2 N31.out G3.out)
     have f4:=(One.keep hk2 N41.out G4.out)
     have d4:=f4.cell;have e4:=f4.lt;have F3:=Lib.hid f3;clear f3;have F4:=Lib.hid f4;clear f4;have N32:=Lib.hid n32;clear n32;have N42:=Lib.hid n42;clear n42;have H02:=Lib.hid h02;clear h02;have HO2:=Lib.hid hO2;clear hO2;have HK2:=Lib.hid hk2;clear hk2;have GV:=Lib.hid gv;clear gv
     have hwl:gJ next (l.drop j) s2=if(fX next l[j] s2).2 then gJ next (l.drop (j+1)) (fX next l[j] s2).1 else((fX next l[j] s2).1,false):=by
      rw[Pg hlt,gJ]
     have HWL:=Lib.hid hwl;clear hwl;go_wp2_with fail;refine(IH.out l[j] (by simp) O2 s2 _ _ (HH.out.sub HQ.out _ (by simp)) (H02.out.alloc _) GV.out (HH.out.stays HI2.out (fun k hk=>Below.heap_alloc _ _ _ (HH.out.lt HI2.out k hk).2)) N32.out N42.out (F3.out.alloc _) (F4.out.alloc _)).mono ?_;rintro en w2 ⟨rfl,O3,hI3,hO3,hk3⟩;have hk3':Keep O2 wr w2:=(Keep.of_ext ((Ext.refl wr).alloc _)).trans hk3 (fun x hx=>.inl hx);have hO3':∀k,O3 k->O2 k\/wr.heap.size≤k:=fun k hk=>(hO3 k hk).imp id (fun h=>by simp at h;omega);have hK13:Keep O1 w1 w2:=HK2.out.trans hk3' HO2.out;have hO13:∀k,O3 k->O1 k\/w1.heap.size≤k:=fun k hk=>(hO3' k hk).elim (fun h=>HO2.out k h) (fun h=>.inr (Pk HK2.out.size h));have HI3:=Lib.hid hI3;clear hI3;have HO13:=Lib.hid hO13;clear hO13;have HK13:=Lib.hid hK13;clear hK13;clear hO3 hk3 hk3' hO3';generalize hr3:(fX next l[j] s2).1=s3 at *
     have HR3:=Lib.hid hr3;clear hr3;cases hg:(fX next l[j] s2).2 with
     | false=>
      go_wp2_with fail;go_ret;have h9:=HWL.out;rw[hg]at h9;rw[HW.out,if_pos trivial,<-HR.out,h9,if_neg (by simp)];exact⟨rfl,O3,HI3.out,fun k hk=>(HO13.out k hk).elim (fun h=>HO1W.out k h) (fun h=>.inr (Pk HKW.out.size h)),HKW.out.trans HK13.out HO1W.out⟩
     | true=>
      have h9:=HWL.out;rw[hg,if_pos rfl]at h9;have H9:=Lib.hid h9;clear h9;go_wp2_with fail;go_roundw;case rel=>exact⟨j+1,O3,s3,by go_num,by omega,HI3.out,HO13.out,HK13.out,by rw[<-HR.out,H9.out]⟩
      case measure=>simp[intOf];omega
    .have:j=l.length:=by omega
     subst this;go_wp2_with fail;go_ret;have hr:=HR.out;simp only[List.drop_length,gJ]at hr;rw[HW.out,if_pos trivial,<-hr];exact⟨rfl,O2,HI2.out,HO2W.out,HKW2.out⟩
def Ds{σ:Type}(I:(Nat->Prop)->σ->World->Prop)(O:Nat->Prop)(s:σ)(w:World)(e:Ending)(w':World):Prop:=
 e=.returned (.tuple #[])/\∃O',I O' s w'/\(∀k,O' k->O k\/w.heap.size≤k)/\Keep O w w'
theorem uu{σ:Type}{next:σ->Ex->σ×Bool}{I:(Nat->Prop)->σ->World->Prop}{Q:Ex->Prop}{w0:World}{F:FuncId}{cap:Array Value}
 (hF:∀args w,(callFunc F args).run Tryz.prog w=.ok (.enter F args) w)(H:Visits Tryz.prog w0 F cap next I Q)
 (e:Ex)(O:Nat->Prop)(s:σ)(w:World)(v:Value)(hq:Q e)(h0:Ext w0 w)(hv:jh w0 e v)(hI:I O s w):
   Calls Tryz.prog 180 #[v,.func (.func F) #[] cap] w (Ds I O (fX next e s).1 w):=by
 obtain⟨p,cp,rfl,hl,h1,h2,-,-,-⟩:=iK hv;have HV:=Lib.hid hv;clear hv;have HI:=Lib.hid hI;clear hI;have H0:=Lib.hid h0;clear h0;have HH:=Lib.hid H;clear H;clear hl;go_enter Tryz.func180,Tryz.ntmps180;go_wp2_with fail;have hl0:∀k,O k->k<w.heap.size:=fun k hk=>(HH.out.lt HI.out k hk).2;have e1:=((Ext.refl w).alloc (.cells #[.int .i64 e.op,.int .i64 e.num,.string e.name,.slice p e.args.length cp] 50)).alloc (.cells #[.func (.func F) #[] cap] 186)
 have o3:One (w.heap.size+1) 186 (.func (.func F) #[] cap) ((w.alloc (.cells #[.int .i64 e.op,.int .i64 e.num,.string e.name,.slice p e.args.length cp] 50)).alloc (.cells #[.func (.func F) #[] cap] 186)):=by
  have:=One.new (w.alloc (.cells #[.int .i64 e.op,.int .i64 e.num,.string e.name,.slice p e.args.length cp] 50)) 186 (.func (.func F) #[] cap);simpa using this
 have o4:=fun u=>One.new ((w.alloc (.cells #[.int .i64 e.op,.int .i64 e.num,.string e.name,.slice p e.args.length cp] 50)).alloc (.cells #[.func (.func F) #[] cap] 186)) 186 u;simp only[World.size_alloc]at o4;refine(Cn hF HH.out (w.heap.size+1) (w.heap.size+1+1) e O s _ _ hq (H0.out.trans (e1.alloc _)) HV.out (HH.out.stays HI.out (fun k hk=>(e1.alloc _).block k (hl0 k hk))) (fun hx=>by have:=hl0 _ hx;omega) (fun hx=>by have:=hl0 _ hx;omega) (o3.alloc _) (o4 _)).mono ?_;rintro en w1 ⟨rfl,O1,hI1,hO1,hk1⟩;have hk:Keep O w w1:=(Keep.of_ext (e1.alloc _)).trans hk1 (fun x hx=>.inl hx);have hO:∀k,O1 k->O k\/w.heap.size≤k:=fun k hk=>(hO1 k hk).imp id (fun h=>by simp at h;omega);clear hk1 hO1 e1 o3 o4;go_wp2_with fail;go_end0;exact⟨rfl,O1,hI1,hO,hk⟩
theorem jR{P:Program}{f:FuncId}{fn:Func}(hf:P.funcs[f]? = some fn)(hn:(fn.name == "runtime.NumGoroutine")=false)(hb:fn.body.isNone=false):
 ∀args w,(callFunc f args).run P w=.ok (.enter f args) w:=fun args w=>by
 have h1:fn.name ≠ "runtime.NumGoroutine" := by simpa using hn
 have h2:fn.body≠none:=fun h=>by rw[h]at hb;cases hb
 simp[callFunc,hf,h1,h2]
mutual
def bN:Ex->Nat
 | .mk _ _ _ l=>bH l+1
def bH:List Ex->Nat
 | []=>0
 | a::r=>bN a+bH r
end
def ke(n:Int)(_:Ex):Int×Bool:=(wrap64 (n+1),true)
def JN(b:Nat)(O:Nat->Prop)(n:Int)(w:World):Prop:=(∀k,O k↔k=b)/\One b 3 (.int .i64 n) w
theorem uO(w0:World)(b:Nat)(hb:w0.heap.size≤b):Visits Tryz.prog w0 225 #[.pointer (some ⟨b,0,none⟩)] ke (JN b) (fun _=>True) where
 sub:=fun _ _ _=>trivial
 stays:=fun h hs=>⟨h.1,by unfold One;rw[hs b ((h.1 b).2 rfl)];exact h.2⟩
 lt:=fun h k hk=>by have:=(h.1 k).1 hk;subst this;exact⟨hb,h.2.lt⟩
 call:=by
  intro O s w e v _ h0 hI hv;obtain⟨p,cp,rfl,hl,h1,h2,-,-,-⟩:=iK hv;have c0:=hI.2.cell;have f0:=hI.2.frozen;have l0:=hI.2.lt;have HI:=Lib.hid hI;clear hI;clear hv hl;go_enter Tryz.func225,Tryz.ntmps225;go_wp2_with fail;go_ret;exact⟨rfl,O,⟨HI.out.1,(HI.out.2.set _).alloc _⟩,fun k hk=>.inl hk,((Keep.refl O w).setCell (.inl ((HI.out.1 b).2 rfl)) _).alloc _⟩
theorem qm(a b:Int):wrap64 (wrap64 a+b)=wrap64 (a+b):=by unfold wrap64;omega
theorem zR(a:Int)(h1 : -9223372036854775808≤a)(h2:a≤9223372036854775807):wrap64 a=a:=by unfold wrap64;omega
theorem Ah(e:Ex):∀n,(fX ke e n)=(wrap64 (n+bN e),true):=by
 induction e using Ex.ind with
 | h o m s l ih=>
  intro n
  suffices H:∀(r:List Ex),(∀a,a∈r->a∈l)->∀n,gJ ke r (wrap64 n)=(wrap64 (n+bH r),true)by
   simp only[fX,ke,if_true,bN];rw[H l (fun _ h=>h)];congr 2;omega
  intro r
  induction r with
  | nil=>intro _ n;simp[gJ,bH]
  | cons a r ihr=>
   intro hm n;simp only[gJ,ih a (hm a (by simp)),if_true,bH];rw[qm,ihr (fun x hx=>hm x (by simp[hx]))];congr 2;omega
theorem DI(e:Ex)(w:World)(v:Value)(hv:jh w e v):
 Calls Tryz.prog 184 #[v] w fun en w'=>en=.returned (.int .i64 (wrap64 (bN e)))/\Ext w w':=by
 obtain⟨p,cp,rfl,hl,h1,h2,-,-,-⟩:=iK hv;have HV:=Lib.hid hv;clear hv;clear hl
 have hW:=uu (σ:=Int) (Q:=fun _=>True) (F:=225) (next:=ke) (jR Tryz.func225 (by kernel_rfl) (by kernel_rfl)) (uO (w.alloc (.cells #[.int .i64 e.op,.int .i64 e.num,.string e.name,.slice p e.args.length cp] 50)) (w.heap.size+1) (by simp)) e
  (fun k=>k=w.heap.size+1) 0 ((w.alloc (.cells #[.int .i64 e.op,.int .i64 e.num,.string e.name,.slice p e.args.length cp] 50)).alloc (.cells #[.int .i64 0] 3)) _ trivial ((Ext.refl _).alloc _) (HV.out.ext ((Ext.refl w).alloc _)) ⟨fun k=>Iff.rfl,by simpa using One.new (w.alloc (.cells #[.int .i64 e.op,.int .i64 e.num,.string e.name,.slice p e.args.length cp] 50)) 3 (.int .i64 0)⟩
 rw[Ah]at hW;have HW:=Lib.hid hW;clear hW;go_enter Tryz.func184,Tryz.ntmps184;go_wp2_with fail;refine HW.out.mono ?_;rintro en w1 ⟨rfl,O1,hI1,hO1,hk1⟩;have c0:=hI1.2.cell
 have hx:Ext w w1:=by
  have h:=hk1.ext (w0:=w) (((Ext.refl w).alloc _).alloc _) (fun x hx=>by omega);exact h
 clear hI1 hO1 hk1;go_wp2_with fail;go_ret;exact⟨dY (by simp),hx⟩
mutual
def gO:Ex->Int
 | .mk o m s l=>if bB o m s l.length=0 then ld l else bB o m s l.length
def ld:List Ex->Int
 | []=>0
 | a::r=>if gO a=0 then ld r else gO a
end
def lY(_:Int)(e:Ex):Int×Bool:=(xz e,xz e==0)
theorem B4(e:Ex):∀n,fX lY e n=(gO e,gO e==0):=by
 induction e using Ex.ind with
 | h o m s l ih=>
  intro n
  have H:∀(r:List Ex),(∀a,a∈r->a∈l)->gJ lY r 0=(ld r,ld r==0):=by
   intro r
   induction r with
   | nil=>intro _;simp[gJ,ld]
   | cons a r ihr=>
    intro hm;simp only[gJ,ih a (hm a (by simp)),ld];by_cases h:gO a=0
    .rw[h];simp only[BEq.rfl,if_true];exact ihr (fun x hx=>hm x (by simp[hx]))
    .simp[h]
  simp only[fX,lY,gO,xz,Ex.op,Ex.num,Ex.name,Ex.args];by_cases h:bB o m s l.length=0
  .simp[h,H l (fun _ h=>h)]
  .simp[h]
def Ha(b:Nat)(O:Nat->Prop)(n:Int)(w:World):Prop:=(∀k,O k↔k=b)/\One b 24 (.int .i64 n) w
theorem sC(w0:World)(b:Nat)(hb:w0.heap.size≤b)(hk:mG w0):Visits Tryz.prog w0 181 #[.pointer (some ⟨b,0,none⟩)] lY (Ha b) (fun _=>True) where
 sub:=fun _ _ _=>trivial
 stays:=fun h hs=>⟨h.1,by unfold One;rw[hs b ((h.1 b).2 rfl)];exact h.2⟩
 lt:=fun h k hk=>by have:=(h.1 k).1 hk;subst this;exact⟨hb,h.2.lt⟩
 call:=by
  intro O s w e v _ h0 hI hv;obtain⟨p,cp,rfl,hl,h1,h2,-,-,h3⟩:=iK hv;have c0:=hI.2.cell;have l0:=hI.2.lt;have HI:=Lib.hid hI;clear hI;have HK:=Lib.hid (hk.ext h0);clear hk;have hlen:e.args.length≤9223372036854775807:=by omega
  have hn:=fun w hk=>Ek e.op e.num e.name p e.args.length cp w hlen h3 hk;change ∀w hk,Calls _ _ _ _ (iQ (xz e) w)at hn;have HN:=Lib.hid hn;clear hn;clear hv hl;go_enter Tryz.func181,Tryz.ntmps181;go_wp2_with fail;refine(HN.out _ (HK.out.ext ((Ext.refl w).alloc _))).mono ?_;rintro en w1 ⟨rfl,hx⟩;have o1:=(One.keep (Keep.of_ext (O:=fun _=>False) hx.past) id HI.out.2)
  have c1:=o1.cell;have f1:=o1.frozen;have HX:=Lib.hid hx.past;clear hx;have O1:=Lib.hid o1;clear o1;clear c0;go_wp2_with fail;go_ret;exact⟨rfl,O,⟨HI.out.1,O1.out.set _⟩,fun k hk=>.inl hk,(Keep.of_ext HX.out).setCell (.inl ((HI.out.1 b).2 rfl)) _⟩
def bU(e:Ex):Int:=if gO e=0/\(24<dS e\/400<bN e)then 2 else gO e
theorem zW(e:Ex)(w:World)(v:Value)(hv:jh w e v)(hk:mG w)(hd:dS e≤1200000)(hs:bN e≤1200000):
 Calls Tryz.prog 129 #[v] w fun en w'=>en=.returned (.int .i64 (bU e))/\Ext w w':=by
 have hq:bU e=if gO e=0/\(24<dS e\/400<bN e)then 2 else gO e:=rfl
 generalize bU e=R at *;have HQ:=Lib.hid hq;clear hq;obtain⟨p,cp,rfl,hl,h1,h2,-,-,-⟩:=iK hv;have HV:=Lib.hid hv;clear hv;clear hl
 have hW:=uu (σ:=Int) (Q:=fun _=>True) (F:=181) (next:=lY) (jR Tryz.func181 (by kernel_rfl) (by kernel_rfl)) (sC (w.alloc (.cells #[.int .i64 e.op,.int .i64 e.num,.string e.name,.slice p e.args.length cp] 50)) (w.heap.size+1) (by simp) (hk.ext ((Ext.refl w).alloc _))) e
  (fun k=>k=w.heap.size+1) 0 ((w.alloc (.cells #[.int .i64 e.op,.int .i64 e.num,.string e.name,.slice p e.args.length cp] 50)).alloc (.cells #[.int .i64 0] 24)) _ trivial ((Ext.refl _).alloc _) (HV.out.ext ((Ext.refl w).alloc _)) ⟨fun k=>Iff.rfl,by simpa using One.new (w.alloc (.cells #[.int .i64 e.op,.int .i64 e.num,.string e.name,.slice p e.args.length cp] 50)) 24 (.int .i64 0)⟩
 rw[B4]at hW;have HW:=Lib.hid hW;clear hW;have hsz:wrap64 (bN e:Int)=(bN e:Int):=zR _ (by omega) (by omega);have hS:=fun w hv=>DI e w (.agg #[.int .i64 e.op,.int .i64 e.num,.string e.name,.slice p e.args.length cp]) hv;rw[hsz]at hS;have HS:=Lib.hid hS;clear hS hsz;have hD:=fun w hv=>Aw e (.agg #[.int .i64 e.op,.int .i64 e.num,.string e.name,.slice p e.args.length cp]) w hd hv;have HD:=Lib.hid hD;clear hD;have hd0:(0:Int)≤dS e:=by omega
 generalize gO e=er at *;go_enter Tryz.func129,Tryz.ntmps129;go_wp2_with fail;refine HW.out.mono ?_;rintro en w1 ⟨rfl,O1,hI1,hO1,hk1⟩;have c0:=hI1.2.cell;have hx:Ext w w1:=hk1.ext (w0:=w) (((Ext.refl w).alloc _).alloc _) (fun x hx=>by omega);have b0:∀q:Nat,q=w.heap.size->¬(q=w.heap.size+1):=fun q h=>by omega
 have d0:w1.cell? ⟨w.heap.size,0,none⟩=some (.int .i64 e.op):=hk1.cell (by simp) (by simp[World.cell?_alloc_new]);have d1:w1.cell? ⟨w.heap.size,1,none⟩=some (.int .i64 e.num):=hk1.cell (by simp) (by simp[World.cell?_alloc_new]);have d2:w1.cell? ⟨w.heap.size,2,none⟩=some (.string e.name):=hk1.cell (by simp) (by simp[World.cell?_alloc_new]);have d3:w1.cell? ⟨w.heap.size,3,none⟩=some (.slice p e.args.length cp):=hk1.cell (by simp) (by simp[World.cell?_alloc_new]);have HX:=Lib.hid hx;clear hx;clear hI1 hO1 hk1 b0;go_wp2_with (first|(go_at_call 183;refine(HD.out _ (HV.out.ext HX.out)).mono ?_;rintro e w' ⟨rfl,hy⟩;have q0:=hy.cell c0;have q1:=hy.cell d0;have q2:=hy.cell d1;have q3:=hy.cell d2;have q4:=hy.cell d3)|(go_at_call 184;refine(HS.out _ (HV.out.ext (HX.out.trans hy))).mono ?_;rintro e w' ⟨rfl,hz⟩;have q5:=hz.cell q0));all_goals go_ret
 all_goals (go_light;refine⟨dY ?_,(by first|exact(HX.out.trans hy).trans hz|exact HX.out.trans hy|exact HX.out)⟩;rw[HQ.out];first|(rw[if_pos (by omega)];done)|(rw[if_neg (by omega)];done)|(rw[if_neg (by omega)];omega))
theorem Tryz.infoS:(Tryz.prog.info? 9).map (fun i=>(i.zero,i.size,i.bytes))=some (some (.string ⟨#[]⟩),1,16):=by kernel_rfl
def rR(l:List ByteArray)(w:World)(e:Ending)(w':World):Prop:=
 ∃v,e=.returned v/\w'.ownsRow 0 9 1 v l.length (l.map Value.string)/\(∀k,v.ownBlock=some k->w.heap.size≤k)/\Ext w w'
def St5(b:Nat)(v0 v1 v2 v3 v4:Value)(w:World):Prop:=w.heap[b]? = some (.cells #[v0,v1,v2,v3,v4] 227 (0,0))
section
variable {b : Nat} {v0 v1 v2 v3 v4 : Value} {w : World} (h : St5 b v0 v1 v2 v3 v4 w)
include h
end
structure See where
 nodes:Int
 deep:Int
 first:Int
 vars:List ByteArray
 arrs:List ByteArray
structure SeeIn(b:Nat)(N:List ByteArray)(O:Nat->Prop)(x:See)(w:World)(va vr:Value):Prop where
 own:∀k,O k↔(k=b\/va.ownBlock=some k\/vr.ownBlock=some k)
 st:St5 b (.int .i64 x.nodes) (.int .i64 x.deep) (.int .i64 x.first) va vr w
 rowA:w.ownsRow 0 9 1 va x.vars.length (x.vars.map Value.string)
 rowR:w.ownsRow 0 9 1 vr x.arrs.length (x.arrs.map Value.string)
 neA:∀k,va.ownBlock=some k->b<k
 neR:∀k,vr.ownBlock=some k->b<k
 apart:∀k,va.ownBlock=some k->vr.ownBlock≠some k
 nodA:x.vars.Nodup
 subA:∀s,s∈x.vars->s∈N
 nodR:x.arrs.Nodup
 subR:∀s,s∈x.arrs->s∈N
section
variable {b : Nat} {N : List ByteArray} {O : Nat -> Prop} {x : See} {w : World} {va vr : Value} (h : SeeIn b N O x w va vr)
include h
end
end Go.Proofs.YtnhphlmblenapaaGreatDoor
namespace Go.Proofs.YtnhphlmblenapaaGreatDoor
open Go.RowKit
end Go.Proofs.YtnhphlmblenapaaGreatDoor
