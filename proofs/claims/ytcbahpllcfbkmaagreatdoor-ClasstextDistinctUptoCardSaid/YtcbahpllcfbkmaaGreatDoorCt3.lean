import Derived.Test.YtcbahpllcfbkmaaGreatDoorCt6
set_option linter.unusedVariables false
set_option linter.unusedSimpArgs false
set_option linter.unusedSectionVars false
namespace Go.Proofs.YtcbahpllcfbkmaaGreatDoor
open Go.RowKit
theorem eJ(P:UInt8→Bool):∀{a a' q q':Bs},(∀c,c∈a→P c=true)→(∀c,c∈a'→P c=true)→(∀c r,q=c::r→P c=false)→(∀c r,q'=c::r→P c=false)→a++q=a'++q'→a=a'∧q=q'
 | [],[],_,_,_,_,_,_,h=>⟨rfl,h⟩
 | [],c::t,q,q',_,h2,h3,_,h=>by
  have:=h3 c (t++q') h;rw[h2 c (by simp)]at this;cases this
 | c::t,[],q,q',h1,_,_,h4,h=>by
  have:=h4 c (t++q) h.symm;rw[h1 c (by simp)]at this;cases this
 | c::t,c'::t',q,q',h1,h2,h3,h4,h=>by
  simp only[List.cons_append,List.cons.injEq]at h;obtain⟨e1,e2⟩:=eJ P (fun x hx=>h1 x (by simp[hx])) (fun x hx=>h2 x (by simp[hx])) h3 h4 h.2;exact⟨by rw[h.1,e1],e2⟩
def dgB(c:UInt8):Bool:=decide (48≤c.toNat)&&decide (c.toNat≤57)
theorem sC(u:Nat):∀c,c∈Lib.decDigits u→dgB c=true:=fun c hc=>by
 obtain⟨h1,h2⟩:=mA u c hc;unfold dgB;rw[decide_eq_true h1,decide_eq_true h2];rfl
def E9(l:Bs):Nat:=l.foldl (fun n c=>10*n+(c.toNat-48)) 0
theorem ui(u:Nat):E9 (Lib.decDigits u)=u:=by
 induction u using Nat.strongRecOn with
 | _ u ih=>
 rw[Lib.decDigits];have hd:∀k,k<10→(UInt8.ofNat (48+k)).toNat-48=k:=by decide
 split
 ·rename_i h;show 10*0+((UInt8.ofNat (48+u)).toNat-48)=u;rw[hd _ h];omega
 ·rename_i h;unfold E9 at ih ⊢;rw[List.foldl_append,ih _ (by omega)];show 10*(u/10)+((UInt8.ofNat (48+u%10)).toNat-48)=u;rw[hd _ (by omega)];omega
theorem ug{u v:Nat}(h:Lib.decDigits u=Lib.decDigits v):u=v:=by rw[←ui u,h,ui]
theorem mo{n:Int}(h:0≤n):b9 n=Lib.decDigits n.toNat:=by unfold b9 Lib.itoa;rw[if_neg (by omega)]
theorem kG{n m:Int}{q q':Bs}(hn:0≤n)(hm:0≤m)(h1:∀c r,q=c::r→dgB c=false)(h2:∀c r,q'=c::r→dgB c=false)(h:b9 n++q=b9 m++q'):n=m∧q=q':=by
 rw[mo hn,mo hm]at h;obtain⟨e1,e2⟩:=eJ dgB (sC _) (sC _) h1 h2 h;have:=ug e1;exact⟨by omega,e2⟩
theorem pN{P:UInt8→Bool}:∀c r,([]:Bs)=c::r→P c=false:=fun c r h=>by cases h
theorem a8{P:UInt8→Bool}{d:UInt8}{t:Bs}(h:P d=false):∀c r,d::t=c::r→P c=false:=fun c r e=>by cases e;exact h
theorem DA{w v:Wt}(hw:wtB w=true)(hv:wtB v=true)(h:wtT w=wtT v):w=v:=by
 unfold wtB at hw hv;simp only[Bool.and_eq_true,decide_eq_true_eq]at hw hv;cases w with
 | mk lo hi wt ea=>
 cases v with
 | mk lo' hi' wt' ea'=>
 simp only at hw hv;unfold wtT at h;simp only at h;have hB:∀(b:Bool) (q:Bs),(if b=true then[32,58,61,32]else[32,58,47,32])++q=32::58::(if b=true then 61 else 47)::32::q:=fun b q=>by cases b<;>rfl
 rw[hB,hB]at h
 have hA:∀(z z':Int) (q:Bs),∃t,(if z=z' then[]else[32,46,46,32]++b9 z)++32::q=32::t:=fun z z' q=>by
  split
  ·exact⟨q,rfl⟩
  ·exact⟨_,rfl⟩
 obtain⟨e1,e2⟩:=kG (by omega) (by omega) (by obtain⟨t,ht⟩:=hA hi lo (58::(if ea=true then 61 else 47)::32::b9 wt);rw[ht];exact a8 rfl) (by obtain⟨t,ht⟩:=hA hi' lo' (58::(if ea'=true then 61 else 47)::32::b9 wt');rw[ht];exact a8 rfl) h;subst e1
 have key:∀(q q':Bs),(32::58::(if ea=true then(61:UInt8)else 47)::32::b9 wt)=32::58::(if ea'=true then(61:UInt8)else 47)::32::b9 wt'→ea=ea'∧wt=wt':=fun _ _ h=>by
  simp only[List.cons.injEq,true_and]at h;refine⟨?_,?_⟩
  ·cases ea<;>cases ea'<;>first|rfl|(exact absurd h.1 (by decide))
  ·have:=h.2;rw[mo (by omega),mo (by omega)]at this;have:=ug this;omega
 by_cases c1:hi=lo
 ·rw[if_pos c1]at e2;by_cases c2:hi'=lo
  ·rw[if_pos c2]at e2;obtain⟨k1,k2⟩:=key [] [] e2;rw[c1,c2,k1,k2]
  ·rw[if_neg c2]at e2;simp at e2
 ·rw[if_neg c1]at e2;by_cases c2:hi'=lo
  ·rw[if_pos c2]at e2;simp at e2
  ·rw[if_neg c2]at e2;simp only[List.cons_append,List.nil_append,List.cons.injEq,true_and]at e2;obtain⟨k0,e3⟩:=kG (by omega) (by omega) (a8 rfl) (a8 rfl) e2;obtain⟨k1,k2⟩:=key [] [] e3;rw[k0,k1,k2]
theorem mf(P:UInt8→Bool){s0:UInt8}{st:Bs}(hs:P s0=false):∀{L L':List Bs} {q q':Bs},L≠[]→L'≠[]→(∀a,a∈L→∀c,c∈a→P c=true)→(∀a,a∈L'→∀c,c∈a→P c=true)→
 (∀c r,q=c::r→P c=false∧c≠s0)→(∀c r,q'=c::r→P c=false∧c≠s0)→cd (s0::st) L++q=cd (s0::st) L'++q'→L=L'∧q=q'
 | [],_,_,_,h,_,_,_,_,_,_=>absurd rfl h
 | _,[],_,_,_,h,_,_,_,_,_=>absurd rfl h
 | [a],[a'],q,q',_,_,h1,h2,h3,h4,h=>by
  obtain⟨e1,e2⟩:=eJ P (h1 a (by simp)) (h2 a' (by simp)) (fun c r e=>(h3 c r e).1) (fun c r e=>(h4 c r e).1) h;exact⟨by rw[e1],e2⟩
 | [a],a'::b'::r',q,q',_,_,h1,h2,h3,h4,h=>by
  have h':a++q=a'++(s0::(st++cd (s0::st) (b'::r')++q')):=by
   rw[show cd (s0::st) [a]=a from rfl,show cd (s0::st) (a'::b'::r')=a'++((s0::st)++cd (s0::st) (b'::r'))from rfl]at h;rw[h];simp
  obtain⟨e1,e2⟩:=eJ P (h1 a (by simp)) (h2 a' (by simp)) (fun c r e=>(h3 c r e).1) (a8 hs) h';exact absurd rfl (h3 _ _ e2).2
 | a::b::r,[a'],q,q',_,_,h1,h2,h3,h4,h=>by
  have h':a'++q'=a++(s0::(st++cd (s0::st) (b::r)++q)):=by
   rw[show cd (s0::st) [a']=a' from rfl,show cd (s0::st) (a::b::r)=a++((s0::st)++cd (s0::st) (b::r))from rfl]at h;rw[←h];simp
  obtain⟨e1,e2⟩:=eJ P (h2 a' (by simp)) (h1 a (by simp)) (fun c r e=>(h4 c r e).1) (a8 hs) h';exact absurd rfl (h4 _ _ e2).2
 | a::b::r,a'::b'::r',q,q',_,_,h1,h2,h3,h4,h=>by
  have h':a++(s0::(st++(cd (s0::st) (b::r)++q)))=a'++(s0::(st++(cd (s0::st) (b'::r')++q'))):=by
   rw[show cd (s0::st) (a::b::r)=a++((s0::st)++cd (s0::st) (b::r))from rfl,show cd (s0::st) (a'::b'::r')=a'++((s0::st)++cd (s0::st) (b'::r'))from rfl]at h;simpa using h
  obtain⟨e1,e2⟩:=eJ P (h1 a (by simp)) (h2 a' (by simp)) (a8 hs) (a8 hs) h';have e3:cd (s0::st) (b::r)++q=cd (s0::st) (b'::r')++q':=List.append_cancel_left (List.cons.inj e2).2;obtain⟨k1,k2⟩:=mf P hs (L:=b::r) (L':=b'::r') (by simp) (by simp) (fun x hx=>h1 x (by simp only[List.mem_cons]at hx ⊢;exact .inr hx)) (fun x hx=>h2 x (by simp only[List.mem_cons]at hx ⊢;exact .inr hx)) h3 h4 e3;exact⟨by rw[e1,k1],k2⟩
theorem vC(e:Ex):b8 e=0→∃w t,aF e=w++t∧(∀c,c∈w→wdB c=true)∧(∀c r,t=c::r→wdB c=false)∧(w=[]∨(∃s,aD s=true∧w=s.data.toList)∨∃u,w=Lib.decDigits u):=by
 induction e using Ex.ind with
 | h o n s l ih=>
 intro he;have hs:=rU he;generalize hE:Ex.mk o n s l=E at hs
 have dw:∀u c,c∈Lib.decDigits u→wdB c=true:=fun u c hc=>by
  obtain⟨h1,h2⟩:=mA u c hc;unfold wdB dK eR;rw[decide_eq_true (by omega),decide_eq_true (by omega)];simp
 have op:∀(k:Nat) (x:Ex) (d:UInt8) (q:Bs),wdB d=false→(∃w t,aF x=w++t∧(∀c,c∈w→wdB c=true)∧(∀c r,t=c::r→wdB c=false)∧(w=[]∨(∃s,aD s=true∧w=s.data.toList)∨∃u,w=Lib.decDigits u))→
  ∃w t,opS k x++d::q=w++t∧(∀c,c∈w→wdB c=true)∧(∀c r,t=c::r→wdB c=false)∧(w=[]∨(∃s,aD s=true∧w=s.data.toList)∨∃u,w=Lib.decDigits u):=by
  intro k x d q hd ⟨w,t,e1,e2,e3,e4⟩;unfold opS;split
  ·exact⟨[],40::_,rfl,fun c hc=>(by cases hc),a8 (by decide),.inl rfl⟩
  ·refine⟨w,t++d::q,by rw[e1,List.append_assoc],e2,?_,e4⟩;cases t with
   | nil=>exact a8 hd
   | cons c r=>exact a8 (e3 c r rfl)
 cases hs with
 | const n h0 h1=>rw[fF];exact⟨_,[],by rw[List.append_nil],dw _,pN,.inr (.inr ⟨_,rfl⟩)⟩
 | var s h=>
  cases hE;rw[iW];unfold aL at h;rw[Bool.or_eq_true]at h;split
  ·rename_i hel;obtain⟨g1,-⟩:=cv hel;exact⟨_,_,rfl,fg g1,a8 (by decide),.inr (.inl ⟨_,g1,rfl⟩)⟩
  ·rename_i hel;have g1:=h.resolve_left hel;exact⟨_,[],by rw[List.append_nil],fg g1,pN,.inr (.inl ⟨_,g1,rfl⟩)⟩
 | elem s x h hx=>cases hE;rw[gE];exact⟨_,_,rfl,fg h,a8 (by decide),.inr (.inl ⟨_,h,rfl⟩)⟩
 | pre o x h hx=>
  cases hE;rw[iG h];rcases h with rfl|rfl|rfl
  ·exact⟨[],33::_,rfl,fun c hc=>(by cases hc),a8 (by decide),.inl rfl⟩
  ·exact⟨[],126::_,rfl,fun c hc=>(by cases hc),a8 (by decide),.inl rfl⟩
  ·exact⟨[],45::_,rfl,fun c hc=>(by cases hc),a8 (by decide),.inl rfl⟩
 | bin o m k x y h hx hy=>cases hE;rw[jb h];exact op _ x _ _ (by decide) (ih x (by simp) hx)
 | ite x y z hx hy hz=>cases hE;rw[kB];exact op _ x 32 _ (by decide) (ih x (by simp) hx)
 | inside x l hx hl hev hne h32=>cases hE;rw[e8];exact op _ x 32 _ (by decide) (ih x (by simp) hx)
 | sum s h=>cases hE;rw[iR];exact⟨[115,117,109],40::_,rfl,by decide,a8 (by decide),.inr (.inl ⟨⟨#[115,117,109]⟩,by decide +kernel,rfl⟩)⟩
 | ones x hx=>cases hE;rw[gG];exact⟨[111,110,101,115],40::_,rfl,by decide,a8 (by decide),.inr (.inl ⟨⟨#[111,110,101,115]⟩,by decide +kernel,rfl⟩)⟩
theorem yA{e:Ex}(h:b8 e=0)(k:ByteArray)(hk:aD k=false)(hw:∀c,c∈k.data.toList→wdB c=true)(hd:∃c r,k.data.toList=c::r∧dgB c=false)(q r:Bs)(hq:∀c r,q=c::r→wdB c=false):aF e++q≠k.data.toList++32::r:=by
 intro he;obtain⟨w,t,e1,e2,e3,e4⟩:=vC e h;rw[e1,List.append_assoc]at he
 have h3:∀c r,t++q=c::r→wdB c=false:=by
  cases t with
  | nil=>exact hq
  | cons c r=>exact a8 (e3 c r rfl)
 obtain⟨g1,-⟩:=eJ wdB e2 hw h3 (a8 (by decide)) he;obtain⟨c,r',hc,hcd⟩:=hd;rcases e4 with rfl|⟨s,hs,rfl⟩|⟨u,rfl⟩
 ·rw[←g1]at hc;cases hc
 ·have:s=k:=ByteArray.ext (Array.ext' g1);rw[this,hk]at hs;cases hs
 ·have:=sC u c (by rw[g1,hc];simp);rw[hcd]at this;cases this
def eF(x:It):Bs:=
 if x.kind=1 then aF x.ex++[59]
 else if x.kind=2 then[115,111,102,116,32]++(aF x.ex++[59])
 else if x.kind=3 then[100,105,115,116,32]++(aG x.name++([32,123,32]++(gN x.ws++[32,125,59])))
 else if x.kind=4 then[105,102,32,40]++(aF x.ex++[41,32,123])
 else if x.kind=5 then[101,97,99,104,32]++(aG x.idx++([32,105,110,32]++(aG x.name++[32,123])))
 else[115,111,108,118,101,32]++(cd [44,32] (x.bef.map aG)++([32,98,101,102,111,114,101,32]++(cd [44,32] (x.aft.map aG)++[59])))
def qv(m:List It):List Ln:=if m.isEmpty=true then[]else(0,[125,32,101,108,115,101,32,123])::upL (lns m)
def gr(x:It):List Ln:=
 if x.kind=4 then upL (lns x.items)++(qv x.els++[(0,[125])])
 else if x.kind=5 then upL (lns x.items)++[(0,[125])]
 else[]
theorem me(x:It):eZ x=(0,eF x)::gr x:=by
 rw[ft];unfold eF gr qv;by_cases k1:x.kind=1
 ·simp[k1]
 ·by_cases k2:x.kind=2
  ·simp[k2]
  ·by_cases k3:x.kind=3
   ·simp[k3]
   ·by_cases k4:x.kind=4
    ·simp[k4]
    ·by_cases k5:x.kind=5
     ·simp[k5]
     ·simp[k1,k2,k3,k4,k5]
theorem gm{b:Bs}{c:UInt8}(r:Bs)(h:b=r++[c]):b.getLast? = some c:=by rw[h,List.getLast?_concat]
theorem nN(x:It):(eF x).getLast? = some (if x.kind=4∨x.kind=5 then 123 else 59):=by
 unfold eF;by_cases k1:x.kind=1
 ·rw[if_pos k1,if_neg (by omega)];exact gm _ rfl
 ·rw[if_neg k1];by_cases k2:x.kind=2
  ·rw[if_pos k2,if_neg (by omega)];exact gm ([115,111,102,116,32]++aF x.ex) (by simp)
  ·rw[if_neg k2];by_cases k3:x.kind=3
   ·rw[if_pos k3,if_neg (by omega)];exact gm ([100,105,115,116,32]++(aG x.name++([32,123,32]++(gN x.ws++[32,125])))) (by simp)
   ·rw[if_neg k3];by_cases k4:x.kind=4
    ·rw[if_pos k4,if_pos (.inl k4)];exact gm ([105,102,32,40]++(aF x.ex++[41,32])) (by simp)
    ·rw[if_neg k4];by_cases k5:x.kind=5
     ·rw[if_pos k5,if_pos (.inr k5)];exact gm ([101,97,99,104,32]++(aG x.idx++([32,105,110,32]++(aG x.name++[32])))) (by simp)
     ·rw[if_neg k5,if_neg (by omega)];exact gm ([115,111,108,118,101,32]++(cd [44,32] (x.bef.map aG)++([32,98,101,102,111,114,101,32]++cd [44,32] (x.aft.map aG)))) (by simp)
def vrB(c:UInt8):Bool:=decide (c≠32)&&decide (c≠44)&&decide (c≠59)
theorem pK{s:ByteArray}(h:aL s=true):∀c,c∈aG s→vrB c=true:=by
 have nm:∀{t:ByteArray},aD t=true→∀c,c∈t.data.toList→vrB c=true:=fun ht c hc=>by
  obtain⟨h1,h2,h3,-⟩:=rS (fg ht c hc);unfold vrB;rw[decide_eq_true h1,decide_eq_true h2,decide_eq_true h3];rfl
 unfold aL at h;rw[Bool.or_eq_true]at h;rcases h with h|h
 ·obtain⟨g1,g2,g3,g4⟩:=cv h;unfold aG;rw[←g4];intro c hc;unfold ib nW al at hc;simp only[ByteArray.data_append,Array.toList_append,List.mem_append]at hc;rcases hc with hc|hc|hc|hc
  ·exact nm g1 c hc
  ·simp at hc;subst hc;decide
  ·have:=mA _ c hc;unfold vrB;rw[decide_eq_true (by rintro rfl;revert this;decide),decide_eq_true (by rintro rfl;revert this;decide),decide_eq_true (by rintro rfl;revert this;decide)];rfl
  ·simp at hc;subst hc;decide
 ·exact nm h
theorem gf{s t:ByteArray}(h:aG s=aG t):s=t:=ByteArray.ext (Array.ext' h)
theorem rQ{l m:List ByteArray}(h:l.map aG=m.map aG):l=m:=(List.map_inj_right fun _ _ h=>gf h).1 h
theorem qq(n:Int):∀c,c∈b9 n→decide (c≠44)=true:=fun c hc=>by
 unfold b9 Lib.itoa at hc
 have hd:∀u,c∈Lib.decDigits u→decide (c≠44)=true:=fun u hc=>by
  have:=mA _ c hc;exact decide_eq_true (by rintro rfl;revert this;decide)
 split at hc
 ·rcases List.mem_cons.1 hc with rfl|hc
  ·decide
  ·exact hd _ hc
 ·exact hd _ hc
theorem AR(w:Wt):∀c,c∈wtT w→decide (c≠44)=true:=by
 intro c hc;unfold wtT at hc;rcases List.mem_append.1 hc with hc|hc
 ·exact qq _ c hc
 ·rcases List.mem_append.1 hc with hc|hc
  ·split at hc
   ·cases hc
   ·rcases List.mem_append.1 hc with hc|hc
    ·exact(by decide:∀c:UInt8,c∈([32,46,46,32]:Bs)→decide (c≠44)=true) c hc
    ·exact qq _ c hc
  ·rcases List.mem_append.1 hc with hc|hc
   ·split at hc
    ·exact(by decide:∀c:UInt8,c∈([32,58,61,32]:Bs)→decide (c≠44)=true) c hc
    ·exact(by decide:∀c:UInt8,c∈([32,58,47,32]:Bs)→decide (c≠44)=true) c hc
   ·exact qq _ c hc
theorem BV:∀{l m:List Wt},l≠[]→m≠[]→l.all wtB=true→m.all wtB=true→gN l=gN m→l=m:=by
 intro l m h1 h2 h3 h4 h;have e:cd [44,32] (l.map wtT)++[]=cd [44,32] (m.map wtT)++[]:=by rw[List.append_nil,List.append_nil];exact h
 obtain⟨e1,-⟩:=mf (fun c=>decide (c≠44)) (s0:=44) (by decide) (by simpa using h1) (by simpa using h2) (fun a ha=>by obtain⟨w,-,rfl⟩:=List.mem_map.1 ha;exact AR w) (fun a ha=>by obtain⟨w,-,rfl⟩:=List.mem_map.1 ha;exact AR w) (fun c r h=>by cases h) (fun c r h=>by cases h) e;clear h1 h2 h e
 induction l generalizing m with
 | nil=>cases m with|nil=>rfl|cons=>simp at e1
 | cons a r ih=>
  cases m with
  | nil=>simp at e1
  | cons b t=>
   simp only[List.map_cons,List.cons.injEq,List.all_cons,Bool.and_eq_true]at e1 h3 h4;rw[DA h3.1 h4.1 e1.1,ih h3.2 h4.2 e1.2]
structure HdEq(x y:It):Prop where
 kind:x.kind=y.kind
 ex:x.kind=1∨x.kind=2∨x.kind=4→x.ex=y.ex
 dist:x.kind=3→x.name=y.name∧x.ws=y.ws
 each:x.kind=5→x.idx=y.idx∧x.name=y.name
 solve:x.kind=6→x.bef=y.bef∧x.aft=y.aft
end Go.Proofs.YtcbahpllcfbkmaaGreatDoor
