import Derived.Deep.DeepCutAuto
import Derived.Deep.RegionLaw
import Derived.Test.YtnhphlmblenapaaGreatDoorNames2
set_option linter.unusedVariables false
set_option linter.unusedSimpArgs false
set_option linter.unusedSectionVars false
set_option maxRecDepth 100000
set_option maxHeartbeats 2000000
open Array renaming getElem?_modify->TJ
open List renaming drop_eq_getElem_cons->TK,mem_cons->TL
open Nat renaming le_trans->TM,lt_of_lt_of_le->TN,le_of_lt->TO,zero_le->TP
namespace Go.Proofs.YtnhphlmblenapaaGreatDoor
open Go.RowKit
theorem qu(l:List ByteArray)(s:ByteArray)(v:Value)(w:World)(hv:dq w l v):
 Calls Tryz.prog 295 #[v,.string s] w fun e w'=>e=.returned (.bool (inB s l))/\w=w':=by
 have hv':=hv;obtain⟨p,cap,rfl,h1,h2,h3⟩:=hv';have H3:=Lib.hid h3;clear h3;have HV:=Lib.hid hv;clear hv;go_enter Tryz.func295,Tryz.ntmps295;go_wp2_with fail;go_loop [5] (fun i=>∃j:Nat,i=.int .i64 j/\j≤l.length/\(s∈l.drop j↔s∈l)) (fun i=>l.length-(intOf i).toNat);case atStart=>exact⟨0,rfl,TP _,by simp⟩
 case round=>
  obtain⟨j,rfl,hj,hrec⟩:=hrel;have HR:=Lib.hid hrec;clear hrec;by_cases hlt:j<l.length
  .obtain⟨b,off,rfl,hc⟩:=uG HV.out hlt;by_cases he:l[j]=s
   .have he':((l[j]).toList==s.toList)=true:=by rw[oR];simpa using he
    have HE:=Lib.hid he;clear he;go_wp2_with fail;go_ret;exact⟨aV (by rw[<-HE.out];exact(qb.2 (List.getElem_mem _)).symm),rfl⟩
   .have he':((l[j]).toList==s.toList)=false:=by rw[oR];simpa using he
    have HE:=Lib.hid he;clear he;go_wp2_with fail;go_round;case rel=>exact⟨j+1,by go_num,by omega,by rw[<-HR.out,TK hlt,TL];exact⟨.inr,fun h=>h.resolve_left fun e=>HE.out e.symm⟩⟩
    case measure=>simp[intOf];omega
  .have:j=l.length:=by omega
   subst this;have hn:s∉l:=fun h=>by have:=HR.out.2 h;simp at this
   have HN:=Lib.hid hn;clear hn;go_wp2_with fail;go_ret;exact⟨aV (p0.2 HN.out).symm,rfl⟩
def St5(b:Nat)(v0 v1 v2 v3 v4:Value)(w:World):Prop:=w.heap[b]? = some (.cells #[v0,v1,v2,v3,v4] 227 (0,0))
section
variable {b : Nat} {v0 v1 v2 v3 v4 : Value} {w : World} (h : St5 b v0 v1 v2 v3 v4 w)
include h
theorem St5.cells:w.cell? ⟨b,0,none⟩=some v0/\w.cell? ⟨b,1,none⟩=some v1/\w.cell? ⟨b,2,none⟩=some v2/\w.cell? ⟨b,3,none⟩=some v3/\w.cell? ⟨b,4,none⟩=some v4:=by
 unfold St5 at h;simp[World.cell?,h]
theorem St5.frozen:w.frozen? ⟨b,0,none⟩=false/\w.frozen? ⟨b,1,none⟩=false/\w.frozen? ⟨b,2,none⟩=false/\w.frozen? ⟨b,3,none⟩=false/\w.frozen? ⟨b,4,none⟩=false:=by
 unfold St5 at h;simp[World.frozen?,h]
theorem St5.lt:b<w.heap.size:=(Array.getElem?_eq_some_iff.1 h).1
theorem St5.keep{O:Nat->Prop}{w':World}(hk:Keep O w w')(hn:¬O b):St5 b v0 v1 v2 v3 v4 w':=hk.heap hn h
theorem St5.set0(u:Value):St5 b u v1 v2 v3 v4 (w.setCell ⟨b,0,none⟩ u):=by
 unfold St5 at h ⊢;simp[World.setCell,TJ,h]
theorem St5.set1(u:Value):St5 b v0 u v2 v3 v4 (w.setCell ⟨b,1,none⟩ u):=by
 unfold St5 at h ⊢;simp[World.setCell,TJ,h]
theorem St5.set2(u:Value):St5 b v0 v1 u v3 v4 (w.setCell ⟨b,2,none⟩ u):=by
 unfold St5 at h ⊢;simp[World.setCell,TJ,h]
theorem St5.set3(u:Value):St5 b v0 v1 v2 u v4 (w.setCell ⟨b,3,none⟩ u):=by
 unfold St5 at h ⊢;simp[World.setCell,TJ,h]
theorem St5.set4(u:Value):St5 b v0 v1 v2 v3 u (w.setCell ⟨b,4,none⟩ u):=by
 unfold St5 at h ⊢;simp[World.setCell,TJ,h]
end
structure See where
 nodes:Int
 deep:Int
 first:Int
 vars:List ByteArray
 arrs:List ByteArray
structure SeeIn(b:Nat)(N:List ByteArray)(O:Nat->Prop)(x:See)(w:World)(va vr:Value):Prop where
 own:∀k,O k↔(k=b\/va.ownBlock=some k\/vr.ownBlock=some k)
 st:St5 b (.int .i64 x.nodes) (.int .i64 x.deep) (.int .i64 x.first) va vr w
 rowA:w.ownsRow 0 9 1 va x.vars.length (x.vars.map Value.string)
 rowR:w.ownsRow 0 9 1 vr x.arrs.length (x.arrs.map Value.string)
 neA:∀k,va.ownBlock=some k->b<k
 neR:∀k,vr.ownBlock=some k->b<k
 apart:∀k,va.ownBlock=some k->vr.ownBlock≠some k
 nodA:x.vars.Nodup
 subA:∀s,s∈x.vars->s∈N
 nodR:x.arrs.Nodup
 subR:∀s,s∈x.arrs->s∈N
def Iy(b:Nat)(N:List ByteArray)(O:Nat->Prop)(x:See)(w:World):Prop:=∃va vr,SeeIn b N O x w va vr
def sc(b:Nat)(N:List ByteArray)(O:Nat->Prop)(x:See)(w w':World):Prop:=∃O',Iy b N O' x w'/\(∀k,O' k->O k\/w.heap.size≤k)/\Keep O w w'
theorem sc.trans{b:Nat}{N:List ByteArray}{O:Nat->Prop}{x y:See}{w w1 w2:World}{O1:Nat->Prop}(_h:Iy b N O1 x w1)(ho:∀k,O1 k->O k\/w.heap.size≤k)(hk:Keep O w w1):
 sc b N O1 y w1 w2->sc b N O y w w2
 | ⟨O2,h2,ho2,hk2⟩=>⟨O2,h2,fun k h=>(ho2 k h).elim (ho k) (fun h=>.inr (TM hk.size h)),hk.trans hk2 ho⟩
theorem v7{w w':World}{O:Nat->Prop}(hk:Keep O w w'){T:TypeId}{v:Value}{n:Nat}{xs:List Value}(h:w.ownsRow 0 T 1 v n xs)(hn:∀k,v.ownBlock=some k->¬O k):w'.ownsRow 0 T 1 v n xs:=by
 refine⟨h.1,h.2.imp id ?_⟩;rintro⟨g,cap,cur,rfl,hb,hh,hr⟩;exact⟨g,cap,cur,rfl,hb,hk.heap (hn g rfl) hh,hr⟩
section
variable {b : Nat} {N : List ByteArray} {O : Nat -> Prop} {x : See} {w : World} {va vr : Value} (h : SeeIn b N O x w va vr)
include h
theorem SeeIn.ob:O b:=(h.own b).2 (.inl rfl)
theorem SeeIn.ge{k:Nat}(hk:O k):b≤k:=by
 rcases(h.own k).1 hk with rfl|hk|hk
 .exact Nat.le_refl _
 .exact TO (h.neA k hk)
 .exact TO (h.neR k hk)
theorem SeeIn.lt{k:Nat}(hk:O k):k<w.heap.size:=by
 rcases(h.own k).1 hk with rfl|hk|hk
 .exact h.st.lt
 .exact(h.rowA.lt k hk).2
 .exact(h.rowR.lt k hk).2
theorem SeeIn.stays{w':World}(hs:∀k,O k->w'.heap[k]? = w.heap[k]?):SeeIn b N O x w' va vr:=by
 have hr:∀{v:Value} {n:Nat} {xs:List Value},w.ownsRow 0 9 1 v n xs->(∀k,v.ownBlock=some k->O k)->w'.ownsRow 0 9 1 v n xs:=by
  intro v n xs h1 h2;refine⟨h1.1,h1.2.imp id ?_⟩;rintro⟨g,cap,cur,rfl,hb,hh,hr⟩;exact⟨g,cap,cur,rfl,hb,by rw[hs g (h2 g rfl)];exact hh,hr⟩
 exact⟨h.own,by unfold St5;rw[hs b h.ob];exact h.st,hr h.rowA (fun k hk=>(h.own k).2 (.inr (.inl hk))),hr h.rowR (fun k hk=>(h.own k).2 (.inr (.inr hk))),h.neA,h.neR,h.apart,h.nodA,h.subA,h.nodR,h.subR⟩
theorem SeeIn.alloc(o:Obj):SeeIn b N O x (w.alloc o) va vr:=h.stays fun k hk=>Below.heap_alloc _ _ _ (h.lt hk)
theorem SeeIn.put{x':See}{w':World}(hst:St5 b (.int .i64 x'.nodes) (.int .i64 x'.deep) (.int .i64 x'.first) va vr w')(hb:∀k,k≠b->w'.heap[k]? = w.heap[k]?)(h1:x'.vars=x.vars)(h2:x'.arrs=x.arrs):SeeIn b N O x' w' va vr:=by
 have hr:∀{v:Value} {n:Nat} {xs:List Value},w.ownsRow 0 9 1 v n xs->(∀k,v.ownBlock=some k->b<k)->w'.ownsRow 0 9 1 v n xs:=by
  intro v n xs h1 h2;refine⟨h1.1,h1.2.imp id ?_⟩;rintro⟨g,cap,cur,rfl,hb',hh,hr⟩;exact⟨g,cap,cur,rfl,hb',by rw[hb g (by have:=h2 g rfl;omega)];exact hh,hr⟩
 refine⟨h.own,hst,?_,?_,h.neA,h.neR,h.apart,?_,?_,?_,?_⟩
 .rw[h1];exact hr h.rowA h.neA
 .rw[h2];exact hr h.rowR h.neR
 .rw[h1];exact h.nodA
 .rw[h1];exact h.subA
 .rw[h2];exact h.nodR
 .rw[h2];exact h.subR
end
theorem pS{w:World}{b:Nat}{i:Nat}{T:TypeId}{v:Value}{n:Nat}{xs:List Value}(h:w.ownsRow 0 T 1 v n xs)(hn:∀k,v.ownBlock=some k->k≠b)(u:Value):(w.setCell ⟨b,i,none⟩ u).ownsRow 0 T 1 v n xs:=
 ownsRow_setCell_other h (fun e=>hn b e rfl) u
theorem SeeIn.afterA{b:Nat}{N:List ByteArray}{O:Nat->Prop}{x:See}{w:World}{va vr:Value}(h:SeeIn b N O x w va vr){n:Nat}{xs:List Value}{w1 w2:World}{g cap:Nat}
 (h1:Ext w w1)(hg:Grew w1 9 1 va n xs g cap w2):w2.cell? ⟨b,3,none⟩=some va/\w2.frozen? ⟨b,3,none⟩=false:=by
 have hk:Keep (fun k=>va.ownBlock=some k) w w2:=(Keep.of_ext h1).grown hg.grown (fun k hk=>.inl hk);have hst:=h.st.keep hk (fun e=>by have:=h.neA b e;omega);exact⟨hst.cells.2.2.2.1,hst.frozen.2.2.2.1⟩
theorem SeeIn.afterR{b:Nat}{N:List ByteArray}{O:Nat->Prop}{x:See}{w:World}{va vr:Value}(h:SeeIn b N O x w va vr){n:Nat}{xs:List Value}{w1 w2:World}{g cap:Nat}
 (h1:Ext w w1)(hg:Grew w1 9 1 vr n xs g cap w2):w2.cell? ⟨b,4,none⟩=some vr/\w2.frozen? ⟨b,4,none⟩=false:=by
 have hk:Keep (fun k=>vr.ownBlock=some k) w w2:=(Keep.of_ext h1).grown hg.grown (fun k hk=>.inl hk);have hst:=h.st.keep hk (fun e=>by have:=h.neR b e;omega);exact⟨hst.cells.2.2.2.2,hst.frozen.2.2.2.2⟩
theorem SeeIn.grewA{b:Nat}{N:List ByteArray}{O:Nat->Prop}{x:See}{w:World}{va vr:Value}(h:SeeIn b N O x w va vr){s:ByteArray}{w1 w2:World}{g cap:Nat}
 (h1:Ext w w1)(hg:Grew w1 9 1 va (x.vars.length+1) (x.vars.map Value.string++[.string s]) g cap w2)(hs:s∉x.vars)(hN:s∈N):
 sc b N O {x with vars:=x.vars++[s]} w (w2.setCell ⟨b,3,none⟩ (.slice (some ⟨g,0,none⟩) (x.vars.length+1) cap)):=by
 have hnew:va.ownBlock=some g\/w.heap.size≤g:=hg.new.imp id (fun h=>TM h1.size h);have hk:Keep (fun k=>va.ownBlock=some k) w w2:=(Keep.of_ext h1).grown hg.grown (fun k hk=>.inl hk);have hgb:b<g:=hnew.elim (h.neA g) (fun hh=>TN h.st.lt hh);have hst:St5 b (.int .i64 x.nodes) (.int .i64 x.deep) (.int .i64 x.first) va vr w2:=h.st.keep hk (fun e=>by have:=h.neA b e;omega);have hgr:∀k,vr.ownBlock=some k->g≠k:=fun k hk e=>hnew.elim (fun hh=>h.apart g hh (e▸hk)) (fun hh=>by have:=(h.rowR.lt k hk).2;omega);refine⟨fun k=>k=b\/k=g\/vr.ownBlock=some k,⟨.slice (some ⟨g,0,none⟩) (x.vars.length+1) cap,vr,?_⟩,?_,?_⟩
 .refine⟨fun k=>by simp[Value.ownBlock,eq_comm],hst.set3 _,?_,?_,fun k hk=>?_,h.neR,fun k hk=>?_,?_,?_,h.nodR,h.subR⟩
  .have:=pS hg.row (b:=b) (i:=3) (fun k hk e=>by simp[Value.ownBlock]at hk;omega) (.slice (some ⟨g,0,none⟩) (x.vars.length+1) cap);simpa using this
  .exact pS (v7 hk h.rowR (fun k hk hx=>h.apart k hx hk)) (fun k hk e=>by have:=h.neR k hk;omega) _
  .simp[Value.ownBlock]at hk;omega
  .simp only[Value.ownBlock,Option.some.injEq]at hk;subst hk;exact fun e=>hgr _ e rfl
  .exact List.nodup_append.2 ⟨h.nodA,by simp,fun a ha b' hb=>by simp at hb;subst hb;exact fun e=>hs (e▸ha)⟩
  .intro y hy;rcases List.mem_append.1 hy with hh|hh
   .exact h.subA y hh
   .simp at hh;subst hh;exact hN
 .intro k hk;rcases hk with rfl|rfl|hk
  .exact .inl h.ob
  .exact hnew.imp (fun e=>(h.own _).2 (.inr (.inl e))) id
  .exact .inl ((h.own k).2 (.inr (.inr hk)))
 .exact(hk.mono fun k hk=>(h.own k).2 (.inr (.inl hk))).setCell (.inl h.ob) _
theorem SeeIn.grewR{b:Nat}{N:List ByteArray}{O:Nat->Prop}{x:See}{w:World}{va vr:Value}(h:SeeIn b N O x w va vr){s:ByteArray}{w1 w2:World}{g cap:Nat}
 (h1:Ext w w1)(hg:Grew w1 9 1 vr (x.arrs.length+1) (x.arrs.map Value.string++[.string s]) g cap w2)(hs:s∉x.arrs)(hN:s∈N):
 sc b N O {x with arrs:=x.arrs++[s]} w (w2.setCell ⟨b,4,none⟩ (.slice (some ⟨g,0,none⟩) (x.arrs.length+1) cap)):=by
 have hnew:vr.ownBlock=some g\/w.heap.size≤g:=hg.new.imp id (fun h=>TM h1.size h);have hk:Keep (fun k=>vr.ownBlock=some k) w w2:=(Keep.of_ext h1).grown hg.grown (fun k hk=>.inl hk);have hgb:b<g:=hnew.elim (h.neR g) (fun hh=>TN h.st.lt hh);have hst:St5 b (.int .i64 x.nodes) (.int .i64 x.deep) (.int .i64 x.first) va vr w2:=h.st.keep hk (fun e=>by have:=h.neR b e;omega);have hgr:∀k,va.ownBlock=some k->g≠k:=fun k hk e=>hnew.elim (fun hh=>h.apart k hk (e▸hh)) (fun hh=>by have:=(h.rowA.lt k hk).2;omega);refine⟨fun k=>k=b\/va.ownBlock=some k\/k=g,⟨va,.slice (some ⟨g,0,none⟩) (x.arrs.length+1) cap,?_⟩,?_,?_⟩
 .refine⟨fun k=>by simp[Value.ownBlock,eq_comm],hst.set4 _,?_,?_,h.neA,fun k hk=>?_,fun k hk=>?_,h.nodA,h.subA,?_,?_⟩
  .exact pS (v7 hk h.rowA (fun k hk hx=>h.apart k hk hx)) (fun k hk e=>by have:=h.neA k hk;omega) _
  .have:=pS hg.row (b:=b) (i:=4) (fun k hk e=>by simp[Value.ownBlock]at hk;omega) (.slice (some ⟨g,0,none⟩) (x.arrs.length+1) cap);simpa using this
  .simp[Value.ownBlock]at hk;omega
  .simp only[Value.ownBlock,ne_eq,Option.some.injEq];exact hgr k hk
  .exact List.nodup_append.2 ⟨h.nodR,by simp,fun a ha b' hb=>by simp at hb;subst hb;exact fun e=>hs (e▸ha)⟩
  .intro y hy;rcases List.mem_append.1 hy with hh|hh
   .exact h.subR y hh
   .simp at hh;subst hh;exact hN
 .intro k hk;rcases hk with rfl|hk|rfl
  .exact .inl h.ob
  .exact .inl ((h.own k).2 (.inr (.inl hk)))
  .exact hnew.imp (fun e=>(h.own _).2 (.inr (.inr e))) id
 .exact(hk.mono fun k hk=>(h.own k).2 (.inr (.inr hk))).setCell (.inl h.ob) _
def uu(x:See)(d:Int)(e:Ex):See:=
 {nodes:=wrap64 (x.nodes+1),deep:=if x.deep<d then d else x.deep,first:=if x.first=0 then th e else x.first,
  vars:=gK [2] x.vars e.op e.name,arrs:=gK [3,24] x.arrs e.op e.name}
mutual
def oZ(d:Int):Ex->See->See
 | .mk o n s l,x=>kg (d+1) l (uu x d (.mk o n s l))
def kg(d:Int):List Ex->See->See
 | [],x=>x
 | a::r,x=>kg d r (oZ d a x)
end
end Go.Proofs.YtnhphlmblenapaaGreatDoor
namespace Go.Proofs.YtnhphlmblenapaaGreatDoor
open Go.RowKit
theorem nY{P:Program}{ops:Array Oper}{o:Oper}{a:Act}{w:World}{K:Act->World->Prop}{Q:Exit->Act->World->Prop}{E:Prop}
 (hg:o.guard=none)(s x:Operand)(t:TypeId)(hop:o.op=Op.call {callee:=Callee.builtin Builtin.append,args := #[s,x],argTypes := #[t,t]})
 (e:TypeId)(i:TypeInfo)(z:Value)(size bytes:Nat)(h1:P.underlying t=some (.slice e))(h2:P.info? e=some i)(h3:i.zero=some z)(h4:i.size=size)(h5:i.bytes=bytes)(h6:z.cells.size=size)(h7:0<size)
 (v:Value)(n:Nat)(xs:List Value)(hs:a.eval s=v)(hown:w.ownsRow 0 e size v n xs)
 (ad:Addr)(m c:Nat)(news:List Value)(hx:a.eval x=.slice (some ad) m c)(hn:news.length=m*size)(hc:∀j u,news[j]? = some u->w.cell? (ad.add j)=some u)(h1c:∀u∈news,u.oneCell'=true)
 (b1:n+m≤maxLen)(b2:(n+m)*bytes≤140737488355328)(hm:0<m)
 (hK:∀g cap w',Grew w e size v (n+m) (xs++news) g cap w'->K (a.put o.dst (.slice (some ⟨g,0,none⟩) (n+m) cap)) w'):
 if Region.wanted o (yielded ops a.tmps)=true then Oper.wp P o a w K Q else E:=by
 have hw:Region.wanted o (yielded ops a.tmps)=true:=by simp[Region.wanted,hg]
 rw[if_pos hw];obtain⟨v',w',hr,r2,r3,g,cap,rfl,r5⟩:=vV (P:=P) w t o.type e i z size bytes h1 h2 h3 h4 h5 h6 h7 v n xs hown ad m c news hn hc h1c b1 b2 hm;unfold Oper.wp execOp;simp only[hop,resolve,invoke,builtin,Sem.run_bind,Sem.run_pure,Result.andThen_ok,List.map_toArray,List.map_cons,List.map_nil,hs,hx,hr];exact hK g cap w' ⟨r2,r3,r5⟩
theorem IY(w0:World)(b:Nat)(hb:w0.heap.size≤b)(N:List ByteArray)(hN:N.length≤1200000):
 ∀(e:Ex) (O:Nat->Prop) (x:See) (d:Int) (w:World) (v:Value),(∀s,s∈rl e->s∈N)->0≤d->d+b8 e≤1200000->Ext w0 w->iD w0 e v->Iy b N O x w->
  Calls Tryz.prog 265 #[.pointer (some ⟨b,0,none⟩),v,.int .i64 d] w fun en w'=>en=.returned (.tuple #[])/\sc b N O (oZ d e x) w w':=by
 intro e
 induction e using Ex.ind with
 | h o m nm l ih=>
  intro O x d w v hq hd0 hd h0 hv hI;have IH:=Lib.hid ih;clear ih;obtain⟨p,cp,rfl,hl,h1,h2,-,-,h3⟩:=gB hv;simp only[Ex.op,Ex.num,Ex.name,Ex.args]at *;have hd1:d+1≤1200000:=by simp only[b8]at hd;omega
  have HD:=Lib.hid hd;clear hd;have HV:=Lib.hid hv;clear hv;have HL:=Lib.hid hl;clear hl;have HQ:=Lib.hid hq;clear hq;have H0:=Lib.hid h0;clear h0;obtain⟨va,vr,hS⟩:=hI;have hS1:=hS.alloc (.cells #[.int .i64 o,.int .i64 m,.string nm,.slice p l.length cp] 50);have hbx:¬O w.heap.size:=fun hx=>by have:=hS.lt hx;omega
  have hOw:∀k,O k->b≤k:=fun k hk=>hS.ge hk;have e0:(w.alloc (.cells #[.int .i64 o,.int .i64 m,.string nm,.slice p l.length cp] 50)).cell? ⟨w.heap.size,0,none⟩=some (.int .i64 o):=by simp[World.cell?_alloc_new]
  have e1:(w.alloc (.cells #[.int .i64 o,.int .i64 m,.string nm,.slice p l.length cp] 50)).cell? ⟨w.heap.size,1,none⟩=some (.int .i64 m):=by simp[World.cell?_alloc_new]
  have e2:(w.alloc (.cells #[.int .i64 o,.int .i64 m,.string nm,.slice p l.length cp] 50)).cell? ⟨w.heap.size,2,none⟩=some (.string nm):=by simp[World.cell?_alloc_new]
  have e3:(w.alloc (.cells #[.int .i64 o,.int .i64 m,.string nm,.slice p l.length cp] 50)).cell? ⟨w.heap.size,3,none⟩=some (.slice p l.length cp):=by simp[World.cell?_alloc_new]
  have hk0:Keep O w (w.alloc (.cells #[.int .i64 o,.int .i64 m,.string nm,.slice p l.length cp] 50)):=Keep.of_ext ((Ext.refl w).alloc _);have hl0:=hS.st.lt;clear hS;go_enter Tryz.func265,Tryz.ntmps265;go_upto_region 1 with fail
  generalize hW:w.alloc (.cells #[.int .i64 o,.int .i64 m,.string nm,.slice p l.length cp] 50)=W at *;have HW:=Lib.hid hW;clear hW;have hlW:w.heap.size<W.heap.size:=by rw[<-HW.out];simp
  have HK0:=Lib.hid hk0;clear hk0;have HBX:=Lib.hid hbx;clear hbx;have HOW:=Lib.hid hOw;clear hOw;have HS1:=Lib.hid hS1;clear hS1;have E0:=Lib.hid e0;clear e0;have E1:=Lib.hid e1;clear e1;have E2:=Lib.hid e2;clear e2;have E3:=Lib.hid e3;clear e3;have st:=HS1.out.st;obtain⟨s0,s1,s2,s3,s4⟩:=st.cells;obtain⟨f0,f1,f2,f3,f4⟩:=st.frozen;have ST:=Lib.hid st;clear st;obtain⟨x1,hx1⟩:∃x1:See,x1={x with nodes:=wrap64 (x.nodes+1),deep:=if x.deep<d then d else x.deep}:=⟨_,rfl⟩
  have HX1:=Lib.hid hx1;clear hx1;go_upto_if 20 with fail
  go_cut [] (fun wx=>SeeIn b N O x1 wx va vr/\Keep O W wx)
  case first=>
   go_wp2_with fail;all_goals go_meet
   .rename_i hlt;rw[HX1.out];refine⟨HS1.out.put (by simp only[hlt,if_true];exact(ST.out.set0 _).set1 _) (fun k hk=>?_) rfl rfl,((Keep.refl O W).setCell (.inl HS1.out.ob) _).setCell (.inl HS1.out.ob) _⟩;rw[Below.heap_setCell _ _ _ _ hk,Below.heap_setCell _ _ _ _ hk]
   .rename_i hlt;rw[HX1.out];refine⟨HS1.out.put (by simp only[if_neg (Int.not_lt.2 hlt)];exact ST.out.set0 _) (fun k hk=>?_) rfl rfl,(Keep.refl O W).setCell (.inl HS1.out.ob) _⟩;rw[Below.heap_setCell _ _ _ _ hk]
  case rest=>
   obtain⟨hS2,hk2⟩:=hcut;clear s0 s1 s2 s3 s4 f0 f1 f2 f3 f4;have st:=hS2.st;obtain⟨s0,s1,s2,s3,s4⟩:=st.cells;obtain⟨f0,f1,f2,f3,f4⟩:=st.frozen;have lt2:=st.lt;have b0:=hk2.cell HBX.out E0.out;have b1:=hk2.cell HBX.out E1.out;have b2:=hk2.cell HBX.out E2.out;have b3:=hk2.cell HBX.out E3.out;have ST2:=Lib.hid st;clear st;have HS2:=Lib.hid hS2;clear hS2;have HK2:=Lib.hid hk2;clear hk2;obtain⟨x2,hx2⟩:∃x2:See,x2={x1 with first:=if x1.first=0 then aO o m nm l.length else x1.first}:=⟨_,rfl⟩
   have HX2:=Lib.hid hx2;clear hx2;go_upto_if 29 with fail
   go_cut [] (fun wx=>SeeIn b N O x2 wx va vr/\Keep O W wx)
   case first=>
    by_cases hf:x1.first=0
    .have hf':(x1.first==0)=true:=by simpa using hf
     have HF:=Lib.hid hf;clear hf;go_wp2_with (go_at_call 294;refine(CA o m nm p l.length cp _ (by omega) (by omega)).mono ?_;rintro e w' ⟨rfl,hx⟩;have n2:=(ST2.out.keep (Keep.of_ext (O:=fun _=>False) hx) id).cells.2.2.1;have g2:=(ST2.out.keep (Keep.of_ext (O:=fun _=>False) hx) id).frozen.2.2.1);go_meet;have hs3:SeeIn b N O x1 w' va vr:=HS2.out.stays fun k hk=>hx.block k (HS2.out.lt hk);rw[HX2.out];refine⟨hs3.put (by simp only[HF.out,if_true];exact hs3.st.set2 _) (fun k hk=>?_) rfl rfl,(HK2.out.trans (Keep.of_ext (O:=O) hx) (fun k hk=>.inl hk)).setCell (.inl hs3.ob) _⟩;rw[Below.heap_setCell _ _ _ _ hk]
    .have hf':(x1.first==0)=false:=by simpa using hf
     have HF:=Lib.hid hf;clear hf;go_wp2_with fail;go_meet;have:x2=x1:=by rw[HX2.out,if_neg HF.out]
     rw[this];exact⟨HS2.out,HK2.out⟩
   case rest=>
    obtain⟨hS3,hk3⟩:=hcut;clear s0 s1 s2 s3 s4 f0 f1 f2 f3 f4 b0 b1 b2 b3 lt2;have st:=hS3.st;obtain⟨s0,s1,s2,s3,s4⟩:=st.cells;obtain⟨f0,f1,f2,f3,f4⟩:=st.frozen;have lt2:=st.lt;have b0:=hk3.cell HBX.out E0.out;have b1:=hk3.cell HBX.out E1.out;have b2:=hk3.cell HBX.out E2.out;have b3:=hk3.cell HBX.out E3.out;have ST3:=Lib.hid st;clear st;have HS3:=Lib.hid hS3;clear hS3;have HK3:=Lib.hid hk3;clear hk3;go_wp2_with fail;go_cut [47] (fun s47 wx=>∃(tb:Bool) (n:Nat),s47=.bool tb/\Hid (tb=(decide (o=2) && !inB nm x2.vars))/\wx=wc.drewN n)
    case first=>
     by_cases ho:o=2
     .have ho':(o==2)=true:=by simpa using ho
      have HO:=Lib.hid ho;clear ho;go_quiet ((go_at_call 295;exact kR (qu x2.vars nm va _ (nS (HS3.out.rowA.drewN _)))));go_wp2_with fail;go_meet;exact⟨_,_,rfl,Lib.hid (by rw[decide_eq_true HO.out];rfl),rfl⟩
     .have ho':(o==2)=false:=by simpa using ho
      have HO:=Lib.hid ho;clear ho;go_quiet (fail);go_wp2_with fail;go_meet;exact⟨_,_,rfl,Lib.hid (by rw[decide_eq_false HO.out];rfl),rfl⟩
    case rest=>
     obtain⟨tb,n3,rfl,HTB,rfl⟩:=hcut;have hS4:=HS3.out.stays (w':=wc.drewN n3) (fun k hk=>rfl);have hk4:=HK3.out.drewN n3;have HS4:=Lib.hid hS4;clear hS4;have HK4:=Lib.hid hk4;clear hk4;obtain⟨x3,hx3⟩:∃x3:See,x3={x2 with vars:=gK [2] x2.vars o nm}:=⟨_,rfl⟩
     have HX3:=Lib.hid hx3;clear hx3;have hNm:nm∈N:=HQ.out nm (by simp[rl]);have HNM:=Lib.hid hNm;clear hNm;obtain⟨i0,hi,hz0,hz1,hz2⟩:=info_parts Tryz.infoS;go_upto_if 47 with fail
     go_cut [] (fun wx=>sc b N O x3 W wx)
     case first=>
      cases tb with
      | true=>
       have ho:o=2/\inB nm x2.vars=false:=by have:=HTB.out;simpa using this.symm
       have HO:=Lib.hid ho;clear ho;have hlen:x2.vars.length≤1200000:=TM (rE HS4.out.nodA HS4.out.subA) hN;go_wp2_with fail;have hx3':x3={x2 with vars:=x2.vars++[nm]}:=by rw[HX3.out,gK,if_pos ⟨by simp[HO.out.1],HO.out.2⟩]
       have HX3':=Lib.hid hx3';clear hx3';have hA1:∀ob,((wc.drewN (n3+1)).alloc ob).cell? ⟨b,3,none⟩=some va:=fun ob=>(((Ext.refl wc).drewN (n3+1)).alloc ob).cell s3;have hA2:∀ob,((wc.drewN (n3+1)).alloc ob).cell? ⟨w.heap.size,2,none⟩=some (.string nm):=fun ob=>(((Ext.refl wc).drewN (n3+1)).alloc ob).cell b2;go_region_law (refine nY rfl (.tmp 52) (.tmp 55) 52 rfl 9 i0 (.string ⟨#[]⟩) 1 16 Tryz.underlying52 hi hz0 hz1 hz2 rfl (by decide) va x2.vars.length (x2.vars.map Value.string) (by simp[Act.eval,Act.put]) (((HS4.out.rowA).drewN 1).alloc _) ⟨wc.heap.size,0,none⟩ 1 1 [.string nm] (by simp[Act.eval,Act.put]) rfl (cell_one_new _ _ _) (by simp[Value.oneCell']) (by unfold maxLen;omega) (by omega) (by decide) ?_;intro g cap1 w2 hgr;obtain⟨z1,z2⟩:=HS4.out.afterA (((Ext.refl _).drewN 1).alloc _) hgr;have HGR:=Lib.hid hgr;clear hgr)
       all_goals (go_wp2_with fail;go_meet;rw[HX3'.out];exact sc.trans ⟨va,vr,HS4.out⟩ (fun k hk=>.inl hk) HK4.out (HS4.out.grewA (((Ext.refl _).drewN 1).alloc _) HGR.out (p0.1 HO.out.2) HNM.out))
      | false=>
       have ho:¬(o=2/\inB nm x2.vars=false):=fun h=>by have:=HTB.out;simp[h.1,h.2]at this
       have HO:=Lib.hid ho;clear ho;go_wp2_with fail;go_meet;have:x3=x2:=by rw[HX3.out,gK,if_neg (fun h=>HO.out ⟨by simpa using h.1,h.2⟩)]
       rw[this];exact⟨O,⟨va,vr,HS4.out⟩,fun k hk=>.inl hk,HK4.out⟩
     case rest=>
      obtain⟨O4,⟨va4,vr4,hS5⟩,hO4,hk5⟩:=hcut;have hbx4:¬O4 w.heap.size:=fun hx=>(hO4 _ hx).elim HBX.out (fun h=>by omega);clear s0 s1 s2 s3 s4 f0 f1 f2 f3 f4 b0 b1 b2 b3 lt2;have st:=hS5.st;obtain⟨s0,s1,s2,s3,s4⟩:=st.cells;obtain⟨f0,f1,f2,f3,f4⟩:=st.frozen;have lt2:=st.lt;have b0:=hk5.cell HBX.out E0.out;have b1:=hk5.cell HBX.out E1.out;have b2:=hk5.cell HBX.out E2.out;have b3:=hk5.cell HBX.out E3.out;clear st;have HS5:=Lib.hid hS5;clear hS5;have HK5:=Lib.hid hk5;clear hk5;have HO4:=Lib.hid hO4;clear hO4;have HBX4:=Lib.hid hbx4;clear hbx4;go_wp2_with fail;go_cut [76] (fun s76 wx=>∃(tb:Bool) (n:Nat),s76=.bool tb/\Hid (tb=((decide (o=3)||decide (o=24)) && !inB nm x3.arrs))/\wx=wc.drewN n)
      case first=>
       by_cases ho:o=3
       .have ho':(o==3)=true:=by simpa using ho
        have HO:=Lib.hid ho;clear ho;go_quiet ((go_at_call 295;exact kR (qu x3.arrs nm vr4 _ (nS (HS5.out.rowR.drewN _)))));go_wp2_with fail;go_meet;exact⟨_,_,rfl,Lib.hid (by rw[decide_eq_true HO.out];rfl),rfl⟩
       .have ho':(o==3)=false:=by simpa using ho
        have HO:=Lib.hid ho;clear ho;by_cases ho2:o=24
        .have ho2':(o==24)=true:=by simpa using ho2
         have HO2:=Lib.hid ho2;clear ho2;go_quiet ((go_at_call 295;exact kR (qu x3.arrs nm vr4 _ (nS (HS5.out.rowR.drewN _)))));go_wp2_with fail;go_meet;exact⟨_,_,rfl,Lib.hid (by rw[decide_eq_false HO.out,decide_eq_true HO2.out];rfl),rfl⟩
        .have ho2':(o==24)=false:=by simpa using ho2
         have HO2:=Lib.hid ho2;clear ho2;go_quiet (fail);go_wp2_with fail;go_meet;exact⟨_,_,rfl,Lib.hid (by rw[decide_eq_false HO.out,decide_eq_false HO2.out];rfl),rfl⟩
      case rest=>
       obtain⟨tb,n5,rfl,HTB,rfl⟩:=hcut;have hS6:=HS5.out.stays (w':=wc.drewN n5) (fun k hk=>rfl);have hk6:=HK5.out.drewN n5;have HS6:=Lib.hid hS6;clear hS6;have HK6:=Lib.hid hk6;clear hk6;obtain⟨x4,hx4⟩:∃x4:See,x4={x3 with arrs:=gK [3,24] x3.arrs o nm}:=⟨_,rfl⟩
       have HX4:=Lib.hid hx4;clear hx4;go_upto_if 76 with fail
       go_cut [] (fun wx=>sc b N O x4 W wx)
       case first=>
        cases tb with
        | true=>
         have ho:(o=3\/o=24)/\inB nm x3.arrs=false:=by have:=HTB.out;simpa using this.symm
         have HO:=Lib.hid ho;clear ho;have hlen:x3.arrs.length≤1200000:=TM (rE HS6.out.nodR HS6.out.subR) hN;have hx4':x4={x3 with arrs:=x3.arrs++[nm]}:=by rw[HX4.out,gK,if_pos ⟨by simpa using HO.out.1,HO.out.2⟩]
         have HX4':=Lib.hid hx4';clear hx4';go_wp2_with fail;have hA1:∀ob,((wc.drewN (n5+1)).alloc ob).cell? ⟨b,4,none⟩=some vr4:=fun ob=>(((Ext.refl wc).drewN (n5+1)).alloc ob).cell s4;have hA2:∀ob,((wc.drewN (n5+1)).alloc ob).cell? ⟨w.heap.size,2,none⟩=some (.string nm):=fun ob=>(((Ext.refl wc).drewN (n5+1)).alloc ob).cell b2;go_region_law (refine nY rfl (.tmp 81) (.tmp 84) 52 rfl 9 i0 (.string ⟨#[]⟩) 1 16 Tryz.underlying52 hi hz0 hz1 hz2 rfl (by decide) vr4 x3.arrs.length (x3.arrs.map Value.string) (by simp[Act.eval,Act.put]) (((HS6.out.rowR).drewN 1).alloc _) ⟨wc.heap.size,0,none⟩ 1 1 [.string nm] (by simp[Act.eval,Act.put]) rfl (cell_one_new _ _ _) (by simp[Value.oneCell']) (by unfold maxLen;omega) (by omega) (by decide) ?_;intro g cap1 w2 hgr;obtain⟨z1,z2⟩:=HS6.out.afterR (((Ext.refl _).drewN 1).alloc _) hgr;have HGR:=Lib.hid hgr;clear hgr)
         all_goals (go_wp2_with fail;go_meet;rw[HX4'.out];exact sc.trans ⟨va4,vr4,HS6.out⟩ HO4.out HK6.out (HS6.out.grewR (((Ext.refl _).drewN 1).alloc _) HGR.out (p0.1 HO.out.2) HNM.out))
        | false=>
         have ho:¬((o=3\/o=24)/\inB nm x3.arrs=false):=fun h=>by have:=HTB.out;rcases h with⟨h|h,h2⟩<;>simp[h,h2]at this
         have HO:=Lib.hid ho;clear ho;go_wp2_with fail;go_meet;have:x4=x3:=by rw[HX4.out,gK,if_neg (fun h=>HO.out ⟨by simpa using h.1,h.2⟩)]
         rw[this];exact⟨O4,⟨va4,vr4,HS6.out⟩,HO4.out,HK6.out⟩
       case rest=>
        have hxs:x4=uu x d (.mk o m nm l):=by
         rw[HX4.out,HX3.out,HX2.out,HX1.out];rfl
        have HXS:=Lib.hid hxs;clear hxs;obtain⟨O5,hI5,hO5,hk7⟩:=hcut;clear s0 s1 s2 s3 s4 f0 f1 f2 f3 f4 b0 b1 b2 b3 lt2 hi hz0 hz1 hz2;have HI5:=Lib.hid hI5;clear hI5;have HO5:=Lib.hid hO5;clear hO5;have HK7:=Lib.hid hk7;clear hk7
        have hdl:∀a,a∈l->(d+1)+b8 a≤1200000:=fun a ha=>by
         have:=HD.out;simp only[b8]at this;have:=pd ha;omega
        have HDL:=Lib.hid hdl;clear hdl;have hal:∀a,a∈l->∀s,s∈rl a->s∈N:=fun a ha s hs=>HQ.out s (by simp only[rl,TL];exact .inr (GN ha hs));have HAL:=Lib.hid hal;clear hal;have hwo:∀k,O k->w0.heap.size≤k:=fun k hk=>TM hb (HOW.out k hk);have HWO:=Lib.hid hwo;clear hwo;have h0W:Ext w0 W:=by rw[<-HW.out];exact H0.out.alloc _
        have H0W:=Lib.hid h0W;clear h0W;go_wp2_with fail;go_loopw [6] (fun i wr=>∃(j:Nat) (O2:Nat->Prop) (y:See),i=.int .i64 j/\j≤l.length/\Iy b N O2 y wr/\(∀k,O2 k->O k\/W.heap.size≤k)/\Keep O W wr/\kg (d+1) (l.drop j) y=kg (d+1) l x4) (fun i _=>l.length-(intOf i).toNat);case atStart=>exact⟨0,O5,x4,rfl,TP _,HI5.out,HO5.out,HK7.out,rfl⟩
        case round=>
         obtain⟨j,O2,y,rfl,hj,hI2,hO2,hk2,hrec⟩:=hrel;have q3:=hk2.cell HBX.out E3.out;have HR:=Lib.hid hrec;clear hrec;have h02:Ext w0 wr:=hk2.ext H0W.out HWO.out;have HI2:=Lib.hid hI2;clear hI2;have HO2:=Lib.hid hO2;clear hO2;have HK2:=Lib.hid hk2;clear hk2;by_cases hlt:j<l.length
         .obtain⟨bb,off,cs,rfl,hr,hc⟩:=x7 HL.out hlt;obtain⟨sv,gv,gl,g2,g3,g4,g5⟩:=zk hr hc;obtain⟨p',cp',rfl,-,-⟩:=lH gl;have r2:=h02.cell g2;have r3:=h02.cell g3;have r4:=h02.cell g4;have r5:=h02.cell g5;clear g2 g3 g4 g5 hr hc gl;have H02:=Lib.hid h02;clear h02;have GV:=Lib.hid gv;clear gv;go_wp2_with fail;refine(IH.out l[j] (by simp) O2 y (d+1) _ _ (HAL.out _ (by simp)) (by omega) (HDL.out _ (by simp)) H02.out GV.out HI2.out).mono ?_;rintro en w2 ⟨rfl,O3,hI3,hO3,hk3⟩;have hO3':∀k,O3 k->O k\/W.heap.size≤k:=fun k hk=>(hO3 k hk).elim (HO2.out k) (fun h=>.inr (TM HK2.out.size h));have hk3':Keep O W w2:=HK2.out.trans hk3 HO2.out;have HI3:=Lib.hid hI3;clear hI3;have HO3:=Lib.hid hO3';clear hO3';have HK3':=Lib.hid hk3';clear hk3';clear hO3 hk3;go_wp2_with fail;go_roundw
          case rel=>exact⟨j+1,O3,oZ (d+1) l[j] y,by go_num,by omega,HI3.out,HO3.out,HK3'.out,by rw[<-HR.out,TK hlt,kg]⟩
          case measure=>simp[intOf];omega
         .have:j=l.length:=by omega
          subst this;go_wp2_with fail;go_end0;have h9:=HR.out;simp only[List.drop_length,kg]at h9;refine⟨rfl,O2,?_,fun k hk=>(HO2.out k hk).imp id (fun h=>by omega),HK0.out.trans HK2.out (fun k hk=>.inl hk)⟩;rw[oZ,<-HXS.out,<-h9];exact HI2.out
def ii(e:Ex):See:=oZ 1 e ⟨0,0,0,[],[]⟩
def En(e:Ex)(w:World)(en:Ending)(w':World):Prop:=
 ∃b O va vr,en=.returned (.pointer (some ⟨b,0,none⟩))/\SeeIn b (rl e) O (ii e) w' va vr/\(∀k,O k->w.heap.size≤k)/\Ext w w'
theorem Ds(e:Ex)(w:World)(v:Value)(hv:iD w e v)(hs:bD e≤1200000)(hd:b8 e≤1199999):
 Calls Tryz.prog 234 #[v] w (En e w):=by
 obtain⟨p,cp,rfl,hl,h1,h2,-,-,-⟩:=gB hv
 have hS:SeeIn (w.heap.size+1) (rl e) (fun k=>k=w.heap.size+1) ⟨0,0,0,[],[]⟩ ((w.alloc (.cells #[.int .i64 e.op,.int .i64 e.num,.string e.name,.slice p e.args.length cp] 50)).alloc (.cells #[.int .i64 0,.int .i64 0,.int .i64 0,.slice none 0 0,.slice none 0 0] 227)) (.slice none 0 0) (.slice none 0 0):=by
  refine⟨fun k=>by simp[Value.ownBlock],?_,World.ownsRow_nil _ _ _ _,World.ownsRow_nil _ _ _ _,by simp[Value.ownBlock],by simp[Value.ownBlock],by simp[Value.ownBlock],by simp,by simp,by simp,by simp⟩;have:((w.alloc (.cells #[.int .i64 e.op,.int .i64 e.num,.string e.name,.slice p e.args.length cp] 50)).alloc (.cells #[.int .i64 0,.int .i64 0,.int .i64 0,.slice none 0 0,.slice none 0 0] 227)).heap[(w.alloc (.cells #[.int .i64 e.op,.int .i64 e.num,.string e.name,.slice p e.args.length cp] 50)).heap.size]? = some (.cells #[.int .i64 0,.int .i64 0,.int .i64 0,.slice none 0 0,.slice none 0 0] 227 (0,0)):=heap_alloc_new _ _;unfold St5;simpa only[World.size_alloc]using this
 have hw:=IY (w.alloc (.cells #[.int .i64 e.op,.int .i64 e.num,.string e.name,.slice p e.args.length cp] 50)) (w.heap.size+1) (by simp) (rl e) (by rw[FL];exact hs) e _ _ 1 _ _ (fun _ h=>h) (by omega) (by omega) ((Ext.refl _).alloc _) (hv.ext ((Ext.refl w).alloc _)) ⟨_,_,hS⟩;have HW:=Lib.hid hw;clear hw;clear hS hl hv;go_enter Tryz.func234,Tryz.ntmps234;go_wp2_with fail;refine HW.out.mono ?_;rintro en w1 ⟨rfl,O1,⟨va,vr,hI⟩,hO1,hk1⟩;have hx:Ext w w1:=hk1.ext (w0:=w) (((Ext.refl w).alloc _).alloc _) (fun x hx=>by omega);have HI:=Lib.hid hI;clear hI;have HO:=Lib.hid hO1;clear hO1;have HX:=Lib.hid hx;clear hx;clear hk1;go_wp2_with fail;go_ret;exact⟨_,O1,va,vr,rfl,HI.out,fun k hk=>(HO.out k hk).elim (fun h=>by omega) (fun h=>by simp at h;omega),HX.out⟩
def m7(e:Ex):Int:=if(ii e).first=0/\(24<(ii e).deep\/400<(ii e).nodes)then 2 else(ii e).first
theorem y4(e:Ex)(w:World)(v:Value)(hv:iD w e v)(hs:bD e≤1200000)(hd:b8 e≤1199999):
 Calls Tryz.prog 194 #[v] w fun en w'=>en=.returned (.int .i64 (m7 e))/\Ext w w':=by
 obtain⟨p,cp,rfl,hl,h1,h2,-,-,-⟩:=gB hv;have hw:=Ds e _ _ (hv.ext ((Ext.refl w).alloc (.cells #[.int .i64 e.op,.int .i64 e.num,.string e.name,.slice p e.args.length cp] 50))) hs hd;have HW:=Lib.hid hw;clear hw;clear hl hv;have hq:m7 e=if(ii e).first=0/\(24<(ii e).deep\/400<(ii e).nodes)then 2 else(ii e).first:=rfl
 unfold En at HW;generalize m7 e=R at *;generalize ii e=S at *;have HQ:=Lib.hid hq;clear hq;go_enter Tryz.func194,Tryz.ntmps194;go_wp2_with fail;refine HW.out.mono ?_;rintro en w1 ⟨b,O,va,vr,rfl,hI,-,hx⟩;obtain⟨c0,c1,c2,c3,c4⟩:=hI.st.cells;have HX:=Lib.hid hx.past;clear hx;clear hI;go_wp2_with fail;all_goals go_ret
 all_goals (go_light;refine⟨cu ?_,HX.out⟩;rw[HQ.out];(try simp only[beq_iff_eq,beq_eq_false_iff_ne,ne_eq]at *);first|(rw[if_pos (by omega)];done)|(rw[if_neg (by omega)];done)|(rw[if_neg (by omega)];omega))
end Go.Proofs.YtnhphlmblenapaaGreatDoor
