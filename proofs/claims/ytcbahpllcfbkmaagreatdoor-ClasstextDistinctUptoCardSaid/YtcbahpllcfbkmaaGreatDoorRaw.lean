import Derived.Test.YtcbahpllcfbkmaaGreatDoorA20
set_option linter.unusedVariables false
set_option linter.unusedSimpArgs false
set_option linter.unusedSectionVars false
namespace Go.Proofs.YtcbahpllcfbkmaaGreatDoor
open Go.RowKit
theorem Inv.readd{M:av}{bm:List Nat}{σ:List (List V)}{tk:aY}{pr:Nat→Prop}{w:World}(h:Inv M bm σ tk pr w){b:Nat}{cs:List V}{vs:Array Value}{T:TypeId}(hb:w.heap[b]? = some (.cells vs T (0,0)))(hl:vs.size=cs.length)
 (hc:∀j (h:j<cs.length) (h':j<vs.size),Rep M bm cs[j] vs[j]∧vs[j].oneCell'=true∧∀T k rows,cs[j]≠.own T k rows)(hf:(∀o,M b o=none)∧¬pr b)(hn:b∉bm)(ht:∀i j g,tk i j=some g→g≠b):Inv M (bm++[b]) (σ++[cs]) tk pr w:=by
 have hpre:∀i c:Nat,bm[i]? = some c→(bm++[b])[i]? = some c:=kK ⟨_,rfl⟩;refine⟨h.facts,by simp[h.len],fun i c cs' hi hc'=>?_,fun c hcm=>?_,?_,fun i j g hg=>?_,h.inj,h.prlt⟩
 ·by_cases hlt:i<bm.length
  ·rw[List.getElem?_append_left hlt]at hi;rw[List.getElem?_append_left (by rw[←h.len];exact hlt)]at hc';rcases h.box i c cs' hi hc' with⟨vs',T',g1,g2,g3⟩|g1;case inr=>exact .inr (g1.mono (av.le.refl _) hpre rfl)
   exact .inl ⟨vs',T',g1,g2,fun j hj hj'=>⟨⟨(g3 j hj hj').1.rep.mono (av.le.refl _) hpre,(g3 j hj hj').1.own⟩,(g3 j hj hj').2⟩⟩
  ·rw[List.getElem?_append_right (by omega)]at hi;rw[List.getElem?_append_right (by rw[←h.len];omega)]at hc'
   have hi0:i-bm.length=0:=by
    have:=(List.getElem?_eq_some_iff.1 hi).1;simp at this;omega
   rw[←h.len]at hc';rw[hi0]at hi hc';simp at hi hc';subst hi;subst hc';exact .inl ⟨vs,T,hb,hl,fun j hj hj'=>⟨⟨(hc j hj hj').1.mono (av.le.refl _) hpre,fun T k rows hT=>absurd hT ((hc j hj hj').2.2 T k rows)⟩,(hc j hj hj').2.1⟩⟩
 ·rcases List.mem_append.1 hcm with hcm|hcm
  ·exact h.free c hcm
  ·simp at hcm;subst hcm;exact hf
 ·rw[List.nodup_append];exact⟨h.bmnd,by simp,fun a ha c hc=>by simp at hc;subst hc;exact fun e=>hn (e▸ha)⟩
 ·obtain⟨t1,t2,t3⟩:=h.tok i j g hg;refine⟨t1,fun hm=>?_,t3⟩;rcases List.mem_append.1 hm with hm|hm
  ·exact t2 hm
  ·simp at hm;exact ht i j g hg hm
theorem SRel.repick{M:av}{bm:List Nat}{tk:aY}{pr:Prot}{ρ ρ':am}{σ:List (List V)}{n:Nat}{a:Act}{w:World}(h:SRel M bm tk pr ρ σ n a w){k i:Nat}{cs:List V}(hb:aB k (σ.take k)=true)(hi:σ[i]? = some cs)(hk:k≤i)
 (hlit:∀v∈cs,∃d,v=.d d)(hnm:bR cs=true)(hs:∀t,(get ρ' t=get ρ t∧V.under k (get ρ t)=true)∨(get ρ t=.ptr i 0∧get ρ' t=.ptr k 0)∨get ρ' t=.junk):
 ∃b,SRel M (bm.take k++[b]) tk pr ρ' (σ.take k++[cs]) n a w:=by
 have hlen:=h.inv.len;have hil:i<σ.length:=(List.getElem?_eq_some_iff.1 hi).1;have hbi:bm[i]? = some (bm[i]'(by omega)):=List.getElem?_eq_getElem (by omega);generalize hbd:bm[i]'(by omega)=b at hbi;obtain⟨vs,T,h1,h2,h3⟩:=h.inv.cells hbi hi hnm;have hmem:b∈bm:=List.mem_of_getElem? hbi
 have hnot:b∉bm.take k:=fun hm=>by
  obtain⟨j,hj,e⟩:=List.getElem_of_mem hm;have hjk:j<k:=by simp at hj;omega
  rw[List.getElem_take]at e;have:j=i:=(List.getElem_inj (h₀:=by omega) (h₁:=by omega) h.inv.bmnd).1 (by rw[e,hbd]);omega
 have hdr:=h.inv.drop hb;refine⟨b,⟨hdr.readd h1 h2 (fun j g1 g2=>⟨?_,(h3 j g1 g2).2,fun T k rows e=>?_⟩) (h.inv.free b hmem) hnot (fun i j g hg e=>(h.inv.tok i j g hg).2.1 (e▸hmem)),h.defers,h.size,fun t=>?_⟩⟩
 ·obtain⟨d,hd⟩:=hlit cs[j] (List.getElem_mem g1);exact(h3 j g1 g2).1.rep.drop (by rw[hd];rfl)
 ·obtain⟨d,hd⟩:=hlit cs[j] (List.getElem_mem g1);rw[hd]at e;cases e
 ·have hl2:(bm.take k).length=k:=by rw[List.length_take];omega
  rcases hs t with⟨e1,e2⟩|⟨e1,e2⟩|e
  ·rw[e1];exact⟨((h.slots t).rep.drop e2).mono (av.le.refl _) (kK ⟨_,rfl⟩),(h.slots t).own⟩
  ·have hr:=(h.slots t).rep;rw[e1]at hr;rw[e2];generalize a.tmps.getD t undef=v at hr ⊢;cases hr with
   | ptr hb2=>
    rw[hbi]at hb2;cases hb2;exact⟨.ptr (by rw[List.getElem?_append_right (by omega),hl2];simp),fun T k rows e=>by cases e⟩
  ·rw[e];exact⟨.junk _,fun T k rows e=>by cases e⟩
abbrev F7:List V:=[.d (.lit (.bool false)),.d (.lit (.bool false)),.d (.lit (.bool false)),.d (.lit (.bool false)),.d (.lit (.bool false)),.d (.lit (.bool false)),.d (.lit (.bool false))]
abbrev sJ(f:FuncId)(T:TypeId):List O:=[⟨some 11,.call f [],none⟩,⟨some 12,.fa 0 (.t 2),none⟩,⟨some 13,.load 1 false (.t 12),none⟩,⟨some 14,.mlk false true (.agg F7) (.t 11) (.t 13),none⟩,⟨some 10,.mv (.t 14),none⟩,⟨some 15,.ext (.t 10) 0,none⟩,⟨some 16,.ext (.t 10) 1,none⟩,⟨some 5,.new T F7,none⟩,⟨none,.sto 7 (.t 5) (.t 15),none⟩,⟨some 6,.mv (.t 16),none⟩]
abbrev uI:List (List Nat):=[[],[],[1],[0,2],[3],[4],[4],[],[7,5,0,0,1,2,3,4,5,7],[6,8,0,1,2,3,4,5,6,7,8]]
def eE(ρ0:am)(bx:Nat)(kd:Int)(U:V)(kn:Bool)(S:Nat→Bool)(pm pu:Nat)(t:Nat):V:=
 if t=11 then(if S 0 then .mp pm else get ρ0 11)else if t=12 then(if S 1 then .ptr bx 0 else get ρ0 12)else if t=13 then(if S 2 then .d (.lit (.int .i64 kd))else get ρ0 13)else
 if t=14 then(if S 3 then .tup [U,aA kn]else get ρ0 14)else if t=10 then(if S 4 then .tup [U,aA kn]else get ρ0 10)else if t=15 then(if S 5 then U else get ρ0 15)else
 if t=16 then(if S 6 then aA kn else get ρ0 16)else if t=5 then(if S 7 then .ptr pu 0 else get ρ0 5)else if t=6 then(if S 9 then aA kn else get ρ0 6)else get ρ0 t
def yX(σ0:List (List V))(mb:List V)(fin:List V)(S:Nat→Bool)(pm pu:Nat)(σ:List (List V)):Prop:=
 (S 0=false∧S 7=false∧σ=σ0)∨(S 0=true∧S 7=false∧pm=σ0.length∧σ=σ0++[mb])∨(S 0=false∧S 7=true∧pu=σ0.length∧σ=σ0++[if S 8 then fin else F7])∨
 (S 0=true∧S 7=true∧pm=σ0.length∧pu=σ0.length+1∧σ=σ0++[mb,if S 8 then fin else F7])∨(S 0=true∧S 7=true∧pu=σ0.length∧pm=σ0.length+1∧σ=σ0++[if S 8 then fin else F7,mb])
def ma(ρ0:am)(σ0:List (List V))(bx:Nat)(kd:Int)(u:List Bool)(kn:Bool)(mb:List V)(S:Nat→Bool)(ρ:am)(σ:List (List V)):Prop:=
 ∃pm pu,yX σ0 mb (u.map aA) S pm pu σ∧∀t,get ρ t=eE ρ0 bx kd (.agg (u.map aA)) kn S pm pu t
theorem yx(ρ:am)(d t:Nat)(v:V):get (put ρ d v) t=if d=t then v else get ρ t:=by
 rw[bI];by_cases e:d=t
 ·subst e;simp
 ·rw[if_neg e,if_neg];exact fun h=>e h.symm
section
variable {C : Cx} {n0 : Nat}
theorem dq{ρ0 ρ:am}{σ0 σ':List (List V)}{bx pm pu pm' pu':Nat}{kd:Int}{u:List Bool}{kn:Bool}{mb:List V}{S:Nat→Bool}{i d:Nat}{v:V}(hS:yX σ0 mb (u.map aA) (fun j=>j==i||S j) pm' pu' σ')
 (hv:∀t,get ρ t=eE ρ0 bx kd (.agg (u.map aA)) kn S pm pu t)(h1:∀t,t≠d→eE ρ0 bx kd (.agg (u.map aA)) kn (fun j=>j==i||S j) pm' pu' t=eE ρ0 bx kd (.agg (u.map aA)) kn S pm pu t)
 (h2:eE ρ0 bx kd (.agg (u.map aA)) kn (fun j=>j==i||S j) pm' pu' d=v):ma ρ0 σ0 bx kd u kn mb (fun j=>j==i||S j) (put ρ d v) σ':=by
 refine⟨pm',pu',hS,fun t=>?_⟩;rw[yx];by_cases e:d=t
 ·subst e;rw[if_pos rfl,h2]
 ·rw[if_neg e,hv t,h1 t (Ne.symm e)]
set_option maxHeartbeats 2000000 in
theorem nh{f:FuncId}{T:TypeId}{ρ0:am}{σ0:List (List V)}{Q:dy}{bx:Nat}{kd:Int}{cs:List V}{u:List Bool}{kn:Bool}{kv:List (Key×V)}
 (hn0:n0≤σ0.length)(hf:∀σ,Fun C f [] σ fun o σ'=>o=.ret (.mp σ.length)∧σ'=σ++[[.mapc false kv]])
 (h2:get ρ0 2=.ptr bx 0)(hbx:σ0[bx]? = some (.d (.lit (.int .i64 kd))::cs))(hu:u.length=7)
 (hm:nO true (.agg F7) (gU (.i kd) kv)=.tup [.agg (u.map aA),aA kn])(hb:aB σ0.length σ0=true)(h3:V.under σ0.length (get ρ0 3)=true)
 (hq:Q .normal [(2,.ptr bx 0),(3,get ρ0 3),(5,.ptr σ0.length 0),(6,aA kn)] (σ0++[u.map aA])):
 tY C n0 (sJ f T) uI ρ0 σ0 Q:=by
 intro pr M0 bm0 w0 id ops n M bm tk a w hG hbm hok hes hl h;obtain⟨hlen,hget⟩:=jd hok;have hsz:ops.size=10:=by rw[←Array.length_toList,←hlen];rfl
 have hedge:∀(i:Nat) (o:Oper),ops.toList[i]? = some o→uI[i]? = some (aE o):=fun i o ho=>by rw[←hes,List.getElem?_map,ho];rfl
 have hbl:bx<σ0.length:=(List.getElem?_eq_some_iff.1 hbx).1
 have hin:∀S pm pu σ,yX σ0 [.mapc false kv] (u.map aA) S pm pu σ→σ[bx]? = some (.d (.lit (.int .i64 kd))::cs):=by
  intro S pm pu σ hS;rcases hS with⟨-,-,rfl⟩|⟨-,-,-,rfl⟩|⟨-,-,-,rfl⟩|⟨-,-,-,-,rfl⟩|⟨-,-,-,-,rfl⟩
  ·exact hbx
  all_goals rw[List.getElem?_append_left hbl];exact hbx
 have hwant:∀(p:O) (o':Oper),okO C.tab n ops p o'=true→p.g=none→∀a:Act,Region.wanted o' (yielded ops a.tmps)=true:=by
  intro p o' hoo hg a;have hgd:=hoo;unfold okO at hgd;simp only[Bool.and_eq_true]at hgd;replace hgd:=hgd.2;rw[hg]at hgd;split at hgd
  ·rename_i hg2;simp[Region.wanted,hg2]
  ·rename_i e _;cases e
  ·cases hgd
 refine wp_mono (ze (M:=M) (bm:=bm) (tk:=tk) (Q:=fun x ρ σ=>x=.normal∧ma ρ0 σ0 bx kd u kn [.mapc false kv] (fun _=>true) ρ σ) (ma ρ0 σ0 bx kd u kn [.mapc false kv]) (fun i o ho j hj=>?_) (fun S S' ρ σ hS hR=>?_) hl h ⟨0,0,.inl ⟨rfl,rfl,rfl⟩,fun t=>?_⟩ (fun ρ σ hR=>⟨ρ,⟨rfl,hR⟩,fun t=>rfl⟩) (fun S i o ho hSi hclo hed M bm tk a w ρ σ hl hR h=>?_)) (fun e a w hL=>?_)
 ·have he:=hedge i o ho;have hi:i<10:=by have:=(List.getElem?_eq_some_iff.1 ho).1;simp at this;omega
  have key:∀i,i<10→∀l,uI[i]? = some l→∀j∈l,j<i:=by decide
  exact key i hi _ he j hj
 ·rw[hsz]at hS;simp only[ma,yX,eE,hS 0 (by omega),hS 1 (by omega),hS 2 (by omega),hS 3 (by omega),hS 4 (by omega),hS 5 (by omega),hS 6 (by omega),hS 7 (by omega),hS 8 (by omega),hS 9 (by omega)]at hR ⊢;exact hR
 ·unfold eE;simp only[Bool.false_eq_true,if_false];repeat' split
  all_goals first|rfl|(subst_vars;rfl)
 ·have he:=hedge i o ho;have hi:i<10:=by have:=(List.getElem?_eq_some_iff.1 ho).1;simp at this;omega
  have hed:∀l,uI[i]? = some l→∀e∈l,S e=true:=fun l hl e hm=>by rw[hl]at he;cases he;exact hed e hm
  clear he;obtain⟨pm,pu,hS,hv⟩:=hR;have hbx':=hin _ _ _ _ hS
  have go:∀(p:O),(sJ f T)[i]? = some p→p.g=none→cY C p.op p.dst ρ σ (ma ρ0 σ0 bx kd u kn [.mapc false kv] fun j=>j==i||S j) (fun _ _ _=>False)→(if Region.wanted o (yielded ops a.tmps)then o.wp C.P a w (jF M bm pr w n (ma ρ0 σ0 bx kd u kn [.mapc false kv] fun j=>j==i||S j)) (bA M bm pr w n fun _ _ _=>False)
   else ∃ρ',ma ρ0 σ0 bx kd u kn [.mapc false kv] (fun j=>j==i||S j) ρ' σ∧SRel M bm tk pr ρ' σ n (a.put o.dst undef) w):=by
   intro p hp hg hr;have hoo:=hget i p o hp ho;rw[if_pos (hwant p o hoo hg a)];exact cM (hG.mono hl) h hoo hr
  have pure:∀(d:Nat) (op:OP) (v:V),(sJ f T)[i]? = some ⟨some d,op,none⟩→(∀K,pv C op ρ σ=some v→K (put ρ d v) σ→cY C op (some d) ρ σ K (fun _ _ _=>False))→pv C op ρ σ=some v→ma ρ0 σ0 bx kd u kn [.mapc false kv] (fun j=>j==i||S j) (put ρ d v) σ→(if Region.wanted o (yielded ops a.tmps)then o.wp C.P a w (jF M bm pr w n (ma ρ0 σ0 bx kd u kn [.mapc false kv] fun j=>j==i||S j)) (bA M bm pr w n fun _ _ _=>False)
   else ∃ρ',ma ρ0 σ0 bx kd u kn [.mapc false kv] (fun j=>j==i||S j) ρ' σ∧SRel M bm tk pr ρ' σ n (a.put o.dst undef) w):=fun d op v h1 h2 h3 h4=>go _ h1 rfl (h2 _ h3 h4)
  have hi':i=0∨i=1∨i=2∨i=3∨i=4∨i=5∨i=6∨i=7∨i=8∨i=9:=by omega
  rcases hi' with rfl|rfl|rfl|rfl|rfl|rfl|rfl|rfl|rfl|rfl
  ·refine go _ rfl rfl ?_;refine(hf σ).mono fun o σ' ⟨e1,e2⟩=>?_;subst e1;subst e2;rcases hS with⟨s0,s7,rfl⟩|⟨s0,-,-,rfl⟩|⟨s0,s7,rfl,rfl⟩|⟨s0,-,-,-,rfl⟩|⟨s0,-,-,-,rfl⟩
   ·exact dq (pm':=σ.length) (pu':=pu) (.inr (.inl ⟨rfl,s7,rfl,rfl⟩)) hv (fun t ht=>by simp[eE,ht]) rfl
   ·rw[s0]at hSi;cases hSi
   ·exact dq (pm':=(σ0++[if S 8=true then List.map aA u else F7]).length) (pu':=σ0.length) (.inr (.inr (.inr (.inr ⟨rfl,s7,rfl,by simp,by simp⟩)))) hv (fun t ht=>by simp[eE,ht]) rfl
   ·rw[s0]at hSi;cases hSi
   ·rw[s0]at hSi;cases hSi
  ·have e:get ρ 2=.ptr bx 0:=by rw[hv 2,←h2];rfl
   refine pure 12 _ (.ptr bx 0) rfl (fun K h1 h2=>by simp only[cY,h1];exact h2) (by show faV 0 (get ρ 2)=_;rw[e];rfl) ?_;exact dq (pm':=pm) (pu':=pu) hS hv (fun t ht=>by simp[eE,ht]) rfl
  ·have e1:=hed _ rfl 1 (by simp);have e:get ρ 12=.ptr bx 0:=by rw[hv 12];simp[eE,e1]
   refine pure 13 _ (.d (.lit (.int .i64 kd))) rfl (fun K h1 h2=>by simp only[cY,h1];exact h2) (by show fZ σ 1 false (get ρ 12)=_;rw[e,mR,hbx',rM,if_pos ⟨by simp,by cases cs<;>rfl⟩];rfl) ?_;exact dq (pm':=pm) (pu':=pu) hS hv (fun t ht=>by simp[eE,ht]) rfl
  ·have e0:=hed _ rfl 0 (by simp);have e1:=hed _ rfl 2 (by simp);have e:get ρ 11=.mp pm:=by rw[hv 11];simp[eE,e0]
   have e':get ρ 13=.d (.lit (.int .i64 kd)):=by rw[hv 13];simp[eE,e1]
   have hmp:σ[pm]? = some [.mapc false kv]:=by
    rcases hS with⟨s0,s7,rfl⟩|⟨s0,-,rfl,rfl⟩|⟨s0,s7,rfl,rfl⟩|⟨s0,-,rfl,-,rfl⟩|⟨s0,-,-,rfl,rfl⟩
    ·rw[s0]at e0;cases e0
    ·simp
    ·rw[s0]at e0;cases e0
    ·simp
    ·simp
   refine pure 14 _ (.tup [.agg (u.map aA),aA kn]) rfl (fun K h1 h2=>by simp only[cY,h1];exact h2) (by show sG false true (.agg F7) σ (get ρ 11) (get ρ 13)=_;rw[e,e',C8,hmp,oZ,uQ,pq,hm]) ?_;exact dq (pm':=pm) (pu':=pu) hS hv (fun t ht=>by simp[eE,ht]) rfl
  ·have e1:=hed _ rfl 3 (by simp);have e:get ρ 14=.tup [.agg (u.map aA),aA kn]:=by rw[hv 14];simp[eE,e1]
   refine pure 10 _ (.tup [.agg (u.map aA),aA kn]) rfl (fun K h1 h2=>by simp only[cY,h1];exact h2) (by show some (get ρ 14).copy=_;rw[e];rfl) ?_;exact dq (pm':=pm) (pu':=pu) hS hv (fun t ht=>by simp[eE,ht]) rfl
  ·have e1:=hed _ rfl 4 (by simp);have e:get ρ 10=.tup [.agg (u.map aA),aA kn]:=by rw[hv 10];simp[eE,e1]
   refine pure 15 _ (.agg (u.map aA)) rfl (fun K h1 h2=>by simp only[cY,h1];exact h2) (by show sN (get ρ 10) 0=_;rw[e];rfl) ?_;exact dq (pm':=pm) (pu':=pu) hS hv (fun t ht=>by simp[eE,ht]) rfl
  ·have e1:=hed _ rfl 4 (by simp);have e:get ρ 10=.tup [.agg (u.map aA),aA kn]:=by rw[hv 10];simp[eE,e1]
   refine pure 16 _ (aA kn) rfl (fun K h1 h2=>by simp only[cY,h1];exact h2) (by show sN (get ρ 10) 1=_;rw[e];rfl) ?_;exact dq (pm':=pm) (pu':=pu) hS hv (fun t ht=>by simp[eE,ht]) rfl
  ·refine go _ rfl rfl ?_
   have s8:S 8=false:=by
    have h8:ops.toList[8]? = some (ops.toList[8]'(by rw[←hlen];show 8<10;omega)):=List.getElem?_eq_getElem _;cases hs8:S 8 with
    | false=>rfl
    | true=>
     have:=hclo 8 _ h8 hs8 7 (by have e:[7,5,0,0,1,2,3,4,5,7]=aE _:=Option.some.inj (hedge 8 _ h8);rw[←e];simp);rw[this]at hSi;cases hSi
   show ma ρ0 σ0 bx kd u kn [.mapc false kv] _ (put ρ 5 (.ptr σ.length 0)) (σ++[F7]);rcases hS with⟨s0,s7,rfl⟩|⟨s0,-,rfl,rfl⟩|⟨s0,s7,rfl,rfl⟩|⟨s0,s7,-,-,rfl⟩|⟨s0,s7,-,-,rfl⟩
   ·exact dq (pm':=pm) (pu':=σ.length) (.inr (.inr (.inl ⟨s0,rfl,rfl,by simp[s8]⟩))) hv (fun t ht=>by simp[eE,ht]) rfl
   ·exact dq (pm':=σ0.length) (pu':=(σ0++[[V.mapc false kv]]).length) (.inr (.inr (.inr (.inl ⟨s0,rfl,rfl,by simp,by simp[s8]⟩)))) hv (fun t ht=>by simp[eE,ht]) rfl
   ·rw[s7]at hSi;cases hSi
   ·rw[s7]at hSi;cases hSi
   ·rw[s7]at hSi;cases hSi
  ·have e7:=hed _ rfl 7 (by simp);have e5:=hed _ rfl 5 (by simp);have e0:=hed _ rfl 0 (by simp);have g5:get ρ 5=.ptr pu 0:=by rw[hv 5];simp[eE,e7]
   have g15:get ρ 15=.agg (u.map aA):=by rw[hv 15];simp[eE,e5]
   refine go _ rfl rfl ?_
   have key:∀σ',σ[pu]? = some F7→σ'=σ.set pu (u.map aA)→yX σ0 [.mapc false kv] (u.map aA) (fun j=>j==8||S j) pm pu σ'→cY C (.sto 7 (.t 5) (.t 15)) none ρ σ (ma ρ0 σ0 bx kd u kn [.mapc false kv] fun j=>j==8||S j) (fun _ _ _=>False):=by
    intro σ' h1 h2 h3;have x5:ev C ρ (.t 5)=.ptr pu 0:=g5;have x15:ev C ρ (.t 15)=.agg (u.map aA):=g15;simp only[cY,x5,x15,h1]
    match u,hu,h2,h3,hv with
    | [b1,b2,b3,b4,b5,b6,b7],_,h2,h3,hv=>
     refine⟨⟨rfl,rfl,by simp,rfl⟩,pm,pu,?_,fun t=>?_⟩
     ·have:σ'=σ.set pu (over F7 0 (V.agg (List.map aA [b1,b2,b3,b4,b5,b6,b7])).cells):=h2;rw[←this];exact h3
     ·rw[hv t];simp[eE]
   rcases hS with⟨s0,s7,rfl⟩|⟨s0,s7,-,rfl⟩|⟨s0,s7,rfl,rfl⟩|⟨s0,s7,rfl,rfl,rfl⟩|⟨s0,s7,rfl,rfl,rfl⟩
   ·rw[s0]at e0;cases e0
   ·rw[s7]at e7;cases e7
   ·rw[s0]at e0;cases e0
   ·exact key (σ0++[[V.mapc false kv],u.map aA]) (by simp[hSi]) (by simp) (.inr (.inr (.inr (.inl ⟨s0,s7,rfl,rfl,rfl⟩))))
   ·exact key (σ0++[u.map aA,[V.mapc false kv]]) (by simp[hSi]) (by simp) (.inr (.inr (.inr (.inr ⟨s0,s7,rfl,rfl,rfl⟩))))
  ·have e1:=hed _ rfl 6 (by simp);have e:get ρ 16=aA kn:=by rw[hv 16];simp[eE,e1]
   refine pure 6 _ (aA kn) rfl (fun K h1 h2=>by simp only[cY,h1];exact h2) (by show some (get ρ 16).copy=_;rw[e];rfl) ?_;exact dq (pm':=pm) (pu':=pu) hS hv (fun t ht=>by simp[eE,ht]) rfl
 ·obtain⟨M',bm',tk',ρ',σ',x,⟨rfl,pm,pu,hS,hv⟩,hx,hs,hlat⟩:=hL
  have fin:∀i,σ'[i]? = some (u.map aA)→σ0.length≤i→pu=i→σ'.take σ0.length=σ0→bA M0 bm0 pr w0 n Q e a w:=by
   intro i h1 h2' h3' h4
   have hsl:∀t,(get [(2,.ptr bx 0),(3,get ρ0 3),(5,.ptr σ0.length 0),(6,aA kn)] t=get ρ' t∧V.under σ0.length (get ρ' t)=true)∨(get ρ' t=.ptr i 0∧get [(2,.ptr bx 0),(3,get ρ0 3),(5,.ptr σ0.length 0),(6,aA kn)] t=.ptr σ0.length 0)∨get [(2,.ptr bx 0),(3,get ρ0 3),(5,.ptr σ0.length 0),(6,aA kn)] t=.junk:=by
    intro t;by_cases t2:t=2
    ·subst t2;exact .inl ⟨by rw[hv 2,←h2];rfl,by rw[hv 2];show V.under _ (get ρ0 2)=true;rw[h2];simp[V.under,hbl]⟩
    by_cases t3:t=3
    ·subst t3;exact .inl ⟨by rw[hv 3];rfl,by rw[hv 3];exact h3⟩
    by_cases t5:t=5
    ·subst t5;exact .inr (.inl ⟨by rw[hv 5,←h3'];rfl,rfl⟩)
    by_cases t6:t=6
    ·subst t6;exact .inl ⟨by rw[hv 6];rfl,by rw[hv 6];rfl⟩
    exact .inr (.inr (by simp[get,Ne.symm t2,Ne.symm t3,Ne.symm t5,Ne.symm t6]))
   obtain⟨b,hr⟩:=hs.repick (ρ':=[(2,.ptr bx 0),(3,get ρ0 3),(5,.ptr σ0.length 0),(6,aA kn)]) (k:=σ0.length) (by rw[h4];exact hb) h1 h2' (fun v hv=>by obtain⟨b,-,rfl⟩:=List.mem_map.1 hv;exact⟨_,rfl⟩) (by match u,hu with | [_,_,_,_,_,_,_],_=>rfl) hsl;rw[h4]at hr;cases hx;refine⟨M',bm'.take σ0.length++[b],tk',_,_,.normal,hq,.normal,hr,⟨hlat.le,?_,hlat.keep,hlat.facts,hlat.os,hlat.tape,hlat.output,hlat.size⟩⟩;obtain⟨t,rfl⟩:=hlat.pre;exact⟨t.take (σ0.length-bm0.length)++[b],by rw[List.take_append,List.take_of_length_le (by omega),List.append_assoc]⟩
  rcases hS with⟨s0,s7,rfl⟩|⟨s0,s7,-,rfl⟩|⟨s0,s7,rfl,rfl⟩|⟨s0,s7,hpm,hpu,rfl⟩|⟨s0,s7,hpu,hpm,rfl⟩
  ·cases s0
  ·cases s7
  ·cases s0
  ·exact fin (σ0.length+1) (by simp) (by omega) hpu (by simp)
  ·exact fin σ0.length (by simp) (by omega) hpu (by simp)
end
end Go.Proofs.YtcbahpllcfbkmaaGreatDoor
