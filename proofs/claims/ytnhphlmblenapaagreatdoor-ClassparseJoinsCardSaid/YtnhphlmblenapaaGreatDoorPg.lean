import Derived.Test.YtnhphlmblenapaaGreatDoorIwk
set_option linter.unusedVariables false
set_option linter.unusedSimpArgs false
set_option linter.unusedSectionVars false
set_option maxHeartbeats 4000000
open Int renaming reduceEq->Pa,ofNat_lt->Pb
open List renaming getElem?_append_right->Pd,getElem?_append_left->Pe,getElem?_eq_getElem->Pf,length_map->Pg,take_length->Ph,getElem_mem->Pi,map_cons->Pj,map_nil->Pk,take->Pl,map->Pm
open Ne renaming symm->Pn
namespace Go.Proofs.YtnhphlmblenapaaGreatDoor
open Go.RowKit
theorem Inv.readd{M:ao}{bm:List Nat}{σ:LLV}{tk:be}{pr:Nat->Prop}{w:World}(h:Inv M bm σ tk pr w){b:Nat}{cs:List V}{vs:Array Value}{T:TypeId}(hb:w.heap[b]? = some (.cells vs T (0,0)))(hl:vs.size=cs.length)
 (hc:∀j (h:j<cs.length) (h':j<vs.size),Rep M bm cs[j] vs[j]/\vs[j].oneCell'=true/\∀T k rows,cs[j]≠.own T k rows)(hf:(∀o,M b o=none)/\¬pr b)(hn:b∉bm)(ht:∀i j g,tk i j=some g->g≠b):Inv M (bm++[b]) (σ++[cs]) tk pr w:=by
 have hpre:∀i c:Nat,bm[i]? = some c->(bm++[b])[i]? = some c:=i6 ⟨_,rfl⟩;refine⟨h.facts,by simp[h.len],fun i c cs' hi hc'=>?_,fun c hcm=>?_,?_,fun i j g hg=>?_,h.inj,h.prlt⟩
 .by_cases hlt:i<bm.length
  .rw[Pe hlt]at hi;rw[Pe (by rw[<-h.len];exact hlt)]at hc';rcases h.box i c cs' hi hc' with⟨vs',T',g1,g2,g3⟩|g1;case inr=>exact .inr (g1.mono (ao.le.refl _) hpre rfl)
   exact .inl ⟨vs',T',g1,g2,fun j hj hj'=>⟨⟨(g3 j hj hj').1.rep.mono (ao.le.refl _) hpre,(g3 j hj hj').1.own⟩,(g3 j hj hj').2⟩⟩
  .rw[Pd (by omega)]at hi;rw[Pd (by rw[<-h.len];omega)]at hc'
   have hi0:i-bm.length=0:=by
    have:=(List.getElem?_eq_some_iff.1 hi).1;simp at this;omega
   rw[<-h.len]at hc';rw[hi0]at hi hc';simp at hi hc';subst hi;subst hc';exact .inl ⟨vs,T,hb,hl,fun j hj hj'=>⟨⟨(hc j hj hj').1.mono (ao.le.refl _) hpre,fun T k rows hT=>absurd hT ((hc j hj hj').2.2 T k rows)⟩,(hc j hj hj').2.1⟩⟩
 .rcases List.mem_append.1 hcm with hcm|hcm
  .exact h.free c hcm
  .simp at hcm;subst hcm;exact hf
 .rw[List.nodup_append];exact⟨h.bmnd,by simp,fun a ha c hc=>by simp at hc;subst hc;exact fun e=>hn (e▸ha)⟩
 .obtain⟨t1,t2,t3⟩:=h.tok i j g hg;refine⟨t1,fun hm=>?_,t3⟩;rcases List.mem_append.1 hm with hm|hm
  .exact t2 hm
  .simp at hm;exact ht i j g hg hm
theorem SRel.repick{M:ao}{bm:List Nat}{tk:be}{pr:Prot}{ρ ρ':ac}{σ:LLV}{n:Nat}{a:Act}{w:World}(h:SRel M bm tk pr ρ σ n a w){k i:Nat}{cs:List V}(hb:ai k (σ.take k)=true)(hi:σ[i]? = some cs)(hk:k≤i)
 (hlit:∀v∈cs,∃d,v=.d d)(hnm:bT cs=true)(hs:∀t,(get ρ' t=get ρ t/\V.under k (get ρ t)=true)\/(get ρ t=.ptr i 0/\get ρ' t=.ptr k 0)\/get ρ' t=.junk):
 ∃b,SRel M (bm.take k++[b]) tk pr ρ' (σ.take k++[cs]) n a w:=by
 have hlen:=h.inv.len;have hil:i<σ.length:=(List.getElem?_eq_some_iff.1 hi).1;have hbi:bm[i]? = some (bm[i]'(by omega)):=Pf (by omega);generalize hbd:bm[i]'(by omega)=b at hbi;obtain⟨vs,T,h1,h2,h3⟩:=h.inv.cells hbi hi hnm;have hmem:b∈bm:=List.mem_of_getElem? hbi
 have hnot:b∉bm.take k:=fun hm=>by
  obtain⟨j,hj,e⟩:=List.getElem_of_mem hm;have hjk:j<k:=by simp at hj;omega
  rw[List.getElem_take]at e;have:j=i:=(List.getElem_inj (h₀:=by omega) (h₁:=by omega) h.inv.bmnd).1 (by rw[e,hbd]);omega
 have hdr:=h.inv.drop hb;refine⟨b,⟨hdr.readd h1 h2 (fun j g1 g2=>⟨?_,(h3 j g1 g2).2,fun T k rows e=>?_⟩) (h.inv.free b hmem) hnot (fun i j g hg e=>(h.inv.tok i j g hg).2.1 (e▸hmem)),h.defers,h.size,fun t=>?_⟩⟩
 .obtain⟨d,hd⟩:=hlit cs[j] (Pi g1);exact(h3 j g1 g2).1.rep.drop (by rw[hd];rfl)
 .obtain⟨d,hd⟩:=hlit cs[j] (Pi g1);rw[hd]at e;cases e
 .have hl2:(bm.take k).length=k:=by rw[List.length_take];omega
  rcases hs t with⟨e1,e2⟩|⟨e1,e2⟩|e
  .rw[e1];exact⟨((h.slots t).rep.drop e2).mono (ao.le.refl _) (i6 ⟨_,rfl⟩),(h.slots t).own⟩
  .have hr:=(h.slots t).rep;rw[e1]at hr;rw[e2];generalize a.tmps.getD t undef=v at hr ⊢;cases hr with
   | ptr hb2=>
    rw[hbi]at hb2;cases hb2;exact⟨.ptr (by rw[Pd (by omega),hl2];simp),fun T k rows e=>by cases e⟩
  .rw[e];exact⟨.junk _,fun T k rows e=>by cases e⟩
abbrev F7:List V:=[.d (.lit (.bool false)),.d (.lit (.bool false)),.d (.lit (.bool false)),.d (.lit (.bool false)),.d (.lit (.bool false)),.d (.lit (.bool false)),.d (.lit (.bool false))]
abbrev wY(f:FuncId)(T:TypeId):List O:=[⟨some 11,.call f [],none⟩,⟨some 12,.fa 0 (.t 2),none⟩,⟨some 13,.load 1 false (.t 12),none⟩,⟨some 14,.mlk false true (.agg F7) (.t 11) (.t 13),none⟩,⟨some 10,.mv (.t 14),none⟩,⟨some 15,.ext (.t 10) 0,none⟩,⟨some 16,.ext (.t 10) 1,none⟩,⟨some 5,.new T F7,none⟩,⟨none,.sto 7 (.t 5) (.t 15),none⟩,⟨some 6,.mv (.t 16),none⟩]
abbrev xH:List (List Nat):=[[],[],[1],[0,2],[3],[4],[4],[],[7,5,0,0,1,2,3,4,5,7],[6,8,0,1,2,3,4,5,6,7,8]]
def fF(ρ0:ac)(bx:Nat)(kd:Int)(U:V)(kn:Bool)(S:Nat->Bool)(pm pu:Nat)(t:Nat):V:=
 if t=11 then(if S 0 then .mp pm else get ρ0 11)else if t=12 then(if S 1 then .ptr bx 0 else get ρ0 12)else if t=13 then(if S 2 then .d (.lit (.int .i64 kd))else get ρ0 13)else
 if t=14 then(if S 3 then .tup [U,ak kn]else get ρ0 14)else if t=10 then(if S 4 then .tup [U,ak kn]else get ρ0 10)else if t=15 then(if S 5 then U else get ρ0 15)else
 if t=16 then(if S 6 then ak kn else get ρ0 16)else if t=5 then(if S 7 then .ptr pu 0 else get ρ0 5)else if t=6 then(if S 9 then ak kn else get ρ0 6)else get ρ0 t
def CN(σ0:LLV)(mb:List V)(fin:List V)(S:Nat->Bool)(pm pu:Nat)(σ:LLV):Prop:=
 (S 0=false/\S 7=false/\σ=σ0)\/(S 0=true/\S 7=false/\pm=σ0.length/\σ=σ0++[mb])\/(S 0=false/\S 7=true/\pu=σ0.length/\σ=σ0++[if S 8 then fin else F7])\/
 (S 0=true/\S 7=true/\pm=σ0.length/\pu=σ0.length+1/\σ=σ0++[mb,if S 8 then fin else F7])\/(S 0=true/\S 7=true/\pu=σ0.length/\pm=σ0.length+1/\σ=σ0++[if S 8 then fin else F7,mb])
def nW(ρ0:ac)(σ0:LLV)(bx:Nat)(kd:Int)(u:List Bool)(kn:Bool)(mb:List V)(S:Nat->Bool)(ρ:ac)(σ:LLV):Prop:=
 ∃pm pu,CN σ0 mb (u.map ak) S pm pu σ/\∀t,get ρ t=fF ρ0 bx kd (.agg (u.map ak)) kn S pm pu t
theorem D4(ρ:ac)(d t:Nat)(v:V):get (put ρ d v) t=if d=t then v else get ρ t:=by
 rw[bg];by_cases e:d=t
 .subst e;simp
 .rw[if_neg e,if_neg];exact fun h=>e h.symm
section
variable {C : Cx} {n0 : Nat}
theorem ec{ρ0 ρ:ac}{σ0 σ':LLV}{bx pm pu pm' pu':Nat}{kd:Int}{u:List Bool}{kn:Bool}{mb:List V}{S:Nat->Bool}{i d:Nat}{v:V}(hS:CN σ0 mb (u.map ak) (fun j=>j==i||S j) pm' pu' σ')
 (hv:∀t,get ρ t=fF ρ0 bx kd (.agg (u.map ak)) kn S pm pu t)(h1:∀t,t≠d->fF ρ0 bx kd (.agg (u.map ak)) kn (fun j=>j==i||S j) pm' pu' t=fF ρ0 bx kd (.agg (u.map ak)) kn S pm pu t)
 (h2:fF ρ0 bx kd (.agg (u.map ak)) kn (fun j=>j==i||S j) pm' pu' d=v):nW ρ0 σ0 bx kd u kn mb (fun j=>j==i||S j) (put ρ d v) σ':=by
 refine⟨pm',pu',hS,fun t=>?_⟩;rw[D4];by_cases e:d=t
 .subst e;rw[if_pos rfl,h2]
 .rw[if_neg e,hv t,h1 t (Pn e)]
theorem pt{f:FuncId}{T:TypeId}{ρ0:ac}{σ0:LLV}{Q:ce}{bx:Nat}{kd:Int}{cs:List V}{u:List Bool}{kn:Bool}{kv:List (Key×V)}
 (hn0:n0≤σ0.length)(hf:∀σ,Fun C f [] σ fun o σ'=>o=.ret (.mp σ.length)/\σ'=σ++[[.mapc false kv]])
 (h2:get ρ0 2=.ptr bx 0)(hbx:σ0[bx]? = some (.d (.lit (.int .i64 kd))::cs))(hu:u.length=7)
 (hm:o8 true (.agg F7) (kK (.i kd) kv)=.tup [.agg (u.map ak),ak kn])(hb:ai σ0.length σ0=true)(h3:V.under σ0.length (get ρ0 3)=true)
 (hq:Q .normal [(2,.ptr bx 0),(3,get ρ0 3),(5,.ptr σ0.length 0),(6,ak kn)] (σ0++[u.map ak])):
 jH C n0 (wY f T) xH ρ0 σ0 Q:=by
 intro pr M0 bm0 w0 id ops n M bm tk a w hG hbm hok hes hl h;obtain⟨hlen,hget⟩:=fr hok;have hsz:ops.size=10:=by rw[<-Array.length_toList,<-hlen];rfl
 have hedge:∀(i:Nat) (o:Oper),ops.toList[i]? = some o->xH[i]? = some (aB o):=fun i o ho=>by rw[<-hes,List.getElem?_map,ho];rfl
 have hbl:bx<σ0.length:=(List.getElem?_eq_some_iff.1 hbx).1
 have hin:∀S pm pu σ,CN σ0 [.mapc false kv] (u.map ak) S pm pu σ->σ[bx]? = some (.d (.lit (.int .i64 kd))::cs):=by
  intro S pm pu σ hS;rcases hS with⟨-,-,rfl⟩|⟨-,-,-,rfl⟩|⟨-,-,-,rfl⟩|⟨-,-,-,-,rfl⟩|⟨-,-,-,-,rfl⟩
  .exact hbx
  all_goals rw[Pe hbl];exact hbx
 have hwant:∀(p:O) (o':Oper),okO C.tab n ops p o'=true->p.g=none->∀a:Act,Region.wanted o' (yielded ops a.tmps)=true:=by
  intro p o' hoo hg a;have hgd:=hoo;unfold okO at hgd;simp only[Bool.and_eq_true]at hgd;replace hgd:=hgd.2;rw[hg]at hgd;split at hgd
  .rename_i hg2;simp[Region.wanted,hg2]
  .rename_i e _;cases e
  .cases hgd
 refine wp_mono (uC (M:=M) (bm:=bm) (tk:=tk) (Q:=fun x ρ σ=>x=.normal/\nW ρ0 σ0 bx kd u kn [.mapc false kv] (fun _=>true) ρ σ) (nW ρ0 σ0 bx kd u kn [.mapc false kv]) (fun i o ho j hj=>?_) (fun S S' ρ σ hS hR=>?_) hl h ⟨0,0,.inl ⟨rfl,rfl,rfl⟩,fun t=>?_⟩ (fun ρ σ hR=>⟨ρ,⟨rfl,hR⟩,fun t=>rfl⟩) (fun S i o ho hSi hclo hed M bm tk a w ρ σ hl hR h=>?_)) (fun e a w hL=>?_)
 .have he:=hedge i o ho;have hi:i<10:=by have:=(List.getElem?_eq_some_iff.1 ho).1;simp at this;omega
  have key:∀i,i<10->∀l,xH[i]? = some l->∀j∈l,j<i:=by decide
  exact key i hi _ he j hj
 .rw[hsz]at hS;simp only[nW,CN,fF,hS 0 (by omega),hS 1 (by omega),hS 2 (by omega),hS 3 (by omega),hS 4 (by omega),hS 5 (by omega),hS 6 (by omega),hS 7 (by omega),hS 8 (by omega),hS 9 (by omega)]at hR ⊢;exact hR
 .unfold fF;simp only[Bool.false_eq_true,if_false];repeat' split
  all_goals first|rfl|(subst_vars;rfl)
 .have he:=hedge i o ho;have hi:i<10:=by have:=(List.getElem?_eq_some_iff.1 ho).1;simp at this;omega
  have hed:∀l,xH[i]? = some l->∀e∈l,S e=true:=fun l hl e hm=>by rw[hl]at he;cases he;exact hed e hm
  clear he;obtain⟨pm,pu,hS,hv⟩:=hR;have hbx':=hin _ _ _ _ hS
  have go:∀(p:O),(wY f T)[i]? = some p->p.g=none->cw C p.op p.dst ρ σ (nW ρ0 σ0 bx kd u kn [.mapc false kv] fun j=>j==i||S j) (fun _ _ _=>False)->(if Region.wanted o (yielded ops a.tmps)then o.wp C.P a w (g8 M bm pr w n (nW ρ0 σ0 bx kd u kn [.mapc false kv] fun j=>j==i||S j)) (aY M bm pr w n fun _ _ _=>False)
   else ∃ρ',nW ρ0 σ0 bx kd u kn [.mapc false kv] (fun j=>j==i||S j) ρ' σ/\SRel M bm tk pr ρ' σ n (a.put o.dst undef) w):=by
   intro p hp hg hr;have hoo:=hget i p o hp ho;rw[if_pos (hwant p o hoo hg a)];exact bO (hG.mono hl) h hoo hr
  have pure:∀(d:Nat) (op:OP) (v:V),(wY f T)[i]? = some ⟨some d,op,none⟩->(∀K,pv C op ρ σ=some v->K (put ρ d v) σ->cw C op (some d) ρ σ K (fun _ _ _=>False))->pv C op ρ σ=some v->nW ρ0 σ0 bx kd u kn [.mapc false kv] (fun j=>j==i||S j) (put ρ d v) σ->(if Region.wanted o (yielded ops a.tmps)then o.wp C.P a w (g8 M bm pr w n (nW ρ0 σ0 bx kd u kn [.mapc false kv] fun j=>j==i||S j)) (aY M bm pr w n fun _ _ _=>False)
   else ∃ρ',nW ρ0 σ0 bx kd u kn [.mapc false kv] (fun j=>j==i||S j) ρ' σ/\SRel M bm tk pr ρ' σ n (a.put o.dst undef) w):=fun d op v h1 h2 h3 h4=>go _ h1 rfl (h2 _ h3 h4)
  have hi':i=0\/i=1\/i=2\/i=3\/i=4\/i=5\/i=6\/i=7\/i=8\/i=9:=by omega
  rcases hi' with rfl|rfl|rfl|rfl|rfl|rfl|rfl|rfl|rfl|rfl
  .refine go _ rfl rfl ?_;refine(hf σ).mono fun o σ' ⟨e1,e2⟩=>?_;subst e1;subst e2;rcases hS with⟨s0,s7,rfl⟩|⟨s0,-,-,rfl⟩|⟨s0,s7,rfl,rfl⟩|⟨s0,-,-,-,rfl⟩|⟨s0,-,-,-,rfl⟩
   .exact ec (pm':=σ.length) (pu':=pu) (.inr (.inl ⟨rfl,s7,rfl,rfl⟩)) hv (fun t ht=>by simp[fF,ht]) rfl
   .rw[s0]at hSi;cases hSi
   .exact ec (pm':=(σ0++[if S 8=true then Pm ak u else F7]).length) (pu':=σ0.length) (.inr (.inr (.inr (.inr ⟨rfl,s7,rfl,by simp,by simp⟩)))) hv (fun t ht=>by simp[fF,ht]) rfl
   .rw[s0]at hSi;cases hSi
   .rw[s0]at hSi;cases hSi
  .have e:get ρ 2=.ptr bx 0:=by rw[hv 2,<-h2];rfl
   refine pure 12 _ (.ptr bx 0) rfl (fun K h1 h2=>by simp only[cw,h1];exact h2) (by show faV 0 (get ρ 2)=_;rw[e];rfl) ?_;exact ec (pm':=pm) (pu':=pu) hS hv (fun t ht=>by simp[fF,ht]) rfl
  .have e1:=hed _ rfl 1 (by simp);have e:get ρ 12=.ptr bx 0:=by rw[hv 12];simp[fF,e1]
   refine pure 13 _ (.d (.lit (.int .i64 kd))) rfl (fun K h1 h2=>by simp only[cw,h1];exact h2) (by show fI σ 1 false (get ρ 12)=_;rw[e,pX,hbx',uL,if_pos ⟨by simp,by cases cs<;>rfl⟩];rfl) ?_;exact ec (pm':=pm) (pu':=pu) hS hv (fun t ht=>by simp[fF,ht]) rfl
  .have e0:=hed _ rfl 0 (by simp);have e1:=hed _ rfl 2 (by simp);have e:get ρ 11=.mp pm:=by rw[hv 11];simp[fF,e0]
   have e':get ρ 13=.d (.lit (.int .i64 kd)):=by rw[hv 13];simp[fF,e1]
   have hmp:σ[pm]? = some [.mapc false kv]:=by
    rcases hS with⟨s0,s7,rfl⟩|⟨s0,-,rfl,rfl⟩|⟨s0,s7,rfl,rfl⟩|⟨s0,-,rfl,-,rfl⟩|⟨s0,-,-,rfl,rfl⟩
    .rw[s0]at e0;cases e0
    .simp
    .rw[s0]at e0;cases e0
    .simp
    .simp
   refine pure 14 _ (.tup [.agg (u.map ak),ak kn]) rfl (fun K h1 h2=>by simp only[cw,h1];exact h2) (by show vR false true (.agg F7) σ (get ρ 11) (get ρ 13)=_;rw[e,e',GX,hmp,qJ,xu,qx,hm]) ?_;exact ec (pm':=pm) (pu':=pu) hS hv (fun t ht=>by simp[fF,ht]) rfl
  .have e1:=hed _ rfl 3 (by simp);have e:get ρ 14=.tup [.agg (u.map ak),ak kn]:=by rw[hv 14];simp[fF,e1]
   refine pure 10 _ (.tup [.agg (u.map ak),ak kn]) rfl (fun K h1 h2=>by simp only[cw,h1];exact h2) (by show some (get ρ 14).copy=_;rw[e];rfl) ?_;exact ec (pm':=pm) (pu':=pu) hS hv (fun t ht=>by simp[fF,ht]) rfl
  .have e1:=hed _ rfl 4 (by simp);have e:get ρ 10=.tup [.agg (u.map ak),ak kn]:=by rw[hv 10];simp[fF,e1]
   refine pure 15 _ (.agg (u.map ak)) rfl (fun K h1 h2=>by simp only[cw,h1];exact h2) (by show pc (get ρ 10) 0=_;rw[e];rfl) ?_;exact ec (pm':=pm) (pu':=pu) hS hv (fun t ht=>by simp[fF,ht]) rfl
  .have e1:=hed _ rfl 4 (by simp);have e:get ρ 10=.tup [.agg (u.map ak),ak kn]:=by rw[hv 10];simp[fF,e1]
   refine pure 16 _ (ak kn) rfl (fun K h1 h2=>by simp only[cw,h1];exact h2) (by show pc (get ρ 10) 1=_;rw[e];rfl) ?_;exact ec (pm':=pm) (pu':=pu) hS hv (fun t ht=>by simp[fF,ht]) rfl
  .refine go _ rfl rfl ?_
   have s8:S 8=false:=by
    have h8:ops.toList[8]? = some (ops.toList[8]'(by rw[<-hlen];show 8<10;omega)):=Pf _;cases hs8:S 8 with
    | false=>rfl
    | true=>
     have:=hclo 8 _ h8 hs8 7 (by have e:[7,5,0,0,1,2,3,4,5,7]=aB _:=Option.some.inj (hedge 8 _ h8);rw[<-e];simp);rw[this]at hSi;cases hSi
   show nW ρ0 σ0 bx kd u kn [.mapc false kv] _ (put ρ 5 (.ptr σ.length 0)) (σ++[F7]);rcases hS with⟨s0,s7,rfl⟩|⟨s0,-,rfl,rfl⟩|⟨s0,s7,rfl,rfl⟩|⟨s0,s7,-,-,rfl⟩|⟨s0,s7,-,-,rfl⟩
   .exact ec (pm':=pm) (pu':=σ.length) (.inr (.inr (.inl ⟨s0,rfl,rfl,by simp[s8]⟩))) hv (fun t ht=>by simp[fF,ht]) rfl
   .exact ec (pm':=σ0.length) (pu':=(σ0++[[V.mapc false kv]]).length) (.inr (.inr (.inr (.inl ⟨s0,rfl,rfl,by simp,by simp[s8]⟩)))) hv (fun t ht=>by simp[fF,ht]) rfl
   .rw[s7]at hSi;cases hSi
   .rw[s7]at hSi;cases hSi
   .rw[s7]at hSi;cases hSi
  .have e7:=hed _ rfl 7 (by simp);have e5:=hed _ rfl 5 (by simp);have e0:=hed _ rfl 0 (by simp);have g5:get ρ 5=.ptr pu 0:=by rw[hv 5];simp[fF,e7]
   have g15:get ρ 15=.agg (u.map ak):=by rw[hv 15];simp[fF,e5]
   refine go _ rfl rfl ?_
   have key:∀σ',σ[pu]? = some F7->σ'=σ.set pu (u.map ak)->CN σ0 [.mapc false kv] (u.map ak) (fun j=>j==8||S j) pm pu σ'->cw C (.sto 7 (.t 5) (.t 15)) none ρ σ (nW ρ0 σ0 bx kd u kn [.mapc false kv] fun j=>j==8||S j) (fun _ _ _=>False):=by
    intro σ' h1 h2 h3;have x5:ev C ρ (.t 5)=.ptr pu 0:=g5;have x15:ev C ρ (.t 15)=.agg (u.map ak):=g15;simp only[cw,x5,x15,h1]
    match u,hu,h2,h3,hv with
    | [b1,b2,b3,b4,b5,b6,b7],_,h2,h3,hv=>
     refine⟨⟨rfl,rfl,by simp,rfl⟩,pm,pu,?_,fun t=>?_⟩
     .have:σ'=σ.set pu (over F7 0 (V.agg (Pm ak [b1,b2,b3,b4,b5,b6,b7])).cells):=h2;rw[<-this];exact h3
     .rw[hv t];simp[fF]
   rcases hS with⟨s0,s7,rfl⟩|⟨s0,s7,-,rfl⟩|⟨s0,s7,rfl,rfl⟩|⟨s0,s7,rfl,rfl,rfl⟩|⟨s0,s7,rfl,rfl,rfl⟩
   .rw[s0]at e0;cases e0
   .rw[s7]at e7;cases e7
   .rw[s0]at e0;cases e0
   .exact key (σ0++[[V.mapc false kv],u.map ak]) (by simp[hSi]) (by simp) (.inr (.inr (.inr (.inl ⟨s0,s7,rfl,rfl,rfl⟩))))
   .exact key (σ0++[u.map ak,[V.mapc false kv]]) (by simp[hSi]) (by simp) (.inr (.inr (.inr (.inr ⟨s0,s7,rfl,rfl,rfl⟩))))
  .have e1:=hed _ rfl 6 (by simp);have e:get ρ 16=ak kn:=by rw[hv 16];simp[fF,e1]
   refine pure 6 _ (ak kn) rfl (fun K h1 h2=>by simp only[cw,h1];exact h2) (by show some (get ρ 16).copy=_;rw[e];rfl) ?_;exact ec (pm':=pm) (pu':=pu) hS hv (fun t ht=>by simp[fF,ht]) rfl
 .obtain⟨M',bm',tk',ρ',σ',x,⟨rfl,pm,pu,hS,hv⟩,hx,hs,hlat⟩:=hL
  have fin:∀i,σ'[i]? = some (u.map ak)->σ0.length≤i->pu=i->σ'.take σ0.length=σ0->aY M0 bm0 pr w0 n Q e a w:=by
   intro i h1 h2' h3' h4
   have hsl:∀t,(get [(2,.ptr bx 0),(3,get ρ0 3),(5,.ptr σ0.length 0),(6,ak kn)] t=get ρ' t/\V.under σ0.length (get ρ' t)=true)\/(get ρ' t=.ptr i 0/\get [(2,.ptr bx 0),(3,get ρ0 3),(5,.ptr σ0.length 0),(6,ak kn)] t=.ptr σ0.length 0)\/get [(2,.ptr bx 0),(3,get ρ0 3),(5,.ptr σ0.length 0),(6,ak kn)] t=.junk:=by
    intro t;by_cases t2:t=2
    .subst t2;exact .inl ⟨by rw[hv 2,<-h2];rfl,by rw[hv 2];show V.under _ (get ρ0 2)=true;rw[h2];simp[V.under,hbl]⟩
    by_cases t3:t=3
    .subst t3;exact .inl ⟨by rw[hv 3];rfl,by rw[hv 3];exact h3⟩
    by_cases t5:t=5
    .subst t5;exact .inr (.inl ⟨by rw[hv 5,<-h3'];rfl,rfl⟩)
    by_cases t6:t=6
    .subst t6;exact .inl ⟨by rw[hv 6];rfl,by rw[hv 6];rfl⟩
    exact .inr (.inr (by simp[get,Pn t2,Pn t3,Pn t5,Pn t6]))
   obtain⟨b,hr⟩:=hs.repick (ρ':=[(2,.ptr bx 0),(3,get ρ0 3),(5,.ptr σ0.length 0),(6,ak kn)]) (k:=σ0.length) (by rw[h4];exact hb) h1 h2' (fun v hv=>by obtain⟨b,-,rfl⟩:=List.mem_map.1 hv;exact⟨_,rfl⟩) (by match u,hu with | [_,_,_,_,_,_,_],_=>rfl) hsl;rw[h4]at hr;cases hx;refine⟨M',bm'.take σ0.length++[b],tk',_,_,.normal,hq,.normal,hr,⟨hlat.le,?_,hlat.keep,hlat.facts,hlat.os,hlat.tape,hlat.output,hlat.size⟩⟩;obtain⟨t,rfl⟩:=hlat.pre;exact⟨t.take (σ0.length-bm0.length)++[b],by rw[List.take_append,List.take_of_length_le (by omega),List.append_assoc]⟩
  rcases hS with⟨s0,s7,rfl⟩|⟨s0,s7,-,rfl⟩|⟨s0,s7,rfl,rfl⟩|⟨s0,s7,hpm,hpu,rfl⟩|⟨s0,s7,hpu,hpm,rfl⟩
  .cases s0
  .cases s7
  .cases s0
  .exact fin (σ0.length+1) (by simp) (by omega) hpu (by simp)
  .exact fin σ0.length (by simp) (by omega) hpu (by simp)
end
end Go.Proofs.YtnhphlmblenapaaGreatDoor
namespace Go.Proofs.YtnhphlmblenapaaGreatDoor
open Go.RowKit
abbrev vu7(u:List Bool):V:=.agg (u.map ak)
def kvK:List (Key×V):=[(.i 1,vu7 [true,false,false,false,false,false,false]),(.i 2,vu7 [true,false,false,false,false,false,false]),(.i 3,vu7 [false,true,false,true,false,false,false]),
 (.i 4,vu7 [true,false,false,false,true,true,false]),(.i 5,vu7 [false,true,true,false,true,false,false]),(.i 6,vu7 [false,false,false,false,false,false,true])]
theorem qA(σ:LLV):Fun G 124 [] σ (fun o σ'=>o=.ret (.mp σ.length)/\σ'=σ++[[.mapc false kvK]]):=by
 refine al Tryz.func124 Nj rfl fun hb hw=>?_;unfold Jo;simp -dsimp only[aw,seval];exact⟨_,_,.refl _ _ _,.mp σ.length,rfl,(σ++[[V.mapc false kvK]]).length,by simp,by show ai _ (Pl _ (σ++[[V.mapc false kvK]]))=true;rw[Ph];exact aq hb rfl,by simp[V.under],by show Out.ret _=_/\Pl _ (σ++[[V.mapc false kvK]])=_;rw[Ph];exact⟨rfl,rfl⟩⟩
theorem uh(k:Int):o8 true (.agg F7) (kK (.i k) kvK)=.tup [.agg ((if 1≤k/\k≤6 then kN k else[false,false,false,false,false,false,false]).map ak),ak (decide (1≤k/\k≤6))]:=by
 by_cases h:1≤k/\k≤6
 .rw[if_pos h,decide_eq_true h];have h6:k=1\/k=2\/k=3\/k=4\/k=5\/k=6:=by omega
  rcases h6 with rfl|rfl|rfl|rfl|rfl|rfl<;>rfl
 .rw[if_neg h,decide_eq_false h]
  have:kK (.i k) kvK=none:=by
   have n1:¬k=1:=by omega
   have n2:¬k=2:=by omega
   have n3:¬k=3:=by omega
   have n4:¬k=4:=by omega
   have n5:¬k=5:=by omega
   have n6:¬k=6:=by omega
   simp[kK,kvK,n1,n2,n3,n4,n5,n6,Pn n1,Pn n2,Pn n3,Pn n4,Pn n5,Pn n6]
  rw[this];rfl
theorem yy(l:List ByteArray){j:Nat}(h:j<l.length):(l.drop j).all db=(db l[j]&&(l.drop (j+1)).all db):=by rw[List.drop_eq_getElem_cons h,List.all_cons]
theorem GR{C:Cx}{n0:Nat}{l:List O}{es:List (List Nat)}{keep:List Nat}{ρ:ac}{σ:LLV}{Q:ce}{t:Tag Q}(h:jH C n0 l es ρ σ fun e ρ' σ'=>Q e (aG keep ρ') σ'):d7 C n0 (.raw l es keep) ρ σ Q t:=h
theorem FZ(k:Int):∃b1 b2 b3 b4 b5 b6 b7,kN k=[b1,b2,b3,b4,b5,b6,b7]:=by
 unfold kN;repeat' split
 all_goals exact⟨_,_,_,_,_,_,_,rfl⟩
theorem CC(x:It):xj x=if wE x.ws≠0 then wE x.ws else if db x.name=true then 0 else 7:=by
 unfold xj wE;repeat' split
 all_goals simp_all
theorem zq(x:It)(d:Nat)(bd:List ByteArray)(hbig:gq x≤1200000)(σ:LLV):Fun G 68 [vit x,zw d bd] σ (aO (.d (aa (df x d))) σ):=by
 have hb0:=fU x;refine al Tryz.func68 k68 (by simp only[bw];rfl) fun hb hw=>?_;unfold c68;simp -dsimp only[aw,seval,bw];by_cases hk:1≤x.kind/\x.kind≤6
 case neg=>
  have hm:=uh x.kind;rw[if_neg hk,decide_eq_false hk]at hm;have hs:df x d=1:=by unfold df;rw[if_pos (.inl hk)]
  rw[hs];refine GR (pt (bx:=σ.length) (kd:=x.kind) (by simp) qA rfl (by rw[Pd (Nat.le_refl _),Nat.sub_self];rfl) rfl hm (aq hb rfl) (by simp[get,V.under]) ?_);simp -dsimp only[aw,seval];exact av hb rfl rfl
 have hm:=uh x.kind;rw[if_pos hk,decide_eq_true hk]at hm;have hpl:=fun σ=>zl x hbig hk σ;obtain⟨b1,b2,b3,b4,b5,b6,b7,hu⟩:=FZ x.kind;rw[hu]at hm hpl;simp only[bw,Pj,Pk]at hpl;refine GR (pt (bx:=σ.length) (kd:=x.kind) (by simp) qA rfl (by rw[Pd (Nat.le_refl _),Nat.sub_self];rfl) rfl hm (aq hb rfl) (by simp[get,V.under]) ?_);simp -dsimp only[aw,seval];refine aj (hpl _) ?_;cases hp:dK x with
 | false=>
  have hs:df x d=1:=by unfold df;rw[if_pos (.inr (.inl hp))]
  rw[hs];simp -dsimp only[aw,seval];exact av hb rfl rfl
 | true=>
 by_cases h4:4<d
 .have hs:df x d=1:=by unfold df;rw[if_pos (.inr (.inr (.inl h4)))]
  have h4':(4:Int)<(d:Int):=by omega
  rw[hs];simp -dsimp only[aw,seval,decide_eq_true h4'];exact av hb rfl rfl
 have h4':¬(4:Int)<(d:Int):=by omega
 by_cases hd:0<d/\(x.kind=3\/x.kind=6)
 .have hs:df x d=1:=by unfold df;rw[if_pos (.inr (.inr (.inr hd)))]
  have h0:(0:Int)<(d:Int):=by omega
  rw[hs];rcases hd.2 with k|k
  all_goals
   simp -dsimp only[aw,seval,decide_eq_false h4',decide_eq_true h0,k,Pa,decide_true,decide_false];exact av hb rfl rfl
 have hs:df x d=if x.kind=3 then xj x else if x.kind=6 then wx x else if x.kind=5 then CZ x else bU x.ex:=by
  unfold df;rw[if_neg];rintro(h|h|h|h)
  .exact h hk
  .rw[hp]at h;cases h
  .exact h4 h
  .exact hd h
 rw[hs];have hv:=fun σ=>mF x.ex (by omega) (by have:=tH x.ex;omega) σ;simp only[au]at hv;by_cases k3:x.kind=3
 .have h0:¬(0:Int)<(d:Int):=by have:¬0<d:=fun h=>hd ⟨h,.inl k3⟩;omega
  rw[if_pos k3,CC];simp -dsimp only[aw,seval,decide_eq_false h4',decide_eq_false h0,k3,Pa,decide_true,decide_false];refine aj (sY x.ws (by omega) _) ?_;by_cases hw0:wE x.ws=0
  .rw[if_neg (by simp[hw0])];simp -dsimp only[aw,seval,hw0];refine aj (rv x.name _) ?_;cases hi:db x.name with
   | true=>simp -dsimp only[aw,seval]
           exact av hb rfl rfl
   | false=>simp -dsimp only[aw,seval]
            exact av hb rfl rfl
  .rw[if_pos hw0];simp -dsimp only[aw,seval,decide_eq_false hw0];exact av hb rfl rfl
 by_cases k6:x.kind=6
 .have h0:¬(0:Int)<(d:Int):=by have:¬0<d:=fun h=>hd ⟨h,.inr k6⟩;omega
  rw[if_neg k3,if_pos k6];unfold wx;by_cases hB:x.bef=[]
  .have e:decide (((x.bef.length:Nat):Int)=0)=true:=by simp[hB]
   rw[if_pos (.inl hB)];simp -dsimp only[aw,seval,decide_eq_false h4',decide_eq_false h0,k6,Pa,decide_true,decide_false,Pg,e];exact av hb rfl rfl
  have eB:decide (((x.bef.length:Nat):Int)=0)=false:=by have:=List.length_pos_iff.2 hB;simp;omega
  by_cases hA:x.aft=[]
  .have e:decide (((x.aft.length:Nat):Int)=0)=true:=by simp[hA]
   rw[if_pos (.inr hA)];simp -dsimp only[aw,seval,decide_eq_false h4',decide_eq_false h0,k6,Pa,decide_true,decide_false,Pg,eB,e];exact av hb rfl rfl
  have eA:decide (((x.aft.length:Nat):Int)=0)=false:=by have:=List.length_pos_iff.2 hA;simp;omega
  rw[if_neg (fun h=>h.elim hB hA)];simp -dsimp only[aw,seval,decide_eq_false h4',decide_eq_false h0,k6,Pa,decide_true,decide_false,Pg,eB,eA];have hcc:=fun σ=>wu [x.bef,x.aft] (by simp;omega) (by simp) σ;have e2:[x.bef,x.aft].flatten=x.bef++x.aft:=by simp
  rw[e2]at hcc;simp only[Pj,Pk]at hcc;refine aj (hcc _) ?_;have hL:(x.bef++x.aft).length≤1200000:=by rw[List.length_append];omega
  generalize x.bef++x.aft=L at hL;simp -dsimp only[aw,seval,Pg]
  refine aI [79,80,81] (R:=fun(j:Nat) ρ σ'=>ρ=[(79,.own 9 1 (L.map fun s=>[ae s])),(80,aC .i64 L.length),(81,aC .i64 j)]/\L.all db=(L.drop j).all db/\
   σ'=σ++[[.d (aa 6),.d (aa x.ex.op),.d (aa x.ex.num),.d (ae x.ex.name),.d (.sl (x.ex.args.map dex)),.d (ae x.name),.d (ae x.idx),.d (.sl (x.ws.map dwt)),.d (.sl (x.items.map dit)),.d (.sl (x.els.map dit)),.d (.sl (x.bef.map fun s=>[ae s])),.d (.sl (x.aft.map fun s=>[ae s]))],[.d (aa d),.d (.sl (bd.map fun s=>[ae s]))],[ak b1,ak b2,ak b3,ak b4,ak b5,ak b6,ak b7]]) L.length ⟨rfl,rfl,rfl⟩ ?_ _
  rintro j ρ' σ' hj ⟨rfl,hr,rfl⟩;by_cases hlt:j<L.length
  .rw[yy L hlt]at hr;simp -dsimp only[aw,seval,Pb,hlt,decide_true,Pf hlt,aJ hlt (show L.length≤9223372036854775807 by omega)];refine aj (rv L[j] _) ?_;cases hi:db L[j]with
   | true=>
    simp -dsimp only[aw,seval,aJ hlt (show L.length≤9223372036854775807 by omega)];exact⟨hlt,Nxt.same (by simp) (aq hb rfl) (by simp[an,V.under]) ⟨rfl,by rw[hr,hi,Bool.true_and],rfl⟩⟩
   | false=>
    rw[hr,hi,Bool.false_and,if_neg Bool.false_ne_true];simp -dsimp only[aw,seval];exact av hb rfl rfl
  .rw[List.drop_eq_nil_of_le (by omega)]at hr;rw[hr,List.all_nil,if_pos rfl];simp -dsimp only[aw,seval,Pb,hlt];exact av hb rfl rfl
 rw[if_neg k3,if_neg k6];by_cases k5:x.kind=5
 .rw[if_pos k5];unfold CZ;by_cases h0:(0:Int)<(d:Int)
  all_goals
   simp -dsimp only[aw,seval,decide_eq_false h4',h0,k5,Pa,decide_true,decide_false];refine aj (ey x.name _) ?_;cases hn:cX x.name with
   | false=>
    rw[if_neg (by simp)];simp -dsimp only[aw,seval];exact av hb rfl rfl
   | true=>
    simp -dsimp only[aw,seval];refine aj (ey x.idx _) ?_;cases hx:cX x.idx with
    | false=>
     rw[if_neg (by simp)];simp -dsimp only[aw,seval];exact av hb rfl rfl
    | true=>
     rw[if_pos ⟨rfl,rfl⟩];simp -dsimp only[aw,seval];exact av hb rfl rfl
 rw[if_neg k5];by_cases h0:(0:Int)<(d:Int)
 all_goals
  simp -dsimp only[aw,seval,decide_eq_false h4',h0,decide_eq_false k3,decide_eq_false k5,decide_eq_false k6,decide_true,decide_false];refine aj (hv _) ?_;simp -dsimp only[aw,seval];exact av hb rfl rfl
theorem Eo:MB fun x _ _=>gq x≤1200000:=by
 intro x d bd h;have hb:=fU x;exact⟨fun y hy=>by have:=gz hy;omega,fun y hy=>by have:=gz hy;omega⟩
theorem zc(σ:LLV)(hb:ai σ.length σ=true):Vst (fun(_:Unit) x d bd=>(wG x d bd,())) (fun x _ _=>gq x≤1200000) (.fn 68 []) (fun _ τ=>τ=σ) σ.length where
 len:=fun s τ h=>by rw[h]
 bb:=fun s τ h=>by rw[h];exact hb
 und:=rfl
 val:=.inl ⟨_,_,rfl⟩
 call:=fun s τ x d bd h hp l=>by
  subst h;exact(zq x d bd hp (τ++l)).mono fun o σ' ⟨e1,e2⟩=>⟨τ,rfl,e2,e1⟩
theorem oR(l:List It)(hl:bi l≤1100000)(σ:LLV):Fun G 27 [.d (cT l)] σ (aO (.d (aa (iM l))) σ):=by
 refine al Tryz.func27 k27 rfl fun hb hw=>?_;unfold c27 iM;simp -dsimp only[aw,seval];refine aj (A0 l (by have:=FM l;omega) _) ?_;by_cases h:64<dV l
 .have h':(64:Int)<(dV l:Int):=by omega
  rw[if_pos h];simp -dsimp only[aw,seval,decide_eq_true h'];exact av hb rfl rfl
 .have h':¬(64:Int)<(dV l:Int):=by omega
  rw[if_neg h];simp -dsimp only[aw,seval,decide_eq_false h'];have:=Dx _ _ Eo _ l (by omega) 0 [] _ _ (zc σ hb) (fun x hx=>by have:=gz hx;omega) (by omega) (by simp;omega) () σ rfl;refine aE this ?_;rintro o σ' ⟨τ,rfl,rfl,rfl⟩;rw[aZ,List.append_nil];have e:(wks (fun(_:Unit) x d bd=>(wG x d bd,())) l 0 [] ()).1=rvl l 0:=wt l 0 [];rw[e];simp -dsimp only[aw,seval];exact av hb rfl rfl
inductive PR where
 | out
 | bad (e:Int) (r:List Tok)
 | ok (e:Ex) (r:List Tok)
def PR.bind(x:PR)(f:Ex->List Tok->PR):PR:=match x with
 | .out=>.out
 | .bad e r=>.bad e r
 | .ok e r=>f e r
inductive PK where
 | W
 | I
 | L (k:Nat)
 | Lp (k:Nat) (a:Ex)
 | In (a:Ex)
 | Ip (args:List Ex)
 | U
 | P
def dZ:List Tok->PR
 | []=>.bad 6 []
 | t::r=>.bad 5 (t::r)
def ah(c:UInt8):ByteArray:=⟨#[c]⟩
def bL(c d:UInt8):ByteArray:=⟨#[c,d]⟩
def acc(m:ByteArray):List Tok->Option (List Tok)
 | []=>none
 | t::r=>if bS t=true/\(t.kind=4\/t.kind=2)/\t.text=m then some r else none
def bh(o:Int)(l:List Ex):Ex:=.mk o 0 ⟨#[]⟩ l
def fp:List (ByteArray×Int×Nat):=[(bL 61 62,21,2),(bL 124 124,20,3),(bL 38 38,19,4),(ah 124,11,5),(ah 94,12,6),(ah 38,10,7),(bL 61 61,15,8),(bL 33 61,16,8),(ah 60,17,9),(bL 60 61,18,9),(bL 60 60,13,10),(bL 62 62,14,10),(ah 43,7,11),(ah 45,8,11),(ah 42,9,12)]
def fm:List (ByteArray×Int×Nat)->Nat->List Tok->Option (Int×List Tok)
 | [],_,_=>none
 | b::l,k,r=>if b.2.2=k then(match acc b.1 r with|some r1=>some (b.2.1,r1)|none=>fm l k r)else fm l k r
def dw(k:Nat)(r:List Tok):Option (Int×Bool×List Tok):=match fm fp k r with
 | some (o,r1)=>some (o,false,r1)
 | none=>if k=9 then(match acc (ah 62) r with
  | some r1=>some (17,true,r1)
  | none=>match acc (bL 62 61) r with
   | some r1=>some (18,true,r1)
   | none=>none)else none
def dF:ByteArray:=⟨#[105,110,115,105,100,101]⟩
def qu:ByteArray:=⟨#[115,117,109]⟩
def jS:ByteArray:=⟨#[111,110,101,115]⟩
def bD:List Tok->Option (ByteArray×List Tok)
 | []=>none
 | t::r=>if bS t=true/\t.kind=1 then some (t.text,r)else none
def cm:List Tok->Option (Int×List Tok)
 | []=>none
 | t::r=>if bS t=true/\t.kind=3 then some (t.num,r)else none
def Fx(n:Int):ByteArray:=⟨(Lib.decDigits n.toNat).toArray⟩
def ni(s:ByteArray)(n:Int):ByteArray:=s++(ah 91++(Fx n++ah 93))
def fd(rec:PK->List Tok->PR)(r:List Tok):PR:=match acc (ah 40) r with
 | some r1=>(rec .W r1).bind fun e r2=>match acc (ah 41) r2 with
  | some r3=>.ok e r3
  | none=>dZ r2
 | none=>match cm r with
  | some (n,r1)=>if 65535<n then .bad 3 r else .ok (.mk 1 n ⟨#[]⟩ []) r1
  | none=>match bD r with
   | none=>dZ r
   | some (s,r1)=>match (if s=qu then acc (ah 40) r1 else none)with
    | some r2=>match bD r2 with
     | none=>dZ r2
     | some (a,r3)=>match acc (ah 41) r3 with
      | some r4=>.ok (.mk 24 0 a []) r4
      | none=>dZ r3
    | none=>match (if s=jS then acc (ah 40) r1 else none)with
     | some r2=>(rec .W r2).bind fun e r3=>match acc (ah 41) r3 with
      | some r4=>.ok (bh 25 [e]) r4
      | none=>dZ r3
     | none=>match acc (ah 91) r1 with
      | some r2=>(rec .W r2).bind fun e r3=>match acc (ah 93) r3 with
       | some r4=>.ok (.mk 3 0 s [e]) r4
       | none=>dZ r3
      | none=>match acc (ah 64) r1 with
       | some r2=>match cm r2 with
        | none=>dZ r2
        | some (n,r3)=>if 65535<n then .bad 3 r2 else .ok (.mk 2 0 (ni s n) []) r3
       | none=>.ok (.mk 2 0 s []) r1
def aX(rec:PK->List Tok->PR):PK->List Tok->PR
 | .W,r=>(rec .I r).bind fun c r1=>match acc (ah 63) r1 with
  | none=>.ok c r1
  | some r2=>(rec .W r2).bind fun a r3=>match acc (ah 58) r3 with
   | none=>dZ r3
   | some r4=>(rec .W r4).bind fun b r5=>.ok (bh 22 [c,a,b]) r5
 | .I,r=>(rec (.L 3) r).bind fun a r1=>match acc (bL 61 62) r1 with
  | none=>.ok a r1
  | some r2=>(rec .I r2).bind fun b r3=>.ok (bh 21 [a,b]) r3
 | .L k,r=>if 12<k then rec .U r else(rec (.L (k+1)) r).bind fun a r1=>rec (.Lp k a) r1
 | .Lp k a,r=>match (if k=9 then acc dF r else none)with
  | some r1=>(rec (.In a) r1).bind fun b r2=>rec (.Lp k b) r2
  | none=>match dw k r with
   | none=>.ok a r
   | some (o,ex,r1)=>(rec (.L (k+1)) r1).bind fun c r2=>rec (.Lp k (if ex then bh o [c,a]else bh o [a,c])) r2
 | .In a,r=>match acc (ah 123) r with
  | none=>dZ r
  | some r1=>rec (.Ip [a]) r1
 | .Ip args,r=>(rec .W r).bind fun lo r1=>match acc (bL 46 46) r1 with
  | none=>dZ r1
  | some r2=>(rec .W r2).bind fun hi r3=>match acc (ah 44) r3 with
   | some r4=>rec (.Ip (args++[lo,hi])) r4
   | none=>match acc (ah 125) r3 with
    | some r5=>.ok (bh 23 (args++[lo,hi])) r5
    | none=>dZ r3
 | .U,r=>match acc (ah 33) r with
  | some r1=>(rec .U r1).bind fun a r2=>.ok (bh 4 [a]) r2
  | none=>match acc (ah 126) r with
   | some r1=>(rec .U r1).bind fun a r2=>.ok (bh 5 [a]) r2
   | none=>match acc (ah 45) r with
    | some r1=>(rec .U r1).bind fun a r2=>.ok (bh 6 [a]) r2
    | none=>rec .P r
 | .P,r=>fd rec r
def fu:Nat->PK->List Tok->PR
 | 0,_,_=>.out
 | n+1,k,r=>aX (fu n) k r
end Go.Proofs.YtnhphlmblenapaaGreatDoor
