import Derived.Test.YthoebpnbhgmoiaaGreatDoorAdd
import Derived.Test.YthoebpnbhgmoiaaGreatDoorItv
set_option linter.unusedVariables false
set_option linter.unusedSimpArgs false
set_option linter.unusedSectionVars false
open Array renaming getElem_setIfInBounds_ne→JH
open List renaming getElem_cons_zero→JI,getElem_cons_succ→JJ,getElem_append_right→JK,getElem_append_left→JL,getElem?_eq_getElem→JM,mem_of_getElem?→JO,length_append→JP,length_singleton→JQ,length_map→JR
open Nat renaming zero_add→JS,lt_of_lt_of_le→JT,le_refl→JU
namespace Go.Proofs.YthoebpnbhgmoiaaGreatDoor
open Go.RowKit
theorem Inv.regrow{M:ax}{bm:List Nat}{σ:List (List V)}{tk:bq}{pr:Nat→Prop}{w w':World}(hI:Inv M bm σ tk pr w){i b m g cap:Nat}{fl:Bool}{rows:List (List D)}{r:List D}{xs ys:List Value}{cur:Array Value}{E:TypeId}
 (hb0:bm[i]? = some b)(hs:σ[i]? = some [.mp m,.own 51 12 rows,az fl])(g1:w.heap[b]? = some (.cells cur E (0,0)))(g2:cur.size=3)
 (g3:∀j (h:j<3) (h':j<cur.size),CellOK M bm w ([.mp m,.own 51 12 rows,az fl]:List V)[j] cur[j] (tk (some i) j)∧cur[j].oneCell'=true)
 (hown:w.ownsRow 0 51 12 (cur[1]'(by omega)) rows.length xs)(hA:Adds w w' b rows.length (cur[1]'(by omega)) xs ys g cap)(hr:r.length=12)(hy:ys.length=12)(hrk:∀r,r∈rows→r.length=12)
 (hnd:∀j (hj:j<r.length) (hv:j<ys.length),DRep M r[j] ys[j]):
 ∃M' tk',Inv M' bm (σ.set i [.mp m,.own 51 12 (rows++[r]),az fl]) tk' pr w'∧Later M bm pr w M' bm w':=by
 have hrd:DRep M (.sl rows) (cur[1]'(by omega)):=by cases (g3 1 (by omega) (by omega)).1.rep with|own h=>exact h
 have howner:=(g3 1 (by omega) (by omega)).1.own 51 12 rows rfl;have hxl:xs.length=rows.length*12:=hown.1;have hlen:(xs++ys).length=(rows.length+1)*12:=hA.row.1;have hbm:b∈bm:=JO hb0;have hblt:=hI.bm_lt b hbm
 have hmine:∀c,c<w.heap.size→c=g→tk (some i) 1=some g∧(cur[1]'(by omega)).ownBlock=some g∧∀o x,M g o=some x→o<rows.length*12:=by
  intro c hc e;subst e;rcases hA.new with h1|h1
  ·rcases howner with⟨h2,-⟩|⟨g',xs',h2,h3,-,-,h6⟩
   ·rw[h2]at h1;cases h1
   ·rw[h1]at h3;cases h3;exact⟨h2,h1,h6⟩
  ·omega
 have hgb:g∉bm:=fun hb=>(hI.tok _ _ _ (hmine g (hI.bm_lt g hb) rfl).1).2.1 hb;have hgp:¬pr g:=fun hb=>(hI.tok _ _ _ (hmine g (hI.prlt g hb) rfl).1).2.2 hb;have hgt:∀x y,tk x y=some g→x=some i∧y=1:=fun x y hxy=>hI.inj _ _ _ _ _ hxy (hmine g (hI.tok _ _ _ hxy).1 rfl).1;have hwsz:g<w'.heap.size:=(hA.row.lt g rfl).2;have hgnb:g≠b:=fun e=>hgb (e▸hbm);obtain⟨M',hM'⟩:∃M':ax,M'=fun c o=>if c=g∧o<(xs++ys).length then(xs++ys)[o]? else M c o:=⟨_,rfl⟩
 have hother:∀c,c≠g→∀o,M' c o=M c o:=fun c hc o=>by rw[hM'];simp[hc]
 have hat:∀o u,(xs++ys)[o]? = some u→M' g o=some u:=fun o u hu=>by
  rw[hM'];simp only[true_and];rw[if_pos (List.getElem?_eq_some_iff.1 hu).1];exact hu
 have hmd:∀o x,M g o=some x→(xs++ys)[o]? = some x:=fun o x hx=>by
  obtain⟨-,h2,h3⟩:=hmine g (hI.facts.lt hx) rfl;have ho:=h3 o x hx;have hc:=hI.facts g o x hx;have hxo:xs[o]? = some (xs[o]'(by omega)):=JM _;have:=hown.cells h2 o _ hxo;rw[bS,JS,hc]at this;rw[List.getElem?_append_left (by omega),hxo,←this]
 have hle:M.le M':=fun c o x hx=>by
  by_cases hc:c=g
  ·subst hc;exact hat o x (hmd o x hx)
  ·rw[hother c hc];exact hx
 have hhold:M'.hold w':=fun c o x hx=>by
  by_cases hc:c=g
  ·subst hc;rw[hM']at hx;simp only[true_and]at hx;split at hx
   ·have:=hA.row.cells (g:=c) rfl o x hx;rw[bS,JS]at this;exact this
   ·rename_i hlt;exact absurd (List.getElem?_eq_some_iff.1 (hmd o x hx)).1 hlt
  ·rw[hother c hc]at hx;have hcb:c≠b:=fun e=>by subst e;rw[(hI.free c hbm).1 o]at hx;cases hx
   have:=hI.facts c o x hx;rw[World.cell?_of_block (w:=w) (hA.other c (dT this) hcb hc)];exact this
 have hcell:∀{x:V} {u:Value} {tt:Option Nat},(∀g',tt=some g'→g'≠g∧g'≠b∧g'<w.heap.size)→CellOK M bm w x u tt→CellOK M' bm w' x u tt:=fun htt hok=>
  ⟨hok.rep.mono hle (fun _ _ h=>h),fun T k rows e=>(hok.own T k rows e).keep fun g' hg'=>⟨hA.other g' (htt g' hg').2.2 (htt g' hg').2.1 (htt g' hg').1,hother g' (htt g' hg').1⟩⟩
 obtain⟨tk',htk⟩:∃tk':bq,tk'=fun x y=>if x=some i∧y=1 then some g else tk x y:=⟨_,rfl⟩
 have htks:∀x y g',tk' x y=some g'→(x=some i∧y=1∧g'=g)∨(¬(x=some i∧y=1)∧tk x y=some g'∧g'≠g):=fun x y g' hg'=>by
  rw[htk]at hg';simp only at hg';split at hg'
  ·rename_i e;cases hg';exact .inl ⟨e.1,e.2,rfl⟩
  ·rename_i e;exact .inr ⟨e,hg',fun eg=>e (hgt x y (eg▸hg'))⟩
 have htok:∀x y,¬(x=some i∧y=1)→tk' x y=tk x y:=fun x y h=>by rw[htk];simp only;rw[if_neg h]
 have hsafe:∀x y,¬(x=some i∧y=1)→∀g',tk x y=some g'→g'≠g∧g'≠b∧g'<w.heap.size:=fun x y h g' hg'=>
  ⟨fun e=>h (hgt x y (e▸hg')),fun e=>(hI.tok _ _ _ hg').2.1 (e▸hbm),(hI.tok _ _ _ hg').1⟩
 have hnew:DRep M' (.sl (rows++[r])) (.slice (some ⟨g,0,none⟩) (rows.length+1) cap):=by
  have e0:rows.length+1=(rows++[r]).length:=by simp
  obtain⟨hcap,hcm⟩:rows.length+1≤cap∧cap≤maxLen:=by
   rcases hA.row.2 with⟨e,-⟩|⟨g',cap',cur,e,-,-,h1,h2,-⟩
   ·cases e
   ·cases e;exact⟨h1,h2⟩
  rw[e0]at hcap ⊢;refine j8 (k:=12) (fun r' hr'=>(List.mem_append.1 hr').elim (hrk r') fun h=>by rw[List.mem_singleton.1 h];exact hr) (xs++ys) (by rw[hlen,e0]) (fun j u hu=>by rw[JS];exact hat j u hu) (fun i j hi hj hv=>?_) hcap hcm;by_cases hil:i<rows.length
  ·have hjk:j<rows[i].length:=by rw[JL hil]at hj;exact hj
   simp only[JL hil];have hjk':j<12:=by rw[hrk _ (List.getElem_mem hil)]at hjk;exact hjk
   have hlt:i*12+j<xs.length:=by omega
   obtain⟨q,cp,hvs,-⟩:=bA hrd;have hrd':=hrd;rw[hvs]at hrd';obtain⟨b1,off1,vs1,rfl,-,hl1,hv1,hd1⟩:=gG hI.facts hrd' hrk (by omega)
   have hob:off1=0:=by
    rcases hown.2 with⟨e,-⟩|⟨g',cap',cur',e,-⟩
    ·rw[hvs]at e;cases e
    ·rw[hvs]at e;cases e;rfl
   subst hob;have hv9:vs1[i*12+j]? = some (vs1[i*12+j]'(by omega)):=JM _;have hx9:xs[i*12+j]? = some xs[i*12+j]:=JM _;have c1:=(hv1 _ _ hv9).2.1;have c2:=hown.cells (g:=b1) (by rw[hvs];rfl) _ _ hx9;rw[c1]at c2;have e9:=Option.some.inj c2;rw[JL hlt,←e9];exact(hd1 i j hil hjk (by omega)).mono hle
  ·have hi0:i=rows.length:=by rw[JP,JQ]at hi;omega
   subst hi0;have hjk:j<r.length:=by rw[JK (JU _)]at hj;simpa using hj
   have e1:rows.length*12+j-xs.length=j:=by omega
   rw[JK (show xs.length≤rows.length*12+j by omega)];simp only[e1,JK (JU _),Nat.sub_self,JI];exact(hnd j hjk (by omega)).mono hle
 have hilt:=(List.getElem?_eq_some_iff.1 hs).1
 refine⟨M',tk',⟨hhold,by simp[hI.len],fun i' b' cs hi hc=>?_,fun c hc=>⟨fun o=>by rw[hother c (fun e=>hgb (e▸hc))];exact(hI.free c hc).1 o,(hI.free c hc).2⟩,hI.bmnd,fun x y g' hg'=>?_,fun x y x' y' g' h1 h2=>?_,fun c hc=>JT (hI.prlt c hc) hA.size⟩,
  ⟨hle,⟨[],by simp⟩,fun c hc=>hA.other c (hI.prlt c hc) (fun e=>(hI.free b hbm).2 (e▸hc)) (fun e=>hgp (e▸hc)),fun c hc=>hother c (fun e=>hgp (e▸hc)),hA.os,hA.tape,hA.output,hA.size⟩⟩
 ·by_cases e:i'=i
  ·subst e;rw[hb0]at hi;cases hi;rw[List.getElem?_set_self hilt]at hc;cases hc;refine .inl ⟨_,E,hA.box cur E g1,by simp[g2],fun j hj hj'=>?_⟩
   match j,hj with
   | 0,_=>
    have:=g3 0 (by omega) (by omega);simp only[JI]at this ⊢;have q:(cur.setIfInBounds 1 (Value.slice (some ⟨g,0,none⟩) (rows.length+1) cap))[0]'hj'=cur[0]'(by omega):=by rw[JH (by omega) (by omega)]
    rw[htok _ _ (by simp),q];exact⟨hcell (hsafe _ _ (by simp)) this.1,this.2⟩
   | 1,_=>
    simp only[JI,JJ];have q:(cur.setIfInBounds 1 (Value.slice (some ⟨g,0,none⟩) (rows.length+1) cap))[1]'hj'=Value.slice (some ⟨g,0,none⟩) (rows.length+1) cap:=Array.getElem_setIfInBounds_self _;rw[q];refine⟨⟨.own hnew,fun T2 k2 rows2 e=>?_⟩,rfl⟩;simp only[V.own.injEq]at e;obtain⟨rfl,rfl,rfl⟩:=e;refine .inr ⟨g,xs++ys,by rw[htk];simp,rfl,fun r' hr'=>(List.mem_append.1 hr').elim (hrk r') fun h=>by rw[List.mem_singleton.1 h];exact hr,by rw[JP];exact hA.row,fun o x hx=>?_⟩;rw[hM']at hx;simp only[true_and]at hx;rw[JP,JQ,←hlen];split at hx
    ·assumption
    ·exact(List.getElem?_eq_some_iff.1 (hmd o x hx)).1
   | 2,_=>
    have:=g3 2 (by omega) (by omega);simp only[JI,JJ]at this ⊢;have q:(cur.setIfInBounds 1 (Value.slice (some ⟨g,0,none⟩) (rows.length+1) cap))[2]'hj'=cur[2]'(by omega):=by rw[JH (by omega) (by omega)]
    rw[htok _ _ (by simp),q];exact⟨hcell (hsafe _ _ (by simp)) this.1,this.2⟩
  ·rw[List.getElem?_set_ne (Ne.symm e)]at hc;have hb':=JO hi
   have hne:b'≠b:=fun eb=>by
    subst eb;exact e ((List.getElem?_inj (List.getElem?_eq_some_iff.1 hi).1 hI.bmnd).1 (hi.trans hb0.symm))
   have hh:=hA.other b' (hI.bm_lt b' hb') hne (fun e=>hgb (e▸hb'));rcases hI.box i' b' cs hi hc with⟨vs,T',k1,k2,k3⟩|k1;case inr=>exact .inr (k1.mono hle (fun _ _ h=>h) hh)
   refine .inl ⟨vs,T',by rw[hh];exact k1,k2,fun j hj hj'=>⟨?_,(k3 j hj hj').2⟩⟩;have ne:¬(some i'=some i∧j=1):=fun h=>e (Option.some.inj h.1);rw[htok _ _ ne];exact hcell (hsafe _ _ ne) (k3 j hj hj').1
 ·rcases htks x y g' hg' with⟨-,-,rfl⟩|⟨-,h1,-⟩
  ·exact⟨hwsz,hgb,hgp⟩
  ·exact⟨JT (hI.tok _ _ _ h1).1 hA.size,(hI.tok _ _ _ h1).2⟩
 ·rcases htks x y g' h1 with⟨rfl,rfl,rfl⟩|⟨n1,k1,k2⟩<;>rcases htks x' y' _ h2 with⟨rfl,rfl,e⟩|⟨n2,k3,k4⟩
  ·exact⟨rfl,rfl⟩
  ·exact absurd rfl k4
  ·exact absurd e k2
  ·exact hI.inj _ _ _ _ _ k1 k3
set_option maxRecDepth 100000 in
theorem zo(bx:Nat)(pp:Option Addr)(n cap:Nat)(fl:Bool)(a0 a1 a2:Int)(s3 s5 s6:ByteArray)(p4 p7 p8 p9 p10 p11:Option Addr)(n4 k4 n7 k7 n8 k8 n9 k9 n10 k10 n11 k11:Nat)(w:World)
 (c1:w.cell? ⟨bx,1,none⟩=some (.slice pp n cap))(c2:w.cell? ⟨bx,2,none⟩=some (.bool fl))(f2:w.frozen? ⟨bx,2,none⟩=false)(hn:400≤n)(hlt:bx<w.heap.size):
 Calls Tryz.prog 112 #[.pointer (some ⟨bx,0,none⟩),.agg #[.int .i64 a0,.int .i64 a1,.int .i64 a2,.string s3,.slice p4 n4 k4,.string s5,.string s6,.slice p7 n7 k7,.slice p8 n8 k8,.slice p9 n9 k9,.slice p10 n10 k10,.slice p11 n11 k11]] w fun e w'=>e=.returned (.tuple #[])∧∃ob,w'=(w.setCell ⟨bx,2,none⟩ (.bool true)).alloc ob:=by
 have hn0:decide ((400:Int)≤n)=true:=decide_eq_true (by omega);go_enter Tryz.func112,Tryz.ntmps112;go_wp2_with fail;refine(show bodyPost _ _ _ .ret _ _ from⟨rfl,.tuple #[],results_none (by kernel_rfl) _ _ _,rfl,_,rfl⟩)
theorem AP{M:ax}{bm:List Nat}{x:It}{v:Value}(h:Rep M bm (vit x) v):∃(p4 p7 p8 p9 p10 p11:Option Addr) (n4 k4 n7 k7 n8 k8 n9 k9 n10 k10 n11 k11:Nat),v=.agg #[.int .i64 x.kind,.int .i64 x.ex.op,.int .i64 x.ex.num,.string x.ex.name,.slice p4 n4 k4,.string x.name,.string x.idx,.slice p7 n7 k7,.slice p8 n8 k8,.slice p9 n9 k9,.slice p10 n10 k10,.slice p11 n11 k11]∧
 ∀j (hj:j<(dit x).length) (hv:j<12),DRep M (dit x)[j] (([.int .i64 x.kind,.int .i64 x.ex.op,.int .i64 x.ex.num,.string x.ex.name,.slice p4 n4 k4,.string x.name,.string x.idx,.slice p7 n7 k7,.slice p8 n8 k8,.slice p9 n9 k9,.slice p10 n10 k10,.slice p11 n11 k11]:List Value)[j]'hv):=by
 rw[aK]at h;generalize hcs:([.d (ah x.kind),.d (ah x.ex.op),.d (ah x.ex.num),.d (al x.ex.name),.d (.sl (x.ex.args.map dex)),.d (al x.name),.d (al x.idx),.d (.sl (x.ws.map dwt)),.d (.sl (x.items.map dit)),.d (.sl (x.els.map dit)),.d (.sl (x.bef.map fun s=>[al s])),.d (.sl (x.aft.map fun s=>[al s]))]:List V)=cs at h;have hd:=cr x;cases h with
 | @agg _ vs hl hh h1=>
 subst hcs
 match vs,hl with
 | [v0,v1,v2,v3,v4,v5,v6,v7,v8,v9,v10,v11],_=>
 have g:∀(j:Nat) (hj:j<12),Rep M bm (([.d (ah x.kind),.d (ah x.ex.op),.d (ah x.ex.num),.d (al x.ex.name),.d (.sl (x.ex.args.map dex)),.d (al x.name),.d (al x.idx),.d (.sl (x.ws.map dwt)),.d (.sl (x.items.map dit)),.d (.sl (x.els.map dit)),.d (.sl (x.bef.map fun s=>[al s])),.d (.sl (x.aft.map fun s=>[al s]))]:List V)[j]'hj) ([v0,v1,v2,v3,v4,v5,v6,v7,v8,v9,v10,v11][j]'hj):=fun j hj=>hh j hj hj;have g0:=g 0 (by omega);have g1:=g 1 (by omega);have g2:=g 2 (by omega);have g3:=g 3 (by omega);have g4:=g 4 (by omega);have g5:=g 5 (by omega);have g6:=g 6 (by omega);have g7:=g 7 (by omega);have g8:=g 8 (by omega);have g9:=g 9 (by omega);have g10:=g 10 (by omega);have g11:=g 11 (by omega);simp only[JI,JJ]at g0 g1 g2 g3 g4 g5 g6 g7 g8 g9 g10 g11;clear g hh h1
 cases g0 with|d g0=>cases g1 with|d g1=>cases g2 with|d g2=>cases g3 with|d g3=>cases g4 with|d g4=>cases g5 with|d g5=>cases g6 with|d g6=>cases g7 with|d g7=>cases g8 with|d g8=>cases g9 with|d g9=>cases g10 with|d g10=>cases g11 with|d g11=>
 obtain⟨p4,k4,rfl,-⟩:=bA g4;obtain⟨p7,k7,rfl,-⟩:=bA g7;obtain⟨p8,k8,rfl,-⟩:=bA g8;obtain⟨p9,k9,rfl,-⟩:=bA g9;obtain⟨p10,k10,rfl,-⟩:=bA g10;obtain⟨p11,k11,rfl,-⟩:=bA g11;have e0:v0=.int .i64 x.kind:=by cases g0;rfl
 have e1:v1=.int .i64 x.ex.op:=by cases g1;rfl
 have e2:v2=.int .i64 x.ex.num:=by cases g2;rfl
 have e3:v3=.string x.ex.name:=by cases g3;rfl
 have e5:v5=.string x.name:=by cases g5;rfl
 have e6:v6=.string x.idx:=by cases g6;rfl
 subst e0 e1 e2 e3 e5 e6;refine⟨p4,p7,p8,p9,p10,p11,_,k4,_,k7,_,k8,_,k9,_,k10,_,k11,rfl,fun j hj hv=>?_⟩;simp only[hd]
 match j,hv with
 | 0,_=>exact g0
 | 1,_=>exact g1
 | 2,_=>exact g2
 | 3,_=>exact g3
 | 4,_=>exact g4
 | 5,_=>exact g5
 | 6,_=>exact g6
 | 7,_=>exact g7
 | 8,_=>exact g8
 | 9,_=>exact g9
 | 10,_=>exact g10
 | 11,_=>exact g11
theorem BH{M:ax}{bm:List Nat}{i o:Nat}{v:Value}(h:Rep M bm (.ptr i o) v):∃b,bm[i]? = some b∧v=.pointer (some ⟨b,o,none⟩):=by
 cases h with|ptr h=>exact⟨_,h,rfl⟩
theorem BB(i m:Nat)(L:List It)(fl:Bool)(x:It)(hL:L.length≤400)(σ:List (List V))(hs:σ[i]? = some [.mp m,.own 51 12 (L.map dit),az fl]):
 Fun G 112 [.ptr i 0,vit x] σ (fun o σ'=>o=.ret (.tup [])∧σ'=σ.set i (if 400≤L.length then[.mp m,.own 51 12 (L.map dit),az true]else[.mp m,.own 51 12 ((L++[x]).map dit),az fl])):=by
 refine⟨di (P:=Tryz.prog) Tryz.func112 (by kernel_rfl) (by kernel_rfl),fun M bm tk pr w vs hG hI ht hl hr=>?_⟩
 match vs,hl with
 | [v0,v1],_=>
 have r0:Rep M bm (.ptr i 0) v0:=hr 0 (by simp) (by simp);have r1:Rep M bm (vit x) v1:=hr 1 (by simp) (by simp);clear hr;obtain⟨b,hb0,rfl⟩:=BH r0;obtain⟨p4,p7,p8,p9,p10,p11,n4,k4,n7,k7,n8,k8,n9,k9,n10,k10,n11,k11,rfl,hnd⟩:=AP r1;obtain⟨cur,E,g1,g2,g3⟩:=hI.cells hb0 hs (by simp);have g2:cur.size=3:=g2;have q0:=(g3 0 (by simp) (by omega)).1.rep;have q1:=(g3 1 (by simp) (by omega)).1;have q2:=(g3 2 (by simp) (by omega)).1.rep;have hown1:=q1.own 51 12 (L.map dit) rfl;have hrd:DRep M (.sl (L.map dit)) (cur[1]'(by omega)):=by cases q1.rep with|own h=>exact h
 simp only[JI,JJ]at q2;have hc2:cur[2]'(by omega)=.bool fl:=Rep.bool_inv q2;obtain⟨pp,cap,hv,-,-⟩:=bA hrd;rw[JR]at hv;have c:∀j (hj:j<3),w.cell? ⟨b,j,none⟩=some (cur[j]'(by omega)):=fun j hj=>by simp[World.cell?,g1,show j<cur.size by omega]
 have fz:∀j,w.frozen? ⟨b,j,none⟩=false:=fun j=>by simp[World.frozen?,g1]
 have hrk:∀r,r∈L.map dit→r.length=12:=fun r hr=>by obtain⟨y,-,rfl⟩:=List.mem_map.1 hr;exact iX y
 have hbm:b∈bm:=JO hb0;by_cases h4:400≤L.length
 ·refine(zo b pp L.length cap fl x.kind x.ex.op x.ex.num x.ex.name x.name x.idx p4 p7 p8 p9 p10 p11 n4 k4 n7 k7 n8 k8 n9 k9 n10 k10 n11 k11 w (by rw[c 1 (by omega),hv]) (by rw[c 2 (by omega),hc2]) (fz 2) h4 (Array.getElem?_eq_some_iff.1 g1).1).mono ?_;rintro e w' ⟨rfl,ob,rfl⟩
  obtain⟨cur2,T2,k1,k2,k3,k4',k5,k6⟩:=Inv.set (M:=M) (w:=w) (pr:=⟨pr,[]⟩) hI hb0 hs (by simp) (tk':=tk) (off:=2) (xs:=[az true]) (vs:=[.bool true]) rfl (by simp) hI.tok hI.inj (fun _ _ _ _ _ _ _ _ _=>rfl) (fun j hj hj'=>by
   have:j=0:=by simp at hj;omega
   subst this;exact⟨⟨cV true,fun _ _ _ e=>by cases e⟩,rfl⟩)
  have hcur:cur2=cur:=by
   rw[g1]at k1;cases k1;rfl
  subst hcur
  have hw:w.setCell ⟨b,2,none⟩ (.bool true)=w.setRow b (cur2.toList.take 2++[Value.bool true]++cur2.toList.drop (2+[Value.bool true].length)).toArray:=by
   rw[setCell_eq_setRow _ b 2 cur2 T2 (0,0) _ k1];congr 1;apply Array.toList_inj.1
   match h:cur2.toList,(by simpa using g2:cur2.toList.length=3)with
   | [z0,z1,z2],_=>simp[Array.toList_setIfInBounds,h]
  rw[hw,if_pos h4];obtain⟨h1,h2⟩:=k4'.ext (cH.alloc _ ob);refine⟨M,bm,tk,_,.ret (.tup []),⟨rfl,rfl⟩,?_,k6.trans h2 (fun _ h=>h),fun v e=>?_,fun v e=>by cases e⟩
  ·simpa[over]using h1
  ·cases e;exact⟨.tuple #[],rfl,.tup (vs:=[]) rfl (fun i h=>by simp at h),fun _ _ _ e=>by cases e⟩
 ·have hown:∃xs,w.ownsRow 0 51 12 (cur[1]'(by omega)) (L.map dit).length xs:=by
   rcases hown1 with⟨e1,e2⟩|⟨g,xs,-,-,-,ho,-⟩
   ·refine⟨[],?_⟩;try simp only[JI,JJ]at e1
    rw[e1,e2];exact World.ownsRow_nil _ _ _ _
   ·exact⟨xs,ho⟩
  obtain⟨xs,hown⟩:=hown
  have hne:(Value.slice pp L.length cap).ownBlock≠some b:=by
   rcases hown1 with⟨e1,-⟩|⟨g,xs',h5,h6,-⟩
   ·try simp only[JI,JJ]at e1
    rw[hv]at e1;rw[e1];simp[Value.ownBlock]
   ·try simp only[JI,JJ]at h6
    rw[hv]at h6;rw[h6];intro e;cases e;exact(hI.tok _ _ _ h5).2.1 hbm
  have hown':w.ownsRow 0 51 12 (.slice pp L.length cap) L.length xs:=by rw[←hv];simpa using hown
  refine(AW b (cur[0]'(by omega)) pp L.length cap xs fl x.kind x.ex.op x.ex.num x.ex.name x.name x.idx p4 p7 p8 p9 p10 p11 n4 k4 n7 k7 n8 k8 n9 k9 n10 k10 n11 k11 w (c 0 (by omega)) (by rw[c 1 (by omega),hv]) (by rw[c 2 (by omega),hc2]) (fz 1) (fz 2) (by omega) hne hown').mono ?_;rintro e w' ⟨rfl,g,cap1,hA⟩;rw[if_neg h4];obtain⟨M',tk',h1,h2⟩:=hI.regrow (r:=dit x) hb0 hs g1 g2 g3 hown (by rw[hv,JR];exact hA) (iX x) rfl hrk (fun j hj hv=>hnd j hj (by rw[iX]at hj;exact hj));refine⟨M',bm,tk',_,.ret (.tup []),⟨rfl,rfl⟩,?_,h2,fun v e=>?_,fun v e=>by cases e⟩
  ·rw[List.map_append];exact h1
  ·cases e;exact⟨.tuple #[],rfl,.tup (vs:=[]) rfl (fun i h=>by simp at h),fun _ _ _ e=>by cases e⟩
end Go.Proofs.YthoebpnbhgmoiaaGreatDoor
