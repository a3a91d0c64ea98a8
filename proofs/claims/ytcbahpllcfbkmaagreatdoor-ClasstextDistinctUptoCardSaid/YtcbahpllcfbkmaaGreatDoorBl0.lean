import Derived.Test.YtcbahpllcfbkmaaGreatDoorA20
import Derived.Lib.AppendStr
set_option linter.unusedVariables false
set_option linter.unusedSimpArgs false
set_option linter.unusedSectionVars false
namespace Go.Proofs.YtcbahpllcfbkmaaGreatDoor
open Go.RowKit
section
variable {P : Program}
theorem CB(w:World)(t u ty e:TypeId)(i:TypeInfo)(ht:P.underlying t=some (.slice e))(hu:P.underlying u=some .string)(hi:P.info? e=some i)(hz:i.zero=some (.int .u8 0))(hsize:i.size=1)(hby:i.bytes=1)
 (v:Value)(n:Nat)(xs:List Value)(hown:w.ownsRow 0 e 1 v n xs)(s:ByteArray)(hbytes:n+s.size≤140737488355328):
 ∃v' w',(Builtin.append_ #[t,u] ty #[v,.string s]).run P w=.ok v' w'∧w'.ownsRow 0 e 1 v' (n+s.size) (xs++Lib.strCells s)∧(∀c,c<w.heap.size→v'.ownBlock≠some c→w'.heap[c]? = w.heap[c]?)∧
  (v'.ownBlock=none∨v'.ownBlock=v.ownBlock∨v'.ownBlock=some w.heap.size)∧w.heap.size≤w'.heap.size∧w'.os=w.os∧w'.tape=w.tape∧w'.output=w.output:=by
 have hm:maxLen=9223372036854775807:=rfl;obtain⟨v',w',hr,h1,-,-⟩:=Lib.run_append_own_string w 0 t u ty e i ht hu hi hz hsize hby v n xs hown s (by omega) hbytes (Nat.zero_le _);refine⟨v',w',hr,h1,?_⟩;have hxl:xs.length=n:=by simpa using hown.1
 have new:∀ob,co w (w.drew.alloc ob):=fun ob=>(co.drew w).trans (co.alloc _ ob)
 have hnew:∀ob a b,v'=.slice (some ⟨w.heap.size,0,none⟩) a b→w'=w.drew.alloc ob→(∀c,c<w.heap.size→v'.ownBlock≠some c→w'.heap[c]? = w.heap[c]?)∧
  (v'.ownBlock=none∨v'.ownBlock=v.ownBlock∨v'.ownBlock=some w.heap.size)∧w.heap.size≤w'.heap.size∧w'.os=w.os∧w'.tape=w.tape∧w'.output=w.output:=by
  rintro ob a b rfl rfl;exact⟨fun c hc _=>(new ob).block c hc,.inr (.inr rfl),(new ob).size,rfl,rfl,rfl⟩
 rcases hown.2 with⟨rfl,rfl⟩|⟨g,cap,cur,rfl,hbg,hg,hnc,hcm,hcs,htake⟩
 ·by_cases hs:s.size=0
  ·have hf:=Lib.run_firstCells_string (P:=P) w 1 s
   have hr2:(Builtin.append_ #[t,u] ty #[.slice none 0 0,.string s]).run P w=.ok (.slice none 0 0) w:=by
    have hn:Lib.strCells s=[]:=List.eq_nil_of_length_eq_zero (by rw[Lib.strCells_length];exact hs);rw[hs]at hf;simp[Builtin.append_,run_underlying ht,run_underlying hu,sizeOf,typeInfo,hi,hsize,Builtin.lenOf,hs,hf]
   rw[hr]at hr2;cases hr2;exact⟨fun _ _ _=>rfl,.inl rfl,Nat.le_refl _,rfl,rfl,rfl⟩
  ·have hr2:=run_append_nil_string (P:=P) w t u ty e i (.int .u8 0) ht hu hi hz s (by omega) (by omega) (by rw[hby];omega);rw[hr]at hr2;cases hr2;exact hnew _ _ _ rfl rfl
 ·by_cases hroom:n+s.size≤cap
  ·have hcs':cur.size=cap:=by simpa using hcs
   have hr2:=Lib.run_append_room_string (P:=P) w t u ty e i ht hu hi hsize g n cap cur hg s hroom (by omega);rw[hr]at hr2;cases hr2;refine⟨fun c hc hne=>setRow_other w g c _ (fun e=>hne (by rw[e];rfl)),.inr (.inl rfl),by simp[World.setRow],rfl,rfl,rfl⟩
  ·have holds:∀j u,xs[j]? = some u→w.cell? ((⟨g,0,none⟩:Addr).add j)=some u:=hown.cells (g:=g) rfl;have hr2:=Lib.run_append_grow_string (P:=P) w t u ty e i (.int .u8 0) ht hu hi hz ⟨g,0,none⟩ n cap xs (by rw[hsize];simpa using hxl) holds s (by omega) (by omega) (by rw[hby];exact growslice_fits (by omega) (by omega));rw[hr]at hr2;cases hr2;exact hnew _ _ _ rfl rfl
theorem mQ{w:World}{ops:Array Oper}{rest:List Oper}{o:Oper}{a:Act}{Q:Exit→Act→World→Prop}(hgd:o.guard=none)(sl x:Operand)(t u:TypeId)(ho:o.op=.call {callee:=.builtin .append,args := #[sl,x],argTypes := #[t,u]})
 (e:TypeId)(i:TypeInfo)(ht:P.underlying t=some (.slice e))(hu:P.underlying u=some .string)(hi:P.info? e=some i)(hz:i.zero=some (.int .u8 0))(hsize:i.size=1)(hby:i.bytes=1)
 (v:Value)(n:Nat)(xs:List Value)(hs:a.eval sl=v)(hown:w.ownsRow 0 e 1 v n xs)(s:ByteArray)(hx:a.eval x=.string s)(hbytes:n+s.size≤140737488355328)
 (h:∀v' w',w'.ownsRow 0 e 1 v' (n+s.size) (xs++Lib.strCells s)→(∀c,c<w.heap.size→v'.ownBlock≠some c→w'.heap[c]? = w.heap[c]?)→(v'.ownBlock=none∨v'.ownBlock=v.ownBlock∨v'.ownBlock=some w.heap.size)→
   (w.heap.size≤w'.heap.size∧w'.os=w.os∧w'.tape=w.tape∧w'.output=w.output)→wpList P ops Q rest (a.put o.dst v') w'):wpList P ops Q (o::rest) a w:=by
 refine wpList_plain hgd fun K hK=>?_;obtain⟨v',w',hr,h2,h3,h4,h5⟩:=CB (P:=P) w t u o.type e i ht hu hi hz hsize hby v n xs hown s hbytes;unfold Oper.wp execOp;simp only[ho,resolve,invoke,builtin,Sem.run_bind,Sem.run_pure,Result.andThen_ok,List.map_toArray,List.map_cons,List.map_nil,hs,hx,hr];exact hK _ _ (h v' w' h2 h3 h4 h5)
end
theorem nC(w:World)(g o:Nat)(v:Value){b:Nat}(h:b≠g):(w.setCell ⟨g,o,none⟩ v).heap[b]? = w.heap[b]? := by
 unfold World.setCell;simp only[Array.getElem?_modify];rw[if_neg (Ne.symm h)]
theorem C9(w:World)(g o:Nat)(v:Value){cur:Array Value}{T:TypeId}(h:w.heap[g]? = some (.cells cur T (0,0))):(w.setCell ⟨g,o,none⟩ v).heap[g]? = some (.cells (cur.setIfInBounds o v) T (0,0)):=by
 unfold World.setCell;simp only[Array.getElem?_modify];rw[if_pos trivial,h];rfl
theorem uh(w:World)(g o:Nat)(v:Value):(w.setCell ⟨g,o,none⟩ v).heap.size=w.heap.size∧(w.setCell ⟨g,o,none⟩ v).os=w.os∧(w.setCell ⟨g,o,none⟩ v).tape=w.tape∧(w.setCell ⟨g,o,none⟩ v).output=w.output:=⟨by simp[World.setCell],rfl,rfl,rfl⟩
theorem vZ(w:World)(g n:Nat):(∀c,c≠g→(w.freeze ⟨g,0,none⟩ n).heap[c]? = w.heap[c]?)∧(∀p v,w.cell? p=some v→(w.freeze ⟨g,0,none⟩ n).cell? p=some v)∧(w.freeze ⟨g,0,none⟩ n).heap.size=w.heap.size∧(w.freeze ⟨g,0,none⟩ n).os=w.os∧
 (w.freeze ⟨g,0,none⟩ n).tape=w.tape∧(w.freeze ⟨g,0,none⟩ n).output=w.output:=by
 unfold World.freeze;split
 ·exact⟨fun _ _=>rfl,fun _ _ h=>h,rfl,rfl,rfl,rfl⟩
 ·refine⟨fun c hc=>?_,fun p v hv=>?_,by simp,rfl,rfl,rfl⟩
  ·simp only[Array.getElem?_modify];rw[if_neg (Ne.symm hc)]
  ·unfold World.cell? at hv ⊢;simp only[Array.getElem?_modify];by_cases e:g=p.block
   ·rw[if_pos e]
    match ho:w.heap[p.block]? with
    | none=>rw[ho]at hv;cases hv
    | some (.cells c T fz)=>rw[ho]at hv;exact hv
    | some (.pending ..)|some (.view ..)|some (.number ..)|some (.map ..)|some (.chan ..)|some (.stringIter ..)|some (.mapIter ..)|some (.loop ..)|some (.deferred ..)|some (.coro ..)|some (.finalizers ..)=>rw[ho]at hv;cases hv
   ·rw[if_neg e];exact hv
def dbs(t:List UInt8):List (List D):=t.map fun c=>[.lit (.int .u8 c.toNat)]
theorem eC(t:List UInt8):(dbs t).length=t.length:=List.length_map ..
def hU(t:List UInt8):List Value:=t.map fun c=>Value.int .u8 c.toNat
theorem ve(s:ByteArray):Lib.strCells s=hU s.data.toList:=rfl
def pgu(U:TypeId)(i:Nat)(t:List UInt8)(k:Int):List V:=[.ptr i 0,.own U 1 (dbs t),.d (.lit (.int .i64 k))]
theorem Inv.rewr{M:av}{bm:List Nat}{σ:List (List V)}{tk:aY}{pr:Nat→Prop}{w w':World}(hI:Inv M bm σ tk pr w){U i b n:Nat}{k:Int}{t:List UInt8}{v v':Value}{xs:List Value}{T:TypeId}(hb0:bm[i]? = some b)(hilt:i<σ.length)(hfit:ce (.int .i64 k))
 (hold:(v=.slice none 0 0∧n=0)∨∃g,tk (some i) 1=some g∧v.ownBlock=some g∧∀o x,M g o=some x→o<n)(hown:w.ownsRow 0 U 1 v n xs)(hxn:n≤t.length)(hx:xs=(hU t).take n)
 (hnew:w'.heap[b]? = some (.cells #[.pointer (some ⟨b,0,none⟩),v',.int .i64 k] T (0,0)))(hrow:w'.ownsRow 0 U 1 v' t.length (hU t))
 (hother:∀c,c<w.heap.size→c≠b→v'.ownBlock≠some c→w'.heap[c]? = w.heap[c]?)(hplace:v'.ownBlock=none∨v'.ownBlock=v.ownBlock∨∃g,v'.ownBlock=some g∧w.heap.size≤g)
 (hsz:w.heap.size≤w'.heap.size)(hos:w'.os=w.os)(htape:w'.tape=w.tape)(hout:w'.output=w.output):
 ∃M' tk',Inv M' bm (σ.set i (pgu U i t k)) tk' pr w'∧Later M bm pr w M' bm w':=by
 have hbm:b∈bm:=List.mem_of_getElem? hb0;have hblt:=hI.bm_lt b hbm;have hlen:(hU t).length=t.length:=List.length_map ..;have hnil:∀{a:List (List V)} {x:List V},a[i]? = some x→i<a.length:=fun h=>(List.getElem?_eq_some_iff.1 h).1;obtain⟨M',hM'⟩:∃M':av,M'=fun c o=>if v'.ownBlock=some c∧o<t.length then(hU t)[o]? else M c o:=⟨_,rfl⟩
 have hmine:∀g,v'.ownBlock=some g→g<w.heap.size→tk (some i) 1=some g∧v.ownBlock=some g∧∀o x,M g o=some x→o<n:=fun g hg hlt=>by
  rcases hplace with h1|h1|⟨g',h1,h2⟩
  ·rw[h1]at hg;cases hg
  ·rw[h1]at hg;rcases hold with⟨rfl,-⟩|⟨g',h2,h3,h4⟩
   ·cases hg
   ·rw[h3]at hg;cases hg;exact⟨h2,h3,h4⟩
  ·rw[h1]at hg;cases hg;omega
 have hgb:∀g,v'.ownBlock=some g→g∉bm∧¬pr g:=fun g hg=>by
  by_cases hlt:g<w.heap.size
  ·exact(hI.tok _ _ _ (hmine g hg hlt).1).2
  ·exact⟨fun h=>hlt (hI.bm_lt g h),fun h=>hlt (hI.prlt g h)⟩
 have hgt:∀g,v'.ownBlock=some g→∀x y,tk x y=some g→x=some i∧y=1:=fun g hg x y hxy=>hI.inj _ _ _ _ _ hxy (hmine g hg (hI.tok _ _ _ hxy).1).1;have hother':∀c,v'.ownBlock≠some c→∀o,M' c o=M c o:=fun c hc o=>by rw[hM'];simp only;rw[if_neg fun h=>hc h.1]
 have hat:∀g,v'.ownBlock=some g→∀o u,(hU t)[o]? = some u→M' g o=some u:=fun g hg o u hu=>by
  rw[hM'];simp only;rw[if_pos ⟨hg,by rw[←hlen];exact(List.getElem?_eq_some_iff.1 hu).1⟩];exact hu
 have hmd:∀g,v'.ownBlock=some g→∀o x,M g o=some x→(hU t)[o]? = some x:=fun g hg o x hm=>by
  obtain⟨-,h2,h3⟩:=hmine g hg (hI.facts.lt hm);have ho:=h3 o x hm;have hc:=hI.facts g o x hm;have hol:o<xs.length:=by have:=hown.1;omega
  have hxo:xs[o]? = some xs[o]:=List.getElem?_eq_getElem hol;have:=hown.cells h2 o _ hxo;rw[bS,Nat.zero_add,hc]at this;rw[←Option.some.inj this]at hxo;rw[hx,List.getElem?_take_of_lt ho]at hxo;exact hxo
 have hle:M.le M':=fun c o x hm=>by
  by_cases hc:v'.ownBlock=some c
  ·exact hat c hc o x (hmd c hc o x hm)
  ·rw[hother' c hc];exact hm
 have hcells:∀g,v'.ownBlock=some g→∀o u,(hU t)[o]? = some u→w'.cell? ⟨g,o,none⟩=some u:=fun g hg o u hu=>by
  have:=hrow.cells hg o u hu;rw[bS,Nat.zero_add]at this;exact this
 have hhold:M'.hold w':=fun c o x hm=>by
  by_cases hc:v'.ownBlock=some c
  ·rw[hM']at hm;simp only at hm;split at hm
   ·exact hcells c hc o x hm
   ·exact hcells c hc o x (hmd c hc o x hm)
  ·rw[hother' c hc]at hm;have hcb:c≠b:=fun e=>by subst e;rw[(hI.free c hbm).1 o]at hm;cases hm
   have h1:=hI.facts c o x hm;rw[World.cell?_of_block (w:=w) (hother c (dU h1) hcb hc)];exact h1
 obtain⟨tk',htk⟩:∃tk':aY,tk'=fun x y=>if x=some i∧y=1 then v'.ownBlock else tk x y:=⟨_,rfl⟩
 have htok:∀x y,¬(x=some i∧y=1)→tk' x y=tk x y:=fun x y h=>by rw[htk];simp only;rw[if_neg h]
 have htks:∀x y g,tk' x y=some g→(x=some i∧y=1∧v'.ownBlock=some g)∨(¬(x=some i∧y=1)∧tk x y=some g∧v'.ownBlock≠some g):=fun x y g hg=>by
  by_cases e:x=some i∧y=1
  ·rw[htk]at hg;simp only[if_pos e]at hg;exact .inl ⟨e.1,e.2,hg⟩
  ·rw[htok x y e]at hg;exact .inr ⟨e,hg,fun eg=>e (hgt g eg x y hg)⟩
 have hsafe:∀x y,¬(x=some i∧y=1)→∀g,tk x y=some g→v'.ownBlock≠some g∧g≠b∧g<w.heap.size:=fun x y h g hg=>
  ⟨fun e=>h (hgt g e x y hg),fun e=>(hI.tok _ _ _ hg).2.1 (e▸hbm),(hI.tok _ _ _ hg).1⟩
 have hcell:∀{x:V} {u:Value} {tt:Option Nat},(∀g,tt=some g→v'.ownBlock≠some g∧g≠b∧g<w.heap.size)→CellOK M bm w x u tt→CellOK M' bm w' x u tt:=fun htt hok=>
  ⟨hok.rep.mono hle (fun _ _ h=>h),fun T k rows e=>(hok.own T k rows e).keep fun g' hg'=>⟨hother g' (htt g' hg').2.2 (htt g' hg').2.1 (htt g' hg').1,hother' g' (htt g' hg').1⟩⟩
 have hrepr:DRep M' (.sl (dbs t)) v'∧oX M' w' U 1 (dbs t) v' v'.ownBlock:=by
  rcases hrow.2 with⟨rfl,hz⟩|⟨g,cap,cur,rfl,hbg,hg,hnc,hcm,hcs,htake⟩
  ·have:t=[]:=List.eq_nil_of_length_eq_zero hz;subst this;exact⟨DRep.nil _,.inl ⟨rfl,rfl⟩⟩
  ·refine⟨?_,.inr ⟨g,hU t,rfl,rfl,fun r hr=>by obtain⟨c,-,rfl⟩:=List.mem_map.1 hr;rfl,by rw[eC];exact hrow,fun o x hm=>?_⟩⟩
   ·have e:t.length=(dbs t).length:=(eC t).symm;rw[e]at hnc ⊢;refine nd (k:=1) (fun r hr=>by obtain⟨c,-,rfl⟩:=List.mem_map.1 hr;rfl) (hU t) (by rw[hlen,eC,Nat.mul_one]) (fun j u hu=>by rw[Nat.zero_add];exact hat g rfl j u hu) (fun i j hi hj hv=>?_) hnc hcm;have hi':i<t.length:=by rw[←eC];exact hi
    have hj0:j=0:=by simp only[dbs,List.getElem_map,List.length_cons,List.length_nil]at hj;omega
    subst hj0;simp only[dbs,hU,List.getElem_map,List.getElem_cons_zero,Nat.mul_one,Nat.add_zero];have:=t[i].toNat_lt;exact .lit _ ⟨by show(0:Int)≤_;omega,by show _≤(255:Int);omega⟩
   ·rw[eC,Nat.mul_one];rw[hM']at hm;simp only[Value.ownBlock,true_and]at hm;split at hm
    ·assumption
    ·have:=(List.getElem?_eq_some_iff.1 (hmd g rfl o x hm)).1;rw[hlen]at this;exact this
 refine⟨M',tk',⟨hhold,by simp[hI.len],fun i' b' cs hi hc=>?_,fun c hc=>⟨fun o=>by rw[hother' c (fun e=>(hgb c e).1 hc)];exact(hI.free c hc).1 o,(hI.free c hc).2⟩,hI.bmnd,fun x y g hg=>?_,fun x y x' y' g h1 h2=>?_,fun c hc=>Nat.lt_of_lt_of_le (hI.prlt c hc) hsz⟩,
  ⟨hle,⟨[],by simp⟩,fun c hc=>hother c (hI.prlt c hc) (fun e=>(hI.free b hbm).2 (e▸hc)) (fun e=>(hgb c e).2 hc),fun c hc=>hother' c (fun e=>(hgb c e).2 hc),hos,htape,hout,hsz⟩⟩
 ·by_cases e:i'=i
  ·subst e;rw[hb0]at hi;cases hi;rw[List.getElem?_set_self hilt]at hc;cases hc;refine .inl ⟨_,T,hnew,rfl,fun j hj hj'=>?_⟩
   match j,hj with
   | 0,_=>exact⟨⟨.ptr hb0,fun _ _ _ e=>by cases e⟩,rfl⟩
   | 1,_=>
    refine⟨⟨.own hrepr.1,fun T2 k2 rows2 e=>?_⟩,hrepr.1.one⟩;simp only[pgu,List.getElem_cons_succ,List.getElem_cons_zero,V.own.injEq]at e;obtain⟨rfl,rfl,rfl⟩:=e;have:tk' (some i') 1=v'.ownBlock:=by rw[htk];simp
    rw[this];exact hrepr.2
   | 2,_=>exact⟨⟨.d (.lit _ hfit),fun _ _ _ e=>by cases e⟩,rfl⟩
  ·rw[List.getElem?_set_ne (Ne.symm e)]at hc;have hb':=List.mem_of_getElem? hi
   have hne:b'≠b:=fun eb=>by
    subst eb;exact e ((List.getElem?_inj (List.getElem?_eq_some_iff.1 hi).1 hI.bmnd).1 (hi.trans hb0.symm))
   have hh:=hother b' (hI.bm_lt b' hb') hne (fun e=>(hgb b' e).1 hb');rcases hI.box i' b' cs hi hc with⟨vs,T',k1,k2,k3⟩|k1;case inr=>exact .inr (k1.mono hle (fun _ _ h=>h) hh)
   refine .inl ⟨vs,T',by rw[hh];exact k1,k2,fun j hj hj'=>⟨?_,(k3 j hj hj').2⟩⟩;have ne:¬(some i'=some i∧j=1):=fun h=>e (Option.some.inj h.1);rw[htok _ _ ne];exact hcell (hsafe _ _ ne) (k3 j hj hj').1
 ·rcases htks x y g hg with⟨-,-,h1⟩|⟨-,h1,-⟩
  ·exact⟨(hrow.lt g h1).2,hgb g h1⟩
  ·exact⟨Nat.lt_of_lt_of_le (hI.tok _ _ _ h1).1 hsz,(hI.tok _ _ _ h1).2⟩
 ·rcases htks x y g h1 with⟨rfl,rfl,e1⟩|⟨n1,k1,k2⟩<;>rcases htks x' y' _ h2 with⟨rfl,rfl,e2⟩|⟨n2,k3,k4⟩
  ·exact⟨rfl,rfl⟩
  ·exact absurd e1 k4
  ·exact absurd e2 k2
  ·exact hI.inj _ _ _ _ _ k1 k3
theorem Inv.lose{M:av}{bm:List Nat}{σ:List (List V)}{tk:aY}{pr:Nat→Prop}{w w':World}(hI:Inv M bm σ tk pr w){U i:Nat}{k:Int}{t:List UInt8}(hs:σ[i]? = some (pgu U i t k))
 (h1:∀c,c<w.heap.size→tk (some i) 1≠some c→w'.heap[c]? = w.heap[c]?)(h2:∀p v,w.cell? p=some v→w'.cell? p=some v)(hsz:w.heap.size≤w'.heap.size)(hos:w'.os=w.os)(htape:w'.tape=w.tape)(hout:w'.output=w.output):
 Inv M bm (σ.set i [.ptr i 0,.junk,.d (.lit (.int .i64 k))]) tk pr w'∧Later M bm pr w M bm w':=by
 have hilt:=(List.getElem?_eq_some_iff.1 hs).1;have hkeep:∀b,b∈bm→w'.heap[b]? = w.heap[b]? := fun b hb=>h1 b (hI.bm_lt b hb) fun e=>(hI.tok _ _ _ e).2.1 hb
 have hcell:∀{x:V} {u:Value} {i':Option Nat} {j:Nat},¬(i'=some i∧j=1)→CellOK M bm w x u (tk i' j)→CellOK M bm w' x u (tk i' j):=fun hn hok=>
  ⟨hok.rep,fun T k rows e=>(hok.own T k rows e).keep fun g hg=>⟨h1 g (hI.tok _ _ _ hg).1 fun e=>hn (hI.inj _ _ _ _ _ hg e),fun _=>rfl⟩⟩
 refine⟨⟨fun c o x hm=>h2 _ _ (hI.facts c o x hm),by simp[hI.len],fun i' b' cs hi hc=>?_,hI.free,hI.bmnd,fun x y g hg=>⟨Nat.lt_of_lt_of_le (hI.tok _ _ _ hg).1 hsz,(hI.tok _ _ _ hg).2⟩,hI.inj,fun c hc=>Nat.lt_of_lt_of_le (hI.prlt c hc) hsz⟩,
  ⟨av.le.refl _,⟨[],by simp⟩,fun c hc=>h1 c (hI.prlt c hc) fun e=>(hI.tok _ _ _ e).2.2 hc,fun _ _ _=>rfl,hos,htape,hout,hsz⟩⟩
 have hh:=hkeep b' (List.mem_of_getElem? hi);by_cases e:i'=i
 ·subst e;rw[List.getElem?_set_self hilt]at hc;cases hc;obtain⟨vs,T,k1,k2,k3⟩:=hI.cells hi hs (by simp[pgu]);refine .inl ⟨vs,T,by rw[hh];exact k1,k2,fun j hj hj'=>?_⟩
  match j,hj with
  | 0,_=>exact⟨hcell (by simp) (k3 0 (by simp[pgu]) hj').1,(k3 0 (by simp[pgu]) hj').2⟩
  | 1,_=>exact⟨⟨.junk _,fun _ _ _ e=>by cases e⟩,(k3 1 (by simp[pgu]) hj').2⟩
  | 2,_=>exact⟨hcell (by simp) (k3 2 (by simp[pgu]) hj').1,(k3 2 (by simp[pgu]) hj').2⟩
 ·rw[List.getElem?_set_ne (Ne.symm e)]at hc;rcases hI.box i' b' cs hi hc with⟨vs,T',k1,k2,k3⟩|k1;case inr=>exact .inr (k1.mono (av.le.refl _) (fun _ _ h=>h) hh)
  exact .inl ⟨vs,T',by rw[hh];exact k1,k2,fun j hj hj'=>⟨hcell (fun h=>e (Option.some.inj h.1)) (k3 j hj hj').1,(k3 j hj hj').2⟩⟩
theorem Inv.setr{M:av}{bm:List Nat}{σ:List (List V)}{tk:aY}{pr:Nat→Prop}{w:World}(hI:Inv M bm σ tk pr w):Inv M bm σ tk pr w.drew∧Later M bm pr w M bm w.drew:=hI.ext (co.drew w)
theorem Inv.pgu_mem{M:av}{bm:List Nat}{σ:List (List V)}{tk:aY}{pr:Nat→Prop}{w:World}(hI:Inv M bm σ tk pr w){U i b:Nat}{k:Int}{t:List UInt8}(hb0:bm[i]? = some b)(hs:σ[i]? = some (pgu U i t k)):
 ∃T v,w.heap[b]? = some (.cells #[.pointer (some ⟨b,0,none⟩),v,.int .i64 k] T (0,0))∧ce (.int .i64 k)∧w.ownsRow 0 U 1 v t.length (hU t)∧v.ownBlock≠some b∧
  ((v=.slice none 0 0∧t.length=0)∨∃g,tk (some i) 1=some g∧v.ownBlock=some g∧∀o x,M g o=some x→o<t.length):=by
 obtain⟨vs,T,k1,k2,k3⟩:=hI.cells hb0 hs (by simp[pgu])
 match vs,k2 with
 | ⟨[v0,v,v2]⟩,_=>
 have g0:=(k3 0 (by simp[pgu]) (by simp)).1.rep;have g1:=(k3 1 (by simp[pgu]) (by simp)).1;have g2:=(k3 2 (by simp[pgu]) (by simp)).1.rep;simp only[pgu,List.getElem_cons_zero,List.getElem_cons_succ,List.getElem_toArray]at g0 g1 g2;have e0:v0=.pointer (some ⟨b,0,none⟩):=by cases g0 with|ptr h=>rw[hb0]at h;cases h;rfl
 obtain⟨rfl,hf⟩:=Rep.int_inv g2;subst e0;have hd:DRep M (.sl (dbs t)) v:=by cases g1.rep with|own h=>exact h
 refine⟨T,v,k1,hf,?_⟩;rcases g1.own U 1 (dbs t) rfl with⟨rfl,h1⟩|⟨g,xs,h1,h2,h3,h4,h5⟩
 ·have ht:t=[]:=List.map_eq_nil_iff.1 h1;subst ht;exact⟨World.ownsRow_nil _ _ _ _,(fun e=>by cases e),.inl ⟨rfl,rfl⟩⟩
 ·rw[eC]at h4 h5
  have hne:v.ownBlock≠some b:=by
   rw[h2];intro e;cases e;exact(hI.tok _ _ _ h1).2.1 (List.mem_of_getElem? hb0)
  have hxs:xs=hU t:=by
   by_cases h0:0<t.length
   ·obtain⟨q,cp,rfl,-⟩:=ca hd;obtain⟨b1,off1,vs1,rfl,-,hl1,hv1,hd1⟩:=ju hI.facts hd h3 (by rw[eC];exact h0)
    have hob:off1=0:=by
     rcases h4.2 with⟨e,-⟩|⟨g',cap',cur',e,-⟩
     ·cases e
     ·simp only[Value.slice.injEq]at e;obtain⟨e1,-⟩:=e;cases e1;rfl
    subst hob;have hxl:xs.length=t.length:=by have:=h4.1;omega
    refine List.ext_getElem (by rw[hxl];exact(List.length_map ..).symm) fun j hj hj'=>?_;have hjt:j<t.length:=by omega
    have hv9:vs1[j]? = some (vs1[j]'(by rw[hl1,eC];omega)):=List.getElem?_eq_getElem _;have c1:=(hv1 _ _ hv9).2.1;have c2:=h4.cells (g:=b1) rfl _ _ (List.getElem?_eq_getElem hj);rw[c1]at c2;have d1:=hd1 j 0 (by rw[eC];exact hjt) (by simp[dbs]) (by rw[hl1,eC];omega);rw[←Option.some.inj c2];simp only[dbs,List.getElem_map,List.getElem_cons_zero,Nat.mul_one,Nat.add_zero]at d1;simp only[hU,List.getElem_map];generalize vs1[j]'(by rw[hl1,eC];omega)=u at d1;cases d1;rfl
   ·have ht:t=[]:=List.eq_nil_of_length_eq_zero (by omega);subst ht;exact List.eq_nil_of_length_eq_zero (by simpa using h4.1)
  subst hxs;exact⟨h4,hne,.inr ⟨g,h1,h2,fun o x hm=>by have:=h5 o x hm;omega⟩⟩
end Go.Proofs.YtcbahpllcfbkmaaGreatDoor
