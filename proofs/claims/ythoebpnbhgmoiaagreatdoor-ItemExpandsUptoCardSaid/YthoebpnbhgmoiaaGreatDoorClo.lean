import Derived.Test.YthoebpnbhgmoiaaGreatDoorItv
import Derived.Test.YthoebpnbhgmoiaaGreatDoorIt8
import Derived.Shelf.SlicesE.Clone
import Derived.Shelf.SlicesG.Clone
import Derived.Test.YthoebpnbhgmoiaaGreatDoorChecked
import Derived.Test.YthoebpnbhgmoiaaGreatDoorBrief
set_option linter.unusedVariables false
set_option linter.unusedSimpArgs false
set_option linter.unusedSectionVars false
namespace Go.Proofs.YthoebpnbhgmoiaaGreatDoor
open Go.RowKit
def thinB(x:It):Bool:=decide (cnt x.ex 60≤60)&&decide (x.ws.length≤20)&&decide (x.bef.length≤20)&&decide (x.aft.length≤20)&&decide (x.name.size≤40)&&decide (x.idx.size≤40)
mutual
def cnL:List It→Int→Int→Int
 | [],k,_=>k
 | x::r,k,n=>if n<k then k else if thinB x=false then n+1 else cnL r (k+cnX x (n-k)) n
def cnX:It→Int→Int
 | .mk _ _ _ _ _ l m _ _,n=>cnL l l.length n+cnL m m.length n
end
theorem cnX_eq(x:It)(n:Int):cnX x n=cnL x.items x.items.length n+cnL x.els x.els.length n:=by cases x;rw[cnX];rfl
theorem cnL_ge:∀(l:List It) (k n:Int),0≤k→k≤cnL l k n:=by
 refine its_ind (fun k n _=>by rw[cnL];exact Int.le_refl _) fun x r h1 h2 h3 k n hk=>?_;rw[cnL];split
 ·exact Int.le_refl _
 ·split
  ·omega
  ·have e1:=h1 x.items.length (n-k) (by omega);have e2:=h2 x.els.length (n-k) (by omega);have e3:=h3 (k+cnX x (n-k)) n (by rw[cnX_eq];omega);rw[cnX_eq]at e3 ⊢;omega
theorem cnL_le:∀(l:List It) (k n:Int),0≤k→n≤70→cnL l k n+l.length≤k+71+200*(iszs l:Nat):=by
 refine its_ind (fun k n hk hn=>?_) fun x r h1 h2 h3 k n hk hn=>?_
 ·rw[cnL,iszs];simp only[List.length_nil];omega
 ·have hl:=iszs_len (x::r);have hz:=isz_eq x;rw[cnL,iszs];rw[iszs]at hl;split
  ·omega
  ·split
   ·omega
   ·have e1:=h1 x.items.length (n-k) (by omega) (by omega);have e2:=h2 x.els.length (n-k) (by omega) (by omega);have g1:=cnL_ge x.items x.items.length (n-k) (by omega);have g2:=cnL_ge x.els x.els.length (n-k) (by omega);have e3:=h3 (k+cnX x (n-k)) n (by rw[cnX_eq];omega) hn;rw[cnX_eq]at e3 ⊢;rw[List.length_cons];omega
theorem cnL_few(hc:∀e:Ex,cnt e 60≤60→esize e≤60):∀(l:List It) (k n:Int),0≤k→cnL l k n≤n→(ibigs l:Int)≤200*(cnL l k n-k+l.length):=by
 refine its_ind (fun k n hk _=>?_) fun x r h1 h2 h3 k n hk h=>?_
 ·rw[cnL,ibigs];simp only[List.length_nil];omega
 ·rw[cnL]at h ⊢;by_cases hnk:n<k
  ·rw[if_pos hnk]at h;omega
  ·rw[if_neg hnk]at h ⊢;by_cases ht:thinB x=false
   ·rw[if_pos ht]at h;omega
   ·rw[if_neg ht]at h ⊢;have g1:=cnL_ge x.items x.items.length (n-k) (by omega);have g2:=cnL_ge x.els x.els.length (n-k) (by omega);have g3:=cnL_ge r (k+cnX x (n-k)) n (by rw[cnX_eq];omega);have e3:=h3 (k+cnX x (n-k)) n (by rw[cnX_eq];omega) h;rw[cnX_eq]at g3 e3 h ⊢;have e1:=h1 x.items.length (n-k) (by omega) (by omega);have e2:=h2 x.els.length (n-k) (by omega) (by omega);have ht:thinB x=true:=by simpa using ht
    simp only[thinB,Bool.and_eq_true,decide_eq_true_eq]at ht;have hx:=hc x.ex ht.1.1.1.1.1;rw[ibigs,ibig_eq,List.length_cons];omega
def smL:List Fd→List Fd→Bool
 | _,[]=>true
 | p,f::r=>decide (0≤f.size)&&decide (f.size≤8)&&nameB f.name&&p.all (fun g=>!decide (g.name=f.name))&&smL (p++[f]) r
def smB(c:Cl):Bool:=decide (c.fields.length≤20)&&smL [] c.fields
theorem smL_ok:∀(r p:List Fd),smL p r=true→(∀f,f∈r→0≤f.size∧f.size≤8∧nameB f.name=true)∧(r.map (·.name)).Nodup∧∀f,f∈r→∀g,g∈p→g.name≠f.name:=by
 intro r
 induction r with
 | nil=>intro p _;exact⟨fun f hf=>(by cases hf),List.nodup_nil,fun f hf=>(by cases hf)⟩
 | cons a r ih=>
  intro p h;rw[smL]at h;simp only[Bool.and_eq_true,decide_eq_true_eq,List.all_eq_true,Bool.not_eq_true',decide_eq_false_iff_not]at h;obtain⟨⟨⟨⟨h1,h2⟩,h3⟩,h4⟩,h5⟩:=h;obtain⟨i1,i2,i3⟩:=ih _ h5;refine⟨fun f hf=>?_,?_,fun f hf g hg=>?_⟩
  ·rcases List.mem_cons.1 hf with rfl|hf
   ·exact⟨h1,h2,h3⟩
   ·exact i1 f hf
  ·rw[List.map_cons,List.nodup_cons];refine⟨fun hm=>?_,i2⟩;obtain⟨f,hf,he⟩:=List.mem_map.1 hm;exact i3 f hf a (by simp) he.symm
  ·rcases List.mem_cons.1 hf with rfl|hf
   ·exact h4 g hg
   ·exact i3 f hf g (by simp[hg])
theorem smB_ok{c:Cl}(h:smB c=true):c.fields.length≤20∧SmallF (fldS c):=by
 unfold smB at h;rw[Bool.and_eq_true,decide_eq_true_eq]at h;obtain⟨h1,h2,-⟩:=smL_ok _ _ h.2;refine⟨h.1,⟨fun f hf=>?_,?_⟩⟩
 ·unfold fldS at hf;obtain⟨g,hg,rfl⟩:=List.mem_map.1 hf;exact h1 g hg
 ·unfold fldS;rw[List.map_map];exact h2
end Go.Proofs.YthoebpnbhgmoiaaGreatDoor
namespace Go.Proofs.YthoebpnbhgmoiaaGreatDoor
open Go.Shelf
def Tryz.cloneSA_ren:Go.Shelf.Ren:=⟨fun|41=>68|n=>n,fun|22=>43|23=>9|4=>4|n=>n,fun|n=>n⟩
theorem Tryz.cloneSA:Go.Proofs.SlLaysE0.n41 Tryz.prog Tryz.cloneSA_ren:={
 mixed:=by kernel_rfl
 f41:=⟨Tryz.f68.name,by decide,Tryz.func68.trans (congrArg some (by kernel_rfl))⟩
 t4:=Tryz.underlying4
 a4:=Tryz.isAgg4
 z4:=Tryz.sizeOf4
 v4:=Tryz.zeroValue4
 t22:=Tryz.underlying43
 a22:=Tryz.isAgg43
 z22:=Tryz.sizeOf43
 v22:=Tryz.zeroValue43}
def Tryz.cloneZA_ren:Go.Shelf.Ren:=⟨fun|42=>68|n=>n,fun|25=>43|26=>9|4=>4|n=>n,fun|n=>n⟩
theorem Tryz.cloneZA:Go.Proofs.SlLaysN.n42 Tryz.prog Tryz.cloneZA_ren:={
 mixed:=by kernel_rfl
 f42:=⟨Tryz.f68.name,by decide,Tryz.func68.trans (congrArg some (by kernel_rfl))⟩
 t4:=Tryz.underlying4
 a4:=Tryz.isAgg4
 z4:=Tryz.sizeOf4
 v4:=Tryz.zeroValue4
 t25:=Tryz.underlying43
 a25:=Tryz.isAgg43
 z25:=Tryz.sizeOf43
 v25:=Tryz.zeroValue43
 t26:=Tryz.underlying9
 a26:=Tryz.isAgg9
 z26:=Tryz.sizeOf9
 v26:=Tryz.zeroValue9
 i26:=by kernel_rfl}
def Tryz.cloneWA_ren:Go.Shelf.Ren:=⟨fun|41=>116|n=>n,fun|22=>49|23=>117|4=>4|n=>n,fun|n=>n⟩
theorem Tryz.cloneWA:Go.Proofs.SlLaysE0.n41 Tryz.prog Tryz.cloneWA_ren:={
 mixed:=by kernel_rfl
 f41:=⟨Tryz.f116.name,by decide,Tryz.func116.trans (congrArg some (by kernel_rfl))⟩
 t4:=Tryz.underlying4
 a4:=Tryz.isAgg4
 z4:=Tryz.sizeOf4
 v4:=Tryz.zeroValue4
 t22:=Tryz.underlying49
 a22:=Tryz.isAgg49
 z22:=Tryz.sizeOf49
 v22:=Tryz.zeroValue49}
end Go.Proofs.YthoebpnbhgmoiaaGreatDoor
namespace Go.Proofs.YthoebpnbhgmoiaaGreatDoor
open Go.RowKit Go.Shelf
theorem ownsRow_low{w:World}{base T k n:Nat}{v:Value}{xs:List Value}(h:w.ownsRow base T k v n xs):w.ownsRow 0 T k v n xs:=
 ⟨h.1,h.2.imp id fun⟨g,cap,cur,a,b,c⟩=>⟨g,cap,cur,a,Nat.zero_le _,c⟩⟩
theorem infoStr:∃i0,Tryz.prog.info? 9=some i0∧i0.zero=some (.string ⟨#[]⟩)∧i0.size=1∧i0.bytes=16:=by
 have h:(Tryz.prog.info? 9).map (fun i=>(i.zero,i.size,i.bytes))=some (some (.string ⟨#[]⟩),1,16):=by kernel_rfl
 cases hi:Tryz.prog.info? 9 with
 | none=>rw[hi]at h;cases h
 | some i0=>rw[hi]at h;simp only[Option.map_some,Option.some.injEq,Prod.mk.injEq]at h;exact⟨i0,rfl,h.1,h.2.1,h.2.2⟩
theorem infoWt:∃i0,Tryz.prog.info? 117=some i0∧i0.zero=some (.agg #[.int .i64 0,.int .i64 0,.int .i64 0,.bool false])∧i0.size=4∧i0.bytes=32:=by
 have h:(Tryz.prog.info? 117).map (fun i=>(i.zero,i.size,i.bytes))=some (some (.agg #[.int .i64 0,.int .i64 0,.int .i64 0,.bool false]),4,32):=by kernel_rfl
 cases hi:Tryz.prog.info? 117 with
 | none=>rw[hi]at h;cases h
 | some i0=>rw[hi]at h;simp only[Option.map_some,Option.some.injEq,Prod.mk.injEq]at h;exact⟨i0,rfl,h.1,h.2.1,h.2.2⟩
theorem clone_mem(l:List ByteArray)(hl:l.length≤1000000)(v:Value)(w:World)(hv:StrsVal w l v):Calls Tryz.prog 68 #[v] w (RetOwnS l w):=by
 obtain⟨p,cap,rfl,h1,h2,h3⟩:=hv
 have fin:∀e w',(∃v',e=Ending.returned v'∧w'.ownsRow w.heap.size 9 1 v' l.length (l.map Value.string)∧v'≠.slice none 0 0∧Below w.heap.size w w')→RetOwnS l w e w':=fun e w' ⟨v',g1,g2,_,g4⟩=>
  ⟨v',g1,ownsRow_low g2,(fun k hk=>(g2.lt k hk).1),g4⟩
 cases p with
 | none=>
  have hl0:l=[]:=by
   cases l with
   | nil=>rfl
   | cons a r=>obtain⟨b,off,e,-⟩:=h3 0 a rfl;cases e
  subst hl0;refine(AnyE.slices_Clone_nil (ρ:=Tryz.cloneSA_ren) Tryz.cloneSA 0 cap w).mono fun e w' ⟨g1,g2⟩=>?_;subst g2;exact⟨_,g1,⟨rfl,.inl ⟨rfl,rfl⟩⟩,(fun k hk=>by cases hk),Ext.refl _⟩
 | some a=>
  by_cases hl0:l=[]
  ·subst hl0;exact(AnyG.slices_Clone_string_zero (ρ:=Tryz.cloneZA_ren) Tryz.cloneZA a cap w).mono fin
  ·obtain⟨x,r,rfl⟩:=List.exists_cons_of_ne_nil hl0;obtain⟨b,off,e,-⟩:=h3 0 x rfl;cases e;obtain⟨i0,hi,z0,z1,z2⟩:=infoStr;refine(AnyE.slices_Clone (ρ:=Tryz.cloneSA_ren) Tryz.cloneSA i0 _ 1 16 hi z0 z1 z2 rfl (by decide) (fun w=>Tryz.sizeOf9 w) b off (x::r).length cap ((x::r).map Value.string) w (by simp) (by unfold maxLen;omega) (by omega) (fun j u hu=>?_) (fun u hu=>?_)).mono fin
   ·rw[List.getElem?_map]at hu;obtain⟨s,hs,rfl⟩:=Option.map_eq_some_iff.1 hu;obtain⟨b',off',e,hc⟩:=h3 j s hs;cases e;exact hc
   ·obtain⟨s,-,rfl⟩:=List.mem_map.1 hu;rfl
theorem strs_size{M:Facts}{bm:List Nat}{l:List ByteArray}{v:Value}(h:Rep M bm (.d (dstrs l)) v):∀s,s∈l→s.size≤maxLen:=by
 intro s hs;cases h with
 | d h=>
 unfold dstrs at h;generalize hr:(l.map fun s=>[dstr s])=rows at h;cases h with
 | sl _ k p cap val hk hd hf hc hm=>
 obtain⟨i,hi,rfl⟩:=List.getElem_of_mem hs;have hir:i<rows.length:=by rw[←hr];simpa using hi
 have e:rows[i]=[dstr l[i]]:=by subst hr;simp
 have:=hd i 0 hir (by rw[e];simp);simp only[e,List.getElem_cons_zero,dstr]at this;generalize val i 0=u at this;cases this with|lit _ hf=>exact hf
theorem clone_own(l:List ByteArray)(hl:l.length≤1000000)(σ:List (List V)):Fun G 68 [.d (dstrs l)] σ (RetV (.own 9 1 (l.map fun s=>[dstr s])) σ):=
 fun_own_strs Tryz.func68 (by kernel_rfl) (by kernel_rfl) fun M bm w vs hG hM hn hr=>match vs,hn with
  | [v],_=>by
   have h1:Rep M bm (.d (dstrs l)) v:=hr 0 (by simp) (by simp);exact⟨strs_size h1,clone_mem l hl v w (strsval_of hM h1)⟩
theorem clone_strs(l:List ByteArray)(hl:l.length≤1000000)(σ:List (List V)):Fun G 68 [.d (dstrs l)] σ (RetV (.d (dstrs l)) σ):=
 fun_of_new Tryz.func68 (by kernel_rfl) (by kernel_rfl) (fun _ _ _ h=>by cases h) fun M bm w vs hG hM hn hr=>match vs,hn with
  | [v],_=>by
   have h1:Rep M bm (.d (dstrs l)) v:=hr 0 (by simp) (by simp);refine(clone_mem l hl v w (strsval_of hM h1)).mono fun e w' ⟨u,g1,g2,g3,g4⟩=>⟨u,g1,g4,.d (drep_own g2 g3 (strs_size h1))⟩
theorem lit_any{M M':Facts}{u v:Value}(h:DRep M (.lit u) v):DRep M' (.lit u) v:=by
 cases h with|lit _ h=>exact .lit _ h
theorem clone_wts(ws:List Wt)(h0:ws≠[])(hl:ws.length≤1000000)(σ:List (List V)):Fun G 116 [.d (.sl (ws.map dwt))] σ (RetV (.d (.sl (ws.map dwt))) σ):=
 fun_of_new Tryz.func116 (by kernel_rfl) (by kernel_rfl) (fun _ _ _ h=>by cases h) fun M bm w vs hG hM hn hr=>match vs,hn with
  | [v],_=>by
   have h1:Rep M bm (.d (.sl (ws.map dwt))) v:=hr 0 (by simp) (by simp);cases h1 with
   | d h1=>
   obtain⟨p,cap,rfl,hle,hcm⟩:=slice_shape h1;have hk:∀r,r∈ws.map dwt→r.length=4:=fun r hr=>by obtain⟨x,-,rfl⟩:=List.mem_map.1 hr;rfl
   have hpos:0<(ws.map dwt).length:=by rw[List.length_map];exact List.length_pos_iff.2 h0
   obtain⟨b,off,news,rfl,-,hnl,hnews,hnd⟩:=flat_rows hM h1 hk hpos;obtain⟨i0,hi,z0,z1,z2⟩:=infoWt;refine(AnyE.slices_Clone (ρ:=Tryz.cloneWA_ren) Tryz.cloneWA i0 _ 4 32 hi z0 z1 z2 rfl (by decide) (fun w=>Tryz.sizeOf117 w) b off (ws.map dwt).length cap news w hnl (by unfold maxLen;rw[List.length_map];omega) (by rw[List.length_map];omega) (fun j u hu=>?_) (fun u hu=>?_)).mono ?_
   ·have:=(hnews j u hu).2.1;rwa[addr_add]at this
   ·obtain⟨j,hj,rfl⟩:=List.getElem_of_mem hu;exact(hnews j _ (List.getElem?_eq_getElem hj)).2.2
   ·rintro e w' ⟨v',g1,g2,-,g4⟩;refine⟨v',g1,g4,?_⟩;rcases g2.2 with⟨rfl,e0⟩|⟨g,cap',cur,rfl,hb,hh,h5,h6,h7,h8⟩
    ·omega
    ·refine .d (rows_rep (k:=4) hk news hnl (fun j u hu=>?_) (fun i j hi hj hv=>?_) h5 h6)
     ·have:=g2.cells (g:=g) rfl j u hu;rw[addr_add]at this;unfold newer;rw[if_pos hb];exact this
     ·have h9:=hnd i j hi hj hv;have e1:(ws.map dwt)[i]=dwt (ws[i]'(by simpa using hi)):=by simp
      simp only[e1]at h9 ⊢;have hj4:j<4:=by rw[e1]at hj;exact hj
      match j,hj4 with
      | 0,_=>exact lit_any h9
      | 1,_=>exact lit_any h9
      | 2,_=>exact lit_any h9
      | 3,_=>exact lit_any h9
end Go.Proofs.YthoebpnbhgmoiaaGreatDoor
