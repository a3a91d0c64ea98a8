import Derived.Lib.AppendZerosOnto
import Derived.Lib.SliceRun
import Derived.Lib.Walk
import Derived.Test.YtnhphlmblenapaaGreatDoorK5
set_option linter.unusedVariables false
set_option linter.unusedSimpArgs false
set_option linter.unusedSectionVars false
set_option maxRecDepth 20000
set_option maxHeartbeats 4000000
open Bool renaming eq_iff_iff->Sq,not_false->Ss,false_and->Su,and_false->Sv,true_and->Sw,not_true->Sx
open Int renaming ofNat_lt->Sy,reduceEq->SA
open List renaming length_map->SB,getElem?_eq_getElem->SC,length->SD,take_of_length_le->SE,take_succ_cons->SF,map_append->SG,getElem_cons_zero->SH,take_add_one->SI,getElem?_map->SJ,take_length->SK,getElem_mem->SL,sum_append->SM
open Nat renaming le_refl->SN,zero_le->SO
namespace Go.Proofs.YtnhphlmblenapaaGreatDoor
open Go.RowKit
def vO(o:Int):V:=match (if o=21 then none else oR o)with
 | some (m,l)=>.tup [.d (aj m),.d (ab l)]
 | none=>.tup [.d (aj ⟨#[]⟩),.d (ab 0)]
theorem Fc{o:Int}(h:¬(7≤o/\o≤21)):oR o=none:=by
 cases hb:oR o with
 | none=>rfl
 | some p=>
  have:=y9 _ (sw (m:=p.1) (l:=p.2) hb);simp only at this;omega
theorem Bt{o:Int}(h:¬(7≤o/\o≤20)):vO o=.tup [.d (aj ⟨#[]⟩),.d (ab 0)]:=by
 unfold vO;by_cases h21:o=21
 .rw[if_pos h21]
 .rw[if_neg h21,Fc (by omega)]
theorem Eg(o:Int)(σ:LLV):Fun G 293 [.d (ab o)] σ (aN (vO o) σ):=by
 refine ae Tryz.func293 QG rfl fun hb hw=>?_;unfold Oa;by_cases h:7≤o/\o≤20
 .have:o=7\/o=8\/o=9\/o=10\/o=11\/o=12\/o=13\/o=14\/o=15\/o=16\/o=17\/o=18\/o=19\/o=20:=by omega
  rcases this with rfl|rfl|rfl|rfl|rfl|rfl|rfl|rfl|rfl|rfl|rfl|rfl|rfl|rfl
  all_goals
   simp -dsimp only[aw,seval,SA,decide_true,decide_false];exact az hb rfl rfl SK ⟨rfl,rfl⟩
 .rw[Bt h];have ne:∀k:Int,7≤k->k≤20->decide (o=k)=false:=fun k h1 h2=>by rw[decide_eq_false_iff_not];omega
  simp -dsimp only[aw,seval,ne 7 (by omega) (by omega),ne 8 (by omega) (by omega),ne 9 (by omega) (by omega),ne 10 (by omega) (by omega),ne 11 (by omega) (by omega),ne 12 (by omega) (by omega),ne 13 (by omega) (by omega),ne 14 (by omega) (by omega),ne 15 (by omega) (by omega),ne 16 (by omega) (by omega),ne 17 (by omega) (by omega),ne 18 (by omega) (by omega),ne 19 (by omega) (by omega),ne 20 (by omega) (by omega)];exact az hb rfl rfl SK ⟨rfl,rfl⟩
section
variable (i : Nat) (t : Option Bs) (k : Nat) (x : It) (d : Nat) (σ : LLV)
end
end Go.Proofs.YtnhphlmblenapaaGreatDoor
namespace Go.Proofs.YtnhphlmblenapaaGreatDoor
open Go.RowKit
section
variable (b c i : Nat) (t : Option Bs) (k : Nat) (x : It) (d : Nat) (σ : LLV)
end
section
variable (i : Nat) (t : Option Bs) (k : Nat) (x : It) (d : Nat) (σ : LLV)
end
end Go.Proofs.YtnhphlmblenapaaGreatDoor
namespace Go.Proofs.YtnhphlmblenapaaGreatDoor
open Go.RowKit
section
variable (i : Nat) (t : Option Bs) (k : Nat) (x : It) (d : Nat) (σ : LLV)
end
end Go.Proofs.YtnhphlmblenapaaGreatDoor
namespace Go.Proofs.YtnhphlmblenapaaGreatDoor
open Go.RowKit
theorem Tryz.under_strs:Tryz.prog.underlying 52=some (.slice 9):=by kernel_rfl
theorem Tryz.under_int:Tryz.prog.underlying 3=some (.int .i64):=by kernel_rfl
theorem Ak(w:World):Calls Tryz.prog 179 #[.slice none 0 0,.int .i64 0] w fun e w'=>e=.returned (.slice none 0 0)/\w'=w:=by
 have h2:wrap64 ((0:Int)-(0:Int))=0:=by unfold wrap64;omega
 go_enter Tryz.func179,Tryz.ntmps179;go_wp2_with fail;go_ret;exact⟨rfl,rfl⟩
theorem Ec(n:Nat)(h0:0<n)(hn:n≤1200000)(w:World):Calls Tryz.prog 179 #[.slice none 0 0,.int .i64 n] w fun e w'=>
 e=.returned (.slice (some ⟨w.heap.size,0,none⟩) 0 (grownCap w n 0 9))/\
  w'=w.drew.alloc (.cells (Builtin.zeroCells #[.string ⟨#[]⟩] n++Builtin.zeroCells #[.string ⟨#[]⟩] (grownCap w n 0 9-n)) 9):=by
 obtain⟨i0,hi0,hz0,hs0,hb0⟩:∃i0,Tryz.prog.info? 9=some i0/\i0.zero=some (.string ⟨#[]⟩)/\i0.size=1/\i0.bytes=16:=by
  have h:=Tryz.infoS;cases hi:Tryz.prog.info? 9 with
  | none=>rw[hi]at h;cases h
  | some i0=>rw[hi]at h;simp only[Option.map_some,Option.some.injEq,Prod.mk.injEq]at h;exact⟨i0,rfl,h.1,h.2.1,h.2.2⟩
 have h1:¬((n:Int)<0):=by omega
 have h2:wrap64 ((0:Int)-(0:Int))=0:=by unfold wrap64;omega
 have h3:wrap64 ((n:Int)-0)=n:=by unfold wrap64;omega
 have h4:(n:Int)>0:=by omega
 have hold:(Builtin.firstCells i0.size 0 (.slice none 0 0)).run Tryz.prog w.drew=.ok (#[]:Array Value) w.drew:=run_firstCells_none w.drew i0.size 0 0 0
 have hrz:∀ty,(Builtin.append_ #[52,3] ty #[.slice none 0 0,.int .i64 (n:Int)]).run Tryz.prog w=
  .ok (.slice (some ⟨w.heap.size,0,none⟩) n (grownCap w n 0 9)) (w.drew.alloc (.cells (Builtin.zeroCells #[.string ⟨#[]⟩] n++Builtin.zeroCells #[.string ⟨#[]⟩] (grownCap w n 0 9-n)) 9)):=fun ty=>by
  have h:=Lib.run_append_grow_zeros w 52 3 ty 9 i0 _ .i64 .i64 Tryz.under_strs Tryz.under_int hi0 hz0 none 0 0 [] hold n (by omega) (by omega) (by omega) (by omega) (by rw[hb0];omega)
   (growslice_fits (by omega) (by rw[hb0];omega))
  simp only[Nat.zero_add]at h;rw[h];simp[Value.cells]
 have hGn:n≤grownCap w n 0 9:=grownCap_ge w _ _ _;obtain⟨G,hG⟩:∃G,G=grownCap w n 0 9:=⟨_,rfl⟩
 rw[<-hG]at hrz hGn ⊢
 have hG63:G≤9223372036854775807:=by
  have:=grownCap_le_maxLen w n 0 9 (by unfold maxLen;omega);rw[<-hG]at this;unfold maxLen at this;omega
 clear hold hG;go_enter Tryz.func179,Tryz.ntmps179;go_wp2_with (at_builtin;refine Lib.wpList_append_run _ rfl _ _ _ _ rfl _ _ rfl rfl _ _ (hrz _) ?_);all_goals (go_ret;exact⟨rfl,rfl⟩)
theorem FV(n:Nat)(hn:n≤1200000)(σ:LLV):Fun G 179 [.nil,.d (ab n)] σ (aN (.own 9 1 []) σ):=
 nf (l:=[]) Tryz.func179 (by kernel_rfl) (by kernel_rfl) fun M bm w vs hG hM hl hr=>match vs,hl with
  | [v,u],_=>by
   refine⟨by simp,?_⟩;have h1:Rep M bm .nil v:=hr 0 (by simp) (by simp);have h2:Rep M bm (.d (ab n)) u:=hr 1 (by simp) (by simp);cases h1 with
   | nil=>cases h2 with
    | d h2=>cases h2 with
     | lit _ _=>
      by_cases h0:n=0
      .subst h0;refine(Ak w).mono fun e w' ⟨h3,h4⟩=>?_;subst h4;exact⟨_,h3,⟨rfl,.inl ⟨rfl,rfl⟩⟩,(fun k hk=>by cases hk),Ext.refl _⟩
      .refine(Ec n (by omega) hn w).mono fun e w' ⟨h3,h4⟩=>?_;subst h4;have hGn:n≤grownCap w n 0 9:=grownCap_ge w _ _ _;have hGm:=grownCap_le_maxLen w n 0 9 (by unfold maxLen;omega);refine⟨_,h3,⟨rfl,.inr ⟨w.heap.size,_,_,rfl,SO _,heap_alloc_new w.drew _,SO _,hGm,?_,rfl⟩⟩,fun k hk=>?_,((Ext.refl w).drew).alloc _⟩
       .simp only[Array.size_append,size_zeroCells,List.size_toArray,List.length_cons,List.length_nil];omega
       .simp only[Value.ownBlock,Option.some.injEq]at hk;omega
theorem yf(ls:List (List ByteArray))(hs:(ls.map SD).sum≤1200000)(hn:ls.length≤1200000)(σ:LLV):
 Fun G 128 [.d (.sl (ls.map fun l=>[D.sl (l.map fun s=>[aj s])]))] σ (aN (.own 9 1 (ls.flatten.map fun s=>[aj s])) σ):=by
 refine ae Tryz.func128 P2 rfl fun hb hw=>?_;unfold LO;generalize hrows:(ls.map fun l=>[D.sl (l.map fun s=>[aj s])])=rows;have hrl:rows.length=ls.length:=by rw[<-hrows,SB]
 have hre:∀j (h:j<ls.length),rows[j]? = some [D.sl (ls[j].map fun s=>[aj s])]:=fun j h=>by rw[<-hrows,SJ,SC h];rfl
 have hle:∀j,((ls.take j).map SD).sum≤(ls.map SD).sum:=fun j=>by
  conv=>rhs;rw[<-List.take_append_drop j ls]
  rw[SG,SM];omega
 simp -dsimp only[aw,seval,hrl];refine aS [0,3,9,10,11] (R:=fun(j:Nat) ρ σ'=>ρ=[(0,.d (.sl rows)),(3,aK .i64 (((ls.take j).map SD).sum:Nat)),(9,.d (.sl rows)),(10,aK .i64 ls.length),(11,aK .i64 j)]/\σ'=σ) ls.length ⟨rfl,rfl⟩ ?_ _;rintro j ρ' σ' hj ⟨rfl,rfl⟩;by_cases hlt:j<ls.length
 .have ht:((ls.take (j+1)).map SD).sum=((ls.take j).map SD).sum+ls[j].length:=by
   rw[SI,SC hlt,SG,SM];show _+(ls[j].length+0)=_;omega
  have h1:=hle (j+1);have hw1:IntKind.i64.wrap ((((ls.take j).map SD).sum:Nat)+(ls[j].length:Int))=(((ls.take (j+1)).map SD).sum:Nat):=by rw[aA (by omega) (by omega),ht];omega
  have hng:¬((((ls.take (j+1)).map SD).sum:Nat):Int)<0:=by omega
  simp -dsimp only[aw,seval,Sy,hlt,decide_true,hre j hlt,hw1,decide_eq_false hng,aT hlt (show ls.length≤9223372036854775807 by omega)];exact Nxt.same (SN _) hb rfl ⟨rfl,rfl⟩
 .simp -dsimp only[aw,seval,Sy,hlt,decide_false];rw[SE (show ls.length≤j by omega)];refine ac (FV _ hs _) ?_;simp -dsimp only[aw,seval,hrl];refine aS [6,25,26,27] (R:=fun(j:Nat) ρ σ''=>ρ=[(6,.own 9 1 ((ls.take j).flatten.map fun s=>[aj s])),(25,.d (.sl rows)),(26,aK .i64 ls.length),(27,aK .i64 j)]/\σ''=σ') ls.length ⟨rfl,rfl⟩ ?_ _;rintro j ρ' σ'' hj ⟨rfl,rfl⟩;by_cases hlt:j<ls.length
  .have ht:(ls.take (j+1)).flatten=(ls.take j).flatten++ls[j]:=by
    rw[SI,SC hlt,List.flatten_append];simp
   have h1:=hle (j+1);have h2:((ls.take j).flatten++ls[j]).length=((ls.take (j+1)).map SD).sum:=by rw[<-ht,List.length_flatten]
   rw[List.length_append]at h2;have hal:(ls[j].map fun s=>[aj s]).all (fun r=>r.length==1)=true:=by rw[List.all_map];exact List.all_eq_true.2 fun _ _=>rfl
   simp -dsimp only[aw,seval,Sy,hlt,decide_true,hre j hlt,hal];refine bh (by first|omega|(simp only[SB];omega)) ?_;simp -dsimp only[aw,seval,aT hlt (show ls.length≤9223372036854775807 by omega)];refine⟨hlt,Nxt.same (SN _) hb rfl ⟨?_,rfl⟩⟩;rw[ht,SG]
  .simp -dsimp only[aw,seval,Sy,hlt,decide_false];rw[SE (show ls.length≤j by omega)];first|exact al hb rfl rfl|exact am hb rfl rfl
end Go.Proofs.YtnhphlmblenapaaGreatDoor
namespace Go.Proofs.YtnhphlmblenapaaGreatDoor
open Go.RowKit Go.Shelf
theorem wL{w:World}{base T k n:Nat}{v:Value}{xs:List Value}(h:w.ownsRow base T k v n xs):w.ownsRow 0 T k v n xs:=
 ⟨h.1,h.2.imp id fun⟨g,cap,cur,a,b,c⟩=>⟨g,cap,cur,a,SO _,c⟩⟩
theorem Gv:∃i0,Tryz.prog.info? 9=some i0/\i0.zero=some (.string ⟨#[]⟩)/\i0.size=1/\i0.bytes=16:=by
 have h:(Tryz.prog.info? 9).map (fun i=>(i.zero,i.size,i.bytes))=some (some (.string ⟨#[]⟩),1,16):=by kernel_rfl
 cases hi:Tryz.prog.info? 9 with
 | none=>rw[hi]at h;cases h
 | some i0=>rw[hi]at h;simp only[Option.map_some,Option.some.injEq,Prod.mk.injEq]at h;exact⟨i0,rfl,h.1,h.2.1,h.2.2⟩
theorem A3(l:List ByteArray)(hl:l.length≤1200000)(v:Value)(w:World)(hv:dm w l v):Calls Tryz.prog 123 #[v] w (tU l w):=by
 obtain⟨p,cap,rfl,h1,h2,h3⟩:=hv
 have fin:∀e w',(∃v',e=Ending.returned v'/\w'.ownsRow w.heap.size 9 1 v' l.length (l.map Value.string)/\v'≠.slice none 0 0/\Below w.heap.size w w')->tU l w e w':=fun e w' ⟨v',g1,g2,_,g4⟩=>
  ⟨v',g1,wL g2,(fun k hk=>(g2.lt k hk).1),g4⟩
 cases p with
 | none=>
  have hl0:l=[]:=by
   cases l with
   | nil=>rfl
   | cons a r=>obtain⟨b,off,e,-⟩:=h3 0 a rfl;cases e
  subst hl0;refine(AnyE.slices_Clone_nil (ρ:=Tryz.cloneSA_ren) Tryz.cloneSA 0 cap w).mono fun e w' ⟨g1,g2⟩=>?_;subst g2;exact⟨_,g1,⟨rfl,.inl ⟨rfl,rfl⟩⟩,(fun k hk=>by cases hk),Ext.refl _⟩
 | some a=>
  by_cases hl0:l=[]
  .subst hl0;exact(AnyG.slices_Clone_string_zero (ρ:=Tryz.cloneZA_ren) Tryz.cloneZA a cap w).mono fin
  .obtain⟨x,r,rfl⟩:=List.exists_cons_of_ne_nil hl0;obtain⟨b,off,e,-⟩:=h3 0 x rfl;cases e;obtain⟨i0,hi,z0,z1,z2⟩:=Gv;refine(AnyE.slices_Clone (ρ:=Tryz.cloneSA_ren) Tryz.cloneSA i0 _ 1 16 hi z0 z1 z2 rfl (by decide) (fun w=>Tryz.sizeOf9 w) b off (x::r).length cap ((x::r).map Value.string) w (by simp) (by unfold maxLen;omega) (by omega) (fun j u hu=>?_) (fun u hu=>?_)).mono fin
   .rw[SJ]at hu;obtain⟨s,hs,rfl⟩:=Option.map_eq_some_iff.1 hu;obtain⟨b',off',e,hc⟩:=h3 j s hs;cases e;exact hc
   .obtain⟨s,-,rfl⟩:=List.mem_map.1 hu;rfl
theorem Bg{M:av}{bm:List Nat}{l:List ByteArray}{v:Value}(h:Rep M bm (.d (cT l)) v):∀s,s∈l->s.size≤maxLen:=by
 intro s hs;cases h with
 | d h=>
 unfold cT at h;generalize hr:(l.map fun s=>[aj s])=rows at h;cases h with
 | sl _ k p cap val hk hd hf hc hm=>
 obtain⟨i,hi,rfl⟩:=List.getElem_of_mem hs;have hir:i<rows.length:=by rw[<-hr];simpa using hi
 have e:rows[i]=[aj l[i]]:=by subst hr;simp
 have:=hd i 0 hir (by rw[e];simp);simp only[e,SH,aj]at this;generalize val i 0=u at this;cases this with|lit _ hf=>exact hf
theorem Cy(l:List ByteArray)(hl:l.length≤1200000)(σ:LLV):Fun G 123 [.d (cT l)] σ (aN (.own 9 1 (l.map fun s=>[aj s])) σ):=
 nf Tryz.func123 (by kernel_rfl) (by kernel_rfl) fun M bm w vs hG hM hn hr=>match vs,hn with
  | [v],_=>by
   have h1:Rep M bm (.d (cT l)) v:=hr 0 (by simp) (by simp);exact⟨Bg h1,A3 l hl v w (mm hM h1)⟩
end Go.Proofs.YtnhphlmblenapaaGreatDoor
namespace Go.Proofs.YtnhphlmblenapaaGreatDoor
open Go.RowKit
theorem jR{P:List It->Prop}(h:∀l,(∀a,a∈l->P a.items/\P a.els)->P l):∀l,P l:=by
 have H:∀n l,cJ l≤n->P l:=by
  intro n
  induction n with
  | zero=>
   intro l hl;refine h l fun a ha=>?_;have:=vM ha;have:=tc a;omega
  | succ n ih=>
   intro l hl;refine h l fun a ha=>?_;have h1:=vM ha;have h2:=p0 a;exact⟨ih _ (by omega),ih _ (by omega)⟩
 exact fun l=>H _ l (SN _)
theorem De(f:List It->Nat)(g:It->Nat)(h0:f []=0)(hc:∀a r,f (a::r)=g a+f r)(l:List It){j:Nat}(h:j<l.length):f (l.take (j+1))=f (l.take j)+g l[j]:=by
 induction l generalizing j with
 | nil=>simp at h
 | cons a r ih=>
  cases j with
  | zero=>simp only[SF,List.take_zero,hc,h0,SH];omega
  | succ j=>simp only[SF,hc,List.getElem_cons_succ];rw[ih (by simpa using h)];omega
theorem rK(l:List It){j:Nat}(h:j<l.length):cJ (l.take (j+1))=cJ (l.take j)+isz l[j]:=De cJ isz rfl (fun _ _=>rfl) l h
theorem mI(l:List It)(j:Nat):cJ (l.take j)≤cJ l:=by
 induction l generalizing j with
 | nil=>simp
 | cons a r ih=>cases j with
  | zero=>simp[cJ]
  | succ j=>rw[SF,cJ,cJ];have:=ih j;omega
theorem AH:∀l:List It,cJ l≤1200000->∀σ,Fun G 66 [.d (gR l)] σ (aN (.d (ab (cJ l:Nat))) σ):=by
 refine jR fun l ih hs σ=>?_;refine ae Tryz.func66 k66 rfl fun hb hw=>?_;unfold c66;have hln:=vw l;simp -dsimp only[aw,seval,SB];refine aS [3,6,7,8] (fun(j:Nat) ρ σ'=>ρ=[(3,aK .i64 (cJ (l.take j):Nat)),(6,.d (gR l)),(7,aK .i64 l.length),(8,aK .i64 j)]/\σ'=σ) l.length ⟨rfl,rfl⟩ ?_ _;rintro j ρ' σ' hj ⟨rfl,rfl⟩;by_cases hlt:j<l.length
 .have ht:=rK l hlt;have hle:=mI l (j+1);have he:=p0 l[j];have w1:IntKind.i64.wrap (1+((cJ l[j].items:Nat):Int))=((1+cJ l[j].items:Nat):Int):=by rw[aA (by omega) (by omega)];omega
  have w2:IntKind.i64.wrap (((1+cJ l[j].items:Nat):Int)+((cJ l[j].els:Nat):Int))=((isz l[j]:Nat):Int):=by rw[aA (by omega) (by omega)];omega
  have w3:IntKind.i64.wrap (((cJ (l.take j):Nat):Int)+((isz l[j]:Nat):Int))=((cJ (l.take (j+1)):Nat):Int):=by rw[aA (by omega) (by omega)];omega
  obtain⟨i1,i2⟩:=ih _ (SL hlt);simp -dsimp only[aw,seval,Sy,hlt,decide_true,SC hlt,dq l[j]];refine bA (i1 (by omega) _) ?_;simp -dsimp only[aw,seval];refine bA (i2 (by omega) _) ?_;simp -dsimp only[aw,seval,w1,w2,w3,aT hlt (show l.length≤9223372036854775807 by omega)];exact⟨hlt,Nxt.drop (SN _) hb rfl ⟨rfl,rfl⟩⟩
 .simp -dsimp only[aw,seval,Sy,hlt,decide_false];rw[SE (by omega)];first|exact al hb rfl rfl|exact am hb rfl rfl
theorem xi:∀l:List It,cJ l≤1200000->∀σ,Fun G 77 [.d (gR l)] σ (aN (.d (ab (cJ l:Nat))) σ):=by
 refine jR fun l ih hs σ=>?_;refine ae Tryz.func77 k77 rfl fun hb hw=>?_;unfold c77;have hln:=vw l;simp -dsimp only[aw,seval,SB];refine aS [0,3,4] (fun(j:Nat) ρ σ'=>∃m:Nat,ρ=[(0,.d (gR l)),(3,aK .i64 (m:Nat)),(4,aK .i64 j)]/\m+j=l.length+cJ (l.take j)/\σ'=σ) l.length ⟨l.length,rfl,by simp[cJ],rfl⟩ ?_ _;rintro j ρ' σ' hj ⟨m,rfl,hm,rfl⟩;by_cases hlt:j<l.length
 .have ht:=rK l hlt;have hle:=mI l (j+1);have he:=p0 l[j];have w1:IntKind.i64.wrap (((m:Nat):Int)+((cJ l[j].items:Nat):Int))=((m+cJ l[j].items:Nat):Int):=by rw[aA (by omega) (by omega)];omega
  have w2:IntKind.i64.wrap (((m+cJ l[j].items:Nat):Int)+((cJ l[j].els:Nat):Int))=((m+cJ l[j].items+cJ l[j].els:Nat):Int):=by rw[aA (by omega) (by omega)];omega
  obtain⟨i1,i2⟩:=ih _ (SL hlt);simp -dsimp only[aw,seval,Sy,hlt,decide_true,SC hlt,dq l[j],SB];refine bA (i1 (by omega) _) ?_;simp -dsimp only[aw,seval,Sy,hlt,decide_true,SC hlt,dq l[j],SB];refine bA (i2 (by omega) _) ?_;simp -dsimp only[aw,seval,w1,w2,aT hlt (show l.length≤9223372036854775807 by omega)];exact⟨hlt,Nxt.same (SN _) hb rfl ⟨_,rfl,by omega,rfl⟩⟩
 .simp -dsimp only[aw,seval,Sy,hlt,decide_false,SB];have:m=cJ l:=by rw[SE (by omega)]at hm;omega
  subst this;first|exact al hb rfl rfl|exact am hb rfl rfl
theorem eC(s:ByteArray)(σ:LLV):Fun G 96 [.d (aj s)] σ (aN (.d (.lit (.bool (bH s)))) σ):=
 pY Tryz.func96 (by kernel_rfl) (by kernel_rfl) trivial fun M bm w v hG hM hr=>by
  cases hr with
  | d hr=>cases hr with
   | lit _ hf=>exact f5 s w (by simpa[da,maxLen]using hf) (o7 hG hM)
theorem sF(s:ByteArray)(σ:LLV):Fun G 127 [.d (aj s)] σ (aN (an (bK s)) σ):=by
 refine ae Tryz.func127 Q9 rfl fun hb hw=>?_;unfold c127
 have hv:(bz (.mk 2 0 s [])=0)=(bK s=true):=by
  unfold bz
  have h1:gq (.mk 2 0 s [])=if bK s=true then 0 else 7:=by
   rw[gq,jP];unfold aL;cases hv:bK s<;>simp[hv,dQ,fu,lE]
  rw[h1];cases hv:bK s<;>simp[bZ,cX,bB,bF]
 simp -dsimp only[aw,seval];refine ac (v:=.d (ab (bz (.mk 2 0 s [])))) (by have:=nZ (.mk 2 0 s []) (by simp[bB,bF]) (by simp[bZ,cX]) σ;simpa only[ao,Ex.op,Ex.num,Ex.name,Ex.args,List.map_nil]using this) ?_;have hd:decide (bz (.mk 2 0 s [])=0)=bK s:=by rw[Sq,decide_eq_true_eq,hv]
 simp -dsimp only[aw,seval,hd];first|exact al hb rfl rfl|exact am hb rfl rfl
theorem A7(e:Ex)(hl:e.args.length≤1200000)(σ:LLV):Fun G 178 [vex e] σ (aN (an (fq e)) σ):=by
 refine ae Tryz.func178 QI (by simp only[ao];rfl) fun hb hw=>?_;unfold N5;have hlen:decide (((e.args.length:Nat):Int)=0)=e.args.isEmpty:=by cases e.args<;>simp;omega
 unfold fq;simp -dsimp only[aw,seval,ao,SB,hlen];all_goals (repeat' (first|(refine cx (fun h1=>?_) (fun h1=>?_)<;>(simp -dsimp only[aw,seval,h1,SB,hlen];try rw[h1]))))
 all_goals first|exact al hb rfl rfl|exact am hb rfl rfl
theorem iX{α:Type}(l:List α):decide (((l.length:Nat):Int)=0)=l.isEmpty:=by cases l<;>simp;omega
theorem xx{α β:Type}(l:List α)(m:List β):decide ((((l.length+m.length:Nat)):Int)=0)=(l.isEmpty&&m.isEmpty):=by cases l<;>cases m<;>simp<;>omega
abbrev Q2(u:List Bool):V:=.agg (u.map an)
def lz(k:Int):List Bool:=if k=1\/k=2 then[true,false,false,false,false,false,false]else if k=3 then[false,true,false,true,false,false,false]else if k=4 then[true,false,false,false,true,true,false]
 else if k=5 then[false,true,true,false,true,false,false]else[false,false,false,false,false,false,true]
theorem Ad(x:It)(hbig:fN x≤1200000)(hk:1≤x.kind/\x.kind≤6)(σ:LLV):Fun G 125 [vit x,Q2 (lz x.kind)] σ (aN (an (bS x)) σ):=by
 have hb0:=ep x
 have h3:x.ex.args.length≤1200000:=by
  have h2:bF x.ex.args≤bB x.ex:=by cases x.ex;simp only[bB,Ex.args];omega
  have:=Jz x.ex.args;omega
 have w1:IntKind.i64.wrap (((x.bef.length:Nat):Int)+((x.aft.length:Nat):Int))=((x.bef.length+x.aft.length:Nat):Int):=by rw[aA (by omega) (by omega)];omega
 have e1:=iX x.ws;have e2:=iX x.items;have e3:=iX x.els;have e4:=xx x.bef x.aft;have hk6:x.kind=1\/x.kind=2\/x.kind=3\/x.kind=4\/x.kind=5\/x.kind=6:=by omega
 refine ae Tryz.func125 RO (by simp only[aJ];rfl) fun hb hw=>?_;unfold Pj;have hbl:=fun σ=>A7 x.ex h3 σ;simp only[ao]at hbl;rcases hk6 with hk|hk|hk|hk|hk|hk
 .have hp:bS x=(decide (x.name=⟨#[]⟩)&&decide (x.idx=⟨#[]⟩)&&x.ws.isEmpty&&x.items.isEmpty&&x.els.isEmpty&&(x.bef.isEmpty&&x.aft.isEmpty)):=by unfold bS;simp[hk]
  have hu:lz x.kind=[true,false,false,false,false,false,false]:=by unfold lz;simp[hk]
  rw[hp,hu];simp -dsimp only[aw,seval,aJ,SB,e1,e2,e3,e4,w1];all_goals (repeat' (first|(refine cx (fun h1=>?_) (fun h1=>?_)<;>(simp -dsimp only[aw,seval,h1,SB,e1,e2,e3,e4,w1];try rw[h1]))))
  all_goals first|exact al hb rfl rfl|exact am hb rfl rfl
 .have hp:bS x=(decide (x.name=⟨#[]⟩)&&decide (x.idx=⟨#[]⟩)&&x.ws.isEmpty&&x.items.isEmpty&&x.els.isEmpty&&(x.bef.isEmpty&&x.aft.isEmpty)):=by unfold bS;simp[hk]
  have hu:lz x.kind=[true,false,false,false,false,false,false]:=by unfold lz;simp[hk]
  rw[hp,hu];simp -dsimp only[aw,seval,aJ,SB,e1,e2,e3,e4,w1];all_goals (repeat' (first|(refine cx (fun h1=>?_) (fun h1=>?_)<;>(simp -dsimp only[aw,seval,h1,SB,e1,e2,e3,e4,w1];try rw[h1]))))
  all_goals first|exact al hb rfl rfl|exact am hb rfl rfl
 .have hp:bS x=(fq x.ex&&decide (x.idx=⟨#[]⟩)&&x.items.isEmpty&&x.els.isEmpty&&(x.bef.isEmpty&&x.aft.isEmpty)):=by unfold bS;simp[hk]
  have hu:lz x.kind=[false,true,false,true,false,false,false]:=by unfold lz;simp[hk]
  rw[hp,hu];simp -dsimp only[aw,seval,aJ,SB,e1,e2,e3,e4,w1];refine ac (hbl _) ?_;simp -dsimp only[aw,seval,aJ,SB,e1,e2,e3,e4,w1];all_goals (repeat' (first|(refine cx (fun h1=>?_) (fun h1=>?_)<;>(simp -dsimp only[aw,seval,h1,SB,e1,e2,e3,e4,w1];try rw[h1]))))
  all_goals first|exact al hb rfl rfl|exact am hb rfl rfl
 .have hp:bS x=(decide (x.name=⟨#[]⟩)&&decide (x.idx=⟨#[]⟩)&&x.ws.isEmpty&&(x.bef.isEmpty&&x.aft.isEmpty)):=by unfold bS;simp[hk]
  have hu:lz x.kind=[true,false,false,false,true,true,false]:=by unfold lz;simp[hk]
  rw[hp,hu];simp -dsimp only[aw,seval,aJ,SB,e1,e2,e3,e4,w1];all_goals (repeat' (first|(refine cx (fun h1=>?_) (fun h1=>?_)<;>(simp -dsimp only[aw,seval,h1,SB,e1,e2,e3,e4,w1];try rw[h1]))))
  all_goals first|exact al hb rfl rfl|exact am hb rfl rfl
 .have hp:bS x=(fq x.ex&&x.ws.isEmpty&&x.els.isEmpty&&(x.bef.isEmpty&&x.aft.isEmpty)):=by unfold bS;simp[hk]
  have hu:lz x.kind=[false,true,true,false,true,false,false]:=by unfold lz;simp[hk]
  rw[hp,hu];simp -dsimp only[aw,seval,aJ,SB,e1,e2,e3,e4,w1];refine ac (hbl _) ?_;simp -dsimp only[aw,seval,aJ,SB,e1,e2,e3,e4,w1];all_goals (repeat' (first|(refine cx (fun h1=>?_) (fun h1=>?_)<;>(simp -dsimp only[aw,seval,h1,SB,e1,e2,e3,e4,w1];try rw[h1]))))
  all_goals first|exact al hb rfl rfl|exact am hb rfl rfl
 .have hp:bS x=(fq x.ex&&decide (x.name=⟨#[]⟩)&&decide (x.idx=⟨#[]⟩)&&x.ws.isEmpty&&x.items.isEmpty&&x.els.isEmpty):=by unfold bS;simp[hk]
  have hu:lz x.kind=[false,false,false,false,false,false,true]:=by unfold lz;simp[hk]
  rw[hp,hu];simp -dsimp only[aw,seval,aJ,SB,e1,e2,e3,e4,w1];refine ac (hbl _) ?_;simp -dsimp only[aw,seval,aJ,SB,e1,e2,e3,e4,w1];all_goals (repeat' (first|(refine cx (fun h1=>?_) (fun h1=>?_)<;>(simp -dsimp only[aw,seval,h1,SB,e1,e2,e3,e4,w1];try rw[h1]))))
  all_goals first|exact al hb rfl rfl|exact am hb rfl rfl
def wE(ws:List Wt):Int:=if ws.length>16 then 2 else if ws=[]then 1 else if ws.all wtB=false then 1 else 0
theorem u1(ws:List Wt)(hl:ws.length≤1200000)(σ:LLV):Fun G 126 [.d (.sl (ws.map dwt))] σ (aN (.d (ab (wE ws))) σ):=by
 refine ae Tryz.func126 RG rfl fun hb hw=>?_;unfold Lo wE;by_cases h1:ws.length>16
 .have h1':((16:Int)<((ws.length:Nat):Int)):=by omega
  rw[if_pos h1];simp -dsimp only[aw,seval,SB,decide_eq_true h1'];first|exact al hb rfl rfl|exact am hb rfl rfl
 .have h1':¬((16:Int)<((ws.length:Nat):Int)):=by omega
  rw[if_neg h1];by_cases h2:ws=[]
  .rw[if_pos h2];subst h2;simp -dsimp only[aw,seval,SB,decide_false,SA,decide_true,Int.ofNat_zero,Int.reduceLT];first|exact al hb rfl rfl|exact am hb rfl rfl
  .rw[if_neg h2];have h2':¬(((ws.length:Nat):Int)=0):=by have:=List.length_pos_iff.2 h2;omega
   simp -dsimp only[aw,seval,SB,decide_eq_false h1',decide_eq_false h2'];refine aS [13,14,15] (fun(j:Nat) ρ σ'=>ρ=[(13,.d (.sl (ws.map dwt))),(14,aK .i64 ws.length),(15,aK .i64 j)]/\σ'=σ/\ws.all wtB=(ws.drop j).all wtB) ws.length ⟨rfl,rfl,rfl⟩ ?_ _;rintro j ρ' σ' hj ⟨rfl,rfl,hr⟩;by_cases hlt:j<ws.length
   .rw[List.drop_eq_getElem_cons hlt,List.all_cons]at hr;have hd:dwt ws[j]=[ab ws[j].lo,ab ws[j].hi,ab ws[j].w,dbl ws[j].each]:=rfl;have hwt:wtB ws[j]=(!decide (ws[j].lo<0) && !decide (ws[j].hi<ws[j].lo) && !decide (65535<ws[j].hi) && !decide (ws[j].w<0) && !decide (1000<ws[j].w)):=by unfold wtB;rw[Sq];simp
    rw[hwt]at hr;simp -dsimp only[aw,seval,Sy,hlt,decide_true,SC hlt,hd,aT hlt (show ws.length≤9223372036854775807 by omega)];all_goals (repeat' (first|(refine cx (fun h1=>?_) (fun h1=>?_)<;>(simp -dsimp only[aw,seval,h1,aT hlt (show ws.length≤9223372036854775807 by omega)];try rw[h1]))))
    all_goals first|exact az hb rfl rfl List.take_left ⟨by rw[hr];simp only[*,Sx,Ss,Sv,Su,Sw,if_true];rfl,rfl⟩|exact⟨hlt,Nxt.drop (SN _) hb rfl ⟨rfl,rfl,by rw[hr];simp only[*,Sx,Ss,Sv,Su,Sw]⟩⟩|(trace_state;fail)
   .simp -dsimp only[aw,seval,Sy,hlt,decide_false];rw[List.drop_eq_nil_of_le (by omega)]at hr;rw[hr];first|exact al hb rfl rfl|exact am hb rfl rfl
section
variable (fs : List (ByteArray × Int))
end
end Go.Proofs.YtnhphlmblenapaaGreatDoor
namespace Go.Proofs.YtnhphlmblenapaaGreatDoor
open Go.RowKit
section
variable (spl : ByteArray -> Option (ByteArray × Int)) (fs : List (ByteArray × Int))
end
end Go.Proofs.YtnhphlmblenapaaGreatDoor
namespace Go.Proofs.YtnhphlmblenapaaGreatDoor
open Go.RowKit
end Go.Proofs.YtnhphlmblenapaaGreatDoor
