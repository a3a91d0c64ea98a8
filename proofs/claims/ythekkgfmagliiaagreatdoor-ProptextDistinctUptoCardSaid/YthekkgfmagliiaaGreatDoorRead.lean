import Derived.Test.YthekkgfmagliiaaGreatDoorTNode
import Derived.Test.YthekkgfmagliiaaGreatDoorA20
import Derived.ProofKit
import Derived.Deep.Slices
import Derived.ChangeArms
set_option linter.unusedVariables false
set_option linter.unusedSimpArgs false
set_option linter.unusedSectionVars false
namespace Go.Proofs.YthekkgfmagliiaaGreatDoor
open Go.RowKit
mutual
def dq:Ts→Bool→Int
 | .mk o a b e s l,below=>if eB (.mk o a b e s l) below=0 then gf l (below||decide (o=5))else eB (.mk o a b e s l) below
def gf:List Ts→Bool→Int
 | [],_=>0
 | a::r,b=>if dq a b=0 then gf r b else dq a b
end
theorem jO(s:Ts)(below:Bool):dq s below=if eB s below=0 then gf s.args (below||decide (s.op=5))else eB s below:=by cases s;rfl
theorem Ab(s:Ts):∀(below:Bool),bq s≤1000000→∀σ,Fun G 68 [vts s,.d (.lit (.bool below))] σ (aG (.d (ao (dq s below))) σ):=by
 induction s using Ts.ind with
 | h s ih=>
 intro below hs σ;have hln:=dC s;have hq:=jO s below;refine aD Tryz.func68 k68 (by simp only[ax];rfl) fun hb hw=>?_;unfold c68
 have out:∀(n:Int) (l:List (List V)),dq s below=n→fin σ.length Kn (aG (.d (ao (dq s below))) σ) .ret [(4,.d (.lit (.int .i64 n)))] (σ++l):=fun n l h=>by
  rw[h];exact am hb rfl rfl List.take_left ⟨rfl,rfl⟩
 simp -dsimp -implicitDefEqProofs only[aw,ac,V.copy,V.lend,V.lend1,V.cells,V.boxable,over,al,ah,ae,ai,V.plain,Nat.reduceLeDiff,cond_true,cond_false,implies_true,eq_self,ne_eq,reduceIte,reduceCtorEq,Nat.reduceBEq,Nat.reduceLT,Nat.reduceEqDiff,Nat.reduceAdd,Nat.reduceSub,Nat.reduceMul,ax];refine aq (by simpa only[ax]using BC s below hs _) ?_;by_cases h0:eB s below=0
 ·rw[if_pos h0]at hq;simp -dsimp -implicitDefEqProofs only[aw,ac,V.copy,V.lend,V.lend1,V.cells,V.boxable,over,al,ah,ae,ai,V.plain,Nat.reduceLeDiff,cond_true,cond_false,implies_true,eq_self,ne_eq,reduceIte,reduceCtorEq,Nat.reduceBEq,Nat.reduceLT,Nat.reduceEqDiff,Nat.reduceAdd,Nat.reduceSub,Nat.reduceMul,h0,Int.reduceEq,decide_true,decide_false];refine ce [1,2,16,17,18] (R:=fun(j:Nat) ρ σ'=>ρ=[(1,.d (.lit (.bool below))),(2,.ptr σ.length 0),(16,.d (.sl (s.args.map dts))),(17,aW .i64 s.args.length),(18,aW .i64 j)]∧σ'=σ++[fS s]∧dq s below=gf (s.args.drop j) (below||decide (s.op=5))) s.args.length ⟨rfl,rfl,by rw[List.drop_zero];exact hq⟩ ?_ _;rintro j ρ' σ' hj ⟨rfl,rfl,hrec⟩;by_cases hlt:j<s.args.length
  ·rw[List.drop_eq_getElem_cons hlt]at hrec;simp only[gf]at hrec;have ihj:=ih s.args[j] (List.getElem_mem hlt) (below||decide (s.op=5)) (by have:=di (List.getElem_mem hlt);omega);cases below with
   | true=>
    rw[Bool.true_or]at hrec ihj;simp -dsimp -implicitDefEqProofs only[aw,ac,V.copy,V.lend,V.lend1,V.cells,V.boxable,over,al,ah,ae,ai,V.plain,Nat.reduceLeDiff,cond_true,cond_false,implies_true,eq_self,ne_eq,reduceIte,reduceCtorEq,Nat.reduceBEq,Nat.reduceLT,Nat.reduceEqDiff,Nat.reduceAdd,Nat.reduceSub,Nat.reduceMul,Int.ofNat_lt,hlt,decide_true,List.getElem?_eq_getElem hlt,bP s.args[j]];refine aq (by simpa only[ax]using ihj _) ?_;by_cases h1:dq s.args[j] true=0
    ·rw[if_pos h1]at hrec;simp -dsimp -implicitDefEqProofs only[aw,ac,V.copy,V.lend,V.lend1,V.cells,V.boxable,over,al,ah,ae,ai,V.plain,Nat.reduceLeDiff,cond_true,cond_false,implies_true,eq_self,ne_eq,reduceIte,reduceCtorEq,Nat.reduceBEq,Nat.reduceLT,Nat.reduceEqDiff,Nat.reduceAdd,Nat.reduceSub,Nat.reduceMul,h1,Int.reduceEq,decide_true,decide_false,bE hlt (show s.args.length≤9223372036854775807 by omega)];exact⟨hlt,Nxt.drop1 (Nat.le_refl _) (bj hb rfl) (by simp[aP,V.under,V.unders]) ⟨rfl,rfl,by rw[Bool.true_or];exact hrec⟩⟩
    ·rw[if_neg h1]at hrec;simp -dsimp -implicitDefEqProofs only[aw,ac,V.copy,V.lend,V.lend1,V.cells,V.boxable,over,al,ah,ae,ai,V.plain,Nat.reduceLeDiff,cond_true,cond_false,implies_true,eq_self,ne_eq,reduceIte,reduceCtorEq,Nat.reduceBEq,Nat.reduceLT,Nat.reduceEqDiff,Nat.reduceAdd,Nat.reduceSub,Nat.reduceMul,decide_eq_false h1];exact out _ _ hrec
   | false=>
    rw[Bool.false_or]at hrec ihj;simp -dsimp -implicitDefEqProofs only[aw,ac,V.copy,V.lend,V.lend1,V.cells,V.boxable,over,al,ah,ae,ai,V.plain,Nat.reduceLeDiff,cond_true,cond_false,implies_true,eq_self,ne_eq,reduceIte,reduceCtorEq,Nat.reduceBEq,Nat.reduceLT,Nat.reduceEqDiff,Nat.reduceAdd,Nat.reduceSub,Nat.reduceMul,Int.ofNat_lt,hlt,decide_true,List.getElem?_eq_getElem hlt,bP s.args[j]];refine aq (by simpa only[ax]using ihj _) ?_;by_cases h1:dq s.args[j] (decide (s.op=5))=0
    ·rw[if_pos h1]at hrec;simp -dsimp -implicitDefEqProofs only[aw,ac,V.copy,V.lend,V.lend1,V.cells,V.boxable,over,al,ah,ae,ai,V.plain,Nat.reduceLeDiff,cond_true,cond_false,implies_true,eq_self,ne_eq,reduceIte,reduceCtorEq,Nat.reduceBEq,Nat.reduceLT,Nat.reduceEqDiff,Nat.reduceAdd,Nat.reduceSub,Nat.reduceMul,h1,Int.reduceEq,decide_true,decide_false,bE hlt (show s.args.length≤9223372036854775807 by omega)];exact⟨hlt,Nxt.drop1 (Nat.le_refl _) (bj hb rfl) (by simp[aP,V.under,V.unders]) ⟨rfl,rfl,by rw[Bool.false_or];exact hrec⟩⟩
    ·rw[if_neg h1]at hrec;simp -dsimp -implicitDefEqProofs only[aw,ac,V.copy,V.lend,V.lend1,V.cells,V.boxable,over,al,ah,ae,ai,V.plain,Nat.reduceLeDiff,cond_true,cond_false,implies_true,eq_self,ne_eq,reduceIte,reduceCtorEq,Nat.reduceBEq,Nat.reduceLT,Nat.reduceEqDiff,Nat.reduceAdd,Nat.reduceSub,Nat.reduceMul,decide_eq_false h1];exact out _ _ hrec
  ·simp -dsimp -implicitDefEqProofs only[aw,ac,V.copy,V.lend,V.lend1,V.cells,V.boxable,over,al,ah,ae,ai,V.plain,Nat.reduceLeDiff,cond_true,cond_false,implies_true,eq_self,ne_eq,reduceIte,reduceCtorEq,Nat.reduceBEq,Nat.reduceLT,Nat.reduceEqDiff,Nat.reduceAdd,Nat.reduceSub,Nat.reduceMul,Int.ofNat_lt,hlt,decide_false];rw[List.drop_eq_nil_of_le (by omega)]at hrec;exact out 0 _ (by rw[hrec];rfl)
 ·rw[if_neg h0]at hq;simp -dsimp -implicitDefEqProofs only[aw,ac,V.copy,V.lend,V.lend1,V.cells,V.boxable,over,al,ah,ae,ai,V.plain,Nat.reduceLeDiff,cond_true,cond_false,implies_true,eq_self,ne_eq,reduceIte,reduceCtorEq,Nat.reduceBEq,Nat.reduceLT,Nat.reduceEqDiff,Nat.reduceAdd,Nat.reduceSub,Nat.reduceMul,decide_eq_false h0];exact out _ _ hq
def cq(s:Ts):Int:=if 8<tdp s∨100<tsz s then 2 else dq s false
theorem fj(s:Ts)(hs:bq s≤1000000)(σ:List (List V)):Fun G 33 [vts s] σ (aG (.d (ao (cq s))) σ):=by
 refine aD Tryz.func33 k33 (by simp only[ax];rfl) fun hb hw=>?_;unfold c33
 have out:∀(n:Int) (l:List (List V)),cq s=n→fin σ.length MK (aG (.d (ao (cq s))) σ) .ret [(2,.d (.lit (.int .i64 n)))] (σ++l):=fun n l h=>by
  rw[h];exact am hb rfl rfl List.take_left ⟨rfl,rfl⟩
 have c8:decide ((8:Int)<(tdp s:Nat))=decide (8<tdp s):=by congr 1;apply propext;omega
 have C0:decide ((100:Int)<(tsz s:Nat))=decide (100<tsz s):=by congr 1;apply propext;omega
 simp -dsimp -implicitDefEqProofs only[aw,ac,V.copy,V.lend,V.lend1,V.cells,V.boxable,over,al,ah,ae,ai,V.plain,Nat.reduceLeDiff,cond_true,cond_false,implies_true,eq_self,ne_eq,reduceIte,reduceCtorEq,Nat.reduceBEq,Nat.reduceLT,Nat.reduceEqDiff,Nat.reduceAdd,Nat.reduceSub,Nat.reduceMul,ax];refine aq (by simpa only[ax]using vK s hs _) ?_;by_cases h1:8<tdp s
 ·simp -dsimp -implicitDefEqProofs only[aw,ac,V.copy,V.lend,V.lend1,V.cells,V.boxable,over,al,ah,ae,ai,V.plain,Nat.reduceLeDiff,cond_true,cond_false,implies_true,eq_self,ne_eq,reduceIte,reduceCtorEq,Nat.reduceBEq,Nat.reduceLT,Nat.reduceEqDiff,Nat.reduceAdd,Nat.reduceSub,Nat.reduceMul,c8,decide_eq_true h1];exact out 2 _ (by unfold cq;rw[if_pos (.inl h1)])
 ·simp -dsimp -implicitDefEqProofs only[aw,ac,V.copy,V.lend,V.lend1,V.cells,V.boxable,over,al,ah,ae,ai,V.plain,Nat.reduceLeDiff,cond_true,cond_false,implies_true,eq_self,ne_eq,reduceIte,reduceCtorEq,Nat.reduceBEq,Nat.reduceLT,Nat.reduceEqDiff,Nat.reduceAdd,Nat.reduceSub,Nat.reduceMul,c8,decide_eq_false h1];refine aq (by simpa only[ax]using Bj s hs _) ?_;by_cases h2:100<tsz s
  ·simp -dsimp -implicitDefEqProofs only[aw,ac,V.copy,V.lend,V.lend1,V.cells,V.boxable,over,al,ah,ae,ai,V.plain,Nat.reduceLeDiff,cond_true,cond_false,implies_true,eq_self,ne_eq,reduceIte,reduceCtorEq,Nat.reduceBEq,Nat.reduceLT,Nat.reduceEqDiff,Nat.reduceAdd,Nat.reduceSub,Nat.reduceMul,C0,decide_eq_true h2];exact out 2 _ (by unfold cq;rw[if_pos (.inr h2)])
  ·simp -dsimp -implicitDefEqProofs only[aw,ac,V.copy,V.lend,V.lend1,V.cells,V.boxable,over,al,ah,ae,ai,V.plain,Nat.reduceLeDiff,cond_true,cond_false,implies_true,eq_self,ne_eq,reduceIte,reduceCtorEq,Nat.reduceBEq,Nat.reduceLT,Nat.reduceEqDiff,Nat.reduceAdd,Nat.reduceSub,Nat.reduceMul,C0,decide_eq_false h2];refine aq (by simpa only[ax]using Ab s false hs _) ?_;simp -dsimp -implicitDefEqProofs only[aw,ac,V.copy,V.lend,V.lend1,V.cells,V.boxable,over,al,ah,ae,ai,V.plain,Nat.reduceLeDiff,cond_true,cond_false,implies_true,eq_self,ne_eq,reduceIte,reduceCtorEq,Nat.reduceBEq,Nat.reduceLT,Nat.reduceEqDiff,Nat.reduceAdd,Nat.reduceSub,Nat.reduceMul];exact out _ _ (by unfold cq;rw[if_neg (by omega)])
def mem(w:World):av:=fun b o=>w.cell? ⟨b,o,none⟩
theorem DB(w:World):(mem w).hold w:=fun _ _ _ h=>h
theorem Ar(w:World):Inv (mem w) [] [] (fun _ _=>none) (fun b=>b<w.heap.size) w:=
 {facts:=DB w,len:=rfl,box:=fun i b cs h=>by simp at h,free:=fun b h=>by simp at h,bmnd:=List.nodup_nil,
  tok:=fun i j g h=>(nomatch h),inj:=fun i j i' j' g h=>(nomatch h),prlt:=fun b h=>h}
def fY(M:av)(ds:List D)(cs:List Value):Prop:=cs.length=ds.length∧∀i (h:i<ds.length) (h':i<cs.length),DRep M ds[i] cs[i]
theorem fY.nil{M:av}:fY M [] []:=⟨rfl,fun i h=>by simp at h⟩
theorem fY.cons{M:av}{d:D}{v:Value}{ds:List D}{cs:List Value}(h:DRep M d v)(hs:fY M ds cs):fY M (d::ds) (v::cs):=
 ⟨by simp[hs.1],fun i h1 h2=>by
   cases i with
   | zero=>exact h
   | succ i=>exact hs.2 i (by simpa using h1) (by simpa using h2)⟩
theorem fY.append{M:av}{ds ds':List D}{cs cs':List Value}(h:fY M ds cs)(h':fY M ds' cs'):fY M (ds++ds') (cs++cs'):=by
 refine⟨by simp[h.1,h'.1],fun i h1 h2=>?_⟩;by_cases hi:i<ds.length
 ·rw[List.getElem_append_left hi,List.getElem_append_left (by rw[h.1];exact hi)];exact h.2 i _ _
 ·rw[List.getElem_append_right (by omega),List.getElem_append_right (by rw[h.1];omega)];have hl:=h.1;simp only[hl];exact h'.2 (i-ds.length) (by simp at h1;omega) (by simp at h2;omega)
theorem fY.rep{M:av}{bm:List Nat}{ds:List D}{cs:List Value}(h:fY M ds cs):Rep M bm (.agg (ds.map V.d)) (.agg cs.toArray):=by
 refine .agg (by simp[h.1]) (fun i g g'=>?_) (fun v hv=>?_)
 ·simp only[List.getElem_map];exact .d (h.2 i (by simpa using g) g')
 ·obtain⟨i,hi,rfl⟩:=List.getElem_of_mem hv;exact(h.2 i (by rw[←h.1];exact hi) hi).one
theorem sL{w:World}{a:Addr}{v:Value}(h:w.cell? a=some v):a.spot=none:=by
 unfold World.cell? at h;split at h
 ·split at h
  ·cases h
  ·rename_i hs;simpa using hs
 ·cases h
section
variable {H : Type} {enc : TypeId × Value → H} {P : Program} {W : World} {base : Nat} {spare : Nat → Bool} {held : Bool} {fuel : Nat} {t : TypeId} {cs : List Value} {x : DataW H × List MemPlace}
theorem iC(hu:P.underlying t=some (.int .i64))(h:DataW.trod enc P W base spare held fuel t cs=some x):∃n,cs=[.int .i64 n]∧ct (.int .i64 n):=by
 obtain⟨n,rfl,-,w0⟩:=DataW.trod_int hu h;exact⟨n,rfl,by simpa[ct,Lit.wf,IntKind.min,IntKind.max,IntKind.signed,IntKind.bits]using w0⟩
theorem mo(hu:P.underlying t=some .string)(h:DataW.trod enc P W base spare held fuel t cs=some x):∃s:ByteArray,cs=[.string s]∧ct (.string s):=by
 obtain⟨n,rfl,-,w0⟩:=DataW.trod_string hu h;exact⟨n,rfl,w0⟩
theorem ov(hu:P.underlying t=some .bool)(h:DataW.trod enc P W base spare held fuel t cs=some x):∃b,cs=[.bool b]:=by
 obtain⟨n,rfl,-⟩:=DataW.trod_bool hu h;exact⟨n,rfl⟩
end
end Go.Proofs.YthekkgfmagliiaaGreatDoor
