import Derived.Lib.AtoiErrMem
import Derived.Test.YtcbahpllcfbkmaaGreatDoorEt1
import Derived.Test.YtcbahpllcfbkmaaGreatDoorBr8
set_option linter.unusedVariables false
set_option linter.unusedSimpArgs false
set_option linter.unusedSectionVars false
namespace Go.Proofs.YtcbahpllcfbkmaaGreatDoor
open Go.RowKit
theorem ly(sep:Bs)(l:List ByteArray)(hn:l.length≤140737488355328)(hlen:(Lib.join (l.map (·.data.toList)) sep).length≤140737488355328)(σ:List (List V)):
 Fun G 24 [.d (cT l),.d (an (bs sep))] σ (aZ (.d (an (bs (Lib.join (l.map (·.data.toList)) sep)))) σ):=
 t7 Tryz.func24 (by kernel_rfl) (by kernel_rfl) (by show(bs _).size≤maxLen;rw[dE];unfold maxLen;omega) fun M bm pr w v v' hG hM h1 h2=>by
  cases mm h2;obtain⟨p,cap,rfl,g1,g2,g3⟩:=jX hM h1;by_cases h0:l=[]
  ·subst h0;exact rl (Tryz.strings_Join_none p cap (bs sep) w)
  ·have hp:0<l.length:=List.length_pos_iff.2 h0;obtain⟨b,off,rfl,g4⟩:=g3 0 (l[0]'hp) (List.getElem?_eq_getElem hp)
   have h:=Tryz.strings_Join b off cap l (bs sep) w (fun j x hj=>by
    obtain⟨b',off',e,g5⟩:=g3 j x hj;cases e;exact g5) (Lib.lt_of_cell g4) hn g1 (by rw[bH];exact hlen)
   rw[bH]at h;exact h
theorem tC(d:Bs)(hl:d.length≤1200000)(σ:List (List V)):Fun G 173 [.d (an (bs (d++[93]))),.d (an ⟨#[93]⟩)] σ (aZ (aA true) σ):=by
 refine ay Tryz.func173 Hg rfl fun hb hw=>?_;unfold FY;have hn:(d++[93]).length=d.length+1:=by simp
 have h1:((⟨#[93]⟩:ByteArray).size:Int)=1:=rfl;have hle:(1:Int)≤(((d++[93]).length:Nat):Int):=by rw[hn];omega
 have hw1:IntKind.i64.wrap ((((d++[93]).length:Nat):Int)-1)=((d.length:Nat):Int):=by rw[hn,bD (by omega) (by omega)];omega
 have hs:=yp (d++[93]) d.length (by rw[hn];omega);rw[List.drop_left]at hs;have he:decide (bs [93]=(⟨#[93]⟩:ByteArray))=true:=by rw[decide_eq_true_eq];rfl
 generalize d++[93]=dt at *;simp -dsimp -implicitDefEqProofs only[aw,ah,V.copy,V.lend,V.lend1,V.cells,V.boxable,over,ak,ae,ac,ai,V.plain,Nat.reduceLeDiff,cond_true,cond_false,implies_true,eq_self,ne_eq,reduceIte,reduceCtorEq,Nat.reduceBEq,Nat.reduceLT,Nat.reduceEqDiff,Nat.reduceAdd,Nat.reduceSub,Nat.reduceMul,dE,h1,decide_eq_true hle,hw1,hs,he];first|exact aj hb rfl rfl List.take_length ⟨rfl,rfl⟩|exact aj hb rfl rfl List.take_left ⟨rfl,rfl⟩|(trace_state;fail "fin")
theorem xM(d:Bs)(hl:d.length≤1200000)(σ:List (List V)):Fun G 161 [.d (an (bs (d++[93]))),.d (an ⟨#[93]⟩)] σ (aZ (.d (an (bs d))) σ):=by
 refine ay Tryz.func161 Hn rfl fun hb hw=>?_;unfold Fv;have hn:(d++[93]).length=d.length+1:=by simp
 have h1:((⟨#[93]⟩:ByteArray).size:Int)=1:=rfl;have hw1:IntKind.i64.wrap ((((d++[93]).length:Nat):Int)-1)=((d.length:Nat):Int):=by rw[hn,bD (by omega) (by omega)];omega
 have hs:=yi (d++[93]) d.length (by rw[hn];omega);rw[List.take_left]at hs;have hf:=tC d hl;generalize d++[93]=dt at *;simp -dsimp -implicitDefEqProofs only[aw,ah,V.copy,V.lend,V.lend1,V.cells,V.boxable,over,ak,ae,ac,ai,V.plain,Nat.reduceLeDiff,cond_true,cond_false,implies_true,eq_self,ne_eq,reduceIte,reduceCtorEq,Nat.reduceBEq,Nat.reduceLT,Nat.reduceEqDiff,Nat.reduceAdd,Nat.reduceSub,Nat.reduceMul];refine aq (hf _) ?_;simp -dsimp -implicitDefEqProofs only[aw,ah,V.copy,V.lend,V.lend1,V.cells,V.boxable,over,ak,ae,ac,ai,V.plain,Nat.reduceLeDiff,cond_true,cond_false,implies_true,eq_self,ne_eq,reduceIte,reduceCtorEq,Nat.reduceBEq,Nat.reduceLT,Nat.reduceEqDiff,Nat.reduceAdd,Nat.reduceSub,Nat.reduceMul,dE,h1,hw1,hs]
 first|exact aj hb rfl rfl List.take_length ⟨rfl,rfl⟩|exact aj hb rfl rfl List.take_left ⟨rfl,rfl⟩|(trace_state;fail "fin")
theorem qO(d:Bs)(hl:d.length≤1200000)(σ:List (List V)):Fun G 145 [.d (an (bs (d++[93]))),.d (an ⟨#[93]⟩)] σ (aZ (.d (an (bs d))) σ):=by
 refine ay Tryz.func145 GX rfl fun hb hw=>?_;unfold GF;simp -dsimp -implicitDefEqProofs only[aw,ah,V.copy,V.lend,V.lend1,V.cells,V.boxable,over,ak,ae,ac,ai,V.plain,Nat.reduceLeDiff,cond_true,cond_false,implies_true,eq_self,ne_eq,reduceIte,reduceCtorEq,Nat.reduceBEq,Nat.reduceLT,Nat.reduceEqDiff,Nat.reduceAdd,Nat.reduceSub,Nat.reduceMul];refine aq (xM d hl _) ?_;simp -dsimp -implicitDefEqProofs only[aw,ah,V.copy,V.lend,V.lend1,V.cells,V.boxable,over,ak,ae,ac,ai,V.plain,Nat.reduceLeDiff,cond_true,cond_false,implies_true,eq_self,ne_eq,reduceIte,reduceCtorEq,Nat.reduceBEq,Nat.reduceLT,Nat.reduceEqDiff,Nat.reduceAdd,Nat.reduceSub,Nat.reduceMul];first|exact aj hb rfl rfl List.take_length ⟨rfl,rfl⟩|exact aj hb rfl rfl List.take_left ⟨rfl,rfl⟩|(trace_state;fail "fin")
theorem mN:∀(x q:Bs),(∀c,c∈x→c≠91)→Lib.indexByte (x++91::q) 91=(x.length:Nat)
 | [],q,_=>rfl
 | a::x,q,h=>by
  have ih:=mN x q fun c hc=>h c (by simp[hc]);have ha:(a==(91:UInt8))=false:=beq_eq_false_iff_ne.2 (h a (by simp));simp only[List.cons_append,Lib.indexByte,ha,ih,Bool.false_eq_true,if_false];rw[if_neg (by simp;try omega)];simp
theorem jW:∀(x:Bs),(∀c,c∈x→c≠91)→Lib.indexByte x 91 = -1
 | [],_=>rfl
 | a::x,h=>by
  have ih:=jW x fun c hc=>h c (by simp[hc]);have ha:(a==(91:UInt8))=false:=beq_eq_false_iff_ne.2 (h a (by simp));simp only[Lib.indexByte,ha,ih,Bool.false_eq_true,if_false];rfl
theorem jK(l:Bs)(hl:l.length≤1200000)(σ:List (List V)):Fun G 171 [.d (an (bs l)),.d (.lit (.int .u8 91))] σ (aZ (.d (az (Lib.indexByte l 91))) σ):=
 qW Tryz.func171 (by kernel_rfl) (by kernel_rfl) (by
  have h1:=Lib.indexByte_ge l 91
  have h2:Lib.indexByte l 91≤l.length:=by
   clear h1 hl
   induction l with
   | nil=>simp[Lib.indexByte]
   | cons a r ih=>simp only[Lib.indexByte,List.length_cons];repeat' split
                  all_goals omega
  simp only[ce,IntKind.min,IntKind.max,IntKind.signed,IntKind.bits];simp;omega) fun pr w _=>by
  have:=rl (Tryz.strings_IndexByte (bs l) 91 w);rw[bH]at this;exact this
theorem jw{l:Bs}(h:gJ l=true):∀c,c∈l→c≠91:=by
 intro c hc;cases l with
 | nil=>cases hc
 | cons a r=>
  simp only[gJ,Bool.and_eq_true]at h;have:=List.all_eq_true.1 h.2 c hc;rintro rfl;revert this;decide
theorem ji{s:ByteArray}(h:aD s=true):gJ s.data.toList=true:=by
 simp only[aD,Bool.and_eq_true]at h;exact h.1.1
theorem vB(s:ByteArray)(h:aL s=true)(σ:List (List V)):Fun G 159 [.d (an s)] σ (aZ (.d (an (bs (aF (.mk 2 0 s []))))) σ):=by
 rw[iW];unfold aL at h;rw[Bool.or_eq_true]at h;refine ay Tryz.func159 Ir rfl fun hb hw=>?_;unfold Fn;by_cases hel:dO s=true
 ·rw[if_pos hel];obtain⟨g1,g2,g3,g4⟩:=cv hel;have hw1:=ji g1;have hl:=cq g1;have h91:=jw hw1;have h5:=gI (bT s).toNat (by omega)
  have hsb:s.data.toList=(df s 91).data.toList++91::(Lib.decDigits (bT s).toNat++[93]):=by
   have:=congrArg (fun s:ByteArray=>s.data.toList) g4;simp only[ib,nW]at this;rw[←this];simp[al]
  generalize (df s 91).data.toList=x at *;generalize Lib.decDigits (bT s).toNat=d at *;have hss:s=bs (x++91::(d++[93])):=by rw[←hsb,eU]
  rw[hss];have hix:=mN x (d++[93]) h91;have hlen:(x++91::(d++[93])).length=x.length+(d.length+2):=by simp
  have s1:=yi (x++91::(d++[93])) x.length (by rw[hlen];omega);rw[List.take_left]at s1;have s2:=yp (x++91::(d++[93])) (x.length+1) (by rw[hlen];omega)
  have hdr:(x++91::(d++[93])).drop (x.length+1)=d++[93]:=by
   rw[←List.drop_drop,List.drop_left];rfl
  rw[hdr]at s2;have a1:bg .add (V.d (an (bs x))) (V.d (an ⟨#[64]⟩))=some (V.d (an (bs (x++[64])))):=bJ x [64] (by simp;omega)
  have a2:bg .add (V.d (an (bs (x++[64])))) (V.d (an (bs d)))=some (V.d (an (bs (x++64::d)))):=by
   have:=bJ (x++[64]) d (by simp;omega);rw[this,List.append_assoc];rfl
  have hw2:IntKind.i64.wrap (((x.length:Nat):Int)+1)=((x.length+1:Nat):Int):=by rw[bD (by omega) (by omega)];omega
  have hif:=jK (x++91::(d++[93])) (by rw[hlen];omega);rw[hix]at hif;generalize x++91::(d++[93])=T at *;simp -dsimp -implicitDefEqProofs only[aw,ah,V.copy,V.lend,V.lend1,V.cells,V.boxable,over,ak,ae,ac,ai,V.plain,Nat.reduceLeDiff,cond_true,cond_false,implies_true,eq_self,ne_eq,reduceIte,reduceCtorEq,Nat.reduceBEq,Nat.reduceLT,Nat.reduceEqDiff,Nat.reduceAdd,Nat.reduceSub,Nat.reduceMul];refine aq (hif _) ?_;simp -dsimp -implicitDefEqProofs only[aw,ah,V.copy,V.lend,V.lend1,V.cells,V.boxable,over,ak,ae,ac,ai,V.plain,Nat.reduceLeDiff,cond_true,cond_false,implies_true,eq_self,ne_eq,reduceIte,reduceCtorEq,Nat.reduceBEq,Nat.reduceLT,Nat.reduceEqDiff,Nat.reduceAdd,Nat.reduceSub,Nat.reduceMul,decide_eq_true (show(0:Int)≤((x.length:Nat):Int)by omega),s1,a1,hw2,s2];refine aK (qO d (by omega) _) ?_
  simp -dsimp -implicitDefEqProofs only[aw,ah,V.copy,V.lend,V.lend1,V.cells,V.boxable,over,ak,ae,ac,ai,V.plain,Nat.reduceLeDiff,cond_true,cond_false,implies_true,eq_self,ne_eq,reduceIte,reduceCtorEq,Nat.reduceBEq,Nat.reduceLT,Nat.reduceEqDiff,Nat.reduceAdd,Nat.reduceSub,Nat.reduceMul,a2];first|exact aj hb rfl rfl List.take_length ⟨rfl,rfl⟩|exact aj hb rfl rfl List.take_left ⟨rfl,rfl⟩|(trace_state;fail "fin")
 ·rw[if_neg hel];have hn:=h.resolve_left hel;have hix:=jW s.data.toList (jw (ji hn));have hif:=jK s.data.toList (by have:=cq hn;omega);rw[hix,eU]at hif;simp -dsimp -implicitDefEqProofs only[aw,ah,V.copy,V.lend,V.lend1,V.cells,V.boxable,over,ak,ae,ac,ai,V.plain,Nat.reduceLeDiff,cond_true,cond_false,implies_true,eq_self,ne_eq,reduceIte,reduceCtorEq,Nat.reduceBEq,Nat.reduceLT,Nat.reduceEqDiff,Nat.reduceAdd,Nat.reduceSub,Nat.reduceMul];refine aq (hif _) ?_;simp -dsimp -implicitDefEqProofs only[aw,ah,V.copy,V.lend,V.lend1,V.cells,V.boxable,over,ak,ae,ac,ai,V.plain,Nat.reduceLeDiff,cond_true,cond_false,implies_true,eq_self,ne_eq,reduceIte,reduceCtorEq,Nat.reduceBEq,Nat.reduceLT,Nat.reduceEqDiff,Nat.reduceAdd,Nat.reduceSub,Nat.reduceMul,Int.reduceLE,decide_false];rw[eU]
  first|exact aj hb rfl rfl List.take_length ⟨rfl,rfl⟩|exact aj hb rfl rfl List.take_left ⟨rfl,rfl⟩|(trace_state;fail "fin")
mutual
def iF:Ex→Ex→Bool
 | .mk o n s l,.mk o' n' s' l'=>(decide (o=o')&&(decide (n=n')&&(decide (s=s')&&gg l l')))
def gg:List Ex→List Ex→Bool
 | [],[]=>true
 | a::r,b::r'=>iF a b&&gg r r'
 | _,_=>false
end
theorem o6:∀{l l':List Ex},l.length≠l'.length→gg l l'=false
 | [],[],h=>absurd rfl h
 | a::r,b::r',h=>by simp only[gg,o6 (l:=r) (l':=r') (by simpa using h),Bool.and_false]
 | [],_::_,_=>rfl
 | _::_,[],_=>rfl
theorem qA(a b:Ex):iF a b=(decide (a.op=b.op)&&(decide (a.num=b.num)&&(decide (a.name=b.name)&&gg a.args b.args))):=by
 cases a;cases b;rfl
theorem Ex.ind2{P:Ex→Prop}(h:∀e:Ex,(∀a,a∈e.args→P a)→P e):∀e,P e:=Ex.ind fun o n s l ih=>h (.mk o n s l) ih
theorem nK{l l':List Ex}{j:Nat}(h:j<l.length)(h':j<l'.length):gg (l.drop j) (l'.drop j)=(iF l[j] l'[j]&&gg (l.drop (j+1)) (l'.drop (j+1))):=by
 rw[List.drop_eq_getElem_cons h,List.drop_eq_getElem_cons h'];rfl
theorem ov(a:Ex):∀(b:Ex) (σ:List (List V)),Fun G 81 [vex a,vex b] σ (aZ (aA (iF a b)) σ):=by
 induction a using Ex.ind2 with
 | h a ih=>
 intro b σ;refine ay Tryz.func81 k81 (by simp only[be];rfl) fun hb hw=>?_;have hq:=qA a b;have h0:=hw 0 (by simp);simp only[List.getElem_cons_zero,be]at h0;have hm:=Ed (Cq h0 3 (by simp));simp only[List.getElem_cons_succ,List.getElem_cons_zero,List.length_map]at hm
 have out:∀(σ' l:List (List V)) (b1:Bool),iF a b=b1→σ'=σ++l→fin σ.length FC (aZ (aA (iF a b)) σ) .ret [(4,.d (.lit (.bool b1)))] σ':=fun σ' l b1 h e=>by
  subst e;exact aj hb rfl rfl List.take_left ⟨by rw[h];rfl,rfl⟩
 unfold c81;simp -dsimp -implicitDefEqProofs only[aw,ah,V.copy,V.lend,V.lend1,V.cells,V.boxable,over,ak,ae,ac,ai,V.plain,Nat.reduceLeDiff,cond_true,cond_false,implies_true,eq_self,ne_eq,reduceIte,reduceCtorEq,Nat.reduceBEq,Nat.reduceLT,Nat.reduceEqDiff,Nat.reduceAdd,Nat.reduceSub,Nat.reduceMul,be];refine bZ (fun h1=>?_) (fun h1=>?_)
 ·simp -dsimp -implicitDefEqProofs only[aw,ah,V.copy,V.lend,V.lend1,V.cells,V.boxable,over,ak,ae,ac,ai,V.plain,Nat.reduceLeDiff,cond_true,cond_false,implies_true,eq_self,ne_eq,reduceIte,reduceCtorEq,Nat.reduceBEq,Nat.reduceLT,Nat.reduceEqDiff,Nat.reduceAdd,Nat.reduceSub,Nat.reduceMul];refine bZ (fun h2=>?_) (fun h2=>?_)
  ·simp -dsimp -implicitDefEqProofs only[aw,ah,V.copy,V.lend,V.lend1,V.cells,V.boxable,over,ak,ae,ac,ai,V.plain,Nat.reduceLeDiff,cond_true,cond_false,implies_true,eq_self,ne_eq,reduceIte,reduceCtorEq,Nat.reduceBEq,Nat.reduceLT,Nat.reduceEqDiff,Nat.reduceAdd,Nat.reduceSub,Nat.reduceMul];refine bZ (fun h3=>?_) (fun h3=>?_)
   ·simp -dsimp -implicitDefEqProofs only[aw,ah,V.copy,V.lend,V.lend1,V.cells,V.boxable,over,ak,ae,ac,ai,V.plain,Nat.reduceLeDiff,cond_true,cond_false,implies_true,eq_self,ne_eq,reduceIte,reduceCtorEq,Nat.reduceBEq,Nat.reduceLT,Nat.reduceEqDiff,Nat.reduceAdd,Nat.reduceSub,Nat.reduceMul,Int.ofNat_inj];refine bZ (fun h4=>?_) (fun h4=>?_)
    ·simp -dsimp -implicitDefEqProofs only[aw,ah,V.copy,V.lend,V.lend1,V.cells,V.boxable,over,ak,ae,ac,ai,V.plain,Nat.reduceLeDiff,cond_true,cond_false,implies_true,eq_self,ne_eq,reduceIte,reduceCtorEq,Nat.reduceBEq,Nat.reduceLT,Nat.reduceEqDiff,Nat.reduceAdd,Nat.reduceSub,Nat.reduceMul];exact out _ _ _ (by rw[hq,o6 (by simpa using h4)];simp) rfl
    ·simp -dsimp -implicitDefEqProofs only[aw,ah,V.copy,V.lend,V.lend1,V.cells,V.boxable,over,ak,ae,ac,ai,V.plain,Nat.reduceLeDiff,cond_true,cond_false,implies_true,eq_self,ne_eq,reduceIte,reduceCtorEq,Nat.reduceBEq,Nat.reduceLT,Nat.reduceEqDiff,Nat.reduceAdd,Nat.reduceSub,Nat.reduceMul];have h4:a.args.length=b.args.length:=by simpa using h4
     generalize hbx:[[V.d (az a.op),V.d (az a.num),V.d (an a.name),V.d (D.sl (List.map dex a.args))],[V.d (az b.op),V.d (az b.num),V.d (an b.name),V.d (D.sl (List.map dex b.args))]]=bx at out ⊢;refine mr (R:=fun(j:Nat) ρ σ'=>ρ=[(2,.ptr σ.length 0),(3,.ptr (σ.length+1) 0),(5,aI .i64 j)]∧σ'=σ++bx∧gg a.args b.args=gg (a.args.drop j) (b.args.drop j)) a.args.length ⟨rfl,rfl,by simp⟩ ?_ _;rintro j ρ' σ' hj ⟨rfl,rfl,hrec⟩;subst hbx;by_cases hlt:j<a.args.length
     ·have hlt':j<b.args.length:=by omega
      simp -dsimp -implicitDefEqProofs only[aw,ah,V.copy,V.lend,V.lend1,V.cells,V.boxable,over,ak,ae,ac,ai,V.plain,Nat.reduceLeDiff,cond_true,cond_false,implies_true,eq_self,ne_eq,reduceIte,reduceCtorEq,Nat.reduceBEq,Nat.reduceLT,Nat.reduceEqDiff,Nat.reduceAdd,Nat.reduceSub,Nat.reduceMul,Int.ofNat_lt,hlt,decide_true,List.getElem?_eq_getElem hlt,List.getElem?_eq_getElem hlt',cS];refine aK (by simpa only[be]using ih _ (List.getElem_mem hlt) _ _) ?_;simp -dsimp -implicitDefEqProofs only[aw,ah,V.copy,V.lend,V.lend1,V.cells,V.boxable,over,ak,ae,ac,ai,V.plain,Nat.reduceLeDiff,cond_true,cond_false,implies_true,eq_self,ne_eq,reduceIte,reduceCtorEq,Nat.reduceBEq,Nat.reduceLT,Nat.reduceEqDiff,Nat.reduceAdd,Nat.reduceSub,Nat.reduceMul,aJ hlt hm];refine bZ (fun hs=>?_) (fun hs=>?_)
      ·simp -dsimp -implicitDefEqProofs only[aw,ah,V.copy,V.lend,V.lend1,V.cells,V.boxable,over,ak,ae,ac,ai,V.plain,Nat.reduceLeDiff,cond_true,cond_false,implies_true,eq_self,ne_eq,reduceIte,reduceCtorEq,Nat.reduceBEq,Nat.reduceLT,Nat.reduceEqDiff,Nat.reduceAdd,Nat.reduceSub,Nat.reduceMul];exact out _ _ _ (by rw[hq,hrec,nK hlt hlt'];simp_all) rfl
      ·simp -dsimp -implicitDefEqProofs only[aw,ah,V.copy,V.lend,V.lend1,V.cells,V.boxable,over,ak,ae,ac,ai,V.plain,Nat.reduceLeDiff,cond_true,cond_false,implies_true,eq_self,ne_eq,reduceIte,reduceCtorEq,Nat.reduceBEq,Nat.reduceLT,Nat.reduceEqDiff,Nat.reduceAdd,Nat.reduceSub,Nat.reduceMul,aJ hlt hm];refine⟨hlt,Nxt.same (by simp) (aQ hb rfl) ?_ ?_⟩
       ·simp[ax,V.under]
       ·exact⟨rfl,rfl,by rw[hrec,nK hlt hlt'];simp_all⟩
     ·simp -dsimp -implicitDefEqProofs only[aw,ah,V.copy,V.lend,V.lend1,V.cells,V.boxable,over,ak,ae,ac,ai,V.plain,Nat.reduceLeDiff,cond_true,cond_false,implies_true,eq_self,ne_eq,reduceIte,reduceCtorEq,Nat.reduceBEq,Nat.reduceLT,Nat.reduceEqDiff,Nat.reduceAdd,Nat.reduceSub,Nat.reduceMul,Int.ofNat_lt,hlt,decide_false];exact out _ _ _ (by rw[hq,hrec,List.drop_of_length_le (by omega),List.drop_of_length_le (by omega)];simp_all[gg]) rfl
   ·simp -dsimp -implicitDefEqProofs only[aw,ah,V.copy,V.lend,V.lend1,V.cells,V.boxable,over,ak,ae,ac,ai,V.plain,Nat.reduceLeDiff,cond_true,cond_false,implies_true,eq_self,ne_eq,reduceIte,reduceCtorEq,Nat.reduceBEq,Nat.reduceLT,Nat.reduceEqDiff,Nat.reduceAdd,Nat.reduceSub,Nat.reduceMul];exact out _ _ _ (by rw[hq];simp_all) rfl
  ·simp -dsimp -implicitDefEqProofs only[aw,ah,V.copy,V.lend,V.lend1,V.cells,V.boxable,over,ak,ae,ac,ai,V.plain,Nat.reduceLeDiff,cond_true,cond_false,implies_true,eq_self,ne_eq,reduceIte,reduceCtorEq,Nat.reduceBEq,Nat.reduceLT,Nat.reduceEqDiff,Nat.reduceAdd,Nat.reduceSub,Nat.reduceMul];exact out _ _ _ (by rw[hq];simp_all) rfl
 ·simp -dsimp -implicitDefEqProofs only[aw,ah,V.copy,V.lend,V.lend1,V.cells,V.boxable,over,ak,ae,ac,ai,V.plain,Nat.reduceLeDiff,cond_true,cond_false,implies_true,eq_self,ne_eq,reduceIte,reduceCtorEq,Nat.reduceBEq,Nat.reduceLT,Nat.reduceEqDiff,Nat.reduceAdd,Nat.reduceSub,Nat.reduceMul];exact out _ _ _ (by rw[hq];simp_all) rfl
end Go.Proofs.YtcbahpllcfbkmaaGreatDoor
