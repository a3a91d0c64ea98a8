import Derived.Test.YtcbahpllcfbkmaaGreatDoorIwk
import Derived.Test.YtcbahpllcfbkmaaGreatDoorIt1
import Derived.Test.YtcbahpllcfbkmaaGreatDoorSha
import Derived.Test.YtcbahpllcfbkmaaGreatDoorBl2
import Derived.Test.YtcbahpllcfbkmaaGreatDoorSpan
import Derived.Test.YtcbahpllcfbkmaaGreatDoorData
import Derived.Test.YtcbahpllcfbkmaaGreatDoorNames2
set_option linter.unusedVariables false
set_option linter.unusedSimpArgs false
set_option linter.unusedSectionVars false
namespace Go.Proofs.YtcbahpllcfbkmaaGreatDoor
open Go.RowKit
theorem here_big:Here fun x _ _=>ibig x≤1200000:=by
 intro x d bd h;have hb:=ibig_eq x;exact⟨fun y hy=>by have:=ibigs_mem hy;omega,fun y hy=>by have:=ibigs_mem hy;omega⟩
theorem shape_vst(σ:List (List V))(hb:boxesBelow σ.length σ=true):Vst (fun(_:Unit) x d bd=>(shapeW x d bd,())) (fun x _ _=>ibig x≤1200000) (.fn 58 []) (fun _ τ=>τ=σ) σ.length where
 len:=fun s τ h=>by rw[h]
 bb:=fun s τ h=>by rw[h];exact hb
 und:=rfl
 val:=.inl ⟨_,_,rfl⟩
 call:=fun s τ x d bd h hp l=>by
  subst h;exact(shape_fun x d bd hp (τ++l)).mono fun o σ' ⟨e1,e2⟩=>⟨τ,rfl,e2,e1⟩
theorem valid_item(l:List It)(hl:ibigs l≤1100000)(σ:List (List V)):Fun G 38 [.d (ditl l)] σ (RetV (.d (dint (validI l))) σ):=by
 refine fun_code Tryz.func38 k38 rfl fun hb hw=>?_;unfold c38 validI;simp -dsimp -implicitDefEqProofs only[aw,slots0,V.copy,V.lend,eq_self,reduceIte,reduceCtorEq,Nat.reduceBEq,Nat.reduceLT];refine fun_ret (isize_fun l (by have:=isz_big l;omega) _) ?_;by_cases h:64<iszs l
 ·have h':(64:Int)<(iszs l:Int):=by omega
  rw[if_pos h];simp -dsimp -implicitDefEqProofs only[aw,V.copy,V.lend,bldV,eq_self,reduceIte,reduceCtorEq,Nat.reduceBEq,Nat.reduceLT,Nat.reduceEqDiff,decide_eq_true h'];first|exact fin_ret hb rfl rfl List.take_length ⟨rfl,rfl⟩|exact fin_ret hb rfl rfl List.take_left ⟨rfl,rfl⟩|(trace_state;fail "fin")
 ·have h':¬(64:Int)<(iszs l:Int):=by omega
  rw[if_neg h];simp -dsimp -implicitDefEqProofs only[aw,V.copy,V.lend,V.lend1,bldV,eq_self,reduceIte,reduceCtorEq,Nat.reduceBEq,Nat.reduceLT,Nat.reduceEqDiff,decide_eq_false h'];have:=walk_fun _ _ here_big _ l (by omega) 0 [] _ _ (shape_vst σ hb) (fun x hx=>by have:=ibigs_mem hx;omega) (by omega) (by simp;omega) () σ rfl;refine fun_mono this ?_;rintro o σ' ⟨τ,rfl,rfl,rfl⟩;rw[retK_ret,List.append_nil];have e:(wks (fun(_:Unit) x d bd=>(shapeW x d bd,())) l 0 [] ()).1=rvl l 0:=valid_same l 0 [];rw[e];simp -dsimp -implicitDefEqProofs only[aw,V.copy,eq_self,reduceIte,reduceCtorEq,Nat.reduceBEq,Nat.reduceLT,Nat.reduceEqDiff];first|exact fin_ret hb rfl rfl List.take_length ⟨rfl,rfl⟩|exact fin_ret hb rfl rfl List.take_left ⟨rfl,rfl⟩|(trace_state;fail "fin")
theorem r7small_fun(c:Int)(σ:List (List V)):Fun G 78 [.d (.lit (.int .u8 c))] σ (RetV (.d (.lit (.bool (lowB c)))) σ):=by
 refine fun_code Tryz.func78 k78 rfl fun hb hw=>?_;unfold c78 lowB;by_cases h1:97≤c<;>by_cases h2:c≤122
 all_goals
  simp -dsimp -implicitDefEqProofs only[aw,slots0,V.copy,cond_true,eq_self,reduceIte,reduceCtorEq,Nat.reduceBEq,Nat.reduceLT,Nat.reduceEqDiff,h1,h2,decide_true,decide_false];first|exact fin_ret hb rfl rfl List.take_length ⟨rfl,rfl⟩
theorem r7digit_fun(c:Int)(σ:List (List V)):Fun G 113 [.d (.lit (.int .u8 c))] σ (RetV (.d (.lit (.bool (digB c)))) σ):=by
 refine fun_code Tryz.func113 k113 rfl fun hb hw=>?_;unfold c113 digB;by_cases h1:48≤c<;>by_cases h2:c≤57
 all_goals
  simp -dsimp -implicitDefEqProofs only[aw,slots0,V.copy,cond_true,eq_self,reduceIte,reduceCtorEq,Nat.reduceBEq,Nat.reduceLT,Nat.reduceEqDiff,h1,h2,decide_true,decide_false];first|exact fin_ret hb rfl rfl List.take_length ⟨rfl,rfl⟩
theorem r7inner_fun(c:Int)(σ:List (List V)):Fun G 80 [.d (.lit (.int .u8 c))] σ (RetV (.d (.lit (.bool (folB c)))) σ):=by
 refine fun_code Tryz.func80 k80 rfl fun hb hw=>?_;unfold c80 folB;simp -dsimp -implicitDefEqProofs only[aw,slots0,V.copy,V.lend,eq_self,reduceIte,reduceCtorEq,Nat.reduceBEq,Nat.reduceLT];refine fun_ret (r7small_fun c _) ?_;cases lowB c with
 | true=>
  simp -dsimp -implicitDefEqProofs only[aw,V.copy,eq_self,reduceIte,reduceCtorEq,Nat.reduceBEq,Nat.reduceLT,Nat.reduceEqDiff];exact fin_ret hb rfl rfl List.take_length ⟨rfl,rfl⟩
 | false=>
  simp -dsimp -implicitDefEqProofs only[aw,V.copy,V.lend,eq_self,reduceIte,reduceCtorEq,Nat.reduceLT,Nat.reduceEqDiff];refine fun_ret (r7digit_fun c _) ?_;cases digB c with
  | true=>
   simp -dsimp -implicitDefEqProofs only[aw,V.copy,cond_false,eq_self,reduceIte,reduceCtorEq,Nat.reduceBEq,Nat.reduceLT,Nat.reduceEqDiff];exact fin_ret hb rfl rfl List.take_length ⟨rfl,rfl⟩
  | false=>
   unfold uppB;cases e1:decide (65≤c)<;>cases e2:decide (c≤90)<;>cases e3:decide (c=95)
   all_goals
    simp -dsimp -implicitDefEqProofs only[aw,V.copy,cond_true,cond_false,eq_self,reduceIte,reduceCtorEq,Nat.reduceBEq,Nat.reduceLT,Nat.reduceEqDiff,e1,e2,e3];first|exact fin_ret hb rfl rfl List.take_length ⟨rfl,rfl⟩
theorem r7has_fun(l:List ByteArray)(s:ByteArray)(hl:l.length≤1200000)(σ:List (List V)):Fun G 111 [.d (dstrs l),.d (dstr s)] σ (RetV (.d (.lit (.bool (inB s l)))) σ):=by
 refine fun_code Tryz.func111 k111 rfl fun hb hw=>?_;unfold c111;simp -dsimp -implicitDefEqProofs only[aw,slots0,V.copy,eq_self,reduceIte,reduceCtorEq,Nat.reduceBEq,Nat.reduceLT,Nat.reduceEqDiff];refine awp_for (R:=fun(j:Nat) ρ σ'=>ρ=[(0,.d (dstrs l)),(1,.d (dstr s)),(5,vint .i64 j)]∧σ'=σ∧inB s l=inB s (l.drop j)) l.length ⟨rfl,rfl,rfl⟩ ?_ _;rintro j ρ' σ' hj ⟨rfl,rfl,hr⟩;by_cases hlt:j<l.length
 ·have hd:inB s (l.drop j)=(decide (l[j]=s)||inB s (l.drop (j+1))):=by rw[List.drop_eq_getElem_cons hlt];rfl
  by_cases he:l[j]=s
  ·simp -dsimp -implicitDefEqProofs only[aw,V.copy,Nat.reduceLeDiff,eq_self,reduceIte,reduceCtorEq,Nat.reduceBEq,Nat.reduceLT,Nat.reduceEqDiff,dstrs,Int.ofNat_lt,hlt,decide_true,List.getElem?_eq_getElem hlt,decide_eq_true he];rw[hd,decide_eq_true he]at hr;exact fin_ret hb rfl rfl List.take_length ⟨by rw[hr];rfl,rfl⟩
  ·simp -dsimp -implicitDefEqProofs only[aw,V.copy,Nat.reduceLeDiff,eq_self,reduceIte,reduceCtorEq,Nat.reduceBEq,Nat.reduceLT,Nat.reduceEqDiff,dstrs,Int.ofNat_lt,hlt,decide_true,List.getElem?_eq_getElem hlt,decide_eq_false he,wrap_nat hlt (show l.length≤9223372036854775807 by omega)];rw[hd,decide_eq_false he,Bool.false_or]at hr;exact Nxt.same (Nat.le_refl _) hb rfl ⟨rfl,rfl,hr⟩
 ·simp -dsimp -implicitDefEqProofs only[aw,V.copy,eq_self,reduceIte,reduceCtorEq,Nat.reduceBEq,Nat.reduceLT,Nat.reduceEqDiff,dstrs,Int.ofNat_lt,hlt,decide_false];rw[List.drop_eq_nil_of_le (by omega)]at hr;exact fin_ret hb rfl rfl List.take_length ⟨by rw[hr];rfl,rfl⟩
theorem r7keywords_fun(σ:List (List V)):Fun G 112 [] σ (RetV (.d (dstrs kwList)) σ):=by
 refine fun_code Tryz.func112 k112 rfl fun hb hw=>?_;unfold c112;simp -dsimp -implicitDefEqProofs only[aw,slots0,V.copy,V.cells,rowsOf,plains,V.plain,eq_self,reduceIte,reduceCtorEq,Nat.reduceBEq,Nat.reduceLT];exact fin_ret hb rfl rfl List.take_length ⟨rfl,rfl⟩
theorem r7iskw_fun(s:ByteArray)(σ:List (List V)):Fun G 79 [.d (dstr s)] σ (RetV (.d (.lit (.bool (inB s kwList)))) σ):=by
 refine fun_code Tryz.func79 k79 rfl fun hb hw=>?_;unfold c79;simp -dsimp -implicitDefEqProofs only[aw,slots0,V.copy,V.lend,eq_self,reduceIte,reduceCtorEq,Nat.reduceBEq,Nat.reduceLT];refine fun_ret (r7keywords_fun _) ?_;simp -dsimp -implicitDefEqProofs only[aw,V.copy,V.lend,eq_self,reduceIte,reduceCtorEq,Nat.reduceLT,Nat.reduceEqDiff];refine fun_ret (r7has_fun kwList s (by decide) _) ?_;simp -dsimp -implicitDefEqProofs only[aw,V.copy,eq_self,reduceIte,reduceCtorEq,Nat.reduceBEq,Nat.reduceLT,Nat.reduceEqDiff];exact fin_ret hb rfl rfl List.take_length ⟨rfl,rfl⟩
theorem r7isname_fun(l:Bs)(σ:List (List V)):Fun G 51 [.d (dstr (bs l))] σ (RetV (.d (.lit (.bool (nameB (bs l))))) σ):=by
 have hnm:nameB (bs l)=(wordL l&&decide (l.length≤16) && !inB (bs l) kwList):=by unfold nameB wordB;rw[bs_list,bs_size]
 rw[hnm];refine fun_code Tryz.func51 k51 rfl fun hb hw=>?_;unfold c51
 match l with
 | []=>
  simp -dsimp -implicitDefEqProofs only[aw,slots0,V.copy,Nat.reduceLeDiff,eq_self,reduceIte,reduceCtorEq,Nat.reduceBEq,Nat.reduceLT,Nat.reduceEqDiff,nil_yes];first|exact fin_ret hb rfl rfl List.take_length ⟨rfl,rfl⟩|exact fin_ret hb rfl rfl List.take_left ⟨rfl,rfl⟩|(trace_state;fail "fin")
 | c::r=>
  obtain⟨l,hl⟩:∃l,l=c::r:=⟨_,rfl⟩
  have hnil:=nil_no c r;have hix:=ix_head c r;have hwl:wordL (c::r)=(lowB c.toNat&&(c::r).all inn):=rfl;rw[hwl];rw[←hl]at hnil hix ⊢;by_cases h16:l.length≤16
  ·have h16':¬(16:Int)<((l.length:Nat):Int):=by omega
   simp -dsimp -implicitDefEqProofs only[aw,slots0,V.copy,V.lend,cond_false,eq_self,reduceIte,reduceCtorEq,Nat.reduceBEq,Nat.reduceLT,Nat.reduceEqDiff,hnil,bs_size,decide_eq_false h16',hix];refine fun_ret (r7small_fun _ _) ?_;rw[decide_eq_true h16,Bool.and_true];cases hlow:lowB c.toNat with
   | false=>
    simp -dsimp -implicitDefEqProofs only[aw,V.copy,cond_false,eq_self,reduceIte,reduceCtorEq,Nat.reduceBEq,Nat.reduceLT,Nat.reduceEqDiff];first|exact fin_ret hb rfl rfl List.take_length ⟨rfl,rfl⟩|exact fin_ret hb rfl rfl List.take_left ⟨rfl,rfl⟩|(trace_state;fail "fin")
   | true=>
    simp -dsimp -implicitDefEqProofs only[aw,V.copy,V.lend,cond_false,eq_self,reduceIte,reduceCtorEq,Nat.reduceLT,Nat.reduceEqDiff];refine fun_ret (r7iskw_fun _ _) ?_;cases hkw:inB (bs l) kwList with
    | true=>
     simp -dsimp -implicitDefEqProofs only[aw,V.copy,cond_false,eq_self,reduceIte,reduceCtorEq,Nat.reduceBEq,Nat.reduceLT,Nat.reduceEqDiff];rw[Bool.and_false];first|exact fin_ret hb rfl rfl List.take_length ⟨rfl,rfl⟩|exact fin_ret hb rfl rfl List.take_left ⟨rfl,rfl⟩|(trace_state;fail "fin")
    | false=>
     rw[Bool.true_and,Bool.not_false,Bool.and_true];simp -dsimp -implicitDefEqProofs only[aw,V.copy,cond_false,eq_self,reduceIte,reduceCtorEq,Nat.reduceBEq,Nat.reduceLT,Nat.reduceEqDiff];refine awp_forK [0,3] (R:=fun(j:Nat) ρ σ'=>ρ=[(0,.d (dstr (bs l))),(3,vint .i64 j)]∧σ'=σ∧l.all inn=(l.drop j).all inn) l.length ⟨rfl,rfl,rfl⟩ ?_ _;rintro j ρ' σ' hj ⟨rfl,rfl,hr⟩;by_cases hlt:j<l.length
     ·have hd:(l.drop j).all inn=(inn l[j]&&(l.drop (j+1)).all inn):=by rw[List.drop_eq_getElem_cons hlt];rfl
      simp -dsimp -implicitDefEqProofs only[aw,V.copy,V.lend,eq_self,reduceIte,reduceCtorEq,Nat.reduceBEq,Nat.reduceLT,Nat.reduceEqDiff,bs_size,Int.ofNat_lt,hlt,decide_true,bs_list,List.getElem?_eq_getElem hlt];refine fun_ret (r7inner_fun _ _) ?_;cases hin:inn l[j]with
      | true=>
       rw[hd,hin,Bool.true_and]at hr;rw[show folB (l[j].toNat:Int)=true from hin];simp -dsimp -implicitDefEqProofs only[aw,V.copy,eq_self,reduceIte,reduceCtorEq,Nat.reduceBEq,Nat.reduceLT,Nat.reduceEqDiff,wrap_nat hlt (show l.length≤9223372036854775807 by omega)];exact⟨hlt,Nxt.same (Nat.le_refl _) hb rfl ⟨rfl,rfl,hr⟩⟩
      | false=>
       rw[hd,hin,Bool.false_and]at hr;rw[show folB (l[j].toNat:Int)=false from hin];simp -dsimp -implicitDefEqProofs only[aw,V.copy,eq_self,reduceIte,reduceCtorEq,Nat.reduceBEq,Nat.reduceLT,Nat.reduceEqDiff];rw[hr];first|exact fin_ret hb rfl rfl List.take_length ⟨rfl,rfl⟩|exact fin_ret hb rfl rfl List.take_left ⟨rfl,rfl⟩|(trace_state;fail "fin")
     ·simp -dsimp -implicitDefEqProofs only[aw,V.copy,eq_self,reduceIte,reduceCtorEq,Nat.reduceBEq,Nat.reduceLT,Nat.reduceEqDiff,bs_size,Int.ofNat_lt,hlt,decide_false];rw[List.drop_eq_nil_of_le (by omega)]at hr;rw[hr];first|exact fin_ret hb rfl rfl List.take_length ⟨rfl,rfl⟩|exact fin_ret hb rfl rfl List.take_left ⟨rfl,rfl⟩|(trace_state;fail "fin")
  ·have h16':(16:Int)<((l.length:Nat):Int):=by omega
   simp -dsimp -implicitDefEqProofs only[aw,slots0,V.copy,cond_false,eq_self,reduceIte,reduceCtorEq,Nat.reduceBEq,Nat.reduceLT,Nat.reduceEqDiff,hnil,bs_size,decide_eq_true h16'];rw[decide_eq_false h16,Bool.and_false,Bool.false_and];first|exact fin_ret hb rfl rfl List.take_length ⟨rfl,rfl⟩|exact fin_ret hb rfl rfl List.take_left ⟨rfl,rfl⟩|(trace_state;fail "fin")
inductive PR where
 | out
 | bad (e:Int) (r:List Tok)
 | ok (e:Ex) (r:List Tok)
def PR.bind(x:PR)(f:Ex→List Tok→PR):PR:=match x with
 | .out=>.out
 | .bad e r=>.bad e r
 | .ok e r=>f e r
inductive PK where
 | W
 | I
 | L (k:Nat)
 | Lp (k:Nat) (a:Ex)
 | In (a:Ex)
 | Ip (args:List Ex)
 | U
 | P
def failP:List Tok→PR
 | []=>.bad 6 []
 | t::r=>.bad 5 (t::r)
def mark1(c:UInt8):ByteArray:=⟨#[c]⟩
def mark2(c d:UInt8):ByteArray:=⟨#[c,d]⟩
def acc(m:ByteArray):List Tok→Option (List Tok)
 | []=>none
 | t::r=>if vTok t=true∧(t.kind=4∨t.kind=2)∧t.text=m then some r else none
def nodeE(o:Int)(l:List Ex):Ex:=.mk o 0 ⟨#[]⟩ l
def binTab:List (ByteArray×Int×Nat):=[(mark2 61 62,21,2),(mark2 124 124,20,3),(mark2 38 38,19,4),(mark1 124,11,5),(mark1 94,12,6),(mark1 38,10,7),(mark2 61 61,15,8),(mark2 33 61,16,8),(mark1 60,17,9),(mark2 60 61,18,9),(mark2 60 60,13,10),(mark2 62 62,14,10),(mark1 43,7,11),(mark1 45,8,11),(mark1 42,9,12)]
def operL:List (ByteArray×Int×Nat)→Nat→List Tok→Option (Int×List Tok)
 | [],_,_=>none
 | b::l,k,r=>if b.2.2=k then(match acc b.1 r with|some r1=>some (b.2.1,r1)|none=>operL l k r)else operL l k r
def operP(k:Nat)(r:List Tok):Option (Int×Bool×List Tok):=match operL binTab k r with
 | some (o,r1)=>some (o,false,r1)
 | none=>if k=9 then(match acc (mark1 62) r with
  | some r1=>some (17,true,r1)
  | none=>match acc (mark2 62 61) r with
   | some r1=>some (18,true,r1)
   | none=>none)else none
def insideW:ByteArray:=⟨#[105,110,115,105,100,101]⟩
def sumW:ByteArray:=⟨#[115,117,109]⟩
def onesW:ByteArray:=⟨#[111,110,101,115]⟩
def nameP:List Tok→Option (ByteArray×List Tok)
 | []=>none
 | t::r=>if vTok t=true∧t.kind=1 then some (t.text,r)else none
def numP:List Tok→Option (Int×List Tok)
 | []=>none
 | t::r=>if vTok t=true∧t.kind=3 then some (t.num,r)else none
def decS(n:Int):ByteArray:=⟨(Lib.decDigits n.toNat).toArray⟩
def elemNm(s:ByteArray)(n:Int):ByteArray:=s++(mark1 91++(decS n++mark1 93))
def primP(rec:PK→List Tok→PR)(r:List Tok):PR:=match acc (mark1 40) r with
 | some r1=>(rec .W r1).bind fun e r2=>match acc (mark1 41) r2 with
  | some r3=>.ok e r3
  | none=>failP r2
 | none=>match numP r with
  | some (n,r1)=>if 65535<n then .bad 3 r else .ok (.mk 1 n ⟨#[]⟩ []) r1
  | none=>match nameP r with
   | none=>failP r
   | some (s,r1)=>match (if s=sumW then acc (mark1 40) r1 else none)with
    | some r2=>match nameP r2 with
     | none=>failP r2
     | some (a,r3)=>match acc (mark1 41) r3 with
      | some r4=>.ok (.mk 24 0 a []) r4
      | none=>failP r3
    | none=>match (if s=onesW then acc (mark1 40) r1 else none)with
     | some r2=>(rec .W r2).bind fun e r3=>match acc (mark1 41) r3 with
      | some r4=>.ok (nodeE 25 [e]) r4
      | none=>failP r3
     | none=>match acc (mark1 91) r1 with
      | some r2=>(rec .W r2).bind fun e r3=>match acc (mark1 93) r3 with
       | some r4=>.ok (.mk 3 0 s [e]) r4
       | none=>failP r3
      | none=>match acc (mark1 64) r1 with
       | some r2=>match numP r2 with
        | none=>failP r2
        | some (n,r3)=>if 65535<n then .bad 3 r2 else .ok (.mk 2 0 (elemNm s n) []) r3
       | none=>.ok (.mk 2 0 s []) r1
def stepP(rec:PK→List Tok→PR):PK→List Tok→PR
 | .W,r=>(rec .I r).bind fun c r1=>match acc (mark1 63) r1 with
  | none=>.ok c r1
  | some r2=>(rec .W r2).bind fun a r3=>match acc (mark1 58) r3 with
   | none=>failP r3
   | some r4=>(rec .W r4).bind fun b r5=>.ok (nodeE 22 [c,a,b]) r5
 | .I,r=>(rec (.L 3) r).bind fun a r1=>match acc (mark2 61 62) r1 with
  | none=>.ok a r1
  | some r2=>(rec .I r2).bind fun b r3=>.ok (nodeE 21 [a,b]) r3
 | .L k,r=>if 12<k then rec .U r else(rec (.L (k+1)) r).bind fun a r1=>rec (.Lp k a) r1
 | .Lp k a,r=>match (if k=9 then acc insideW r else none)with
  | some r1=>(rec (.In a) r1).bind fun b r2=>rec (.Lp k b) r2
  | none=>match operP k r with
   | none=>.ok a r
   | some (o,ex,r1)=>(rec (.L (k+1)) r1).bind fun c r2=>rec (.Lp k (if ex then nodeE o [c,a]else nodeE o [a,c])) r2
 | .In a,r=>match acc (mark1 123) r with
  | none=>failP r
  | some r1=>rec (.Ip [a]) r1
 | .Ip args,r=>(rec .W r).bind fun lo r1=>match acc (mark2 46 46) r1 with
  | none=>failP r1
  | some r2=>(rec .W r2).bind fun hi r3=>match acc (mark1 44) r3 with
   | some r4=>rec (.Ip (args++[lo,hi])) r4
   | none=>match acc (mark1 125) r3 with
    | some r5=>.ok (nodeE 23 (args++[lo,hi])) r5
    | none=>failP r3
 | .U,r=>match acc (mark1 33) r with
  | some r1=>(rec .U r1).bind fun a r2=>.ok (nodeE 4 [a]) r2
  | none=>match acc (mark1 126) r with
   | some r1=>(rec .U r1).bind fun a r2=>.ok (nodeE 5 [a]) r2
   | none=>match acc (mark1 45) r with
    | some r1=>(rec .U r1).bind fun a r2=>.ok (nodeE 6 [a]) r2
    | none=>rec .P r
 | .P,r=>primP rec r
def pfuel:Nat→PK→List Tok→PR
 | 0,_,_=>.out
 | n+1,k,r=>stepP (pfuel n) k r
def PK.cost:PK→Nat
 | .W=>15
 | .I=>14
 | .L k=>3+(13-k)
 | .Lp _ _=>1
 | .In _=>1
 | .Ip _=>16
 | .U=>2
 | .P=>1
def need(k:PK)(r:List Tok):Nat:=40*r.length+k.cost
def par(k:PK)(r:List Tok):PR:=pfuel (40*r.length+20) k r
def binL(o:Int):Option (ByteArray×Nat):=(binTab.find? fun b=>decide (b.2.1=o)).map fun b=>(b.1,b.2.2)
def levO(o:Int):Nat:=match binL o with
 | some (_,l)=>l
 | none=>if o=22 then 1 else if o=23 then 9 else if o=4∨o=5∨o=6 then 13 else 14
def tm(m:ByteArray):Tok:=⟨4,0,m,1⟩
def tw(m:ByteArray):Tok:=⟨2,0,m,1⟩
def tn(s:ByteArray):Tok:=⟨1,0,s,1⟩
def td(n:Int):Tok:=⟨3,n,decS n,1⟩
def elemDig(s:ByteArray):Int:=(((cutB s 91).data.toList.headD 0).toNat:Int)-48
def varTk(s:ByteArray):List Tok:=if elemB s=true then[tn (cutA s 91),tm (mark1 64),td (elemDig s)]else[tn s]
end Go.Proofs.YtcbahpllcfbkmaaGreatDoor
