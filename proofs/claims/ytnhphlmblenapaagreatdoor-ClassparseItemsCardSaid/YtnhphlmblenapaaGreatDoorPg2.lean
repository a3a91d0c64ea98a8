import Derived.Test.YtnhphlmblenapaaGreatDoorRef7c
set_option linter.unusedVariables false
set_option linter.unusedSimpArgs false
set_option linter.unusedSectionVars false
set_option maxHeartbeats 1200000
open Bool renaming true_and->Sq,eq_iff_iff->Ss,false_and->Su,and_false->Sv,and_true->Sw
open Int renaming reduceEq->Sx,ofNat_lt->Sy
open List renaming suffix_refl->SA,take_left->SB,getElem?_eq_getElem->SC,length_map->SD,suffix_cons->SE,length_cons->SF,drop_eq_getElem_cons->SG,drop_eq_nil_of_le->SH,length_append->SI,take_length->SJ,map_map->SK
open Nat renaming le_refl->SL,lt_of_lt_of_le->SM,lt_of_le_of_lt->SN
namespace Go.Proofs.YtnhphlmblenapaaGreatDoor
open Go.RowKit
theorem xk(l:Bs)(σ:LLV):Fun G 96 [.d (aj (bs l))] σ (aN (.d (.lit (.bool (bH (bs l))))) σ):=
 m8 Tryz.func96 (by kernel_rfl) (by kernel_rfl) trivial fun M bm pr w v hG hM h1=>by
  have hs:(bs l).size≤9223372036854775807:=by
   cases h1 with|d h=>cases h with|lit _ hf=>exact hf
  cases em h1;exact f5 (bs l) w hs (o7 hG.1 hM)
theorem AC(l:List ByteArray)(s:ByteArray)(hl:l.length≤1200000)(σ:LLV):Fun G 237 [.d (cT l),.d (aj s)] σ fun o σ'=>∃i:Int,o=.ret (.d (ab i))/\σ'=σ/\decide (0≤i)=inB s l:=by
 refine ae Tryz.func237 RU rfl fun hb hw=>?_;unfold Ob;simp -dsimp only[aw,seval,cT];refine aS [0,1,7,8] (R:=fun(j:Nat) ρ σ'=>ρ=[(0,.d (.sl (l.map fun s=>[aj s]))),(1,.d (aj s)),(7,aK .i64 l.length),(8,aK .i64 j)]/\σ'=σ/\inB s l=inB s (l.drop j)) l.length ⟨rfl,rfl,rfl⟩ ?_ _;rintro j ρ' σ' hj ⟨rfl,rfl,hr⟩;by_cases hlt:j<l.length
 .have hd:inB s (l.drop j)=(decide (l[j]=s)||inB s (l.drop (j+1))):=by rw[SG hlt];rfl
  by_cases he:l[j]=s
  .simp -dsimp only[aw,seval,Sy,hlt,decide_true,SC hlt,decide_eq_true he.symm];rw[hd,decide_eq_true he]at hr;exact az hb rfl rfl SJ ⟨j,rfl,rfl,by rw[hr,decide_eq_true (by omega)];rfl⟩
  .simp -dsimp only[aw,seval,Sy,hlt,decide_true,SC hlt,decide_eq_false (Ne.symm he),aT hlt (show l.length≤9223372036854775807 by omega)];rw[hd,decide_eq_false he,Bool.false_or]at hr;exact Nxt.same (SL _) hb rfl ⟨rfl,rfl,hr⟩
 .simp -dsimp only[aw,seval,Sy,hlt,decide_false];rw[SH (by omega)]at hr;exact az hb rfl rfl SJ ⟨-1,rfl,rfl,by rw[hr];rfl⟩
theorem tN(l:List ByteArray)(s:ByteArray)(hl:l.length≤1200000)(σ:LLV):Fun G 201 [.d (cT l),.d (aj s)] σ (aN (.d (.lit (.bool (inB s l)))) σ):=by
 refine ae Tryz.func201 QE rfl fun hb hw=>?_;unfold NE;simp -dsimp only[aw,seval];refine aB (AC l s hl _) fun o σ' ⟨i,h1,h2,h3⟩=>?_;subst h1;subst h2;simp -dsimp only[aw,seval,aP,h3];first|exact al hb rfl rfl|exact am hb rfl rfl
theorem y8(l:Bs):inB (bs l) gb=aM.contains l:=by
 unfold inB gb;rw[List.any_map,List.contains_eq_any_beq];congr 1;funext x;rw[Ss];simp only[Function.comp,decide_eq_true_eq,uA,beq_iff_eq];exact eq_comm
theorem yz(l:Bs)(σ:LLV):Fun G 333 [.d (aj (bs l))] σ (aN (.d (.lit (.bool (aM.contains l)))) σ):=by
 refine ae Tryz.func333 Sl rfl fun hb hw=>?_;unfold Ow;have hg:∀ρ,ev G ρ (.g 1)=.row [.sl (aM.map fun s=>[.lit (.string (bs s))])] 0:=fun _=>rfl;simp -dsimp only[aw,seval,hg];refine ac (tN gb (bs l) (by decide) _) ?_;rw[y8];simp -dsimp only[aw,seval];first|exact al hb rfl rfl|exact am hb rfl rfl
theorem rk(l:Bs)(σ:LLV):Fun G 324 [.d (aj (bs l))] σ (aN (.d (.lit (.bool (aM.contains l)))) σ):=by
 rw[<-y8];exact tV _ _
theorem tq(l:Bs)(σ:LLV):Fun G 142 [.d (aj (bs l))] σ (aN (.d (.lit (.bool (bH (bs l))))) σ):=by
 have hnm:bH (bs l)=(kH l&&decide (l.length≤16) && !inB (bs l) ch):=by unfold bH ff;rw[bu,aE]
 rw[hnm];refine ae Tryz.func142 QA rfl fun hb hw=>?_;unfold MX
 match l with
 | []=>
  simp -dsimp only[aw,seval,sY];first|exact al hb rfl rfl|exact am hb rfl rfl
 | c::r=>
  obtain⟨l,hl⟩:∃l,l=c::r:=⟨_,rfl⟩
  have hnil:=xn c r;have hix:=lg c r;have hwl:kH (c::r)=(eQ c.toNat&&(c::r).all inn):=rfl;rw[hwl];rw[<-hl]at hnil hix ⊢;by_cases h16:l.length≤16
  .have h16':¬(16:Int)<((l.length:Nat):Int):=by omega
   simp -dsimp only[aw,seval,hnil,aE,decide_eq_false h16',hix];refine ac (kO _ _) ?_;rw[decide_eq_true h16,Sw];cases hlow:eQ c.toNat with
   | false=>
    simp -dsimp only[aw,seval];first|exact al hb rfl rfl|exact am hb rfl rfl
   | true=>
    simp -dsimp only[aw,seval];refine ac (lT _ _) ?_;cases hkw:inB (bs l) ch with
    | true=>
     simp -dsimp only[aw,seval];rw[Sv];first|exact al hb rfl rfl|exact am hb rfl rfl
    | false=>
     rw[Sq,Bool.not_false,Sw];simp -dsimp only[aw,seval];refine aS [0,3] (R:=fun(j:Nat) ρ σ'=>ρ=[(0,.d (aj (bs l))),(3,aK .i64 j)]/\σ'=σ/\l.all inn=(l.drop j).all inn) l.length ⟨rfl,rfl,rfl⟩ ?_ _;rintro j ρ' σ' hj ⟨rfl,rfl,hr⟩;by_cases hlt:j<l.length
     .have hd:(l.drop j).all inn=(inn l[j]&&(l.drop (j+1)).all inn):=by rw[SG hlt];rfl
      simp -dsimp only[aw,seval,aE,Sy,hlt,decide_true,bu,SC hlt,cj];refine ac (kg _ _) ?_;cases hin:inn l[j]with
      | true=>
       rw[hd,hin,Sq]at hr;rw[show dR (l[j].toNat:Int)=true from hin];simp -dsimp only[aw,seval,aT hlt (show l.length≤9223372036854775807 by omega)];exact⟨hlt,Nxt.same (SL _) hb rfl ⟨rfl,rfl,hr⟩⟩
      | false=>
       rw[hd,hin,Su]at hr;rw[show dR (l[j].toNat:Int)=false from hin];simp -dsimp only[aw,seval];rw[hr];first|exact al hb rfl rfl|exact am hb rfl rfl
     .simp -dsimp only[aw,seval,aE,Sy,hlt,decide_false];rw[SH (by omega)]at hr;rw[hr];first|exact al hb rfl rfl|exact am hb rfl rfl
  .have h16':(16:Int)<((l.length:Nat):Int):=by omega
   simp -dsimp only[aw,seval,hnil,aE,decide_eq_true h16'];rw[decide_eq_false h16,Sv,Su];first|exact al hb rfl rfl|exact am hb rfl rfl
theorem zA:∀(k u:Nat),u<10^(k+1)->(Lib.decDigits u).length≤k+1
 | 0,u,h=>by rw[Lib.decDigits,dif_pos (by simpa using h)];exact SL _
 | k+1,u,h=>by
  rw[Lib.decDigits];split
  .simp
  .rw[SI];have:=zA k (u/10) (by rw[Nat.pow_succ]at h;omega);simp;omega
theorem qj(n:Int)(h0:0≤n)(h1:n≤2147483647):(Lib.itoa n).length≤10:=by
 unfold Lib.itoa;rw[if_neg (by omega)];exact zA 9 _ (by omega)
def dZ(t:Tok):V:=.agg [.d (ab t.kind),.d (ab t.num),.d (aj t.text),.d (ab t.line)]
theorem vW(n:Int)(l:Bs)(ln:Int)(h0:0≤n):bO ⟨3,n,bs l,ln⟩=(decide (n≤2147483647)&&decide (bs l=bs (Lib.itoa n))):=by
 have e:Lib.itoa n=Lib.decDigits n.toNat:=by unfold Lib.itoa;rw[if_neg (by omega)]
 unfold bO;rw[if_pos rfl,e,bu,tI,decide_eq_true h0,Sq];show(decide (n≤2147483647)&&(l==Lib.decDigits n.toNat))=_;congr 1;rw[Ss];simp
theorem uW(n:Int)(l:Bs)(ln:Int)(h0:¬0≤n):bO ⟨3,n,bs l,ln⟩=false:=by
 unfold bO;rw[if_pos rfl,decide_eq_false h0];rfl
theorem Ig(n:Int)(l:Bs)(ln:Int):bO ⟨1,n,bs l,ln⟩=(decide (n=0)&&bH (bs l)):=rfl
theorem Iu(n:Int)(l:Bs)(ln:Int):bO ⟨2,n,bs l,ln⟩=(decide (n=0)&&inB (bs l) ch):=rfl
theorem Ij(n:Int)(l:Bs)(ln:Int):bO ⟨4,n,bs l,ln⟩=(decide (n=0)&&aM.contains l):=by
 unfold bO;rw[if_neg (by show ¬(4:Int)=3;decide),if_neg (by show ¬(4:Int)=1;decide),if_neg (by show ¬(4:Int)=2;decide),if_pos rfl,bu]
theorem IO(k n:Int)(l:Bs)(ln:Int)(h1:¬k=1)(h2:¬k=2)(h3:¬k=3)(h4:¬k=4):bO ⟨k,n,bs l,ln⟩=false:=by
 unfold bO;rw[if_neg h3,if_neg h1,if_neg h2,if_neg h4]
theorem tu(k n:Int)(l:Bs)(ln:Int)(σ:LLV):Fun G 332 [dZ ⟨k,n,bs l,ln⟩] σ (aN (.d (.lit (.bool (bO ⟨k,n,bs l,ln⟩)))) σ):=by
 unfold dZ;refine ae Tryz.func332 Qr rfl fun hb hw=>?_;have hn:=Jk (zS (hw 0 (by simp)) 1 (by simp));unfold LY;by_cases h3:k=3
 .subst h3;by_cases h0:0≤n
  .rw[vW n l ln h0];by_cases hm:n≤2147483647
   .simp -dsimp only[aw,seval,Sx,decide_true,decide_false,decide_eq_true h0,decide_eq_true hm];refine bA (pG n (by omega) (by omega) (by have:=qj n h0 hm;unfold maxLen;omega) _) ?_;simp -dsimp only[aw,seval,tI];rw[decide_eq_true hm,Sq];exact az hb rfl rfl SB ⟨rfl,rfl⟩
   .simp -dsimp only[aw,seval,Sx,decide_true,decide_false,decide_eq_true h0,decide_eq_false hm];exact az hb rfl rfl SB ⟨rfl,rfl⟩
  .rw[uW n l ln h0];simp -dsimp only[aw,seval,Sx,decide_true,decide_false,decide_eq_false h0];exact az hb rfl rfl SB ⟨rfl,rfl⟩
 by_cases h1:k=1
 .subst h1;rw[Ig];by_cases hz:n=0
  .simp -dsimp only[aw,seval,Sx,decide_true,decide_false,decide_eq_true hz];refine ac (xk l _) ?_;simp -dsimp only[aw,seval];rw[decide_eq_true hz,Sq];exact az hb rfl rfl SB ⟨rfl,rfl⟩
  .simp -dsimp only[aw,seval,Sx,decide_true,decide_false,decide_eq_false hz];exact az hb rfl rfl SB ⟨rfl,rfl⟩
 by_cases h2:k=2
 .subst h2;rw[Iu];by_cases hz:n=0
  .simp -dsimp only[aw,seval,Sx,decide_true,decide_false,decide_eq_true hz];refine ac (vB l _) ?_;simp -dsimp only[aw,seval];rw[decide_eq_true hz,Sq];exact az hb rfl rfl SB ⟨rfl,rfl⟩
  .simp -dsimp only[aw,seval,Sx,decide_true,decide_false,decide_eq_false hz];exact az hb rfl rfl SB ⟨rfl,rfl⟩
 by_cases h4:k=4
 .subst h4;rw[Ij];by_cases hz:n=0
  .simp -dsimp only[aw,seval,Sx,decide_true,decide_false,decide_eq_true hz];refine ac (yz l _) ?_;simp -dsimp only[aw,seval];rw[decide_eq_true hz,Sq];exact az hb rfl rfl SB ⟨rfl,rfl⟩
  .simp -dsimp only[aw,seval,Sx,decide_true,decide_false,decide_eq_false hz];exact az hb rfl rfl SB ⟨rfl,rfl⟩
 rw[IO k n l ln h1 h2 h3 h4];simp -dsimp only[aw,seval,decide_eq_false h1,decide_eq_false h2,decide_eq_false h3,decide_eq_false h4];exact az hb rfl rfl SB ⟨rfl,rfl⟩
theorem Kg(t:Tok):t=⟨t.kind,t.num,bs t.text.data.toList,t.line⟩:=by rw[jk]
theorem uZ(t:Tok)(σ:LLV):Fun G 332 [dZ t] σ (aN (.d (.lit (.bool (bO t)))) σ):=by
 rw[Kg t];exact tu _ _ _ _ _
theorem HJ(t:Tok):dZ t=.agg [.d (ab t.kind),.d (ab t.num),.d (aj t.text),.d (ab t.line)]:=rfl
def zm(ts:List Tok):V:=if ts.all bO=true then .tup [.d (aj (bs (j6 ts))),.d (ab 0)]else .tup [.d (aj ⟨#[]⟩),.d (ab 1)]
theorem su(n:Nat):∀(l:List Tok),(∀t,t∈l->t.text.size≤n)->(j6 l).length≤(n+1)*l.length
 | [],_=>by simp[j6]
 | [a],h=>by have:=h a (by simp);rw[Lib.size_eq]at this;simp only[j6,SF,List.length_nil];omega
 | a::b::r,h=>by
  have h1:=h a (by simp);have h2:=su n (b::r) fun t ht=>h t (by simp at ht ⊢;exact .inr ht);rw[Lib.size_eq]at h1;have e:(n+1)*(a::b::r).length=(n+1)*(b::r).length+(n+1):=by rw[SF (a:=a),Nat.mul_succ]
  rw[e];simp only[j6,SI,SF]at h2 ⊢;omega
theorem zO:∀ts:List Tok,Lib.join (ts.map fun t=>t.text.data.toList) [32]=j6 ts
 | []=>rfl
 | [t]=>by simp[j6,Lib.join_one]
 | t::u::r=>by
  have:=zO (u::r);simp only[List.map_cons]at this ⊢;rw[Lib.join_cons]at this ⊢;simp only[j6,<-this];simp[Lib.joinTail]
theorem xX(ts:List Tok)(hl:ts.length≤1000)(ht:∀t,t∈ts->t.text.size≤1000)(σ:LLV):Fun G 331 [.d (.sl (ts.map dA))] σ (aN (zm ts) σ):=by
 refine ae Tryz.func331 PB rfl fun hb hw=>?_;unfold NY;simp -dsimp only[aw,seval];refine bh (by first|omega|(simp only[SD];omega)) ?_;simp -dsimp only[aw,seval];refine aS [4,10,11,12] (R:=fun(j:Nat) ρ σ'=>ρ=[(4,.own 9 1 ((ts.take j).map fun t=>[aj t.text])),(10,.d (.sl (ts.map dA))),(11,aK .i64 ts.length),(12,aK .i64 j)]/\σ'=σ/\(ts.take j).all bO=true) ts.length ⟨by simp[SD];rfl,rfl,rfl⟩ ?_ _;rintro j ρ' σ' hj ⟨rfl,rfl,hv⟩;by_cases hlt:j<ts.length
 .have htk:ts.take (j+1)=ts.take j++[ts[j]]:=by rw[List.take_add_one,SC hlt];rfl
  have hall:(ts.take (j+1)).all bO=bO ts[j]:=by rw[htk,List.all_append,hv];simp
  simp -dsimp only[aw,seval,Sy,hlt,decide_true,SC hlt,dA];rw[<-HJ];refine ac (uZ ts[j] _) ?_;cases hvj:bO ts[j]with
  | false=>
   simp -dsimp only[aw,seval]
   have:ts.all bO=false:=by
    rw[List.all_eq_false];exact⟨_,List.getElem_mem hlt,by rw[hvj];decide⟩
   unfold zm;rw[if_neg (by rw[this];decide)];exact fD hb rfl rfl
  | true=>
   rw[hvj]at hall;simp -dsimp only[aw,seval];refine bh (by first|omega|(simp only[SD,List.length_take];omega)) ?_;simp -dsimp only[aw,seval,aT hlt (show ts.length≤9223372036854775807 by omega)];refine⟨hlt,Nxt.drop (SL _) hb rfl ⟨?_,rfl,hall⟩⟩;rw[htk,List.map_append];rfl
 .simp -dsimp only[aw,seval,Sy,hlt,decide_false];rw[List.take_of_length_le (by omega)]at hv ⊢;have hd:V.d (.sl (ts.map fun t=>[aj t.text]))=V.d (cT (ts.map Tok.text)):=by unfold cT;rw[SK];rfl
  have hjl:=su 1000 ts ht;have hjl2:(j6 ts).length≤1001*1000:=Nat.le_trans hjl (Nat.mul_le_mul_left _ hl);have hjq:Lib.join ((ts.map Tok.text).map (·.data.toList)) [32]=j6 ts:=by rw[<-zO,SK];rfl
  rw[hd];refine ac (Ey (ts.map Tok.text) (by rw[SD];omega) (by rw[hjq];omega) _) ?_;rw[hjq];simp -dsimp only[aw,seval];unfold zm;rw[if_pos hv];first|exact al hb rfl rfl|exact am hb rfl rfl
inductive PR where
 | out
 | bad (e:Int) (r:List Tok)
 | ok (e:Ex) (r:List Tok)
def PR.bind(x:PR)(f:Ex->List Tok->PR):PR:=match x with
 | .out=>.out
 | .bad e r=>.bad e r
 | .ok e r=>f e r
inductive PK where
 | W
 | I
 | L (k:Nat)
 | Lp (k:Nat) (a:Ex)
 | In (a:Ex)
 | Ip (args:List Ex)
 | U
 | P
def eF:List Tok->PR
 | []=>.bad 6 []
 | t::r=>.bad 5 (t::r)
def aa(c:UInt8):ByteArray:=⟨#[c]⟩
def aZ(c d:UInt8):ByteArray:=⟨#[c,d]⟩
def acc(m:ByteArray):List Tok->Option (List Tok)
 | []=>none
 | t::r=>if bO t=true/\(t.kind=4\/t.kind=2)/\t.text=m then some r else none
def aI(o:Int)(l:List Ex):Ex:=.mk o 0 ⟨#[]⟩ l
def cD:List (ByteArray×Int×Nat):=[(aZ 61 62,21,2),(aZ 124 124,20,3),(aZ 38 38,19,4),(aa 124,11,5),(aa 94,12,6),(aa 38,10,7),(aZ 61 61,15,8),(aZ 33 61,16,8),(aa 60,17,9),(aZ 60 61,18,9),(aZ 60 60,13,10),(aZ 62 62,14,10),(aa 43,7,11),(aa 45,8,11),(aa 42,9,12)]
def iV:List (ByteArray×Int×Nat)->Nat->List Tok->Option (Int×List Tok)
 | [],_,_=>none
 | b::l,k,r=>if b.2.2=k then(match acc b.1 r with|some r1=>some (b.2.1,r1)|none=>iV l k r)else iV l k r
def dG(k:Nat)(r:List Tok):Option (Int×Bool×List Tok):=match iV cD k r with
 | some (o,r1)=>some (o,false,r1)
 | none=>if k=9 then(match acc (aa 62) r with
  | some r1=>some (17,true,r1)
  | none=>match acc (aZ 62 61) r with
   | some r1=>some (18,true,r1)
   | none=>none)else none
def cr:ByteArray:=⟨#[105,110,115,105,100,101]⟩
def lB:ByteArray:=⟨#[115,117,109]⟩
def gC:ByteArray:=⟨#[111,110,101,115]⟩
def bT:List Tok->Option (ByteArray×List Tok)
 | []=>none
 | t::r=>if bO t=true/\t.kind=1 then some (t.text,r)else none
def cH:List Tok->Option (Int×List Tok)
 | []=>none
 | t::r=>if bO t=true/\t.kind=3 then some (t.num,r)else none
def Ia(n:Int):ByteArray:=⟨(Lib.decDigits n.toNat).toArray⟩
def gJ(s:ByteArray)(n:Int):ByteArray:=s++(aa 91++(Ia n++aa 93))
def gK(rec:PK->List Tok->PR)(r:List Tok):PR:=match acc (aa 40) r with
 | some r1=>(rec .W r1).bind fun e r2=>match acc (aa 41) r2 with
  | some r3=>.ok e r3
  | none=>eF r2
 | none=>match cH r with
  | some (n,r1)=>if 65535<n then .bad 3 r else .ok (.mk 1 n ⟨#[]⟩ []) r1
  | none=>match bT r with
   | none=>eF r
   | some (s,r1)=>match (if s=lB then acc (aa 40) r1 else none)with
    | some r2=>match bT r2 with
     | none=>eF r2
     | some (a,r3)=>match acc (aa 41) r3 with
      | some r4=>.ok (.mk 24 0 a []) r4
      | none=>eF r3
    | none=>match (if s=gC then acc (aa 40) r1 else none)with
     | some r2=>(rec .W r2).bind fun e r3=>match acc (aa 41) r3 with
      | some r4=>.ok (aI 25 [e]) r4
      | none=>eF r3
     | none=>match acc (aa 91) r1 with
      | some r2=>(rec .W r2).bind fun e r3=>match acc (aa 93) r3 with
       | some r4=>.ok (.mk 3 0 s [e]) r4
       | none=>eF r3
      | none=>match acc (aa 64) r1 with
       | some r2=>match cH r2 with
        | none=>eF r2
        | some (n,r3)=>if 65535<n then .bad 3 r2 else .ok (.mk 2 0 (gJ s n) []) r3
       | none=>.ok (.mk 2 0 s []) r1
def bo(rec:PK->List Tok->PR):PK->List Tok->PR
 | .W,r=>(rec .I r).bind fun c r1=>match acc (aa 63) r1 with
  | none=>.ok c r1
  | some r2=>(rec .W r2).bind fun a r3=>match acc (aa 58) r3 with
   | none=>eF r3
   | some r4=>(rec .W r4).bind fun b r5=>.ok (aI 22 [c,a,b]) r5
 | .I,r=>(rec (.L 3) r).bind fun a r1=>match acc (aZ 61 62) r1 with
  | none=>.ok a r1
  | some r2=>(rec .I r2).bind fun b r3=>.ok (aI 21 [a,b]) r3
 | .L k,r=>if 12<k then rec .U r else(rec (.L (k+1)) r).bind fun a r1=>rec (.Lp k a) r1
 | .Lp k a,r=>match (if k=9 then acc cr r else none)with
  | some r1=>(rec (.In a) r1).bind fun b r2=>rec (.Lp k b) r2
  | none=>match dG k r with
   | none=>.ok a r
   | some (o,ex,r1)=>(rec (.L (k+1)) r1).bind fun c r2=>rec (.Lp k (if ex then aI o [c,a]else aI o [a,c])) r2
 | .In a,r=>match acc (aa 123) r with
  | none=>eF r
  | some r1=>rec (.Ip [a]) r1
 | .Ip args,r=>(rec .W r).bind fun lo r1=>match acc (aZ 46 46) r1 with
  | none=>eF r1
  | some r2=>(rec .W r2).bind fun hi r3=>match acc (aa 44) r3 with
   | some r4=>rec (.Ip (args++[lo,hi])) r4
   | none=>match acc (aa 125) r3 with
    | some r5=>.ok (aI 23 (args++[lo,hi])) r5
    | none=>eF r3
 | .U,r=>match acc (aa 33) r with
  | some r1=>(rec .U r1).bind fun a r2=>.ok (aI 4 [a]) r2
  | none=>match acc (aa 126) r with
   | some r1=>(rec .U r1).bind fun a r2=>.ok (aI 5 [a]) r2
   | none=>match acc (aa 45) r with
    | some r1=>(rec .U r1).bind fun a r2=>.ok (aI 6 [a]) r2
    | none=>rec .P r
 | .P,r=>gK rec r
def fG:Nat->PK->List Tok->PR
 | 0,_,_=>.out
 | n+1,k,r=>bo (fG n) k r
theorem Dq{m:ByteArray}{r r1:List Tok}(h:acc m r=some r1):∃t,r=t::r1/\bO t=true/\(t.kind=4\/t.kind=2)/\t.text=m:=by
 cases r with
 | nil=>cases h
 | cons t q=>
  simp only[acc]at h;split at h
  .rename_i hc;cases h;exact⟨t,rfl,hc⟩
  .cases h
theorem xV{r r1:List Tok}{s:ByteArray}(h:bT r=some (s,r1)):∃t,r=t::r1/\bO t=true/\t.kind=1/\t.text=s:=by
 cases r with
 | nil=>cases h
 | cons t q=>
  simp only[bT]at h;split at h
  .rename_i hc;cases h;exact⟨t,rfl,hc.1,hc.2,rfl⟩
  .cases h
theorem sI{r r1:List Tok}{n:Int}(h:cH r=some (n,r1)):∃t,r=t::r1/\bO t=true/\t.kind=3/\t.num=n:=by
 cases r with
 | nil=>cases h
 | cons t q=>
  simp only[cH]at h;split at h
  .rename_i hc;cases h;exact⟨t,rfl,hc.1,hc.2,rfl⟩
  .cases h
theorem aD{m:ByteArray}{r r1:List Tok}(h:acc m r=some r1):r1 <:+ r/\r1.length<r.length:=by
 obtain⟨t,rfl,-⟩:=Dq h;exact⟨SE _ _,by simp⟩
theorem fe{r r1:List Tok}{s:ByteArray}(h:bT r=some (s,r1)):r1 <:+ r/\r1.length<r.length:=by
 obtain⟨t,rfl,-⟩:=xV h;exact⟨SE _ _,by simp⟩
theorem iT{r r1:List Tok}{n:Int}(h:cH r=some (n,r1)):r1 <:+ r/\r1.length<r.length:=by
 obtain⟨t,rfl,-⟩:=sI h;exact⟨SE _ _,by simp⟩
theorem nI:∀(l:List (ByteArray×Int×Nat)) (k:Nat) (r:List Tok) {o:Int} {r1:List Tok},iV l k r=some (o,r1)->r1 <:+ r/\r1.length<r.length
 | [],_,_,_,_,h=>by cases h
 | b::l,k,r,o,r1,h=>by
  simp only[iV]at h;split at h
  .split at h
   .rename_i q hq;cases h;exact aD hq
   .exact nI l k r h
  .exact nI l k r h
theorem lq{k:Nat}{r r1:List Tok}{o:Int}{ex:Bool}(h:dG k r=some (o,ex,r1)):r1 <:+ r/\r1.length<r.length:=by
 unfold dG at h;split at h
 .rename_i o' q hq;cases h;exact nI _ _ _ hq
 .split at h
  .split at h
   .rename_i q hq;cases h;exact aD hq
   .split at h
    .rename_i q hq;cases h;exact aD hq
    .cases h
  .cases h
def PR.le(x y:PR):Prop:=x=.out\/x=y
theorem PR.le.rfl{x:PR}:x.le x:=.inr (Eq.refl x)
theorem cm{x x':PR}{f f':Ex->List Tok->PR}(h:x.le x')(hf:∀e r,(f e r).le (f' e r)):(x.bind f).le (x'.bind f'):=by
 rcases h with rfl|rfl
 .exact .inl (Eq.refl _)
 .cases x with
  | out=>exact .inl (Eq.refl _)
  | bad e r=>exact .rfl
  | ok e r=>exact hf e r
theorem yw{rec rec':PK->List Tok->PR}(h:∀k r,(rec k r).le (rec' k r))(r:List Tok):(gK rec r).le (gK rec' r):=by
 unfold gK;cases acc (aa 40) r with
 | some r1=>exact cm (h _ _) fun e r2=>.rfl
 | none=>
 cases cH r with
 | some p=>exact .rfl
 | none=>
 cases bT r with
 | none=>exact .rfl
 | some p=>
 obtain⟨s,r1⟩:=p;simp only;cases (if s=lB then acc (aa 40) r1 else none)with
 | some r2=>exact .rfl
 | none=>
 simp only;cases (if s=gC then acc (aa 40) r1 else none)with
 | some r2=>exact cm (h _ _) fun e r3=>.rfl
 | none=>
 simp only;cases acc (aa 91) r1 with
 | some r2=>exact cm (h _ _) fun e r3=>.rfl
 | none=>exact .rfl
theorem qW{rec rec':PK->List Tok->PR}(h:∀k r,(rec k r).le (rec' k r))(k:PK)(r:List Tok):(bo rec k r).le (bo rec' k r):=by
 cases k with
 | W=>
  simp only[bo];refine cm (h _ _) fun c r1=>?_;cases acc (aa 63) r1 with
  | none=>exact .rfl
  | some r2=>
   refine cm (h _ _) fun a r3=>?_;cases acc (aa 58) r3 with
   | none=>exact .rfl
   | some r4=>exact cm (h _ _) fun b r5=>.rfl
 | I=>
  simp only[bo];refine cm (h _ _) fun c r1=>?_;cases acc (aZ 61 62) r1 with
  | none=>exact .rfl
  | some r2=>exact cm (h _ _) fun b r5=>.rfl
 | L k=>
  simp only[bo];split
  .exact h _ _
  .exact cm (h _ _) fun b r5=>h _ _
 | Lp k a=>
  simp only[bo];cases (if k=9 then acc cr r else none)with
  | some r1=>exact cm (h _ _) fun b r5=>h _ _
  | none=>
   simp only;cases dG k r with
   | none=>exact .rfl
   | some p=>exact cm (h _ _) fun b r5=>h _ _
 | In a=>
  simp only[bo];cases acc (aa 123) r with
  | none=>exact .rfl
  | some r1=>exact h _ _
 | Ip args=>
  simp only[bo];refine cm (h _ _) fun lo r1=>?_;cases acc (aZ 46 46) r1 with
  | none=>exact .rfl
  | some r2=>
   refine cm (h _ _) fun hi r3=>?_;cases acc (aa 44) r3 with
   | some r4=>exact h _ _
   | none=>exact .rfl
 | U=>
  simp only[bo];cases acc (aa 33) r with
  | some r1=>exact cm (h _ _) fun b r5=>.rfl
  | none=>
  cases acc (aa 126) r with
  | some r1=>exact cm (h _ _) fun b r5=>.rfl
  | none=>
  cases acc (aa 45) r with
  | some r1=>exact cm (h _ _) fun b r5=>.rfl
  | none=>exact h _ _
 | P=>exact yw h r
theorem qq:∀(n:Nat) (k:PK) (r:List Tok),(fG n k r).le (fG (n+1) k r)
 | 0,_,_=>.inl rfl
 | n+1,k,r=>qW (qq n) k r
theorem lR{n m:Nat}(h:n≤m)(k:PK)(r:List Tok):(fG n k r).le (fG m k r):=by
 induction h with
 | refl=>exact .rfl
 | step h ih=>
  rcases ih with e|e
  .exact .inl e
  .rw[e];exact qq _ k r
def gM(s:Bool)(r:List Tok):PR->Prop
 | .out=>True
 | .bad _ r'=>r' <:+ r
 | .ok _ r'=>r' <:+ r/\(s=true->r'.length<r.length)
theorem gM.weak{s:Bool}{r r0:List Tok}{x:PR}(h:gM s r x)(hr:r <:+ r0):gM s r0 x:=by
 cases x with
 | out=>trivial
 | bad e q=>exact h.trans hr
 | ok e q=>exact⟨h.1.trans hr,fun e=>SM (h.2 e) hr.length_le⟩
theorem gM.strict{s:Bool}{r r0:List Tok}{x:PR}(h:gM s r x)(hr:r <:+ r0)(hl:r.length<r0.length):gM true r0 x:=by
 cases x with
 | out=>trivial
 | bad e q=>exact h.trans hr
 | ok e q=>exact⟨h.1.trans hr,fun _=>SN h.1.length_le hl⟩
theorem gM.less{s:Bool}{r:List Tok}{x:PR}(h:gM s r x):gM false r x:=by
 cases x with
 | out=>trivial
 | bad e q=>exact h
 | ok e q=>exact⟨h.1,fun h=>by cases h⟩
theorem cl{s t:Bool}{r:List Tok}{x:PR}{f:Ex->List Tok->PR}(h:gM s r x)(hf:∀e r1,r1 <:+ r->gM t r1 (f e r1)):gM (s||t) r (x.bind f):=by
 cases x with
 | out=>trivial
 | bad e q=>exact h
 | ok e q=>
  have h1:=hf e q h.1;show gM (s||t) r (f e q);cases hx:f e q with
  | out=>trivial
  | bad e' q'=>rw[hx]at h1;exact h1.trans h.1
  | ok e' q'=>
   rw[hx]at h1;refine⟨h1.1.trans h.1,fun hs=>?_⟩;rcases Bool.or_eq_true_iff.1 hs with g|g
   .exact SN h1.1.length_le (h.2 g)
   .exact SM (h1.2 g) h.1.length_le
theorem dw{s:Bool}(r:List Tok):gM s r (eF r):=by
 cases r with
 | nil=>exact SA _
 | cons t r=>exact SA _
theorem dM(e:Ex){r r1:List Tok}(h:r1 <:+ r):gM false r (.ok e r1):=⟨h,fun h=>by cases h⟩
theorem ET{s:Bool}(e:Ex){r r1:List Tok}(h:r1 <:+ r/\r1.length<r.length):gM s r (.ok e r1):=⟨h.1,fun _=>h.2⟩
def PK.eats:PK->Bool
 | .Lp _ _=>false
 | _=>true
theorem Cz{rec:PK->List Tok->PR}(h:∀k r,gM k.eats r (rec k r))(r:List Tok):gM true r (gK rec r):=by
 unfold gK;cases h1:acc (aa 40) r with
 | some r1=>
  obtain⟨a1,a2⟩:=aD h1;refine(cl (t:=false) ((h .W r1)) fun e r2 hs=>?_).strict a1 a2;cases h2:acc (aa 41) r2 with
  | some r3=>exact dM _ (aD h2).1
  | none=>exact dw _
 | none=>
 cases h2:cH r with
 | some p=>
  obtain⟨n,r1⟩:=p;simp only;split
  .exact SA _
  .exact ET _ (iT h2)
 | none=>
 cases h3:bT r with
 | none=>exact dw _
 | some p=>
 obtain⟨s,r1⟩:=p;obtain⟨n1,n2⟩:=fe h3
 suffices hh:∀x,gM false r1 x->gM true r x by
  refine hh _ ?_;simp only;cases h4:(if s=lB then acc (aa 40) r1 else none)with
  | some r2=>
   have a1:r2 <:+ r1:=by
    split at h4
    .exact(aD h4).1
    .cases h4
   simp only;cases h5:bT r2 with
   | none=>exact(dw r2).weak a1
   | some p=>
    obtain⟨a,r3⟩:=p;simp only;cases h6:acc (aa 41) r3 with
    | some r4=>exact dM _ (((aD h6).1.trans (fe h5).1).trans a1)
    | none=>exact(dw r3).weak ((fe h5).1.trans a1)
  | none=>
  simp only;cases h5:(if s=gC then acc (aa 40) r1 else none)with
  | some r2=>
   have a1:r2 <:+ r1:=by
    split at h5
    .exact(aD h5).1
    .cases h5
   have:=(cl (t:=false) (f:=fun e r3=>match acc (aa 41) r3 with|some r4=>.ok (aI 25 [e]) r4|none=>eF r3) (h .W r2) fun e r3 hs=>by
    cases h6:acc (aa 41) r3 with
    | some r4=>exact dM _ (aD h6).1
    | none=>exact dw _).weak a1
   exact this.less
  | none=>
  simp only;cases h6:acc (aa 91) r1 with
  | some r2=>
   have:=(cl (t:=false) (f:=fun e r3=>match acc (aa 93) r3 with|some r4=>.ok (.mk 3 0 s [e]) r4|none=>eF r3) (h .W r2) fun e r3 hs=>by
    cases h6:acc (aa 93) r3 with
    | some r4=>exact dM _ (aD h6).1
    | none=>exact dw _).weak (aD h6).1
   exact this.less
  | none=>
  simp only;cases h7:acc (aa 64) r1 with
  | some r2=>
   simp only;cases h8:cH r2 with
   | none=>exact(dw r2).weak (aD h7).1
   | some p=>
    obtain⟨n,r3⟩:=p;simp only;split
    .exact(aD h7).1
    .exact dM _ ((iT h8).1.trans (aD h7).1)
  | none=>exact dM _ (SA _)
 intro x hx;exact hx.strict n1 n2
theorem Cp{rec:PK->List Tok->PR}(h:∀k r,gM k.eats r (rec k r))(k:PK)(r:List Tok):gM k.eats r (bo rec k r):=by
 cases k with
 | W=>
  simp only[bo];refine cl (s:=true) (t:=false) (h .I r) fun c r1 _=>?_;cases h1:acc (aa 63) r1 with
  | none=>exact dM _ (SA _)
  | some r2=>
   have:=cl (s:=true) (t:=false) (f:=fun a r3=>match acc (aa 58) r3 with|none=>eF r3|some r4=>(rec .W r4).bind fun b r5=>.ok (aI 22 [c,a,b]) r5) (h .W r2) fun a r3 _=>by
    cases h2:acc (aa 58) r3 with
    | none=>exact dw _
    | some r4=>
     have:=(cl (s:=true) (t:=false) (f:=fun b r5=>.ok (aI 22 [c,a,b]) r5) (h .W r4) fun b r5 _=>dM _ (SA _)).weak (aD h2).1;exact this.less
   have h3:=this.weak (aD h1).1;exact h3.less
 | I=>
  simp only[bo];refine cl (s:=true) (t:=false) (h (.L 3) r) fun c r1 _=>?_;cases h1:acc (aZ 61 62) r1 with
  | none=>exact dM _ (SA _)
  | some r2=>
   have:=(cl (s:=true) (t:=false) (f:=fun b r5=>.ok (aI 21 [c,b]) r5) (h .I r2) fun b r5 _=>dM _ (SA _)).weak (aD h1).1;exact this.less
 | L k=>
  simp only[bo];split
  .exact h .U r
  .exact cl (s:=true) (t:=false) (h (.L (k+1)) r) fun a r1 _=>h (.Lp k a) r1
 | Lp k a=>
  simp only[bo];cases h1:(if k=9 then acc cr r else none)with
  | some r1=>
   have a1:r1 <:+ r:=by
    split at h1
    .exact(aD h1).1
    .cases h1
   have:=(cl (s:=true) (t:=false) (f:=fun b r2=>rec (.Lp k b) r2) (h (.In a) r1) fun b r2 _=>h (.Lp k b) r2).weak a1;exact this.less
  | none=>
   simp only;cases h2:dG k r with
   | none=>exact dM _ (SA _)
   | some p=>
    obtain⟨o,ex,r1⟩:=p;have:=(cl (s:=true) (t:=false) (f:=fun c r2=>rec (.Lp k (if ex then aI o [c,a]else aI o [a,c])) r2) (h (.L (k+1)) r1) fun b r2 _=>h (.Lp k _) r2).weak (lq h2).1;exact this.less
 | In a=>
  simp only[bo];cases h1:acc (aa 123) r with
  | none=>exact dw _
  | some r1=>exact(h (.Ip [a]) r1).weak (aD h1).1
 | Ip args=>
  simp only[bo];refine cl (s:=true) (t:=false) (h .W r) fun lo r1 _=>?_;cases h1:acc (aZ 46 46) r1 with
  | none=>exact dw _
  | some r2=>
   have:=(cl (s:=true) (t:=false) (f:=fun hi r3=>match acc (aa 44) r3 with|some r4=>rec (.Ip (args++[lo,hi])) r4|none=>match acc (aa 125) r3 with|some r5=>.ok (aI 23 (args++[lo,hi])) r5|none=>eF r3) (h .W r2) fun hi r3 _=>by
    cases h2:acc (aa 44) r3 with
    | some r4=>
     have:=(h (.Ip (args++[lo,hi])) r4).weak (aD h2).1;exact this.less
    | none=>
     simp only;cases h3:acc (aa 125) r3 with
     | some r5=>exact dM _ (aD h3).1
     | none=>exact dw _).weak (aD h1).1
   exact this.less
 | U=>
  simp only[bo];cases h1:acc (aa 33) r with
  | some r1=>exact(cl (s:=true) (t:=false) (h .U r1) fun a r2 _=>dM _ (SA _)).weak (aD h1).1
  | none=>
  cases h2:acc (aa 126) r with
  | some r1=>exact(cl (s:=true) (t:=false) (h .U r1) fun a r2 _=>dM _ (SA _)).weak (aD h2).1
  | none=>
  cases h3:acc (aa 45) r with
  | some r1=>exact(cl (s:=true) (t:=false) (h .U r1) fun a r2 _=>dM _ (SA _)).weak (aD h3).1
  | none=>exact h .P r
 | P=>exact Cz h r
theorem nG:∀(n:Nat) (k:PK) (r:List Tok),gM k.eats r (fG n k r)
 | 0,_,_=>trivial
 | n+1,k,r=>Cp (nG n) k r
def PK.cost:PK->Nat
 | .W=>15
 | .I=>14
 | .L k=>3+(13-k)
 | .Lp _ _=>1
 | .In _=>1
 | .Ip _=>16
 | .U=>2
 | .P=>1
def FY(k:PK)(r:List Tok):Nat:=40*r.length+k.cost
theorem du{x:PR}{f:Ex->List Tok->PR}(h:x≠.out)(hf:∀e r,x=.ok e r->f e r≠.out):x.bind f≠.out:=by
 cases x with
 | out=>exact absurd rfl h
 | bad e r=>intro h;cases h
 | ok e r=>exact hf e r rfl
theorem fr(r:List Tok):eF r≠.out:=by cases r<;>(intro h;cases h)
theorem pg(k:PK):1≤k.cost/\k.cost≤16:=by
 cases k<;>simp only[PK.cost]<;>omega
theorem kP{n:Nat}{k:PK}{r r1:List Tok}{e:Ex}(h:fG n k r=.ok e r1):r1.length≤r.length/\(k.eats=true->r1.length<r.length):=by
 have:=nG n k r;rw[h]at this;exact⟨this.1.length_le,this.2⟩
theorem Sf:∀(n:Nat) (k:PK) (r:List Tok),FY k r≤n->fG n k r≠.out:=by
 intro n
 induction n with
 | zero=>intro k r h;have:=(pg k).1;unfold FY at h;omega
 | succ n ih=>
  intro k r hn
  have less:∀(k':PK) (r':List Tok),r'.length<r.length->fG n k' r'≠.out:=fun k' r' hl=>ih k' r' (by
   have:=(pg k').2;have:=(pg k).1;unfold FY at *;omega)
  have same:∀(k':PK),k'.cost<k.cost->fG n k' r≠.out:=fun k' hc=>ih k' r (by unfold FY at *;omega);show bo (fG n) k r≠.out;cases k with
  | W=>
   simp only[bo];refine du (same .I (by decide)) fun c r1 h1=>?_;have l1:=(kP h1).2 rfl;cases h2:acc (aa 63) r1 with
   | none=>intro h;cases h
   | some r2=>
    have l2:=(aD h2).2;refine du (less _ _ (by omega)) fun a r3 h3=>?_;have l3:=(kP h3).1;cases h4:acc (aa 58) r3 with
    | none=>exact fr _
    | some r4=>
     have l4:=(aD h4).2;exact du (less _ _ (by omega)) fun b r5 _ h=>by cases h
  | I=>
   simp only[bo];refine du (same (.L 3) (by decide)) fun c r1 h1=>?_;have l1:=(kP h1).2 rfl;cases h2:acc (aZ 61 62) r1 with
   | none=>intro h;cases h
   | some r2=>
    have l2:=(aD h2).2;exact du (less _ _ (by omega)) fun b r5 _ h=>by cases h
  | L k=>
   simp only[bo];split
   .exact same .U (by simp only[PK.cost];omega)
   .rename_i hk;refine du (same (.L (k+1)) (by simp only[PK.cost];omega)) fun c r1 h1=>?_;exact less _ _ ((kP h1).2 rfl)
  | Lp k a=>
   simp only[bo];cases h1:(if k=9 then acc cr r else none)with
   | some r1=>
    have a1:r1.length<r.length:=by
     split at h1
     .exact(aD h1).2
     .cases h1
    exact du (less _ _ a1) fun b r2 h2=>less _ _ (by have:=(kP h2).1;omega)
   | none=>
    simp only;cases h2:dG k r with
    | none=>intro h;cases h
    | some p=>
     obtain⟨o,ex,r1⟩:=p;have a1:=(lq h2).2;exact du (less _ _ a1) fun b r2 h2=>less _ _ (by have:=(kP h2).1;omega)
  | In a=>
   simp only[bo];cases h1:acc (aa 123) r with
   | none=>exact fr _
   | some r1=>exact less _ _ (aD h1).2
  | Ip args=>
   simp only[bo];refine du (same .W (by simp only[PK.cost];omega)) fun lo r1 h1=>?_;have l1:=(kP h1).2 rfl;cases h2:acc (aZ 46 46) r1 with
   | none=>exact fr _
   | some r2=>
    have l2:=(aD h2).2;refine du (less _ _ (by omega)) fun hi r3 h3=>?_;have l3:=(kP h3).1;cases h4:acc (aa 44) r3 with
    | some r4=>exact less _ _ (by have:=(aD h4).2;omega)
    | none=>
     simp only;cases h5:acc (aa 125) r3 with
     | some r5=>intro h;cases h
     | none=>exact fr _
  | U=>
   simp only[bo];cases h1:acc (aa 33) r with
   | some r1=>exact du (less _ _ (aD h1).2) fun b r5 _ h=>by cases h
   | none=>
   cases h2:acc (aa 126) r with
   | some r1=>exact du (less _ _ (aD h2).2) fun b r5 _ h=>by cases h
   | none=>
   cases h3:acc (aa 45) r with
   | some r1=>exact du (less _ _ (aD h3).2) fun b r5 _ h=>by cases h
   | none=>exact same .P (by decide)
  | P=>
   show gK (fG n) r≠.out;unfold gK;cases h1:acc (aa 40) r with
   | some r1=>
    refine du (less _ _ (aD h1).2) fun e r2 _=>?_;cases acc (aa 41) r2 with
    | some r3=>intro h;cases h
    | none=>exact fr _
   | none=>
   cases h2:cH r with
   | some p=>simp only;split<;>(intro h;cases h)
   | none=>
   cases h3:bT r with
   | none=>exact fr _
   | some p=>
   obtain⟨s,r1⟩:=p;have l1:=(fe h3).2;simp only;cases h4:(if s=lB then acc (aa 40) r1 else none)with
   | some r2=>
    simp only;cases bT r2 with
    | none=>exact fr _
    | some p=>
     simp only;cases acc (aa 41) p.2 with
     | some r4=>intro h;cases h
     | none=>exact fr _
   | none=>
   simp only;cases h5:(if s=gC then acc (aa 40) r1 else none)with
   | some r2=>
    have a1:r2.length<r1.length:=by
     split at h5
     .exact(aD h5).2
     .cases h5
    refine du (less _ _ (by omega)) fun e r2 _=>?_;cases acc (aa 41) r2 with
    | some r3=>intro h;cases h
    | none=>exact fr _
   | none=>
   simp only;cases h6:acc (aa 91) r1 with
   | some r2=>
    have a1:=(aD h6).2;refine du (less _ _ (by omega)) fun e r2 _=>?_;cases acc (aa 93) r2 with
    | some r3=>intro h;cases h
    | none=>exact fr _
   | none=>
   simp only;cases h7:acc (aa 64) r1 with
   | some r2=>
    simp only;cases cH r2 with
    | none=>exact fr _
    | some p=>simp only;split<;>(intro h;cases h)
   | none=>intro h;cases h
def par(k:PK)(r:List Tok):PR:=fG (40*r.length+20) k r
theorem fA(k:PK)(r:List Tok):par k r≠.out:=Sf _ _ _ (by have:=(pg k).2;unfold FY;omega)
theorem C4(n:Nat)(k:PK)(r:List Tok):(fG n k r).le (par k r):=by
 rcases Nat.le_total n (40*r.length+20)with h|h
 .exact lR h k r
 .rcases lR h k r with e|e
  .exact absurd e (fA k r)
  .exact .inr e.symm
theorem ku(k:PK)(r:List Tok):par k r=bo par k r:=by
 have h1:=qW (C4 (40*r.length+20)) k r;have h2:=lR (Nat.le_succ (40*r.length+20)) k r;rcases h2 with e|e
 .exact absurd e (fA k r)
 .rcases h1 with g|g
  .exact absurd (e.trans g) (fA k r)
  .exact e.trans g
theorem iM(k:PK)(r:List Tok):gM k.eats r (par k r):=nG _ k r
end Go.Proofs.YtnhphlmblenapaaGreatDoor
