import Derived.Test.YthekkgfmagliiaaGreatDoorPu
set_option linter.unusedVariables false
set_option linter.unusedSimpArgs false
set_option linter.unusedSectionVars false
open Bool renaming and_eq_true->Rs
open List renaming length_cons->Ru,takeWhile_cons_of_pos->Rv,length_append->Rw,length_nil->Rx,isPrefixOf->Ry
open Nat renaming le_refl->Rz
open Option renaming map_some->RA
open UInt8 renaming toNat_inj->RB
namespace Go.Proofs.YthekkgfmagliiaaGreatDoor
open Go.RowKit
theorem Cq(l:Bs)(d:UInt8):ct (l++[d])=10*ct l+(d.toNat-48):=by
 unfold ct;rw[List.foldl_append];rfl
theorem Ah:∀(l:Bs) (n:Nat),n≤l.foldl (fun n c=>10*n+(c.toNat-48)) n
 | [],n=>Rz _
 | c::l,n=>Nat.le_trans (by omega) (Ah l (10*n+(c.toNat-48)))
theorem EX:∀(k:Nat) (l:Bs),l.length=k+1->(∀x,x∈l->da x.toNat=true)->(1<l.length->l.head? ≠ some 48)->Lib.decDigits (ct l)=l:=by
 intro k
 induction k with
 | zero=>
  intro l hl hd _
  match l,hl with
  | [d],_=>
   have:=hd d (by simp);simp only[da,Rs,decide_eq_true_eq]at this;have e:ct [d]=d.toNat-48:=by simp[ct]
   rw[e,Lib.decDigits,dif_pos (by omega)];congr 1;rw[<-RB,gR _ (by omega)];omega
 | succ k ih=>
  intro l hl hd hz
  obtain⟨x,d,rfl⟩:∃x d,l=x++[d]:=by
   rcases List.eq_nil_or_concat l with h|⟨x,d,h⟩
   .rw[h]at hl;simp at hl
   .exact⟨x,d,by rw[h];simp⟩
  have hxl:x.length=k+1:=by simpa using hl
  have hdd:=hd d (by simp);simp only[da,Rs,decide_eq_true_eq]at hdd
  have hx:=ih x hxl (fun y hy=>hd y (by simp[hy])) (fun h1 h2=>hz (by simp;omega) (by
   cases x with
   | nil=>simp at hxl
   | cons a x=>simpa using h2))
  have hpos:1≤ct x:=by
   match x,hxl with
   | a::r,_=>
    have ha:=hd a (by simp);simp only[da,Rs,decide_eq_true_eq]at ha;have hne:a≠48:=fun e=>hz (by simp) (by simp[e])
    have h49:49≤a.toNat:=by
     apply Classical.byContradiction;intro hh;exact hne (by rw[<-RB];show a.toNat=48;omega)
    have:=Ah r (10*0+(a.toNat-48));show 1≤(a::r).foldl _ 0;rw[List.foldl_cons];omega
  rw[Cq,Lib.decDigits,dif_neg (by omega)];have e1:(10*ct x+(d.toNat-48))/10=ct x:=by omega
  have e2:(10*ct x+(d.toNat-48))%10=d.toNat-48:=by omega
  rw[e1,e2,hx];congr 2;rw[<-RB,gR _ (by omega)];omega
theorem wX:∀(k u:Nat),u<10^(k+1)->(Lib.decDigits u).length≤k+1
 | 0,u,h=>by rw[Lib.decDigits,dif_pos (by omega)];simp
 | k+1,u,h=>by
  rw[Lib.decDigits];split
  .simp
  .have:=wX k (u/10) (by rw[Nat.pow_succ]at h;omega);simp;omega
theorem Dz{c:UInt8}{r:Bs}{kd n:Int}{len:Nat}(N:Int)(h:bG (c::r)=.tok kd n len):bl (eG N (c::r) kd n len)=true/\len≤16:=by
 have htake:∀(p:UInt8->Bool),(c::r).take ((c::r).takeWhile p).length=(c::r).takeWhile p:=fun p=>(List.prefix_iff_eq_take.1 (List.takeWhile_prefix p)).symm;simp only[bG]at h;split at h
 .rename_i hl;split at h
  .cases h
  .rename_i h16;cases h;refine⟨?_,by omega⟩;unfold eG;rw[htake]
   have hall:∀x,x∈(c::r).takeWhile inn->inn x=true:=fun x hx=>by
    have:=List.all_takeWhile (p:=inn) (l:=c::r);exact List.all_eq_true.1 this x hx
   have hinc:inn c=true:=by unfold inn fP;simp[hl]
   have hne:(c::r).takeWhile inn=c::r.takeWhile inn:=Rv hinc
   have hw:gV (⟨((c::r).takeWhile inn).toArray⟩:ByteArray)=true:=by
    unfold gV;show iM ((c::r).takeWhile inn)=true;rw[hne]at hall ⊢;simp only[iM,hl,Bool.true_and];rw[List.all_eq_true];exact hall
   by_cases hk:inB ⟨((c::r).takeWhile inn).toArray⟩ dk=true
   .rw[if_pos hk];unfold bl;simp[hk]
   .have hsz:(⟨((c::r).takeWhile inn).toArray⟩:ByteArray).size≤16:=by rw[Lib.size_eq];simpa using h16
    rw[if_neg hk];have hk2:inB ⟨((c::r).takeWhile inn).toArray⟩ dk=false:=by simpa using hk
    unfold bl cf;simp only[hw,hk2,hsz,decide_true,Bool.and_self,Bool.not_false];rfl
 .split at h
  .rename_i hd;split at h
   .cases h
   .rename_i h1;split at h
    .cases h
    .rename_i h2;cases h
     have hd2:∀x,x∈(c::r).takeWhile inn->da x.toNat=true:=fun x hx=>by
      have:((c::r).takeWhile inn).all (fun x=>da x.toNat)=true:=by
       cases hh:((c::r).takeWhile inn).all fun x=>da x.toNat with
       | true=>rfl
       | false=>exact absurd (.inl hh) h1
      exact List.all_eq_true.1 this x hx
     have hne:(c::r).takeWhile inn=c::r.takeWhile inn:=Rv (by unfold inn fP;simp[hd])
     have hz:1<((c::r).takeWhile inn).length->((c::r).takeWhile inn).head? ≠ some 48:=fun hh e=>by
      rw[hne]at e;simp at e;exact h1 (.inr ⟨hh,e⟩)
     have hb:=EX (r.takeWhile inn).length _ (by rw[hne];rfl) hd2 hz
     have hlen:((c::r).takeWhile inn).length≤16:=by
      have:=wX 9 (ct ((c::r).takeWhile inn)) (by omega);rw[hb]at this;omega
     refine⟨?_,hlen⟩;unfold eG;rw[htake];unfold bl;simp[hb];omega
  .split at h
   .cases h
   .rename_i hb;cases h;rcases lG aC 0 (c::r)with h1|⟨m,h1,h2,h3⟩
    .exact absurd h1 hb
    .have h5:=pA m h1;have h6:ck (c::r)=m.length:=h3;refine⟨?_,by rw[h6];omega⟩;unfold eG;rw[h6,<-List.prefix_iff_eq_take.1 (List.isPrefixOf_iff_prefix.1 h2)];unfold bl;simp[h1]
theorem Ct:∀(k:Nat) (N:Int) (l:Bs) (ts:List Tok),l.length≤k->dn N l=.ok ts->(∀t,t∈ts->bl t=true/\t.text.size≤16)/\ts.length≤l.length:=by
 intro k
 induction k with
 | zero=>
  intro N l ts h ht;have:l=[]:=List.eq_nil_of_length_eq_zero (by omega);subst this;rw[aX,db]at ht;cases ht;simp
 | succ k ih=>
  intro N l ts h ht;rw[aX]at ht;have hs:=(dH l).length_le;cases hsk:be l with
  | nil=>rw[hsk]at ht;cases ht;simp
  | cons c r=>
   rw[hsk]at ht hs;simp only at ht;cases hrd:bG (c::r)with
   | err e=>rw[hrd]at ht;cases ht
   | tok kd n len=>
    obtain⟨g1,g2⟩:=iU hrd;obtain⟨v1,v2⟩:=Dz N hrd;rw[hrd]at ht;simp only at ht;have hdl:=List.length_drop (l:=c::r) (i:=len);cases hq:dn N ((c::r).drop len)with
    | err x e=>rw[hq]at ht;cases ht
    | ok us=>
     rw[hq]at ht;cases ht;obtain⟨i1,i2⟩:=ih N _ us (by omega) hq;refine⟨fun t ht=>?_,by simp only[Ru]at *;omega⟩;rcases List.mem_cons.1 ht with rfl|ht
     .refine⟨v1,?_⟩;unfold eG;rw[Lib.size_eq];simp only[List.length_take,List.size_toArray];simp;omega
     .exact i1 t ht
theorem eo{l:Bs}{ts:List Tok}(h:cS l=.ok ts):(∀t,t∈ts->bl t=true/\t.text.size≤16)/\ts.length≤l.length:=Ct _ _ l ts (Rz _) h
theorem zd{s:Bs}{ts:List Tok}(h:cS s=.ok ts):∃n,cS (40::(s++[10,41]))=.ok (tm (aa 40)::(ts++[⟨4,0,aa 41,n⟩])):=by
 have hc:(40::(s++[10,41]):Bs).count 10=s.count 10+1:=by
  rw[List.count_cons_of_ne (by decide),List.count_append];rfl
 have hm:=DR s.length (1+((s.count 10+1:Nat):Int)) s [41] ts (Rz _) (by
  have:(1+((s.count 10+1:Nat):Int))-((10::[41]:Bs).count 10:Nat)=1+(s.count 10:Nat):=by
   rw[show(10::[41]:Bs).count 10=1 by decide];omega
  rw[this];exact h)
 have h41:∀N:Int,dn N [41]=.ok [⟨4,0,aa 41,N⟩]:=fun N=>by
  rw[aX];have e1:be [41]=[41]:=by decide
  have e2:bG [41]=.tok 4 0 1:=by
   simp only[bG];have hb1:ck [41]=1:=by decide +kernel
   rw[if_neg (by decide),if_neg (by decide),hb1];rfl
  rw[e1];simp only[e2];rw[show([41]:Bs).drop 1=[]from rfl,aX,db];simp only[Lx.cons,eG];rw[show([41]:Bs).count 10=0 by decide];simp[aa]
 rw[h41]at hm;refine⟨1+((s.count 10+1:Nat):Int),?_⟩
 have hb:ck (40::(s++[10,41]))=1:=by
  rcases lG aC 0 (40::(s++[10,41]))with h1|⟨m,h1,h2,h3⟩
  .exfalso
   have:∀(ms:List Bs) (b:Nat) (l:Bs),b≤ef ms b l/\∀m,m∈ms->m.isPrefixOf l=true->m.length≤ef ms b l:=by
    intro ms
    induction ms with
    | nil=>intro b l;exact⟨Rz _,fun m hm=>by cases hm⟩
    | cons x ms ih=>
     intro b l;simp only[ef];split
     .rename_i hx;obtain⟨i1,i2⟩:=ih x.length l;refine⟨by omega,fun m hm hp=>?_⟩;rcases List.mem_cons.1 hm with rfl|hm
      .exact i1
      .exact i2 m hm hp
     .rename_i hx;obtain⟨i1,i2⟩:=ih b l;refine⟨i1,fun m hm hp=>?_⟩;rcases List.mem_cons.1 hm with rfl|hm
      .have:¬b<m.length:=fun hb=>hx ⟨hb,hp⟩;omega
      .exact i2 m hm hp
   have:=(this aC 0 (40::(s++[10,41]))).2 [40] (by decide) (by simp[Ry]);rw[h1]at this;simp at this
  .unfold ck;rw[h3];have key:∀m,m∈aC->m=[40]\/(match m with | []=>false|a::_=>a != 40)=true:=by decide +kernel
   rcases key m h1 with h|h
   .rw[h];rfl
   .cases m with
    | nil=>cases h
    | cons a r=>
     simp only[Ry,Rs,beq_iff_eq]at h2;rw[h2.1]at h;cases h
 have hr:bG (40::(s++[10,41]))=.tok 4 0 1:=by
  simp only[bG];rw[if_neg (by decide),if_neg (by decide),hb];rfl
 unfold cS;rw[hc,aX,dA (by decide) (by decide)];simp only[hr];rw[show(40::(s++[10,41]):Bs).drop 1=s++10::[41]from rfl,hm];simp only[Lx.app,Lx.cons,eG,hc];rw[show 1+((s.count 10+1:Nat):Int)-((s.count 10+1:Nat):Int)=1 by omega];rfl
inductive QR(α:Type) where
 | out
 | late
 | bad (l e:Int)
 | ok (s:α) (r:List Tok)
def QR.bind{α β:Type}(x:QR α)(f:α->List Tok->QR β):QR β:=match x with
 | .out=>.out
 | .late=>.late
 | .bad l e=>.bad l e
 | .ok s r=>f s r
def zEx:Ex:=.mk 0 0 ⟨#[]⟩ []
def orW:ByteArray:=⟨#[111,114]⟩
def jx:ByteArray:=⟨#[97,110,100]⟩
def fZ:ByteArray:=⟨#[104,111,108,100]⟩
def inW:ByteArray:=⟨#[105,110]⟩
def qb:ByteArray:=⟨#[112,114,111,112,101,114,116,121]⟩
def ja:ByteArray:=⟨#[112,108,97,105,110]⟩
section
variable {α : Type} (N : Int)
def jl:List Tok->QR α
 | []=>.bad N 6
 | t::_=>.bad t.line 5
def cu(m:ByteArray)(r:List Tok)(f:List Tok->QR α):QR α:=match acc m r with
 | some r1=>f r1
 | none=>jl N r
def jR(r:List Tok)(f:Int->List Tok->QR α):QR α:=match bW r with
 | some (n,r1)=>f n r1
 | none=>jl N r
def fO(r:List Tok)(f:ByteArray->List Tok->QR α):QR α:=match bw r with
 | some (s,r1)=>f s r1
 | none=>jl N r
def Hh(c:Int)(r:List Tok):QR α:=if c=6 then .bad N 6 else match r with
 | []=>.bad N c
 | t::_=>.bad t.line c
def gq(r:List Tok)(f:Ex->List Tok->QR α):QR α:=match par .W r with
 | .out=>.out
 | .bad c r1=>Hh N c r1
 | .ok e r1=>if aZ e=0 then f e r1 else .late
end
inductive QK where
 | S
 | Sp (l:List Ts)
 | A
 | Ap (l:List Ts)
 | D
 | Dp (s:Ts)
 | H
 | R
 | Rp (s:Ts)
 | U
def nT(o lo hi:Int)(l:List Ts):Ts:=.mk o lo hi zEx ⟨#[]⟩ l
def lR(o:Int)(l:List Ts):Ts:=match l with
 | [s]=>s
 | l=>nT o 0 0 l
def bg(N:Int)(rec:QK->List Tok->QR Ts):QK->List Tok->QR Ts
 | .S,r=>(rec .A r).bind fun s r1=>rec (.Sp [s]) r1
 | .Sp l,r=>match acc orW r with
  | some r1=>(rec .A r1).bind fun s r2=>rec (.Sp (l++[s])) r2
  | none=>.ok (lR 4 l) r
 | .A,r=>(rec .D r).bind fun s r1=>rec (.Ap [s]) r1
 | .Ap l,r=>match acc jx r with
  | some r1=>(rec .D r1).bind fun s r2=>rec (.Ap (l++[s])) r2
  | none=>.ok (lR 5 l) r
 | .D,r=>(rec .H r).bind fun s r1=>rec (.Dp s) r1
 | .Dp s,r=>match acc (aF 35 35) r with
  | none=>.ok s r
  | some r1=>match acc (aa 91) r1 with
   | some r2=>jR N r2 fun lo r3=>cu N (aa 58) r3 fun r4=>jR N r4 fun hi r5=>cu N (aa 93) r5 fun r6=>(rec .H r6).bind fun t r7=>rec (.Dp (nT 2 lo hi [s,t])) r7
   | none=>jR N r1 fun lo r2=>(rec .H r2).bind fun t r3=>rec (.Dp (nT 2 lo lo [s,t])) r3
 | .H,r=>match acc fZ r with
  | none=>rec .R r
  | some r1=>cu N (aa 123) r1 fun r2=>gq N r2 fun e r3=>cu N (aa 125) r3 fun r4=>cu N inW r4 fun r5=>(rec .H r5).bind fun s r6=>.ok (.mk 7 0 0 e ⟨#[]⟩ [s]) r6
 | .R,r=>(rec .U r).bind fun s r1=>rec (.Rp s) r1
 | .Rp s,r=>match acc (aa 91) r with
  | none=>.ok s r
  | some r1=>cu N (aa 42) r1 fun r2=>jR N r2 fun lo r3=>match acc (aa 58) r3 with
   | some r4=>jR N r4 fun hi r5=>cu N (aa 93) r5 fun r6=>rec (.Rp (nT 3 lo hi [s])) r6
   | none=>cu N (aa 93) r3 fun r4=>rec (.Rp (nT 3 lo lo [s])) r4
 | .U,r=>match acc (aa 123) r with
  | some r1=>gq N r1 fun e r2=>cu N (aa 125) r2 fun r3=>.ok (.mk 1 0 0 e ⟨#[]⟩ []) r3
  | none=>cu N (aa 40) r fun r1=>(rec .S r1).bind fun s r2=>match acc (aa 44) r2 with
   | some r3=>fO N r3 fun n r4=>cu N (aa 61) r4 fun r5=>gq N r5 fun e r6=>cu N (aa 41) r6 fun r7=>.ok (.mk 6 0 0 e n [s]) r7
   | none=>cu N (aa 41) r2 fun r3=>.ok s r3
def ll(N:Int):Nat->QK->List Tok->QR Ts
 | 0,_,_=>.out
 | n+1,k,r=>bg N (ll N n) k r
def QK.cost:QK->Nat
 | .S=>12 | .Sp _=>1 | .A=>10 | .Ap _=>1 | .D=>8 | .Dp _=>1 | .H=>6 | .R=>4 | .Rp _=>1 | .U=>2
def dy(k:QK)(r:List Tok):Nat:=40*r.length+k.cost
def d6(ts:List Tok):Int:=match ts.getLast? with|some t=>t.line|none=>1
section
variable {β : Type} {L1 L2 : Int}
structure Rt(L1:Int)(y:QR β)(L2:Int)(s:β)(r:List Tok):Prop where
 z:L2=0->L1=0/\y=.ok s r
 nz:L2≠0->L1≠0\/y=.late
end
end Go.Proofs.YthekkgfmagliiaaGreatDoor
namespace Go.Proofs.YthekkgfmagliiaaGreatDoor
open Go.RowKit
def QR.le{α:Type}(x y:QR α):Prop:=x=.out\/x=y
section
variable {α β : Type} {N : Int}
theorem QR.le.rfl{x:QR α}:x.le x:=.inr (Eq.refl x)
theorem dN{x x':QR β}{f f':β->List Tok->QR α}(h:x.le x')(hf:∀v r,(f v r).le (f' v r)):(x.bind f).le (x'.bind f'):=by
 rcases h with h|h
 .subst h;exact .inl (Eq.refl _)
 .subst h;cases x with
  | out=>exact .inl (Eq.refl _)
  | late=>exact .rfl
  | bad l e=>exact .rfl
  | ok v r=>exact hf v r
theorem dx{m:ByteArray}{r:List Tok}{f f':List Tok->QR α}(hf:∀r,(f r).le (f' r)):(cu N m r f).le (cu N m r f'):=by
 unfold cu;cases acc m r with|some r1=>exact hf r1|none=>exact .rfl
theorem kY{r:List Tok}{f f':Int->List Tok->QR α}(hf:∀n r,(f n r).le (f' n r)):(jR N r f).le (jR N r f'):=by
 unfold jR;cases bW r with|some p=>exact hf _ _|none=>exact .rfl
theorem Cu{r:List Tok}{f f':ByteArray->List Tok->QR α}(hf:∀n r,(f n r).le (f' n r)):(fO N r f).le (fO N r f'):=by
 unfold fO;cases bw r with|some p=>exact hf _ _|none=>exact .rfl
theorem oA{r:List Tok}{f f':Ex->List Tok->QR α}(hf:∀n r,(f n r).le (f' n r)):(gq N r f).le (gq N r f'):=by
 unfold gq;cases par .W r with
 | out=>exact .rfl
 | bad c r1=>exact .rfl
 | ok e r1=>simp only;split<;>first|exact hf _ _|exact .rfl
end
section
variable {N : Int}
theorem rz{rec rec':QK->List Tok->QR Ts}(h:∀k r,(rec k r).le (rec' k r))(k:QK)(r:List Tok):(bg N rec k r).le (bg N rec' k r):=by
 cases k with
 | S=>exact dN (h _ _) fun _ _=>h _ _
 | A=>exact dN (h _ _) fun _ _=>h _ _
 | R=>exact dN (h _ _) fun _ _=>h _ _
 | D=>exact dN (h _ _) fun _ _=>h _ _
 | Sp l=>
  simp only[bg];cases acc orW r with
  | some r1=>exact dN (h _ _) fun _ _=>h _ _
  | none=>exact .rfl
 | Ap l=>
  simp only[bg];cases acc jx r with
  | some r1=>exact dN (h _ _) fun _ _=>h _ _
  | none=>exact .rfl
 | Dp s=>
  simp only[bg];cases acc (aF 35 35) r with
  | none=>exact .rfl
  | some r1=>
   simp only;cases acc (aa 91) r1 with
   | some r2=>exact kY fun _ _=>dx fun _=>kY fun _ _=>dx fun _=>dN (h _ _) fun _ _=>h _ _
   | none=>exact kY fun _ _=>dN (h _ _) fun _ _=>h _ _
 | H=>
  simp only[bg];cases acc fZ r with
  | none=>exact h _ _
  | some r1=>exact dx fun _=>oA fun _ _=>dx fun _=>dx fun _=>dN (h _ _) fun _ _=>.rfl
 | Rp s=>
  simp only[bg];cases acc (aa 91) r with
  | none=>exact .rfl
  | some r1=>
   refine dx fun _=>kY fun _ r3=>?_;cases acc (aa 58) r3 with
   | some r4=>exact kY fun _ _=>dx fun _=>h _ _
   | none=>exact dx fun _=>h _ _
 | U=>
  simp only[bg];cases acc (aa 123) r with
  | some r1=>exact oA fun _ _=>dx fun _=>.rfl
  | none=>
   refine dx fun _=>dN (h _ _) fun _ r2=>?_;cases acc (aa 44) r2 with
   | some r3=>exact Cu fun _ _=>dx fun _=>oA fun _ _=>dx fun _=>.rfl
   | none=>exact dx fun _=>.rfl
theorem qI:∀(n:Nat) (k:QK) (r:List Tok),(ll N n k r).le (ll N (n+1) k r)
 | 0,_,_=>.inl rfl
 | n+1,k,r=>rz (qI n) k r
theorem mH{n m:Nat}(h:n≤m)(k:QK)(r:List Tok):(ll N n k r).le (ll N m k r):=by
 induction h with
 | refl=>exact .rfl
 | step h ih=>
  rcases ih with e|e
  .exact .inl e
  .rw[e];exact qI _ k r
end
def QK.eats:QK->Nat
 | .Sp _=>0 | .Ap _=>0 | .Dp _=>0 | .Rp _=>0|_=>1
def QK.big:QK->Nat
 | .Sp l=>cv l+2*l.length+4*(1-l.length)
 | .Ap l=>cv l+2*l.length+4*(1-l.length)
 | .Dp s=>cl s+2
 | .Rp s=>cl s+2
 | _=>0
structure GD(r:List Tok)(c K:Nat)(x:QR Ts):Prop where
 ne:x≠.out
 ok:∀v r1,x=.ok v r1->r1.length+c≤r.length/\cl v+2+2*r1.length≤K+2*r.length
 bad:∀l e,x=.bad l e->e≠0
theorem nO{r:List Tok}{e:Ex}{r1:List Tok}(h:par .W r=.ok e r1):r1.length<r.length/\bF e+r1.length≤r.length:=by
 have h1:=u6 (40*r.length+20) .W r;have h3:=mO .W r;unfold par at h h3;rw[h]at h1 h3;have h2:=h1.2;have h4:=h3.2 rfl;simp only[PK.size]at h2;exact⟨h4,by omega⟩
theorem tC(a b:List Ts):cv (a++b)=cv a+cv b:=by
 induction a with
 | nil=>simp[cv]
 | cons x a ih=>simp only[List.cons_append,cv,ih];omega
section
variable {N : Int} {r r' : List Tok} {c c' K K' : Nat}
theorem oX{v:Ts}{r1:List Tok}(h1:r1.length+c≤r.length)(h2:cl v+2+2*r1.length≤K+2*r.length):GD r c K (.ok v r1):=
 ⟨(by intro h;cases h),(by rintro _ _ ⟨⟩;exact⟨h1,h2⟩),(by rintro _ _ ⟨⟩)⟩
theorem uw{l e:Int}(h:e≠0):GD r c K (.bad l e):=⟨(by intro h;cases h),(by rintro _ _ ⟨⟩),(by rintro _ _ ⟨⟩;exact h)⟩
theorem Bd:GD r c K .late:=⟨(by intro h;cases h),(by rintro _ _ ⟨⟩),(by rintro _ _ ⟨⟩)⟩
theorem tU(q:List Tok):GD r c K (jl N q):=by cases q<;>exact uw (by decide)
theorem GD.bind{x:QR Ts}{f:Ts->List Tok->QR Ts}(h:GD r' c' K' x)(hf:∀v r1,r1.length+c'≤r'.length->cl v+2+2*r1.length≤K'+2*r'.length->GD r c K (f v r1)):GD r c K (x.bind f):=by
 cases x with
 | out=>exact absurd rfl h.ne
 | late=>exact Bd
 | bad l e=>exact uw (h.bad l e rfl)
 | ok v r1=>exact hf v r1 (h.ok v r1 rfl).1 (h.ok v r1 rfl).2
theorem GD.weak{x:QR Ts}(h:GD r' c' K' x)(h1:r'.length+c≤r.length+c')(h2:K'+2*r'.length≤K+2*r.length):GD r c K x:=
 ⟨h.ne,fun v r1 e=>by have:=h.ok v r1 e;omega,h.bad⟩
theorem fm{m:ByteArray}{f:List Tok->QR Ts}(hf:∀r1,r1.length<r'.length->GD r c K (f r1)):GD r c K (cu N m r' f):=by
 unfold cu;cases h:acc m r' with
 | some r1=>exact hf r1 (aB h).2
 | none=>exact tU _
theorem qA{f:Int->List Tok->QR Ts}(hf:∀n r1,r1.length<r'.length->GD r c K (f n r1)):GD r c K (jR N r' f):=by
 unfold jR;cases h:bW r' with
 | some p=>exact hf _ _ (kN (n:=p.1) (r1:=p.2) h).2
 | none=>exact tU _
theorem IV{f:ByteArray->List Tok->QR Ts}(hf:∀n r1,r1.length<r'.length->GD r c K (f n r1)):GD r c K (fO N r' f):=by
 unfold fO;cases h:bw r' with
 | some p=>exact hf _ _ (fK (s:=p.1) (r1:=p.2) h).2
 | none=>exact tU _
theorem ub{f:Ex->List Tok->QR Ts}(hf:∀e r1,r1.length<r'.length->bF e+r1.length≤r'.length->GD r c K (f e r1)):GD r c K (gq N r' f):=by
 unfold gq;cases h:par .W r' with
 | out=>exact absurd h (dB _ _)
 | bad c r1=>
  have:=(p7 h).1;simp only;unfold Hh;split
  .exact uw (by decide)
  .cases r1<;>exact uw this
 | ok e r1=>
  obtain⟨h1,h2⟩:=nO h;simp only;split
  .exact hf e r1 h1 h2
  .exact Bd
theorem pQ:bF zEx=1:=rfl
theorem Ai(o:Int):∀l:List Ts,cl (lR o l)+2≤cv l+2*l.length+4*(1-l.length)
 | []=>by simp[lR,nT,cl,cv,pQ]
 | [s]=>by simp[lR,cv]
 | a::b::l=>by simp only[lR,nT,cl,pQ,Ru];omega
theorem IZ{n:Nat}{rec:QK->List Tok->QR Ts}(h:∀k r,dy k r≤n->GD r k.eats k.big (rec k r))(k:QK)(r:List Tok)(hn:dy k r≤n+1):GD r k.eats k.big (bg N rec k r):=by
 cases k with
 | S=>
  refine(h .A r (by simp only[dy,QK.cost]at *;omega)).bind fun s r1 h1 h2=>?_;simp only[QK.eats,QK.big]at h1 h2;exact(h (.Sp [s]) r1 (by simp only[dy,QK.cost]at *;omega)).weak (by simp only[QK.eats];omega) (by simp[QK.big,cv];omega)
 | A=>
  refine(h .D r (by simp only[dy,QK.cost]at *;omega)).bind fun s r1 h1 h2=>?_;simp only[QK.eats,QK.big]at h1 h2;exact(h (.Ap [s]) r1 (by simp only[dy,QK.cost]at *;omega)).weak (by simp only[QK.eats];omega) (by simp[QK.big,cv];omega)
 | D=>
  refine(h .H r (by simp only[dy,QK.cost]at *;omega)).bind fun s r1 h1 h2=>?_;simp only[QK.eats,QK.big]at h1 h2;exact(h (.Dp s) r1 (by simp only[dy,QK.cost]at *;omega)).weak (by simp only[QK.eats];omega) (by simp only[QK.big];omega)
 | R=>
  refine(h .U r (by simp only[dy,QK.cost]at *;omega)).bind fun s r1 h1 h2=>?_;simp only[QK.eats,QK.big]at h1 h2;exact(h (.Rp s) r1 (by simp only[dy,QK.cost]at *;omega)).weak (by simp only[QK.eats];omega) (by simp only[QK.big];omega)
 | Sp l=>
  simp only[bg];cases h0:acc orW r with
  | none=>exact oX (by simp only[QK.eats];omega) (by have:=Ai 4 l;simp only[QK.big];omega)
  | some r1=>
   have l1:=(aB h0).2;refine(h .A r1 (by simp only[dy,QK.cost]at *;omega)).bind fun s r2 h1 h2=>?_;simp only[QK.eats,QK.big]at h1 h2;exact(h (.Sp (l++[s])) r2 (by simp only[dy,QK.cost]at *;omega)).weak (by simp only[QK.eats];omega) (by simp only[QK.big,tC,cv,Rw,Ru,Rx];omega)
 | Ap l=>
  simp only[bg];cases h0:acc jx r with
  | none=>exact oX (by simp only[QK.eats];omega) (by have:=Ai 5 l;simp only[QK.big];omega)
  | some r1=>
   have l1:=(aB h0).2;refine(h .D r1 (by simp only[dy,QK.cost]at *;omega)).bind fun s r2 h1 h2=>?_;simp only[QK.eats,QK.big]at h1 h2;exact(h (.Ap (l++[s])) r2 (by simp only[dy,QK.cost]at *;omega)).weak (by simp only[QK.eats];omega) (by simp only[QK.big,tC,cv,Rw,Ru,Rx];omega)
 | Dp s=>
  simp only[bg];cases h0:acc (aF 35 35) r with
  | none=>exact oX (by simp only[QK.eats];omega) (by simp only[QK.big];omega)
  | some r1=>
   have l1:=(aB h0).2
   have last:∀(lo hi:Int) (q:List Tok),q.length+1<r.length->GD r 0 (cl s+2) ((rec .H q).bind fun t r7=>rec (.Dp (nT 2 lo hi [s,t])) r7):=fun lo hi q hq=>by
    refine(h .H q (by simp only[dy,QK.cost]at *;omega)).bind fun t r7 h1 h2=>?_;simp only[QK.eats,QK.big]at h1 h2;exact(h (.Dp _) r7 (by simp only[dy,QK.cost]at *;omega)).weak (by simp only[QK.eats];omega) (by simp only[QK.big,nT,cl,cv,pQ];omega)
   simp only;cases h1:acc (aa 91) r1 with
   | some r2=>
    have l2:=(aB h1).2;exact qA fun _ r3 h3=>fm fun r4 h4=>qA fun _ r5 h5=>fm fun r6 h6=>last _ _ r6 (by omega)
   | none=>exact qA fun _ r3 h3=>last _ _ r3 (by omega)
 | H=>
  simp only[bg];cases h0:acc fZ r with
  | none=>exact h .R r (by simp only[dy,QK.cost]at *;omega)
  | some r1=>
   have l1:=(aB h0).2;refine fm fun r2 h2=>ub fun e r3 h3 h3'=>fm fun r4 h4=>fm fun r5 h5=>?_;refine(h .H r5 (by simp only[dy,QK.cost]at *;omega)).bind fun s r6 h6 h7=>?_;simp only[QK.eats,QK.big]at h6 h7;exact oX (by simp only[QK.eats];omega) (by simp only[QK.big,cl,cv];omega)
 | Rp s=>
  simp only[bg];cases h0:acc (aa 91) r with
  | none=>exact oX (by simp only[QK.eats];omega) (by simp only[QK.big];omega)
  | some r1=>
   have l1:=(aB h0).2
   have last:∀(lo hi:Int) (q:List Tok),q.length+2<r.length->GD r 0 (cl s+2) (rec (.Rp (nT 3 lo hi [s])) q):=fun lo hi q hq=>
    (h (.Rp _) q (by simp only[dy,QK.cost]at *;omega)).weak (by simp only[QK.eats];omega) (by simp only[QK.big,nT,cl,cv,pQ];omega)
   refine fm fun r2 h2=>qA fun lo r3 h3=>?_;cases h4:acc (aa 58) r3 with
   | some r4=>
    have l4:=(aB h4).2;exact qA fun _ r5 h5=>fm fun r6 h6=>last _ _ r6 (by omega)
   | none=>exact fm fun r4 h4=>last _ _ r4 (by omega)
 | U=>
  simp only[bg];cases h0:acc (aa 123) r with
  | some r1=>
   have l1:=(aB h0).2;exact ub fun e r2 h2 h2'=>fm fun r3 h3=>oX (by simp only[QK.eats];omega) (by simp only[QK.big,cl,cv];omega)
  | none=>
   refine fm fun r1 h1=>(h .S r1 (by simp only[dy,QK.cost]at *;omega)).bind fun s r2 h2 h2'=>?_;simp only[QK.eats,QK.big]at h2 h2';cases h3:acc (aa 44) r2 with
   | some r3=>
    have l3:=(aB h3).2;exact IV fun nm r4 h4=>fm fun r5 h5=>ub fun e r6 h6 h6'=>fm fun r7 h7=>oX (by simp only[QK.eats];omega) (by simp only[QK.big,cl,cv];omega)
   | none=>exact fm fun r3 h3=>oX (by simp only[QK.eats];omega) (by simp only[QK.big];omega)
theorem EI:∀(n:Nat) (k:QK) (r:List Tok),dy k r≤n->GD r k.eats k.big (ll N n k r)
 | 0,k,r,h=>by exfalso;unfold dy at h;cases k<;>simp only[QK.cost]at h<;>omega
 | n+1,k,r,h=>IZ (fun k r=>EI n k r) k r h
end
def qp(N:Int)(k:QK)(r:List Tok):QR Ts:=ll N (40*r.length+12) k r
section
variable {N : Int}
theorem tz(k:QK)(r:List Tok):GD r k.eats k.big (qp N k r):=EI _ k r (by unfold dy;cases k<;>simp only[QK.cost]<;>omega)
theorem GZ(n:Nat)(k:QK)(r:List Tok):(ll N n k r).le (qp N k r):=by
 rcases Nat.le_total n (40*r.length+12)with h|h
 .exact mH h k r
 .rcases mH (N:=N) h k r with e|e
  .exact absurd e (tz k r).ne
  .exact .inr e.symm
theorem cm(k:QK)(r:List Tok):qp N k r=bg N (qp N) k r:=by
 have h1:=rz (N:=N) (GZ (N:=N) (40*r.length+12)) k r;have h2:=mH (N:=N) (Nat.le_succ (40*r.length+12)) k r;rcases h2 with e|e
 .exact absurd e (tz k r).ne
 .rcases h1 with g|g
  .exact absurd (e.trans g) (tz k r).ne
  .exact e.trans g
theorem G2{k:QK}{r r1:List Tok}{s:Ts}(h:qp N k r=.ok s r1):r1.length+k.eats≤r.length:=((tz k r).ok s r1 h).1
theorem oC{r r1:List Tok}{s:Ts}(h:qp N .S r=.ok s r1):cl s≤2*r.length:=by
 have:=((tz .S r).ok s r1 h).2;simp only[QK.big]at this;omega
end
def kB(N:Int)(r:List Tok):QR Pr:=cu N qb r fun r1=>fO N r1 fun nm r2=>cu N (aa 58) r2 fun r3=>match acc ja r3 with
 | some r4=>(qp N .S r4).bind fun t r5=>cu N (aa 59) r5 fun r6=>.ok ⟨nm,true,false,zT,t⟩ r6
 | none=>(qp N .S r3).bind fun c r4=>cu N (aa 124) r4 fun r5=>match acc (aF 45 62) r5 with
  | some r6=>(qp N .S r6).bind fun t r7=>cu N (aa 59) r7 fun r8=>.ok ⟨nm,false,true,c,t⟩ r8
  | none=>cu N (aF 61 62) r5 fun r6=>(qp N .S r6).bind fun t r7=>cu N (aa 59) r7 fun r8=>.ok ⟨nm,false,false,c,t⟩ r8
end Go.Proofs.YthekkgfmagliiaaGreatDoor
namespace Go.Proofs.YthekkgfmagliiaaGreatDoor
open Go.RowKit
def ln1(t:Tok):Tok:=⟨t.kind,t.num,t.text,1⟩
theorem ib:SameTok ln1:=⟨fun _=>rfl,fun _=>rfl,fun _=>rfl⟩
def Sq(r r':List Tok):Prop:=r.map ln1=r'.map ln1
theorem Sq.len{r r':List Tok}(h:Sq r r'):r.length=r'.length:=by have:=congrArg List.length h;simpa using this
theorem ii(m:ByteArray){r r':List Tok}(h:Sq r r'):(acc m r=none/\acc m r'=none)\/∃a b,acc m r=some a/\acc m r'=some b/\Sq a b:=by
 have h1:=cD ib m r;have h2:=cD ib m r';rw[show r.map ln1=r'.map ln1 from h,h2]at h1;cases e1:acc m r<;>cases e2:acc m r'<;>rw[e1,e2]at h1
 .exact .inl ⟨rfl,rfl⟩
 .cases h1
 .cases h1
 .simp only[RA,Option.some.injEq]at h1;exact .inr ⟨_,_,rfl,rfl,h1.symm⟩
theorem E4{r r':List Tok}(h:Sq r r'):(bw r=none/\bw r'=none)\/∃s a b,bw r=some (s,a)/\bw r'=some (s,b)/\Sq a b:=by
 have h1:=lB ib r;have h2:=lB ib r';rw[show r.map ln1=r'.map ln1 from h,h2]at h1;cases e1:bw r<;>cases e2:bw r'<;>rw[e1,e2]at h1
 .exact .inl ⟨rfl,rfl⟩
 .cases h1
 .cases h1
 .rename_i p p';obtain⟨s,a⟩:=p;obtain⟨s',a'⟩:=p';simp only[RA,Option.some.injEq,Prod.mk.injEq]at h1;obtain⟨rfl,h1⟩:=h1;exact .inr ⟨_,_,_,rfl,rfl,h1.symm⟩
theorem Jp{r r':List Tok}(h:Sq r r'):(bW r=none/\bW r'=none)\/∃s a b,bW r=some (s,a)/\bW r'=some (s,b)/\Sq a b:=by
 have h1:=mT ib r;have h2:=mT ib r';rw[show r.map ln1=r'.map ln1 from h,h2]at h1;cases e1:bW r<;>cases e2:bW r'<;>rw[e1,e2]at h1
 .exact .inl ⟨rfl,rfl⟩
 .cases h1
 .cases h1
 .rename_i p p';obtain⟨s,a⟩:=p;obtain⟨s',a'⟩:=p';simp only[RA,Option.some.injEq,Prod.mk.injEq]at h1;obtain⟨rfl,h1⟩:=h1;exact .inr ⟨_,_,_,rfl,rfl,h1.symm⟩
section
variable {α β : Type}
def SR(x y:QR α):Prop:=match x,y with
 | .out,.out=>True
 | .late,.late=>True
 | .bad _ e,.bad _ e'=>e=e'
 | .ok v r,.ok v' r'=>v=v'/\Sq r r'
 | _,_=>False
variable {N N' : Int} {r r' : List Tok}
theorem SR.ok_left{x y:QR α}{v:α}{a:List Tok}(h:SR x y)(hx:x=.ok v a):∃b,y=.ok v b/\Sq a b:=by
 subst hx;cases y with
 | ok v' b=>obtain⟨h1,h2⟩:=h;subst h1;exact⟨b,rfl,h2⟩
 | _=>exact h.elim
theorem eI{x y:QR β}{f g:β->List Tok->QR α}(h:SR x y)(hf:∀v a b,Sq a b->SR (f v a) (g v b)):SR (x.bind f) (y.bind g):=by
 cases x<;>cases y<;>first|exact h.elim|exact h|skip
 obtain⟨h1,h2⟩:=h;subst h1;exact hf _ _ _ h2
theorem uf(h:Sq r r'):SR (jl N r:QR α) (jl N' r'):=by
 have hl:=h.len;cases r<;>cases r'<;>first|(simp at hl;done)|exact rfl
theorem dh{m:ByteArray}{f g:List Tok->QR α}(h:Sq r r')(hf:∀a b,Sq a b->SR (f a) (g b)):SR (cu N m r f) (cu N' m r' g):=by
 unfold cu;rcases ii m h with⟨e1,e2⟩|⟨a,b,e1,e2,h1⟩
 .rw[e1,e2];exact uf h
 .rw[e1,e2];exact hf a b h1
theorem rP{f g:Int->List Tok->QR α}(h:Sq r r')(hf:∀n a b,Sq a b->SR (f n a) (g n b)):SR (jR N r f) (jR N' r' g):=by
 unfold jR;rcases Jp h with⟨e1,e2⟩|⟨n,a,b,e1,e2,h1⟩
 .rw[e1,e2];exact uf h
 .rw[e1,e2];exact hf n a b h1
theorem AW{f g:ByteArray->List Tok->QR α}(h:Sq r r')(hf:∀n a b,Sq a b->SR (f n a) (g n b)):SR (fO N r f) (fO N' r' g):=by
 unfold fO;rcases E4 h with⟨e1,e2⟩|⟨n,a,b,e1,e2,h1⟩
 .rw[e1,e2];exact uf h
 .rw[e1,e2];exact hf n a b h1
theorem uy{f g:Ex->List Tok->QR α}(h:Sq r r')(hf:∀n a b,Sq a b->SR (f n a) (g n b)):SR (gq N r f) (gq N' r' g):=by
 have h1:=Aq ib .W r;have h2:=Aq ib .W r';rw[show r.map ln1=r'.map ln1 from h,h2]at h1;unfold gq;cases e1:par .W r<;>cases e2:par .W r'<;>rw[e1,e2]at h1<;>simp only[PR.mapT]at h1<;>first|exact absurd e1 (dB _ _)|cases h1|skip
 .rename_i c a c' b;simp only[PR.bad.injEq]at h1;obtain⟨rfl,h1⟩:=h1;have hl:a.length=b.length:=(Sq.len h1).symm;simp only;unfold Hh;split
  .exact rfl
  .cases a<;>cases b<;>first|(simp at hl;done)|exact rfl
 .rename_i e a e' b;simp only[PR.ok.injEq]at h1;obtain⟨rfl,h1⟩:=h1;simp only;split
  .exact hf _ _ _ h1.symm
  .trivial
theorem It{rec rec':QK->List Tok->QR Ts}(h:∀k r r',Sq r r'->SR (rec k r) (rec' k r'))(k:QK){r r':List Tok}(hr:Sq r r'):SR (bg N rec k r) (bg N' rec' k r'):=by
 cases k with
 | S=>exact eI (h _ _ _ hr) fun _ _ _ h1=>h _ _ _ h1
 | A=>exact eI (h _ _ _ hr) fun _ _ _ h1=>h _ _ _ h1
 | D=>exact eI (h _ _ _ hr) fun _ _ _ h1=>h _ _ _ h1
 | R=>exact eI (h _ _ _ hr) fun _ _ _ h1=>h _ _ _ h1
 | Sp l=>
  simp only[bg];rcases ii orW hr with⟨e1,e2⟩|⟨a,b,e1,e2,h1⟩<;>rw[e1,e2]
  .exact⟨rfl,hr⟩
  .exact eI (h _ _ _ h1) fun _ _ _ h1=>h _ _ _ h1
 | Ap l=>
  simp only[bg];rcases ii jx hr with⟨e1,e2⟩|⟨a,b,e1,e2,h1⟩<;>rw[e1,e2]
  .exact⟨rfl,hr⟩
  .exact eI (h _ _ _ h1) fun _ _ _ h1=>h _ _ _ h1
 | Dp s=>
  simp only[bg];rcases ii (aF 35 35) hr with⟨e1,e2⟩|⟨a,b,e1,e2,h1⟩<;>rw[e1,e2]
  .exact⟨rfl,hr⟩
  .simp only;rcases ii (aa 91) h1 with⟨e1,e2⟩|⟨a2,b2,e1,e2,h2⟩<;>rw[e1,e2]
   .exact rP h1 fun _ _ _ h3=>eI (h _ _ _ h3) fun _ _ _ h1=>h _ _ _ h1
   .exact rP h2 fun _ _ _ h3=>dh h3 fun _ _ h4=>rP h4 fun _ _ _ h5=>dh h5 fun _ _ h6=>eI (h _ _ _ h6) fun _ _ _ h1=>h _ _ _ h1
 | H=>
  simp only[bg];rcases ii fZ hr with⟨e1,e2⟩|⟨a,b,e1,e2,h1⟩<;>rw[e1,e2]
  .exact h _ _ _ hr
  .exact dh h1 fun _ _ h3=>uy h3 fun _ _ _ h4=>dh h4 fun _ _ h5=>dh h5 fun _ _ h6=>eI (h _ _ _ h6) fun _ _ _ h1=>⟨rfl,h1⟩
 | Rp s=>
  simp only[bg];rcases ii (aa 91) hr with⟨e1,e2⟩|⟨a,b,e1,e2,h1⟩<;>rw[e1,e2]
  .exact⟨rfl,hr⟩
  .refine dh h1 fun _ _ h3=>rP h3 fun _ a b h4=>?_;rcases ii (aa 58) h4 with⟨e1,e2⟩|⟨a2,b2,e1,e2,h5⟩<;>rw[e1,e2]
   .exact dh h4 fun _ _ h6=>h _ _ _ h6
   .exact rP h5 fun _ _ _ h6=>dh h6 fun _ _ h7=>h _ _ _ h7
 | U=>
  simp only[bg];rcases ii (aa 123) hr with⟨e1,e2⟩|⟨a,b,e1,e2,h1⟩<;>rw[e1,e2]
  .refine dh hr fun _ _ h3=>eI (h _ _ _ h3) fun s a b h4=>?_;rcases ii (aa 44) h4 with⟨e1,e2⟩|⟨a2,b2,e1,e2,h5⟩<;>rw[e1,e2]
   .exact dh h4 fun _ _ h6=>⟨rfl,h6⟩
   .exact AW h5 fun _ _ _ h6=>dh h6 fun _ _ h7=>uy h7 fun _ _ _ h8=>dh h8 fun _ _ h9=>⟨rfl,h9⟩
  .exact uy h1 fun _ _ _ h3=>dh h3 fun _ _ h4=>⟨rfl,h4⟩
theorem AJ:∀(n:Nat) (k:QK) (r r':List Tok),Sq r r'->SR (ll N n k r) (ll N' n k r')
 | 0,_,_,_,_=>trivial
 | n+1,k,_,_,h=>It (AJ n) k h
theorem vQ(k:QK){r r':List Tok}(h:Sq r r'):SR (qp N k r) (qp N' k r'):=by
 unfold qp;rw[h.len];exact AJ _ k r r' h
theorem AM{r r':List Tok}(h:Sq r r'):SR (kB N r) (kB N' r'):=by
 refine dh h fun _ _ h1=>AW h1 fun _ _ _ h2=>dh h2 fun a b h3=>?_;rcases ii ja h3 with⟨e1,e2⟩|⟨a2,b2,e1,e2,h4⟩<;>rw[e1,e2]
 .refine eI (vQ _ h3) fun c a b h4=>dh h4 fun a b h5=>?_;rcases ii (aF 45 62) h5 with⟨e1,e2⟩|⟨a2,b2,e1,e2,h6⟩<;>rw[e1,e2]
  .exact dh h5 fun _ _ h6=>eI (vQ _ h6) fun _ _ _ h7=>dh h7 fun _ _ h8=>⟨rfl,h8⟩
  .exact eI (vQ _ h6) fun _ _ _ h7=>dh h7 fun _ _ h8=>⟨rfl,h8⟩
 .exact eI (vQ _ h4) fun _ _ _ h7=>dh h7 fun _ _ h8=>⟨rfl,h8⟩
def iP:List ByteArray:=[orW,jx,aF 35 35,aa 91,fZ,aa 58,aa 123,aa 44]
structure StopQ(q:List Tok):Prop where
 st:Stop 1 q
 no:∀m,m∈iP->acc m q=none
def QE(q:List Tok)(x y:QR α):Prop:=∀v r1,x=.ok v r1->y=.ok v (r1++q)
variable {q : List Tok}
theorem pa{v:α}{r1:List Tok}:QE q (.ok v r1) (.ok v (r1++q)):=by rintro _ _ ⟨⟩;rfl
theorem gN{x y:QR β}{f g:β->List Tok->QR α}(h:QE q x y)(hf:∀v r,QE q (f v r) (g v (r++q))):QE q (x.bind f) (y.bind g):=by
 intro v r1 hx;cases x with
 | ok w a=>rw[h w a rfl];exact hf w a v r1 hx
 | _=>cases hx
theorem fi{m:ByteArray}{f g:List Tok->QR α}(hf:∀r,QE q (f r) (g (r++q))):QE q (cu N m r f) (cu N' m (r++q) g):=by
 unfold cu;cases h:acc m r with
 | none=>intro v r1 hx;cases r<;>cases hx
 | some a=>rw[cU q h];exact hf a
theorem rQ{f g:Int->List Tok->QR α}(hf:∀n r,QE q (f n r) (g n (r++q))):QE q (jR N r f) (jR N' (r++q) g):=by
 unfold jR;cases h:bW r with
 | none=>intro v r1 hx;cases r<;>cases hx
 | some p=>obtain⟨n,a⟩:=p;rw[rt q h];exact hf n a
theorem I4{f g:ByteArray->List Tok->QR α}(hf:∀n r,QE q (f n r) (g n (r++q))):QE q (fO N r f) (fO N' (r++q) g):=by
 unfold fO;cases h:bw r with
 | none=>intro v r1 hx;cases r<;>cases hx
 | some p=>obtain⟨n,a⟩:=p;rw[ow q h];exact hf n a
theorem uG(hq:StopQ q){f g:Ex->List Tok->QR α}(hf:∀n r,QE q (f n r) (g n (r++q))):QE q (gq N r f) (gq N' (r++q) g):=by
 unfold gq;cases h:par .W r with
 | out=>exact absurd h (dB _ _)
 | bad c a=>intro v r1 hx;simp only[Hh]at hx;split at hx<;>first|cases hx|(cases a<;>cases hx)
 | ok e a=>
  rw[show par .W (r++q)=.ok e (a++q)from ww hq.st _ .W r e a trivial h];simp only;split
  .exact hf e a
  .intro v r1 hx;cases hx
theorem fj(hq:StopQ q)(r:List Tok){m:ByteArray}(hm:m∈iP):(acc m r=none/\acc m (r++q)=none)\/∃a,acc m r=some a/\acc m (r++q)=some (a++q):=by
 cases h:acc m r with
 | none=>exact .inl ⟨rfl,iJ h (hq.no m hm)⟩
 | some a=>exact .inr ⟨a,rfl,cU q h⟩
theorem Hk(hq:StopQ q){rec rec':QK->List Tok->QR Ts}(h:∀k r,QE q (rec k r) (rec' k (r++q)))(k:QK)(r:List Tok):QE q (bg N rec k r) (bg N' rec' k (r++q)):=by
 cases k with
 | S=>exact gN (h _ _) fun _ _=>h _ _
 | A=>exact gN (h _ _) fun _ _=>h _ _
 | D=>exact gN (h _ _) fun _ _=>h _ _
 | R=>exact gN (h _ _) fun _ _=>h _ _
 | Sp l=>
  simp only[bg];rcases fj hq r (m:=orW) (by simp[iP])with⟨e1,e2⟩|⟨a,e1,e2⟩<;>rw[e1,e2]
  .exact pa
  .exact gN (h _ _) fun _ _=>h _ _
 | Ap l=>
  simp only[bg];rcases fj hq r (m:=jx) (by simp[iP])with⟨e1,e2⟩|⟨a,e1,e2⟩<;>rw[e1,e2]
  .exact pa
  .exact gN (h _ _) fun _ _=>h _ _
 | Dp s=>
  simp only[bg];rcases fj hq r (m:=aF 35 35) (by simp[iP])with⟨e1,e2⟩|⟨a,e1,e2⟩<;>rw[e1,e2]
  .exact pa
  .simp only;rcases fj hq a (m:=aa 91) (by simp[iP])with⟨e1,e2⟩|⟨b,e1,e2⟩<;>rw[e1,e2]
   .exact rQ fun _ _=>gN (h _ _) fun _ _=>h _ _
   .exact rQ fun _ _=>fi fun _=>rQ fun _ _=>fi fun _=>gN (h _ _) fun _ _=>h _ _
 | H=>
  simp only[bg];rcases fj hq r (m:=fZ) (by simp[iP])with⟨e1,e2⟩|⟨a,e1,e2⟩<;>rw[e1,e2]
  .exact h _ _
  .exact fi fun _=>uG hq fun _ _=>fi fun _=>fi fun _=>gN (h _ _) fun _ _=>pa
 | Rp s=>
  simp only[bg];rcases fj hq r (m:=aa 91) (by simp[iP])with⟨e1,e2⟩|⟨a,e1,e2⟩<;>rw[e1,e2]
  .exact pa
  .refine fi fun _=>rQ fun _ b=>?_;rcases fj hq b (m:=aa 58) (by simp[iP])with⟨e1,e2⟩|⟨a,e1,e2⟩<;>rw[e1,e2]
   .exact fi fun _=>h _ _
   .exact rQ fun _ _=>fi fun _=>h _ _
 | U=>
  simp only[bg];rcases fj hq r (m:=aa 123) (by simp[iP])with⟨e1,e2⟩|⟨a,e1,e2⟩<;>rw[e1,e2]
  .refine fi fun _=>gN (h _ _) fun _ b=>?_;rcases fj hq b (m:=aa 44) (by simp[iP])with⟨e1,e2⟩|⟨a,e1,e2⟩<;>rw[e1,e2]
   .exact fi fun _=>pa
   .exact I4 fun _ _=>fi fun _=>uG hq fun _ _=>fi fun _=>pa
  .exact uG hq fun _ _=>fi fun _=>pa
theorem A7(hq:StopQ q):∀(n:Nat) (k:QK) (r:List Tok),QE q (ll N n k r) (qp N' k (r++q))
 | 0,_,_=>fun _ _ h=>by cases h
 | n+1,k,r=>by rw[cm];exact Hk hq (A7 hq n) k r
theorem KJ(hq:StopQ q){k:QK}{r r1:List Tok}{s:Ts}(h:qp N k r=.ok s r1):qp N' k (r++q)=.ok s (r1++q):=A7 hq _ k r s r1 h
end
end Go.Proofs.YthekkgfmagliiaaGreatDoor
