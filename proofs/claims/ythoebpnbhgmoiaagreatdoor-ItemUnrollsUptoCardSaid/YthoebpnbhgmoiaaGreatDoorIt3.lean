import Derived.Test.YthoebpnbhgmoiaaGreatDoorIt1
set_option linter.unusedVariables false
set_option linter.unusedSimpArgs false
set_option linter.unusedSectionVars false
namespace Go.Proofs.YthoebpnbhgmoiaaGreatDoor
open Go.RowKit
def constE(n:Int):Ex:=.mk 1 n ⟨#[]⟩ []
def notE(e:Ex):Ex:=.mk 4 0 ⟨#[]⟩ [e]
def underE(op:Int)(q:Option Ex)(e:Ex):Ex:=match q with|none=>e|some c=>.mk op 0 ⟨#[]⟩ [c,e]
def zeroE:Ex:=.mk 0 0 ⟨#[]⟩ []
def itE(k:Int)(e:Ex):It:=.mk k e ⟨#[]⟩ ⟨#[]⟩ [] [] [] [] []
def itD(x:It):It:=.mk x.kind zeroE x.name ⟨#[]⟩ x.ws [] [] [] []
def itS(x:It):It:=.mk x.kind zeroE ⟨#[]⟩ ⟨#[]⟩ [] [] [] x.bef x.aft
mutual
def subI(nm:ByteArray)(b:Ex):It→It
 | .mk k e s ix ws l m bf af=>.mk k (subE nm b e) s ix ws (subIs nm b l) (subIs nm b m) bf af
def subIs(nm:ByteArray)(b:Ex):List It→List It
 | []=>[]
 | a::r=>subI nm b a::subIs nm b r
end
theorem subIs_map(nm:ByteArray)(b:Ex)(l:List It):subIs nm b l=l.map (subI nm b):=by
 induction l with
 | nil=>rw[subIs];rfl
 | cons a r ih=>rw[subIs,ih];rfl
theorem subI_eq(nm:ByteArray)(b:Ex)(x:It):subI nm b x=.mk x.kind (subE nm b x.ex) x.name x.idx x.ws (subIs nm b x.items) (subIs nm b x.els) x.bef x.aft:=by cases x;rw[subI];rfl
theorem subIs_size(nm:ByteArray)(b:Ex):∀l:List It,iszs (subIs nm b l)=iszs l:=by
 refine its_ind (by rw[subIs]) fun x r h1 h2 h3=>?_;rw[subIs,iszs,iszs,h3,isz_eq,isz_eq x,subI_eq];show 1+iszs (subIs nm b x.items)+iszs (subIs nm b x.els)+_=_;rw[h1,h2]
def fszN(fs:List (ByteArray×Int))(s:ByteArray):Nat:=((fsz fs s).getD 0).toNat
def exps(fs:List (ByteArray×Int)):Nat→List It→Option Ex→List It
 | 0,_,_=>[]
 | k+1,l,q=>l.flatMap fun x=>
  if x.kind=1∨x.kind=2 then[itE x.kind (underE 21 q x.ex)]
  else if x.kind=4 then exps fs k x.items (some (underE 19 q x.ex))++exps fs k x.els (some (underE 19 q (notE x.ex)))
  else if x.kind=5 then(List.range (fszN fs x.name)).flatMap fun(j:Nat)=>exps fs k (subIs x.idx (constE (j:Int)) x.items) q
  else if x.kind=3 then[itD x]else[itS x]
section
variable (fs : List (ByteArray × Int))
def exp1(k:Nat)(x:It)(q:Option Ex):List It:=
 if x.kind=1∨x.kind=2 then[itE x.kind (underE 21 q x.ex)]
 else if x.kind=4 then exps fs k x.items (some (underE 19 q x.ex))++exps fs k x.els (some (underE 19 q (notE x.ex)))
 else if x.kind=5 then(List.range (fszN fs x.name)).flatMap fun(j:Nat)=>exps fs k (subIs x.idx (constE (j:Int)) x.items) q
 else if x.kind=3 then[itD x]else[itS x]
theorem exps_eq(k:Nat)(l:List It)(q:Option Ex):exps fs (k+1) l q=l.flatMap fun x=>exp1 fs k x q:=rfl
end
end Go.Proofs.YthoebpnbhgmoiaaGreatDoor
namespace Go.Proofs.YthoebpnbhgmoiaaGreatDoor
open Go.RowKit
mutual
def frm:List It→Nat→Prop
 | [],_=>True
 | x::r,d=>frm1 x d∧frm r d
def frm1:It→Nat→Prop
 | .mk k e nm ix ws l m bf af,d=>(1≤k∧k≤6)∧plainB (.mk k e nm ix ws l m bf af)=true∧d≤4∧frm l (d+1)∧frm m (d+1)
end
theorem frm1_eq(x:It)(d:Nat):frm1 x d↔(1≤x.kind∧x.kind≤6)∧plainB x=true∧d≤4∧frm x.items (d+1)∧frm x.els (d+1):=by cases x;rw[frm1];rfl
theorem frm_mem{l:List It}{d:Nat}(h:frm l d){x:It}(hx:x∈l):frm1 x d:=by
 induction l with
 | nil=>cases hx
 | cons a r ih=>
  rw[frm]at h;rcases List.mem_cons.1 hx with rfl|hx
  ·exact h.1
  ·exact ih h.2 hx
theorem frm_valid:∀(l:List It) (d:Nat),rvl l d=0→frm l d:=by
 refine its_ind (fun d h=>by rw[frm];trivial) fun x r h1 h2 h3 d h=>?_;rw[rvl,rv1_eq]at h;rw[frm,frm1_eq];by_cases hs:shapeE x d=0
 ·rw[if_pos hs]at h;obtain⟨g1,g2,g3⟩:=shape_zero hs;by_cases e1:rvl x.items (d+1)=0
  ·rw[if_pos e1]at h;by_cases e2:rvl x.els (d+1)=0
   ·rw[if_pos e2]at h;exact⟨⟨g1,g2,g3,h1 _ e1,h2 _ e2⟩,h3 _ h⟩
   ·rw[if_neg e2]at h;exact absurd h e2
  ·rw[if_neg e1,if_neg e1]at h;exact absurd h e1
 ·rw[if_neg hs,if_neg hs]at h;exact absurd h hs
theorem blank_sub{nm:ByteArray}{b e:Ex}(h:blankB e=true):subE nm b e=zeroE∧e=zeroE:=by
 unfold blankB at h;simp only[Bool.and_eq_true,decide_eq_true_eq,List.isEmpty_iff]at h;obtain⟨⟨⟨h1,h2⟩,h3⟩,h4⟩:=h;cases e with
 | mk o n s l=>
  simp only[Ex.op,Ex.num,Ex.name,Ex.args]at h1 h2 h3 h4;subst h1 h2 h3 h4;exact⟨by rw[subE,subsE];rfl,rfl⟩
theorem blank_zero:blankB zeroE=true:=by decide
theorem subIs_empty(nm:ByteArray)(b:Ex)(l:List It):(subIs nm b l).isEmpty=l.isEmpty:=by cases l<;>rfl
theorem plain_sub{nm:ByteArray}{b:Ex}{x:It}(h:plainB x=true):plainB (subI nm b x)=true:=by
 rw[subI_eq];unfold plainB at h ⊢;simp only[It.kind,It.ex,It.name,It.idx,It.ws,It.items,It.els,It.bef,It.aft,subIs_empty]at h ⊢;cases x with
 | mk k e s ix ws l m bf af=>
  simp only[Bool.and_eq_true,Bool.or_eq_true]at h ⊢;obtain⟨⟨⟨⟨⟨⟨h1,h2⟩,h3⟩,h4⟩,h5⟩,h6⟩,h7⟩:=h;exact⟨⟨⟨⟨⟨⟨h1.imp_right fun h=>by rw[(blank_sub h).1];exact blank_zero,h2⟩,h3⟩,h4⟩,h5⟩,h6⟩,h7⟩
theorem frm_sub(nm:ByteArray)(b:Ex):∀(l:List It) (d:Nat),frm l d→frm (subIs nm b l) d:=by
 refine its_ind (fun d h=>by rw[subIs,frm];trivial) fun x r h1 h2 h3 d h=>?_;rw[frm,frm1_eq]at h;obtain⟨⟨g1,g2,g3,g4,g5⟩,g6⟩:=h;rw[subIs,frm,frm1_eq,subI_eq];exact⟨⟨g1,by rw[←subI_eq];exact plain_sub g2,g3,h1 _ g4,h2 _ g5⟩,h3 _ g6⟩
theorem flat_le{α β:Type}{l:List α}{f:α→List β}(B:Nat)(h:∀a,a∈l→(f a).length≤B):(l.flatMap f).length≤l.length*B:=by
 induction l with
 | nil=>exact Nat.zero_le _
 | cons a r ih=>
  rw[List.flatMap_cons,List.length_append,List.length_cons,Nat.add_mul,Nat.one_mul,Nat.add_comm];exact Nat.add_le_add (ih fun x hx=>h x (List.mem_cons_of_mem _ hx)) (h a (List.mem_cons_self ..))
theorem exps_len(fs:List (ByteArray×Int))(hf:∀s,fszN fs s≤8):∀(k:Nat) (l:List It) (d:Nat) (q:Option Ex),frm l d→d≤5→(exps fs k l q).length≤iszs l*8^(5-d):=by
 intro k
 induction k with
 | zero=>intro l d q _ _;exact Nat.zero_le _
 | succ k ih=>
  intro l d q hl hd;rw[exps_eq]
  induction l with
  | nil=>exact Nat.zero_le _
  | cons x r ihr=>
   rw[frm,frm1_eq]at hl;obtain⟨⟨g1,g2,g3,g4,g5⟩,g6⟩:=hl;have hr:=ihr g6;rw[List.flatMap_cons,List.length_append,iszs,Nat.add_mul];refine Nat.add_le_add ?_ hr;have hp:8^(5-d)=8*8^(5-(d+1)):=by rw[show 5-d=(5-(d+1))+1 by omega,Nat.pow_succ,Nat.mul_comm]
   have hP:1≤8^(5-(d+1)):=Nat.pow_pos (by omega);rw[hp];have e1:=fun q=>ih x.items (d+1) q g4 (by omega);have e2:=fun q=>ih x.els (d+1) q g5 (by omega);have e3:=fun b q=>ih (subIs x.idx b x.items) (d+1) q (frm_sub _ _ _ _ g4) (by omega);simp only[subIs_size]at e3;generalize 8^(5-(d+1))=P at *;have hz:=isz_eq x;have h1:1≤isz x*(8*P):=Nat.mul_pos (by omega) (by omega);unfold exp1;split
   ·exact h1
   ·split
    ·rw[List.length_append];refine Nat.le_trans (Nat.add_le_add (e1 _) (e2 _)) ?_;rw[←Nat.add_mul];exact Nat.mul_le_mul (by omega) (by omega)
    ·split
     ·refine Nat.le_trans (flat_le (iszs x.items*P) fun j _=>e3 _ _) ?_;rw[List.length_range];refine Nat.le_trans (Nat.mul_le_mul_right _ (hf x.name)) ?_;rw[show 8*(iszs x.items*P)=iszs x.items*(8*P)by rw[←Nat.mul_assoc,←Nat.mul_assoc,Nat.mul_comm 8]];exact Nat.mul_le_mul_right _ (by omega)
     ·split
      ·exact h1
      ·exact h1
structure Lk(A B:List It):Prop where
 eq:B.length≤400→A=B
 big:400<B.length→400<A.length
 le:A.length≤B.length
theorem Lk.refl(A:List It):Lk A A:=⟨fun _=>rfl,fun h=>h,Nat.le_refl _⟩
theorem Lk.append{A B A' B':List It}(h:Lk A B)(h':Lk A' B'):Lk (A++A') (B++B'):=by
 refine⟨fun hl=>?_,fun hl=>?_,?_⟩
 ·rw[List.length_append]at hl;rw[h.eq (by omega),h'.eq (by omega)]
 ·rw[List.length_append]at hl ⊢;by_cases h1:400<B.length
  ·have:=h.big h1;omega
  ·by_cases h2:400<B'.length
   ·have:=h'.big h2;omega
   ·rw[h.eq (by omega),h'.eq (by omega)];exact hl
 ·rw[List.length_append,List.length_append];have:=h.le;have:=h'.le;omega
theorem Lk.more{A B:List It}(h:Lk A B)(ha:400<A.length)(C:List It):Lk A (B++C):=by
 have:=h.le;exact⟨fun hl=>absurd hl (by rw[List.length_append];omega),fun _=>ha,by rw[List.length_append];omega⟩
def lop(f:It→List It):List It→List It→List It
 | [],out=>out
 | x::r,out=>if out.length≤400 then lop f r (out++f x)else out
theorem lop_lk(f g:It→List It):∀(l:List It) (out o':List It),(∀x,x∈l→Lk (f x) (g x))→Lk out o'→Lk (lop f l out) (o'++l.flatMap g):=by
 intro l
 induction l with
 | nil=>intro out o' _ h;rw[lop,List.flatMap_nil,List.append_nil];exact h
 | cons x r ih=>
  intro out o' hl h;rw[lop,List.flatMap_cons];split
  ·rw[←List.append_assoc];exact ih _ _ (fun y hy=>hl y (List.mem_cons_of_mem _ hy)) (h.append (hl x (List.mem_cons_self ..)))
  ·exact h.more (by omega) _
theorem Lk.flat(f g:Nat→List It):∀(l:List Nat),(∀j,Lk (f j) (g j))→Lk (l.flatMap f) (l.flatMap g):=by
 intro l h
 induction l with
 | nil=>exact .refl _
 | cons a r ih=>rw[List.flatMap_cons,List.flatMap_cons];exact(h a).append ih
def rexp(fs:List (ByteArray×Int)):Nat→List It→Option Ex→List It
 | 0,_,_=>[]
 | k+1,l,q=>lop (fun x=>
  if x.kind=1∨x.kind=2 then[itE x.kind (underE 21 q x.ex)]
  else if x.kind=4 then rexp fs k x.items (some (underE 19 q x.ex))++rexp fs k x.els (some (underE 19 q (notE x.ex)))
  else if x.kind=5 then(List.range (fszN fs x.name)).flatMap fun(j:Nat)=>rexp fs k (subIs x.idx (constE (j:Int)) x.items) q
  else[x]) l []
def rex1(fs:List (ByteArray×Int))(k:Nat)(q:Option Ex)(x:It):List It:=
 if x.kind=1∨x.kind=2 then[itE x.kind (underE 21 q x.ex)]
 else if x.kind=4 then rexp fs k x.items (some (underE 19 q x.ex))++rexp fs k x.els (some (underE 19 q (notE x.ex)))
 else if x.kind=5 then(List.range (fszN fs x.name)).flatMap fun(j:Nat)=>rexp fs k (subIs x.idx (constE (j:Int)) x.items) q
 else[x]
theorem rexp_eq(fs:List (ByteArray×Int))(k:Nat)(l:List It)(q:Option Ex):rexp fs (k+1) l q=lop (rex1 fs k q) l []:=rfl
theorem plain_d{x:It}(h:plainB x=true)(hk:x.kind=3):itD x=x:=by
 cases x with
 | mk k e s ix ws l m bf af=>
  simp only[It.kind]at hk;subst hk;unfold plainB at h;simp[It.kind,It.ex,It.name,It.idx,It.ws,It.items,It.els,It.bef,It.aft]at h;obtain⟨⟨⟨⟨h1,h2⟩,h3⟩,h4⟩,h5,h6⟩:=h;rw[itD,←(blank_sub (nm:=⟨#[]⟩) (b:=zeroE) h1).2,of_decide_eq_true h2,h3,h4,h5,h6];rfl
theorem plain_s{x:It}(h:plainB x=true)(hk:x.kind=6):itS x=x:=by
 cases x with
 | mk k e s ix ws l m bf af=>
  simp only[It.kind]at hk;subst hk;unfold plainB at h;simp[It.kind,It.ex,It.name,It.idx,It.ws,It.items,It.els,It.bef,It.aft]at h;obtain⟨⟨⟨⟨⟨h1,h2⟩,h3⟩,h4⟩,h5⟩,h6⟩:=h;rw[itS,←(blank_sub (nm:=⟨#[]⟩) (b:=zeroE) h1).2,of_decide_eq_true h2,of_decide_eq_true h3,h4,h5,h6];rfl
theorem rexp_lk(fs:List (ByteArray×Int)):∀(k:Nat) (l:List It) (d:Nat) (q:Option Ex),frm l d→Lk (rexp fs k l q) (exps fs k l q):=by
 intro k
 induction k with
 | zero=>intro l d q _;exact .refl _
 | succ k ih=>
  intro l d q hl;rw[rexp_eq,exps_eq];refine lop_lk _ _ l [] [] (fun x hx=>?_) (.refl _);obtain⟨g1,g2,g3,g4,g5⟩:=(frm1_eq x d).1 (frm_mem hl hx);unfold rex1 exp1;by_cases k1:x.kind=1∨x.kind=2
  ·rw[if_pos k1,if_pos k1];exact .refl _
  ·rw[if_neg k1,if_neg k1];by_cases k4:x.kind=4
   ·rw[if_pos k4,if_pos k4];exact(ih _ _ _ g4).append (ih _ _ _ g5)
   ·rw[if_neg k4,if_neg k4];by_cases k5:x.kind=5
    ·rw[if_pos k5,if_pos k5];exact .flat _ _ _ fun j=>ih _ _ _ (frm_sub _ _ _ _ g4)
    ·rw[if_neg k5,if_neg k5];by_cases k3:x.kind=3
     ·rw[if_pos k3,plain_d g2 k3];exact .refl _
     ·rw[if_neg k3,plain_s g2 (by omega)];exact .refl _
end Go.Proofs.YthoebpnbhgmoiaaGreatDoor
