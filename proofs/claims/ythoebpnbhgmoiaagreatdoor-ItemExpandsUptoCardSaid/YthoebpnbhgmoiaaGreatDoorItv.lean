import Derived.Test.YthoebpnbhgmoiaaGreatDoorIt1
import Derived.Test.YthoebpnbhgmoiaaGreatDoorEnv
set_option linter.unusedVariables false
set_option linter.unusedSimpArgs false
set_option linter.unusedSectionVars false
namespace Go.Proofs.YthoebpnbhgmoiaaGreatDoor
open Go.RowKit
def constE(n:Int):Ex:=.mk 1 n ⟨#[]⟩ []
def notE(e:Ex):Ex:=.mk 4 0 ⟨#[]⟩ [e]
def underE(op:Int)(q:Option Ex)(e:Ex):Ex:=match q with|none=>e|some c=>.mk op 0 ⟨#[]⟩ [c,e]
def zeroE:Ex:=.mk 0 0 ⟨#[]⟩ []
def itE(k:Int)(e:Ex):It:=.mk k e ⟨#[]⟩ ⟨#[]⟩ [] [] [] [] []
def itD(x:It):It:=.mk x.kind zeroE x.name ⟨#[]⟩ x.ws [] [] [] []
def itS(x:It):It:=.mk x.kind zeroE ⟨#[]⟩ ⟨#[]⟩ [] [] [] x.bef x.aft
mutual
def subI(nm:ByteArray)(b:Ex):It→It
 | .mk k e s ix ws l m bf af=>.mk k (subE nm b e) s ix ws (subIs nm b l) (subIs nm b m) bf af
def subIs(nm:ByteArray)(b:Ex):List It→List It
 | []=>[]
 | a::r=>subI nm b a::subIs nm b r
end
theorem subIs_map(nm:ByteArray)(b:Ex)(l:List It):subIs nm b l=l.map (subI nm b):=by
 induction l with
 | nil=>rw[subIs];rfl
 | cons a r ih=>rw[subIs,ih];rfl
theorem subI_eq(nm:ByteArray)(b:Ex)(x:It):subI nm b x=.mk x.kind (subE nm b x.ex) x.name x.idx x.ws (subIs nm b x.items) (subIs nm b x.els) x.bef x.aft:=by cases x;rw[subI];rfl
theorem subIs_size(nm:ByteArray)(b:Ex):∀l:List It,iszs (subIs nm b l)=iszs l:=by
 refine its_ind (by rw[subIs]) fun x r h1 h2 h3=>?_;rw[subIs,iszs,iszs,h3,isz_eq,isz_eq x,subI_eq];show 1+iszs (subIs nm b x.items)+iszs (subIs nm b x.els)+_=_;rw[h1,h2]
def fszN(fs:List (ByteArray×Int))(s:ByteArray):Nat:=((fsz fs s).getD 0).toNat
def exps(fs:List (ByteArray×Int)):Nat→List It→Option Ex→List It
 | 0,_,_=>[]
 | k+1,l,q=>l.flatMap fun x=>
  if x.kind=1∨x.kind=2 then[itE x.kind (underE 21 q x.ex)]
  else if x.kind=4 then exps fs k x.items (some (underE 19 q x.ex))++exps fs k x.els (some (underE 19 q (notE x.ex)))
  else if x.kind=5 then(List.range (fszN fs x.name)).flatMap fun(j:Nat)=>exps fs k (subIs x.idx (constE (j:Int)) x.items) q
  else if x.kind=3 then[itD x]else[itS x]
section
variable (fs : List (ByteArray × Int))
def exp1(k:Nat)(x:It)(q:Option Ex):List It:=
 if x.kind=1∨x.kind=2 then[itE x.kind (underE 21 q x.ex)]
 else if x.kind=4 then exps fs k x.items (some (underE 19 q x.ex))++exps fs k x.els (some (underE 19 q (notE x.ex)))
 else if x.kind=5 then(List.range (fszN fs x.name)).flatMap fun(j:Nat)=>exps fs k (subIs x.idx (constE (j:Int)) x.items) q
 else if x.kind=3 then[itD x]else[itS x]
theorem exps_eq(k:Nat)(l:List It)(q:Option Ex):exps fs (k+1) l q=l.flatMap fun x=>exp1 fs k x q:=rfl
end
end Go.Proofs.YthoebpnbhgmoiaaGreatDoor
namespace Go.Proofs.YthoebpnbhgmoiaaGreatDoor
open Go.RowKit
mutual
def frm:List It→Nat→Prop
 | [],_=>True
 | x::r,d=>frm1 x d∧frm r d
def frm1:It→Nat→Prop
 | .mk k e nm ix ws l m bf af,d=>(1≤k∧k≤6)∧plainB (.mk k e nm ix ws l m bf af)=true∧d≤4∧frm l (d+1)∧frm m (d+1)
end
theorem frm1_eq(x:It)(d:Nat):frm1 x d↔(1≤x.kind∧x.kind≤6)∧plainB x=true∧d≤4∧frm x.items (d+1)∧frm x.els (d+1):=by cases x;rw[frm1];rfl
theorem frm_mem{l:List It}{d:Nat}(h:frm l d){x:It}(hx:x∈l):frm1 x d:=by
 induction l with
 | nil=>cases hx
 | cons a r ih=>
  rw[frm]at h;rcases List.mem_cons.1 hx with rfl|hx
  ·exact h.1
  ·exact ih h.2 hx
theorem frm_valid:∀(l:List It) (d:Nat),rvl l d=0→frm l d:=by
 refine its_ind (fun d h=>by rw[frm];trivial) fun x r h1 h2 h3 d h=>?_;rw[rvl,rv1_eq]at h;rw[frm,frm1_eq];by_cases hs:shapeE x d=0
 ·rw[if_pos hs]at h;obtain⟨g1,g2,g3⟩:=shape_zero hs;by_cases e1:rvl x.items (d+1)=0
  ·rw[if_pos e1]at h;by_cases e2:rvl x.els (d+1)=0
   ·rw[if_pos e2]at h;exact⟨⟨g1,g2,g3,h1 _ e1,h2 _ e2⟩,h3 _ h⟩
   ·rw[if_neg e2]at h;exact absurd h e2
  ·rw[if_neg e1,if_neg e1]at h;exact absurd h e1
 ·rw[if_neg hs,if_neg hs]at h;exact absurd h hs
theorem blank_sub{nm:ByteArray}{b e:Ex}(h:blankB e=true):subE nm b e=zeroE∧e=zeroE:=by
 unfold blankB at h;simp only[Bool.and_eq_true,decide_eq_true_eq,List.isEmpty_iff]at h;obtain⟨⟨⟨h1,h2⟩,h3⟩,h4⟩:=h;cases e with
 | mk o n s l=>
  simp only[Ex.op,Ex.num,Ex.name,Ex.args]at h1 h2 h3 h4;subst h1 h2 h3 h4;exact⟨by rw[subE,subsE];rfl,rfl⟩
theorem blank_zero:blankB zeroE=true:=by decide
theorem subIs_empty(nm:ByteArray)(b:Ex)(l:List It):(subIs nm b l).isEmpty=l.isEmpty:=by cases l<;>rfl
theorem plain_sub{nm:ByteArray}{b:Ex}{x:It}(h:plainB x=true):plainB (subI nm b x)=true:=by
 rw[subI_eq];unfold plainB at h ⊢;simp only[It.kind,It.ex,It.name,It.idx,It.ws,It.items,It.els,It.bef,It.aft,subIs_empty]at h ⊢;cases x with
 | mk k e s ix ws l m bf af=>
  simp only[Bool.and_eq_true,Bool.or_eq_true]at h ⊢;obtain⟨⟨⟨⟨⟨⟨h1,h2⟩,h3⟩,h4⟩,h5⟩,h6⟩,h7⟩:=h;exact⟨⟨⟨⟨⟨⟨h1.imp_right fun h=>by rw[(blank_sub h).1];exact blank_zero,h2⟩,h3⟩,h4⟩,h5⟩,h6⟩,h7⟩
theorem frm_sub(nm:ByteArray)(b:Ex):∀(l:List It) (d:Nat),frm l d→frm (subIs nm b l) d:=by
 refine its_ind (fun d h=>by rw[subIs,frm];trivial) fun x r h1 h2 h3 d h=>?_;rw[frm,frm1_eq]at h;obtain⟨⟨g1,g2,g3,g4,g5⟩,g6⟩:=h;rw[subIs,frm,frm1_eq,subI_eq];exact⟨⟨g1,by rw[←subI_eq];exact plain_sub g2,g3,h1 _ g4,h2 _ g5⟩,h3 _ g6⟩
theorem plain_d{x:It}(h:plainB x=true)(hk:x.kind=3):itD x=x:=by
 cases x with
 | mk k e s ix ws l m bf af=>
  simp only[It.kind]at hk;subst hk;unfold plainB at h;simp[It.kind,It.ex,It.name,It.idx,It.ws,It.items,It.els,It.bef,It.aft]at h;obtain⟨⟨⟨⟨h1,h2⟩,h3⟩,h4⟩,h5,h6⟩:=h;rw[itD,←(blank_sub (nm:=⟨#[]⟩) (b:=zeroE) h1).2,of_decide_eq_true h2,h3,h4,h5,h6];rfl
theorem plain_s{x:It}(h:plainB x=true)(hk:x.kind=6):itS x=x:=by
 cases x with
 | mk k e s ix ws l m bf af=>
  simp only[It.kind]at hk;subst hk;unfold plainB at h;simp[It.kind,It.ex,It.name,It.idx,It.ws,It.items,It.els,It.bef,It.aft]at h;obtain⟨⟨⟨⟨⟨h1,h2⟩,h3⟩,h4⟩,h5⟩,h6⟩:=h;rw[itS,←(blank_sub (nm:=⟨#[]⟩) (b:=zeroE) h1).2,of_decide_eq_true h2,of_decide_eq_true h3,h4,h5,h6];rfl
mutual
def okN:Ex→Bool
 | .mk o _ s l=>!(o==2&&decide (s=⟨#[]⟩))&&okNs l
def okNs:List Ex→Bool
 | []=>true
 | a::r=>okN a&&okNs r
end
theorem okNs_mem{l:List Ex}:okNs l=true↔∀a,a∈l→okN a=true:=by
 induction l with
 | nil=>simp[okNs]
 | cons b r ih=>rw[okNs,Bool.and_eq_true,ih];simp
theorem sub_id(b:Ex)(e:Ex):okN e=true→subE ⟨#[]⟩ b e=e:=by
 induction e using Ex.ind with
 | h o n s l ih=>
 intro h;rw[okN,Bool.and_eq_true,okNs_mem]at h;rw[subE,if_neg (by have:=h.1;simp at this ⊢;exact fun ho=>this.resolve_left fun hh=>hh ho),subsE_map];congr 1;rw[show l=l.map id from(List.map_id l).symm,List.map_map];exact List.map_congr_left fun a ha=>ih a ha (h.2 a ha)
theorem okN_sub(nm:ByteArray)(n:Int)(e:Ex):okN e=true→okN (subE nm (constE n) e)=true:=by
 induction e using Ex.ind with
 | h o m s l ih=>
 intro h;rw[okN,Bool.and_eq_true,okNs_mem]at h;rw[subE];split
 ·rfl
 ·rw[okN,Bool.and_eq_true,okNs_mem,subsE_map];refine⟨h.1,fun a ha=>?_⟩;obtain⟨x,hx,rfl⟩:=List.mem_map.1 ha;exact ih x hx (h.2 x hx)
theorem size_sub(nm:ByteArray)(n:Int)(e:Ex):esize (subE nm (constE n) e)≤esize e:=by
 induction e using Ex.ind with
 | h o m s l ih=>
 rw[subE];split
 ·exact esize_pos _
 ·rw[esize,esize,subsE_map]
  have:∀r:List Ex,(∀a,a∈r→a∈l)→esizes (r.map (subE nm (constE n)))≤esizes r:=by
   intro r
   induction r with
   | nil=>intro _;exact Nat.le_refl _
   | cons a r ihr=>
    intro hm;rw[List.map_cons,esizes,esizes];exact Nat.add_le_add (ih a (hm a (List.mem_cons_self ..))) (ihr fun x hx=>hm x (List.mem_cons_of_mem _ hx))
  exact Nat.add_le_add_right (this l fun _ h=>h) 1
structure EOk(e:Ex):Prop where
 nm:okN e=true
 sz:esize e≤400
mutual
def allX:List It→Prop
 | []=>True
 | x::r=>allX1 x∧allX r
def allX1:It→Prop
 | .mk _ e _ _ _ l m _ _=>EOk e∧allX l∧allX m
end
theorem allX1_eq(x:It):allX1 x↔EOk x.ex∧allX x.items∧allX x.els:=by cases x;rw[allX1];rfl
theorem allX_mem{l:List It}(h:allX l){x:It}(hx:x∈l):allX1 x:=by
 induction l with
 | nil=>cases hx
 | cons a r ih=>
  rw[allX]at h;rcases List.mem_cons.1 hx with rfl|hx
  ·exact h.1
  ·exact ih h.2 hx
theorem allX_sub(nm:ByteArray)(n:Int):∀l:List It,allX l→allX (subIs nm (constE n) l):=by
 refine its_ind (fun h=>by rw[subIs,allX];trivial) fun x r h1 h2 h3 h=>?_;rw[allX,allX1_eq]at h;rw[subIs,allX,allX1_eq,subI_eq];exact⟨⟨⟨okN_sub _ _ _ h.1.1.nm,Nat.le_trans (size_sub _ _ _) h.1.1.sz⟩,h1 h.1.2.1,h2 h.1.2.2⟩,h3 h.2⟩
def QOk(d:Nat)(q:Option Ex):Prop:=∀c,q=some c→okN c=true∧esize c≤402*d
theorem QOk.none(d:Nat):QOk d none:=fun _ h=>by cases h
theorem QOk.mono{d:Nat}{q:Option Ex}(h:QOk d q):QOk (d+1) q:=fun c hc=>⟨(h c hc).1,Nat.le_trans (h c hc).2 (by omega)⟩
theorem under_ok{d:Nat}{q:Option Ex}(h:QOk d q)(op:Int)(ho:op≠2){e:Ex}(he:okN e=true)(hs:esize e≤401):okN (underE op q e)=true∧esize (underE op q e)≤402*(d+1):=by
 cases q with
 | none=>exact⟨he,by show esize e≤_;omega⟩
 | some c=>
  obtain⟨h1,h2⟩:=h c rfl;have e1:esize (underE op (some c) e)=1+(esize c+(esize e+0)):=by unfold underE;simp only[esize,esizes];omega
  refine⟨?_,by omega⟩;show okN (.mk op 0 ⟨#[]⟩ [c,e])=true;rw[okN,okNs,okNs,okNs,h1,he];simp[ho]
theorem not_ok{e:Ex}(h:EOk e):okN (notE e)=true∧esize (notE e)≤401:=by
 have e1:esize (notE e)=1+(esize e+0):=by unfold notE;simp only[esize,esizes];omega
 refine⟨?_,by have:=h.sz;omega⟩;show okN (.mk 4 0 ⟨#[]⟩ [e])=true;rw[okN,okNs,okNs,h.nm];rfl
theorem under_q{d:Nat}{q:Option Ex}(h:QOk d q){e:Ex}(he:okN e=true)(hs:esize e≤401):QOk (d+1) (some (underE 19 q e)):=fun c hc=>by cases hc;exact under_ok h 19 (by decide) he hs
def push(s:List It×Bool)(X:List It):List It×Bool:=((s.1++X).take 400,s.2||decide (400<s.1.length+X.length))
def Sok(s:List It×Bool):Prop:=s.1.length≤400∧(s.2=true→s.1.length=400)
theorem push_ok(s:List It×Bool)(h:Sok s)(X:List It):Sok (push s X):=by
 refine⟨by show((s.1++X).take 400).length≤400;rw[List.length_take];omega,fun hf=>?_⟩;show((s.1++X).take 400).length=400;have hf:(s.2||decide (400<s.1.length+X.length))=true:=hf;rw[List.length_take,List.length_append];rw[Bool.or_eq_true,decide_eq_true_eq]at hf;rcases hf with hf|hf
 ·have:=h.2 hf;omega
 ·omega
theorem push_nil(s:List It×Bool)(h:Sok s):push s []=s:=by
 have h1:=h.1;unfold push;rw[List.append_nil,List.take_of_length_le h1,List.length_nil,decide_eq_false (by omega),Bool.or_false]
theorem push_push(s:List It×Bool)(X Y:List It):push (push s X) Y=push s (X++Y):=by
 unfold push;show((((s.1++X).take 400)++Y).take 400,_)=_;congr 1
 ·rw[←List.append_assoc];generalize s.1++X=A;rcases Nat.le_total A.length 400 with h|h
  ·rw[List.take_of_length_le h]
  ·rw[List.take_append_of_le_length (by rw[List.length_take];omega),List.take_take,Nat.min_self,List.take_append_of_le_length h]
 ·show((s.2||decide (400<s.1.length+X.length))||decide (400<((s.1++X).take 400).length+Y.length))=_;rw[List.length_take,List.length_append,List.length_append,Bool.or_assoc];congr 1;rw[Bool.eq_iff_iff,Bool.or_eq_true,decide_eq_true_eq,decide_eq_true_eq,decide_eq_true_eq];omega
theorem push_full(s:List It×Bool)(h:Sok s)(hf:s.2=true)(X:List It):push s X=s:=by
 have h1:=h.2 hf;unfold push;rw[List.take_append_of_le_length (by omega),List.take_of_length_le (by omega),hf,Bool.true_or,←hf]
theorem push_one(s:List It×Bool)(h:Sok s)(x:It):push s [x]=if 400≤s.1.length then(s.1,true)else(s.1++[x],s.2):=by
 unfold push;split
 ·rename_i hl;rw[List.take_append_of_le_length hl,List.take_of_length_le h.1,List.length_singleton,decide_eq_true (by omega),Bool.or_true]
 ·rename_i hl;rw[List.take_of_length_le (by rw[List.length_append,List.length_singleton];omega),List.length_singleton,decide_eq_false (by omega),Bool.or_false]
theorem push_all(X:List It):push ([],false) X=(X.take 400,decide (400<X.length)):=by
 unfold push;rw[List.nil_append,Bool.false_or];simp
abbrev dbl(b:Bool):D:=.lit (.bool b)
def dwt(w:Wt):List D:=[dint w.lo,dint w.hi,dint w.w,dbl w.each]
mutual
def dit:It→List D
 | .mk k e nm ix ws l m bf af=>[dint k,dint e.op,dint e.num,dstr e.name,.sl (e.args.map dex),dstr nm,dstr ix,.sl (ws.map dwt),.sl (dits l),.sl (dits m),.sl (bf.map fun s=>[dstr s]),.sl (af.map fun s=>[dstr s])]
def dits:List It→List (List D)
 | []=>[]
 | a::r=>dit a::dits r
end
theorem dits_map(l:List It):dits l=l.map dit:=by
 induction l with
 | nil=>rfl
 | cons a r ih=>simp only[dits,ih,List.map_cons]
theorem dit_eq(x:It):dit x=[dint x.kind,dint x.ex.op,dint x.ex.num,dstr x.ex.name,.sl (x.ex.args.map dex),dstr x.name,dstr x.idx,.sl (x.ws.map dwt),.sl (x.items.map dit),.sl (x.els.map dit),.sl (x.bef.map fun s=>[dstr s]),.sl (x.aft.map fun s=>[dstr s])]:=by
 cases x;simp only[dit,dits_map,It.kind,It.ex,It.name,It.idx,It.ws,It.items,It.els,It.bef,It.aft]
def vit(x:It):V:=.agg ((dit x).map V.d)
theorem vit_eq(x:It):vit x=.agg [.d (dint x.kind),.d (dint x.ex.op),.d (dint x.ex.num),.d (dstr x.ex.name),.d (.sl (x.ex.args.map dex)),.d (dstr x.name),.d (dstr x.idx),.d (.sl (x.ws.map dwt)),.d (.sl (x.items.map dit)),.d (.sl (x.els.map dit)),.d (.sl (x.bef.map fun s=>[dstr s])),.d (.sl (x.aft.map fun s=>[dstr s]))]:=by
 unfold vit;rw[dit_eq];rfl
theorem dit_len(x:It):(dit x).length=12:=by rw[dit_eq];rfl
abbrev ditl(l:List It):D:=.sl (l.map dit)
mutual
def ibig:It→Nat
 | .mk _ e _ _ ws l m bf af=>1+esize e+ws.length+bf.length+af.length+ibigs l+ibigs m
def ibigs:List It→Nat
 | []=>0
 | a::r=>ibig a+ibigs r
end
theorem ibig_eq(x:It):ibig x=1+esize x.ex+x.ws.length+x.bef.length+x.aft.length+ibigs x.items+ibigs x.els:=by cases x;rfl
theorem ibigs_mem{l:List It}{a:It}(h:a∈l):ibig a≤ibigs l:=by
 induction l with
 | nil=>cases h
 | cons b r ih=>
  rw[ibigs];rcases List.mem_cons.1 h with rfl|h
  ·omega
  ·have:=ih h;omega
theorem ibigs_len(l:List It):l.length≤ibigs l:=by
 induction l with
 | nil=>exact Nat.le_refl _
 | cons b r ih=>rw[ibigs,List.length_cons,ibig_eq];omega
theorem isz_big:∀l:List It,iszs l≤ibigs l:=by
 refine its_ind (Nat.le_refl _) fun x r h1 h2 h3=>?_;rw[iszs,ibigs,isz_eq,ibig_eq];omega
structure Fd where
 name:ByteArray
 width:Int
 size:Int
 mode:Int
 init:Int
structure Cl where
 name:ByteArray
 par:ByteArray
 fields:List Fd
 blocks:D
def dfd(f:Fd):List D:=[dstr f.name,dint f.width,dint f.size,dint f.mode,dint f.init]
abbrev vcl(c:Cl):V:=.agg [.d (dstr c.name),.d (dstr c.par),.d (.sl (c.fields.map dfd)),.d c.blocks]
def fldS(c:Cl):List (ByteArray×Int):=c.fields.map fun f=>(f.name,f.size)
abbrev vplc(d:Nat)(bd:List ByteArray):V:=.agg [.d (dint d),.d (.sl (bd.map fun s=>[dstr s]))]
def kvF(fs:List (ByteArray×Int)):List (Key×V):=fs.map fun f=>(.s f.1,.d (dint f.2))
def FB(σ:List (List V))(i:Nat)(fs:List (ByteArray×Int)):Prop:=σ[i]? = some [.mapc true (kvF fs)]
theorem mget_kvF(fs:List (ByteArray×Int))(s:ByteArray):mget (.s s) (kvF fs)=(fsz fs s).map fun n=>.d (dint n):=by
 induction fs with
 | nil=>rfl
 | cons f r ih=>
  unfold kvF at ih ⊢;rw[List.map_cons];unfold fsz at ih ⊢;rw[List.find?_cons];by_cases h:f.1=s
  ·simp[mget,h]
  ·have h2:¬(Key.s f.1=Key.s s):=fun e=>h (Key.s.inj e);simp only[mget,h2,decide_eq_false h,if_false]at ih ⊢;exact ih
end Go.Proofs.YthoebpnbhgmoiaaGreatDoor
