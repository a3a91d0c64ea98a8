import Derived.Test.YtnhphlmblenapaaGreatDoorDt2
import Derived.Test.YtnhphlmblenapaaGreatDoorRow13
set_option linter.unusedVariables false
set_option linter.unusedSimpArgs false
set_option linter.unusedSectionVars false
set_option maxRecDepth 100000
set_option maxHeartbeats 4000000
open Int renaming ofNat_lt->TU,reduceEq->TV
open List renaming length_map->TW,cons_append->TX,nil_append->TY,flatMap_cons->TZ,append_nil->T0,append_assoc->T3,getElem?_eq_getElem->T4,getElem_mem->T5,take_succ_eq_append_getElem->T6,getElem?_map->T7,drop_eq_getElem_cons->T8,map_cons->T9,take_of_length_le->Ua,drop_eq_nil_of_le->Ub,flatMap_nil->Uc,tail_cons->Ud,map_nil->Ue
namespace Go.Proofs.YtnhphlmblenapaaGreatDoor
open Go.RowKit
open Nat renaming reduceLeDiff -> jA, reduceBEq -> jB, reduceLT -> jC, reduceEqDiff -> jD, reduceAdd -> jE, reduceSub -> jF, reduceMul -> jG
open V renaming copy -> jV, lend -> jW, lend1 -> jX, cells -> jY, boxable -> jZ
def nL(m:Int):ByteArray:=if m=1 then pi else if m=2 then lj else lv
def iA(f:Fl):List Tok:=tw (nL f.mode)::tn f.name::((if 0<f.size then[tm (aa 91),td f.size,tm (aa 93)]else[])++tm (aa 58)::td f.width::((if f.mode=0 then[tm (aa 61),td f.init]else[])++[tm (aa 59)]))
def iT(b:ByteArray×List It):List Tok:=tw bS::tn b.1::tm (aa 123)::(df b.2++[tm (aa 125)])
def wQ(c:Kl):List Tok:=tw kh::tn c.name::((if c.par=⟨#[]⟩then[]else[tw iF,tn c.par])++tm (aa 123)::(c.flds.flatMap iA++(c.blks.flatMap iT++[tm (aa 125)])))
theorem Ay{z:Int}{f:Fl}(hf:FlV f)(r:List Tok):eV z f.mode ((iA f).tail++r)=.ok f r:=by
 obtain⟨nm,w0,w1,s0,s1,md,i0,i1,i2⟩:=hf;obtain⟨name,width,size,mode,init⟩:=f;simp only at *;unfold iA eV p8;simp only[Ud,TX];rw[j5 nm]
 have fin:∀k:Int,bO z (aa 58) (tm (aa 58)::td width::((if mode=0 then[tm (aa 61),td init]else[])++[tm (aa 59)])++r) (fun r3=>gq z r3 fun w r4=>(if mode=0 then bO z (aa 61) r4 fun r5=>gq z r5 fun v r6=>.ok v r6 else .ok 0 r4:CP Int).bind fun v r5=>bO z (aa 59) r5 fun r6=>CP.ok (⟨name,w,k,mode,v⟩:Fl) r6)=.ok ⟨name,width,k,mode,init⟩ r:=by
  intro k;simp only[TX];rw[cS (by decide +kernel),mA (by omega) (by omega)];by_cases h0:mode=0
  .subst h0;simp only[if_true,TX,TY];rw[cS (by decide +kernel),mA i0 (by omega)];show bO z (aa 59) (tm (aa 59)::r) _=_;rw[cS (by decide +kernel)]
  .simp only[if_neg h0,TX,TY];show bO z (aa 59) (tm (aa 59)::r) _=_;rw[cS (by decide +kernel),i2 h0]
 by_cases hz:0<size
 .simp only[if_pos hz,TX,TY];rw[sO (by decide +kernel),mA (by omega) (by omega),if_neg (by omega),cS (by decide +kernel)];exact fin size
 .have:size=0:=by omega
  subst this;simp only[if_neg hz,TY,TX];rw[dB (kH (by decide +kernel) _)];exact fin 0
theorem qB{z:Int}{r:List Tok}(h1:acc pi r=none)(h2:acc lj r=none)(h3:acc lv r=none):∀(l l0:List Fl),(∀f,f∈l->FlV f)->db (eM z) l0 (l.flatMap iA++r)=.ok (l0++l) r
 | [],l0,_=>by
  rw[fr (f:=eM z) qP];unfold eM;simp only[Uc,TY,h1,h2,h3,T0]
 | f::l,l0,h=>by
  have hf:=h f (by simp);have hb:=Ay (z:=z) hf (l.flatMap iA++r);have e:(f::l).flatMap iA++r=tw (nL f.mode)::((iA f).tail++(l.flatMap iA++r)):=by rw[TZ,T3];rfl
  have hs:eM z l0 (tw (nL f.mode)::((iA f).tail++(l.flatMap iA++r)))=some ((eV z f.mode ((iA f).tail++(l.flatMap iA++r))).bind fun x q=>.ok (l0++[x]) q):=by
   unfold eM nL;rcases hf.md with hm|hm|hm<;>rw[hm]
   .rw[if_neg (by decide),if_neg (by decide),pg (by decide +kernel),pg (by decide +kernel),od (by decide +kernel)]
   .rw[if_pos rfl,od (by decide +kernel)]
   .rw[if_neg (by decide),if_pos rfl,pg (by decide +kernel),od (by decide +kernel)]
  rw[fr (f:=eM z) qP,e,hs,hb];show db _ (l0++[f]) _=_;rw[qB h1 h2 h3 l _ fun g hg=>h g (by simp[hg])];simp
theorem yT{z:Int}{b:ByteArray×List It}(hn:aS b.1=true)(hi:rvl b.2 0=0)(r:List Tok):iI z ((iT b).tail++r)=.ok b r:=by
 unfold iT iI fK;simp only[Ud,TX,T3,TY];rw[j5 hn,cS (by decide +kernel),jf,mt b.2 0 hi];rfl
theorem qY{z:Int}{r:List Tok}(h1:acc bS r=none):∀(l l0:List (ByteArray×List It)),(∀b,b∈l->aS b.1=true/\rvl b.2 0=0)->db (fun(l:List (ByteArray×List It)) r=>(acc bS r).map fun r1=>(iI z r1).bind fun b r2=>.ok (l++[b]) r2) l0 (l.flatMap iT++r)=.ok (l0++l) r
 | [],l0,_=>by
  rw[fr (ld z).eats];simp only[Uc,TY,h1,Option.map_none,T0]
 | b::l,l0,h=>by
  obtain⟨hn,hi⟩:=h b (by simp);have e:(b::l).flatMap iT++r=tw bS::((iT b).tail++(l.flatMap iT++r)):=by rw[TZ,T3];rfl
  rw[fr (ld z).eats,e];simp only[od (qx bS (by simp)),Option.map_some];rw[yT hn hi];show db _ (l0++[b]) _=_;rw[qY h1 l _ fun g hg=>h g (by simp[hg])];simp
structure KlB(c:Kl):Prop where
 nm:aS c.name=true
 par:c.par=⟨#[]⟩\/aS c.par=true
 fl:∀f,f∈c.flds->FlV f
 bl:∀b,b∈c.blks->aS b.1=true/\rvl b.2 0=0
theorem AM{z:Int}{c:Kl}(h:KlB c)(r:List Tok):lE z (wQ c++r)=.ok c r:=by
 obtain⟨nm,par,fl,bl⟩:=h;obtain⟨name,p,flds,blks⟩:=c;simp only at *;unfold wQ lE;simp only[TX,T3,TY];rw[vH (by decide +kernel),j5 nm]
 have noT:∀{w:ByteArray},w≠bS->w≠aa 125->acc w (blks.flatMap iT++tm (aa 125)::r)=none:=fun{w} h1 h2=>by
  cases blks with
  | nil=>exact kH (Ne.symm h2) _
  | cons b l=>exact pg (Ne.symm h1) _
 have fin:∀p:ByteArray,bO z (aa 123) (tm (aa 123)::(flds.flatMap iA++(blks.flatMap iT++tm (aa 125)::r))) (fun r4=>(gJ z r4).bind fun f r5=>(iZ z r5).bind fun b r6=>bO z (aa 125) r6 fun r7=>CP.ok (⟨name,p,f,b⟩:Kl) r7)=.ok ⟨name,p,flds,blks⟩ r:=by
  intro p;have hf:=qB (z:=z) (r:=blks.flatMap iT++tm (aa 125)::r) (noT (by decide +kernel) (by decide +kernel)) (noT (by decide +kernel) (by decide +kernel)) (noT (by decide +kernel) (by decide +kernel)) flds [] fl;have hb:=qY (z:=z) (r:=tm (aa 125)::r) (kH (by decide +kernel) _) blks [] bl;rw[cS (by decide +kernel),show gJ z (flds.flatMap iA++(blks.flatMap iT++tm (aa 125)::r))=.ok flds (blks.flatMap iT++tm (aa 125)::r)from hf];simp only[CP.bind];rw[show iZ z (blks.flatMap iT++tm (aa 125)::r)=.ok blks (tm (aa 125)::r)from hb];simp only;rw[cS (by decide +kernel)]
 by_cases hp:p=⟨#[]⟩
 .subst hp;simp only[if_true,TY];rw[dB (kH (by decide +kernel) _)];exact fin ⟨#[]⟩
 .simp only[if_neg hp,TX,TY];rw[nQ (by decide +kernel),j5 (par.resolve_left hp)];exact fin p
theorem Kn(m:Int):bq (tw (nL m))=true:=by
 unfold nL;split
 .exact qx _ (by simp)
 .split<;>exact qx _ (by simp)
theorem Fn(m:Int):(nL m).data.toList++[32]=nK m:=by
 unfold nL nK;split
 .rfl
 .split<;>rfl
theorem Ms{f:Fl}(h:FlV f)(k:Nat)(q:Bs):Tz (lnT k (0,nw f)) (iA f) q:=by
 have hi:0≤f.init/\f.init≤65535:=⟨h.i0,by have:=h.i1;omega⟩
 have hs:0≤f.size/\f.size≤65535:=⟨h.s0,by have:=h.s1;omega⟩
 have hw:0≤f.width/\f.width≤65535:=⟨by have:=h.w0;omega,by have:=h.w1;omega⟩
 have e1:=pX hi.1;have e2:=pX hs.1;have e3:=pX hw.1
 have tail:∀q,good ((if f.mode=0 then[none,some (tm (aa 61)),none,some (td f.init)]else[])++[some (tm (aa 59))]) (10::q)/\good (some (td f.width)::((if f.mode=0 then[none,some (tm (aa 61)),none,some (td f.init)]else[])++[some (tm (aa 59))])) (10::q):=fun q=>by
  split
  .have h0:good ([none,some (tm (aa 61)),none,some (td f.init)]++[some (tm (aa 59))]) (10::q):=aI (kQ _ (by simp)) ⟨wrd (fU hi.1 hi.2) (ko _) 59 (by decide) _,jb _,trivial⟩;exact⟨h0,wrd (fU hw.1 hw.2) (ko _) 32 (by decide) _,h0⟩
  .exact⟨⟨jb _,trivial⟩,wrd (fU hw.1 hw.2) (ko _) 59 (by decide) _,jb _,trivial⟩
 have mid:∀q,good (none::some (tm (aa 58))::none::some (td f.width)::((if f.mode=0 then[none,some (tm (aa 61)),none,some (td f.init)]else[])++[some (tm (aa 59))])) (10::q):=fun q=>aI (kQ _ (by simp)) (tail q).2;refine fV (X:=some (tw (nL f.mode))::none::some (tn f.name)::((if 0<f.size then[some (tm (aa 91)),some (td f.size),some (tm (aa 93))]else[])++none::some (tm (aa 58))::none::some (td f.width)::((if f.mode=0 then[none,some (tm (aa 61)),none,some (td f.init)]else[])++[some (tm (aa 59))]))) (fun q=>aI (Kn _) ?_) ?_ ?_ k q
 .split
  .exact⟨wrd (cM h.nm) (jK _) 91 (by decide) _,dF (by decide) ((j7 (fU hs.1 hs.2) (ko _) _).q _) ⟨wrd (fU hs.1 hs.2) (ko _) 93 (by decide) _,sol (by decide) 32 (by decide) _,mid q⟩⟩
  .exact⟨wrd (cM h.nm) (jK _) 32 (by decide) _,mid q⟩
 .have hm:=Fn f.mode;unfold nw;rw[<-hm]
  have e4:txt (none::some (tm (aa 58))::none::some (td f.width)::((if f.mode=0 then[none,some (tm (aa 61)),none,some (td f.init)]else[])++[some (tm (aa 59))]))=[32,58,32]++(lC f.width++((if f.mode=0 then[32,61,32]++lC f.init else[])++[59])):=by
   split<;>simp[txt,e1,e3,tm,aa]
  rw[oX,oL,oX,b8,e4];split<;>simp[txt,e2,tm,aa,tw,tn,bw]
 .unfold iA;show tw (nL f.mode)::tn f.name::tks _=_;rw[dS];split<;>split<;>rfl
theorem BH(k:Nat)(q:Bs):∀l:List Fl,(∀f,f∈l->FlV f)->Tz (aZ k (l.map fun f=>(0,nw f))) (l.flatMap iA) q
 | [],_=>th q
 | f::l,h=>by
  rw[T9,aM,TZ];exact Tz.app (Ms (h f (by simp)) k _) (BH k q l fun g hg=>h g (by simp[hg]))
theorem M8{b:Bk}(hn:aS b.1=true)(hi:rvl b.2 0=0)(k:Nat)(q:Bs):Tz (aZ k (gw b)) (iT b) q:=by
 unfold gw iT
 have hl:∀q,Tz (lnT k (0,[99,111,110,115,116,114,97,105,110,116,32]++(bw b.1++[32,123]))) [tw bS,tn b.1,tm (aa 123)] q:=fun q=>
  fV (X:=[some (tw bS),none,some (tn b.1),none,some (tm (aa 123))]) (fun q=>aI (qx _ (by simp)) (aI (cM hn) ⟨sol (by decide) 10 (by decide) _,trivial⟩)) (by simp[txt,tw,tn,tm,aa,bS,bw]) rfl k q
 rw[aM,bj,ed,gP];have:=Tz.app (hl _) (Tz.app (FV b.2 0 hi (k+1) _) (mn k q));simpa using this
theorem B7(k:Nat)(q:Bs):∀l:List Bk,(∀b,b∈l->aS b.1=true/\rvl b.2 0=0)->Tz (aZ k (l.flatMap gw)) (l.flatMap iT) q
 | [],_=>th q
 | b::l,h=>by
  rw[TZ,bj,TZ];exact Tz.app (M8 (h b (by simp)).1 (h b (by simp)).2 k _) (B7 k q l fun g hg=>h g (by simp[hg]))
theorem LE{c:Kl}(h:KlB c)(q:Bs):Tz (fY c) (wQ c) q:=by
 unfold fY Ez wQ
 have hl:∀q,Tz (lnT 0 (0,[99,108,97,115,115,32]++(bw c.name++(tL c.par++[32,123])))) (tw kh::tn c.name::((if c.par=⟨#[]⟩then[]else[tw iF,tn c.par])++[tm (aa 123)])) q:=fun q=>by
  by_cases hp:c.par=⟨#[]⟩
  .rw[if_pos hp];exact fV (X:=[some (tw kh),none,some (tn c.name),none,some (tm (aa 123))]) (fun q=>aI (qx _ (by simp)) (aI (cM h.nm) ⟨sol (by decide) 10 (by decide) _,trivial⟩)) (by simp[txt,tw,tn,tm,aa,kh,bw,tL,hp]) rfl 0 q
  .rw[if_neg hp];exact fV (X:=[some (tw kh),none,some (tn c.name),none,some (tw iF),none,some (tn c.par),none,some (tm (aa 123))]) (fun q=>aI (qx _ (by simp)) (aI (cM h.nm) (aI (qx _ (by simp)) (aI (cM (h.par.resolve_left hp)) ⟨sol (by decide) 10 (by decide) _,trivial⟩)))) (by simp[txt,tw,tn,tm,aa,kh,iF,bw,tL,hp]) rfl 0 q
 rw[aM,bj,ed,bj,gP];have:=Tz.app (hl _) (Tz.app (Tz.app (BH 1 _ c.flds h.fl) (B7 1 _ c.blks h.bl)) (mn 0 q));simpa using this
theorem BW{b:Bs}{T:List Tok}(h:Tz b T []):∃T',Sq T' T/\gG b=.ok T':=by
 obtain⟨T',h1,h2⟩:=h (1+(b.count 10:Nat)) [] (by rw[cK,jd]);rw[T0,T0]at h2;exact⟨T',h1,h2⟩
theorem ID{c:Kl}(h:KlV c):KlB c:=by
 have hn:=wC h.cls;exact⟨hn.nm,hn.par,hn.fv,fun b hb=>⟨hn.bn b hb,kC (h.its b hb)⟩⟩
theorem zT(l:List It)(hv:cN l=0)(k:Nat):ft [] (fun ts=>iS (zLs ts) ts) (aZ k (lns l))=if 16384<(aZ k (lns l)).length then([],0,2)else(l,0,0):=by
 have hr:rvl l 0=0:=by unfold cN at hv;split at hv;cases hv;exact hv
 obtain⟨T',h1,h2⟩:=BW (FV l 0 hr k []);unfold ft;rw[h2];simp only;have h3:=FH (N:=zLs T') (N':=zLs T') h1;have h4:iS (zLs T') (df l)=.ok l []:=sY l hr [];rw[h4]at h3;cases hy:iS (zLs T') T' with
 | out=>rw[hy]at h3;exact h3.elim
 | bad e n=>rw[hy]at h3;exact h3.elim
 | ok v r=>rw[hy]at h3;obtain⟨rfl,-⟩:=h3;rfl
theorem xz{c:Kl}(h:KlV c):ft kZ (fun ts=>pz (zLs ts) ts) (fY c)=if 16384<(fY c).length then(kZ,0,2)else(c,0,0):=by
 obtain⟨T',h1,h2⟩:=BW (LE (ID h) []);unfold ft;rw[h2];simp only;have h3:=KD (N:=zLs T') (N':=zLs T') h1
 have h4:pz (zLs T') (wQ c)=.ok c []:=by
  have:=AM (z:=zLs T') (ID h) [];rw[T0]at this;unfold pz;rw[this];rfl
 rw[h4]at h3;cases hy:pz (zLs T') T' with
 | out=>rw[hy]at h3;exact h3.elim
 | bad e n=>rw[hy]at h3;exact h3.elim
 | ok v r=>rw[hy]at h3;obtain⟨rfl,-⟩:=h3;rfl
def awV:Ex:=.mk 2 0 ⟨#[97]⟩ []
def awK:Kl:=⟨⟨#[112]⟩,⟨#[]⟩,[⟨⟨#[97]⟩,2,0,1,0⟩],[(⟨#[99]⟩,[.mk 1 (aU 17 [awV,.mk 1 3 ⟨#[]⟩ []]) ⟨#[]⟩ ⟨#[]⟩ [] [] [] [] [],.mk 2 (aU 15 [awV,.mk 1 1 ⟨#[]⟩ []]) ⟨#[]⟩ ⟨#[]⟩ [] [] [] [] []])]⟩
def awI:It:=.mk 3 exZ ⟨#[97]⟩ ⟨#[]⟩ [⟨0,0,2,true⟩,⟨1,3,6,false⟩] [] [] [] []
theorem Pe:jO [99,108,97,115,115,32,112,32,123,32,114,97,110,100,32,97,32,58,32,50,59,32,99,111,110,115,116,114,97,105,110,116,32,99,32,123,32,97,32,60,32,51,59,32,115,111,102,116,32,97,32,61,61,32,49,59,32,125,32,125]=(awK,0,0):=by kernel_rfl
theorem Ph:m5 [100,105,115,116,32,97,32,123,32,48,32,58,61,32,50,44,32,49,32,46,46,32,51,32,58,47,32,54,32,125,59]=([awI],0,0):=by kernel_rfl
theorem Rl:m5 [97,32,60]=([],1,6):=by kernel_rfl
theorem iq(σ:LLV):Fun G 8 [] σ (aP (ak true) σ):=by
 have h1:=fun σ=>lD [99,108,97,115,115,32,112,32,123,32,114,97,110,100,32,97,32,58,32,50,59,32,99,111,110,115,116,114,97,105,110,116,32,99,32,123,32,97,32,60,32,51,59,32,115,111,102,116,32,97,32,61,61,32,49,59,32,125,32,125] σ;have h2:=fun σ=>nO [100,105,115,116,32,97,32,123,32,48,32,58,61,32,50,44,32,49,32,46,46,32,51,32,58,47,32,54,32,125,59] σ;have h3:=fun σ=>nO [97,32,60] σ;rw[Pe]at h1;rw[Ph]at h2;rw[Rl]at h3
 have e1:vkl awK=.agg [.d (ab ⟨#[112]⟩),.d (ab ⟨#[]⟩),.d (.sl [[ab ⟨#[97]⟩,ac 2,ac 0,ac 1,ac 0]]),.d (.sl [[ab ⟨#[99]⟩,.sl [dit (.mk 1 (aU 17 [awV,.mk 1 3 ⟨#[]⟩ []]) ⟨#[]⟩ ⟨#[]⟩ [] [] [] [] []),dit (.mk 2 (aU 15 [awV,.mk 1 1 ⟨#[]⟩ []]) ⟨#[]⟩ ⟨#[]⟩ [] [] [] [] [])]]])]:=by
  show V.agg [_,_,_,V.d (.sl [[_,fF _]])]=_;unfold fF;rfl
 have hit:[awI].map dit=[[ac 3,ac 0,ac 0,ab ⟨#[]⟩,.sl [],ab ⟨#[97]⟩,ab ⟨#[]⟩,.sl [[ac 0,ac 0,ac 2,dbl true],[ac 1,ac 3,ac 6,dbl false]],.sl [],.sl [],.sl [],.sl []]]:=by
  rw[T9,Ue,ea];rfl
 unfold fN at h1 h2 h3;unfold my at h2 h3;simp only[hit,Ue]at h2 h3;rw[e1]at h1;refine ai Tryz.func8 k8 rfl fun hb hw=>?_;unfold c8;simp -dsimp only[aw,jV,jW,jX,jY,jZ,jA,reduceIte,reduceCtorEq,jB,jC,jD,jE,jF,jG];refine ae (h1 _) ?_;simp -dsimp only[aw,jV,jW,jX,jY,jZ,jA,reduceIte,reduceCtorEq,jB,jC,jD,jE,jF,jG];refine ae (h2 _) ?_;simp -dsimp only[aw,jV,jW,jX,jY,jZ,jA,reduceIte,reduceCtorEq,jB,jC,jD,jE,jF,jG];refine ae (h3 _) ?_;have q1:decide (((1:Nat):Int)=1)=true:=rfl;have q2:decide (((2:Nat):Int)=2)=true:=rfl;have j1:∀x y:D,iaV 2 (.d (.sl [[x,y]])) (.d (.lit (.int .i64 0)))=some (.row [x,y] 0):=fun x y=>rfl;have j2:∀a b c d e f g h i j k l:D,iaV 12 (.d (.sl [[a,b,c,d,e,f,g,h,i,j,k,l]])) (.d (.lit (.int .i64 0)))=some (.row [a,b,c,d,e,f,g,h,i,j,k,l] 0):=fun a b c d e f g h i j k l=>rfl
 have j3:∀a b c d e f g h:D,iaV 4 (.d (.sl [[a,b,c,d],[e,f,g,h]])) (.d (.lit (.int .i64 1)))=some (.row [e,f,g,h] 0):=fun a b c d e f g h=>rfl;simp -dsimp only[aw,jV,jW,jX,jY,jZ,jA,reduceIte,reduceCtorEq,jB,jC,jD,jE,jF,jG,List.length_cons,List.length_nil,TV,decide_true,q1,q2,j1,j2,j3];refine bI (show G.eqs 56=true by kernel_rfl) ?_;have q3:mi false [.i .i64,.i .i64,.i .i64,.b] (V.agg [.d (ac 1),.d (ac 3),.d (ac 6),.d (dbl false)]) (V.agg [.d (.lit (.int .i64 1)),.d (.lit (.int .i64 3)),.d (.lit (.int .i64 6)),.d (.lit (.bool false))])=some (ak true):=by simp[mi,dl,nI]
 simp -dsimp only[aw,jV,jW,jX,jY,jZ,jA,reduceIte,reduceCtorEq,jB,jC,jD,jE,jF,jG,q3,TV,decide_true];first|exact av hb rfl rfl|exact au hb rfl rfl
mutual
def nd1:It->Nat
 | .mk _ _ _ _ _ l m _ _=>1+ndf l 0+ndf m 0
def ndf:List It->Nat->Nat
 | [],n=>n
 | x::r,n=>if n<100 then ndf r (n+nd1 x)else n
end
theorem qa(x:It):nd1 x=1+ndf x.items 0+ndf x.els 0:=by cases x;rw[nd1];rfl
theorem vu:∀(l:List It) (n:Nat),ndf l n≤n+cQ l:=by
 refine lx (fun n=>by rw[ndf];omega) fun x r h1 h2 h3 n=>?_;have a1:=h1 0;have a2:=h2 0;have a3:=h3 (n+nd1 x);rw[qa]at a3;have e:=oa x;rw[ndf,cQ];split
 .rw[qa];omega
 .omega
theorem yD(l m:List It):cQ (l++m)=cQ l+cQ m:=by
 induction l with
 | nil=>simp[cQ]
 | cons a r ih=>rw[TX,cQ,cQ,ih];omega
theorem Gp:∀l:List It,cQ l≤1100000->∀σ:LLV,Fun G 49 [.d (fF l)] σ (aP (.d (ac (ndf l 0))) σ):=by
 refine l9 fun l ih hl σ=>?_;have hll:=xD l;refine ai Tryz.func49 k49 rfl fun hb hw=>?_;unfold c49;simp -dsimp only[aw,jV,jW,jX,jY,jZ,jA,reduceIte,reduceCtorEq,jB,jC,jD,jE,jF,jG,fF,TW];refine aN [0,3,4] (fun(j:Nat) ρ σ'=>∃n:Nat,ρ=[(0,.d (.sl (l.map dit))),(3,.d (ac n)),(4,aB .i64 j)]/\σ'=σ/\n≤cQ (l.take j)/\ndf l 0=ndf (l.drop j) n) l.length ⟨0,rfl,rfl,by omega,rfl⟩ ?_ _;rintro j ρ' σ' hj ⟨n,rfl,rfl,h1,hI⟩
 have htl:cQ (l.take j)≤cQ l:=by
  have:=yD (l.take j) (l.drop j);rw[List.take_append_drop]at this;omega
 by_cases hlt:j<l.length
 .have wj:=aH hlt (show l.length≤9223372036854775807 by omega);have e1:(l.map dit)[j]? = some (dit l[j]):=by rw[T7,T4 hlt];rfl
  rw[T8 hlt,ndf]at hI;by_cases hn:n<100
  .rw[if_pos hn]at hI;obtain⟨i1,i2⟩:=ih _ (T5 hlt);have hm:=tb (T5 hlt);have hz:=oa l[j];have f1:=i1 (by omega);have f2:=i2 (by omega);have b1:=vu l[j].items 0;have b2:=vu l[j].els 0;have hn':((n:Nat):Int)<100:=by omega
   have w1:IntKind.i64.wrap (1+((ndf l[j].items 0:Nat):Int))=((1+ndf l[j].items 0:Nat):Int):=by rw[ba (by omega) (by omega)];omega
   have w2:IntKind.i64.wrap (((1+ndf l[j].items 0:Nat):Int)+((ndf l[j].els 0:Nat):Int))=((nd1 l[j]:Nat):Int):=by rw[ba (by omega) (by omega),qa];omega
   have w3:IntKind.i64.wrap (((n:Nat):Int)+((nd1 l[j]:Nat):Int))=((n+nd1 l[j]:Nat):Int):=by rw[ba (by rw[qa];omega) (by rw[qa];omega)];omega
   simp -dsimp only[aw,jV,jW,jX,jY,jZ,jA,reduceIte,reduceCtorEq,jB,jC,jD,jE,jF,jG,TW,TU,hlt,decide_true,decide_eq_true hn',e1,ea];refine aA (by simpa only[fF]using f1 _) ?_;simp -dsimp only[aw,jV,jW,jX,jY,jZ,jA,reduceIte,reduceCtorEq,jB,jC,jD,jE,jF,jG,w1,TU,hlt,e1,ea];refine aA (by simpa only[fF]using f2 _) ?_;simp -dsimp only[aw,jV,jW,jX,jY,jZ,jA,reduceIte,reduceCtorEq,jB,jC,jD,jE,jF,jG,w2,w3,wj];refine⟨hlt,Nxt.same (Nat.le_refl _) hb (by simp[aq,V.under]) ⟨n+nd1 l[j],rfl,rfl,?_,hI⟩⟩;rw[T6 hlt,yD,qa];simp only[cQ];omega
  .rw[if_neg hn]at hI;have hn':¬((n:Nat):Int)<100:=by omega
   rw[hI];simp -dsimp only[aw,jV,jW,jX,jY,jZ,jA,reduceIte,reduceCtorEq,jB,jC,jD,jE,jF,jG,TW,TU,hlt,decide_true,decide_eq_false hn'];first|exact av hb rfl rfl|exact au hb rfl rfl
 .rw[Ub (by omega),ndf]at hI;rw[hI];simp -dsimp only[aw,jV,jW,jX,jY,jZ,jA,reduceIte,reduceCtorEq,jB,jC,jD,jE,jF,jG,TW,TU,hlt,decide_false];first|exact av hb rfl rfl|exact au hb rfl rfl
theorem xH:∀l:List It,cQ l≤aF l:=by
 refine lx (by rw[cQ,aF];omega) fun x r h1 h2 h3=>?_;rw[cQ,aF,oa,dI];omega
def ndS(l:List Bk):Nat:=(l.map fun b=>ndf b.2 0).sum
theorem I0:∀(l:List Bk) (k:Nat),(∀b,b∈l->aF b.2≤2000000)->l.length≤k->ndS l≤k*2000000
 | [],_,_,_=>Nat.zero_le _
 | a::r,0,_,hl=>by simp at hl
 | a::r,k+1,h,hl=>by
  have h1:=h a (by simp);have h2:=I0 r k (fun b hb=>h b (by simp[hb])) (by simpa using hl);have h3:=xH a.2;have h4:=vu a.2 0;unfold ndS at *;rw[T9,List.sum_cons,Nat.add_mul];omega
abbrev bxK(c:Kl):List V:=[.d (ab c.name),.d (ab c.par),.d (.sl (c.flds.map dfl)),.d (.sl (c.blks.map dbk))]
theorem xX(c:Kl)(hk:mR c≤1100000)(hf:c.flds.length≤1200000)(hbk:c.blks.length≤1200000)(σ:LLV):Fun G 19 [vkl c] σ (aP (ak (decide (c.flds.length≤16)&&(decide (c.blks.length≤16)&&decide (ndS (c.blks.take 17)≤20)))) σ):=by
 have hm:∀b,b∈c.blks->aF b.2≤1100000:=fun b hb=>Nat.le_trans (km hb) hk;refine ai Tryz.func19 k19 rfl fun hb hw=>?_;unfold c19;simp -dsimp only[aw,jV,jW,jX,jY,jZ,jA,reduceIte,reduceCtorEq,jB,jC,jD,jE,jF,jG,TW];refine aN [1,3,4] (fun(j:Nat) ρ σ'=>ρ=[(1,.ptr σ.length 0),(3,.d (ac (ndS (c.blks.take j):Nat))),(4,aB .i64 j)]/\σ'=σ++[bxK c]/\j≤17) c.blks.length ⟨rfl,rfl,by omega⟩ ?_ _;rintro j ρ' σ' hj ⟨rfl,rfl,h17⟩;have hs:=I0 (c.blks.take j) 17 (fun b hb=>by have:=hm b (List.mem_of_mem_take hb);omega) (by rw[List.length_take];omega);by_cases hlt:j<c.blks.length/\j<17
 .obtain⟨hlt,h17'⟩:=hlt;have wj:=aH hlt (show c.blks.length≤9223372036854775807 by omega);have e1:(c.blks.map dbk)[j]? = some (dbk c.blks[j]):=by rw[T7,T4 hlt];rfl
  have hd:dbk c.blks[j]=[ab c.blks[j].1,fF c.blks[j].2]:=rfl;have hbj:=hm _ (T5 hlt);have hz:=xH c.blks[j].2;have hn:=vu c.blks[j].2 0;have hd17:decide (((j:Nat):Int)<17)=true:=decide_eq_true (by omega);have hsn:ndS (c.blks.take (j+1))=ndS (c.blks.take j)+ndf c.blks[j].2 0:=by unfold ndS;rw[T6 hlt,List.map_append,List.sum_append];simp
  have w1:IntKind.i64.wrap (((ndS (c.blks.take j):Nat):Int)+((ndf c.blks[j].2 0:Nat):Int))=((ndS (c.blks.take (j+1)):Nat):Int):=by rw[ba (by omega) (by omega),hsn];omega
  simp -dsimp only[aw,jV,jW,jX,jY,jZ,jA,reduceIte,reduceCtorEq,jB,jC,jD,jE,jF,jG,TW,TU,hlt,decide_true,hd17,e1,hd];refine ae (Gp _ (by omega) _) ?_;simp -dsimp only[aw,jV,jW,jX,jY,jZ,jA,reduceIte,reduceCtorEq,jB,jC,jD,jE,jF,jG,w1,wj];exact⟨hlt,Nxt.same (by simp) (ax hb rfl) (by simp[aq,V.under]) ⟨rfl,rfl,by omega⟩⟩
 .have ht:c.blks.take j=c.blks.take 17:=by
   by_cases h:j<17
   .rw[Ua (by omega),Ua (by omega)]
   .rw[show j=17 by omega]
  rw[ht];by_cases hl:j<c.blks.length
  .have hd17:decide (((j:Nat):Int)<17)=false:=decide_eq_false (by omega);have c2:¬c.blks.length≤16:=by omega
   have d2:decide (((c.blks.length:Nat):Int)≤16)=false:=decide_eq_false (by omega);rw[decide_eq_false c2];by_cases h1:c.flds.length≤16
   .have d1:decide (((c.flds.length:Nat):Int)≤16)=true:=decide_eq_true (by omega);rw[decide_eq_true h1];simp -dsimp only[aw,jV,jW,jX,jY,jZ,jA,reduceIte,reduceCtorEq,jB,jC,jD,jE,jF,jG,TW,TU,hl,decide_true,hd17,d1,d2];first|exact av hb rfl rfl|exact au hb rfl rfl
   .have d1:decide (((c.flds.length:Nat):Int)≤16)=false:=decide_eq_false (by omega);rw[decide_eq_false h1];simp -dsimp only[aw,jV,jW,jX,jY,jZ,jA,reduceIte,reduceCtorEq,jB,jC,jD,jE,jF,jG,TW,TU,hl,decide_true,hd17,d1,d2];first|exact av hb rfl rfl|exact au hb rfl rfl
  .by_cases h1:c.flds.length≤16
   .have d1:decide (((c.flds.length:Nat):Int)≤16)=true:=decide_eq_true (by omega);rw[decide_eq_true h1];by_cases h2:c.blks.length≤16
    .have d2:decide (((c.blks.length:Nat):Int)≤16)=true:=decide_eq_true (by omega);have d3:decide (((ndS (c.blks.take 17):Nat):Int)≤20)=decide (ndS (c.blks.take 17)≤20):=decide_eq_decide.2 (by omega);rw[decide_eq_true h2];simp -dsimp only[aw,jV,jW,jX,jY,jZ,jA,reduceIte,reduceCtorEq,jB,jC,jD,jE,jF,jG,TW,TU,hl,decide_false,d1,d2,d3];first|exact av hb rfl rfl|exact au hb rfl rfl
    .have d2:decide (((c.blks.length:Nat):Int)≤16)=false:=decide_eq_false (by omega);rw[decide_eq_false h2];simp -dsimp only[aw,jV,jW,jX,jY,jZ,jA,reduceIte,reduceCtorEq,jB,jC,jD,jE,jF,jG,TW,TU,hl,decide_false,d1,d2];first|exact av hb rfl rfl|exact au hb rfl rfl
   .have d1:decide (((c.flds.length:Nat):Int)≤16)=false:=decide_eq_false (by omega);rw[decide_eq_false h1];simp -dsimp only[aw,jV,jW,jX,jY,jZ,jA,reduceIte,reduceCtorEq,jB,jC,jD,jE,jF,jG,TW,TU,hl,decide_false,d1];first|exact av hb rfl rfl|exact au hb rfl rfl
theorem qG(c:Kl)(hk:mR c≤1100000)(hf:c.flds.length≤1200000)(hbk:c.blks.length≤1200000)(σ:LLV):Fun G 21 [vkl c] σ (aP (ak (ke c)) σ):=by
 refine ai Tryz.func21 k21 rfl fun hb hw=>?_;unfold c21 ke;simp -dsimp only[aw,jV,jW,jX,jY,jZ,jA,reduceIte,reduceCtorEq,jB,jC,jD,jE,jF,jG];refine ae (mC c (by omega) (by omega) _) ?_;by_cases h0:pY c=0
 .rw[decide_eq_true h0,Bool.and_true];simp -dsimp only[aw,jV,jW,jX,jY,jZ,jA,reduceIte,reduceCtorEq,jB,jC,jD,jE,jF,jG,decide_eq_true h0,TW];refine aN [1,3] (fun(j:Nat) ρ σ'=>ρ=[(1,.ptr σ.length 0),(3,aB .i64 j)]/\σ'=σ++[bxK c]/\(c.blks.all fun b=>decide (cN b.2=0))=((c.blks.drop j).all fun b=>decide (cN b.2=0))) c.blks.length ⟨rfl,rfl,rfl⟩ ?_ _;rintro j ρ' σ' hj ⟨rfl,rfl,hI⟩;by_cases hlt:j<c.blks.length
  .have wj:=aH hlt (show c.blks.length≤9223372036854775807 by omega);have e1:(c.blks.map dbk)[j]? = some (dbk c.blks[j]):=by rw[T7,T4 hlt];rfl
   have hm:=km (T5 hlt);rw[T8 hlt,List.all_cons]at hI;have hd:dbk c.blks[j]=[ab c.blks[j].1,fF c.blks[j].2]:=rfl;simp -dsimp only[aw,jV,jW,jX,jY,jZ,jA,reduceIte,reduceCtorEq,jB,jC,jD,jE,jF,jG,TW,TU,hlt,decide_true,e1,hd];refine ae (ji _ (by omega) _) ?_;by_cases h0:cN c.blks[j].2=0
   .rw[decide_eq_true h0,Bool.true_and]at hI;simp -dsimp only[aw,jV,jW,jX,jY,jZ,jA,reduceIte,reduceCtorEq,jB,jC,jD,jE,jF,jG,h0,decide_true,wj];exact⟨hlt,Nxt.same (by simp) (ax hb rfl) (by simp[aq,V.under]) ⟨rfl,rfl,hI⟩⟩
   .rw[decide_eq_false h0,Bool.false_and]at hI;rw[hI];simp -dsimp only[aw,jV,jW,jX,jY,jZ,jA,reduceIte,reduceCtorEq,jB,jC,jD,jE,jF,jG,decide_eq_false h0];first|exact av hb rfl rfl|exact au hb rfl rfl
  .rw[Ub (by omega),List.all_nil]at hI;rw[hI];simp -dsimp only[aw,jV,jW,jX,jY,jZ,jA,reduceIte,reduceCtorEq,jB,jC,jD,jE,jF,jG,TW,TU,hlt,decide_false];first|exact av hb rfl rfl|exact au hb rfl rfl
 .rw[decide_eq_false h0,Bool.and_false];simp -dsimp only[aw,jV,jW,jX,jY,jZ,jA,reduceIte,reduceCtorEq,jB,jC,jD,jE,jF,jG,decide_eq_false h0];first|exact av hb rfl rfl|exact au hb rfl rfl
end Go.Proofs.YtnhphlmblenapaaGreatDoor
