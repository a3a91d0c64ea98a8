import Derived.Test.YtnhphlmblenapaaGreatDoorTake7
set_option linter.unusedVariables false
set_option linter.unusedSimpArgs false
set_option linter.unusedSectionVars false
set_option maxHeartbeats 1200000
open Bool renaming false_eq_true->Sq
open Int renaming ofNat_lt->Ss,reduceEq->Su,lt_irrefl->Sv,cast_ofNat_Int->Sw,natCast_zero->Sx
open List renaming take_left->Sy,getElem?_eq_getElem->SA,takeWhile_prefix->SB,length_drop->SC,takeWhile_cons_of_pos->SD,length_set->SE,getElem?_drop->SF,getElem?_map->SG,take_length->SH,length_take->SI,length_cons->SJ,cons_append->SK,length_nil->SL,length_map->SM,drop_eq_getElem_cons->SN,take_of_length_le->SO,take_add_one->SP,getElem_mem->SQ,drop_length->SR,map_append->SS,append_nil->SU,drop_zero->SV,drop_drop->SW,map_cons->SX,map_nil->SY
open Nat renaming le_refl->SZ
namespace Go.Proofs.YtnhphlmblenapaaGreatDoor
open Go.RowKit
open Nat renaming reduceLeDiff -> jA, reduceBEq -> jB, reduceLT -> jC, reduceEqDiff -> jD, reduceAdd -> jE, reduceSub -> jF, reduceMul -> jG
open V renaming copy -> jV, lend -> jW, lend1 -> jX, cells -> jY, boxable -> jZ
def co(kind num:Int)(text:Bs)(line:Int):V:=.agg [.d (ab kind),.d (ab num),.d (aj (bs text)),.d (ab line)]
def bR:V:=co 0 0 [] 0
theorem vB(s:Bs)(σ:LLV):Fun G 147 [.d (aj (bs s))] σ (aN (.d (.lit (.bool (inB (bs s) ch)))) σ):=
 m8 Tryz.func147 (by kernel_rfl) (by kernel_rfl) trivial fun M bm pr w v hG hM h1=>by
  cases em h1;exact(gj (bs s) w (o7 hG.1 hM)).mono fun e w' ⟨h1,h2⟩=>⟨h1,h2▸Ext.refl _⟩
theorem Di(T:Int)(l:Bs)(i:Nat)(hl:l.length≤1200000)(h0:0≤T)(h1:T≤1000000000)(σ:LLV)(hi:σ[i]? = some (rdr T l)):
 Fun G 171 [.ptr i 0] σ fun o σ'=>o=.ret (.tup (if 16<(l.takeWhile inn).length then[bR,.d (ab 2)]else[co (if inB (bs (l.takeWhile inn)) ch=true then 2 else 1) 0 (l.takeWhile inn) (T-(l.count 10:Nat)),.d (ab 0)]))/\σ'=σ.set i (rdr T (l.drop (l.takeWhile inn).length)):=by
 have hlt:i<σ.length:=(List.getElem?_eq_some_iff.1 hi).1;have htw:(l.takeWhile inn).length≤l.length:=(SB _).length_le;have htk:l.take (l.takeWhile inn).length=l.takeWhile inn:=List.prefix_iff_eq_take.1 (SB _) |>.symm
 refine ae Tryz.func171 Ra rfl fun hb hw=>?_;unfold c171;have hio:=fun t=>ah hi t;unfold rdr rd at hio;simp -dsimp only[aw,seval,hio];refine ac (pW l (by omega) _) ?_;simp -dsimp only[aw,seval];refine dh (km T l _ i htw hl h0 h1 _ (ah hi _)) ?_;rw[bc hi,htk];obtain⟨σ1,hs1⟩:∃x,x=σ.set i (rdr T (l.drop (l.takeWhile inn).length)):=⟨_,rfl⟩
 have hl1:σ1.length=σ.length:=by rw[hs1,SE]
 have hb1:ak σ1.length σ1=true:=by rw[hl1,hs1];exact bt hb rfl
 rw[<-hs1,<-hl1];simp -dsimp only[aw,seval,aE];by_cases h16:16<(l.takeWhile inn).length
 .have h16':(16:Int)<((l.takeWhile inn).length:Nat):=by omega
  simp -dsimp only[aw,seval,decide_eq_true h16'];rw[if_pos h16];exact bp (τ:=σ1) hb1 (v:=.tup [bR,.d (ab 2)]) (by simp[zg,aC,bY,aO,bR,co,cG,aw,seval]) rfl Sy ⟨rfl,rfl⟩
 .have h16':¬(16:Int)<((l.takeWhile inn).length:Nat):=by omega
  simp -dsimp only[aw,seval,decide_eq_false h16'];rw[if_neg h16];refine ac (vB _ _) ?_;cases hkw:inB (bs (l.takeWhile inn)) ch with
  | true=>
   simp -dsimp only[aw,seval];exact bp (τ:=σ1) hb1 (v:=.tup [co 2 0 (l.takeWhile inn) (T-(l.count 10:Nat)),.d (ab 0)]) (by simp[zg,aC,bY,aO,bR,co,cG,aw,seval]) rfl Sy ⟨rfl,rfl⟩
  | false=>
   simp -dsimp only[aw,seval];exact bp (τ:=σ1) hb1 (v:=.tup [co 1 0 (l.takeWhile inn) (T-(l.count 10:Nat)),.d (ab 0)]) (by simp[zg,aC,bY,aO,bR,co,cG,aw,seval]) rfl Sy ⟨rfl,rfl⟩
theorem xr(T:Int)(c:UInt8)(r:Bs)(i:Nat)(hl:(c::r).length≤1200000)(hc:dig c=true)(h0:0≤T)(h1:T≤1000000000)(σ:LLV)(hi:σ[i]? = some (rdr T (c::r))):
 Fun G 173 [.ptr i 0] σ fun o σ'=>o=.ret (.tup (if(1<(c::r.takeWhile dig).length/\c=48)\/(r.drop (r.takeWhile dig).length).takeWhile inn≠[]then[bR,.d (ab 5)]else if 2147483647<ci (c::r.takeWhile dig)then[bR,.d (ab 3)]else[co 3 (ci (c::r.takeWhile dig)) (c::r.takeWhile dig) (T-((c::r).count 10:Nat)),.d (ab 0)]))/\σ'=σ.set i (rdr T (r.drop (r.takeWhile dig).length)):=by
 have hlt:i<σ.length:=(List.getElem?_eq_some_iff.1 hi).1;have htc:(c::r).takeWhile dig=c::r.takeWhile dig:=SD hc;have htw:((c::r).takeWhile dig).length≤(c::r).length:=(SB _).length_le;have htk:(c::r).take ((c::r).takeWhile dig).length=(c::r).takeWhile dig:=List.prefix_iff_eq_take.1 (SB _) |>.symm
 have hdr:(c::r).drop ((c::r).takeWhile dig).length=r.drop (r.takeWhile dig).length:=by rw[htc];rfl
 have hds:∀x,x∈c::r.takeWhile dig->dig x=true:=fun x hx=>by rw[<-htc]at hx;exact List.all_eq_true.1 (List.all_takeWhile (l:=c::r) (p:=dig)) x hx
 refine ae Tryz.func173 RF rfl fun hb hw=>?_;unfold c173;have hio:=fun t=>ah hi t;unfold rdr rd at hio;simp -dsimp only[aw,seval,hio];refine ac (C2 (c::r) (by omega) _) ?_;simp -dsimp only[aw,seval];refine dh (km T (c::r) _ i htw hl h0 h1 _ (ah hi _)) ?_;rw[bc hi,htk,hdr,htc];rw[htc]at htw;generalize htx:r.takeWhile dig=tx at *;generalize hrs:r.drop tx.length=rs at *;obtain⟨σ1,hs1⟩:∃x,x=σ.set i (rdr T rs):=⟨_,rfl⟩
 have hl1:σ1.length=σ.length:=by rw[hs1,SE]
 have hb1:ak σ1.length σ1=true:=by rw[hl1,hs1];exact bt hb rfl
 have hi1:σ1[i]? = some (rdr T rs):=by rw[hs1];simp[hlt]
 have hio1:=fun t=>ah hi1 t;unfold rdr rd at hio1;rw[<-hs1,<-hl1];have hrl:rs.length≤1200000:=by rw[<-hrs,SC];simp only[SJ]at hl;omega
 simp -dsimp only[aw,seval,aE,lg,hio1]
 have e48:decide ((c.toNat:Int)=48)=decide (c=48):=by
  rw[decide_eq_decide];exact⟨fun h=>UInt8.toNat_inj.1 (by show c.toNat=48;omega),fun h=>by rw[h];rfl⟩
 have hy:((tx.length:Nat)+1:Nat)=(c::tx).length:=rfl;by_cases hx:1<(c::tx).length/\c=48
 .obtain⟨ha,hc48⟩:=hx;have ha':(1:Int)<((tx.length+1:Nat):Int):=by simp only[SJ]at ha;omega
  simp -dsimp only[aw,seval,decide_eq_true ha',lg,e48,decide_eq_true hc48];rw[if_pos (.inl ⟨ha,hc48⟩)];exact bp (τ:=σ1) hb1 (v:=.tup [bR,.d (ab 5)]) (by simp[lI,aC,bY,aO,bR,co,cG,aw,seval]) rfl Sy ⟨rfl,rfl⟩
 .by_cases ha:(1:Int)<((tx.length+1:Nat):Int)
  rotate_left
  .simp -dsimp only[aw,seval,decide_eq_false ha,hio1];refine ac (pW rs (by omega) _) ?_;by_cases hsp:rs.takeWhile inn=[]
   .rw[if_neg (fun h=>h.elim hx (fun h=>h hsp)),hsp];simp -dsimp only[aw,seval,SL,Sx,Sw,Sv,decide_false];have hpd:=mY (l:=c::tx) (by simp) hds;by_cases hbig:ci (c::tx)≤9223372036854775807
    .rw[if_pos hbig]at hpd;refine ac (mt (c::tx) _ (by omega) hpd (mJ hbig) _) ?_;by_cases hmx:2147483647<ci (c::tx)
     .have hmx':(2147483647:Int)<((ci (c::tx):Nat):Int):=by omega
      simp -dsimp only[aw,seval,decide_eq_true hmx'];rw[if_pos hmx];exact bp (τ:=σ1) hb1 (v:=.tup [bR,.d (ab 3)]) (by simp[lI,aC,bY,aO,bR,co,cG,aw,seval]) rfl Sy ⟨rfl,rfl⟩
     .have hmx':¬(2147483647:Int)<((ci (c::tx):Nat):Int):=by omega
      simp -dsimp only[aw,seval,decide_eq_false hmx'];rw[if_neg hmx];exact bp (τ:=σ1) hb1 (v:=.tup [co 3 (ci (c::tx)) (c::tx) (T-((c::r).count 10:Nat)),.d (ab 0)]) (by simp[lI,aC,bY,aO,bR,co,cG,aw,seval]) rfl Sy ⟨rfl,rfl⟩
    .rw[if_neg hbig]at hpd;refine ac (jx (c::tx) (by omega) hpd _) ?_;rw[if_pos (show 2147483647<ci (c::tx)by omega)];simp -dsimp only[aw,seval];exact bp (τ:=σ1) hb1 (v:=.tup [bR,.d (ab 3)]) (by simp[lI,aC,bY,aO,bR,co,cG,aw,seval]) rfl Sy ⟨rfl,rfl⟩
   .rw[if_pos (.inr hsp)];have hsl:(0:Int)<((rs.takeWhile inn).length:Nat):=by have:=List.length_pos_iff.2 hsp;omega
    simp -dsimp only[aw,seval,decide_eq_true hsl];exact bp (τ:=σ1) hb1 (v:=.tup [bR,.d (ab 5)]) (by simp[lI,aC,bY,aO,bR,co,cG,aw,seval]) rfl Sy ⟨rfl,rfl⟩
  .have hc48:¬c=48:=fun h=>hx ⟨by simp only[SJ];omega,h⟩;simp -dsimp only[aw,seval,decide_eq_true ha,lg,e48,decide_eq_false hc48,hio1];refine ac (pW rs (by omega) _) ?_;by_cases hsp:rs.takeWhile inn=[]
   .rw[if_neg (fun h=>h.elim hx (fun h=>h hsp)),hsp];simp -dsimp only[aw,seval,SL,Sx,Sw,Sv,decide_false];have hpd:=mY (l:=c::tx) (by simp) hds;by_cases hbig:ci (c::tx)≤9223372036854775807
    .rw[if_pos hbig]at hpd;refine ac (mt (c::tx) _ (by omega) hpd (mJ hbig) _) ?_;by_cases hmx:2147483647<ci (c::tx)
     .have hmx':(2147483647:Int)<((ci (c::tx):Nat):Int):=by omega
      simp -dsimp only[aw,seval,decide_eq_true hmx'];rw[if_pos hmx];exact bp (τ:=σ1) hb1 (v:=.tup [bR,.d (ab 3)]) (by simp[lI,aC,bY,aO,bR,co,cG,aw,seval]) rfl Sy ⟨rfl,rfl⟩
     .have hmx':¬(2147483647:Int)<((ci (c::tx):Nat):Int):=by omega
      simp -dsimp only[aw,seval,decide_eq_false hmx'];rw[if_neg hmx];exact bp (τ:=σ1) hb1 (v:=.tup [co 3 (ci (c::tx)) (c::tx) (T-((c::r).count 10:Nat)),.d (ab 0)]) (by simp[lI,aC,bY,aO,bR,co,cG,aw,seval]) rfl Sy ⟨rfl,rfl⟩
    .rw[if_neg hbig]at hpd;refine ac (jx (c::tx) (by omega) hpd _) ?_;rw[if_pos (show 2147483647<ci (c::tx)by omega)];simp -dsimp only[aw,seval];exact bp (τ:=σ1) hb1 (v:=.tup [bR,.d (ab 3)]) (by simp[lI,aC,bY,aO,bR,co,cG,aw,seval]) rfl Sy ⟨rfl,rfl⟩
   .rw[if_pos (.inr hsp)];have hsl:(0:Int)<((rs.takeWhile inn).length:Nat):=by have:=List.length_pos_iff.2 hsp;omega
    simp -dsimp only[aw,seval,decide_eq_true hsl];exact bp (τ:=σ1) hb1 (v:=.tup [bR,.d (ab 5)]) (by simp[lI,aC,bY,aO,bR,co,cG,aw,seval]) rfl Sy ⟨rfl,rfl⟩
theorem ma(l:Bs):∀(ms:List Bs) (m:Bs) (b:Nat),gA (ms++[m]) b l=if gA ms b l<m.length/\m.isPrefixOf l=true then m.length else gA ms b l
 | [],m,b=>rfl
 | a::ms,m,b=>by simp only[SK,gA];exact ma l ms m _
theorem FB(T:Int)(l:Bs)(i:Nat)(hl:l.length≤1200000)(h0:0≤T)(h1:T≤1000000000)(σ:LLV)(hi:σ[i]? = some (rdr T l)):
 Fun G 174 [.ptr i 0] σ fun o σ'=>o=.ret (.tup (if dJ l=0 then[bR,.d (ab 5)]else[co 4 0 (l.take (dJ l)) (T-(l.count 10:Nat)),.d (ab 0)]))/\σ'=σ.set i (rdr T (l.drop (dJ l))):=by
 have hli:i<σ.length:=(List.getElem?_eq_some_iff.1 hi).1;have hbm:=(s9 l).1;have hmk:aM.length=36:=rfl;refine ae Tryz.func174 Qy rfl fun hb hw=>?_;unfold M7;have hio:=fun t=>ah hi t;unfold rdr rd at hio;have hg:∀ρ,ev G ρ (.g 1)=.row [.sl (aM.map fun s=>[.lit (.string (bs s))])] 0:=fun _=>rfl;simp -dsimp only[aw,seval,hio,hg,SM,hmk];generalize hrows:(aM.map fun s=>[D.lit (Value.string (bs s))])=rows;have hlen:rows.length=36:=by rw[<-hrows];rfl
 refine eu (R:=fun(j:Nat) ρ σ'=>ρ=[(0,.ptr i 0),(2,.ptr σ.length 0),(4,aK .i64 (gA (aM.take j) 0 l:Nat)),(8,.d (.sl rows)),(9,aK .i64 36),(10,aK .i64 j)]/\σ'=σ++[[.d (ab 0),.d (ab 0),.d (aj ⟨#[]⟩),.d (ab 0)]]) 36 ⟨rfl,rfl⟩ ?_ _;rintro j ρ' σ' hj ⟨rfl,rfl⟩;by_cases hlt:j<36
 .have hjm:j<aM.length:=hlt;have hrj:rows[j]? = some [D.lit (Value.string (bs aM[j]))]:=by rw[<-hrows,SG,SA hjm];rfl
  have hlt':(j:Int)<36:=by omega
  have htk:aM.take (j+1)=aM.take j++[aM[j]]:=by rw[SP,SA hjm];rfl
  have hbs:=ma l (aM.take j) aM[j] 0;rw[<-htk]at hbs;generalize hm:aM[j]=m at *;generalize hbe:gA (aM.take j) 0 l=best at *;have hml:m.length≤2:=(by decide:∀m,m∈aM->m.length≤2) m (hm▸SQ hjm)
  have next:∀b:Nat,gA (aM.take (j+1)) 0 l=b->j<36/\Nxt σ.length (fun ρ σ'=>ρ=[(0,V.ptr i 0),(2,V.ptr σ.length 0),(4,aK IntKind.i64 (gA (List.take (j+1) aM) 0 l:Nat)),(8,V.d (D.sl rows)),(9,aK IntKind.i64 36),(10,aK IntKind.i64 ((j+1:Nat):Int))]/\σ'=σ++[[V.d (ab 0),V.d (ab 0),V.d (aj {data := #[]}),V.d (ab 0)]]) [(0,.ptr i 0),(2,.ptr σ.length 0),(4,aK .i64 b),(8,.d (.sl rows)),(9,aK .i64 36),(10,aK .i64 ((j+1:Nat):Int))] (σ++[[.d (ab 0),.d (ab 0),.d (aj ⟨#[]⟩),.d (ab 0)]]) .mk:=fun b h=>
   ⟨hlt,Nxt.same (by simp) (aq hb rfl) (by simp[au,V.under];omega) ⟨by rw[h],rfl⟩⟩
  simp -dsimp only[aw,seval,decide_eq_true hlt',hrj,hio,aE];by_cases hgt:best<m.length
  .have hgt':(best:Int)<(m.length:Nat):=by omega
   simp -dsimp only[aw,seval,decide_eq_true hgt',hio];refine ac (lJ l m _) ?_;cases hp:m.isPrefixOf l with
   | true=>
    simp -dsimp only[aw,seval,aE,aT hlt (by decide)];exact next _ (by rw[hbs,if_pos ⟨hgt,hp⟩])
   | false=>
    simp -dsimp only[aw,seval,aT hlt (by decide)];exact next _ (by rw[hbs,if_neg (fun h=>by rw[hp]at h;cases h.2)])
  .have hgt':¬(best:Int)<(m.length:Nat):=by omega
   simp -dsimp only[aw,seval,decide_eq_false hgt',aT hlt (by decide)];exact next _ (by rw[hbs,if_neg (fun h=>hgt h.1)])
 .have hlt':¬(j:Int)<36:=by omega
  simp -dsimp only[aw,seval,decide_eq_false hlt',hio];have hbe:gA (aM.take j) 0 l=dJ l:=by rw[SO (by rw[hmk];omega)];rfl
  rw[hbe];by_cases hz:dJ l=0
  .have hz':((dJ l:Nat):Int)=0:=by omega
   have hself:σ.set i (rdr T (l.drop (dJ l)))=σ:=by
    rw[hz,SV,<-(List.getElem?_eq_some_iff.1 hi).2];exact List.set_getElem_self hli
   simp -dsimp only[aw,seval,decide_eq_true hz'];rw[if_pos hz,hself];exact bp (τ:=σ) hb (v:=.tup [bR,.d (ab 5)]) (by simp[CG,aC,bY,aO,bR,co,cG,aw,seval]) rfl Sy ⟨rfl,rfl⟩
  .have hz':¬((dJ l:Nat):Int)=0:=by omega
   simp -dsimp only[aw,seval,decide_eq_false hz',hio];refine dh (km T l _ i hbm hl h0 h1 _ (ah hi _)) ?_;rw[bc hi,if_neg hz];obtain⟨σ1,hs1⟩:∃x,x=σ.set i (rdr T (l.drop (dJ l))):=⟨_,rfl⟩
   have hl1:σ1.length=σ.length:=by rw[hs1,SE]
   have hb1:ak σ1.length σ1=true:=by rw[hl1,hs1];exact bt hb rfl
   rw[<-hs1,<-hl1];simp -dsimp only[aw,seval];exact bp (τ:=σ1) hb1 (v:=.tup [co 4 0 (l.take (dJ l)) (T-(l.count 10:Nat)),.d (ab 0)]) (by simp[CG,aC,bY,aO,bR,co,cG,aw,seval]) rfl Sy ⟨rfl,rfl⟩
def pE(T:Int)(l:Bs)(i:Nat)(σ:LLV)(o:Out)(σ':LLV):Prop:=match cZ l with
 | .err e=>o=.ret (.tup [bR,.d (ab e)])/\∃l',σ'=σ.set i (rdr T l')
 | .tok k n len=>o=.ret (.tup [co k n (l.take len) (T-(l.count 10:Nat)),.d (ab 0)])/\σ'=σ.set i (rdr T (l.drop len))
theorem qH(c:UInt8)(r:Bs)(h1:eQ c.toNat=false)(h2:dD c.toNat=false):cZ (c::r)=if dJ (c::r)=0 then .err 5 else .tok 4 0 (dJ (c::r)):=by
 simp only[cZ,h1,h2,Sq,if_false]
theorem Am(c:Int)(σ:LLV):Fun G 170 [.d (.lit (.int .i32 c))] σ (aN (.d (.lit (.bool (eQ c)))) σ):=
 pU Tryz.func170 (by kernel_rfl) (by kernel_rfl) trivial fun pr w _=>(dV c w).mono fun e w' ⟨h1,h2⟩=>⟨h1,h2▸Ext.refl _⟩
theorem Cu(c:Int)(σ:LLV):Fun G 172 [.d (.lit (.int .i32 c))] σ (aN (.d (.lit (.bool (dD c)))) σ):=
 pU Tryz.func172 (by kernel_rfl) (by kernel_rfl) trivial fun pr w _=>(fU c w).mono fun e w' ⟨h1,h2⟩=>⟨h1,h2▸Ext.refl _⟩
theorem Ax(n:Nat)(T:Int)(l:Bs)(hn:dJ l=n)(i:Nat)(hl:l.length≤1200000)(h0:0≤T)(h1:T≤1000000000)(σ:LLV)(hi:σ[i]? = some (rdr T l)):
 Fun G 174 [.ptr i 0] σ fun o σ'=>o=.ret (.tup (if n=0 then[bR,.d (ab 5)]else[co 4 0 (l.take n) (T-(l.count 10:Nat)),.d (ab 0)]))/\σ'=σ.set i (rdr T (l.drop n)):=by
 have h:=FB T l i hl h0 h1 σ hi;rw[hn]at h;exact h
theorem Ca(n:Nat)(T:Int)(l0:Bs)(hn:dJ l0=n)(c:UInt8)(r:Bs)(he:l0=c::r)(i:Nat)(hl:l0.length≤1200000)(h0:0≤T)(h1:T≤1000000000)(σ:LLV)(hi:σ[i]? = some (rdr T l0)):
 Fun G 116 [.ptr i 0] σ (pE T l0 i σ):=by
 have hix:ixV (V.d (aj (bs l0))) (V.d (.lit (.int .i64 0)))=some (aK .u8 c.toNat):=by rw[he];exact lg c r
 have hlt:i<σ.length:=(List.getElem?_eq_some_iff.1 hi).1;refine ae Tryz.func116 Sm rfl fun hb hw=>?_;unfold Nj;have hio:=fun t=>ah hi t;unfold rdr rd at hio;simp -dsimp only[aw,seval,hio,hix];rw[D3 _ c.toNat_lt];refine ac (Am _ _) ?_
 have fin1:∀(X:List V) (σ1:LLV) (k n:Int) (tx:Bs) (ln e:Int) (B:List V),σ1.length=σ.length->σ1=σ.set i X->ak σ1.length σ1=true->pE T l0 i σ (.ret (.tup [co k n tx ln,.d (ab e)])) σ1->
  fin σ1.length FN (pE T l0 i σ) .ret [(2,.ptr σ1.length 0),(3,.d (ab e))] (σ1++[[.d (ab k),.d (ab n),.d (aj (bs tx)),.d (ab ln)]]):=fun X σ1 k n tx ln e B g1 g2 g3 g4=>
  bp (τ:=σ1) g3 (v:=.tup [co k n tx ln,.d (ab e)]) (by simp[FN,aC,bY,aO,co,aw,seval]) rfl Sy g4
 cases hlow:eQ c.toNat with
 | true=>
  subst he;simp -dsimp only[aw,seval];refine dh (Di T (c::r) i hl h0 h1 _ (ah hi _)) ?_;rw[bc hi];obtain⟨σ1,hs1⟩:∃x,x=σ.set i (rdr T ((c::r).drop ((c::r).takeWhile inn).length)):=⟨_,rfl⟩
  have hl1:σ1.length=σ.length:=by rw[hs1,SE]
  have hb1:ak σ1.length σ1=true:=by rw[hl1,hs1];exact bt hb rfl
  rw[<-hs1,<-hl1];have htk:(c::r).take ((c::r).takeWhile inn).length=(c::r).takeWhile inn:=List.prefix_iff_eq_take.1 (SB _) |>.symm
  by_cases h16:16<((c::r).takeWhile inn).length
  .rw[if_pos h16];simp -dsimp only[aw,seval,bR,co];refine fin1 _ σ1 0 0 [] 0 2 [] hl1 hs1 hb1 ?_;unfold pE;simp only[cZ,hlow,if_true,h16];exact⟨rfl,_,hs1⟩
  .rw[if_neg h16];simp -dsimp only[aw,seval,bR,co];refine fin1 _ σ1 _ 0 ((c::r).takeWhile inn) _ 0 [] hl1 hs1 hb1 ?_;unfold pE;simp only[cZ,hlow,if_true,h16,if_false];exact⟨by rw[htk];rfl,hs1⟩
 | false=>
  simp -dsimp only[aw,seval];refine ac (Cu _ _) ?_;cases hdig:dD c.toNat with
  | true=>
   subst he;simp -dsimp only[aw,seval];refine dh (xr T c r i hl hdig h0 h1 _ (ah hi _)) ?_;rw[bc hi];obtain⟨σ1,hs1⟩:∃x,x=σ.set i (rdr T (r.drop (r.takeWhile dig).length)):=⟨_,rfl⟩
   have hl1:σ1.length=σ.length:=by rw[hs1,SE]
   have hb1:ak σ1.length σ1=true:=by rw[hl1,hs1];exact bt hb rfl
   rw[<-hs1,<-hl1];have htc:(c::r).takeWhile dig=c::r.takeWhile dig:=SD hdig;have hdr:(c::r).drop ((c::r).takeWhile dig).length=r.drop (r.takeWhile dig).length:=by rw[htc];rfl
   have hall:((c::r).takeWhile inn).all dig=((c::r).takeWhile inn).all fun x=>dD x.toNat:=rfl;have hsp:=uS (c::r);rw[hdr,htc]at hsp;by_cases hA:(1<(c::r.takeWhile dig).length/\c=48)\/(r.drop (r.takeWhile dig).length).takeWhile inn≠[]
   .rw[if_pos hA];simp -dsimp only[aw,seval,bR,co];refine fin1 _ σ1 0 0 [] 0 5 [] hl1 hs1 hb1 ?_
    have hcond:(((c::r).takeWhile inn).all fun x=>dD x.toNat)=false\/(1<((c::r).takeWhile inn).length/\c=48):=by
     rcases hsp with⟨g1,g2,g3⟩|⟨g1,g2⟩
     .refine .inr ?_;rw[<-g2];exact hA.elim id (fun h=>absurd g3 h)
     .exact .inl g1
    unfold pE;simp only[cZ,hlow,hdig,if_true,Sq,if_false,hcond];exact⟨rfl,_,hs1⟩
   .rw[if_neg hA]
    have hsp1:((c::r).takeWhile inn).all dig=true/\c::r.takeWhile dig=(c::r).takeWhile inn:=by
     rcases hsp with⟨g1,g2,g3⟩|⟨g1,g2⟩
     .exact⟨g1,g2⟩
     .exact absurd (.inr g2) hA
    have hcond:¬((((c::r).takeWhile inn).all fun x=>dD x.toNat)=false\/(1<((c::r).takeWhile inn).length/\c=48)):=by
     rintro(h|h)
     .rw[<-hall,hsp1.1]at h;cases h
     .rw[<-hsp1.2]at h;exact hA (.inl h)
    have hdr2:r.drop (r.takeWhile dig).length=(c::r).drop ((c::r).takeWhile inn).length:=by rw[<-hsp1.2];rfl
    have htk:(c::r).take ((c::r).takeWhile inn).length=(c::r).takeWhile inn:=List.prefix_iff_eq_take.1 (SB _) |>.symm
    rw[hsp1.2];rw[hdr2]at hs1;by_cases hB:2147483647<ci ((c::r).takeWhile inn)
    .rw[if_pos hB];simp -dsimp only[aw,seval,bR,co];refine fin1 _ σ1 0 0 [] 0 3 [] hl1 hs1 hb1 ?_;unfold pE;simp only[cZ,hlow,hdig,if_true,Sq,if_false,hcond,hB];exact⟨rfl,_,hs1⟩
    .rw[if_neg hB];simp -dsimp only[aw,seval,bR,co];refine fin1 _ σ1 _ _ ((c::r).takeWhile inn) _ 0 [] hl1 hs1 hb1 ?_;unfold pE;simp only[cZ,hlow,hdig,if_true,Sq,if_false,hcond,hB];exact⟨by rw[htk],hs1⟩
  | false=>
   simp -dsimp only[aw,seval];have hrd:cZ l0=if n=0 then .err 5 else .tok 4 0 n:=by rw[<-hn,he];exact qH c r hlow hdig
   refine dh (Ax n T l0 hn i hl h0 h1 _ (ah hi _)) ?_;rw[bc hi];obtain⟨σ1,hs1⟩:∃x,x=σ.set i (rdr T (l0.drop n)):=⟨_,rfl⟩
   have hl1:σ1.length=σ.length:=by rw[hs1,SE]
   have hb1:ak σ1.length σ1=true:=by rw[hl1,hs1];exact bt hb rfl
   rw[<-hs1,<-hl1];by_cases hz:n=0
   .rw[if_pos hz];rw[if_pos hz]at hrd;simp -dsimp only[aw,seval,bR,co];refine fin1 _ σ1 0 0 [] 0 5 [] hl1 hs1 hb1 ?_;unfold pE;rw[hrd];exact⟨rfl,_,hs1⟩
   .rw[if_neg hz];rw[if_neg hz]at hrd;simp -dsimp only[aw,seval,bR,co];refine fin1 _ σ1 4 0 (l0.take n) _ 0 [] hl1 hs1 hb1 ?_;unfold pE;rw[hrd];exact⟨rfl,hs1⟩
theorem aP{K P:V->LLV->Prop}{v:V}{σ:LLV}:DU K P (.ret v) σ=K v σ:=rfl
def dA(t:Tok):List D:=[ab t.kind,ab t.num,aj t.text,ab t.line]
def kE:Lx->V
 | .ok ts=>.tup [.d (.sl (ts.map dA)),.d (ab 0),.d (ab 0)]
 | .err n e=>.tup [.d (.sl []),.d (ab n),.d (ab e)]
def jO(l:Bs):V:=if 16384<l.length then .tup [.d (.sl []),.d (ab 0),.d (ab 2)]else kE (cR l)
theorem pL{l:Bs}{e:Int}(h:cZ l=.err e):e≠0:=by
 match l with
 | []=>cases h;decide
 | c::r=>
  simp only[cZ]at h;split at h
  .split at h<;>cases h<;>decide
  .split at h
   .split at h
    .cases h;decide
    .split at h<;>cases h<;>decide
   .split at h<;>cases h<;>decide
theorem js(N:Int)(l:Bs):fK N (bC l)=fK N l:=by rw[cW,cW N l,jb]
theorem vV(x:Lx)(t:Tok)(a:List Tok):(x.cons t).app a=x.app (a++[t]):=by cases x<;>simp[Lx.cons,Lx.app]
theorem zq(x:Lx):x.app []=x:=by cases x<;>rfl
theorem p9(l:Bs)(hl:l.length≤1200000)(σ:LLV):Fun G 58 [.d (aj (bs l))] σ (aN (jO l) σ):=by
 have hcl:l.count 10≤l.length:=List.count_le_length;refine ae Tryz.func58 k58 rfl fun hb hw=>?_;unfold c58;by_cases hbig:16384<l.length
 .have hbig':(16384:Int)<((l.length:Nat):Int):=by omega
  simp -dsimp only[aw,seval,aE,decide_eq_true hbig'];exact az hb (v:=jO l) (by unfold jO;rw[if_pos hbig];rfl) (by unfold jO;rw[if_pos hbig];rfl) SH ⟨rfl,rfl⟩
 .have hbig':¬(16384:Int)<((l.length:Nat):Int):=by omega
  have hR:jO l=kE (cR l):=by unfold jO;rw[if_neg hbig]
  rw[hR];obtain⟨T,hT⟩:∃T:Int,T=1+(l.count 10:Nat):=⟨_,rfl⟩
  have hT0:0≤T:=by omega
  have hT1:T≤1000000000:=by omega
  have htk:cR l=fK T l:=by rw[hT];rfl
  have h1:(1:Int)=T-(l.count 10:Nat):=by omega
  have hbox:[V.d (aj (bs l)),V.d (ab 1)]=rdr T l:=by unfold rdr rd;rw[h1]
  simp -dsimp only[aw,seval,aE,decide_eq_false hbig',hbox];refine dh (wA T l σ.length hl hT0 hT1 _ (pz _)) ?_;rw[my];simp -dsimp only[aw,seval];refine eu (R:=fun(j:Nat) ρ σ'=>∃(acc:List Tok) (r:Bs),bC r=r/\cR l=(fK T r).app acc/\r.length+j≤l.length/\acc.length≤j/\ρ=[(5,.ptr σ.length 0),(6,.own 121 4 (acc.map dA))]/\σ'=σ++[rdr T r]) l.length ⟨[],bC l,jb l,by rw[zq,js,htk],by have:=(dH l).length_le;omega,by simp,rfl,rfl⟩ ?_ _;rintro j ρ' σ' hj ⟨acc,r,hs,hr,hrl,hal,rfl,rfl⟩
  match hre:r with
  | []=>
   simp -dsimp only[aw,seval,rdr,rd,sY];refine az hb (v:=kE (cR l)) ?_ ?_ Sy ⟨rfl,rfl⟩
   .rw[hr,cW,fO];simp only[Lx.app,SU,kE];rfl
   .rw[hr,cW,fO];rfl
  | c::r'=>
   have hnil:=xn c r';simp -dsimp only[aw,seval,rdr,rd,hnil];rw[<-hre]at hs hr hrl ⊢;have hfold:[V.d (aj (bs r)),V.d (ab (T-(r.count 10:Nat)))]=rdr T r:=rfl;rw[hfold];refine aB (Ca (dJ r) T r rfl c r' hre σ.length (by omega) hT0 hT1 _ (pz _)) fun o σ' hq=>?_;unfold pE at hq;have hst:=cW T r;rw[hs]at hst;cases hrd:cZ r with
   | err e=>
    rw[hrd]at hq;obtain⟨rfl,l',rfl⟩:=hq;have he0:=pL hrd;rw[my];simp -dsimp only[aw,seval,aP,bR,co,decide_eq_false he0]
    have hv:cR l=.err (T-(r.count 10:Nat)) e:=by
     rw[hr,hst];rw[hre]at hrd ⊢;simp only[hrd,Lx.app]
    exact az hb (v:=kE (cR l)) (by rw[hv];rfl) (by rw[hv];rfl) Sy ⟨rfl,rfl⟩
   | tok kd n len=>
    rw[hrd]at hq;obtain⟨rfl,rfl⟩:=hq;obtain⟨g1,g2⟩:=iN hrd;rw[my];simp -dsimp only[aw,seval,aP,co,decide_true,SM];refine bh (by omega) ?_;simp -dsimp only[aw,seval];refine dh (wA T (r.drop len) σ.length (by rw[SC];omega) hT0 hT1 _ (pz _)) ?_;rw[my];simp -dsimp only[aw,seval];have hsl:=(dH (r.drop len)).length_le;rw[SC]at hsl
    have hv:cR l=(fK T (bC (r.drop len))).app (acc++[g8 T r kd n len]):=by
     rw[hr,hst,js,<-vV];rw[hre]at hrd ⊢;simp only[hrd]
    have ha2:∀a b:List V,σ++[a,b]=(σ++[a])++[b]:=fun a b=>by simp
    rw[ha2];refine⟨by omega,Nxt.drop (by simp) (aq hb rfl) (by simp[au,V.under]) ⟨acc++[g8 T r kd n len],bC (r.drop len),jb _,hv,by omega,by simp;omega,?_,rfl⟩⟩;simp only[SS,SX,SY];rfl
theorem om(l:Bs)(a:Nat)(ha:a≤l.length)(hl:l.length≤1200000)(σ:LLV):Fun G 130 [.d (aj (bs l)),.d (ab a)] σ (aN (.d (ab ((l.length-(bC (l.drop a)).length:Nat):Int))) σ):=by
 refine ae Tryz.func130 Qm rfl fun hb hw=>?_;unfold KV;simp -dsimp only[aw,jW,jV,jX,jY,jZ,reduceIte,jA,reduceCtorEq,jB,jC,jD,jE,jF,jG];refine aS [0,1] (R:=fun(j:Nat) ρ σ'=>∃b:Nat,b≤l.length/\a+j≤b/\bC (l.drop b)=bC (l.drop a)/\ρ=[(0,.d (aj (bs l))),(1,aK .i64 (b:Nat))]/\σ'=σ) (l.length-a) ⟨a,ha,by omega,rfl,rfl,rfl⟩ ?_ _;rintro j ρ' σ' hj ⟨b,hbl,hab,hsk,rfl,rfl⟩;by_cases hlt:b<l.length
 .have hdb:l.drop b=l[b]::l.drop (b+1):=SN hlt;have hlt':(b:Int)<((l.length:Nat):Int):=by omega
  have hdl:=SC (l:=l) (i:=b);have hbk:xY l[b]=(l[b]==32||l[b]==9||l[b]==10):=rfl;have hnx:IntKind.i64.wrap ((b:Int)+1)=((b+1:Nat):Int):=by rw[aA (by omega) (by omega)];rfl
  cases hbl2:xY l[b]with
  | true=>
   have hs1:bC (l.drop (b+1))=bC (l.drop a):=by rw[<-hsk,hdb,dO,if_pos hbl2]
   have next:a+j<a+(l.length-a)/\Nxt σ'.length (fun ρ σ'=>∃b:Nat,b≤l.length/\a+(j+1)≤b/\bC (l.drop b)=bC (l.drop a)/\ρ=[(0,V.d (aj (bs l))),(1,aK .i64 (b:Nat))]/\σ'=σ') [(0,V.d (aj (bs l))),(1,aK .i64 ((b+1:Nat):Int))] σ' .mk:=⟨by omega,Nxt.same (SZ _) hb rfl ⟨b+1,by omega,by omega,hs1,rfl,rfl⟩⟩
   rw[hbk]at hbl2;cases e1:(l[b]==32)with
   | true=>
    simp -dsimp only[aw,jW,jV,jX,jY,jZ,reduceIte,jA,reduceCtorEq,jB,jC,jD,jE,jF,jG,aE,decide_eq_true hlt',bu,SA hlt,cj,zR,e1,hnx];exact⟨by omega,Nxt.same (SZ _) hb rfl ⟨b+1,by omega,by omega,hs1,rfl,rfl⟩⟩
   | false=>
    cases e2:(l[b]==9)with
    | true=>
     simp -dsimp only[aw,jW,jV,jX,jY,jZ,reduceIte,jA,reduceCtorEq,jB,jC,jD,jE,jF,jG,aE,decide_eq_true hlt',bu,SA hlt,cj,zR,Kb,e1,e2,hnx];exact⟨by omega,Nxt.same (SZ _) hb rfl ⟨b+1,by omega,by omega,hs1,rfl,rfl⟩⟩
    | false=>
     have e3:(l[b]==10)=true:=by rw[e1,e2]at hbl2;exact hbl2
     simp -dsimp only[aw,jW,jV,jX,jY,jZ,reduceIte,jA,reduceCtorEq,jB,jC,jD,jE,jF,jG,aE,decide_eq_true hlt',bu,SA hlt,cj,zR,Kb,rZ,e1,e2,e3,hnx];exact⟨by omega,Nxt.same (SZ _) hb rfl ⟨b+1,by omega,by omega,hs1,rfl,rfl⟩⟩
  | false=>
   have hbl3:=hbl2;rw[hbk]at hbl3;simp only[Bool.or_eq_false_iff]at hbl3;obtain⟨⟨e1,e2⟩,e3⟩:=hbl3;simp -dsimp only[aw,jW,jV,jX,jY,jZ,reduceIte,jA,reduceCtorEq,jB,jC,jD,jE,jF,jG,aE,decide_eq_true hlt',bu,SA hlt,cj,zR,Kb,rZ,e1,e2,e3];refine ac (mQ l [47,47] b hbl hl (by decide) _) ?_;cases hpre:([47,47]:Bs).isPrefixOf (l.drop b)with
   | true=>
    obtain⟨r2,hr2⟩:=List.isPrefixOf_iff_prefix.1 hpre;have hdw:(l.drop b).drop ((l.drop b).takeWhile (· != 10)).length=(l.drop b).dropWhile (· != 10):=tB _ _
    have hs1:bC (l.drop (b+((l.drop b).takeWhile (· != 10)).length))=bC (l.drop a):=by
     rw[<-SW,hdw,<-hsk,<-hr2,SK,dO 47,if_neg (by decide),if_pos ⟨rfl,rfl⟩]
    have hle:=yi (q:=(· != 10)) (l.drop b);have htp:1≤((l.drop b).takeWhile (· != 10)).length:=by rw[<-hr2,SK,SD (by decide)];simp
    have he:=xw (q:=(· != 10)) (l.drop b);have ht:=fun j=>@C9 (· != 10) (l.drop b) j;generalize ((l.drop b).takeWhile (· != 10)).length=K at *;simp -dsimp only[aw,jW,jV,jX,jY,jZ,reduceIte,jA,reduceCtorEq,jB,jC,jD,jE,jF,jG];refine aS [0,1] (R:=fun(i:Nat) ρ σ''=>ρ=[(0,.d (aj (bs l))),(1,aK .i64 ((b+i:Nat):Int))]/\σ''=σ') K ⟨rfl,rfl⟩ ?_ _;rintro i ρ' σ'' hi ⟨rfl,rfl⟩;have w1:IntKind.i64.wrap (((b+i:Nat):Int)+1)=((b+(i+1):Nat):Int):=by rw[aA (by omega) (by omega)];omega
    by_cases hik:i<K
    .obtain⟨c,h1,h2⟩:=ht i hik;rw[SF]at h1;have hx:b+i<l.length:=by omega
     have hc10:(c==10)=false:=by simpa using h2
     simp -dsimp only[aw,jW,jV,jX,jY,jZ,reduceIte,jA,reduceCtorEq,jB,jC,jD,jE,jF,jG,aE,Ss,hx,decide_true,bu,h1,cj,rZ,hc10,w1];exact⟨hik,Nxt.same (SZ _) hb rfl ⟨rfl,rfl⟩⟩
    .have hik2:i=K:=by omega
     subst hik2;rcases he with he|⟨c,h1,h2⟩
     .have hx:¬b+i<l.length:=by omega
      simp -dsimp only[aw,jW,jV,jX,jY,jZ,reduceIte,jA,reduceCtorEq,jB,jC,jD,jE,jF,jG,aE,Ss,hx,decide_false];exact⟨by omega,Nxt.same (SZ _) hb rfl ⟨b+i,by omega,by omega,hs1,rfl,rfl⟩⟩
     .rw[SF]at h1;have hx:b+i<l.length:=(List.getElem?_eq_some_iff.1 h1).1;have hc10:(c==10)=true:=by simpa using h2
      simp -dsimp only[aw,jW,jV,jX,jY,jZ,reduceIte,jA,reduceCtorEq,jB,jC,jD,jE,jF,jG,aE,Ss,hx,decide_true,bu,h1,cj,rZ,hc10];exact⟨by omega,Nxt.same (SZ _) hb rfl ⟨b+i,by omega,by omega,hs1,rfl,rfl⟩⟩
   | false=>
    simp -dsimp only[aw,jW,jV,jX,jY,jZ,reduceIte,jA,reduceCtorEq,jB,jC,jD,jE,jF,jG]
    have hs:bC (l.drop b)=l.drop b:=by
     rw[hdb,dO,if_neg (by rw[hbl2];decide),if_neg];rintro⟨h1,h2⟩;rw[hdb,h1]at hpre
     match hd2:l.drop (b+1),h2 with
     | d::r3,h2=>
      rw[hd2]at hpre;simp only[List.head?_cons,Option.some.injEq]at h2;subst h2;simp at hpre
    rw[<-hsk,hs,hdl,show l.length-(l.length-b)=b by omega];first|exact al hb rfl rfl|exact am hb rfl rfl
 .have hbe:b=l.length:=by omega
  subst hbe;simp -dsimp only[aw,jW,jV,jX,jY,jZ,reduceIte,jA,reduceCtorEq,jB,jC,jD,jE,jF,jG,aE,Sv,decide_false];rw[<-hsk,SR,fO];first|exact al hb rfl rfl|exact am hb rfl rfl
theorem rx(n:Nat)(l:Bs)(a:Nat)(hn:dJ (l.drop a)=n)(ha:a≤l.length)(hl:l.length≤1200000)(σ:LLV):Fun G 191 [.d (aj (bs l)),.d (ab a)] σ (aN (.d (aj (bs ((l.drop a).take n)))) σ):=by
 subst hn;have hmk:aM.length=36:=rfl;refine ae Tryz.func191 Q6 rfl fun hb hw=>?_;unfold MN;simp -dsimp only[aw,jW,jV,jX,jY,jZ,reduceIte,jA,reduceCtorEq,jB,jC,jD,jE,jF,jG];refine ac (oE _) ?_;simp -dsimp only[aw,jW,jV,jX,jY,jZ,reduceIte,jA,reduceCtorEq,jB,jC,jD,jE,jF,jG];generalize hrows:(gb.map fun s=>[aj s])=rows;have hlen:rows.length=36:=by rw[<-hrows];rfl
 have hd:cT gb=.sl rows:=by rw[<-hrows];rfl
 rw[hd];refine aS [0,1,5,6,7] (R:=fun(j:Nat) ρ σ'=>ρ=[(0,.d (aj (bs l))),(1,aK .i64 a),(5,.d (.sl rows)),(6,.d (aj (bs ((l.drop a).take (gA (aM.take j) 0 (l.drop a)))))),(7,aK .i64 j)]/\σ'=σ) 36 ⟨rfl,rfl⟩ ?_ _;rintro j ρ' σ' hj ⟨rfl,rfl⟩;by_cases hlt:j<36
 .have hjm:j<aM.length:=hlt;have hrj:rows[j]? = some [aj (bs aM[j])]:=by rw[<-hrows,SG,gb,SG,SA hjm];rfl
  have hlt':(j:Int)<36:=by omega
  have htk:aM.take (j+1)=aM.take j++[aM[j]]:=by rw[SP,SA hjm];rfl
  have hbs:=ma (l.drop a) (aM.take j) aM[j] 0;have hbin:=nr (aM.take j) 0 (l.drop a);rw[<-htk]at hbs;have hml:aM[j].length≤2:=(by decide:∀m,m∈aM->m.length≤2) _ (SQ hjm);generalize aM[j]=m at *;generalize hbe:gA (aM.take j) 0 (l.drop a)=best at *
  have hbl:((l.drop a).take best).length=best:=by
   rw[SI];rcases hbin with h|⟨m',h1,h2,h3⟩
   .omega
   .have:=(List.isPrefixOf_iff_prefix.1 h2).length_le;omega
  simp -dsimp only[aw,jW,jV,jX,jY,jZ,reduceIte,jA,reduceCtorEq,jB,jC,jD,jE,jF,jG,hlen,Ss,hlt,decide_true,hrj];refine ac (mQ l m a ha hl (by omega) _) ?_;cases hp:m.isPrefixOf (l.drop a)with
  | true=>
   have hpt:(l.drop a).take m.length=m:=(List.prefix_iff_eq_take.1 (List.isPrefixOf_iff_prefix.1 hp)).symm;by_cases hgt:best<m.length
   .have hgt':(best:Int)<(m.length:Nat):=by omega
    simp -dsimp only[aw,jW,jV,jX,jY,jZ,reduceIte,jA,reduceCtorEq,jB,jC,jD,jE,jF,jG,hrj,aE,hbl,decide_eq_true hgt',aT hlt (show 36≤9223372036854775807 by decide)];refine⟨hlt,Nxt.same (SZ _) hb rfl ⟨?_,rfl⟩⟩;rw[hbs,if_pos ⟨hgt,hp⟩,hpt]
   .have hgt':¬(best:Int)<(m.length:Nat):=by omega
    simp -dsimp only[aw,jW,jV,jX,jY,jZ,reduceIte,jA,reduceCtorEq,jB,jC,jD,jE,jF,jG,hrj,aE,hbl,decide_eq_false hgt',aT hlt (show 36≤9223372036854775807 by decide)];refine⟨hlt,Nxt.same (SZ _) hb rfl ⟨?_,rfl⟩⟩;rw[hbs,if_neg (fun h=>hgt h.1)]
  | false=>
   simp -dsimp only[aw,jW,jV,jX,jY,jZ,reduceIte,jA,reduceCtorEq,jB,jC,jD,jE,jF,jG,aT hlt (show 36≤9223372036854775807 by decide)];refine⟨hlt,Nxt.same (SZ _) hb rfl ⟨?_,rfl⟩⟩;rw[hbs,if_neg (fun h=>by rw[hp]at h;cases h.2)]
 .have hlt':¬(j:Int)<36:=by omega
  have hbe:gA (aM.take j) 0 (l.drop a)=dJ (l.drop a):=by rw[SO (by rw[hmk];omega)];rfl
  rw[hbe];simp -dsimp only[aw,jW,jV,jX,jY,jZ,reduceIte,jA,reduceCtorEq,jB,jC,jD,jE,jF,jG,hlen,Ss,hlt,decide_false];first|exact al hb rfl rfl|exact am hb rfl rfl
def jz(r:Bs):Rd->V
 | .err e=>.tup [bR,.d (ab e)]
 | .tok k n len=>.tup [co k n (r.take len) 0,.d (ab 0)]
theorem uh{q:UInt8->Bool}(r:Bs):r.take (r.takeWhile q).length=r.takeWhile q:=(List.prefix_iff_eq_take.1 (SB _)).symm
theorem fD{σ:LLV}{ρ:ai}{rs:List RV}{v:V}{l:LLV}(hb:ak σ.length σ=true)(h:aC (σ++l) ρ rs=some v)(hv:V.under σ.length v=true):fin σ.length rs (aN v σ) .ret ρ (σ++l):=
 az hb h hv Sy ⟨rfl,rfl⟩
theorem wX(n:Nat)(l r:Bs)(c:UInt8)(s:Bs)(a:Nat)(hr:l.drop a=r)(hc:r=c::s)(hn:dJ r=n)(hl:l.length≤1200000)(σ:LLV):Fun G 131 [.d (aj (bs l)),.d (ab a)] σ (aN (jz r (cZ r)) σ):=by
 have hal:a<l.length:=by
  rcases Nat.lt_or_ge a l.length with h|h
  .exact h
  .rw[List.drop_eq_nil_of_le h]at hr;rw[<-hr]at hc;cases hc
 have hla:l[a]? = some c:=by
  have:=SF (xs:=l) (i:=a) (j:=0);rw[hr,hc]at this;simpa using this.symm
 have hrl:r.length≤l.length-a:=by rw[<-hr,SC];exact SZ _
 have hbh:=ur l a (by omega) hl;rw[hr]at hbh;have hw1:=yi (q:=inn) r
 have hsub:rf true 0 (V.d (aj (bs l))) (some (V.d (ab (a:Int)))) (some (V.d (ab ((a+(r.takeWhile inn).length:Nat):Int))))=some (V.d (aj (bs (r.takeWhile inn)))):=by
  rw[FU l a _ (by omega),hr,uh]
 refine ae Tryz.func131 Py rfl fun hb hw=>?_;unfold ND;simp -dsimp only[aw,seval,bu,hla,cj];refine ac (kO _ _) ?_;cases hlow:eQ c.toNat with
 | true=>
  have hrd:cZ r=if 16<(r.takeWhile inn).length then .err 2 else .tok (if inB (bs (r.takeWhile inn)) ch=true then 2 else 1) 0 (r.takeWhile inn).length:=by
   rw[hc];simp only[cZ,hlow,if_true];rfl
  rw[hrd];have htk:=uh (q:=inn) r;generalize r.takeWhile inn=t at *;simp -dsimp only[aw,seval];refine ac (hbh _) ?_;simp -dsimp only[aw,seval,hsub,aE];by_cases h16:16<t.length
  .have h16':(16:Int)<(t.length:Nat):=by omega
   simp -dsimp only[aw,seval,decide_eq_true h16'];rw[if_pos h16];exact fD hb (by simp[lC,aC,bY,aO,jz,bR,co,cG,aw,seval]) rfl
  .have h16':¬(16:Int)<(t.length:Nat):=by omega
   simp -dsimp only[aw,seval,decide_eq_false h16'];rw[if_neg h16];refine ac (lT _ _) ?_;cases hkw:inB (bs t) ch with
   | true=>
    simp -dsimp only[aw,seval];exact fD hb (by simp[lC,aC,bY,aO,jz,bR,co,cG,htk,aw,seval]) rfl
   | false=>
    simp -dsimp only[aw,seval];exact fD hb (by simp[lC,aC,bY,aO,jz,bR,co,cG,htk,aw,seval]) rfl
 | false=>
  simp -dsimp only[aw,seval,bu,hla,cj];refine ac (oN _ _) ?_;cases hdig:dD c.toNat with
  | true=>
   have hrd:cZ r=if((r.takeWhile inn).all fun x=>dD x.toNat)=false\/(1<(r.takeWhile inn).length/\c=48)then .err 5 else if 2147483647<ci (r.takeWhile inn)then .err 3 else .tok 3 (ci (r.takeWhile inn)) (r.takeWhile inn).length:=by
    rw[hc];simp only[cZ,hlow,hdig,if_true,Sq,if_false]
   rw[hrd];have htk:=uh (q:=inn) r;have htc:r.takeWhile inn=c::s.takeWhile inn:=by rw[hc];exact SD (zv hdig)
   generalize r.takeWhile inn=t at *;simp -dsimp only[aw,seval];refine ac (hbh _) ?_;simp -dsimp only[aw,seval,hsub];refine ac (uL c _ t htc hdig (by omega) _) ?_;unfold nT;by_cases h5:t.all dig=false\/(1<t.length/\c=48)
   .rw[if_pos h5,if_pos (show(t.all fun x=>dD x.toNat)=false\/(1<t.length/\c=48)from h5)];simp -dsimp only[aw,seval,Su,decide_true,decide_false];exact fD hb (by simp[lC,aC,bY,aO,jz,bR,co,cG,aw,seval]) rfl
   .rw[if_neg h5,if_neg (show ¬((t.all fun x=>dD x.toNat)=false\/(1<t.length/\c=48))from h5)];by_cases h9:9223372036854775807<ci t
    .rw[if_pos h9,if_pos (by omega)];simp -dsimp only[aw,seval,Su,decide_true,decide_false];exact fD hb (by simp[lC,aC,bY,aO,jz,bR,co,cG,aw,seval]) rfl
    .rw[if_neg h9];by_cases h3:2147483647<ci t
     .have h3':(2147483647:Int)<((ci t:Nat):Int):=by omega
      rw[if_pos h3];simp -dsimp only[aw,seval,Su,decide_eq_true h3',decide_true,decide_false];exact fD hb (by simp[lC,aC,bY,aO,jz,bR,co,cG,aw,seval]) rfl
     .have h3':¬(2147483647:Int)<((ci t:Nat):Int):=by omega
      rw[if_neg h3];simp -dsimp only[aw,seval,Su,decide_eq_false h3',decide_true,decide_false];exact fD hb (by simp[lC,aC,bY,aO,jz,bR,co,cG,htk,aw,seval]) rfl
  | false=>
   have hrd:cZ r=if n=0 then .err 5 else .tok 4 0 n:=by rw[<-hn,hc];exact qH c s hlow hdig
   rw[hrd];have hbl:=(s9 r).1;rw[hn]at hbl;simp -dsimp only[aw,seval];refine ac (rx n l a (by rw[hr];exact hn) (by omega) hl _) ?_;rw[hr];by_cases hz:n=0
   .have e0:decide (bs (r.take n)=(⟨#[]⟩:ByteArray))=true:=by rw[hz];rfl
    simp -dsimp only[aw,seval,e0];rw[if_pos hz];exact fD hb (by simp[lC,aC,bY,aO,jz,bR,co,cG,aw,seval]) rfl
   .have e0:decide (bs (r.take n)=(⟨#[]⟩:ByteArray))=false:=by
     rw[decide_eq_false_iff_not];intro h;have h2:=uA.1 (h:bs (r.take n)=bs []);have h3:=congrArg List.length h2;rw[SI,SL]at h3;omega
    simp -dsimp only[aw,seval,e0];rw[if_neg hz];exact fD hb (by simp[lC,aC,bY,aO,jz,bR,co,cG,aw,seval]) rfl
theorem ub(l:Bs)(hl:l.length≤1200000)(σ:LLV):Fun G 69 [.d (aj (bs l))] σ (aN (jO l) σ):=by
 refine ae Tryz.func69 k69 rfl fun hb hw=>?_;unfold c69;by_cases hbig:16384<l.length
 .have hbig':(16384:Int)<((l.length:Nat):Int):=by omega
  simp -dsimp only[aw,seval,aE,decide_eq_true hbig'];exact az hb (v:=jO l) (by unfold jO;rw[if_pos hbig];rfl) (by unfold jO;rw[if_pos hbig];rfl) SH ⟨rfl,rfl⟩
 .have hbig':¬(16384:Int)<((l.length:Nat):Int):=by omega
  have hR:jO l=kE (cR l):=by unfold jO;rw[if_neg hbig]
  rw[hR];obtain⟨T,hT⟩:∃T:Int,T=1+(l.count 10:Nat):=⟨_,rfl⟩
  have htk:cR l=fK T l:=by rw[hT];rfl
  have hline:∀a,1+(((l.take a).count 10:Nat):Int)=T-(((l.drop a).count 10:Nat):Int):=fun a=>by
   have:l.count 10=(l.take a).count 10+(l.drop a).count 10:=by rw[<-List.count_append,List.take_append_drop]
   omega
  have hsuf:∀a,a≤l.length->l.drop (l.length-(bC (l.drop a)).length)=bC (l.drop a)/\a≤l.length-(bC (l.drop a)).length:=fun a ha=>by
   have h1:bC (l.drop a) <:+ l:=(dH _).trans (List.drop_suffix _ _);have h2:=(dH (l.drop a)).length_le;rw[SC]at h2;exact⟨(List.suffix_iff_eq_drop.1 h1).symm,by omega⟩
  simp -dsimp only[aw,seval,aE,decide_eq_false hbig'];refine ac (om l 0 (by omega) hl _) ?_;simp -dsimp only[aw,seval];have hs0:=hsuf 0 (by omega);rw[SV]at hs0;refine aS [0,5,6] (R:=fun(j:Nat) ρ σ'=>∃(acc:List Tok) (a:Nat),a≤l.length/\j≤a/\bC (l.drop a)=l.drop a/\cR l=(fK T (l.drop a)).app acc/\acc.length≤j/\ρ=[(0,.d (aj (bs l))),(5,.own 121 4 (acc.map dA)),(6,aK .i64 (a:Nat))]/\σ'=σ) l.length ⟨[],l.length-(bC l).length,by omega,by omega,by rw[hs0.1,jb],by rw[zq,hs0.1,js,htk],by simp,rfl,rfl⟩ ?_ _;rintro j ρ' σ' hj ⟨acc,a,hal,hja,hs,hr,hacc,rfl,rfl⟩;obtain⟨r,hre⟩:∃r,r=l.drop a:=⟨_,rfl⟩
  rw[<-hre]at hs hr;by_cases hlt:a<l.length
  .obtain⟨c,s,hcs⟩:∃c s,r=c::s:=⟨_,_,hre.trans (SN hlt)⟩
   have hst:=cW T r;rw[hs]at hst;have hln:=hline a;rw[<-hre]at hln;have hrl:r.length=l.length-a:=by rw[hre,SC]
   simp -dsimp only[aw,seval,aE,Ss,hlt,decide_true];refine ac (wX (dJ r) l r c s a hre.symm hcs rfl hl _) ?_;cases hrd:cZ r with
   | err e=>
    have he0:=pL hrd;simp -dsimp only[aw,seval,jz,bR,co,decide_eq_false he0];refine ac (qh l a hal hl _) ?_;rw[hln];simp -dsimp only[aw,seval]
    have hv:cR l=.err (T-(r.count 10:Nat)) e:=by
     rw[hr,hst];rw[hcs]at hrd ⊢;simp only[hrd,Lx.app]
    exact fD hb (by rw[hv];rfl) (by rw[hv];rfl)
   | tok kd n len=>
    obtain⟨g1,g2⟩:=iN hrd;simp -dsimp only[aw,seval,jz,co,decide_true];refine ac (qh l a hal hl _) ?_;rw[hln];have hlt2:(r.take len).length=len:=by rw[SI];omega
    have wa:IntKind.i64.wrap ((a:Int)+(len:Nat))=((a+len:Nat):Int):=by rw[aA (by omega) (by omega)];omega
    simp -dsimp only[aw,seval,SM];refine bh (by omega) ?_;simp -dsimp only[aw,seval,aE,hlt2,wa];refine ac (om l (a+len) (by omega) hl _) ?_;simp -dsimp only[aw,seval];obtain⟨k1,k2⟩:=hsuf (a+len) (by omega);have hdd:l.drop (a+len)=r.drop len:=by rw[hre,SW]
    have hv:cR l=(fK T (bC (l.drop (a+len)))).app (acc++[g8 T r kd n len]):=by
     rw[hr,hst,js,<-vV,hdd];rw[hcs]at hrd ⊢;simp only[hrd]
    refine⟨by omega,Nxt.drop (SZ _) hb rfl ⟨acc++[g8 T r kd n len],l.length-(bC (l.drop (a+len))).length,by omega,by omega,by rw[k1,jb],by rw[k1];exact hv,by simp;omega,?_,rfl⟩⟩;simp only[SS,SX,SY];rfl
  .have hae:a=l.length:=by omega
   have hrn:r=[]:=by rw[hre,hae,SR]
   rw[hrn,cW,fO]at hr;simp -dsimp only[aw,seval,aE,Ss,hlt,decide_false];refine az hb (v:=kE (cR l)) ?_ ?_ SH ⟨rfl,rfl⟩
   .rw[hr];simp only[Lx.app,SU,kE];rfl
   .rw[hr];rfl
end Go.Proofs.YtnhphlmblenapaaGreatDoor
