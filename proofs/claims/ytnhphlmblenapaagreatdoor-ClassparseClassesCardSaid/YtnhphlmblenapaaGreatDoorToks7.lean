import Derived.Test.YtnhphlmblenapaaGreatDoorTake7
set_option linter.unusedVariables false
set_option linter.unusedSimpArgs false
set_option linter.unusedSectionVars false
set_option maxHeartbeats 1200000
open Bool renaming false_eq_true->TJ
open Int renaming cast_ofNat_Int->TK,natCast_zero->TL,lt_irrefl->TM
open List renaming take_left->TN,takeWhile_prefix->TO,length_set->TP,length_drop->TQ,length_cons->TR,takeWhile_cons_of_pos->TS,getElem?_eq_getElem->TT,length_nil->TU,length_map->TV
namespace Go.Proofs.YtnhphlmblenapaaGreatDoor
open Go.RowKit
def cr(kind num:Int)(text:Bs)(line:Int):V:=.agg [.d (ab kind),.d (ab num),.d (ai (bs text)),.d (ab line)]
def bT:V:=cr 0 0 [] 0
theorem wR(s:Bs)(σ:LLV):Fun G 147 [.d (ai (bs s))] σ (aN (.d (.lit (.bool (inB (bs s) cj)))) σ):=
 nW Tryz.func147 (by kernel_rfl) (by kernel_rfl) trivial fun M bm pr w v hG hM h1=>by
  cases eC h1;exact(gA (bs s) w (pW hG.1 hM)).mono fun e w' ⟨h1,h2⟩=>⟨h1,h2▸Ext.refl _⟩
theorem GG(T:Int)(l:Bs)(i:Nat)(hl:l.length≤1200000)(h0:0≤T)(h1:T≤1000000000)(σ:LLV)(hi:σ[i]? = some (rdr T l)):
 Fun G 171 [.ptr i 0] σ fun o σ'=>o=.ret (.tup (if 16<(l.takeWhile inn).length then[bT,.d (ab 2)]else[cr (if inB (bs (l.takeWhile inn)) cj=true then 2 else 1) 0 (l.takeWhile inn) (T-(l.count 10:Nat)),.d (ab 0)]))/\σ'=σ.set i (rdr T (l.drop (l.takeWhile inn).length)):=by
 have hlt:i<σ.length:=(List.getElem?_eq_some_iff.1 hi).1;have htw:(l.takeWhile inn).length≤l.length:=(TO _).length_le;have htk:l.take (l.takeWhile inn).length=l.takeWhile inn:=List.prefix_iff_eq_take.1 (TO _) |>.symm
 refine ae Tryz.func171 TE rfl fun hb hw=>?_;unfold c171;have hio:=fun t=>ah hi t;unfold rdr rd at hio;simp -dsimp only[aw,seval,hio];refine ac (rP l (by omega) _) ?_;simp -dsimp only[aw,seval];refine dm (kC T l _ i htw hl h0 h1 _ (ah hi _)) ?_;rw[be hi,htk];obtain⟨σ1,hs1⟩:∃x,x=σ.set i (rdr T (l.drop (l.takeWhile inn).length)):=⟨_,rfl⟩
 have hl1:σ1.length=σ.length:=by rw[hs1,TP]
 have hb1:am σ1.length σ1=true:=by rw[hl1,hs1];exact bq hb rfl
 rw[<-hs1,<-hl1];simp -dsimp only[aw,seval,aG];by_cases h16:16<(l.takeWhile inn).length
 .have h16':(16:Int)<((l.takeWhile inn).length:Nat):=by omega
  simp -dsimp only[aw,seval,decide_eq_true h16'];rw[if_pos h16];exact bp (τ:=σ1) hb1 (v:=.tup [bT,.d (ab 2)]) (by simp[AF,aC,bZ,aQ,bT,cr,cJ,aw,seval]) rfl TN ⟨rfl,rfl⟩
 .have h16':¬(16:Int)<((l.takeWhile inn).length:Nat):=by omega
  simp -dsimp only[aw,seval,decide_eq_false h16'];rw[if_neg h16];refine ac (wR _ _) ?_;cases hkw:inB (bs (l.takeWhile inn)) cj with
  | true=>
   simp -dsimp only[aw,seval];exact bp (τ:=σ1) hb1 (v:=.tup [cr 2 0 (l.takeWhile inn) (T-(l.count 10:Nat)),.d (ab 0)]) (by simp[AF,aC,bZ,aQ,bT,cr,cJ,aw,seval]) rfl TN ⟨rfl,rfl⟩
  | false=>
   simp -dsimp only[aw,seval];exact bp (τ:=σ1) hb1 (v:=.tup [cr 1 0 (l.takeWhile inn) (T-(l.count 10:Nat)),.d (ab 0)]) (by simp[AF,aC,bZ,aQ,bT,cr,cJ,aw,seval]) rfl TN ⟨rfl,rfl⟩
theorem yS(T:Int)(c:UInt8)(r:Bs)(i:Nat)(hl:(c::r).length≤1200000)(hc:dig c=true)(h0:0≤T)(h1:T≤1000000000)(σ:LLV)(hi:σ[i]? = some (rdr T (c::r))):
 Fun G 173 [.ptr i 0] σ fun o σ'=>o=.ret (.tup (if(1<(c::r.takeWhile dig).length/\c=48)\/(r.drop (r.takeWhile dig).length).takeWhile inn≠[]then[bT,.d (ab 5)]else if 2147483647<ck (c::r.takeWhile dig)then[bT,.d (ab 3)]else[cr 3 (ck (c::r.takeWhile dig)) (c::r.takeWhile dig) (T-((c::r).count 10:Nat)),.d (ab 0)]))/\σ'=σ.set i (rdr T (r.drop (r.takeWhile dig).length)):=by
 have hlt:i<σ.length:=(List.getElem?_eq_some_iff.1 hi).1;have htc:(c::r).takeWhile dig=c::r.takeWhile dig:=TS hc;have htw:((c::r).takeWhile dig).length≤(c::r).length:=(TO _).length_le;have htk:(c::r).take ((c::r).takeWhile dig).length=(c::r).takeWhile dig:=List.prefix_iff_eq_take.1 (TO _) |>.symm
 have hdr:(c::r).drop ((c::r).takeWhile dig).length=r.drop (r.takeWhile dig).length:=by rw[htc];rfl
 have hds:∀x,x∈c::r.takeWhile dig->dig x=true:=fun x hx=>by rw[<-htc]at hx;exact List.all_eq_true.1 (List.all_takeWhile (l:=c::r) (p:=dig)) x hx
 refine ae Tryz.func173 QQ rfl fun hb hw=>?_;unfold c173;have hio:=fun t=>ah hi t;unfold rdr rd at hio;simp -dsimp only[aw,seval,hio];refine ac (Dj (c::r) (by omega) _) ?_;simp -dsimp only[aw,seval];refine dm (kC T (c::r) _ i htw hl h0 h1 _ (ah hi _)) ?_;rw[be hi,htk,hdr,htc];rw[htc]at htw;generalize htx:r.takeWhile dig=tx at *;generalize hrs:r.drop tx.length=rs at *;obtain⟨σ1,hs1⟩:∃x,x=σ.set i (rdr T rs):=⟨_,rfl⟩
 have hl1:σ1.length=σ.length:=by rw[hs1,TP]
 have hb1:am σ1.length σ1=true:=by rw[hl1,hs1];exact bq hb rfl
 have hi1:σ1[i]? = some (rdr T rs):=by rw[hs1];simp[hlt]
 have hio1:=fun t=>ah hi1 t;unfold rdr rd at hio1;rw[<-hs1,<-hl1];have hrl:rs.length≤1200000:=by rw[<-hrs,TQ];simp only[TR]at hl;omega
 simp -dsimp only[aw,seval,aG,lU,hio1]
 have e48:decide ((c.toNat:Int)=48)=decide (c=48):=by
  rw[decide_eq_decide];exact⟨fun h=>UInt8.toNat_inj.1 (by show c.toNat=48;omega),fun h=>by rw[h];rfl⟩
 have hy:((tx.length:Nat)+1:Nat)=(c::tx).length:=rfl;by_cases hx:1<(c::tx).length/\c=48
 .obtain⟨ha,hc48⟩:=hx;have ha':(1:Int)<((tx.length+1:Nat):Int):=by simp only[TR]at ha;omega
  simp -dsimp only[aw,seval,decide_eq_true ha',lU,e48,decide_eq_true hc48];rw[if_pos (.inl ⟨ha,hc48⟩)];exact bp (τ:=σ1) hb1 (v:=.tup [bT,.d (ab 5)]) (by simp[mh,aC,bZ,aQ,bT,cr,cJ,aw,seval]) rfl TN ⟨rfl,rfl⟩
 .by_cases ha:(1:Int)<((tx.length+1:Nat):Int)
  rotate_left
  .simp -dsimp only[aw,seval,decide_eq_false ha,hio1];refine ac (rP rs (by omega) _) ?_;by_cases hsp:rs.takeWhile inn=[]
   .rw[if_neg (fun h=>h.elim hx (fun h=>h hsp)),hsp];simp -dsimp only[aw,seval,TU,TL,TK,TM];have hpd:=nz (l:=c::tx) (by simp) hds;by_cases hbig:ck (c::tx)≤9223372036854775807
    .rw[if_pos hbig]at hpd;refine ac (nc (c::tx) _ (by omega) hpd (m4 hbig) _) ?_;by_cases hmx:2147483647<ck (c::tx)
     .have hmx':(2147483647:Int)<((ck (c::tx):Nat):Int):=by omega
      simp -dsimp only[aw,seval,decide_eq_true hmx'];rw[if_pos hmx];exact bp (τ:=σ1) hb1 (v:=.tup [bT,.d (ab 3)]) (by simp[mh,aC,bZ,aQ,bT,cr,cJ,aw,seval]) rfl TN ⟨rfl,rfl⟩
     .have hmx':¬(2147483647:Int)<((ck (c::tx):Nat):Int):=by omega
      simp -dsimp only[aw,seval,decide_eq_false hmx'];rw[if_neg hmx];exact bp (τ:=σ1) hb1 (v:=.tup [cr 3 (ck (c::tx)) (c::tx) (T-((c::r).count 10:Nat)),.d (ab 0)]) (by simp[mh,aC,bZ,aQ,bT,cr,cJ,aw,seval]) rfl TN ⟨rfl,rfl⟩
    .rw[if_neg hbig]at hpd;refine ac (j8 (c::tx) (by omega) hpd _) ?_;rw[if_pos (show 2147483647<ck (c::tx)by omega)];simp -dsimp only[aw,seval];exact bp (τ:=σ1) hb1 (v:=.tup [bT,.d (ab 3)]) (by simp[mh,aC,bZ,aQ,bT,cr,cJ,aw,seval]) rfl TN ⟨rfl,rfl⟩
   .rw[if_pos (.inr hsp)];have hsl:(0:Int)<((rs.takeWhile inn).length:Nat):=by have:=List.length_pos_iff.2 hsp;omega
    simp -dsimp only[aw,seval,decide_eq_true hsl];exact bp (τ:=σ1) hb1 (v:=.tup [bT,.d (ab 5)]) (by simp[mh,aC,bZ,aQ,bT,cr,cJ,aw,seval]) rfl TN ⟨rfl,rfl⟩
  .have hc48:¬c=48:=fun h=>hx ⟨by simp only[TR];omega,h⟩;simp -dsimp only[aw,seval,decide_eq_true ha,lU,e48,decide_eq_false hc48,hio1];refine ac (rP rs (by omega) _) ?_;by_cases hsp:rs.takeWhile inn=[]
   .rw[if_neg (fun h=>h.elim hx (fun h=>h hsp)),hsp];simp -dsimp only[aw,seval,TU,TL,TK,TM];have hpd:=nz (l:=c::tx) (by simp) hds;by_cases hbig:ck (c::tx)≤9223372036854775807
    .rw[if_pos hbig]at hpd;refine ac (nc (c::tx) _ (by omega) hpd (m4 hbig) _) ?_;by_cases hmx:2147483647<ck (c::tx)
     .have hmx':(2147483647:Int)<((ck (c::tx):Nat):Int):=by omega
      simp -dsimp only[aw,seval,decide_eq_true hmx'];rw[if_pos hmx];exact bp (τ:=σ1) hb1 (v:=.tup [bT,.d (ab 3)]) (by simp[mh,aC,bZ,aQ,bT,cr,cJ,aw,seval]) rfl TN ⟨rfl,rfl⟩
     .have hmx':¬(2147483647:Int)<((ck (c::tx):Nat):Int):=by omega
      simp -dsimp only[aw,seval,decide_eq_false hmx'];rw[if_neg hmx];exact bp (τ:=σ1) hb1 (v:=.tup [cr 3 (ck (c::tx)) (c::tx) (T-((c::r).count 10:Nat)),.d (ab 0)]) (by simp[mh,aC,bZ,aQ,bT,cr,cJ,aw,seval]) rfl TN ⟨rfl,rfl⟩
    .rw[if_neg hbig]at hpd;refine ac (j8 (c::tx) (by omega) hpd _) ?_;rw[if_pos (show 2147483647<ck (c::tx)by omega)];simp -dsimp only[aw,seval];exact bp (τ:=σ1) hb1 (v:=.tup [bT,.d (ab 3)]) (by simp[mh,aC,bZ,aQ,bT,cr,cJ,aw,seval]) rfl TN ⟨rfl,rfl⟩
   .rw[if_pos (.inr hsp)];have hsl:(0:Int)<((rs.takeWhile inn).length:Nat):=by have:=List.length_pos_iff.2 hsp;omega
    simp -dsimp only[aw,seval,decide_eq_true hsl];exact bp (τ:=σ1) hb1 (v:=.tup [bT,.d (ab 5)]) (by simp[mh,aC,bZ,aQ,bT,cr,cJ,aw,seval]) rfl TN ⟨rfl,rfl⟩
theorem mF(l:Bs):∀(ms:List Bs) (m:Bs) (b:Nat),gN (ms++[m]) b l=if gN ms b l<m.length/\m.isPrefixOf l=true then m.length else gN ms b l
 | [],m,b=>rfl
 | a::ms,m,b=>by simp only[List.cons_append,gN];exact mF l ms m _
theorem DT(T:Int)(l:Bs)(i:Nat)(hl:l.length≤1200000)(h0:0≤T)(h1:T≤1000000000)(σ:LLV)(hi:σ[i]? = some (rdr T l)):
 Fun G 174 [.ptr i 0] σ fun o σ'=>o=.ret (.tup (if dN l=0 then[bT,.d (ab 5)]else[cr 4 0 (l.take (dN l)) (T-(l.count 10:Nat)),.d (ab 0)]))/\σ'=σ.set i (rdr T (l.drop (dN l))):=by
 have hli:i<σ.length:=(List.getElem?_eq_some_iff.1 hi).1;have hbm:=(uB l).1;have hmk:aP.length=36:=rfl;refine ae Tryz.func174 TC rfl fun hb hw=>?_;unfold Ny;have hio:=fun t=>ah hi t;unfold rdr rd at hio;have hg:∀ρ,ev G ρ (.g 1)=.row [.sl (aP.map fun s=>[.lit (.string (bs s))])] 0:=fun _=>rfl;simp -dsimp only[aw,seval,hio,hg,TV,hmk];generalize hrows:(aP.map fun s=>[D.lit (Value.string (bs s))])=rows;have hlen:rows.length=36:=by rw[<-hrows];rfl
 refine eJ (R:=fun(j:Nat) ρ σ'=>ρ=[(0,.ptr i 0),(2,.ptr σ.length 0),(4,aF .i64 (gN (aP.take j) 0 l:Nat)),(8,.d (.sl rows)),(9,aF .i64 36),(10,aF .i64 j)]/\σ'=σ++[[.d (ab 0),.d (ab 0),.d (ai ⟨#[]⟩),.d (ab 0)]]) 36 ⟨rfl,rfl⟩ ?_ _;rintro j ρ' σ' hj ⟨rfl,rfl⟩;by_cases hlt:j<36
 .have hjm:j<aP.length:=hlt;have hrj:rows[j]? = some [D.lit (Value.string (bs aP[j]))]:=by rw[<-hrows,List.getElem?_map,TT hjm];rfl
  have hlt':(j:Int)<36:=by omega
  have htk:aP.take (j+1)=aP.take j++[aP[j]]:=by rw[List.take_add_one,TT hjm];rfl
  have hbs:=mF l (aP.take j) aP[j] 0;rw[<-htk]at hbs;generalize hm:aP[j]=m at *;generalize hbe:gN (aP.take j) 0 l=best at *;have hml:m.length≤2:=(by decide:∀m,m∈aP->m.length≤2) m (hm▸List.getElem_mem hjm)
  have next:∀b:Nat,gN (aP.take (j+1)) 0 l=b->j<36/\Nxt σ.length (fun ρ σ'=>ρ=[(0,V.ptr i 0),(2,V.ptr σ.length 0),(4,aF IntKind.i64 (gN (List.take (j+1) aP) 0 l:Nat)),(8,V.d (D.sl rows)),(9,aF IntKind.i64 36),(10,aF IntKind.i64 ((j+1:Nat):Int))]/\σ'=σ++[[V.d (ab 0),V.d (ab 0),V.d (ai {data := #[]}),V.d (ab 0)]]) [(0,.ptr i 0),(2,.ptr σ.length 0),(4,aF .i64 b),(8,.d (.sl rows)),(9,aF .i64 36),(10,aF .i64 ((j+1:Nat):Int))] (σ++[[.d (ab 0),.d (ab 0),.d (ai ⟨#[]⟩),.d (ab 0)]]) .mk:=fun b h=>
   ⟨hlt,Nxt.same (by simp) (aq hb rfl) (by simp[an,V.under];omega) ⟨by rw[h],rfl⟩⟩
  simp -dsimp only[aw,seval,decide_eq_true hlt',hrj,hio,aG];by_cases hgt:best<m.length
  .have hgt':(best:Int)<(m.length:Nat):=by omega
   simp -dsimp only[aw,seval,decide_eq_true hgt',hio];refine ac (mf l m _) ?_;cases hp:m.isPrefixOf l with
   | true=>
    simp -dsimp only[aw,seval,aG,aJ hlt (by decide)];exact next _ (by rw[hbs,if_pos ⟨hgt,hp⟩])
   | false=>
    simp -dsimp only[aw,seval,aJ hlt (by decide)];exact next _ (by rw[hbs,if_neg (fun h=>by rw[hp]at h;cases h.2)])
  .have hgt':¬(best:Int)<(m.length:Nat):=by omega
   simp -dsimp only[aw,seval,decide_eq_false hgt',aJ hlt (by decide)];exact next _ (by rw[hbs,if_neg (fun h=>hgt h.1)])
 .have hlt':¬(j:Int)<36:=by omega
  simp -dsimp only[aw,seval,decide_eq_false hlt',hio];have hbe:gN (aP.take j) 0 l=dN l:=by rw[List.take_of_length_le (by rw[hmk];omega)];rfl
  rw[hbe];by_cases hz:dN l=0
  .have hz':((dN l:Nat):Int)=0:=by omega
   have hself:σ.set i (rdr T (l.drop (dN l)))=σ:=by
    rw[hz,List.drop_zero,<-(List.getElem?_eq_some_iff.1 hi).2];exact List.set_getElem_self hli
   simp -dsimp only[aw,seval,decide_eq_true hz'];rw[if_pos hz,hself];exact bp (τ:=σ) hb (v:=.tup [bT,.d (ab 5)]) (by simp[DL,aC,bZ,aQ,bT,cr,cJ,aw,seval]) rfl TN ⟨rfl,rfl⟩
  .have hz':¬((dN l:Nat):Int)=0:=by omega
   simp -dsimp only[aw,seval,decide_eq_false hz',hio];refine dm (kC T l _ i hbm hl h0 h1 _ (ah hi _)) ?_;rw[be hi,if_neg hz];obtain⟨σ1,hs1⟩:∃x,x=σ.set i (rdr T (l.drop (dN l))):=⟨_,rfl⟩
   have hl1:σ1.length=σ.length:=by rw[hs1,TP]
   have hb1:am σ1.length σ1=true:=by rw[hl1,hs1];exact bq hb rfl
   rw[<-hs1,<-hl1];simp -dsimp only[aw,seval];exact bp (τ:=σ1) hb1 (v:=.tup [cr 4 0 (l.take (dN l)) (T-(l.count 10:Nat)),.d (ab 0)]) (by simp[DL,aC,bZ,aQ,bT,cr,cJ,aw,seval]) rfl TN ⟨rfl,rfl⟩
def rS(T:Int)(l:Bs)(i:Nat)(σ:LLV)(o:Out)(σ':LLV):Prop:=match c7 l with
 | .err e=>o=.ret (.tup [bT,.d (ab e)])/\∃l',σ'=σ.set i (rdr T l')
 | .tok k n len=>o=.ret (.tup [cr k n (l.take len) (T-(l.count 10:Nat)),.d (ab 0)])/\σ'=σ.set i (rdr T (l.drop len))
theorem qL(c:UInt8)(r:Bs)(h1:ff c.toNat=false)(h2:dG c.toNat=false):c7 (c::r)=if dN (c::r)=0 then .err 5 else .tok 4 0 (dN (c::r)):=by
 simp only[c7,h1,h2,TJ,if_false]
theorem Ci(c:Int)(σ:LLV):Fun G 170 [.d (.lit (.int .i32 c))] σ (aN (.d (.lit (.bool (ff c)))) σ):=
 qC Tryz.func170 (by kernel_rfl) (by kernel_rfl) trivial fun pr w _=>(dX c w).mono fun e w' ⟨h1,h2⟩=>⟨h1,h2▸Ext.refl _⟩
theorem AJ(c:Int)(σ:LLV):Fun G 172 [.d (.lit (.int .i32 c))] σ (aN (.d (.lit (.bool (dG c)))) σ):=
 qC Tryz.func172 (by kernel_rfl) (by kernel_rfl) trivial fun pr w _=>(f6 c w).mono fun e w' ⟨h1,h2⟩=>⟨h1,h2▸Ext.refl _⟩
theorem Bc(n:Nat)(T:Int)(l:Bs)(hn:dN l=n)(i:Nat)(hl:l.length≤1200000)(h0:0≤T)(h1:T≤1000000000)(σ:LLV)(hi:σ[i]? = some (rdr T l)):
 Fun G 174 [.ptr i 0] σ fun o σ'=>o=.ret (.tup (if n=0 then[bT,.d (ab 5)]else[cr 4 0 (l.take n) (T-(l.count 10:Nat)),.d (ab 0)]))/\σ'=σ.set i (rdr T (l.drop n)):=by
 have h:=DT T l i hl h0 h1 σ hi;rw[hn]at h;exact h
theorem Cu(n:Nat)(T:Int)(l0:Bs)(hn:dN l0=n)(c:UInt8)(r:Bs)(he:l0=c::r)(i:Nat)(hl:l0.length≤1200000)(h0:0≤T)(h1:T≤1000000000)(σ:LLV)(hi:σ[i]? = some (rdr T l0)):
 Fun G 116 [.ptr i 0] σ (rS T l0 i σ):=by
 have hix:ixV (V.d (ai (bs l0))) (V.d (.lit (.int .i64 0)))=some (aF .u8 c.toNat):=by rw[he];exact lU c r
 have hlt:i<σ.length:=(List.getElem?_eq_some_iff.1 hi).1;refine ae Tryz.func116 QX rfl fun hb hw=>?_;unfold O0;have hio:=fun t=>ah hi t;unfold rdr rd at hio;simp -dsimp only[aw,seval,hio,hix];rw[FP _ c.toNat_lt];refine ac (Ci _ _) ?_
 have fin1:∀(X:List V) (σ1:LLV) (k n:Int) (tx:Bs) (ln e:Int) (B:List V),σ1.length=σ.length->σ1=σ.set i X->am σ1.length σ1=true->rS T l0 i σ (.ret (.tup [cr k n tx ln,.d (ab e)])) σ1->
  fin σ1.length FA (rS T l0 i σ) .ret [(2,.ptr σ1.length 0),(3,.d (ab e))] (σ1++[[.d (ab k),.d (ab n),.d (ai (bs tx)),.d (ab ln)]]):=fun X σ1 k n tx ln e B g1 g2 g3 g4=>
  bp (τ:=σ1) g3 (v:=.tup [cr k n tx ln,.d (ab e)]) (by simp[FA,aC,bZ,aQ,cr,aw,seval]) rfl TN g4
 cases hlow:ff c.toNat with
 | true=>
  subst he;simp -dsimp only[aw,seval];refine dm (GG T (c::r) i hl h0 h1 _ (ah hi _)) ?_;rw[be hi];obtain⟨σ1,hs1⟩:∃x,x=σ.set i (rdr T ((c::r).drop ((c::r).takeWhile inn).length)):=⟨_,rfl⟩
  have hl1:σ1.length=σ.length:=by rw[hs1,TP]
  have hb1:am σ1.length σ1=true:=by rw[hl1,hs1];exact bq hb rfl
  rw[<-hs1,<-hl1];have htk:(c::r).take ((c::r).takeWhile inn).length=(c::r).takeWhile inn:=List.prefix_iff_eq_take.1 (TO _) |>.symm
  by_cases h16:16<((c::r).takeWhile inn).length
  .rw[if_pos h16];simp -dsimp only[aw,seval,bT,cr];refine fin1 _ σ1 0 0 [] 0 2 [] hl1 hs1 hb1 ?_;unfold rS;simp only[c7,hlow,if_true,h16];exact⟨rfl,_,hs1⟩
  .rw[if_neg h16];simp -dsimp only[aw,seval,bT,cr];refine fin1 _ σ1 _ 0 ((c::r).takeWhile inn) _ 0 [] hl1 hs1 hb1 ?_;unfold rS;simp only[c7,hlow,if_true,h16,if_false];exact⟨by rw[htk];rfl,hs1⟩
 | false=>
  simp -dsimp only[aw,seval];refine ac (AJ _ _) ?_;cases hdig:dG c.toNat with
  | true=>
   subst he;simp -dsimp only[aw,seval];refine dm (yS T c r i hl hdig h0 h1 _ (ah hi _)) ?_;rw[be hi];obtain⟨σ1,hs1⟩:∃x,x=σ.set i (rdr T (r.drop (r.takeWhile dig).length)):=⟨_,rfl⟩
   have hl1:σ1.length=σ.length:=by rw[hs1,TP]
   have hb1:am σ1.length σ1=true:=by rw[hl1,hs1];exact bq hb rfl
   rw[<-hs1,<-hl1];have htc:(c::r).takeWhile dig=c::r.takeWhile dig:=TS hdig;have hdr:(c::r).drop ((c::r).takeWhile dig).length=r.drop (r.takeWhile dig).length:=by rw[htc];rfl
   have hall:((c::r).takeWhile inn).all dig=((c::r).takeWhile inn).all fun x=>dG x.toNat:=rfl;have hsp:=v8 (c::r);rw[hdr,htc]at hsp;by_cases hA:(1<(c::r.takeWhile dig).length/\c=48)\/(r.drop (r.takeWhile dig).length).takeWhile inn≠[]
   .rw[if_pos hA];simp -dsimp only[aw,seval,bT,cr];refine fin1 _ σ1 0 0 [] 0 5 [] hl1 hs1 hb1 ?_
    have hcond:(((c::r).takeWhile inn).all fun x=>dG x.toNat)=false\/(1<((c::r).takeWhile inn).length/\c=48):=by
     rcases hsp with⟨g1,g2,g3⟩|⟨g1,g2⟩
     .refine .inr ?_;rw[<-g2];exact hA.elim id (fun h=>absurd g3 h)
     .exact .inl g1
    unfold rS;simp only[c7,hlow,hdig,if_true,TJ,if_false,hcond];exact⟨rfl,_,hs1⟩
   .rw[if_neg hA]
    have hsp1:((c::r).takeWhile inn).all dig=true/\c::r.takeWhile dig=(c::r).takeWhile inn:=by
     rcases hsp with⟨g1,g2,g3⟩|⟨g1,g2⟩
     .exact⟨g1,g2⟩
     .exact absurd (.inr g2) hA
    have hcond:¬((((c::r).takeWhile inn).all fun x=>dG x.toNat)=false\/(1<((c::r).takeWhile inn).length/\c=48)):=by
     rintro(h|h)
     .rw[<-hall,hsp1.1]at h;cases h
     .rw[<-hsp1.2]at h;exact hA (.inl h)
    have hdr2:r.drop (r.takeWhile dig).length=(c::r).drop ((c::r).takeWhile inn).length:=by rw[<-hsp1.2];rfl
    have htk:(c::r).take ((c::r).takeWhile inn).length=(c::r).takeWhile inn:=List.prefix_iff_eq_take.1 (TO _) |>.symm
    rw[hsp1.2];rw[hdr2]at hs1;by_cases hB:2147483647<ck ((c::r).takeWhile inn)
    .rw[if_pos hB];simp -dsimp only[aw,seval,bT,cr];refine fin1 _ σ1 0 0 [] 0 3 [] hl1 hs1 hb1 ?_;unfold rS;simp only[c7,hlow,hdig,if_true,TJ,if_false,hcond,hB];exact⟨rfl,_,hs1⟩
    .rw[if_neg hB];simp -dsimp only[aw,seval,bT,cr];refine fin1 _ σ1 _ _ ((c::r).takeWhile inn) _ 0 [] hl1 hs1 hb1 ?_;unfold rS;simp only[c7,hlow,hdig,if_true,TJ,if_false,hcond,hB];exact⟨by rw[htk],hs1⟩
  | false=>
   simp -dsimp only[aw,seval];have hrd:c7 l0=if n=0 then .err 5 else .tok 4 0 n:=by rw[<-hn,he];exact qL c r hlow hdig
   refine dm (Bc n T l0 hn i hl h0 h1 _ (ah hi _)) ?_;rw[be hi];obtain⟨σ1,hs1⟩:∃x,x=σ.set i (rdr T (l0.drop n)):=⟨_,rfl⟩
   have hl1:σ1.length=σ.length:=by rw[hs1,TP]
   have hb1:am σ1.length σ1=true:=by rw[hl1,hs1];exact bq hb rfl
   rw[<-hs1,<-hl1];by_cases hz:n=0
   .rw[if_pos hz];rw[if_pos hz]at hrd;simp -dsimp only[aw,seval,bT,cr];refine fin1 _ σ1 0 0 [] 0 5 [] hl1 hs1 hb1 ?_;unfold rS;rw[hrd];exact⟨rfl,_,hs1⟩
   .rw[if_neg hz];rw[if_neg hz]at hrd;simp -dsimp only[aw,seval,bT,cr];refine fin1 _ σ1 4 0 (l0.take n) _ 0 [] hl1 hs1 hb1 ?_;unfold rS;rw[hrd];exact⟨rfl,hs1⟩
theorem aR{K P:V->LLV->Prop}{v:V}{σ:LLV}:FW K P (.ret v) σ=K v σ:=rfl
def di(t:Tok):List D:=[ab t.kind,ab t.num,ai t.text,ab t.line]
def kB:Lx->V
 | .ok ts=>.tup [.d (.sl (ts.map di)),.d (ab 0),.d (ab 0)]
 | .err n e=>.tup [.d (.sl []),.d (ab n),.d (ab e)]
def kf(l:Bs):V:=if 16384<l.length then .tup [.d (.sl []),.d (ab 0),.d (ab 2)]else kB (cS l)
theorem qR{l:Bs}{e:Int}(h:c7 l=.err e):e≠0:=by
 match l with
 | []=>cases h;decide
 | c::r=>
  simp only[c7]at h;split at h
  .split at h<;>cases h<;>decide
  .split at h
   .split at h
    .cases h;decide
    .split at h<;>cases h<;>decide
   .split at h<;>cases h<;>decide
theorem jv(N:Int)(l:Bs):fV N (bE l)=fV N l:=by rw[cX,cX N l,jk]
theorem wB(x:Lx)(t:Tok)(a:List Tok):(x.cons t).app a=x.app (a++[t]):=by cases x<;>simp[Lx.cons,Lx.app]
theorem Aj(x:Lx):x.app []=x:=by cases x<;>rfl
theorem rz(l:Bs)(hl:l.length≤1200000)(σ:LLV):Fun G 58 [.d (ai (bs l))] σ (aN (kf l) σ):=by
 have hcl:l.count 10≤l.length:=List.count_le_length;refine ae Tryz.func58 k58 rfl fun hb hw=>?_;unfold c58;by_cases hbig:16384<l.length
 .have hbig':(16384:Int)<((l.length:Nat):Int):=by omega
  simp -dsimp only[aw,seval,aG,decide_eq_true hbig'];exact az hb (v:=kf l) (by unfold kf;rw[if_pos hbig];rfl) (by unfold kf;rw[if_pos hbig];rfl) List.take_length ⟨rfl,rfl⟩
 .have hbig':¬(16384:Int)<((l.length:Nat):Int):=by omega
  have hR:kf l=kB (cS l):=by unfold kf;rw[if_neg hbig]
  rw[hR];obtain⟨T,hT⟩:∃T:Int,T=1+(l.count 10:Nat):=⟨_,rfl⟩
  have hT0:0≤T:=by omega
  have hT1:T≤1000000000:=by omega
  have htk:cS l=fV T l:=by rw[hT];rfl
  have h1:(1:Int)=T-(l.count 10:Nat):=by omega
  have hbox:[V.d (ai (bs l)),V.d (ab 1)]=rdr T l:=by unfold rdr rd;rw[h1]
  simp -dsimp only[aw,seval,aG,decide_eq_false hbig',hbox];refine dm (wZ T l σ.length hl hT0 hT1 _ (p5 _)) ?_;rw[nF];simp -dsimp only[aw,seval];refine eJ (R:=fun(j:Nat) ρ σ'=>∃(acc:List Tok) (r:Bs),bE r=r/\cS l=(fV T r).app acc/\r.length+j≤l.length/\acc.length≤j/\ρ=[(5,.ptr σ.length 0),(6,.own 121 4 (acc.map di))]/\σ'=σ++[rdr T r]) l.length ⟨[],bE l,jk l,by rw[Aj,jv,htk],by have:=(dI l).length_le;omega,by simp,rfl,rfl⟩ ?_ _;rintro j ρ' σ' hj ⟨acc,r,hs,hr,hrl,hal,rfl,rfl⟩
  match hre:r with
  | []=>
   simp -dsimp only[aw,seval,rdr,rd,ut];refine az hb (v:=kB (cS l)) ?_ ?_ TN ⟨rfl,rfl⟩
   .rw[hr,cX,gx];simp only[Lx.app,List.append_nil,kB];rfl
   .rw[hr,cX,gx];rfl
  | c::r'=>
   have hnil:=yC c r';simp -dsimp only[aw,seval,rdr,rd,hnil];rw[<-hre]at hs hr hrl ⊢;have hfold:[V.d (ai (bs r)),V.d (ab (T-(r.count 10:Nat)))]=rdr T r:=rfl;rw[hfold];refine aB (Cu (dN r) T r rfl c r' hre σ.length (by omega) hT0 hT1 _ (p5 _)) fun o σ' hq=>?_;unfold rS at hq;have hst:=cX T r;rw[hs]at hst;cases hrd:c7 r with
   | err e=>
    rw[hrd]at hq;obtain⟨rfl,l',rfl⟩:=hq;have he0:=qR hrd;rw[nF];simp -dsimp only[aw,seval,aR,bT,cr,decide_eq_false he0]
    have hv:cS l=.err (T-(r.count 10:Nat)) e:=by
     rw[hr,hst];rw[hre]at hrd ⊢;simp only[hrd,Lx.app]
    exact az hb (v:=kB (cS l)) (by rw[hv];rfl) (by rw[hv];rfl) TN ⟨rfl,rfl⟩
   | tok kd n len=>
    rw[hrd]at hq;obtain⟨rfl,rfl⟩:=hq;obtain⟨g1,g2⟩:=jh hrd;rw[nF];simp -dsimp only[aw,seval,aR,cr,TV];refine bg (by omega) ?_;simp -dsimp only[aw,seval];refine dm (wZ T (r.drop len) σ.length (by rw[TQ];omega) hT0 hT1 _ (p5 _)) ?_;rw[nF];simp -dsimp only[aw,seval];have hsl:=(dI (r.drop len)).length_le;rw[TQ]at hsl
    have hv:cS l=(fV T (bE (r.drop len))).app (acc++[iH T r kd n len]):=by
     rw[hr,hst,jv,<-wB];rw[hre]at hrd ⊢;simp only[hrd]
    have ha2:∀a b:List V,σ++[a,b]=(σ++[a])++[b]:=fun a b=>by simp
    rw[ha2];refine⟨by omega,Nxt.drop (by simp) (aq hb rfl) (by simp[an,V.under]) ⟨acc++[iH T r kd n len],bE (r.drop len),jk _,hv,by omega,by simp;omega,?_,rfl⟩⟩;simp only[List.map_append,List.map_cons,List.map_nil];rfl
end Go.Proofs.YtnhphlmblenapaaGreatDoor
