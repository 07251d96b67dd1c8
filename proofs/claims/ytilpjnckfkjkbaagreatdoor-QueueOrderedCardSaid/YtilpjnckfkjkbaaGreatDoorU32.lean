/- Part 32 of the walks (own work). -/
import Derived.Test.YtilpjnckfkjkbaaGreatDoorU31
open Bool renaming and_eq_true→az,eq_iff_iff→gI,false_and→bd,not_eq_true→lM,not_eq_true'→bl,true_and→bf
open List renaming append_nil→af,getElem?_append_right→al,getElem?_eq_getElem→aj,getElem?_map→aO,getElem?_zip_eq_some→nV,getElem_mem→gQ,length_map→ao,mem_cons→bW,mem_filter→fm,mem_iff_getElem?→qu,mem_map→bI,mem_range→eX,not_mem_nil→cE,replicate→au
open Nat renaming le_refl→aw,sub_self→d9,zero_le→aV
open Option renaming getD_some→fE
open Go.Proofs.Tryz renaming prog→aa
set_option maxRecDepth 100000
set_option maxHeartbeats 4000000
set_option linter.unusedSimpArgs false
set_option linter.unusedVariables false
open Go.Proofs.Tryz (f13 f18 f25 f41)
namespace Go.Dv
open Go.Proofs
attribute [local congr] aA bC aT bB bD
open Qu (off di jU l7 nxt aft lX bef)
def fH:Con:=⟨1,false,1,1,0,0,0⟩
theorem z27:d8 aa 27=some (.agg [I 0,.bool false,I 0,I 0,I 0,I 0,I 0]):=by kernel_rfl
theorem abd:iV aa 27 [(0,I 1),(2,I 1),(3,I 1)]=some (.agg [I 1,.bool false,I 1,I 1,I 0,I 0,I 0]):=by kernel_rfl
theorem Sl (H:AH) (i k:Nat):ldA aa 27 H i k=(ak H i k 7).map .agg:=by kernel_rfl
theorem V1 (H:AH):Ev aa C0 W0 41 [] H=some (.agg (fx fH),H++[.cells (fx fH) 27]):=by
 have g0:(([]:List AV)++au (2 - ([]:List AV).length) uA).length=2:=by simp
 rw [adf];generalize ([]:List AV)++au (2 - ([]:List AV).length) uA=tm at *;simp -implicitDefEqProofs only [c41,f41,aP,g0,z27,abd,abN,acq,Sl,show ∀ o,put none H o=some (H.length,H++[o]) from fun _=>rfl,fH,fx,↓zzC,zzE,sevalprocAttr]
def iP (cs:List Cod) (ss:List (List Itm)) (i j:Nat):Bool:=!lN cs (bo ss.flatten i) (bo ss.flatten j) || bef (qS ss) i j || bef (qS ss) j i
theorem JL {ss:List (List Itm)} {i j:Nat} {seen:List Nat} (hi:i < ss.flatten.length) (hj:j < ss.flatten.length) (h:∀ y,y∈seen↔Qu.TG (Qu.EA (aft (qS ss))) i y):seen.contains j=bef (qS ss) i j:=by
 have hN:(qS ss).flatten.length=ss.flatten.length:=by rw [gM,ao]
 rw [gI,List.contains_iff_mem,h j];exact Qu.uI (by omega) (by omega)
theorem TF {H:AH} {ss:List (List Itm)} {iv av:AV} {n:Nat} (hic:iv.cells=[iv]/\iv.one=true) (hac:av.cells=[av]/\av.one=true) (haft:m8 H (aft (qS ss)) av) (hn:n < ss.flatten.length) (hfew:ss.flatten.length<=1000):∃ mb K,Ev aa C0 W0 44 [.agg [iv,av],I n] H=some (.map mb,K)/\an H K/\∀ j L,j < ss.flatten.length->iJ aa 95 (.map mb) (I (j:Int)) false (K++L)=some (.bool (bef (qS ss) n j)):=by
 have hN:(qS ss).flatten.length=ss.flatten.length:=by rw [gM,ao]
 obtain ⟨mb,K,seen,h1,h2,_,h3,h4⟩:=aeE (N:=ss.flatten.length) (n:=n) hic hac haft (by rw [Qu.Hr,hN]) (fun l hl y hy=>by rw [<-hN]; exact Qu.OH l hl y hy) (fun l hl=>by unfold aft at hl;obtain ⟨m,hm,rfl⟩:=bI.1 hl;exact Nat.lt_of_le_of_lt (zj _ _ _) (by omega)) hn (by omega);refine ⟨mb,K,h1,h2,fun j L hj=>?_⟩;rw [Yt (l:=seen) (c:=seen.length) (by rw [List.getElem?_append_left (aI h3)]; exact h3),JL hn hj h4]
theorem U9 {G:AH} {cs:List Cod} {m:List (List Int)} {ss:List (List Itm)} {vc iv av:AV} {a:Nat} (hc:dy G cs vc) (hcp:∀ c∈cs,c.params.length<=6) (hI:eD G ss.flatten iv) (hrt:∀ x∈ss.flatten,cC cs m x=true) (haf:m8 G (aft (qS ss)) av) (hic:iv.cells=[iv]/\iv.one=true) (hac:av.cells=[av]/\av.one=true) (hfew:ss.flatten.length<=1000) (hpa:G[a]? =some (.cells [iv,av] 93)) {i c:Nat} {w va:AV} (hiN:i < ss.flatten.length) (hcx:G[c]? =some (.cells (aJ (bo ss.flatten i) va) 34)) (hsx:SlS 32 1 G va ((bo ss.flatten i).args.map dH)) (hw:∀ j kk,j < i->aC aa 31 w (.int kk (j:Nat))=aC aa 31 iv (.int kk (j:Nat))):∀ (d j:Nat) (tm:List AV) (K:AH),i - j=d->j<=i->an G K->tm.length=64->tm.getD 0 uA=vc->tm.getD 9 uA=.ptr a 0->tm.getD 10 uA=I (i:Nat)->tm.getD 11 uA=.ptr c 0->tm.getD 25 uA=iv->tm.getD 26 uA=I (ss.flatten.length:Nat)->tm.getD 27 uA=I (i:Nat)->tm.getD 35 uA=w->tm.getD 36 uA=I (i:Nat)->tm.getD 37 uA=I ((j:Nat):Int) ->
   (ck (fun j=>iP cs ss i j) i j=true->∃ X K1,EvC aa C0 W0 plN yy (tm,K)=some (.exit 2,(X,K1))/\X.length=64/\an G K1/\X.getD 0 uA=vc/\X.getD 9 uA=.ptr a 0/\X.getD 10 uA=I (i:Nat)/\X.getD 11 uA=.ptr c 0/\X.getD 25 uA=iv/\X.getD 26 uA=I (ss.flatten.length:Nat)/\X.getD 27 uA=I (i:Nat)/\X.getD 35 uA=w/\X.getD 36 uA=I (i:Nat))/\(ck (fun j=>iP cs ss i j) i j=false->∃ Y K1,EvC aa C0 W0 plN yy (tm,K)=some (.ret,(Y,K1))/\Y.getD 6 uA=.bool false/\Y.getD 7 uA=I 0):=by
 intro d;induction d with
 | zero =>
   intro j tm K hd hj hA hlen h0 h9 h10 h11 h25 h26 h27 h35 h36 h37;have hjl:j=i:=by omega
   subst hjl;have hlt:ltB (j:Int) (j:Nat)=false:=cw (by omega);rw [dk (aw _),NZ];refine ⟨fun _=>?_,fun h=>(by cases h)⟩;simp -implicitDefEqProofs only [y5,f18,aP,hlen,h0,h9,h10,h11,h25,h26,h27,h35,h36,h37,hlt,↓zzA,zzB,sevalprocAttr];exact ⟨_,K,rfl,by simp only [ls,hlen],hA,by simp only [hlen,h0,h9,h10,h11,h25,h26,h27,h35,h36,gB,and_self,sevalprocAttr]⟩
 | succ d ih =>
   intro j tm K hd hj hA hlen h0 h9 h10 h11 h25 h26 h27 h35 h36 h37;have hjN:j < i:=by omega
   have hjF:j < ss.flatten.length:=by omega
   have hlt:ltB (j:Int) (i:Nat)=true:=cu (by omega);have hwi:=b6 (j:=j) (by omega);obtain ⟨i0,k0,vb,hix,hrd,hsy⟩:=hI.at hA hjF;have hix':∀ kk,aC aa 31 w (.int kk (j:Nat))=some (.ptr i0 k0):=fun kk=>(hw j kk hjN).trans (hix kk);have hall:=cK (p:=(fun j=>iP cs ss i j)) hjN;have hrx:=hrt _ (fA hiN);have hry:=hrt _ (fA hjF);have hyc:=hsy.cells;have hyo:=hsy.one;have hxr:∀ L,ak (K++L) c 0 9=some (aJ (bo ss.flatten i) va):=fun L=>(hA.bX L).sub.rd (by unfold ak; rw [hcx]; rfl);have hpr:∀ K2,an G K2->∀ L,ak (K2++L) a 0 2=some [iv,av]:=fun K2 h2 L=>(h2.bX L).sub.rd (by unfold ak; rw [hpa]; rfl);have hA1:an G (K++[.cells (aJ (bo ss.flatten j) vb) 34]):=hA.bX _;have h43:=aeF (hc.aZ hA1) hcp (hsx.same hA1) (hsy.same hA1) hrx hry;obtain ⟨mb1,K2,h44a,hA2,hlk1⟩:=TF hic hac (haf.sub hA1.sub) hiN hfew;have hA2G:=hA1.trans hA2;obtain ⟨mb2,K3,h44b,hA3,hlk2⟩:=TF hic hac (haf.sub hA2G.sub) hjF hfew;have hp0:=hpr K hA;have hp2:=hpr K2 hA2G [];have hl1:=hlk1 j [] hjF;have hl2:=hlk2 i [] hiN;rw [af] at hp2 hl1 hl2;have hput:∀ o,put none K o=some (K.length,K++[o]):=fun _=>rfl;rw [NZ];rw [<-af K];have hoP:iP cs ss i j=(!lN cs (bo ss.flatten i) (bo ss.flatten j) || bef (qS ss) i j || bef (qS ss) j i):=rfl;generalize bo ss.flatten i=x at *;generalize bo ss.flatten j=y at *;simp only [aJ] at hrd hxr h43 h44a;cases hT:lN cs x y with
   | false =>
     rw [hT] at hoP;rw [show iP cs ss i j=true from hoP,bf] at hall;simp -implicitDefEqProofs only [y5,f18,aP,hlen,h0,h9,h10,h11,h25,h26,h27,h35,h36,h37,hlt,hix',hrd,hwi,sK,ed,↓hyc,↓hyo,hput,hxr,↓Rh,↓Rg,h43,hT,EX,hp0,↓zzC,zzE,sevalprocAttr];generalize hX:EvC aa C0 W0 _ _ _=Z;have key:∀ (tm1:List AV) (K1:AH),EvC aa C0 W0 plN yy (tm1,K1)=Z->an G K1->tm1.length=64->tm1.getD 0 uA=vc->tm1.getD 9 uA=.ptr a 0->tm1.getD 10 uA=I (i:Nat)->tm1.getD 11 uA=.ptr c 0->tm1.getD 25 uA=iv->tm1.getD 26 uA=I (ss.flatten.length:Nat)->tm1.getD 27 uA=I (i:Nat)->tm1.getD 35 uA=w->tm1.getD 36 uA=I (i:Nat)->tm1.getD 37 uA=I ((j+1:Nat):Int)->(ck (fun j=>iP cs ss i j) i (j+1)=true->∃ X K1,Z=some (.exit 2,(X,K1))/\X.length=64/\an G K1/\X.getD 0 uA=vc/\X.getD 9 uA=.ptr a 0/\X.getD 10 uA=I (i:Nat)/\X.getD 11 uA=.ptr c 0/\X.getD 25 uA=iv/\X.getD 26 uA=I (ss.flatten.length:Nat)/\X.getD 27 uA=I (i:Nat)/\X.getD 35 uA=w/\X.getD 36 uA=I (i:Nat))/\(ck (fun j=>iP cs ss i j) i (j+1)=false->∃ Y K1,Z=some (.ret,(Y,K1))/\Y.getD 6 uA=.bool false/\Y.getD 7 uA=I 0):=by intro tm1 K1 h hA1 hl1 h0 h9 h10 h11 h25 h26 h27 h35 h36 h37;rw [<-h];exact ih (j+1) tm1 K1 (by omega) (by omega) hA1 hl1 h0 h9 h10 h11 h25 h26 h27 h35 h36 h37
     rw [hall];exact key _ _ hX (hA.bX _) (by simp only [ls,hlen]) (by simp only [hlen,h0,gB,sevalprocAttr]) (by simp only [hlen,h9,gB,sevalprocAttr]) (by simp only [hlen,h10,gB,sevalprocAttr]) (by simp only [hlen,h11,gB,sevalprocAttr]) (by simp only [hlen,h25,gB,sevalprocAttr]) (by simp only [hlen,h26,gB,sevalprocAttr]) (by simp only [hlen,h27,gB,sevalprocAttr]) (by simp only [hlen,h35,gB,sevalprocAttr]) (by simp only [hlen,h36,gB,sevalprocAttr]) (by simp only [hlen,gB,sevalprocAttr])
   | true =>
     cases hb1:bef (qS ss) i j with
     | true =>
       rw [hT,hb1] at hoP;rw [show iP cs ss i j=true from hoP,bf] at hall;simp -implicitDefEqProofs only [y5,f18,aP,hlen,h0,h9,h10,h11,h25,h26,h27,h35,h36,h37,hlt,hix',hrd,hwi,sK,ed,↓hyc,↓hyo,hput,hxr,↓Rh,↓Rg,h43,hT,EX,hp0,h44a,hl1,hb1,↓zzC,zzE,sevalprocAttr];generalize hX:EvC aa C0 W0 _ _ _=Z;have key:∀ (tm1:List AV) (K1:AH),EvC aa C0 W0 plN yy (tm1,K1)=Z->an G K1->tm1.length=64->tm1.getD 0 uA=vc->tm1.getD 9 uA=.ptr a 0->tm1.getD 10 uA=I (i:Nat)->tm1.getD 11 uA=.ptr c 0->tm1.getD 25 uA=iv->tm1.getD 26 uA=I (ss.flatten.length:Nat)->tm1.getD 27 uA=I (i:Nat)->tm1.getD 35 uA=w->tm1.getD 36 uA=I (i:Nat)->tm1.getD 37 uA=I ((j+1:Nat):Int)->(ck (fun j=>iP cs ss i j) i (j+1)=true->∃ X K1,Z=some (.exit 2,(X,K1))/\X.length=64/\an G K1/\X.getD 0 uA=vc/\X.getD 9 uA=.ptr a 0/\X.getD 10 uA=I (i:Nat)/\X.getD 11 uA=.ptr c 0/\X.getD 25 uA=iv/\X.getD 26 uA=I (ss.flatten.length:Nat)/\X.getD 27 uA=I (i:Nat)/\X.getD 35 uA=w/\X.getD 36 uA=I (i:Nat))/\(ck (fun j=>iP cs ss i j) i (j+1)=false->∃ Y K1,Z=some (.ret,(Y,K1))/\Y.getD 6 uA=.bool false/\Y.getD 7 uA=I 0):=by intro tm1 K1 h hA1 hl1 h0 h9 h10 h11 h25 h26 h27 h35 h36 h37;rw [<-h];exact ih (j+1) tm1 K1 (by omega) (by omega) hA1 hl1 h0 h9 h10 h11 h25 h26 h27 h35 h36 h37
       rw [hall];exact key _ _ hX (hA2G) (by simp only [ls,hlen]) (by simp only [hlen,h0,gB,sevalprocAttr]) (by simp only [hlen,h9,gB,sevalprocAttr]) (by simp only [hlen,h10,gB,sevalprocAttr]) (by simp only [hlen,h11,gB,sevalprocAttr]) (by simp only [hlen,h25,gB,sevalprocAttr]) (by simp only [hlen,h26,gB,sevalprocAttr]) (by simp only [hlen,h27,gB,sevalprocAttr]) (by simp only [hlen,h35,gB,sevalprocAttr]) (by simp only [hlen,h36,gB,sevalprocAttr]) (by simp only [hlen,gB,sevalprocAttr])
     | false =>
       cases hb2:bef (qS ss) j i with
       | true =>
         rw [hT,hb1,hb2] at hoP;rw [show iP cs ss i j=true from hoP,bf] at hall;simp -implicitDefEqProofs only [y5,f18,aP,hlen,h0,h9,h10,h11,h25,h26,h27,h35,h36,h37,hlt,hix',hrd,hwi,sK,ed,↓hyc,↓hyo,hput,hxr,↓Rh,↓Rg,h43,hT,EX,hp0,h44a,hl1,hb1,h44b,hp2,hl2,hb2,↓zzC,zzE,sevalprocAttr];generalize hX:EvC aa C0 W0 _ _ _=Z;have key:∀ (tm1:List AV) (K1:AH),EvC aa C0 W0 plN yy (tm1,K1)=Z->an G K1->tm1.length=64->tm1.getD 0 uA=vc->tm1.getD 9 uA=.ptr a 0->tm1.getD 10 uA=I (i:Nat)->tm1.getD 11 uA=.ptr c 0->tm1.getD 25 uA=iv->tm1.getD 26 uA=I (ss.flatten.length:Nat)->tm1.getD 27 uA=I (i:Nat)->tm1.getD 35 uA=w->tm1.getD 36 uA=I (i:Nat)->tm1.getD 37 uA=I ((j+1:Nat):Int)->(ck (fun j=>iP cs ss i j) i (j+1)=true->∃ X K1,Z=some (.exit 2,(X,K1))/\X.length=64/\an G K1/\X.getD 0 uA=vc/\X.getD 9 uA=.ptr a 0/\X.getD 10 uA=I (i:Nat)/\X.getD 11 uA=.ptr c 0/\X.getD 25 uA=iv/\X.getD 26 uA=I (ss.flatten.length:Nat)/\X.getD 27 uA=I (i:Nat)/\X.getD 35 uA=w/\X.getD 36 uA=I (i:Nat))/\(ck (fun j=>iP cs ss i j) i (j+1)=false->∃ Y K1,Z=some (.ret,(Y,K1))/\Y.getD 6 uA=.bool false/\Y.getD 7 uA=I 0):=by intro tm1 K1 h hA1 hl1 h0 h9 h10 h11 h25 h26 h27 h35 h36 h37;rw [<-h];exact ih (j+1) tm1 K1 (by omega) (by omega) hA1 hl1 h0 h9 h10 h11 h25 h26 h27 h35 h36 h37
         rw [hall];exact key _ _ hX (hA2G.trans hA3) (by simp only [ls,hlen]) (by simp only [hlen,h0,gB,sevalprocAttr]) (by simp only [hlen,h9,gB,sevalprocAttr]) (by simp only [hlen,h10,gB,sevalprocAttr]) (by simp only [hlen,h11,gB,sevalprocAttr]) (by simp only [hlen,h25,gB,sevalprocAttr]) (by simp only [hlen,h26,gB,sevalprocAttr]) (by simp only [hlen,h27,gB,sevalprocAttr]) (by simp only [hlen,h35,gB,sevalprocAttr]) (by simp only [hlen,h36,gB,sevalprocAttr]) (by simp only [hlen,gB,sevalprocAttr])
       | false =>rw [hT,hb1,hb2] at hoP;rw [show iP cs ss i j=false from hoP,bd] at hall;rw [hall];refine ⟨fun h=>(by cases h),fun _=>?_⟩;simp -implicitDefEqProofs only [y5,f18,aP,hlen,h0,h9,h10,h11,h25,h26,h27,h35,h36,h37,hlt,hix',hrd,hwi,sK,ed,↓hyc,↓hyo,hput,hxr,↓Rh,↓Rg,h43,hT,EX,hp0,h44a,hl1,hb1,h44b,hp2,hl2,hb2,↓zzC,zzE,sevalprocAttr];exact ⟨_,_,rfl,by simp only [hlen,gB,and_self,sevalprocAttr]⟩
end Go.Dv
namespace Go.Dv
open Go.Proofs
attribute [local congr] aA bC aT bB bD
open Qu (off di jU l7 nxt aft lX bef)
def Lo (cs:List Cod) (ss:List (List Itm)):Bool:=ck (fun i=>ck (fun j=>iP cs ss i j) i 0) ss.flatten.length 0
theorem QF {G:AH} {cs:List Cod} {m:List (List Int)} {ss:List (List Itm)} {vc iv av:AV} {a:Nat} (hc:dy G cs vc) (hcp:∀ c∈cs,c.params.length<=6) (hI:eD G ss.flatten iv) (hrt:∀ x∈ss.flatten,cC cs m x=true) (haf:m8 G (aft (qS ss)) av) (hic:iv.cells=[iv]/\iv.one=true) (hac:av.cells=[av]/\av.one=true) (hfew:ss.flatten.length<=1000) (hpa:G[a]? =some (.cells [iv,av] 93)) {i c:Nat} {w va:AV} (hiN:i < ss.flatten.length) (hcx:G[c]? =some (.cells (aJ (bo ss.flatten i) va) 34)) (hsx:SlS 32 1 G va ((bo ss.flatten i).args.map dH)) (hw:∀ j kk,j < i->aC aa 31 w (.int kk (j:Nat))=aC aa 31 iv (.int kk (j:Nat))) {tm:List AV} {K:AH} {Z:Option (bk × St)} (hX:EvC aa C0 W0 plN yy (tm,K)=Z) (hA:an G K) (hlen:tm.length=64) (h0:tm.getD 0 uA=vc) (h9:tm.getD 9 uA=.ptr a 0) (h10:tm.getD 10 uA=I (i:Nat)) (h11:tm.getD 11 uA=.ptr c 0) (h25:tm.getD 25 uA=iv) (h26:tm.getD 26 uA=I (ss.flatten.length:Nat)) (h27:tm.getD 27 uA=I (i:Nat)) (h35:tm.getD 35 uA=w) (h36:tm.getD 36 uA=I (i:Nat)) (h37:tm.getD 37 uA=I ((0:Nat):Int)) :
   (ck (fun j=>iP cs ss i j) i 0=true->∃ X K1,Z=some (.exit 2,(X,K1))/\X.length=64/\an G K1/\X.getD 0 uA=vc/\X.getD 9 uA=.ptr a 0/\X.getD 10 uA=I (i:Nat)/\X.getD 11 uA=.ptr c 0/\X.getD 25 uA=iv/\X.getD 26 uA=I (ss.flatten.length:Nat)/\X.getD 27 uA=I (i:Nat)/\X.getD 35 uA=w/\X.getD 36 uA=I (i:Nat))/\(ck (fun j=>iP cs ss i j) i 0=false->∃ Y K1,Z=some (.ret,(Y,K1))/\Y.getD 6 uA=.bool false/\Y.getD 7 uA=I 0):=by subst hX;exact U9 hc hcp hI hrt haf hic hac hfew hpa hiN hcx hsx hw i 0 tm K rfl (aV _) hA hlen h0 h9 h10 h11 h25 h26 h27 h35 h36 h37
theorem QE {G:AH} {cs:List Cod} {m:List (List Int)} {ss:List (List Itm)} {vc iv av:AV} {a:Nat} (hc:dy G cs vc) (hcp:∀ c∈cs,c.params.length<=6) (hI:eD G ss.flatten iv) (hrt:∀ x∈ss.flatten,cC cs m x=true) (haf:m8 G (aft (qS ss)) av) (hic:iv.cells=[iv]/\iv.one=true) (hac:av.cells=[av]/\av.one=true) (hfew:ss.flatten.length<=1000) (hpa:G[a]? =some (.cells [iv,av] 93)) (hiv:(iv=.nilSlice/\ss.flatten.length=0)∨∃ b,iv=.slice b 0 9 ss.flatten.length ss.flatten.length false):∀ (d i:Nat) (tm:List AV) (K:AH),ss.flatten.length - i=d->i<=ss.flatten.length->an G K->tm.length=64->tm.getD 0 uA=vc->tm.getD 9 uA=.ptr a 0->tm.getD 25 uA=iv->tm.getD 26 uA=I (ss.flatten.length:Nat)->tm.getD 27 uA=I ((i:Nat):Int) ->
   (ck (fun i=>ck (fun j=>iP cs ss i j) i 0) ss.flatten.length i=true->∃ X K1,EvC aa C0 W0 plN CA (tm,K)=some (.exit 0,(X,K1))/\X.length=64)/\(ck (fun i=>ck (fun j=>iP cs ss i j) i 0) ss.flatten.length i=false->∃ Y K1,EvC aa C0 W0 plN CA (tm,K)=some (.ret,(Y,K1))/\Y.getD 6 uA=.bool false/\Y.getD 7 uA=I 0):=by
 intro d;induction d with
 | zero =>
   intro i tm K hd hi hA hlen h0 h9 h25 h26 h27;have hil:i=ss.flatten.length:=by omega
   subst hil;have hlt:ltB (ss.flatten.length:Nat) (ss.flatten.length:Nat)=false:=cw (by omega);rw [dk (aw _),NY];refine ⟨fun _=>?_,fun h=>(by cases h)⟩;simp -implicitDefEqProofs only [AB,f18,aP,hlen,h0,h9,h25,h26,h27,hlt,↓zzA,zzB,sevalprocAttr];exact ⟨_,K,rfl,by simp only [ls,hlen]⟩
 | succ d ih =>
   intro i tm K hd hi hA hlen h0 h9 h25 h26 h27;have hiN:i < ss.flatten.length:=by omega
   have hlt:ltB (i:Int) (ss.flatten.length:Nat)=true:=cu (by omega);have hwi:=b6 (j:=i) (by omega);obtain ⟨i0,k0,va,hix,hrd,hsx⟩:=hI.at hA hiN;have hall:=cK (p:=(fun i=>ck (fun j=>iP cs ss i j) i 0)) hiN;obtain ⟨b,hb⟩:∃ b,iv=.slice b 0 9 ss.flatten.length ss.flatten.length false:=by
     rcases hiv with ⟨_,e⟩ | h
     · omega
     · exact h
   have hsl:=fun H=>FN H (i:=b) (k:=0) (l:=ss.flatten.length) (c:=ss.flatten.length) (n:=i) (e:=false) (by omega);have hln:=fun H=>Yn H b 0 9 i ss.flatten.length false;rw [<-hb] at hsl;have hxc:=hsx.cells;have hxo:=hsx.one;have hpr:∀ L,ak (K++L) a 0 1=some [iv]:=fun L=>(hA.bX L).sub.rd (by unfold ak; rw [hpa]; rfl);have hput:∀ o,put none K o=some (K.length,K++[o]):=fun _=>rfl;have hw:∀ j kk,j < i->aC aa 31 (.slice b 0 9 i ss.flatten.length false) (.int kk (j:Nat))=aC aa 31 iv (.int kk (j:Nat)):=fun j kk hj=>by rw [hb,mV.ia,mV.ia,if_pos ⟨by omega,by omega,rfl⟩,if_pos ⟨by omega,by omega,rfl⟩]
   have hA1:an G (K++[.cells (aJ (bo ss.flatten i) va) 34]):=hA.bX _;have hin:=@QF (K++[.cells (aJ (bo ss.flatten i) va) 34]) cs m ss vc iv av a (hc.aZ hA1) hcp (hI.aZ hA1) hrt (haf.sub hA1.sub) hic hac hfew (hA1.get hpa) i K.length (.slice b 0 9 i ss.flatten.length false) va hiN (by rw [al (aw _),d9]; rfl) (hsx.sub hA1.sub) hw;have hii:(fun j=>iP cs ss i j)=(fun j=>iP cs ss i j):=rfl;rw [NY];rw [<-af K];generalize hxe:bo ss.flatten i=x at *;simp only [aJ] at hrd;simp -implicitDefEqProofs only [AB,f18,aP,hlen,h0,h9,h25,h26,h27,hlt,hix,hrd,sK,ed,↓hxc,↓hxo,hput,hpr,qd,hsl,hln,↓zzC,zzE,sevalprocAttr];generalize hX:EvC aa C0 W0 plN _ _=Z;obtain ⟨hT,hF⟩:=hin hX (an.refl _) (by simp only [ls,hlen]) (by simp only [hlen,h0,gB,sevalprocAttr]; try rfl) (by simp only [hlen,h9,gB,sevalprocAttr]; try rfl) (by simp only [hlen,gB,sevalprocAttr]; try rfl) (by simp only [hlen,gB,sevalprocAttr]; try rfl) (by simp only [hlen,h25,gB,sevalprocAttr]; try rfl) (by simp only [hlen,h26,gB,sevalprocAttr]; try rfl) (by simp only [hlen,h27,gB,sevalprocAttr]; try rfl) (by simp only [hlen,gB,sevalprocAttr]; try rfl) (by simp only [hlen,gB,sevalprocAttr]; try rfl) (by simp only [hlen,gB,sevalprocAttr]; try rfl);cases hc1:ck (fun j=>iP cs ss i j) i 0 with
   | false =>obtain ⟨Y,K1,e,y6,y7⟩:=hF hc1;subst e;rw [hall,hc1,bd];refine ⟨fun h=>(by cases h),fun _=>?_⟩;simp -implicitDefEqProofs only [AB,f18,aP,hlen,h0,h9,h25,h26,h27,hlt,↓zzC,zzE,sevalprocAttr];exact ⟨Y,K1,rfl,y6,y7⟩
   | true =>
     obtain ⟨X,K1,e,hXl,hA2,x0,x9,x10,x11,x25,x26,x27,x35,x36⟩:=hT hc1;subst e;rw [hall,hc1,bf];simp -implicitDefEqProofs only [AB,f18,aP,hlen,h0,h9,h25,h26,h27,hlt,hXl,x0,x9,x25,x26,x27,hwi,↓zzC,zzE,sevalprocAttr];generalize hY:EvC aa C0 W0 plN _ _=Z;have key:∀ (tm1:List AV) (K1:AH),EvC aa C0 W0 plN CA (tm1,K1)=Z->an G K1->tm1.length=64->tm1.getD 0 uA=vc->tm1.getD 9 uA=.ptr a 0->tm1.getD 25 uA=iv->tm1.getD 26 uA=I (ss.flatten.length:Nat)->tm1.getD 27 uA=I ((i+1:Nat):Int)->(ck (fun i=>ck (fun j=>iP cs ss i j) i 0) ss.flatten.length (i+1)=true->∃ X K1,Z=some (.exit 0,(X,K1))/\X.length=64)/\(ck (fun i=>ck (fun j=>iP cs ss i j) i 0) ss.flatten.length (i+1)=false->∃ Y K1,Z=some (.ret,(Y,K1))/\Y.getD 6 uA=.bool false/\Y.getD 7 uA=I 0):=by intro tm1 K1 h hA1 hl1 h0 h9 h25 h26 h27;rw [<-h];exact ih (i+1) tm1 K1 (by omega) (by omega) hA1 hl1 h0 h9 h25 h26 h27
     exact key _ _ hY (hA1.trans hA2) (by simp only [ls,hXl]) (by simp only [hXl,x0,gB,sevalprocAttr]) (by simp only [hXl,x9,gB,sevalprocAttr]) (by simp only [hXl,x25,gB,sevalprocAttr]) (by simp only [hXl,x26,gB,sevalprocAttr]) (by simp only [hXl,gB,sevalprocAttr])
theorem Ln {G:AH} {cs:List Cod} {m:List (List Int)} {ss:List (List Itm)} {vc iv av:AV} {a:Nat} (hc:dy G cs vc) (hcp:∀ c∈cs,c.params.length<=6) (hI:eD G ss.flatten iv) (hrt:∀ x∈ss.flatten,cC cs m x=true) (haf:m8 G (aft (qS ss)) av) (hic:iv.cells=[iv]/\iv.one=true) (hac:av.cells=[av]/\av.one=true) (hfew:ss.flatten.length<=1000) (hpa:G[a]? =some (.cells [iv,av] 93)) (hiv:(iv=.nilSlice/\ss.flatten.length=0)∨∃ b,iv=.slice b 0 9 ss.flatten.length ss.flatten.length false) {tm:List AV} {K:AH} {Z:Option (bk × St)} (hX:EvC aa C0 W0 plN CA (tm,K)=Z) (hA:an G K) (hlen:tm.length=64) (h0:tm.getD 0 uA=vc) (h9:tm.getD 9 uA=.ptr a 0) (h25:tm.getD 25 uA=iv) (h26:tm.getD 26 uA=I (ss.flatten.length:Nat)) (h27:tm.getD 27 uA=I ((0:Nat):Int)) :
   (ck (fun i=>ck (fun j=>iP cs ss i j) i 0) ss.flatten.length 0=true->∃ X K1,Z=some (.exit 0,(X,K1))/\X.length=64)/\(ck (fun i=>ck (fun j=>iP cs ss i j) i 0) ss.flatten.length 0=false->∃ Y K1,Z=some (.ret,(Y,K1))/\Y.getD 6 uA=.bool false/\Y.getD 7 uA=I 0):=by subst hX;exact QE hc hcp hI hrt haf hic hac hfew hpa hiv ss.flatten.length 0 tm K rfl (aV _) hA hlen h0 h9 h25 h26 h27
theorem aao {H:AH} {cs:List Cod} {m:List (List Int)} {ss:List (List Itm)} {vc vm vs:AV} (hc:dy H cs vc) (hm:eo H m vm) (hs:cT H ss vs) (hk:g8 cs m ss fH=0) (hg:Good cs m ss fH):Ev aa C0 W0 18 [vc,vm,vs] H=some (.tuple [.bool (Lo cs ss),I 0],H):=by
 obtain ⟨tm,ht,g0,g1,g2,g3⟩:=tm3 vc vm vs 64 (by decide);rw [adv,ht];rw [<-af (ro H)];have hH0:=an.app (ro H) [bm.cells (fx fH) 27];have h26:=V3 (hc.ro.aZ hH0) (hm.ro.aZ hH0) (hs.ro.aZ hH0) fH;have h41:=V1;rw [hk] at h26;have hq0:eqB 0 0=true:=rfl;have hfew:ss.flatten.length<=1000:=by rw [List.length_flatten]; have:=hg.few; omega
 have hcp:∀ c∈cs,c.params.length<=6:=fun c hc=>(hg.cod c hc).1;have hrt:∀ x∈ss.flatten,cC cs m x=true:=fun x hx=>by obtain ⟨l,h1,h2⟩:=List.mem_flatten.1 hx;exact hg.it l h1 x h2
 obtain ⟨iv,av,K,h42,hS,hlK,hI,haf,hic,hac,hiv⟩:=aah (hs.ro.aZ hH0) hfew (fun l hl x hx hkx=>(hg.ev l hl x hx hkx).1);have hS0:Sub (ro H) K:=(hH0.sub).trans hS;have hput:∀ o,put none K o=some (K.length,K++[o]):=fun _=>rfl;have hic1:=hic.1;have hac1:=hac.1;have hic2:=hic.2;have hac2:=hac.2;have hA:=an.app K [bm.cells [iv,av] 93];have hln:=hI.len;have hout:=@Ln (K++[.cells [iv,av] 93]) cs m ss vc iv av K.length (hc.ro.sub (hS0.trans hA.sub)) hcp (hI.aZ hA) hrt (haf.sub hA.sub) hic hac hfew (by rw [al (aw _),d9]; rfl) hiv;simp only [fx,fH] at h26 h41 h42;rw [<-af K] at h42;simp -implicitDefEqProofs only [c18,f18,aP,g0,g1,g2,g3,↓Ri,h41,↓VV,h26,hq0,↓ZO,h42,z93,EX,Ux,↓hic1,↓hac1,↓hic2,↓hac2,hput,qd,hln,↓zzC,zzE,sevalprocAttr];generalize hX:EvC aa C0 W0 plN _ _=Z;obtain ⟨hT,hF⟩:=hout hX (an.refl _) (by simp only [ls,g0]) (by simp only [g0,g1,gB,sevalprocAttr]) (by simp only [g0,gB,sevalprocAttr]) (by simp only [g0,gB,sevalprocAttr]) (by simp only [g0,gB,sevalprocAttr]) (by simp only [g0,gB,sevalprocAttr]; try rfl);cases hB:Lo cs ss with
 | true =>obtain ⟨X,K1,e,hXl⟩:=hT hB;subst e;simp -implicitDefEqProofs only [c18,f18,aP,hXl,↓zzC,zzE,sevalprocAttr]
 | false =>obtain ⟨Y,K1,e,y6,y7⟩:=hF hB;subst e;simp -implicitDefEqProofs only [c18,f18,aP,y6,y7,↓zzC,zzE,sevalprocAttr]
end Go.Dv
namespace Go.Dv
open Go.Proofs
def kF (cs:List Cod):List (List Bool):=cs.map fun c=>c.params.map (·.buf)
theorem Ir {a b:List Nat}:rV a b=true↔∃ n,n∈a/\n∈b:=by
 unfold rV;rw [bl,<-lM,gz];constructor
 · intro h;by_cases e:∃ n,n∈a/\n∈b
   · exact e
   · exfalso;refine h fun j hj=>?_;rw [bl,<-lM,yH];exact fun hb=>e ⟨_,eF hj 0,hb⟩
 · rintro ⟨n,h1,h2⟩ h;obtain ⟨j,hj,e⟩:=List.mem_iff_getElem.1 h1;have:=h j hj;rw [bl,<-lM,yH] at this;refine this ?_;rw [gde,aj hj,fE,e];exact h2
theorem LD {fs:List Bool} {ys:List Int} {i:Int}:i∈(fs.zip ys).filterMap (fun p=>if p.1 then some p.2 else none)↔∃ j:Nat,fs[j]? =some true/\ys[j]? =some i:=by
 rw [List.mem_filterMap];constructor
 · rintro ⟨p,hp,h⟩;obtain ⟨j,hj⟩:=qu.1 hp;obtain ⟨h1,h2⟩:=nV.1 hj;split at h
   · rename_i e;cases h;exact ⟨j,by rw [h1,e],h2⟩
   · cases h
 · rintro ⟨j,h1,h2⟩;exact ⟨(true,i),qu.2 ⟨j,nV.2 ⟨h1,h2⟩⟩,rfl⟩
theorem yw {cs:List Cod} {m:List (List Int)} {x:Itm} (hr:cC cs m x=true) (k:x.kind=0) (i:Int):i∈(((kF cs).getD x.code.toNat []).zip x.args).filterMap (fun p=>if p.1 then some p.2 else none)↔∃ n∈js (dj cs x.code.toNat) x.args (dj cs x.code.toNat).params.length,i=((n:Nat):Int):=by
 obtain ⟨⟨_,hc⟩,hl,ha⟩:=lG hr k;have hf:(kF cs).getD x.code.toNat []=(dj cs x.code.toNat).params.map (·.buf):=by unfold kF dj;rw [gde,aO,gde,aj hc]; rfl
 rw [hf,LD];have hb:∀ j,j < (dj cs x.code.toNat).params.length->iS (dj cs x.code.toNat) (j:Int)=((dj cs x.code.toNat).params.map (·.buf)).getD j false:=fun j hj=>by unfold iS;simp only [Int.toNat_natCast];rw [gde,aO,aj hj]; rfl
 have hg:∀ j,fS x.args j=x.args.getD j 0:=fun j=>by unfold fS; rfl
 constructor
 · rintro ⟨j,h1,h2⟩;have hj:j < (dj cs x.code.toNat).params.length:=by have:=aI h1; rwa [ao] at this
   have hbj:iS (dj cs x.code.toNat) (j:Int)=true:=by rw [hb j hj,gde,h1]; rfl
   have e:fS x.args j=i:=by rw [hg,gde,h2]; rfl
   obtain ⟨p0,_⟩:=ha j hj hbj;refine ⟨i.toNat,?_,by rw [e] at p0; omega⟩;unfold js;rw [bI];exact ⟨j,fm.2 ⟨eX.2 hj,hbj⟩,by rw [e]⟩
 · rintro ⟨n,hn,rfl⟩;unfold js at hn;obtain ⟨j,hj,rfl⟩:=bI.1 hn;obtain ⟨h1,h2⟩:=fm.1 hj;have h1:=eX.1 h1;obtain ⟨p0,_⟩:=ha j h1 h2;refine ⟨j,?_,?_⟩
   · have:=hb j h1;rw [h2,gde,aj (by rw [ao]; exact h1)] at this;rw [aj (by rw [ao]; exact h1)];exact congrArg some this.symm
   · rw [aj (by omega),Int.toNat_of_nonneg p0,hg,gde,aj (by omega)]; rfl
theorem zP {cs:List Cod} {m:List (List Int)} {x:Itm} (hr:cC cs m x=true):(x.kind=1->0<=x.src/\0<=x.dst)/\(x.kind=2->0<=x.dst):=by
 constructor
 · intro k;unfold cC at hr;rw [fR (by omega),cM,kP k,d7] at hr;simp only [az,inB,dC,dB] at hr;exact ⟨hr.1.1.1.1.1,hr.1.1.1.2.1⟩
 · intro k;unfold cC at hr;rw [fR (by omega),cM,fR (by omega),cM,kP k,d7] at hr;simp only [az,inB,dC,dB] at hr;exact hr.1.1.1.1.1.1.1
theorem pH {cs:List Cod} {m:List (List Int)} {x:Itm} (hr:cC cs m x=true) (i:Int):i∈Qu.mC (kF cs) (qi x)↔∃ n∈fq cs x,i=((n:Nat):Int):=by
 obtain ⟨s1,s2⟩:=zP hr;unfold Qu.mC fq;by_cases k0:x.kind=0
 · rw [if_pos (show (qi x).kind=0 from k0),if_pos k0]; exact yw hr k0 i
 · rw [if_neg (show ¬ (qi x).kind=0 from k0),if_neg k0];by_cases k1:x.kind=1
   · rw [if_pos (show (qi x).kind=1 from k1),if_pos k1];have:=s1 k1;show i∈[x.src,x.dst]↔_;simp only [bW,cE,or_false,exists_eq_or_imp,exists_eq_left];omega
   · rw [if_neg (show ¬ (qi x).kind=1 from k1),if_neg k1];by_cases k2:x.kind=2
     · rw [if_pos (show (qi x).kind=2 from k2),if_pos k2];have:=s2 k2;show i∈[x.dst]↔_;simp only [bW,cE,or_false,exists_eq_left];omega
     · rw [if_neg (show ¬ (qi x).kind=2 from k2),if_neg k2]; simp
theorem wZ {cs:List Cod} {m:List (List Int)} {x:Itm} (hr:cC cs m x=true) (i:Int):i∈Qu.tX (kF cs) (qi x)↔∃ n∈iR cs x,i=((n:Nat):Int):=by
 obtain ⟨s1,s2⟩:=zP hr;unfold Qu.tX iR;by_cases k0:x.kind=0
 · rw [if_pos (show (qi x).kind=0 from k0),if_pos k0]; exact yw hr k0 i
 · rw [if_neg (show ¬ (qi x).kind=0 from k0),if_neg k0];by_cases k1:x.kind=1
   · rw [if_pos (show (qi x).kind=1 from k1),if_pos k1];have:=s1 k1;show i∈[x.dst]↔_;simp only [bW,cE,or_false,exists_eq_left];omega
   · rw [if_neg (show ¬ (qi x).kind=1 from k1),if_neg k1];by_cases k2:x.kind=2
     · rw [if_pos (show (qi x).kind=2 from k2),if_pos k2];have:=s2 k2;show i∈[x.dst]↔_;simp only [bW,cE,or_false,exists_eq_left];omega
     · rw [if_neg (show ¬ (qi x).kind=2 from k2),if_neg k2]; simp
theorem F9 {a b:List Int} {c d:List Nat} (h1:∀ i,i∈a↔∃ n∈c,i=((n:Nat):Int)) (h2:∀ i,i∈b↔∃ n∈d,i=((n:Nat):Int)):rV c d=Qu.Cv a b:=by
 rw [gI,Ir,Qu.uT];constructor
 · rintro ⟨n,x,y⟩;exact ⟨(n:Int),(h1 _).2 ⟨n,x,rfl⟩,(h2 _).2 ⟨n,y,rfl⟩⟩
 · rintro ⟨i,x,y⟩;obtain ⟨n,hn,rfl⟩:=(h1 _).1 x;obtain ⟨k,hk,e⟩:=(h2 _).1 y;have:n=k:=by omega
   subst this;exact ⟨n,hn,hk⟩
theorem Jy {cs:List Cod} {m:List (List Int)} {x y:Itm} (hx:cC cs m x=true) (hy:cC cs m y=true):lN cs x y=Qu.xE (kF cs) (qi x) (qi y):=by unfold lN Qu.xE;rw [F9 (pH hx) (wZ hy),F9 (wZ hx) (pH hy)]
end Go.Dv
namespace Go.Dv
open Go.Proofs
attribute [local congr] aA bC aT bB bD
theorem ack (i k es len cap:Nat) (ex:Bool) (kk:IntKind) (n:Int):aC aa 23 (.slice i k es len cap ex) (.int kk n)=if 0<=n/\n < len/\1=es then some (.ptr i (k+n.toNat * es)) else none:=by kernel_rfl
theorem ab7 (H:AH) (i k es len cap:Nat) (ex:Bool):d4 aa 23 H (.slice i k es len cap ex)=some (.int .i64 len):=by kernel_rfl
theorem Sh (H:AH):d4 aa 23 H .nilSlice=some (.int .i64 0):=by kernel_rfl
theorem Ty:IxT 23 1:=⟨Sh,ab7,ack⟩
theorem SlS.as {T U es:Nat} (X:IxT U es) {H:AH} {v:AV} {rows:List (List AV)} (h:SlS T es H v rows) (hr:∀ r∈rows,r.length=es):SlS U es H v rows:=by
 rcases h.old with ⟨rfl,rfl⟩ | ⟨i,k,c,e,rfl,h1,h2⟩
 · exact k5 X H
 · exact mI X hr h1 h2
theorem uS {H:AH} {m:List (List Int)} {v:AV} (h:eo H m v) (G:AH):d4 aa 23 G v=some (I (m.length:Nat)):=by obtain ⟨⟨l,rfl,hs,hc⟩,n,_⟩:=h;have:=(hs.as Ty (fun r hr=>by obtain ⟨p,_,rfl⟩:=bI.1 hr; rfl)).len G;rw [ao] at this ⊢;exact this
theorem tq {H:AH} {m:List (List Int)} {v:AV} (h:eo H m v) {j:Nat} (hj:j < m.length):∃ i k w,(∀ kk,aC aa 23 v (.int kk (j:Int))=some (.ptr i k))/\ak H i k 1=some [w]/\SlS 32 1 H w ((bV m j).map dH):=by
 obtain ⟨⟨l,rfl,hs,hc⟩,n,_⟩:=h;have hj':j < l.length:=by rwa [ao] at hj
 obtain ⟨i,k,hi,hr⟩:=(hs.as Ty (fun r hr=>by obtain ⟨p,_,rfl⟩:=bI.1 hr; rfl)).ix j _ (by rw [aO,aj hj']; rfl);have e:bV (l.map (·.1)) j=(l[j]'hj').1:=by unfold bV; rw [d6 hj,List.getElem_map]
 rw [e];exact ⟨i,k,_,hi,hr,hc _ (gQ _)⟩
theorem Jv {H:AH} {w:AV} {b:List Int} (h:SlS 32 1 H w (b.map dH)) {j:Nat} (hj:j < b.length):∃ i k,(∀ kk,aC aa 32 w (.int kk (j:Int))=some (.ptr i k))/\ak H i k 1=some [.int .i32 (b.getD j 0)]:=by obtain ⟨i,k,h1,h2⟩:=h.ix j (dH (b.getD j 0)) (by rw [aO,aj hj,gde,aj hj]; rfl);exact ⟨i,k,h1,h2⟩
theorem Pu {K:AH} {m:List (List Int)} {va vb:AV} (h1:eo K m va) (h2:eo K m vb) {i:Nat} (hi:i < m.length):∀ (d q:Nat) (tm:List AV) (Z:Option (bk × St)),EvC aa C0 W0 uL SX (tm,K)=Z->(bV m i).length - q=d->q<=(bV m i).length->(tm.length=53/\tm.getD 0 uA=va/\tm.getD 1 uA=vb/\tm.getD 5 uA=I (i:Nat)/\tm.getD 6 uA=I ((q:Nat):Int)) ->
   ∃ X,Z=some (.exit 2,(X,K))/\(X.length=53/\X.getD 0 uA=va/\X.getD 1 uA=vb/\X.getD 5 uA=I (i:Nat)):=by
 obtain ⟨i1,k1,wa,a1,a2,a3⟩:=tq h1 hi;obtain ⟨i2,k2,wb,b1,b2,b3⟩:=tq h2 hi;have la:=fun G=>kQ a3 G;have lb:=fun G=>kQ b3 G;have hbl:(bV m i).length < 2 ^ 50:=h1.nb _ (by unfold bV; rw [d6 hi]; exact gQ _);intro d;induction d with
 | zero =>
   intro q tm Z hZ hd hq hI;subst hZ;have hql:q=(bV m i).length:=by omega
   obtain ⟨hlen,c0,c1,c5,c6⟩:=hI;have hlt:ltB (q:Int) ((bV m i).length:Nat)=false:=cw (by omega);rw [ND];simp -implicitDefEqProofs only [GY,f25,aP,hlen,c0,c1,c5,c6,hlt,a1,a2,la,↓zzC,zzE,sevalprocAttr];exact ⟨_,rfl,by simp only [ls,hlen],by simp only [hlen,c0,c1,c5,gB,and_self,sevalprocAttr]⟩
 | succ d ih =>
   intro q tm Z hZ hd hq hI;subst hZ;obtain ⟨hlen,c0,c1,c5,c6⟩:=hI;have hqN:q < (bV m i).length:=by omega
   have hlt:ltB (q:Int) ((bV m i).length:Nat)=true:=cu (by omega);have hw:=b6 (j:=q) (by omega);obtain ⟨i3,k3,d1,d2⟩:=Jv a3 hqN;obtain ⟨i4,k4,e1,e2⟩:=Jv b3 hqN;have heq:=bE ((bV m i).getD q 0);rw [ND];simp -implicitDefEqProofs only [GY,f25,aP,hlen,c0,c1,c5,c6,hlt,hw,a1,a2,la,b1,b2,d1,d2,e1,e2,heq,KR,↓zzC,zzE,sevalprocAttr];exact ih (q+1) _ _ rfl (by omega) (by omega) ⟨by simp only [ls,hlen],by simp only [hlen,c0,c1,c5,gB,and_self,sevalprocAttr]⟩
theorem JM {K:AH} {m:List (List Int)} {va vb:AV} (h1:eo K m va) (h2:eo K m vb):∀ (d i:Nat) (tm:List AV) (Z:Option (bk × St)),EvC aa C0 W0 uL SW (tm,K)=Z->m.length - i=d->i<=m.length->(tm.length=53/\tm.getD 0 uA=va/\tm.getD 1 uA=vb/\tm.getD 5 uA=I ((i:Nat):Int)) ->
   ∃ X,Z=some (.exit 0,(X,K))/\X.length=53:=by
 have lm:=fun G=>uS h1 G;have hmn:=h1.n;intro d;induction d with
 | zero =>intro i tm Z hZ hd hi hI;subst hZ;obtain ⟨hlen,c0,c1,c5⟩:=hI;have hlt:ltB (i:Int) (m.length:Nat)=false:=cw (by omega);rw [NC];simp -implicitDefEqProofs only [GX,f25,aP,hlen,c0,c1,c5,hlt,lm,↓zzC,zzE,sevalprocAttr];exact ⟨_,rfl,by simp only [ls,hlen]⟩
 | succ d ih =>
   intro i tm Z hZ hd hi hI;subst hZ;obtain ⟨hlen,c0,c1,c5⟩:=hI;have hiN:i < m.length:=by omega
   have hlt:ltB (i:Int) (m.length:Nat)=true:=cu (by omega);have hw:=b6 (j:=i) (by omega);obtain ⟨i1,k1,wa,a1,a2,a3⟩:=tq h1 hiN;obtain ⟨i2,k2,wb,b1,b2,b3⟩:=tq h2 hiN;have la:=fun G=>kQ a3 G;have lb:=fun G=>kQ b3 G;have heq:=bE ((bV m i).length:Nat);rw [NC];simp -implicitDefEqProofs only [GX,f25,aP,hlen,c0,c1,c5,hlt,lm,a1,a2,b1,b2,la,lb,heq,P4,↓zzC,zzE,sevalprocAttr];generalize hX:EvC aa C0 W0 uL (Code.loop _) _=Z;obtain ⟨X,he,x0,xa,xb,x5⟩:=Pu h1 h2 hiN _ 0 _ _ hX rfl (aV _) ⟨by simp only [ls,hlen],Aj3 (by simp only [hlen,c0,c1,c5,gB,and_self,sevalprocAttr]) (by simp only [hlen,gB,sevalprocAttr]; try rfl)⟩;subst he;simp -implicitDefEqProofs only [x0,xa,xb,x5,hw,↓zzA,zzB,sevalprocAttr];exact ih (i+1) _ _ rfl (by omega) (by omega) ⟨by simp only [ls,x0],by simp only [x0,xa,xb,gB,and_self,sevalprocAttr]⟩
theorem aeR {H:AH} {m:List (List Int)} {va vb:AV} (h1:eo H m va) (h2:eo H m vb):Ev aa C0 W0 25 [va,vb] H=some (.bool true,H):=by obtain ⟨tm,ht,g0,g1,g2⟩:=tm2 va vb 53 (by decide);rw [ado,ht];have la:=fun G=>uS h1 G;have lb:=fun G=>uS h2 G;have heq:=bE (m.length:Nat);simp -implicitDefEqProofs only [c25,f25,aP,g0,g1,g2,la,lb,heq,↓zzC,zzE,sevalprocAttr];generalize hX:EvC aa C0 W0 uL (Code.loop _) _=Z;obtain ⟨X,he,x0⟩:=JM h1.ro h2.ro _ 0 _ _ hX rfl (aV _) ⟨by simp only [ls,g0],Aj2 (by simp only [g0,g1,g2,gB,and_self,sevalprocAttr]) (by simp only [g0,gB,sevalprocAttr]; try rfl)⟩;subst he;simp -implicitDefEqProofs only [x0,↓zzA,zzB,sevalprocAttr]
theorem Vi {K:AH} {l:List Nat} {va vb:AV} (h1:SlS 30 1 K va (ints l)) (h2:SlS 30 1 K vb (ints l)) (hl:l.length < 2 ^ 50):∀ (d i:Nat) (tm:List AV) (Z:Option (bk × St)),EvC aa C0 W0 Bb Tp (tm,K)=Z->l.length - i=d->i<=l.length->(tm.length=26/\tm.getD 0 uA=va/\tm.getD 1 uA=vb/\tm.getD 5 uA=I ((i:Nat):Int)) ->
   ∃ X,Z=some (.exit 0,(X,K))/\X.length=26:=by
 have lm:=fun G=>iZ h1 G;intro d;induction d with
 | zero =>intro i tm Z hZ hd hi hI;subst hZ;obtain ⟨hlen,c0,c1,c5⟩:=hI;have hlt:ltB (i:Int) (l.length:Nat)=false:=cw (by omega);rw [N6];simp -implicitDefEqProofs only [Hl,f13,aP,hlen,c0,c1,c5,hlt,lm,↓zzC,zzE,sevalprocAttr];exact ⟨_,rfl,by simp only [ls,hlen]⟩
 | succ d ih =>
   intro i tm Z hZ hd hi hI;subst hZ;obtain ⟨hlen,c0,c1,c5⟩:=hI;have hiN:i < l.length:=by omega
   have hlt:ltB (i:Int) (l.length:Nat)=true:=cu (by omega);have hw:=b6 (j:=i) (by omega);obtain ⟨i1,k1,a1,a2⟩:=ints_at h1 (an.refl K) hiN;obtain ⟨i2,k2,b1,b2⟩:=ints_at h2 (an.refl K) hiN;have a2:=a2 [];have b2:=b2 [];rw [af] at a2 b2;have heq:=bE ((l.getD i 0:Nat):Int);rw [N6];simp -implicitDefEqProofs only [Hl,f13,aP,hlen,c0,c1,c5,hlt,lm,a1,a2,b1,b2,heq,hw,P7,↓zzC,zzE,sevalprocAttr];exact ih (i+1) _ _ rfl (by omega) (by omega) ⟨by simp only [ls,hlen],by simp only [hlen,c0,c1,gB,and_self,sevalprocAttr]⟩
theorem aeZ {H:AH} {l:List Nat} {va vb:AV} (h1:SlS 30 1 H va (ints l)) (h2:SlS 30 1 H vb (ints l)) (hl:l.length < 2 ^ 50):Ev aa C0 W0 13 [va,vb] H=some (.bool true,H):=by obtain ⟨tm,ht,g0,g1,g2⟩:=tm2 va vb 26 (by decide);rw [adz,ht];have la:=fun G=>iZ h1 G;have lb:=fun G=>iZ h2 G;have heq:=bE (l.length:Nat);simp -implicitDefEqProofs only [c13,f13,aP,g0,g1,g2,la,lb,heq,↓zzC,zzE,sevalprocAttr];generalize hX:EvC aa C0 W0 Bb (Code.loop _) _=Z;obtain ⟨X,he,x0⟩:=Vi h1.ro h2.ro hl _ 0 _ _ hX rfl (aV _) ⟨by simp only [ls,g0],Aj2 (by simp only [g0,g1,g2,gB,and_self,sevalprocAttr]) (by simp only [g0,gB,sevalprocAttr]; try rfl)⟩;subst he;simp -implicitDefEqProofs only [x0,↓zzA,zzB,sevalprocAttr]
end Go.Dv
