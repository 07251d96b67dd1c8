/- Part 31 of the walks (own work). -/
import Derived.Test.YtilpjnckfkjkbaaGreatDoorZ30
set_option maxRecDepth 100000
set_option maxHeartbeats 4000000
set_option linter.unusedSimpArgs false
set_option linter.unusedVariables false
namespace Go.Dv
open Go.Proofs
attribute [local congr] bind_congr_first cb_congr condA_congr gd_congr br_congr
open Qu (off item? isRecB recs nxt aft aftTo bef)
def plainC:Con:=⟨1,false,1,1,0,0,0⟩
theorem z27:zeroA Tryz.prog 27=some (.agg [I 0,.bool false,I 0,I 0,I 0,I 0,I 0]):=by kernel_rfl
theorem bl27:buildA Tryz.prog 27 [(0,I 1),(2,I 1),(3,I 1)]=some (.agg [I 1,.bool false,I 1,I 1,I 0,I 0,I 0]):=by kernel_rfl
theorem ld27' (H:AH) (i k:Nat):ldA Tryz.prog 27 H i k=(rdCells H i k 7).map .agg:=by kernel_rfl
theorem ev41 (H:AH):Ev Tryz.prog C0 W0 41 [] H=some (.agg (rowF plainC),H++[.cells (rowF plainC) 27]):=by
 have g0:(([]:List AV)++List.replicate (2 - ([]:List AV).length) uA).length=2:=by simp
 rw [fe41]
 generalize ([]:List AV)++List.replicate (2 - ([]:List AV).length) uA=tm at *
 simp -implicitDefEqProofs only [c41,Tryz.f41,aP,g0,z27,bl27,st27,fr41,ld27',show ∀ o,put none H o=some (H.length,H++[o]) from fun _=>rfl,plainC,rowF,r5,↓evLd,nck,↓cbT,↓cbF,↓evDn,evUp,eu,sevalprocAttr]
def ordP (cs:List Cod) (ss:List (List Itm)) (i j:Nat):Bool:=!touchN cs (itmAt ss.flatten i) (itmAt ss.flatten j) || bef (qS ss) i j || bef (qS ss) j i
theorem seen_bef {ss:List (List Itm)} {i j:Nat} {seen:List Nat} (hi:i < ss.flatten.length) (hj:j < ss.flatten.length) (h:∀ y,y∈seen↔Qu.TG (Qu.EA (aft (qS ss))) i y):seen.contains j=bef (qS ss) i j:=by
 have hN:(qS ss).flatten.length=ss.flatten.length:=by rw [qS_flat,List.length_map]
 rw [Bool.eq_iff_iff,List.contains_iff_mem,h j]
 exact Qu.reach_bef (by omega) (by omega)
theorem ev44' {H:AH} {ss:List (List Itm)} {iv av:AV} {n:Nat} (hic:iv.cells=[iv]/\iv.one=true) (hac:av.cells=[av]/\av.one=true) (haft:AftR H (aft (qS ss)) av) (hn:n < ss.flatten.length) (hfew:ss.flatten.length<=1000):∃ mb K,Ev Tryz.prog C0 W0 44 [.agg [iv,av],I n] H=some (.map mb,K)/\Agree H K/\∀ j L,j < ss.flatten.length->lookupA Tryz.prog 95 (.map mb) (I (j:Int)) false (K++L)=some (.bool (bef (qS ss) n j)):=by
 have hN:(qS ss).flatten.length=ss.flatten.length:=by rw [qS_flat,List.length_map]
 obtain ⟨mb,K,seen,h1,h2,_,h3,h4⟩:=ev44 (N:=ss.flatten.length) (n:=n) hic hac haft (by rw [Qu.aft_len,hN]) (fun l hl y hy=>by rw [<-hN]; exact Qu.aft_lt l hl y hy) (fun l hl=>by
   unfold aft at hl
   obtain ⟨m,hm,rfl⟩:=List.mem_map.1 hl
   exact Nat.lt_of_le_of_lt (aftTo_le _ _ _) (by omega)) hn (by omega)
 refine ⟨mb,K,h1,h2,fun j L hj=>?_⟩
 rw [lk95 (l:=seen) (c:=seen.length) (by rw [List.getElem?_append_left (lt_of_get h3)]; exact h3),seen_bef hn hj h4]
theorem ord_in {G:AH} {cs:List Cod} {m:List (List Int)} {ss:List (List Itm)} {vc iv av:AV} {a:Nat} (hc:CodsR G cs vc) (hcp:∀ c∈cs,c.params.length<=6) (hI:ItmsR G ss.flatten iv) (hrt:∀ x∈ss.flatten,rightP cs m x=true) (haf:AftR G (aft (qS ss)) av) (hic:iv.cells=[iv]/\iv.one=true) (hac:av.cells=[av]/\av.one=true) (hfew:ss.flatten.length<=1000) (hpa:G[a]? =some (.cells [iv,av] 93)) {i c:Nat} {w va:AV} (hiN:i < ss.flatten.length) (hcx:G[c]? =some (.cells (rowX (itmAt ss.flatten i) va) 34)) (hsx:SlS 32 1 G va ((itmAt ss.flatten i).args.map row1)) (hw:∀ j kk,j < i->indexAddrA Tryz.prog 31 w (.int kk (j:Nat))=indexAddrA Tryz.prog 31 iv (.int kk (j:Nat))):∀ (d j:Nat) (tm:List AV) (K:AH),i - j=d->j<=i->Agree G K->tm.length=64->tm.getD 0 uA=vc->tm.getD 9 uA=.ptr a 0->tm.getD 10 uA=I (i:Nat)->tm.getD 11 uA=.ptr c 0->tm.getD 25 uA=iv->tm.getD 26 uA=I (ss.flatten.length:Nat)->tm.getD 27 uA=I (i:Nat)->tm.getD 35 uA=w->tm.getD 36 uA=I (i:Nat)->tm.getD 37 uA=I ((j:Nat):Int) ->
   (allF (fun j=>ordP cs ss i j) i j=true->∃ X K1,EvC Tryz.prog C0 W0 plN l18_0 (tm,K)=some (.exit 2,(X,K1))/\X.length=64/\Agree G K1/\X.getD 0 uA=vc/\X.getD 9 uA=.ptr a 0/\X.getD 10 uA=I (i:Nat)/\X.getD 11 uA=.ptr c 0/\X.getD 25 uA=iv/\X.getD 26 uA=I (ss.flatten.length:Nat)/\X.getD 27 uA=I (i:Nat)/\X.getD 35 uA=w/\X.getD 36 uA=I (i:Nat))/\(allF (fun j=>ordP cs ss i j) i j=false->∃ Y K1,EvC Tryz.prog C0 W0 plN l18_0 (tm,K)=some (.ret,(Y,K1))/\Y.getD 6 uA=.bool false/\Y.getD 7 uA=I 0):=by
 intro d
 induction d with
 | zero =>
   intro j tm K hd hj hA hlen h0 h9 h10 h11 h25 h26 h27 h35 h36 h37
   have hjl:j=i:=by omega
   subst hjl
   have hlt:ltB (j:Int) (j:Nat)=false:=ltB_f (by omega)
   rw [allF_end (Nat.le_refl _),el18_0]
   refine ⟨fun _=>?_,fun h=>(by cases h)⟩
   simp -implicitDefEqProofs only [b18_0,Tryz.f18,aP,hlen,h0,h9,h10,h11,h25,h26,h27,h35,h36,h37,hlt,↓cbT,↓cbF,↓evDn,evUp,eu,sevalprocAttr]
   exact ⟨_,K,rfl,by simp only [ls,hlen],hA,by simp only [hlen,h0,h9,h10,h11,h25,h26,h27,h35,h36,gB,and_self,sevalprocAttr]⟩
 | succ d ih =>
   intro j tm K hd hj hA hlen h0 h9 h10 h11 h25 h26 h27 h35 h36 h37
   have hjN:j < i:=by omega
   have hjF:j < ss.flatten.length:=by omega
   have hlt:ltB (j:Int) (i:Nat)=true:=ltB_t (by omega)
   have hwi:=inc_i (j:=j) (by omega)
   obtain ⟨i0,k0,vb,hix,hrd,hsy⟩:=hI.at hA hjF
   have hix':∀ kk,indexAddrA Tryz.prog 31 w (.int kk (j:Nat))=some (.ptr i0 k0):=fun kk=>(hw j kk hjN).trans (hix kk)
   have hall:=allF_step (p:=(fun j=>ordP cs ss i j)) hjN
   have hrx:=hrt _ (itmAt_mem hiN)
   have hry:=hrt _ (itmAt_mem hjF)
   have hyc:=hsy.cells
   have hyo:=hsy.one
   have hxr:∀ L,rdCells (K++L) c 0 9=some (rowX (itmAt ss.flatten i) va):=fun L=>(hA.appR L).sub.rd (by unfold rdCells; rw [hcx]; rfl)
   have hpr:∀ K2,Agree G K2->∀ L,rdCells (K2++L) a 0 2=some [iv,av]:=fun K2 h2 L=>(h2.appR L).sub.rd (by unfold rdCells; rw [hpa]; rfl)
   have hA1:Agree G (K++[.cells (rowX (itmAt ss.flatten j) vb) 34]):=hA.appR _
   have h43:=ev43 (hc.agree hA1) hcp (hsx.same hA1) (hsy.same hA1) hrx hry
   obtain ⟨mb1,K2,h44a,hA2,hlk1⟩:=ev44' hic hac (haf.sub hA1.sub) hiN hfew
   have hA2G:=hA1.trans hA2
   obtain ⟨mb2,K3,h44b,hA3,hlk2⟩:=ev44' hic hac (haf.sub hA2G.sub) hjF hfew
   have hp0:=hpr K hA
   have hp2:=hpr K2 hA2G []
   have hl1:=hlk1 j [] hjF
   have hl2:=hlk2 i [] hiN
   rw [List.append_nil] at hp2 hl1 hl2
   have hput:∀ o,put none K o=some (K.length,K++[o]):=fun _=>rfl
   rw [el18_0]
   rw [<-List.append_nil K]
   have hoP:ordP cs ss i j=(!touchN cs (itmAt ss.flatten i) (itmAt ss.flatten j) || bef (qS ss) i j || bef (qS ss) j i):=rfl
   generalize itmAt ss.flatten i=x at *
   generalize itmAt ss.flatten j=y at *
   simp only [rowX] at hrd hxr h43 h44a
   cases hT:touchN cs x y with
   | false =>
     rw [hT] at hoP
     rw [show ordP cs ss i j=true from hoP,Bool.true_and] at hall
     simp -implicitDefEqProofs only [b18_0,Tryz.f18,aP,hlen,h0,h9,h10,h11,h25,h26,h27,h35,h36,h37,hlt,hix',hrd,hwi,z34w,st34,↓hyc,↓hyo,hput,hxr,↓fc43,↓fc44,h43,hT,ld93,hp0,r5,↓evLd,nck,↓cbT,↓cbF,↓evDn,evUp,eu,sevalprocAttr]
     generalize hX:EvC Tryz.prog C0 W0 _ _ _=Z
     have key:∀ (tm1:List AV) (K1:AH),EvC Tryz.prog C0 W0 plN l18_0 (tm1,K1)=Z->Agree G K1->tm1.length=64->tm1.getD 0 uA=vc->tm1.getD 9 uA=.ptr a 0->tm1.getD 10 uA=I (i:Nat)->tm1.getD 11 uA=.ptr c 0->tm1.getD 25 uA=iv->tm1.getD 26 uA=I (ss.flatten.length:Nat)->tm1.getD 27 uA=I (i:Nat)->tm1.getD 35 uA=w->tm1.getD 36 uA=I (i:Nat)->tm1.getD 37 uA=I ((j+1:Nat):Int)->(allF (fun j=>ordP cs ss i j) i (j+1)=true->∃ X K1,Z=some (.exit 2,(X,K1))/\X.length=64/\Agree G K1/\X.getD 0 uA=vc/\X.getD 9 uA=.ptr a 0/\X.getD 10 uA=I (i:Nat)/\X.getD 11 uA=.ptr c 0/\X.getD 25 uA=iv/\X.getD 26 uA=I (ss.flatten.length:Nat)/\X.getD 27 uA=I (i:Nat)/\X.getD 35 uA=w/\X.getD 36 uA=I (i:Nat))/\(allF (fun j=>ordP cs ss i j) i (j+1)=false->∃ Y K1,Z=some (.ret,(Y,K1))/\Y.getD 6 uA=.bool false/\Y.getD 7 uA=I 0):=by
       intro tm1 K1 h hA1 hl1 h0 h9 h10 h11 h25 h26 h27 h35 h36 h37
       rw [<-h]
       exact ih (j+1) tm1 K1 (by omega) (by omega) hA1 hl1 h0 h9 h10 h11 h25 h26 h27 h35 h36 h37
     rw [hall]
     exact key _ _ hX (hA.appR _) (by simp only [ls,hlen]) (by simp only [hlen,h0,gB,sevalprocAttr]) (by simp only [hlen,h9,gB,sevalprocAttr]) (by simp only [hlen,h10,gB,sevalprocAttr]) (by simp only [hlen,h11,gB,sevalprocAttr]) (by simp only [hlen,h25,gB,sevalprocAttr]) (by simp only [hlen,h26,gB,sevalprocAttr]) (by simp only [hlen,h27,gB,sevalprocAttr]) (by simp only [hlen,h35,gB,sevalprocAttr]) (by simp only [hlen,h36,gB,sevalprocAttr]) (by simp only [hlen,gB,sevalprocAttr])
   | true =>
     cases hb1:bef (qS ss) i j with
     | true =>
       rw [hT,hb1] at hoP
       rw [show ordP cs ss i j=true from hoP,Bool.true_and] at hall
       simp -implicitDefEqProofs only [b18_0,Tryz.f18,aP,hlen,h0,h9,h10,h11,h25,h26,h27,h35,h36,h37,hlt,hix',hrd,hwi,z34w,st34,↓hyc,↓hyo,hput,hxr,↓fc43,↓fc44,h43,hT,ld93,hp0,h44a,hl1,hb1,r5,↓evLd,nck,↓cbT,↓cbF,↓evDn,evUp,eu,sevalprocAttr]
       generalize hX:EvC Tryz.prog C0 W0 _ _ _=Z
       have key:∀ (tm1:List AV) (K1:AH),EvC Tryz.prog C0 W0 plN l18_0 (tm1,K1)=Z->Agree G K1->tm1.length=64->tm1.getD 0 uA=vc->tm1.getD 9 uA=.ptr a 0->tm1.getD 10 uA=I (i:Nat)->tm1.getD 11 uA=.ptr c 0->tm1.getD 25 uA=iv->tm1.getD 26 uA=I (ss.flatten.length:Nat)->tm1.getD 27 uA=I (i:Nat)->tm1.getD 35 uA=w->tm1.getD 36 uA=I (i:Nat)->tm1.getD 37 uA=I ((j+1:Nat):Int)->(allF (fun j=>ordP cs ss i j) i (j+1)=true->∃ X K1,Z=some (.exit 2,(X,K1))/\X.length=64/\Agree G K1/\X.getD 0 uA=vc/\X.getD 9 uA=.ptr a 0/\X.getD 10 uA=I (i:Nat)/\X.getD 11 uA=.ptr c 0/\X.getD 25 uA=iv/\X.getD 26 uA=I (ss.flatten.length:Nat)/\X.getD 27 uA=I (i:Nat)/\X.getD 35 uA=w/\X.getD 36 uA=I (i:Nat))/\(allF (fun j=>ordP cs ss i j) i (j+1)=false->∃ Y K1,Z=some (.ret,(Y,K1))/\Y.getD 6 uA=.bool false/\Y.getD 7 uA=I 0):=by
         intro tm1 K1 h hA1 hl1 h0 h9 h10 h11 h25 h26 h27 h35 h36 h37
         rw [<-h]
         exact ih (j+1) tm1 K1 (by omega) (by omega) hA1 hl1 h0 h9 h10 h11 h25 h26 h27 h35 h36 h37
       rw [hall]
       exact key _ _ hX (hA2G) (by simp only [ls,hlen]) (by simp only [hlen,h0,gB,sevalprocAttr]) (by simp only [hlen,h9,gB,sevalprocAttr]) (by simp only [hlen,h10,gB,sevalprocAttr]) (by simp only [hlen,h11,gB,sevalprocAttr]) (by simp only [hlen,h25,gB,sevalprocAttr]) (by simp only [hlen,h26,gB,sevalprocAttr]) (by simp only [hlen,h27,gB,sevalprocAttr]) (by simp only [hlen,h35,gB,sevalprocAttr]) (by simp only [hlen,h36,gB,sevalprocAttr]) (by simp only [hlen,gB,sevalprocAttr])
     | false =>
       cases hb2:bef (qS ss) j i with
       | true =>
         rw [hT,hb1,hb2] at hoP
         rw [show ordP cs ss i j=true from hoP,Bool.true_and] at hall
         simp -implicitDefEqProofs only [b18_0,Tryz.f18,aP,hlen,h0,h9,h10,h11,h25,h26,h27,h35,h36,h37,hlt,hix',hrd,hwi,z34w,st34,↓hyc,↓hyo,hput,hxr,↓fc43,↓fc44,h43,hT,ld93,hp0,h44a,hl1,hb1,h44b,hp2,hl2,hb2,r5,↓evLd,nck,↓cbT,↓cbF,↓evDn,evUp,eu,sevalprocAttr]
         generalize hX:EvC Tryz.prog C0 W0 _ _ _=Z
         have key:∀ (tm1:List AV) (K1:AH),EvC Tryz.prog C0 W0 plN l18_0 (tm1,K1)=Z->Agree G K1->tm1.length=64->tm1.getD 0 uA=vc->tm1.getD 9 uA=.ptr a 0->tm1.getD 10 uA=I (i:Nat)->tm1.getD 11 uA=.ptr c 0->tm1.getD 25 uA=iv->tm1.getD 26 uA=I (ss.flatten.length:Nat)->tm1.getD 27 uA=I (i:Nat)->tm1.getD 35 uA=w->tm1.getD 36 uA=I (i:Nat)->tm1.getD 37 uA=I ((j+1:Nat):Int)->(allF (fun j=>ordP cs ss i j) i (j+1)=true->∃ X K1,Z=some (.exit 2,(X,K1))/\X.length=64/\Agree G K1/\X.getD 0 uA=vc/\X.getD 9 uA=.ptr a 0/\X.getD 10 uA=I (i:Nat)/\X.getD 11 uA=.ptr c 0/\X.getD 25 uA=iv/\X.getD 26 uA=I (ss.flatten.length:Nat)/\X.getD 27 uA=I (i:Nat)/\X.getD 35 uA=w/\X.getD 36 uA=I (i:Nat))/\(allF (fun j=>ordP cs ss i j) i (j+1)=false->∃ Y K1,Z=some (.ret,(Y,K1))/\Y.getD 6 uA=.bool false/\Y.getD 7 uA=I 0):=by
           intro tm1 K1 h hA1 hl1 h0 h9 h10 h11 h25 h26 h27 h35 h36 h37
           rw [<-h]
           exact ih (j+1) tm1 K1 (by omega) (by omega) hA1 hl1 h0 h9 h10 h11 h25 h26 h27 h35 h36 h37
         rw [hall]
         exact key _ _ hX (hA2G.trans hA3) (by simp only [ls,hlen]) (by simp only [hlen,h0,gB,sevalprocAttr]) (by simp only [hlen,h9,gB,sevalprocAttr]) (by simp only [hlen,h10,gB,sevalprocAttr]) (by simp only [hlen,h11,gB,sevalprocAttr]) (by simp only [hlen,h25,gB,sevalprocAttr]) (by simp only [hlen,h26,gB,sevalprocAttr]) (by simp only [hlen,h27,gB,sevalprocAttr]) (by simp only [hlen,h35,gB,sevalprocAttr]) (by simp only [hlen,h36,gB,sevalprocAttr]) (by simp only [hlen,gB,sevalprocAttr])
       | false =>
         rw [hT,hb1,hb2] at hoP
         rw [show ordP cs ss i j=false from hoP,Bool.false_and] at hall
         rw [hall]
         refine ⟨fun h=>(by cases h),fun _=>?_⟩
         simp -implicitDefEqProofs only [b18_0,Tryz.f18,aP,hlen,h0,h9,h10,h11,h25,h26,h27,h35,h36,h37,hlt,hix',hrd,hwi,z34w,st34,↓hyc,↓hyo,hput,hxr,↓fc43,↓fc44,h43,hT,ld93,hp0,h44a,hl1,hb1,h44b,hp2,hl2,hb2,r5,↓evLd,nck,↓cbT,↓cbF,↓evDn,evUp,eu,sevalprocAttr]
         exact ⟨_,_,rfl,by simp only [hlen,gB,and_self,sevalprocAttr]⟩
end Go.Dv
namespace Go.Dv
open Go.Proofs
attribute [local congr] bind_congr_first cb_congr condA_congr gd_congr br_congr
open Qu (off item? isRecB recs nxt aft aftTo bef)
def ordB (cs:List Cod) (ss:List (List Itm)):Bool:=allF (fun i=>allF (fun j=>ordP cs ss i j) i 0) ss.flatten.length 0
theorem ord_in' {G:AH} {cs:List Cod} {m:List (List Int)} {ss:List (List Itm)} {vc iv av:AV} {a:Nat} (hc:CodsR G cs vc) (hcp:∀ c∈cs,c.params.length<=6) (hI:ItmsR G ss.flatten iv) (hrt:∀ x∈ss.flatten,rightP cs m x=true) (haf:AftR G (aft (qS ss)) av) (hic:iv.cells=[iv]/\iv.one=true) (hac:av.cells=[av]/\av.one=true) (hfew:ss.flatten.length<=1000) (hpa:G[a]? =some (.cells [iv,av] 93)) {i c:Nat} {w va:AV} (hiN:i < ss.flatten.length) (hcx:G[c]? =some (.cells (rowX (itmAt ss.flatten i) va) 34)) (hsx:SlS 32 1 G va ((itmAt ss.flatten i).args.map row1)) (hw:∀ j kk,j < i->indexAddrA Tryz.prog 31 w (.int kk (j:Nat))=indexAddrA Tryz.prog 31 iv (.int kk (j:Nat))) {tm:List AV} {K:AH} {Z:Option (AExit × St)} (hX:EvC Tryz.prog C0 W0 plN l18_0 (tm,K)=Z) (hA:Agree G K) (hlen:tm.length=64) (h0:tm.getD 0 uA=vc) (h9:tm.getD 9 uA=.ptr a 0) (h10:tm.getD 10 uA=I (i:Nat)) (h11:tm.getD 11 uA=.ptr c 0) (h25:tm.getD 25 uA=iv) (h26:tm.getD 26 uA=I (ss.flatten.length:Nat)) (h27:tm.getD 27 uA=I (i:Nat)) (h35:tm.getD 35 uA=w) (h36:tm.getD 36 uA=I (i:Nat)) (h37:tm.getD 37 uA=I ((0:Nat):Int)) :
   (allF (fun j=>ordP cs ss i j) i 0=true->∃ X K1,Z=some (.exit 2,(X,K1))/\X.length=64/\Agree G K1/\X.getD 0 uA=vc/\X.getD 9 uA=.ptr a 0/\X.getD 10 uA=I (i:Nat)/\X.getD 11 uA=.ptr c 0/\X.getD 25 uA=iv/\X.getD 26 uA=I (ss.flatten.length:Nat)/\X.getD 27 uA=I (i:Nat)/\X.getD 35 uA=w/\X.getD 36 uA=I (i:Nat))/\(allF (fun j=>ordP cs ss i j) i 0=false->∃ Y K1,Z=some (.ret,(Y,K1))/\Y.getD 6 uA=.bool false/\Y.getD 7 uA=I 0):=by
 subst hX
 exact ord_in hc hcp hI hrt haf hic hac hfew hpa hiN hcx hsx hw i 0 tm K rfl (Nat.zero_le _) hA hlen h0 h9 h10 h11 h25 h26 h27 h35 h36 h37
theorem ord_out {G:AH} {cs:List Cod} {m:List (List Int)} {ss:List (List Itm)} {vc iv av:AV} {a:Nat} (hc:CodsR G cs vc) (hcp:∀ c∈cs,c.params.length<=6) (hI:ItmsR G ss.flatten iv) (hrt:∀ x∈ss.flatten,rightP cs m x=true) (haf:AftR G (aft (qS ss)) av) (hic:iv.cells=[iv]/\iv.one=true) (hac:av.cells=[av]/\av.one=true) (hfew:ss.flatten.length<=1000) (hpa:G[a]? =some (.cells [iv,av] 93)) (hiv:(iv=.nilSlice/\ss.flatten.length=0)∨∃ b,iv=.slice b 0 9 ss.flatten.length ss.flatten.length false):∀ (d i:Nat) (tm:List AV) (K:AH),ss.flatten.length - i=d->i<=ss.flatten.length->Agree G K->tm.length=64->tm.getD 0 uA=vc->tm.getD 9 uA=.ptr a 0->tm.getD 25 uA=iv->tm.getD 26 uA=I (ss.flatten.length:Nat)->tm.getD 27 uA=I ((i:Nat):Int) ->
   (allF (fun i=>allF (fun j=>ordP cs ss i j) i 0) ss.flatten.length i=true->∃ X K1,EvC Tryz.prog C0 W0 plN l18_1 (tm,K)=some (.exit 0,(X,K1))/\X.length=64)/\(allF (fun i=>allF (fun j=>ordP cs ss i j) i 0) ss.flatten.length i=false->∃ Y K1,EvC Tryz.prog C0 W0 plN l18_1 (tm,K)=some (.ret,(Y,K1))/\Y.getD 6 uA=.bool false/\Y.getD 7 uA=I 0):=by
 intro d
 induction d with
 | zero =>
   intro i tm K hd hi hA hlen h0 h9 h25 h26 h27
   have hil:i=ss.flatten.length:=by omega
   subst hil
   have hlt:ltB (ss.flatten.length:Nat) (ss.flatten.length:Nat)=false:=ltB_f (by omega)
   rw [allF_end (Nat.le_refl _),el18_1]
   refine ⟨fun _=>?_,fun h=>(by cases h)⟩
   simp -implicitDefEqProofs only [b18_1,Tryz.f18,aP,hlen,h0,h9,h25,h26,h27,hlt,↓cbT,↓cbF,↓evDn,evUp,eu,sevalprocAttr]
   exact ⟨_,K,rfl,by simp only [ls,hlen]⟩
 | succ d ih =>
   intro i tm K hd hi hA hlen h0 h9 h25 h26 h27
   have hiN:i < ss.flatten.length:=by omega
   have hlt:ltB (i:Int) (ss.flatten.length:Nat)=true:=ltB_t (by omega)
   have hwi:=inc_i (j:=i) (by omega)
   obtain ⟨i0,k0,va,hix,hrd,hsx⟩:=hI.at hA hiN
   have hall:=allF_step (p:=(fun i=>allF (fun j=>ordP cs ss i j) i 0)) hiN
   obtain ⟨b,hb⟩:∃ b,iv=.slice b 0 9 ss.flatten.length ss.flatten.length false:=by
     rcases hiv with ⟨_,e⟩ | h
     · omega
     · exact h
   have hsl:=fun H=>sl31_hi H (i:=b) (k:=0) (l:=ss.flatten.length) (c:=ss.flatten.length) (n:=i) (e:=false) (by omega)
   have hln:=fun H=>ln31 H b 0 9 i ss.flatten.length false
   rw [<-hb] at hsl
   have hxc:=hsx.cells
   have hxo:=hsx.one
   have hpr:∀ L,rdCells (K++L) a 0 1=some [iv]:=fun L=>(hA.appR L).sub.rd (by unfold rdCells; rw [hpa]; rfl)
   have hput:∀ o,put none K o=some (K.length,K++[o]):=fun _=>rfl
   have hw:∀ j kk,j < i->indexAddrA Tryz.prog 31 (.slice b 0 9 i ss.flatten.length false) (.int kk (j:Nat))=indexAddrA Tryz.prog 31 iv (.int kk (j:Nat)):=fun j kk hj=>by
     rw [hb,ix31T.ia,ix31T.ia,if_pos ⟨by omega,by omega,rfl⟩,if_pos ⟨by omega,by omega,rfl⟩]
   have hA1:Agree G (K++[.cells (rowX (itmAt ss.flatten i) va) 34]):=hA.appR _
   have hin:=@ord_in' (K++[.cells (rowX (itmAt ss.flatten i) va) 34]) cs m ss vc iv av a (hc.agree hA1) hcp (hI.agree hA1) hrt (haf.sub hA1.sub) hic hac hfew (hA1.get hpa) i K.length (.slice b 0 9 i ss.flatten.length false) va hiN (by rw [List.getElem?_append_right (Nat.le_refl _),Nat.sub_self]; rfl) (hsx.sub hA1.sub) hw
   have hii:(fun j=>ordP cs ss i j)=(fun j=>ordP cs ss i j):=rfl
   rw [el18_1]
   rw [<-List.append_nil K]
   generalize hxe:itmAt ss.flatten i=x at *
   simp only [rowX] at hrd
   simp -implicitDefEqProofs only [b18_1,Tryz.f18,aP,hlen,h0,h9,h25,h26,h27,hlt,hix,hrd,z34w,st34,↓hxc,↓hxo,hput,hpr,fa93_0,hsl,hln,r5,↓evLd,nck,↓cbT,↓cbF,↓evDn,evUp,eu,sevalprocAttr]
   generalize hX:EvC Tryz.prog C0 W0 plN _ _=Z
   obtain ⟨hT,hF⟩:=hin hX (Agree.refl _) (by simp only [ls,hlen]) (by simp only [hlen,h0,gB,sevalprocAttr]; try rfl) (by simp only [hlen,h9,gB,sevalprocAttr]; try rfl) (by simp only [hlen,gB,sevalprocAttr]; try rfl) (by simp only [hlen,gB,sevalprocAttr]; try rfl) (by simp only [hlen,h25,gB,sevalprocAttr]; try rfl) (by simp only [hlen,h26,gB,sevalprocAttr]; try rfl) (by simp only [hlen,h27,gB,sevalprocAttr]; try rfl) (by simp only [hlen,gB,sevalprocAttr]; try rfl) (by simp only [hlen,gB,sevalprocAttr]; try rfl) (by simp only [hlen,gB,sevalprocAttr]; try rfl)
   cases hc1:allF (fun j=>ordP cs ss i j) i 0 with
   | false =>
     obtain ⟨Y,K1,e,y6,y7⟩:=hF hc1
     subst e
     rw [hall,hc1,Bool.false_and]
     refine ⟨fun h=>(by cases h),fun _=>?_⟩
     simp -implicitDefEqProofs only [b18_1,Tryz.f18,aP,hlen,h0,h9,h25,h26,h27,hlt,r5,↓evLd,nck,↓cbT,↓cbF,↓evDn,evUp,eu,sevalprocAttr]
     exact ⟨Y,K1,rfl,y6,y7⟩
   | true =>
     obtain ⟨X,K1,e,hXl,hA2,x0,x9,x10,x11,x25,x26,x27,x35,x36⟩:=hT hc1
     subst e
     rw [hall,hc1,Bool.true_and]
     simp -implicitDefEqProofs only [b18_1,Tryz.f18,aP,hlen,h0,h9,h25,h26,h27,hlt,hXl,x0,x9,x25,x26,x27,hwi,r5,↓evLd,nck,↓cbT,↓cbF,↓evDn,evUp,eu,sevalprocAttr]
     generalize hY:EvC Tryz.prog C0 W0 plN _ _=Z
     have key:∀ (tm1:List AV) (K1:AH),EvC Tryz.prog C0 W0 plN l18_1 (tm1,K1)=Z->Agree G K1->tm1.length=64->tm1.getD 0 uA=vc->tm1.getD 9 uA=.ptr a 0->tm1.getD 25 uA=iv->tm1.getD 26 uA=I (ss.flatten.length:Nat)->tm1.getD 27 uA=I ((i+1:Nat):Int)->(allF (fun i=>allF (fun j=>ordP cs ss i j) i 0) ss.flatten.length (i+1)=true->∃ X K1,Z=some (.exit 0,(X,K1))/\X.length=64)/\(allF (fun i=>allF (fun j=>ordP cs ss i j) i 0) ss.flatten.length (i+1)=false->∃ Y K1,Z=some (.ret,(Y,K1))/\Y.getD 6 uA=.bool false/\Y.getD 7 uA=I 0):=by
       intro tm1 K1 h hA1 hl1 h0 h9 h25 h26 h27
       rw [<-h]
       exact ih (i+1) tm1 K1 (by omega) (by omega) hA1 hl1 h0 h9 h25 h26 h27
     exact key _ _ hY (hA1.trans hA2) (by simp only [ls,hXl]) (by simp only [hXl,x0,gB,sevalprocAttr]) (by simp only [hXl,x9,gB,sevalprocAttr]) (by simp only [hXl,x25,gB,sevalprocAttr]) (by simp only [hXl,x26,gB,sevalprocAttr]) (by simp only [hXl,gB,sevalprocAttr])
theorem ord_out' {G:AH} {cs:List Cod} {m:List (List Int)} {ss:List (List Itm)} {vc iv av:AV} {a:Nat} (hc:CodsR G cs vc) (hcp:∀ c∈cs,c.params.length<=6) (hI:ItmsR G ss.flatten iv) (hrt:∀ x∈ss.flatten,rightP cs m x=true) (haf:AftR G (aft (qS ss)) av) (hic:iv.cells=[iv]/\iv.one=true) (hac:av.cells=[av]/\av.one=true) (hfew:ss.flatten.length<=1000) (hpa:G[a]? =some (.cells [iv,av] 93)) (hiv:(iv=.nilSlice/\ss.flatten.length=0)∨∃ b,iv=.slice b 0 9 ss.flatten.length ss.flatten.length false) {tm:List AV} {K:AH} {Z:Option (AExit × St)} (hX:EvC Tryz.prog C0 W0 plN l18_1 (tm,K)=Z) (hA:Agree G K) (hlen:tm.length=64) (h0:tm.getD 0 uA=vc) (h9:tm.getD 9 uA=.ptr a 0) (h25:tm.getD 25 uA=iv) (h26:tm.getD 26 uA=I (ss.flatten.length:Nat)) (h27:tm.getD 27 uA=I ((0:Nat):Int)) :
   (allF (fun i=>allF (fun j=>ordP cs ss i j) i 0) ss.flatten.length 0=true->∃ X K1,Z=some (.exit 0,(X,K1))/\X.length=64)/\(allF (fun i=>allF (fun j=>ordP cs ss i j) i 0) ss.flatten.length 0=false->∃ Y K1,Z=some (.ret,(Y,K1))/\Y.getD 6 uA=.bool false/\Y.getD 7 uA=I 0):=by
 subst hX
 exact ord_out hc hcp hI hrt haf hic hac hfew hpa hiv ss.flatten.length 0 tm K rfl (Nat.zero_le _) hA hlen h0 h9 h25 h26 h27
theorem ev18 {H:AH} {cs:List Cod} {m:List (List Int)} {ss:List (List Itm)} {vc vm vs:AV} (hc:CodsR H cs vc) (hm:MemR H m vm) (hs:StrsR H ss vs) (hk:checkP cs m ss plainC=0) (hg:Good cs m ss plainC):Ev Tryz.prog C0 W0 18 [vc,vm,vs] H=some (.tuple [.bool (ordB cs ss),I 0],H):=by
 obtain ⟨tm,ht,g0,g1,g2,g3⟩:=tm3 vc vm vs 64 (by decide)
 rw [fe18,ht]
 rw [<-List.append_nil (ro H)]
 have hH0:=Agree.app (ro H) [AObj.cells (rowF plainC) 27]
 have h26:=ev26 (hc.ro.agree hH0) (hm.ro.agree hH0) (hs.ro.agree hH0) plainC
 have h41:=ev41
 rw [hk] at h26
 have hq0:eqB 0 0=true:=rfl
 have hfew:ss.flatten.length<=1000:=by rw [List.length_flatten]; have:=hg.few; omega
 have hcp:∀ c∈cs,c.params.length<=6:=fun c hc=>(hg.cod c hc).1
 have hrt:∀ x∈ss.flatten,rightP cs m x=true:=fun x hx=>by
   obtain ⟨l,h1,h2⟩:=List.mem_flatten.1 hx
   exact hg.it l h1 x h2
 obtain ⟨iv,av,K,h42,hS,hlK,hI,haf,hic,hac,hiv⟩:=ev42 (hs.ro.agree hH0) hfew (fun l hl x hx hkx=>(hg.ev l hl x hx hkx).1)
 have hS0:Sub (ro H) K:=(hH0.sub).trans hS
 have hput:∀ o,put none K o=some (K.length,K++[o]):=fun _=>rfl
 have hic1:=hic.1
 have hac1:=hac.1
 have hic2:=hic.2
 have hac2:=hac.2
 have hA:=Agree.app K [AObj.cells [iv,av] 93]
 have hln:=hI.len
 have hout:=@ord_out' (K++[.cells [iv,av] 93]) cs m ss vc iv av K.length (hc.ro.sub (hS0.trans hA.sub)) hcp (hI.agree hA) hrt (haf.sub hA.sub) hic hac hfew (by rw [List.getElem?_append_right (Nat.le_refl _),Nat.sub_self]; rfl) hiv
 simp only [rowF,plainC] at h26 h41 h42
 rw [<-List.append_nil K] at h42
 simp -implicitDefEqProofs only [c18,Tryz.f18,aP,g0,g1,g2,g3,↓fc41,h41,↓fc26,h26,hq0,↓fc42,h42,z93,ld93,st93,↓hic1,↓hac1,↓hic2,↓hac2,hput,fa93_0,hln,r5,↓evLd,nck,↓cbT,↓cbF,↓evDn,evUp,eu,sevalprocAttr]
 generalize hX:EvC Tryz.prog C0 W0 plN _ _=Z
 obtain ⟨hT,hF⟩:=hout hX (Agree.refl _) (by simp only [ls,g0]) (by simp only [g0,g1,gB,sevalprocAttr]) (by simp only [g0,gB,sevalprocAttr]) (by simp only [g0,gB,sevalprocAttr]) (by simp only [g0,gB,sevalprocAttr]) (by simp only [g0,gB,sevalprocAttr]; try rfl)
 cases hB:ordB cs ss with
 | true =>
   obtain ⟨X,K1,e,hXl⟩:=hT hB
   subst e
   simp -implicitDefEqProofs only [c18,Tryz.f18,aP,hXl,r5,↓evLd,nck,↓cbT,↓cbF,↓evDn,evUp,eu,sevalprocAttr]
 | false =>
   obtain ⟨Y,K1,e,y6,y7⟩:=hF hB
   subst e
   simp -implicitDefEqProofs only [c18,Tryz.f18,aP,y6,y7,r5,↓evLd,nck,↓cbT,↓cbF,↓evDn,evUp,eu,sevalprocAttr]
end Go.Dv
namespace Go.Dv
open Go.Proofs
end Go.Dv
namespace Go.Dv
open Go.Proofs
attribute [local congr] bind_congr_first cb_congr condA_congr gd_congr br_congr
theorem ia23 (i k es len cap:Nat) (ex:Bool) (kk:IntKind) (n:Int):indexAddrA Tryz.prog 23 (.slice i k es len cap ex) (.int kk n)=if 0<=n/\n < len/\1=es then some (.ptr i (k+n.toNat * es)) else none:=by kernel_rfl
theorem ln23 (H:AH) (i k es len cap:Nat) (ex:Bool):lenA Tryz.prog 23 H (.slice i k es len cap ex)=some (.int .i64 len):=by kernel_rfl
theorem ln23n (H:AH):lenA Tryz.prog 23 H .nilSlice=some (.int .i64 0):=by kernel_rfl
theorem ix23T:IxT 23 1:=⟨ln23n,ln23,ia23⟩
theorem SlS.as {T U es:Nat} (X:IxT U es) {H:AH} {v:AV} {rows:List (List AV)} (h:SlS T es H v rows) (hr:∀ r∈rows,r.length=es):SlS U es H v rows:=by
 rcases h.old with ⟨rfl,rfl⟩ | ⟨i,k,c,e,rfl,h1,h2⟩
 · exact sls_nil X H
 · exact sls_of X hr h1 h2
theorem mem23_len {H:AH} {m:List (List Int)} {v:AV} (h:MemR H m v) (G:AH):lenA Tryz.prog 23 G v=some (I (m.length:Nat)):=by
 obtain ⟨⟨l,rfl,hs,hc⟩,n,_⟩:=h
 have:=(hs.as ix23T (fun r hr=>by obtain ⟨p,_,rfl⟩:=List.mem_map.1 hr; rfl)).len G
 rw [List.length_map] at this ⊢
 exact this
theorem mem23_at {H:AH} {m:List (List Int)} {v:AV} (h:MemR H m v) {j:Nat} (hj:j < m.length):∃ i k w,(∀ kk,indexAddrA Tryz.prog 23 v (.int kk (j:Int))=some (.ptr i k))/\rdCells H i k 1=some [w]/\SlS 32 1 H w ((bufOf m j).map row1):=by
 obtain ⟨⟨l,rfl,hs,hc⟩,n,_⟩:=h
 have hj':j < l.length:=by rwa [List.length_map] at hj
 obtain ⟨i,k,hi,hr⟩:=(hs.as ix23T (fun r hr=>by obtain ⟨p,_,rfl⟩:=List.mem_map.1 hr; rfl)).ix j _ (by rw [List.getElem?_map,List.getElem?_eq_getElem hj']; rfl)
 have e:bufOf (l.map (·.1)) j=(l[j]'hj').1:=by unfold bufOf; rw [getD_at hj,List.getElem_map]
 rw [e]
 exact ⟨i,k,_,hi,hr,hc _ (List.getElem_mem _)⟩
theorem w32_at {H:AH} {w:AV} {b:List Int} (h:SlS 32 1 H w (b.map row1)) {j:Nat} (hj:j < b.length):∃ i k,(∀ kk,indexAddrA Tryz.prog 32 w (.int kk (j:Int))=some (.ptr i k))/\rdCells H i k 1=some [.int .i32 (b.getD j 0)]:=by
 obtain ⟨i,k,h1,h2⟩:=h.ix j (row1 (b.getD j 0)) (by rw [List.getElem?_map,List.getElem?_eq_getElem hj,gde,List.getElem?_eq_getElem hj]; rfl)
 exact ⟨i,k,h1,h2⟩
theorem same_in {K:AH} {m:List (List Int)} {va vb:AV} (h1:MemR K m va) (h2:MemR K m vb) {i:Nat} (hi:i < m.length):∀ (d q:Nat) (tm:List AV),(bufOf m i).length - q=d->q<=(bufOf m i).length->(tm.length=53/\tm.getD 0 uA=va/\tm.getD 1 uA=vb/\tm.getD 5 uA=I (i:Nat)/\tm.getD 6 uA=I ((q:Nat):Int)) ->
   ∃ X,EvC Tryz.prog C0 W0 pl25 l25_0 (tm,K)=some (.exit 2,(X,K))/\(X.length=53/\X.getD 0 uA=va/\X.getD 1 uA=vb/\X.getD 5 uA=I (i:Nat)):=by
 obtain ⟨i1,k1,wa,a1,a2,a3⟩:=mem23_at h1 hi
 obtain ⟨i2,k2,wb,b1,b2,b3⟩:=mem23_at h2 hi
 have la:=fun G=>sl32 a3 G
 have lb:=fun G=>sl32 b3 G
 have hbl:(bufOf m i).length < 2 ^ 50:=h1.nb _ (by unfold bufOf; rw [getD_at hi]; exact List.getElem_mem _)
 intro d
 induction d with
 | zero =>
   intro q tm hd hq hI
   have hql:q=(bufOf m i).length:=by omega
   obtain ⟨hlen,c0,c1,c5,c6⟩:=hI
   have hlt:ltB (q:Int) ((bufOf m i).length:Nat)=false:=ltB_f (by omega)
   rw [el25_0]
   simp -implicitDefEqProofs only [b25_0,Tryz.f25,aP,hlen,c0,c1,c5,c6,hlt,a1,a2,la,r5,↓evLd,nck,↓cbT,↓cbF,↓evDn,evUp,eu,sevalprocAttr]
   exact ⟨_,rfl,by simp only [ls,hlen],by simp only [hlen,c0,c1,c5,gB,and_self,sevalprocAttr]⟩
 | succ d ih =>
   intro q tm hd hq hI
   obtain ⟨hlen,c0,c1,c5,c6⟩:=hI
   have hqN:q < (bufOf m i).length:=by omega
   have hlt:ltB (q:Int) ((bufOf m i).length:Nat)=true:=ltB_t (by omega)
   have hw:=inc_i (j:=q) (by omega)
   obtain ⟨i3,k3,d1,d2⟩:=w32_at a3 hqN
   obtain ⟨i4,k4,e1,e2⟩:=w32_at b3 hqN
   have heq:=eqB_self ((bufOf m i).getD q 0)
   rw [el25_0]
   simp -implicitDefEqProofs only [b25_0,Tryz.f25,aP,hlen,c0,c1,c5,c6,hlt,hw,a1,a2,la,b1,b2,d1,d2,e1,e2,heq,plr25_11,r5,↓evLd,nck,↓cbT,↓cbF,↓evDn,evUp,eu,sevalprocAttr]
   exact ih (q+1) _ (by omega) (by omega) ⟨by simp only [ls,hlen],by simp only [hlen,c0,c1,c5,gB,and_self,sevalprocAttr]⟩
theorem same_in' {K:AH} {m:List (List Int)} {va vb:AV} (h1:MemR K m va) (h2:MemR K m vb) {i:Nat} (hi:i < m.length) {tm:List AV} {Z:Option (AExit × St)} (hX:EvC Tryz.prog C0 W0 pl25 l25_0 (tm,K)=Z) (hI:tm.length=53/\tm.getD 0 uA=va/\tm.getD 1 uA=vb/\tm.getD 5 uA=I (i:Nat)/\tm.getD 6 uA=I ((0:Nat):Int)):∃ X,Z=some (.exit 2,(X,K))/\(X.length=53/\X.getD 0 uA=va/\X.getD 1 uA=vb/\X.getD 5 uA=I (i:Nat)):=by
 subst hX
 exact same_in h1 h2 hi _ 0 tm rfl (Nat.zero_le _) hI
theorem same_out {K:AH} {m:List (List Int)} {va vb:AV} (h1:MemR K m va) (h2:MemR K m vb):∀ (d i:Nat) (tm:List AV),m.length - i=d->i<=m.length->(tm.length=53/\tm.getD 0 uA=va/\tm.getD 1 uA=vb/\tm.getD 5 uA=I ((i:Nat):Int)) ->
   ∃ X,EvC Tryz.prog C0 W0 pl25 l25_1 (tm,K)=some (.exit 0,(X,K))/\X.length=53:=by
 have lm:=fun G=>mem23_len h1 G
 have hmn:=h1.n
 intro d
 induction d with
 | zero =>
   intro i tm hd hi hI
   obtain ⟨hlen,c0,c1,c5⟩:=hI
   have hlt:ltB (i:Int) (m.length:Nat)=false:=ltB_f (by omega)
   rw [el25_1]
   simp -implicitDefEqProofs only [b25_1,Tryz.f25,aP,hlen,c0,c1,c5,hlt,lm,r5,↓evLd,nck,↓cbT,↓cbF,↓evDn,evUp,eu,sevalprocAttr]
   exact ⟨_,rfl,by simp only [ls,hlen]⟩
 | succ d ih =>
   intro i tm hd hi hI
   obtain ⟨hlen,c0,c1,c5⟩:=hI
   have hiN:i < m.length:=by omega
   have hlt:ltB (i:Int) (m.length:Nat)=true:=ltB_t (by omega)
   have hw:=inc_i (j:=i) (by omega)
   obtain ⟨i1,k1,wa,a1,a2,a3⟩:=mem23_at h1 hiN
   obtain ⟨i2,k2,wb,b1,b2,b3⟩:=mem23_at h2 hiN
   have la:=fun G=>sl32 a3 G
   have lb:=fun G=>sl32 b3 G
   have heq:=eqB_self ((bufOf m i).length:Nat)
   rw [el25_1]
   simp -implicitDefEqProofs only [b25_1,Tryz.f25,aP,hlen,c0,c1,c5,hlt,lm,a1,a2,b1,b2,la,lb,heq,plr25_6,r5,↓evLd,nck,↓cbT,↓cbF,↓evDn,evUp,eu,sevalprocAttr]
   generalize hX:EvC Tryz.prog C0 W0 pl25 (Code.loop _) _=Z
   obtain ⟨X,he,x0,xa,xb,x5⟩:=same_in' h1 h2 hiN hX ⟨by simp only [ls,hlen],Aj3 (by simp only [hlen,c0,c1,c5,gB,and_self,sevalprocAttr]) (by simp only [hlen,gB,sevalprocAttr]; try rfl)⟩
   subst he
   simp -implicitDefEqProofs only [x0,xa,xb,x5,hw,↓cbT,↓cbF,↓evDn,evUp,eu,sevalprocAttr]
   exact ih (i+1) _ (by omega) (by omega) ⟨by simp only [ls,x0],by simp only [x0,xa,xb,gB,and_self,sevalprocAttr]⟩
theorem same_out' {K:AH} {m:List (List Int)} {va vb:AV} (h1:MemR K m va) (h2:MemR K m vb) {tm:List AV} {Z:Option (AExit × St)} (hX:EvC Tryz.prog C0 W0 pl25 l25_1 (tm,K)=Z) (hI:tm.length=53/\tm.getD 0 uA=va/\tm.getD 1 uA=vb/\tm.getD 5 uA=I ((0:Nat):Int)):∃ X,Z=some (.exit 0,(X,K))/\X.length=53:=by
 subst hX
 exact same_out h1 h2 _ 0 tm rfl (Nat.zero_le _) hI
theorem ev25 {H:AH} {m:List (List Int)} {va vb:AV} (h1:MemR H m va) (h2:MemR H m vb):Ev Tryz.prog C0 W0 25 [va,vb] H=some (.bool true,H):=by
 obtain ⟨tm,ht,g0,g1,g2⟩:=tm2 va vb 53 (by decide)
 rw [fe25,ht]
 have la:=fun G=>mem23_len h1 G
 have lb:=fun G=>mem23_len h2 G
 have heq:=eqB_self (m.length:Nat)
 simp -implicitDefEqProofs only [c25,Tryz.f25,aP,g0,g1,g2,la,lb,heq,r5,↓evLd,nck,↓cbT,↓cbF,↓evDn,evUp,eu,sevalprocAttr]
 generalize hX:EvC Tryz.prog C0 W0 pl25 (Code.loop _) _=Z
 obtain ⟨X,he,x0⟩:=same_out' h1.ro h2.ro hX ⟨by simp only [ls,g0],Aj2 (by simp only [g0,g1,g2,gB,and_self,sevalprocAttr]) (by simp only [g0,gB,sevalprocAttr]; try rfl)⟩
 subst he
 simp -implicitDefEqProofs only [x0,↓cbT,↓cbF,↓evDn,evUp,eu,sevalprocAttr]
theorem nums_l {K:AH} {l:List Nat} {va vb:AV} (h1:SlS 30 1 K va (ints l)) (h2:SlS 30 1 K vb (ints l)) (hl:l.length < 2 ^ 50):∀ (d i:Nat) (tm:List AV),l.length - i=d->i<=l.length->(tm.length=26/\tm.getD 0 uA=va/\tm.getD 1 uA=vb/\tm.getD 5 uA=I ((i:Nat):Int)) ->
   ∃ X,EvC Tryz.prog C0 W0 pl13 l13_0 (tm,K)=some (.exit 0,(X,K))/\X.length=26:=by
 have lm:=fun G=>ints_ln h1 G
 intro d
 induction d with
 | zero =>
   intro i tm hd hi hI
   obtain ⟨hlen,c0,c1,c5⟩:=hI
   have hlt:ltB (i:Int) (l.length:Nat)=false:=ltB_f (by omega)
   rw [el13_0]
   simp -implicitDefEqProofs only [b13_0,Tryz.f13,aP,hlen,c0,c1,c5,hlt,lm,r5,↓evLd,nck,↓cbT,↓cbF,↓evDn,evUp,eu,sevalprocAttr]
   exact ⟨_,rfl,by simp only [ls,hlen]⟩
 | succ d ih =>
   intro i tm hd hi hI
   obtain ⟨hlen,c0,c1,c5⟩:=hI
   have hiN:i < l.length:=by omega
   have hlt:ltB (i:Int) (l.length:Nat)=true:=ltB_t (by omega)
   have hw:=inc_i (j:=i) (by omega)
   obtain ⟨i1,k1,a1,a2⟩:=ints_at h1 (Agree.refl K) hiN
   obtain ⟨i2,k2,b1,b2⟩:=ints_at h2 (Agree.refl K) hiN
   have a2:=a2 []
   have b2:=b2 []
   rw [List.append_nil] at a2 b2
   have heq:=eqB_self ((l.getD i 0:Nat):Int)
   rw [el13_0]
   simp -implicitDefEqProofs only [b13_0,Tryz.f13,aP,hlen,c0,c1,c5,hlt,lm,a1,a2,b1,b2,heq,hw,plr13_6,r5,↓evLd,nck,↓cbT,↓cbF,↓evDn,evUp,eu,sevalprocAttr]
   exact ih (i+1) _ (by omega) (by omega) ⟨by simp only [ls,hlen],by simp only [hlen,c0,c1,gB,and_self,sevalprocAttr]⟩
theorem nums_l' {K:AH} {l:List Nat} {va vb:AV} (h1:SlS 30 1 K va (ints l)) (h2:SlS 30 1 K vb (ints l)) (hl:l.length < 2 ^ 50) {tm:List AV} {Z:Option (AExit × St)} (hX:EvC Tryz.prog C0 W0 pl13 l13_0 (tm,K)=Z) (hI:tm.length=26/\tm.getD 0 uA=va/\tm.getD 1 uA=vb/\tm.getD 5 uA=I ((0:Nat):Int)):∃ X,Z=some (.exit 0,(X,K))/\X.length=26:=by
 subst hX
 exact nums_l h1 h2 hl _ 0 tm rfl (Nat.zero_le _) hI
theorem ev13 {H:AH} {l:List Nat} {va vb:AV} (h1:SlS 30 1 H va (ints l)) (h2:SlS 30 1 H vb (ints l)) (hl:l.length < 2 ^ 50):Ev Tryz.prog C0 W0 13 [va,vb] H=some (.bool true,H):=by
 obtain ⟨tm,ht,g0,g1,g2⟩:=tm2 va vb 26 (by decide)
 rw [fe13,ht]
 have la:=fun G=>ints_ln h1 G
 have lb:=fun G=>ints_ln h2 G
 have heq:=eqB_self (l.length:Nat)
 simp -implicitDefEqProofs only [c13,Tryz.f13,aP,g0,g1,g2,la,lb,heq,r5,↓evLd,nck,↓cbT,↓cbF,↓evDn,evUp,eu,sevalprocAttr]
 generalize hX:EvC Tryz.prog C0 W0 pl13 (Code.loop _) _=Z
 obtain ⟨X,he,x0⟩:=nums_l' h1.ro h2.ro hl hX ⟨by simp only [ls,g0],Aj2 (by simp only [g0,g1,g2,gB,and_self,sevalprocAttr]) (by simp only [g0,gB,sevalprocAttr]; try rfl)⟩
 subst he
 simp -implicitDefEqProofs only [x0,↓cbT,↓cbF,↓evDn,evUp,eu,sevalprocAttr]
end Go.Dv
namespace Go.Dv
open Go.Proofs
attribute [local congr] bind_congr_first cb_congr condA_congr gd_congr br_congr
open Qu (off item? places)
end Go.Dv
namespace Go.Dv
open Go.Proofs
attribute [local congr] bind_congr_first cb_congr condA_congr gd_congr br_congr
theorem u3:Tryz.prog.underlying 3=some (.int .i64):=by kernel_rfl
def ta:AV->Option Int
 | .iface t (.int k n)=>if t=3/\k=.i64 then some n else none
 | _=>none
def nkB (x:Itm):Bool:=!eqB x.kind 0
def bareS (ss:List (List Itm)):List (List Itm):=ss.map (·.filter nkB)
end Go.Dv
namespace Go.Dv
open Go.Proofs
end Go.Dv
namespace Go.Dv
open Go.Proofs
attribute [local congr] bind_congr_first cb_congr condA_congr gd_congr br_congr
theorem set_self {K:AH} {i:Nat} {o:AObj} (h:K[i]? =some o):K.set i o=K:=by
 obtain ⟨h1,e⟩:=List.getElem?_eq_some_iff.1 h
 rw [<-e,List.set_getElem_self]
end Go.Dv
namespace Go.Dv
open Go.Proofs
end Go.Dv
namespace Go.Dv
open Go.Proofs
open Qu (places recs baseB)
end Go.Dv
namespace Go.Dv
open Go.Proofs
attribute [local congr] bind_congr_first cb_congr condA_congr gd_congr br_congr
end Go.Dv
namespace Go.Dv
open Go.Proofs
theorem bare_mem {ss:List (List Itm)} {l:List Itm} (h:l∈bareS ss):∃ l0∈ss,l=l0.filter nkB:=by
 unfold bareS at h
 obtain ⟨l0,h0,rfl⟩:=List.mem_map.1 h
 exact ⟨l0,h0,rfl⟩
theorem nkB_iff {x:Itm}:nkB x=true↔x.kind≠0:=by
 unfold nkB
 rw [Bool.not_eq_true',<-Bool.not_eq_true,eqB_iff]
theorem bare_nk {ss:List (List Itm)}:∀ l∈bareS ss,∀ x∈l,x.kind≠0:=by
 intro l hl x hx
 obtain ⟨l0,_,rfl⟩:=bare_mem hl
 exact nkB_iff.1 (List.mem_filter.1 hx).2
theorem evok_of {cs:List Cod} {m:List (List Int)} {ss:List (List Itm)} {f:Con} (hg:Good cs m ss f):EvOk ss:=fun l hl x hx hk=>rightP_ev (hg.it l hl x hx) hk
end Go.Dv
namespace Go.Dv
open Go.Proofs
attribute [local congr] bind_congr_first cb_congr condA_congr gd_congr br_congr
end Go.Dv
namespace Go.Dv
open Go.Proofs
open Qu (bef aft)
end Go.Dv
namespace Go.Dv
open Go.Proofs
attribute [local congr] bind_congr_first cb_congr condA_congr gd_congr br_congr
end Go.Dv
namespace Go.Dv
open Go.Proofs
attribute [local congr] bind_congr_first cb_congr condA_congr gd_congr br_congr
open Qu (places)
end Go.Dv
namespace Go.Dv
open Go.Proofs
attribute [local congr] bind_congr_first cb_congr condA_congr gd_congr br_congr
open Qu (places)
end Go.Dv
namespace Go.Dv
open Go.Proofs
attribute [local congr] bind_congr_first cb_congr condA_congr gd_congr br_congr
open Qu (places baseB)
end Go.Dv
namespace Go.Dv
open Go.Proofs
attribute [local congr] bind_congr_first cb_congr condA_congr gd_congr br_congr
open Qu (places baseB)
end Go.Dv
namespace Go.Dv
open Go.Proofs
attribute [local congr] bind_congr_first cb_congr condA_congr gd_congr br_congr
open Qu (places baseB wn bef)
end Go.Dv
namespace Go.Dv
open Go.Proofs
attribute [local congr] bind_congr_first cb_congr condA_congr gd_congr br_congr
open Qu (places baseB wn bef)
end Go.Dv
