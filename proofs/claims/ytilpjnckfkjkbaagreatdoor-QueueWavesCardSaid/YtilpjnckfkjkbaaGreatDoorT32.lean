/- Part 32 of the walks (own work). -/
import Derived.Test.YtilpjnckfkjkbaaGreatDoorT31
open Bool renaming and_eq_true→aC,eq_iff_iff→fM,false_and→bc,not_eq_true→lD,not_eq_true'→bj,true_and→bd
open List renaming append_nil→af,getElem?_append_right→al,getElem?_eq_getElem→aj,getElem?_map→aM,getElem?_zip_eq_some→nL,getElem_mem→gM,length_map→ar,mem_cons→bO,mem_filter→fG,mem_iff_getElem?→qk,mem_map→bL,mem_range→eP,not_mem_nil→cg,replicate→ay
open Nat renaming le_refl→ax,sub_self→dR,zero_le→cX
open Option renaming getD_some→fq
open Go.Proofs.Tryz renaming prog→aa
set_option maxRecDepth 100000
set_option maxHeartbeats 4000000
set_option linter.unusedSimpArgs false
set_option linter.unusedVariables false
namespace Go.Dv
open Go.Proofs
attribute [local congr] aF bC aY bB bD
open Qu (off cS jO lW nxt aft lQ bef)
def fy:Con:=⟨1,false,1,1,0,0,0⟩
theorem z27:dP aa 27=some (.agg [I 0,.bool false,I 0,I 0,I 0,I 0,I 0]):=by kernel_rfl
theorem ZT:jt aa 27 [(0,I 1),(2,I 1),(3,I 1)]=some (.agg [I 1,.bool false,I 1,I 1,I 0,I 0,I 0]):=by kernel_rfl
theorem Rc (H:AH) (i k:Nat):ldA aa 27 H i k=(ak H i k 7).map .agg:=by kernel_rfl
theorem UO (H:AH):Ev aa C0 W0 41 [] H=some (.agg (fg fy),H++[.cells (fg fy) 27]):=by
 have g0:(([]:List AV)++ay (2 - ([]:List AV).length) uA).length=2:=by simp
 rw [abI]
 generalize ([]:List AV)++ay (2 - ([]:List AV).length) uA=tm at *
 simp -implicitDefEqProofs only [c41,Tryz.f41,aP,g0,z27,ZT,aau,aa2,Rc,show ∀ o,put none H o=some (H.length,H++[o]) from fun _=>rfl,fy,fg,r5,↓az,nck,↓cbT,↓cbF,↓ao,an,eu,sevalprocAttr]
def kE (cs:List Cod) (ss:List (List Itm)) (i j:Nat):Bool:=!iV cs (bz ss.flatten i) (bz ss.flatten j) || bef (qS ss) i j || bef (qS ss) j i
theorem IY {ss:List (List Itm)} {i j:Nat} {seen:List Nat} (hi:i < ss.flatten.length) (hj:j < ss.flatten.length) (h:∀ y,y∈seen↔Qu.TG (Qu.EA (aft (qS ss))) i y):seen.contains j=bef (qS ss) i j:=by
 have hN:(qS ss).flatten.length=ss.flatten.length:=by rw [gS,ar]
 rw [fM,List.contains_iff_mem,h j]
 exact Qu.ur (by omega) (by omega)
theorem Sj {H:AH} {ss:List (List Itm)} {iv av:AV} {n:Nat} (hic:iv.cells=[iv]/\iv.one=true) (hac:av.cells=[av]/\av.one=true) (haft:mT H (aft (qS ss)) av) (hn:n < ss.flatten.length) (hfew:ss.flatten.length<=1000):∃ mb K,Ev aa C0 W0 44 [.agg [iv,av],I n] H=some (.map mb,K)/\au H K/\∀ j L,j < ss.flatten.length->iB aa 95 (.map mb) (I (j:Int)) false (K++L)=some (.bool (bef (qS ss) n j)):=by
 have hN:(qS ss).flatten.length=ss.flatten.length:=by rw [gS,ar]
 obtain ⟨mb,K,seen,h1,h2,_,h3,h4⟩:=acW (N:=ss.flatten.length) (n:=n) hic hac haft (by rw [Qu.GG,hN]) (fun l hl y hy=>by rw [<-hN]; exact Qu.Np l hl y hy) (fun l hl=>by
   unfold aft at hl
   obtain ⟨m,hm,rfl⟩:=bL.1 hl
   exact Nat.lt_of_le_of_lt (yW _ _ _) (by omega)) hn (by omega)
 refine ⟨mb,K,h1,h2,fun j L hj=>?_⟩
 rw [W7 (l:=seen) (c:=seen.length) (by rw [List.getElem?_append_left (aJ h3)]; exact h3),IY hn hj h4]
theorem TT {G:AH} {cs:List Cod} {m:List (List Int)} {ss:List (List Itm)} {vc iv av:AV} {a:Nat} (hc:dk G cs vc) (hcp:∀ c∈cs,c.params.length<=6) (hI:dY G ss.flatten iv) (hrt:∀ x∈ss.flatten,b6 cs m x=true) (haf:mT G (aft (qS ss)) av) (hic:iv.cells=[iv]/\iv.one=true) (hac:av.cells=[av]/\av.one=true) (hfew:ss.flatten.length<=1000) (hpa:G[a]? =some (.cells [iv,av] 93)) {i c:Nat} {w va:AV} (hiN:i < ss.flatten.length) (hcx:G[c]? =some (.cells (aL (bz ss.flatten i) va) 34)) (hsx:SlS 32 1 G va ((bz ss.flatten i).args.map dw)) (hw:∀ j kk,j < i->aD aa 31 w (.int kk (j:Nat))=aD aa 31 iv (.int kk (j:Nat))):∀ (d j:Nat) (tm:List AV) (K:AH),i - j=d->j<=i->au G K->tm.length=64->tm.getD 0 uA=vc->tm.getD 9 uA=.ptr a 0->tm.getD 10 uA=I (i:Nat)->tm.getD 11 uA=.ptr c 0->tm.getD 25 uA=iv->tm.getD 26 uA=I (ss.flatten.length:Nat)->tm.getD 27 uA=I (i:Nat)->tm.getD 35 uA=w->tm.getD 36 uA=I (i:Nat)->tm.getD 37 uA=I ((j:Nat):Int) ->
   (cd (fun j=>kE cs ss i j) i j=true->∃ X K1,EvC aa C0 W0 plN yf (tm,K)=some (.exit 2,(X,K1))/\X.length=64/\au G K1/\X.getD 0 uA=vc/\X.getD 9 uA=.ptr a 0/\X.getD 10 uA=I (i:Nat)/\X.getD 11 uA=.ptr c 0/\X.getD 25 uA=iv/\X.getD 26 uA=I (ss.flatten.length:Nat)/\X.getD 27 uA=I (i:Nat)/\X.getD 35 uA=w/\X.getD 36 uA=I (i:Nat))/\(cd (fun j=>kE cs ss i j) i j=false->∃ Y K1,EvC aa C0 W0 plN yf (tm,K)=some (.ret,(Y,K1))/\Y.getD 6 uA=.bool false/\Y.getD 7 uA=I 0):=by
 intro d
 induction d with
 | zero =>
   intro j tm K hd hj hA hlen h0 h9 h10 h11 h25 h26 h27 h35 h36 h37
   have hjl:j=i:=by omega
   subst hjl
   have hlt:ltB (j:Int) (j:Nat)=false:=cH (by omega)
   rw [di (ax _),MK]
   refine ⟨fun _=>?_,fun h=>(by cases h)⟩
   simp -implicitDefEqProofs only [yL,Tryz.f18,aP,hlen,h0,h9,h10,h11,h25,h26,h27,h35,h36,h37,hlt,↓cbT,↓cbF,↓ao,an,eu,sevalprocAttr]
   exact ⟨_,K,rfl,by simp only [ls,hlen],hA,by simp only [hlen,h0,h9,h10,h11,h25,h26,h27,h35,h36,gB,and_self,sevalprocAttr]⟩
 | succ d ih =>
   intro j tm K hd hj hA hlen h0 h9 h10 h11 h25 h26 h27 h35 h36 h37
   have hjN:j < i:=by omega
   have hjF:j < ss.flatten.length:=by omega
   have hlt:ltB (j:Int) (i:Nat)=true:=cD (by omega)
   have hwi:=cp (j:=j) (by omega)
   obtain ⟨i0,k0,vb,hix,hrd,hsy⟩:=hI.at hA hjF
   have hix':∀ kk,aD aa 31 w (.int kk (j:Nat))=some (.ptr i0 k0):=fun kk=>(hw j kk hjN).trans (hix kk)
   have hall:=cI (p:=(fun j=>kE cs ss i j)) hjN
   have hrx:=hrt _ (fi hiN)
   have hry:=hrt _ (fi hjF)
   have hyc:=hsy.cells
   have hyo:=hsy.one
   have hxr:∀ L,ak (K++L) c 0 9=some (aL (bz ss.flatten i) va):=fun L=>(hA.bS L).sub.rd (by unfold ak; rw [hcx]; rfl)
   have hpr:∀ K2,au G K2->∀ L,ak (K2++L) a 0 2=some [iv,av]:=fun K2 h2 L=>(h2.bS L).sub.rd (by unfold ak; rw [hpa]; rfl)
   have hA1:au G (K++[.cells (aL (bz ss.flatten j) vb) 34]):=hA.bS _
   have h43:=acX (hc.bg hA1) hcp (hsx.same hA1) (hsy.same hA1) hrx hry
   obtain ⟨mb1,K2,h44a,hA2,hlk1⟩:=Sj hic hac (haf.sub hA1.sub) hiN hfew
   have hA2G:=hA1.trans hA2
   obtain ⟨mb2,K3,h44b,hA3,hlk2⟩:=Sj hic hac (haf.sub hA2G.sub) hjF hfew
   have hp0:=hpr K hA
   have hp2:=hpr K2 hA2G []
   have hl1:=hlk1 j [] hjF
   have hl2:=hlk2 i [] hiN
   rw [af] at hp2 hl1 hl2
   have hput:∀ o,put none K o=some (K.length,K++[o]):=fun _=>rfl
   rw [MK]
   rw [<-af K]
   have hoP:kE cs ss i j=(!iV cs (bz ss.flatten i) (bz ss.flatten j) || bef (qS ss) i j || bef (qS ss) j i):=rfl
   generalize bz ss.flatten i=x at *
   generalize bz ss.flatten j=y at *
   simp only [aL] at hrd hxr h43 h44a
   cases hT:iV cs x y with
   | false =>
     rw [hT] at hoP
     rw [show kE cs ss i j=true from hoP,bd] at hall
     simp -implicitDefEqProofs only [yL,Tryz.f18,aP,hlen,h0,h9,h10,h11,h25,h26,h27,h35,h36,h37,hlt,hix',hrd,hwi,sD,ed,↓hyc,↓hyo,hput,hxr,↓P6,↓P5,h43,hT,Ep,hp0,r5,↓az,nck,↓cbT,↓cbF,↓ao,an,eu,sevalprocAttr]
     generalize hX:EvC aa C0 W0 _ _ _=Z
     have key:∀ (tm1:List AV) (K1:AH),EvC aa C0 W0 plN yf (tm1,K1)=Z->au G K1->tm1.length=64->tm1.getD 0 uA=vc->tm1.getD 9 uA=.ptr a 0->tm1.getD 10 uA=I (i:Nat)->tm1.getD 11 uA=.ptr c 0->tm1.getD 25 uA=iv->tm1.getD 26 uA=I (ss.flatten.length:Nat)->tm1.getD 27 uA=I (i:Nat)->tm1.getD 35 uA=w->tm1.getD 36 uA=I (i:Nat)->tm1.getD 37 uA=I ((j+1:Nat):Int)->(cd (fun j=>kE cs ss i j) i (j+1)=true->∃ X K1,Z=some (.exit 2,(X,K1))/\X.length=64/\au G K1/\X.getD 0 uA=vc/\X.getD 9 uA=.ptr a 0/\X.getD 10 uA=I (i:Nat)/\X.getD 11 uA=.ptr c 0/\X.getD 25 uA=iv/\X.getD 26 uA=I (ss.flatten.length:Nat)/\X.getD 27 uA=I (i:Nat)/\X.getD 35 uA=w/\X.getD 36 uA=I (i:Nat))/\(cd (fun j=>kE cs ss i j) i (j+1)=false->∃ Y K1,Z=some (.ret,(Y,K1))/\Y.getD 6 uA=.bool false/\Y.getD 7 uA=I 0):=by
       intro tm1 K1 h hA1 hl1 h0 h9 h10 h11 h25 h26 h27 h35 h36 h37
       rw [<-h]
       exact ih (j+1) tm1 K1 (by omega) (by omega) hA1 hl1 h0 h9 h10 h11 h25 h26 h27 h35 h36 h37
     rw [hall]
     exact key _ _ hX (hA.bS _) (by simp only [ls,hlen]) (by simp only [hlen,h0,gB,sevalprocAttr]) (by simp only [hlen,h9,gB,sevalprocAttr]) (by simp only [hlen,h10,gB,sevalprocAttr]) (by simp only [hlen,h11,gB,sevalprocAttr]) (by simp only [hlen,h25,gB,sevalprocAttr]) (by simp only [hlen,h26,gB,sevalprocAttr]) (by simp only [hlen,h27,gB,sevalprocAttr]) (by simp only [hlen,h35,gB,sevalprocAttr]) (by simp only [hlen,h36,gB,sevalprocAttr]) (by simp only [hlen,gB,sevalprocAttr])
   | true =>
     cases hb1:bef (qS ss) i j with
     | true =>
       rw [hT,hb1] at hoP
       rw [show kE cs ss i j=true from hoP,bd] at hall
       simp -implicitDefEqProofs only [yL,Tryz.f18,aP,hlen,h0,h9,h10,h11,h25,h26,h27,h35,h36,h37,hlt,hix',hrd,hwi,sD,ed,↓hyc,↓hyo,hput,hxr,↓P6,↓P5,h43,hT,Ep,hp0,h44a,hl1,hb1,r5,↓az,nck,↓cbT,↓cbF,↓ao,an,eu,sevalprocAttr]
       generalize hX:EvC aa C0 W0 _ _ _=Z
       have key:∀ (tm1:List AV) (K1:AH),EvC aa C0 W0 plN yf (tm1,K1)=Z->au G K1->tm1.length=64->tm1.getD 0 uA=vc->tm1.getD 9 uA=.ptr a 0->tm1.getD 10 uA=I (i:Nat)->tm1.getD 11 uA=.ptr c 0->tm1.getD 25 uA=iv->tm1.getD 26 uA=I (ss.flatten.length:Nat)->tm1.getD 27 uA=I (i:Nat)->tm1.getD 35 uA=w->tm1.getD 36 uA=I (i:Nat)->tm1.getD 37 uA=I ((j+1:Nat):Int)->(cd (fun j=>kE cs ss i j) i (j+1)=true->∃ X K1,Z=some (.exit 2,(X,K1))/\X.length=64/\au G K1/\X.getD 0 uA=vc/\X.getD 9 uA=.ptr a 0/\X.getD 10 uA=I (i:Nat)/\X.getD 11 uA=.ptr c 0/\X.getD 25 uA=iv/\X.getD 26 uA=I (ss.flatten.length:Nat)/\X.getD 27 uA=I (i:Nat)/\X.getD 35 uA=w/\X.getD 36 uA=I (i:Nat))/\(cd (fun j=>kE cs ss i j) i (j+1)=false->∃ Y K1,Z=some (.ret,(Y,K1))/\Y.getD 6 uA=.bool false/\Y.getD 7 uA=I 0):=by
         intro tm1 K1 h hA1 hl1 h0 h9 h10 h11 h25 h26 h27 h35 h36 h37
         rw [<-h]
         exact ih (j+1) tm1 K1 (by omega) (by omega) hA1 hl1 h0 h9 h10 h11 h25 h26 h27 h35 h36 h37
       rw [hall]
       exact key _ _ hX (hA2G) (by simp only [ls,hlen]) (by simp only [hlen,h0,gB,sevalprocAttr]) (by simp only [hlen,h9,gB,sevalprocAttr]) (by simp only [hlen,h10,gB,sevalprocAttr]) (by simp only [hlen,h11,gB,sevalprocAttr]) (by simp only [hlen,h25,gB,sevalprocAttr]) (by simp only [hlen,h26,gB,sevalprocAttr]) (by simp only [hlen,h27,gB,sevalprocAttr]) (by simp only [hlen,h35,gB,sevalprocAttr]) (by simp only [hlen,h36,gB,sevalprocAttr]) (by simp only [hlen,gB,sevalprocAttr])
     | false =>
       cases hb2:bef (qS ss) j i with
       | true =>
         rw [hT,hb1,hb2] at hoP
         rw [show kE cs ss i j=true from hoP,bd] at hall
         simp -implicitDefEqProofs only [yL,Tryz.f18,aP,hlen,h0,h9,h10,h11,h25,h26,h27,h35,h36,h37,hlt,hix',hrd,hwi,sD,ed,↓hyc,↓hyo,hput,hxr,↓P6,↓P5,h43,hT,Ep,hp0,h44a,hl1,hb1,h44b,hp2,hl2,hb2,r5,↓az,nck,↓cbT,↓cbF,↓ao,an,eu,sevalprocAttr]
         generalize hX:EvC aa C0 W0 _ _ _=Z
         have key:∀ (tm1:List AV) (K1:AH),EvC aa C0 W0 plN yf (tm1,K1)=Z->au G K1->tm1.length=64->tm1.getD 0 uA=vc->tm1.getD 9 uA=.ptr a 0->tm1.getD 10 uA=I (i:Nat)->tm1.getD 11 uA=.ptr c 0->tm1.getD 25 uA=iv->tm1.getD 26 uA=I (ss.flatten.length:Nat)->tm1.getD 27 uA=I (i:Nat)->tm1.getD 35 uA=w->tm1.getD 36 uA=I (i:Nat)->tm1.getD 37 uA=I ((j+1:Nat):Int)->(cd (fun j=>kE cs ss i j) i (j+1)=true->∃ X K1,Z=some (.exit 2,(X,K1))/\X.length=64/\au G K1/\X.getD 0 uA=vc/\X.getD 9 uA=.ptr a 0/\X.getD 10 uA=I (i:Nat)/\X.getD 11 uA=.ptr c 0/\X.getD 25 uA=iv/\X.getD 26 uA=I (ss.flatten.length:Nat)/\X.getD 27 uA=I (i:Nat)/\X.getD 35 uA=w/\X.getD 36 uA=I (i:Nat))/\(cd (fun j=>kE cs ss i j) i (j+1)=false->∃ Y K1,Z=some (.ret,(Y,K1))/\Y.getD 6 uA=.bool false/\Y.getD 7 uA=I 0):=by
           intro tm1 K1 h hA1 hl1 h0 h9 h10 h11 h25 h26 h27 h35 h36 h37
           rw [<-h]
           exact ih (j+1) tm1 K1 (by omega) (by omega) hA1 hl1 h0 h9 h10 h11 h25 h26 h27 h35 h36 h37
         rw [hall]
         exact key _ _ hX (hA2G.trans hA3) (by simp only [ls,hlen]) (by simp only [hlen,h0,gB,sevalprocAttr]) (by simp only [hlen,h9,gB,sevalprocAttr]) (by simp only [hlen,h10,gB,sevalprocAttr]) (by simp only [hlen,h11,gB,sevalprocAttr]) (by simp only [hlen,h25,gB,sevalprocAttr]) (by simp only [hlen,h26,gB,sevalprocAttr]) (by simp only [hlen,h27,gB,sevalprocAttr]) (by simp only [hlen,h35,gB,sevalprocAttr]) (by simp only [hlen,h36,gB,sevalprocAttr]) (by simp only [hlen,gB,sevalprocAttr])
       | false =>
         rw [hT,hb1,hb2] at hoP
         rw [show kE cs ss i j=false from hoP,bc] at hall
         rw [hall]
         refine ⟨fun h=>(by cases h),fun _=>?_⟩
         simp -implicitDefEqProofs only [yL,Tryz.f18,aP,hlen,h0,h9,h10,h11,h25,h26,h27,h35,h36,h37,hlt,hix',hrd,hwi,sD,ed,↓hyc,↓hyo,hput,hxr,↓P6,↓P5,h43,hT,Ep,hp0,h44a,hl1,hb1,h44b,hp2,hl2,hb2,r5,↓az,nck,↓cbT,↓cbF,↓ao,an,eu,sevalprocAttr]
         exact ⟨_,_,rfl,by simp only [hlen,gB,and_self,sevalprocAttr]⟩
end Go.Dv
namespace Go.Dv
open Go.Proofs
attribute [local congr] aF bC aY bB bD
open Qu (off cS jO lW nxt aft lQ bef)
def B2 (cs:List Cod) (ss:List (List Itm)):Bool:=cd (fun i=>cd (fun j=>kE cs ss i j) i 0) ss.flatten.length 0
theorem Pv {G:AH} {cs:List Cod} {m:List (List Int)} {ss:List (List Itm)} {vc iv av:AV} {a:Nat} (hc:dk G cs vc) (hcp:∀ c∈cs,c.params.length<=6) (hI:dY G ss.flatten iv) (hrt:∀ x∈ss.flatten,b6 cs m x=true) (haf:mT G (aft (qS ss)) av) (hic:iv.cells=[iv]/\iv.one=true) (hac:av.cells=[av]/\av.one=true) (hfew:ss.flatten.length<=1000) (hpa:G[a]? =some (.cells [iv,av] 93)) {i c:Nat} {w va:AV} (hiN:i < ss.flatten.length) (hcx:G[c]? =some (.cells (aL (bz ss.flatten i) va) 34)) (hsx:SlS 32 1 G va ((bz ss.flatten i).args.map dw)) (hw:∀ j kk,j < i->aD aa 31 w (.int kk (j:Nat))=aD aa 31 iv (.int kk (j:Nat))) {tm:List AV} {K:AH} {Z:Option (bs × St)} (hX:EvC aa C0 W0 plN yf (tm,K)=Z) (hA:au G K) (hlen:tm.length=64) (h0:tm.getD 0 uA=vc) (h9:tm.getD 9 uA=.ptr a 0) (h10:tm.getD 10 uA=I (i:Nat)) (h11:tm.getD 11 uA=.ptr c 0) (h25:tm.getD 25 uA=iv) (h26:tm.getD 26 uA=I (ss.flatten.length:Nat)) (h27:tm.getD 27 uA=I (i:Nat)) (h35:tm.getD 35 uA=w) (h36:tm.getD 36 uA=I (i:Nat)) (h37:tm.getD 37 uA=I ((0:Nat):Int)) :
   (cd (fun j=>kE cs ss i j) i 0=true->∃ X K1,Z=some (.exit 2,(X,K1))/\X.length=64/\au G K1/\X.getD 0 uA=vc/\X.getD 9 uA=.ptr a 0/\X.getD 10 uA=I (i:Nat)/\X.getD 11 uA=.ptr c 0/\X.getD 25 uA=iv/\X.getD 26 uA=I (ss.flatten.length:Nat)/\X.getD 27 uA=I (i:Nat)/\X.getD 35 uA=w/\X.getD 36 uA=I (i:Nat))/\(cd (fun j=>kE cs ss i j) i 0=false->∃ Y K1,Z=some (.ret,(Y,K1))/\Y.getD 6 uA=.bool false/\Y.getD 7 uA=I 0):=by
 subst hX
 exact TT hc hcp hI hrt haf hic hac hfew hpa hiN hcx hsx hw i 0 tm K rfl (cX _) hA hlen h0 h9 h10 h11 h25 h26 h27 h35 h36 h37
theorem Pu {G:AH} {cs:List Cod} {m:List (List Int)} {ss:List (List Itm)} {vc iv av:AV} {a:Nat} (hc:dk G cs vc) (hcp:∀ c∈cs,c.params.length<=6) (hI:dY G ss.flatten iv) (hrt:∀ x∈ss.flatten,b6 cs m x=true) (haf:mT G (aft (qS ss)) av) (hic:iv.cells=[iv]/\iv.one=true) (hac:av.cells=[av]/\av.one=true) (hfew:ss.flatten.length<=1000) (hpa:G[a]? =some (.cells [iv,av] 93)) (hiv:(iv=.nilSlice/\ss.flatten.length=0)∨∃ b,iv=.slice b 0 9 ss.flatten.length ss.flatten.length false):∀ (d i:Nat) (tm:List AV) (K:AH),ss.flatten.length - i=d->i<=ss.flatten.length->au G K->tm.length=64->tm.getD 0 uA=vc->tm.getD 9 uA=.ptr a 0->tm.getD 25 uA=iv->tm.getD 26 uA=I (ss.flatten.length:Nat)->tm.getD 27 uA=I ((i:Nat):Int) ->
   (cd (fun i=>cd (fun j=>kE cs ss i j) i 0) ss.flatten.length i=true->∃ X K1,EvC aa C0 W0 plN Cd (tm,K)=some (.exit 0,(X,K1))/\X.length=64)/\(cd (fun i=>cd (fun j=>kE cs ss i j) i 0) ss.flatten.length i=false->∃ Y K1,EvC aa C0 W0 plN Cd (tm,K)=some (.ret,(Y,K1))/\Y.getD 6 uA=.bool false/\Y.getD 7 uA=I 0):=by
 intro d
 induction d with
 | zero =>
   intro i tm K hd hi hA hlen h0 h9 h25 h26 h27
   have hil:i=ss.flatten.length:=by omega
   subst hil
   have hlt:ltB (ss.flatten.length:Nat) (ss.flatten.length:Nat)=false:=cH (by omega)
   rw [di (ax _),MJ]
   refine ⟨fun _=>?_,fun h=>(by cases h)⟩
   simp -implicitDefEqProofs only [Aq,Tryz.f18,aP,hlen,h0,h9,h25,h26,h27,hlt,↓cbT,↓cbF,↓ao,an,eu,sevalprocAttr]
   exact ⟨_,K,rfl,by simp only [ls,hlen]⟩
 | succ d ih =>
   intro i tm K hd hi hA hlen h0 h9 h25 h26 h27
   have hiN:i < ss.flatten.length:=by omega
   have hlt:ltB (i:Int) (ss.flatten.length:Nat)=true:=cD (by omega)
   have hwi:=cp (j:=i) (by omega)
   obtain ⟨i0,k0,va,hix,hrd,hsx⟩:=hI.at hA hiN
   have hall:=cI (p:=(fun i=>cd (fun j=>kE cs ss i j) i 0)) hiN
   obtain ⟨b,hb⟩:∃ b,iv=.slice b 0 9 ss.flatten.length ss.flatten.length false:=by
     rcases hiv with ⟨_,e⟩ | h
     · omega
     · exact h
   have hsl:=fun H=>Fh H (i:=b) (k:=0) (l:=ss.flatten.length) (c:=ss.flatten.length) (n:=i) (e:=false) (by omega)
   have hln:=fun H=>WY H b 0 9 i ss.flatten.length false
   rw [<-hb] at hsl
   have hxc:=hsx.cells
   have hxo:=hsx.one
   have hpr:∀ L,ak (K++L) a 0 1=some [iv]:=fun L=>(hA.bS L).sub.rd (by unfold ak; rw [hpa]; rfl)
   have hput:∀ o,put none K o=some (K.length,K++[o]):=fun _=>rfl
   have hw:∀ j kk,j < i->aD aa 31 (.slice b 0 9 i ss.flatten.length false) (.int kk (j:Nat))=aD aa 31 iv (.int kk (j:Nat)):=fun j kk hj=>by
     rw [hb,mJ.ia,mJ.ia,if_pos ⟨by omega,by omega,rfl⟩,if_pos ⟨by omega,by omega,rfl⟩]
   have hA1:au G (K++[.cells (aL (bz ss.flatten i) va) 34]):=hA.bS _
   have hin:=@Pv (K++[.cells (aL (bz ss.flatten i) va) 34]) cs m ss vc iv av a (hc.bg hA1) hcp (hI.bg hA1) hrt (haf.sub hA1.sub) hic hac hfew (hA1.get hpa) i K.length (.slice b 0 9 i ss.flatten.length false) va hiN (by rw [al (ax _),dR]; rfl) (hsx.sub hA1.sub) hw
   have hii:(fun j=>kE cs ss i j)=(fun j=>kE cs ss i j):=rfl
   rw [MJ]
   rw [<-af K]
   generalize hxe:bz ss.flatten i=x at *
   simp only [aL] at hrd
   simp -implicitDefEqProofs only [Aq,Tryz.f18,aP,hlen,h0,h9,h25,h26,h27,hlt,hix,hrd,sD,ed,↓hxc,↓hxo,hput,hpr,pS,hsl,hln,r5,↓az,nck,↓cbT,↓cbF,↓ao,an,eu,sevalprocAttr]
   generalize hX:EvC aa C0 W0 plN _ _=Z
   obtain ⟨hT,hF⟩:=hin hX (au.refl _) (by simp only [ls,hlen]) (by simp only [hlen,h0,gB,sevalprocAttr]; try rfl) (by simp only [hlen,h9,gB,sevalprocAttr]; try rfl) (by simp only [hlen,gB,sevalprocAttr]; try rfl) (by simp only [hlen,gB,sevalprocAttr]; try rfl) (by simp only [hlen,h25,gB,sevalprocAttr]; try rfl) (by simp only [hlen,h26,gB,sevalprocAttr]; try rfl) (by simp only [hlen,h27,gB,sevalprocAttr]; try rfl) (by simp only [hlen,gB,sevalprocAttr]; try rfl) (by simp only [hlen,gB,sevalprocAttr]; try rfl) (by simp only [hlen,gB,sevalprocAttr]; try rfl)
   cases hc1:cd (fun j=>kE cs ss i j) i 0 with
   | false =>
     obtain ⟨Y,K1,e,y6,y7⟩:=hF hc1
     subst e
     rw [hall,hc1,bc]
     refine ⟨fun h=>(by cases h),fun _=>?_⟩
     simp -implicitDefEqProofs only [Aq,Tryz.f18,aP,hlen,h0,h9,h25,h26,h27,hlt,r5,↓az,nck,↓cbT,↓cbF,↓ao,an,eu,sevalprocAttr]
     exact ⟨Y,K1,rfl,y6,y7⟩
   | true =>
     obtain ⟨X,K1,e,hXl,hA2,x0,x9,x10,x11,x25,x26,x27,x35,x36⟩:=hT hc1
     subst e
     rw [hall,hc1,bd]
     simp -implicitDefEqProofs only [Aq,Tryz.f18,aP,hlen,h0,h9,h25,h26,h27,hlt,hXl,x0,x9,x25,x26,x27,hwi,r5,↓az,nck,↓cbT,↓cbF,↓ao,an,eu,sevalprocAttr]
     generalize hY:EvC aa C0 W0 plN _ _=Z
     have key:∀ (tm1:List AV) (K1:AH),EvC aa C0 W0 plN Cd (tm1,K1)=Z->au G K1->tm1.length=64->tm1.getD 0 uA=vc->tm1.getD 9 uA=.ptr a 0->tm1.getD 25 uA=iv->tm1.getD 26 uA=I (ss.flatten.length:Nat)->tm1.getD 27 uA=I ((i+1:Nat):Int)->(cd (fun i=>cd (fun j=>kE cs ss i j) i 0) ss.flatten.length (i+1)=true->∃ X K1,Z=some (.exit 0,(X,K1))/\X.length=64)/\(cd (fun i=>cd (fun j=>kE cs ss i j) i 0) ss.flatten.length (i+1)=false->∃ Y K1,Z=some (.ret,(Y,K1))/\Y.getD 6 uA=.bool false/\Y.getD 7 uA=I 0):=by
       intro tm1 K1 h hA1 hl1 h0 h9 h25 h26 h27
       rw [<-h]
       exact ih (i+1) tm1 K1 (by omega) (by omega) hA1 hl1 h0 h9 h25 h26 h27
     exact key _ _ hY (hA1.trans hA2) (by simp only [ls,hXl]) (by simp only [hXl,x0,gB,sevalprocAttr]) (by simp only [hXl,x9,gB,sevalprocAttr]) (by simp only [hXl,x25,gB,sevalprocAttr]) (by simp only [hXl,x26,gB,sevalprocAttr]) (by simp only [hXl,gB,sevalprocAttr])
theorem Ke {G:AH} {cs:List Cod} {m:List (List Int)} {ss:List (List Itm)} {vc iv av:AV} {a:Nat} (hc:dk G cs vc) (hcp:∀ c∈cs,c.params.length<=6) (hI:dY G ss.flatten iv) (hrt:∀ x∈ss.flatten,b6 cs m x=true) (haf:mT G (aft (qS ss)) av) (hic:iv.cells=[iv]/\iv.one=true) (hac:av.cells=[av]/\av.one=true) (hfew:ss.flatten.length<=1000) (hpa:G[a]? =some (.cells [iv,av] 93)) (hiv:(iv=.nilSlice/\ss.flatten.length=0)∨∃ b,iv=.slice b 0 9 ss.flatten.length ss.flatten.length false) {tm:List AV} {K:AH} {Z:Option (bs × St)} (hX:EvC aa C0 W0 plN Cd (tm,K)=Z) (hA:au G K) (hlen:tm.length=64) (h0:tm.getD 0 uA=vc) (h9:tm.getD 9 uA=.ptr a 0) (h25:tm.getD 25 uA=iv) (h26:tm.getD 26 uA=I (ss.flatten.length:Nat)) (h27:tm.getD 27 uA=I ((0:Nat):Int)) :
   (cd (fun i=>cd (fun j=>kE cs ss i j) i 0) ss.flatten.length 0=true->∃ X K1,Z=some (.exit 0,(X,K1))/\X.length=64)/\(cd (fun i=>cd (fun j=>kE cs ss i j) i 0) ss.flatten.length 0=false->∃ Y K1,Z=some (.ret,(Y,K1))/\Y.getD 6 uA=.bool false/\Y.getD 7 uA=I 0):=by
 subst hX
 exact Pu hc hcp hI hrt haf hic hac hfew hpa hiv ss.flatten.length 0 tm K rfl (cX _) hA hlen h0 h9 h25 h26 h27
theorem Y1 {H:AH} {cs:List Cod} {m:List (List Int)} {ss:List (List Itm)} {vc vm vs:AV} (hc:dk H cs vc) (hm:dZ H m vm) (hs:dy H ss vs) (hk:gX cs m ss fy=0) (hg:Good cs m ss fy):Ev aa C0 W0 18 [vc,vm,vs] H=some (.tuple [.bool (B2 cs ss),I 0],H):=by
 obtain ⟨tm,ht,g0,g1,g2,g3⟩:=tm3 vc vm vs 64 (by decide)
 rw [abV,ht]
 rw [<-af (ro H)]
 have hH0:=au.app (ro H) [bl.cells (fg fy) 27]
 have h26:=UQ (hc.ro.bg hH0) (hm.ro.bg hH0) (hs.ro.bg hH0) fy
 have h41:=UO
 rw [hk] at h26
 have hq0:eqB 0 0=true:=rfl
 have hfew:ss.flatten.length<=1000:=by rw [List.length_flatten]; have:=hg.few; omega
 have hcp:∀ c∈cs,c.params.length<=6:=fun c hc=>(hg.cod c hc).1
 have hrt:∀ x∈ss.flatten,b6 cs m x=true:=fun x hx=>by
   obtain ⟨l,h1,h2⟩:=List.mem_flatten.1 hx
   exact hg.it l h1 x h2
 obtain ⟨iv,av,K,h42,hS,hlK,hI,haf,hic,hac,hiv⟩:=YV (hs.ro.bg hH0) hfew (fun l hl x hx hkx=>(hg.ev l hl x hx hkx).1)
 have hS0:Sub (ro H) K:=(hH0.sub).trans hS
 have hput:∀ o,put none K o=some (K.length,K++[o]):=fun _=>rfl
 have hic1:=hic.1
 have hac1:=hac.1
 have hic2:=hic.2
 have hac2:=hac.2
 have hA:=au.app K [bl.cells [iv,av] 93]
 have hln:=hI.len
 have hout:=@Ke (K++[.cells [iv,av] 93]) cs m ss vc iv av K.length (hc.ro.sub (hS0.trans hA.sub)) hcp (hI.bg hA) hrt (haf.sub hA.sub) hic hac hfew (by rw [al (ax _),dR]; rfl) hiv
 simp only [fg,fy] at h26 h41 h42
 rw [<-af K] at h42
 simp -implicitDefEqProofs only [c18,Tryz.f18,aP,g0,g1,g2,g3,↓P7,h41,↓UK,h26,hq0,↓Yx,h42,z93,Ep,Tk,↓hic1,↓hac1,↓hic2,↓hac2,hput,pS,hln,r5,↓az,nck,↓cbT,↓cbF,↓ao,an,eu,sevalprocAttr]
 generalize hX:EvC aa C0 W0 plN _ _=Z
 obtain ⟨hT,hF⟩:=hout hX (au.refl _) (by simp only [ls,g0]) (by simp only [g0,g1,gB,sevalprocAttr]) (by simp only [g0,gB,sevalprocAttr]) (by simp only [g0,gB,sevalprocAttr]) (by simp only [g0,gB,sevalprocAttr]) (by simp only [g0,gB,sevalprocAttr]; try rfl)
 cases hB:B2 cs ss with
 | true =>
   obtain ⟨X,K1,e,hXl⟩:=hT hB
   subst e
   simp -implicitDefEqProofs only [c18,Tryz.f18,aP,hXl,r5,↓az,nck,↓cbT,↓cbF,↓ao,an,eu,sevalprocAttr]
 | false =>
   obtain ⟨Y,K1,e,y6,y7⟩:=hF hB
   subst e
   simp -implicitDefEqProofs only [c18,Tryz.f18,aP,y6,y7,r5,↓az,nck,↓cbT,↓cbF,↓ao,an,eu,sevalprocAttr]
end Go.Dv
namespace Go.Dv
open Go.Proofs
def kp (cs:List Cod):List (List Bool):=cs.map fun c=>c.params.map (·.buf)
theorem Hz {a b:List Nat}:rL a b=true↔∃ n,n∈a/\n∈b:=by
 unfold rL
 rw [bj,<-lD,fC]
 constructor
 · intro h
   by_cases e:∃ n,n∈a/\n∈b
   · exact e
   · exfalso
     refine h fun j hj=>?_
     rw [bj,<-lD,yr]
     exact fun hb=>e ⟨_,eQ hj 0,hb⟩
 · rintro ⟨n,h1,h2⟩ h
   obtain ⟨j,hj,e⟩:=List.mem_iff_getElem.1 h1
   have:=h j hj
   rw [bj,<-lD,yr] at this
   refine this ?_
   rw [gde,aj hj,fq,e]
   exact h2
theorem Kr {fs:List Bool} {ys:List Int} {i:Int}:i∈(fs.zip ys).filterMap (fun p=>if p.1 then some p.2 else none)↔∃ j:Nat,fs[j]? =some true/\ys[j]? =some i:=by
 rw [List.mem_filterMap]
 constructor
 · rintro ⟨p,hp,h⟩
   obtain ⟨j,hj⟩:=qk.1 hp
   obtain ⟨h1,h2⟩:=nL.1 hj
   split at h
   · rename_i e
     cases h
     exact ⟨j,by rw [h1,e],h2⟩
   · cases h
 · rintro ⟨j,h1,h2⟩
   exact ⟨(true,i),qk.2 ⟨j,nL.2 ⟨h1,h2⟩⟩,rfl⟩
theorem yc {cs:List Cod} {m:List (List Int)} {x:Itm} (hr:b6 cs m x=true) (k:x.kind=0) (i:Int):i∈(((kp cs).getD x.code.toNat []).zip x.args).filterMap (fun p=>if p.1 then some p.2 else none)↔∃ n∈jg (cT cs x.code.toNat) x.args (cT cs x.code.toNat).params.length,i=((n:Nat):Int):=by
 obtain ⟨⟨_,hc⟩,hl,ha⟩:=lx hr k
 have hf:(kp cs).getD x.code.toNat []=(cT cs x.code.toNat).params.map (·.buf):=by
   unfold kp cT
   rw [gde,aM,gde,aj hc]; rfl
 rw [hf,Kr]
 have hb:∀ j,j < (cT cs x.code.toNat).params.length->iK (cT cs x.code.toNat) (j:Int)=((cT cs x.code.toNat).params.map (·.buf)).getD j false:=fun j hj=>by
   unfold iK
   simp only [Int.toNat_natCast]
   rw [gde,aM,aj hj]; rfl
 have hg:∀ j,fI x.args j=x.args.getD j 0:=fun j=>by unfold fI; rfl
 constructor
 · rintro ⟨j,h1,h2⟩
   have hj:j < (cT cs x.code.toNat).params.length:=by have:=aJ h1; rwa [ar] at this
   have hbj:iK (cT cs x.code.toNat) (j:Int)=true:=by
     rw [hb j hj,gde,h1]; rfl
   have e:fI x.args j=i:=by rw [hg,gde,h2]; rfl
   obtain ⟨p0,_⟩:=ha j hj hbj
   refine ⟨i.toNat,?_,by rw [e] at p0; omega⟩
   unfold jg
   rw [bL]
   exact ⟨j,fG.2 ⟨eP.2 hj,hbj⟩,by rw [e]⟩
 · rintro ⟨n,hn,rfl⟩
   unfold jg at hn
   obtain ⟨j,hj,rfl⟩:=bL.1 hn
   obtain ⟨h1,h2⟩:=fG.1 hj
   have h1:=eP.1 h1
   obtain ⟨p0,_⟩:=ha j h1 h2
   refine ⟨j,?_,?_⟩
   · have:=hb j h1
     rw [h2,gde,aj (by rw [ar]; exact h1)] at this
     rw [aj (by rw [ar]; exact h1)]
     exact congrArg some this.symm
   · rw [aj (by omega),Int.toNat_of_nonneg p0,hg,gde,aj (by omega)]; rfl
theorem zC {cs:List Cod} {m:List (List Int)} {x:Itm} (hr:b6 cs m x=true):(x.kind=1->0<=x.src/\0<=x.dst)/\(x.kind=2->0<=x.dst):=by
 constructor
 · intro k
   unfold b6 at hr
   rw [fU (by omega),ct,kH k,dO] at hr
   simp only [aC,inB,dn,dm] at hr
   exact ⟨hr.1.1.1.1.1,hr.1.1.1.2.1⟩
 · intro k
   unfold b6 at hr
   rw [fU (by omega),ct,fU (by omega),ct,kH k,dO] at hr
   simp only [aC,inB,dn,dm] at hr
   exact hr.1.1.1.1.1.1.1
theorem pt {cs:List Cod} {m:List (List Int)} {x:Itm} (hr:b6 cs m x=true) (i:Int):i∈Qu.mo (kp cs) (qi x)↔∃ n∈fc cs x,i=((n:Nat):Int):=by
 obtain ⟨s1,s2⟩:=zC hr
 unfold Qu.mo fc
 by_cases k0:x.kind=0
 · rw [if_pos (show (qi x).kind=0 from k0),if_pos k0]; exact yc hr k0 i
 · rw [if_neg (show ¬ (qi x).kind=0 from k0),if_neg k0]
   by_cases k1:x.kind=1
   · rw [if_pos (show (qi x).kind=1 from k1),if_pos k1]
     have:=s1 k1
     show i∈[x.src,x.dst]↔_
     simp only [bO,cg,or_false,exists_eq_or_imp,exists_eq_left]
     omega
   · rw [if_neg (show ¬ (qi x).kind=1 from k1),if_neg k1]
     by_cases k2:x.kind=2
     · rw [if_pos (show (qi x).kind=2 from k2),if_pos k2]
       have:=s2 k2
       show i∈[x.dst]↔_
       simp only [bO,cg,or_false,exists_eq_left]
       omega
     · rw [if_neg (show ¬ (qi x).kind=2 from k2),if_neg k2]; simp
theorem wL {cs:List Cod} {m:List (List Int)} {x:Itm} (hr:b6 cs m x=true) (i:Int):i∈Qu.tL (kp cs) (qi x)↔∃ n∈iJ cs x,i=((n:Nat):Int):=by
 obtain ⟨s1,s2⟩:=zC hr
 unfold Qu.tL iJ
 by_cases k0:x.kind=0
 · rw [if_pos (show (qi x).kind=0 from k0),if_pos k0]; exact yc hr k0 i
 · rw [if_neg (show ¬ (qi x).kind=0 from k0),if_neg k0]
   by_cases k1:x.kind=1
   · rw [if_pos (show (qi x).kind=1 from k1),if_pos k1]
     have:=s1 k1
     show i∈[x.dst]↔_
     simp only [bO,cg,or_false,exists_eq_left]
     omega
   · rw [if_neg (show ¬ (qi x).kind=1 from k1),if_neg k1]
     by_cases k2:x.kind=2
     · rw [if_pos (show (qi x).kind=2 from k2),if_pos k2]
       have:=s2 k2
       show i∈[x.dst]↔_
       simp only [bO,cg,or_false,exists_eq_left]
       omega
     · rw [if_neg (show ¬ (qi x).kind=2 from k2),if_neg k2]; simp
theorem FE {a b:List Int} {c d:List Nat} (h1:∀ i,i∈a↔∃ n∈c,i=((n:Nat):Int)) (h2:∀ i,i∈b↔∃ n∈d,i=((n:Nat):Int)):rL c d=Qu.B7 a b:=by
 rw [fM,Hz,Qu.uG]
 constructor
 · rintro ⟨n,x,y⟩
   exact ⟨(n:Int),(h1 _).2 ⟨n,x,rfl⟩,(h2 _).2 ⟨n,y,rfl⟩⟩
 · rintro ⟨i,x,y⟩
   obtain ⟨n,hn,rfl⟩:=(h1 _).1 x
   obtain ⟨k,hk,e⟩:=(h2 _).1 y
   have:n=k:=by omega
   subst this
   exact ⟨n,hn,hk⟩
theorem w9 {cs:List Cod} {m:List (List Int)} {x y:Itm} (hx:b6 cs m x=true) (hy:b6 cs m y=true):iV cs x y=Qu.rZ (kp cs) (qi x) (qi y):=by
 unfold iV Qu.rZ
 rw [FE (pt hx) (wL hy),FE (wL hx) (pt hy)]
end Go.Dv
namespace Go.Dv
open Go.Proofs
attribute [local congr] aF bC aY bB bD
theorem aaX (i k es len cap:Nat) (ex:Bool) (kk:IntKind) (n:Int):aD aa 23 (.slice i k es len cap ex) (.int kk n)=if 0<=n/\n < len/\1=es then some (.ptr i (k+n.toNat * es)) else none:=by kernel_rfl
theorem aaM (H:AH) (i k es len cap:Nat) (ex:Bool):dQ aa 23 H (.slice i k es len cap ex)=some (.int .i64 len):=by kernel_rfl
theorem W4 (H:AH):dQ aa 23 H .nilSlice=some (.int .i64 0):=by kernel_rfl
theorem Sc:IxT 23 1:=⟨W4,aaM,aaX⟩
theorem SlS.as {T U es:Nat} (X:IxT U es) {H:AH} {v:AV} {rows:List (List AV)} (h:SlS T es H v rows) (hr:∀ r∈rows,r.length=es):SlS U es H v rows:=by
 rcases h.old with ⟨rfl,rfl⟩ | ⟨i,k,c,e,rfl,h1,h2⟩
 · exact kS X H
 · exact nA X hr h1 h2
theorem uF {H:AH} {m:List (List Int)} {v:AV} (h:dZ H m v) (G:AH):dQ aa 23 G v=some (I (m.length:Nat)):=by
 obtain ⟨⟨l,rfl,hs,hc⟩,n,_⟩:=h
 have:=(hs.as Sc (fun r hr=>by obtain ⟨p,_,rfl⟩:=bL.1 hr; rfl)).len G
 rw [ar] at this ⊢
 exact this
theorem te {H:AH} {m:List (List Int)} {v:AV} (h:dZ H m v) {j:Nat} (hj:j < m.length):∃ i k w,(∀ kk,aD aa 23 v (.int kk (j:Int))=some (.ptr i k))/\ak H i k 1=some [w]/\SlS 32 1 H w ((bN m j).map dw):=by
 obtain ⟨⟨l,rfl,hs,hc⟩,n,_⟩:=h
 have hj':j < l.length:=by rwa [ar] at hj
 obtain ⟨i,k,hi,hr⟩:=(hs.as Sc (fun r hr=>by obtain ⟨p,_,rfl⟩:=bL.1 hr; rfl)).ix j _ (by rw [aM,aj hj']; rfl)
 have e:bN (l.map (·.1)) j=(l[j]'hj').1:=by unfold bN; rw [dU hj,List.getElem_map]
 rw [e]
 exact ⟨i,k,_,hi,hr,hc _ (gM _)⟩
theorem IF {H:AH} {w:AV} {b:List Int} (h:SlS 32 1 H w (b.map dw)) {j:Nat} (hj:j < b.length):∃ i k,(∀ kk,aD aa 32 w (.int kk (j:Int))=some (.ptr i k))/\ak H i k 1=some [.int .i32 (b.getD j 0)]:=by
 obtain ⟨i,k,h1,h2⟩:=h.ix j (dw (b.getD j 0)) (by rw [aM,aj hj,gde,aj hj]; rfl)
 exact ⟨i,k,h1,h2⟩
theorem N9 {K:AH} {m:List (List Int)} {va vb:AV} (h1:dZ K m va) (h2:dZ K m vb) {i:Nat} (hi:i < m.length):∀ (d q:Nat) (tm:List AV) (Z:Option (bs × St)),EvC aa C0 W0 uw RH (tm,K)=Z->(bN m i).length - q=d->q<=(bN m i).length->(tm.length=53/\tm.getD 0 uA=va/\tm.getD 1 uA=vb/\tm.getD 5 uA=I (i:Nat)/\tm.getD 6 uA=I ((q:Nat):Int)) ->
   ∃ X,Z=some (.exit 2,(X,K))/\(X.length=53/\X.getD 0 uA=va/\X.getD 1 uA=vb/\X.getD 5 uA=I (i:Nat)):=by
 obtain ⟨i1,k1,wa,a1,a2,a3⟩:=te h1 hi
 obtain ⟨i2,k2,wb,b1,b2,b3⟩:=te h2 hi
 have la:=fun G=>kI a3 G
 have lb:=fun G=>kI b3 G
 have hbl:(bN m i).length < 2 ^ 50:=h1.nb _ (by unfold bN; rw [dU hi]; exact gM _)
 intro d
 induction d with
 | zero =>
   intro q tm Z hZ hd hq hI
   subst hZ
   have hql:q=(bN m i).length:=by omega
   obtain ⟨hlen,c0,c1,c5,c6⟩:=hI
   have hlt:ltB (q:Int) ((bN m i).length:Nat)=false:=cH (by omega)
   rw [Mw]
   simp -implicitDefEqProofs only [Gl,Tryz.f25,aP,hlen,c0,c1,c5,c6,hlt,a1,a2,la,r5,↓az,nck,↓cbT,↓cbF,↓ao,an,eu,sevalprocAttr]
   exact ⟨_,rfl,by simp only [ls,hlen],by simp only [hlen,c0,c1,c5,gB,and_self,sevalprocAttr]⟩
 | succ d ih =>
   intro q tm Z hZ hd hq hI
   subst hZ
   obtain ⟨hlen,c0,c1,c5,c6⟩:=hI
   have hqN:q < (bN m i).length:=by omega
   have hlt:ltB (q:Int) ((bN m i).length:Nat)=true:=cD (by omega)
   have hw:=cp (j:=q) (by omega)
   obtain ⟨i3,k3,d1,d2⟩:=IF a3 hqN
   obtain ⟨i4,k4,e1,e2⟩:=IF b3 hqN
   have heq:=bw ((bN m i).getD q 0)
   rw [Mw]
   simp -implicitDefEqProofs only [Gl,Tryz.f25,aP,hlen,c0,c1,c5,c6,hlt,hw,a1,a2,la,b1,b2,d1,d2,e1,e2,heq,JV,r5,↓az,nck,↓cbT,↓cbF,↓ao,an,eu,sevalprocAttr]
   exact ih (q+1) _ _ rfl (by omega) (by omega) ⟨by simp only [ls,hlen],by simp only [hlen,c0,c1,c5,gB,and_self,sevalprocAttr]⟩
theorem IZ {K:AH} {m:List (List Int)} {va vb:AV} (h1:dZ K m va) (h2:dZ K m vb):∀ (d i:Nat) (tm:List AV) (Z:Option (bs × St)),EvC aa C0 W0 uw RG (tm,K)=Z->m.length - i=d->i<=m.length->(tm.length=53/\tm.getD 0 uA=va/\tm.getD 1 uA=vb/\tm.getD 5 uA=I ((i:Nat):Int)) ->
   ∃ X,Z=some (.exit 0,(X,K))/\X.length=53:=by
 have lm:=fun G=>uF h1 G
 have hmn:=h1.n
 intro d
 induction d with
 | zero =>
   intro i tm Z hZ hd hi hI
   subst hZ
   obtain ⟨hlen,c0,c1,c5⟩:=hI
   have hlt:ltB (i:Int) (m.length:Nat)=false:=cH (by omega)
   rw [Mv]
   simp -implicitDefEqProofs only [Gk,Tryz.f25,aP,hlen,c0,c1,c5,hlt,lm,r5,↓az,nck,↓cbT,↓cbF,↓ao,an,eu,sevalprocAttr]
   exact ⟨_,rfl,by simp only [ls,hlen]⟩
 | succ d ih =>
   intro i tm Z hZ hd hi hI
   subst hZ
   obtain ⟨hlen,c0,c1,c5⟩:=hI
   have hiN:i < m.length:=by omega
   have hlt:ltB (i:Int) (m.length:Nat)=true:=cD (by omega)
   have hw:=cp (j:=i) (by omega)
   obtain ⟨i1,k1,wa,a1,a2,a3⟩:=te h1 hiN
   obtain ⟨i2,k2,wb,b1,b2,b3⟩:=te h2 hiN
   have la:=fun G=>kI a3 G
   have lb:=fun G=>kI b3 G
   have heq:=bw ((bN m i).length:Nat)
   rw [Mv]
   simp -implicitDefEqProofs only [Gk,Tryz.f25,aP,hlen,c0,c1,c5,hlt,lm,a1,a2,b1,b2,la,lb,heq,OK,r5,↓az,nck,↓cbT,↓cbF,↓ao,an,eu,sevalprocAttr]
   generalize hX:EvC aa C0 W0 uw (Code.loop _) _=Z
   obtain ⟨X,he,x0,xa,xb,x5⟩:=N9 h1 h2 hiN _ 0 _ _ hX rfl (cX _) ⟨by simp only [ls,hlen],Aj3 (by simp only [hlen,c0,c1,c5,gB,and_self,sevalprocAttr]) (by simp only [hlen,gB,sevalprocAttr]; try rfl)⟩
   subst he
   simp -implicitDefEqProofs only [x0,xa,xb,x5,hw,↓cbT,↓cbF,↓ao,an,eu,sevalprocAttr]
   exact ih (i+1) _ _ rfl (by omega) (by omega) ⟨by simp only [ls,x0],by simp only [x0,xa,xb,gB,and_self,sevalprocAttr]⟩
theorem ac9 {H:AH} {m:List (List Int)} {va vb:AV} (h1:dZ H m va) (h2:dZ H m vb):Ev aa C0 W0 25 [va,vb] H=some (.bool true,H):=by
 obtain ⟨tm,ht,g0,g1,g2⟩:=tm2 va vb 53 (by decide)
 rw [abR,ht]
 have la:=fun G=>uF h1 G
 have lb:=fun G=>uF h2 G
 have heq:=bw (m.length:Nat)
 simp -implicitDefEqProofs only [c25,Tryz.f25,aP,g0,g1,g2,la,lb,heq,r5,↓az,nck,↓cbT,↓cbF,↓ao,an,eu,sevalprocAttr]
 generalize hX:EvC aa C0 W0 uw (Code.loop _) _=Z
 obtain ⟨X,he,x0⟩:=IZ h1.ro h2.ro _ 0 _ _ hX rfl (cX _) ⟨by simp only [ls,g0],Aj2 (by simp only [g0,g1,g2,gB,and_self,sevalprocAttr]) (by simp only [g0,gB,sevalprocAttr]; try rfl)⟩
 subst he
 simp -implicitDefEqProofs only [x0,↓cbT,↓cbF,↓ao,an,eu,sevalprocAttr]
end Go.Dv
