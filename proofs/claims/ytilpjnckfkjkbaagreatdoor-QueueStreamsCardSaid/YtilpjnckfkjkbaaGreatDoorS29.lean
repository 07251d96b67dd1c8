/- Part 29 of the walks (own work). -/
import Derived.Test.YtilpjnckfkjkbaaGreatDoorS28
open Bool renaming false_eq_true→bD
open Int renaming natCast_nonneg→uO,natCast_zero→ML,toNat_natCast→cw
open List renaming append_assoc→aE,append_nil→af,drop_take→rG,filter→Ed,filter_append→tE,flatten_append→e8,getElem?_append_left→aq,getElem?_append_right→aw,getElem?_eq_getElem→aj,getElem?_set_ne→aB,getElem?_set_self→bI,length_append→ai,length_cons→b6,length_map→au,length_nil→gj,length_set→ar,length_singleton→eo,length_take→eW,map_append→dX,mem_append→bJ,mem_singleton→bg,take_append→vF,take_take→qU
open Nat renaming add_sub_cancel_left→bE,add_zero→nW,eq_or_lt_of_le→nt,le_refl→ax,le_trans→bc,lt_of_lt_of_le→bm,mul_le_mul_right→lZ
open Option renaming bind_some→ay,map_some→cE
open Option.some renaming inj→aC
open Go.Proofs.Tryz renaming prog→aa
set_option maxRecDepth 100000
set_option maxHeartbeats 4000000
set_option linter.unusedSimpArgs false
set_option linter.unusedVariables false
namespace Go.Dv
open Go.Proofs
attribute [local congr] aH bP bj bO bQ
theorem Sq (i k es len cap:Nat) (ex:Bool) (kk:IntKind) (n:Int):aG aa 91 (.slice i k es len cap ex) (.int kk n)=if 0<=n/\n < len/\1=es then some (.ptr i (k+n.toNat * es)) else none:=by kernel_rfl
theorem Ya (H:AH) (i k es len cap:Nat) (ex:Bool):dR aa 91 H (.slice i k es len cap ex)=some (.int .i64 len):=by kernel_rfl
theorem UH (H:AH):dR aa 91 H .nilSlice=some (.int .i64 0):=by kernel_rfl
theorem Vg:IxT 91 1:=⟨UH,Ya,Sq⟩
theorem Dy (H:AH) (i k:Nat):ldA aa 91 H i k=(ak H i k 1).bind (·.head?):=by kernel_rfl
theorem pI (i k:Nat):aN aa 93 (.ptr i k) 0=some (.ptr i k):=by kernel_rfl
theorem ur (i k:Nat):aN aa 93 (.ptr i k) 1=some (.ptr i (k+1)):=by kernel_rfl
structure lx (H:AH) (A:List (List Nat)) (av:AV):Prop where
 ex:∃ ws:List AV,ws.length=A.length/\SlS 91 1 H av (ws.map fun w=>[w])/\∀ i,i < A.length->SlS 30 1 H (ws.getD i uA) (ints (A.getD i []))
theorem lx.sub {H K:AH} {A:List (List Nat)} {av:AV} (h:lx H A av) (hA:Sub H K):lx K A av:=by
 obtain ⟨ws,h1,h2,h3⟩:=h
 exact ⟨ws,h1,h2.sub hA,fun i hi=>(h3 i hi).sub hA⟩
theorem lx.at {H K:AH} {A:List (List Nat)} {av:AV} (h:lx H A av) (hA:al H K) {j:Nat} (hj:j < A.length):∃ i k w,(∀ kk,aG aa 91 av (.int kk (j:Int))=some (.ptr i k))/\(∀ L,ak (K++L) i k 1=some [w])/\SlS 30 1 H w (ints (A.getD j [])):=by
 obtain ⟨ws,h1,h2,h3⟩:=h
 have hw:j < ws.length:=by omega
 obtain ⟨i,k,hi,hr⟩:=h2.ix j [ws.getD j uA] (by rw [List.getElem?_map,aj hw,dr hw]; rfl)
 exact ⟨i,k,_,hi,fun L=>jB hr hA L,h3 j hj⟩
theorem Is {H G:AH} {A:List (List Nat)} {w:AV} {N n x pb mb M:Nat} (hH:al H G) (hHm:H.length<=mb) (hmG:mb < G.length) (hrow:SlS 30 1 H w (ints (A.getD x []))) (hA:∀ l∈A,∀ y∈l,y < N) (hNN:N < 2 ^ 20) (hMb:M < 2 ^ 20) (hN:(A.getD x []).length < 2 ^ 60):∀ (d j:Nat) (tm:List AV) (K:AH),(A.getD x []).length - j=d->j<=(A.getD x []).length->(tm.length=43/\tm.getD 2 uA=.ptr pb 0/\tm.getD 5 uA=.map mb/\tm.getD 25 uA=w/\tm.getD 26 uA=I (A.getD x []).length/\tm.getD 27 uA=I ((j:Nat):Int)/\AgX G K mb/\∃ seen todo v,tm.getD 6 uA=v/\Qu.RI A N n seen todo x j/\K[mb]? =some (.map (kV seen) seen.length)/\Own G.length K 1 3 v (todo.map fun (n:Nat)=>I (n:Int))/\(N - seen.length)+todo.length=M) ->
   ∃ X K1,EvC aa C0 W0 plN EM (tm,K)=some (.exit 2,(X,K1))/\(X.length=43/\X.getD 2 uA=.ptr pb 0/\X.getD 5 uA=.map mb/\X.getD 25 uA=w/\X.getD 26 uA=I (A.getD x []).length/\X.getD 27 uA=I (((A.getD x []).length:Nat):Int)/\AgX G K1 mb/\∃ seen todo v,X.getD 6 uA=v/\Qu.RI A N n seen todo x (A.getD x []).length/\K1[mb]? =some (.map (kV seen) seen.length)/\Own G.length K1 1 3 v (todo.map fun (n:Nat)=>I (n:Int))/\(N - seen.length)+todo.length=M):=by
 intro d
 induction d with
 | zero =>
   intro j tm K hd hj hI
   have hjl:j=(A.getD x []).length:=by omega
   subst hjl
   have hI0:=hI
   obtain ⟨hlen,h2,h5,h25,h26,h27,hGX,seen,todo,v,h6,hI5,hmp,ho,hM⟩:=hI
   have hlt:ltB ((((A.getD x []).length:Nat)):Int) ((A.getD x []).length:Nat)=false:=db (by omega)
   rw [Lk]
   simp -implicitDefEqProofs only [Co,Tryz.f44,aP,hlen,h2,h5,h25,h26,h27,h6,hlt,↓cbT,↓cbF,↓ao,an,eu,sevalprocAttr]
   refine ⟨_,K,rfl,?_⟩
   exact ⟨by first | exact hlen | simp only [ar,hlen],Aj5 (by simp only [hlen,h2,h5,h25,h26,h27,gB,and_self,sevalprocAttr]) ⟨hGX,seen,todo,v,by simp only [hlen,h6,gB,sevalprocAttr],hI5,hmp,ho,hM⟩⟩
 | succ d ih =>
   intro j tm K hd hj hI
   have hI0:=hI
   obtain ⟨hlen,h2,h5,h25,h26,h27,hGX,seen,todo,v,h6,hI5,hmp,ho,hM⟩:=hI
   have hjN:j < (A.getD x []).length:=by omega
   have hlt:ltB (j:Int) ((A.getD x []).length:Nat)=true:=cQ (by omega)
   have hwi:=cD (j:=j) (by omega)
   have hHK:al H K:=fun i hi=>(hGX.2 i (bm hi hH.len) (by omega)).trans (hH i hi)
   obtain ⟨i0,k0,hix,hrd⟩:=ints_at hrow hHK hjN
   have hy:(A.getD x [])[j]? =some ((A.getD x []).getD j 0):=by rw [aj hjN,dr hjN]
   obtain ⟨hs1,hs2⟩:=hI5.step hA hy
   have hle:=hI5.le
   generalize (A.getD x []).getD j 0=y at *
   have hmK:(K++[])[mb]? =some (.map (kV seen) seen.length):=by rw [af]; exact hmp
   have hlk:=UT hmK y
   rw [Lk]
   rw [<-af K]
   have key:∀ (tmN:List AV) (KN:AH) (Z:Option (bu × St)),EvC aa C0 W0 plN EM (tmN,KN)=Z->(tmN.length=43/\tmN.getD 2 uA=.ptr pb 0/\tmN.getD 5 uA=.map mb/\tmN.getD 25 uA=w/\tmN.getD 26 uA=I (A.getD x []).length/\tmN.getD 27 uA=I (((j+1):Nat):Int)/\AgX G KN mb/\∃ seen todo v,tmN.getD 6 uA=v/\Qu.RI A N n seen todo x (j+1)/\KN[mb]? =some (.map (kV seen) seen.length)/\Own G.length KN 1 3 v (todo.map fun (n:Nat)=>I (n:Int))/\(N - seen.length)+todo.length=M)->∃ X K1,Z=some (.exit 2,(X,K1))/\(X.length=43/\X.getD 2 uA=.ptr pb 0/\X.getD 5 uA=.map mb/\X.getD 25 uA=w/\X.getD 26 uA=I (A.getD x []).length/\X.getD 27 uA=I (((A.getD x []).length:Nat):Int)/\AgX G K1 mb/\∃ seen todo v,X.getD 6 uA=v/\Qu.RI A N n seen todo x (A.getD x []).length/\K1[mb]? =some (.map (kV seen) seen.length)/\Own G.length K1 1 3 v (todo.map fun (n:Nat)=>I (n:Int))/\(N - seen.length)+todo.length=M):=by
     intro tmN KN Z h hJ
     obtain ⟨X,K1,A,B⟩:=ih (j+1) tmN KN (by omega) (by omega) hJ
     exact ⟨X,K1,h.symm.trans A,B⟩
   cases hc:seen.contains y with
   | true =>
     simp -implicitDefEqProofs only [Co,Tryz.f44,aP,hlen,h2,h5,h25,h26,h27,h6,hlt,hwi,hix,hrd,hlk,hc,r5,↓az,nck,↓cbT,↓cbF,↓ao,an,eu,sevalprocAttr]
     generalize hX:EvC aa C0 W0 _ _ _=Z
     refine key _ _ _ hX ?_
     simp only [af]
     exact ⟨by first | exact hlen | simp only [ar,hlen],Aj5 (by simp only [hlen,h2,h5,h25,h26,h27,gB,and_self,sevalprocAttr]) ⟨hGX,seen,todo,v,by simp only [hlen,h6,gB,sevalprocAttr],hs1 (by simpa using hc),hmp,ho,hM⟩⟩
   | false =>
     have hmp2:=X7 (i:=mb) (l:=seen) (n:=y) hmK hc
     have hmK1:=aJ hmp
     have htl:todo.length<=M:=by omega
     have hlv:=ho.length
     rw [au,Nat.mul_one] at hlv
     have hok:Own G.length (K.set mb (.map (kV (seen++[y])) (seen++[y]).length)) 1 3 v (todo.map fun (n:Nat)=>I (n:Int)):=ho.other fun i k e l c x hv=>aB fun he=>by have:=(gH ho (i:=i) (by rw [hv]; rfl)).1; omega
     obtain ⟨v',K',happ,ho',hll,hsame,_⟩:=wh Mh (hok.aX (al.app _ [bo.cells [I (y:Int)] 3])) (by rw [ai,ar]; exact bc hGX.1 (Nat.le_add_right _ _)) (x:=.slice (K.set mb (.map (kV (seen++[y])) (seen++[y]).length)).length 0 1 1 1 true) (new:=[I (y:Int)]) (.at _ _ _ _ _ _ (by rw [gu]; rfl)) rfl (by rw [by3,<-hlv,cg]; unfold fR; rw [Bool.and_eq_true,decide_eq_true_iff,decide_eq_true_iff]; constructor <;> omega)
     rw [af] at hmp2
     have hmp3:ic aa 95 (.map mb) (I (y:Int)) (.bool true) (K++[])=some (K.set mb (.map (kV (seen++[y])) (seen++[y]).length)):=by rw [af]; exact hmp2
     have hbs:=Qq (y:Int) (K.set mb (.map (kV (seen++[y])) (seen++[y]).length))
     generalize hK2:K.set mb (.map (kV (seen++[y])) (seen++[y]).length)=K2 at hmp3 hbs happ
     simp -implicitDefEqProofs only [Co,Tryz.f44,aP,hlen,h2,h5,h25,h26,h27,h6,hlt,hwi,hix,hrd,hlk,hc,hmp3,hbs,↓ck,happ,r5,↓az,nck,↓cbT,↓cbF,↓ao,an,eu,sevalprocAttr]
     generalize hX:EvC aa C0 W0 _ _ _=Z
     refine key _ _ _ hX ?_
     subst hK2
     refine ⟨by first | exact hlen | simp only [ar,hlen],Aj5 (by simp only [hlen,h2,h5,h25,h26,h27,gB,and_self,sevalprocAttr]) ⟨⟨?_,?_⟩,seen++[y],todo++[y],v',by simp only [hlen,h6,gB,sevalprocAttr],hs2 (by simpa using hc),?_,?_,?_⟩⟩
     · exact bc hGX.1 (by rw [ai,ar] at hll; omega)
     · intro i hi hne
       rw [hsame i (by rw [ai,ar]; have:=hGX.1; omega) (fun e=>by have:=(gH ho e).1; omega),aq (by rw [ar]; have:=hGX.1; omega),aB (Ne.symm hne)]
       exact hGX.2 i hi hne
     · rw [hsame mb (by rw [ai,ar]; omega) (fun e=>by have:=(gH ho e).1; omega),aq (by rw [ar]; exact hmK1),bI hmK1]
     · rw [dX]; exact ho'
     · have h1:(seen++[y]).length<=N:=(hs2 (by simpa using hc)).le
       rw [ai,eo] at h1 ⊢
       rw [ai,eo]
       omega
theorem Gl {H G:AH} {A:List (List Nat)} {w:AV} {N n x pb mb M:Nat} {tm:List AV} {K:AH} {Z:Option (bu × St)} (hX:EvC aa C0 W0 plN EM (tm,K)=Z) (hH:al H G) (hHm:H.length<=mb) (hmG:mb < G.length) (hrow:SlS 30 1 H w (ints (A.getD x []))) (hA:∀ l∈A,∀ y∈l,y < N) (hNN:N < 2 ^ 20) (hMb:M < 2 ^ 20) (hN:(A.getD x []).length < 2 ^ 60) (hI:tm.length=43/\tm.getD 2 uA=.ptr pb 0/\tm.getD 5 uA=.map mb/\tm.getD 25 uA=w/\tm.getD 26 uA=I (A.getD x []).length/\tm.getD 27 uA=I ((0:Nat):Int)/\AgX G K mb/\∃ seen todo v,tm.getD 6 uA=v/\Qu.RI A N n seen todo x 0/\K[mb]? =some (.map (kV seen) seen.length)/\Own G.length K 1 3 v (todo.map fun (n:Nat)=>I (n:Int))/\(N - seen.length)+todo.length=M) :
   ∃ X K1,Z=some (.exit 2,(X,K1))/\(X.length=43/\X.getD 2 uA=.ptr pb 0/\X.getD 5 uA=.map mb/\X.getD 25 uA=w/\X.getD 26 uA=I (A.getD x []).length/\X.getD 27 uA=I (((A.getD x []).length:Nat):Int)/\AgX G K1 mb/\∃ seen todo v,X.getD 6 uA=v/\Qu.RI A N n seen todo x (A.getD x []).length/\K1[mb]? =some (.map (kV seen) seen.length)/\Own G.length K1 1 3 v (todo.map fun (n:Nat)=>I (n:Int))/\(N - seen.length)+todo.length=M):=by
 subst hX
 exact Is hH hHm hmG hrow hA hNN hMb hN ((A.getD x []).length) 0 tm K (by omega) (by omega) hI
theorem Gk {H G:AH} {A:List (List Nat)} {itv av:AV} {N n pb mb:Nat} (hH:al H G) (hHm:H.length<=mb) (hmG:mb < G.length) (hpm:pb≠mb) (hpb:G[pb]? =some (.cells [itv,av] 93)) (haft:lx H A av) (hlenA:A.length=N) (hA:∀ l∈A,∀ y∈l,y < N) (hrow:∀ l∈A,l.length < 2 ^ 20) (hn:n < N) (hNN:N < 2 ^ 19) :
   ∀ (M:Nat) (seen todo:List Nat) (v:AV) (K:AH) (tm:List AV),(N - seen.length)+todo.length=M->M<=N+1->Qu.RO A N n seen todo->AgX G K mb->K[mb]? =some (.map (kV seen) seen.length)->Own G.length K 1 3 v (todo.map fun (n:Nat)=>I (n:Int))->tm.length=43->tm.getD 2 uA=.ptr pb 0->tm.getD 5 uA=.map mb->tm.getD 6 uA=v ->
   ∃ X K' seen',EvC aa C0 W0 plN Jz (tm,K)=some (.exit 0,(X,K'))/\X.length=43/\X.getD 5 uA=.map mb/\AgX G K' mb/\K'[mb]? =some (.map (kV seen') seen'.length)/\Qu.RO A N n seen' []:=by
 intro M
 induction M using Nat.strongRecOn with
 | ind M ih =>
   intro seen todo v K tm hM hMN hRO hGX hmp ho hlen h2 h5 h6
   have hln:=mM ho.ints
   rw [SJ]
   cases todo with
   | nil =>
     have l0:ltB 0 0=false:=rfl
     simp only [gj,ML] at hln
     simp -implicitDefEqProofs only [Fq,Tryz.f44,aP,hlen,h2,h5,h6,hln,l0,r5,↓az,nck,↓cbT,↓cbF,↓ao,an,eu,sevalprocAttr]
     exact ⟨_,K,seen,rfl,by simp only [ls,hlen],by simp only [hlen,h5,gB,sevalprocAttr],hGX,hmp,hRO⟩
   | cons x rest =>
     have hx:x < N:=by
       rcases hRO.s2 x (List.mem_cons_self ..) with e | e
       · omega
       · exact hRO.sN x e
     have hxA:x < A.length:=by omega
     have hl1:ltB 0 ((rest.length+1:Nat):Int)=true:=cQ (by omega)
     simp only [b6] at hln
     have hHK:al H K:=fun i hi=>(hGX.2 i (bm hi hH.len) (by omega)).trans (hH i hi)
     obtain ⟨i0,k0,hix,hrd⟩:=ints_at ho.ints (al.refl K) (j:=0) (by simp)
     have hrd0:ak K i0 k0 1=some [I (x:Int)]:=by have:=hrd []; rwa [af] at this
     simp only [ML] at hix
     obtain ⟨v1,hsl,ho1⟩:=M4 ho
     obtain ⟨i1,k1,w,hix1,hrd1,hw⟩:=haft.at hHK hxA
     have hrd1':ak K i1 k1 1=some [w]:=by have:=hrd1 []; rwa [af] at this
     have hpk:ak K pb 1 1=some [av]:=by
       unfold ak
       rw [hGX.2 pb (aJ hpb) hpm,hpb]; rfl
     have hlw:=mM hw
     simp -implicitDefEqProofs only [Fq,Tryz.f44,aP,hlen,h2,h5,h6,hln,hl1,hix,hrd0,hsl,ur,Dy,hpk,hix1,hrd1',hlw,r5,↓az,nck,↓cbT,↓cbF,↓ao,an,eu,sevalprocAttr]
     generalize hX:EvC aa C0 W0 _ (Code.loop _) _=Z
     have hxm:A.getD x []∈A:=eX hxA []
     obtain ⟨X,K1,he,x0,x2,x5,x25,x26,x27,hG1,seen1,todo1,v2,x6,hI1,hm1,ho2,hM1⟩:=Gl (H:=H) (G:=G) (A:=A) (w:=w) (N:=N) (n:=n) (x:=x) (pb:=pb) (mb:=mb) (M:=(N - seen.length)+rest.length) hX hH hHm hmG hw hA (by omega) (by simp at hM; omega) (by have:=hrow _ hxm; omega) ⟨by simp only [ls,hlen],Aj4 (by simp only [hlen,h2,h5,gB,and_self,sevalprocAttr]) ⟨by simp only [hlen,gB,sevalprocAttr]; try rfl,hGX,seen,rest,v1,by simp only [hlen,gB,sevalprocAttr],hRO.pop,hmp,ho1,rfl⟩⟩
     subst he
     simp -implicitDefEqProofs only [x0,x2,x5,x6,↓cbT,↓cbF,↓ao,an,eu,sevalprocAttr]
     generalize hX2:EvC aa C0 W0 _ _ _=Z
     obtain ⟨X',K',seen',b1,b2⟩:=ih ((N - seen1.length)+todo1.length) (by rw [hM1]; simp at hM; omega) seen1 todo1 v2 K1 X rfl (by rw [hM1]; simp at hM; omega) (hI1.out (ax _)) hG1 hm1 ho2 x0 x2 x5 x6
     exact ⟨X',K',seen',hX2.symm.trans b1,b2⟩
theorem Db {H G:AH} {A:List (List Nat)} {itv av:AV} {N n pb mb:Nat} {tm:List AV} {K:AH} {Z:Option (bu × St)} (hX:EvC aa C0 W0 plN Jz (tm,K)=Z) (hH:al H G) (hHm:H.length<=mb) (hmG:mb < G.length) (hpm:pb≠mb) (hpb:G[pb]? =some (.cells [itv,av] 93)) (haft:lx H A av) (hlenA:A.length=N) (hA:∀ l∈A,∀ y∈l,y < N) (hrow:∀ l∈A,l.length < 2 ^ 20) (hn:n < N) (hNN:N < 2 ^ 19)
   {v:AV} (hGX:AgX G K mb) (hmp:K[mb]? =some (.map [] 0)) (ho:Own G.length K 1 3 v ([n].map fun (n:Nat)=>I (n:Int))) (hlen:tm.length=43) (h2:tm.getD 2 uA=.ptr pb 0) (h5:tm.getD 5 uA=.map mb) (h6:tm.getD 6 uA=v) :
   ∃ X K' seen',Z=some (.exit 0,(X,K'))/\X.length=43/\X.getD 5 uA=.map mb/\AgX G K' mb/\K'[mb]? =some (.map (kV seen') seen'.length)/\Qu.RO A N n seen' []:=by
 subst hX
 exact Gk hH hHm hmG hpm hpb haft hlenA hA hrow hn hNN _ [] [n] v K tm rfl (by simp) (Qu.RO.init A N n) hGX hmp ho hlen h2 h5 h6
theorem aaj {H:AH} {A:List (List Nat)} {itv av:AV} {N n:Nat} (hac:itv.cells=[itv]/\itv.one=true) (hao:av.cells=[av]/\av.one=true) (haft:lx H A av) (hlenA:A.length=N) (hA:∀ l∈A,∀ y∈l,y < N) (hrow:∀ l∈A,l.length < 2 ^ 20) (hn:n < N) (hNN:N < 2 ^ 19):∃ mb K seen,Ev aa C0 W0 44 [.agg [itv,av],I n] H=some (.map mb,K)/\al H K/\H.length<=mb/\K[mb]? =some (.map (kV seen) seen.length)/\∀ y,y∈seen↔Qu.TG (Qu.EA A) n y:=by
 obtain ⟨tm,ht,g0,g1,g2⟩:=tm2 (.agg [itv,av]) (I n) 43 (by decide)
 rw [Y9,ht]
 obtain ⟨c1,c2⟩:=hac
 obtain ⟨c3,c4⟩:=hao
 simp -implicitDefEqProofs only [c44,Tryz.f44,aP,g0,g1,g2,↓c1,↓c2,↓c3,↓c4,Pz,r5,↓az,nck,show ofV 6 (Value.map none)=some .nilMap from rfl,show ∀ o,put none H o=some (H.length,H++[o]) from fun _=>rfl,↓cbT,↓cbF,↓ao,an,eu,sevalprocAttr]
 generalize hX:EvC aa C0 W0 _ (Code.loop _) _=Z
 obtain ⟨X,K',seen,he,x0,x5,hG,hm,hR⟩:=Db (H:=H) (G:=H++[.cells [itv,av] 93,.map [] 0]) (A:=A) (itv:=itv) (av:=av) (N:=N) (n:=n) (pb:=H.length) (mb:=H.length+1) (v:=.slice (H.length+2) 0 1 1 1 true) hX (al.app _ _) (by omega) (by simp) (by omega) (by rw [aw (ax _),Nat.sub_self]; rfl) haft hlenA hA hrow hn hNN ⟨by simp,fun i hi _=>by
     rw [show H++[bo.cells [itv,av] 93,.map [] 0,.cells [I (n:Int)] 3]=(H++[bo.cells [itv,av] 93,.map [] 0])++[.cells [I (n:Int)] 3] from by simp,aq hi]⟩ (by rw [aw (by omega),bE]; rfl) (.at _ _ _ _ _ [I (n:Int)] _ (by simp) (by rw [aw (by omega),bE]; rfl) (ax _) (by simp) (by rw [lk]; rfl)) (by simp only [ls,g0]) (by simp only [g0,gB,sevalprocAttr]) (by simp only [g0,gB,sevalprocAttr]) (by simp only [g0,gB,sevalprocAttr])
 subst he
 refine ⟨H.length+1,K',seen,?_,fun i hi=>(hG.2 i (by simp; omega) (by omega)).trans (aq hi),by omega,hm,fun y=>hR.fin y⟩
 simp -implicitDefEqProofs only [x0,x5,↓cbT,↓cbF,↓ao,an,eu,sevalprocAttr]
theorem Wu {H:AH} {x:Itm} {va:AV} (hac:va.cells=[va]) (hao:va.one=true) (L:AH):Ev aa C0 W0 47 [.agg (aU x va)] (H++L)=some (.bool (eqB x.kind 0),H++(L++[.cells (aU x va) 34])):=by
 obtain ⟨tm,ht,g0,g1⟩:=tm1 (.agg (aU x va)) 6 (by decide)
 rw [Y7,ht]
 simp -implicitDefEqProofs only [c47,Tryz.f47,aP,g0,g1,aU,↓hac,↓hao,r5,↓az,nck,↓cbT,↓cbF,↓ao,an,eu,sevalprocAttr]
def fz (xs:List Itm):Nat->Nat->Nat
 | 0,j=>j
 | d+1,j=>if eqB (bB xs j).kind 0 then j else fz xs d (j+1)
theorem An (xs:List Itm):∀ d j,j+d=xs.length->j<=fz xs d j/\fz xs d j<=xs.length/\(∀ i,j<=i->i < fz xs d j->eqB (bB xs i).kind 0=false)/\(fz xs d j < xs.length->eqB (bB xs (fz xs d j)).kind 0=true)
 | 0,j,h=>⟨ax _,by simp only [fz]; omega,fun i h1 h2=>by simp only [fz] at h2; omega,fun h2=>by simp only [fz] at h2; omega⟩
 | d+1,j,h=>by
   simp only [fz]
   cases hk:eqB (bB xs j).kind 0 with
   | true=>exact ⟨ax _,by simp; omega,fun i h1 h2=>by simp at h2; omega,fun _=>by simpa using hk⟩
   | false =>
     obtain ⟨h1,h2,h3,h4⟩:=An xs d (j+1) (by omega)
     simp only [bD,if_false]
     refine ⟨by omega,h2,fun i a b=>?_,h4⟩
     rcases nt a with e | e
     · rw [<-e]; exact hk
     · exact h3 i e b
theorem Vj {G:AH} {xs:List Itm} {w:AV} (hx:dA G xs w) (hN:xs.length < 2 ^ 50):∀ (d j:Nat) (tm:List AV) (K:AH),j+d=xs.length->al G K->tm.length=19->tm.getD 0 uA=w->tm.getD 1 uA=.func (.func 47) [] []->tm.getD 7 uA=I xs.length->tm.getD 8 uA=I (j:Int) ->
   (fz xs d j=xs.length->∃ X K1,EvC aa C0 W0 plN rj (tm,K)=some (.exit 0,(X,K1))/\X.length=19/\al G K1)/\(fz xs d j < xs.length->∃ Y K1,EvC aa C0 W0 plN rj (tm,K)=some (.ret,(Y,K1))/\Y.length=19/\Y.getD 4 uA=I (fz xs d j:Nat)/\al G K1):=by
 intro d
 induction d with
 | zero =>
   intro j tm K hj hA hlen h0 h1 h7 h8
   have hlt:ltB (j:Int) (xs.length:Nat)=false:=db (by omega)
   refine ⟨fun _=>?_,fun h=>by simp only [fz] at h; omega⟩
   rw [DQ]
   simp -implicitDefEqProofs only [Ci,Tryz.f76,aP,hlen,h0,h1,h7,h8,hlt,↓cbT,↓cbF,↓ao,an,eu,sevalprocAttr]
   exact ⟨_,K,rfl,by simp only [ls,hlen],hA⟩
 | succ d ih =>
   intro j tm K hj hA hlen h0 h1 h7 h8
   have hjN:j < xs.length:=by omega
   have hlt:ltB (j:Int) (xs.length:Nat)=true:=cQ (by omega)
   have hw:=cD (j:=j) (by omega)
   obtain ⟨i,k,va,hix,hrd,ha⟩:=hx.at hA hjN
   have hac:=ha.cells
   have hao:=ha.one
   have h47:=fun L=>Wu (H:=K) (x:=bB xs j) hac hao L
   simp only [aU] at hrd h47
   simp only [fz]
   cases hk:eqB (bB xs j).kind 0 with
   | true =>
     simp only [if_true]
     refine ⟨fun h=>absurd h (by omega),fun _=>?_⟩
     rw [DQ]
     rw [<-af K]
     simp -implicitDefEqProofs only [Ci,Tryz.f76,aP,hlen,h0,h1,h7,h8,hlt,hix,hrd,↓aO,Tryz.func47,show Tryz.f47.body.isSome=true from rfl,h47,hk,r5,↓az,nck,↓cbT,↓cbF,↓ao,an,eu,sevalprocAttr]
     exact ⟨_,_,rfl,by simp only [ls,hlen],by simp only [hlen,gB,sevalprocAttr],hA.bS _⟩
   | false =>
     simp only [bD,if_false]
     have key:∀ (tm1:List AV) (K1:AH),EvC aa C0 W0 plN rj (tm,K)=EvC aa C0 W0 plN rj (tm1,K1)->al G K1->tm1.length=19->tm1.getD 0 uA=w->tm1.getD 1 uA=.func (.func 47) [] []->tm1.getD 7 uA=I xs.length->tm1.getD 8 uA=I ((j+1:Nat):Int) ->
         (fz xs d (j+1)=xs.length->∃ X K1,EvC aa C0 W0 plN rj (tm,K)=some (.exit 0,(X,K1))/\X.length=19/\al G K1)/\(fz xs d (j+1) < xs.length->∃ Y K1,EvC aa C0 W0 plN rj (tm,K)=some (.ret,(Y,K1))/\Y.length=19/\Y.getD 4 uA=I (fz xs d (j+1):Nat)/\al G K1):=by
       intro tm1 K1 he a1 a2 a3 a4 a5 a6
       rw [he]
       exact ih (j+1) tm1 K1 (by omega) a1 a2 a3 a4 a5 a6
     have he:∃ tm1,EvC aa C0 W0 plN rj (tm,K)=EvC aa C0 W0 plN rj (tm1,K++[.cells [I (bB xs j).kind,I (bB xs j).code,I (bB xs j).grid,I (bB xs j).block,I (bB xs j).src,I (bB xs j).dst,I (bB xs j).ev,va,.int .i32 (bB xs j).word] 34])/\tm1.length=19/\tm1.getD 0 uA=w/\tm1.getD 1 uA=.func (.func 47) [] []/\tm1.getD 7 uA=I xs.length/\tm1.getD 8 uA=I ((j+1:Nat):Int):=by
       rw [DQ]
       rw [<-af K]
       simp -implicitDefEqProofs only [Ci,Tryz.f76,aP,hlen,h0,h1,h7,h8,hlt,hw,hix,hrd,↓aO,Tryz.func47,show Tryz.f47.body.isSome=true from rfl,h47,hk,r5,↓az,nck,↓cbT,↓cbF,↓ao,an,eu,sevalprocAttr]
       exact ⟨_,rfl,by simp only [ls,hlen],by simp only [hlen,h0,h1,h7,gB,and_self,sevalprocAttr]⟩
     obtain ⟨tm1,e1,e2,e3,e4,e5,e6⟩:=he
     exact key tm1 _ e1 (hA.bS _) e2 e3 e4 e5 e6
theorem Sp {G:AH} {xs:List Itm} {w:AV} (hx:dA G xs w) (hN:xs.length < 2 ^ 50) {tm:List AV} {K:AH} {Z:_} (hX:EvC aa C0 W0 plN rj (tm,K)=Z) (hA:al G K) (hlen:tm.length=19) (h0:tm.getD 0 uA=w) (h1:tm.getD 1 uA=.func (.func 47) [] []) (h7:tm.getD 7 uA=I xs.length) (h8:tm.getD 8 uA=I 0) :
   (fz xs xs.length 0=xs.length->∃ X K1,Z=some (.exit 0,(X,K1))/\X.length=19/\al G K1)/\(fz xs xs.length 0 < xs.length->∃ Y K1,Z=some (.ret,(Y,K1))/\Y.length=19/\Y.getD 4 uA=I (fz xs xs.length 0:Nat)/\al G K1):=by
 rw [<-hX]
 exact Vj hx hN xs.length 0 tm K (by omega) hA hlen h0 h1 h7 h8
theorem ZZ {H:AH} {xs:List Itm} {w:AV} (hx:dA H xs w):∃ r K,Ev aa C0 W0 76 [w,.func (.func 47) [] []] H=some (I r,K)/\al H K/\(fz xs xs.length 0=xs.length->r=-1)/\(fz xs xs.length 0 < xs.length->r=(fz xs xs.length 0:Nat)):=by
 obtain ⟨tm,ht,g0,g1,g2⟩:=tm2 w (.func (.func 47) [] []) 19 (by decide)
 rw [YJ,ht]
 have hln:=hx.len
 have hn:=hx.n
 obtain ⟨_,hle,_,_⟩:=An xs xs.length 0 (by omega)
 simp -implicitDefEqProofs only [c76,Tryz.f76,aP,g0,g1,g2,hln,r5,↓az,nck,↓cbT,↓cbF,↓ao,an,eu,sevalprocAttr]
 generalize hX:EvC aa C0 W0 plN _ _=Z
 have hk:=Sp hx hn hX (al.refl H) (by simp only [ls,g0]) (by simp only [g0,g1,gB,sevalprocAttr]) (by simp only [g0,g2,gB,sevalprocAttr]) (by simp only [g0,gB,sevalprocAttr]) (by simp only [g0,gB,sevalprocAttr])
 rcases nt hle with e | e
 · obtain ⟨X,K1,h1,h2,h3⟩:=hk.1 e
   refine ⟨-1,K1,?_,h3,fun _=>rfl,fun h=>by omega⟩
   simp -implicitDefEqProofs only [h1,h2,↓cbT,↓cbF,↓ao,an,eu,sevalprocAttr]
 · obtain ⟨Y,K1,h1,h2,h3,h4⟩:=hk.2 e
   refine ⟨_,K1,?_,h4,fun h=>by omega,fun _=>rfl⟩
   simp -implicitDefEqProofs only [h1,h2,h3,↓cbT,↓cbF,↓ao,an,eu,sevalprocAttr]
theorem Own.zI {b es:Nat} {K:AH} {w:AV} {xs new:List AV} {elem:TypeId} (h:Own b K es elem w xs) {o:Nat} (hj:o+new.length<=xs.length) (hn:new≠[]) (ho:new.all AV.one=true) :
   ∃ i k len cap ex K',w=.slice i k es len cap ex/\(∀ L,bp (K++L) i (k+o) new=some (K'++L))/\Own b K' es elem w (spl xs o new)/\K'.length=K.length/\∀ c,c≠i->K'[c]? =K[c]?:=by
 cases h with
 | nil=>exact absurd (by simp at hj; exact hj.2) hn
 | «at» i k len cap ex cs xs hb hi hl hc hrd =>
   have hxl:=pq hrd
   have hil:=aJ hi
   have hm:len * es<=cap * es:=lZ _ hl
   have hfit:k+o+new.length<=cs.length:=by omega
   refine ⟨i,k,len,cap,ex,_,rfl,fun L=>gN hi hfit ho L,.at i k len cap ex (spl cs (k+o) new) _ hb (by rw [bI hil]) hl (by rw [fP]; exact hc) ?_,ar ..,fun c hc=>aB (Ne.symm hc)⟩
   unfold ak at hrd ⊢
   rw [hi] at hrd
   rw [bI hil]
   simp only at hrd ⊢
   rw [if_pos (by omega)] at hrd
   generalize len * es=N at *
   have hx:xs=(cs.drop k).take N:=(aC hrd).symm
   rw [if_pos (by rw [fP]; omega),ib _ _ _ hfit,ib _ _ _ hj]
   congr 1
   have hxd:xs.take o=(cs.drop k).take o:=by rw [hx,qU,Nat.min_eq_left (by omega)]
   have hxr:xs.drop (o+new.length)=(cs.drop (k+(o+new.length))).take (N - (o+new.length)):=by rw [hx,rG,List.drop_drop]
   rw [hxd,hxr]
   have hl1:((cs.drop k).take o).length=o:=by rw [eW,List.length_drop]; omega
   rw [aE,aE,List.drop_append_of_le_length (by rw [eW]; omega),rG,show k+o - k=o by omega,vF,hl1,qU,Nat.min_eq_right (by omega),vF,List.take_of_length_le (l:=new) (by omega),show N - o - new.length=N - (o+new.length) by omega,show k+o+new.length=k+(o+new.length) by omega]
theorem Own.shorter {b es:Nat} {K:AH} {elem:TypeId} {i k len cap m:Nat} {ex:Bool} {xs:List AV} (h:Own b K es elem (.slice i k es len cap ex) xs) (hm:m<=len):Own b K es elem (.slice i k es m cap ex) (xs.take (m * es)):=by
 cases h with
 | «at» i2 k2 len2 cap2 ex2 cs xs hb hi hl hc hrd =>
   have hmm:m * es<=len * es:=lZ _ hm
   refine .at i k m cap ex cs _ hb hi (bc hm hl) hc ?_
   have:=zV hrd 0 (m * es) (by omega)
   rwa [nW,List.drop_zero] at this
theorem Own.Jk {b es:Nat} {K:AH} {elem:TypeId} {i k len cap:Nat} {ex:Bool} {rows:List (List AV)} (hes:0 < es) (h:Own b K es elem (.slice i k es len cap ex) rows.flatten) (hr:∀ r∈rows,r.length=es):rows.length=len:=by
 have:=h.length
 rw [dP hr,cg] at this
 exact Nat.eq_of_mul_eq_mul_right hes this
def AgV (v:AV) (G K:AH):Prop:=G.length<=K.length/\∀ c,c < G.length->bZ v≠some c->K[c]? =G[c]?
theorem AgV.of {v:AV} {G K:AH} (h:al G K):AgV v G K:=⟨h.len,fun c hc _=>h c hc⟩
theorem AgV.trans {v:AV} {G K M:AH} (h:AgV v G K) (h2:AgV v K M):AgV v G M:=⟨bc h.1 h2.1,fun c hc hn=>by rw [h2.2 c (bm hc h.1) hn,h.2 c hc hn]⟩
theorem AgV.XS {v:AV} {G K:AH} (h:AgV v G K):Sub (bC v G) (bC v K):=fun i o hi ho=>by
 have hne:bZ v≠some i:=fun e=>(mm (K:=G) e).ne hi ho rfl
 rw [cI hne] at hi
 rw [cI hne,h.2 i (aJ hi) hne]; exact hi
theorem B2 {P:Program} {C:Cfg P} {slot:Option Nat} {ev:Operand->Option AV} {H:AH} (o:Oper) (x:Operand) (t:TypeId):fN P C slot ev o ⟨.builtin .clear,#[x],#[t]⟩ H=(ev x).bind fun v=>(uD P t v H).map fun H'=>(.val (.tuple []),H'):=by
 unfold fN; simp only [evL]; cases ev x <;> rfl
theorem AP (zs:List AV) (n:Nat):(lG zs n).length=n:=by unfold lG; simp
theorem Ht {zs:List AV} (h:zs≠[]) (ho:zs.all AV.one=true) (n:Nat):(lG zs n).all AV.one=true:=by
 unfold lG
 rw [List.all_eq_true] at ho ⊢
 intro x hx
 obtain ⟨j,_,rfl⟩:=List.mem_map.1 hx
 have hl:0 < zs.length:=by cases zs with | nil=>exact absurd rfl h | cons a l=>simp
 exact ho _ (eX (Nat.mod_lt _ hl) _)
theorem M6 (H:AH) {i k l c n:Nat} {e:Bool} (h:n<=l) (hc:l<=c):jR aa 31 H (.slice i k 9 l c e) (some (I n)) none none=some (.slice i (k+n * 9) 9 (l - n) (c - n) e):=by
 have hu:aa.underlying 31=some (.slice 34):=by kernel_rfl
 have h9:aa.cellsOf 34=9:=by kernel_rfl
 have hin:aa.info? 34=some ((aa.info? 34).getD default):=by kernel_rfl
 unfold jR
 rw [hu]
 simp only [gX,uO,if_true,cw]
 rw [if_pos ⟨h,hc,h9⟩,hin]; rfl
theorem Ej (H:AH) {i k l c n:Nat} {e:Bool} (h:n<=c):jR aa 31 H (.slice i k 9 l c e) none (some (I n)) none=some (.slice i k 9 n c e):=by
 have hu:aa.underlying 31=some (.slice 34):=by kernel_rfl
 have h9:aa.cellsOf 34=9:=by kernel_rfl
 have hin:aa.info? 34=some ((aa.info? 34).getD default):=by kernel_rfl
 unfold jR
 rw [hu]
 simp only [gX,uO,if_true,cw]
 rw [if_pos ⟨Nat.zero_le _,h,h9⟩,hin]
 simp only [cE,Nat.zero_mul,nW,Nat.sub_zero]
def dL (p:Itm × AV):Bool:=!eqB p.1.kind 0
theorem Pq {b:Nat} {K:AH} {i k n m c:Nat} {e:Bool} {xs:List AV} (h:Own b K 9 34 (.slice i k 9 n c e) xs) (hm:m<=n):∃ K',(∀ L,uD aa 31 (.slice i (k+m * 9) 9 (n - m) (c - m) e) (K++L)=some (K'++L))/\Own b K' 9 34 (.slice i k 9 m c e) (xs.take (m * 9))/\K'.length=K.length/\∀ x,x≠i->K'[x]? =K[x]?:=by
 have hel:gF aa 31=some 34:=by kernel_rfl
 have h9:aa.cellsOf 34=9:=by kernel_rfl
 have hxl:=h.length
 rw [cg] at hxl
 unfold uD
 simp only [hel,se,ay,h9,AV.cells,b6,gj,Nat.reduceAdd,ne_eq,reduceCtorEq,not_false_eq_true,and_self,if_true]
 rcases nt hm with e2 | e2
 · refine ⟨K,fun L=>?_,?_,rfl,fun _ _=>rfl⟩
   · rw [if_pos (by omega)]
   · exact h.shorter hm
 · have hsz:m * 9+(lG [I 0,I 0,I 0,I 0,I 0,I 0,I 0,.nilSlice,.int .i32 0] ((n - m) * 9)).length<=xs.length:=by rw [AP,hxl,<-Nat.add_mul]; omega
   obtain ⟨i2,k2,len2,cap2,ex2,K',e3,hwr,hown,hlen,hoth⟩:=h.zI hsz (fun e4=>by have:=congrArg List.length e4; rw [AP,gj] at this; omega) (Ht (by simp) rfl _)
   cases e3
   refine ⟨K',fun L=>?_,?_,hlen,hoth⟩
   · rw [if_neg (by omega)]; exact hwr L
   · have:=hown.shorter hm
     rw [ib _ _ _ hsz,aE,List.take_append_of_le_length (by rw [eW]; omega),qU,Nat.min_self] at this
     exact this
theorem WT {K0:AH} {l:List (Itm × AV)} {v:AV} {b:Nat} (hvl:∀ G,dR aa 31 G v=some (I l.length)) (hargs:∀ p∈l,SlS 32 1 (bC v K0) p.2 (p.1.args.map dh)) (hN:l.length < 2 ^ 60):∀ (d j:Nat) (tm:List AV) (K:AH),l.length - j=d->j<=l.length->(tm.length=42/\tm.getD 0 uA=v/\tm.getD 1 uA=.func (.func 47) [] []/\tm.getD 6 uA=I ((j:Nat):Int)/\AgV v K0 K/\∃ zs:List (List AV),tm.getD 5 uA=I (((l.take (j)).filter dL).length:Nat)/\(∀ r∈zs,r.length=9)/\((l.take (j)).filter dL).length+zs.length=j/\Own b K 9 34 v (((l.take (j)).filter dL).map dQ++(zs++(l.drop (j)).map dQ)).flatten) ->
   ∃ X K1,EvC aa C0 W0 plN EL (tm,K)=some (.exit 0,(X,K1))/\(X.length=42/\X.getD 0 uA=v/\X.getD 1 uA=.func (.func 47) [] []/\X.getD 6 uA=I ((l.length:Nat):Int)/\AgV v K0 K1/\∃ zs:List (List AV),X.getD 5 uA=I (((l.take (l.length)).filter dL).length:Nat)/\(∀ r∈zs,r.length=9)/\((l.take (l.length)).filter dL).length+zs.length=l.length/\Own b K1 9 34 v (((l.take (l.length)).filter dL).map dQ++(zs++(l.drop (l.length)).map dQ)).flatten):=by
 intro d
 induction d with
 | zero =>
   intro j tm K hd hj hI
   have hjl:j=l.length:=by omega
   subst hjl
   have hI0:=hI
   obtain ⟨hlen,h0,h1,h6,hA,zs,h5,hz,hzl,ho⟩:=hI
   have hlt:ltB (((l.length:Nat)):Int) (l.length:Nat)=false:=db (by omega)
   have hln:=hvl
   rw [Lj]
   simp -implicitDefEqProofs only [Cn,Tryz.f45,aP,hlen,h0,h1,h6,h5,hlt,↓hln,↓cbT,↓cbF,↓ao,an,eu,sevalprocAttr]
   refine ⟨_,K,rfl,?_⟩
   exact ⟨by simp only [ls,hlen],Aj3 (by simp only [hlen,h0,h1,h6,gB,and_self,sevalprocAttr]) ⟨hA,zs,by simp only [hlen,h5,gB,sevalprocAttr],hz,hzl,ho⟩⟩
 | succ d ih =>
   intro j tm K hd hj hI
   have hI0:=hI
   obtain ⟨hlen,h0,h1,h6,hA,zs,h5,hz,hzl,ho⟩:=hI
   have hjN:j < l.length:=by omega
   have hlt:ltB (j:Int) (l.length:Nat)=true:=cQ (by omega)
   have hw:=cD (j:=j) (by omega)
   have hln:=hvl
   have hdr:l.drop j=l[j]::l.drop (j+1):=List.drop_eq_getElem_cons hjN
   have htk:l.take (j+1)=l.take j++[l[j]]:=by rw [List.take_add_one,aj hjN]; rfl
   have hpm:l[j]∈l:=List.getElem_mem hjN
   generalize l[j]=p at *
   have hrow:∀ r∈((l.take j).filter dL).map dQ++(zs++(l.drop j).map dQ),r.length=9:=fun r hr=>by
     rcases bJ.1 hr with h | h
     · exact eU _ r h
     · rcases bJ.1 h with h | h
       · exact hz r h
       · exact eU _ r h
   have hsl:=Own.nz mL (by decide) ho hrow
   obtain ⟨i1,k1,hix,hrd⟩:=hsl.ix j (dQ p) (by
     rw [aw (by rw [au]; omega),au,aw (by omega),show j - ((l.take j).filter dL).length - zs.length=0 by omega,hdr]; rfl)
   rw [hdr] at ho hrow
   have ha:=hargs p hpm
   have hac:=ha.cells
   have hao:=ha.one
   have h47:=fun L=>Wu (H:=K) (x:=p.1) hac hao L
   rw [List.map_cons] at ho hrow
   obtain ⟨x,va⟩:=p
   have hrd:=fun L=>(al.app K L).sub.rd hrd
   simp only [dQ,aU] at hrd h47 hac hao
   rw [Lj]
   rw [<-af K]
   have key:∀ (tmN:List AV) (KN:AH) (Z:Option (bu × St)),EvC aa C0 W0 plN EL (tmN,KN)=Z->(tmN.length=42/\tmN.getD 0 uA=v/\tmN.getD 1 uA=.func (.func 47) [] []/\tmN.getD 6 uA=I (((j+1):Nat):Int)/\AgV v K0 KN/\∃ zs:List (List AV),tmN.getD 5 uA=I (((l.take ((j+1))).filter dL).length:Nat)/\(∀ r∈zs,r.length=9)/\((l.take ((j+1))).filter dL).length+zs.length=(j+1)/\Own b KN 9 34 v (((l.take ((j+1))).filter dL).map dQ++(zs++(l.drop ((j+1))).map dQ)).flatten)->∃ X K1,Z=some (.exit 0,(X,K1))/\(X.length=42/\X.getD 0 uA=v/\X.getD 1 uA=.func (.func 47) [] []/\X.getD 6 uA=I ((l.length:Nat):Int)/\AgV v K0 K1/\∃ zs:List (List AV),X.getD 5 uA=I (((l.take (l.length)).filter dL).length:Nat)/\(∀ r∈zs,r.length=9)/\((l.take (l.length)).filter dL).length+zs.length=l.length/\Own b K1 9 34 v (((l.take (l.length)).filter dL).map dQ++(zs++(l.drop (l.length)).map dQ)).flatten):=by
     intro tmN KN Z h hJ
     obtain ⟨X,K1,A,B⟩:=ih (j+1) tmN KN (by omega) (by omega) hJ
     exact ⟨X,K1,h.symm.trans A,B⟩
   cases hk:eqB x.kind 0 with
   | true =>
     simp -implicitDefEqProofs only [Cn,Tryz.f45,aP,hlen,h0,h1,h6,h5,hlt,hw,se,d7,hix,hrd,↓hac,↓hao,↓aO,Tryz.func47,show Tryz.f47.body.isSome=true from rfl,h47,hk,↓hln,r5,↓az,nck,↓cbT,↓cbF,↓ao,an,eu,sevalprocAttr]
     generalize hX:EvC aa C0 W0 _ _ _=Z
     refine key _ _ _ hX ?_
     have hkp:[((x,va):Itm × AV)].filter dL=[]:=by simp only [Ed,dL,hk,Bool.not_true]
     rw [htk,tE,hkp,af]
     exact ⟨by simp only [ls,hlen],Aj3 (by simp only [hlen,h0,h1,gB,and_self,sevalprocAttr]) ⟨hA.trans (AgV.of (al.app K _)),zs++[dQ (x,va)],by simp only [hlen,h5,gB,sevalprocAttr],fun r hr=>(by
       rcases bJ.1 hr with h | h
       · exact hz r h
       · rw [bg] at h; subst h; rfl),by rw [ai,eo]; omega,by
       have:=ho.aX (al.app K [bo.cells (aU x va) 34,bo.cells (aU x va) 34])
       rw [aE]
       exact this⟩⟩
   | false =>
     have hkp:[((x,va):Itm × AV)].filter dL=[(x,va)]:=by simp only [Ed,dL,hk,Bool.not_false]
     have hwi:=cD (j:=((l.take j).filter dL).length) (by omega)
     have hone:(aU x va).all AV.one=true:=by
       show (AV.one _ && (AV.one _ && (AV.one _ && (AV.one _ && (AV.one _ && (AV.one _ && (AV.one _ && (AV.one _ && (AV.one _ && true)))))))))=true
       rw [hao]; rfl
     have hAl:(((l.take j).filter dL).map dQ).flatten.length=((l.take j).filter dL).length * 9:=by rw [dP (eU _),au]
     have hsz:(((l.take j).filter dL).map dQ).flatten.length+(aU x va).length<=(((l.take j).filter dL).map dQ++(zs++(dQ (x,va)::(l.drop (j+1)).map dQ))).flatten.length:=by
       rw [e8,ai,e8,ai,List.flatten_cons,ai]
       have h1:(dQ (x,va)).length=9:=rfl
       have h2:(aU x va).length=9:=rfl
       omega
     obtain ⟨i,k,len,cap,ex,K',hv,hwr,hown,hlK,hoth⟩:=Own.zI ho hsz (new:=aU x va) (by simp [aU]) hone
     have hlen9:(((l.take j).filter dL).map dQ++(zs++(dQ (x,va)::(l.drop (j+1)).map dQ))).length=len:=by
       rw [hv] at ho
       exact ho.Jk (by decide) hrow
     have hix2:∀ kk,aG aa 31 v (.int kk (((l.take j).filter dL).length:Nat))=some (.ptr i (k+((l.take j).filter dL).length * 9)):=fun kk=>by
       rw [hv,mL.ia,if_pos ⟨by omega,by rw [<-hlen9,ai,au,ai,b6]; omega,rfl⟩]; rfl
     rw [hAl] at hwr hown
     simp only [aU] at hwr
     have hspl:spl (((l.take j).filter dL).map dQ++(zs++(dQ (x,va)::(l.drop (j+1)).map dQ))).flatten (((l.take j).filter dL).length * 9) (aU x va)=(((l.take j).filter dL).map dQ++(dQ (x,va)::(zs++[dQ (x,va)]).tail++(l.drop (j+1)).map dQ)).flatten:=by
       show spl _ _ (dQ (x,va))=_
       cases zs with
       | nil=>exact wI (A:=((l.take j).filter dL).map dQ) hAl rfl
       | cons z zs =>
         have:=wI (A:=((l.take j).filter dL).map dQ) (r:=z) (r':=dQ (x,va)) (B:=zs++(dQ (x,va)::(l.drop (j+1)).map dQ)) hAl (by rw [hz z (by simp)]; rfl)
         simpa only [List.cons_append,List.tail_cons,aE,List.nil_append] using this
     rw [hspl] at hown
     simp -implicitDefEqProofs only [Cn,Tryz.f45,aP,hlen,h0,h1,h6,h5,hlt,hw,se,d7,hix,hrd,↓hac,↓hao,↓aO,Tryz.func47,show Tryz.f47.body.isSome=true from rfl,h47,hk,↓hln,r5,↓az,nck,hwi,hix2,hwr,d7,↓cbT,↓cbF,↓ao,an,eu,sevalprocAttr]
     generalize hX:EvC aa C0 W0 _ _ _=Z
     refine key _ _ _ hX ?_
     rw [htk,tE,hkp]
     exact ⟨by simp only [ls,hlen],Aj3 (by simp only [hlen,h0,h1,gB,and_self,sevalprocAttr]) ⟨hA.trans ⟨by rw [ai,hlK]; omega,fun c hc hn=>by
         rw [aq (by rw [hlK]; exact hc)]
         exact hoth c fun e=>hn (by rw [hv,e]; rfl)⟩,(zs++[dQ (x,va)]).tail,by
         rw [ai,eo]
         simp only [hlen,gB,sevalprocAttr],fun r hr=>(by
       rcases bJ.1 (List.mem_of_mem_tail hr) with h | h
       · exact hz r h
       · rw [bg] at h; subst h; rfl),by rw [ai,eo,List.length_tail,ai,eo]; omega,by
       have:=hown.aX (al.app K' [bo.cells (aU x va) 34,bo.cells (aU x va) 34])
       rw [dX,aE]
       exact this⟩⟩
end Go.Dv
