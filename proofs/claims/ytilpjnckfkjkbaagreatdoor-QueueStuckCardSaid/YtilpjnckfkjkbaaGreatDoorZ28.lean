/- Part 28 of the walks (own work). -/
import Derived.Test.YtilpjnckfkjkbaaGreatDoorZ27
set_option maxRecDepth 100000
set_option maxHeartbeats 4000000
set_option linter.unusedSimpArgs false
set_option linter.unusedVariables false
namespace Go.Dv
open Go.Proofs
attribute [local congr] bind_congr_first cb_congr condA_congr gd_congr br_congr
theorem ia91 (i k es len cap:Nat) (ex:Bool) (kk:IntKind) (n:Int):indexAddrA Tryz.prog 91 (.slice i k es len cap ex) (.int kk n)=if 0<=n/\n < len/\1=es then some (.ptr i (k+n.toNat * es)) else none:=by kernel_rfl
theorem ln91 (H:AH) (i k es len cap:Nat) (ex:Bool):lenA Tryz.prog 91 H (.slice i k es len cap ex)=some (.int .i64 len):=by kernel_rfl
theorem ln91n (H:AH):lenA Tryz.prog 91 H .nilSlice=some (.int .i64 0):=by kernel_rfl
theorem ix91T:IxT 91 1:=⟨ln91n,ln91,ia91⟩
theorem ld91 (H:AH) (i k:Nat):ldA Tryz.prog 91 H i k=(rdCells H i k 1).bind (·.head?):=by kernel_rfl
theorem fa93_0 (i k:Nat):fieldAddrA Tryz.prog 93 (.ptr i k) 0=some (.ptr i k):=by kernel_rfl
theorem fa93_1 (i k:Nat):fieldAddrA Tryz.prog 93 (.ptr i k) 1=some (.ptr i (k+1)):=by kernel_rfl
structure AftR (H:AH) (A:List (List Nat)) (av:AV):Prop where
 ex:∃ ws:List AV,ws.length=A.length/\SlS 91 1 H av (ws.map fun w=>[w])/\∀ i,i < A.length->SlS 30 1 H (ws.getD i uA) (ints (A.getD i []))
theorem AftR.sub {H K:AH} {A:List (List Nat)} {av:AV} (h:AftR H A av) (hA:Sub H K):AftR K A av:=by
 obtain ⟨ws,h1,h2,h3⟩:=h
 exact ⟨ws,h1,h2.sub hA,fun i hi=>(h3 i hi).sub hA⟩
theorem AftR.at {H K:AH} {A:List (List Nat)} {av:AV} (h:AftR H A av) (hA:Agree H K) {j:Nat} (hj:j < A.length):∃ i k w,(∀ kk,indexAddrA Tryz.prog 91 av (.int kk (j:Int))=some (.ptr i k))/\(∀ L,rdCells (K++L) i k 1=some [w])/\SlS 30 1 H w (ints (A.getD j [])):=by
 obtain ⟨ws,h1,h2,h3⟩:=h
 have hw:j < ws.length:=by omega
 obtain ⟨i,k,hi,hr⟩:=h2.ix j [ws.getD j uA] (by rw [List.getElem?_map,List.getElem?_eq_getElem hw,getD_at hw]; rfl)
 exact ⟨i,k,_,hi,fun L=>row_rd hr hA L,h3 j hj⟩
theorem reach_in {H G:AH} {A:List (List Nat)} {w:AV} {N n x pb mb M:Nat} (hH:Agree H G) (hHm:H.length<=mb) (hmG:mb < G.length) (hrow:SlS 30 1 H w (ints (A.getD x []))) (hA:∀ l∈A,∀ y∈l,y < N) (hNN:N < 2 ^ 20) (hMb:M < 2 ^ 20) (hN:(A.getD x []).length < 2 ^ 60):∀ (d j:Nat) (tm:List AV) (K:AH),(A.getD x []).length - j=d->j<=(A.getD x []).length->(tm.length=43/\tm.getD 2 uA=.ptr pb 0/\tm.getD 5 uA=.map mb/\tm.getD 25 uA=w/\tm.getD 26 uA=I (A.getD x []).length/\tm.getD 27 uA=I ((j:Nat):Int)/\AgX G K mb/\∃ seen todo v,tm.getD 6 uA=v/\Qu.RI A N n seen todo x j/\K[mb]? =some (.map (natE seen) seen.length)/\Own G.length K 1 3 v (todo.map fun (n:Nat)=>I (n:Int))/\(N - seen.length)+todo.length=M) ->
   ∃ X K1,EvC Tryz.prog C0 W0 plN l44_0 (tm,K)=some (.exit 2,(X,K1))/\(X.length=43/\X.getD 2 uA=.ptr pb 0/\X.getD 5 uA=.map mb/\X.getD 25 uA=w/\X.getD 26 uA=I (A.getD x []).length/\X.getD 27 uA=I (((A.getD x []).length:Nat):Int)/\AgX G K1 mb/\∃ seen todo v,X.getD 6 uA=v/\Qu.RI A N n seen todo x (A.getD x []).length/\K1[mb]? =some (.map (natE seen) seen.length)/\Own G.length K1 1 3 v (todo.map fun (n:Nat)=>I (n:Int))/\(N - seen.length)+todo.length=M):=by
 intro d
 induction d with
 | zero =>
   intro j tm K hd hj hI
   have hjl:j=(A.getD x []).length:=by omega
   subst hjl
   have hI0:=hI
   obtain ⟨hlen,h2,h5,h25,h26,h27,hGX,seen,todo,v,h6,hI5,hmp,ho,hM⟩:=hI
   have hlt:ltB ((((A.getD x []).length:Nat)):Int) ((A.getD x []).length:Nat)=false:=ltB_f (by omega)
   rw [el44_0]
   simp -implicitDefEqProofs only [b44_0,Tryz.f44,aP,hlen,h2,h5,h25,h26,h27,h6,hlt,↓cbT,↓cbF,↓evDn,evUp,eu,sevalprocAttr]
   refine ⟨_,K,rfl,?_⟩
   exact ⟨by first | exact hlen | simp only [List.length_set,hlen],Aj5 (by simp only [hlen,h2,h5,h25,h26,h27,gB,and_self,sevalprocAttr]) ⟨hGX,seen,todo,v,by simp only [hlen,h6,gB,sevalprocAttr],hI5,hmp,ho,hM⟩⟩
 | succ d ih =>
   intro j tm K hd hj hI
   have hI0:=hI
   obtain ⟨hlen,h2,h5,h25,h26,h27,hGX,seen,todo,v,h6,hI5,hmp,ho,hM⟩:=hI
   have hjN:j < (A.getD x []).length:=by omega
   have hlt:ltB (j:Int) ((A.getD x []).length:Nat)=true:=ltB_t (by omega)
   have hwi:=inc_i (j:=j) (by omega)
   have hHK:Agree H K:=fun i hi=>(hGX.2 i (Nat.lt_of_lt_of_le hi hH.len) (by omega)).trans (hH i hi)
   obtain ⟨i0,k0,hix,hrd⟩:=ints_at hrow hHK hjN
   have hy:(A.getD x [])[j]? =some ((A.getD x []).getD j 0):=by rw [List.getElem?_eq_getElem hjN,getD_at hjN]
   obtain ⟨hs1,hs2⟩:=hI5.step hA hy
   have hle:=hI5.le
   generalize (A.getD x []).getD j 0=y at *
   have hmK:(K++[])[mb]? =some (.map (natE seen) seen.length):=by rw [List.append_nil]; exact hmp
   have hlk:=lk95 hmK y
   rw [el44_0]
   rw [<-List.append_nil K]
   have key:∀ (tmN:List AV) (KN:AH) (Z:Option (AExit × St)),EvC Tryz.prog C0 W0 plN l44_0 (tmN,KN)=Z->(tmN.length=43/\tmN.getD 2 uA=.ptr pb 0/\tmN.getD 5 uA=.map mb/\tmN.getD 25 uA=w/\tmN.getD 26 uA=I (A.getD x []).length/\tmN.getD 27 uA=I (((j+1):Nat):Int)/\AgX G KN mb/\∃ seen todo v,tmN.getD 6 uA=v/\Qu.RI A N n seen todo x (j+1)/\KN[mb]? =some (.map (natE seen) seen.length)/\Own G.length KN 1 3 v (todo.map fun (n:Nat)=>I (n:Int))/\(N - seen.length)+todo.length=M)->∃ X K1,Z=some (.exit 2,(X,K1))/\(X.length=43/\X.getD 2 uA=.ptr pb 0/\X.getD 5 uA=.map mb/\X.getD 25 uA=w/\X.getD 26 uA=I (A.getD x []).length/\X.getD 27 uA=I (((A.getD x []).length:Nat):Int)/\AgX G K1 mb/\∃ seen todo v,X.getD 6 uA=v/\Qu.RI A N n seen todo x (A.getD x []).length/\K1[mb]? =some (.map (natE seen) seen.length)/\Own G.length K1 1 3 v (todo.map fun (n:Nat)=>I (n:Int))/\(N - seen.length)+todo.length=M):=by
     intro tmN KN Z h hJ
     obtain ⟨X,K1,A,B⟩:=ih (j+1) tmN KN (by omega) (by omega) hJ
     exact ⟨X,K1,h.symm.trans A,B⟩
   cases hc:seen.contains y with
   | true =>
     simp -implicitDefEqProofs only [b44_0,Tryz.f44,aP,hlen,h2,h5,h25,h26,h27,h6,hlt,hwi,hix,hrd,hlk,hc,r5,↓evLd,nck,↓cbT,↓cbF,↓evDn,evUp,eu,sevalprocAttr]
     generalize hX:EvC Tryz.prog C0 W0 _ _ _=Z
     refine key _ _ _ hX ?_
     simp only [List.append_nil]
     exact ⟨by first | exact hlen | simp only [List.length_set,hlen],Aj5 (by simp only [hlen,h2,h5,h25,h26,h27,gB,and_self,sevalprocAttr]) ⟨hGX,seen,todo,v,by simp only [hlen,h6,gB,sevalprocAttr],hs1 (by simpa using hc),hmp,ho,hM⟩⟩
   | false =>
     have hmp2:=mp95 (i:=mb) (l:=seen) (n:=y) hmK hc
     have hmK1:=lt_of_get hmp
     have htl:todo.length<=M:=by omega
     have hlv:=ho.length
     rw [List.length_map,Nat.mul_one] at hlv
     have hok:Own G.length (K.set mb (.map (natE (seen++[y])) (seen++[y]).length)) 1 3 v (todo.map fun (n:Nat)=>I (n:Int)):=ho.other fun i k e l c x hv=>List.getElem?_set_ne fun he=>by have:=(own_blk ho (i:=i) (by rw [hv]; rfl)).1; omega
     obtain ⟨v',K',happ,ho',hll,hsame,_⟩:=app_own at30 (hok.agree (Agree.app _ [AObj.cells [I (y:Int)] 3])) (by rw [List.length_append,List.length_set]; exact Nat.le_trans hGX.1 (Nat.le_add_right _ _)) (x:=.slice (K.set mb (.map (natE (seen++[y])) (seen++[y]).length)).length 0 1 1 1 true) (new:=[I (y:Int)]) (.at _ _ _ _ _ _ (by rw [rd_app0]; rfl)) rfl (by rw [by3,<-hlv,lenOfA_slice]; unfold growOk; rw [Bool.and_eq_true,decide_eq_true_iff,decide_eq_true_iff]; constructor <;> omega)
     rw [List.append_nil] at hmp2
     have hmp3:mapPutA Tryz.prog 95 (.map mb) (I (y:Int)) (.bool true) (K++[])=some (K.set mb (.map (natE (seen++[y])) (seen++[y]).length)):=by rw [List.append_nil]; exact hmp2
     have hbs:=bs30' (y:Int) (K.set mb (.map (natE (seen++[y])) (seen++[y]).length))
     generalize hK2:K.set mb (.map (natE (seen++[y])) (seen++[y]).length)=K2 at hmp3 hbs happ
     simp -implicitDefEqProofs only [b44_0,Tryz.f44,aP,hlen,h2,h5,h25,h26,h27,h6,hlt,hwi,hix,hrd,hlk,hc,hmp3,hbs,↓callA_append,happ,r5,↓evLd,nck,↓cbT,↓cbF,↓evDn,evUp,eu,sevalprocAttr]
     generalize hX:EvC Tryz.prog C0 W0 _ _ _=Z
     refine key _ _ _ hX ?_
     subst hK2
     refine ⟨by first | exact hlen | simp only [List.length_set,hlen],Aj5 (by simp only [hlen,h2,h5,h25,h26,h27,gB,and_self,sevalprocAttr]) ⟨⟨?_,?_⟩,seen++[y],todo++[y],v',by simp only [hlen,h6,gB,sevalprocAttr],hs2 (by simpa using hc),?_,?_,?_⟩⟩
     · exact Nat.le_trans hGX.1 (by rw [List.length_append,List.length_set] at hll; omega)
     · intro i hi hne
       rw [hsame i (by rw [List.length_append,List.length_set]; have:=hGX.1; omega) (fun e=>by have:=(own_blk ho e).1; omega),List.getElem?_append_left (by rw [List.length_set]; have:=hGX.1; omega),List.getElem?_set_ne (Ne.symm hne)]
       exact hGX.2 i hi hne
     · rw [hsame mb (by rw [List.length_append,List.length_set]; omega) (fun e=>by have:=(own_blk ho e).1; omega),List.getElem?_append_left (by rw [List.length_set]; exact hmK1),List.getElem?_set_self hmK1]
     · rw [List.map_append]; exact ho'
     · have h1:(seen++[y]).length<=N:=(hs2 (by simpa using hc)).le
       rw [List.length_append,List.length_singleton] at h1 ⊢
       rw [List.length_append,List.length_singleton]
       omega
theorem reach_in' {H G:AH} {A:List (List Nat)} {w:AV} {N n x pb mb M:Nat} {tm:List AV} {K:AH} {Z:Option (AExit × St)} (hX:EvC Tryz.prog C0 W0 plN l44_0 (tm,K)=Z) (hH:Agree H G) (hHm:H.length<=mb) (hmG:mb < G.length) (hrow:SlS 30 1 H w (ints (A.getD x []))) (hA:∀ l∈A,∀ y∈l,y < N) (hNN:N < 2 ^ 20) (hMb:M < 2 ^ 20) (hN:(A.getD x []).length < 2 ^ 60) (hI:tm.length=43/\tm.getD 2 uA=.ptr pb 0/\tm.getD 5 uA=.map mb/\tm.getD 25 uA=w/\tm.getD 26 uA=I (A.getD x []).length/\tm.getD 27 uA=I ((0:Nat):Int)/\AgX G K mb/\∃ seen todo v,tm.getD 6 uA=v/\Qu.RI A N n seen todo x 0/\K[mb]? =some (.map (natE seen) seen.length)/\Own G.length K 1 3 v (todo.map fun (n:Nat)=>I (n:Int))/\(N - seen.length)+todo.length=M) :
   ∃ X K1,Z=some (.exit 2,(X,K1))/\(X.length=43/\X.getD 2 uA=.ptr pb 0/\X.getD 5 uA=.map mb/\X.getD 25 uA=w/\X.getD 26 uA=I (A.getD x []).length/\X.getD 27 uA=I (((A.getD x []).length:Nat):Int)/\AgX G K1 mb/\∃ seen todo v,X.getD 6 uA=v/\Qu.RI A N n seen todo x (A.getD x []).length/\K1[mb]? =some (.map (natE seen) seen.length)/\Own G.length K1 1 3 v (todo.map fun (n:Nat)=>I (n:Int))/\(N - seen.length)+todo.length=M):=by
 subst hX
 exact reach_in hH hHm hmG hrow hA hNN hMb hN ((A.getD x []).length) 0 tm K (by omega) (by omega) hI
theorem reach_out {H G:AH} {A:List (List Nat)} {itv av:AV} {N n pb mb:Nat} (hH:Agree H G) (hHm:H.length<=mb) (hmG:mb < G.length) (hpm:pb≠mb) (hpb:G[pb]? =some (.cells [itv,av] 93)) (haft:AftR H A av) (hlenA:A.length=N) (hA:∀ l∈A,∀ y∈l,y < N) (hrow:∀ l∈A,l.length < 2 ^ 20) (hn:n < N) (hNN:N < 2 ^ 19) :
   ∀ (M:Nat) (seen todo:List Nat) (v:AV) (K:AH) (tm:List AV),(N - seen.length)+todo.length=M->M<=N+1->Qu.RO A N n seen todo->AgX G K mb->K[mb]? =some (.map (natE seen) seen.length)->Own G.length K 1 3 v (todo.map fun (n:Nat)=>I (n:Int))->tm.length=43->tm.getD 2 uA=.ptr pb 0->tm.getD 5 uA=.map mb->tm.getD 6 uA=v ->
   ∃ X K' seen',EvC Tryz.prog C0 W0 plN l44_1 (tm,K)=some (.exit 0,(X,K'))/\X.length=43/\X.getD 5 uA=.map mb/\AgX G K' mb/\K'[mb]? =some (.map (natE seen') seen'.length)/\Qu.RO A N n seen' []:=by
 intro M
 induction M using Nat.strongRecOn with
 | ind M ih =>
   intro seen todo v K tm hM hMN hRO hGX hmp ho hlen h2 h5 h6
   have hln:=ints_ln ho.ints
   rw [el44_1]
   cases todo with
   | nil =>
     have l0:ltB 0 0=false:=rfl
     simp only [List.length_nil,Int.natCast_zero] at hln
     simp -implicitDefEqProofs only [b44_1,Tryz.f44,aP,hlen,h2,h5,h6,hln,l0,r5,↓evLd,nck,↓cbT,↓cbF,↓evDn,evUp,eu,sevalprocAttr]
     exact ⟨_,K,seen,rfl,by simp only [ls,hlen],by simp only [hlen,h5,gB,sevalprocAttr],hGX,hmp,hRO⟩
   | cons x rest =>
     have hx:x < N:=by
       rcases hRO.s2 x (List.mem_cons_self ..) with e | e
       · omega
       · exact hRO.sN x e
     have hxA:x < A.length:=by omega
     have hl1:ltB 0 ((rest.length+1:Nat):Int)=true:=ltB_t (by omega)
     simp only [List.length_cons] at hln
     have hHK:Agree H K:=fun i hi=>(hGX.2 i (Nat.lt_of_lt_of_le hi hH.len) (by omega)).trans (hH i hi)
     obtain ⟨i0,k0,hix,hrd⟩:=ints_at ho.ints (Agree.refl K) (j:=0) (by simp)
     have hrd0:rdCells K i0 k0 1=some [I (x:Int)]:=by have:=hrd []; rwa [List.append_nil] at this
     simp only [Int.natCast_zero] at hix
     obtain ⟨v1,hsl,ho1⟩:=sl_tail ho
     obtain ⟨i1,k1,w,hix1,hrd1,hw⟩:=haft.at hHK hxA
     have hrd1':rdCells K i1 k1 1=some [w]:=by have:=hrd1 []; rwa [List.append_nil] at this
     have hpk:rdCells K pb 1 1=some [av]:=by
       unfold rdCells
       rw [hGX.2 pb (lt_of_get hpb) hpm,hpb]; rfl
     have hlw:=ints_ln hw
     simp -implicitDefEqProofs only [b44_1,Tryz.f44,aP,hlen,h2,h5,h6,hln,hl1,hix,hrd0,hsl,fa93_1,ld91,hpk,hix1,hrd1',hlw,r5,↓evLd,nck,↓cbT,↓cbF,↓evDn,evUp,eu,sevalprocAttr]
     generalize hX:EvC Tryz.prog C0 W0 _ (Code.loop _) _=Z
     have hxm:A.getD x []∈A:=getD_mem' hxA []
     obtain ⟨X,K1,he,x0,x2,x5,x25,x26,x27,hG1,seen1,todo1,v2,x6,hI1,hm1,ho2,hM1⟩:=reach_in' (H:=H) (G:=G) (A:=A) (w:=w) (N:=N) (n:=n) (x:=x) (pb:=pb) (mb:=mb) (M:=(N - seen.length)+rest.length) hX hH hHm hmG hw hA (by omega) (by simp at hM; omega) (by have:=hrow _ hxm; omega) ⟨by simp only [ls,hlen],Aj4 (by simp only [hlen,h2,h5,gB,and_self,sevalprocAttr]) ⟨by simp only [hlen,gB,sevalprocAttr]; try rfl,hGX,seen,rest,v1,by simp only [hlen,gB,sevalprocAttr],hRO.pop,hmp,ho1,rfl⟩⟩
     subst he
     simp -implicitDefEqProofs only [x0,x2,x5,x6,↓cbT,↓cbF,↓evDn,evUp,eu,sevalprocAttr]
     generalize hX2:EvC Tryz.prog C0 W0 _ _ _=Z
     obtain ⟨X',K',seen',b1,b2⟩:=ih ((N - seen1.length)+todo1.length) (by rw [hM1]; simp at hM; omega) seen1 todo1 v2 K1 X rfl (by rw [hM1]; simp at hM; omega) (hI1.out (Nat.le_refl _)) hG1 hm1 ho2 x0 x2 x5 x6
     exact ⟨X',K',seen',hX2.symm.trans b1,b2⟩
theorem reach_out' {H G:AH} {A:List (List Nat)} {itv av:AV} {N n pb mb:Nat} {tm:List AV} {K:AH} {Z:Option (AExit × St)} (hX:EvC Tryz.prog C0 W0 plN l44_1 (tm,K)=Z) (hH:Agree H G) (hHm:H.length<=mb) (hmG:mb < G.length) (hpm:pb≠mb) (hpb:G[pb]? =some (.cells [itv,av] 93)) (haft:AftR H A av) (hlenA:A.length=N) (hA:∀ l∈A,∀ y∈l,y < N) (hrow:∀ l∈A,l.length < 2 ^ 20) (hn:n < N) (hNN:N < 2 ^ 19)
   {v:AV} (hGX:AgX G K mb) (hmp:K[mb]? =some (.map [] 0)) (ho:Own G.length K 1 3 v ([n].map fun (n:Nat)=>I (n:Int))) (hlen:tm.length=43) (h2:tm.getD 2 uA=.ptr pb 0) (h5:tm.getD 5 uA=.map mb) (h6:tm.getD 6 uA=v) :
   ∃ X K' seen',Z=some (.exit 0,(X,K'))/\X.length=43/\X.getD 5 uA=.map mb/\AgX G K' mb/\K'[mb]? =some (.map (natE seen') seen'.length)/\Qu.RO A N n seen' []:=by
 subst hX
 exact reach_out hH hHm hmG hpm hpb haft hlenA hA hrow hn hNN _ [] [n] v K tm rfl (by simp) (Qu.RO.init A N n) hGX hmp ho hlen h2 h5 h6
theorem ev44 {H:AH} {A:List (List Nat)} {itv av:AV} {N n:Nat} (hac:itv.cells=[itv]/\itv.one=true) (hao:av.cells=[av]/\av.one=true) (haft:AftR H A av) (hlenA:A.length=N) (hA:∀ l∈A,∀ y∈l,y < N) (hrow:∀ l∈A,l.length < 2 ^ 20) (hn:n < N) (hNN:N < 2 ^ 19):∃ mb K seen,Ev Tryz.prog C0 W0 44 [.agg [itv,av],I n] H=some (.map mb,K)/\Agree H K/\H.length<=mb/\K[mb]? =some (.map (natE seen) seen.length)/\∀ y,y∈seen↔Qu.TG (Qu.EA A) n y:=by
 obtain ⟨tm,ht,g0,g1,g2⟩:=tm2 (.agg [itv,av]) (I n) 43 (by decide)
 rw [fe44,ht]
 obtain ⟨c1,c2⟩:=hac
 obtain ⟨c3,c4⟩:=hao
 simp -implicitDefEqProofs only [c44,Tryz.f44,aP,g0,g1,g2,↓c1,↓c2,↓c3,↓c4,bs30,r5,↓evLd,nck,show ofV 6 (Value.map none)=some .nilMap from rfl,show ∀ o,put none H o=some (H.length,H++[o]) from fun _=>rfl,↓cbT,↓cbF,↓evDn,evUp,eu,sevalprocAttr]
 generalize hX:EvC Tryz.prog C0 W0 _ (Code.loop _) _=Z
 obtain ⟨X,K',seen,he,x0,x5,hG,hm,hR⟩:=reach_out' (H:=H) (G:=H++[.cells [itv,av] 93,.map [] 0]) (A:=A) (itv:=itv) (av:=av) (N:=N) (n:=n) (pb:=H.length) (mb:=H.length+1) (v:=.slice (H.length+2) 0 1 1 1 true) hX (Agree.app _ _) (by omega) (by simp) (by omega) (by rw [List.getElem?_append_right (Nat.le_refl _),Nat.sub_self]; rfl) haft hlenA hA hrow hn hNN ⟨by simp,fun i hi _=>by
     rw [show H++[AObj.cells [itv,av] 93,.map [] 0,.cells [I (n:Int)] 3]=(H++[AObj.cells [itv,av] 93,.map [] 0])++[.cells [I (n:Int)] 3] from by simp,List.getElem?_append_left hi]⟩ (by rw [List.getElem?_append_right (by omega),Nat.add_sub_cancel_left]; rfl) (.at _ _ _ _ _ [I (n:Int)] _ (by simp) (by rw [List.getElem?_append_right (by omega),Nat.add_sub_cancel_left]; rfl) (Nat.le_refl _) (by simp) (by rw [rd_app]; rfl)) (by simp only [ls,g0]) (by simp only [g0,gB,sevalprocAttr]) (by simp only [g0,gB,sevalprocAttr]) (by simp only [g0,gB,sevalprocAttr])
 subst he
 refine ⟨H.length+1,K',seen,?_,fun i hi=>(hG.2 i (by simp; omega) (by omega)).trans (List.getElem?_append_left hi),by omega,hm,fun y=>hR.fin y⟩
 simp -implicitDefEqProofs only [x0,x5,↓cbT,↓cbF,↓evDn,evUp,eu,sevalprocAttr]
def fz (xs:List Itm):Nat->Nat->Nat
 | 0,j=>j
 | d+1,j=>if eqB (itmAt xs j).kind 0 then j else fz xs d (j+1)
theorem sl31_hi (H:AH) {i k l c n:Nat} {e:Bool} (h:n<=c):sliceA Tryz.prog 31 H (.slice i k 9 l c e) none (some (I n)) none=some (.slice i k 9 n c e):=by
 have hu:Tryz.prog.underlying 31=some (.slice 34):=by kernel_rfl
 have h9:Tryz.prog.cellsOf 34=9:=by kernel_rfl
 have hin:Tryz.prog.info? 34=some ((Tryz.prog.info? 34).getD default):=by kernel_rfl
 unfold sliceA
 rw [hu]
 simp only [boundA,Int.natCast_nonneg,if_true,Int.toNat_natCast]
 rw [if_pos ⟨Nat.zero_le _,h,h9⟩,hin]
 simp only [Option.map_some,Nat.zero_mul,Nat.add_zero,Nat.sub_zero]
def iv1 (l:List Nat):List AV:=l.map fun (n:Nat)=>I (n:Int)
def Ex (K:AH) (es:Nat) (elem:TypeId) (v:AV) (xs:List AV):Prop:=(v=.nilSlice/\xs=[])∨∃ i n,v=.slice i 0 es n n false/\K[i]? =some (.cells xs elem)/\xs.length=n * es
theorem Ex.rd {K:AH} {es i n:Nat} {elem:TypeId} {xs:List AV} (h:K[i]? =some (.cells xs elem)) (hl:xs.length=n * es):rdCells K i 0 (n * es)=some xs:=by
 unfold rdCells
 rw [h]
 simp only
 rw [if_pos (by omega),List.drop_zero,List.take_of_length_le (by omega)]
theorem Ex.own {K:AH} {es:Nat} {elem:TypeId} {v:AV} {xs:List AV} (h:Ex K es elem v xs):Own 0 K es elem v xs:=by
 rcases h with ⟨rfl,rfl⟩ | ⟨i,n,rfl,hi,hl⟩
 · exact .nil
 · exact .at i 0 n n false xs xs (Nat.zero_le _) hi (Nat.le_refl _) (by omega) (Ex.rd hi hl)
theorem Ex.cells {K:AH} {es:Nat} {elem:TypeId} {v:AV} {xs:List AV} (h:Ex K es elem v xs):v.cells=[v]/\v.one=true:=h.own.cells
theorem Ex.lt {K:AH} {es:Nat} {elem:TypeId} {v:AV} {xs:List AV} (h:Ex K es elem v xs) {i:Nat} (hv:blkO v=some i):i < K.length:=(own_blk h.own hv).2
theorem Ex.keep {K K':AH} {es:Nat} {elem:TypeId} {v:AV} {xs:List AV} (h:Ex K es elem v xs) (hk:∀ i,blkO v=some i->K'[i]? =K[i]?):Ex K' es elem v xs:=by
 rcases h with h | ⟨i,n,rfl,hi,hl⟩
 · exact .inl h
 · exact .inr ⟨i,n,rfl,by rw [hk i rfl]; exact hi,hl⟩
theorem Ex.lenOf {K:AH} {es:Nat} {elem:TypeId} {v:AV} {xs:List AV} (h:Ex K es elem v xs):xs.length=lenOfA v * es:=h.own.length
theorem app_slot {sT elem:TypeId} {xT:Option TypeId} {es B:Nat} (T:AppT Tryz.prog sT xT elem es) (hes:0 < es) {K:AH} (hB:K.length=B) {v:AV} {xs:List AV} (h:Ex K es elem v xs) {new:List AV} (hn:new.length=es) (hone:new.all AV.one=true) (hg:growOk (Tryz.prog.bytesOf elem) (lenOfA v+1)=true)
   (s q:Nat) (L:AH) (hs:L[s]? =some .fresh) (hq:L[q]? =some (.cells new elem)) :
   appendA Tryz.prog (some (B+s)) sT xT v (.slice (B+q) 0 es 1 1 true) (K++L)=some (.slice (B+s) 0 es (lenOfA v+1) (lenOfA v+1) false,killV v K++L.set s (.cells (xs++new) elem)):=by
 obtain ⟨z,hz,hzl,hzn⟩:=T.z
 have hgq:(K++L)[B+q]? =some (.cells new elem):=by rw [List.getElem?_append_right (by omega),<-hB,Nat.add_sub_cancel_left]; exact hq
 have hrd:rdCells (K++L) (B+q) 0 (1 * es)=some new:=Ex.rd hgq (by omega)
 unfold appendA
 rw [if_neg (by rw [T.x]; simp),T.el,Option.bind_some,hz,Option.bind_some,T.sz]
 simp only [srcA,if_true,Option.bind_some,Nat.le_refl,hrd]
 rw [if_pos ⟨by rw [hzl,T.sz],hzn⟩]
 have hput:∀ (K1:AH) o,K1.length=B->put (some (B+s)) (K1++L) o=some (B+s,K1++L.set s o):=fun K1 o hl=>by
   unfold put
   simp only
   rw [List.getElem?_append_right (by omega),show B+s - K1.length=s by omega,hs]
   simp only
   rw [List.set_append_right _ _ (by omega),show B+s - K1.length=s by omega]
 rcases h with ⟨rfl,rfl⟩ | ⟨i,n,rfl,hi,hl⟩
 · simp only [Nat.one_ne_zero,if_false,lenOfA_nil,Nat.zero_add] at hg ⊢
   rw [if_pos hg,hput K _ hB]; rfl
 · have hiK:=lt_of_get hi
   simp only [lenOfA_slice] at hg ⊢
   rw [if_pos trivial,if_neg (by omega),if_neg (by omega),if_neg (by simp),List.getElem?_append_left hiK,hi]
   simp only
   rw [if_pos ⟨trivial,hone,hg⟩,Ex.rd (by rw [List.getElem?_append_left hiK]; exact hi) hl,Option.bind_some,List.set_append_left _ _ hiK,hput _ _ (by rw [List.length_set]; exact hB)]; rfl
abbrev OS:=AV × Nat × TypeId × List AV
structure Owns (S K:AH) (X:List Nat) (f:Nat->Nat->OS):Prop where
 sl:S.length<=K.length
 xl:∀ x∈X,x < K.length
 ex:∀ a i,Ex K (f a i).2.1 (f a i).2.2.1 (f a i).1 (f a i).2.2.2
 dis:∀ a i c j,¬(a=c/\i=j)->∀ b,blkO (f a i).1=some b->blkO (f c j).1≠some b
 own:∀ a i b,blkO (f a i).1=some b->Gone S b/\b∉X
def updF (f:Nat->Nat->OS) (a i:Nat) (e:OS):Nat->Nat->OS:=fun c j=>if c=a/\j=i then e else f c j
theorem Owns.upd {S K:AH} {X:List Nat} {f:Nat->Nat->OS} (h:Owns S K X f) (a i:Nat) {K':AH} {e:OS} (he:Ex K' e.2.1 e.2.2.1 e.1 e.2.2.2) (hb:∀ b,blkO e.1=some b->blkO (f a i).1=some b∨K.length<=b) (hl:K.length<=K'.length)
   (hK:∀ b,b < K.length->blkO (f a i).1≠some b->K'[b]? =K[b]?):Owns S K' X (updF f a i e) where
 sl:=Nat.le_trans h.sl hl
 xl:=fun x hx=>Nat.lt_of_lt_of_le (h.xl x hx) hl
 ex:=fun c j=>by
   unfold updF
   split
   · exact he
   · rename_i hne
     exact (h.ex c j).keep fun b hb=>hK b ((h.ex c j).lt hb) (h.dis c j a i hne b hb)
 dis:=fun a1 i1 c j hne b hb1 hb2=>by
   unfold updF at hb1 hb2
   split at hb1
   · rename_i e1
     split at hb2
     · rename_i e2; exact hne ⟨e1.1.trans e2.1.symm,e1.2.trans e2.2.symm⟩
     · rename_i e2
       rcases hb b hb1 with h1 | h1
       · exact h.dis a i c j (fun x=>e2 ⟨x.1.symm,x.2.symm⟩) b h1 hb2
       · have:=(h.ex c j).lt hb2; omega
   · rename_i e1
     split at hb2
     · rcases hb b hb2 with h1 | h1
       · exact h.dis a1 i1 a i e1 b hb1 h1
       · have:=(h.ex a1 i1).lt hb1; omega
     · exact h.dis a1 i1 c j hne b hb1 hb2
 own:=fun c j b hb1=>by
   unfold updF at hb1
   split at hb1
   · rcases hb b hb1 with h1 | h1
     · exact h.own a i b h1
     · exact ⟨gone_ge (Nat.le_trans h.sl h1),fun hx=>by have:=h.xl b hx; omega⟩
   · exact h.own c j b hb1
theorem Owns.same {S K:AH} {X:List Nat} {f:Nat->Nat->OS} (h:Owns S K X f) {K':AH} (hl:K.length<=K'.length) (hK:∀ b,b < K.length->b∉X->K'[b]? =K[b]?):Owns S K' X f where
 sl:=Nat.le_trans h.sl hl
 xl:=fun x hx=>Nat.lt_of_lt_of_le (h.xl x hx) hl
 ex:=fun c j=>(h.ex c j).keep fun b hb=>hK b ((h.ex c j).lt hb) (h.own c j b hb).2
 dis:=h.dis
 own:=h.own
theorem Owns.congr {S K:AH} {X:List Nat} {f g:Nat->Nat->OS} (h:Owns S K X f) (e:∀ a i,g a i=f a i):Owns S K X g:=by
 have:g=f:=funext fun a=>funext fun i=>e a i
 rw [this]; exact h
def padS (S:AH) (n:Nat) (o:AObj):AH:=S++List.replicate (n - S.length) .dead++[o]
theorem padS_len {S:AH} {n:Nat} {o:AObj} (h:S.length<=n):(padS S n o).length=n+1:=by unfold padS; simp; omega
theorem padS_self {S:AH} {n:Nat} {o:AObj} (h:S.length<=n):(padS S n o)[n]? =some o:=by
 unfold padS
 rw [List.getElem?_append_right (by simp; omega)]
 simp only [List.length_append,List.length_replicate]
 rw [show n - (S.length+(n - S.length))=0 by omega]; rfl
theorem padS_sub {S:AH} {n:Nat} {o:AObj}:Agree S (padS S n o):=fun i hi=>by
 unfold padS
 rw [List.append_assoc,List.getElem?_append_left hi]
theorem padS_gone {S:AH} {n i:Nat} {o:AObj} (hS:S.length<=n) (h:Gone S i) (hi:i < n):Gone (padS S n o) i:=by
 rcases Nat.lt_or_ge i S.length with c | c
 · unfold Gone
   rw [padS_sub i c]; exact h
 · right
   unfold padS
   rw [List.getElem?_append_left (by simp; omega),List.getElem?_append_right c,List.getElem?_replicate,if_pos (by omega)]
theorem padS_of {S K:AH} {o:AObj} (hS:S.length<=K.length) (h:Sub S K):Sub (padS S K.length o) (K++[o]):=fun i x hi hx=>by
 have hil:=lt_of_get hi
 rw [padS_len hS] at hil
 rcases Nat.lt_or_ge i K.length with c | c
 · rw [List.getElem?_append_left c]
   rcases Nat.lt_or_ge i S.length with d | d
   · rw [padS_sub i d] at hi; exact h i x hi hx
   · unfold padS at hi
     rw [List.getElem?_append_left (by simp; omega),List.getElem?_append_right d,List.getElem?_replicate,if_pos (by omega)] at hi
     cases hi; exact absurd rfl hx
 · have:i=K.length:=by omega
   subst this
   rw [padS_self hS] at hi
   rw [List.getElem?_append_right (Nat.le_refl _),Nat.sub_self]; exact hi
theorem Owns.pad {S K:AH} {X:List Nat} {f:Nat->Nat->OS} (h:Owns S K X f) (o:AObj):Owns (padS S K.length o) (K++[o]) X f where
 sl:=by rw [padS_len h.sl,List.length_append]; exact Nat.le_refl _
 xl:=fun x hx=>by rw [List.length_append]; exact Nat.lt_of_lt_of_le (h.xl x hx) (Nat.le_add_right _ _)
 ex:=fun c j=>(h.ex c j).keep fun b hb=>List.getElem?_append_left ((h.ex c j).lt hb)
 dis:=h.dis
 own:=fun c j b hb=>⟨padS_gone h.sl (h.own c j b hb).1 ((h.ex c j).lt hb),(h.own c j b hb).2⟩
end Go.Dv
namespace Go.Dv
open Go.Proofs
attribute [local congr] bind_congr_first cb_congr condA_congr gd_congr br_congr
def mapE (ks:List Nat) (mv:Nat->AV):List (AV × AV × Nat):=(List.zip ks (List.range ks.length)).map fun p=>(I (p.1:Int),mv p.1,p.2)
theorem mt131:mapTypes Tryz.prog 131=some (3,30):=by kernel_rfl
theorem find_ks (mv:Nat->AV) (n:Nat):∀ (l:List (Nat × Nat)) (i:Nat),findA Tryz.prog 3 (.int .i64) (.int .i64 n) (l.map fun p=>(I (p.1:Int),mv p.1,p.2)) i=if (l.map (·.1)).contains n then some (some (i+(l.map (·.1)).idxOf n,mv n)) else some none
 | [],i=>rfl
 | p::l,i=>by
   have ih:=find_ks mv n l (i+1)
   simp only [List.map_cons,findA,toV,Option.bind_some,same3,List.contains_cons]
   cases h:((n:Int) == (p.1:Int)) with
   | true =>
     have e:n=p.1:=by rw [beq_iff_eq] at h; exact Int.ofNat_inj.1 h
     subst e
     simp
   | false =>
     have:(n == p.1)=false:=by rw [beq_eq_false_iff_ne] at h ⊢; exact fun e=>h (by rw [e])
     have h2:(p.1 == n)=false:=by rw [beq_eq_false_iff_ne] at this ⊢; exact Ne.symm this
     rw [this]
     simp only [Bool.false_or]
     rw [ih]
     simp only [List.idxOf_cons,h2,cond_false]
     rw [show i+1+(l.map (·.1)).idxOf n=i+((l.map (·.1)).idxOf n+1) by omega]
theorem zip_fst (ks:List Nat):(List.zip ks (List.range ks.length)).map (·.1)=ks:=List.map_fst_zip (by simp)
structure Mp (K:AH) (mb:Nat) (mv:Nat->AV):Prop where
 ex:∃ ks:List Nat,ks.Nodup/\K[mb]? =some (.map (mapE ks mv) ks.length)/\∀ e,e∉ks->mv e=.nilSlice
theorem Mp.keep {K K':AH} {mb:Nat} {mv:Nat->AV} (h:Mp K mb mv) (hk:K'[mb]? =K[mb]?):Mp K' mb mv:=by
 obtain ⟨ks,h1,h2,h3⟩:=h
 exact ⟨ks,h1,by rw [hk]; exact h2,h3⟩
theorem Mp.get {K:AH} {mb:Nat} {mv:Nat->AV} (h:Mp K mb mv) (n:Nat) (L:AH):lookupA Tryz.prog 131 (.map mb) (I (n:Int)) false (K++L)=some (mv n):=by
 obtain ⟨ks,h1,h2,h3⟩:=h
 have hl:=lt_of_get h2
 simp only [lookupA,mt131,entriesA,List.getElem?_append_left hl,h2,Option.bind_some,ask3]
 unfold mapE
 rw [find_ks,zip_fst]
 cases hc:ks.contains n with
 | true=>rfl
 | false =>
   rw [h3 n (by simpa using hc)]
   simp only [Bool.false_eq_true,if_false,Option.bind_some,z30]; rfl
theorem zip_idx {ks:List Nat} {n:Nat} (hm:n∈ks):(ks.zip (List.range ks.length))[ks.idxOf n]? =some (n,ks.idxOf n):=by
 have hi:ks.idxOf n < ks.length:=List.idxOf_lt_length_of_mem hm
 exact List.getElem?_zip_eq_some.2 ⟨by rw [List.getElem?_eq_getElem hi,List.getElem_idxOf hi],List.getElem?_range hi⟩
theorem mapE_set (ks:List Nat) (mv:Nat->AV) (n:Nat) (v:AV) (hn:ks.Nodup) (hm:n∈ks):(mapE ks mv).set (ks.idxOf n) (I (n:Int),v,ks.idxOf n)=mapE ks (fun e=>if e=n then v else mv e):=by
 have hi:ks.idxOf n < ks.length:=List.idxOf_lt_length_of_mem hm
 unfold mapE
 refine List.ext_getElem? fun i=>?_
 rw [List.getElem?_set,List.getElem?_map,List.getElem?_map]
 simp only [List.length_map,List.length_zip,List.length_range,Nat.min_self]
 split
 · rename_i e
   subst e
   first | rw [if_pos hi] | skip
   rw [zip_idx hm]
   simp only [Option.map_some,if_true]
 · rename_i e
   cases hz:(ks.zip (List.range ks.length))[i]? with
   | none=>rfl
   | some p =>
     obtain ⟨h1,h2⟩:=List.getElem?_zip_eq_some.1 hz
     have hne:p.1≠n:=fun e2=>e (by
       have hil:=lt_of_get h1
       rw [List.getElem?_eq_getElem hil] at h1
       have:ks[i]=n:=by rw [<-e2]; exact Option.some.inj h1
       rw [<-this]
       exact (List.Nodup.idxOf_getElem hn i hil))
     simp only [Option.map_some]
     rw [if_neg hne]
theorem Mp.put {K:AH} {mb:Nat} {mv:Nat->AV} (h:Mp K mb mv) (n:Nat) (v:AV):∃ o,(∀ L,mapPutA Tryz.prog 131 (.map mb) (I (n:Int)) v (K++L)=some (K.set mb o++L))/\Mp (K.set mb o) mb (fun e=>if e=n then v else mv e):=by
 obtain ⟨ks,h1,h2,h3⟩:=h
 have hl:=lt_of_get h2
 have hfind:findA Tryz.prog 3 (.int .i64) (.int .i64 n) (mapE ks mv) 0=if ks.contains n then some (some (ks.idxOf n,mv n)) else some none:=by
   unfold mapE
   rw [find_ks,zip_fst,Nat.zero_add]
 cases hc:ks.contains n with
 | true =>
   have hm:n∈ks:=by simpa using hc
   have hi:ks.idxOf n < ks.length:=List.idxOf_lt_length_of_mem hm
   have hg:(mapE ks mv)[ks.idxOf n]? =some (I (n:Int),mv n,ks.idxOf n):=by
     unfold mapE
     rw [List.getElem?_map,zip_idx hm]; rfl
   refine ⟨.map (mapE ks fun e=>if e=n then v else mv e) ks.length,fun L=>?_,ks,h1,List.getElem?_set_self hl,fun e he=>?_⟩
   · simp only [mapPutA,mt131,List.getElem?_append_left hl,h2,Option.bind_some,ask3,hfind,hc,if_true,hg,toV,show Instr.sameBits 10000 (.int .i64 (n:Int)) (.int .i64 (n:Int))=true from by simp [Instr.sameBits]]
     rw [mapE_set ks mv n v h1 hm,List.set_append_left _ _ hl]
   · show (if e=n then v else mv e)=_
     rw [if_neg fun e2=>he (by rw [e2]; exact hm)]
     exact h3 e he
 | false =>
   have hm:n∉ks:=by simpa using hc
   refine ⟨.map (mapE (ks++[n]) fun e=>if e=n then v else mv e) (ks++[n]).length,fun L=>?_,ks++[n],?_,List.getElem?_set_self hl,fun e he=>?_⟩
   · simp only [mapPutA,mt131,List.getElem?_append_left hl,h2,Option.bind_some,ask3,hfind,hc,Bool.false_eq_true,if_false]
     have:mapE ks mv++[(I (n:Int),v,ks.length)]=mapE (ks++[n]) fun e=>if e=n then v else mv e:=by
       unfold mapE
       rw [List.length_append,List.length_singleton,List.range_succ,List.zip_append (by simp),List.map_append]
       congr 1
       · refine List.map_congr_left fun p hp=>?_
         have hp1:p.1∈ks:=by
           have:=List.mem_map_of_mem (f:=(·.1)) hp
           rwa [zip_fst] at this
         simp only
         rw [if_neg fun e2=>hm (by rw [<-e2]; exact hp1)]
       · simp
     rw [this,List.set_append_left _ _ hl,List.length_append]; rfl
   · rw [List.nodup_append]
     exact ⟨h1,by simp,fun a ha b hb=>by rw [List.mem_singleton] at hb; subst hb; exact fun e2=>hm (by rw [<-e2]; exact ha)⟩
   · rw [List.mem_append,List.mem_singleton] at he
     show (if e=n then v else mv e)=_
     rw [if_neg fun e2=>he (.inr e2)]
     exact h3 e fun hh=>he (.inl hh)
def plF (iv av:AV) (ws:List AV) (mv:Nat->AV) (l:List (Itm × AV)) (A:List (List Nat)) (R:Nat->List Nat):Nat->Nat->OS
 | 0,0=>(iv,9,34,(l.map xrow).flatten)
 | 1,0=>(av,1,30,ws)
 | 2,i=>(ws.getD i .nilSlice,1,3,iv1 (A.getD i []))
 | 3,e=>(mv e,1,3,iv1 (R e))
 | _,_=>(.nilSlice,1,3,[])
structure PlnR (S K:AH) (p mb:Nat) (iv av:AV) (ws:List AV) (mv:Nat->AV) (l:List (Itm × AV)) (A:List (List Nat)) (R:Nat->List Nat):Prop where
 sub:Sub S K
 gp:Gone S p
 gm:Gone S mb
 pm:p≠mb
 hp:K[p]? =some (.cells [iv,av] 93)
 hm:Mp K mb mv
 lw:ws.length=A.length
 ow:Owns S K [p,mb] (plF iv av ws mv l A R)
section
variable {S K:AH} {p mb:Nat} {iv av:AV} {ws:List AV} {mv:Nat->AV} {l:List (Itm × AV)} {A:List (List Nat)} {R:Nat->List Nat}
theorem PlnR.pK (h:PlnR S K p mb iv av ws mv l A R):p < K.length:=lt_of_get h.hp
theorem PlnR.mK (h:PlnR S K p mb iv av ws mv l A R):mb < K.length:=by obtain ⟨ks,_,h2,_⟩:=h.hm; exact lt_of_get h2
theorem PlnR.oi (h:PlnR S K p mb iv av ws mv l A R):Ex K 9 34 iv (l.map xrow).flatten:=h.ow.ex 0 0
theorem PlnR.oa (h:PlnR S K p mb iv av ws mv l A R):Ex K 1 30 av ws:=h.ow.ex 1 0
theorem PlnR.ow2 (h:PlnR S K p mb iv av ws mv l A R) (i:Nat):Ex K 1 3 (ws.getD i .nilSlice) (iv1 (A.getD i [])):=h.ow.ex 2 i
theorem PlnR.om (h:PlnR S K p mb iv av ws mv l A R) (e:Nat):Ex K 1 3 (mv e) (iv1 (R e)):=h.ow.ex 3 e
theorem PlnR.rp (h:PlnR S K p mb iv av ws mv l A R) (L:AH) (k:Nat) {x:AV} (hx:[iv,av][k]? =some x):rdCells (K++L) p k 1=some [x]:=by
 rw [obj_rd h.hp L,if_pos (by have:=lt_of_get hx; simp at this ⊢; omega)]
 rw [List.drop_eq_getElem_cons (lt_of_get hx),List.take_succ_cons,List.take_zero]
 rw [List.getElem?_eq_getElem (lt_of_get hx)] at hx
 rw [Option.some.inj hx]
theorem PlnR.pad (h:PlnR S K p mb iv av ws mv l A R) (o:AObj):PlnR (padS S K.length o) (K++[o]) p mb iv av ws mv l A R where
 sub:=padS_of h.ow.sl h.sub
 gp:=padS_gone h.ow.sl h.gp h.pK
 gm:=padS_gone h.ow.sl h.gm h.mK
 pm:=h.pm
 hp:=by rw [List.getElem?_append_left h.pK]; exact h.hp
 hm:=h.hm.keep (List.getElem?_append_left h.mK)
 lw:=h.lw
 ow:=h.ow.pad o
theorem PlnR.grow (h:PlnR S K p mb iv av ws mv l A R) (L:AH):PlnR S (K++L) p mb iv av ws mv l A R where
 sub:=h.sub.appR L
 gp:=h.gp
 gm:=h.gm
 pm:=h.pm
 hp:=by rw [List.getElem?_append_left h.pK]; exact h.hp
 hm:=h.hm.keep (List.getElem?_append_left h.mK)
 lw:=h.lw
 ow:=h.ow.same (by simp) fun b hb _=>List.getElem?_append_left hb
theorem PlnR.less {S':AH} (h:PlnR S K p mb iv av ws mv l A R) (hs:Sub S' S) (hl:S'.length<=S.length):PlnR S' K p mb iv av ws mv l A R where
 sub:=hs.trans h.sub
 gp:=h.gp.sub hs
 gm:=h.gm.sub hs
 pm:=h.pm
 hp:=h.hp
 hm:=h.hm
 lw:=h.lw
 ow:={ sl:=Nat.le_trans hl h.ow.sl,xl:=h.ow.xl,ex:=h.ow.ex,dis:=h.ow.dis,own:=fun a i b hb=>⟨(h.ow.own a i b hb).1.sub hs,(h.ow.own a i b hb).2⟩ }
theorem Owns.slot {X:List Nat} {f:Nat->Nat->OS} (h:Owns S K X f) (a i:Nat) {L:AH} {s n:Nat} {xs:List AV} {elem es:Nat} (hs:L[s]? =some (.cells xs elem)) (hn:xs.length=n * es):Owns S (killV (f a i).1 K++L) X (updF f a i (.slice (K.length+s) 0 es n n false,es,elem,xs)):=
 h.upd a i (.inr ⟨_,n,rfl,by rw [List.getElem?_append_right (by rw [killV_len]; omega),killV_len,Nat.add_sub_cancel_left]; exact hs,hn⟩) (fun b hb=>by cases hb; right; omega) (by rw [List.length_append,killV_len]; omega) fun b hb hne=>by
   rw [List.getElem?_append_left (by rw [killV_len]; exact hb),killV_get hne]
theorem sub_slot {X:List Nat} {f:Nat->Nat->OS} (hs:Sub S K) (h:Owns S K X f) (a i:Nat) (L:AH):Sub S (killV (f a i).1 K++L):=by
 refine Sub.appR ?_ L
 unfold killV
 split
 · rename_i b _ _ _ _ _ hv
   exact hs.setR (h.own a i b (by rw [hv]; rfl)).1 _
 · exact hs
end
end Go.Dv
