/- Part 28 of the walks (own work). -/
import Derived.Test.YtilpjnckfkjkbaaGreatDoorQ27
set_option maxRecDepth 100000
set_option maxHeartbeats 4000000
set_option linter.unusedSimpArgs false
set_option linter.unusedVariables false
namespace Go.Dv
open Go.Proofs
attribute [local congr] bind_congr_first cb_congr condA_congr gd_congr br_congr
theorem ia91 (i k es len cap:Nat) (ex:Bool) (kk:IntKind) (n:Int):indexAddrA Tryz.prog 91 (.slice i k es len cap ex) (.int kk n)=if 0<=n/\n < len/\1=es then some (.ptr i (k+n.toNat * es)) else none:=by kernel_rfl
theorem ln91 (H:AH) (i k es len cap:Nat) (ex:Bool):lenA Tryz.prog 91 H (.slice i k es len cap ex)=some (.int .i64 len):=by kernel_rfl
theorem ln91n (H:AH):lenA Tryz.prog 91 H .nilSlice=some (.int .i64 0):=by kernel_rfl
theorem ix91T:IxT 91 1:=⟨ln91n,ln91,ia91⟩
theorem ld91 (H:AH) (i k:Nat):ldA Tryz.prog 91 H i k=(rdCells H i k 1).bind (·.head?):=by kernel_rfl
theorem fa93_0 (i k:Nat):fieldAddrA Tryz.prog 93 (.ptr i k) 0=some (.ptr i k):=by kernel_rfl
theorem fa93_1 (i k:Nat):fieldAddrA Tryz.prog 93 (.ptr i k) 1=some (.ptr i (k+1)):=by kernel_rfl
structure AftR (H:AH) (A:List (List Nat)) (av:AV):Prop where
 ex:∃ ws:List AV,ws.length=A.length/\SlS 91 1 H av (ws.map fun w=>[w])/\∀ i,i < A.length->SlS 30 1 H (ws.getD i uA) (ints (A.getD i []))
theorem AftR.sub {H K:AH} {A:List (List Nat)} {av:AV} (h:AftR H A av) (hA:Sub H K):AftR K A av:=by
 obtain ⟨ws,h1,h2,h3⟩:=h
 exact ⟨ws,h1,h2.sub hA,fun i hi=>(h3 i hi).sub hA⟩
theorem AftR.at {H K:AH} {A:List (List Nat)} {av:AV} (h:AftR H A av) (hA:Agree H K) {j:Nat} (hj:j < A.length):∃ i k w,(∀ kk,indexAddrA Tryz.prog 91 av (.int kk (j:Int))=some (.ptr i k))/\(∀ L,rdCells (K++L) i k 1=some [w])/\SlS 30 1 H w (ints (A.getD j [])):=by
 obtain ⟨ws,h1,h2,h3⟩:=h
 have hw:j < ws.length:=by omega
 obtain ⟨i,k,hi,hr⟩:=h2.ix j [ws.getD j uA] (by rw [List.getElem?_map,List.getElem?_eq_getElem hw,getD_at hw]; rfl)
 exact ⟨i,k,_,hi,fun L=>row_rd hr hA L,h3 j hj⟩
theorem reach_in {H G:AH} {A:List (List Nat)} {w:AV} {N n x pb mb M:Nat} (hH:Agree H G) (hHm:H.length<=mb) (hmG:mb < G.length) (hrow:SlS 30 1 H w (ints (A.getD x []))) (hA:∀ l∈A,∀ y∈l,y < N) (hNN:N < 2 ^ 20) (hMb:M < 2 ^ 20) (hN:(A.getD x []).length < 2 ^ 60):∀ (d j:Nat) (tm:List AV) (K:AH),(A.getD x []).length - j=d->j<=(A.getD x []).length->(tm.length=43/\tm.getD 2 uA=.ptr pb 0/\tm.getD 5 uA=.map mb/\tm.getD 25 uA=w/\tm.getD 26 uA=I (A.getD x []).length/\tm.getD 27 uA=I ((j:Nat):Int)/\AgX G K mb/\∃ seen todo v,tm.getD 6 uA=v/\Qu.RI A N n seen todo x j/\K[mb]? =some (.map (natE seen) seen.length)/\Own G.length K 1 3 v (todo.map fun (n:Nat)=>I (n:Int))/\(N - seen.length)+todo.length=M) ->
   ∃ X K1,EvC Tryz.prog C0 W0 plN l44_0 (tm,K)=some (.exit 2,(X,K1))/\(X.length=43/\X.getD 2 uA=.ptr pb 0/\X.getD 5 uA=.map mb/\X.getD 25 uA=w/\X.getD 26 uA=I (A.getD x []).length/\X.getD 27 uA=I (((A.getD x []).length:Nat):Int)/\AgX G K1 mb/\∃ seen todo v,X.getD 6 uA=v/\Qu.RI A N n seen todo x (A.getD x []).length/\K1[mb]? =some (.map (natE seen) seen.length)/\Own G.length K1 1 3 v (todo.map fun (n:Nat)=>I (n:Int))/\(N - seen.length)+todo.length=M):=by
 intro d
 induction d with
 | zero =>
   intro j tm K hd hj hI
   have hjl:j=(A.getD x []).length:=by omega
   subst hjl
   have hI0:=hI
   obtain ⟨hlen,h2,h5,h25,h26,h27,hGX,seen,todo,v,h6,hI5,hmp,ho,hM⟩:=hI
   have hlt:ltB ((((A.getD x []).length:Nat)):Int) ((A.getD x []).length:Nat)=false:=ltB_f (by omega)
   rw [el44_0]
   simp -implicitDefEqProofs only [b44_0,Tryz.f44,aP,hlen,h2,h5,h25,h26,h27,h6,hlt,↓cbT,↓cbF,↓evDn,evUp,eu,sevalprocAttr]
   refine ⟨_,K,rfl,?_⟩
   exact ⟨by first | exact hlen | simp only [List.length_set,hlen],Aj5 (by simp only [hlen,h2,h5,h25,h26,h27,gB,and_self,sevalprocAttr]) ⟨hGX,seen,todo,v,by simp only [hlen,h6,gB,sevalprocAttr],hI5,hmp,ho,hM⟩⟩
 | succ d ih =>
   intro j tm K hd hj hI
   have hI0:=hI
   obtain ⟨hlen,h2,h5,h25,h26,h27,hGX,seen,todo,v,h6,hI5,hmp,ho,hM⟩:=hI
   have hjN:j < (A.getD x []).length:=by omega
   have hlt:ltB (j:Int) ((A.getD x []).length:Nat)=true:=ltB_t (by omega)
   have hwi:=inc_i (j:=j) (by omega)
   have hHK:Agree H K:=fun i hi=>(hGX.2 i (Nat.lt_of_lt_of_le hi hH.len) (by omega)).trans (hH i hi)
   obtain ⟨i0,k0,hix,hrd⟩:=ints_at hrow hHK hjN
   have hy:(A.getD x [])[j]? =some ((A.getD x []).getD j 0):=by rw [List.getElem?_eq_getElem hjN,getD_at hjN]
   obtain ⟨hs1,hs2⟩:=hI5.step hA hy
   have hle:=hI5.le
   generalize (A.getD x []).getD j 0=y at *
   have hmK:(K++[])[mb]? =some (.map (natE seen) seen.length):=by rw [List.append_nil]; exact hmp
   have hlk:=lk95 hmK y
   rw [el44_0]
   rw [<-List.append_nil K]
   have key:∀ (tmN:List AV) (KN:AH) (Z:Option (AExit × St)),EvC Tryz.prog C0 W0 plN l44_0 (tmN,KN)=Z->(tmN.length=43/\tmN.getD 2 uA=.ptr pb 0/\tmN.getD 5 uA=.map mb/\tmN.getD 25 uA=w/\tmN.getD 26 uA=I (A.getD x []).length/\tmN.getD 27 uA=I (((j+1):Nat):Int)/\AgX G KN mb/\∃ seen todo v,tmN.getD 6 uA=v/\Qu.RI A N n seen todo x (j+1)/\KN[mb]? =some (.map (natE seen) seen.length)/\Own G.length KN 1 3 v (todo.map fun (n:Nat)=>I (n:Int))/\(N - seen.length)+todo.length=M)->∃ X K1,Z=some (.exit 2,(X,K1))/\(X.length=43/\X.getD 2 uA=.ptr pb 0/\X.getD 5 uA=.map mb/\X.getD 25 uA=w/\X.getD 26 uA=I (A.getD x []).length/\X.getD 27 uA=I (((A.getD x []).length:Nat):Int)/\AgX G K1 mb/\∃ seen todo v,X.getD 6 uA=v/\Qu.RI A N n seen todo x (A.getD x []).length/\K1[mb]? =some (.map (natE seen) seen.length)/\Own G.length K1 1 3 v (todo.map fun (n:Nat)=>I (n:Int))/\(N - seen.length)+todo.length=M):=by
     intro tmN KN Z h hJ
     obtain ⟨X,K1,A,B⟩:=ih (j+1) tmN KN (by omega) (by omega) hJ
     exact ⟨X,K1,h.symm.trans A,B⟩
   cases hc:seen.contains y with
   | true =>
     simp -implicitDefEqProofs only [b44_0,Tryz.f44,aP,hlen,h2,h5,h25,h26,h27,h6,hlt,hwi,hix,hrd,hlk,hc,r5,↓evLd,nck,↓cbT,↓cbF,↓evDn,evUp,eu,sevalprocAttr]
     generalize hX:EvC Tryz.prog C0 W0 _ _ _=Z
     refine key _ _ _ hX ?_
     simp only [List.append_nil]
     exact ⟨by first | exact hlen | simp only [List.length_set,hlen],Aj5 (by simp only [hlen,h2,h5,h25,h26,h27,gB,and_self,sevalprocAttr]) ⟨hGX,seen,todo,v,by simp only [hlen,h6,gB,sevalprocAttr],hs1 (by simpa using hc),hmp,ho,hM⟩⟩
   | false =>
     have hmp2:=mp95 (i:=mb) (l:=seen) (n:=y) hmK hc
     have hmK1:=lt_of_get hmp
     have htl:todo.length<=M:=by omega
     have hlv:=ho.length
     rw [List.length_map,Nat.mul_one] at hlv
     have hok:Own G.length (K.set mb (.map (natE (seen++[y])) (seen++[y]).length)) 1 3 v (todo.map fun (n:Nat)=>I (n:Int)):=ho.other fun i k e l c x hv=>List.getElem?_set_ne fun he=>by have:=(own_blk ho (i:=i) (by rw [hv]; rfl)).1; omega
     obtain ⟨v',K',happ,ho',hll,hsame,_⟩:=app_own at30 (hok.agree (Agree.app _ [AObj.cells [I (y:Int)] 3])) (by rw [List.length_append,List.length_set]; exact Nat.le_trans hGX.1 (Nat.le_add_right _ _)) (x:=.slice (K.set mb (.map (natE (seen++[y])) (seen++[y]).length)).length 0 1 1 1 true) (new:=[I (y:Int)]) (.at _ _ _ _ _ _ (by rw [rd_app0]; rfl)) rfl (by rw [by3,<-hlv,lenOfA_slice]; unfold growOk; rw [Bool.and_eq_true,decide_eq_true_iff,decide_eq_true_iff]; constructor <;> omega)
     rw [List.append_nil] at hmp2
     have hmp3:mapPutA Tryz.prog 95 (.map mb) (I (y:Int)) (.bool true) (K++[])=some (K.set mb (.map (natE (seen++[y])) (seen++[y]).length)):=by rw [List.append_nil]; exact hmp2
     have hbs:=bs30' (y:Int) (K.set mb (.map (natE (seen++[y])) (seen++[y]).length))
     generalize hK2:K.set mb (.map (natE (seen++[y])) (seen++[y]).length)=K2 at hmp3 hbs happ
     simp -implicitDefEqProofs only [b44_0,Tryz.f44,aP,hlen,h2,h5,h25,h26,h27,h6,hlt,hwi,hix,hrd,hlk,hc,hmp3,hbs,↓callA_append,happ,r5,↓evLd,nck,↓cbT,↓cbF,↓evDn,evUp,eu,sevalprocAttr]
     generalize hX:EvC Tryz.prog C0 W0 _ _ _=Z
     refine key _ _ _ hX ?_
     subst hK2
     refine ⟨by first | exact hlen | simp only [List.length_set,hlen],Aj5 (by simp only [hlen,h2,h5,h25,h26,h27,gB,and_self,sevalprocAttr]) ⟨⟨?_,?_⟩,seen++[y],todo++[y],v',by simp only [hlen,h6,gB,sevalprocAttr],hs2 (by simpa using hc),?_,?_,?_⟩⟩
     · exact Nat.le_trans hGX.1 (by rw [List.length_append,List.length_set] at hll; omega)
     · intro i hi hne
       rw [hsame i (by rw [List.length_append,List.length_set]; have:=hGX.1; omega) (fun e=>by have:=(own_blk ho e).1; omega),List.getElem?_append_left (by rw [List.length_set]; have:=hGX.1; omega),List.getElem?_set_ne (Ne.symm hne)]
       exact hGX.2 i hi hne
     · rw [hsame mb (by rw [List.length_append,List.length_set]; omega) (fun e=>by have:=(own_blk ho e).1; omega),List.getElem?_append_left (by rw [List.length_set]; exact hmK1),List.getElem?_set_self hmK1]
     · rw [List.map_append]; exact ho'
     · have h1:(seen++[y]).length<=N:=(hs2 (by simpa using hc)).le
       rw [List.length_append,List.length_singleton] at h1 ⊢
       rw [List.length_append,List.length_singleton]
       omega
theorem reach_in' {H G:AH} {A:List (List Nat)} {w:AV} {N n x pb mb M:Nat} {tm:List AV} {K:AH} {Z:Option (AExit × St)} (hX:EvC Tryz.prog C0 W0 plN l44_0 (tm,K)=Z) (hH:Agree H G) (hHm:H.length<=mb) (hmG:mb < G.length) (hrow:SlS 30 1 H w (ints (A.getD x []))) (hA:∀ l∈A,∀ y∈l,y < N) (hNN:N < 2 ^ 20) (hMb:M < 2 ^ 20) (hN:(A.getD x []).length < 2 ^ 60) (hI:tm.length=43/\tm.getD 2 uA=.ptr pb 0/\tm.getD 5 uA=.map mb/\tm.getD 25 uA=w/\tm.getD 26 uA=I (A.getD x []).length/\tm.getD 27 uA=I ((0:Nat):Int)/\AgX G K mb/\∃ seen todo v,tm.getD 6 uA=v/\Qu.RI A N n seen todo x 0/\K[mb]? =some (.map (natE seen) seen.length)/\Own G.length K 1 3 v (todo.map fun (n:Nat)=>I (n:Int))/\(N - seen.length)+todo.length=M) :
   ∃ X K1,Z=some (.exit 2,(X,K1))/\(X.length=43/\X.getD 2 uA=.ptr pb 0/\X.getD 5 uA=.map mb/\X.getD 25 uA=w/\X.getD 26 uA=I (A.getD x []).length/\X.getD 27 uA=I (((A.getD x []).length:Nat):Int)/\AgX G K1 mb/\∃ seen todo v,X.getD 6 uA=v/\Qu.RI A N n seen todo x (A.getD x []).length/\K1[mb]? =some (.map (natE seen) seen.length)/\Own G.length K1 1 3 v (todo.map fun (n:Nat)=>I (n:Int))/\(N - seen.length)+todo.length=M):=by
 subst hX
 exact reach_in hH hHm hmG hrow hA hNN hMb hN ((A.getD x []).length) 0 tm K (by omega) (by omega) hI
theorem reach_out {H G:AH} {A:List (List Nat)} {itv av:AV} {N n pb mb:Nat} (hH:Agree H G) (hHm:H.length<=mb) (hmG:mb < G.length) (hpm:pb≠mb) (hpb:G[pb]? =some (.cells [itv,av] 93)) (haft:AftR H A av) (hlenA:A.length=N) (hA:∀ l∈A,∀ y∈l,y < N) (hrow:∀ l∈A,l.length < 2 ^ 20) (hn:n < N) (hNN:N < 2 ^ 19) :
   ∀ (M:Nat) (seen todo:List Nat) (v:AV) (K:AH) (tm:List AV),(N - seen.length)+todo.length=M->M<=N+1->Qu.RO A N n seen todo->AgX G K mb->K[mb]? =some (.map (natE seen) seen.length)->Own G.length K 1 3 v (todo.map fun (n:Nat)=>I (n:Int))->tm.length=43->tm.getD 2 uA=.ptr pb 0->tm.getD 5 uA=.map mb->tm.getD 6 uA=v ->
   ∃ X K' seen',EvC Tryz.prog C0 W0 plN l44_1 (tm,K)=some (.exit 0,(X,K'))/\X.length=43/\X.getD 5 uA=.map mb/\AgX G K' mb/\K'[mb]? =some (.map (natE seen') seen'.length)/\Qu.RO A N n seen' []:=by
 intro M
 induction M using Nat.strongRecOn with
 | ind M ih =>
   intro seen todo v K tm hM hMN hRO hGX hmp ho hlen h2 h5 h6
   have hln:=ints_ln ho.ints
   rw [el44_1]
   cases todo with
   | nil =>
     have l0:ltB 0 0=false:=rfl
     simp only [List.length_nil,Int.natCast_zero] at hln
     simp -implicitDefEqProofs only [b44_1,Tryz.f44,aP,hlen,h2,h5,h6,hln,l0,r5,↓evLd,nck,↓cbT,↓cbF,↓evDn,evUp,eu,sevalprocAttr]
     exact ⟨_,K,seen,rfl,by simp only [ls,hlen],by simp only [hlen,h5,gB,sevalprocAttr],hGX,hmp,hRO⟩
   | cons x rest =>
     have hx:x < N:=by
       rcases hRO.s2 x (List.mem_cons_self ..) with e | e
       · omega
       · exact hRO.sN x e
     have hxA:x < A.length:=by omega
     have hl1:ltB 0 ((rest.length+1:Nat):Int)=true:=ltB_t (by omega)
     simp only [List.length_cons] at hln
     have hHK:Agree H K:=fun i hi=>(hGX.2 i (Nat.lt_of_lt_of_le hi hH.len) (by omega)).trans (hH i hi)
     obtain ⟨i0,k0,hix,hrd⟩:=ints_at ho.ints (Agree.refl K) (j:=0) (by simp)
     have hrd0:rdCells K i0 k0 1=some [I (x:Int)]:=by have:=hrd []; rwa [List.append_nil] at this
     simp only [Int.natCast_zero] at hix
     obtain ⟨v1,hsl,ho1⟩:=sl_tail ho
     obtain ⟨i1,k1,w,hix1,hrd1,hw⟩:=haft.at hHK hxA
     have hrd1':rdCells K i1 k1 1=some [w]:=by have:=hrd1 []; rwa [List.append_nil] at this
     have hpk:rdCells K pb 1 1=some [av]:=by
       unfold rdCells
       rw [hGX.2 pb (lt_of_get hpb) hpm,hpb]; rfl
     have hlw:=ints_ln hw
     simp -implicitDefEqProofs only [b44_1,Tryz.f44,aP,hlen,h2,h5,h6,hln,hl1,hix,hrd0,hsl,fa93_1,ld91,hpk,hix1,hrd1',hlw,r5,↓evLd,nck,↓cbT,↓cbF,↓evDn,evUp,eu,sevalprocAttr]
     generalize hX:EvC Tryz.prog C0 W0 _ (Code.loop _) _=Z
     have hxm:A.getD x []∈A:=getD_mem' hxA []
     obtain ⟨X,K1,he,x0,x2,x5,x25,x26,x27,hG1,seen1,todo1,v2,x6,hI1,hm1,ho2,hM1⟩:=reach_in' (H:=H) (G:=G) (A:=A) (w:=w) (N:=N) (n:=n) (x:=x) (pb:=pb) (mb:=mb) (M:=(N - seen.length)+rest.length) hX hH hHm hmG hw hA (by omega) (by simp at hM; omega) (by have:=hrow _ hxm; omega) ⟨by simp only [ls,hlen],Aj4 (by simp only [hlen,h2,h5,gB,and_self,sevalprocAttr]) ⟨by simp only [hlen,gB,sevalprocAttr]; try rfl,hGX,seen,rest,v1,by simp only [hlen,gB,sevalprocAttr],hRO.pop,hmp,ho1,rfl⟩⟩
     subst he
     simp -implicitDefEqProofs only [x0,x2,x5,x6,↓cbT,↓cbF,↓evDn,evUp,eu,sevalprocAttr]
     generalize hX2:EvC Tryz.prog C0 W0 _ _ _=Z
     obtain ⟨X',K',seen',b1,b2⟩:=ih ((N - seen1.length)+todo1.length) (by rw [hM1]; simp at hM; omega) seen1 todo1 v2 K1 X rfl (by rw [hM1]; simp at hM; omega) (hI1.out (Nat.le_refl _)) hG1 hm1 ho2 x0 x2 x5 x6
     exact ⟨X',K',seen',hX2.symm.trans b1,b2⟩
theorem reach_out' {H G:AH} {A:List (List Nat)} {itv av:AV} {N n pb mb:Nat} {tm:List AV} {K:AH} {Z:Option (AExit × St)} (hX:EvC Tryz.prog C0 W0 plN l44_1 (tm,K)=Z) (hH:Agree H G) (hHm:H.length<=mb) (hmG:mb < G.length) (hpm:pb≠mb) (hpb:G[pb]? =some (.cells [itv,av] 93)) (haft:AftR H A av) (hlenA:A.length=N) (hA:∀ l∈A,∀ y∈l,y < N) (hrow:∀ l∈A,l.length < 2 ^ 20) (hn:n < N) (hNN:N < 2 ^ 19)
   {v:AV} (hGX:AgX G K mb) (hmp:K[mb]? =some (.map [] 0)) (ho:Own G.length K 1 3 v ([n].map fun (n:Nat)=>I (n:Int))) (hlen:tm.length=43) (h2:tm.getD 2 uA=.ptr pb 0) (h5:tm.getD 5 uA=.map mb) (h6:tm.getD 6 uA=v) :
   ∃ X K' seen',Z=some (.exit 0,(X,K'))/\X.length=43/\X.getD 5 uA=.map mb/\AgX G K' mb/\K'[mb]? =some (.map (natE seen') seen'.length)/\Qu.RO A N n seen' []:=by
 subst hX
 exact reach_out hH hHm hmG hpm hpb haft hlenA hA hrow hn hNN _ [] [n] v K tm rfl (by simp) (Qu.RO.init A N n) hGX hmp ho hlen h2 h5 h6
theorem ev44 {H:AH} {A:List (List Nat)} {itv av:AV} {N n:Nat} (hac:itv.cells=[itv]/\itv.one=true) (hao:av.cells=[av]/\av.one=true) (haft:AftR H A av) (hlenA:A.length=N) (hA:∀ l∈A,∀ y∈l,y < N) (hrow:∀ l∈A,l.length < 2 ^ 20) (hn:n < N) (hNN:N < 2 ^ 19):∃ mb K seen,Ev Tryz.prog C0 W0 44 [.agg [itv,av],I n] H=some (.map mb,K)/\Agree H K/\H.length<=mb/\K[mb]? =some (.map (natE seen) seen.length)/\∀ y,y∈seen↔Qu.TG (Qu.EA A) n y:=by
 obtain ⟨tm,ht,g0,g1,g2⟩:=tm2 (.agg [itv,av]) (I n) 43 (by decide)
 rw [fe44,ht]
 obtain ⟨c1,c2⟩:=hac
 obtain ⟨c3,c4⟩:=hao
 simp -implicitDefEqProofs only [c44,Tryz.f44,aP,g0,g1,g2,↓c1,↓c2,↓c3,↓c4,bs30,r5,↓evLd,nck,show ofV 6 (Value.map none)=some .nilMap from rfl,show ∀ o,put none H o=some (H.length,H++[o]) from fun _=>rfl,↓cbT,↓cbF,↓evDn,evUp,eu,sevalprocAttr]
 generalize hX:EvC Tryz.prog C0 W0 _ (Code.loop _) _=Z
 obtain ⟨X,K',seen,he,x0,x5,hG,hm,hR⟩:=reach_out' (H:=H) (G:=H++[.cells [itv,av] 93,.map [] 0]) (A:=A) (itv:=itv) (av:=av) (N:=N) (n:=n) (pb:=H.length) (mb:=H.length+1) (v:=.slice (H.length+2) 0 1 1 1 true) hX (Agree.app _ _) (by omega) (by simp) (by omega) (by rw [List.getElem?_append_right (Nat.le_refl _),Nat.sub_self]; rfl) haft hlenA hA hrow hn hNN ⟨by simp,fun i hi _=>by
     rw [show H++[AObj.cells [itv,av] 93,.map [] 0,.cells [I (n:Int)] 3]=(H++[AObj.cells [itv,av] 93,.map [] 0])++[.cells [I (n:Int)] 3] from by simp,List.getElem?_append_left hi]⟩ (by rw [List.getElem?_append_right (by omega),Nat.add_sub_cancel_left]; rfl) (.at _ _ _ _ _ [I (n:Int)] _ (by simp) (by rw [List.getElem?_append_right (by omega),Nat.add_sub_cancel_left]; rfl) (Nat.le_refl _) (by simp) (by rw [rd_app]; rfl)) (by simp only [ls,g0]) (by simp only [g0,gB,sevalprocAttr]) (by simp only [g0,gB,sevalprocAttr]) (by simp only [g0,gB,sevalprocAttr])
 subst he
 refine ⟨H.length+1,K',seen,?_,fun i hi=>(hG.2 i (by simp; omega) (by omega)).trans (List.getElem?_append_left hi),by omega,hm,fun y=>hR.fin y⟩
 simp -implicitDefEqProofs only [x0,x5,↓cbT,↓cbF,↓evDn,evUp,eu,sevalprocAttr]
theorem ev47 {H:AH} {x:Itm} {va:AV} (hac:va.cells=[va]) (hao:va.one=true) (L:AH):Ev Tryz.prog C0 W0 47 [.agg (rowX x va)] (H++L)=some (.bool (eqB x.kind 0),H++(L++[.cells (rowX x va) 34])):=by
 obtain ⟨tm,ht,g0,g1⟩:=tm1 (.agg (rowX x va)) 6 (by decide)
 rw [fe47,ht]
 simp -implicitDefEqProofs only [c47,Tryz.f47,aP,g0,g1,rowX,↓hac,↓hao,r5,↓evLd,nck,↓cbT,↓cbF,↓evDn,evUp,eu,sevalprocAttr]
def fz (xs:List Itm):Nat->Nat->Nat
 | 0,j=>j
 | d+1,j=>if eqB (itmAt xs j).kind 0 then j else fz xs d (j+1)
theorem fz_spec (xs:List Itm):∀ d j,j+d=xs.length->j<=fz xs d j/\fz xs d j<=xs.length/\(∀ i,j<=i->i < fz xs d j->eqB (itmAt xs i).kind 0=false)/\(fz xs d j < xs.length->eqB (itmAt xs (fz xs d j)).kind 0=true)
 | 0,j,h=>⟨Nat.le_refl _,by simp only [fz]; omega,fun i h1 h2=>by simp only [fz] at h2; omega,fun h2=>by simp only [fz] at h2; omega⟩
 | d+1,j,h=>by
   simp only [fz]
   cases hk:eqB (itmAt xs j).kind 0 with
   | true=>exact ⟨Nat.le_refl _,by simp; omega,fun i h1 h2=>by simp at h2; omega,fun _=>by simpa using hk⟩
   | false =>
     obtain ⟨h1,h2,h3,h4⟩:=fz_spec xs d (j+1) (by omega)
     simp only [Bool.false_eq_true,if_false]
     refine ⟨by omega,h2,fun i a b=>?_,h4⟩
     rcases Nat.eq_or_lt_of_le a with e | e
     · rw [<-e]; exact hk
     · exact h3 i e b
theorem idx_l {G:AH} {xs:List Itm} {w:AV} (hx:ItmsR G xs w) (hN:xs.length < 2 ^ 50):∀ (d j:Nat) (tm:List AV) (K:AH),j+d=xs.length->Agree G K->tm.length=19->tm.getD 0 uA=w->tm.getD 1 uA=.func (.func 47) [] []->tm.getD 7 uA=I xs.length->tm.getD 8 uA=I (j:Int) ->
   (fz xs d j=xs.length->∃ X K1,EvC Tryz.prog C0 W0 plN l76_0 (tm,K)=some (.exit 0,(X,K1))/\X.length=19/\Agree G K1)/\(fz xs d j < xs.length->∃ Y K1,EvC Tryz.prog C0 W0 plN l76_0 (tm,K)=some (.ret,(Y,K1))/\Y.length=19/\Y.getD 4 uA=I (fz xs d j:Nat)/\Agree G K1):=by
 intro d
 induction d with
 | zero =>
   intro j tm K hj hA hlen h0 h1 h7 h8
   have hlt:ltB (j:Int) (xs.length:Nat)=false:=ltB_f (by omega)
   refine ⟨fun _=>?_,fun h=>by simp only [fz] at h; omega⟩
   rw [el76_0]
   simp -implicitDefEqProofs only [b76_0,Tryz.f76,aP,hlen,h0,h1,h7,h8,hlt,↓cbT,↓cbF,↓evDn,evUp,eu,sevalprocAttr]
   exact ⟨_,K,rfl,by simp only [ls,hlen],hA⟩
 | succ d ih =>
   intro j tm K hj hA hlen h0 h1 h7 h8
   have hjN:j < xs.length:=by omega
   have hlt:ltB (j:Int) (xs.length:Nat)=true:=ltB_t (by omega)
   have hw:=inc_i (j:=j) (by omega)
   obtain ⟨i,k,va,hix,hrd,ha⟩:=hx.at hA hjN
   have hac:=ha.cells
   have hao:=ha.one
   have h47:=fun L=>ev47 (H:=K) (x:=itmAt xs j) hac hao L
   simp only [rowX] at hrd h47
   simp only [fz]
   cases hk:eqB (itmAt xs j).kind 0 with
   | true =>
     simp only [if_true]
     refine ⟨fun h=>absurd h (by omega),fun _=>?_⟩
     rw [el76_0]
     rw [<-List.append_nil K]
     simp -implicitDefEqProofs only [b76_0,Tryz.f76,aP,hlen,h0,h1,h7,h8,hlt,hix,hrd,↓callA_value,Tryz.func47,show Tryz.f47.body.isSome=true from rfl,h47,hk,r5,↓evLd,nck,↓cbT,↓cbF,↓evDn,evUp,eu,sevalprocAttr]
     exact ⟨_,_,rfl,by simp only [ls,hlen],by simp only [hlen,gB,sevalprocAttr],hA.appR _⟩
   | false =>
     simp only [Bool.false_eq_true,if_false]
     have key:∀ (tm1:List AV) (K1:AH),EvC Tryz.prog C0 W0 plN l76_0 (tm,K)=EvC Tryz.prog C0 W0 plN l76_0 (tm1,K1)->Agree G K1->tm1.length=19->tm1.getD 0 uA=w->tm1.getD 1 uA=.func (.func 47) [] []->tm1.getD 7 uA=I xs.length->tm1.getD 8 uA=I ((j+1:Nat):Int) ->
         (fz xs d (j+1)=xs.length->∃ X K1,EvC Tryz.prog C0 W0 plN l76_0 (tm,K)=some (.exit 0,(X,K1))/\X.length=19/\Agree G K1)/\(fz xs d (j+1) < xs.length->∃ Y K1,EvC Tryz.prog C0 W0 plN l76_0 (tm,K)=some (.ret,(Y,K1))/\Y.length=19/\Y.getD 4 uA=I (fz xs d (j+1):Nat)/\Agree G K1):=by
       intro tm1 K1 he a1 a2 a3 a4 a5 a6
       rw [he]
       exact ih (j+1) tm1 K1 (by omega) a1 a2 a3 a4 a5 a6
     have he:∃ tm1,EvC Tryz.prog C0 W0 plN l76_0 (tm,K)=EvC Tryz.prog C0 W0 plN l76_0 (tm1,K++[.cells [I (itmAt xs j).kind,I (itmAt xs j).code,I (itmAt xs j).grid,I (itmAt xs j).block,I (itmAt xs j).src,I (itmAt xs j).dst,I (itmAt xs j).ev,va,.int .i32 (itmAt xs j).word] 34])/\tm1.length=19/\tm1.getD 0 uA=w/\tm1.getD 1 uA=.func (.func 47) [] []/\tm1.getD 7 uA=I xs.length/\tm1.getD 8 uA=I ((j+1:Nat):Int):=by
       rw [el76_0]
       rw [<-List.append_nil K]
       simp -implicitDefEqProofs only [b76_0,Tryz.f76,aP,hlen,h0,h1,h7,h8,hlt,hw,hix,hrd,↓callA_value,Tryz.func47,show Tryz.f47.body.isSome=true from rfl,h47,hk,r5,↓evLd,nck,↓cbT,↓cbF,↓evDn,evUp,eu,sevalprocAttr]
       exact ⟨_,rfl,by simp only [ls,hlen],by simp only [hlen,h0,h1,h7,gB,and_self,sevalprocAttr]⟩
     obtain ⟨tm1,e1,e2,e3,e4,e5,e6⟩:=he
     exact key tm1 _ e1 (hA.appR _) e2 e3 e4 e5 e6
theorem idx_l' {G:AH} {xs:List Itm} {w:AV} (hx:ItmsR G xs w) (hN:xs.length < 2 ^ 50) {tm:List AV} {K:AH} {Z:_} (hX:EvC Tryz.prog C0 W0 plN l76_0 (tm,K)=Z) (hA:Agree G K) (hlen:tm.length=19) (h0:tm.getD 0 uA=w) (h1:tm.getD 1 uA=.func (.func 47) [] []) (h7:tm.getD 7 uA=I xs.length) (h8:tm.getD 8 uA=I 0) :
   (fz xs xs.length 0=xs.length->∃ X K1,Z=some (.exit 0,(X,K1))/\X.length=19/\Agree G K1)/\(fz xs xs.length 0 < xs.length->∃ Y K1,Z=some (.ret,(Y,K1))/\Y.length=19/\Y.getD 4 uA=I (fz xs xs.length 0:Nat)/\Agree G K1):=by
 rw [<-hX]
 exact idx_l hx hN xs.length 0 tm K (by omega) hA hlen h0 h1 h7 h8
theorem ev76 {H:AH} {xs:List Itm} {w:AV} (hx:ItmsR H xs w):∃ r K,Ev Tryz.prog C0 W0 76 [w,.func (.func 47) [] []] H=some (I r,K)/\Agree H K/\(fz xs xs.length 0=xs.length->r=-1)/\(fz xs xs.length 0 < xs.length->r=(fz xs xs.length 0:Nat)):=by
 obtain ⟨tm,ht,g0,g1,g2⟩:=tm2 w (.func (.func 47) [] []) 19 (by decide)
 rw [fe76,ht]
 have hln:=hx.len
 have hn:=hx.n
 obtain ⟨_,hle,_,_⟩:=fz_spec xs xs.length 0 (by omega)
 simp -implicitDefEqProofs only [c76,Tryz.f76,aP,g0,g1,g2,hln,r5,↓evLd,nck,↓cbT,↓cbF,↓evDn,evUp,eu,sevalprocAttr]
 generalize hX:EvC Tryz.prog C0 W0 plN _ _=Z
 have hk:=idx_l' hx hn hX (Agree.refl H) (by simp only [ls,g0]) (by simp only [g0,g1,gB,sevalprocAttr]) (by simp only [g0,g2,gB,sevalprocAttr]) (by simp only [g0,gB,sevalprocAttr]) (by simp only [g0,gB,sevalprocAttr])
 rcases Nat.eq_or_lt_of_le hle with e | e
 · obtain ⟨X,K1,h1,h2,h3⟩:=hk.1 e
   refine ⟨-1,K1,?_,h3,fun _=>rfl,fun h=>by omega⟩
   simp -implicitDefEqProofs only [h1,h2,↓cbT,↓cbF,↓evDn,evUp,eu,sevalprocAttr]
 · obtain ⟨Y,K1,h1,h2,h3,h4⟩:=hk.2 e
   refine ⟨_,K1,?_,h4,fun h=>by omega,fun _=>rfl⟩
   simp -implicitDefEqProofs only [h1,h2,h3,↓cbT,↓cbF,↓evDn,evUp,eu,sevalprocAttr]
theorem Own.writeG {b es:Nat} {K:AH} {w:AV} {xs new:List AV} {elem:TypeId} (h:Own b K es elem w xs) {o:Nat} (hj:o+new.length<=xs.length) (hn:new≠[]) (ho:new.all AV.one=true) :
   ∃ i k len cap ex K',w=.slice i k es len cap ex/\(∀ L,wrCells (K++L) i (k+o) new=some (K'++L))/\Own b K' es elem w (spl xs o new)/\K'.length=K.length/\∀ c,c≠i->K'[c]? =K[c]?:=by
 cases h with
 | nil=>exact absurd (by simp at hj; exact hj.2) hn
 | «at» i k len cap ex cs xs hb hi hl hc hrd =>
   have hxl:=rd_len hrd
   have hil:=lt_of_get hi
   have hm:len * es<=cap * es:=Nat.mul_le_mul_right _ hl
   have hfit:k+o+new.length<=cs.length:=by omega
   refine ⟨i,k,len,cap,ex,_,rfl,fun L=>wr_objs hi hfit ho L,.at i k len cap ex (spl cs (k+o) new) _ hb (by rw [List.getElem?_set_self hil]) hl (by rw [spl_length]; exact hc) ?_,List.length_set ..,fun c hc=>List.getElem?_set_ne (Ne.symm hc)⟩
   unfold rdCells at hrd ⊢
   rw [hi] at hrd
   rw [List.getElem?_set_self hil]
   simp only at hrd ⊢
   rw [if_pos (by omega)] at hrd
   generalize len * es=N at *
   have hx:xs=(cs.drop k).take N:=(Option.some.inj hrd).symm
   rw [if_pos (by rw [spl_length]; omega),spl_append _ _ _ hfit,spl_append _ _ _ hj]
   congr 1
   have hxd:xs.take o=(cs.drop k).take o:=by rw [hx,List.take_take,Nat.min_eq_left (by omega)]
   have hxr:xs.drop (o+new.length)=(cs.drop (k+(o+new.length))).take (N - (o+new.length)):=by rw [hx,List.drop_take,List.drop_drop]
   rw [hxd,hxr]
   have hl1:((cs.drop k).take o).length=o:=by rw [List.length_take,List.length_drop]; omega
   rw [List.append_assoc,List.append_assoc,List.drop_append_of_le_length (by rw [List.length_take]; omega),List.drop_take,show k+o - k=o by omega,List.take_append,hl1,List.take_take,Nat.min_eq_right (by omega),List.take_append,List.take_of_length_le (l:=new) (by omega),show N - o - new.length=N - (o+new.length) by omega,show k+o+new.length=k+(o+new.length) by omega]
theorem Own.shorter {b es:Nat} {K:AH} {elem:TypeId} {i k len cap m:Nat} {ex:Bool} {xs:List AV} (h:Own b K es elem (.slice i k es len cap ex) xs) (hm:m<=len):Own b K es elem (.slice i k es m cap ex) (xs.take (m * es)):=by
 cases h with
 | «at» i2 k2 len2 cap2 ex2 cs xs hb hi hl hc hrd =>
   have hmm:m * es<=len * es:=Nat.mul_le_mul_right _ hm
   refine .at i k m cap ex cs _ hb hi (Nat.le_trans hm hl) hc ?_
   have:=rd_sub hrd 0 (m * es) (by omega)
   rwa [Nat.add_zero,List.drop_zero] at this
theorem Own.len_eq {b es:Nat} {K:AH} {elem:TypeId} {i k len cap:Nat} {ex:Bool} {rows:List (List AV)} (hes:0 < es) (h:Own b K es elem (.slice i k es len cap ex) rows.flatten) (hr:∀ r∈rows,r.length=es):rows.length=len:=by
 have:=h.length
 rw [flat_len hr,lenOfA_slice] at this
 exact Nat.eq_of_mul_eq_mul_right hes this
def AgV (v:AV) (G K:AH):Prop:=G.length<=K.length/\∀ c,c < G.length->blkO v≠some c->K[c]? =G[c]?
theorem AgV.of {v:AV} {G K:AH} (h:Agree G K):AgV v G K:=⟨h.len,fun c hc _=>h c hc⟩
theorem AgV.trans {v:AV} {G K M:AH} (h:AgV v G K) (h2:AgV v K M):AgV v G M:=⟨Nat.le_trans h.1 h2.1,fun c hc hn=>by rw [h2.2 c (Nat.lt_of_lt_of_le hc h.1) hn,h.2 c hc hn]⟩
theorem AgV.subK {v:AV} {G K:AH} (h:AgV v G K):Sub (killV v G) (killV v K):=fun i o hi ho=>by
 have hne:blkO v≠some i:=fun e=>(killV_gone (K:=G) e).ne hi ho rfl
 rw [killV_get hne] at hi
 rw [killV_get hne,h.2 i (lt_of_get hi) hne]; exact hi
theorem callA_clear {P:Program} {C:Cfg P} {slot:Option Nat} {ev:Operand->Option AV} {H:AH} (o:Oper) (x:Operand) (t:TypeId):callA P C slot ev o ⟨.builtin .clear,#[x],#[t]⟩ H=(ev x).bind fun v=>(clearA P t v H).map fun H'=>(.val (.tuple []),H'):=by
 unfold callA; simp only [evL]; cases ev x <;> rfl
theorem zrow_len (zs:List AV) (n:Nat):(zrow zs n).length=n:=by unfold zrow; simp
theorem zrow_one {zs:List AV} (h:zs≠[]) (ho:zs.all AV.one=true) (n:Nat):(zrow zs n).all AV.one=true:=by
 unfold zrow
 rw [List.all_eq_true] at ho ⊢
 intro x hx
 obtain ⟨j,_,rfl⟩:=List.mem_map.1 hx
 have hl:0 < zs.length:=by cases zs with | nil=>exact absurd rfl h | cons a l=>simp
 exact ho _ (getD_mem' (Nat.mod_lt _ hl) _)
theorem sl31_lo (H:AH) {i k l c n:Nat} {e:Bool} (h:n<=l) (hc:l<=c):sliceA Tryz.prog 31 H (.slice i k 9 l c e) (some (I n)) none none=some (.slice i (k+n * 9) 9 (l - n) (c - n) e):=by
 have hu:Tryz.prog.underlying 31=some (.slice 34):=by kernel_rfl
 have h9:Tryz.prog.cellsOf 34=9:=by kernel_rfl
 have hin:Tryz.prog.info? 34=some ((Tryz.prog.info? 34).getD default):=by kernel_rfl
 unfold sliceA
 rw [hu]
 simp only [boundA,Int.natCast_nonneg,if_true,Int.toNat_natCast]
 rw [if_pos ⟨h,hc,h9⟩,hin]; rfl
theorem sl31_hi (H:AH) {i k l c n:Nat} {e:Bool} (h:n<=c):sliceA Tryz.prog 31 H (.slice i k 9 l c e) none (some (I n)) none=some (.slice i k 9 n c e):=by
 have hu:Tryz.prog.underlying 31=some (.slice 34):=by kernel_rfl
 have h9:Tryz.prog.cellsOf 34=9:=by kernel_rfl
 have hin:Tryz.prog.info? 34=some ((Tryz.prog.info? 34).getD default):=by kernel_rfl
 unfold sliceA
 rw [hu]
 simp only [boundA,Int.natCast_nonneg,if_true,Int.toNat_natCast]
 rw [if_pos ⟨Nat.zero_le _,h,h9⟩,hin]
 simp only [Option.map_some,Nat.zero_mul,Nat.add_zero,Nat.sub_zero]
def keepP (p:Itm × AV):Bool:=!eqB p.1.kind 0
theorem clear31 {b:Nat} {K:AH} {i k n m c:Nat} {e:Bool} {xs:List AV} (h:Own b K 9 34 (.slice i k 9 n c e) xs) (hm:m<=n):∃ K',(∀ L,clearA Tryz.prog 31 (.slice i (k+m * 9) 9 (n - m) (c - m) e) (K++L)=some (K'++L))/\Own b K' 9 34 (.slice i k 9 m c e) (xs.take (m * 9))/\K'.length=K.length/\∀ x,x≠i->K'[x]? =K[x]?:=by
 have hel:sliceElem Tryz.prog 31=some 34:=by kernel_rfl
 have h9:Tryz.prog.cellsOf 34=9:=by kernel_rfl
 have hxl:=h.length
 rw [lenOfA_slice] at hxl
 unfold clearA
 simp only [hel,z34w,Option.bind_some,h9,AV.cells,List.length_cons,List.length_nil,Nat.reduceAdd,ne_eq,reduceCtorEq,not_false_eq_true,and_self,if_true]
 rcases Nat.eq_or_lt_of_le hm with e2 | e2
 · refine ⟨K,fun L=>?_,?_,rfl,fun _ _=>rfl⟩
   · rw [if_pos (by omega)]
   · exact h.shorter hm
 · have hsz:m * 9+(zrow [I 0,I 0,I 0,I 0,I 0,I 0,I 0,.nilSlice,.int .i32 0] ((n - m) * 9)).length<=xs.length:=by rw [zrow_len,hxl,<-Nat.add_mul]; omega
   obtain ⟨i2,k2,len2,cap2,ex2,K',e3,hwr,hown,hlen,hoth⟩:=h.writeG hsz (fun e4=>by have:=congrArg List.length e4; rw [zrow_len,List.length_nil] at this; omega) (zrow_one (by simp) rfl _)
   cases e3
   refine ⟨K',fun L=>?_,?_,hlen,hoth⟩
   · rw [if_neg (by omega)]; exact hwr L
   · have:=hown.shorter hm
     rw [spl_append _ _ _ hsz,List.append_assoc,List.take_append_of_le_length (by rw [List.length_take]; omega),List.take_take,Nat.min_self] at this
     exact this
theorem del_l {K0:AH} {l:List (Itm × AV)} {v:AV} {b:Nat} (hvl:∀ G,lenA Tryz.prog 31 G v=some (I l.length)) (hargs:∀ p∈l,SlS 32 1 (killV v K0) p.2 (p.1.args.map row1)) (hN:l.length < 2 ^ 60):∀ (d j:Nat) (tm:List AV) (K:AH),l.length - j=d->j<=l.length->(tm.length=42/\tm.getD 0 uA=v/\tm.getD 1 uA=.func (.func 47) [] []/\tm.getD 6 uA=I ((j:Nat):Int)/\AgV v K0 K/\∃ zs:List (List AV),tm.getD 5 uA=I (((l.take (j)).filter keepP).length:Nat)/\(∀ r∈zs,r.length=9)/\((l.take (j)).filter keepP).length+zs.length=j/\Own b K 9 34 v (((l.take (j)).filter keepP).map xrow++(zs++(l.drop (j)).map xrow)).flatten) ->
   ∃ X K1,EvC Tryz.prog C0 W0 plN l45_0 (tm,K)=some (.exit 0,(X,K1))/\(X.length=42/\X.getD 0 uA=v/\X.getD 1 uA=.func (.func 47) [] []/\X.getD 6 uA=I ((l.length:Nat):Int)/\AgV v K0 K1/\∃ zs:List (List AV),X.getD 5 uA=I (((l.take (l.length)).filter keepP).length:Nat)/\(∀ r∈zs,r.length=9)/\((l.take (l.length)).filter keepP).length+zs.length=l.length/\Own b K1 9 34 v (((l.take (l.length)).filter keepP).map xrow++(zs++(l.drop (l.length)).map xrow)).flatten):=by
 intro d
 induction d with
 | zero =>
   intro j tm K hd hj hI
   have hjl:j=l.length:=by omega
   subst hjl
   have hI0:=hI
   obtain ⟨hlen,h0,h1,h6,hA,zs,h5,hz,hzl,ho⟩:=hI
   have hlt:ltB (((l.length:Nat)):Int) (l.length:Nat)=false:=ltB_f (by omega)
   have hln:=hvl
   rw [el45_0]
   simp -implicitDefEqProofs only [b45_0,Tryz.f45,aP,hlen,h0,h1,h6,h5,hlt,↓hln,↓cbT,↓cbF,↓evDn,evUp,eu,sevalprocAttr]
   refine ⟨_,K,rfl,?_⟩
   exact ⟨by simp only [ls,hlen],Aj3 (by simp only [hlen,h0,h1,h6,gB,and_self,sevalprocAttr]) ⟨hA,zs,by simp only [hlen,h5,gB,sevalprocAttr],hz,hzl,ho⟩⟩
 | succ d ih =>
   intro j tm K hd hj hI
   have hI0:=hI
   obtain ⟨hlen,h0,h1,h6,hA,zs,h5,hz,hzl,ho⟩:=hI
   have hjN:j < l.length:=by omega
   have hlt:ltB (j:Int) (l.length:Nat)=true:=ltB_t (by omega)
   have hw:=inc_i (j:=j) (by omega)
   have hln:=hvl
   have hdr:l.drop j=l[j]::l.drop (j+1):=List.drop_eq_getElem_cons hjN
   have htk:l.take (j+1)=l.take j++[l[j]]:=by rw [List.take_add_one,List.getElem?_eq_getElem hjN]; rfl
   have hpm:l[j]∈l:=List.getElem_mem hjN
   generalize l[j]=p at *
   have hrow:∀ r∈((l.take j).filter keepP).map xrow++(zs++(l.drop j).map xrow),r.length=9:=fun r hr=>by
     rcases List.mem_append.1 hr with h | h
     · exact xrow_len _ r h
     · rcases List.mem_append.1 h with h | h
       · exact hz r h
       · exact xrow_len _ r h
   have hsl:=Own.slsG ix31T (by decide) ho hrow
   obtain ⟨i1,k1,hix,hrd⟩:=hsl.ix j (xrow p) (by
     rw [List.getElem?_append_right (by rw [List.length_map]; omega),List.length_map,List.getElem?_append_right (by omega),show j - ((l.take j).filter keepP).length - zs.length=0 by omega,hdr]; rfl)
   rw [hdr] at ho hrow
   have ha:=hargs p hpm
   have hac:=ha.cells
   have hao:=ha.one
   have h47:=fun L=>ev47 (H:=K) (x:=p.1) hac hao L
   rw [List.map_cons] at ho hrow
   obtain ⟨x,va⟩:=p
   have hrd:=fun L=>(Agree.app K L).sub.rd hrd
   simp only [xrow,rowX] at hrd h47 hac hao
   rw [el45_0]
   rw [<-List.append_nil K]
   have key:∀ (tmN:List AV) (KN:AH) (Z:Option (AExit × St)),EvC Tryz.prog C0 W0 plN l45_0 (tmN,KN)=Z->(tmN.length=42/\tmN.getD 0 uA=v/\tmN.getD 1 uA=.func (.func 47) [] []/\tmN.getD 6 uA=I (((j+1):Nat):Int)/\AgV v K0 KN/\∃ zs:List (List AV),tmN.getD 5 uA=I (((l.take ((j+1))).filter keepP).length:Nat)/\(∀ r∈zs,r.length=9)/\((l.take ((j+1))).filter keepP).length+zs.length=(j+1)/\Own b KN 9 34 v (((l.take ((j+1))).filter keepP).map xrow++(zs++(l.drop ((j+1))).map xrow)).flatten)->∃ X K1,Z=some (.exit 0,(X,K1))/\(X.length=42/\X.getD 0 uA=v/\X.getD 1 uA=.func (.func 47) [] []/\X.getD 6 uA=I ((l.length:Nat):Int)/\AgV v K0 K1/\∃ zs:List (List AV),X.getD 5 uA=I (((l.take (l.length)).filter keepP).length:Nat)/\(∀ r∈zs,r.length=9)/\((l.take (l.length)).filter keepP).length+zs.length=l.length/\Own b K1 9 34 v (((l.take (l.length)).filter keepP).map xrow++(zs++(l.drop (l.length)).map xrow)).flatten):=by
     intro tmN KN Z h hJ
     obtain ⟨X,K1,A,B⟩:=ih (j+1) tmN KN (by omega) (by omega) hJ
     exact ⟨X,K1,h.symm.trans A,B⟩
   cases hk:eqB x.kind 0 with
   | true =>
     simp -implicitDefEqProofs only [b45_0,Tryz.f45,aP,hlen,h0,h1,h6,h5,hlt,hw,z34w,st34,hix,hrd,↓hac,↓hao,↓callA_value,Tryz.func47,show Tryz.f47.body.isSome=true from rfl,h47,hk,↓hln,r5,↓evLd,nck,↓cbT,↓cbF,↓evDn,evUp,eu,sevalprocAttr]
     generalize hX:EvC Tryz.prog C0 W0 _ _ _=Z
     refine key _ _ _ hX ?_
     have hkp:[((x,va):Itm × AV)].filter keepP=[]:=by simp only [List.filter,keepP,hk,Bool.not_true]
     rw [htk,List.filter_append,hkp,List.append_nil]
     exact ⟨by simp only [ls,hlen],Aj3 (by simp only [hlen,h0,h1,gB,and_self,sevalprocAttr]) ⟨hA.trans (AgV.of (Agree.app K _)),zs++[xrow (x,va)],by simp only [hlen,h5,gB,sevalprocAttr],fun r hr=>(by
       rcases List.mem_append.1 hr with h | h
       · exact hz r h
       · rw [List.mem_singleton] at h; subst h; rfl),by rw [List.length_append,List.length_singleton]; omega,by
       have:=ho.agree (Agree.app K [AObj.cells (rowX x va) 34,AObj.cells (rowX x va) 34])
       rw [List.append_assoc]
       exact this⟩⟩
   | false =>
     have hkp:[((x,va):Itm × AV)].filter keepP=[(x,va)]:=by simp only [List.filter,keepP,hk,Bool.not_false]
     have hwi:=inc_i (j:=((l.take j).filter keepP).length) (by omega)
     have hone:(rowX x va).all AV.one=true:=by
       show (AV.one _ && (AV.one _ && (AV.one _ && (AV.one _ && (AV.one _ && (AV.one _ && (AV.one _ && (AV.one _ && (AV.one _ && true)))))))))=true
       rw [hao]; rfl
     have hAl:(((l.take j).filter keepP).map xrow).flatten.length=((l.take j).filter keepP).length * 9:=by rw [flat_len (xrow_len _),List.length_map]
     have hsz:(((l.take j).filter keepP).map xrow).flatten.length+(rowX x va).length<=(((l.take j).filter keepP).map xrow++(zs++(xrow (x,va)::(l.drop (j+1)).map xrow))).flatten.length:=by
       rw [List.flatten_append,List.length_append,List.flatten_append,List.length_append,List.flatten_cons,List.length_append]
       have h1:(xrow (x,va)).length=9:=rfl
       have h2:(rowX x va).length=9:=rfl
       omega
     obtain ⟨i,k,len,cap,ex,K',hv,hwr,hown,hlK,hoth⟩:=Own.writeG ho hsz (new:=rowX x va) (by simp [rowX]) hone
     have hlen9:(((l.take j).filter keepP).map xrow++(zs++(xrow (x,va)::(l.drop (j+1)).map xrow))).length=len:=by
       rw [hv] at ho
       exact ho.len_eq (by decide) hrow
     have hix2:∀ kk,indexAddrA Tryz.prog 31 v (.int kk (((l.take j).filter keepP).length:Nat))=some (.ptr i (k+((l.take j).filter keepP).length * 9)):=fun kk=>by
       rw [hv,ix31T.ia,if_pos ⟨by omega,by rw [<-hlen9,List.length_append,List.length_map,List.length_append,List.length_cons]; omega,rfl⟩]; rfl
     rw [hAl] at hwr hown
     simp only [rowX] at hwr
     have hspl:spl (((l.take j).filter keepP).map xrow++(zs++(xrow (x,va)::(l.drop (j+1)).map xrow))).flatten (((l.take j).filter keepP).length * 9) (rowX x va)=(((l.take j).filter keepP).map xrow++(xrow (x,va)::(zs++[xrow (x,va)]).tail++(l.drop (j+1)).map xrow)).flatten:=by
       show spl _ _ (xrow (x,va))=_
       cases zs with
       | nil=>exact spl_rows (A:=((l.take j).filter keepP).map xrow) hAl rfl
       | cons z zs =>
         have:=spl_rows (A:=((l.take j).filter keepP).map xrow) (r:=z) (r':=xrow (x,va)) (B:=zs++(xrow (x,va)::(l.drop (j+1)).map xrow)) hAl (by rw [hz z (by simp)]; rfl)
         simpa only [List.cons_append,List.tail_cons,List.append_assoc,List.nil_append] using this
     rw [hspl] at hown
     simp -implicitDefEqProofs only [b45_0,Tryz.f45,aP,hlen,h0,h1,h6,h5,hlt,hw,z34w,st34,hix,hrd,↓hac,↓hao,↓callA_value,Tryz.func47,show Tryz.f47.body.isSome=true from rfl,h47,hk,↓hln,r5,↓evLd,nck,hwi,hix2,hwr,st34,↓cbT,↓cbF,↓evDn,evUp,eu,sevalprocAttr]
     generalize hX:EvC Tryz.prog C0 W0 _ _ _=Z
     refine key _ _ _ hX ?_
     rw [htk,List.filter_append,hkp]
     exact ⟨by simp only [ls,hlen],Aj3 (by simp only [hlen,h0,h1,gB,and_self,sevalprocAttr]) ⟨hA.trans ⟨by rw [List.length_append,hlK]; omega,fun c hc hn=>by
         rw [List.getElem?_append_left (by rw [hlK]; exact hc)]
         exact hoth c fun e=>hn (by rw [hv,e]; rfl)⟩,(zs++[xrow (x,va)]).tail,by
         rw [List.length_append,List.length_singleton]
         simp only [hlen,gB,sevalprocAttr],fun r hr=>(by
       rcases List.mem_append.1 (List.mem_of_mem_tail hr) with h | h
       · exact hz r h
       · rw [List.mem_singleton] at h; subst h; rfl),by rw [List.length_append,List.length_singleton,List.length_tail,List.length_append,List.length_singleton]; omega,by
       have:=hown.agree (Agree.app K' [AObj.cells (rowX x va) 34,AObj.cells (rowX x va) 34])
       rw [List.map_append,List.append_assoc]
       exact this⟩⟩
end Go.Dv
