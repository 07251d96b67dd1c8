/- Part 35 of the walks (own work). -/
import Derived.Test.YtilpjnckfkjkbaaGreatDoorQ32
set_option maxRecDepth 100000
set_option maxHeartbeats 4000000
set_option linter.unusedSimpArgs false
set_option linter.unusedVariables false
namespace Go.Dv
open Go.Proofs
attribute [local congr] bind_congr_first cb_congr condA_congr gd_congr br_congr
theorem ia23 (i k es len cap:Nat) (ex:Bool) (kk:IntKind) (n:Int):indexAddrA Tryz.prog 23 (.slice i k es len cap ex) (.int kk n)=if 0<=n/\n < len/\1=es then some (.ptr i (k+n.toNat * es)) else none:=by kernel_rfl
theorem ln23 (H:AH) (i k es len cap:Nat) (ex:Bool):lenA Tryz.prog 23 H (.slice i k es len cap ex)=some (.int .i64 len):=by kernel_rfl
theorem ln23n (H:AH):lenA Tryz.prog 23 H .nilSlice=some (.int .i64 0):=by kernel_rfl
theorem ix23T:IxT 23 1:=⟨ln23n,ln23,ia23⟩
theorem SlS.as {T U es:Nat} (X:IxT U es) {H:AH} {v:AV} {rows:List (List AV)} (h:SlS T es H v rows) (hr:∀ r∈rows,r.length=es):SlS U es H v rows:=by
 rcases h.old with ⟨rfl,rfl⟩ | ⟨i,k,c,e,rfl,h1,h2⟩
 · exact sls_nil X H
 · exact sls_of X hr h1 h2
theorem mem23_len {H:AH} {m:List (List Int)} {v:AV} (h:MemR H m v) (G:AH):lenA Tryz.prog 23 G v=some (I (m.length:Nat)):=by
 obtain ⟨⟨l,rfl,hs,hc⟩,n,_⟩:=h
 have:=(hs.as ix23T (fun r hr=>by obtain ⟨p,_,rfl⟩:=List.mem_map.1 hr; rfl)).len G
 rw [List.length_map] at this ⊢
 exact this
theorem mem23_at {H:AH} {m:List (List Int)} {v:AV} (h:MemR H m v) {j:Nat} (hj:j < m.length):∃ i k w,(∀ kk,indexAddrA Tryz.prog 23 v (.int kk (j:Int))=some (.ptr i k))/\rdCells H i k 1=some [w]/\SlS 32 1 H w ((bufOf m j).map row1):=by
 obtain ⟨⟨l,rfl,hs,hc⟩,n,_⟩:=h
 have hj':j < l.length:=by rwa [List.length_map] at hj
 obtain ⟨i,k,hi,hr⟩:=(hs.as ix23T (fun r hr=>by obtain ⟨p,_,rfl⟩:=List.mem_map.1 hr; rfl)).ix j _ (by rw [List.getElem?_map,List.getElem?_eq_getElem hj']; rfl)
 have e:bufOf (l.map (·.1)) j=(l[j]'hj').1:=by unfold bufOf; rw [getD_at hj,List.getElem_map]
 rw [e]
 exact ⟨i,k,_,hi,hr,hc _ (List.getElem_mem _)⟩
theorem w32_at {H:AH} {w:AV} {b:List Int} (h:SlS 32 1 H w (b.map row1)) {j:Nat} (hj:j < b.length):∃ i k,(∀ kk,indexAddrA Tryz.prog 32 w (.int kk (j:Int))=some (.ptr i k))/\rdCells H i k 1=some [.int .i32 (b.getD j 0)]:=by
 obtain ⟨i,k,h1,h2⟩:=h.ix j (row1 (b.getD j 0)) (by rw [List.getElem?_map,List.getElem?_eq_getElem hj,gde,List.getElem?_eq_getElem hj]; rfl)
 exact ⟨i,k,h1,h2⟩
theorem same_in {K:AH} {m:List (List Int)} {va vb:AV} (h1:MemR K m va) (h2:MemR K m vb) {i:Nat} (hi:i < m.length):∀ (d q:Nat) (tm:List AV),(bufOf m i).length - q=d->q<=(bufOf m i).length->(tm.length=53/\tm.getD 0 uA=va/\tm.getD 1 uA=vb/\tm.getD 5 uA=I (i:Nat)/\tm.getD 6 uA=I ((q:Nat):Int)) ->
   ∃ X,EvC Tryz.prog C0 W0 pl25 l25_0 (tm,K)=some (.exit 2,(X,K))/\(X.length=53/\X.getD 0 uA=va/\X.getD 1 uA=vb/\X.getD 5 uA=I (i:Nat)):=by
 obtain ⟨i1,k1,wa,a1,a2,a3⟩:=mem23_at h1 hi
 obtain ⟨i2,k2,wb,b1,b2,b3⟩:=mem23_at h2 hi
 have la:=fun G=>sl32 a3 G
 have lb:=fun G=>sl32 b3 G
 have hbl:(bufOf m i).length < 2 ^ 50:=h1.nb _ (by unfold bufOf; rw [getD_at hi]; exact List.getElem_mem _)
 intro d
 induction d with
 | zero =>
   intro q tm hd hq hI
   have hql:q=(bufOf m i).length:=by omega
   obtain ⟨hlen,c0,c1,c5,c6⟩:=hI
   have hlt:ltB (q:Int) ((bufOf m i).length:Nat)=false:=ltB_f (by omega)
   rw [el25_0]
   simp -implicitDefEqProofs only [b25_0,Tryz.f25,aP,hlen,c0,c1,c5,c6,hlt,a1,a2,la,r5,↓evLd,nck,↓cbT,↓cbF,↓evDn,evUp,eu,sevalprocAttr]
   exact ⟨_,rfl,by simp only [ls,hlen],by simp only [hlen,c0,c1,c5,gB,and_self,sevalprocAttr]⟩
 | succ d ih =>
   intro q tm hd hq hI
   obtain ⟨hlen,c0,c1,c5,c6⟩:=hI
   have hqN:q < (bufOf m i).length:=by omega
   have hlt:ltB (q:Int) ((bufOf m i).length:Nat)=true:=ltB_t (by omega)
   have hw:=inc_i (j:=q) (by omega)
   obtain ⟨i3,k3,d1,d2⟩:=w32_at a3 hqN
   obtain ⟨i4,k4,e1,e2⟩:=w32_at b3 hqN
   have heq:=eqB_self ((bufOf m i).getD q 0)
   rw [el25_0]
   simp -implicitDefEqProofs only [b25_0,Tryz.f25,aP,hlen,c0,c1,c5,c6,hlt,hw,a1,a2,la,b1,b2,d1,d2,e1,e2,heq,plr25_11,r5,↓evLd,nck,↓cbT,↓cbF,↓evDn,evUp,eu,sevalprocAttr]
   exact ih (q+1) _ (by omega) (by omega) ⟨by simp only [ls,hlen],by simp only [hlen,c0,c1,c5,gB,and_self,sevalprocAttr]⟩
theorem same_in' {K:AH} {m:List (List Int)} {va vb:AV} (h1:MemR K m va) (h2:MemR K m vb) {i:Nat} (hi:i < m.length) {tm:List AV} {Z:Option (AExit × St)} (hX:EvC Tryz.prog C0 W0 pl25 l25_0 (tm,K)=Z) (hI:tm.length=53/\tm.getD 0 uA=va/\tm.getD 1 uA=vb/\tm.getD 5 uA=I (i:Nat)/\tm.getD 6 uA=I ((0:Nat):Int)):∃ X,Z=some (.exit 2,(X,K))/\(X.length=53/\X.getD 0 uA=va/\X.getD 1 uA=vb/\X.getD 5 uA=I (i:Nat)):=by
 subst hX
 exact same_in h1 h2 hi _ 0 tm rfl (Nat.zero_le _) hI
theorem same_out {K:AH} {m:List (List Int)} {va vb:AV} (h1:MemR K m va) (h2:MemR K m vb):∀ (d i:Nat) (tm:List AV),m.length - i=d->i<=m.length->(tm.length=53/\tm.getD 0 uA=va/\tm.getD 1 uA=vb/\tm.getD 5 uA=I ((i:Nat):Int)) ->
   ∃ X,EvC Tryz.prog C0 W0 pl25 l25_1 (tm,K)=some (.exit 0,(X,K))/\X.length=53:=by
 have lm:=fun G=>mem23_len h1 G
 have hmn:=h1.n
 intro d
 induction d with
 | zero =>
   intro i tm hd hi hI
   obtain ⟨hlen,c0,c1,c5⟩:=hI
   have hlt:ltB (i:Int) (m.length:Nat)=false:=ltB_f (by omega)
   rw [el25_1]
   simp -implicitDefEqProofs only [b25_1,Tryz.f25,aP,hlen,c0,c1,c5,hlt,lm,r5,↓evLd,nck,↓cbT,↓cbF,↓evDn,evUp,eu,sevalprocAttr]
   exact ⟨_,rfl,by simp only [ls,hlen]⟩
 | succ d ih =>
   intro i tm hd hi hI
   obtain ⟨hlen,c0,c1,c5⟩:=hI
   have hiN:i < m.length:=by omega
   have hlt:ltB (i:Int) (m.length:Nat)=true:=ltB_t (by omega)
   have hw:=inc_i (j:=i) (by omega)
   obtain ⟨i1,k1,wa,a1,a2,a3⟩:=mem23_at h1 hiN
   obtain ⟨i2,k2,wb,b1,b2,b3⟩:=mem23_at h2 hiN
   have la:=fun G=>sl32 a3 G
   have lb:=fun G=>sl32 b3 G
   have heq:=eqB_self ((bufOf m i).length:Nat)
   rw [el25_1]
   simp -implicitDefEqProofs only [b25_1,Tryz.f25,aP,hlen,c0,c1,c5,hlt,lm,a1,a2,b1,b2,la,lb,heq,plr25_6,r5,↓evLd,nck,↓cbT,↓cbF,↓evDn,evUp,eu,sevalprocAttr]
   generalize hX:EvC Tryz.prog C0 W0 pl25 (Code.loop _) _=Z
   obtain ⟨X,he,x0,xa,xb,x5⟩:=same_in' h1 h2 hiN hX ⟨by simp only [ls,hlen],Aj3 (by simp only [hlen,c0,c1,c5,gB,and_self,sevalprocAttr]) (by simp only [hlen,gB,sevalprocAttr]; try rfl)⟩
   subst he
   simp -implicitDefEqProofs only [x0,xa,xb,x5,hw,↓cbT,↓cbF,↓evDn,evUp,eu,sevalprocAttr]
   exact ih (i+1) _ (by omega) (by omega) ⟨by simp only [ls,x0],by simp only [x0,xa,xb,gB,and_self,sevalprocAttr]⟩
theorem same_out' {K:AH} {m:List (List Int)} {va vb:AV} (h1:MemR K m va) (h2:MemR K m vb) {tm:List AV} {Z:Option (AExit × St)} (hX:EvC Tryz.prog C0 W0 pl25 l25_1 (tm,K)=Z) (hI:tm.length=53/\tm.getD 0 uA=va/\tm.getD 1 uA=vb/\tm.getD 5 uA=I ((0:Nat):Int)):∃ X,Z=some (.exit 0,(X,K))/\X.length=53:=by
 subst hX
 exact same_out h1 h2 _ 0 tm rfl (Nat.zero_le _) hI
theorem ev25 {H:AH} {m:List (List Int)} {va vb:AV} (h1:MemR H m va) (h2:MemR H m vb):Ev Tryz.prog C0 W0 25 [va,vb] H=some (.bool true,H):=by
 obtain ⟨tm,ht,g0,g1,g2⟩:=tm2 va vb 53 (by decide)
 rw [fe25,ht]
 have la:=fun G=>mem23_len h1 G
 have lb:=fun G=>mem23_len h2 G
 have heq:=eqB_self (m.length:Nat)
 simp -implicitDefEqProofs only [c25,Tryz.f25,aP,g0,g1,g2,la,lb,heq,r5,↓evLd,nck,↓cbT,↓cbF,↓evDn,evUp,eu,sevalprocAttr]
 generalize hX:EvC Tryz.prog C0 W0 pl25 (Code.loop _) _=Z
 obtain ⟨X,he,x0⟩:=same_out' h1.ro h2.ro hX ⟨by simp only [ls,g0],Aj2 (by simp only [g0,g1,g2,gB,and_self,sevalprocAttr]) (by simp only [g0,gB,sevalprocAttr]; try rfl)⟩
 subst he
 simp -implicitDefEqProofs only [x0,↓cbT,↓cbF,↓evDn,evUp,eu,sevalprocAttr]
end Go.Dv
namespace Go.Dv
open Go.Proofs
def ssA:List (List Itm):=[[⟨2,0,0,0,0,0,0,[],5⟩,⟨3,0,0,0,0,0,1,[],0⟩],[⟨4,0,0,0,0,0,1,[],0⟩,⟨1,0,0,0,0,1,0,[],0⟩]]
def mA:List (List Int):=[[1,2],[0,0]]
def stA5 (j:Nat):List Nat × List Qu.Place:=([([0,0],[]),([1,0],[(0,0)]),([2,0],[(0,0),(0,1)]),([2,1],[(0,0),(0,1),(1,0)]),([2,2],[(0,0),(0,1),(1,0),(1,1)])]:List (List Nat × List Qu.Place)).getD j ([],[])
def rA5 (j:Nat):Int->Bool:=if j < 2 then fun _=>false else fun e=>false || e == 1
theorem rt_awake {a:List Nat} {R:Int->Bool} {L:List Qu.Place} (h:Qu.RT (qS ssA) a R L):∃ j,j < 5/\(a,L)=stA5 j/\R=rA5 j:=by
 induction h with
 | init=>exact ⟨0,by omega,rfl,rfl⟩
 | @step a R L s x hr hs hx ih =>
   obtain ⟨j,hj,e,rfl⟩:=ih
   match j,hj with
   | 0,_ =>
     obtain ⟨rfl,rfl⟩:=Prod.mk.inj e
     have:Qu.ready (qS ssA) [0,0] (rA5 0)=[0]:=by decide
     rw [this] at hs
     simp at hs
     subst hs
     cases hx
     exact ⟨1,by omega,rfl,rfl⟩
   | 1,_ =>
     obtain ⟨rfl,rfl⟩:=Prod.mk.inj e
     have:Qu.ready (qS ssA) [1,0] (rA5 1)=[0]:=by decide
     rw [this] at hs
     simp at hs
     subst hs
     cases hx
     exact ⟨2,by omega,rfl,rfl⟩
   | 2,_ =>
     obtain ⟨rfl,rfl⟩:=Prod.mk.inj e
     have:Qu.ready (qS ssA) [2,0] (rA5 2)=[1]:=by decide
     rw [this] at hs
     simp at hs
     subst hs
     cases hx
     exact ⟨3,by omega,rfl,rfl⟩
   | 3,_ =>
     obtain ⟨rfl,rfl⟩:=Prod.mk.inj e
     have:Qu.ready (qS ssA) [2,1] (rA5 3)=[1]:=by decide
     rw [this] at hs
     simp at hs
     subst hs
     cases hx
     exact ⟨4,by omega,rfl,rfl⟩
   | 4,_ =>
     obtain ⟨rfl,rfl⟩:=Prod.mk.inj e
     have:Qu.ready (qS ssA) [2,2] (rA5 4)=[]:=by decide
     rw [this] at hs
     simp at hs
theorem evokA:EvOk ssA:=by
 intro l hl x hx hk
 simp only [ssA,List.mem_cons,List.not_mem_nil,or_false] at hl
 rcases hl with rfl | rfl <;> simp only [List.mem_cons,List.not_mem_nil,or_false] at hx <;> rcases hx with rfl | rfl <;> simp
theorem awake_end {ad:List Nat} {m:List (List Int)} {rc:List Bool} (ht:Trod ssA mA ad m rc) (hb:endB ssA ad rc=true):m=[[5,5],[5,5]]/\endE ssA ad rc=0:=by
 obtain ⟨L,hr,rfl⟩:=ht
 obtain ⟨j,hj,e,hR⟩:=rt_awake hr
 unfold endB at hb
 rw [<-ready_eq evokA,hR] at hb
 match j,hj with
 | 0,_ =>
   obtain ⟨rfl,rfl⟩:=Prod.mk.inj e
   have:((leftS ssA [0,0] ssA.length).sum == 0 || (Qu.ready (qS ssA) [0,0] (rA5 0)).isEmpty)=false:=by decide
   rw [this] at hb; cases hb
 | 1,_ =>
   obtain ⟨rfl,rfl⟩:=Prod.mk.inj e
   have:((leftS ssA [1,0] ssA.length).sum == 0 || (Qu.ready (qS ssA) [1,0] (rA5 1)).isEmpty)=false:=by decide
   rw [this] at hb; cases hb
 | 2,_ =>
   obtain ⟨rfl,rfl⟩:=Prod.mk.inj e
   have:((leftS ssA [2,0] ssA.length).sum == 0 || (Qu.ready (qS ssA) [2,0] (rA5 2)).isEmpty)=false:=by decide
   rw [this] at hb; cases hb
 | 3,_ =>
   obtain ⟨rfl,rfl⟩:=Prod.mk.inj e
   have:((leftS ssA [2,1] ssA.length).sum == 0 || (Qu.ready (qS ssA) [2,1] (rA5 3)).isEmpty)=false:=by decide
   rw [this] at hb; cases hb
 | 4,_ =>
   obtain ⟨rfl,rfl⟩:=Prod.mk.inj e
   exact ⟨by decide,by unfold endE; rw [if_pos (by decide)]⟩
end Go.Dv
namespace Go.Dv
open Go.Proofs
attribute [local congr] bind_congr_first cb_congr condA_congr gd_congr br_congr
theorem bs32two' (x y:Int) (H:AH):buildSliceA Tryz.prog none 32 2 [(0,.int .i32 x),(1,.int .i32 y)] H=some (.slice H.length 0 1 2 2 true,H++[.cells [.int .i32 x,.int .i32 y] 21]):=by kernel_rfl
theorem bs32two (x y:Int) (H L:AH):buildSliceA Tryz.prog none 32 2 [(0,.int .i32 x),(1,.int .i32 y)] (H++L)=some (.slice (H.length+L.length) 0 1 2 2 true,H++(L++[.cells [.int .i32 x,.int .i32 y] 21])):=by rw [bs32two',List.length_append,List.append_assoc]
theorem bs24two' (i j:Nat) (H:AH):buildSliceA Tryz.prog none 24 2 [(0,.slice i 0 1 2 2 true),(1,.slice j 0 1 2 2 true)] H=some (.slice H.length 0 1 2 2 true,H++[.cells [.slice i 0 1 2 2 true,.slice j 0 1 2 2 true] 32]):=by kernel_rfl
theorem bs24two (i j:Nat) (H L:AH):buildSliceA Tryz.prog none 24 2 [(0,.slice i 0 1 2 2 true),(1,.slice j 0 1 2 2 true)] (H++L)=some (.slice (H.length+L.length) 0 1 2 2 true,H++(L++[.cells [.slice i 0 1 2 2 true,.slice j 0 1 2 2 true] 32])):=by rw [bs24two',List.length_append,List.append_assoc]
theorem bs25two' (i j:Nat) (H:AH):buildSliceA Tryz.prog none 25 2 [(0,.slice i 0 9 2 2 true),(1,.slice j 0 9 2 2 true)] H=some (.slice H.length 0 1 2 2 true,H++[.cells [.slice i 0 9 2 2 true,.slice j 0 9 2 2 true] 31]):=by kernel_rfl
theorem bs25two (i j:Nat) (H L:AH):buildSliceA Tryz.prog none 25 2 [(0,.slice i 0 9 2 2 true),(1,.slice j 0 9 2 2 true)] (H++L)=some (.slice (H.length+L.length) 0 1 2 2 true,H++(L++[.cells [.slice i 0 9 2 2 true,.slice j 0 9 2 2 true] 31])):=by rw [bs25two',List.length_append,List.append_assoc]
theorem bs31A'  (H:AH):buildSliceA Tryz.prog none 31 2 [(0,.agg [I 2,I 0,I 0,I 0,I 0,I 0,I 0,.nilSlice,.int .i32 5]),(1,.agg [I 3,I 0,I 0,I 0,I 0,I 0,I 1,.nilSlice,.int .i32 0])] H=some (.slice H.length 0 9 2 2 true,H++[.cells [I 2,I 0,I 0,I 0,I 0,I 0,I 0,.nilSlice,.int .i32 5,I 3,I 0,I 0,I 0,I 0,I 0,I 1,.nilSlice,.int .i32 0] 34]):=by kernel_rfl
theorem bs31A  (H L:AH):buildSliceA Tryz.prog none 31 2 [(0,.agg [I 2,I 0,I 0,I 0,I 0,I 0,I 0,.nilSlice,.int .i32 5]),(1,.agg [I 3,I 0,I 0,I 0,I 0,I 0,I 1,.nilSlice,.int .i32 0])] (H++L)=some (.slice (H.length+L.length) 0 9 2 2 true,H++(L++[.cells [I 2,I 0,I 0,I 0,I 0,I 0,I 0,.nilSlice,.int .i32 5,I 3,I 0,I 0,I 0,I 0,I 0,I 1,.nilSlice,.int .i32 0] 34])):=by rw [bs31A',List.length_append,List.append_assoc]
theorem bs31B'  (H:AH):buildSliceA Tryz.prog none 31 2 [(0,.agg [I 4,I 0,I 0,I 0,I 0,I 0,I 1,.nilSlice,.int .i32 0]),(1,.agg [I 1,I 0,I 0,I 0,I 0,I 1,I 0,.nilSlice,.int .i32 0])] H=some (.slice H.length 0 9 2 2 true,H++[.cells [I 4,I 0,I 0,I 0,I 0,I 0,I 1,.nilSlice,.int .i32 0,I 1,I 0,I 0,I 0,I 0,I 1,I 0,.nilSlice,.int .i32 0] 34]):=by kernel_rfl
theorem bs31B  (H L:AH):buildSliceA Tryz.prog none 31 2 [(0,.agg [I 4,I 0,I 0,I 0,I 0,I 0,I 1,.nilSlice,.int .i32 0]),(1,.agg [I 1,I 0,I 0,I 0,I 0,I 1,I 0,.nilSlice,.int .i32 0])] (H++L)=some (.slice (H.length+L.length) 0 9 2 2 true,H++(L++[.cells [I 4,I 0,I 0,I 0,I 0,I 0,I 1,.nilSlice,.int .i32 0,I 1,I 0,I 0,I 0,I 0,I 1,I 0,.nilSlice,.int .i32 0] 34])):=by rw [bs31B',List.length_append,List.append_assoc]
theorem blA1:buildA Tryz.prog 34 [(0,I 2),(8,.int .i32 5)]=some (.agg [I 2,I 0,I 0,I 0,I 0,I 0,I 0,.nilSlice,.int .i32 5]):=by kernel_rfl
theorem blA2:buildA Tryz.prog 34 [(0,I 3),(6,I 1)]=some (.agg [I 3,I 0,I 0,I 0,I 0,I 0,I 1,.nilSlice,.int .i32 0]):=by kernel_rfl
theorem blA3:buildA Tryz.prog 34 [(0,I 4),(6,I 1)]=some (.agg [I 4,I 0,I 0,I 0,I 0,I 0,I 1,.nilSlice,.int .i32 0]):=by kernel_rfl
theorem blA4:buildA Tryz.prog 34 [(0,I 1),(5,I 1)]=some (.agg [I 1,I 0,I 0,I 0,I 0,I 1,I 0,.nilSlice,.int .i32 0]):=by kernel_rfl
theorem bl29A (i j:Nat):buildA Tryz.prog 29 [(1,.slice i 0 1 2 2 true),(3,.agg [I 1,.bool false,I 1,I 1,I 0,I 0,I 0]),(2,.slice j 0 1 2 2 true)]=some (.agg [.nilSlice,.slice i 0 1 2 2 true,.slice j 0 1 2 2 true,I 1,.bool false,I 1,I 1,I 0,I 0,I 0]):=by kernel_rfl
theorem z29:zeroA Tryz.prog 29=some (.agg [.nilSlice,.nilSlice,.nilSlice,I 0,.bool false,I 0,I 0,I 0,I 0,I 0]):=by kernel_rfl
theorem rd_of {K:AH} {i:Nat} {cs:List AV} {e:TypeId} (h:K[i]? =some (.cells cs e)):okC K i=true/\rdCells K i 0 cs.length=some cs:=by
 constructor
 · unfold okC; rw [h]
 · unfold rdCells; rw [h]; simp
theorem sls_two {T es:Nat} (X:IxT T es) {K:AH} {i:Nat} {r1 r2:List AV} {e:TypeId} (h1:r1.length=es) (h2:r2.length=es) (h:K[i]? =some (.cells (r1++r2) e)):SlS T es K (.slice i 0 es 2 2 true) [r1,r2]:=by
 obtain ⟨a,b⟩:=rd_of h
 refine sls_of X (k:=0) (c:=2) (e:=true) (rows:=[r1,r2]) (fun r hr=>?_) a ?_
 · simp only [List.mem_cons,List.not_mem_nil,or_false] at hr
   rcases hr with rfl | rfl <;> assumption
 · rw [show [r1,r2].flatten=r1++r2 by simp,show [r1,r2].length * es=(r1++r2).length by rw [List.length_append,h1,h2]; simp; omega]
   exact b
theorem mem2 {K:AH} {a b c:Nat} {x y z u:Int} (h1:K[a]? =some (.cells [.int .i32 x,.int .i32 y] 21)) (h2:K[b]? =some (.cells [.int .i32 z,.int .i32 u] 21)) (h3:K[c]? =some (.cells [.slice a 0 1 2 2 true,.slice b 0 1 2 2 true] 32)) (hx:i32R x) (hy:i32R y) (hz:i32R z) (hu:i32R u):MemR K [[x,y],[z,u]] (.slice c 0 1 2 2 true):=by
 refine ⟨⟨[([x,y],.slice a 0 1 2 2 true),([z,u],.slice b 0 1 2 2 true)],rfl,sls_two ix24T rfl rfl h3,fun p hp=>?_⟩,by simp,fun r hr=>?_,fun r hr n hn=>?_⟩
 · simp only [List.mem_cons,List.not_mem_nil,or_false] at hp
   rcases hp with rfl | rfl
   · exact sls_two ix32T (r1:=row1 x) (r2:=row1 y) rfl rfl h1
   · exact sls_two ix32T (r1:=row1 z) (r2:=row1 u) rfl rfl h2
 · simp only [List.mem_cons,List.not_mem_nil,or_false] at hr
   rcases hr with rfl | rfl <;> simp
 · simp only [List.mem_cons,List.not_mem_nil,or_false] at hr
   rcases hr with rfl | rfl <;> simp only [List.mem_cons,List.not_mem_nil,or_false] at hn <;> rcases hn with rfl | rfl <;> assumption
theorem i32_0:i32R 0:=by unfold i32R; omega
theorem i32_s {n:Int} (h0:-1000<=n) (h1:n<=1000):i32R n:=by unfold i32R; omega
theorem itms2 {K:AH} {c:Nat} {x y:Itm} (hx:x.args=[]) (hy:y.args=[]) (wx:i32R x.word) (wy:i32R y.word) (h:K[c]? =some (.cells (rowX x .nilSlice++rowX y .nilSlice) 34)):ItmsR K [x,y] (.slice c 0 9 2 2 true):=by
 refine ⟨⟨[(x,.nilSlice),(y,.nilSlice)],rfl,sls_two ix31T rfl rfl h,fun p hp=>?_⟩,by simp,fun r hr=>?_,fun r hr n hn=>?_,fun r hr=>?_⟩
 · simp only [List.mem_cons,List.not_mem_nil,or_false] at hp
   rcases hp with rfl | rfl
   · rw [hx]; exact sls_nil ix32T K
   · rw [hy]; exact sls_nil ix32T K
 · simp only [List.mem_cons,List.not_mem_nil,or_false] at hr
   rcases hr with rfl | rfl
   · rw [hx]; simp
   · rw [hy]; simp
 · simp only [List.mem_cons,List.not_mem_nil,or_false] at hr
   rcases hr with rfl | rfl
   · rw [hx] at hn; simp at hn
   · rw [hy] at hn; simp at hn
 · simp only [List.mem_cons,List.not_mem_nil,or_false] at hr
   rcases hr with rfl | rfl <;> assumption
theorem strs2 {K:AH} {a b c:Nat} {l1 l2:List Itm} (h1:ItmsR K l1 (.slice a 0 9 2 2 true)) (h2:ItmsR K l2 (.slice b 0 9 2 2 true)) (h3:K[c]? =some (.cells [.slice a 0 9 2 2 true,.slice b 0 9 2 2 true] 31)):StrsR K [l1,l2] (.slice c 0 1 2 2 true):=by
 refine ⟨⟨[(l1,.slice a 0 9 2 2 true),(l2,.slice b 0 9 2 2 true)],rfl,sls_two ix25T rfl rfl h3,fun p hp=>?_⟩,by simp⟩
 simp only [List.mem_cons,List.not_mem_nil,or_false] at hp
 rcases hp with rfl | rfl <;> assumption
theorem chkA:checkP [] mA ssA plainC=0:=by decide +kernel
theorem ordA:ordB [] ssA=true:=by decide +kernel
theorem get_at {K L:AH} {n:Nat} {o:AObj} (h:L[n]? =some o):(K++L)[K.length+n]? =some o:=by
 rw [List.getElem?_append_right (Nat.le_add_right _ _),Nat.add_sub_cancel_left]; exact h
def awH (B:Nat):AH:=[.cells [.int .i32 1,.int .i32 2] 21,.cells [.int .i32 0,.int .i32 0] 21,.cells [.slice B 0 1 2 2 true,.slice (B+1) 0 1 2 2 true] 32,.cells [I 2,I 0,I 0,I 0,I 0,I 0,I 0,.nilSlice,.int .i32 5,I 3,I 0,I 0,I 0,I 0,I 0,I 1,.nilSlice,.int .i32 0] 34,.cells [I 4,I 0,I 0,I 0,I 0,I 0,I 1,.nilSlice,.int .i32 0,I 1,I 0,I 0,I 0,I 0,I 1,I 0,.nilSlice,.int .i32 0] 34,.cells [.slice (B+3) 0 9 2 2 true,.slice (B+4) 0 9 2 2 true] 31,.cells [.nilSlice,.slice (B+2) 0 1 2 2 true,.slice (B+5) 0 1 2 2 true,I 1,.bool false,I 1,I 1,I 0,I 0,I 0] 29]
theorem ev9 (H:AH):Ev Tryz.prog C0 W0 9 [] H=some (.bool true,H):=by
 have g0:(([]:List AV)++List.replicate (62 - ([]:List AV).length) uA).length=62:=by simp
 rw [fe9]
 rw [<-List.append_nil (ro H)]
 generalize ([]:List AV)++List.replicate (62 - ([]:List AV).length) uA=tm at *
 have hq0:eqB 0 0=true:=rfl
 generalize hG:ro H=G
 have gt:∀ {n:Nat} {o:AObj},(awH G.length)[n]? =some o->(G++awH G.length)[G.length+n]? =some o:=fun h=>get_at h
 have hm:MemR (G++awH G.length) mA (.slice (G.length+2) 0 1 2 2 true):=mem2 (gt (n:=0) rfl) (gt (n:=1) rfl) (gt (n:=2) rfl) (i32_s (by decide) (by decide)) (i32_s (by decide) (by decide)) i32_0 i32_0
 have hs:StrsR (G++awH G.length) ssA (.slice (G.length+5) 0 1 2 2 true):=strs2 (itms2 rfl rfl (i32_s (by decide) (by decide)) i32_0 (gt (n:=3) rfl)) (itms2 rfl rfl i32_0 i32_0 (gt (n:=4) rfl)) (gt (n:=5) rfl)
 have hc:CodsR (G++awH G.length) [] .nilSlice:=⟨⟨[],rfl,sls_nil ix22T _,fun p hp=>by simp at hp⟩,by simp⟩
 obtain ⟨v,K,ad,m',rc',h17,hS,hlK,hm',_,htr,hend,_⟩:=ev17 hc hm hs plainC chkA (fun l hl x hx=>by
   simp only [ssA,List.mem_cons,List.not_mem_nil,or_false] at hl
   rcases hl with rfl | rfl <;> simp only [List.mem_cons,List.not_mem_nil,or_false] at hx <;> rcases hx with rfl | rfl <;> simp)
 obtain ⟨rfl,he0⟩:=awake_end htr hend
 rw [he0] at h17
 have hgood:=good_of (f:=plainC) (fun l hl=>by
   simp only [ssA,List.mem_cons,List.not_mem_nil,or_false] at hl
   rcases hl with rfl | rfl <;> simp) chkA
 have h18:=ev18 (hc.sub hS) (hm.sub hS) (hs.sub hS) chkA hgood
 rw [ordA] at h18
 have hp:rdCells (G++awH G.length) (G.length+6) 0 10=some [.nilSlice,.slice (G.length+2) 0 1 2 2 true,.slice (G.length+5) 0 1 2 2 true,I 1,.bool false,I 1,I 1,I 0,I 0,I 0]:=(rd_of (gt (n:=6) rfl)).2
 have hpK:=hS.rd hp
 have p0:=rd_cell hpK (j:=0) rfl
 have p1:=rd_cell hpK (j:=1) rfl
 have p2:=rd_cell hpK (j:=2) rfl
 simp only [Nat.zero_add] at p0 p1 p2
 have hA2:=Agree.app K [.cells [.int .i32 5,.int .i32 5] 21,.cells [.int .i32 5,.int .i32 5] 21,.cells [.slice K.length 0 1 2 2 true,.slice (K.length+1) 0 1 2 2 true] 32]
 have h25:=ev25 (hm'.agree hA2) (mem2 (K:=K++[.cells [.int .i32 5,.int .i32 5] 21,.cells [.int .i32 5,.int .i32 5] 21,.cells [.slice K.length 0 1 2 2 true,.slice (K.length+1) 0 1 2 2 true] 32]) (get_at (n:=0) rfl) (get_at (n:=1) rfl) (get_at (n:=2) rfl) (i32_s (n:=5) (by decide) (by decide)) (i32_s (n:=5) (by decide) (by decide)) (i32_s (n:=5) (by decide) (by decide)) (i32_s (n:=5) (by decide) (by decide)))
 have k1:=fun x y=>bs32two x y K []
 have k2:=fun x y L=>bs32two x y K L
 have k3:=fun i j L=>bs24two i j K L
 rw [List.append_nil] at k1
 simp only [rowF,plainC,awH] at h17
 simp -implicitDefEqProofs only [c9,Tryz.f9,aP,g0,bs32two,bs24two,bs25two,bs31A,bs31B,blA1,blA2,blA3,blA4,bl27,bl29A,z29,ld29,st29,↓fc17,h17,p0,p1,p2,↓fc18,h18,hq0,k1,k2,k3,↓fc25,h25,r5,↓evLd,nck,↓cbT,↓cbF,↓evDn,evUp,eu,sevalprocAttr]
 trace_state
end Go.Dv
