/- Part 36 of the walks (own work). -/
import Derived.Test.YtilpjnckfkjkbaaGreatDoorS33
open List renaming append_assoc→aE,append_nil→af,getElem?_eq_getElem→aj,getElem?_map→aI,getElem_mem→gC,length_append→ai,length_map→au,mem_cons→bH,mem_map→bY,not_mem_nil→bW,replicate→aA
open Nat renaming zero_le→fy
open Go.Proofs.Tryz renaming prog→aa
set_option maxRecDepth 100000
set_option maxHeartbeats 4000000
set_option linter.unusedSimpArgs false
set_option linter.unusedVariables false
namespace Go.Dv
open Go.Proofs
attribute [local congr] aH bP bj bO bQ
theorem Yr (i k es len cap:Nat) (ex:Bool) (kk:IntKind) (n:Int):aG aa 23 (.slice i k es len cap ex) (.int kk n)=if 0<=n/\n < len/\1=es then some (.ptr i (k+n.toNat * es)) else none:=by kernel_rfl
theorem Yi (H:AH) (i k es len cap:Nat) (ex:Bool):dR aa 23 H (.slice i k es len cap ex)=some (.int .i64 len):=by kernel_rfl
theorem UR (H:AH):dR aa 23 H .nilSlice=some (.int .i64 0):=by kernel_rfl
theorem Qc:IxT 23 1:=⟨UR,Yi,Yr⟩
theorem SlS.as {T U es:Nat} (X:IxT U es) {H:AH} {v:AV} {rows:List (List AV)} (h:SlS T es H v rows) (hr:∀ r∈rows,r.length=es):SlS U es H v rows:=by
 rcases h.old with ⟨rfl,rfl⟩ | ⟨i,k,c,e,rfl,h1,h2⟩
 · exact kG X H
 · exact m6 X hr h1 h2
theorem tV {H:AH} {m:List (List Int)} {v:AV} (h:dc H m v) (G:AH):dR aa 23 G v=some (I (m.length:Nat)):=by
 obtain ⟨⟨l,rfl,hs,hc⟩,n,_⟩:=h
 have:=(hs.as Qc (fun r hr=>by obtain ⟨p,_,rfl⟩:=bY.1 hr; rfl)).len G
 rw [au] at this ⊢
 exact this
theorem sR {H:AH} {m:List (List Int)} {v:AV} (h:dc H m v) {j:Nat} (hj:j < m.length):∃ i k w,(∀ kk,aG aa 23 v (.int kk (j:Int))=some (.ptr i k))/\ak H i k 1=some [w]/\SlS 32 1 H w ((bG m j).map dh):=by
 obtain ⟨⟨l,rfl,hs,hc⟩,n,_⟩:=h
 have hj':j < l.length:=by rwa [au] at hj
 obtain ⟨i,k,hi,hr⟩:=(hs.as Qc (fun r hr=>by obtain ⟨p,_,rfl⟩:=bY.1 hr; rfl)).ix j _ (by rw [aI,aj hj']; rfl)
 have e:bG (l.map (·.1)) j=(l[j]'hj').1:=by unfold bG; rw [dr hj,List.getElem_map]
 rw [e]
 exact ⟨i,k,_,hi,hr,hc _ (gC _)⟩
theorem HB {H:AH} {w:AV} {b:List Int} (h:SlS 32 1 H w (b.map dh)) {j:Nat} (hj:j < b.length):∃ i k,(∀ kk,aG aa 32 w (.int kk (j:Int))=some (.ptr i k))/\ak H i k 1=some [.int .i32 (b.getD j 0)]:=by
 obtain ⟨i,k,h1,h2⟩:=h.ix j (dh (b.getD j 0)) (by rw [aI,aj hj,gde,aj hj]; rfl)
 exact ⟨i,k,h1,h2⟩
theorem M8 {K:AH} {m:List (List Int)} {va vb:AV} (h1:dc K m va) (h2:dc K m vb) {i:Nat} (hi:i < m.length):∀ (d q:Nat) (tm:List AV),(bG m i).length - q=d->q<=(bG m i).length->(tm.length=53/\tm.getD 0 uA=va/\tm.getD 1 uA=vb/\tm.getD 5 uA=I (i:Nat)/\tm.getD 6 uA=I ((q:Nat):Int)) ->
   ∃ X,EvC aa C0 W0 rN JE (tm,K)=some (.exit 2,(X,K))/\(X.length=53/\X.getD 0 uA=va/\X.getD 1 uA=vb/\X.getD 5 uA=I (i:Nat)):=by
 obtain ⟨i1,k1,wa,a1,a2,a3⟩:=sR h1 hi
 obtain ⟨i2,k2,wb,b1,b2,b3⟩:=sR h2 hi
 have la:=fun G=>kn a3 G
 have lb:=fun G=>kn b3 G
 have hbl:(bG m i).length < 2 ^ 50:=h1.nb _ (by unfold bG; rw [dr hi]; exact gC _)
 intro d
 induction d with
 | zero =>
   intro q tm hd hq hI
   have hql:q=(bG m i).length:=by omega
   obtain ⟨hlen,c0,c1,c5,c6⟩:=hI
   have hlt:ltB (q:Int) ((bG m i).length:Nat)=false:=db (by omega)
   rw [Lx]
   simp -implicitDefEqProofs only [Fy,Tryz.f25,aP,hlen,c0,c1,c5,c6,hlt,a1,a2,la,r5,↓az,nck,↓cbT,↓cbF,↓ao,an,eu,sevalprocAttr]
   exact ⟨_,rfl,by simp only [ls,hlen],by simp only [hlen,c0,c1,c5,gB,and_self,sevalprocAttr]⟩
 | succ d ih =>
   intro q tm hd hq hI
   obtain ⟨hlen,c0,c1,c5,c6⟩:=hI
   have hqN:q < (bG m i).length:=by omega
   have hlt:ltB (q:Int) ((bG m i).length:Nat)=true:=cQ (by omega)
   have hw:=cD (j:=q) (by omega)
   obtain ⟨i3,k3,d1,d2⟩:=HB a3 hqN
   obtain ⟨i4,k4,e1,e2⟩:=HB b3 hqN
   have heq:=bw ((bG m i).getD q 0)
   rw [Lx]
   simp -implicitDefEqProofs only [Fy,Tryz.f25,aP,hlen,c0,c1,c5,c6,hlt,hw,a1,a2,la,b1,b2,d1,d2,e1,e2,heq,IM,r5,↓az,nck,↓cbT,↓cbF,↓ao,an,eu,sevalprocAttr]
   exact ih (q+1) _ (by omega) (by omega) ⟨by simp only [ls,hlen],by simp only [hlen,c0,c1,c5,gB,and_self,sevalprocAttr]⟩
theorem HX {K:AH} {m:List (List Int)} {va vb:AV} (h1:dc K m va) (h2:dc K m vb) {i:Nat} (hi:i < m.length) {tm:List AV} {Z:Option (bu × St)} (hX:EvC aa C0 W0 rN JE (tm,K)=Z) (hI:tm.length=53/\tm.getD 0 uA=va/\tm.getD 1 uA=vb/\tm.getD 5 uA=I (i:Nat)/\tm.getD 6 uA=I ((0:Nat):Int)):∃ X,Z=some (.exit 2,(X,K))/\(X.length=53/\X.getD 0 uA=va/\X.getD 1 uA=vb/\X.getD 5 uA=I (i:Nat)):=by
 subst hX
 exact M8 h1 h2 hi _ 0 tm rfl (fy _) hI
theorem HW {K:AH} {m:List (List Int)} {va vb:AV} (h1:dc K m va) (h2:dc K m vb):∀ (d i:Nat) (tm:List AV),m.length - i=d->i<=m.length->(tm.length=53/\tm.getD 0 uA=va/\tm.getD 1 uA=vb/\tm.getD 5 uA=I ((i:Nat):Int)) ->
   ∃ X,EvC aa C0 W0 rN JD (tm,K)=some (.exit 0,(X,K))/\X.length=53:=by
 have lm:=fun G=>tV h1 G
 have hmn:=h1.n
 intro d
 induction d with
 | zero =>
   intro i tm hd hi hI
   obtain ⟨hlen,c0,c1,c5⟩:=hI
   have hlt:ltB (i:Int) (m.length:Nat)=false:=db (by omega)
   rw [Lw]
   simp -implicitDefEqProofs only [Fx,Tryz.f25,aP,hlen,c0,c1,c5,hlt,lm,r5,↓az,nck,↓cbT,↓cbF,↓ao,an,eu,sevalprocAttr]
   exact ⟨_,rfl,by simp only [ls,hlen]⟩
 | succ d ih =>
   intro i tm hd hi hI
   obtain ⟨hlen,c0,c1,c5⟩:=hI
   have hiN:i < m.length:=by omega
   have hlt:ltB (i:Int) (m.length:Nat)=true:=cQ (by omega)
   have hw:=cD (j:=i) (by omega)
   obtain ⟨i1,k1,wa,a1,a2,a3⟩:=sR h1 hiN
   obtain ⟨i2,k2,wb,b1,b2,b3⟩:=sR h2 hiN
   have la:=fun G=>kn a3 G
   have lb:=fun G=>kn b3 G
   have heq:=bw ((bG m i).length:Nat)
   rw [Lw]
   simp -implicitDefEqProofs only [Fx,Tryz.f25,aP,hlen,c0,c1,c5,hlt,lm,a1,a2,b1,b2,la,lb,heq,NF,r5,↓az,nck,↓cbT,↓cbF,↓ao,an,eu,sevalprocAttr]
   generalize hX:EvC aa C0 W0 rN (Code.loop _) _=Z
   obtain ⟨X,he,x0,xa,xb,x5⟩:=HX h1 h2 hiN hX ⟨by simp only [ls,hlen],Aj3 (by simp only [hlen,c0,c1,c5,gB,and_self,sevalprocAttr]) (by simp only [hlen,gB,sevalprocAttr]; try rfl)⟩
   subst he
   simp -implicitDefEqProofs only [x0,xa,xb,x5,hw,↓cbT,↓cbF,↓ao,an,eu,sevalprocAttr]
   exact ih (i+1) _ (by omega) (by omega) ⟨by simp only [ls,x0],by simp only [x0,xa,xb,gB,and_self,sevalprocAttr]⟩
theorem F8 {K:AH} {m:List (List Int)} {va vb:AV} (h1:dc K m va) (h2:dc K m vb) {tm:List AV} {Z:Option (bu × St)} (hX:EvC aa C0 W0 rN JD (tm,K)=Z) (hI:tm.length=53/\tm.getD 0 uA=va/\tm.getD 1 uA=vb/\tm.getD 5 uA=I ((0:Nat):Int)):∃ X,Z=some (.exit 0,(X,K))/\X.length=53:=by
 subst hX
 exact HW h1 h2 _ 0 tm rfl (fy _) hI
theorem WB {H:AH} {m:List (List Int)} {va vb:AV} (h1:dc H m va) (h2:dc H m vb):Ev aa C0 W0 25 [va,vb] H=some (.bool true,H):=by
 obtain ⟨tm,ht,g0,g1,g2⟩:=tm2 va vb 53 (by decide)
 rw [Zl,ht]
 have la:=fun G=>tV h1 G
 have lb:=fun G=>tV h2 G
 have heq:=bw (m.length:Nat)
 simp -implicitDefEqProofs only [c25,Tryz.f25,aP,g0,g1,g2,la,lb,heq,r5,↓az,nck,↓cbT,↓cbF,↓ao,an,eu,sevalprocAttr]
 generalize hX:EvC aa C0 W0 rN (Code.loop _) _=Z
 obtain ⟨X,he,x0⟩:=F8 h1.ro h2.ro hX ⟨by simp only [ls,g0],Aj2 (by simp only [g0,g1,g2,gB,and_self,sevalprocAttr]) (by simp only [g0,gB,sevalprocAttr]; try rfl)⟩
 subst he
 simp -implicitDefEqProofs only [x0,↓cbT,↓cbF,↓ao,an,eu,sevalprocAttr]
end Go.Dv
namespace Go.Dv
open Go.Proofs
def ssA:List (List Itm):=[[⟨2,0,0,0,0,0,0,[],5⟩,⟨3,0,0,0,0,0,1,[],0⟩],[⟨4,0,0,0,0,0,1,[],0⟩,⟨1,0,0,0,0,1,0,[],0⟩]]
def mA:List (List Int):=[[1,2],[0,0]]
def XT (j:Nat):List Nat × List Qu.Place:=([([0,0],[]),([1,0],[(0,0)]),([2,0],[(0,0),(0,1)]),([2,1],[(0,0),(0,1),(1,0)]),([2,2],[(0,0),(0,1),(1,0),(1,1)])]:List (List Nat × List Qu.Place)).getD j ([],[])
def rA5 (j:Nat):Int->Bool:=if j < 2 then fun _=>false else fun e=>false || e == 1
theorem H5 {a:List Nat} {R:Int->Bool} {L:List Qu.Place} (h:Qu.RT (qS ssA) a R L):∃ j,j < 5/\(a,L)=XT j/\R=rA5 j:=by
 induction h with
 | init=>exact ⟨0,by omega,rfl,rfl⟩
 | @step a R L s x hr hs hx ih =>
   obtain ⟨j,hj,e,rfl⟩:=ih
   match j,hj with
   | 0,_ =>
     obtain ⟨rfl,rfl⟩:=Prod.mk.inj e
     have:Qu.ready (qS ssA) [0,0] (rA5 0)=[0]:=by decide
     rw [this] at hs
     simp at hs
     subst hs
     cases hx
     exact ⟨1,by omega,rfl,rfl⟩
   | 1,_ =>
     obtain ⟨rfl,rfl⟩:=Prod.mk.inj e
     have:Qu.ready (qS ssA) [1,0] (rA5 1)=[0]:=by decide
     rw [this] at hs
     simp at hs
     subst hs
     cases hx
     exact ⟨2,by omega,rfl,rfl⟩
   | 2,_ =>
     obtain ⟨rfl,rfl⟩:=Prod.mk.inj e
     have:Qu.ready (qS ssA) [2,0] (rA5 2)=[1]:=by decide
     rw [this] at hs
     simp at hs
     subst hs
     cases hx
     exact ⟨3,by omega,rfl,rfl⟩
   | 3,_ =>
     obtain ⟨rfl,rfl⟩:=Prod.mk.inj e
     have:Qu.ready (qS ssA) [2,1] (rA5 3)=[1]:=by decide
     rw [this] at hs
     simp at hs
     subst hs
     cases hx
     exact ⟨4,by omega,rfl,rfl⟩
   | 4,_ =>
     obtain ⟨rfl,rfl⟩:=Prod.mk.inj e
     have:Qu.ready (qS ssA) [2,2] (rA5 4)=[]:=by decide
     rw [this] at hs
     simp at hs
theorem Wn:uM ssA:=by
 intro l hl x hx hk
 simp only [ssA,bH,bW,or_false] at hl
 rcases hl with rfl | rfl <;> simp only [bH,bW,or_false] at hx <;> rcases hx with rfl | rfl <;> simp
theorem Hd {ad:List Nat} {m:List (List Int)} {rc:List Bool} (ht:Trod ssA mA ad m rc) (hb:nk ssA ad rc=true):m=[[5,5],[5,5]]/\td ssA ad rc=0:=by
 obtain ⟨L,hr,rfl⟩:=ht
 obtain ⟨j,hj,e,hR⟩:=H5 hr
 unfold nk at hb
 rw [<-wO Wn,hR] at hb
 match j,hj with
 | 0,_ =>
   obtain ⟨rfl,rfl⟩:=Prod.mk.inj e
   have:((fh ssA [0,0] ssA.length).sum == 0 || (Qu.ready (qS ssA) [0,0] (rA5 0)).isEmpty)=false:=by decide
   rw [this] at hb; cases hb
 | 1,_ =>
   obtain ⟨rfl,rfl⟩:=Prod.mk.inj e
   have:((fh ssA [1,0] ssA.length).sum == 0 || (Qu.ready (qS ssA) [1,0] (rA5 1)).isEmpty)=false:=by decide
   rw [this] at hb; cases hb
 | 2,_ =>
   obtain ⟨rfl,rfl⟩:=Prod.mk.inj e
   have:((fh ssA [2,0] ssA.length).sum == 0 || (Qu.ready (qS ssA) [2,0] (rA5 2)).isEmpty)=false:=by decide
   rw [this] at hb; cases hb
 | 3,_ =>
   obtain ⟨rfl,rfl⟩:=Prod.mk.inj e
   have:((fh ssA [2,1] ssA.length).sum == 0 || (Qu.ready (qS ssA) [2,1] (rA5 3)).isEmpty)=false:=by decide
   rw [this] at hb; cases hb
 | 4,_ =>
   obtain ⟨rfl,rfl⟩:=Prod.mk.inj e
   exact ⟨by decide,by unfold td; rw [if_pos (by decide)]⟩
end Go.Dv
namespace Go.Dv
open Go.Proofs
attribute [local congr] aH bP bj bO bQ
theorem L9 (x y:Int) (H:AH):bf aa none 32 2 [(0,.int .i32 x),(1,.int .i32 y)] H=some (.slice H.length 0 1 2 2 true,H++[.cells [.int .i32 x,.int .i32 y] 21]):=by kernel_rfl
theorem AB (x y:Int) (H L:AH):bf aa none 32 2 [(0,.int .i32 x),(1,.int .i32 y)] (H++L)=some (.slice (H.length+L.length) 0 1 2 2 true,H++(L++[.cells [.int .i32 x,.int .i32 y] 21])):=by rw [L9,ai,aE]
theorem Mc (i j:Nat) (H:AH):bf aa none 24 2 [(0,.slice i 0 1 2 2 true),(1,.slice j 0 1 2 2 true)] H=some (.slice H.length 0 1 2 2 true,H++[.cells [.slice i 0 1 2 2 true,.slice j 0 1 2 2 true] 32]):=by kernel_rfl
theorem Fl (i j:Nat) (H L:AH):bf aa none 24 2 [(0,.slice i 0 1 2 2 true),(1,.slice j 0 1 2 2 true)] (H++L)=some (.slice (H.length+L.length) 0 1 2 2 true,H++(L++[.cells [.slice i 0 1 2 2 true,.slice j 0 1 2 2 true] 32])):=by rw [Mc,ai,aE]
theorem Mb (i j:Nat) (H:AH):bf aa none 25 2 [(0,.slice i 0 9 2 2 true),(1,.slice j 0 9 2 2 true)] H=some (.slice H.length 0 1 2 2 true,H++[.cells [.slice i 0 9 2 2 true,.slice j 0 9 2 2 true] 31]):=by kernel_rfl
theorem PA (i j:Nat) (H L:AH):bf aa none 25 2 [(0,.slice i 0 9 2 2 true),(1,.slice j 0 9 2 2 true)] (H++L)=some (.slice (H.length+L.length) 0 1 2 2 true,H++(L++[.cells [.slice i 0 9 2 2 true,.slice j 0 9 2 2 true] 31])):=by rw [Mb,ai,aE]
theorem Te  (H:AH):bf aa none 31 2 [(0,.agg [I 2,I 0,I 0,I 0,I 0,I 0,I 0,.nilSlice,.int .i32 5]),(1,.agg [I 3,I 0,I 0,I 0,I 0,I 0,I 1,.nilSlice,.int .i32 0])] H=some (.slice H.length 0 9 2 2 true,H++[.cells [I 2,I 0,I 0,I 0,I 0,I 0,I 0,.nilSlice,.int .i32 5,I 3,I 0,I 0,I 0,I 0,I 0,I 1,.nilSlice,.int .i32 0] 34]):=by kernel_rfl
theorem Xo  (H L:AH):bf aa none 31 2 [(0,.agg [I 2,I 0,I 0,I 0,I 0,I 0,I 0,.nilSlice,.int .i32 5]),(1,.agg [I 3,I 0,I 0,I 0,I 0,I 0,I 1,.nilSlice,.int .i32 0])] (H++L)=some (.slice (H.length+L.length) 0 9 2 2 true,H++(L++[.cells [I 2,I 0,I 0,I 0,I 0,I 0,I 0,.nilSlice,.int .i32 5,I 3,I 0,I 0,I 0,I 0,I 0,I 1,.nilSlice,.int .i32 0] 34])):=by rw [Te,ai,aE]
theorem Td  (H:AH):bf aa none 31 2 [(0,.agg [I 4,I 0,I 0,I 0,I 0,I 0,I 1,.nilSlice,.int .i32 0]),(1,.agg [I 1,I 0,I 0,I 0,I 0,I 1,I 0,.nilSlice,.int .i32 0])] H=some (.slice H.length 0 9 2 2 true,H++[.cells [I 4,I 0,I 0,I 0,I 0,I 0,I 1,.nilSlice,.int .i32 0,I 1,I 0,I 0,I 0,I 0,I 1,I 0,.nilSlice,.int .i32 0] 34]):=by kernel_rfl
theorem Xn  (H L:AH):bf aa none 31 2 [(0,.agg [I 4,I 0,I 0,I 0,I 0,I 0,I 1,.nilSlice,.int .i32 0]),(1,.agg [I 1,I 0,I 0,I 0,I 0,I 1,I 0,.nilSlice,.int .i32 0])] (H++L)=some (.slice (H.length+L.length) 0 9 2 2 true,H++(L++[.cells [I 4,I 0,I 0,I 0,I 0,I 0,I 1,.nilSlice,.int .i32 0,I 1,I 0,I 0,I 0,I 0,I 1,I 0,.nilSlice,.int .i32 0] 34])):=by rw [Td,ai,aE]
theorem aaF:kz aa 34 [(0,I 2),(8,.int .i32 5)]=some (.agg [I 2,I 0,I 0,I 0,I 0,I 0,I 0,.nilSlice,.int .i32 5]):=by kernel_rfl
theorem aaE:kz aa 34 [(0,I 3),(6,I 1)]=some (.agg [I 3,I 0,I 0,I 0,I 0,I 0,I 1,.nilSlice,.int .i32 0]):=by kernel_rfl
theorem aaD:kz aa 34 [(0,I 4),(6,I 1)]=some (.agg [I 4,I 0,I 0,I 0,I 0,I 0,I 1,.nilSlice,.int .i32 0]):=by kernel_rfl
theorem aaC:kz aa 34 [(0,I 1),(5,I 1)]=some (.agg [I 1,I 0,I 0,I 0,I 0,I 1,I 0,.nilSlice,.int .i32 0]):=by kernel_rfl
theorem Xt (i j:Nat):kz aa 29 [(1,.slice i 0 1 2 2 true),(3,.agg [I 1,.bool false,I 1,I 1,I 0,I 0,I 0]),(2,.slice j 0 1 2 2 true)]=some (.agg [.nilSlice,.slice i 0 1 2 2 true,.slice j 0 1 2 2 true,I 1,.bool false,I 1,I 1,I 0,I 0,I 0]):=by kernel_rfl
theorem z29:ep aa 29=some (.agg [.nilSlice,.nilSlice,.nilSlice,I 0,.bool false,I 0,I 0,I 0,I 0,I 0]):=by kernel_rfl
theorem PT {K:AH} {i:Nat} {cs:List AV} {e:TypeId} (h:K[i]? =some (.cells cs e)):okC K i=true/\ak K i 0 cs.length=some cs:=by
 constructor
 · unfold okC; rw [h]
 · unfold ak; rw [h]; simp
theorem su {T es:Nat} (X:IxT T es) {K:AH} {i:Nat} {r1 r2:List AV} {e:TypeId} (h1:r1.length=es) (h2:r2.length=es) (h:K[i]? =some (.cells (r1++r2) e)):SlS T es K (.slice i 0 es 2 2 true) [r1,r2]:=by
 obtain ⟨a,b⟩:=PT h
 refine m6 X (k:=0) (c:=2) (e:=true) (rows:=[r1,r2]) (fun r hr=>?_) a ?_
 · simp only [bH,bW,or_false] at hr
   rcases hr with rfl | rfl <;> assumption
 · rw [show [r1,r2].flatten=r1++r2 by simp,show [r1,r2].length * es=(r1++r2).length by rw [ai,h1,h2]; simp; omega]
   exact b
theorem UD {K:AH} {a b c:Nat} {x y z u:Int} (h1:K[a]? =some (.cells [.int .i32 x,.int .i32 y] 21)) (h2:K[b]? =some (.cells [.int .i32 z,.int .i32 u] 21)) (h3:K[c]? =some (.cells [.slice a 0 1 2 2 true,.slice b 0 1 2 2 true] 32)) (hx:eD x) (hy:eD y) (hz:eD z) (hu:eD u):dc K [[x,y],[z,u]] (.slice c 0 1 2 2 true):=by
 refine ⟨⟨[([x,y],.slice a 0 1 2 2 true),([z,u],.slice b 0 1 2 2 true)],rfl,su E1 rfl rfl h3,fun p hp=>?_⟩,by simp,fun r hr=>?_,fun r hr n hn=>?_⟩
 · simp only [bH,bW,or_false] at hp
   rcases hp with rfl | rfl
   · exact su yY (r1:=dh x) (r2:=dh y) rfl rfl h1
   · exact su yY (r1:=dh z) (r2:=dh u) rfl rfl h2
 · simp only [bH,bW,or_false] at hr
   rcases hr with rfl | rfl <;> simp
 · simp only [bH,bW,or_false] at hr
   rcases hr with rfl | rfl <;> simp only [bH,bW,or_false] at hn <;> rcases hn with rfl | rfl <;> assumption
theorem BG:eD 0:=by unfold eD; omega
theorem xC {n:Int} (h0:-1000<=n) (h1:n<=1000):eD n:=by unfold eD; omega
theorem Qd {K:AH} {c:Nat} {x y:Itm} (hx:x.args=[]) (hy:y.args=[]) (wx:eD x.word) (wy:eD y.word) (h:K[c]? =some (.cells (aU x .nilSlice++aU y .nilSlice) 34)):dA K [x,y] (.slice c 0 9 2 2 true):=by
 refine ⟨⟨[(x,.nilSlice),(y,.nilSlice)],rfl,su mL rfl rfl h,fun p hp=>?_⟩,by simp,fun r hr=>?_,fun r hr n hn=>?_,fun r hr=>?_⟩
 · simp only [bH,bW,or_false] at hp
   rcases hp with rfl | rfl
   · rw [hx]; exact kG yY K
   · rw [hy]; exact kG yY K
 · simp only [bH,bW,or_false] at hr
   rcases hr with rfl | rfl
   · rw [hx]; simp
   · rw [hy]; simp
 · simp only [bH,bW,or_false] at hr
   rcases hr with rfl | rfl
   · rw [hx] at hn; simp at hn
   · rw [hy] at hn; simp at hn
 · simp only [bH,bW,or_false] at hr
   rcases hr with rfl | rfl <;> assumption
theorem Uf {K:AH} {a b c:Nat} {l1 l2:List Itm} (h1:dA K l1 (.slice a 0 9 2 2 true)) (h2:dA K l2 (.slice b 0 9 2 2 true)) (h3:K[c]? =some (.cells [.slice a 0 9 2 2 true,.slice b 0 9 2 2 true] 31)):da K [l1,l2] (.slice c 0 1 2 2 true):=by
 refine ⟨⟨[(l1,.slice a 0 9 2 2 true),(l2,.slice b 0 9 2 2 true)],rfl,su BC rfl rfl h3,fun p hp=>?_⟩,by simp⟩
 simp only [bH,bW,or_false] at hp
 rcases hp with rfl | rfl <;> assumption
theorem SW:fG [] mA ssA fm=0:=by decide +kernel
theorem X1:w6 [] ssA=true:=by decide +kernel
theorem get_at {K L:AH} {n:Nat} {o:bo} (h:L[n]? =some o):(K++L)[K.length+n]? =some o:=by
 rw [List.getElem?_append_right (Nat.le_add_right _ _),Nat.add_sub_cancel_left]; exact h
def awH (B:Nat):AH:=[.cells [.int .i32 1,.int .i32 2] 21,.cells [.int .i32 0,.int .i32 0] 21,.cells [.slice B 0 1 2 2 true,.slice (B+1) 0 1 2 2 true] 32,.cells [I 2,I 0,I 0,I 0,I 0,I 0,I 0,.nilSlice,.int .i32 5,I 3,I 0,I 0,I 0,I 0,I 0,I 1,.nilSlice,.int .i32 0] 34,.cells [I 4,I 0,I 0,I 0,I 0,I 0,I 1,.nilSlice,.int .i32 0,I 1,I 0,I 0,I 0,I 0,I 1,I 0,.nilSlice,.int .i32 0] 34,.cells [.slice (B+3) 0 9 2 2 true,.slice (B+4) 0 9 2 2 true] 31,.cells [.nilSlice,.slice (B+2) 0 1 2 2 true,.slice (B+5) 0 1 2 2 true,I 1,.bool false,I 1,I 1,I 0,I 0,I 0] 29]
theorem ev9 (H:AH):Ev aa C0 W0 9 [] H=some (.bool true,H):=by
 have g0:(([]:List AV)++aA (62 - ([]:List AV).length) uA).length=62:=by simp
 rw [fe9]
 rw [<-af (ro H)]
 generalize ([]:List AV)++aA (62 - ([]:List AV).length) uA=tm at *
 have hq0:eqB 0 0=true:=rfl
 generalize hG:ro H=G
 have gt:∀ {n:Nat} {o:bo},(awH G.length)[n]? =some o->(G++awH G.length)[G.length+n]? =some o:=fun h=>get_at h
 have hm:dc (G++awH G.length) mA (.slice (G.length+2) 0 1 2 2 true):=UD (gt (n:=0) rfl) (gt (n:=1) rfl) (gt (n:=2) rfl) (xC (by decide) (by decide)) (xC (by decide) (by decide)) BG BG
 have hs:da (G++awH G.length) ssA (.slice (G.length+5) 0 1 2 2 true):=Uf (Qd rfl rfl (xC (by decide) (by decide)) BG (gt (n:=3) rfl)) (Qd rfl rfl BG BG (gt (n:=4) rfl)) (gt (n:=5) rfl)
 have hc:cO (G++awH G.length) [] .nilSlice:=⟨⟨[],rfl,kG yZ _,fun p hp=>by simp at hp⟩,by simp⟩
 obtain ⟨v,K,ad,m',rc',h17,hS,hlK,hm',_,htr,hend,_⟩:=Pb hc hm hs fm SW (fun l hl x hx=>by
   simp only [ssA,bH,bW,or_false] at hl
   rcases hl with rfl | rfl <;> simp only [bH,bW,or_false] at hx <;> rcases hx with rfl | rfl <;> simp)
 obtain ⟨rfl,he0⟩:=Hd htr hend
 rw [he0] at h17
 have hgood:=mP (f:=fm) (fun l hl=>by
   simp only [ssA,bH,bW,or_false] at hl
   rcases hl with rfl | rfl <;> simp) SW
 have h18:=SH (hc.sub hS) (hm.sub hS) (hs.sub hS) SW hgood
 rw [X1] at h18
 have hp:ak (G++awH G.length) (G.length+6) 0 10=some [.nilSlice,.slice (G.length+2) 0 1 2 2 true,.slice (G.length+5) 0 1 2 2 true,I 1,.bool false,I 1,I 1,I 0,I 0,I 0]:=(PT (gt (n:=6) rfl)).2
 have hpK:=hS.rd hp
 have p0:=jU hpK (j:=0) rfl
 have p1:=jU hpK (j:=1) rfl
 have p2:=jU hpK (j:=2) rfl
 simp only [Nat.zero_add] at p0 p1 p2
 have hA2:=al.app K [.cells [.int .i32 5,.int .i32 5] 21,.cells [.int .i32 5,.int .i32 5] 21,.cells [.slice K.length 0 1 2 2 true,.slice (K.length+1) 0 1 2 2 true] 32]
 have h25:=WB (hm'.aX hA2) (UD (K:=K++[.cells [.int .i32 5,.int .i32 5] 21,.cells [.int .i32 5,.int .i32 5] 21,.cells [.slice K.length 0 1 2 2 true,.slice (K.length+1) 0 1 2 2 true] 32]) (get_at (n:=0) rfl) (get_at (n:=1) rfl) (get_at (n:=2) rfl) (xC (n:=5) (by decide) (by decide)) (xC (n:=5) (by decide) (by decide)) (xC (n:=5) (by decide) (by decide)) (xC (n:=5) (by decide) (by decide)))
 have k1:=fun x y=>AB x y K []
 have k2:=fun x y L=>AB x y K L
 have k3:=fun i j L=>Fl i j K L
 rw [af] at k1
 simp only [d8,fm,awH] at h17
 simp -implicitDefEqProofs only [c9,Tryz.f9,aP,g0,AB,Fl,PA,Xo,Xn,aaF,aaE,aaD,aaC,Xu,Xt,z29,Jn,Uj,↓DL,h17,p0,p1,p2,↓We,h18,hq0,k1,k2,k3,↓Wc,h25,r5,↓az,nck,↓cbT,↓cbF,↓ao,an,eu,sevalprocAttr]
 trace_state
end Go.Dv
