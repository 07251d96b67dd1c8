/- Part 17 of the walks (own work). -/
import Derived.Test.YtilpjnckfkjkbaaGreatDoorT16
open Bool renaming false_and→bc,not_eq_true'→bj
open Int renaming toNat_natCast→cw
open List renaming append_assoc→aG,append_nil→af,getElem?_append_right→al,getElem?_eq_getElem→aj,getElem?_map→aM,length_append→ai,length_map→ar,length_range→eB,length_set→aq,mem_iff_getElem→lR,replicate→ay,set_append_right→k7,set_cons_zero→kz,take_add_one→eH,take_length→gH
open Nat renaming add_assoc→bJ,add_sub_cancel_left→aS,le_add_right→du,le_refl→ax,mul_one→dz,sub_self→dR,zero_add→c7
open Option renaming bind_some→aA,getD_some→fq,map→rA
open Go.Proofs.Tryz renaming prog→aa
set_option maxRecDepth 100000
set_option maxHeartbeats 4000000
set_option linter.unusedSimpArgs false
set_option linter.unusedVariables false
namespace Go.Dv
open Go.Proofs
attribute [local congr] aF bC aY bB bD
theorem Qj {HK HK':Nat->AH} {n N:Nat} {vm:AV} {w w':Nat->AV} (hix:∀ j,j < n->∃ i k,(∀ kk,aD aa 24 vm (.int kk (j:Int))=some (.ptr i k))/\ak (HK j) i k 1=some [w j])
   (h32:∀ j,j < n->Ev aa C0 W0 32 [w j] (HK j)=some (w' j,HK' j)) (hc:∀ j,j < n->(w' j).cells=[w' j]) (hwr:∀ j,j < n->bh (HK' j) N j [w' j]=some (HK (j+1))) (hn:n < 2 ^ 60) :
   ∀ (d j:Nat) (tm:List AV),n - j=d->j<=n->tm.length=23->tm.getD 3 uA=.slice N 0 1 n n true->tm.getD 9 uA=vm->tm.getD 10 uA=I n->tm.getD 11 uA=I (j:Int) ->
   ∃ X,EvC aa C0 W0 plN KB (tm,HK j)=some (.exit 0,(X,HK n))/\X.length=23/\X.getD 3 uA=.slice N 0 1 n n true:=by
 intro d
 induction d with
 | zero =>
   intro j tm hd hj hlen h3 h9 h10 h11
   have hjl:j=n:=by omega
   subst hjl
   have hlt:ltB (j:Int) (j:Nat)=false:=cH (by omega)
   rw [Mr]
   simp -implicitDefEqProofs only [Gi,Tryz.f28,aP,hlen,h3,h9,h10,h11,hlt,↓ao,an,eu,sevalprocAttr]
   exact ⟨_,rfl,by first | exact hlen | simp only [aq,hlen],by first | exact h3 | simp only [hlen,h3,gB,sevalprocAttr]⟩
 | succ d ih =>
   intro j tm hd hj hlen h3 h9 h10 h11
   have hjn:j < n:=by omega
   have hlt:ltB (j:Int) (n:Nat)=true:=cD (by omega)
   have hw:=cp (j:=j) (by omega)
   obtain ⟨i,k,hi,hr⟩:=hix j hjn
   have h1:=h32 j hjn
   have h2:=hc j hjn
   have h4:=hwr j hjn
   have hia:∀ kk,aD aa 24 (.slice N 0 1 n n true) (.int kk (j:Int))=some (.ptr N j):=fun kk=>by
     rw [XF,if_pos ⟨by omega,by omega,rfl⟩,cw,dz,c7]
   rw [Mr]
   simp -implicitDefEqProofs only [Gi,Tryz.f28,aP,hlen,h3,h9,h10,h11,hlt,hw,hi,hr,↓UJ,h1,↓h2,h4,hia,fN,r5,↓az,↓ao,an,eu,sevalprocAttr]
   generalize hX:EvC aa C0 W0 _ _ _=Z
   have key:∀ (tm1:List AV),EvC aa C0 W0 plN KB (tm1,HK (j+1))=Z->tm1.length=23->tm1.getD 3 uA=.slice N 0 1 n n true->tm1.getD 9 uA=vm->tm1.getD 10 uA=I n->tm1.getD 11 uA=I ((j+1:Nat):Int)->∃ X,Z=some (.exit 0,(X,HK n))/\X.length=23/\X.getD 3 uA=.slice N 0 1 n n true:=by
     intro tm1 h hl1 h3 h9 h10 h11
     obtain ⟨X,he,hr⟩:=ih (j+1) tm1 (by omega) (by omega) hl1 h3 h9 h10 h11
     exact ⟨X,h.symm.trans he,hr⟩
   exact key _ hX (by simp only [ls,hlen]) (by simp only [hlen,h3,gB,sevalprocAttr]) (by simp only [hlen,h9,gB,sevalprocAttr]) (by simp only [hlen,h10,gB,sevalprocAttr]) (by simp only [hlen,h11,gB,sevalprocAttr])
theorem E9 (z:AV) (n:Nat):k9 [z] n=ay n z:=by
 unfold k9
 refine List.ext_getElem (by simp) fun i h1 h2=>?_
 simp [Nat.mod_one]
def td (N:Nat) (p:List AV × AH) (b:List Int × AV):List AV × AH:=(p.1++[bp 1 b.1.length b.2 (N+1+p.2.length)],p.2++bo 21 b.2 (b.1.map fun x=>.int .i32 x))
def db (N:Nat) (l:List (List Int × AV)):List AV × AH:=l.foldl (td N) ([],[])
theorem uE (N:Nat) (l:List (List Int × AV)) (b:List Int × AV):db N (l++[b])=td N (db N l) b:=by
 unfold db; rw [List.foldl_append]; rfl
theorem nU (N:Nat) (l:List (List Int × AV)):(db N l).1.length=l.length:=by
 have key:∀ (l:List (List Int × AV)) (p:List AV × AH),(l.foldl (td N) p).1.length=p.1.length+l.length:=by
   intro l
   induction l with
   | nil=>intro p; rfl
   | cons b l ih=>intro p; rw [List.foldl_cons,ih]; simp [td]; omega
 unfold db
 rw [key]; simp
theorem DI {K:AH} {b:Nat} {cs:List AV} {e:TypeId} (h:K[b]? =some (.cells cs e)) {k:Nat} {x:AV} (hk:k < cs.length) (hx:x.one=true):bh K b k [x]=some (K.set b (.cells (cs.set k x) e)):=by
 unfold bh
 rw [h]
 simp only
 rw [if_pos ⟨by simp; omega,by simp [hx]⟩]; rfl
theorem aaB (n:Nat) (hn:n<=1000) (H:AH):fE aa none 24 (I n) (I n) H=some (.slice H.length 0 1 n n true,H++[.cells (ay n .nilSlice) 32]):=by
 have hz:dP aa 32=some .nilSlice:=by kernel_rfl
 have hs:fW aa 24=some 32:=by kernel_rfl
 have hb:aa.bytesOf 32=24:=by kernel_rfl
 have hc:aa.cellsOf 32=1:=by kernel_rfl
 unfold fE
 simp only [hs,hz,aA]
 rw [if_pos ⟨by omega,by omega,by omega,by rw [hb]; omega,by simp [AV.cells]⟩]
 rw [hc,dz,cw]
 show rA _ (put none H (.cells (k9 [.nilSlice] n) 32))=_
 rw [E9]; rfl
theorem adi:aa.bytesOf 21=4:=by kernel_rfl
theorem UC {n:Nat} (h:n<=1000):fT (aa.bytesOf 21) n=true:=by
 rw [adi]; unfold fT; rw [Bool.and_eq_true,decide_eq_true_iff,decide_eq_true_iff]; constructor <;> omega
theorem zB (l:List Int):(l.map dw).flatten=l.map fun x=>AV.int .i32 x:=rP _ l
theorem BM (l:List Int):∀ r∈l.map dw,r.length=1:=by
 intro r hr
 obtain ⟨n,_,rfl⟩:=List.mem_map.1 hr
 rfl
theorem LM {H:AH} {v:AV} {b:List Int} (h:SlS 32 1 H v (b.map dw)) (hb:b.length<=1000) (L:AH):Ev aa C0 W0 32 [v] (H++L)=some (bp 1 b.length v (H.length+L.length),H++(L++bo 21 v (b.map fun x=>.int .i32 x))):=by
 have:=ac4 h (BM b) (by rw [ar]; exact UC hb) L
 rwa [ar,zB] at this
theorem YZ {H:AH} {l:List (List Int × AV)} {vm:AV} (hs:SlS 24 1 H vm (l.map fun p=>[p.2])) (hp:∀ p∈l,SlS 32 1 H p.2 (p.1.map dw)) (hn:l.length<=100) (hb:∀ p∈l,p.1.length<=1000) (L:AH) :
   Ev aa C0 W0 28 [vm] (H++L)=some (.slice (H.length+L.length) 0 1 l.length l.length true,H++(L++(.cells (db (H.length+L.length) l).1 32::(db (H.length+L.length) l).2))):=by
 have hlen0:∀ G,dQ aa 24 G vm=some (I l.length):=fun G=>by have:=hs.len G; rwa [ar] at this
 have hvc:=hs.cells
 have hvo:=hs.one
 have hms:=aaB l.length (by omega) (H++L)
 generalize hN:H.length+L.length=N
 rw [ai,hN] at hms
 let HK:Nat->AH:=fun j=>H++(L++(.cells ((db N (l.take j)).1++ay (l.length - j) .nilSlice) 32::(db N (l.take j)).2))
 let w:Nat->AV:=fun j=>(l.getD j ([],uA)).2
 let bb:Nat->List Int:=fun j=>(l.getD j ([],uA)).1
 let w':Nat->AV:=fun j=>bp 1 (bb j).length (w j) (N+1+(db N (l.take j)).2.length)
 let HK':Nat->AH:=fun j=>H++(L++(.cells ((db N (l.take j)).1++ay (l.length - j) .nilSlice) 32::((db N (l.take j)).2++bo 21 (w j) ((bb j).map fun x=>.int .i32 x))))
 have hl:∀ j (hj:j < l.length),l.getD j ([],uA)=l[j]:=fun j hj=>by rw [gde,aj hj]; rfl
 have hix:∀ j,j < l.length->∃ i k,(∀ kk,aD aa 24 vm (.int kk (j:Int))=some (.ptr i k))/\ak (HK j) i k 1=some [w j]:=fun j hj=>by
   obtain ⟨i,k,h1,h2⟩:=hs.ix j [w j] (by rw [aM,aj hj]; show some [(l[j]).2]=some [(l.getD j ([],uA)).2]; rw [hl j hj])
   exact ⟨i,k,h1,jE (au.app H _) h2⟩
 have h32:∀ j,j < l.length->Ev aa C0 W0 32 [w j] (HK j)=some (w' j,HK' j):=fun j hj=>by
   have hmem:l.getD j ([],uA)∈l:=by rw [hl j hj]; exact List.getElem_mem _
   have:=LM (hp _ hmem) (hb _ hmem) (L++(.cells ((db N (l.take j)).1++ay (l.length - j) .nilSlice) 32::(db N (l.take j)).2))
   rw [ai,List.length_cons,<-bJ,hN,Nat.add_comm (db N (l.take j)).2.length 1,<-bJ,aG,List.cons_append] at this
   exact this
 have hc:∀ j,j < l.length->(w' j).cells=[w' j]:=fun j _=>(eG _ _ _ _).1
 have hwr:∀ j,j < l.length->bh (HK' j) N j [w' j]=some (HK (j+1)):=fun j hj=>by
   have hml:(db N (l.take j)).1.length=j:=by rw [nU,List.length_take,Nat.min_eq_left (Nat.le_of_lt hj)]
   have hg:(HK' j)[N]? =some (.cells ((db N (l.take j)).1++ay (l.length - j) .nilSlice) 32):=by
     show (H++(L++_))[N]? =_
     rw [<-hN,al (du _ _),aS,al (ax _),dR]; rfl
   rw [DI hg (by rw [ai,hml,List.length_replicate]; omega) (eG _ _ _ _).2]
   congr 1
   have ht:l.take (j+1)=l.take j++[l.getD j ([],uA)]:=by rw [eH,aj hj,hl j hj]; rfl
   show (H++(L++_)).set N _=H++(L++_)
   rw [<-hN,k7 _ _ (du _ _),aS,k7 _ _ (ax _),dR,kz]
   rw [hN,ht,uE]
   show H++(L++_)=H++(L++(bl.cells ((_++[_])++_) 32::(_++_)))
   congr 3
   rw [k7 _ _ (by rw [hml]; exact ax _),hml,dR,show l.length - j=(l.length - (j+1))+1 by omega,List.replicate_succ,kz,aG]; rfl
 have hloop:=Qj (N:=N) hix h32 hc hwr (by omega) l.length 0
 have hK0:HK 0=H++(L++[.cells (ay l.length .nilSlice) 32]):=by
   show H++(L++(.cells ((db N (l.take 0)).1++_) 32::(db N (l.take 0)).2))=_
   rw [List.take_zero]; rfl
 have hKn:HK l.length=H++(L++(.cells (db N l).1 32::(db N l).2)):=by
   show H++(L++(.cells ((db N (l.take l.length)).1++ay (l.length - l.length) _) 32::(db N (l.take l.length)).2))=_
   rw [gH,dR,List.replicate_zero,af]
 rw [<-hKn]
 rw [hK0] at hloop
 rw [aG] at hms
 clear_value HK HK' w w'
 generalize H++L=HL at *
 obtain ⟨tm,ht,g0,g1⟩:=tm1 vm 23 (by decide)
 rw [abP,ht]
 generalize H++(L++[.cells (ay l.length .nilSlice) 32])=H1 at *
 simp -implicitDefEqProofs only [c28,Tryz.f28,aP,g0,g1,hlen0,↓jB,hms,r5,↓az,↓ao,an,eu,sevalprocAttr]
 generalize hX:EvC aa C0 W0 _ (Code.loop _) _=Z
 obtain ⟨X,he,x0,x3⟩:∃ X,Z=some (.exit 0,(X,HK l.length))/\X.length=23/\X.getD 3 uA=.slice N 0 1 l.length l.length true:=by
   rw [<-hX]
   refine hloop _ (by omega) (by omega) ?_ ?_ ?_ ?_ ?_
   · simp only [aq,g0]
   · simp only [g0,gB,sevalprocAttr]
   · simp only [g0,g1,gB,sevalprocAttr]
   · simp only [g0,gB,sevalprocAttr]
   · simp only [g0,gB,sevalprocAttr]; try rfl
 subst he
 simp -implicitDefEqProofs only [x0,x3,↓ao,an,eu,sevalprocAttr]
theorem xN (H:AH) (i k:Nat) (fb:Option AV):jh .eql 37 (.ptr i k) .nilPtr H fb=some (.bool false):=by
 have h:eqA aa 37 H (.ptr i k) .nilPtr=some false:=by kernel_rfl
 unfold jh; simp only [h]; try rfl
theorem QU (H:AH) (i k e l c:Nat) (x:Bool) (fb:Option AV):jh .eql 30 (.slice i k e l c x) .nilSlice H fb=some (.bool false):=by
 have h:eqA aa 30 H (.slice i k e l c x) .nilSlice=some false:=by kernel_rfl
 unfold jh; simp only [h]; try rfl
theorem nck (i k:Nat):ji (.ptr i k)=some (.ptr i k):=rfl
theorem XA (i k:Nat) (kk:IntKind) (n:Int):aD aa 69 (.ptr i k) (.int kk n)=if 0<=n/\n < 16 then some (.ptr i (k+n.toNat * 1)) else none:=by kernel_rfl
theorem Ur {G:AH} {q:Nat} {vc vm vs va:AV} {f:Con} {ss:List (List Itm)} {ad:List Nat} {m:List (List Int)} {rc:List Bool} (h:mN G q vc vm vs va f ss ad m rc 0) (hN:ss.length < 2 ^ 60):∀ (d j:Nat) (tm:List AV) (K:AH) (Z:Option (bs × St)),EvC aa C0 W0 plN R4 (tm,K)=Z->ss.length - j=d->j<=ss.length->(tm.length=34/\au G K/\tm.getD 0 uA=.ptr q 0/\tm.getD 12 uA=vs/\tm.getD 13 uA=I ss.length/\tm.getD 14 uA=I ((j:Nat):Int)/\∃ v,tm.getD 3 uA=v/\Own G.length K 1 3 v ((gE ss ad j).map fun (n:Nat)=>I (n:Int))) ->
   ∃ X K1,Z=some (.exit 0,(X,K1))/\(X.length=34/\au G K1/\X.getD 0 uA=.ptr q 0/\X.getD 12 uA=vs/\X.getD 13 uA=I ss.length/\X.getD 14 uA=I ((ss.length:Nat):Int)/\∃ v,X.getD 3 uA=v/\Own G.length K1 1 3 v ((gE ss ad ss.length).map fun (n:Nat)=>I (n:Int))):=by
 intro d
 induction d with
 | zero =>
   intro j tm K Z hZ hd hj hI
   subst hZ
   have hjl:j=ss.length:=by omega
   subst hjl
   have hI0:=hI
   obtain ⟨hlen,hA,h0,h12,h13,h14,v,h3,ho⟩:=hI
   have hlt:ltB (((ss.length:Nat)):Int) (ss.length:Nat)=false:=cH (by omega)
   rw [MQ]
   simp -implicitDefEqProofs only [Gz,Tryz.f14,aP,hlen,h0,h12,h13,h14,h3,hlt,↓cbT,↓cbF,↓ao,an,eu,sevalprocAttr]
   refine ⟨_,K,rfl,?_⟩
   exact ⟨by first | exact hlen | simp only [aq,hlen],hA,Aj4 (by simp only [hlen,h0,h12,h13,h14,gB,and_self,sevalprocAttr]) ⟨v,by simp only [hlen,h3,gB,sevalprocAttr],ho⟩⟩
 | succ d ih =>
   intro j tm K Z hZ hd hj hI
   subst hZ
   have hI0:=hI
   obtain ⟨hlen,hA,h0,h12,h13,h14,v,h3,ho⟩:=hI
   have hjN:j < ss.length:=by omega
   have hlt:ltB (j:Int) (ss.length:Nat)=true:=cD (by omega)
   have hw:=cp (j:=j) (by omega)
   have hq10:∀ L,ak (K++L) q 10 1=some [va]:=fun L=>by have:=h.cell hA L 10 (x:=va) rfl; rwa [c7] at this
   obtain ⟨i0,k0,w0,hix0,hrd0,hxs⟩:=h.s.at hA hjN
   have hln:=hxs.len
   obtain ⟨i1,k1,hix1,hrd1⟩:=h.at hA hjN
   have hle:=h.le j hjN
   have hn1:=hxs.n
   have hsub:IntKind.i64.wrap (((aW ss j).length:Int) - ((ad.getD j 0:Nat):Int))=(((aW ss j).length - ad.getD j 0:Nat):Int):=by rw [qZ (by omega)]; omega
   obtain ⟨v',K',happ,hA',ho',_⟩:=Bv hA ho (by unfold gE; rw [ar,eB]; have:=h.fs; omega) ((aW ss j).length - ad.getD j 0)
   rw [<-sg] at ho'
   rw [MQ]
   rw [<-af K]
   simp -implicitDefEqProofs only [Gz,Tryz.f14,aP,hlen,h0,h12,h13,h14,h3,hlt,hw,hq10,hix0,hrd0,hln,hix1,hrd1,hsub,Qx,↓ck,↓fY,happ,r5,↓az,nck,↓cbT,↓cbF,↓ao,an,eu,sevalprocAttr]
   generalize hX:EvC aa C0 W0 _ _ _=Z
   refine ih (j+1) _ _ _ hX (by omega) (by omega) ?_
   exact ⟨by simp only [ls,hlen],hA',Aj4 (by simp only [hlen,h0,h12,h13,h14,gB,and_self,sevalprocAttr]) ⟨v',by simp only [hlen,h3,gB,sevalprocAttr],ho'⟩⟩
theorem adg {G:AH} {q:Nat} {vc vm vs va:AV} {f:Con} {ss:List (List Itm)} {ad:List Nat} {m:List (List Int)} {rc:List Bool} (h:mN G q vc vm vs va f ss ad m rc 0):∃ v K,Ev aa C0 W0 14 [.ptr q 0] G=some (v,K)/\au G K/\Own G.length K 1 3 v ((gE ss ad ss.length).map fun (n:Nat)=>I (n:Int)):=by
 obtain ⟨tm,ht,g0,g1⟩:=tm1 (.ptr q 0) 34 (by decide)
 rw [abY,ht]
 have hq9:ak G q 9 1=some [vs]:=by have:=h.cell (au.refl G) [] 9 (x:=vs) rfl; rwa [c7,af] at this
 have hls:=h.s.len
 simp -implicitDefEqProofs only [c14,Tryz.f14,aP,g0,g1,↓xN,hq9,hls,r5,↓az,nck,↓cbT,↓cbF,↓ao,an,eu,sevalprocAttr]
 generalize hX:EvC aa C0 W0 _ (Code.loop _) _=Z
 obtain ⟨X,K1,he,i0,iA,i1,i2,i3,i4,v,i5,io⟩:=Ur h (by have:=h.fs; omega) _ 0 _ _ _ hX rfl (Nat.zero_le _) ⟨by simp only [ls,g0],au.refl G,Aj3 (by simp only [g0,g1,gB,and_self,sevalprocAttr]) ⟨by simp only [g0,gB,sevalprocAttr]; try rfl,.nilSlice,by simp only [g0,gB,sevalprocAttr],.nil⟩⟩
 subst he
 refine ⟨v,K1,?_,iA,io⟩
 simp -implicitDefEqProofs only [aP,i0,i1,i5,↓cbT,↓cbF,↓ao,an,eu,sevalprocAttr]
theorem Om {G:AH} {q:Nat} {vc vm vs va:AV} {f:Con} {ss:List (List Itm)} {ad:List Nat} {m:List (List Int)} {rc:List Bool} (h:mN G q vc vm vs va f ss ad m rc 0) {K:AH} (hA:au G K) {j:Nat} (hjN:j < ss.length) {w0:AV} (hxs:dY G (aW ss j) w0) {tm:List AV} (hlen:tm.length=64) (h0:tm.getD 0 uA=.ptr q 0) (h5:tm.getD 5 uA=w0) (h6:tm.getD 6 uA=I ((ad.getD j 0:Nat):Int)) :
   ∃ tm',EvC aa C0 W0 zh (aI [true,true,true,false,true,false,false,true,true,false,false,true,true,false] (Tryz.f33.body.getD .skip)) (tm,K++[])=some (.normal,(tm',K++[]))/\tm'.length=64/\tm'.getD 57 uA=.bool (okS ss ad rc j)/\tm'.getD 0 uA=tm.getD 0 uA/\tm'.getD 3 uA=tm.getD 3 uA/\tm'.getD 4 uA=tm.getD 4 uA/\tm'.getD 20 uA=tm.getD 20 uA/\tm'.getD 21 uA=tm.getD 21 uA/\tm'.getD 22 uA=tm.getD 22 uA:=by
   have hq10:∀ L,ak (K++L) q 10 1=some [va]:=fun L=>by have:=h.cell hA L 10 (x:=va) rfl; rwa [c7] at this
   have hln:=hxs.len
   cases p1:ltB ((ad.getD j 0:Nat):Int) ((aW ss j).length:Int) with
   | false =>
     rw [show okS ss ad rc j=false from by unfold okS; rw [p1,bc]; try rfl]
     simp -implicitDefEqProofs only [aI,Tryz.f33,fq,hlen,h0,h5,h6,wB,hln,hq10,r5,↓az,nck,p1,↓cbT,↓cbF,↓ao,an,eu,sevalprocAttr]
     exact ⟨_,rfl,by simp only [ls,hlen],by simp only [hlen,h0,gB,and_self,sevalprocAttr]⟩
   | true =>
     obtain ⟨i2,k2,w2,hix2,hrd2,_⟩:=hxs.at (au.refl G) (j:=ad.getD j 0) (by rw [dm] at p1; omega)
     have hrd2':∀ L,ak (K++L) i2 k2 9=some (aL (bz (aW ss j) (ad.getD j 0)) w2):=fun L=>by have:=hrd2 []; rw [af] at this; exact jE (hA.bS L) this
     have hk0:∀ L,ak (K++L) i2 k2 1=some [I (bz (aW ss j) (ad.getD j 0)).kind]:=fun L=>by have:=kU (hrd2' L) (j:=0) (x:=I (bz (aW ss j) (ad.getD j 0)).kind) rfl; rwa [Nat.add_zero] at this
     cases p2:eqB (bz (aW ss j) (ad.getD j 0)).kind 4 with
     | false =>
       rw [show okS ss ad rc j=true from by unfold okS; rw [p1,p2]; try rfl]
       simp -implicitDefEqProofs only [aI,Tryz.f33,fq,hlen,h0,h5,h6,wB,hln,hq10,r5,↓az,nck,p1,p2,hix2,hk0,↓cbT,↓cbF,↓ao,an,eu,sevalprocAttr]
       exact ⟨_,rfl,by simp only [ls,hlen],by simp only [hlen,h0,gB,and_self,sevalprocAttr]⟩
     | true =>
       have hk6:∀ L,ak (K++L) i2 (k2+6) 1=some [I (bz (aW ss j) (ad.getD j 0)).ev]:=fun L=>kU (hrd2' L) (j:=6) rfl
       have hev:=h.ev _ (iM hjN) _ (fi (by rw [dm] at p1; omega)) (.inr ((cU _ _).1 p2))
       have hix3:∀ kk,aD aa 69 (.ptr q 11) (.int kk (bz (aW ss j) (ad.getD j 0)).ev)=some (.ptr q (11+(bz (aW ss j) (ad.getD j 0)).ev.toNat)):=fun kk=>by rw [XA,if_pos hev,dz]
       have hrc:∀ L,ak (K++L) q (11+(bz (aW ss j) (ad.getD j 0)).ev.toNat) 1=some [.bool (rc.getD (bz (aW ss j) (ad.getD j 0)).ev.toNat false)]:=fun L=>by
         have:=h.cell hA L (11+(bz (aW ss j) (ad.getD j 0)).ev.toNat) (Oc h.lr (by omega))
         rwa [c7] at this
       cases p3:rc.getD (bz (aW ss j) (ad.getD j 0)).ev.toNat false with
       | true =>
         rw [show okS ss ad rc j=true from by unfold okS; rw [p1,p2,p3]; try rfl]
         simp -implicitDefEqProofs only [aI,Tryz.f33,fq,hlen,h0,h5,h6,wB,hln,hq10,r5,↓az,nck,p1,p2,p3,hix2,hk0,hk6,hix3,hrc,↓cbT,↓cbF,↓ao,an,eu,sevalprocAttr]
         exact ⟨_,rfl,by simp only [ls,hlen],by simp only [hlen,h0,gB,and_self,sevalprocAttr]⟩
       | false =>
         rw [show okS ss ad rc j=false from by unfold okS; rw [p1,p2,p3]; try rfl]
         simp -implicitDefEqProofs only [aI,Tryz.f33,fq,hlen,h0,h5,h6,wB,hln,hq10,r5,↓az,nck,p1,p2,p3,hix2,hk0,hk6,hix3,hrc,↓cbT,↓cbF,↓ao,an,eu,sevalprocAttr]
         exact ⟨_,rfl,by simp only [ls,hlen],by simp only [hlen,h0,gB,and_self,sevalprocAttr]⟩
theorem Jk {G:AH} {q:Nat} {vc vm vs va:AV} {f:Con} {ss:List (List Itm)} {ad:List Nat} {m:List (List Int)} {rc:List Bool} (h:mN G q vc vm vs va f ss ad m rc 0) {K:AH} (hA:au G K) {j:Nat} (hjN:j < ss.length) {w0:AV} (hxs:dY G (aW ss j) w0) {tm:List AV} {R:Option (bs × St)} (hR:EvC aa C0 W0 zh (aI [true,true,true,false,true,false,false,true,true,false,false,true,true,false] (Tryz.f33.body.getD .skip)) (tm,K++[])=R) (hlen:tm.length=64) (h0:tm.getD 0 uA=.ptr q 0) (h5:tm.getD 5 uA=w0) (h6:tm.getD 6 uA=I ((ad.getD j 0:Nat):Int)) :
   ∃ tm',R=some (.normal,(tm',K++[]))/\tm'.length=64/\tm'.getD 57 uA=.bool (okS ss ad rc j)/\tm'.getD 0 uA=tm.getD 0 uA/\tm'.getD 3 uA=tm.getD 3 uA/\tm'.getD 4 uA=tm.getD 4 uA/\tm'.getD 20 uA=tm.getD 20 uA/\tm'.getD 21 uA=tm.getD 21 uA/\tm'.getD 22 uA=tm.getD 22 uA:=by
 subst hR
 exact Om h hA hjN hxs hlen h0 h5 h6
theorem Ot {G:AH} {q:Nat} {vc vm vs va:AV} {f:Con} {ss:List (List Itm)} {ad:List Nat} {m:List (List Int)} {rc:List Bool} (h:mN G q vc vm vs va f ss ad m rc 0) (hN:ss.length < 2 ^ 60):∀ (d j:Nat) (tm:List AV) (K:AH) (Z:Option (bs × St)),EvC aa C0 W0 zh RC (tm,K)=Z->ss.length - j=d->j<=ss.length->(tm.length=64/\au G K/\tm.getD 0 uA=.ptr q 0/\tm.getD 20 uA=vs/\tm.getD 21 uA=I ss.length/\tm.getD 22 uA=I ((j:Nat):Int)/\∃ v,tm.getD 3 uA=v/\Own G.length K 1 3 v ((d7 ss ad rc j).map fun (n:Nat)=>I (n:Int))) ->
   ∃ X K1,Z=some (.exit 0,(X,K1))/\(X.length=64/\au G K1/\X.getD 0 uA=.ptr q 0/\X.getD 20 uA=vs/\X.getD 21 uA=I ss.length/\X.getD 22 uA=I ((ss.length:Nat):Int)/\∃ v,X.getD 3 uA=v/\Own G.length K1 1 3 v ((d7 ss ad rc ss.length).map fun (n:Nat)=>I (n:Int))):=by
 intro d
 induction d with
 | zero =>
   intro j tm K Z hZ hd hj hI
   subst hZ
   have hjl:j=ss.length:=by omega
   subst hjl
   have hI0:=hI
   obtain ⟨hlen,hA,h0,h20,h21,h22,v,h3,ho⟩:=hI
   have hlt:ltB (((ss.length:Nat)):Int) (ss.length:Nat)=false:=cH (by omega)
   rw [Mq]
   simp -implicitDefEqProofs only [Gh,Tryz.f33,aP,hlen,h0,h20,h21,h22,h3,hlt,↓cbT,↓cbF,↓ao,an,eu,sevalprocAttr]
   refine ⟨_,K,rfl,?_⟩
   exact ⟨by first | exact hlen | simp only [aq,hlen],hA,Aj4 (by simp only [hlen,h0,h20,h21,h22,gB,and_self,sevalprocAttr]) ⟨v,by simp only [hlen,h3,gB,sevalprocAttr],ho⟩⟩
 | succ d ih =>
   intro j tm K Z hZ hd hj hI
   subst hZ
   have hI0:=hI
   obtain ⟨hlen,hA,h0,h20,h21,h22,v,h3,ho⟩:=hI
   have hjN:j < ss.length:=by omega
   have hlt:ltB (j:Int) (ss.length:Nat)=true:=cD (by omega)
   have hw:=cp (j:=j) (by omega)
   have hq10:∀ L,ak (K++L) q 10 1=some [va]:=fun L=>by have:=h.cell hA L 10 (x:=va) rfl; rwa [c7] at this
   obtain ⟨i0,k0,w0,hix0,hrd0,hxs⟩:=h.s.at hA hjN
   have hln:=hxs.len
   obtain ⟨i1,k1,hix1,hrd1⟩:=h.at hA hjN
   have hle:=h.le j hjN
   have hn1:=hxs.n
   obtain ⟨v',K',happ,hA',ho',_⟩:=Bv hA ho (by have:=xC ss ad rc j; have:=h.fs; omega) j
   rw [Mq]
   rw [<-af K]
   simp -implicitDefEqProofs only [Gh,Tryz.f33,aP,hlen,h0,h20,h21,h22,h3,hlt,hw,hq10,hix0,hrd0,hln,hix1,hrd1,r5,↓az,nck,↓cbT,↓cbF,↓ao,an,eu,sevalprocAttr]
   generalize hR:EvC aa C0 W0 _ (Code.region _ _ _) _=R
   obtain ⟨t,he,tl,t57,t0,t3,t4,t20,t21,t22⟩:=Jk h hA hjN hxs hR (by simp only [ls,hlen]) (by simp only [hlen,h0,gB,sevalprocAttr]) (by simp only [hlen,gB,sevalprocAttr]) (by simp only [hlen,gB,sevalprocAttr])
   subst he
   simp only [hlen,h0,h3,h20,h21,h22,gB,sevalprocAttr] at t0 t3 t4 t20 t21 t22
   cases hok:okS ss ad rc j with
   | true =>
     simp -implicitDefEqProofs only [tl,t57,t0,t3,t4,t20,t21,t22,hw,hok,Qx,↓ck,happ,↓cbT,↓cbF,↓ao,an,eu,sevalprocAttr]
     generalize hX:EvC aa C0 W0 _ _ _=Z
     refine ih (j+1) _ _ _ hX (by omega) (by omega) ?_
     try simp only [af]
     exact ⟨by first | exact tl | simp only [aq,tl],hA',Aj4 (by simp only [tl,t0,t20,t21,t22,gB,and_self,sevalprocAttr]) ⟨v',by simp only [tl,t3,gB,sevalprocAttr],by rw [vu,hok,if_pos rfl]; exact ho'⟩⟩
   | false =>
     simp -implicitDefEqProofs only [tl,t57,t0,t3,t4,t20,t21,t22,hw,hok,↓cbT,↓cbF,↓ao,an,eu,sevalprocAttr]
     generalize hX:EvC aa C0 W0 _ _ _=Z
     refine ih (j+1) _ _ _ hX (by omega) (by omega) ?_
     try simp only [af]
     exact ⟨by first | exact tl | simp only [aq,tl],hA,Aj4 (by simp only [tl,t0,t20,t21,t22,gB,and_self,sevalprocAttr]) ⟨v,by simp only [tl,t3,gB,sevalprocAttr],by rw [vu,hok]; exact ho⟩⟩
theorem UP {G:AH} {q:Nat} {vc vm vs va:AV} {f:Con} {ss:List (List Itm)} {ad:List Nat} {m:List (List Int)} {rc:List Bool} (h:mN G q vc vm vs va f ss ad m rc 0):∃ v K,Ev aa C0 W0 33 [.ptr q 0] G=some (v,K)/\au G K/\Own G.length K 1 3 v ((d7 ss ad rc ss.length).map fun (n:Nat)=>I (n:Int)):=by
 obtain ⟨tm,ht,g0,g1⟩:=tm1 (.ptr q 0) 64 (by decide)
 rw [abO,ht]
 have hq9:ak G q 9 1=some [vs]:=by have:=h.cell (au.refl G) [] 9 (x:=vs) rfl; rwa [c7,af] at this
 have hq27:ak G q 27 1=some [I 0]:=by have:=h.cell (au.refl G) [] 27 (Fj h.lr); rwa [c7,af] at this
 have hls:=h.s.len
 have e0:eqB 0 0=true:=rfl
 simp -implicitDefEqProofs only [c33,Tryz.f33,aP,g0,g1,↓xN,hq9,hq27,e0,hls,r5,↓az,nck,↓cbT,↓cbF,↓ao,an,eu,sevalprocAttr]
 generalize hX:EvC aa C0 W0 _ (Code.loop _) _=Z
 obtain ⟨X,K1,he,i0,iA,i1,i2,i3,i4,v,i5,io⟩:=Ot h (by have:=h.fs; omega) _ 0 _ _ _ hX rfl (Nat.zero_le _) ⟨by simp only [ls,g0],au.refl G,Aj3 (by simp only [g0,g1,gB,and_self,sevalprocAttr]) ⟨by simp only [g0,gB,sevalprocAttr]; try rfl,.nilSlice,by simp only [g0,gB,sevalprocAttr],.nil⟩⟩
 subst he
 refine ⟨v,K1,?_,iA,io⟩
 simp -implicitDefEqProofs only [aP,i0,i1,i5,↓cbT,↓cbF,↓ao,an,eu,sevalprocAttr]
theorem ints_at {H K:AH} {v:AV} {l:List Nat} (hs:SlS 30 1 H v (ints l)) (hA:au H K) {j:Nat} (hj:j < l.length):∃ i k,(∀ kk,aD aa 30 v (.int kk (j:Int))=some (.ptr i k))/\∀ L,ak (K++L) i k 1=some [I ((l.getD j 0:Nat):Int)]:=by
 obtain ⟨i,k,hi,hr⟩:=hs.ix j [I ((l.getD j 0:Nat):Int)] (by
   unfold ints
   rw [aM,aj hj,gde,aj hj]; rfl)
 exact ⟨i,k,hi,fun L=>iZ hr hA L⟩
theorem m8 {H:AH} {v:AV} {l:List Nat} (hs:SlS 30 1 H v (ints l)) (G:AH):dQ aa 30 G v=some (I l.length):=by
 have:=hs.len G
 unfold ints at this
 rwa [ar] at this
theorem zd (l:List Nat) {j:Nat} (hj:j < l.length):(l.take (j+1)).sum=(l.take j).sum+l.getD j 0:=by
 rw [eH,aj hj,List.sum_append,gde,aj hj]; simp
theorem Wp {G:AH} {v:AV} {l:List Nat} (hs:SlS 30 1 G v (ints l)) (hb:l.sum < 2 ^ 40) (hN:l.length < 2 ^ 60):∀ (d j:Nat) (tm:List AV) (K:AH) (Z:Option (bs × St)),EvC aa C0 W0 plN RB (tm,K)=Z->l.length - j=d->j<=l.length->(tm.length=18/\au G K/\tm.getD 7 uA=v/\tm.getD 8 uA=I l.length/\tm.getD 9 uA=I ((j:Nat):Int)/\tm.getD 3 uA=I (((l.take j).sum:Nat):Int)) ->
   ∃ X K1,Z=some (.exit 0,(X,K1))/\(X.length=18/\au G K1/\X.getD 7 uA=v/\X.getD 8 uA=I l.length/\X.getD 9 uA=I ((l.length:Nat):Int)/\X.getD 3 uA=I (((l.take l.length).sum:Nat):Int)):=by
 intro d
 induction d with
 | zero =>
   intro j tm K Z hZ hd hj hI
   subst hZ
   have hjl:j=l.length:=by omega
   subst hjl
   have hI0:=hI
   obtain ⟨hlen,hA,h7,h8,h9,h3⟩:=hI
   have hlt:ltB (((l.length:Nat)):Int) (l.length:Nat)=false:=cH (by omega)
   rw [Mn]
   simp -implicitDefEqProofs only [Gf,Tryz.f36,aP,hlen,h7,h8,h9,h3,hlt,↓cbT,↓cbF,↓ao,an,eu,sevalprocAttr]
   refine ⟨_,K,rfl,?_⟩
   exact ⟨by first | exact hlen | simp only [aq,hlen],hA,by simp only [hlen,h7,h8,h9,h3,gB,and_self,sevalprocAttr]⟩
 | succ d ih =>
   intro j tm K Z hZ hd hj hI
   subst hZ
   have hI0:=hI
   obtain ⟨hlen,hA,h7,h8,h9,h3⟩:=hI
   have hjN:j < l.length:=by omega
   have hlt:ltB (j:Int) (l.length:Nat)=true:=cD (by omega)
   have hw:=cp (j:=j) (by omega)
   obtain ⟨i,k,hix,hrd⟩:=ints_at hs hA hjN
   have hsum:=zd l hjN
   have hle:=BE l (j+1)
   have hadd:IntKind.i64.wrap ((((l.take j).sum:Nat):Int)+((l.getD j 0:Nat):Int))=(((l.take (j+1)).sum:Nat):Int):=by rw [qZ (by omega)]; omega
   rw [Mn]
   rw [<-af K]
   simp -implicitDefEqProofs only [Gf,Tryz.f36,aP,hlen,h7,h8,h9,h3,hlt,hw,hix,hrd,hadd,r5,↓az,nck,↓cbT,↓cbF,↓ao,an,eu,sevalprocAttr]
   generalize hX:EvC aa C0 W0 _ _ _=Z
   refine ih (j+1) _ _ _ hX (by omega) (by omega) ?_
   simp only [af]
   exact ⟨by first | exact hlen | simp only [aq,hlen],hA,by simp only [hlen,h7,h8,h9,hadd,gB,and_self,sevalprocAttr]⟩
theorem ac2 {G:AH} {q:Nat} {vc vm vs va:AV} {f:Con} {ss:List (List Itm)} {ad:List Nat} {m:List (List Int)} {rc:List Bool} (h:mN G q vc vm vs va f ss ad m rc 0):Ev aa C0 W0 36 [.ptr q 0] G=some (I ((gE ss ad ss.length).sum:Nat),G):=by
 obtain ⟨tm,ht,g0,g1⟩:=tm1 (.ptr q 0) 18 (by decide)
 rw [abM,ht]
 rw [<-af (ro G)]
 obtain ⟨v,K,he,hA,ho⟩:=adg (h.ro.bg (au.app (ro G) []))
 have hs:=ho.ints
 have hln:=m8 hs
 have hsum:=Ky ss ad
 have hfew:=h.few
 have hlen:(gE ss ad ss.length).length=ss.length:=by unfold gE; rw [ar,eB]
 have hfs:=h.fs
 simp -implicitDefEqProofs only [c36,Tryz.f36,aP,g0,g1,↓acp,he,hln,r5,↓az,nck,↓cbT,↓cbF,↓ao,an,eu,sevalprocAttr]
 generalize hX:EvC aa C0 W0 _ (Code.loop _) _=Z
 obtain ⟨X,K1,he1,i0,iA,i1,i2,i3,i4⟩:=Wp hs (by omega) (by omega) _ 0 _ _ _ hX rfl (Nat.zero_le _) ⟨by simp only [ls,g0],au.refl K,Aj2 (by simp only [g0,gB,and_self,sevalprocAttr]) ⟨by simp only [g0,gB,sevalprocAttr]; try rfl,by simp only [g0,gB,sevalprocAttr]; try rfl⟩⟩
 subst he1
 rw [gH] at i4
 simp -implicitDefEqProofs only [aP,i0,i4,↓cbT,↓cbF,↓ao,an,eu,sevalprocAttr]
def pX (ss:List (List Itm)) (ad:List Nat) (rc:List Bool):Bool:=(gE ss ad ss.length).sum == 0 || (d7 ss ad rc ss.length).isEmpty
def zl (ss:List (List Itm)) (ad:List Nat) (rc:List Bool):Int:=if (gE ss ad ss.length).sum=0 then 0 else if (d7 ss ad rc ss.length)=[] then 11 else 0
theorem Qb {G:AH} {q:Nat} {vc vm vs va:AV} {f:Con} {ss:List (List Itm)} {ad:List Nat} {m:List (List Int)} {rc:List Bool} (h:mN G q vc vm vs va f ss ad m rc 0):Ev aa C0 W0 12 [.ptr q 0] G=some (.tuple [.bool (pX ss ad rc),I (zl ss ad rc)],G):=by
 obtain ⟨tm,ht,g0,g1⟩:=tm1 (.ptr q 0) 33 (by decide)
 rw [abZ,ht]
 rw [<-af (ro G)]
 have hr:=h.ro
 have hq10:∀ L,ak (ro G++L) q 10 1=some [va]:=fun L=>by have:=hr.cell (au.refl _) L 10 (x:=va) rfl; rwa [c7] at this
 have hq27:∀ L,ak (ro G++L) q 27 1=some [I 0]:=fun L=>by have:=hr.cell (au.refl _) L 27 (Fj h.lr); rwa [c7] at this
 have e0:eqB 0 0=true:=rfl
 have h36:=ac2 (hr.bg (au.app (ro G) []))
 obtain ⟨v,K,he,hA,ho⟩:=UP (hr.bg (au.app (ro G) []))
 have hln:=m8 ho.ints
 obtain ⟨i,k,c,e,hva⟩:=h.nn
 have hnil:∀ H fb,jh .eql 30 va .nilSlice H fb=some (.bool false):=fun H fb=>by rw [hva,QU]
 unfold pX zl
 cases c0:eqB (((gE ss ad ss.length).sum:Nat):Int) 0 with
 | true =>
   have z0:(gE ss ad ss.length).sum=0:=by rw [cU] at c0; omega
   simp only [z0,if_true]
   rw [z0] at h36 c0
   simp -implicitDefEqProofs only [c12,Tryz.f12,aP,g0,g1,↓xN,hq10,hq27,e0,↓hnil,↓UI,h36,c0,r5,↓az,nck,↓cbT,↓cbF,↓ao,an,eu,sevalprocAttr]
   try rfl
 | false =>
   have z0:(gE ss ad ss.length).sum≠0:=by rw [pU] at c0; omega
   cases c1:eqB (((d7 ss ad rc ss.length).length:Nat):Int) 0 with
   | true =>
     have z1:d7 ss ad rc ss.length=[]:=List.length_eq_zero_iff.1 (by rw [cU] at c1; omega)
     rw [if_neg z0,if_pos z1,show ((gE ss ad ss.length).sum == 0 || (d7 ss ad rc ss.length).isEmpty)=true by rw [z1]; simp]
     simp -implicitDefEqProofs only [c12,Tryz.f12,aP,g0,g1,↓xN,hq10,hq27,e0,↓hnil,↓UI,h36,c0,↓P8,he,hln,c1,r5,↓az,nck,↓cbT,↓cbF,↓ao,an,eu,sevalprocAttr]
   | false =>
     have z1:d7 ss ad rc ss.length≠[]:=fun e=>by rw [e] at c1; cases c1
     rw [if_neg z0,if_neg z1,show ((gE ss ad ss.length).sum == 0 || (d7 ss ad rc ss.length).isEmpty)=false by rw [Bool.or_eq_false_iff]; exact ⟨by simpa using z0,by simpa using z1⟩]
     simp -implicitDefEqProofs only [c12,Tryz.f12,aP,g0,g1,↓xN,hq10,hq27,e0,↓hnil,↓UI,h36,c0,↓P8,he,hln,c1,r5,↓az,nck,↓cbT,↓cbF,↓ao,an,eu,sevalprocAttr]
def zj (l:List Nat) (n:Int):Bool:=!cd (fun j=>!eqB n ((l.getD j 0:Nat):Int)) l.length 0
theorem yr (l:List Nat) (s:Nat):zj l s=true↔s∈l:=by
 unfold zj
 rw [bj,<-Bool.not_eq_true,fC]
 constructor
 · intro h
   apply Classical.byContradiction
   intro hn
   refine h fun j hj=>?_
   rw [bj,pU]
   intro e
   refine hn (lR.2 ⟨j,hj,?_⟩)
   rw [gde,aj hj] at e
   exact (Int.ofNat_inj.1 e).symm
 · intro h hn
   obtain ⟨j,hj,e⟩:=lR.1 h
   have:=hn j hj
   rw [bj,pU,gde,aj hj] at this
   exact this (by rw [<-e]; rfl)
theorem PT {H:AH} {v:AV} {l:List Nat} {n:Int} (hs:SlS 30 1 H v (ints l)) (hN:l.length < 2 ^ 60):∀ (d j:Nat) (tm:List AV) (K:AH) (Z:Option (bs × St)),EvC aa C0 W0 plN Rh (tm,K)=Z->l.length - j=d->j<=l.length->au H K->tm.length=19->tm.getD 0 uA=v->tm.getD 1 uA=I n->tm.getD 7 uA=I l.length->tm.getD 8 uA=I ((j:Nat):Int) ->
   ∃ X Y K1 K2,Z=br (cd (fun j=>!eqB n ((l.getD j 0:Nat):Int)) (l.length) (j)) (some (.exit 0,(X,K1))) (some (.ret,(Y,K2)))/\(X.length=19/\au H K1/\X.getD 0 uA=v/\X.getD 1 uA=I n/\X.getD 7 uA=I l.length)/\Y.length=19/\∃ r:Int,0<=r/\Y.getD 4 uA=I r:=by
 intro d
 induction d with
 | zero =>
   intro j tm K Z hZ hd hj hA hlen h0 h1 h7 h8
   subst hZ
   have hjl:j=l.length:=by omega
   subst hjl
   have hlt:ltB (((l.length:Nat)):Int) (l.length:Nat)=false:=cH (by omega)
   rw [di (ax _),LU]
   simp -implicitDefEqProofs only [CX,Tryz.f92,aP,hlen,h0,h1,h7,h8,hlt,↓cbT,↓cbF,↓ao,an,eu,sevalprocAttr]
   exact ⟨_,tm.set 4 (I 0),_,K,rfl,⟨by first | exact hlen | simp only [aq,hlen],hA,by first | exact h0 | simp only [hlen,h0,gB,sevalprocAttr],by first | exact h1 | simp only [hlen,h1,gB,sevalprocAttr],by first | exact h7 | simp only [hlen,h7,gB,sevalprocAttr]⟩,by simp only [ls,hlen],⟨0,Int.le_refl _,by simp only [hlen,dv,Nat.reduceLT]⟩⟩
 | succ d ih =>
   intro j tm K Z hZ hd hj hA hlen h0 h1 h7 h8
   subst hZ
   have hjN:j < l.length:=by omega
   have hlt:ltB (j:Int) (l.length:Nat)=true:=cD (by omega)
   have hw:=cp (j:=j) (by omega)
   obtain ⟨i,k,hix,hrd⟩:=ints_at hs hA hjN
   rw [cI hjN,LU]
   rw [<-af K]
   cases hp:(!eqB n ((l.getD j 0:Nat):Int)) with
   | true =>
     simp only [Bool.true_and]
     rw [bj] at hp
     simp -implicitDefEqProofs only [CX,Tryz.f92,aP,hlen,h0,h1,h7,h8,hlt,hw,hix,hrd,hp,r5,↓az,nck,↓cbT,↓cbF,↓ao,an,eu,sevalprocAttr]
     exact ih (j+1) _ _ _ rfl (by omega) (by omega) (by first | exact hA | exact hA.bS _ | exact (hA.bS _).bS _) (by simp only [ls,hlen]) (by simp only [hlen,h0,gB,sevalprocAttr]) (by simp only [hlen,h1,gB,sevalprocAttr]) (by simp only [hlen,h7,gB,sevalprocAttr]) (by simp only [hlen,h8,gB,sevalprocAttr])
   | false =>
     simp only [bc]
     rw [Bool.not_eq_false'] at hp
     simp -implicitDefEqProofs only [CX,Tryz.f92,aP,hlen,h0,h1,h7,h8,hlt,hw,hix,hrd,hp,r5,↓az,nck,↓cbT,↓cbF,↓ao,an,eu,sevalprocAttr]
     exact ⟨tm,_,K,_,rfl,⟨hlen,hA,h0,h1,h7⟩,by simp only [ls,hlen],⟨_,Int.natCast_nonneg j,by simp only [hlen,gB,sevalprocAttr]⟩⟩
theorem acu {H:AH} {v:AV} {l:List Nat} (hs:SlS 30 1 H v (ints l)) (hn:l.length < 2 ^ 40) (n:Int):∃ r,Ev aa C0 W0 92 [v,I n] H=some (I r,H)/\leB 0 r=zj l n:=by
 obtain ⟨tm,ht,g0,g1,g2⟩:=tm2 v (I n) 19 (by decide)
 rw [aa6,ht]
 rw [<-af (ro H)]
 have hl:=m8 hs.ro
 unfold zj
 simp -implicitDefEqProofs only [c92,Tryz.f92,aP,g0,g1,g2,hl,r5,↓az,nck,↓cbT,↓cbF,↓ao,an,eu,sevalprocAttr]
 generalize hX:EvC aa C0 W0 _ (Code.loop _) _=Z
 obtain ⟨X,Y,K1,K2,he,xs,y0,y1⟩:=PT hs.ro (by omega) _ 0 _ _ _ hX rfl (Nat.zero_le _) (au.app _ _) (by simp only [ls,g0]) (by simp only [g0,g1,gB,sevalprocAttr]; try rfl) (by simp only [g0,g2,gB,sevalprocAttr]; try rfl) (by simp only [g0,gB,sevalprocAttr]; try rfl) (by simp only [g0,gB,sevalprocAttr]; try rfl)
 subst he
 obtain ⟨r,hr0,hr⟩:=y1
 cases hf:cd (fun j=>!eqB n ((l.getD j 0:Nat):Int)) l.length 0 with
 | true =>
   refine ⟨-1,?_,rfl⟩
   simp -implicitDefEqProofs only [xs.1,hf,↓cbT,↓cbF,↓ao,an,eu,sevalprocAttr]
 | false =>
   refine ⟨r,?_,by rw [(dn _ _).2 hr0]; rfl⟩
   simp -implicitDefEqProofs only [y0,hr,hf,↓cbT,↓cbF,↓ao,an,eu,sevalprocAttr]
theorem YR {H:AH} {v:AV} {l:List Nat} (hs:SlS 30 1 H v (ints l)) (hn:l.length < 2 ^ 40) (n:Int):Ev aa C0 W0 63 [v,I n] H=some (.bool (zj l n),H):=by
 obtain ⟨tm,ht,g0,g1,g2⟩:=tm2 v (I n) 9 (by decide)
 rw [abr,ht]
 rw [<-af (ro H)]
 obtain ⟨r,hr,hb⟩:=acu (hs.ro.same (au.app (ro H) [])) hn n
 simp -implicitDefEqProofs only [c63,Tryz.f63,aP,g0,g1,g2,r5,↓az,nck,↓ab1,hr,hb,↓cbT,↓cbF,↓ao,an,eu,sevalprocAttr]
end Go.Dv
