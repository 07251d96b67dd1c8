/- Part 17 of the walks (own work). -/
import Derived.Test.YtilpjnckfkjkbaaGreatDoorU16
open Bool renaming false_and→bd,not_eq_true'→bl
open Int renaming toNat_natCast→cN
open List renaming append_assoc→aD,append_nil→af,getElem?_append_right→al,getElem?_eq_getElem→aj,getElem?_map→aO,length_append→ai,length_map→ao,length_range→er,length_set→aq,mem_iff_getElem→lY,replicate→au,set_append_right→ll,set_cons_zero→kK,take_add_one→ez,take_length→gg
open Nat renaming add_assoc→bN,add_sub_cancel_left→aN,le_add_right→dI,le_refl→aw,mul_one→dM,sub_self→d9,zero_add→cZ,zero_le→aV
open Option renaming bind_some→ax,getD_some→fE,map→rJ
open Go.Proofs.Tryz renaming prog→aa
set_option maxRecDepth 100000
set_option maxHeartbeats 4000000
set_option linter.unusedSimpArgs false
set_option linter.unusedVariables false
open Go.Proofs.Tryz (f12 f14 f28 f33 f36 f63 f92)
namespace Go.Dv
open Go.Proofs
attribute [local congr] aA bC aT bB bD
theorem Ru {HK HK':Nat->AH} {n N:Nat} {vm:AV} {w w':Nat->AV} (hix:∀ j,j < n->∃ i k,(∀ kk,aC aa 24 vm (.int kk (j:Int))=some (.ptr i k))/\ak (HK j) i k 1=some [w j])
   (h32:∀ j,j < n->Ev aa C0 W0 32 [w j] (HK j)=some (w' j,HK' j)) (hc:∀ j,j < n->(w' j).cells=[w' j]) (hwr:∀ j,j < n->bj (HK' j) N j [w' j]=some (HK (j+1))) (hn:n < 2 ^ 60) :
   ∀ (d j:Nat) (tm:List AV),n - j=d->j<=n->tm.length=23->tm.getD 3 uA=.slice N 0 1 n n true->tm.getD 9 uA=vm->tm.getD 10 uA=I n->tm.getD 11 uA=I (j:Int) ->
   ∃ X,EvC aa C0 W0 plN LN (tm,HK j)=some (.exit 0,(X,HK n))/\X.length=23/\X.getD 3 uA=.slice N 0 1 n n true:=by
 intro d
 induction d with
 | zero =>
   intro j tm hd hj hlen h3 h9 h10 h11
   have hjl:j=n:=by omega
   subst hjl
   have hlt:ltB (j:Int) (j:Nat)=false:=cw (by omega)
   rw [Ny]
   simp -implicitDefEqProofs only [GV,f28,aP,hlen,h3,h9,h10,h11,hlt,↓aG,aF,eu,sevalprocAttr]
   exact ⟨_,rfl,by first | exact hlen | simp only [aq,hlen],by first | exact h3 | simp only [hlen,h3,gB,sevalprocAttr]⟩
 | succ d ih =>
   intro j tm hd hj hlen h3 h9 h10 h11
   have hjn:j < n:=by omega
   have hlt:ltB (j:Int) (n:Nat)=true:=cu (by omega)
   have hw:=b6 (j:=j) (by omega)
   obtain ⟨i,k,hi,hr⟩:=hix j hjn
   have h1:=h32 j hjn
   have h2:=hc j hjn
   have h4:=hwr j hjn
   have hia:∀ kk,aC aa 24 (.slice N 0 1 n n true) (.int kk (j:Int))=some (.ptr N j):=fun kk=>by
     rw [YW,if_pos ⟨by omega,by omega,rfl⟩,cN,dM,cZ]
   rw [Ny]
   simp -implicitDefEqProofs only [GV,f28,aP,hlen,h3,h9,h10,h11,hlt,hw,hi,hr,↓VU,h1,↓h2,h4,hia,fX,r5,↓ba,↓aG,aF,eu,sevalprocAttr]
   generalize hX:EvC aa C0 W0 _ _ _=Z
   have key:∀ (tm1:List AV),EvC aa C0 W0 plN LN (tm1,HK (j+1))=Z->tm1.length=23->tm1.getD 3 uA=.slice N 0 1 n n true->tm1.getD 9 uA=vm->tm1.getD 10 uA=I n->tm1.getD 11 uA=I ((j+1:Nat):Int)->∃ X,Z=some (.exit 0,(X,HK n))/\X.length=23/\X.getD 3 uA=.slice N 0 1 n n true:=by
     intro tm1 h hl1 h3 h9 h10 h11
     obtain ⟨X,he,hr⟩:=ih (j+1) tm1 (by omega) (by omega) hl1 h3 h9 h10 h11
     exact ⟨X,h.symm.trans he,hr⟩
   exact key _ hX (by simp only [ls,hlen]) (by simp only [hlen,h3,gB,sevalprocAttr]) (by simp only [hlen,h9,gB,sevalprocAttr]) (by simp only [hlen,h10,gB,sevalprocAttr]) (by simp only [hlen,h11,gB,sevalprocAttr])
theorem FF (z:AV) (n:Nat):ly [z] n=au n z:=by unfold ly;refine List.ext_getElem (by simp) fun i h1 h2=>?_;simp [Nat.mod_one]
def tp (N:Nat) (p:List AV × AH) (b:List Int × AV):List AV × AH:=(p.1++[bu 1 b.1.length b.2 (N+1+p.2.length)],p.2++bq 21 b.2 (b.1.map fun x=>.int .i32 x))
def du (N:Nat) (l:List (List Int × AV)):List AV × AH:=l.foldl (tp N) ([],[])
theorem uR (N:Nat) (l:List (List Int × AV)) (b:List Int × AV):du N (l++[b])=tp N (du N l) b:=by unfold du; rw [List.foldl_append]; rfl
theorem og (N:Nat) (l:List (List Int × AV)):(du N l).1.length=l.length:=by
 have key:∀ (l:List (List Int × AV)) (p:List AV × AH),(l.foldl (tp N) p).1.length=p.1.length+l.length:=by
   intro l;induction l with
   | nil=>intro p; rfl
   | cons b l ih=>intro p; rw [List.foldl_cons,ih]; simp [tp]; omega
 unfold du;rw [key]; simp
theorem AL {K:AH} {b:Nat} {cs:List AV} {e:TypeId} (h:K[b]? =some (.cells cs e)) {k:Nat} {x:AV} (hk:k < cs.length) (hx:x.one=true):bj K b k [x]=some (K.set b (.cells (cs.set k x) e)):=by unfold bj;rw [h];simp only;rw [if_pos ⟨by simp; omega,by simp [hx]⟩]; rfl
theorem abU (n:Nat) (hn:n<=1000) (H:AH):fN aa none 24 (I n) (I n) H=some (.slice H.length 0 1 n n true,H++[.cells (au n .nilSlice) 32]):=by
 have hz:d8 aa 32=some .nilSlice:=by kernel_rfl
 have hs:gh aa 24=some 32:=by kernel_rfl
 have hb:aa.bytesOf 32=24:=by kernel_rfl
 have hc:aa.cellsOf 32=1:=by kernel_rfl
 unfold fN;simp only [hs,hz,ax];rw [if_pos ⟨by omega,by omega,by omega,by rw [hb]; omega,by simp [AV.cells]⟩];rw [hc,dM,cN];show rJ _ (put none H (.cells (ly [.nilSlice] n) 32))=_;rw [FF]; rfl
theorem ae2:aa.bytesOf 21=4:=by kernel_rfl
theorem VM {n:Nat} (h:n<=1000):gf (aa.bytesOf 21) n=true:=by rw [ae2]; unfold gf; rw [Bool.and_eq_true,decide_eq_true_iff,decide_eq_true_iff]; constructor <;> omega
theorem zO (l:List Int):(l.map dH).flatten=l.map fun x=>AV.int .i32 x:=qb _ l
theorem B8 (l:List Int):∀ r∈l.map dH,r.length=1:=by intro r hr;obtain ⟨n,_,rfl⟩:=List.mem_map.1 hr;rfl
theorem MU {H:AH} {v:AV} {b:List Int} (h:SlS 32 1 H v (b.map dH)) (hb:b.length<=1000) (L:AH):Ev aa C0 W0 32 [v] (H++L)=some (bu 1 b.length v (H.length+L.length),H++(L++bq 21 v (b.map fun x=>.int .i32 x))):=by have:=aeM h (B8 b) (by rw [ao]; exact VM hb) L;rwa [ao,zO] at this
theorem aal {H:AH} {l:List (List Int × AV)} {vm:AV} (hs:SlS 24 1 H vm (l.map fun p=>[p.2])) (hp:∀ p∈l,SlS 32 1 H p.2 (p.1.map dH)) (hn:l.length<=100) (hb:∀ p∈l,p.1.length<=1000) (L:AH) :
   Ev aa C0 W0 28 [vm] (H++L)=some (.slice (H.length+L.length) 0 1 l.length l.length true,H++(L++(.cells (du (H.length+L.length) l).1 32::(du (H.length+L.length) l).2))):=by
 have hlen0:∀ G,d4 aa 24 G vm=some (I l.length):=fun G=>by have:=hs.len G; rwa [ao] at this
 have hvc:=hs.cells;have hvo:=hs.one;have hms:=abU l.length (by omega) (H++L);generalize hN:H.length+L.length=N;rw [ai,hN] at hms;let HK:Nat->AH:=fun j=>H++(L++(.cells ((du N (l.take j)).1++au (l.length - j) .nilSlice) 32::(du N (l.take j)).2))
 let w:Nat->AV:=fun j=>(l.getD j ([],uA)).2
 let bb:Nat->List Int:=fun j=>(l.getD j ([],uA)).1
 let w':Nat->AV:=fun j=>bu 1 (bb j).length (w j) (N+1+(du N (l.take j)).2.length)
 let HK':Nat->AH:=fun j=>H++(L++(.cells ((du N (l.take j)).1++au (l.length - j) .nilSlice) 32::((du N (l.take j)).2++bq 21 (w j) ((bb j).map fun x=>.int .i32 x))))
 have hl:∀ j (hj:j < l.length),l.getD j ([],uA)=l[j]:=fun j hj=>by rw [gde,aj hj]; rfl
 have hix:∀ j,j < l.length->∃ i k,(∀ kk,aC aa 24 vm (.int kk (j:Int))=some (.ptr i k))/\ak (HK j) i k 1=some [w j]:=fun j hj=>by obtain ⟨i,k,h1,h2⟩:=hs.ix j [w j] (by rw [aO,aj hj]; show some [(l[j]).2]=some [(l.getD j ([],uA)).2]; rw [hl j hj]);exact ⟨i,k,h1,fJ (an.app H _) h2⟩
 have h32:∀ j,j < l.length->Ev aa C0 W0 32 [w j] (HK j)=some (w' j,HK' j):=fun j hj=>by
   have hmem:l.getD j ([],uA)∈l:=by rw [hl j hj]; exact List.getElem_mem _
   have:=MU (hp _ hmem) (hb _ hmem) (L++(.cells ((du N (l.take j)).1++au (l.length - j) .nilSlice) 32::(du N (l.take j)).2));rw [ai,List.length_cons,<-bN,hN,Nat.add_comm (du N (l.take j)).2.length 1,<-bN,aD,List.cons_append] at this;exact this
 have hc:∀ j,j < l.length->(w' j).cells=[w' j]:=fun j _=>(eL _ _ _ _).1;have hwr:∀ j,j < l.length->bj (HK' j) N j [w' j]=some (HK (j+1)):=fun j hj=>by
   have hml:(du N (l.take j)).1.length=j:=by rw [og,List.length_take,Nat.min_eq_left (Nat.le_of_lt hj)]
   have hg:(HK' j)[N]? =some (.cells ((du N (l.take j)).1++au (l.length - j) .nilSlice) 32):=by show (H++(L++_))[N]? =_;rw [<-hN,al (dI _ _),aN,al (aw _),d9]; rfl
   rw [AL hg (by rw [ai,hml,List.length_replicate]; omega) (eL _ _ _ _).2];congr 1;have ht:l.take (j+1)=l.take j++[l.getD j ([],uA)]:=by rw [ez,aj hj,hl j hj]; rfl
   show (H++(L++_)).set N _=H++(L++_);rw [<-hN,ll _ _ (dI _ _),aN,ll _ _ (aw _),d9,kK];rw [hN,ht,uR];show H++(L++_)=H++(L++(bm.cells ((_++[_])++_) 32::(_++_)));congr 3;rw [ll _ _ (by rw [hml]; exact aw _),hml,d9,show l.length - j=(l.length - (j+1))+1 by omega,List.replicate_succ,kK,aD]; rfl
 have hloop:=Ru (N:=N) hix h32 hc hwr (by omega) l.length 0;have hK0:HK 0=H++(L++[.cells (au l.length .nilSlice) 32]):=by show H++(L++(.cells ((du N (l.take 0)).1++_) 32::(du N (l.take 0)).2))=_;rw [List.take_zero]; rfl
 have hKn:HK l.length=H++(L++(.cells (du N l).1 32::(du N l).2)):=by show H++(L++(.cells ((du N (l.take l.length)).1++au (l.length - l.length) _) 32::(du N (l.take l.length)).2))=_;rw [gg,d9,List.replicate_zero,af]
 rw [<-hKn];rw [hK0] at hloop;rw [aD] at hms;clear_value HK HK' w w';generalize H++L=HL at *;obtain ⟨tm,ht,g0,g1⟩:=tm1 vm 23 (by decide);rw [adm,ht];generalize H++(L++[.cells (au l.length .nilSlice) 32])=H1 at *;simp -implicitDefEqProofs only [c28,f28,aP,g0,g1,hlen0,↓g9,hms,r5,↓ba,↓aG,aF,eu,sevalprocAttr];generalize hX:EvC aa C0 W0 _ (Code.loop _) _=Z;obtain ⟨X,he,x0,x3⟩:∃ X,Z=some (.exit 0,(X,HK l.length))/\X.length=23/\X.getD 3 uA=.slice N 0 1 l.length l.length true:=by
   rw [<-hX];refine hloop _ (by omega) (by omega) ?_ ?_ ?_ ?_ ?_
   · simp only [aq,g0]
   · simp only [g0,gB,sevalprocAttr]
   · simp only [g0,g1,gB,sevalprocAttr]
   · simp only [g0,gB,sevalprocAttr]
   · simp only [g0,gB,sevalprocAttr]; try rfl
 subst he;simp -implicitDefEqProofs only [x0,x3,↓aG,aF,eu,sevalprocAttr]
theorem yc (H:AH) (i k:Nat) (fb:Option AV):je .eql 37 (.ptr i k) .nilPtr H fb=some (.bool false):=by
 have h:eqA aa 37 H (.ptr i k) .nilPtr=some false:=by kernel_rfl
 unfold je; simp only [h]; try rfl
theorem R5 (H:AH) (i k e l c:Nat) (x:Bool) (fb:Option AV):je .eql 30 (.slice i k e l c x) .nilSlice H fb=some (.bool false):=by
 have h:eqA aa 30 H (.slice i k e l c x) .nilSlice=some false:=by kernel_rfl
 unfold je; simp only [h]; try rfl
theorem nck (i k:Nat):jt (.ptr i k)=some (.ptr i k):=rfl
theorem zzE:(type_of% @r5)/\(type_of% @nck)/\(type_of% @aF)/\(type_of% @eu):=⟨@r5,@nck,@aF,@eu⟩
theorem Q7 (i k:Nat) (kk:IntKind) (n:Int):aC aa 69 (.ptr i k) (.int kk n)=if 0<=n/\n < 16 then some (.ptr i (k+n.toNat * 1)) else none:=by kernel_rfl
theorem VD {G:AH} {q:Nat} {vc vm vs va:AV} {f:Con} {ss:List (List Itm)} {ad:List Nat} {m:List (List Int)} {rc:List Bool} (h:m6 G q vc vm vs va f ss ad m rc 0) (hN:ss.length < 2 ^ 60):∀ (d j:Nat) (tm:List AV) (K:AH) (Z:Option (bk × St)),EvC aa C0 W0 plN To (tm,K)=Z->ss.length - j=d->j<=ss.length->(tm.length=34/\an G K/\tm.getD 0 uA=.ptr q 0/\tm.getD 12 uA=vs/\tm.getD 13 uA=I ss.length/\tm.getD 14 uA=I ((j:Nat):Int)/\∃ v,tm.getD 3 uA=v/\Own G.length K 1 3 v ((ey ss ad j).map fun (n:Nat)=>I (n:Int))) ->
   ∃ X K1,Z=some (.exit 0,(X,K1))/\(X.length=34/\an G K1/\X.getD 0 uA=.ptr q 0/\X.getD 12 uA=vs/\X.getD 13 uA=I ss.length/\X.getD 14 uA=I ((ss.length:Nat):Int)/\∃ v,X.getD 3 uA=v/\Own G.length K1 1 3 v ((ey ss ad ss.length).map fun (n:Nat)=>I (n:Int))):=by
 intro d;induction d with
 | zero =>
   intro j tm K Z hZ hd hj hI;subst hZ;have hjl:j=ss.length:=by omega
   subst hjl;have hI0:=hI;obtain ⟨hlen,hA,h0,h12,h13,h14,v,h3,ho⟩:=hI;have hlt:ltB (((ss.length:Nat)):Int) (ss.length:Nat)=false:=cw (by omega);rw [N5];simp -implicitDefEqProofs only [Hk,f14,aP,hlen,h0,h12,h13,h14,h3,hlt,↓zzA,zzB,sevalprocAttr];refine ⟨_,K,rfl,?_⟩;exact ⟨by first | exact hlen | simp only [aq,hlen],hA,Aj4 (by simp only [hlen,h0,h12,h13,h14,gB,and_self,sevalprocAttr]) ⟨v,by simp only [hlen,h3,gB,sevalprocAttr],ho⟩⟩
 | succ d ih =>
   intro j tm K Z hZ hd hj hI;subst hZ;have hI0:=hI;obtain ⟨hlen,hA,h0,h12,h13,h14,v,h3,ho⟩:=hI;have hjN:j < ss.length:=by omega
   have hlt:ltB (j:Int) (ss.length:Nat)=true:=cu (by omega);have hw:=b6 (j:=j) (by omega);have hq10:∀ L,ak (K++L) q 10 1=some [va]:=fun L=>by have:=h.cell hA L 10 (x:=va) rfl; rwa [cZ] at this
   obtain ⟨i0,k0,w0,hix0,hrd0,hxs⟩:=h.s.at hA hjN;have hln:=hxs.len;obtain ⟨i1,k1,hix1,hrd1⟩:=h.at hA hjN;have hle:=h.le j hjN;have hn1:=hxs.n;have hsub:IntKind.i64.wrap (((aM ss j).length:Int) - ((ad.getD j 0:Nat):Int))=(((aM ss j).length - ad.getD j 0:Nat):Int):=by rw [pw (by omega)]; omega
   obtain ⟨v',K',happ,hA',ho',_⟩:=xc hA ho (by unfold ey; rw [ao,er]; have:=h.fs; omega) ((aM ss j).length - ad.getD j 0);rw [<-oX] at ho';rw [N5];rw [<-af K];simp -implicitDefEqProofs only [Hk,f14,aP,hlen,h0,h12,h13,h14,h3,hlt,hw,hq10,hix0,hrd0,hln,hix1,hrd1,hsub,RH,↓bS,↓fO,happ,↓zzC,zzE,sevalprocAttr];generalize hX:EvC aa C0 W0 _ _ _=Z;refine ih (j+1) _ _ _ hX (by omega) (by omega) ?_;exact ⟨by simp only [ls,hlen],hA',Aj4 (by simp only [hlen,h0,h12,h13,h14,gB,and_self,sevalprocAttr]) ⟨v',by simp only [hlen,h3,gB,sevalprocAttr],ho'⟩⟩
theorem aeY {G:AH} {q:Nat} {vc vm vs va:AV} {f:Con} {ss:List (List Itm)} {ad:List Nat} {m:List (List Int)} {rc:List Bool} (h:m6 G q vc vm vs va f ss ad m rc 0):∃ v K,Ev aa C0 W0 14 [.ptr q 0] G=some (v,K)/\an G K/\Own G.length K 1 3 v ((ey ss ad ss.length).map fun (n:Nat)=>I (n:Int)):=by
 obtain ⟨tm,ht,g0,g1⟩:=tm1 (.ptr q 0) 34 (by decide);rw [ady,ht];have hq9:ak G q 9 1=some [vs]:=by have:=h.cell (an.refl G) [] 9 (x:=vs) rfl; rwa [cZ,af] at this
 have hls:=h.s.len;simp -implicitDefEqProofs only [c14,f14,aP,g0,g1,↓yc,hq9,hls,↓zzC,zzE,sevalprocAttr];generalize hX:EvC aa C0 W0 _ (Code.loop _) _=Z;obtain ⟨X,K1,he,i0,iA,i1,i2,i3,i4,v,i5,io⟩:=VD h (by have:=h.fs; omega) _ 0 _ _ _ hX rfl (aV _) ⟨by simp only [ls,g0],an.refl G,Aj3 (by simp only [g0,g1,gB,and_self,sevalprocAttr]) ⟨by simp only [g0,gB,sevalprocAttr]; try rfl,.nilSlice,by simp only [g0,gB,sevalprocAttr],.nil⟩⟩;subst he;refine ⟨v,K1,?_,iA,io⟩;simp -implicitDefEqProofs only [aP,i0,i1,i5,↓zzA,zzB,sevalprocAttr]
theorem Kc {G:AH} {q:Nat} {vc vm vs va:AV} {f:Con} {ss:List (List Itm)} {ad:List Nat} {m:List (List Int)} {rc:List Bool} (h:m6 G q vc vm vs va f ss ad m rc 0) {K:AH} (hA:an G K) {j:Nat} (hjN:j < ss.length) {w0:AV} (hxs:eD G (aM ss j) w0) {tm:List AV} {R:Option (bk × St)} (hR:EvC aa C0 W0 Ba (aH [true,true,true,false,true,false,false,true,true,false,false,true,true,false] (f33.body.getD .skip)) (tm,K++[])=R) (hlen:tm.length=64) (h0:tm.getD 0 uA=.ptr q 0) (h5:tm.getD 5 uA=w0) (h6:tm.getD 6 uA=I ((ad.getD j 0:Nat):Int)) :
   ∃ tm',R=some (.normal,(tm',K++[]))/\tm'.length=64/\tm'.getD 57 uA=.bool (okS ss ad rc j)/\tm'.getD 0 uA=tm.getD 0 uA/\tm'.getD 3 uA=tm.getD 3 uA/\tm'.getD 4 uA=tm.getD 4 uA/\tm'.getD 20 uA=tm.getD 20 uA/\tm'.getD 21 uA=tm.getD 21 uA/\tm'.getD 22 uA=tm.getD 22 uA:=by
   subst hR;have hq10:∀ L,ak (K++L) q 10 1=some [va]:=fun L=>by have:=h.cell hA L 10 (x:=va) rfl; rwa [cZ] at this
   have hln:=hxs.len;cases p1:ltB ((ad.getD j 0:Nat):Int) ((aM ss j).length:Int) with
   | false =>rw [show okS ss ad rc j=false from by unfold okS; rw [p1,bd]; try rfl];simp -implicitDefEqProofs only [aH,f33,fE,hlen,h0,h5,h6,wQ,hln,hq10,p1,↓zzC,zzE,sevalprocAttr];exact ⟨_,rfl,by simp only [ls,hlen],by simp only [hlen,h0,gB,and_self,sevalprocAttr]⟩
   | true =>
     obtain ⟨i2,k2,w2,hix2,hrd2,_⟩:=hxs.at (an.refl G) (j:=ad.getD j 0) (by rw [dB] at p1; omega);have hrd2':∀ L,ak (K++L) i2 k2 9=some (aJ (bo (aM ss j) (ad.getD j 0)) w2):=fun L=>by have:=hrd2 []; rw [af] at this; exact fJ (hA.bX L) this
     have hk0:∀ L,ak (K++L) i2 k2 1=some [I (bo (aM ss j) (ad.getD j 0)).kind]:=fun L=>by have:=ku (hrd2' L) (j:=0) (x:=I (bo (aM ss j) (ad.getD j 0)).kind) rfl; rwa [Nat.add_zero] at this
     cases p2:eqB (bo (aM ss j) (ad.getD j 0)).kind 4 with
     | false =>rw [show okS ss ad rc j=true from by unfold okS; rw [p1,p2]; try rfl];simp -implicitDefEqProofs only [aH,f33,fE,hlen,h0,h5,h6,wQ,hln,hq10,p1,p2,hix2,hk0,↓zzC,zzE,sevalprocAttr];exact ⟨_,rfl,by simp only [ls,hlen],by simp only [hlen,h0,gB,and_self,sevalprocAttr]⟩
     | true =>
       have hk6:∀ L,ak (K++L) i2 (k2+6) 1=some [I (bo (aM ss j) (ad.getD j 0)).ev]:=fun L=>ku (hrd2' L) (j:=6) rfl;have hev:=h.ev _ (gG hjN) _ (fA (by rw [dB] at p1; omega)) (.inr ((cP _ _).1 p2));have hix3:∀ kk,aC aa 69 (.ptr q 11) (.int kk (bo (aM ss j) (ad.getD j 0)).ev)=some (.ptr q (11+(bo (aM ss j) (ad.getD j 0)).ev.toNat)):=fun kk=>by rw [Q7,if_pos hev,dM]
       have hrc:∀ L,ak (K++L) q (11+(bo (aM ss j) (ad.getD j 0)).ev.toNat) 1=some [.bool (rc.getD (bo (aM ss j) (ad.getD j 0)).ev.toNat false)]:=fun L=>by have:=h.cell hA L (11+(bo (aM ss j) (ad.getD j 0)).ev.toNat) (Py h.lr (by omega));rwa [cZ] at this
       cases p3:rc.getD (bo (aM ss j) (ad.getD j 0)).ev.toNat false with
       | true =>rw [show okS ss ad rc j=true from by unfold okS; rw [p1,p2,p3]; try rfl];simp -implicitDefEqProofs only [aH,f33,fE,hlen,h0,h5,h6,wQ,hln,hq10,p1,p2,p3,hix2,hk0,hk6,hix3,hrc,↓zzC,zzE,sevalprocAttr];exact ⟨_,rfl,by simp only [ls,hlen],by simp only [hlen,h0,gB,and_self,sevalprocAttr]⟩
       | false =>rw [show okS ss ad rc j=false from by unfold okS; rw [p1,p2,p3]; try rfl];simp -implicitDefEqProofs only [aH,f33,fE,hlen,h0,h5,h6,wQ,hln,hq10,p1,p2,p3,hix2,hk0,hk6,hix3,hrc,↓zzC,zzE,sevalprocAttr];exact ⟨_,rfl,by simp only [ls,hlen],by simp only [hlen,h0,gB,and_self,sevalprocAttr]⟩
theorem PG {G:AH} {q:Nat} {vc vm vs va:AV} {f:Con} {ss:List (List Itm)} {ad:List Nat} {m:List (List Int)} {rc:List Bool} (h:m6 G q vc vm vs va f ss ad m rc 0) (hN:ss.length < 2 ^ 60):∀ (d j:Nat) (tm:List AV) (K:AH) (Z:Option (bk × St)),EvC aa C0 W0 Ba SQ (tm,K)=Z->ss.length - j=d->j<=ss.length->(tm.length=64/\an G K/\tm.getD 0 uA=.ptr q 0/\tm.getD 20 uA=vs/\tm.getD 21 uA=I ss.length/\tm.getD 22 uA=I ((j:Nat):Int)/\∃ v,tm.getD 3 uA=v/\Own G.length K 1 3 v ((cO ss ad rc j).map fun (n:Nat)=>I (n:Int))) ->
   ∃ X K1,Z=some (.exit 0,(X,K1))/\(X.length=64/\an G K1/\X.getD 0 uA=.ptr q 0/\X.getD 20 uA=vs/\X.getD 21 uA=I ss.length/\X.getD 22 uA=I ((ss.length:Nat):Int)/\∃ v,X.getD 3 uA=v/\Own G.length K1 1 3 v ((cO ss ad rc ss.length).map fun (n:Nat)=>I (n:Int))):=by
 intro d;induction d with
 | zero =>
   intro j tm K Z hZ hd hj hI;subst hZ;have hjl:j=ss.length:=by omega
   subst hjl;have hI0:=hI;obtain ⟨hlen,hA,h0,h20,h21,h22,v,h3,ho⟩:=hI;have hlt:ltB (((ss.length:Nat)):Int) (ss.length:Nat)=false:=cw (by omega);rw [Nx];simp -implicitDefEqProofs only [GU,f33,aP,hlen,h0,h20,h21,h22,h3,hlt,↓zzA,zzB,sevalprocAttr];refine ⟨_,K,rfl,?_⟩;exact ⟨by first | exact hlen | simp only [aq,hlen],hA,Aj4 (by simp only [hlen,h0,h20,h21,h22,gB,and_self,sevalprocAttr]) ⟨v,by simp only [hlen,h3,gB,sevalprocAttr],ho⟩⟩
 | succ d ih =>
   intro j tm K Z hZ hd hj hI;subst hZ;have hI0:=hI;obtain ⟨hlen,hA,h0,h20,h21,h22,v,h3,ho⟩:=hI;have hjN:j < ss.length:=by omega
   have hlt:ltB (j:Int) (ss.length:Nat)=true:=cu (by omega);have hw:=b6 (j:=j) (by omega);have hq10:∀ L,ak (K++L) q 10 1=some [va]:=fun L=>by have:=h.cell hA L 10 (x:=va) rfl; rwa [cZ] at this
   obtain ⟨i0,k0,w0,hix0,hrd0,hxs⟩:=h.s.at hA hjN;have hln:=hxs.len;obtain ⟨i1,k1,hix1,hrd1⟩:=h.at hA hjN;have hle:=h.le j hjN;have hn1:=hxs.n;obtain ⟨v',K',happ,hA',ho',_⟩:=xc hA ho (by have:=oJ ss ad rc j; have:=h.fs; omega) j;rw [Nx];rw [<-af K];simp -implicitDefEqProofs only [GU,f33,aP,hlen,h0,h20,h21,h22,h3,hlt,hw,hq10,hix0,hrd0,hln,hix1,hrd1,↓zzC,zzE,sevalprocAttr];generalize hR:EvC aa C0 W0 _ (Code.region _ _ _) _=R;obtain ⟨t,he,tl,t57,t0,t3,t4,t20,t21,t22⟩:=Kc h hA hjN hxs hR (by simp only [ls,hlen]) (by simp only [hlen,h0,gB,sevalprocAttr]) (by simp only [hlen,gB,sevalprocAttr]) (by simp only [hlen,gB,sevalprocAttr]);subst he;simp only [hlen,h0,h3,h20,h21,h22,gB,sevalprocAttr] at t0 t3 t4 t20 t21 t22;cases hok:okS ss ad rc j with
   | true =>
     simp -implicitDefEqProofs only [tl,t57,t0,t3,t4,t20,t21,t22,hw,hok,RH,↓bS,happ,↓zzA,zzB,sevalprocAttr];generalize hX:EvC aa C0 W0 _ _ _=Z;refine ih (j+1) _ _ _ hX (by omega) (by omega) ?_;try simp only [af]
     exact ⟨by first | exact tl | simp only [aq,tl],hA',Aj4 (by simp only [tl,t0,t20,t21,t22,gB,and_self,sevalprocAttr]) ⟨v',by simp only [tl,t3,gB,sevalprocAttr],by rw [jZ,hok,if_pos rfl]; exact ho'⟩⟩
   | false =>
     simp -implicitDefEqProofs only [tl,t57,t0,t3,t4,t20,t21,t22,hw,hok,↓zzA,zzB,sevalprocAttr];generalize hX:EvC aa C0 W0 _ _ _=Z;refine ih (j+1) _ _ _ hX (by omega) (by omega) ?_;try simp only [af]
     exact ⟨by first | exact tl | simp only [aq,tl],hA,Aj4 (by simp only [tl,t0,t20,t21,t22,gB,and_self,sevalprocAttr]) ⟨v,by simp only [tl,t3,gB,sevalprocAttr],by rw [jZ,hok]; exact ho⟩⟩
theorem V2 {G:AH} {q:Nat} {vc vm vs va:AV} {f:Con} {ss:List (List Itm)} {ad:List Nat} {m:List (List Int)} {rc:List Bool} (h:m6 G q vc vm vs va f ss ad m rc 0):∃ v K,Ev aa C0 W0 33 [.ptr q 0] G=some (v,K)/\an G K/\Own G.length K 1 3 v ((cO ss ad rc ss.length).map fun (n:Nat)=>I (n:Int)):=by
 obtain ⟨tm,ht,g0,g1⟩:=tm1 (.ptr q 0) 64 (by decide);rw [adl,ht];have hq9:ak G q 9 1=some [vs]:=by have:=h.cell (an.refl G) [] 9 (x:=vs) rfl; rwa [cZ,af] at this
 have hq27:ak G q 27 1=some [I 0]:=by have:=h.cell (an.refl G) [] 27 (FO h.lr); rwa [cZ,af] at this
 have hls:=h.s.len;have e0:eqB 0 0=true:=rfl;simp -implicitDefEqProofs only [c33,f33,aP,g0,g1,↓yc,hq9,hq27,e0,hls,↓zzC,zzE,sevalprocAttr];generalize hX:EvC aa C0 W0 _ (Code.loop _) _=Z;obtain ⟨X,K1,he,i0,iA,i1,i2,i3,i4,v,i5,io⟩:=PG h (by have:=h.fs; omega) _ 0 _ _ _ hX rfl (aV _) ⟨by simp only [ls,g0],an.refl G,Aj3 (by simp only [g0,g1,gB,and_self,sevalprocAttr]) ⟨by simp only [g0,gB,sevalprocAttr]; try rfl,.nilSlice,by simp only [g0,gB,sevalprocAttr],.nil⟩⟩;subst he;refine ⟨v,K1,?_,iA,io⟩;simp -implicitDefEqProofs only [aP,i0,i1,i5,↓zzA,zzB,sevalprocAttr]
theorem ints_at {H K:AH} {v:AV} {l:List Nat} (hs:SlS 30 1 H v (ints l)) (hA:an H K) {j:Nat} (hj:j < l.length):∃ i k,(∀ kk,aC aa 30 v (.int kk (j:Int))=some (.ptr i k))/\∀ L,ak (K++L) i k 1=some [I ((l.getD j 0:Nat):Int)]:=by obtain ⟨i,k,hi,hr⟩:=hs.ix j [I ((l.getD j 0:Nat):Int)] (by unfold ints;rw [aO,aj hj,gde,aj hj]; rfl);exact ⟨i,k,hi,fun L=>iH hr hA L⟩
theorem iZ {H:AH} {v:AV} {l:List Nat} (hs:SlS 30 1 H v (ints l)) (G:AH):d4 aa 30 G v=some (I l.length):=by have:=hs.len G;unfold ints at this;rwa [ao] at this
theorem rN (l:List Nat) {j:Nat} (hj:j < l.length):(l.take (j+1)).sum=(l.take j).sum+l.getD j 0:=by rw [ez,aj hj,List.sum_append,gde,aj hj]; simp
theorem XM {G:AH} {v:AV} {l:List Nat} (hs:SlS 30 1 G v (ints l)) (hb:l.sum < 2 ^ 40) (hN:l.length < 2 ^ 60):∀ (d j:Nat) (tm:List AV) (K:AH) (Z:Option (bk × St)),EvC aa C0 W0 plN SP (tm,K)=Z->l.length - j=d->j<=l.length->(tm.length=18/\an G K/\tm.getD 7 uA=v/\tm.getD 8 uA=I l.length/\tm.getD 9 uA=I ((j:Nat):Int)/\tm.getD 3 uA=I (((l.take j).sum:Nat):Int)) ->
   ∃ X K1,Z=some (.exit 0,(X,K1))/\(X.length=18/\an G K1/\X.getD 7 uA=v/\X.getD 8 uA=I l.length/\X.getD 9 uA=I ((l.length:Nat):Int)/\X.getD 3 uA=I (((l.take l.length).sum:Nat):Int)):=by
 intro d;induction d with
 | zero =>
   intro j tm K Z hZ hd hj hI;subst hZ;have hjl:j=l.length:=by omega
   subst hjl;have hI0:=hI;obtain ⟨hlen,hA,h7,h8,h9,h3⟩:=hI;have hlt:ltB (((l.length:Nat)):Int) (l.length:Nat)=false:=cw (by omega);rw [Nv];simp -implicitDefEqProofs only [GR,f36,aP,hlen,h7,h8,h9,h3,hlt,↓zzA,zzB,sevalprocAttr];refine ⟨_,K,rfl,?_⟩;exact ⟨by first | exact hlen | simp only [aq,hlen],hA,by simp only [hlen,h7,h8,h9,h3,gB,and_self,sevalprocAttr]⟩
 | succ d ih =>
   intro j tm K Z hZ hd hj hI;subst hZ;have hI0:=hI;obtain ⟨hlen,hA,h7,h8,h9,h3⟩:=hI;have hjN:j < l.length:=by omega
   have hlt:ltB (j:Int) (l.length:Nat)=true:=cu (by omega);have hw:=b6 (j:=j) (by omega);obtain ⟨i,k,hix,hrd⟩:=ints_at hs hA hjN;have hsum:=rN l hjN;have hle:=vJ l (j+1);have hadd:IntKind.i64.wrap ((((l.take j).sum:Nat):Int)+((l.getD j 0:Nat):Int))=(((l.take (j+1)).sum:Nat):Int):=by rw [pw (by omega)]; omega
   rw [Nv];rw [<-af K];simp -implicitDefEqProofs only [GR,f36,aP,hlen,h7,h8,h9,h3,hlt,hw,hix,hrd,hadd,↓zzC,zzE,sevalprocAttr];generalize hX:EvC aa C0 W0 _ _ _=Z;refine ih (j+1) _ _ _ hX (by omega) (by omega) ?_;simp only [af];exact ⟨by first | exact hlen | simp only [aq,hlen],hA,by simp only [hlen,h7,h8,h9,hadd,gB,and_self,sevalprocAttr]⟩
theorem aeK {G:AH} {q:Nat} {vc vm vs va:AV} {f:Con} {ss:List (List Itm)} {ad:List Nat} {m:List (List Int)} {rc:List Bool} (h:m6 G q vc vm vs va f ss ad m rc 0):Ev aa C0 W0 36 [.ptr q 0] G=some (I ((ey ss ad ss.length).sum:Nat),G):=by
 obtain ⟨tm,ht,g0,g1⟩:=tm1 (.ptr q 0) 18 (by decide);rw [adj,ht];rw [<-af (ro G)];obtain ⟨v,K,he,hA,ho⟩:=aeY (h.ro.aZ (an.app (ro G) []));have hs:=ho.ints;have hln:=iZ hs;have hsum:=yu ss ad;have hfew:=h.few;have hlen:(ey ss ad ss.length).length=ss.length:=by unfold ey; rw [ao,er]
 have hfs:=h.fs;simp -implicitDefEqProofs only [c36,f36,aP,g0,g1,↓ad3,he,hln,↓zzC,zzE,sevalprocAttr];generalize hX:EvC aa C0 W0 _ (Code.loop _) _=Z;obtain ⟨X,K1,he1,i0,iA,i1,i2,i3,i4⟩:=XM hs (by omega) (by omega) _ 0 _ _ _ hX rfl (aV _) ⟨by simp only [ls,g0],an.refl K,Aj2 (by simp only [g0,gB,and_self,sevalprocAttr]) ⟨by simp only [g0,gB,sevalprocAttr]; try rfl,by simp only [g0,gB,sevalprocAttr]; try rfl⟩⟩;subst he1;rw [gg] at i4;simp -implicitDefEqProofs only [aP,i0,i4,↓zzA,zzB,sevalprocAttr]
def kV (ss:List (List Itm)) (ad:List Nat) (rc:List Bool):Bool:=(ey ss ad ss.length).sum == 0 || (cO ss ad rc ss.length).isEmpty
def vr (ss:List (List Itm)) (ad:List Nat) (rc:List Bool):Int:=if (ey ss ad ss.length).sum=0 then 0 else if (cO ss ad rc ss.length)=[] then 11 else 0
theorem Rl {G:AH} {q:Nat} {vc vm vs va:AV} {f:Con} {ss:List (List Itm)} {ad:List Nat} {m:List (List Int)} {rc:List Bool} (h:m6 G q vc vm vs va f ss ad m rc 0):Ev aa C0 W0 12 [.ptr q 0] G=some (.tuple [.bool (kV ss ad rc),I (vr ss ad rc)],G):=by
 obtain ⟨tm,ht,g0,g1⟩:=tm1 (.ptr q 0) 33 (by decide);rw [adA,ht];rw [<-af (ro G)];have hr:=h.ro;have hq10:∀ L,ak (ro G++L) q 10 1=some [va]:=fun L=>by have:=hr.cell (an.refl _) L 10 (x:=va) rfl; rwa [cZ] at this
 have hq27:∀ L,ak (ro G++L) q 27 1=some [I 0]:=fun L=>by have:=hr.cell (an.refl _) L 27 (FO h.lr); rwa [cZ] at this
 have e0:eqB 0 0=true:=rfl;have h36:=aeK (hr.aZ (an.app (ro G) []));obtain ⟨v,K,he,hA,ho⟩:=V2 (hr.aZ (an.app (ro G) []));have hln:=iZ ho.ints;obtain ⟨i,k,c,e,hva⟩:=h.nn;have hnil:∀ H fb,je .eql 30 va .nilSlice H fb=some (.bool false):=fun H fb=>by rw [hva,R5]
 unfold kV vr;cases c0:eqB (((ey ss ad ss.length).sum:Nat):Int) 0 with
 | true =>
   have z0:(ey ss ad ss.length).sum=0:=by rw [cP] at c0; omega
   simp only [z0,if_true];rw [z0] at h36 c0;simp -implicitDefEqProofs only [c12,f12,aP,g0,g1,↓yc,hq10,hq27,e0,↓hnil,↓VT,h36,c0,↓zzC,zzE,sevalprocAttr];try rfl
 | false =>
   have z0:(ey ss ad ss.length).sum≠0:=by rw [qe] at c0; omega
   cases c1:eqB (((cO ss ad rc ss.length).length:Nat):Int) 0 with
   | true =>have z1:cO ss ad rc ss.length=[]:=List.length_eq_zero_iff.1 (by rw [cP] at c1; omega);rw [if_neg z0,if_pos z1,show ((ey ss ad ss.length).sum == 0 || (cO ss ad rc ss.length).isEmpty)=true by rw [z1]; simp];simp -implicitDefEqProofs only [c12,f12,aP,g0,g1,↓yc,hq10,hq27,e0,↓hnil,↓VT,h36,c0,↓Rj,he,hln,c1,↓zzC,zzE,sevalprocAttr]
   | false =>
     have z1:cO ss ad rc ss.length≠[]:=fun e=>by rw [e] at c1; cases c1
     rw [if_neg z0,if_neg z1,show ((ey ss ad ss.length).sum == 0 || (cO ss ad rc ss.length).isEmpty)=false by rw [Bool.or_eq_false_iff]; exact ⟨by simpa using z0,by simpa using z1⟩];simp -implicitDefEqProofs only [c12,f12,aP,g0,g1,↓yc,hq10,hq27,e0,↓hnil,↓VT,h36,c0,↓Rj,he,hln,c1,↓zzC,zzE,sevalprocAttr]
def zA (l:List Nat) (n:Int):Bool:=!ck (fun j=>!eqB n ((l.getD j 0:Nat):Int)) l.length 0
theorem yH (l:List Nat) (s:Nat):zA l s=true↔s∈l:=by
 unfold zA;rw [bl,<-Bool.not_eq_true,gz];constructor
 · intro h;apply Classical.byContradiction;intro hn;refine h fun j hj=>?_;rw [bl,qe];intro e;refine hn (lY.2 ⟨j,hj,?_⟩);rw [gde,aj hj] at e;exact (Int.ofNat_inj.1 e).symm
 · intro h hn;obtain ⟨j,hj,e⟩:=lY.1 h;have:=hn j hj;rw [bl,qe,gde,aj hj] at this;exact this (by rw [<-e]; rfl)
theorem Q5 {H:AH} {v:AV} {l:List Nat} {n:Int} (hs:SlS 30 1 H v (ints l)) (hN:l.length < 2 ^ 60):∀ (d j:Nat) (tm:List AV) (K:AH) (Z:Option (bk × St)),EvC aa C0 W0 plN Sq (tm,K)=Z->l.length - j=d->j<=l.length->an H K->tm.length=19->tm.getD 0 uA=v->tm.getD 1 uA=I n->tm.getD 7 uA=I l.length->tm.getD 8 uA=I ((j:Nat):Int) ->
   ∃ X Y K1 K2,Z=br (ck (fun j=>!eqB n ((l.getD j 0:Nat):Int)) (l.length) (j)) (some (.exit 0,(X,K1))) (some (.ret,(Y,K2)))/\(X.length=19/\an H K1/\X.getD 0 uA=v/\X.getD 1 uA=I n/\X.getD 7 uA=I l.length)/\Y.length=19/\∃ r:Int,0<=r/\Y.getD 4 uA=I r:=by
 intro d;induction d with
 | zero =>
   intro j tm K Z hZ hd hj hA hlen h0 h1 h7 h8;subst hZ;have hjl:j=l.length:=by omega
   subst hjl;have hlt:ltB (((l.length:Nat)):Int) (l.length:Nat)=false:=cw (by omega);rw [dk (aw _),M1];simp -implicitDefEqProofs only [Dl,f92,aP,hlen,h0,h1,h7,h8,hlt,↓zzA,zzB,sevalprocAttr];exact ⟨_,tm.set 4 (I 0),_,K,rfl,⟨by first | exact hlen | simp only [aq,hlen],hA,by first | exact h0 | simp only [hlen,h0,gB,sevalprocAttr],by first | exact h1 | simp only [hlen,h1,gB,sevalprocAttr],by first | exact h7 | simp only [hlen,h7,gB,sevalprocAttr]⟩,by simp only [ls,hlen],⟨0,Int.le_refl _,by simp only [hlen,dK,Nat.reduceLT]⟩⟩
 | succ d ih =>
   intro j tm K Z hZ hd hj hA hlen h0 h1 h7 h8;subst hZ;have hjN:j < l.length:=by omega
   have hlt:ltB (j:Int) (l.length:Nat)=true:=cu (by omega);have hw:=b6 (j:=j) (by omega);obtain ⟨i,k,hix,hrd⟩:=ints_at hs hA hjN;rw [cK hjN,M1];rw [<-af K];cases hp:(!eqB n ((l.getD j 0:Nat):Int)) with
   | true =>simp only [Bool.true_and];rw [bl] at hp;simp -implicitDefEqProofs only [Dl,f92,aP,hlen,h0,h1,h7,h8,hlt,hw,hix,hrd,hp,↓zzC,zzE,sevalprocAttr];exact ih (j+1) _ _ _ rfl (by omega) (by omega) (by first | exact hA | exact hA.bX _ | exact (hA.bX _).bX _) (by simp only [ls,hlen]) (by simp only [hlen,h0,gB,sevalprocAttr]) (by simp only [hlen,h1,gB,sevalprocAttr]) (by simp only [hlen,h7,gB,sevalprocAttr]) (by simp only [hlen,h8,gB,sevalprocAttr])
   | false =>simp only [bd];rw [Bool.not_eq_false'] at hp;simp -implicitDefEqProofs only [Dl,f92,aP,hlen,h0,h1,h7,h8,hlt,hw,hix,hrd,hp,↓zzC,zzE,sevalprocAttr];exact ⟨tm,_,K,_,rfl,⟨hlen,hA,h0,h1,h7⟩,by simp only [ls,hlen],⟨_,Int.natCast_nonneg j,by simp only [hlen,gB,sevalprocAttr]⟩⟩
theorem ad8 {H:AH} {v:AV} {l:List Nat} (hs:SlS 30 1 H v (ints l)) (hn:l.length < 2 ^ 40) (n:Int):∃ r,Ev aa C0 W0 92 [v,I n] H=some (I r,H)/\leB 0 r=zA l n:=by
 obtain ⟨tm,ht,g0,g1,g2⟩:=tm2 v (I n) 19 (by decide);rw [acv,ht];rw [<-af (ro H)];have hl:=iZ hs.ro;unfold zA;simp -implicitDefEqProofs only [c92,f92,aP,g0,g1,g2,hl,↓zzC,zzE,sevalprocAttr];generalize hX:EvC aa C0 W0 _ (Code.loop _) _=Z;obtain ⟨X,Y,K1,K2,he,xs,y0,y1⟩:=Q5 hs.ro (by omega) _ 0 _ _ _ hX rfl (aV _) (an.app _ _) (by simp only [ls,g0]) (by simp only [g0,g1,gB,sevalprocAttr]; try rfl) (by simp only [g0,g2,gB,sevalprocAttr]; try rfl) (by simp only [g0,gB,sevalprocAttr]; try rfl) (by simp only [g0,gB,sevalprocAttr]; try rfl);subst he;obtain ⟨r,hr0,hr⟩:=y1;cases hf:ck (fun j=>!eqB n ((l.getD j 0:Nat):Int)) l.length 0 with
 | true =>refine ⟨-1,?_,rfl⟩;simp -implicitDefEqProofs only [xs.1,hf,↓zzA,zzB,sevalprocAttr]
 | false =>refine ⟨r,?_,by rw [(dC _ _).2 hr0]; rfl⟩;simp -implicitDefEqProofs only [y0,hr,hf,↓zzA,zzB,sevalprocAttr]
theorem aac {H:AH} {v:AV} {l:List Nat} (hs:SlS 30 1 H v (ints l)) (hn:l.length < 2 ^ 40) (n:Int):Ev aa C0 W0 63 [v,I n] H=some (.bool (zA l n),H):=by obtain ⟨tm,ht,g0,g1,g2⟩:=tm2 v (I n) 9 (by decide);rw [acU,ht];rw [<-af (ro H)];obtain ⟨r,hr,hb⟩:=ad8 (hs.ro.same (an.app (ro H) [])) hn n;simp -implicitDefEqProofs only [c63,f63,aP,g0,g1,g2,↓adC,hr,hb,↓zzC,zzE,sevalprocAttr]
end Go.Dv
