/- Part 41 of the walks (own work). -/
import Derived.Test.YtilpjnckfkjkbaaGreatDoorU40
open List renaming any_cons→cW,any_nil→dz,any_toArray→cj,any_toArray'→dn,append_nil→af,getElem?_append_right→al,getElem?_eq_getElem→aj,length→ew,length_append→ai,length_map→ao,length_range→er,replicate_succ→cQ,replicate_zero→cG,size_toArray→dm
open Nat renaming add_assoc→bN,add_sub_cancel_left→aN,zero_add→cZ,zero_le→aV
open Go.Proofs.Tryz renaming prog→aa
set_option maxRecDepth 100000
set_option maxHeartbeats 4000000
set_option linter.unusedSimpArgs false
set_option linter.unusedVariables false
open Go.Proofs.Tryz (f54 f80 f83)
namespace Go.Dv
open Go.Proofs
attribute [local congr] aA bC aT bB bD
def iN (vs:AV) (db n:Nat) (rc:List Bool):List AV:=[.nilSlice,.nilSlice,vs,I 0,.bool false,I 0,I 0,I 0,I 0,I 0,slN db n]++rc.map AV.bool++[I 0]
structure RqV (H:AH) (q db:Nat) (vs:AV) (ss:List (List Itm)) (ad:List Nat) (rc:List Bool):Prop where
 ob:H[q]? =some (.cells (iN vs db ss.length rc) 146)
 s:cT H ss vs
 a:hU H db ad
 la:ad.length=ss.length
 le:∀ i,i < ss.length->ad.getD i 0<=(aM ss i).length
 lr:rc.length=16
 ev:∀ l∈ss,∀ x∈l,(x.kind=3∨x.kind=4)/\0<=x.ev/\x.ev < 16
 few:(ss.map ew).sum<=24
 fs:ss.length<=4
theorem RqV.aZ {H K:AH} {q db:Nat} {vs:AV} {ss:List (List Itm)} {ad:List Nat} {rc:List Bool} (h:RqV H q db vs ss ad rc) (hA:an H K):RqV K q db vs ss ad rc:=
 { h with ob:=hA.get h.ob,s:=h.s.aZ hA,a:=hA.get h.a }
structure RqW (H:AH) (q db:Nat) (vs:AV) (ss:List (List Itm)) (ad:List Nat) (rc:List Bool):Prop where
 row:ak H q 0 28=some (iN vs db ss.length rc)
 s:cT H ss vs
 a:∀ j,j < ss.length->ak H db j 1=some [I ((ad.getD j 0:Nat):Int)]
 le:∀ i,i < ss.length->ad.getD i 0<=(aM ss i).length
 lr:rc.length=16
 ev:∀ l∈ss,∀ x∈l,(x.kind=3∨x.kind=4)/\0<=x.ev/\x.ev < 16
 few:(ss.map ew).sum<=24
 fs:ss.length<=4
theorem RqW.aZ {H K:AH} {q db:Nat} {vs:AV} {ss:List (List Itm)} {ad:List Nat} {rc:List Bool} (h:RqW H q db vs ss ad rc) (hA:an H K):RqW K q db vs ss ad rc:=
 { h with row:=fJ hA h.row,s:=h.s.aZ hA,a:=fun j hj=>fJ hA (h.a j hj) }
theorem RqW.ro {H:AH} {q db:Nat} {vs:AV} {ss:List (List Itm)} {ad:List Nat} {rc:List Bool} (h:RqW H q db vs ss ad rc):RqW (ro H) q db vs ss ad rc:=
 { h with row:=s5 h.row,s:=h.s.ro,a:=fun j hj=>s5 (h.a j hj) }
theorem zN {vs:AV} {db n:Nat} {rc:List Bool} (h:rc.length=16):(iN vs db n rc).length=28:=by unfold iN;simp [h]
theorem RqV.view {H:AH} {q db:Nat} {vs:AV} {ss:List (List Itm)} {ad:List Nat} {rc:List Bool} (h:RqV H q db vs ss ad rc):RqW H q db vs ss ad rc:=
 { row:=oL h.ob (zN h.lr),s:=h.s,a:=fun j hj=>(show hU H db ad from h.a).rd (by rw [h.la]; exact hj),le:=h.le,lr:=h.lr,ev:=h.ev,few:=h.few,fs:=h.fs }
theorem RqW.cell {H K:AH} {q db:Nat} {vs:AV} {ss:List (List Itm)} {ad:List Nat} {rc:List Bool} (h:RqW H q db vs ss ad rc) (hA:an H K) (L:AH) (j:Nat) {x:AV} (hx:(iN vs db ss.length rc)[j]? =some x):ak (K++L) q j 1=some [x]:=by have:=ku h.row hx;rw [cZ] at this;exact fJ (hA.bX L) this
theorem RqV.cell {H K:AH} {q db:Nat} {vs:AV} {ss:List (List Itm)} {ad:List Nat} {rc:List Bool} (h:RqV H q db vs ss ad rc) (hA:an H K) (L:AH) (j:Nat) {x:AV} (hx:(iN vs db ss.length rc)[j]? =some x):ak (K++L) q j 1=some [x]:=h.view.cell hA L j hx
theorem JS {vs:AV} {db n:Nat} {rc:List Bool} (hr:rc.length=16) {e:Nat} (he:e < 16):(iN vs db n rc)[11+e]? =some (.bool (rc.getD e false)):=by unfold iN;rw [List.getElem?_append_left (by simp [hr]; omega),al (by simp),List.getElem?_map];simp only [List.length_cons,List.length_nil,cZ,Nat.reduceAdd,aN];rw [aj (by omega),gde,aj (by omega)]; rfl
theorem B7 {vs:AV} {db n:Nat} {rc:List Bool} (hr:rc.length=16):(iN vs db n rc)[27]? =some (I 0):=by unfold iN;rw [al (by simp [hr])];simp [hr]
theorem nD (i k:Nat):aL aa 146 (.ptr i k) 2=some (.ptr i (k+2)):=by kernel_rfl
theorem o4 (i k:Nat):aL aa 146 (.ptr i k) 4=some (.ptr i (k+10)):=by kernel_rfl
theorem BA (i k:Nat):aL aa 146 (.ptr i k) 5=some (.ptr i (k+11)):=by kernel_rfl
theorem tP (i k:Nat):aL aa 146 (.ptr i k) 6=some (.ptr i (k+27)):=by kernel_rfl
theorem Ih {G K K':AH} {v:AV} {xs:List AV} {es:Nat} {elem:TypeId} (hA:an G K) (ho:Own G.length K es elem v xs) (h:∀ c,c < K.length->cF v≠some c->K'[c]? =K[c]?):an G K':=fun j hj=>by
 rw [h j (Nat.lt_of_lt_of_le hj hA.len) (fun e=>?_),hA j hj]
 cases ho with
 | nil=>cases e
 | «at» i k len cap ex cs xs hb hi hl hc hx=>cases e; omega
theorem JZ {G:AH} {q db:Nat} {vs:AV} {ss:List (List Itm)} {ad:List Nat} {rc:List Bool} (h:RqW G q db vs ss ad rc) {K:AH} (hA:an G K) {j:Nat} (hj:j < ss.length) {v:AV} (ho:Own G.length K 1 3 v ((ey ss ad j).map fun (n:Nat)=>I (n:Int))) {tm:List AV} (hlen:tm.length=34) (h0:tm.getD 0 uA=.ptr q 0) (h3:tm.getD 3 uA=v) (h4:tm.getD 4 uA=I (j:Int)) {R:Option (bk × St)} (hR:EvC aa C0 W0 zx (aH [true,true,false,true,false,false,true,false,false] c83) (tm,K)=R):∃ tm' v' K',R=some (.normal,(tm',K'))/\an G K'/\Own G.length K' 1 3 v' ((ey ss ad (j+1)).map fun (n:Nat)=>I (n:Int))/\tm'.length=34/\tm'.getD 0 uA=.ptr q 0/\tm'.getD 3 uA=v'/\tm'.getD 4 uA=I (j:Int):=by
 subst hR;have hq2:=fun L=>h.cell hA L 2 (x:=vs) rfl;have hq10:=fun L=>h.cell hA L 10 (x:=slN db ss.length) rfl;obtain ⟨i0,k0,w0,hix,hrd,hx⟩:=h.s.at hA hj;have hln:=hx.len;have hxd:=fun kk=>ixN (N:=ss.length) db hj kk;have hra:=fun L=>fJ (hA.bX L) (h.a j hj);have hle:=h.le j hj;have hn1:=hx.n;have hsub:IntKind.i64.wrap (((aM ss j).length:Int) - ((ad.getD j 0:Nat):Int))=(((aM ss j).length - ad.getD j 0:Nat):Int):=by rw [pw (by omega)]; omega
 have hll:=ho.length;have hfs:=h.fs;rw [ao,ey,ao,er] at hll;obtain ⟨v',K',happ,ho',hl',hfr,_⟩:=DO I6 (by decide) rfl hA.len ho (new:=[I (((aM ss j).length - ad.getD j 0:Nat):Int)]) rfl rfl (gY b3' (by omega)) 18 17 [.fresh,.fresh,.fresh,.fresh,.fresh,.fresh,.fresh,.fresh,.fresh,.fresh,.fresh,.fresh,.fresh,.fresh,.fresh,.fresh,.fresh,.cells [I (((aM ss j).length - ad.getD j 0:Nat):Int)] 3,.fresh,.fresh] rfl rfl;simp -implicitDefEqProofs only [c83,f83,aP,hlen,h0,h3,h4,hq2,hq10,hix,hrd,hln,hxd,hra,hsub,yV,↓bS,↓fO,happ,nD,o4,↓cD PT,Ld,dn,cj,cW,dz,bZ,dm,cQ,cG,↓dW,↓dS,↓gK,↓eP,↓dU,↓eR,↓da,↓dX,↓bP,↓bz,↓cg,↓eT,↓de,↓dY,↓bR,↓bQ,↓ch,↓dJ,↓cJ,dg,bH,ai,bN,cd,cI,dh,↓zzC,zzE,sevalprocAttr];refine ⟨_,v',K',rfl,Ih hA ho hfr,?_,by simp only [ls,hlen],by simp only [hlen,h0,h4,gB,and_self,sevalprocAttr]⟩;rw [oX,List.map_append];exact ho'
theorem Pz {G:AH} {q db:Nat} {vs:AV} {ss:List (List Itm)} {ad:List Nat} {rc:List Bool} (h:RqW G q db vs ss ad rc):∀ (d j:Nat) (tm:List AV) (K:AH) (Z:Option (bk × St)),EvC aa C0 W0 zx Sy (tm,K)=Z->ss.length - j=d->j<=ss.length->(tm.length=34/\tm.getD 0 uA=.ptr q 0/\tm.getD 4 uA=I ((j:Nat):Int)/\an G K/\∃ v,tm.getD 3 uA=v/\Own G.length K 1 3 v ((ey ss ad (j)).map fun (n:Nat)=>I (n:Int))) ->
   ∃ X K1,Z=some (.exit 0,(X,K1))/\(X.length=34/\X.getD 0 uA=.ptr q 0/\X.getD 4 uA=I ((ss.length:Nat):Int)/\an G K1/\∃ v,X.getD 3 uA=v/\Own G.length K1 1 3 v ((ey ss ad (ss.length)).map fun (n:Nat)=>I (n:Int))):=by
 have hls:=h.s.len;have hfs:=h.fs;intro d;induction d with
 | zero =>
   intro j tm K Z hZ hd hj hI;subst hZ;have hjl:j=ss.length:=by omega
   subst hjl;obtain ⟨hlen,h0,h4,hA,v,h3,ho⟩:=hI;have hlt:ltB ((ss.length:Nat):Int) (ss.length:Nat)=false:=cw (by omega);have hq2:=h.cell hA [] 2 (x:=vs) rfl;rw [af] at hq2;rw [M9];simp -implicitDefEqProofs only [GK,f83,aP,hlen,h0,h3,h4,hq2,hls,hlt,nD,↓zzC,zzE,sevalprocAttr];exact ⟨_,K,rfl,by simp only [ls,hlen],Aj2 (by simp only [hlen,h0,h4,gB,and_self,sevalprocAttr]) ⟨hA,v,by simp only [hlen,h3,gB,sevalprocAttr],ho⟩⟩
 | succ d ih =>
   intro j tm K Z hZ hd hj hI;subst hZ;have hjN:j < ss.length:=by omega
   obtain ⟨hlen,h0,h4,hA,v,h3,ho⟩:=hI;have hlt:ltB (j:Int) (ss.length:Nat)=true:=cu (by omega);have hw:=b6 (j:=j) (by omega);have hq2:=h.cell hA [] 2 (x:=vs) rfl;rw [af] at hq2;rw [M9];simp -implicitDefEqProofs only [GK,f83,aP,hlen,h0,h3,h4,hq2,hls,hlt,nD,↓zzC,zzE,sevalprocAttr];generalize hR:EvC aa C0 W0 _ (Code.region _ _ _) _=R;obtain ⟨t,v',K',he,hA',ho',tl,t0,t3,t4⟩:=JZ h hA hjN ho (by simp only [ls,hlen]) (by simp only [hlen,h0,gB,sevalprocAttr]) (by simp only [hlen,h3,gB,sevalprocAttr]) (by simp only [hlen,h4,gB,sevalprocAttr]) hR;subst he;simp -implicitDefEqProofs only [aP,tl,t0,t3,t4,hw,↓zzC,zzE,sevalprocAttr];generalize hX:EvC aa C0 W0 _ _ _=Z;exact ih (j+1) _ _ _ hX (by omega) (by omega) ⟨by simp only [ls,tl],Aj2 (by simp only [tl,t0,t4,gB,and_self,sevalprocAttr]) ⟨hA',v',by simp only [tl,t3,gB,sevalprocAttr],ho'⟩⟩
theorem aee {G:AH} {q db:Nat} {vs:AV} {ss:List (List Itm)} {ad:List Nat} {rc:List Bool} (h:RqW G q db vs ss ad rc):∃ v K,Ev aa C0 W0 83 [.ptr q 0] G=some (v,K)/\an G K/\Own G.length K 1 3 v ((ey ss ad ss.length).map fun (n:Nat)=>I (n:Int)):=by obtain ⟨tm,ht,g0,g1⟩:=tm1 (.ptr q 0) 34 (by decide);rw [acD,ht];simp -implicitDefEqProofs only [c83,f83,aP,g0,g1,↓zzC,zzE,sevalprocAttr];generalize hX:EvC aa C0 W0 zx (Code.loop _) _=Z;obtain ⟨X,K1,he,xl,x0,x4,xA,v,x3,xo⟩:=Pz h _ 0 _ _ _ hX rfl (aV _) ⟨by simp only [ls,g0],by simp only [g0,g1,gB,sevalprocAttr],by simp only [g0,gB,sevalprocAttr]; try rfl,an.refl G,.nilSlice,by simp only [g0,gB,sevalprocAttr],.nil⟩;subst he;refine ⟨v,K1,?_,xA,xo⟩;simp -implicitDefEqProofs only [aP,xl,x0,x3,x4,↓zzC,zzE,sevalprocAttr]
theorem J0 {G:AH} {q db:Nat} {vs:AV} {ss:List (List Itm)} {ad:List Nat} {rc:List Bool} (h:RqW G q db vs ss ad rc) {K:AH} (hA:an G K) {j:Nat} (hj:j < ss.length) (hk:ad.getD j 0 < (aM ss j).length) {tm:List AV} (hlen:tm.length=71) (h0:tm.getD 0 uA=.ptr q 0) (h4:tm.getD 4 uA=I (j:Int)) {R:Option (bk × St)} (hR:EvC aa C0 W0 wo (aH [true,true,false,true,false,false,true,false,false,true,false] c80) (tm,K)=R):∃ tm' K' va,R=some (.normal,(tm',K'))/\an K K'/\K'[K.length+16]? =some (.cells (aJ (bo (aM ss j) (ad.getD j 0)) va) 34)/\tm'.length=71/\tm'.getD 5 uA=.ptr (K.length+16) 0/\tm'.getD 0 uA=tm.getD 0 uA/\tm'.getD 3 uA=tm.getD 3 uA/\tm'.getD 4 uA=tm.getD 4 uA:=by
 subst hR;have hq2:=fun L=>h.cell hA L 2 (x:=vs) rfl;have hq10:=fun L=>h.cell hA L 10 (x:=slN db ss.length) rfl;obtain ⟨i0,k0,w0,hix,hrd,hx⟩:=h.s.at hA hj;have hxd:=fun kk=>ixN (N:=ss.length) db hj kk;have hra:=fun L=>fJ (hA.bX L) (h.a j hj);obtain ⟨i2,k2,va,hix2,hrd2',hsa⟩:=hx.at (an.refl G) hk;have hrd2:∀ L,ak (K++L) i2 k2 9=some (aJ (bo (aM ss j) (ad.getD j 0)) va):=fun L=>by have:=hrd2' []; rw [af] at this; exact fJ (hA.bX L) this
 have oc:=hsa.cells;have oo:=hsa.one;generalize bo (aM ss j) (ad.getD j 0)=x at *;generalize ad.getD j 0=n at *;simp only [aJ] at hrd2 ⊢;have hK':∀ r,an K (K++[.fresh,.fresh,.fresh,.fresh,.fresh,.fresh,.fresh,.fresh,.fresh,.fresh,.fresh,.fresh,.fresh,.fresh,.fresh,.fresh,.cells r 34,.fresh])/\(K++[.fresh,.fresh,.fresh,.fresh,.fresh,.fresh,.fresh,.fresh,.fresh,.fresh,.fresh,.fresh,.fresh,.fresh,.fresh,.fresh,.cells r 34,.fresh])[K.length+16]? =some (bm.cells r 34):=fun r=>⟨an.app _ _,by rw [al (by omega),aN]; rfl⟩;simp -implicitDefEqProofs only [c80,f80,aP,hlen,h0,h4,hq2,hq10,hix,hrd,hxd,hra,hix2,hrd2,↓oc,↓oo,fB,ed,nD,o4,↓cD PU,Le,dn,cj,cW,dz,bZ,dm,cQ,cG,↓dW,↓dS,↓gK,↓eP,↓dU,↓eR,↓da,↓dX,↓bP,↓bz,↓cg,↓eT,↓de,↓dY,↓bR,↓bQ,↓ch,↓dJ,↓cJ,dg,bH,ai,bN,cd,cI,dh,↓zzC,zzE,sevalprocAttr];exact ⟨_,_,va,rfl,(hK' _).1,(hK' _).2,by simp only [ls,hlen],by simp only [hlen,h0,h4,gB,and_self,sevalprocAttr]⟩
theorem JR {G:AH} {q db:Nat} {vs:AV} {ss:List (List Itm)} {ad:List Nat} {rc:List Bool} (h:RqW G q db vs ss ad rc):∀ (d j:Nat) (tm:List AV) (K:AH) (Z:Option (bk × St)),EvC aa C0 W0 wo Sz (tm,K)=Z->ss.length - j=d->j<=ss.length->(tm.length=71/\tm.getD 0 uA=.ptr q 0/\tm.getD 4 uA=I ((j:Nat):Int)/\an G K/\∃ v,tm.getD 3 uA=v/\Own G.length K 1 3 v ((cO ss ad rc (j)).map fun (n:Nat)=>I (n:Int))) ->
   ∃ X K1,Z=some (.exit 0,(X,K1))/\(X.length=71/\X.getD 0 uA=.ptr q 0/\X.getD 4 uA=I ((ss.length:Nat):Int)/\an G K1/\∃ v,X.getD 3 uA=v/\Own G.length K1 1 3 v ((cO ss ad rc (ss.length)).map fun (n:Nat)=>I (n:Int))):=by
 have hls:=h.s.len;have hfs:=h.fs;have e00:eqB 0 0=true:=rfl;intro d;induction d with
 | zero =>
   intro j tm K Z hZ hd hj hI;subst hZ;have hjl:j=ss.length:=by omega
   subst hjl;obtain ⟨hlen,h0,h4,hA,v,h3,ho⟩:=hI;have hlt:ltB ((ss.length:Nat):Int) (ss.length:Nat)=false:=cw (by omega);have hq2:=h.cell hA [] 2 (x:=vs) rfl;rw [af] at hq2;rw [Nb];simp -implicitDefEqProofs only [Dr,f80,aP,hlen,h0,h3,h4,hq2,hls,hlt,nD,↓zzC,zzE,sevalprocAttr];exact ⟨_,K,rfl,by simp only [ls,hlen],Aj2 (by simp only [hlen,h0,h4,gB,and_self,sevalprocAttr]) ⟨hA,v,by simp only [hlen,h3,gB,sevalprocAttr],ho⟩⟩
 | succ d ih =>
   intro j tm K Z hZ hd hj hI;subst hZ;have hjN:j < ss.length:=by omega
   obtain ⟨hlen,h0,h4,hA,v,h3,ho⟩:=hI;have hlt:ltB (j:Int) (ss.length:Nat)=true:=cu (by omega);have hw:=b6 (j:=j) (by omega);have hq2:=h.cell hA [] 2 (x:=vs) rfl;have hq10:=h.cell hA [] 10 (x:=slN db ss.length) rfl;have hq27:=h.cell hA [] 27 (B7 h.lr);obtain ⟨i0,k0,w0,hix,hrd,hx⟩:=h.s.at hA hjN;have hrd:=hrd [];have hln:=hx.len;have hxd:=fun kk=>ixN (N:=ss.length) db hjN kk;have hra:=fJ hA (h.a j hjN);rw [af] at hq2 hq10 hq27 hrd;have hle:=h.le j hjN;have hrl:=oJ ss ad rc j;rw [Nb];cases p0:eqB ((ad.getD j 0:Nat):Int) ((aM ss j).length:Int) with
   | true =>
     have p1:ltB ((ad.getD j 0:Nat):Int) ((aM ss j).length:Int)=false:=cw (by have:=(cP _ _).1 p0; omega);have hok:okS ss ad rc j=false:=by unfold okS; rw [p1,Bool.false_and]
     simp -implicitDefEqProofs only [Dr,f80,aP,hlen,h0,h3,h4,hq2,hq10,hq27,e00,hls,hlt,hix,hrd,hln,hxd,hra,p0,hw,nD,o4,tP,FX,↓zzC,zzE,sevalprocAttr];generalize hX:EvC aa C0 W0 _ _ _=Z;exact ih (j+1) _ _ _ hX (by omega) (by omega) ⟨by simp only [ls,hlen],Aj2 (by simp only [hlen,h0,h4,gB,and_self,sevalprocAttr]) ⟨hA,v,by simp only [hlen,h3,gB,sevalprocAttr],by rw [jZ,hok]; exact ho⟩⟩
   | false =>
     have hk:ad.getD j 0 < (aM ss j).length:=by
       rcases Nat.lt_or_ge (ad.getD j 0) (aM ss j).length with c | c
       · exact c
       · rw [kP (by omega)] at p0; cases p0
     have p1:ltB ((ad.getD j 0:Nat):Int) ((aM ss j).length:Int)=true:=cu (by omega);simp -implicitDefEqProofs only [Dr,f80,aP,hlen,h0,h3,h4,hq2,hq10,hq27,e00,hls,hlt,hix,hrd,hln,hxd,hra,p0,nD,o4,tP,FX,↓zzC,zzE,sevalprocAttr];generalize hR:EvC aa C0 W0 _ (Code.region _ _ _) _=R;obtain ⟨t,K',va,he,hA',hxb,tl,t5,t0,t3,t4⟩:=J0 h hA hjN hk (by simp only [ls,hlen]) (by simp only [hlen,h0,gB,sevalprocAttr]) (by simp only [hlen,h4,gB,sevalprocAttr]) hR;subst he;simp only [hlen,h0,h3,h4,gB,sevalprocAttr] at t0 t3 t4;obtain ⟨hk34,hev⟩:=h.ev _ (gG hjN) _ (fA hk);obtain ⟨hx0,hx6⟩:=Jo hxb;have hA2:=hA.trans hA';have ho2:=ho.aZ hA';have okd:okS ss ad rc j=(!eqB (bo (aM ss j) (ad.getD j 0)).kind 4 || rc.getD (bo (aM ss j) (ad.getD j 0)).ev.toNat false):=by unfold okS; rw [p1,Bool.true_and]
     generalize bo (aM ss j) (ad.getD j 0)=x at *;obtain ⟨v',K2,happ,hA3,ho3,_⟩:=xc hA2 ho2 (by omega) j;have hput:∀ o,put none K' o=some (K'.length,K'++[o]):=fun _=>rfl;have bs:=Oo (j:Int) K';cases p2:eqB x.kind 4 with
     | false =>
       have hok:okS ss ad rc j=true:=by rw [okd,p2]; rfl
       simp -implicitDefEqProofs only [aP,tl,t0,t3,t4,t5,hx0,p2,hw,bs,↓bS,happ,A3,↓zzC,zzE,sevalprocAttr];generalize hX:EvC aa C0 W0 _ _ _=Z;exact ih (j+1) _ _ _ hX (by omega) (by omega) ⟨by simp only [ls,tl],Aj2 (by simp only [tl,t0,t4,gB,and_self,sevalprocAttr]) ⟨hA3,v',by simp only [tl,t3,gB,sevalprocAttr],by rw [jZ,hok,if_pos rfl]; exact ho3⟩⟩
     | true =>
       have hixe:∀ kk,aC aa 69 (.ptr q 11) (.int kk x.ev)=some (.ptr q (11+x.ev.toNat)):=fun kk=>by rw [Q7,if_pos hev,Nat.mul_one]
       have hrc:=h.cell hA2 [] (11+x.ev.toNat) (JS h.lr (e:=x.ev.toNat) (by omega));rw [af] at hrc;cases p3:rc.getD x.ev.toNat false with
       | true =>
         rw [p3] at hrc;have hok:okS ss ad rc j=true:=by rw [okd,p2,p3]; rfl
         simp -implicitDefEqProofs only [aP,tl,t0,t3,t4,t5,hx0,hx6,p2,hixe,hrc,hw,bs,↓bS,happ,BA,A3,↓zzC,zzE,sevalprocAttr];generalize hX:EvC aa C0 W0 _ _ _=Z;exact ih (j+1) _ _ _ hX (by omega) (by omega) ⟨by simp only [ls,tl],Aj2 (by simp only [tl,t0,t4,gB,and_self,sevalprocAttr]) ⟨hA3,v',by simp only [tl,t3,gB,sevalprocAttr],by rw [jZ,hok,if_pos rfl]; exact ho3⟩⟩
       | false =>
         rw [p3] at hrc;have hok:okS ss ad rc j=false:=by rw [okd,p2,p3]; rfl
         simp -implicitDefEqProofs only [aP,tl,t0,t3,t4,t5,hx0,hx6,p2,hixe,hrc,hw,BA,A3,↓zzC,zzE,sevalprocAttr];generalize hX:EvC aa C0 W0 _ _ _=Z;exact ih (j+1) _ _ _ hX (by omega) (by omega) ⟨by simp only [ls,tl],Aj2 (by simp only [tl,t0,t4,gB,and_self,sevalprocAttr]) ⟨hA2,v,by simp only [tl,t3,gB,sevalprocAttr],by rw [jZ,hok]; exact ho2⟩⟩
theorem VY {G:AH} {q db:Nat} {vs:AV} {ss:List (List Itm)} {ad:List Nat} {rc:List Bool} (h:RqW G q db vs ss ad rc):∃ v K,Ev aa C0 W0 80 [.ptr q 0] G=some (v,K)/\an G K/\Own G.length K 1 3 v ((cO ss ad rc ss.length).map fun (n:Nat)=>I (n:Int)):=by obtain ⟨tm,ht,g0,g1⟩:=tm1 (.ptr q 0) 71 (by decide);rw [acF,ht];simp -implicitDefEqProofs only [c80,f80,aP,g0,g1,↓zzC,zzE,sevalprocAttr];generalize hX:EvC aa C0 W0 wo (Code.loop _) _=Z;obtain ⟨X,K1,he,xl,x0,x4,xA,v,x3,xo⟩:=JR h _ 0 _ _ _ hX rfl (aV _) ⟨by simp only [ls,g0],by simp only [g0,g1,gB,sevalprocAttr],by simp only [g0,gB,sevalprocAttr]; try rfl,an.refl G,.nilSlice,by simp only [g0,gB,sevalprocAttr],.nil⟩;subst he;refine ⟨v,K1,?_,xA,xo⟩;simp -implicitDefEqProofs only [aP,xl,x0,x3,x4,↓zzC,zzE,sevalprocAttr]
theorem UE {K:AH} {q:Nat} {v:AV} {l:List Nat} (hs:SlS 30 1 K v (ints l)) (hb:l.sum < 2 ^ 40) (hN:l.length < 2 ^ 60):∀ (d j:Nat) (tm:List AV) (Z:Option (bk × St)),EvC aa C0 W0 Cm SJ (tm,K)=Z->l.length - j=d->j<=l.length->(tm.length=39/\tm.getD 0 uA=.ptr q 0/\tm.getD 5 uA=v/\tm.getD 6 uA=I ((j:Nat):Int)/\tm.getD 4 uA=I (((l.take (j)).sum:Nat):Int)) ->
   ∃ X,Z=some (.exit 0,(X,K))/\(X.length=39/\X.getD 0 uA=.ptr q 0/\X.getD 5 uA=v/\X.getD 6 uA=I ((l.length:Nat):Int)/\X.getD 4 uA=I (((l.take (l.length)).sum:Nat):Int)):=by
 have hln:=fun G=>iZ hs G;intro d;induction d with
 | zero =>
   intro j tm Z hZ hd hj hI;subst hZ;have hjl:j=l.length:=by omega
   subst hjl;obtain ⟨hlen,h0,h5,h6,h4⟩:=hI;have hlt:ltB ((l.length:Nat):Int) (l.length:Nat)=false:=cw (by omega);rw [Nm];simp -implicitDefEqProofs only [GN,f54,aP,hlen,h0,h5,h6,h4,hln,hlt,↓zzC,zzE,sevalprocAttr];exact ⟨_,rfl,by simp only [ls,hlen],by simp only [hlen,h0,h5,h6,h4,gB,and_self,sevalprocAttr]⟩
 | succ d ih =>
   intro j tm Z hZ hd hj hI;subst hZ;have hjN:j < l.length:=by omega
   obtain ⟨hlen,h0,h5,h6,h4⟩:=hI;have hlt:ltB (j:Int) (l.length:Nat)=true:=cu (by omega);have hw:=b6 (j:=j) (by omega);obtain ⟨i0,k0,hix,hrd⟩:=ints_at hs (an.refl K) hjN;have hrd:=hrd [];rw [af] at hrd;have hsu:=rN l hjN;have hle:=vJ l (j+1);have hw2:IntKind.i64.wrap ((((l.take j).sum:Nat):Int)+((l.getD j 0:Nat):Int))=(((l.take (j+1)).sum:Nat):Int):=by rw [pw (by omega)]; omega
   rw [Nm];simp -implicitDefEqProofs only [GN,f54,aP,hlen,h0,h5,h6,h4,hln,hlt,hix,hrd,hw,hw2,↓zzC,zzE,sevalprocAttr];generalize hX:EvC aa C0 W0 _ _ _=Z;exact ih (j+1) _ _ hX (by omega) (by omega) ⟨by simp only [ls,hlen],by simp only [hlen,h0,h5,h6,h4,gB,and_self,sevalprocAttr]⟩
theorem VZ {G:AH} {q db:Nat} {vs:AV} {ss:List (List Itm)} {ad:List Nat} {rc:List Bool} (h:RqW G q db vs ss ad rc):Ev aa C0 W0 54 [.ptr q 0] G=some (.tuple [.bool (kV ss ad rc),I (vr ss ad rc)],G):=by
 obtain ⟨tm,ht,g0,g1⟩:=tm1 (.ptr q 0) 39 (by decide);rw [ac1,ht];obtain ⟨v,K1,h83,hA1,ho1⟩:=aee h.ro;have hs1:=ho1.ints;have hsum:=yu ss ad;have hfew:=h.few;have hfs:=h.fs;have hll:(ey ss ad ss.length).length=ss.length:=by unfold ey; rw [ao,er]
 obtain ⟨v2,K2,h80,hA2,ho2⟩:=VY (h.ro.aZ hA1);have hln2:=fun G=>iZ ho2.ints G;have hq27:=h.ro.cell hA1 [] 27 (B7 h.lr);rw [af] at hq27;have e00:eqB 0 0=true:=rfl;simp -implicitDefEqProofs only [c54,f54,aP,g0,g1,↓adF,h83,↓zzC,zzE,sevalprocAttr];generalize hX:EvC aa C0 W0 Cm (Code.loop _) _=Z;obtain ⟨X,he,xl,x0,x5,x6,x4⟩:=UE (q:=q) hs1 (by omega) (by omega) _ 0 _ _ hX rfl (aV _) ⟨by simp only [ls,g0],Aj2 (by simp only [g0,g1,gB,and_self,sevalprocAttr]) ⟨by simp only [g0,gB,sevalprocAttr]; try rfl,by simp only [g0,gB,sevalprocAttr]; try rfl⟩⟩;subst he;rw [List.take_length] at x4;unfold kV vr;by_cases c1:(ey ss ad ss.length).sum=0
 · have e1:=kP (a:=(((ey ss ad ss.length).sum:Nat):Int)) (b:=0) (by omega);rw [if_pos c1,c1];rw [c1] at e1 x4;simp -implicitDefEqProofs only [aP,xl,x0,x4,x5,x6,hq27,e00,tP,↓zzC,zzE,sevalprocAttr]
 · have e1:=fR (a:=(((ey ss ad ss.length).sum:Nat):Int)) (b:=0) (by omega);have b1:((ey ss ad ss.length).sum == 0)=false:=by rw [beq_eq_false_iff_ne]; exact c1
   rw [if_neg c1,b1,Bool.false_or];by_cases c2:cO ss ad rc ss.length=[]
   · have e2:=kP (a:=(((cO ss ad rc ss.length).length:Nat):Int)) (b:=0) (by rw [c2]; rfl);have b2:(cO ss ad rc ss.length).isEmpty=true:=by rw [c2]; rfl
     rw [if_pos c2,b2];simp -implicitDefEqProofs only [aP,xl,x0,x4,x5,x6,hq27,e00,e1,↓Re,h80,hln2,e2,tP,↓zzC,zzE,sevalprocAttr]
   · have e2:=fR (a:=(((cO ss ad rc ss.length).length:Nat):Int)) (b:=0) (by
       have:(cO ss ad rc ss.length).length≠0:=fun e=>c2 (List.length_eq_zero_iff.1 e)
       omega)
     have b2:(cO ss ad rc ss.length).isEmpty=false:=by
       cases hr:cO ss ad rc ss.length with
       | nil=>exact absurd hr c2
       | cons _ _=>rfl
     rw [if_neg c2,b2]
     simp -implicitDefEqProofs only [aP,xl,x0,x4,x5,x6,hq27,e00,e1,↓Re,h80,hln2,e2,tP,↓zzC,zzE,sevalprocAttr]
end Go.Dv
