/- Part 19 of the walks (own work). -/
import Derived.Test.YtilpjnckfkjkbaaGreatDoorS18
open List renaming all_cons→gn,append_assoc→aE,append_nil→af,cons_append→ir,drop_left'→MK,flatten_append→e8,flatten_cons→eZ,getElem?_append_left→aq,getElem?_eq_getElem→aj,getElem?_set_ne→aB,getElem?_set_self→bI,length→fU,length_append→ai,length_cons→b6,length_map→au,length_set→ar,length_take→eW,map_append→dX,map_cons→gy,mem_append→bJ,mem_cons→bH,mem_map→bY,mem_singleton→bg,nil_append→iH,set_append_left→eR,set_comm→nX,take_add_one→fW
open Nat renaming add_comm→Tr,ble→sd,le_add_right→cm,le_of_lt→vD,le_refl→ax,le_trans→bc,lt_add_right→MH,lt_of_lt_of_le→bm,lt_succ_of_lt→Hq,min_eq_left→qM
open Option renaming bind_eq_some_iff→ae,map_eq_some_iff→ah
open Go.Proofs.Tryz renaming prog→aa
set_option maxRecDepth 100000
set_option maxHeartbeats 4000000
set_option linter.unusedSimpArgs false
set_option linter.unusedVariables false
namespace Go.Dv
open Go.Proofs
attribute [local congr] aH bP bj bO bQ
def AgX (G K:AH) (c:Nat):Prop:=G.length<=K.length/\∀ i,i < G.length->i≠c->K[i]? =G[i]?
theorem AgX.refl (G:AH) (c:Nat):AgX G G c:=⟨ax _,fun _ _ _=>rfl⟩
theorem wI {A B:List (List AV)} {r r':List AV} {k:Nat} (hA:A.flatten.length=k) (hr:r.length=r'.length):spl (A++r::B).flatten k r'=(A++r'::B).flatten:=by
 rw [e8,e8,eZ,eZ,ib _ _ _ (by rw [ai,ai]; omega),<-hA,<-hr]
 rw [List.take_left',List.drop_append,List.drop_of_length_le (by omega),Nat.add_sub_cancel_left,iH,MK rfl,aE]
 rfl
theorem gN {K:AH} {b:Nat} {cs:List AV} {e:TypeId} (h:K[b]? =some (.cells cs e)) {k:Nat} {xs:List AV} (hk:k+xs.length<=cs.length) (hx:xs.all AV.one=true) (L:AH):bp (K++L) b k xs=some (K.set b (.cells (spl cs k xs) e)++L):=by
 have hb:=aJ h
 unfold bp
 rw [aq hb,h]
 simp only
 rw [if_pos ⟨hk,hx⟩,eR _ _ hb]
def iF (p:Cod × AV × AV × AV):List AV:=bF p.1 p.2.1 p.2.2.1 p.2.2.2
theorem nG (l:List (Cod × AV × AV × AV)):∀ r∈l.map iF,r.length=5:=by
 intro r hr
 obtain ⟨p,_,rfl⟩:=bY.1 hr
 rfl
def dD:List Nat->AH->AH
 | [],K=>K
 | d::D,K=>dD D (K.set d .dead)
theorem qt:∀ (D:List Nat) (K:AH),(dD D K).length=K.length
 | [],_=>rfl
 | d::D,K=>by rw [dD,qt D,ar]
theorem ue:∀ (D:List Nat) (K L:AH),(∀ d∈D,d < K.length)->dD D (K++L)=dD D K++L
 | [],_,_,_=>rfl
 | d::D,K,L,h=>by
   rw [dD,dD,eR _ _ (h d (by simp)),ue D _ L fun x hx=>by rw [ar]; exact h x (by simp [hx])]
theorem xt:∀ (D:List Nat) (K:AH) (d:Nat),dD D (K.set d .dead)=(dD D K).set d .dead
 | [],_,_=>rfl
 | e::D,K,d=>by
   rw [dD,dD,<-xt D]
   rcases Decidable.em (d=e) with h | h
   · subst h; rfl
   · rw [nX _ _ h]
theorem yW:∀ (D:List Nat) (K:AH) (c:Nat) (o:bo),c∈D->dD D (K.set c o)=dD D K
 | d::D,K,c,o,h=>by
   rw [dD,dD]
   rcases Decidable.em (c=d) with e | e
   · subst e; rw [List.set_set]
   · rw [nX _ _ e]
     exact yW D _ c o ((bH.1 h).resolve_left e)
theorem jJ:∀ (D:List Nat) (K:AH) (i:Nat),i∉D->(dD D K)[i]? =K[i]?
 | [],_,_,_=>rfl
 | d::D,K,i,h=>by
   rw [dD,jJ D _ i fun x=>h (by simp [x]),aB fun e=>h (by simp [e])]
theorem ij:∀ (D:List Nat) (K:AH) (i:Nat),i∈D->ld (dD D K) i
 | d::D,K,i,h=>by
   rw [dD,xt]
   rcases Decidable.em (i=d) with e | e
   · subst e; exact uq _ _
   · exact (ij D K i ((bH.1 h).resolve_left e)).kill d
theorem yV:∀ (D:List Nat) (K:AH),Sub (dD D K) K
 | [],K=>Sub.refl K
 | d::D,K=>(yV D _).trans (Sub.kill K d)
structure sb (D:List Nat) (K:AH) (c:Nat) (l0:List (Cod × AV × AV × AV)) (j:Nat):Prop where
 ex:∃ pr:List (Cod × AV × AV × AV),pr.map (·.1)=(l0.take j).map (·.1)/\(∀ p∈pr,dO (dD D K) p.1 p.2.1 p.2.2.1 p.2.2.2) /\
   (l0≠[]->K[c]? =some (.cells ((pr.map iF)++((l0.drop j).map iF)).flatten 66))
def Mt (l0:List (Cod × AV × AV × AV)):Prop:=∀ p∈l0,p.1.params.length<=2000/\p.1.shared.length<=2000/\p.1.insns.length<=2000
theorem il {b n:Nat} (hb:sd b 1000=true) (hn:n<=2000):fR b n=true:=by
 have:=Nat.le_of_ble_eq_true hb
 unfold fR
 rw [Bool.and_eq_true,decide_eq_true_iff,decide_eq_true_iff]
 refine ⟨bc (Nat.mul_le_mul (show 2 * n+400<=5000 by omega) this) (by decide),by omega⟩
theorem b74:sd (aa.bytesOf 74) 1000=true:=by kernel_rfl
theorem b77:sd (aa.bytesOf 77) 1000=true:=by kernel_rfl
theorem b80:sd (aa.bytesOf 80) 1000=true:=by kernel_rfl
theorem b66:sd (aa.bytesOf 66) 1000=true:=by kernel_rfl
theorem b34:sd (aa.bytesOf 34) 1000=true:=by kernel_rfl
theorem wK (l:List Prm):∀ r∈l.map iO,r.length=2:=by
 intro r hr; obtain ⟨p,_,rfl⟩:=bY.1 hr; rfl
theorem wM (l:List Arr):∀ r∈l.map jS,r.length=2:=by
 intro r hr; obtain ⟨p,_,rfl⟩:=bY.1 hr; rfl
theorem wL (l:List Ins):∀ r∈l.map ew,r.length=8:=by
 intro r hr; obtain ⟨p,_,rfl⟩:=bY.1 hr; rfl
theorem SS {H K:AH} {cod:Cod} {vp vz vi:AV} (h:dO H cod vp vz vi) :
   dO (K++BV K cod.name cod.loc vp vz vi (cod.params.map iO) (cod.shared.map jS) (cod.insns.map ew)) cod (bl 2 (cod.params.map iO).length vp (K.length+1)) (bl 2 (cod.shared.map jS).length vz (K.length+((bh 74 vp (cod.params.map iO).flatten).length+1))) (bl 8 (cod.insns.map ew).length vi (K.length+((bh 74 vp (cod.params.map iO).flatten).length+((bh 77 vz (cod.shared.map jS).flatten).length+1)))):=by
 generalize hb:bo.cells [.str cod.name,bl 2 (cod.params.map iO).length vp (K.length+1),bl 2 (cod.shared.map jS).length vz (K.length+((bh 74 vp (cod.params.map iO).flatten).length+1)),I cod.loc,bl 8 (cod.insns.map ew).length vi (K.length+((bh 74 vp (cod.params.map iO).flatten).length+((bh 77 vz (cod.shared.map jS).flatten).length+1)))] 66=bx
 have hK:BV K cod.name cod.loc vp vz vi (cod.params.map iO) (cod.shared.map jS) (cod.insns.map ew)=bx::(bh 74 vp (cod.params.map iO).flatten++(bh 77 vz (cod.shared.map jS).flatten++bh 80 vi (cod.insns.map ew).flatten)):=by rw [<-hb]; rfl
 rw [hK]
 generalize hL1:bh 74 vp (cod.params.map iO).flatten=L1
 generalize hL2:bh 77 vz (cod.shared.map jS).flatten=L2
 generalize hL3:bh 80 vi (cod.insns.map ew).flatten=L3
 have o1:=ky (E:=74) (es:=2) (G:=K++[bx]) (v:=vp) (xs:=(cod.params.map iO).flatten) (n:=(cod.params.map iO).length) (by decide) (dP (wK _)) (fun e=>by rw [mi h.p e]; rfl)
 have o2:=ky (E:=77) (es:=2) (G:=K++bx::L1) (v:=vz) (xs:=(cod.shared.map jS).flatten) (n:=(cod.shared.map jS).length) (by decide) (dP (wM _)) (fun e=>by rw [mi h.s e]; rfl)
 have o3:=ky (E:=80) (es:=8) (G:=K++bx::(L1++L2)) (v:=vi) (xs:=(cod.insns.map ew).flatten) (n:=(cod.insns.map ew).length) (by decide) (dP (wL _)) (fun e=>by rw [mi h.i e]; rfl)
 rw [hL1,ai,List.length_singleton] at o1
 rw [hL2,ai,b6] at o2
 rw [hL3,ai,b6,ai,Nat.add_assoc] at o3
 have a1:al ((K++[bx])++L1) (K++bx::(L1++(L2++L3))):=by
   have:=al.app ((K++[bx])++L1) (L2++L3)
   simpa only [aE,ir,iH] using this
 have a2:al ((K++bx::L1)++L2) (K++bx::(L1++(L2++L3))):=by
   have:=al.app ((K++bx::L1)++L2) L3
   simpa only [aE,ir,iH] using this
 have a3:al ((K++bx::(L1++L2))++L3) (K++bx::(L1++(L2++L3))):=by
   have:(K++bx::(L1++L2))++L3=K++bx::(L1++(L2++L3)):=by simp only [aE,ir]
   rw [this]; exact al.refl _
 have s1:=(Own.nz Qb (by decide) o1 (wK _)).same (G:=K++bx::(L1++(L2++L3))) a1
 have s2:=(Own.nz Qa (by decide) o2 (wM _)).same (G:=K++bx::(L1++(L2++L3))) a2
 have s3:=(Own.nz P9 (by decide) o3 (wL _)).same (G:=K++bx::(L1++(L2++L3))) a3
 exact { h with p:=s1,s:=s2,i:=s3 }
theorem DW (D:List Nat) (K:AH) (nm:ByteArray) (loc:Int) (vp vz vi:AV) (rp rz ri:List (List AV)):BV (dD D K) nm loc vp vz vi rp rz ri=BV K nm loc vp vz vi rp rz ri:=by
 unfold BV; rw [qt]
theorem Im {K:AH} {nm:ByteArray} {vp vz vi:AV} {loc:Int} {rp rz ri:List (List AV)} (h29:∀ L,Ev aa C0 W0 29 [vp] (K++L)=some (bl 2 rp.length vp (K.length+L.length),K++(L++bh 74 vp rp.flatten))) (h30:∀ L,Ev aa C0 W0 30 [vz] (K++L)=some (bl 2 rz.length vz (K.length+L.length),K++(L++bh 77 vz rz.flatten))) (h31:∀ L,Ev aa C0 W0 31 [vi] (K++L)=some (bl 8 ri.length vi (K.length+L.length),K++(L++bh 80 vi ri.flatten))) (hvp:vp.cells=[vp]/\vp.one=true) (hvz:vz.cells=[vz]/\vz.one=true) (hvi:vi.cells=[vi]/\vi.one=true) {tm:List AV} {R:Option (bu × St)} (hR:EvC aa C0 W0 lO (aQ [true,true,true,false,true,false,false,true,true,false,false,true,false] (Tryz.f10.body.getD .skip)) (tm,K++[.cells [.str nm,vp,vz,I loc,vi] 66])=R) (hlen:tm.length=100) (h13:tm.getD 13 uA=.ptr K.length 0) :
   ∃ tm',R=some (.normal,(tm',K++BV K nm loc vp vz vi rp rz ri))/\tm'.length=100/\tm'.getD 2 uA=tm.getD 2 uA/\tm'.getD 11 uA=tm.getD 11 uA/\tm'.getD 12 uA=tm.getD 12 uA/\tm'.getD 13 uA=tm.getD 13 uA/\tm'.getD 40 uA=tm.getD 40 uA/\tm'.getD 41 uA=tm.getD 41 uA/\tm'.getD 42 uA=tm.getD 42 uA:=by
 subst hR
 exact Nm h29 h30 h31 hvp hvz hvi hlen h13
theorem OF {H K4:AH} {l0:List (Cod × AV × AV × AV)} {vs cv:AV} {q c:Nat} {D:List Nat} (hH:al H K4) (hHc:H.length<=c) (hcl:c < K4.length) (hl:∀ p∈l0,dO H p.1 p.2.1 p.2.2.1 p.2.2.2) (hsm:Mt l0) (hq:ak K4 q 0 1=some [cv]) (hqc:q≠c) (hcD:c∈D) (hDl:∀ d∈D,d < K4.length) (hia:∀ j,j < l0.length->∀ kk,aG aa 22 cv (.int kk (j:Int))=some (.ptr c (j * 5))) (hN:l0.length < 2 ^ 60):∀ (d j:Nat) (tm:List AV) (K:AH),l0.length - j=d->j<=l0.length->(tm.length=100/\tm.getD 2 uA=vs/\tm.getD 11 uA=.ptr q 0/\tm.getD 40 uA=cv/\tm.getD 41 uA=I l0.length/\tm.getD 42 uA=I ((j:Nat):Int)/\AgX K4 K c/\sb D K c l0 j) ->
   ∃ X K1,EvC aa C0 W0 lO E0 (tm,K)=some (.exit 0,(X,K1))/\(X.length=100/\X.getD 2 uA=vs/\X.getD 11 uA=.ptr q 0/\X.getD 40 uA=cv/\X.getD 41 uA=I l0.length/\X.getD 42 uA=I ((l0.length:Nat):Int)/\AgX K4 K1 c/\sb D K1 c l0 l0.length):=by
 intro d
 induction d with
 | zero =>
   intro j tm K hd hj hI
   have hjl:j=l0.length:=by omega
   subst hjl
   have hI0:=hI
   obtain ⟨hlen,h2x,h11,h40,h41,h42,hX,hC⟩:=hI
   have hlt:ltB (((l0.length:Nat)):Int) (l0.length:Nat)=false:=db (by omega)
   rw [LO]
   simp -implicitDefEqProofs only [FI,Tryz.f10,aP,hlen,h2x,h11,h40,h41,h42,hlt,↓cbT,↓cbF,↓ao,an,eu,sevalprocAttr]
   refine ⟨_,K,rfl,?_⟩
   exact ⟨by first | exact hlen | simp only [ar,hlen],Aj5 (by simp only [hlen,h2x,h11,h40,h41,h42,gB,and_self,sevalprocAttr]) ⟨hX,hC⟩⟩
 | succ d ih =>
   intro j tm K hd hj hI
   have hI0:=hI
   obtain ⟨hlen,h2x,h11,h40,h41,h42,hX,hC⟩:=hI
   have hjN:j < l0.length:=by omega
   have hlt:ltB (j:Int) (l0.length:Nat)=true:=cQ (by omega)
   have hw:=cD (j:=j) (by omega)
   obtain ⟨pr,hpr,hcod,hKc⟩:=hC.ex
   have hK:=hKc (fun e=>by rw [e] at hjN; exact absurd hjN (by simp))
   have hix:=hia j hjN
   have hprl:pr.length=j:=by
     have:=congrArg fU hpr
     rw [au,au,eW,qM (vD hjN)] at this; exact this
   have hdr:l0.drop j=l0[j]::l0.drop (j+1):=List.drop_eq_getElem_cons hjN
   have hAH:al H K:=fun i hi=>(hX.2 i (bm hi hH.len) (by omega)).trans (hH i hi)
   have hql:q < K4.length:=PU hq
   have hq0:∀ L,ak (K++L) q 0 1=some [cv]:=fun L=>by
     unfold ak at hq ⊢
     rw [aq (bm hql hX.1),hX.2 q hql hqc]; exact hq
   have hmem:l0[j]∈l0:=List.getElem_mem _
   have hR:=hl _ hmem
   have hS:=hsm _ hmem
   have ht:(l0.take (j+1)).map (·.1)=(l0.take j).map (·.1)++[(l0[j]).1]:=by rw [fW,aj hjN,dX]; rfl
   rw [hdr] at hK
   generalize l0[j]=p at *
   obtain ⟨cod,vp,vz,vi⟩:=p
   simp only at hR hS ht
   have hfl:(pr.map iF).flatten.length=j * 5:=by rw [dP (nG pr),au,hprl]
   have hrd:∀ L,ak (K++L) c (j * 5) 5=some [.str cod.name,vp,vz,I cod.loc,vi]:=fun L=>by
     rw [eQ hK L,if_pos (by rw [e8,gy,eZ,ai,ai,hfl]; show j * 5+5<=j * 5+(5+_); omega)]
     rw [e8,gy,eZ,<-hfl,MK rfl]; rfl
   have hp1:=hR.p.cells
   have hp2:=hR.p.one
   have hz1:=hR.s.cells
   have hz2:=hR.s.one
   have hi1:=hR.i.cells
   have hi2:=hR.i.one
   have h29:=fun L=>aau (hR.p.same hAH) (wK _) (by rw [au]; exact il b74 hS.1) L
   have h30:=fun L=>aat (hR.s.same hAH) (wM _) (by rw [au]; exact il b77 hS.2.1) L
   have h31:=fun L=>aas (hR.i.same hAH) (wL _) (by rw [au]; exact il b80 hS.2.2) L
   have hwr:=fun L=>gN hK (k:=j * 5) (xs:=[.str cod.name,bl 2 (cod.params.map iO).length vp (K.length+1),bl 2 (cod.shared.map jS).length vz (K.length+((bh 74 vp (cod.params.map iO).flatten).length+1)),I cod.loc,bl 8 (cod.insns.map ew).length vi (K.length+((bh 74 vp (cod.params.map iO).flatten).length+((bh 77 vz (cod.shared.map jS).flatten).length+1)))]) (by
     rw [e8,gy,eZ,ai,ai,hfl]; show j * 5+5<=j * 5+(5+_); omega) (by
     have q1:=(eg 2 (cod.params.map iO).length vp (K.length+1)).2
     have q2:=(eg 2 (cod.shared.map jS).length vz (K.length+((bh 74 vp (cod.params.map iO).flatten).length+1))).2
     have q3:=(eg 8 (cod.insns.map ew).length vi (K.length+((bh 74 vp (cod.params.map iO).flatten).length+((bh 77 vz (cod.shared.map jS).flatten).length+1)))).2
     rw [gn,gn,gn,gn,gn,q1,q2,q3]; rfl) L
   rw [gy,wI (r:=iF (cod,vp,vz,vi)) (r':=[.str cod.name,bl 2 (cod.params.map iO).length vp (K.length+1),bl 2 (cod.shared.map jS).length vz (K.length+((bh 74 vp (cod.params.map iO).flatten).length+1)),I cod.loc,bl 8 (cod.insns.map ew).length vi (K.length+((bh 74 vp (cod.params.map iO).flatten).length+((bh 77 vz (cod.shared.map jS).flatten).length+1)))]) hfl rfl] at hwr
   rw [LO]
   rw [<-af K]
   have key:∀ (tmN:List AV) (KN:AH) (Z:Option (bu × St)),EvC aa C0 W0 lO E0 (tmN,KN)=Z->(tmN.length=100/\tmN.getD 2 uA=vs/\tmN.getD 11 uA=.ptr q 0/\tmN.getD 40 uA=cv/\tmN.getD 41 uA=I l0.length/\tmN.getD 42 uA=I (((j+1):Nat):Int)/\AgX K4 KN c/\sb D KN c l0 (j+1))->∃ X K1,Z=some (.exit 0,(X,K1))/\(X.length=100/\X.getD 2 uA=vs/\X.getD 11 uA=.ptr q 0/\X.getD 40 uA=cv/\X.getD 41 uA=I l0.length/\X.getD 42 uA=I ((l0.length:Nat):Int)/\AgX K4 K1 c/\sb D K1 c l0 l0.length):=by
     intro tmN KN Z h hJ
     obtain ⟨X,K1,A,B⟩:=ih (j+1) tmN KN (by omega) (by omega) hJ
     exact ⟨X,K1,h.symm.trans A,B⟩
   simp -implicitDefEqProofs only [FI,Tryz.f10,aP,hlen,h2x,h11,h40,h41,h42,hlt,hw,hix,hrd,z66,Uh,↓hp1,↓hp2,↓hz1,↓hz2,↓hi1,↓hi2,r5,↓az,nck,↓cbT,↓cbF,↓ao,an,eu,sevalprocAttr]
   generalize hZ:EvC aa C0 W0 _ (Code.region _ _ _) _=R
   obtain ⟨t,he,tl,t2,t11,t12,t13,t40,t41,t42⟩:=Im (nm:=cod.name) (loc:=cod.loc) h29 h30 h31 ⟨hp1,hp2⟩ ⟨hz1,hz2⟩ ⟨hi1,hi2⟩ hZ (by simp only [ls,hlen]) (by simp only [hlen,gB,sevalprocAttr])
   subst he
   simp only [hlen,h2x,h11,h40,h41,h42,gB,sevalprocAttr] at t2 t11 t12 t13 t40 t41 t42
   simp -implicitDefEqProofs only [tl,t2,t11,t12,t13,t40,t41,t42,hw,hix,hq0,↓mV NG,BV,Uh,hwr,r5,↓az,nck,↓cbT,↓cbF,↓ao,an,eu,sevalprocAttr]
   generalize hX':EvC aa C0 W0 _ _ _=Z
   refine key _ _ _ hX' ?_
   refine ⟨by simp only [ls,tl],Aj5 (by simp only [tl,t2,t11,t40,t41,t42,gB,and_self,sevalprocAttr]) ⟨⟨?_,?_⟩,⟨?_⟩⟩⟩
   · rw [ai,ar]; exact bc hX.1 (cm _ _)
   · intro i hi hne
     rw [aq (by rw [ar]; exact bm hi hX.1),aB (Ne.symm hne)]
     exact hX.2 i hi hne
   · have hcK:c < K.length:=bm hcl hX.1
     have hset:∀ o L,dD D (K.set c o++L)=dD D K++L:=fun o L=>by rw [ue D _ _ fun d hd=>by rw [ar]; exact bm (hDl d hd) hX.1,yW D _ c o hcD]
     refine ⟨pr++[(cod,bl 2 (cod.params.map iO).length vp (K.length+1),bl 2 (cod.shared.map jS).length vz (K.length+((bh 74 vp (cod.params.map iO).flatten).length+1)),bl 8 (cod.insns.map ew).length vi (K.length+((bh 74 vp (cod.params.map iO).flatten).length+((bh 77 vz (cod.shared.map jS).flatten).length+1))))],?_,?_,fun _=>?_⟩
     rotate_left 2
     · rw [aq (by rw [ar]; exact hcK),bI hcK,dX,aE]; rfl
     · rw [dX,hpr,ht]; rfl
     · intro p hp
       rw [hset]
       rcases bJ.1 hp with h | h
       · exact (hcod p h).aX (al.app _ _)
       · rw [bg] at h
         subst h
         have hh:=SS (K:=dD D K) hR
         rw [DW,qt] at hh
         exact hh
theorem Jd {H K4:AH} {l0:List (Cod × AV × AV × AV)} {vs cv:AV} {q c:Nat} {D:List Nat} {tm:List AV} {K:AH} {Z:Option (bu × St)} (hX:EvC aa C0 W0 lO E0 (tm,K)=Z) (hH:al H K4) (hHc:H.length<=c) (hcl:c < K4.length) (hl:∀ p∈l0,dO H p.1 p.2.1 p.2.2.1 p.2.2.2) (hsm:Mt l0) (hq:ak K4 q 0 1=some [cv]) (hqc:q≠c) (hcD:c∈D) (hDl:∀ d∈D,d < K4.length) (hia:∀ j,j < l0.length->∀ kk,aG aa 22 cv (.int kk (j:Int))=some (.ptr c (j * 5))) (hN:l0.length < 2 ^ 60) (hI:tm.length=100/\tm.getD 2 uA=vs/\tm.getD 11 uA=.ptr q 0/\tm.getD 40 uA=cv/\tm.getD 41 uA=I l0.length/\tm.getD 42 uA=I ((0:Nat):Int)/\AgX K4 K c/\sb D K c l0 0) :
   ∃ X K1,Z=some (.exit 0,(X,K1))/\(X.length=100/\X.getD 2 uA=vs/\X.getD 11 uA=.ptr q 0/\X.getD 40 uA=cv/\X.getD 41 uA=I l0.length/\X.getD 42 uA=I ((l0.length:Nat):Int)/\AgX K4 K1 c/\sb D K1 c l0 l0.length):=by
 subst hX
 exact OF hH hHc hcl hl hsm hq hqc hcD hDl hia hN (l0.length) 0 tm K (by omega) (by omega) hI
def bZ:AV->Option Nat
 | .slice i _ _ _ _ _=>some i
 | _=>none
def bC (v:AV) (K:AH):AH:=match v with
 | .slice i _ _ _ _ _=>K.set i .dead
 | _=>K
theorem cS (v:AV) (K:AH):(bC v K).length=K.length:=by unfold bC; split <;> simp
theorem cI {v:AV} {K:AH} {i:Nat} (h:bZ v≠some i):(bC v K)[i]? =K[i]?:=by
 unfold bC
 split
 · rename_i b _ _ _ _ _
   rw [aB fun e=>h (by rw [<-e]; rfl)]
 · rfl
theorem mm {v:AV} {K:AH} {i:Nat} (h:bZ v=some i):ld (bC v K) i:=by
 cases v <;> simp only [bZ] at h <;> first | (cases h; done) | skip
 cases h
 exact uq K i
theorem yT (v:AV) (K:AH):Sub (bC v K) K:=by
 unfold bC
 split
 · exact Sub.kill K _
 · exact Sub.refl K
theorem yU {v:AV} {K:AH} (L:AH) (h:∀ i,bZ v=some i->i < K.length):bC v (K++L)=bC v K++L:=by
 unfold bC
 split
 · rw [eR _ _ (h _ rfl)]
 · rfl
theorem D5 {sT:TypeId} {xT:Option TypeId} {v x v':AV} {K K':AH} (he:gv aa none sT xT v x K=some (v',K')):∀ i,bZ v'=some i->bZ v=some i∨K.length<=i:=by
 unfold gv at he
 split at he
 · cases he
 simp only [ae] at he
 obtain ⟨elem,_,z,_,⟨n,f⟩,_,new,_,he⟩:=he
 split at he
 · split at he
   · split at he
     · cases he; intro i h; cases h
     · split at he
       · obtain ⟨⟨i,H'⟩,hp,he⟩:=ah.1 he
         cases hp; cases he
         intro i h; cases h; exact .inr (ax _)
       · cases he
   · rename_i i k es len cap ex
     split at he
     · split at he
       · cases he; intro i h; exact .inl h
       · split at he
         · split at he
           · obtain ⟨H',hp,he⟩:=ah.1 he
             cases he
             intro i h; cases h; exact .inl rfl
           · cases he
         · split at he
           · split at he
             · obtain ⟨old,_,he⟩:=ae.1 he
               obtain ⟨⟨j,H'⟩,hp,he⟩:=ah.1 he
               cases hp; cases he
               intro i h; cases h; exact .inr (ax _)
             · cases he
           · split at he
             · split at he
               · obtain ⟨old,_,he⟩:=ae.1 he
                 obtain ⟨⟨j,H'⟩,hp,he⟩:=ah.1 he
                 cases hp; cases he
                 intro i h; cases h; right; rw [ar]; exact ax _
               · cases he
             · cases he
     · cases he
   · cases he
 · cases he
theorem gH {b:Nat} {H:AH} {es:Nat} {elem:TypeId} {v:AV} {xs:List AV} (h:Own b H es elem v xs) {i:Nat} (hv:bZ v=some i):b<=i/\i < H.length:=by
 cases h with
 | nil=>cases hv
 | «at» i2 k2 len2 cap2 ex2 cs2 xs2 hb2 hi2 hl2 hc2 h2=>cases hv; exact ⟨hb2,aJ hi2⟩
theorem wh {sT elem:TypeId} {xT:Option TypeId} {es:Nat} (T:pW aa sT xT elem es) {b:Nat} {K:AH} {v:AV} {xs:List AV} (ho:Own b K es elem v xs) (hb:b<=K.length) {x:AV} {new:List AV} (hx:Row K es x new)
   (hone:new.all AV.one=true) (hg:fR (aa.bytesOf elem) (bz v+bz x)=true) :
   ∃ v' K',gv aa none sT xT v x K=some (v',K')/\Own b K' es elem v' (xs++new)/\K.length<=K'.length/\(∀ j,j < K.length->bZ v≠some j->K'[j]? =K[j]?)/\(∀ i,bZ v'=some i->bZ v=some i∨K.length<=i):=by
 obtain ⟨v',K',he,hown,hlv,hll,hsame⟩:=r7 T ho hb hx hone hg
 exact ⟨v',K',he,hown,hll,fun j hj hne=>hsame j hj fun i k len cap ex e h=>hne (by rw [e,h]; rfl),D5 he⟩
theorem DG {v v':AV} {K K':AH} (hs:∀ j,j < K.length->bZ v≠some j->K'[j]? =K[j]?) (hb:∀ i,bZ v'=some i->bZ v=some i∨K.length<=i):∀ j,j < K.length->bZ v≠some j->(bC v' K')[j]? =K[j]?:=fun j hj hne=>by
 rw [cI,hs j hj hne]
 intro e
 rcases hb j e with h | h
 · exact hne h
 · omega
theorem DH {D:List Nat} {v v':AV} {K K':AH} (hs:∀ j,j < K.length->bZ v≠some j->K'[j]? =K[j]?) (hb:∀ i,bZ v'=some i->bZ v=some i∨K.length<=i):Sub (dD D (bC v K)) (dD D (bC v' K')):=fun i o hi ho=>by
 have hD:i∉D:=fun h=>(ij D (bC v K) i h).ne hi ho rfl
 rw [jJ D _ i hD] at hi ⊢
 have hne:bZ v≠some i:=fun e=>(mm (K:=K) e).ne hi ho rfl
 rw [cI hne] at hi
 rw [DG hs hb i (aJ hi) hne]; exact hi
def dQ (p:Itm × AV):List AV:=aU p.1 p.2
theorem eU (l:List (Itm × AV)):∀ r∈l.map dQ,r.length=9:=by
 intro r hr; obtain ⟨p,_,rfl⟩:=bY.1 hr; rfl
theorem se:ep aa 34=some (.agg [I 0,I 0,I 0,I 0,I 0,I 0,I 0,.nilSlice,.int .i32 0]):=by kernel_rfl
theorem Xp (cs:List AV) (hc:cs.length=9) (H:AH):bf aa none 31 1 [(0,.agg cs)] H=some (.slice H.length 0 9 1 1 true,H++[.cells cs 34]):=by
 rcases cs with _ | ⟨a,_ | ⟨b,_ | ⟨c,_ | ⟨d,_ | ⟨e,_ | ⟨f,_ | ⟨g,_ | ⟨h,_ | ⟨i,_ | ⟨j,l⟩⟩⟩⟩⟩⟩⟩⟩⟩⟩ <;> simp at hc
 kernel_rfl
theorem aaB (a b c d e f g h i:AV) (H L:AH):bf aa none 31 1 [(0,.agg [a,b,c,d,e,f,g,h,i])] (H++L)=some (.slice (H.length+L.length) 0 9 1 1 true,H++(L++[.cells [a,b,c,d,e,f,g,h,i] 34])):=by rw [Xp _ rfl,ai,aE]
theorem OE {H K0:AH} {xs:List Itm} {w0 vs:AV} {q n i:Nat} {D:List Nat} (hH:al H K0) (hx:dA H xs w0) (hxl:xs.length<=1000) (hal:∀ x∈xs,x.args.length<=1000) (hDl:∀ d∈D,d < K0.length) (hN:xs.length < 2 ^ 60):∀ (d j:Nat) (tm:List AV) (K:AH),xs.length - j=d->j<=xs.length->(tm.length=100/\tm.getD 11 uA=.ptr q 0/\tm.getD 67 uA=vs/\tm.getD 68 uA=I n/\tm.getD 69 uA=I i/\tm.getD 73 uA=w0/\tm.getD 74 uA=I xs.length/\tm.getD 75 uA=I ((j:Nat):Int)/\al K0 K/\∃ v,tm.getD 16 uA=v/\∃ pr:List (Itm × AV),pr.map (·.1)=xs.take j/\Own K0.length K 9 34 v (pr.map dQ).flatten/\∀ p∈pr,SlS 32 1 (dD D (bC v K)) p.2 (p.1.args.map dh)) ->
   ∃ X K1,EvC aa C0 W0 lO EZ (tm,K)=some (.exit 4,(X,K1))/\(X.length=100/\X.getD 11 uA=.ptr q 0/\X.getD 67 uA=vs/\X.getD 68 uA=I n/\X.getD 69 uA=I i/\X.getD 73 uA=w0/\X.getD 74 uA=I xs.length/\X.getD 75 uA=I ((xs.length:Nat):Int)/\al K0 K1/\∃ v,X.getD 16 uA=v/\∃ pr:List (Itm × AV),pr.map (·.1)=xs.take xs.length/\Own K0.length K1 9 34 v (pr.map dQ).flatten/\∀ p∈pr,SlS 32 1 (dD D (bC v K1)) p.2 (p.1.args.map dh)):=by
 intro d
 induction d with
 | zero =>
   intro j tm K hd hj hI
   have hjl:j=xs.length:=by omega
   subst hjl
   have hI0:=hI
   obtain ⟨hlen,h11,h67,h68,h69,h73,h74,h75,hA,v,h16,pr,hpr,ho,hargs⟩:=hI
   have hlt:ltB (((xs.length:Nat)):Int) (xs.length:Nat)=false:=db (by omega)
   rw [LN]
   simp -implicitDefEqProofs only [FH,Tryz.f10,aP,hlen,h11,h67,h68,h69,h73,h74,h75,h16,hlt,↓cbT,↓cbF,↓ao,an,eu,sevalprocAttr]
   refine ⟨_,K,rfl,?_⟩
   exact ⟨by first | exact hlen | simp only [ar,hlen],Aj7 (by simp only [hlen,h11,h67,h68,h69,h73,h74,h75,gB,and_self,sevalprocAttr]) ⟨hA,v,by simp only [hlen,h16,gB,sevalprocAttr],pr,hpr,ho,hargs⟩⟩
 | succ d ih =>
   intro j tm K hd hj hI
   have hI0:=hI
   obtain ⟨hlen,h11,h67,h68,h69,h73,h74,h75,hA,v,h16,pr,hpr,ho,hargs⟩:=hI
   have hjN:j < xs.length:=by omega
   have hlt:ltB (j:Int) (xs.length:Nat)=true:=cQ (by omega)
   have hw:=cD (j:=j) (by omega)
   obtain ⟨i1,k1,va,hix,hrd,hsa⟩:=hx.at (hH.trans hA) hjN
   have hsK:=(hsa.same hH).same hA
   have hac:=hsa.cells
   have hao:=hsa.one
   have hxm:=fu hjN
   have ht:xs.take (j+1)=xs.take j++[bB xs j]:=by rw [fW,xx hjN]; rfl
   have hlar:=hal _ hxm
   generalize bB xs j=x at *
   have h32:=fun L=>KL hsK hlar L
   have hwc:=fun b=>(eg 1 x.args.length va b).1
   have hwo:=fun b=>(eg 1 x.args.length va b).2
   simp only [aU] at hrd
   have hown:=Own.aX ho (al.app K (bo.cells (aU x (bl 1 x.args.length va (K.length+1))) 34::(bh 21 va (iY x.args)++[.cells (aU x (bl 1 x.args.length va (K.length+1))) 34])))
   have hprl:pr.length=j:=by
     have:=congrArg fU hpr
     rw [au,eW,qM (vD hjN)] at this; exact this
   have hlv:bz v=j:=by
     have:=ho.length
     rw [dP (eU pr),au,hprl] at this
     exact (Nat.eq_of_mul_eq_mul_right (by decide) this).symm
   have hone9:(aU x (bl 1 x.args.length va (K.length+1))).all AV.one=true:=by
     show (AV.one _ && (AV.one _ && (AV.one _ && (AV.one _ && (AV.one _ && (AV.one _ && (AV.one _ && (AV.one _ && (AV.one _ && true)))))))))=true
     rw [hwo]; rfl
   obtain ⟨v',K',happ,hown',hll,hsame,hblk⟩:=wh Mg hown (by rw [ai]; exact bc hA.len (cm _ _)) (x:=.slice (K.length+((bh 21 va (iY x.args)).length+1)) 0 9 1 1 true) (new:=aU x (bl 1 x.args.length va (K.length+1))) (.at _ _ _ _ _ _ (by
     rw [lk,Tr]
     unfold ak
     rw [Tr,List.getElem?_cons_succ,List.getElem?_append_right (ax _),Nat.sub_self]; rfl)) hone9 (il b34 (by rw [hlv,cg]; omega))
   have happ':=happ
   simp only [aU,iY] at happ
   rw [LN]
   rw [<-af K]
   have key:∀ (tmN:List AV) (KN:AH) (Z:Option (bu × St)),EvC aa C0 W0 lO EZ (tmN,KN)=Z->(tmN.length=100/\tmN.getD 11 uA=.ptr q 0/\tmN.getD 67 uA=vs/\tmN.getD 68 uA=I n/\tmN.getD 69 uA=I i/\tmN.getD 73 uA=w0/\tmN.getD 74 uA=I xs.length/\tmN.getD 75 uA=I (((j+1):Nat):Int)/\al K0 KN/\∃ v,tmN.getD 16 uA=v/\∃ pr:List (Itm × AV),pr.map (·.1)=xs.take (j+1)/\Own K0.length KN 9 34 v (pr.map dQ).flatten/\∀ p∈pr,SlS 32 1 (dD D (bC v KN)) p.2 (p.1.args.map dh))->∃ X K1,Z=some (.exit 4,(X,K1))/\(X.length=100/\X.getD 11 uA=.ptr q 0/\X.getD 67 uA=vs/\X.getD 68 uA=I n/\X.getD 69 uA=I i/\X.getD 73 uA=w0/\X.getD 74 uA=I xs.length/\X.getD 75 uA=I ((xs.length:Nat):Int)/\al K0 K1/\∃ v,X.getD 16 uA=v/\∃ pr:List (Itm × AV),pr.map (·.1)=xs.take xs.length/\Own K0.length K1 9 34 v (pr.map dQ).flatten/\∀ p∈pr,SlS 32 1 (dD D (bC v K1)) p.2 (p.1.args.map dh)):=by
     intro tmN KN Z h hJ
     obtain ⟨X,K1,A,B⟩:=ih (j+1) tmN KN (by omega) (by omega) hJ
     exact ⟨X,K1,h.symm.trans A,B⟩
   simp -implicitDefEqProofs only [FH,Tryz.f10,aP,hlen,h11,h67,h68,h69,h73,h74,h75,h16,hlt,hw,hix,hrd,se,d7,fE,↓hac,↓hao,↓hwc,↓hwo,↓SB,h32,aaB,↓ck,happ,r5,↓az,nck,↓cbT,↓cbF,↓ao,an,eu,sevalprocAttr]
   generalize hX:EvC aa C0 W0 _ _ _=Z
   refine key _ _ _ hX ?_
   refine ⟨by first | exact hlen | simp only [ar,hlen],Aj7 (by simp only [hlen,h11,h67,h68,h69,h73,h74,h75,gB,and_self,sevalprocAttr]) ⟨?_,v',by simp only [hlen,h16,gB,sevalprocAttr],pr++[(x,bl 1 x.args.length va (K.length+1))],?_,?_,?_⟩⟩
   · intro b hb
     rw [hsame b (by rw [ai]; exact bm hb (bc hA.len (cm _ _))) (fun e=>by have:=(gH ho e).1; omega),aq (bm hb hA.len),hA b hb]
   · rw [dX,hpr,ht]; rfl
   · rw [dX,e8]
     have e:([(x,bl 1 x.args.length va (K.length+1))].map dQ).flatten=aU x (bl 1 x.args.length va (K.length+1)):=by
       show aU x _++[]=_
       rw [af]
     rw [e]; exact hown'
   · have hvl:∀ b,bZ v=some b->b < K.length:=fun b hb=>(gH ho hb).2
     have hDK:∀ d∈D,d < (bC v K).length:=fun d hd=>by rw [cS]; exact bm (hDl d hd) hA.len
     have hS:=DH (D:=D) hsame hblk
     rw [yU _ hvl,ue D _ _ hDK] at hS
     intro p hp
     rcases bJ.1 hp with h | h
     · exact ((hargs p h).app _).sub hS
     · rw [bg] at h
       subst h
       refine SlS.sub ?_ hS
       have hl1:(dD D (bC v K)++[bo.cells (aU x (bl 1 x.args.length va (K.length+1))) 34]).length=K.length+1:=by rw [ai,qt,cS]; rfl
       have hc:=ky (E:=21) (es:=1) (G:=dD D (bC v K)++[bo.cells (aU x (bl 1 x.args.length va (K.length+1))) 34]) (v:=va) (xs:=iY x.args) (n:=x.args.length) (by decide) (by unfold iY; simp) (fun e=>by have:=mi hsa e; unfold iY; simpa using this)
       rw [hl1] at hc
       have:=hc.s32.app [bo.cells (aU x (bl 1 x.args.length va (K.length+1))) 34]
       simpa only [aE,ir,iH] using this
theorem Jc {H K0:AH} {xs:List Itm} {w0 vs:AV} {q n i:Nat} {D:List Nat} {tm:List AV} {K:AH} {Z:Option (bu × St)} (hX:EvC aa C0 W0 lO EZ (tm,K)=Z) (hH:al H K0) (hx:dA H xs w0) (hxl:xs.length<=1000) (hal:∀ x∈xs,x.args.length<=1000) (hDl:∀ d∈D,d < K0.length) (hN:xs.length < 2 ^ 60) (hI:tm.length=100/\tm.getD 11 uA=.ptr q 0/\tm.getD 67 uA=vs/\tm.getD 68 uA=I n/\tm.getD 69 uA=I i/\tm.getD 73 uA=w0/\tm.getD 74 uA=I xs.length/\tm.getD 75 uA=I ((0:Nat):Int)/\al K0 K/\∃ v,tm.getD 16 uA=v/\∃ pr:List (Itm × AV),pr.map (·.1)=xs.take 0/\Own K0.length K 9 34 v (pr.map dQ).flatten/\∀ p∈pr,SlS 32 1 (dD D (bC v K)) p.2 (p.1.args.map dh)) :
   ∃ X K1,Z=some (.exit 4,(X,K1))/\(X.length=100/\X.getD 11 uA=.ptr q 0/\X.getD 67 uA=vs/\X.getD 68 uA=I n/\X.getD 69 uA=I i/\X.getD 73 uA=w0/\X.getD 74 uA=I xs.length/\X.getD 75 uA=I ((xs.length:Nat):Int)/\al K0 K1/\∃ v,X.getD 16 uA=v/\∃ pr:List (Itm × AV),pr.map (·.1)=xs.take xs.length/\Own K0.length K1 9 34 v (pr.map dQ).flatten/\∀ p∈pr,SlS 32 1 (dD D (bC v K1)) p.2 (p.1.args.map dh)):=by
 subst hX
 exact OE hH hx hxl hal hDl hN (xs.length) 0 tm K (by omega) (by omega) hI
def dV (v:AV) (D:List Nat):List Nat:=match bZ v with
 | some b=>b::D
 | none=>D
theorem DT {v:AV} {D:List Nat} {d:Nat}:d∈dV v D↔bZ v=some d∨d∈D:=by
 unfold dV
 cases bZ v with
 | none=>simp
 | some b=>simp [eq_comm]
theorem Qr {v:AV} (hv:v.cells=[v]/\v.one=true) (hs:v=.nilSlice∨∃ i k es l c e,v=.slice i k es l c e) (H:AH):bf aa none 25 1 [(0,v)] H=some (.slice H.length 0 1 1 1 true,H++[.cells [v] 31]):=by
 rcases hs with rfl | ⟨i,k,es,l,c,e,rfl⟩ <;> kernel_rfl
theorem Own.sh {b:Nat} {H:AH} {es:Nat} {elem:TypeId} {v:AV} {xs:List AV} (h:Own b H es elem v xs):v=.nilSlice∨∃ i k es l c e,v=.slice i k es l c e:=by
 cases h with
 | nil=>exact .inl rfl
 | «at» i k len cap ex cs xs h1 hi hl hc h=>exact .inr ⟨_,_,_,_,_,_,rfl⟩
theorem Mi:pW aa 25 (some 25) 31 1:=⟨by kernel_rfl,⟨(ep aa 31).getD uA,by kernel_rfl,by kernel_rfl,by (have h:((ep aa 31).getD uA).cells.length=1:=by kernel_rfl); intro e; rw [e] at h; cases h⟩,by kernel_rfl,by kernel_rfl⟩
theorem b31:sd (aa.bytesOf 31) 1000=true:=by kernel_rfl
theorem Gb (vc vm vs vs' va:AV) (f:Con) (rc:List Bool) (en:Int):(lj vc vm vs va f rc en).set 9 vs'=lj vc vm vs' va f rc en:=rfl
theorem nA (vc vm vs va:AV) (f:Con) {rc:List Bool} (h:rc.length=16) (en:Int):(lj vc vm vs va f rc en).length=28:=by unfold lj d8; simp [h]
def rc0:List Bool:=List.replicate 16 false
structure r8 (D:List Nat) (K5 K:AH) (q:Nat) (cv mv av:AV) (f:Con) (ss:List (List Itm)) (i:Nat):Prop where
 ag:AgX K5 K q
 ex:∃ vq,K[q]? =some (.cells (lj cv mv vq av f rc0 0) 71)/\∃ pr:List (List Itm × AV),pr.map (·.1)=ss.take i/\Own K5.length K 1 31 vq (pr.map (·.2))/\∀ p∈pr,dA (dD D (bC vq K)) p.1 p.2
theorem OD {H K5:AH} {ss:List (List Itm)} {vs cv mv av:AV} {f:Con} {q:Nat} {D:List Nat} (hH:al H K5) (hHq:H.length<=q) (hq5:q < K5.length) (hs:da H ss vs) (hn4:ss.length<=4) (hxl:∀ xs∈ss,xs.length<=1000/\∀ x∈xs,x.args.length<=1000) (hqD:q∈D) (hDl:∀ d∈D,d < K5.length) (hN:ss.length < 2 ^ 60):∀ (d j:Nat) (tm:List AV) (K:AH),ss.length - j=d->j<=ss.length->(tm.length=100/\tm.getD 11 uA=.ptr q 0/\tm.getD 67 uA=vs/\tm.getD 68 uA=I ss.length/\tm.getD 69 uA=I ((j:Nat):Int)/\r8 D K5 K q cv mv av f ss j) ->
   ∃ X K1,EvC aa C0 W0 lO EY (tm,K)=some (.exit 2,(X,K1))/\(X.length=100/\X.getD 11 uA=.ptr q 0/\X.getD 67 uA=vs/\X.getD 68 uA=I ss.length/\X.getD 69 uA=I ((ss.length:Nat):Int)/\r8 D K5 K1 q cv mv av f ss ss.length):=by
 intro d
 induction d with
 | zero =>
   intro j tm K hd hj hI
   have hjl:j=ss.length:=by omega
   subst hjl
   have hI0:=hI
   obtain ⟨hlen,h11,h67,h68,h69,hI5⟩:=hI
   have hlt:ltB (((ss.length:Nat)):Int) (ss.length:Nat)=false:=db (by omega)
   rw [LM]
   simp -implicitDefEqProofs only [FG,Tryz.f10,aP,hlen,h11,h67,h68,h69,hlt,↓cbT,↓cbF,↓ao,an,eu,sevalprocAttr]
   refine ⟨_,K,rfl,?_⟩
   exact ⟨by first | exact hlen | simp only [ar,hlen],Aj4 (by simp only [hlen,h11,h67,h68,h69,gB,and_self,sevalprocAttr]) hI5⟩
 | succ d ih =>
   intro j tm K hd hj hI
   have hI0:=hI
   obtain ⟨hlen,h11,h67,h68,h69,hI5⟩:=hI
   have hjN:j < ss.length:=by omega
   have hlt:ltB (j:Int) (ss.length:Nat)=true:=cQ (by omega)
   have hw:=cD (j:=j) (by omega)
   obtain ⟨hX5,vq,hKq,prq,hprq,hoq,hitq⟩:=hI5
   have hAH:al H K:=fun i hi=>(hX5.2 i (bm hi hH.len) (by omega)).trans (hH i hi)
   obtain ⟨i0,k0,w0,hix0,hrd0,hxs⟩:=hs.at hAH hjN
   have hln:=hxs.len
   have hsm:=hxl _ (gO hjN)
   have ht:ss.take (j+1)=ss.take j++[aR ss j]:=by rw [fW,ny hjN]; rfl
   have hDq:∀ d∈dV vq D,d < K.length:=fun d hd=>by
     rcases DT.1 hd with h | h
     · exact (gH hoq h).2
     · exact bm (hDl d h) hX5.1
   generalize aR ss j=xs at *
   rw [LM]
   rw [<-af K]
   have key:∀ (tmN:List AV) (KN:AH) (Z:Option (bu × St)),EvC aa C0 W0 lO EY (tmN,KN)=Z->(tmN.length=100/\tmN.getD 11 uA=.ptr q 0/\tmN.getD 67 uA=vs/\tmN.getD 68 uA=I ss.length/\tmN.getD 69 uA=I (((j+1):Nat):Int)/\r8 D K5 KN q cv mv av f ss (j+1))->∃ X K1,Z=some (.exit 2,(X,K1))/\(X.length=100/\X.getD 11 uA=.ptr q 0/\X.getD 67 uA=vs/\X.getD 68 uA=I ss.length/\X.getD 69 uA=I ((ss.length:Nat):Int)/\r8 D K5 K1 q cv mv av f ss ss.length):=by
     intro tmN KN Z h hJ
     obtain ⟨X,K1,A,B⟩:=ih (j+1) tmN KN (by omega) (by omega) hJ
     exact ⟨X,K1,h.symm.trans A,B⟩
   simp -implicitDefEqProofs only [FG,Tryz.f10,aP,hlen,h11,h67,h68,h69,hlt,hw,hix0,hrd0,hln,r5,↓az,nck,↓cbT,↓cbF,↓ao,an,eu,sevalprocAttr]
   simp only [af]
   generalize hZ:EvC aa C0 W0 _ (Code.loop _) _=Z
   obtain ⟨X,K1,he,xl,x11,x67,x68,x69,_,_,_,hA1,v,x16,pri,hpri,hov,hargs⟩:=Jc (H:=H) (vs:=vs) (q:=q) (n:=ss.length) (i:=j) (D:=dV vq D) hZ hAH hxs hsm.1 hsm.2 hDq (by omega) ⟨by simp only [ls,hlen],Aj6 (by simp only [hlen,h11,h67,h68,h69,gB,and_self,sevalprocAttr]) ⟨by simp only [hlen,gB,sevalprocAttr]; try rfl,al.refl K,.nilSlice,by simp only [hlen,gB,sevalprocAttr],[],rfl,.nil,by simp⟩⟩
   subst he
   rw [List.take_length] at hpri
   have hq1:K1[q]? =some (.cells (lj cv mv vq av f rc0 0) 71):=hA1.get hKq
   have hq9:ak K1 q 9 1=some [vq]:=by
     unfold ak
     rw [hq1]
     simp only
     rw [if_pos (by rw [nA _ _ _ _ _ rfl]; decide)]; rfl
   have hvc:=hov.cells
   have hvc1:=hvc.1
   have hvc2:=hvc.2
   have hb25:=Qr hvc hov.sh K1
   have hprl:prq.length=j:=by
     have:=congrArg fU hprq
     rw [au,eW,qM (vD hjN)] at this; exact this
   have hlq:bz vq=j:=by
     have:=hoq.length
     rw [au,hprl,Nat.mul_one] at this; exact this.symm
   have hoq1:=(hoq.aX hA1).aX (al.app K1 [bo.cells [v] 31])
   obtain ⟨vq',K2,happ,hown',hll,hsame,hblk⟩:=wh Mi hoq1 (by rw [ai]; exact bc (bc hX5.1 hA1.len) (cm _ _)) (x:=.slice K1.length 0 1 1 1 true) (new:=[v]) (.at _ _ _ _ _ _ (by rw [gu]; rfl)) (by simp [hvc2]) (il b31 (by rw [hlq,cg]; omega))
   have hqb:bZ vq≠some q:=fun e=>by have:=(gH hoq e).1; omega
   have hq1l:=aJ hq1
   have hq2:K2[q]? =some (.cells (lj cv mv vq av f rc0 0) 71):=by
     rw [hsame q (by rw [ai]; exact MH _ hq1l) hqb,aq hq1l]; exact hq1
   have hvq':=hown'.cells
   have hvq1:=hvq'.1
   have hvq2:=hvq'.2
   have hwr:=Hw hq2 (k:=9) (x:=vq') (by rw [nA _ _ _ _ _ rfl]; decide) hvq2
   rw [Gb] at hwr
   simp -implicitDefEqProofs only [xl,x11,x67,x68,x69,x16,hw,hq9,hb25,↓hvc1,↓hvq1,↓ck,happ,Q8,hwr,r5,↓az,nck,↓cbT,↓cbF,↓ao,an,eu,sevalprocAttr]
   generalize hX':EvC aa C0 W0 _ _ _=Z
   refine key _ _ _ hX' ?_
   refine ⟨by first | exact xl | simp only [ar,xl],Aj4 (by simp only [xl,x11,x67,x68,x69,gB,and_self,sevalprocAttr]) (⟨⟨?_,?_⟩,vq',?_,prq++[(xs,v)],?_,?_,?_⟩)⟩
   · rw [ar]; rw [ai] at hll; exact bc (bc hX5.1 hA1.len) (bc (cm _ _) hll)
   · intro b hb hne
     have hbK:b < K.length:=bm hb hX5.1
     rw [aB (Ne.symm hne),hsame b (by rw [ai]; exact MH _ (bm hbK hA1.len)) (fun e=>by have:=(gH hoq e).1; omega),aq (bm hbK hA1.len),hA1 b hbK]
     exact hX5.2 b hb hne
   · rw [bI (aJ hq2)]
   · rw [dX,hprq,ht]; rfl
   · rw [dX]
     exact hown'.other fun b k e l c x hv=>aB (fun h=>by have:=(gH hown' (i:=b) (by rw [hv]; rfl)).1; omega)
   · have hgv:∀ b o,b∉D->bZ vq≠some b->b < K1.length+1->(K1++[bo.cells [v] 31])[b]? =some o->(dD D (bC vq' (K2.set q (.cells (lj cv mv vq' av f rc0 0) 71))))[b]? =some o:=fun b o hbD hbv hbl hbo=>by
       rw [jJ D _ b hbD,cI,aB (fun e=>hbD (by rw [<-e]; exact hqD)),hsame b (by rw [ai]; exact hbl) hbv]
       · exact hbo
       · intro e
         rcases hblk b e with h | h
         · exact hbv h
         · rw [ai] at h; exact absurd hbl (Nat.not_lt.2 h)
     intro p hp
     rcases bJ.1 hp with h | h
     · refine (hitq p h).sub fun b o hb ho=>?_
       have hbD:b∉D:=fun h=>(ij D (bC vq K) b h).ne hb ho rfl
       rw [jJ D _ b hbD] at hb
       have hbv:bZ vq≠some b:=fun e=>(mm (K:=K) e).ne hb ho rfl
       rw [cI hbv] at hb
       have hbK:=aJ hb
       exact hgv b o hbD hbv (bm hbK (bc hA1.len (Nat.le_succ _))) (by rw [aq (bm hbK hA1.len)]; exact hA1.get hb)
     · rw [bg] at h
       subst h
       obtain ⟨_,n1,n2,n3,n4⟩:=hxs
       have hov2:Own K.length (dD D (bC vq' (K2.set q (.cells (lj cv mv vq' av f rc0 0) 71)))) 9 34 v (pri.map dQ).flatten:=hov.other fun b k e l c x hv=>by
         have hb:=gH hov (i:=b) (by rw [hv]; rfl)
         have hbo:=aj hb.2
         rw [hbo]
         exact hgv b _ (fun h=>by have:=hDl b h; have:=hX5.1; omega) (fun e=>by have:=(gH hoq e).2; omega) (Hq hb.2) (by rw [aq hb.2]; exact hbo)
       refine ⟨⟨pri,hpri,?_,fun p hp=>(hargs p hp).sub fun b o hb ho=>?_⟩,n1,n2,n3,n4⟩
       · exact Own.nz mL (by decide) hov2 (eU pri)
       · have hbD:b∉dV vq D:=fun h=>(ij _ (bC v K1) b h).ne hb ho rfl
         rw [jJ _ _ b hbD] at hb
         have hbv:bZ v≠some b:=fun e=>(mm (K:=K1) e).ne hb ho rfl
         rw [cI hbv] at hb
         have hbl:=aJ hb
         exact hgv b o (fun h=>hbD (DT.2 (.inr h))) (fun e=>hbD (DT.2 (.inl e))) (Hq hbl) (by rw [aq hbl]; exact hb)
theorem Jb {H K5:AH} {ss:List (List Itm)} {vs cv mv av:AV} {f:Con} {q:Nat} {D:List Nat} {tm:List AV} {K:AH} {Z:Option (bu × St)} (hX:EvC aa C0 W0 lO EY (tm,K)=Z) (hH:al H K5) (hHq:H.length<=q) (hq5:q < K5.length) (hs:da H ss vs) (hn4:ss.length<=4) (hxl:∀ xs∈ss,xs.length<=1000/\∀ x∈xs,x.args.length<=1000) (hqD:q∈D) (hDl:∀ d∈D,d < K5.length) (hN:ss.length < 2 ^ 60) (hI:tm.length=100/\tm.getD 11 uA=.ptr q 0/\tm.getD 67 uA=vs/\tm.getD 68 uA=I ss.length/\tm.getD 69 uA=I ((0:Nat):Int)/\r8 D K5 K q cv mv av f ss 0) :
   ∃ X K1,Z=some (.exit 2,(X,K1))/\(X.length=100/\X.getD 11 uA=.ptr q 0/\X.getD 67 uA=vs/\X.getD 68 uA=I ss.length/\X.getD 69 uA=I ((ss.length:Nat):Int)/\r8 D K5 K1 q cv mv av f ss ss.length):=by
 subst hX
 exact OD hH hHq hq5 hs hn4 hxl hqD hDl hN (ss.length) 0 tm K (by omega) (by omega) hI
end Go.Dv
