/- Part 18 of the walks (own work). -/
import Derived.Test.YtilpjnckfkjkbaaGreatDoorZ17
set_option maxRecDepth 100000
set_option maxHeartbeats 4000000
set_option linter.unusedSimpArgs false
set_option linter.unusedVariables false
namespace Go.Dv
open Go.Proofs
attribute [local congr] bind_congr_first cb_congr condA_congr gd_congr br_congr
def AgX (G K:AH) (c:Nat):Prop:=G.length<=K.length/\∀ i,i < G.length->i≠c->K[i]? =G[i]?
theorem AgX.refl (G:AH) (c:Nat):AgX G G c:=⟨Nat.le_refl _,fun _ _ _=>rfl⟩
theorem spl_rows {A B:List (List AV)} {r r':List AV} {k:Nat} (hA:A.flatten.length=k) (hr:r.length=r'.length):spl (A++r::B).flatten k r'=(A++r'::B).flatten:=by
 rw [List.flatten_append,List.flatten_append,List.flatten_cons,List.flatten_cons,spl_append _ _ _ (by rw [List.length_append,List.length_append]; omega),<-hA,<-hr]
 rw [List.take_left',List.drop_append,List.drop_of_length_le (by omega),Nat.add_sub_cancel_left,List.nil_append,List.drop_left' rfl,List.append_assoc]
 rfl
theorem wr_objs {K:AH} {b:Nat} {cs:List AV} {e:TypeId} (h:K[b]? =some (.cells cs e)) {k:Nat} {xs:List AV} (hk:k+xs.length<=cs.length) (hx:xs.all AV.one=true) (L:AH):wrCells (K++L) b k xs=some (K.set b (.cells (spl cs k xs) e)++L):=by
 have hb:=lt_of_get h
 unfold wrCells
 rw [List.getElem?_append_left hb,h]
 simp only
 rw [if_pos ⟨hk,hx⟩,List.set_append_left _ _ hb]
def orow (p:Cod × AV × AV × AV):List AV:=rowC p.1 p.2.1 p.2.2.1 p.2.2.2
theorem orow_len (l:List (Cod × AV × AV × AV)):∀ r∈l.map orow,r.length=5:=by
 intro r hr
 obtain ⟨p,_,rfl⟩:=List.mem_map.1 hr
 rfl
def killD:List Nat->AH->AH
 | [],K=>K
 | d::D,K=>killD D (K.set d .dead)
theorem killD_len:∀ (D:List Nat) (K:AH),(killD D K).length=K.length
 | [],_=>rfl
 | d::D,K=>by rw [killD,killD_len D,List.length_set]
theorem killD_app:∀ (D:List Nat) (K L:AH),(∀ d∈D,d < K.length)->killD D (K++L)=killD D K++L
 | [],_,_,_=>rfl
 | d::D,K,L,h=>by
   rw [killD,killD,List.set_append_left _ _ (h d (by simp)),killD_app D _ L fun x hx=>by rw [List.length_set]; exact h x (by simp [hx])]
theorem killD_set1:∀ (D:List Nat) (K:AH) (d:Nat),killD D (K.set d .dead)=(killD D K).set d .dead
 | [],_,_=>rfl
 | e::D,K,d=>by
   rw [killD,killD,<-killD_set1 D]
   rcases Decidable.em (d=e) with h | h
   · subst h; rfl
   · rw [List.set_comm _ _ h]
theorem killD_set:∀ (D:List Nat) (K:AH) (c:Nat) (o:AObj),c∈D->killD D (K.set c o)=killD D K
 | d::D,K,c,o,h=>by
   rw [killD,killD]
   rcases Decidable.em (c=d) with e | e
   · subst e; rw [List.set_set]
   · rw [List.set_comm _ _ e]
     exact killD_set D _ c o ((List.mem_cons.1 h).resolve_left e)
theorem killD_get:∀ (D:List Nat) (K:AH) (i:Nat),i∉D->(killD D K)[i]? =K[i]?
 | [],_,_,_=>rfl
 | d::D,K,i,h=>by
   rw [killD,killD_get D _ i fun x=>h (by simp [x]),List.getElem?_set_ne fun e=>h (by simp [e])]
theorem killD_gone:∀ (D:List Nat) (K:AH) (i:Nat),i∈D->Gone (killD D K) i
 | d::D,K,i,h=>by
   rw [killD,killD_set1]
   rcases Decidable.em (i=d) with e | e
   · subst e; exact gone_kill _ _
   · exact (killD_gone D K i ((List.mem_cons.1 h).resolve_left e)).kill d
theorem killD_sub:∀ (D:List Nat) (K:AH),Sub (killD D K) K
 | [],K=>Sub.refl K
 | d::D,K=>(killD_sub D _).trans (Sub.kill K d)
structure CodInv (D:List Nat) (K:AH) (c:Nat) (l0:List (Cod × AV × AV × AV)) (j:Nat):Prop where
 ex:∃ pr:List (Cod × AV × AV × AV),pr.map (·.1)=(l0.take j).map (·.1)/\(∀ p∈pr,CodR (killD D K) p.1 p.2.1 p.2.2.1 p.2.2.2) /\
   (l0≠[]->K[c]? =some (.cells ((pr.map orow)++((l0.drop j).map orow)).flatten 66))
def SmallC (l0:List (Cod × AV × AV × AV)):Prop:=∀ p∈l0,p.1.params.length<=2000/\p.1.shared.length<=2000/\p.1.insns.length<=2000
theorem grow_le {b n:Nat} (hb:Nat.ble b 1000=true) (hn:n<=2000):growOk b n=true:=by
 have:=Nat.le_of_ble_eq_true hb
 unfold growOk
 rw [Bool.and_eq_true,decide_eq_true_iff,decide_eq_true_iff]
 refine ⟨Nat.le_trans (Nat.mul_le_mul (show n+n / 4+600<=5000 by omega) this) (by decide),by omega⟩
theorem b74:Nat.ble (Tryz.prog.bytesOf 74) 1000=true:=by kernel_rfl
theorem b77:Nat.ble (Tryz.prog.bytesOf 77) 1000=true:=by kernel_rfl
theorem b80:Nat.ble (Tryz.prog.bytesOf 80) 1000=true:=by kernel_rfl
theorem b66:Nat.ble (Tryz.prog.bytesOf 66) 1000=true:=by kernel_rfl
theorem b34:Nat.ble (Tryz.prog.bytesOf 34) 1000=true:=by kernel_rfl
theorem rowP_len (l:List Prm):∀ r∈l.map rowP,r.length=2:=by
 intro r hr; obtain ⟨p,_,rfl⟩:=List.mem_map.1 hr; rfl
theorem rowA_len (l:List Arr):∀ r∈l.map rowA,r.length=2:=by
 intro r hr; obtain ⟨p,_,rfl⟩:=List.mem_map.1 hr; rfl
theorem rowI_len (l:List Ins):∀ r∈l.map rowI,r.length=8:=by
 intro r hr; obtain ⟨p,_,rfl⟩:=List.mem_map.1 hr; rfl
theorem codL_R {H K:AH} {cod:Cod} {vp vz vi:AV} (h:CodR H cod vp vz vi) :
   CodR (K++codL K cod.name cod.loc vp vz vi (cod.params.map rowP) (cod.shared.map rowA) (cod.insns.map rowI)) cod (cloneV 2 (cod.params.map rowP).length vp (K.length+1)) (cloneV 2 (cod.shared.map rowA).length vz (K.length+((cloneL 74 vp (cod.params.map rowP).flatten).length+1))) (cloneV 8 (cod.insns.map rowI).length vi (K.length+((cloneL 74 vp (cod.params.map rowP).flatten).length+((cloneL 77 vz (cod.shared.map rowA).flatten).length+1)))):=by
 generalize hb:AObj.cells [.str cod.name,cloneV 2 (cod.params.map rowP).length vp (K.length+1),cloneV 2 (cod.shared.map rowA).length vz (K.length+((cloneL 74 vp (cod.params.map rowP).flatten).length+1)),I cod.loc,cloneV 8 (cod.insns.map rowI).length vi (K.length+((cloneL 74 vp (cod.params.map rowP).flatten).length+((cloneL 77 vz (cod.shared.map rowA).flatten).length+1)))] 66=bx
 have hK:codL K cod.name cod.loc vp vz vi (cod.params.map rowP) (cod.shared.map rowA) (cod.insns.map rowI)=bx::(cloneL 74 vp (cod.params.map rowP).flatten++(cloneL 77 vz (cod.shared.map rowA).flatten++cloneL 80 vi (cod.insns.map rowI).flatten)):=by rw [<-hb]; rfl
 rw [hK]
 generalize hL1:cloneL 74 vp (cod.params.map rowP).flatten=L1
 generalize hL2:cloneL 77 vz (cod.shared.map rowA).flatten=L2
 generalize hL3:cloneL 80 vi (cod.insns.map rowI).flatten=L3
 have o1:=cloneV_own (E:=74) (es:=2) (G:=K++[bx]) (v:=vp) (xs:=(cod.params.map rowP).flatten) (n:=(cod.params.map rowP).length) (by decide) (flat_len (rowP_len _)) (fun e=>by rw [nil_of h.p e]; rfl)
 have o2:=cloneV_own (E:=77) (es:=2) (G:=K++bx::L1) (v:=vz) (xs:=(cod.shared.map rowA).flatten) (n:=(cod.shared.map rowA).length) (by decide) (flat_len (rowA_len _)) (fun e=>by rw [nil_of h.s e]; rfl)
 have o3:=cloneV_own (E:=80) (es:=8) (G:=K++bx::(L1++L2)) (v:=vi) (xs:=(cod.insns.map rowI).flatten) (n:=(cod.insns.map rowI).length) (by decide) (flat_len (rowI_len _)) (fun e=>by rw [nil_of h.i e]; rfl)
 rw [hL1,List.length_append,List.length_singleton] at o1
 rw [hL2,List.length_append,List.length_cons] at o2
 rw [hL3,List.length_append,List.length_cons,List.length_append,Nat.add_assoc] at o3
 have a1:Agree ((K++[bx])++L1) (K++bx::(L1++(L2++L3))):=by
   have:=Agree.app ((K++[bx])++L1) (L2++L3)
   simpa only [List.append_assoc,List.cons_append,List.nil_append] using this
 have a2:Agree ((K++bx::L1)++L2) (K++bx::(L1++(L2++L3))):=by
   have:=Agree.app ((K++bx::L1)++L2) L3
   simpa only [List.append_assoc,List.cons_append,List.nil_append] using this
 have a3:Agree ((K++bx::(L1++L2))++L3) (K++bx::(L1++(L2++L3))):=by
   have:(K++bx::(L1++L2))++L3=K++bx::(L1++(L2++L3)):=by simp only [List.append_assoc,List.cons_append]
   rw [this]; exact Agree.refl _
 have s1:=(Own.slsG ix62T (by decide) o1 (rowP_len _)).same (G:=K++bx::(L1++(L2++L3))) a1
 have s2:=(Own.slsG ix63T (by decide) o2 (rowA_len _)).same (G:=K++bx::(L1++(L2++L3))) a2
 have s3:=(Own.slsG ix64T (by decide) o3 (rowI_len _)).same (G:=K++bx::(L1++(L2++L3))) a3
 exact { h with p:=s1,s:=s2,i:=s3 }
theorem codL_killD (D:List Nat) (K:AH) (nm:ByteArray) (loc:Int) (vp vz vi:AV) (rp rz ri:List (List AV)):codL (killD D K) nm loc vp vz vi rp rz ri=codL K nm loc vp vz vi rp rz ri:=by
 unfold codL; rw [killD_len]
theorem reg10_8' {K:AH} {nm:ByteArray} {vp vz vi:AV} {loc:Int} {rp rz ri:List (List AV)} (h29:∀ L,Ev Tryz.prog C0 W0 29 [vp] (K++L)=some (cloneV 2 rp.length vp (K.length+L.length),K++(L++cloneL 74 vp rp.flatten))) (h30:∀ L,Ev Tryz.prog C0 W0 30 [vz] (K++L)=some (cloneV 2 rz.length vz (K.length+L.length),K++(L++cloneL 77 vz rz.flatten))) (h31:∀ L,Ev Tryz.prog C0 W0 31 [vi] (K++L)=some (cloneV 8 ri.length vi (K.length+L.length),K++(L++cloneL 80 vi ri.flatten))) (hvp:vp.cells=[vp]/\vp.one=true) (hvz:vz.cells=[vz]/\vz.one=true) (hvi:vi.cells=[vi]/\vi.one=true) {tm:List AV} {R:Option (AExit × St)} (hR:EvC Tryz.prog C0 W0 pl10 (atPath [true,true,true,false,true,false,false,true,true,false,false,true,false] (Tryz.f10.body.getD .skip)) (tm,K++[.cells [.str nm,vp,vz,I loc,vi] 66])=R) (hlen:tm.length=100) (h13:tm.getD 13 uA=.ptr K.length 0) :
   ∃ tm',R=some (.normal,(tm',K++codL K nm loc vp vz vi rp rz ri))/\tm'.length=100/\tm'.getD 2 uA=tm.getD 2 uA/\tm'.getD 11 uA=tm.getD 11 uA/\tm'.getD 12 uA=tm.getD 12 uA/\tm'.getD 13 uA=tm.getD 13 uA/\tm'.getD 40 uA=tm.getD 40 uA/\tm'.getD 41 uA=tm.getD 41 uA/\tm'.getD 42 uA=tm.getD 42 uA:=by
 subst hR
 exact reg10_8 h29 h30 h31 hvp hvz hvi hlen h13
theorem new_cod {H K4:AH} {l0:List (Cod × AV × AV × AV)} {vs cv:AV} {q c:Nat} {D:List Nat} (hH:Agree H K4) (hHc:H.length<=c) (hcl:c < K4.length) (hl:∀ p∈l0,CodR H p.1 p.2.1 p.2.2.1 p.2.2.2) (hsm:SmallC l0) (hq:rdCells K4 q 0 1=some [cv]) (hqc:q≠c) (hcD:c∈D) (hDl:∀ d∈D,d < K4.length) (hia:∀ j,j < l0.length->∀ kk,indexAddrA Tryz.prog 22 cv (.int kk (j:Int))=some (.ptr c (j * 5))) (hN:l0.length < 2 ^ 60):∀ (d j:Nat) (tm:List AV) (K:AH),l0.length - j=d->j<=l0.length->(tm.length=100/\tm.getD 2 uA=vs/\tm.getD 11 uA=.ptr q 0/\tm.getD 40 uA=cv/\tm.getD 41 uA=I l0.length/\tm.getD 42 uA=I ((j:Nat):Int)/\AgX K4 K c/\CodInv D K c l0 j) ->
   ∃ X K1,EvC Tryz.prog C0 W0 pl10 l10_0 (tm,K)=some (.exit 0,(X,K1))/\(X.length=100/\X.getD 2 uA=vs/\X.getD 11 uA=.ptr q 0/\X.getD 40 uA=cv/\X.getD 41 uA=I l0.length/\X.getD 42 uA=I ((l0.length:Nat):Int)/\AgX K4 K1 c/\CodInv D K1 c l0 l0.length):=by
 intro d
 induction d with
 | zero =>
   intro j tm K hd hj hI
   have hjl:j=l0.length:=by omega
   subst hjl
   have hI0:=hI
   obtain ⟨hlen,h2x,h11,h40,h41,h42,hX,hC⟩:=hI
   have hlt:ltB (((l0.length:Nat)):Int) (l0.length:Nat)=false:=ltB_f (by omega)
   rw [el10_0]
   simp -implicitDefEqProofs only [b10_0,Tryz.f10,aP,hlen,h2x,h11,h40,h41,h42,hlt,↓cbT,↓cbF,↓evDn,evUp,eu,sevalprocAttr]
   refine ⟨_,K,rfl,?_⟩
   exact ⟨by first | exact hlen | simp only [List.length_set,hlen],Aj5 (by simp only [hlen,h2x,h11,h40,h41,h42,gB,and_self,sevalprocAttr]) ⟨hX,hC⟩⟩
 | succ d ih =>
   intro j tm K hd hj hI
   have hI0:=hI
   obtain ⟨hlen,h2x,h11,h40,h41,h42,hX,hC⟩:=hI
   have hjN:j < l0.length:=by omega
   have hlt:ltB (j:Int) (l0.length:Nat)=true:=ltB_t (by omega)
   have hw:=inc_i (j:=j) (by omega)
   obtain ⟨pr,hpr,hcod,hKc⟩:=hC.ex
   have hK:=hKc (fun e=>by rw [e] at hjN; exact absurd hjN (by simp))
   have hix:=hia j hjN
   have hprl:pr.length=j:=by
     have:=congrArg List.length hpr
     rw [List.length_map,List.length_map,List.length_take,Nat.min_eq_left (Nat.le_of_lt hjN)] at this; exact this
   have hdr:l0.drop j=l0[j]::l0.drop (j+1):=List.drop_eq_getElem_cons hjN
   have hAH:Agree H K:=fun i hi=>(hX.2 i (Nat.lt_of_lt_of_le hi hH.len) (by omega)).trans (hH i hi)
   have hql:q < K4.length:=rd_lt hq
   have hq0:∀ L,rdCells (K++L) q 0 1=some [cv]:=fun L=>by
     unfold rdCells at hq ⊢
     rw [List.getElem?_append_left (Nat.lt_of_lt_of_le hql hX.1),hX.2 q hql hqc]; exact hq
   have hmem:l0[j]∈l0:=List.getElem_mem _
   have hR:=hl _ hmem
   have hS:=hsm _ hmem
   have ht:(l0.take (j+1)).map (·.1)=(l0.take j).map (·.1)++[(l0[j]).1]:=by rw [List.take_add_one,List.getElem?_eq_getElem hjN,List.map_append]; rfl
   rw [hdr] at hK
   generalize l0[j]=p at *
   obtain ⟨cod,vp,vz,vi⟩:=p
   simp only at hR hS ht
   have hfl:(pr.map orow).flatten.length=j * 5:=by rw [flat_len (orow_len pr),List.length_map,hprl]
   have hrd:∀ L,rdCells (K++L) c (j * 5) 5=some [.str cod.name,vp,vz,I cod.loc,vi]:=fun L=>by
     rw [obj_rd hK L,if_pos (by rw [List.flatten_append,List.map_cons,List.flatten_cons,List.length_append,List.length_append,hfl]; show j * 5+5<=j * 5+(5+_); omega)]
     rw [List.flatten_append,List.map_cons,List.flatten_cons,<-hfl,List.drop_left' rfl]; rfl
   have hp1:=hR.p.cells
   have hp2:=hR.p.one
   have hz1:=hR.s.cells
   have hz2:=hR.s.one
   have hi1:=hR.i.cells
   have hi2:=hR.i.one
   have h29:=fun L=>ev29 (hR.p.same hAH) (rowP_len _) (by rw [List.length_map]; exact grow_le b74 hS.1) L
   have h30:=fun L=>ev30 (hR.s.same hAH) (rowA_len _) (by rw [List.length_map]; exact grow_le b77 hS.2.1) L
   have h31:=fun L=>ev31 (hR.i.same hAH) (rowI_len _) (by rw [List.length_map]; exact grow_le b80 hS.2.2) L
   have hwr:=fun L=>wr_objs hK (k:=j * 5) (xs:=[.str cod.name,cloneV 2 (cod.params.map rowP).length vp (K.length+1),cloneV 2 (cod.shared.map rowA).length vz (K.length+((cloneL 74 vp (cod.params.map rowP).flatten).length+1)),I cod.loc,cloneV 8 (cod.insns.map rowI).length vi (K.length+((cloneL 74 vp (cod.params.map rowP).flatten).length+((cloneL 77 vz (cod.shared.map rowA).flatten).length+1)))]) (by
     rw [List.flatten_append,List.map_cons,List.flatten_cons,List.length_append,List.length_append,hfl]; show j * 5+5<=j * 5+(5+_); omega) (by
     have q1:=(cloneV_cells 2 (cod.params.map rowP).length vp (K.length+1)).2
     have q2:=(cloneV_cells 2 (cod.shared.map rowA).length vz (K.length+((cloneL 74 vp (cod.params.map rowP).flatten).length+1))).2
     have q3:=(cloneV_cells 8 (cod.insns.map rowI).length vi (K.length+((cloneL 74 vp (cod.params.map rowP).flatten).length+((cloneL 77 vz (cod.shared.map rowA).flatten).length+1)))).2
     rw [List.all_cons,List.all_cons,List.all_cons,List.all_cons,List.all_cons,q1,q2,q3]; rfl) L
   rw [List.map_cons,spl_rows (r:=orow (cod,vp,vz,vi)) (r':=[.str cod.name,cloneV 2 (cod.params.map rowP).length vp (K.length+1),cloneV 2 (cod.shared.map rowA).length vz (K.length+((cloneL 74 vp (cod.params.map rowP).flatten).length+1)),I cod.loc,cloneV 8 (cod.insns.map rowI).length vi (K.length+((cloneL 74 vp (cod.params.map rowP).flatten).length+((cloneL 77 vz (cod.shared.map rowA).flatten).length+1)))]) hfl rfl] at hwr
   rw [el10_0]
   rw [<-List.append_nil K]
   have key:∀ (tmN:List AV) (KN:AH) (Z:Option (AExit × St)),EvC Tryz.prog C0 W0 pl10 l10_0 (tmN,KN)=Z->(tmN.length=100/\tmN.getD 2 uA=vs/\tmN.getD 11 uA=.ptr q 0/\tmN.getD 40 uA=cv/\tmN.getD 41 uA=I l0.length/\tmN.getD 42 uA=I (((j+1):Nat):Int)/\AgX K4 KN c/\CodInv D KN c l0 (j+1))->∃ X K1,Z=some (.exit 0,(X,K1))/\(X.length=100/\X.getD 2 uA=vs/\X.getD 11 uA=.ptr q 0/\X.getD 40 uA=cv/\X.getD 41 uA=I l0.length/\X.getD 42 uA=I ((l0.length:Nat):Int)/\AgX K4 K1 c/\CodInv D K1 c l0 l0.length):=by
     intro tmN KN Z h hJ
     obtain ⟨X,K1,A,B⟩:=ih (j+1) tmN KN (by omega) (by omega) hJ
     exact ⟨X,K1,h.symm.trans A,B⟩
   simp -implicitDefEqProofs only [b10_0,Tryz.f10,aP,hlen,h2x,h11,h40,h41,h42,hlt,hw,hix,hrd,z66,st66,↓hp1,↓hp2,↓hz1,↓hz2,↓hi1,↓hi2,r5,↓evLd,nck,↓cbT,↓cbF,↓evDn,evUp,eu,sevalprocAttr]
   generalize hZ:EvC Tryz.prog C0 W0 _ (Code.region _ _ _) _=R
   obtain ⟨t,he,tl,t2,t11,t12,t13,t40,t41,t42⟩:=reg10_8' (nm:=cod.name) (loc:=cod.loc) h29 h30 h31 ⟨hp1,hp2⟩ ⟨hz1,hz2⟩ ⟨hi1,hi2⟩ hZ (by simp only [ls,hlen]) (by simp only [hlen,gB,sevalprocAttr])
   subst he
   simp only [hlen,h2x,h11,h40,h41,h42,gB,sevalprocAttr] at t2 t11 t12 t13 t40 t41 t42
   simp -implicitDefEqProofs only [tl,t2,t11,t12,t13,t40,t41,t42,hw,hix,hq0,↓ev_tail plr10_9,codL,st66,hwr,r5,↓evLd,nck,↓cbT,↓cbF,↓evDn,evUp,eu,sevalprocAttr]
   generalize hX':EvC Tryz.prog C0 W0 _ _ _=Z
   refine key _ _ _ hX' ?_
   refine ⟨by simp only [ls,tl],Aj5 (by simp only [tl,t2,t11,t40,t41,t42,gB,and_self,sevalprocAttr]) ⟨⟨?_,?_⟩,⟨?_⟩⟩⟩
   · rw [List.length_append,List.length_set]; exact Nat.le_trans hX.1 (Nat.le_add_right _ _)
   · intro i hi hne
     rw [List.getElem?_append_left (by rw [List.length_set]; exact Nat.lt_of_lt_of_le hi hX.1),List.getElem?_set_ne (Ne.symm hne)]
     exact hX.2 i hi hne
   · have hcK:c < K.length:=Nat.lt_of_lt_of_le hcl hX.1
     have hset:∀ o L,killD D (K.set c o++L)=killD D K++L:=fun o L=>by rw [killD_app D _ _ fun d hd=>by rw [List.length_set]; exact Nat.lt_of_lt_of_le (hDl d hd) hX.1,killD_set D _ c o hcD]
     refine ⟨pr++[(cod,cloneV 2 (cod.params.map rowP).length vp (K.length+1),cloneV 2 (cod.shared.map rowA).length vz (K.length+((cloneL 74 vp (cod.params.map rowP).flatten).length+1)),cloneV 8 (cod.insns.map rowI).length vi (K.length+((cloneL 74 vp (cod.params.map rowP).flatten).length+((cloneL 77 vz (cod.shared.map rowA).flatten).length+1))))],?_,?_,fun _=>?_⟩
     rotate_left 2
     · rw [List.getElem?_append_left (by rw [List.length_set]; exact hcK),List.getElem?_set_self hcK,List.map_append,List.append_assoc]; rfl
     · rw [List.map_append,hpr,ht]; rfl
     · intro p hp
       rw [hset]
       rcases List.mem_append.1 hp with h | h
       · exact (hcod p h).agree (Agree.app _ _)
       · rw [List.mem_singleton] at h
         subst h
         have hh:=codL_R (K:=killD D K) hR
         rw [codL_killD,killD_len] at hh
         exact hh
theorem new_cod' {H K4:AH} {l0:List (Cod × AV × AV × AV)} {vs cv:AV} {q c:Nat} {D:List Nat} {tm:List AV} {K:AH} {Z:Option (AExit × St)} (hX:EvC Tryz.prog C0 W0 pl10 l10_0 (tm,K)=Z) (hH:Agree H K4) (hHc:H.length<=c) (hcl:c < K4.length) (hl:∀ p∈l0,CodR H p.1 p.2.1 p.2.2.1 p.2.2.2) (hsm:SmallC l0) (hq:rdCells K4 q 0 1=some [cv]) (hqc:q≠c) (hcD:c∈D) (hDl:∀ d∈D,d < K4.length) (hia:∀ j,j < l0.length->∀ kk,indexAddrA Tryz.prog 22 cv (.int kk (j:Int))=some (.ptr c (j * 5))) (hN:l0.length < 2 ^ 60) (hI:tm.length=100/\tm.getD 2 uA=vs/\tm.getD 11 uA=.ptr q 0/\tm.getD 40 uA=cv/\tm.getD 41 uA=I l0.length/\tm.getD 42 uA=I ((0:Nat):Int)/\AgX K4 K c/\CodInv D K c l0 0) :
   ∃ X K1,Z=some (.exit 0,(X,K1))/\(X.length=100/\X.getD 2 uA=vs/\X.getD 11 uA=.ptr q 0/\X.getD 40 uA=cv/\X.getD 41 uA=I l0.length/\X.getD 42 uA=I ((l0.length:Nat):Int)/\AgX K4 K1 c/\CodInv D K1 c l0 l0.length):=by
 subst hX
 exact new_cod hH hHc hcl hl hsm hq hqc hcD hDl hia hN (l0.length) 0 tm K (by omega) (by omega) hI
def blkO:AV->Option Nat
 | .slice i _ _ _ _ _=>some i
 | _=>none
def killV (v:AV) (K:AH):AH:=match v with
 | .slice i _ _ _ _ _=>K.set i .dead
 | _=>K
theorem killV_len (v:AV) (K:AH):(killV v K).length=K.length:=by unfold killV; split <;> simp
theorem killV_get {v:AV} {K:AH} {i:Nat} (h:blkO v≠some i):(killV v K)[i]? =K[i]?:=by
 unfold killV
 split
 · rename_i b _ _ _ _ _
   rw [List.getElem?_set_ne fun e=>h (by rw [<-e]; rfl)]
 · rfl
theorem killV_gone {v:AV} {K:AH} {i:Nat} (h:blkO v=some i):Gone (killV v K) i:=by
 cases v <;> simp only [blkO] at h <;> first | (cases h; done) | skip
 cases h
 exact gone_kill K i
theorem killV_sub (v:AV) (K:AH):Sub (killV v K) K:=by
 unfold killV
 split
 · exact Sub.kill K _
 · exact Sub.refl K
theorem killV_app {v:AV} {K:AH} (L:AH) (h:∀ i,blkO v=some i->i < K.length):killV v (K++L)=killV v K++L:=by
 unfold killV
 split
 · rw [List.set_append_left _ _ (h _ rfl)]
 · rfl
theorem append_blk {sT:TypeId} {xT:Option TypeId} {v x v':AV} {K K':AH} (he:appendA Tryz.prog none sT xT v x K=some (v',K')):∀ i,blkO v'=some i->blkO v=some i∨K.length<=i:=by
 unfold appendA at he
 split at he
 · cases he
 simp only [Option.bind_eq_some_iff] at he
 obtain ⟨elem,_,z,_,⟨n,f⟩,_,new,_,he⟩:=he
 split at he
 · split at he
   · split at he
     · cases he; intro i h; cases h
     · split at he
       · obtain ⟨⟨i,H'⟩,hp,he⟩:=Option.map_eq_some_iff.1 he
         cases hp; cases he
         intro i h; cases h; exact .inr (Nat.le_refl _)
       · cases he
   · rename_i i k es len cap ex
     split at he
     · split at he
       · cases he; intro i h; exact .inl h
       · split at he
         · split at he
           · obtain ⟨H',hp,he⟩:=Option.map_eq_some_iff.1 he
             cases he
             intro i h; cases h; exact .inl rfl
           · cases he
         · split at he
           · split at he
             · obtain ⟨old,_,he⟩:=Option.bind_eq_some_iff.1 he
               obtain ⟨⟨j,H'⟩,hp,he⟩:=Option.map_eq_some_iff.1 he
               cases hp; cases he
               intro i h; cases h; exact .inr (Nat.le_refl _)
             · cases he
           · split at he
             · split at he
               · obtain ⟨old,_,he⟩:=Option.bind_eq_some_iff.1 he
                 obtain ⟨⟨j,H'⟩,hp,he⟩:=Option.map_eq_some_iff.1 he
                 cases hp; cases he
                 intro i h; cases h; right; rw [List.length_set]; exact Nat.le_refl _
               · cases he
             · cases he
     · cases he
   · cases he
 · cases he
theorem own_blk {b:Nat} {H:AH} {es:Nat} {elem:TypeId} {v:AV} {xs:List AV} (h:Own b H es elem v xs) {i:Nat} (hv:blkO v=some i):b<=i/\i < H.length:=by
 cases h with
 | nil=>cases hv
 | «at» i2 k2 len2 cap2 ex2 cs2 xs2 hb2 hi2 hl2 hc2 h2=>cases hv; exact ⟨hb2,lt_of_get hi2⟩
theorem app_own {sT elem:TypeId} {xT:Option TypeId} {es:Nat} (T:AppT Tryz.prog sT xT elem es) {b:Nat} {K:AH} {v:AV} {xs:List AV} (ho:Own b K es elem v xs) (hb:b<=K.length) {x:AV} {new:List AV} (hx:Row K es x new)
   (hone:new.all AV.one=true) (hg:growOk (Tryz.prog.bytesOf elem) (lenOfA v+lenOfA x)=true) :
   ∃ v' K',appendA Tryz.prog none sT xT v x K=some (v',K')/\Own b K' es elem v' (xs++new)/\K.length<=K'.length/\(∀ j,j < K.length->blkO v≠some j->K'[j]? =K[j]?)/\(∀ i,blkO v'=some i->blkO v=some i∨K.length<=i):=by
 obtain ⟨v',K',he,hown,hlv,hll,hsame⟩:=append_own T ho hb hx hone hg
 exact ⟨v',K',he,hown,hll,fun j hj hne=>hsame j hj fun i k len cap ex e h=>hne (by rw [e,h]; rfl),append_blk he⟩
theorem killV_step {v v':AV} {K K':AH} (hs:∀ j,j < K.length->blkO v≠some j->K'[j]? =K[j]?) (hb:∀ i,blkO v'=some i->blkO v=some i∨K.length<=i):∀ j,j < K.length->blkO v≠some j->(killV v' K')[j]? =K[j]?:=fun j hj hne=>by
 rw [killV_get,hs j hj hne]
 intro e
 rcases hb j e with h | h
 · exact hne h
 · omega
theorem killVD_sub {D:List Nat} {v v':AV} {K K':AH} (hs:∀ j,j < K.length->blkO v≠some j->K'[j]? =K[j]?) (hb:∀ i,blkO v'=some i->blkO v=some i∨K.length<=i):Sub (killD D (killV v K)) (killD D (killV v' K')):=fun i o hi ho=>by
 have hD:i∉D:=fun h=>(killD_gone D (killV v K) i h).ne hi ho rfl
 rw [killD_get D _ i hD] at hi ⊢
 have hne:blkO v≠some i:=fun e=>(killV_gone (K:=K) e).ne hi ho rfl
 rw [killV_get hne] at hi
 rw [killV_step hs hb i (lt_of_get hi) hne]; exact hi
def xrow (p:Itm × AV):List AV:=rowX p.1 p.2
theorem xrow_len (l:List (Itm × AV)):∀ r∈l.map xrow,r.length=9:=by
 intro r hr; obtain ⟨p,_,rfl⟩:=List.mem_map.1 hr; rfl
theorem z34w:zeroA Tryz.prog 34=some (.agg [I 0,I 0,I 0,I 0,I 0,I 0,I 0,.nilSlice,.int .i32 0]):=by kernel_rfl
theorem bs31' (cs:List AV) (hc:cs.length=9) (H:AH):buildSliceA Tryz.prog none 31 1 [(0,.agg cs)] H=some (.slice H.length 0 9 1 1 true,H++[.cells cs 34]):=by
 rcases cs with _ | ⟨a,_ | ⟨b,_ | ⟨c,_ | ⟨d,_ | ⟨e,_ | ⟨f,_ | ⟨g,_ | ⟨h,_ | ⟨i,_ | ⟨j,l⟩⟩⟩⟩⟩⟩⟩⟩⟩⟩ <;> simp at hc
 kernel_rfl
theorem bs31 (a b c d e f g h i:AV) (H L:AH):buildSliceA Tryz.prog none 31 1 [(0,.agg [a,b,c,d,e,f,g,h,i])] (H++L)=some (.slice (H.length+L.length) 0 9 1 1 true,H++(L++[.cells [a,b,c,d,e,f,g,h,i] 34])):=by rw [bs31' _ rfl,List.length_append,List.append_assoc]
theorem new_itm {H K0:AH} {xs:List Itm} {w0 vs:AV} {q n i:Nat} {D:List Nat} (hH:Agree H K0) (hx:ItmsR H xs w0) (hxl:xs.length<=1000) (hal:∀ x∈xs,x.args.length<=1000) (hDl:∀ d∈D,d < K0.length) (hN:xs.length < 2 ^ 60):∀ (d j:Nat) (tm:List AV) (K:AH),xs.length - j=d->j<=xs.length->(tm.length=100/\tm.getD 11 uA=.ptr q 0/\tm.getD 67 uA=vs/\tm.getD 68 uA=I n/\tm.getD 69 uA=I i/\tm.getD 73 uA=w0/\tm.getD 74 uA=I xs.length/\tm.getD 75 uA=I ((j:Nat):Int)/\Agree K0 K/\∃ v,tm.getD 16 uA=v/\∃ pr:List (Itm × AV),pr.map (·.1)=xs.take j/\Own K0.length K 9 34 v (pr.map xrow).flatten/\∀ p∈pr,SlS 32 1 (killD D (killV v K)) p.2 (p.1.args.map row1)) ->
   ∃ X K1,EvC Tryz.prog C0 W0 pl10 l10_1 (tm,K)=some (.exit 4,(X,K1))/\(X.length=100/\X.getD 11 uA=.ptr q 0/\X.getD 67 uA=vs/\X.getD 68 uA=I n/\X.getD 69 uA=I i/\X.getD 73 uA=w0/\X.getD 74 uA=I xs.length/\X.getD 75 uA=I ((xs.length:Nat):Int)/\Agree K0 K1/\∃ v,X.getD 16 uA=v/\∃ pr:List (Itm × AV),pr.map (·.1)=xs.take xs.length/\Own K0.length K1 9 34 v (pr.map xrow).flatten/\∀ p∈pr,SlS 32 1 (killD D (killV v K1)) p.2 (p.1.args.map row1)):=by
 intro d
 induction d with
 | zero =>
   intro j tm K hd hj hI
   have hjl:j=xs.length:=by omega
   subst hjl
   have hI0:=hI
   obtain ⟨hlen,h11,h67,h68,h69,h73,h74,h75,hA,v,h16,pr,hpr,ho,hargs⟩:=hI
   have hlt:ltB (((xs.length:Nat)):Int) (xs.length:Nat)=false:=ltB_f (by omega)
   rw [el10_1]
   simp -implicitDefEqProofs only [b10_1,Tryz.f10,aP,hlen,h11,h67,h68,h69,h73,h74,h75,h16,hlt,↓cbT,↓cbF,↓evDn,evUp,eu,sevalprocAttr]
   refine ⟨_,K,rfl,?_⟩
   exact ⟨by first | exact hlen | simp only [List.length_set,hlen],Aj7 (by simp only [hlen,h11,h67,h68,h69,h73,h74,h75,gB,and_self,sevalprocAttr]) ⟨hA,v,by simp only [hlen,h16,gB,sevalprocAttr],pr,hpr,ho,hargs⟩⟩
 | succ d ih =>
   intro j tm K hd hj hI
   have hI0:=hI
   obtain ⟨hlen,h11,h67,h68,h69,h73,h74,h75,hA,v,h16,pr,hpr,ho,hargs⟩:=hI
   have hjN:j < xs.length:=by omega
   have hlt:ltB (j:Int) (xs.length:Nat)=true:=ltB_t (by omega)
   have hw:=inc_i (j:=j) (by omega)
   obtain ⟨i1,k1,va,hix,hrd,hsa⟩:=hx.at (hH.trans hA) hjN
   have hsK:=(hsa.same hH).same hA
   have hac:=hsa.cells
   have hao:=hsa.one
   have hxm:=itmAt_mem hjN
   have ht:xs.take (j+1)=xs.take j++[itmAt xs j]:=by rw [List.take_add_one,itmAt_lt hjN]; rfl
   have hlar:=hal _ hxm
   generalize itmAt xs j=x at *
   have h32:=fun L=>ev32i hsK hlar L
   have hwc:=fun b=>(cloneV_cells 1 x.args.length va b).1
   have hwo:=fun b=>(cloneV_cells 1 x.args.length va b).2
   simp only [rowX] at hrd
   have hown:=Own.agree ho (Agree.app K (AObj.cells (rowX x (cloneV 1 x.args.length va (K.length+1))) 34::(cloneL 21 va (i32s x.args)++[.cells (rowX x (cloneV 1 x.args.length va (K.length+1))) 34])))
   have hprl:pr.length=j:=by
     have:=congrArg List.length hpr
     rw [List.length_map,List.length_take,Nat.min_eq_left (Nat.le_of_lt hjN)] at this; exact this
   have hlv:lenOfA v=j:=by
     have:=ho.length
     rw [flat_len (xrow_len pr),List.length_map,hprl] at this
     exact (Nat.eq_of_mul_eq_mul_right (by decide) this).symm
   have hone9:(rowX x (cloneV 1 x.args.length va (K.length+1))).all AV.one=true:=by
     show (AV.one _ && (AV.one _ && (AV.one _ && (AV.one _ && (AV.one _ && (AV.one _ && (AV.one _ && (AV.one _ && (AV.one _ && true)))))))))=true
     rw [hwo]; rfl
   obtain ⟨v',K',happ,hown',hll,hsame,hblk⟩:=app_own at31c hown (by rw [List.length_append]; exact Nat.le_trans hA.len (Nat.le_add_right _ _)) (x:=.slice (K.length+((cloneL 21 va (i32s x.args)).length+1)) 0 9 1 1 true) (new:=rowX x (cloneV 1 x.args.length va (K.length+1))) (.at _ _ _ _ _ _ (by
     rw [rd_app,Nat.add_comm]
     unfold rdCells
     rw [Nat.add_comm,List.getElem?_cons_succ,List.getElem?_append_right (Nat.le_refl _),Nat.sub_self]; rfl)) hone9 (grow_le b34 (by rw [hlv,lenOfA_slice]; omega))
   have happ':=happ
   simp only [rowX,i32s] at happ
   rw [el10_1]
   rw [<-List.append_nil K]
   have key:∀ (tmN:List AV) (KN:AH) (Z:Option (AExit × St)),EvC Tryz.prog C0 W0 pl10 l10_1 (tmN,KN)=Z->(tmN.length=100/\tmN.getD 11 uA=.ptr q 0/\tmN.getD 67 uA=vs/\tmN.getD 68 uA=I n/\tmN.getD 69 uA=I i/\tmN.getD 73 uA=w0/\tmN.getD 74 uA=I xs.length/\tmN.getD 75 uA=I (((j+1):Nat):Int)/\Agree K0 KN/\∃ v,tmN.getD 16 uA=v/\∃ pr:List (Itm × AV),pr.map (·.1)=xs.take (j+1)/\Own K0.length KN 9 34 v (pr.map xrow).flatten/\∀ p∈pr,SlS 32 1 (killD D (killV v KN)) p.2 (p.1.args.map row1))->∃ X K1,Z=some (.exit 4,(X,K1))/\(X.length=100/\X.getD 11 uA=.ptr q 0/\X.getD 67 uA=vs/\X.getD 68 uA=I n/\X.getD 69 uA=I i/\X.getD 73 uA=w0/\X.getD 74 uA=I xs.length/\X.getD 75 uA=I ((xs.length:Nat):Int)/\Agree K0 K1/\∃ v,X.getD 16 uA=v/\∃ pr:List (Itm × AV),pr.map (·.1)=xs.take xs.length/\Own K0.length K1 9 34 v (pr.map xrow).flatten/\∀ p∈pr,SlS 32 1 (killD D (killV v K1)) p.2 (p.1.args.map row1)):=by
     intro tmN KN Z h hJ
     obtain ⟨X,K1,A,B⟩:=ih (j+1) tmN KN (by omega) (by omega) hJ
     exact ⟨X,K1,h.symm.trans A,B⟩
   simp -implicitDefEqProofs only [b10_1,Tryz.f10,aP,hlen,h11,h67,h68,h69,h73,h74,h75,h16,hlt,hw,hix,hrd,z34w,st34,st32,↓hac,↓hao,↓hwc,↓hwo,↓fc32,h32,bs31,↓callA_append,happ,r5,↓evLd,nck,↓cbT,↓cbF,↓evDn,evUp,eu,sevalprocAttr]
   generalize hX:EvC Tryz.prog C0 W0 _ _ _=Z
   refine key _ _ _ hX ?_
   refine ⟨by first | exact hlen | simp only [List.length_set,hlen],Aj7 (by simp only [hlen,h11,h67,h68,h69,h73,h74,h75,gB,and_self,sevalprocAttr]) ⟨?_,v',by simp only [hlen,h16,gB,sevalprocAttr],pr++[(x,cloneV 1 x.args.length va (K.length+1))],?_,?_,?_⟩⟩
   · intro b hb
     rw [hsame b (by rw [List.length_append]; exact Nat.lt_of_lt_of_le hb (Nat.le_trans hA.len (Nat.le_add_right _ _))) (fun e=>by have:=(own_blk ho e).1; omega),List.getElem?_append_left (Nat.lt_of_lt_of_le hb hA.len),hA b hb]
   · rw [List.map_append,hpr,ht]; rfl
   · rw [List.map_append,List.flatten_append]
     have e:([(x,cloneV 1 x.args.length va (K.length+1))].map xrow).flatten=rowX x (cloneV 1 x.args.length va (K.length+1)):=by
       show rowX x _++[]=_
       rw [List.append_nil]
     rw [e]; exact hown'
   · have hvl:∀ b,blkO v=some b->b < K.length:=fun b hb=>(own_blk ho hb).2
     have hDK:∀ d∈D,d < (killV v K).length:=fun d hd=>by rw [killV_len]; exact Nat.lt_of_lt_of_le (hDl d hd) hA.len
     have hS:=killVD_sub (D:=D) hsame hblk
     rw [killV_app _ hvl,killD_app D _ _ hDK] at hS
     intro p hp
     rcases List.mem_append.1 hp with h | h
     · exact ((hargs p h).app _).sub hS
     · rw [List.mem_singleton] at h
       subst h
       refine SlS.sub ?_ hS
       have hl1:(killD D (killV v K)++[AObj.cells (rowX x (cloneV 1 x.args.length va (K.length+1))) 34]).length=K.length+1:=by rw [List.length_append,killD_len,killV_len]; rfl
       have hc:=cloneV_own (E:=21) (es:=1) (G:=killD D (killV v K)++[AObj.cells (rowX x (cloneV 1 x.args.length va (K.length+1))) 34]) (v:=va) (xs:=i32s x.args) (n:=x.args.length) (by decide) (by unfold i32s; simp) (fun e=>by have:=nil_of hsa e; unfold i32s; simpa using this)
       rw [hl1] at hc
       have:=hc.s32.app [AObj.cells (rowX x (cloneV 1 x.args.length va (K.length+1))) 34]
       simpa only [List.append_assoc,List.cons_append,List.nil_append] using this
theorem new_itm' {H K0:AH} {xs:List Itm} {w0 vs:AV} {q n i:Nat} {D:List Nat} {tm:List AV} {K:AH} {Z:Option (AExit × St)} (hX:EvC Tryz.prog C0 W0 pl10 l10_1 (tm,K)=Z) (hH:Agree H K0) (hx:ItmsR H xs w0) (hxl:xs.length<=1000) (hal:∀ x∈xs,x.args.length<=1000) (hDl:∀ d∈D,d < K0.length) (hN:xs.length < 2 ^ 60) (hI:tm.length=100/\tm.getD 11 uA=.ptr q 0/\tm.getD 67 uA=vs/\tm.getD 68 uA=I n/\tm.getD 69 uA=I i/\tm.getD 73 uA=w0/\tm.getD 74 uA=I xs.length/\tm.getD 75 uA=I ((0:Nat):Int)/\Agree K0 K/\∃ v,tm.getD 16 uA=v/\∃ pr:List (Itm × AV),pr.map (·.1)=xs.take 0/\Own K0.length K 9 34 v (pr.map xrow).flatten/\∀ p∈pr,SlS 32 1 (killD D (killV v K)) p.2 (p.1.args.map row1)) :
   ∃ X K1,Z=some (.exit 4,(X,K1))/\(X.length=100/\X.getD 11 uA=.ptr q 0/\X.getD 67 uA=vs/\X.getD 68 uA=I n/\X.getD 69 uA=I i/\X.getD 73 uA=w0/\X.getD 74 uA=I xs.length/\X.getD 75 uA=I ((xs.length:Nat):Int)/\Agree K0 K1/\∃ v,X.getD 16 uA=v/\∃ pr:List (Itm × AV),pr.map (·.1)=xs.take xs.length/\Own K0.length K1 9 34 v (pr.map xrow).flatten/\∀ p∈pr,SlS 32 1 (killD D (killV v K1)) p.2 (p.1.args.map row1)):=by
 subst hX
 exact new_itm hH hx hxl hal hDl hN (xs.length) 0 tm K (by omega) (by omega) hI
def dV (v:AV) (D:List Nat):List Nat:=match blkO v with
 | some b=>b::D
 | none=>D
theorem dV_mem {v:AV} {D:List Nat} {d:Nat}:d∈dV v D↔blkO v=some d∨d∈D:=by
 unfold dV
 cases blkO v with
 | none=>simp
 | some b=>simp [eq_comm]
theorem bs25' {v:AV} (hv:v.cells=[v]/\v.one=true) (hs:v=.nilSlice∨∃ i k es l c e,v=.slice i k es l c e) (H:AH):buildSliceA Tryz.prog none 25 1 [(0,v)] H=some (.slice H.length 0 1 1 1 true,H++[.cells [v] 31]):=by
 rcases hs with rfl | ⟨i,k,es,l,c,e,rfl⟩ <;> kernel_rfl
theorem Own.sh {b:Nat} {H:AH} {es:Nat} {elem:TypeId} {v:AV} {xs:List AV} (h:Own b H es elem v xs):v=.nilSlice∨∃ i k es l c e,v=.slice i k es l c e:=by
 cases h with
 | nil=>exact .inl rfl
 | «at» i k len cap ex cs xs h1 hi hl hc h=>exact .inr ⟨_,_,_,_,_,_,rfl⟩
theorem at25c:AppT Tryz.prog 25 (some 25) 31 1:=⟨by kernel_rfl,⟨(zeroA Tryz.prog 31).getD uA,by kernel_rfl,by kernel_rfl,by (have h:((zeroA Tryz.prog 31).getD uA).cells.length=1:=by kernel_rfl); intro e; rw [e] at h; cases h⟩,by kernel_rfl,by kernel_rfl⟩
theorem b31:Nat.ble (Tryz.prog.bytesOf 31) 1000=true:=by kernel_rfl
theorem rowQ_set9 (vc vm vs vs' va:AV) (f:Con) (rc:List Bool) (en:Int):(rowQ vc vm vs va f rc en).set 9 vs'=rowQ vc vm vs' va f rc en:=rfl
theorem rowQ_len (vc vm vs va:AV) (f:Con) {rc:List Bool} (h:rc.length=16) (en:Int):(rowQ vc vm vs va f rc en).length=28:=by unfold rowQ rowF; simp [h]
def rc0:List Bool:=List.replicate 16 false
structure StrInv (D:List Nat) (K5 K:AH) (q:Nat) (cv mv av:AV) (f:Con) (ss:List (List Itm)) (i:Nat):Prop where
 ag:AgX K5 K q
 ex:∃ vq,K[q]? =some (.cells (rowQ cv mv vq av f rc0 0) 71)/\∃ pr:List (List Itm × AV),pr.map (·.1)=ss.take i/\Own K5.length K 1 31 vq (pr.map (·.2))/\∀ p∈pr,ItmsR (killD D (killV vq K)) p.1 p.2
theorem new_str {H K5:AH} {ss:List (List Itm)} {vs cv mv av:AV} {f:Con} {q:Nat} {D:List Nat} (hH:Agree H K5) (hHq:H.length<=q) (hq5:q < K5.length) (hs:StrsR H ss vs) (hn4:ss.length<=4) (hxl:∀ xs∈ss,xs.length<=1000/\∀ x∈xs,x.args.length<=1000) (hqD:q∈D) (hDl:∀ d∈D,d < K5.length) (hN:ss.length < 2 ^ 60):∀ (d j:Nat) (tm:List AV) (K:AH),ss.length - j=d->j<=ss.length->(tm.length=100/\tm.getD 11 uA=.ptr q 0/\tm.getD 67 uA=vs/\tm.getD 68 uA=I ss.length/\tm.getD 69 uA=I ((j:Nat):Int)/\StrInv D K5 K q cv mv av f ss j) ->
   ∃ X K1,EvC Tryz.prog C0 W0 pl10 l10_2 (tm,K)=some (.exit 2,(X,K1))/\(X.length=100/\X.getD 11 uA=.ptr q 0/\X.getD 67 uA=vs/\X.getD 68 uA=I ss.length/\X.getD 69 uA=I ((ss.length:Nat):Int)/\StrInv D K5 K1 q cv mv av f ss ss.length):=by
 intro d
 induction d with
 | zero =>
   intro j tm K hd hj hI
   have hjl:j=ss.length:=by omega
   subst hjl
   have hI0:=hI
   obtain ⟨hlen,h11,h67,h68,h69,hI5⟩:=hI
   have hlt:ltB (((ss.length:Nat)):Int) (ss.length:Nat)=false:=ltB_f (by omega)
   rw [el10_2]
   simp -implicitDefEqProofs only [b10_2,Tryz.f10,aP,hlen,h11,h67,h68,h69,hlt,↓cbT,↓cbF,↓evDn,evUp,eu,sevalprocAttr]
   refine ⟨_,K,rfl,?_⟩
   exact ⟨by first | exact hlen | simp only [List.length_set,hlen],Aj4 (by simp only [hlen,h11,h67,h68,h69,gB,and_self,sevalprocAttr]) hI5⟩
 | succ d ih =>
   intro j tm K hd hj hI
   have hI0:=hI
   obtain ⟨hlen,h11,h67,h68,h69,hI5⟩:=hI
   have hjN:j < ss.length:=by omega
   have hlt:ltB (j:Int) (ss.length:Nat)=true:=ltB_t (by omega)
   have hw:=inc_i (j:=j) (by omega)
   obtain ⟨hX5,vq,hKq,prq,hprq,hoq,hitq⟩:=hI5
   have hAH:Agree H K:=fun i hi=>(hX5.2 i (Nat.lt_of_lt_of_le hi hH.len) (by omega)).trans (hH i hi)
   obtain ⟨i0,k0,w0,hix0,hrd0,hxs⟩:=hs.at hAH hjN
   have hln:=hxs.len
   have hsm:=hxl _ (strAt_mem hjN)
   have ht:ss.take (j+1)=ss.take j++[strAt ss j]:=by rw [List.take_add_one,strAt_lt hjN]; rfl
   have hDq:∀ d∈dV vq D,d < K.length:=fun d hd=>by
     rcases dV_mem.1 hd with h | h
     · exact (own_blk hoq h).2
     · exact Nat.lt_of_lt_of_le (hDl d h) hX5.1
   generalize strAt ss j=xs at *
   rw [el10_2]
   rw [<-List.append_nil K]
   have key:∀ (tmN:List AV) (KN:AH) (Z:Option (AExit × St)),EvC Tryz.prog C0 W0 pl10 l10_2 (tmN,KN)=Z->(tmN.length=100/\tmN.getD 11 uA=.ptr q 0/\tmN.getD 67 uA=vs/\tmN.getD 68 uA=I ss.length/\tmN.getD 69 uA=I (((j+1):Nat):Int)/\StrInv D K5 KN q cv mv av f ss (j+1))->∃ X K1,Z=some (.exit 2,(X,K1))/\(X.length=100/\X.getD 11 uA=.ptr q 0/\X.getD 67 uA=vs/\X.getD 68 uA=I ss.length/\X.getD 69 uA=I ((ss.length:Nat):Int)/\StrInv D K5 K1 q cv mv av f ss ss.length):=by
     intro tmN KN Z h hJ
     obtain ⟨X,K1,A,B⟩:=ih (j+1) tmN KN (by omega) (by omega) hJ
     exact ⟨X,K1,h.symm.trans A,B⟩
   simp -implicitDefEqProofs only [b10_2,Tryz.f10,aP,hlen,h11,h67,h68,h69,hlt,hw,hix0,hrd0,hln,r5,↓evLd,nck,↓cbT,↓cbF,↓evDn,evUp,eu,sevalprocAttr]
   simp only [List.append_nil]
   generalize hZ:EvC Tryz.prog C0 W0 _ (Code.loop _) _=Z
   obtain ⟨X,K1,he,xl,x11,x67,x68,x69,_,_,_,hA1,v,x16,pri,hpri,hov,hargs⟩:=new_itm' (H:=H) (vs:=vs) (q:=q) (n:=ss.length) (i:=j) (D:=dV vq D) hZ hAH hxs hsm.1 hsm.2 hDq (by omega) ⟨by simp only [ls,hlen],Aj6 (by simp only [hlen,h11,h67,h68,h69,gB,and_self,sevalprocAttr]) ⟨by simp only [hlen,gB,sevalprocAttr]; try rfl,Agree.refl K,.nilSlice,by simp only [hlen,gB,sevalprocAttr],[],rfl,.nil,by simp⟩⟩
   subst he
   rw [List.take_length] at hpri
   have hq1:K1[q]? =some (.cells (rowQ cv mv vq av f rc0 0) 71):=hA1.get hKq
   have hq9:rdCells K1 q 9 1=some [vq]:=by
     unfold rdCells
     rw [hq1]
     simp only
     rw [if_pos (by rw [rowQ_len _ _ _ _ _ rfl]; decide)]; rfl
   have hvc:=hov.cells
   have hvc1:=hvc.1
   have hvc2:=hvc.2
   have hb25:=bs25' hvc hov.sh K1
   have hprl:prq.length=j:=by
     have:=congrArg List.length hprq
     rw [List.length_map,List.length_take,Nat.min_eq_left (Nat.le_of_lt hjN)] at this; exact this
   have hlq:lenOfA vq=j:=by
     have:=hoq.length
     rw [List.length_map,hprl,Nat.mul_one] at this; exact this.symm
   have hoq1:=(hoq.agree hA1).agree (Agree.app K1 [AObj.cells [v] 31])
   obtain ⟨vq',K2,happ,hown',hll,hsame,hblk⟩:=app_own at25c hoq1 (by rw [List.length_append]; exact Nat.le_trans (Nat.le_trans hX5.1 hA1.len) (Nat.le_add_right _ _)) (x:=.slice K1.length 0 1 1 1 true) (new:=[v]) (.at _ _ _ _ _ _ (by rw [rd_app0]; rfl)) (by simp [hvc2]) (grow_le b31 (by rw [hlq,lenOfA_slice]; omega))
   have hqb:blkO vq≠some q:=fun e=>by have:=(own_blk hoq e).1; omega
   have hq1l:=lt_of_get hq1
   have hq2:K2[q]? =some (.cells (rowQ cv mv vq av f rc0 0) 71):=by
     rw [hsame q (by rw [List.length_append]; exact Nat.lt_add_right _ hq1l) hqb,List.getElem?_append_left hq1l]; exact hq1
   have hvq':=hown'.cells
   have hvq1:=hvq'.1
   have hvq2:=hvq'.2
   have hwr:=wr_obj hq2 (k:=9) (x:=vq') (by rw [rowQ_len _ _ _ _ _ rfl]; decide) hvq2
   rw [rowQ_set9] at hwr
   simp -implicitDefEqProofs only [xl,x11,x67,x68,x69,x16,hw,hq9,hb25,↓hvc1,↓hvq1,↓callA_append,happ,st25,hwr,r5,↓evLd,nck,↓cbT,↓cbF,↓evDn,evUp,eu,sevalprocAttr]
   generalize hX':EvC Tryz.prog C0 W0 _ _ _=Z
   refine key _ _ _ hX' ?_
   refine ⟨by first | exact xl | simp only [List.length_set,xl],Aj4 (by simp only [xl,x11,x67,x68,x69,gB,and_self,sevalprocAttr]) (⟨⟨?_,?_⟩,vq',?_,prq++[(xs,v)],?_,?_,?_⟩)⟩
   · rw [List.length_set]; rw [List.length_append] at hll; exact Nat.le_trans (Nat.le_trans hX5.1 hA1.len) (Nat.le_trans (Nat.le_add_right _ _) hll)
   · intro b hb hne
     have hbK:b < K.length:=Nat.lt_of_lt_of_le hb hX5.1
     rw [List.getElem?_set_ne (Ne.symm hne),hsame b (by rw [List.length_append]; exact Nat.lt_add_right _ (Nat.lt_of_lt_of_le hbK hA1.len)) (fun e=>by have:=(own_blk hoq e).1; omega),List.getElem?_append_left (Nat.lt_of_lt_of_le hbK hA1.len),hA1 b hbK]
     exact hX5.2 b hb hne
   · rw [List.getElem?_set_self (lt_of_get hq2)]
   · rw [List.map_append,hprq,ht]; rfl
   · rw [List.map_append]
     exact hown'.other fun b k e l c x hv=>List.getElem?_set_ne (fun h=>by have:=(own_blk hown' (i:=b) (by rw [hv]; rfl)).1; omega)
   · have hgv:∀ b o,b∉D->blkO vq≠some b->b < K1.length+1->(K1++[AObj.cells [v] 31])[b]? =some o->(killD D (killV vq' (K2.set q (.cells (rowQ cv mv vq' av f rc0 0) 71))))[b]? =some o:=fun b o hbD hbv hbl hbo=>by
       rw [killD_get D _ b hbD,killV_get,List.getElem?_set_ne (fun e=>hbD (by rw [<-e]; exact hqD)),hsame b (by rw [List.length_append]; exact hbl) hbv]
       · exact hbo
       · intro e
         rcases hblk b e with h | h
         · exact hbv h
         · rw [List.length_append] at h; exact absurd hbl (Nat.not_lt.2 h)
     intro p hp
     rcases List.mem_append.1 hp with h | h
     · refine (hitq p h).sub fun b o hb ho=>?_
       have hbD:b∉D:=fun h=>(killD_gone D (killV vq K) b h).ne hb ho rfl
       rw [killD_get D _ b hbD] at hb
       have hbv:blkO vq≠some b:=fun e=>(killV_gone (K:=K) e).ne hb ho rfl
       rw [killV_get hbv] at hb
       have hbK:=lt_of_get hb
       exact hgv b o hbD hbv (Nat.lt_of_lt_of_le hbK (Nat.le_trans hA1.len (Nat.le_succ _))) (by rw [List.getElem?_append_left (Nat.lt_of_lt_of_le hbK hA1.len)]; exact hA1.get hb)
     · rw [List.mem_singleton] at h
       subst h
       obtain ⟨_,n1,n2,n3,n4⟩:=hxs
       have hov2:Own K.length (killD D (killV vq' (K2.set q (.cells (rowQ cv mv vq' av f rc0 0) 71)))) 9 34 v (pri.map xrow).flatten:=hov.other fun b k e l c x hv=>by
         have hb:=own_blk hov (i:=b) (by rw [hv]; rfl)
         have hbo:=List.getElem?_eq_getElem hb.2
         rw [hbo]
         exact hgv b _ (fun h=>by have:=hDl b h; have:=hX5.1; omega) (fun e=>by have:=(own_blk hoq e).2; omega) (Nat.lt_succ_of_lt hb.2) (by rw [List.getElem?_append_left hb.2]; exact hbo)
       refine ⟨⟨pri,hpri,?_,fun p hp=>(hargs p hp).sub fun b o hb ho=>?_⟩,n1,n2,n3,n4⟩
       · exact Own.slsG ix31T (by decide) hov2 (xrow_len pri)
       · have hbD:b∉dV vq D:=fun h=>(killD_gone _ (killV v K1) b h).ne hb ho rfl
         rw [killD_get _ _ b hbD] at hb
         have hbv:blkO v≠some b:=fun e=>(killV_gone (K:=K1) e).ne hb ho rfl
         rw [killV_get hbv] at hb
         have hbl:=lt_of_get hb
         exact hgv b o (fun h=>hbD (dV_mem.2 (.inr h))) (fun e=>hbD (dV_mem.2 (.inl e))) (Nat.lt_succ_of_lt hbl) (by rw [List.getElem?_append_left hbl]; exact hb)
theorem new_str' {H K5:AH} {ss:List (List Itm)} {vs cv mv av:AV} {f:Con} {q:Nat} {D:List Nat} {tm:List AV} {K:AH} {Z:Option (AExit × St)} (hX:EvC Tryz.prog C0 W0 pl10 l10_2 (tm,K)=Z) (hH:Agree H K5) (hHq:H.length<=q) (hq5:q < K5.length) (hs:StrsR H ss vs) (hn4:ss.length<=4) (hxl:∀ xs∈ss,xs.length<=1000/\∀ x∈xs,x.args.length<=1000) (hqD:q∈D) (hDl:∀ d∈D,d < K5.length) (hN:ss.length < 2 ^ 60) (hI:tm.length=100/\tm.getD 11 uA=.ptr q 0/\tm.getD 67 uA=vs/\tm.getD 68 uA=I ss.length/\tm.getD 69 uA=I ((0:Nat):Int)/\StrInv D K5 K q cv mv av f ss 0) :
   ∃ X K1,Z=some (.exit 2,(X,K1))/\(X.length=100/\X.getD 11 uA=.ptr q 0/\X.getD 67 uA=vs/\X.getD 68 uA=I ss.length/\X.getD 69 uA=I ((ss.length:Nat):Int)/\StrInv D K5 K1 q cv mv av f ss ss.length):=by
 subst hX
 exact new_str hH hHq hq5 hs hn4 hxl hqD hDl hN (ss.length) 0 tm K (by omega) (by omega) hI
end Go.Dv
