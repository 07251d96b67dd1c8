/- Part 27 of the walks (own work). -/
import Derived.Test.YtilpjnckfkjkbaaGreatDoorZ26
set_option maxRecDepth 100000
set_option maxHeartbeats 4000000
set_option linter.unusedSimpArgs false
set_option linter.unusedVariables false
namespace Go.Dv
open Go.Proofs
attribute [local congr] bind_congr_first cb_congr condA_congr gd_congr br_congr
structure SameLens (m0 m:List (List Int)):Prop where
 n:m.length=m0.length
 b:∀ j,(bufOf m j).length=(bufOf m0 j).length
theorem FitM.same {m0 m:List (List Int)} {x:Itm} (h:FitM m0 x) (s:SameLens m0 m):FitM m x:=
 ⟨h.k0,fun k=>by have:=h.k1 k; rw [s.n,s.b,s.b]; exact this,fun k=>by have:=h.k2 k; rw [s.n]; exact this,h.k3,h.w⟩
theorem SameLens.doM {m0 m:List (List Int)} {x:Itm} (s:SameLens m0 m) (h:FitM m x):SameLens m0 (doM m x):=by
 unfold Go.Dv.doM
 split
 · rename_i k
   obtain ⟨_,_,_,h4,h5⟩:=h.k1 k
   exact ⟨by rw [List.length_set]; exact s.n,fun j=>by
     rw [bufOf_set h4]
     split
     · rename_i e; rw [h5,e,<-s.b]
     · exact s.b j⟩
 · split
   · rename_i k
     obtain ⟨_,h4⟩:=h.k2 k
     exact ⟨by rw [List.length_set]; exact s.n,fun j=>by
       rw [bufOf_set h4]
       split
       · rename_i e; rw [List.length_replicate,e,<-s.b]
       · exact s.b j⟩
   · exact s
theorem left_doA {ss:List (List Itm)} {ad:List Nat} {s:Nat} (hla:ad.length=ss.length) (hs:s < ss.length) (hk:ad.getD s 0 < (strAt ss s).length):∀ n,n<=ss.length->(leftS ss (doA ad s) n).sum+(if s < n then 1 else 0)=(leftS ss ad n).sum
 | 0,_=>rfl
 | n+1,h=>by
   have ih:=left_doA hla hs hk n (by omega)
   rw [leftS_succ,leftS_succ,List.sum_append,List.sum_append,doA_get _ _ _ (by omega)]
   simp only [List.sum_cons,List.sum_nil,Nat.add_zero]
   by_cases e:n=s
   · subst e
     rw [if_pos rfl,if_pos (by omega)]
     rw [if_neg (by omega)] at ih
     omega
   · rw [if_neg e]
     by_cases l:s < n
     · rw [if_pos (by omega)]; rw [if_pos l] at ih; omega
     · rw [if_neg (by omega)]; rw [if_neg l] at ih; omega
def Trod (ss:List (List Itm)) (m0:List (List Int)) (ad:List Nat) (m:List (List Int)) (rc:List Bool):Prop:=
 ∃ L,Qu.RT (qS ss) ad (rF rc) L/\m=L.foldl (Qu.doP (qS ss)) m0
theorem Trod.init (ss:List (List Itm)) (m0:List (List Int)):Trod ss m0 (List.replicate ss.length 0) m0 rc0:=by
 refine ⟨[],?_,rfl⟩
 rw [show rF rc0=fun _=>false from rF_init,<-qS_len ss]
 exact .init
theorem Trod.step {ss:List (List Itm)} {m0:List (List Int)} {ad:List Nat} {m:List (List Int)} {rc:List Bool} (hev:EvOk ss) (hl:rc.length=16) (h:Trod ss m0 ad m rc) {s:Nat} (hs:s∈readyS ss ad rc ss.length) :
   Trod ss m0 (doA ad s) (doM m (itmAt (strAt ss s) (ad.getD s 0))) (doR rc (itmAt (strAt ss s) (ad.getD s 0))):=by
 obtain ⟨L,h1,h2⟩:=h
 refine ⟨_,rt_step hev hl h1 hs,?_⟩
 rw [List.foldl_append,<-h2]
 show _=Qu.doP (qS ss) m (s,ad.getD s 0)
 unfold Qu.doP Qu.at?
 rw [item_qS (okS_lt (readyS_mem hs).2)]; rfl
theorem run_loop {S:AH} {q a:Nat} {ws:List AV} {vc vm vs:AV} {f:Con} {cs:List Cod} {ss:List (List Itm)} {m0:List (List Int)} (hfit:∀ l∈ss,∀ x∈l,FitM m0 x) (hal:∀ l∈ss,∀ x∈l,x.args.length<=1000) :
   ∀ (n:Nat) (ad:List Nat) (m:List (List Int)) (rc:List Bool) (K:AH) (tm:List AV),(leftS ss ad ss.length).sum=n->QueR S K q a ws vc vm vs f cs ss ad m rc->SameLens m0 m->Trod ss m0 ad m rc->tm.length=77->tm.getD 13 uA=.ptr q 0->tm.getD 4 uA=.nilSlice->tm.getD 15 uA=.bool (endB ss ad rc) ->
   ∃ X K' ad' m' rc',EvC Tryz.prog C0 W0 plN l17_0 (tm,K)=some (.exit 0,(X,K'))/\X.length=77/\X.getD 13 uA=.ptr q 0/\K.length<=K'.length/\QueR S K' q a ws vc vm vs f cs ss ad' m' rc'/\SameLens m0 m'/\Trod ss m0 ad' m' rc'/\endB ss ad' rc'=true:=by
 intro n
 induction n using Nat.strongRecOn with
 | ind n ih =>
   intro ad m rc K tm hn h hsl hway hlen h13 h4 h15
   rw [el17_0]
   cases he:endB ss ad rc with
   | true =>
     rw [he] at h15
     simp -implicitDefEqProofs only [b17_0,Tryz.f17,aP,hlen,h13,h4,h15,↓cbT,↓cbF,↓evDn,evUp,eu,sevalprocAttr]
     exact ⟨_,K,ad,m,rc,rfl,by simp only [ls,hlen],by simp only [hlen,h13,gB,sevalprocAttr],Nat.le_refl _,h,hsl,hway,he⟩
   | false =>
     rw [he] at h15
     have he':=he
     unfold endB at he'
     rw [Bool.or_eq_false_iff] at he'
     have hne:readyS ss ad rc ss.length≠[]:=fun e=>by rw [e] at he'; simp at he'
     have hpos:0 < (readyS ss ad rc ss.length).length:=by
       rcases Nat.eq_zero_or_pos (readyS ss ad rc ss.length).length with e | e
       · exact absurd (List.length_eq_zero_iff.1 e) hne
       · exact e
     have hmem:(readyS ss ad rc ss.length).getD 0 0∈readyS ss ad rc ss.length:=getD_mem' hpos 0
     obtain ⟨v,K1,he33,hA33,ho⟩:=ev33 h.view
     obtain ⟨i0,k0,hix,hrd⟩:=ints_at ho.ints (Agree.refl K1) hpos
     have hQ1:=h.grow hA33
     obtain ⟨hs1,hok1⟩:=readyS_mem hmem
     have hkl:=okS_lt hok1
     have hxin:itmAt (strAt ss ((readyS ss ad rc ss.length).getD 0 0)) (ad.getD ((readyS ss ad rc ss.length).getD 0 0) 0)∈strAt ss ((readyS ss ad rc ss.length).getD 0 0):=itmAt_mem hkl
     have hf:=(hfit _ (strAt_mem hs1) _ hxin).same hsl
     have hld:=left_doA h.la hs1 hkl ss.length (Nat.le_refl _)
     rw [if_pos hs1] at hld
     have hstep:=hway.step h.ev h.lr hmem
     have hsl':=hsl.doM hf
     generalize (readyS ss ad rc ss.length).getD 0 0=s at *
     obtain ⟨vx,K2,he34,hQ2,hK2⟩:=ev34 hQ1 hmem hf hal
     have hrd0:rdCells K1 i0 k0 1=some [I (s:Int)]:=by have:=hrd []; rwa [List.append_nil] at this
     have h12:=ev12 hQ2.view
     have l0:ltB 0 0=false:=rfl
     have hix0:=fun kk=>hix kk
     simp only [Int.natCast_zero] at hix0
     simp -implicitDefEqProofs only [b17_0,Tryz.f17,aP,hlen,h13,h4,h15,↓fc33,he33,ln30n,l0,hix0,hrd0,↓fc34,he34,↓fc12,h12,r5,↓evLd,nck,↓cbT,↓cbF,↓evDn,evUp,eu,sevalprocAttr]
     generalize hX:EvC Tryz.prog C0 W0 _ _ _=Z
     have key:∀ (tm1:List AV),EvC Tryz.prog C0 W0 plN l17_0 (tm1,K2)=Z->tm1.length=77->tm1.getD 13 uA=.ptr q 0->tm1.getD 4 uA=.nilSlice->tm1.getD 15 uA=.bool (endB ss (doA ad s) (doR rc (itmAt (strAt ss s) (ad.getD s 0)))) ->
         ∃ X K' ad' m' rc',Z=some (.exit 0,(X,K'))/\X.length=77/\X.getD 13 uA=.ptr q 0/\K.length<=K'.length/\QueR S K' q a ws vc vm vs f cs ss ad' m' rc'/\SameLens m0 m'/\Trod ss m0 ad' m' rc'/\endB ss ad' rc'=true:=by
       intro tm1 hz a1 a2 a3 a4
       obtain ⟨X,K',ad',m',rc',b1,b2,b3,b4,b5⟩:=ih (leftS ss (doA ad s) ss.length).sum (by omega) _ _ _ K2 tm1 rfl hQ2 hsl' hstep a1 a2 a3 a4
       exact ⟨X,K',ad',m',rc',hz.symm.trans b1,b2,b3,Nat.le_trans (Nat.le_trans hA33.len hK2) b4,b5⟩
     exact key _ hX (by simp only [ls,hlen]) (by simp only [hlen,h13,gB,sevalprocAttr]) (by simp only [hlen,h4,gB,sevalprocAttr]) (by simp only [hlen,gB,sevalprocAttr])
theorem run_loop' {S:AH} {q a:Nat} {ws:List AV} {vc vm vs:AV} {f:Con} {cs:List Cod} {ss:List (List Itm)} {m0:List (List Int)} (hfit:∀ l∈ss,∀ x∈l,FitM m0 x) (hal:∀ l∈ss,∀ x∈l,x.args.length<=1000)
   {ad:List Nat} {m:List (List Int)} {rc:List Bool} {K:AH} {tm:List AV} {Z:Option (AExit × St)} (hX:EvC Tryz.prog C0 W0 plN l17_0 (tm,K)=Z) (h:QueR S K q a ws vc vm vs f cs ss ad m rc) (hs:SameLens m0 m) (hw:Trod ss m0 ad m rc) (hlen:tm.length=77) (h13:tm.getD 13 uA=.ptr q 0) (h4:tm.getD 4 uA=.nilSlice) (h15:tm.getD 15 uA=.bool (endB ss ad rc)) :
   ∃ X K' ad' m' rc',Z=some (.exit 0,(X,K'))/\X.length=77/\X.getD 13 uA=.ptr q 0/\K.length<=K'.length/\QueR S K' q a ws vc vm vs f cs ss ad' m' rc'/\SameLens m0 m'/\Trod ss m0 ad' m' rc'/\endB ss ad' rc'=true:=by
 subst hX
 exact run_loop hfit hal _ ad m rc K tm rfl h hs hw hlen h13 h4 h15
theorem fit_of_right {cs:List Cod} {m:List (List Int)} {x:Itm} (h:rightP cs m x=true) (h0:x.kind≠0) (hw:i32R x.word):FitM m x:=by
 have e0:eqB x.kind 0=false:=eqB_f h0
 refine ⟨h0,fun k=>?_,fun k=>?_,fun k=>rightP_ev h (.inl k),hw⟩
 · unfold rightP at h
   rw [e0,br_false,eqB_t k,br_true] at h
   unfold inB lenB at h
   simp only [Bool.and_eq_true,leB_iff,ltB_iff,eqB_iff] at h
   omega
 · have e1:eqB x.kind 1=false:=eqB_f (by omega)
   unfold rightP at h
   rw [e0,br_false,e1,br_false,eqB_t k,br_true] at h
   unfold inB at h
   simp only [Bool.and_eq_true,leB_iff,ltB_iff,eqB_iff] at h
   omega
theorem SameLens.refl (m:List (List Int)):SameLens m m:=⟨rfl,fun _=>rfl⟩
theorem QueR.small {S K:AH} {q a:Nat} {ws:List AV} {vc vm vs:AV} {f:Con} {cs:List Cod} {ss:List (List Itm)} {ad:List Nat} {m:List (List Int)} {rc:List Bool} (h:QueR S K q a ws vc vm vs f cs ss ad m rc):m.length<=100/\∀ b∈m,b.length<=1000:=
 ⟨Nat.le_trans h.nm (by decide),fun b hb=>Nat.le_trans (h.nb b hb) (by decide)⟩
theorem ev17 {H:AH} {cs:List Cod} {m:List (List Int)} {ss:List (List Itm)} {vc vm vs:AV} (hc:CodsR H cs vc) (hm:MemR H m vm) (hs:StrsR H ss vs) (f:Con) (hk:checkP cs m ss f=0) (hnl:∀ l∈ss,∀ x∈l,x.kind≠0):∃ v K ad m' rc',Ev Tryz.prog C0 W0 17 [vc,vm,vs,.agg (rowF f),.nilSlice] H=some (.tuple [v,I (endE ss ad rc'),I 0],K)/\Sub H K/\H.length<=K.length/\MemR K m' v/\SameLens m m'/\Trod ss m ad m' rc'/\endB ss ad rc'=true/\ad.length=ss.length:=by
 have hxb:∀ xs∈ss,xs.length < 2 ^ 50/\∀ x∈xs,i32R x.word:=fun xs hx=>by
   obtain ⟨⟨l2,e2,_,h2⟩,_⟩:=hs
   rw [<-e2] at hx
   obtain ⟨p,hp,rfl⟩:=List.mem_map.1 hx
   exact ⟨(h2 p hp).n,(h2 p hp).iw⟩
 have G:=good_of (fun xs hx=>(hxb xs hx).1) hk
 have hfit:∀ l∈ss,∀ x∈l,FitM m x:=fun l hl x hx=>fit_of_right (G.it l hl x hx) (hnl l hl x hx) ((hxb l hl).2 x hx)
 have hal:∀ l∈ss,∀ x∈l,x.args.length<=1000:=fun l hl x hx=>Nat.le_trans (G.args l hl x hx) (by decide)
 obtain ⟨K,S,q,a,ws,vc',vm',vs',he,hA,hHq,hQ,hAS⟩:=ev10 (hc.agree (Agree.app H [.cells [I f.w,.bool f.free,I f.cores,I f.slots,I f.room,I f.pol,I f.lat] 27])) (hm.agree (Agree.app H [.cells [I f.w,.bool f.free,I f.cores,I f.slots,I f.room,I f.pol,I f.lat] 27])) (hs.agree (Agree.app H [.cells [I f.w,.bool f.free,I f.cores,I f.slots,I f.room,I f.pol,I f.lat] 27])) f hk
 simp only [rowF] at he
 have e0:eqB 0 0=true:=rfl
 have h12:=ev12 hQ.view
 obtain ⟨tm,ht,g0,g1,g2,g3,g4,g5⟩:=tm5 vc vm vs (.agg (rowF f)) (.nilSlice) 77 (by decide)
 rw [fe17,ht]
 simp -implicitDefEqProofs only [c17,Tryz.f17,aP,g0,g1,g2,g3,g4,g5,rowF,↓fc10,he,e0,↓fc12,h12,r5,↓evLd,nck,show ∀ o,put none H o=some (H.length,H++[o]) from fun _=>rfl,↓cbT,↓cbF,↓evDn,evUp,eu,sevalprocAttr]
 generalize hX:EvC Tryz.prog C0 W0 _ (Code.loop _) _=Z
 obtain ⟨X,K',ad',m',rc',hz,x0,x13,hKl,hQ',hsl,hw,hend⟩:=run_loop' hfit hal hX hQ (SameLens.refl m) (Trod.init ss m) (by simp only [ls,g0]) (by simp only [g0,gB,sevalprocAttr]) (by simp only [g0,g5,gB,sevalprocAttr]) (by simp only [g0,gB,sevalprocAttr])
 subst hz
 have h12':=ev12 hQ'.view
 obtain ⟨v,K2,he40,hA40,hm40⟩:=ev40 hQ'.view hQ'.small.1 hQ'.small.2
 refine ⟨v,K2,ad',m',rc',?_,((Agree.app H _).trans hAS).sub.trans (hQ'.sub.agree hA40),?_,hm40,hsl,hw,hend,hQ'.la⟩
 · simp -implicitDefEqProofs only [x0,x13,↓fc12,h12',↓fc40,he40,r5,↓evLd,nck,show ∀ o,put none H o=some (H.length,H++[o]) from fun _=>rfl,↓cbT,↓cbF,↓evDn,evUp,eu,sevalprocAttr]
 · have h1:=hA.len
   rw [List.length_append] at h1
   exact Nat.le_trans (Nat.le_trans (Nat.le_trans (Nat.le_add_right _ _) h1) hKl) hA40.len
theorem ev74 {H:AH} {w:AV} {l:List Nat} {b k:Nat} (hs:SlS 30 1 H w (ints l)) (hl:l.length < 2 ^ 40) (hb:rdCells H b k 1=some [w]) (n:Int):Ev Tryz.prog C0 W0 74 [I n,.ptr b k] H=some (.bool (hasI l n),H):=by
 obtain ⟨tm,ht,g0,g1,g2⟩:=tm2 (I n) (.ptr b k) 7 (by decide)
 rw [fe74,ht]
 rw [<-List.append_nil (ro H)]
 have hb':∀ L,rdCells (ro H++L) b k 1=some [w]:=fun L=>row_rd (ro_rd hb) (Agree.refl _) L
 have h63:=fun L=>ev63 (hs.ro.app L) hl n
 simp -implicitDefEqProofs only [c74,Tryz.f74,aP,g0,g1,g2,hb',↓fc63,h63,r5,↓evLd,nck,↓cbT,↓cbF,↓evDn,evUp,eu,sevalprocAttr]
def meetB (a b:List Nat):Bool:=!allF (fun j=>!hasI b ((a.getD j 0:Nat):Int)) a.length 0
theorem meet_l {H:AH} {v w:AV} {l m:List Nat} {b k:Nat} (hs:SlS 30 1 H v (ints l)) (hw:SlS 30 1 H w (ints m)) (hm:m.length < 2 ^ 40) (hb:rdCells H b k 1=some [w]) (hN:l.length < 2 ^ 60):∀ (d j:Nat) (tm:List AV) (K:AH),l.length - j=d->j<=l.length->Agree H K->tm.length=19->tm.getD 0 uA=v->tm.getD 1 uA=.func (.func 74) [] [.ptr b k]->tm.getD 7 uA=I l.length->tm.getD 8 uA=I ((j:Nat):Int) ->
   ∃ X Y K1 K2,EvC Tryz.prog C0 W0 plN l102_0 (tm,K)=br (allF (fun j=>!hasI m ((l.getD j 0:Nat):Int)) (l.length) (j)) (some (.exit 0,(X,K1))) (some (.ret,(Y,K2)))/\(X.length=19/\Agree H K1/\X.getD 0 uA=v/\X.getD 1 uA=.func (.func 74) [] [.ptr b k]/\X.getD 7 uA=I l.length)/\Y.length=19/\∃ r:Int,0<=r/\Y.getD 4 uA=I r:=by
 intro d
 induction d with
 | zero =>
   intro j tm K hd hj hA hlen h0 h1 h7 h8
   have hjl:j=l.length:=by omega
   subst hjl
   have hlt:ltB (((l.length:Nat)):Int) (l.length:Nat)=false:=ltB_f (by omega)
   rw [allF_end (Nat.le_refl _),el102_0]
   simp -implicitDefEqProofs only [b102_0,Tryz.f102,aP,hlen,h0,h1,h7,h8,hlt,↓cbT,↓cbF,↓evDn,evUp,eu,sevalprocAttr]
   exact ⟨_,tm.set 4 (I 0),_,K,rfl,⟨by first | exact hlen | simp only [List.length_set,hlen],hA,by first | exact h0 | simp only [hlen,h0,gB,sevalprocAttr],by first | exact h1 | simp only [hlen,h1,gB,sevalprocAttr],by first | exact h7 | simp only [hlen,h7,gB,sevalprocAttr]⟩,by simp only [ls,hlen],⟨0,Int.le_refl _,by simp only [hlen,gs_self,Nat.reduceLT]⟩⟩
 | succ d ih =>
   intro j tm K hd hj hA hlen h0 h1 h7 h8
   have hjN:j < l.length:=by omega
   have hlt:ltB (j:Int) (l.length:Nat)=true:=ltB_t (by omega)
   have hwi:=inc_i (j:=j) (by omega)
   obtain ⟨i,kx,hix,hrd⟩:=ints_at hs hA hjN
   have h74:=fun L=>ev74 (hw.same (hA.appR L)) hm (rd_same (hA.appR L) hb) ((l.getD j 0:Nat):Int)
   rw [allF_step hjN,el102_0]
   rw [<-List.append_nil K]
   cases hp:(!hasI m ((l.getD j 0:Nat):Int)) with
   | true =>
     simp only [Bool.true_and]
     rw [Bool.not_eq_true'] at hp
     simp -implicitDefEqProofs only [b102_0,Tryz.f102,aP,hlen,h0,h1,h7,h8,hlt,hwi,hix,hrd,↓callA_value,Tryz.func74,show Tryz.f74.body.isSome=true from rfl,h74,hp,r5,↓evLd,nck,↓cbT,↓cbF,↓evDn,evUp,eu,sevalprocAttr]
     exact ih (j+1) _ _ (by omega) (by omega) (by first | exact hA | exact hA.appR _ | exact (hA.appR _).appR _) (by simp only [ls,hlen]) (by simp only [hlen,h0,gB,sevalprocAttr]) (by simp only [hlen,h1,gB,sevalprocAttr]) (by simp only [hlen,h7,gB,sevalprocAttr]) (by simp only [hlen,h8,gB,sevalprocAttr])
   | false =>
     simp only [Bool.false_and]
     rw [Bool.not_eq_false'] at hp
     simp -implicitDefEqProofs only [b102_0,Tryz.f102,aP,hlen,h0,h1,h7,h8,hlt,hwi,hix,hrd,↓callA_value,Tryz.func74,show Tryz.f74.body.isSome=true from rfl,h74,hp,r5,↓evLd,nck,↓cbT,↓cbF,↓evDn,evUp,eu,sevalprocAttr]
     exact ⟨tm,_,K,_,rfl,⟨hlen,hA,h0,h1,h7⟩,by simp only [ls,hlen],⟨_,Int.natCast_nonneg j,by simp only [hlen,gB,sevalprocAttr]⟩⟩
theorem meet_l' {H:AH} {v w:AV} {l m:List Nat} {b k:Nat} {tm:List AV} {K:AH} {Z:Option (AExit × St)} (hX:EvC Tryz.prog C0 W0 plN l102_0 (tm,K)=Z) (hs:SlS 30 1 H v (ints l)) (hw:SlS 30 1 H w (ints m)) (hm:m.length < 2 ^ 40) (hb:rdCells H b k 1=some [w]) (hN:l.length < 2 ^ 60) (hA:Agree H K) (hlen:tm.length=19) (h0:tm.getD 0 uA=v) (h1:tm.getD 1 uA=.func (.func 74) [] [.ptr b k]) (h7:tm.getD 7 uA=I l.length) (h8:tm.getD 8 uA=I ((0:Nat):Int)) :
   ∃ X Y K1 K2,Z=br (allF (fun j=>!hasI m ((l.getD j 0:Nat):Int)) (l.length) (0)) (some (.exit 0,(X,K1))) (some (.ret,(Y,K2)))/\(X.length=19/\Agree H K1/\X.getD 0 uA=v/\X.getD 1 uA=.func (.func 74) [] [.ptr b k]/\X.getD 7 uA=I l.length)/\Y.length=19/\∃ r:Int,0<=r/\Y.getD 4 uA=I r:=by
 subst hX
 exact meet_l hs hw hm hb hN (l.length) 0 tm K (by omega) (by omega) hA hlen h0 h1 h7 h8
theorem ev102 {H:AH} {v w:AV} {l m:List Nat} {b k:Nat} (hs:SlS 30 1 H v (ints l)) (hw:SlS 30 1 H w (ints m)) (hl:l.length < 2 ^ 40) (hm:m.length < 2 ^ 40) (hb:rdCells H b k 1=some [w]):∃ r,Ev Tryz.prog C0 W0 102 [v,.func (.func 74) [] [.ptr b k]] H=some (I r,H)/\leB 0 r=meetB l m:=by
 obtain ⟨tm,ht,g0,g1,g2⟩:=tm2 v (.func (.func 74) [] [.ptr b k]) 19 (by decide)
 rw [fe102,ht]
 rw [<-List.append_nil (ro H)]
 have hln:=ints_ln hs.ro
 unfold meetB
 simp -implicitDefEqProofs only [c102,Tryz.f102,aP,g0,g1,g2,hln,r5,↓evLd,nck,↓cbT,↓cbF,↓evDn,evUp,eu,sevalprocAttr]
 generalize hX:EvC Tryz.prog C0 W0 _ (Code.loop _) _=Z
 obtain ⟨X,Y,K1,K2,he,xs,y0,y1⟩:=meet_l'  hX hs.ro hw.ro hm (ro_rd hb) (by omega) (Agree.app _ _) (by simp only [ls,g0]) (by simp only [g0,g1,gB,sevalprocAttr]; try rfl) (by simp only [g0,g2,gB,sevalprocAttr]; try rfl) (by simp only [g0,gB,sevalprocAttr]; try rfl) (by simp only [g0,gB,sevalprocAttr]; try rfl)
 subst he
 obtain ⟨r,hr0,hr⟩:=y1
 cases hf:allF (fun j=>!hasI m ((l.getD j 0:Nat):Int)) l.length 0 with
 | true =>
   refine ⟨-1,?_,rfl⟩
   simp -implicitDefEqProofs only [xs.1,hf,↓cbT,↓cbF,↓evDn,evUp,eu,sevalprocAttr]
 | false =>
   refine ⟨r,?_,by rw [(leB_iff _ _).2 hr0]; rfl⟩
   simp -implicitDefEqProofs only [y0,hr,hf,↓cbT,↓cbF,↓evDn,evUp,eu,sevalprocAttr]
theorem ev73 {H:AH} {v w:AV} {l m:List Nat} {b k:Nat} (hs:SlS 30 1 H v (ints l)) (hw:SlS 30 1 H w (ints m)) (hl:l.length < 2 ^ 40) (hm:m.length < 2 ^ 40) (hb:rdCells H b k 1=some [w]):Ev Tryz.prog C0 W0 73 [v,.func (.func 74) [] [.ptr b k]] H=some (.bool (meetB l m),H):=by
 obtain ⟨tm,ht,g0,g1,g2⟩:=tm2 v (.func (.func 74) [] [.ptr b k]) 9 (by decide)
 rw [fe73,ht]
 rw [<-List.append_nil (ro H)]
 obtain ⟨r,hr,hbb⟩:=ev102 (hs.ro.app []) (hw.ro.app []) hl hm (rd_same (Agree.app (ro H) []) (ro_rd hb))
 simp -implicitDefEqProofs only [c73,Tryz.f73,aP,g0,g1,g2,↓fc102,hr,hbb,r5,↓evLd,nck,↓cbT,↓cbF,↓evDn,evUp,eu,sevalprocAttr]
theorem ev72 {H:AH} {v w:AV} {l m:List Nat} (hs:SlS 30 1 H v (ints l)) (hw:SlS 30 1 H w (ints m)) (hl:l.length < 2 ^ 40) (hm:m.length < 2 ^ 40) (L:AH):Ev Tryz.prog C0 W0 72 [v,w] (H++L)=some (.bool (meetB l m),H++(L++[.cells [w] 30])):=by
 obtain ⟨tm,ht,g0,g1,g2⟩:=tm2 v w 8 (by decide)
 rw [fe72,ht]
 have hwc:=hw.cells
 have hwo:=hw.one
 have h73:=ev73 (b:=H.length+L.length) (k:=0) (hs.app (L++[.cells [w] 30])) (hw.app (L++[.cells [w] 30])) hl hm (by
   rw [rd_app]
   unfold rdCells
   rw [List.getElem?_append_right (Nat.le_refl _),Nat.sub_self]; rfl)
 simp -implicitDefEqProofs only [c72,Tryz.f72,aP,g0,g1,g2,↓hwc,↓hwo,↓fc73,h73,r5,↓evLd,nck,↓cbT,↓cbF,↓evDn,evUp,eu,sevalprocAttr]
def bufsN (c:Cod) (args:List Int) (j:Nat):List Nat:=((List.range j).filter fun (i:Nat)=>bufAt c (i:Int)).map fun (i:Nat)=>(argAt args i).toNat
theorem bufsN_succ (c:Cod) (args:List Int) (j:Nat):bufsN c args (j+1)=if bufAt c (j:Int) then bufsN c args j++[(argAt args j).toNat] else bufsN c args j:=by
 unfold bufsN
 rw [List.range_succ,List.filter_append,List.map_append]
 cases h:bufAt c (j:Int) <;> simp [h]
theorem bufsN_len (c:Cod) (args:List Int) (j:Nat):(bufsN c args j).length<=j:=by
 unfold bufsN
 rw [List.length_map]
 exact Nat.le_trans (List.length_filter_le _ _) (by rw [List.length_range]; exact Nat.le_refl _)
def usesN (cs:List Cod) (x:Itm):List Nat:=
 if x.kind=0 then bufsN (codAt cs x.code.toNat) x.args (codAt cs x.code.toNat).params.length
 else if x.kind=1 then [x.src.toNat,x.dst.toNat] else if x.kind=2 then [x.dst.toNat] else []
def chgN (cs:List Cod) (x:Itm):List Nat:=
 if x.kind=0 then bufsN (codAt cs x.code.toNat) x.args (codAt cs x.code.toNat).params.length
 else if x.kind=1 then [x.dst.toNat] else if x.kind=2 then [x.dst.toNat] else []
theorem launch_args {cs:List Cod} {m:List (List Int)} {x:Itm} (h:rightP cs m x=true) (k:x.kind=0):(0<=x.code/\x.code.toNat < cs.length)/\x.args.length=(codAt cs x.code.toNat).params.length /\
   ∀ j,j < (codAt cs x.code.toNat).params.length->bufAt (codAt cs x.code.toNat) (j:Int)=true->0<=argAt x.args j/\argAt x.args j < 6:=by
 unfold rightP at h
 rw [eqB_t k,br_true] at h
 simp only [Bool.and_eq_true,leB_iff,ltB_iff] at h
 obtain ⟨⟨⟨h1,h2⟩,h3⟩,_⟩:=h
 unfold fitsL fits6 sizesP at h3
 simp only [Bool.and_eq_true,eqB_iff] at h3
 obtain ⟨⟨⟨⟨h4,h5⟩,_⟩,_⟩,_⟩:=h3
 refine ⟨⟨h1,by omega⟩,by omega,fun j hj hb=>?_⟩
 have:=allF_iff.1 h5 j hj
 unfold argP at this
 rw [hb,Bool.true_and,Bool.not_eq_true',Bool.or_eq_false_iff,ltB_iff0,leB_iff0] at this
 omega
theorem bs30s (s:Option Nat) (a:Int) (H:AH):buildSliceA Tryz.prog s 30 1 [(0,I a)] H=(put s H (.cells [I a] 3)).map fun p=>(.slice p.1 0 1 1 1 true,p.2):=by kernel_rfl
theorem bs30t (s:Option Nat) (a b:Int) (H:AH):buildSliceA Tryz.prog s 30 2 [(0,I a),(1,I b)] H=(put s H (.cells [I a,I b] 3)).map fun p=>(.slice p.1 0 1 2 2 true,p.2):=by kernel_rfl
theorem uses_l {G:AH} {c:Cod} {vp vs vi va:AV} {x:Itm} {bx:Nat} (h:CodR G c vp vs vi) (ha:SlS 32 1 G va (x.args.map row1)) (hbx:G[bx]? =some (.cells (rowX x va) 34)) (hn6:c.params.length<=6) (hal:x.args.length=c.params.length) (hpos:∀ j,j < c.params.length->bufAt c (j:Int)=true->0<=argAt x.args j/\argAt x.args j < 6) (hN:c.params.length < 2 ^ 60):∀ (d j:Nat) (tm:List AV) (K:AH),c.params.length - j=d->j<=c.params.length->(tm.length=56/\Agree G K/\tm.getD 3 uA=.ptr bx 0/\tm.getD 17 uA=vp/\tm.getD 18 uA=I c.params.length/\tm.getD 19 uA=I ((j:Nat):Int)/\∃ v,tm.getD 4 uA=v/\Own G.length K 1 3 v ((bufsN c x.args j).map fun (n:Nat)=>I (n:Int))) ->
   ∃ X K1,EvC Tryz.prog C0 W0 pl75 l75_0 (tm,K)=some (.exit 1,(X,K1))/\(X.length=56/\Agree G K1/\X.getD 3 uA=.ptr bx 0/\X.getD 17 uA=vp/\X.getD 18 uA=I c.params.length/\X.getD 19 uA=I ((c.params.length:Nat):Int)/\∃ v,X.getD 4 uA=v/\Own G.length K1 1 3 v ((bufsN c x.args c.params.length).map fun (n:Nat)=>I (n:Int))):=by
 intro d
 induction d with
 | zero =>
   intro j tm K hd hj hI
   have hjl:j=c.params.length:=by omega
   subst hjl
   have hI0:=hI
   obtain ⟨hlen,hA,h3,h17,h18,h19,v,h4,ho⟩:=hI
   have hlt:ltB (((c.params.length:Nat)):Int) (c.params.length:Nat)=false:=ltB_f (by omega)
   rw [el75_0]
   simp -implicitDefEqProofs only [b75_0,Tryz.f75,aP,hlen,h3,h17,h18,h19,h4,hlt,↓cbT,↓cbF,↓evDn,evUp,eu,sevalprocAttr]
   refine ⟨_,K,rfl,?_⟩
   exact ⟨by first | exact hlen | simp only [List.length_set,hlen],hA,Aj4 (by simp only [hlen,h3,h17,h18,h19,gB,and_self,sevalprocAttr]) ⟨v,by simp only [hlen,h4,gB,sevalprocAttr],ho⟩⟩
 | succ d ih =>
   intro j tm K hd hj hI
   have hI0:=hI
   obtain ⟨hlen,hA,h3,h17,h18,h19,v,h4,ho⟩:=hI
   have hjN:j < c.params.length:=by omega
   have hlt:ltB (j:Int) (c.params.length:Nat)=true:=ltB_t (by omega)
   have hw:=inc_i (j:=j) (by omega)
   obtain ⟨i,k,nm,hix,hrd1,hrd2⟩:=prb_at h hA hjN
   obtain ⟨i2,k2,hix2,hra⟩:=arg_at ha hA (j:=j) (by omega)
   have hbq:∀ L,rdCells (K++L) bx 7 1=some [va]:=fun L=>by rw [obj_rd (hA.get hbx) L]; rfl
   rw [el75_0]
   rw [<-List.append_nil K]
   have key:∀ (tmN:List AV) (KN:AH) (Z:Option (AExit × St)),EvC Tryz.prog C0 W0 pl75 l75_0 (tmN,KN)=Z->(tmN.length=56/\Agree G KN/\tmN.getD 3 uA=.ptr bx 0/\tmN.getD 17 uA=vp/\tmN.getD 18 uA=I c.params.length/\tmN.getD 19 uA=I (((j+1):Nat):Int)/\∃ v,tmN.getD 4 uA=v/\Own G.length KN 1 3 v ((bufsN c x.args (j+1)).map fun (n:Nat)=>I (n:Int)))->∃ X K1,Z=some (.exit 1,(X,K1))/\(X.length=56/\Agree G K1/\X.getD 3 uA=.ptr bx 0/\X.getD 17 uA=vp/\X.getD 18 uA=I c.params.length/\X.getD 19 uA=I ((c.params.length:Nat):Int)/\∃ v,X.getD 4 uA=v/\Own G.length K1 1 3 v ((bufsN c x.args c.params.length).map fun (n:Nat)=>I (n:Int))):=by
     intro tmN KN Z h hJ
     obtain ⟨X,K1,A,B⟩:=ih (j+1) tmN KN (by omega) (by omega) hJ
     exact ⟨X,K1,h.symm.trans A,B⟩
   cases hb:bufAt c (j:Int) with
   | true =>
     rw [hb] at hrd1 hrd2
     have hn:=hpos j hjN hb
     have hwa:IntKind.i64.wrap (argAt x.args j)=((argAt x.args j).toNat:Int):=by rw [wr_i (by omega)]; omega
     obtain ⟨v',K',happ,hA',ho',_⟩:=app_int (hA.appR [AObj.cells [.str nm,.bool true] 74]) (ho.agree (Agree.app K [AObj.cells [.str nm,.bool true] 74])) (by have:=bufsN_len c x.args j; omega) (argAt x.args j).toNat
     simp only [List.length_append,List.length_cons,List.length_nil,Nat.zero_add,List.append_assoc,List.cons_append,List.nil_append] at happ
     simp -implicitDefEqProofs only [b75_0,Tryz.f75,aP,hlen,h3,h17,h18,h19,h4,hlt,hw,hix,hrd1,hrd2,hix2,hra,hbq,hwa,hb,z74,st74,bs30,↓callA_append,happ,r5,↓evLd,nck,↓cbT,↓cbF,↓evDn,evUp,eu,sevalprocAttr]
     generalize hX:EvC Tryz.prog C0 W0 _ _ _=Z
     refine key _ _ _ hX ?_
     exact ⟨by first | exact hlen | simp only [List.length_set,hlen],hA',Aj4 (by simp only [hlen,h3,h17,h18,h19,gB,and_self,sevalprocAttr]) ⟨v',by simp only [hlen,h4,gB,sevalprocAttr],by rw [bufsN_succ,hb,if_pos rfl]; exact ho'⟩⟩
   | false =>
     rw [hb] at hrd1 hrd2
     simp -implicitDefEqProofs only [b75_0,Tryz.f75,aP,hlen,h3,h17,h18,h19,h4,hlt,hw,hix,hrd1,hrd2,hix2,hra,hbq,hb,z74,st74,r5,↓evLd,nck,↓cbT,↓cbF,↓evDn,evUp,eu,sevalprocAttr]
     generalize hX:EvC Tryz.prog C0 W0 _ _ _=Z
     refine key _ _ _ hX ?_
     exact ⟨by first | exact hlen | simp only [List.length_set,hlen],hA.appR _,Aj4 (by simp only [hlen,h3,h17,h18,h19,gB,and_self,sevalprocAttr]) ⟨v,by simp only [hlen,h4,gB,sevalprocAttr],by rw [bufsN_succ,hb]; exact ho.agree (Agree.app K _)⟩⟩
theorem uses_l' {G:AH} {c:Cod} {vp vs vi va:AV} {x:Itm} {bx:Nat} {tm:List AV} {K:AH} {Z:Option (AExit × St)} (hX:EvC Tryz.prog C0 W0 pl75 l75_0 (tm,K)=Z) (h:CodR G c vp vs vi) (ha:SlS 32 1 G va (x.args.map row1)) (hbx:G[bx]? =some (.cells (rowX x va) 34)) (hn6:c.params.length<=6) (hal:x.args.length=c.params.length) (hpos:∀ j,j < c.params.length->bufAt c (j:Int)=true->0<=argAt x.args j/\argAt x.args j < 6) (hN:c.params.length < 2 ^ 60) (hI:tm.length=56/\Agree G K/\tm.getD 3 uA=.ptr bx 0/\tm.getD 17 uA=vp/\tm.getD 18 uA=I c.params.length/\tm.getD 19 uA=I ((0:Nat):Int)/\∃ v,tm.getD 4 uA=v/\Own G.length K 1 3 v ((bufsN c x.args 0).map fun (n:Nat)=>I (n:Int))) :
   ∃ X K1,Z=some (.exit 1,(X,K1))/\(X.length=56/\Agree G K1/\X.getD 3 uA=.ptr bx 0/\X.getD 17 uA=vp/\X.getD 18 uA=I c.params.length/\X.getD 19 uA=I ((c.params.length:Nat):Int)/\∃ v,X.getD 4 uA=v/\Own G.length K1 1 3 v ((bufsN c x.args c.params.length).map fun (n:Nat)=>I (n:Int))):=by
 subst hX
 exact uses_l h ha hbx hn6 hal hpos hN (c.params.length) 0 tm K (by omega) (by omega) hI
theorem sl_own {H L:AH} {i:Nat} {l:List Nat} (h:L[i]? =some (.cells (l.map fun (n:Nat)=>I (n:Int)) 3)):SlS 30 1 (H++L) (.slice (H.length+i) 0 1 l.length l.length true) (ints l):=by
 have hg:(H++L)[H.length+i]? =some (.cells (l.map fun (n:Nat)=>I (n:Int)) 3):=by rw [List.getElem?_append_right (Nat.le_add_right _ _),Nat.add_sub_cancel_left]; exact h
 have:=sls_of (T:=30) (es:=1) ix30T (H:=H++L) (i:=H.length+i) (k:=0) (c:=l.length) (e:=true) (rows:=ints l) (ints_len l) (by unfold okC; rw [hg]) (by
   unfold rdCells
   rw [hg]
   simp only
   rw [if_pos (by simp [ints]),List.drop_zero,List.take_of_length_le (by simp [ints]),ints_flat])
 rwa [show (ints l).length=l.length from by simp [ints]] at this
theorem uses_1 {H:AH} {cs:List Cod} {vc va:AV} {x:Itm} (hac:va.cells=[va]) (hao:va.one=true) (hk:x.kind=1) (hf:0<=x.src/\0<=x.dst):∃ u c K,Ev Tryz.prog C0 W0 75 [vc,.agg (rowX x va)] H=some (.tuple [u,c],K)/\Agree H K/\SlS 30 1 K u (ints (usesN cs x))/\SlS 30 1 K c (ints (chgN cs x)):=by
 obtain ⟨tm,ht,g0,g1,g2⟩:=tm2 vc (.agg (rowX x va)) 56 (by decide)
 rw [fe75,ht]
 obtain ⟨kind,code,grid,block,src,dst,ev,args,word⟩:=x
 simp only at hk hf
 subst hk
 have e0:eqB 1 0=false:=rfl
 have e1:eqB 1 1=true:=rfl
 have e2:eqB 1 2=false:=rfl
 obtain ⟨s,rfl⟩:∃ s:Nat,src=s:=⟨src.toNat,by omega⟩
 obtain ⟨d,rfl⟩:∃ d:Nat,dst=d:=⟨dst.toNat,by omega⟩
 simp -implicitDefEqProofs only [c75,Tryz.f75,aP,g0,g1,g2,rowX,↓hac,↓hao,e0,e1,e2,↓EvC_plan plr75_11,↓EvC_plan plr75_13,p75_11,p75_13,List.any_toArray',List.any_toArray,List.any_cons,List.any_nil,allocates,List.size_toArray,List.replicate_succ,List.replicate_zero,bs30s,bs30t,r5,↓evLd,nck,show ∀ o,put none H o=some (H.length,H++[o]) from fun _=>rfl,↓cbT,↓cbF,↓evDn,evUp,eu,sevalprocAttr,↓rp_done,↓rp_take,↓rp_rd,↓rp_all,↓rp_join,↓ra_nil,↓ra_first,↓ra_next,↓quietO_none,↓quietO_guardB,↓readO_none,↓q_move,↓q_assign,↓q_field,↓q_fieldAddr,↓q_indexAddr,↓q_nilCheck,↓q_pickB,↓q_extract,put_slot,put_slot_app,List.length_append,Nat.add_assoc,stBeq_self,set_order,keepV_eq]
 refine ⟨_,_,_,rfl,Agree.app _ _,?_,?_⟩
 · exact sl_own (i:=5) (l:=[s,d]) rfl
 · exact sl_own (i:=8) (l:=[d]) rfl
theorem uses_2 {H:AH} {cs:List Cod} {vc va:AV} {x:Itm} (hac:va.cells=[va]) (hao:va.one=true) (hk:x.kind=2) (hf:0<=x.dst):∃ u c K,Ev Tryz.prog C0 W0 75 [vc,.agg (rowX x va)] H=some (.tuple [u,c],K)/\Agree H K/\SlS 30 1 K u (ints (usesN cs x))/\SlS 30 1 K c (ints (chgN cs x)):=by
 obtain ⟨tm,ht,g0,g1,g2⟩:=tm2 vc (.agg (rowX x va)) 56 (by decide)
 rw [fe75,ht]
 obtain ⟨kind,code,grid,block,src,dst,ev,args,word⟩:=x
 simp only at hk hf
 subst hk
 have e0:eqB 2 0=false:=rfl
 have e1:eqB 2 1=false:=rfl
 have e2:eqB 2 2=true:=rfl
 obtain ⟨d,rfl⟩:∃ d:Nat,dst=d:=⟨dst.toNat,by omega⟩
 simp -implicitDefEqProofs only [c75,Tryz.f75,aP,g0,g1,g2,rowX,↓hac,↓hao,e0,e1,e2,↓EvC_plan plr75_11,↓EvC_plan plr75_13,p75_11,p75_13,List.any_toArray',List.any_toArray,List.any_cons,List.any_nil,allocates,List.size_toArray,List.replicate_succ,List.replicate_zero,bs30s,bs30t,r5,↓evLd,nck,show ∀ o,put none H o=some (H.length,H++[o]) from fun _=>rfl,↓cbT,↓cbF,↓evDn,evUp,eu,sevalprocAttr,↓rp_done,↓rp_take,↓rp_rd,↓rp_all,↓rp_join,↓ra_nil,↓ra_first,↓ra_next,↓quietO_none,↓quietO_guardB,↓readO_none,↓q_move,↓q_assign,↓q_field,↓q_fieldAddr,↓q_indexAddr,↓q_nilCheck,↓q_pickB,↓q_extract,put_slot,put_slot_app,List.length_append,Nat.add_assoc,stBeq_self,set_order,keepV_eq]
 refine ⟨_,_,_,rfl,Agree.app _ _,?_,?_⟩
 · exact sl_own (i:=3) (l:=[d]) rfl
 · exact sl_own (i:=6) (l:=[d]) rfl
theorem uses_3 {H:AH} {cs:List Cod} {vc va:AV} {x:Itm} (hac:va.cells=[va]) (hao:va.one=true) (hk:x.kind≠0/\x.kind≠1/\x.kind≠2):∃ u c K,Ev Tryz.prog C0 W0 75 [vc,.agg (rowX x va)] H=some (.tuple [u,c],K)/\Agree H K/\SlS 30 1 K u (ints (usesN cs x))/\SlS 30 1 K c (ints (chgN cs x)):=by
 obtain ⟨tm,ht,g0,g1,g2⟩:=tm2 vc (.agg (rowX x va)) 56 (by decide)
 rw [fe75,ht]
 obtain ⟨kind,code,grid,block,src,dst,ev,args,word⟩:=x
 simp only at hk
 have e0:=eqB_f hk.1
 have e1:=eqB_f hk.2.1
 have e2:=eqB_f hk.2.2
 simp -implicitDefEqProofs only [c75,Tryz.f75,aP,g0,g1,g2,rowX,↓hac,↓hao,e0,e1,e2,↓EvC_plan plr75_11,↓EvC_plan plr75_13,p75_11,p75_13,List.any_toArray',List.any_toArray,List.any_cons,List.any_nil,allocates,List.size_toArray,List.replicate_succ,List.replicate_zero,bs30s,bs30t,r5,↓evLd,nck,show ∀ o,put none H o=some (H.length,H++[o]) from fun _=>rfl,↓cbT,↓cbF,↓evDn,evUp,eu,sevalprocAttr,↓rp_done,↓rp_take,↓rp_rd,↓rp_all,↓rp_join,↓ra_nil,↓ra_first,↓ra_next,↓quietO_none,↓quietO_guardB,↓readO_none,↓q_move,↓q_assign,↓q_field,↓q_fieldAddr,↓q_indexAddr,↓q_nilCheck,↓q_pickB,↓q_extract,put_slot,put_slot_app,List.length_append,Nat.add_assoc,stBeq_self,set_order,keepV_eq]
 refine ⟨_,_,_,rfl,Agree.app _ _,?_,?_⟩
 · rw [show usesN cs _=[] from by unfold usesN; rw [if_neg hk.1,if_neg hk.2.1,if_neg hk.2.2]]; exact sls_nil ix30T _
 · rw [show chgN cs _=[] from by unfold chgN; rw [if_neg hk.1,if_neg hk.2.1,if_neg hk.2.2]]; exact sls_nil ix30T _
theorem uses_0 {H:AH} {cs:List Cod} {m:List (List Int)} {vc va:AV} {x:Itm} (hc:CodsR H cs vc) (hcp:∀ c∈cs,c.params.length<=6) (ha:SlS 32 1 H va (x.args.map row1)) (hk:x.kind=0) (hr:rightP cs m x=true):∃ u c K,Ev Tryz.prog C0 W0 75 [vc,.agg (rowX x va)] H=some (.tuple [u,c],K)/\Agree H K/\SlS 30 1 K u (ints (usesN cs x))/\SlS 30 1 K c (ints (chgN cs x)):=by
 obtain ⟨tm,ht,g0,g1,g2⟩:=tm2 vc (.agg (rowX x va)) 56 (by decide)
 rw [fe75,ht]
 have hac:=ha.cells
 have hao:=ha.one
 obtain ⟨⟨h1,h2⟩,h3,h4⟩:=launch_args hr hk
 obtain ⟨i0,k0,vp,vs,vi,hix,hrd,hcd⟩:=hc.at (Agree.app H [.cells (rowX x va) 34]) (j:=x.code.toNat) h2
 have hcm:codAt cs x.code.toNat∈cs:=by
   unfold codAt
   exact getD_mem' h2 _
 have hu:usesN cs x=bufsN (codAt cs x.code.toNat) x.args (codAt cs x.code.toNat).params.length:=by unfold usesN; rw [if_pos hk]
 have hch:chgN cs x=bufsN (codAt cs x.code.toNat) x.args (codAt cs x.code.toNat).params.length:=by unfold chgN; rw [if_pos hk]
 rw [hu,hch]
 have hp6:=hcp _ hcm
 have hcode:x.code=(x.code.toNat:Int):=by omega
 have hix':∀ kk,indexAddrA Tryz.prog 22 vc (.int kk x.code)=some (.ptr i0 k0):=fun kk=>by rw [hcode]; exact hix kk
 have hrv:∀ L,rdCells (H++(.cells (rowX x va) 34::L)) i0 (k0+1) 1=some [vp]:=fun L=>by
   have:=hrd L
   rw [List.append_assoc] at this
   exact rd_cell this (j:=1) rfl
 have hlp:=hcd.lp
 have e0:eqB x.kind 0=true:=eqB_t hk
 simp only [rowX] at hrv
 simp -implicitDefEqProofs only [c75,Tryz.f75,aP,g0,g1,g2,rowX,↓hac,↓hao,e0,hix',hrv,hlp,r5,↓evLd,nck,show ∀ o,put none H o=some (H.length,H++[o]) from fun _=>rfl,↓cbT,↓cbF,↓evDn,evUp,eu,sevalprocAttr]
 generalize hX:EvC Tryz.prog C0 W0 _ (Code.loop _) _=Z
 obtain ⟨X,K1,he,i0',iA,i3,i17,i18,i19,v,i4,io⟩:=uses_l' (G:=H++[.cells (rowX x va) 34]) (bx:=H.length) hX (hcd.agree (Agree.app H _)) (ha.app _) (by rw [List.getElem?_append_right (Nat.le_refl _),Nat.sub_self]; rfl) hp6 h3 h4 (by omega) ⟨by simp only [ls,g0],Agree.refl _,Aj3 (by simp only [g0,gB,and_self,sevalprocAttr]) ⟨by simp only [g0,gB,sevalprocAttr]; try rfl,.nilSlice,by simp only [g0,gB,sevalprocAttr],.nil⟩⟩
 subst he
 simp -implicitDefEqProofs only [aP,i0',i4,↓cbT,↓cbF,↓evDn,evUp,eu,sevalprocAttr]
 exact ⟨_,_,K1,rfl,(Agree.app H _).trans iA,io.ints,io.ints⟩
theorem ev75 {H:AH} {cs:List Cod} {m:List (List Int)} {vc va:AV} {x:Itm} (hc:CodsR H cs vc) (hcp:∀ c∈cs,c.params.length<=6) (ha:SlS 32 1 H va (x.args.map row1)) (hr:rightP cs m x=true):∃ u c K,Ev Tryz.prog C0 W0 75 [vc,.agg (rowX x va)] H=some (.tuple [u,c],K)/\Agree H K/\SlS 30 1 K u (ints (usesN cs x))/\SlS 30 1 K c (ints (chgN cs x)):=by
 by_cases k0:x.kind=0
 · exact uses_0 hc hcp ha k0 hr
 · have e0:eqB x.kind 0=false:=eqB_f k0
   by_cases k1:x.kind=1
   · refine uses_1 ha.cells ha.one k1 ?_
     unfold rightP at hr
     rw [e0,br_false,eqB_t k1,br_true] at hr
     unfold inB at hr
     simp only [Bool.and_eq_true,leB_iff,ltB_iff,eqB_iff] at hr
     omega
   · have e1:eqB x.kind 1=false:=eqB_f k1
     by_cases k2:x.kind=2
     · refine uses_2 ha.cells ha.one k2 ?_
       unfold rightP at hr
       rw [e0,br_false,e1,br_false,eqB_t k2,br_true] at hr
       unfold inB at hr
       simp only [Bool.and_eq_true,leB_iff,ltB_iff,eqB_iff] at hr
       omega
     · exact uses_3 ha.cells ha.one ⟨k0,k1,k2⟩
theorem usesN_len {cs:List Cod} (hcp:∀ c∈cs,c.params.length<=6) {m:List (List Int)} {x:Itm} (hr:rightP cs m x=true):(usesN cs x).length<=6/\(chgN cs x).length<=6:=by
 have key:x.kind=0->(codAt cs x.code.toNat).params.length<=6:=fun k=>by
   obtain ⟨⟨_,h2⟩,_⟩:=launch_args hr k
   refine hcp _ ?_
   unfold codAt
   exact getD_mem' h2 _
 unfold usesN chgN
 split
 · rename_i k
   have:=bufsN_len (codAt cs x.code.toNat) x.args (codAt cs x.code.toNat).params.length
   have:=key k
   omega
 · split
   · simp
   · split <;> simp
def touchN (cs:List Cod) (x y:Itm):Bool:=meetB (usesN cs x) (chgN cs y) || meetB (chgN cs x) (usesN cs y)
theorem ev43 {H:AH} {cs:List Cod} {m:List (List Int)} {vc va vb:AV} {x y:Itm} (hc:CodsR H cs vc) (hcp:∀ c∈cs,c.params.length<=6) (ha:SlS 32 1 H va (x.args.map row1)) (hb:SlS 32 1 H vb (y.args.map row1)) (hrx:rightP cs m x=true) (hry:rightP cs m y=true):Ev Tryz.prog C0 W0 43 [vc,.agg (rowX x va),.agg (rowX y vb)] H=some (.bool (touchN cs x y),H):=by
 obtain ⟨tm,ht,g0,g1,g2,g3⟩:=tm3 vc (.agg (rowX x va)) (.agg (rowX y vb)) 34 (by decide)
 rw [fe43,ht]
 rw [<-List.append_nil (ro H)]
 have hac:=ha.cells
 have hao:=ha.one
 have hbc:=hb.cells
 have hbo:=hb.one
 have hA0:=Agree.app (ro H) [AObj.cells (rowX x va) 34,.cells (rowX y vb) 34]
 obtain ⟨u1,c1,K1,he1,hA1,hu1,hc1⟩:=ev75 (hc.ro.agree hA0) hcp (ha.ro.same hA0) hrx
 have hA01:=hA0.trans hA1
 obtain ⟨u2,c2,K2,he2,hA2,hu2,hc2⟩:=ev75 (hc.ro.agree hA01) hcp (hb.ro.same hA01) hry
 have hu1':=hu1.same hA2
 have hc1':=hc1.same hA2
 have l1:=usesN_len hcp hrx
 have l2:=usesN_len hcp hry
 have h72a:=ev72 hu1' hc2 (by omega) (by omega) []
 have h72b:=ev72 hc1' hu2 (by omega) (by omega) [.cells [c2] 30]
 rw [List.append_nil,List.nil_append] at h72a
 have hy1:rdCells K1 ((ro H).length+1) 0 9=some (rowX y vb):=rd_same hA1 (by rw [rd_app]; rfl)
 unfold touchN
 have hF:∀ gl tm,evalA gl tm (.func 72)=some (.func (.func 72) [] []):=fun _ _=>rfl
 simp only [rowX] at he1 he2 hy1
 cases hm:meetB (usesN cs x) (chgN cs y) with
 | true =>
   rw [hm] at h72a
   simp -implicitDefEqProofs only [c43,Tryz.f43,aP,g0,g1,g2,g3,rowX,↓hac,↓hao,↓hbc,↓hbo,↓fc75,he1,he2,hy1,hF,↓callA_value,Tryz.func72,show Tryz.f72.body.isSome=true from rfl,h72a,r5,↓evLd,nck,↓cbT,↓cbF,↓evDn,evUp,eu,sevalprocAttr]
 | false =>
   rw [hm] at h72a
   simp -implicitDefEqProofs only [c43,Tryz.f43,aP,g0,g1,g2,g3,rowX,↓hac,↓hao,↓hbc,↓hbo,↓fc75,he1,he2,hy1,hF,↓callA_value,Tryz.func72,show Tryz.f72.body.isSome=true from rfl,h72a,h72b,r5,↓evLd,nck,↓cbT,↓cbF,↓evDn,evUp,eu,sevalprocAttr]
def natE (l:List Nat):List (AV × AV × Nat):=(List.zip l (List.range l.length)).map fun p=>(I (p.1:Int),.bool true,p.2)
theorem mt95:mapTypes Tryz.prog 95=some (3,4):=by kernel_rfl
theorem ask3 (e:Bool) (n:Int):askA Tryz.prog 3 e (I n)=some (.int .i64 n,.int .i64):=by cases e <;> kernel_rfl
theorem same3 (a b:Int):sameK Tryz.prog 3 (.int .i64) (.int .i64 a) (.int .i64 b)=some (a == b):=by
 unfold sameK Instr.sameNow; rfl
theorem find_nat (n:Nat):∀ (l:List (Nat × Nat)) (i:Nat),findA Tryz.prog 3 (.int .i64) (.int .i64 n) (l.map fun p=>(I (p.1:Int),.bool true,p.2)) i=if (l.map (·.1)).contains n then (findA Tryz.prog 3 (.int .i64) (.int .i64 n) (l.map fun p=>(I (p.1:Int),.bool true,p.2)) i) else some none
 | [],i=>rfl
 | p::l,i=>by
   have ih:=find_nat n l (i+1)
   simp only [List.map_cons,findA,toV,Option.bind_some,same3,List.contains_cons]
   cases h:((n:Int) == (p.1:Int)) with
   | true =>
     have:(n == p.1)=true:=by rw [beq_iff_eq] at h ⊢; exact Int.ofNat_inj.1 h
     rw [this]; simp
   | false =>
     have:(n == p.1)=false:=by rw [beq_eq_false_iff_ne] at h ⊢; exact fun e=>h (by rw [e])
     rw [this]
     simp only [Bool.false_or]; exact ih
theorem find_natT (n:Nat):∀ (l:List (Nat × Nat)) (i:Nat),(l.map (·.1)).contains n=true->∃ j,findA Tryz.prog 3 (.int .i64) (.int .i64 n) (l.map fun p=>(I (p.1:Int),.bool true,p.2)) i=some (some (j,.bool true))
 | [],i,h=>by simp at h
 | p::l,i,h=>by
   simp only [List.map_cons,findA,toV,Option.bind_some,same3]
   cases h':((n:Int) == (p.1:Int)) with
   | true=>exact ⟨i,rfl⟩
   | false =>
     have:(n == p.1)=false:=by rw [beq_eq_false_iff_ne] at h' ⊢; exact fun e=>h' (by rw [e])
     simp only [List.map_cons,List.contains_cons,this,Bool.false_or] at h
     exact find_natT n l (i+1) h
theorem natE_map (l:List Nat):(List.zip l (List.range l.length)).map (·.1)=l:=by rw [List.map_fst_zip (by simp)]
theorem lk95 {H:AH} {i:Nat} {l:List Nat} {c:Nat} (h:H[i]? =some (.map (natE l) c)) (n:Nat):lookupA Tryz.prog 95 (.map i) (I (n:Int)) false H=some (.bool (l.contains n)):=by
 simp only [lookupA,mt95,entriesA,h,Option.bind_some,ask3]
 cases hc:l.contains n with
 | true =>
   obtain ⟨j,hj⟩:=find_natT n _ 0 (by rw [natE_map]; exact hc)
   unfold natE
   rw [hj]; rfl
 | false =>
   unfold natE
   rw [find_nat,natE_map,hc]
   simp only [Option.bind_some,z4]; rfl
theorem natE_snoc (l:List Nat) (n:Nat):natE l++[(I (n:Int),.bool true,l.length)]=natE (l++[n]):=by
 unfold natE
 rw [List.length_append,List.length_singleton,List.range_succ,List.zip_append (by simp),List.map_append]; rfl
theorem mp95 {H:AH} {i:Nat} {l:List Nat} (h:H[i]? =some (.map (natE l) l.length)) {n:Nat} (hc:l.contains n=false):mapPutA Tryz.prog 95 (.map i) (I (n:Int)) (.bool true) H=some (H.set i (.map (natE (l++[n])) (l++[n]).length)):=by
 have hf:findA Tryz.prog 3 (.int .i64) (.int .i64 n) (natE l) 0=some none:=by
   unfold natE
   rw [find_nat,natE_map,hc]; rfl
 simp only [mapPutA,mt95,h,Option.bind_some,ask3,hf]
 rw [natE_snoc,List.length_append]; rfl
theorem sl_tail {b:Nat} {K:AH} {v:AV} {x:Nat} {l:List Nat} (h:Own b K 1 3 v ((x::l).map fun (n:Nat)=>I (n:Int))) :
   ∃ v',sliceA Tryz.prog 30 K v (some (I 1)) none none=some v'/\Own b K 1 3 v' (l.map fun (n:Nat)=>I (n:Int)):=by
 have hlen:=h.length
 rw [List.length_map,List.length_cons,Nat.mul_one] at hlen
 generalize hxs:(x::l).map (fun (n:Nat)=>I (n:Int))=xs at h
 cases h with
 | nil=>simp at hxs
 | «at» i k len cap ex cs xs hb hi hl hc hrd =>
   rw [lenOfA_slice] at hlen
   have hu:Tryz.prog.underlying 30=some (.slice 3):=by kernel_rfl
   have hco:Tryz.prog.cellsOf 3=1:=by kernel_rfl
   have hin:Tryz.prog.info? 3=some ((Tryz.prog.info? 3).getD default):=by kernel_rfl
   refine ⟨.slice i (k+1 * 1) 1 (len - 1) (cap - 1) ex,?_,.at i (k+1 * 1) (len - 1) (cap - 1) ex cs _ hb hi (by omega) (by omega) ?_⟩
   · unfold sliceA
     rw [hu]
     simp only [boundA]
     rw [hco,hin]
     show (if 1<=len/\len<=cap/\1=1 then _ else _)=_
     rw [if_pos ⟨by omega,hl,rfl⟩]
     rfl
   · have:=rd_sub hrd 1 (len - 1) (by omega)
     rw [Nat.mul_one,Nat.mul_one,this,<-hxs]
     congr 1
     rw [List.map_cons,List.drop_succ_cons,List.drop_zero,List.take_of_length_le (by rw [List.length_map]; omega)]
end Go.Dv
