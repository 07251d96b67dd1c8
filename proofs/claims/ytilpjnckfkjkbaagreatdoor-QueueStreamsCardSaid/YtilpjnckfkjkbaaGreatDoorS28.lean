/- Part 28 of the walks (own work). -/
import Derived.Test.YtilpjnckfkjkbaaGreatDoorS27
open Bool renaming and_eq_true→aD,false_or→ly,not_eq_true'→ba,or_eq_false_iff→qV,true_and→aZ
open List renaming any_cons→eE,any_nil→fi,any_toArray→dz,any_toArray'→d6,append_assoc→aE,append_nil→af,contains_cons→tF,drop_zero→iu,getElem?_append_right→aw,length_append→ai,length_cons→b6,length_map→au,length_set→ar,map_append→dX,map_cons→gy,nil_append→iH,range→bn,range_succ→kh,replicate_succ→dH,replicate_zero→du,size_toArray→d5,sum_append→MI,take_of_length_le→bt,zip→wo
open Nat renaming add_assoc→bV,le_add_right→cm,le_refl→ax,le_trans→bc,mul_one→dS,sub_self→dI
open Option renaming bind_some→ay
open Go.Proofs.Tryz renaming prog→aa
set_option maxRecDepth 100000
set_option maxHeartbeats 4000000
set_option linter.unusedSimpArgs false
set_option linter.unusedVariables false
namespace Go.Dv
open Go.Proofs
attribute [local congr] aH bP bj bO bQ
structure gZ (m0 m:List (List Int)):Prop where
 n:m.length=m0.length
 b:∀ j,(bG m j).length=(bG m0 j).length
theorem yh.same {m0 m:List (List Int)} {x:Itm} (h:yh m0 x) (s:gZ m0 m):yh m x:=
 ⟨h.k0,fun k=>by have:=h.k1 k; rw [s.n,s.b,s.b]; exact this,fun k=>by have:=h.k2 k; rw [s.n]; exact this,h.k3,h.w⟩
theorem gZ.doM {m0 m:List (List Int)} {x:Itm} (s:gZ m0 m) (h:yh m x):gZ m0 (doM m x):=by
 unfold Go.Dv.doM
 split
 · rename_i k
   obtain ⟨_,_,_,h4,h5⟩:=h.k1 k
   exact ⟨by rw [ar]; exact s.n,fun j=>by
     rw [uF h4]
     split
     · rename_i e; rw [h5,e,<-s.b]
     · exact s.b j⟩
 · split
   · rename_i k
     obtain ⟨_,h4⟩:=h.k2 k
     exact ⟨by rw [ar]; exact s.n,fun j=>by
       rw [uF h4]
       split
       · rename_i e; rw [List.length_replicate,e,<-s.b]
       · exact s.b j⟩
   · exact s
theorem Bq {ss:List (List Itm)} {ad:List Nat} {s:Nat} (hla:ad.length=ss.length) (hs:s < ss.length) (hk:ad.getD s 0 < (aR ss s).length):∀ n,n<=ss.length->(fh ss (doA ad s) n).sum+(if s < n then 1 else 0)=(fh ss ad n).sum
 | 0,_=>rfl
 | n+1,h=>by
   have ih:=Bq hla hs hk n (by omega)
   rw [rS,rS,MI,MI,Ff _ _ _ (by omega)]
   simp only [List.sum_cons,List.sum_nil,Nat.add_zero]
   by_cases e:n=s
   · subst e
     rw [if_pos rfl,if_pos (by omega)]
     rw [if_neg (by omega)] at ih
     omega
   · rw [if_neg e]
     by_cases l:s < n
     · rw [if_pos (by omega)]; rw [if_pos l] at ih; omega
     · rw [if_neg (by omega)]; rw [if_neg l] at ih; omega
def Trod (ss:List (List Itm)) (m0:List (List Int)) (ad:List Nat) (m:List (List Int)) (rc:List Bool):Prop:=
 ∃ L,Qu.RT (qS ss) ad (rF rc) L/\m=L.foldl (Qu.doP (qS ss)) m0
theorem Trod.init (ss:List (List Itm)) (m0:List (List Int)):Trod ss m0 (List.replicate ss.length 0) m0 rc0:=by
 refine ⟨[],?_,rfl⟩
 rw [show rF rc0=fun _=>false from Nt,<-wR ss]
 exact .init
theorem Trod.step {ss:List (List Itm)} {m0:List (List Int)} {ad:List Nat} {m:List (List Int)} {rc:List Bool} (hev:uM ss) (hl:rc.length=16) (h:Trod ss m0 ad m rc) {s:Nat} (hs:s∈dv ss ad rc ss.length) :
   Trod ss m0 (doA ad s) (doM m (bB (aR ss s) (ad.getD s 0))) (doR rc (bB (aR ss s) (ad.getD s 0))):=by
 obtain ⟨L,h1,h2⟩:=h
 refine ⟨_,Na hev hl h1 hs,?_⟩
 rw [List.foldl_append,<-h2]
 show _=Qu.doP (qS ss) m (s,ad.getD s 0)
 unfold Qu.doP Qu.at?
 rw [qu (w7 (mf hs).2)]; rfl
theorem H4 {S:AH} {q a:Nat} {ws:List AV} {vc vm vs:AV} {f:Con} {cs:List Cod} {ss:List (List Itm)} {m0:List (List Int)} (hfit:∀ l∈ss,∀ x∈l,yh m0 x) (hal:∀ l∈ss,∀ x∈l,x.args.length<=1000) :
   ∀ (n:Nat) (ad:List Nat) (m:List (List Int)) (rc:List Bool) (K:AH) (tm:List AV),(fh ss ad ss.length).sum=n->fx S K q a ws vc vm vs f cs ss ad m rc->gZ m0 m->Trod ss m0 ad m rc->tm.length=77->tm.getD 13 uA=.ptr q 0->tm.getD 4 uA=.nilSlice->tm.getD 15 uA=.bool (nk ss ad rc) ->
   ∃ X K' ad' m' rc',EvC aa C0 W0 plN EU (tm,K)=some (.exit 0,(X,K'))/\X.length=77/\X.getD 13 uA=.ptr q 0/\K.length<=K'.length/\fx S K' q a ws vc vm vs f cs ss ad' m' rc'/\gZ m0 m'/\Trod ss m0 ad' m' rc'/\nk ss ad' rc'=true:=by
 intro n
 induction n using Nat.strongRecOn with
 | ind n ih =>
   intro ad m rc K tm hn h hsl hway hlen h13 h4 h15
   rw [SL]
   cases he:nk ss ad rc with
   | true =>
     rw [he] at h15
     simp -implicitDefEqProofs only [FD,Tryz.f17,aP,hlen,h13,h4,h15,↓cbT,↓cbF,↓ao,an,eu,sevalprocAttr]
     exact ⟨_,K,ad,m,rc,rfl,by simp only [ls,hlen],by simp only [hlen,h13,gB,sevalprocAttr],ax _,h,hsl,hway,he⟩
   | false =>
     rw [he] at h15
     have he':=he
     unfold nk at he'
     rw [qV] at he'
     have hne:dv ss ad rc ss.length≠[]:=fun e=>by rw [e] at he'; simp at he'
     have hpos:0 < (dv ss ad rc ss.length).length:=by
       rcases Nat.eq_zero_or_pos (dv ss ad rc ss.length).length with e | e
       · exact absurd (List.length_eq_zero_iff.1 e) hne
       · exact e
     have hmem:(dv ss ad rc ss.length).getD 0 0∈dv ss ad rc ss.length:=eX hpos 0
     obtain ⟨v,K1,he33,hA33,ho⟩:=SF h.view
     obtain ⟨i0,k0,hix,hrd⟩:=ints_at ho.ints (al.refl K1) hpos
     have hQ1:=h.grow hA33
     obtain ⟨hs1,hok1⟩:=mf hmem
     have hkl:=w7 hok1
     have hxin:bB (aR ss ((dv ss ad rc ss.length).getD 0 0)) (ad.getD ((dv ss ad rc ss.length).getD 0 0) 0)∈aR ss ((dv ss ad rc ss.length).getD 0 0):=fu hkl
     have hf:=(hfit _ (gO hs1) _ hxin).same hsl
     have hld:=Bq h.la hs1 hkl ss.length (ax _)
     rw [if_pos hs1] at hld
     have hstep:=hway.step h.ev h.lr hmem
     have hsl':=hsl.doM hf
     generalize (dv ss ad rc ss.length).getD 0 0=s at *
     obtain ⟨vx,K2,he34,hQ2,hK2⟩:=aaq hQ1 hmem hf hal
     have hrd0:ak K1 i0 k0 1=some [I (s:Int)]:=by have:=hrd []; rwa [af] at this
     have h12:=Pc hQ2.view
     have l0:ltB 0 0=false:=rfl
     have hix0:=fun kk=>hix kk
     simp only [Int.natCast_zero] at hix0
     simp -implicitDefEqProofs only [FD,Tryz.f17,aP,hlen,h13,h4,h15,↓O9,he33,PY,l0,hix0,hrd0,↓ZG,he34,↓Pa,h12,r5,↓az,nck,↓cbT,↓cbF,↓ao,an,eu,sevalprocAttr]
     generalize hX:EvC aa C0 W0 _ _ _=Z
     have key:∀ (tm1:List AV),EvC aa C0 W0 plN EU (tm1,K2)=Z->tm1.length=77->tm1.getD 13 uA=.ptr q 0->tm1.getD 4 uA=.nilSlice->tm1.getD 15 uA=.bool (nk ss (doA ad s) (doR rc (bB (aR ss s) (ad.getD s 0)))) ->
         ∃ X K' ad' m' rc',Z=some (.exit 0,(X,K'))/\X.length=77/\X.getD 13 uA=.ptr q 0/\K.length<=K'.length/\fx S K' q a ws vc vm vs f cs ss ad' m' rc'/\gZ m0 m'/\Trod ss m0 ad' m' rc'/\nk ss ad' rc'=true:=by
       intro tm1 hz a1 a2 a3 a4
       obtain ⟨X,K',ad',m',rc',b1,b2,b3,b4,b5⟩:=ih (fh ss (doA ad s) ss.length).sum (by omega) _ _ _ K2 tm1 rfl hQ2 hsl' hstep a1 a2 a3 a4
       exact ⟨X,K',ad',m',rc',hz.symm.trans b1,b2,b3,bc (bc hA33.len hK2) b4,b5⟩
     exact key _ hX (by simp only [ls,hlen]) (by simp only [hlen,h13,gB,sevalprocAttr]) (by simp only [hlen,h4,gB,sevalprocAttr]) (by simp only [hlen,gB,sevalprocAttr])
theorem Ga {S:AH} {q a:Nat} {ws:List AV} {vc vm vs:AV} {f:Con} {cs:List Cod} {ss:List (List Itm)} {m0:List (List Int)} (hfit:∀ l∈ss,∀ x∈l,yh m0 x) (hal:∀ l∈ss,∀ x∈l,x.args.length<=1000)
   {ad:List Nat} {m:List (List Int)} {rc:List Bool} {K:AH} {tm:List AV} {Z:Option (bu × St)} (hX:EvC aa C0 W0 plN EU (tm,K)=Z) (h:fx S K q a ws vc vm vs f cs ss ad m rc) (hs:gZ m0 m) (hw:Trod ss m0 ad m rc) (hlen:tm.length=77) (h13:tm.getD 13 uA=.ptr q 0) (h4:tm.getD 4 uA=.nilSlice) (h15:tm.getD 15 uA=.bool (nk ss ad rc)) :
   ∃ X K' ad' m' rc',Z=some (.exit 0,(X,K'))/\X.length=77/\X.getD 13 uA=.ptr q 0/\K.length<=K'.length/\fx S K' q a ws vc vm vs f cs ss ad' m' rc'/\gZ m0 m'/\Trod ss m0 ad' m' rc'/\nk ss ad' rc'=true:=by
 subst hX
 exact H4 hfit hal _ ad m rc K tm rfl h hs hw hlen h13 h4 h15
theorem Ao {cs:List Cod} {m:List (List Int)} {x:Itm} (h:cK cs m x=true) (h0:x.kind≠0) (hw:eD x.word):yh m x:=by
 have e0:eqB x.kind 0=false:=jh h0
 refine ⟨h0,fun k=>?_,fun k=>?_,fun k=>tP h (.inl k),hw⟩
 · unfold cK at h
   rw [e0,cZ,ve k,eh] at h
   unfold inB xo at h
   simp only [aD,dp,dC,cX] at h
   omega
 · have e1:eqB x.kind 1=false:=jh (by omega)
   unfold cK at h
   rw [e0,cZ,e1,cZ,ve k,eh] at h
   unfold inB at h
   simp only [aD,dp,dC,cX] at h
   omega
theorem gZ.refl (m:List (List Int)):gZ m m:=⟨rfl,fun _=>rfl⟩
theorem fx.small {S K:AH} {q a:Nat} {ws:List AV} {vc vm vs:AV} {f:Con} {cs:List Cod} {ss:List (List Itm)} {ad:List Nat} {m:List (List Int)} {rc:List Bool} (h:fx S K q a ws vc vm vs f cs ss ad m rc):m.length<=100/\∀ b∈m,b.length<=1000:=
 ⟨bc h.nm (by decide),fun b hb=>bc (h.nb b hb) (by decide)⟩
theorem Pb {H:AH} {cs:List Cod} {m:List (List Int)} {ss:List (List Itm)} {vc vm vs:AV} (hc:cO H cs vc) (hm:dc H m vm) (hs:da H ss vs) (f:Con) (hk:fG cs m ss f=0) (hnl:∀ l∈ss,∀ x∈l,x.kind≠0):∃ v K ad m' rc',Ev aa C0 W0 17 [vc,vm,vs,.agg (d8 f),.nilSlice] H=some (.tuple [v,I (td ss ad rc'),I 0],K)/\Sub H K/\H.length<=K.length/\dc K m' v/\gZ m m'/\Trod ss m ad m' rc'/\nk ss ad rc'=true/\ad.length=ss.length:=by
 have hxb:∀ xs∈ss,xs.length < 2 ^ 50/\∀ x∈xs,eD x.word:=fun xs hx=>by
   obtain ⟨⟨l2,e2,_,h2⟩,_⟩:=hs
   rw [<-e2] at hx
   obtain ⟨p,hp,rfl⟩:=List.mem_map.1 hx
   exact ⟨(h2 p hp).n,(h2 p hp).iw⟩
 have G:=mP (fun xs hx=>(hxb xs hx).1) hk
 have hfit:∀ l∈ss,∀ x∈l,yh m x:=fun l hl x hx=>Ao (G.it l hl x hx) (hnl l hl x hx) ((hxb l hl).2 x hx)
 have hal:∀ l∈ss,∀ x∈l,x.args.length<=1000:=fun l hl x hx=>bc (G.args l hl x hx) (by decide)
 obtain ⟨K,S,q,a,ws,vc',vm',vs',he,hA,hHq,hQ,hAS⟩:=aay (hc.aX (al.app H [.cells [I f.w,.bool f.free,I f.cores,I f.slots,I f.room,I f.pol,I f.lat] 27])) (hm.aX (al.app H [.cells [I f.w,.bool f.free,I f.cores,I f.slots,I f.room,I f.pol,I f.lat] 27])) (hs.aX (al.app H [.cells [I f.w,.bool f.free,I f.cores,I f.slots,I f.room,I f.pol,I f.lat] 27])) f hk
 simp only [d8] at he
 have e0:eqB 0 0=true:=rfl
 have h12:=Pc hQ.view
 obtain ⟨tm,ht,g0,g1,g2,g3,g4,g5⟩:=tm5 vc vm vs (.agg (d8 f)) (.nilSlice) 77 (by decide)
 rw [Zo,ht]
 simp -implicitDefEqProofs only [c17,Tryz.f17,aP,g0,g1,g2,g3,g4,g5,d8,↓ZO,he,e0,↓Pa,h12,r5,↓az,nck,show ∀ o,put none H o=some (H.length,H++[o]) from fun _=>rfl,↓cbT,↓cbF,↓ao,an,eu,sevalprocAttr]
 generalize hX:EvC aa C0 W0 _ (Code.loop _) _=Z
 obtain ⟨X,K',ad',m',rc',hz,x0,x13,hKl,hQ',hsl,hw,hend⟩:=Ga hfit hal hX hQ (gZ.refl m) (Trod.init ss m) (by simp only [ls,g0]) (by simp only [g0,gB,sevalprocAttr]) (by simp only [g0,g5,gB,sevalprocAttr]) (by simp only [g0,gB,sevalprocAttr])
 subst hz
 have h12':=Pc hQ'.view
 obtain ⟨v,K2,he40,hA40,hm40⟩:=aal hQ'.view hQ'.small.1 hQ'.small.2
 refine ⟨v,K2,ad',m',rc',?_,((al.app H _).trans hAS).sub.trans (hQ'.sub.aX hA40),?_,hm40,hsl,hw,hend,hQ'.la⟩
 · simp -implicitDefEqProofs only [x0,x13,↓Pa,h12',↓ZF,he40,r5,↓az,nck,show ∀ o,put none H o=some (H.length,H++[o]) from fun _=>rfl,↓cbT,↓cbF,↓ao,an,eu,sevalprocAttr]
 · have h1:=hA.len
   rw [ai] at h1
   exact bc (bc (bc (cm _ _) h1) hKl) hA40.len
theorem Z0 {H:AH} {w:AV} {l:List Nat} {b k:Nat} (hs:SlS 30 1 H w (ints l)) (hl:l.length < 2 ^ 40) (hb:ak H b k 1=some [w]) (n:Int):Ev aa C0 W0 74 [I n,.ptr b k] H=some (.bool (xG l n),H):=by
 obtain ⟨tm,ht,g0,g1,g2⟩:=tm2 (I n) (.ptr b k) 7 (by decide)
 rw [YK,ht]
 rw [<-af (ro H)]
 have hb':∀ L,ak (ro H++L) b k 1=some [w]:=fun L=>jB (wN hb) (al.refl _) L
 have h63:=fun L=>Ws (hs.ro.app L) hl n
 simp -implicitDefEqProofs only [c74,Tryz.f74,aP,g0,g1,g2,hb',↓V2,h63,r5,↓az,nck,↓cbT,↓cbF,↓ao,an,eu,sevalprocAttr]
def q9 (a b:List Nat):Bool:=!bA (fun j=>!xG b ((a.getD j 0:Nat):Int)) a.length 0
theorem Sd {H:AH} {v w:AV} {l m:List Nat} {b k:Nat} (hs:SlS 30 1 H v (ints l)) (hw:SlS 30 1 H w (ints m)) (hm:m.length < 2 ^ 40) (hb:ak H b k 1=some [w]) (hN:l.length < 2 ^ 60):∀ (d j:Nat) (tm:List AV) (K:AH),l.length - j=d->j<=l.length->al H K->tm.length=19->tm.getD 0 uA=v->tm.getD 1 uA=.func (.func 74) [] [.ptr b k]->tm.getD 7 uA=I l.length->tm.getD 8 uA=I ((j:Nat):Int) ->
   ∃ X Y K1 K2,EvC aa C0 W0 plN DD (tm,K)=br (bA (fun j=>!xG m ((l.getD j 0:Nat):Int)) (l.length) (j)) (some (.exit 0,(X,K1))) (some (.ret,(Y,K2)))/\(X.length=19/\al H K1/\X.getD 0 uA=v/\X.getD 1 uA=.func (.func 74) [] [.ptr b k]/\X.getD 7 uA=I l.length)/\Y.length=19/\∃ r:Int,0<=r/\Y.getD 4 uA=I r:=by
 intro d
 induction d with
 | zero =>
   intro j tm K hd hj hA hlen h0 h1 h7 h8
   have hjl:j=l.length:=by omega
   subst hjl
   have hlt:ltB (((l.length:Nat)):Int) (l.length:Nat)=false:=db (by omega)
   rw [cN (ax _),Fb]
   simp -implicitDefEqProofs only [x7,Tryz.f102,aP,hlen,h0,h1,h7,h8,hlt,↓cbT,↓cbF,↓ao,an,eu,sevalprocAttr]
   exact ⟨_,tm.set 4 (I 0),_,K,rfl,⟨by first | exact hlen | simp only [ar,hlen],hA,by first | exact h0 | simp only [hlen,h0,gB,sevalprocAttr],by first | exact h1 | simp only [hlen,h1,gB,sevalprocAttr],by first | exact h7 | simp only [hlen,h7,gB,sevalprocAttr]⟩,by simp only [ls,hlen],⟨0,Int.le_refl _,by simp only [hlen,dq,Nat.reduceLT]⟩⟩
 | succ d ih =>
   intro j tm K hd hj hA hlen h0 h1 h7 h8
   have hjN:j < l.length:=by omega
   have hlt:ltB (j:Int) (l.length:Nat)=true:=cQ (by omega)
   have hwi:=cD (j:=j) (by omega)
   obtain ⟨i,kx,hix,hrd⟩:=ints_at hs hA hjN
   have h74:=fun L=>Z0 (hw.same (hA.bS L)) hm (ju (hA.bS L) hb) ((l.getD j 0:Nat):Int)
   rw [ch hjN,Fb]
   rw [<-af K]
   cases hp:(!xG m ((l.getD j 0:Nat):Int)) with
   | true =>
     simp only [aZ]
     rw [ba] at hp
     simp -implicitDefEqProofs only [x7,Tryz.f102,aP,hlen,h0,h1,h7,h8,hlt,hwi,hix,hrd,↓aO,Tryz.func74,show Tryz.f74.body.isSome=true from rfl,h74,hp,r5,↓az,nck,↓cbT,↓cbF,↓ao,an,eu,sevalprocAttr]
     exact ih (j+1) _ _ (by omega) (by omega) (by first | exact hA | exact hA.bS _ | exact (hA.bS _).bS _) (by simp only [ls,hlen]) (by simp only [hlen,h0,gB,sevalprocAttr]) (by simp only [hlen,h1,gB,sevalprocAttr]) (by simp only [hlen,h7,gB,sevalprocAttr]) (by simp only [hlen,h8,gB,sevalprocAttr])
   | false =>
     simp only [Bool.false_and]
     rw [Bool.not_eq_false'] at hp
     simp -implicitDefEqProofs only [x7,Tryz.f102,aP,hlen,h0,h1,h7,h8,hlt,hwi,hix,hrd,↓aO,Tryz.func74,show Tryz.f74.body.isSome=true from rfl,h74,hp,r5,↓az,nck,↓cbT,↓cbF,↓ao,an,eu,sevalprocAttr]
     exact ⟨tm,_,K,_,rfl,⟨hlen,hA,h0,h1,h7⟩,by simp only [ls,hlen],⟨_,Int.natCast_nonneg j,by simp only [hlen,gB,sevalprocAttr]⟩⟩
theorem OK {H:AH} {v w:AV} {l m:List Nat} {b k:Nat} {tm:List AV} {K:AH} {Z:Option (bu × St)} (hX:EvC aa C0 W0 plN DD (tm,K)=Z) (hs:SlS 30 1 H v (ints l)) (hw:SlS 30 1 H w (ints m)) (hm:m.length < 2 ^ 40) (hb:ak H b k 1=some [w]) (hN:l.length < 2 ^ 60) (hA:al H K) (hlen:tm.length=19) (h0:tm.getD 0 uA=v) (h1:tm.getD 1 uA=.func (.func 74) [] [.ptr b k]) (h7:tm.getD 7 uA=I l.length) (h8:tm.getD 8 uA=I ((0:Nat):Int)) :
   ∃ X Y K1 K2,Z=br (bA (fun j=>!xG m ((l.getD j 0:Nat):Int)) (l.length) (0)) (some (.exit 0,(X,K1))) (some (.ret,(Y,K2)))/\(X.length=19/\al H K1/\X.getD 0 uA=v/\X.getD 1 uA=.func (.func 74) [] [.ptr b k]/\X.getD 7 uA=I l.length)/\Y.length=19/\∃ r:Int,0<=r/\Y.getD 4 uA=I r:=by
 subst hX
 exact Sd hs hw hm hb hN (l.length) 0 tm K (by omega) (by omega) hA hlen h0 h1 h7 h8
theorem WO {H:AH} {v w:AV} {l m:List Nat} {b k:Nat} (hs:SlS 30 1 H v (ints l)) (hw:SlS 30 1 H w (ints m)) (hl:l.length < 2 ^ 40) (hm:m.length < 2 ^ 40) (hb:ak H b k 1=some [w]):∃ r,Ev aa C0 W0 102 [v,.func (.func 74) [] [.ptr b k]] H=some (I r,H)/\leB 0 r=q9 l m:=by
 obtain ⟨tm,ht,g0,g1,g2⟩:=tm2 v (.func (.func 74) [] [.ptr b k]) 19 (by decide)
 rw [VU,ht]
 rw [<-af (ro H)]
 have hln:=mM hs.ro
 unfold q9
 simp -implicitDefEqProofs only [Xf,Tryz.f102,aP,g0,g1,g2,hln,r5,↓az,nck,↓cbT,↓cbF,↓ao,an,eu,sevalprocAttr]
 generalize hX:EvC aa C0 W0 _ (Code.loop _) _=Z
 obtain ⟨X,Y,K1,K2,he,xs,y0,y1⟩:=OK  hX hs.ro hw.ro hm (wN hb) (by omega) (al.app _ _) (by simp only [ls,g0]) (by simp only [g0,g1,gB,sevalprocAttr]; try rfl) (by simp only [g0,g2,gB,sevalprocAttr]; try rfl) (by simp only [g0,gB,sevalprocAttr]; try rfl) (by simp only [g0,gB,sevalprocAttr]; try rfl)
 subst he
 obtain ⟨r,hr0,hr⟩:=y1
 cases hf:bA (fun j=>!xG m ((l.getD j 0:Nat):Int)) l.length 0 with
 | true =>
   refine ⟨-1,?_,rfl⟩
   simp -implicitDefEqProofs only [xs.1,hf,↓cbT,↓cbF,↓ao,an,eu,sevalprocAttr]
 | false =>
   refine ⟨r,?_,by rw [(dp _ _).2 hr0]; rfl⟩
   simp -implicitDefEqProofs only [y0,hr,hf,↓cbT,↓cbF,↓ao,an,eu,sevalprocAttr]
theorem Z1 {H:AH} {v w:AV} {l m:List Nat} {b k:Nat} (hs:SlS 30 1 H v (ints l)) (hw:SlS 30 1 H w (ints m)) (hl:l.length < 2 ^ 40) (hm:m.length < 2 ^ 40) (hb:ak H b k 1=some [w]):Ev aa C0 W0 73 [v,.func (.func 74) [] [.ptr b k]] H=some (.bool (q9 l m),H):=by
 obtain ⟨tm,ht,g0,g1,g2⟩:=tm2 v (.func (.func 74) [] [.ptr b k]) 9 (by decide)
 rw [YL,ht]
 rw [<-af (ro H)]
 obtain ⟨r,hr,hbb⟩:=WO (hs.ro.app []) (hw.ro.app []) hl hm (ju (al.app (ro H) []) (wN hb))
 simp -implicitDefEqProofs only [c73,Tryz.f73,aP,g0,g1,g2,↓Wm,hr,hbb,r5,↓az,nck,↓cbT,↓cbF,↓ao,an,eu,sevalprocAttr]
theorem Wr {H:AH} {v w:AV} {l m:List Nat} (hs:SlS 30 1 H v (ints l)) (hw:SlS 30 1 H w (ints m)) (hl:l.length < 2 ^ 40) (hm:m.length < 2 ^ 40) (L:AH):Ev aa C0 W0 72 [v,w] (H++L)=some (.bool (q9 l m),H++(L++[.cells [w] 30])):=by
 obtain ⟨tm,ht,g0,g1,g2⟩:=tm2 v w 8 (by decide)
 rw [YM,ht]
 have hwc:=hw.cells
 have hwo:=hw.one
 have h73:=Z1 (b:=H.length+L.length) (k:=0) (hs.app (L++[.cells [w] 30])) (hw.app (L++[.cells [w] 30])) hl hm (by
   rw [lk]
   unfold ak
   rw [aw (ax _),dI]; rfl)
 simp -implicitDefEqProofs only [c72,Tryz.f72,aP,g0,g1,g2,↓hwc,↓hwo,↓Zz,h73,r5,↓az,nck,↓cbT,↓cbF,↓ao,an,eu,sevalprocAttr]
def ke (c:Cod) (args:List Int) (j:Nat):List Nat:=((bn j).filter fun (i:Nat)=>iU c (i:Int)).map fun (i:Nat)=>(gg args i).toNat
theorem xQ (c:Cod) (args:List Int) (j:Nat):ke c args (j+1)=if iU c (j:Int) then ke c args j++[(gg args j).toNat] else ke c args j:=by
 unfold ke
 rw [kh,List.filter_append,dX]
 cases h:iU c (j:Int) <;> simp [h]
theorem zt (c:Cod) (args:List Int) (j:Nat):(ke c args j).length<=j:=by
 unfold ke
 rw [au]
 exact bc (List.length_filter_le _ _) (by rw [List.length_range]; exact ax _)
def lz (cs:List Cod) (x:Itm):List Nat:=
 if x.kind=0 then ke (cY cs x.code.toNat) x.args (cY cs x.code.toNat).params.length
 else if x.kind=1 then [x.src.toNat,x.dst.toNat] else if x.kind=2 then [x.dst.toNat] else []
def qT (cs:List Cod) (x:Itm):List Nat:=
 if x.kind=0 then ke (cY cs x.code.toNat) x.args (cY cs x.code.toNat).params.length
 else if x.kind=1 then [x.dst.toNat] else if x.kind=2 then [x.dst.toNat] else []
theorem pD {cs:List Cod} {m:List (List Int)} {x:Itm} (h:cK cs m x=true) (k:x.kind=0):(0<=x.code/\x.code.toNat < cs.length)/\x.args.length=(cY cs x.code.toNat).params.length /\
   ∀ j,j < (cY cs x.code.toNat).params.length->iU (cY cs x.code.toNat) (j:Int)=true->0<=gg x.args j/\gg x.args j < 6:=by
 unfold cK at h
 rw [ve k,eh] at h
 simp only [aD,dp,dC] at h
 obtain ⟨⟨⟨h1,h2⟩,h3⟩,_⟩:=h
 unfold oY u7 ph at h3
 simp only [aD,cX] at h3
 obtain ⟨⟨⟨⟨h4,h5⟩,_⟩,_⟩,_⟩:=h3
 refine ⟨⟨h1,by omega⟩,by omega,fun j hj hb=>?_⟩
 have:=dy.1 h5 j hj
 unfold jb at this
 rw [hb,aZ,ba,qV,fe,nL] at this
 omega
theorem zw (s:Option Nat) (a:Int) (H:AH):bf aa s 30 1 [(0,I a)] H=(put s H (.cells [I a] 3)).map fun p=>(.slice p.1 0 1 1 1 true,p.2):=by kernel_rfl
theorem Ma (s:Option Nat) (a b:Int) (H:AH):bf aa s 30 2 [(0,I a),(1,I b)] H=(put s H (.cells [I a,I b] 3)).map fun p=>(.slice p.1 0 1 2 2 true,p.2):=by kernel_rfl
theorem QV {G:AH} {c:Cod} {vp vs vi va:AV} {x:Itm} {bx:Nat} (h:dO G c vp vs vi) (ha:SlS 32 1 G va (x.args.map dh)) (hbx:G[bx]? =some (.cells (aU x va) 34)) (hn6:c.params.length<=6) (hal:x.args.length=c.params.length) (hpos:∀ j,j < c.params.length->iU c (j:Int)=true->0<=gg x.args j/\gg x.args j < 6) (hN:c.params.length < 2 ^ 60):∀ (d j:Nat) (tm:List AV) (K:AH),c.params.length - j=d->j<=c.params.length->(tm.length=56/\al G K/\tm.getD 3 uA=.ptr bx 0/\tm.getD 17 uA=vp/\tm.getD 18 uA=I c.params.length/\tm.getD 19 uA=I ((j:Nat):Int)/\∃ v,tm.getD 4 uA=v/\Own G.length K 1 3 v ((ke c x.args j).map fun (n:Nat)=>I (n:Int))) ->
   ∃ X K1,EvC aa C0 W0 wW EH (tm,K)=some (.exit 1,(X,K1))/\(X.length=56/\al G K1/\X.getD 3 uA=.ptr bx 0/\X.getD 17 uA=vp/\X.getD 18 uA=I c.params.length/\X.getD 19 uA=I ((c.params.length:Nat):Int)/\∃ v,X.getD 4 uA=v/\Own G.length K1 1 3 v ((ke c x.args c.params.length).map fun (n:Nat)=>I (n:Int))):=by
 intro d
 induction d with
 | zero =>
   intro j tm K hd hj hI
   have hjl:j=c.params.length:=by omega
   subst hjl
   have hI0:=hI
   obtain ⟨hlen,hA,h3,h17,h18,h19,v,h4,ho⟩:=hI
   have hlt:ltB (((c.params.length:Nat)):Int) (c.params.length:Nat)=false:=db (by omega)
   rw [Lc]
   simp -implicitDefEqProofs only [Cj,Tryz.f75,aP,hlen,h3,h17,h18,h19,h4,hlt,↓cbT,↓cbF,↓ao,an,eu,sevalprocAttr]
   refine ⟨_,K,rfl,?_⟩
   exact ⟨by first | exact hlen | simp only [ar,hlen],hA,Aj4 (by simp only [hlen,h3,h17,h18,h19,gB,and_self,sevalprocAttr]) ⟨v,by simp only [hlen,h4,gB,sevalprocAttr],ho⟩⟩
 | succ d ih =>
   intro j tm K hd hj hI
   have hI0:=hI
   obtain ⟨hlen,hA,h3,h17,h18,h19,v,h4,ho⟩:=hI
   have hjN:j < c.params.length:=by omega
   have hlt:ltB (j:Int) (c.params.length:Nat)=true:=cQ (by omega)
   have hw:=cD (j:=j) (by omega)
   obtain ⟨i,k,nm,hix,hrd1,hrd2⟩:=zW h hA hjN
   obtain ⟨i2,k2,hix2,hra⟩:=AI ha hA (j:=j) (by omega)
   have hbq:∀ L,ak (K++L) bx 7 1=some [va]:=fun L=>by rw [eQ (hA.get hbx) L]; rfl
   rw [Lc]
   rw [<-af K]
   have key:∀ (tmN:List AV) (KN:AH) (Z:Option (bu × St)),EvC aa C0 W0 wW EH (tmN,KN)=Z->(tmN.length=56/\al G KN/\tmN.getD 3 uA=.ptr bx 0/\tmN.getD 17 uA=vp/\tmN.getD 18 uA=I c.params.length/\tmN.getD 19 uA=I (((j+1):Nat):Int)/\∃ v,tmN.getD 4 uA=v/\Own G.length KN 1 3 v ((ke c x.args (j+1)).map fun (n:Nat)=>I (n:Int)))->∃ X K1,Z=some (.exit 1,(X,K1))/\(X.length=56/\al G K1/\X.getD 3 uA=.ptr bx 0/\X.getD 17 uA=vp/\X.getD 18 uA=I c.params.length/\X.getD 19 uA=I ((c.params.length:Nat):Int)/\∃ v,X.getD 4 uA=v/\Own G.length K1 1 3 v ((ke c x.args c.params.length).map fun (n:Nat)=>I (n:Int))):=by
     intro tmN KN Z h hJ
     obtain ⟨X,K1,A,B⟩:=ih (j+1) tmN KN (by omega) (by omega) hJ
     exact ⟨X,K1,h.symm.trans A,B⟩
   cases hb:iU c (j:Int) with
   | true =>
     rw [hb] at hrd1 hrd2
     have hn:=hpos j hjN hb
     have hwa:IntKind.i64.wrap (gg x.args j)=((gg x.args j).toNat:Int):=by rw [qN (by omega)]; omega
     obtain ⟨v',K',happ,hA',ho',_⟩:=AK (hA.bS [bo.cells [.str nm,.bool true] 74]) (ho.aX (al.app K [bo.cells [.str nm,.bool true] 74])) (by have:=zt c x.args j; omega) (gg x.args j).toNat
     simp only [ai,b6,List.length_nil,Nat.zero_add,aE,List.cons_append,iH] at happ
     simp -implicitDefEqProofs only [Cj,Tryz.f75,aP,hlen,h3,h17,h18,h19,h4,hlt,hw,hix,hrd1,hrd2,hix2,hra,hbq,hwa,hb,z74,vu,Pz,↓ck,happ,r5,↓az,nck,↓cbT,↓cbF,↓ao,an,eu,sevalprocAttr]
     generalize hX:EvC aa C0 W0 _ _ _=Z
     refine key _ _ _ hX ?_
     exact ⟨by first | exact hlen | simp only [ar,hlen],hA',Aj4 (by simp only [hlen,h3,h17,h18,h19,gB,and_self,sevalprocAttr]) ⟨v',by simp only [hlen,h4,gB,sevalprocAttr],by rw [xQ,hb,if_pos rfl]; exact ho'⟩⟩
   | false =>
     rw [hb] at hrd1 hrd2
     simp -implicitDefEqProofs only [Cj,Tryz.f75,aP,hlen,h3,h17,h18,h19,h4,hlt,hw,hix,hrd1,hrd2,hix2,hra,hbq,hb,z74,vu,r5,↓az,nck,↓cbT,↓cbF,↓ao,an,eu,sevalprocAttr]
     generalize hX:EvC aa C0 W0 _ _ _=Z
     refine key _ _ _ hX ?_
     exact ⟨by first | exact hlen | simp only [ar,hlen],hA.bS _,Aj4 (by simp only [hlen,h3,h17,h18,h19,gB,and_self,sevalprocAttr]) ⟨v,by simp only [hlen,h4,gB,sevalprocAttr],by rw [xQ,hb]; exact ho.aX (al.app K _)⟩⟩
theorem MW {G:AH} {c:Cod} {vp vs vi va:AV} {x:Itm} {bx:Nat} {tm:List AV} {K:AH} {Z:Option (bu × St)} (hX:EvC aa C0 W0 wW EH (tm,K)=Z) (h:dO G c vp vs vi) (ha:SlS 32 1 G va (x.args.map dh)) (hbx:G[bx]? =some (.cells (aU x va) 34)) (hn6:c.params.length<=6) (hal:x.args.length=c.params.length) (hpos:∀ j,j < c.params.length->iU c (j:Int)=true->0<=gg x.args j/\gg x.args j < 6) (hN:c.params.length < 2 ^ 60) (hI:tm.length=56/\al G K/\tm.getD 3 uA=.ptr bx 0/\tm.getD 17 uA=vp/\tm.getD 18 uA=I c.params.length/\tm.getD 19 uA=I ((0:Nat):Int)/\∃ v,tm.getD 4 uA=v/\Own G.length K 1 3 v ((ke c x.args 0).map fun (n:Nat)=>I (n:Int))) :
   ∃ X K1,Z=some (.exit 1,(X,K1))/\(X.length=56/\al G K1/\X.getD 3 uA=.ptr bx 0/\X.getD 17 uA=vp/\X.getD 18 uA=I c.params.length/\X.getD 19 uA=I ((c.params.length:Nat):Int)/\∃ v,X.getD 4 uA=v/\Own G.length K1 1 3 v ((ke c x.args c.params.length).map fun (n:Nat)=>I (n:Int))):=by
 subst hX
 exact QV h ha hbx hn6 hal hpos hN (c.params.length) 0 tm K (by omega) (by omega) hI
theorem zO {H L:AH} {i:Nat} {l:List Nat} (h:L[i]? =some (.cells (l.map fun (n:Nat)=>I (n:Int)) 3)):SlS 30 1 (H++L) (.slice (H.length+i) 0 1 l.length l.length true) (ints l):=by
 have hg:(H++L)[H.length+i]? =some (.cells (l.map fun (n:Nat)=>I (n:Int)) 3):=by rw [aw (cm _ _),Nat.add_sub_cancel_left]; exact h
 have:=m6 (T:=30) (es:=1) xu (H:=H++L) (i:=H.length+i) (k:=0) (c:=l.length) (e:=true) (rows:=ints l) (pE l) (by unfold okC; rw [hg]) (by
   unfold ak
   rw [hg]
   simp only
   rw [if_pos (by simp [ints]),iu,bt (by simp [ints]),nN])
 rwa [show (ints l).length=l.length from by simp [ints]] at this
theorem QY {H:AH} {cs:List Cod} {vc va:AV} {x:Itm} (hac:va.cells=[va]) (hao:va.one=true) (hk:x.kind=1) (hf:0<=x.src/\0<=x.dst):∃ u c K,Ev aa C0 W0 75 [vc,.agg (aU x va)] H=some (.tuple [u,c],K)/\al H K/\SlS 30 1 K u (ints (lz cs x))/\SlS 30 1 K c (ints (qT cs x)):=by
 obtain ⟨tm,ht,g0,g1,g2⟩:=tm2 vc (.agg (aU x va)) 56 (by decide)
 rw [O5,ht]
 obtain ⟨kind,code,grid,block,src,dst,ev,args,word⟩:=x
 simp only at hk hf
 subst hk
 have e0:eqB 1 0=false:=rfl
 have e1:eqB 1 1=true:=rfl
 have e2:eqB 1 2=false:=rfl
 obtain ⟨s,rfl⟩:∃ s:Nat,src=s:=⟨src.toNat,by omega⟩
 obtain ⟨d,rfl⟩:∃ d:Nat,dst=d:=⟨dst.toNat,by omega⟩
 simp -implicitDefEqProofs only [c75,Tryz.f75,aP,g0,g1,g2,aU,↓hac,↓hao,e0,e1,e2,↓dn wV,↓dn wU,w4,wZ,d6,dz,eE,fi,cJ,d5,dH,du,zw,Ma,r5,↓az,nck,show ∀ o,put none H o=some (H.length,H++[o]) from fun _=>rfl,↓cbT,↓cbF,↓ao,an,eu,sevalprocAttr,↓fK,↓fI,↓jG,↓gP,↓fJ,↓gQ,↓ez,↓fL,↓cF,↓bX,↓dj,↓gR,↓eA,↓fM,↓cH,↓cG,↓dk,↓e9,↓dK,eB,cd,ai,bV,di,dJ,eC]
 refine ⟨_,_,_,rfl,al.app _ _,?_,?_⟩
 · exact zO (i:=5) (l:=[s,d]) rfl
 · exact zO (i:=8) (l:=[d]) rfl
theorem QX {H:AH} {cs:List Cod} {vc va:AV} {x:Itm} (hac:va.cells=[va]) (hao:va.one=true) (hk:x.kind=2) (hf:0<=x.dst):∃ u c K,Ev aa C0 W0 75 [vc,.agg (aU x va)] H=some (.tuple [u,c],K)/\al H K/\SlS 30 1 K u (ints (lz cs x))/\SlS 30 1 K c (ints (qT cs x)):=by
 obtain ⟨tm,ht,g0,g1,g2⟩:=tm2 vc (.agg (aU x va)) 56 (by decide)
 rw [O5,ht]
 obtain ⟨kind,code,grid,block,src,dst,ev,args,word⟩:=x
 simp only at hk hf
 subst hk
 have e0:eqB 2 0=false:=rfl
 have e1:eqB 2 1=false:=rfl
 have e2:eqB 2 2=true:=rfl
 obtain ⟨d,rfl⟩:∃ d:Nat,dst=d:=⟨dst.toNat,by omega⟩
 simp -implicitDefEqProofs only [c75,Tryz.f75,aP,g0,g1,g2,aU,↓hac,↓hao,e0,e1,e2,↓dn wV,↓dn wU,w4,wZ,d6,dz,eE,fi,cJ,d5,dH,du,zw,Ma,r5,↓az,nck,show ∀ o,put none H o=some (H.length,H++[o]) from fun _=>rfl,↓cbT,↓cbF,↓ao,an,eu,sevalprocAttr,↓fK,↓fI,↓jG,↓gP,↓fJ,↓gQ,↓ez,↓fL,↓cF,↓bX,↓dj,↓gR,↓eA,↓fM,↓cH,↓cG,↓dk,↓e9,↓dK,eB,cd,ai,bV,di,dJ,eC]
 refine ⟨_,_,_,rfl,al.app _ _,?_,?_⟩
 · exact zO (i:=3) (l:=[d]) rfl
 · exact zO (i:=6) (l:=[d]) rfl
theorem QW {H:AH} {cs:List Cod} {vc va:AV} {x:Itm} (hac:va.cells=[va]) (hao:va.one=true) (hk:x.kind≠0/\x.kind≠1/\x.kind≠2):∃ u c K,Ev aa C0 W0 75 [vc,.agg (aU x va)] H=some (.tuple [u,c],K)/\al H K/\SlS 30 1 K u (ints (lz cs x))/\SlS 30 1 K c (ints (qT cs x)):=by
 obtain ⟨tm,ht,g0,g1,g2⟩:=tm2 vc (.agg (aU x va)) 56 (by decide)
 rw [O5,ht]
 obtain ⟨kind,code,grid,block,src,dst,ev,args,word⟩:=x
 simp only at hk
 have e0:=jh hk.1
 have e1:=jh hk.2.1
 have e2:=jh hk.2.2
 simp -implicitDefEqProofs only [c75,Tryz.f75,aP,g0,g1,g2,aU,↓hac,↓hao,e0,e1,e2,↓dn wV,↓dn wU,w4,wZ,d6,dz,eE,fi,cJ,d5,dH,du,zw,Ma,r5,↓az,nck,show ∀ o,put none H o=some (H.length,H++[o]) from fun _=>rfl,↓cbT,↓cbF,↓ao,an,eu,sevalprocAttr,↓fK,↓fI,↓jG,↓gP,↓fJ,↓gQ,↓ez,↓fL,↓cF,↓bX,↓dj,↓gR,↓eA,↓fM,↓cH,↓cG,↓dk,↓e9,↓dK,eB,cd,ai,bV,di,dJ,eC]
 refine ⟨_,_,_,rfl,al.app _ _,?_,?_⟩
 · rw [show lz cs _=[] from by unfold lz; rw [if_neg hk.1,if_neg hk.2.1,if_neg hk.2.2]]; exact kG xu _
 · rw [show qT cs _=[] from by unfold qT; rw [if_neg hk.1,if_neg hk.2.1,if_neg hk.2.2]]; exact kG xu _
theorem QZ {H:AH} {cs:List Cod} {m:List (List Int)} {vc va:AV} {x:Itm} (hc:cO H cs vc) (hcp:∀ c∈cs,c.params.length<=6) (ha:SlS 32 1 H va (x.args.map dh)) (hk:x.kind=0) (hr:cK cs m x=true):∃ u c K,Ev aa C0 W0 75 [vc,.agg (aU x va)] H=some (.tuple [u,c],K)/\al H K/\SlS 30 1 K u (ints (lz cs x))/\SlS 30 1 K c (ints (qT cs x)):=by
 obtain ⟨tm,ht,g0,g1,g2⟩:=tm2 vc (.agg (aU x va)) 56 (by decide)
 rw [O5,ht]
 have hac:=ha.cells
 have hao:=ha.one
 obtain ⟨⟨h1,h2⟩,h3,h4⟩:=pD hr hk
 obtain ⟨i0,k0,vp,vs,vi,hix,hrd,hcd⟩:=hc.at (al.app H [.cells (aU x va) 34]) (j:=x.code.toNat) h2
 have hcm:cY cs x.code.toNat∈cs:=by
   unfold cY
   exact eX h2 _
 have hu:lz cs x=ke (cY cs x.code.toNat) x.args (cY cs x.code.toNat).params.length:=by unfold lz; rw [if_pos hk]
 have hch:qT cs x=ke (cY cs x.code.toNat) x.args (cY cs x.code.toNat).params.length:=by unfold qT; rw [if_pos hk]
 rw [hu,hch]
 have hp6:=hcp _ hcm
 have hcode:x.code=(x.code.toNat:Int):=by omega
 have hix':∀ kk,aG aa 22 vc (.int kk x.code)=some (.ptr i0 k0):=fun kk=>by rw [hcode]; exact hix kk
 have hrv:∀ L,ak (H++(.cells (aU x va) 34::L)) i0 (k0+1) 1=some [vp]:=fun L=>by
   have:=hrd L
   rw [aE] at this
   exact jU this (j:=1) rfl
 have hlp:=hcd.lp
 have e0:eqB x.kind 0=true:=ve hk
 simp only [aU] at hrv
 simp -implicitDefEqProofs only [c75,Tryz.f75,aP,g0,g1,g2,aU,↓hac,↓hao,e0,hix',hrv,hlp,r5,↓az,nck,show ∀ o,put none H o=some (H.length,H++[o]) from fun _=>rfl,↓cbT,↓cbF,↓ao,an,eu,sevalprocAttr]
 generalize hX:EvC aa C0 W0 _ (Code.loop _) _=Z
 obtain ⟨X,K1,he,i0',iA,i3,i17,i18,i19,v,i4,io⟩:=MW (G:=H++[.cells (aU x va) 34]) (bx:=H.length) hX (hcd.aX (al.app H _)) (ha.app _) (by rw [aw (ax _),dI]; rfl) hp6 h3 h4 (by omega) ⟨by simp only [ls,g0],al.refl _,Aj3 (by simp only [g0,gB,and_self,sevalprocAttr]) ⟨by simp only [g0,gB,sevalprocAttr]; try rfl,.nilSlice,by simp only [g0,gB,sevalprocAttr],.nil⟩⟩
 subst he
 simp -implicitDefEqProofs only [aP,i0',i4,↓cbT,↓cbF,↓ao,an,eu,sevalprocAttr]
 exact ⟨_,_,K1,rfl,(al.app H _).trans iA,io.ints,io.ints⟩
theorem Wq {H:AH} {cs:List Cod} {m:List (List Int)} {vc va:AV} {x:Itm} (hc:cO H cs vc) (hcp:∀ c∈cs,c.params.length<=6) (ha:SlS 32 1 H va (x.args.map dh)) (hr:cK cs m x=true):∃ u c K,Ev aa C0 W0 75 [vc,.agg (aU x va)] H=some (.tuple [u,c],K)/\al H K/\SlS 30 1 K u (ints (lz cs x))/\SlS 30 1 K c (ints (qT cs x)):=by
 by_cases k0:x.kind=0
 · exact QZ hc hcp ha k0 hr
 · have e0:eqB x.kind 0=false:=jh k0
   by_cases k1:x.kind=1
   · refine QY ha.cells ha.one k1 ?_
     unfold cK at hr
     rw [e0,cZ,ve k1,eh] at hr
     unfold inB at hr
     simp only [aD,dp,dC,cX] at hr
     omega
   · have e1:eqB x.kind 1=false:=jh k1
     by_cases k2:x.kind=2
     · refine QX ha.cells ha.one k2 ?_
       unfold cK at hr
       rw [e0,cZ,e1,cZ,ve k2,eh] at hr
       unfold inB at hr
       simp only [aD,dp,dC,cX] at hr
       omega
     · exact QW ha.cells ha.one ⟨k0,k1,k2⟩
theorem yC {cs:List Cod} (hcp:∀ c∈cs,c.params.length<=6) {m:List (List Int)} {x:Itm} (hr:cK cs m x=true):(lz cs x).length<=6/\(qT cs x).length<=6:=by
 have key:x.kind=0->(cY cs x.code.toNat).params.length<=6:=fun k=>by
   obtain ⟨⟨_,h2⟩,_⟩:=pD hr k
   refine hcp _ ?_
   unfold cY
   exact eX h2 _
 unfold lz qT
 split
 · rename_i k
   have:=zt (cY cs x.code.toNat) x.args (cY cs x.code.toNat).params.length
   have:=key k
   omega
 · split
   · simp
   · split <;> simp
def rI (cs:List Cod) (x y:Itm):Bool:=q9 (lz cs x) (qT cs y) || q9 (qT cs x) (lz cs y)
theorem aak {H:AH} {cs:List Cod} {m:List (List Int)} {vc va vb:AV} {x y:Itm} (hc:cO H cs vc) (hcp:∀ c∈cs,c.params.length<=6) (ha:SlS 32 1 H va (x.args.map dh)) (hb:SlS 32 1 H vb (y.args.map dh)) (hrx:cK cs m x=true) (hry:cK cs m y=true):Ev aa C0 W0 43 [vc,.agg (aU x va),.agg (aU y vb)] H=some (.bool (rI cs x y),H):=by
 obtain ⟨tm,ht,g0,g1,g2,g3⟩:=tm3 vc (.agg (aU x va)) (.agg (aU y vb)) 34 (by decide)
 rw [Za,ht]
 rw [<-af (ro H)]
 have hac:=ha.cells
 have hao:=ha.one
 have hbc:=hb.cells
 have hbo:=hb.one
 have hA0:=al.app (ro H) [bo.cells (aU x va) 34,.cells (aU y vb) 34]
 obtain ⟨u1,c1,K1,he1,hA1,hu1,hc1⟩:=Wq (hc.ro.aX hA0) hcp (ha.ro.same hA0) hrx
 have hA01:=hA0.trans hA1
 obtain ⟨u2,c2,K2,he2,hA2,hu2,hc2⟩:=Wq (hc.ro.aX hA01) hcp (hb.ro.same hA01) hry
 have hu1':=hu1.same hA2
 have hc1':=hc1.same hA2
 have l1:=yC hcp hrx
 have l2:=yC hcp hry
 have h72a:=Wr hu1' hc2 (by omega) (by omega) []
 have h72b:=Wr hc1' hu2 (by omega) (by omega) [.cells [c2] 30]
 rw [af,iH] at h72a
 have hy1:ak K1 ((ro H).length+1) 0 9=some (aU y vb):=ju hA1 (by rw [lk]; rfl)
 unfold rI
 have hF:∀ gl tm,cz gl tm (.func 72)=some (.func (.func 72) [] []):=fun _ _=>rfl
 simp only [aU] at he1 he2 hy1
 cases hm:q9 (lz cs x) (qT cs y) with
 | true =>
   rw [hm] at h72a
   simp -implicitDefEqProofs only [c43,Tryz.f43,aP,g0,g1,g2,g3,aU,↓hac,↓hao,↓hbc,↓hbo,↓VY,he1,he2,hy1,hF,↓aO,Tryz.func72,show Tryz.f72.body.isSome=true from rfl,h72a,r5,↓az,nck,↓cbT,↓cbF,↓ao,an,eu,sevalprocAttr]
 | false =>
   rw [hm] at h72a
   simp -implicitDefEqProofs only [c43,Tryz.f43,aP,g0,g1,g2,g3,aU,↓hac,↓hao,↓hbc,↓hbo,↓VY,he1,he2,hy1,hF,↓aO,Tryz.func72,show Tryz.f72.body.isSome=true from rfl,h72a,h72b,r5,↓az,nck,↓cbT,↓cbF,↓ao,an,eu,sevalprocAttr]
def kV (l:List Nat):List (AV × AV × Nat):=(wo l (bn l.length)).map fun p=>(I (p.1:Int),.bool true,p.2)
theorem UB:kZ aa 95=some (3,4):=by kernel_rfl
theorem Mj (e:Bool) (n:Int):D4 aa 3 e (I n)=some (.int .i64 n,.int .i64):=by cases e <;> kernel_rfl
theorem HZ (a b:Int):uU aa 3 (.int .i64) (.int .i64 a) (.int .i64 b)=some (a == b):=by
 unfold uU Instr.sameNow; rfl
theorem xK (n:Nat):∀ (l:List (Nat × Nat)) (i:Nat),iy aa 3 (.int .i64) (.int .i64 n) (l.map fun p=>(I (p.1:Int),.bool true,p.2)) i=if (l.map (·.1)).contains n then (iy aa 3 (.int .i64) (.int .i64 n) (l.map fun p=>(I (p.1:Int),.bool true,p.2)) i) else some none
 | [],i=>rfl
 | p::l,i=>by
   have ih:=xK n l (i+1)
   simp only [gy,iy,toV,ay,HZ,tF]
   cases h:((n:Int) == (p.1:Int)) with
   | true =>
     have:(n == p.1)=true:=by rw [beq_iff_eq] at h ⊢; exact Int.ofNat_inj.1 h
     rw [this]; simp
   | false =>
     have:(n == p.1)=false:=by rw [beq_eq_false_iff_ne] at h ⊢; exact fun e=>h (by rw [e])
     rw [this]
     simp only [ly]; exact ih
theorem zf (n:Nat):∀ (l:List (Nat × Nat)) (i:Nat),(l.map (·.1)).contains n=true->∃ j,iy aa 3 (.int .i64) (.int .i64 n) (l.map fun p=>(I (p.1:Int),.bool true,p.2)) i=some (some (j,.bool true))
 | [],i,h=>by simp at h
 | p::l,i,h=>by
   simp only [gy,iy,toV,ay,HZ]
   cases h':((n:Int) == (p.1:Int)) with
   | true=>exact ⟨i,rfl⟩
   | false =>
     have:(n == p.1)=false:=by rw [beq_eq_false_iff_ne] at h' ⊢; exact fun e=>h' (by rw [e])
     simp only [gy,tF,this,ly] at h
     exact zf n l (i+1) h
theorem xc (l:List Nat):(wo l (bn l.length)).map (·.1)=l:=by rw [List.map_fst_zip (by simp)]
theorem UT {H:AH} {i:Nat} {l:List Nat} {c:Nat} (h:H[i]? =some (.map (kV l) c)) (n:Nat):ig aa 95 (.map i) (I (n:Int)) false H=some (.bool (l.contains n)):=by
 simp only [ig,UB,jq,h,ay,Mj]
 cases hc:l.contains n with
 | true =>
   obtain ⟨j,hj⟩:=zf n _ 0 (by rw [xc]; exact hc)
   unfold kV
   rw [hj]; rfl
 | false =>
   unfold kV
   rw [xK,xc,hc]
   simp only [ay,z4]; rfl
theorem Gu (l:List Nat) (n:Nat):kV l++[(I (n:Int),.bool true,l.length)]=kV (l++[n]):=by
 unfold kV
 rw [ai,List.length_singleton,kh,List.zip_append (by simp),dX]; rfl
theorem X7 {H:AH} {i:Nat} {l:List Nat} (h:H[i]? =some (.map (kV l) l.length)) {n:Nat} (hc:l.contains n=false):ic aa 95 (.map i) (I (n:Int)) (.bool true) H=some (H.set i (.map (kV (l++[n])) (l++[n]).length)):=by
 have hf:iy aa 3 (.int .i64) (.int .i64 n) (kV l) 0=some none:=by
   unfold kV
   rw [xK,xc,hc]; rfl
 simp only [ic,UB,h,ay,Mj,hf]
 rw [Gu,ai]; rfl
theorem M4 {b:Nat} {K:AH} {v:AV} {x:Nat} {l:List Nat} (h:Own b K 1 3 v ((x::l).map fun (n:Nat)=>I (n:Int))) :
   ∃ v',jR aa 30 K v (some (I 1)) none none=some v'/\Own b K 1 3 v' (l.map fun (n:Nat)=>I (n:Int)):=by
 have hlen:=h.length
 rw [au,b6,dS] at hlen
 generalize hxs:(x::l).map (fun (n:Nat)=>I (n:Int))=xs at h
 cases h with
 | nil=>simp at hxs
 | «at» i k len cap ex cs xs hb hi hl hc hrd =>
   rw [cg] at hlen
   have hu:aa.underlying 30=some (.slice 3):=by kernel_rfl
   have hco:aa.cellsOf 3=1:=by kernel_rfl
   have hin:aa.info? 3=some ((aa.info? 3).getD default):=by kernel_rfl
   refine ⟨.slice i (k+1 * 1) 1 (len - 1) (cap - 1) ex,?_,.at i (k+1 * 1) (len - 1) (cap - 1) ex cs _ hb hi (by omega) (by omega) ?_⟩
   · unfold jR
     rw [hu]
     simp only [gX]
     rw [hco,hin]
     show (if 1<=len/\len<=cap/\1=1 then _ else _)=_
     rw [if_pos ⟨by omega,hl,rfl⟩]
     rfl
   · have:=zV hrd 1 (len - 1) (by omega)
     rw [dS,dS,this,<-hxs]
     congr 1
     rw [gy,List.drop_succ_cons,iu,bt (by rw [au]; omega)]
end Go.Dv
