/- Part 22 of the walks (own work). -/
import Derived.Test.YtilpjnckfkjkbaaGreatDoorT21
open Bool renaming and_eq_true→aC,eq_iff_iff→fM,false_and→bc,not_eq_false'→iN,not_eq_true'→bj,or_eq_false_iff→rC,true_and→bd
open Int renaming le_refl→VD,natCast_nonneg→vh
open List renaming append_nil→af,getElem?_append_right→al,length_set→aq
open Nat renaming add_sub_cancel_left→aS,le_add_right→du,le_refl→ax,lt_trans→dI,reduceLT→aQ
open Go.Proofs.Tryz renaming prog→aa
set_option maxRecDepth 100000
set_option maxHeartbeats 4000000
set_option linter.unusedSimpArgs false
set_option linter.unusedVariables false
namespace Go.Dv
open Go.Proofs
attribute [local congr] aF bC aY bB bD
def vT (cs:List Cod):Bool:=cd (fun j=>jL (cT cs j)) cs.length 0
def lE (m:List (List Int)):Bool:=cd (fun j=>!ltB 256 ((bN m j).length:Int)) m.length 0
theorem acP {H:AH} {c:Cod} {vp vs vi:AV} (h:eO H c vp vs vi):Ev aa C0 W0 58 [.agg (bI c vp vs vi)] H=some (.bool (!jL c),H):=by
 obtain ⟨tm,ht,g0,g1⟩:=tm1 (.agg (bI c vp vs vi)) 6 (by decide)
 rw [abw,ht]
 rw [<-af (ro H)]
 have h59:=fun L=>acO (h.ro.bg (au.app (ro H) L))
 simp only [bI] at h59
 simp (maxSteps:=4000000) -implicitDefEqProofs only [c58,Tryz.f58,aP,g0,g1,r5,↓az,↓ab8,h59,↓ao,an,eu,sevalprocAttr]
theorem acM {H:AH} {v:AV} {b:List Int} (h:SlS 32 1 H v (b.map dw)):Ev aa C0 W0 61 [v] H=some (.bool (ltB 256 (b.length:Int)),H):=by
 obtain ⟨tm,ht,g0,g1⟩:=tm1 v 6 (by decide)
 rw [abt,ht]
 rw [<-af (ro H)]
 have hl:=kI h
 simp (maxSteps:=4000000) -implicitDefEqProofs only [c61,Tryz.f61,aP,g0,g1,r5,↓az,hl,↓ao,an,eu,sevalprocAttr]
theorem aaP {H:AH} {cs:List Cod} {v:AV} (h:dk H cs v) (hN:cs.length < 2 ^ 60):∀ (d j:Nat) (tm:List AV) (K:AH) (Z:Option (bs × St)),EvC aa C0 W0 plN Rn (tm,K)=Z->cs.length - j=d->j<=cs.length->au H K->tm.length=19->tm.getD 0 uA=v->tm.getD 1 uA=.func (.func 58) [] []->tm.getD 7 uA=I cs.length->tm.getD 8 uA=I ((j:Nat):Int) ->
   ∃ X Y K1 K2,Z=br (cd (fun j=>jL (cT cs j)) (cs.length) (j)) (some (.exit 0,(X,K1))) (some (.ret,(Y,K2)))/\(X.length=19/\au H K1/\X.getD 0 uA=v/\X.getD 1 uA=.func (.func 58) [] []/\X.getD 7 uA=I cs.length)/\Y.length=19/\∃ r:Int,0<=r/\Y.getD 4 uA=I r:=by
 intro d
 induction d with
 | zero =>
   intro j tm K Z hZ hd hj hA hlen h0 h1 h7 h8
   subst hZ
   have hjl:j=cs.length:=by omega
   subst hjl
   have hlt:ltB (((cs.length:Nat)):Int) (cs.length:Nat)=false:=cH (by omega)
   rw [di (ax _),L0]
   simp (maxSteps:=4000000) -implicitDefEqProofs only [C1,Tryz.f85,aP,hlen,h0,h1,h7,h8,hlt,↓ao,an,eu,sevalprocAttr]
   exact ⟨_,tm.set 4 (I 0),_,K,rfl,⟨by first | exact hlen | simp only [aq,hlen],hA,by first | exact h0 | simp only [hlen,h0,gB,sevalprocAttr],by first | exact h1 | simp only [hlen,h1,gB,sevalprocAttr],by first | exact h7 | simp only [hlen,h7,gB,sevalprocAttr]⟩,by simp only [ls,hlen],⟨0,VD _,by simp only [hlen,dv,aQ]⟩⟩
 | succ d ih =>
   intro j tm K Z hZ hd hj hA hlen h0 h1 h7 h8
   subst hZ
   have hjN:j < cs.length:=by omega
   have hlt:ltB (j:Int) (cs.length:Nat)=true:=cD (by omega)
   have hw:=cp (j:=j) (by omega)
   obtain ⟨i,k,vp,vs,vi,hix,hrd,hc⟩:=h.at hA hjN
   have h58:=fun L=>acP ((hc.bg hA).bg (au.app K L))
   simp only [bI] at h58 hrd
   rw [cI hjN,L0]
   rw [<-af K]
   cases hp:(jL (cT cs j)) with
   | true =>
     simp only [bd]
     simp (maxSteps:=4000000) -implicitDefEqProofs only [C1,Tryz.f85,aP,hlen,h0,h1,h7,h8,hlt,hw,hix,hrd,↓aR,Tryz.func58,show Tryz.f58.body.isSome=true from rfl,h58,hp,r5,↓az,↓ao,an,eu,sevalprocAttr]
     exact ih (j+1) _ _ _ rfl (by omega) (by omega) (by first | exact hA | exact hA.bS _ | exact (hA.bS _).bS _) (by simp only [ls,hlen]) (by simp only [hlen,h0,gB,sevalprocAttr]) (by simp only [hlen,h1,gB,sevalprocAttr]) (by simp only [hlen,h7,gB,sevalprocAttr]) (by simp only [hlen,h8,gB,sevalprocAttr])
   | false =>
     simp only [bc]
     simp (maxSteps:=4000000) -implicitDefEqProofs only [C1,Tryz.f85,aP,hlen,h0,h1,h7,h8,hlt,hw,hix,hrd,↓aR,Tryz.func58,show Tryz.f58.body.isSome=true from rfl,h58,hp,r5,↓az,↓ao,an,eu,sevalprocAttr]
     exact ⟨tm,_,K,_,rfl,⟨hlen,hA,h0,h1,h7⟩,by simp only [ls,hlen],⟨_,vh j,by simp only [hlen,gB,sevalprocAttr]⟩⟩
theorem acz {H:AH} {cs:List Cod} {v:AV} (h:dk H cs v):∃ r,Ev aa C0 W0 85 [v,.func (.func 58) [] []] H=some (I r,H)/\leB 0 r=!vT cs:=by
 obtain ⟨tm,ht,g0,g1,g2⟩:=tm2 v (.func (.func 58) [] []) 19 (by decide)
 rw [abc,ht]
 rw [<-af (ro H)]
 have hl:=h.ro.len
 unfold vT
 simp (maxSteps:=4000000) -implicitDefEqProofs only [c85,Tryz.f85,aP,g0,g1,g2,r5,↓az,hl,↓ao,an,eu,sevalprocAttr]
 generalize hX:EvC aa C0 W0 _ (Code.loop _) _=Z
 obtain ⟨X,Y,K1,K2,he,xs,y0,y1⟩:=aaP h.ro (dI h.n (by decide)) _ 0 _ _ _ hX rfl (Nat.zero_le _) (au.app _ _) (by simp only [ls,g0]) (by simp only [g0,g1,gB,sevalprocAttr]; try rfl) (by simp only [g0,g2,gB,sevalprocAttr]; try rfl) (by simp only [g0,gB,sevalprocAttr]; try rfl) (by simp only [g0,gB,sevalprocAttr]; try rfl)
 subst he
 obtain ⟨r,hr0,hr⟩:=y1
 cases hf:cd (fun j=>jL (cT cs j)) cs.length 0 with
 | true =>
   refine ⟨-1,?_,rfl⟩
   simp (maxSteps:=4000000) -implicitDefEqProofs only [xs.1,hf,↓ao,an,eu,sevalprocAttr]
 | false =>
   refine ⟨r,?_,by rw [(dn _ _).2 hr0]; rfl⟩
   simp (maxSteps:=4000000) -implicitDefEqProofs only [y0,hr,hf,↓ao,an,eu,sevalprocAttr]
theorem aaO {H:AH} {m:List (List Int)} {v:AV} (h:dZ H m v) (hN:m.length < 2 ^ 60):∀ (d j:Nat) (tm:List AV) (K:AH) (Z:Option (bs × St)),EvC aa C0 W0 plN Rk (tm,K)=Z->m.length - j=d->j<=m.length->au H K->tm.length=19->tm.getD 0 uA=v->tm.getD 1 uA=.func (.func 61) [] []->tm.getD 7 uA=I m.length->tm.getD 8 uA=I ((j:Nat):Int) ->
   ∃ X Y K1 K2,Z=br (cd (fun j=>!ltB 256 ((bN m j).length:Int)) (m.length) (j)) (some (.exit 0,(X,K1))) (some (.ret,(Y,K2)))/\(X.length=19/\au H K1/\X.getD 0 uA=v/\X.getD 1 uA=.func (.func 61) [] []/\X.getD 7 uA=I m.length)/\Y.length=19/\∃ r:Int,0<=r/\Y.getD 4 uA=I r:=by
 intro d
 induction d with
 | zero =>
   intro j tm K Z hZ hd hj hA hlen h0 h1 h7 h8
   subst hZ
   have hjl:j=m.length:=by omega
   subst hjl
   have hlt:ltB (((m.length:Nat)):Int) (m.length:Nat)=false:=cH (by omega)
   rw [di (ax _),LX]
   simp (maxSteps:=4000000) -implicitDefEqProofs only [CZ,Tryz.f89,aP,hlen,h0,h1,h7,h8,hlt,↓ao,an,eu,sevalprocAttr]
   exact ⟨_,tm.set 4 (I 0),_,K,rfl,⟨by first | exact hlen | simp only [aq,hlen],hA,by first | exact h0 | simp only [hlen,h0,gB,sevalprocAttr],by first | exact h1 | simp only [hlen,h1,gB,sevalprocAttr],by first | exact h7 | simp only [hlen,h7,gB,sevalprocAttr]⟩,by simp only [ls,hlen],⟨0,VD _,by simp only [hlen,dv,aQ]⟩⟩
 | succ d ih =>
   intro j tm K Z hZ hd hj hA hlen h0 h1 h7 h8
   subst hZ
   have hjN:j < m.length:=by omega
   have hlt:ltB (j:Int) (m.length:Nat)=true:=cD (by omega)
   have hw:=cp (j:=j) (by omega)
   obtain ⟨i,k,w,hix,hrd,hw32⟩:=h.at hA hjN
   have h58:=fun L=>acM ((hw32.same hA).same (au.app K L))
   rw [cI hjN,LX]
   rw [<-af K]
   cases hp:(!ltB 256 ((bN m j).length:Int)) with
   | true =>
     simp only [bd]
     rw [bj] at hp
     simp (maxSteps:=4000000) -implicitDefEqProofs only [CZ,Tryz.f89,aP,hlen,h0,h1,h7,h8,hlt,hw,hix,hrd,↓aR,Tryz.func61,show Tryz.f61.body.isSome=true from rfl,h58,hp,r5,↓az,↓ao,an,eu,sevalprocAttr]
     exact ih (j+1) _ _ _ rfl (by omega) (by omega) (by first | exact hA | exact hA.bS _ | exact (hA.bS _).bS _) (by simp only [ls,hlen]) (by simp only [hlen,h0,gB,sevalprocAttr]) (by simp only [hlen,h1,gB,sevalprocAttr]) (by simp only [hlen,h7,gB,sevalprocAttr]) (by simp only [hlen,h8,gB,sevalprocAttr])
   | false =>
     simp only [bc]
     rw [iN] at hp
     simp (maxSteps:=4000000) -implicitDefEqProofs only [CZ,Tryz.f89,aP,hlen,h0,h1,h7,h8,hlt,hw,hix,hrd,↓aR,Tryz.func61,show Tryz.f61.body.isSome=true from rfl,h58,hp,r5,↓az,↓ao,an,eu,sevalprocAttr]
     exact ⟨tm,_,K,_,rfl,⟨hlen,hA,h0,h1,h7⟩,by simp only [ls,hlen],⟨_,vh j,by simp only [hlen,gB,sevalprocAttr]⟩⟩
theorem acw {H:AH} {m:List (List Int)} {v:AV} (h:dZ H m v):∃ r,Ev aa C0 W0 89 [v,.func (.func 61) [] []] H=some (I r,H)/\leB 0 r=!lE m:=by
 obtain ⟨tm,ht,g0,g1,g2⟩:=tm2 v (.func (.func 61) [] []) 19 (by decide)
 rw [aa9,ht]
 rw [<-af (ro H)]
 have hl:=h.ro.len
 unfold lE
 simp (maxSteps:=4000000) -implicitDefEqProofs only [c89,Tryz.f89,aP,g0,g1,g2,r5,↓az,hl,↓ao,an,eu,sevalprocAttr]
 generalize hX:EvC aa C0 W0 _ (Code.loop _) _=Z
 obtain ⟨X,Y,K1,K2,he,xs,y0,y1⟩:=aaO h.ro (dI h.n (by decide)) _ 0 _ _ _ hX rfl (Nat.zero_le _) (au.app _ _) (by simp only [ls,g0]) (by simp only [g0,g1,gB,sevalprocAttr]; try rfl) (by simp only [g0,g2,gB,sevalprocAttr]; try rfl) (by simp only [g0,gB,sevalprocAttr]; try rfl) (by simp only [g0,gB,sevalprocAttr]; try rfl)
 subst he
 obtain ⟨r,hr0,hr⟩:=y1
 cases hf:cd (fun j=>!ltB 256 ((bN m j).length:Int)) m.length 0 with
 | true =>
   refine ⟨-1,?_,rfl⟩
   simp (maxSteps:=4000000) -implicitDefEqProofs only [xs.1,hf,↓ao,an,eu,sevalprocAttr]
 | false =>
   refine ⟨r,?_,by rw [(dn _ _).2 hr0]; rfl⟩
   simp (maxSteps:=4000000) -implicitDefEqProofs only [y0,hr,hf,↓ao,an,eu,sevalprocAttr]
theorem acQ {H:AH} {cs:List Cod} {v:AV} (h:dk H cs v):Ev aa C0 W0 57 [v,.func (.func 58) [] []] H=some (.bool (!vT cs),H):=by
 obtain ⟨tm,ht,g0,g1,g2⟩:=tm2 v (.func (.func 58) [] []) 9 (by decide)
 rw [abx,ht]
 rw [<-af (ro H)]
 obtain ⟨r,hr,hb⟩:=acz (h.ro.bg (au.app (ro H) []))
 simp (maxSteps:=4000000) -implicitDefEqProofs only [c57,Tryz.f57,aP,g0,g1,g2,r5,↓az,↓ab3,hr,hb,↓ao,an,eu,sevalprocAttr]
theorem acN {H:AH} {m:List (List Int)} {v:AV} (h:dZ H m v):Ev aa C0 W0 60 [v,.func (.func 61) [] []] H=some (.bool (!lE m),H):=by
 obtain ⟨tm,ht,g0,g1,g2⟩:=tm2 v (.func (.func 61) [] []) 9 (by decide)
 rw [abu,ht]
 rw [<-af (ro H)]
 obtain ⟨r,hr,hb⟩:=acw (h.ro.bg (au.app (ro H) []))
 simp (maxSteps:=4000000) -implicitDefEqProofs only [c60,Tryz.f60,aP,g0,g1,g2,r5,↓az,↓ab2,hr,hb,↓ao,an,eu,sevalprocAttr]
def fI (l:List Int) (j:Nat):Int:=l.getD j 0
theorem yR {H K:AH} {v:AV} {l:List Int} (h:SlS 32 1 H v (l.map dw)) (hA:au H K) {j:Nat} (hj:j < l.length):∃ i k,(∀ kk,aD aa 32 v (.int kk (j:Int))=some (.ptr i k))/\(∀ L,ak (K++L) i k 1=some [.int .i32 (fI l j)]):=by
 obtain ⟨i,k,hi,hr⟩:=h.ix j (dw (fI l j)) (by
   rw [List.getElem?_map,List.getElem?_eq_getElem hj]
   unfold fI
   rw [dU hj]; rfl)
 exact ⟨i,k,hi,fun L=>iZ hr hA L⟩
theorem Bt {l:List Int} (h:∀ a∈l,e9 a) {j:Nat} (hj:j < l.length):e9 (fI l j):=by
 unfold fI
 rw [dU hj]; exact h _ (List.getElem_mem _)
theorem xG {H K:AH} {c:Cod} {vp vs vi:AV} (h:eO H c vp vs vi) (hA:au H K) {j:Nat} (hj:j < c.params.length):∃ i k nm,(∀ kk,aD aa 62 vp (.int kk (j:Int))=some (.ptr i k))/\(∀ L,ak (K++L) i (k+1) 1=some [.bool (iK c (j:Int))])/\(∀ L,ak (K++L) i k 2=some [.str nm,.bool (iK c (j:Int))]):=by
 obtain ⟨i,k,hi,hr0,hr1,hr2,hb⟩:=xF h hA hj
 rw [hb]
 exact ⟨i,k,_,hi,hr1,hr2⟩
def jz (c:Cod) (l:List Int) (n:Int) (j:Nat):Bool:=!(iK c (j:Int) && (ltB (fI l j) 0 || leB n (fI l j)))
def BD (c:Cod) (l:List Int) (n:Int) (j:Nat):Bool:=!(iK c (j:Int) && leB n (fI l j))
def pB (c:Cod) (nm:ByteArray) (x:Itm):Bool:=sEq nm c.name && !ltB x.grid 1 && !ltB 8 x.grid && !ltB x.block 1 && !ltB 32 x.block && eqB (x.args.length:Int) (c.params.length:Int)
def vE (c:Cod) (nm:ByteArray) (x:Itm):Bool:=pB c nm x && cd (fun j=>jz c x.args 6 j) c.params.length 0
def o8 (c:Cod) (nm:ByteArray) (x:Itm) (m:List (List Int)):Bool:=vE c nm x && !ltB 6 (m.length:Int) && lE m && cd (fun j=>BD c x.args (m.length:Int) j) c.params.length 0
def Cx (c:Cod) (nm:ByteArray) (x:Itm) (n:Int):Bool:=pB c nm x && cd (fun j=>jz c x.args n j) c.params.length 0
def KU (c:Cod) (nm:ByteArray) (x:Itm) (m:List (List Int)):Bool:=lE m && leB (m.length:Int) 6 && Cx c nm x (m.length:Int)
theorem PZ (c:Cod) (nm:ByteArray) (x:Itm) (m:List (List Int)):o8 c nm x m=KU c nm x m:=by
 unfold o8 KU vE Cx
 cases pB c nm x with
 | false=>simp
 | true =>
   cases lE m with
   | false=>simp
   | true =>
     have e:leB (m.length:Int) 6=!ltB 6 (m.length:Int):=by rw [fM,bj,dn,fS]
     rw [e]
     cases h:ltB 6 (m.length:Int) with
     | true=>simp
     | false =>
       simp only [bd,Bool.not_false,Bool.and_true]
       rw [fS] at h
       rw [fM,aC,fC,fC,fC]
       have key:∀ j,(jz c x.args 6 j=true/\BD c x.args (m.length:Int) j=true)↔jz c x.args (m.length:Int) j=true:=fun j=>by
         unfold jz BD
         cases iK c (j:Int) with
         | false=>simp
         | true =>
           simp only [bd,bj,rC,fS,mG]
           omega
       exact ⟨fun ⟨a,b⟩ j hj=>(key j).1 ⟨a j hj,b j hj⟩,fun a=>⟨fun j hj=>((key j).2 (a j hj)).1,fun j hj=>((key j).2 (a j hj)).2⟩⟩
theorem XK {G:AH} {c:Cod} {vp vs vi va:AV} {x:Itm} {nm:ByteArray} {q:Nat} (h:eO G c vp vs vi) (ha:SlS 32 1 G va (x.args.map dw)) (hi32:∀ a∈x.args,e9 a) (hnp:x.args.length=c.params.length) (hq:G[q]? =some (.cells (dq nm x va) 126)) (hN:c.params.length < 2 ^ 60):∀ (d j:Nat) (tm:List AV) (K:AH) (Z:Option (bs × St)),EvC aa C0 W0 plN KF (tm,K)=Z->c.params.length - j=d->j<=c.params.length->au G K->tm.length=68->tm.getD 3 uA=.ptr q 0->tm.getD 42 uA=vp->tm.getD 43 uA=I c.params.length->tm.getD 44 uA=I ((j:Nat):Int) ->
   ∃ X Y K1 K2,Z=br (cd (fun j=>jz c x.args (6) j) (c.params.length) (j)) (some (.exit 0,(X,K1))) (some (.ret,(Y,K2)))/\(X.length=68/\au G K1/\X.getD 3 uA=.ptr q 0/\X.getD 42 uA=vp/\X.getD 43 uA=I c.params.length)/\Y.length=68/\Y.getD 4 uA=.bool false:=by
 intro d
 induction d with
 | zero =>
   intro j tm K Z hZ hd hj hA hlen h3 h42 h43 h44
   subst hZ
   have hjl:j=c.params.length:=by omega
   subst hjl
   have hlt:ltB (((c.params.length:Nat)):Int) (c.params.length:Nat)=false:=cH (by omega)
   rw [di (ax _),F0]
   simp (maxSteps:=4000000) -implicitDefEqProofs only [sr,Tryz.f108,aP,hlen,h3,h42,h43,h44,hlt,↓ao,an,eu,sevalprocAttr]
   exact ⟨_,tm.set 4 (.bool false),_,K,rfl,⟨by first | exact hlen | simp only [aq,hlen],hA,by first | exact h3 | simp only [hlen,h3,gB,sevalprocAttr],by first | exact h42 | simp only [hlen,h42,gB,sevalprocAttr],by first | exact h43 | simp only [hlen,h43,gB,sevalprocAttr]⟩,by simp only [ls,hlen],by simp only [hlen,dv,aQ]⟩
 | succ d ih =>
   intro j tm K Z hZ hd hj hA hlen h3 h42 h43 h44
   subst hZ
   have hjN:j < c.params.length:=by omega
   have hlt:ltB (j:Int) (c.params.length:Nat)=true:=cD (by omega)
   have hw:=cp (j:=j) (by omega)
   obtain ⟨i,k,pn,hix,hrd1,hrd2⟩:=xG h hA hjN
   obtain ⟨i2,k2,hix2,hra⟩:=yR ha hA (j:=j) (by omega)
   have hai:=Bt hi32 (j:=j) (by omega)
   have hwa:IntKind.i64.wrap (fI x.args j)=fI x.args j:=by obtain ⟨a0,a1⟩:=hai; exact qZ (by omega)
   have hbq:∀ L k n,ak (K++L) q k n=if k+n<=(dq nm x va).length then some (((dq nm x va).drop k).take n) else none:=fun L k n=>eL (hA.get hq) L k n
   rw [cI hjN,F0]
   rw [<-af K]
   cases hp:(jz c x.args (6) j) with
   | true =>
     simp only [bd]
     unfold jz at hp
     cases hb:iK c (j:Int) with
     | false =>
       simp (maxSteps:=4000000) -implicitDefEqProofs only [sr,Tryz.f108,aP,hlen,h3,h42,h43,h44,hlt,hw,hix,hrd1,hrd2,hix2,hra,hwa,hbq,z74,vQ,eF,eE,eD,eC,dq,r5,↓az,hb,↓ao,an,eu,sevalprocAttr]
       exact ih (j+1) _ _ _ rfl (by omega) (by omega) (by first | exact hA | exact hA.bS _ | exact (hA.bS _).bS _) (by simp only [ls,hlen]) (by simp only [hlen,h3,gB,sevalprocAttr]) (by simp only [hlen,h42,gB,sevalprocAttr]) (by simp only [hlen,h43,gB,sevalprocAttr]) (by simp only [hlen,h44,gB,sevalprocAttr])
     | true =>
       rw [hb,bd,bj,rC] at hp
       obtain ⟨hp1,hp2⟩:=hp
       simp (maxSteps:=4000000) -implicitDefEqProofs only [sr,Tryz.f108,aP,hlen,h3,h42,h43,h44,hlt,hw,hix,hrd1,hrd2,hix2,hra,hwa,hbq,z74,vQ,eF,eE,eD,eC,dq,r5,↓az,hb,hp1,hp2,↓ao,an,eu,sevalprocAttr]
       exact ih (j+1) _ _ _ rfl (by omega) (by omega) (by first | exact hA | exact hA.bS _ | exact (hA.bS _).bS _) (by simp only [ls,hlen]) (by simp only [hlen,h3,gB,sevalprocAttr]) (by simp only [hlen,h42,gB,sevalprocAttr]) (by simp only [hlen,h43,gB,sevalprocAttr]) (by simp only [hlen,h44,gB,sevalprocAttr])
   | false =>
     simp only [bc]
     unfold jz at hp
     rw [iN,aC,Bool.or_eq_true] at hp
     obtain ⟨hb,hp⟩:=hp
     cases hp1:ltB (fI x.args j) 0 with
     | true =>
       simp (maxSteps:=4000000) -implicitDefEqProofs only [sr,Tryz.f108,aP,hlen,h3,h42,h43,h44,hlt,hw,hix,hrd1,hrd2,hix2,hra,hwa,hbq,z74,vQ,eF,eE,eD,eC,dq,r5,↓az,hb,hp1,↓ao,an,eu,sevalprocAttr]
       exact ⟨tm,_,K,_,rfl,⟨hlen,hA,h3,h42,h43⟩,by simp only [ls,hlen],by simp only [hlen,gB,sevalprocAttr]⟩
     | false =>
       rw [hp1] at hp
       have hp2:leB (6) (fI x.args j)=true:=by simpa using hp
       simp (maxSteps:=4000000) -implicitDefEqProofs only [sr,Tryz.f108,aP,hlen,h3,h42,h43,h44,hlt,hw,hix,hrd1,hrd2,hix2,hra,hwa,hbq,z74,vQ,eF,eE,eD,eC,dq,r5,↓az,hb,hp1,hp2,↓ao,an,eu,sevalprocAttr]
       exact ⟨tm,_,K,_,rfl,⟨hlen,hA,h3,h42,h43⟩,by simp only [ls,hlen],by simp only [hlen,gB,sevalprocAttr]⟩
theorem Zd {H:AH} {c:Cod} {vp vs vi va:AV} {x:Itm} {nm:ByteArray} (h:eO H c vp vs vi) (ha:SlS 32 1 H va (x.args.map dw)) (hi32:∀ a∈x.args,e9 a):Ev aa C0 W0 108 [.agg (bI c vp vs vi),.agg (dq nm x va)] H=some (.bool (vE c nm x),H):=by
 obtain ⟨tm,ht,g0,g1,g2⟩:=tm2 (.agg (bI c vp vs vi)) (.agg (dq nm x va)) 68 (by decide)
 rw [Yf,ht]
 rw [<-af (ro H)]
 unfold vE pB
 have hlp:=h.ro.lp
 have hla:=kI ha.ro
 cases h0:sEq nm c.name with
 | false=>simp (maxSteps:=4000000) -implicitDefEqProofs only [CM,Tryz.f108,aP,g0,g1,g2,dq,hlp,hla,jw,eF,eE,eD,eC,dq,r5,↓az,h0,↓ao,an,eu,sevalprocAttr]
 | true =>
   cases h1:ltB x.grid 1 with
   | true=>simp (maxSteps:=4000000) -implicitDefEqProofs only [CM,Tryz.f108,aP,g0,g1,g2,dq,hlp,hla,jw,eF,eE,eD,eC,dq,r5,↓az,h0,h1,↓ao,an,eu,sevalprocAttr]
   | false =>
     cases h2:ltB 8 x.grid with
     | true=>simp (maxSteps:=4000000) -implicitDefEqProofs only [CM,Tryz.f108,aP,g0,g1,g2,dq,hlp,hla,jw,eF,eE,eD,eC,dq,r5,↓az,h0,h1,h2,↓ao,an,eu,sevalprocAttr]
     | false =>
       cases h3:ltB x.block 1 with
       | true=>simp (maxSteps:=4000000) -implicitDefEqProofs only [CM,Tryz.f108,aP,g0,g1,g2,dq,hlp,hla,jw,eF,eE,eD,eC,dq,r5,↓az,h0,h1,h2,h3,↓ao,an,eu,sevalprocAttr]
       | false =>
         cases h4:ltB 32 x.block with
         | true=>simp (maxSteps:=4000000) -implicitDefEqProofs only [CM,Tryz.f108,aP,g0,g1,g2,dq,hlp,hla,jw,eF,eE,eD,eC,dq,r5,↓az,h0,h1,h2,h3,h4,↓ao,an,eu,sevalprocAttr]
         | false =>
           cases h5:eqB (x.args.length:Int) (c.params.length:Int) with
           | false=>simp (maxSteps:=4000000) -implicitDefEqProofs only [CM,Tryz.f108,aP,g0,g1,g2,dq,hlp,hla,jw,eF,eE,eD,eC,dq,r5,↓az,h0,h1,h2,h3,h4,h5,↓ao,an,eu,sevalprocAttr]
           | true =>
             have hnp:x.args.length=c.params.length:=by rw [cU] at h5; omega
             have hA0:=au.app (ro H) [bl.cells (bI c vp vs vi) 66,bl.cells (dq nm x va) 126]
             have hq:(ro H++[bl.cells (bI c vp vs vi) 66,bl.cells (dq nm x va) 126])[(ro H).length+1]? =some (.cells (dq nm x va) 126):=by rw [al (du _ _),aS]; rfl
             simp (maxSteps:=4000000) -implicitDefEqProofs only [CM,Tryz.f108,aP,g0,g1,g2,dq,hlp,hla,jw,eF,eE,eD,eC,dq,r5,↓az,h0,h1,h2,h3,h4,h5,↓ao,an,eu,sevalprocAttr]
             generalize hX:EvC aa C0 W0 _ (Code.loop _) _=Z
             obtain ⟨X,Y,K1,K2,he,xs,y0,y1⟩:=XK (h.ro.bg hA0) (ha.ro.same hA0) hi32 hnp hq (dI h.np (by decide)) _ 0 _ _ _ hX rfl (Nat.zero_le _) (au.refl _) (by simp only [ls,g0]) (by simp only [g0,gB,sevalprocAttr]; try rfl) (by simp only [g0,gB,sevalprocAttr]; try rfl) (by simp only [g0,gB,sevalprocAttr]; try rfl) (by simp only [g0,gB,sevalprocAttr]; try rfl)
             subst he
             cases hf:cd (fun j=>jz c x.args 6 j) c.params.length 0 <;> simp (maxSteps:=4000000) -implicitDefEqProofs only [xs.1,y0,y1,hf,↓ao,an,eu,sevalprocAttr]
theorem UE {H:AH} {m:List (List Int)} {v:AV} {q1 q2:Nat} (h:dZ H m v) (hN:m.length < 2 ^ 60):∀ (d j:Nat) (tm:List AV) (K:AH) (Z:Option (bs × St)),EvC aa C0 W0 plN Rj (tm,K)=Z->m.length - j=d->j<=m.length->au H K->tm.length=52->tm.getD 2 uA=v->tm.getD 3 uA=.ptr q1 0->tm.getD 4 uA=.ptr q2 0->tm.getD 20 uA=v->tm.getD 21 uA=I m.length->tm.getD 22 uA=I ((j:Nat):Int) ->
   ∃ X Y K1 K2,Z=br (cd (fun j=>!ltB 256 ((bN m j).length:Int)) (m.length) (j)) (some (.exit 0,(X,K1))) (some (.ret,(Y,K2)))/\(X.length=52/\au H K1/\X.getD 2 uA=v/\X.getD 3 uA=.ptr q1 0/\X.getD 4 uA=.ptr q2 0/\X.getD 20 uA=v/\X.getD 21 uA=I m.length)/\Y.length=52/\Y.getD 6 uA=.bool false:=by
 intro d
 induction d with
 | zero =>
   intro j tm K Z hZ hd hj hA hlen h2 h3 h4 h20 h21 h22
   subst hZ
   have hjl:j=m.length:=by omega
   subst hjl
   have hlt:ltB (((m.length:Nat)):Int) (m.length:Nat)=false:=cH (by omega)
   have hlm:=h.len
   rw [di (ax _),LW]
   simp (maxSteps:=4000000) -implicitDefEqProofs only [CY,Tryz.f91,aP,hlen,h2,h3,h4,h20,h21,h22,hlt,hlm,r5,↓az,↓ao,an,eu,sevalprocAttr]
   exact ⟨_,tm.set 6 (.bool false),_,K,rfl,⟨by first | exact hlen | simp only [aq,hlen],hA,by first | exact h2 | simp only [hlen,h2,gB,sevalprocAttr],by first | exact h3 | simp only [hlen,h3,gB,sevalprocAttr],by first | exact h4 | simp only [hlen,h4,gB,sevalprocAttr],by first | exact h20 | simp only [hlen,h20,gB,sevalprocAttr],by first | exact h21 | simp only [hlen,h21,gB,sevalprocAttr]⟩,by simp only [ls,hlen],by simp only [hlen,dv,aQ]⟩
 | succ d ih =>
   intro j tm K Z hZ hd hj hA hlen h2 h3 h4 h20 h21 h22
   subst hZ
   have hjN:j < m.length:=by omega
   have hlt:ltB (j:Int) (m.length:Nat)=true:=cD (by omega)
   have hw:=cp (j:=j) (by omega)
   have hlm:=h.len
   obtain ⟨i,k,w,hix,hrd,hw32⟩:=h.at hA hjN
   have hl32:=kI hw32
   rw [cI hjN,LW]
   rw [<-af K]
   cases hp:(!ltB 256 ((bN m j).length:Int)) with
   | true =>
     simp only [bd]
     rw [bj] at hp
     simp (maxSteps:=4000000) -implicitDefEqProofs only [CY,Tryz.f91,aP,hlen,h2,h3,h4,h20,h21,h22,hlt,hw,hix,hrd,hl32,hlm,hp,r5,↓az,↓ao,an,eu,sevalprocAttr]
     exact ih (j+1) _ _ _ rfl (by omega) (by omega) (by first | exact hA | exact hA.bS _ | exact (hA.bS _).bS _) (by simp only [ls,hlen]) (by simp only [hlen,h2,gB,sevalprocAttr]) (by simp only [hlen,h3,gB,sevalprocAttr]) (by simp only [hlen,h4,gB,sevalprocAttr]) (by simp only [hlen,h20,gB,sevalprocAttr]) (by simp only [hlen,h21,gB,sevalprocAttr]) (by simp only [hlen,h22,gB,sevalprocAttr])
   | false =>
     simp only [bc]
     rw [iN] at hp
     simp (maxSteps:=4000000) -implicitDefEqProofs only [CY,Tryz.f91,aP,hlen,h2,h3,h4,h20,h21,h22,hlt,hw,hix,hrd,hl32,hlm,hp,r5,↓az,↓ao,an,eu,sevalprocAttr]
     exact ⟨tm,_,K,_,rfl,⟨hlen,hA,h2,h3,h4,h20,h21⟩,by simp only [ls,hlen],by simp only [hlen,gB,sevalprocAttr]⟩
theorem UD {G:AH} {c:Cod} {vp vs vi va:AV} {x:Itm} {nm:ByteArray} {q:Nat} {m:List (List Int)} {vm:AV} (h:eO G c vp vs vi) (ha:SlS 32 1 G va (x.args.map dw)) (hi32:∀ a∈x.args,e9 a) (hnp:x.args.length=c.params.length) (hq:G[q]? =some (.cells (dq nm x va) 126)) (hm:dZ G m vm) (hN:c.params.length < 2 ^ 60):∀ (d j:Nat) (tm:List AV) (K:AH) (Z:Option (bs × St)),EvC aa C0 W0 plN Ri (tm,K)=Z->c.params.length - j=d->j<=c.params.length->au G K->tm.length=52->tm.getD 2 uA=vm->tm.getD 4 uA=.ptr q 0->tm.getD 31 uA=vp->tm.getD 32 uA=I c.params.length->tm.getD 33 uA=I ((j:Nat):Int) ->
   ∃ X Y K1 K2,Z=br (cd (fun j=>BD c x.args (m.length:Int) j) (c.params.length) (j)) (some (.exit 2,(X,K1))) (some (.ret,(Y,K2)))/\(X.length=52/\au G K1/\X.getD 2 uA=vm/\X.getD 4 uA=.ptr q 0/\X.getD 31 uA=vp/\X.getD 32 uA=I c.params.length)/\Y.length=52/\Y.getD 6 uA=.bool false:=by
 intro d
 induction d with
 | zero =>
   intro j tm K Z hZ hd hj hA hlen h2 h4 h31 h32 h33
   subst hZ
   have hjl:j=c.params.length:=by omega
   subst hjl
   have hlt:ltB (((c.params.length:Nat)):Int) (c.params.length:Nat)=false:=cH (by omega)
   rw [di (ax _),LV]
   simp (maxSteps:=4000000) -implicitDefEqProofs only [Al,Tryz.f91,aP,hlen,h2,h4,h31,h32,h33,hlt,↓ao,an,eu,sevalprocAttr]
   exact ⟨_,tm.set 6 (.bool false),_,K,rfl,⟨by first | exact hlen | simp only [aq,hlen],hA,by first | exact h2 | simp only [hlen,h2,gB,sevalprocAttr],by first | exact h4 | simp only [hlen,h4,gB,sevalprocAttr],by first | exact h31 | simp only [hlen,h31,gB,sevalprocAttr],by first | exact h32 | simp only [hlen,h32,gB,sevalprocAttr]⟩,by simp only [ls,hlen],by simp only [hlen,dv,aQ]⟩
 | succ d ih =>
   intro j tm K Z hZ hd hj hA hlen h2 h4 h31 h32 h33
   subst hZ
   have hjN:j < c.params.length:=by omega
   have hlt:ltB (j:Int) (c.params.length:Nat)=true:=cD (by omega)
   have hw:=cp (j:=j) (by omega)
   obtain ⟨i,k,pn,hix,hrd1,hrd2⟩:=xG h hA hjN
   obtain ⟨i2,k2,hix2,hra⟩:=yR ha hA (j:=j) (by omega)
   have hai:=Bt hi32 (j:=j) (by omega)
   have hwa:IntKind.i64.wrap (fI x.args j)=fI x.args j:=by obtain ⟨a0,a1⟩:=hai; exact qZ (by omega)
   have hbq:∀ L k n,ak (K++L) q k n=if k+n<=(dq nm x va).length then some (((dq nm x va).drop k).take n) else none:=fun L k n=>eL (hA.get hq) L k n
   have hlm:=hm.len
   rw [cI hjN,LV]
   rw [<-af K]
   cases hp:(BD c x.args (m.length:Int) j) with
   | true =>
     simp only [bd]
     unfold BD at hp
     cases hb:iK c (j:Int) with
     | false =>
       simp (maxSteps:=4000000) -implicitDefEqProofs only [Al,Tryz.f91,aP,hlen,h2,h4,h31,h32,h33,hlt,hw,hix,hrd1,hrd2,hix2,hra,hwa,hbq,hlm,z74,vQ,eF,eE,eD,eC,dq,r5,↓az,hb,↓ao,an,eu,sevalprocAttr]
       exact ih (j+1) _ _ _ rfl (by omega) (by omega) (by first | exact hA | exact hA.bS _ | exact (hA.bS _).bS _) (by simp only [ls,hlen]) (by simp only [hlen,h2,gB,sevalprocAttr]) (by simp only [hlen,h4,gB,sevalprocAttr]) (by simp only [hlen,h31,gB,sevalprocAttr]) (by simp only [hlen,h32,gB,sevalprocAttr]) (by simp only [hlen,h33,gB,sevalprocAttr])
     | true =>
       rw [hb,bd,bj] at hp
       simp (maxSteps:=4000000) -implicitDefEqProofs only [Al,Tryz.f91,aP,hlen,h2,h4,h31,h32,h33,hlt,hw,hix,hrd1,hrd2,hix2,hra,hwa,hbq,hlm,z74,vQ,eF,eE,eD,eC,dq,r5,↓az,hb,hp,↓ao,an,eu,sevalprocAttr]
       exact ih (j+1) _ _ _ rfl (by omega) (by omega) (by first | exact hA | exact hA.bS _ | exact (hA.bS _).bS _) (by simp only [ls,hlen]) (by simp only [hlen,h2,gB,sevalprocAttr]) (by simp only [hlen,h4,gB,sevalprocAttr]) (by simp only [hlen,h31,gB,sevalprocAttr]) (by simp only [hlen,h32,gB,sevalprocAttr]) (by simp only [hlen,h33,gB,sevalprocAttr])
   | false =>
     simp only [bc]
     unfold BD at hp
     rw [iN,aC] at hp
     obtain ⟨hb,hp2⟩:=hp
     simp (maxSteps:=4000000) -implicitDefEqProofs only [Al,Tryz.f91,aP,hlen,h2,h4,h31,h32,h33,hlt,hw,hix,hrd1,hrd2,hix2,hra,hwa,hbq,hlm,z74,vQ,eF,eE,eD,eC,dq,r5,↓az,hb,hp2,↓ao,an,eu,sevalprocAttr]
     exact ⟨tm,_,K,_,rfl,⟨hlen,hA,h2,h4,h31,h32⟩,by simp only [ls,hlen],by simp only [hlen,gB,sevalprocAttr]⟩
theorem acv {H:AH} {c:Cod} {vp vs vi va:AV} {x:Itm} {nm:ByteArray} (h:eO H c vp vs vi) (ha:SlS 32 1 H va (x.args.map dw)) (hi32:∀ a∈x.args,e9 a) {m:List (List Int)} {vm:AV} (hm:dZ H m vm):Ev aa C0 W0 91 [.agg (bI c vp vs vi),.agg (dq nm x va),vm] H=some (.bool (o8 c nm x m),H):=by
 obtain ⟨tm,ht,g0,g1,g2,g3⟩:=tm3 (.agg (bI c vp vs vi)) (.agg (dq nm x va)) vm 52 (by decide)
 rw [aa7,ht]
 rw [<-af (ro H)]
 unfold o8
 have hlp:=h.ro.lp
 have hlm:=hm.ro.len
 have h108:=fun L=>Zd (nm:=nm) (h.ro.bg (au.app (ro H) L)) (ha.ro.same (au.app (ro H) L)) hi32
 simp only [bI,dq] at h108
 cases h0:vE c nm x with
 | false=>simp (maxSteps:=4000000) -implicitDefEqProofs only [c91,Tryz.f91,aP,g0,g1,g2,g3,hlp,hlm,↓KX,h108,jw,dq,r5,↓az,h0,↓ao,an,eu,sevalprocAttr]
 | true =>
   cases h1:ltB 6 (m.length:Int) with
   | true=>simp (maxSteps:=4000000) -implicitDefEqProofs only [c91,Tryz.f91,aP,g0,g1,g2,g3,hlp,hlm,↓KX,h108,jw,dq,r5,↓az,h0,h1,↓ao,an,eu,sevalprocAttr]
   | false =>
     have hnp:x.args.length=c.params.length:=by
       unfold vE pB at h0
       rw [aC,aC] at h0
       have:=h0.1.2
       rw [cU] at this; omega
     have hA0:=au.app (ro H) [bl.cells (bI c vp vs vi) 66,bl.cells (dq nm x va) 126]
     have hq:(ro H++[bl.cells (bI c vp vs vi) 66,bl.cells (dq nm x va) 126])[(ro H).length+1]? =some (.cells (dq nm x va) 126):=by rw [al (du _ _),aS]; rfl
     have hq1:(ro H++[bl.cells (bI c vp vs vi) 66,bl.cells (dq nm x va) 126])[(ro H).length]? =some (.cells (bI c vp vs vi) 66):=by rw [al (ax _),Nat.sub_self]; rfl
     simp (maxSteps:=4000000) -implicitDefEqProofs only [c91,Tryz.f91,aP,g0,g1,g2,g3,hlp,hlm,↓KX,h108,jw,dq,r5,↓az,h0,h1,↓ao,an,eu,sevalprocAttr]
     generalize hX:EvC aa C0 W0 _ (Code.loop _) _=Z
     obtain ⟨X,Y,K1,K2,he,xs,y0,y1⟩:=UE (hm.ro.bg hA0) (dI hm.n (by decide)) _ 0 _ _ _ hX rfl (Nat.zero_le _) (au.refl _) (by simp only [ls,g0,g3]) (by simp only [g0,g3,g3,gB,sevalprocAttr]; try rfl) (by simp only [g0,g3,gB,sevalprocAttr]; try rfl) (by simp only [g0,g3,gB,sevalprocAttr]; try rfl) (by simp only [g0,g3,g3,gB,sevalprocAttr]; try rfl) (by simp only [g0,g3,gB,sevalprocAttr]; try rfl) (by simp only [g0,g3,gB,sevalprocAttr]; try rfl)
     subst he
     unfold lE
     cases hf:cd (fun j=>!ltB 256 ((bN m j).length:Int)) m.length 0 with
     | false=>simp (maxSteps:=4000000) -implicitDefEqProofs only [y0,y1,hf,↓ao,an,eu,sevalprocAttr]
     | true =>
       obtain ⟨x0,xA,x2,x3,x4,x5⟩:=xs
       have hbq1:∀ k n,ak K1 (ro H).length k n=if k+n<=(bI c vp vs vi).length then some (((bI c vp vs vi).drop k).take n) else none:=fun k n=>by have:=eL (xA.get hq1) [] k n; rwa [af] at this
       simp (maxSteps:=4000000) -implicitDefEqProofs only [aP,hf,x0,x2,x3,x4,hbq1,hlp,r5,↓az,↓ao,an,eu,sevalprocAttr]
       generalize hX:EvC aa C0 W0 _ (Code.loop _) _=Z
       obtain ⟨X2,Y2,K3,K4,he,xs,z0,z1⟩:=UD (h.ro.bg hA0) (ha.ro.same hA0) hi32 hnp hq (hm.ro.bg hA0) (dI h.np (by decide)) _ 0 _ _ _ hX rfl (Nat.zero_le _) (xA) (by simp only [ls,x0]) (by simp only [x0,x2,gB,sevalprocAttr]; try rfl) (by simp only [x0,x4,gB,sevalprocAttr]; try rfl) (by simp only [x0,gB,sevalprocAttr]; try rfl) (by simp only [x0,gB,sevalprocAttr]; try rfl) (by simp only [x0,gB,sevalprocAttr]; try rfl)
       subst he
       cases hf2:cd (fun j=>BD c x.args (m.length:Int) j) c.params.length 0 <;> simp (maxSteps:=4000000) -implicitDefEqProofs only [xs.1,z0,z1,hf2,↓ao,an,eu,sevalprocAttr]
end Go.Dv
