/- Part 22 of the walks (own work). -/
import Derived.Test.YtilpjnckfkjkbaaGreatDoorU21
open Bool renaming and_eq_true→az,eq_iff_iff→gI,false_and→bd,not_eq_false'→iU,not_eq_true'→bl,or_eq_false_iff→rM,true_and→bf
open Int renaming le_refl→WY,natCast_nonneg→vH
open List renaming append_nil→af,getElem?_append_right→al,length_set→aq
open Nat renaming add_sub_cancel_left→aN,le_add_right→dI,le_refl→aw,lt_trans→dZ,reduceLT→aR,zero_le→aV
open Go.Proofs.Tryz renaming prog→aa
set_option maxRecDepth 100000
set_option maxHeartbeats 4000000
set_option linter.unusedSimpArgs false
set_option linter.unusedVariables false
open Go.Proofs.Tryz (f108 f57 f58 f60 f61 f85 f89 f91 func58 func61)
namespace Go.Dv
open Go.Proofs
attribute [local congr] aA bC aT bB bD
def wv (cs:List Cod):Bool:=ck (fun j=>jQ (dj cs j)) cs.length 0
def lO (m:List (List Int)):Bool:=ck (fun j=>!ltB 256 ((bV m j).length:Int)) m.length 0
theorem aew {H:AH} {c:Cod} {vp vs vi:AV} (h:eW H c vp vs vi):Ev aa C0 W0 58 [.agg (bO c vp vs vi)] H=some (.bool (!jQ c),H):=by obtain ⟨tm,ht,g0,g1⟩:=tm1 (.agg (bO c vp vs vi)) 6 (by decide);rw [acY,ht];rw [<-af (ro H)];have h59:=fun L=>aev (h.ro.aZ (an.app (ro H) L));simp only [bO] at h59;simp (maxSteps:=4000000) -implicitDefEqProofs only [c58,f58,aP,g0,g1,r5,↓ba,↓adM,h59,↓aG,aF,eu,sevalprocAttr]
theorem aet {H:AH} {v:AV} {b:List Int} (h:SlS 32 1 H v (b.map dH)):Ev aa C0 W0 61 [v] H=some (.bool (ltB 256 (b.length:Int)),H):=by obtain ⟨tm,ht,g0,g1⟩:=tm1 v 6 (by decide);rw [acV,ht];rw [<-af (ro H)];have hl:=kQ h;simp (maxSteps:=4000000) -implicitDefEqProofs only [c61,f61,aP,g0,g1,r5,↓ba,hl,↓aG,aF,eu,sevalprocAttr]
theorem aca {H:AH} {cs:List Cod} {v:AV} (h:dy H cs v) (hN:cs.length < 2 ^ 60):∀ (d j:Nat) (tm:List AV) (K:AH) (Z:Option (bk × St)),EvC aa C0 W0 plN Sx (tm,K)=Z->cs.length - j=d->j<=cs.length->an H K->tm.length=19->tm.getD 0 uA=v->tm.getD 1 uA=.func (.func 58) [] []->tm.getD 7 uA=I cs.length->tm.getD 8 uA=I ((j:Nat):Int) ->
   ∃ X Y K1 K2,Z=br (ck (fun j=>jQ (dj cs j)) (cs.length) (j)) (some (.exit 0,(X,K1))) (some (.ret,(Y,K2)))/\(X.length=19/\an H K1/\X.getD 0 uA=v/\X.getD 1 uA=.func (.func 58) [] []/\X.getD 7 uA=I cs.length)/\Y.length=19/\∃ r:Int,0<=r/\Y.getD 4 uA=I r:=by
 intro d;induction d with
 | zero =>
   intro j tm K Z hZ hd hj hA hlen h0 h1 h7 h8;subst hZ;have hjl:j=cs.length:=by omega
   subst hjl;have hlt:ltB (((cs.length:Nat)):Int) (cs.length:Nat)=false:=cw (by omega);rw [dk (aw _),M8];simp (maxSteps:=4000000) -implicitDefEqProofs only [Dp,f85,aP,hlen,h0,h1,h7,h8,hlt,↓aG,aF,eu,sevalprocAttr];exact ⟨_,tm.set 4 (I 0),_,K,rfl,⟨by first | exact hlen | simp only [aq,hlen],hA,by first | exact h0 | simp only [hlen,h0,gB,sevalprocAttr],by first | exact h1 | simp only [hlen,h1,gB,sevalprocAttr],by first | exact h7 | simp only [hlen,h7,gB,sevalprocAttr]⟩,by simp only [ls,hlen],⟨0,WY _,by simp only [hlen,dK,aR]⟩⟩
 | succ d ih =>
   intro j tm K Z hZ hd hj hA hlen h0 h1 h7 h8;subst hZ;have hjN:j < cs.length:=by omega
   have hlt:ltB (j:Int) (cs.length:Nat)=true:=cu (by omega);have hw:=b6 (j:=j) (by omega);obtain ⟨i,k,vp,vs,vi,hix,hrd,hc⟩:=h.at hA hjN;have h58:=fun L=>aew ((hc.aZ hA).aZ (an.app K L));simp only [bO] at h58 hrd;rw [cK hjN,M8];rw [<-af K];cases hp:(jQ (dj cs j)) with
   | true =>simp only [bf];simp (maxSteps:=4000000) -implicitDefEqProofs only [Dp,f85,aP,hlen,h0,h1,h7,h8,hlt,hw,hix,hrd,↓aS,func58,show f58.body.isSome=true from rfl,h58,hp,r5,↓ba,↓aG,aF,eu,sevalprocAttr];exact ih (j+1) _ _ _ rfl (by omega) (by omega) (by first | exact hA | exact hA.bX _ | exact (hA.bX _).bX _) (by simp only [ls,hlen]) (by simp only [hlen,h0,gB,sevalprocAttr]) (by simp only [hlen,h1,gB,sevalprocAttr]) (by simp only [hlen,h7,gB,sevalprocAttr]) (by simp only [hlen,h8,gB,sevalprocAttr])
   | false =>simp only [bd];simp (maxSteps:=4000000) -implicitDefEqProofs only [Dp,f85,aP,hlen,h0,h1,h7,h8,hlt,hw,hix,hrd,↓aS,func58,show f58.body.isSome=true from rfl,h58,hp,r5,↓ba,↓aG,aF,eu,sevalprocAttr];exact ⟨tm,_,K,_,rfl,⟨hlen,hA,h0,h1,h7⟩,by simp only [ls,hlen],⟨_,vH j,by simp only [hlen,gB,sevalprocAttr]⟩⟩
theorem aed {H:AH} {cs:List Cod} {v:AV} (h:dy H cs v):∃ r,Ev aa C0 W0 85 [v,.func (.func 58) [] []] H=some (I r,H)/\leB 0 r=!wv cs:=by
 obtain ⟨tm,ht,g0,g1,g2⟩:=tm2 v (.func (.func 58) [] []) 19 (by decide);rw [acB,ht];rw [<-af (ro H)];have hl:=h.ro.len;unfold wv;simp (maxSteps:=4000000) -implicitDefEqProofs only [c85,f85,aP,g0,g1,g2,r5,↓ba,hl,↓aG,aF,eu,sevalprocAttr];generalize hX:EvC aa C0 W0 _ (Code.loop _) _=Z;obtain ⟨X,Y,K1,K2,he,xs,y0,y1⟩:=aca h.ro (dZ h.n (by decide)) _ 0 _ _ _ hX rfl (aV _) (an.app _ _) (by simp only [ls,g0]) (by simp only [g0,g1,gB,sevalprocAttr]; try rfl) (by simp only [g0,g2,gB,sevalprocAttr]; try rfl) (by simp only [g0,gB,sevalprocAttr]; try rfl) (by simp only [g0,gB,sevalprocAttr]; try rfl);subst he;obtain ⟨r,hr0,hr⟩:=y1;cases hf:ck (fun j=>jQ (dj cs j)) cs.length 0 with
 | true =>refine ⟨-1,?_,rfl⟩;simp (maxSteps:=4000000) -implicitDefEqProofs only [xs.1,hf,↓aG,aF,eu,sevalprocAttr]
 | false =>refine ⟨r,?_,by rw [(dC _ _).2 hr0]; rfl⟩;simp (maxSteps:=4000000) -implicitDefEqProofs only [y0,hr,hf,↓aG,aF,eu,sevalprocAttr]
theorem ab9 {H:AH} {m:List (List Int)} {v:AV} (h:eo H m v) (hN:m.length < 2 ^ 60):∀ (d j:Nat) (tm:List AV) (K:AH) (Z:Option (bk × St)),EvC aa C0 W0 plN Su (tm,K)=Z->m.length - j=d->j<=m.length->an H K->tm.length=19->tm.getD 0 uA=v->tm.getD 1 uA=.func (.func 61) [] []->tm.getD 7 uA=I m.length->tm.getD 8 uA=I ((j:Nat):Int) ->
   ∃ X Y K1 K2,Z=br (ck (fun j=>!ltB 256 ((bV m j).length:Int)) (m.length) (j)) (some (.exit 0,(X,K1))) (some (.ret,(Y,K2)))/\(X.length=19/\an H K1/\X.getD 0 uA=v/\X.getD 1 uA=.func (.func 61) [] []/\X.getD 7 uA=I m.length)/\Y.length=19/\∃ r:Int,0<=r/\Y.getD 4 uA=I r:=by
 intro d;induction d with
 | zero =>
   intro j tm K Z hZ hd hj hA hlen h0 h1 h7 h8;subst hZ;have hjl:j=m.length:=by omega
   subst hjl;have hlt:ltB (((m.length:Nat)):Int) (m.length:Nat)=false:=cw (by omega);rw [dk (aw _),M5];simp (maxSteps:=4000000) -implicitDefEqProofs only [Dn,f89,aP,hlen,h0,h1,h7,h8,hlt,↓aG,aF,eu,sevalprocAttr];exact ⟨_,tm.set 4 (I 0),_,K,rfl,⟨by first | exact hlen | simp only [aq,hlen],hA,by first | exact h0 | simp only [hlen,h0,gB,sevalprocAttr],by first | exact h1 | simp only [hlen,h1,gB,sevalprocAttr],by first | exact h7 | simp only [hlen,h7,gB,sevalprocAttr]⟩,by simp only [ls,hlen],⟨0,WY _,by simp only [hlen,dK,aR]⟩⟩
 | succ d ih =>
   intro j tm K Z hZ hd hj hA hlen h0 h1 h7 h8;subst hZ;have hjN:j < m.length:=by omega
   have hlt:ltB (j:Int) (m.length:Nat)=true:=cu (by omega);have hw:=b6 (j:=j) (by omega);obtain ⟨i,k,w,hix,hrd,hw32⟩:=h.at hA hjN;have h58:=fun L=>aet ((hw32.same hA).same (an.app K L));rw [cK hjN,M5];rw [<-af K];cases hp:(!ltB 256 ((bV m j).length:Int)) with
   | true =>simp only [bf];rw [bl] at hp;simp (maxSteps:=4000000) -implicitDefEqProofs only [Dn,f89,aP,hlen,h0,h1,h7,h8,hlt,hw,hix,hrd,↓aS,func61,show f61.body.isSome=true from rfl,h58,hp,r5,↓ba,↓aG,aF,eu,sevalprocAttr];exact ih (j+1) _ _ _ rfl (by omega) (by omega) (by first | exact hA | exact hA.bX _ | exact (hA.bX _).bX _) (by simp only [ls,hlen]) (by simp only [hlen,h0,gB,sevalprocAttr]) (by simp only [hlen,h1,gB,sevalprocAttr]) (by simp only [hlen,h7,gB,sevalprocAttr]) (by simp only [hlen,h8,gB,sevalprocAttr])
   | false =>simp only [bd];rw [iU] at hp;simp (maxSteps:=4000000) -implicitDefEqProofs only [Dn,f89,aP,hlen,h0,h1,h7,h8,hlt,hw,hix,hrd,↓aS,func61,show f61.body.isSome=true from rfl,h58,hp,r5,↓ba,↓aG,aF,eu,sevalprocAttr];exact ⟨tm,_,K,_,rfl,⟨hlen,hA,h0,h1,h7⟩,by simp only [ls,hlen],⟨_,vH j,by simp only [hlen,gB,sevalprocAttr]⟩⟩
theorem aea {H:AH} {m:List (List Int)} {v:AV} (h:eo H m v):∃ r,Ev aa C0 W0 89 [v,.func (.func 61) [] []] H=some (I r,H)/\leB 0 r=!lO m:=by
 obtain ⟨tm,ht,g0,g1,g2⟩:=tm2 v (.func (.func 61) [] []) 19 (by decide);rw [acy,ht];rw [<-af (ro H)];have hl:=h.ro.len;unfold lO;simp (maxSteps:=4000000) -implicitDefEqProofs only [c89,f89,aP,g0,g1,g2,r5,↓ba,hl,↓aG,aF,eu,sevalprocAttr];generalize hX:EvC aa C0 W0 _ (Code.loop _) _=Z;obtain ⟨X,Y,K1,K2,he,xs,y0,y1⟩:=ab9 h.ro (dZ h.n (by decide)) _ 0 _ _ _ hX rfl (aV _) (an.app _ _) (by simp only [ls,g0]) (by simp only [g0,g1,gB,sevalprocAttr]; try rfl) (by simp only [g0,g2,gB,sevalprocAttr]; try rfl) (by simp only [g0,gB,sevalprocAttr]; try rfl) (by simp only [g0,gB,sevalprocAttr]; try rfl);subst he;obtain ⟨r,hr0,hr⟩:=y1;cases hf:ck (fun j=>!ltB 256 ((bV m j).length:Int)) m.length 0 with
 | true =>refine ⟨-1,?_,rfl⟩;simp (maxSteps:=4000000) -implicitDefEqProofs only [xs.1,hf,↓aG,aF,eu,sevalprocAttr]
 | false =>refine ⟨r,?_,by rw [(dC _ _).2 hr0]; rfl⟩;simp (maxSteps:=4000000) -implicitDefEqProofs only [y0,hr,hf,↓aG,aF,eu,sevalprocAttr]
theorem aex {H:AH} {cs:List Cod} {v:AV} (h:dy H cs v):Ev aa C0 W0 57 [v,.func (.func 58) [] []] H=some (.bool (!wv cs),H):=by obtain ⟨tm,ht,g0,g1,g2⟩:=tm2 v (.func (.func 58) [] []) 9 (by decide);rw [acZ,ht];rw [<-af (ro H)];obtain ⟨r,hr,hb⟩:=aed (h.ro.aZ (an.app (ro H) []));simp (maxSteps:=4000000) -implicitDefEqProofs only [c57,f57,aP,g0,g1,g2,r5,↓ba,↓adE,hr,hb,↓aG,aF,eu,sevalprocAttr]
theorem aeu {H:AH} {m:List (List Int)} {v:AV} (h:eo H m v):Ev aa C0 W0 60 [v,.func (.func 61) [] []] H=some (.bool (!lO m),H):=by obtain ⟨tm,ht,g0,g1,g2⟩:=tm2 v (.func (.func 61) [] []) 9 (by decide);rw [acW,ht];rw [<-af (ro H)];obtain ⟨r,hr,hb⟩:=aea (h.ro.aZ (an.app (ro H) []));simp (maxSteps:=4000000) -implicitDefEqProofs only [c60,f60,aP,g0,g1,g2,r5,↓ba,↓adD,hr,hb,↓aG,aF,eu,sevalprocAttr]
def fS (l:List Int) (j:Nat):Int:=l.getD j 0
theorem zd {H K:AH} {v:AV} {l:List Int} (h:SlS 32 1 H v (l.map dH)) (hA:an H K) {j:Nat} (hj:j < l.length):∃ i k,(∀ kk,aC aa 32 v (.int kk (j:Int))=some (.ptr i k))/\(∀ L,ak (K++L) i k 1=some [.int .i32 (fS l j)]):=by obtain ⟨i,k,hi,hr⟩:=h.ix j (dH (fS l j)) (by rw [List.getElem?_map,List.getElem?_eq_getElem hj];unfold fS;rw [d6 hj]; rfl);exact ⟨i,k,hi,fun L=>iH hr hA L⟩
theorem BM {l:List Int} (h:∀ a∈l,fk a) {j:Nat} (hj:j < l.length):fk (fS l j):=by unfold fS;rw [d6 hj]; exact h _ (List.getElem_mem _)
theorem xX {H K:AH} {c:Cod} {vp vs vi:AV} (h:eW H c vp vs vi) (hA:an H K) {j:Nat} (hj:j < c.params.length):∃ i k nm,(∀ kk,aC aa 62 vp (.int kk (j:Int))=some (.ptr i k))/\(∀ L,ak (K++L) i (k+1) 1=some [.bool (iS c (j:Int))])/\(∀ L,ak (K++L) i k 2=some [.str nm,.bool (iS c (j:Int))]):=by obtain ⟨i,k,hi,hr0,hr1,hr2,hb⟩:=xW h hA hj;rw [hb];exact ⟨i,k,_,hi,hr1,hr2⟩
def jK (c:Cod) (l:List Int) (n:Int) (j:Nat):Bool:=!(iS c (j:Int) && (ltB (fS l j) 0 || leB n (fS l j)))
def BX (c:Cod) (l:List Int) (n:Int) (j:Nat):Bool:=!(iS c (j:Int) && leB n (fS l j))
def pN (c:Cod) (nm:ByteArray) (x:Itm):Bool:=sEq nm c.name && !ltB x.grid 1 && !ltB 8 x.grid && !ltB x.block 1 && !ltB 32 x.block && eqB (x.args.length:Int) (c.params.length:Int)
def vW (c:Cod) (nm:ByteArray) (x:Itm):Bool:=pN c nm x && ck (fun j=>jK c x.args 6 j) c.params.length 0
def pq (c:Cod) (nm:ByteArray) (x:Itm) (m:List (List Int)):Bool:=vW c nm x && !ltB 6 (m.length:Int) && lO m && ck (fun j=>BX c x.args (m.length:Int) j) c.params.length 0
def CW (c:Cod) (nm:ByteArray) (x:Itm) (n:Int):Bool:=pN c nm x && ck (fun j=>jK c x.args n j) c.params.length 0
def L9 (c:Cod) (nm:ByteArray) (x:Itm) (m:List (List Int)):Bool:=lO m && leB (m.length:Int) 6 && CW c nm x (m.length:Int)
theorem Rb (c:Cod) (nm:ByteArray) (x:Itm) (m:List (List Int)):pq c nm x m=L9 c nm x m:=by
 unfold pq L9 vW CW;cases pN c nm x with
 | false=>simp
 | true =>
   cases lO m with
   | false=>simp
   | true =>
     have e:leB (m.length:Int) 6=!ltB 6 (m.length:Int):=by rw [gI,bl,dC,fZ]
     rw [e];cases h:ltB 6 (m.length:Int) with
     | true=>simp
     | false =>
       simp only [bf,Bool.not_false,Bool.and_true];rw [fZ] at h;rw [gI,az,gz,gz,gz];have key:∀ j,(jK c x.args 6 j=true/\BX c x.args (m.length:Int) j=true)↔jK c x.args (m.length:Int) j=true:=fun j=>by
         unfold jK BX;cases iS c (j:Int) with
         | false=>simp
         | true =>simp only [bf,bl,rM,fZ,oh];omega
       exact ⟨fun ⟨a,b⟩ j hj=>(key j).1 ⟨a j hj,b j hj⟩,fun a=>⟨fun j hj=>((key j).2 (a j hj)).1,fun j hj=>((key j).2 (a j hj)).2⟩⟩
theorem Y5 {G:AH} {c:Cod} {vp vs vi va:AV} {x:Itm} {nm:ByteArray} {q:Nat} (h:eW G c vp vs vi) (ha:SlS 32 1 G va (x.args.map dH)) (hi32:∀ a∈x.args,fk a) (hnp:x.args.length=c.params.length) (hq:G[q]? =some (.cells (dF nm x va) 126)) (hN:c.params.length < 2 ^ 60):∀ (d j:Nat) (tm:List AV) (K:AH) (Z:Option (bk × St)),EvC aa C0 W0 plN LR (tm,K)=Z->c.params.length - j=d->j<=c.params.length->an G K->tm.length=68->tm.getD 3 uA=.ptr q 0->tm.getD 42 uA=vp->tm.getD 43 uA=I c.params.length->tm.getD 44 uA=I ((j:Nat):Int) ->
   ∃ X Y K1 K2,Z=br (ck (fun j=>jK c x.args (6) j) (c.params.length) (j)) (some (.exit 0,(X,K1))) (some (.ret,(Y,K2)))/\(X.length=68/\an G K1/\X.getD 3 uA=.ptr q 0/\X.getD 42 uA=vp/\X.getD 43 uA=I c.params.length)/\Y.length=68/\Y.getD 4 uA=.bool false:=by
 intro d;induction d with
 | zero =>
   intro j tm K Z hZ hd hj hA hlen h3 h42 h43 h44;subst hZ;have hjl:j=c.params.length:=by omega
   subst hjl;have hlt:ltB (((c.params.length:Nat)):Int) (c.params.length:Nat)=false:=cw (by omega);rw [dk (aw _),Gw];simp (maxSteps:=4000000) -implicitDefEqProofs only [sD,f108,aP,hlen,h3,h42,h43,h44,hlt,↓aG,aF,eu,sevalprocAttr];exact ⟨_,tm.set 4 (.bool false),_,K,rfl,⟨by first | exact hlen | simp only [aq,hlen],hA,by first | exact h3 | simp only [hlen,h3,gB,sevalprocAttr],by first | exact h42 | simp only [hlen,h42,gB,sevalprocAttr],by first | exact h43 | simp only [hlen,h43,gB,sevalprocAttr]⟩,by simp only [ls,hlen],by simp only [hlen,dK,aR]⟩
 | succ d ih =>
   intro j tm K Z hZ hd hj hA hlen h3 h42 h43 h44;subst hZ;have hjN:j < c.params.length:=by omega
   have hlt:ltB (j:Int) (c.params.length:Nat)=true:=cu (by omega);have hw:=b6 (j:=j) (by omega);obtain ⟨i,k,pn,hix,hrd1,hrd2⟩:=xX h hA hjN;obtain ⟨i2,k2,hix2,hra⟩:=zd ha hA (j:=j) (by omega);have hai:=BM hi32 (j:=j) (by omega);have hwa:IntKind.i64.wrap (fS x.args j)=fS x.args j:=by obtain ⟨a0,a1⟩:=hai; exact pw (by omega)
   have hbq:∀ L k n,ak (K++L) q k n=if k+n<=(dF nm x va).length then some (((dF nm x va).drop k).take n) else none:=fun L k n=>eU (hA.get hq) L k n
   rw [cK hjN,Gw];rw [<-af K];cases hp:(jK c x.args (6) j) with
   | true =>
     simp only [bf];unfold jK at hp;cases hb:iS c (j:Int) with
     | false =>simp (maxSteps:=4000000) -implicitDefEqProofs only [sD,f108,aP,hlen,h3,h42,h43,h44,hlt,hw,hix,hrd1,hrd2,hix2,hra,hwa,hbq,z74,wm,eK,eJ,eI,eH,dF,r5,↓ba,hb,↓aG,aF,eu,sevalprocAttr];exact ih (j+1) _ _ _ rfl (by omega) (by omega) (by first | exact hA | exact hA.bX _ | exact (hA.bX _).bX _) (by simp only [ls,hlen]) (by simp only [hlen,h3,gB,sevalprocAttr]) (by simp only [hlen,h42,gB,sevalprocAttr]) (by simp only [hlen,h43,gB,sevalprocAttr]) (by simp only [hlen,h44,gB,sevalprocAttr])
     | true =>rw [hb,bf,bl,rM] at hp;obtain ⟨hp1,hp2⟩:=hp;simp (maxSteps:=4000000) -implicitDefEqProofs only [sD,f108,aP,hlen,h3,h42,h43,h44,hlt,hw,hix,hrd1,hrd2,hix2,hra,hwa,hbq,z74,wm,eK,eJ,eI,eH,dF,r5,↓ba,hb,hp1,hp2,↓aG,aF,eu,sevalprocAttr];exact ih (j+1) _ _ _ rfl (by omega) (by omega) (by first | exact hA | exact hA.bX _ | exact (hA.bX _).bX _) (by simp only [ls,hlen]) (by simp only [hlen,h3,gB,sevalprocAttr]) (by simp only [hlen,h42,gB,sevalprocAttr]) (by simp only [hlen,h43,gB,sevalprocAttr]) (by simp only [hlen,h44,gB,sevalprocAttr])
   | false =>
     simp only [bd];unfold jK at hp;rw [iU,az,Bool.or_eq_true] at hp;obtain ⟨hb,hp⟩:=hp;cases hp1:ltB (fS x.args j) 0 with
     | true =>simp (maxSteps:=4000000) -implicitDefEqProofs only [sD,f108,aP,hlen,h3,h42,h43,h44,hlt,hw,hix,hrd1,hrd2,hix2,hra,hwa,hbq,z74,wm,eK,eJ,eI,eH,dF,r5,↓ba,hb,hp1,↓aG,aF,eu,sevalprocAttr];exact ⟨tm,_,K,_,rfl,⟨hlen,hA,h3,h42,h43⟩,by simp only [ls,hlen],by simp only [hlen,gB,sevalprocAttr]⟩
     | false =>
       rw [hp1] at hp;have hp2:leB (6) (fS x.args j)=true:=by simpa using hp
       simp (maxSteps:=4000000) -implicitDefEqProofs only [sD,f108,aP,hlen,h3,h42,h43,h44,hlt,hw,hix,hrd1,hrd2,hix2,hra,hwa,hbq,z74,wm,eK,eJ,eI,eH,dF,r5,↓ba,hb,hp1,hp2,↓aG,aF,eu,sevalprocAttr];exact ⟨tm,_,K,_,rfl,⟨hlen,hA,h3,h42,h43⟩,by simp only [ls,hlen],by simp only [hlen,gB,sevalprocAttr]⟩
theorem aax {H:AH} {c:Cod} {vp vs vi va:AV} {x:Itm} {nm:ByteArray} (h:eW H c vp vs vi) (ha:SlS 32 1 H va (x.args.map dH)) (hi32:∀ a∈x.args,fk a):Ev aa C0 W0 108 [.agg (bO c vp vs vi),.agg (dF nm x va)] H=some (.bool (vW c nm x),H):=by
 obtain ⟨tm,ht,g0,g1,g2⟩:=tm2 (.agg (bO c vp vs vi)) (.agg (dF nm x va)) 68 (by decide);rw [Zv,ht];rw [<-af (ro H)];unfold vW pN;have hlp:=h.ro.lp;have hla:=kQ ha.ro;cases h0:sEq nm c.name with
 | false=>simp (maxSteps:=4000000) -implicitDefEqProofs only [Da,f108,aP,g0,g1,g2,dF,hlp,hla,jI,eK,eJ,eI,eH,dF,r5,↓ba,h0,↓aG,aF,eu,sevalprocAttr]
 | true =>
   cases h1:ltB x.grid 1 with
   | true=>simp (maxSteps:=4000000) -implicitDefEqProofs only [Da,f108,aP,g0,g1,g2,dF,hlp,hla,jI,eK,eJ,eI,eH,dF,r5,↓ba,h0,h1,↓aG,aF,eu,sevalprocAttr]
   | false =>
     cases h2:ltB 8 x.grid with
     | true=>simp (maxSteps:=4000000) -implicitDefEqProofs only [Da,f108,aP,g0,g1,g2,dF,hlp,hla,jI,eK,eJ,eI,eH,dF,r5,↓ba,h0,h1,h2,↓aG,aF,eu,sevalprocAttr]
     | false =>
       cases h3:ltB x.block 1 with
       | true=>simp (maxSteps:=4000000) -implicitDefEqProofs only [Da,f108,aP,g0,g1,g2,dF,hlp,hla,jI,eK,eJ,eI,eH,dF,r5,↓ba,h0,h1,h2,h3,↓aG,aF,eu,sevalprocAttr]
       | false =>
         cases h4:ltB 32 x.block with
         | true=>simp (maxSteps:=4000000) -implicitDefEqProofs only [Da,f108,aP,g0,g1,g2,dF,hlp,hla,jI,eK,eJ,eI,eH,dF,r5,↓ba,h0,h1,h2,h3,h4,↓aG,aF,eu,sevalprocAttr]
         | false =>
           cases h5:eqB (x.args.length:Int) (c.params.length:Int) with
           | false=>simp (maxSteps:=4000000) -implicitDefEqProofs only [Da,f108,aP,g0,g1,g2,dF,hlp,hla,jI,eK,eJ,eI,eH,dF,r5,↓ba,h0,h1,h2,h3,h4,h5,↓aG,aF,eu,sevalprocAttr]
           | true =>
             have hnp:x.args.length=c.params.length:=by rw [cP] at h5; omega
             have hA0:=an.app (ro H) [bm.cells (bO c vp vs vi) 66,bm.cells (dF nm x va) 126];have hq:(ro H++[bm.cells (bO c vp vs vi) 66,bm.cells (dF nm x va) 126])[(ro H).length+1]? =some (.cells (dF nm x va) 126):=by rw [al (dI _ _),aN]; rfl
             simp (maxSteps:=4000000) -implicitDefEqProofs only [Da,f108,aP,g0,g1,g2,dF,hlp,hla,jI,eK,eJ,eI,eH,dF,r5,↓ba,h0,h1,h2,h3,h4,h5,↓aG,aF,eu,sevalprocAttr];generalize hX:EvC aa C0 W0 _ (Code.loop _) _=Z;obtain ⟨X,Y,K1,K2,he,xs,y0,y1⟩:=Y5 (h.ro.aZ hA0) (ha.ro.same hA0) hi32 hnp hq (dZ h.np (by decide)) _ 0 _ _ _ hX rfl (aV _) (an.refl _) (by simp only [ls,g0]) (by simp only [g0,gB,sevalprocAttr]; try rfl) (by simp only [g0,gB,sevalprocAttr]; try rfl) (by simp only [g0,gB,sevalprocAttr]; try rfl) (by simp only [g0,gB,sevalprocAttr]; try rfl);subst he;cases hf:ck (fun j=>jK c x.args 6 j) c.params.length 0 <;> simp (maxSteps:=4000000) -implicitDefEqProofs only [xs.1,y0,y1,hf,↓aG,aF,eu,sevalprocAttr]
theorem VO {H:AH} {m:List (List Int)} {v:AV} {q1 q2:Nat} (h:eo H m v) (hN:m.length < 2 ^ 60):∀ (d j:Nat) (tm:List AV) (K:AH) (Z:Option (bk × St)),EvC aa C0 W0 plN Ss (tm,K)=Z->m.length - j=d->j<=m.length->an H K->tm.length=52->tm.getD 2 uA=v->tm.getD 3 uA=.ptr q1 0->tm.getD 4 uA=.ptr q2 0->tm.getD 20 uA=v->tm.getD 21 uA=I m.length->tm.getD 22 uA=I ((j:Nat):Int) ->
   ∃ X Y K1 K2,Z=br (ck (fun j=>!ltB 256 ((bV m j).length:Int)) (m.length) (j)) (some (.exit 0,(X,K1))) (some (.ret,(Y,K2)))/\(X.length=52/\an H K1/\X.getD 2 uA=v/\X.getD 3 uA=.ptr q1 0/\X.getD 4 uA=.ptr q2 0/\X.getD 20 uA=v/\X.getD 21 uA=I m.length)/\Y.length=52/\Y.getD 6 uA=.bool false:=by
 intro d;induction d with
 | zero =>
   intro j tm K Z hZ hd hj hA hlen h2 h3 h4 h20 h21 h22;subst hZ;have hjl:j=m.length:=by omega
   subst hjl;have hlt:ltB (((m.length:Nat)):Int) (m.length:Nat)=false:=cw (by omega);have hlm:=h.len;rw [dk (aw _),M4];simp (maxSteps:=4000000) -implicitDefEqProofs only [Dm,f91,aP,hlen,h2,h3,h4,h20,h21,h22,hlt,hlm,r5,↓ba,↓aG,aF,eu,sevalprocAttr];exact ⟨_,tm.set 6 (.bool false),_,K,rfl,⟨by first | exact hlen | simp only [aq,hlen],hA,by first | exact h2 | simp only [hlen,h2,gB,sevalprocAttr],by first | exact h3 | simp only [hlen,h3,gB,sevalprocAttr],by first | exact h4 | simp only [hlen,h4,gB,sevalprocAttr],by first | exact h20 | simp only [hlen,h20,gB,sevalprocAttr],by first | exact h21 | simp only [hlen,h21,gB,sevalprocAttr]⟩,by simp only [ls,hlen],by simp only [hlen,dK,aR]⟩
 | succ d ih =>
   intro j tm K Z hZ hd hj hA hlen h2 h3 h4 h20 h21 h22;subst hZ;have hjN:j < m.length:=by omega
   have hlt:ltB (j:Int) (m.length:Nat)=true:=cu (by omega);have hw:=b6 (j:=j) (by omega);have hlm:=h.len;obtain ⟨i,k,w,hix,hrd,hw32⟩:=h.at hA hjN;have hl32:=kQ hw32;rw [cK hjN,M4];rw [<-af K];cases hp:(!ltB 256 ((bV m j).length:Int)) with
   | true =>simp only [bf];rw [bl] at hp;simp (maxSteps:=4000000) -implicitDefEqProofs only [Dm,f91,aP,hlen,h2,h3,h4,h20,h21,h22,hlt,hw,hix,hrd,hl32,hlm,hp,r5,↓ba,↓aG,aF,eu,sevalprocAttr];exact ih (j+1) _ _ _ rfl (by omega) (by omega) (by first | exact hA | exact hA.bX _ | exact (hA.bX _).bX _) (by simp only [ls,hlen]) (by simp only [hlen,h2,gB,sevalprocAttr]) (by simp only [hlen,h3,gB,sevalprocAttr]) (by simp only [hlen,h4,gB,sevalprocAttr]) (by simp only [hlen,h20,gB,sevalprocAttr]) (by simp only [hlen,h21,gB,sevalprocAttr]) (by simp only [hlen,h22,gB,sevalprocAttr])
   | false =>simp only [bd];rw [iU] at hp;simp (maxSteps:=4000000) -implicitDefEqProofs only [Dm,f91,aP,hlen,h2,h3,h4,h20,h21,h22,hlt,hw,hix,hrd,hl32,hlm,hp,r5,↓ba,↓aG,aF,eu,sevalprocAttr];exact ⟨tm,_,K,_,rfl,⟨hlen,hA,h2,h3,h4,h20,h21⟩,by simp only [ls,hlen],by simp only [hlen,gB,sevalprocAttr]⟩
theorem VN {G:AH} {c:Cod} {vp vs vi va:AV} {x:Itm} {nm:ByteArray} {q:Nat} {m:List (List Int)} {vm:AV} (h:eW G c vp vs vi) (ha:SlS 32 1 G va (x.args.map dH)) (hi32:∀ a∈x.args,fk a) (hnp:x.args.length=c.params.length) (hq:G[q]? =some (.cells (dF nm x va) 126)) (hm:eo G m vm) (hN:c.params.length < 2 ^ 60):∀ (d j:Nat) (tm:List AV) (K:AH) (Z:Option (bk × St)),EvC aa C0 W0 plN Sr (tm,K)=Z->c.params.length - j=d->j<=c.params.length->an G K->tm.length=52->tm.getD 2 uA=vm->tm.getD 4 uA=.ptr q 0->tm.getD 31 uA=vp->tm.getD 32 uA=I c.params.length->tm.getD 33 uA=I ((j:Nat):Int) ->
   ∃ X Y K1 K2,Z=br (ck (fun j=>BX c x.args (m.length:Int) j) (c.params.length) (j)) (some (.exit 2,(X,K1))) (some (.ret,(Y,K2)))/\(X.length=52/\an G K1/\X.getD 2 uA=vm/\X.getD 4 uA=.ptr q 0/\X.getD 31 uA=vp/\X.getD 32 uA=I c.params.length)/\Y.length=52/\Y.getD 6 uA=.bool false:=by
 intro d;induction d with
 | zero =>
   intro j tm K Z hZ hd hj hA hlen h2 h4 h31 h32 h33;subst hZ;have hjl:j=c.params.length:=by omega
   subst hjl;have hlt:ltB (((c.params.length:Nat)):Int) (c.params.length:Nat)=false:=cw (by omega);rw [dk (aw _),M3];simp (maxSteps:=4000000) -implicitDefEqProofs only [Av,f91,aP,hlen,h2,h4,h31,h32,h33,hlt,↓aG,aF,eu,sevalprocAttr];exact ⟨_,tm.set 6 (.bool false),_,K,rfl,⟨by first | exact hlen | simp only [aq,hlen],hA,by first | exact h2 | simp only [hlen,h2,gB,sevalprocAttr],by first | exact h4 | simp only [hlen,h4,gB,sevalprocAttr],by first | exact h31 | simp only [hlen,h31,gB,sevalprocAttr],by first | exact h32 | simp only [hlen,h32,gB,sevalprocAttr]⟩,by simp only [ls,hlen],by simp only [hlen,dK,aR]⟩
 | succ d ih =>
   intro j tm K Z hZ hd hj hA hlen h2 h4 h31 h32 h33;subst hZ;have hjN:j < c.params.length:=by omega
   have hlt:ltB (j:Int) (c.params.length:Nat)=true:=cu (by omega);have hw:=b6 (j:=j) (by omega);obtain ⟨i,k,pn,hix,hrd1,hrd2⟩:=xX h hA hjN;obtain ⟨i2,k2,hix2,hra⟩:=zd ha hA (j:=j) (by omega);have hai:=BM hi32 (j:=j) (by omega);have hwa:IntKind.i64.wrap (fS x.args j)=fS x.args j:=by obtain ⟨a0,a1⟩:=hai; exact pw (by omega)
   have hbq:∀ L k n,ak (K++L) q k n=if k+n<=(dF nm x va).length then some (((dF nm x va).drop k).take n) else none:=fun L k n=>eU (hA.get hq) L k n
   have hlm:=hm.len;rw [cK hjN,M3];rw [<-af K];cases hp:(BX c x.args (m.length:Int) j) with
   | true =>
     simp only [bf];unfold BX at hp;cases hb:iS c (j:Int) with
     | false =>simp (maxSteps:=4000000) -implicitDefEqProofs only [Av,f91,aP,hlen,h2,h4,h31,h32,h33,hlt,hw,hix,hrd1,hrd2,hix2,hra,hwa,hbq,hlm,z74,wm,eK,eJ,eI,eH,dF,r5,↓ba,hb,↓aG,aF,eu,sevalprocAttr];exact ih (j+1) _ _ _ rfl (by omega) (by omega) (by first | exact hA | exact hA.bX _ | exact (hA.bX _).bX _) (by simp only [ls,hlen]) (by simp only [hlen,h2,gB,sevalprocAttr]) (by simp only [hlen,h4,gB,sevalprocAttr]) (by simp only [hlen,h31,gB,sevalprocAttr]) (by simp only [hlen,h32,gB,sevalprocAttr]) (by simp only [hlen,h33,gB,sevalprocAttr])
     | true =>rw [hb,bf,bl] at hp;simp (maxSteps:=4000000) -implicitDefEqProofs only [Av,f91,aP,hlen,h2,h4,h31,h32,h33,hlt,hw,hix,hrd1,hrd2,hix2,hra,hwa,hbq,hlm,z74,wm,eK,eJ,eI,eH,dF,r5,↓ba,hb,hp,↓aG,aF,eu,sevalprocAttr];exact ih (j+1) _ _ _ rfl (by omega) (by omega) (by first | exact hA | exact hA.bX _ | exact (hA.bX _).bX _) (by simp only [ls,hlen]) (by simp only [hlen,h2,gB,sevalprocAttr]) (by simp only [hlen,h4,gB,sevalprocAttr]) (by simp only [hlen,h31,gB,sevalprocAttr]) (by simp only [hlen,h32,gB,sevalprocAttr]) (by simp only [hlen,h33,gB,sevalprocAttr])
   | false =>simp only [bd];unfold BX at hp;rw [iU,az] at hp;obtain ⟨hb,hp2⟩:=hp;simp (maxSteps:=4000000) -implicitDefEqProofs only [Av,f91,aP,hlen,h2,h4,h31,h32,h33,hlt,hw,hix,hrd1,hrd2,hix2,hra,hwa,hbq,hlm,z74,wm,eK,eJ,eI,eH,dF,r5,↓ba,hb,hp2,↓aG,aF,eu,sevalprocAttr];exact ⟨tm,_,K,_,rfl,⟨hlen,hA,h2,h4,h31,h32⟩,by simp only [ls,hlen],by simp only [hlen,gB,sevalprocAttr]⟩
theorem ad9 {H:AH} {c:Cod} {vp vs vi va:AV} {x:Itm} {nm:ByteArray} (h:eW H c vp vs vi) (ha:SlS 32 1 H va (x.args.map dH)) (hi32:∀ a∈x.args,fk a) {m:List (List Int)} {vm:AV} (hm:eo H m vm):Ev aa C0 W0 91 [.agg (bO c vp vs vi),.agg (dF nm x va),vm] H=some (.bool (pq c nm x m),H):=by
 obtain ⟨tm,ht,g0,g1,g2,g3⟩:=tm3 (.agg (bO c vp vs vi)) (.agg (dF nm x va)) vm 52 (by decide);rw [acw,ht];rw [<-af (ro H)];unfold pq;have hlp:=h.ro.lp;have hlm:=hm.ro.len;have h108:=fun L=>aax (nm:=nm) (h.ro.aZ (an.app (ro H) L)) (ha.ro.same (an.app (ro H) L)) hi32;simp only [bO,dF] at h108;cases h0:vW c nm x with
 | false=>simp (maxSteps:=4000000) -implicitDefEqProofs only [c91,f91,aP,g0,g1,g2,g3,hlp,hlm,↓Md,h108,jI,dF,r5,↓ba,h0,↓aG,aF,eu,sevalprocAttr]
 | true =>
   cases h1:ltB 6 (m.length:Int) with
   | true=>simp (maxSteps:=4000000) -implicitDefEqProofs only [c91,f91,aP,g0,g1,g2,g3,hlp,hlm,↓Md,h108,jI,dF,r5,↓ba,h0,h1,↓aG,aF,eu,sevalprocAttr]
   | false =>
     have hnp:x.args.length=c.params.length:=by unfold vW pN at h0;rw [az,az] at h0;have:=h0.1.2;rw [cP] at this; omega
     have hA0:=an.app (ro H) [bm.cells (bO c vp vs vi) 66,bm.cells (dF nm x va) 126];have hq:(ro H++[bm.cells (bO c vp vs vi) 66,bm.cells (dF nm x va) 126])[(ro H).length+1]? =some (.cells (dF nm x va) 126):=by rw [al (dI _ _),aN]; rfl
     have hq1:(ro H++[bm.cells (bO c vp vs vi) 66,bm.cells (dF nm x va) 126])[(ro H).length]? =some (.cells (bO c vp vs vi) 66):=by rw [al (aw _),Nat.sub_self]; rfl
     simp (maxSteps:=4000000) -implicitDefEqProofs only [c91,f91,aP,g0,g1,g2,g3,hlp,hlm,↓Md,h108,jI,dF,r5,↓ba,h0,h1,↓aG,aF,eu,sevalprocAttr];generalize hX:EvC aa C0 W0 _ (Code.loop _) _=Z;obtain ⟨X,Y,K1,K2,he,xs,y0,y1⟩:=VO (hm.ro.aZ hA0) (dZ hm.n (by decide)) _ 0 _ _ _ hX rfl (aV _) (an.refl _) (by simp only [ls,g0,g3]) (by simp only [g0,g3,g3,gB,sevalprocAttr]; try rfl) (by simp only [g0,g3,gB,sevalprocAttr]; try rfl) (by simp only [g0,g3,gB,sevalprocAttr]; try rfl) (by simp only [g0,g3,g3,gB,sevalprocAttr]; try rfl) (by simp only [g0,g3,gB,sevalprocAttr]; try rfl) (by simp only [g0,g3,gB,sevalprocAttr]; try rfl);subst he;unfold lO;cases hf:ck (fun j=>!ltB 256 ((bV m j).length:Int)) m.length 0 with
     | false=>simp (maxSteps:=4000000) -implicitDefEqProofs only [y0,y1,hf,↓aG,aF,eu,sevalprocAttr]
     | true =>
       obtain ⟨x0,xA,x2,x3,x4,x5⟩:=xs;have hbq1:∀ k n,ak K1 (ro H).length k n=if k+n<=(bO c vp vs vi).length then some (((bO c vp vs vi).drop k).take n) else none:=fun k n=>by have:=eU (xA.get hq1) [] k n; rwa [af] at this
       simp (maxSteps:=4000000) -implicitDefEqProofs only [aP,hf,x0,x2,x3,x4,hbq1,hlp,r5,↓ba,↓aG,aF,eu,sevalprocAttr];generalize hX:EvC aa C0 W0 _ (Code.loop _) _=Z;obtain ⟨X2,Y2,K3,K4,he,xs,z0,z1⟩:=VN (h.ro.aZ hA0) (ha.ro.same hA0) hi32 hnp hq (hm.ro.aZ hA0) (dZ h.np (by decide)) _ 0 _ _ _ hX rfl (aV _) (xA) (by simp only [ls,x0]) (by simp only [x0,x2,gB,sevalprocAttr]; try rfl) (by simp only [x0,x4,gB,sevalprocAttr]; try rfl) (by simp only [x0,gB,sevalprocAttr]; try rfl) (by simp only [x0,gB,sevalprocAttr]; try rfl) (by simp only [x0,gB,sevalprocAttr]; try rfl);subst he;cases hf2:ck (fun j=>BX c x.args (m.length:Int) j) c.params.length 0 <;> simp (maxSteps:=4000000) -implicitDefEqProofs only [xs.1,z0,z1,hf2,↓aG,aF,eu,sevalprocAttr]
end Go.Dv
