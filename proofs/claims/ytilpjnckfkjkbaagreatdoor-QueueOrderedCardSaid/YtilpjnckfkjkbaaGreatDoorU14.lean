/- Part 14 of the walks (own work). -/
import Derived.Test.YtilpjnckfkjkbaaGreatDoorU13
open List renaming append_nil→af,flatten_cons→fF,getElem?_append_left→ar,getElem?_append_right→al,getElem?_eq_getElem→aj,getElem?_eq_none→aE,getElem?_map→aO,getElem?_set_ne→ay,getElem_map→lq,getElem_mem→gQ,length→ew,length_append→ai,length_cons→cR,length_map→ao,length_nil→gH,map_append→dE,range→bp,range_succ→jf
open Nat renaming add_mul→eE,le_refl→aw,le_trans→bh,one_mul→jG
open Option.some renaming injEq→aU
open Go.Proofs.Tryz renaming prog→aa
set_option maxRecDepth 100000
set_option maxHeartbeats 4000000
set_option linter.unusedSimpArgs false
set_option linter.unusedVariables false
open Go.Proofs.Tryz (f38 f56 f65 f68 f70 f71 f84 func84)
namespace Go.Dv
open Go.Proofs
attribute [local congr] aA bC aT bB bD
structure Con where
 w:Int
 free:Bool
 cores:Int
 slots:Int
 room:Int
 pol:Int
 lat:Int
structure Itm where
 kind:Int
 code:Int
 grid:Int
 block:Int
 src:Int
 dst:Int
 ev:Int
 args:List Int
 word:Int
def fx (c:Con):List AV:=[I c.w,.bool c.free,I c.cores,I c.slots,I c.room,I c.pol,I c.lat]
def aJ (x:Itm) (va:AV):List AV:=[I x.kind,I x.code,I x.grid,I x.block,I x.src,I x.dst,I x.ev,va,.int .i32 x.word]
def rng (n a b:Int):Bool:=leB a n && leB n b
def vt (c:Con):Bool:=rng c.w 1 32 && rng c.cores 1 4 && rng c.slots 1 4 && rng c.room 0 4 && rng c.pol 0 2 && rng c.lat 0 20
def UZ (a b:Int):Bool:=rng a 0 2 && rng b 0 20
theorem Bf (n l:Int):ltB n (l+1)=leB n l:=by rw [Bool.eq_iff_iff,dB,dC]; omega
def dH (n:Int):List AV:=[.int .i32 n]
theorem IN (n a b:Int) (H:AH):Ev aa C0 W0 84 [I n,I a,I b] H=some (.bool (rng n a b),H):=by
 obtain ⟨tm,ht,g0,g1,g2,g3⟩:=tm3 (I n) (I a) (I b) 15 (by decide);rw [acC,ht];rw [<-af (ro H)];simp (maxSteps:=4000000) +contextual -implicitDefEqProofs only [c84,f84,aP,g0,g1,g2,g3,↓aG,aF,eu,sevalprocAttr];unfold rng;refine congrArg (fun b=>some (AV.bool b,H)) ?_;cases leB a n <;>
 cases leB n b <;>
 rfl
theorem aeo (a b:Int) (H:AH):Ev aa C0 W0 68 [I a,I b] H=some (.bool (UZ a b),H):=by obtain ⟨tm,ht,g0,g1,g2⟩:=tm2 (I a) (I b) 19 (by decide);rw [acQ,ht];rw [<-af (ro H)];unfold UZ rng;rw [show leB a 2=ltB a 3 from (Bf a 2).symm];cases h0:leB 0 a <;> cases h1:ltB a 3 <;> cases h2:leB 0 b <;> simp (maxSteps:=4000000) -implicitDefEqProofs only [c68,f68,aP,g0,g1,g2,h0,h1,h2,↓aG,aF,eu,sevalprocAttr]
theorem aeI (c:Con) (H:AH):Ev aa C0 W0 38 [.agg (fx c)] H=some (.bool (vt c),H):=by
 obtain ⟨tm,ht,g0,g1⟩:=tm1 (.agg (fx c)) 48 (by decide);rw [adh,ht];rw [<-af (ro H)];unfold vt rng;cases h0:leB 1 c.w
 · simp (maxSteps:=4000000) -implicitDefEqProofs only [c38,f38,aP,g0,g1,fx,r5,↓ba,h0,↓aG,aF,eu,sevalprocAttr]
 cases h1:leB c.w 32
 · simp (maxSteps:=4000000) -implicitDefEqProofs only [c38,f38,aP,g0,g1,fx,r5,↓ba,h0,h1,↓aG,aF,eu,sevalprocAttr]
 cases h2:leB 1 c.cores
 · simp (maxSteps:=4000000) -implicitDefEqProofs only [c38,f38,aP,g0,g1,fx,r5,↓ba,h0,h1,h2,↓aG,aF,eu,sevalprocAttr]
 cases h3:leB c.cores 4
 · simp (maxSteps:=4000000) -implicitDefEqProofs only [c38,f38,aP,g0,g1,fx,r5,↓ba,h0,h1,h2,h3,↓aG,aF,eu,sevalprocAttr]
 cases h4:leB 1 c.slots
 · simp (maxSteps:=4000000) -implicitDefEqProofs only [c38,f38,aP,g0,g1,fx,r5,↓ba,h0,h1,h2,h3,h4,↓aG,aF,eu,sevalprocAttr]
 cases h5:leB c.slots 4
 · simp (maxSteps:=4000000) -implicitDefEqProofs only [c38,f38,aP,g0,g1,fx,r5,↓ba,h0,h1,h2,h3,h4,h5,↓aG,aF,eu,sevalprocAttr]
 cases h6:leB 0 c.room
 · simp (maxSteps:=4000000) -implicitDefEqProofs only [c38,f38,aP,g0,g1,fx,r5,↓ba,h0,h1,h2,h3,h4,h5,h6,↓aG,aF,eu,sevalprocAttr]
 cases h7:leB c.room 4
 · simp (maxSteps:=4000000) -implicitDefEqProofs only [c38,f38,aP,g0,g1,fx,r5,↓ba,h0,h1,h2,h3,h4,h5,h6,h7,↓aG,aF,eu,sevalprocAttr]
 simp (maxSteps:=4000000) -implicitDefEqProofs only [c38,f38,aP,g0,g1,fx,r5,↓ba,h0,h1,h2,h3,h4,h5,h6,h7,↓adL,aeo,UZ,rng,↓aG,aF,eu,sevalprocAttr]
theorem aey (c:Con) (H:AH):Ev aa C0 W0 56 [.agg (fx c)] H=some (.bool (vt c),H):=by
 obtain ⟨tm,ht,g0,g1⟩:=tm1 (.agg (fx c)) 38 (by decide);rw [ac0,ht];rw [<-af (ro H)];unfold vt;cases h0:rng c.w 1 32
 · simp (maxSteps:=4000000) -implicitDefEqProofs only [c56,f56,aP,g0,g1,fx,r5,↓ba,↓aS,func84,show f84.body.isSome=true from rfl,show ∀ gl tm,cY gl tm (.func 84)=some (.func (.func 84) [] []) from fun _ _=>rfl,IN,h0,↓aG,aF,eu,sevalprocAttr]
 cases h1:rng c.cores 1 4
 · simp (maxSteps:=4000000) -implicitDefEqProofs only [c56,f56,aP,g0,g1,fx,r5,↓ba,↓aS,func84,show f84.body.isSome=true from rfl,show ∀ gl tm,cY gl tm (.func 84)=some (.func (.func 84) [] []) from fun _ _=>rfl,IN,h0,h1,↓aG,aF,eu,sevalprocAttr]
 cases h2:rng c.slots 1 4
 · simp (maxSteps:=4000000) -implicitDefEqProofs only [c56,f56,aP,g0,g1,fx,r5,↓ba,↓aS,func84,show f84.body.isSome=true from rfl,show ∀ gl tm,cY gl tm (.func 84)=some (.func (.func 84) [] []) from fun _ _=>rfl,IN,h0,h1,h2,↓aG,aF,eu,sevalprocAttr]
 cases h3:rng c.room 0 4
 · simp (maxSteps:=4000000) -implicitDefEqProofs only [c56,f56,aP,g0,g1,fx,r5,↓ba,↓aS,func84,show f84.body.isSome=true from rfl,show ∀ gl tm,cY gl tm (.func 84)=some (.func (.func 84) [] []) from fun _ _=>rfl,IN,h0,h1,h2,h3,↓aG,aF,eu,sevalprocAttr]
 cases h4:rng c.pol 0 2
 · simp (maxSteps:=4000000) -implicitDefEqProofs only [c56,f56,aP,g0,g1,fx,r5,↓ba,↓aS,func84,show f84.body.isSome=true from rfl,show ∀ gl tm,cY gl tm (.func 84)=some (.func (.func 84) [] []) from fun _ _=>rfl,IN,h0,h1,h2,h3,h4,↓aG,aF,eu,sevalprocAttr]
 simp (maxSteps:=4000000) -implicitDefEqProofs only [c56,f56,aP,g0,g1,fx,r5,↓ba,↓aS,func84,show f84.body.isSome=true from rfl,show ∀ gl tm,cY gl tm (.func 84)=some (.func (.func 84) [] []) from fun _ _=>rfl,IN,h0,h1,h2,h3,h4,↓aG,aF,eu,sevalprocAttr]
def nJ (x:Itm):Bool:=eqB x.code 0 && eqB x.grid 0 && eqB x.block 0 && eqB x.args.length 0
theorem IP {H:AH} {x:Itm} {va:AV} (ha:SlS 32 1 H va (x.args.map dH)):Ev aa C0 W0 71 [.agg (aJ x va)] H=some (.bool (nJ x),H):=by
 obtain ⟨tm,ht,g0,g1⟩:=tm1 (.agg (aJ x va)) 22 (by decide);rw [acN,ht];rw [<-af (ro H)];unfold nJ;have hl:∀ G,d4 aa 32 G va=some (I x.args.length):=fun G=>by have:=ha.len G; rwa [ao] at this
 cases h0:eqB x.code 0
 · simp (maxSteps:=4000000) -implicitDefEqProofs only [c71,f71,aP,g0,g1,aJ,hl,r5,↓ba,h0,↓aG,aF,eu,sevalprocAttr]
 cases h1:eqB x.grid 0
 · simp (maxSteps:=4000000) -implicitDefEqProofs only [c71,f71,aP,g0,g1,aJ,hl,r5,↓ba,h0,h1,↓aG,aF,eu,sevalprocAttr]
 cases h2:eqB x.block 0
 · simp (maxSteps:=4000000) -implicitDefEqProofs only [c71,f71,aP,g0,g1,aJ,hl,r5,↓ba,h0,h1,h2,↓aG,aF,eu,sevalprocAttr]
 simp (maxSteps:=4000000) -implicitDefEqProofs only [c71,f71,aP,g0,g1,aJ,hl,r5,↓ba,h0,h1,h2,↓aG,aF,eu,sevalprocAttr]
def dF (nm:ByteArray) (x:Itm) (va:AV):List AV:=[.str nm,I x.grid,I x.block,va]
theorem R0 (H:AH) (i k:Nat) (x:AV):stA aa 126 H i k x=if x.cells.length=4 then bj H i k x.cells else none:=by kernel_rfl
theorem jI (H:AH) (i k:Nat):ldA aa 126 H i k=(ak H i k 4).map .agg:=by kernel_rfl
theorem W7:d8 aa 126=some (.agg [.str eS,I 0,I 0,.nilSlice]):=by kernel_rfl
theorem TM {va:AV} (h:va=.nilSlice∨∃ i k es l c e,va=.slice i k es l c e) (a:ByteArray) (b c:Int):iV aa 126 [(0,.str a),(1,I b),(2,I c),(3,va)]=some (.agg [.str a,I b,I c,va]):=by rcases h with rfl | ⟨i,k,es,l,c',e,rfl⟩ <;> kernel_rfl
theorem SlS.sh {T es:Nat} {H:AH} {v:AV} {rows:List (List AV)} (h:SlS T es H v rows):v=.nilSlice∨∃ i k es l c e,v=.slice i k es l c e:=by
 rcases h.old with ⟨e,_⟩ | ⟨i,k,c,x,e,_,_⟩
 · exact .inl e
 · exact .inr ⟨i,k,es,_,c,x,e⟩
theorem eK (i k:Nat):aL aa 126 (.ptr i k) 0=some (.ptr i k):=by kernel_rfl
theorem eJ (i k:Nat):aL aa 126 (.ptr i k) 1=some (.ptr i (k+1)):=by kernel_rfl
theorem eI (i k:Nat):aL aa 126 (.ptr i k) 2=some (.ptr i (k+2)):=by kernel_rfl
theorem eH (i k:Nat):aL aa 126 (.ptr i k) 3=some (.ptr i (k+3)):=by kernel_rfl
theorem aer {H:AH} {c:Cod} {vp vs vi va:AV} {x:Itm} (h:eW H c vp vs vi) (ha:SlS 32 1 H va (x.args.map dH)):Ev aa C0 W0 65 [.agg (bO c vp vs vi),.agg (aJ x va)] H=some (.agg (dF c.name x va),H):=by
 obtain ⟨tm,ht,g0,g1,g2⟩:=tm2 (.agg (bO c vp vs vi)) (.agg (aJ x va)) 14 (by decide);rw [acT,ht];rw [<-af (ro H)];unfold dF;have hb:=TM ha.sh;have hf:∀ G,kM true H (.agg [.str c.name,I x.grid,I x.block,va],G)=some (.agg [.str c.name,I x.grid,I x.block,va],H):=fun G=>Gn (by show (true && (true && (true && (oR H va && true))))=true; rw [ha.oR]; rfl);rcases ha.sh with rfl | ⟨i,k,es,l,cc,e,rfl⟩ <;>
 simp (maxSteps:=4000000) -implicitDefEqProofs only [c65,f65,aP,g0,g1,g2,aJ,hb,hf,acn,W7,R0,jI,r5,↓ba,↓aG,aF,eu,sevalprocAttr]
theorem aem {H:AH} {c:Cod} {vp vs vi va:AV} {x:Itm} (h:eW H c vp vs vi) (ha:SlS 32 1 H va (x.args.map dH)):Ev aa C0 W0 70 [.agg (bO c vp vs vi),.agg (aJ x va)] H=some (.agg (dF c.name x va),H):=by
 obtain ⟨tm,ht,g0,g1,g2⟩:=tm2 (.agg (bO c vp vs vi)) (.agg (aJ x va)) 14 (by decide);rw [acO,ht];rw [<-af (ro H)];unfold dF;have hb:=TM ha.sh;have hf:∀ G,kM true H (.agg [.str c.name,I x.grid,I x.block,va],G)=some (.agg [.str c.name,I x.grid,I x.block,va],H):=fun G=>Gn (by show (true && (true && (true && (oR H va && true))))=true; rw [ha.oR]; rfl);rcases ha.sh with rfl | ⟨i,k,es,l,cc,e,rfl⟩ <;>
 simp (maxSteps:=4000000) -implicitDefEqProofs only [c70,f70,aP,g0,g1,g2,aJ,hb,hf,acm,W7,R0,jI,r5,↓ba,↓aG,aF,eu,sevalprocAttr]
structure dy (H:AH) (cs:List Cod) (v:AV):Prop where
 ex:∃ l:List (Cod × AV × AV × AV),l.map (·.1)=cs/\SlS 22 5 H v (l.map fun p=>bO p.1 p.2.1 p.2.2.1 p.2.2.2)/\∀ p∈l,eW H p.1 p.2.1 p.2.2.1 p.2.2.2
 n:cs.length < 2 ^ 50
structure eo (H:AH) (m:List (List Int)) (v:AV):Prop where
 ex:∃ l:List (List Int × AV),l.map (·.1)=m/\SlS 24 1 H v (l.map fun p=>[p.2])/\∀ p∈l,SlS 32 1 H p.2 (p.1.map dH)
 n:m.length < 2 ^ 50
 nb:∀ b∈m,b.length < 2 ^ 50
 im:∀ b∈m,∀ x∈b,fk x
structure eD (H:AH) (xs:List Itm) (v:AV):Prop where
 ex:∃ l:List (Itm × AV),l.map (·.1)=xs/\SlS 31 9 H v (l.map fun p=>aJ p.1 p.2)/\∀ p∈l,SlS 32 1 H p.2 (p.1.args.map dH)
 n:xs.length < 2 ^ 50
 na:∀ x∈xs,x.args.length < 2 ^ 50
 im:∀ x∈xs,∀ a∈x.args,fk a
 iw:∀ x∈xs,fk x.word
structure cT (H:AH) (ss:List (List Itm)) (v:AV):Prop where
 ex:∃ l:List (List Itm × AV),l.map (·.1)=ss/\SlS 25 1 H v (l.map fun p=>[p.2])/\∀ p∈l,eD H p.1 p.2
 n:ss.length < 2 ^ 50
theorem dy.aZ {H K:AH} {cs:List Cod} {v:AV} (h:dy H cs v) (hA:an H K):dy K cs v:=by obtain ⟨⟨l,e,hs,hc⟩,n⟩:=h;exact ⟨⟨l,e,hs.same hA,fun p hp=>(hc p hp).aZ hA⟩,n⟩
theorem dy.ro {H:AH} {cs:List Cod} {v:AV} (h:dy H cs v):dy (ro H) cs v:=by obtain ⟨⟨l,e,hs,hc⟩,n⟩:=h;exact ⟨⟨l,e,hs.ro,fun p hp=>(hc p hp).ro⟩,n⟩
theorem eo.aZ {H K:AH} {cs:List (List Int)} {v:AV} (h:eo H cs v) (hA:an H K):eo K cs v:=by obtain ⟨⟨l,e,hs,hc⟩,n,nb,im⟩:=h;exact ⟨⟨l,e,hs.same hA,fun p hp=>(hc p hp).same hA⟩,n,nb,im⟩
theorem eo.ro {H:AH} {cs:List (List Int)} {v:AV} (h:eo H cs v):eo (ro H) cs v:=by obtain ⟨⟨l,e,hs,hc⟩,n,nb,im⟩:=h;exact ⟨⟨l,e,hs.ro,fun p hp=>(hc p hp).ro⟩,n,nb,im⟩
theorem eD.aZ {H K:AH} {xs:List Itm} {v:AV} (h:eD H xs v) (hA:an H K):eD K xs v:=by obtain ⟨⟨l,e,hs,hc⟩,n,na,im,iw⟩:=h;exact ⟨⟨l,e,hs.same hA,fun p hp=>(hc p hp).same hA⟩,n,na,im,iw⟩
theorem eD.ro {H:AH} {xs:List Itm} {v:AV} (h:eD H xs v):eD (ro H) xs v:=by obtain ⟨⟨l,e,hs,hc⟩,n,na,im,iw⟩:=h;exact ⟨⟨l,e,hs.ro,fun p hp=>(hc p hp).ro⟩,n,na,im,iw⟩
theorem cT.aZ {H K:AH} {ss:List (List Itm)} {v:AV} (h:cT H ss v) (hA:an H K):cT K ss v:=by obtain ⟨⟨l,e,hs,hc⟩,n⟩:=h;exact ⟨⟨l,e,hs.same hA,fun p hp=>(hc p hp).aZ hA⟩,n⟩
theorem cT.ro {H:AH} {ss:List (List Itm)} {v:AV} (h:cT H ss v):cT (ro H) ss v:=by obtain ⟨⟨l,e,hs,hc⟩,n⟩:=h;exact ⟨⟨l,e,hs.ro,fun p hp=>(hc p hp).ro⟩,n⟩
theorem dy.len {H:AH} {cs:List Cod} {v:AV} (h:dy H cs v) (G:AH):d4 aa 22 G v=some (I cs.length):=by obtain ⟨⟨l,rfl,hs,hc⟩,n⟩:=h;have:=hs.len G; rwa [ao] at this ⊢
theorem eo.len {H:AH} {cs:List (List Int)} {v:AV} (h:eo H cs v) (G:AH):d4 aa 24 G v=some (I cs.length):=by obtain ⟨⟨l,rfl,hs,hc⟩,n,_⟩:=h;have:=hs.len G; rwa [ao] at this ⊢
theorem eD.len {H:AH} {cs:List Itm} {v:AV} (h:eD H cs v) (G:AH):d4 aa 31 G v=some (I cs.length):=by obtain ⟨⟨l,rfl,hs,hc⟩,n,_⟩:=h;have:=hs.len G; rwa [ao] at this ⊢
theorem cT.len {H:AH} {cs:List (List Itm)} {v:AV} (h:cT H cs v) (G:AH):d4 aa 25 G v=some (I cs.length):=by obtain ⟨⟨l,rfl,hs,hc⟩,n⟩:=h;have:=hs.len G; rwa [ao] at this ⊢
def dj (cs:List Cod) (j:Nat):Cod:=cs.getD j ⟨eS,[],[],0,[]⟩
def bV (m:List (List Int)) (j:Nat):List Int:=m.getD j []
def bo (xs:List Itm) (j:Nat):Itm:=xs.getD j ⟨0,0,0,0,0,0,0,[],0⟩
def aM (ss:List (List Itm)) (j:Nat):List Itm:=ss.getD j []
theorem d6 {α:Type} {l:List α} {j:Nat} (h:j < l.length) (d:α):l.getD j d=l[j]'h:=by rw [gde,aj h]; rfl
theorem dy.at {H K:AH} {cs:List Cod} {v:AV} (h:dy H cs v) (hA:an H K) {j:Nat} (hj:j < cs.length):∃ i k vp vs vi,(∀ kk,aC aa 22 v (.int kk (j:Int))=some (.ptr i k))/\(∀ L,ak (K++L) i k 5=some (bO (dj cs j) vp vs vi))/\eW H (dj cs j) vp vs vi:=by
 obtain ⟨⟨l,rfl,hs,hc⟩,n⟩:=h;have hj':j < l.length:=by rwa [ao] at hj
 obtain ⟨i,k,hi,hr⟩:=hs.ix j _ (by rw [aO,aj hj']; rfl);have e:dj (l.map (·.1)) j=(l[j]'hj').1:=by unfold dj; rw [d6 hj,lq]
 rw [e];exact ⟨i,k,_,_,_,hi,fun L=>iH hr hA L,hc _ (gQ _)⟩
theorem eo.at {H K:AH} {m:List (List Int)} {v:AV} (h:eo H m v) (hA:an H K) {j:Nat} (hj:j < m.length):∃ i k w,(∀ kk,aC aa 24 v (.int kk (j:Int))=some (.ptr i k))/\(∀ L,ak (K++L) i k 1=some [w])/\SlS 32 1 H w ((bV m j).map dH):=by
 obtain ⟨⟨l,rfl,hs,hc⟩,n,_⟩:=h;have hj':j < l.length:=by rwa [ao] at hj
 obtain ⟨i,k,hi,hr⟩:=hs.ix j _ (by rw [aO,aj hj']; rfl);have e:bV (l.map (·.1)) j=(l[j]'hj').1:=by unfold bV; rw [d6 hj,lq]
 rw [e];exact ⟨i,k,_,hi,fun L=>iH hr hA L,hc _ (gQ _)⟩
theorem eD.at {H K:AH} {xs:List Itm} {v:AV} (h:eD H xs v) (hA:an H K) {j:Nat} (hj:j < xs.length):∃ i k w,(∀ kk,aC aa 31 v (.int kk (j:Int))=some (.ptr i k))/\(∀ L,ak (K++L) i k 9=some (aJ (bo xs j) w))/\SlS 32 1 H w ((bo xs j).args.map dH):=by
 obtain ⟨⟨l,rfl,hs,hc⟩,n,_⟩:=h;have hj':j < l.length:=by rwa [ao] at hj
 obtain ⟨i,k,hi,hr⟩:=hs.ix j _ (by rw [aO,aj hj']; rfl);have e:bo (l.map (·.1)) j=(l[j]'hj').1:=by unfold bo; rw [d6 hj,lq]
 rw [e];exact ⟨i,k,_,hi,fun L=>iH hr hA L,hc _ (gQ _)⟩
theorem cT.at {H K:AH} {ss:List (List Itm)} {v:AV} (h:cT H ss v) (hA:an H K) {j:Nat} (hj:j < ss.length):∃ i k w,(∀ kk,aC aa 25 v (.int kk (j:Int))=some (.ptr i k))/\(∀ L,ak (K++L) i k 1=some [w])/\eD H (aM ss j) w:=by
 obtain ⟨⟨l,rfl,hs,hc⟩,n⟩:=h;have hj':j < l.length:=by rwa [ao] at hj
 obtain ⟨i,k,hi,hr⟩:=hs.ix j _ (by rw [aO,aj hj']; rfl);have e:aM (l.map (·.1)) j=(l[j]'hj').1:=by unfold aM; rw [d6 hj,lq]
 rw [e];exact ⟨i,k,_,hi,fun L=>iH hr hA L,hc _ (gQ _)⟩
theorem kQ {H:AH} {v:AV} {b:List Int} (h:SlS 32 1 H v (b.map dH)) (G:AH):d4 aa 32 G v=some (I b.length):=by have:=h.len G; rwa [ao] at this
def Sub (S K:AH):Prop:=∀ (i:Nat) (o:bm),S[i]? =some o->o≠bm.dead->K[i]? =some o
def lL (S:AH) (i:Nat):Prop:=S[i]? =none∨S[i]? =some .dead
theorem Sub.refl (S:AH):Sub S S:=fun _ _ h _=>h
theorem Sub.trans {S K M:AH} (h:Sub S K) (k:Sub K M):Sub S M:=fun i o hi ho=>k i o (h i o hi ho) ho
theorem an.sub {S K:AH} (h:an S K):Sub S K:=fun i o hi _=>h.get hi
theorem Sub.aZ {S K M:AH} (h:Sub S K) (k:an K M):Sub S M:=h.trans k.sub
theorem Sub.bX {S K:AH} (h:Sub S K) (L:AH):Sub S (K++L):=h.aZ (an.app K L)
theorem Sub.m3 {S K:AH} (h:Sub S K) {i:Nat} (hi:lL S i) (o:bm):Sub S (K.set i o):=fun j x hj hx=>by
 have:i≠j:=fun e=>by
   subst e
   rcases hi with c | c
   · rw [c] at hj; cases hj
   · rw [c] at hj; cases hj; exact hx rfl
 rw [ay this]; exact h j x hj hx
theorem Sub.kill (S:AH) (i:Nat):Sub (S.set i .dead) S:=fun j o hj ho=>by
 rcases Decidable.em (i=j) with e | e
 · subst e
   rw [List.getElem?_set_self'] at hj
   cases hs:S[i]? with
   | none=>rw [hs] at hj; cases hj
   | some x=>rw [hs] at hj; cases hj; exact absurd rfl ho
 · rw [ay e] at hj; exact hj
theorem ve (S:AH) (i:Nat):lL (S.set i .dead) i:=by
 unfold lL;rcases Nat.lt_or_ge i S.length with c | c
 · right; rw [List.getElem?_set_self c]
 · left; rw [aE (by rw [List.length_set]; exact c)]
theorem lL.kill {S:AH} {i:Nat} (h:lL S i) (j:Nat):lL (S.set j .dead) i:=by
 rcases Decidable.em (j=i) with e | e
 · subst e; exact ve S j
 · unfold lL; rw [ay e]; exact h
theorem lL.sub {S K:AH} (h:Sub S K) {i:Nat} (hk:lL K i):lL S i:=by
 cases hs:S[i]? with
 | none=>exact .inl hs
 | some o =>
   rcases Classical.em (o=bm.dead) with e | e
   · subst e; exact .inr hs
   · have:=h i o hs e;rcases hk with c | c
     · rw [c] at this; cases this
     · rw [c] at this; cases this; exact absurd rfl e
theorem tJ {S:AH} {i:Nat} (h:S.length<=i):lL S i:=.inl (aE h)
theorem lL.ne {S:AH} {i j:Nat} {o:bm} (h:lL S i) (hj:S[j]? =some o) (ho:o≠bm.dead):i≠j:=fun e=>by
 subst e
 rcases h with c | c
 · rw [c] at hj; cases hj
 · rw [c] at hj; cases hj; exact ho rfl
theorem Sub.rd {S K:AH} (h:Sub S K) {i k n:Nat} {r:List AV} (hr:ak S i k n=some r):ak K i k n=some r:=by
 unfold ak at hr ⊢;cases hs:S[i]? with
 | none=>rw [hs] at hr; cases hr
 | some o =>
   rw [hs] at hr;have hd:o≠bm.dead:=fun e=>by subst e; cases hr
   rw [h i o hs hd]; exact hr
theorem Sub.ok {S K:AH} (h:Sub S K) {i:Nat} (hi:okC S i=true):okC K i=true:=by
 unfold okC at hi ⊢;cases hs:S[i]? with
 | none=>rw [hs] at hi; cases hi
 | some o =>
   rw [hs] at hi;have hd:o≠bm.dead:=fun e=>by subst e; cases hi
   rw [h i o hs hd]; exact hi
theorem SlS.sub {T es:Nat} {S K:AH} {v:AV} {rows:List (List AV)} (h:SlS T es S v rows) (hs:Sub S K):SlS T es K v rows:=
 ⟨h.len,fun j x hx=>by obtain ⟨i,k,h1,h2⟩:=h.ix j x hx; exact ⟨i,k,h1,hs.rd h2⟩,h.old.imp id fun ⟨i,k,c,e,h1,h2,h3⟩=>⟨i,k,c,e,h1,hs.ok h2,hs.rd h3⟩⟩
theorem eW.sub {H K:AH} {c:Cod} {vp vs vi:AV} (h:eW H c vp vs vi) (hA:Sub H K):eW K c vp vs vi:={ h with p:=h.p.sub hA,s:=h.s.sub hA,i:=h.i.sub hA }
theorem dy.sub {H K:AH} {cs:List Cod} {v:AV} (h:dy H cs v) (hA:Sub H K):dy K cs v:=by obtain ⟨⟨l,e,hs,hc⟩,n⟩:=h;exact ⟨⟨l,e,hs.sub hA,fun p hp=>(hc p hp).sub hA⟩,n⟩
theorem eo.sub {H K:AH} {cs:List (List Int)} {v:AV} (h:eo H cs v) (hA:Sub H K):eo K cs v:=by obtain ⟨⟨l,e,hs,hc⟩,n,nb,im⟩:=h;exact ⟨⟨l,e,hs.sub hA,fun p hp=>(hc p hp).sub hA⟩,n,nb,im⟩
theorem eD.sub {H K:AH} {xs:List Itm} {v:AV} (h:eD H xs v) (hA:Sub H K):eD K xs v:=by obtain ⟨⟨l,e,hs,hc⟩,n,na,im,iw⟩:=h;exact ⟨⟨l,e,hs.sub hA,fun p hp=>(hc p hp).sub hA⟩,n,na,im,iw⟩
theorem cT.sub {H K:AH} {ss:List (List Itm)} {v:AV} (h:cT H ss v) (hA:Sub H K):cT K ss v:=by obtain ⟨⟨l,e,hs,hc⟩,n⟩:=h;exact ⟨⟨l,e,hs.sub hA,fun p hp=>(hc p hp).sub hA⟩,n⟩
structure IxT (T es:Nat):Prop where
 ln0:∀ G,d4 aa T G .nilSlice=some (I 0)
 ln:∀ G i k es l c e,d4 aa T G (.slice i k es l c e)=some (I l)
 ia:∀ i k es' l c e kk n,aC aa T (.slice i k es' l c e) (.int kk n)=if 0<=n/\n < l/\es=es' then some (.ptr i (k+n.toNat * es')) else none
theorem d5 {α:Type} {es:Nat}:∀ {rows:List (List α)},(∀ r∈rows,r.length=es)->rows.flatten.length=rows.length * es
 | [],_=>by simp
 | r::rows,h=>by
   rw [fF,ai,d5 (rows:=rows) fun x hx=>h x (by simp [hx]),h r (by simp),cR,eE,jG,Nat.add_comm]
theorem CU {α:Type} {es:Nat}:∀ {rows:List (List α)},(∀ r∈rows,r.length=es)->∀ {j:Nat} {r:List α},rows[j]? =some r->(rows.flatten.drop (j * es)).take es=r
 | [],_,_,_,h=>by simp at h
 | x::rows,hr,0,r,h=>by
   simp only [List.getElem?_cons_zero,aU] at h
   subst h
   rw [fF,Nat.zero_mul,List.drop_zero,List.take_append_of_le_length (by rw [hr x (by simp)]; exact aw _),List.take_of_length_le (by rw [hr x (by simp)]; exact aw _)]
 | x::rows,hr,j+1,r,h=>by
   simp only [List.getElem?_cons_succ] at h
   rw [fF,List.drop_append,List.drop_of_length_le (by rw [hr x (by simp),eE,jG]; exact Nat.le_add_left _ _),List.nil_append,hr x (by simp),show (j+1) * es - es=j * es by rw [eE,jG,Nat.add_sub_cancel]]
   exact CU (rows:=rows) (fun y hy=>hr y (by simp [hy])) h
theorem mI {T es:Nat} (X:IxT T es) {H:AH} {i k c:Nat} {e:Bool} {rows:List (List AV)} (hr:∀ r∈rows,r.length=es) (ho:okC H i=true) (h:ak H i k (rows.length * es)=some rows.flatten):SlS T es H (.slice i k es rows.length c e) rows where
 len:=fun G=>X.ln _ _ _ _ _ _ _
 ix:=fun j r hj=>by
   have hjl:=aI hj
   refine ⟨i,k+j * es,fun kk=>?_,?_⟩
   · rw [X.ia,if_pos ⟨by omega,by omega,rfl⟩]; rfl
   · have hm:(j+1) * es<=rows.length * es:=Nat.mul_le_mul_right _ hjl
     rw [eE,jG] at hm
     rw [AY h (j * es) es hm,CU hr hj]
 old:=.inr ⟨i,k,c,e,rfl,ho,h⟩
theorem k5 {T es:Nat} (X:IxT T es) (H:AH):SlS T es H .nilSlice []:=⟨fun G=>X.ln0 G,fun j r h=>by simp at h,.inl ⟨rfl,rfl⟩⟩
theorem Own.mJ {T es:Nat} (X:IxT T es) (hes:0 < es) {b:Nat} {H:AH} {elem:TypeId} {v:AV} {rows:List (List AV)} (h:Own b H es elem v rows.flatten) (hr:∀ r∈rows,r.length=es):SlS T es H v rows:=by
 have hlen:=h.length;rw [d5 hr] at hlen;generalize hxs:rows.flatten=xs at h;cases h with
 | nil =>
   have:rows=[]:=by
     cases rows with
     | nil=>rfl
     | cons r l =>have:=d5 hr;rw [hxs,gH,cR,eE,jG] at this;omega
   subst this;exact k5 X H
 | «at» i k len cap ex cs xs hb hi hl hc h =>rw [cp] at hlen;have hl2:rows.length=len:=Nat.eq_of_mul_eq_mul_right hes hlen;subst hl2;exact mI X hr (by unfold okC; rw [hi]) (by rw [hxs]; exact h)
theorem SlS.row {T es:Nat} {H:AH} {v:AV} {rows:List (List AV)} (h:SlS T es H v rows):Row H es v rows.flatten:=by
 rcases h.old with ⟨rfl,rfl⟩ | ⟨i,k,c,e,rfl,_,h3⟩
 · exact .nil
 · exact .at _ _ _ _ _ _ h3
theorem SlS.lenOf {T es:Nat} {H:AH} {v:AV} {rows:List (List AV)} (h:SlS T es H v rows):bL v=rows.length:=by rcases h.old with ⟨rfl,rfl⟩ | ⟨i,k,c,e,rfl,_,h3⟩ <;> rfl
theorem Own.ge2 {b:Nat} {H:AH} {es:Nat} {elem:TypeId} {v:AV} {xs:List AV} (h:Own b H es elem v xs) {i k e len cap:Nat} {ex:Bool} (hv:v=.slice i k e len cap ex):b<=i/\i < H.length:=by
 cases h with
 | nil=>cases hv
 | «at» i2 k2 len2 cap2 ex2 cs2 xs2 hb2 hi2 hl2 hc2 h2=>cases hv; exact ⟨hb2,aI hi2⟩
theorem Own.lt {b:Nat} {H:AH} {es:Nat} {elem:TypeId} {v:AV} {xs:List AV} (h:Own b H es elem v xs) {i k e len cap:Nat} {ex:Bool} (hv:v=.slice i k e len cap ex):i < H.length:=(h.ge2 hv).2
theorem Own.up {b b':Nat} {H:AH} {es:Nat} {elem:TypeId} {v:AV} {xs:List AV} (h:Own b H es elem v xs) (hb:b'<=b):Own b' H es elem v xs:=by
 cases h with
 | nil=>exact .nil
 | «at» i k len cap ex cs xs h1 hi hl hc h=>exact .at i k len cap ex cs xs (bh hb h1) hi hl hc h
theorem Own.aZ {b:Nat} {H K:AH} {es:Nat} {elem:TypeId} {v:AV} {xs:List AV} (h:Own b H es elem v xs) (hA:an H K):Own b K es elem v xs:=h.other fun i k e len cap ex hv=>hA i (h.lt hv)
theorem Own.cells {b:Nat} {H:AH} {es:Nat} {elem:TypeId} {v:AV} {xs:List AV} (h:Own b H es elem v xs):v.cells=[v]/\v.one=true:=by cases h <;> exact ⟨rfl,rfl⟩
theorem ze {sT elem:TypeId} {xT:Option TypeId} {es:Nat} (T:pC aa sT xT elem es) {G K:AH} {v:AV} {xs:List AV} (hA:an G K) (ho:Own G.length K es elem v xs) {x:AV} {new:List AV} (hx:Row K es x new)
   (hone:new.all AV.one=true) (hg:gf (aa.bytesOf elem) (bL v+bL x)=true) :
   ∃ v' K',fV aa none sT xT v x K=some (v',K')/\an G K'/\Own G.length K' es elem v' (xs++new)/\K.length<=K'.length/\(∀ j,j < K.length->(∀ i k len cap ex,v=.slice i k es len cap ex->j≠i)->K'[j]? =K[j]?):=by obtain ⟨v',K',he,hown,hlv,hll,hsame⟩:=sF T ho hA.len hx hone hg;refine ⟨v',K',he,fun j hj=>?_,hown,hll,hsame⟩;rw [hsame j (Nat.lt_of_lt_of_le hj hA.len),hA j hj];intro i k len cap ex e;have:=(ho.ge2 e).1;omega
theorem Ac:IxT 22 5:=⟨Si,Vz,YX⟩
theorem Gk:IxT 24 1:=⟨Yq,ab6,YW⟩
theorem CI:IxT 25 1:=⟨Yp,ab5,acj⟩
theorem vV:IxT 30 1:=⟨Ga,QZ,YV⟩
theorem mV:IxT 31 9:=⟨Ym,Yn,aci⟩
theorem Ab:IxT 32 1:=⟨Yl,ab4,YU⟩
theorem Tx:IxT 62 2:=⟨Yk,ab2,acf⟩
theorem Tw:IxT 63 2:=⟨Yj,ab1,ace⟩
theorem Tv:IxT 64 8:=⟨Yi,ab0,acd⟩
def lP (vc vm vs va:AV) (f:Con) (rc:List Bool) (en:Int):List AV:=[vc,vm]++fx f++[vs,va]++rc.map AV.bool++[I en]
structure m6 (H:AH) (q:Nat) (vc vm vs va:AV) (f:Con) (ss:List (List Itm)) (ad:List Nat) (m:List (List Int)) (rc:List Bool) (en:Int):Prop where
 row:ak H q 0 28=some (lP vc vm vs va f rc en)
 m:eo H m vm
 s:cT H ss vs
 a:SlS 30 1 H va (ad.map fun (n:Nat)=>[I (n:Int)])
 la:ad.length=ss.length
 le:∀ i,i < ss.length->ad.getD i 0<=(aM ss i).length
 lr:rc.length=16
 ev:∀ l∈ss,∀ x∈l,(x.kind=3∨x.kind=4)->0<=x.ev/\x.ev < 16
 nn:∃ i k c e,va=.slice i k 1 ad.length c e
 few:(ss.map ew).sum<=24
 fs:ss.length<=4
theorem m6.sub {H K:AH} {q:Nat} {vc vm vs va:AV} {f:Con} {ss:List (List Itm)} {ad:List Nat} {m:List (List Int)} {rc:List Bool} {en:Int} (h:m6 H q vc vm vs va f ss ad m rc en) (hA:Sub H K):m6 K q vc vm vs va f ss ad m rc en:=
 { h with row:=hA.rd h.row,m:=h.m.sub hA,s:=h.s.sub hA,a:=h.a.sub hA }
theorem m6.aZ {H K:AH} {q:Nat} {vc vm vs va:AV} {f:Con} {ss:List (List Itm)} {ad:List Nat} {m:List (List Int)} {rc:List Bool} {en:Int} (h:m6 H q vc vm vs va f ss ad m rc en) (hA:an H K):m6 K q vc vm vs va f ss ad m rc en:=h.sub hA.sub
theorem m6.ro {H:AH} {q:Nat} {vc vm vs va:AV} {f:Con} {ss:List (List Itm)} {ad:List Nat} {m:List (List Int)} {rc:List Bool} {en:Int} (h:m6 H q vc vm vs va f ss ad m rc en):m6 (ro H) q vc vm vs va f ss ad m rc en:=
 { h with row:=s5 h.row,m:=h.m.ro,s:=h.s.ro,a:=h.a.ro }
theorem m6.cell {H K:AH} {q:Nat} {vc vm vs va:AV} {f:Con} {ss:List (List Itm)} {ad:List Nat} {m:List (List Int)} {rc:List Bool} {en:Int} (h:m6 H q vc vm vs va f ss ad m rc en) (hA:an H K) (L:AH) (j:Nat) {x:AV} (hx:(lP vc vm vs va f rc en)[j]? =some x):ak (K++L) q (0+j) 1=some [x]:=fJ (hA.bX L) (ku h.row hx)
theorem m6.at {H K:AH} {q:Nat} {vc vm vs va:AV} {f:Con} {ss:List (List Itm)} {ad:List Nat} {m:List (List Int)} {rc:List Bool} {en:Int} (h:m6 H q vc vm vs va f ss ad m rc en) (hA:an H K) {j:Nat} (hj:j < ss.length):∃ i k,(∀ kk,aC aa 30 va (.int kk (j:Int))=some (.ptr i k))/\∀ L,ak (K++L) i k 1=some [I (ad.getD j 0:Nat)]:=by
 have hj':j < ad.length:=by rw [h.la]; exact hj
 obtain ⟨i,k,hi,hr⟩:=h.a.ix j _ (by rw [aO,aj hj']; rfl);refine ⟨i,k,hi,fun L=>?_⟩;have:=iH hr hA L;rwa [gde,aj hj']
theorem Py {vc vm vs va:AV} {f:Con} {rc:List Bool} {en:Int} (hr:rc.length=16) {e:Nat} (he:e < 16):(lP vc vm vs va f rc en)[11+e]? =some (.bool (rc.getD e false)):=by unfold lP fx;rw [ar (by simp [hr]; omega),al (by simp)];simp only [ai,cR,gH,aO,Nat.reduceAdd,Nat.add_sub_cancel_left];rw [aj (by omega),gde,aj (by omega)]; rfl
theorem FO {vc vm vs va:AV} {f:Con} {rc:List Bool} {en:Int} (hr:rc.length=16):(lP vc vm vs va f rc en)[27]? =some (I en):=by unfold lP fx;rw [al (by simp [hr])];simp [hr]
def okS (ss:List (List Itm)) (ad:List Nat) (rc:List Bool) (s:Nat):Bool:=
 ltB (ad.getD s 0:Nat) ((aM ss s).length:Int) && (!eqB (bo (aM ss s) (ad.getD s 0)).kind 4 || rc.getD (bo (aM ss s) (ad.getD s 0)).ev.toNat false)
def cO (ss:List (List Itm)) (ad:List Nat) (rc:List Bool) (n:Nat):List Nat:=(bp n).filter (okS ss ad rc)
def ey (ss:List (List Itm)) (ad:List Nat) (n:Nat):List Nat:=(bp n).map fun s=>(aM ss s).length - ad.getD s 0
theorem jZ (ss:List (List Itm)) (ad:List Nat) (rc:List Bool) (n:Nat):cO ss ad rc (n+1)=if okS ss ad rc n then cO ss ad rc n++[n] else cO ss ad rc n:=by unfold cO;rw [jf,List.filter_append];cases h:okS ss ad rc n <;> simp [h]
theorem oX (ss:List (List Itm)) (ad:List Nat) (n:Nat):ey ss ad (n+1)=ey ss ad n++[(aM ss n).length - ad.getD n 0]:=by unfold ey;rw [jf,dE]; rfl
theorem oJ (ss:List (List Itm)) (ad:List Nat) (rc:List Bool) (n:Nat):(cO ss ad rc n).length<=n:=by unfold cO;exact bh (List.length_filter_le _ _) (by rw [List.length_range]; exact aw _)
theorem yu (ss:List (List Itm)) (ad:List Nat):(ey ss ad ss.length).sum<=(ss.map ew).sum:=by
 have h:ss.map ew=(bp ss.length).map fun s=>(aM ss s).length:=by refine List.ext_getElem (by simp) fun i h1 h2=>?_;simp only [lq,List.getElem_range];rw [ao] at h1;unfold aM;rw [gde,aj h1]; rfl
 rw [h];unfold ey;generalize bp ss.length=l;induction l with
 | nil=>exact aw _
 | cons x l ih=>simp only [List.map_cons,List.sum_cons]; omega
theorem vJ (l:List Nat) (j:Nat):(l.take j).sum<=l.sum:=by have:=congrArg List.sum (List.take_append_drop j l);rw [List.sum_append] at this;omega
def ints (l:List Nat):List (List AV):=l.map fun (n:Nat)=>[I (n:Int)]
theorem mu (l:List Nat):(ints l).flatten=l.map fun (n:Nat)=>I (n:Int):=qb _ l
theorem ot (l:List Nat):∀ r∈ints l,r.length=1:=by intro r hr;obtain ⟨n,_,rfl⟩:=List.mem_map.1 hr;rfl
theorem Own.ints {b:Nat} {H:AH} {v:AV} {l:List Nat} (h:Own b H 1 3 v (l.map fun (n:Nat)=>I (n:Int))):SlS 30 1 H v (ints l):=
 Own.mJ vV (by decide) (by rw [mu]; exact h) (ot l)
theorem I6:pC aa 30 (some 30) 3 1:=⟨by kernel_rfl,⟨I 0,by kernel_rfl,by kernel_rfl,by simp [AV.cells]⟩,by kernel_rfl,by kernel_rfl⟩
theorem by3:aa.bytesOf 3=8:=by kernel_rfl
theorem Oo (n:Int) (H:AH):bn aa none 30 1 [(0,I n)] H=some (.slice H.length 0 1 1 1 true,H++[.cells [I n] 3]):=by kernel_rfl
theorem RH (n:Int) (H L:AH):bn aa none 30 1 [(0,I n)] (H++L)=some (.slice (H.length+L.length) 0 1 1 1 true,H++(L++[.cells [I n] 3])):=by rw [Oo,ai,List.append_assoc]
theorem xc {G K:AH} {v:AV} {l:List Nat} (hA:an G K) (ho:Own G.length K 1 3 v (l.map fun (n:Nat)=>I (n:Int))) (hl:l.length < 2 ^ 30) (n:Nat) :
   ∃ v' K',fV aa none 30 (some 30) v (.slice K.length 0 1 1 1 true) (K++[.cells [I (n:Int)] 3])=some (v',K')/\an G K'/\Own G.length K' 1 3 v' ((l++[n]).map fun (n:Nat)=>I (n:Int))/\K.length<=K'.length/\(∀ j,j < K.length->(∀ i k len cap ex,v=.slice i k 1 len cap ex->j≠i)->K'[j]? =K[j]?):=by have hlen:=ho.length;rw [ao,Nat.mul_one] at hlen;have ho':Own G.length (K++[.cells [I (n:Int)] 3]) 1 3 v (l.map fun (n:Nat)=>I (n:Int)):=ho.aZ (an.app _ _);have hrow:Row (K++[.cells [I (n:Int)] 3]) 1 (.slice K.length 0 1 1 1 true) [I (n:Int)]:=.at _ _ _ _ _ _ (by rw [gj]; rfl);obtain ⟨v',K',he,h1,h2,h3,h4⟩:=ze I6 (hA.bX _) ho' hrow rfl (by rw [by3,<-hlen,cp]; unfold gf; rw [Bool.and_eq_true,decide_eq_true_iff,decide_eq_true_iff]; constructor <;> omega);refine ⟨v',K',he,h1,by rw [dE]; exact h2,by rw [ai] at h3; exact bh (Nat.le_add_right _ _) h3,fun j hj hn=>?_⟩;rw [h4 j (by rw [ai]; exact Nat.lt_add_right _ hj) hn,ar hj]
end Go.Dv
