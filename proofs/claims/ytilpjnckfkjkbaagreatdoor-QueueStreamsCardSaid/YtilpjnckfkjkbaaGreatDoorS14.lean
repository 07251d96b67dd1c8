/- Part 14 of the walks (own work). -/
import Derived.Test.YtilpjnckfkjkbaaGreatDoorS13
open List renaming append_nil→af,flatten_cons→eZ,getElem?_append_left→aq,getElem?_append_right→aw,getElem?_eq_getElem→aj,getElem?_eq_none→aT,getElem?_map→aI,getElem?_set_ne→aB,getElem_map→kT,getElem_mem→gC,length→fU,length_append→ai,length_cons→b6,length_map→au,length_nil→gj,map_append→dX,range→bn,range_succ→kh
open Nat renaming add_mul→d3,le_refl→ax,le_trans→bc,one_mul→jk
open Option.some renaming injEq→aS
open Go.Proofs.Tryz renaming prog→aa
set_option maxRecDepth 100000
set_option maxHeartbeats 4000000
set_option linter.unusedSimpArgs false
set_option linter.unusedVariables false
namespace Go.Dv
open Go.Proofs
attribute [local congr] aH bP bj bO bQ
structure Con where
 w:Int
 free:Bool
 cores:Int
 slots:Int
 room:Int
 pol:Int
 lat:Int
structure Itm where
 kind:Int
 code:Int
 grid:Int
 block:Int
 src:Int
 dst:Int
 ev:Int
 args:List Int
 word:Int
def d8 (c:Con):List AV:=[I c.w,.bool c.free,I c.cores,I c.slots,I c.room,I c.pol,I c.lat]
def aU (x:Itm) (va:AV):List AV:=[I x.kind,I x.code,I x.grid,I x.block,I x.src,I x.dst,I x.ev,va,.int .i32 x.word]
def rng (n a b:Int):Bool:=leB a n && leB n b
def tf (c:Con):Bool:=rng c.w 1 32 && rng c.cores 1 4 && rng c.slots 1 4 && rng c.room 0 4 && rng c.pol 0 2 && rng c.lat 0 20
def Rq (a b:Int):Bool:=rng a 0 2 && rng b 0 20
theorem z7 (n l:Int):ltB n (l+1)=leB n l:=by rw [Bool.eq_iff_iff,dC,dp]; omega
def dh (n:Int):List AV:=[.int .i32 n]
theorem GV (n a b:Int) (H:AH):Ev aa C0 W0 84 [I n,I a,I b] H=some (.bool (rng n a b),H):=by
 obtain ⟨tm,ht,g0,g1,g2,g3⟩:=tm3 (I n) (I a) (I b) 15 (by decide)
 rw [YG,ht]
 rw [<-af (ro H)]
 simp (maxSteps:=4000000) +contextual -implicitDefEqProofs only [c84,Tryz.f84,aP,g0,g1,g2,g3,↓ao,an,eu,sevalprocAttr]
 unfold rng
 refine congrArg (fun b=>some (AV.bool b,H)) ?_
 cases leB a n <;>
 cases leB n b <;>
 rfl
theorem Z5 (a b:Int) (H:AH):Ev aa C0 W0 68 [I a,I b] H=some (.bool (Rq a b),H):=by
 obtain ⟨tm,ht,g0,g1,g2⟩:=tm2 (I a) (I b) 19 (by decide)
 rw [YQ,ht]
 rw [<-af (ro H)]
 unfold Rq rng
 rw [show leB a 2=ltB a 3 from (z7 a 2).symm]
 cases h0:leB 0 a <;> cases h1:ltB a 3 <;> cases h2:leB 0 b <;> simp (maxSteps:=4000000) -implicitDefEqProofs only [c68,Tryz.f68,aP,g0,g1,g2,h0,h1,h2,↓ao,an,eu,sevalprocAttr]
theorem aan (c:Con) (H:AH):Ev aa C0 W0 38 [.agg (d8 c)] H=some (.bool (tf c),H):=by
 obtain ⟨tm,ht,g0,g1⟩:=tm1 (.agg (d8 c)) 48 (by decide)
 rw [Ze,ht]
 rw [<-af (ro H)]
 unfold tf rng
 cases h0:leB 1 c.w
 · simp (maxSteps:=4000000) -implicitDefEqProofs only [c38,Tryz.f38,aP,g0,g1,d8,r5,↓az,h0,↓ao,an,eu,sevalprocAttr]
 cases h1:leB c.w 32
 · simp (maxSteps:=4000000) -implicitDefEqProofs only [c38,Tryz.f38,aP,g0,g1,d8,r5,↓az,h0,h1,↓ao,an,eu,sevalprocAttr]
 cases h2:leB 1 c.cores
 · simp (maxSteps:=4000000) -implicitDefEqProofs only [c38,Tryz.f38,aP,g0,g1,d8,r5,↓az,h0,h1,h2,↓ao,an,eu,sevalprocAttr]
 cases h3:leB c.cores 4
 · simp (maxSteps:=4000000) -implicitDefEqProofs only [c38,Tryz.f38,aP,g0,g1,d8,r5,↓az,h0,h1,h2,h3,↓ao,an,eu,sevalprocAttr]
 cases h4:leB 1 c.slots
 · simp (maxSteps:=4000000) -implicitDefEqProofs only [c38,Tryz.f38,aP,g0,g1,d8,r5,↓az,h0,h1,h2,h3,h4,↓ao,an,eu,sevalprocAttr]
 cases h5:leB c.slots 4
 · simp (maxSteps:=4000000) -implicitDefEqProofs only [c38,Tryz.f38,aP,g0,g1,d8,r5,↓az,h0,h1,h2,h3,h4,h5,↓ao,an,eu,sevalprocAttr]
 cases h6:leB 0 c.room
 · simp (maxSteps:=4000000) -implicitDefEqProofs only [c38,Tryz.f38,aP,g0,g1,d8,r5,↓az,h0,h1,h2,h3,h4,h5,h6,↓ao,an,eu,sevalprocAttr]
 cases h7:leB c.room 4
 · simp (maxSteps:=4000000) -implicitDefEqProofs only [c38,Tryz.f38,aP,g0,g1,d8,r5,↓az,h0,h1,h2,h3,h4,h5,h6,h7,↓ao,an,eu,sevalprocAttr]
 simp (maxSteps:=4000000) -implicitDefEqProofs only [c38,Tryz.f38,aP,g0,g1,d8,r5,↓az,h0,h1,h2,h3,h4,h5,h6,h7,↓ZA,Z5,Rq,rng,↓ao,an,eu,sevalprocAttr]
theorem aaf (c:Con) (H:AH):Ev aa C0 W0 56 [.agg (d8 c)] H=some (.bool (tf c),H):=by
 obtain ⟨tm,ht,g0,g1⟩:=tm1 (.agg (d8 c)) 38 (by decide)
 rw [Y0,ht]
 rw [<-af (ro H)]
 unfold tf
 cases h0:rng c.w 1 32
 · simp (maxSteps:=4000000) -implicitDefEqProofs only [c56,Tryz.f56,aP,g0,g1,d8,r5,↓az,↓aO,Tryz.func84,show Tryz.f84.body.isSome=true from rfl,show ∀ gl tm,cz gl tm (.func 84)=some (.func (.func 84) [] []) from fun _ _=>rfl,GV,h0,↓ao,an,eu,sevalprocAttr]
 cases h1:rng c.cores 1 4
 · simp (maxSteps:=4000000) -implicitDefEqProofs only [c56,Tryz.f56,aP,g0,g1,d8,r5,↓az,↓aO,Tryz.func84,show Tryz.f84.body.isSome=true from rfl,show ∀ gl tm,cz gl tm (.func 84)=some (.func (.func 84) [] []) from fun _ _=>rfl,GV,h0,h1,↓ao,an,eu,sevalprocAttr]
 cases h2:rng c.slots 1 4
 · simp (maxSteps:=4000000) -implicitDefEqProofs only [c56,Tryz.f56,aP,g0,g1,d8,r5,↓az,↓aO,Tryz.func84,show Tryz.f84.body.isSome=true from rfl,show ∀ gl tm,cz gl tm (.func 84)=some (.func (.func 84) [] []) from fun _ _=>rfl,GV,h0,h1,h2,↓ao,an,eu,sevalprocAttr]
 cases h3:rng c.room 0 4
 · simp (maxSteps:=4000000) -implicitDefEqProofs only [c56,Tryz.f56,aP,g0,g1,d8,r5,↓az,↓aO,Tryz.func84,show Tryz.f84.body.isSome=true from rfl,show ∀ gl tm,cz gl tm (.func 84)=some (.func (.func 84) [] []) from fun _ _=>rfl,GV,h0,h1,h2,h3,↓ao,an,eu,sevalprocAttr]
 cases h4:rng c.pol 0 2
 · simp (maxSteps:=4000000) -implicitDefEqProofs only [c56,Tryz.f56,aP,g0,g1,d8,r5,↓az,↓aO,Tryz.func84,show Tryz.f84.body.isSome=true from rfl,show ∀ gl tm,cz gl tm (.func 84)=some (.func (.func 84) [] []) from fun _ _=>rfl,GV,h0,h1,h2,h3,h4,↓ao,an,eu,sevalprocAttr]
 simp (maxSteps:=4000000) -implicitDefEqProofs only [c56,Tryz.f56,aP,g0,g1,d8,r5,↓az,↓aO,Tryz.func84,show Tryz.f84.body.isSome=true from rfl,show ∀ gl tm,cz gl tm (.func 84)=some (.func (.func 84) [] []) from fun _ _=>rfl,GV,h0,h1,h2,h3,h4,↓ao,an,eu,sevalprocAttr]
def m4 (x:Itm):Bool:=eqB x.code 0 && eqB x.grid 0 && eqB x.block 0 && eqB x.args.length 0
theorem GW {H:AH} {x:Itm} {va:AV} (ha:SlS 32 1 H va (x.args.map dh)):Ev aa C0 W0 71 [.agg (aU x va)] H=some (.bool (m4 x),H):=by
 obtain ⟨tm,ht,g0,g1⟩:=tm1 (.agg (aU x va)) 22 (by decide)
 rw [YN,ht]
 rw [<-af (ro H)]
 unfold m4
 have hl:∀ G,dR aa 32 G va=some (I x.args.length):=fun G=>by have:=ha.len G; rwa [au] at this
 cases h0:eqB x.code 0
 · simp (maxSteps:=4000000) -implicitDefEqProofs only [c71,Tryz.f71,aP,g0,g1,aU,hl,r5,↓az,h0,↓ao,an,eu,sevalprocAttr]
 cases h1:eqB x.grid 0
 · simp (maxSteps:=4000000) -implicitDefEqProofs only [c71,Tryz.f71,aP,g0,g1,aU,hl,r5,↓az,h0,h1,↓ao,an,eu,sevalprocAttr]
 cases h2:eqB x.block 0
 · simp (maxSteps:=4000000) -implicitDefEqProofs only [c71,Tryz.f71,aP,g0,g1,aU,hl,r5,↓az,h0,h1,h2,↓ao,an,eu,sevalprocAttr]
 simp (maxSteps:=4000000) -implicitDefEqProofs only [c71,Tryz.f71,aP,g0,g1,aU,hl,r5,↓az,h0,h1,h2,↓ao,an,eu,sevalprocAttr]
def cU (nm:ByteArray) (x:Itm) (va:AV):List AV:=[.str nm,I x.grid,I x.block,va]
theorem PL (H:AH) (i k:Nat) (x:AV):stA aa 126 H i k x=if x.cells.length=4 then bp H i k x.cells else none:=by kernel_rfl
theorem jn (H:AH) (i k:Nat):ldA aa 126 H i k=(ak H i k 4).map .agg:=by kernel_rfl
theorem TD:ep aa 126=some (.agg [.str eS,I 0,I 0,.nilSlice]):=by kernel_rfl
theorem Qt {va:AV} (h:va=.nilSlice∨∃ i k es l c e,va=.slice i k es l c e) (a:ByteArray) (b c:Int):kz aa 126 [(0,.str a),(1,I b),(2,I c),(3,va)]=some (.agg [.str a,I b,I c,va]):=by
 rcases h with rfl | ⟨i,k,es,l,c',e,rfl⟩ <;> kernel_rfl
theorem SlS.sh {T es:Nat} {H:AH} {v:AV} {rows:List (List AV)} (h:SlS T es H v rows):v=.nilSlice∨∃ i k es l c e,v=.slice i k es l c e:=by
 rcases h.old with ⟨e,_⟩ | ⟨i,k,c,x,e,_,_⟩
 · exact .inl e
 · exact .inr ⟨i,k,es,_,c,x,e⟩
theorem ef (i k:Nat):aN aa 126 (.ptr i k) 0=some (.ptr i k):=by kernel_rfl
theorem ed (i k:Nat):aN aa 126 (.ptr i k) 1=some (.ptr i (k+1)):=by kernel_rfl
theorem ec (i k:Nat):aN aa 126 (.ptr i k) 2=some (.ptr i (k+2)):=by kernel_rfl
theorem d9 (i k:Nat):aN aa 126 (.ptr i k) 3=some (.ptr i (k+3)):=by kernel_rfl
theorem Z8 {H:AH} {c:Cod} {vp vs vi va:AV} {x:Itm} (h:dO H c vp vs vi) (ha:SlS 32 1 H va (x.args.map dh)):Ev aa C0 W0 65 [.agg (bF c vp vs vi),.agg (aU x va)] H=some (.agg (cU c.name x va),H):=by
 obtain ⟨tm,ht,g0,g1,g2⟩:=tm2 (.agg (bF c vp vs vi)) (.agg (aU x va)) 14 (by decide)
 rw [YT,ht]
 rw [<-af (ro H)]
 unfold cU
 have hb:=Qt ha.sh
 have hf:∀ G,kj true H (.agg [.str c.name,I x.grid,I x.block,va],G)=some (.agg [.str c.name,I x.grid,I x.block,va],H):=fun G=>E3 (by show (true && (true && (true && (ox H va && true))))=true; rw [ha.ox]; rfl)
 rcases ha.sh with rfl | ⟨i,k,es,l,cc,e,rfl⟩ <;>
 simp (maxSteps:=4000000) -implicitDefEqProofs only [c65,Tryz.f65,aP,g0,g1,g2,aU,hb,hf,Yt,TD,PL,jn,r5,↓az,↓ao,an,eu,sevalprocAttr]
theorem Z3 {H:AH} {c:Cod} {vp vs vi va:AV} {x:Itm} (h:dO H c vp vs vi) (ha:SlS 32 1 H va (x.args.map dh)):Ev aa C0 W0 70 [.agg (bF c vp vs vi),.agg (aU x va)] H=some (.agg (cU c.name x va),H):=by
 obtain ⟨tm,ht,g0,g1,g2⟩:=tm2 (.agg (bF c vp vs vi)) (.agg (aU x va)) 14 (by decide)
 rw [YO,ht]
 rw [<-af (ro H)]
 unfold cU
 have hb:=Qt ha.sh
 have hf:∀ G,kj true H (.agg [.str c.name,I x.grid,I x.block,va],G)=some (.agg [.str c.name,I x.grid,I x.block,va],H):=fun G=>E3 (by show (true && (true && (true && (ox H va && true))))=true; rw [ha.ox]; rfl)
 rcases ha.sh with rfl | ⟨i,k,es,l,cc,e,rfl⟩ <;>
 simp (maxSteps:=4000000) -implicitDefEqProofs only [c70,Tryz.f70,aP,g0,g1,g2,aU,hb,hf,Ys,TD,PL,jn,r5,↓az,↓ao,an,eu,sevalprocAttr]
structure cO (H:AH) (cs:List Cod) (v:AV):Prop where
 ex:∃ l:List (Cod × AV × AV × AV),l.map (·.1)=cs/\SlS 22 5 H v (l.map fun p=>bF p.1 p.2.1 p.2.2.1 p.2.2.2)/\∀ p∈l,dO H p.1 p.2.1 p.2.2.1 p.2.2.2
 n:cs.length < 2 ^ 50
structure dc (H:AH) (m:List (List Int)) (v:AV):Prop where
 ex:∃ l:List (List Int × AV),l.map (·.1)=m/\SlS 24 1 H v (l.map fun p=>[p.2])/\∀ p∈l,SlS 32 1 H p.2 (p.1.map dh)
 n:m.length < 2 ^ 50
 nb:∀ b∈m,b.length < 2 ^ 50
 im:∀ b∈m,∀ x∈b,eD x
structure dA (H:AH) (xs:List Itm) (v:AV):Prop where
 ex:∃ l:List (Itm × AV),l.map (·.1)=xs/\SlS 31 9 H v (l.map fun p=>aU p.1 p.2)/\∀ p∈l,SlS 32 1 H p.2 (p.1.args.map dh)
 n:xs.length < 2 ^ 50
 na:∀ x∈xs,x.args.length < 2 ^ 50
 im:∀ x∈xs,∀ a∈x.args,eD a
 iw:∀ x∈xs,eD x.word
structure da (H:AH) (ss:List (List Itm)) (v:AV):Prop where
 ex:∃ l:List (List Itm × AV),l.map (·.1)=ss/\SlS 25 1 H v (l.map fun p=>[p.2])/\∀ p∈l,dA H p.1 p.2
 n:ss.length < 2 ^ 50
theorem cO.aX {H K:AH} {cs:List Cod} {v:AV} (h:cO H cs v) (hA:al H K):cO K cs v:=by
 obtain ⟨⟨l,e,hs,hc⟩,n⟩:=h
 exact ⟨⟨l,e,hs.same hA,fun p hp=>(hc p hp).aX hA⟩,n⟩
theorem cO.ro {H:AH} {cs:List Cod} {v:AV} (h:cO H cs v):cO (ro H) cs v:=by
 obtain ⟨⟨l,e,hs,hc⟩,n⟩:=h
 exact ⟨⟨l,e,hs.ro,fun p hp=>(hc p hp).ro⟩,n⟩
theorem dc.aX {H K:AH} {cs:List (List Int)} {v:AV} (h:dc H cs v) (hA:al H K):dc K cs v:=by
 obtain ⟨⟨l,e,hs,hc⟩,n,nb,im⟩:=h
 exact ⟨⟨l,e,hs.same hA,fun p hp=>(hc p hp).same hA⟩,n,nb,im⟩
theorem dc.ro {H:AH} {cs:List (List Int)} {v:AV} (h:dc H cs v):dc (ro H) cs v:=by
 obtain ⟨⟨l,e,hs,hc⟩,n,nb,im⟩:=h
 exact ⟨⟨l,e,hs.ro,fun p hp=>(hc p hp).ro⟩,n,nb,im⟩
theorem dA.aX {H K:AH} {xs:List Itm} {v:AV} (h:dA H xs v) (hA:al H K):dA K xs v:=by
 obtain ⟨⟨l,e,hs,hc⟩,n,na,im,iw⟩:=h
 exact ⟨⟨l,e,hs.same hA,fun p hp=>(hc p hp).same hA⟩,n,na,im,iw⟩
theorem dA.ro {H:AH} {xs:List Itm} {v:AV} (h:dA H xs v):dA (ro H) xs v:=by
 obtain ⟨⟨l,e,hs,hc⟩,n,na,im,iw⟩:=h
 exact ⟨⟨l,e,hs.ro,fun p hp=>(hc p hp).ro⟩,n,na,im,iw⟩
theorem da.aX {H K:AH} {ss:List (List Itm)} {v:AV} (h:da H ss v) (hA:al H K):da K ss v:=by
 obtain ⟨⟨l,e,hs,hc⟩,n⟩:=h
 exact ⟨⟨l,e,hs.same hA,fun p hp=>(hc p hp).aX hA⟩,n⟩
theorem da.ro {H:AH} {ss:List (List Itm)} {v:AV} (h:da H ss v):da (ro H) ss v:=by
 obtain ⟨⟨l,e,hs,hc⟩,n⟩:=h
 exact ⟨⟨l,e,hs.ro,fun p hp=>(hc p hp).ro⟩,n⟩
theorem cO.len {H:AH} {cs:List Cod} {v:AV} (h:cO H cs v) (G:AH):dR aa 22 G v=some (I cs.length):=by
 obtain ⟨⟨l,rfl,hs,hc⟩,n⟩:=h
 have:=hs.len G; rwa [au] at this ⊢
theorem dc.len {H:AH} {cs:List (List Int)} {v:AV} (h:dc H cs v) (G:AH):dR aa 24 G v=some (I cs.length):=by
 obtain ⟨⟨l,rfl,hs,hc⟩,n,_⟩:=h
 have:=hs.len G; rwa [au] at this ⊢
theorem dA.len {H:AH} {cs:List Itm} {v:AV} (h:dA H cs v) (G:AH):dR aa 31 G v=some (I cs.length):=by
 obtain ⟨⟨l,rfl,hs,hc⟩,n,_⟩:=h
 have:=hs.len G; rwa [au] at this ⊢
theorem da.len {H:AH} {cs:List (List Itm)} {v:AV} (h:da H cs v) (G:AH):dR aa 25 G v=some (I cs.length):=by
 obtain ⟨⟨l,rfl,hs,hc⟩,n⟩:=h
 have:=hs.len G; rwa [au] at this ⊢
def cY (cs:List Cod) (j:Nat):Cod:=cs.getD j ⟨eS,[],[],0,[]⟩
def bG (m:List (List Int)) (j:Nat):List Int:=m.getD j []
def bB (xs:List Itm) (j:Nat):Itm:=xs.getD j ⟨0,0,0,0,0,0,0,[],0⟩
def aR (ss:List (List Itm)) (j:Nat):List Itm:=ss.getD j []
theorem dr {α:Type} {l:List α} {j:Nat} (h:j < l.length) (d:α):l.getD j d=l[j]'h:=by rw [gde,aj h]; rfl
theorem cO.at {H K:AH} {cs:List Cod} {v:AV} (h:cO H cs v) (hA:al H K) {j:Nat} (hj:j < cs.length):∃ i k vp vs vi,(∀ kk,aG aa 22 v (.int kk (j:Int))=some (.ptr i k))/\(∀ L,ak (K++L) i k 5=some (bF (cY cs j) vp vs vi))/\dO H (cY cs j) vp vs vi:=by
 obtain ⟨⟨l,rfl,hs,hc⟩,n⟩:=h
 have hj':j < l.length:=by rwa [au] at hj
 obtain ⟨i,k,hi,hr⟩:=hs.ix j _ (by rw [aI,aj hj']; rfl)
 have e:cY (l.map (·.1)) j=(l[j]'hj').1:=by unfold cY; rw [dr hj,kT]
 rw [e]
 exact ⟨i,k,_,_,_,hi,fun L=>jB hr hA L,hc _ (gC _)⟩
theorem dc.at {H K:AH} {m:List (List Int)} {v:AV} (h:dc H m v) (hA:al H K) {j:Nat} (hj:j < m.length):∃ i k w,(∀ kk,aG aa 24 v (.int kk (j:Int))=some (.ptr i k))/\(∀ L,ak (K++L) i k 1=some [w])/\SlS 32 1 H w ((bG m j).map dh):=by
 obtain ⟨⟨l,rfl,hs,hc⟩,n,_⟩:=h
 have hj':j < l.length:=by rwa [au] at hj
 obtain ⟨i,k,hi,hr⟩:=hs.ix j _ (by rw [aI,aj hj']; rfl)
 have e:bG (l.map (·.1)) j=(l[j]'hj').1:=by unfold bG; rw [dr hj,kT]
 rw [e]
 exact ⟨i,k,_,hi,fun L=>jB hr hA L,hc _ (gC _)⟩
theorem dA.at {H K:AH} {xs:List Itm} {v:AV} (h:dA H xs v) (hA:al H K) {j:Nat} (hj:j < xs.length):∃ i k w,(∀ kk,aG aa 31 v (.int kk (j:Int))=some (.ptr i k))/\(∀ L,ak (K++L) i k 9=some (aU (bB xs j) w))/\SlS 32 1 H w ((bB xs j).args.map dh):=by
 obtain ⟨⟨l,rfl,hs,hc⟩,n,_⟩:=h
 have hj':j < l.length:=by rwa [au] at hj
 obtain ⟨i,k,hi,hr⟩:=hs.ix j _ (by rw [aI,aj hj']; rfl)
 have e:bB (l.map (·.1)) j=(l[j]'hj').1:=by unfold bB; rw [dr hj,kT]
 rw [e]
 exact ⟨i,k,_,hi,fun L=>jB hr hA L,hc _ (gC _)⟩
theorem da.at {H K:AH} {ss:List (List Itm)} {v:AV} (h:da H ss v) (hA:al H K) {j:Nat} (hj:j < ss.length):∃ i k w,(∀ kk,aG aa 25 v (.int kk (j:Int))=some (.ptr i k))/\(∀ L,ak (K++L) i k 1=some [w])/\dA H (aR ss j) w:=by
 obtain ⟨⟨l,rfl,hs,hc⟩,n⟩:=h
 have hj':j < l.length:=by rwa [au] at hj
 obtain ⟨i,k,hi,hr⟩:=hs.ix j _ (by rw [aI,aj hj']; rfl)
 have e:aR (l.map (·.1)) j=(l[j]'hj').1:=by unfold aR; rw [dr hj,kT]
 rw [e]
 exact ⟨i,k,_,hi,fun L=>jB hr hA L,hc _ (gC _)⟩
theorem kn {H:AH} {v:AV} {b:List Int} (h:SlS 32 1 H v (b.map dh)) (G:AH):dR aa 32 G v=some (I b.length):=by
 have:=h.len G; rwa [au] at this
def Sub (S K:AH):Prop:=∀ (i:Nat) (o:bo),S[i]? =some o->o≠bo.dead->K[i]? =some o
def ld (S:AH) (i:Nat):Prop:=S[i]? =none∨S[i]? =some .dead
theorem Sub.refl (S:AH):Sub S S:=fun _ _ h _=>h
theorem Sub.trans {S K M:AH} (h:Sub S K) (k:Sub K M):Sub S M:=fun i o hi ho=>k i o (h i o hi ho) ho
theorem al.sub {S K:AH} (h:al S K):Sub S K:=fun i o hi _=>h.get hi
theorem Sub.aX {S K M:AH} (h:Sub S K) (k:al K M):Sub S M:=h.trans k.sub
theorem Sub.bS {S K:AH} (h:Sub S K) (L:AH):Sub S (K++L):=h.aX (al.app K L)
theorem Sub.tN {S K:AH} (h:Sub S K) {i:Nat} (hi:ld S i) (o:bo):Sub S (K.set i o):=fun j x hj hx=>by
 have:i≠j:=fun e=>by
   subst e
   rcases hi with c | c
   · rw [c] at hj; cases hj
   · rw [c] at hj; cases hj; exact hx rfl
 rw [aB this]; exact h j x hj hx
theorem Sub.kill (S:AH) (i:Nat):Sub (S.set i .dead) S:=fun j o hj ho=>by
 rcases Decidable.em (i=j) with e | e
 · subst e
   rw [List.getElem?_set_self'] at hj
   cases hs:S[i]? with
   | none=>rw [hs] at hj; cases hj
   | some x=>rw [hs] at hj; cases hj; exact absurd rfl ho
 · rw [aB e] at hj; exact hj
theorem uq (S:AH) (i:Nat):ld (S.set i .dead) i:=by
 unfold ld
 rcases Nat.lt_or_ge i S.length with c | c
 · right; rw [List.getElem?_set_self c]
 · left; rw [aT (by rw [List.length_set]; exact c)]
theorem ld.kill {S:AH} {i:Nat} (h:ld S i) (j:Nat):ld (S.set j .dead) i:=by
 rcases Decidable.em (j=i) with e | e
 · subst e; exact uq S j
 · unfold ld; rw [aB e]; exact h
theorem ld.sub {S K:AH} (h:Sub S K) {i:Nat} (hk:ld K i):ld S i:=by
 cases hs:S[i]? with
 | none=>exact .inl hs
 | some o =>
   rcases Classical.em (o=bo.dead) with e | e
   · subst e; exact .inr hs
   · have:=h i o hs e
     rcases hk with c | c
     · rw [c] at this; cases this
     · rw [c] at this; cases this; exact absurd rfl e
theorem s6 {S:AH} {i:Nat} (h:S.length<=i):ld S i:=.inl (aT h)
theorem ld.ne {S:AH} {i j:Nat} {o:bo} (h:ld S i) (hj:S[j]? =some o) (ho:o≠bo.dead):i≠j:=fun e=>by
 subst e
 rcases h with c | c
 · rw [c] at hj; cases hj
 · rw [c] at hj; cases hj; exact ho rfl
theorem Sub.rd {S K:AH} (h:Sub S K) {i k n:Nat} {r:List AV} (hr:ak S i k n=some r):ak K i k n=some r:=by
 unfold ak at hr ⊢
 cases hs:S[i]? with
 | none=>rw [hs] at hr; cases hr
 | some o =>
   rw [hs] at hr
   have hd:o≠bo.dead:=fun e=>by subst e; cases hr
   rw [h i o hs hd]; exact hr
theorem Sub.ok {S K:AH} (h:Sub S K) {i:Nat} (hi:okC S i=true):okC K i=true:=by
 unfold okC at hi ⊢
 cases hs:S[i]? with
 | none=>rw [hs] at hi; cases hi
 | some o =>
   rw [hs] at hi
   have hd:o≠bo.dead:=fun e=>by subst e; cases hi
   rw [h i o hs hd]; exact hi
theorem SlS.sub {T es:Nat} {S K:AH} {v:AV} {rows:List (List AV)} (h:SlS T es S v rows) (hs:Sub S K):SlS T es K v rows:=
 ⟨h.len,fun j x hx=>by obtain ⟨i,k,h1,h2⟩:=h.ix j x hx; exact ⟨i,k,h1,hs.rd h2⟩,h.old.imp id fun ⟨i,k,c,e,h1,h2,h3⟩=>⟨i,k,c,e,h1,hs.ok h2,hs.rd h3⟩⟩
theorem dO.sub {H K:AH} {c:Cod} {vp vs vi:AV} (h:dO H c vp vs vi) (hA:Sub H K):dO K c vp vs vi:={ h with p:=h.p.sub hA,s:=h.s.sub hA,i:=h.i.sub hA }
theorem cO.sub {H K:AH} {cs:List Cod} {v:AV} (h:cO H cs v) (hA:Sub H K):cO K cs v:=by
 obtain ⟨⟨l,e,hs,hc⟩,n⟩:=h
 exact ⟨⟨l,e,hs.sub hA,fun p hp=>(hc p hp).sub hA⟩,n⟩
theorem dc.sub {H K:AH} {cs:List (List Int)} {v:AV} (h:dc H cs v) (hA:Sub H K):dc K cs v:=by
 obtain ⟨⟨l,e,hs,hc⟩,n,nb,im⟩:=h
 exact ⟨⟨l,e,hs.sub hA,fun p hp=>(hc p hp).sub hA⟩,n,nb,im⟩
theorem dA.sub {H K:AH} {xs:List Itm} {v:AV} (h:dA H xs v) (hA:Sub H K):dA K xs v:=by
 obtain ⟨⟨l,e,hs,hc⟩,n,na,im,iw⟩:=h
 exact ⟨⟨l,e,hs.sub hA,fun p hp=>(hc p hp).sub hA⟩,n,na,im,iw⟩
theorem da.sub {H K:AH} {ss:List (List Itm)} {v:AV} (h:da H ss v) (hA:Sub H K):da K ss v:=by
 obtain ⟨⟨l,e,hs,hc⟩,n⟩:=h
 exact ⟨⟨l,e,hs.sub hA,fun p hp=>(hc p hp).sub hA⟩,n⟩
structure IxT (T es:Nat):Prop where
 ln0:∀ G,dR aa T G .nilSlice=some (I 0)
 ln:∀ G i k es l c e,dR aa T G (.slice i k es l c e)=some (I l)
 ia:∀ i k es' l c e kk n,aG aa T (.slice i k es' l c e) (.int kk n)=if 0<=n/\n < l/\es=es' then some (.ptr i (k+n.toNat * es')) else none
theorem dP {α:Type} {es:Nat}:∀ {rows:List (List α)},(∀ r∈rows,r.length=es)->rows.flatten.length=rows.length * es
 | [],_=>by simp
 | r::rows,h=>by
   rw [eZ,ai,dP (rows:=rows) fun x hx=>h x (by simp [hx]),h r (by simp),b6,d3,jk,Nat.add_comm]
theorem BN {α:Type} {es:Nat}:∀ {rows:List (List α)},(∀ r∈rows,r.length=es)->∀ {j:Nat} {r:List α},rows[j]? =some r->(rows.flatten.drop (j * es)).take es=r
 | [],_,_,_,h=>by simp at h
 | x::rows,hr,0,r,h=>by
   simp only [List.getElem?_cons_zero,aS] at h
   subst h
   rw [eZ,Nat.zero_mul,List.drop_zero,List.take_append_of_le_length (by rw [hr x (by simp)]; exact ax _),List.take_of_length_le (by rw [hr x (by simp)]; exact ax _)]
 | x::rows,hr,j+1,r,h=>by
   simp only [List.getElem?_cons_succ] at h
   rw [eZ,List.drop_append,List.drop_of_length_le (by rw [hr x (by simp),d3,jk]; exact Nat.le_add_left _ _),List.nil_append,hr x (by simp),show (j+1) * es - es=j * es by rw [d3,jk,Nat.add_sub_cancel]]
   exact BN (rows:=rows) (fun y hy=>hr y (by simp [hy])) h
theorem m6 {T es:Nat} (X:IxT T es) {H:AH} {i k c:Nat} {e:Bool} {rows:List (List AV)} (hr:∀ r∈rows,r.length=es) (ho:okC H i=true) (h:ak H i k (rows.length * es)=some rows.flatten):SlS T es H (.slice i k es rows.length c e) rows where
 len:=fun G=>X.ln _ _ _ _ _ _ _
 ix:=fun j r hj=>by
   have hjl:=aJ hj
   refine ⟨i,k+j * es,fun kk=>?_,?_⟩
   · rw [X.ia,if_pos ⟨by omega,by omega,rfl⟩]; rfl
   · have hm:(j+1) * es<=rows.length * es:=Nat.mul_le_mul_right _ hjl
     rw [d3,jk] at hm
     rw [zV h (j * es) es hm,BN hr hj]
 old:=.inr ⟨i,k,c,e,rfl,ho,h⟩
theorem kG {T es:Nat} (X:IxT T es) (H:AH):SlS T es H .nilSlice []:=⟨fun G=>X.ln0 G,fun j r h=>by simp at h,.inl ⟨rfl,rfl⟩⟩
theorem Own.nz {T es:Nat} (X:IxT T es) (hes:0 < es) {b:Nat} {H:AH} {elem:TypeId} {v:AV} {rows:List (List AV)} (h:Own b H es elem v rows.flatten) (hr:∀ r∈rows,r.length=es):SlS T es H v rows:=by
 have hlen:=h.length
 rw [dP hr] at hlen
 generalize hxs:rows.flatten=xs at h
 cases h with
 | nil =>
   have:rows=[]:=by
     cases rows with
     | nil=>rfl
     | cons r l =>
       have:=dP hr
       rw [hxs,gj,b6,d3,jk] at this
       omega
   subst this
   exact kG X H
 | «at» i k len cap ex cs xs hb hi hl hc h =>
   rw [cg] at hlen
   have hl2:rows.length=len:=Nat.eq_of_mul_eq_mul_right hes hlen
   subst hl2
   exact m6 X hr (by unfold okC; rw [hi]) (by rw [hxs]; exact h)
theorem SlS.row {T es:Nat} {H:AH} {v:AV} {rows:List (List AV)} (h:SlS T es H v rows):Row H es v rows.flatten:=by
 rcases h.old with ⟨rfl,rfl⟩ | ⟨i,k,c,e,rfl,_,h3⟩
 · exact .nil
 · exact .at _ _ _ _ _ _ h3
theorem SlS.lenOf {T es:Nat} {H:AH} {v:AV} {rows:List (List AV)} (h:SlS T es H v rows):bz v=rows.length:=by
 rcases h.old with ⟨rfl,rfl⟩ | ⟨i,k,c,e,rfl,_,h3⟩ <;> rfl
theorem Own.ge2 {b:Nat} {H:AH} {es:Nat} {elem:TypeId} {v:AV} {xs:List AV} (h:Own b H es elem v xs) {i k e len cap:Nat} {ex:Bool} (hv:v=.slice i k e len cap ex):b<=i/\i < H.length:=by
 cases h with
 | nil=>cases hv
 | «at» i2 k2 len2 cap2 ex2 cs2 xs2 hb2 hi2 hl2 hc2 h2=>cases hv; exact ⟨hb2,aJ hi2⟩
theorem Own.lt {b:Nat} {H:AH} {es:Nat} {elem:TypeId} {v:AV} {xs:List AV} (h:Own b H es elem v xs) {i k e len cap:Nat} {ex:Bool} (hv:v=.slice i k e len cap ex):i < H.length:=(h.ge2 hv).2
theorem Own.up {b b':Nat} {H:AH} {es:Nat} {elem:TypeId} {v:AV} {xs:List AV} (h:Own b H es elem v xs) (hb:b'<=b):Own b' H es elem v xs:=by
 cases h with
 | nil=>exact .nil
 | «at» i k len cap ex cs xs h1 hi hl hc h=>exact .at i k len cap ex cs xs (bc hb h1) hi hl hc h
theorem Own.aX {b:Nat} {H K:AH} {es:Nat} {elem:TypeId} {v:AV} {xs:List AV} (h:Own b H es elem v xs) (hA:al H K):Own b K es elem v xs:=h.other fun i k e len cap ex hv=>hA i (h.lt hv)
theorem Own.cells {b:Nat} {H:AH} {es:Nat} {elem:TypeId} {v:AV} {xs:List AV} (h:Own b H es elem v xs):v.cells=[v]/\v.one=true:=by
 cases h <;> exact ⟨rfl,rfl⟩
theorem Ml {sT elem:TypeId} {xT:Option TypeId} {es:Nat} (T:pW aa sT xT elem es) {G K:AH} {v:AV} {xs:List AV} (hA:al G K) (ho:Own G.length K es elem v xs) {x:AV} {new:List AV} (hx:Row K es x new)
   (hone:new.all AV.one=true) (hg:fR (aa.bytesOf elem) (bz v+bz x)=true) :
   ∃ v' K',gv aa none sT xT v x K=some (v',K')/\al G K'/\Own G.length K' es elem v' (xs++new)/\K.length<=K'.length/\(∀ j,j < K.length->(∀ i k len cap ex,v=.slice i k es len cap ex->j≠i)->K'[j]? =K[j]?):=by
 obtain ⟨v',K',he,hown,hlv,hll,hsame⟩:=r7 T ho hA.len hx hone hg
 refine ⟨v',K',he,fun j hj=>?_,hown,hll,hsame⟩
 rw [hsame j (Nat.lt_of_lt_of_le hj hA.len),hA j hj]
 intro i k len cap ex e
 have:=(ho.ge2 e).1
 omega
theorem yZ:IxT 22 5:=⟨PZ,Se,Vo⟩
theorem E1:IxT 24 1:=⟨UQ,Yh,Vn⟩
theorem BC:IxT 25 1:=⟨UP,Yg,Yq⟩
theorem xu:IxT 30 1:=⟨PY,Yf,Vm⟩
theorem mL:IxT 31 9:=⟨UM,UN,Yp⟩
theorem yY:IxT 32 1:=⟨UL,Ye,Vl⟩
theorem Qb:IxT 62 2:=⟨UK,Yd,Yo⟩
theorem Qa:IxT 63 2:=⟨UJ,Yc,Yn⟩
theorem P9:IxT 64 8:=⟨UI,Yb,Ym⟩
def lj (vc vm vs va:AV) (f:Con) (rc:List Bool) (en:Int):List AV:=[vc,vm]++d8 f++[vs,va]++rc.map AV.bool++[I en]
structure lu (H:AH) (q:Nat) (vc vm vs va:AV) (f:Con) (ss:List (List Itm)) (ad:List Nat) (m:List (List Int)) (rc:List Bool) (en:Int):Prop where
 row:ak H q 0 28=some (lj vc vm vs va f rc en)
 m:dc H m vm
 s:da H ss vs
 a:SlS 30 1 H va (ad.map fun (n:Nat)=>[I (n:Int)])
 la:ad.length=ss.length
 le:∀ i,i < ss.length->ad.getD i 0<=(aR ss i).length
 lr:rc.length=16
 ev:∀ l∈ss,∀ x∈l,(x.kind=3∨x.kind=4)->0<=x.ev/\x.ev < 16
 nn:∃ i k c e,va=.slice i k 1 ad.length c e
 few:(ss.map fU).sum<=24
 fs:ss.length<=4
theorem lu.sub {H K:AH} {q:Nat} {vc vm vs va:AV} {f:Con} {ss:List (List Itm)} {ad:List Nat} {m:List (List Int)} {rc:List Bool} {en:Int} (h:lu H q vc vm vs va f ss ad m rc en) (hA:Sub H K):lu K q vc vm vs va f ss ad m rc en:=
 { h with row:=hA.rd h.row,m:=h.m.sub hA,s:=h.s.sub hA,a:=h.a.sub hA }
theorem lu.aX {H K:AH} {q:Nat} {vc vm vs va:AV} {f:Con} {ss:List (List Itm)} {ad:List Nat} {m:List (List Int)} {rc:List Bool} {en:Int} (h:lu H q vc vm vs va f ss ad m rc en) (hA:al H K):lu K q vc vm vs va f ss ad m rc en:=h.sub hA.sub
theorem lu.ro {H:AH} {q:Nat} {vc vm vs va:AV} {f:Con} {ss:List (List Itm)} {ad:List Nat} {m:List (List Int)} {rc:List Bool} {en:Int} (h:lu H q vc vm vs va f ss ad m rc en):lu (ro H) q vc vm vs va f ss ad m rc en:=
 { h with row:=wN h.row,m:=h.m.ro,s:=h.s.ro,a:=h.a.ro }
theorem lu.cell {H K:AH} {q:Nat} {vc vm vs va:AV} {f:Con} {ss:List (List Itm)} {ad:List Nat} {m:List (List Int)} {rc:List Bool} {en:Int} (h:lu H q vc vm vs va f ss ad m rc en) (hA:al H K) (L:AH) (j:Nat) {x:AV} (hx:(lj vc vm vs va f rc en)[j]? =some x):ak (K++L) q (0+j) 1=some [x]:=ju (hA.bS L) (jU h.row hx)
theorem lu.at {H K:AH} {q:Nat} {vc vm vs va:AV} {f:Con} {ss:List (List Itm)} {ad:List Nat} {m:List (List Int)} {rc:List Bool} {en:Int} (h:lu H q vc vm vs va f ss ad m rc en) (hA:al H K) {j:Nat} (hj:j < ss.length):∃ i k,(∀ kk,aG aa 30 va (.int kk (j:Int))=some (.ptr i k))/\∀ L,ak (K++L) i k 1=some [I (ad.getD j 0:Nat)]:=by
 have hj':j < ad.length:=by rw [h.la]; exact hj
 obtain ⟨i,k,hi,hr⟩:=h.a.ix j _ (by rw [aI,aj hj']; rfl)
 refine ⟨i,k,hi,fun L=>?_⟩
 have:=jB hr hA L
 rwa [gde,aj hj']
theorem Nb {vc vm vs va:AV} {f:Con} {rc:List Bool} {en:Int} (hr:rc.length=16) {e:Nat} (he:e < 16):(lj vc vm vs va f rc en)[11+e]? =some (.bool (rc.getD e false)):=by
 unfold lj d8
 rw [aq (by simp [hr]; omega),aw (by simp)]
 simp only [ai,b6,gj,aI,Nat.reduceAdd,Nat.add_sub_cancel_left]
 rw [aj (by omega),gde,aj (by omega)]; rfl
theorem Ek {vc vm vs va:AV} {f:Con} {rc:List Bool} {en:Int} (hr:rc.length=16):(lj vc vm vs va f rc en)[27]? =some (I en):=by
 unfold lj d8
 rw [aw (by simp [hr])]
 simp [hr]
def okS (ss:List (List Itm)) (ad:List Nat) (rc:List Bool) (s:Nat):Bool:=
 ltB (ad.getD s 0:Nat) ((aR ss s).length:Int) && (!eqB (bB (aR ss s) (ad.getD s 0)).kind 4 || rc.getD (bB (aR ss s) (ad.getD s 0)).ev.toNat false)
def dv (ss:List (List Itm)) (ad:List Nat) (rc:List Bool) (n:Nat):List Nat:=(bn n).filter (okS ss ad rc)
def fh (ss:List (List Itm)) (ad:List Nat) (n:Nat):List Nat:=(bn n).map fun s=>(aR ss s).length - ad.getD s 0
theorem uV (ss:List (List Itm)) (ad:List Nat) (rc:List Bool) (n:Nat):dv ss ad rc (n+1)=if okS ss ad rc n then dv ss ad rc n++[n] else dv ss ad rc n:=by
 unfold dv
 rw [kh,List.filter_append]
 cases h:okS ss ad rc n <;> simp [h]
theorem rS (ss:List (List Itm)) (ad:List Nat) (n:Nat):fh ss ad (n+1)=fh ss ad n++[(aR ss n).length - ad.getD n 0]:=by
 unfold fh
 rw [kh,dX]; rfl
theorem wP (ss:List (List Itm)) (ad:List Nat) (rc:List Bool) (n:Nat):(dv ss ad rc n).length<=n:=by
 unfold dv
 exact bc (List.length_filter_le _ _) (by rw [List.length_range]; exact ax _)
theorem Jm (ss:List (List Itm)) (ad:List Nat):(fh ss ad ss.length).sum<=(ss.map fU).sum:=by
 have h:ss.map fU=(bn ss.length).map fun s=>(aR ss s).length:=by
   refine List.ext_getElem (by simp) fun i h1 h2=>?_
   simp only [kT,List.getElem_range]
   rw [au] at h1
   unfold aR
   rw [gde,aj h1]; rfl
 rw [h]
 unfold fh
 generalize bn ss.length=l
 induction l with
 | nil=>exact ax _
 | cons x l ih=>simp only [List.map_cons,List.sum_cons]; omega
theorem AU (l:List Nat) (j:Nat):(l.take j).sum<=l.sum:=by
 have:=congrArg List.sum (List.take_append_drop j l)
 rw [List.sum_append] at this
 omega
def ints (l:List Nat):List (List AV):=l.map fun (n:Nat)=>[I (n:Int)]
theorem nN (l:List Nat):(ints l).flatten=l.map fun (n:Nat)=>I (n:Int):=pF _ l
theorem pE (l:List Nat):∀ r∈ints l,r.length=1:=by
 intro r hr
 obtain ⟨n,_,rfl⟩:=List.mem_map.1 hr
 rfl
theorem Own.ints {b:Nat} {H:AH} {v:AV} {l:List Nat} (h:Own b H 1 3 v (l.map fun (n:Nat)=>I (n:Int))):SlS 30 1 H v (ints l):=
 Own.nz xu (by decide) (by rw [nN]; exact h) (pE l)
theorem Mh:pW aa 30 (some 30) 3 1:=⟨by kernel_rfl,⟨I 0,by kernel_rfl,by kernel_rfl,by simp [AV.cells]⟩,by kernel_rfl,by kernel_rfl⟩
theorem by3:aa.bytesOf 3=8:=by kernel_rfl
theorem Qq (n:Int) (H:AH):bf aa none 30 1 [(0,I n)] H=some (.slice H.length 0 1 1 1 true,H++[.cells [I n] 3]):=by kernel_rfl
theorem Pz (n:Int) (H L:AH):bf aa none 30 1 [(0,I n)] (H++L)=some (.slice (H.length+L.length) 0 1 1 1 true,H++(L++[.cells [I n] 3])):=by rw [Qq,ai,List.append_assoc]
theorem AK {G K:AH} {v:AV} {l:List Nat} (hA:al G K) (ho:Own G.length K 1 3 v (l.map fun (n:Nat)=>I (n:Int))) (hl:l.length < 2 ^ 30) (n:Nat) :
   ∃ v' K',gv aa none 30 (some 30) v (.slice K.length 0 1 1 1 true) (K++[.cells [I (n:Int)] 3])=some (v',K')/\al G K'/\Own G.length K' 1 3 v' ((l++[n]).map fun (n:Nat)=>I (n:Int))/\K.length<=K'.length/\(∀ j,j < K.length->(∀ i k len cap ex,v=.slice i k 1 len cap ex->j≠i)->K'[j]? =K[j]?):=by
 have hlen:=ho.length
 rw [au,Nat.mul_one] at hlen
 have ho':Own G.length (K++[.cells [I (n:Int)] 3]) 1 3 v (l.map fun (n:Nat)=>I (n:Int)):=ho.aX (al.app _ _)
 have hrow:Row (K++[.cells [I (n:Int)] 3]) 1 (.slice K.length 0 1 1 1 true) [I (n:Int)]:=.at _ _ _ _ _ _ (by rw [gu]; rfl)
 obtain ⟨v',K',he,h1,h2,h3,h4⟩:=Ml Mh (hA.bS _) ho' hrow rfl (by
   rw [by3,<-hlen,cg]; unfold fR; rw [Bool.and_eq_true,decide_eq_true_iff,decide_eq_true_iff]; constructor <;> omega)
 refine ⟨v',K',he,h1,by rw [dX]; exact h2,by rw [ai] at h3; exact bc (Nat.le_add_right _ _) h3,fun j hj hn=>?_⟩
 rw [h4 j (by rw [ai]; exact Nat.lt_add_right _ hj) hn,aq hj]
end Go.Dv
