/- Part 14 of the walks (own work). -/
import Derived.Test.YtilpjnckfkjkbaaGreatDoorT13
open List renaming append_nil→af,flatten_cons→fu,getElem?_append_left→aw,getElem?_append_right→al,getElem?_eq_getElem→aj,getElem?_eq_none→aH,getElem?_map→aM,getElem?_set_ne→aB,getElem_map→k8,getElem_mem→gM,length→gJ,length_append→ai,length_cons→cF,length_map→ar,length_nil→gC,map_append→eg,range→bn,range_succ→iT
open Nat renaming add_mul→ey,le_refl→ax,le_trans→ba,one_mul→ju
open Option.some renaming injEq→aT
open Go.Proofs.Tryz renaming prog→aa
set_option maxRecDepth 100000
set_option maxHeartbeats 4000000
set_option linter.unusedSimpArgs false
set_option linter.unusedVariables false
namespace Go.Dv
open Go.Proofs
attribute [local congr] aF bC aY bB bD
structure Con where
 w:Int
 free:Bool
 cores:Int
 slots:Int
 room:Int
 pol:Int
 lat:Int
structure Itm where
 kind:Int
 code:Int
 grid:Int
 block:Int
 src:Int
 dst:Int
 ev:Int
 args:List Int
 word:Int
def fg (c:Con):List AV:=[I c.w,.bool c.free,I c.cores,I c.slots,I c.room,I c.pol,I c.lat]
def aL (x:Itm) (va:AV):List AV:=[I x.kind,I x.code,I x.grid,I x.block,I x.src,I x.dst,I x.ev,va,.int .i32 x.word]
def rng (n a b:Int):Bool:=leB a n && leB n b
def uV (c:Con):Bool:=rng c.w 1 32 && rng c.cores 1 4 && rng c.slots 1 4 && rng c.room 0 4 && rng c.pol 0 2 && rng c.lat 0 20
def TH (a b:Int):Bool:=rng a 0 2 && rng b 0 20
theorem AT (n l:Int):ltB n (l+1)=leB n l:=by rw [Bool.eq_iff_iff,dm,dn]; omega
def dw (n:Int):List AV:=[.int .i32 n]
theorem HX (n a b:Int) (H:AH):Ev aa C0 W0 84 [I n,I a,I b] H=some (.bool (rng n a b),H):=by
 obtain ⟨tm,ht,g0,g1,g2,g3⟩:=tm3 (I n) (I a) (I b) 15 (by decide)
 rw [abd,ht]
 rw [<-af (ro H)]
 simp (maxSteps:=4000000) +contextual -implicitDefEqProofs only [c84,Tryz.f84,aP,g0,g1,g2,g3,↓ao,an,eu,sevalprocAttr]
 unfold rng
 refine congrArg (fun b=>some (AV.bool b,H)) ?_
 cases leB a n <;>
 cases leB n b <;>
 rfl
theorem acH (a b:Int) (H:AH):Ev aa C0 W0 68 [I a,I b] H=some (.bool (TH a b),H):=by
 obtain ⟨tm,ht,g0,g1,g2⟩:=tm2 (I a) (I b) 19 (by decide)
 rw [abn,ht]
 rw [<-af (ro H)]
 unfold TH rng
 rw [show leB a 2=ltB a 3 from (AT a 2).symm]
 cases h0:leB 0 a <;> cases h1:ltB a 3 <;> cases h2:leB 0 b <;> simp (maxSteps:=4000000) -implicitDefEqProofs only [c68,Tryz.f68,aP,g0,g1,g2,h0,h1,h2,↓ao,an,eu,sevalprocAttr]
theorem ac0 (c:Con) (H:AH):Ev aa C0 W0 38 [.agg (fg c)] H=some (.bool (uV c),H):=by
 obtain ⟨tm,ht,g0,g1⟩:=tm1 (.agg (fg c)) 48 (by decide)
 rw [abK,ht]
 rw [<-af (ro H)]
 unfold uV rng
 cases h0:leB 1 c.w
 · simp (maxSteps:=4000000) -implicitDefEqProofs only [c38,Tryz.f38,aP,g0,g1,fg,r5,↓az,h0,↓ao,an,eu,sevalprocAttr]
 cases h1:leB c.w 32
 · simp (maxSteps:=4000000) -implicitDefEqProofs only [c38,Tryz.f38,aP,g0,g1,fg,r5,↓az,h0,h1,↓ao,an,eu,sevalprocAttr]
 cases h2:leB 1 c.cores
 · simp (maxSteps:=4000000) -implicitDefEqProofs only [c38,Tryz.f38,aP,g0,g1,fg,r5,↓az,h0,h1,h2,↓ao,an,eu,sevalprocAttr]
 cases h3:leB c.cores 4
 · simp (maxSteps:=4000000) -implicitDefEqProofs only [c38,Tryz.f38,aP,g0,g1,fg,r5,↓az,h0,h1,h2,h3,↓ao,an,eu,sevalprocAttr]
 cases h4:leB 1 c.slots
 · simp (maxSteps:=4000000) -implicitDefEqProofs only [c38,Tryz.f38,aP,g0,g1,fg,r5,↓az,h0,h1,h2,h3,h4,↓ao,an,eu,sevalprocAttr]
 cases h5:leB c.slots 4
 · simp (maxSteps:=4000000) -implicitDefEqProofs only [c38,Tryz.f38,aP,g0,g1,fg,r5,↓az,h0,h1,h2,h3,h4,h5,↓ao,an,eu,sevalprocAttr]
 cases h6:leB 0 c.room
 · simp (maxSteps:=4000000) -implicitDefEqProofs only [c38,Tryz.f38,aP,g0,g1,fg,r5,↓az,h0,h1,h2,h3,h4,h5,h6,↓ao,an,eu,sevalprocAttr]
 cases h7:leB c.room 4
 · simp (maxSteps:=4000000) -implicitDefEqProofs only [c38,Tryz.f38,aP,g0,g1,fg,r5,↓az,h0,h1,h2,h3,h4,h5,h6,h7,↓ao,an,eu,sevalprocAttr]
 simp (maxSteps:=4000000) -implicitDefEqProofs only [c38,Tryz.f38,aP,g0,g1,fg,r5,↓az,h0,h1,h2,h3,h4,h5,h6,h7,↓ab7,acH,TH,rng,↓ao,an,eu,sevalprocAttr]
theorem acR (c:Con) (H:AH):Ev aa C0 W0 56 [.agg (fg c)] H=some (.bool (uV c),H):=by
 obtain ⟨tm,ht,g0,g1⟩:=tm1 (.agg (fg c)) 38 (by decide)
 rw [aby,ht]
 rw [<-af (ro H)]
 unfold uV
 cases h0:rng c.w 1 32
 · simp (maxSteps:=4000000) -implicitDefEqProofs only [c56,Tryz.f56,aP,g0,g1,fg,r5,↓az,↓aR,Tryz.func84,show Tryz.f84.body.isSome=true from rfl,show ∀ gl tm,cP gl tm (.func 84)=some (.func (.func 84) [] []) from fun _ _=>rfl,HX,h0,↓ao,an,eu,sevalprocAttr]
 cases h1:rng c.cores 1 4
 · simp (maxSteps:=4000000) -implicitDefEqProofs only [c56,Tryz.f56,aP,g0,g1,fg,r5,↓az,↓aR,Tryz.func84,show Tryz.f84.body.isSome=true from rfl,show ∀ gl tm,cP gl tm (.func 84)=some (.func (.func 84) [] []) from fun _ _=>rfl,HX,h0,h1,↓ao,an,eu,sevalprocAttr]
 cases h2:rng c.slots 1 4
 · simp (maxSteps:=4000000) -implicitDefEqProofs only [c56,Tryz.f56,aP,g0,g1,fg,r5,↓az,↓aR,Tryz.func84,show Tryz.f84.body.isSome=true from rfl,show ∀ gl tm,cP gl tm (.func 84)=some (.func (.func 84) [] []) from fun _ _=>rfl,HX,h0,h1,h2,↓ao,an,eu,sevalprocAttr]
 cases h3:rng c.room 0 4
 · simp (maxSteps:=4000000) -implicitDefEqProofs only [c56,Tryz.f56,aP,g0,g1,fg,r5,↓az,↓aR,Tryz.func84,show Tryz.f84.body.isSome=true from rfl,show ∀ gl tm,cP gl tm (.func 84)=some (.func (.func 84) [] []) from fun _ _=>rfl,HX,h0,h1,h2,h3,↓ao,an,eu,sevalprocAttr]
 cases h4:rng c.pol 0 2
 · simp (maxSteps:=4000000) -implicitDefEqProofs only [c56,Tryz.f56,aP,g0,g1,fg,r5,↓az,↓aR,Tryz.func84,show Tryz.f84.body.isSome=true from rfl,show ∀ gl tm,cP gl tm (.func 84)=some (.func (.func 84) [] []) from fun _ _=>rfl,HX,h0,h1,h2,h3,h4,↓ao,an,eu,sevalprocAttr]
 simp (maxSteps:=4000000) -implicitDefEqProofs only [c56,Tryz.f56,aP,g0,g1,fg,r5,↓az,↓aR,Tryz.func84,show Tryz.f84.body.isSome=true from rfl,show ∀ gl tm,cP gl tm (.func 84)=some (.func (.func 84) [] []) from fun _ _=>rfl,HX,h0,h1,h2,h3,h4,↓ao,an,eu,sevalprocAttr]
def nx (x:Itm):Bool:=eqB x.code 0 && eqB x.grid 0 && eqB x.block 0 && eqB x.args.length 0
theorem HY {H:AH} {x:Itm} {va:AV} (ha:SlS 32 1 H va (x.args.map dw)):Ev aa C0 W0 71 [.agg (aL x va)] H=some (.bool (nx x),H):=by
 obtain ⟨tm,ht,g0,g1⟩:=tm1 (.agg (aL x va)) 22 (by decide)
 rw [abk,ht]
 rw [<-af (ro H)]
 unfold nx
 have hl:∀ G,dQ aa 32 G va=some (I x.args.length):=fun G=>by have:=ha.len G; rwa [ar] at this
 cases h0:eqB x.code 0
 · simp (maxSteps:=4000000) -implicitDefEqProofs only [c71,Tryz.f71,aP,g0,g1,aL,hl,r5,↓az,h0,↓ao,an,eu,sevalprocAttr]
 cases h1:eqB x.grid 0
 · simp (maxSteps:=4000000) -implicitDefEqProofs only [c71,Tryz.f71,aP,g0,g1,aL,hl,r5,↓az,h0,h1,↓ao,an,eu,sevalprocAttr]
 cases h2:eqB x.block 0
 · simp (maxSteps:=4000000) -implicitDefEqProofs only [c71,Tryz.f71,aP,g0,g1,aL,hl,r5,↓az,h0,h1,h2,↓ao,an,eu,sevalprocAttr]
 simp (maxSteps:=4000000) -implicitDefEqProofs only [c71,Tryz.f71,aP,g0,g1,aL,hl,r5,↓az,h0,h1,h2,↓ao,an,eu,sevalprocAttr]
def dq (nm:ByteArray) (x:Itm) (va:AV):List AV:=[.str nm,I x.grid,I x.block,va]
theorem QR (H:AH) (i k:Nat) (x:AV):stA aa 126 H i k x=if x.cells.length=4 then bh H i k x.cells else none:=by kernel_rfl
theorem jw (H:AH) (i k:Nat):ldA aa 126 H i k=(ak H i k 4).map .agg:=by kernel_rfl
theorem VL:dP aa 126=some (.agg [.str eS,I 0,I 0,.nilSlice]):=by kernel_rfl
theorem Sv {va:AV} (h:va=.nilSlice∨∃ i k es l c e,va=.slice i k es l c e) (a:ByteArray) (b c:Int):jt aa 126 [(0,.str a),(1,I b),(2,I c),(3,va)]=some (.agg [.str a,I b,I c,va]):=by
 rcases h with rfl | ⟨i,k,es,l,c',e,rfl⟩ <;> kernel_rfl
theorem SlS.sh {T es:Nat} {H:AH} {v:AV} {rows:List (List AV)} (h:SlS T es H v rows):v=.nilSlice∨∃ i k es l c e,v=.slice i k es l c e:=by
 rcases h.old with ⟨e,_⟩ | ⟨i,k,c,x,e,_,_⟩
 · exact .inl e
 · exact .inr ⟨i,k,es,_,c,x,e⟩
theorem eF (i k:Nat):aN aa 126 (.ptr i k) 0=some (.ptr i k):=by kernel_rfl
theorem eE (i k:Nat):aN aa 126 (.ptr i k) 1=some (.ptr i (k+1)):=by kernel_rfl
theorem eD (i k:Nat):aN aa 126 (.ptr i k) 2=some (.ptr i (k+2)):=by kernel_rfl
theorem eC (i k:Nat):aN aa 126 (.ptr i k) 3=some (.ptr i (k+3)):=by kernel_rfl
theorem acK {H:AH} {c:Cod} {vp vs vi va:AV} {x:Itm} (h:eO H c vp vs vi) (ha:SlS 32 1 H va (x.args.map dw)):Ev aa C0 W0 65 [.agg (bI c vp vs vi),.agg (aL x va)] H=some (.agg (dq c.name x va),H):=by
 obtain ⟨tm,ht,g0,g1,g2⟩:=tm2 (.agg (bI c vp vs vi)) (.agg (aL x va)) 14 (by decide)
 rw [abq,ht]
 rw [<-af (ro H)]
 unfold dq
 have hb:=Sv ha.sh
 have hf:∀ G,kF true H (.agg [.str c.name,I x.grid,I x.block,va],G)=some (.agg [.str c.name,I x.grid,I x.block,va],H):=fun G=>FT (by show (true && (true && (true && (oG H va && true))))=true; rw [ha.oG]; rfl)
 rcases ha.sh with rfl | ⟨i,k,es,l,cc,e,rfl⟩ <;>
 simp (maxSteps:=4000000) -implicitDefEqProofs only [c65,Tryz.f65,aP,g0,g1,g2,aL,hb,hf,aaZ,VL,QR,jw,r5,↓az,↓ao,an,eu,sevalprocAttr]
theorem acF {H:AH} {c:Cod} {vp vs vi va:AV} {x:Itm} (h:eO H c vp vs vi) (ha:SlS 32 1 H va (x.args.map dw)):Ev aa C0 W0 70 [.agg (bI c vp vs vi),.agg (aL x va)] H=some (.agg (dq c.name x va),H):=by
 obtain ⟨tm,ht,g0,g1,g2⟩:=tm2 (.agg (bI c vp vs vi)) (.agg (aL x va)) 14 (by decide)
 rw [abl,ht]
 rw [<-af (ro H)]
 unfold dq
 have hb:=Sv ha.sh
 have hf:∀ G,kF true H (.agg [.str c.name,I x.grid,I x.block,va],G)=some (.agg [.str c.name,I x.grid,I x.block,va],H):=fun G=>FT (by show (true && (true && (true && (oG H va && true))))=true; rw [ha.oG]; rfl)
 rcases ha.sh with rfl | ⟨i,k,es,l,cc,e,rfl⟩ <;>
 simp (maxSteps:=4000000) -implicitDefEqProofs only [c70,Tryz.f70,aP,g0,g1,g2,aL,hb,hf,aaY,VL,QR,jw,r5,↓az,↓ao,an,eu,sevalprocAttr]
structure dk (H:AH) (cs:List Cod) (v:AV):Prop where
 ex:∃ l:List (Cod × AV × AV × AV),l.map (·.1)=cs/\SlS 22 5 H v (l.map fun p=>bI p.1 p.2.1 p.2.2.1 p.2.2.2)/\∀ p∈l,eO H p.1 p.2.1 p.2.2.1 p.2.2.2
 n:cs.length < 2 ^ 50
structure dZ (H:AH) (m:List (List Int)) (v:AV):Prop where
 ex:∃ l:List (List Int × AV),l.map (·.1)=m/\SlS 24 1 H v (l.map fun p=>[p.2])/\∀ p∈l,SlS 32 1 H p.2 (p.1.map dw)
 n:m.length < 2 ^ 50
 nb:∀ b∈m,b.length < 2 ^ 50
 im:∀ b∈m,∀ x∈b,e9 x
structure dY (H:AH) (xs:List Itm) (v:AV):Prop where
 ex:∃ l:List (Itm × AV),l.map (·.1)=xs/\SlS 31 9 H v (l.map fun p=>aL p.1 p.2)/\∀ p∈l,SlS 32 1 H p.2 (p.1.args.map dw)
 n:xs.length < 2 ^ 50
 na:∀ x∈xs,x.args.length < 2 ^ 50
 im:∀ x∈xs,∀ a∈x.args,e9 a
 iw:∀ x∈xs,e9 x.word
structure dy (H:AH) (ss:List (List Itm)) (v:AV):Prop where
 ex:∃ l:List (List Itm × AV),l.map (·.1)=ss/\SlS 25 1 H v (l.map fun p=>[p.2])/\∀ p∈l,dY H p.1 p.2
 n:ss.length < 2 ^ 50
theorem dk.bg {H K:AH} {cs:List Cod} {v:AV} (h:dk H cs v) (hA:au H K):dk K cs v:=by
 obtain ⟨⟨l,e,hs,hc⟩,n⟩:=h
 exact ⟨⟨l,e,hs.same hA,fun p hp=>(hc p hp).bg hA⟩,n⟩
theorem dk.ro {H:AH} {cs:List Cod} {v:AV} (h:dk H cs v):dk (ro H) cs v:=by
 obtain ⟨⟨l,e,hs,hc⟩,n⟩:=h
 exact ⟨⟨l,e,hs.ro,fun p hp=>(hc p hp).ro⟩,n⟩
theorem dZ.bg {H K:AH} {cs:List (List Int)} {v:AV} (h:dZ H cs v) (hA:au H K):dZ K cs v:=by
 obtain ⟨⟨l,e,hs,hc⟩,n,nb,im⟩:=h
 exact ⟨⟨l,e,hs.same hA,fun p hp=>(hc p hp).same hA⟩,n,nb,im⟩
theorem dZ.ro {H:AH} {cs:List (List Int)} {v:AV} (h:dZ H cs v):dZ (ro H) cs v:=by
 obtain ⟨⟨l,e,hs,hc⟩,n,nb,im⟩:=h
 exact ⟨⟨l,e,hs.ro,fun p hp=>(hc p hp).ro⟩,n,nb,im⟩
theorem dY.bg {H K:AH} {xs:List Itm} {v:AV} (h:dY H xs v) (hA:au H K):dY K xs v:=by
 obtain ⟨⟨l,e,hs,hc⟩,n,na,im,iw⟩:=h
 exact ⟨⟨l,e,hs.same hA,fun p hp=>(hc p hp).same hA⟩,n,na,im,iw⟩
theorem dY.ro {H:AH} {xs:List Itm} {v:AV} (h:dY H xs v):dY (ro H) xs v:=by
 obtain ⟨⟨l,e,hs,hc⟩,n,na,im,iw⟩:=h
 exact ⟨⟨l,e,hs.ro,fun p hp=>(hc p hp).ro⟩,n,na,im,iw⟩
theorem dy.bg {H K:AH} {ss:List (List Itm)} {v:AV} (h:dy H ss v) (hA:au H K):dy K ss v:=by
 obtain ⟨⟨l,e,hs,hc⟩,n⟩:=h
 exact ⟨⟨l,e,hs.same hA,fun p hp=>(hc p hp).bg hA⟩,n⟩
theorem dy.ro {H:AH} {ss:List (List Itm)} {v:AV} (h:dy H ss v):dy (ro H) ss v:=by
 obtain ⟨⟨l,e,hs,hc⟩,n⟩:=h
 exact ⟨⟨l,e,hs.ro,fun p hp=>(hc p hp).ro⟩,n⟩
theorem dk.len {H:AH} {cs:List Cod} {v:AV} (h:dk H cs v) (G:AH):dQ aa 22 G v=some (I cs.length):=by
 obtain ⟨⟨l,rfl,hs,hc⟩,n⟩:=h
 have:=hs.len G; rwa [ar] at this ⊢
theorem dZ.len {H:AH} {cs:List (List Int)} {v:AV} (h:dZ H cs v) (G:AH):dQ aa 24 G v=some (I cs.length):=by
 obtain ⟨⟨l,rfl,hs,hc⟩,n,_⟩:=h
 have:=hs.len G; rwa [ar] at this ⊢
theorem dY.len {H:AH} {cs:List Itm} {v:AV} (h:dY H cs v) (G:AH):dQ aa 31 G v=some (I cs.length):=by
 obtain ⟨⟨l,rfl,hs,hc⟩,n,_⟩:=h
 have:=hs.len G; rwa [ar] at this ⊢
theorem dy.len {H:AH} {cs:List (List Itm)} {v:AV} (h:dy H cs v) (G:AH):dQ aa 25 G v=some (I cs.length):=by
 obtain ⟨⟨l,rfl,hs,hc⟩,n⟩:=h
 have:=hs.len G; rwa [ar] at this ⊢
def cT (cs:List Cod) (j:Nat):Cod:=cs.getD j ⟨eS,[],[],0,[]⟩
def bN (m:List (List Int)) (j:Nat):List Int:=m.getD j []
def bz (xs:List Itm) (j:Nat):Itm:=xs.getD j ⟨0,0,0,0,0,0,0,[],0⟩
def aW (ss:List (List Itm)) (j:Nat):List Itm:=ss.getD j []
theorem dU {α:Type} {l:List α} {j:Nat} (h:j < l.length) (d:α):l.getD j d=l[j]'h:=by rw [gde,aj h]; rfl
theorem dk.at {H K:AH} {cs:List Cod} {v:AV} (h:dk H cs v) (hA:au H K) {j:Nat} (hj:j < cs.length):∃ i k vp vs vi,(∀ kk,aD aa 22 v (.int kk (j:Int))=some (.ptr i k))/\(∀ L,ak (K++L) i k 5=some (bI (cT cs j) vp vs vi))/\eO H (cT cs j) vp vs vi:=by
 obtain ⟨⟨l,rfl,hs,hc⟩,n⟩:=h
 have hj':j < l.length:=by rwa [ar] at hj
 obtain ⟨i,k,hi,hr⟩:=hs.ix j _ (by rw [aM,aj hj']; rfl)
 have e:cT (l.map (·.1)) j=(l[j]'hj').1:=by unfold cT; rw [dU hj,k8]
 rw [e]
 exact ⟨i,k,_,_,_,hi,fun L=>iZ hr hA L,hc _ (gM _)⟩
theorem dZ.at {H K:AH} {m:List (List Int)} {v:AV} (h:dZ H m v) (hA:au H K) {j:Nat} (hj:j < m.length):∃ i k w,(∀ kk,aD aa 24 v (.int kk (j:Int))=some (.ptr i k))/\(∀ L,ak (K++L) i k 1=some [w])/\SlS 32 1 H w ((bN m j).map dw):=by
 obtain ⟨⟨l,rfl,hs,hc⟩,n,_⟩:=h
 have hj':j < l.length:=by rwa [ar] at hj
 obtain ⟨i,k,hi,hr⟩:=hs.ix j _ (by rw [aM,aj hj']; rfl)
 have e:bN (l.map (·.1)) j=(l[j]'hj').1:=by unfold bN; rw [dU hj,k8]
 rw [e]
 exact ⟨i,k,_,hi,fun L=>iZ hr hA L,hc _ (gM _)⟩
theorem dY.at {H K:AH} {xs:List Itm} {v:AV} (h:dY H xs v) (hA:au H K) {j:Nat} (hj:j < xs.length):∃ i k w,(∀ kk,aD aa 31 v (.int kk (j:Int))=some (.ptr i k))/\(∀ L,ak (K++L) i k 9=some (aL (bz xs j) w))/\SlS 32 1 H w ((bz xs j).args.map dw):=by
 obtain ⟨⟨l,rfl,hs,hc⟩,n,_⟩:=h
 have hj':j < l.length:=by rwa [ar] at hj
 obtain ⟨i,k,hi,hr⟩:=hs.ix j _ (by rw [aM,aj hj']; rfl)
 have e:bz (l.map (·.1)) j=(l[j]'hj').1:=by unfold bz; rw [dU hj,k8]
 rw [e]
 exact ⟨i,k,_,hi,fun L=>iZ hr hA L,hc _ (gM _)⟩
theorem dy.at {H K:AH} {ss:List (List Itm)} {v:AV} (h:dy H ss v) (hA:au H K) {j:Nat} (hj:j < ss.length):∃ i k w,(∀ kk,aD aa 25 v (.int kk (j:Int))=some (.ptr i k))/\(∀ L,ak (K++L) i k 1=some [w])/\dY H (aW ss j) w:=by
 obtain ⟨⟨l,rfl,hs,hc⟩,n⟩:=h
 have hj':j < l.length:=by rwa [ar] at hj
 obtain ⟨i,k,hi,hr⟩:=hs.ix j _ (by rw [aM,aj hj']; rfl)
 have e:aW (l.map (·.1)) j=(l[j]'hj').1:=by unfold aW; rw [dU hj,k8]
 rw [e]
 exact ⟨i,k,_,hi,fun L=>iZ hr hA L,hc _ (gM _)⟩
theorem kI {H:AH} {v:AV} {b:List Int} (h:SlS 32 1 H v (b.map dw)) (G:AH):dQ aa 32 G v=some (I b.length):=by
 have:=h.len G; rwa [ar] at this
def Sub (S K:AH):Prop:=∀ (i:Nat) (o:bl),S[i]? =some o->o≠bl.dead->K[i]? =some o
def lB (S:AH) (i:Nat):Prop:=S[i]? =none∨S[i]? =some .dead
theorem Sub.refl (S:AH):Sub S S:=fun _ _ h _=>h
theorem Sub.trans {S K M:AH} (h:Sub S K) (k:Sub K M):Sub S M:=fun i o hi ho=>k i o (h i o hi ho) ho
theorem au.sub {S K:AH} (h:au S K):Sub S K:=fun i o hi _=>h.get hi
theorem Sub.bg {S K M:AH} (h:Sub S K) (k:au K M):Sub S M:=h.trans k.sub
theorem Sub.bS {S K:AH} (h:Sub S K) (L:AH):Sub S (K++L):=h.bg (au.app K L)
theorem Sub.pC {S K:AH} (h:Sub S K) {i:Nat} (hi:lB S i) (o:bl):Sub S (K.set i o):=fun j x hj hx=>by
 have:i≠j:=fun e=>by
   subst e
   rcases hi with c | c
   · rw [c] at hj; cases hj
   · rw [c] at hj; cases hj; exact hx rfl
 rw [aB this]; exact h j x hj hx
theorem Sub.kill (S:AH) (i:Nat):Sub (S.set i .dead) S:=fun j o hj ho=>by
 rcases Decidable.em (i=j) with e | e
 · subst e
   rw [List.getElem?_set_self'] at hj
   cases hs:S[i]? with
   | none=>rw [hs] at hj; cases hj
   | some x=>rw [hs] at hj; cases hj; exact absurd rfl ho
 · rw [aB e] at hj; exact hj
theorem uO (S:AH) (i:Nat):lB (S.set i .dead) i:=by
 unfold lB
 rcases Nat.lt_or_ge i S.length with c | c
 · right; rw [List.getElem?_set_self c]
 · left; rw [aH (by rw [List.length_set]; exact c)]
theorem lB.kill {S:AH} {i:Nat} (h:lB S i) (j:Nat):lB (S.set j .dead) i:=by
 rcases Decidable.em (j=i) with e | e
 · subst e; exact uO S j
 · unfold lB; rw [aB e]; exact h
theorem lB.sub {S K:AH} (h:Sub S K) {i:Nat} (hk:lB K i):lB S i:=by
 cases hs:S[i]? with
 | none=>exact .inl hs
 | some o =>
   rcases Classical.em (o=bl.dead) with e | e
   · subst e; exact .inr hs
   · have:=h i o hs e
     rcases hk with c | c
     · rw [c] at this; cases this
     · rw [c] at this; cases this; exact absurd rfl e
theorem tA {S:AH} {i:Nat} (h:S.length<=i):lB S i:=.inl (aH h)
theorem lB.ne {S:AH} {i j:Nat} {o:bl} (h:lB S i) (hj:S[j]? =some o) (ho:o≠bl.dead):i≠j:=fun e=>by
 subst e
 rcases h with c | c
 · rw [c] at hj; cases hj
 · rw [c] at hj; cases hj; exact ho rfl
theorem Sub.rd {S K:AH} (h:Sub S K) {i k n:Nat} {r:List AV} (hr:ak S i k n=some r):ak K i k n=some r:=by
 unfold ak at hr ⊢
 cases hs:S[i]? with
 | none=>rw [hs] at hr; cases hr
 | some o =>
   rw [hs] at hr
   have hd:o≠bl.dead:=fun e=>by subst e; cases hr
   rw [h i o hs hd]; exact hr
theorem Sub.ok {S K:AH} (h:Sub S K) {i:Nat} (hi:okC S i=true):okC K i=true:=by
 unfold okC at hi ⊢
 cases hs:S[i]? with
 | none=>rw [hs] at hi; cases hi
 | some o =>
   rw [hs] at hi
   have hd:o≠bl.dead:=fun e=>by subst e; cases hi
   rw [h i o hs hd]; exact hi
theorem SlS.sub {T es:Nat} {S K:AH} {v:AV} {rows:List (List AV)} (h:SlS T es S v rows) (hs:Sub S K):SlS T es K v rows:=
 ⟨h.len,fun j x hx=>by obtain ⟨i,k,h1,h2⟩:=h.ix j x hx; exact ⟨i,k,h1,hs.rd h2⟩,h.old.imp id fun ⟨i,k,c,e,h1,h2,h3⟩=>⟨i,k,c,e,h1,hs.ok h2,hs.rd h3⟩⟩
theorem eO.sub {H K:AH} {c:Cod} {vp vs vi:AV} (h:eO H c vp vs vi) (hA:Sub H K):eO K c vp vs vi:={ h with p:=h.p.sub hA,s:=h.s.sub hA,i:=h.i.sub hA }
theorem dk.sub {H K:AH} {cs:List Cod} {v:AV} (h:dk H cs v) (hA:Sub H K):dk K cs v:=by
 obtain ⟨⟨l,e,hs,hc⟩,n⟩:=h
 exact ⟨⟨l,e,hs.sub hA,fun p hp=>(hc p hp).sub hA⟩,n⟩
theorem dZ.sub {H K:AH} {cs:List (List Int)} {v:AV} (h:dZ H cs v) (hA:Sub H K):dZ K cs v:=by
 obtain ⟨⟨l,e,hs,hc⟩,n,nb,im⟩:=h
 exact ⟨⟨l,e,hs.sub hA,fun p hp=>(hc p hp).sub hA⟩,n,nb,im⟩
theorem dY.sub {H K:AH} {xs:List Itm} {v:AV} (h:dY H xs v) (hA:Sub H K):dY K xs v:=by
 obtain ⟨⟨l,e,hs,hc⟩,n,na,im,iw⟩:=h
 exact ⟨⟨l,e,hs.sub hA,fun p hp=>(hc p hp).sub hA⟩,n,na,im,iw⟩
theorem dy.sub {H K:AH} {ss:List (List Itm)} {v:AV} (h:dy H ss v) (hA:Sub H K):dy K ss v:=by
 obtain ⟨⟨l,e,hs,hc⟩,n⟩:=h
 exact ⟨⟨l,e,hs.sub hA,fun p hp=>(hc p hp).sub hA⟩,n⟩
structure IxT (T es:Nat):Prop where
 ln0:∀ G,dQ aa T G .nilSlice=some (I 0)
 ln:∀ G i k es l c e,dQ aa T G (.slice i k es l c e)=some (I l)
 ia:∀ i k es' l c e kk n,aD aa T (.slice i k es' l c e) (.int kk n)=if 0<=n/\n < l/\es=es' then some (.ptr i (k+n.toNat * es')) else none
theorem dM {α:Type} {es:Nat}:∀ {rows:List (List α)},(∀ r∈rows,r.length=es)->rows.flatten.length=rows.length * es
 | [],_=>by simp
 | r::rows,h=>by
   rw [fu,ai,dM (rows:=rows) fun x hx=>h x (by simp [hx]),h r (by simp),cF,ey,ju,Nat.add_comm]
theorem Cv {α:Type} {es:Nat}:∀ {rows:List (List α)},(∀ r∈rows,r.length=es)->∀ {j:Nat} {r:List α},rows[j]? =some r->(rows.flatten.drop (j * es)).take es=r
 | [],_,_,_,h=>by simp at h
 | x::rows,hr,0,r,h=>by
   simp only [List.getElem?_cons_zero,aT] at h
   subst h
   rw [fu,Nat.zero_mul,List.drop_zero,List.take_append_of_le_length (by rw [hr x (by simp)]; exact ax _),List.take_of_length_le (by rw [hr x (by simp)]; exact ax _)]
 | x::rows,hr,j+1,r,h=>by
   simp only [List.getElem?_cons_succ] at h
   rw [fu,List.drop_append,List.drop_of_length_le (by rw [hr x (by simp),ey,ju]; exact Nat.le_add_left _ _),List.nil_append,hr x (by simp),show (j+1) * es - es=j * es by rw [ey,ju,Nat.add_sub_cancel]]
   exact Cv (rows:=rows) (fun y hy=>hr y (by simp [hy])) h
theorem nA {T es:Nat} (X:IxT T es) {H:AH} {i k c:Nat} {e:Bool} {rows:List (List AV)} (hr:∀ r∈rows,r.length=es) (ho:okC H i=true) (h:ak H i k (rows.length * es)=some rows.flatten):SlS T es H (.slice i k es rows.length c e) rows where
 len:=fun G=>X.ln _ _ _ _ _ _ _
 ix:=fun j r hj=>by
   have hjl:=aJ hj
   refine ⟨i,k+j * es,fun kk=>?_,?_⟩
   · rw [X.ia,if_pos ⟨by omega,by omega,rfl⟩]; rfl
   · have hm:(j+1) * es<=rows.length * es:=Nat.mul_le_mul_right _ hjl
     rw [ey,ju] at hm
     rw [AL h (j * es) es hm,Cv hr hj]
 old:=.inr ⟨i,k,c,e,rfl,ho,h⟩
theorem kS {T es:Nat} (X:IxT T es) (H:AH):SlS T es H .nilSlice []:=⟨fun G=>X.ln0 G,fun j r h=>by simp at h,.inl ⟨rfl,rfl⟩⟩
theorem Own.nB {T es:Nat} (X:IxT T es) (hes:0 < es) {b:Nat} {H:AH} {elem:TypeId} {v:AV} {rows:List (List AV)} (h:Own b H es elem v rows.flatten) (hr:∀ r∈rows,r.length=es):SlS T es H v rows:=by
 have hlen:=h.length
 rw [dM hr] at hlen
 generalize hxs:rows.flatten=xs at h
 cases h with
 | nil =>
   have:rows=[]:=by
     cases rows with
     | nil=>rfl
     | cons r l =>
       have:=dM hr
       rw [hxs,gC,cF,ey,ju] at this
       omega
   subst this
   exact kS X H
 | «at» i k len cap ex cs xs hb hi hl hc h =>
   rw [cj] at hlen
   have hl2:rows.length=len:=Nat.eq_of_mul_eq_mul_right hes hlen
   subst hl2
   exact nA X hr (by unfold okC; rw [hi]) (by rw [hxs]; exact h)
theorem SlS.row {T es:Nat} {H:AH} {v:AV} {rows:List (List AV)} (h:SlS T es H v rows):Row H es v rows.flatten:=by
 rcases h.old with ⟨rfl,rfl⟩ | ⟨i,k,c,e,rfl,_,h3⟩
 · exact .nil
 · exact .at _ _ _ _ _ _ h3
theorem SlS.lenOf {T es:Nat} {H:AH} {v:AV} {rows:List (List AV)} (h:SlS T es H v rows):bA v=rows.length:=by
 rcases h.old with ⟨rfl,rfl⟩ | ⟨i,k,c,e,rfl,_,h3⟩ <;> rfl
theorem Own.ge2 {b:Nat} {H:AH} {es:Nat} {elem:TypeId} {v:AV} {xs:List AV} (h:Own b H es elem v xs) {i k e len cap:Nat} {ex:Bool} (hv:v=.slice i k e len cap ex):b<=i/\i < H.length:=by
 cases h with
 | nil=>cases hv
 | «at» i2 k2 len2 cap2 ex2 cs2 xs2 hb2 hi2 hl2 hc2 h2=>cases hv; exact ⟨hb2,aJ hi2⟩
theorem Own.lt {b:Nat} {H:AH} {es:Nat} {elem:TypeId} {v:AV} {xs:List AV} (h:Own b H es elem v xs) {i k e len cap:Nat} {ex:Bool} (hv:v=.slice i k e len cap ex):i < H.length:=(h.ge2 hv).2
theorem Own.up {b b':Nat} {H:AH} {es:Nat} {elem:TypeId} {v:AV} {xs:List AV} (h:Own b H es elem v xs) (hb:b'<=b):Own b' H es elem v xs:=by
 cases h with
 | nil=>exact .nil
 | «at» i k len cap ex cs xs h1 hi hl hc h=>exact .at i k len cap ex cs xs (ba hb h1) hi hl hc h
theorem Own.bg {b:Nat} {H K:AH} {es:Nat} {elem:TypeId} {v:AV} {xs:List AV} (h:Own b H es elem v xs) (hA:au H K):Own b K es elem v xs:=h.other fun i k e len cap ex hv=>hA i (h.lt hv)
theorem Own.cells {b:Nat} {H:AH} {es:Nat} {elem:TypeId} {v:AV} {xs:List AV} (h:Own b H es elem v xs):v.cells=[v]/\v.one=true:=by
 cases h <;> exact ⟨rfl,rfl⟩
theorem yS {sT elem:TypeId} {xT:Option TypeId} {es:Nat} (T:pj aa sT xT elem es) {G K:AH} {v:AV} {xs:List AV} (hA:au G K) (ho:Own G.length K es elem v xs) {x:AV} {new:List AV} (hx:Row K es x new)
   (hone:new.all AV.one=true) (hg:fT (aa.bytesOf elem) (bA v+bA x)=true) :
   ∃ v' K',f0 aa none sT xT v x K=some (v',K')/\au G K'/\Own G.length K' es elem v' (xs++new)/\K.length<=K'.length/\(∀ j,j < K.length->(∀ i k len cap ex,v=.slice i k es len cap ex->j≠i)->K'[j]? =K[j]?):=by
 obtain ⟨v',K',he,hown,hlv,hll,hsame⟩:=sw T ho hA.len hx hone hg
 refine ⟨v',K',he,fun j hj=>?_,hown,hll,hsame⟩
 rw [hsame j (Nat.lt_of_lt_of_le hj hA.len),hA j hj]
 intro i k len cap ex e
 have:=(ho.ge2 e).1
 omega
theorem zV:IxT 22 5:=⟨Q9,Un,XG⟩
theorem FO:IxT 24 1:=⟨W3,aaL,XF⟩
theorem FN:IxT 25 1:=⟨W2,aaK,aaW⟩
theorem yh:IxT 30 1:=⟨Q8,W1,XD⟩
theorem mJ:IxT 31 9:=⟨WX,WY,aaV⟩
theorem zU:IxT 32 1:=⟨WW,aaJ,XB⟩
theorem Sb:IxT 62 2:=⟨WV,aaI,aaS⟩
theorem Sa:IxT 63 2:=⟨WU,aaH,aaR⟩
theorem R9:IxT 64 8:=⟨WT,aaG,aaQ⟩
def lF (vc vm vs va:AV) (f:Con) (rc:List Bool) (en:Int):List AV:=[vc,vm]++fg f++[vs,va]++rc.map AV.bool++[I en]
structure mN (H:AH) (q:Nat) (vc vm vs va:AV) (f:Con) (ss:List (List Itm)) (ad:List Nat) (m:List (List Int)) (rc:List Bool) (en:Int):Prop where
 row:ak H q 0 28=some (lF vc vm vs va f rc en)
 m:dZ H m vm
 s:dy H ss vs
 a:SlS 30 1 H va (ad.map fun (n:Nat)=>[I (n:Int)])
 la:ad.length=ss.length
 le:∀ i,i < ss.length->ad.getD i 0<=(aW ss i).length
 lr:rc.length=16
 ev:∀ l∈ss,∀ x∈l,(x.kind=3∨x.kind=4)->0<=x.ev/\x.ev < 16
 nn:∃ i k c e,va=.slice i k 1 ad.length c e
 few:(ss.map gJ).sum<=24
 fs:ss.length<=4
theorem mN.sub {H K:AH} {q:Nat} {vc vm vs va:AV} {f:Con} {ss:List (List Itm)} {ad:List Nat} {m:List (List Int)} {rc:List Bool} {en:Int} (h:mN H q vc vm vs va f ss ad m rc en) (hA:Sub H K):mN K q vc vm vs va f ss ad m rc en:=
 { h with row:=hA.rd h.row,m:=h.m.sub hA,s:=h.s.sub hA,a:=h.a.sub hA }
theorem mN.bg {H K:AH} {q:Nat} {vc vm vs va:AV} {f:Con} {ss:List (List Itm)} {ad:List Nat} {m:List (List Int)} {rc:List Bool} {en:Int} (h:mN H q vc vm vs va f ss ad m rc en) (hA:au H K):mN K q vc vm vs va f ss ad m rc en:=h.sub hA.sub
theorem mN.ro {H:AH} {q:Nat} {vc vm vs va:AV} {f:Con} {ss:List (List Itm)} {ad:List Nat} {m:List (List Int)} {rc:List Bool} {en:Int} (h:mN H q vc vm vs va f ss ad m rc en):mN (ro H) q vc vm vs va f ss ad m rc en:=
 { h with row:=xu h.row,m:=h.m.ro,s:=h.s.ro,a:=h.a.ro }
theorem mN.cell {H K:AH} {q:Nat} {vc vm vs va:AV} {f:Con} {ss:List (List Itm)} {ad:List Nat} {m:List (List Int)} {rc:List Bool} {en:Int} (h:mN H q vc vm vs va f ss ad m rc en) (hA:au H K) (L:AH) (j:Nat) {x:AV} (hx:(lF vc vm vs va f rc en)[j]? =some x):ak (K++L) q (0+j) 1=some [x]:=jE (hA.bS L) (kU h.row hx)
theorem mN.at {H K:AH} {q:Nat} {vc vm vs va:AV} {f:Con} {ss:List (List Itm)} {ad:List Nat} {m:List (List Int)} {rc:List Bool} {en:Int} (h:mN H q vc vm vs va f ss ad m rc en) (hA:au H K) {j:Nat} (hj:j < ss.length):∃ i k,(∀ kk,aD aa 30 va (.int kk (j:Int))=some (.ptr i k))/\∀ L,ak (K++L) i k 1=some [I (ad.getD j 0:Nat)]:=by
 have hj':j < ad.length:=by rw [h.la]; exact hj
 obtain ⟨i,k,hi,hr⟩:=h.a.ix j _ (by rw [aM,aj hj']; rfl)
 refine ⟨i,k,hi,fun L=>?_⟩
 have:=iZ hr hA L
 rwa [gde,aj hj']
theorem Oc {vc vm vs va:AV} {f:Con} {rc:List Bool} {en:Int} (hr:rc.length=16) {e:Nat} (he:e < 16):(lF vc vm vs va f rc en)[11+e]? =some (.bool (rc.getD e false)):=by
 unfold lF fg
 rw [aw (by simp [hr]; omega),al (by simp)]
 simp only [ai,cF,gC,aM,Nat.reduceAdd,Nat.add_sub_cancel_left]
 rw [aj (by omega),gde,aj (by omega)]; rfl
theorem Fj {vc vm vs va:AV} {f:Con} {rc:List Bool} {en:Int} (hr:rc.length=16):(lF vc vm vs va f rc en)[27]? =some (I en):=by
 unfold lF fg
 rw [al (by simp [hr])]
 simp [hr]
def okS (ss:List (List Itm)) (ad:List Nat) (rc:List Bool) (s:Nat):Bool:=
 ltB (ad.getD s 0:Nat) ((aW ss s).length:Int) && (!eqB (bz (aW ss s) (ad.getD s 0)).kind 4 || rc.getD (bz (aW ss s) (ad.getD s 0)).ev.toNat false)
def d7 (ss:List (List Itm)) (ad:List Nat) (rc:List Bool) (n:Nat):List Nat:=(bn n).filter (okS ss ad rc)
def gE (ss:List (List Itm)) (ad:List Nat) (n:Nat):List Nat:=(bn n).map fun s=>(aW ss s).length - ad.getD s 0
theorem vu (ss:List (List Itm)) (ad:List Nat) (rc:List Bool) (n:Nat):d7 ss ad rc (n+1)=if okS ss ad rc n then d7 ss ad rc n++[n] else d7 ss ad rc n:=by
 unfold d7
 rw [iT,List.filter_append]
 cases h:okS ss ad rc n <;> simp [h]
theorem sg (ss:List (List Itm)) (ad:List Nat) (n:Nat):gE ss ad (n+1)=gE ss ad n++[(aW ss n).length - ad.getD n 0]:=by
 unfold gE
 rw [iT,eg]; rfl
theorem xC (ss:List (List Itm)) (ad:List Nat) (rc:List Bool) (n:Nat):(d7 ss ad rc n).length<=n:=by
 unfold d7
 exact ba (List.length_filter_le _ _) (by rw [List.length_range]; exact ax _)
theorem Ky (ss:List (List Itm)) (ad:List Nat):(gE ss ad ss.length).sum<=(ss.map gJ).sum:=by
 have h:ss.map gJ=(bn ss.length).map fun s=>(aW ss s).length:=by
   refine List.ext_getElem (by simp) fun i h1 h2=>?_
   simp only [k8,List.getElem_range]
   rw [ar] at h1
   unfold aW
   rw [gde,aj h1]; rfl
 rw [h]
 unfold gE
 generalize bn ss.length=l
 induction l with
 | nil=>exact ax _
 | cons x l ih=>simp only [List.map_cons,List.sum_cons]; omega
theorem BE (l:List Nat) (j:Nat):(l.take j).sum<=l.sum:=by
 have:=congrArg List.sum (List.take_append_drop j l)
 rw [List.sum_append] at this
 omega
def ints (l:List Nat):List (List AV):=l.map fun (n:Nat)=>[I (n:Int)]
theorem nY (l:List Nat):(ints l).flatten=l.map fun (n:Nat)=>I (n:Int):=rP _ l
theorem pP (l:List Nat):∀ r∈ints l,r.length=1:=by
 intro r hr
 obtain ⟨n,_,rfl⟩:=List.mem_map.1 hr
 rfl
theorem Own.ints {b:Nat} {H:AH} {v:AV} {l:List Nat} (h:Own b H 1 3 v (l.map fun (n:Nat)=>I (n:Int))):SlS 30 1 H v (ints l):=
 Own.nB yh (by decide) (by rw [nY]; exact h) (pP l)
theorem Ng:pj aa 30 (some 30) 3 1:=⟨by kernel_rfl,⟨I 0,by kernel_rfl,by kernel_rfl,by simp [AV.cells]⟩,by kernel_rfl,by kernel_rfl⟩
theorem by3:aa.bytesOf 3=8:=by kernel_rfl
theorem Sr (n:Int) (H:AH):bk aa none 30 1 [(0,I n)] H=some (.slice H.length 0 1 1 1 true,H++[.cells [I n] 3]):=by kernel_rfl
theorem Qx (n:Int) (H L:AH):bk aa none 30 1 [(0,I n)] (H++L)=some (.slice (H.length+L.length) 0 1 1 1 true,H++(L++[.cells [I n] 3])):=by rw [Sr,ai,List.append_assoc]
theorem Bv {G K:AH} {v:AV} {l:List Nat} (hA:au G K) (ho:Own G.length K 1 3 v (l.map fun (n:Nat)=>I (n:Int))) (hl:l.length < 2 ^ 30) (n:Nat) :
   ∃ v' K',f0 aa none 30 (some 30) v (.slice K.length 0 1 1 1 true) (K++[.cells [I (n:Int)] 3])=some (v',K')/\au G K'/\Own G.length K' 1 3 v' ((l++[n]).map fun (n:Nat)=>I (n:Int))/\K.length<=K'.length/\(∀ j,j < K.length->(∀ i k len cap ex,v=.slice i k 1 len cap ex->j≠i)->K'[j]? =K[j]?):=by
 have hlen:=ho.length
 rw [ar,Nat.mul_one] at hlen
 have ho':Own G.length (K++[.cells [I (n:Int)] 3]) 1 3 v (l.map fun (n:Nat)=>I (n:Int)):=ho.bg (au.app _ _)
 have hrow:Row (K++[.cells [I (n:Int)] 3]) 1 (.slice K.length 0 1 1 1 true) [I (n:Int)]:=.at _ _ _ _ _ _ (by rw [gu]; rfl)
 obtain ⟨v',K',he,h1,h2,h3,h4⟩:=yS Ng (hA.bS _) ho' hrow rfl (by
   rw [by3,<-hlen,cj]; unfold fT; rw [Bool.and_eq_true,decide_eq_true_iff,decide_eq_true_iff]; constructor <;> omega)
 refine ⟨v',K',he,h1,by rw [eg]; exact h2,by rw [ai] at h3; exact ba (Nat.le_add_right _ _) h3,fun j hj hn=>?_⟩
 rw [h4 j (by rw [ai]; exact Nat.lt_add_right _ hj) hn,aw hj]
end Go.Dv
