/- Part 14 of the walks (own work). -/
import Derived.Test.YtilpjnckfkjkbaaGreatDoorZ13
set_option maxRecDepth 100000
set_option maxHeartbeats 4000000
set_option linter.unusedSimpArgs false
set_option linter.unusedVariables false
namespace Go.Dv
open Go.Proofs
attribute [local congr] bind_congr_first cb_congr condA_congr gd_congr br_congr
structure Con where
 w:Int
 free:Bool
 cores:Int
 slots:Int
 room:Int
 pol:Int
 lat:Int
structure Itm where
 kind:Int
 code:Int
 grid:Int
 block:Int
 src:Int
 dst:Int
 ev:Int
 args:List Int
 word:Int
def rowF (c:Con):List AV:=[I c.w,.bool c.free,I c.cores,I c.slots,I c.room,I c.pol,I c.lat]
def rowX (x:Itm) (va:AV):List AV:=[I x.kind,I x.code,I x.grid,I x.block,I x.src,I x.dst,I x.ev,va,.int .i32 x.word]
def rng (n a b:Int):Bool:=leB a n && leB n b
def conP (c:Con):Bool:=rng c.w 1 32 && rng c.cores 1 4 && rng c.slots 1 4 && rng c.room 0 4 && rng c.pol 0 2 && rng c.lat 0 20
def polP (a b:Int):Bool:=rng a 0 2 && rng b 0 20
theorem ltB_leB (n l:Int):ltB n (l+1)=leB n l:=by rw [Bool.eq_iff_iff,ltB_iff,leB_iff]; omega
def row1 (n:Int):List AV:=[.int .i32 n]
theorem ev84 (n a b:Int) (H:AH):Ev Tryz.prog C0 W0 84 [I n,I a,I b] H=some (.bool (rng n a b),H):=by
 obtain ⟨tm,ht,g0,g1,g2,g3⟩:=tm3 (I n) (I a) (I b) 15 (by decide)
 rw [fe84,ht]
 rw [<-List.append_nil (ro H)]
 simp (maxSteps:=4000000) +contextual -implicitDefEqProofs only [c84,Tryz.f84,aP,g0,g1,g2,g3,↓evDn,evUp,eu,sevalprocAttr]
 unfold rng
 refine congrArg (fun b=>some (AV.bool b,H)) ?_
 cases leB a n <;>
 cases leB n b <;>
 rfl
theorem ev68 (a b:Int) (H:AH):Ev Tryz.prog C0 W0 68 [I a,I b] H=some (.bool (polP a b),H):=by
 obtain ⟨tm,ht,g0,g1,g2⟩:=tm2 (I a) (I b) 19 (by decide)
 rw [fe68,ht]
 rw [<-List.append_nil (ro H)]
 unfold polP rng
 rw [show leB a 2=ltB a 3 from (ltB_leB a 2).symm]
 cases h0:leB 0 a <;> cases h1:ltB a 3 <;> cases h2:leB 0 b <;> simp (maxSteps:=4000000) -implicitDefEqProofs only [c68,Tryz.f68,aP,g0,g1,g2,h0,h1,h2,↓evDn,evUp,eu,sevalprocAttr]
theorem ev38 (c:Con) (H:AH):Ev Tryz.prog C0 W0 38 [.agg (rowF c)] H=some (.bool (conP c),H):=by
 obtain ⟨tm,ht,g0,g1⟩:=tm1 (.agg (rowF c)) 48 (by decide)
 rw [fe38,ht]
 rw [<-List.append_nil (ro H)]
 unfold conP rng
 cases h0:leB 1 c.w
 · simp (maxSteps:=4000000) -implicitDefEqProofs only [c38,Tryz.f38,aP,g0,g1,rowF,r5,↓evLd,h0,↓evDn,evUp,eu,sevalprocAttr]
 cases h1:leB c.w 32
 · simp (maxSteps:=4000000) -implicitDefEqProofs only [c38,Tryz.f38,aP,g0,g1,rowF,r5,↓evLd,h0,h1,↓evDn,evUp,eu,sevalprocAttr]
 cases h2:leB 1 c.cores
 · simp (maxSteps:=4000000) -implicitDefEqProofs only [c38,Tryz.f38,aP,g0,g1,rowF,r5,↓evLd,h0,h1,h2,↓evDn,evUp,eu,sevalprocAttr]
 cases h3:leB c.cores 4
 · simp (maxSteps:=4000000) -implicitDefEqProofs only [c38,Tryz.f38,aP,g0,g1,rowF,r5,↓evLd,h0,h1,h2,h3,↓evDn,evUp,eu,sevalprocAttr]
 cases h4:leB 1 c.slots
 · simp (maxSteps:=4000000) -implicitDefEqProofs only [c38,Tryz.f38,aP,g0,g1,rowF,r5,↓evLd,h0,h1,h2,h3,h4,↓evDn,evUp,eu,sevalprocAttr]
 cases h5:leB c.slots 4
 · simp (maxSteps:=4000000) -implicitDefEqProofs only [c38,Tryz.f38,aP,g0,g1,rowF,r5,↓evLd,h0,h1,h2,h3,h4,h5,↓evDn,evUp,eu,sevalprocAttr]
 cases h6:leB 0 c.room
 · simp (maxSteps:=4000000) -implicitDefEqProofs only [c38,Tryz.f38,aP,g0,g1,rowF,r5,↓evLd,h0,h1,h2,h3,h4,h5,h6,↓evDn,evUp,eu,sevalprocAttr]
 cases h7:leB c.room 4
 · simp (maxSteps:=4000000) -implicitDefEqProofs only [c38,Tryz.f38,aP,g0,g1,rowF,r5,↓evLd,h0,h1,h2,h3,h4,h5,h6,h7,↓evDn,evUp,eu,sevalprocAttr]
 simp (maxSteps:=4000000) -implicitDefEqProofs only [c38,Tryz.f38,aP,g0,g1,rowF,r5,↓evLd,h0,h1,h2,h3,h4,h5,h6,h7,↓fc68,ev68,polP,rng,↓evDn,evUp,eu,sevalprocAttr]
theorem ev56 (c:Con) (H:AH):Ev Tryz.prog C0 W0 56 [.agg (rowF c)] H=some (.bool (conP c),H):=by
 obtain ⟨tm,ht,g0,g1⟩:=tm1 (.agg (rowF c)) 38 (by decide)
 rw [fe56,ht]
 rw [<-List.append_nil (ro H)]
 unfold conP
 cases h0:rng c.w 1 32
 · simp (maxSteps:=4000000) -implicitDefEqProofs only [c56,Tryz.f56,aP,g0,g1,rowF,r5,↓evLd,↓callA_value,Tryz.func84,show Tryz.f84.body.isSome=true from rfl,show ∀ gl tm,evalA gl tm (.func 84)=some (.func (.func 84) [] []) from fun _ _=>rfl,ev84,h0,↓evDn,evUp,eu,sevalprocAttr]
 cases h1:rng c.cores 1 4
 · simp (maxSteps:=4000000) -implicitDefEqProofs only [c56,Tryz.f56,aP,g0,g1,rowF,r5,↓evLd,↓callA_value,Tryz.func84,show Tryz.f84.body.isSome=true from rfl,show ∀ gl tm,evalA gl tm (.func 84)=some (.func (.func 84) [] []) from fun _ _=>rfl,ev84,h0,h1,↓evDn,evUp,eu,sevalprocAttr]
 cases h2:rng c.slots 1 4
 · simp (maxSteps:=4000000) -implicitDefEqProofs only [c56,Tryz.f56,aP,g0,g1,rowF,r5,↓evLd,↓callA_value,Tryz.func84,show Tryz.f84.body.isSome=true from rfl,show ∀ gl tm,evalA gl tm (.func 84)=some (.func (.func 84) [] []) from fun _ _=>rfl,ev84,h0,h1,h2,↓evDn,evUp,eu,sevalprocAttr]
 cases h3:rng c.room 0 4
 · simp (maxSteps:=4000000) -implicitDefEqProofs only [c56,Tryz.f56,aP,g0,g1,rowF,r5,↓evLd,↓callA_value,Tryz.func84,show Tryz.f84.body.isSome=true from rfl,show ∀ gl tm,evalA gl tm (.func 84)=some (.func (.func 84) [] []) from fun _ _=>rfl,ev84,h0,h1,h2,h3,↓evDn,evUp,eu,sevalprocAttr]
 cases h4:rng c.pol 0 2
 · simp (maxSteps:=4000000) -implicitDefEqProofs only [c56,Tryz.f56,aP,g0,g1,rowF,r5,↓evLd,↓callA_value,Tryz.func84,show Tryz.f84.body.isSome=true from rfl,show ∀ gl tm,evalA gl tm (.func 84)=some (.func (.func 84) [] []) from fun _ _=>rfl,ev84,h0,h1,h2,h3,h4,↓evDn,evUp,eu,sevalprocAttr]
 simp (maxSteps:=4000000) -implicitDefEqProofs only [c56,Tryz.f56,aP,g0,g1,rowF,r5,↓evLd,↓callA_value,Tryz.func84,show Tryz.f84.body.isSome=true from rfl,show ∀ gl tm,evalA gl tm (.func 84)=some (.func (.func 84) [] []) from fun _ _=>rfl,ev84,h0,h1,h2,h3,h4,↓evDn,evUp,eu,sevalprocAttr]
def bareP (x:Itm):Bool:=eqB x.code 0 && eqB x.grid 0 && eqB x.block 0 && eqB x.args.length 0
theorem ev71 {H:AH} {x:Itm} {va:AV} (ha:SlS 32 1 H va (x.args.map row1)):Ev Tryz.prog C0 W0 71 [.agg (rowX x va)] H=some (.bool (bareP x),H):=by
 obtain ⟨tm,ht,g0,g1⟩:=tm1 (.agg (rowX x va)) 22 (by decide)
 rw [fe71,ht]
 rw [<-List.append_nil (ro H)]
 unfold bareP
 have hl:∀ G,lenA Tryz.prog 32 G va=some (I x.args.length):=fun G=>by have:=ha.len G; rwa [List.length_map] at this
 cases h0:eqB x.code 0
 · simp (maxSteps:=4000000) -implicitDefEqProofs only [c71,Tryz.f71,aP,g0,g1,rowX,hl,r5,↓evLd,h0,↓evDn,evUp,eu,sevalprocAttr]
 cases h1:eqB x.grid 0
 · simp (maxSteps:=4000000) -implicitDefEqProofs only [c71,Tryz.f71,aP,g0,g1,rowX,hl,r5,↓evLd,h0,h1,↓evDn,evUp,eu,sevalprocAttr]
 cases h2:eqB x.block 0
 · simp (maxSteps:=4000000) -implicitDefEqProofs only [c71,Tryz.f71,aP,g0,g1,rowX,hl,r5,↓evLd,h0,h1,h2,↓evDn,evUp,eu,sevalprocAttr]
 simp (maxSteps:=4000000) -implicitDefEqProofs only [c71,Tryz.f71,aP,g0,g1,rowX,hl,r5,↓evLd,h0,h1,h2,↓evDn,evUp,eu,sevalprocAttr]
def rowL (nm:ByteArray) (x:Itm) (va:AV):List AV:=[.str nm,I x.grid,I x.block,va]
theorem st126 (H:AH) (i k:Nat) (x:AV):stA Tryz.prog 126 H i k x=if x.cells.length=4 then wrCells H i k x.cells else none:=by kernel_rfl
theorem ld126 (H:AH) (i k:Nat):ldA Tryz.prog 126 H i k=(rdCells H i k 4).map .agg:=by kernel_rfl
theorem z126:zeroA Tryz.prog 126=some (.agg [.str eS,I 0,I 0,.nilSlice]):=by kernel_rfl
theorem bl126 {va:AV} (h:va=.nilSlice∨∃ i k es l c e,va=.slice i k es l c e) (a:ByteArray) (b c:Int):buildA Tryz.prog 126 [(0,.str a),(1,I b),(2,I c),(3,va)]=some (.agg [.str a,I b,I c,va]):=by
 rcases h with rfl | ⟨i,k,es,l,c',e,rfl⟩ <;> kernel_rfl
theorem SlS.sh {T es:Nat} {H:AH} {v:AV} {rows:List (List AV)} (h:SlS T es H v rows):v=.nilSlice∨∃ i k es l c e,v=.slice i k es l c e:=by
 rcases h.old with ⟨e,_⟩ | ⟨i,k,c,x,e,_,_⟩
 · exact .inl e
 · exact .inr ⟨i,k,es,_,c,x,e⟩
theorem fa126_0 (i k:Nat):fieldAddrA Tryz.prog 126 (.ptr i k) 0=some (.ptr i k):=by kernel_rfl
theorem fa126_1 (i k:Nat):fieldAddrA Tryz.prog 126 (.ptr i k) 1=some (.ptr i (k+1)):=by kernel_rfl
theorem fa126_2 (i k:Nat):fieldAddrA Tryz.prog 126 (.ptr i k) 2=some (.ptr i (k+2)):=by kernel_rfl
theorem fa126_3 (i k:Nat):fieldAddrA Tryz.prog 126 (.ptr i k) 3=some (.ptr i (k+3)):=by kernel_rfl
theorem ev65 {H:AH} {c:Cod} {vp vs vi va:AV} {x:Itm} (h:CodR H c vp vs vi) (ha:SlS 32 1 H va (x.args.map row1)):Ev Tryz.prog C0 W0 65 [.agg (rowC c vp vs vi),.agg (rowX x va)] H=some (.agg (rowL c.name x va),H):=by
 obtain ⟨tm,ht,g0,g1,g2⟩:=tm2 (.agg (rowC c vp vs vi)) (.agg (rowX x va)) 14 (by decide)
 rw [fe65,ht]
 rw [<-List.append_nil (ro H)]
 unfold rowL
 have hb:=bl126 ha.sh
 have hf:∀ G,finA true H (.agg [.str c.name,I x.grid,I x.block,va],G)=some (.agg [.str c.name,I x.grid,I x.block,va],H):=fun G=>fin_old (by show (true && (true && (true && (oldA H va && true))))=true; rw [ha.oldA]; rfl)
 rcases ha.sh with rfl | ⟨i,k,es,l,cc,e,rfl⟩ <;>
 simp (maxSteps:=4000000) -implicitDefEqProofs only [c65,Tryz.f65,aP,g0,g1,g2,rowX,hb,hf,fr65,z126,st126,ld126,r5,↓evLd,↓evDn,evUp,eu,sevalprocAttr]
theorem ev70 {H:AH} {c:Cod} {vp vs vi va:AV} {x:Itm} (h:CodR H c vp vs vi) (ha:SlS 32 1 H va (x.args.map row1)):Ev Tryz.prog C0 W0 70 [.agg (rowC c vp vs vi),.agg (rowX x va)] H=some (.agg (rowL c.name x va),H):=by
 obtain ⟨tm,ht,g0,g1,g2⟩:=tm2 (.agg (rowC c vp vs vi)) (.agg (rowX x va)) 14 (by decide)
 rw [fe70,ht]
 rw [<-List.append_nil (ro H)]
 unfold rowL
 have hb:=bl126 ha.sh
 have hf:∀ G,finA true H (.agg [.str c.name,I x.grid,I x.block,va],G)=some (.agg [.str c.name,I x.grid,I x.block,va],H):=fun G=>fin_old (by show (true && (true && (true && (oldA H va && true))))=true; rw [ha.oldA]; rfl)
 rcases ha.sh with rfl | ⟨i,k,es,l,cc,e,rfl⟩ <;>
 simp (maxSteps:=4000000) -implicitDefEqProofs only [c70,Tryz.f70,aP,g0,g1,g2,rowX,hb,hf,fr70,z126,st126,ld126,r5,↓evLd,↓evDn,evUp,eu,sevalprocAttr]
structure CodsR (H:AH) (cs:List Cod) (v:AV):Prop where
 ex:∃ l:List (Cod × AV × AV × AV),l.map (·.1)=cs/\SlS 22 5 H v (l.map fun p=>rowC p.1 p.2.1 p.2.2.1 p.2.2.2)/\∀ p∈l,CodR H p.1 p.2.1 p.2.2.1 p.2.2.2
 n:cs.length < 2 ^ 50
structure MemR (H:AH) (m:List (List Int)) (v:AV):Prop where
 ex:∃ l:List (List Int × AV),l.map (·.1)=m/\SlS 24 1 H v (l.map fun p=>[p.2])/\∀ p∈l,SlS 32 1 H p.2 (p.1.map row1)
 n:m.length < 2 ^ 50
 nb:∀ b∈m,b.length < 2 ^ 50
 im:∀ b∈m,∀ x∈b,i32R x
structure ItmsR (H:AH) (xs:List Itm) (v:AV):Prop where
 ex:∃ l:List (Itm × AV),l.map (·.1)=xs/\SlS 31 9 H v (l.map fun p=>rowX p.1 p.2)/\∀ p∈l,SlS 32 1 H p.2 (p.1.args.map row1)
 n:xs.length < 2 ^ 50
 na:∀ x∈xs,x.args.length < 2 ^ 50
 im:∀ x∈xs,∀ a∈x.args,i32R a
 iw:∀ x∈xs,i32R x.word
structure StrsR (H:AH) (ss:List (List Itm)) (v:AV):Prop where
 ex:∃ l:List (List Itm × AV),l.map (·.1)=ss/\SlS 25 1 H v (l.map fun p=>[p.2])/\∀ p∈l,ItmsR H p.1 p.2
 n:ss.length < 2 ^ 50
theorem CodsR.agree {H K:AH} {cs:List Cod} {v:AV} (h:CodsR H cs v) (hA:Agree H K):CodsR K cs v:=by
 obtain ⟨⟨l,e,hs,hc⟩,n⟩:=h
 exact ⟨⟨l,e,hs.same hA,fun p hp=>(hc p hp).agree hA⟩,n⟩
theorem CodsR.ro {H:AH} {cs:List Cod} {v:AV} (h:CodsR H cs v):CodsR (ro H) cs v:=by
 obtain ⟨⟨l,e,hs,hc⟩,n⟩:=h
 exact ⟨⟨l,e,hs.ro,fun p hp=>(hc p hp).ro⟩,n⟩
theorem MemR.agree {H K:AH} {cs:List (List Int)} {v:AV} (h:MemR H cs v) (hA:Agree H K):MemR K cs v:=by
 obtain ⟨⟨l,e,hs,hc⟩,n,nb,im⟩:=h
 exact ⟨⟨l,e,hs.same hA,fun p hp=>(hc p hp).same hA⟩,n,nb,im⟩
theorem MemR.ro {H:AH} {cs:List (List Int)} {v:AV} (h:MemR H cs v):MemR (ro H) cs v:=by
 obtain ⟨⟨l,e,hs,hc⟩,n,nb,im⟩:=h
 exact ⟨⟨l,e,hs.ro,fun p hp=>(hc p hp).ro⟩,n,nb,im⟩
theorem ItmsR.agree {H K:AH} {xs:List Itm} {v:AV} (h:ItmsR H xs v) (hA:Agree H K):ItmsR K xs v:=by
 obtain ⟨⟨l,e,hs,hc⟩,n,na,im,iw⟩:=h
 exact ⟨⟨l,e,hs.same hA,fun p hp=>(hc p hp).same hA⟩,n,na,im,iw⟩
theorem ItmsR.ro {H:AH} {xs:List Itm} {v:AV} (h:ItmsR H xs v):ItmsR (ro H) xs v:=by
 obtain ⟨⟨l,e,hs,hc⟩,n,na,im,iw⟩:=h
 exact ⟨⟨l,e,hs.ro,fun p hp=>(hc p hp).ro⟩,n,na,im,iw⟩
theorem StrsR.agree {H K:AH} {ss:List (List Itm)} {v:AV} (h:StrsR H ss v) (hA:Agree H K):StrsR K ss v:=by
 obtain ⟨⟨l,e,hs,hc⟩,n⟩:=h
 exact ⟨⟨l,e,hs.same hA,fun p hp=>(hc p hp).agree hA⟩,n⟩
theorem StrsR.ro {H:AH} {ss:List (List Itm)} {v:AV} (h:StrsR H ss v):StrsR (ro H) ss v:=by
 obtain ⟨⟨l,e,hs,hc⟩,n⟩:=h
 exact ⟨⟨l,e,hs.ro,fun p hp=>(hc p hp).ro⟩,n⟩
theorem CodsR.len {H:AH} {cs:List Cod} {v:AV} (h:CodsR H cs v) (G:AH):lenA Tryz.prog 22 G v=some (I cs.length):=by
 obtain ⟨⟨l,rfl,hs,hc⟩,n⟩:=h
 have:=hs.len G; rwa [List.length_map] at this ⊢
theorem MemR.len {H:AH} {cs:List (List Int)} {v:AV} (h:MemR H cs v) (G:AH):lenA Tryz.prog 24 G v=some (I cs.length):=by
 obtain ⟨⟨l,rfl,hs,hc⟩,n,_⟩:=h
 have:=hs.len G; rwa [List.length_map] at this ⊢
theorem ItmsR.len {H:AH} {cs:List Itm} {v:AV} (h:ItmsR H cs v) (G:AH):lenA Tryz.prog 31 G v=some (I cs.length):=by
 obtain ⟨⟨l,rfl,hs,hc⟩,n,_⟩:=h
 have:=hs.len G; rwa [List.length_map] at this ⊢
theorem StrsR.len {H:AH} {cs:List (List Itm)} {v:AV} (h:StrsR H cs v) (G:AH):lenA Tryz.prog 25 G v=some (I cs.length):=by
 obtain ⟨⟨l,rfl,hs,hc⟩,n⟩:=h
 have:=hs.len G; rwa [List.length_map] at this ⊢
def codAt (cs:List Cod) (j:Nat):Cod:=cs.getD j ⟨eS,[],[],0,[]⟩
def bufOf (m:List (List Int)) (j:Nat):List Int:=m.getD j []
def itmAt (xs:List Itm) (j:Nat):Itm:=xs.getD j ⟨0,0,0,0,0,0,0,[],0⟩
def strAt (ss:List (List Itm)) (j:Nat):List Itm:=ss.getD j []
theorem getD_at {α:Type} {l:List α} {j:Nat} (h:j < l.length) (d:α):l.getD j d=l[j]'h:=by rw [gde,List.getElem?_eq_getElem h]; rfl
theorem CodsR.at {H K:AH} {cs:List Cod} {v:AV} (h:CodsR H cs v) (hA:Agree H K) {j:Nat} (hj:j < cs.length):∃ i k vp vs vi,(∀ kk,indexAddrA Tryz.prog 22 v (.int kk (j:Int))=some (.ptr i k))/\(∀ L,rdCells (K++L) i k 5=some (rowC (codAt cs j) vp vs vi))/\CodR H (codAt cs j) vp vs vi:=by
 obtain ⟨⟨l,rfl,hs,hc⟩,n⟩:=h
 have hj':j < l.length:=by rwa [List.length_map] at hj
 obtain ⟨i,k,hi,hr⟩:=hs.ix j _ (by rw [List.getElem?_map,List.getElem?_eq_getElem hj']; rfl)
 have e:codAt (l.map (·.1)) j=(l[j]'hj').1:=by unfold codAt; rw [getD_at hj,List.getElem_map]
 rw [e]
 exact ⟨i,k,_,_,_,hi,fun L=>row_rd hr hA L,hc _ (List.getElem_mem _)⟩
theorem MemR.at {H K:AH} {m:List (List Int)} {v:AV} (h:MemR H m v) (hA:Agree H K) {j:Nat} (hj:j < m.length):∃ i k w,(∀ kk,indexAddrA Tryz.prog 24 v (.int kk (j:Int))=some (.ptr i k))/\(∀ L,rdCells (K++L) i k 1=some [w])/\SlS 32 1 H w ((bufOf m j).map row1):=by
 obtain ⟨⟨l,rfl,hs,hc⟩,n,_⟩:=h
 have hj':j < l.length:=by rwa [List.length_map] at hj
 obtain ⟨i,k,hi,hr⟩:=hs.ix j _ (by rw [List.getElem?_map,List.getElem?_eq_getElem hj']; rfl)
 have e:bufOf (l.map (·.1)) j=(l[j]'hj').1:=by unfold bufOf; rw [getD_at hj,List.getElem_map]
 rw [e]
 exact ⟨i,k,_,hi,fun L=>row_rd hr hA L,hc _ (List.getElem_mem _)⟩
theorem ItmsR.at {H K:AH} {xs:List Itm} {v:AV} (h:ItmsR H xs v) (hA:Agree H K) {j:Nat} (hj:j < xs.length):∃ i k w,(∀ kk,indexAddrA Tryz.prog 31 v (.int kk (j:Int))=some (.ptr i k))/\(∀ L,rdCells (K++L) i k 9=some (rowX (itmAt xs j) w))/\SlS 32 1 H w ((itmAt xs j).args.map row1):=by
 obtain ⟨⟨l,rfl,hs,hc⟩,n,_⟩:=h
 have hj':j < l.length:=by rwa [List.length_map] at hj
 obtain ⟨i,k,hi,hr⟩:=hs.ix j _ (by rw [List.getElem?_map,List.getElem?_eq_getElem hj']; rfl)
 have e:itmAt (l.map (·.1)) j=(l[j]'hj').1:=by unfold itmAt; rw [getD_at hj,List.getElem_map]
 rw [e]
 exact ⟨i,k,_,hi,fun L=>row_rd hr hA L,hc _ (List.getElem_mem _)⟩
theorem StrsR.at {H K:AH} {ss:List (List Itm)} {v:AV} (h:StrsR H ss v) (hA:Agree H K) {j:Nat} (hj:j < ss.length):∃ i k w,(∀ kk,indexAddrA Tryz.prog 25 v (.int kk (j:Int))=some (.ptr i k))/\(∀ L,rdCells (K++L) i k 1=some [w])/\ItmsR H (strAt ss j) w:=by
 obtain ⟨⟨l,rfl,hs,hc⟩,n⟩:=h
 have hj':j < l.length:=by rwa [List.length_map] at hj
 obtain ⟨i,k,hi,hr⟩:=hs.ix j _ (by rw [List.getElem?_map,List.getElem?_eq_getElem hj']; rfl)
 have e:strAt (l.map (·.1)) j=(l[j]'hj').1:=by unfold strAt; rw [getD_at hj,List.getElem_map]
 rw [e]
 exact ⟨i,k,_,hi,fun L=>row_rd hr hA L,hc _ (List.getElem_mem _)⟩
theorem sl32 {H:AH} {v:AV} {b:List Int} (h:SlS 32 1 H v (b.map row1)) (G:AH):lenA Tryz.prog 32 G v=some (I b.length):=by
 have:=h.len G; rwa [List.length_map] at this
def Sub (S K:AH):Prop:=∀ (i:Nat) (o:AObj),S[i]? =some o->o≠AObj.dead->K[i]? =some o
def Gone (S:AH) (i:Nat):Prop:=S[i]? =none∨S[i]? =some .dead
theorem Sub.refl (S:AH):Sub S S:=fun _ _ h _=>h
theorem Sub.trans {S K M:AH} (h:Sub S K) (k:Sub K M):Sub S M:=fun i o hi ho=>k i o (h i o hi ho) ho
theorem Agree.sub {S K:AH} (h:Agree S K):Sub S K:=fun i o hi _=>h.get hi
theorem Sub.agree {S K M:AH} (h:Sub S K) (k:Agree K M):Sub S M:=h.trans k.sub
theorem Sub.appR {S K:AH} (h:Sub S K) (L:AH):Sub S (K++L):=h.agree (Agree.app K L)
theorem Sub.setR {S K:AH} (h:Sub S K) {i:Nat} (hi:Gone S i) (o:AObj):Sub S (K.set i o):=fun j x hj hx=>by
 have:i≠j:=fun e=>by
   subst e
   rcases hi with c | c
   · rw [c] at hj; cases hj
   · rw [c] at hj; cases hj; exact hx rfl
 rw [List.getElem?_set_ne this]; exact h j x hj hx
theorem Sub.kill (S:AH) (i:Nat):Sub (S.set i .dead) S:=fun j o hj ho=>by
 rcases Decidable.em (i=j) with e | e
 · subst e
   rw [List.getElem?_set_self'] at hj
   cases hs:S[i]? with
   | none=>rw [hs] at hj; cases hj
   | some x=>rw [hs] at hj; cases hj; exact absurd rfl ho
 · rw [List.getElem?_set_ne e] at hj; exact hj
theorem gone_kill (S:AH) (i:Nat):Gone (S.set i .dead) i:=by
 unfold Gone
 rcases Nat.lt_or_ge i S.length with c | c
 · right; rw [List.getElem?_set_self c]
 · left; rw [List.getElem?_eq_none (by rw [List.length_set]; exact c)]
theorem Gone.kill {S:AH} {i:Nat} (h:Gone S i) (j:Nat):Gone (S.set j .dead) i:=by
 rcases Decidable.em (j=i) with e | e
 · subst e; exact gone_kill S j
 · unfold Gone; rw [List.getElem?_set_ne e]; exact h
theorem Gone.sub {S K:AH} (h:Sub S K) {i:Nat} (hk:Gone K i):Gone S i:=by
 cases hs:S[i]? with
 | none=>exact .inl hs
 | some o =>
   rcases Classical.em (o=AObj.dead) with e | e
   · subst e; exact .inr hs
   · have:=h i o hs e
     rcases hk with c | c
     · rw [c] at this; cases this
     · rw [c] at this; cases this; exact absurd rfl e
theorem gone_ge {S:AH} {i:Nat} (h:S.length<=i):Gone S i:=.inl (List.getElem?_eq_none h)
theorem Gone.ne {S:AH} {i j:Nat} {o:AObj} (h:Gone S i) (hj:S[j]? =some o) (ho:o≠AObj.dead):i≠j:=fun e=>by
 subst e
 rcases h with c | c
 · rw [c] at hj; cases hj
 · rw [c] at hj; cases hj; exact ho rfl
theorem Sub.rd {S K:AH} (h:Sub S K) {i k n:Nat} {r:List AV} (hr:rdCells S i k n=some r):rdCells K i k n=some r:=by
 unfold rdCells at hr ⊢
 cases hs:S[i]? with
 | none=>rw [hs] at hr; cases hr
 | some o =>
   rw [hs] at hr
   have hd:o≠AObj.dead:=fun e=>by subst e; cases hr
   rw [h i o hs hd]; exact hr
theorem Sub.ok {S K:AH} (h:Sub S K) {i:Nat} (hi:okC S i=true):okC K i=true:=by
 unfold okC at hi ⊢
 cases hs:S[i]? with
 | none=>rw [hs] at hi; cases hi
 | some o =>
   rw [hs] at hi
   have hd:o≠AObj.dead:=fun e=>by subst e; cases hi
   rw [h i o hs hd]; exact hi
theorem SlS.sub {T es:Nat} {S K:AH} {v:AV} {rows:List (List AV)} (h:SlS T es S v rows) (hs:Sub S K):SlS T es K v rows:=
 ⟨h.len,fun j x hx=>by obtain ⟨i,k,h1,h2⟩:=h.ix j x hx; exact ⟨i,k,h1,hs.rd h2⟩,h.old.imp id fun ⟨i,k,c,e,h1,h2,h3⟩=>⟨i,k,c,e,h1,hs.ok h2,hs.rd h3⟩⟩
theorem CodR.sub {H K:AH} {c:Cod} {vp vs vi:AV} (h:CodR H c vp vs vi) (hA:Sub H K):CodR K c vp vs vi:={ h with p:=h.p.sub hA,s:=h.s.sub hA,i:=h.i.sub hA }
theorem CodsR.sub {H K:AH} {cs:List Cod} {v:AV} (h:CodsR H cs v) (hA:Sub H K):CodsR K cs v:=by
 obtain ⟨⟨l,e,hs,hc⟩,n⟩:=h
 exact ⟨⟨l,e,hs.sub hA,fun p hp=>(hc p hp).sub hA⟩,n⟩
theorem MemR.sub {H K:AH} {cs:List (List Int)} {v:AV} (h:MemR H cs v) (hA:Sub H K):MemR K cs v:=by
 obtain ⟨⟨l,e,hs,hc⟩,n,nb,im⟩:=h
 exact ⟨⟨l,e,hs.sub hA,fun p hp=>(hc p hp).sub hA⟩,n,nb,im⟩
theorem ItmsR.sub {H K:AH} {xs:List Itm} {v:AV} (h:ItmsR H xs v) (hA:Sub H K):ItmsR K xs v:=by
 obtain ⟨⟨l,e,hs,hc⟩,n,na,im,iw⟩:=h
 exact ⟨⟨l,e,hs.sub hA,fun p hp=>(hc p hp).sub hA⟩,n,na,im,iw⟩
theorem StrsR.sub {H K:AH} {ss:List (List Itm)} {v:AV} (h:StrsR H ss v) (hA:Sub H K):StrsR K ss v:=by
 obtain ⟨⟨l,e,hs,hc⟩,n⟩:=h
 exact ⟨⟨l,e,hs.sub hA,fun p hp=>(hc p hp).sub hA⟩,n⟩
structure IxT (T es:Nat):Prop where
 ln0:∀ G,lenA Tryz.prog T G .nilSlice=some (I 0)
 ln:∀ G i k es l c e,lenA Tryz.prog T G (.slice i k es l c e)=some (I l)
 ia:∀ i k es' l c e kk n,indexAddrA Tryz.prog T (.slice i k es' l c e) (.int kk n)=if 0<=n/\n < l/\es=es' then some (.ptr i (k+n.toNat * es')) else none
theorem flat_len {α:Type} {es:Nat}:∀ {rows:List (List α)},(∀ r∈rows,r.length=es)->rows.flatten.length=rows.length * es
 | [],_=>by simp
 | r::rows,h=>by
   rw [List.flatten_cons,List.length_append,flat_len (rows:=rows) fun x hx=>h x (by simp [hx]),h r (by simp),List.length_cons,Nat.add_mul,Nat.one_mul,Nat.add_comm]
theorem flat_row {α:Type} {es:Nat}:∀ {rows:List (List α)},(∀ r∈rows,r.length=es)->∀ {j:Nat} {r:List α},rows[j]? =some r->(rows.flatten.drop (j * es)).take es=r
 | [],_,_,_,h=>by simp at h
 | x::rows,hr,0,r,h=>by
   simp only [List.getElem?_cons_zero,Option.some.injEq] at h
   subst h
   rw [List.flatten_cons,Nat.zero_mul,List.drop_zero,List.take_append_of_le_length (by rw [hr x (by simp)]; exact Nat.le_refl _),List.take_of_length_le (by rw [hr x (by simp)]; exact Nat.le_refl _)]
 | x::rows,hr,j+1,r,h=>by
   simp only [List.getElem?_cons_succ] at h
   rw [List.flatten_cons,List.drop_append,List.drop_of_length_le (by rw [hr x (by simp),Nat.add_mul,Nat.one_mul]; exact Nat.le_add_left _ _),List.nil_append,hr x (by simp),show (j+1) * es - es=j * es by rw [Nat.add_mul,Nat.one_mul,Nat.add_sub_cancel]]
   exact flat_row (rows:=rows) (fun y hy=>hr y (by simp [hy])) h
theorem sls_of {T es:Nat} (X:IxT T es) {H:AH} {i k c:Nat} {e:Bool} {rows:List (List AV)} (hr:∀ r∈rows,r.length=es) (ho:okC H i=true) (h:rdCells H i k (rows.length * es)=some rows.flatten):SlS T es H (.slice i k es rows.length c e) rows where
 len:=fun G=>X.ln _ _ _ _ _ _ _
 ix:=fun j r hj=>by
   have hjl:=lt_of_get hj
   refine ⟨i,k+j * es,fun kk=>?_,?_⟩
   · rw [X.ia,if_pos ⟨by omega,by omega,rfl⟩]; rfl
   · have hm:(j+1) * es<=rows.length * es:=Nat.mul_le_mul_right _ hjl
     rw [Nat.add_mul,Nat.one_mul] at hm
     rw [rd_sub h (j * es) es hm,flat_row hr hj]
 old:=.inr ⟨i,k,c,e,rfl,ho,h⟩
theorem sls_nil {T es:Nat} (X:IxT T es) (H:AH):SlS T es H .nilSlice []:=⟨fun G=>X.ln0 G,fun j r h=>by simp at h,.inl ⟨rfl,rfl⟩⟩
theorem Own.slsG {T es:Nat} (X:IxT T es) (hes:0 < es) {b:Nat} {H:AH} {elem:TypeId} {v:AV} {rows:List (List AV)} (h:Own b H es elem v rows.flatten) (hr:∀ r∈rows,r.length=es):SlS T es H v rows:=by
 have hlen:=h.length
 rw [flat_len hr] at hlen
 generalize hxs:rows.flatten=xs at h
 cases h with
 | nil =>
   have:rows=[]:=by
     cases rows with
     | nil=>rfl
     | cons r l =>
       have:=flat_len hr
       rw [hxs,List.length_nil,List.length_cons,Nat.add_mul,Nat.one_mul] at this
       omega
   subst this
   exact sls_nil X H
 | «at» i k len cap ex cs xs hb hi hl hc h =>
   rw [lenOfA_slice] at hlen
   have hl2:rows.length=len:=Nat.eq_of_mul_eq_mul_right hes hlen
   subst hl2
   exact sls_of X hr (by unfold okC; rw [hi]) (by rw [hxs]; exact h)
theorem SlS.row {T es:Nat} {H:AH} {v:AV} {rows:List (List AV)} (h:SlS T es H v rows):Row H es v rows.flatten:=by
 rcases h.old with ⟨rfl,rfl⟩ | ⟨i,k,c,e,rfl,_,h3⟩
 · exact .nil
 · exact .at _ _ _ _ _ _ h3
theorem SlS.lenOf {T es:Nat} {H:AH} {v:AV} {rows:List (List AV)} (h:SlS T es H v rows):lenOfA v=rows.length:=by
 rcases h.old with ⟨rfl,rfl⟩ | ⟨i,k,c,e,rfl,_,h3⟩ <;> rfl
theorem Own.ge2 {b:Nat} {H:AH} {es:Nat} {elem:TypeId} {v:AV} {xs:List AV} (h:Own b H es elem v xs) {i k e len cap:Nat} {ex:Bool} (hv:v=.slice i k e len cap ex):b<=i/\i < H.length:=by
 cases h with
 | nil=>cases hv
 | «at» i2 k2 len2 cap2 ex2 cs2 xs2 hb2 hi2 hl2 hc2 h2=>cases hv; exact ⟨hb2,lt_of_get hi2⟩
theorem Own.lt {b:Nat} {H:AH} {es:Nat} {elem:TypeId} {v:AV} {xs:List AV} (h:Own b H es elem v xs) {i k e len cap:Nat} {ex:Bool} (hv:v=.slice i k e len cap ex):i < H.length:=(h.ge2 hv).2
theorem Own.up {b b':Nat} {H:AH} {es:Nat} {elem:TypeId} {v:AV} {xs:List AV} (h:Own b H es elem v xs) (hb:b'<=b):Own b' H es elem v xs:=by
 cases h with
 | nil=>exact .nil
 | «at» i k len cap ex cs xs h1 hi hl hc h=>exact .at i k len cap ex cs xs (Nat.le_trans hb h1) hi hl hc h
theorem Own.agree {b:Nat} {H K:AH} {es:Nat} {elem:TypeId} {v:AV} {xs:List AV} (h:Own b H es elem v xs) (hA:Agree H K):Own b K es elem v xs:=h.other fun i k e len cap ex hv=>hA i (h.lt hv)
theorem Own.cells {b:Nat} {H:AH} {es:Nat} {elem:TypeId} {v:AV} {xs:List AV} (h:Own b H es elem v xs):v.cells=[v]/\v.one=true:=by
 cases h <;> exact ⟨rfl,rfl⟩
theorem app_rows {sT elem:TypeId} {xT:Option TypeId} {es:Nat} (T:AppT Tryz.prog sT xT elem es) {G K:AH} {v:AV} {xs:List AV} (hA:Agree G K) (ho:Own G.length K es elem v xs) {x:AV} {new:List AV} (hx:Row K es x new)
   (hone:new.all AV.one=true) (hg:growOk (Tryz.prog.bytesOf elem) (lenOfA v+lenOfA x)=true) :
   ∃ v' K',appendA Tryz.prog none sT xT v x K=some (v',K')/\Agree G K'/\Own G.length K' es elem v' (xs++new)/\K.length<=K'.length/\(∀ j,j < K.length->(∀ i k len cap ex,v=.slice i k es len cap ex->j≠i)->K'[j]? =K[j]?):=by
 obtain ⟨v',K',he,hown,hlv,hll,hsame⟩:=append_own T ho hA.len hx hone hg
 refine ⟨v',K',he,fun j hj=>?_,hown,hll,hsame⟩
 rw [hsame j (Nat.lt_of_lt_of_le hj hA.len),hA j hj]
 intro i k len cap ex e
 have:=(ho.ge2 e).1
 omega
theorem ix22T:IxT 22 5:=⟨ln22n,ln22,ia22⟩
theorem ix24T:IxT 24 1:=⟨ln24n,ln24,ia24⟩
theorem ix25T:IxT 25 1:=⟨ln25n,ln25,ia25⟩
theorem ix30T:IxT 30 1:=⟨ln30n,ln30,ia30⟩
theorem ix31T:IxT 31 9:=⟨ln31n,ln31,ia31⟩
theorem ix32T:IxT 32 1:=⟨ln32n,ln32,ia32⟩
theorem ix62T:IxT 62 2:=⟨ln62n,ln62,ia62⟩
theorem ix63T:IxT 63 2:=⟨ln63n,ln63,ia63⟩
theorem ix64T:IxT 64 8:=⟨ln64n,ln64,ia64⟩
def rowQ (vc vm vs va:AV) (f:Con) (rc:List Bool) (en:Int):List AV:=[vc,vm]++rowF f++[vs,va]++rc.map AV.bool++[I en]
structure QueV (H:AH) (q:Nat) (vc vm vs va:AV) (f:Con) (ss:List (List Itm)) (ad:List Nat) (m:List (List Int)) (rc:List Bool) (en:Int):Prop where
 row:rdCells H q 0 28=some (rowQ vc vm vs va f rc en)
 m:MemR H m vm
 s:StrsR H ss vs
 a:SlS 30 1 H va (ad.map fun (n:Nat)=>[I (n:Int)])
 la:ad.length=ss.length
 le:∀ i,i < ss.length->ad.getD i 0<=(strAt ss i).length
 lr:rc.length=16
 ev:∀ l∈ss,∀ x∈l,(x.kind=3∨x.kind=4)->0<=x.ev/\x.ev < 16
 nn:∃ i k c e,va=.slice i k 1 ad.length c e
 few:(ss.map List.length).sum<=24
 fs:ss.length<=4
theorem QueV.sub {H K:AH} {q:Nat} {vc vm vs va:AV} {f:Con} {ss:List (List Itm)} {ad:List Nat} {m:List (List Int)} {rc:List Bool} {en:Int} (h:QueV H q vc vm vs va f ss ad m rc en) (hA:Sub H K):QueV K q vc vm vs va f ss ad m rc en:=
 { h with row:=hA.rd h.row,m:=h.m.sub hA,s:=h.s.sub hA,a:=h.a.sub hA }
theorem QueV.agree {H K:AH} {q:Nat} {vc vm vs va:AV} {f:Con} {ss:List (List Itm)} {ad:List Nat} {m:List (List Int)} {rc:List Bool} {en:Int} (h:QueV H q vc vm vs va f ss ad m rc en) (hA:Agree H K):QueV K q vc vm vs va f ss ad m rc en:=h.sub hA.sub
theorem QueV.ro {H:AH} {q:Nat} {vc vm vs va:AV} {f:Con} {ss:List (List Itm)} {ad:List Nat} {m:List (List Int)} {rc:List Bool} {en:Int} (h:QueV H q vc vm vs va f ss ad m rc en):QueV (ro H) q vc vm vs va f ss ad m rc en:=
 { h with row:=ro_rd h.row,m:=h.m.ro,s:=h.s.ro,a:=h.a.ro }
theorem QueV.cell {H K:AH} {q:Nat} {vc vm vs va:AV} {f:Con} {ss:List (List Itm)} {ad:List Nat} {m:List (List Int)} {rc:List Bool} {en:Int} (h:QueV H q vc vm vs va f ss ad m rc en) (hA:Agree H K) (L:AH) (j:Nat) {x:AV} (hx:(rowQ vc vm vs va f rc en)[j]? =some x):rdCells (K++L) q (0+j) 1=some [x]:=rd_same (hA.appR L) (rd_cell h.row hx)
theorem QueV.at {H K:AH} {q:Nat} {vc vm vs va:AV} {f:Con} {ss:List (List Itm)} {ad:List Nat} {m:List (List Int)} {rc:List Bool} {en:Int} (h:QueV H q vc vm vs va f ss ad m rc en) (hA:Agree H K) {j:Nat} (hj:j < ss.length):∃ i k,(∀ kk,indexAddrA Tryz.prog 30 va (.int kk (j:Int))=some (.ptr i k))/\∀ L,rdCells (K++L) i k 1=some [I (ad.getD j 0:Nat)]:=by
 have hj':j < ad.length:=by rw [h.la]; exact hj
 obtain ⟨i,k,hi,hr⟩:=h.a.ix j _ (by rw [List.getElem?_map,List.getElem?_eq_getElem hj']; rfl)
 refine ⟨i,k,hi,fun L=>?_⟩
 have:=row_rd hr hA L
 rwa [gde,List.getElem?_eq_getElem hj']
theorem rowQ_rc {vc vm vs va:AV} {f:Con} {rc:List Bool} {en:Int} (hr:rc.length=16) {e:Nat} (he:e < 16):(rowQ vc vm vs va f rc en)[11+e]? =some (.bool (rc.getD e false)):=by
 unfold rowQ rowF
 rw [List.getElem?_append_left (by simp [hr]; omega),List.getElem?_append_right (by simp)]
 simp only [List.length_append,List.length_cons,List.length_nil,List.getElem?_map,Nat.reduceAdd,Nat.add_sub_cancel_left]
 rw [List.getElem?_eq_getElem (by omega),gde,List.getElem?_eq_getElem (by omega)]; rfl
theorem rowQ_en {vc vm vs va:AV} {f:Con} {rc:List Bool} {en:Int} (hr:rc.length=16):(rowQ vc vm vs va f rc en)[27]? =some (I en):=by
 unfold rowQ rowF
 rw [List.getElem?_append_right (by simp [hr])]
 simp [hr]
def okS (ss:List (List Itm)) (ad:List Nat) (rc:List Bool) (s:Nat):Bool:=
 ltB (ad.getD s 0:Nat) ((strAt ss s).length:Int) && (!eqB (itmAt (strAt ss s) (ad.getD s 0)).kind 4 || rc.getD (itmAt (strAt ss s) (ad.getD s 0)).ev.toNat false)
def readyS (ss:List (List Itm)) (ad:List Nat) (rc:List Bool) (n:Nat):List Nat:=(List.range n).filter (okS ss ad rc)
def leftS (ss:List (List Itm)) (ad:List Nat) (n:Nat):List Nat:=(List.range n).map fun s=>(strAt ss s).length - ad.getD s 0
theorem readyS_succ (ss:List (List Itm)) (ad:List Nat) (rc:List Bool) (n:Nat):readyS ss ad rc (n+1)=if okS ss ad rc n then readyS ss ad rc n++[n] else readyS ss ad rc n:=by
 unfold readyS
 rw [List.range_succ,List.filter_append]
 cases h:okS ss ad rc n <;> simp [h]
theorem leftS_succ (ss:List (List Itm)) (ad:List Nat) (n:Nat):leftS ss ad (n+1)=leftS ss ad n++[(strAt ss n).length - ad.getD n 0]:=by
 unfold leftS
 rw [List.range_succ,List.map_append]; rfl
theorem readyS_len (ss:List (List Itm)) (ad:List Nat) (rc:List Bool) (n:Nat):(readyS ss ad rc n).length<=n:=by
 unfold readyS
 exact Nat.le_trans (List.length_filter_le _ _) (by rw [List.length_range]; exact Nat.le_refl _)
theorem leftS_le (ss:List (List Itm)) (ad:List Nat):(leftS ss ad ss.length).sum<=(ss.map List.length).sum:=by
 have h:ss.map List.length=(List.range ss.length).map fun s=>(strAt ss s).length:=by
   refine List.ext_getElem (by simp) fun i h1 h2=>?_
   simp only [List.getElem_map,List.getElem_range]
   rw [List.length_map] at h1
   unfold strAt
   rw [gde,List.getElem?_eq_getElem h1]; rfl
 rw [h]
 unfold leftS
 generalize List.range ss.length=l
 induction l with
 | nil=>exact Nat.le_refl _
 | cons x l ih=>simp only [List.map_cons,List.sum_cons]; omega
theorem take_sum_le (l:List Nat) (j:Nat):(l.take j).sum<=l.sum:=by
 have:=congrArg List.sum (List.take_append_drop j l)
 rw [List.sum_append] at this
 omega
def ints (l:List Nat):List (List AV):=l.map fun (n:Nat)=>[I (n:Int)]
theorem ints_flat (l:List Nat):(ints l).flatten=l.map fun (n:Nat)=>I (n:Int):=flat1 _ l
theorem ints_len (l:List Nat):∀ r∈ints l,r.length=1:=by
 intro r hr
 obtain ⟨n,_,rfl⟩:=List.mem_map.1 hr
 rfl
theorem Own.ints {b:Nat} {H:AH} {v:AV} {l:List Nat} (h:Own b H 1 3 v (l.map fun (n:Nat)=>I (n:Int))):SlS 30 1 H v (ints l):=
 Own.slsG ix30T (by decide) (by rw [ints_flat]; exact h) (ints_len l)
theorem at30:AppT Tryz.prog 30 (some 30) 3 1:=⟨by kernel_rfl,⟨I 0,by kernel_rfl,by kernel_rfl,by simp [AV.cells]⟩,by kernel_rfl,by kernel_rfl⟩
theorem by3:Tryz.prog.bytesOf 3=8:=by kernel_rfl
theorem bs30' (n:Int) (H:AH):buildSliceA Tryz.prog none 30 1 [(0,I n)] H=some (.slice H.length 0 1 1 1 true,H++[.cells [I n] 3]):=by kernel_rfl
theorem bs30 (n:Int) (H L:AH):buildSliceA Tryz.prog none 30 1 [(0,I n)] (H++L)=some (.slice (H.length+L.length) 0 1 1 1 true,H++(L++[.cells [I n] 3])):=by rw [bs30',List.length_append,List.append_assoc]
theorem app_int {G K:AH} {v:AV} {l:List Nat} (hA:Agree G K) (ho:Own G.length K 1 3 v (l.map fun (n:Nat)=>I (n:Int))) (hl:l.length < 2 ^ 30) (n:Nat) :
   ∃ v' K',appendA Tryz.prog none 30 (some 30) v (.slice K.length 0 1 1 1 true) (K++[.cells [I (n:Int)] 3])=some (v',K')/\Agree G K'/\Own G.length K' 1 3 v' ((l++[n]).map fun (n:Nat)=>I (n:Int))/\K.length<=K'.length/\(∀ j,j < K.length->(∀ i k len cap ex,v=.slice i k 1 len cap ex->j≠i)->K'[j]? =K[j]?):=by
 have hlen:=ho.length
 rw [List.length_map,Nat.mul_one] at hlen
 have ho':Own G.length (K++[.cells [I (n:Int)] 3]) 1 3 v (l.map fun (n:Nat)=>I (n:Int)):=ho.agree (Agree.app _ _)
 have hrow:Row (K++[.cells [I (n:Int)] 3]) 1 (.slice K.length 0 1 1 1 true) [I (n:Int)]:=.at _ _ _ _ _ _ (by rw [rd_app0]; rfl)
 obtain ⟨v',K',he,h1,h2,h3,h4⟩:=app_rows at30 (hA.appR _) ho' hrow rfl (by
   rw [by3,<-hlen,lenOfA_slice]; unfold growOk; rw [Bool.and_eq_true,decide_eq_true_iff,decide_eq_true_iff]; constructor <;> omega)
 refine ⟨v',K',he,h1,by rw [List.map_append]; exact h2,by rw [List.length_append] at h3; exact Nat.le_trans (Nat.le_add_right _ _) h3,fun j hj hn=>?_⟩
 rw [h4 j (by rw [List.length_append]; exact Nat.lt_add_right _ hj) hn,List.getElem?_append_left hj]
end Go.Dv
namespace Go.Dv.Qu
structure Item where
 kind:Int
 code:Int
 grid:Int
 block:Int
 frm:Int
 dst:Int
 event:Int
 args:List Int
 word:Int
 deriving DecidableEq,Inhabited
abbrev Streams:=List (List Item)
def item? (S:Streams) (s k:Nat):Option Item:=(S[s]?).bind (·[k]?)
inductive Exec (S:Streams):Nat->Nat->Prop
 | free (s k:Nat) (x:Item):item? S s k=some x->(∀ j,j < k->Exec S s j)->x.kind≠4->Exec S s k
 | wait (s k:Nat) (x:Item) (t i:Nat) (y:Item):item? S s k=some x->(∀ j,j < k->Exec S s j)->item? S t i=some y->y.kind=3->y.event=x.event->Exec S t i->Exec S s k
theorem Exec.mk {S:Streams} (s k:Nat) (x:Item) (h:item? S s k=some x) (hj:∀ j,j < k->Exec S s j)
   (hw:x.kind=4->∃ t j y,item? S t j=some y/\y.kind=3/\y.event=x.event/\Exec S t j):Exec S s k:=by
 by_cases e:x.kind=4
 · obtain ⟨t,i,y,h1,h2,h3,h4⟩:=hw e
   exact .wait s k x t i y h hj h1 h2 h3 h4
 · exact .free s k x h hj e
theorem Exec.ind {S:Streams} {P:Nat->Nat->Prop} (step:∀ s k x,item? S s k=some x->(∀ j,j < k->Exec S s j)->(x.kind=4->∃ t j y,item? S t j=some y/\y.kind=3/\y.event=x.event/\Exec S t j) ->
     (∀ j,j < k->P s j)->(x.kind=4->∃ t j y,item? S t j=some y/\y.kind=3/\y.event=x.event/\P t j)->P s k) {s k:Nat} (h:Exec S s k):P s k:=by
 induction h with
 | free s k x h hj hn ih=>exact step s k x h hj (fun e=>absurd e hn) ih fun e=>absurd e hn
 | wait s k x t i y h hj h1 h2 h3 h4 ih ih2=>exact step s k x h hj (fun _=>⟨t,i,y,h1,h2,h3,h4⟩) ih fun _=>⟨t,i,y,h1,h2,h3,ih2⟩
def okAt (S:Streams) (a:List Nat) (R:Int->Bool) (s:Nat):Bool:=match item? S s (a.getD s 0) with
 | some x=>x.kind != 4 || R x.event
 | none=>false
def ready (S:Streams) (a:List Nat) (R:Int->Bool):List Nat:=(List.range S.length).filter (okAt S a R)
def recd (R:Int->Bool) (x:Item):Int->Bool:=if x.kind=3 then fun e=>R e || e == x.event else R
inductive Reach (S:Streams):List Nat->(Int->Bool)->Prop
 | init:Reach S (List.replicate S.length 0) (fun _=>false)
 | step {a:List Nat} {R:Int->Bool} {s:Nat} {x:Item}:Reach S a R->s∈ready S a R->item? S s (a.getD s 0)=some x->Reach S (a.set s (a.getD s 0+1)) (recd R x)
theorem item_lt {S:Streams} {s k:Nat} {x:Item} (h:item? S s k=some x):s < S.length/\k < (S.getD s []).length:=by
 unfold item? at h
 rcases Nat.lt_or_ge s S.length with hs | hs
 · rw [List.getElem?_eq_getElem hs] at h
   simp only [Option.bind_some] at h
   refine ⟨hs,?_⟩
   rw [gde,List.getElem?_eq_getElem hs,Option.getD_some]
   rcases Nat.lt_or_ge k S[s].length with hk | hk
   · exact hk
   · rw [List.getElem?_eq_none hk] at h; cases h
 · rw [List.getElem?_eq_none hs] at h; cases h
theorem item_of {S:Streams} {s k:Nat} (h:k < (S.getD s []).length):∃ x,item? S s k=some x:=by
 unfold item?
 rcases Nat.lt_or_ge s S.length with hs | hs
 · rw [gde,List.getElem?_eq_getElem hs,Option.getD_some] at h
   rw [List.getElem?_eq_getElem hs]
   exact ⟨_,List.getElem?_eq_getElem h⟩
 · rw [gde,List.getElem?_eq_none hs] at h; simp at h
theorem mem_ready {S:Streams} {a:List Nat} {R:Int->Bool} {s:Nat}:s∈ready S a R↔∃ x,item? S s (a.getD s 0)=some x/\(x.kind=4->R x.event=true):=by
 unfold ready okAt
 rw [List.mem_filter,List.mem_range]
 constructor
 · rintro ⟨_,h⟩
   split at h
   · rename_i x hx
     refine ⟨x,hx,fun e=>?_⟩
     simpa [e] using h
   · cases h
 · rintro ⟨x,hx,h⟩
   refine ⟨(item_lt hx).1,?_⟩
   rw [hx]
   by_cases e:x.kind=4 <;> simp [e]
   exact h e
theorem Reach.length {S:Streams} {a:List Nat} {R:Int->Bool} (h:Reach S a R):a.length=S.length:=by
 induction h with
 | init=>simp
 | step _ _ _ ih=>simp [ih]
theorem getD_set {a:List Nat} {s t n:Nat} (h:s < a.length):(a.set s n).getD t 0=if t=s then n else a.getD t 0:=by
 rw [gde,gde,List.getElem?_set]
 by_cases e:s=t
 · subst e; simp [h]
 · simp [e,Ne.symm e]
theorem Reach.inv {S:Streams} {a:List Nat} {R:Int->Bool} (h:Reach S a R) :
   (∀ s,a.getD s 0<=(S.getD s []).length)/\(∀ s k,k < a.getD s 0->Exec S s k) /\
   (∀ e,R e=true↔∃ s k x,k < a.getD s 0/\item? S s k=some x/\x.kind=3/\x.event=e):=by
 induction h with
 | init =>
   have h0:∀ s,(List.replicate S.length 0).getD s 0=0:=fun s=>by
     rw [gde,List.getElem?_replicate]; split <;> rfl
   refine ⟨fun s=>by rw [h0]; omega,fun s k hk=>by rw [h0] at hk; omega,fun e=>⟨fun h=>by simp at h,?_⟩⟩
   rintro ⟨s,k,x,hk,_⟩
   rw [h0] at hk; omega
 | @step a R s x hr hs hx ih =>
   obtain ⟨i1,i2,i3⟩:=ih
   have hsl:s < a.length:=by rw [hr.length]; exact (item_lt hx).1
   have hk:=(item_lt hx).2
   obtain ⟨y,hy,hw⟩:=mem_ready.1 hs
   rw [hx] at hy; cases hy
   have hex:Exec S s (a.getD s 0):=.mk s _ x hx (fun j hj=>i2 s j hj) fun h4=>by
     obtain ⟨t,j,y,hj,hy,h3,he⟩:=(i3 x.event).1 (hw h4)
     exact ⟨t,j,y,hy,h3,he,i2 t j hj⟩
   refine ⟨fun t=>?_,fun t k htk=>?_,fun e=>?_⟩
   · rw [getD_set hsl]; split
     · rename_i e; subst e; omega
     · exact i1 t
   · rw [getD_set hsl] at htk
     split at htk
     · rename_i e; subst e
       rcases Nat.lt_or_ge k (a.getD t 0) with h | h
       · exact i2 t k h
       · have:k=a.getD t 0:=by omega
         subst this; exact hex
     · exact i2 t k htk
   · have key:recd R x e=true↔R e=true∨(x.kind=3/\x.event=e):=by
       unfold recd
       by_cases h3:x.kind=3
       · rw [if_pos h3,Bool.or_eq_true,beq_iff_eq]
         exact ⟨fun h=>h.imp id fun h=>⟨h3,h.symm⟩,fun h=>h.imp id fun h=>h.2.symm⟩
       · rw [if_neg h3]
         exact ⟨.inl,fun h=>h.elim id fun h=>absurd h.1 h3⟩
     rw [key,i3]
     constructor
     · rintro (⟨t,k,y,hk',hy,h3,he⟩ | ⟨h3,he⟩)
       · refine ⟨t,k,y,?_,hy,h3,he⟩
         rw [getD_set hsl]; split
         · rename_i e'; subst e'; omega
         · exact hk'
       · refine ⟨s,_,x,?_,hx,h3,he⟩
         rw [getD_set hsl,if_pos rfl]; omega
     · rintro ⟨t,k,y,hk',hy,h3,he⟩
       rw [getD_set hsl] at hk'
       split at hk'
       · rename_i e'; subst e'
         rcases Nat.lt_or_ge k (a.getD t 0) with h | h
         · exact .inl ⟨t,k,y,h,hy,h3,he⟩
         · have:k=a.getD t 0:=by omega
           subst this
           rw [hx] at hy; cases hy
           exact .inr ⟨h3,he⟩
       · exact .inl ⟨t,k,y,hk',hy,h3,he⟩
theorem Reach.done {S:Streams} {a:List Nat} {R:Int->Bool} (h:Reach S a R) (h0:ready S a R=[]):∀ {s k},Exec S s k->k < a.getD s 0:=by
 obtain ⟨i1,i2,i3⟩:=h.inv
 intro s k he
 refine Exec.ind (P:=fun s k=>k < a.getD s 0) ?_ he
 intro s k x hx hj hw ih1 ih2
 · rcases Nat.lt_or_ge k (a.getD s 0) with h | h
   · exact h
   · exfalso
     have hk:a.getD s 0=k:=by
       rcases Nat.lt_or_ge (a.getD s 0) k with h' | h'
       · exact absurd (ih1 _ h') (by omega)
       · omega
     have:s∈ready S a R:=mem_ready.2 ⟨x,by rw [hk]; exact hx,fun h4=>by
       obtain ⟨t,j,y,hy,h3,hev,_⟩:=hw h4
       obtain ⟨t',j',y',hy',h3',hev',hlt⟩:=ih2 h4
       exact (i3 _).2 ⟨t',j',y',hlt,hy',h3',hev'⟩⟩
     rw [h0] at this; simp at this
theorem ext_getD {a b:List Nat} (hl:a.length=b.length) (h:∀ s,a.getD s 0=b.getD s 0):a=b:=by
 apply List.ext_getElem?
 intro s
 have:=h s
 rw [gde,gde] at this
 rcases Nat.lt_or_ge s a.length with hs | hs
 · rw [List.getElem?_eq_getElem hs,List.getElem?_eq_getElem (hl ▸ hs)] at this ⊢
   simpa using this
 · rw [List.getElem?_eq_none hs,List.getElem?_eq_none (hl ▸ hs)]
theorem Reach.uniq {S:Streams} {a b:List Nat} {R Q:Int->Bool} (h:Reach S a R) (h0:ready S a R=[]) (k:Reach S b Q) (k0:ready S b Q=[]):a=b/\R=Q:=by
 have hl:=h.length.trans k.length.symm
 have e:a=b:=ext_getD hl fun s=>by
   rcases Nat.lt_trichotomy (a.getD s 0) (b.getD s 0) with hc | hc | hc
   · exact absurd (h.done h0 (k.inv.2.1 s _ hc)) (by omega)
   · exact hc
   · exact absurd (k.done k0 (h.inv.2.1 s _ hc)) (by omega)
 subst e
 refine ⟨rfl,funext fun e=>?_⟩
 rw [Bool.eq_iff_iff,h.inv.2.2 e,k.inv.2.2 e]
def left (S:Streams) (a:List Nat):List Nat:=(List.range S.length).map fun s=>(S.getD s []).length - a.getD s 0
end Go.Dv.Qu
