/- Part 32 of the walks (own work). -/
import Derived.Test.YtilpjnckfkjkbaaGreatDoorZ31
set_option maxRecDepth 100000
set_option maxHeartbeats 4000000
set_option linter.unusedSimpArgs false
set_option linter.unusedVariables false
namespace Go.Dv
open Go.Proofs
def ssA:List (List Itm):=[[⟨2,0,0,0,0,0,0,[],5⟩,⟨3,0,0,0,0,0,1,[],0⟩],[⟨4,0,0,0,0,0,1,[],0⟩,⟨1,0,0,0,0,1,0,[],0⟩]]
def mA:List (List Int):=[[1,2],[0,0]]
def stA5 (j:Nat):List Nat × List Qu.Place:=([([0,0],[]),([1,0],[(0,0)]),([2,0],[(0,0),(0,1)]),([2,1],[(0,0),(0,1),(1,0)]),([2,2],[(0,0),(0,1),(1,0),(1,1)])]:List (List Nat × List Qu.Place)).getD j ([],[])
def rA5 (j:Nat):Int->Bool:=if j < 2 then fun _=>false else fun e=>false || e == 1
theorem rt_awake {a:List Nat} {R:Int->Bool} {L:List Qu.Place} (h:Qu.RT (qS ssA) a R L):∃ j,j < 5/\(a,L)=stA5 j/\R=rA5 j:=by
 induction h with
 | init=>exact ⟨0,by omega,rfl,rfl⟩
 | @step a R L s x hr hs hx ih =>
   obtain ⟨j,hj,e,rfl⟩:=ih
   match j,hj with
   | 0,_ =>
     obtain ⟨rfl,rfl⟩:=Prod.mk.inj e
     have:Qu.ready (qS ssA) [0,0] (rA5 0)=[0]:=by decide
     rw [this] at hs
     simp at hs
     subst hs
     cases hx
     exact ⟨1,by omega,rfl,rfl⟩
   | 1,_ =>
     obtain ⟨rfl,rfl⟩:=Prod.mk.inj e
     have:Qu.ready (qS ssA) [1,0] (rA5 1)=[0]:=by decide
     rw [this] at hs
     simp at hs
     subst hs
     cases hx
     exact ⟨2,by omega,rfl,rfl⟩
   | 2,_ =>
     obtain ⟨rfl,rfl⟩:=Prod.mk.inj e
     have:Qu.ready (qS ssA) [2,0] (rA5 2)=[1]:=by decide
     rw [this] at hs
     simp at hs
     subst hs
     cases hx
     exact ⟨3,by omega,rfl,rfl⟩
   | 3,_ =>
     obtain ⟨rfl,rfl⟩:=Prod.mk.inj e
     have:Qu.ready (qS ssA) [2,1] (rA5 3)=[1]:=by decide
     rw [this] at hs
     simp at hs
     subst hs
     cases hx
     exact ⟨4,by omega,rfl,rfl⟩
   | 4,_ =>
     obtain ⟨rfl,rfl⟩:=Prod.mk.inj e
     have:Qu.ready (qS ssA) [2,2] (rA5 4)=[]:=by decide
     rw [this] at hs
     simp at hs
theorem evokA:EvOk ssA:=by
 intro l hl x hx hk
 simp only [ssA,List.mem_cons,List.not_mem_nil,or_false] at hl
 rcases hl with rfl | rfl <;> simp only [List.mem_cons,List.not_mem_nil,or_false] at hx <;> rcases hx with rfl | rfl <;> simp
theorem awake_end {ad:List Nat} {m:List (List Int)} {rc:List Bool} (ht:Trod ssA mA ad m rc) (hb:endB ssA ad rc=true):m=[[5,5],[5,5]]/\endE ssA ad rc=0:=by
 obtain ⟨L,hr,rfl⟩:=ht
 obtain ⟨j,hj,e,hR⟩:=rt_awake hr
 unfold endB at hb
 rw [<-ready_eq evokA,hR] at hb
 match j,hj with
 | 0,_ =>
   obtain ⟨rfl,rfl⟩:=Prod.mk.inj e
   have:((leftS ssA [0,0] ssA.length).sum == 0 || (Qu.ready (qS ssA) [0,0] (rA5 0)).isEmpty)=false:=by decide
   rw [this] at hb; cases hb
 | 1,_ =>
   obtain ⟨rfl,rfl⟩:=Prod.mk.inj e
   have:((leftS ssA [1,0] ssA.length).sum == 0 || (Qu.ready (qS ssA) [1,0] (rA5 1)).isEmpty)=false:=by decide
   rw [this] at hb; cases hb
 | 2,_ =>
   obtain ⟨rfl,rfl⟩:=Prod.mk.inj e
   have:((leftS ssA [2,0] ssA.length).sum == 0 || (Qu.ready (qS ssA) [2,0] (rA5 2)).isEmpty)=false:=by decide
   rw [this] at hb; cases hb
 | 3,_ =>
   obtain ⟨rfl,rfl⟩:=Prod.mk.inj e
   have:((leftS ssA [2,1] ssA.length).sum == 0 || (Qu.ready (qS ssA) [2,1] (rA5 3)).isEmpty)=false:=by decide
   rw [this] at hb; cases hb
 | 4,_ =>
   obtain ⟨rfl,rfl⟩:=Prod.mk.inj e
   exact ⟨by decide,by unfold endE; rw [if_pos (by decide)]⟩
end Go.Dv
namespace Go.Dv
open Go.Proofs
attribute [local congr] bind_congr_first cb_congr condA_congr gd_congr br_congr
theorem bs32two' (x y:Int) (H:AH):buildSliceA Tryz.prog none 32 2 [(0,.int .i32 x),(1,.int .i32 y)] H=some (.slice H.length 0 1 2 2 true,H++[.cells [.int .i32 x,.int .i32 y] 21]):=by kernel_rfl
theorem bs32two (x y:Int) (H L:AH):buildSliceA Tryz.prog none 32 2 [(0,.int .i32 x),(1,.int .i32 y)] (H++L)=some (.slice (H.length+L.length) 0 1 2 2 true,H++(L++[.cells [.int .i32 x,.int .i32 y] 21])):=by rw [bs32two',List.length_append,List.append_assoc]
theorem bs24two' (i j:Nat) (H:AH):buildSliceA Tryz.prog none 24 2 [(0,.slice i 0 1 2 2 true),(1,.slice j 0 1 2 2 true)] H=some (.slice H.length 0 1 2 2 true,H++[.cells [.slice i 0 1 2 2 true,.slice j 0 1 2 2 true] 32]):=by kernel_rfl
theorem bs24two (i j:Nat) (H L:AH):buildSliceA Tryz.prog none 24 2 [(0,.slice i 0 1 2 2 true),(1,.slice j 0 1 2 2 true)] (H++L)=some (.slice (H.length+L.length) 0 1 2 2 true,H++(L++[.cells [.slice i 0 1 2 2 true,.slice j 0 1 2 2 true] 32])):=by rw [bs24two',List.length_append,List.append_assoc]
theorem bs25two' (i j:Nat) (H:AH):buildSliceA Tryz.prog none 25 2 [(0,.slice i 0 9 2 2 true),(1,.slice j 0 9 2 2 true)] H=some (.slice H.length 0 1 2 2 true,H++[.cells [.slice i 0 9 2 2 true,.slice j 0 9 2 2 true] 31]):=by kernel_rfl
theorem bs25two (i j:Nat) (H L:AH):buildSliceA Tryz.prog none 25 2 [(0,.slice i 0 9 2 2 true),(1,.slice j 0 9 2 2 true)] (H++L)=some (.slice (H.length+L.length) 0 1 2 2 true,H++(L++[.cells [.slice i 0 9 2 2 true,.slice j 0 9 2 2 true] 31])):=by rw [bs25two',List.length_append,List.append_assoc]
theorem bs31A'  (H:AH):buildSliceA Tryz.prog none 31 2 [(0,.agg [I 2,I 0,I 0,I 0,I 0,I 0,I 0,.nilSlice,.int .i32 5]),(1,.agg [I 3,I 0,I 0,I 0,I 0,I 0,I 1,.nilSlice,.int .i32 0])] H=some (.slice H.length 0 9 2 2 true,H++[.cells [I 2,I 0,I 0,I 0,I 0,I 0,I 0,.nilSlice,.int .i32 5,I 3,I 0,I 0,I 0,I 0,I 0,I 1,.nilSlice,.int .i32 0] 34]):=by kernel_rfl
theorem bs31A  (H L:AH):buildSliceA Tryz.prog none 31 2 [(0,.agg [I 2,I 0,I 0,I 0,I 0,I 0,I 0,.nilSlice,.int .i32 5]),(1,.agg [I 3,I 0,I 0,I 0,I 0,I 0,I 1,.nilSlice,.int .i32 0])] (H++L)=some (.slice (H.length+L.length) 0 9 2 2 true,H++(L++[.cells [I 2,I 0,I 0,I 0,I 0,I 0,I 0,.nilSlice,.int .i32 5,I 3,I 0,I 0,I 0,I 0,I 0,I 1,.nilSlice,.int .i32 0] 34])):=by rw [bs31A',List.length_append,List.append_assoc]
theorem bs31B'  (H:AH):buildSliceA Tryz.prog none 31 2 [(0,.agg [I 4,I 0,I 0,I 0,I 0,I 0,I 1,.nilSlice,.int .i32 0]),(1,.agg [I 1,I 0,I 0,I 0,I 0,I 1,I 0,.nilSlice,.int .i32 0])] H=some (.slice H.length 0 9 2 2 true,H++[.cells [I 4,I 0,I 0,I 0,I 0,I 0,I 1,.nilSlice,.int .i32 0,I 1,I 0,I 0,I 0,I 0,I 1,I 0,.nilSlice,.int .i32 0] 34]):=by kernel_rfl
theorem bs31B  (H L:AH):buildSliceA Tryz.prog none 31 2 [(0,.agg [I 4,I 0,I 0,I 0,I 0,I 0,I 1,.nilSlice,.int .i32 0]),(1,.agg [I 1,I 0,I 0,I 0,I 0,I 1,I 0,.nilSlice,.int .i32 0])] (H++L)=some (.slice (H.length+L.length) 0 9 2 2 true,H++(L++[.cells [I 4,I 0,I 0,I 0,I 0,I 0,I 1,.nilSlice,.int .i32 0,I 1,I 0,I 0,I 0,I 0,I 1,I 0,.nilSlice,.int .i32 0] 34])):=by rw [bs31B',List.length_append,List.append_assoc]
theorem blA1:buildA Tryz.prog 34 [(0,I 2),(8,.int .i32 5)]=some (.agg [I 2,I 0,I 0,I 0,I 0,I 0,I 0,.nilSlice,.int .i32 5]):=by kernel_rfl
theorem blA2:buildA Tryz.prog 34 [(0,I 3),(6,I 1)]=some (.agg [I 3,I 0,I 0,I 0,I 0,I 0,I 1,.nilSlice,.int .i32 0]):=by kernel_rfl
theorem blA3:buildA Tryz.prog 34 [(0,I 4),(6,I 1)]=some (.agg [I 4,I 0,I 0,I 0,I 0,I 0,I 1,.nilSlice,.int .i32 0]):=by kernel_rfl
theorem blA4:buildA Tryz.prog 34 [(0,I 1),(5,I 1)]=some (.agg [I 1,I 0,I 0,I 0,I 0,I 1,I 0,.nilSlice,.int .i32 0]):=by kernel_rfl
theorem bl29A (i j:Nat):buildA Tryz.prog 29 [(1,.slice i 0 1 2 2 true),(3,.agg [I 1,.bool false,I 1,I 1,I 0,I 0,I 0]),(2,.slice j 0 1 2 2 true)]=some (.agg [.nilSlice,.slice i 0 1 2 2 true,.slice j 0 1 2 2 true,I 1,.bool false,I 1,I 1,I 0,I 0,I 0]):=by kernel_rfl
theorem z29:zeroA Tryz.prog 29=some (.agg [.nilSlice,.nilSlice,.nilSlice,I 0,.bool false,I 0,I 0,I 0,I 0,I 0]):=by kernel_rfl
theorem rd_of {K:AH} {i:Nat} {cs:List AV} {e:TypeId} (h:K[i]? =some (.cells cs e)):okC K i=true/\rdCells K i 0 cs.length=some cs:=by
 constructor
 · unfold okC; rw [h]
 · unfold rdCells; rw [h]; simp
theorem sls_two {T es:Nat} (X:IxT T es) {K:AH} {i:Nat} {r1 r2:List AV} {e:TypeId} (h1:r1.length=es) (h2:r2.length=es) (h:K[i]? =some (.cells (r1++r2) e)):SlS T es K (.slice i 0 es 2 2 true) [r1,r2]:=by
 obtain ⟨a,b⟩:=rd_of h
 refine sls_of X (k:=0) (c:=2) (e:=true) (rows:=[r1,r2]) (fun r hr=>?_) a ?_
 · simp only [List.mem_cons,List.not_mem_nil,or_false] at hr
   rcases hr with rfl | rfl <;> assumption
 · rw [show [r1,r2].flatten=r1++r2 by simp,show [r1,r2].length * es=(r1++r2).length by rw [List.length_append,h1,h2]; simp; omega]
   exact b
theorem mem2 {K:AH} {a b c:Nat} {x y z u:Int} (h1:K[a]? =some (.cells [.int .i32 x,.int .i32 y] 21)) (h2:K[b]? =some (.cells [.int .i32 z,.int .i32 u] 21)) (h3:K[c]? =some (.cells [.slice a 0 1 2 2 true,.slice b 0 1 2 2 true] 32)) (hx:i32R x) (hy:i32R y) (hz:i32R z) (hu:i32R u):MemR K [[x,y],[z,u]] (.slice c 0 1 2 2 true):=by
 refine ⟨⟨[([x,y],.slice a 0 1 2 2 true),([z,u],.slice b 0 1 2 2 true)],rfl,sls_two ix24T rfl rfl h3,fun p hp=>?_⟩,by simp,fun r hr=>?_,fun r hr n hn=>?_⟩
 · simp only [List.mem_cons,List.not_mem_nil,or_false] at hp
   rcases hp with rfl | rfl
   · exact sls_two ix32T (r1:=row1 x) (r2:=row1 y) rfl rfl h1
   · exact sls_two ix32T (r1:=row1 z) (r2:=row1 u) rfl rfl h2
 · simp only [List.mem_cons,List.not_mem_nil,or_false] at hr
   rcases hr with rfl | rfl <;> simp
 · simp only [List.mem_cons,List.not_mem_nil,or_false] at hr
   rcases hr with rfl | rfl <;> simp only [List.mem_cons,List.not_mem_nil,or_false] at hn <;> rcases hn with rfl | rfl <;> assumption
theorem i32_0:i32R 0:=by unfold i32R; omega
theorem i32_s {n:Int} (h0:-1000<=n) (h1:n<=1000):i32R n:=by unfold i32R; omega
theorem itms2 {K:AH} {c:Nat} {x y:Itm} (hx:x.args=[]) (hy:y.args=[]) (wx:i32R x.word) (wy:i32R y.word) (h:K[c]? =some (.cells (rowX x .nilSlice++rowX y .nilSlice) 34)):ItmsR K [x,y] (.slice c 0 9 2 2 true):=by
 refine ⟨⟨[(x,.nilSlice),(y,.nilSlice)],rfl,sls_two ix31T rfl rfl h,fun p hp=>?_⟩,by simp,fun r hr=>?_,fun r hr n hn=>?_,fun r hr=>?_⟩
 · simp only [List.mem_cons,List.not_mem_nil,or_false] at hp
   rcases hp with rfl | rfl
   · rw [hx]; exact sls_nil ix32T K
   · rw [hy]; exact sls_nil ix32T K
 · simp only [List.mem_cons,List.not_mem_nil,or_false] at hr
   rcases hr with rfl | rfl
   · rw [hx]; simp
   · rw [hy]; simp
 · simp only [List.mem_cons,List.not_mem_nil,or_false] at hr
   rcases hr with rfl | rfl
   · rw [hx] at hn; simp at hn
   · rw [hy] at hn; simp at hn
 · simp only [List.mem_cons,List.not_mem_nil,or_false] at hr
   rcases hr with rfl | rfl <;> assumption
theorem strs2 {K:AH} {a b c:Nat} {l1 l2:List Itm} (h1:ItmsR K l1 (.slice a 0 9 2 2 true)) (h2:ItmsR K l2 (.slice b 0 9 2 2 true)) (h3:K[c]? =some (.cells [.slice a 0 9 2 2 true,.slice b 0 9 2 2 true] 31)):StrsR K [l1,l2] (.slice c 0 1 2 2 true):=by
 refine ⟨⟨[(l1,.slice a 0 9 2 2 true),(l2,.slice b 0 9 2 2 true)],rfl,sls_two ix25T rfl rfl h3,fun p hp=>?_⟩,by simp⟩
 simp only [List.mem_cons,List.not_mem_nil,or_false] at hp
 rcases hp with rfl | rfl <;> assumption
theorem chkA:checkP [] mA ssA plainC=0:=by decide +kernel
theorem ordA:ordB [] ssA=true:=by decide +kernel
theorem get_at {K L:AH} {n:Nat} {o:AObj} (h:L[n]? =some o):(K++L)[K.length+n]? =some o:=by
 rw [List.getElem?_append_right (Nat.le_add_right _ _),Nat.add_sub_cancel_left]; exact h
def awH (B:Nat):AH:=[.cells [.int .i32 1,.int .i32 2] 21,.cells [.int .i32 0,.int .i32 0] 21,.cells [.slice B 0 1 2 2 true,.slice (B+1) 0 1 2 2 true] 32,.cells [I 2,I 0,I 0,I 0,I 0,I 0,I 0,.nilSlice,.int .i32 5,I 3,I 0,I 0,I 0,I 0,I 0,I 1,.nilSlice,.int .i32 0] 34,.cells [I 4,I 0,I 0,I 0,I 0,I 0,I 1,.nilSlice,.int .i32 0,I 1,I 0,I 0,I 0,I 0,I 1,I 0,.nilSlice,.int .i32 0] 34,.cells [.slice (B+3) 0 9 2 2 true,.slice (B+4) 0 9 2 2 true] 31,.cells [.nilSlice,.slice (B+2) 0 1 2 2 true,.slice (B+5) 0 1 2 2 true,I 1,.bool false,I 1,I 1,I 0,I 0,I 0] 29]
theorem ev9 (H:AH):Ev Tryz.prog C0 W0 9 [] H=some (.bool true,H):=by
 have g0:(([]:List AV)++List.replicate (62 - ([]:List AV).length) uA).length=62:=by simp
 rw [fe9]
 rw [<-List.append_nil (ro H)]
 generalize ([]:List AV)++List.replicate (62 - ([]:List AV).length) uA=tm at *
 have hq0:eqB 0 0=true:=rfl
 generalize hG:ro H=G
 have gt:∀ {n:Nat} {o:AObj},(awH G.length)[n]? =some o->(G++awH G.length)[G.length+n]? =some o:=fun h=>get_at h
 have hm:MemR (G++awH G.length) mA (.slice (G.length+2) 0 1 2 2 true):=mem2 (gt (n:=0) rfl) (gt (n:=1) rfl) (gt (n:=2) rfl) (i32_s (by decide) (by decide)) (i32_s (by decide) (by decide)) i32_0 i32_0
 have hs:StrsR (G++awH G.length) ssA (.slice (G.length+5) 0 1 2 2 true):=strs2 (itms2 rfl rfl (i32_s (by decide) (by decide)) i32_0 (gt (n:=3) rfl)) (itms2 rfl rfl i32_0 i32_0 (gt (n:=4) rfl)) (gt (n:=5) rfl)
 have hc:CodsR (G++awH G.length) [] .nilSlice:=⟨⟨[],rfl,sls_nil ix22T _,fun p hp=>by simp at hp⟩,by simp⟩
 obtain ⟨v,K,ad,m',rc',h17,hS,hlK,hm',_,htr,hend,_⟩:=ev17 hc hm hs plainC chkA (fun l hl x hx=>by
   simp only [ssA,List.mem_cons,List.not_mem_nil,or_false] at hl
   rcases hl with rfl | rfl <;> simp only [List.mem_cons,List.not_mem_nil,or_false] at hx <;> rcases hx with rfl | rfl <;> simp)
 obtain ⟨rfl,he0⟩:=awake_end htr hend
 rw [he0] at h17
 have hgood:=good_of (f:=plainC) (fun l hl=>by
   simp only [ssA,List.mem_cons,List.not_mem_nil,or_false] at hl
   rcases hl with rfl | rfl <;> simp) chkA
 have h18:=ev18 (hc.sub hS) (hm.sub hS) (hs.sub hS) chkA hgood
 rw [ordA] at h18
 have hp:rdCells (G++awH G.length) (G.length+6) 0 10=some [.nilSlice,.slice (G.length+2) 0 1 2 2 true,.slice (G.length+5) 0 1 2 2 true,I 1,.bool false,I 1,I 1,I 0,I 0,I 0]:=(rd_of (gt (n:=6) rfl)).2
 have hpK:=hS.rd hp
 have p0:=rd_cell hpK (j:=0) rfl
 have p1:=rd_cell hpK (j:=1) rfl
 have p2:=rd_cell hpK (j:=2) rfl
 simp only [Nat.zero_add] at p0 p1 p2
 have hA2:=Agree.app K [.cells [.int .i32 5,.int .i32 5] 21,.cells [.int .i32 5,.int .i32 5] 21,.cells [.slice K.length 0 1 2 2 true,.slice (K.length+1) 0 1 2 2 true] 32]
 have h25:=ev25 (hm'.agree hA2) (mem2 (K:=K++[.cells [.int .i32 5,.int .i32 5] 21,.cells [.int .i32 5,.int .i32 5] 21,.cells [.slice K.length 0 1 2 2 true,.slice (K.length+1) 0 1 2 2 true] 32]) (get_at (n:=0) rfl) (get_at (n:=1) rfl) (get_at (n:=2) rfl) (i32_s (n:=5) (by decide) (by decide)) (i32_s (n:=5) (by decide) (by decide)) (i32_s (n:=5) (by decide) (by decide)) (i32_s (n:=5) (by decide) (by decide)))
 have k1:=fun x y=>bs32two x y K []
 have k2:=fun x y L=>bs32two x y K L
 have k3:=fun i j L=>bs24two i j K L
 rw [List.append_nil] at k1
 simp only [rowF,plainC,awH] at h17
 simp -implicitDefEqProofs only [c9,Tryz.f9,aP,g0,bs32two,bs24two,bs25two,bs31A,bs31B,blA1,blA2,blA3,blA4,bl27,bl29A,z29,ld29,st29,↓fc17,h17,p0,p1,p2,↓fc18,h18,hq0,k1,k2,k3,↓fc25,h25,r5,↓evLd,nck,↓cbT,↓cbF,↓evDn,evUp,eu,sevalprocAttr]
 trace_state
theorem rc_cod {G:AH} {cs:List Cod} {m:List (List Int)} {ss:List (List Itm)} {vc vm vs:AV} {q:Nat} (hc:CodsR G cs vc) (hm:MemR G m vm) (hs:StrsR G ss vs) (hN:cs.length < 2 ^ 60):∀ (d j:Nat) (tm:List AV) (K:AH),cs.length - j=d->j<=cs.length->Agree G K->tm.length=103->tm.getD 0 uA=vc->tm.getD 1 uA=vm->tm.getD 2 uA=vs->tm.getD 7 uA=.ptr q 0->tm.getD 9 uA=I ((j:Nat):Int) ->
   ∃ X Y K1 K2,EvC Tryz.prog C0 W0 plN l16_0 (tm,K)=br (allF (fun j=>validP (codAt cs j)) (cs.length) (j)) (some (.exit 0,(X,K1))) (some (.ret,(Y,K2)))/\(X.length=103/\Agree G K1/\X.getD 0 uA=vc/\X.getD 1 uA=vm/\X.getD 2 uA=vs/\X.getD 7 uA=.ptr q 0)/\Y.length=103/\Y.getD 8 uA=I 1:=by
 intro d
 induction d with
 | zero =>
   intro j tm K hd hj hA hlen h0 h1 h2 h7 h9
   have hjl:j=cs.length:=by omega
   subst hjl
   have hlt:ltB (((cs.length:Nat)):Int) (cs.length:Nat)=false:=ltB_f (by omega)
   have hlc:=hc.len
   rw [allF_end (Nat.le_refl _),el16_0]
   simp (maxSteps:=4000000) -implicitDefEqProofs only [b16_0,Tryz.f16,aP,hlen,h0,h1,h2,h7,h9,hlt,hlc,r5,↓evLd,↓cbT,↓cbF,↓evDn,evUp,eu,sevalprocAttr]
   exact ⟨_,tm.set 8 (I 1),_,K,rfl,⟨by first | exact hlen | simp only [List.length_set,hlen],hA,by first | exact h0 | simp only [hlen,h0,gB,sevalprocAttr],by first | exact h1 | simp only [hlen,h1,gB,sevalprocAttr],by first | exact h2 | simp only [hlen,h2,gB,sevalprocAttr],by first | exact h7 | simp only [hlen,h7,gB,sevalprocAttr]⟩,by simp only [ls,hlen],by simp only [hlen,gs_self,Nat.reduceLT]⟩
 | succ d ih =>
   intro j tm K hd hj hA hlen h0 h1 h2 h7 h9
   have hjN:j < cs.length:=by omega
   have hlt:ltB (j:Int) (cs.length:Nat)=true:=ltB_t (by omega)
   have hw:=inc_i (j:=j) (by omega)
   have hlc:=hc.len
   obtain ⟨i,k,vp,vz,vi,hix,hrd,hcd⟩:=hc.at hA hjN
   have h37:=fun L=>ev37 ((hcd.agree hA).agree (Agree.app K L))
   simp only [rowC] at h37 hrd
   rw [allF_step hjN,el16_0]
   rw [<-List.append_nil K]
   cases hp:(validP (codAt cs j)) with
   | true =>
     simp only [Bool.true_and]
     simp (maxSteps:=4000000) -implicitDefEqProofs only [b16_0,Tryz.f16,aP,hlen,h0,h1,h2,h7,h9,hlt,hw,hlc,hix,hrd,↓fc37,h37,hp,r5,↓evLd,↓cbT,↓cbF,↓evDn,evUp,eu,sevalprocAttr]
     exact ih (j+1) _ _ (by omega) (by omega) (by first | exact hA | exact hA.appR _ | exact (hA.appR _).appR _) (by simp only [ls,hlen]) (by simp only [hlen,h0,gB,sevalprocAttr]) (by simp only [hlen,h1,gB,sevalprocAttr]) (by simp only [hlen,h2,gB,sevalprocAttr]) (by simp only [hlen,h7,gB,sevalprocAttr]) (by simp only [hlen,h9,gB,sevalprocAttr])
   | false =>
     simp only [Bool.false_and]
     simp (maxSteps:=4000000) -implicitDefEqProofs only [b16_0,Tryz.f16,aP,hlen,h0,h1,h2,h7,h9,hlt,hw,hlc,hix,hrd,↓fc37,h37,hp,r5,↓evLd,↓cbT,↓cbF,↓evDn,evUp,eu,sevalprocAttr]
     exact ⟨tm,_,K,_,rfl,⟨hlen,hA,h0,h1,h2,h7⟩,by simp only [ls,hlen],by simp only [hlen,gB,sevalprocAttr]⟩
theorem rc_cod' {G:AH} {cs:List Cod} {m:List (List Int)} {ss:List (List Itm)} {vc vm vs:AV} {q:Nat} {tm:List AV} {K:AH} {Z:Option (AExit × St)} (hX:EvC Tryz.prog C0 W0 plN l16_0 (tm,K)=Z) (hc:CodsR G cs vc) (hm:MemR G m vm) (hs:StrsR G ss vs) (hN:cs.length < 2 ^ 60) (hA:Agree G K) (hlen:tm.length=103) (h0:tm.getD 0 uA=vc) (h1:tm.getD 1 uA=vm) (h2:tm.getD 2 uA=vs) (h7:tm.getD 7 uA=.ptr q 0) (h9:tm.getD 9 uA=I ((0:Nat):Int)) :
   ∃ X Y K1 K2,Z=br (allF (fun j=>validP (codAt cs j)) (cs.length) (0)) (some (.exit 0,(X,K1))) (some (.ret,(Y,K2)))/\(X.length=103/\Agree G K1/\X.getD 0 uA=vc/\X.getD 1 uA=vm/\X.getD 2 uA=vs/\X.getD 7 uA=.ptr q 0)/\Y.length=103/\Y.getD 8 uA=I 1:=by
 subst hX
 exact rc_cod hc hm hs hN (cs.length) 0 tm K (by omega) (by omega) hA hlen h0 h1 h2 h7 h9
theorem rc_sum {G:AH} {ss:List (List Itm)} {vc vm vs:AV} (hs:StrsR G ss vs) (hN:ss.length < 2 ^ 60):∀ (d j:Nat) (tm:List AV) (K:AH),ss.length - j=d->j<=ss.length->(tm.length=103/\Agree G K/\tm.getD 0 uA=vc/\tm.getD 1 uA=vm/\tm.getD 2 uA=vs/\tm.getD 11 uA=I ((j:Nat):Int)/\tm.getD 10 uA=I (sumW ss j)) ->
   ∃ X K1,EvC Tryz.prog C0 W0 plN l16_1 (tm,K)=some (.exit 2,(X,K1))/\(X.length=103/\Agree G K1/\X.getD 0 uA=vc/\X.getD 1 uA=vm/\X.getD 2 uA=vs/\X.getD 11 uA=I ((ss.length:Nat):Int)/\X.getD 10 uA=I (sumW ss ss.length)):=by
 intro d
 induction d with
 | zero =>
   intro j tm K hd hj hI
   have hjl:j=ss.length:=by omega
   subst hjl
   have hI0:=hI
   obtain ⟨hlen,hA,h0,h1,h2,h11,h10⟩:=hI
   have hlt:ltB (((ss.length:Nat)):Int) (ss.length:Nat)=false:=ltB_f (by omega)
   have hls:=hs.len
   rw [el16_1]
   simp (maxSteps:=4000000) -implicitDefEqProofs only [b16_1,Tryz.f16,aP,hlen,h0,h1,h2,h11,h10,hlt,hls,r5,↓evLd,↓cbT,↓cbF,↓evDn,evUp,eu,sevalprocAttr]
   refine ⟨_,K,rfl,?_⟩
   exact ⟨by first | exact hlen | simp only [List.length_set,hlen],by first | exact hA | exact hA.appR _,by simp only [hlen,h0,h1,h2,h11,h10,sumW,gB,and_self,sevalprocAttr]⟩
 | succ d ih =>
   intro j tm K hd hj hI
   have hI0:=hI
   obtain ⟨hlen,hA,h0,h1,h2,h11,h10⟩:=hI
   have hjN:j < ss.length:=by omega
   have hlt:ltB (j:Int) (ss.length:Nat)=true:=ltB_t (by omega)
   have hw:=inc_i (j:=j) (by omega)
   have hls:=hs.len
   obtain ⟨i0,k0,w0,hix0,hrd0,hxs⟩:=hs.at hA hjN
   have hln:=hxs.len
   rw [el16_1]
   rw [<-List.append_nil K]
   have key:∀ (tmN:List AV) (KN:AH) (Z:Option (AExit × St)),EvC Tryz.prog C0 W0 plN l16_1 (tmN,KN)=Z->(tmN.length=103/\Agree G KN/\tmN.getD 0 uA=vc/\tmN.getD 1 uA=vm/\tmN.getD 2 uA=vs/\tmN.getD 11 uA=I (((j+1):Nat):Int)/\tmN.getD 10 uA=I (sumW ss (j+1)))->∃ X K1,Z=some (.exit 2,(X,K1))/\(X.length=103/\Agree G K1/\X.getD 0 uA=vc/\X.getD 1 uA=vm/\X.getD 2 uA=vs/\X.getD 11 uA=I ((ss.length:Nat):Int)/\X.getD 10 uA=I (sumW ss ss.length)):=by
     intro tmN KN Z h hJ
     obtain ⟨X,K1,A,B⟩:=ih (j+1) tmN KN (by omega) (by omega) hJ
     exact ⟨X,K1,h.symm.trans A,B⟩
   simp (maxSteps:=4000000) -implicitDefEqProofs only [b16_1,Tryz.f16,aP,hlen,h0,h1,h2,h11,h10,hlt,hw,hls,hix0,hrd0,hln,r5,↓evLd,↓cbT,↓cbF,↓evDn,evUp,eu,sevalprocAttr]
   generalize hX:EvC Tryz.prog C0 W0 _ _ _=Z
   refine key _ _ _ hX ?_
   exact ⟨by first | exact hlen | simp only [List.length_set,hlen],by first | exact hA | exact hA.appR _,by simp only [hlen,h0,h1,h2,h11,h10,sumW,gB,and_self,sevalprocAttr]⟩
theorem rc_sum' {G:AH} {ss:List (List Itm)} {vc vm vs:AV} {tm:List AV} {K:AH} {Z:Option (AExit × St)} (hX:EvC Tryz.prog C0 W0 plN l16_1 (tm,K)=Z) (hs:StrsR G ss vs) (hN:ss.length < 2 ^ 60) (hI:tm.length=103/\Agree G K/\tm.getD 0 uA=vc/\tm.getD 1 uA=vm/\tm.getD 2 uA=vs/\tm.getD 11 uA=I ((0:Nat):Int)/\tm.getD 10 uA=I (sumW ss 0)) :
   ∃ X K1,Z=some (.exit 2,(X,K1))/\(X.length=103/\Agree G K1/\X.getD 0 uA=vc/\X.getD 1 uA=vm/\X.getD 2 uA=vs/\X.getD 11 uA=I ((ss.length:Nat):Int)/\X.getD 10 uA=I (sumW ss ss.length)):=by
 subst hX
 exact rc_sum hs hN (ss.length) 0 tm K (by omega) (by omega) hI
theorem rc_mem {G:AH} {cs:List Cod} {m:List (List Int)} {ss:List (List Itm)} {vc vm vs:AV} (hc:CodsR G cs vc) (hm:MemR G m vm) (hs:StrsR G ss vs) (hN:m.length < 2 ^ 60):∀ (d j:Nat) (tm:List AV) (K:AH),m.length - j=d->j<=m.length->Agree G K->tm.length=103->tm.getD 0 uA=vc->tm.getD 1 uA=vm->tm.getD 2 uA=vs->tm.getD 12 uA=I ((j:Nat):Int) ->
   ∃ X Y K1 K2,EvC Tryz.prog C0 W0 plN l16_2 (tm,K)=br (allF (fun j=>!ltB 256 ((bufOf m j).length:Int)) (m.length) (j)) (some (.exit 4,(X,K1))) (some (.ret,(Y,K2)))/\(X.length=103/\Agree G K1/\X.getD 0 uA=vc/\X.getD 1 uA=vm/\X.getD 2 uA=vs)/\Y.length=103/\Y.getD 8 uA=I 5:=by
 intro d
 induction d with
 | zero =>
   intro j tm K hd hj hA hlen h0 h1 h2 h12
   have hjl:j=m.length:=by omega
   subst hjl
   have hlt:ltB (((m.length:Nat)):Int) (m.length:Nat)=false:=ltB_f (by omega)
   have hlm:=hm.len
   rw [allF_end (Nat.le_refl _),el16_2]
   simp (maxSteps:=4000000) -implicitDefEqProofs only [b16_2,Tryz.f16,aP,hlen,h0,h1,h2,h12,hlt,hlm,r5,↓evLd,↓cbT,↓cbF,↓evDn,evUp,eu,sevalprocAttr]
   exact ⟨_,tm.set 8 (I 5),_,K,rfl,⟨by first | exact hlen | simp only [List.length_set,hlen],hA,by first | exact h0 | simp only [hlen,h0,gB,sevalprocAttr],by first | exact h1 | simp only [hlen,h1,gB,sevalprocAttr],by first | exact h2 | simp only [hlen,h2,gB,sevalprocAttr]⟩,by simp only [ls,hlen],by simp only [hlen,gs_self,Nat.reduceLT]⟩
 | succ d ih =>
   intro j tm K hd hj hA hlen h0 h1 h2 h12
   have hjN:j < m.length:=by omega
   have hlt:ltB (j:Int) (m.length:Nat)=true:=ltB_t (by omega)
   have hw:=inc_i (j:=j) (by omega)
   have hlm:=hm.len
   obtain ⟨i,k,w,hix,hrd,hw32⟩:=hm.at hA hjN
   have hl32:=sl32 hw32
   rw [allF_step hjN,el16_2]
   rw [<-List.append_nil K]
   cases hp:(!ltB 256 ((bufOf m j).length:Int)) with
   | true =>
     simp only [Bool.true_and]
     rw [Bool.not_eq_true'] at hp
     simp (maxSteps:=4000000) -implicitDefEqProofs only [b16_2,Tryz.f16,aP,hlen,h0,h1,h2,h12,hlt,hw,hlm,hix,hrd,hl32,hp,r5,↓evLd,↓cbT,↓cbF,↓evDn,evUp,eu,sevalprocAttr]
     exact ih (j+1) _ _ (by omega) (by omega) (by first | exact hA | exact hA.appR _ | exact (hA.appR _).appR _) (by simp only [ls,hlen]) (by simp only [hlen,h0,gB,sevalprocAttr]) (by simp only [hlen,h1,gB,sevalprocAttr]) (by simp only [hlen,h2,gB,sevalprocAttr]) (by simp only [hlen,h12,gB,sevalprocAttr])
   | false =>
     simp only [Bool.false_and]
     rw [Bool.not_eq_false'] at hp
     simp (maxSteps:=4000000) -implicitDefEqProofs only [b16_2,Tryz.f16,aP,hlen,h0,h1,h2,h12,hlt,hw,hlm,hix,hrd,hl32,hp,r5,↓evLd,↓cbT,↓cbF,↓evDn,evUp,eu,sevalprocAttr]
     exact ⟨tm,_,K,_,rfl,⟨hlen,hA,h0,h1,h2⟩,by simp only [ls,hlen],by simp only [hlen,gB,sevalprocAttr]⟩
theorem rc_mem' {G:AH} {cs:List Cod} {m:List (List Int)} {ss:List (List Itm)} {vc vm vs:AV} {tm:List AV} {K:AH} {Z:Option (AExit × St)} (hX:EvC Tryz.prog C0 W0 plN l16_2 (tm,K)=Z) (hc:CodsR G cs vc) (hm:MemR G m vm) (hs:StrsR G ss vs) (hN:m.length < 2 ^ 60) (hA:Agree G K) (hlen:tm.length=103) (h0:tm.getD 0 uA=vc) (h1:tm.getD 1 uA=vm) (h2:tm.getD 2 uA=vs) (h12:tm.getD 12 uA=I ((0:Nat):Int)) :
   ∃ X Y K1 K2,Z=br (allF (fun j=>!ltB 256 ((bufOf m j).length:Int)) (m.length) (0)) (some (.exit 4,(X,K1))) (some (.ret,(Y,K2)))/\(X.length=103/\Agree G K1/\X.getD 0 uA=vc/\X.getD 1 uA=vm/\X.getD 2 uA=vs)/\Y.length=103/\Y.getD 8 uA=I 5:=by
 subst hX
 exact rc_mem hc hm hs hN (m.length) 0 tm K (by omega) (by omega) hA hlen h0 h1 h2 h12
theorem rc_in {G:AH} {cs:List Cod} {m:List (List Int)} {ss:List (List Itm)} {vc vm vs:AV} {i:Nat} (hc:CodsR G cs vc) (hm:MemR G m vm) (hs:StrsR G ss vs) (hi:i < ss.length) (hN:(strAt ss i).length < 2 ^ 60):∀ (d j:Nat) (tm:List AV) (K:AH),(strAt ss i).length - j=d->j<=(strAt ss i).length->Agree G K->tm.length=103->tm.getD 0 uA=vc->tm.getD 1 uA=vm->tm.getD 2 uA=vs->tm.getD 13 uA=I ((i:Nat):Int)->tm.getD 14 uA=I ((j:Nat):Int) ->
   ∃ X Y K1 K2,EvC Tryz.prog C0 W0 plN l16_3 (tm,K)=br (allF (fun j=>rightP cs m (itmAt (strAt ss i) j)) ((strAt ss i).length) (j)) (some (.exit 8,(X,K1))) (some (.ret,(Y,K2)))/\(X.length=103/\Agree G K1/\X.getD 0 uA=vc/\X.getD 1 uA=vm/\X.getD 2 uA=vs/\X.getD 13 uA=I ((i:Nat):Int))/\Y.length=103/\Y.getD 8 uA=I 6:=by
 intro d
 induction d with
 | zero =>
   intro j tm K hd hj hA hlen h0 h1 h2 h13 h14
   have hjl:j=(strAt ss i).length:=by omega
   subst hjl
   have hlt:ltB ((((strAt ss i).length:Nat)):Int) ((strAt ss i).length:Nat)=false:=ltB_f (by omega)
   obtain ⟨i0,k0,w0,hix0,hrd0,hx⟩:=hs.at hA hi
   have hln:=hx.len
   have hrd0':rdCells K i0 k0 1=some [w0]:=by have:=hrd0 []; rwa [List.append_nil] at this
   rw [allF_end (Nat.le_refl _),el16_3]
   simp (maxSteps:=4000000) -implicitDefEqProofs only [b16_3,Tryz.f16,aP,hlen,h0,h1,h2,h13,h14,hlt,hix0,hrd0',hln,r5,↓evLd,↓cbT,↓cbF,↓evDn,evUp,eu,sevalprocAttr]
   exact ⟨_,tm.set 8 (I 6),_,K,rfl,⟨by first | exact hlen | simp only [List.length_set,hlen],hA,by first | exact h0 | simp only [hlen,h0,gB,sevalprocAttr],by first | exact h1 | simp only [hlen,h1,gB,sevalprocAttr],by first | exact h2 | simp only [hlen,h2,gB,sevalprocAttr],by first | exact h13 | simp only [hlen,h13,gB,sevalprocAttr]⟩,by simp only [ls,hlen],by simp only [hlen,gs_self,Nat.reduceLT]⟩
 | succ d ih =>
   intro j tm K hd hj hA hlen h0 h1 h2 h13 h14
   have hjN:j < (strAt ss i).length:=by omega
   have hlt:ltB (j:Int) ((strAt ss i).length:Nat)=true:=ltB_t (by omega)
   have hw:=inc_i (j:=j) (by omega)
   obtain ⟨i0,k0,w0,hix0,hrd0,hx⟩:=hs.at hA hi
   have hln:=hx.len
   obtain ⟨i1,k1,w1,hix1,hrd1,ha1⟩:=hx.at hA hjN
   have he39:=fun L=>ev39 (hc.agree (hA.appR L)) (hm.agree (hA.appR L)) (ha1.same (hA.appR L)) (hx.im _ (itmAt_mem hjN))
   simp only [rowX] at hrd1 he39
   rw [allF_step hjN,el16_3]
   rw [<-List.append_nil K]
   cases hp:(rightP cs m (itmAt (strAt ss i) j)) with
   | true =>
     simp only [Bool.true_and]
     simp (maxSteps:=4000000) -implicitDefEqProofs only [b16_3,Tryz.f16,aP,hlen,h0,h1,h2,h13,h14,hlt,hw,hix0,hrd0,hln,hix1,hrd1,↓fc39,he39,hp,r5,↓evLd,↓cbT,↓cbF,↓evDn,evUp,eu,sevalprocAttr]
     exact ih (j+1) _ _ (by omega) (by omega) (by first | exact hA | exact hA.appR _ | exact (hA.appR _).appR _) (by simp only [ls,hlen]) (by simp only [hlen,h0,gB,sevalprocAttr]) (by simp only [hlen,h1,gB,sevalprocAttr]) (by simp only [hlen,h2,gB,sevalprocAttr]) (by simp only [hlen,h13,gB,sevalprocAttr]) (by simp only [hlen,h14,gB,sevalprocAttr])
   | false =>
     simp only [Bool.false_and]
     simp (maxSteps:=4000000) -implicitDefEqProofs only [b16_3,Tryz.f16,aP,hlen,h0,h1,h2,h13,h14,hlt,hw,hix0,hrd0,hln,hix1,hrd1,↓fc39,he39,hp,r5,↓evLd,↓cbT,↓cbF,↓evDn,evUp,eu,sevalprocAttr]
     exact ⟨tm,_,K,_,rfl,⟨hlen,hA,h0,h1,h2,h13⟩,by simp only [ls,hlen],by simp only [hlen,gB,sevalprocAttr]⟩
theorem rc_in' {G:AH} {cs:List Cod} {m:List (List Int)} {ss:List (List Itm)} {vc vm vs:AV} {i:Nat} {tm:List AV} {K:AH} {Z:Option (AExit × St)} (hX:EvC Tryz.prog C0 W0 plN l16_3 (tm,K)=Z) (hc:CodsR G cs vc) (hm:MemR G m vm) (hs:StrsR G ss vs) (hi:i < ss.length) (hN:(strAt ss i).length < 2 ^ 60) (hA:Agree G K) (hlen:tm.length=103) (h0:tm.getD 0 uA=vc) (h1:tm.getD 1 uA=vm) (h2:tm.getD 2 uA=vs) (h13:tm.getD 13 uA=I ((i:Nat):Int)) (h14:tm.getD 14 uA=I ((0:Nat):Int)) :
   ∃ X Y K1 K2,Z=br (allF (fun j=>rightP cs m (itmAt (strAt ss i) j)) ((strAt ss i).length) (0)) (some (.exit 8,(X,K1))) (some (.ret,(Y,K2)))/\(X.length=103/\Agree G K1/\X.getD 0 uA=vc/\X.getD 1 uA=vm/\X.getD 2 uA=vs/\X.getD 13 uA=I ((i:Nat):Int))/\Y.length=103/\Y.getD 8 uA=I 6:=by
 subst hX
 exact rc_in hc hm hs hi hN ((strAt ss i).length) 0 tm K (by omega) (by omega) hA hlen h0 h1 h2 h13 h14
theorem rc_out {G:AH} {cs:List Cod} {m:List (List Int)} {ss:List (List Itm)} {vc vm vs:AV} (hc:CodsR G cs vc) (hm:MemR G m vm) (hs:StrsR G ss vs) (hN:ss.length < 2 ^ 60):∀ (d j:Nat) (tm:List AV) (K:AH),ss.length - j=d->j<=ss.length->(tm.length=103/\Agree G K/\tm.getD 0 uA=vc/\tm.getD 1 uA=vm/\tm.getD 2 uA=vs/\tm.getD 13 uA=I ((j:Nat):Int)) ->
   ∃ X K1 Y K2,EvC Tryz.prog C0 W0 plN l16_4 (tm,K)=br (allF (fun j=>rowR cs m (strAt ss j)) (ss.length) (j)) (some (.exit 6,(X,K1))) (some (.ret,(Y,K2)))/\(allF (fun j=>rowR cs m (strAt ss j)) (ss.length) (j)=true->X.length=103/\Agree G K1/\X.getD 0 uA=vc/\X.getD 1 uA=vm/\X.getD 2 uA=vs/\X.getD 13 uA=I ((ss.length:Nat):Int))/\Y.length=103/\Y.getD 8 uA=I 6:=by
 intro d
 induction d with
 | zero =>
   intro j tm K hd hj hI
   have hjl:j=ss.length:=by omega
   subst hjl
   have hI0:=hI
   obtain ⟨hlen,hA,h0,h1,h2,h13⟩:=hI
   have hlt:ltB (((ss.length:Nat)):Int) (ss.length:Nat)=false:=ltB_f (by omega)
   have hls:=hs.len
   rw [allF_end (Nat.le_refl _)]
   rw [el16_4]
   simp (maxSteps:=4000000) -implicitDefEqProofs only [b16_4,Tryz.f16,aP,hlen,h0,h1,h2,h13,hlt,hls,r5,↓evLd,↓cbT,↓cbF,↓evDn,evUp,eu,sevalprocAttr]
   refine ⟨_,K,tm.set 8 (I 6),K,rfl,?_,by simp only [ls,hlen],by simp only [hlen,gs_self,Nat.reduceLT]⟩
   try intro _
   exact ⟨by first | exact hlen | simp only [List.length_set,hlen],hA,by simp only [hlen,h0,h1,h2,h13,gB,and_self,sevalprocAttr]⟩
 | succ d ih =>
   intro j tm K hd hj hI
   have hI0:=hI
   obtain ⟨hlen,hA,h0,h1,h2,h13⟩:=hI
   have hjN:j < ss.length:=by omega
   have hlt:ltB (j:Int) (ss.length:Nat)=true:=ltB_t (by omega)
   have hw:=inc_i (j:=j) (by omega)
   have hls:=hs.len
   obtain ⟨i0,k0,w0,hix0,hrd0,hxs⟩:=hs.at hA hjN
   rw [allF_step hjN]
   rw [el16_4]
   rw [<-List.append_nil K]
   cases hp:(rowR cs m (strAt ss j)) with
   | true =>
     unfold rowR at hp
     simp only [Bool.true_and]
     simp (maxSteps:=4000000) -implicitDefEqProofs only [b16_4,Tryz.f16,aP,hlen,h0,h1,h2,h13,hlt,hw,hls,r5,↓evLd,↓cbT,↓cbF,↓evDn,evUp,eu,sevalprocAttr]
     generalize hX:EvC Tryz.prog C0 W0 _ (Code.loop _) _=Z
     obtain ⟨X,Y,K1,K2,he,xs,y0,y1⟩:=rc_in'  hX hc hm hs hjN (Nat.lt_trans hxs.n (by decide)) (hA.appR _) (by simp only [ls,hlen,h0,h1,h2,h13]) (by simp only [hlen,h0,h1,h2,h13,h0,gB,sevalprocAttr]; try rfl) (by simp only [hlen,h0,h1,h2,h13,h1,gB,sevalprocAttr]; try rfl) (by simp only [hlen,h0,h1,h2,h13,h2,gB,sevalprocAttr]; try rfl) (by simp only [hlen,h0,h1,h2,h13,h13,gB,sevalprocAttr]; try rfl) (by simp only [hlen,h0,h1,h2,h13,gB,sevalprocAttr]; try rfl)
     subst he
     simp (maxSteps:=4000000) -implicitDefEqProofs only [hp,xs.1,xs.2.2.1,xs.2.2.2.1,xs.2.2.2.2.1,xs.2.2.2.2.2,hw,↓cbT,↓cbF,↓evDn,evUp,eu,sevalprocAttr]
     generalize hX:EvC Tryz.prog C0 W0 _ _ _=Z
     have key:∀ (tmN:List AV) (KN:AH),EvC Tryz.prog C0 W0 plN l16_4 (tmN,KN)=Z->(tmN.length=103/\Agree G KN/\tmN.getD 0 uA=vc/\tmN.getD 1 uA=vm/\tmN.getD 2 uA=vs/\tmN.getD 13 uA=I (((j+1):Nat):Int))->∃ X K1 Y K2,Z=br (allF (fun j=>rowR cs m (strAt ss j)) (ss.length) (j+1)) (some (.exit 6,(X,K1))) (some (.ret,(Y,K2)))/\(allF (fun j=>rowR cs m (strAt ss j)) (ss.length) (j+1)=true->X.length=103/\Agree G K1/\X.getD 0 uA=vc/\X.getD 1 uA=vm/\X.getD 2 uA=vs/\X.getD 13 uA=I ((ss.length:Nat):Int))/\Y.length=103/\Y.getD 8 uA=I 6:=by
       intro tmN KN h hJ
       obtain ⟨X,K1,Y,K2,A,B⟩:=ih (j+1) tmN KN (by omega) (by omega) hJ
       exact ⟨X,K1,Y,K2,h.symm.trans A,B⟩
     refine key _ _ hX ?_
     exact ⟨by simp only [ls,xs.1],xs.2.1,by simp only [xs.1,xs.2.2.1,xs.2.2.2.1,xs.2.2.2.2.1,xs.2.2.2.2.2,gB,and_self,sevalprocAttr]⟩
   | false =>
     simp only [Bool.false_and]
     unfold rowR at hp
     simp (maxSteps:=4000000) -implicitDefEqProofs only [b16_4,Tryz.f16,aP,hlen,h0,h1,h2,h13,hlt,hw,hls,r5,↓evLd,↓cbT,↓cbF,↓evDn,evUp,eu,sevalprocAttr]
     generalize hX:EvC Tryz.prog C0 W0 _ (Code.loop _) _=Z
     obtain ⟨X,Y,K1,K2,he,xs,y0,y1⟩:=rc_in'  hX hc hm hs hjN (Nat.lt_trans hxs.n (by decide)) (hA.appR _) (by simp only [ls,hlen,h0,h1,h2,h13]) (by simp only [hlen,h0,h1,h2,h13,h0,gB,sevalprocAttr]; try rfl) (by simp only [hlen,h0,h1,h2,h13,h1,gB,sevalprocAttr]; try rfl) (by simp only [hlen,h0,h1,h2,h13,h2,gB,sevalprocAttr]; try rfl) (by simp only [hlen,h0,h1,h2,h13,h13,gB,sevalprocAttr]; try rfl) (by simp only [hlen,h0,h1,h2,h13,gB,sevalprocAttr]; try rfl)
     subst he
     simp (maxSteps:=4000000) -implicitDefEqProofs only [hp,y0,y1,↓cbT,↓cbF,↓evDn,evUp,eu,sevalprocAttr]
     exact ⟨tm,K,Y,_,rfl,by first | exact trivial | (intro h; cases h),y0,y1⟩
theorem rc_out' {G:AH} {cs:List Cod} {m:List (List Int)} {ss:List (List Itm)} {vc vm vs:AV} {tm:List AV} {K:AH} {Z:Option (AExit × St)} (hX:EvC Tryz.prog C0 W0 plN l16_4 (tm,K)=Z) (hc:CodsR G cs vc) (hm:MemR G m vm) (hs:StrsR G ss vs) (hN:ss.length < 2 ^ 60) (hI:tm.length=103/\Agree G K/\tm.getD 0 uA=vc/\tm.getD 1 uA=vm/\tm.getD 2 uA=vs/\tm.getD 13 uA=I ((0:Nat):Int)) :
   ∃ X K1 Y K2,Z=br (allF (fun j=>rowR cs m (strAt ss j)) (ss.length) (0)) (some (.exit 6,(X,K1))) (some (.ret,(Y,K2)))/\(allF (fun j=>rowR cs m (strAt ss j)) (ss.length) (0)=true->X.length=103/\Agree G K1/\X.getD 0 uA=vc/\X.getD 1 uA=vm/\X.getD 2 uA=vs/\X.getD 13 uA=I ((ss.length:Nat):Int))/\Y.length=103/\Y.getD 8 uA=I 6:=by
 subst hX
 exact rc_out hc hm hs hN (ss.length) 0 tm K (by omega) (by omega) hI
theorem ev16 {H:AH} {cs:List Cod} {m:List (List Int)} {ss:List (List Itm)} {vc vm vs:AV} (hc:CodsR H cs vc) (hm:MemR H m vm) (hs:StrsR H ss vs) (f:Con):Ev Tryz.prog C0 W0 16 [vc,vm,vs,.agg (rowF f)] H=some (I (checkP cs m ss f),H):=by
 obtain ⟨tm,ht,g0,g1,g2,g3,g4⟩:=tm4 vc vm vs (.agg (rowF f)) 103 (by decide)
 rw [fe16,ht]
 rw [<-List.append_nil (ro H)]
 have h38:=fun G=>ev38 f G
 simp only [rowF] at h38
 have hlc:=hc.len
 have hlm:=hm.len
 have hls:=hs.len
 unfold checkP allV
 simp (maxSteps:=4000000) -implicitDefEqProofs only [c16,Tryz.f16,aP,g0,g1,g2,g3,g4,rowF,hlc,r5,↓evLd,↓cbT,↓cbF,↓evDn,evUp,eu,sevalprocAttr]
 have hA0:=Agree.app (ro H) [AObj.cells [I f.w,.bool f.free,I f.cores,I f.slots,I f.room,I f.pol,I f.lat] 27]
 generalize hX:EvC Tryz.prog C0 W0 _ (Code.loop _) _=Z
 obtain ⟨X,Y,K1,L1,he1,xs,y0,y1⟩:=rc_cod' (q:=(ro H).length) hX (hc.ro.agree hA0) (hm.ro.agree hA0) (hs.ro.agree hA0) (Nat.lt_trans hc.n (by decide)) (Agree.refl _) (by simp only [ls,g0]) (by simp only [g0,g1,gB,sevalprocAttr]) (by simp only [g0,g2,gB,sevalprocAttr]) (by simp only [g0,g3,gB,sevalprocAttr]) (by simp only [g0,gB,sevalprocAttr]) (by simp only [g0,gB,sevalprocAttr]; try rfl)
 subst he1
 cases c1:allF (fun j=>validP (codAt cs j)) cs.length 0 with
 | false =>
   simp only [Bool.and_false]
   simp (maxSteps:=4000000) -implicitDefEqProofs only [y0,y1,c1,↓cbT,↓cbF,↓evDn,evUp,eu,sevalprocAttr]
 | true =>
   obtain ⟨i0,iA,i1,i2,i3,i7⟩:=xs
   have hcK:=(hc.ro.agree hA0).agree iA
   have hmK:=(hm.ro.agree hA0).agree iA
   have hsK:=(hs.ro.agree hA0).agree iA
   have hbox:rdCells K1 (ro H).length 0 7=some [I f.w,.bool f.free,I f.cores,I f.slots,I f.room,I f.pol,I f.lat]:=by
     have:=rd_same iA (show rdCells (ro H++[AObj.cells [I f.w,.bool f.free,I f.cores,I f.slots,I f.room,I f.pol,I f.lat] 27]) (ro H).length 0 7=_ from by rw [rd_app0]; rfl)
     exact this
   simp only [Bool.and_true]
   cases c0:conP f with
   | false=>simp (maxSteps:=4000000) -implicitDefEqProofs only [i0,i1,i2,i3,i7,hbox,↓fc38,h38,c0,c1,r5,↓evLd,↓cbT,↓cbF,↓evDn,evUp,eu,sevalprocAttr]
   | true =>
     simp (maxSteps:=4000000) -implicitDefEqProofs only [i0,i1,i2,i3,i7,hbox,↓fc38,h38,c0,c1,r5,↓evLd,↓cbT,↓cbF,↓evDn,evUp,eu,sevalprocAttr]
     generalize hX:EvC Tryz.prog C0 W0 _ (Code.loop _) _=Z
     obtain ⟨X2,K2,he2,j0,jA,j1,j2,j3,_,j10⟩:=rc_sum' (vc:=vc) (vm:=vm) hX hsK (Nat.lt_trans hs.n (by decide)) ⟨by simp only [ls,i0],Agree.refl _,Aj3 (by simp only [i0,i1,i2,i3,gB,and_self,sevalprocAttr]) ⟨by simp only [i0,gB,sevalprocAttr]; try rfl,by simp only [i0,gB,sevalprocAttr]; try rfl⟩⟩
     subst he2
     unfold sizeP
     cases q0:ltB (ss.length:Int) 1 with
     | true=>simp (maxSteps:=4000000) -implicitDefEqProofs only [aP,j0,j1,j2,j3,j10,hls,hlc,hlm,r5,↓evLd,q0,↓cbT,↓cbF,↓evDn,evUp,eu,sevalprocAttr]
     | false =>
       cases q1:ltB 4 (ss.length:Int) with
       | true=>simp (maxSteps:=4000000) -implicitDefEqProofs only [aP,j0,j1,j2,j3,j10,hls,hlc,hlm,r5,↓evLd,q0,q1,↓cbT,↓cbF,↓evDn,evUp,eu,sevalprocAttr]
       | false =>
         cases q2:ltB 4 (cs.length:Int) with
         | true=>simp (maxSteps:=4000000) -implicitDefEqProofs only [aP,j0,j1,j2,j3,j10,hls,hlc,hlm,r5,↓evLd,q0,q1,q2,↓cbT,↓cbF,↓evDn,evUp,eu,sevalprocAttr]
         | false =>
           cases q3:ltB 24 (sumW ss ss.length) with
           | true=>simp (maxSteps:=4000000) -implicitDefEqProofs only [aP,j0,j1,j2,j3,j10,hls,hlc,hlm,r5,↓evLd,q0,q1,q2,q3,↓cbT,↓cbF,↓evDn,evUp,eu,sevalprocAttr]
           | false =>
             cases q4:ltB 6 (m.length:Int) with
             | true=>simp (maxSteps:=4000000) -implicitDefEqProofs only [aP,j0,j1,j2,j3,j10,hls,hlc,hlm,r5,↓evLd,q0,q1,q2,q3,q4,↓cbT,↓cbF,↓evDn,evUp,eu,sevalprocAttr]
             | false =>
               simp (maxSteps:=4000000) -implicitDefEqProofs only [aP,j0,j1,j2,j3,j10,hls,hlc,hlm,r5,↓evLd,q0,q1,q2,q3,q4,↓cbT,↓cbF,↓evDn,evUp,eu,sevalprocAttr]
               generalize hX:EvC Tryz.prog C0 W0 _ (Code.loop _) _=Z
               obtain ⟨X3,Y3,K3,L3,he3,xs,y0,y1⟩:=rc_mem' hX (hcK.agree jA) (hmK.agree jA) (hsK.agree jA) (Nat.lt_trans hm.n (by decide)) (Agree.refl _) (by simp only [ls,j0]) (by simp only [j0,j1,gB,sevalprocAttr]) (by simp only [j0,j2,gB,sevalprocAttr]) (by simp only [j0,j3,gB,sevalprocAttr]) (by simp only [j0,gB,sevalprocAttr]; try rfl)
               subst he3
               unfold shortP
               cases c2:allF (fun j=>!ltB 256 ((bufOf m j).length:Int)) m.length 0 with
               | false=>simp (maxSteps:=4000000) -implicitDefEqProofs only [y0,y1,c2,↓cbT,↓cbF,↓evDn,evUp,eu,sevalprocAttr]
               | true =>
                 obtain ⟨k0,kA,k1,k2,k3⟩:=xs
                 simp (maxSteps:=4000000) -implicitDefEqProofs only [c2,k0,k1,k2,k3,hls,r5,↓evLd,↓cbT,↓cbF,↓evDn,evUp,eu,sevalprocAttr]
                 generalize hX:EvC Tryz.prog C0 W0 _ (Code.loop _) _=Z
                 obtain ⟨X4,K4,Y4,L4,he4,hi4,y0,y1⟩:=rc_out' hX ((hcK.agree jA).agree kA) ((hmK.agree jA).agree kA) ((hsK.agree jA).agree kA) (Nat.lt_trans hs.n (by decide)) ⟨by simp only [ls,k0],Agree.refl _,Aj3 (by simp only [k0,k1,k2,k3,gB,and_self,sevalprocAttr]) (by simp only [k0,gB,sevalprocAttr]; try rfl)⟩
                 subst he4
                 unfold allR
                 cases hf:allF (fun i=>rowR cs m (strAt ss i)) ss.length 0 with
                 | false=>simp (maxSteps:=4000000) -implicitDefEqProofs only [y0,y1,hf,↓cbT,↓cbF,↓evDn,evUp,eu,sevalprocAttr]
                 | true =>
                   obtain ⟨l0,_⟩:=hi4 hf
                   simp (maxSteps:=4000000) -implicitDefEqProofs only [aP,l0,hf,↓cbT,↓cbF,↓evDn,evUp,eu,sevalprocAttr]
end Go.Dv
