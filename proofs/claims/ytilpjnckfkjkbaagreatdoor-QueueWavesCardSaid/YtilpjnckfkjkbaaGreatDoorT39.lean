/- Part 39 of the walks (own work). -/
import Derived.Test.YtilpjnckfkjkbaaGreatDoorT38
open Bool renaming false_and→bc,not_eq_false'→iN,not_eq_true'→bj,true_and→bd
open List renaming append_assoc→aG,append_nil→af,getElem?_append_right→al,length_append→ai,length_set→aq,mem_cons→bO,not_mem_nil→cg,replicate→ay
open Nat renaming le_refl→ax,lt_trans→dI,reduceLT→aQ
open Go.Proofs.Tryz renaming prog→aa
set_option maxRecDepth 100000
set_option maxHeartbeats 4000000
set_option linter.unusedSimpArgs false
set_option linter.unusedVariables false
namespace Go.Dv
open Go.Proofs
attribute [local congr] aF bC aY bB bD
theorem M8 (x y:Int) (H:AH):bk aa none 32 2 [(0,.int .i32 x),(1,.int .i32 y)] H=some (.slice H.length 0 1 2 2 true,H++[.cells [.int .i32 x,.int .i32 y] 21]):=by kernel_rfl
theorem Bp (x y:Int) (H L:AH):bk aa none 32 2 [(0,.int .i32 x),(1,.int .i32 y)] (H++L)=some (.slice (H.length+L.length) 0 1 2 2 true,H++(L++[.cells [.int .i32 x,.int .i32 y] 21])):=by rw [M8,ai,aG]
theorem Nb (i j:Nat) (H:AH):bk aa none 24 2 [(0,.slice i 0 1 2 2 true),(1,.slice j 0 1 2 2 true)] H=some (.slice H.length 0 1 2 2 true,H++[.cells [.slice i 0 1 2 2 true,.slice j 0 1 2 2 true] 32]):=by kernel_rfl
theorem F9 (i j:Nat) (H L:AH):bk aa none 24 2 [(0,.slice i 0 1 2 2 true),(1,.slice j 0 1 2 2 true)] (H++L)=some (.slice (H.length+L.length) 0 1 2 2 true,H++(L++[.cells [.slice i 0 1 2 2 true,.slice j 0 1 2 2 true] 32])):=by rw [Nb,ai,aG]
theorem Na (i j:Nat) (H:AH):bk aa none 25 2 [(0,.slice i 0 9 2 2 true),(1,.slice j 0 9 2 2 true)] H=some (.slice H.length 0 1 2 2 true,H++[.cells [.slice i 0 9 2 2 true,.slice j 0 9 2 2 true] 31]):=by kernel_rfl
theorem Qy (i j:Nat) (H L:AH):bk aa none 25 2 [(0,.slice i 0 9 2 2 true),(1,.slice j 0 9 2 2 true)] (H++L)=some (.slice (H.length+L.length) 0 1 2 2 true,H++(L++[.cells [.slice i 0 9 2 2 true,.slice j 0 9 2 2 true] 31])):=by rw [Na,ai,aG]
theorem Vf  (H:AH):bk aa none 31 2 [(0,.agg [I 2,I 0,I 0,I 0,I 0,I 0,I 0,.nilSlice,.int .i32 5]),(1,.agg [I 3,I 0,I 0,I 0,I 0,I 0,I 1,.nilSlice,.int .i32 0])] H=some (.slice H.length 0 9 2 2 true,H++[.cells [I 2,I 0,I 0,I 0,I 0,I 0,I 0,.nilSlice,.int .i32 5,I 3,I 0,I 0,I 0,I 0,I 0,I 1,.nilSlice,.int .i32 0] 34]):=by kernel_rfl
theorem ZN  (H L:AH):bk aa none 31 2 [(0,.agg [I 2,I 0,I 0,I 0,I 0,I 0,I 0,.nilSlice,.int .i32 5]),(1,.agg [I 3,I 0,I 0,I 0,I 0,I 0,I 1,.nilSlice,.int .i32 0])] (H++L)=some (.slice (H.length+L.length) 0 9 2 2 true,H++(L++[.cells [I 2,I 0,I 0,I 0,I 0,I 0,I 0,.nilSlice,.int .i32 5,I 3,I 0,I 0,I 0,I 0,I 0,I 1,.nilSlice,.int .i32 0] 34])):=by rw [Vf,ai,aG]
theorem Ve  (H:AH):bk aa none 31 2 [(0,.agg [I 4,I 0,I 0,I 0,I 0,I 0,I 1,.nilSlice,.int .i32 0]),(1,.agg [I 1,I 0,I 0,I 0,I 0,I 1,I 0,.nilSlice,.int .i32 0])] H=some (.slice H.length 0 9 2 2 true,H++[.cells [I 4,I 0,I 0,I 0,I 0,I 0,I 1,.nilSlice,.int .i32 0,I 1,I 0,I 0,I 0,I 0,I 1,I 0,.nilSlice,.int .i32 0] 34]):=by kernel_rfl
theorem ZM  (H L:AH):bk aa none 31 2 [(0,.agg [I 4,I 0,I 0,I 0,I 0,I 0,I 1,.nilSlice,.int .i32 0]),(1,.agg [I 1,I 0,I 0,I 0,I 0,I 1,I 0,.nilSlice,.int .i32 0])] (H++L)=some (.slice (H.length+L.length) 0 9 2 2 true,H++(L++[.cells [I 4,I 0,I 0,I 0,I 0,I 0,I 1,.nilSlice,.int .i32 0,I 1,I 0,I 0,I 0,I 0,I 1,I 0,.nilSlice,.int .i32 0] 34])):=by rw [Ve,ai,aG]
theorem ado:jt aa 34 [(0,I 2),(8,.int .i32 5)]=some (.agg [I 2,I 0,I 0,I 0,I 0,I 0,I 0,.nilSlice,.int .i32 5]):=by kernel_rfl
theorem adn:jt aa 34 [(0,I 3),(6,I 1)]=some (.agg [I 3,I 0,I 0,I 0,I 0,I 0,I 1,.nilSlice,.int .i32 0]):=by kernel_rfl
theorem adm:jt aa 34 [(0,I 4),(6,I 1)]=some (.agg [I 4,I 0,I 0,I 0,I 0,I 0,I 1,.nilSlice,.int .i32 0]):=by kernel_rfl
theorem adl:jt aa 34 [(0,I 1),(5,I 1)]=some (.agg [I 1,I 0,I 0,I 0,I 0,I 1,I 0,.nilSlice,.int .i32 0]):=by kernel_rfl
theorem ZS (i j:Nat):jt aa 29 [(1,.slice i 0 1 2 2 true),(3,.agg [I 1,.bool false,I 1,I 1,I 0,I 0,I 0]),(2,.slice j 0 1 2 2 true)]=some (.agg [.nilSlice,.slice i 0 1 2 2 true,.slice j 0 1 2 2 true,I 1,.bool false,I 1,I 1,I 0,I 0,I 0]):=by kernel_rfl
theorem z29:dP aa 29=some (.agg [.nilSlice,.nilSlice,.nilSlice,I 0,.bool false,I 0,I 0,I 0,I 0,I 0]):=by kernel_rfl
theorem QZ {K:AH} {i:Nat} {cs:List AV} {e:TypeId} (h:K[i]? =some (.cells cs e)):okC K i=true/\ak K i 0 cs.length=some cs:=by
 constructor
 · unfold okC; rw [h]
 · unfold ak; rw [h]; simp
theorem sM {T es:Nat} (X:IxT T es) {K:AH} {i:Nat} {r1 r2:List AV} {e:TypeId} (h1:r1.length=es) (h2:r2.length=es) (h:K[i]? =some (.cells (r1++r2) e)):SlS T es K (.slice i 0 es 2 2 true) [r1,r2]:=by
 obtain ⟨a,b⟩:=QZ h
 refine nA X (k:=0) (c:=2) (e:=true) (rows:=[r1,r2]) (fun r hr=>?_) a ?_
 · simp only [bO,cg,or_false] at hr
   rcases hr with rfl | rfl <;> assumption
 · rw [show [r1,r2].flatten=r1++r2 by simp,show [r1,r2].length * es=(r1++r2).length by rw [ai,h1,h2]; simp; omega]
   exact b
theorem WM {K:AH} {a b c:Nat} {x y z u:Int} (h1:K[a]? =some (.cells [.int .i32 x,.int .i32 y] 21)) (h2:K[b]? =some (.cells [.int .i32 z,.int .i32 u] 21)) (h3:K[c]? =some (.cells [.slice a 0 1 2 2 true,.slice b 0 1 2 2 true] 32)) (hx:e9 x) (hy:e9 y) (hz:e9 z) (hu:e9 u):dZ K [[x,y],[z,u]] (.slice c 0 1 2 2 true):=by
 refine ⟨⟨[([x,y],.slice a 0 1 2 2 true),([z,u],.slice b 0 1 2 2 true)],rfl,sM FO rfl rfl h3,fun p hp=>?_⟩,by simp,fun r hr=>?_,fun r hr n hn=>?_⟩
 · simp only [bO,cg,or_false] at hp
   rcases hp with rfl | rfl
   · exact sM zU (r1:=dw x) (r2:=dw y) rfl rfl h1
   · exact sM zU (r1:=dw z) (r2:=dw u) rfl rfl h2
 · simp only [bO,cg,or_false] at hr
   rcases hr with rfl | rfl <;> simp
 · simp only [bO,cg,or_false] at hr
   rcases hr with rfl | rfl <;> simp only [bO,cg,or_false] at hn <;> rcases hn with rfl | rfl <;> assumption
theorem Co:e9 0:=by unfold e9; omega
theorem yp {n:Int} (h0:-1000<=n) (h1:n<=1000):e9 n:=by unfold e9; omega
theorem Sd {K:AH} {c:Nat} {x y:Itm} (hx:x.args=[]) (hy:y.args=[]) (wx:e9 x.word) (wy:e9 y.word) (h:K[c]? =some (.cells (aL x .nilSlice++aL y .nilSlice) 34)):dY K [x,y] (.slice c 0 9 2 2 true):=by
 refine ⟨⟨[(x,.nilSlice),(y,.nilSlice)],rfl,sM mJ rfl rfl h,fun p hp=>?_⟩,by simp,fun r hr=>?_,fun r hr n hn=>?_,fun r hr=>?_⟩
 · simp only [bO,cg,or_false] at hp
   rcases hp with rfl | rfl
   · rw [hx]; exact kS zU K
   · rw [hy]; exact kS zU K
 · simp only [bO,cg,or_false] at hr
   rcases hr with rfl | rfl
   · rw [hx]; simp
   · rw [hy]; simp
 · simp only [bO,cg,or_false] at hr
   rcases hr with rfl | rfl
   · rw [hx] at hn; simp at hn
   · rw [hy] at hn; simp at hn
 · simp only [bO,cg,or_false] at hr
   rcases hr with rfl | rfl <;> assumption
theorem Wq {K:AH} {a b c:Nat} {l1 l2:List Itm} (h1:dY K l1 (.slice a 0 9 2 2 true)) (h2:dY K l2 (.slice b 0 9 2 2 true)) (h3:K[c]? =some (.cells [.slice a 0 9 2 2 true,.slice b 0 9 2 2 true] 31)):dy K [l1,l2] (.slice c 0 1 2 2 true):=by
 refine ⟨⟨[(l1,.slice a 0 9 2 2 true),(l2,.slice b 0 9 2 2 true)],rfl,sM FN rfl rfl h3,fun p hp=>?_⟩,by simp⟩
 simp only [bO,cg,or_false] at hp
 rcases hp with rfl | rfl <;> assumption
theorem U2:gX [] mA ssA fy=0:=by decide +kernel
theorem aay:B2 [] ssA=true:=by decide +kernel
theorem get_at {K L:AH} {n:Nat} {o:bl} (h:L[n]? =some o):(K++L)[K.length+n]? =some o:=by
 rw [al (Nat.le_add_right _ _),Nat.add_sub_cancel_left]; exact h
def awH (B:Nat):AH:=[.cells [.int .i32 1,.int .i32 2] 21,.cells [.int .i32 0,.int .i32 0] 21,.cells [.slice B 0 1 2 2 true,.slice (B+1) 0 1 2 2 true] 32,.cells [I 2,I 0,I 0,I 0,I 0,I 0,I 0,.nilSlice,.int .i32 5,I 3,I 0,I 0,I 0,I 0,I 0,I 1,.nilSlice,.int .i32 0] 34,.cells [I 4,I 0,I 0,I 0,I 0,I 0,I 1,.nilSlice,.int .i32 0,I 1,I 0,I 0,I 0,I 0,I 1,I 0,.nilSlice,.int .i32 0] 34,.cells [.slice (B+3) 0 9 2 2 true,.slice (B+4) 0 9 2 2 true] 31,.cells [.nilSlice,.slice (B+2) 0 1 2 2 true,.slice (B+5) 0 1 2 2 true,I 1,.bool false,I 1,I 1,I 0,I 0,I 0] 29]
theorem ev9 (H:AH):Ev aa C0 W0 9 [] H=some (.bool true,H):=by
 have g0:(([]:List AV)++ay (62 - ([]:List AV).length) uA).length=62:=by simp
 rw [fe9]
 rw [<-af (ro H)]
 generalize ([]:List AV)++ay (62 - ([]:List AV).length) uA=tm at *
 have hq0:eqB 0 0=true:=rfl
 generalize hG:ro H=G
 have gt:∀ {n:Nat} {o:bl},(awH G.length)[n]? =some o->(G++awH G.length)[G.length+n]? =some o:=fun h=>get_at h
 have hm:dZ (G++awH G.length) mA (.slice (G.length+2) 0 1 2 2 true):=WM (gt (n:=0) rfl) (gt (n:=1) rfl) (gt (n:=2) rfl) (yp (by decide) (by decide)) (yp (by decide) (by decide)) Co Co
 have hs:dy (G++awH G.length) ssA (.slice (G.length+5) 0 1 2 2 true):=Wq (Sd rfl rfl (yp (by decide) (by decide)) Co (gt (n:=3) rfl)) (Sd rfl rfl Co Co (gt (n:=4) rfl)) (gt (n:=5) rfl)
 have hc:dk (G++awH G.length) [] .nilSlice:=⟨⟨[],rfl,kS zV _,fun p hp=>by simp at hp⟩,by simp⟩
 obtain ⟨v,K,ad,m',rc',h17,hS,hlK,hm',_,htr,hend,_⟩:=Y5 hc hm hs fy U2 (fun l hl x hx=>by
   simp only [ssA,bO,cg,or_false] at hl
   rcases hl with rfl | rfl <;> simp only [bO,cg,or_false] at hx <;> rcases hx with rfl | rfl <;> simp)
 obtain ⟨rfl,he0⟩:=Ii htr hend
 rw [he0] at h17
 have hgood:=tz (f:=fy) (fun l hl=>by
   simp only [ssA,bO,cg,or_false] at hl
   rcases hl with rfl | rfl <;> simp) U2
 have h18:=Y1 (hc.sub hS) (hm.sub hS) (hs.sub hS) U2 hgood
 rw [aay] at h18
 have hp:ak (G++awH G.length) (G.length+6) 0 10=some [.nilSlice,.slice (G.length+2) 0 1 2 2 true,.slice (G.length+5) 0 1 2 2 true,I 1,.bool false,I 1,I 1,I 0,I 0,I 0]:=(QZ (gt (n:=6) rfl)).2
 have hpK:=hS.rd hp
 have p0:=kU hpK (j:=0) rfl
 have p1:=kU hpK (j:=1) rfl
 have p2:=kU hpK (j:=2) rfl
 simp only [Nat.zero_add] at p0 p1 p2
 have hA2:=au.app K [.cells [.int .i32 5,.int .i32 5] 21,.cells [.int .i32 5,.int .i32 5] 21,.cells [.slice K.length 0 1 2 2 true,.slice (K.length+1) 0 1 2 2 true] 32]
 have h25:=ac9 (hm'.bg hA2) (WM (K:=K++[.cells [.int .i32 5,.int .i32 5] 21,.cells [.int .i32 5,.int .i32 5] 21,.cells [.slice K.length 0 1 2 2 true,.slice (K.length+1) 0 1 2 2 true] 32]) (get_at (n:=0) rfl) (get_at (n:=1) rfl) (get_at (n:=2) rfl) (yp (n:=5) (by decide) (by decide)) (yp (n:=5) (by decide) (by decide)) (yp (n:=5) (by decide) (by decide)) (yp (n:=5) (by decide) (by decide)))
 have k1:=fun x y=>Bp x y K []
 have k2:=fun x y L=>Bp x y K L
 have k3:=fun i j L=>F9 i j K L
 rw [af] at k1
 simp only [fg,fy,awH] at h17
 simp -implicitDefEqProofs only [c9,Tryz.f9,aP,g0,Bp,F9,Qy,ZN,ZM,ado,adn,adm,adl,ZT,ZS,z29,HB,aat,↓UM,h17,p0,p1,p2,↓UL,h18,hq0,k1,k2,k3,↓acm,h25,r5,↓az,nck,↓cbT,↓cbF,↓ao,an,eu,sevalprocAttr]
 trace_state
theorem TD {G:AH} {cs:List Cod} {m:List (List Int)} {ss:List (List Itm)} {vc vm vs:AV} {q:Nat} (hc:dk G cs vc) (hm:dZ G m vm) (hs:dy G ss vs) (hN:cs.length < 2 ^ 60):∀ (d j:Nat) (tm:List AV) (K:AH) (Z:Option (bs × St)),EvC aa C0 W0 plN R3 (tm,K)=Z->cs.length - j=d->j<=cs.length->au G K->tm.length=103->tm.getD 0 uA=vc->tm.getD 1 uA=vm->tm.getD 2 uA=vs->tm.getD 7 uA=.ptr q 0->tm.getD 9 uA=I ((j:Nat):Int) ->
   ∃ X Y K1 K2,Z=br (cd (fun j=>jL (cT cs j)) (cs.length) (j)) (some (.exit 0,(X,K1))) (some (.ret,(Y,K2)))/\(X.length=103/\au G K1/\X.getD 0 uA=vc/\X.getD 1 uA=vm/\X.getD 2 uA=vs/\X.getD 7 uA=.ptr q 0)/\Y.length=103/\Y.getD 8 uA=I 1:=by
 intro d
 induction d with
 | zero =>
   intro j tm K Z hZ hd hj hA hlen h0 h1 h2 h7 h9
   subst hZ
   have hjl:j=cs.length:=by omega
   subst hjl
   have hlt:ltB (((cs.length:Nat)):Int) (cs.length:Nat)=false:=cH (by omega)
   have hlc:=hc.len
   rw [di (ax _),MP]
   simp (maxSteps:=4000000) -implicitDefEqProofs only [Dk,Tryz.f16,aP,hlen,h0,h1,h2,h7,h9,hlt,hlc,r5,↓az,↓cbT,↓cbF,↓ao,an,eu,sevalprocAttr]
   exact ⟨_,tm.set 8 (I 1),_,K,rfl,⟨by first | exact hlen | simp only [aq,hlen],hA,by first | exact h0 | simp only [hlen,h0,gB,sevalprocAttr],by first | exact h1 | simp only [hlen,h1,gB,sevalprocAttr],by first | exact h2 | simp only [hlen,h2,gB,sevalprocAttr],by first | exact h7 | simp only [hlen,h7,gB,sevalprocAttr]⟩,by simp only [ls,hlen],by simp only [hlen,dv,aQ]⟩
 | succ d ih =>
   intro j tm K Z hZ hd hj hA hlen h0 h1 h2 h7 h9
   subst hZ
   have hjN:j < cs.length:=by omega
   have hlt:ltB (j:Int) (cs.length:Nat)=true:=cD (by omega)
   have hw:=cp (j:=j) (by omega)
   have hlc:=hc.len
   obtain ⟨i,k,vp,vz,vi,hix,hrd,hcd⟩:=hc.at hA hjN
   have h37:=fun L=>ac1 ((hcd.bg hA).bg (au.app K L))
   simp only [bI] at h37 hrd
   rw [cI hjN,MP]
   rw [<-af K]
   cases hp:(jL (cT cs j)) with
   | true =>
     simp only [bd]
     simp (maxSteps:=4000000) -implicitDefEqProofs only [Dk,Tryz.f16,aP,hlen,h0,h1,h2,h7,h9,hlt,hw,hlc,hix,hrd,↓YA,h37,hp,r5,↓az,↓cbT,↓cbF,↓ao,an,eu,sevalprocAttr]
     exact ih (j+1) _ _ _ rfl (by omega) (by omega) (by first | exact hA | exact hA.bS _ | exact (hA.bS _).bS _) (by simp only [ls,hlen]) (by simp only [hlen,h0,gB,sevalprocAttr]) (by simp only [hlen,h1,gB,sevalprocAttr]) (by simp only [hlen,h2,gB,sevalprocAttr]) (by simp only [hlen,h7,gB,sevalprocAttr]) (by simp only [hlen,h9,gB,sevalprocAttr])
   | false =>
     simp only [bc]
     simp (maxSteps:=4000000) -implicitDefEqProofs only [Dk,Tryz.f16,aP,hlen,h0,h1,h2,h7,h9,hlt,hw,hlc,hix,hrd,↓YA,h37,hp,r5,↓az,↓cbT,↓cbF,↓ao,an,eu,sevalprocAttr]
     exact ⟨tm,_,K,_,rfl,⟨hlen,hA,h0,h1,h2,h7⟩,by simp only [ls,hlen],by simp only [hlen,gB,sevalprocAttr]⟩
theorem TA {G:AH} {ss:List (List Itm)} {vc vm vs:AV} (hs:dy G ss vs) (hN:ss.length < 2 ^ 60):∀ (d j:Nat) (tm:List AV) (K:AH) (Z:Option (bs × St)),EvC aa C0 W0 plN R0 (tm,K)=Z->ss.length - j=d->j<=ss.length->(tm.length=103/\au G K/\tm.getD 0 uA=vc/\tm.getD 1 uA=vm/\tm.getD 2 uA=vs/\tm.getD 11 uA=I ((j:Nat):Int)/\tm.getD 10 uA=I (sJ ss j)) ->
   ∃ X K1,Z=some (.exit 2,(X,K1))/\(X.length=103/\au G K1/\X.getD 0 uA=vc/\X.getD 1 uA=vm/\X.getD 2 uA=vs/\X.getD 11 uA=I ((ss.length:Nat):Int)/\X.getD 10 uA=I (sJ ss ss.length)):=by
 intro d
 induction d with
 | zero =>
   intro j tm K Z hZ hd hj hI
   subst hZ
   have hjl:j=ss.length:=by omega
   subst hjl
   have hI0:=hI
   obtain ⟨hlen,hA,h0,h1,h2,h11,h10⟩:=hI
   have hlt:ltB (((ss.length:Nat)):Int) (ss.length:Nat)=false:=cH (by omega)
   have hls:=hs.len
   rw [MO]
   simp (maxSteps:=4000000) -implicitDefEqProofs only [Gy,Tryz.f16,aP,hlen,h0,h1,h2,h11,h10,hlt,hls,r5,↓az,↓cbT,↓cbF,↓ao,an,eu,sevalprocAttr]
   refine ⟨_,K,rfl,?_⟩
   exact ⟨by first | exact hlen | simp only [aq,hlen],by first | exact hA | exact hA.bS _,by simp only [hlen,h0,h1,h2,h11,h10,sJ,gB,and_self,sevalprocAttr]⟩
 | succ d ih =>
   intro j tm K Z hZ hd hj hI
   subst hZ
   have hI0:=hI
   obtain ⟨hlen,hA,h0,h1,h2,h11,h10⟩:=hI
   have hjN:j < ss.length:=by omega
   have hlt:ltB (j:Int) (ss.length:Nat)=true:=cD (by omega)
   have hw:=cp (j:=j) (by omega)
   have hls:=hs.len
   obtain ⟨i0,k0,w0,hix0,hrd0,hxs⟩:=hs.at hA hjN
   have hln:=hxs.len
   rw [MO]
   rw [<-af K]
   simp (maxSteps:=4000000) -implicitDefEqProofs only [Gy,Tryz.f16,aP,hlen,h0,h1,h2,h11,h10,hlt,hw,hls,hix0,hrd0,hln,r5,↓az,↓cbT,↓cbF,↓ao,an,eu,sevalprocAttr]
   generalize hX:EvC aa C0 W0 _ _ _=Z
   refine ih (j+1) _ _ _ hX (by omega) (by omega) ?_
   exact ⟨by first | exact hlen | simp only [aq,hlen],by first | exact hA | exact hA.bS _,by simp only [hlen,h0,h1,h2,h11,h10,sJ,gB,and_self,sevalprocAttr]⟩
theorem TC {G:AH} {cs:List Cod} {m:List (List Int)} {ss:List (List Itm)} {vc vm vs:AV} (hc:dk G cs vc) (hm:dZ G m vm) (hs:dy G ss vs) (hN:m.length < 2 ^ 60):∀ (d j:Nat) (tm:List AV) (K:AH) (Z:Option (bs × St)),EvC aa C0 W0 plN RZ (tm,K)=Z->m.length - j=d->j<=m.length->au G K->tm.length=103->tm.getD 0 uA=vc->tm.getD 1 uA=vm->tm.getD 2 uA=vs->tm.getD 12 uA=I ((j:Nat):Int) ->
   ∃ X Y K1 K2,Z=br (cd (fun j=>!ltB 256 ((bN m j).length:Int)) (m.length) (j)) (some (.exit 4,(X,K1))) (some (.ret,(Y,K2)))/\(X.length=103/\au G K1/\X.getD 0 uA=vc/\X.getD 1 uA=vm/\X.getD 2 uA=vs)/\Y.length=103/\Y.getD 8 uA=I 5:=by
 intro d
 induction d with
 | zero =>
   intro j tm K Z hZ hd hj hA hlen h0 h1 h2 h12
   subst hZ
   have hjl:j=m.length:=by omega
   subst hjl
   have hlt:ltB (((m.length:Nat)):Int) (m.length:Nat)=false:=cH (by omega)
   have hlm:=hm.len
   rw [di (ax _),MN]
   simp (maxSteps:=4000000) -implicitDefEqProofs only [Dj,Tryz.f16,aP,hlen,h0,h1,h2,h12,hlt,hlm,r5,↓az,↓cbT,↓cbF,↓ao,an,eu,sevalprocAttr]
   exact ⟨_,tm.set 8 (I 5),_,K,rfl,⟨by first | exact hlen | simp only [aq,hlen],hA,by first | exact h0 | simp only [hlen,h0,gB,sevalprocAttr],by first | exact h1 | simp only [hlen,h1,gB,sevalprocAttr],by first | exact h2 | simp only [hlen,h2,gB,sevalprocAttr]⟩,by simp only [ls,hlen],by simp only [hlen,dv,aQ]⟩
 | succ d ih =>
   intro j tm K Z hZ hd hj hA hlen h0 h1 h2 h12
   subst hZ
   have hjN:j < m.length:=by omega
   have hlt:ltB (j:Int) (m.length:Nat)=true:=cD (by omega)
   have hw:=cp (j:=j) (by omega)
   have hlm:=hm.len
   obtain ⟨i,k,w,hix,hrd,hw32⟩:=hm.at hA hjN
   have hl32:=kI hw32
   rw [cI hjN,MN]
   rw [<-af K]
   cases hp:(!ltB 256 ((bN m j).length:Int)) with
   | true =>
     simp only [bd]
     rw [bj] at hp
     simp (maxSteps:=4000000) -implicitDefEqProofs only [Dj,Tryz.f16,aP,hlen,h0,h1,h2,h12,hlt,hw,hlm,hix,hrd,hl32,hp,r5,↓az,↓cbT,↓cbF,↓ao,an,eu,sevalprocAttr]
     exact ih (j+1) _ _ _ rfl (by omega) (by omega) (by first | exact hA | exact hA.bS _ | exact (hA.bS _).bS _) (by simp only [ls,hlen]) (by simp only [hlen,h0,gB,sevalprocAttr]) (by simp only [hlen,h1,gB,sevalprocAttr]) (by simp only [hlen,h2,gB,sevalprocAttr]) (by simp only [hlen,h12,gB,sevalprocAttr])
   | false =>
     simp only [bc]
     rw [iN] at hp
     simp (maxSteps:=4000000) -implicitDefEqProofs only [Dj,Tryz.f16,aP,hlen,h0,h1,h2,h12,hlt,hw,hlm,hix,hrd,hl32,hp,r5,↓az,↓cbT,↓cbF,↓ao,an,eu,sevalprocAttr]
     exact ⟨tm,_,K,_,rfl,⟨hlen,hA,h0,h1,h2⟩,by simp only [ls,hlen],by simp only [hlen,gB,sevalprocAttr]⟩
theorem Q2 {G:AH} {cs:List Cod} {m:List (List Int)} {ss:List (List Itm)} {vc vm vs:AV} {i:Nat} (hc:dk G cs vc) (hm:dZ G m vm) (hs:dy G ss vs) (hi:i < ss.length) (hN:(aW ss i).length < 2 ^ 60):∀ (d j:Nat) (tm:List AV) (K:AH) (Z:Option (bs × St)),EvC aa C0 W0 plN RY (tm,K)=Z->(aW ss i).length - j=d->j<=(aW ss i).length->au G K->tm.length=103->tm.getD 0 uA=vc->tm.getD 1 uA=vm->tm.getD 2 uA=vs->tm.getD 13 uA=I ((i:Nat):Int)->tm.getD 14 uA=I ((j:Nat):Int) ->
   ∃ X Y K1 K2,Z=br (cd (fun j=>b6 cs m (bz (aW ss i) j)) ((aW ss i).length) (j)) (some (.exit 8,(X,K1))) (some (.ret,(Y,K2)))/\(X.length=103/\au G K1/\X.getD 0 uA=vc/\X.getD 1 uA=vm/\X.getD 2 uA=vs/\X.getD 13 uA=I ((i:Nat):Int))/\Y.length=103/\Y.getD 8 uA=I 6:=by
 intro d
 induction d with
 | zero =>
   intro j tm K Z hZ hd hj hA hlen h0 h1 h2 h13 h14
   subst hZ
   have hjl:j=(aW ss i).length:=by omega
   subst hjl
   have hlt:ltB ((((aW ss i).length:Nat)):Int) ((aW ss i).length:Nat)=false:=cH (by omega)
   obtain ⟨i0,k0,w0,hix0,hrd0,hx⟩:=hs.at hA hi
   have hln:=hx.len
   have hrd0':ak K i0 k0 1=some [w0]:=by have:=hrd0 []; rwa [af] at this
   rw [di (ax _),MM]
   simp (maxSteps:=4000000) -implicitDefEqProofs only [Di,Tryz.f16,aP,hlen,h0,h1,h2,h13,h14,hlt,hix0,hrd0',hln,r5,↓az,↓cbT,↓cbF,↓ao,an,eu,sevalprocAttr]
   exact ⟨_,tm.set 8 (I 6),_,K,rfl,⟨by first | exact hlen | simp only [aq,hlen],hA,by first | exact h0 | simp only [hlen,h0,gB,sevalprocAttr],by first | exact h1 | simp only [hlen,h1,gB,sevalprocAttr],by first | exact h2 | simp only [hlen,h2,gB,sevalprocAttr],by first | exact h13 | simp only [hlen,h13,gB,sevalprocAttr]⟩,by simp only [ls,hlen],by simp only [hlen,dv,aQ]⟩
 | succ d ih =>
   intro j tm K Z hZ hd hj hA hlen h0 h1 h2 h13 h14
   subst hZ
   have hjN:j < (aW ss i).length:=by omega
   have hlt:ltB (j:Int) ((aW ss i).length:Nat)=true:=cD (by omega)
   have hw:=cp (j:=j) (by omega)
   obtain ⟨i0,k0,w0,hix0,hrd0,hx⟩:=hs.at hA hi
   have hln:=hx.len
   obtain ⟨i1,k1,w1,hix1,hrd1,ha1⟩:=hx.at hA hjN
   have he39:=fun L=>acZ (hc.bg (hA.bS L)) (hm.bg (hA.bS L)) (ha1.same (hA.bS L)) (hx.im _ (fi hjN))
   simp only [aL] at hrd1 he39
   rw [cI hjN,MM]
   rw [<-af K]
   cases hp:(b6 cs m (bz (aW ss i) j)) with
   | true =>
     simp only [bd]
     simp (maxSteps:=4000000) -implicitDefEqProofs only [Di,Tryz.f16,aP,hlen,h0,h1,h2,h13,h14,hlt,hw,hix0,hrd0,hln,hix1,hrd1,↓Yy,he39,hp,r5,↓az,↓cbT,↓cbF,↓ao,an,eu,sevalprocAttr]
     exact ih (j+1) _ _ _ rfl (by omega) (by omega) (by first | exact hA | exact hA.bS _ | exact (hA.bS _).bS _) (by simp only [ls,hlen]) (by simp only [hlen,h0,gB,sevalprocAttr]) (by simp only [hlen,h1,gB,sevalprocAttr]) (by simp only [hlen,h2,gB,sevalprocAttr]) (by simp only [hlen,h13,gB,sevalprocAttr]) (by simp only [hlen,h14,gB,sevalprocAttr])
   | false =>
     simp only [bc]
     simp (maxSteps:=4000000) -implicitDefEqProofs only [Di,Tryz.f16,aP,hlen,h0,h1,h2,h13,h14,hlt,hw,hix0,hrd0,hln,hix1,hrd1,↓Yy,he39,hp,r5,↓az,↓cbT,↓cbF,↓ao,an,eu,sevalprocAttr]
     exact ⟨tm,_,K,_,rfl,⟨hlen,hA,h0,h1,h2,h13⟩,by simp only [ls,hlen],by simp only [hlen,gB,sevalprocAttr]⟩
theorem TB {G:AH} {cs:List Cod} {m:List (List Int)} {ss:List (List Itm)} {vc vm vs:AV} (hc:dk G cs vc) (hm:dZ G m vm) (hs:dy G ss vs) (hN:ss.length < 2 ^ 60):∀ (d j:Nat) (tm:List AV) (K:AH) (Z:Option (bs × St)),EvC aa C0 W0 plN RX (tm,K)=Z->ss.length - j=d->j<=ss.length->(tm.length=103/\au G K/\tm.getD 0 uA=vc/\tm.getD 1 uA=vm/\tm.getD 2 uA=vs/\tm.getD 13 uA=I ((j:Nat):Int)) ->
   ∃ X K1 Y K2,Z=br (cd (fun j=>q8 cs m (aW ss j)) (ss.length) (j)) (some (.exit 6,(X,K1))) (some (.ret,(Y,K2)))/\(cd (fun j=>q8 cs m (aW ss j)) (ss.length) (j)=true->X.length=103/\au G K1/\X.getD 0 uA=vc/\X.getD 1 uA=vm/\X.getD 2 uA=vs/\X.getD 13 uA=I ((ss.length:Nat):Int))/\Y.length=103/\Y.getD 8 uA=I 6:=by
 intro d
 induction d with
 | zero =>
   intro j tm K Z hZ hd hj hI
   subst hZ
   have hjl:j=ss.length:=by omega
   subst hjl
   have hI0:=hI
   obtain ⟨hlen,hA,h0,h1,h2,h13⟩:=hI
   have hlt:ltB (((ss.length:Nat)):Int) (ss.length:Nat)=false:=cH (by omega)
   have hls:=hs.len
   rw [di (ax _)]
   rw [ML]
   simp (maxSteps:=4000000) -implicitDefEqProofs only [Dh,Tryz.f16,aP,hlen,h0,h1,h2,h13,hlt,hls,r5,↓az,↓cbT,↓cbF,↓ao,an,eu,sevalprocAttr]
   refine ⟨_,K,tm.set 8 (I 6),K,rfl,?_,by simp only [ls,hlen],by simp only [hlen,dv,aQ]⟩
   try intro _
   exact ⟨by first | exact hlen | simp only [aq,hlen],hA,by simp only [hlen,h0,h1,h2,h13,gB,and_self,sevalprocAttr]⟩
 | succ d ih =>
   intro j tm K Z hZ hd hj hI
   subst hZ
   have hI0:=hI
   obtain ⟨hlen,hA,h0,h1,h2,h13⟩:=hI
   have hjN:j < ss.length:=by omega
   have hlt:ltB (j:Int) (ss.length:Nat)=true:=cD (by omega)
   have hw:=cp (j:=j) (by omega)
   have hls:=hs.len
   obtain ⟨i0,k0,w0,hix0,hrd0,hxs⟩:=hs.at hA hjN
   rw [cI hjN]
   rw [ML]
   rw [<-af K]
   cases hp:(q8 cs m (aW ss j)) with
   | true =>
     unfold q8 at hp
     simp only [bd]
     simp (maxSteps:=4000000) -implicitDefEqProofs only [Dh,Tryz.f16,aP,hlen,h0,h1,h2,h13,hlt,hw,hls,r5,↓az,↓cbT,↓cbF,↓ao,an,eu,sevalprocAttr]
     generalize hX:EvC aa C0 W0 _ (Code.loop _) _=Z
     obtain ⟨X,Y,K1,K2,he,xs,y0,y1⟩:=Q2 hc hm hs hjN (dI hxs.n (by decide)) _ 0 _ _ _ hX rfl (Nat.zero_le _) (hA.bS _) (by simp only [ls,hlen,h0,h1,h2,h13]) (by simp only [hlen,h0,h1,h2,h13,h0,gB,sevalprocAttr]; try rfl) (by simp only [hlen,h0,h1,h2,h13,h1,gB,sevalprocAttr]; try rfl) (by simp only [hlen,h0,h1,h2,h13,h2,gB,sevalprocAttr]; try rfl) (by simp only [hlen,h0,h1,h2,h13,h13,gB,sevalprocAttr]; try rfl) (by simp only [hlen,h0,h1,h2,h13,gB,sevalprocAttr]; try rfl)
     subst he
     simp (maxSteps:=4000000) -implicitDefEqProofs only [hp,xs.1,xs.2.2.1,xs.2.2.2.1,xs.2.2.2.2.1,xs.2.2.2.2.2,hw,↓cbT,↓cbF,↓ao,an,eu,sevalprocAttr]
     generalize hX:EvC aa C0 W0 _ _ _=Z
     refine ih (j+1) _ _ _ hX (by omega) (by omega) ?_
     exact ⟨by simp only [ls,xs.1],xs.2.1,by simp only [xs.1,xs.2.2.1,xs.2.2.2.1,xs.2.2.2.2.1,xs.2.2.2.2.2,gB,and_self,sevalprocAttr]⟩
   | false =>
     simp only [bc]
     unfold q8 at hp
     simp (maxSteps:=4000000) -implicitDefEqProofs only [Dh,Tryz.f16,aP,hlen,h0,h1,h2,h13,hlt,hw,hls,r5,↓az,↓cbT,↓cbF,↓ao,an,eu,sevalprocAttr]
     generalize hX:EvC aa C0 W0 _ (Code.loop _) _=Z
     obtain ⟨X,Y,K1,K2,he,xs,y0,y1⟩:=Q2 hc hm hs hjN (dI hxs.n (by decide)) _ 0 _ _ _ hX rfl (Nat.zero_le _) (hA.bS _) (by simp only [ls,hlen,h0,h1,h2,h13]) (by simp only [hlen,h0,h1,h2,h13,h0,gB,sevalprocAttr]; try rfl) (by simp only [hlen,h0,h1,h2,h13,h1,gB,sevalprocAttr]; try rfl) (by simp only [hlen,h0,h1,h2,h13,h2,gB,sevalprocAttr]; try rfl) (by simp only [hlen,h0,h1,h2,h13,h13,gB,sevalprocAttr]; try rfl) (by simp only [hlen,h0,h1,h2,h13,gB,sevalprocAttr]; try rfl)
     subst he
     simp (maxSteps:=4000000) -implicitDefEqProofs only [hp,y0,y1,↓cbT,↓cbF,↓ao,an,eu,sevalprocAttr]
     exact ⟨tm,K,Y,_,rfl,by first | exact trivial | (intro h; cases h),y0,y1⟩
theorem adf {H:AH} {cs:List Cod} {m:List (List Int)} {ss:List (List Itm)} {vc vm vs:AV} (hc:dk H cs vc) (hm:dZ H m vm) (hs:dy H ss vs) (f:Con):Ev aa C0 W0 16 [vc,vm,vs,.agg (fg f)] H=some (I (gX cs m ss f),H):=by
 obtain ⟨tm,ht,g0,g1,g2,g3,g4⟩:=tm4 vc vm vs (.agg (fg f)) 103 (by decide)
 rw [abX,ht]
 rw [<-af (ro H)]
 have h38:=fun G=>ac0 f G
 simp only [fg] at h38
 have hlc:=hc.len
 have hlm:=hm.len
 have hls:=hs.len
 unfold gX vT
 simp (maxSteps:=4000000) -implicitDefEqProofs only [c16,Tryz.f16,aP,g0,g1,g2,g3,g4,fg,hlc,r5,↓az,↓cbT,↓cbF,↓ao,an,eu,sevalprocAttr]
 have hA0:=au.app (ro H) [bl.cells [I f.w,.bool f.free,I f.cores,I f.slots,I f.room,I f.pol,I f.lat] 27]
 generalize hX:EvC aa C0 W0 _ (Code.loop _) _=Z
 obtain ⟨X,Y,K1,L1,he1,xs,y0,y1⟩:=TD (q:=(ro H).length) (hc.ro.bg hA0) (hm.ro.bg hA0) (hs.ro.bg hA0) (dI hc.n (by decide)) _ 0 _ _ _ hX rfl (Nat.zero_le _) (au.refl _) (by simp only [ls,g0]) (by simp only [g0,g1,gB,sevalprocAttr]) (by simp only [g0,g2,gB,sevalprocAttr]) (by simp only [g0,g3,gB,sevalprocAttr]) (by simp only [g0,gB,sevalprocAttr]) (by simp only [g0,gB,sevalprocAttr]; try rfl)
 subst he1
 cases c1:cd (fun j=>jL (cT cs j)) cs.length 0 with
 | false =>
   simp only [Bool.and_false]
   simp (maxSteps:=4000000) -implicitDefEqProofs only [y0,y1,c1,↓cbT,↓cbF,↓ao,an,eu,sevalprocAttr]
 | true =>
   obtain ⟨i0,iA,i1,i2,i3,i7⟩:=xs
   have hcK:=(hc.ro.bg hA0).bg iA
   have hmK:=(hm.ro.bg hA0).bg iA
   have hsK:=(hs.ro.bg hA0).bg iA
   have hbox:ak K1 (ro H).length 0 7=some [I f.w,.bool f.free,I f.cores,I f.slots,I f.room,I f.pol,I f.lat]:=by
     have:=jE iA (show ak (ro H++[bl.cells [I f.w,.bool f.free,I f.cores,I f.slots,I f.room,I f.pol,I f.lat] 27]) (ro H).length 0 7=_ from by rw [gu]; rfl)
     exact this
   simp only [Bool.and_true]
   cases c0:uV f with
   | false=>simp (maxSteps:=4000000) -implicitDefEqProofs only [i0,i1,i2,i3,i7,hbox,↓Yz,h38,c0,c1,r5,↓az,↓cbT,↓cbF,↓ao,an,eu,sevalprocAttr]
   | true =>
     simp (maxSteps:=4000000) -implicitDefEqProofs only [i0,i1,i2,i3,i7,hbox,↓Yz,h38,c0,c1,r5,↓az,↓cbT,↓cbF,↓ao,an,eu,sevalprocAttr]
     generalize hX:EvC aa C0 W0 _ (Code.loop _) _=Z
     obtain ⟨X2,K2,he2,j0,jA,j1,j2,j3,_,j10⟩:=TA (vc:=vc) (vm:=vm) hsK (dI hs.n (by decide)) _ 0 _ _ _ hX rfl (Nat.zero_le _) ⟨by simp only [ls,i0],au.refl _,Aj3 (by simp only [i0,i1,i2,i3,gB,and_self,sevalprocAttr]) ⟨by simp only [i0,gB,sevalprocAttr]; try rfl,by simp only [i0,gB,sevalprocAttr]; try rfl⟩⟩
     subst he2
     unfold sO
     cases q0:ltB (ss.length:Int) 1 with
     | true=>simp (maxSteps:=4000000) -implicitDefEqProofs only [aP,j0,j1,j2,j3,j10,hls,hlc,hlm,r5,↓az,q0,↓cbT,↓cbF,↓ao,an,eu,sevalprocAttr]
     | false =>
       cases q1:ltB 4 (ss.length:Int) with
       | true=>simp (maxSteps:=4000000) -implicitDefEqProofs only [aP,j0,j1,j2,j3,j10,hls,hlc,hlm,r5,↓az,q0,q1,↓cbT,↓cbF,↓ao,an,eu,sevalprocAttr]
       | false =>
         cases q2:ltB 4 (cs.length:Int) with
         | true=>simp (maxSteps:=4000000) -implicitDefEqProofs only [aP,j0,j1,j2,j3,j10,hls,hlc,hlm,r5,↓az,q0,q1,q2,↓cbT,↓cbF,↓ao,an,eu,sevalprocAttr]
         | false =>
           cases q3:ltB 24 (sJ ss ss.length) with
           | true=>simp (maxSteps:=4000000) -implicitDefEqProofs only [aP,j0,j1,j2,j3,j10,hls,hlc,hlm,r5,↓az,q0,q1,q2,q3,↓cbT,↓cbF,↓ao,an,eu,sevalprocAttr]
           | false =>
             cases q4:ltB 6 (m.length:Int) with
             | true=>simp (maxSteps:=4000000) -implicitDefEqProofs only [aP,j0,j1,j2,j3,j10,hls,hlc,hlm,r5,↓az,q0,q1,q2,q3,q4,↓cbT,↓cbF,↓ao,an,eu,sevalprocAttr]
             | false =>
               simp (maxSteps:=4000000) -implicitDefEqProofs only [aP,j0,j1,j2,j3,j10,hls,hlc,hlm,r5,↓az,q0,q1,q2,q3,q4,↓cbT,↓cbF,↓ao,an,eu,sevalprocAttr]
               generalize hX:EvC aa C0 W0 _ (Code.loop _) _=Z
               obtain ⟨X3,Y3,K3,L3,he3,xs,y0,y1⟩:=TC (hcK.bg jA) (hmK.bg jA) (hsK.bg jA) (dI hm.n (by decide)) _ 0 _ _ _ hX rfl (Nat.zero_le _) (au.refl _) (by simp only [ls,j0]) (by simp only [j0,j1,gB,sevalprocAttr]) (by simp only [j0,j2,gB,sevalprocAttr]) (by simp only [j0,j3,gB,sevalprocAttr]) (by simp only [j0,gB,sevalprocAttr]; try rfl)
               subst he3
               unfold lE
               cases c2:cd (fun j=>!ltB 256 ((bN m j).length:Int)) m.length 0 with
               | false=>simp (maxSteps:=4000000) -implicitDefEqProofs only [y0,y1,c2,↓cbT,↓cbF,↓ao,an,eu,sevalprocAttr]
               | true =>
                 obtain ⟨k0,kA,k1,k2,k3⟩:=xs
                 simp (maxSteps:=4000000) -implicitDefEqProofs only [c2,k0,k1,k2,k3,hls,r5,↓az,↓cbT,↓cbF,↓ao,an,eu,sevalprocAttr]
                 generalize hX:EvC aa C0 W0 _ (Code.loop _) _=Z
                 obtain ⟨X4,K4,Y4,L4,he4,hi4,y0,y1⟩:=TB ((hcK.bg jA).bg kA) ((hmK.bg jA).bg kA) ((hsK.bg jA).bg kA) (dI hs.n (by decide)) _ 0 _ _ _ hX rfl (Nat.zero_le _) ⟨by simp only [ls,k0],au.refl _,Aj3 (by simp only [k0,k1,k2,k3,gB,and_self,sevalprocAttr]) (by simp only [k0,gB,sevalprocAttr]; try rfl)⟩
                 subst he4
                 unfold EZ
                 cases hf:cd (fun i=>q8 cs m (aW ss i)) ss.length 0 with
                 | false=>simp (maxSteps:=4000000) -implicitDefEqProofs only [y0,y1,hf,↓cbT,↓cbF,↓ao,an,eu,sevalprocAttr]
                 | true =>
                   obtain ⟨l0,_⟩:=hi4 hf
                   simp (maxSteps:=4000000) -implicitDefEqProofs only [aP,l0,hf,↓cbT,↓cbF,↓ao,an,eu,sevalprocAttr]
def IW (cs:List Cod):Bool:=cd (fun j=>!ltB 80 ((cT cs j).insns.length:Int)) cs.length 0
def Oe (cs:List Cod) (m:List (List Int)) (ss:List (List Itm)) (f:Con):Bool:=!ltB 4 (cs.length:Int) && IW cs && eqB (gX cs m ss f) 0
theorem Od {G:AH} {cs:List Cod} {vc vm vs:AV} {f:Con} {q:Nat} (hc:dk G cs vc) (hq:G[q]? =some (.cells [vc,vm,vs,I f.w,.bool f.free,I f.cores,I f.slots,I f.room,I f.pol,I f.lat] 29)) (hN:cs.length < 2 ^ 60):∀ (d j:Nat) (tm:List AV) (K:AH) (Z:Option (bs × St)),EvC aa C0 W0 plN Xs (tm,K)=Z->cs.length - j=d->j<=cs.length->au G K->tm.length=33->tm.getD 1 uA=.ptr q 0->tm.getD 3 uA=I ((j:Nat):Int) ->
   ∃ X Y K1 K2,Z=br (cd (fun j=>!ltB 80 ((cT cs j).insns.length:Int)) (cs.length) (j)) (some (.exit 0,(X,K1))) (some (.ret,(Y,K2)))/\(X.length=33/\au G K1/\X.getD 1 uA=.ptr q 0)/\Y.length=33/\Y.getD 2 uA=.bool false:=by
 intro d
 induction d with
 | zero =>
   intro j tm K Z hZ hd hj hA hlen h1 h3
   subst hZ
   have hjl:j=cs.length:=by omega
   subst hjl
   have hlt:ltB (((cs.length:Nat)):Int) (cs.length:Nat)=false:=cH (by omega)
   have hq0:∀ L,ak (K++L) q 0 1=some [vc]:=fun L=>by unfold ak; rw [(hA.bS L).get hq]; rfl
   have hq0':ak K q 0 1=some [vc]:=by unfold ak; rw [hA.get hq]; rfl
   have hlc:=hc.len
   rw [di (ax _),Sm]
   simp -implicitDefEqProofs only [Nf,Tryz.f8,aP,hlen,h1,h3,hlt,hlc,hq0',iO,r5,↓az,nck,↓cbT,↓cbF,↓ao,an,eu,sevalprocAttr]
   exact ⟨_,tm.set 2 (.bool false),_,K,rfl,⟨by first | exact hlen | simp only [aq,hlen],hA,by first | exact h1 | simp only [hlen,h1,gB,sevalprocAttr]⟩,by simp only [ls,hlen],by simp only [hlen,dv,aQ]⟩
 | succ d ih =>
   intro j tm K Z hZ hd hj hA hlen h1 h3
   subst hZ
   have hjN:j < cs.length:=by omega
   have hlt:ltB (j:Int) (cs.length:Nat)=true:=cD (by omega)
   have hw:=cp (j:=j) (by omega)
   have hq0:∀ L,ak (K++L) q 0 1=some [vc]:=fun L=>by unfold ak; rw [(hA.bS L).get hq]; rfl
   have hq0':ak K q 0 1=some [vc]:=by unfold ak; rw [hA.get hq]; rfl
   have hlc:=hc.len
   obtain ⟨i,k,vp,vz,vi,hix,hrd,hcd⟩:=hc.at hA hjN
   have hr4:∀ L,ak (K++L) i (k+4) 1=some [vi]:=fun L=>kU (hrd L) (j:=4) rfl
   have hli:=hcd.li
   rw [cI hjN,Sm]
   rw [<-af K]
   cases hp:(!ltB 80 ((cT cs j).insns.length:Int)) with
   | true =>
     simp only [bd]
     rw [bj] at hp
     simp -implicitDefEqProofs only [Nf,Tryz.f8,aP,hlen,h1,h3,hlt,hw,hlc,hq0,hix,hr4,hli,hp,iO,r5,↓az,nck,↓cbT,↓cbF,↓ao,an,eu,sevalprocAttr]
     exact ih (j+1) _ _ _ rfl (by omega) (by omega) (by first | exact hA | exact hA.bS _ | exact (hA.bS _).bS _) (by simp only [ls,hlen]) (by simp only [hlen,h1,gB,sevalprocAttr]) (by simp only [hlen,h3,gB,sevalprocAttr])
   | false =>
     simp only [bc]
     rw [iN] at hp
     simp -implicitDefEqProofs only [Nf,Tryz.f8,aP,hlen,h1,h3,hlt,hw,hlc,hq0,hix,hr4,hli,hp,iO,r5,↓az,nck,↓cbT,↓cbF,↓ao,an,eu,sevalprocAttr]
     exact ⟨tm,_,K,_,rfl,⟨hlen,hA,h1⟩,by simp only [ls,hlen],by simp only [hlen,gB,sevalprocAttr]⟩
theorem ev8 {H:AH} {cs:List Cod} {m:List (List Int)} {ss:List (List Itm)} {vc vm vs:AV} (hc:dk H cs vc) (hm:dZ H m vm) (hs:dy H ss vs) (f:Con):Ev aa C0 W0 8 [.agg [vc,vm,vs,I f.w,.bool f.free,I f.cores,I f.slots,I f.room,I f.pol,I f.lat]] H=some (.bool (Oe cs m ss f),H):=by
 obtain ⟨tm,ht,g0,g1⟩:=tm1 (.agg [vc,vm,vs,I f.w,.bool f.free,I f.cores,I f.slots,I f.room,I f.pol,I f.lat]) 33 (by decide)
 rw [fe8,ht]
 rw [<-af (ro H)]
 have hA0:=au.app (ro H) [bl.cells [vc,vm,vs,I f.w,.bool f.free,I f.cores,I f.slots,I f.room,I f.pol,I f.lat] 29]
 have hc0:=hc.ro.bg hA0
 have hm0:=hm.ro.bg hA0
 have hs0:=hs.ro.bg hA0
 have hq:(ro H++[bl.cells [vc,vm,vs,I f.w,.bool f.free,I f.cores,I f.slots,I f.room,I f.pol,I f.lat] 29])[(ro H).length]? =some (.cells [vc,vm,vs,I f.w,.bool f.free,I f.cores,I f.slots,I f.room,I f.pol,I f.lat] 29):=by rw [al (ax _),Nat.sub_self]; rfl
 have hlc:=hc.len
 unfold Oe
 cases h4:ltB 4 (cs.length:Int) with
 | true=>simp -implicitDefEqProofs only [c8,Tryz.f8,aP,g0,g1,hlc,h4,iO,r5,↓az,nck,↓cbT,↓cbF,↓ao,an,eu,sevalprocAttr]
 | false =>
   simp -implicitDefEqProofs only [c8,Tryz.f8,aP,g0,g1,hlc,h4,iO,r5,↓az,nck,↓cbT,↓cbF,↓ao,an,eu,sevalprocAttr]
   generalize hX:EvC aa C0 W0 _ (Code.loop _) _=Z
   obtain ⟨X,Y,K1,L1,he1,xs,y0,y1⟩:=Od (f:=f) (vm:=vm) (vs:=vs) (q:=(ro H).length) hc0 hq (dI hc.n (by decide)) _ 0 _ _ _ hX rfl (Nat.zero_le _) (au.refl _) (by simp only [ls,g0]) (by simp only [g0,gB,sevalprocAttr]) (by simp only [g0,gB,sevalprocAttr]; try rfl)
   subst he1
   unfold IW
   cases c1:cd (fun j=>!ltB 80 ((cT cs j).insns.length:Int)) cs.length 0 with
   | false=>simp -implicitDefEqProofs only [y0,y1,c1,↓cbT,↓cbF,↓ao,an,eu,sevalprocAttr]
   | true =>
     obtain ⟨i0,iA,i1⟩:=xs
     have p0:ak K1 (ro H).length 0 1=some [vc]:=by unfold ak; rw [iA.get hq]; rfl
     have p1:ak K1 (ro H).length 1 1=some [vm]:=by unfold ak; rw [iA.get hq]; rfl
     have p2:ak K1 (ro H).length 2 1=some [vs]:=by unfold ak; rw [iA.get hq]; rfl
     have p3:ak K1 (ro H).length 3 7=some (fg f):=by unfold ak; rw [iA.get hq]; rfl
     have h16:=adf (hc0.bg iA) (hm0.bg iA) (hs0.bg iA) f
     simp only [fg] at h16 p3
     simp -implicitDefEqProofs only [i0,i1,c1,p0,p1,p2,p3,iO,yB,pT,EC,Rc,↓aco,h16,r5,↓az,nck,↓cbT,↓cbF,↓ao,an,eu,sevalprocAttr]
end Go.Dv
