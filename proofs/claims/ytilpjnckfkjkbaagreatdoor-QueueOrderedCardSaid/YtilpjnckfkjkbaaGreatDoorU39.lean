/- Part 39 of the walks (own work). -/
import Derived.Test.YtilpjnckfkjkbaaGreatDoorU38
open Bool renaming false_and→bd,not_eq_false'→iU,not_eq_true'→bl,true_and→bf
open List renaming append_assoc→aD,append_nil→af,getElem?_append_right→al,length_append→ai,length_set→aq,mem_cons→bW,not_mem_nil→cE,replicate→au
open Nat renaming le_refl→aw,lt_trans→dZ,reduceLT→aR,zero_le→aV
open Go.Proofs.Tryz renaming prog→aa
set_option maxRecDepth 100000
set_option maxHeartbeats 4000000
set_option linter.unusedSimpArgs false
set_option linter.unusedVariables false
open Go.Proofs.Tryz (f16 f8 f9)
namespace Go.Dv
open Go.Proofs
attribute [local congr] aA bC aT bB bD
theorem Om (x y:Int) (H:AH):bn aa none 32 2 [(0,.int .i32 x),(1,.int .i32 y)] H=some (.slice H.length 0 1 2 2 true,H++[.cells [.int .i32 x,.int .i32 y] 21]):=by kernel_rfl
theorem BI (x y:Int) (H L:AH):bn aa none 32 2 [(0,.int .i32 x),(1,.int .i32 y)] (H++L)=some (.slice (H.length+L.length) 0 1 2 2 true,H++(L++[.cells [.int .i32 x,.int .i32 y] 21])):=by rw [Om,ai,aD]
theorem Ou (i j:Nat) (H:AH):bn aa none 24 2 [(0,.slice i 0 1 2 2 true),(1,.slice j 0 1 2 2 true)] H=some (.slice H.length 0 1 2 2 true,H++[.cells [.slice i 0 1 2 2 true,.slice j 0 1 2 2 true] 32]):=by kernel_rfl
theorem GG (i j:Nat) (H L:AH):bn aa none 24 2 [(0,.slice i 0 1 2 2 true),(1,.slice j 0 1 2 2 true)] (H++L)=some (.slice (H.length+L.length) 0 1 2 2 true,H++(L++[.cells [.slice i 0 1 2 2 true,.slice j 0 1 2 2 true] 32])):=by rw [Ou,ai,aD]
theorem Oq (i j:Nat) (H:AH):bn aa none 25 2 [(0,.slice i 0 9 2 2 true),(1,.slice j 0 9 2 2 true)] H=some (.slice H.length 0 1 2 2 true,H++[.cells [.slice i 0 9 2 2 true,.slice j 0 9 2 2 true] 31]):=by kernel_rfl
theorem RJ (i j:Nat) (H L:AH):bn aa none 25 2 [(0,.slice i 0 9 2 2 true),(1,.slice j 0 9 2 2 true)] (H++L)=some (.slice (H.length+L.length) 0 1 2 2 true,H++(L++[.cells [.slice i 0 9 2 2 true,.slice j 0 9 2 2 true] 31])):=by rw [Oq,ai,aD]
theorem Wu  (H:AH):bn aa none 31 2 [(0,.agg [I 2,I 0,I 0,I 0,I 0,I 0,I 0,.nilSlice,.int .i32 5]),(1,.agg [I 3,I 0,I 0,I 0,I 0,I 0,I 1,.nilSlice,.int .i32 0])] H=some (.slice H.length 0 9 2 2 true,H++[.cells [I 2,I 0,I 0,I 0,I 0,I 0,I 0,.nilSlice,.int .i32 5,I 3,I 0,I 0,I 0,I 0,I 0,I 1,.nilSlice,.int .i32 0] 34]):=by kernel_rfl
theorem aa6  (H L:AH):bn aa none 31 2 [(0,.agg [I 2,I 0,I 0,I 0,I 0,I 0,I 0,.nilSlice,.int .i32 5]),(1,.agg [I 3,I 0,I 0,I 0,I 0,I 0,I 1,.nilSlice,.int .i32 0])] (H++L)=some (.slice (H.length+L.length) 0 9 2 2 true,H++(L++[.cells [I 2,I 0,I 0,I 0,I 0,I 0,I 0,.nilSlice,.int .i32 5,I 3,I 0,I 0,I 0,I 0,I 0,I 1,.nilSlice,.int .i32 0] 34])):=by rw [Wu,ai,aD]
theorem Wt  (H:AH):bn aa none 31 2 [(0,.agg [I 4,I 0,I 0,I 0,I 0,I 0,I 1,.nilSlice,.int .i32 0]),(1,.agg [I 1,I 0,I 0,I 0,I 0,I 1,I 0,.nilSlice,.int .i32 0])] H=some (.slice H.length 0 9 2 2 true,H++[.cells [I 4,I 0,I 0,I 0,I 0,I 0,I 1,.nilSlice,.int .i32 0,I 1,I 0,I 0,I 0,I 0,I 1,I 0,.nilSlice,.int .i32 0] 34]):=by kernel_rfl
theorem aa5  (H L:AH):bn aa none 31 2 [(0,.agg [I 4,I 0,I 0,I 0,I 0,I 0,I 1,.nilSlice,.int .i32 0]),(1,.agg [I 1,I 0,I 0,I 0,I 0,I 1,I 0,.nilSlice,.int .i32 0])] (H++L)=some (.slice (H.length+L.length) 0 9 2 2 true,H++(L++[.cells [I 4,I 0,I 0,I 0,I 0,I 0,I 1,.nilSlice,.int .i32 0,I 1,I 0,I 0,I 0,I 0,I 1,I 0,.nilSlice,.int .i32 0] 34])):=by rw [Wt,ai,aD]
theorem ae7:iV aa 34 [(0,I 2),(8,.int .i32 5)]=some (.agg [I 2,I 0,I 0,I 0,I 0,I 0,I 0,.nilSlice,.int .i32 5]):=by kernel_rfl
theorem ae6:iV aa 34 [(0,I 3),(6,I 1)]=some (.agg [I 3,I 0,I 0,I 0,I 0,I 0,I 1,.nilSlice,.int .i32 0]):=by kernel_rfl
theorem ae5:iV aa 34 [(0,I 4),(6,I 1)]=some (.agg [I 4,I 0,I 0,I 0,I 0,I 0,I 1,.nilSlice,.int .i32 0]):=by kernel_rfl
theorem ae4:iV aa 34 [(0,I 1),(5,I 1)]=some (.agg [I 1,I 0,I 0,I 0,I 0,I 1,I 0,.nilSlice,.int .i32 0]):=by kernel_rfl
theorem abb (i j:Nat):iV aa 29 [(1,.slice i 0 1 2 2 true),(3,.agg [I 1,.bool false,I 1,I 1,I 0,I 0,I 0]),(2,.slice j 0 1 2 2 true)]=some (.agg [.nilSlice,.slice i 0 1 2 2 true,.slice j 0 1 2 2 true,I 1,.bool false,I 1,I 1,I 0,I 0,I 0]):=by kernel_rfl
theorem z29:d8 aa 29=some (.agg [.nilSlice,.nilSlice,.nilSlice,I 0,.bool false,I 0,I 0,I 0,I 0,I 0]):=by kernel_rfl
theorem Sa {K:AH} {i:Nat} {cs:List AV} {e:TypeId} (h:K[i]? =some (.cells cs e)):okC K i=true/\ak K i 0 cs.length=some cs:=by
 constructor
 · unfold okC; rw [h]
 · unfold ak; rw [h]; simp
theorem sV {T es:Nat} (X:IxT T es) {K:AH} {i:Nat} {r1 r2:List AV} {e:TypeId} (h1:r1.length=es) (h2:r2.length=es) (h:K[i]? =some (.cells (r1++r2) e)):SlS T es K (.slice i 0 es 2 2 true) [r1,r2]:=by
 obtain ⟨a,b⟩:=Sa h;refine mI X (k:=0) (c:=2) (e:=true) (rows:=[r1,r2]) (fun r hr=>?_) a ?_
 · simp only [bW,cE,or_false] at hr;rcases hr with rfl | rfl <;> assumption
 · rw [show [r1,r2].flatten=r1++r2 by simp,show [r1,r2].length * es=(r1++r2).length by rw [ai,h1,h2]; simp; omega];exact b
theorem Yd {K:AH} {a b c:Nat} {x y z u:Int} (h1:K[a]? =some (.cells [.int .i32 x,.int .i32 y] 21)) (h2:K[b]? =some (.cells [.int .i32 z,.int .i32 u] 21)) (h3:K[c]? =some (.cells [.slice a 0 1 2 2 true,.slice b 0 1 2 2 true] 32)) (hx:fk x) (hy:fk y) (hz:fk z) (hu:fk u):eo K [[x,y],[z,u]] (.slice c 0 1 2 2 true):=by
 refine ⟨⟨[([x,y],.slice a 0 1 2 2 true),([z,u],.slice b 0 1 2 2 true)],rfl,sV Gk rfl rfl h3,fun p hp=>?_⟩,by simp,fun r hr=>?_,fun r hr n hn=>?_⟩
 · simp only [bW,cE,or_false] at hp;rcases hp with rfl | rfl
   · exact sV Ab (r1:=dH x) (r2:=dH y) rfl rfl h1
   · exact sV Ab (r1:=dH z) (r2:=dH u) rfl rfl h2
 · simp only [bW,cE,or_false] at hr;rcases hr with rfl | rfl <;> simp
 · simp only [bW,cE,or_false] at hr;rcases hr with rfl | rfl <;> simp only [bW,cE,or_false] at hn <;> rcases hn with rfl | rfl <;> assumption
theorem CN:fk 0:=by unfold fk; omega
theorem yF {n:Int} (h0:-1000<=n) (h1:n<=1000):fk n:=by unfold fk; omega
theorem Tz {K:AH} {c:Nat} {x y:Itm} (hx:x.args=[]) (hy:y.args=[]) (wx:fk x.word) (wy:fk y.word) (h:K[c]? =some (.cells (aJ x .nilSlice++aJ y .nilSlice) 34)):eD K [x,y] (.slice c 0 9 2 2 true):=by
 refine ⟨⟨[(x,.nilSlice),(y,.nilSlice)],rfl,sV mV rfl rfl h,fun p hp=>?_⟩,by simp,fun r hr=>?_,fun r hr n hn=>?_,fun r hr=>?_⟩
 · simp only [bW,cE,or_false] at hp;rcases hp with rfl | rfl
   · rw [hx]; exact k5 Ab K
   · rw [hy]; exact k5 Ab K
 · simp only [bW,cE,or_false] at hr;rcases hr with rfl | rfl
   · rw [hx]; simp
   · rw [hy]; simp
 · simp only [bW,cE,or_false] at hr;rcases hr with rfl | rfl
   · rw [hx] at hn; simp at hn
   · rw [hy] at hn; simp at hn
 · simp only [bW,cE,or_false] at hr;rcases hr with rfl | rfl <;> assumption
theorem XN {K:AH} {a b c:Nat} {l1 l2:List Itm} (h1:eD K l1 (.slice a 0 9 2 2 true)) (h2:eD K l2 (.slice b 0 9 2 2 true)) (h3:K[c]? =some (.cells [.slice a 0 9 2 2 true,.slice b 0 9 2 2 true] 31)):cT K [l1,l2] (.slice c 0 1 2 2 true):=by refine ⟨⟨[(l1,.slice a 0 9 2 2 true),(l2,.slice b 0 9 2 2 true)],rfl,sV CI rfl rfl h3,fun p hp=>?_⟩,by simp⟩;simp only [bW,cE,or_false] at hp;rcases hp with rfl | rfl <;> assumption
theorem Wg:g8 [] mA ssA fH=0:=by decide +kernel
theorem abR:Lo [] ssA=true:=by decide +kernel
theorem get_at {K L:AH} {n:Nat} {o:bm} (h:L[n]? =some o):(K++L)[K.length+n]? =some o:=by rw [al (Nat.le_add_right _ _),Nat.add_sub_cancel_left]; exact h
def awH (B:Nat):AH:=[.cells [.int .i32 1,.int .i32 2] 21,.cells [.int .i32 0,.int .i32 0] 21,.cells [.slice B 0 1 2 2 true,.slice (B+1) 0 1 2 2 true] 32,.cells [I 2,I 0,I 0,I 0,I 0,I 0,I 0,.nilSlice,.int .i32 5,I 3,I 0,I 0,I 0,I 0,I 0,I 1,.nilSlice,.int .i32 0] 34,.cells [I 4,I 0,I 0,I 0,I 0,I 0,I 1,.nilSlice,.int .i32 0,I 1,I 0,I 0,I 0,I 0,I 1,I 0,.nilSlice,.int .i32 0] 34,.cells [.slice (B+3) 0 9 2 2 true,.slice (B+4) 0 9 2 2 true] 31,.cells [.nilSlice,.slice (B+2) 0 1 2 2 true,.slice (B+5) 0 1 2 2 true,I 1,.bool false,I 1,I 1,I 0,I 0,I 0] 29]
theorem ev9 (H:AH):Ev aa C0 W0 9 [] H=some (.bool true,H):=by
 have g0:(([]:List AV)++au (62 - ([]:List AV).length) uA).length=62:=by simp
 rw [fe9];rw [<-af (ro H)];generalize ([]:List AV)++au (62 - ([]:List AV).length) uA=tm at *;have hq0:eqB 0 0=true:=rfl;generalize hG:ro H=G;have gt:∀ {n:Nat} {o:bm},(awH G.length)[n]? =some o->(G++awH G.length)[G.length+n]? =some o:=fun h=>get_at h;have hm:eo (G++awH G.length) mA (.slice (G.length+2) 0 1 2 2 true):=Yd (gt (n:=0) rfl) (gt (n:=1) rfl) (gt (n:=2) rfl) (yF (by decide) (by decide)) (yF (by decide) (by decide)) CN CN;have hs:cT (G++awH G.length) ssA (.slice (G.length+5) 0 1 2 2 true):=XN (Tz rfl rfl (yF (by decide) (by decide)) CN (gt (n:=3) rfl)) (Tz rfl rfl CN CN (gt (n:=4) rfl)) (gt (n:=5) rfl);have hc:dy (G++awH G.length) [] .nilSlice:=⟨⟨[],rfl,k5 Ac _,fun p hp=>by simp at hp⟩,by simp⟩;obtain ⟨v,K,ad,m',rc',h17,hS,hlK,hm',_,htr,hend,_⟩:=aap hc hm hs fH Wg (fun l hl x hx=>by simp only [ssA,bW,cE,or_false] at hl;rcases hl with rfl | rfl <;> simp only [bW,cE,or_false] at hx <;> rcases hx with rfl | rfl <;> simp);obtain ⟨rfl,he0⟩:=I5 htr hend;rw [he0] at h17;have hgood:=tI (f:=fH) (fun l hl=>by simp only [ssA,bW,cE,or_false] at hl;rcases hl with rfl | rfl <;> simp) Wg;have h18:=aao (hc.sub hS) (hm.sub hS) (hs.sub hS) Wg hgood;rw [abR] at h18;have hp:ak (G++awH G.length) (G.length+6) 0 10=some [.nilSlice,.slice (G.length+2) 0 1 2 2 true,.slice (G.length+5) 0 1 2 2 true,I 1,.bool false,I 1,I 1,I 0,I 0,I 0]:=(Sa (gt (n:=6) rfl)).2;have hpK:=hS.rd hp;have p0:=ku hpK (j:=0) rfl;have p1:=ku hpK (j:=1) rfl;have p2:=ku hpK (j:=2) rfl;simp only [Nat.zero_add] at p0 p1 p2;have hA2:=an.app K [.cells [.int .i32 5,.int .i32 5] 21,.cells [.int .i32 5,.int .i32 5] 21,.cells [.slice K.length 0 1 2 2 true,.slice (K.length+1) 0 1 2 2 true] 32];have h25:=aeR (hm'.aZ hA2) (Yd (K:=K++[.cells [.int .i32 5,.int .i32 5] 21,.cells [.int .i32 5,.int .i32 5] 21,.cells [.slice K.length 0 1 2 2 true,.slice (K.length+1) 0 1 2 2 true] 32]) (get_at (n:=0) rfl) (get_at (n:=1) rfl) (get_at (n:=2) rfl) (yF (n:=5) (by decide) (by decide)) (yF (n:=5) (by decide) (by decide)) (yF (n:=5) (by decide) (by decide)) (yF (n:=5) (by decide) (by decide)));have k1:=fun x y=>BI x y K [];have k2:=fun x y L=>BI x y K L;have k3:=fun i j L=>GG i j K L;rw [af] at k1;simp only [fx,fH,awH] at h17;simp -implicitDefEqProofs only [c9,f9,aP,g0,BI,GG,RJ,aa6,aa5,ae7,ae6,ae5,ae4,abd,abb,z29,It,abM,↓VX,h17,p0,p1,p2,↓VW,h18,hq0,k1,k2,k3,↓adZ,h25,↓zzC,zzE,sevalprocAttr];trace_state
theorem UU {G:AH} {cs:List Cod} {m:List (List Int)} {ss:List (List Itm)} {vc vm vs:AV} {q:Nat} (hc:dy G cs vc) (hm:eo G m vm) (hs:cT G ss vs) (hN:cs.length < 2 ^ 60):∀ (d j:Nat) (tm:List AV) (K:AH) (Z:Option (bk × St)),EvC aa C0 W0 plN Tn (tm,K)=Z->cs.length - j=d->j<=cs.length->an G K->tm.length=103->tm.getD 0 uA=vc->tm.getD 1 uA=vm->tm.getD 2 uA=vs->tm.getD 7 uA=.ptr q 0->tm.getD 9 uA=I ((j:Nat):Int) ->
   ∃ X Y K1 K2,Z=br (ck (fun j=>jQ (dj cs j)) (cs.length) (j)) (some (.exit 0,(X,K1))) (some (.ret,(Y,K2)))/\(X.length=103/\an G K1/\X.getD 0 uA=vc/\X.getD 1 uA=vm/\X.getD 2 uA=vs/\X.getD 7 uA=.ptr q 0)/\Y.length=103/\Y.getD 8 uA=I 1:=by
 intro d;induction d with
 | zero =>
   intro j tm K Z hZ hd hj hA hlen h0 h1 h2 h7 h9;subst hZ;have hjl:j=cs.length:=by omega
   subst hjl;have hlt:ltB (((cs.length:Nat)):Int) (cs.length:Nat)=false:=cw (by omega);have hlc:=hc.len;rw [dk (aw _),N4];simp (maxSteps:=4000000) -implicitDefEqProofs only [DN,f16,aP,hlen,h0,h1,h2,h7,h9,hlt,hlc,↓zzC,zzD,sevalprocAttr];exact ⟨_,tm.set 8 (I 1),_,K,rfl,⟨by first | exact hlen | simp only [aq,hlen],hA,by first | exact h0 | simp only [hlen,h0,gB,sevalprocAttr],by first | exact h1 | simp only [hlen,h1,gB,sevalprocAttr],by first | exact h2 | simp only [hlen,h2,gB,sevalprocAttr],by first | exact h7 | simp only [hlen,h7,gB,sevalprocAttr]⟩,by simp only [ls,hlen],by simp only [hlen,dK,aR]⟩
 | succ d ih =>
   intro j tm K Z hZ hd hj hA hlen h0 h1 h2 h7 h9;subst hZ;have hjN:j < cs.length:=by omega
   have hlt:ltB (j:Int) (cs.length:Nat)=true:=cu (by omega);have hw:=b6 (j:=j) (by omega);have hlc:=hc.len;obtain ⟨i,k,vp,vz,vi,hix,hrd,hcd⟩:=hc.at hA hjN;have h37:=fun L=>aeJ ((hcd.aZ hA).aZ (an.app K L));simp only [bO] at h37 hrd;rw [cK hjN,N4];rw [<-af K];cases hp:(jQ (dj cs j)) with
   | true =>simp only [bf];simp (maxSteps:=4000000) -implicitDefEqProofs only [DN,f16,aP,hlen,h0,h1,h2,h7,h9,hlt,hw,hlc,hix,hrd,↓ZR,h37,hp,↓zzC,zzD,sevalprocAttr];exact ih (j+1) _ _ _ rfl (by omega) (by omega) (by first | exact hA | exact hA.bX _ | exact (hA.bX _).bX _) (by simp only [ls,hlen]) (by simp only [hlen,h0,gB,sevalprocAttr]) (by simp only [hlen,h1,gB,sevalprocAttr]) (by simp only [hlen,h2,gB,sevalprocAttr]) (by simp only [hlen,h7,gB,sevalprocAttr]) (by simp only [hlen,h9,gB,sevalprocAttr])
   | false =>simp only [bd];simp (maxSteps:=4000000) -implicitDefEqProofs only [DN,f16,aP,hlen,h0,h1,h2,h7,h9,hlt,hw,hlc,hix,hrd,↓ZR,h37,hp,↓zzC,zzD,sevalprocAttr];exact ⟨tm,_,K,_,rfl,⟨hlen,hA,h0,h1,h2,h7⟩,by simp only [ls,hlen],by simp only [hlen,gB,sevalprocAttr]⟩
theorem UR {G:AH} {ss:List (List Itm)} {vc vm vs:AV} (hs:cT G ss vs) (hN:ss.length < 2 ^ 60):∀ (d j:Nat) (tm:List AV) (K:AH) (Z:Option (bk × St)),EvC aa C0 W0 plN Tm (tm,K)=Z->ss.length - j=d->j<=ss.length->(tm.length=103/\an G K/\tm.getD 0 uA=vc/\tm.getD 1 uA=vm/\tm.getD 2 uA=vs/\tm.getD 11 uA=I ((j:Nat):Int)/\tm.getD 10 uA=I (sR ss j)) ->
   ∃ X K1,Z=some (.exit 2,(X,K1))/\(X.length=103/\an G K1/\X.getD 0 uA=vc/\X.getD 1 uA=vm/\X.getD 2 uA=vs/\X.getD 11 uA=I ((ss.length:Nat):Int)/\X.getD 10 uA=I (sR ss ss.length)):=by
 intro d;induction d with
 | zero =>
   intro j tm K Z hZ hd hj hI;subst hZ;have hjl:j=ss.length:=by omega
   subst hjl;have hI0:=hI;obtain ⟨hlen,hA,h0,h1,h2,h11,h10⟩:=hI;have hlt:ltB (((ss.length:Nat)):Int) (ss.length:Nat)=false:=cw (by omega);have hls:=hs.len;rw [N3];simp (maxSteps:=4000000) -implicitDefEqProofs only [Hj,f16,aP,hlen,h0,h1,h2,h11,h10,hlt,hls,↓zzC,zzD,sevalprocAttr];refine ⟨_,K,rfl,?_⟩;exact ⟨by first | exact hlen | simp only [aq,hlen],by first | exact hA | exact hA.bX _,by simp only [hlen,h0,h1,h2,h11,h10,sR,gB,and_self,sevalprocAttr]⟩
 | succ d ih =>
   intro j tm K Z hZ hd hj hI;subst hZ;have hI0:=hI;obtain ⟨hlen,hA,h0,h1,h2,h11,h10⟩:=hI;have hjN:j < ss.length:=by omega
   have hlt:ltB (j:Int) (ss.length:Nat)=true:=cu (by omega);have hw:=b6 (j:=j) (by omega);have hls:=hs.len;obtain ⟨i0,k0,w0,hix0,hrd0,hxs⟩:=hs.at hA hjN;have hln:=hxs.len;rw [N3];rw [<-af K];simp (maxSteps:=4000000) -implicitDefEqProofs only [Hj,f16,aP,hlen,h0,h1,h2,h11,h10,hlt,hw,hls,hix0,hrd0,hln,↓zzC,zzD,sevalprocAttr];generalize hX:EvC aa C0 W0 _ _ _=Z;refine ih (j+1) _ _ _ hX (by omega) (by omega) ?_;exact ⟨by first | exact hlen | simp only [aq,hlen],by first | exact hA | exact hA.bX _,by simp only [hlen,h0,h1,h2,h11,h10,sR,gB,and_self,sevalprocAttr]⟩
theorem UT {G:AH} {cs:List Cod} {m:List (List Int)} {ss:List (List Itm)} {vc vm vs:AV} (hc:dy G cs vc) (hm:eo G m vm) (hs:cT G ss vs) (hN:m.length < 2 ^ 60):∀ (d j:Nat) (tm:List AV) (K:AH) (Z:Option (bk × St)),EvC aa C0 W0 plN Tl (tm,K)=Z->m.length - j=d->j<=m.length->an G K->tm.length=103->tm.getD 0 uA=vc->tm.getD 1 uA=vm->tm.getD 2 uA=vs->tm.getD 12 uA=I ((j:Nat):Int) ->
   ∃ X Y K1 K2,Z=br (ck (fun j=>!ltB 256 ((bV m j).length:Int)) (m.length) (j)) (some (.exit 4,(X,K1))) (some (.ret,(Y,K2)))/\(X.length=103/\an G K1/\X.getD 0 uA=vc/\X.getD 1 uA=vm/\X.getD 2 uA=vs)/\Y.length=103/\Y.getD 8 uA=I 5:=by
 intro d;induction d with
 | zero =>
   intro j tm K Z hZ hd hj hA hlen h0 h1 h2 h12;subst hZ;have hjl:j=m.length:=by omega
   subst hjl;have hlt:ltB (((m.length:Nat)):Int) (m.length:Nat)=false:=cw (by omega);have hlm:=hm.len;rw [dk (aw _),N2];simp (maxSteps:=4000000) -implicitDefEqProofs only [DM,f16,aP,hlen,h0,h1,h2,h12,hlt,hlm,↓zzC,zzD,sevalprocAttr];exact ⟨_,tm.set 8 (I 5),_,K,rfl,⟨by first | exact hlen | simp only [aq,hlen],hA,by first | exact h0 | simp only [hlen,h0,gB,sevalprocAttr],by first | exact h1 | simp only [hlen,h1,gB,sevalprocAttr],by first | exact h2 | simp only [hlen,h2,gB,sevalprocAttr]⟩,by simp only [ls,hlen],by simp only [hlen,dK,aR]⟩
 | succ d ih =>
   intro j tm K Z hZ hd hj hA hlen h0 h1 h2 h12;subst hZ;have hjN:j < m.length:=by omega
   have hlt:ltB (j:Int) (m.length:Nat)=true:=cu (by omega);have hw:=b6 (j:=j) (by omega);have hlm:=hm.len;obtain ⟨i,k,w,hix,hrd,hw32⟩:=hm.at hA hjN;have hl32:=kQ hw32;rw [cK hjN,N2];rw [<-af K];cases hp:(!ltB 256 ((bV m j).length:Int)) with
   | true =>simp only [bf];rw [bl] at hp;simp (maxSteps:=4000000) -implicitDefEqProofs only [DM,f16,aP,hlen,h0,h1,h2,h12,hlt,hw,hlm,hix,hrd,hl32,hp,↓zzC,zzD,sevalprocAttr];exact ih (j+1) _ _ _ rfl (by omega) (by omega) (by first | exact hA | exact hA.bX _ | exact (hA.bX _).bX _) (by simp only [ls,hlen]) (by simp only [hlen,h0,gB,sevalprocAttr]) (by simp only [hlen,h1,gB,sevalprocAttr]) (by simp only [hlen,h2,gB,sevalprocAttr]) (by simp only [hlen,h12,gB,sevalprocAttr])
   | false =>simp only [bd];rw [iU] at hp;simp (maxSteps:=4000000) -implicitDefEqProofs only [DM,f16,aP,hlen,h0,h1,h2,h12,hlt,hw,hlm,hix,hrd,hl32,hp,↓zzC,zzD,sevalprocAttr];exact ⟨tm,_,K,_,rfl,⟨hlen,hA,h0,h1,h2⟩,by simp only [ls,hlen],by simp only [hlen,gB,sevalprocAttr]⟩
theorem Sd {G:AH} {cs:List Cod} {m:List (List Int)} {ss:List (List Itm)} {vc vm vs:AV} {i:Nat} (hc:dy G cs vc) (hm:eo G m vm) (hs:cT G ss vs) (hi:i < ss.length) (hN:(aM ss i).length < 2 ^ 60):∀ (d j:Nat) (tm:List AV) (K:AH) (Z:Option (bk × St)),EvC aa C0 W0 plN Tk (tm,K)=Z->(aM ss i).length - j=d->j<=(aM ss i).length->an G K->tm.length=103->tm.getD 0 uA=vc->tm.getD 1 uA=vm->tm.getD 2 uA=vs->tm.getD 13 uA=I ((i:Nat):Int)->tm.getD 14 uA=I ((j:Nat):Int) ->
   ∃ X Y K1 K2,Z=br (ck (fun j=>cC cs m (bo (aM ss i) j)) ((aM ss i).length) (j)) (some (.exit 8,(X,K1))) (some (.ret,(Y,K2)))/\(X.length=103/\an G K1/\X.getD 0 uA=vc/\X.getD 1 uA=vm/\X.getD 2 uA=vs/\X.getD 13 uA=I ((i:Nat):Int))/\Y.length=103/\Y.getD 8 uA=I 6:=by
 intro d;induction d with
 | zero =>
   intro j tm K Z hZ hd hj hA hlen h0 h1 h2 h13 h14;subst hZ;have hjl:j=(aM ss i).length:=by omega
   subst hjl;have hlt:ltB ((((aM ss i).length:Nat)):Int) ((aM ss i).length:Nat)=false:=cw (by omega);obtain ⟨i0,k0,w0,hix0,hrd0,hx⟩:=hs.at hA hi;have hln:=hx.len;have hrd0':ak K i0 k0 1=some [w0]:=by have:=hrd0 []; rwa [af] at this
   rw [dk (aw _),N1];simp (maxSteps:=4000000) -implicitDefEqProofs only [DL,f16,aP,hlen,h0,h1,h2,h13,h14,hlt,hix0,hrd0',hln,↓zzC,zzD,sevalprocAttr];exact ⟨_,tm.set 8 (I 6),_,K,rfl,⟨by first | exact hlen | simp only [aq,hlen],hA,by first | exact h0 | simp only [hlen,h0,gB,sevalprocAttr],by first | exact h1 | simp only [hlen,h1,gB,sevalprocAttr],by first | exact h2 | simp only [hlen,h2,gB,sevalprocAttr],by first | exact h13 | simp only [hlen,h13,gB,sevalprocAttr]⟩,by simp only [ls,hlen],by simp only [hlen,dK,aR]⟩
 | succ d ih =>
   intro j tm K Z hZ hd hj hA hlen h0 h1 h2 h13 h14;subst hZ;have hjN:j < (aM ss i).length:=by omega
   have hlt:ltB (j:Int) ((aM ss i).length:Nat)=true:=cu (by omega);have hw:=b6 (j:=j) (by omega);obtain ⟨i0,k0,w0,hix0,hrd0,hx⟩:=hs.at hA hi;have hln:=hx.len;obtain ⟨i1,k1,w1,hix1,hrd1,ha1⟩:=hx.at hA hjN;have he39:=fun L=>aeH (hc.aZ (hA.bX L)) (hm.aZ (hA.bX L)) (ha1.same (hA.bX L)) (hx.im _ (fA hjN));simp only [aJ] at hrd1 he39;rw [cK hjN,N1];rw [<-af K];cases hp:(cC cs m (bo (aM ss i) j)) with
   | true =>simp only [bf];simp (maxSteps:=4000000) -implicitDefEqProofs only [DL,f16,aP,hlen,h0,h1,h2,h13,h14,hlt,hw,hix0,hrd0,hln,hix1,hrd1,↓ZP,he39,hp,↓zzC,zzD,sevalprocAttr];exact ih (j+1) _ _ _ rfl (by omega) (by omega) (by first | exact hA | exact hA.bX _ | exact (hA.bX _).bX _) (by simp only [ls,hlen]) (by simp only [hlen,h0,gB,sevalprocAttr]) (by simp only [hlen,h1,gB,sevalprocAttr]) (by simp only [hlen,h2,gB,sevalprocAttr]) (by simp only [hlen,h13,gB,sevalprocAttr]) (by simp only [hlen,h14,gB,sevalprocAttr])
   | false =>simp only [bd];simp (maxSteps:=4000000) -implicitDefEqProofs only [DL,f16,aP,hlen,h0,h1,h2,h13,h14,hlt,hw,hix0,hrd0,hln,hix1,hrd1,↓ZP,he39,hp,↓zzC,zzD,sevalprocAttr];exact ⟨tm,_,K,_,rfl,⟨hlen,hA,h0,h1,h2,h13⟩,by simp only [ls,hlen],by simp only [hlen,gB,sevalprocAttr]⟩
theorem US {G:AH} {cs:List Cod} {m:List (List Int)} {ss:List (List Itm)} {vc vm vs:AV} (hc:dy G cs vc) (hm:eo G m vm) (hs:cT G ss vs) (hN:ss.length < 2 ^ 60):∀ (d j:Nat) (tm:List AV) (K:AH) (Z:Option (bk × St)),EvC aa C0 W0 plN Tj (tm,K)=Z->ss.length - j=d->j<=ss.length->(tm.length=103/\an G K/\tm.getD 0 uA=vc/\tm.getD 1 uA=vm/\tm.getD 2 uA=vs/\tm.getD 13 uA=I ((j:Nat):Int)) ->
   ∃ X K1 Y K2,Z=br (ck (fun j=>rB cs m (aM ss j)) (ss.length) (j)) (some (.exit 6,(X,K1))) (some (.ret,(Y,K2)))/\(ck (fun j=>rB cs m (aM ss j)) (ss.length) (j)=true->X.length=103/\an G K1/\X.getD 0 uA=vc/\X.getD 1 uA=vm/\X.getD 2 uA=vs/\X.getD 13 uA=I ((ss.length:Nat):Int))/\Y.length=103/\Y.getD 8 uA=I 6:=by
 intro d;induction d with
 | zero =>
   intro j tm K Z hZ hd hj hI;subst hZ;have hjl:j=ss.length:=by omega
   subst hjl;have hI0:=hI;obtain ⟨hlen,hA,h0,h1,h2,h13⟩:=hI;have hlt:ltB (((ss.length:Nat)):Int) (ss.length:Nat)=false:=cw (by omega);have hls:=hs.len;rw [dk (aw _)];rw [N0];simp (maxSteps:=4000000) -implicitDefEqProofs only [DK,f16,aP,hlen,h0,h1,h2,h13,hlt,hls,↓zzC,zzD,sevalprocAttr];refine ⟨_,K,tm.set 8 (I 6),K,rfl,?_,by simp only [ls,hlen],by simp only [hlen,dK,aR]⟩;try intro _
   exact ⟨by first | exact hlen | simp only [aq,hlen],hA,by simp only [hlen,h0,h1,h2,h13,gB,and_self,sevalprocAttr]⟩
 | succ d ih =>
   intro j tm K Z hZ hd hj hI;subst hZ;have hI0:=hI;obtain ⟨hlen,hA,h0,h1,h2,h13⟩:=hI;have hjN:j < ss.length:=by omega
   have hlt:ltB (j:Int) (ss.length:Nat)=true:=cu (by omega);have hw:=b6 (j:=j) (by omega);have hls:=hs.len;obtain ⟨i0,k0,w0,hix0,hrd0,hxs⟩:=hs.at hA hjN;rw [cK hjN];rw [N0];rw [<-af K];cases hp:(rB cs m (aM ss j)) with
   | true =>unfold rB at hp;simp only [bf];simp (maxSteps:=4000000) -implicitDefEqProofs only [DK,f16,aP,hlen,h0,h1,h2,h13,hlt,hw,hls,↓zzC,zzD,sevalprocAttr];generalize hX:EvC aa C0 W0 _ (Code.loop _) _=Z;obtain ⟨X,Y,K1,K2,he,xs,y0,y1⟩:=Sd hc hm hs hjN (dZ hxs.n (by decide)) _ 0 _ _ _ hX rfl (aV _) (hA.bX _) (by simp only [ls,hlen,h0,h1,h2,h13]) (by simp only [hlen,h0,h1,h2,h13,h0,gB,sevalprocAttr]; try rfl) (by simp only [hlen,h0,h1,h2,h13,h1,gB,sevalprocAttr]; try rfl) (by simp only [hlen,h0,h1,h2,h13,h2,gB,sevalprocAttr]; try rfl) (by simp only [hlen,h0,h1,h2,h13,h13,gB,sevalprocAttr]; try rfl) (by simp only [hlen,h0,h1,h2,h13,gB,sevalprocAttr]; try rfl);subst he;simp (maxSteps:=4000000) -implicitDefEqProofs only [hp,xs.1,xs.2.2.1,xs.2.2.2.1,xs.2.2.2.2.1,xs.2.2.2.2.2,hw,↓zzA,zzB,sevalprocAttr];generalize hX:EvC aa C0 W0 _ _ _=Z;refine ih (j+1) _ _ _ hX (by omega) (by omega) ?_;exact ⟨by simp only [ls,xs.1],xs.2.1,by simp only [xs.1,xs.2.2.1,xs.2.2.2.1,xs.2.2.2.2.1,xs.2.2.2.2.2,gB,and_self,sevalprocAttr]⟩
   | false =>simp only [bd];unfold rB at hp;simp (maxSteps:=4000000) -implicitDefEqProofs only [DK,f16,aP,hlen,h0,h1,h2,h13,hlt,hw,hls,↓zzC,zzD,sevalprocAttr];generalize hX:EvC aa C0 W0 _ (Code.loop _) _=Z;obtain ⟨X,Y,K1,K2,he,xs,y0,y1⟩:=Sd hc hm hs hjN (dZ hxs.n (by decide)) _ 0 _ _ _ hX rfl (aV _) (hA.bX _) (by simp only [ls,hlen,h0,h1,h2,h13]) (by simp only [hlen,h0,h1,h2,h13,h0,gB,sevalprocAttr]; try rfl) (by simp only [hlen,h0,h1,h2,h13,h1,gB,sevalprocAttr]; try rfl) (by simp only [hlen,h0,h1,h2,h13,h2,gB,sevalprocAttr]; try rfl) (by simp only [hlen,h0,h1,h2,h13,h13,gB,sevalprocAttr]; try rfl) (by simp only [hlen,h0,h1,h2,h13,gB,sevalprocAttr]; try rfl);subst he;simp (maxSteps:=4000000) -implicitDefEqProofs only [hp,y0,y1,↓zzA,zzB,sevalprocAttr];exact ⟨tm,K,Y,_,rfl,by first | exact trivial | (intro h; cases h),y0,y1⟩
theorem aeX {H:AH} {cs:List Cod} {m:List (List Int)} {ss:List (List Itm)} {vc vm vs:AV} (hc:dy H cs vc) (hm:eo H m vm) (hs:cT H ss vs) (f:Con):Ev aa C0 W0 16 [vc,vm,vs,.agg (fx f)] H=some (I (g8 cs m ss f),H):=by
 obtain ⟨tm,ht,g0,g1,g2,g3,g4⟩:=tm4 vc vm vs (.agg (fx f)) 103 (by decide);rw [adx,ht];rw [<-af (ro H)];have h38:=fun G=>aeI f G;simp only [fx] at h38;have hlc:=hc.len;have hlm:=hm.len;have hls:=hs.len;unfold g8 wv;simp (maxSteps:=4000000) -implicitDefEqProofs only [c16,f16,aP,g0,g1,g2,g3,g4,fx,hlc,↓zzC,zzD,sevalprocAttr];have hA0:=an.app (ro H) [bm.cells [I f.w,.bool f.free,I f.cores,I f.slots,I f.room,I f.pol,I f.lat] 27];generalize hX:EvC aa C0 W0 _ (Code.loop _) _=Z;obtain ⟨X,Y,K1,L1,he1,xs,y0,y1⟩:=UU (q:=(ro H).length) (hc.ro.aZ hA0) (hm.ro.aZ hA0) (hs.ro.aZ hA0) (dZ hc.n (by decide)) _ 0 _ _ _ hX rfl (aV _) (an.refl _) (by simp only [ls,g0]) (by simp only [g0,g1,gB,sevalprocAttr]) (by simp only [g0,g2,gB,sevalprocAttr]) (by simp only [g0,g3,gB,sevalprocAttr]) (by simp only [g0,gB,sevalprocAttr]) (by simp only [g0,gB,sevalprocAttr]; try rfl);subst he1;cases c1:ck (fun j=>jQ (dj cs j)) cs.length 0 with
 | false =>simp only [Bool.and_false];simp (maxSteps:=4000000) -implicitDefEqProofs only [y0,y1,c1,↓zzA,zzB,sevalprocAttr]
 | true =>
   obtain ⟨i0,iA,i1,i2,i3,i7⟩:=xs;have hcK:=(hc.ro.aZ hA0).aZ iA;have hmK:=(hm.ro.aZ hA0).aZ iA;have hsK:=(hs.ro.aZ hA0).aZ iA;have hbox:ak K1 (ro H).length 0 7=some [I f.w,.bool f.free,I f.cores,I f.slots,I f.room,I f.pol,I f.lat]:=by have:=fJ iA (show ak (ro H++[bm.cells [I f.w,.bool f.free,I f.cores,I f.slots,I f.room,I f.pol,I f.lat] 27]) (ro H).length 0 7=_ from by rw [gj]; rfl);exact this
   simp only [Bool.and_true];cases c0:vt f with
   | false=>simp (maxSteps:=4000000) -implicitDefEqProofs only [i0,i1,i2,i3,i7,hbox,↓ZQ,h38,c0,c1,↓zzC,zzD,sevalprocAttr]
   | true =>
     simp (maxSteps:=4000000) -implicitDefEqProofs only [i0,i1,i2,i3,i7,hbox,↓ZQ,h38,c0,c1,↓zzC,zzD,sevalprocAttr];generalize hX:EvC aa C0 W0 _ (Code.loop _) _=Z;obtain ⟨X2,K2,he2,j0,jA,j1,j2,j3,_,j10⟩:=UR (vc:=vc) (vm:=vm) hsK (dZ hs.n (by decide)) _ 0 _ _ _ hX rfl (aV _) ⟨by simp only [ls,i0],an.refl _,Aj3 (by simp only [i0,i1,i2,i3,gB,and_self,sevalprocAttr]) ⟨by simp only [i0,gB,sevalprocAttr]; try rfl,by simp only [i0,gB,sevalprocAttr]; try rfl⟩⟩;subst he2;unfold sX;cases q0:ltB (ss.length:Int) 1 with
     | true=>simp (maxSteps:=4000000) -implicitDefEqProofs only [aP,j0,j1,j2,j3,j10,hls,hlc,hlm,q0,↓zzC,zzD,sevalprocAttr]
     | false =>
       cases q1:ltB 4 (ss.length:Int) with
       | true=>simp (maxSteps:=4000000) -implicitDefEqProofs only [aP,j0,j1,j2,j3,j10,hls,hlc,hlm,q0,q1,↓zzC,zzD,sevalprocAttr]
       | false =>
         cases q2:ltB 4 (cs.length:Int) with
         | true=>simp (maxSteps:=4000000) -implicitDefEqProofs only [aP,j0,j1,j2,j3,j10,hls,hlc,hlm,q0,q1,q2,↓zzC,zzD,sevalprocAttr]
         | false =>
           cases q3:ltB 24 (sR ss ss.length) with
           | true=>simp (maxSteps:=4000000) -implicitDefEqProofs only [aP,j0,j1,j2,j3,j10,hls,hlc,hlm,q0,q1,q2,q3,↓zzC,zzD,sevalprocAttr]
           | false =>
             cases q4:ltB 6 (m.length:Int) with
             | true=>simp (maxSteps:=4000000) -implicitDefEqProofs only [aP,j0,j1,j2,j3,j10,hls,hlc,hlm,q0,q1,q2,q3,q4,↓zzC,zzD,sevalprocAttr]
             | false =>
               simp (maxSteps:=4000000) -implicitDefEqProofs only [aP,j0,j1,j2,j3,j10,hls,hlc,hlm,q0,q1,q2,q3,q4,↓zzC,zzD,sevalprocAttr];generalize hX:EvC aa C0 W0 _ (Code.loop _) _=Z;obtain ⟨X3,Y3,K3,L3,he3,xs,y0,y1⟩:=UT (hcK.aZ jA) (hmK.aZ jA) (hsK.aZ jA) (dZ hm.n (by decide)) _ 0 _ _ _ hX rfl (aV _) (an.refl _) (by simp only [ls,j0]) (by simp only [j0,j1,gB,sevalprocAttr]) (by simp only [j0,j2,gB,sevalprocAttr]) (by simp only [j0,j3,gB,sevalprocAttr]) (by simp only [j0,gB,sevalprocAttr]; try rfl);subst he3;unfold lO;cases c2:ck (fun j=>!ltB 256 ((bV m j).length:Int)) m.length 0 with
               | false=>simp (maxSteps:=4000000) -implicitDefEqProofs only [y0,y1,c2,↓zzA,zzB,sevalprocAttr]
               | true =>
                 obtain ⟨k0,kA,k1,k2,k3⟩:=xs;simp (maxSteps:=4000000) -implicitDefEqProofs only [c2,k0,k1,k2,k3,hls,↓zzC,zzD,sevalprocAttr];generalize hX:EvC aa C0 W0 _ (Code.loop _) _=Z;obtain ⟨X4,K4,Y4,L4,he4,hi4,y0,y1⟩:=US ((hcK.aZ jA).aZ kA) ((hmK.aZ jA).aZ kA) ((hsK.aZ jA).aZ kA) (dZ hs.n (by decide)) _ 0 _ _ _ hX rfl (aV _) ⟨by simp only [ls,k0],an.refl _,Aj3 (by simp only [k0,k1,k2,k3,gB,and_self,sevalprocAttr]) (by simp only [k0,gB,sevalprocAttr]; try rfl)⟩;subst he4;unfold Fw;cases hf:ck (fun i=>rB cs m (aM ss i)) ss.length 0 with
                 | false=>simp (maxSteps:=4000000) -implicitDefEqProofs only [y0,y1,hf,↓zzA,zzB,sevalprocAttr]
                 | true =>obtain ⟨l0,_⟩:=hi4 hf;simp (maxSteps:=4000000) -implicitDefEqProofs only [aP,l0,hf,↓zzA,zzB,sevalprocAttr]
theorem bn4 (a b:Bool) (H:AH) (fb:Option AV):je .neq 4 (.bool a) (.bool b) H fb=some (.bool (a != b)):=by cases a <;> cases b <;> kernel_rfl
def JJ (cs:List Cod):Bool:=ck (fun j=>!ltB 80 ((dj cs j).insns.length:Int)) cs.length 0
def PB (cs:List Cod) (m:List (List Int)) (ss:List (List Itm)) (f:Con):Bool:=!ltB 4 (cs.length:Int) && JJ cs && eqB (g8 cs m ss f) 0
theorem PA {G:AH} {cs:List Cod} {vc vm vs:AV} {f:Con} {q:Nat} (hc:dy G cs vc) (hq:G[q]? =some (.cells [vc,vm,vs,I f.w,.bool f.free,I f.cores,I f.slots,I f.room,I f.pol,I f.lat] 29)) (hN:cs.length < 2 ^ 60):∀ (d j:Nat) (tm:List AV) (K:AH) (Z:Option (bk × St)),EvC aa C0 W0 plN YO (tm,K)=Z->cs.length - j=d->j<=cs.length->an G K->tm.length=33->tm.getD 1 uA=.ptr q 0->tm.getD 3 uA=I ((j:Nat):Int) ->
   ∃ X Y K1 K2,Z=br (ck (fun j=>!ltB 80 ((dj cs j).insns.length:Int)) (cs.length) (j)) (some (.exit 0,(X,K1))) (some (.ret,(Y,K2)))/\(X.length=33/\an G K1/\X.getD 1 uA=.ptr q 0)/\Y.length=33/\Y.getD 2 uA=.bool false:=by
 intro d;induction d with
 | zero =>
   intro j tm K Z hZ hd hj hA hlen h1 h3;subst hZ;have hjl:j=cs.length:=by omega
   subst hjl;have hlt:ltB (((cs.length:Nat)):Int) (cs.length:Nat)=false:=cw (by omega);have hq0:∀ L,ak (K++L) q 0 1=some [vc]:=fun L=>by unfold ak; rw [(hA.bX L).get hq]; rfl
   have hq0':ak K q 0 1=some [vc]:=by unfold ak; rw [hA.get hq]; rfl
   have hlc:=hc.len;rw [dk (aw _),TJ];simp -implicitDefEqProofs only [Ox,f8,aP,hlen,h1,h3,hlt,hlc,hq0',nT,↓zzC,zzE,sevalprocAttr];exact ⟨_,tm.set 2 (.bool false),_,K,rfl,⟨by first | exact hlen | simp only [aq,hlen],hA,by first | exact h1 | simp only [hlen,h1,gB,sevalprocAttr]⟩,by simp only [ls,hlen],by simp only [hlen,dK,aR]⟩
 | succ d ih =>
   intro j tm K Z hZ hd hj hA hlen h1 h3;subst hZ;have hjN:j < cs.length:=by omega
   have hlt:ltB (j:Int) (cs.length:Nat)=true:=cu (by omega);have hw:=b6 (j:=j) (by omega);have hq0:∀ L,ak (K++L) q 0 1=some [vc]:=fun L=>by unfold ak; rw [(hA.bX L).get hq]; rfl
   have hq0':ak K q 0 1=some [vc]:=by unfold ak; rw [hA.get hq]; rfl
   have hlc:=hc.len;obtain ⟨i,k,vp,vz,vi,hix,hrd,hcd⟩:=hc.at hA hjN;have hr4:∀ L,ak (K++L) i (k+4) 1=some [vi]:=fun L=>ku (hrd L) (j:=4) rfl;have hli:=hcd.li;rw [cK hjN,TJ];rw [<-af K];cases hp:(!ltB 80 ((dj cs j).insns.length:Int)) with
   | true =>simp only [bf];rw [bl] at hp;simp -implicitDefEqProofs only [Ox,f8,aP,hlen,h1,h3,hlt,hw,hlc,hq0,hix,hr4,hli,hp,nT,↓zzC,zzE,sevalprocAttr];exact ih (j+1) _ _ _ rfl (by omega) (by omega) (by first | exact hA | exact hA.bX _ | exact (hA.bX _).bX _) (by simp only [ls,hlen]) (by simp only [hlen,h1,gB,sevalprocAttr]) (by simp only [hlen,h3,gB,sevalprocAttr])
   | false =>simp only [bd];rw [iU] at hp;simp -implicitDefEqProofs only [Ox,f8,aP,hlen,h1,h3,hlt,hw,hlc,hq0,hix,hr4,hli,hp,nT,↓zzC,zzE,sevalprocAttr];exact ⟨tm,_,K,_,rfl,⟨hlen,hA,h1⟩,by simp only [ls,hlen],by simp only [hlen,gB,sevalprocAttr]⟩
theorem ev8 {H:AH} {cs:List Cod} {m:List (List Int)} {ss:List (List Itm)} {vc vm vs:AV} (hc:dy H cs vc) (hm:eo H m vm) (hs:cT H ss vs) (f:Con):Ev aa C0 W0 8 [.agg [vc,vm,vs,I f.w,.bool f.free,I f.cores,I f.slots,I f.room,I f.pol,I f.lat]] H=some (.bool (PB cs m ss f),H):=by
 obtain ⟨tm,ht,g0,g1⟩:=tm1 (.agg [vc,vm,vs,I f.w,.bool f.free,I f.cores,I f.slots,I f.room,I f.pol,I f.lat]) 33 (by decide);rw [fe8,ht];rw [<-af (ro H)];have hA0:=an.app (ro H) [bm.cells [vc,vm,vs,I f.w,.bool f.free,I f.cores,I f.slots,I f.room,I f.pol,I f.lat] 29];have hc0:=hc.ro.aZ hA0;have hm0:=hm.ro.aZ hA0;have hs0:=hs.ro.aZ hA0;have hq:(ro H++[bm.cells [vc,vm,vs,I f.w,.bool f.free,I f.cores,I f.slots,I f.room,I f.pol,I f.lat] 29])[(ro H).length]? =some (.cells [vc,vm,vs,I f.w,.bool f.free,I f.cores,I f.slots,I f.room,I f.pol,I f.lat] 29):=by rw [al (aw _),Nat.sub_self]; rfl
 have hlc:=hc.len;unfold PB;cases h4:ltB 4 (cs.length:Int) with
 | true=>simp -implicitDefEqProofs only [c8,f8,aP,g0,g1,hlc,h4,nT,↓zzC,zzE,sevalprocAttr]
 | false =>
   simp -implicitDefEqProofs only [c8,f8,aP,g0,g1,hlc,h4,nT,↓zzC,zzE,sevalprocAttr];generalize hX:EvC aa C0 W0 _ (Code.loop _) _=Z;obtain ⟨X,Y,K1,L1,he1,xs,y0,y1⟩:=PA (f:=f) (vm:=vm) (vs:=vs) (q:=(ro H).length) hc0 hq (dZ hc.n (by decide)) _ 0 _ _ _ hX rfl (aV _) (an.refl _) (by simp only [ls,g0]) (by simp only [g0,gB,sevalprocAttr]) (by simp only [g0,gB,sevalprocAttr]; try rfl);subst he1;unfold JJ;cases c1:ck (fun j=>!ltB 80 ((dj cs j).insns.length:Int)) cs.length 0 with
   | false=>simp -implicitDefEqProofs only [y0,y1,c1,↓zzA,zzB,sevalprocAttr]
   | true =>
     obtain ⟨i0,iA,i1⟩:=xs;have p0:ak K1 (ro H).length 0 1=some [vc]:=by unfold ak; rw [iA.get hq]; rfl
     have p1:ak K1 (ro H).length 1 1=some [vm]:=by unfold ak; rw [iA.get hq]; rfl
     have p2:ak K1 (ro H).length 2 1=some [vs]:=by unfold ak; rw [iA.get hq]; rfl
     have p3:ak K1 (ro H).length 3 7=some (fx f):=by unfold ak; rw [iA.get hq]; rfl
     have h16:=aeX (hc0.aZ iA) (hm0.aZ iA) (hs0.aZ iA) f;simp only [fx] at h16 p3;simp -implicitDefEqProofs only [i0,i1,c1,p0,p1,p2,p3,nT,yP,yO,E7,Sl,↓ad2,h16,↓zzC,zzE,sevalprocAttr]
end Go.Dv
