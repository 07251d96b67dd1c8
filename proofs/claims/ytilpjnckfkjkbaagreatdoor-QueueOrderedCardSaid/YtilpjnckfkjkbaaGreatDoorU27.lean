/- Part 27 of the walks (own work). -/
import Derived.Test.YtilpjnckfkjkbaaGreatDoorU26
open Bool renaming and_eq_true→az,or_eq_false_iff→rM
open Int renaming toNat_natCast→cN
open List renaming append_nil→af,eq_of_mem_replicate→AI,getElem?_append_right→al,getElem?_set_self→bG,length_append→ai,length_eq_zero_iff→dO,length_replicate→gT,length_set→aq,mem_map→bI,replicate→au,replicate_zero→cG,sum_append→OZ
open Nat renaming le_refl→aw,le_trans→bh,mul_one→dM,sub_self→d9,zero_add→cZ
open Option renaming bind_some→ax,map_some→cH
open Option.some renaming inj→aB
open Go.Proofs.Tryz renaming prog→aa
set_option maxRecDepth 100000
set_option maxHeartbeats 4000000
set_option linter.unusedSimpArgs false
set_option linter.unusedVariables false
open Go.Proofs.Tryz (f102 f17 f34 f72 f73 f74 func74)
namespace Go.Dv
open Go.Proofs
attribute [local congr] aA bC aT bB bD
theorem B0:∀ (vs:List AV) (cs:List AV) (k:Nat) (v:AV),spl cs k (vs++[v])=(spl cs k vs).set (k+vs.length) v
 | [],cs,k,v=>rfl
 | w::vs,cs,k,v=>by
   rw [List.cons_append,spl,B0 vs,spl,List.length_cons,show k+1+vs.length=k+(vs.length+1) by omega]
theorem Pt {K:AH} {b:Nat} {o:bm} (h:K[b]? =some o):K.set b o=K:=by
 refine List.ext_getElem? fun i=>?_;rw [List.getElem?_set];split
 · rename_i e;subst e;rw [if_pos (aI h),h]
 · rfl
theorem fP.ae3 {S K:AH} {q a:Nat} {ws:List AV} {vc vm vs:AV} {f:Con} {cs:List Cod} {ss:List (List Itm)} {ad:List Nat} {m:List (List Int)} {rc:List Bool} (h:fP S K q a ws vc vm vs f cs ss ad m rc) {d:Nat} (hd:d < m.length):∃ i k,(∀ kk,aC aa 24 vm (.int kk (d:Int))=some (.ptr i k))/\ak S i k 1=some [ws.getD d uA]:=by
 have hdw:d < ws.length:=by rw [h.lw]; exact hd
 obtain ⟨i,k,h1,h2⟩:=h.sm.ix d [ws.getD d uA] (by rw [List.getElem?_map,List.getElem?_eq_getElem hdw,d6 hdw]; rfl);exact ⟨i,k,h1,h2⟩
theorem fP.abD {S K:AH} {q a:Nat} {ws:List AV} {vc vm vs:AV} {f:Con} {cs:List Cod} {ss:List (List Itm)} {ad:List Nat} {m:List (List Int)} {rc:List Bool} (h:fP S K q a ws vc vm vs f cs ss ad m rc) {K':AH} (hK:∀ b,(∀ w∈ws,cF w≠some b)->K'[b]? =K[b]?):Sub S K':=fun b o hb ho=>by
 rw [hK b fun w hw e=>(h.gw w hw b e).ne hb ho rfl]
 exact h.sub b o hb ho
theorem fP.fill {S K:AH} {q a:Nat} {ws:List AV} {vc vm vs:AV} {f:Con} {cs:List Cod} {ss:List (List Itm)} {ad:List Nat} {m:List (List Int)} {rc:List Bool} (h:fP S K q a ws vc vm vs f cs ss ad m rc) {d:Nat} (hd:d < m.length) {w:Int} (hw:fk w) :
   ∃ (HK:Nat->AH) (n:Nat),n=(bV m d).length/\HK 0=K/\(∀ j,j<=n->(HK j).length=K.length/\∀ b,(∀ w∈ws,cF w≠some b)->(HK j)[b]? =K[b]?) /\
     (∀ j,j < n->∃ b k0 c ex,ws.getD d uA=.slice b k0 1 n c ex/\(∀ j,j < n->∀ L,bj (HK j++L) b (k0+j) [.int .i32 w]=some (HK (j+1)++L))) /\
     fP S (HK n) q a ws vc vm vs f cs ss ad (m.set d (au (bV m d).length w)) rc:=by
 have od:=h.own d hd
 have hdw:d < ws.length:=by rw [h.lw]; exact hd
 have hmw:=eF hdw uA
 have hld:=od.length
 rw [dM] at hld
 have n2:(ju (bV m d)).length=(bV m d).length:=by unfold ju; simp
 by_cases h0:(bV m d).length=0
 · refine ⟨fun _=>K,0,h0.symm,rfl,fun j _=>⟨rfl,fun _ _=>rfl⟩,fun j hj=>absurd hj (by omega),?_⟩
   have e1:bV m d=[]:=dO.1 h0
   rw [h0,cG,B2 e1 hd]; exact h
 · have od':=od
   generalize hxd:ju (bV m d)=xd at od'
   generalize hwd:ws.getD d uA=wd at od'
   cases od' with
   | nil=>rw [hxd] at n2; simp at n2; omega
   | «at» b k0 len c ex cs xs hb hi hl hc hrd =>
     rw [hwd,cp] at hld
     rw [dM] at hc
     have hbl:cF (ws.getD d uA)=some b:=by rw [hwd]; rfl
     have hbb:=aI hi
     have hlen:len=(bV m d).length:=by omega
     have hone:∀ j,(au j (AV.int .i32 w)).all AV.one=true:=fun j=>by
       rw [List.all_eq_true]
       intro x hx
       rw [AI hx]; rfl
     have hsl:∀ j,(spl cs k0 (au j (AV.int .i32 w))).length=cs.length:=fun j=>gr ..
     refine ⟨fun j=>K.set b (.cells (spl cs k0 (au j (.int .i32 w))) 21),(bV m d).length,rfl,?_,fun j _=>⟨aq ..,fun e he=>List.getElem?_set_ne fun h2=>he _ hmw (by rw [hbl,h2])⟩,fun j hj=>⟨b,k0,c,ex,by rw [hlen],fun j hj L=>?_⟩,?_⟩
     · exact Pt hi
     · have hg:(K.set b (.cells (spl cs k0 (au j (.int .i32 w))) 21))[b]? =_:=bG hbb
       rw [iF hg (k:=k0+j) (xs:=[.int .i32 w]) (by rw [hsl]; simp; omega) rfl L,List.set_set]
       congr 2
       show K.set b (.cells ((spl cs k0 (au j (.int .i32 w))).set (k0+j) (.int .i32 w)) 21)=_
       have:=B0 (au j (.int .i32 w)) cs k0 (.int .i32 w)
       rw [gT,<-List.replicate_succ'] at this
       rw [<-this]
     · have hne:au (bV m d).length (AV.int .i32 w)≠[]:=fun e=>h0 (by simpa using congrArg List.length e)
       obtain ⟨i',k',len',cap',ex',K',hw',hwr',ho',hlen',hK'⟩:=od.write (j:=0) (new:=au (bV m d).length (.int .i32 w)) (by rw [gT]; omega) hne (hone _)
       rw [hwd] at hw'
       cases hw'
       have e1:=hwr' []
       rw [iF hi (k:=k0+0) (by rw [gT]; omega) (hone _) []] at e1
       have e2:K.set b (.cells (spl cs k0 (au (bV m d).length (.int .i32 w))) 21)=K':=by
         have:=aB e1
         simpa using this
       show fP S (K.set b (.cells (spl cs k0 (au (bV m d).length (.int .i32 w))) 21)) q a ws vc vm vs f _ ss ad _ rc
       rw [e2]
       refine h.JK hd hbl hK' ?_ (by simp) (fun x hx=>by rw [AI hx]; exact hw)
       have e3:spl (ju (bV m d)) 0 (au (bV m d).length (.int .i32 w))=ju (au (bV m d).length w):=by
         rw [uG _ _ (by simp [ju])]
         unfold ju; rw [List.map_replicate]
       rw [<-e3]; exact ho'
theorem yN {HK:Nat->AH} {n q b k0 c:Nat} {ex:Bool} {vm:AV} {x:Itm} {p:Nat} {d:Nat} (hd:x.dst=d)
   (hq1:∀ j,j < n->ak (HK j) q 1 1=some [vm]) (hix:∀ j,j < n->∃ i k,(∀ kk,aC aa 24 vm (.int kk (d:Int))=some (.ptr i k))/\ak (HK j) i k 1=some [.slice b k0 1 n c ex])
   (hx5:∀ j,j < n->ak (HK j) p 5 1=some [I x.dst]) (hx8:∀ j,j < n->ak (HK j) p 8 1=some [.int .i32 x.word]) (hwr:∀ j,j < n->bj (HK j) b (k0+j) [.int .i32 x.word]=some (HK (j+1))) (hn:n < 2 ^ 60)
   {tm:List AV} {H0:AH} {Z:Option (bk × St)} (hX:EvC aa C0 W0 m4 Gh (tm,H0)=Z) (hH0:H0=HK 0) (hlen:tm.length=163) (h0:tm.getD 0 uA=.ptr q 0) (h8:tm.getD 8 uA=.ptr p 0) (h133:tm.getD 133 uA=I n) (h134:tm.getD 134 uA=I ((0:Nat):Int)) :
   ∃ X,Z=some (.exit 1,(X,HK n))/\X.length=163/\X.getD 8 uA=.ptr p 0/\X.getD 4 uA=tm.getD 4 uA:=by
 subst hX hH0
 exact IB (e:=0) (va:=.junk) hd hq1 hix hx5 hx8 hwr hn n 0 tm (by omega) (by omega) hlen h0 h8 h133 h134
theorem Rq {S K:AH} {q a:Nat} {ws:List AV} {vc vm vs:AV} {f:Con} {cs:List Cod} {ss:List (List Itm)} {ad:List Nat} {m:List (List Int)} {rc:List Bool} (h:fP S K q a ws vc vm vs f cs ss ad m rc) {x:Itm} {va:AV} (hac:va.cells=[va]) (hao:va.one=true) {tm:List AV} (hlen:tm.length=163) (h0:tm.getD 0 uA=.ptr q 0) (h8:tm.getD 8 uA=.ptr (K.length+16) 0) (hk:x.kind=2) (hf:(0<=x.dst/\x.dst.toNat < m.length)/\fk x.word):∃ tm' Kb,EvC aa C0 W0 m4 pv (tm,K++[.fresh,.fresh,.fresh,.fresh,.fresh,.fresh,.fresh,.fresh,.fresh,.fresh,.fresh,.fresh,.fresh,.fresh,.fresh,.fresh,.cells (aJ x va) 34,.fresh])=some (.normal,(tm',Kb++[.fresh,.fresh,.fresh,.fresh,.fresh,.fresh,.fresh,.fresh,.fresh,.fresh,.fresh,.fresh,.fresh,.fresh,.fresh,.fresh,.cells (aJ x va) 34,.fresh]))/\tm'.length=163/\tm'.getD 4 uA=tm.getD 4 uA/\tm'.getD 8 uA=.ptr (Kb.length+16) 0/\fP S Kb q a ws vc vm vs f cs ss ad (m.set x.dst.toNat (au (bV m x.dst.toNat).length x.word)) rc/\Kb.length=K.length/\(∀ b,b≠q->(∀ w∈ws,cF w≠some b)->Kb[b]? =K[b]?):=by
 obtain ⟨kind,code,grid,block,src,dst,ev,args,word⟩:=x;simp only at hk hf ⊢;subst hk;have e0:eqB 2 0=false:=rfl;have e1:eqB 2 1=false:=rfl;have e2:eqB 2 2=true:=rfl;have e3:eqB 2 3=false:=rfl;obtain ⟨⟨f1,f2⟩,f3⟩:=hf;obtain ⟨d,rfl⟩:∃ d:Nat,dst=d:=⟨dst.toNat,by omega⟩;rw [cN] at f2 ⊢;obtain ⟨HK,n,hn,hH0,hHl,hHw,hQ⟩:=h.fill f2 f3;obtain ⟨i1,k1,hix1,hrd1⟩:=h.buf f2;have hq1:∀ L,ak (K++L) q 1 1=some [vm]:=fun L=>by have:=h.view.cell (an.refl K) L 1 (x:=vm) rfl; rwa [cZ] at this
 have hln:∀ G,d4 aa 32 G (ws.getD d uA)=some (I n):=fun G=>by rw [hn]; exact kQ (h.own d f2).s32 G
 have hnb:n<=256:=by rw [hn]; exact h.nb _ (vC f2)
 have hqw:∀ w∈ws,cF w≠some q:=fun w hw=>(h.qw w hw).1;simp -implicitDefEqProofs only [pv,f34,aP,hlen,h0,h8,aJ,e0,e1,e2,e3,hq1,hix1,hrd1,hln,KP,↓zzC,zzE,sevalprocAttr];generalize hX:EvC aa C0 W0 _ (Code.loop _) _=Z;have hKl:∀ j,j<=n->(HK j).length=K.length:=fun j hj=>(hHl j hj).1;have hbox:∀ j,j<=n->∀ k c,ak (HK j++([.fresh,.fresh,.fresh,.fresh,.fresh,.fresh,.fresh,.fresh,.fresh,.fresh,.fresh,.fresh,.fresh,.fresh,.fresh,.fresh,.cells [I 2,I code,I grid,I block,I src,I d,I ev,va,.int .i32 word] 34,.fresh]:AH)) (K.length+16) k c=if k+c<=9 then some ((([I 2,I code,I grid,I block,I src,I d,I ev,va,.int .i32 word]:List AV).drop k).take c) else none:=fun j hj k c=>by rw [<-hKl j hj,jE]; rfl
 have hqj:∀ j,j<=n->∀ L,ak (HK j++L) q 1 1=some [vm]:=fun j hj L=>by have e:(HK j)[q]? =K[q]?:=(hHl j hj).2 q hqw;have:=hq1 [];rw [af] at this;unfold ak at this ⊢;rw [List.getElem?_append_left (by rw [hKl j hj]; exact aI h.kq),e]; exact this
 by_cases hn0:n=0
 · subst hn0;obtain ⟨X,he,x0,x8,x4⟩:=yN (HK:=fun _=>K++([.fresh,.fresh,.fresh,.fresh,.fresh,.fresh,.fresh,.fresh,.fresh,.fresh,.fresh,.fresh,.fresh,.fresh,.fresh,.fresh,.cells [I 2,I code,I grid,I block,I src,I d,I ev,va,.int .i32 word] 34,.fresh]:AH)) (n:=0) (q:=q) (b:=0) (k0:=0) (c:=0) (ex:=true) (vm:=vm) (x:=⟨2,code,grid,block,src,d,ev,args,word⟩) (p:=K.length+16) (d:=d) rfl (fun j hj=>absurd hj (by omega)) (fun j hj=>absurd hj (by omega)) (fun j hj=>absurd hj (by omega)) (fun j hj=>absurd hj (by omega)) (fun j hj=>absurd hj (by omega)) (by omega) hX rfl (by simp only [ls,hlen]) (by simp only [hlen,h0,gB,sevalprocAttr]) (by simp only [hlen,h8,gB,sevalprocAttr]) (by simp only [hlen,gB,sevalprocAttr]) (by simp only [hlen,gB,sevalprocAttr]; try rfl);simp only [hlen,gB,sevalprocAttr] at x4;subst he;simp -implicitDefEqProofs only [x0,x8,x4,↓zzA,zzB,sevalprocAttr];exact ⟨_,K,rfl,x0,x4,x8,by rw [hH0] at hQ; exact hQ,rfl,fun b _ _=>rfl⟩
 · obtain ⟨b,k0,c,ex,hsl,hwr⟩:=hHw 0 (by omega);obtain ⟨i2,k2,hix2,hrd2⟩:=h.ae3 f2;obtain ⟨X,he,x0,x8,x4⟩:=yN (HK:=fun j=>HK j++([.fresh,.fresh,.fresh,.fresh,.fresh,.fresh,.fresh,.fresh,.fresh,.fresh,.fresh,.fresh,.fresh,.fresh,.fresh,.fresh,.cells [I 2,I code,I grid,I block,I src,I d,I ev,va,.int .i32 word] 34,.fresh]:AH)) (n:=n) (q:=q) (b:=b) (k0:=k0) (c:=c) (ex:=ex) (vm:=vm) (x:=⟨2,code,grid,block,src,d,ev,args,word⟩) (p:=K.length+16) (d:=d) rfl (fun j hj=>hqj j (by omega) _) (fun j hj=>⟨i2,k2,hix2,by rw [<-hsl]; exact ((h.abD (hHl j (by omega)).2).bX _).rd hrd2⟩) (fun j hj=>by rw [hbox j (by omega)]; rfl) (fun j hj=>by rw [hbox j (by omega)]; rfl) (fun j hj=>hwr j hj _) (by omega) hX (by rw [hH0]) (by simp only [ls,hlen]) (by simp only [hlen,h0,gB,sevalprocAttr]) (by simp only [hlen,h8,gB,sevalprocAttr]) (by simp only [hlen,gB,sevalprocAttr]) (by simp only [hlen,gB,sevalprocAttr]; try rfl);simp only [hlen,gB,sevalprocAttr] at x4;subst he;simp -implicitDefEqProofs only [x0,x8,x4,↓zzA,zzB,sevalprocAttr];exact ⟨_,HK n,rfl,x0,x4,by rw [hKl n (aw _)]; exact x8,hQ,hKl n (aw _),fun b _ h2=>(hHl n (aw _)).2 b h2⟩
theorem Wc {S K:AH} {q a:Nat} {ws:List AV} {vc vm vs:AV} {f:Con} {cs:List Cod} {ss:List (List Itm)} {ad:List Nat} {m:List (List Int)} {rc:List Bool} (h:fP S K q a ws vc vm vs f cs ss ad m rc) {x:Itm} {va:AV} (hac:va.cells=[va]) (hao:va.one=true) {tm:List AV} (hlen:tm.length=163) (h0:tm.getD 0 uA=.ptr q 0) (h8:tm.getD 8 uA=.ptr (K.length+16) 0) (hf:zk m x):∃ tm' Kb,EvC aa C0 W0 m4 pv (tm,K++[.fresh,.fresh,.fresh,.fresh,.fresh,.fresh,.fresh,.fresh,.fresh,.fresh,.fresh,.fresh,.fresh,.fresh,.fresh,.fresh,.cells (aJ x va) 34,.fresh])=some (.normal,(tm',Kb++[.fresh,.fresh,.fresh,.fresh,.fresh,.fresh,.fresh,.fresh,.fresh,.fresh,.fresh,.fresh,.fresh,.fresh,.fresh,.fresh,.cells (aJ x va) 34,.fresh]))/\tm'.length=163/\tm'.getD 4 uA=tm.getD 4 uA/\tm'.getD 8 uA=.ptr (Kb.length+16) 0/\fP S Kb q a ws vc vm vs f cs ss ad (doM m x) (doR rc x)/\Kb.length=K.length/\(∀ b,b≠q->(∀ w∈ws,cF w≠some b)->Kb[b]? =K[b]?):=by
 by_cases h1:x.kind=1
 · have:=Rr h hac hao hlen h0 h8 h1 (hf.k1 h1);rw [show doM m x=m.set x.dst.toNat (bV m x.src.toNat) from by unfold doM; rw [if_pos h1],show doR rc x=rc from by unfold doR; rw [if_neg (by omega)]];exact this
 · by_cases h2:x.kind=2
   · have:=Rq h hac hao hlen h0 h8 h2 ⟨hf.k2 h2,hf.w⟩;rw [show doM m x=m.set x.dst.toNat (au (bV m x.dst.toNat).length x.word) from by unfold doM; rw [if_neg h1,if_pos h2],show doR rc x=rc from by unfold doR; rw [if_neg (by omega)]];exact this
   · by_cases h3:x.kind=3
     · have:=Wb h hac hao hlen h0 h8 h3 (hf.k3 h3);rw [show doM m x=m from by unfold doM; rw [if_neg h1,if_neg h2],show doR rc x=rc.set x.ev.toNat true from by unfold doR; rw [if_pos h3]];exact this
     · have:=Ro h hac hao hlen h0 h8 ⟨hf.k0,h1,h2,h3⟩ trivial;rw [show doM m x=m from by unfold doM; rw [if_neg h1,if_neg h2],show doR rc x=rc from by unfold doR; rw [if_neg h3]];exact this
theorem Rs {S K:AH} {q a:Nat} {ws:List AV} {vc vm vs:AV} {f:Con} {cs:List Cod} {ss:List (List Itm)} {ad:List Nat} {m:List (List Int)} {rc:List Bool} (h:fP S K q a ws vc vm vs f cs ss ad m rc) {x:Itm} {va:AV} (hac:va.cells=[va]) (hao:va.one=true) {tm:List AV} (hlen:tm.length=163) (h0:tm.getD 0 uA=.ptr q 0) (h8:tm.getD 8 uA=.ptr (K.length+16) 0) (hf:zk m x) {Z:Option (bk × St)} (hZ:EvC aa C0 W0 m4 pv (tm,K++[.fresh,.fresh,.fresh,.fresh,.fresh,.fresh,.fresh,.fresh,.fresh,.fresh,.fresh,.fresh,.fresh,.fresh,.fresh,.fresh,.cells (aJ x va) 34,.fresh])=Z):∃ tm' Kb,Z=some (.normal,(tm',Kb++[.fresh,.fresh,.fresh,.fresh,.fresh,.fresh,.fresh,.fresh,.fresh,.fresh,.fresh,.fresh,.fresh,.fresh,.fresh,.fresh,.cells (aJ x va) 34,.fresh]))/\tm'.length=163/\tm'.getD 4 uA=tm.getD 4 uA/\tm'.getD 8 uA=.ptr (Kb.length+16) 0/\fP S Kb q a ws vc vm vs f cs ss ad (doM m x) (doR rc x)/\Kb.length=K.length/\(∀ b,b≠q->(∀ w∈ws,cF w≠some b)->Kb[b]? =K[b]?):=by subst hZ;exact Wc h hac hao hlen h0 h8 hf
theorem Ob {K:AH} {x:Itm} {va:AV} {r:Nat} (hac:va.cells=[va]) (hao:va.one=true) (hr:∀ L row,row.length=9->row.all AV.one=true->bj (K++L) r 0 row=some (K.set r (.cells row 34)++L))
   (h32:∀ L,Ev aa C0 W0 32 [va] (K++L)=some (bu 1 x.args.length va (K.length+L.length),K++(L++bq 21 va (ju x.args)))) {tm:List AV} {Z:Option (bk × St)} (hZ:EvC aa C0 W0 m4 T34 (tm,K++[.fresh,.fresh,.fresh,.fresh,.fresh,.fresh,.fresh,.fresh,.fresh,.fresh,.fresh,.fresh,.fresh,.fresh,.fresh,.fresh,.cells (aJ x va) 34,.fresh])=Z) (hlen:tm.length=163) (h4:tm.getD 4 uA=.ptr r 0) (h8:tm.getD 8 uA=.ptr (K.length+16) 0) :
   ∃ tm' L row,Z=some (.ret,(tm',K.set r (.cells row 34)++L))/\tm'.length=163/\tm'.getD 4 uA=.ptr r 0/\tm'.getD 5 uA=I 0/\row.length=9:=by subst hZ;exact Rp hac hao hr h32 hlen h4 h8
theorem Sub.gone {S K:AH} (h:Sub S K) {r:Nat} (hr:K.length<=r):lL S r:=(tJ hr).sub h
theorem QO {ss:List (List Itm)} {ad:List Nat} {rc:List Bool} {s:Nat} (hs:s∈cO ss ad rc ss.length):kV ss ad rc=false:=by obtain ⟨hl,hok⟩:=jS hs;have hk:=sj hok;unfold kV;rw [rM];refine ⟨?_,by cases h:cO ss ad rc ss.length with | nil=>rw [h] at hs; simp at hs | cons _ _=>rfl⟩;have hm:(aM ss s).length - ad.getD s 0∈ey ss ad ss.length:=bI.2 ⟨s,List.mem_range.2 hl,rfl⟩;have:=mT _ _ hm;simp; omega
theorem aeL {S K:AH} {q a:Nat} {ws:List AV} {vc vm vs:AV} {f:Con} {cs:List Cod} {ss:List (List Itm)} {ad:List Nat} {m:List (List Int)} {rc:List Bool} (h:fP S K q a ws vc vm vs f cs ss ad m rc) {s:Nat} (hs:s∈cO ss ad rc ss.length) (hf:zk m (bo (aM ss s) (ad.getD s 0))) (hal:∀ l∈ss,∀ x∈l,x.args.length<=1000):∃ v K',Ev aa C0 W0 34 [.ptr q 0,I s] K=some (.tuple [v,I 0],K')/\fP S K' q a ws vc vm vs f cs ss (doA ad s) (doM m (bo (aM ss s) (ad.getD s 0))) (doR rc (bo (aM ss s) (ad.getD s 0)))/\K.length<=K'.length:=by
 obtain ⟨hsl,hok⟩:=jS hs;have hkl:=sj hok;have hV:=h.view;have hq10:∀ L,ak (K++L) q 10 1=some [.slice a 0 1 ad.length ad.length true]:=fun L=>by have:=hV.cell (an.refl K) L 10 (x:=.slice a 0 1 ad.length ad.length true) rfl; rwa [cZ] at this
 have h12:∀ L,Ev aa C0 W0 12 [.ptr q 0] (K++L)=some (.tuple [.bool false,I (vr ss ad rc)],K++L):=fun L=>by have:=Rl (hV.aZ (an.app K L));rwa [QO hs] at this
 obtain ⟨v,K1,he33,hA33,ho⟩:=V2 (hV.aZ (an.app K [bm.cells [I 0,I 0,I 0,I 0,I 0,I 0,I 0,.nilSlice,.int .i32 0] 34]));have hAK:an K K1:=(an.app K _).trans hA33;have hrl:=oJ ss ad rc ss.length;have hfs:=h.fs;have h63:Ev aa C0 W0 63 [v,I s] K1=some (.bool true,K1):=by have:=aac ho.ints (by omega) (s:Int);rwa [(yH _ _).2 hs] at this
 have hQ1:=h.grow hAK;have hV1:=hQ1.view;have hq9:∀ L,ak (K1++L) q 9 1=some [vs]:=fun L=>by have:=hV1.cell (an.refl K1) L 9 (x:=vs) rfl; rwa [cZ] at this
 have hq10':∀ L,ak (K1++L) q 10 1=some [.slice a 0 1 ad.length ad.length true]:=fun L=>by have:=hV1.cell (an.refl K1) L 10 (x:=.slice a 0 1 ad.length ad.length true) rfl; rwa [cZ] at this
 obtain ⟨i0,k0,w0,hix0,hrd0s,hxs⟩:=h.s.at (an.refl S) hsl;have hrd0:∀ L,ak (K1++L) i0 k0 1=some [w0]:=fun L=>by have:=hrd0s [];rw [af] at this;exact (hQ1.sub.bX L).rd this
 obtain ⟨i2,k2,va,hix2,hrd2s,hsa2⟩:=hxs.at (an.refl S) hkl;have hrd2:∀ L,ak (K1++L) i2 k2 9=some (aJ (bo (aM ss s) (ad.getD s 0)) va):=fun L=>by have:=hrd2s [];rw [af] at this;exact (hQ1.sub.bX L).rd this
 have hsa:=hsa2.sub hQ1.sub;have hsal:s < ad.length:=by rw [h.la]; exact hsl
 have hia:∀ kk,aC aa 30 (.slice a 0 1 ad.length ad.length true) (.int kk (s:Int))=some (.ptr a s):=fun kk=>by rw [YV,if_pos ⟨by omega,by omega,rfl⟩,cN,dM,cZ]
 have hra:∀ L,ak (K1++L) a s 1=some [I ((ad.getD s 0:Nat):Int)]:=fun L=>by rw [eU hQ1.ka L,if_pos (by simp; omega)];rw [List.drop_eq_getElem_cons (by simp; omega),List.take_succ_cons,List.take_zero,List.getElem_map,d6 hsal]
 obtain ⟨Ka,hwra,hQa,hKal,hKaf⟩:=hQ1.abP hsl hkl;have hinc:IntKind.i64.wrap (((ad.getD s 0:Nat):Int)+1)=((ad.getD s 0+1:Nat):Int):=b6 (by have:=hxs.n; omega);have hac:=hsa.cells;have hao:=hsa.one;have hlar:(bo (aM ss s) (ad.getD s 0)).args.length<=1000:=hal _ (gG hsl) _ (fA hkl);generalize bo (aM ss s) (ad.getD s 0)=x at *;simp only [aJ] at hrd2;obtain ⟨tm,ht,g0,g1,g2⟩:=tm2 (.ptr q 0) (I s) 163 (by decide);rw [adk,ht];rw [Wk];simp -implicitDefEqProofs only [TV,TU,TT,TS,TR,TQ,f34,aP,g0,g1,g2,show ∀ o,put none K o=some (K.length,K++[o]) from fun _=>rfl,sK,ed,↓yc,↓R5,hq10,↓Rk,h12,↓Rj,he33,↓ZI,h63,↓cD P0,Lj,List.any_toArray',List.any_toArray,List.any_cons,List.any_nil,bZ,List.size_toArray,List.replicate_succ,cG,hq9,hq10',hix0,hrd0,hia,hra,hix2,hrd2,↓hac,↓hao,hinc,st3,hwra,↓dW,↓dS,↓gK,↓eP,↓dU,↓eR,↓da,↓dX,↓bP,↓bz,↓cg,↓eT,↓de,↓dY,↓bR,↓bQ,↓ch,↓dJ,↓cJ,dg,bH,ai,Nat.add_assoc,cd,cI,dh,↓zzC,zzE,sevalprocAttr];generalize hB:EvC aa C0 W0 _ pv _=Z;obtain ⟨tm1,Kb,he,t0,t4,t8,hQb,hKbl,hKbf⟩:=Rs hQa (x:=x) (va:=va) hac hao (by simp only [ls,g0]) (by simp only [g0,g1,gB,sevalprocAttr]) (by simp only [g0,hKal,gB,sevalprocAttr]) hf hB;subst he;simp only [g0,gB,sevalprocAttr] at t4;simp -implicitDefEqProofs only [↓zzA,zzB,sevalprocAttr];have hql:=aI h.kq;have hall:=aI h.ka;have hwl:∀ w∈ws,cF w≠some K.length:=fun w hw e=>by obtain ⟨i,hi,e1⟩:=List.mem_iff_getElem.1 hw;have:=(gX (h.own i (by rw [<-h.lw]; exact hi)) (i:=K.length) (by rw [d6 hi,e1]; exact e)).2;omega
 have hkr:Kb[K.length]? =some (.cells [I 0,I 0,I 0,I 0,I 0,I 0,I 0,.nilSlice,.int .i32 0] 34):=by rw [hKbf _ (by omega) hwl,hKaf _ (by omega),hA33 K.length (by simp),al (aw _),d9]; rfl
 have hr:∀ L row,row.length=9->row.all AV.one=true->bj (Kb++L) K.length 0 row=some (Kb.set K.length (.cells row 34)++L):=fun L row h1 h2=>by rw [iF hkr (by rw [h1]; decide) h2 L,uG _ _ (by rw [h1]; rfl)]
 have hsb:SlS 32 1 Kb va (x.args.map dH):=hsa2.sub hQb.sub;have h32:=fun L=>MU hsb hlar L;generalize hT:EvC aa C0 W0 _ T34 _=Z;obtain ⟨tm2,L,row,he,u0,u4,u5,hrow⟩:=Ob (x:=x) (va:=va) (r:=K.length) hac hao hr h32 hT t0 t4 t8;subst he;have hbl:Kb.length=K1.length:=by rw [hKbl,hKal]
 have hK1l:K.length < K1.length:=by have:=hA33.len; rw [ai] at this; simp at this; omega
 have hrd9:ak (Kb.set K.length (.cells row 34)++L) K.length 0 9=some row:=by rw [eU (bG (by omega)) L,if_pos (by rw [hrow]; decide),List.drop_zero,List.take_of_length_le (by rw [hrow]; exact aw _)]
 refine ⟨.agg row,Kb.set K.length (.cells row 34)++L,?_,(hQb.UB (h.sub.gone (aw _)) (by omega) (by omega) hwl _).grow (an.app _ L),?_⟩
 · simp only [ax,acr,u4,u5,Q1,hrd9,cH]
 · rw [ai,aq]; omega
structure iB (m0 m:List (List Int)):Prop where
 n:m.length=m0.length
 b:∀ j,(bV m j).length=(bV m0 j).length
theorem zk.same {m0 m:List (List Int)} {x:Itm} (h:zk m0 x) (s:iB m0 m):zk m x:=
 ⟨h.k0,fun k=>by have:=h.k1 k; rw [s.n,s.b,s.b]; exact this,fun k=>by have:=h.k2 k; rw [s.n]; exact this,h.k3,h.w⟩
theorem iB.doM {m0 m:List (List Int)} {x:Itm} (s:iB m0 m) (h:zk m x):iB m0 (doM m x):=by
 unfold Go.Dv.doM;split
 · rename_i k;obtain ⟨_,_,_,h4,h5⟩:=h.k1 k;exact ⟨by rw [aq]; exact s.n,fun j=>by
     rw [vB h4];split
     · rename_i e; rw [h5,e,<-s.b]
     · exact s.b j⟩
 · split
   · rename_i k;obtain ⟨_,h4⟩:=h.k2 k;exact ⟨by rw [aq]; exact s.n,fun j=>by
       rw [vB h4];split
       · rename_i e; rw [gT,e,<-s.b]
       · exact s.b j⟩
   · exact s
theorem yr {ss:List (List Itm)} {ad:List Nat} {s:Nat} (hla:ad.length=ss.length) (hs:s < ss.length) (hk:ad.getD s 0 < (aM ss s).length):∀ n,n<=ss.length->(ey ss (doA ad s) n).sum+(if s < n then 1 else 0)=(ey ss ad n).sum
 | 0,_=>rfl
 | n+1,h=>by
   have ih:=yr hla hs hk n (by omega)
   rw [oX,oX,OZ,OZ,GB _ _ _ (by omega)]
   simp only [List.sum_cons,List.sum_nil,Nat.add_zero]
   by_cases e:n=s
   · subst e
     rw [if_pos rfl,if_pos (by omega)]
     rw [if_neg (by omega)] at ih
     omega
   · rw [if_neg e]
     by_cases l:s < n
     · rw [if_pos (by omega)]; rw [if_pos l] at ih; omega
     · rw [if_neg (by omega)]; rw [if_neg l] at ih; omega
def Trod (ss:List (List Itm)) (m0:List (List Int)) (ad:List Nat) (m:List (List Int)) (rc:List Bool):Prop:=
 ∃ L,Qu.RT (qS ss) ad (rF rc) L/\m=L.foldl (Qu.doP (qS ss)) m0
theorem Trod.init (ss:List (List Itm)) (m0:List (List Int)):Trod ss m0 (au ss.length 0) m0 rc0:=by refine ⟨[],?_,rfl⟩;rw [show rF rc0=fun _=>false from PL,<-se ss];exact .init
theorem Trod.step {ss:List (List Itm)} {m0:List (List Int)} {ad:List Nat} {m:List (List Int)} {rc:List Bool} (hev:sG ss) (hl:rc.length=16) (h:Trod ss m0 ad m rc) {s:Nat} (hs:s∈cO ss ad rc ss.length) :
   Trod ss m0 (doA ad s) (doM m (bo (aM ss s) (ad.getD s 0))) (doR rc (bo (aM ss s) (ad.getD s 0))):=by obtain ⟨L,h1,h2⟩:=h;refine ⟨_,Pw hev hl h1 hs,?_⟩;rw [List.foldl_append,<-h2];show _=Qu.doP (qS ss) m (s,ad.getD s 0);unfold Qu.doP Qu.at?;rw [nv (sj (jS hs).2)]; rfl
theorem Rt (rc:List Bool) (x:Itm):(doR rc x).length=rc.length:=by unfold doR; split <;> simp
theorem JP {S:AH} {q a:Nat} {ws:List AV} {vc vm vs:AV} {f:Con} {cs:List Cod} {ss:List (List Itm)} {m0:List (List Int)} (hfit:∀ l∈ss,∀ x∈l,zk m0 x) (hal:∀ l∈ss,∀ x∈l,x.args.length<=1000) :
   ∀ (n:Nat) (ad:List Nat) (m:List (List Int)) (rc:List Bool) (K:AH) (tm:List AV),(ey ss ad ss.length).sum=n->fP S K q a ws vc vm vs f cs ss ad m rc->iB m0 m->Trod ss m0 ad m rc->tm.length=77->tm.getD 13 uA=.ptr q 0->tm.getD 4 uA=.nilSlice->tm.getD 15 uA=.bool (kV ss ad rc) ->
   ∃ X K' ad' m' rc',EvC aa C0 W0 plN Gj (tm,K)=some (.exit 0,(X,K'))/\X.length=77/\X.getD 13 uA=.ptr q 0/\K.length<=K'.length/\fP S K' q a ws vc vm vs f cs ss ad' m' rc'/\iB m0 m'/\Trod ss m0 ad' m' rc'/\kV ss ad' rc'=true:=by
 intro n;induction n using Nat.strongRecOn with
 | ind n ih =>
   intro ad m rc K tm hn h hsl hway hlen h13 h4 h15;rw [V9];cases he:kV ss ad rc with
   | true =>rw [he] at h15;simp -implicitDefEqProofs only [Hi,f17,aP,hlen,h13,h4,h15,↓zzA,zzB,sevalprocAttr];exact ⟨_,K,ad,m,rc,rfl,by simp only [ls,hlen],by simp only [hlen,h13,gB,sevalprocAttr],aw _,h,hsl,hway,he⟩
   | false =>
     rw [he] at h15;have he':=he;unfold kV at he';rw [rM] at he';have hne:cO ss ad rc ss.length≠[]:=fun e=>by rw [e] at he'; simp at he'
     have hpos:0 < (cO ss ad rc ss.length).length:=by
       rcases Nat.eq_zero_or_pos (cO ss ad rc ss.length).length with e | e
       · exact absurd (dO.1 e) hne
       · exact e
     have hmem:(cO ss ad rc ss.length).getD 0 0∈cO ss ad rc ss.length:=eF hpos 0;obtain ⟨v,K1,he33,hA33,ho⟩:=V2 h.view;obtain ⟨i0,k0,hix,hrd⟩:=ints_at ho.ints (an.refl K1) hpos;have hQ1:=h.grow hA33;obtain ⟨hs1,hok1⟩:=jS hmem;have hkl:=sj hok1;have hxin:bo (aM ss ((cO ss ad rc ss.length).getD 0 0)) (ad.getD ((cO ss ad rc ss.length).getD 0 0) 0)∈aM ss ((cO ss ad rc ss.length).getD 0 0):=fA hkl;have hf:=(hfit _ (gG hs1) _ hxin).same hsl;have hld:=yr h.la hs1 hkl ss.length (aw _);rw [if_pos hs1] at hld;have hstep:=hway.step h.ev h.lr hmem;have hsl':=hsl.doM hf;generalize (cO ss ad rc ss.length).getD 0 0=s at *;obtain ⟨vx,K2,he34,hQ2,hK2⟩:=aeL hQ1 hmem hf hal;have hrd0:ak K1 i0 k0 1=some [I (s:Int)]:=by have:=hrd []; rwa [af] at this
     have h12:=Rl hQ2.view;have l0:ltB 0 0=false:=rfl;have hix0:=fun kk=>hix kk;simp only [Int.natCast_zero] at hix0;simp -implicitDefEqProofs only [Hi,f17,aP,hlen,h13,h4,h15,↓Rj,he33,Ga,l0,hix0,hrd0,↓adU,he34,↓Rk,h12,↓zzC,zzE,sevalprocAttr];generalize hX:EvC aa C0 W0 _ _ _=Z;have key:∀ (tm1:List AV),EvC aa C0 W0 plN Gj (tm1,K2)=Z->tm1.length=77->tm1.getD 13 uA=.ptr q 0->tm1.getD 4 uA=.nilSlice->tm1.getD 15 uA=.bool (kV ss (doA ad s) (doR rc (bo (aM ss s) (ad.getD s 0)))) ->
         ∃ X K' ad' m' rc',Z=some (.exit 0,(X,K'))/\X.length=77/\X.getD 13 uA=.ptr q 0/\K.length<=K'.length/\fP S K' q a ws vc vm vs f cs ss ad' m' rc'/\iB m0 m'/\Trod ss m0 ad' m' rc'/\kV ss ad' rc'=true:=by
       intro tm1 hz a1 a2 a3 a4
       obtain ⟨X,K',ad',m',rc',b1,b2,b3,b4,b5⟩:=ih (ey ss (doA ad s) ss.length).sum (by omega) _ _ _ K2 tm1 rfl hQ2 hsl' hstep a1 a2 a3 a4
       exact ⟨X,K',ad',m',rc',hz.symm.trans b1,b2,b3,bh (bh hA33.len hK2) b4,b5⟩
     exact key _ hX (by simp only [ls,hlen]) (by simp only [hlen,h13,gB,sevalprocAttr]) (by simp only [hlen,h4,gB,sevalprocAttr]) (by simp only [hlen,gB,sevalprocAttr])
theorem HR {S:AH} {q a:Nat} {ws:List AV} {vc vm vs:AV} {f:Con} {cs:List Cod} {ss:List (List Itm)} {m0:List (List Int)} (hfit:∀ l∈ss,∀ x∈l,zk m0 x) (hal:∀ l∈ss,∀ x∈l,x.args.length<=1000)
   {ad:List Nat} {m:List (List Int)} {rc:List Bool} {K:AH} {tm:List AV} {Z:Option (bk × St)} (hX:EvC aa C0 W0 plN Gj (tm,K)=Z) (h:fP S K q a ws vc vm vs f cs ss ad m rc) (hs:iB m0 m) (hw:Trod ss m0 ad m rc) (hlen:tm.length=77) (h13:tm.getD 13 uA=.ptr q 0) (h4:tm.getD 4 uA=.nilSlice) (h15:tm.getD 15 uA=.bool (kV ss ad rc)) :
   ∃ X K' ad' m' rc',Z=some (.exit 0,(X,K'))/\X.length=77/\X.getD 13 uA=.ptr q 0/\K.length<=K'.length/\fP S K' q a ws vc vm vs f cs ss ad' m' rc'/\iB m0 m'/\Trod ss m0 ad' m' rc'/\kV ss ad' rc'=true:=by subst hX;exact JP hfit hal _ ad m rc K tm rfl h hs hw hlen h13 h4 h15
theorem Bw {cs:List Cod} {m:List (List Int)} {x:Itm} (h:cC cs m x=true) (h0:x.kind≠0) (hw:fk x.word):zk m x:=by
 have e0:eqB x.kind 0=false:=fR h0;refine ⟨h0,fun k=>?_,fun k=>?_,fun k=>uH h (.inl k),hw⟩
 · unfold cC at h;rw [e0,cM,kP k,d7] at h;unfold inB yq at h;simp only [az,dC,dB,cP] at h;omega
 · have e1:eqB x.kind 1=false:=fR (by omega);unfold cC at h;rw [e0,cM,e1,cM,kP k,d7] at h;unfold inB at h;simp only [az,dC,dB,cP] at h;omega
theorem iB.refl (m:List (List Int)):iB m m:=⟨rfl,fun _=>rfl⟩
theorem fP.small {S K:AH} {q a:Nat} {ws:List AV} {vc vm vs:AV} {f:Con} {cs:List Cod} {ss:List (List Itm)} {ad:List Nat} {m:List (List Int)} {rc:List Bool} (h:fP S K q a ws vc vm vs f cs ss ad m rc):m.length<=100/\∀ b∈m,b.length<=1000:=
 ⟨bh h.nm (by decide),fun b hb=>bh (h.nb b hb) (by decide)⟩
theorem aap {H:AH} {cs:List Cod} {m:List (List Int)} {ss:List (List Itm)} {vc vm vs:AV} (hc:dy H cs vc) (hm:eo H m vm) (hs:cT H ss vs) (f:Con) (hk:g8 cs m ss f=0) (hnl:∀ l∈ss,∀ x∈l,x.kind≠0):∃ v K ad m' rc',Ev aa C0 W0 17 [vc,vm,vs,.agg (fx f),.nilSlice] H=some (.tuple [v,I (vr ss ad rc'),I 0],K)/\Sub H K/\H.length<=K.length/\eo K m' v/\iB m m'/\Trod ss m ad m' rc'/\kV ss ad rc'=true/\ad.length=ss.length:=by
 have hxb:∀ xs∈ss,xs.length < 2 ^ 50/\∀ x∈xs,fk x.word:=fun xs hx=>by obtain ⟨⟨l2,e2,_,h2⟩,_⟩:=hs;rw [<-e2] at hx;obtain ⟨p,hp,rfl⟩:=bI.1 hx;exact ⟨(h2 p hp).n,(h2 p hp).iw⟩
 have G:=tI (fun xs hx=>(hxb xs hx).1) hk;have hfit:∀ l∈ss,∀ x∈l,zk m x:=fun l hl x hx=>Bw (G.it l hl x hx) (hnl l hl x hx) ((hxb l hl).2 x hx);have hal:∀ l∈ss,∀ x∈l,x.args.length<=1000:=fun l hl x hx=>bh (G.args l hl x hx) (by decide);obtain ⟨K,S,q,a,ws,vc',vm',vs',he,hA,hHq,hQ,hAS⟩:=ae0 (hc.aZ (an.app H [.cells [I f.w,.bool f.free,I f.cores,I f.slots,I f.room,I f.pol,I f.lat] 27])) (hm.aZ (an.app H [.cells [I f.w,.bool f.free,I f.cores,I f.slots,I f.room,I f.pol,I f.lat] 27])) (hs.aZ (an.app H [.cells [I f.w,.bool f.free,I f.cores,I f.slots,I f.room,I f.pol,I f.lat] 27])) f hk;simp only [fx] at he;have e0:eqB 0 0=true:=rfl;have h12:=Rl hQ.view;obtain ⟨tm,ht,g0,g1,g2,g3,g4,g5⟩:=tm5 vc vm vs (.agg (fx f)) (.nilSlice) 77 (by decide);rw [adw,ht];simp -implicitDefEqProofs only [c17,f17,aP,g0,g1,g2,g3,g4,g5,fx,↓ad5,he,e0,↓Rk,h12,show ∀ o,put none H o=some (H.length,H++[o]) from fun _=>rfl,↓zzC,zzE,sevalprocAttr];generalize hX:EvC aa C0 W0 _ (Code.loop _) _=Z;obtain ⟨X,K',ad',m',rc',hz,x0,x13,hKl,hQ',hsl,hw,hend⟩:=HR hfit hal hX hQ (iB.refl m) (Trod.init ss m) (by simp only [ls,g0]) (by simp only [g0,gB,sevalprocAttr]) (by simp only [g0,g5,gB,sevalprocAttr]) (by simp only [g0,gB,sevalprocAttr]);subst hz;have h12':=Rl hQ'.view;obtain ⟨v,K2,he40,hA40,hm40⟩:=aeG hQ'.view hQ'.small.1 hQ'.small.2;refine ⟨v,K2,ad',m',rc',?_,((an.app H _).trans hAS).sub.trans (hQ'.sub.aZ hA40),?_,hm40,hsl,hw,hend,hQ'.la⟩
 · simp -implicitDefEqProofs only [x0,x13,↓Rk,h12',↓adT,he40,show ∀ o,put none H o=some (H.length,H++[o]) from fun _=>rfl,↓zzC,zzE,sevalprocAttr]
 · have h1:=hA.len;rw [ai] at h1;exact bh (bh (bh (Nat.le_add_right _ _) h1) hKl) hA40.len
theorem aek {H:AH} {w:AV} {l:List Nat} {b k:Nat} (hs:SlS 30 1 H w (ints l)) (hl:l.length < 2 ^ 40) (hb:ak H b k 1=some [w]) (n:Int):Ev aa C0 W0 74 [I n,.ptr b k] H=some (.bool (zA l n),H):=by obtain ⟨tm,ht,g0,g1,g2⟩:=tm2 (I n) (.ptr b k) 7 (by decide);rw [acK,ht];rw [<-af (ro H)];have hb':∀ L,ak (ro H++L) b k 1=some [w]:=fun L=>iH (s5 hb) (an.refl _) L;have h63:=fun L=>aac (hs.ro.app L) hl n;simp -implicitDefEqProofs only [c74,f74,aP,g0,g1,g2,hb',↓ZI,h63,↓zzC,zzE,sevalprocAttr]
def rV (a b:List Nat):Bool:=!ck (fun j=>!zA b ((a.getD j 0:Nat):Int)) a.length 0
theorem Vy {H:AH} {v w:AV} {l m:List Nat} {b k:Nat} (hs:SlS 30 1 H v (ints l)) (hw:SlS 30 1 H w (ints m)) (hm:m.length < 2 ^ 40) (hb:ak H b k 1=some [w]) (hN:l.length < 2 ^ 60):∀ (d j:Nat) (tm:List AV) (K:AH) (Z:Option (bk × St)),EvC aa C0 W0 plN LU (tm,K)=Z->l.length - j=d->j<=l.length->an H K->tm.length=19->tm.getD 0 uA=v->tm.getD 1 uA=.func (.func 74) [] [.ptr b k]->tm.getD 7 uA=I l.length->tm.getD 8 uA=I ((j:Nat):Int) ->
   ∃ X Y K1 K2,Z=br (ck (fun j=>!zA m ((l.getD j 0:Nat):Int)) (l.length) (j)) (some (.exit 0,(X,K1))) (some (.ret,(Y,K2)))/\(X.length=19/\an H K1/\X.getD 0 uA=v/\X.getD 1 uA=.func (.func 74) [] [.ptr b k]/\X.getD 7 uA=I l.length)/\Y.length=19/\∃ r:Int,0<=r/\Y.getD 4 uA=I r:=by
 intro d;induction d with
 | zero =>
   intro j tm K Z hZ hd hj hA hlen h0 h1 h7 h8;subst hZ;have hjl:j=l.length:=by omega
   subst hjl;have hlt:ltB (((l.length:Nat)):Int) (l.length:Nat)=false:=cw (by omega);rw [dk (aw _),Gy];simp -implicitDefEqProofs only [zc,f102,aP,hlen,h0,h1,h7,h8,hlt,↓zzA,zzB,sevalprocAttr];exact ⟨_,tm.set 4 (I 0),_,K,rfl,⟨by first | exact hlen | simp only [aq,hlen],hA,by first | exact h0 | simp only [hlen,h0,gB,sevalprocAttr],by first | exact h1 | simp only [hlen,h1,gB,sevalprocAttr],by first | exact h7 | simp only [hlen,h7,gB,sevalprocAttr]⟩,by simp only [ls,hlen],⟨0,Int.le_refl _,by simp only [hlen,dK,Nat.reduceLT]⟩⟩
 | succ d ih =>
   intro j tm K Z hZ hd hj hA hlen h0 h1 h7 h8;subst hZ;have hjN:j < l.length:=by omega
   have hlt:ltB (j:Int) (l.length:Nat)=true:=cu (by omega);have hwi:=b6 (j:=j) (by omega);obtain ⟨i,kx,hix,hrd⟩:=ints_at hs hA hjN;have h74:=fun L=>aek (hw.same (hA.bX L)) hm (fJ (hA.bX L) hb) ((l.getD j 0:Nat):Int);rw [cK hjN,Gy];rw [<-af K];cases hp:(!zA m ((l.getD j 0:Nat):Int)) with
   | true =>simp only [Bool.true_and];rw [Bool.not_eq_true'] at hp;simp -implicitDefEqProofs only [zc,f102,aP,hlen,h0,h1,h7,h8,hlt,hwi,hix,hrd,↓aS,func74,show f74.body.isSome=true from rfl,h74,hp,↓zzC,zzE,sevalprocAttr];exact ih (j+1) _ _ _ rfl (by omega) (by omega) (by first | exact hA | exact hA.bX _ | exact (hA.bX _).bX _) (by simp only [ls,hlen]) (by simp only [hlen,h0,gB,sevalprocAttr]) (by simp only [hlen,h1,gB,sevalprocAttr]) (by simp only [hlen,h7,gB,sevalprocAttr]) (by simp only [hlen,h8,gB,sevalprocAttr])
   | false =>simp only [Bool.false_and];rw [Bool.not_eq_false'] at hp;simp -implicitDefEqProofs only [zc,f102,aP,hlen,h0,h1,h7,h8,hlt,hwi,hix,hrd,↓aS,func74,show f74.body.isSome=true from rfl,h74,hp,↓zzC,zzE,sevalprocAttr];exact ⟨tm,_,K,_,rfl,⟨hlen,hA,h0,h1,h7⟩,by simp only [ls,hlen],⟨_,Int.natCast_nonneg j,by simp only [hlen,gB,sevalprocAttr]⟩⟩
theorem aaz {H:AH} {v w:AV} {l m:List Nat} {b k:Nat} (hs:SlS 30 1 H v (ints l)) (hw:SlS 30 1 H w (ints m)) (hl:l.length < 2 ^ 40) (hm:m.length < 2 ^ 40) (hb:ak H b k 1=some [w]):∃ r,Ev aa C0 W0 102 [v,.func (.func 74) [] [.ptr b k]] H=some (I r,H)/\leB 0 r=rV l m:=by
 obtain ⟨tm,ht,g0,g1,g2⟩:=tm2 v (.func (.func 74) [] [.ptr b k]) 19 (by decide);rw [ZA,ht];rw [<-af (ro H)];have hln:=iZ hs.ro;unfold rV;simp -implicitDefEqProofs only [aaW,f102,aP,g0,g1,g2,hln,↓zzC,zzE,sevalprocAttr];generalize hX:EvC aa C0 W0 _ (Code.loop _) _=Z;obtain ⟨X,Y,K1,K2,he,xs,y0,y1⟩:=Vy hs.ro hw.ro hm (s5 hb) (by omega) _ 0 _ _ _ hX rfl (Nat.zero_le _) (an.app _ _) (by simp only [ls,g0]) (by simp only [g0,g1,gB,sevalprocAttr]; try rfl) (by simp only [g0,g2,gB,sevalprocAttr]; try rfl) (by simp only [g0,gB,sevalprocAttr]; try rfl) (by simp only [g0,gB,sevalprocAttr]; try rfl);subst he;obtain ⟨r,hr0,hr⟩:=y1;cases hf:ck (fun j=>!zA m ((l.getD j 0:Nat):Int)) l.length 0 with
 | true =>refine ⟨-1,?_,rfl⟩;simp -implicitDefEqProofs only [xs.1,hf,↓zzA,zzB,sevalprocAttr]
 | false =>refine ⟨r,?_,by rw [(dC _ _).2 hr0]; rfl⟩;simp -implicitDefEqProofs only [y0,hr,hf,↓zzA,zzB,sevalprocAttr]
theorem ael {H:AH} {v w:AV} {l m:List Nat} {b k:Nat} (hs:SlS 30 1 H v (ints l)) (hw:SlS 30 1 H w (ints m)) (hl:l.length < 2 ^ 40) (hm:m.length < 2 ^ 40) (hb:ak H b k 1=some [w]):Ev aa C0 W0 73 [v,.func (.func 74) [] [.ptr b k]] H=some (.bool (rV l m),H):=by obtain ⟨tm,ht,g0,g1,g2⟩:=tm2 v (.func (.func 74) [] [.ptr b k]) 9 (by decide);rw [acL,ht];rw [<-af (ro H)];obtain ⟨r,hr,hbb⟩:=aaz (hs.ro.app []) (hw.ro.app []) hl hm (fJ (an.app (ro H) []) (s5 hb));simp -implicitDefEqProofs only [c73,f73,aP,g0,g1,g2,↓Z6,hr,hbb,↓zzC,zzE,sevalprocAttr]
theorem aab {H:AH} {v w:AV} {l m:List Nat} (hs:SlS 30 1 H v (ints l)) (hw:SlS 30 1 H w (ints m)) (hl:l.length < 2 ^ 40) (hm:m.length < 2 ^ 40) (L:AH):Ev aa C0 W0 72 [v,w] (H++L)=some (.bool (rV l m),H++(L++[.cells [w] 30])):=by obtain ⟨tm,ht,g0,g1,g2⟩:=tm2 v w 8 (by decide);rw [acM,ht];have hwc:=hw.cells;have hwo:=hw.one;have h73:=ael (b:=H.length+L.length) (k:=0) (hs.app (L++[.cells [w] 30])) (hw.app (L++[.cells [w] 30])) hl hm (by rw [jE];unfold ak;rw [al (aw _),d9]; rfl);simp -implicitDefEqProofs only [c72,f72,aP,g0,g1,g2,↓hwc,↓hwo,↓adK,h73,↓zzC,zzE,sevalprocAttr]
end Go.Dv
