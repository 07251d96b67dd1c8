/- Part 31 of the walks (own work). -/
import Derived.Test.YtilpjnckfkjkbaaGreatDoorS30
open Bool renaming and_eq_false_iff→CL
open Int renaming toNat_natCast→cw
open List renaming any_cons→eE,any_nil→fi,any_toArray→dz,any_toArray'→d6,append_nil→af,drop_eq_getElem_cons→nw,ext_getElem?→nx,filter→Ed,filter_append→tE,getElem?_append_left→aq,getElem?_append_right→aw,getElem?_eq_getElem→aj,getElem?_eq_none→aT,getElem?_map→aI,getElem?_range→l3,getElem?_set→de,length_append→ai,length_filter_le→kS,length_map→au,length_range→Hm,length_singleton→eo,map_congr_left→Ec,mem_range→fT,mem_singleton→bg,range→bn,range_succ→kh,replicate_succ→dH,replicate_zero→du,size_toArray→d5,take_succ_cons→mo,take_zero→nu
open Nat renaming add_assoc→bV,ble→sd,eq_or_lt_of_le→nt,le_trans→bc,lt_or_ge→aY,mul_one→dS,reduceAdd→aW,reduceEqDiff→aK,reduceLT→aM,reduceLeDiff→aF,sub_self→dI,zero_add→cu
open Option renaming bind_some→ay,getD_some→e7,map_eq_some_iff→ah,map_some→cE
open Go.Proofs.Tryz renaming prog→aa
set_option maxRecDepth 100000
set_option maxHeartbeats 4000000
set_option linter.unusedSimpArgs false
set_option linter.unusedVariables false
namespace Go.Dv
open Go.Proofs
attribute [local congr] aH bP bj bO bQ
theorem Tb (s:Option Nat) (cs:List AV) (hc:cs.length=9) (H:AH):bf aa s 31 1 [(0,.agg cs)] H=(put s H (.cells cs 34)).map fun p=>(.slice p.1 0 9 1 1 true,p.2):=by
 rcases cs with _ | ⟨a,_ | ⟨b,_ | ⟨c,_ | ⟨d,_ | ⟨e,_ | ⟨f,_ | ⟨g,_ | ⟨h,_ | ⟨i,_ | ⟨j,l⟩⟩⟩⟩⟩⟩⟩⟩⟩⟩ <;> simp at hc
 kernel_rfl
theorem Xl (s:Option Nat) (a b c d e f g h i:AV) (H:AH):bf aa s 31 1 [(0,.agg [a,b,c,d,e,f,g,h,i])] H=(put s H (.cells [a,b,c,d,e,f,g,h,i] 34)).map fun p=>(.slice p.1 0 9 1 1 true,p.2):=Tb s _ rfl H
theorem Xg (s:Option Nat) (H:AH):bf aa s 91 1 [(0,.nilSlice)] H=(put s H (.cells [.nilSlice] 30)).map fun p=>(.slice p.1 0 1 1 1 true,p.2):=by kernel_rfl
theorem aaH:pW aa 91 (some 91) 30 1:=⟨by kernel_rfl,⟨.nilSlice,by kernel_rfl,by kernel_rfl,by simp [AV.cells]⟩,by kernel_rfl,by kernel_rfl⟩
theorem b30:sd (aa.bytesOf 30) 1000=true:=by kernel_rfl
theorem b3':sd (aa.bytesOf 3) 1000=true:=by kernel_rfl
theorem XU (H:AH) (i k:Nat) (x:AV):stA aa 91 H i k x=if x.cells.length=1 then bp H i k x.cells else none:=by kernel_rfl
theorem uo {B i k:Nat} {v d:AV} {tm:List AV} (hi:i < B) (hk:B<=k):(tm.set k v).getD i d=tm.getD i d:=by
 rw [gde,gde,List.getElem?_set_ne (by omega)]
theorem sK {K1:AH} {B:Nat} (h:K1.length=B) (L:AH) (n:Nat) (o:bo):put (some (B+n)) (K1++L) o=(put (some n) L o).map fun r=>(B+r.1,K1++r.2):=by rw [<-h]; exact cd K1 L n o
theorem Ij {S K:AH} {p mb:Nat} {iv av:AV} {ws:List AV} {mv:Nat->AV} {l:List (Itm × AV)} {A:List (List Nat)} {R:Nat->List Nat} (h:ey S K p mb iv av ws mv l A R) {tm:List AV} {Z:Option (bu × St)} (hR:EvC aa C0 W0 iE (aQ [true,true,true,false,true,false,false,true,true,false,false,true,true,false,false,true,true,false,false,true,true,false] c42) (tm,K)=Z) (hlen:tm.length=111) (h3:tm.getD 3 uA=.ptr p 0) {c:Nat} {x:Itm} {va:AV} (h8:tm.getD 8 uA=.ptr c 0) (hc:S[c]? =some (.cells (aU x va) 34)) (hac:va.cells=[va]) (hao:va.one=true) (hl:l.length<=1000) (hA:A.length<=1000) :
   ∃ tm' K' iv' av',Z=some (.normal,(tm',K'))/\tm'.length=111/\(∀ i,i < 30->tm'.getD i uA=tm.getD i uA)/\ey S K' p mb iv' av' (ws++[.nilSlice]) mv (l++[(x,va)]) (A++[[]]) R:=by
 subst hR
 have hrow:∀ L,ak (K++L) c 0 9=some (aU x va):=fun L=>(h.sub.bS L).rd (by unfold ak; rw [hc]; rfl)
 have hr0:∀ L,ak (K++L) p 0 1=some [iv]:=fun L=>h.rp L 0 rfl
 have hr1:∀ L,ak (K++L) p 1 1=some [av]:=fun L=>h.rp L 1 rfl
 have hpk:(bC iv K)[p]? =some (.cells [iv,av] 93):=by rw [cI (v:=iv) (h.np 0 0)]; exact h.hp
 have hpk2:(bC av (bC iv K))[p]? =some (.cells [iv,av] 93):=by rw [cI (v:=av) (h.np 1 0)]; exact hpk
 have hr1k:∀ L,ak (bC iv K++L) p 1 1=some [av]:=fun L=>by rw [eQ hpk L]; rfl
 have pk1:=fun L n o=>sK (cS iv K) L n o
 have hoil:=h.oi.lenOf
 have hoal:=h.oa.lenOf
 rw [dP (eU l),au] at hoil
 have hlv:bz iv=l.length:=by omega
 have hla:bz av=A.length:=by rw [<-h.lw]; omega
 have hone:(aU x va).all AV.one=true:=by
   show (AV.one _ && (AV.one _ && (AV.one _ && (AV.one _ && (AV.one _ && (AV.one _ && (AV.one _ && (AV.one _ && (AV.one _ && true)))))))))=true
   rw [hao]; rfl
 have a1:=fun L=>nS Mg (by decide) (K:=K) rfl h.oi (new:=aU x va) rfl hone (il b34 (by omega)) 4 3 L
 have oa1:Ex (bC iv K) 1 30 av ws:=h.oa.ll fun b hb=>cI (v:=iv) fun e=>h.ow.dis 0 0 1 0 (by simp) b e hb
 have a2:=fun L=>nS aaH (by decide) (cS iv K) oa1 (new:=[.nilSlice]) rfl rfl (il b30 (by omega)) 8 7 L
 have w1:∀ i k e n c x L,bp (bC av (bC iv K)++L) p 0 [.slice i k e n c x]=some ((bC av (bC iv K)).set p (.cells [.slice i k e n c x,av] 93)++L):=fun i k e n c x L=>by
   rw [gN hpk2 (by simp) rfl L]; rfl
 have w2:∀ v i k e n c x L,bp ((bC av (bC iv K)).set p (.cells [v,av] 93)++L) p 1 [.slice i k e n c x]=some ((bC av (bC iv K)).set p (.cells [v,.slice i k e n c x] 93)++L):=fun v i k e n c x L=>by
   rw [gN (List.getElem?_set_self (aJ hpk2)) (by simp) rfl L,List.set_set]; rfl
 simp only [aU] at hrow a1
 simp -implicitDefEqProofs only [c42,Tryz.f42,aP,hlen,h3,h8,hrow,hr0,hr1,hr1k,pk1,a1,a2,w1,w2,Xl,Xg,XY,XU,pI,ur,Dy,↓hac,↓hao,↓dn IC,Dj,d6,dz,eE,fi,cJ,d5,dH,du,r5,↓az,nck,↓cbT,↓cbF,↓ao,an,eu,sevalprocAttr,↓fK,↓fI,↓jG,↓gP,↓fJ,↓gQ,↓ez,↓fL,↓cF,↓bX,↓dj,↓gR,↓eA,↓fM,↓cH,↓cG,↓dk,↓e9,↓dK,eB,cd,ai,bV,di,dJ,eC]
 refine ⟨_,_,.slice (K.length+4) 0 9 (bz iv+1) (bz iv+1) false,.slice (K.length+8) 0 1 (bz av+1) (bz av+1) false,rfl,by simp only [ls,hlen],fun i hi=>by simp only [uo hi,aF],?_⟩
 exact h.item rfl rfl
theorem Ii {S K:AH} {p mb:Nat} {iv av:AV} {ws:List AV} {mv:Nat->AV} {l:List (Itm × AV)} {A:List (List Nat)} {R:Nat->List Nat} (h:ey S K p mb iv av ws mv l A R) {tm:List AV} {Z:Option (bu × St)} (hR:EvC aa C0 W0 iE (aQ [true,true,true,false,true,false,false,true,true,false,false,true,true,false,false,true,true,false,false,true,true,true,false,true,false] c42) (tm,K)=Z) (hlen:tm.length=111) (h3:tm.getD 3 uA=.ptr p 0) {n:Nat} (h9:tm.getD 9 uA=I ((n+1:Nat):Int)) (hN:A.length<=1000) (hn:n < A.length) (hl:(A.getD n []).length<=1000) :
   ∃ tm' K' ws',Z=some (.normal,(tm',K'))/\tm'.length=111/\(∀ i,i < 30->tm'.getD i uA=tm.getD i uA)/\ey S K' p mb iv av ws' mv l (A.set n (A.getD n []++[(n+1)])) R:=by
 subst hR
 obtain ⟨w,hw⟩:∃ w,w=ws.getD n .nilSlice:=⟨_,rfl⟩
 obtain ⟨ab,hav,hwr,hP⟩:=h.row (k:=(n+1:Nat)) (s:=12) hn (L:=[.fresh,.fresh,.fresh,.fresh,.fresh,.fresh,.fresh,.fresh,.fresh,.fresh,.fresh,.cells [I ((n+1:Nat):Int)] 3,.cells (iv1 (A.getD n [])++[I ((n+1:Nat):Int)]) 3,.fresh,.fresh]) rfl hw rfl
 subst hav
 have hr1:∀ L,ak (K++L) p 1 1=some [.slice ab 0 1 ws.length ws.length false]:=fun L=>h.rp L 1 rfl
 have hwp:bZ w≠some p:=by rw [hw]; exact h.np 2 n
 have hpk:(bC w K)[p]? =some (.cells [iv,.slice ab 0 1 ws.length ws.length false] 93):=by rw [cI hwp]; exact h.hp
 have hr1k:∀ L,ak (bC w K++L) p 1 1=some [.slice ab 0 1 ws.length ws.length false]:=fun L=>by rw [eQ hpk L]; rfl
 have pk1:=fun L n o=>sK (cS w K) L n o
 have how:=h.ow2 n
 rw [<-hw] at how
 have hwl:=how.lenOf
 rw [iX] at hwl
 have a1:=fun L=>nS Mh (by decide) (K:=K) rfl how (new:=[I ((n+1:Nat):Int)]) rfl rfl (il b3' (by omega)) 12 11 L
 have hnw:n < ws.length:=by rw [h.lw]; exact hn
 have hab:K[ab]? =some (.cells ws 30):=by
   rcases h.oa with ⟨e,_⟩ | ⟨i,m,e,hi,_⟩
   · cases e
   · cases e; exact hi
 have hra:∀ L,ak (K++L) ab n 1=some [w]:=fun L=>by
   rw [eQ hab L,if_pos (by omega),nw hnw,mo,nu,hw,dr hnw]
 have hia:∀ kk,aG aa 91 (.slice ab 0 1 ws.length ws.length false) (.int kk (n:Int))=some (.ptr ab n):=fun kk=>by
   rw [Sq,if_pos ⟨by omega,by omega,rfl⟩,cw,dS,cu]
 have hdec:IntKind.i64.wrap (((n+1:Nat):Int) - 1)=(n:Int):=by rw [show (((n+1:Nat):Int) - 1)=(n:Int) by omega]; exact IntWalk.i64_in _ (by omega)
 simp -implicitDefEqProofs only [c42,Tryz.f42,aP,hlen,h3,h9,hdec,hr1,hr1k,pk1,a1,hwr,hra,hia,zw,Ui,pI,ur,Dy,↓dn IB,Di,d6,dz,eE,fi,cJ,d5,dH,du,r5,↓az,nck,↓cbT,↓cbF,↓ao,an,eu,sevalprocAttr,↓fK,↓fI,↓jG,↓gP,↓fJ,↓gQ,↓ez,↓fL,↓cF,↓bX,↓dj,↓gR,↓eA,↓fM,↓cH,↓cG,↓dk,↓e9,↓dK,eB,cd,ai,bV,di,dJ,eC]
 exact ⟨_,_,_,rfl,by simp only [ls,hlen],fun i hi=>by simp only [uo hi,aF],hP⟩
theorem Ih {S K:AH} {p mb:Nat} {iv av:AV} {ws:List AV} {mv:Nat->AV} {l:List (Itm × AV)} {A:List (List Nat)} {R:Nat->List Nat} (h:ey S K p mb iv av ws mv l A R) {tm:List AV} {Z:Option (bu × St)} (hR:EvC aa C0 W0 iE (aQ [true,true,true,true,false,true,false,false,true,true,false,false,true,true,false,true] c42) (tm,K)=Z) (hlen:tm.length=111) (h3:tm.getD 3 uA=.ptr p 0) {n j:Nat} (h10:tm.getD 10 uA=I (j:Int)) (h12:tm.getD 12 uA=I (n:Int)) (hn:n < A.length) (hl:(A.getD n []).length<=1000) :
   ∃ tm' K' ws',Z=some (.normal,(tm',K'))/\tm'.length=111/\(∀ i,i < 97->tm'.getD i uA=tm.getD i uA)/\ey S K' p mb iv av ws' mv l (A.set n (A.getD n []++[j])) R:=by
 subst hR
 obtain ⟨w,hw⟩:∃ w,w=ws.getD n .nilSlice:=⟨_,rfl⟩
 obtain ⟨ab,hav,hwr,hP⟩:=h.row (k:=(j:Nat)) (s:=10) hn (L:=[.fresh,.fresh,.fresh,.fresh,.fresh,.fresh,.fresh,.fresh,.fresh,.cells [I ((j:Nat):Int)] 3,.cells (iv1 (A.getD n [])++[I ((j:Nat):Int)]) 3,.fresh,.fresh]) rfl hw rfl
 subst hav
 have hr1:∀ L,ak (K++L) p 1 1=some [.slice ab 0 1 ws.length ws.length false]:=fun L=>h.rp L 1 rfl
 have hwp:bZ w≠some p:=by rw [hw]; exact h.np 2 n
 have hpk:(bC w K)[p]? =some (.cells [iv,.slice ab 0 1 ws.length ws.length false] 93):=by rw [cI hwp]; exact h.hp
 have hr1k:∀ L,ak (bC w K++L) p 1 1=some [.slice ab 0 1 ws.length ws.length false]:=fun L=>by rw [eQ hpk L]; rfl
 have pk1:=fun L n o=>sK (cS w K) L n o
 have how:=h.ow2 n
 rw [<-hw] at how
 have hwl:=how.lenOf
 rw [iX] at hwl
 have a1:=fun L=>nS Mh (by decide) (K:=K) rfl how (new:=[I ((j:Nat):Int)]) rfl rfl (il b3' (by omega)) 10 9 L
 have hnw:n < ws.length:=by rw [h.lw]; exact hn
 have hab:K[ab]? =some (.cells ws 30):=by
   rcases h.oa with ⟨e,_⟩ | ⟨i,m,e,hi,_⟩
   · cases e
   · cases e; exact hi
 have hra:∀ L,ak (K++L) ab n 1=some [w]:=fun L=>by
   rw [eQ hab L,if_pos (by omega),nw hnw,mo,nu,hw,dr hnw]
 have hia:∀ kk,aG aa 91 (.slice ab 0 1 ws.length ws.length false) (.int kk (n:Int))=some (.ptr ab n):=fun kk=>by
   rw [Sq,if_pos ⟨by omega,by omega,rfl⟩,cw,dS,cu]
 simp -implicitDefEqProofs only [c42,Tryz.f42,aP,hlen,h3,h10,h12,hr1,hr1k,pk1,a1,hwr,hra,hia,zw,Ui,pI,ur,Dy,↓dn Iz,Dg,d6,dz,eE,fi,cJ,d5,dH,du,r5,↓az,nck,↓cbT,↓cbF,↓ao,an,eu,sevalprocAttr,↓fK,↓fI,↓jG,↓gP,↓fJ,↓gQ,↓ez,↓fL,↓cF,↓bX,↓dj,↓gR,↓eA,↓fM,↓cH,↓cG,↓dk,↓e9,↓dK,eB,cd,ai,bV,di,dJ,eC]
 exact ⟨_,_,_,rfl,by simp only [ls,hlen],fun i hi=>by simp only [uo hi,aF],hP⟩
theorem A9 {S K:AH} {p mb:Nat} {iv av:AV} {ws:List AV} {mv:Nat->AV} {l:List (Itm × AV)} {A:List (List Nat)} {R:Nat->List Nat} (h:ey S K p mb iv av ws mv l A R) {tm:List AV} {Z:Option (bu × St)} (hR:EvC aa C0 W0 iE (aQ [true,true,true,false,true,false,false,true,true,false,false,true,true,false,false,true,true,false,false,true,true,true,true,true,false] c42) (tm,K)=Z) (hlen:tm.length=111) (h4:tm.getD 4 uA=.map mb) {c:Nat} {x:Itm} {va:AV} (h8:tm.getD 8 uA=.ptr c 0) (hc:S[c]? =some (.cells (aU x va) 34)) {e j:Nat} (he:x.ev=(e:Int)) (h9:tm.getD 9 uA=I (j:Int)) (hl:(R e).length<=1000) :
   ∃ tm' K' mv',Z=some (.normal,(tm',K'))/\tm'.length=111/\(∀ i,i < 30->tm'.getD i uA=tm.getD i uA)/\ey S K' p mb iv av ws mv' l A (fun x=>if x=e then R e++[j] else R x):=by
 subst hR
 have hc6:∀ G,Sub S G->∀ L,ak (G++L) c 6 1=some [I (e:Int)]:=fun G hG L=>by
   refine (hG.bS L).rd ?_
   unfold ak; rw [hc]
   show some [I x.ev]=_
   rw [he]
 obtain ⟨o,hmp,hP⟩:=h.yq (n:=e) (k:=j) (s:=9) (L:=[.fresh,.fresh,.fresh,.fresh,.fresh,.fresh,.fresh,.fresh,.cells [I (j:Int)] 3,.cells (iv1 (R e)++[I (j:Int)]) 3,.fresh]) rfl rfl
 have s1:=pa h.sub h.ow 3 e []
 rw [af] at s1
 have hr6:=hc6 K h.sub
 have hr6k:=hc6 (bC (mv e) K) s1
 have pk1:=fun L n o=>sK (cS (mv e) K) L n o
 have hlk:=fun L=>h.hm.get e L
 have how:=h.om e
 have hwl:=how.lenOf
 rw [iX] at hwl
 have a1:=fun L=>nS Mh (by decide) (K:=K) rfl how (new:=[I (j:Int)]) rfl rfl (il b3' (by omega)) 9 8 L
 generalize hv:AV.slice (K.length+9) 0 1 (bz (mv e)+1) (bz (mv e)+1) false=v' at *
 simp -implicitDefEqProofs only [c42,Tryz.f42,aP,hlen,h4,h8,h9,hr6,hr6k,pk1,a1,hmp,hlk,zw,↓dn IA,Dh,d6,dz,eE,fi,cJ,d5,dH,du,r5,↓az,nck,↓cbT,↓cbF,↓ao,an,eu,sevalprocAttr,↓fK,↓fI,↓jG,↓gP,↓fJ,↓gQ,↓ez,↓fL,↓cF,↓bX,↓dj,↓gR,↓eA,↓fM,↓cH,↓cG,↓dk,↓e9,↓dK,eB,cd,ai,bV,di,dJ,eC]
 exact ⟨_,_,_,rfl,by simp only [ls,hlen],fun i hi=>by simp only [uo hi,aF],hP⟩
end Go.Dv
namespace Go.Dv
open Go.Proofs
attribute [local congr] aH bP bj bO bQ
open Qu
def A1 (S:aL) (c:Nat):List (List Nat):=(bn c).map fun n=>if n+1 < c then nxt S n else []
def R1 (S:aL) (c:Nat) (e:Nat):List Nat:=(bn c).filter fun n=>((S.flatten[n]?).map fun x=>lq x (e:Int)).getD false
def A2 (S:aL) (j:Nat):List (List Nat):=(bn S.flatten.length).map (lF S j)
theorem kE (S:aL) (c:Nat):(A1 S c).length=c:=by unfold A1; simp
theorem Tl (S:aL) (j:Nat):(A2 S j).length=S.flatten.length:=by unfold A2; simp
theorem pX (S:aL) {c n:Nat} (h:n < c):(A1 S c)[n]? =some (if n+1 < c then nxt S n else []):=by
 unfold A1; rw [aI,l3 h]; rfl
theorem GB {S:aL} {s k:Nat} {x:Qu.Item} (h:cr S s (k+1)=some x):∃ y,cr S s k=some y:=by
 unfold cr at h ⊢
 cases hs:S[s]? with
 | none=>rw [hs] at h; cases h
 | some l =>
   rw [hs] at h
   simp only [ay] at h ⊢
   exact ⟨_,aj (by have:=aJ h; omega)⟩
theorem RS {S:aL} {s k:Nat} {x:Qu.Item} (h:cr S s k=some x):nxt S (off S s+k)=if k+1 < (S.getD s []).length then [off S s+k+1] else []:=by
 unfold nxt; rw [rM h]
theorem Ja {S:aL} {n m:Nat} (h:m∈nxt S n):m=n+1/\m < S.flatten.length/\∃ s k x,cr S s (k+1)=some x/\off S s+k=n:=by
 unfold nxt at h
 cases hp:(places S)[n]? with
 | none=>rw [hp] at h; simp at h
 | some p =>
   rw [hp] at h
   simp only at h
   have hn:n < S.flatten.length:=by rw [<-De]; exact aJ hp
   obtain ⟨q,y,h1,h2,h3,h4⟩:=jL hn
   rw [hp] at h1
   cases h1
   split at h
   · rename_i hc
     rw [bg] at h
     have hs:p.1 < S.length:=(ik h2).1
     obtain ⟨z,hz⟩:∃ z,cr S p.1 (p.2+1)=some z:=by
       unfold cr
       rw [gde,aj hs] at hc
       rw [aj hs,ay]
       exact ⟨_,aj hc⟩
     have:=oG S p.1 (p.2+1) z hz
     refine ⟨h,?_,p.1,p.2,z,hz,h4.symm⟩
     have:=aJ this
     omega
   · simp at h
theorem I9 {S:aL} {s:Nat} {x:Qu.Item} (h:cr S s 0=some x) {n:Nat} (hn:n+1=off S s):nxt S n=[]:=by
 cases hx:nxt S n with
 | nil=>rfl
 | cons m l =>
   obtain ⟨h1,_,s',k,z,hz,hoff⟩:=Ja (S:=S) (n:=n) (m:=m) (by rw [hx]; simp)
   have:=(Eu hz h (by omega)).2
   omega
theorem MG {S:aL} {s:Nat} {x:Qu.Item} (h:cr S s 0=some x):A1 S (off S s+1)=A1 S (off S s)++[[]]:=by
 refine nx fun n=>?_
 rcases aY n (off S s) with c | c
 · rw [aq (by rw [kE]; exact c),pX S (by omega),pX S c,if_pos (by omega)]
   rcases aY (n+1) (off S s) with d | d
   · rw [if_pos d]
   · rw [if_neg (by omega),I9 h (by omega)]
 · rw [aw (by rw [kE]; exact c),kE]
   rcases nt c with d | d
   · subst d
     rw [pX S (by omega),if_neg (by omega),dI]; rfl
   · rw [aT (by rw [kE]; omega),aT (by simp; omega)]
theorem FT (S:aL) (c:Nat):(A1 S (c+1)++[[]]).getD c []=[]:=by
 rw [gde,aq (by rw [kE]; omega),pX S (by omega),if_neg (by omega)]; rfl
theorem MF {S:aL} {s k:Nat} {x:Qu.Item} (h:cr S s (k+1)=some x):A1 S (off S s+(k+1)+1)=(A1 S (off S s+(k+1))++[[]]).set (off S s+k) ((A1 S (off S s+(k+1))++[[]]).getD (off S s+k) []++[off S s+k+1]):=by
 obtain ⟨y,hy⟩:=GB h
 have hkl:=(ik h).2
 rw [show off S s+(k+1)=(off S s+k)+1 by omega,FT,List.nil_append]
 have hnx:=RS hy
 rw [if_pos hkl] at hnx
 generalize off S s+k=c at *
 refine nx fun n=>?_
 rw [de]
 by_cases e:c=n
 · subst e
   rw [if_pos rfl,pX S (by omega),if_pos (by omega),if_pos (by rw [ai,kE]; omega),hnx]
 · rw [if_neg e]
   rcases aY n (c+1) with d | d
   · rw [aq (by rw [kE]; exact d),pX S (by omega),pX S d,if_pos (by omega),if_pos (by omega)]
   · rw [aw (by rw [kE]; exact d),kE]
     rcases nt d with d | d
     · subst d
       rw [pX S (by omega),if_neg (by omega),dI]; rfl
     · rw [aT (by rw [kE]; omega),aT (by simp; omega)]
theorem FM {S:aL} {s k:Nat} {x:Qu.Item} (h:cr S s k=some x) (e:Nat):R1 S (off S s+k+1) e=if x.kind=3/\x.event=(e:Int) then R1 S (off S s+k) e++[off S s+k] else R1 S (off S s+k) e:=by
 unfold R1
 rw [kh,tE]
 simp only [Ed,oG S s k x h,cE,e7,lq]
 by_cases c:x.kind=3/\x.event=(e:Int)
 · rw [if_pos c,c.1,c.2]; simp
 · rw [if_neg c]
   have:(x.kind == 3 && x.event == (e:Int))=false:=by
     rw [CL]
     rcases Decidable.em (x.kind=3) with h1 | h1
     · right; rw [beq_eq_false_iff_ne]; exact fun h2=>c ⟨h1,h2⟩
     · left; rw [beq_eq_false_iff_ne]; exact h1
   rw [this]; simp
theorem FN (S:aL) (e:Nat):R1 S S.flatten.length e=nD S (e:Int):=rfl
theorem Qw (S:aL) (c e:Nat):(R1 S c e).length<=c:=by
 unfold R1
 have:=kS (fun n=>((S.flatten[n]?).map fun x=>lq x (e:Int)).getD false) (bn c)
 rwa [Hm] at this
theorem To (S:aL):A1 S S.flatten.length=A2 S 0:=by
 unfold A1 A2
 refine Ec fun n hn=>?_
 rw [fT] at hn
 unfold lF
 rw [List.range_zero,List.filter_nil,af]
 split
 · rfl
 · rename_i hc
   cases hx:nxt S n with
   | nil=>rfl
   | cons m l =>
     obtain ⟨h1,h2,_⟩:=Ja (S:=S) (n:=n) (m:=m) (by rw [hx]; simp)
     omega
theorem Tn (S:aL):A2 S S.flatten.length=aft S:=rfl
theorem FQ (S:aL) (j:Nat) {n:Nat} (hn:n < S.flatten.length):(A2 S j).getD n []=lF S j n:=by
 unfold A2
 rw [gde,aI,l3 hn]; rfl
theorem ye (S:aL) (j n:Nat):lF S (j+1) n=lF S j n++if waits S n j then [j] else []:=by
 unfold lF
 rw [kh,tE,List.append_assoc]
 congr 2
 cases h:waits S n j <;> simp [Ed,h]
theorem Tm {S:aL} {j n:Nat} {y:Qu.Item} (hy:S.flatten[j]? =some y) (h4:y.kind=4) (hr:nD S y.event=[n]):n < S.flatten.length/\A2 S (j+1)=(A2 S j).set n ((A2 S j).getD n []++[j]):=by
 have hn:n < S.flatten.length:=by
   have:n∈nD S y.event:=by rw [hr]; simp
   unfold nD at this
   exact fT.1 (List.mem_filter.1 this).1
 refine ⟨hn,?_⟩
 rw [FQ S j hn]
 unfold A2
 refine nx fun m=>?_
 rw [aI,de]
 have hw:∀ m,waits S m j=decide (m=n):=fun m=>by
   unfold waits
   rw [hy]
   simp only [h4,hr]
   by_cases e:m=n
   · subst e; simp
   · simp [e,Ne.symm e]
 by_cases e:n=m
 · subst e
   rw [if_pos rfl,if_pos (by simp; simpa using hn),l3 hn,cE,ye,hw n]; simp
 · rw [if_neg e,aI]
   rcases aY m S.flatten.length with c | c
   · rw [l3 c,cE,cE,ye,hw m]
     simp [Ne.symm e]
   · rw [aT (by simpa using c)]; rfl
theorem FP {S:aL} {j:Nat} {y:Qu.Item} (hy:S.flatten[j]? =some y) (h:¬(y.kind=4/\(nD S y.event).length=1)):A2 S (j+1)=A2 S j:=by
 unfold A2
 refine Ec fun m _=>?_
 rw [ye]
 have:waits S m j=false:=by
   unfold waits
   rw [hy]
   simp only
   rw [CL]
   rcases Decidable.em (y.kind=4) with h1 | h1
   · right
     rw [beq_eq_false_iff_ne]
     exact fun h2=>h ⟨h1,by rw [h2]; rfl⟩
   · left; rw [beq_eq_false_iff_ne]; exact h1
 rw [this]; simp
theorem yg (S:aL) (j n:Nat):(lF S j n).length<=j+1:=by
 unfold lF
 rw [ai]
 have h1:(nxt S n).length<=1:=by
   unfold nxt
   cases (places S)[n]? with
   | none=>simp
   | some p=>simp only; split <;> simp
 have h2:=kS (waits S n) (bn j)
 rw [Hm] at h2
 omega
theorem dA.atS {S0 K:AH} {xs:List Itm} {v:AV} (h:dA S0 xs v) (hs:Sub S0 K) {j:Nat} (hj:j < xs.length):∃ i k w,(∀ kk,aG aa 31 v (.int kk (j:Int))=some (.ptr i k))/\(∀ L,ak (K++L) i k 9=some (aU (bB xs j) w))/\SlS 32 1 S0 w ((bB xs j).args.map dh):=by
 obtain ⟨i,k,w,h1,h2,h3⟩:=h.at (al.refl S0) hj
 have:=h2 []
 rw [af] at this
 exact ⟨i,k,w,h1,fun L=>(hs.bS L).rd this,h3⟩
theorem da.atS {S0 K:AH} {ss:List (List Itm)} {v:AV} (h:da S0 ss v) (hs:Sub S0 K) {j:Nat} (hj:j < ss.length):∃ i k w,(∀ kk,aG aa 25 v (.int kk (j:Int))=some (.ptr i k))/\(∀ L,ak (K++L) i k 1=some [w])/\dA S0 (aR ss j) w:=by
 obtain ⟨i,k,w,h1,h2,h3⟩:=h.at (al.refl S0) hj
 have:=h2 []
 rw [af] at this
 exact ⟨i,k,w,h1,fun L=>(hs.bS L).rd this,h3⟩
theorem jv (ss:List (List Itm)):(qS ss).flatten=ss.flatten.map qi:=by unfold qS; rw [List.map_flatten]
theorem F2 {ss:List (List Itm)} {s k:Nat} (hk:k < (aR ss s).length):ss.flatten.take (off (qS ss) s+k+1)=ss.flatten.take (off (qS ss) s+k)++[bB (aR ss s) k]:=by
 have h:=oG (qS ss) s k _ (qu hk)
 rw [jv,aI] at h
 obtain ⟨y,hy,hq⟩:=ah.1 h
 have:y=bB (aR ss s) k:=by
   generalize bB (aR ss s) k=z at hq
   obtain ⟨⟩:=y
   obtain ⟨⟩:=z
   simp only [qi,Qu.Item.mk.injEq] at hq
   obtain ⟨rfl,rfl,rfl,rfl,rfl,rfl,rfl,rfl,rfl⟩:=hq
   rfl
 subst this
 rw [List.take_add_one,hy]; rfl
end Go.Dv
namespace Go.Dv
open Go.Proofs
attribute [local congr] aH bP bj bO bQ
open Qu (off cr lq nD nxt aft lF)
theorem N6 {S0 G0:AH} (hG:Sub G0 S0) {ss:List (List Itm)} {vs:AV} {p mb q:Nat} {w:AV} {i:Nat} (hx:dA G0 (aR ss i) w) (hfew:ss.flatten.length<=1000) (hev:∀ x∈aR ss i,x.kind=3->0<=x.ev) {j:Nat} (hj:j < (aR ss i).length) {tm:List AV} {K:AH} (hI:tm.length=111/\tm.getD 2 uA=.ptr q 0/\tm.getD 3 uA=.ptr p 0/\tm.getD 4 uA=.map mb/\tm.getD 14 uA=vs/\tm.getD 15 uA=I ss.length/\tm.getD 16 uA=I ((i:Nat):Int)/\tm.getD 20 uA=w/\tm.getD 21 uA=I (aR ss i).length/\tm.getD 22 uA=I ((j:Nat):Int)/\(∃ iv av ws mv l,ey S0 K p mb iv av ws mv l (A1 (qS ss) (off (qS ss) i+j)) (R1 (qS ss) (off (qS ss) i+j))/\l.map (·.1)=ss.flatten.take (off (qS ss) i+j)/\∀ q∈l,SlS 32 1 G0 q.2 (q.1.args.map dh))) :
   ∃ tm' K',EvC aa C0 W0 iE Bt (tm,K)=EvC aa C0 W0 iE Bt (tm',K')/\tm'.length=111/\tm'.getD 2 uA=.ptr q 0/\tm'.getD 3 uA=.ptr p 0/\tm'.getD 4 uA=.map mb/\tm'.getD 14 uA=vs/\tm'.getD 15 uA=I ss.length/\tm'.getD 16 uA=I ((i:Nat):Int)/\tm'.getD 20 uA=w/\tm'.getD 21 uA=I (aR ss i).length/\tm'.getD 22 uA=I (((j+1):Nat):Int)/\(∃ iv av ws mv l,ey S0 K' p mb iv av ws mv l (A1 (qS ss) (off (qS ss) i+(j+1))) (R1 (qS ss) (off (qS ss) i+(j+1)))/\l.map (·.1)=ss.flatten.take (off (qS ss) i+(j+1))/\∀ q∈l,SlS 32 1 G0 q.2 (q.1.args.map dh)):=by
 obtain ⟨hlen,h2,h3,h4,h14,h15,h16,h20,h21,h22,iv,av,ws,mv,l,hP,hl,ha⟩:=hI
 have hlt:ltB (j:Int) ((aR ss i).length:Nat)=true:=cQ (by omega)
 have hxn:=hx.n
 have hw:=cD (j:=j) (by omega)
 obtain ⟨i0,k0,va,hix,hrd,hsa⟩:=hx.atS (hG.trans hP.sub) hj
 have hit:=qu hj
 have htk:=F2 hj
 have hfl:=Qu.oG (qS ss) i j _ hit
 have hcf:off (qS ss) i+j < ss.flatten.length:=by
   have:=aJ hfl
   rwa [jv,au] at this
 have hev':=hev _ (fu hj)
 have hac:=hsa.cells
 have hao:=hsa.one
 have hll:l.length=off (qS ss) i+j:=by
   have:=congrArg List.length hl
   rw [au,List.length_take] at this; omega
 have hr0:∀ L,ak (K++L) p 0 1=some [iv]:=fun L=>hP.rp L 0 rfl
 have hli:∀ G,dR aa 31 G iv=some (I ((off (qS ss) i+j:Nat):Int)):=fun G=>by
   have:=(hP.oi.own.nz mL (by decide) (eU l)).len G
   rwa [au,hll] at this
 generalize bB (aR ss i) j=x at *
 simp only [aU] at hrd
 rw [Ln]
 rw [<-af K]
 simp -implicitDefEqProofs only [pT,Tryz.f42,aP,hlen,h3,h20,h21,h22,hlt,hix,hrd,se,d7,↓hac,↓hao,show ∀ o,put none K o=some (K.length,K++[o]) from fun _=>rfl,hr0,hli,pI,r5,↓az,nck,↓cbT,↓cbF,↓ao,an,eu,reduceCtorEq,reduceIte,aM,aK,aW,aF]
 generalize hR:EvC aa C0 W0 iE (Code.region 10 _ _) _=Z10
 obtain ⟨t,K1,iv1,av1,e1,tl,tlow,P1⟩:=Ij (hP.pad (.cells (aU x va) 34)) hR (by simp only [ls,hlen]) (by simp only [hlen,h3,gB,sevalprocAttr]) (c:=K.length) (x:=x) (va:=va) (by simp only [hlen,gB,sevalprocAttr]) (tR hP.ow.sl) hac hao (by omega) (by rw [kE]; omega)
 subst e1
 have b2:t.getD 2 uA=.ptr q 0:=(tlow 2 (by decide)).trans (by simp only [hlen,h2,gB,sevalprocAttr])
 have b3:t.getD 3 uA=.ptr p 0:=(tlow 3 (by decide)).trans (by simp only [hlen,h3,gB,sevalprocAttr])
 have b4:t.getD 4 uA=.map mb:=(tlow 4 (by decide)).trans (by simp only [hlen,h4,gB,sevalprocAttr])
 have b14:t.getD 14 uA=vs:=(tlow 14 (by decide)).trans (by simp only [hlen,h14,gB,sevalprocAttr])
 have b15:t.getD 15 uA=I ss.length:=(tlow 15 (by decide)).trans (by simp only [hlen,h15,gB,sevalprocAttr])
 have b16:t.getD 16 uA=I ((i:Nat):Int):=(tlow 16 (by decide)).trans (by simp only [hlen,h16,gB,sevalprocAttr])
 have b20:t.getD 20 uA=w:=(tlow 20 (by decide)).trans (by simp only [hlen,h20,gB,sevalprocAttr])
 have b21:t.getD 21 uA=I (aR ss i).length:=(tlow 21 (by decide)).trans (by simp only [hlen,h21,gB,sevalprocAttr])
 have b7:t.getD 7 uA=I ((j:Nat):Int):=(tlow 7 (by decide)).trans (by simp only [hlen,gB,sevalprocAttr])
 have b8:t.getD 8 uA=.ptr K.length 0:=(tlow 8 (by decide)).trans (by simp only [hlen,gB,sevalprocAttr])
 have b9:t.getD 9 uA=I ((off (qS ss) i+j:Nat):Int):=(tlow 9 (by decide)).trans (by simp only [hlen,gB,sevalprocAttr])
 have b22:t.getD 22 uA=I ((j:Nat):Int):=(tlow 22 (by decide)).trans (by simp only [hlen,h22,gB,sevalprocAttr])
 have hsc:(qO S0 K.length (.cells (aU x va) 34))[K.length]? =some (.cells (aU x va) 34):=tR hP.ow.sl
 have hk0:∀ G,Sub (qO S0 K.length (.cells (aU x va) 34)) G->ak G K.length 0 1=some [I x.kind]:=fun G hG=>hG.rd (by unfold ak; rw [hsc]; rfl)
 have hk1:=hk0 K1 P1.sub
 have hback:Sub S0 (qO S0 K.length (.cells (aU x va) 34)):=nF.sub
 have hbl:S0.length<=(qO S0 K.length (.cells (aU x va) 34)).length:=nF.len
 have hlF:(l++[(x,va)]).map (·.1)=ss.flatten.take (off (qS ss) i+(j+1)):=by
   rw [List.map_append,hl,<-bV,htk]; rfl
 have haF:∀ q∈l++[(x,va)],SlS 32 1 G0 q.2 (q.1.args.map dh):=fun q hq=>by
   rcases List.mem_append.1 hq with c | c
   · exact ha q c
   · rw [bg] at c; subst c; exact hsa
 have hRn:x.kind≠3->R1 (qS ss) (off (qS ss) i+j)=R1 (qS ss) (off (qS ss) i+(j+1)):=fun hk=>funext fun e=>by
   rw [<-bV,FM hit,if_neg fun c=>hk c.1]
 have hRy:x.kind=3->(fun e=>if e=x.ev.toNat then R1 (qS ss) (off (qS ss) i+j) x.ev.toNat++[off (qS ss) i+j] else R1 (qS ss) (off (qS ss) i+j) e)=R1 (qS ss) (off (qS ss) i+(j+1)):=fun hk=>funext fun e=>by
   have:=hev' hk
   rw [<-bV,FM hit]
   by_cases c:e=x.ev.toNat
   · subst c
     rw [if_pos rfl,if_pos ⟨hk,by show x.ev=_; omega⟩]
   · rw [if_neg c,if_neg fun d=>c (by have:x.ev=(e:Int):=d.2; omega)]
 cases j with
 | zero =>
   have hgt:ltB 0 ((0:Nat):Int)=false:=rfl
   have hA0:A1 (qS ss) (off (qS ss) i+0)++[[]]=A1 (qS ss) (off (qS ss) i+(0+1)):=(MG hit).symm
   rw [hA0] at P1
   cases hk:eqB x.kind 3 with
   | false =>
     have hkn:x.kind≠3:=fun c=>by rw [c] at hk; cases hk
     simp -implicitDefEqProofs only [pT,Tryz.f42,aP,tl,b2,b3,b4,b7,b8,b9,b14,b15,b16,b20,b21,b22,hk,hk1,hgt,hw,r5,↓az,nck,↓cbT,↓cbF,↓ao,an,eu,reduceCtorEq,reduceIte,aM,aK,aW,aF]
     rw [hRn hkn] at P1
     refine ⟨_,_,rfl,by simp only [ls,tl],Aj9 (by simp only [tl,b2,b3,b4,b14,b15,b16,b20,b21,gB,and_self,sevalprocAttr]) ⟨_,_,_,_,_,P1.less hback hbl,hlF,haF⟩⟩
   | true =>
     have hky:x.kind=3:=(cX _ _).1 hk
     simp -implicitDefEqProofs only [pT,Tryz.f42,aP,tl,b2,b3,b4,b7,b8,b9,b14,b15,b16,b20,b21,b22,hk,hk1,hgt,hw,r5,↓az,nck,↓cbT,↓cbF,↓ao,an,eu,reduceCtorEq,reduceIte,aM,aK,aW,aF]
     generalize hR:EvC aa C0 W0 iE (Code.region 14 _ _) _=Z14
     obtain ⟨u,K3,mv3,e3,ul,ulow,P3⟩:=A9 P1 hR (by simp only [ls,tl]) (by simp only [tl,b4,gB,sevalprocAttr]) (c:=K.length) (x:=x) (va:=va) (by simp only [tl,b8,gB,sevalprocAttr]) hsc (e:=x.ev.toNat) (j:=off (qS ss) i+0) (by have:=hev' hky; omega) (by simp only [tl,b9,gB,sevalprocAttr]) (bc (Qw _ _ _) (by omega))
     subst e3
     have u2:u.getD 2 uA=.ptr q 0:=(ulow 2 (by decide)).trans (by simp only [tl,b2,gB,sevalprocAttr])
     have u3:u.getD 3 uA=.ptr p 0:=(ulow 3 (by decide)).trans (by simp only [tl,b3,gB,sevalprocAttr])
     have u4:u.getD 4 uA=.map mb:=(ulow 4 (by decide)).trans (by simp only [tl,b4,gB,sevalprocAttr])
     have u14:u.getD 14 uA=vs:=(ulow 14 (by decide)).trans (by simp only [tl,b14,gB,sevalprocAttr])
     have u15:u.getD 15 uA=I ss.length:=(ulow 15 (by decide)).trans (by simp only [tl,b15,gB,sevalprocAttr])
     have u16:u.getD 16 uA=I ((i:Nat):Int):=(ulow 16 (by decide)).trans (by simp only [tl,b16,gB,sevalprocAttr])
     have u20:u.getD 20 uA=w:=(ulow 20 (by decide)).trans (by simp only [tl,b20,gB,sevalprocAttr])
     have u21:u.getD 21 uA=I (aR ss i).length:=(ulow 21 (by decide)).trans (by simp only [tl,b21,gB,sevalprocAttr])
     have u22:u.getD 22 uA=I ((0:Nat):Int):=(ulow 22 (by decide)).trans (by simp only [tl,b22,gB,sevalprocAttr])
     simp -implicitDefEqProofs only [pT,Tryz.f42,aP,ul,u2,u3,u4,u14,u15,u16,u20,u21,u22,hw,r5,↓az,nck,↓cbT,↓cbF,↓ao,an,eu,reduceCtorEq,reduceIte,aM,aK,aW,aF]
     rw [hRy hky] at P3
     refine ⟨_,_,rfl,by simp only [ls,ul],Aj9 (by simp only [ul,u2,u3,u4,u14,u15,u16,u20,u21,gB,and_self,sevalprocAttr]) ⟨_,_,_,_,_,P3.less hback hbl,hlF,haF⟩⟩
 | succ j =>
   have hgt:ltB 0 ((j+1:Nat):Int)=true:=cQ (by omega)
   simp -implicitDefEqProofs only [pT,Tryz.f42,aP,tl,b2,b3,b4,b7,b8,b9,b14,b15,b16,b20,b21,b22,hgt,r5,↓az,nck,↓cbT,↓cbF,↓ao,an,eu,reduceCtorEq,reduceIte,aM,aK,aW,aF]
   generalize hR:EvC aa C0 W0 iE (Code.region 12 _ _) _=Z12
   obtain ⟨v,K2,ws2,e2,vl,vlow,P2⟩:=Ii P1 hR (by simp only [ls,tl]) (by simp only [tl,b3,gB,sevalprocAttr]) (n:=off (qS ss) i+j) (by simp only [tl,b9,gB,sevalprocAttr]; try rfl) (by rw [ai,kE,eo]; omega) (by rw [ai,kE,eo]; omega) (by rw [<-bV,FT]; simp)
   subst e2
   rw [<-MF hit] at P2
   have hk2:=hk0 K2 P2.sub
   have v2:v.getD 2 uA=.ptr q 0:=(vlow 2 (by decide)).trans (by simp only [tl,b2,gB,sevalprocAttr])
   have v3:v.getD 3 uA=.ptr p 0:=(vlow 3 (by decide)).trans (by simp only [tl,b3,gB,sevalprocAttr])
   have v4:v.getD 4 uA=.map mb:=(vlow 4 (by decide)).trans (by simp only [tl,b4,gB,sevalprocAttr])
   have v14:v.getD 14 uA=vs:=(vlow 14 (by decide)).trans (by simp only [tl,b14,gB,sevalprocAttr])
   have v15:v.getD 15 uA=I ss.length:=(vlow 15 (by decide)).trans (by simp only [tl,b15,gB,sevalprocAttr])
   have v16:v.getD 16 uA=I ((i:Nat):Int):=(vlow 16 (by decide)).trans (by simp only [tl,b16,gB,sevalprocAttr])
   have v20:v.getD 20 uA=w:=(vlow 20 (by decide)).trans (by simp only [tl,b20,gB,sevalprocAttr])
   have v21:v.getD 21 uA=I (aR ss i).length:=(vlow 21 (by decide)).trans (by simp only [tl,b21,gB,sevalprocAttr])
   have v7:v.getD 7 uA=I ((j+1:Nat):Int):=(vlow 7 (by decide)).trans (by simp only [tl,b7,gB,sevalprocAttr])
   have v8:v.getD 8 uA=.ptr K.length 0:=(vlow 8 (by decide)).trans (by simp only [tl,b8,gB,sevalprocAttr])
   have v9:v.getD 9 uA=I ((off (qS ss) i+(j+1):Nat):Int):=(vlow 9 (by decide)).trans (by simp only [tl,b9,gB,sevalprocAttr])
   have v22:v.getD 22 uA=I ((j+1:Nat):Int):=(vlow 22 (by decide)).trans (by simp only [tl,b22,gB,sevalprocAttr])
   cases hk:eqB x.kind 3 with
   | false =>
     have hkn:x.kind≠3:=fun c=>by rw [c] at hk; cases hk
     simp -implicitDefEqProofs only [pT,Tryz.f42,aP,vl,v2,v3,v4,v7,v8,v9,v14,v15,v16,v20,v21,v22,hk,hk2,hw,r5,↓az,nck,↓cbT,↓cbF,↓ao,an,eu,reduceCtorEq,reduceIte,aM,aK,aW,aF]
     rw [hRn hkn] at P2
     refine ⟨_,_,rfl,by simp only [ls,vl],Aj9 (by simp only [vl,v2,v3,v4,v14,v15,v16,v20,v21,gB,and_self,sevalprocAttr]) ⟨_,_,_,_,_,P2.less hback hbl,hlF,haF⟩⟩
   | true =>
     have hky:x.kind=3:=(cX _ _).1 hk
     simp -implicitDefEqProofs only [pT,Tryz.f42,aP,vl,v2,v3,v4,v7,v8,v9,v14,v15,v16,v20,v21,v22,hk,hk2,hw,r5,↓az,nck,↓cbT,↓cbF,↓ao,an,eu,reduceCtorEq,reduceIte,aM,aK,aW,aF]
     generalize hR:EvC aa C0 W0 iE (Code.region 14 _ _) _=Z14
     obtain ⟨u,K3,mv3,e3,ul,ulow,P3⟩:=A9 P2 hR (by simp only [ls,vl]) (by simp only [vl,v4,gB,sevalprocAttr]) (c:=K.length) (x:=x) (va:=va) (by simp only [vl,v8,gB,sevalprocAttr]) hsc (e:=x.ev.toNat) (j:=off (qS ss) i+(j+1)) (by have:=hev' hky; omega) (by simp only [vl,v9,gB,sevalprocAttr]) (bc (Qw _ _ _) (by omega))
     subst e3
     have u2:u.getD 2 uA=.ptr q 0:=(ulow 2 (by decide)).trans (by simp only [vl,v2,gB,sevalprocAttr])
     have u3:u.getD 3 uA=.ptr p 0:=(ulow 3 (by decide)).trans (by simp only [vl,v3,gB,sevalprocAttr])
     have u4:u.getD 4 uA=.map mb:=(ulow 4 (by decide)).trans (by simp only [vl,v4,gB,sevalprocAttr])
     have u14:u.getD 14 uA=vs:=(ulow 14 (by decide)).trans (by simp only [vl,v14,gB,sevalprocAttr])
     have u15:u.getD 15 uA=I ss.length:=(ulow 15 (by decide)).trans (by simp only [vl,v15,gB,sevalprocAttr])
     have u16:u.getD 16 uA=I ((i:Nat):Int):=(ulow 16 (by decide)).trans (by simp only [vl,v16,gB,sevalprocAttr])
     have u20:u.getD 20 uA=w:=(ulow 20 (by decide)).trans (by simp only [vl,v20,gB,sevalprocAttr])
     have u21:u.getD 21 uA=I (aR ss i).length:=(ulow 21 (by decide)).trans (by simp only [vl,v21,gB,sevalprocAttr])
     have u22:u.getD 22 uA=I ((j+1:Nat):Int):=(ulow 22 (by decide)).trans (by simp only [vl,v22,gB,sevalprocAttr])
     simp -implicitDefEqProofs only [pT,Tryz.f42,aP,ul,u2,u3,u4,u14,u15,u16,u20,u21,u22,hw,r5,↓az,nck,↓cbT,↓cbF,↓ao,an,eu,reduceCtorEq,reduceIte,aM,aK,aW,aF]
     rw [hRy hky] at P3
     refine ⟨_,_,rfl,by simp only [ls,ul],Aj9 (by simp only [ul,u2,u3,u4,u14,u15,u16,u20,u21,gB,and_self,sevalprocAttr]) ⟨_,_,_,_,_,P3.less hback hbl,hlF,haF⟩⟩
end Go.Dv
