/- Part 27 of the walks (own work). -/
import Derived.Test.YtilpjnckfkjkbaaGreatDoorS26
open Int renaming toNat_natCast→cw
open List renaming all_eq_true→oS,append_nil→af,eq_of_mem_replicate→zG,getElem?_eq_getElem→aj,getElem?_map→aI,getElem?_set_self→bI,length_append→ai,length_eq_zero_iff→dw,length_replicate→iI,length_set→ar,mem_map→bY,replicate→aA,replicate_zero→du,take_zero→nu
open Nat renaming le_refl→ax,min_self→Tp,mul_one→dS,zero_add→cu
open Option renaming bind_some→ay,map_some→cE
open Option.some renaming inj→aC
open Go.Proofs.Tryz renaming prog→aa
set_option maxRecDepth 100000
set_option maxHeartbeats 4000000
set_option linter.unusedSimpArgs false
set_option linter.unusedVariables false
namespace Go.Dv
open Go.Proofs
attribute [local congr] aH bP bj bO bQ
theorem D1 {P:Program} {C:Cfg P} {slot:Option Nat} {ev:Operand->Option AV} {H:AH} (o:Oper) (x y:Operand) (t u:TypeId):fN P C slot ev o ⟨.builtin .copy,#[x,y],#[t,u]⟩ H=(ev x).bind fun s=>(ev y).bind fun v=>(xP P t s v H).map fun p=>(.val p.1,p.2):=by
 unfold fN; simp only [evL]; cases ev x with
 | none=>rfl
 | some v=>cases ev y <;> rfl
theorem yp {P:Program} {fn:Func} {a b:Tmp} {t:TypeId} (h:fn.results.toList=[.cell a t,.tmp b]) (tm:List AV) (H:AH):nB P fn (tm,H)=match tm.getD a uA with
   | .ptr i k=>(ldA P t H i k).map fun v=>(.tuple [v,tm.getD b uA],H)
   | _=>none:=by
 unfold nB
 rw [h]
 cases hg:tm.getD a uA with
 | ptr i k =>
   simp only [jm,hg]
   cases ldA P t H i k <;> rfl
 | _=>simp only [jm,hg] <;> rfl
theorem Yw (tm:List AV) (H:AH):r34 (tm,H)=match tm.getD 4 uA with
   | .ptr i k=>(ldA aa 34 H i k).map fun v=>(.tuple [v,tm.getD 5 uA],H)
   | _=>none:=yp (by rfl) tm H
structure yh (m:List (List Int)) (x:Itm):Prop where
 k0:x.kind≠0
 k1:x.kind=1->0<=x.src/\x.src.toNat < m.length/\0<=x.dst/\x.dst.toNat < m.length/\(bG m x.src.toNat).length=(bG m x.dst.toNat).length
 k2:x.kind=2->0<=x.dst/\x.dst.toNat < m.length
 k3:x.kind=3->0<=x.ev/\x.ev < 16
 w:eD x.word
theorem fx.buf {S K:AH} {q a:Nat} {ws:List AV} {vc vm vs:AV} {f:Con} {cs:List Cod} {ss:List (List Itm)} {ad:List Nat} {m:List (List Int)} {rc:List Bool} (h:fx S K q a ws vc vm vs f cs ss ad m rc) {d:Nat} (hd:d < m.length):∃ i k,(∀ kk,aG aa 24 vm (.int kk (d:Int))=some (.ptr i k))/\∀ L,ak (K++L) i k 1=some [ws.getD d uA]:=by
 have hdw:d < ws.length:=by rw [h.lw]; exact hd
 obtain ⟨i,k,h1,h2⟩:=h.sm.ix d [ws.getD d uA] (by rw [aI,aj hdw,dr hdw]; rfl)
 exact ⟨i,k,h1,fun L=>(h.sub.bS L).rd h2⟩
theorem A3 {m:List (List Int)} {d:Nat} {b:List Int} (h:bG m d=b) (hd:d < m.length):m.set d b=m:=by
 refine List.ext_getElem (by simp) fun i h1 h2=>?_
 rw [List.getElem_set]
 split
 · rename_i e; subst e
   rw [<-h]; exact dr hd _
 · rfl
theorem tM:∀ (xs new:List AV),new.length=xs.length->spl xs 0 new=new:=fun xs new h=>by
 rw [ib _ _ _ (by omega),nu,List.nil_append,cu,h,List.drop_length,af]
theorem JW (l:List Int):(iY l).all AV.one=true:=by
 rw [oS]
 intro x hx
 obtain ⟨n,_,rfl⟩:=bY.1 hx
 rfl
theorem fx.copy {S K:AH} {q a:Nat} {ws:List AV} {vc vm vs:AV} {f:Con} {cs:List Cod} {ss:List (List Itm)} {ad:List Nat} {m:List (List Int)} {rc:List Bool} (h:fx S K q a ws vc vm vs f cs ss ad m rc) {s d:Nat} (hs:s < m.length) (hd:d < m.length) (hl:(bG m s).length=(bG m d).length) :
   ∃ Kb n,(∀ L,xP aa 32 (ws.getD d uA) (ws.getD s uA) (K++L)=some (I n,Kb++L))/\fx S Kb q a ws vc vm vs f cs ss ad (m.set d (bG m s)) rc/\Kb.length=K.length/\∀ b,(∀ w∈ws,bZ w≠some b)->Kb[b]? =K[b]?:=by
 have hel:gF aa 32=some 21:=by kernel_rfl
 have hin:aa.info? 21=some ((aa.info? 21).getD default):=by kernel_rfl
 have hco:aa.cellsOf 21=1:=by kernel_rfl
 have hdw:d < ws.length:=by rw [h.lw]; exact hd
 have os:=h.own s hs
 have od:=h.own d hd
 have hls:=os.length
 have hld:=od.length
 rw [dS] at hls hld
 have n1:(iY (bG m s)).length=(bG m s).length:=by unfold iY; simp
 have n2:(iY (bG m d)).length=(bG m d).length:=by unfold iY; simp
 have hsrc:∀ L,∃ g,pf (K++L) 1 (ws.getD s uA)=some (bz (ws.getD s uA),g)/\∀ n,n=bz (ws.getD s uA)->g n=some (iY (bG m s)):=fun L=>by
   generalize ws.getD s uA=w at os
   generalize iY (bG m s)=xs at os
   cases os with
   | nil=>exact ⟨_,rfl,fun n _=>rfl⟩
   | «at» i k len cap ex c2 xs2 hb hi hl2 hc hrd =>
     refine ⟨fun n=>if n<=len then ak (K++L) i k (n * 1) else none,by simp [pf,bz],fun n hn=>?_⟩
     show (if n<=len then ak (K++L) i k (n * 1) else none)=_
     rw [hn,cg,if_pos (ax _)]
     exact ju (al.app K L) hrd
 by_cases h0:(bG m d).length=0
 · refine ⟨K,0,fun L=>?_,?_,rfl,fun _ _=>rfl⟩
   · obtain ⟨g,hg1,hg2⟩:=hsrc L
     have hz:bz (ws.getD s uA)=0:=by omega
     have hz2:bz (ws.getD d uA)=0:=by omega
     rw [hz] at hg1 hg2
     unfold xP
     rw [hel,ay,hin,ay,hco,hg1,ay]
     have od':=od
     generalize iY (bG m d)=xd at od'
     generalize ws.getD d uA=w at od' hz2
     cases od' with
     | nil=>rfl
     | «at» i k len cap ex c2 xs2 hb hi hl2 hc hrd =>
       rw [cg] at hz2
       subst hz2
       simp only [if_true,Tp]
       rw [hg2 0 rfl]
       rfl
   · have e1:bG m d=[]:=dw.1 h0
     have e2:bG m s=[]:=dw.1 (by omega)
     rw [e2,A3 e1 hd]; exact h
 · obtain ⟨i,k,len,cap,ex,Kb,hw,hwr,ho',hlen,hK⟩:=od.write (j:=0) (new:=iY (bG m s)) (by omega) (fun e=>by rw [e] at n1; simp at n1; omega) (JW _)
   rw [Nat.add_zero] at hwr
   rw [tM _ _ (by omega)] at ho'
   have hbl:bZ (ws.getD d uA)=some i:=by rw [hw]; rfl
   refine ⟨Kb,bz (ws.getD s uA),fun L=>?_,h.HU hd hbl hK ho' hl (h.im _ (uG hs)),hlen,fun b hb=>hK b fun e=>hb _ (eX hdw uA) (by rw [hbl,e])⟩
   obtain ⟨g,hg1,hg2⟩:=hsrc L
   have hz2:bz (ws.getD d uA)=len:=by rw [hw]; rfl
   have hz:bz (ws.getD s uA)=len:=by omega
   rw [hz] at hg1 hg2 ⊢
   unfold xP
   rw [hel,ay,hin,ay,hco,hg1,ay,hw]
   simp only [if_true]
   rw [show Nat.min len len=len from Tp len,hg2 len rfl,ay,if_neg (by omega),hwr L]
   rfl
noncomputable def QC:Code:=aQ [false] (Tryz.f34.body.getD .skip)
noncomputable def QB:Code:=aQ [true,false] (Tryz.f34.body.getD .skip)
noncomputable def QA:Code:=aQ [true,true,false] (Tryz.f34.body.getD .skip)
noncomputable def Qz:Code:=aQ [true,true,true,false] (Tryz.f34.body.getD .skip)
noncomputable def Qy:Code:=aQ [true,true,true,true,false] (Tryz.f34.body.getD .skip)
noncomputable def Qx:Code:=aQ [true,true,true,true,true,false] (Tryz.f34.body.getD .skip)
noncomputable def o0:Code:=aQ [true,true,true,true,true,true,false] (Tryz.f34.body.getD .skip)
noncomputable def T34:Code:=aQ [true,true,true,true,true,true,true] (Tryz.f34.body.getD .skip)
theorem S6:c34=.seq QC (.seq QB (.seq QA (.seq Qz (.seq Qy (.seq Qx (.seq o0 T34)))))):=by kernel_rfl
theorem Pg {K:AH} {x:Itm} {va:AV} {r:Nat} (hac:va.cells=[va]) (hao:va.one=true) (hr:∀ L row,row.length=9->row.all AV.one=true->bp (K++L) r 0 row=some (K.set r (.cells row 34)++L))
   (h32:∀ L,Ev aa C0 W0 32 [va] (K++L)=some (bl 1 x.args.length va (K.length+L.length),K++(L++bh 21 va (iY x.args)))) {tm:List AV} (hlen:tm.length=163) (h4:tm.getD 4 uA=.ptr r 0) (h8:tm.getD 8 uA=.ptr (K.length+16) 0) :
   ∃ tm' L row,EvC aa C0 W0 mu T34 (tm,K++[.fresh,.fresh,.fresh,.fresh,.fresh,.fresh,.fresh,.fresh,.fresh,.fresh,.fresh,.fresh,.fresh,.fresh,.fresh,.fresh,.cells (aU x va) 34,.fresh])=some (.ret,(tm',K.set r (.cells row 34)++L))/\tm'.length=163/\tm'.getD 4 uA=.ptr r 0/\tm'.getD 5 uA=I 0/\row.length=9:=by
 have hwc:=fun b=>(eg 1 x.args.length va b).1
 have hwo:=fun b=>(eg 1 x.args.length va b).2
 have hr':=fun L=>hr L (aU x (bl 1 x.args.length va (K.length+18))) rfl (by
   show (AV.one _ && (AV.one _ && (AV.one _ && (AV.one _ && (AV.one _ && (AV.one _ && (AV.one _ && (AV.one _ && (AV.one _ && true)))))))))=true
   rw [hwo]; rfl)
 simp only [aU] at hr'
 simp -implicitDefEqProofs only [T34,Tryz.f34,aP,hlen,h4,h8,aU,↓hac,↓hao,↓hwc,↓hwo,↓SB,h32,fE,d7,hr',r5,↓az,nck,↓cbT,↓cbF,↓ao,an,eu,sevalprocAttr]
 refine ⟨_,_,aU x (bl 1 x.args.length va (K.length+18)),rfl,?_,?_,?_,rfl⟩
 · simp only [ar,hlen]
 · simp only [hlen,h4,gB,sevalprocAttr]
 · simp only [hlen,gB,sevalprocAttr]
theorem SN {S K:AH} {q a:Nat} {ws:List AV} {vc vm vs:AV} {f:Con} {cs:List Cod} {ss:List (List Itm)} {ad:List Nat} {m:List (List Int)} {rc:List Bool} (h:fx S K q a ws vc vm vs f cs ss ad m rc) {x:Itm} {va:AV} (hac:va.cells=[va]) (hao:va.one=true) {tm:List AV} (hlen:tm.length=163) (h0:tm.getD 0 uA=.ptr q 0) (h8:tm.getD 8 uA=.ptr (K.length+16) 0) (hk:x.kind=3) (hf:0<=x.ev/\x.ev < 16):∃ tm' Kb,EvC aa C0 W0 mu o0 (tm,K++[.fresh,.fresh,.fresh,.fresh,.fresh,.fresh,.fresh,.fresh,.fresh,.fresh,.fresh,.fresh,.fresh,.fresh,.fresh,.fresh,.cells (aU x va) 34,.fresh])=some (.normal,(tm',Kb++[.fresh,.fresh,.fresh,.fresh,.fresh,.fresh,.fresh,.fresh,.fresh,.fresh,.fresh,.fresh,.fresh,.fresh,.fresh,.fresh,.cells (aU x va) 34,.fresh]))/\tm'.length=163/\tm'.getD 4 uA=tm.getD 4 uA/\tm'.getD 8 uA=.ptr (Kb.length+16) 0/\fx S Kb q a ws vc vm vs f cs ss ad m (rc.set x.ev.toNat true)/\Kb.length=K.length/\(∀ b,b≠q->(∀ w∈ws,bZ w≠some b)->Kb[b]? =K[b]?):=by
 obtain ⟨kind,code,grid,block,src,dst,ev,args,word⟩:=x
 simp only at hk hf ⊢
 subst hk
 have e0:eqB 3 0=false:=rfl
 have e1:eqB 3 1=false:=rfl
 have e2:eqB 3 2=false:=rfl
 have e3:eqB 3 3=true:=rfl
 obtain ⟨Kb,hwr,hQ,hlK,hK⟩:=h.tN (e:=ev.toNat) (by omega)
 have hix:∀ kk,aG aa 69 (.ptr q 11) (.int kk ev)=some (.ptr q (11+ev.toNat)):=fun kk=>by rw [Vk,if_pos hf,dS]
 have st4:∀ (H:AH) (i k:Nat) (x:AV),stA aa 4 H i k x=if x.cells.length=1 then bp H i k x.cells else none:=fun H i k x=>by kernel_rfl
 simp -implicitDefEqProofs only [o0,Tryz.f34,aP,hlen,h0,h8,aU,r5,↓az,nck,e0,e1,e2,e3,↓mV II,hix,st4,hwr,↓cbT,↓cbF,↓ao,an,eu,sevalprocAttr]
 exact ⟨_,Kb,rfl,by simp only [ls,hlen],Aj2 (by simp only [hlen,h8,hlK,gB,and_self,sevalprocAttr]) ⟨hQ,hlK,fun b h1 _=>hK b h1⟩⟩
theorem Pf {S K:AH} {q a:Nat} {ws:List AV} {vc vm vs:AV} {f:Con} {cs:List Cod} {ss:List (List Itm)} {ad:List Nat} {m:List (List Int)} {rc:List Bool} (h:fx S K q a ws vc vm vs f cs ss ad m rc) {x:Itm} {va:AV} (hac:va.cells=[va]) (hao:va.one=true) {tm:List AV} (hlen:tm.length=163) (h0:tm.getD 0 uA=.ptr q 0) (h8:tm.getD 8 uA=.ptr (K.length+16) 0) (hk:x.kind≠0/\x.kind≠1/\x.kind≠2/\x.kind≠3) (hf:True):∃ tm' Kb,EvC aa C0 W0 mu o0 (tm,K++[.fresh,.fresh,.fresh,.fresh,.fresh,.fresh,.fresh,.fresh,.fresh,.fresh,.fresh,.fresh,.fresh,.fresh,.fresh,.fresh,.cells (aU x va) 34,.fresh])=some (.normal,(tm',Kb++[.fresh,.fresh,.fresh,.fresh,.fresh,.fresh,.fresh,.fresh,.fresh,.fresh,.fresh,.fresh,.fresh,.fresh,.fresh,.fresh,.cells (aU x va) 34,.fresh]))/\tm'.length=163/\tm'.getD 4 uA=tm.getD 4 uA/\tm'.getD 8 uA=.ptr (Kb.length+16) 0/\fx S Kb q a ws vc vm vs f cs ss ad m rc/\Kb.length=K.length/\(∀ b,b≠q->(∀ w∈ws,bZ w≠some b)->Kb[b]? =K[b]?):=by
 obtain ⟨kind,code,grid,block,src,dst,ev,args,word⟩:=x
 simp only at hk hf ⊢
 have e0:eqB kind 0=false:=jh hk.1
 have e1:eqB kind 1=false:=jh hk.2.1
 have e2:eqB kind 2=false:=jh hk.2.2.1
 have e3:eqB kind 3=false:=jh hk.2.2.2
 simp -implicitDefEqProofs only [o0,Tryz.f34,aP,hlen,h0,h8,aU,r5,↓az,nck,e0,e1,e2,e3,↓cbT,↓cbF,↓ao,an,eu,sevalprocAttr]
 exact ⟨_,K,rfl,by simp only [ls,hlen],Aj2 (by simp only [hlen,h8,gB,and_self,sevalprocAttr]) ⟨h,rfl,fun b _ _=>rfl⟩⟩
theorem Pj {S K:AH} {q a:Nat} {ws:List AV} {vc vm vs:AV} {f:Con} {cs:List Cod} {ss:List (List Itm)} {ad:List Nat} {m:List (List Int)} {rc:List Bool} (h:fx S K q a ws vc vm vs f cs ss ad m rc) {x:Itm} {va:AV} (hac:va.cells=[va]) (hao:va.one=true) {tm:List AV} (hlen:tm.length=163) (h0:tm.getD 0 uA=.ptr q 0) (h8:tm.getD 8 uA=.ptr (K.length+16) 0) (hk:x.kind=1) (hf:0<=x.src/\x.src.toNat < m.length/\0<=x.dst/\x.dst.toNat < m.length/\(bG m x.src.toNat).length=(bG m x.dst.toNat).length):∃ tm' Kb,EvC aa C0 W0 mu o0 (tm,K++[.fresh,.fresh,.fresh,.fresh,.fresh,.fresh,.fresh,.fresh,.fresh,.fresh,.fresh,.fresh,.fresh,.fresh,.fresh,.fresh,.cells (aU x va) 34,.fresh])=some (.normal,(tm',Kb++[.fresh,.fresh,.fresh,.fresh,.fresh,.fresh,.fresh,.fresh,.fresh,.fresh,.fresh,.fresh,.fresh,.fresh,.fresh,.fresh,.cells (aU x va) 34,.fresh]))/\tm'.length=163/\tm'.getD 4 uA=tm.getD 4 uA/\tm'.getD 8 uA=.ptr (Kb.length+16) 0/\fx S Kb q a ws vc vm vs f cs ss ad (m.set x.dst.toNat (bG m x.src.toNat)) rc/\Kb.length=K.length/\(∀ b,b≠q->(∀ w∈ws,bZ w≠some b)->Kb[b]? =K[b]?):=by
 obtain ⟨kind,code,grid,block,src,dst,ev,args,word⟩:=x
 simp only at hk hf ⊢
 subst hk
 have e0:eqB 1 0=false:=rfl
 have e1:eqB 1 1=true:=rfl
 have e2:eqB 1 2=false:=rfl
 have e3:eqB 1 3=false:=rfl
 obtain ⟨f1,f2,f3,f4,f5⟩:=hf
 obtain ⟨s,rfl⟩:∃ s:Nat,src=s:=⟨src.toNat,by omega⟩
 obtain ⟨d,rfl⟩:∃ d:Nat,dst=d:=⟨dst.toNat,by omega⟩
 rw [cw] at f2 f4 f5
 rw [cw] at f5
 rw [cw,cw]
 obtain ⟨Kb,n,hcp,hQ,hlK,hK⟩:=h.copy f2 f4 f5
 obtain ⟨i0,k0,hix0,hrd0⟩:=h.buf f2
 obtain ⟨i1,k1,hix1,hrd1⟩:=h.buf f4
 have hq1:∀ L,ak (K++L) q 1 1=some [vm]:=fun L=>by have:=h.view.cell (al.refl K) L 1 (x:=vm) rfl; rwa [cu] at this
 simp -implicitDefEqProofs only [o0,Tryz.f34,aP,hlen,h0,h8,aU,r5,↓az,nck,e0,e1,e2,e3,↓mV IL,hq1,hix0,hix1,hrd0,hrd1,↓D1,hcp,↓cbT,↓cbF,↓ao,an,eu,sevalprocAttr]
 exact ⟨_,Kb,rfl,by simp only [ls,hlen],Aj2 (by simp only [hlen,h8,hlK,gB,and_self,sevalprocAttr]) ⟨hQ,hlK,fun b _ h2=>hK b h2⟩⟩
theorem GG {HK:Nat->AH} {n q b k0 c e:Nat} {ex:Bool} {vm:AV} {x:Itm} {va:AV} {p:Nat} {d:Nat} (hd:x.dst=d)
   (hq1:∀ j,j < n->ak (HK j) q 1 1=some [vm]) (hix:∀ j,j < n->∃ i k,(∀ kk,aG aa 24 vm (.int kk (d:Int))=some (.ptr i k))/\ak (HK j) i k 1=some [.slice b k0 1 n c ex])
   (hx5:∀ j,j < n->ak (HK j) p 5 1=some [I x.dst]) (hx8:∀ j,j < n->ak (HK j) p 8 1=some [.int .i32 x.word]) (hwr:∀ j,j < n->bp (HK j) b (k0+j) [.int .i32 x.word]=some (HK (j+1))) (hn:n < 2 ^ 60) :
   ∀ (dd j:Nat) (tm:List AV),n - j=dd->j<=n->tm.length=163->tm.getD 0 uA=.ptr q 0->tm.getD 8 uA=.ptr p 0->tm.getD 133 uA=I n->tm.getD 134 uA=I (j:Int) ->
   ∃ X,EvC aa C0 W0 mu EP (tm,HK j)=some (.exit 1,(X,HK n))/\X.length=163/\X.getD 8 uA=.ptr p 0/\X.getD 4 uA=tm.getD 4 uA:=by
 intro dd
 induction dd with
 | zero =>
   intro j tm hd2 hj hlen h0 h8 h133 h134
   have hjl:j=n:=by omega
   subst hjl
   have hlt:ltB (j:Int) (j:Nat)=false:=db (by omega)
   rw [Lq]
   simp -implicitDefEqProofs only [Ft,Tryz.f34,aP,hlen,h0,h8,h133,h134,hlt,↓cbT,↓cbF,↓ao,an,eu,sevalprocAttr]
   exact ⟨_,rfl,by simp only [ls,hlen],by simp only [hlen,h8,gB,and_self,sevalprocAttr]⟩
 | succ dd ih =>
   intro j tm hd2 hj hlen h0 h8 h133 h134
   have hjn:j < n:=by omega
   have hlt:ltB (j:Int) (n:Nat)=true:=cQ (by omega)
   have hw:=cD (j:=j) (by omega)
   have a1:=hq1 j hjn
   obtain ⟨i,k,a2,a3⟩:=hix j hjn
   have a4:=hx5 j hjn
   have a5:=hx8 j hjn
   have a6:=hwr j hjn
   rw [hd] at a4
   have a7:∀ kk,aG aa 32 (.slice b k0 1 n c ex) (.int kk (j:Int))=some (.ptr b (k0+j)):=fun kk=>by
     rw [Vl,if_pos ⟨by omega,by omega,rfl⟩,cw,dS]
   rw [Lq]
   simp -implicitDefEqProofs only [Ft,Tryz.f34,aP,hlen,h0,h8,h133,h134,hlt,hw,a1,a2,a3,a4,a5,a6,a7,fB,↓mV IJ,r5,↓az,nck,↓cbT,↓cbF,↓ao,an,eu,sevalprocAttr]
   generalize hX:EvC aa C0 W0 _ _ _=Z
   have key:∀ (tm1:List AV),EvC aa C0 W0 mu EP (tm1,HK (j+1))=Z->tm1.length=163->tm1.getD 0 uA=.ptr q 0->tm1.getD 8 uA=.ptr p 0->tm1.getD 133 uA=I n->tm1.getD 134 uA=I ((j+1:Nat):Int)->tm1.getD 4 uA=tm.getD 4 uA->∃ X,Z=some (.exit 1,(X,HK n))/\X.length=163/\X.getD 8 uA=.ptr p 0/\X.getD 4 uA=tm.getD 4 uA:=by
     intro tm1 h hl1 h0 h8 h133 h134 h4
     obtain ⟨X,he,b1,b2,b3⟩:=ih (j+1) tm1 (by omega) (by omega) hl1 h0 h8 h133 h134
     exact ⟨X,h.symm.trans he,b1,b2,b3.trans h4⟩
   exact key _ hX (by simp only [ls,hlen]) (by simp only [hlen,h0,gB,sevalprocAttr]) (by simp only [hlen,h8,gB,sevalprocAttr]) (by simp only [hlen,h133,gB,sevalprocAttr]) (by simp only [hlen,h134,gB,sevalprocAttr]) (by simp only [hlen,gB,sevalprocAttr])
theorem AY:∀ (vs:List AV) (cs:List AV) (k:Nat) (v:AV),spl cs k (vs++[v])=(spl cs k vs).set (k+vs.length) v
 | [],cs,k,v=>rfl
 | w::vs,cs,k,v=>by
   rw [List.cons_append,spl,AY vs,spl,List.length_cons,show k+1+vs.length=k+(vs.length+1) by omega]
theorem M7 {K:AH} {b:Nat} {o:bo} (h:K[b]? =some o):K.set b o=K:=by
 refine List.ext_getElem? fun i=>?_
 rw [List.getElem?_set]
 split
 · rename_i e
   subst e
   rw [if_pos (aJ h),h]
 · rfl
theorem fx.aaA {S K:AH} {q a:Nat} {ws:List AV} {vc vm vs:AV} {f:Con} {cs:List Cod} {ss:List (List Itm)} {ad:List Nat} {m:List (List Int)} {rc:List Bool} (h:fx S K q a ws vc vm vs f cs ss ad m rc) {d:Nat} (hd:d < m.length):∃ i k,(∀ kk,aG aa 24 vm (.int kk (d:Int))=some (.ptr i k))/\ak S i k 1=some [ws.getD d uA]:=by
 have hdw:d < ws.length:=by rw [h.lw]; exact hd
 obtain ⟨i,k,h1,h2⟩:=h.sm.ix d [ws.getD d uA] (by rw [aI,aj hdw,dr hdw]; rfl)
 exact ⟨i,k,h1,h2⟩
theorem fx.XQ {S K:AH} {q a:Nat} {ws:List AV} {vc vm vs:AV} {f:Con} {cs:List Cod} {ss:List (List Itm)} {ad:List Nat} {m:List (List Int)} {rc:List Bool} (h:fx S K q a ws vc vm vs f cs ss ad m rc) {K':AH} (hK:∀ b,(∀ w∈ws,bZ w≠some b)->K'[b]? =K[b]?):Sub S K':=fun b o hb ho=>by
 rw [hK b fun w hw e=>(h.gw w hw b e).ne hb ho rfl]
 exact h.sub b o hb ho
theorem fx.fill {S K:AH} {q a:Nat} {ws:List AV} {vc vm vs:AV} {f:Con} {cs:List Cod} {ss:List (List Itm)} {ad:List Nat} {m:List (List Int)} {rc:List Bool} (h:fx S K q a ws vc vm vs f cs ss ad m rc) {d:Nat} (hd:d < m.length) {w:Int} (hw:eD w) :
   ∃ (HK:Nat->AH) (n:Nat),n=(bG m d).length/\HK 0=K/\(∀ j,j<=n->(HK j).length=K.length/\∀ b,(∀ w∈ws,bZ w≠some b)->(HK j)[b]? =K[b]?) /\
     (∀ j,j < n->∃ b k0 c ex,ws.getD d uA=.slice b k0 1 n c ex/\(∀ j,j < n->∀ L,bp (HK j++L) b (k0+j) [.int .i32 w]=some (HK (j+1)++L))) /\
     fx S (HK n) q a ws vc vm vs f cs ss ad (m.set d (aA (bG m d).length w)) rc:=by
 have od:=h.own d hd
 have hdw:d < ws.length:=by rw [h.lw]; exact hd
 have hmw:=eX hdw uA
 have hld:=od.length
 rw [dS] at hld
 have n2:(iY (bG m d)).length=(bG m d).length:=by unfold iY; simp
 by_cases h0:(bG m d).length=0
 · refine ⟨fun _=>K,0,h0.symm,rfl,fun j _=>⟨rfl,fun _ _=>rfl⟩,fun j hj=>absurd hj (by omega),?_⟩
   have e1:bG m d=[]:=dw.1 h0
   rw [h0,du,A3 e1 hd]; exact h
 · have od':=od
   generalize hxd:iY (bG m d)=xd at od'
   generalize hwd:ws.getD d uA=wd at od'
   cases od' with
   | nil=>rw [hxd] at n2; simp at n2; omega
   | «at» b k0 len c ex cs xs hb hi hl hc hrd =>
     rw [hwd,cg] at hld
     rw [dS] at hc
     have hbl:bZ (ws.getD d uA)=some b:=by rw [hwd]; rfl
     have hbb:=aJ hi
     have hlen:len=(bG m d).length:=by omega
     have hone:∀ j,(aA j (AV.int .i32 w)).all AV.one=true:=fun j=>by
       rw [oS]
       intro x hx
       rw [zG hx]; rfl
     have hsl:∀ j,(spl cs k0 (aA j (AV.int .i32 w))).length=cs.length:=fun j=>fP ..
     refine ⟨fun j=>K.set b (.cells (spl cs k0 (aA j (.int .i32 w))) 21),(bG m d).length,rfl,?_,fun j _=>⟨ar ..,fun e he=>List.getElem?_set_ne fun h2=>he _ hmw (by rw [hbl,h2])⟩,fun j hj=>⟨b,k0,c,ex,by rw [hlen],fun j hj L=>?_⟩,?_⟩
     · exact M7 hi
     · have hg:(K.set b (.cells (spl cs k0 (aA j (.int .i32 w))) 21))[b]? =_:=bI hbb
       rw [gN hg (k:=k0+j) (xs:=[.int .i32 w]) (by rw [hsl]; simp; omega) rfl L,List.set_set]
       congr 2
       show K.set b (.cells ((spl cs k0 (aA j (.int .i32 w))).set (k0+j) (.int .i32 w)) 21)=_
       have:=AY (aA j (.int .i32 w)) cs k0 (.int .i32 w)
       rw [iI,<-List.replicate_succ'] at this
       rw [<-this]
     · have hne:aA (bG m d).length (AV.int .i32 w)≠[]:=fun e=>h0 (by simpa using congrArg List.length e)
       obtain ⟨i',k',len',cap',ex',K',hw',hwr',ho',hlen',hK'⟩:=od.write (j:=0) (new:=aA (bG m d).length (.int .i32 w)) (by rw [iI]; omega) hne (hone _)
       rw [hwd] at hw'
       cases hw'
       have e1:=hwr' []
       rw [gN hi (k:=k0+0) (by rw [iI]; omega) (hone _) []] at e1
       have e2:K.set b (.cells (spl cs k0 (aA (bG m d).length (.int .i32 w))) 21)=K':=by
         have:=aC e1
         simpa using this
       show fx S (K.set b (.cells (spl cs k0 (aA (bG m d).length (.int .i32 w))) 21)) q a ws vc vm vs f _ ss ad _ rc
       rw [e2]
       refine h.HU hd hbl hK' ?_ (by simp) (fun x hx=>by rw [zG hx]; exact hw)
       have e3:spl (iY (bG m d)) 0 (aA (bG m d).length (.int .i32 w))=iY (aA (bG m d).length w):=by
         rw [tM _ _ (by simp [iY])]
         unfold iY; rw [List.map_replicate]
       rw [<-e3]; exact ho'
theorem xL {HK:Nat->AH} {n q b k0 c:Nat} {ex:Bool} {vm:AV} {x:Itm} {p:Nat} {d:Nat} (hd:x.dst=d)
   (hq1:∀ j,j < n->ak (HK j) q 1 1=some [vm]) (hix:∀ j,j < n->∃ i k,(∀ kk,aG aa 24 vm (.int kk (d:Int))=some (.ptr i k))/\ak (HK j) i k 1=some [.slice b k0 1 n c ex])
   (hx5:∀ j,j < n->ak (HK j) p 5 1=some [I x.dst]) (hx8:∀ j,j < n->ak (HK j) p 8 1=some [.int .i32 x.word]) (hwr:∀ j,j < n->bp (HK j) b (k0+j) [.int .i32 x.word]=some (HK (j+1))) (hn:n < 2 ^ 60)
   {tm:List AV} {H0:AH} {Z:Option (bu × St)} (hX:EvC aa C0 W0 mu EP (tm,H0)=Z) (hH0:H0=HK 0) (hlen:tm.length=163) (h0:tm.getD 0 uA=.ptr q 0) (h8:tm.getD 8 uA=.ptr p 0) (h133:tm.getD 133 uA=I n) (h134:tm.getD 134 uA=I ((0:Nat):Int)) :
   ∃ X,Z=some (.exit 1,(X,HK n))/\X.length=163/\X.getD 8 uA=.ptr p 0/\X.getD 4 uA=tm.getD 4 uA:=by
 subst hX hH0
 exact GG (e:=0) (va:=.junk) hd hq1 hix hx5 hx8 hwr hn n 0 tm (by omega) (by omega) hlen h0 h8 h133 h134
theorem Ph {S K:AH} {q a:Nat} {ws:List AV} {vc vm vs:AV} {f:Con} {cs:List Cod} {ss:List (List Itm)} {ad:List Nat} {m:List (List Int)} {rc:List Bool} (h:fx S K q a ws vc vm vs f cs ss ad m rc) {x:Itm} {va:AV} (hac:va.cells=[va]) (hao:va.one=true) {tm:List AV} (hlen:tm.length=163) (h0:tm.getD 0 uA=.ptr q 0) (h8:tm.getD 8 uA=.ptr (K.length+16) 0) (hk:x.kind=2) (hf:(0<=x.dst/\x.dst.toNat < m.length)/\eD x.word):∃ tm' Kb,EvC aa C0 W0 mu o0 (tm,K++[.fresh,.fresh,.fresh,.fresh,.fresh,.fresh,.fresh,.fresh,.fresh,.fresh,.fresh,.fresh,.fresh,.fresh,.fresh,.fresh,.cells (aU x va) 34,.fresh])=some (.normal,(tm',Kb++[.fresh,.fresh,.fresh,.fresh,.fresh,.fresh,.fresh,.fresh,.fresh,.fresh,.fresh,.fresh,.fresh,.fresh,.fresh,.fresh,.cells (aU x va) 34,.fresh]))/\tm'.length=163/\tm'.getD 4 uA=tm.getD 4 uA/\tm'.getD 8 uA=.ptr (Kb.length+16) 0/\fx S Kb q a ws vc vm vs f cs ss ad (m.set x.dst.toNat (aA (bG m x.dst.toNat).length x.word)) rc/\Kb.length=K.length/\(∀ b,b≠q->(∀ w∈ws,bZ w≠some b)->Kb[b]? =K[b]?):=by
 obtain ⟨kind,code,grid,block,src,dst,ev,args,word⟩:=x
 simp only at hk hf ⊢
 subst hk
 have e0:eqB 2 0=false:=rfl
 have e1:eqB 2 1=false:=rfl
 have e2:eqB 2 2=true:=rfl
 have e3:eqB 2 3=false:=rfl
 obtain ⟨⟨f1,f2⟩,f3⟩:=hf
 obtain ⟨d,rfl⟩:∃ d:Nat,dst=d:=⟨dst.toNat,by omega⟩
 rw [cw] at f2 ⊢
 obtain ⟨HK,n,hn,hH0,hHl,hHw,hQ⟩:=h.fill f2 f3
 obtain ⟨i1,k1,hix1,hrd1⟩:=h.buf f2
 have hq1:∀ L,ak (K++L) q 1 1=some [vm]:=fun L=>by have:=h.view.cell (al.refl K) L 1 (x:=vm) rfl; rwa [cu] at this
 have hln:∀ G,dR aa 32 G (ws.getD d uA)=some (I n):=fun G=>by rw [hn]; exact kn (h.own d f2).s32 G
 have hnb:n<=256:=by rw [hn]; exact h.nb _ (uG f2)
 have hqw:∀ w∈ws,bZ w≠some q:=fun w hw=>(h.qw w hw).1
 simp -implicitDefEqProofs only [o0,Tryz.f34,aP,hlen,h0,h8,aU,r5,↓az,nck,e0,e1,e2,e3,hq1,hix1,hrd1,hln,IK,↓cbT,↓cbF,↓ao,an,eu,sevalprocAttr]
 generalize hX:EvC aa C0 W0 _ (Code.loop _) _=Z
 have hKl:∀ j,j<=n->(HK j).length=K.length:=fun j hj=>(hHl j hj).1
 have hbox:∀ j,j<=n->∀ k c,ak (HK j++([.fresh,.fresh,.fresh,.fresh,.fresh,.fresh,.fresh,.fresh,.fresh,.fresh,.fresh,.fresh,.fresh,.fresh,.fresh,.fresh,.cells [I 2,I code,I grid,I block,I src,I d,I ev,va,.int .i32 word] 34,.fresh]:AH)) (K.length+16) k c=if k+c<=9 then some ((([I 2,I code,I grid,I block,I src,I d,I ev,va,.int .i32 word]:List AV).drop k).take c) else none:=fun j hj k c=>by
   rw [<-hKl j hj,lk]; rfl
 have hqj:∀ j,j<=n->∀ L,ak (HK j++L) q 1 1=some [vm]:=fun j hj L=>by
   have e:(HK j)[q]? =K[q]?:=(hHl j hj).2 q hqw
   have:=hq1 []
   rw [af] at this
   unfold ak at this ⊢
   rw [List.getElem?_append_left (by rw [hKl j hj]; exact aJ h.kq),e]; exact this
 by_cases hn0:n=0
 · subst hn0
   obtain ⟨X,he,x0,x8,x4⟩:=xL (HK:=fun _=>K++([.fresh,.fresh,.fresh,.fresh,.fresh,.fresh,.fresh,.fresh,.fresh,.fresh,.fresh,.fresh,.fresh,.fresh,.fresh,.fresh,.cells [I 2,I code,I grid,I block,I src,I d,I ev,va,.int .i32 word] 34,.fresh]:AH)) (n:=0) (q:=q) (b:=0) (k0:=0) (c:=0) (ex:=true) (vm:=vm) (x:=⟨2,code,grid,block,src,d,ev,args,word⟩) (p:=K.length+16) (d:=d) rfl (fun j hj=>absurd hj (by omega)) (fun j hj=>absurd hj (by omega)) (fun j hj=>absurd hj (by omega)) (fun j hj=>absurd hj (by omega)) (fun j hj=>absurd hj (by omega)) (by omega) hX rfl (by simp only [ls,hlen]) (by simp only [hlen,h0,gB,sevalprocAttr]) (by simp only [hlen,h8,gB,sevalprocAttr]) (by simp only [hlen,gB,sevalprocAttr]) (by simp only [hlen,gB,sevalprocAttr]; try rfl)
   simp only [hlen,gB,sevalprocAttr] at x4
   subst he
   simp -implicitDefEqProofs only [x0,x8,x4,↓cbT,↓cbF,↓ao,an,eu,sevalprocAttr]
   exact ⟨_,K,rfl,x0,x4,x8,by rw [hH0] at hQ; exact hQ,rfl,fun b _ _=>rfl⟩
 · obtain ⟨b,k0,c,ex,hsl,hwr⟩:=hHw 0 (by omega)
   obtain ⟨i2,k2,hix2,hrd2⟩:=h.aaA f2
   obtain ⟨X,he,x0,x8,x4⟩:=xL (HK:=fun j=>HK j++([.fresh,.fresh,.fresh,.fresh,.fresh,.fresh,.fresh,.fresh,.fresh,.fresh,.fresh,.fresh,.fresh,.fresh,.fresh,.fresh,.cells [I 2,I code,I grid,I block,I src,I d,I ev,va,.int .i32 word] 34,.fresh]:AH)) (n:=n) (q:=q) (b:=b) (k0:=k0) (c:=c) (ex:=ex) (vm:=vm) (x:=⟨2,code,grid,block,src,d,ev,args,word⟩) (p:=K.length+16) (d:=d) rfl (fun j hj=>hqj j (by omega) _) (fun j hj=>⟨i2,k2,hix2,by rw [<-hsl]; exact ((h.XQ (hHl j (by omega)).2).bS _).rd hrd2⟩) (fun j hj=>by rw [hbox j (by omega)]; rfl) (fun j hj=>by rw [hbox j (by omega)]; rfl) (fun j hj=>hwr j hj _) (by omega) hX (by rw [hH0]) (by simp only [ls,hlen]) (by simp only [hlen,h0,gB,sevalprocAttr]) (by simp only [hlen,h8,gB,sevalprocAttr]) (by simp only [hlen,gB,sevalprocAttr]) (by simp only [hlen,gB,sevalprocAttr]; try rfl)
   simp only [hlen,gB,sevalprocAttr] at x4
   subst he
   simp -implicitDefEqProofs only [x0,x8,x4,↓cbT,↓cbF,↓ao,an,eu,sevalprocAttr]
   exact ⟨_,HK n,rfl,x0,x4,by rw [hKl n (ax _)]; exact x8,hQ,hKl n (ax _),fun b _ h2=>(hHl n (ax _)).2 b h2⟩
theorem SO {S K:AH} {q a:Nat} {ws:List AV} {vc vm vs:AV} {f:Con} {cs:List Cod} {ss:List (List Itm)} {ad:List Nat} {m:List (List Int)} {rc:List Bool} (h:fx S K q a ws vc vm vs f cs ss ad m rc) {x:Itm} {va:AV} (hac:va.cells=[va]) (hao:va.one=true) {tm:List AV} (hlen:tm.length=163) (h0:tm.getD 0 uA=.ptr q 0) (h8:tm.getD 8 uA=.ptr (K.length+16) 0) (hf:yh m x):∃ tm' Kb,EvC aa C0 W0 mu o0 (tm,K++[.fresh,.fresh,.fresh,.fresh,.fresh,.fresh,.fresh,.fresh,.fresh,.fresh,.fresh,.fresh,.fresh,.fresh,.fresh,.fresh,.cells (aU x va) 34,.fresh])=some (.normal,(tm',Kb++[.fresh,.fresh,.fresh,.fresh,.fresh,.fresh,.fresh,.fresh,.fresh,.fresh,.fresh,.fresh,.fresh,.fresh,.fresh,.fresh,.cells (aU x va) 34,.fresh]))/\tm'.length=163/\tm'.getD 4 uA=tm.getD 4 uA/\tm'.getD 8 uA=.ptr (Kb.length+16) 0/\fx S Kb q a ws vc vm vs f cs ss ad (doM m x) (doR rc x)/\Kb.length=K.length/\(∀ b,b≠q->(∀ w∈ws,bZ w≠some b)->Kb[b]? =K[b]?):=by
 by_cases h1:x.kind=1
 · have:=Pj h hac hao hlen h0 h8 h1 (hf.k1 h1)
   rw [show doM m x=m.set x.dst.toNat (bG m x.src.toNat) from by unfold doM; rw [if_pos h1],show doR rc x=rc from by unfold doR; rw [if_neg (by omega)]]
   exact this
 · by_cases h2:x.kind=2
   · have:=Ph h hac hao hlen h0 h8 h2 ⟨hf.k2 h2,hf.w⟩
     rw [show doM m x=m.set x.dst.toNat (aA (bG m x.dst.toNat).length x.word) from by unfold doM; rw [if_neg h1,if_pos h2],show doR rc x=rc from by unfold doR; rw [if_neg (by omega)]]
     exact this
   · by_cases h3:x.kind=3
     · have:=SN h hac hao hlen h0 h8 h3 (hf.k3 h3)
       rw [show doM m x=m from by unfold doM; rw [if_neg h1,if_neg h2],show doR rc x=rc.set x.ev.toNat true from by unfold doR; rw [if_pos h3]]
       exact this
     · have:=Pf h hac hao hlen h0 h8 ⟨hf.k0,h1,h2,h3⟩ trivial
       rw [show doM m x=m from by unfold doM; rw [if_neg h1,if_neg h2],show doR rc x=rc from by unfold doR; rw [if_neg h3]]
       exact this
theorem Pk {S K:AH} {q a:Nat} {ws:List AV} {vc vm vs:AV} {f:Con} {cs:List Cod} {ss:List (List Itm)} {ad:List Nat} {m:List (List Int)} {rc:List Bool} (h:fx S K q a ws vc vm vs f cs ss ad m rc) {x:Itm} {va:AV} (hac:va.cells=[va]) (hao:va.one=true) {tm:List AV} (hlen:tm.length=163) (h0:tm.getD 0 uA=.ptr q 0) (h8:tm.getD 8 uA=.ptr (K.length+16) 0) (hf:yh m x) {Z:Option (bu × St)} (hZ:EvC aa C0 W0 mu o0 (tm,K++[.fresh,.fresh,.fresh,.fresh,.fresh,.fresh,.fresh,.fresh,.fresh,.fresh,.fresh,.fresh,.fresh,.fresh,.fresh,.fresh,.cells (aU x va) 34,.fresh])=Z):∃ tm' Kb,Z=some (.normal,(tm',Kb++[.fresh,.fresh,.fresh,.fresh,.fresh,.fresh,.fresh,.fresh,.fresh,.fresh,.fresh,.fresh,.fresh,.fresh,.fresh,.fresh,.cells (aU x va) 34,.fresh]))/\tm'.length=163/\tm'.getD 4 uA=tm.getD 4 uA/\tm'.getD 8 uA=.ptr (Kb.length+16) 0/\fx S Kb q a ws vc vm vs f cs ss ad (doM m x) (doR rc x)/\Kb.length=K.length/\(∀ b,b≠q->(∀ w∈ws,bZ w≠some b)->Kb[b]? =K[b]?):=by
 subst hZ
 exact SO h hac hao hlen h0 h8 hf
theorem LR {K:AH} {x:Itm} {va:AV} {r:Nat} (hac:va.cells=[va]) (hao:va.one=true) (hr:∀ L row,row.length=9->row.all AV.one=true->bp (K++L) r 0 row=some (K.set r (.cells row 34)++L))
   (h32:∀ L,Ev aa C0 W0 32 [va] (K++L)=some (bl 1 x.args.length va (K.length+L.length),K++(L++bh 21 va (iY x.args)))) {tm:List AV} {Z:Option (bu × St)} (hZ:EvC aa C0 W0 mu T34 (tm,K++[.fresh,.fresh,.fresh,.fresh,.fresh,.fresh,.fresh,.fresh,.fresh,.fresh,.fresh,.fresh,.fresh,.fresh,.fresh,.fresh,.cells (aU x va) 34,.fresh])=Z) (hlen:tm.length=163) (h4:tm.getD 4 uA=.ptr r 0) (h8:tm.getD 8 uA=.ptr (K.length+16) 0) :
   ∃ tm' L row,Z=some (.ret,(tm',K.set r (.cells row 34)++L))/\tm'.length=163/\tm'.getD 4 uA=.ptr r 0/\tm'.getD 5 uA=I 0/\row.length=9:=by
 subst hZ
 exact Pg hac hao hr h32 hlen h4 h8
theorem Sub.gone {S K:AH} (h:Sub S K) {r:Nat} (hr:K.length<=r):ld S r:=(s6 hr).sub h
theorem Oy {ss:List (List Itm)} {ad:List Nat} {rc:List Bool} {s:Nat} (hs:s∈dv ss ad rc ss.length):nk ss ad rc=false:=by
 obtain ⟨hl,hok⟩:=mf hs
 have hk:=w7 hok
 unfold nk
 rw [Bool.or_eq_false_iff]
 refine ⟨?_,by cases h:dv ss ad rc ss.length with | nil=>rw [h] at hs; simp at hs | cons _ _=>rfl⟩
 have hm:(aR ss s).length - ad.getD s 0∈fh ss ad ss.length:=bY.2 ⟨s,List.mem_range.2 hl,rfl⟩
 have:=oD _ _ hm
 simp; omega
theorem aaq {S K:AH} {q a:Nat} {ws:List AV} {vc vm vs:AV} {f:Con} {cs:List Cod} {ss:List (List Itm)} {ad:List Nat} {m:List (List Int)} {rc:List Bool} (h:fx S K q a ws vc vm vs f cs ss ad m rc) {s:Nat} (hs:s∈dv ss ad rc ss.length) (hf:yh m (bB (aR ss s) (ad.getD s 0))) (hal:∀ l∈ss,∀ x∈l,x.args.length<=1000):∃ v K',Ev aa C0 W0 34 [.ptr q 0,I s] K=some (.tuple [v,I 0],K')/\fx S K' q a ws vc vm vs f cs ss (doA ad s) (doM m (bB (aR ss s) (ad.getD s 0))) (doR rc (bB (aR ss s) (ad.getD s 0)))/\K.length<=K'.length:=by
 obtain ⟨hsl,hok⟩:=mf hs
 have hkl:=w7 hok
 have hV:=h.view
 have hq10:∀ L,ak (K++L) q 10 1=some [.slice a 0 1 ad.length ad.length true]:=fun L=>by have:=hV.cell (al.refl K) L 10 (x:=.slice a 0 1 ad.length ad.length true) rfl; rwa [cu] at this
 have h12:∀ L,Ev aa C0 W0 12 [.ptr q 0] (K++L)=some (.tuple [.bool false,I (td ss ad rc)],K++L):=fun L=>by
   have:=Pc (hV.aX (al.app K L))
   rwa [Oy hs] at this
 obtain ⟨v,K1,he33,hA33,ho⟩:=SF (hV.aX (al.app K [bo.cells [I 0,I 0,I 0,I 0,I 0,I 0,I 0,.nilSlice,.int .i32 0] 34]))
 have hAK:al K K1:=(al.app K _).trans hA33
 have hrl:=wP ss ad rc ss.length
 have hfs:=h.fs
 have h63:Ev aa C0 W0 63 [v,I s] K1=some (.bool true,K1):=by
   have:=Ws ho.ints (by omega) (s:Int)
   rwa [(xF _ _).2 hs] at this
 have hQ1:=h.grow hAK
 have hV1:=hQ1.view
 have hq9:∀ L,ak (K1++L) q 9 1=some [vs]:=fun L=>by have:=hV1.cell (al.refl K1) L 9 (x:=vs) rfl; rwa [cu] at this
 have hq10':∀ L,ak (K1++L) q 10 1=some [.slice a 0 1 ad.length ad.length true]:=fun L=>by have:=hV1.cell (al.refl K1) L 10 (x:=.slice a 0 1 ad.length ad.length true) rfl; rwa [cu] at this
 obtain ⟨i0,k0,w0,hix0,hrd0s,hxs⟩:=h.s.at (al.refl S) hsl
 have hrd0:∀ L,ak (K1++L) i0 k0 1=some [w0]:=fun L=>by
   have:=hrd0s []
   rw [af] at this
   exact (hQ1.sub.bS L).rd this
 obtain ⟨i2,k2,va,hix2,hrd2s,hsa2⟩:=hxs.at (al.refl S) hkl
 have hrd2:∀ L,ak (K1++L) i2 k2 9=some (aU (bB (aR ss s) (ad.getD s 0)) va):=fun L=>by
   have:=hrd2s []
   rw [af] at this
   exact (hQ1.sub.bS L).rd this
 have hsa:=hsa2.sub hQ1.sub
 have hsal:s < ad.length:=by rw [h.la]; exact hsl
 have hia:∀ kk,aG aa 30 (.slice a 0 1 ad.length ad.length true) (.int kk (s:Int))=some (.ptr a s):=fun kk=>by
   rw [Vm,if_pos ⟨by omega,by omega,rfl⟩,cw,dS,cu]
 have hra:∀ L,ak (K1++L) a s 1=some [I ((ad.getD s 0:Nat):Int)]:=fun L=>by
   rw [eQ hQ1.ka L,if_pos (by simp; omega)]
   rw [List.drop_eq_getElem_cons (by simp; omega),List.take_succ_cons,nu,List.getElem_map,dr hsal]
 obtain ⟨Ka,hwra,hQa,hKal,hKaf⟩:=hQ1.X0 hsl hkl
 have hinc:IntKind.i64.wrap (((ad.getD s 0:Nat):Int)+1)=((ad.getD s 0+1:Nat):Int):=cD (by have:=hxs.n; omega)
 have hac:=hsa.cells
 have hao:=hsa.one
 have hlar:(bB (aR ss s) (ad.getD s 0)).args.length<=1000:=hal _ (gO hsl) _ (fu hkl)
 generalize bB (aR ss s) (ad.getD s 0)=x at *
 simp only [aU] at hrd2
 obtain ⟨tm,ht,g0,g1,g2⟩:=tm2 (.ptr q 0) (I s) 163 (by decide)
 rw [Zh,ht]
 rw [S6]
 simp -implicitDefEqProofs only [QC,QB,QA,Qz,Qy,Qx,Tryz.f34,aP,g0,g1,g2,show ∀ o,put none K o=some (K.length,K++[o]) from fun _=>rfl,se,d7,↓wY,↓PN,hq10,↓Pa,h12,↓O9,he33,↓V2,h63,↓dn ND,IZ,List.any_toArray',List.any_toArray,List.any_cons,List.any_nil,cJ,List.size_toArray,List.replicate_succ,du,hq9,hq10',hix0,hrd0,hia,hra,hix2,hrd2,↓hac,↓hao,hinc,st3,hwra,r5,↓az,nck,↓cbT,↓cbF,↓ao,an,eu,sevalprocAttr,↓fK,↓fI,↓jG,↓gP,↓fJ,↓gQ,↓ez,↓fL,↓cF,↓bX,↓dj,↓gR,↓eA,↓fM,↓cH,↓cG,↓dk,↓e9,↓dK,eB,cd,ai,Nat.add_assoc,di,dJ,eC]
 generalize hB:EvC aa C0 W0 _ o0 _=Z
 obtain ⟨tm1,Kb,he,t0,t4,t8,hQb,hKbl,hKbf⟩:=Pk hQa (x:=x) (va:=va) hac hao (by simp only [ls,g0]) (by simp only [g0,g1,gB,sevalprocAttr]) (by simp only [g0,hKal,gB,sevalprocAttr]) hf hB
 subst he
 simp only [g0,gB,sevalprocAttr] at t4
 simp -implicitDefEqProofs only [↓cbT,↓cbF,↓ao,an,eu,sevalprocAttr]
 have hql:=aJ h.kq
 have hall:=aJ h.ka
 have hwl:∀ w∈ws,bZ w≠some K.length:=fun w hw e=>by
   obtain ⟨i,hi,e1⟩:=List.mem_iff_getElem.1 hw
   have:=(gH (h.own i (by rw [<-h.lw]; exact hi)) (i:=K.length) (by rw [dr hi,e1]; exact e)).2
   omega
 have hkr:Kb[K.length]? =some (.cells [I 0,I 0,I 0,I 0,I 0,I 0,I 0,.nilSlice,.int .i32 0] 34):=by
   rw [hKbf _ (by omega) hwl,hKaf _ (by omega),hA33 K.length (by simp),List.getElem?_append_right (ax _),Nat.sub_self]; rfl
 have hr:∀ L row,row.length=9->row.all AV.one=true->bp (Kb++L) K.length 0 row=some (Kb.set K.length (.cells row 34)++L):=fun L row h1 h2=>by
   rw [gN hkr (by rw [h1]; decide) h2 L,tM _ _ (by rw [h1]; rfl)]
 have hsb:SlS 32 1 Kb va (x.args.map dh):=hsa2.sub hQb.sub
 have h32:=fun L=>KL hsb hlar L
 generalize hT:EvC aa C0 W0 _ T34 _=Z
 obtain ⟨tm2,L,row,he,u0,u4,u5,hrow⟩:=LR (x:=x) (va:=va) (r:=K.length) hac hao hr h32 hT t0 t4 t8
 subst he
 have hbl:Kb.length=K1.length:=by rw [hKbl,hKal]
 have hK1l:K.length < K1.length:=by have:=hA33.len; rw [ai] at this; simp at this; omega
 have hrd9:ak (Kb.set K.length (.cells row 34)++L) K.length 0 9=some row:=by
   rw [eQ (bI (by omega)) L,if_pos (by rw [hrow]; decide),List.drop_zero,List.take_of_length_le (by rw [hrow]; exact ax _)]
 refine ⟨.agg row,Kb.set K.length (.cells row 34)++L,?_,(hQb.Ra (h.sub.gone (ax _)) (by omega) (by omega) hwl _).grow (al.app _ L),?_⟩
 · simp only [ay,Yw,u4,u5,Sj,hrd9,cE]
 · rw [ai,ar]; omega
end Go.Dv
