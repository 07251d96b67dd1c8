/- Part 26 of the walks (own work). -/
import Derived.Test.YtilpjnckfkjkbaaGreatDoorZ25
set_option maxRecDepth 100000
set_option maxHeartbeats 4000000
set_option linter.unusedSimpArgs false
set_option linter.unusedVariables false
namespace Go.Dv
open Go.Proofs
attribute [local congr] bind_congr_first cb_congr condA_congr gd_congr br_congr
theorem callA_copy {P:Program} {C:Cfg P} {slot:Option Nat} {ev:Operand->Option AV} {H:AH} (o:Oper) (x y:Operand) (t u:TypeId):callA P C slot ev o ⟨.builtin .copy,#[x,y],#[t,u]⟩ H=(ev x).bind fun s=>(ev y).bind fun v=>(copyA P t s v H).map fun p=>(.val p.1,p.2):=by
 unfold callA; simp only [evL]; cases ev x with
 | none=>rfl
 | some v=>cases ev y <;> rfl
theorem retA_cell_tmp {P:Program} {fn:Func} {a b:Tmp} {t:TypeId} (h:fn.results.toList=[.cell a t,.tmp b]) (tm:List AV) (H:AH):retA P fn (tm,H)=match tm.getD a uA with
   | .ptr i k=>(ldA P t H i k).map fun v=>(.tuple [v,tm.getD b uA],H)
   | _=>none:=by
 unfold retA
 rw [h]
 cases hg:tm.getD a uA with
 | ptr i k =>
   simp only [resultsA,hg]
   cases ldA P t H i k <;> rfl
 | _=>simp only [resultsA,hg] <;> rfl
theorem fr34 (tm:List AV) (H:AH):r34 (tm,H)=match tm.getD 4 uA with
   | .ptr i k=>(ldA Tryz.prog 34 H i k).map fun v=>(.tuple [v,tm.getD 5 uA],H)
   | _=>none:=retA_cell_tmp (by rfl) tm H
structure FitM (m:List (List Int)) (x:Itm):Prop where
 k0:x.kind≠0
 k1:x.kind=1->0<=x.src/\x.src.toNat < m.length/\0<=x.dst/\x.dst.toNat < m.length/\(bufOf m x.src.toNat).length=(bufOf m x.dst.toNat).length
 k2:x.kind=2->0<=x.dst/\x.dst.toNat < m.length
 k3:x.kind=3->0<=x.ev/\x.ev < 16
 w:i32R x.word
theorem QueR.buf {S K:AH} {q a:Nat} {ws:List AV} {vc vm vs:AV} {f:Con} {cs:List Cod} {ss:List (List Itm)} {ad:List Nat} {m:List (List Int)} {rc:List Bool} (h:QueR S K q a ws vc vm vs f cs ss ad m rc) {d:Nat} (hd:d < m.length):∃ i k,(∀ kk,indexAddrA Tryz.prog 24 vm (.int kk (d:Int))=some (.ptr i k))/\∀ L,rdCells (K++L) i k 1=some [ws.getD d uA]:=by
 have hdw:d < ws.length:=by rw [h.lw]; exact hd
 obtain ⟨i,k,h1,h2⟩:=h.sm.ix d [ws.getD d uA] (by rw [List.getElem?_map,List.getElem?_eq_getElem hdw,getD_at hdw]; rfl)
 exact ⟨i,k,h1,fun L=>(h.sub.appR L).rd h2⟩
theorem set_same {m:List (List Int)} {d:Nat} {b:List Int} (h:bufOf m d=b) (hd:d < m.length):m.set d b=m:=by
 refine List.ext_getElem (by simp) fun i h1 h2=>?_
 rw [List.getElem_set]
 split
 · rename_i e; subst e
   rw [<-h]; exact getD_at hd _
 · rfl
theorem spl_whole:∀ (xs new:List AV),new.length=xs.length->spl xs 0 new=new:=fun xs new h=>by
 rw [spl_append _ _ _ (by omega),List.take_zero,List.nil_append,Nat.zero_add,h,List.drop_length,List.append_nil]
theorem i32s_one (l:List Int):(i32s l).all AV.one=true:=by
 rw [List.all_eq_true]
 intro x hx
 obtain ⟨n,_,rfl⟩:=List.mem_map.1 hx
 rfl
theorem QueR.copy {S K:AH} {q a:Nat} {ws:List AV} {vc vm vs:AV} {f:Con} {cs:List Cod} {ss:List (List Itm)} {ad:List Nat} {m:List (List Int)} {rc:List Bool} (h:QueR S K q a ws vc vm vs f cs ss ad m rc) {s d:Nat} (hs:s < m.length) (hd:d < m.length) (hl:(bufOf m s).length=(bufOf m d).length) :
   ∃ Kb n,(∀ L,copyA Tryz.prog 32 (ws.getD d uA) (ws.getD s uA) (K++L)=some (I n,Kb++L))/\QueR S Kb q a ws vc vm vs f cs ss ad (m.set d (bufOf m s)) rc/\Kb.length=K.length/\∀ b,(∀ w∈ws,blkO w≠some b)->Kb[b]? =K[b]?:=by
 have hel:sliceElem Tryz.prog 32=some 21:=by kernel_rfl
 have hin:Tryz.prog.info? 21=some ((Tryz.prog.info? 21).getD default):=by kernel_rfl
 have hco:Tryz.prog.cellsOf 21=1:=by kernel_rfl
 have hdw:d < ws.length:=by rw [h.lw]; exact hd
 have os:=h.own s hs
 have od:=h.own d hd
 have hls:=os.length
 have hld:=od.length
 rw [Nat.mul_one] at hls hld
 have n1:(i32s (bufOf m s)).length=(bufOf m s).length:=by unfold i32s; simp
 have n2:(i32s (bufOf m d)).length=(bufOf m d).length:=by unfold i32s; simp
 have hsrc:∀ L,∃ g,srcA (K++L) 1 (ws.getD s uA)=some (lenOfA (ws.getD s uA),g)/\∀ n,n=lenOfA (ws.getD s uA)->g n=some (i32s (bufOf m s)):=fun L=>by
   generalize ws.getD s uA=w at os
   generalize i32s (bufOf m s)=xs at os
   cases os with
   | nil=>exact ⟨_,rfl,fun n _=>rfl⟩
   | «at» i k len cap ex c2 xs2 hb hi hl2 hc hrd =>
     refine ⟨fun n=>if n<=len then rdCells (K++L) i k (n * 1) else none,by simp [srcA,lenOfA],fun n hn=>?_⟩
     show (if n<=len then rdCells (K++L) i k (n * 1) else none)=_
     rw [hn,lenOfA_slice,if_pos (Nat.le_refl _)]
     exact rd_same (Agree.app K L) hrd
 by_cases h0:(bufOf m d).length=0
 · refine ⟨K,0,fun L=>?_,?_,rfl,fun _ _=>rfl⟩
   · obtain ⟨g,hg1,hg2⟩:=hsrc L
     have hz:lenOfA (ws.getD s uA)=0:=by omega
     have hz2:lenOfA (ws.getD d uA)=0:=by omega
     rw [hz] at hg1 hg2
     unfold copyA
     rw [hel,Option.bind_some,hin,Option.bind_some,hco,hg1,Option.bind_some]
     have od':=od
     generalize i32s (bufOf m d)=xd at od'
     generalize ws.getD d uA=w at od' hz2
     cases od' with
     | nil=>rfl
     | «at» i k len cap ex c2 xs2 hb hi hl2 hc hrd =>
       rw [lenOfA_slice] at hz2
       subst hz2
       simp only [if_true,Nat.min_self]
       rw [hg2 0 rfl]
       rfl
   · have e1:bufOf m d=[]:=List.length_eq_zero_iff.1 h0
     have e2:bufOf m s=[]:=List.length_eq_zero_iff.1 (by omega)
     rw [e2,set_same e1 hd]; exact h
 · obtain ⟨i,k,len,cap,ex,Kb,hw,hwr,ho',hlen,hK⟩:=od.write (j:=0) (new:=i32s (bufOf m s)) (by omega) (fun e=>by rw [e] at n1; simp at n1; omega) (i32s_one _)
   rw [Nat.add_zero] at hwr
   rw [spl_whole _ _ (by omega)] at ho'
   have hbl:blkO (ws.getD d uA)=some i:=by rw [hw]; rfl
   refine ⟨Kb,lenOfA (ws.getD s uA),fun L=>?_,h.setB hd hbl hK ho' hl (h.im _ (bufOf_mem hs)),hlen,fun b hb=>hK b fun e=>hb _ (getD_mem' hdw uA) (by rw [hbl,e])⟩
   obtain ⟨g,hg1,hg2⟩:=hsrc L
   have hz2:lenOfA (ws.getD d uA)=len:=by rw [hw]; rfl
   have hz:lenOfA (ws.getD s uA)=len:=by omega
   rw [hz] at hg1 hg2 ⊢
   unfold copyA
   rw [hel,Option.bind_some,hin,Option.bind_some,hco,hg1,Option.bind_some,hw]
   simp only [if_true]
   rw [show Nat.min len len=len from Nat.min_self len,hg2 len rfl,Option.bind_some,if_neg (by omega),hwr L]
   rfl
noncomputable def P34_0:Code:=atPath [false] (Tryz.f34.body.getD .skip)
noncomputable def P34_1:Code:=atPath [true,false] (Tryz.f34.body.getD .skip)
noncomputable def P34_2:Code:=atPath [true,true,false] (Tryz.f34.body.getD .skip)
noncomputable def P34_3:Code:=atPath [true,true,true,false] (Tryz.f34.body.getD .skip)
noncomputable def P34_4:Code:=atPath [true,true,true,true,false] (Tryz.f34.body.getD .skip)
noncomputable def P34_5:Code:=atPath [true,true,true,true,true,false] (Tryz.f34.body.getD .skip)
noncomputable def P34_6:Code:=atPath [true,true,true,true,true,true,false] (Tryz.f34.body.getD .skip)
noncomputable def T34:Code:=atPath [true,true,true,true,true,true,true] (Tryz.f34.body.getD .skip)
theorem c34_eq:c34=.seq P34_0 (.seq P34_1 (.seq P34_2 (.seq P34_3 (.seq P34_4 (.seq P34_5 (.seq P34_6 T34)))))):=by kernel_rfl
theorem do_tail {K:AH} {x:Itm} {va:AV} {r:Nat} (hac:va.cells=[va]) (hao:va.one=true) (hr:∀ L row,row.length=9->row.all AV.one=true->wrCells (K++L) r 0 row=some (K.set r (.cells row 34)++L))
   (h32:∀ L,Ev Tryz.prog C0 W0 32 [va] (K++L)=some (cloneV 1 x.args.length va (K.length+L.length),K++(L++cloneL 21 va (i32s x.args)))) {tm:List AV} (hlen:tm.length=163) (h4:tm.getD 4 uA=.ptr r 0) (h8:tm.getD 8 uA=.ptr (K.length+16) 0) :
   ∃ tm' L row,EvC Tryz.prog C0 W0 pl34 T34 (tm,K++[.fresh,.fresh,.fresh,.fresh,.fresh,.fresh,.fresh,.fresh,.fresh,.fresh,.fresh,.fresh,.fresh,.fresh,.fresh,.fresh,.cells (rowX x va) 34,.fresh])=some (.ret,(tm',K.set r (.cells row 34)++L))/\tm'.length=163/\tm'.getD 4 uA=.ptr r 0/\tm'.getD 5 uA=I 0/\row.length=9:=by
 have hwc:=fun b=>(cloneV_cells 1 x.args.length va b).1
 have hwo:=fun b=>(cloneV_cells 1 x.args.length va b).2
 have hr':=fun L=>hr L (rowX x (cloneV 1 x.args.length va (K.length+18))) rfl (by
   show (AV.one _ && (AV.one _ && (AV.one _ && (AV.one _ && (AV.one _ && (AV.one _ && (AV.one _ && (AV.one _ && (AV.one _ && true)))))))))=true
   rw [hwo]; rfl)
 simp only [rowX] at hr'
 simp -implicitDefEqProofs only [T34,Tryz.f34,aP,hlen,h4,h8,rowX,↓hac,↓hao,↓hwc,↓hwo,↓fc32,h32,st32,st34,hr',r5,↓evLd,nck,↓cbT,↓cbF,↓evDn,evUp,eu,sevalprocAttr]
 refine ⟨_,_,rowX x (cloneV 1 x.args.length va (K.length+18)),rfl,?_,?_,?_,rfl⟩
 · simp only [List.length_set,hlen]
 · simp only [hlen,h4,gB,sevalprocAttr]
 · simp only [hlen,gB,sevalprocAttr]
theorem do_rec {S K:AH} {q a:Nat} {ws:List AV} {vc vm vs:AV} {f:Con} {cs:List Cod} {ss:List (List Itm)} {ad:List Nat} {m:List (List Int)} {rc:List Bool} (h:QueR S K q a ws vc vm vs f cs ss ad m rc) {x:Itm} {va:AV} (hac:va.cells=[va]) (hao:va.one=true) {tm:List AV} (hlen:tm.length=163) (h0:tm.getD 0 uA=.ptr q 0) (h8:tm.getD 8 uA=.ptr (K.length+16) 0) (hk:x.kind=3) (hf:0<=x.ev/\x.ev < 16):∃ tm' Kb,EvC Tryz.prog C0 W0 pl34 P34_6 (tm,K++[.fresh,.fresh,.fresh,.fresh,.fresh,.fresh,.fresh,.fresh,.fresh,.fresh,.fresh,.fresh,.fresh,.fresh,.fresh,.fresh,.cells (rowX x va) 34,.fresh])=some (.normal,(tm',Kb++[.fresh,.fresh,.fresh,.fresh,.fresh,.fresh,.fresh,.fresh,.fresh,.fresh,.fresh,.fresh,.fresh,.fresh,.fresh,.fresh,.cells (rowX x va) 34,.fresh]))/\tm'.length=163/\tm'.getD 4 uA=tm.getD 4 uA/\tm'.getD 8 uA=.ptr (Kb.length+16) 0/\QueR S Kb q a ws vc vm vs f cs ss ad m (rc.set x.ev.toNat true)/\Kb.length=K.length/\(∀ b,b≠q->(∀ w∈ws,blkO w≠some b)->Kb[b]? =K[b]?):=by
 obtain ⟨kind,code,grid,block,src,dst,ev,args,word⟩:=x
 simp only at hk hf ⊢
 subst hk
 have e0:eqB 3 0=false:=rfl
 have e1:eqB 3 1=false:=rfl
 have e2:eqB 3 2=false:=rfl
 have e3:eqB 3 3=true:=rfl
 obtain ⟨Kb,hwr,hQ,hlK,hK⟩:=h.setR (e:=ev.toNat) (by omega)
 have hix:∀ kk,indexAddrA Tryz.prog 69 (.ptr q 11) (.int kk ev)=some (.ptr q (11+ev.toNat)):=fun kk=>by rw [ia69,if_pos hf,Nat.mul_one]
 have st4:∀ (H:AH) (i k:Nat) (x:AV),stA Tryz.prog 4 H i k x=if x.cells.length=1 then wrCells H i k x.cells else none:=fun H i k x=>by kernel_rfl
 simp -implicitDefEqProofs only [P34_6,Tryz.f34,aP,hlen,h0,h8,rowX,r5,↓evLd,nck,e0,e1,e2,e3,↓ev_tail plr34_23,hix,st4,hwr,↓cbT,↓cbF,↓evDn,evUp,eu,sevalprocAttr]
 exact ⟨_,Kb,rfl,by simp only [ls,hlen],Aj2 (by simp only [hlen,h8,hlK,gB,and_self,sevalprocAttr]) ⟨hQ,hlK,fun b h1 _=>hK b h1⟩⟩
theorem do_wait {S K:AH} {q a:Nat} {ws:List AV} {vc vm vs:AV} {f:Con} {cs:List Cod} {ss:List (List Itm)} {ad:List Nat} {m:List (List Int)} {rc:List Bool} (h:QueR S K q a ws vc vm vs f cs ss ad m rc) {x:Itm} {va:AV} (hac:va.cells=[va]) (hao:va.one=true) {tm:List AV} (hlen:tm.length=163) (h0:tm.getD 0 uA=.ptr q 0) (h8:tm.getD 8 uA=.ptr (K.length+16) 0) (hk:x.kind≠0/\x.kind≠1/\x.kind≠2/\x.kind≠3) (hf:True):∃ tm' Kb,EvC Tryz.prog C0 W0 pl34 P34_6 (tm,K++[.fresh,.fresh,.fresh,.fresh,.fresh,.fresh,.fresh,.fresh,.fresh,.fresh,.fresh,.fresh,.fresh,.fresh,.fresh,.fresh,.cells (rowX x va) 34,.fresh])=some (.normal,(tm',Kb++[.fresh,.fresh,.fresh,.fresh,.fresh,.fresh,.fresh,.fresh,.fresh,.fresh,.fresh,.fresh,.fresh,.fresh,.fresh,.fresh,.cells (rowX x va) 34,.fresh]))/\tm'.length=163/\tm'.getD 4 uA=tm.getD 4 uA/\tm'.getD 8 uA=.ptr (Kb.length+16) 0/\QueR S Kb q a ws vc vm vs f cs ss ad m rc/\Kb.length=K.length/\(∀ b,b≠q->(∀ w∈ws,blkO w≠some b)->Kb[b]? =K[b]?):=by
 obtain ⟨kind,code,grid,block,src,dst,ev,args,word⟩:=x
 simp only at hk hf ⊢
 have e0:eqB kind 0=false:=eqB_f hk.1
 have e1:eqB kind 1=false:=eqB_f hk.2.1
 have e2:eqB kind 2=false:=eqB_f hk.2.2.1
 have e3:eqB kind 3=false:=eqB_f hk.2.2.2
 simp -implicitDefEqProofs only [P34_6,Tryz.f34,aP,hlen,h0,h8,rowX,r5,↓evLd,nck,e0,e1,e2,e3,↓cbT,↓cbF,↓evDn,evUp,eu,sevalprocAttr]
 exact ⟨_,K,rfl,by simp only [ls,hlen],Aj2 (by simp only [hlen,h8,gB,and_self,sevalprocAttr]) ⟨h,rfl,fun b _ _=>rfl⟩⟩
theorem do_copy {S K:AH} {q a:Nat} {ws:List AV} {vc vm vs:AV} {f:Con} {cs:List Cod} {ss:List (List Itm)} {ad:List Nat} {m:List (List Int)} {rc:List Bool} (h:QueR S K q a ws vc vm vs f cs ss ad m rc) {x:Itm} {va:AV} (hac:va.cells=[va]) (hao:va.one=true) {tm:List AV} (hlen:tm.length=163) (h0:tm.getD 0 uA=.ptr q 0) (h8:tm.getD 8 uA=.ptr (K.length+16) 0) (hk:x.kind=1) (hf:0<=x.src/\x.src.toNat < m.length/\0<=x.dst/\x.dst.toNat < m.length/\(bufOf m x.src.toNat).length=(bufOf m x.dst.toNat).length):∃ tm' Kb,EvC Tryz.prog C0 W0 pl34 P34_6 (tm,K++[.fresh,.fresh,.fresh,.fresh,.fresh,.fresh,.fresh,.fresh,.fresh,.fresh,.fresh,.fresh,.fresh,.fresh,.fresh,.fresh,.cells (rowX x va) 34,.fresh])=some (.normal,(tm',Kb++[.fresh,.fresh,.fresh,.fresh,.fresh,.fresh,.fresh,.fresh,.fresh,.fresh,.fresh,.fresh,.fresh,.fresh,.fresh,.fresh,.cells (rowX x va) 34,.fresh]))/\tm'.length=163/\tm'.getD 4 uA=tm.getD 4 uA/\tm'.getD 8 uA=.ptr (Kb.length+16) 0/\QueR S Kb q a ws vc vm vs f cs ss ad (m.set x.dst.toNat (bufOf m x.src.toNat)) rc/\Kb.length=K.length/\(∀ b,b≠q->(∀ w∈ws,blkO w≠some b)->Kb[b]? =K[b]?):=by
 obtain ⟨kind,code,grid,block,src,dst,ev,args,word⟩:=x
 simp only at hk hf ⊢
 subst hk
 have e0:eqB 1 0=false:=rfl
 have e1:eqB 1 1=true:=rfl
 have e2:eqB 1 2=false:=rfl
 have e3:eqB 1 3=false:=rfl
 obtain ⟨f1,f2,f3,f4,f5⟩:=hf
 obtain ⟨s,rfl⟩:∃ s:Nat,src=s:=⟨src.toNat,by omega⟩
 obtain ⟨d,rfl⟩:∃ d:Nat,dst=d:=⟨dst.toNat,by omega⟩
 rw [Int.toNat_natCast] at f2 f4 f5
 rw [Int.toNat_natCast] at f5
 rw [Int.toNat_natCast,Int.toNat_natCast]
 obtain ⟨Kb,n,hcp,hQ,hlK,hK⟩:=h.copy f2 f4 f5
 obtain ⟨i0,k0,hix0,hrd0⟩:=h.buf f2
 obtain ⟨i1,k1,hix1,hrd1⟩:=h.buf f4
 have hq1:∀ L,rdCells (K++L) q 1 1=some [vm]:=fun L=>by have:=h.view.cell (Agree.refl K) L 1 (x:=vm) rfl; rwa [Nat.zero_add] at this
 simp -implicitDefEqProofs only [P34_6,Tryz.f34,aP,hlen,h0,h8,rowX,r5,↓evLd,nck,e0,e1,e2,e3,↓ev_tail plr34_15,hq1,hix0,hix1,hrd0,hrd1,↓callA_copy,hcp,↓cbT,↓cbF,↓evDn,evUp,eu,sevalprocAttr]
 exact ⟨_,Kb,rfl,by simp only [ls,hlen],Aj2 (by simp only [hlen,h8,hlK,gB,and_self,sevalprocAttr]) ⟨hQ,hlK,fun b _ h2=>hK b h2⟩⟩
theorem fill_loop {HK:Nat->AH} {n q b k0 c e:Nat} {ex:Bool} {vm:AV} {x:Itm} {va:AV} {p:Nat} {d:Nat} (hd:x.dst=d)
   (hq1:∀ j,j < n->rdCells (HK j) q 1 1=some [vm]) (hix:∀ j,j < n->∃ i k,(∀ kk,indexAddrA Tryz.prog 24 vm (.int kk (d:Int))=some (.ptr i k))/\rdCells (HK j) i k 1=some [.slice b k0 1 n c ex])
   (hx5:∀ j,j < n->rdCells (HK j) p 5 1=some [I x.dst]) (hx8:∀ j,j < n->rdCells (HK j) p 8 1=some [.int .i32 x.word]) (hwr:∀ j,j < n->wrCells (HK j) b (k0+j) [.int .i32 x.word]=some (HK (j+1))) (hn:n < 2 ^ 60) :
   ∀ (dd j:Nat) (tm:List AV),n - j=dd->j<=n->tm.length=163->tm.getD 0 uA=.ptr q 0->tm.getD 8 uA=.ptr p 0->tm.getD 133 uA=I n->tm.getD 134 uA=I (j:Int) ->
   ∃ X,EvC Tryz.prog C0 W0 pl34 l34_0 (tm,HK j)=some (.exit 1,(X,HK n))/\X.length=163/\X.getD 8 uA=.ptr p 0/\X.getD 4 uA=tm.getD 4 uA:=by
 intro dd
 induction dd with
 | zero =>
   intro j tm hd2 hj hlen h0 h8 h133 h134
   have hjl:j=n:=by omega
   subst hjl
   have hlt:ltB (j:Int) (j:Nat)=false:=ltB_f (by omega)
   rw [el34_0]
   simp -implicitDefEqProofs only [b34_0,Tryz.f34,aP,hlen,h0,h8,h133,h134,hlt,↓cbT,↓cbF,↓evDn,evUp,eu,sevalprocAttr]
   exact ⟨_,rfl,by simp only [ls,hlen],by simp only [hlen,h8,gB,and_self,sevalprocAttr]⟩
 | succ dd ih =>
   intro j tm hd2 hj hlen h0 h8 h133 h134
   have hjn:j < n:=by omega
   have hlt:ltB (j:Int) (n:Nat)=true:=ltB_t (by omega)
   have hw:=inc_i (j:=j) (by omega)
   have a1:=hq1 j hjn
   obtain ⟨i,k,a2,a3⟩:=hix j hjn
   have a4:=hx5 j hjn
   have a5:=hx8 j hjn
   have a6:=hwr j hjn
   rw [hd] at a4
   have a7:∀ kk,indexAddrA Tryz.prog 32 (.slice b k0 1 n c ex) (.int kk (j:Int))=some (.ptr b (k0+j)):=fun kk=>by
     rw [ia32,if_pos ⟨by omega,by omega,rfl⟩,Int.toNat_natCast,Nat.mul_one]
   rw [el34_0]
   simp -implicitDefEqProofs only [b34_0,Tryz.f34,aP,hlen,h0,h8,h133,h134,hlt,hw,a1,a2,a3,a4,a5,a6,a7,st21,↓ev_tail plr34_20,r5,↓evLd,nck,↓cbT,↓cbF,↓evDn,evUp,eu,sevalprocAttr]
   generalize hX:EvC Tryz.prog C0 W0 _ _ _=Z
   have key:∀ (tm1:List AV),EvC Tryz.prog C0 W0 pl34 l34_0 (tm1,HK (j+1))=Z->tm1.length=163->tm1.getD 0 uA=.ptr q 0->tm1.getD 8 uA=.ptr p 0->tm1.getD 133 uA=I n->tm1.getD 134 uA=I ((j+1:Nat):Int)->tm1.getD 4 uA=tm.getD 4 uA->∃ X,Z=some (.exit 1,(X,HK n))/\X.length=163/\X.getD 8 uA=.ptr p 0/\X.getD 4 uA=tm.getD 4 uA:=by
     intro tm1 h hl1 h0 h8 h133 h134 h4
     obtain ⟨X,he,b1,b2,b3⟩:=ih (j+1) tm1 (by omega) (by omega) hl1 h0 h8 h133 h134
     exact ⟨X,h.symm.trans he,b1,b2,b3.trans h4⟩
   exact key _ hX (by simp only [ls,hlen]) (by simp only [hlen,h0,gB,sevalprocAttr]) (by simp only [hlen,h8,gB,sevalprocAttr]) (by simp only [hlen,h133,gB,sevalprocAttr]) (by simp only [hlen,h134,gB,sevalprocAttr]) (by simp only [hlen,gB,sevalprocAttr])
theorem spl_snoc:∀ (vs:List AV) (cs:List AV) (k:Nat) (v:AV),spl cs k (vs++[v])=(spl cs k vs).set (k+vs.length) v
 | [],cs,k,v=>rfl
 | w::vs,cs,k,v=>by
   rw [List.cons_append,spl,spl_snoc vs,spl,List.length_cons,show k+1+vs.length=k+(vs.length+1) by omega]
theorem set_obj {K:AH} {b:Nat} {o:AObj} (h:K[b]? =some o):K.set b o=K:=by
 refine List.ext_getElem? fun i=>?_
 rw [List.getElem?_set]
 split
 · rename_i e
   subst e
   rw [if_pos (lt_of_get h),h]
 · rfl
theorem QueR.bufS {S K:AH} {q a:Nat} {ws:List AV} {vc vm vs:AV} {f:Con} {cs:List Cod} {ss:List (List Itm)} {ad:List Nat} {m:List (List Int)} {rc:List Bool} (h:QueR S K q a ws vc vm vs f cs ss ad m rc) {d:Nat} (hd:d < m.length):∃ i k,(∀ kk,indexAddrA Tryz.prog 24 vm (.int kk (d:Int))=some (.ptr i k))/\rdCells S i k 1=some [ws.getD d uA]:=by
 have hdw:d < ws.length:=by rw [h.lw]; exact hd
 obtain ⟨i,k,h1,h2⟩:=h.sm.ix d [ws.getD d uA] (by rw [List.getElem?_map,List.getElem?_eq_getElem hdw,getD_at hdw]; rfl)
 exact ⟨i,k,h1,h2⟩
theorem QueR.subW {S K:AH} {q a:Nat} {ws:List AV} {vc vm vs:AV} {f:Con} {cs:List Cod} {ss:List (List Itm)} {ad:List Nat} {m:List (List Int)} {rc:List Bool} (h:QueR S K q a ws vc vm vs f cs ss ad m rc) {K':AH} (hK:∀ b,(∀ w∈ws,blkO w≠some b)->K'[b]? =K[b]?):Sub S K':=fun b o hb ho=>by
 rw [hK b fun w hw e=>(h.gw w hw b e).ne hb ho rfl]
 exact h.sub b o hb ho
theorem QueR.fill {S K:AH} {q a:Nat} {ws:List AV} {vc vm vs:AV} {f:Con} {cs:List Cod} {ss:List (List Itm)} {ad:List Nat} {m:List (List Int)} {rc:List Bool} (h:QueR S K q a ws vc vm vs f cs ss ad m rc) {d:Nat} (hd:d < m.length) {w:Int} (hw:i32R w) :
   ∃ (HK:Nat->AH) (n:Nat),n=(bufOf m d).length/\HK 0=K/\(∀ j,j<=n->(HK j).length=K.length/\∀ b,(∀ w∈ws,blkO w≠some b)->(HK j)[b]? =K[b]?) /\
     (∀ j,j < n->∃ b k0 c ex,ws.getD d uA=.slice b k0 1 n c ex/\(∀ j,j < n->∀ L,wrCells (HK j++L) b (k0+j) [.int .i32 w]=some (HK (j+1)++L))) /\
     QueR S (HK n) q a ws vc vm vs f cs ss ad (m.set d (List.replicate (bufOf m d).length w)) rc:=by
 have od:=h.own d hd
 have hdw:d < ws.length:=by rw [h.lw]; exact hd
 have hmw:=getD_mem' hdw uA
 have hld:=od.length
 rw [Nat.mul_one] at hld
 have n2:(i32s (bufOf m d)).length=(bufOf m d).length:=by unfold i32s; simp
 by_cases h0:(bufOf m d).length=0
 · refine ⟨fun _=>K,0,h0.symm,rfl,fun j _=>⟨rfl,fun _ _=>rfl⟩,fun j hj=>absurd hj (by omega),?_⟩
   have e1:bufOf m d=[]:=List.length_eq_zero_iff.1 h0
   rw [h0,List.replicate_zero,set_same e1 hd]; exact h
 · have od':=od
   generalize hxd:i32s (bufOf m d)=xd at od'
   generalize hwd:ws.getD d uA=wd at od'
   cases od' with
   | nil=>rw [hxd] at n2; simp at n2; omega
   | «at» b k0 len c ex cs xs hb hi hl hc hrd =>
     rw [hwd,lenOfA_slice] at hld
     rw [Nat.mul_one] at hc
     have hbl:blkO (ws.getD d uA)=some b:=by rw [hwd]; rfl
     have hbb:=lt_of_get hi
     have hlen:len=(bufOf m d).length:=by omega
     have hone:∀ j,(List.replicate j (AV.int .i32 w)).all AV.one=true:=fun j=>by
       rw [List.all_eq_true]
       intro x hx
       rw [List.eq_of_mem_replicate hx]; rfl
     have hsl:∀ j,(spl cs k0 (List.replicate j (AV.int .i32 w))).length=cs.length:=fun j=>spl_length ..
     refine ⟨fun j=>K.set b (.cells (spl cs k0 (List.replicate j (.int .i32 w))) 21),(bufOf m d).length,rfl,?_,fun j _=>⟨List.length_set ..,fun e he=>List.getElem?_set_ne fun h2=>he _ hmw (by rw [hbl,h2])⟩,fun j hj=>⟨b,k0,c,ex,by rw [hlen],fun j hj L=>?_⟩,?_⟩
     · exact set_obj hi
     · have hg:(K.set b (.cells (spl cs k0 (List.replicate j (.int .i32 w))) 21))[b]? =_:=List.getElem?_set_self hbb
       rw [wr_objs hg (k:=k0+j) (xs:=[.int .i32 w]) (by rw [hsl]; simp; omega) rfl L,List.set_set]
       congr 2
       show K.set b (.cells ((spl cs k0 (List.replicate j (.int .i32 w))).set (k0+j) (.int .i32 w)) 21)=_
       have:=spl_snoc (List.replicate j (.int .i32 w)) cs k0 (.int .i32 w)
       rw [List.length_replicate,<-List.replicate_succ'] at this
       rw [<-this]
     · have hne:List.replicate (bufOf m d).length (AV.int .i32 w)≠[]:=fun e=>h0 (by simpa using congrArg List.length e)
       obtain ⟨i',k',len',cap',ex',K',hw',hwr',ho',hlen',hK'⟩:=od.write (j:=0) (new:=List.replicate (bufOf m d).length (.int .i32 w)) (by rw [List.length_replicate]; omega) hne (hone _)
       rw [hwd] at hw'
       cases hw'
       have e1:=hwr' []
       rw [wr_objs hi (k:=k0+0) (by rw [List.length_replicate]; omega) (hone _) []] at e1
       have e2:K.set b (.cells (spl cs k0 (List.replicate (bufOf m d).length (.int .i32 w))) 21)=K':=by
         have:=Option.some.inj e1
         simpa using this
       show QueR S (K.set b (.cells (spl cs k0 (List.replicate (bufOf m d).length (.int .i32 w))) 21)) q a ws vc vm vs f _ ss ad _ rc
       rw [e2]
       refine h.setB hd hbl hK' ?_ (by simp) (fun x hx=>by rw [List.eq_of_mem_replicate hx]; exact hw)
       have e3:spl (i32s (bufOf m d)) 0 (List.replicate (bufOf m d).length (.int .i32 w))=i32s (List.replicate (bufOf m d).length w):=by
         rw [spl_whole _ _ (by simp [i32s])]
         unfold i32s; rw [List.map_replicate]
       rw [<-e3]; exact ho'
theorem fill_loop' {HK:Nat->AH} {n q b k0 c:Nat} {ex:Bool} {vm:AV} {x:Itm} {p:Nat} {d:Nat} (hd:x.dst=d)
   (hq1:∀ j,j < n->rdCells (HK j) q 1 1=some [vm]) (hix:∀ j,j < n->∃ i k,(∀ kk,indexAddrA Tryz.prog 24 vm (.int kk (d:Int))=some (.ptr i k))/\rdCells (HK j) i k 1=some [.slice b k0 1 n c ex])
   (hx5:∀ j,j < n->rdCells (HK j) p 5 1=some [I x.dst]) (hx8:∀ j,j < n->rdCells (HK j) p 8 1=some [.int .i32 x.word]) (hwr:∀ j,j < n->wrCells (HK j) b (k0+j) [.int .i32 x.word]=some (HK (j+1))) (hn:n < 2 ^ 60)
   {tm:List AV} {H0:AH} {Z:Option (AExit × St)} (hX:EvC Tryz.prog C0 W0 pl34 l34_0 (tm,H0)=Z) (hH0:H0=HK 0) (hlen:tm.length=163) (h0:tm.getD 0 uA=.ptr q 0) (h8:tm.getD 8 uA=.ptr p 0) (h133:tm.getD 133 uA=I n) (h134:tm.getD 134 uA=I ((0:Nat):Int)) :
   ∃ X,Z=some (.exit 1,(X,HK n))/\X.length=163/\X.getD 8 uA=.ptr p 0/\X.getD 4 uA=tm.getD 4 uA:=by
 subst hX hH0
 exact fill_loop (e:=0) (va:=.junk) hd hq1 hix hx5 hx8 hwr hn n 0 tm (by omega) (by omega) hlen h0 h8 h133 h134
theorem do_fill {S K:AH} {q a:Nat} {ws:List AV} {vc vm vs:AV} {f:Con} {cs:List Cod} {ss:List (List Itm)} {ad:List Nat} {m:List (List Int)} {rc:List Bool} (h:QueR S K q a ws vc vm vs f cs ss ad m rc) {x:Itm} {va:AV} (hac:va.cells=[va]) (hao:va.one=true) {tm:List AV} (hlen:tm.length=163) (h0:tm.getD 0 uA=.ptr q 0) (h8:tm.getD 8 uA=.ptr (K.length+16) 0) (hk:x.kind=2) (hf:(0<=x.dst/\x.dst.toNat < m.length)/\i32R x.word):∃ tm' Kb,EvC Tryz.prog C0 W0 pl34 P34_6 (tm,K++[.fresh,.fresh,.fresh,.fresh,.fresh,.fresh,.fresh,.fresh,.fresh,.fresh,.fresh,.fresh,.fresh,.fresh,.fresh,.fresh,.cells (rowX x va) 34,.fresh])=some (.normal,(tm',Kb++[.fresh,.fresh,.fresh,.fresh,.fresh,.fresh,.fresh,.fresh,.fresh,.fresh,.fresh,.fresh,.fresh,.fresh,.fresh,.fresh,.cells (rowX x va) 34,.fresh]))/\tm'.length=163/\tm'.getD 4 uA=tm.getD 4 uA/\tm'.getD 8 uA=.ptr (Kb.length+16) 0/\QueR S Kb q a ws vc vm vs f cs ss ad (m.set x.dst.toNat (List.replicate (bufOf m x.dst.toNat).length x.word)) rc/\Kb.length=K.length/\(∀ b,b≠q->(∀ w∈ws,blkO w≠some b)->Kb[b]? =K[b]?):=by
 obtain ⟨kind,code,grid,block,src,dst,ev,args,word⟩:=x
 simp only at hk hf ⊢
 subst hk
 have e0:eqB 2 0=false:=rfl
 have e1:eqB 2 1=false:=rfl
 have e2:eqB 2 2=true:=rfl
 have e3:eqB 2 3=false:=rfl
 obtain ⟨⟨f1,f2⟩,f3⟩:=hf
 obtain ⟨d,rfl⟩:∃ d:Nat,dst=d:=⟨dst.toNat,by omega⟩
 rw [Int.toNat_natCast] at f2 ⊢
 obtain ⟨HK,n,hn,hH0,hHl,hHw,hQ⟩:=h.fill f2 f3
 obtain ⟨i1,k1,hix1,hrd1⟩:=h.buf f2
 have hq1:∀ L,rdCells (K++L) q 1 1=some [vm]:=fun L=>by have:=h.view.cell (Agree.refl K) L 1 (x:=vm) rfl; rwa [Nat.zero_add] at this
 have hln:∀ G,lenA Tryz.prog 32 G (ws.getD d uA)=some (I n):=fun G=>by rw [hn]; exact sl32 (h.own d f2).s32 G
 have hnb:n<=256:=by rw [hn]; exact h.nb _ (bufOf_mem f2)
 have hqw:∀ w∈ws,blkO w≠some q:=fun w hw=>(h.qw w hw).1
 simp -implicitDefEqProofs only [P34_6,Tryz.f34,aP,hlen,h0,h8,rowX,r5,↓evLd,nck,e0,e1,e2,e3,hq1,hix1,hrd1,hln,plr34_17,↓cbT,↓cbF,↓evDn,evUp,eu,sevalprocAttr]
 generalize hX:EvC Tryz.prog C0 W0 _ (Code.loop _) _=Z
 have hKl:∀ j,j<=n->(HK j).length=K.length:=fun j hj=>(hHl j hj).1
 have hbox:∀ j,j<=n->∀ k c,rdCells (HK j++([.fresh,.fresh,.fresh,.fresh,.fresh,.fresh,.fresh,.fresh,.fresh,.fresh,.fresh,.fresh,.fresh,.fresh,.fresh,.fresh,.cells [I 2,I code,I grid,I block,I src,I d,I ev,va,.int .i32 word] 34,.fresh]:AH)) (K.length+16) k c=if k+c<=9 then some ((([I 2,I code,I grid,I block,I src,I d,I ev,va,.int .i32 word]:List AV).drop k).take c) else none:=fun j hj k c=>by
   rw [<-hKl j hj,rd_app]; rfl
 have hqj:∀ j,j<=n->∀ L,rdCells (HK j++L) q 1 1=some [vm]:=fun j hj L=>by
   have e:(HK j)[q]? =K[q]?:=(hHl j hj).2 q hqw
   have:=hq1 []
   rw [List.append_nil] at this
   unfold rdCells at this ⊢
   rw [List.getElem?_append_left (by rw [hKl j hj]; exact lt_of_get h.kq),e]; exact this
 by_cases hn0:n=0
 · subst hn0
   obtain ⟨X,he,x0,x8,x4⟩:=fill_loop' (HK:=fun _=>K++([.fresh,.fresh,.fresh,.fresh,.fresh,.fresh,.fresh,.fresh,.fresh,.fresh,.fresh,.fresh,.fresh,.fresh,.fresh,.fresh,.cells [I 2,I code,I grid,I block,I src,I d,I ev,va,.int .i32 word] 34,.fresh]:AH)) (n:=0) (q:=q) (b:=0) (k0:=0) (c:=0) (ex:=true) (vm:=vm) (x:=⟨2,code,grid,block,src,d,ev,args,word⟩) (p:=K.length+16) (d:=d) rfl (fun j hj=>absurd hj (by omega)) (fun j hj=>absurd hj (by omega)) (fun j hj=>absurd hj (by omega)) (fun j hj=>absurd hj (by omega)) (fun j hj=>absurd hj (by omega)) (by omega) hX rfl (by simp only [ls,hlen]) (by simp only [hlen,h0,gB,sevalprocAttr]) (by simp only [hlen,h8,gB,sevalprocAttr]) (by simp only [hlen,gB,sevalprocAttr]) (by simp only [hlen,gB,sevalprocAttr]; try rfl)
   simp only [hlen,gB,sevalprocAttr] at x4
   subst he
   simp -implicitDefEqProofs only [x0,x8,x4,↓cbT,↓cbF,↓evDn,evUp,eu,sevalprocAttr]
   exact ⟨_,K,rfl,x0,x4,x8,by rw [hH0] at hQ; exact hQ,rfl,fun b _ _=>rfl⟩
 · obtain ⟨b,k0,c,ex,hsl,hwr⟩:=hHw 0 (by omega)
   obtain ⟨i2,k2,hix2,hrd2⟩:=h.bufS f2
   obtain ⟨X,he,x0,x8,x4⟩:=fill_loop' (HK:=fun j=>HK j++([.fresh,.fresh,.fresh,.fresh,.fresh,.fresh,.fresh,.fresh,.fresh,.fresh,.fresh,.fresh,.fresh,.fresh,.fresh,.fresh,.cells [I 2,I code,I grid,I block,I src,I d,I ev,va,.int .i32 word] 34,.fresh]:AH)) (n:=n) (q:=q) (b:=b) (k0:=k0) (c:=c) (ex:=ex) (vm:=vm) (x:=⟨2,code,grid,block,src,d,ev,args,word⟩) (p:=K.length+16) (d:=d) rfl (fun j hj=>hqj j (by omega) _) (fun j hj=>⟨i2,k2,hix2,by rw [<-hsl]; exact ((h.subW (hHl j (by omega)).2).appR _).rd hrd2⟩) (fun j hj=>by rw [hbox j (by omega)]; rfl) (fun j hj=>by rw [hbox j (by omega)]; rfl) (fun j hj=>hwr j hj _) (by omega) hX (by rw [hH0]) (by simp only [ls,hlen]) (by simp only [hlen,h0,gB,sevalprocAttr]) (by simp only [hlen,h8,gB,sevalprocAttr]) (by simp only [hlen,gB,sevalprocAttr]) (by simp only [hlen,gB,sevalprocAttr]; try rfl)
   simp only [hlen,gB,sevalprocAttr] at x4
   subst he
   simp -implicitDefEqProofs only [x0,x8,x4,↓cbT,↓cbF,↓evDn,evUp,eu,sevalprocAttr]
   exact ⟨_,HK n,rfl,x0,x4,by rw [hKl n (Nat.le_refl _)]; exact x8,hQ,hKl n (Nat.le_refl _),fun b _ h2=>(hHl n (Nat.le_refl _)).2 b h2⟩
theorem do_any {S K:AH} {q a:Nat} {ws:List AV} {vc vm vs:AV} {f:Con} {cs:List Cod} {ss:List (List Itm)} {ad:List Nat} {m:List (List Int)} {rc:List Bool} (h:QueR S K q a ws vc vm vs f cs ss ad m rc) {x:Itm} {va:AV} (hac:va.cells=[va]) (hao:va.one=true) {tm:List AV} (hlen:tm.length=163) (h0:tm.getD 0 uA=.ptr q 0) (h8:tm.getD 8 uA=.ptr (K.length+16) 0) (hf:FitM m x):∃ tm' Kb,EvC Tryz.prog C0 W0 pl34 P34_6 (tm,K++[.fresh,.fresh,.fresh,.fresh,.fresh,.fresh,.fresh,.fresh,.fresh,.fresh,.fresh,.fresh,.fresh,.fresh,.fresh,.fresh,.cells (rowX x va) 34,.fresh])=some (.normal,(tm',Kb++[.fresh,.fresh,.fresh,.fresh,.fresh,.fresh,.fresh,.fresh,.fresh,.fresh,.fresh,.fresh,.fresh,.fresh,.fresh,.fresh,.cells (rowX x va) 34,.fresh]))/\tm'.length=163/\tm'.getD 4 uA=tm.getD 4 uA/\tm'.getD 8 uA=.ptr (Kb.length+16) 0/\QueR S Kb q a ws vc vm vs f cs ss ad (doM m x) (doR rc x)/\Kb.length=K.length/\(∀ b,b≠q->(∀ w∈ws,blkO w≠some b)->Kb[b]? =K[b]?):=by
 by_cases h1:x.kind=1
 · have:=do_copy h hac hao hlen h0 h8 h1 (hf.k1 h1)
   rw [show doM m x=m.set x.dst.toNat (bufOf m x.src.toNat) from by unfold doM; rw [if_pos h1],show doR rc x=rc from by unfold doR; rw [if_neg (by omega)]]
   exact this
 · by_cases h2:x.kind=2
   · have:=do_fill h hac hao hlen h0 h8 h2 ⟨hf.k2 h2,hf.w⟩
     rw [show doM m x=m.set x.dst.toNat (List.replicate (bufOf m x.dst.toNat).length x.word) from by unfold doM; rw [if_neg h1,if_pos h2],show doR rc x=rc from by unfold doR; rw [if_neg (by omega)]]
     exact this
   · by_cases h3:x.kind=3
     · have:=do_rec h hac hao hlen h0 h8 h3 (hf.k3 h3)
       rw [show doM m x=m from by unfold doM; rw [if_neg h1,if_neg h2],show doR rc x=rc.set x.ev.toNat true from by unfold doR; rw [if_pos h3]]
       exact this
     · have:=do_wait h hac hao hlen h0 h8 ⟨hf.k0,h1,h2,h3⟩ trivial
       rw [show doM m x=m from by unfold doM; rw [if_neg h1,if_neg h2],show doR rc x=rc from by unfold doR; rw [if_neg h3]]
       exact this
theorem do_any' {S K:AH} {q a:Nat} {ws:List AV} {vc vm vs:AV} {f:Con} {cs:List Cod} {ss:List (List Itm)} {ad:List Nat} {m:List (List Int)} {rc:List Bool} (h:QueR S K q a ws vc vm vs f cs ss ad m rc) {x:Itm} {va:AV} (hac:va.cells=[va]) (hao:va.one=true) {tm:List AV} (hlen:tm.length=163) (h0:tm.getD 0 uA=.ptr q 0) (h8:tm.getD 8 uA=.ptr (K.length+16) 0) (hf:FitM m x) {Z:Option (AExit × St)} (hZ:EvC Tryz.prog C0 W0 pl34 P34_6 (tm,K++[.fresh,.fresh,.fresh,.fresh,.fresh,.fresh,.fresh,.fresh,.fresh,.fresh,.fresh,.fresh,.fresh,.fresh,.fresh,.fresh,.cells (rowX x va) 34,.fresh])=Z):∃ tm' Kb,Z=some (.normal,(tm',Kb++[.fresh,.fresh,.fresh,.fresh,.fresh,.fresh,.fresh,.fresh,.fresh,.fresh,.fresh,.fresh,.fresh,.fresh,.fresh,.fresh,.cells (rowX x va) 34,.fresh]))/\tm'.length=163/\tm'.getD 4 uA=tm.getD 4 uA/\tm'.getD 8 uA=.ptr (Kb.length+16) 0/\QueR S Kb q a ws vc vm vs f cs ss ad (doM m x) (doR rc x)/\Kb.length=K.length/\(∀ b,b≠q->(∀ w∈ws,blkO w≠some b)->Kb[b]? =K[b]?):=by
 subst hZ
 exact do_any h hac hao hlen h0 h8 hf
theorem do_tail' {K:AH} {x:Itm} {va:AV} {r:Nat} (hac:va.cells=[va]) (hao:va.one=true) (hr:∀ L row,row.length=9->row.all AV.one=true->wrCells (K++L) r 0 row=some (K.set r (.cells row 34)++L))
   (h32:∀ L,Ev Tryz.prog C0 W0 32 [va] (K++L)=some (cloneV 1 x.args.length va (K.length+L.length),K++(L++cloneL 21 va (i32s x.args)))) {tm:List AV} {Z:Option (AExit × St)} (hZ:EvC Tryz.prog C0 W0 pl34 T34 (tm,K++[.fresh,.fresh,.fresh,.fresh,.fresh,.fresh,.fresh,.fresh,.fresh,.fresh,.fresh,.fresh,.fresh,.fresh,.fresh,.fresh,.cells (rowX x va) 34,.fresh])=Z) (hlen:tm.length=163) (h4:tm.getD 4 uA=.ptr r 0) (h8:tm.getD 8 uA=.ptr (K.length+16) 0) :
   ∃ tm' L row,Z=some (.ret,(tm',K.set r (.cells row 34)++L))/\tm'.length=163/\tm'.getD 4 uA=.ptr r 0/\tm'.getD 5 uA=I 0/\row.length=9:=by
 subst hZ
 exact do_tail hac hao hr h32 hlen h4 h8
theorem Sub.gone {S K:AH} (h:Sub S K) {r:Nat} (hr:K.length<=r):Gone S r:=(gone_ge hr).sub h
theorem not_end {ss:List (List Itm)} {ad:List Nat} {rc:List Bool} {s:Nat} (hs:s∈readyS ss ad rc ss.length):endB ss ad rc=false:=by
 obtain ⟨hl,hok⟩:=readyS_mem hs
 have hk:=okS_lt hok
 unfold endB
 rw [Bool.or_eq_false_iff]
 refine ⟨?_,by cases h:readyS ss ad rc ss.length with | nil=>rw [h] at hs; simp at hs | cons _ _=>rfl⟩
 have hm:(strAt ss s).length - ad.getD s 0∈leftS ss ad ss.length:=List.mem_map.2 ⟨s,List.mem_range.2 hl,rfl⟩
 have:=le_sum_mem _ _ hm
 simp; omega
theorem ev34 {S K:AH} {q a:Nat} {ws:List AV} {vc vm vs:AV} {f:Con} {cs:List Cod} {ss:List (List Itm)} {ad:List Nat} {m:List (List Int)} {rc:List Bool} (h:QueR S K q a ws vc vm vs f cs ss ad m rc) {s:Nat} (hs:s∈readyS ss ad rc ss.length) (hf:FitM m (itmAt (strAt ss s) (ad.getD s 0))) (hal:∀ l∈ss,∀ x∈l,x.args.length<=1000):∃ v K',Ev Tryz.prog C0 W0 34 [.ptr q 0,I s] K=some (.tuple [v,I 0],K')/\QueR S K' q a ws vc vm vs f cs ss (doA ad s) (doM m (itmAt (strAt ss s) (ad.getD s 0))) (doR rc (itmAt (strAt ss s) (ad.getD s 0)))/\K.length<=K'.length:=by
 obtain ⟨hsl,hok⟩:=readyS_mem hs
 have hkl:=okS_lt hok
 have hV:=h.view
 have hq10:∀ L,rdCells (K++L) q 10 1=some [.slice a 0 1 ad.length ad.length true]:=fun L=>by have:=hV.cell (Agree.refl K) L 10 (x:=.slice a 0 1 ad.length ad.length true) rfl; rwa [Nat.zero_add] at this
 have h12:∀ L,Ev Tryz.prog C0 W0 12 [.ptr q 0] (K++L)=some (.tuple [.bool false,I (endE ss ad rc)],K++L):=fun L=>by
   have:=ev12 (hV.agree (Agree.app K L))
   rwa [not_end hs] at this
 obtain ⟨v,K1,he33,hA33,ho⟩:=ev33 (hV.agree (Agree.app K [AObj.cells [I 0,I 0,I 0,I 0,I 0,I 0,I 0,.nilSlice,.int .i32 0] 34]))
 have hAK:Agree K K1:=(Agree.app K _).trans hA33
 have hrl:=readyS_len ss ad rc ss.length
 have hfs:=h.fs
 have h63:Ev Tryz.prog C0 W0 63 [v,I s] K1=some (.bool true,K1):=by
   have:=ev63 ho.ints (by omega) (s:Int)
   rwa [(hasI_iff _ _).2 hs] at this
 have hQ1:=h.grow hAK
 have hV1:=hQ1.view
 have hq9:∀ L,rdCells (K1++L) q 9 1=some [vs]:=fun L=>by have:=hV1.cell (Agree.refl K1) L 9 (x:=vs) rfl; rwa [Nat.zero_add] at this
 have hq10':∀ L,rdCells (K1++L) q 10 1=some [.slice a 0 1 ad.length ad.length true]:=fun L=>by have:=hV1.cell (Agree.refl K1) L 10 (x:=.slice a 0 1 ad.length ad.length true) rfl; rwa [Nat.zero_add] at this
 obtain ⟨i0,k0,w0,hix0,hrd0s,hxs⟩:=h.s.at (Agree.refl S) hsl
 have hrd0:∀ L,rdCells (K1++L) i0 k0 1=some [w0]:=fun L=>by
   have:=hrd0s []
   rw [List.append_nil] at this
   exact (hQ1.sub.appR L).rd this
 obtain ⟨i2,k2,va,hix2,hrd2s,hsa2⟩:=hxs.at (Agree.refl S) hkl
 have hrd2:∀ L,rdCells (K1++L) i2 k2 9=some (rowX (itmAt (strAt ss s) (ad.getD s 0)) va):=fun L=>by
   have:=hrd2s []
   rw [List.append_nil] at this
   exact (hQ1.sub.appR L).rd this
 have hsa:=hsa2.sub hQ1.sub
 have hsal:s < ad.length:=by rw [h.la]; exact hsl
 have hia:∀ kk,indexAddrA Tryz.prog 30 (.slice a 0 1 ad.length ad.length true) (.int kk (s:Int))=some (.ptr a s):=fun kk=>by
   rw [ia30,if_pos ⟨by omega,by omega,rfl⟩,Int.toNat_natCast,Nat.mul_one,Nat.zero_add]
 have hra:∀ L,rdCells (K1++L) a s 1=some [I ((ad.getD s 0:Nat):Int)]:=fun L=>by
   rw [obj_rd hQ1.ka L,if_pos (by simp; omega)]
   rw [List.drop_eq_getElem_cons (by simp; omega),List.take_succ_cons,List.take_zero,List.getElem_map,getD_at hsal]
 obtain ⟨Ka,hwra,hQa,hKal,hKaf⟩:=hQ1.setA hsl hkl
 have hinc:IntKind.i64.wrap (((ad.getD s 0:Nat):Int)+1)=((ad.getD s 0+1:Nat):Int):=inc_i (by have:=hxs.n; omega)
 have hac:=hsa.cells
 have hao:=hsa.one
 have hlar:(itmAt (strAt ss s) (ad.getD s 0)).args.length<=1000:=hal _ (strAt_mem hsl) _ (itmAt_mem hkl)
 generalize itmAt (strAt ss s) (ad.getD s 0)=x at *
 simp only [rowX] at hrd2
 obtain ⟨tm,ht,g0,g1,g2⟩:=tm2 (.ptr q 0) (I s) 163 (by decide)
 rw [fe34,ht]
 rw [c34_eq]
 simp -implicitDefEqProofs only [P34_0,P34_1,P34_2,P34_3,P34_4,P34_5,Tryz.f34,aP,g0,g1,g2,show ∀ o,put none K o=some (K.length,K++[o]) from fun _=>rfl,z34w,st34,↓peq37,↓seq30,hq10,↓fc12,h12,↓fc33,he33,↓fc63,h63,↓EvC_plan plr34_8,p34_8,List.any_toArray',List.any_toArray,List.any_cons,List.any_nil,allocates,List.size_toArray,List.replicate_succ,List.replicate_zero,hq9,hq10',hix0,hrd0,hia,hra,hix2,hrd2,↓hac,↓hao,hinc,st3,hwra,r5,↓evLd,nck,↓cbT,↓cbF,↓evDn,evUp,eu,sevalprocAttr,↓rp_done,↓rp_take,↓rp_rd,↓rp_all,↓rp_join,↓ra_nil,↓ra_first,↓ra_next,↓quietO_none,↓quietO_guardB,↓readO_none,↓q_move,↓q_assign,↓q_field,↓q_fieldAddr,↓q_indexAddr,↓q_nilCheck,↓q_pickB,↓q_extract,put_slot,put_slot_app,List.length_append,Nat.add_assoc,stBeq_self,set_order,keepV_eq]
 generalize hB:EvC Tryz.prog C0 W0 _ P34_6 _=Z
 obtain ⟨tm1,Kb,he,t0,t4,t8,hQb,hKbl,hKbf⟩:=do_any' hQa (x:=x) (va:=va) hac hao (by simp only [ls,g0]) (by simp only [g0,g1,gB,sevalprocAttr]) (by simp only [g0,hKal,gB,sevalprocAttr]) hf hB
 subst he
 simp only [g0,gB,sevalprocAttr] at t4
 simp -implicitDefEqProofs only [↓cbT,↓cbF,↓evDn,evUp,eu,sevalprocAttr]
 have hql:=lt_of_get h.kq
 have hall:=lt_of_get h.ka
 have hwl:∀ w∈ws,blkO w≠some K.length:=fun w hw e=>by
   obtain ⟨i,hi,e1⟩:=List.mem_iff_getElem.1 hw
   have:=(own_blk (h.own i (by rw [<-h.lw]; exact hi)) (i:=K.length) (by rw [getD_at hi,e1]; exact e)).2
   omega
 have hkr:Kb[K.length]? =some (.cells [I 0,I 0,I 0,I 0,I 0,I 0,I 0,.nilSlice,.int .i32 0] 34):=by
   rw [hKbf _ (by omega) hwl,hKaf _ (by omega),hA33 K.length (by simp),List.getElem?_append_right (Nat.le_refl _),Nat.sub_self]; rfl
 have hr:∀ L row,row.length=9->row.all AV.one=true->wrCells (Kb++L) K.length 0 row=some (Kb.set K.length (.cells row 34)++L):=fun L row h1 h2=>by
   rw [wr_objs hkr (by rw [h1]; decide) h2 L,spl_whole _ _ (by rw [h1]; rfl)]
 have hsb:SlS 32 1 Kb va (x.args.map row1):=hsa2.sub hQb.sub
 have h32:=fun L=>ev32i hsb hlar L
 generalize hT:EvC Tryz.prog C0 W0 _ T34 _=Z
 obtain ⟨tm2,L,row,he,u0,u4,u5,hrow⟩:=do_tail' (x:=x) (va:=va) (r:=K.length) hac hao hr h32 hT t0 t4 t8
 subst he
 have hbl:Kb.length=K1.length:=by rw [hKbl,hKal]
 have hK1l:K.length < K1.length:=by have:=hA33.len; rw [List.length_append] at this; simp at this; omega
 have hrd9:rdCells (Kb.set K.length (.cells row 34)++L) K.length 0 9=some row:=by
   rw [obj_rd (List.getElem?_set_self (by omega)) L,if_pos (by rw [hrow]; decide),List.drop_zero,List.take_of_length_le (by rw [hrow]; exact Nat.le_refl _)]
 refine ⟨.agg row,Kb.set K.length (.cells row 34)++L,?_,(hQb.setO (h.sub.gone (Nat.le_refl _)) (by omega) (by omega) hwl _).grow (Agree.app _ L),?_⟩
 · simp only [Option.bind_some,fr34,u4,u5,ld34,hrd9,Option.map_some]
 · rw [List.length_append,List.length_set]; omega
end Go.Dv
