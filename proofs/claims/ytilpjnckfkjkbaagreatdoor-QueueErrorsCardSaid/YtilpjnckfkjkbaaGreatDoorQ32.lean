/- Part 32 of the walks (own work). -/
import Derived.Test.YtilpjnckfkjkbaaGreatDoorQ31
set_option maxRecDepth 100000
set_option maxHeartbeats 4000000
set_option linter.unusedSimpArgs false
set_option linter.unusedVariables false
namespace Go.Dv
open Go.Proofs
attribute [local congr] bind_congr_first cb_congr condA_congr gd_congr br_congr
open Qu (off item? isRecB recs nxt aft aftTo bef)
def ordB (cs:List Cod) (ss:List (List Itm)):Bool:=allF (fun i=>allF (fun j=>ordP cs ss i j) i 0) ss.flatten.length 0
theorem ord_in' {G:AH} {cs:List Cod} {m:List (List Int)} {ss:List (List Itm)} {vc iv av:AV} {a:Nat} (hc:CodsR G cs vc) (hcp:∀ c∈cs,c.params.length<=6) (hI:ItmsR G ss.flatten iv) (hrt:∀ x∈ss.flatten,rightP cs m x=true) (haf:AftR G (aft (qS ss)) av) (hic:iv.cells=[iv]/\iv.one=true) (hac:av.cells=[av]/\av.one=true) (hfew:ss.flatten.length<=1000) (hpa:G[a]? =some (.cells [iv,av] 93)) {i c:Nat} {w va:AV} (hiN:i < ss.flatten.length) (hcx:G[c]? =some (.cells (rowX (itmAt ss.flatten i) va) 34)) (hsx:SlS 32 1 G va ((itmAt ss.flatten i).args.map row1)) (hw:∀ j kk,j < i->indexAddrA Tryz.prog 31 w (.int kk (j:Nat))=indexAddrA Tryz.prog 31 iv (.int kk (j:Nat))) {tm:List AV} {K:AH} {Z:Option (AExit × St)} (hX:EvC Tryz.prog C0 W0 plN l18_0 (tm,K)=Z) (hA:Agree G K) (hlen:tm.length=64) (h0:tm.getD 0 uA=vc) (h9:tm.getD 9 uA=.ptr a 0) (h10:tm.getD 10 uA=I (i:Nat)) (h11:tm.getD 11 uA=.ptr c 0) (h25:tm.getD 25 uA=iv) (h26:tm.getD 26 uA=I (ss.flatten.length:Nat)) (h27:tm.getD 27 uA=I (i:Nat)) (h35:tm.getD 35 uA=w) (h36:tm.getD 36 uA=I (i:Nat)) (h37:tm.getD 37 uA=I ((0:Nat):Int)) :
   (allF (fun j=>ordP cs ss i j) i 0=true->∃ X K1,Z=some (.exit 2,(X,K1))/\X.length=64/\Agree G K1/\X.getD 0 uA=vc/\X.getD 9 uA=.ptr a 0/\X.getD 10 uA=I (i:Nat)/\X.getD 11 uA=.ptr c 0/\X.getD 25 uA=iv/\X.getD 26 uA=I (ss.flatten.length:Nat)/\X.getD 27 uA=I (i:Nat)/\X.getD 35 uA=w/\X.getD 36 uA=I (i:Nat))/\(allF (fun j=>ordP cs ss i j) i 0=false->∃ Y K1,Z=some (.ret,(Y,K1))/\Y.getD 6 uA=.bool false/\Y.getD 7 uA=I 0):=by
 subst hX
 exact ord_in hc hcp hI hrt haf hic hac hfew hpa hiN hcx hsx hw i 0 tm K rfl (Nat.zero_le _) hA hlen h0 h9 h10 h11 h25 h26 h27 h35 h36 h37
theorem ord_out {G:AH} {cs:List Cod} {m:List (List Int)} {ss:List (List Itm)} {vc iv av:AV} {a:Nat} (hc:CodsR G cs vc) (hcp:∀ c∈cs,c.params.length<=6) (hI:ItmsR G ss.flatten iv) (hrt:∀ x∈ss.flatten,rightP cs m x=true) (haf:AftR G (aft (qS ss)) av) (hic:iv.cells=[iv]/\iv.one=true) (hac:av.cells=[av]/\av.one=true) (hfew:ss.flatten.length<=1000) (hpa:G[a]? =some (.cells [iv,av] 93)) (hiv:(iv=.nilSlice/\ss.flatten.length=0)∨∃ b,iv=.slice b 0 9 ss.flatten.length ss.flatten.length false):∀ (d i:Nat) (tm:List AV) (K:AH),ss.flatten.length - i=d->i<=ss.flatten.length->Agree G K->tm.length=64->tm.getD 0 uA=vc->tm.getD 9 uA=.ptr a 0->tm.getD 25 uA=iv->tm.getD 26 uA=I (ss.flatten.length:Nat)->tm.getD 27 uA=I ((i:Nat):Int) ->
   (allF (fun i=>allF (fun j=>ordP cs ss i j) i 0) ss.flatten.length i=true->∃ X K1,EvC Tryz.prog C0 W0 plN l18_1 (tm,K)=some (.exit 0,(X,K1))/\X.length=64)/\(allF (fun i=>allF (fun j=>ordP cs ss i j) i 0) ss.flatten.length i=false->∃ Y K1,EvC Tryz.prog C0 W0 plN l18_1 (tm,K)=some (.ret,(Y,K1))/\Y.getD 6 uA=.bool false/\Y.getD 7 uA=I 0):=by
 intro d
 induction d with
 | zero =>
   intro i tm K hd hi hA hlen h0 h9 h25 h26 h27
   have hil:i=ss.flatten.length:=by omega
   subst hil
   have hlt:ltB (ss.flatten.length:Nat) (ss.flatten.length:Nat)=false:=ltB_f (by omega)
   rw [allF_end (Nat.le_refl _),el18_1]
   refine ⟨fun _=>?_,fun h=>(by cases h)⟩
   simp -implicitDefEqProofs only [b18_1,Tryz.f18,aP,hlen,h0,h9,h25,h26,h27,hlt,↓cbT,↓cbF,↓evDn,evUp,eu,sevalprocAttr]
   exact ⟨_,K,rfl,by simp only [ls,hlen]⟩
 | succ d ih =>
   intro i tm K hd hi hA hlen h0 h9 h25 h26 h27
   have hiN:i < ss.flatten.length:=by omega
   have hlt:ltB (i:Int) (ss.flatten.length:Nat)=true:=ltB_t (by omega)
   have hwi:=inc_i (j:=i) (by omega)
   obtain ⟨i0,k0,va,hix,hrd,hsx⟩:=hI.at hA hiN
   have hall:=allF_step (p:=(fun i=>allF (fun j=>ordP cs ss i j) i 0)) hiN
   obtain ⟨b,hb⟩:∃ b,iv=.slice b 0 9 ss.flatten.length ss.flatten.length false:=by
     rcases hiv with ⟨_,e⟩ | h
     · omega
     · exact h
   have hsl:=fun H=>sl31_hi H (i:=b) (k:=0) (l:=ss.flatten.length) (c:=ss.flatten.length) (n:=i) (e:=false) (by omega)
   have hln:=fun H=>ln31 H b 0 9 i ss.flatten.length false
   rw [<-hb] at hsl
   have hxc:=hsx.cells
   have hxo:=hsx.one
   have hpr:∀ L,rdCells (K++L) a 0 1=some [iv]:=fun L=>(hA.appR L).sub.rd (by unfold rdCells; rw [hpa]; rfl)
   have hput:∀ o,put none K o=some (K.length,K++[o]):=fun _=>rfl
   have hw:∀ j kk,j < i->indexAddrA Tryz.prog 31 (.slice b 0 9 i ss.flatten.length false) (.int kk (j:Nat))=indexAddrA Tryz.prog 31 iv (.int kk (j:Nat)):=fun j kk hj=>by
     rw [hb,ix31T.ia,ix31T.ia,if_pos ⟨by omega,by omega,rfl⟩,if_pos ⟨by omega,by omega,rfl⟩]
   have hA1:Agree G (K++[.cells (rowX (itmAt ss.flatten i) va) 34]):=hA.appR _
   have hin:=@ord_in' (K++[.cells (rowX (itmAt ss.flatten i) va) 34]) cs m ss vc iv av a (hc.agree hA1) hcp (hI.agree hA1) hrt (haf.sub hA1.sub) hic hac hfew (hA1.get hpa) i K.length (.slice b 0 9 i ss.flatten.length false) va hiN (by rw [List.getElem?_append_right (Nat.le_refl _),Nat.sub_self]; rfl) (hsx.sub hA1.sub) hw
   have hii:(fun j=>ordP cs ss i j)=(fun j=>ordP cs ss i j):=rfl
   rw [el18_1]
   rw [<-List.append_nil K]
   generalize hxe:itmAt ss.flatten i=x at *
   simp only [rowX] at hrd
   simp -implicitDefEqProofs only [b18_1,Tryz.f18,aP,hlen,h0,h9,h25,h26,h27,hlt,hix,hrd,z34w,st34,↓hxc,↓hxo,hput,hpr,fa93_0,hsl,hln,r5,↓evLd,nck,↓cbT,↓cbF,↓evDn,evUp,eu,sevalprocAttr]
   generalize hX:EvC Tryz.prog C0 W0 plN _ _=Z
   obtain ⟨hT,hF⟩:=hin hX (Agree.refl _) (by simp only [ls,hlen]) (by simp only [hlen,h0,gB,sevalprocAttr]; try rfl) (by simp only [hlen,h9,gB,sevalprocAttr]; try rfl) (by simp only [hlen,gB,sevalprocAttr]; try rfl) (by simp only [hlen,gB,sevalprocAttr]; try rfl) (by simp only [hlen,h25,gB,sevalprocAttr]; try rfl) (by simp only [hlen,h26,gB,sevalprocAttr]; try rfl) (by simp only [hlen,h27,gB,sevalprocAttr]; try rfl) (by simp only [hlen,gB,sevalprocAttr]; try rfl) (by simp only [hlen,gB,sevalprocAttr]; try rfl) (by simp only [hlen,gB,sevalprocAttr]; try rfl)
   cases hc1:allF (fun j=>ordP cs ss i j) i 0 with
   | false =>
     obtain ⟨Y,K1,e,y6,y7⟩:=hF hc1
     subst e
     rw [hall,hc1,Bool.false_and]
     refine ⟨fun h=>(by cases h),fun _=>?_⟩
     simp -implicitDefEqProofs only [b18_1,Tryz.f18,aP,hlen,h0,h9,h25,h26,h27,hlt,r5,↓evLd,nck,↓cbT,↓cbF,↓evDn,evUp,eu,sevalprocAttr]
     exact ⟨Y,K1,rfl,y6,y7⟩
   | true =>
     obtain ⟨X,K1,e,hXl,hA2,x0,x9,x10,x11,x25,x26,x27,x35,x36⟩:=hT hc1
     subst e
     rw [hall,hc1,Bool.true_and]
     simp -implicitDefEqProofs only [b18_1,Tryz.f18,aP,hlen,h0,h9,h25,h26,h27,hlt,hXl,x0,x9,x25,x26,x27,hwi,r5,↓evLd,nck,↓cbT,↓cbF,↓evDn,evUp,eu,sevalprocAttr]
     generalize hY:EvC Tryz.prog C0 W0 plN _ _=Z
     have key:∀ (tm1:List AV) (K1:AH),EvC Tryz.prog C0 W0 plN l18_1 (tm1,K1)=Z->Agree G K1->tm1.length=64->tm1.getD 0 uA=vc->tm1.getD 9 uA=.ptr a 0->tm1.getD 25 uA=iv->tm1.getD 26 uA=I (ss.flatten.length:Nat)->tm1.getD 27 uA=I ((i+1:Nat):Int)->(allF (fun i=>allF (fun j=>ordP cs ss i j) i 0) ss.flatten.length (i+1)=true->∃ X K1,Z=some (.exit 0,(X,K1))/\X.length=64)/\(allF (fun i=>allF (fun j=>ordP cs ss i j) i 0) ss.flatten.length (i+1)=false->∃ Y K1,Z=some (.ret,(Y,K1))/\Y.getD 6 uA=.bool false/\Y.getD 7 uA=I 0):=by
       intro tm1 K1 h hA1 hl1 h0 h9 h25 h26 h27
       rw [<-h]
       exact ih (i+1) tm1 K1 (by omega) (by omega) hA1 hl1 h0 h9 h25 h26 h27
     exact key _ _ hY (hA1.trans hA2) (by simp only [ls,hXl]) (by simp only [hXl,x0,gB,sevalprocAttr]) (by simp only [hXl,x9,gB,sevalprocAttr]) (by simp only [hXl,x25,gB,sevalprocAttr]) (by simp only [hXl,x26,gB,sevalprocAttr]) (by simp only [hXl,gB,sevalprocAttr])
theorem ord_out' {G:AH} {cs:List Cod} {m:List (List Int)} {ss:List (List Itm)} {vc iv av:AV} {a:Nat} (hc:CodsR G cs vc) (hcp:∀ c∈cs,c.params.length<=6) (hI:ItmsR G ss.flatten iv) (hrt:∀ x∈ss.flatten,rightP cs m x=true) (haf:AftR G (aft (qS ss)) av) (hic:iv.cells=[iv]/\iv.one=true) (hac:av.cells=[av]/\av.one=true) (hfew:ss.flatten.length<=1000) (hpa:G[a]? =some (.cells [iv,av] 93)) (hiv:(iv=.nilSlice/\ss.flatten.length=0)∨∃ b,iv=.slice b 0 9 ss.flatten.length ss.flatten.length false) {tm:List AV} {K:AH} {Z:Option (AExit × St)} (hX:EvC Tryz.prog C0 W0 plN l18_1 (tm,K)=Z) (hA:Agree G K) (hlen:tm.length=64) (h0:tm.getD 0 uA=vc) (h9:tm.getD 9 uA=.ptr a 0) (h25:tm.getD 25 uA=iv) (h26:tm.getD 26 uA=I (ss.flatten.length:Nat)) (h27:tm.getD 27 uA=I ((0:Nat):Int)) :
   (allF (fun i=>allF (fun j=>ordP cs ss i j) i 0) ss.flatten.length 0=true->∃ X K1,Z=some (.exit 0,(X,K1))/\X.length=64)/\(allF (fun i=>allF (fun j=>ordP cs ss i j) i 0) ss.flatten.length 0=false->∃ Y K1,Z=some (.ret,(Y,K1))/\Y.getD 6 uA=.bool false/\Y.getD 7 uA=I 0):=by
 subst hX
 exact ord_out hc hcp hI hrt haf hic hac hfew hpa hiv ss.flatten.length 0 tm K rfl (Nat.zero_le _) hA hlen h0 h9 h25 h26 h27
theorem ev18_bad {H:AH} {cs:List Cod} {m:List (List Int)} {ss:List (List Itm)} {vc vm vs:AV} (hc:CodsR H cs vc) (hm:MemR H m vm) (hs:StrsR H ss vs) (hk:checkP cs m ss plainC≠0):Ev Tryz.prog C0 W0 18 [vc,vm,vs] H=some (.tuple [.bool false,I (checkP cs m ss plainC)],H):=by
 obtain ⟨tm,ht,g0,g1,g2,g3⟩:=tm3 vc vm vs 64 (by decide)
 rw [fe18,ht]
 rw [<-List.append_nil (ro H)]
 have hH0:=Agree.app (ro H) [AObj.cells (rowF plainC) 27]
 have h26:=ev26 (hc.ro.agree hH0) (hm.ro.agree hH0) (hs.ro.agree hH0) plainC
 have h41:=ev41
 have hne:eqB (checkP cs m ss plainC) 0=false:=eqB_f hk
 generalize checkP cs m ss plainC=k at h26 hk hne ⊢
 simp only [rowF,plainC] at h26 h41
 simp -implicitDefEqProofs only [c18,Tryz.f18,aP,g0,g1,g2,g3,↓fc41,h41,↓fc26,h26,hne,r5,↓evLd,nck,↓cbT,↓cbF,↓evDn,evUp,eu,sevalprocAttr]
theorem ev18 {H:AH} {cs:List Cod} {m:List (List Int)} {ss:List (List Itm)} {vc vm vs:AV} (hc:CodsR H cs vc) (hm:MemR H m vm) (hs:StrsR H ss vs) (hk:checkP cs m ss plainC=0) (hg:Good cs m ss plainC):Ev Tryz.prog C0 W0 18 [vc,vm,vs] H=some (.tuple [.bool (ordB cs ss),I 0],H):=by
 obtain ⟨tm,ht,g0,g1,g2,g3⟩:=tm3 vc vm vs 64 (by decide)
 rw [fe18,ht]
 rw [<-List.append_nil (ro H)]
 have hH0:=Agree.app (ro H) [AObj.cells (rowF plainC) 27]
 have h26:=ev26 (hc.ro.agree hH0) (hm.ro.agree hH0) (hs.ro.agree hH0) plainC
 have h41:=ev41
 rw [hk] at h26
 have hq0:eqB 0 0=true:=rfl
 have hfew:ss.flatten.length<=1000:=by rw [List.length_flatten]; have:=hg.few; omega
 have hcp:∀ c∈cs,c.params.length<=6:=fun c hc=>(hg.cod c hc).1
 have hrt:∀ x∈ss.flatten,rightP cs m x=true:=fun x hx=>by
   obtain ⟨l,h1,h2⟩:=List.mem_flatten.1 hx
   exact hg.it l h1 x h2
 obtain ⟨iv,av,K,h42,hS,hlK,hI,haf,hic,hac,hiv⟩:=ev42 (hs.ro.agree hH0) hfew (fun l hl x hx hkx=>(hg.ev l hl x hx hkx).1)
 have hS0:Sub (ro H) K:=(hH0.sub).trans hS
 have hput:∀ o,put none K o=some (K.length,K++[o]):=fun _=>rfl
 have hic1:=hic.1
 have hac1:=hac.1
 have hic2:=hic.2
 have hac2:=hac.2
 have hA:=Agree.app K [AObj.cells [iv,av] 93]
 have hln:=hI.len
 have hout:=@ord_out' (K++[.cells [iv,av] 93]) cs m ss vc iv av K.length (hc.ro.sub (hS0.trans hA.sub)) hcp (hI.agree hA) hrt (haf.sub hA.sub) hic hac hfew (by rw [List.getElem?_append_right (Nat.le_refl _),Nat.sub_self]; rfl) hiv
 simp only [rowF,plainC] at h26 h41 h42
 rw [<-List.append_nil K] at h42
 simp -implicitDefEqProofs only [c18,Tryz.f18,aP,g0,g1,g2,g3,↓fc41,h41,↓fc26,h26,hq0,↓fc42,h42,z93,ld93,st93,↓hic1,↓hac1,↓hic2,↓hac2,hput,fa93_0,hln,r5,↓evLd,nck,↓cbT,↓cbF,↓evDn,evUp,eu,sevalprocAttr]
 generalize hX:EvC Tryz.prog C0 W0 plN _ _=Z
 obtain ⟨hT,hF⟩:=hout hX (Agree.refl _) (by simp only [ls,g0]) (by simp only [g0,g1,gB,sevalprocAttr]) (by simp only [g0,gB,sevalprocAttr]) (by simp only [g0,gB,sevalprocAttr]) (by simp only [g0,gB,sevalprocAttr]) (by simp only [g0,gB,sevalprocAttr]; try rfl)
 cases hB:ordB cs ss with
 | true =>
   obtain ⟨X,K1,e,hXl⟩:=hT hB
   subst e
   simp -implicitDefEqProofs only [c18,Tryz.f18,aP,hXl,r5,↓evLd,nck,↓cbT,↓cbF,↓evDn,evUp,eu,sevalprocAttr]
 | false =>
   obtain ⟨Y,K1,e,y6,y7⟩:=hF hB
   subst e
   simp -implicitDefEqProofs only [c18,Tryz.f18,aP,y6,y7,r5,↓evLd,nck,↓cbT,↓cbF,↓evDn,evUp,eu,sevalprocAttr]
end Go.Dv
namespace Go.Dv
open Go.Proofs
attribute [local congr] bind_congr_first cb_congr condA_congr gd_congr br_congr
theorem ia101 (i k es len cap:Nat) (ex:Bool) (kk:IntKind) (n:Int):indexAddrA Tryz.prog 101 (.slice i k es len cap ex) (.int kk n)=if 0<=n/\n < len/\1=es then some (.ptr i (k+n.toNat * es)) else none:=by kernel_rfl
theorem ln101 (H:AH) (i k es len cap:Nat) (ex:Bool):lenA Tryz.prog 101 H (.slice i k es len cap ex)=some (.int .i64 len):=by kernel_rfl
theorem ln101n (H:AH):lenA Tryz.prog 101 H .nilSlice=some (.int .i64 0):=by kernel_rfl
theorem ix101T:IxT 101 1:=⟨ln101n,ln101,ia101⟩
theorem at101:AppT Tryz.prog 101 (some 101) 3 1:=⟨by kernel_rfl,⟨I 0,by kernel_rfl,by kernel_rfl,by simp [AV.cells]⟩,by kernel_rfl,by kernel_rfl⟩
theorem ld101 (H:AH) (i k:Nat):ldA Tryz.prog 101 H i k=(rdCells H i k 1).bind (·.head?):=by kernel_rfl
theorem st101 (H:AH) (i k:Nat) (x:AV):stA Tryz.prog 101 H i k x=if x.cells.length=1 then wrCells H i k x.cells else none:=by kernel_rfl
theorem bs101k (s:Option Nat) (a:Int) (H:AH):buildSliceA Tryz.prog s 101 1 [(0,I a)] H=(put s H (.cells [I a] 3)).map fun p=>(.slice p.1 0 1 1 1 true,p.2):=by kernel_rfl
theorem sl101_hi (H:AH) {i k l c n:Nat} {e:Bool} (h:n<=c):sliceA Tryz.prog 101 H (.slice i k 1 l c e) none (some (I n)) none=some (.slice i k 1 n c e):=by
 have hu:Tryz.prog.underlying 101=some (.slice 3):=by kernel_rfl
 have h9:Tryz.prog.cellsOf 3=1:=by kernel_rfl
 have hin:Tryz.prog.info? 3=some ((Tryz.prog.info? 3).getD default):=by kernel_rfl
 unfold sliceA
 rw [hu]
 simp only [boundA,Int.natCast_nonneg,if_true,Int.toNat_natCast]
 rw [if_pos ⟨Nat.zero_le _,h,h9⟩,hin]
 simp only [Option.map_some,Nat.zero_mul,Nat.add_zero,Nat.sub_zero]
theorem callA_invoke {P:Program} {C:Cfg P} {slot:Option Nat} {ev:Operand->Option AV} {H:AH} (o:Oper) (r:Operand) (name:String) (xs:Array Operand) (ats:Array TypeId):callA P C slot ev o ⟨.invoke r name,xs,ats⟩ H=(ev r).bind fun rv=>(evL ev xs.toList).bind fun ys =>
   match rv with
   | .iface t v=>(methA P C t v name H).bind fun m=>(P.funcs[m.1]?).bind fun fn=>if fn.body.isSome then some (.enter m.1 (m.2::ys),H) else none
   | _=>none:=rfl
theorem u3:Tryz.prog.underlying 3=some (.int .i64):=by kernel_rfl
theorem aop_mk3 {C:Cfg Tryz.prog} (slot:Option Nat) (ev:Operand->Option AV) (dst:Option Tmp) (ty:TypeId) (pos:String) (after:Array Edge) (g:Option (Nat × Bool)) (H:AH) (x:Operand):aop Tryz.prog C slot ev ⟨dst,.makeInterface 3 x,ty,pos,after,g⟩ H=(ev x).bind fun v=>some (.val (.iface 3 v),H):=by
 unfold aop
 simp only [u3]
theorem aop_mk100 {C:Cfg Tryz.prog} (slot:Option Nat) (ev:Operand->Option AV) (dst:Option Tmp) (ty:TypeId) (pos:String) (after:Array Edge) (g:Option (Nat × Bool)) (H:AH) (x:Operand):aop Tryz.prog C slot ev ⟨dst,.makeInterface 100 x,ty,pos,after,g⟩ H=(ev x).bind fun v=>some (.val (.iface 100 v),H):=by
 have h:Tryz.prog.underlying 100=some (.pointer 101):=by kernel_rfl
 unfold aop
 simp only [h]
def ta:AV->Option Int
 | .iface t (.int k n)=>if t=3/\k=.i64 then some n else none
 | _=>none
theorem ta_3 (n:Int):ta (.iface 3 (I n))=some n:=rfl
theorem ta_iff {v:AV} {n:Int} (h:ta v=some n):v=.iface 3 (I n):=by
 unfold ta at h
 split at h
 · split at h
   · rename_i c; obtain ⟨rfl,rfl⟩:=c; cases h; rfl
   · cases h
 · cases h
theorem aop_ta {C:Cfg Tryz.prog} (slot:Option Nat) (ev:Operand->Option AV) (dst:Option Tmp) (ty:TypeId) (pos:String) (after:Array Edge) (g:Option (Nat × Bool)) (H:AH) (x:Operand) :
   aop Tryz.prog C slot ev ⟨dst,.typeAssert x 20 3 false,ty,pos,after,g⟩ H=(ev x).bind fun xv=>match ta xv with
     | some n=>some (.val (I n),H)
     | none=>(pureA Tryz.prog ev ⟨dst,.typeAssert x 20 3 false,ty,pos,after,g⟩).map fun n=>(n,H):=by
 have hd:aop Tryz.prog C slot ev ⟨dst,.typeAssert x 20 3 false,ty,pos,after,g⟩ H=(pureA Tryz.prog ev ⟨dst,.typeAssert x 20 3 false,ty,pos,after,g⟩).map fun n=>(n,H):=rfl
 rw [hd]
 cases hx:ev x with
 | none=>rw [pureA_none1 (x:=x) (by simp [Op.operands]) hx]; rfl
 | some xv =>
   simp only [Option.bind_some]
   cases ht:ta xv with
   | none=>rfl
   | some n =>
     have:=ta_iff ht
     subst this
     have hp:pureA Tryz.prog ev ⟨dst,.typeAssert x 20 3 false,ty,pos,after,g⟩=some (.val (I n)):=by
       simp [pureA,notSelect,Op.operands,hx,toV,execOp,rhoOf,pureRun,Instr.typeAssert,underlying,program,u3,ofV_int,bind,Sem.bind,pure]
     rw [hp]; rfl
structure HpR (K:AH) (hb:Nat) (v:AV) (T:List Nat):Prop where
 cell:K[hb]? =some (.cells [v] 101)
 own:Own 0 K 1 3 v (iv1 T)
 ne:blkO v≠some hb
def Fr (hb:Nat) (v v':AV) (K K':AH):Prop:=K.length<=K'.length/\(∀ c,c < K.length->c≠hb->blkO v≠some c->K'[c]? =K[c]?)/\∀ i,blkO v'=some i->blkO v=some i∨K.length<=i
theorem Fr.trans {hb:Nat} {v v' v2:AV} {K K' K2:AH} (h:Fr hb v v' K K') (k:Fr hb v' v2 K' K2):Fr hb v v2 K K2:=
 ⟨Nat.le_trans h.1 k.1,fun c hc h1 h2=>by
   rw [k.2.1 c (Nat.lt_of_lt_of_le hc h.1) h1 fun e=>by
     rcases h.2.2 c e with e2 | e2
     · exact h2 e2
     · omega]
   exact h.2.1 c hc h1 h2,fun i hi=>by
   rcases k.2.2 i hi with e | e
   · exact h.2.2 i e
   · exact .inr (Nat.le_trans h.1 e)⟩
theorem HpR.sl {K:AH} {hb:Nat} {v:AV} {T:List Nat} (h:HpR K hb v T):SlS 101 1 K v (ints T):=Own.slsG ix101T (by decide) (by rw [ints_flat]; exact h.own) (ints_len T)
theorem HpR.rd {K:AH} {hb:Nat} {v:AV} {T:List Nat} (h:HpR K hb v T):rdCells K hb 0 1=some [v]:=by unfold rdCells; rw [h.cell]; rfl
theorem HpR.rdL {K:AH} {hb:Nat} {v:AV} {T:List Nat} (h:HpR K hb v T) (L:AH):rdCells (K++L) hb 0 1=some [v]:=(Agree.app K L).sub.rd h.rd
theorem num_at {K:AH} {v:AV} {T:List Nat} (hs:SlS 101 1 K v (ints T)) {j:Nat} (hj:j < T.length):∃ i k,(∀ kk,indexAddrA Tryz.prog 101 v (.int kk (j:Int))=some (.ptr i k))/\rdCells K i k 1=some [I ((T.getD j 0:Nat):Int)]:=
 hs.ix j [I ((T.getD j 0:Nat):Int)] (by
   unfold ints
   rw [List.getElem?_map,List.getElem?_eq_getElem hj,getD_at hj]; rfl)
theorem num_len {K:AH} {v:AV} {T:List Nat} (hs:SlS 101 1 K v (ints T)) (G:AH):lenA Tryz.prog 101 G v=some (I (T.length:Nat)):=by
 have:=hs.len G
 rwa [show (ints T).length=T.length from by simp [ints]] at this
theorem ev49 {H:AH} {v:AV} {T:List Nat} (hs:SlS 101 1 H v (ints T)):Ev Tryz.prog C0 W0 49 [v] H=some (I (T.length:Nat),H):=by
 obtain ⟨tm,ht,g0,g1⟩:=tm1 v 5 (by decide)
 rw [fe49,ht]
 rw [<-List.append_nil (ro H)]
 have hl:=num_len hs
 simp -implicitDefEqProofs only [c49,Tryz.f49,aP,g0,g1,hl,r5,↓evLd,nck,↓cbT,↓cbF,↓evDn,evUp,eu,sevalprocAttr]
theorem ev350 {H:AH} {v:AV} {T:List Nat} (hs:SlS 101 1 H v (ints T)) {i j:Nat} (hi:i < T.length) (hj:j < T.length):Ev Tryz.prog C0 W0 350 [v,I (i:Nat),I (j:Nat)] H=some (.bool (ltB (T.getD i 0:Nat) (T.getD j 0:Nat)),H):=by
 obtain ⟨tm,ht,g0,g1,g2,g3⟩:=tm3 v (I (i:Nat)) (I (j:Nat)) 16 (by decide)
 rw [fe350,ht]
 rw [<-List.append_nil (ro H)]
 obtain ⟨i0,k0,a1,b1⟩:=num_at hs.ro hi
 obtain ⟨i1,k1,a2,b2⟩:=num_at hs.ro hj
 have b1:=fun L=>(Agree.app (ro H) L).sub.rd b1
 have b2:=fun L=>(Agree.app (ro H) L).sub.rd b2
 simp -implicitDefEqProofs only [c350,Tryz.f350,aP,g0,g1,g2,g3,plr350_1,a1,a2,b1,b2,r5,↓evLd,nck,↓cbT,↓cbF,↓evDn,evUp,eu,sevalprocAttr]
def swapL (T:List Nat) (i j:Nat):List Nat:=(T.set i (T.getD j 0)).set j (T.getD i 0)
theorem swapL_len (T:List Nat) (i j:Nat):(swapL T i j).length=T.length:=by unfold swapL; simp
theorem swapL_perm {T:List Nat} {i j:Nat} (hi:i < T.length) (hj:j < T.length):(swapL T i j).Perm T:=by
 have h:=Array.swap_perm (xs:=T.toArray) (i:=i) (j:=j) (by simpa using hi) (by simpa using hj)
 have h2:=Array.perm_iff_toList_perm.1 h
 rw [Array.toList_swap] at h2
 unfold swapL
 rw [getD_at hi,getD_at hj]
 simpa using h2
theorem iv1_set (T:List Nat) (i x:Nat):iv1 (T.set i x)=(iv1 T).set i (I (x:Int)):=by unfold iv1; rw [List.map_set]
theorem ev353 {b:Nat} {K:AH} {v:AV} {T:List Nat} (ho:Own b K 1 3 v (iv1 T)) {i j:Nat} (hi:i < T.length) (hj:j < T.length):∃ K',Ev Tryz.prog C0 W0 353 [v,I (i:Nat),I (j:Nat)] K=some (.tuple [],K')/\Own b K' 1 3 v (iv1 (swapL T i j))/\K'.length=K.length/\∀ c,blkO v≠some c->K'[c]? =K[c]?:=by
 obtain ⟨tm,ht,g0,g1,g2,g3⟩:=tm3 v (I (i:Nat)) (I (j:Nat)) 20 (by decide)
 rw [fe353,ht]
 have hs:SlS 101 1 K v (ints T):=Own.slsG ix101T (by decide) (by rw [ints_flat]; exact ho) (ints_len T)
 obtain ⟨i0,k0,a1,b1⟩:=num_at hs hi
 obtain ⟨i1,k1,a2,b2⟩:=num_at hs hj
 obtain ⟨q,k,len,cap,ex,K1,hv,w1,o1,l1,f1⟩:=ho.writeG (o:=i) (new:=[I ((T.getD j 0:Nat):Int)]) (by rw [iv1_len]; simp; omega) (by simp) rfl
 obtain ⟨q',k',len',cap',ex',K2,hv',w2,o2,l2,f2⟩:=o1.writeG (o:=j) (new:=[I ((T.getD i 0:Nat):Int)]) (by rw [spl_length,iv1_len]; simp; omega) (by simp) rfl
 rw [hv] at hv'
 cases hv'
 have hlen:=ho.length
 rw [hv,lenOfA_slice,iv1_len] at hlen
 have a1':∀ kk,indexAddrA Tryz.prog 101 v (.int kk (i:Int))=some (.ptr q (k+i)):=fun kk=>by
   rw [hv,ia101,if_pos ⟨by omega,by omega,rfl⟩,Int.toNat_natCast,Nat.mul_one]
 have a2':∀ kk,indexAddrA Tryz.prog 101 v (.int kk (j:Int))=some (.ptr q (k+j)):=fun kk=>by
   rw [hv,ia101,if_pos ⟨by omega,by omega,rfl⟩,Int.toNat_natCast,Nat.mul_one]
 have e1:=(a1 .i64).symm.trans (a1' .i64)
 have e2:=(a2 .i64).symm.trans (a2' .i64)
 cases e1
 cases e2
 have w1:=w1 []
 have w2:=w2 []
 rw [List.append_nil,List.append_nil] at w1 w2
 simp -implicitDefEqProofs only [c353,Tryz.f353,aP,g0,g1,g2,g3,↓EvC_plan plr353_0,p353_0,List.any_toArray',List.any_toArray,List.any_cons,List.any_nil,allocates,List.size_toArray,List.replicate_succ,List.replicate_zero,a1',a2',b1,b2,w1,w2,st3,r5,↓evLd,nck,↓cbT,↓cbF,↓evDn,evUp,eu,sevalprocAttr,↓rp_done,↓rp_take,↓rp_rd,↓rp_all,↓rp_join,↓ra_nil,↓ra_first,↓ra_next,↓quietO_none,↓quietO_guardB,↓readO_none,↓q_move,↓q_assign,↓q_field,↓q_fieldAddr,↓q_indexAddr,↓q_nilCheck,↓q_pickB,↓q_extract,put_slot,put_slot_app,List.length_append,Nat.add_assoc,stBeq_self,set_order,keepV_eq]
 refine ⟨K2,rfl,?_,by rw [l2,l1],fun c hc=>?_⟩
 · have e:iv1 (swapL T i j)=spl (spl (iv1 T) i [I ((T.getD j 0:Nat):Int)]) j [I ((T.getD i 0:Nat):Int)]:=by
     unfold swapL
     rw [iv1_set,iv1_set]; rfl
   rw [e]; exact o2
 · rw [f2 c fun e=>hc (by rw [hv,e]; rfl),f1 c fun e=>hc (by rw [hv,e]; rfl)]
theorem app_ownS {sT elem:TypeId} {xT:Option TypeId} {es B:Nat} (T:AppT Tryz.prog sT xT elem es) (hes:0 < es) {b:Nat} {K:AH} (hB:K.length=B) (hbB:b<=B) {v:AV} {xs:List AV} (h:Own b K es elem v xs) {new:List AV} (hn:new.length=es) (hone:new.all AV.one=true) (hg:growOk (Tryz.prog.bytesOf elem) (lenOfA v+1)=true)
   (s q:Nat) (L:AH) (hs:L[s]? =some .fresh) (hq:L[q]? =some (.cells new elem)) :
   ∃ v' K',appendA Tryz.prog (some (B+s)) sT xT v (.slice (B+q) 0 es 1 1 true) (K++L)=some (v',K')/\Own b K' es elem v' (xs++new)/\K'.length=K.length+L.length/\(∀ c,c < K.length->blkO v≠some c->K'[c]? =K[c]?)/\∀ i,blkO v'=some i->blkO v=some i∨i=B+s:=by
 obtain ⟨z,hz,hzl,hzn⟩:=T.z
 have hgq:(K++L)[B+q]? =some (.cells new elem):=by rw [List.getElem?_append_right (by omega),<-hB,Nat.add_sub_cancel_left]; exact hq
 have hrd:rdCells (K++L) (B+q) 0 (1 * es)=some new:=Ex.rd hgq (by omega)
 unfold appendA
 rw [if_neg (by rw [T.x]; simp),T.el,Option.bind_some,hz,Option.bind_some,T.sz]
 simp only [srcA,if_true,Option.bind_some,Nat.le_refl,hrd]
 rw [if_pos ⟨by rw [hzl,T.sz],hzn⟩]
 have hsl:=lt_of_get hs
 have hput:∀ (K1:AH) o,K1.length=B->put (some (B+s)) (K1++L) o=some (B+s,K1++L.set s o):=fun K1 o hl=>by
   unfold put
   simp only
   rw [List.getElem?_append_right (by omega),show B+s - K1.length=s by omega,hs]
   simp only
   rw [List.set_append_right _ _ (by omega),show B+s - K1.length=s by omega]
 have hnew:∀ (K1:AH) (m:Nat) (ys:List AV),K1.length=B->ys.length=m * es->Own b (K1++L.set s (.cells ys elem)) es elem (.slice (B+s) 0 es m m false) ys:=fun K1 m ys hl hm=>by
   have hg:(K1++L.set s (.cells ys elem))[B+s]? =some (.cells ys elem):=by
     rw [List.getElem?_append_right (by omega),show B+s - K1.length=s by omega,List.getElem?_set_self hsl]
   exact .at (B+s) 0 m m false ys ys (by omega) hg (Nat.le_refl _) (by omega) (Ex.rd hg hm)
 cases h with
 | nil =>
   simp only [Nat.one_ne_zero,if_false,lenOfA_nil,Nat.zero_add] at hg ⊢
   rw [if_pos hg,hput K _ hB]
   exact ⟨_,_,rfl,hnew K 1 new hB (by omega),by simp,fun c hc _=>List.getElem?_append_left hc,fun i hi=>by cases hi; exact .inr rfl⟩
 | «at» i k len cap ex cs xs hbi hi hl hc hx =>
   have hiK:=lt_of_get hi
   simp only [lenOfA_slice] at hg ⊢
   rw [if_pos trivial,if_neg (by omega)]
   have hxl:=rd_len hx
   have hold:xs=(cs.drop k).take (len * es)/\k+len * es<=cs.length:=by
     simp only [rdCells,hi] at hx
     split at hx
     · rename_i hle; cases hx; exact ⟨rfl,hle⟩
     · cases hx
   have hrk:rdCells (K++L) i k (len * es)=some xs:=(Agree.app K L).sub.rd hx
   have hsz:(xs++new).length=(len+1) * es:=by rw [List.length_append,hxl,hn,Nat.add_mul,Nat.one_mul]
   by_cases hroom:len+1<=cap
   · rw [if_pos hroom,if_pos hone]
     have hmul:(len+1) * es<=cap * es:=Nat.mul_le_mul_right _ hroom
     rw [Nat.add_mul,Nat.one_mul] at hmul
     have hfit:k+len * es+new.length<=cs.length:=by omega
     rw [wr_objs hi hfit hone L]
     refine ⟨_,_,rfl,.at i k (len+1) cap ex (spl cs (k+len * es) new) (xs++new) hbi (by rw [List.getElem?_append_left (by rw [List.length_set]; exact hiK),List.getElem?_set_self hiK]) hroom (by rw [spl_length]; exact hc) ?_,by rw [List.length_append,List.length_set],fun c hcl hne=>?_,fun j hj=>by cases hj; exact .inl rfl⟩
     · simp only [rdCells]
       rw [List.getElem?_append_left (by rw [List.length_set]; exact hiK),List.getElem?_set_self hiK]
       simp only
       rw [if_pos (by rw [spl_length,Nat.add_mul,Nat.one_mul]; omega),spl_append cs new _ hfit,hold.1]
       congr 1
       rw [List.append_assoc,List.drop_append_of_le_length (by simp; omega),List.drop_take]
       have e:k+len * es - k=len * es:=by omega
       rw [e,<-List.append_assoc,List.take_append_of_le_length (by rw [List.length_append,List.length_take,List.length_drop,hn,Nat.add_mul,Nat.one_mul]; omega)]
       apply List.take_of_length_le
       rw [List.length_append,List.length_take,List.length_drop,hn,Nat.add_mul,Nat.one_mul]; omega
     · rw [List.getElem?_append_left (by rw [List.length_set]; exact hcl),List.getElem?_set_ne fun e=>hne (by rw [<-e]; rfl)]
   · rw [if_neg hroom]
     cases ex with
     | true =>
       rw [if_pos rfl,if_pos hg,hrk,Option.bind_some,hput K _ hB]
       exact ⟨_,_,rfl,hnew K _ _ hB hsz,by simp,fun c hc _=>List.getElem?_append_left hc,fun j hj=>by cases hj; exact .inr rfl⟩
     | false =>
       rw [if_neg (by simp),List.getElem?_append_left hiK,hi]
       simp only
       rw [if_pos ⟨trivial,hone,hg⟩,hrk,Option.bind_some,List.set_append_left _ _ hiK,hput _ _ (by rw [List.length_set]; exact hB)]
       exact ⟨_,_,rfl,hnew _ _ _ (by rw [List.length_set]; exact hB) hsz,by rw [List.length_append,List.length_set,List.length_set],fun c hc hne=>by
         rw [List.getElem?_append_left (by rw [List.length_set]; exact hc),List.getElem?_set_ne fun e=>hne (by rw [<-e]; rfl)],fun j hj=>by cases hj; exact .inr rfl⟩
theorem ev351 {K:AH} {hb:Nat} {v:AV} {T:List Nat} {x:Nat} (h:HpR K hb v (T++[x])) (hN:T.length < 2 ^ 50):∃ v' K',Ev Tryz.prog C0 W0 351 [.ptr hb 0] K=some (.iface 3 (I (x:Nat)),K')/\HpR K' hb v' T/\Fr hb v v' K K':=by
 obtain ⟨tm,ht,g0,g1⟩:=tm1 (.ptr hb 0) 27 (by decide)
 rw [fe351,ht]
 have hrd:=h.rd
 have hln:=num_len h.sl
 obtain ⟨i0,k0,a1,b1⟩:=num_at h.sl (j:=T.length) (by simp)
 have hx:(T++[x]).getD T.length 0=x:=by simp [gde]
 rw [hx] at b1
 rw [List.length_append,List.length_singleton] at hln
 have hdec:IntKind.i64.wrap (((T.length+1:Nat):Int) - 1)=(T.length:Int):=by rw [show (((T.length+1:Nat):Int) - 1)=(T.length:Int) by omega]; exact IntWalk.i64_in _ (by omega)
 obtain ⟨i,k,len,cap,ex,hv,hcap⟩:=h.own.shN (by simp [iv1])
 have hol:=h.own.length
 rw [hv,lenOfA_slice,iv1_len,List.length_append,List.length_singleton] at hol
 have hsl:=fun H=>sl101_hi H (i:=i) (k:=k) (l:=len) (c:=cap) (n:=T.length) (e:=ex) (by omega)
 rw [<-hv] at hsl
 have hbl:=lt_of_get h.cell
 have hwr:wrCells K hb 0 [.slice i k 1 T.length cap ex]=some (K.set hb (.cells [.slice i k 1 T.length cap ex] 101)):=by
   have:=wr_objs h.cell (k:=0) (xs:=[.slice i k 1 T.length cap ex]) (by simp) rfl []
   rw [List.append_nil,List.append_nil] at this
   rw [this]; rfl
 simp -implicitDefEqProofs only [c351,Tryz.f351,aP,g0,g1,plr351_1,↓EvC_plan plr351_2,p351_2,List.any_toArray',List.any_toArray,List.any_cons,List.any_nil,allocates,List.size_toArray,List.replicate_succ,List.replicate_zero,hrd,hln,hdec,a1,b1,hsl,hwr,ld101,st101,↓aop_mk3,show ofV 6 Value.nilIface=some .nilIface from rfl,r5,↓evLd,nck,↓cbT,↓cbF,↓evDn,evUp,eu,sevalprocAttr,↓rp_done,↓rp_take,↓rp_rd,↓rp_all,↓rp_join,↓ra_nil,↓ra_first,↓ra_next,↓quietO_none,↓quietO_guardB,↓readO_none,↓q_move,↓q_assign,↓q_field,↓q_fieldAddr,↓q_indexAddr,↓q_nilCheck,↓q_pickB,↓q_extract,put_slot,put_slot_app,List.length_append,Nat.add_assoc,stBeq_self,set_order,keepV_eq]
 have hne:i≠hb:=fun e=>h.ne (by rw [hv,e]; rfl)
 refine ⟨.slice i k 1 T.length cap ex,_,rfl,⟨List.getElem?_set_self hbl,?_,fun e=>by cases e; exact hne rfl⟩,by rw [List.length_set]; exact Nat.le_refl _,fun c _ hc _=>List.getElem?_set_ne (Ne.symm hc),fun j hj=>by cases hj; exact .inl (by rw [hv]; rfl)⟩
 have ho:=h.own
 rw [hv] at ho
 have:=ho.shorter (m:=T.length) (by omega)
 rw [Nat.mul_one,iv1_snoc,List.take_left' (iv1_len T)] at this
 cases this with
 | «at» i k len cap ex cs xs hbi hi hl hc hx=>exact .at i k _ cap ex cs _ hbi (by rw [List.getElem?_set_ne (Ne.symm hne)]; exact hi) hl hc (by unfold rdCells; rw [List.getElem?_set_ne (Ne.symm hne)]; exact hx)
theorem ev352 {K:AH} {hb:Nat} {v:AV} {T:List Nat} (h:HpR K hb v T) (hN:T.length<=1000) (x:Nat):∃ v' K',Ev Tryz.prog C0 W0 352 [.ptr hb 0,.iface 3 (I (x:Nat))] K=some (.tuple [],K')/\HpR K' hb v' (T++[x])/\Fr hb v v' K K':=by
 obtain ⟨tm,ht,g0,g1,g2⟩:=tm2 (.ptr hb 0) (.iface 3 (I (x:Nat))) 13 (by decide)
 rw [fe352,ht]
 have hrd:=fun L=>h.rdL L
 have hbl:=lt_of_get h.cell
 have hol:=h.own.length
 rw [iv1_len,Nat.mul_one] at hol
 obtain ⟨v',K',happ,ho',hl',hfr,hbk⟩:=app_ownS at101 (by decide) rfl (Nat.zero_le _) h.own (new:=[I (x:Nat)]) rfl rfl (grow_le b3' (by omega)) 7 6 [.fresh,.fresh,.fresh,.fresh,.fresh,.fresh,.cells [I (x:Nat)] 3,.fresh,.fresh,.fresh] rfl rfl
 have hc':K'[hb]? =some (.cells [v] 101):=by rw [hfr hb hbl h.ne]; exact h.cell
 have hvo:=ho'.cells
 have hwr:wrCells K' hb 0 [v']=some (K'.set hb (.cells [v'] 101)):=by
   have:=wr_objs hc' (k:=0) (xs:=[v']) (by simp) (by simp [hvo.2]) []
   rw [List.append_nil,List.append_nil] at this
   rw [this]; rfl
 have hv1:=hvo.1
 simp -implicitDefEqProofs only [c352,Tryz.f352,aP,g0,g1,g2,↓EvC_plan plr352_0,p352_0,List.any_toArray',List.any_toArray,List.any_cons,List.any_nil,allocates,List.size_toArray,List.replicate_succ,List.replicate_zero,hrd,bs101k,happ,hwr,↓hv1,↓aop_ta,ta_3,ld101,st101,r5,↓evLd,nck,↓cbT,↓cbF,↓evDn,evUp,eu,sevalprocAttr,↓rp_done,↓rp_take,↓rp_rd,↓rp_all,↓rp_join,↓ra_nil,↓ra_first,↓ra_next,↓quietO_none,↓quietO_guardB,↓readO_none,↓q_move,↓q_assign,↓q_field,↓q_fieldAddr,↓q_indexAddr,↓q_nilCheck,↓q_pickB,↓q_extract,put_slot,put_slot_app,List.length_append,Nat.add_assoc,stBeq_self,set_order,keepV_eq]
 have hbv:blkO v'≠some hb:=fun e=>by
   rcases hbk hb e with e2 | e2
   · exact h.ne e2
   · omega
 have hbl':=lt_of_get hc'
 refine ⟨v',_,rfl,⟨List.getElem?_set_self hbl',?_,hbv⟩,?_,fun c hc h1 h2=>?_,fun i hi=>?_⟩
 · rw [iv1_snoc]
   exact ho'.other fun i k e len cap ex hv=>List.getElem?_set_ne fun e2=>hbv (by rw [hv,e2]; rfl)
 · rw [List.length_set,hl']; omega
 · rw [List.getElem?_set_ne (Ne.symm h1),hfr c hc h2]
 · rcases hbk i hi with e | e
   · exact .inl e
   · exact .inr (by omega)
end Go.Dv
