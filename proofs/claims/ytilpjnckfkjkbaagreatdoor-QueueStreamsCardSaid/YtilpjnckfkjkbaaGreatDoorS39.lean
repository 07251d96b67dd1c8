/- Part 39 of the walks (own work). -/
import Derived.Test.YtilpjnckfkjkbaaGreatDoorS38
import Derived.Test.YtilpjnckfkjkbaaGreatDoorRows
import Derived.Lib.LaidTab
import Derived.Stop.LaidErr
import Derived.MakeChecks
import Derived.WideShapes
import Derived.RowKit
open List renaming mem_cons→bH,mem_map→bY
open Nat renaming le_refl→ax
open Option renaming map_eq_some_iff→ah
open Go.Proofs.Tryz renaming prog→aa
set_option maxRecDepth 100000
set_option maxHeartbeats 4000000
set_option linter.unusedSimpArgs false
set_option linter.unusedVariables false
namespace Go.Dv
open Go.Proofs
theorem pick {α:Type} {f:α->List AV} {R:α->Prop}:∀ (rows:List (List AV)),(∀ r∈rows,∃ a,r=f a/\R a)->∃ l:List α,rows=l.map f/\∀ a∈l,R a
 | [],_=>⟨[],rfl,fun a h=>by simp at h⟩
 | r::rows,h=>by
   obtain ⟨a,rfl,ha⟩:=h r List.mem_cons_self
   obtain ⟨l,rfl,hl⟩:=pick rows fun q hq=>h q (List.mem_cons_of_mem _ hq)
   exact ⟨a::l,rfl,fun b hb=>by
     rcases bH.1 hb with rfl | hb
     · exact ha
     · exact hl b hb⟩
theorem SlA.sls {T es:Nat} (X:IxT T es) {G:AH} {v:AV} {rows:List (List AV)} (h:SlA G es v rows) (hr:∀ r∈rows,r.length=es):SlS T es G v rows:=by
 rcases h with ⟨rfl,rfl⟩ | ⟨i,c,rfl,hi⟩
 · exact kG X G
 · refine m6 X hr (by unfold okC; rw [hi]) ?_
   unfold ak
   rw [hi]
   simp only [dP hr,Nat.zero_add,ax,if_true,List.drop_zero]
   rw [List.take_of_length_le (by rw [dP hr]; exact ax _)]
theorem wf_i32 {n:Int} (h:(Lit.int .i32 n).wf=true):eD n:=by
 have:=bounds_i32 h
 exact ⟨this.1,by omega⟩
theorem mE {n k:Nat} (hk:0 < k) (h:n * k<=reachBytes):n < 2 ^ 50:=by
 have:=reachBytes_lt
 have:n * 1<=n * k:=Nat.mul_le_mul_left n hk
 omega
section
variable {H:Type} {enc:TypeId × Value->H}
theorem MY:aa.underlying 3=some (.int .i64):=by kernel_rfl
theorem MZ:aa.underlying 21=some (.int .i32):=by kernel_rfl
theorem HD:aa.underlying 4=some .bool:=by kernel_rfl
theorem MX:aa.underlying 9=some .string:=by kernel_rfl
theorem jg:gL enc aa 3 (iz .i64)/\gA (iz .i64):=⟨yM MY,Bn _⟩
theorem I6:gL enc aa 21 (iz .i32)/\gA (iz .i32):=⟨yM MZ,Bn _⟩
theorem I7:gL enc aa 4 zF/\gA zF:=⟨Dp HD,Gw⟩
theorem I5:gL enc aa 9 D9/\gA D9:=⟨Gq MX,Jh⟩
theorem mI {t e:TypeId} {Q:AH->List AV->Prop} (ht:aa.underlying t=some (.slice e)) (hc:0 < aa.cellsOf e) (h:gL enc aa e Q/\gA Q):gL enc aa t (QSl aa e Q)/\gA (QSl aa e Q):=⟨Bj ht hc h.2 h.1,OI h.2⟩
theorem mh {t:TypeId} {l:List (TypeId × (AH->List AV->Prop))} (hf:fieldsOf (aa.underlying t)=pC aa 0 (l.map (·.1))) (hne:l≠[]) (hc:aa.cellsOf t=qf aa (l.map (·.1))) (hp:∀ p∈l,gL enc aa p.1 p.2/\gA p.2):gL enc aa t (QL l)/\gA (QL l):=⟨z6 hf hne hc hp,EC fun p h=>(hp p h).2⟩
theorem all_nil {R:(TypeId × (AH->List AV->Prop))->Prop}:∀ p∈([]:List (TypeId × (AH->List AV->Prop))),R p:=fun p h=>by simp at h
theorem all_cons {R:(TypeId × (AH->List AV->Prop))->Prop} {x:TypeId × (AH->List AV->Prop)} {l:List (TypeId × (AH->List AV->Prop))} (h:R x) (hl:∀ p∈l,R p):∀ p∈x::l,R p:=fun p hp=>by
 rcases bH.1 hp with rfl | hp
 · exact h
 · exact hl p hp
noncomputable def AN:List (TypeId × (AH->List AV->Prop)):=[(9,D9),(4,zF)]
noncomputable def PI:List (TypeId × (AH->List AV->Prop)):=[(9,D9),(3,iz .i64)]
noncomputable def PH:List (TypeId × (AH->List AV->Prop)):=[(3,iz .i64),(3,iz .i64),(3,iz .i64),(3,iz .i64),(3,iz .i64),(21,iz .i32),(3,iz .i64),(3,iz .i64)]
noncomputable def vk:List (TypeId × (AH->List AV->Prop)):=[(9,D9),(62,QSl aa 74 (QL AN)),(63,QSl aa 77 (QL PI)),(3,iz .i64),(64,QSl aa 80 (QL PH))]
noncomputable def pV:List (TypeId × (AH->List AV->Prop)):=[(3,iz .i64),(3,iz .i64),(3,iz .i64),(3,iz .i64),(3,iz .i64),(3,iz .i64),(3,iz .i64),(32,QSl aa 21 (iz .i32)),(21,iz .i32)]
noncomputable def CG:List (TypeId × (AH->List AV->Prop)):=[(3,iz .i64),(4,zF),(3,iz .i64),(3,iz .i64),(3,iz .i64),(3,iz .i64),(3,iz .i64)]
noncomputable def FO:List (TypeId × (AH->List AV->Prop)):=[(22,QSl aa 66 (QL vk)),(24,QSl aa 32 (QSl aa 21 (iz .i32))),(25,QSl aa 31 (QSl aa 34 (QL pV))),(27,QL CG)]
theorem Ov:gL enc aa 74 (QL AN)/\gA (QL AN):=mh (by kernel_rfl) (by simp [AN]) (by kernel_rfl) (all_cons I5 (all_cons I7 all_nil))
theorem Uy:gL enc aa 77 (QL PI)/\gA (QL PI):=mh (by kernel_rfl) (by simp [PI]) (by kernel_rfl) (all_cons I5 (all_cons jg all_nil))
theorem Ux:gL enc aa 80 (QL PH)/\gA (QL PH):=mh (by kernel_rfl) (by simp [PH]) (by kernel_rfl) (all_cons jg (all_cons jg (all_cons jg (all_cons jg (all_cons jg (all_cons I6 (all_cons jg (all_cons jg all_nil))))))))
theorem RR:gL enc aa 66 (QL vk)/\gA (QL vk):=mh (by kernel_rfl) (by simp [vk]) (by kernel_rfl) (all_cons I5 (all_cons (mI (by kernel_rfl) (of_decide_eq_true (by kernel_rfl)) Ov) (all_cons (mI (by kernel_rfl) (of_decide_eq_true (by kernel_rfl)) Uy) (all_cons jg (all_cons (mI (by kernel_rfl) (of_decide_eq_true (by kernel_rfl)) Ux) all_nil)))))
theorem I8:gL enc aa 32 (QSl aa 21 (iz .i32))/\gA (QSl aa 21 (iz .i32)):=mI (by kernel_rfl) (of_decide_eq_true (by kernel_rfl)) I6
theorem RP:gL enc aa 34 (QL pV)/\gA (QL pV):=mh (by kernel_rfl) (by simp [pV]) (by kernel_rfl) (all_cons jg (all_cons jg (all_cons jg (all_cons jg (all_cons jg (all_cons jg (all_cons jg (all_cons I8 (all_cons I6 all_nil)))))))))
theorem RQ:gL enc aa 27 (QL CG)/\gA (QL CG):=mh (by kernel_rfl) (by simp [CG]) (by kernel_rfl) (all_cons jg (all_cons I7 (all_cons jg (all_cons jg (all_cons jg (all_cons jg (all_cons jg all_nil)))))))
theorem Ox:gL enc aa 22 (QSl aa 66 (QL vk))/\gA (QSl aa 66 (QL vk)):=mI (by kernel_rfl) (of_decide_eq_true (by kernel_rfl)) RR
theorem Uw:gL enc aa 24 (QSl aa 32 (QSl aa 21 (iz .i32)))/\gA (QSl aa 32 (QSl aa 21 (iz .i32))):=mI (by kernel_rfl) (of_decide_eq_true (by kernel_rfl)) I8
theorem Ow:gL enc aa 31 (QSl aa 34 (QL pV))/\gA (QSl aa 34 (QL pV)):=mI (by kernel_rfl) (of_decide_eq_true (by kernel_rfl)) RP
theorem RM:gL enc aa 25 (QSl aa 31 (QSl aa 34 (QL pV)))/\gA (QSl aa 31 (QSl aa 34 (QL pV))):=mI (by kernel_rfl) (of_decide_eq_true (by kernel_rfl)) Ow
theorem RN:gL enc aa 29 (QL FO)/\gA (QL FO):=mh (by kernel_rfl) (by simp [FO]) (by kernel_rfl) (all_cons Ox (all_cons Uw (all_cons RM (all_cons RQ all_nil))))
end
theorem SY:aa.cellsOf 21=1:=by kernel_rfl
theorem WU:aa.cellsOf 32=1:=by kernel_rfl
theorem WV:aa.cellsOf 31=1:=by kernel_rfl
theorem L0:aa.cellsOf 74=2:=by kernel_rfl
theorem SZ:aa.cellsOf 77=2:=by kernel_rfl
theorem SX:aa.cellsOf 80=8:=by kernel_rfl
theorem Px:aa.cellsOf 66=5:=by kernel_rfl
theorem Pw:aa.cellsOf 34=9:=by kernel_rfl
theorem Ei {G:AH} {avs:List AV} (h:QSl aa 21 (iz .i32) G avs):∃ (v:AV) (xs:List Int),avs=[v]/\SlS 32 1 G v (xs.map dh)/\xs.length < 2 ^ 50/\∀ a∈xs,eD a:=by
 obtain ⟨v,rows,rfl,hs,hr,hn⟩:=h
 rw [SY] at hs hr
 obtain ⟨l,rfl,hl⟩:=pick (f:=dh) (R:=eD) rows fun r h=>by
   obtain ⟨_,n,rfl,hw⟩:=hr r h
   exact ⟨n,rfl,wf_i32 hw⟩
 exact ⟨v,l,rfl,hs.sls yY (fun r h=>(hr r h).1),by
   have:=mE (of_decide_eq_true (by kernel_rfl)) hn
   simpa using this,hl⟩
theorem Q9 {G:AH} {avs:List AV} (h:QSl aa 32 (QSl aa 21 (iz .i32)) G avs):∃ v m,avs=[v]/\dc G m v:=by
 obtain ⟨v,rows,rfl,hs,hr,hn⟩:=h
 rw [WU] at hs hr
 obtain ⟨l,rfl,hl⟩:=pick (f:=fun p:List Int × AV=>[p.2]) (R:=fun p=>SlS 32 1 G p.2 (p.1.map dh)/\p.1.length < 2 ^ 50/\∀ a∈p.1,eD a) rows fun r h=>by
   obtain ⟨w,xs,rfl,h1,h2,h3⟩:=Ei (hr r h).2
   exact ⟨(xs,w),rfl,h1,h2,h3⟩
 refine ⟨v,l.map (·.1),rfl,⟨l,rfl,hs.sls E1 (fun r h=>(hr r h).1),fun p hp=>(hl p hp).1⟩,?_,fun b hb=>?_,fun b hb=>?_⟩
 · have:=mE (of_decide_eq_true (by kernel_rfl)) hn
   simpa using this
 · obtain ⟨p,hp,rfl⟩:=bY.1 hb
   exact (hl p hp).2.1
 · obtain ⟨p,hp,rfl⟩:=bY.1 hb
   exact (hl p hp).2.2
theorem Nv {G:AH} {avs:List AV} (h:QL pV G avs):∃ x va,avs=aU x va/\SlS 32 1 G va (x.args.map dh)/\x.args.length < 2 ^ 50/\(∀ a∈x.args,eD a)/\eD x.word:=by
 obtain ⟨_,_,rfl,⟨n0,rfl,_⟩,_,_,rfl,⟨n1,rfl,_⟩,_,_,rfl,⟨n2,rfl,_⟩,_,_,rfl,⟨n3,rfl,_⟩,_,_,rfl,⟨n4,rfl,_⟩,_,_,rfl,⟨n5,rfl,_⟩,_,_,rfl,⟨n6,rfl,_⟩,_,_,rfl,ha,_,_,rfl,⟨n8,rfl,w8⟩,rfl⟩:=h
 obtain ⟨va,xs,rfl,h1,h2,h3⟩:=Ei ha
 exact ⟨⟨n0,n1,n2,n3,n4,n5,n6,xs,n8⟩,va,rfl,h1,h2,h3,wf_i32 w8⟩
theorem HP {G:AH} {avs:List AV} (h:QSl aa 34 (QL pV) G avs):∃ v xs,avs=[v]/\dA G xs v:=by
 obtain ⟨v,rows,rfl,hs,hr,hn⟩:=h
 rw [Pw] at hs hr
 obtain ⟨l,rfl,hl⟩:=pick (f:=fun p:Itm × AV=>aU p.1 p.2) (R:=fun p=>SlS 32 1 G p.2 (p.1.args.map dh)/\p.1.args.length < 2 ^ 50/\(∀ a∈p.1.args,eD a)/\eD p.1.word) rows fun r h=>by
   obtain ⟨x,va,rfl,h1⟩:=Nv (hr r h).2
   exact ⟨(x,va),rfl,h1⟩
 refine ⟨v,l.map (·.1),rfl,⟨l,rfl,hs.sls mL (fun r h=>(hr r h).1),fun p hp=>(hl p hp).1⟩,?_,fun b hb=>?_,fun b hb=>?_,fun b hb=>?_⟩
 · have:=mE (of_decide_eq_true (by kernel_rfl)) hn
   simpa using this
 · obtain ⟨p,hp,rfl⟩:=bY.1 hb
   exact (hl p hp).2.1
 · obtain ⟨p,hp,rfl⟩:=bY.1 hb
   exact (hl p hp).2.2.1
 · obtain ⟨p,hp,rfl⟩:=bY.1 hb
   exact (hl p hp).2.2.2
theorem M5 {G:AH} {avs:List AV} (h:QSl aa 31 (QSl aa 34 (QL pV)) G avs):∃ v ss,avs=[v]/\da G ss v:=by
 obtain ⟨v,rows,rfl,hs,hr,hn⟩:=h
 rw [WV] at hs hr
 obtain ⟨l,rfl,hl⟩:=pick (f:=fun p:List Itm × AV=>[p.2]) (R:=fun p=>dA G p.1 p.2) rows fun r h=>by
   obtain ⟨w,xs,rfl,h1⟩:=HP (hr r h).2
   exact ⟨(xs,w),rfl,h1⟩
 refine ⟨v,l.map (·.1),rfl,⟨l,rfl,hs.sls BC (fun r h=>(hr r h).1),hl⟩,?_⟩
 have:=mE (of_decide_eq_true (by kernel_rfl)) hn
 simpa using this
theorem HJ {s:ByteArray} (h:s.size<=reachBytes):s.size < 2 ^ 60:=by have:=reachBytes_lt; omega
theorem Nx {G:AH} {avs:List AV} (h:QL vk G avs):∃ c vp vs vi,avs=bF c vp vs vi/\dO G c vp vs vi:=by
 obtain ⟨_,_,rfl,⟨nm,rfl,hnm⟩,_,_,rfl,⟨vp,rp,rfl,hp,hpr,hpn⟩,_,_,rfl,⟨vs,rs,rfl,hs,hsr,hsn⟩,_,_,rfl,⟨lo,rfl,_⟩,_,_,rfl,⟨vi,ri,rfl,hi,hir,hin⟩,rfl⟩:=h
 rw [L0] at hp hpr
 rw [SZ] at hs hsr
 rw [SX] at hi hir
 obtain ⟨ps,rfl,hps⟩:=pick (f:=iO) (R:=fun p=>p.name.size < 2 ^ 60) rp fun r h=>by
   obtain ⟨_,_,_,rfl,⟨s,rfl,h1⟩,_,_,rfl,⟨b,rfl⟩,rfl⟩:=hpr r h
   exact ⟨⟨s,b⟩,rfl,HJ h1⟩
 obtain ⟨ars,rfl,has⟩:=pick (f:=jS) (R:=fun p=>p.name.size < 2 ^ 60) rs fun r h=>by
   obtain ⟨_,_,_,rfl,⟨s,rfl,h1⟩,_,_,rfl,⟨b,rfl,_⟩,rfl⟩:=hsr r h
   exact ⟨⟨s,b⟩,rfl,HJ h1⟩
 obtain ⟨iis,rfl,his⟩:=pick (f:=ew) (R:=fun x=>eD x.imm) ri fun r h=>by
   obtain ⟨_,_,_,rfl,⟨n0,rfl,_⟩,_,_,rfl,⟨n1,rfl,_⟩,_,_,rfl,⟨n2,rfl,_⟩,_,_,rfl,⟨n3,rfl,_⟩,_,_,rfl,⟨n4,rfl,_⟩,_,_,rfl,⟨n5,rfl,w5⟩,_,_,rfl,⟨n6,rfl,_⟩,_,_,rfl,⟨n7,rfl,_⟩,rfl⟩:=hir r h
   exact ⟨⟨n0,n1,n2,n3,n4,n5,n6,n7⟩,rfl,wf_i32 w5⟩
 exact ⟨⟨nm,ps,ars,lo,iis⟩,vp,vs,vi,rfl,hp.sls Qb (fun r h=>(hpr r h).1),hs.sls Qa (fun r h=>(hsr r h).1),hi.sls P9 (fun r h=>(hir r h).1),by
   have:=mE (of_decide_eq_true (by kernel_rfl)) hpn
   simpa using this,by
   have:=mE (of_decide_eq_true (by kernel_rfl)) hsn
   simpa using this,by
   have:=mE (of_decide_eq_true (by kernel_rfl)) hin
   simpa using this,HJ hnm,hps,has,his⟩
theorem HQ {G:AH} {avs:List AV} (h:QSl aa 66 (QL vk) G avs):∃ v cs,avs=[v]/\cO G cs v:=by
 obtain ⟨v,rows,rfl,hs,hr,hn⟩:=h
 rw [Px] at hs hr
 obtain ⟨l,rfl,hl⟩:=pick (f:=fun p:Cod × AV × AV × AV=>bF p.1 p.2.1 p.2.2.1 p.2.2.2) (R:=fun p=>dO G p.1 p.2.1 p.2.2.1 p.2.2.2) rows fun r h=>by
   obtain ⟨c,vp,vs,vi,rfl,h1⟩:=Nx (hr r h).2
   exact ⟨(c,vp,vs,vi),rfl,h1⟩
 refine ⟨v,l.map (·.1),rfl,⟨l,rfl,hs.sls yZ (fun r h=>(hr r h).1),hl⟩,?_⟩
 have:=mE (of_decide_eq_true (by kernel_rfl)) hn
 simpa using this
theorem Nw {G:AH} {avs:List AV} (h:QL CG G avs):∃ f,avs=d8 f:=by
 obtain ⟨_,_,rfl,⟨n0,rfl,_⟩,_,_,rfl,⟨b,rfl⟩,_,_,rfl,⟨n2,rfl,_⟩,_,_,rfl,⟨n3,rfl,_⟩,_,_,rfl,⟨n4,rfl,_⟩,_,_,rfl,⟨n5,rfl,_⟩,_,_,rfl,⟨n6,rfl,_⟩,rfl⟩:=h
 exact ⟨⟨n0,b,n2,n3,n4,n5,n6⟩,rfl⟩
theorem Nu {G:AH} {avs:List AV} (h:QL FO G avs):∃ vc vm vs f cs m ss,avs=[vc,vm,vs]++d8 f/\cO G cs vc/\dc G m vm/\da G ss vs:=by
 obtain ⟨_,_,rfl,hc,_,_,rfl,hm,_,_,rfl,hs,_,_,rfl,hf,rfl⟩:=h
 obtain ⟨vc,cs,rfl,h1⟩:=HQ hc
 obtain ⟨vm,m,rfl,h2⟩:=Q9 hm
 obtain ⟨vs,ss,rfl,h3⟩:=M5 hs
 obtain ⟨f,rfl⟩:=Nw hf
 exact ⟨vc,vm,vs,f,cs,m,ss,by simp,h1,h2,h3⟩
end Go.Dv
namespace Go.Dv
open Go.Proofs Go.Proofs.YtilpjnckfkjkbaaGreatDoor
theorem Q2:(Rows.laid_strings_asciiSpace:DataW Unit)=Lib.tabData .u8 Lib.asciiSpaceTab:=by kernel_rfl
theorem Rw {W:World} (h:laidMetH aa [("unicode.White_Space",Rows.laid_unicode_White_Space),("strings.asciiSpace",Rows.laid_strings_asciiSpace)] W):nT 0 d4 W (fun b=>b < W.heap.size):=by
 rw [MakeChecks.laidMetH_plain _ _ _ (by kernel_rfl)] at h
 have h2:=h.tail
 rw [Q2] at h2
 have ht:Lib.TabIs aa W "strings.asciiSpace" .u8 Lib.asciiSpaceTab:=Lib.tabIs_of_head (g:=0) (t:=309) (e:=5) (n:=256) (by kernel_rfl) (by kernel_rfl) (by kernel_rfl) (by kernel_rfl) (by kernel_rfl) (by kernel_rfl) h2
 have hc:∀ i,i < Lib.asciiSpaceTab.length->W.cell? ⟨0,i,none⟩=some (.int .u8 (Lib.asciiSpaceTab.getD i 0)):=fun i hi=>ht.cell (by kernel_rfl) i hi
 refine ⟨(zq (hc 0 (by decide))).2,fun j v hj=>?_⟩
 unfold d4 at hj
 rw [List.getElem?_map,ah] at hj
 obtain ⟨n,hn,rfl⟩:=hj
 have hl:=aJ hn
 refine ⟨_,hc j hl,?_⟩
 rw [gde,hn]; rfl
theorem CX {H:Type} {P:Program} {ts:List TypeId} {ds:List (DataW H)} (h:(DataW.weightsEach P ts ds).all (·<=reachBytes)=true) {j:Nat} {t:TypeId} {d:DataW H} (ht:ts[j]? =some t) (hd:ds[j]? =some d):∀ z∈d.weights P t,z<=reachBytes:=fun z hz=>by
 have:=List.all_eq_true.1 h z (DataW.weights_mem_each ht hd z hz)
 simpa using this
theorem Gr {H:Type} {enc:TypeId × Value->H} {W:World} {us:Array Value} {d:DataW H} {p:List MemPlace} (hk:0 < W.heap.size) (h:DataW.Trod enc aa W 0 (fun _=>true) true 29 (.agg us) d p) (hz:∀ z∈d.weights aa 29,z<=reachBytes) :
   ∃ φ G vc vm vs f cs m ss,RdW W φ G/\VR φ (.agg ([vc,vm,vs]++d8 f)) (.agg us)/\cO G cs vc/\dc G m vm/\da G ss vs:=by
 obtain ⟨fuel,hf⟩:=h
 obtain ⟨φ,L,avs,h1,h2,h3,h4⟩:=RN.1 W 0 true fuel _ _ hf hz hk _ [] (RdW.nil W)
 obtain ⟨vc,vm,vs,f,cs,m,ss,rfl,hc,hm,hs⟩:=Nu h4
 exact ⟨φ,[]++L,vc,vm,vs,f,cs,m,ss,h1,⟨us,rfl,h3⟩,hc,hm,hs⟩
end Go.Dv
