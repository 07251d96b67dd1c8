/- Part 44 of the walks (own work). -/
import Derived.Test.YtilpjnckfkjkbaaGreatDoorU43
import Derived.Test.YtilpjnckfkjkbaaGreatDoorRows
import Derived.Lib.LaidTab
import Derived.Stop.LaidErr
import Derived.MakeChecks
import Derived.WideShapes
import Derived.RowKit
open List renaming mem_cons→bW,mem_map→bI
open Nat renaming le_refl→aw
open Option renaming map_eq_some_iff→ah
open Go.Proofs.Tryz renaming prog→aa
set_option maxRecDepth 100000
set_option maxHeartbeats 4000000
set_option linter.unusedSimpArgs false
set_option linter.unusedVariables false
namespace Go.Dv
open Go.Proofs
theorem pick {α:Type} {f:α->List AV} {R:α->Prop}:∀ (rows:List (List AV)),(∀ r∈rows,∃ a,r=f a/\R a)->∃ l:List α,rows=l.map f/\∀ a∈l,R a
 | [],_=>⟨[],rfl,fun a h=>by simp at h⟩
 | r::rows,h=>by
   obtain ⟨a,rfl,ha⟩:=h r List.mem_cons_self
   obtain ⟨l,rfl,hl⟩:=pick rows fun q hq=>h q (List.mem_cons_of_mem _ hq)
   exact ⟨a::l,rfl,fun b hb=>by
     rcases bW.1 hb with rfl | hb
     · exact ha
     · exact hl b hb⟩
theorem SlA.sls {T es:Nat} (X:IxT T es) {G:AH} {v:AV} {rows:List (List AV)} (h:SlA G es v rows) (hr:∀ r∈rows,r.length=es):SlS T es G v rows:=by
 rcases h with ⟨rfl,rfl⟩ | ⟨i,c,rfl,hi⟩
 · exact k5 X G
 · refine mI X hr (by unfold okC; rw [hi]) ?_;unfold ak;rw [hi];simp only [d5 hr,Nat.zero_add,aw,if_true,List.drop_zero];rw [List.take_of_length_le (by rw [d5 hr]; exact aw _)]
theorem wf_i32 {n:Int} (h:(Lit.int .i32 n).wf=true):fk n:=by have:=bounds_i32 h;exact ⟨this.1,by omega⟩
theorem nj {n k:Nat} (hk:0 < k) (h:n * k<=reachBytes):n < 2 ^ 50:=by have:=reachBytes_lt;have:n * 1<=n * k:=Nat.mul_le_mul_left n hk;omega
section
variable {H:Type} {enc:TypeId × Value->H}
theorem Ph:aa.underlying 3=some (.int .i64):=by kernel_rfl
theorem Pj:aa.underlying 21=some (.int .i32):=by kernel_rfl
theorem Jx:aa.underlying 4=some .bool:=by kernel_rfl
theorem Pg:aa.underlying 9=some .string:=by kernel_rfl
theorem jB:ie enc aa 3 (iT .i64)/\gP (iT .i64):=⟨zW Ph,Cu _⟩
theorem Ls:ie enc aa 21 (iT .i32)/\gP (iT .i32):=⟨zW Pj,Cu _⟩
theorem Lt:ie enc aa 4 AE/\gP AE:=⟨ES Jx,Iq⟩
theorem Lr:ie enc aa 9 FA/\gP FA:=⟨Ij Pg,LC⟩
theorem nt {t e:TypeId} {Q:AH->List AV->Prop} (ht:aa.underlying t=some (.slice e)) (hc:0 < aa.cellsOf e) (h:ie enc aa e Q/\gP Q):ie enc aa t (QSl aa e Q)/\gP (QSl aa e Q):=⟨Cr ht hc h.2 h.1,QX h.2⟩
theorem mN {t:TypeId} {l:List (TypeId × (AH->List AV->Prop))} (hf:fieldsOf (aa.underlying t)=pZ aa 0 (l.map (·.1))) (hne:l≠[]) (hc:aa.cellsOf t=qB aa (l.map (·.1))) (hp:∀ p∈l,ie enc aa p.1 p.2/\gP p.2):ie enc aa t (QL l)/\gP (QL l):=⟨Bd hf hne hc hp,F8 fun p h=>(hp p h).2⟩
theorem all_nil {R:(TypeId × (AH->List AV->Prop))->Prop}:∀ p∈([]:List (TypeId × (AH->List AV->Prop))),R p:=fun p h=>by simp at h
theorem all_cons {R:(TypeId × (AH->List AV->Prop))->Prop} {x:TypeId × (AH->List AV->Prop)} {l:List (TypeId × (AH->List AV->Prop))} (h:R x) (hl:∀ p∈l,R p):∀ p∈x::l,R p:=fun p hp=>by
 rcases bW.1 hp with rfl | hp
 · exact h
 · exact hl p hp
noncomputable def BQ:List (TypeId × (AH->List AV->Prop)):=[(9,FA),(4,AE)]
noncomputable def RY:List (TypeId × (AH->List AV->Prop)):=[(9,FA),(3,iT .i64)]
noncomputable def RX:List (TypeId × (AH->List AV->Prop)):=[(3,iT .i64),(3,iT .i64),(3,iT .i64),(3,iT .i64),(3,iT .i64),(21,iT .i32),(3,iT .i64),(3,iT .i64)]
noncomputable def wi:List (TypeId × (AH->List AV->Prop)):=[(9,FA),(62,QSl aa 74 (QL BQ)),(63,QSl aa 77 (QL RY)),(3,iT .i64),(64,QSl aa 80 (QL RX))]
noncomputable def qq:List (TypeId × (AH->List AV->Prop)):=[(3,iT .i64),(3,iT .i64),(3,iT .i64),(3,iT .i64),(3,iT .i64),(3,iT .i64),(3,iT .i64),(32,QSl aa 21 (iT .i32)),(21,iT .i32)]
noncomputable def DX:List (TypeId × (AH->List AV->Prop)):=[(3,iT .i64),(4,AE),(3,iT .i64),(3,iT .i64),(3,iT .i64),(3,iT .i64),(3,iT .i64)]
noncomputable def Hw:List (TypeId × (AH->List AV->Prop)):=[(22,QSl aa 66 (QL wi)),(24,QSl aa 32 (QSl aa 21 (iT .i32))),(25,QSl aa 31 (QSl aa 34 (QL qq))),(27,QL DX)]
theorem QK:ie enc aa 74 (QL BQ)/\gP (QL BQ):=mN (by kernel_rfl) (by simp [BQ]) (by kernel_rfl) (all_cons Lr (all_cons Lt all_nil))
theorem X8:ie enc aa 77 (QL RY)/\gP (QL RY):=mN (by kernel_rfl) (by simp [RY]) (by kernel_rfl) (all_cons Lr (all_cons jB all_nil))
theorem X7:ie enc aa 80 (QL RX)/\gP (QL RX):=mN (by kernel_rfl) (by simp [RX]) (by kernel_rfl) (all_cons jB (all_cons jB (all_cons jB (all_cons jB (all_cons jB (all_cons Ls (all_cons jB (all_cons jB all_nil))))))))
theorem Vg:ie enc aa 66 (QL wi)/\gP (QL wi):=mN (by kernel_rfl) (by simp [wi]) (by kernel_rfl) (all_cons Lr (all_cons (nt (by kernel_rfl) (of_decide_eq_true (by kernel_rfl)) QK) (all_cons (nt (by kernel_rfl) (of_decide_eq_true (by kernel_rfl)) X8) (all_cons jB (all_cons (nt (by kernel_rfl) (of_decide_eq_true (by kernel_rfl)) X7) all_nil)))))
theorem Lu:ie enc aa 32 (QSl aa 21 (iT .i32))/\gP (QSl aa 21 (iT .i32)):=nt (by kernel_rfl) (of_decide_eq_true (by kernel_rfl)) Ls
theorem Ve:ie enc aa 34 (QL qq)/\gP (QL qq):=mN (by kernel_rfl) (by simp [qq]) (by kernel_rfl) (all_cons jB (all_cons jB (all_cons jB (all_cons jB (all_cons jB (all_cons jB (all_cons jB (all_cons Lu (all_cons Ls all_nil)))))))))
theorem Vf:ie enc aa 27 (QL DX)/\gP (QL DX):=mN (by kernel_rfl) (by simp [DX]) (by kernel_rfl) (all_cons jB (all_cons Lt (all_cons jB (all_cons jB (all_cons jB (all_cons jB (all_cons jB all_nil)))))))
theorem QN:ie enc aa 22 (QSl aa 66 (QL wi))/\gP (QSl aa 66 (QL wi)):=nt (by kernel_rfl) (of_decide_eq_true (by kernel_rfl)) Vg
theorem X5:ie enc aa 24 (QSl aa 32 (QSl aa 21 (iT .i32)))/\gP (QSl aa 32 (QSl aa 21 (iT .i32))):=nt (by kernel_rfl) (of_decide_eq_true (by kernel_rfl)) Lu
theorem QM:ie enc aa 31 (QSl aa 34 (QL qq))/\gP (QSl aa 34 (QL qq)):=nt (by kernel_rfl) (of_decide_eq_true (by kernel_rfl)) Ve
theorem Vc:ie enc aa 25 (QSl aa 31 (QSl aa 34 (QL qq)))/\gP (QSl aa 31 (QSl aa 34 (QL qq))):=nt (by kernel_rfl) (of_decide_eq_true (by kernel_rfl)) QM
theorem Vd:ie enc aa 29 (QL Hw)/\gP (QL Hw):=mN (by kernel_rfl) (by simp [Hw]) (by kernel_rfl) (all_cons QN (all_cons X5 (all_cons Vc (all_cons Vf all_nil))))
end
theorem Wi:aa.cellsOf 21=1:=by kernel_rfl
theorem aaC:aa.cellsOf 32=1:=by kernel_rfl
theorem aaD:aa.cellsOf 31=1:=by kernel_rfl
theorem Of:aa.cellsOf 74=2:=by kernel_rfl
theorem Wj:aa.cellsOf 77=2:=by kernel_rfl
theorem Wh:aa.cellsOf 80=8:=by kernel_rfl
theorem RE:aa.cellsOf 66=5:=by kernel_rfl
theorem RD:aa.cellsOf 34=9:=by kernel_rfl
theorem FM {G:AH} {avs:List AV} (h:QSl aa 21 (iT .i32) G avs):∃ (v:AV) (xs:List Int),avs=[v]/\SlS 32 1 G v (xs.map dH)/\xs.length < 2 ^ 50/\∀ a∈xs,fk a:=by
 obtain ⟨v,rows,rfl,hs,hr,hn⟩:=h;rw [Wi] at hs hr;obtain ⟨l,rfl,hl⟩:=pick (f:=dH) (R:=fk) rows fun r h=>by obtain ⟨_,n,rfl,hw⟩:=hr r h;exact ⟨n,rfl,wf_i32 hw⟩
 exact ⟨v,l,rfl,hs.sls Ab (fun r h=>(hr r h).1),by have:=nj (of_decide_eq_true (by kernel_rfl)) hn;simpa using this,hl⟩
theorem Uz {G:AH} {avs:List AV} (h:QSl aa 32 (QSl aa 21 (iT .i32)) G avs):∃ v m,avs=[v]/\eo G m v:=by
 obtain ⟨v,rows,rfl,hs,hr,hn⟩:=h;rw [aaC] at hs hr;obtain ⟨l,rfl,hl⟩:=pick (f:=fun p:List Int × AV=>[p.2]) (R:=fun p=>SlS 32 1 G p.2 (p.1.map dH)/\p.1.length < 2 ^ 50/\∀ a∈p.1,fk a) rows fun r h=>by obtain ⟨w,xs,rfl,h1,h2,h3⟩:=FM (hr r h).2;exact ⟨(xs,w),rfl,h1,h2,h3⟩
 refine ⟨v,l.map (·.1),rfl,⟨l,rfl,hs.sls Gk (fun r h=>(hr r h).1),fun p hp=>(hl p hp).1⟩,?_,fun b hb=>?_,fun b hb=>?_⟩
 · have:=nj (of_decide_eq_true (by kernel_rfl)) hn;simpa using this
 · obtain ⟨p,hp,rfl⟩:=bI.1 hb;exact (hl p hp).2.1
 · obtain ⟨p,hp,rfl⟩:=bI.1 hb;exact (hl p hp).2.2
theorem PN {G:AH} {avs:List AV} (h:QL qq G avs):∃ x va,avs=aJ x va/\SlS 32 1 G va (x.args.map dH)/\x.args.length < 2 ^ 50/\(∀ a∈x.args,fk a)/\fk x.word:=by obtain ⟨_,_,rfl,⟨n0,rfl,_⟩,_,_,rfl,⟨n1,rfl,_⟩,_,_,rfl,⟨n2,rfl,_⟩,_,_,rfl,⟨n3,rfl,_⟩,_,_,rfl,⟨n4,rfl,_⟩,_,_,rfl,⟨n5,rfl,_⟩,_,_,rfl,⟨n6,rfl,_⟩,_,_,rfl,ha,_,_,rfl,⟨n8,rfl,w8⟩,rfl⟩:=h;obtain ⟨va,xs,rfl,h1,h2,h3⟩:=FM ha;exact ⟨⟨n0,n1,n2,n3,n4,n5,n6,xs,n8⟩,va,rfl,h1,h2,h3,wf_i32 w8⟩
theorem JF {G:AH} {avs:List AV} (h:QSl aa 34 (QL qq) G avs):∃ v xs,avs=[v]/\eD G xs v:=by
 obtain ⟨v,rows,rfl,hs,hr,hn⟩:=h;rw [RD] at hs hr;obtain ⟨l,rfl,hl⟩:=pick (f:=fun p:Itm × AV=>aJ p.1 p.2) (R:=fun p=>SlS 32 1 G p.2 (p.1.args.map dH)/\p.1.args.length < 2 ^ 50/\(∀ a∈p.1.args,fk a)/\fk p.1.word) rows fun r h=>by obtain ⟨x,va,rfl,h1⟩:=PN (hr r h).2;exact ⟨(x,va),rfl,h1⟩
 refine ⟨v,l.map (·.1),rfl,⟨l,rfl,hs.sls mV (fun r h=>(hr r h).1),fun p hp=>(hl p hp).1⟩,?_,fun b hb=>?_,fun b hb=>?_,fun b hb=>?_⟩
 · have:=nj (of_decide_eq_true (by kernel_rfl)) hn;simpa using this
 · obtain ⟨p,hp,rfl⟩:=bI.1 hb;exact (hl p hp).2.1
 · obtain ⟨p,hp,rfl⟩:=bI.1 hb;exact (hl p hp).2.2.1
 · obtain ⟨p,hp,rfl⟩:=bI.1 hb;exact (hl p hp).2.2.2
theorem Pq {G:AH} {avs:List AV} (h:QSl aa 31 (QSl aa 34 (QL qq)) G avs):∃ v ss,avs=[v]/\cT G ss v:=by
 obtain ⟨v,rows,rfl,hs,hr,hn⟩:=h;rw [aaD] at hs hr;obtain ⟨l,rfl,hl⟩:=pick (f:=fun p:List Itm × AV=>[p.2]) (R:=fun p=>eD G p.1 p.2) rows fun r h=>by obtain ⟨w,xs,rfl,h1⟩:=JF (hr r h).2;exact ⟨(xs,w),rfl,h1⟩
 refine ⟨v,l.map (·.1),rfl,⟨l,rfl,hs.sls CI (fun r h=>(hr r h).1),hl⟩,?_⟩;have:=nj (of_decide_eq_true (by kernel_rfl)) hn;simpa using this
theorem JB {s:ByteArray} (h:s.size<=reachBytes):s.size < 2 ^ 60:=by have:=reachBytes_lt; omega
theorem PQ {G:AH} {avs:List AV} (h:QL wi G avs):∃ c vp vs vi,avs=bO c vp vs vi/\eW G c vp vs vi:=by
 obtain ⟨_,_,rfl,⟨nm,rfl,hnm⟩,_,_,rfl,⟨vp,rp,rfl,hp,hpr,hpn⟩,_,_,rfl,⟨vs,rs,rfl,hs,hsr,hsn⟩,_,_,rfl,⟨lo,rfl,_⟩,_,_,rfl,⟨vi,ri,rfl,hi,hir,hin⟩,rfl⟩:=h;rw [Of] at hp hpr;rw [Wj] at hs hsr;rw [Wh] at hi hir;obtain ⟨ps,rfl,hps⟩:=pick (f:=jl) (R:=fun p=>p.name.size < 2 ^ 60) rp fun r h=>by obtain ⟨_,_,_,rfl,⟨s,rfl,h1⟩,_,_,rfl,⟨b,rfl⟩,rfl⟩:=hpr r h;exact ⟨⟨s,b⟩,rfl,JB h1⟩
 obtain ⟨ars,rfl,has⟩:=pick (f:=kp) (R:=fun p=>p.name.size < 2 ^ 60) rs fun r h=>by obtain ⟨_,_,_,rfl,⟨s,rfl,h1⟩,_,_,rfl,⟨b,rfl,_⟩,rfl⟩:=hsr r h;exact ⟨⟨s,b⟩,rfl,JB h1⟩
 obtain ⟨iis,rfl,his⟩:=pick (f:=eQ) (R:=fun x=>fk x.imm) ri fun r h=>by obtain ⟨_,_,_,rfl,⟨n0,rfl,_⟩,_,_,rfl,⟨n1,rfl,_⟩,_,_,rfl,⟨n2,rfl,_⟩,_,_,rfl,⟨n3,rfl,_⟩,_,_,rfl,⟨n4,rfl,_⟩,_,_,rfl,⟨n5,rfl,w5⟩,_,_,rfl,⟨n6,rfl,_⟩,_,_,rfl,⟨n7,rfl,_⟩,rfl⟩:=hir r h;exact ⟨⟨n0,n1,n2,n3,n4,n5,n6,n7⟩,rfl,wf_i32 w5⟩
 exact ⟨⟨nm,ps,ars,lo,iis⟩,vp,vs,vi,rfl,hp.sls Tx (fun r h=>(hpr r h).1),hs.sls Tw (fun r h=>(hsr r h).1),hi.sls Tv (fun r h=>(hir r h).1),by
   have:=nj (of_decide_eq_true (by kernel_rfl)) hpn;simpa using this,by
   have:=nj (of_decide_eq_true (by kernel_rfl)) hsn;simpa using this,by
   have:=nj (of_decide_eq_true (by kernel_rfl)) hin;simpa using this,JB hnm,hps,has,his⟩
theorem JG {G:AH} {avs:List AV} (h:QSl aa 66 (QL wi) G avs):∃ v cs,avs=[v]/\dy G cs v:=by
 obtain ⟨v,rows,rfl,hs,hr,hn⟩:=h;rw [RE] at hs hr;obtain ⟨l,rfl,hl⟩:=pick (f:=fun p:Cod × AV × AV × AV=>bO p.1 p.2.1 p.2.2.1 p.2.2.2) (R:=fun p=>eW G p.1 p.2.1 p.2.2.1 p.2.2.2) rows fun r h=>by obtain ⟨c,vp,vs,vi,rfl,h1⟩:=PQ (hr r h).2;exact ⟨(c,vp,vs,vi),rfl,h1⟩
 refine ⟨v,l.map (·.1),rfl,⟨l,rfl,hs.sls Ac (fun r h=>(hr r h).1),hl⟩,?_⟩;have:=nj (of_decide_eq_true (by kernel_rfl)) hn;simpa using this
theorem PO {G:AH} {avs:List AV} (h:QL DX G avs):∃ f,avs=fx f:=by obtain ⟨_,_,rfl,⟨n0,rfl,_⟩,_,_,rfl,⟨b,rfl⟩,_,_,rfl,⟨n2,rfl,_⟩,_,_,rfl,⟨n3,rfl,_⟩,_,_,rfl,⟨n4,rfl,_⟩,_,_,rfl,⟨n5,rfl,_⟩,_,_,rfl,⟨n6,rfl,_⟩,rfl⟩:=h;exact ⟨⟨n0,b,n2,n3,n4,n5,n6⟩,rfl⟩
theorem PM {G:AH} {avs:List AV} (h:QL Hw G avs):∃ vc vm vs f cs m ss,avs=[vc,vm,vs]++fx f/\dy G cs vc/\eo G m vm/\cT G ss vs:=by obtain ⟨_,_,rfl,hc,_,_,rfl,hm,_,_,rfl,hs,_,_,rfl,hf,rfl⟩:=h;obtain ⟨vc,cs,rfl,h1⟩:=JG hc;obtain ⟨vm,m,rfl,h2⟩:=Uz hm;obtain ⟨vs,ss,rfl,h3⟩:=Pq hs;obtain ⟨f,rfl⟩:=PO hf;exact ⟨vc,vm,vs,f,cs,m,ss,by simp,h1,h2,h3⟩
end Go.Dv
namespace Go.Dv
open Go.Proofs Go.Proofs.YtilpjnckfkjkbaaGreatDoor
theorem Ut:(Rows.laid_strings_asciiSpace:DataW Unit)=Lib.tabData .u8 Lib.asciiSpaceTab:=by kernel_rfl
theorem U5 {W:World} (h:laidMetH aa [("unicode.White_Space",Rows.laid_unicode_White_Space),("strings.asciiSpace",Rows.laid_strings_asciiSpace)] W):oz 0 eG W (fun b=>b < W.heap.size):=by rw [MakeChecks.laidMetH_plain _ _ _ (by kernel_rfl)] at h;have h2:=h.tail;rw [Ut] at h2;have ht:Lib.TabIs aa W "strings.asciiSpace" .u8 Lib.asciiSpaceTab:=Lib.tabIs_of_head (g:=0) (t:=309) (e:=5) (n:=256) (by kernel_rfl) (by kernel_rfl) (by kernel_rfl) (by kernel_rfl) (by kernel_rfl) (by kernel_rfl) h2;have hc:∀ i,i < Lib.asciiSpaceTab.length->W.cell? ⟨0,i,none⟩=some (.int .u8 (Lib.asciiSpaceTab.getD i 0)):=fun i hi=>ht.cell (by kernel_rfl) i hi;refine ⟨(At (hc 0 (by decide))).2,fun j v hj=>?_⟩;unfold eG at hj;rw [List.getElem?_map,ah] at hj;obtain ⟨n,hn,rfl⟩:=hj;have hl:=aI hn;refine ⟨_,hc j hl,?_⟩;rw [gde,hn]; rfl
theorem Eb {H:Type} {P:Program} {ts:List TypeId} {ds:List (DataW H)} (h:(DataW.weightsEach P ts ds).all (·<=reachBytes)=true) {j:Nat} {t:TypeId} {d:DataW H} (ht:ts[j]? =some t) (hd:ds[j]? =some d):∀ z∈d.weights P t,z<=reachBytes:=fun z hz=>by
 have:=List.all_eq_true.1 h z (DataW.weights_mem_each ht hd z hz)
 simpa using this
theorem Ik {H:Type} {enc:TypeId × Value->H} {W:World} {us:Array Value} {d:DataW H} {p:List MemPlace} (hk:0 < W.heap.size) (h:DataW.Trod enc aa W 0 (fun _=>true) true 29 (.agg us) d p) (hz:∀ z∈d.weights aa 29,z<=reachBytes) :
   ∃ φ G vc vm vs f cs m ss,RdW W φ G/\VR φ (.agg ([vc,vm,vs]++fx f)) (.agg us)/\dy G cs vc/\eo G m vm/\cT G ss vs:=by obtain ⟨fuel,hf⟩:=h;obtain ⟨φ,L,avs,h1,h2,h3,h4⟩:=Vd.1 W 0 true fuel _ _ hf hz hk _ [] (RdW.nil W);obtain ⟨vc,vm,vs,f,cs,m,ss,rfl,hc,hm,hs⟩:=PM h4;exact ⟨φ,[]++L,vc,vm,vs,f,cs,m,ss,h1,⟨us,rfl,h3⟩,hc,hm,hs⟩
end Go.Dv
