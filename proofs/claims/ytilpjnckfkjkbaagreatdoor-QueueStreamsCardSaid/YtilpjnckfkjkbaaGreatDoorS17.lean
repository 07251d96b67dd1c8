/- Part 17 of the walks (own work). -/
import Derived.Test.YtilpjnckfkjkbaaGreatDoorS16
open Int renaming toNat_natCast→cw
open List renaming append_assoc→aE,append_nil→af,cons_append→ir,getElem?_append_right→aw,getElem?_eq_getElem→aj,length_append→ai,length_eq_zero_iff→dw,length_map→au,length_set→ar,replicate→aA,set_append_right→kQ,set_cons_zero→kg
open Nat renaming add_assoc→bV,add_sub_cancel_left→bE,le_add_right→cm,le_refl→ax,mul_eq_zero→MM,mul_one→dS,sub_self→dI,zero_add→cu,zero_mul→nr
open Option renaming bind_some→ay,getD_some→e7,map→wm,map_some→cE
open Go.Proofs.Tryz renaming prog→aa
set_option maxRecDepth 100000
set_option maxHeartbeats 4000000
set_option linter.unusedSimpArgs false
set_option linter.unusedVariables false
namespace Go.Dv
open Go.Proofs
attribute [local congr] aH bP bj bO bQ
def bl (es n:Nat) (v:AV) (b:Nat):AV:=match v with
 | .nilSlice=>.nilSlice
 | _=>if n=0 then .slice b 0 es 0 0 true else .slice (b+1) 0 es n n false
def bh (E:TypeId) (v:AV) (xs:List AV):AH:=match v with
 | .nilSlice=>[]
 | _=>if xs=[] then [.cells [] E] else [.cells [] E,.cells xs E]
theorem xJ {es:Nat} (hes:0 < es) {rows:List (List AV)} (hr:∀ r∈rows,r.length=es):rows.flatten=[]↔rows.length=0:=by
 rw [<-dw,dP hr,MM]
 exact ⟨fun h=>h.elim id fun h=>by omega,.inl⟩
theorem ma {T E es:Nat} (A:pW aa T (some T) E es) (hes:0 < es) {H:AH} {v:AV} {rows:List (List AV)} (h:SlS T es H v rows) (hr:∀ r∈rows,r.length=es) (hv:v≠.nilSlice) (hg:fR (aa.bytesOf E) rows.length=true) (L:AH) :
   gv aa none T (some T) (.slice (H.length+L.length) 0 es 0 0 true) v (H++(L++[.cells [] E]))=some (bl es rows.length v (H.length+L.length),H++(L++bh E v rows.flatten)):=by
 obtain ⟨z,hz,hzl,hzn⟩:=A.z
 have hrow:=(h.app (L++[bo.cells [] E])).row
 have hln:=h.lenOf
 have hsrc:∃ f,pf (H++(L++[.cells [] E])) es v=some (rows.length,f)/\f rows.length=some rows.flatten:=by
   generalize hxs:rows.flatten=xs at hrow
   cases hrow with
   | nil=>exact absurd rfl hv
   | «at» i k len cap ex xs h' =>
     rw [cg] at hln
     subst hln
     exact ⟨fun n=>if n<=rows.length then ak (H++(L++[bo.cells [] E])) i k (n * es) else none,by simp [pf],by simp [h']⟩
 obtain ⟨f,hf,hfn⟩:=hsrc
 unfold gv
 rw [if_neg (by rw [A.x]; simp),A.el,ay,hz,ay,A.sz,hf,ay]
 simp only [hfn,ay]
 rw [if_pos ⟨by rw [hzl,A.sz],hzn⟩]
 try simp only [if_true]
 have hc:∀ b,bl es rows.length v b=if rows.length=0 then .slice b 0 es 0 0 true else .slice (b+1) 0 es rows.length rows.length false:=fun b=>by
   cases v <;> first | rfl | exact absurd rfl hv
 have hL:bh E v rows.flatten=if rows.flatten=[] then [.cells [] E] else [.cells [] E,.cells rows.flatten E]:=by
   cases v <;> first | rfl | exact absurd rfl hv
 rw [hc,hL]
 by_cases h0:rows.length=0
 · rw [if_pos h0,if_pos h0,if_pos ((xJ hes hr).2 h0)]
 · rw [if_neg h0,if_neg h0,if_neg fun e=>h0 ((xJ hes hr).1 e),if_neg (by omega),cu,if_pos hg]
   have hrd:ak (H++(L++[bo.cells [] E])) (H.length+L.length) 0 (0 * es)=some []:=by
     rw [lk,nr]
     unfold ak
     rw [aw (ax _),dI]; rfl
   rw [hrd,ay]
   simp only [put,cE,List.nil_append,ai,List.length_singleton,aE,ir,bV]
theorem ky {E es:Nat} {G:AH} {v:AV} {xs:List AV} {n:Nat} (hes:0 < es) (hn:xs.length=n * es) (hv:v=.nilSlice->xs=[]):Own G.length (G++bh E v xs) es E (bl es n v G.length) xs:=by
 by_cases hvn:v=.nilSlice
 · rw [hvn,hv hvn]; exact .nil
 · have hc:bl es n v G.length=if n=0 then .slice G.length 0 es 0 0 true else .slice (G.length+1) 0 es n n false:=by
     cases v <;> first | rfl | exact absurd rfl hvn
   have hL:bh E v xs=if xs=[] then [.cells [] E] else [.cells [] E,.cells xs E]:=by
     cases v <;> first | rfl | exact absurd rfl hvn
   rw [hc,hL]
   by_cases h0:n=0
   · have hx:xs=[]:=dw.1 (by rw [hn,h0,nr])
     rw [if_pos h0,if_pos hx]
     subst hx
     exact .at _ _ _ _ _ [] _ (ax _) (by simp) (ax _) (by simp) (by rw [gu,nr]; rfl)
   · have hx:xs≠[]:=fun e=>h0 (by
       rw [e,List.length_nil] at hn
       rcases MM.1 hn.symm with h | h
       · exact h
       · omega)
     rw [if_neg h0,if_neg hx]
     have hg:(G++[bo.cells [] E,.cells xs E])[G.length+1]? =some (.cells xs E):=by
       rw [aw (cm _ _),bE]; rfl
     refine .at _ _ _ _ _ xs _ (cm _ _) hg (ax _) (by rw [hn,cu]; exact ax _) ?_
     unfold ak
     rw [hg]
     simp only
     rw [if_pos (by omega),List.drop_zero,List.take_of_length_le (by omega)]
theorem eg (es n:Nat) (v:AV) (b:Nat):(bl es n v b).cells=[bl es n v b]/\(bl es n v b).one=true:=by
 unfold bl
 split
 · exact ⟨rfl,rfl⟩
 · split <;> exact ⟨rfl,rfl⟩
theorem Xz:pW aa 22 (some 22) 66 5:=⟨by kernel_rfl,⟨(ep aa 66).getD uA,by kernel_rfl,by kernel_rfl,by (have h:((ep aa 66).getD uA).cells.length=5:=by kernel_rfl); intro e; rw [e] at h; cases h⟩,by kernel_rfl,by kernel_rfl⟩
theorem Tf (H:AH):bf aa none 22 0 [] H=some (.slice H.length 0 5 0 0 true,H++[.cells [] 66]):=by kernel_rfl
theorem Xr (H L:AH):bf aa none 22 0 [] (H++L)=some (.slice (H.length+L.length) 0 5 0 0 true,H++(L++[.cells [] 66])):=by rw [Tf,ai,aE]
theorem R9 (H:AH) (i k e l c:Nat) (x:Bool) (fb:Option AV):iG .eql 22 (.slice i k e l c x) .nilSlice H fb=some (.bool false):=by
 have h:eqA aa 22 H (.slice i k e l c x) .nilSlice=some false:=by kernel_rfl
 unfold iG; simp only [h]; try rfl
theorem R8 (H:AH) (fb:Option AV):iG .eql 22 .nilSlice .nilSlice H fb=some (.bool true):=by
 have h:eqA aa 22 H .nilSlice .nilSlice=some true:=by kernel_rfl
 unfold iG; simp only [h]
theorem aav {H:AH} {v:AV} {rows:List (List AV)} (h:SlS 22 5 H v rows) (hr:∀ r∈rows,r.length=5) (hg:fR (aa.bytesOf 66) rows.length=true) (L:AH):Ev aa C0 W0 27 [v] (H++L)=some (bl 5 rows.length v (H.length+L.length),H++(L++bh 66 v rows.flatten)):=by
 rcases h.old with ⟨rfl,rfl⟩ | ⟨i,k,c,e,rfl,_,_⟩
 · clear hg hr
   obtain ⟨tm,ht,g0,g1⟩:=tm1 (.nilSlice) 8 (by decide)
   rw [Vz,ht]
   simp -implicitDefEqProofs only [c27,Tryz.f27,aP,g0,g1,↓R8,↓ao,an,eu,sevalprocAttr]
   simp only [bl,bh,af]
 · obtain ⟨tm,ht,g0,g1⟩:=tm1 (.slice i k 5 rows.length c e) 8 (by decide)
   rw [Vz,ht]
   have he:=ma Xz (by decide) h hr (by simp) hg L
   simp -implicitDefEqProofs only [c27,Tryz.f27,aP,g0,g1,↓R9,Xr,↓ck,he,↓ao,an,eu,sevalprocAttr]
theorem Xx:pW aa 62 (some 62) 74 2:=⟨by kernel_rfl,⟨(ep aa 74).getD uA,by kernel_rfl,by kernel_rfl,by (have h:((ep aa 74).getD uA).cells.length=2:=by kernel_rfl); intro e; rw [e] at h; cases h⟩,by kernel_rfl,by kernel_rfl⟩
theorem S9 (H:AH):bf aa none 62 0 [] H=some (.slice H.length 0 2 0 0 true,H++[.cells [] 74]):=by kernel_rfl
theorem Xj (H L:AH):bf aa none 62 0 [] (H++L)=some (.slice (H.length+L.length) 0 2 0 0 true,H++(L++[.cells [] 74])):=by rw [S9,ai,aE]
theorem R3 (H:AH) (i k e l c:Nat) (x:Bool) (fb:Option AV):iG .eql 62 (.slice i k e l c x) .nilSlice H fb=some (.bool false):=by
 have h:eqA aa 62 H (.slice i k e l c x) .nilSlice=some false:=by kernel_rfl
 unfold iG; simp only [h]; try rfl
theorem R2 (H:AH) (fb:Option AV):iG .eql 62 .nilSlice .nilSlice H fb=some (.bool true):=by
 have h:eqA aa 62 H .nilSlice .nilSlice=some true:=by kernel_rfl
 unfold iG; simp only [h]
theorem aau {H:AH} {v:AV} {rows:List (List AV)} (h:SlS 62 2 H v rows) (hr:∀ r∈rows,r.length=2) (hg:fR (aa.bytesOf 74) rows.length=true) (L:AH):Ev aa C0 W0 29 [v] (H++L)=some (bl 2 rows.length v (H.length+L.length),H++(L++bh 74 v rows.flatten)):=by
 rcases h.old with ⟨rfl,rfl⟩ | ⟨i,k,c,e,rfl,_,_⟩
 · clear hg hr
   obtain ⟨tm,ht,g0,g1⟩:=tm1 (.nilSlice) 8 (by decide)
   rw [Vy,ht]
   simp -implicitDefEqProofs only [c29,Tryz.f29,aP,g0,g1,↓R2,↓ao,an,eu,sevalprocAttr]
   simp only [bl,bh,af]
 · obtain ⟨tm,ht,g0,g1⟩:=tm1 (.slice i k 2 rows.length c e) 8 (by decide)
   rw [Vy,ht]
   have he:=ma Xx (by decide) h hr (by simp) hg L
   simp -implicitDefEqProofs only [c29,Tryz.f29,aP,g0,g1,↓R3,Xj,↓ck,he,↓ao,an,eu,sevalprocAttr]
theorem Xw:pW aa 63 (some 63) 77 2:=⟨by kernel_rfl,⟨(ep aa 77).getD uA,by kernel_rfl,by kernel_rfl,by (have h:((ep aa 77).getD uA).cells.length=2:=by kernel_rfl); intro e; rw [e] at h; cases h⟩,by kernel_rfl,by kernel_rfl⟩
theorem S8 (H:AH):bf aa none 63 0 [] H=some (.slice H.length 0 2 0 0 true,H++[.cells [] 77]):=by kernel_rfl
theorem Xi (H L:AH):bf aa none 63 0 [] (H++L)=some (.slice (H.length+L.length) 0 2 0 0 true,H++(L++[.cells [] 77])):=by rw [S8,ai,aE]
theorem R0 (H:AH) (i k e l c:Nat) (x:Bool) (fb:Option AV):iG .eql 63 (.slice i k e l c x) .nilSlice H fb=some (.bool false):=by
 have h:eqA aa 63 H (.slice i k e l c x) .nilSlice=some false:=by kernel_rfl
 unfold iG; simp only [h]; try rfl
theorem RZ (H:AH) (fb:Option AV):iG .eql 63 .nilSlice .nilSlice H fb=some (.bool true):=by
 have h:eqA aa 63 H .nilSlice .nilSlice=some true:=by kernel_rfl
 unfold iG; simp only [h]
theorem aat {H:AH} {v:AV} {rows:List (List AV)} (h:SlS 63 2 H v rows) (hr:∀ r∈rows,r.length=2) (hg:fR (aa.bytesOf 77) rows.length=true) (L:AH):Ev aa C0 W0 30 [v] (H++L)=some (bl 2 rows.length v (H.length+L.length),H++(L++bh 77 v rows.flatten)):=by
 rcases h.old with ⟨rfl,rfl⟩ | ⟨i,k,c,e,rfl,_,_⟩
 · clear hg hr
   obtain ⟨tm,ht,g0,g1⟩:=tm1 (.nilSlice) 8 (by decide)
   rw [Vx,ht]
   simp -implicitDefEqProofs only [c30,Tryz.f30,aP,g0,g1,↓RZ,↓ao,an,eu,sevalprocAttr]
   simp only [bl,bh,af]
 · obtain ⟨tm,ht,g0,g1⟩:=tm1 (.slice i k 2 rows.length c e) 8 (by decide)
   rw [Vx,ht]
   have he:=ma Xw (by decide) h hr (by simp) hg L
   simp -implicitDefEqProofs only [c30,Tryz.f30,aP,g0,g1,↓R0,Xi,↓ck,he,↓ao,an,eu,sevalprocAttr]
theorem Xv:pW aa 64 (some 64) 80 8:=⟨by kernel_rfl,⟨(ep aa 80).getD uA,by kernel_rfl,by kernel_rfl,by (have h:((ep aa 80).getD uA).cells.length=8:=by kernel_rfl); intro e; rw [e] at h; cases h⟩,by kernel_rfl,by kernel_rfl⟩
theorem S7 (H:AH):bf aa none 64 0 [] H=some (.slice H.length 0 8 0 0 true,H++[.cells [] 80]):=by kernel_rfl
theorem Xh (H L:AH):bf aa none 64 0 [] (H++L)=some (.slice (H.length+L.length) 0 8 0 0 true,H++(L++[.cells [] 80])):=by rw [S7,ai,aE]
theorem RY (H:AH) (i k e l c:Nat) (x:Bool) (fb:Option AV):iG .eql 64 (.slice i k e l c x) .nilSlice H fb=some (.bool false):=by
 have h:eqA aa 64 H (.slice i k e l c x) .nilSlice=some false:=by kernel_rfl
 unfold iG; simp only [h]; try rfl
theorem RX (H:AH) (fb:Option AV):iG .eql 64 .nilSlice .nilSlice H fb=some (.bool true):=by
 have h:eqA aa 64 H .nilSlice .nilSlice=some true:=by kernel_rfl
 unfold iG; simp only [h]
theorem aas {H:AH} {v:AV} {rows:List (List AV)} (h:SlS 64 8 H v rows) (hr:∀ r∈rows,r.length=8) (hg:fR (aa.bytesOf 80) rows.length=true) (L:AH):Ev aa C0 W0 31 [v] (H++L)=some (bl 8 rows.length v (H.length+L.length),H++(L++bh 80 v rows.flatten)):=by
 rcases h.old with ⟨rfl,rfl⟩ | ⟨i,k,c,e,rfl,_,_⟩
 · clear hg hr
   obtain ⟨tm,ht,g0,g1⟩:=tm1 (.nilSlice) 8 (by decide)
   rw [Vw,ht]
   simp -implicitDefEqProofs only [c31,Tryz.f31,aP,g0,g1,↓RX,↓ao,an,eu,sevalprocAttr]
   simp only [bl,bh,af]
 · obtain ⟨tm,ht,g0,g1⟩:=tm1 (.slice i k 8 rows.length c e) 8 (by decide)
   rw [Vw,ht]
   have he:=ma Xv (by decide) h hr (by simp) hg L
   simp -implicitDefEqProofs only [c31,Tryz.f31,aP,g0,g1,↓RY,Xh,↓ck,he,↓ao,an,eu,sevalprocAttr]
theorem Xy:pW aa 32 (some 32) 21 1:=⟨by kernel_rfl,⟨(ep aa 21).getD uA,by kernel_rfl,by kernel_rfl,by (have h:((ep aa 21).getD uA).cells.length=1:=by kernel_rfl); intro e; rw [e] at h; cases h⟩,by kernel_rfl,by kernel_rfl⟩
theorem Ta (H:AH):bf aa none 32 0 [] H=some (.slice H.length 0 1 0 0 true,H++[.cells [] 21]):=by kernel_rfl
theorem Xk (H L:AH):bf aa none 32 0 [] (H++L)=some (.slice (H.length+L.length) 0 1 0 0 true,H++(L++[.cells [] 21])):=by rw [Ta,ai,aE]
theorem R5 (H:AH) (i k e l c:Nat) (x:Bool) (fb:Option AV):iG .eql 32 (.slice i k e l c x) .nilSlice H fb=some (.bool false):=by
 have h:eqA aa 32 H (.slice i k e l c x) .nilSlice=some false:=by kernel_rfl
 unfold iG; simp only [h]; try rfl
theorem R4 (H:AH) (fb:Option AV):iG .eql 32 .nilSlice .nilSlice H fb=some (.bool true):=by
 have h:eqA aa 32 H .nilSlice .nilSlice=some true:=by kernel_rfl
 unfold iG; simp only [h]
theorem aar {H:AH} {v:AV} {rows:List (List AV)} (h:SlS 32 1 H v rows) (hr:∀ r∈rows,r.length=1) (hg:fR (aa.bytesOf 21) rows.length=true) (L:AH):Ev aa C0 W0 32 [v] (H++L)=some (bl 1 rows.length v (H.length+L.length),H++(L++bh 21 v rows.flatten)):=by
 rcases h.old with ⟨rfl,rfl⟩ | ⟨i,k,c,e,rfl,_,_⟩
 · clear hg hr
   obtain ⟨tm,ht,g0,g1⟩:=tm1 (.nilSlice) 8 (by decide)
   rw [Vv,ht]
   simp -implicitDefEqProofs only [c32,Tryz.f32,aP,g0,g1,↓R4,↓ao,an,eu,sevalprocAttr]
   simp only [bl,bh,af]
 · obtain ⟨tm,ht,g0,g1⟩:=tm1 (.slice i k 1 rows.length c e) 8 (by decide)
   rw [Vv,ht]
   have he:=ma Xy (by decide) h hr (by simp) hg L
   simp -implicitDefEqProofs only [c32,Tryz.f32,aP,g0,g1,↓R5,Xk,↓ck,he,↓ao,an,eu,sevalprocAttr]
theorem Mg:pW aa 31 (some 31) 34 9:=⟨by kernel_rfl,⟨(ep aa 34).getD uA,by kernel_rfl,by kernel_rfl,by (have h:((ep aa 34).getD uA).cells.length=9:=by kernel_rfl); intro e; rw [e] at h; cases h⟩,by kernel_rfl,by kernel_rfl⟩
theorem Tc (H:AH):bf aa none 31 0 [] H=some (.slice H.length 0 9 0 0 true,H++[.cells [] 34]):=by kernel_rfl
theorem Xm (H L:AH):bf aa none 31 0 [] (H++L)=some (.slice (H.length+L.length) 0 9 0 0 true,H++(L++[.cells [] 34])):=by rw [Tc,ai,aE]
theorem R7 (H:AH) (i k e l c:Nat) (x:Bool) (fb:Option AV):iG .eql 31 (.slice i k e l c x) .nilSlice H fb=some (.bool false):=by
 have h:eqA aa 31 H (.slice i k e l c x) .nilSlice=some false:=by kernel_rfl
 unfold iG; simp only [h]; try rfl
theorem R6 (H:AH) (fb:Option AV):iG .eql 31 .nilSlice .nilSlice H fb=some (.bool true):=by
 have h:eqA aa 31 H .nilSlice .nilSlice=some true:=by kernel_rfl
 unfold iG; simp only [h]
theorem aah {H:AH} {v:AV} {rows:List (List AV)} (h:SlS 31 9 H v rows) (hr:∀ r∈rows,r.length=9) (hg:fR (aa.bytesOf 34) rows.length=true) (L:AH):Ev aa C0 W0 46 [v] (H++L)=some (bl 9 rows.length v (H.length+L.length),H++(L++bh 34 v rows.flatten)):=by
 rcases h.old with ⟨rfl,rfl⟩ | ⟨i,k,c,e,rfl,_,_⟩
 · clear hg hr
   obtain ⟨tm,ht,g0,g1⟩:=tm1 (.nilSlice) 8 (by decide)
   rw [Vq,ht]
   simp -implicitDefEqProofs only [c46,Tryz.f46,aP,g0,g1,↓R6,↓ao,an,eu,sevalprocAttr]
   simp only [bl,bh,af]
 · obtain ⟨tm,ht,g0,g1⟩:=tm1 (.slice i k 9 rows.length c e) 8 (by decide)
   rw [Vq,ht]
   have he:=ma Mg (by decide) h hr (by simp) hg L
   simp -implicitDefEqProofs only [c46,Tryz.f46,aP,g0,g1,↓R7,Xm,↓ck,he,↓ao,an,eu,sevalprocAttr]
theorem Pl {HK HK':Nat->AH} {n N:Nat} {vm:AV} {w w':Nat->AV} (hix:∀ j,j < n->∃ i k,(∀ kk,aG aa 24 vm (.int kk (j:Int))=some (.ptr i k))/\ak (HK j) i k 1=some [w j])
   (h32:∀ j,j < n->Ev aa C0 W0 32 [w j] (HK j)=some (w' j,HK' j)) (hc:∀ j,j < n->(w' j).cells=[w' j]) (hwr:∀ j,j < n->bp (HK' j) N j [w' j]=some (HK (j+1))) (hn:n < 2 ^ 60) :
   ∀ (d j:Nat) (tm:List AV),n - j=d->j<=n->tm.length=23->tm.getD 3 uA=.slice N 0 1 n n true->tm.getD 9 uA=vm->tm.getD 10 uA=I n->tm.getD 11 uA=I (j:Int) ->
   ∃ X,EvC aa C0 W0 plN JB (tm,HK j)=some (.exit 0,(X,HK n))/\X.length=23/\X.getD 3 uA=.slice N 0 1 n n true:=by
 intro d
 induction d with
 | zero =>
   intro j tm hd hj hlen h3 h9 h10 h11
   have hjl:j=n:=by omega
   subst hjl
   have hlt:ltB (j:Int) (j:Nat)=false:=db (by omega)
   rw [Ls]
   simp -implicitDefEqProofs only [Fv,Tryz.f28,aP,hlen,h3,h9,h10,h11,hlt,↓ao,an,eu,sevalprocAttr]
   exact ⟨_,rfl,by first | exact hlen | simp only [ar,hlen],by first | exact h3 | simp only [hlen,h3,gB,sevalprocAttr]⟩
 | succ d ih =>
   intro j tm hd hj hlen h3 h9 h10 h11
   have hjn:j < n:=by omega
   have hlt:ltB (j:Int) (n:Nat)=true:=cQ (by omega)
   have hw:=cD (j:=j) (by omega)
   obtain ⟨i,k,hi,hr⟩:=hix j hjn
   have h1:=h32 j hjn
   have h2:=hc j hjn
   have h4:=hwr j hjn
   have hia:∀ kk,aG aa 24 (.slice N 0 1 n n true) (.int kk (j:Int))=some (.ptr N j):=fun kk=>by
     rw [Vn,if_pos ⟨by omega,by omega,rfl⟩,cw,dS,cu]
   rw [Ls]
   simp -implicitDefEqProofs only [Fv,Tryz.f28,aP,hlen,h3,h9,h10,h11,hlt,hw,hi,hr,↓SB,h1,↓h2,h4,hia,fE,r5,↓az,↓ao,an,eu,sevalprocAttr]
   generalize hX:EvC aa C0 W0 _ _ _=Z
   have key:∀ (tm1:List AV),EvC aa C0 W0 plN JB (tm1,HK (j+1))=Z->tm1.length=23->tm1.getD 3 uA=.slice N 0 1 n n true->tm1.getD 9 uA=vm->tm1.getD 10 uA=I n->tm1.getD 11 uA=I ((j+1:Nat):Int)->∃ X,Z=some (.exit 0,(X,HK n))/\X.length=23/\X.getD 3 uA=.slice N 0 1 n n true:=by
     intro tm1 h hl1 h3 h9 h10 h11
     obtain ⟨X,he,hr⟩:=ih (j+1) tm1 (by omega) (by omega) hl1 h3 h9 h10 h11
     exact ⟨X,h.symm.trans he,hr⟩
   exact key _ hX (by simp only [ls,hlen]) (by simp only [hlen,h3,gB,sevalprocAttr]) (by simp only [hlen,h9,gB,sevalprocAttr]) (by simp only [hlen,h10,gB,sevalprocAttr]) (by simp only [hlen,h11,gB,sevalprocAttr])
theorem PK (z:AV) (n:Nat):lG [z] n=aA n z:=by
 unfold lG
 refine List.ext_getElem (by simp) fun i h1 h2=>?_
 simp [Nat.mod_one]
def sQ (N:Nat) (p:List AV × AH) (b:List Int × AV):List AV × AH:=(p.1++[bl 1 b.1.length b.2 (N+1+p.2.length)],p.2++bh 21 b.2 (b.1.map fun x=>.int .i32 x))
def cR (N:Nat) (l:List (List Int × AV)):List AV × AH:=l.foldl (sQ N) ([],[])
theorem tU (N:Nat) (l:List (List Int × AV)) (b:List Int × AV):cR N (l++[b])=sQ N (cR N l) b:=by
 unfold cR; rw [List.foldl_append]; rfl
theorem nK (N:Nat) (l:List (List Int × AV)):(cR N l).1.length=l.length:=by
 have key:∀ (l:List (List Int × AV)) (p:List AV × AH),(l.foldl (sQ N) p).1.length=p.1.length+l.length:=by
   intro l
   induction l with
   | nil=>intro p; rfl
   | cons b l ih=>intro p; rw [List.foldl_cons,ih]; simp [sQ]; omega
 unfold cR
 rw [key]; simp
theorem Hw {K:AH} {b:Nat} {cs:List AV} {e:TypeId} (h:K[b]? =some (.cells cs e)) {k:Nat} {x:AV} (hk:k < cs.length) (hx:x.one=true):bp K b k [x]=some (K.set b (.cells (cs.set k x) e)):=by
 unfold bp
 rw [h]
 simp only
 rw [if_pos ⟨by simp; omega,by simp [hx]⟩]; rfl
theorem X5 (n:Nat) (hn:n<=1000) (H:AH):ie aa none 24 (I n) (I n) H=some (.slice H.length 0 1 n n true,H++[.cells (aA n .nilSlice) 32]):=by
 have hz:ep aa 32=some .nilSlice:=by kernel_rfl
 have hs:gF aa 24=some 32:=by kernel_rfl
 have hb:aa.bytesOf 32=24:=by kernel_rfl
 have hc:aa.cellsOf 32=1:=by kernel_rfl
 unfold ie
 simp only [hs,hz,ay]
 rw [if_pos ⟨by omega,by omega,by omega,by rw [hb]; omega,by simp [AV.cells]⟩]
 rw [hc,dS,cw]
 show wm _ (put none H (.cells (lG [.nilSlice] n) 32))=_
 rw [PK]; rfl
theorem aaz:aa.bytesOf 21=4:=by kernel_rfl
theorem Ss {n:Nat} (h:n<=1000):fR (aa.bytesOf 21) n=true:=by
 rw [aaz]; unfold fR; rw [Bool.and_eq_true,decide_eq_true_iff,decide_eq_true_iff]; constructor <;> omega
theorem yG (l:List Int):(l.map dh).flatten=l.map fun x=>AV.int .i32 x:=pF _ l
theorem A7 (l:List Int):∀ r∈l.map dh,r.length=1:=by
 intro r hr
 obtain ⟨n,_,rfl⟩:=List.mem_map.1 hr
 rfl
theorem KL {H:AH} {v:AV} {b:List Int} (h:SlS 32 1 H v (b.map dh)) (hb:b.length<=1000) (L:AH):Ev aa C0 W0 32 [v] (H++L)=some (bl 1 b.length v (H.length+L.length),H++(L++bh 21 v (b.map fun x=>.int .i32 x))):=by
 have:=aar h (A7 b) (by rw [au]; exact Ss hb) L
 rwa [au,yG] at this
theorem WA {H:AH} {l:List (List Int × AV)} {vm:AV} (hs:SlS 24 1 H vm (l.map fun p=>[p.2])) (hp:∀ p∈l,SlS 32 1 H p.2 (p.1.map dh)) (hn:l.length<=100) (hb:∀ p∈l,p.1.length<=1000) (L:AH) :
   Ev aa C0 W0 28 [vm] (H++L)=some (.slice (H.length+L.length) 0 1 l.length l.length true,H++(L++(.cells (cR (H.length+L.length) l).1 32::(cR (H.length+L.length) l).2))):=by
 have hlen0:∀ G,dR aa 24 G vm=some (I l.length):=fun G=>by have:=hs.len G; rwa [au] at this
 have hvc:=hs.cells
 have hvo:=hs.one
 have hms:=X5 l.length (by omega) (H++L)
 generalize hN:H.length+L.length=N
 rw [ai,hN] at hms
 let HK:Nat->AH:=fun j=>H++(L++(.cells ((cR N (l.take j)).1++aA (l.length - j) .nilSlice) 32::(cR N (l.take j)).2))
 let w:Nat->AV:=fun j=>(l.getD j ([],uA)).2
 let bb:Nat->List Int:=fun j=>(l.getD j ([],uA)).1
 let w':Nat->AV:=fun j=>bl 1 (bb j).length (w j) (N+1+(cR N (l.take j)).2.length)
 let HK':Nat->AH:=fun j=>H++(L++(.cells ((cR N (l.take j)).1++aA (l.length - j) .nilSlice) 32::((cR N (l.take j)).2++bh 21 (w j) ((bb j).map fun x=>.int .i32 x))))
 have hl:∀ j (hj:j < l.length),l.getD j ([],uA)=l[j]:=fun j hj=>by rw [gde,aj hj]; rfl
 have hix:∀ j,j < l.length->∃ i k,(∀ kk,aG aa 24 vm (.int kk (j:Int))=some (.ptr i k))/\ak (HK j) i k 1=some [w j]:=fun j hj=>by
   obtain ⟨i,k,h1,h2⟩:=hs.ix j [w j] (by rw [List.getElem?_map,aj hj]; show some [(l[j]).2]=some [(l.getD j ([],uA)).2]; rw [hl j hj])
   exact ⟨i,k,h1,ju (al.app H _) h2⟩
 have h32:∀ j,j < l.length->Ev aa C0 W0 32 [w j] (HK j)=some (w' j,HK' j):=fun j hj=>by
   have hmem:l.getD j ([],uA)∈l:=by rw [hl j hj]; exact List.getElem_mem _
   have:=KL (hp _ hmem) (hb _ hmem) (L++(.cells ((cR N (l.take j)).1++aA (l.length - j) .nilSlice) 32::(cR N (l.take j)).2))
   rw [ai,List.length_cons,<-bV,hN,Nat.add_comm (cR N (l.take j)).2.length 1,<-bV,aE,ir] at this
   exact this
 have hc:∀ j,j < l.length->(w' j).cells=[w' j]:=fun j _=>(eg _ _ _ _).1
 have hwr:∀ j,j < l.length->bp (HK' j) N j [w' j]=some (HK (j+1)):=fun j hj=>by
   have hml:(cR N (l.take j)).1.length=j:=by rw [nK,List.length_take,Nat.min_eq_left (Nat.le_of_lt hj)]
   have hg:(HK' j)[N]? =some (.cells ((cR N (l.take j)).1++aA (l.length - j) .nilSlice) 32):=by
     show (H++(L++_))[N]? =_
     rw [<-hN,aw (cm _ _),bE,aw (ax _),dI]; rfl
   rw [Hw hg (by rw [ai,hml,List.length_replicate]; omega) (eg _ _ _ _).2]
   congr 1
   have ht:l.take (j+1)=l.take j++[l.getD j ([],uA)]:=by rw [List.take_add_one,aj hj,hl j hj]; rfl
   show (H++(L++_)).set N _=H++(L++_)
   rw [<-hN,kQ _ _ (cm _ _),bE,kQ _ _ (ax _),dI,kg]
   rw [hN,ht,tU]
   show H++(L++_)=H++(L++(bo.cells ((_++[_])++_) 32::(_++_)))
   congr 3
   rw [kQ _ _ (by rw [hml]; exact ax _),hml,dI,show l.length - j=(l.length - (j+1))+1 by omega,List.replicate_succ,kg,aE]; rfl
 have hloop:=Pl (N:=N) hix h32 hc hwr (by omega) l.length 0
 have hK0:HK 0=H++(L++[.cells (aA l.length .nilSlice) 32]):=by
   show H++(L++(.cells ((cR N (l.take 0)).1++_) 32::(cR N (l.take 0)).2))=_
   rw [List.take_zero]; rfl
 have hKn:HK l.length=H++(L++(.cells (cR N l).1 32::(cR N l).2)):=by
   show H++(L++(.cells ((cR N (l.take l.length)).1++aA (l.length - l.length) _) 32::(cR N (l.take l.length)).2))=_
   rw [List.take_length,dI,List.replicate_zero,af]
 rw [<-hKn]
 rw [hK0] at hloop
 rw [aE] at hms
 clear_value HK HK' w w'
 generalize H++L=HL at *
 obtain ⟨tm,ht,g0,g1⟩:=tm1 vm 23 (by decide)
 rw [Zj,ht]
 generalize H++(L++[.cells (aA l.length .nilSlice) 32])=H1 at *
 simp -implicitDefEqProofs only [c28,Tryz.f28,aP,g0,g1,hlen0,↓nq,hms,r5,↓az,↓ao,an,eu,sevalprocAttr]
 generalize hX:EvC aa C0 W0 _ (Code.loop _) _=Z
 obtain ⟨X,he,x0,x3⟩:∃ X,Z=some (.exit 0,(X,HK l.length))/\X.length=23/\X.getD 3 uA=.slice N 0 1 l.length l.length true:=by
   rw [<-hX]
   refine hloop _ (by omega) (by omega) ?_ ?_ ?_ ?_ ?_
   · simp only [ar,g0]
   · simp only [g0,gB,sevalprocAttr]
   · simp only [g0,g1,gB,sevalprocAttr]
   · simp only [g0,gB,sevalprocAttr]
   · simp only [g0,gB,sevalprocAttr]; try rfl
 subst he
 simp -implicitDefEqProofs only [x0,x3,↓ao,an,eu,sevalprocAttr]
theorem wY (H:AH) (i k:Nat) (fb:Option AV):iG .eql 37 (.ptr i k) .nilPtr H fb=some (.bool false):=by
 have h:eqA aa 37 H (.ptr i k) .nilPtr=some false:=by kernel_rfl
 unfold iG; simp only [h]; try rfl
theorem PN (H:AH) (i k e l c:Nat) (x:Bool) (fb:Option AV):iG .eql 30 (.slice i k e l c x) .nilSlice H fb=some (.bool false):=by
 have h:eqA aa 30 H (.slice i k e l c x) .nilSlice=some false:=by kernel_rfl
 unfold iG; simp only [h]; try rfl
theorem nck (i k:Nat):iW (.ptr i k)=some (.ptr i k):=rfl
theorem Vk (i k:Nat) (kk:IntKind) (n:Int):aG aa 69 (.ptr i k) (.int kk n)=if 0<=n/\n < 16 then some (.ptr i (k+n.toNat * 1)) else none:=by kernel_rfl
theorem Sh {G:AH} {q:Nat} {vc vm vs va:AV} {f:Con} {ss:List (List Itm)} {ad:List Nat} {m:List (List Int)} {rc:List Bool} (h:lu G q vc vm vs va f ss ad m rc 0) (hN:ss.length < 2 ^ 60):∀ (d j:Nat) (tm:List AV) (K:AH),ss.length - j=d->j<=ss.length->(tm.length=34/\al G K/\tm.getD 0 uA=.ptr q 0/\tm.getD 12 uA=vs/\tm.getD 13 uA=I ss.length/\tm.getD 14 uA=I ((j:Nat):Int)/\∃ v,tm.getD 3 uA=v/\Own G.length K 1 3 v ((fh ss ad j).map fun (n:Nat)=>I (n:Int))) ->
   ∃ X K1,EvC aa C0 W0 plN EX (tm,K)=some (.exit 0,(X,K1))/\(X.length=34/\al G K1/\X.getD 0 uA=.ptr q 0/\X.getD 12 uA=vs/\X.getD 13 uA=I ss.length/\X.getD 14 uA=I ((ss.length:Nat):Int)/\∃ v,X.getD 3 uA=v/\Own G.length K1 1 3 v ((fh ss ad ss.length).map fun (n:Nat)=>I (n:Int))):=by
 intro d
 induction d with
 | zero =>
   intro j tm K hd hj hI
   have hjl:j=ss.length:=by omega
   subst hjl
   have hI0:=hI
   obtain ⟨hlen,hA,h0,h12,h13,h14,v,h3,ho⟩:=hI
   have hlt:ltB (((ss.length:Nat)):Int) (ss.length:Nat)=false:=db (by omega)
   rw [LL]
   simp -implicitDefEqProofs only [FF,Tryz.f14,aP,hlen,h0,h12,h13,h14,h3,hlt,↓cbT,↓cbF,↓ao,an,eu,sevalprocAttr]
   refine ⟨_,K,rfl,?_⟩
   exact ⟨by first | exact hlen | simp only [ar,hlen],hA,Aj4 (by simp only [hlen,h0,h12,h13,h14,gB,and_self,sevalprocAttr]) ⟨v,by simp only [hlen,h3,gB,sevalprocAttr],ho⟩⟩
 | succ d ih =>
   intro j tm K hd hj hI
   have hI0:=hI
   obtain ⟨hlen,hA,h0,h12,h13,h14,v,h3,ho⟩:=hI
   have hjN:j < ss.length:=by omega
   have hlt:ltB (j:Int) (ss.length:Nat)=true:=cQ (by omega)
   have hw:=cD (j:=j) (by omega)
   have hq10:∀ L,ak (K++L) q 10 1=some [va]:=fun L=>by have:=h.cell hA L 10 (x:=va) rfl; rwa [cu] at this
   obtain ⟨i0,k0,w0,hix0,hrd0,hxs⟩:=h.s.at hA hjN
   have hln:=hxs.len
   obtain ⟨i1,k1,hix1,hrd1⟩:=h.at hA hjN
   have hle:=h.le j hjN
   have hn1:=hxs.n
   have hsub:IntKind.i64.wrap (((aR ss j).length:Int) - ((ad.getD j 0:Nat):Int))=(((aR ss j).length - ad.getD j 0:Nat):Int):=by rw [qN (by omega)]; omega
   obtain ⟨v',K',happ,hA',ho',_⟩:=AK hA ho (by unfold fh; rw [au,List.length_range]; have:=h.fs; omega) ((aR ss j).length - ad.getD j 0)
   rw [<-rS] at ho'
   rw [LL]
   rw [<-af K]
   have key:∀ (tmN:List AV) (KN:AH) (Z:Option (bu × St)),EvC aa C0 W0 plN EX (tmN,KN)=Z->(tmN.length=34/\al G KN/\tmN.getD 0 uA=.ptr q 0/\tmN.getD 12 uA=vs/\tmN.getD 13 uA=I ss.length/\tmN.getD 14 uA=I (((j+1):Nat):Int)/\∃ v,tmN.getD 3 uA=v/\Own G.length KN 1 3 v ((fh ss ad (j+1)).map fun (n:Nat)=>I (n:Int)))->∃ X K1,Z=some (.exit 0,(X,K1))/\(X.length=34/\al G K1/\X.getD 0 uA=.ptr q 0/\X.getD 12 uA=vs/\X.getD 13 uA=I ss.length/\X.getD 14 uA=I ((ss.length:Nat):Int)/\∃ v,X.getD 3 uA=v/\Own G.length K1 1 3 v ((fh ss ad ss.length).map fun (n:Nat)=>I (n:Int))):=by
     intro tmN KN Z h hJ
     obtain ⟨X,K1,A,B⟩:=ih (j+1) tmN KN (by omega) (by omega) hJ
     exact ⟨X,K1,h.symm.trans A,B⟩
   simp -implicitDefEqProofs only [FF,Tryz.f14,aP,hlen,h0,h12,h13,h14,h3,hlt,hw,hq10,hix0,hrd0,hln,hix1,hrd1,hsub,Pz,↓ck,↓gh,happ,r5,↓az,nck,↓cbT,↓cbF,↓ao,an,eu,sevalprocAttr]
   generalize hX:EvC aa C0 W0 _ _ _=Z
   refine key _ _ _ hX ?_
   exact ⟨by simp only [ls,hlen],hA',Aj4 (by simp only [hlen,h0,h12,h13,h14,gB,and_self,sevalprocAttr]) ⟨v',by simp only [hlen,h3,gB,sevalprocAttr],ho'⟩⟩
theorem OM {G:AH} {q:Nat} {vc vm vs va:AV} {f:Con} {ss:List (List Itm)} {ad:List Nat} {m:List (List Int)} {rc:List Bool} {tm:List AV} {K:AH} {Z:Option (bu × St)} (hX:EvC aa C0 W0 plN EX (tm,K)=Z) (h:lu G q vc vm vs va f ss ad m rc 0) (hN:ss.length < 2 ^ 60) (hI:tm.length=34/\al G K/\tm.getD 0 uA=.ptr q 0/\tm.getD 12 uA=vs/\tm.getD 13 uA=I ss.length/\tm.getD 14 uA=I ((0:Nat):Int)/\∃ v,tm.getD 3 uA=v/\Own G.length K 1 3 v ((fh ss ad 0).map fun (n:Nat)=>I (n:Int))) :
   ∃ X K1,Z=some (.exit 0,(X,K1))/\(X.length=34/\al G K1/\X.getD 0 uA=.ptr q 0/\X.getD 12 uA=vs/\X.getD 13 uA=I ss.length/\X.getD 14 uA=I ((ss.length:Nat):Int)/\∃ v,X.getD 3 uA=v/\Own G.length K1 1 3 v ((fh ss ad ss.length).map fun (n:Nat)=>I (n:Int))):=by
 subst hX
 exact Sh h hN (ss.length) 0 tm K (by omega) (by omega) hI
theorem aax {G:AH} {q:Nat} {vc vm vs va:AV} {f:Con} {ss:List (List Itm)} {ad:List Nat} {m:List (List Int)} {rc:List Bool} (h:lu G q vc vm vs va f ss ad m rc 0):∃ v K,Ev aa C0 W0 14 [.ptr q 0] G=some (v,K)/\al G K/\Own G.length K 1 3 v ((fh ss ad ss.length).map fun (n:Nat)=>I (n:Int)):=by
 obtain ⟨tm,ht,g0,g1⟩:=tm1 (.ptr q 0) 34 (by decide)
 rw [Zq,ht]
 have hq9:ak G q 9 1=some [vs]:=by have:=h.cell (al.refl G) [] 9 (x:=vs) rfl; rwa [cu,af] at this
 have hls:=h.s.len
 simp -implicitDefEqProofs only [c14,Tryz.f14,aP,g0,g1,↓wY,hq9,hls,r5,↓az,nck,↓cbT,↓cbF,↓ao,an,eu,sevalprocAttr]
 generalize hX:EvC aa C0 W0 _ (Code.loop _) _=Z
 obtain ⟨X,K1,he,i0,iA,i1,i2,i3,i4,v,i5,io⟩:=OM hX h (by have:=h.fs; omega) ⟨by simp only [ls,g0],al.refl G,Aj3 (by simp only [g0,g1,gB,and_self,sevalprocAttr]) ⟨by simp only [g0,gB,sevalprocAttr]; try rfl,.nilSlice,by simp only [g0,gB,sevalprocAttr],.nil⟩⟩
 subst he
 refine ⟨v,K1,?_,iA,io⟩
 simp -implicitDefEqProofs only [aP,i0,i1,i5,↓cbT,↓cbF,↓ao,an,eu,sevalprocAttr]
theorem Nl {G:AH} {q:Nat} {vc vm vs va:AV} {f:Con} {ss:List (List Itm)} {ad:List Nat} {m:List (List Int)} {rc:List Bool} (h:lu G q vc vm vs va f ss ad m rc 0) {K:AH} (hA:al G K) {j:Nat} (hjN:j < ss.length) {w0:AV} (hxs:dA G (aR ss j) w0) {tm:List AV} (hlen:tm.length=64) (h0:tm.getD 0 uA=.ptr q 0) (h5:tm.getD 5 uA=w0) (h6:tm.getD 6 uA=I ((ad.getD j 0:Nat):Int)) :
   ∃ tm',EvC aa C0 W0 vy (aQ [true,true,true,false,true,false,false,true,true,false,false,true,true,false] (Tryz.f33.body.getD .skip)) (tm,K++[])=some (.normal,(tm',K++[]))/\tm'.length=64/\tm'.getD 57 uA=.bool (okS ss ad rc j)/\tm'.getD 0 uA=tm.getD 0 uA/\tm'.getD 3 uA=tm.getD 3 uA/\tm'.getD 4 uA=tm.getD 4 uA/\tm'.getD 20 uA=tm.getD 20 uA/\tm'.getD 21 uA=tm.getD 21 uA/\tm'.getD 22 uA=tm.getD 22 uA:=by
   have hq10:∀ L,ak (K++L) q 10 1=some [va]:=fun L=>by have:=h.cell hA L 10 (x:=va) rfl; rwa [cu] at this
   have hln:=hxs.len
   cases p1:ltB ((ad.getD j 0:Nat):Int) ((aR ss j).length:Int) with
   | false =>
     rw [show okS ss ad rc j=false from by unfold okS; rw [p1,Bool.false_and]; try rfl]
     simp -implicitDefEqProofs only [aQ,Tryz.f33,e7,hlen,h0,h5,h6,vR,hln,hq10,r5,↓az,nck,p1,↓cbT,↓cbF,↓ao,an,eu,sevalprocAttr]
     exact ⟨_,rfl,by simp only [ls,hlen],by simp only [hlen,h0,gB,and_self,sevalprocAttr]⟩
   | true =>
     obtain ⟨i2,k2,w2,hix2,hrd2,_⟩:=hxs.at (al.refl G) (j:=ad.getD j 0) (by rw [dC] at p1; omega)
     have hrd2':∀ L,ak (K++L) i2 k2 9=some (aU (bB (aR ss j) (ad.getD j 0)) w2):=fun L=>by have:=hrd2 []; rw [af] at this; exact ju (hA.bS L) this
     have hk0:∀ L,ak (K++L) i2 k2 1=some [I (bB (aR ss j) (ad.getD j 0)).kind]:=fun L=>by have:=jU (hrd2' L) (j:=0) (x:=I (bB (aR ss j) (ad.getD j 0)).kind) rfl; rwa [Nat.add_zero] at this
     cases p2:eqB (bB (aR ss j) (ad.getD j 0)).kind 4 with
     | false =>
       rw [show okS ss ad rc j=true from by unfold okS; rw [p1,p2]; try rfl]
       simp -implicitDefEqProofs only [aQ,Tryz.f33,e7,hlen,h0,h5,h6,vR,hln,hq10,r5,↓az,nck,p1,p2,hix2,hk0,↓cbT,↓cbF,↓ao,an,eu,sevalprocAttr]
       exact ⟨_,rfl,by simp only [ls,hlen],by simp only [hlen,h0,gB,and_self,sevalprocAttr]⟩
     | true =>
       have hk6:∀ L,ak (K++L) i2 (k2+6) 1=some [I (bB (aR ss j) (ad.getD j 0)).ev]:=fun L=>jU (hrd2' L) (j:=6) rfl
       have hev:=h.ev _ (gO hjN) _ (fu (by rw [dC] at p1; omega)) (.inr ((cX _ _).1 p2))
       have hix3:∀ kk,aG aa 69 (.ptr q 11) (.int kk (bB (aR ss j) (ad.getD j 0)).ev)=some (.ptr q (11+(bB (aR ss j) (ad.getD j 0)).ev.toNat)):=fun kk=>by rw [Vk,if_pos hev,dS]
       have hrc:∀ L,ak (K++L) q (11+(bB (aR ss j) (ad.getD j 0)).ev.toNat) 1=some [.bool (rc.getD (bB (aR ss j) (ad.getD j 0)).ev.toNat false)]:=fun L=>by
         have:=h.cell hA L (11+(bB (aR ss j) (ad.getD j 0)).ev.toNat) (Nb h.lr (by omega))
         rwa [cu] at this
       cases p3:rc.getD (bB (aR ss j) (ad.getD j 0)).ev.toNat false with
       | true =>
         rw [show okS ss ad rc j=true from by unfold okS; rw [p1,p2,p3]; try rfl]
         simp -implicitDefEqProofs only [aQ,Tryz.f33,e7,hlen,h0,h5,h6,vR,hln,hq10,r5,↓az,nck,p1,p2,p3,hix2,hk0,hk6,hix3,hrc,↓cbT,↓cbF,↓ao,an,eu,sevalprocAttr]
         exact ⟨_,rfl,by simp only [ls,hlen],by simp only [hlen,h0,gB,and_self,sevalprocAttr]⟩
       | false =>
         rw [show okS ss ad rc j=false from by unfold okS; rw [p1,p2,p3]; try rfl]
         simp -implicitDefEqProofs only [aQ,Tryz.f33,e7,hlen,h0,h5,h6,vR,hln,hq10,r5,↓az,nck,p1,p2,p3,hix2,hk0,hk6,hix3,hrc,↓cbT,↓cbF,↓ao,an,eu,sevalprocAttr]
         exact ⟨_,rfl,by simp only [ls,hlen],by simp only [hlen,h0,gB,and_self,sevalprocAttr]⟩
theorem Ik {G:AH} {q:Nat} {vc vm vs va:AV} {f:Con} {ss:List (List Itm)} {ad:List Nat} {m:List (List Int)} {rc:List Bool} (h:lu G q vc vm vs va f ss ad m rc 0) {K:AH} (hA:al G K) {j:Nat} (hjN:j < ss.length) {w0:AV} (hxs:dA G (aR ss j) w0) {tm:List AV} {R:Option (bu × St)} (hR:EvC aa C0 W0 vy (aQ [true,true,true,false,true,false,false,true,true,false,false,true,true,false] (Tryz.f33.body.getD .skip)) (tm,K++[])=R) (hlen:tm.length=64) (h0:tm.getD 0 uA=.ptr q 0) (h5:tm.getD 5 uA=w0) (h6:tm.getD 6 uA=I ((ad.getD j 0:Nat):Int)) :
   ∃ tm',R=some (.normal,(tm',K++[]))/\tm'.length=64/\tm'.getD 57 uA=.bool (okS ss ad rc j)/\tm'.getD 0 uA=tm.getD 0 uA/\tm'.getD 3 uA=tm.getD 3 uA/\tm'.getD 4 uA=tm.getD 4 uA/\tm'.getD 20 uA=tm.getD 20 uA/\tm'.getD 21 uA=tm.getD 21 uA/\tm'.getD 22 uA=tm.getD 22 uA:=by
 subst hR
 exact Nl h hA hjN hxs hlen h0 h5 h6
theorem No {G:AH} {q:Nat} {vc vm vs va:AV} {f:Con} {ss:List (List Itm)} {ad:List Nat} {m:List (List Int)} {rc:List Bool} (h:lu G q vc vm vs va f ss ad m rc 0) (hN:ss.length < 2 ^ 60):∀ (d j:Nat) (tm:List AV) (K:AH),ss.length - j=d->j<=ss.length->(tm.length=64/\al G K/\tm.getD 0 uA=.ptr q 0/\tm.getD 20 uA=vs/\tm.getD 21 uA=I ss.length/\tm.getD 22 uA=I ((j:Nat):Int)/\∃ v,tm.getD 3 uA=v/\Own G.length K 1 3 v ((dv ss ad rc j).map fun (n:Nat)=>I (n:Int))) ->
   ∃ X K1,EvC aa C0 W0 vy ER (tm,K)=some (.exit 0,(X,K1))/\(X.length=64/\al G K1/\X.getD 0 uA=.ptr q 0/\X.getD 20 uA=vs/\X.getD 21 uA=I ss.length/\X.getD 22 uA=I ((ss.length:Nat):Int)/\∃ v,X.getD 3 uA=v/\Own G.length K1 1 3 v ((dv ss ad rc ss.length).map fun (n:Nat)=>I (n:Int))):=by
 intro d
 induction d with
 | zero =>
   intro j tm K hd hj hI
   have hjl:j=ss.length:=by omega
   subst hjl
   have hI0:=hI
   obtain ⟨hlen,hA,h0,h20,h21,h22,v,h3,ho⟩:=hI
   have hlt:ltB (((ss.length:Nat)):Int) (ss.length:Nat)=false:=db (by omega)
   rw [Lr]
   simp -implicitDefEqProofs only [Fu,Tryz.f33,aP,hlen,h0,h20,h21,h22,h3,hlt,↓cbT,↓cbF,↓ao,an,eu,sevalprocAttr]
   refine ⟨_,K,rfl,?_⟩
   exact ⟨by first | exact hlen | simp only [ar,hlen],hA,Aj4 (by simp only [hlen,h0,h20,h21,h22,gB,and_self,sevalprocAttr]) ⟨v,by simp only [hlen,h3,gB,sevalprocAttr],ho⟩⟩
 | succ d ih =>
   intro j tm K hd hj hI
   have hI0:=hI
   obtain ⟨hlen,hA,h0,h20,h21,h22,v,h3,ho⟩:=hI
   have hjN:j < ss.length:=by omega
   have hlt:ltB (j:Int) (ss.length:Nat)=true:=cQ (by omega)
   have hw:=cD (j:=j) (by omega)
   have hq10:∀ L,ak (K++L) q 10 1=some [va]:=fun L=>by have:=h.cell hA L 10 (x:=va) rfl; rwa [cu] at this
   obtain ⟨i0,k0,w0,hix0,hrd0,hxs⟩:=h.s.at hA hjN
   have hln:=hxs.len
   obtain ⟨i1,k1,hix1,hrd1⟩:=h.at hA hjN
   have hle:=h.le j hjN
   have hn1:=hxs.n
   obtain ⟨v',K',happ,hA',ho',_⟩:=AK hA ho (by have:=wP ss ad rc j; have:=h.fs; omega) j
   rw [Lr]
   rw [<-af K]
   have key:∀ (tmN:List AV) (KN:AH) (Z:Option (bu × St)),EvC aa C0 W0 vy ER (tmN,KN)=Z->(tmN.length=64/\al G KN/\tmN.getD 0 uA=.ptr q 0/\tmN.getD 20 uA=vs/\tmN.getD 21 uA=I ss.length/\tmN.getD 22 uA=I (((j+1):Nat):Int)/\∃ v,tmN.getD 3 uA=v/\Own G.length KN 1 3 v ((dv ss ad rc (j+1)).map fun (n:Nat)=>I (n:Int)))->∃ X K1,Z=some (.exit 0,(X,K1))/\(X.length=64/\al G K1/\X.getD 0 uA=.ptr q 0/\X.getD 20 uA=vs/\X.getD 21 uA=I ss.length/\X.getD 22 uA=I ((ss.length:Nat):Int)/\∃ v,X.getD 3 uA=v/\Own G.length K1 1 3 v ((dv ss ad rc ss.length).map fun (n:Nat)=>I (n:Int))):=by
     intro tmN KN Z h hJ
     obtain ⟨X,K1,A,B⟩:=ih (j+1) tmN KN (by omega) (by omega) hJ
     exact ⟨X,K1,h.symm.trans A,B⟩
   simp -implicitDefEqProofs only [Fu,Tryz.f33,aP,hlen,h0,h20,h21,h22,h3,hlt,hw,hq10,hix0,hrd0,hln,hix1,hrd1,r5,↓az,nck,↓cbT,↓cbF,↓ao,an,eu,sevalprocAttr]
   generalize hR:EvC aa C0 W0 _ (Code.region _ _ _) _=R
   obtain ⟨t,he,tl,t57,t0,t3,t4,t20,t21,t22⟩:=Ik h hA hjN hxs hR (by simp only [ls,hlen]) (by simp only [hlen,h0,gB,sevalprocAttr]) (by simp only [hlen,gB,sevalprocAttr]) (by simp only [hlen,gB,sevalprocAttr])
   subst he
   simp only [hlen,h0,h3,h20,h21,h22,gB,sevalprocAttr] at t0 t3 t4 t20 t21 t22
   cases hok:okS ss ad rc j with
   | true =>
     simp -implicitDefEqProofs only [tl,t57,t0,t3,t4,t20,t21,t22,hw,hok,Pz,↓ck,happ,↓cbT,↓cbF,↓ao,an,eu,sevalprocAttr]
     generalize hX:EvC aa C0 W0 _ _ _=Z
     refine key _ _ _ hX ?_
     try simp only [af]
     exact ⟨by first | exact tl | simp only [ar,tl],hA',Aj4 (by simp only [tl,t0,t20,t21,t22,gB,and_self,sevalprocAttr]) ⟨v',by simp only [tl,t3,gB,sevalprocAttr],by rw [uV,hok,if_pos rfl]; exact ho'⟩⟩
   | false =>
     simp -implicitDefEqProofs only [tl,t57,t0,t3,t4,t20,t21,t22,hw,hok,↓cbT,↓cbF,↓ao,an,eu,sevalprocAttr]
     generalize hX:EvC aa C0 W0 _ _ _=Z
     refine key _ _ _ hX ?_
     try simp only [af]
     exact ⟨by first | exact tl | simp only [ar,tl],hA,Aj4 (by simp only [tl,t0,t20,t21,t22,gB,and_self,sevalprocAttr]) ⟨v,by simp only [tl,t3,gB,sevalprocAttr],by rw [uV,hok]; exact ho⟩⟩
theorem Ip {G:AH} {q:Nat} {vc vm vs va:AV} {f:Con} {ss:List (List Itm)} {ad:List Nat} {m:List (List Int)} {rc:List Bool} {tm:List AV} {K:AH} {Z:Option (bu × St)} (hX:EvC aa C0 W0 vy ER (tm,K)=Z) (h:lu G q vc vm vs va f ss ad m rc 0) (hN:ss.length < 2 ^ 60) (hI:tm.length=64/\al G K/\tm.getD 0 uA=.ptr q 0/\tm.getD 20 uA=vs/\tm.getD 21 uA=I ss.length/\tm.getD 22 uA=I ((0:Nat):Int)/\∃ v,tm.getD 3 uA=v/\Own G.length K 1 3 v ((dv ss ad rc 0).map fun (n:Nat)=>I (n:Int))) :
   ∃ X K1,Z=some (.exit 0,(X,K1))/\(X.length=64/\al G K1/\X.getD 0 uA=.ptr q 0/\X.getD 20 uA=vs/\X.getD 21 uA=I ss.length/\X.getD 22 uA=I ((ss.length:Nat):Int)/\∃ v,X.getD 3 uA=v/\Own G.length K1 1 3 v ((dv ss ad rc ss.length).map fun (n:Nat)=>I (n:Int))):=by
 subst hX
 exact No h hN (ss.length) 0 tm K (by omega) (by omega) hI
theorem SF {G:AH} {q:Nat} {vc vm vs va:AV} {f:Con} {ss:List (List Itm)} {ad:List Nat} {m:List (List Int)} {rc:List Bool} (h:lu G q vc vm vs va f ss ad m rc 0):∃ v K,Ev aa C0 W0 33 [.ptr q 0] G=some (v,K)/\al G K/\Own G.length K 1 3 v ((dv ss ad rc ss.length).map fun (n:Nat)=>I (n:Int)):=by
 obtain ⟨tm,ht,g0,g1⟩:=tm1 (.ptr q 0) 64 (by decide)
 rw [Zi,ht]
 have hq9:ak G q 9 1=some [vs]:=by have:=h.cell (al.refl G) [] 9 (x:=vs) rfl; rwa [cu,af] at this
 have hq27:ak G q 27 1=some [I 0]:=by have:=h.cell (al.refl G) [] 27 (Ek h.lr); rwa [cu,af] at this
 have hls:=h.s.len
 have e0:eqB 0 0=true:=rfl
 simp -implicitDefEqProofs only [c33,Tryz.f33,aP,g0,g1,↓wY,hq9,hq27,e0,hls,r5,↓az,nck,↓cbT,↓cbF,↓ao,an,eu,sevalprocAttr]
 generalize hX:EvC aa C0 W0 _ (Code.loop _) _=Z
 obtain ⟨X,K1,he,i0,iA,i1,i2,i3,i4,v,i5,io⟩:=Ip hX h (by have:=h.fs; omega) ⟨by simp only [ls,g0],al.refl G,Aj3 (by simp only [g0,g1,gB,and_self,sevalprocAttr]) ⟨by simp only [g0,gB,sevalprocAttr]; try rfl,.nilSlice,by simp only [g0,gB,sevalprocAttr],.nil⟩⟩
 subst he
 refine ⟨v,K1,?_,iA,io⟩
 simp -implicitDefEqProofs only [aP,i0,i1,i5,↓cbT,↓cbF,↓ao,an,eu,sevalprocAttr]
end Go.Dv
