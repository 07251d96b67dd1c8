/- Part 16 of the walks (own work). -/
import Derived.Test.YtilpjnckfkjkbaaGreatDoorZ15
set_option maxRecDepth 100000
set_option maxHeartbeats 4000000
set_option linter.unusedSimpArgs false
set_option linter.unusedVariables false
namespace Go.Dv
open Go.Proofs
attribute [local congr] bind_congr_first cb_congr condA_congr gd_congr br_congr
def cloneV (es n:Nat) (v:AV) (b:Nat):AV:=match v with
 | .nilSlice=>.nilSlice
 | _=>if n=0 then .slice b 0 es 0 0 true else .slice (b+1) 0 es n n false
def cloneL (E:TypeId) (v:AV) (xs:List AV):AH:=match v with
 | .nilSlice=>[]
 | _=>if xs=[] then [.cells [] E] else [.cells [] E,.cells xs E]
theorem flat_nil {es:Nat} (hes:0 < es) {rows:List (List AV)} (hr:∀ r∈rows,r.length=es):rows.flatten=[]↔rows.length=0:=by
 rw [<-List.length_eq_zero_iff,flat_len hr,Nat.mul_eq_zero]
 exact ⟨fun h=>h.elim id fun h=>by omega,.inl⟩
theorem clone_app {T E es:Nat} (A:AppT Tryz.prog T (some T) E es) (hes:0 < es) {H:AH} {v:AV} {rows:List (List AV)} (h:SlS T es H v rows) (hr:∀ r∈rows,r.length=es) (hv:v≠.nilSlice) (hg:growOk (Tryz.prog.bytesOf E) rows.length=true) (L:AH) :
   appendA Tryz.prog none T (some T) (.slice (H.length+L.length) 0 es 0 0 true) v (H++(L++[.cells [] E]))=some (cloneV es rows.length v (H.length+L.length),H++(L++cloneL E v rows.flatten)):=by
 obtain ⟨z,hz,hzl,hzn⟩:=A.z
 have hrow:=(h.app (L++[AObj.cells [] E])).row
 have hln:=h.lenOf
 have hsrc:∃ f,srcA (H++(L++[.cells [] E])) es v=some (rows.length,f)/\f rows.length=some rows.flatten:=by
   generalize hxs:rows.flatten=xs at hrow
   cases hrow with
   | nil=>exact absurd rfl hv
   | «at» i k len cap ex xs h' =>
     rw [lenOfA_slice] at hln
     subst hln
     exact ⟨fun n=>if n<=rows.length then rdCells (H++(L++[AObj.cells [] E])) i k (n * es) else none,by simp [srcA],by simp [h']⟩
 obtain ⟨f,hf,hfn⟩:=hsrc
 unfold appendA
 rw [if_neg (by rw [A.x]; simp),A.el,Option.bind_some,hz,Option.bind_some,A.sz,hf,Option.bind_some]
 simp only [hfn,Option.bind_some]
 rw [if_pos ⟨by rw [hzl,A.sz],hzn⟩]
 try simp only [if_true]
 have hc:∀ b,cloneV es rows.length v b=if rows.length=0 then .slice b 0 es 0 0 true else .slice (b+1) 0 es rows.length rows.length false:=fun b=>by
   cases v <;> first | rfl | exact absurd rfl hv
 have hL:cloneL E v rows.flatten=if rows.flatten=[] then [.cells [] E] else [.cells [] E,.cells rows.flatten E]:=by
   cases v <;> first | rfl | exact absurd rfl hv
 rw [hc,hL]
 by_cases h0:rows.length=0
 · rw [if_pos h0,if_pos h0,if_pos ((flat_nil hes hr).2 h0)]
 · rw [if_neg h0,if_neg h0,if_neg fun e=>h0 ((flat_nil hes hr).1 e),if_neg (by omega),Nat.zero_add,if_pos hg]
   have hrd:rdCells (H++(L++[AObj.cells [] E])) (H.length+L.length) 0 (0 * es)=some []:=by
     rw [rd_app,Nat.zero_mul]
     unfold rdCells
     rw [List.getElem?_append_right (Nat.le_refl _),Nat.sub_self]; rfl
   rw [hrd,Option.bind_some]
   simp only [put,Option.map_some,List.nil_append,List.length_append,List.length_singleton,List.append_assoc,List.cons_append,Nat.add_assoc]
theorem cloneV_own {E es:Nat} {G:AH} {v:AV} {xs:List AV} {n:Nat} (hes:0 < es) (hn:xs.length=n * es) (hv:v=.nilSlice->xs=[]):Own G.length (G++cloneL E v xs) es E (cloneV es n v G.length) xs:=by
 by_cases hvn:v=.nilSlice
 · rw [hvn,hv hvn]; exact .nil
 · have hc:cloneV es n v G.length=if n=0 then .slice G.length 0 es 0 0 true else .slice (G.length+1) 0 es n n false:=by
     cases v <;> first | rfl | exact absurd rfl hvn
   have hL:cloneL E v xs=if xs=[] then [.cells [] E] else [.cells [] E,.cells xs E]:=by
     cases v <;> first | rfl | exact absurd rfl hvn
   rw [hc,hL]
   by_cases h0:n=0
   · have hx:xs=[]:=List.length_eq_zero_iff.1 (by rw [hn,h0,Nat.zero_mul])
     rw [if_pos h0,if_pos hx]
     subst hx
     exact .at _ _ _ _ _ [] _ (Nat.le_refl _) (by simp) (Nat.le_refl _) (by simp) (by rw [rd_app0,Nat.zero_mul]; rfl)
   · have hx:xs≠[]:=fun e=>h0 (by
       rw [e,List.length_nil] at hn
       rcases Nat.mul_eq_zero.1 hn.symm with h | h
       · exact h
       · omega)
     rw [if_neg h0,if_neg hx]
     have hg:(G++[AObj.cells [] E,.cells xs E])[G.length+1]? =some (.cells xs E):=by
       rw [List.getElem?_append_right (Nat.le_add_right _ _),Nat.add_sub_cancel_left]; rfl
     refine .at _ _ _ _ _ xs _ (Nat.le_add_right _ _) hg (Nat.le_refl _) (by rw [hn,Nat.zero_add]; exact Nat.le_refl _) ?_
     unfold rdCells
     rw [hg]
     simp only
     rw [if_pos (by omega),List.drop_zero,List.take_of_length_le (by omega)]
theorem cloneV_cells (es n:Nat) (v:AV) (b:Nat):(cloneV es n v b).cells=[cloneV es n v b]/\(cloneV es n v b).one=true:=by
 unfold cloneV
 split
 · exact ⟨rfl,rfl⟩
 · split <;> exact ⟨rfl,rfl⟩
theorem at22c:AppT Tryz.prog 22 (some 22) 66 5:=⟨by kernel_rfl,⟨(zeroA Tryz.prog 66).getD uA,by kernel_rfl,by kernel_rfl,by (have h:((zeroA Tryz.prog 66).getD uA).cells.length=5:=by kernel_rfl); intro e; rw [e] at h; cases h⟩,by kernel_rfl,by kernel_rfl⟩
theorem bs22e' (H:AH):buildSliceA Tryz.prog none 22 0 [] H=some (.slice H.length 0 5 0 0 true,H++[.cells [] 66]):=by kernel_rfl
theorem bs22e (H L:AH):buildSliceA Tryz.prog none 22 0 [] (H++L)=some (.slice (H.length+L.length) 0 5 0 0 true,H++(L++[.cells [] 66])):=by rw [bs22e',List.length_append,List.append_assoc]
theorem nil22e (H:AH) (i k e l c:Nat) (x:Bool) (fb:Option AV):binV .eql 22 (.slice i k e l c x) .nilSlice H fb=some (.bool false):=by
 have h:eqA Tryz.prog 22 H (.slice i k e l c x) .nilSlice=some false:=by kernel_rfl
 unfold binV; simp only [h]; try rfl
theorem nil22n (H:AH) (fb:Option AV):binV .eql 22 .nilSlice .nilSlice H fb=some (.bool true):=by
 have h:eqA Tryz.prog 22 H .nilSlice .nilSlice=some true:=by kernel_rfl
 unfold binV; simp only [h]
theorem ev27 {H:AH} {v:AV} {rows:List (List AV)} (h:SlS 22 5 H v rows) (hr:∀ r∈rows,r.length=5) (hg:growOk (Tryz.prog.bytesOf 66) rows.length=true) (L:AH):Ev Tryz.prog C0 W0 27 [v] (H++L)=some (cloneV 5 rows.length v (H.length+L.length),H++(L++cloneL 66 v rows.flatten)):=by
 rcases h.old with ⟨rfl,rfl⟩ | ⟨i,k,c,e,rfl,_,_⟩
 · clear hg hr
   obtain ⟨tm,ht,g0,g1⟩:=tm1 (.nilSlice) 8 (by decide)
   rw [fe27,ht]
   simp -implicitDefEqProofs only [c27,Tryz.f27,aP,g0,g1,↓nil22n,↓evDn,evUp,eu,sevalprocAttr]
   simp only [cloneV,cloneL,List.append_nil]
 · obtain ⟨tm,ht,g0,g1⟩:=tm1 (.slice i k 5 rows.length c e) 8 (by decide)
   rw [fe27,ht]
   have he:=clone_app at22c (by decide) h hr (by simp) hg L
   simp -implicitDefEqProofs only [c27,Tryz.f27,aP,g0,g1,↓nil22e,bs22e,↓callA_append,he,↓evDn,evUp,eu,sevalprocAttr]
theorem at62c:AppT Tryz.prog 62 (some 62) 74 2:=⟨by kernel_rfl,⟨(zeroA Tryz.prog 74).getD uA,by kernel_rfl,by kernel_rfl,by (have h:((zeroA Tryz.prog 74).getD uA).cells.length=2:=by kernel_rfl); intro e; rw [e] at h; cases h⟩,by kernel_rfl,by kernel_rfl⟩
theorem bs62e' (H:AH):buildSliceA Tryz.prog none 62 0 [] H=some (.slice H.length 0 2 0 0 true,H++[.cells [] 74]):=by kernel_rfl
theorem bs62e (H L:AH):buildSliceA Tryz.prog none 62 0 [] (H++L)=some (.slice (H.length+L.length) 0 2 0 0 true,H++(L++[.cells [] 74])):=by rw [bs62e',List.length_append,List.append_assoc]
theorem nil62e (H:AH) (i k e l c:Nat) (x:Bool) (fb:Option AV):binV .eql 62 (.slice i k e l c x) .nilSlice H fb=some (.bool false):=by
 have h:eqA Tryz.prog 62 H (.slice i k e l c x) .nilSlice=some false:=by kernel_rfl
 unfold binV; simp only [h]; try rfl
theorem nil62n (H:AH) (fb:Option AV):binV .eql 62 .nilSlice .nilSlice H fb=some (.bool true):=by
 have h:eqA Tryz.prog 62 H .nilSlice .nilSlice=some true:=by kernel_rfl
 unfold binV; simp only [h]
theorem ev29 {H:AH} {v:AV} {rows:List (List AV)} (h:SlS 62 2 H v rows) (hr:∀ r∈rows,r.length=2) (hg:growOk (Tryz.prog.bytesOf 74) rows.length=true) (L:AH):Ev Tryz.prog C0 W0 29 [v] (H++L)=some (cloneV 2 rows.length v (H.length+L.length),H++(L++cloneL 74 v rows.flatten)):=by
 rcases h.old with ⟨rfl,rfl⟩ | ⟨i,k,c,e,rfl,_,_⟩
 · clear hg hr
   obtain ⟨tm,ht,g0,g1⟩:=tm1 (.nilSlice) 8 (by decide)
   rw [fe29,ht]
   simp -implicitDefEqProofs only [c29,Tryz.f29,aP,g0,g1,↓nil62n,↓evDn,evUp,eu,sevalprocAttr]
   simp only [cloneV,cloneL,List.append_nil]
 · obtain ⟨tm,ht,g0,g1⟩:=tm1 (.slice i k 2 rows.length c e) 8 (by decide)
   rw [fe29,ht]
   have he:=clone_app at62c (by decide) h hr (by simp) hg L
   simp -implicitDefEqProofs only [c29,Tryz.f29,aP,g0,g1,↓nil62e,bs62e,↓callA_append,he,↓evDn,evUp,eu,sevalprocAttr]
theorem at63c:AppT Tryz.prog 63 (some 63) 77 2:=⟨by kernel_rfl,⟨(zeroA Tryz.prog 77).getD uA,by kernel_rfl,by kernel_rfl,by (have h:((zeroA Tryz.prog 77).getD uA).cells.length=2:=by kernel_rfl); intro e; rw [e] at h; cases h⟩,by kernel_rfl,by kernel_rfl⟩
theorem bs63e' (H:AH):buildSliceA Tryz.prog none 63 0 [] H=some (.slice H.length 0 2 0 0 true,H++[.cells [] 77]):=by kernel_rfl
theorem bs63e (H L:AH):buildSliceA Tryz.prog none 63 0 [] (H++L)=some (.slice (H.length+L.length) 0 2 0 0 true,H++(L++[.cells [] 77])):=by rw [bs63e',List.length_append,List.append_assoc]
theorem nil63e (H:AH) (i k e l c:Nat) (x:Bool) (fb:Option AV):binV .eql 63 (.slice i k e l c x) .nilSlice H fb=some (.bool false):=by
 have h:eqA Tryz.prog 63 H (.slice i k e l c x) .nilSlice=some false:=by kernel_rfl
 unfold binV; simp only [h]; try rfl
theorem nil63n (H:AH) (fb:Option AV):binV .eql 63 .nilSlice .nilSlice H fb=some (.bool true):=by
 have h:eqA Tryz.prog 63 H .nilSlice .nilSlice=some true:=by kernel_rfl
 unfold binV; simp only [h]
theorem ev30 {H:AH} {v:AV} {rows:List (List AV)} (h:SlS 63 2 H v rows) (hr:∀ r∈rows,r.length=2) (hg:growOk (Tryz.prog.bytesOf 77) rows.length=true) (L:AH):Ev Tryz.prog C0 W0 30 [v] (H++L)=some (cloneV 2 rows.length v (H.length+L.length),H++(L++cloneL 77 v rows.flatten)):=by
 rcases h.old with ⟨rfl,rfl⟩ | ⟨i,k,c,e,rfl,_,_⟩
 · clear hg hr
   obtain ⟨tm,ht,g0,g1⟩:=tm1 (.nilSlice) 8 (by decide)
   rw [fe30,ht]
   simp -implicitDefEqProofs only [c30,Tryz.f30,aP,g0,g1,↓nil63n,↓evDn,evUp,eu,sevalprocAttr]
   simp only [cloneV,cloneL,List.append_nil]
 · obtain ⟨tm,ht,g0,g1⟩:=tm1 (.slice i k 2 rows.length c e) 8 (by decide)
   rw [fe30,ht]
   have he:=clone_app at63c (by decide) h hr (by simp) hg L
   simp -implicitDefEqProofs only [c30,Tryz.f30,aP,g0,g1,↓nil63e,bs63e,↓callA_append,he,↓evDn,evUp,eu,sevalprocAttr]
theorem at64c:AppT Tryz.prog 64 (some 64) 80 8:=⟨by kernel_rfl,⟨(zeroA Tryz.prog 80).getD uA,by kernel_rfl,by kernel_rfl,by (have h:((zeroA Tryz.prog 80).getD uA).cells.length=8:=by kernel_rfl); intro e; rw [e] at h; cases h⟩,by kernel_rfl,by kernel_rfl⟩
theorem bs64e' (H:AH):buildSliceA Tryz.prog none 64 0 [] H=some (.slice H.length 0 8 0 0 true,H++[.cells [] 80]):=by kernel_rfl
theorem bs64e (H L:AH):buildSliceA Tryz.prog none 64 0 [] (H++L)=some (.slice (H.length+L.length) 0 8 0 0 true,H++(L++[.cells [] 80])):=by rw [bs64e',List.length_append,List.append_assoc]
theorem nil64e (H:AH) (i k e l c:Nat) (x:Bool) (fb:Option AV):binV .eql 64 (.slice i k e l c x) .nilSlice H fb=some (.bool false):=by
 have h:eqA Tryz.prog 64 H (.slice i k e l c x) .nilSlice=some false:=by kernel_rfl
 unfold binV; simp only [h]; try rfl
theorem nil64n (H:AH) (fb:Option AV):binV .eql 64 .nilSlice .nilSlice H fb=some (.bool true):=by
 have h:eqA Tryz.prog 64 H .nilSlice .nilSlice=some true:=by kernel_rfl
 unfold binV; simp only [h]
theorem ev31 {H:AH} {v:AV} {rows:List (List AV)} (h:SlS 64 8 H v rows) (hr:∀ r∈rows,r.length=8) (hg:growOk (Tryz.prog.bytesOf 80) rows.length=true) (L:AH):Ev Tryz.prog C0 W0 31 [v] (H++L)=some (cloneV 8 rows.length v (H.length+L.length),H++(L++cloneL 80 v rows.flatten)):=by
 rcases h.old with ⟨rfl,rfl⟩ | ⟨i,k,c,e,rfl,_,_⟩
 · clear hg hr
   obtain ⟨tm,ht,g0,g1⟩:=tm1 (.nilSlice) 8 (by decide)
   rw [fe31,ht]
   simp -implicitDefEqProofs only [c31,Tryz.f31,aP,g0,g1,↓nil64n,↓evDn,evUp,eu,sevalprocAttr]
   simp only [cloneV,cloneL,List.append_nil]
 · obtain ⟨tm,ht,g0,g1⟩:=tm1 (.slice i k 8 rows.length c e) 8 (by decide)
   rw [fe31,ht]
   have he:=clone_app at64c (by decide) h hr (by simp) hg L
   simp -implicitDefEqProofs only [c31,Tryz.f31,aP,g0,g1,↓nil64e,bs64e,↓callA_append,he,↓evDn,evUp,eu,sevalprocAttr]
theorem at32c:AppT Tryz.prog 32 (some 32) 21 1:=⟨by kernel_rfl,⟨(zeroA Tryz.prog 21).getD uA,by kernel_rfl,by kernel_rfl,by (have h:((zeroA Tryz.prog 21).getD uA).cells.length=1:=by kernel_rfl); intro e; rw [e] at h; cases h⟩,by kernel_rfl,by kernel_rfl⟩
theorem bs32e' (H:AH):buildSliceA Tryz.prog none 32 0 [] H=some (.slice H.length 0 1 0 0 true,H++[.cells [] 21]):=by kernel_rfl
theorem bs32e (H L:AH):buildSliceA Tryz.prog none 32 0 [] (H++L)=some (.slice (H.length+L.length) 0 1 0 0 true,H++(L++[.cells [] 21])):=by rw [bs32e',List.length_append,List.append_assoc]
theorem nil32e (H:AH) (i k e l c:Nat) (x:Bool) (fb:Option AV):binV .eql 32 (.slice i k e l c x) .nilSlice H fb=some (.bool false):=by
 have h:eqA Tryz.prog 32 H (.slice i k e l c x) .nilSlice=some false:=by kernel_rfl
 unfold binV; simp only [h]; try rfl
theorem nil32n (H:AH) (fb:Option AV):binV .eql 32 .nilSlice .nilSlice H fb=some (.bool true):=by
 have h:eqA Tryz.prog 32 H .nilSlice .nilSlice=some true:=by kernel_rfl
 unfold binV; simp only [h]
theorem ev32 {H:AH} {v:AV} {rows:List (List AV)} (h:SlS 32 1 H v rows) (hr:∀ r∈rows,r.length=1) (hg:growOk (Tryz.prog.bytesOf 21) rows.length=true) (L:AH):Ev Tryz.prog C0 W0 32 [v] (H++L)=some (cloneV 1 rows.length v (H.length+L.length),H++(L++cloneL 21 v rows.flatten)):=by
 rcases h.old with ⟨rfl,rfl⟩ | ⟨i,k,c,e,rfl,_,_⟩
 · clear hg hr
   obtain ⟨tm,ht,g0,g1⟩:=tm1 (.nilSlice) 8 (by decide)
   rw [fe32,ht]
   simp -implicitDefEqProofs only [c32,Tryz.f32,aP,g0,g1,↓nil32n,↓evDn,evUp,eu,sevalprocAttr]
   simp only [cloneV,cloneL,List.append_nil]
 · obtain ⟨tm,ht,g0,g1⟩:=tm1 (.slice i k 1 rows.length c e) 8 (by decide)
   rw [fe32,ht]
   have he:=clone_app at32c (by decide) h hr (by simp) hg L
   simp -implicitDefEqProofs only [c32,Tryz.f32,aP,g0,g1,↓nil32e,bs32e,↓callA_append,he,↓evDn,evUp,eu,sevalprocAttr]
theorem at31c:AppT Tryz.prog 31 (some 31) 34 9:=⟨by kernel_rfl,⟨(zeroA Tryz.prog 34).getD uA,by kernel_rfl,by kernel_rfl,by (have h:((zeroA Tryz.prog 34).getD uA).cells.length=9:=by kernel_rfl); intro e; rw [e] at h; cases h⟩,by kernel_rfl,by kernel_rfl⟩
theorem cp_loop {HK HK':Nat->AH} {n N:Nat} {vm:AV} {w w':Nat->AV} (hix:∀ j,j < n->∃ i k,(∀ kk,indexAddrA Tryz.prog 24 vm (.int kk (j:Int))=some (.ptr i k))/\rdCells (HK j) i k 1=some [w j])
   (h32:∀ j,j < n->Ev Tryz.prog C0 W0 32 [w j] (HK j)=some (w' j,HK' j)) (hc:∀ j,j < n->(w' j).cells=[w' j]) (hwr:∀ j,j < n->wrCells (HK' j) N j [w' j]=some (HK (j+1))) (hn:n < 2 ^ 60) :
   ∀ (d j:Nat) (tm:List AV),n - j=d->j<=n->tm.length=23->tm.getD 3 uA=.slice N 0 1 n n true->tm.getD 9 uA=vm->tm.getD 10 uA=I n->tm.getD 11 uA=I (j:Int) ->
   ∃ X,EvC Tryz.prog C0 W0 plN l28_0 (tm,HK j)=some (.exit 0,(X,HK n))/\X.length=23/\X.getD 3 uA=.slice N 0 1 n n true:=by
 intro d
 induction d with
 | zero =>
   intro j tm hd hj hlen h3 h9 h10 h11
   have hjl:j=n:=by omega
   subst hjl
   have hlt:ltB (j:Int) (j:Nat)=false:=ltB_f (by omega)
   rw [el28_0]
   simp -implicitDefEqProofs only [b28_0,Tryz.f28,aP,hlen,h3,h9,h10,h11,hlt,↓evDn,evUp,eu,sevalprocAttr]
   exact ⟨_,rfl,by first | exact hlen | simp only [List.length_set,hlen],by first | exact h3 | simp only [hlen,h3,gB,sevalprocAttr]⟩
 | succ d ih =>
   intro j tm hd hj hlen h3 h9 h10 h11
   have hjn:j < n:=by omega
   have hlt:ltB (j:Int) (n:Nat)=true:=ltB_t (by omega)
   have hw:=inc_i (j:=j) (by omega)
   obtain ⟨i,k,hi,hr⟩:=hix j hjn
   have h1:=h32 j hjn
   have h2:=hc j hjn
   have h4:=hwr j hjn
   have hia:∀ kk,indexAddrA Tryz.prog 24 (.slice N 0 1 n n true) (.int kk (j:Int))=some (.ptr N j):=fun kk=>by
     rw [ia24,if_pos ⟨by omega,by omega,rfl⟩,Int.toNat_natCast,Nat.mul_one,Nat.zero_add]
   rw [el28_0]
   simp -implicitDefEqProofs only [b28_0,Tryz.f28,aP,hlen,h3,h9,h10,h11,hlt,hw,hi,hr,↓fc32,h1,↓h2,h4,hia,st32,r5,↓evLd,↓evDn,evUp,eu,sevalprocAttr]
   generalize hX:EvC Tryz.prog C0 W0 _ _ _=Z
   have key:∀ (tm1:List AV),EvC Tryz.prog C0 W0 plN l28_0 (tm1,HK (j+1))=Z->tm1.length=23->tm1.getD 3 uA=.slice N 0 1 n n true->tm1.getD 9 uA=vm->tm1.getD 10 uA=I n->tm1.getD 11 uA=I ((j+1:Nat):Int)->∃ X,Z=some (.exit 0,(X,HK n))/\X.length=23/\X.getD 3 uA=.slice N 0 1 n n true:=by
     intro tm1 h hl1 h3 h9 h10 h11
     obtain ⟨X,he,hr⟩:=ih (j+1) tm1 (by omega) (by omega) hl1 h3 h9 h10 h11
     exact ⟨X,h.symm.trans he,hr⟩
   exact key _ hX (by simp only [ls,hlen]) (by simp only [hlen,h3,gB,sevalprocAttr]) (by simp only [hlen,h9,gB,sevalprocAttr]) (by simp only [hlen,h10,gB,sevalprocAttr]) (by simp only [hlen,h11,gB,sevalprocAttr])
theorem zrow1 (z:AV) (n:Nat):zrow [z] n=List.replicate n z:=by
 unfold zrow
 refine List.ext_getElem (by simp) fun i h1 h2=>?_
 simp [Nat.mod_one]
def memStep (N:Nat) (p:List AV × AH) (b:List Int × AV):List AV × AH:=(p.1++[cloneV 1 b.1.length b.2 (N+1+p.2.length)],p.2++cloneL 21 b.2 (b.1.map fun x=>.int .i32 x))
def memW (N:Nat) (l:List (List Int × AV)):List AV × AH:=l.foldl (memStep N) ([],[])
theorem memW_snoc (N:Nat) (l:List (List Int × AV)) (b:List Int × AV):memW N (l++[b])=memStep N (memW N l) b:=by
 unfold memW; rw [List.foldl_append]; rfl
theorem memW_len (N:Nat) (l:List (List Int × AV)):(memW N l).1.length=l.length:=by
 have key:∀ (l:List (List Int × AV)) (p:List AV × AH),(l.foldl (memStep N) p).1.length=p.1.length+l.length:=by
   intro l
   induction l with
   | nil=>intro p; rfl
   | cons b l ih=>intro p; rw [List.foldl_cons,ih]; simp [memStep]; omega
 unfold memW
 rw [key]; simp
theorem wr_obj {K:AH} {b:Nat} {cs:List AV} {e:TypeId} (h:K[b]? =some (.cells cs e)) {k:Nat} {x:AV} (hk:k < cs.length) (hx:x.one=true):wrCells K b k [x]=some (K.set b (.cells (cs.set k x) e)):=by
 unfold wrCells
 rw [h]
 simp only
 rw [if_pos ⟨by simp; omega,by simp [hx]⟩]; rfl
theorem ms24 (n:Nat) (hn:n<=1000) (H:AH):makeSliceA Tryz.prog none 24 (I n) (I n) H=some (.slice H.length 0 1 n n true,H++[.cells (List.replicate n .nilSlice) 32]):=by
 have hz:zeroA Tryz.prog 32=some .nilSlice:=by kernel_rfl
 have hs:sliceElem Tryz.prog 24=some 32:=by kernel_rfl
 have hb:Tryz.prog.bytesOf 32=24:=by kernel_rfl
 have hc:Tryz.prog.cellsOf 32=1:=by kernel_rfl
 unfold makeSliceA
 simp only [hs,hz,Option.bind_some]
 rw [if_pos ⟨by omega,by omega,by omega,by rw [hb]; omega,by simp [AV.cells]⟩]
 rw [hc,Nat.mul_one,Int.toNat_natCast]
 show Option.map _ (put none H (.cells (zrow [.nilSlice] n) 32))=_
 rw [zrow1]; rfl
theorem by21:Tryz.prog.bytesOf 21=4:=by kernel_rfl
theorem grow21 {n:Nat} (h:n<=1000):growOk (Tryz.prog.bytesOf 21) n=true:=by
 rw [by21]; unfold growOk; rw [Bool.and_eq_true,decide_eq_true_iff,decide_eq_true_iff]; constructor <;> omega
theorem row1_flat (l:List Int):(l.map row1).flatten=l.map fun x=>AV.int .i32 x:=flat1 _ l
theorem row1_len (l:List Int):∀ r∈l.map row1,r.length=1:=by
 intro r hr
 obtain ⟨n,_,rfl⟩:=List.mem_map.1 hr
 rfl
theorem ev32i {H:AH} {v:AV} {b:List Int} (h:SlS 32 1 H v (b.map row1)) (hb:b.length<=1000) (L:AH):Ev Tryz.prog C0 W0 32 [v] (H++L)=some (cloneV 1 b.length v (H.length+L.length),H++(L++cloneL 21 v (b.map fun x=>.int .i32 x))):=by
 have:=ev32 h (row1_len b) (by rw [List.length_map]; exact grow21 hb) L
 rwa [List.length_map,row1_flat] at this
theorem ev28 {H:AH} {l:List (List Int × AV)} {vm:AV} (hs:SlS 24 1 H vm (l.map fun p=>[p.2])) (hp:∀ p∈l,SlS 32 1 H p.2 (p.1.map row1)) (hn:l.length<=100) (hb:∀ p∈l,p.1.length<=1000) (L:AH) :
   Ev Tryz.prog C0 W0 28 [vm] (H++L)=some (.slice (H.length+L.length) 0 1 l.length l.length true,H++(L++(.cells (memW (H.length+L.length) l).1 32::(memW (H.length+L.length) l).2))):=by
 have hlen0:∀ G,lenA Tryz.prog 24 G vm=some (I l.length):=fun G=>by have:=hs.len G; rwa [List.length_map] at this
 have hvc:=hs.cells
 have hvo:=hs.one
 have hms:=ms24 l.length (by omega) (H++L)
 generalize hN:H.length+L.length=N
 rw [List.length_append,hN] at hms
 let HK:Nat->AH:=fun j=>H++(L++(.cells ((memW N (l.take j)).1++List.replicate (l.length - j) .nilSlice) 32::(memW N (l.take j)).2))
 let w:Nat->AV:=fun j=>(l.getD j ([],uA)).2
 let bb:Nat->List Int:=fun j=>(l.getD j ([],uA)).1
 let w':Nat->AV:=fun j=>cloneV 1 (bb j).length (w j) (N+1+(memW N (l.take j)).2.length)
 let HK':Nat->AH:=fun j=>H++(L++(.cells ((memW N (l.take j)).1++List.replicate (l.length - j) .nilSlice) 32::((memW N (l.take j)).2++cloneL 21 (w j) ((bb j).map fun x=>.int .i32 x))))
 have hl:∀ j (hj:j < l.length),l.getD j ([],uA)=l[j]:=fun j hj=>by rw [gde,List.getElem?_eq_getElem hj]; rfl
 have hix:∀ j,j < l.length->∃ i k,(∀ kk,indexAddrA Tryz.prog 24 vm (.int kk (j:Int))=some (.ptr i k))/\rdCells (HK j) i k 1=some [w j]:=fun j hj=>by
   obtain ⟨i,k,h1,h2⟩:=hs.ix j [w j] (by rw [List.getElem?_map,List.getElem?_eq_getElem hj]; show some [(l[j]).2]=some [(l.getD j ([],uA)).2]; rw [hl j hj])
   exact ⟨i,k,h1,rd_same (Agree.app H _) h2⟩
 have h32:∀ j,j < l.length->Ev Tryz.prog C0 W0 32 [w j] (HK j)=some (w' j,HK' j):=fun j hj=>by
   have hmem:l.getD j ([],uA)∈l:=by rw [hl j hj]; exact List.getElem_mem _
   have:=ev32i (hp _ hmem) (hb _ hmem) (L++(.cells ((memW N (l.take j)).1++List.replicate (l.length - j) .nilSlice) 32::(memW N (l.take j)).2))
   rw [List.length_append,List.length_cons,<-Nat.add_assoc,hN,Nat.add_comm (memW N (l.take j)).2.length 1,<-Nat.add_assoc,List.append_assoc,List.cons_append] at this
   exact this
 have hc:∀ j,j < l.length->(w' j).cells=[w' j]:=fun j _=>(cloneV_cells _ _ _ _).1
 have hwr:∀ j,j < l.length->wrCells (HK' j) N j [w' j]=some (HK (j+1)):=fun j hj=>by
   have hml:(memW N (l.take j)).1.length=j:=by rw [memW_len,List.length_take,Nat.min_eq_left (Nat.le_of_lt hj)]
   have hg:(HK' j)[N]? =some (.cells ((memW N (l.take j)).1++List.replicate (l.length - j) .nilSlice) 32):=by
     show (H++(L++_))[N]? =_
     rw [<-hN,List.getElem?_append_right (Nat.le_add_right _ _),Nat.add_sub_cancel_left,List.getElem?_append_right (Nat.le_refl _),Nat.sub_self]; rfl
   rw [wr_obj hg (by rw [List.length_append,hml,List.length_replicate]; omega) (cloneV_cells _ _ _ _).2]
   congr 1
   have ht:l.take (j+1)=l.take j++[l.getD j ([],uA)]:=by rw [List.take_add_one,List.getElem?_eq_getElem hj,hl j hj]; rfl
   show (H++(L++_)).set N _=H++(L++_)
   rw [<-hN,List.set_append_right _ _ (Nat.le_add_right _ _),Nat.add_sub_cancel_left,List.set_append_right _ _ (Nat.le_refl _),Nat.sub_self,List.set_cons_zero]
   rw [hN,ht,memW_snoc]
   show H++(L++_)=H++(L++(AObj.cells ((_++[_])++_) 32::(_++_)))
   congr 3
   rw [List.set_append_right _ _ (by rw [hml]; exact Nat.le_refl _),hml,Nat.sub_self,show l.length - j=(l.length - (j+1))+1 by omega,List.replicate_succ,List.set_cons_zero,List.append_assoc]; rfl
 have hloop:=cp_loop (N:=N) hix h32 hc hwr (by omega) l.length 0
 have hK0:HK 0=H++(L++[.cells (List.replicate l.length .nilSlice) 32]):=by
   show H++(L++(.cells ((memW N (l.take 0)).1++_) 32::(memW N (l.take 0)).2))=_
   rw [List.take_zero]; rfl
 have hKn:HK l.length=H++(L++(.cells (memW N l).1 32::(memW N l).2)):=by
   show H++(L++(.cells ((memW N (l.take l.length)).1++List.replicate (l.length - l.length) _) 32::(memW N (l.take l.length)).2))=_
   rw [List.take_length,Nat.sub_self,List.replicate_zero,List.append_nil]
 rw [<-hKn]
 rw [hK0] at hloop
 rw [List.append_assoc] at hms
 clear_value HK HK' w w'
 generalize H++L=HL at *
 obtain ⟨tm,ht,g0,g1⟩:=tm1 vm 23 (by decide)
 rw [fe28,ht]
 generalize H++(L++[.cells (List.replicate l.length .nilSlice) 32])=H1 at *
 simp -implicitDefEqProofs only [c28,Tryz.f28,aP,g0,g1,hlen0,↓aop_makeSlice,hms,r5,↓evLd,↓evDn,evUp,eu,sevalprocAttr]
 generalize hX:EvC Tryz.prog C0 W0 _ (Code.loop _) _=Z
 obtain ⟨X,he,x0,x3⟩:∃ X,Z=some (.exit 0,(X,HK l.length))/\X.length=23/\X.getD 3 uA=.slice N 0 1 l.length l.length true:=by
   rw [<-hX]
   refine hloop _ (by omega) (by omega) ?_ ?_ ?_ ?_ ?_
   · simp only [List.length_set,g0]
   · simp only [g0,gB,sevalprocAttr]
   · simp only [g0,g1,gB,sevalprocAttr]
   · simp only [g0,gB,sevalprocAttr]
   · simp only [g0,gB,sevalprocAttr]; try rfl
 subst he
 simp -implicitDefEqProofs only [x0,x3,↓evDn,evUp,eu,sevalprocAttr]
theorem peq37 (H:AH) (i k:Nat) (fb:Option AV):binV .eql 37 (.ptr i k) .nilPtr H fb=some (.bool false):=by
 have h:eqA Tryz.prog 37 H (.ptr i k) .nilPtr=some false:=by kernel_rfl
 unfold binV; simp only [h]; try rfl
theorem seq30 (H:AH) (i k e l c:Nat) (x:Bool) (fb:Option AV):binV .eql 30 (.slice i k e l c x) .nilSlice H fb=some (.bool false):=by
 have h:eqA Tryz.prog 30 H (.slice i k e l c x) .nilSlice=some false:=by kernel_rfl
 unfold binV; simp only [h]; try rfl
theorem nck (i k:Nat):nilCheckA (.ptr i k)=some (.ptr i k):=rfl
theorem ia69 (i k:Nat) (kk:IntKind) (n:Int):indexAddrA Tryz.prog 69 (.ptr i k) (.int kk n)=if 0<=n/\n < 16 then some (.ptr i (k+n.toNat * 1)) else none:=by kernel_rfl
theorem left_l {G:AH} {q:Nat} {vc vm vs va:AV} {f:Con} {ss:List (List Itm)} {ad:List Nat} {m:List (List Int)} {rc:List Bool} (h:QueV G q vc vm vs va f ss ad m rc 0) (hN:ss.length < 2 ^ 60):∀ (d j:Nat) (tm:List AV) (K:AH),ss.length - j=d->j<=ss.length->(tm.length=34/\Agree G K/\tm.getD 0 uA=.ptr q 0/\tm.getD 12 uA=vs/\tm.getD 13 uA=I ss.length/\tm.getD 14 uA=I ((j:Nat):Int)/\∃ v,tm.getD 3 uA=v/\Own G.length K 1 3 v ((leftS ss ad j).map fun (n:Nat)=>I (n:Int))) ->
   ∃ X K1,EvC Tryz.prog C0 W0 plN l14_0 (tm,K)=some (.exit 0,(X,K1))/\(X.length=34/\Agree G K1/\X.getD 0 uA=.ptr q 0/\X.getD 12 uA=vs/\X.getD 13 uA=I ss.length/\X.getD 14 uA=I ((ss.length:Nat):Int)/\∃ v,X.getD 3 uA=v/\Own G.length K1 1 3 v ((leftS ss ad ss.length).map fun (n:Nat)=>I (n:Int))):=by
 intro d
 induction d with
 | zero =>
   intro j tm K hd hj hI
   have hjl:j=ss.length:=by omega
   subst hjl
   have hI0:=hI
   obtain ⟨hlen,hA,h0,h12,h13,h14,v,h3,ho⟩:=hI
   have hlt:ltB (((ss.length:Nat)):Int) (ss.length:Nat)=false:=ltB_f (by omega)
   rw [el14_0]
   simp -implicitDefEqProofs only [b14_0,Tryz.f14,aP,hlen,h0,h12,h13,h14,h3,hlt,↓cbT,↓cbF,↓evDn,evUp,eu,sevalprocAttr]
   refine ⟨_,K,rfl,?_⟩
   exact ⟨by first | exact hlen | simp only [List.length_set,hlen],hA,Aj4 (by simp only [hlen,h0,h12,h13,h14,gB,and_self,sevalprocAttr]) ⟨v,by simp only [hlen,h3,gB,sevalprocAttr],ho⟩⟩
 | succ d ih =>
   intro j tm K hd hj hI
   have hI0:=hI
   obtain ⟨hlen,hA,h0,h12,h13,h14,v,h3,ho⟩:=hI
   have hjN:j < ss.length:=by omega
   have hlt:ltB (j:Int) (ss.length:Nat)=true:=ltB_t (by omega)
   have hw:=inc_i (j:=j) (by omega)
   have hq10:∀ L,rdCells (K++L) q 10 1=some [va]:=fun L=>by have:=h.cell hA L 10 (x:=va) rfl; rwa [Nat.zero_add] at this
   obtain ⟨i0,k0,w0,hix0,hrd0,hxs⟩:=h.s.at hA hjN
   have hln:=hxs.len
   obtain ⟨i1,k1,hix1,hrd1⟩:=h.at hA hjN
   have hle:=h.le j hjN
   have hn1:=hxs.n
   have hsub:IntKind.i64.wrap (((strAt ss j).length:Int) - ((ad.getD j 0:Nat):Int))=(((strAt ss j).length - ad.getD j 0:Nat):Int):=by rw [wr_i (by omega)]; omega
   obtain ⟨v',K',happ,hA',ho',_⟩:=app_int hA ho (by unfold leftS; rw [List.length_map,List.length_range]; have:=h.fs; omega) ((strAt ss j).length - ad.getD j 0)
   rw [<-leftS_succ] at ho'
   rw [el14_0]
   rw [<-List.append_nil K]
   have key:∀ (tmN:List AV) (KN:AH) (Z:Option (AExit × St)),EvC Tryz.prog C0 W0 plN l14_0 (tmN,KN)=Z->(tmN.length=34/\Agree G KN/\tmN.getD 0 uA=.ptr q 0/\tmN.getD 12 uA=vs/\tmN.getD 13 uA=I ss.length/\tmN.getD 14 uA=I (((j+1):Nat):Int)/\∃ v,tmN.getD 3 uA=v/\Own G.length KN 1 3 v ((leftS ss ad (j+1)).map fun (n:Nat)=>I (n:Int)))->∃ X K1,Z=some (.exit 0,(X,K1))/\(X.length=34/\Agree G K1/\X.getD 0 uA=.ptr q 0/\X.getD 12 uA=vs/\X.getD 13 uA=I ss.length/\X.getD 14 uA=I ((ss.length:Nat):Int)/\∃ v,X.getD 3 uA=v/\Own G.length K1 1 3 v ((leftS ss ad ss.length).map fun (n:Nat)=>I (n:Int))):=by
     intro tmN KN Z h hJ
     obtain ⟨X,K1,A,B⟩:=ih (j+1) tmN KN (by omega) (by omega) hJ
     exact ⟨X,K1,h.symm.trans A,B⟩
   simp -implicitDefEqProofs only [b14_0,Tryz.f14,aP,hlen,h0,h12,h13,h14,h3,hlt,hw,hq10,hix0,hrd0,hln,hix1,hrd1,hsub,bs30,↓callA_append,↓callA_len,happ,r5,↓evLd,nck,↓cbT,↓cbF,↓evDn,evUp,eu,sevalprocAttr]
   generalize hX:EvC Tryz.prog C0 W0 _ _ _=Z
   refine key _ _ _ hX ?_
   exact ⟨by simp only [ls,hlen],hA',Aj4 (by simp only [hlen,h0,h12,h13,h14,gB,and_self,sevalprocAttr]) ⟨v',by simp only [hlen,h3,gB,sevalprocAttr],ho'⟩⟩
theorem left_l' {G:AH} {q:Nat} {vc vm vs va:AV} {f:Con} {ss:List (List Itm)} {ad:List Nat} {m:List (List Int)} {rc:List Bool} {tm:List AV} {K:AH} {Z:Option (AExit × St)} (hX:EvC Tryz.prog C0 W0 plN l14_0 (tm,K)=Z) (h:QueV G q vc vm vs va f ss ad m rc 0) (hN:ss.length < 2 ^ 60) (hI:tm.length=34/\Agree G K/\tm.getD 0 uA=.ptr q 0/\tm.getD 12 uA=vs/\tm.getD 13 uA=I ss.length/\tm.getD 14 uA=I ((0:Nat):Int)/\∃ v,tm.getD 3 uA=v/\Own G.length K 1 3 v ((leftS ss ad 0).map fun (n:Nat)=>I (n:Int))) :
   ∃ X K1,Z=some (.exit 0,(X,K1))/\(X.length=34/\Agree G K1/\X.getD 0 uA=.ptr q 0/\X.getD 12 uA=vs/\X.getD 13 uA=I ss.length/\X.getD 14 uA=I ((ss.length:Nat):Int)/\∃ v,X.getD 3 uA=v/\Own G.length K1 1 3 v ((leftS ss ad ss.length).map fun (n:Nat)=>I (n:Int))):=by
 subst hX
 exact left_l h hN (ss.length) 0 tm K (by omega) (by omega) hI
theorem ev14 {G:AH} {q:Nat} {vc vm vs va:AV} {f:Con} {ss:List (List Itm)} {ad:List Nat} {m:List (List Int)} {rc:List Bool} (h:QueV G q vc vm vs va f ss ad m rc 0):∃ v K,Ev Tryz.prog C0 W0 14 [.ptr q 0] G=some (v,K)/\Agree G K/\Own G.length K 1 3 v ((leftS ss ad ss.length).map fun (n:Nat)=>I (n:Int)):=by
 obtain ⟨tm,ht,g0,g1⟩:=tm1 (.ptr q 0) 34 (by decide)
 rw [fe14,ht]
 have hq9:rdCells G q 9 1=some [vs]:=by have:=h.cell (Agree.refl G) [] 9 (x:=vs) rfl; rwa [Nat.zero_add,List.append_nil] at this
 have hls:=h.s.len
 simp -implicitDefEqProofs only [c14,Tryz.f14,aP,g0,g1,↓peq37,hq9,hls,r5,↓evLd,nck,↓cbT,↓cbF,↓evDn,evUp,eu,sevalprocAttr]
 generalize hX:EvC Tryz.prog C0 W0 _ (Code.loop _) _=Z
 obtain ⟨X,K1,he,i0,iA,i1,i2,i3,i4,v,i5,io⟩:=left_l' hX h (by have:=h.fs; omega) ⟨by simp only [ls,g0],Agree.refl G,Aj3 (by simp only [g0,g1,gB,and_self,sevalprocAttr]) ⟨by simp only [g0,gB,sevalprocAttr]; try rfl,.nilSlice,by simp only [g0,gB,sevalprocAttr],.nil⟩⟩
 subst he
 refine ⟨v,K1,?_,iA,io⟩
 simp -implicitDefEqProofs only [aP,i0,i1,i5,↓cbT,↓cbF,↓evDn,evUp,eu,sevalprocAttr]
theorem reg33_8 {G:AH} {q:Nat} {vc vm vs va:AV} {f:Con} {ss:List (List Itm)} {ad:List Nat} {m:List (List Int)} {rc:List Bool} (h:QueV G q vc vm vs va f ss ad m rc 0) {K:AH} (hA:Agree G K) {j:Nat} (hjN:j < ss.length) {w0:AV} (hxs:ItmsR G (strAt ss j) w0) {tm:List AV} (hlen:tm.length=64) (h0:tm.getD 0 uA=.ptr q 0) (h5:tm.getD 5 uA=w0) (h6:tm.getD 6 uA=I ((ad.getD j 0:Nat):Int)) :
   ∃ tm',EvC Tryz.prog C0 W0 pl33 (atPath [true,true,true,false,true,false,false,true,true,false,false,true,true,false] (Tryz.f33.body.getD .skip)) (tm,K++[])=some (.normal,(tm',K++[]))/\tm'.length=64/\tm'.getD 57 uA=.bool (okS ss ad rc j)/\tm'.getD 0 uA=tm.getD 0 uA/\tm'.getD 3 uA=tm.getD 3 uA/\tm'.getD 4 uA=tm.getD 4 uA/\tm'.getD 20 uA=tm.getD 20 uA/\tm'.getD 21 uA=tm.getD 21 uA/\tm'.getD 22 uA=tm.getD 22 uA:=by
   have hq10:∀ L,rdCells (K++L) q 10 1=some [va]:=fun L=>by have:=h.cell hA L 10 (x:=va) rfl; rwa [Nat.zero_add] at this
   have hln:=hxs.len
   cases p1:ltB ((ad.getD j 0:Nat):Int) ((strAt ss j).length:Int) with
   | false =>
     rw [show okS ss ad rc j=false from by unfold okS; rw [p1,Bool.false_and]; try rfl]
     simp -implicitDefEqProofs only [atPath,Tryz.f33,Option.getD_some,hlen,h0,h5,h6,plr33_8,hln,hq10,r5,↓evLd,nck,p1,↓cbT,↓cbF,↓evDn,evUp,eu,sevalprocAttr]
     exact ⟨_,rfl,by simp only [ls,hlen],by simp only [hlen,h0,gB,and_self,sevalprocAttr]⟩
   | true =>
     obtain ⟨i2,k2,w2,hix2,hrd2,_⟩:=hxs.at (Agree.refl G) (j:=ad.getD j 0) (by rw [ltB_iff] at p1; omega)
     have hrd2':∀ L,rdCells (K++L) i2 k2 9=some (rowX (itmAt (strAt ss j) (ad.getD j 0)) w2):=fun L=>by have:=hrd2 []; rw [List.append_nil] at this; exact rd_same (hA.appR L) this
     have hk0:∀ L,rdCells (K++L) i2 k2 1=some [I (itmAt (strAt ss j) (ad.getD j 0)).kind]:=fun L=>by have:=rd_cell (hrd2' L) (j:=0) (x:=I (itmAt (strAt ss j) (ad.getD j 0)).kind) rfl; rwa [Nat.add_zero] at this
     cases p2:eqB (itmAt (strAt ss j) (ad.getD j 0)).kind 4 with
     | false =>
       rw [show okS ss ad rc j=true from by unfold okS; rw [p1,p2]; try rfl]
       simp -implicitDefEqProofs only [atPath,Tryz.f33,Option.getD_some,hlen,h0,h5,h6,plr33_8,hln,hq10,r5,↓evLd,nck,p1,p2,hix2,hk0,↓cbT,↓cbF,↓evDn,evUp,eu,sevalprocAttr]
       exact ⟨_,rfl,by simp only [ls,hlen],by simp only [hlen,h0,gB,and_self,sevalprocAttr]⟩
     | true =>
       have hk6:∀ L,rdCells (K++L) i2 (k2+6) 1=some [I (itmAt (strAt ss j) (ad.getD j 0)).ev]:=fun L=>rd_cell (hrd2' L) (j:=6) rfl
       have hev:=h.ev _ (strAt_mem hjN) _ (itmAt_mem (by rw [ltB_iff] at p1; omega)) (.inr ((eqB_iff _ _).1 p2))
       have hix3:∀ kk,indexAddrA Tryz.prog 69 (.ptr q 11) (.int kk (itmAt (strAt ss j) (ad.getD j 0)).ev)=some (.ptr q (11+(itmAt (strAt ss j) (ad.getD j 0)).ev.toNat)):=fun kk=>by rw [ia69,if_pos hev,Nat.mul_one]
       have hrc:∀ L,rdCells (K++L) q (11+(itmAt (strAt ss j) (ad.getD j 0)).ev.toNat) 1=some [.bool (rc.getD (itmAt (strAt ss j) (ad.getD j 0)).ev.toNat false)]:=fun L=>by
         have:=h.cell hA L (11+(itmAt (strAt ss j) (ad.getD j 0)).ev.toNat) (rowQ_rc h.lr (by omega))
         rwa [Nat.zero_add] at this
       cases p3:rc.getD (itmAt (strAt ss j) (ad.getD j 0)).ev.toNat false with
       | true =>
         rw [show okS ss ad rc j=true from by unfold okS; rw [p1,p2,p3]; try rfl]
         simp -implicitDefEqProofs only [atPath,Tryz.f33,Option.getD_some,hlen,h0,h5,h6,plr33_8,hln,hq10,r5,↓evLd,nck,p1,p2,p3,hix2,hk0,hk6,hix3,hrc,↓cbT,↓cbF,↓evDn,evUp,eu,sevalprocAttr]
         exact ⟨_,rfl,by simp only [ls,hlen],by simp only [hlen,h0,gB,and_self,sevalprocAttr]⟩
       | false =>
         rw [show okS ss ad rc j=false from by unfold okS; rw [p1,p2,p3]; try rfl]
         simp -implicitDefEqProofs only [atPath,Tryz.f33,Option.getD_some,hlen,h0,h5,h6,plr33_8,hln,hq10,r5,↓evLd,nck,p1,p2,p3,hix2,hk0,hk6,hix3,hrc,↓cbT,↓cbF,↓evDn,evUp,eu,sevalprocAttr]
         exact ⟨_,rfl,by simp only [ls,hlen],by simp only [hlen,h0,gB,and_self,sevalprocAttr]⟩
theorem reg33_8' {G:AH} {q:Nat} {vc vm vs va:AV} {f:Con} {ss:List (List Itm)} {ad:List Nat} {m:List (List Int)} {rc:List Bool} (h:QueV G q vc vm vs va f ss ad m rc 0) {K:AH} (hA:Agree G K) {j:Nat} (hjN:j < ss.length) {w0:AV} (hxs:ItmsR G (strAt ss j) w0) {tm:List AV} {R:Option (AExit × St)} (hR:EvC Tryz.prog C0 W0 pl33 (atPath [true,true,true,false,true,false,false,true,true,false,false,true,true,false] (Tryz.f33.body.getD .skip)) (tm,K++[])=R) (hlen:tm.length=64) (h0:tm.getD 0 uA=.ptr q 0) (h5:tm.getD 5 uA=w0) (h6:tm.getD 6 uA=I ((ad.getD j 0:Nat):Int)) :
   ∃ tm',R=some (.normal,(tm',K++[]))/\tm'.length=64/\tm'.getD 57 uA=.bool (okS ss ad rc j)/\tm'.getD 0 uA=tm.getD 0 uA/\tm'.getD 3 uA=tm.getD 3 uA/\tm'.getD 4 uA=tm.getD 4 uA/\tm'.getD 20 uA=tm.getD 20 uA/\tm'.getD 21 uA=tm.getD 21 uA/\tm'.getD 22 uA=tm.getD 22 uA:=by
 subst hR
 exact reg33_8 h hA hjN hxs hlen h0 h5 h6
theorem ready_l {G:AH} {q:Nat} {vc vm vs va:AV} {f:Con} {ss:List (List Itm)} {ad:List Nat} {m:List (List Int)} {rc:List Bool} (h:QueV G q vc vm vs va f ss ad m rc 0) (hN:ss.length < 2 ^ 60):∀ (d j:Nat) (tm:List AV) (K:AH),ss.length - j=d->j<=ss.length->(tm.length=64/\Agree G K/\tm.getD 0 uA=.ptr q 0/\tm.getD 20 uA=vs/\tm.getD 21 uA=I ss.length/\tm.getD 22 uA=I ((j:Nat):Int)/\∃ v,tm.getD 3 uA=v/\Own G.length K 1 3 v ((readyS ss ad rc j).map fun (n:Nat)=>I (n:Int))) ->
   ∃ X K1,EvC Tryz.prog C0 W0 pl33 l33_0 (tm,K)=some (.exit 0,(X,K1))/\(X.length=64/\Agree G K1/\X.getD 0 uA=.ptr q 0/\X.getD 20 uA=vs/\X.getD 21 uA=I ss.length/\X.getD 22 uA=I ((ss.length:Nat):Int)/\∃ v,X.getD 3 uA=v/\Own G.length K1 1 3 v ((readyS ss ad rc ss.length).map fun (n:Nat)=>I (n:Int))):=by
 intro d
 induction d with
 | zero =>
   intro j tm K hd hj hI
   have hjl:j=ss.length:=by omega
   subst hjl
   have hI0:=hI
   obtain ⟨hlen,hA,h0,h20,h21,h22,v,h3,ho⟩:=hI
   have hlt:ltB (((ss.length:Nat)):Int) (ss.length:Nat)=false:=ltB_f (by omega)
   rw [el33_0]
   simp -implicitDefEqProofs only [b33_0,Tryz.f33,aP,hlen,h0,h20,h21,h22,h3,hlt,↓cbT,↓cbF,↓evDn,evUp,eu,sevalprocAttr]
   refine ⟨_,K,rfl,?_⟩
   exact ⟨by first | exact hlen | simp only [List.length_set,hlen],hA,Aj4 (by simp only [hlen,h0,h20,h21,h22,gB,and_self,sevalprocAttr]) ⟨v,by simp only [hlen,h3,gB,sevalprocAttr],ho⟩⟩
 | succ d ih =>
   intro j tm K hd hj hI
   have hI0:=hI
   obtain ⟨hlen,hA,h0,h20,h21,h22,v,h3,ho⟩:=hI
   have hjN:j < ss.length:=by omega
   have hlt:ltB (j:Int) (ss.length:Nat)=true:=ltB_t (by omega)
   have hw:=inc_i (j:=j) (by omega)
   have hq10:∀ L,rdCells (K++L) q 10 1=some [va]:=fun L=>by have:=h.cell hA L 10 (x:=va) rfl; rwa [Nat.zero_add] at this
   obtain ⟨i0,k0,w0,hix0,hrd0,hxs⟩:=h.s.at hA hjN
   have hln:=hxs.len
   obtain ⟨i1,k1,hix1,hrd1⟩:=h.at hA hjN
   have hle:=h.le j hjN
   have hn1:=hxs.n
   obtain ⟨v',K',happ,hA',ho',_⟩:=app_int hA ho (by have:=readyS_len ss ad rc j; have:=h.fs; omega) j
   rw [el33_0]
   rw [<-List.append_nil K]
   have key:∀ (tmN:List AV) (KN:AH) (Z:Option (AExit × St)),EvC Tryz.prog C0 W0 pl33 l33_0 (tmN,KN)=Z->(tmN.length=64/\Agree G KN/\tmN.getD 0 uA=.ptr q 0/\tmN.getD 20 uA=vs/\tmN.getD 21 uA=I ss.length/\tmN.getD 22 uA=I (((j+1):Nat):Int)/\∃ v,tmN.getD 3 uA=v/\Own G.length KN 1 3 v ((readyS ss ad rc (j+1)).map fun (n:Nat)=>I (n:Int)))->∃ X K1,Z=some (.exit 0,(X,K1))/\(X.length=64/\Agree G K1/\X.getD 0 uA=.ptr q 0/\X.getD 20 uA=vs/\X.getD 21 uA=I ss.length/\X.getD 22 uA=I ((ss.length:Nat):Int)/\∃ v,X.getD 3 uA=v/\Own G.length K1 1 3 v ((readyS ss ad rc ss.length).map fun (n:Nat)=>I (n:Int))):=by
     intro tmN KN Z h hJ
     obtain ⟨X,K1,A,B⟩:=ih (j+1) tmN KN (by omega) (by omega) hJ
     exact ⟨X,K1,h.symm.trans A,B⟩
   simp -implicitDefEqProofs only [b33_0,Tryz.f33,aP,hlen,h0,h20,h21,h22,h3,hlt,hw,hq10,hix0,hrd0,hln,hix1,hrd1,r5,↓evLd,nck,↓cbT,↓cbF,↓evDn,evUp,eu,sevalprocAttr]
   generalize hR:EvC Tryz.prog C0 W0 _ (Code.region _ _ _) _=R
   obtain ⟨t,he,tl,t57,t0,t3,t4,t20,t21,t22⟩:=reg33_8' h hA hjN hxs hR (by simp only [ls,hlen]) (by simp only [hlen,h0,gB,sevalprocAttr]) (by simp only [hlen,gB,sevalprocAttr]) (by simp only [hlen,gB,sevalprocAttr])
   subst he
   simp only [hlen,h0,h3,h20,h21,h22,gB,sevalprocAttr] at t0 t3 t4 t20 t21 t22
   cases hok:okS ss ad rc j with
   | true =>
     simp -implicitDefEqProofs only [tl,t57,t0,t3,t4,t20,t21,t22,hw,hok,bs30,↓callA_append,happ,↓cbT,↓cbF,↓evDn,evUp,eu,sevalprocAttr]
     generalize hX:EvC Tryz.prog C0 W0 _ _ _=Z
     refine key _ _ _ hX ?_
     try simp only [List.append_nil]
     exact ⟨by first | exact tl | simp only [List.length_set,tl],hA',Aj4 (by simp only [tl,t0,t20,t21,t22,gB,and_self,sevalprocAttr]) ⟨v',by simp only [tl,t3,gB,sevalprocAttr],by rw [readyS_succ,hok,if_pos rfl]; exact ho'⟩⟩
   | false =>
     simp -implicitDefEqProofs only [tl,t57,t0,t3,t4,t20,t21,t22,hw,hok,↓cbT,↓cbF,↓evDn,evUp,eu,sevalprocAttr]
     generalize hX:EvC Tryz.prog C0 W0 _ _ _=Z
     refine key _ _ _ hX ?_
     try simp only [List.append_nil]
     exact ⟨by first | exact tl | simp only [List.length_set,tl],hA,Aj4 (by simp only [tl,t0,t20,t21,t22,gB,and_self,sevalprocAttr]) ⟨v,by simp only [tl,t3,gB,sevalprocAttr],by rw [readyS_succ,hok]; exact ho⟩⟩
theorem ready_l' {G:AH} {q:Nat} {vc vm vs va:AV} {f:Con} {ss:List (List Itm)} {ad:List Nat} {m:List (List Int)} {rc:List Bool} {tm:List AV} {K:AH} {Z:Option (AExit × St)} (hX:EvC Tryz.prog C0 W0 pl33 l33_0 (tm,K)=Z) (h:QueV G q vc vm vs va f ss ad m rc 0) (hN:ss.length < 2 ^ 60) (hI:tm.length=64/\Agree G K/\tm.getD 0 uA=.ptr q 0/\tm.getD 20 uA=vs/\tm.getD 21 uA=I ss.length/\tm.getD 22 uA=I ((0:Nat):Int)/\∃ v,tm.getD 3 uA=v/\Own G.length K 1 3 v ((readyS ss ad rc 0).map fun (n:Nat)=>I (n:Int))) :
   ∃ X K1,Z=some (.exit 0,(X,K1))/\(X.length=64/\Agree G K1/\X.getD 0 uA=.ptr q 0/\X.getD 20 uA=vs/\X.getD 21 uA=I ss.length/\X.getD 22 uA=I ((ss.length:Nat):Int)/\∃ v,X.getD 3 uA=v/\Own G.length K1 1 3 v ((readyS ss ad rc ss.length).map fun (n:Nat)=>I (n:Int))):=by
 subst hX
 exact ready_l h hN (ss.length) 0 tm K (by omega) (by omega) hI
theorem ev33 {G:AH} {q:Nat} {vc vm vs va:AV} {f:Con} {ss:List (List Itm)} {ad:List Nat} {m:List (List Int)} {rc:List Bool} (h:QueV G q vc vm vs va f ss ad m rc 0):∃ v K,Ev Tryz.prog C0 W0 33 [.ptr q 0] G=some (v,K)/\Agree G K/\Own G.length K 1 3 v ((readyS ss ad rc ss.length).map fun (n:Nat)=>I (n:Int)):=by
 obtain ⟨tm,ht,g0,g1⟩:=tm1 (.ptr q 0) 64 (by decide)
 rw [fe33,ht]
 have hq9:rdCells G q 9 1=some [vs]:=by have:=h.cell (Agree.refl G) [] 9 (x:=vs) rfl; rwa [Nat.zero_add,List.append_nil] at this
 have hq27:rdCells G q 27 1=some [I 0]:=by have:=h.cell (Agree.refl G) [] 27 (rowQ_en h.lr); rwa [Nat.zero_add,List.append_nil] at this
 have hls:=h.s.len
 have e0:eqB 0 0=true:=rfl
 simp -implicitDefEqProofs only [c33,Tryz.f33,aP,g0,g1,↓peq37,hq9,hq27,e0,hls,r5,↓evLd,nck,↓cbT,↓cbF,↓evDn,evUp,eu,sevalprocAttr]
 generalize hX:EvC Tryz.prog C0 W0 _ (Code.loop _) _=Z
 obtain ⟨X,K1,he,i0,iA,i1,i2,i3,i4,v,i5,io⟩:=ready_l' hX h (by have:=h.fs; omega) ⟨by simp only [ls,g0],Agree.refl G,Aj3 (by simp only [g0,g1,gB,and_self,sevalprocAttr]) ⟨by simp only [g0,gB,sevalprocAttr]; try rfl,.nilSlice,by simp only [g0,gB,sevalprocAttr],.nil⟩⟩
 subst he
 refine ⟨v,K1,?_,iA,io⟩
 simp -implicitDefEqProofs only [aP,i0,i1,i5,↓cbT,↓cbF,↓evDn,evUp,eu,sevalprocAttr]
end Go.Dv
