/- Part 12 of the walks (own work). -/
import Derived.Test.YtilpjnckfkjkbaaGreatDoorU11
import Derived.Laws.Strings
import Derived.Laws.StructEq
open Bool renaming and_false→gx,and_self→oD,and_true→fG,eq_false_iff→Jg,eq_iff_iff→gI,false_and→bd,false_eq_true→bK,false_or→iC,not_eq_true'→bl,not_false→gv,not_not→D0,not_true→uC,or_false→lZ,or_true→qy,true_and→bf,true_or→lx
open ByteArray renaming ext→WW
open Int renaming toNat_natCast→cN
open List renaming all_cons→gL,all_nil→pE,append_assoc→aD,append_nil→af,cons_append→iM,contains_cons→uB,contains_eq_any_beq→AJ,drop_succ_cons→sJ,drop_zero→ib,getElem?_append_left→ar,getElem?_cons_succ→pg,getElem?_cons_zero→iD,getElem?_eq_getElem→aj,getElem?_toArray→qx,head?_cons→qv,length_append→ai,length_cons→cR,length_map→ao,length_nil→gH,length_set→aq,map_cons→fI,mem_range'_1→Je,nil_append→ig,range→bp,replicate→au,set_cons_succ→uz,set_cons_zero→kK,take_succ_cons→jO,take_zero→nL,zip→xm
open Nat renaming add_zero→oC
open Option renaming bind_some→ax,getD_some→fE,isSome_some→D5,map→rJ,map_some→cH
open Go.Proofs.Tryz renaming prog→aa
set_option maxRecDepth 100000
set_option maxHeartbeats 4000000
set_option linter.unusedSimpArgs false
set_option linter.unusedVariables false
open Go.Proofs.Tryz (f120)
namespace Go.Dv
open Go.Proofs
attribute [local congr] aA bC aT bB bD
def an (H K:AH):Prop:=∀ j,j < H.length->K[j]? =H[j]?
theorem an.refl (H:AH):an H H:=fun _ _=>rfl
theorem an.app (H L:AH):an H (H++L):=fun _ h=>ar h
theorem an.len {H K:AH} (h:an H K):H.length<=K.length:=by
 rcases Nat.lt_or_ge K.length H.length with c | c
 · have:=h K.length c;rw [List.getElem?_eq_none (Nat.le_refl _),aj c] at this; cases this
 · exact c
theorem an.trans {H K M:AH} (h:an H K) (k:an K M):an H M:=fun j hj=>(k j (Nat.lt_of_lt_of_le hj h.len)).trans (h j hj)
theorem an.bX {H K:AH} (h:an H K) (L:AH):an H (K++L):=h.trans (an.app K L)
theorem an.m3 {H K:AH} (h:an H K) {i:Nat} (hi:H.length<=i) (o:bm):an H (K.set i o):=fun j hj=>by
 rw [List.getElem?_set_ne (by omega)]; exact h j hj
theorem an.get {H K:AH} (h:an H K) {i:Nat} {o:bm} (hi:H[i]? =some o):K[i]? =some o:=by rw [h i (aI hi)]; exact hi
theorem Ra {K:AH} {i:Nat} {o:bm} (h:K[i]? =some o) (L:AH):(K++L)[i]? =some o:=by rw [ar (aI h)]; exact h
theorem eU {K:AH} {b:Nat} {cs:List AV} {e:TypeId} (h:K[b]? =some (.cells cs e)) (L:AH) (k n:Nat):ak (K++L) b k n=if k+n<=cs.length then some ((cs.drop k).take n) else none:=by unfold ak; rw [Ra h L]
theorem iH {H K:AH} {i k es:Nat} {row:List AV} (hr:ak H i k es=some row) (hA:an H K) (L:AH):ak (K++L) i k es=some row:=fJ (hA.bX L) hr
theorem B5 {H K:AH} {i k es:Nat} {row:List AV} (hr:ak H i k es=some row) (hA:an H K) (L:AH) (c:Nat) {x:AV} (hc:row[c]? =some x):ak (K++L) i (k+c) 1=some [x]:=fJ (hA.bX L) (ku hr hc)
theorem xL {H K:AH} {i k es:Nat} {row:List AV} (hr:ak H i k es=some row) (hA:an H K) (L:AH) {x:AV} (hc:row[0]? =some x):ak (K++L) i k 1=some [x]:=B5 hr hA L 0 hc
theorem AN:aa.underlying 9=some .string:=by kernel_rfl
theorem Pk:aa.underlying 3=some (.int .i64):=by kernel_rfl
theorem FJ:aa.underlying 21=some (.int .i32):=by kernel_rfl
theorem ln9 (H:AH) (s:ByteArray):d4 aa 9 H (.str s)=some (.int .i64 s.size):=by kernel_rfl
def sEq (a b:ByteArray):Bool:=a.toList == b.toList
theorem AS (a b:ByteArray):(a == b)=sEq a b:=beq_toListBytes a b
theorem qC (a b:ByteArray):sEq a b=true↔a=b:=by unfold sEq;rw [beq_iff_eq,ByteArray.toList_eq,ByteArray.toList_eq];exact ⟨fun h=>WW (Array.toList_inj.1 h),fun h=>by rw [h]⟩
theorem B3 (a b:ByteArray):sEq a b=sEq b a:=by rw [gI,qC,qC,eq_comm]
theorem pure_seq {ev:Operand->Option AV} {x y:Operand} {a b:ByteArray} (hx:ev x=some (.str a)) (hy:ev y=some (.str b)) (dst:Option Tmp) (yt ty:TypeId) (pos:String) (after:Array Edge) (g:Option (Nat × Bool)) :
   dq aa ev ⟨dst,.binOp .eql 9 x y yt,ty,pos,after,g⟩=some (.val (.bool (sEq a b))):=by
 have:gC aa (execOp (kr ev) ⟨dst,.binOp .eql 9 x y yt,ty,pos,after,g⟩)=gC aa (do pure (Next.value (<-binOp .eql 9 (.string a) (.string b)))):=by simp [execOp,kr,hx,hy,toV,eqGuard,bind,Sem.bind,pure]
 have h2:gC aa (do pure (Next.value (<-binOp .eql 9 (.string a) (.string b))))=some (.value (.bool (sEq a b))):=by rw [binOp_string_eql]; rfl
 simp only [dq,notSelect,Op.operands,hx,hy,toV,this,h2,ax,D5,gL,pE,oD,if_true];rfl
theorem Ch {ev:Operand->Option AV} {x y:Operand} {a b:ByteArray} (hx:ev x=some (.str a)) (hy:ev y=some (.str b)) (dst:Option Tmp) (yt ty:TypeId) (pos:String) (after:Array Edge) (g:Option (Nat × Bool)) :
   dq aa ev ⟨dst,.binOp .neq 9 x y yt,ty,pos,after,g⟩=some (.val (.bool (!sEq a b))):=by
 have:gC aa (execOp (kr ev) ⟨dst,.binOp .neq 9 x y yt,ty,pos,after,g⟩)=gC aa (do pure (Next.value (<-binOp .neq 9 (.string a) (.string b)))):=by simp [execOp,kr,hx,hy,toV,eqGuard,bind,Sem.bind,pure]
 have h2:gC aa (do pure (Next.value (<-binOp .neq 9 (.string a) (.string b))))=some (.value (.bool (!sEq a b))):=by rw [binOp_string_neq]; rfl
 simp only [dq,notSelect,Op.operands,hx,hy,toV,this,h2,ax,D5,gL,pE,oD,if_true];rfl
noncomputable def je (op:BinOp) (t:TypeId) (x y:AV) (H:AH) (fb:Option AV):Option AV:=
 match x,y with
 | .int k a,.int k' b=>match (if k=k' then fy op k a b else none) with
   | some v=>some v
   | none=>fb
 | .str a,.str b=>if t=9 then match op with
     | .eql=>some (.bool (sEq a b))
     | .neq=>some (.bool (!sEq a b))
     | _=>fb
   else fb
 | _,_=>match op,eqA aa t H x y with
   | .eql,some r=>some (.bool r)
   | .neq,some r=>some (.bool (!r))
   | _,_=>fb
noncomputable def I2 (op:BinOp) (t:TypeId) (x y:AV) (fb:Option AV):Option AV:=
 match x,y with
 | .int k a,.int k' b=>match (if k=k' then fy op k a b else none) with
   | some v=>some v
   | none=>fb
 | .str a,.str b=>if t=9 then match op with
     | .eql=>some (.bool (sEq a b))
     | .neq=>some (.bool (!sEq a b))
     | _=>fb
   else fb
 | _,_=>match op,E8 aa t x y with
   | .eql,some r=>some (.bool r)
   | .neq,some r=>some (.bool (!r))
   | _,_=>fb
def fbA (r:Option jC):Option AV:=r.bind fun n=>match n with
 | .val v=>some v
 | _=>none
theorem Kt (ev:Operand->Option AV) (o:Oper) (H:AH):(dq aa ev o).map (fun n=>(n,H))=(fbA (dq aa ev o)).map fun v=>(.val v,H):=by
 have:dq aa ev o=none∨∃ v,dq aa ev o=some (.val v):=by
   unfold dq;split
   · split
     · rename_i v _;cases ofV 6 v with
       | none=>exact .inl rfl
       | some a=>exact .inr ⟨a,rfl⟩
     · exact .inl rfl
   · exact .inl rfl
 rcases this with h | ⟨v,h⟩ <;> rw [h] <;> rfl
theorem Rm {t:TypeId} {H:AH} {a b:ByteArray}:eqA aa t H (.str a) (.str b)=none:=by unfold eqA;split <;> first | rfl | skip
theorem mb1 (r fb:Option AV) (H:AH):(match r with
   | some v=>some (jC.val v,H)
   | none=>rJ (fun v=>(jC.val v,H)) fb)=rJ (fun v=>(jC.val v,H)) (match r with
   | some v=>some v
   | none=>fb):=by cases r <;> rfl
theorem mb2 (op:BinOp) (r:Option Bool) (fb:Option AV) (H:AH):(match op,r with
   | .eql,some r=>some (jC.val (.bool r),H)
   | .neq,some r=>some (jC.val (.bool (!r)),H)
   | _,_=>rJ (fun v=>(jC.val v,H)) fb)=rJ (fun v=>(jC.val v,H)) (match op,r with
   | .eql,some r=>some (AV.bool r)
   | .neq,some r=>some (.bool (!r))
   | _,_=>fb):=by cases op <;> cases r <;> rfl
theorem zf {C:Cfg aa} (slot:Option Nat) (ev:Operand->Option AV) (dst:Option Tmp) (ty:TypeId) (pos:String) (after:Array Edge) (g:Option (Nat × Bool)) (H:AH) (op:BinOp) (t yt:TypeId) (x y:Operand) :
   aop aa C slot ev ⟨dst,.binOp op t x y yt,ty,pos,after,g⟩ H=(ev x).bind fun xv=>(ev y).bind fun yv=>(je op t xv yv H (fbA (dq aa ev ⟨dst,.binOp op t x y yt,ty,pos,after,g⟩))).map fun v=>(.val v,H):=by
 rw [I9];cases hx:ev x with
 | none=>rfl
 | some xv =>
   cases hy:ev y with
   | none=>rfl
   | some yv =>
     simp only [ax];rw [Kt];unfold je;cases xv <;> cases yv <;> (try simp only [Rm]) <;> first
       | exact mb1 _ _ _
       | exact mb2 _ _ _ _
       | (by_cases ht:t=9
          · subst ht
            cases op <;> first
              | (simp only [if_true,cH]; rw [pure_seq hx hy]; rfl)
              | (simp only [if_true,cH]; rw [Ch hx hy]; rfl)
              | rfl
          · rw [if_neg ht])
theorem Cg (ev:Operand->Option AV) (dst:Option Tmp) (ty:TypeId) (pos:String) (after:Array Edge) (g:Option (Nat × Bool)) (op:BinOp) (t yt:TypeId) (x y:Operand) :
   dc aa ev ⟨dst,.binOp op t x y yt,ty,pos,after,g⟩=(ev x).bind fun xv=>(ev y).bind fun yv=>I2 op t xv yv (fbA (dq aa ev ⟨dst,.binOp op t x y yt,ty,pos,after,g⟩)):=by
 rw [PR];cases hx:ev x with
 | none=>rfl
 | some xv =>
   cases hy:ev y with
   | none=>rfl
   | some yv =>
     simp only [ax];unfold I2;cases xv <;> cases yv <;> (try simp only [show ∀ a b,E8 aa t (.str a) (.str b)=none from fun _ _=>rfl]) <;> first
       | rfl
       | (by_cases ht:t=9
          · subst ht
            cases op <;> first
              | (simp only [if_true]; rw [pure_seq hx hy]; rfl)
              | (simp only [if_true]; rw [Ch hx hy]; rfl)
              | rfl
          · rw [if_neg ht]; rfl)
theorem Dg (op:BinOp) (t:TypeId) (k:IntKind) (a b:Int) (H:AH) (fb:Option AV):je op t (.int k a) (.int k b) H fb=match fy op k a b with
   | some v=>some v
   | none=>fb:=by unfold je; simp only [if_true]
theorem Df (a b:ByteArray) (H:AH) (fb:Option AV):je .eql 9 (.str a) (.str b) H fb=some (.bool (sEq a b)):=rfl
theorem De (a b:ByteArray) (H:AH) (fb:Option AV):je .neq 9 (.str a) (.str b) H fb=some (.bool (!sEq a b)):=rfl
theorem Dj (op:BinOp) (t:TypeId) (k:IntKind) (a b:Int) (fb:Option AV):I2 op t (.int k a) (.int k b) fb=match fy op k a b with
   | some v=>some v
   | none=>fb:=by unfold I2; simp only [if_true]
theorem Di (a b:ByteArray) (fb:Option AV):I2 .eql 9 (.str a) (.str b) fb=some (.bool (sEq a b)):=rfl
theorem Dh (a b:ByteArray) (fb:Option AV):I2 .neq 9 (.str a) (.str b) fb=some (.bool (!sEq a b)):=rfl
theorem Kr (ev:Operand->Option AV) (dst:Option Tmp) (ty:TypeId) (pos:String) (after:Array Edge) (g:Option (Nat × Bool)) (t:TypeId) (x:Operand) :
   dc aa ev ⟨dst,.unOp .not t x,ty,pos,after,g⟩=(ev x).bind fun xv=>match xv with
     | .bool b=>some (.bool !b)
     | _=>fbA (dq aa ev ⟨dst,.unOp .not t x,ty,pos,after,g⟩):=by
 cases hx:ev x with
 | none =>
   have:=jm (P:=aa) (ev:=ev) (o:=⟨dst,.unOp .not t x,ty,pos,after,g⟩) (x:=x) (by simp [Op.operands]) hx
   simp only [dc,this]; rfl
 | some xv =>
   simp only [ax]
   split
   · simp only [dc,zQ hx]; rfl
   · simp only [dc]; rfl
theorem FW {t u:TypeId} {dt:TypeDesc} {k':IntKind} (ht:aa.underlying t=some dt) (hu:aa.underlying u=some (.int k')) (ev:Operand->Option AV) (dst:Option Tmp) (ty:TypeId) (pos:String) (after:Array Edge) (g:Option (Nat × Bool)) (x:Operand) :
   dc aa ev ⟨dst,.convert t u x,ty,pos,after,g⟩=(ev x).bind fun xv=>match xv with
     | .int _ n=>some (.int k' (k'.wrap n))
     | _=>fbA (dq aa ev ⟨dst,.convert t u x,ty,pos,after,g⟩):=by
 cases hx:ev x with
 | none =>
   have:=jm (P:=aa) (ev:=ev) (o:=⟨dst,.convert t u x,ty,pos,after,g⟩) (x:=x) (by simp [Op.operands]) hx
   simp only [dc,this]; rfl
 | some xv =>
   simp only [ax]
   split
   · simp only [dc,rS ht hu hx]; rfl
   · simp only [dc]; rfl
def py (l:List ByteArray):List (AV × AV × Nat):=(xm l (bp l.length)).map fun p=>(.str p.1,.bool true,p.2)
theorem Sg:lE aa 172=some (9,4):=by kernel_rfl
theorem z4:d8 aa 4=some (.bool false):=by kernel_rfl
theorem abo (e:Bool) (s:ByteArray):Fu aa 9 e (.str s)=some (.string s,.string):=by cases e <;> kernel_rfl
theorem CX (s:ByteArray):∀ (l:List (ByteArray × Nat)) (i:Nat),iQ aa 9 .string (.string s) (l.map fun p=>(.str p.1,.bool true,p.2)) i=if (l.map (·.1)).contains s then (iQ aa 9 .string (.string s) (l.map fun p=>(.str p.1,.bool true,p.2)) i) else some none
 | [],i=>rfl
 | p::l,i=>by
   have ih:=CX s l (i+1)
   simp only [fI,iQ,toV,ax,vQ,Instr.sameNow,uB]
   cases h:(s == p.1) with
   | true=>simp
   | false=>simp only [iC]; exact ih
theorem Ai (s:ByteArray):∀ (l:List (ByteArray × Nat)) (i:Nat),(l.map (·.1)).contains s=true->∃ j,iQ aa 9 .string (.string s) (l.map fun p=>(.str p.1,.bool true,p.2)) i=some (some (j,.bool true))
 | [],i,h=>by simp at h
 | p::l,i,h=>by
   simp only [fI,iQ,toV,ax,vQ,Instr.sameNow]
   cases h':(s == p.1) with
   | true=>exact ⟨i,rfl⟩
   | false =>
     simp only [fI,uB,h',iC] at h
     exact Ai s l (i+1) h
theorem BY (l:List ByteArray):(xm l (bp l.length)).map (·.1)=l:=by rw [List.map_fst_zip (by simp)]
theorem Aj (s:ByteArray) (l:List ByteArray) (h:l.contains s=false):iQ aa 9 .string (.string s) (py l) 0=some none:=by unfold py;rw [CX,BY,h]; rfl
theorem E4 (s:ByteArray) (l:List ByteArray) (h:l.contains s=true):∃ j,iQ aa 9 .string (.string s) (py l) 0=some (some (j,.bool true)):=Ai s _ 0 (by rw [BY]; exact h)
def sIn (l:List ByteArray) (s:ByteArray):Bool:=l.contains s
theorem Sk {H:AH} {i:Nat} {l:List ByteArray} {c:Nat} (h:H[i]? =some (.map (py l) c)) (s:ByteArray):iJ aa 172 (.map i) (.str s) false H=some (.bool (sIn l s)):=by
 unfold sIn;simp only [iJ,Sg,jJ,h,ax,abo];cases hc:l.contains s with
 | true =>obtain ⟨j,hj⟩:=E4 s l hc;rw [hj]; rfl
 | false =>rw [Aj s l hc];simp only [ax,z4]; rfl
theorem HM (l:List ByteArray) (s:ByteArray):py l++[(.str s,.bool true,l.length)]=py (l++[s]):=by unfold py;rw [ai,List.length_singleton,List.range_succ,List.zip_append (by simp),List.map_append]; rfl
theorem Yc {H:AH} {i:Nat} {l:List ByteArray} (h:H[i]? =some (.map (py l) l.length)) {s:ByteArray} (hc:sIn l s=false):iI aa 172 (.map i) (.str s) (.bool true) H=some (H.set i (.map (py (l++[s])) (l++[s]).length)):=by unfold sIn at hc;simp only [iI,Sg,h,ax,abo,Aj s l hc];rw [HM,ai]; rfl
end Go.Dv
namespace Go.Dv
open Go.Proofs
theorem aG:(type_of% @rq)/\(type_of% @uq)/\(type_of% @uu)/\(type_of% @xj)/\(type_of% @oB)/\(type_of% @rA)/\(type_of% @jr)/\(type_of% @qP)/\(type_of% @rr)/\(type_of% @kG)/\(type_of% @cD)/\(type_of% @uw)/\(type_of% @o9)/\(type_of% @nH)/\(type_of% @k9)/\(type_of% @wX)/\(type_of% @qR)/\(type_of% @tT)/\(type_of% @o8)/\(type_of% @wW)/\(type_of% @qT)/\(type_of% @tU)/\(type_of% @tW)/\(type_of% @wV)/\(type_of% @o7)/\(type_of% @tV)/\(type_of% @mh)/\(type_of% @mg)/\(type_of% @nG)/\(type_of% @o6)/\(type_of% @wY)/\(type_of% (FW FJ Pk))/\(type_of% @qE)/\(type_of% @s4)/\(type_of% @oK)/\(type_of% @nh)/\(type_of% @k6)/\(type_of% @CQ)/\(type_of% @CR)/\(type_of% @ny)/\(type_of% @d7)/\(type_of% @cM)/\(type_of% @oF)/\(type_of% @l5)/\(type_of% @uf)/\(type_of% @pf)/\(type_of% @ug)/\(type_of% @qW)/\(type_of% @q9)/\(type_of% @xg)/\(type_of% @q8)/\(type_of% @ml)/\(type_of% @lh)/\(type_of% @qZ)/\(type_of% @lf)/\(type_of% @zf)/\(type_of% @qY)/\(type_of% @nK)/\(type_of% @pe)/\(type_of% @ld)/\(type_of% @lJ)/\(type_of% @mm)/\(type_of% @kI)/\(type_of% @qX)/\(type_of% @xf)/\(type_of% (DR (C:=C0) FJ Pk))/\(type_of% @uj)/\(type_of% @fO)/\(type_of% @bS)/\(type_of% @wL)/\(type_of% @qH)/\(type_of% @s7)/\(type_of% @ky)/\(type_of% @wK)/\(type_of% @qI)/\(type_of% @s8)/\(type_of% @tb)/\(type_of% @wJ)/\(type_of% @oN)/\(type_of% @s9)/\(type_of% @ma)/\(type_of% @l9)/\(type_of% @nk)/\(type_of% @oM)/\(type_of% @Cg)/\(type_of% @Kr)/\(type_of% @oE):=⟨@rq,@uq,@uu,@xj,@oB,@rA,@jr,@qP,@rr,@kG,@cD,@uw,@o9,@nH,@k9,@wX,@qR,@tT,@o8,@wW,@qT,@tU,@tW,@wV,@o7,@tV,@mh,@mg,@nG,@o6,@wY,(FW FJ Pk),@qE,@s4,@oK,@nh,@k6,@CQ,@CR,@ny,@d7,@cM,@oF,@l5,@uf,@pf,@ug,@qW,@q9,@xg,@q8,@ml,@lh,@qZ,@lf,@zf,@qY,@nK,@pe,@ld,@lJ,@mm,@kI,@qX,@xf,(DR (C:=C0) FJ Pk),@uj,@fO,@bS,@wL,@qH,@s7,@ky,@wK,@qI,@s8,@tb,@wJ,@oN,@s9,@ma,@l9,@nk,@oM,@Cg,@Kr,@oE⟩
theorem aF:(type_of% @GF)/\(type_of% @d7)/\(type_of% @cM)/\(type_of% @BJ)/\(type_of% @w9)/\(type_of% @w7)/\(type_of% @BK)/\(type_of% @w6)/\(type_of% @w4)/\(type_of% @ik)/\(type_of% @wT)/\(type_of% @tM)/\(type_of% @tL)/\(type_of% @Bz)/\(type_of% @CQ)/\(type_of% @CR)/\(type_of% @ny)/\(type_of% @jr)/\(type_of% @Dg)/\(type_of% @Df)/\(type_of% @De)/\(type_of% @Dj)/\(type_of% @Di)/\(type_of% @Dh)/\(type_of% @BB)/\(type_of% @tS)/\(type_of% @nr)/\(type_of% @pW)/\(type_of% @wS)/\(type_of% @mc)/\(type_of% @oS)/\(type_of% @qJ)/\(type_of% @qK)/\(type_of% @dK)/\(type_of% @Ae)/\(type_of% @aq.{0})/\(type_of% @ax.{0,0})/\(type_of% @cH.{0,0})/\(type_of% @Bp)/\(type_of% @Bq)/\(type_of% @Br)/\(type_of% @Bs)/\(type_of% @Bt)/\(type_of% @Bo)/\(type_of% @Bu)/\(type_of% @Bn)/\(type_of% @ne_eq.{1})/\(type_of% @not_false_eq_true)/\(type_of% @if_true.{1})/\(type_of% @if_false.{1})/\(type_of% @ite_true.{1})/\(type_of% @ite_false.{1})/\(type_of% @wP)/\(type_of% @and_true)/\(type_of% @true_and)/\(type_of% @and_self)/\(type_of% @decide_true)/\(type_of% @decide_false)/\(type_of% @wE)/\(type_of% @nI)/\(type_of% @mi)/\(type_of% @qx.{0})/\(type_of% @iD.{0})/\(type_of% @pg.{0})/\(type_of% @beq_self_eq_true.{0})/\(type_of% @xz)/\(type_of% @wF)/\(type_of% @jE)/\(type_of% @gj)/\(type_of% @td)/\(type_of% @tc)/\(type_of% @sO)/\(type_of% @sM)/\(type_of% @gL.{0})/\(type_of% @pE.{0})/\(type_of% @oD)/\(type_of% @bf)/\(type_of% @fG)/\(type_of% @bd)/\(type_of% @gx)/\(type_of% @lx)/\(type_of% @qy)/\(type_of% @iC)/\(type_of% @lZ)/\(type_of% @uC)/\(type_of% @gv)/\(type_of% @D0)/\(type_of% @ib.{0})/\(type_of% @jO.{0})/\(type_of% @nL.{0})/\(type_of% @sJ.{0})/\(type_of% @qv.{0})/\(type_of% @cR.{0})/\(type_of% @gH.{0})/\(type_of% @ig.{0})/\(type_of% @iM.{0})/\(type_of% @aD.{0})/\(type_of% @kK.{0})/\(type_of% @uz.{0})/\(type_of% @cN)/\(type_of% @oC)/\(type_of% @RN)/\(type_of% @RM)/\(type_of% @bK):=⟨@GF,@d7,@cM,@BJ,@w9,@w7,@BK,@w6,@w4,@ik,@wT,@tM,@tL,@Bz,@CQ,@CR,@ny,@jr,@Dg,@Df,@De,@Dj,@Di,@Dh,@BB,@tS,@nr,@pW,@wS,@mc,@oS,@qJ,@qK,@dK,@Ae,@aq.{0},@ax.{0,0},@cH.{0,0},@Bp,@Bq,@Br,@Bs,@Bt,@Bo,@Bu,@Bn,@ne_eq.{1},@not_false_eq_true,@if_true.{1},@if_false.{1},@ite_true.{1},@ite_false.{1},@wP,@and_true,@true_and,@and_self,@decide_true,@decide_false,@wE,@nI,@mi,@qx.{0},@iD.{0},@pg.{0},@beq_self_eq_true.{0},@xz,@wF,@jE,@gj,@td,@tc,@sO,@sM,@gL.{0},@pE.{0},@oD,@bf,@fG,@bd,@gx,@lx,@qy,@iC,@lZ,@uC,@gv,@D0,@ib.{0},@jO.{0},@nL.{0},@sJ.{0},@qv.{0},@cR.{0},@gH.{0},@ig.{0},@iM.{0},@aD.{0},@kK.{0},@uz.{0},@cN,@oC,@RN,@RM,@bK⟩
theorem ba:(type_of% @ld3)/\(type_of% @ld4)/\(type_of% @ld5)/\(type_of% @ld9)/\(type_of% @YN)/\(type_of% @YM)/\(type_of% @YL)/\(type_of% @YK)/\(type_of% @YI)/\(type_of% @YH)/\(type_of% @YG)/\(type_of% @YF)/\(type_of% @YE)/\(type_of% @YD)/\(type_of% @YC)/\(type_of% @YB)/\(type_of% @Sm)/\(type_of% @YJ)/\(type_of% @It)/\(type_of% @Q1)/\(type_of% @YA)/\(type_of% @Yx)/\(type_of% @Yw)/\(type_of% @Yv)/\(type_of% @Yz)/\(type_of% @Yy)/\(type_of% @So)/\(type_of% @MC)/\(type_of% @MB)/\(type_of% @MA)/\(type_of% @Mz)/\(type_of% @My)/\(type_of% @Ml)/\(type_of% @Mk)/\(type_of% @Mj)/\(type_of% @Mi)/\(type_of% @Mh)/\(type_of% @Mg)/\(type_of% @Mf)/\(type_of% @Me)/\(type_of% @Mq)/\(type_of% @Mo)/\(type_of% @Mn)/\(type_of% @Mm)/\(type_of% @ML)/\(type_of% @MK)/\(type_of% @MJ)/\(type_of% @MI)/\(type_of% @MH)/\(type_of% @MG)/\(type_of% @MF)/\(type_of% @ME)/\(type_of% @MD)/\(type_of% @MT)/\(type_of% @MS)/\(type_of% @MQ)/\(type_of% @MP)/\(type_of% @MO)/\(type_of% @MN)/\(type_of% @MM)/\(type_of% @nT)/\(type_of% @yP)/\(type_of% @yO)/\(type_of% @E7)/\(type_of% @Mx)/\(type_of% @Mw)/\(type_of% @Mv)/\(type_of% @Mu)/\(type_of% @Mt)/\(type_of% @Ms)/\(type_of% @Mr):=⟨@ld3,@ld4,@ld5,@ld9,@YN,@YM,@YL,@YK,@YI,@YH,@YG,@YF,@YE,@YD,@YC,@YB,@Sm,@YJ,@It,@Q1,@YA,@Yx,@Yw,@Yv,@Yz,@Yy,@So,@MC,@MB,@MA,@Mz,@My,@Ml,@Mk,@Mj,@Mi,@Mh,@Mg,@Mf,@Me,@Mq,@Mo,@Mn,@Mm,@ML,@MK,@MJ,@MI,@MH,@MG,@MF,@ME,@MD,@MT,@MS,@MQ,@MP,@MO,@MN,@MM,@nT,@yP,@yO,@E7,@Mx,@Mw,@Mv,@Mu,@Mt,@Ms,@Mr⟩
end Go.Dv
namespace Go.Dv
open Go.Proofs
attribute [local congr] aA bC aT bB bD
theorem cbT {α:Type} (x z:α):cb true x z=x:=rfl
theorem cbF {α:Type} (x z:α):cb false x z=z:=rfl
end Go.Dv
namespace Go.Dv
theorem gde {α:Type} (l:List α) (i:Nat) (d:α):l.getD i d=(l[i]?).getD d:=List.getD_eq_getElem?_getD
theorem ls (l:List AV) (i:Nat) (a:AV):(l.set i a).length=l.length:=aq
theorem gB:(type_of% @dK)/\(type_of% @Ae)/\(∀ (l:List AV) (i:Nat) (a:AV),(l.set i a).length=l.length)/\(∀ a b:Nat,(a≠b)=¬ (a=b))/\((¬ False)=True):=⟨@dK,@Ae,fun _ _ _=>aq,fun _ _=>rfl,not_false_eq_true⟩
theorem eu:(type_of% @AV.cells.eq_1)/\(type_of% @AV.cells.eq_2)/\(type_of% @spl.eq_1)/\(type_of% @spl.eq_2)/\(type_of% @AV.one.eq_1)/\(type_of% @AV.one.eq_2)/\(type_of% @AV.one.eq_3)/\(type_of% @evL.eq_1)/\(type_of% @evL.eq_2)/\(type_of% @evO.eq_1)/\(type_of% @evO.eq_2)/\(type_of% @evP.eq_1)/\(type_of% @evP.eq_2):=⟨@AV.cells.eq_1,@AV.cells.eq_2,@spl.eq_1,@spl.eq_2,@AV.one.eq_1,@AV.one.eq_2,@AV.one.eq_3,@evL.eq_1,@evL.eq_2,@evO.eq_1,@evO.eq_2,@evP.eq_1,@evP.eq_2⟩
theorem zzA:(type_of% @cbT)/\(type_of% @cbF)/\(type_of% @aG):=⟨@cbT,@cbF,@aG⟩
theorem zzC:(type_of% @cbT)/\(type_of% @cbF)/\(type_of% @aG)/\(type_of% @ba):=⟨@cbT,@cbF,@aG,@ba⟩
theorem zzB:(type_of% @aF)/\(type_of% @eu):=⟨@aF,@eu⟩
theorem aP:(type_of% @aH.eq_1)/\(type_of% @aH.eq_2)/\(type_of% @aH.eq_3)/\(type_of% @aH.eq_4)/\(type_of% @aH.eq_5)/\(type_of% @aH.eq_6)/\(type_of% @aH.eq_7)/\(∀ a b:Code,(some a).getD b=a):=⟨@aH.eq_1,@aH.eq_2,@aH.eq_3,@aH.eq_4,@aH.eq_5,@aH.eq_6,@aH.eq_7,fun _ _=>rfl⟩
theorem tm1 (a0:AV) (n:Nat) (h:1<=n):∃ tm:List AV,([a0]:List AV)++au (n - ([a0]:List AV).length) uA=tm/\tm.length=n/\tm.getD 0 uA=a0:=⟨_,rfl,by simp; omega,rfl⟩
theorem tm2 (a0 a1:AV) (n:Nat) (h:2<=n):∃ tm:List AV,([a0,a1]:List AV)++au (n - ([a0,a1]:List AV).length) uA=tm/\tm.length=n/\tm.getD 0 uA=a0/\tm.getD 1 uA=a1:=⟨_,rfl,by simp; omega,rfl,rfl⟩
theorem tm3 (a0 a1 a2:AV) (n:Nat) (h:3<=n):∃ tm:List AV,([a0,a1,a2]:List AV)++au (n - ([a0,a1,a2]:List AV).length) uA=tm/\tm.length=n/\tm.getD 0 uA=a0/\tm.getD 1 uA=a1/\tm.getD 2 uA=a2:=⟨_,rfl,by simp; omega,rfl,rfl,rfl⟩
theorem tm4 (a0 a1 a2 a3:AV) (n:Nat) (h:4<=n):∃ tm:List AV,([a0,a1,a2,a3]:List AV)++au (n - ([a0,a1,a2,a3]:List AV).length) uA=tm/\tm.length=n/\tm.getD 0 uA=a0/\tm.getD 1 uA=a1/\tm.getD 2 uA=a2/\tm.getD 3 uA=a3:=⟨_,rfl,by simp; omega,rfl,rfl,rfl,rfl⟩
theorem tm5 (a0 a1 a2 a3 a4:AV) (n:Nat) (h:5<=n):∃ tm:List AV,([a0,a1,a2,a3,a4]:List AV)++au (n - ([a0,a1,a2,a3,a4]:List AV).length) uA=tm/\tm.length=n/\tm.getD 0 uA=a0/\tm.getD 1 uA=a1/\tm.getD 2 uA=a2/\tm.getD 3 uA=a3/\tm.getD 4 uA=a4:=⟨_,rfl,by simp; omega,rfl,rfl,rfl,rfl,rfl⟩
theorem tm6 (a0 a1 a2 a3 a4 a5:AV) (n:Nat) (h:6<=n):∃ tm:List AV,([a0,a1,a2,a3,a4,a5]:List AV)++au (n - ([a0,a1,a2,a3,a4,a5]:List AV).length) uA=tm/\tm.length=n/\tm.getD 0 uA=a0/\tm.getD 1 uA=a1/\tm.getD 2 uA=a2/\tm.getD 3 uA=a3/\tm.getD 4 uA=a4/\tm.getD 5 uA=a5:=⟨_,rfl,by simp; omega,rfl,rfl,rfl,rfl,rfl,rfl⟩
theorem tm7 (a0 a1 a2 a3 a4 a5 a6:AV) (n:Nat) (h:7<=n):∃ tm:List AV,([a0,a1,a2,a3,a4,a5,a6]:List AV)++au (n - ([a0,a1,a2,a3,a4,a5,a6]:List AV).length) uA=tm/\tm.length=n/\tm.getD 0 uA=a0/\tm.getD 1 uA=a1/\tm.getD 2 uA=a2/\tm.getD 3 uA=a3/\tm.getD 4 uA=a4/\tm.getD 5 uA=a5/\tm.getD 6 uA=a6:=⟨_,rfl,by simp; omega,rfl,rfl,rfl,rfl,rfl,rfl,rfl⟩
theorem Aj2 {p0 p1 r:Prop} (h:p0/\p1) (k:r):p0/\p1/\r:=⟨h.1,h.2,k⟩
theorem Aj3 {p0 p1 p2 r:Prop} (h:p0/\p1/\p2) (k:r):p0/\p1/\p2/\r:=⟨h.1,h.2.1,h.2.2,k⟩
theorem Aj4 {p0 p1 p2 p3 r:Prop} (h:p0/\p1/\p2/\p3) (k:r):p0/\p1/\p2/\p3/\r:=⟨h.1,h.2.1,h.2.2.1,h.2.2.2,k⟩
theorem Aj5 {p0 p1 p2 p3 p4 r:Prop} (h:p0/\p1/\p2/\p3/\p4) (k:r):p0/\p1/\p2/\p3/\p4/\r:=⟨h.1,h.2.1,h.2.2.1,h.2.2.2.1,h.2.2.2.2,k⟩
theorem Aj6 {p0 p1 p2 p3 p4 p5 r:Prop} (h:p0/\p1/\p2/\p3/\p4/\p5) (k:r):p0/\p1/\p2/\p3/\p4/\p5/\r:=⟨h.1,h.2.1,h.2.2.1,h.2.2.2.1,h.2.2.2.2.1,h.2.2.2.2.2,k⟩
theorem Aj7 {p0 p1 p2 p3 p4 p5 p6 r:Prop} (h:p0/\p1/\p2/\p3/\p4/\p5/\p6) (k:r):p0/\p1/\p2/\p3/\p4/\p5/\p6/\r:=⟨h.1,h.2.1,h.2.2.1,h.2.2.2.1,h.2.2.2.2.1,h.2.2.2.2.2.1,h.2.2.2.2.2.2,k⟩
theorem Aj8 {p0 p1 p2 p3 p4 p5 p6 p7 r:Prop} (h:p0/\p1/\p2/\p3/\p4/\p5/\p6/\p7) (k:r):p0/\p1/\p2/\p3/\p4/\p5/\p6/\p7/\r:=⟨h.1,h.2.1,h.2.2.1,h.2.2.2.1,h.2.2.2.2.1,h.2.2.2.2.2.1,h.2.2.2.2.2.2.1,h.2.2.2.2.2.2.2,k⟩
theorem Aj9 {p0 p1 p2 p3 p4 p5 p6 p7 p8 r:Prop} (h:p0/\p1/\p2/\p3/\p4/\p5/\p6/\p7/\p8) (k:r):p0/\p1/\p2/\p3/\p4/\p5/\p6/\p7/\p8/\r:=⟨h.1,h.2.1,h.2.2.1,h.2.2.2.1,h.2.2.2.2.1,h.2.2.2.2.2.1,h.2.2.2.2.2.2.1,h.2.2.2.2.2.2.2.1,h.2.2.2.2.2.2.2.2,k⟩
theorem afg {p0 p1 p2 p3 p4 p5 p6 p7 p8 p9 r:Prop} (h:p0/\p1/\p2/\p3/\p4/\p5/\p6/\p7/\p8/\p9) (k:r):p0/\p1/\p2/\p3/\p4/\p5/\p6/\p7/\p8/\p9/\r:=⟨h.1,h.2.1,h.2.2.1,h.2.2.2.1,h.2.2.2.2.1,h.2.2.2.2.2.1,h.2.2.2.2.2.2.1,h.2.2.2.2.2.2.2.1,h.2.2.2.2.2.2.2.2.1,h.2.2.2.2.2.2.2.2.2,k⟩
theorem aff {p0 p1 p2 p3 p4 p5 p6 p7 p8 p9 p10 r:Prop} (h:p0/\p1/\p2/\p3/\p4/\p5/\p6/\p7/\p8/\p9/\p10) (k:r):p0/\p1/\p2/\p3/\p4/\p5/\p6/\p7/\p8/\p9/\p10/\r:=⟨h.1,h.2.1,h.2.2.1,h.2.2.2.1,h.2.2.2.2.1,h.2.2.2.2.2.1,h.2.2.2.2.2.2.1,h.2.2.2.2.2.2.2.1,h.2.2.2.2.2.2.2.2.1,h.2.2.2.2.2.2.2.2.2.1,h.2.2.2.2.2.2.2.2.2.2,k⟩
theorem afe {p0 p1 p2 p3 p4 p5 p6 p7 p8 p9 p10 p11 r:Prop} (h:p0/\p1/\p2/\p3/\p4/\p5/\p6/\p7/\p8/\p9/\p10/\p11) (k:r):p0/\p1/\p2/\p3/\p4/\p5/\p6/\p7/\p8/\p9/\p10/\p11/\r:=⟨h.1,h.2.1,h.2.2.1,h.2.2.2.1,h.2.2.2.2.1,h.2.2.2.2.2.1,h.2.2.2.2.2.2.1,h.2.2.2.2.2.2.2.1,h.2.2.2.2.2.2.2.2.1,h.2.2.2.2.2.2.2.2.2.1,h.2.2.2.2.2.2.2.2.2.2.1,h.2.2.2.2.2.2.2.2.2.2.2,k⟩
theorem afd {p0 p1 p2 p3 p4 p5 p6 p7 p8 p9 p10 p11 p12 r:Prop} (h:p0/\p1/\p2/\p3/\p4/\p5/\p6/\p7/\p8/\p9/\p10/\p11/\p12) (k:r):p0/\p1/\p2/\p3/\p4/\p5/\p6/\p7/\p8/\p9/\p10/\p11/\p12/\r:=⟨h.1,h.2.1,h.2.2.1,h.2.2.2.1,h.2.2.2.2.1,h.2.2.2.2.2.1,h.2.2.2.2.2.2.1,h.2.2.2.2.2.2.2.1,h.2.2.2.2.2.2.2.2.1,h.2.2.2.2.2.2.2.2.2.1,h.2.2.2.2.2.2.2.2.2.2.1,h.2.2.2.2.2.2.2.2.2.2.2.1,h.2.2.2.2.2.2.2.2.2.2.2.2,k⟩
theorem eqQ:eqB 0 0=true/\eqB 0 1=false/\eqB 0 2=false/\eqB 0 3=false/\eqB 0 4=false/\eqB 0 5=false/\eqB 0 6=false/\eqB 0 7=false/\eqB 0 8=false/\eqB 0 9=false/\eqB 0 10=false/\eqB 0 11=false/\eqB 0 12=false/\eqB 0 13=false/\eqB 0 14=false/\eqB 0 15=false/\eqB 1 0=false/\eqB 1 1=true/\eqB 1 2=false/\eqB 1 3=false/\eqB 1 4=false/\eqB 1 5=false/\eqB 1 6=false/\eqB 1 7=false/\eqB 1 8=false/\eqB 1 9=false/\eqB 1 10=false/\eqB 1 11=false/\eqB 1 12=false/\eqB 1 13=false/\eqB 1 14=false/\eqB 1 15=false/\eqB 2 0=false/\eqB 2 1=false/\eqB 2 2=true/\eqB 2 3=false/\eqB 2 4=false/\eqB 2 5=false/\eqB 2 6=false/\eqB 2 7=false/\eqB 2 8=false/\eqB 2 9=false/\eqB 2 10=false/\eqB 2 11=false/\eqB 2 12=false/\eqB 2 13=false/\eqB 2 14=false/\eqB 2 15=false/\eqB 3 0=false/\eqB 3 1=false/\eqB 3 2=false/\eqB 3 3=true/\eqB 3 4=false/\eqB 3 5=false/\eqB 3 6=false/\eqB 3 7=false/\eqB 3 8=false/\eqB 3 9=false/\eqB 3 10=false/\eqB 3 11=false/\eqB 3 12=false/\eqB 3 13=false/\eqB 3 14=false/\eqB 3 15=false/\eqB 4 0=false/\eqB 4 1=false/\eqB 4 2=false/\eqB 4 3=false/\eqB 4 4=true/\eqB 4 5=false/\eqB 4 6=false/\eqB 4 7=false/\eqB 4 8=false/\eqB 4 9=false/\eqB 4 10=false/\eqB 4 11=false/\eqB 4 12=false/\eqB 4 13=false/\eqB 4 14=false/\eqB 4 15=false/\eqB 5 0=false/\eqB 5 1=false/\eqB 5 2=false/\eqB 5 3=false/\eqB 5 4=false/\eqB 5 5=true/\eqB 5 6=false/\eqB 5 7=false/\eqB 5 8=false/\eqB 5 9=false/\eqB 5 10=false/\eqB 5 11=false/\eqB 5 12=false/\eqB 5 13=false/\eqB 5 14=false/\eqB 5 15=false/\eqB 6 0=false/\eqB 6 1=false/\eqB 6 2=false/\eqB 6 3=false/\eqB 6 4=false/\eqB 6 5=false/\eqB 6 6=true/\eqB 6 7=false/\eqB 6 8=false/\eqB 6 9=false/\eqB 6 10=false/\eqB 6 11=false/\eqB 6 12=false/\eqB 6 13=false/\eqB 6 14=false/\eqB 6 15=false/\eqB 7 0=false/\eqB 7 1=false/\eqB 7 2=false/\eqB 7 3=false/\eqB 7 4=false/\eqB 7 5=false/\eqB 7 6=false/\eqB 7 7=true/\eqB 7 8=false/\eqB 7 9=false/\eqB 7 10=false/\eqB 7 11=false/\eqB 7 12=false/\eqB 7 13=false/\eqB 7 14=false/\eqB 7 15=false/\eqB 8 0=false/\eqB 8 1=false/\eqB 8 2=false/\eqB 8 3=false/\eqB 8 4=false/\eqB 8 5=false/\eqB 8 6=false/\eqB 8 7=false/\eqB 8 8=true/\eqB 8 9=false/\eqB 8 10=false/\eqB 8 11=false/\eqB 8 12=false/\eqB 8 13=false/\eqB 8 14=false/\eqB 8 15=false/\eqB 9 0=false/\eqB 9 1=false/\eqB 9 2=false/\eqB 9 3=false/\eqB 9 4=false/\eqB 9 5=false/\eqB 9 6=false/\eqB 9 7=false/\eqB 9 8=false/\eqB 9 9=true/\eqB 9 10=false/\eqB 9 11=false/\eqB 9 12=false/\eqB 9 13=false/\eqB 9 14=false/\eqB 9 15=false/\eqB 10 0=false/\eqB 10 1=false/\eqB 10 2=false/\eqB 10 3=false/\eqB 10 4=false/\eqB 10 5=false/\eqB 10 6=false/\eqB 10 7=false/\eqB 10 8=false/\eqB 10 9=false/\eqB 10 10=true/\eqB 10 11=false/\eqB 10 12=false/\eqB 10 13=false/\eqB 10 14=false/\eqB 10 15=false/\eqB 11 0=false/\eqB 11 1=false/\eqB 11 2=false/\eqB 11 3=false/\eqB 11 4=false/\eqB 11 5=false/\eqB 11 6=false/\eqB 11 7=false/\eqB 11 8=false/\eqB 11 9=false/\eqB 11 10=false/\eqB 11 11=true/\eqB 11 12=false/\eqB 11 13=false/\eqB 11 14=false/\eqB 11 15=false/\eqB 12 0=false/\eqB 12 1=false/\eqB 12 2=false/\eqB 12 3=false/\eqB 12 4=false/\eqB 12 5=false/\eqB 12 6=false/\eqB 12 7=false/\eqB 12 8=false/\eqB 12 9=false/\eqB 12 10=false/\eqB 12 11=false/\eqB 12 12=true/\eqB 12 13=false/\eqB 12 14=false/\eqB 12 15=false/\eqB 13 0=false/\eqB 13 1=false/\eqB 13 2=false/\eqB 13 3=false/\eqB 13 4=false/\eqB 13 5=false/\eqB 13 6=false/\eqB 13 7=false/\eqB 13 8=false/\eqB 13 9=false/\eqB 13 10=false/\eqB 13 11=false/\eqB 13 12=false/\eqB 13 13=true/\eqB 13 14=false/\eqB 13 15=false/\eqB 14 0=false/\eqB 14 1=false/\eqB 14 2=false/\eqB 14 3=false/\eqB 14 4=false/\eqB 14 5=false/\eqB 14 6=false/\eqB 14 7=false/\eqB 14 8=false/\eqB 14 9=false/\eqB 14 10=false/\eqB 14 11=false/\eqB 14 12=false/\eqB 14 13=false/\eqB 14 14=true/\eqB 14 15=false/\eqB 15 0=false/\eqB 15 1=false/\eqB 15 2=false/\eqB 15 3=false/\eqB 15 4=false/\eqB 15 5=false/\eqB 15 6=false/\eqB 15 7=false/\eqB 15 8=false/\eqB 15 9=false/\eqB 15 10=false/\eqB 15 11=false/\eqB 15 12=false/\eqB 15 13=false/\eqB 15 14=false/\eqB 15 15=true:=⟨rfl,rfl,rfl,rfl,rfl,rfl,rfl,rfl,rfl,rfl,rfl,rfl,rfl,rfl,rfl,rfl,rfl,rfl,rfl,rfl,rfl,rfl,rfl,rfl,rfl,rfl,rfl,rfl,rfl,rfl,rfl,rfl,rfl,rfl,rfl,rfl,rfl,rfl,rfl,rfl,rfl,rfl,rfl,rfl,rfl,rfl,rfl,rfl,rfl,rfl,rfl,rfl,rfl,rfl,rfl,rfl,rfl,rfl,rfl,rfl,rfl,rfl,rfl,rfl,rfl,rfl,rfl,rfl,rfl,rfl,rfl,rfl,rfl,rfl,rfl,rfl,rfl,rfl,rfl,rfl,rfl,rfl,rfl,rfl,rfl,rfl,rfl,rfl,rfl,rfl,rfl,rfl,rfl,rfl,rfl,rfl,rfl,rfl,rfl,rfl,rfl,rfl,rfl,rfl,rfl,rfl,rfl,rfl,rfl,rfl,rfl,rfl,rfl,rfl,rfl,rfl,rfl,rfl,rfl,rfl,rfl,rfl,rfl,rfl,rfl,rfl,rfl,rfl,rfl,rfl,rfl,rfl,rfl,rfl,rfl,rfl,rfl,rfl,rfl,rfl,rfl,rfl,rfl,rfl,rfl,rfl,rfl,rfl,rfl,rfl,rfl,rfl,rfl,rfl,rfl,rfl,rfl,rfl,rfl,rfl,rfl,rfl,rfl,rfl,rfl,rfl,rfl,rfl,rfl,rfl,rfl,rfl,rfl,rfl,rfl,rfl,rfl,rfl,rfl,rfl,rfl,rfl,rfl,rfl,rfl,rfl,rfl,rfl,rfl,rfl,rfl,rfl,rfl,rfl,rfl,rfl,rfl,rfl,rfl,rfl,rfl,rfl,rfl,rfl,rfl,rfl,rfl,rfl,rfl,rfl,rfl,rfl,rfl,rfl,rfl,rfl,rfl,rfl,rfl,rfl,rfl,rfl,rfl,rfl,rfl,rfl,rfl,rfl,rfl,rfl,rfl,rfl,rfl,rfl,rfl,rfl,rfl,rfl,rfl,rfl,rfl,rfl,rfl,rfl,rfl,rfl,rfl,rfl,rfl,rfl,rfl,rfl,rfl,rfl,rfl,rfl⟩
end Go.Dv
namespace Go.Dv
open Go.Proofs
attribute [local congr] aA bC aT bB bD
def wu (c:Int):Bool:=(leB 97 c && leB c 122) || (leB 65 c && leB c 90)
theorem Gt (c:Int) (H:AH):Ev aa C0 W0 129 [.int .u8 c] H=some (.bool (wu c),H):=by
 obtain ⟨tm,ht,g0,g1⟩:=tm1 (.int .u8 c) 17 (by decide);rw [Zo,ht];rw [<-af (ro H)];simp (maxSteps:=4000000) +contextual -implicitDefEqProofs only [aaQ,Tryz.f129,aP,g0,g1,↓aG,aF,eu,sevalprocAttr];unfold wu;refine congrArg (fun b=>some (AV.bool b,H)) ?_;cases leB 97 c <;>
 cases leB c 122 <;>
 cases leB 65 c <;>
 cases leB c 90 <;>
 rfl
theorem MV (c:Int) (H:AH):Ev aa C0 W0 149 [.int .u8 c] H=some (.bool (wu c),H):=by
 obtain ⟨tm,ht,g0,g1⟩:=tm1 (.int .u8 c) 17 (by decide);rw [Zk,ht];rw [<-af (ro H)];simp (maxSteps:=4000000) +contextual -implicitDefEqProofs only [aaN,Tryz.f149,aP,g0,g1,↓aG,aF,eu,sevalprocAttr];unfold wu;refine congrArg (fun b=>some (AV.bool b,H)) ?_;cases leB 97 c <;>
 cases leB c 122 <;>
 cases leB 65 c <;>
 cases leB c 90 <;>
 rfl
def Fc (c:Int):Bool:=leB 48 c && leB c 57
theorem aaq (c:Int) (H:AH):Ev aa C0 W0 165 [.int .u8 c] H=some (.bool (Fc c),H):=by
 obtain ⟨tm,ht,g0,g1⟩:=tm1 (.int .u8 c) 9 (by decide);rw [Zh,ht];rw [<-af (ro H)];simp (maxSteps:=4000000) +contextual -implicitDefEqProofs only [aaK,Tryz.f165,aP,g0,g1,↓aG,aF,eu,sevalprocAttr];unfold Fc;refine congrArg (fun b=>some (AV.bool b,H)) ?_;cases leB 48 c <;>
 cases leB c 57 <;>
 rfl
theorem aan (c:Int) (H:AH):Ev aa C0 W0 190 [.int .u8 c] H=some (.bool (Fc c),H):=by
 obtain ⟨tm,ht,g0,g1⟩:=tm1 (.int .u8 c) 9 (by decide);rw [Zg,ht];rw [<-af (ro H)];simp (maxSteps:=4000000) +contextual -implicitDefEqProofs only [aaJ,Tryz.f190,aP,g0,g1,↓aG,aF,eu,sevalprocAttr];unfold Fc;refine congrArg (fun b=>some (AV.bool b,H)) ?_;cases leB 48 c <;>
 cases leB c 57 <;>
 rfl
def yC (c:Int):Bool:=wu c || Fc c || eqB c 95
theorem TI (c:Int) (H:AH):Ev aa C0 W0 131 [.int .u8 c] H=some (.bool (yC c),H):=by
 obtain ⟨tm,ht,g0,g1⟩:=tm1 (.int .u8 c) 13 (by decide);rw [Zn,ht];rw [<-af (ro H)];simp (maxSteps:=4000000) +contextual -implicitDefEqProofs only [aaP,Tryz.f131,aP,g0,g1,↓Gq,↓ZY,Gt,aaq,↓aG,aF,eu,sevalprocAttr];unfold yC;refine congrArg (fun b=>some (AV.bool b,H)) ?_;cases wu c <;>
 cases Fc c <;>
 cases eqB c 95 <;>
 rfl
theorem TH (c:Int) (H:AH):Ev aa C0 W0 150 [.int .u8 c] H=some (.bool (yC c),H):=by
 obtain ⟨tm,ht,g0,g1⟩:=tm1 (.int .u8 c) 13 (by decide);rw [Zj,ht];rw [<-af (ro H)];simp (maxSteps:=4000000) +contextual -implicitDefEqProofs only [aaM,Tryz.f150,aP,g0,g1,↓Ma,↓ZW,MV,aan,↓aG,aF,eu,sevalprocAttr];unfold yC;refine congrArg (fun b=>some (AV.bool b,H)) ?_;cases wu c <;>
 cases Fc c <;>
 cases eqB c 95 <;>
 rfl
def ck (p:Nat->Bool) (N j:Nat):Bool:=(List.range' j (N - j)).all p
theorem dk {p:Nat->Bool} {N j:Nat} (h:N<=j):ck p N j=true:=by unfold ck; rw [show N - j=0 by omega]; rfl
theorem cK {p:Nat->Bool} {N j:Nat} (h:j < N):ck p N j=(p j && ck p N (j+1)):=by unfold ck; rw [show N - j=(N - (j+1))+1 by omega,List.range'_succ,gL]
theorem gz {p:Nat->Bool} {N:Nat}:ck p N 0=true↔∀ j,j < N->p j=true:=by unfold ck; rw [List.all_eq_true];exact ⟨fun h j hj=>h j (by rw [Je]; omega),fun h j hj=>h j (by rw [Je] at hj; omega)⟩
theorem Q6 {H:AH} {v:AV} {ws:List ByteArray} {s:ByteArray} (hs:SlS 164 1 H v (ws.map fun w=>[AV.str w])) (hN:ws.length < 2 ^ 60):∀ (d j:Nat) (tm:List AV) (K:AH) (Z:Option (bk × St)),EvC aa C0 W0 plN LP (tm,K)=Z->ws.length - j=d->j<=ws.length->an H K->tm.length=18->tm.getD 0 uA=.str s->tm.getD 1 uA=v->tm.getD 5 uA=I ((j:Nat):Int) ->
   ∃ X Y K1 K2,Z=br (ck (fun j=>!sEq (ws.getD j default) s) (ws.length) (j)) (some (.exit 0,(X,K1))) (some (.ret,(Y,K2)))/\(X.length=18/\an H K1/\X.getD 0 uA=.str s/\X.getD 1 uA=v)/\Y.length=18/\Y.getD 4 uA=.bool true:=by
 intro d;induction d with
 | zero =>
   intro j tm K Z hZ hd hj hA hlen h0 h1 h5;subst hZ;have hjl:j=ws.length:=by omega
   have hlt:ltB (j:Int) (ws.length:Nat)=false:=cw (by omega);have hln:=hs.len;simp only [ao] at hln;rw [dk (by omega),Gu];simp (maxSteps:=4000000) -implicitDefEqProofs only [y9,f120,aP,hlen,h0,h1,h5,hlt,hln,↓aG,aF,eu,sevalprocAttr];exact ⟨_,tm.set 4 (.bool true),_,K,rfl,⟨by first | exact hlen | simp only [aq,hlen],hA,by first | exact h0 | simp only [hlen,h0,gB,sevalprocAttr],by first | exact h1 | simp only [hlen,h1,gB,sevalprocAttr]⟩,by simp only [ls,hlen],by simp only [hlen,dK,Nat.reduceLT]⟩
 | succ d ih =>
   intro j tm K Z hZ hd hj hA hlen h0 h1 h5;subst hZ;have hjN:j < ws.length:=by omega
   have hlt:ltB (j:Int) (ws.length:Nat)=true:=cu (by omega);have hw:=b6 (j:=j) (by omega);have hln:=hs.len;simp only [ao] at hln;obtain ⟨i,k,hi,hr⟩:=hs.ix j [AV.str (ws.getD j default)] (by rw [List.getElem?_map,aj hjN,gde,aj hjN]; rfl);have hr0:=fun L=>xL hr hA L (x:=AV.str (ws.getD j default)) rfl;rw [cK hjN,Gu];rw [<-af K];cases hp:(!sEq (ws.getD j default) s) with
   | true =>
     have hp:sEq (ws.getD j default) s=false:=by rw [bl] at hp; exact hp
     simp only [bf];simp (maxSteps:=4000000) -implicitDefEqProofs only [y9,f120,aP,hlen,h0,h1,h5,hlt,hw,hln,hi,hr0,hp,ld9,↓aG,aF,eu,sevalprocAttr];exact ih (j+1) _ _ _ rfl (by omega) (by omega) (by first | exact hA | exact hA.bX _ | exact (hA.bX _).bX _ | exact hA) (by simp only [ls,hlen]) (by simp only [hlen,h0,gB,sevalprocAttr]) (by simp only [hlen,h1,gB,sevalprocAttr]) (by simp only [hlen,h5,gB,sevalprocAttr])
   | false =>
     have hp:sEq (ws.getD j default) s=true:=by rw [Bool.not_eq_false'] at hp; exact hp
     simp only [bd];simp (maxSteps:=4000000) -implicitDefEqProofs only [y9,f120,aP,hlen,h0,h1,h5,hlt,hw,hln,hi,hr0,hp,ld9,↓aG,aF,eu,sevalprocAttr];exact ⟨tm,_,K,_,rfl,⟨hlen,hA,h0,h1⟩,by simp only [ls,hlen],by simp only [hlen,gB,sevalprocAttr]⟩
theorem VI (ws:List ByteArray) (s:ByteArray):ck (fun j=>!sEq (ws.getD j default) s) ws.length 0=!sIn ws s:=by
 rw [gI,gz,bl];unfold sIn;constructor
 · intro h;rw [Jg];intro hc;have hm:∃ a∈ws,(s == a)=true:=by rw [AJ,List.any_eq_true] at hc;exact hc
   obtain ⟨a,ha,he⟩:=hm;obtain ⟨j,hj⟩:=List.getElem?_of_mem ha;have:=h j (aI hj);rw [gde,hj,fE,bl,B3,<-AS,he] at this;cases this
 · intro h j hj;rw [bl,Jg];intro hc;rw [AJ,List.any_eq_false] at h;refine h (ws.getD j default) ?_ ?_
   · rw [gde,aj hj]; exact List.getElem_mem hj
   · rw [AS,B3]; exact hc
theorem aaw {v:AV} {ws:List ByteArray} {s:ByteArray} {H:AH} (hs:SlS 164 1 H v (ws.map fun w=>[AV.str w])) (hN:ws.length < 2 ^ 60):Ev aa C0 W0 120 [.str s,v] H=some (.bool (sIn ws s),H):=by obtain ⟨tm,ht,g0,g1,g2⟩:=tm2 (.str s) v 18 (by decide);rw [Zt,ht];rw [<-af (ro H)];simp (maxSteps:=4000000) -implicitDefEqProofs only [aaT,f120,aP,g0,g1,g2,↓aG,aF,eu,sevalprocAttr];generalize hX:EvC aa C0 W0 _ (Code.loop _) _=Z;obtain ⟨X,Y,K1,K2,he,xs,y0,y1⟩:=Q6 (s:=s) hs.ro hN _ 0 _ _ _ hX rfl (Nat.zero_le _) (an.app _ _) (by simp only [ls,g0]) (by simp only [g0,g1,gB,sevalprocAttr]; try rfl) (by simp only [g0,g2,gB,sevalprocAttr]; try rfl) (by simp only [g0,gB,sevalprocAttr]; try rfl);subst he;rw [VI];simp (maxSteps:=4000000) +contextual -implicitDefEqProofs only [xs.1,y0,y1,↓aG,aF,eu,sevalprocAttr];cases sIn ws s <;> rfl
end Go.Dv
