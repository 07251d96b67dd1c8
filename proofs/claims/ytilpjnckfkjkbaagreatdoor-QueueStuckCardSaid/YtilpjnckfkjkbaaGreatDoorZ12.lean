/- Part 12 of the walks (own work). -/
import Derived.Test.YtilpjnckfkjkbaaGreatDoorZ11
import Derived.Laws.Strings
import Derived.Laws.StructEq
set_option maxRecDepth 100000
set_option maxHeartbeats 4000000
set_option linter.unusedSimpArgs false
set_option linter.unusedVariables false
namespace Go.Dv
open Go.Proofs
attribute [local congr] bind_congr_first cb_congr condA_congr gd_congr br_congr
def Agree (H K:AH):Prop:=∀ j,j < H.length->K[j]? =H[j]?
theorem Agree.refl (H:AH):Agree H H:=fun _ _=>rfl
theorem Agree.app (H L:AH):Agree H (H++L):=fun _ h=>List.getElem?_append_left h
theorem Agree.len {H K:AH} (h:Agree H K):H.length<=K.length:=by
 rcases Nat.lt_or_ge K.length H.length with c | c
 · have:=h K.length c
   rw [List.getElem?_eq_none (Nat.le_refl _),List.getElem?_eq_getElem c] at this; cases this
 · exact c
theorem Agree.trans {H K M:AH} (h:Agree H K) (k:Agree K M):Agree H M:=fun j hj=>(k j (Nat.lt_of_lt_of_le hj h.len)).trans (h j hj)
theorem Agree.appR {H K:AH} (h:Agree H K) (L:AH):Agree H (K++L):=h.trans (Agree.app K L)
theorem Agree.setR {H K:AH} (h:Agree H K) {i:Nat} (hi:H.length<=i) (o:AObj):Agree H (K.set i o):=fun j hj=>by
 rw [List.getElem?_set_ne (by omega)]; exact h j hj
theorem Agree.get {H K:AH} (h:Agree H K) {i:Nat} {o:AObj} (hi:H[i]? =some o):K[i]? =some o:=by
 rw [h i (lt_of_get hi)]; exact hi
theorem get_app {K:AH} {i:Nat} {o:AObj} (h:K[i]? =some o) (L:AH):(K++L)[i]? =some o:=by
 rw [List.getElem?_append_left (lt_of_get h)]; exact h
theorem obj_rd {K:AH} {b:Nat} {cs:List AV} {e:TypeId} (h:K[b]? =some (.cells cs e)) (L:AH) (k n:Nat):rdCells (K++L) b k n=if k+n<=cs.length then some ((cs.drop k).take n) else none:=by
 unfold rdCells; rw [get_app h L]
theorem row_rd {H K:AH} {i k es:Nat} {row:List AV} (hr:rdCells H i k es=some row) (hA:Agree H K) (L:AH):rdCells (K++L) i k es=some row:=rd_same (hA.appR L) hr
theorem row_c {H K:AH} {i k es:Nat} {row:List AV} (hr:rdCells H i k es=some row) (hA:Agree H K) (L:AH) (c:Nat) {x:AV} (hc:row[c]? =some x):rdCells (K++L) i (k+c) 1=some [x]:=rd_same (hA.appR L) (rd_cell hr hc)
theorem row_0 {H K:AH} {i k es:Nat} {row:List AV} (hr:rdCells H i k es=some row) (hA:Agree H K) (L:AH) {x:AV} (hc:row[0]? =some x):rdCells (K++L) i k 1=some [x]:=row_c hr hA L 0 hc
theorem und9:Tryz.prog.underlying 9=some .string:=by kernel_rfl
theorem und3:Tryz.prog.underlying 3=some (.int .i64):=by kernel_rfl
theorem und21:Tryz.prog.underlying 21=some (.int .i32):=by kernel_rfl
theorem ln9 (H:AH) (s:ByteArray):lenA Tryz.prog 9 H (.str s)=some (.int .i64 s.size):=by kernel_rfl
def sEq (a b:ByteArray):Bool:=a.toList == b.toList
theorem sEq_beq (a b:ByteArray):(a == b)=sEq a b:=beq_toListBytes a b
theorem sEq_iff (a b:ByteArray):sEq a b=true↔a=b:=by
 unfold sEq
 rw [beq_iff_eq,ByteArray.toList_eq,ByteArray.toList_eq]
 exact ⟨fun h=>ByteArray.ext (Array.toList_inj.1 h),fun h=>by rw [h]⟩
theorem sEq_symm (a b:ByteArray):sEq a b=sEq b a:=by rw [Bool.eq_iff_iff,sEq_iff,sEq_iff,eq_comm]
theorem pure_seq {ev:Operand->Option AV} {x y:Operand} {a b:ByteArray} (hx:ev x=some (.str a)) (hy:ev y=some (.str b)) (dst:Option Tmp) (yt ty:TypeId) (pos:String) (after:Array Edge) (g:Option (Nat × Bool)) :
   pureA Tryz.prog ev ⟨dst,.binOp .eql 9 x y yt,ty,pos,after,g⟩=some (.val (.bool (sEq a b))):=by
 have:pureRun Tryz.prog (execOp (rhoOf ev) ⟨dst,.binOp .eql 9 x y yt,ty,pos,after,g⟩)=pureRun Tryz.prog (do pure (Next.value (<-binOp .eql 9 (.string a) (.string b)))):=by
   simp [execOp,rhoOf,hx,hy,toV,eqGuard,bind,Sem.bind,pure]
 have h2:pureRun Tryz.prog (do pure (Next.value (<-binOp .eql 9 (.string a) (.string b))))=some (.value (.bool (sEq a b))):=by rw [binOp_string_eql]; rfl
 simp only [pureA,notSelect,Op.operands,hx,hy,toV,this,h2,Option.bind_some,Option.isSome_some,List.all_cons,List.all_nil,Bool.and_self,if_true]
 rfl
theorem pure_sne {ev:Operand->Option AV} {x y:Operand} {a b:ByteArray} (hx:ev x=some (.str a)) (hy:ev y=some (.str b)) (dst:Option Tmp) (yt ty:TypeId) (pos:String) (after:Array Edge) (g:Option (Nat × Bool)) :
   pureA Tryz.prog ev ⟨dst,.binOp .neq 9 x y yt,ty,pos,after,g⟩=some (.val (.bool (!sEq a b))):=by
 have:pureRun Tryz.prog (execOp (rhoOf ev) ⟨dst,.binOp .neq 9 x y yt,ty,pos,after,g⟩)=pureRun Tryz.prog (do pure (Next.value (<-binOp .neq 9 (.string a) (.string b)))):=by
   simp [execOp,rhoOf,hx,hy,toV,eqGuard,bind,Sem.bind,pure]
 have h2:pureRun Tryz.prog (do pure (Next.value (<-binOp .neq 9 (.string a) (.string b))))=some (.value (.bool (!sEq a b))):=by rw [binOp_string_neq]; rfl
 simp only [pureA,notSelect,Op.operands,hx,hy,toV,this,h2,Option.bind_some,Option.isSome_some,List.all_cons,List.all_nil,Bool.and_self,if_true]
 rfl
noncomputable def binV (op:BinOp) (t:TypeId) (x y:AV) (H:AH) (fb:Option AV):Option AV:=
 match x,y with
 | .int k a,.int k' b=>match (if k=k' then intBinA op k a b else none) with
   | some v=>some v
   | none=>fb
 | .str a,.str b=>if t=9 then match op with
     | .eql=>some (.bool (sEq a b))
     | .neq=>some (.bool (!sEq a b))
     | _=>fb
   else fb
 | _,_=>match op,eqA Tryz.prog t H x y with
   | .eql,some r=>some (.bool r)
   | .neq,some r=>some (.bool (!r))
   | _,_=>fb
noncomputable def binQ (op:BinOp) (t:TypeId) (x y:AV) (fb:Option AV):Option AV:=
 match x,y with
 | .int k a,.int k' b=>match (if k=k' then intBinA op k a b else none) with
   | some v=>some v
   | none=>fb
 | .str a,.str b=>if t=9 then match op with
     | .eql=>some (.bool (sEq a b))
     | .neq=>some (.bool (!sEq a b))
     | _=>fb
   else fb
 | _,_=>match op,eqVG Tryz.prog t x y with
   | .eql,some r=>some (.bool r)
   | .neq,some r=>some (.bool (!r))
   | _,_=>fb
def fbA (r:Option ANext):Option AV:=r.bind fun n=>match n with
 | .val v=>some v
 | _=>none
theorem pureA_fb (ev:Operand->Option AV) (o:Oper) (H:AH):(pureA Tryz.prog ev o).map (fun n=>(n,H))=(fbA (pureA Tryz.prog ev o)).map fun v=>(.val v,H):=by
 have:pureA Tryz.prog ev o=none∨∃ v,pureA Tryz.prog ev o=some (.val v):=by
   unfold pureA
   split
   · split
     · rename_i v _
       cases ofV 6 v with
       | none=>exact .inl rfl
       | some a=>exact .inr ⟨a,rfl⟩
     · exact .inl rfl
   · exact .inl rfl
 rcases this with h | ⟨v,h⟩ <;> rw [h] <;> rfl
theorem eqA_str {t:TypeId} {H:AH} {a b:ByteArray}:eqA Tryz.prog t H (.str a) (.str b)=none:=by
 unfold eqA
 split <;> first | rfl | skip
theorem mb1 (r fb:Option AV) (H:AH):(match r with
   | some v=>some (ANext.val v,H)
   | none=>Option.map (fun v=>(ANext.val v,H)) fb)=Option.map (fun v=>(ANext.val v,H)) (match r with
   | some v=>some v
   | none=>fb):=by cases r <;> rfl
theorem mb2 (op:BinOp) (r:Option Bool) (fb:Option AV) (H:AH):(match op,r with
   | .eql,some r=>some (ANext.val (.bool r),H)
   | .neq,some r=>some (ANext.val (.bool (!r)),H)
   | _,_=>Option.map (fun v=>(ANext.val v,H)) fb)=Option.map (fun v=>(ANext.val v,H)) (match op,r with
   | .eql,some r=>some (AV.bool r)
   | .neq,some r=>some (.bool (!r))
   | _,_=>fb):=by cases op <;> cases r <;> rfl
theorem aop_binOpV {C:Cfg Tryz.prog} (slot:Option Nat) (ev:Operand->Option AV) (dst:Option Tmp) (ty:TypeId) (pos:String) (after:Array Edge) (g:Option (Nat × Bool)) (H:AH) (op:BinOp) (t yt:TypeId) (x y:Operand) :
   aop Tryz.prog C slot ev ⟨dst,.binOp op t x y yt,ty,pos,after,g⟩ H=(ev x).bind fun xv=>(ev y).bind fun yv=>(binV op t xv yv H (fbA (pureA Tryz.prog ev ⟨dst,.binOp op t x y yt,ty,pos,after,g⟩))).map fun v=>(.val v,H):=by
 rw [aop_binOp]
 cases hx:ev x with
 | none=>rfl
 | some xv =>
   cases hy:ev y with
   | none=>rfl
   | some yv =>
     simp only [Option.bind_some]
     rw [pureA_fb]
     unfold binV
     cases xv <;> cases yv <;> (try simp only [eqA_str]) <;> first
       | exact mb1 _ _ _
       | exact mb2 _ _ _ _
       | (by_cases ht:t=9
          · subst ht
            cases op <;> first
              | (simp only [if_true,Option.map_some]; rw [pure_seq hx hy]; rfl)
              | (simp only [if_true,Option.map_some]; rw [pure_sne hx hy]; rfl)
              | rfl
          · rw [if_neg ht])
theorem q_binOpV (ev:Operand->Option AV) (dst:Option Tmp) (ty:TypeId) (pos:String) (after:Array Edge) (g:Option (Nat × Bool)) (op:BinOp) (t yt:TypeId) (x y:Operand) :
   quietA Tryz.prog ev ⟨dst,.binOp op t x y yt,ty,pos,after,g⟩=(ev x).bind fun xv=>(ev y).bind fun yv=>binQ op t xv yv (fbA (pureA Tryz.prog ev ⟨dst,.binOp op t x y yt,ty,pos,after,g⟩)):=by
 rw [q_binOp]
 cases hx:ev x with
 | none=>rfl
 | some xv =>
   cases hy:ev y with
   | none=>rfl
   | some yv =>
     simp only [Option.bind_some]
     unfold binQ
     cases xv <;> cases yv <;> (try simp only [show ∀ a b,eqVG Tryz.prog t (.str a) (.str b)=none from fun _ _=>rfl]) <;> first
       | rfl
       | (by_cases ht:t=9
          · subst ht
            cases op <;> first
              | (simp only [if_true]; rw [pure_seq hx hy]; rfl)
              | (simp only [if_true]; rw [pure_sne hx hy]; rfl)
              | rfl
          · rw [if_neg ht]; rfl)
theorem binV_int (op:BinOp) (t:TypeId) (k:IntKind) (a b:Int) (H:AH) (fb:Option AV):binV op t (.int k a) (.int k b) H fb=match intBinA op k a b with
   | some v=>some v
   | none=>fb:=by unfold binV; simp only [if_true]
theorem binV_seq (a b:ByteArray) (H:AH) (fb:Option AV):binV .eql 9 (.str a) (.str b) H fb=some (.bool (sEq a b)):=rfl
theorem binV_sne (a b:ByteArray) (H:AH) (fb:Option AV):binV .neq 9 (.str a) (.str b) H fb=some (.bool (!sEq a b)):=rfl
theorem binQ_int (op:BinOp) (t:TypeId) (k:IntKind) (a b:Int) (fb:Option AV):binQ op t (.int k a) (.int k b) fb=match intBinA op k a b with
   | some v=>some v
   | none=>fb:=by unfold binQ; simp only [if_true]
theorem binQ_seq (a b:ByteArray) (fb:Option AV):binQ .eql 9 (.str a) (.str b) fb=some (.bool (sEq a b)):=rfl
theorem binQ_sne (a b:ByteArray) (fb:Option AV):binQ .neq 9 (.str a) (.str b) fb=some (.bool (!sEq a b)):=rfl
theorem q_notV (ev:Operand->Option AV) (dst:Option Tmp) (ty:TypeId) (pos:String) (after:Array Edge) (g:Option (Nat × Bool)) (t:TypeId) (x:Operand) :
   quietA Tryz.prog ev ⟨dst,.unOp .not t x,ty,pos,after,g⟩=(ev x).bind fun xv=>match xv with
     | .bool b=>some (.bool !b)
     | _=>fbA (pureA Tryz.prog ev ⟨dst,.unOp .not t x,ty,pos,after,g⟩):=by
 cases hx:ev x with
 | none =>
   have:=pureA_none1 (P:=Tryz.prog) (ev:=ev) (o:=⟨dst,.unOp .not t x,ty,pos,after,g⟩) (x:=x) (by simp [Op.operands]) hx
   simp only [quietA,this]; rfl
 | some xv =>
   simp only [Option.bind_some]
   split
   · simp only [quietA,pureA_not hx]; rfl
   · simp only [quietA]; rfl
theorem q_convV {t u:TypeId} {dt:TypeDesc} {k':IntKind} (ht:Tryz.prog.underlying t=some dt) (hu:Tryz.prog.underlying u=some (.int k')) (ev:Operand->Option AV) (dst:Option Tmp) (ty:TypeId) (pos:String) (after:Array Edge) (g:Option (Nat × Bool)) (x:Operand) :
   quietA Tryz.prog ev ⟨dst,.convert t u x,ty,pos,after,g⟩=(ev x).bind fun xv=>match xv with
     | .int _ n=>some (.int k' (k'.wrap n))
     | _=>fbA (pureA Tryz.prog ev ⟨dst,.convert t u x,ty,pos,after,g⟩):=by
 cases hx:ev x with
 | none =>
   have:=pureA_none1 (P:=Tryz.prog) (ev:=ev) (o:=⟨dst,.convert t u x,ty,pos,after,g⟩) (x:=x) (by simp [Op.operands]) hx
   simp only [quietA,this]; rfl
 | some xv =>
   simp only [Option.bind_some]
   split
   · simp only [quietA,pureA_convert ht hu hx]; rfl
   · simp only [quietA]; rfl
def strE (l:List ByteArray):List (AV × AV × Nat):=(List.zip l (List.range l.length)).map fun p=>(.str p.1,.bool true,p.2)
theorem mt172:mapTypes Tryz.prog 172=some (9,4):=by kernel_rfl
theorem z4:zeroA Tryz.prog 4=some (.bool false):=by kernel_rfl
theorem ask9 (e:Bool) (s:ByteArray):askA Tryz.prog 9 e (.str s)=some (.string s,.string):=by cases e <;> kernel_rfl
theorem find_str (s:ByteArray):∀ (l:List (ByteArray × Nat)) (i:Nat),findA Tryz.prog 9 .string (.string s) (l.map fun p=>(.str p.1,.bool true,p.2)) i=if (l.map (·.1)).contains s then (findA Tryz.prog 9 .string (.string s) (l.map fun p=>(.str p.1,.bool true,p.2)) i) else some none
 | [],i=>rfl
 | p::l,i=>by
   have ih:=find_str s l (i+1)
   simp only [List.map_cons,findA,toV,Option.bind_some,sameK,Instr.sameNow,List.contains_cons]
   cases h:(s == p.1) with
   | true=>simp
   | false=>simp only [Bool.false_or]; exact ih
theorem find_strT (s:ByteArray):∀ (l:List (ByteArray × Nat)) (i:Nat),(l.map (·.1)).contains s=true->∃ j,findA Tryz.prog 9 .string (.string s) (l.map fun p=>(.str p.1,.bool true,p.2)) i=some (some (j,.bool true))
 | [],i,h=>by simp at h
 | p::l,i,h=>by
   simp only [List.map_cons,findA,toV,Option.bind_some,sameK,Instr.sameNow]
   cases h':(s == p.1) with
   | true=>exact ⟨i,rfl⟩
   | false =>
     simp only [List.map_cons,List.contains_cons,h',Bool.false_or] at h
     exact find_strT s l (i+1) h
theorem strE_map (l:List ByteArray):(List.zip l (List.range l.length)).map (·.1)=l:=by rw [List.map_fst_zip (by simp)]
theorem find_strF (s:ByteArray) (l:List ByteArray) (h:l.contains s=false):findA Tryz.prog 9 .string (.string s) (strE l) 0=some none:=by
 unfold strE
 rw [find_str,strE_map,h]; rfl
theorem find_strT' (s:ByteArray) (l:List ByteArray) (h:l.contains s=true):∃ j,findA Tryz.prog 9 .string (.string s) (strE l) 0=some (some (j,.bool true)):=find_strT s _ 0 (by rw [strE_map]; exact h)
def sIn (l:List ByteArray) (s:ByteArray):Bool:=l.contains s
theorem lk172 {H:AH} {i:Nat} {l:List ByteArray} {c:Nat} (h:H[i]? =some (.map (strE l) c)) (s:ByteArray):lookupA Tryz.prog 172 (.map i) (.str s) false H=some (.bool (sIn l s)):=by
 unfold sIn
 simp only [lookupA,mt172,entriesA,h,Option.bind_some,ask9]
 cases hc:l.contains s with
 | true =>
   obtain ⟨j,hj⟩:=find_strT' s l hc
   rw [hj]; rfl
 | false =>
   rw [find_strF s l hc]
   simp only [Option.bind_some,z4]; rfl
theorem strE_snoc (l:List ByteArray) (s:ByteArray):strE l++[(.str s,.bool true,l.length)]=strE (l++[s]):=by
 unfold strE
 rw [List.length_append,List.length_singleton,List.range_succ,List.zip_append (by simp),List.map_append]; rfl
theorem mp172 {H:AH} {i:Nat} {l:List ByteArray} (h:H[i]? =some (.map (strE l) l.length)) {s:ByteArray} (hc:sIn l s=false):mapPutA Tryz.prog 172 (.map i) (.str s) (.bool true) H=some (H.set i (.map (strE (l++[s])) (l++[s]).length)):=by
 unfold sIn at hc
 simp only [mapPutA,mt172,h,Option.bind_some,ask9,find_strF s l hc]
 rw [strE_snoc,List.length_append]; rfl
end Go.Dv
namespace Go.Dv
open Go.Proofs
theorem evDn:(type_of% @EvC_seq)/\(type_of% @EvC_skip)/\(type_of% @EvC_exit)/\(type_of% @EvC_ret)/\(type_of% @EvC_block)/\(type_of% @EvC_condB)/\(type_of% @condA_bool)/\(type_of% @ev_region)/\(type_of% @EvC_reads)/\(type_of% @ev_tail)/\(type_of% @EvC_plan)/\(type_of% @EvC_calm)/\(type_of% @calmsA_nil)/\(type_of% @calmsA_none)/\(type_of% @calmsA_guardB)/\(type_of% @cm_load)/\(type_of% @cm_lookup)/\(type_of% @cm_slice)/\(type_of% @cm_builtin)/\(type_of% @cm_move)/\(type_of% @cm_assign)/\(type_of% @cm_pickB)/\(type_of% @cm_binOp)/\(type_of% @cm_unOp)/\(type_of% @cm_convert)/\(type_of% @cm_field)/\(type_of% @cm_fieldAddr)/\(type_of% @cm_indexAddr)/\(type_of% @cm_nilCheck)/\(type_of% @cm_extract)/\(type_of% @cm_call)/\(type_of% (q_convV und21 und3))/\(type_of% @runL_cons)/\(type_of% @runL_nil)/\(type_of% @readsA_nil)/\(type_of% @readsA_none)/\(type_of% @readsA_guardB)/\(type_of% @gd_t)/\(type_of% @gd_f)/\(type_of% @gd_none)/\(type_of% @br_true)/\(type_of% @br_false)/\(type_of% @stepO_none)/\(type_of% @stepO_guardB)/\(type_of% @aop_move)/\(type_of% @aop_assign)/\(type_of% @aop_load)/\(type_of% @aop_store)/\(type_of% @aop_alloc)/\(type_of% @aop_box)/\(type_of% @aop_build)/\(type_of% @aop_nilCheck)/\(type_of% @aop_fieldAddr)/\(type_of% @aop_field)/\(type_of% @aop_indexAddr)/\(type_of% @aop_binOpV)/\(type_of% @aop_pickB)/\(type_of% @aop_extract)/\(type_of% @aop_lookup)/\(type_of% @aop_mapUpdate)/\(type_of% @aop_makeMap)/\(type_of% @aop_makeFunc)/\(type_of% @aop_buildSlice)/\(type_of% @aop_slice)/\(type_of% @aop_not)/\(type_of% (aop_conv (C:=C0) und21 und3))/\(type_of% @aop_call)/\(type_of% @callA_len)/\(type_of% @callA_append)/\(type_of% @rd_load)/\(type_of% @rd_lookup)/\(type_of% @rd_slice)/\(type_of% @rd_builtin_len)/\(type_of% @rd_move)/\(type_of% @rd_assign)/\(type_of% @rd_pickB)/\(type_of% @rd_binOp)/\(type_of% @rd_unOp)/\(type_of% @rd_convert)/\(type_of% @rd_field)/\(type_of% @rd_fieldAddr)/\(type_of% @rd_indexAddr)/\(type_of% @rd_nilCheck)/\(type_of% @rd_extract)/\(type_of% @q_binOpV)/\(type_of% @q_notV)/\(type_of% @yielded_eq):=⟨@EvC_seq,@EvC_skip,@EvC_exit,@EvC_ret,@EvC_block,@EvC_condB,@condA_bool,@ev_region,@EvC_reads,@ev_tail,@EvC_plan,@EvC_calm,@calmsA_nil,@calmsA_none,@calmsA_guardB,@cm_load,@cm_lookup,@cm_slice,@cm_builtin,@cm_move,@cm_assign,@cm_pickB,@cm_binOp,@cm_unOp,@cm_convert,@cm_field,@cm_fieldAddr,@cm_indexAddr,@cm_nilCheck,@cm_extract,@cm_call,(q_convV und21 und3),@runL_cons,@runL_nil,@readsA_nil,@readsA_none,@readsA_guardB,@gd_t,@gd_f,@gd_none,@br_true,@br_false,@stepO_none,@stepO_guardB,@aop_move,@aop_assign,@aop_load,@aop_store,@aop_alloc,@aop_box,@aop_build,@aop_nilCheck,@aop_fieldAddr,@aop_field,@aop_indexAddr,@aop_binOpV,@aop_pickB,@aop_extract,@aop_lookup,@aop_mapUpdate,@aop_makeMap,@aop_makeFunc,@aop_buildSlice,@aop_slice,@aop_not,(aop_conv (C:=C0) und21 und3),@aop_call,@callA_len,@callA_append,@rd_load,@rd_lookup,@rd_slice,@rd_builtin_len,@rd_move,@rd_assign,@rd_pickB,@rd_binOp,@rd_unOp,@rd_convert,@rd_field,@rd_fieldAddr,@rd_indexAddr,@rd_nilCheck,@rd_extract,@q_binOpV,@q_notV,@yielded_eq⟩
theorem evUp:(type_of% @cb_br)/\(type_of% @br_true)/\(type_of% @br_false)/\(type_of% @br_not)/\(type_of% @br_bind)/\(type_of% @br_bool)/\(type_of% @br_int)/\(type_of% @br_tup2)/\(type_of% @br_tup3)/\(type_of% @fin_bool)/\(type_of% @fin_int)/\(type_of% @fin_tup2)/\(type_of% @fin_tup3)/\(type_of% @fin_bi)/\(type_of% @gd_t)/\(type_of% @gd_f)/\(type_of% @gd_none)/\(type_of% @condA_bool)/\(type_of% @binV_int)/\(type_of% @binV_seq)/\(type_of% @binV_sne)/\(type_of% @binQ_int)/\(type_of% @binQ_seq)/\(type_of% @binQ_sne)/\(type_of% @ev_tmp)/\(type_of% @ev_const)/\(type_of% @ofV_int)/\(type_of% @ofV_bool)/\(type_of% @ofV_str)/\(type_of% @ofV_nilSlice)/\(type_of% @ofV_nilPtr)/\(type_of% @putA_some)/\(type_of% @putA_none)/\(type_of% @gs_self)/\(type_of% @gs_ne)/\(type_of% @List.length_set.{0})/\(type_of% @Option.bind_some.{0,0})/\(type_of% @Option.map_some.{0,0})/\(type_of% @ib_lss)/\(type_of% @ib_leq)/\(type_of% @ib_gtr)/\(type_of% @ib_geq)/\(type_of% @ib_eql)/\(type_of% @ib_neq)/\(type_of% @ib_add)/\(type_of% @ib_sub)/\(type_of% @ne_eq.{1})/\(type_of% @not_false_eq_true)/\(type_of% @if_true.{1})/\(type_of% @if_false.{1})/\(type_of% @ite_true.{1})/\(type_of% @ite_false.{1})/\(type_of% @put_app)/\(type_of% @and_true)/\(type_of% @true_and)/\(type_of% @and_self)/\(type_of% @decide_true)/\(type_of% @decide_false)/\(type_of% @yv_some)/\(type_of% @boolOf_bool)/\(type_of% @boolOf_undef)/\(type_of% @List.getElem?_toArray.{0})/\(type_of% @List.getElem?_cons_zero.{0})/\(type_of% @List.getElem?_cons_succ.{0})/\(type_of% @beq_self_eq_true.{0})/\(type_of% @wr_app)/\(type_of% @wr_app0)/\(type_of% @rd_app)/\(type_of% @rd_app0)/\(type_of% @rdL_here)/\(type_of% @rdL_next)/\(type_of% @wrL_here)/\(type_of% @wrL_next)/\(type_of% @List.all_cons.{0})/\(type_of% @List.all_nil.{0})/\(type_of% @Bool.and_self)/\(type_of% @Bool.true_and)/\(type_of% @Bool.and_true)/\(type_of% @Bool.false_and)/\(type_of% @Bool.and_false)/\(type_of% @Bool.true_or)/\(type_of% @Bool.or_true)/\(type_of% @Bool.false_or)/\(type_of% @Bool.or_false)/\(type_of% @Bool.not_true)/\(type_of% @Bool.not_false)/\(type_of% @Bool.not_not)/\(type_of% @List.drop_zero.{0})/\(type_of% @List.take_succ_cons.{0})/\(type_of% @List.take_zero.{0})/\(type_of% @List.drop_succ_cons.{0})/\(type_of% @List.head?_cons.{0})/\(type_of% @List.length_cons.{0})/\(type_of% @List.length_nil.{0})/\(type_of% @List.nil_append.{0})/\(type_of% @List.cons_append.{0})/\(type_of% @List.append_assoc.{0})/\(type_of% @List.set_cons_zero.{0})/\(type_of% @List.set_cons_succ.{0})/\(type_of% @Int.toNat_natCast)/\(type_of% @Nat.add_zero)/\(type_of% @b_ft)/\(type_of% @b_tf)/\(type_of% @Bool.false_eq_true):=⟨@cb_br,@br_true,@br_false,@br_not,@br_bind,@br_bool,@br_int,@br_tup2,@br_tup3,@fin_bool,@fin_int,@fin_tup2,@fin_tup3,@fin_bi,@gd_t,@gd_f,@gd_none,@condA_bool,@binV_int,@binV_seq,@binV_sne,@binQ_int,@binQ_seq,@binQ_sne,@ev_tmp,@ev_const,@ofV_int,@ofV_bool,@ofV_str,@ofV_nilSlice,@ofV_nilPtr,@putA_some,@putA_none,@gs_self,@gs_ne,@List.length_set.{0},@Option.bind_some.{0,0},@Option.map_some.{0,0},@ib_lss,@ib_leq,@ib_gtr,@ib_geq,@ib_eql,@ib_neq,@ib_add,@ib_sub,@ne_eq.{1},@not_false_eq_true,@if_true.{1},@if_false.{1},@ite_true.{1},@ite_false.{1},@put_app,@and_true,@true_and,@and_self,@decide_true,@decide_false,@yv_some,@boolOf_bool,@boolOf_undef,@List.getElem?_toArray.{0},@List.getElem?_cons_zero.{0},@List.getElem?_cons_succ.{0},@beq_self_eq_true.{0},@wr_app,@wr_app0,@rd_app,@rd_app0,@rdL_here,@rdL_next,@wrL_here,@wrL_next,@List.all_cons.{0},@List.all_nil.{0},@Bool.and_self,@Bool.true_and,@Bool.and_true,@Bool.false_and,@Bool.and_false,@Bool.true_or,@Bool.or_true,@Bool.false_or,@Bool.or_false,@Bool.not_true,@Bool.not_false,@Bool.not_not,@List.drop_zero.{0},@List.take_succ_cons.{0},@List.take_zero.{0},@List.drop_succ_cons.{0},@List.head?_cons.{0},@List.length_cons.{0},@List.length_nil.{0},@List.nil_append.{0},@List.cons_append.{0},@List.append_assoc.{0},@List.set_cons_zero.{0},@List.set_cons_succ.{0},@Int.toNat_natCast,@Nat.add_zero,@b_ft,@b_tf,@Bool.false_eq_true⟩
theorem evLd:(type_of% @ld3)/\(type_of% @ld4)/\(type_of% @ld5)/\(type_of% @ld9)/\(type_of% @ld21)/\(type_of% @ld22)/\(type_of% @ld24)/\(type_of% @ld25)/\(type_of% @ld30)/\(type_of% @ld31)/\(type_of% @ld32)/\(type_of% @ld37)/\(type_of% @ld38)/\(type_of% @ld62)/\(type_of% @ld63)/\(type_of% @ld64)/\(type_of% @ld164)/\(type_of% @ld27)/\(type_of% @ld29)/\(type_of% @ld34)/\(type_of% @ld66)/\(type_of% @ld74)/\(type_of% @ld77)/\(type_of% @ld80)/\(type_of% @ld69)/\(type_of% @ld71)/\(type_of% @ld152)/\(type_of% @fa66_0)/\(type_of% @fa66_1)/\(type_of% @fa66_2)/\(type_of% @fa66_3)/\(type_of% @fa66_4)/\(type_of% @fa80_0)/\(type_of% @fa80_1)/\(type_of% @fa80_2)/\(type_of% @fa80_3)/\(type_of% @fa80_4)/\(type_of% @fa80_5)/\(type_of% @fa80_6)/\(type_of% @fa80_7)/\(type_of% @fa74_0)/\(type_of% @fa74_1)/\(type_of% @fa77_0)/\(type_of% @fa77_1)/\(type_of% @fa34_0)/\(type_of% @fa34_1)/\(type_of% @fa34_2)/\(type_of% @fa34_3)/\(type_of% @fa34_4)/\(type_of% @fa34_5)/\(type_of% @fa34_6)/\(type_of% @fa34_7)/\(type_of% @fa34_8)/\(type_of% @fa27_0)/\(type_of% @fa27_1)/\(type_of% @fa27_2)/\(type_of% @fa27_3)/\(type_of% @fa27_4)/\(type_of% @fa27_5)/\(type_of% @fa27_6)/\(type_of% @fa29_0)/\(type_of% @fa29_1)/\(type_of% @fa29_2)/\(type_of% @fa29_3)/\(type_of% @fa71_0)/\(type_of% @fa71_1)/\(type_of% @fa71_2)/\(type_of% @fa71_3)/\(type_of% @fa71_4)/\(type_of% @fa71_5)/\(type_of% @fa71_6):=⟨@ld3,@ld4,@ld5,@ld9,@ld21,@ld22,@ld24,@ld25,@ld30,@ld31,@ld32,@ld37,@ld38,@ld62,@ld63,@ld64,@ld164,@ld27,@ld29,@ld34,@ld66,@ld74,@ld77,@ld80,@ld69,@ld71,@ld152,@fa66_0,@fa66_1,@fa66_2,@fa66_3,@fa66_4,@fa80_0,@fa80_1,@fa80_2,@fa80_3,@fa80_4,@fa80_5,@fa80_6,@fa80_7,@fa74_0,@fa74_1,@fa77_0,@fa77_1,@fa34_0,@fa34_1,@fa34_2,@fa34_3,@fa34_4,@fa34_5,@fa34_6,@fa34_7,@fa34_8,@fa27_0,@fa27_1,@fa27_2,@fa27_3,@fa27_4,@fa27_5,@fa27_6,@fa29_0,@fa29_1,@fa29_2,@fa29_3,@fa71_0,@fa71_1,@fa71_2,@fa71_3,@fa71_4,@fa71_5,@fa71_6⟩
end Go.Dv
namespace Go.Dv
open Go.Proofs
attribute [local congr] bind_congr_first cb_congr condA_congr gd_congr br_congr
theorem cbT {α:Type} (x z:α):cb true x z=x:=rfl
theorem cbF {α:Type} (x z:α):cb false x z=z:=rfl
end Go.Dv
namespace Go.Dv
theorem gde {α:Type} (l:List α) (i:Nat) (d:α):l.getD i d=(l[i]?).getD d:=List.getD_eq_getElem?_getD
theorem ls (l:List AV) (i:Nat) (a:AV):(l.set i a).length=l.length:=List.length_set
theorem gB:(type_of% @gs_self)/\(type_of% @gs_ne)/\(∀ (l:List AV) (i:Nat) (a:AV),(l.set i a).length=l.length)/\(∀ a b:Nat,(a≠b)=¬ (a=b))/\((¬ False)=True):=⟨@gs_self,@gs_ne,fun _ _ _=>List.length_set,fun _ _=>rfl,not_false_eq_true⟩
theorem eu:(type_of% @AV.cells.eq_1)/\(type_of% @AV.cells.eq_2)/\(type_of% @spl.eq_1)/\(type_of% @spl.eq_2)/\(type_of% @AV.one.eq_1)/\(type_of% @AV.one.eq_2)/\(type_of% @AV.one.eq_3)/\(type_of% @evL.eq_1)/\(type_of% @evL.eq_2)/\(type_of% @evO.eq_1)/\(type_of% @evO.eq_2)/\(type_of% @evP.eq_1)/\(type_of% @evP.eq_2):=⟨@AV.cells.eq_1,@AV.cells.eq_2,@spl.eq_1,@spl.eq_2,@AV.one.eq_1,@AV.one.eq_2,@AV.one.eq_3,@evL.eq_1,@evL.eq_2,@evO.eq_1,@evO.eq_2,@evP.eq_1,@evP.eq_2⟩
theorem aP:(type_of% @atPath.eq_1)/\(type_of% @atPath.eq_2)/\(type_of% @atPath.eq_3)/\(type_of% @atPath.eq_4)/\(type_of% @atPath.eq_5)/\(type_of% @atPath.eq_6)/\(type_of% @atPath.eq_7)/\(∀ a b:Code,(some a).getD b=a):=⟨@atPath.eq_1,@atPath.eq_2,@atPath.eq_3,@atPath.eq_4,@atPath.eq_5,@atPath.eq_6,@atPath.eq_7,fun _ _=>rfl⟩
theorem tm1 (a0:AV) (n:Nat) (h:1<=n):∃ tm:List AV,([a0]:List AV)++List.replicate (n - ([a0]:List AV).length) uA=tm/\tm.length=n/\tm.getD 0 uA=a0:=⟨_,rfl,by simp; omega,rfl⟩
theorem tm2 (a0 a1:AV) (n:Nat) (h:2<=n):∃ tm:List AV,([a0,a1]:List AV)++List.replicate (n - ([a0,a1]:List AV).length) uA=tm/\tm.length=n/\tm.getD 0 uA=a0/\tm.getD 1 uA=a1:=⟨_,rfl,by simp; omega,rfl,rfl⟩
theorem tm3 (a0 a1 a2:AV) (n:Nat) (h:3<=n):∃ tm:List AV,([a0,a1,a2]:List AV)++List.replicate (n - ([a0,a1,a2]:List AV).length) uA=tm/\tm.length=n/\tm.getD 0 uA=a0/\tm.getD 1 uA=a1/\tm.getD 2 uA=a2:=⟨_,rfl,by simp; omega,rfl,rfl,rfl⟩
theorem tm4 (a0 a1 a2 a3:AV) (n:Nat) (h:4<=n):∃ tm:List AV,([a0,a1,a2,a3]:List AV)++List.replicate (n - ([a0,a1,a2,a3]:List AV).length) uA=tm/\tm.length=n/\tm.getD 0 uA=a0/\tm.getD 1 uA=a1/\tm.getD 2 uA=a2/\tm.getD 3 uA=a3:=⟨_,rfl,by simp; omega,rfl,rfl,rfl,rfl⟩
theorem tm5 (a0 a1 a2 a3 a4:AV) (n:Nat) (h:5<=n):∃ tm:List AV,([a0,a1,a2,a3,a4]:List AV)++List.replicate (n - ([a0,a1,a2,a3,a4]:List AV).length) uA=tm/\tm.length=n/\tm.getD 0 uA=a0/\tm.getD 1 uA=a1/\tm.getD 2 uA=a2/\tm.getD 3 uA=a3/\tm.getD 4 uA=a4:=⟨_,rfl,by simp; omega,rfl,rfl,rfl,rfl,rfl⟩
theorem tm6 (a0 a1 a2 a3 a4 a5:AV) (n:Nat) (h:6<=n):∃ tm:List AV,([a0,a1,a2,a3,a4,a5]:List AV)++List.replicate (n - ([a0,a1,a2,a3,a4,a5]:List AV).length) uA=tm/\tm.length=n/\tm.getD 0 uA=a0/\tm.getD 1 uA=a1/\tm.getD 2 uA=a2/\tm.getD 3 uA=a3/\tm.getD 4 uA=a4/\tm.getD 5 uA=a5:=⟨_,rfl,by simp; omega,rfl,rfl,rfl,rfl,rfl,rfl⟩
theorem tm7 (a0 a1 a2 a3 a4 a5 a6:AV) (n:Nat) (h:7<=n):∃ tm:List AV,([a0,a1,a2,a3,a4,a5,a6]:List AV)++List.replicate (n - ([a0,a1,a2,a3,a4,a5,a6]:List AV).length) uA=tm/\tm.length=n/\tm.getD 0 uA=a0/\tm.getD 1 uA=a1/\tm.getD 2 uA=a2/\tm.getD 3 uA=a3/\tm.getD 4 uA=a4/\tm.getD 5 uA=a5/\tm.getD 6 uA=a6:=⟨_,rfl,by simp; omega,rfl,rfl,rfl,rfl,rfl,rfl,rfl⟩
theorem Aj2 {p0 p1 r:Prop} (h:p0/\p1) (k:r):p0/\p1/\r:=⟨h.1,h.2,k⟩
theorem Aj3 {p0 p1 p2 r:Prop} (h:p0/\p1/\p2) (k:r):p0/\p1/\p2/\r:=⟨h.1,h.2.1,h.2.2,k⟩
theorem Aj4 {p0 p1 p2 p3 r:Prop} (h:p0/\p1/\p2/\p3) (k:r):p0/\p1/\p2/\p3/\r:=⟨h.1,h.2.1,h.2.2.1,h.2.2.2,k⟩
theorem Aj5 {p0 p1 p2 p3 p4 r:Prop} (h:p0/\p1/\p2/\p3/\p4) (k:r):p0/\p1/\p2/\p3/\p4/\r:=⟨h.1,h.2.1,h.2.2.1,h.2.2.2.1,h.2.2.2.2,k⟩
theorem Aj6 {p0 p1 p2 p3 p4 p5 r:Prop} (h:p0/\p1/\p2/\p3/\p4/\p5) (k:r):p0/\p1/\p2/\p3/\p4/\p5/\r:=⟨h.1,h.2.1,h.2.2.1,h.2.2.2.1,h.2.2.2.2.1,h.2.2.2.2.2,k⟩
theorem Aj7 {p0 p1 p2 p3 p4 p5 p6 r:Prop} (h:p0/\p1/\p2/\p3/\p4/\p5/\p6) (k:r):p0/\p1/\p2/\p3/\p4/\p5/\p6/\r:=⟨h.1,h.2.1,h.2.2.1,h.2.2.2.1,h.2.2.2.2.1,h.2.2.2.2.2.1,h.2.2.2.2.2.2,k⟩
theorem Aj8 {p0 p1 p2 p3 p4 p5 p6 p7 r:Prop} (h:p0/\p1/\p2/\p3/\p4/\p5/\p6/\p7) (k:r):p0/\p1/\p2/\p3/\p4/\p5/\p6/\p7/\r:=⟨h.1,h.2.1,h.2.2.1,h.2.2.2.1,h.2.2.2.2.1,h.2.2.2.2.2.1,h.2.2.2.2.2.2.1,h.2.2.2.2.2.2.2,k⟩
theorem Aj9 {p0 p1 p2 p3 p4 p5 p6 p7 p8 r:Prop} (h:p0/\p1/\p2/\p3/\p4/\p5/\p6/\p7/\p8) (k:r):p0/\p1/\p2/\p3/\p4/\p5/\p6/\p7/\p8/\r:=⟨h.1,h.2.1,h.2.2.1,h.2.2.2.1,h.2.2.2.2.1,h.2.2.2.2.2.1,h.2.2.2.2.2.2.1,h.2.2.2.2.2.2.2.1,h.2.2.2.2.2.2.2.2,k⟩
theorem Aj10 {p0 p1 p2 p3 p4 p5 p6 p7 p8 p9 r:Prop} (h:p0/\p1/\p2/\p3/\p4/\p5/\p6/\p7/\p8/\p9) (k:r):p0/\p1/\p2/\p3/\p4/\p5/\p6/\p7/\p8/\p9/\r:=⟨h.1,h.2.1,h.2.2.1,h.2.2.2.1,h.2.2.2.2.1,h.2.2.2.2.2.1,h.2.2.2.2.2.2.1,h.2.2.2.2.2.2.2.1,h.2.2.2.2.2.2.2.2.1,h.2.2.2.2.2.2.2.2.2,k⟩
theorem Aj11 {p0 p1 p2 p3 p4 p5 p6 p7 p8 p9 p10 r:Prop} (h:p0/\p1/\p2/\p3/\p4/\p5/\p6/\p7/\p8/\p9/\p10) (k:r):p0/\p1/\p2/\p3/\p4/\p5/\p6/\p7/\p8/\p9/\p10/\r:=⟨h.1,h.2.1,h.2.2.1,h.2.2.2.1,h.2.2.2.2.1,h.2.2.2.2.2.1,h.2.2.2.2.2.2.1,h.2.2.2.2.2.2.2.1,h.2.2.2.2.2.2.2.2.1,h.2.2.2.2.2.2.2.2.2.1,h.2.2.2.2.2.2.2.2.2.2,k⟩
theorem Aj12 {p0 p1 p2 p3 p4 p5 p6 p7 p8 p9 p10 p11 r:Prop} (h:p0/\p1/\p2/\p3/\p4/\p5/\p6/\p7/\p8/\p9/\p10/\p11) (k:r):p0/\p1/\p2/\p3/\p4/\p5/\p6/\p7/\p8/\p9/\p10/\p11/\r:=⟨h.1,h.2.1,h.2.2.1,h.2.2.2.1,h.2.2.2.2.1,h.2.2.2.2.2.1,h.2.2.2.2.2.2.1,h.2.2.2.2.2.2.2.1,h.2.2.2.2.2.2.2.2.1,h.2.2.2.2.2.2.2.2.2.1,h.2.2.2.2.2.2.2.2.2.2.1,h.2.2.2.2.2.2.2.2.2.2.2,k⟩
theorem Aj13 {p0 p1 p2 p3 p4 p5 p6 p7 p8 p9 p10 p11 p12 r:Prop} (h:p0/\p1/\p2/\p3/\p4/\p5/\p6/\p7/\p8/\p9/\p10/\p11/\p12) (k:r):p0/\p1/\p2/\p3/\p4/\p5/\p6/\p7/\p8/\p9/\p10/\p11/\p12/\r:=⟨h.1,h.2.1,h.2.2.1,h.2.2.2.1,h.2.2.2.2.1,h.2.2.2.2.2.1,h.2.2.2.2.2.2.1,h.2.2.2.2.2.2.2.1,h.2.2.2.2.2.2.2.2.1,h.2.2.2.2.2.2.2.2.2.1,h.2.2.2.2.2.2.2.2.2.2.1,h.2.2.2.2.2.2.2.2.2.2.2.1,h.2.2.2.2.2.2.2.2.2.2.2.2,k⟩
theorem eqQ:eqB 0 0=true/\eqB 0 1=false/\eqB 0 2=false/\eqB 0 3=false/\eqB 0 4=false/\eqB 0 5=false/\eqB 0 6=false/\eqB 0 7=false/\eqB 0 8=false/\eqB 0 9=false/\eqB 0 10=false/\eqB 0 11=false/\eqB 0 12=false/\eqB 0 13=false/\eqB 0 14=false/\eqB 0 15=false/\eqB 1 0=false/\eqB 1 1=true/\eqB 1 2=false/\eqB 1 3=false/\eqB 1 4=false/\eqB 1 5=false/\eqB 1 6=false/\eqB 1 7=false/\eqB 1 8=false/\eqB 1 9=false/\eqB 1 10=false/\eqB 1 11=false/\eqB 1 12=false/\eqB 1 13=false/\eqB 1 14=false/\eqB 1 15=false/\eqB 2 0=false/\eqB 2 1=false/\eqB 2 2=true/\eqB 2 3=false/\eqB 2 4=false/\eqB 2 5=false/\eqB 2 6=false/\eqB 2 7=false/\eqB 2 8=false/\eqB 2 9=false/\eqB 2 10=false/\eqB 2 11=false/\eqB 2 12=false/\eqB 2 13=false/\eqB 2 14=false/\eqB 2 15=false/\eqB 3 0=false/\eqB 3 1=false/\eqB 3 2=false/\eqB 3 3=true/\eqB 3 4=false/\eqB 3 5=false/\eqB 3 6=false/\eqB 3 7=false/\eqB 3 8=false/\eqB 3 9=false/\eqB 3 10=false/\eqB 3 11=false/\eqB 3 12=false/\eqB 3 13=false/\eqB 3 14=false/\eqB 3 15=false/\eqB 4 0=false/\eqB 4 1=false/\eqB 4 2=false/\eqB 4 3=false/\eqB 4 4=true/\eqB 4 5=false/\eqB 4 6=false/\eqB 4 7=false/\eqB 4 8=false/\eqB 4 9=false/\eqB 4 10=false/\eqB 4 11=false/\eqB 4 12=false/\eqB 4 13=false/\eqB 4 14=false/\eqB 4 15=false/\eqB 5 0=false/\eqB 5 1=false/\eqB 5 2=false/\eqB 5 3=false/\eqB 5 4=false/\eqB 5 5=true/\eqB 5 6=false/\eqB 5 7=false/\eqB 5 8=false/\eqB 5 9=false/\eqB 5 10=false/\eqB 5 11=false/\eqB 5 12=false/\eqB 5 13=false/\eqB 5 14=false/\eqB 5 15=false/\eqB 6 0=false/\eqB 6 1=false/\eqB 6 2=false/\eqB 6 3=false/\eqB 6 4=false/\eqB 6 5=false/\eqB 6 6=true/\eqB 6 7=false/\eqB 6 8=false/\eqB 6 9=false/\eqB 6 10=false/\eqB 6 11=false/\eqB 6 12=false/\eqB 6 13=false/\eqB 6 14=false/\eqB 6 15=false/\eqB 7 0=false/\eqB 7 1=false/\eqB 7 2=false/\eqB 7 3=false/\eqB 7 4=false/\eqB 7 5=false/\eqB 7 6=false/\eqB 7 7=true/\eqB 7 8=false/\eqB 7 9=false/\eqB 7 10=false/\eqB 7 11=false/\eqB 7 12=false/\eqB 7 13=false/\eqB 7 14=false/\eqB 7 15=false/\eqB 8 0=false/\eqB 8 1=false/\eqB 8 2=false/\eqB 8 3=false/\eqB 8 4=false/\eqB 8 5=false/\eqB 8 6=false/\eqB 8 7=false/\eqB 8 8=true/\eqB 8 9=false/\eqB 8 10=false/\eqB 8 11=false/\eqB 8 12=false/\eqB 8 13=false/\eqB 8 14=false/\eqB 8 15=false/\eqB 9 0=false/\eqB 9 1=false/\eqB 9 2=false/\eqB 9 3=false/\eqB 9 4=false/\eqB 9 5=false/\eqB 9 6=false/\eqB 9 7=false/\eqB 9 8=false/\eqB 9 9=true/\eqB 9 10=false/\eqB 9 11=false/\eqB 9 12=false/\eqB 9 13=false/\eqB 9 14=false/\eqB 9 15=false/\eqB 10 0=false/\eqB 10 1=false/\eqB 10 2=false/\eqB 10 3=false/\eqB 10 4=false/\eqB 10 5=false/\eqB 10 6=false/\eqB 10 7=false/\eqB 10 8=false/\eqB 10 9=false/\eqB 10 10=true/\eqB 10 11=false/\eqB 10 12=false/\eqB 10 13=false/\eqB 10 14=false/\eqB 10 15=false/\eqB 11 0=false/\eqB 11 1=false/\eqB 11 2=false/\eqB 11 3=false/\eqB 11 4=false/\eqB 11 5=false/\eqB 11 6=false/\eqB 11 7=false/\eqB 11 8=false/\eqB 11 9=false/\eqB 11 10=false/\eqB 11 11=true/\eqB 11 12=false/\eqB 11 13=false/\eqB 11 14=false/\eqB 11 15=false/\eqB 12 0=false/\eqB 12 1=false/\eqB 12 2=false/\eqB 12 3=false/\eqB 12 4=false/\eqB 12 5=false/\eqB 12 6=false/\eqB 12 7=false/\eqB 12 8=false/\eqB 12 9=false/\eqB 12 10=false/\eqB 12 11=false/\eqB 12 12=true/\eqB 12 13=false/\eqB 12 14=false/\eqB 12 15=false/\eqB 13 0=false/\eqB 13 1=false/\eqB 13 2=false/\eqB 13 3=false/\eqB 13 4=false/\eqB 13 5=false/\eqB 13 6=false/\eqB 13 7=false/\eqB 13 8=false/\eqB 13 9=false/\eqB 13 10=false/\eqB 13 11=false/\eqB 13 12=false/\eqB 13 13=true/\eqB 13 14=false/\eqB 13 15=false/\eqB 14 0=false/\eqB 14 1=false/\eqB 14 2=false/\eqB 14 3=false/\eqB 14 4=false/\eqB 14 5=false/\eqB 14 6=false/\eqB 14 7=false/\eqB 14 8=false/\eqB 14 9=false/\eqB 14 10=false/\eqB 14 11=false/\eqB 14 12=false/\eqB 14 13=false/\eqB 14 14=true/\eqB 14 15=false/\eqB 15 0=false/\eqB 15 1=false/\eqB 15 2=false/\eqB 15 3=false/\eqB 15 4=false/\eqB 15 5=false/\eqB 15 6=false/\eqB 15 7=false/\eqB 15 8=false/\eqB 15 9=false/\eqB 15 10=false/\eqB 15 11=false/\eqB 15 12=false/\eqB 15 13=false/\eqB 15 14=false/\eqB 15 15=true:=⟨rfl,rfl,rfl,rfl,rfl,rfl,rfl,rfl,rfl,rfl,rfl,rfl,rfl,rfl,rfl,rfl,rfl,rfl,rfl,rfl,rfl,rfl,rfl,rfl,rfl,rfl,rfl,rfl,rfl,rfl,rfl,rfl,rfl,rfl,rfl,rfl,rfl,rfl,rfl,rfl,rfl,rfl,rfl,rfl,rfl,rfl,rfl,rfl,rfl,rfl,rfl,rfl,rfl,rfl,rfl,rfl,rfl,rfl,rfl,rfl,rfl,rfl,rfl,rfl,rfl,rfl,rfl,rfl,rfl,rfl,rfl,rfl,rfl,rfl,rfl,rfl,rfl,rfl,rfl,rfl,rfl,rfl,rfl,rfl,rfl,rfl,rfl,rfl,rfl,rfl,rfl,rfl,rfl,rfl,rfl,rfl,rfl,rfl,rfl,rfl,rfl,rfl,rfl,rfl,rfl,rfl,rfl,rfl,rfl,rfl,rfl,rfl,rfl,rfl,rfl,rfl,rfl,rfl,rfl,rfl,rfl,rfl,rfl,rfl,rfl,rfl,rfl,rfl,rfl,rfl,rfl,rfl,rfl,rfl,rfl,rfl,rfl,rfl,rfl,rfl,rfl,rfl,rfl,rfl,rfl,rfl,rfl,rfl,rfl,rfl,rfl,rfl,rfl,rfl,rfl,rfl,rfl,rfl,rfl,rfl,rfl,rfl,rfl,rfl,rfl,rfl,rfl,rfl,rfl,rfl,rfl,rfl,rfl,rfl,rfl,rfl,rfl,rfl,rfl,rfl,rfl,rfl,rfl,rfl,rfl,rfl,rfl,rfl,rfl,rfl,rfl,rfl,rfl,rfl,rfl,rfl,rfl,rfl,rfl,rfl,rfl,rfl,rfl,rfl,rfl,rfl,rfl,rfl,rfl,rfl,rfl,rfl,rfl,rfl,rfl,rfl,rfl,rfl,rfl,rfl,rfl,rfl,rfl,rfl,rfl,rfl,rfl,rfl,rfl,rfl,rfl,rfl,rfl,rfl,rfl,rfl,rfl,rfl,rfl,rfl,rfl,rfl,rfl,rfl,rfl,rfl,rfl,rfl,rfl,rfl,rfl,rfl,rfl,rfl,rfl,rfl⟩
end Go.Dv
namespace Go.Dv
open Go.Proofs
attribute [local congr] bind_congr_first cb_congr condA_congr gd_congr br_congr
def letP (c:Int):Bool:=(leB 97 c && leB c 122) || (leB 65 c && leB c 90)
theorem ev129 (c:Int) (H:AH):Ev Tryz.prog C0 W0 129 [.int .u8 c] H=some (.bool (letP c),H):=by
 obtain ⟨tm,ht,g0,g1⟩:=tm1 (.int .u8 c) 17 (by decide)
 rw [fe129,ht]
 rw [<-List.append_nil (ro H)]
 simp (maxSteps:=4000000) +contextual -implicitDefEqProofs only [c129,Tryz.f129,aP,g0,g1,↓evDn,evUp,eu,sevalprocAttr]
 unfold letP
 refine congrArg (fun b=>some (AV.bool b,H)) ?_
 cases leB 97 c <;>
 cases leB c 122 <;>
 cases leB 65 c <;>
 cases leB c 90 <;>
 rfl
theorem ev149 (c:Int) (H:AH):Ev Tryz.prog C0 W0 149 [.int .u8 c] H=some (.bool (letP c),H):=by
 obtain ⟨tm,ht,g0,g1⟩:=tm1 (.int .u8 c) 17 (by decide)
 rw [fe149,ht]
 rw [<-List.append_nil (ro H)]
 simp (maxSteps:=4000000) +contextual -implicitDefEqProofs only [c149,Tryz.f149,aP,g0,g1,↓evDn,evUp,eu,sevalprocAttr]
 unfold letP
 refine congrArg (fun b=>some (AV.bool b,H)) ?_
 cases leB 97 c <;>
 cases leB c 122 <;>
 cases leB 65 c <;>
 cases leB c 90 <;>
 rfl
def digP (c:Int):Bool:=leB 48 c && leB c 57
theorem ev165 (c:Int) (H:AH):Ev Tryz.prog C0 W0 165 [.int .u8 c] H=some (.bool (digP c),H):=by
 obtain ⟨tm,ht,g0,g1⟩:=tm1 (.int .u8 c) 9 (by decide)
 rw [fe165,ht]
 rw [<-List.append_nil (ro H)]
 simp (maxSteps:=4000000) +contextual -implicitDefEqProofs only [c165,Tryz.f165,aP,g0,g1,↓evDn,evUp,eu,sevalprocAttr]
 unfold digP
 refine congrArg (fun b=>some (AV.bool b,H)) ?_
 cases leB 48 c <;>
 cases leB c 57 <;>
 rfl
theorem ev190 (c:Int) (H:AH):Ev Tryz.prog C0 W0 190 [.int .u8 c] H=some (.bool (digP c),H):=by
 obtain ⟨tm,ht,g0,g1⟩:=tm1 (.int .u8 c) 9 (by decide)
 rw [fe190,ht]
 rw [<-List.append_nil (ro H)]
 simp (maxSteps:=4000000) +contextual -implicitDefEqProofs only [c190,Tryz.f190,aP,g0,g1,↓evDn,evUp,eu,sevalprocAttr]
 unfold digP
 refine congrArg (fun b=>some (AV.bool b,H)) ?_
 cases leB 48 c <;>
 cases leB c 57 <;>
 rfl
def innP (c:Int):Bool:=letP c || digP c || eqB c 95
theorem ev131 (c:Int) (H:AH):Ev Tryz.prog C0 W0 131 [.int .u8 c] H=some (.bool (innP c),H):=by
 obtain ⟨tm,ht,g0,g1⟩:=tm1 (.int .u8 c) 13 (by decide)
 rw [fe131,ht]
 rw [<-List.append_nil (ro H)]
 simp (maxSteps:=4000000) +contextual -implicitDefEqProofs only [c131,Tryz.f131,aP,g0,g1,↓fc129,↓fc165,ev129,ev165,↓evDn,evUp,eu,sevalprocAttr]
 unfold innP
 refine congrArg (fun b=>some (AV.bool b,H)) ?_
 cases letP c <;>
 cases digP c <;>
 cases eqB c 95 <;>
 rfl
theorem ev150 (c:Int) (H:AH):Ev Tryz.prog C0 W0 150 [.int .u8 c] H=some (.bool (innP c),H):=by
 obtain ⟨tm,ht,g0,g1⟩:=tm1 (.int .u8 c) 13 (by decide)
 rw [fe150,ht]
 rw [<-List.append_nil (ro H)]
 simp (maxSteps:=4000000) +contextual -implicitDefEqProofs only [c150,Tryz.f150,aP,g0,g1,↓fc149,↓fc190,ev149,ev190,↓evDn,evUp,eu,sevalprocAttr]
 unfold innP
 refine congrArg (fun b=>some (AV.bool b,H)) ?_
 cases letP c <;>
 cases digP c <;>
 cases eqB c 95 <;>
 rfl
def allF (p:Nat->Bool) (N j:Nat):Bool:=(List.range' j (N - j)).all p
theorem allF_end {p:Nat->Bool} {N j:Nat} (h:N<=j):allF p N j=true:=by unfold allF; rw [show N - j=0 by omega]; rfl
theorem allF_step {p:Nat->Bool} {N j:Nat} (h:j < N):allF p N j=(p j && allF p N (j+1)):=by
 unfold allF; rw [show N - j=(N - (j+1))+1 by omega,List.range'_succ,List.all_cons]
theorem allF_iff {p:Nat->Bool} {N:Nat}:allF p N 0=true↔∀ j,j < N->p j=true:=by
 unfold allF; rw [List.all_eq_true]
 exact ⟨fun h j hj=>h j (by rw [List.mem_range'_1]; omega),fun h j hj=>h j (by rw [List.mem_range'_1] at hj; omega)⟩
theorem in_loop {H:AH} {v:AV} {ws:List ByteArray} {s:ByteArray} (hs:SlS 164 1 H v (ws.map fun w=>[AV.str w])) (hN:ws.length < 2 ^ 60):∀ (d j:Nat) (tm:List AV) (K:AH),ws.length - j=d->j<=ws.length->Agree H K->tm.length=18->tm.getD 0 uA=.str s->tm.getD 1 uA=v->tm.getD 5 uA=I ((j:Nat):Int) ->
   ∃ X Y K1 K2,EvC Tryz.prog C0 W0 plN l120_0 (tm,K)=br (allF (fun j=>!sEq (ws.getD j default) s) (ws.length) (j)) (some (.exit 0,(X,K1))) (some (.ret,(Y,K2)))/\(X.length=18/\Agree H K1/\X.getD 0 uA=.str s/\X.getD 1 uA=v)/\Y.length=18/\Y.getD 4 uA=.bool true:=by
 intro d
 induction d with
 | zero =>
   intro j tm K hd hj hA hlen h0 h1 h5
   have hjl:j=ws.length:=by omega
   have hlt:ltB (j:Int) (ws.length:Nat)=false:=ltB_f (by omega)
   have hln:=hs.len
   simp only [List.length_map] at hln
   rw [allF_end (by omega),el120_0]
   simp (maxSteps:=4000000) -implicitDefEqProofs only [b120_0,Tryz.f120,aP,hlen,h0,h1,h5,hlt,hln,↓evDn,evUp,eu,sevalprocAttr]
   exact ⟨_,tm.set 4 (.bool true),_,K,rfl,⟨by first | exact hlen | simp only [List.length_set,hlen],hA,by first | exact h0 | simp only [hlen,h0,gB,sevalprocAttr],by first | exact h1 | simp only [hlen,h1,gB,sevalprocAttr]⟩,by simp only [ls,hlen],by simp only [hlen,gs_self,Nat.reduceLT]⟩
 | succ d ih =>
   intro j tm K hd hj hA hlen h0 h1 h5
   have hjN:j < ws.length:=by omega
   have hlt:ltB (j:Int) (ws.length:Nat)=true:=ltB_t (by omega)
   have hw:=inc_i (j:=j) (by omega)
   have hln:=hs.len
   simp only [List.length_map] at hln
   obtain ⟨i,k,hi,hr⟩:=hs.ix j [AV.str (ws.getD j default)] (by rw [List.getElem?_map,List.getElem?_eq_getElem hjN,gde,List.getElem?_eq_getElem hjN]; rfl)
   have hr0:=fun L=>row_0 hr hA L (x:=AV.str (ws.getD j default)) rfl
   rw [allF_step hjN,el120_0]
   rw [<-List.append_nil K]
   cases hp:(!sEq (ws.getD j default) s) with
   | true =>
     have hp:sEq (ws.getD j default) s=false:=by rw [Bool.not_eq_true'] at hp; exact hp
     simp only [Bool.true_and]
     simp (maxSteps:=4000000) -implicitDefEqProofs only [b120_0,Tryz.f120,aP,hlen,h0,h1,h5,hlt,hw,hln,hi,hr0,hp,ld9,↓evDn,evUp,eu,sevalprocAttr]
     exact ih (j+1) _ _ (by omega) (by omega) (by first | exact hA | exact hA.appR _ | exact (hA.appR _).appR _ | exact hA) (by simp only [ls,hlen]) (by simp only [hlen,h0,gB,sevalprocAttr]) (by simp only [hlen,h1,gB,sevalprocAttr]) (by simp only [hlen,h5,gB,sevalprocAttr])
   | false =>
     have hp:sEq (ws.getD j default) s=true:=by rw [Bool.not_eq_false'] at hp; exact hp
     simp only [Bool.false_and]
     simp (maxSteps:=4000000) -implicitDefEqProofs only [b120_0,Tryz.f120,aP,hlen,h0,h1,h5,hlt,hw,hln,hi,hr0,hp,ld9,↓evDn,evUp,eu,sevalprocAttr]
     exact ⟨tm,_,K,_,rfl,⟨hlen,hA,h0,h1⟩,by simp only [ls,hlen],by simp only [hlen,gB,sevalprocAttr]⟩
theorem in_loop' {H:AH} {v:AV} {ws:List ByteArray} {s:ByteArray} {tm:List AV} {K:AH} {Z:Option (AExit × St)} (hX:EvC Tryz.prog C0 W0 plN l120_0 (tm,K)=Z) (hs:SlS 164 1 H v (ws.map fun w=>[AV.str w])) (hN:ws.length < 2 ^ 60) (hA:Agree H K) (hlen:tm.length=18) (h0:tm.getD 0 uA=.str s) (h1:tm.getD 1 uA=v) (h5:tm.getD 5 uA=I ((0:Nat):Int)) :
   ∃ X Y K1 K2,Z=br (allF (fun j=>!sEq (ws.getD j default) s) (ws.length) (0)) (some (.exit 0,(X,K1))) (some (.ret,(Y,K2)))/\(X.length=18/\Agree H K1/\X.getD 0 uA=.str s/\X.getD 1 uA=v)/\Y.length=18/\Y.getD 4 uA=.bool true:=by
 subst hX
 exact in_loop hs hN (ws.length) 0 tm K (by omega) (by omega) hA hlen h0 h1 h5
theorem in_all (ws:List ByteArray) (s:ByteArray):allF (fun j=>!sEq (ws.getD j default) s) ws.length 0=!sIn ws s:=by
 rw [Bool.eq_iff_iff,allF_iff,Bool.not_eq_true']
 unfold sIn
 constructor
 · intro h
   rw [Bool.eq_false_iff]
   intro hc
   have hm:∃ a∈ws,(s == a)=true:=by
     rw [List.contains_eq_any_beq,List.any_eq_true] at hc
     exact hc
   obtain ⟨a,ha,he⟩:=hm
   obtain ⟨j,hj⟩:=List.getElem?_of_mem ha
   have:=h j (lt_of_get hj)
   rw [gde,hj,Option.getD_some,Bool.not_eq_true',sEq_symm,<-sEq_beq,he] at this
   cases this
 · intro h j hj
   rw [Bool.not_eq_true',Bool.eq_false_iff]
   intro hc
   rw [List.contains_eq_any_beq,List.any_eq_false] at h
   refine h (ws.getD j default) ?_ ?_
   · rw [gde,List.getElem?_eq_getElem hj]; exact List.getElem_mem hj
   · rw [sEq_beq,sEq_symm]; exact hc
theorem ev120 {v:AV} {ws:List ByteArray} {s:ByteArray} {H:AH} (hs:SlS 164 1 H v (ws.map fun w=>[AV.str w])) (hN:ws.length < 2 ^ 60):Ev Tryz.prog C0 W0 120 [.str s,v] H=some (.bool (sIn ws s),H):=by
 obtain ⟨tm,ht,g0,g1,g2⟩:=tm2 (.str s) v 18 (by decide)
 rw [fe120,ht]
 rw [<-List.append_nil (ro H)]
 simp (maxSteps:=4000000) -implicitDefEqProofs only [c120,Tryz.f120,aP,g0,g1,g2,↓evDn,evUp,eu,sevalprocAttr]
 generalize hX:EvC Tryz.prog C0 W0 _ (Code.loop _) _=Z
 obtain ⟨X,Y,K1,K2,he,xs,y0,y1⟩:=in_loop' (s:=s) hX hs.ro hN (Agree.app _ _) (by simp only [ls,g0]) (by simp only [g0,g1,gB,sevalprocAttr]; try rfl) (by simp only [g0,g2,gB,sevalprocAttr]; try rfl) (by simp only [g0,gB,sevalprocAttr]; try rfl)
 subst he
 rw [in_all]
 simp (maxSteps:=4000000) +contextual -implicitDefEqProofs only [xs.1,y0,y1,↓evDn,evUp,eu,sevalprocAttr]
 cases sIn ws s <;> rfl
end Go.Dv
