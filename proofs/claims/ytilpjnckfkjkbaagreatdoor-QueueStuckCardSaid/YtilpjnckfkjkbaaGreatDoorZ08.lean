/- Part 08 of the walks (own work). -/
import Derived.Test.YtilpjnckfkjkbaaGreatDoorZ07
set_option maxRecDepth 100000
set_option maxHeartbeats 4000000
set_option linter.unusedSimpArgs false
set_option linter.unusedVariables false
namespace Go.Dv
theorem gs_self (tm:List AV) (i:Nat) (v d:AV) (h:i < tm.length):(tm.set i v).getD i d=v:=by simp [List.getD,h]
theorem gs_ne (tm:List AV) (i j:Nat) (v d:AV) (h:i≠j):(tm.set i v).getD j d=tm.getD j d:=by simp [List.getD,List.getElem?_set_ne h]
abbrev I (n:Int):AV:=.int .i64 n
theorem rd_len {H:AH} {i k n:Nat} {xs:List AV} (h:rdCells H i k n=some xs):xs.length=n:=by
 unfold rdCells at h
 split at h
 · split at h
   · cases h; simp; omega
   · cases h
 · split at h
   · cases h; simp; omega
   · cases h
 · cases h
theorem rd_sub {H:AH} {i k n:Nat} {xs:List AV} (h:rdCells H i k n=some xs) (j m:Nat) (hj:j+m<=n):rdCells H i (k+j) m=some ((xs.drop j).take m):=by
 have key:∀ cs:List AV,k+n<=cs.length->(if k+j+m<=cs.length then some ((cs.drop (k+j)).take m) else none)=some ((((cs.drop k).take n).drop j).take m):=fun cs hc=>by
   rw [if_pos (by omega)]
   congr 1
   rw [List.drop_take,List.take_take,List.drop_drop,Nat.min_eq_left (by omega)]
 unfold rdCells at h ⊢
 split at h
 · rename_i cs e hi
   split at h
   · rename_i hc; cases h; exact key cs hc
   · cases h
 · rename_i cs hi
   split at h
   · rename_i hc; cases h; exact key cs hc
   · cases h
 · cases h
theorem rd_lt {H:AH} {i k n:Nat} {xs:List AV} (h:rdCells H i k n=some xs):i < H.length:=by
 unfold rdCells at h
 split at h
 · exact lt_of_get ‹_›
 · exact lt_of_get ‹_›
 · cases h
inductive Row (H:AH) (es:Nat):AV->List AV->Prop where
 | nil:Row H es .nilSlice []
 | at (i k len cap:Nat) (ex:Bool) (xs:List AV) (h:rdCells H i k (len * es)=some xs):Row H es (.slice i k es len cap ex) xs
section
variable {P:Program}
theorem pureA_index {t:TypeId} (ht:P.underlying t=some .string) {ev:Operand->Option AV} {x i:Operand} {s:ByteArray} {k:IntKind} {j:Nat} (hx:ev x=some (.str s)) (hi:ev i=some (.int k j)) (hj:j < s.size)
   (dst:Option Tmp) (ty:TypeId) (pos:String) (after:Array Edge) (g:Option (Nat × Bool)):pureA P ev ⟨dst,.index t x i,ty,pos,after,g⟩=some (.val (.int .u8 (s[j]'hj).toNat)):=by
 have hg:s[j]? =some (s[j]'hj):=getElem?_pos s j hj
 simp [pureA,notSelect,Op.operands,hx,hi,toV,execOp,rhoOf,pureRun,Instr.index,asIntOf,underlying,program,ht,ofV_int,bind,Sem.bind,pure,hg]
theorem pureA_convert {t u:TypeId} {k':IntKind} {dt:TypeDesc} (ht:P.underlying t=some dt) (hu:P.underlying u=some (.int k')) {ev:Operand->Option AV} {x:Operand} {k:IntKind} {n:Int} (hx:ev x=some (.int k n))
   (dst:Option Tmp) (ty:TypeId) (pos:String) (after:Array Edge) (g:Option (Nat × Bool)):pureA P ev ⟨dst,.convert t u x,ty,pos,after,g⟩=some (.val (.int k' (k'.wrap n))):=by
 simp [pureA,notSelect,Op.operands,hx,toV,execOp,rhoOf,pureRun,convert,underlying,program,ht,hu,ofV_int,bind,Sem.bind,pure,Conv.intToInt]
theorem pureA_not {ev:Operand->Option AV} {t:TypeId} {x:Operand} {b:Bool} (hx:ev x=some (.bool b))
   (dst:Option Tmp) (ty:TypeId) (pos:String) (after:Array Edge) (g:Option (Nat × Bool)):pureA P ev ⟨dst,.unOp .not t x,ty,pos,after,g⟩=some (.val (.bool !b)):=by
 simp [pureA,notSelect,Op.operands,hx,toV,execOp,rhoOf,pureRun,Op.unary,ofV_bool,bind,Sem.bind,pure]
end
theorem aop_index {P:Program} {C:Cfg P} (slot:Option Nat) (ev:Operand->Option AV) (dst:Option Tmp) (ty:TypeId) (pos:String) (after:Array Edge) (g:Option (Nat × Bool)) (H:AH) (t:TypeId) (x i:Operand) :
   aop P C slot ev ⟨dst,.index t x i,ty,pos,after,g⟩ H=(pureA P ev ⟨dst,.index t x i,ty,pos,after,g⟩).map fun n=>(n,H):=rfl
theorem aop_convert {P:Program} {C:Cfg P} (slot:Option Nat) (ev:Operand->Option AV) (dst:Option Tmp) (ty:TypeId) (pos:String) (after:Array Edge) (g:Option (Nat × Bool)) (H:AH) (t u:TypeId) (x:Operand) :
   aop P C slot ev ⟨dst,.convert t u x,ty,pos,after,g⟩ H=match pureA P ev ⟨dst,.convert t u x,ty,pos,after,g⟩ with
     | some n=>some (n,H)
     | none=>(ev x).bind fun v=>(strA P H t u v).map fun s=>(.val (.str s),H):=rfl
theorem aop_unOp {P:Program} {C:Cfg P} (slot:Option Nat) (ev:Operand->Option AV) (dst:Option Tmp) (ty:TypeId) (pos:String) (after:Array Edge) (g:Option (Nat × Bool)) (H:AH) (op:UnOp) (t:TypeId) (x:Operand) :
   aop P C slot ev ⟨dst,.unOp op t x,ty,pos,after,g⟩ H=(pureA P ev ⟨dst,.unOp op t x,ty,pos,after,g⟩).map fun n=>(n,H):=rfl
def byteAt (s:ByteArray) (j:Int):Int:=((s.data.toList.getD j.toNat 0).toNat:Int)
theorem pureA_none1 {P:Program} {ev:Operand->Option AV} {o:Oper} {x:Operand} (hx:x∈o.op.operands) (hn:ev x=none):pureA P ev o=none:=by
 unfold pureA
 rw [if_neg]
 simp only [Bool.and_eq_true,List.all_eq_true,not_and]
 intro _ h
 have:=h x (by simpa using hx)
 rw [hn] at this; cases this
theorem aop_index_str {P:Program} {C:Cfg P} {t:TypeId} (ht:P.underlying t=some .string) (slot:Option Nat) (ev:Operand->Option AV) (dst:Option Tmp) (ty:TypeId) (pos:String) (after:Array Edge) (g:Option (Nat × Bool)) (H:AH) (x i:Operand) :
   aop P C slot ev ⟨dst,.index t x i,ty,pos,after,g⟩ H=(ev x).bind fun xv=>(ev i).bind fun iv=>match xv,iv with
     | .str s,.int k j=>if 0<=j/\j < s.size then some (.val (.int .u8 (byteAt s j)),H) else (pureA P ev ⟨dst,.index t x i,ty,pos,after,g⟩).map fun n=>(n,H)
     | _,_=>(pureA P ev ⟨dst,.index t x i,ty,pos,after,g⟩).map fun n=>(n,H):=by
 rw [aop_index]
 cases hx:ev x with
 | none=>rw [pureA_none1 (x:=x) (by simp [Op.operands]) hx]; rfl
 | some xv=>cases hi:ev i with
   | none=>rw [pureA_none1 (x:=i) (by simp [Op.operands]) hi]; rfl
   | some iv =>
     simp only [Option.bind_some]
     split
     · rename_i s k j
       split
       · rename_i hj
         have hj':j.toNat < s.size:=by omega
         have e:j=(j.toNat:Int):=by omega
         rw [e] at hi
         rw [pureA_index ht hx hi hj']
         have hb:byteAt s j=(s[j.toNat]'hj').toNat:=by
           unfold byteAt
           congr 2
           have:s.data.toList[j.toNat]? =some (s[j.toNat]'hj'):=by
             rw [Array.getElem?_toList]; exact Array.getElem?_eq_getElem hj'
           simp [List.getD,this]
         rw [hb]; rfl
       · rfl
     · rfl
theorem aop_conv {P:Program} {C:Cfg P} {t u:TypeId} {dt:TypeDesc} {k':IntKind} (ht:P.underlying t=some dt) (hu:P.underlying u=some (.int k')) (slot:Option Nat) (ev:Operand->Option AV) (dst:Option Tmp) (ty:TypeId) (pos:String) (after:Array Edge) (g:Option (Nat × Bool)) (H:AH) (x:Operand) :
   aop P C slot ev ⟨dst,.convert t u x,ty,pos,after,g⟩ H=(ev x).bind fun xv=>match xv with
     | .int _ n=>some (.val (.int k' (k'.wrap n)),H)
     | _=>(pureA P ev ⟨dst,.convert t u x,ty,pos,after,g⟩).map fun n=>(n,H):=by
 rw [aop_convert]
 cases hx:ev x with
 | none=>rw [pureA_none1 (x:=x) (by simp [Op.operands]) hx]; rfl
 | some xv =>
   simp only [Option.bind_some]
   have hn:strA P H t u xv=none:=by
     unfold strA
     rw [hu]
     split
     · rename_i h; cases h
     · rfl
   rw [hn]
   cases xv
   case int k n=>rw [pureA_convert ht hu hx]
   all_goals (cases pureA P ev ⟨dst,.convert t u x,ty,pos,after,g⟩ <;> rfl)
theorem aop_not {P:Program} {C:Cfg P} (slot:Option Nat) (ev:Operand->Option AV) (dst:Option Tmp) (ty:TypeId) (pos:String) (after:Array Edge) (g:Option (Nat × Bool)) (H:AH) (t:TypeId) (x:Operand) :
   aop P C slot ev ⟨dst,.unOp .not t x,ty,pos,after,g⟩ H=(ev x).bind fun xv=>match xv with
     | .bool b=>some (.val (.bool !b),H)
     | _=>(pureA P ev ⟨dst,.unOp .not t x,ty,pos,after,g⟩).map fun n=>(n,H):=by
 rw [aop_unOp]
 cases hx:ev x with
 | none=>rw [pureA_none1 (x:=x) (by simp [Op.operands]) hx]; rfl
 | some xv =>
   simp only [Option.bind_some]
   split
   · rw [pureA_not hx]; rfl
   · rfl
theorem bind_congr_first {α β:Type} {x y:Option α} (f:α->Option β) (h:x=y):x.bind f=y.bind f:=by rw [h]
end Go.Dv
namespace Go.Dv
section
variable {P:Program} {C:Cfg P} {W:Ways P} {pl:Nat->Option Way}
theorem callF {f:Nat} (h:(P.funcs[f]?).map (fun fn=>fn.body.isSome)=some true) (slot:Option Nat) (ev:Operand->Option AV) (H:AH) (o:Oper) (xs:Array Operand) (ats:Array TypeId)
   (he:ev (.func f)=some (.func (.func f) [] [])):callA P C slot ev o ⟨.value (.func f),xs,ats⟩ H=(evL ev xs.toList).map fun as=>(.enter f as,H):=by
 simp only [callA,he,Option.bind_some]
 cases hf:P.funcs[f]? with
 | none=>rw [hf] at h; cases h
 | some fn =>
   rw [hf] at h
   simp only [Option.map_some,Option.some.injEq] at h
   cases evL ev xs.toList with
   | none=>rfl
   | some as=>simp [h]
inductive Own (b:Nat) (H:AH) (es:Nat) (elem:TypeId):AV->List AV->Prop where
 | nil:Own b H es elem .nilSlice []
 | at (i k len cap:Nat) (ex:Bool) (cs xs:List AV) (hb:b<=i) (hi:H[i]? =some (.cells cs elem)) (hl:len<=cap) (hc:k+cap * es<=cs.length) (h:rdCells H i k (len * es)=some xs) :
     Own b H es elem (.slice i k es len cap ex) xs
def lenOfA:AV->Nat
 | .slice _ _ _ len _ _=>len
 | _=>0
theorem lenOfA_slice (i k es len cap:Nat) (ex:Bool):lenOfA (.slice i k es len cap ex)=len:=rfl
theorem lenOfA_nil:lenOfA .nilSlice=0:=rfl
theorem Own.length {b:Nat} {H:AH} {es:Nat} {elem:TypeId} {v:AV} {xs:List AV} (h:Own b H es elem v xs):xs.length=lenOfA v * es:=by
 cases h with
 | nil=>simp [lenOfA]
 | «at» i k len cap ex cs xs hb hi hl hc h=>exact rd_len h
theorem Own.other {b:Nat} {H H':AH} {es:Nat} {elem:TypeId} {v:AV} {xs:List AV} (h:Own b H es elem v xs) (hk:∀ i k es len cap ex,v=.slice i k es len cap ex->H'[i]? =H[i]?):Own b H' es elem v xs:=by
 cases h with
 | nil=>exact .nil
 | «at» i k len cap ex cs xs hb hi hl hc h =>
   have e:=hk i k es len cap ex rfl
   exact .at i k len cap ex cs xs hb (e.trans hi) hl hc (by unfold rdCells at h ⊢; rw [e]; exact h)
theorem spl_append (cs:List AV):∀ (vs:List AV) (k:Nat),k+vs.length<=cs.length->spl cs k vs=cs.take k++vs++cs.drop (k+vs.length):=by
 intro vs
 induction vs generalizing cs with
 | nil=>intro k h; simp [spl]
 | cons v vs ih =>
   intro k h
   simp only [List.length_cons] at h
   rw [spl,ih (cs.set k v) (k+1) (by simp; omega)]
   have hk:k < cs.length:=by omega
   have e1:(cs.set k v).take (k+1)=cs.take k++[v]:=by
     rw [List.set_eq_take_append_cons_drop,if_pos hk,List.take_append,List.length_take,Nat.min_eq_left (Nat.le_of_lt hk),List.take_of_length_le (by simp; omega),show k+1 - k=1 by omega]
     rfl
   have e2:(cs.set k v).drop (k+1+vs.length)=cs.drop (k+1+vs.length):=List.drop_set_of_lt (by omega)
   rw [e1,e2,List.length_cons,show k+(vs.length+1)=k+1+vs.length by omega]
   simp
structure AppT (P:Program) (sT:TypeId) (xT:Option TypeId) (elem:TypeId) (es:Nat):Prop where
 el:sliceElem P sT=some elem
 z:∃ z,zeroA P elem=some z/\z.cells.length=P.cellsOf elem/\z.cells≠[]
 sz:P.cellsOf elem=es
 x:zerosA P xT=false
theorem append_own {sT elem:TypeId} {xT:Option TypeId} {es:Nat} (T:AppT P sT xT elem es) {b:Nat} {H:AH} {s:AV} {xs:List AV} (hs:Own b H es elem s xs) (hb:b<=H.length) {x:AV} {new:List AV} (hx:Row H es x new)
   (hone:new.all AV.one=true) (hg:growOk (P.bytesOf elem) (lenOfA s+lenOfA x)=true) :
   ∃ v H',appendA P none sT xT s x H=some (v,H')/\Own b H' es elem v (xs++new)/\lenOfA v=lenOfA s+lenOfA x/\H.length<=H'.length/\(∀ j,j < H.length->(∀ i k len cap ex,s=.slice i k es len cap ex->j≠i)->H'[j]? =H[j]?):=by
 obtain ⟨z,hz,hzl,hzn⟩:=T.z
 have hsrc:∃ f,srcA H es x=some (lenOfA x,f)/\f (lenOfA x)=some new:=by
   cases hx with
   | nil=>exact ⟨_,rfl,rfl⟩
   | «at» i k len cap ex xs h=>exact ⟨fun n=>if n<=len then rdCells H i k (n * es) else none,by simp [srcA,lenOfA],by simpa [lenOfA] using h⟩
 obtain ⟨f,hf,hfn⟩:=hsrc
 have hnl:new.length=lenOfA x * es:=by
   cases hx with
   | nil=>simp [lenOfA]
   | «at» i k len cap ex xs h=>exact rd_len h
 generalize lenOfA x=n at *
 unfold appendA
 rw [if_neg (by rw [T.x]; simp),T.el,Option.bind_some,hz,Option.bind_some,T.sz,hf,Option.bind_some]
 simp only [hfn,Option.bind_some]
 rw [if_pos ⟨by rw [hzl,T.sz],hzn⟩]
 cases hs with
 | nil =>
   simp only
   split
   · rename_i h0
     have hn:new=[]:=List.length_eq_zero_iff.1 (by rw [hnl,h0,Nat.zero_mul])
     subst hn
     exact ⟨_,_,rfl,.nil,by simp [lenOfA_nil,h0],Nat.le_refl _,fun _ _ _=>rfl⟩
   · simp only [lenOfA_nil,Nat.zero_add] at hg
     rw [if_pos hg]
     refine ⟨_,_,rfl,.at H.length 0 (n) (n) false new ([]++new) hb (by simp) (Nat.le_refl _) (by rw [hnl]; omega) ?_,by simp [lenOfA],by simp,fun j hj _=>List.getElem?_append_left hj⟩
     simp only [rdCells]
     rw [show (H++[AObj.cells new elem])[H.length]? =some (.cells new elem) by simp]
     simp only [List.nil_append]
     rw [if_pos (by omega),List.drop_zero,List.take_of_length_le (by omega)]
 | «at» i k len cap ex cs xs hbi hi hl hc h =>
   simp only [lenOfA_slice] at hg ⊢
   rw [if_pos trivial]
   split
   · rename_i h0
     have hn:new=[]:=List.length_eq_zero_iff.1 (by rw [hnl,h0,Nat.zero_mul])
     subst hn
     exact ⟨_,_,rfl,by simpa using Own.at i k len cap ex cs xs hbi hi hl hc h,(by simp only [lenOfA_slice]; omega),Nat.le_refl _,fun _ _ _=>rfl⟩
   · rename_i hn0
     have hold:xs=(cs.drop k).take (len * es)/\k+len * es<=cs.length:=by
       simp only [rdCells,hi] at h
       split at h
       · rename_i hle; cases h; exact ⟨rfl,hle⟩
       · cases h
     split
     · rename_i hroom
       try rw [if_pos hone]
       have hmul:(len+n) * es<=cap * es:=Nat.mul_le_mul_right _ hroom
       have hadd:(len+n) * es=len * es+n * es:=Nat.add_mul _ _ _
       have hfit:k+len * es+new.length<=cs.length:=by rw [hnl]; omega
       have hwr:wrCells H i (k+len * es) new=some (H.set i (.cells (spl cs (k+len * es) new) elem)):=by
         simp only [wrCells,hi]; rw [if_pos ⟨hfit,hone⟩]
       rw [hwr]
       have hil:=lt_of_get hi
       refine ⟨_,_,rfl,.at i k (len+n) cap ex (spl cs (k+len * es) new) (xs++new) hbi (by simp [hil]) hroom (by rw [spl_length]; exact hc) ?_,rfl,by simp,fun j hj hne=>?_⟩
       · simp only [rdCells]
         rw [show (H.set i (.cells (spl cs (k+len * es) new) elem))[i]? =some (.cells (spl cs (k+len * es) new) elem) by simp [hil]]
         simp only
         rw [if_pos (by rw [spl_length]; omega),spl_append cs new _ hfit,hold.1]
         congr 1
         rw [List.append_assoc,List.drop_append_of_le_length (by simp; omega),List.drop_take]
         have e:k+len * es - k=len * es:=by omega
         rw [e,<-List.append_assoc,List.take_append_of_le_length (by simp [hnl]; omega)]
         apply List.take_of_length_le
         simp [hnl]; omega
       · rw [List.getElem?_set_ne (fun e=>hne i k len cap ex rfl e.symm)]
     · rename_i hroom
       have hgrown:∀ H1:AH,H1.length=H.length->∃ v H',((rdCells H i k (len * es)).bind fun old=>(put none H1 (.cells (old++new) elem)).map fun (j,H')=>(AV.slice j 0 es (len+n) (len+n) false,H'))=some (v,H') /\
           Own b H' es elem v (xs++new)/\lenOfA v=len+n/\H'=H1++[.cells (xs++new) elem]:=by
         intro H1 hl1
         rw [h]
         refine ⟨_,_,rfl,.at H1.length 0 (len+n) (len+n) false (xs++new) (xs++new) (by omega) (by simp) (Nat.le_refl _) ?_ ?_,rfl,rfl⟩
         · rw [List.length_append,rd_len h,hnl,Nat.add_mul]; omega
         · have hlen:(xs++new).length=(len+n) * es:=by rw [List.length_append,rd_len h,hnl,Nat.add_mul]
           simp only [rdCells]
           rw [show (H1++[AObj.cells (xs++new) elem])[H1.length]? =some (.cells (xs++new) elem) by simp]
           simp only
           rw [if_pos (by omega),List.drop_zero,List.take_of_length_le (by omega)]
       split
       · try rw [if_pos hg]
         obtain ⟨v,H',e,ho,hlv,rfl⟩:=hgrown H rfl
         exact ⟨v,_,e,ho,hlv,by simp,fun j hj _=>List.getElem?_append_left hj⟩
       · rw [hi]
         simp only
         rw [if_pos ⟨trivial,hone,hg⟩]
         obtain ⟨v,H',e,ho,hlv,rfl⟩:=hgrown (H.set i .dead) (by simp)
         refine ⟨v,_,e,ho,hlv,by simp,fun j hj hne=>?_⟩
         rw [List.getElem?_append_left (by simpa using hj),List.getElem?_set_ne (fun e=>hne i k len cap ex rfl e.symm)]
theorem put_app (H L:AH) (o:AObj):put none (H++L) o=some (H.length+L.length,H++(L++[o])):=by simp [put]
theorem rd_app (H L:AH) (n k m:Nat):rdCells (H++L) (H.length+n) k m=rdCells L n k m:=by
 unfold rdCells
 rw [List.getElem?_append_right (by omega),Nat.add_sub_cancel_left]
theorem rd_app0 (H L:AH) (k m:Nat):rdCells (H++L) H.length k m=rdCells L 0 k m:=rd_app H L 0 k m
theorem wr_app (H L:AH) (n k:Nat) (xs:List AV):wrCells (H++L) (H.length+n) k xs=(wrCells L n k xs).map (H++·):=by
 unfold wrCells
 rw [List.getElem?_append_right (by omega),Nat.add_sub_cancel_left]
 cases L[n]? with
 | none=>rfl
 | some o=>cases o with
   | cells cs e =>
     simp only
     split
     · rw [List.set_append_right _ _ (by omega),Nat.add_sub_cancel_left]; rfl
     · rfl
   | _=>rfl
theorem wr_app0 (H L:AH) (k:Nat) (xs:List AV):wrCells (H++L) H.length k xs=(wrCells L 0 k xs).map (H++·):=wr_app H L 0 k xs
theorem b_ft:(false == true)=false:=rfl
theorem b_tf:(true == false)=false:=rfl
def boolOf:AV->Option Bool
 | .bool b=>some b
 | _=>none
theorem boolOf_bool (b:Bool):boolOf (.bool b)=some b:=rfl
def yv (d:Option Tmp) (tm:List AV):Option Bool:=(d.bind (tm[·]?)).bind boolOf
theorem yielded_eq (ops:Array Oper) (tm:List AV) (j:Nat):yieldedA ops tm j=yv ((ops[j]?).bind (·.dst)) tm:=by
 unfold yieldedA yv
 cases ((ops[j]?).bind (·.dst)).bind (tm[·]?) with
 | none=>rfl
 | some v=>cases v <;> rfl
theorem yv_some (d:Tmp) (tm:List AV) (h:d < tm.length):yv (some d) tm=boolOf (tm.getD d uA):=by
 simp [yv,List.getD,h]
theorem rdL_here (cs:List AV) (e:TypeId) (L:AH) (k m:Nat):rdCells (.cells cs e::L) 0 k m=if k+m<=cs.length then some ((cs.drop k).take m) else none:=rfl
theorem rdL_next (o:AObj) (L:AH) (n k m:Nat):rdCells (o::L) (n+1) k m=rdCells L n k m:=rfl
theorem wrL_here (cs:List AV) (e:TypeId) (L:AH) (k:Nat) (xs:List AV):wrCells (.cells cs e::L) 0 k xs=if k+xs.length<=cs.length/\xs.all AV.one=true then some (.cells (spl cs k xs) e::L) else none:=rfl
theorem wrL_next (o:AObj) (L:AH) (n k:Nat) (xs:List AV):wrCells (o::L) (n+1) k xs=(wrCells L n k xs).map (o::·):=by
 unfold wrCells
 rw [List.getElem?_cons_succ]
 cases L[n]? with
 | none=>rfl
 | some q=>cases q with
   | cells cs e=>simp only; split <;> rfl
   | _=>rfl
end
end Go.Dv
namespace Go.Dv
def atPath:List Bool->Code->Code
 | [],c=>c
 | false::p,.seq a _=>atPath p a
 | true::p,.seq _ b=>atPath p b
 | false::p,.cond _ a _=>atPath p a
 | true::p,.cond _ _ b=>atPath p b
 | _::p,.block _ a=>atPath p a
 | _::p,.loop a=>atPath p a
 | _,c=>c
section
variable {P:Program} {C:Cfg P} {W:Ways P} {pl:Nat->Option Way}
theorem rp_done (call:CallF) (base:Nat) (ops:Array Oper) (s:St):runPlan P C call base ops .done s=some s:=by simp only [runPlan]
def quietO (P:Program) (gl:GL) (ops:Array Oper) (o:Oper) (tm:List AV):Option AV:=if Region.wanted o (yieldedA ops tm) then quietA P (evalA gl tm) o else some uA
theorem rp_take (call:CallF) (base:Nat) (ops:Array Oper) (i:Nat) (p:Plan) (tm:List AV) (H:AH):runPlan P C call base ops (.take i p) (tm,H)=(ops[i]?).bind fun o=>(quietO P C.gl ops o tm).bind fun v=>runPlan P C call base ops p (putA o.dst v tm,H):=by
 simp only [runPlan]
 cases ops[i]? <;> rfl
theorem rp_all (call:CallF) (base:Nat) (ops:Array Oper) (l:List (Nat × Plan)) (s:St):runPlan P C call base ops (.all l) s=runAll P C call base ops l s none:=by simp only [runPlan]
theorem stepA_O (call:CallF) (slot:Option Nat) (ops:Array Oper) (i:Nat) (s:St):stepA P C call slot ops i s=match ops[i]? with
   | none=>some s
   | some o=>stepO P C call slot ops o s:=by
 rw [stepA_eq]
 cases ops[i]? <;> rfl
noncomputable def readO (P:Program) (gl:GL) (ops:Array Oper) (o:Oper) (tm:List AV) (H:AH):Option AV:=if Region.wanted o (yieldedA ops tm) then readA P (evalA gl tm) o H else some uA
theorem rp_rd (call:CallF) (base:Nat) (ops:Array Oper) (i:Nat) (p:Plan) (tm:List AV) (H:AH):runPlan P C call base ops (.rd i p) (tm,H)=(ops[i]?).bind fun o=>(readO P C.gl ops o tm H).bind fun v=>runPlan P C call base ops p (putA o.dst v tm,H):=by
 simp only [runPlan]
 cases ops[i]? <;> rfl
theorem readO_none (gl:GL) (ops:Array Oper) (dst:Option Tmp) (op:Op) (ty:TypeId) (pos:String) (after:Array Edge) (tm:List AV) (H:AH):readO P gl ops ⟨dst,op,ty,pos,after,none⟩ tm H=readA P (evalA gl tm) ⟨dst,op,ty,pos,after,none⟩ H:=rfl
theorem rp_join (call:CallF) (base:Nat) (ops:Array Oper) (p q:Plan) (s:St):runPlan P C call base ops (.join p q) s=(runPlan P C call base ops p s).bind fun t=>runPlan P C call base ops q t:=by simp only [runPlan]
theorem ra_nil (call:CallF) (base:Nat) (ops:Array Oper) (s:St) (r:Option St):runAll P C call base ops [] s r=r:=by simp only [runAll]
theorem ra_first (call:CallF) (base:Nat) (ops:Array Oper) (i:Nat) (p:Plan) (l:List (Nat × Plan)) (s:St):runAll P C call base ops ((i,p)::l) s none=(match ops[i]? with
   | none=>some s
   | some o=>stepO P C call (some (base+i)) ops o s).bind fun s'=>(runPlan P C call base ops p s').bind fun t=>runAll P C call base ops l s (some t):=by
 simp only [runAll,stepA_O]
theorem ra_next (call:CallF) (base:Nat) (ops:Array Oper) (i:Nat) (p:Plan) (l:List (Nat × Plan)) (s t0:St):runAll P C call base ops ((i,p)::l) s (some t0)=(match ops[i]? with
   | none=>some s
   | some o=>stepO P C call (some (base+i)) ops o s).bind fun s'=>(runPlan P C call base ops p s').bind fun t=>if stBeq t0 t=true then runAll P C call base ops l s (some t0) else none:=by
 simp only [runAll,stepA_O]
theorem quietO_none (ops:Array Oper) (dst:Option Tmp) (op:Op) (ty:TypeId) (pos:String) (after:Array Edge) (tm:List AV):quietO P C.gl ops ⟨dst,op,ty,pos,after,none⟩ tm=quietA P (evalA C.gl tm) ⟨dst,op,ty,pos,after,none⟩:=rfl
section
variable (ev:Operand->Option AV) (dst:Option Tmp) (ty:TypeId) (pos:String) (after:Array Edge) (g:Option (Nat × Bool))
theorem q_move (x:Operand):quietA P ev ⟨dst,.move x,ty,pos,after,g⟩=ev x:=rfl
theorem q_assign (x:Operand):quietA P ev ⟨dst,.assign x,ty,pos,after,g⟩=ev x:=rfl
theorem q_pick (c a b:Operand):quietA P ev ⟨dst,.pick c a b,ty,pos,after,g⟩=(ev c).bind fun cv=>match cv with
   | .bool true=>ev a
   | .bool false=>ev b
   | _=>none:=rfl
theorem q_binOp (op:BinOp) (t yt:TypeId) (x y:Operand):quietA P ev ⟨dst,.binOp op t x y yt,ty,pos,after,g⟩=(ev x).bind fun xv=>(ev y).bind fun yv =>
   match xv,yv with
   | .int k a,.int k' b=>match (if k=k' then intBinA op k a b else none) with
     | some v=>some v
     | none=>(pureA P ev ⟨dst,.binOp op t x y yt,ty,pos,after,g⟩).bind fun n=>match n with | .val v=>some v | _=>none
   | _,_=>match op,eqVG P t xv yv with
     | .eql,some r=>some (.bool r)
     | .neq,some r=>some (.bool (!r))
     | _,_=>(pureA P ev ⟨dst,.binOp op t x y yt,ty,pos,after,g⟩).bind fun n=>match n with | .val v=>some v | _=>none:=rfl
theorem q_field (t:TypeId) (x:Operand) (f:Nat):quietA P ev ⟨dst,.field t x f,ty,pos,after,g⟩=(ev x).bind fun xv=>fieldA P t xv f:=rfl
theorem q_fieldAddr (t:TypeId) (x:Operand) (f:Nat):quietA P ev ⟨dst,.fieldAddr t x f,ty,pos,after,g⟩=(ev x).bind fun xv=>fieldAddrA P t xv f:=rfl
theorem q_indexAddr (t:TypeId) (x i:Operand):quietA P ev ⟨dst,.indexAddr t x i,ty,pos,after,g⟩=(ev x).bind fun xv=>(ev i).bind fun iv=>indexAddrA P t xv iv:=rfl
theorem q_nilCheck (x:Operand):quietA P ev ⟨dst,.nilCheck x,ty,pos,after,g⟩=(ev x).bind nilCheckA:=rfl
end
theorem retA_cell1 {fn:Func} {a:Tmp} {t:TypeId} (h:fn.results.toList=[.cell a t]) (tm:List AV) (H:AH):retA P fn (tm,H)=match tm.getD a uA with
   | .ptr i k=>(ldA P t H i k).map fun v=>(v,H)
   | _=>none:=by
 unfold retA
 rw [h]
 cases hg:tm.getD a uA with
 | ptr i k =>
   simp only [resultsA,hg]
   cases ldA P t H i k <;> rfl
 | _=>simp only [resultsA,hg] <;> rfl
def keepV (x:AV):AV:=x
theorem keepV_eq (x:AV):keepV x=x:=rfl
theorem set_order {l:List AV} {i j:Nat} {a b:AV} (h:j < i):(l.set i a).set j b=(l.set j (keepV b)).set i a:=List.set_comm _ _ (by omega)
theorem put_slot (n:Nat) (x:AObj) (L:AH) (o:AObj):put (some n) (x::L) o=match (x::L)[n]? with
   | some .fresh=>some (n,(x::L).set n o)
   | _=>none:=rfl
theorem put_slot_app (H L:AH) (n:Nat) (o:AObj):put (some (H.length+n)) (H++L) o=(put (some n) L o).map fun r=>(H.length+r.1,H++r.2):=by
 unfold put
 simp only
 rw [List.getElem?_append_right (by omega),Nat.add_sub_cancel_left]
 cases L[n]? with
 | none=>rfl
 | some o'=>cases o' with
   | fresh =>
     simp only [Option.map_some]
     rw [List.set_append_right _ _ (by omega),Nat.add_sub_cancel_left]
   | _=>rfl
theorem readsA_nil (gl:GL) (ops:Array Oper) (s:St):readsA P gl ops [] s=some s:=rfl
theorem readsA_none (gl:GL) (ops:Array Oper) (dst:Option Tmp) (op:Op) (ty:TypeId) (pos:String) (after:Array Edge) (os:List Oper) (tm:List AV) (H:AH):readsA P gl ops (⟨dst,op,ty,pos,after,none⟩::os) (tm,H)=(readA P (evalA gl tm) ⟨dst,op,ty,pos,after,none⟩ H).bind fun v=>readsA P gl ops os (putA dst v tm,H):=rfl
section
variable (ev:Operand->Option AV) (dst:Option Tmp) (ty:TypeId) (pos:String) (after:Array Edge) (g:Option (Nat × Bool)) (H:AH)
theorem rd_load (t:TypeId) (a:Operand):readA P ev ⟨dst,.load t a,ty,pos,after,g⟩ H=(ev a).bind fun av=>match av with
   | .ptr i k=>ldA P t H i k
   | _=>none:=rfl
theorem rd_lookup (t:TypeId) (m k:Operand) (ok:Bool):readA P ev ⟨dst,.lookup t m k ok,ty,pos,after,g⟩ H=(ev m).bind fun mv=>(ev k).bind fun kv=>lookupA P t mv kv ok H:=rfl
theorem rd_slice (t:TypeId) (x:Operand) (lo hi mx:Option Operand):readA P ev ⟨dst,.slice t x lo hi mx,ty,pos,after,g⟩ H=(ev x).bind fun xv=>(evO ev lo).bind fun l=>(evO ev hi).bind fun h=>(evO ev mx).bind fun m=>sliceA P t H xv l h m:=rfl
theorem rd_builtin_len (x:Operand) (t:TypeId):readA P ev ⟨dst,.call ⟨.builtin .len,#[x],#[t]⟩,ty,pos,after,g⟩ H=(ev x).bind fun v=>lenA P t H v:=by
 simp only [readA,evL]; cases ev x <;> rfl
theorem rd_move (x:Operand):readA P ev ⟨dst,.move x,ty,pos,after,g⟩ H=ev x:=rfl
theorem rd_assign (x:Operand):readA P ev ⟨dst,.assign x,ty,pos,after,g⟩ H=ev x:=rfl
theorem rd_binOp (op:BinOp) (t yt:TypeId) (x y:Operand):readA P ev ⟨dst,.binOp op t x y yt,ty,pos,after,g⟩ H=quietA P ev ⟨dst,.binOp op t x y yt,ty,pos,after,g⟩:=rfl
theorem rd_unOp (op:UnOp) (t:TypeId) (x:Operand):readA P ev ⟨dst,.unOp op t x,ty,pos,after,g⟩ H=quietA P ev ⟨dst,.unOp op t x,ty,pos,after,g⟩:=rfl
theorem rd_convert (t u:TypeId) (x:Operand):readA P ev ⟨dst,.convert t u x,ty,pos,after,g⟩ H=quietA P ev ⟨dst,.convert t u x,ty,pos,after,g⟩:=rfl
theorem rd_field (t:TypeId) (x:Operand) (f:Nat):readA P ev ⟨dst,.field t x f,ty,pos,after,g⟩ H=(ev x).bind fun xv=>fieldA P t xv f:=rfl
theorem rd_fieldAddr (t:TypeId) (x:Operand) (f:Nat):readA P ev ⟨dst,.fieldAddr t x f,ty,pos,after,g⟩ H=(ev x).bind fun xv=>fieldAddrA P t xv f:=rfl
theorem rd_indexAddr (t:TypeId) (x i:Operand):readA P ev ⟨dst,.indexAddr t x i,ty,pos,after,g⟩ H=(ev x).bind fun xv=>(ev i).bind fun iv=>indexAddrA P t xv iv:=rfl
theorem rd_nilCheck (x:Operand):readA P ev ⟨dst,.nilCheck x,ty,pos,after,g⟩ H=(ev x).bind nilCheckA:=rfl
theorem rd_extract (t:Operand) (ix:Nat):readA P ev ⟨dst,.extract t ix,ty,pos,after,g⟩ H=(ev t).bind fun tv=>match tv with
   | .tuple vs=>vs[ix]?
   | _=>none:=rfl
end
theorem q_extract (ev:Operand->Option AV) (dst:Option Tmp) (ty:TypeId) (pos:String) (after:Array Edge) (g:Option (Nat × Bool)) (t:Operand) (ix:Nat):quietA P ev ⟨dst,.extract t ix,ty,pos,after,g⟩=(ev t).bind fun tv=>match tv with
   | .tuple vs=>vs[ix]?
   | _=>none:=rfl
section
variable (call:CallF)
theorem calmsA_nil (ops:Array Oper) (s:St):calmsA P C call ops [] s=some s:=rfl
theorem calmsA_none (ops:Array Oper) (dst:Option Tmp) (op:Op) (ty:TypeId) (pos:String) (after:Array Edge) (os:List Oper) (tm:List AV) (H:AH):calmsA P C call ops (⟨dst,op,ty,pos,after,none⟩::os) (tm,H)=(calmA P C call (evalA C.gl tm) ⟨dst,op,ty,pos,after,none⟩ H).bind fun v=>calmsA P C call ops os (putA dst v tm,H):=rfl
section
variable (ev:Operand->Option AV) (dst:Option Tmp) (ty:TypeId) (pos:String) (after:Array Edge) (g:Option (Nat × Bool)) (H:AH)
theorem cm_load (t:TypeId) (a:Operand):calmA P C call ev ⟨dst,.load t a,ty,pos,after,g⟩ H=readA P ev ⟨dst,.load t a,ty,pos,after,g⟩ H:=rfl
theorem cm_lookup (t:TypeId) (m k:Operand) (ok:Bool):calmA P C call ev ⟨dst,.lookup t m k ok,ty,pos,after,g⟩ H=readA P ev ⟨dst,.lookup t m k ok,ty,pos,after,g⟩ H:=rfl
theorem cm_slice (t:TypeId) (x:Operand) (lo hi mx:Option Operand):calmA P C call ev ⟨dst,.slice t x lo hi mx,ty,pos,after,g⟩ H=readA P ev ⟨dst,.slice t x lo hi mx,ty,pos,after,g⟩ H:=rfl
theorem cm_builtin (b:Builtin) (xs:Array Operand) (ts:Array TypeId):calmA P C call ev ⟨dst,.call ⟨.builtin b,xs,ts⟩,ty,pos,after,g⟩ H=readA P ev ⟨dst,.call ⟨.builtin b,xs,ts⟩,ty,pos,after,g⟩ H:=rfl
theorem cm_move (x:Operand):calmA P C call ev ⟨dst,.move x,ty,pos,after,g⟩ H=ev x:=rfl
theorem cm_assign (x:Operand):calmA P C call ev ⟨dst,.assign x,ty,pos,after,g⟩ H=ev x:=rfl
theorem cm_binOp (op:BinOp) (t yt:TypeId) (x y:Operand):calmA P C call ev ⟨dst,.binOp op t x y yt,ty,pos,after,g⟩ H=quietA P ev ⟨dst,.binOp op t x y yt,ty,pos,after,g⟩:=rfl
theorem cm_unOp (op:UnOp) (t:TypeId) (x:Operand):calmA P C call ev ⟨dst,.unOp op t x,ty,pos,after,g⟩ H=quietA P ev ⟨dst,.unOp op t x,ty,pos,after,g⟩:=rfl
theorem cm_convert (t u:TypeId) (x:Operand):calmA P C call ev ⟨dst,.convert t u x,ty,pos,after,g⟩ H=quietA P ev ⟨dst,.convert t u x,ty,pos,after,g⟩:=rfl
theorem cm_field (t:TypeId) (x:Operand) (f:Nat):calmA P C call ev ⟨dst,.field t x f,ty,pos,after,g⟩ H=(ev x).bind fun xv=>fieldA P t xv f:=rfl
theorem cm_fieldAddr (t:TypeId) (x:Operand) (f:Nat):calmA P C call ev ⟨dst,.fieldAddr t x f,ty,pos,after,g⟩ H=(ev x).bind fun xv=>fieldAddrA P t xv f:=rfl
theorem cm_indexAddr (t:TypeId) (x i:Operand):calmA P C call ev ⟨dst,.indexAddr t x i,ty,pos,after,g⟩ H=(ev x).bind fun xv=>(ev i).bind fun iv=>indexAddrA P t xv iv:=rfl
theorem cm_nilCheck (x:Operand):calmA P C call ev ⟨dst,.nilCheck x,ty,pos,after,g⟩ H=(ev x).bind nilCheckA:=rfl
theorem cm_extract (t:Operand) (ix:Nat):calmA P C call ev ⟨dst,.extract t ix,ty,pos,after,g⟩ H=(ev t).bind fun tv=>match tv with
   | .tuple vs=>vs[ix]?
   | _=>none:=rfl
theorem cm_call (x:Operand) (xs:Array Operand) (ts:Array TypeId):calmA P C call ev ⟨dst,.call ⟨.value x,xs,ts⟩,ty,pos,after,g⟩ H=(callA P C none ev ⟨dst,.call ⟨.value x,xs,ts⟩,ty,pos,after,g⟩ ⟨.value x,xs,ts⟩ H).bind fun r=>match r with
   | (.enter f args,_)=>if C.reads f then (call f args H).map (·.1) else none
   | _=>none:=rfl
end
end
theorem ev_tail {id k:Nat} {ops:Array Oper} (h:pl id=some (.tail k)) (s:St):EvC P C W pl (.region id ops true) s=(readsA P C.gl ops (ops.toList.take k) s).bind fun s1=>(runL P C (Ev P C W) ops (ops.toList.drop k) s1).bind fun s'=>some (.normal,s'):=by
 rw [EvC_tail h]
 congr 1; funext s1
 congr 1
 have:=runL_eq (P:=P) (C:=C) (Ev P C W) ops (ops.toList.drop k) k s1 (fun i o h=>by
   rw [List.getElem?_drop] at h; simpa using h)
 rw [<-this]
 congr 1
 rw [List.range'_eq_map_range]
end
end Go.Dv
