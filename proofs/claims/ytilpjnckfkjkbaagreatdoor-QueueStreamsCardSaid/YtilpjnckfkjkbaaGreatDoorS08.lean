/- Part 08 of the walks (own work). -/
import Derived.Test.YtilpjnckfkjkbaaGreatDoorS07
open List renaming append_assoc→aE,drop_take→rG,drop_zero→iu,getD→vH,getElem?_append_left→aq,getElem?_append_right→aw,getElem?_set_ne→aB,length_append→ai,length_cons→b6,length_eq_zero_iff→dw,set_append_right→kQ,take_of_length_le→bt
open Nat renaming add_mul→d3,add_sub_cancel_left→bE,le_refl→ax,min_eq_left→qM,zero_mul→nr
open Option renaming bind_some→ay,map_some→cE
open Option.some renaming injEq→aS
set_option maxRecDepth 100000
set_option maxHeartbeats 4000000
set_option linter.unusedSimpArgs false
set_option linter.unusedVariables false
namespace Go.Dv
theorem dq (tm:List AV) (i:Nat) (v d:AV) (h:i < tm.length):(tm.set i v).getD i d=v:=by simp [vH,h]
theorem y8 (tm:List AV) (i j:Nat) (v d:AV) (h:i≠j):(tm.set i v).getD j d=tm.getD j d:=by simp [vH,aB h]
abbrev I (n:Int):AV:=.int .i64 n
theorem pq {H:AH} {i k n:Nat} {xs:List AV} (h:ak H i k n=some xs):xs.length=n:=by
 unfold ak at h
 split at h
 · split at h
   · cases h; simp; omega
   · cases h
 · split at h
   · cases h; simp; omega
   · cases h
 · cases h
theorem zV {H:AH} {i k n:Nat} {xs:List AV} (h:ak H i k n=some xs) (j m:Nat) (hj:j+m<=n):ak H i (k+j) m=some ((xs.drop j).take m):=by
 have key:∀ cs:List AV,k+n<=cs.length->(if k+j+m<=cs.length then some ((cs.drop (k+j)).take m) else none)=some ((((cs.drop k).take n).drop j).take m):=fun cs hc=>by
   rw [if_pos (by omega)]
   congr 1
   rw [rG,List.take_take,List.drop_drop,qM (by omega)]
 unfold ak at h ⊢
 split at h
 · rename_i cs e hi
   split at h
   · rename_i hc; cases h; exact key cs hc
   · cases h
 · rename_i cs hi
   split at h
   · rename_i hc; cases h; exact key cs hc
   · cases h
 · cases h
theorem PU {H:AH} {i k n:Nat} {xs:List AV} (h:ak H i k n=some xs):i < H.length:=by
 unfold ak at h
 split at h
 · exact aJ ‹_›
 · exact aJ ‹_›
 · cases h
inductive Row (H:AH) (es:Nat):AV->List AV->Prop where
 | nil:Row H es .nilSlice []
 | at (i k len cap:Nat) (ex:Bool) (xs:List AV) (h:ak H i k (len * es)=some xs):Row H es (.slice i k es len cap ex) xs
section
variable {P:Program}
theorem Bd {t:TypeId} (ht:P.underlying t=some .string) {ev:Operand->Option AV} {x i:Operand} {s:ByteArray} {k:IntKind} {j:Nat} (hx:ev x=some (.str s)) (hi:ev i=some (.int k j)) (hj:j < s.size)
   (dst:Option Tmp) (ty:TypeId) (pos:String) (after:Array Edge) (g:Option (Nat × Bool)):cM P ev ⟨dst,.index t x i,ty,pos,after,g⟩=some (.val (.int .u8 (s[j]'hj).toNat)):=by
 have hg:s[j]? =some (s[j]'hj):=getElem?_pos s j hj
 simp [cM,notSelect,Op.operands,hx,hi,toV,execOp,jT,fY,Instr.index,asIntOf,underlying,program,ht,mG,bind,Sem.bind,pure,hg]
theorem qY {t u:TypeId} {k':IntKind} {dt:TypeDesc} (ht:P.underlying t=some dt) (hu:P.underlying u=some (.int k')) {ev:Operand->Option AV} {x:Operand} {k:IntKind} {n:Int} (hx:ev x=some (.int k n))
   (dst:Option Tmp) (ty:TypeId) (pos:String) (after:Array Edge) (g:Option (Nat × Bool)):cM P ev ⟨dst,.convert t u x,ty,pos,after,g⟩=some (.val (.int k' (k'.wrap n))):=by
 simp [cM,notSelect,Op.operands,hx,toV,execOp,jT,fY,convert,underlying,program,ht,hu,mG,bind,Sem.bind,pure,Conv.intToInt]
theorem yH {ev:Operand->Option AV} {t:TypeId} {x:Operand} {b:Bool} (hx:ev x=some (.bool b))
   (dst:Option Tmp) (ty:TypeId) (pos:String) (after:Array Edge) (g:Option (Nat × Bool)):cM P ev ⟨dst,.unOp .not t x,ty,pos,after,g⟩=some (.val (.bool !b)):=by
 simp [cM,notSelect,Op.operands,hx,toV,execOp,jT,fY,Op.unary,py,bind,Sem.bind,pure]
end
theorem He {P:Program} {C:Cfg P} (slot:Option Nat) (ev:Operand->Option AV) (dst:Option Tmp) (ty:TypeId) (pos:String) (after:Array Edge) (g:Option (Nat × Bool)) (H:AH) (t:TypeId) (x i:Operand) :
   aop P C slot ev ⟨dst,.index t x i,ty,pos,after,g⟩ H=(cM P ev ⟨dst,.index t x i,ty,pos,after,g⟩).map fun n=>(n,H):=rfl
theorem CA {P:Program} {C:Cfg P} (slot:Option Nat) (ev:Operand->Option AV) (dst:Option Tmp) (ty:TypeId) (pos:String) (after:Array Edge) (g:Option (Nat × Bool)) (H:AH) (t u:TypeId) (x:Operand) :
   aop P C slot ev ⟨dst,.convert t u x,ty,pos,after,g⟩ H=match cM P ev ⟨dst,.convert t u x,ty,pos,after,g⟩ with
     | some n=>some (n,H)
     | none=>(ev x).bind fun v=>(F5 P H t u v).map fun s=>(.val (.str s),H):=rfl
theorem Mn {P:Program} {C:Cfg P} (slot:Option Nat) (ev:Operand->Option AV) (dst:Option Tmp) (ty:TypeId) (pos:String) (after:Array Edge) (g:Option (Nat × Bool)) (H:AH) (op:UnOp) (t:TypeId) (x:Operand) :
   aop P C slot ev ⟨dst,.unOp op t x,ty,pos,after,g⟩ H=(cM P ev ⟨dst,.unOp op t x,ty,pos,after,g⟩).map fun n=>(n,H):=rfl
def iT (s:ByteArray) (j:Int):Int:=((s.data.toList.getD j.toNat 0).toNat:Int)
theorem iP {P:Program} {ev:Operand->Option AV} {o:Oper} {x:Operand} (hx:x∈o.op.operands) (hn:ev x=none):cM P ev o=none:=by
 unfold cM
 rw [if_neg]
 simp only [Bool.and_eq_true,List.all_eq_true,not_and]
 intro _ h
 have:=h x (by simpa using hx)
 rw [hn] at this; cases this
theorem fD {P:Program} {C:Cfg P} {t:TypeId} (ht:P.underlying t=some .string) (slot:Option Nat) (ev:Operand->Option AV) (dst:Option Tmp) (ty:TypeId) (pos:String) (after:Array Edge) (g:Option (Nat × Bool)) (H:AH) (x i:Operand) :
   aop P C slot ev ⟨dst,.index t x i,ty,pos,after,g⟩ H=(ev x).bind fun xv=>(ev i).bind fun iv=>match xv,iv with
     | .str s,.int k j=>if 0<=j/\j < s.size then some (.val (.int .u8 (iT s j)),H) else (cM P ev ⟨dst,.index t x i,ty,pos,after,g⟩).map fun n=>(n,H)
     | _,_=>(cM P ev ⟨dst,.index t x i,ty,pos,after,g⟩).map fun n=>(n,H):=by
 rw [He]
 cases hx:ev x with
 | none=>rw [iP (x:=x) (by simp [Op.operands]) hx]; rfl
 | some xv=>cases hi:ev i with
   | none=>rw [iP (x:=i) (by simp [Op.operands]) hi]; rfl
   | some iv =>
     simp only [ay]
     split
     · rename_i s k j
       split
       · rename_i hj
         have hj':j.toNat < s.size:=by omega
         have e:j=(j.toNat:Int):=by omega
         rw [e] at hi
         rw [Bd ht hx hi hj']
         have hb:iT s j=(s[j.toNat]'hj').toNat:=by
           unfold iT
           congr 2
           have:s.data.toList[j.toNat]? =some (s[j.toNat]'hj'):=by
             rw [Array.getElem?_toList]; exact Array.getElem?_eq_getElem hj'
           simp [vH,this]
         rw [hb]; rfl
       · rfl
     · rfl
theorem CB {P:Program} {C:Cfg P} {t u:TypeId} {dt:TypeDesc} {k':IntKind} (ht:P.underlying t=some dt) (hu:P.underlying u=some (.int k')) (slot:Option Nat) (ev:Operand->Option AV) (dst:Option Tmp) (ty:TypeId) (pos:String) (after:Array Edge) (g:Option (Nat × Bool)) (H:AH) (x:Operand) :
   aop P C slot ev ⟨dst,.convert t u x,ty,pos,after,g⟩ H=(ev x).bind fun xv=>match xv with
     | .int _ n=>some (.val (.int k' (k'.wrap n)),H)
     | _=>(cM P ev ⟨dst,.convert t u x,ty,pos,after,g⟩).map fun n=>(n,H):=by
 rw [CA]
 cases hx:ev x with
 | none=>rw [iP (x:=x) (by simp [Op.operands]) hx]; rfl
 | some xv =>
   simp only [ay]
   have hn:F5 P H t u xv=none:=by
     unfold F5
     rw [hu]
     split
     · rename_i h; cases h
     · rfl
   rw [hn]
   cases xv
   case int k n=>rw [qY ht hu hx]
   all_goals (cases cM P ev ⟨dst,.convert t u x,ty,pos,after,g⟩ <;> rfl)
theorem wi {P:Program} {C:Cfg P} (slot:Option Nat) (ev:Operand->Option AV) (dst:Option Tmp) (ty:TypeId) (pos:String) (after:Array Edge) (g:Option (Nat × Bool)) (H:AH) (t:TypeId) (x:Operand) :
   aop P C slot ev ⟨dst,.unOp .not t x,ty,pos,after,g⟩ H=(ev x).bind fun xv=>match xv with
     | .bool b=>some (.val (.bool !b),H)
     | _=>(cM P ev ⟨dst,.unOp .not t x,ty,pos,after,g⟩).map fun n=>(n,H):=by
 rw [Mn]
 cases hx:ev x with
 | none=>rw [iP (x:=x) (by simp [Op.operands]) hx]; rfl
 | some xv =>
   simp only [ay]
   split
   · rw [yH hx]; rfl
   · rfl
theorem aH {α β:Type} {x y:Option α} (f:α->Option β) (h:x=y):x.bind f=y.bind f:=by rw [h]
end Go.Dv
namespace Go.Dv
section
variable {P:Program} {C:Cfg P} {W:o6 P} {pl:Nat->Option Way}
theorem WW {f:Nat} (h:(P.funcs[f]?).map (fun fn=>fn.body.isSome)=some true) (slot:Option Nat) (ev:Operand->Option AV) (H:AH) (o:Oper) (xs:Array Operand) (ats:Array TypeId)
   (he:ev (.func f)=some (.func (.func f) [] [])):fN P C slot ev o ⟨.value (.func f),xs,ats⟩ H=(evL ev xs.toList).map fun as=>(.enter f as,H):=by
 simp only [fN,he,ay]
 cases hf:P.funcs[f]? with
 | none=>rw [hf] at h; cases h
 | some fn =>
   rw [hf] at h
   simp only [cE,aS] at h
   cases evL ev xs.toList with
   | none=>rfl
   | some as=>simp [h]
inductive Own (b:Nat) (H:AH) (es:Nat) (elem:TypeId):AV->List AV->Prop where
 | nil:Own b H es elem .nilSlice []
 | at (i k len cap:Nat) (ex:Bool) (cs xs:List AV) (hb:b<=i) (hi:H[i]? =some (.cells cs elem)) (hl:len<=cap) (hc:k+cap * es<=cs.length) (h:ak H i k (len * es)=some xs) :
     Own b H es elem (.slice i k es len cap ex) xs
def bz:AV->Nat
 | .slice _ _ _ len _ _=>len
 | _=>0
theorem cg (i k es len cap:Nat) (ex:Bool):bz (.slice i k es len cap ex)=len:=rfl
theorem oC:bz .nilSlice=0:=rfl
theorem Own.length {b:Nat} {H:AH} {es:Nat} {elem:TypeId} {v:AV} {xs:List AV} (h:Own b H es elem v xs):xs.length=bz v * es:=by
 cases h with
 | nil=>simp [bz]
 | «at» i k len cap ex cs xs hb hi hl hc h=>exact pq h
theorem Own.other {b:Nat} {H H':AH} {es:Nat} {elem:TypeId} {v:AV} {xs:List AV} (h:Own b H es elem v xs) (hk:∀ i k es len cap ex,v=.slice i k es len cap ex->H'[i]? =H[i]?):Own b H' es elem v xs:=by
 cases h with
 | nil=>exact .nil
 | «at» i k len cap ex cs xs hb hi hl hc h =>
   have e:=hk i k es len cap ex rfl
   exact .at i k len cap ex cs xs hb (e.trans hi) hl hc (by unfold ak at h ⊢; rw [e]; exact h)
theorem ib (cs:List AV):∀ (vs:List AV) (k:Nat),k+vs.length<=cs.length->spl cs k vs=cs.take k++vs++cs.drop (k+vs.length):=by
 intro vs
 induction vs generalizing cs with
 | nil=>intro k h; simp [spl]
 | cons v vs ih =>
   intro k h
   simp only [b6] at h
   rw [spl,ih (cs.set k v) (k+1) (by simp; omega)]
   have hk:k < cs.length:=by omega
   have e1:(cs.set k v).take (k+1)=cs.take k++[v]:=by
     rw [List.set_eq_take_append_cons_drop,if_pos hk,List.take_append,List.length_take,qM (Nat.le_of_lt hk),bt (by simp; omega),show k+1 - k=1 by omega]
     rfl
   have e2:(cs.set k v).drop (k+1+vs.length)=cs.drop (k+1+vs.length):=List.drop_set_of_lt (by omega)
   rw [e1,e2,b6,show k+(vs.length+1)=k+1+vs.length by omega]
   simp
structure pW (P:Program) (sT:TypeId) (xT:Option TypeId) (elem:TypeId) (es:Nat):Prop where
 el:gF P sT=some elem
 z:∃ z,ep P elem=some z/\z.cells.length=P.cellsOf elem/\z.cells≠[]
 sz:P.cellsOf elem=es
 x:rH P xT=false
theorem r7 {sT elem:TypeId} {xT:Option TypeId} {es:Nat} (T:pW P sT xT elem es) {b:Nat} {H:AH} {s:AV} {xs:List AV} (hs:Own b H es elem s xs) (hb:b<=H.length) {x:AV} {new:List AV} (hx:Row H es x new)
   (hone:new.all AV.one=true) (hg:fR (P.bytesOf elem) (bz s+bz x)=true) :
   ∃ v H',gv P none sT xT s x H=some (v,H')/\Own b H' es elem v (xs++new)/\bz v=bz s+bz x/\H.length<=H'.length/\(∀ j,j < H.length->(∀ i k len cap ex,s=.slice i k es len cap ex->j≠i)->H'[j]? =H[j]?):=by
 obtain ⟨z,hz,hzl,hzn⟩:=T.z
 have hsrc:∃ f,pf H es x=some (bz x,f)/\f (bz x)=some new:=by
   cases hx with
   | nil=>exact ⟨_,rfl,rfl⟩
   | «at» i k len cap ex xs h=>exact ⟨fun n=>if n<=len then ak H i k (n * es) else none,by simp [pf,bz],by simpa [bz] using h⟩
 obtain ⟨f,hf,hfn⟩:=hsrc
 have hnl:new.length=bz x * es:=by
   cases hx with
   | nil=>simp [bz]
   | «at» i k len cap ex xs h=>exact pq h
 generalize bz x=n at *
 unfold gv
 rw [if_neg (by rw [T.x]; simp),T.el,ay,hz,ay,T.sz,hf,ay]
 simp only [hfn,ay]
 rw [if_pos ⟨by rw [hzl,T.sz],hzn⟩]
 cases hs with
 | nil =>
   simp only
   split
   · rename_i h0
     have hn:new=[]:=dw.1 (by rw [hnl,h0,nr])
     subst hn
     exact ⟨_,_,rfl,.nil,by simp [oC,h0],ax _,fun _ _ _=>rfl⟩
   · simp only [oC,Nat.zero_add] at hg
     rw [if_pos hg]
     refine ⟨_,_,rfl,.at H.length 0 (n) (n) false new ([]++new) hb (by simp) (ax _) (by rw [hnl]; omega) ?_,by simp [bz],by simp,fun j hj _=>aq hj⟩
     simp only [ak]
     rw [show (H++[bo.cells new elem])[H.length]? =some (.cells new elem) by simp]
     simp only [List.nil_append]
     rw [if_pos (by omega),iu,bt (by omega)]
 | «at» i k len cap ex cs xs hbi hi hl hc h =>
   simp only [cg] at hg ⊢
   rw [if_pos trivial]
   split
   · rename_i h0
     have hn:new=[]:=dw.1 (by rw [hnl,h0,nr])
     subst hn
     exact ⟨_,_,rfl,by simpa using Own.at i k len cap ex cs xs hbi hi hl hc h,(by simp only [cg]; omega),ax _,fun _ _ _=>rfl⟩
   · rename_i hn0
     have hold:xs=(cs.drop k).take (len * es)/\k+len * es<=cs.length:=by
       simp only [ak,hi] at h
       split at h
       · rename_i hle; cases h; exact ⟨rfl,hle⟩
       · cases h
     split
     · rename_i hroom
       try rw [if_pos hone]
       have hmul:(len+n) * es<=cap * es:=Nat.mul_le_mul_right _ hroom
       have hadd:(len+n) * es=len * es+n * es:=d3 _ _ _
       have hfit:k+len * es+new.length<=cs.length:=by rw [hnl]; omega
       have hwr:bp H i (k+len * es) new=some (H.set i (.cells (spl cs (k+len * es) new) elem)):=by
         simp only [bp,hi]; rw [if_pos ⟨hfit,hone⟩]
       rw [hwr]
       have hil:=aJ hi
       refine ⟨_,_,rfl,.at i k (len+n) cap ex (spl cs (k+len * es) new) (xs++new) hbi (by simp [hil]) hroom (by rw [fP]; exact hc) ?_,rfl,by simp,fun j hj hne=>?_⟩
       · simp only [ak]
         rw [show (H.set i (.cells (spl cs (k+len * es) new) elem))[i]? =some (.cells (spl cs (k+len * es) new) elem) by simp [hil]]
         simp only
         rw [if_pos (by rw [fP]; omega),ib cs new _ hfit,hold.1]
         congr 1
         rw [aE,List.drop_append_of_le_length (by simp; omega),rG]
         have e:k+len * es - k=len * es:=by omega
         rw [e,<-aE,List.take_append_of_le_length (by simp [hnl]; omega)]
         apply bt
         simp [hnl]; omega
       · rw [aB (fun e=>hne i k len cap ex rfl e.symm)]
     · rename_i hroom
       have hgrown:∀ H1:AH,H1.length=H.length->∃ v H',((ak H i k (len * es)).bind fun old=>(put none H1 (.cells (old++new) elem)).map fun (j,H')=>(AV.slice j 0 es (len+n) (len+n) false,H'))=some (v,H') /\
           Own b H' es elem v (xs++new)/\bz v=len+n/\H'=H1++[.cells (xs++new) elem]:=by
         intro H1 hl1
         rw [h]
         refine ⟨_,_,rfl,.at H1.length 0 (len+n) (len+n) false (xs++new) (xs++new) (by omega) (by simp) (ax _) ?_ ?_,rfl,rfl⟩
         · rw [ai,pq h,hnl,d3]; omega
         · have hlen:(xs++new).length=(len+n) * es:=by rw [ai,pq h,hnl,d3]
           simp only [ak]
           rw [show (H1++[bo.cells (xs++new) elem])[H1.length]? =some (.cells (xs++new) elem) by simp]
           simp only
           rw [if_pos (by omega),iu,bt (by omega)]
       split
       · try rw [if_pos hg]
         obtain ⟨v,H',e,ho,hlv,rfl⟩:=hgrown H rfl
         exact ⟨v,_,e,ho,hlv,by simp,fun j hj _=>aq hj⟩
       · rw [hi]
         simp only
         rw [if_pos ⟨trivial,hone,hg⟩]
         obtain ⟨v,H',e,ho,hlv,rfl⟩:=hgrown (H.set i .dead) (by simp)
         refine ⟨v,_,e,ho,hlv,by simp,fun j hj hne=>?_⟩
         rw [aq (by simpa using hj),aB (fun e=>hne i k len cap ex rfl e.symm)]
theorem vQ (H L:AH) (o:bo):put none (H++L) o=some (H.length+L.length,H++(L++[o])):=by simp [put]
theorem lk (H L:AH) (n k m:Nat):ak (H++L) (H.length+n) k m=ak L n k m:=by
 unfold ak
 rw [aw (by omega),bE]
theorem gu (H L:AH) (k m:Nat):ak (H++L) H.length k m=ak L 0 k m:=lk H L 0 k m
theorem wA (H L:AH) (n k:Nat) (xs:List AV):bp (H++L) (H.length+n) k xs=(bp L n k xs).map (H++·):=by
 unfold bp
 rw [aw (by omega),bE]
 cases L[n]? with
 | none=>rfl
 | some o=>cases o with
   | cells cs e =>
     simp only
     split
     · rw [kQ _ _ (by omega),bE]; rfl
     · rfl
   | _=>rfl
theorem vJ (H L:AH) (k:Nat) (xs:List AV):bp (H++L) H.length k xs=(bp L 0 k xs).map (H++·):=wA H L 0 k xs
theorem PD:(false == true)=false:=rfl
theorem PC:(true == false)=false:=rfl
def AF:AV->Option Bool
 | .bool b=>some b
 | _=>none
theorem m3 (b:Bool):AF (.bool b)=some b:=rfl
def yv (d:Option Tmp) (tm:List AV):Option Bool:=(d.bind (tm[·]?)).bind AF
theorem n9 (ops:Array Oper) (tm:List AV) (j:Nat):cL ops tm j=yv ((ops[j]?).bind (·.dst)) tm:=by
 unfold cL yv
 cases ((ops[j]?).bind (·.dst)).bind (tm[·]?) with
 | none=>rfl
 | some v=>cases v <;> rfl
theorem vI (d:Tmp) (tm:List AV) (h:d < tm.length):yv (some d) tm=AF (tm.getD d uA):=by
 simp [yv,vH,h]
theorem sI (cs:List AV) (e:TypeId) (L:AH) (k m:Nat):ak (.cells cs e::L) 0 k m=if k+m<=cs.length then some ((cs.drop k).take m) else none:=rfl
theorem sH (o:bo) (L:AH) (n k m:Nat):ak (o::L) (n+1) k m=ak L n k m:=rfl
theorem sj (cs:List AV) (e:TypeId) (L:AH) (k:Nat) (xs:List AV):bp (.cells cs e::L) 0 k xs=if k+xs.length<=cs.length/\xs.all AV.one=true then some (.cells (spl cs k xs) e::L) else none:=rfl
theorem si (o:bo) (L:AH) (n k:Nat) (xs:List AV):bp (o::L) (n+1) k xs=(bp L n k xs).map (o::·):=by
 unfold bp
 rw [List.getElem?_cons_succ]
 cases L[n]? with
 | none=>rfl
 | some q=>cases q with
   | cells cs e=>simp only; split <;> rfl
   | _=>rfl
end
end Go.Dv
namespace Go.Dv
def aQ:List Bool->Code->Code
 | [],c=>c
 | false::p,.seq a _=>aQ p a
 | true::p,.seq _ b=>aQ p b
 | false::p,.cond _ a _=>aQ p a
 | true::p,.cond _ _ b=>aQ p b
 | _::p,.block _ a=>aQ p a
 | _::p,.loop a=>aQ p a
 | _,c=>c
section
variable {P:Program} {C:Cfg P} {W:o6 P} {pl:Nat->Option Way}
theorem fK (call:bT) (base:Nat) (ops:Array Oper) (s:St):bU P C call base ops .done s=some s:=by simp only [bU]
def Dc (P:Program) (gl:GL) (ops:Array Oper) (o:Oper) (tm:List AV):Option AV:=if Region.wanted o (cL ops tm) then cB P (cz gl tm) o else some uA
theorem fI (call:bT) (base:Nat) (ops:Array Oper) (i:Nat) (p:dM) (tm:List AV) (H:AH):bU P C call base ops (.take i p) (tm,H)=(ops[i]?).bind fun o=>(Dc P C.gl ops o tm).bind fun v=>bU P C call base ops p (dY o.dst v tm,H):=by
 simp only [bU]
 cases ops[i]? <;> rfl
theorem gP (call:bT) (base:Nat) (ops:Array Oper) (l:List (Nat × dM)) (s:St):bU P C call base ops (.all l) s=er P C call base ops l s none:=by simp only [bU]
theorem Eg (call:bT) (slot:Option Nat) (ops:Array Oper) (i:Nat) (s:St):jF P C call slot ops i s=match ops[i]? with
   | none=>some s
   | some o=>uQ P C call slot ops o s:=by
 rw [sr]
 cases ops[i]? <;> rfl
noncomputable def PO (P:Program) (gl:GL) (ops:Array Oper) (o:Oper) (tm:List AV) (H:AH):Option AV:=if Region.wanted o (cL ops tm) then eY P (cz gl tm) o H else some uA
theorem jG (call:bT) (base:Nat) (ops:Array Oper) (i:Nat) (p:dM) (tm:List AV) (H:AH):bU P C call base ops (.rd i p) (tm,H)=(ops[i]?).bind fun o=>(PO P C.gl ops o tm H).bind fun v=>bU P C call base ops p (dY o.dst v tm,H):=by
 simp only [bU]
 cases ops[i]? <;> rfl
theorem dj (gl:GL) (ops:Array Oper) (dst:Option Tmp) (op:Op) (ty:TypeId) (pos:String) (after:Array Edge) (tm:List AV) (H:AH):PO P gl ops ⟨dst,op,ty,pos,after,none⟩ tm H=eY P (cz gl tm) ⟨dst,op,ty,pos,after,none⟩ H:=rfl
theorem fJ (call:bT) (base:Nat) (ops:Array Oper) (p q:dM) (s:St):bU P C call base ops (.join p q) s=(bU P C call base ops p s).bind fun t=>bU P C call base ops q t:=by simp only [bU]
theorem gQ (call:bT) (base:Nat) (ops:Array Oper) (s:St) (r:Option St):er P C call base ops [] s r=r:=by simp only [er]
theorem ez (call:bT) (base:Nat) (ops:Array Oper) (i:Nat) (p:dM) (l:List (Nat × dM)) (s:St):er P C call base ops ((i,p)::l) s none=(match ops[i]? with
   | none=>some s
   | some o=>uQ P C call (some (base+i)) ops o s).bind fun s'=>(bU P C call base ops p s').bind fun t=>er P C call base ops l s (some t):=by
 simp only [er,Eg]
theorem fL (call:bT) (base:Nat) (ops:Array Oper) (i:Nat) (p:dM) (l:List (Nat × dM)) (s t0:St):er P C call base ops ((i,p)::l) s (some t0)=(match ops[i]? with
   | none=>some s
   | some o=>uQ P C call (some (base+i)) ops o s).bind fun s'=>(bU P C call base ops p s').bind fun t=>if pe t0 t=true then er P C call base ops l s (some t0) else none:=by
 simp only [er,Eg]
theorem cF (ops:Array Oper) (dst:Option Tmp) (op:Op) (ty:TypeId) (pos:String) (after:Array Edge) (tm:List AV):Dc P C.gl ops ⟨dst,op,ty,pos,after,none⟩ tm=cB P (cz C.gl tm) ⟨dst,op,ty,pos,after,none⟩:=rfl
section
variable (ev:Operand->Option AV) (dst:Option Tmp) (ty:TypeId) (pos:String) (after:Array Edge) (g:Option (Nat × Bool))
theorem gR (x:Operand):cB P ev ⟨dst,.move x,ty,pos,after,g⟩=ev x:=rfl
theorem eA (x:Operand):cB P ev ⟨dst,.assign x,ty,pos,after,g⟩=ev x:=rfl
theorem Rp (c a b:Operand):cB P ev ⟨dst,.pick c a b,ty,pos,after,g⟩=(ev c).bind fun cv=>match cv with
   | .bool true=>ev a
   | .bool false=>ev b
   | _=>none:=rfl
theorem Ny (op:BinOp) (t yt:TypeId) (x y:Operand):cB P ev ⟨dst,.binOp op t x y yt,ty,pos,after,g⟩=(ev x).bind fun xv=>(ev y).bind fun yv =>
   match xv,yv with
   | .int k a,.int k' b=>match (if k=k' then eV op k a b else none) with
     | some v=>some v
     | none=>(cM P ev ⟨dst,.binOp op t x y yt,ty,pos,after,g⟩).bind fun n=>match n with | .val v=>some v | _=>none
   | _,_=>match op,DN P t xv yv with
     | .eql,some r=>some (.bool r)
     | .neq,some r=>some (.bool (!r))
     | _,_=>(cM P ev ⟨dst,.binOp op t x y yt,ty,pos,after,g⟩).bind fun n=>match n with | .val v=>some v | _=>none:=rfl
theorem fM (t:TypeId) (x:Operand) (f:Nat):cB P ev ⟨dst,.field t x f,ty,pos,after,g⟩=(ev x).bind fun xv=>pH P t xv f:=rfl
theorem cH (t:TypeId) (x:Operand) (f:Nat):cB P ev ⟨dst,.fieldAddr t x f,ty,pos,after,g⟩=(ev x).bind fun xv=>aN P t xv f:=rfl
theorem cG (t:TypeId) (x i:Operand):cB P ev ⟨dst,.indexAddr t x i,ty,pos,after,g⟩=(ev x).bind fun xv=>(ev i).bind fun iv=>aG P t xv iv:=rfl
theorem dk (x:Operand):cB P ev ⟨dst,.nilCheck x,ty,pos,after,g⟩=(ev x).bind iW:=rfl
end
theorem oq {fn:Func} {a:Tmp} {t:TypeId} (h:fn.results.toList=[.cell a t]) (tm:List AV) (H:AH):nB P fn (tm,H)=match tm.getD a uA with
   | .ptr i k=>(ldA P t H i k).map fun v=>(v,H)
   | _=>none:=by
 unfold nB
 rw [h]
 cases hg:tm.getD a uA with
 | ptr i k =>
   simp only [jm,hg]
   cases ldA P t H i k <;> rfl
 | _=>simp only [jm,hg] <;> rfl
def P8 (x:AV):AV:=x
theorem eC (x:AV):P8 x=x:=rfl
theorem dJ {l:List AV} {i j:Nat} {a b:AV} (h:j < i):(l.set i a).set j b=(l.set j (P8 b)).set i a:=List.set_comm _ _ (by omega)
theorem eB (n:Nat) (x:bo) (L:AH) (o:bo):put (some n) (x::L) o=match (x::L)[n]? with
   | some .fresh=>some (n,(x::L).set n o)
   | _=>none:=rfl
theorem cd (H L:AH) (n:Nat) (o:bo):put (some (H.length+n)) (H++L) o=(put (some n) L o).map fun r=>(H.length+r.1,H++r.2):=by
 unfold put
 simp only
 rw [aw (by omega),bE]
 cases L[n]? with
 | none=>rfl
 | some o'=>cases o' with
   | fresh =>
     simp only [cE]
     rw [kQ _ _ (by omega),bE]
   | _=>rfl
theorem ot (gl:GL) (ops:Array Oper) (s:St):jj P gl ops [] s=some s:=rfl
theorem mC (gl:GL) (ops:Array Oper) (dst:Option Tmp) (op:Op) (ty:TypeId) (pos:String) (after:Array Edge) (os:List Oper) (tm:List AV) (H:AH):jj P gl ops (⟨dst,op,ty,pos,after,none⟩::os) (tm,H)=(eY P (cz gl tm) ⟨dst,op,ty,pos,after,none⟩ H).bind fun v=>jj P gl ops os (dY dst v tm,H):=rfl
section
variable (ev:Operand->Option AV) (dst:Option Tmp) (ty:TypeId) (pos:String) (after:Array Edge) (g:Option (Nat × Bool)) (H:AH)
theorem vP (t:TypeId) (a:Operand):eY P ev ⟨dst,.load t a,ty,pos,after,g⟩ H=(ev a).bind fun av=>match av with
   | .ptr i k=>ldA P t H i k
   | _=>none:=rfl
theorem ql (t:TypeId) (m k:Operand) (ok:Bool):eY P ev ⟨dst,.lookup t m k ok,ty,pos,after,g⟩ H=(ev m).bind fun mv=>(ev k).bind fun kv=>ig P t mv kv ok H:=rfl
theorem sD (t:TypeId) (x:Operand) (lo hi mx:Option Operand):eY P ev ⟨dst,.slice t x lo hi mx,ty,pos,after,g⟩ H=(ev x).bind fun xv=>(evO ev lo).bind fun l=>(evO ev hi).bind fun h=>(evO ev mx).bind fun m=>jR P t H xv l h m:=rfl
theorem jV (x:Operand) (t:TypeId):eY P ev ⟨dst,.call ⟨.builtin .len,#[x],#[t]⟩,ty,pos,after,g⟩ H=(ev x).bind fun v=>dR P t H v:=by
 simp only [eY,evL]; cases ev x <;> rfl
theorem vO (x:Operand):eY P ev ⟨dst,.move x,ty,pos,after,g⟩ H=ev x:=rfl
theorem qm (x:Operand):eY P ev ⟨dst,.assign x,ty,pos,after,g⟩ H=ev x:=rfl
theorem sG (op:BinOp) (t yt:TypeId) (x y:Operand):eY P ev ⟨dst,.binOp op t x y yt,ty,pos,after,g⟩ H=cB P ev ⟨dst,.binOp op t x y yt,ty,pos,after,g⟩:=rfl
theorem vN (op:UnOp) (t:TypeId) (x:Operand):eY P ev ⟨dst,.unOp op t x,ty,pos,after,g⟩ H=cB P ev ⟨dst,.unOp op t x,ty,pos,after,g⟩:=rfl
theorem ov (t u:TypeId) (x:Operand):eY P ev ⟨dst,.convert t u x,ty,pos,after,g⟩ H=cB P ev ⟨dst,.convert t u x,ty,pos,after,g⟩:=rfl
theorem sF (t:TypeId) (x:Operand) (f:Nat):eY P ev ⟨dst,.field t x f,ty,pos,after,g⟩ H=(ev x).bind fun xv=>pH P t xv f:=rfl
theorem lN (t:TypeId) (x:Operand) (f:Nat):eY P ev ⟨dst,.fieldAddr t x f,ty,pos,after,g⟩ H=(ev x).bind fun xv=>aN P t xv f:=rfl
theorem lM (t:TypeId) (x i:Operand):eY P ev ⟨dst,.indexAddr t x i,ty,pos,after,g⟩ H=(ev x).bind fun xv=>(ev i).bind fun iv=>aG P t xv iv:=rfl
theorem mF (x:Operand):eY P ev ⟨dst,.nilCheck x,ty,pos,after,g⟩ H=(ev x).bind iW:=rfl
theorem ou (t:Operand) (ix:Nat):eY P ev ⟨dst,.extract t ix,ty,pos,after,g⟩ H=(ev t).bind fun tv=>match tv with
   | .tuple vs=>vs[ix]?
   | _=>none:=rfl
end
theorem dK (ev:Operand->Option AV) (dst:Option Tmp) (ty:TypeId) (pos:String) (after:Array Edge) (g:Option (Nat × Bool)) (t:Operand) (ix:Nat):cB P ev ⟨dst,.extract t ix,ty,pos,after,g⟩=(ev t).bind fun tv=>match tv with
   | .tuple vs=>vs[ix]?
   | _=>none:=rfl
section
variable (call:bT)
theorem oM (ops:Array Oper) (s:St):gE P C call ops [] s=some s:=rfl
theorem mZ (ops:Array Oper) (dst:Option Tmp) (op:Op) (ty:TypeId) (pos:String) (after:Array Edge) (os:List Oper) (tm:List AV) (H:AH):gE P C call ops (⟨dst,op,ty,pos,after,none⟩::os) (tm,H)=(gz P C call (cz C.gl tm) ⟨dst,op,ty,pos,after,none⟩ H).bind fun v=>gE P C call ops os (dY dst v tm,H):=rfl
section
variable (ev:Operand->Option AV) (dst:Option Tmp) (ty:TypeId) (pos:String) (after:Array Edge) (g:Option (Nat × Bool)) (H:AH)
theorem vX (t:TypeId) (a:Operand):gz P C call ev ⟨dst,.load t a,ty,pos,after,g⟩ H=eY P ev ⟨dst,.load t a,ty,pos,after,g⟩ H:=rfl
theorem qA (t:TypeId) (m k:Operand) (ok:Bool):gz P C call ev ⟨dst,.lookup t m k ok,ty,pos,after,g⟩ H=eY P ev ⟨dst,.lookup t m k ok,ty,pos,after,g⟩ H:=rfl
theorem tg (t:TypeId) (x:Operand) (lo hi mx:Option Operand):gz P C call ev ⟨dst,.slice t x lo hi mx,ty,pos,after,g⟩ H=eY P ev ⟨dst,.slice t x lo hi mx,ty,pos,after,g⟩ H:=rfl
theorem oL (b:Builtin) (xs:Array Operand) (ts:Array TypeId):gz P C call ev ⟨dst,.call ⟨.builtin b,xs,ts⟩,ty,pos,after,g⟩ H=eY P ev ⟨dst,.call ⟨.builtin b,xs,ts⟩,ty,pos,after,g⟩ H:=rfl
theorem vW (x:Operand):gz P C call ev ⟨dst,.move x,ty,pos,after,g⟩ H=ev x:=rfl
theorem qB (x:Operand):gz P C call ev ⟨dst,.assign x,ty,pos,after,g⟩ H=ev x:=rfl
theorem tk (op:BinOp) (t yt:TypeId) (x y:Operand):gz P C call ev ⟨dst,.binOp op t x y yt,ty,pos,after,g⟩ H=cB P ev ⟨dst,.binOp op t x y yt,ty,pos,after,g⟩:=rfl
theorem vV (op:UnOp) (t:TypeId) (x:Operand):gz P C call ev ⟨dst,.unOp op t x,ty,pos,after,g⟩ H=cB P ev ⟨dst,.unOp op t x,ty,pos,after,g⟩:=rfl
theorem oK (t u:TypeId) (x:Operand):gz P C call ev ⟨dst,.convert t u x,ty,pos,after,g⟩ H=cB P ev ⟨dst,.convert t u x,ty,pos,after,g⟩:=rfl
theorem tj (t:TypeId) (x:Operand) (f:Nat):gz P C call ev ⟨dst,.field t x f,ty,pos,after,g⟩ H=(ev x).bind fun xv=>pH P t xv f:=rfl
theorem lT (t:TypeId) (x:Operand) (f:Nat):gz P C call ev ⟨dst,.fieldAddr t x f,ty,pos,after,g⟩ H=(ev x).bind fun xv=>aN P t xv f:=rfl
theorem lS (t:TypeId) (x i:Operand):gz P C call ev ⟨dst,.indexAddr t x i,ty,pos,after,g⟩ H=(ev x).bind fun xv=>(ev i).bind fun iv=>aG P t xv iv:=rfl
theorem mY (x:Operand):gz P C call ev ⟨dst,.nilCheck x,ty,pos,after,g⟩ H=(ev x).bind iW:=rfl
theorem oJ (t:Operand) (ix:Nat):gz P C call ev ⟨dst,.extract t ix,ty,pos,after,g⟩ H=(ev t).bind fun tv=>match tv with
   | .tuple vs=>vs[ix]?
   | _=>none:=rfl
theorem vY (x:Operand) (xs:Array Operand) (ts:Array TypeId):gz P C call ev ⟨dst,.call ⟨.value x,xs,ts⟩,ty,pos,after,g⟩ H=(fN P C none ev ⟨dst,.call ⟨.value x,xs,ts⟩,ty,pos,after,g⟩ ⟨.value x,xs,ts⟩ H).bind fun r=>match r with
   | (.enter f args,_)=>if C.reads f then (call f args H).map (·.1) else none
   | _=>none:=rfl
end
end
theorem mV {id k:Nat} {ops:Array Oper} (h:pl id=some (.tail k)) (s:St):EvC P C W pl (.region id ops true) s=(jj P C.gl ops (ops.toList.take k) s).bind fun s1=>(A5 P C (Ev P C W) ops (ops.toList.drop k) s1).bind fun s'=>some (.normal,s'):=by
 rw [MB h]
 congr 1; funext s1
 congr 1
 have:=zS (P:=P) (C:=C) (Ev P C W) ops (ops.toList.drop k) k s1 (fun i o h=>by
   rw [List.getElem?_drop] at h; simpa using h)
 rw [<-this]
 congr 1
 rw [List.range'_eq_map_range]
end
end Go.Dv
