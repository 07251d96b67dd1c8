/- Part 08 of the walks (own work). -/
import Derived.Test.YtilpjnckfkjkbaaGreatDoorT07
open List renaming append_assoc→aG,drop_take→rX,drop_zero→gA,getD→vZ,getElem?_append_left→aw,getElem?_append_right→al,getElem?_set_ne→aB,length_append→ai,length_cons→cF,length_eq_zero_iff→dA,set_append_right→k7,take_of_length_le→bq
open Nat renaming add_mul→ey,add_sub_cancel_left→aS,le_refl→ax,min_eq_left→rV,zero_mul→nK
open Option renaming bind_some→aA,map_some→cE
open Option.some renaming injEq→aT
set_option maxRecDepth 100000
set_option maxHeartbeats 4000000
set_option linter.unusedSimpArgs false
set_option linter.unusedVariables false
namespace Go.Dv
theorem dv (tm:List AV) (i:Nat) (v d:AV) (h:i < tm.length):(tm.set i v).getD i d=v:=by simp [vZ,h]
theorem zX (tm:List AV) (i j:Nat) (v d:AV) (h:i≠j):(tm.set i v).getD j d=tm.getD j d:=by simp [vZ,aB h]
abbrev I (n:Int):AV:=.int .i64 n
theorem pG {H:AH} {i k n:Nat} {xs:List AV} (h:ak H i k n=some xs):xs.length=n:=by
 unfold ak at h
 split at h
 · split at h
   · cases h; simp; omega
   · cases h
 · split at h
   · cases h; simp; omega
   · cases h
 · cases h
theorem AL {H:AH} {i k n:Nat} {xs:List AV} (h:ak H i k n=some xs) (j m:Nat) (hj:j+m<=n):ak H i (k+j) m=some ((xs.drop j).take m):=by
 have key:∀ cs:List AV,k+n<=cs.length->(if k+j+m<=cs.length then some ((cs.drop (k+j)).take m) else none)=some ((((cs.drop k).take n).drop j).take m):=fun cs hc=>by
   rw [if_pos (by omega)]
   congr 1
   rw [rX,List.take_take,List.drop_drop,rV (by omega)]
 unfold ak at h ⊢
 split at h
 · rename_i cs e hi
   split at h
   · rename_i hc; cases h; exact key cs hc
   · cases h
 · rename_i cs hi
   split at h
   · rename_i hc; cases h; exact key cs hc
   · cases h
 · cases h
theorem Q0 {H:AH} {i k n:Nat} {xs:List AV} (h:ak H i k n=some xs):i < H.length:=by
 unfold ak at h
 split at h
 · exact aJ ‹_›
 · exact aJ ‹_›
 · cases h
inductive Row (H:AH) (es:Nat):AV->List AV->Prop where
 | nil:Row H es .nilSlice []
 | at (i k len cap:Nat) (ex:Bool) (xs:List AV) (h:ak H i k (len * es)=some xs):Row H es (.slice i k es len cap ex) xs
section
variable {P:Program}
theorem BW {t:TypeId} (ht:P.underlying t=some .string) {ev:Operand->Option AV} {x i:Operand} {s:ByteArray} {k:IntKind} {j:Nat} (hx:ev x=some (.str s)) (hi:ev i=some (.int k j)) (hj:j < s.size)
   (dst:Option Tmp) (ty:TypeId) (pos:String) (after:Array Edge) (g:Option (Nat × Bool)):cZ P ev ⟨dst,.index t x i,ty,pos,after,g⟩=some (.val (.int .u8 (s[j]'hj).toNat)):=by
 have hg:s[j]? =some (s[j]'hj):=getElem?_pos s j hj
 simp [cZ,notSelect,Op.operands,hx,hi,toV,execOp,kh,gv,Instr.index,asIntOf,underlying,program,ht,m5,bind,Sem.bind,pure,hg]
theorem rG {t u:TypeId} {k':IntKind} {dt:TypeDesc} (ht:P.underlying t=some dt) (hu:P.underlying u=some (.int k')) {ev:Operand->Option AV} {x:Operand} {k:IntKind} {n:Int} (hx:ev x=some (.int k n))
   (dst:Option Tmp) (ty:TypeId) (pos:String) (after:Array Edge) (g:Option (Nat × Bool)):cZ P ev ⟨dst,.convert t u x,ty,pos,after,g⟩=some (.val (.int k' (k'.wrap n))):=by
 simp [cZ,notSelect,Op.operands,hx,toV,execOp,kh,gv,convert,underlying,program,ht,hu,m5,bind,Sem.bind,pure,Conv.intToInt]
theorem zD {ev:Operand->Option AV} {t:TypeId} {x:Operand} {b:Bool} (hx:ev x=some (.bool b))
   (dst:Option Tmp) (ty:TypeId) (pos:String) (after:Array Edge) (g:Option (Nat × Bool)):cZ P ev ⟨dst,.unOp .not t x,ty,pos,after,g⟩=some (.val (.bool !b)):=by
 simp [cZ,notSelect,Op.operands,hx,toV,execOp,kh,gv,Op.unary,pL,bind,Sem.bind,pure]
end
theorem Ij {P:Program} {C:Cfg P} (slot:Option Nat) (ev:Operand->Option AV) (dst:Option Tmp) (ty:TypeId) (pos:String) (after:Array Edge) (g:Option (Nat × Bool)) (H:AH) (t:TypeId) (x i:Operand) :
   aop P C slot ev ⟨dst,.index t x i,ty,pos,after,g⟩ H=(cZ P ev ⟨dst,.index t x i,ty,pos,after,g⟩).map fun n=>(n,H):=rfl
theorem Dm {P:Program} {C:Cfg P} (slot:Option Nat) (ev:Operand->Option AV) (dst:Option Tmp) (ty:TypeId) (pos:String) (after:Array Edge) (g:Option (Nat × Bool)) (H:AH) (t u:TypeId) (x:Operand) :
   aop P C slot ev ⟨dst,.convert t u x,ty,pos,after,g⟩ H=match cZ P ev ⟨dst,.convert t u x,ty,pos,after,g⟩ with
     | some n=>some (n,H)
     | none=>(ev x).bind fun v=>(G6 P H t u v).map fun s=>(.val (.str s),H):=rfl
theorem Nk {P:Program} {C:Cfg P} (slot:Option Nat) (ev:Operand->Option AV) (dst:Option Tmp) (ty:TypeId) (pos:String) (after:Array Edge) (g:Option (Nat × Bool)) (H:AH) (op:UnOp) (t:TypeId) (x:Operand) :
   aop P C slot ev ⟨dst,.unOp op t x,ty,pos,after,g⟩ H=(cZ P ev ⟨dst,.unOp op t x,ty,pos,after,g⟩).map fun n=>(n,H):=rfl
def jP (s:ByteArray) (j:Int):Int:=((s.data.toList.getD j.toNat 0).toNat:Int)
theorem jc {P:Program} {ev:Operand->Option AV} {o:Oper} {x:Operand} (hx:x∈o.op.operands) (hn:ev x=none):cZ P ev o=none:=by
 unfold cZ
 rw [if_neg]
 simp only [Bool.and_eq_true,List.all_eq_true,not_and]
 intro _ h
 have:=h x (by simpa using hx)
 rw [hn] at this; cases this
theorem fL {P:Program} {C:Cfg P} {t:TypeId} (ht:P.underlying t=some .string) (slot:Option Nat) (ev:Operand->Option AV) (dst:Option Tmp) (ty:TypeId) (pos:String) (after:Array Edge) (g:Option (Nat × Bool)) (H:AH) (x i:Operand) :
   aop P C slot ev ⟨dst,.index t x i,ty,pos,after,g⟩ H=(ev x).bind fun xv=>(ev i).bind fun iv=>match xv,iv with
     | .str s,.int k j=>if 0<=j/\j < s.size then some (.val (.int .u8 (jP s j)),H) else (cZ P ev ⟨dst,.index t x i,ty,pos,after,g⟩).map fun n=>(n,H)
     | _,_=>(cZ P ev ⟨dst,.index t x i,ty,pos,after,g⟩).map fun n=>(n,H):=by
 rw [Ij]
 cases hx:ev x with
 | none=>rw [jc (x:=x) (by simp [Op.operands]) hx]; rfl
 | some xv=>cases hi:ev i with
   | none=>rw [jc (x:=i) (by simp [Op.operands]) hi]; rfl
   | some iv =>
     simp only [aA]
     split
     · rename_i s k j
       split
       · rename_i hj
         have hj':j.toNat < s.size:=by omega
         have e:j=(j.toNat:Int):=by omega
         rw [e] at hi
         rw [BW ht hx hi hj']
         have hb:jP s j=(s[j.toNat]'hj').toNat:=by
           unfold jP
           congr 2
           have:s.data.toList[j.toNat]? =some (s[j.toNat]'hj'):=by
             rw [Array.getElem?_toList]; exact Array.getElem?_eq_getElem hj'
           simp [vZ,this]
         rw [hb]; rfl
       · rfl
     · rfl
theorem Dn {P:Program} {C:Cfg P} {t u:TypeId} {dt:TypeDesc} {k':IntKind} (ht:P.underlying t=some dt) (hu:P.underlying u=some (.int k')) (slot:Option Nat) (ev:Operand->Option AV) (dst:Option Tmp) (ty:TypeId) (pos:String) (after:Array Edge) (g:Option (Nat × Bool)) (H:AH) (x:Operand) :
   aop P C slot ev ⟨dst,.convert t u x,ty,pos,after,g⟩ H=(ev x).bind fun xv=>match xv with
     | .int _ n=>some (.val (.int k' (k'.wrap n)),H)
     | _=>(cZ P ev ⟨dst,.convert t u x,ty,pos,after,g⟩).map fun n=>(n,H):=by
 rw [Dm]
 cases hx:ev x with
 | none=>rw [jc (x:=x) (by simp [Op.operands]) hx]; rfl
 | some xv =>
   simp only [aA]
   have hn:G6 P H t u xv=none:=by
     unfold G6
     rw [hu]
     split
     · rename_i h; cases h
     · rfl
   rw [hn]
   cases xv
   case int k n=>rw [rG ht hu hx]
   all_goals (cases cZ P ev ⟨dst,.convert t u x,ty,pos,after,g⟩ <;> rfl)
theorem wR {P:Program} {C:Cfg P} (slot:Option Nat) (ev:Operand->Option AV) (dst:Option Tmp) (ty:TypeId) (pos:String) (after:Array Edge) (g:Option (Nat × Bool)) (H:AH) (t:TypeId) (x:Operand) :
   aop P C slot ev ⟨dst,.unOp .not t x,ty,pos,after,g⟩ H=(ev x).bind fun xv=>match xv with
     | .bool b=>some (.val (.bool !b),H)
     | _=>(cZ P ev ⟨dst,.unOp .not t x,ty,pos,after,g⟩).map fun n=>(n,H):=by
 rw [Nk]
 cases hx:ev x with
 | none=>rw [jc (x:=x) (by simp [Op.operands]) hx]; rfl
 | some xv =>
   simp only [aA]
   split
   · rw [zD hx]; rfl
   · rfl
theorem aF {α β:Type} {x y:Option α} (f:α->Option β) (h:x=y):x.bind f=y.bind f:=by rw [h]
end Go.Dv
namespace Go.Dv
section
variable {P:Program} {C:Cfg P} {W:ph P} {pl:Nat->Option Way}
theorem Zk {f:Nat} (h:(P.funcs[f]?).map (fun fn=>fn.body.isSome)=some true) (slot:Option Nat) (ev:Operand->Option AV) (H:AH) (o:Oper) (xs:Array Operand) (ats:Array TypeId)
   (he:ev (.func f)=some (.func (.func f) [] [])):fZ P C slot ev o ⟨.value (.func f),xs,ats⟩ H=(evL ev xs.toList).map fun as=>(.enter f as,H):=by
 simp only [fZ,he,aA]
 cases hf:P.funcs[f]? with
 | none=>rw [hf] at h; cases h
 | some fn =>
   rw [hf] at h
   simp only [cE,aT] at h
   cases evL ev xs.toList with
   | none=>rfl
   | some as=>simp [h]
inductive Own (b:Nat) (H:AH) (es:Nat) (elem:TypeId):AV->List AV->Prop where
 | nil:Own b H es elem .nilSlice []
 | at (i k len cap:Nat) (ex:Bool) (cs xs:List AV) (hb:b<=i) (hi:H[i]? =some (.cells cs elem)) (hl:len<=cap) (hc:k+cap * es<=cs.length) (h:ak H i k (len * es)=some xs) :
     Own b H es elem (.slice i k es len cap ex) xs
def bA:AV->Nat
 | .slice _ _ _ len _ _=>len
 | _=>0
theorem cj (i k es len cap:Nat) (ex:Bool):bA (.slice i k es len cap ex)=len:=rfl
theorem oL:bA .nilSlice=0:=rfl
theorem Own.length {b:Nat} {H:AH} {es:Nat} {elem:TypeId} {v:AV} {xs:List AV} (h:Own b H es elem v xs):xs.length=bA v * es:=by
 cases h with
 | nil=>simp [bA]
 | «at» i k len cap ex cs xs hb hi hl hc h=>exact pG h
theorem Own.other {b:Nat} {H H':AH} {es:Nat} {elem:TypeId} {v:AV} {xs:List AV} (h:Own b H es elem v xs) (hk:∀ i k es len cap ex,v=.slice i k es len cap ex->H'[i]? =H[i]?):Own b H' es elem v xs:=by
 cases h with
 | nil=>exact .nil
 | «at» i k len cap ex cs xs hb hi hl hc h =>
   have e:=hk i k es len cap ex rfl
   exact .at i k len cap ex cs xs hb (e.trans hi) hl hc (by unfold ak at h ⊢; rw [e]; exact h)
theorem iy (cs:List AV):∀ (vs:List AV) (k:Nat),k+vs.length<=cs.length->spl cs k vs=cs.take k++vs++cs.drop (k+vs.length):=by
 intro vs
 induction vs generalizing cs with
 | nil=>intro k h; simp [spl]
 | cons v vs ih =>
   intro k h
   simp only [cF] at h
   rw [spl,ih (cs.set k v) (k+1) (by simp; omega)]
   have hk:k < cs.length:=by omega
   have e1:(cs.set k v).take (k+1)=cs.take k++[v]:=by
     rw [List.set_eq_take_append_cons_drop,if_pos hk,List.take_append,List.length_take,rV (Nat.le_of_lt hk),bq (by simp; omega),show k+1 - k=1 by omega]
     rfl
   have e2:(cs.set k v).drop (k+1+vs.length)=cs.drop (k+1+vs.length):=List.drop_set_of_lt (by omega)
   rw [e1,e2,cF,show k+(vs.length+1)=k+1+vs.length by omega]
   simp
structure pj (P:Program) (sT:TypeId) (xT:Option TypeId) (elem:TypeId) (es:Nat):Prop where
 el:fW P sT=some elem
 z:∃ z,dP P elem=some z/\z.cells.length=P.cellsOf elem/\z.cells≠[]
 sz:P.cellsOf elem=es
 x:rY P xT=false
theorem sw {sT elem:TypeId} {xT:Option TypeId} {es:Nat} (T:pj P sT xT elem es) {b:Nat} {H:AH} {s:AV} {xs:List AV} (hs:Own b H es elem s xs) (hb:b<=H.length) {x:AV} {new:List AV} (hx:Row H es x new)
   (hone:new.all AV.one=true) (hg:fT (P.bytesOf elem) (bA s+bA x)=true) :
   ∃ v H',f0 P none sT xT s x H=some (v,H')/\Own b H' es elem v (xs++new)/\bA v=bA s+bA x/\H.length<=H'.length/\(∀ j,j < H.length->(∀ i k len cap ex,s=.slice i k es len cap ex->j≠i)->H'[j]? =H[j]?):=by
 obtain ⟨z,hz,hzl,hzn⟩:=T.z
 have hsrc:∃ f,pz H es x=some (bA x,f)/\f (bA x)=some new:=by
   cases hx with
   | nil=>exact ⟨_,rfl,rfl⟩
   | «at» i k len cap ex xs h=>exact ⟨fun n=>if n<=len then ak H i k (n * es) else none,by simp [pz,bA],by simpa [bA] using h⟩
 obtain ⟨f,hf,hfn⟩:=hsrc
 have hnl:new.length=bA x * es:=by
   cases hx with
   | nil=>simp [bA]
   | «at» i k len cap ex xs h=>exact pG h
 generalize bA x=n at *
 unfold f0
 rw [if_neg (by rw [T.x]; simp),T.el,aA,hz,aA,T.sz,hf,aA]
 simp only [hfn,aA]
 rw [if_pos ⟨by rw [hzl,T.sz],hzn⟩]
 cases hs with
 | nil =>
   simp only
   split
   · rename_i h0
     have hn:new=[]:=dA.1 (by rw [hnl,h0,nK])
     subst hn
     exact ⟨_,_,rfl,.nil,by simp [oL,h0],ax _,fun _ _ _=>rfl⟩
   · simp only [oL,Nat.zero_add] at hg
     rw [if_pos hg]
     refine ⟨_,_,rfl,.at H.length 0 (n) (n) false new ([]++new) hb (by simp) (ax _) (by rw [hnl]; omega) ?_,by simp [bA],by simp,fun j hj _=>aw hj⟩
     simp only [ak]
     rw [show (H++[bl.cells new elem])[H.length]? =some (.cells new elem) by simp]
     simp only [List.nil_append]
     rw [if_pos (by omega),gA,bq (by omega)]
 | «at» i k len cap ex cs xs hbi hi hl hc h =>
   simp only [cj] at hg ⊢
   rw [if_pos trivial]
   split
   · rename_i h0
     have hn:new=[]:=dA.1 (by rw [hnl,h0,nK])
     subst hn
     exact ⟨_,_,rfl,by simpa using Own.at i k len cap ex cs xs hbi hi hl hc h,(by simp only [cj]; omega),ax _,fun _ _ _=>rfl⟩
   · rename_i hn0
     have hold:xs=(cs.drop k).take (len * es)/\k+len * es<=cs.length:=by
       simp only [ak,hi] at h
       split at h
       · rename_i hle; cases h; exact ⟨rfl,hle⟩
       · cases h
     split
     · rename_i hroom
       try rw [if_pos hone]
       have hmul:(len+n) * es<=cap * es:=Nat.mul_le_mul_right _ hroom
       have hadd:(len+n) * es=len * es+n * es:=ey _ _ _
       have hfit:k+len * es+new.length<=cs.length:=by rw [hnl]; omega
       have hwr:bh H i (k+len * es) new=some (H.set i (.cells (spl cs (k+len * es) new) elem)):=by
         simp only [bh,hi]; rw [if_pos ⟨hfit,hone⟩]
       rw [hwr]
       have hil:=aJ hi
       refine ⟨_,_,rfl,.at i k (len+n) cap ex (spl cs (k+len * es) new) (xs++new) hbi (by simp [hil]) hroom (by rw [gg]; exact hc) ?_,rfl,by simp,fun j hj hne=>?_⟩
       · simp only [ak]
         rw [show (H.set i (.cells (spl cs (k+len * es) new) elem))[i]? =some (.cells (spl cs (k+len * es) new) elem) by simp [hil]]
         simp only
         rw [if_pos (by rw [gg]; omega),iy cs new _ hfit,hold.1]
         congr 1
         rw [aG,List.drop_append_of_le_length (by simp; omega),rX]
         have e:k+len * es - k=len * es:=by omega
         rw [e,<-aG,List.take_append_of_le_length (by simp [hnl]; omega)]
         apply bq
         simp [hnl]; omega
       · rw [aB (fun e=>hne i k len cap ex rfl e.symm)]
     · rename_i hroom
       have hgrown:∀ H1:AH,H1.length=H.length->∃ v H',((ak H i k (len * es)).bind fun old=>(put none H1 (.cells (old++new) elem)).map fun (j,H')=>(AV.slice j 0 es (len+n) (len+n) false,H'))=some (v,H') /\
           Own b H' es elem v (xs++new)/\bA v=len+n/\H'=H1++[.cells (xs++new) elem]:=by
         intro H1 hl1
         rw [h]
         refine ⟨_,_,rfl,.at H1.length 0 (len+n) (len+n) false (xs++new) (xs++new) (by omega) (by simp) (ax _) ?_ ?_,rfl,rfl⟩
         · rw [ai,pG h,hnl,ey]; omega
         · have hlen:(xs++new).length=(len+n) * es:=by rw [ai,pG h,hnl,ey]
           simp only [ak]
           rw [show (H1++[bl.cells (xs++new) elem])[H1.length]? =some (.cells (xs++new) elem) by simp]
           simp only
           rw [if_pos (by omega),gA,bq (by omega)]
       split
       · try rw [if_pos hg]
         obtain ⟨v,H',e,ho,hlv,rfl⟩:=hgrown H rfl
         exact ⟨v,_,e,ho,hlv,by simp,fun j hj _=>aw hj⟩
       · rw [hi]
         simp only
         rw [if_pos ⟨trivial,hone,hg⟩]
         obtain ⟨v,H',e,ho,hlv,rfl⟩:=hgrown (H.set i .dead) (by simp)
         refine ⟨v,_,e,ho,hlv,by simp,fun j hj hne=>?_⟩
         rw [aw (by simpa using hj),aB (fun e=>hne i k len cap ex rfl e.symm)]
theorem wA (H L:AH) (o:bl):put none (H++L) o=some (H.length+L.length,H++(L++[o])):=by simp [put]
theorem jN (H L:AH) (n k m:Nat):ak (H++L) (H.length+n) k m=ak L n k m:=by
 unfold ak
 rw [al (by omega),aS]
theorem gu (H L:AH) (k m:Nat):ak (H++L) H.length k m=ak L 0 k m:=jN H L 0 k m
theorem w4 (H L:AH) (n k:Nat) (xs:List AV):bh (H++L) (H.length+n) k xs=(bh L n k xs).map (H++·):=by
 unfold bh
 rw [al (by omega),aS]
 cases L[n]? with
 | none=>rfl
 | some o=>cases o with
   | cells cs e =>
     simp only
     split
     · rw [k7 _ _ (by omega),aS]; rfl
     · rfl
   | _=>rfl
theorem wc (H L:AH) (k:Nat) (xs:List AV):bh (H++L) H.length k xs=(bh L 0 k xs).map (H++·):=w4 H L 0 k xs
theorem QC:(false == true)=false:=rfl
theorem QB:(true == false)=false:=rfl
def Bs:AV->Option Bool
 | .bool b=>some b
 | _=>none
theorem nw (b:Bool):Bs (.bool b)=some b:=rfl
def yv (d:Option Tmp) (tm:List AV):Option Bool:=(d.bind (tm[·]?)).bind Bs
theorem ov (ops:Array Oper) (tm:List AV) (j:Nat):cY ops tm j=yv ((ops[j]?).bind (·.dst)) tm:=by
 unfold cY yv
 cases ((ops[j]?).bind (·.dst)).bind (tm[·]?) with
 | none=>rfl
 | some v=>cases v <;> rfl
theorem v5 (d:Tmp) (tm:List AV) (h:d < tm.length):yv (some d) tm=Bs (tm.getD d uA):=by
 simp [yv,vZ,h]
theorem s4 (cs:List AV) (e:TypeId) (L:AH) (k m:Nat):ak (.cells cs e::L) 0 k m=if k+m<=cs.length then some ((cs.drop k).take m) else none:=rfl
theorem s0 (o:bl) (L:AH) (n k m:Nat):ak (o::L) (n+1) k m=ak L n k m:=rfl
theorem sG (cs:List AV) (e:TypeId) (L:AH) (k:Nat) (xs:List AV):bh (.cells cs e::L) 0 k xs=if k+xs.length<=cs.length/\xs.all AV.one=true then some (.cells (spl cs k xs) e::L) else none:=rfl
theorem sF (o:bl) (L:AH) (n k:Nat) (xs:List AV):bh (o::L) (n+1) k xs=(bh L n k xs).map (o::·):=by
 unfold bh
 rw [List.getElem?_cons_succ]
 cases L[n]? with
 | none=>rfl
 | some q=>cases q with
   | cells cs e=>simp only; split <;> rfl
   | _=>rfl
end
end Go.Dv
namespace Go.Dv
def aI:List Bool->Code->Code
 | [],c=>c
 | false::p,.seq a _=>aI p a
 | true::p,.seq _ b=>aI p b
 | false::p,.cond _ a _=>aI p a
 | true::p,.cond _ _ b=>aI p b
 | _::p,.block _ a=>aI p a
 | _::p,.loop a=>aI p a
 | _,c=>c
section
variable {P:Program} {C:Cfg P} {W:ph P} {pl:Nat->Option Way}
theorem ep (call:bY) (base:Nat) (ops:Array Oper) (s:St):bZ P C call base ops .done s=some s:=by simp only [bZ]
def D4 (P:Program) (gl:GL) (ops:Array Oper) (o:Oper) (tm:List AV):Option AV:=if Region.wanted o (cY ops tm) then cR P (cP gl tm) o else some uA
theorem eh (call:bY) (base:Nat) (ops:Array Oper) (i:Nat) (p:d5) (tm:List AV) (H:AH):bZ P C call base ops (.take i p) (tm,H)=(ops[i]?).bind fun o=>(D4 P C.gl ops o tm).bind fun v=>bZ P C call base ops p (ef o.dst v tm,H):=by
 simp only [bZ]
 cases ops[i]? <;> rfl
theorem fO (call:bY) (base:Nat) (ops:Array Oper) (l:List (Nat × d5)) (s:St):bZ P C call base ops (.all l) s=eJ P C call base ops l s none:=by simp only [bZ]
theorem Fe (call:bY) (slot:Option Nat) (ops:Array Oper) (i:Nat) (s:St):jR P C call slot ops i s=match ops[i]? with
   | none=>some s
   | some o=>vk P C call slot ops o s:=by
 rw [sL]
 cases ops[i]? <;> rfl
noncomputable def QV (P:Program) (gl:GL) (ops:Array Oper) (o:Oper) (tm:List AV) (H:AH):Option AV:=if Region.wanted o (cY ops tm) then fm P (cP gl tm) o H else some uA
theorem il (call:bY) (base:Nat) (ops:Array Oper) (i:Nat) (p:d5) (tm:List AV) (H:AH):bZ P C call base ops (.rd i p) (tm,H)=(ops[i]?).bind fun o=>(QV P C.gl ops o tm H).bind fun v=>bZ P C call base ops p (ef o.dst v tm,H):=by
 simp only [bZ]
 cases ops[i]? <;> rfl
theorem cB (gl:GL) (ops:Array Oper) (dst:Option Tmp) (op:Op) (ty:TypeId) (pos:String) (after:Array Edge) (tm:List AV) (H:AH):QV P gl ops ⟨dst,op,ty,pos,after,none⟩ tm H=fm P (cP gl tm) ⟨dst,op,ty,pos,after,none⟩ H:=rfl
theorem eo (call:bY) (base:Nat) (ops:Array Oper) (p q:d5) (s:St):bZ P C call base ops (.join p q) s=(bZ P C call base ops p s).bind fun t=>bZ P C call base ops q t:=by simp only [bZ]
theorem fQ (call:bY) (base:Nat) (ops:Array Oper) (s:St) (r:Option St):eJ P C call base ops [] s r=r:=by simp only [eJ]
theorem dC (call:bY) (base:Nat) (ops:Array Oper) (i:Nat) (p:d5) (l:List (Nat × d5)) (s:St):eJ P C call base ops ((i,p)::l) s none=(match ops[i]? with
   | none=>some s
   | some o=>vk P C call (some (base+i)) ops o s).bind fun s'=>(bZ P C call base ops p s').bind fun t=>eJ P C call base ops l s (some t):=by
 simp only [eJ,Fe]
theorem er (call:bY) (base:Nat) (ops:Array Oper) (i:Nat) (p:d5) (l:List (Nat × d5)) (s t0:St):eJ P C call base ops ((i,p)::l) s (some t0)=(match ops[i]? with
   | none=>some s
   | some o=>vk P C call (some (base+i)) ops o s).bind fun s'=>(bZ P C call base ops p s').bind fun t=>if py t0 t=true then eJ P C call base ops l s (some t0) else none:=by
 simp only [eJ,Fe]
theorem bV (ops:Array Oper) (dst:Option Tmp) (op:Op) (ty:TypeId) (pos:String) (after:Array Edge) (tm:List AV):D4 P C.gl ops ⟨dst,op,ty,pos,after,none⟩ tm=cR P (cP C.gl tm) ⟨dst,op,ty,pos,after,none⟩:=rfl
section
variable (ev:Operand->Option AV) (dst:Option Tmp) (ty:TypeId) (pos:String) (after:Array Edge) (g:Option (Nat × Bool))
theorem fR (x:Operand):cR P ev ⟨dst,.move x,ty,pos,after,g⟩=ev x:=rfl
theorem dD (x:Operand):cR P ev ⟨dst,.assign x,ty,pos,after,g⟩=ev x:=rfl
theorem TF (c a b:Operand):cR P ev ⟨dst,.pick c a b,ty,pos,after,g⟩=(ev c).bind fun cv=>match cv with
   | .bool true=>ev a
   | .bool false=>ev b
   | _=>none:=rfl
theorem OD (op:BinOp) (t yt:TypeId) (x y:Operand):cR P ev ⟨dst,.binOp op t x y yt,ty,pos,after,g⟩=(ev x).bind fun xv=>(ev y).bind fun yv =>
   match xv,yv with
   | .int k a,.int k' b=>match (if k=k' then fh op k a b else none) with
     | some v=>some v
     | none=>(cZ P ev ⟨dst,.binOp op t x y yt,ty,pos,after,g⟩).bind fun n=>match n with | .val v=>some v | _=>none
   | _,_=>match op,ED P t xv yv with
     | .eql,some r=>some (.bool r)
     | .neq,some r=>some (.bool (!r))
     | _,_=>(cZ P ev ⟨dst,.binOp op t x y yt,ty,pos,after,g⟩).bind fun n=>match n with | .val v=>some v | _=>none:=rfl
theorem ew (t:TypeId) (x:Operand) (f:Nat):cR P ev ⟨dst,.field t x f,ty,pos,after,g⟩=(ev x).bind fun xv=>pR P t xv f:=rfl
theorem bX (t:TypeId) (x:Operand) (f:Nat):cR P ev ⟨dst,.fieldAddr t x f,ty,pos,after,g⟩=(ev x).bind fun xv=>aN P t xv f:=rfl
theorem bW (t:TypeId) (x i:Operand):cR P ev ⟨dst,.indexAddr t x i,ty,pos,after,g⟩=(ev x).bind fun xv=>(ev i).bind fun iv=>aD P t xv iv:=rfl
theorem cC (x:Operand):cR P ev ⟨dst,.nilCheck x,ty,pos,after,g⟩=(ev x).bind ji:=rfl
end
theorem oA {fn:Func} {a:Tmp} {t:TypeId} (h:fn.results.toList=[.cell a t]) (tm:List AV) (H:AH):mr P fn (tm,H)=match tm.getD a uA with
   | .ptr i k=>(ldA P t H i k).map fun v=>(v,H)
   | _=>none:=by
 unfold mr
 rw [h]
 cases hg:tm.getD a uA with
 | ptr i k =>
   simp only [jb,hg]
   cases ldA P t H i k <;> rfl
 | _=>simp only [jb,hg] <;> rfl
def R8 (x:AV):AV:=x
theorem dF (x:AV):R8 x=x:=rfl
theorem cV {l:List AV} {i j:Nat} {a b:AV} (h:j < i):(l.set i a).set j b=(l.set j (R8 b)).set i a:=List.set_comm _ _ (by omega)
theorem dE (n:Nat) (x:bl) (L:AH) (o:bl):put (some n) (x::L) o=match (x::L)[n]? with
   | some .fresh=>some (n,(x::L).set n o)
   | _=>none:=rfl
theorem bK (H L:AH) (n:Nat) (o:bl):put (some (H.length+n)) (H++L) o=(put (some n) L o).map fun r=>(H.length+r.1,H++r.2):=by
 unfold put
 simp only
 rw [al (by omega),aS]
 cases L[n]? with
 | none=>rfl
 | some o'=>cases o' with
   | fresh =>
     simp only [cE]
     rw [k7 _ _ (by omega),aS]
   | _=>rfl
theorem oB (gl:GL) (ops:Array Oper) (s:St):js P gl ops [] s=some s:=rfl
theorem mX (gl:GL) (ops:Array Oper) (dst:Option Tmp) (op:Op) (ty:TypeId) (pos:String) (after:Array Edge) (os:List Oper) (tm:List AV) (H:AH):js P gl ops (⟨dst,op,ty,pos,after,none⟩::os) (tm,H)=(fm P (cP gl tm) ⟨dst,op,ty,pos,after,none⟩ H).bind fun v=>js P gl ops os (ef dst v tm,H):=rfl
section
variable (ev:Operand->Option AV) (dst:Option Tmp) (ty:TypeId) (pos:String) (after:Array Edge) (g:Option (Nat × Bool)) (H:AH)
theorem wo (t:TypeId) (a:Operand):fm P ev ⟨dst,.load t a,ty,pos,after,g⟩ H=(ev a).bind fun av=>match av with
   | .ptr i k=>ldA P t H i k
   | _=>none:=rfl
theorem qB (t:TypeId) (m k:Operand) (ok:Bool):fm P ev ⟨dst,.lookup t m k ok,ty,pos,after,g⟩ H=(ev m).bind fun mv=>(ev k).bind fun kv=>iB P t mv kv ok H:=rfl
theorem sV (t:TypeId) (x:Operand) (lo hi mx:Option Operand):fm P ev ⟨dst,.slice t x lo hi mx,ty,pos,after,g⟩ H=(ev x).bind fun xv=>(evO ev lo).bind fun l=>(evO ev hi).bind fun h=>(evO ev mx).bind fun m=>kf P t H xv l h m:=rfl
theorem ki (x:Operand) (t:TypeId):fm P ev ⟨dst,.call ⟨.builtin .len,#[x],#[t]⟩,ty,pos,after,g⟩ H=(ev x).bind fun v=>dQ P t H v:=by
 simp only [fm,evL]; cases ev x <;> rfl
theorem wm (x:Operand):fm P ev ⟨dst,.move x,ty,pos,after,g⟩ H=ev x:=rfl
theorem qC (x:Operand):fm P ev ⟨dst,.assign x,ty,pos,after,g⟩ H=ev x:=rfl
theorem sZ (op:BinOp) (t yt:TypeId) (x y:Operand):fm P ev ⟨dst,.binOp op t x y yt,ty,pos,after,g⟩ H=cR P ev ⟨dst,.binOp op t x y yt,ty,pos,after,g⟩:=rfl
theorem wj (op:UnOp) (t:TypeId) (x:Operand):fm P ev ⟨dst,.unOp op t x,ty,pos,after,g⟩ H=cR P ev ⟨dst,.unOp op t x,ty,pos,after,g⟩:=rfl
theorem oD (t u:TypeId) (x:Operand):fm P ev ⟨dst,.convert t u x,ty,pos,after,g⟩ H=cR P ev ⟨dst,.convert t u x,ty,pos,after,g⟩:=rfl
theorem sY (t:TypeId) (x:Operand) (f:Nat):fm P ev ⟨dst,.field t x f,ty,pos,after,g⟩ H=(ev x).bind fun xv=>pR P t xv f:=rfl
theorem lZ (t:TypeId) (x:Operand) (f:Nat):fm P ev ⟨dst,.fieldAddr t x f,ty,pos,after,g⟩ H=(ev x).bind fun xv=>aN P t xv f:=rfl
theorem lY (t:TypeId) (x i:Operand):fm P ev ⟨dst,.indexAddr t x i,ty,pos,after,g⟩ H=(ev x).bind fun xv=>(ev i).bind fun iv=>aD P t xv iv:=rfl
theorem mZ (x:Operand):fm P ev ⟨dst,.nilCheck x,ty,pos,after,g⟩ H=(ev x).bind ji:=rfl
theorem oC (t:Operand) (ix:Nat):fm P ev ⟨dst,.extract t ix,ty,pos,after,g⟩ H=(ev t).bind fun tv=>match tv with
   | .tuple vs=>vs[ix]?
   | _=>none:=rfl
end
theorem cW (ev:Operand->Option AV) (dst:Option Tmp) (ty:TypeId) (pos:String) (after:Array Edge) (g:Option (Nat × Bool)) (t:Operand) (ix:Nat):cR P ev ⟨dst,.extract t ix,ty,pos,after,g⟩=(ev t).bind fun tv=>match tv with
   | .tuple vs=>vs[ix]?
   | _=>none:=rfl
section
variable (call:bY)
theorem oV (ops:Array Oper) (s:St):gO P C call ops [] s=some s:=rfl
theorem nv (ops:Array Oper) (dst:Option Tmp) (op:Op) (ty:TypeId) (pos:String) (after:Array Edge) (os:List Oper) (tm:List AV) (H:AH):gO P C call ops (⟨dst,op,ty,pos,after,none⟩::os) (tm,H)=(gK P C call (cP C.gl tm) ⟨dst,op,ty,pos,after,none⟩ H).bind fun v=>gO P C call ops os (ef dst v tm,H):=rfl
section
variable (ev:Operand->Option AV) (dst:Option Tmp) (ty:TypeId) (pos:String) (after:Array Edge) (g:Option (Nat × Bool)) (H:AH)
theorem wJ (t:TypeId) (a:Operand):gK P C call ev ⟨dst,.load t a,ty,pos,after,g⟩ H=fm P ev ⟨dst,.load t a,ty,pos,after,g⟩ H:=rfl
theorem qL (t:TypeId) (m k:Operand) (ok:Bool):gK P C call ev ⟨dst,.lookup t m k ok,ty,pos,after,g⟩ H=fm P ev ⟨dst,.lookup t m k ok,ty,pos,after,g⟩ H:=rfl
theorem tH (t:TypeId) (x:Operand) (lo hi mx:Option Operand):gK P C call ev ⟨dst,.slice t x lo hi mx,ty,pos,after,g⟩ H=fm P ev ⟨dst,.slice t x lo hi mx,ty,pos,after,g⟩ H:=rfl
theorem oU (b:Builtin) (xs:Array Operand) (ts:Array TypeId):gK P C call ev ⟨dst,.call ⟨.builtin b,xs,ts⟩,ty,pos,after,g⟩ H=fm P ev ⟨dst,.call ⟨.builtin b,xs,ts⟩,ty,pos,after,g⟩ H:=rfl
theorem wI (x:Operand):gK P C call ev ⟨dst,.move x,ty,pos,after,g⟩ H=ev x:=rfl
theorem qM (x:Operand):gK P C call ev ⟨dst,.assign x,ty,pos,after,g⟩ H=ev x:=rfl
theorem tK (op:BinOp) (t yt:TypeId) (x y:Operand):gK P C call ev ⟨dst,.binOp op t x y yt,ty,pos,after,g⟩ H=cR P ev ⟨dst,.binOp op t x y yt,ty,pos,after,g⟩:=rfl
theorem wG (op:UnOp) (t:TypeId) (x:Operand):gK P C call ev ⟨dst,.unOp op t x,ty,pos,after,g⟩ H=cR P ev ⟨dst,.unOp op t x,ty,pos,after,g⟩:=rfl
theorem oT (t u:TypeId) (x:Operand):gK P C call ev ⟨dst,.convert t u x,ty,pos,after,g⟩ H=cR P ev ⟨dst,.convert t u x,ty,pos,after,g⟩:=rfl
theorem tJ (t:TypeId) (x:Operand) (f:Nat):gK P C call ev ⟨dst,.field t x f,ty,pos,after,g⟩ H=(ev x).bind fun xv=>pR P t xv f:=rfl
theorem l8 (t:TypeId) (x:Operand) (f:Nat):gK P C call ev ⟨dst,.fieldAddr t x f,ty,pos,after,g⟩ H=(ev x).bind fun xv=>aN P t xv f:=rfl
theorem l7 (t:TypeId) (x i:Operand):gK P C call ev ⟨dst,.indexAddr t x i,ty,pos,after,g⟩ H=(ev x).bind fun xv=>(ev i).bind fun iv=>aD P t xv iv:=rfl
theorem nu (x:Operand):gK P C call ev ⟨dst,.nilCheck x,ty,pos,after,g⟩ H=(ev x).bind ji:=rfl
theorem oS (t:Operand) (ix:Nat):gK P C call ev ⟨dst,.extract t ix,ty,pos,after,g⟩ H=(ev t).bind fun tv=>match tv with
   | .tuple vs=>vs[ix]?
   | _=>none:=rfl
theorem wK (x:Operand) (xs:Array Operand) (ts:Array TypeId):gK P C call ev ⟨dst,.call ⟨.value x,xs,ts⟩,ty,pos,after,g⟩ H=(fZ P C none ev ⟨dst,.call ⟨.value x,xs,ts⟩,ty,pos,after,g⟩ ⟨.value x,xs,ts⟩ H).bind fun r=>match r with
   | (.enter f args,_)=>if C.reads f then (call f args H).map (·.1) else none
   | _=>none:=rfl
end
end
theorem fX {id k:Nat} {ops:Array Oper} (h:pl id=some (.tail k)) (s:St):EvC P C W pl (.region id ops true) s=(js P C.gl ops (ops.toList.take k) s).bind fun s1=>(BL P C (Ev P C W) ops (ops.toList.drop k) s1).bind fun s'=>some (.normal,s'):=by
 rw [Nx h]
 congr 1; funext s1
 congr 1
 have:=AI (P:=P) (C:=C) (Ev P C W) ops (ops.toList.drop k) k s1 (fun i o h=>by
   rw [List.getElem?_drop] at h; simpa using h)
 rw [<-this]
 congr 1
 rw [List.range'_eq_map_range]
end
end Go.Dv
