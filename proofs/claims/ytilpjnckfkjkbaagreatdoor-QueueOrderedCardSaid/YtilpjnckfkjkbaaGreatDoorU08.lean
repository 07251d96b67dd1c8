/- Part 08 of the walks (own work). -/
import Derived.Test.YtilpjnckfkjkbaaGreatDoorU07
open List renaming append_assoc→aD,drop_take→r9,drop_zero→ib,getD→wD,getElem?_append_left→ar,getElem?_append_right→al,getElem?_set_ne→ay,length_append→ai,length_cons→cR,length_eq_zero_iff→dO,set_append_right→ll,take_of_length_le→bt
open Nat renaming add_mul→eE,add_sub_cancel_left→aN,le_refl→aw,min_eq_left→r7,zero_mul→nU
open Option renaming bind_some→ax,map_some→cH
open Option.some renaming injEq→aU
set_option maxRecDepth 100000
set_option maxHeartbeats 4000000
set_option linter.unusedSimpArgs false
set_option linter.unusedVariables false
namespace Go.Dv
theorem dK (tm:List AV) (i:Nat) (v d:AV) (h:i < tm.length):(tm.set i v).getD i d=v:=by simp [wD,h]
theorem Ae (tm:List AV) (i j:Nat) (v d:AV) (h:i≠j):(tm.set i v).getD j d=tm.getD j d:=by simp [wD,ay h]
abbrev I (n:Int):AV:=.int .i64 n
theorem pR {H:AH} {i k n:Nat} {xs:List AV} (h:ak H i k n=some xs):xs.length=n:=by
 unfold ak at h;split at h
 · split at h
   · cases h; simp; omega
   · cases h
 · split at h
   · cases h; simp; omega
   · cases h
 · cases h
theorem AY {H:AH} {i k n:Nat} {xs:List AV} (h:ak H i k n=some xs) (j m:Nat) (hj:j+m<=n):ak H i (k+j) m=some ((xs.drop j).take m):=by
 have key:∀ cs:List AV,k+n<=cs.length->(if k+j+m<=cs.length then some ((cs.drop (k+j)).take m) else none)=some ((((cs.drop k).take n).drop j).take m):=fun cs hc=>by rw [if_pos (by omega)];congr 1;rw [r9,List.take_take,List.drop_drop,r7 (by omega)]
 unfold ak at h ⊢;split at h
 · rename_i cs e hi;split at h
   · rename_i hc; cases h; exact key cs hc
   · cases h
 · rename_i cs hi;split at h
   · rename_i hc; cases h; exact key cs hc
   · cases h
 · cases h
theorem Sb {H:AH} {i k n:Nat} {xs:List AV} (h:ak H i k n=some xs):i < H.length:=by
 unfold ak at h;split at h
 · exact aI ‹_›
 · exact aI ‹_›
 · cases h
inductive Row (H:AH) (es:Nat):AV->List AV->Prop where
 | nil:Row H es .nilSlice []
 | at (i k len cap:Nat) (ex:Bool) (xs:List AV) (h:ak H i k (len * es)=some xs):Row H es (.slice i k es len cap ex) xs
section
variable {P:Program}
theorem Ci {t:TypeId} (ht:P.underlying t=some .string) {ev:Operand->Option AV} {x i:Operand} {s:ByteArray} {k:IntKind} {j:Nat} (hx:ev x=some (.str s)) (hi:ev i=some (.int k j)) (hj:j < s.size)
   (dst:Option Tmp) (ty:TypeId) (pos:String) (after:Array Edge) (g:Option (Nat × Bool)):dq P ev ⟨dst,.index t x i,ty,pos,after,g⟩=some (.val (.int .u8 (s[j]'hj).toNat)):=by have hg:s[j]? =some (s[j]'hj):=getElem?_pos s j hj;simp [dq,notSelect,Op.operands,hx,hi,toV,execOp,kr,gC,Instr.index,asIntOf,underlying,program,ht,nr,bind,Sem.bind,pure,hg]
theorem rS {t u:TypeId} {k':IntKind} {dt:TypeDesc} (ht:P.underlying t=some dt) (hu:P.underlying u=some (.int k')) {ev:Operand->Option AV} {x:Operand} {k:IntKind} {n:Int} (hx:ev x=some (.int k n))
   (dst:Option Tmp) (ty:TypeId) (pos:String) (after:Array Edge) (g:Option (Nat × Bool)):dq P ev ⟨dst,.convert t u x,ty,pos,after,g⟩=some (.val (.int k' (k'.wrap n))):=by simp [dq,notSelect,Op.operands,hx,toV,execOp,kr,gC,convert,underlying,program,ht,hu,nr,bind,Sem.bind,pure,Conv.intToInt]
theorem zQ {ev:Operand->Option AV} {t:TypeId} {x:Operand} {b:Bool} (hx:ev x=some (.bool b))
   (dst:Option Tmp) (ty:TypeId) (pos:String) (after:Array Edge) (g:Option (Nat × Bool)):dq P ev ⟨dst,.unOp .not t x,ty,pos,after,g⟩=some (.val (.bool !b)):=by simp [dq,notSelect,Op.operands,hx,toV,execOp,kr,gC,Op.unary,pW,bind,Sem.bind,pure]
end
theorem I7 {P:Program} {C:Cfg P} (slot:Option Nat) (ev:Operand->Option AV) (dst:Option Tmp) (ty:TypeId) (pos:String) (after:Array Edge) (g:Option (Nat × Bool)) (H:AH) (t:TypeId) (x i:Operand) :
   aop P C slot ev ⟨dst,.index t x i,ty,pos,after,g⟩ H=(dq P ev ⟨dst,.index t x i,ty,pos,after,g⟩).map fun n=>(n,H):=rfl
theorem DQ {P:Program} {C:Cfg P} (slot:Option Nat) (ev:Operand->Option AV) (dst:Option Tmp) (ty:TypeId) (pos:String) (after:Array Edge) (g:Option (Nat × Bool)) (H:AH) (t u:TypeId) (x:Operand) :
   aop P C slot ev ⟨dst,.convert t u x,ty,pos,after,g⟩ H=match dq P ev ⟨dst,.convert t u x,ty,pos,after,g⟩ with
     | some n=>some (n,H)
     | none=>(ev x).bind fun v=>(HO P H t u v).map fun s=>(.val (.str s),H):=rfl
theorem OC {P:Program} {C:Cfg P} (slot:Option Nat) (ev:Operand->Option AV) (dst:Option Tmp) (ty:TypeId) (pos:String) (after:Array Edge) (g:Option (Nat × Bool)) (H:AH) (op:UnOp) (t:TypeId) (x:Operand) :
   aop P C slot ev ⟨dst,.unOp op t x,ty,pos,after,g⟩ H=(dq P ev ⟨dst,.unOp op t x,ty,pos,after,g⟩).map fun n=>(n,H):=rfl
def jV (s:ByteArray) (j:Int):Int:=((s.data.toList.getD j.toNat 0).toNat:Int)
theorem jm {P:Program} {ev:Operand->Option AV} {o:Oper} {x:Operand} (hx:x∈o.op.operands) (hn:ev x=none):dq P ev o=none:=by unfold dq;rw [if_neg];simp only [Bool.and_eq_true,List.all_eq_true,not_and];intro _ h;have:=h x (by simpa using hx);rw [hn] at this; cases this
theorem fW {P:Program} {C:Cfg P} {t:TypeId} (ht:P.underlying t=some .string) (slot:Option Nat) (ev:Operand->Option AV) (dst:Option Tmp) (ty:TypeId) (pos:String) (after:Array Edge) (g:Option (Nat × Bool)) (H:AH) (x i:Operand) :
   aop P C slot ev ⟨dst,.index t x i,ty,pos,after,g⟩ H=(ev x).bind fun xv=>(ev i).bind fun iv=>match xv,iv with
     | .str s,.int k j=>if 0<=j/\j < s.size then some (.val (.int .u8 (jV s j)),H) else (dq P ev ⟨dst,.index t x i,ty,pos,after,g⟩).map fun n=>(n,H)
     | _,_=>(dq P ev ⟨dst,.index t x i,ty,pos,after,g⟩).map fun n=>(n,H):=by
 rw [I7]
 cases hx:ev x with
 | none=>rw [jm (x:=x) (by simp [Op.operands]) hx]; rfl
 | some xv=>cases hi:ev i with
   | none=>rw [jm (x:=i) (by simp [Op.operands]) hi]; rfl
   | some iv =>
     simp only [ax]
     split
     · rename_i s k j
       split
       · rename_i hj
         have hj':j.toNat < s.size:=by omega
         have e:j=(j.toNat:Int):=by omega
         rw [e] at hi
         rw [Ci ht hx hi hj']
         have hb:jV s j=(s[j.toNat]'hj').toNat:=by
           unfold jV
           congr 2
           have:s.data.toList[j.toNat]? =some (s[j.toNat]'hj'):=by
             rw [Array.getElem?_toList]; exact Array.getElem?_eq_getElem hj'
           simp [wD,this]
         rw [hb]; rfl
       · rfl
     · rfl
theorem DR {P:Program} {C:Cfg P} {t u:TypeId} {dt:TypeDesc} {k':IntKind} (ht:P.underlying t=some dt) (hu:P.underlying u=some (.int k')) (slot:Option Nat) (ev:Operand->Option AV) (dst:Option Tmp) (ty:TypeId) (pos:String) (after:Array Edge) (g:Option (Nat × Bool)) (H:AH) (x:Operand) :
   aop P C slot ev ⟨dst,.convert t u x,ty,pos,after,g⟩ H=(ev x).bind fun xv=>match xv with
     | .int _ n=>some (.val (.int k' (k'.wrap n)),H)
     | _=>(dq P ev ⟨dst,.convert t u x,ty,pos,after,g⟩).map fun n=>(n,H):=by
 rw [DQ]
 cases hx:ev x with
 | none=>rw [jm (x:=x) (by simp [Op.operands]) hx]; rfl
 | some xv =>
   simp only [ax]
   have hn:HO P H t u xv=none:=by
     unfold HO
     rw [hu]
     split
     · rename_i h; cases h
     · rfl
   rw [hn]
   cases xv
   case int k n=>rw [rS ht hu hx]
   all_goals (cases dq P ev ⟨dst,.convert t u x,ty,pos,after,g⟩ <;> rfl)
theorem xf {P:Program} {C:Cfg P} (slot:Option Nat) (ev:Operand->Option AV) (dst:Option Tmp) (ty:TypeId) (pos:String) (after:Array Edge) (g:Option (Nat × Bool)) (H:AH) (t:TypeId) (x:Operand) :
   aop P C slot ev ⟨dst,.unOp .not t x,ty,pos,after,g⟩ H=(ev x).bind fun xv=>match xv with
     | .bool b=>some (.val (.bool !b),H)
     | _=>(dq P ev ⟨dst,.unOp .not t x,ty,pos,after,g⟩).map fun n=>(n,H):=by
 rw [OC]
 cases hx:ev x with
 | none=>rw [jm (x:=x) (by simp [Op.operands]) hx]; rfl
 | some xv =>
   simp only [ax]
   split
   · rw [zQ hx]; rfl
   · rfl
theorem aA {α β:Type} {x y:Option α} (f:α->Option β) (h:x=y):x.bind f=y.bind f:=by rw [h]
end Go.Dv
namespace Go.Dv
section
variable {P:Program} {C:Cfg P} {W:pB P} {pl:Nat->Option Way}
theorem aaE {f:Nat} (h:(P.funcs[f]?).map (fun fn=>fn.body.isSome)=some true) (slot:Option Nat) (ev:Operand->Option AV) (H:AH) (o:Oper) (xs:Array Operand) (ats:Array TypeId)
   (he:ev (.func f)=some (.func (.func f) [] [])):gk P C slot ev o ⟨.value (.func f),xs,ats⟩ H=(evL ev xs.toList).map fun as=>(.enter f as,H):=by
 simp only [gk,he,ax];cases hf:P.funcs[f]? with
 | none=>rw [hf] at h; cases h
 | some fn =>
   rw [hf] at h;simp only [cH,aU] at h;cases evL ev xs.toList with
   | none=>rfl
   | some as=>simp [h]
inductive Own (b:Nat) (H:AH) (es:Nat) (elem:TypeId):AV->List AV->Prop where
 | nil:Own b H es elem .nilSlice []
 | at (i k len cap:Nat) (ex:Bool) (cs xs:List AV) (hb:b<=i) (hi:H[i]? =some (.cells cs elem)) (hl:len<=cap) (hc:k+cap * es<=cs.length) (h:ak H i k (len * es)=some xs) :
     Own b H es elem (.slice i k es len cap ex) xs
def bL:AV->Nat
 | .slice _ _ _ len _ _=>len
 | _=>0
theorem cp (i k es len cap:Nat) (ex:Bool):bL (.slice i k es len cap ex)=len:=rfl
theorem oW:bL .nilSlice=0:=rfl
theorem Own.length {b:Nat} {H:AH} {es:Nat} {elem:TypeId} {v:AV} {xs:List AV} (h:Own b H es elem v xs):xs.length=bL v * es:=by
 cases h with
 | nil=>simp [bL]
 | «at» i k len cap ex cs xs hb hi hl hc h=>exact pR h
theorem Own.other {b:Nat} {H H':AH} {es:Nat} {elem:TypeId} {v:AV} {xs:List AV} (h:Own b H es elem v xs) (hk:∀ i k es len cap ex,v=.slice i k es len cap ex->H'[i]? =H[i]?):Own b H' es elem v xs:=by
 cases h with
 | nil=>exact .nil
 | «at» i k len cap ex cs xs hb hi hl hc h =>have e:=hk i k es len cap ex rfl;exact .at i k len cap ex cs xs hb (e.trans hi) hl hc (by unfold ak at h ⊢; rw [e]; exact h)
theorem iG (cs:List AV):∀ (vs:List AV) (k:Nat),k+vs.length<=cs.length->spl cs k vs=cs.take k++vs++cs.drop (k+vs.length):=by
 intro vs;induction vs generalizing cs with
 | nil=>intro k h; simp [spl]
 | cons v vs ih =>
   intro k h;simp only [cR] at h;rw [spl,ih (cs.set k v) (k+1) (by simp; omega)];have hk:k < cs.length:=by omega
   have e1:(cs.set k v).take (k+1)=cs.take k++[v]:=by rw [List.set_eq_take_append_cons_drop,if_pos hk,List.take_append,List.length_take,r7 (Nat.le_of_lt hk),bt (by simp; omega),show k+1 - k=1 by omega];rfl
   have e2:(cs.set k v).drop (k+1+vs.length)=cs.drop (k+1+vs.length):=List.drop_set_of_lt (by omega);rw [e1,e2,cR,show k+(vs.length+1)=k+1+vs.length by omega];simp
structure pC (P:Program) (sT:TypeId) (xT:Option TypeId) (elem:TypeId) (es:Nat):Prop where
 el:gh P sT=some elem
 z:∃ z,d8 P elem=some z/\z.cells.length=P.cellsOf elem/\z.cells≠[]
 sz:P.cellsOf elem=es
 x:sa P xT=false
theorem sF {sT elem:TypeId} {xT:Option TypeId} {es:Nat} (T:pC P sT xT elem es) {b:Nat} {H:AH} {s:AV} {xs:List AV} (hs:Own b H es elem s xs) (hb:b<=H.length) {x:AV} {new:List AV} (hx:Row H es x new)
   (hone:new.all AV.one=true) (hg:gf (P.bytesOf elem) (bL s+bL x)=true) :
   ∃ v H',fV P none sT xT s x H=some (v,H')/\Own b H' es elem v (xs++new)/\bL v=bL s+bL x/\H.length<=H'.length/\(∀ j,j < H.length->(∀ i k len cap ex,s=.slice i k es len cap ex->j≠i)->H'[j]? =H[j]?):=by
 obtain ⟨z,hz,hzl,hzn⟩:=T.z;have hsrc:∃ f,pL H es x=some (bL x,f)/\f (bL x)=some new:=by
   cases hx with
   | nil=>exact ⟨_,rfl,rfl⟩
   | «at» i k len cap ex xs h=>exact ⟨fun n=>if n<=len then ak H i k (n * es) else none,by simp [pL,bL],by simpa [bL] using h⟩
 obtain ⟨f,hf,hfn⟩:=hsrc;have hnl:new.length=bL x * es:=by
   cases hx with
   | nil=>simp [bL]
   | «at» i k len cap ex xs h=>exact pR h
 generalize bL x=n at *;unfold fV;rw [if_neg (by rw [T.x]; simp),T.el,ax,hz,ax,T.sz,hf,ax];simp only [hfn,ax];rw [if_pos ⟨by rw [hzl,T.sz],hzn⟩];cases hs with
 | nil =>
   simp only;split
   · rename_i h0;have hn:new=[]:=dO.1 (by rw [hnl,h0,nU]);subst hn;exact ⟨_,_,rfl,.nil,by simp [oW,h0],aw _,fun _ _ _=>rfl⟩
   · simp only [oW,Nat.zero_add] at hg;rw [if_pos hg];refine ⟨_,_,rfl,.at H.length 0 (n) (n) false new ([]++new) hb (by simp) (aw _) (by rw [hnl]; omega) ?_,by simp [bL],by simp,fun j hj _=>ar hj⟩;simp only [ak];rw [show (H++[bm.cells new elem])[H.length]? =some (.cells new elem) by simp];simp only [List.nil_append];rw [if_pos (by omega),ib,bt (by omega)]
 | «at» i k len cap ex cs xs hbi hi hl hc h =>
   simp only [cp] at hg ⊢;rw [if_pos trivial];split
   · rename_i h0;have hn:new=[]:=dO.1 (by rw [hnl,h0,nU]);subst hn;exact ⟨_,_,rfl,by simpa using Own.at i k len cap ex cs xs hbi hi hl hc h,(by simp only [cp]; omega),aw _,fun _ _ _=>rfl⟩
   · rename_i hn0;have hold:xs=(cs.drop k).take (len * es)/\k+len * es<=cs.length:=by
       simp only [ak,hi] at h;split at h
       · rename_i hle; cases h; exact ⟨rfl,hle⟩
       · cases h
     split
     · rename_i hroom;try rw [if_pos hone]
       have hmul:(len+n) * es<=cap * es:=Nat.mul_le_mul_right _ hroom;have hadd:(len+n) * es=len * es+n * es:=eE _ _ _;have hfit:k+len * es+new.length<=cs.length:=by rw [hnl]; omega
       have hwr:bj H i (k+len * es) new=some (H.set i (.cells (spl cs (k+len * es) new) elem)):=by simp only [bj,hi]; rw [if_pos ⟨hfit,hone⟩]
       rw [hwr];have hil:=aI hi;refine ⟨_,_,rfl,.at i k (len+n) cap ex (spl cs (k+len * es) new) (xs++new) hbi (by simp [hil]) hroom (by rw [gr]; exact hc) ?_,rfl,by simp,fun j hj hne=>?_⟩
       · simp only [ak];rw [show (H.set i (.cells (spl cs (k+len * es) new) elem))[i]? =some (.cells (spl cs (k+len * es) new) elem) by simp [hil]];simp only;rw [if_pos (by rw [gr]; omega),iG cs new _ hfit,hold.1];congr 1;rw [aD,List.drop_append_of_le_length (by simp; omega),r9];have e:k+len * es - k=len * es:=by omega
         rw [e,<-aD,List.take_append_of_le_length (by simp [hnl]; omega)];apply bt;simp [hnl]; omega
       · rw [ay (fun e=>hne i k len cap ex rfl e.symm)]
     · rename_i hroom;have hgrown:∀ H1:AH,H1.length=H.length->∃ v H',((ak H i k (len * es)).bind fun old=>(put none H1 (.cells (old++new) elem)).map fun (j,H')=>(AV.slice j 0 es (len+n) (len+n) false,H'))=some (v,H') /\
           Own b H' es elem v (xs++new)/\bL v=len+n/\H'=H1++[.cells (xs++new) elem]:=by
         intro H1 hl1
         rw [h]
         refine ⟨_,_,rfl,.at H1.length 0 (len+n) (len+n) false (xs++new) (xs++new) (by omega) (by simp) (aw _) ?_ ?_,rfl,rfl⟩
         · rw [ai,pR h,hnl,eE]; omega
         · have hlen:(xs++new).length=(len+n) * es:=by rw [ai,pR h,hnl,eE]
           simp only [ak]
           rw [show (H1++[bm.cells (xs++new) elem])[H1.length]? =some (.cells (xs++new) elem) by simp]
           simp only
           rw [if_pos (by omega),ib,bt (by omega)]
       split
       · try rw [if_pos hg]
         obtain ⟨v,H',e,ho,hlv,rfl⟩:=hgrown H rfl;exact ⟨v,_,e,ho,hlv,by simp,fun j hj _=>ar hj⟩
       · rw [hi];simp only;rw [if_pos ⟨trivial,hone,hg⟩];obtain ⟨v,H',e,ho,hlv,rfl⟩:=hgrown (H.set i .dead) (by simp);refine ⟨v,_,e,ho,hlv,by simp,fun j hj hne=>?_⟩;rw [ar (by simpa using hj),ay (fun e=>hne i k len cap ex rfl e.symm)]
theorem wP (H L:AH) (o:bm):put none (H++L) o=some (H.length+L.length,H++(L++[o])):=by simp [put]
theorem jE (H L:AH) (n k m:Nat):ak (H++L) (H.length+n) k m=ak L n k m:=by unfold ak;rw [al (by omega),aN]
theorem gj (H L:AH) (k m:Nat):ak (H++L) H.length k m=ak L 0 k m:=jE H L 0 k m
theorem xz (H L:AH) (n k:Nat) (xs:List AV):bj (H++L) (H.length+n) k xs=(bj L n k xs).map (H++·):=by
 unfold bj;rw [al (by omega),aN];cases L[n]? with
 | none=>rfl
 | some o=>cases o with
   | cells cs e =>
     simp only
     split
     · rw [ll _ _ (by omega),aN]; rfl
     · rfl
   | _=>rfl
theorem wF (H L:AH) (k:Nat) (xs:List AV):bj (H++L) H.length k xs=(bj L 0 k xs).map (H++·):=xz H L 0 k xs
theorem RN:(false == true)=false:=rfl
theorem RM:(true == false)=false:=rfl
def BL:AV->Option Bool
 | .bool b=>some b
 | _=>none
theorem nI (b:Bool):BL (.bool b)=some b:=rfl
def yv (d:Option Tmp) (tm:List AV):Option Bool:=(d.bind (tm[·]?)).bind BL
theorem oE (ops:Array Oper) (tm:List AV) (j:Nat):dp ops tm j=yv ((ops[j]?).bind (·.dst)) tm:=by
 unfold dp yv;cases ((ops[j]?).bind (·.dst)).bind (tm[·]?) with
 | none=>rfl
 | some v=>cases v <;> rfl
theorem wE (d:Tmp) (tm:List AV) (h:d < tm.length):yv (some d) tm=BL (tm.getD d uA):=by simp [yv,wD,h]
theorem td (cs:List AV) (e:TypeId) (L:AH) (k m:Nat):ak (.cells cs e::L) 0 k m=if k+m<=cs.length then some ((cs.drop k).take m) else none:=rfl
theorem tc (o:bm) (L:AH) (n k m:Nat):ak (o::L) (n+1) k m=ak L n k m:=rfl
theorem sO (cs:List AV) (e:TypeId) (L:AH) (k:Nat) (xs:List AV):bj (.cells cs e::L) 0 k xs=if k+xs.length<=cs.length/\xs.all AV.one=true then some (.cells (spl cs k xs) e::L) else none:=rfl
theorem sM (o:bm) (L:AH) (n k:Nat) (xs:List AV):bj (o::L) (n+1) k xs=(bj L n k xs).map (o::·):=by
 unfold bj;rw [List.getElem?_cons_succ];cases L[n]? with
 | none=>rfl
 | some q=>cases q with
   | cells cs e=>simp only; split <;> rfl
   | _=>rfl
end
end Go.Dv
namespace Go.Dv
def aH:List Bool->Code->Code
 | [],c=>c
 | false::p,.seq a _=>aH p a
 | true::p,.seq _ b=>aH p b
 | false::p,.cond _ a _=>aH p a
 | true::p,.cond _ _ b=>aH p b
 | _::p,.block _ a=>aH p a
 | _::p,.loop a=>aH p a
 | _,c=>c
section
variable {P:Program} {C:Cfg P} {W:pB P} {pl:Nat->Option Way}
theorem dW (call:cz) (base:Nat) (ops:Array Oper) (s:St):cB P C call base ops .done s=some s:=by simp only [cB]
def Ew (P:Program) (gl:GL) (ops:Array Oper) (o:Oper) (tm:List AV):Option AV:=if Region.wanted o (dp ops tm) then dc P (cY gl tm) o else some uA
theorem dS (call:cz) (base:Nat) (ops:Array Oper) (i:Nat) (p:ep) (tm:List AV) (H:AH):cB P C call base ops (.take i p) (tm,H)=(ops[i]?).bind fun o=>(Ew P C.gl ops o tm).bind fun v=>cB P C call base ops p (eC o.dst v tm,H):=by simp only [cB];cases ops[i]? <;> rfl
theorem eP (call:cz) (base:Nat) (ops:Array Oper) (l:List (Nat × ep)) (s:St):cB P C call base ops (.all l) s=eO P C call base ops l s none:=by simp only [cB]
theorem FK (call:cz) (slot:Option Nat) (ops:Array Oper) (i:Nat) (s:St):jX P C call slot ops i s=match ops[i]? with
   | none=>some s
   | some o=>vL P C call slot ops o s:=by rw [sU];cases ops[i]? <;> rfl
noncomputable def R6 (P:Program) (gl:GL) (ops:Array Oper) (o:Oper) (tm:List AV) (H:AH):Option AV:=if Region.wanted o (dp ops tm) then fD P (cY gl tm) o H else some uA
theorem gK (call:cz) (base:Nat) (ops:Array Oper) (i:Nat) (p:ep) (tm:List AV) (H:AH):cB P C call base ops (.rd i p) (tm,H)=(ops[i]?).bind fun o=>(R6 P C.gl ops o tm H).bind fun v=>cB P C call base ops p (eC o.dst v tm,H):=by simp only [cB];cases ops[i]? <;> rfl
theorem cg (gl:GL) (ops:Array Oper) (dst:Option Tmp) (op:Op) (ty:TypeId) (pos:String) (after:Array Edge) (tm:List AV) (H:AH):R6 P gl ops ⟨dst,op,ty,pos,after,none⟩ tm H=fD P (cY gl tm) ⟨dst,op,ty,pos,after,none⟩ H:=rfl
theorem dU (call:cz) (base:Nat) (ops:Array Oper) (p q:ep) (s:St):cB P C call base ops (.join p q) s=(cB P C call base ops p s).bind fun t=>cB P C call base ops q t:=by simp only [cB]
theorem eR (call:cz) (base:Nat) (ops:Array Oper) (s:St) (r:Option St):eO P C call base ops [] s r=r:=by simp only [eO]
theorem da (call:cz) (base:Nat) (ops:Array Oper) (i:Nat) (p:ep) (l:List (Nat × ep)) (s:St):eO P C call base ops ((i,p)::l) s none=(match ops[i]? with
   | none=>some s
   | some o=>vL P C call (some (base+i)) ops o s).bind fun s'=>(cB P C call base ops p s').bind fun t=>eO P C call base ops l s (some t):=by simp only [eO,FK]
theorem dX (call:cz) (base:Nat) (ops:Array Oper) (i:Nat) (p:ep) (l:List (Nat × ep)) (s t0:St):eO P C call base ops ((i,p)::l) s (some t0)=(match ops[i]? with
   | none=>some s
   | some o=>vL P C call (some (base+i)) ops o s).bind fun s'=>(cB P C call base ops p s').bind fun t=>if pJ t0 t=true then eO P C call base ops l s (some t0) else none:=by simp only [eO,FK]
theorem bP (ops:Array Oper) (dst:Option Tmp) (op:Op) (ty:TypeId) (pos:String) (after:Array Edge) (tm:List AV):Ew P C.gl ops ⟨dst,op,ty,pos,after,none⟩ tm=dc P (cY C.gl tm) ⟨dst,op,ty,pos,after,none⟩:=rfl
section
variable (ev:Operand->Option AV) (dst:Option Tmp) (ty:TypeId) (pos:String) (after:Array Edge) (g:Option (Nat × Bool))
theorem eT (x:Operand):dc P ev ⟨dst,.move x,ty,pos,after,g⟩=ev x:=rfl
theorem de (x:Operand):dc P ev ⟨dst,.assign x,ty,pos,after,g⟩=ev x:=rfl
theorem UY (c a b:Operand):dc P ev ⟨dst,.pick c a b,ty,pos,after,g⟩=(ev c).bind fun cv=>match cv with
   | .bool true=>ev a
   | .bool false=>ev b
   | _=>none:=rfl
theorem PR (op:BinOp) (t yt:TypeId) (x y:Operand):dc P ev ⟨dst,.binOp op t x y yt,ty,pos,after,g⟩=(ev x).bind fun xv=>(ev y).bind fun yv =>
   match xv,yv with
   | .int k a,.int k' b=>match (if k=k' then fy op k a b else none) with
     | some v=>some v
     | none=>(dq P ev ⟨dst,.binOp op t x y yt,ty,pos,after,g⟩).bind fun n=>match n with | .val v=>some v | _=>none
   | _,_=>match op,E8 P t xv yv with
     | .eql,some r=>some (.bool r)
     | .neq,some r=>some (.bool (!r))
     | _,_=>(dq P ev ⟨dst,.binOp op t x y yt,ty,pos,after,g⟩).bind fun n=>match n with | .val v=>some v | _=>none:=rfl
theorem dY (t:TypeId) (x:Operand) (f:Nat):dc P ev ⟨dst,.field t x f,ty,pos,after,g⟩=(ev x).bind fun xv=>qc P t xv f:=rfl
theorem bR (t:TypeId) (x:Operand) (f:Nat):dc P ev ⟨dst,.fieldAddr t x f,ty,pos,after,g⟩=(ev x).bind fun xv=>aL P t xv f:=rfl
theorem bQ (t:TypeId) (x i:Operand):dc P ev ⟨dst,.indexAddr t x i,ty,pos,after,g⟩=(ev x).bind fun xv=>(ev i).bind fun iv=>aC P t xv iv:=rfl
theorem ch (x:Operand):dc P ev ⟨dst,.nilCheck x,ty,pos,after,g⟩=(ev x).bind jt:=rfl
end
theorem oI {fn:Func} {a:Tmp} {t:TypeId} (h:fn.results.toList=[.cell a t]) (tm:List AV) (H:AH):lz P fn (tm,H)=match tm.getD a uA with
   | .ptr i k=>(ldA P t H i k).map fun v=>(v,H)
   | _=>none:=by
 unfold lz;rw [h];cases hg:tm.getD a uA with
 | ptr i k =>simp only [iO,hg];cases ldA P t H i k <;> rfl
 | _=>simp only [iO,hg] <;> rfl
def Tu (x:AV):AV:=x
theorem dh (x:AV):Tu x=x:=rfl
theorem cI {l:List AV} {i j:Nat} {a b:AV} (h:j < i):(l.set i a).set j b=(l.set j (Tu b)).set i a:=List.set_comm _ _ (by omega)
theorem dg (n:Nat) (x:bm) (L:AH) (o:bm):put (some n) (x::L) o=match (x::L)[n]? with
   | some .fresh=>some (n,(x::L).set n o)
   | _=>none:=rfl
theorem bH (H L:AH) (n:Nat) (o:bm):put (some (H.length+n)) (H++L) o=(put (some n) L o).map fun r=>(H.length+r.1,H++r.2):=by
 unfold put;simp only;rw [al (by omega),aN];cases L[n]? with
 | none=>rfl
 | some o'=>cases o' with
   | fresh =>
     simp only [cH]
     rw [ll _ _ (by omega),aN]
   | _=>rfl
theorem oK (gl:GL) (ops:Array Oper) (s:St):jD P gl ops [] s=some s:=rfl
theorem nh (gl:GL) (ops:Array Oper) (dst:Option Tmp) (op:Op) (ty:TypeId) (pos:String) (after:Array Edge) (os:List Oper) (tm:List AV) (H:AH):jD P gl ops (⟨dst,op,ty,pos,after,none⟩::os) (tm,H)=(fD P (cY gl tm) ⟨dst,op,ty,pos,after,none⟩ H).bind fun v=>jD P gl ops os (eC dst v tm,H):=rfl
section
variable (ev:Operand->Option AV) (dst:Option Tmp) (ty:TypeId) (pos:String) (after:Array Edge) (g:Option (Nat × Bool)) (H:AH)
theorem wL (t:TypeId) (a:Operand):fD P ev ⟨dst,.load t a,ty,pos,after,g⟩ H=(ev a).bind fun av=>match av with
   | .ptr i k=>ldA P t H i k
   | _=>none:=rfl
theorem qH (t:TypeId) (m k:Operand) (ok:Bool):fD P ev ⟨dst,.lookup t m k ok,ty,pos,after,g⟩ H=(ev m).bind fun mv=>(ev k).bind fun kv=>iJ P t mv kv ok H:=rfl
theorem s7 (t:TypeId) (x:Operand) (lo hi mx:Option Operand):fD P ev ⟨dst,.slice t x lo hi mx,ty,pos,after,g⟩ H=(ev x).bind fun xv=>(evO ev lo).bind fun l=>(evO ev hi).bind fun h=>(evO ev mx).bind fun m=>ko P t H xv l h m:=rfl
theorem ky (x:Operand) (t:TypeId):fD P ev ⟨dst,.call ⟨.builtin .len,#[x],#[t]⟩,ty,pos,after,g⟩ H=(ev x).bind fun v=>d4 P t H v:=by simp only [fD,evL]; cases ev x <;> rfl
theorem wK (x:Operand):fD P ev ⟨dst,.move x,ty,pos,after,g⟩ H=ev x:=rfl
theorem qI (x:Operand):fD P ev ⟨dst,.assign x,ty,pos,after,g⟩ H=ev x:=rfl
theorem tb (op:BinOp) (t yt:TypeId) (x y:Operand):fD P ev ⟨dst,.binOp op t x y yt,ty,pos,after,g⟩ H=dc P ev ⟨dst,.binOp op t x y yt,ty,pos,after,g⟩:=rfl
theorem wJ (op:UnOp) (t:TypeId) (x:Operand):fD P ev ⟨dst,.unOp op t x,ty,pos,after,g⟩ H=dc P ev ⟨dst,.unOp op t x,ty,pos,after,g⟩:=rfl
theorem oN (t u:TypeId) (x:Operand):fD P ev ⟨dst,.convert t u x,ty,pos,after,g⟩ H=dc P ev ⟨dst,.convert t u x,ty,pos,after,g⟩:=rfl
theorem s9 (t:TypeId) (x:Operand) (f:Nat):fD P ev ⟨dst,.field t x f,ty,pos,after,g⟩ H=(ev x).bind fun xv=>qc P t xv f:=rfl
theorem ma (t:TypeId) (x:Operand) (f:Nat):fD P ev ⟨dst,.fieldAddr t x f,ty,pos,after,g⟩ H=(ev x).bind fun xv=>aL P t xv f:=rfl
theorem l9 (t:TypeId) (x i:Operand):fD P ev ⟨dst,.indexAddr t x i,ty,pos,after,g⟩ H=(ev x).bind fun xv=>(ev i).bind fun iv=>aC P t xv iv:=rfl
theorem nk (x:Operand):fD P ev ⟨dst,.nilCheck x,ty,pos,after,g⟩ H=(ev x).bind jt:=rfl
theorem oM (t:Operand) (ix:Nat):fD P ev ⟨dst,.extract t ix,ty,pos,after,g⟩ H=(ev t).bind fun tv=>match tv with
   | .tuple vs=>vs[ix]?
   | _=>none:=rfl
end
theorem cJ (ev:Operand->Option AV) (dst:Option Tmp) (ty:TypeId) (pos:String) (after:Array Edge) (g:Option (Nat × Bool)) (t:Operand) (ix:Nat):dc P ev ⟨dst,.extract t ix,ty,pos,after,g⟩=(ev t).bind fun tv=>match tv with
   | .tuple vs=>vs[ix]?
   | _=>none:=rfl
section
variable (call:cz)
theorem o9 (ops:Array Oper) (s:St):gS P C call ops [] s=some s:=rfl
theorem nH (ops:Array Oper) (dst:Option Tmp) (op:Op) (ty:TypeId) (pos:String) (after:Array Edge) (os:List Oper) (tm:List AV) (H:AH):gS P C call ops (⟨dst,op,ty,pos,after,none⟩::os) (tm,H)=(gO P C call (cY C.gl tm) ⟨dst,op,ty,pos,after,none⟩ H).bind fun v=>gS P C call ops os (eC dst v tm,H):=rfl
section
variable (ev:Operand->Option AV) (dst:Option Tmp) (ty:TypeId) (pos:String) (after:Array Edge) (g:Option (Nat × Bool)) (H:AH)
theorem wX (t:TypeId) (a:Operand):gO P C call ev ⟨dst,.load t a,ty,pos,after,g⟩ H=fD P ev ⟨dst,.load t a,ty,pos,after,g⟩ H:=rfl
theorem qR (t:TypeId) (m k:Operand) (ok:Bool):gO P C call ev ⟨dst,.lookup t m k ok,ty,pos,after,g⟩ H=fD P ev ⟨dst,.lookup t m k ok,ty,pos,after,g⟩ H:=rfl
theorem tT (t:TypeId) (x:Operand) (lo hi mx:Option Operand):gO P C call ev ⟨dst,.slice t x lo hi mx,ty,pos,after,g⟩ H=fD P ev ⟨dst,.slice t x lo hi mx,ty,pos,after,g⟩ H:=rfl
theorem o8 (b:Builtin) (xs:Array Operand) (ts:Array TypeId):gO P C call ev ⟨dst,.call ⟨.builtin b,xs,ts⟩,ty,pos,after,g⟩ H=fD P ev ⟨dst,.call ⟨.builtin b,xs,ts⟩,ty,pos,after,g⟩ H:=rfl
theorem wW (x:Operand):gO P C call ev ⟨dst,.move x,ty,pos,after,g⟩ H=ev x:=rfl
theorem qT (x:Operand):gO P C call ev ⟨dst,.assign x,ty,pos,after,g⟩ H=ev x:=rfl
theorem tW (op:BinOp) (t yt:TypeId) (x y:Operand):gO P C call ev ⟨dst,.binOp op t x y yt,ty,pos,after,g⟩ H=dc P ev ⟨dst,.binOp op t x y yt,ty,pos,after,g⟩:=rfl
theorem wV (op:UnOp) (t:TypeId) (x:Operand):gO P C call ev ⟨dst,.unOp op t x,ty,pos,after,g⟩ H=dc P ev ⟨dst,.unOp op t x,ty,pos,after,g⟩:=rfl
theorem o7 (t u:TypeId) (x:Operand):gO P C call ev ⟨dst,.convert t u x,ty,pos,after,g⟩ H=dc P ev ⟨dst,.convert t u x,ty,pos,after,g⟩:=rfl
theorem tV (t:TypeId) (x:Operand) (f:Nat):gO P C call ev ⟨dst,.field t x f,ty,pos,after,g⟩ H=(ev x).bind fun xv=>qc P t xv f:=rfl
theorem mh (t:TypeId) (x:Operand) (f:Nat):gO P C call ev ⟨dst,.fieldAddr t x f,ty,pos,after,g⟩ H=(ev x).bind fun xv=>aL P t xv f:=rfl
theorem mg (t:TypeId) (x i:Operand):gO P C call ev ⟨dst,.indexAddr t x i,ty,pos,after,g⟩ H=(ev x).bind fun xv=>(ev i).bind fun iv=>aC P t xv iv:=rfl
theorem nG (x:Operand):gO P C call ev ⟨dst,.nilCheck x,ty,pos,after,g⟩ H=(ev x).bind jt:=rfl
theorem o6 (t:Operand) (ix:Nat):gO P C call ev ⟨dst,.extract t ix,ty,pos,after,g⟩ H=(ev t).bind fun tv=>match tv with
   | .tuple vs=>vs[ix]?
   | _=>none:=rfl
theorem wY (x:Operand) (xs:Array Operand) (ts:Array TypeId):gO P C call ev ⟨dst,.call ⟨.value x,xs,ts⟩,ty,pos,after,g⟩ H=(gk P C none ev ⟨dst,.call ⟨.value x,xs,ts⟩,ty,pos,after,g⟩ ⟨.value x,xs,ts⟩ H).bind fun r=>match r with
   | (.enter f args,_)=>if C.reads f then (call f args H).map (·.1) else none
   | _=>none:=rfl
end
end
theorem kG {id k:Nat} {ops:Array Oper} (h:pl id=some (.tail k)) (s:St):EvC P C W pl (.region id ops true) s=(jD P C.gl ops (ops.toList.take k) s).bind fun s1=>(B4 P C (Ev P C W) ops (ops.toList.drop k) s1).bind fun s'=>some (.normal,s'):=by rw [OP h];congr 1; funext s1;congr 1;have:=AU (P:=P) (C:=C) (Ev P C W) ops (ops.toList.drop k) k s1 (fun i o h=>by rw [List.getElem?_drop] at h; simpa using h);rw [<-this];congr 1;rw [List.range'_eq_map_range]
end
end Go.Dv
