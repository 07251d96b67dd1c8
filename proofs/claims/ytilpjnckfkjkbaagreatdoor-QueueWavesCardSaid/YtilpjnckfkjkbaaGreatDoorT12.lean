/- Part 12 of the walks (own work). -/
import Derived.Test.YtilpjnckfkjkbaaGreatDoorT11
import Derived.Laws.Strings
import Derived.Laws.StructEq
open Bool renaming and_false→gk,and_self→ot,and_true→fx,eq_false_iff→Is,eq_iff_iff→fM,false_and→bc,false_eq_true→bE,false_or→lI,not_eq_true'→bj,not_false→gj,not_not→Dy,not_true→tZ,or_false→lS,or_true→qp,true_and→bd,true_or→qo
open ByteArray renaming ext→VB
open Int renaming toNat_natCast→cw
open List renaming all_cons→gF,all_nil→pk,append_assoc→aG,append_nil→af,cons_append→iF,contains_cons→tY,contains_eq_any_beq→Aw,drop_succ_cons→sC,drop_zero→gA,getElem?_append_left→aw,getElem?_cons_succ→o0,getElem?_cons_zero→iq,getElem?_eq_getElem→aj,getElem?_toArray→qm,head?_cons→ql,length_append→ai,length_cons→cF,length_map→ar,length_nil→gC,length_set→aq,map_cons→gI,mem_range'_1→Iq,nil_append→g6,range→bn,replicate→ay,set_cons_succ→tX,set_cons_zero→kz,take_succ_cons→jJ,take_zero→nz,zip→wU
open Nat renaming add_zero→oq
open Option renaming bind_some→aA,getD_some→fq,isSome_some→DD,map→rA,map_some→cE
open Go.Proofs.Tryz renaming prog→aa
set_option maxRecDepth 100000
set_option maxHeartbeats 4000000
set_option linter.unusedSimpArgs false
set_option linter.unusedVariables false
namespace Go.Dv
open Go.Proofs
attribute [local congr] aF bC aY bB bD
def au (H K:AH):Prop:=∀ j,j < H.length->K[j]? =H[j]?
theorem au.refl (H:AH):au H H:=fun _ _=>rfl
theorem au.app (H L:AH):au H (H++L):=fun _ h=>aw h
theorem au.len {H K:AH} (h:au H K):H.length<=K.length:=by
 rcases Nat.lt_or_ge K.length H.length with c | c
 · have:=h K.length c
   rw [List.getElem?_eq_none (Nat.le_refl _),aj c] at this; cases this
 · exact c
theorem au.trans {H K M:AH} (h:au H K) (k:au K M):au H M:=fun j hj=>(k j (Nat.lt_of_lt_of_le hj h.len)).trans (h j hj)
theorem au.bS {H K:AH} (h:au H K) (L:AH):au H (K++L):=h.trans (au.app K L)
theorem au.pC {H K:AH} (h:au H K) {i:Nat} (hi:H.length<=i) (o:bl):au H (K.set i o):=fun j hj=>by
 rw [List.getElem?_set_ne (by omega)]; exact h j hj
theorem au.get {H K:AH} (h:au H K) {i:Nat} {o:bl} (hi:H[i]? =some o):K[i]? =some o:=by
 rw [h i (aJ hi)]; exact hi
theorem PX {K:AH} {i:Nat} {o:bl} (h:K[i]? =some o) (L:AH):(K++L)[i]? =some o:=by
 rw [aw (aJ h)]; exact h
theorem eL {K:AH} {b:Nat} {cs:List AV} {e:TypeId} (h:K[b]? =some (.cells cs e)) (L:AH) (k n:Nat):ak (K++L) b k n=if k+n<=cs.length then some ((cs.drop k).take n) else none:=by
 unfold ak; rw [PX h L]
theorem iZ {H K:AH} {i k es:Nat} {row:List AV} (hr:ak H i k es=some row) (hA:au H K) (L:AH):ak (K++L) i k es=some row:=jE (hA.bS L) hr
theorem Fi {H K:AH} {i k es:Nat} {row:List AV} (hr:ak H i k es=some row) (hA:au H K) (L:AH) (c:Nat) {x:AV} (hc:row[c]? =some x):ak (K++L) i (k+c) 1=some [x]:=jE (hA.bS L) (kU hr hc)
theorem zA {H K:AH} {i k es:Nat} {row:List AV} (hr:ak H i k es=some row) (hA:au H K) (L:AH) {x:AV} (hc:row[0]? =some x):ak (K++L) i k 1=some [x]:=Fi hr hA L 0 hc
theorem Az:aa.underlying 9=some .string:=by kernel_rfl
theorem N0:aa.underlying 3=some (.int .i64):=by kernel_rfl
theorem Fc:aa.underlying 21=some (.int .i32):=by kernel_rfl
theorem ln9 (H:AH) (s:ByteArray):dQ aa 9 H (.str s)=some (.int .i64 s.size):=by kernel_rfl
def sEq (a b:ByteArray):Bool:=a.toList == b.toList
theorem AF (a b:ByteArray):(a == b)=sEq a b:=beq_toListBytes a b
theorem qv (a b:ByteArray):sEq a b=true↔a=b:=by
 unfold sEq
 rw [beq_iff_eq,ByteArray.toList_eq,ByteArray.toList_eq]
 exact ⟨fun h=>VB (Array.toList_inj.1 h),fun h=>by rw [h]⟩
theorem BK (a b:ByteArray):sEq a b=sEq b a:=by rw [fM,qv,qv,eq_comm]
theorem pure_seq {ev:Operand->Option AV} {x y:Operand} {a b:ByteArray} (hx:ev x=some (.str a)) (hy:ev y=some (.str b)) (dst:Option Tmp) (yt ty:TypeId) (pos:String) (after:Array Edge) (g:Option (Nat × Bool)) :
   cZ aa ev ⟨dst,.binOp .eql 9 x y yt,ty,pos,after,g⟩=some (.val (.bool (sEq a b))):=by
 have:gv aa (execOp (kh ev) ⟨dst,.binOp .eql 9 x y yt,ty,pos,after,g⟩)=gv aa (do pure (Next.value (<-binOp .eql 9 (.string a) (.string b)))):=by
   simp [execOp,kh,hx,hy,toV,eqGuard,bind,Sem.bind,pure]
 have h2:gv aa (do pure (Next.value (<-binOp .eql 9 (.string a) (.string b))))=some (.value (.bool (sEq a b))):=by rw [binOp_string_eql]; rfl
 simp only [cZ,notSelect,Op.operands,hx,hy,toV,this,h2,aA,DD,gF,pk,ot,if_true]
 rfl
theorem BV {ev:Operand->Option AV} {x y:Operand} {a b:ByteArray} (hx:ev x=some (.str a)) (hy:ev y=some (.str b)) (dst:Option Tmp) (yt ty:TypeId) (pos:String) (after:Array Edge) (g:Option (Nat × Bool)) :
   cZ aa ev ⟨dst,.binOp .neq 9 x y yt,ty,pos,after,g⟩=some (.val (.bool (!sEq a b))):=by
 have:gv aa (execOp (kh ev) ⟨dst,.binOp .neq 9 x y yt,ty,pos,after,g⟩)=gv aa (do pure (Next.value (<-binOp .neq 9 (.string a) (.string b)))):=by
   simp [execOp,kh,hx,hy,toV,eqGuard,bind,Sem.bind,pure]
 have h2:gv aa (do pure (Next.value (<-binOp .neq 9 (.string a) (.string b))))=some (.value (.bool (!sEq a b))):=by rw [binOp_string_neq]; rfl
 simp only [cZ,notSelect,Op.operands,hx,hy,toV,this,h2,aA,DD,gF,pk,ot,if_true]
 rfl
noncomputable def jh (op:BinOp) (t:TypeId) (x y:AV) (H:AH) (fb:Option AV):Option AV:=
 match x,y with
 | .int k a,.int k' b=>match (if k=k' then fh op k a b else none) with
   | some v=>some v
   | none=>fb
 | .str a,.str b=>if t=9 then match op with
     | .eql=>some (.bool (sEq a b))
     | .neq=>some (.bool (!sEq a b))
     | _=>fb
   else fb
 | _,_=>match op,eqA aa t H x y with
   | .eql,some r=>some (.bool r)
   | .neq,some r=>some (.bool (!r))
   | _,_=>fb
noncomputable def Ie (op:BinOp) (t:TypeId) (x y:AV) (fb:Option AV):Option AV:=
 match x,y with
 | .int k a,.int k' b=>match (if k=k' then fh op k a b else none) with
   | some v=>some v
   | none=>fb
 | .str a,.str b=>if t=9 then match op with
     | .eql=>some (.bool (sEq a b))
     | .neq=>some (.bool (!sEq a b))
     | _=>fb
   else fb
 | _,_=>match op,ED aa t x y with
   | .eql,some r=>some (.bool r)
   | .neq,some r=>some (.bool (!r))
   | _,_=>fb
def fbA (r:Option jr):Option AV:=r.bind fun n=>match n with
 | .val v=>some v
 | _=>none
theorem JC (ev:Operand->Option AV) (o:Oper) (H:AH):(cZ aa ev o).map (fun n=>(n,H))=(fbA (cZ aa ev o)).map fun v=>(.val v,H):=by
 have:cZ aa ev o=none∨∃ v,cZ aa ev o=some (.val v):=by
   unfold cZ
   split
   · split
     · rename_i v _
       cases ofV 6 v with
       | none=>exact .inl rfl
       | some a=>exact .inr ⟨a,rfl⟩
     · exact .inl rfl
   · exact .inl rfl
 rcases this with h | ⟨v,h⟩ <;> rw [h] <;> rfl
theorem Qc {t:TypeId} {H:AH} {a b:ByteArray}:eqA aa t H (.str a) (.str b)=none:=by
 unfold eqA
 split <;> first | rfl | skip
theorem mb1 (r fb:Option AV) (H:AH):(match r with
   | some v=>some (jr.val v,H)
   | none=>rA (fun v=>(jr.val v,H)) fb)=rA (fun v=>(jr.val v,H)) (match r with
   | some v=>some v
   | none=>fb):=by cases r <;> rfl
theorem mb2 (op:BinOp) (r:Option Bool) (fb:Option AV) (H:AH):(match op,r with
   | .eql,some r=>some (jr.val (.bool r),H)
   | .neq,some r=>some (jr.val (.bool (!r)),H)
   | _,_=>rA (fun v=>(jr.val v,H)) fb)=rA (fun v=>(jr.val v,H)) (match op,r with
   | .eql,some r=>some (AV.bool r)
   | .neq,some r=>some (.bool (!r))
   | _,_=>fb):=by cases op <;> cases r <;> rfl
theorem yT {C:Cfg aa} (slot:Option Nat) (ev:Operand->Option AV) (dst:Option Tmp) (ty:TypeId) (pos:String) (after:Array Edge) (g:Option (Nat × Bool)) (H:AH) (op:BinOp) (t yt:TypeId) (x y:Operand) :
   aop aa C slot ev ⟨dst,.binOp op t x y yt,ty,pos,after,g⟩ H=(ev x).bind fun xv=>(ev y).bind fun yv=>(jh op t xv yv H (fbA (cZ aa ev ⟨dst,.binOp op t x y yt,ty,pos,after,g⟩))).map fun v=>(.val v,H):=by
 rw [Il]
 cases hx:ev x with
 | none=>rfl
 | some xv =>
   cases hy:ev y with
   | none=>rfl
   | some yv =>
     simp only [aA]
     rw [JC]
     unfold jh
     cases xv <;> cases yv <;> (try simp only [Qc]) <;> first
       | exact mb1 _ _ _
       | exact mb2 _ _ _ _
       | (by_cases ht:t=9
          · subst ht
            cases op <;> first
              | (simp only [if_true,cE]; rw [pure_seq hx hy]; rfl)
              | (simp only [if_true,cE]; rw [BV hx hy]; rfl)
              | rfl
          · rw [if_neg ht])
theorem BU (ev:Operand->Option AV) (dst:Option Tmp) (ty:TypeId) (pos:String) (after:Array Edge) (g:Option (Nat × Bool)) (op:BinOp) (t yt:TypeId) (x y:Operand) :
   cR aa ev ⟨dst,.binOp op t x y yt,ty,pos,after,g⟩=(ev x).bind fun xv=>(ev y).bind fun yv=>Ie op t xv yv (fbA (cZ aa ev ⟨dst,.binOp op t x y yt,ty,pos,after,g⟩)):=by
 rw [OD]
 cases hx:ev x with
 | none=>rfl
 | some xv =>
   cases hy:ev y with
   | none=>rfl
   | some yv =>
     simp only [aA]
     unfold Ie
     cases xv <;> cases yv <;> (try simp only [show ∀ a b,ED aa t (.str a) (.str b)=none from fun _ _=>rfl]) <;> first
       | rfl
       | (by_cases ht:t=9
          · subst ht
            cases op <;> first
              | (simp only [if_true]; rw [pure_seq hx hy]; rfl)
              | (simp only [if_true]; rw [BV hx hy]; rfl)
              | rfl
          · rw [if_neg ht]; rfl)
theorem CS (op:BinOp) (t:TypeId) (k:IntKind) (a b:Int) (H:AH) (fb:Option AV):jh op t (.int k a) (.int k b) H fb=match fh op k a b with
   | some v=>some v
   | none=>fb:=by unfold jh; simp only [if_true]
theorem CR (a b:ByteArray) (H:AH) (fb:Option AV):jh .eql 9 (.str a) (.str b) H fb=some (.bool (sEq a b)):=rfl
theorem CQ (a b:ByteArray) (H:AH) (fb:Option AV):jh .neq 9 (.str a) (.str b) H fb=some (.bool (!sEq a b)):=rfl
theorem CV (op:BinOp) (t:TypeId) (k:IntKind) (a b:Int) (fb:Option AV):Ie op t (.int k a) (.int k b) fb=match fh op k a b with
   | some v=>some v
   | none=>fb:=by unfold Ie; simp only [if_true]
theorem CU (a b:ByteArray) (fb:Option AV):Ie .eql 9 (.str a) (.str b) fb=some (.bool (sEq a b)):=rfl
theorem CT (a b:ByteArray) (fb:Option AV):Ie .neq 9 (.str a) (.str b) fb=some (.bool (!sEq a b)):=rfl
theorem JB (ev:Operand->Option AV) (dst:Option Tmp) (ty:TypeId) (pos:String) (after:Array Edge) (g:Option (Nat × Bool)) (t:TypeId) (x:Operand) :
   cR aa ev ⟨dst,.unOp .not t x,ty,pos,after,g⟩=(ev x).bind fun xv=>match xv with
     | .bool b=>some (.bool !b)
     | _=>fbA (cZ aa ev ⟨dst,.unOp .not t x,ty,pos,after,g⟩):=by
 cases hx:ev x with
 | none =>
   have:=jc (P:=aa) (ev:=ev) (o:=⟨dst,.unOp .not t x,ty,pos,after,g⟩) (x:=x) (by simp [Op.operands]) hx
   simp only [cR,this]; rfl
 | some xv =>
   simp only [aA]
   split
   · simp only [cR,zD hx]; rfl
   · simp only [cR]; rfl
theorem Fs {t u:TypeId} {dt:TypeDesc} {k':IntKind} (ht:aa.underlying t=some dt) (hu:aa.underlying u=some (.int k')) (ev:Operand->Option AV) (dst:Option Tmp) (ty:TypeId) (pos:String) (after:Array Edge) (g:Option (Nat × Bool)) (x:Operand) :
   cR aa ev ⟨dst,.convert t u x,ty,pos,after,g⟩=(ev x).bind fun xv=>match xv with
     | .int _ n=>some (.int k' (k'.wrap n))
     | _=>fbA (cZ aa ev ⟨dst,.convert t u x,ty,pos,after,g⟩):=by
 cases hx:ev x with
 | none =>
   have:=jc (P:=aa) (ev:=ev) (o:=⟨dst,.convert t u x,ty,pos,after,g⟩) (x:=x) (by simp [Op.operands]) hx
   simp only [cR,this]; rfl
 | some xv =>
   simp only [aA]
   split
   · simp only [cR,rG ht hu hx]; rfl
   · simp only [cR]; rfl
def pd (l:List ByteArray):List (AV × AV × Nat):=(wU l (bn l.length)).map fun p=>(.str p.1,.bool true,p.2)
theorem Q6:ll aa 172=some (9,4):=by kernel_rfl
theorem z4:dP aa 4=some (.bool false):=by kernel_rfl
theorem Z5 (e:Bool) (s:ByteArray):EW aa 9 e (.str s)=some (.string s,.string):=by cases e <;> kernel_rfl
theorem Cy (s:ByteArray):∀ (l:List (ByteArray × Nat)) (i:Nat),iI aa 9 .string (.string s) (l.map fun p=>(.str p.1,.bool true,p.2)) i=if (l.map (·.1)).contains s then (iI aa 9 .string (.string s) (l.map fun p=>(.str p.1,.bool true,p.2)) i) else some none
 | [],i=>rfl
 | p::l,i=>by
   have ih:=Cy s l (i+1)
   simp only [gI,iI,toV,aA,vt,Instr.sameNow,tY]
   cases h:(s == p.1) with
   | true=>simp
   | false=>simp only [lI]; exact ih
theorem z6 (s:ByteArray):∀ (l:List (ByteArray × Nat)) (i:Nat),(l.map (·.1)).contains s=true->∃ j,iI aa 9 .string (.string s) (l.map fun p=>(.str p.1,.bool true,p.2)) i=some (some (j,.bool true))
 | [],i,h=>by simp at h
 | p::l,i,h=>by
   simp only [gI,iI,toV,aA,vt,Instr.sameNow]
   cases h':(s == p.1) with
   | true=>exact ⟨i,rfl⟩
   | false =>
     simp only [gI,tY,h',lI] at h
     exact z6 s l (i+1) h
theorem BF (l:List ByteArray):(wU l (bn l.length)).map (·.1)=l:=by rw [List.map_fst_zip (by simp)]
theorem z7 (s:ByteArray) (l:List ByteArray) (h:l.contains s=false):iI aa 9 .string (.string s) (pd l) 0=some none:=by
 unfold pd
 rw [Cy,BF,h]; rfl
theorem Ey (s:ByteArray) (l:List ByteArray) (h:l.contains s=true):∃ j,iI aa 9 .string (.string s) (pd l) 0=some (some (j,.bool true)):=z6 s _ 0 (by rw [BF]; exact h)
def sIn (l:List ByteArray) (s:ByteArray):Bool:=l.contains s
theorem Rb {H:AH} {i:Nat} {l:List ByteArray} {c:Nat} (h:H[i]? =some (.map (pd l) c)) (s:ByteArray):iB aa 172 (.map i) (.str s) false H=some (.bool (sIn l s)):=by
 unfold sIn
 simp only [iB,Q6,jy,h,aA,Z5]
 cases hc:l.contains s with
 | true =>
   obtain ⟨j,hj⟩:=Ey s l hc
   rw [hj]; rfl
 | false =>
   rw [z7 s l hc]
   simp only [aA,z4]; rfl
theorem G4 (l:List ByteArray) (s:ByteArray):pd l++[(.str s,.bool true,l.length)]=pd (l++[s]):=by
 unfold pd
 rw [ai,List.length_singleton,List.range_succ,List.zip_append (by simp),List.map_append]; rfl
theorem WL {H:AH} {i:Nat} {l:List ByteArray} (h:H[i]? =some (.map (pd l) l.length)) {s:ByteArray} (hc:sIn l s=false):iz aa 172 (.map i) (.str s) (.bool true) H=some (H.set i (.map (pd (l++[s])) (l++[s]).length)):=by
 unfold sIn at hc
 simp only [iz,Q6,h,aA,Z5,z7 s l hc]
 rw [G4,ai]; rfl
end Go.Dv
namespace Go.Dv
open Go.Proofs
theorem ao:(type_of% @qW)/\(type_of% @tT)/\(type_of% @tV)/\(type_of% @wT)/\(type_of% @oh)/\(type_of% @qY)/\(type_of% @jf)/\(type_of% @qJ)/\(type_of% @qX)/\(type_of% @fX)/\(type_of% @cK)/\(type_of% @tW)/\(type_of% @oV)/\(type_of% @nv)/\(type_of% @kX)/\(type_of% @wJ)/\(type_of% @qL)/\(type_of% @tH)/\(type_of% @oU)/\(type_of% @wI)/\(type_of% @qM)/\(type_of% @tI)/\(type_of% @tK)/\(type_of% @wG)/\(type_of% @oT)/\(type_of% @tJ)/\(type_of% @l8)/\(type_of% @l7)/\(type_of% @nu)/\(type_of% @oS)/\(type_of% @wK)/\(type_of% (Fs Fc N0))/\(type_of% @qy)/\(type_of% @sS)/\(type_of% @oB)/\(type_of% @mX)/\(type_of% @kT)/\(type_of% @Cr)/\(type_of% @Cs)/\(type_of% @ng)/\(type_of% @dO)/\(type_of% @ct)/\(type_of% @ox)/\(type_of% @lV)/\(type_of% @tP)/\(type_of% @oZ)/\(type_of% @tQ)/\(type_of% @qP)/\(type_of% @qV)/\(type_of% @wS)/\(type_of% @qU)/\(type_of% @mc)/\(type_of% @k5)/\(type_of% @qT)/\(type_of% @kZ)/\(type_of% @yT)/\(type_of% @qR)/\(type_of% @ny)/\(type_of% @oY)/\(type_of% @kY)/\(type_of% @lA)/\(type_of% @me)/\(type_of% @ku)/\(type_of% @qQ)/\(type_of% @wR)/\(type_of% (Dn (C:=C0) Fc N0))/\(type_of% @tR)/\(type_of% @fY)/\(type_of% @ck)/\(type_of% @wo)/\(type_of% @qB)/\(type_of% @sV)/\(type_of% @ki)/\(type_of% @wm)/\(type_of% @qC)/\(type_of% @sX)/\(type_of% @sZ)/\(type_of% @wj)/\(type_of% @oD)/\(type_of% @sY)/\(type_of% @lZ)/\(type_of% @lY)/\(type_of% @mZ)/\(type_of% @oC)/\(type_of% @BU)/\(type_of% @JB)/\(type_of% @ov):=⟨@qW,@tT,@tV,@wT,@oh,@qY,@jf,@qJ,@qX,@fX,@cK,@tW,@oV,@nv,@kX,@wJ,@qL,@tH,@oU,@wI,@qM,@tI,@tK,@wG,@oT,@tJ,@l8,@l7,@nu,@oS,@wK,(Fs Fc N0),@qy,@sS,@oB,@mX,@kT,@Cr,@Cs,@ng,@dO,@ct,@ox,@lV,@tP,@oZ,@tQ,@qP,@qV,@wS,@qU,@mc,@k5,@qT,@kZ,@yT,@qR,@ny,@oY,@kY,@lA,@me,@ku,@qQ,@wR,(Dn (C:=C0) Fc N0),@tR,@fY,@ck,@wo,@qB,@sV,@ki,@wm,@qC,@sX,@sZ,@wj,@oD,@sY,@lZ,@lY,@mZ,@oC,@BU,@JB,@ov⟩
theorem an:(type_of% @F8)/\(type_of% @dO)/\(type_of% @ct)/\(type_of% @Bq)/\(type_of% @wP)/\(type_of% @wO)/\(type_of% @Br)/\(type_of% @wN)/\(type_of% @wM)/\(type_of% @g8)/\(type_of% @wE)/\(type_of% @tE)/\(type_of% @tD)/\(type_of% @Bh)/\(type_of% @Cr)/\(type_of% @Cs)/\(type_of% @ng)/\(type_of% @jf)/\(type_of% @CS)/\(type_of% @CR)/\(type_of% @CQ)/\(type_of% @CV)/\(type_of% @CU)/\(type_of% @CT)/\(type_of% @Bi)/\(type_of% @tG)/\(type_of% @m5)/\(type_of% @pL)/\(type_of% @wD)/\(type_of% @l3)/\(type_of% @oH)/\(type_of% @qD)/\(type_of% @qE)/\(type_of% @dv)/\(type_of% @zX)/\(type_of% @aq.{0})/\(type_of% @aA.{0,0})/\(type_of% @cE.{0,0})/\(type_of% @A7)/\(type_of% @A8)/\(type_of% @A9)/\(type_of% @Ba)/\(type_of% @Bb)/\(type_of% @A6)/\(type_of% @Bc)/\(type_of% @A5)/\(type_of% @ne_eq.{1})/\(type_of% @not_false_eq_true)/\(type_of% @if_true.{1})/\(type_of% @if_false.{1})/\(type_of% @ite_true.{1})/\(type_of% @ite_false.{1})/\(type_of% @wA)/\(type_of% @and_true)/\(type_of% @true_and)/\(type_of% @and_self)/\(type_of% @decide_true)/\(type_of% @decide_false)/\(type_of% @v5)/\(type_of% @nw)/\(type_of% @l9)/\(type_of% @qm.{0})/\(type_of% @iq.{0})/\(type_of% @o0.{0})/\(type_of% @beq_self_eq_true.{0})/\(type_of% @w4)/\(type_of% @wc)/\(type_of% @jN)/\(type_of% @gu)/\(type_of% @s4)/\(type_of% @s0)/\(type_of% @sG)/\(type_of% @sF)/\(type_of% @gF.{0})/\(type_of% @pk.{0})/\(type_of% @ot)/\(type_of% @bd)/\(type_of% @fx)/\(type_of% @bc)/\(type_of% @gk)/\(type_of% @qo)/\(type_of% @qp)/\(type_of% @lI)/\(type_of% @lS)/\(type_of% @tZ)/\(type_of% @gj)/\(type_of% @Dy)/\(type_of% @gA.{0})/\(type_of% @jJ.{0})/\(type_of% @nz.{0})/\(type_of% @sC.{0})/\(type_of% @ql.{0})/\(type_of% @cF.{0})/\(type_of% @gC.{0})/\(type_of% @g6.{0})/\(type_of% @iF.{0})/\(type_of% @aG.{0})/\(type_of% @kz.{0})/\(type_of% @tX.{0})/\(type_of% @cw)/\(type_of% @oq)/\(type_of% @QC)/\(type_of% @QB)/\(type_of% @bE):=⟨@F8,@dO,@ct,@Bq,@wP,@wO,@Br,@wN,@wM,@g8,@wE,@tE,@tD,@Bh,@Cr,@Cs,@ng,@jf,@CS,@CR,@CQ,@CV,@CU,@CT,@Bi,@tG,@m5,@pL,@wD,@l3,@oH,@qD,@qE,@dv,@zX,@aq.{0},@aA.{0,0},@cE.{0,0},@A7,@A8,@A9,@Ba,@Bb,@A6,@Bc,@A5,@ne_eq.{1},@not_false_eq_true,@if_true.{1},@if_false.{1},@ite_true.{1},@ite_false.{1},@wA,@and_true,@true_and,@and_self,@decide_true,@decide_false,@v5,@nw,@l9,@qm.{0},@iq.{0},@o0.{0},@beq_self_eq_true.{0},@w4,@wc,@jN,@gu,@s4,@s0,@sG,@sF,@gF.{0},@pk.{0},@ot,@bd,@fx,@bc,@gk,@qo,@qp,@lI,@lS,@tZ,@gj,@Dy,@gA.{0},@jJ.{0},@nz.{0},@sC.{0},@ql.{0},@cF.{0},@gC.{0},@g6.{0},@iF.{0},@aG.{0},@kz.{0},@tX.{0},@cw,@oq,@QC,@QB,@bE⟩
theorem az:(type_of% @ld3)/\(type_of% @ld4)/\(type_of% @ld5)/\(type_of% @ld9)/\(type_of% @Xr)/\(type_of% @Xq)/\(type_of% @Xp)/\(type_of% @Xo)/\(type_of% @Xm)/\(type_of% @Xl)/\(type_of% @Xk)/\(type_of% @Xj)/\(type_of% @Xi)/\(type_of% @Xh)/\(type_of% @Xg)/\(type_of% @Xf)/\(type_of% @Rd)/\(type_of% @Xn)/\(type_of% @HB)/\(type_of% @Ut)/\(type_of% @Xe)/\(type_of% @Xb)/\(type_of% @Xa)/\(type_of% @W9)/\(type_of% @Xd)/\(type_of% @Xc)/\(type_of% @Rf)/\(type_of% @Lu)/\(type_of% @Lt)/\(type_of% @Ls)/\(type_of% @Lr)/\(type_of% @Lq)/\(type_of% @Le)/\(type_of% @Ld)/\(type_of% @Lc)/\(type_of% @Lb)/\(type_of% @La)/\(type_of% @K9)/\(type_of% @KZ)/\(type_of% @KY)/\(type_of% @Li)/\(type_of% @Lh)/\(type_of% @Lg)/\(type_of% @Lf)/\(type_of% @LD)/\(type_of% @LC)/\(type_of% @LB)/\(type_of% @LA)/\(type_of% @Lz)/\(type_of% @Ly)/\(type_of% @Lx)/\(type_of% @Lw)/\(type_of% @Lv)/\(type_of% @LL)/\(type_of% @LK)/\(type_of% @LJ)/\(type_of% @LI)/\(type_of% @LH)/\(type_of% @LG)/\(type_of% @LF)/\(type_of% @iO)/\(type_of% @yB)/\(type_of% @pT)/\(type_of% @EC)/\(type_of% @Lp)/\(type_of% @Lo)/\(type_of% @Ln)/\(type_of% @Lm)/\(type_of% @Ll)/\(type_of% @Lk)/\(type_of% @Lj):=⟨@ld3,@ld4,@ld5,@ld9,@Xr,@Xq,@Xp,@Xo,@Xm,@Xl,@Xk,@Xj,@Xi,@Xh,@Xg,@Xf,@Rd,@Xn,@HB,@Ut,@Xe,@Xb,@Xa,@W9,@Xd,@Xc,@Rf,@Lu,@Lt,@Ls,@Lr,@Lq,@Le,@Ld,@Lc,@Lb,@La,@K9,@KZ,@KY,@Li,@Lh,@Lg,@Lf,@LD,@LC,@LB,@LA,@Lz,@Ly,@Lx,@Lw,@Lv,@LL,@LK,@LJ,@LI,@LH,@LG,@LF,@iO,@yB,@pT,@EC,@Lp,@Lo,@Ln,@Lm,@Ll,@Lk,@Lj⟩
end Go.Dv
namespace Go.Dv
open Go.Proofs
attribute [local congr] aF bC aY bB bD
theorem cbT {α:Type} (x z:α):cb true x z=x:=rfl
theorem cbF {α:Type} (x z:α):cb false x z=z:=rfl
end Go.Dv
namespace Go.Dv
theorem gde {α:Type} (l:List α) (i:Nat) (d:α):l.getD i d=(l[i]?).getD d:=List.getD_eq_getElem?_getD
theorem ls (l:List AV) (i:Nat) (a:AV):(l.set i a).length=l.length:=aq
theorem gB:(type_of% @dv)/\(type_of% @zX)/\(∀ (l:List AV) (i:Nat) (a:AV),(l.set i a).length=l.length)/\(∀ a b:Nat,(a≠b)=¬ (a=b))/\((¬ False)=True):=⟨@dv,@zX,fun _ _ _=>aq,fun _ _=>rfl,not_false_eq_true⟩
theorem eu:(type_of% @AV.cells.eq_1)/\(type_of% @AV.cells.eq_2)/\(type_of% @spl.eq_1)/\(type_of% @spl.eq_2)/\(type_of% @AV.one.eq_1)/\(type_of% @AV.one.eq_2)/\(type_of% @AV.one.eq_3)/\(type_of% @evL.eq_1)/\(type_of% @evL.eq_2)/\(type_of% @evO.eq_1)/\(type_of% @evO.eq_2)/\(type_of% @evP.eq_1)/\(type_of% @evP.eq_2):=⟨@AV.cells.eq_1,@AV.cells.eq_2,@spl.eq_1,@spl.eq_2,@AV.one.eq_1,@AV.one.eq_2,@AV.one.eq_3,@evL.eq_1,@evL.eq_2,@evO.eq_1,@evO.eq_2,@evP.eq_1,@evP.eq_2⟩
theorem aP:(type_of% @aI.eq_1)/\(type_of% @aI.eq_2)/\(type_of% @aI.eq_3)/\(type_of% @aI.eq_4)/\(type_of% @aI.eq_5)/\(type_of% @aI.eq_6)/\(type_of% @aI.eq_7)/\(∀ a b:Code,(some a).getD b=a):=⟨@aI.eq_1,@aI.eq_2,@aI.eq_3,@aI.eq_4,@aI.eq_5,@aI.eq_6,@aI.eq_7,fun _ _=>rfl⟩
theorem tm1 (a0:AV) (n:Nat) (h:1<=n):∃ tm:List AV,([a0]:List AV)++ay (n - ([a0]:List AV).length) uA=tm/\tm.length=n/\tm.getD 0 uA=a0:=⟨_,rfl,by simp; omega,rfl⟩
theorem tm2 (a0 a1:AV) (n:Nat) (h:2<=n):∃ tm:List AV,([a0,a1]:List AV)++ay (n - ([a0,a1]:List AV).length) uA=tm/\tm.length=n/\tm.getD 0 uA=a0/\tm.getD 1 uA=a1:=⟨_,rfl,by simp; omega,rfl,rfl⟩
theorem tm3 (a0 a1 a2:AV) (n:Nat) (h:3<=n):∃ tm:List AV,([a0,a1,a2]:List AV)++ay (n - ([a0,a1,a2]:List AV).length) uA=tm/\tm.length=n/\tm.getD 0 uA=a0/\tm.getD 1 uA=a1/\tm.getD 2 uA=a2:=⟨_,rfl,by simp; omega,rfl,rfl,rfl⟩
theorem tm4 (a0 a1 a2 a3:AV) (n:Nat) (h:4<=n):∃ tm:List AV,([a0,a1,a2,a3]:List AV)++ay (n - ([a0,a1,a2,a3]:List AV).length) uA=tm/\tm.length=n/\tm.getD 0 uA=a0/\tm.getD 1 uA=a1/\tm.getD 2 uA=a2/\tm.getD 3 uA=a3:=⟨_,rfl,by simp; omega,rfl,rfl,rfl,rfl⟩
theorem tm5 (a0 a1 a2 a3 a4:AV) (n:Nat) (h:5<=n):∃ tm:List AV,([a0,a1,a2,a3,a4]:List AV)++ay (n - ([a0,a1,a2,a3,a4]:List AV).length) uA=tm/\tm.length=n/\tm.getD 0 uA=a0/\tm.getD 1 uA=a1/\tm.getD 2 uA=a2/\tm.getD 3 uA=a3/\tm.getD 4 uA=a4:=⟨_,rfl,by simp; omega,rfl,rfl,rfl,rfl,rfl⟩
theorem tm6 (a0 a1 a2 a3 a4 a5:AV) (n:Nat) (h:6<=n):∃ tm:List AV,([a0,a1,a2,a3,a4,a5]:List AV)++ay (n - ([a0,a1,a2,a3,a4,a5]:List AV).length) uA=tm/\tm.length=n/\tm.getD 0 uA=a0/\tm.getD 1 uA=a1/\tm.getD 2 uA=a2/\tm.getD 3 uA=a3/\tm.getD 4 uA=a4/\tm.getD 5 uA=a5:=⟨_,rfl,by simp; omega,rfl,rfl,rfl,rfl,rfl,rfl⟩
theorem tm7 (a0 a1 a2 a3 a4 a5 a6:AV) (n:Nat) (h:7<=n):∃ tm:List AV,([a0,a1,a2,a3,a4,a5,a6]:List AV)++ay (n - ([a0,a1,a2,a3,a4,a5,a6]:List AV).length) uA=tm/\tm.length=n/\tm.getD 0 uA=a0/\tm.getD 1 uA=a1/\tm.getD 2 uA=a2/\tm.getD 3 uA=a3/\tm.getD 4 uA=a4/\tm.getD 5 uA=a5/\tm.getD 6 uA=a6:=⟨_,rfl,by simp; omega,rfl,rfl,rfl,rfl,rfl,rfl,rfl⟩
theorem Aj2 {p0 p1 r:Prop} (h:p0/\p1) (k:r):p0/\p1/\r:=⟨h.1,h.2,k⟩
theorem Aj3 {p0 p1 p2 r:Prop} (h:p0/\p1/\p2) (k:r):p0/\p1/\p2/\r:=⟨h.1,h.2.1,h.2.2,k⟩
theorem Aj4 {p0 p1 p2 p3 r:Prop} (h:p0/\p1/\p2/\p3) (k:r):p0/\p1/\p2/\p3/\r:=⟨h.1,h.2.1,h.2.2.1,h.2.2.2,k⟩
theorem Aj5 {p0 p1 p2 p3 p4 r:Prop} (h:p0/\p1/\p2/\p3/\p4) (k:r):p0/\p1/\p2/\p3/\p4/\r:=⟨h.1,h.2.1,h.2.2.1,h.2.2.2.1,h.2.2.2.2,k⟩
theorem Aj6 {p0 p1 p2 p3 p4 p5 r:Prop} (h:p0/\p1/\p2/\p3/\p4/\p5) (k:r):p0/\p1/\p2/\p3/\p4/\p5/\r:=⟨h.1,h.2.1,h.2.2.1,h.2.2.2.1,h.2.2.2.2.1,h.2.2.2.2.2,k⟩
theorem Aj7 {p0 p1 p2 p3 p4 p5 p6 r:Prop} (h:p0/\p1/\p2/\p3/\p4/\p5/\p6) (k:r):p0/\p1/\p2/\p3/\p4/\p5/\p6/\r:=⟨h.1,h.2.1,h.2.2.1,h.2.2.2.1,h.2.2.2.2.1,h.2.2.2.2.2.1,h.2.2.2.2.2.2,k⟩
theorem Aj8 {p0 p1 p2 p3 p4 p5 p6 p7 r:Prop} (h:p0/\p1/\p2/\p3/\p4/\p5/\p6/\p7) (k:r):p0/\p1/\p2/\p3/\p4/\p5/\p6/\p7/\r:=⟨h.1,h.2.1,h.2.2.1,h.2.2.2.1,h.2.2.2.2.1,h.2.2.2.2.2.1,h.2.2.2.2.2.2.1,h.2.2.2.2.2.2.2,k⟩
theorem Aj9 {p0 p1 p2 p3 p4 p5 p6 p7 p8 r:Prop} (h:p0/\p1/\p2/\p3/\p4/\p5/\p6/\p7/\p8) (k:r):p0/\p1/\p2/\p3/\p4/\p5/\p6/\p7/\p8/\r:=⟨h.1,h.2.1,h.2.2.1,h.2.2.2.1,h.2.2.2.2.1,h.2.2.2.2.2.1,h.2.2.2.2.2.2.1,h.2.2.2.2.2.2.2.1,h.2.2.2.2.2.2.2.2,k⟩
theorem adw {p0 p1 p2 p3 p4 p5 p6 p7 p8 p9 r:Prop} (h:p0/\p1/\p2/\p3/\p4/\p5/\p6/\p7/\p8/\p9) (k:r):p0/\p1/\p2/\p3/\p4/\p5/\p6/\p7/\p8/\p9/\r:=⟨h.1,h.2.1,h.2.2.1,h.2.2.2.1,h.2.2.2.2.1,h.2.2.2.2.2.1,h.2.2.2.2.2.2.1,h.2.2.2.2.2.2.2.1,h.2.2.2.2.2.2.2.2.1,h.2.2.2.2.2.2.2.2.2,k⟩
theorem adv {p0 p1 p2 p3 p4 p5 p6 p7 p8 p9 p10 r:Prop} (h:p0/\p1/\p2/\p3/\p4/\p5/\p6/\p7/\p8/\p9/\p10) (k:r):p0/\p1/\p2/\p3/\p4/\p5/\p6/\p7/\p8/\p9/\p10/\r:=⟨h.1,h.2.1,h.2.2.1,h.2.2.2.1,h.2.2.2.2.1,h.2.2.2.2.2.1,h.2.2.2.2.2.2.1,h.2.2.2.2.2.2.2.1,h.2.2.2.2.2.2.2.2.1,h.2.2.2.2.2.2.2.2.2.1,h.2.2.2.2.2.2.2.2.2.2,k⟩
theorem adu {p0 p1 p2 p3 p4 p5 p6 p7 p8 p9 p10 p11 r:Prop} (h:p0/\p1/\p2/\p3/\p4/\p5/\p6/\p7/\p8/\p9/\p10/\p11) (k:r):p0/\p1/\p2/\p3/\p4/\p5/\p6/\p7/\p8/\p9/\p10/\p11/\r:=⟨h.1,h.2.1,h.2.2.1,h.2.2.2.1,h.2.2.2.2.1,h.2.2.2.2.2.1,h.2.2.2.2.2.2.1,h.2.2.2.2.2.2.2.1,h.2.2.2.2.2.2.2.2.1,h.2.2.2.2.2.2.2.2.2.1,h.2.2.2.2.2.2.2.2.2.2.1,h.2.2.2.2.2.2.2.2.2.2.2,k⟩
theorem adt {p0 p1 p2 p3 p4 p5 p6 p7 p8 p9 p10 p11 p12 r:Prop} (h:p0/\p1/\p2/\p3/\p4/\p5/\p6/\p7/\p8/\p9/\p10/\p11/\p12) (k:r):p0/\p1/\p2/\p3/\p4/\p5/\p6/\p7/\p8/\p9/\p10/\p11/\p12/\r:=⟨h.1,h.2.1,h.2.2.1,h.2.2.2.1,h.2.2.2.2.1,h.2.2.2.2.2.1,h.2.2.2.2.2.2.1,h.2.2.2.2.2.2.2.1,h.2.2.2.2.2.2.2.2.1,h.2.2.2.2.2.2.2.2.2.1,h.2.2.2.2.2.2.2.2.2.2.1,h.2.2.2.2.2.2.2.2.2.2.2.1,h.2.2.2.2.2.2.2.2.2.2.2.2,k⟩
theorem eqQ:eqB 0 0=true/\eqB 0 1=false/\eqB 0 2=false/\eqB 0 3=false/\eqB 0 4=false/\eqB 0 5=false/\eqB 0 6=false/\eqB 0 7=false/\eqB 0 8=false/\eqB 0 9=false/\eqB 0 10=false/\eqB 0 11=false/\eqB 0 12=false/\eqB 0 13=false/\eqB 0 14=false/\eqB 0 15=false/\eqB 1 0=false/\eqB 1 1=true/\eqB 1 2=false/\eqB 1 3=false/\eqB 1 4=false/\eqB 1 5=false/\eqB 1 6=false/\eqB 1 7=false/\eqB 1 8=false/\eqB 1 9=false/\eqB 1 10=false/\eqB 1 11=false/\eqB 1 12=false/\eqB 1 13=false/\eqB 1 14=false/\eqB 1 15=false/\eqB 2 0=false/\eqB 2 1=false/\eqB 2 2=true/\eqB 2 3=false/\eqB 2 4=false/\eqB 2 5=false/\eqB 2 6=false/\eqB 2 7=false/\eqB 2 8=false/\eqB 2 9=false/\eqB 2 10=false/\eqB 2 11=false/\eqB 2 12=false/\eqB 2 13=false/\eqB 2 14=false/\eqB 2 15=false/\eqB 3 0=false/\eqB 3 1=false/\eqB 3 2=false/\eqB 3 3=true/\eqB 3 4=false/\eqB 3 5=false/\eqB 3 6=false/\eqB 3 7=false/\eqB 3 8=false/\eqB 3 9=false/\eqB 3 10=false/\eqB 3 11=false/\eqB 3 12=false/\eqB 3 13=false/\eqB 3 14=false/\eqB 3 15=false/\eqB 4 0=false/\eqB 4 1=false/\eqB 4 2=false/\eqB 4 3=false/\eqB 4 4=true/\eqB 4 5=false/\eqB 4 6=false/\eqB 4 7=false/\eqB 4 8=false/\eqB 4 9=false/\eqB 4 10=false/\eqB 4 11=false/\eqB 4 12=false/\eqB 4 13=false/\eqB 4 14=false/\eqB 4 15=false/\eqB 5 0=false/\eqB 5 1=false/\eqB 5 2=false/\eqB 5 3=false/\eqB 5 4=false/\eqB 5 5=true/\eqB 5 6=false/\eqB 5 7=false/\eqB 5 8=false/\eqB 5 9=false/\eqB 5 10=false/\eqB 5 11=false/\eqB 5 12=false/\eqB 5 13=false/\eqB 5 14=false/\eqB 5 15=false/\eqB 6 0=false/\eqB 6 1=false/\eqB 6 2=false/\eqB 6 3=false/\eqB 6 4=false/\eqB 6 5=false/\eqB 6 6=true/\eqB 6 7=false/\eqB 6 8=false/\eqB 6 9=false/\eqB 6 10=false/\eqB 6 11=false/\eqB 6 12=false/\eqB 6 13=false/\eqB 6 14=false/\eqB 6 15=false/\eqB 7 0=false/\eqB 7 1=false/\eqB 7 2=false/\eqB 7 3=false/\eqB 7 4=false/\eqB 7 5=false/\eqB 7 6=false/\eqB 7 7=true/\eqB 7 8=false/\eqB 7 9=false/\eqB 7 10=false/\eqB 7 11=false/\eqB 7 12=false/\eqB 7 13=false/\eqB 7 14=false/\eqB 7 15=false/\eqB 8 0=false/\eqB 8 1=false/\eqB 8 2=false/\eqB 8 3=false/\eqB 8 4=false/\eqB 8 5=false/\eqB 8 6=false/\eqB 8 7=false/\eqB 8 8=true/\eqB 8 9=false/\eqB 8 10=false/\eqB 8 11=false/\eqB 8 12=false/\eqB 8 13=false/\eqB 8 14=false/\eqB 8 15=false/\eqB 9 0=false/\eqB 9 1=false/\eqB 9 2=false/\eqB 9 3=false/\eqB 9 4=false/\eqB 9 5=false/\eqB 9 6=false/\eqB 9 7=false/\eqB 9 8=false/\eqB 9 9=true/\eqB 9 10=false/\eqB 9 11=false/\eqB 9 12=false/\eqB 9 13=false/\eqB 9 14=false/\eqB 9 15=false/\eqB 10 0=false/\eqB 10 1=false/\eqB 10 2=false/\eqB 10 3=false/\eqB 10 4=false/\eqB 10 5=false/\eqB 10 6=false/\eqB 10 7=false/\eqB 10 8=false/\eqB 10 9=false/\eqB 10 10=true/\eqB 10 11=false/\eqB 10 12=false/\eqB 10 13=false/\eqB 10 14=false/\eqB 10 15=false/\eqB 11 0=false/\eqB 11 1=false/\eqB 11 2=false/\eqB 11 3=false/\eqB 11 4=false/\eqB 11 5=false/\eqB 11 6=false/\eqB 11 7=false/\eqB 11 8=false/\eqB 11 9=false/\eqB 11 10=false/\eqB 11 11=true/\eqB 11 12=false/\eqB 11 13=false/\eqB 11 14=false/\eqB 11 15=false/\eqB 12 0=false/\eqB 12 1=false/\eqB 12 2=false/\eqB 12 3=false/\eqB 12 4=false/\eqB 12 5=false/\eqB 12 6=false/\eqB 12 7=false/\eqB 12 8=false/\eqB 12 9=false/\eqB 12 10=false/\eqB 12 11=false/\eqB 12 12=true/\eqB 12 13=false/\eqB 12 14=false/\eqB 12 15=false/\eqB 13 0=false/\eqB 13 1=false/\eqB 13 2=false/\eqB 13 3=false/\eqB 13 4=false/\eqB 13 5=false/\eqB 13 6=false/\eqB 13 7=false/\eqB 13 8=false/\eqB 13 9=false/\eqB 13 10=false/\eqB 13 11=false/\eqB 13 12=false/\eqB 13 13=true/\eqB 13 14=false/\eqB 13 15=false/\eqB 14 0=false/\eqB 14 1=false/\eqB 14 2=false/\eqB 14 3=false/\eqB 14 4=false/\eqB 14 5=false/\eqB 14 6=false/\eqB 14 7=false/\eqB 14 8=false/\eqB 14 9=false/\eqB 14 10=false/\eqB 14 11=false/\eqB 14 12=false/\eqB 14 13=false/\eqB 14 14=true/\eqB 14 15=false/\eqB 15 0=false/\eqB 15 1=false/\eqB 15 2=false/\eqB 15 3=false/\eqB 15 4=false/\eqB 15 5=false/\eqB 15 6=false/\eqB 15 7=false/\eqB 15 8=false/\eqB 15 9=false/\eqB 15 10=false/\eqB 15 11=false/\eqB 15 12=false/\eqB 15 13=false/\eqB 15 14=false/\eqB 15 15=true:=⟨rfl,rfl,rfl,rfl,rfl,rfl,rfl,rfl,rfl,rfl,rfl,rfl,rfl,rfl,rfl,rfl,rfl,rfl,rfl,rfl,rfl,rfl,rfl,rfl,rfl,rfl,rfl,rfl,rfl,rfl,rfl,rfl,rfl,rfl,rfl,rfl,rfl,rfl,rfl,rfl,rfl,rfl,rfl,rfl,rfl,rfl,rfl,rfl,rfl,rfl,rfl,rfl,rfl,rfl,rfl,rfl,rfl,rfl,rfl,rfl,rfl,rfl,rfl,rfl,rfl,rfl,rfl,rfl,rfl,rfl,rfl,rfl,rfl,rfl,rfl,rfl,rfl,rfl,rfl,rfl,rfl,rfl,rfl,rfl,rfl,rfl,rfl,rfl,rfl,rfl,rfl,rfl,rfl,rfl,rfl,rfl,rfl,rfl,rfl,rfl,rfl,rfl,rfl,rfl,rfl,rfl,rfl,rfl,rfl,rfl,rfl,rfl,rfl,rfl,rfl,rfl,rfl,rfl,rfl,rfl,rfl,rfl,rfl,rfl,rfl,rfl,rfl,rfl,rfl,rfl,rfl,rfl,rfl,rfl,rfl,rfl,rfl,rfl,rfl,rfl,rfl,rfl,rfl,rfl,rfl,rfl,rfl,rfl,rfl,rfl,rfl,rfl,rfl,rfl,rfl,rfl,rfl,rfl,rfl,rfl,rfl,rfl,rfl,rfl,rfl,rfl,rfl,rfl,rfl,rfl,rfl,rfl,rfl,rfl,rfl,rfl,rfl,rfl,rfl,rfl,rfl,rfl,rfl,rfl,rfl,rfl,rfl,rfl,rfl,rfl,rfl,rfl,rfl,rfl,rfl,rfl,rfl,rfl,rfl,rfl,rfl,rfl,rfl,rfl,rfl,rfl,rfl,rfl,rfl,rfl,rfl,rfl,rfl,rfl,rfl,rfl,rfl,rfl,rfl,rfl,rfl,rfl,rfl,rfl,rfl,rfl,rfl,rfl,rfl,rfl,rfl,rfl,rfl,rfl,rfl,rfl,rfl,rfl,rfl,rfl,rfl,rfl,rfl,rfl,rfl,rfl,rfl,rfl,rfl,rfl,rfl,rfl,rfl,rfl,rfl,rfl⟩
end Go.Dv
namespace Go.Dv
open Go.Proofs
attribute [local congr] aF bC aY bB bD
def vS (c:Int):Bool:=(leB 97 c && leB c 122) || (leB 65 c && leB c 90)
theorem FX (c:Int) (H:AH):Ev aa C0 W0 129 [.int .u8 c] H=some (.bool (vS c),H):=by
 obtain ⟨tm,ht,g0,g1⟩:=tm1 (.int .u8 c) 17 (by decide)
 rw [X9,ht]
 rw [<-af (ro H)]
 simp (maxSteps:=4000000) +contextual -implicitDefEqProofs only [Zx,Tryz.f129,aP,g0,g1,↓ao,an,eu,sevalprocAttr]
 unfold vS
 refine congrArg (fun b=>some (AV.bool b,H)) ?_
 cases leB 97 c <;>
 cases leB c 122 <;>
 cases leB 65 c <;>
 cases leB c 90 <;>
 rfl
theorem LN (c:Int) (H:AH):Ev aa C0 W0 149 [.int .u8 c] H=some (.bool (vS c),H):=by
 obtain ⟨tm,ht,g0,g1⟩:=tm1 (.int .u8 c) 17 (by decide)
 rw [X1,ht]
 rw [<-af (ro H)]
 simp (maxSteps:=4000000) +contextual -implicitDefEqProofs only [Zu,Tryz.f149,aP,g0,g1,↓ao,an,eu,sevalprocAttr]
 unfold vS
 refine congrArg (fun b=>some (AV.bool b,H)) ?_
 cases leB 97 c <;>
 cases leB c 122 <;>
 cases leB 65 c <;>
 cases leB c 90 <;>
 rfl
def EH (c:Int):Bool:=leB 48 c && leB c 57
theorem Y6 (c:Int) (H:AH):Ev aa C0 W0 165 [.int .u8 c] H=some (.bool (EH c),H):=by
 obtain ⟨tm,ht,g0,g1⟩:=tm1 (.int .u8 c) 9 (by decide)
 rw [XY,ht]
 rw [<-af (ro H)]
 simp (maxSteps:=4000000) +contextual -implicitDefEqProofs only [Zq,Tryz.f165,aP,g0,g1,↓ao,an,eu,sevalprocAttr]
 unfold EH
 refine congrArg (fun b=>some (AV.bool b,H)) ?_
 cases leB 48 c <;>
 cases leB c 57 <;>
 rfl
theorem Y0 (c:Int) (H:AH):Ev aa C0 W0 190 [.int .u8 c] H=some (.bool (EH c),H):=by
 obtain ⟨tm,ht,g0,g1⟩:=tm1 (.int .u8 c) 9 (by decide)
 rw [XX,ht]
 rw [<-af (ro H)]
 simp (maxSteps:=4000000) +contextual -implicitDefEqProofs only [Zp,Tryz.f190,aP,g0,g1,↓ao,an,eu,sevalprocAttr]
 unfold EH
 refine congrArg (fun b=>some (AV.bool b,H)) ?_
 cases leB 48 c <;>
 cases leB c 57 <;>
 rfl
def ym (c:Int):Bool:=vS c || EH c || eqB c 95
theorem Sl (c:Int) (H:AH):Ev aa C0 W0 131 [.int .u8 c] H=some (.bool (ym c),H):=by
 obtain ⟨tm,ht,g0,g1⟩:=tm1 (.int .u8 c) 13 (by decide)
 rw [X8,ht]
 rw [<-af (ro H)]
 simp (maxSteps:=4000000) +contextual -implicitDefEqProofs only [Zw,Tryz.f131,aP,g0,g1,↓FV,↓YE,FX,Y6,↓ao,an,eu,sevalprocAttr]
 unfold ym
 refine congrArg (fun b=>some (AV.bool b,H)) ?_
 cases vS c <;>
 cases EH c <;>
 cases eqB c 95 <;>
 rfl
theorem Sk (c:Int) (H:AH):Ev aa C0 W0 150 [.int .u8 c] H=some (.bool (ym c),H):=by
 obtain ⟨tm,ht,g0,g1⟩:=tm1 (.int .u8 c) 13 (by decide)
 rw [X0,ht]
 rw [<-af (ro H)]
 simp (maxSteps:=4000000) +contextual -implicitDefEqProofs only [Zt,Tryz.f150,aP,g0,g1,↓KV,↓YC,LN,Y0,↓ao,an,eu,sevalprocAttr]
 unfold ym
 refine congrArg (fun b=>some (AV.bool b,H)) ?_
 cases vS c <;>
 cases EH c <;>
 cases eqB c 95 <;>
 rfl
def cd (p:Nat->Bool) (N j:Nat):Bool:=(List.range' j (N - j)).all p
theorem di {p:Nat->Bool} {N j:Nat} (h:N<=j):cd p N j=true:=by unfold cd; rw [show N - j=0 by omega]; rfl
theorem cI {p:Nat->Bool} {N j:Nat} (h:j < N):cd p N j=(p j && cd p N (j+1)):=by
 unfold cd; rw [show N - j=(N - (j+1))+1 by omega,List.range'_succ,gF]
theorem fC {p:Nat->Bool} {N:Nat}:cd p N 0=true↔∀ j,j < N->p j=true:=by
 unfold cd; rw [List.all_eq_true]
 exact ⟨fun h j hj=>h j (by rw [Iq]; omega),fun h j hj=>h j (by rw [Iq] at hj; omega)⟩
theorem PU {H:AH} {v:AV} {ws:List ByteArray} {s:ByteArray} (hs:SlS 164 1 H v (ws.map fun w=>[AV.str w])) (hN:ws.length < 2 ^ 60):∀ (d j:Nat) (tm:List AV) (K:AH) (Z:Option (bs × St)),EvC aa C0 W0 plN KD (tm,K)=Z->ws.length - j=d->j<=ws.length->au H K->tm.length=18->tm.getD 0 uA=.str s->tm.getD 1 uA=v->tm.getD 5 uA=I ((j:Nat):Int) ->
   ∃ X Y K1 K2,Z=br (cd (fun j=>!sEq (ws.getD j default) s) (ws.length) (j)) (some (.exit 0,(X,K1))) (some (.ret,(Y,K2)))/\(X.length=18/\au H K1/\X.getD 0 uA=.str s/\X.getD 1 uA=v)/\Y.length=18/\Y.getD 4 uA=.bool true:=by
 intro d
 induction d with
 | zero =>
   intro j tm K Z hZ hd hj hA hlen h0 h1 h5
   subst hZ
   have hjl:j=ws.length:=by omega
   have hlt:ltB (j:Int) (ws.length:Nat)=false:=cH (by omega)
   have hln:=hs.len
   simp only [ar] at hln
   rw [di (by omega),FY]
   simp (maxSteps:=4000000) -implicitDefEqProofs only [yN,Tryz.f120,aP,hlen,h0,h1,h5,hlt,hln,↓ao,an,eu,sevalprocAttr]
   exact ⟨_,tm.set 4 (.bool true),_,K,rfl,⟨by first | exact hlen | simp only [aq,hlen],hA,by first | exact h0 | simp only [hlen,h0,gB,sevalprocAttr],by first | exact h1 | simp only [hlen,h1,gB,sevalprocAttr]⟩,by simp only [ls,hlen],by simp only [hlen,dv,Nat.reduceLT]⟩
 | succ d ih =>
   intro j tm K Z hZ hd hj hA hlen h0 h1 h5
   subst hZ
   have hjN:j < ws.length:=by omega
   have hlt:ltB (j:Int) (ws.length:Nat)=true:=cD (by omega)
   have hw:=cp (j:=j) (by omega)
   have hln:=hs.len
   simp only [ar] at hln
   obtain ⟨i,k,hi,hr⟩:=hs.ix j [AV.str (ws.getD j default)] (by rw [List.getElem?_map,aj hjN,gde,aj hjN]; rfl)
   have hr0:=fun L=>zA hr hA L (x:=AV.str (ws.getD j default)) rfl
   rw [cI hjN,FY]
   rw [<-af K]
   cases hp:(!sEq (ws.getD j default) s) with
   | true =>
     have hp:sEq (ws.getD j default) s=false:=by rw [bj] at hp; exact hp
     simp only [bd]
     simp (maxSteps:=4000000) -implicitDefEqProofs only [yN,Tryz.f120,aP,hlen,h0,h1,h5,hlt,hw,hln,hi,hr0,hp,ld9,↓ao,an,eu,sevalprocAttr]
     exact ih (j+1) _ _ _ rfl (by omega) (by omega) (by first | exact hA | exact hA.bS _ | exact (hA.bS _).bS _ | exact hA) (by simp only [ls,hlen]) (by simp only [hlen,h0,gB,sevalprocAttr]) (by simp only [hlen,h1,gB,sevalprocAttr]) (by simp only [hlen,h5,gB,sevalprocAttr])
   | false =>
     have hp:sEq (ws.getD j default) s=true:=by rw [Bool.not_eq_false'] at hp; exact hp
     simp only [bc]
     simp (maxSteps:=4000000) -implicitDefEqProofs only [yN,Tryz.f120,aP,hlen,h0,h1,h5,hlt,hw,hln,hi,hr0,hp,ld9,↓ao,an,eu,sevalprocAttr]
     exact ⟨tm,_,K,_,rfl,⟨hlen,hA,h0,h1⟩,by simp only [ls,hlen],by simp only [hlen,gB,sevalprocAttr]⟩
theorem Uy (ws:List ByteArray) (s:ByteArray):cd (fun j=>!sEq (ws.getD j default) s) ws.length 0=!sIn ws s:=by
 rw [fM,fC,bj]
 unfold sIn
 constructor
 · intro h
   rw [Is]
   intro hc
   have hm:∃ a∈ws,(s == a)=true:=by
     rw [Aw,List.any_eq_true] at hc
     exact hc
   obtain ⟨a,ha,he⟩:=hm
   obtain ⟨j,hj⟩:=List.getElem?_of_mem ha
   have:=h j (aJ hj)
   rw [gde,hj,fq,bj,BK,<-AF,he] at this
   cases this
 · intro h j hj
   rw [bj,Is]
   intro hc
   rw [Aw,List.any_eq_false] at h
   refine h (ws.getD j default) ?_ ?_
   · rw [gde,aj hj]; exact List.getElem_mem hj
   · rw [AF,BK]; exact hc
theorem Zc {v:AV} {ws:List ByteArray} {s:ByteArray} {H:AH} (hs:SlS 164 1 H v (ws.map fun w=>[AV.str w])) (hN:ws.length < 2 ^ 60):Ev aa C0 W0 120 [.str s,v] H=some (.bool (sIn ws s),H):=by
 obtain ⟨tm,ht,g0,g1,g2⟩:=tm2 (.str s) v 18 (by decide)
 rw [Yd,ht]
 rw [<-af (ro H)]
 simp (maxSteps:=4000000) -implicitDefEqProofs only [ZA,Tryz.f120,aP,g0,g1,g2,↓ao,an,eu,sevalprocAttr]
 generalize hX:EvC aa C0 W0 _ (Code.loop _) _=Z
 obtain ⟨X,Y,K1,K2,he,xs,y0,y1⟩:=PU (s:=s) hs.ro hN (ws.length) 0 _ _ _ hX (by omega) (by omega) (au.app _ _) (by simp only [ls,g0]) (by simp only [g0,g1,gB,sevalprocAttr]; try rfl) (by simp only [g0,g2,gB,sevalprocAttr]; try rfl) (by simp only [g0,gB,sevalprocAttr]; try rfl)
 subst he
 rw [Uy]
 simp (maxSteps:=4000000) +contextual -implicitDefEqProofs only [xs.1,y0,y1,↓ao,an,eu,sevalprocAttr]
 cases sIn ws s <;> rfl
end Go.Dv
