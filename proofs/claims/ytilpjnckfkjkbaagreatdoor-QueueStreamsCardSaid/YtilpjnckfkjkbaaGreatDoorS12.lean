/- Part 12 of the walks (own work). -/
import Derived.Test.YtilpjnckfkjkbaaGreatDoorS11
import Derived.Laws.Strings
import Derived.Laws.StructEq
open Bool renaming and_false→g9,and_self→nZ,and_true→fH,eq_false_iff→Hp,eq_iff_iff→fA,false_and→bd,false_eq_true→bD,false_or→ly,not_eq_true'→ba,not_false→g8,not_not→CK,not_true→AO,or_false→tG,or_true→vr,true_and→aZ,true_or→vo
open ByteArray renaming ext→Ts
open Int renaming toNat_natCast→cw
open List renaming all_cons→gn,all_nil→o8,append_assoc→aE,append_nil→af,cons_append→ir,contains_cons→tF,contains_eq_any_beq→zH,drop_succ_cons→sc,drop_zero→iu,getElem?_append_left→aq,getElem?_cons_succ→oR,getElem?_cons_zero→g7,getElem?_eq_getElem→aj,getElem?_toArray→qc,head?_cons→pZ,length_append→ai,length_cons→b6,length_map→au,length_nil→gj,length_set→ar,map_cons→gy,mem_range'_1→Hl,nil_append→iH,range→bn,replicate→aA,set_cons_succ→tD,set_cons_zero→kg,take_succ_cons→mo,take_zero→nu,zip→wo
open Nat renaming add_zero→nW
open Option renaming bind_some→ay,getD_some→e7,isSome_some→CP,map→wm,map_some→cE
open Go.Proofs.Tryz renaming prog→aa
set_option maxRecDepth 100000
set_option maxHeartbeats 4000000
set_option linter.unusedSimpArgs false
set_option linter.unusedVariables false
namespace Go.Dv
open Go.Proofs
attribute [local congr] aH bP bj bO bQ
def al (H K:AH):Prop:=∀ j,j < H.length->K[j]? =H[j]?
theorem al.refl (H:AH):al H H:=fun _ _=>rfl
theorem al.app (H L:AH):al H (H++L):=fun _ h=>aq h
theorem al.len {H K:AH} (h:al H K):H.length<=K.length:=by
 rcases Nat.lt_or_ge K.length H.length with c | c
 · have:=h K.length c
   rw [List.getElem?_eq_none (Nat.le_refl _),aj c] at this; cases this
 · exact c
theorem al.trans {H K M:AH} (h:al H K) (k:al K M):al H M:=fun j hj=>(k j (Nat.lt_of_lt_of_le hj h.len)).trans (h j hj)
theorem al.bS {H K:AH} (h:al H K) (L:AH):al H (K++L):=h.trans (al.app K L)
theorem al.tN {H K:AH} (h:al H K) {i:Nat} (hi:H.length<=i) (o:bo):al H (K.set i o):=fun j hj=>by
 rw [List.getElem?_set_ne (by omega)]; exact h j hj
theorem al.get {H K:AH} (h:al H K) {i:Nat} {o:bo} (hi:H[i]? =some o):K[i]? =some o:=by
 rw [h i (aJ hi)]; exact hi
theorem O1 {K:AH} {i:Nat} {o:bo} (h:K[i]? =some o) (L:AH):(K++L)[i]? =some o:=by
 rw [aq (aJ h)]; exact h
theorem eQ {K:AH} {b:Nat} {cs:List AV} {e:TypeId} (h:K[b]? =some (.cells cs e)) (L:AH) (k n:Nat):ak (K++L) b k n=if k+n<=cs.length then some ((cs.drop k).take n) else none:=by
 unfold ak; rw [O1 h L]
theorem jB {H K:AH} {i k es:Nat} {row:List AV} (hr:ak H i k es=some row) (hA:al H K) (L:AH):ak (K++L) i k es=some row:=ju (hA.bS L) hr
theorem H6 {H K:AH} {i k es:Nat} {row:List AV} (hr:ak H i k es=some row) (hA:al H K) (L:AH) (c:Nat) {x:AV} (hc:row[c]? =some x):ak (K++L) i (k+c) 1=some [x]:=ju (hA.bS L) (jU hr hc)
theorem A6 {H K:AH} {i k es:Nat} {row:List AV} (hr:ak H i k es=some row) (hA:al H K) (L:AH) {x:AV} (hc:row[0]? =some x):ak (K++L) i k 1=some [x]:=H6 hr hA L 0 hc
theorem zK:aa.underlying 9=some .string:=by kernel_rfl
theorem M0:aa.underlying 3=some (.int .i64):=by kernel_rfl
theorem Ef:aa.underlying 21=some (.int .i32):=by kernel_rfl
theorem ln9 (H:AH) (s:ByteArray):dR aa 9 H (.str s)=some (.int .i64 s.size):=by kernel_rfl
def sEq (a b:ByteArray):Bool:=a.toList == b.toList
theorem zQ (a b:ByteArray):(a == b)=sEq a b:=beq_toListBytes a b
theorem qg (a b:ByteArray):sEq a b=true↔a=b:=by
 unfold sEq
 rw [beq_iff_eq,ByteArray.toList_eq,ByteArray.toList_eq]
 exact ⟨fun h=>Ts (Array.toList_inj.1 h),fun h=>by rw [h]⟩
theorem A4 (a b:ByteArray):sEq a b=sEq b a:=by rw [fA,qg,qg,eq_comm]
theorem pure_seq {ev:Operand->Option AV} {x y:Operand} {a b:ByteArray} (hx:ev x=some (.str a)) (hy:ev y=some (.str b)) (dst:Option Tmp) (yt ty:TypeId) (pos:String) (after:Array Edge) (g:Option (Nat × Bool)) :
   cM aa ev ⟨dst,.binOp .eql 9 x y yt,ty,pos,after,g⟩=some (.val (.bool (sEq a b))):=by
 have:fY aa (execOp (jT ev) ⟨dst,.binOp .eql 9 x y yt,ty,pos,after,g⟩)=fY aa (do pure (Next.value (<-binOp .eql 9 (.string a) (.string b)))):=by
   simp [execOp,jT,hx,hy,toV,eqGuard,bind,Sem.bind,pure]
 have h2:fY aa (do pure (Next.value (<-binOp .eql 9 (.string a) (.string b))))=some (.value (.bool (sEq a b))):=by rw [binOp_string_eql]; rfl
 simp only [cM,notSelect,Op.operands,hx,hy,toV,this,h2,ay,CP,gn,o8,nZ,if_true]
 rfl
theorem Bc {ev:Operand->Option AV} {x y:Operand} {a b:ByteArray} (hx:ev x=some (.str a)) (hy:ev y=some (.str b)) (dst:Option Tmp) (yt ty:TypeId) (pos:String) (after:Array Edge) (g:Option (Nat × Bool)) :
   cM aa ev ⟨dst,.binOp .neq 9 x y yt,ty,pos,after,g⟩=some (.val (.bool (!sEq a b))):=by
 have:fY aa (execOp (jT ev) ⟨dst,.binOp .neq 9 x y yt,ty,pos,after,g⟩)=fY aa (do pure (Next.value (<-binOp .neq 9 (.string a) (.string b)))):=by
   simp [execOp,jT,hx,hy,toV,eqGuard,bind,Sem.bind,pure]
 have h2:fY aa (do pure (Next.value (<-binOp .neq 9 (.string a) (.string b))))=some (.value (.bool (!sEq a b))):=by rw [binOp_string_neq]; rfl
 simp only [cM,notSelect,Op.operands,hx,hy,toV,this,h2,ay,CP,gn,o8,nZ,if_true]
 rfl
noncomputable def iG (op:BinOp) (t:TypeId) (x y:AV) (H:AH) (fb:Option AV):Option AV:=
 match x,y with
 | .int k a,.int k' b=>match (if k=k' then eV op k a b else none) with
   | some v=>some v
   | none=>fb
 | .str a,.str b=>if t=9 then match op with
     | .eql=>some (.bool (sEq a b))
     | .neq=>some (.bool (!sEq a b))
     | _=>fb
   else fb
 | _,_=>match op,eqA aa t H x y with
   | .eql,some r=>some (.bool r)
   | .neq,some r=>some (.bool (!r))
   | _,_=>fb
noncomputable def Ha (op:BinOp) (t:TypeId) (x y:AV) (fb:Option AV):Option AV:=
 match x,y with
 | .int k a,.int k' b=>match (if k=k' then eV op k a b else none) with
   | some v=>some v
   | none=>fb
 | .str a,.str b=>if t=9 then match op with
     | .eql=>some (.bool (sEq a b))
     | .neq=>some (.bool (!sEq a b))
     | _=>fb
   else fb
 | _,_=>match op,DN aa t x y with
   | .eql,some r=>some (.bool r)
   | .neq,some r=>some (.bool (!r))
   | _,_=>fb
def fbA (r:Option ji):Option AV:=r.bind fun n=>match n with
 | .val v=>some v
 | _=>none
theorem Iw (ev:Operand->Option AV) (o:Oper) (H:AH):(cM aa ev o).map (fun n=>(n,H))=(fbA (cM aa ev o)).map fun v=>(.val v,H):=by
 have:cM aa ev o=none∨∃ v,cM aa ev o=some (.val v):=by
   unfold cM
   split
   · split
     · rename_i v _
       cases ofV 6 v with
       | none=>exact .inl rfl
       | some a=>exact .inr ⟨a,rfl⟩
     · exact .inl rfl
   · exact .inl rfl
 rcases this with h | ⟨v,h⟩ <;> rw [h] <;> rfl
theorem Pd {t:TypeId} {H:AH} {a b:ByteArray}:eqA aa t H (.str a) (.str b)=none:=by
 unfold eqA
 split <;> first | rfl | skip
theorem mb1 (r fb:Option AV) (H:AH):(match r with
   | some v=>some (ji.val v,H)
   | none=>wm (fun v=>(ji.val v,H)) fb)=wm (fun v=>(ji.val v,H)) (match r with
   | some v=>some v
   | none=>fb):=by cases r <;> rfl
theorem mb2 (op:BinOp) (r:Option Bool) (fb:Option AV) (H:AH):(match op,r with
   | .eql,some r=>some (ji.val (.bool r),H)
   | .neq,some r=>some (ji.val (.bool (!r)),H)
   | _,_=>wm (fun v=>(ji.val v,H)) fb)=wm (fun v=>(ji.val v,H)) (match op,r with
   | .eql,some r=>some (AV.bool r)
   | .neq,some r=>some (.bool (!r))
   | _,_=>fb):=by cases op <;> cases r <;> rfl
theorem ya {C:Cfg aa} (slot:Option Nat) (ev:Operand->Option AV) (dst:Option Tmp) (ty:TypeId) (pos:String) (after:Array Edge) (g:Option (Nat × Bool)) (H:AH) (op:BinOp) (t yt:TypeId) (x y:Operand) :
   aop aa C slot ev ⟨dst,.binOp op t x y yt,ty,pos,after,g⟩ H=(ev x).bind fun xv=>(ev y).bind fun yv=>(iG op t xv yv H (fbA (cM aa ev ⟨dst,.binOp op t x y yt,ty,pos,after,g⟩))).map fun v=>(.val v,H):=by
 rw [Hg]
 cases hx:ev x with
 | none=>rfl
 | some xv =>
   cases hy:ev y with
   | none=>rfl
   | some yv =>
     simp only [ay]
     rw [Iw]
     unfold iG
     cases xv <;> cases yv <;> (try simp only [Pd]) <;> first
       | exact mb1 _ _ _
       | exact mb2 _ _ _ _
       | (by_cases ht:t=9
          · subst ht
            cases op <;> first
              | (simp only [if_true,cE]; rw [pure_seq hx hy]; rfl)
              | (simp only [if_true,cE]; rw [Bc hx hy]; rfl)
              | rfl
          · rw [if_neg ht])
theorem Bb (ev:Operand->Option AV) (dst:Option Tmp) (ty:TypeId) (pos:String) (after:Array Edge) (g:Option (Nat × Bool)) (op:BinOp) (t yt:TypeId) (x y:Operand) :
   cB aa ev ⟨dst,.binOp op t x y yt,ty,pos,after,g⟩=(ev x).bind fun xv=>(ev y).bind fun yv=>Ha op t xv yv (fbA (cM aa ev ⟨dst,.binOp op t x y yt,ty,pos,after,g⟩)):=by
 rw [Ny]
 cases hx:ev x with
 | none=>rfl
 | some xv =>
   cases hy:ev y with
   | none=>rfl
   | some yv =>
     simp only [ay]
     unfold Ha
     cases xv <;> cases yv <;> (try simp only [show ∀ a b,DN aa t (.str a) (.str b)=none from fun _ _=>rfl]) <;> first
       | rfl
       | (by_cases ht:t=9
          · subst ht
            cases op <;> first
              | (simp only [if_true]; rw [pure_seq hx hy]; rfl)
              | (simp only [if_true]; rw [Bc hx hy]; rfl)
              | rfl
          · rw [if_neg ht]; rfl)
theorem B8 (op:BinOp) (t:TypeId) (k:IntKind) (a b:Int) (H:AH) (fb:Option AV):iG op t (.int k a) (.int k b) H fb=match eV op k a b with
   | some v=>some v
   | none=>fb:=by unfold iG; simp only [if_true]
theorem B7 (a b:ByteArray) (H:AH) (fb:Option AV):iG .eql 9 (.str a) (.str b) H fb=some (.bool (sEq a b)):=rfl
theorem B6 (a b:ByteArray) (H:AH) (fb:Option AV):iG .neq 9 (.str a) (.str b) H fb=some (.bool (!sEq a b)):=rfl
theorem Cb (op:BinOp) (t:TypeId) (k:IntKind) (a b:Int) (fb:Option AV):Ha op t (.int k a) (.int k b) fb=match eV op k a b with
   | some v=>some v
   | none=>fb:=by unfold Ha; simp only [if_true]
theorem Ca (a b:ByteArray) (fb:Option AV):Ha .eql 9 (.str a) (.str b) fb=some (.bool (sEq a b)):=rfl
theorem B9 (a b:ByteArray) (fb:Option AV):Ha .neq 9 (.str a) (.str b) fb=some (.bool (!sEq a b)):=rfl
theorem Iv (ev:Operand->Option AV) (dst:Option Tmp) (ty:TypeId) (pos:String) (after:Array Edge) (g:Option (Nat × Bool)) (t:TypeId) (x:Operand) :
   cB aa ev ⟨dst,.unOp .not t x,ty,pos,after,g⟩=(ev x).bind fun xv=>match xv with
     | .bool b=>some (.bool !b)
     | _=>fbA (cM aa ev ⟨dst,.unOp .not t x,ty,pos,after,g⟩):=by
 cases hx:ev x with
 | none =>
   have:=iP (P:=aa) (ev:=ev) (o:=⟨dst,.unOp .not t x,ty,pos,after,g⟩) (x:=x) (by simp [Op.operands]) hx
   simp only [cB,this]; rfl
 | some xv =>
   simp only [ay]
   split
   · simp only [cB,yH hx]; rfl
   · simp only [cB]; rfl
theorem Eo {t u:TypeId} {dt:TypeDesc} {k':IntKind} (ht:aa.underlying t=some dt) (hu:aa.underlying u=some (.int k')) (ev:Operand->Option AV) (dst:Option Tmp) (ty:TypeId) (pos:String) (after:Array Edge) (g:Option (Nat × Bool)) (x:Operand) :
   cB aa ev ⟨dst,.convert t u x,ty,pos,after,g⟩=(ev x).bind fun xv=>match xv with
     | .int _ n=>some (.int k' (k'.wrap n))
     | _=>fbA (cM aa ev ⟨dst,.convert t u x,ty,pos,after,g⟩):=by
 cases hx:ev x with
 | none =>
   have:=iP (P:=aa) (ev:=ev) (o:=⟨dst,.convert t u x,ty,pos,after,g⟩) (x:=x) (by simp [Op.operands]) hx
   simp only [cB,this]; rfl
 | some xv =>
   simp only [ay]
   split
   · simp only [cB,qY ht hu hx]; rfl
   · simp only [cB]; rfl
def mr (l:List ByteArray):List (AV × AV × Nat):=(wo l (bn l.length)).map fun p=>(.str p.1,.bool true,p.2)
theorem PW:kZ aa 172=some (9,4):=by kernel_rfl
theorem z4:ep aa 4=some (.bool false):=by kernel_rfl
theorem XD (e:Bool) (s:ByteArray):D4 aa 9 e (.str s)=some (.string s,.string):=by cases e <;> kernel_rfl
theorem BQ (s:ByteArray):∀ (l:List (ByteArray × Nat)) (i:Nat),iy aa 9 .string (.string s) (l.map fun p=>(.str p.1,.bool true,p.2)) i=if (l.map (·.1)).contains s then (iy aa 9 .string (.string s) (l.map fun p=>(.str p.1,.bool true,p.2)) i) else some none
 | [],i=>rfl
 | p::l,i=>by
   have ih:=BQ s l (i+1)
   simp only [gy,iy,toV,ay,uU,Instr.sameNow,tF]
   cases h:(s == p.1) with
   | true=>simp
   | false=>simp only [ly]; exact ih
theorem zd (s:ByteArray):∀ (l:List (ByteArray × Nat)) (i:Nat),(l.map (·.1)).contains s=true->∃ j,iy aa 9 .string (.string s) (l.map fun p=>(.str p.1,.bool true,p.2)) i=some (some (j,.bool true))
 | [],i,h=>by simp at h
 | p::l,i,h=>by
   simp only [gy,iy,toV,ay,uU,Instr.sameNow]
   cases h':(s == p.1) with
   | true=>exact ⟨i,rfl⟩
   | false =>
     simp only [gy,tF,h',ly] at h
     exact zd s l (i+1) h
theorem AW (l:List ByteArray):(wo l (bn l.length)).map (·.1)=l:=by rw [List.map_fst_zip (by simp)]
theorem ze (s:ByteArray) (l:List ByteArray) (h:l.contains s=false):iy aa 9 .string (.string s) (mr l) 0=some none:=by
 unfold mr
 rw [BQ,AW,h]; rfl
theorem DI (s:ByteArray) (l:List ByteArray) (h:l.contains s=true):∃ j,iy aa 9 .string (.string s) (mr l) 0=some (some (j,.bool true)):=zd s _ 0 (by rw [AW]; exact h)
def sIn (l:List ByteArray) (s:ByteArray):Bool:=l.contains s
theorem P4 {H:AH} {i:Nat} {l:List ByteArray} {c:Nat} (h:H[i]? =some (.map (mr l) c)) (s:ByteArray):ig aa 172 (.map i) (.str s) false H=some (.bool (sIn l s)):=by
 unfold sIn
 simp only [ig,PW,jq,h,ay,XD]
 cases hc:l.contains s with
 | true =>
   obtain ⟨j,hj⟩:=DI s l hc
   rw [hj]; rfl
 | false =>
   rw [ze s l hc]
   simp only [ay,z4]; rfl
theorem F3 (l:List ByteArray) (s:ByteArray):mr l++[(.str s,.bool true,l.length)]=mr (l++[s]):=by
 unfold mr
 rw [ai,List.length_singleton,List.range_succ,List.zip_append (by simp),List.map_append]; rfl
theorem UC {H:AH} {i:Nat} {l:List ByteArray} (h:H[i]? =some (.map (mr l) l.length)) {s:ByteArray} (hc:sIn l s=false):ic aa 172 (.map i) (.str s) (.bool true) H=some (H.set i (.map (mr (l++[s])) (l++[s]).length)):=by
 unfold sIn at hc
 simp only [ic,PW,h,ay,XD,ze s l hc]
 rw [F3,ai]; rfl
end Go.Dv
namespace Go.Dv
open Go.Proofs
theorem ao:(type_of% @qJ)/\(type_of% @tz)/\(type_of% @tB)/\(type_of% @wk)/\(type_of% @nV)/\(type_of% @qL)/\(type_of% @iS)/\(type_of% @qy)/\(type_of% @qK)/\(type_of% @mV)/\(type_of% @dn)/\(type_of% @tC)/\(type_of% @oM)/\(type_of% @mZ)/\(type_of% @kK)/\(type_of% @vX)/\(type_of% @qA)/\(type_of% @tg)/\(type_of% @oL)/\(type_of% @vW)/\(type_of% @qB)/\(type_of% @th)/\(type_of% @tk)/\(type_of% @vV)/\(type_of% @oK)/\(type_of% @tj)/\(type_of% @lT)/\(type_of% @lS)/\(type_of% @mY)/\(type_of% @oJ)/\(type_of% @vY)/\(type_of% (Eo Ef M0))/\(type_of% @qj)/\(type_of% @sB)/\(type_of% @ot)/\(type_of% @mC)/\(type_of% @kH)/\(type_of% @BJ)/\(type_of% @BK)/\(type_of% @mQ)/\(type_of% @eh)/\(type_of% @cZ)/\(type_of% @oe)/\(type_of% @lJ)/\(type_of% @tq)/\(type_of% @oP)/\(type_of% @tr)/\(type_of% @qD)/\(type_of% @qI)/\(type_of% @wj)/\(type_of% @qH)/\(type_of% @lX)/\(type_of% @kO)/\(type_of% @qG)/\(type_of% @kM)/\(type_of% @ya)/\(type_of% @qF)/\(type_of% @m5)/\(type_of% @oO)/\(type_of% @kL)/\(type_of% @k9)/\(type_of% @lY)/\(type_of% @kf)/\(type_of% @qE)/\(type_of% @wi)/\(type_of% (CB (C:=C0) Ef M0))/\(type_of% @tu)/\(type_of% @gh)/\(type_of% @ck)/\(type_of% @vP)/\(type_of% @ql)/\(type_of% @sD)/\(type_of% @jV)/\(type_of% @vO)/\(type_of% @qm)/\(type_of% @sE)/\(type_of% @sG)/\(type_of% @vN)/\(type_of% @ov)/\(type_of% @sF)/\(type_of% @lN)/\(type_of% @lM)/\(type_of% @mF)/\(type_of% @ou)/\(type_of% @Bb)/\(type_of% @Iv)/\(type_of% @n9):=⟨@qJ,@tz,@tB,@wk,@nV,@qL,@iS,@qy,@qK,@mV,@dn,@tC,@oM,@mZ,@kK,@vX,@qA,@tg,@oL,@vW,@qB,@th,@tk,@vV,@oK,@tj,@lT,@lS,@mY,@oJ,@vY,(Eo Ef M0),@qj,@sB,@ot,@mC,@kH,@BJ,@BK,@mQ,@eh,@cZ,@oe,@lJ,@tq,@oP,@tr,@qD,@qI,@wj,@qH,@lX,@kO,@qG,@kM,@ya,@qF,@m5,@oO,@kL,@k9,@lY,@kf,@qE,@wi,(CB (C:=C0) Ef M0),@tu,@gh,@ck,@vP,@ql,@sD,@jV,@vO,@qm,@sE,@sG,@vN,@ov,@sF,@lN,@lM,@mF,@ou,@Bb,@Iv,@n9⟩
theorem an:(type_of% @Fk)/\(type_of% @eh)/\(type_of% @cZ)/\(type_of% @AD)/\(type_of% @wg)/\(type_of% @wc)/\(type_of% @AE)/\(type_of% @v5)/\(type_of% @vZ)/\(type_of% @gT)/\(type_of% @vU)/\(type_of% @s9)/\(type_of% @s8)/\(type_of% @Ar)/\(type_of% @BJ)/\(type_of% @BK)/\(type_of% @mQ)/\(type_of% @iS)/\(type_of% @B8)/\(type_of% @B7)/\(type_of% @B6)/\(type_of% @Cb)/\(type_of% @Ca)/\(type_of% @B9)/\(type_of% @Au)/\(type_of% @tc)/\(type_of% @mG)/\(type_of% @py)/\(type_of% @vT)/\(type_of% @lP)/\(type_of% @oy)/\(type_of% @qn)/\(type_of% @qo)/\(type_of% @dq)/\(type_of% @y8)/\(type_of% @ar.{0})/\(type_of% @ay.{0,0})/\(type_of% @cE.{0,0})/\(type_of% @Ah)/\(type_of% @Ai)/\(type_of% @Aj)/\(type_of% @Ak)/\(type_of% @Al)/\(type_of% @Ag)/\(type_of% @Am)/\(type_of% @Af)/\(type_of% @ne_eq.{1})/\(type_of% @not_false_eq_true)/\(type_of% @if_true.{1})/\(type_of% @if_false.{1})/\(type_of% @ite_true.{1})/\(type_of% @ite_false.{1})/\(type_of% @vQ)/\(type_of% @and_true)/\(type_of% @true_and)/\(type_of% @and_self)/\(type_of% @decide_true)/\(type_of% @decide_false)/\(type_of% @vI)/\(type_of% @m3)/\(type_of% @lU)/\(type_of% @qc.{0})/\(type_of% @g7.{0})/\(type_of% @oR.{0})/\(type_of% @beq_self_eq_true.{0})/\(type_of% @wA)/\(type_of% @vJ)/\(type_of% @lk)/\(type_of% @gu)/\(type_of% @sI)/\(type_of% @sH)/\(type_of% @sj)/\(type_of% @si)/\(type_of% @gn.{0})/\(type_of% @o8.{0})/\(type_of% @nZ)/\(type_of% @aZ)/\(type_of% @fH)/\(type_of% @bd)/\(type_of% @g9)/\(type_of% @vo)/\(type_of% @vr)/\(type_of% @ly)/\(type_of% @tG)/\(type_of% @AO)/\(type_of% @g8)/\(type_of% @CK)/\(type_of% @iu.{0})/\(type_of% @mo.{0})/\(type_of% @nu.{0})/\(type_of% @sc.{0})/\(type_of% @pZ.{0})/\(type_of% @b6.{0})/\(type_of% @gj.{0})/\(type_of% @iH.{0})/\(type_of% @ir.{0})/\(type_of% @aE.{0})/\(type_of% @kg.{0})/\(type_of% @tD.{0})/\(type_of% @cw)/\(type_of% @nW)/\(type_of% @PD)/\(type_of% @PC)/\(type_of% @bD):=⟨@Fk,@eh,@cZ,@AD,@wg,@wc,@AE,@v5,@vZ,@gT,@vU,@s9,@s8,@Ar,@BJ,@BK,@mQ,@iS,@B8,@B7,@B6,@Cb,@Ca,@B9,@Au,@tc,@mG,@py,@vT,@lP,@oy,@qn,@qo,@dq,@y8,@ar.{0},@ay.{0,0},@cE.{0,0},@Ah,@Ai,@Aj,@Ak,@Al,@Ag,@Am,@Af,@ne_eq.{1},@not_false_eq_true,@if_true.{1},@if_false.{1},@ite_true.{1},@ite_false.{1},@vQ,@and_true,@true_and,@and_self,@decide_true,@decide_false,@vI,@m3,@lU,@qc.{0},@g7.{0},@oR.{0},@beq_self_eq_true.{0},@wA,@vJ,@lk,@gu,@sI,@sH,@sj,@si,@gn.{0},@o8.{0},@nZ,@aZ,@fH,@bd,@g9,@vo,@vr,@ly,@tG,@AO,@g8,@CK,@iu.{0},@mo.{0},@nu.{0},@sc.{0},@pZ.{0},@b6.{0},@gj.{0},@iH.{0},@ir.{0},@aE.{0},@kg.{0},@tD.{0},@cw,@nW,@PD,@PC,@bD⟩
theorem az:(type_of% @ld3)/\(type_of% @ld4)/\(type_of% @ld5)/\(type_of% @ld9)/\(type_of% @Ve)/\(type_of% @Vd)/\(type_of% @Vc)/\(type_of% @Vb)/\(type_of% @U9)/\(type_of% @U8)/\(type_of% @U7)/\(type_of% @U6)/\(type_of% @U5)/\(type_of% @U4)/\(type_of% @U3)/\(type_of% @U2)/\(type_of% @P5)/\(type_of% @Va)/\(type_of% @Jn)/\(type_of% @Sj)/\(type_of% @U1)/\(type_of% @UY)/\(type_of% @UX)/\(type_of% @UW)/\(type_of% @U0)/\(type_of% @UZ)/\(type_of% @P7)/\(type_of% @Ku)/\(type_of% @Kt)/\(type_of% @Kr)/\(type_of% @Kq)/\(type_of% @Kp)/\(type_of% @Kd)/\(type_of% @Kc)/\(type_of% @J9)/\(type_of% @J8)/\(type_of% @J7)/\(type_of% @J6)/\(type_of% @J5)/\(type_of% @J4)/\(type_of% @Kh)/\(type_of% @Kg)/\(type_of% @Kf)/\(type_of% @Ke)/\(type_of% @As)/\(type_of% @KC)/\(type_of% @KB)/\(type_of% @KA)/\(type_of% @Kz)/\(type_of% @Ky)/\(type_of% @Kx)/\(type_of% @Kw)/\(type_of% @Kv)/\(type_of% @KK)/\(type_of% @KJ)/\(type_of% @KH)/\(type_of% @KG)/\(type_of% @KF)/\(type_of% @KE)/\(type_of% @KD)/\(type_of% @ku)/\(type_of% @pJ)/\(type_of% @jC)/\(type_of% @rU)/\(type_of% @Ko)/\(type_of% @Kn)/\(type_of% @Km)/\(type_of% @Kl)/\(type_of% @Kk)/\(type_of% @Kj)/\(type_of% @Ki):=⟨@ld3,@ld4,@ld5,@ld9,@Ve,@Vd,@Vc,@Vb,@U9,@U8,@U7,@U6,@U5,@U4,@U3,@U2,@P5,@Va,@Jn,@Sj,@U1,@UY,@UX,@UW,@U0,@UZ,@P7,@Ku,@Kt,@Kr,@Kq,@Kp,@Kd,@Kc,@J9,@J8,@J7,@J6,@J5,@J4,@Kh,@Kg,@Kf,@Ke,@As,@KC,@KB,@KA,@Kz,@Ky,@Kx,@Kw,@Kv,@KK,@KJ,@KH,@KG,@KF,@KE,@KD,@ku,@pJ,@jC,@rU,@Ko,@Kn,@Km,@Kl,@Kk,@Kj,@Ki⟩
end Go.Dv
namespace Go.Dv
open Go.Proofs
attribute [local congr] aH bP bj bO bQ
theorem cbT {α:Type} (x z:α):cb true x z=x:=rfl
theorem cbF {α:Type} (x z:α):cb false x z=z:=rfl
end Go.Dv
namespace Go.Dv
theorem gde {α:Type} (l:List α) (i:Nat) (d:α):l.getD i d=(l[i]?).getD d:=List.getD_eq_getElem?_getD
theorem ls (l:List AV) (i:Nat) (a:AV):(l.set i a).length=l.length:=ar
theorem gB:(type_of% @dq)/\(type_of% @y8)/\(∀ (l:List AV) (i:Nat) (a:AV),(l.set i a).length=l.length)/\(∀ a b:Nat,(a≠b)=¬ (a=b))/\((¬ False)=True):=⟨@dq,@y8,fun _ _ _=>ar,fun _ _=>rfl,not_false_eq_true⟩
theorem eu:(type_of% @AV.cells.eq_1)/\(type_of% @AV.cells.eq_2)/\(type_of% @spl.eq_1)/\(type_of% @spl.eq_2)/\(type_of% @AV.one.eq_1)/\(type_of% @AV.one.eq_2)/\(type_of% @AV.one.eq_3)/\(type_of% @evL.eq_1)/\(type_of% @evL.eq_2)/\(type_of% @evO.eq_1)/\(type_of% @evO.eq_2)/\(type_of% @evP.eq_1)/\(type_of% @evP.eq_2):=⟨@AV.cells.eq_1,@AV.cells.eq_2,@spl.eq_1,@spl.eq_2,@AV.one.eq_1,@AV.one.eq_2,@AV.one.eq_3,@evL.eq_1,@evL.eq_2,@evO.eq_1,@evO.eq_2,@evP.eq_1,@evP.eq_2⟩
theorem aP:(type_of% @aQ.eq_1)/\(type_of% @aQ.eq_2)/\(type_of% @aQ.eq_3)/\(type_of% @aQ.eq_4)/\(type_of% @aQ.eq_5)/\(type_of% @aQ.eq_6)/\(type_of% @aQ.eq_7)/\(∀ a b:Code,(some a).getD b=a):=⟨@aQ.eq_1,@aQ.eq_2,@aQ.eq_3,@aQ.eq_4,@aQ.eq_5,@aQ.eq_6,@aQ.eq_7,fun _ _=>rfl⟩
theorem tm1 (a0:AV) (n:Nat) (h:1<=n):∃ tm:List AV,([a0]:List AV)++aA (n - ([a0]:List AV).length) uA=tm/\tm.length=n/\tm.getD 0 uA=a0:=⟨_,rfl,by simp; omega,rfl⟩
theorem tm2 (a0 a1:AV) (n:Nat) (h:2<=n):∃ tm:List AV,([a0,a1]:List AV)++aA (n - ([a0,a1]:List AV).length) uA=tm/\tm.length=n/\tm.getD 0 uA=a0/\tm.getD 1 uA=a1:=⟨_,rfl,by simp; omega,rfl,rfl⟩
theorem tm3 (a0 a1 a2:AV) (n:Nat) (h:3<=n):∃ tm:List AV,([a0,a1,a2]:List AV)++aA (n - ([a0,a1,a2]:List AV).length) uA=tm/\tm.length=n/\tm.getD 0 uA=a0/\tm.getD 1 uA=a1/\tm.getD 2 uA=a2:=⟨_,rfl,by simp; omega,rfl,rfl,rfl⟩
theorem tm4 (a0 a1 a2 a3:AV) (n:Nat) (h:4<=n):∃ tm:List AV,([a0,a1,a2,a3]:List AV)++aA (n - ([a0,a1,a2,a3]:List AV).length) uA=tm/\tm.length=n/\tm.getD 0 uA=a0/\tm.getD 1 uA=a1/\tm.getD 2 uA=a2/\tm.getD 3 uA=a3:=⟨_,rfl,by simp; omega,rfl,rfl,rfl,rfl⟩
theorem tm5 (a0 a1 a2 a3 a4:AV) (n:Nat) (h:5<=n):∃ tm:List AV,([a0,a1,a2,a3,a4]:List AV)++aA (n - ([a0,a1,a2,a3,a4]:List AV).length) uA=tm/\tm.length=n/\tm.getD 0 uA=a0/\tm.getD 1 uA=a1/\tm.getD 2 uA=a2/\tm.getD 3 uA=a3/\tm.getD 4 uA=a4:=⟨_,rfl,by simp; omega,rfl,rfl,rfl,rfl,rfl⟩
theorem tm6 (a0 a1 a2 a3 a4 a5:AV) (n:Nat) (h:6<=n):∃ tm:List AV,([a0,a1,a2,a3,a4,a5]:List AV)++aA (n - ([a0,a1,a2,a3,a4,a5]:List AV).length) uA=tm/\tm.length=n/\tm.getD 0 uA=a0/\tm.getD 1 uA=a1/\tm.getD 2 uA=a2/\tm.getD 3 uA=a3/\tm.getD 4 uA=a4/\tm.getD 5 uA=a5:=⟨_,rfl,by simp; omega,rfl,rfl,rfl,rfl,rfl,rfl⟩
theorem tm7 (a0 a1 a2 a3 a4 a5 a6:AV) (n:Nat) (h:7<=n):∃ tm:List AV,([a0,a1,a2,a3,a4,a5,a6]:List AV)++aA (n - ([a0,a1,a2,a3,a4,a5,a6]:List AV).length) uA=tm/\tm.length=n/\tm.getD 0 uA=a0/\tm.getD 1 uA=a1/\tm.getD 2 uA=a2/\tm.getD 3 uA=a3/\tm.getD 4 uA=a4/\tm.getD 5 uA=a5/\tm.getD 6 uA=a6:=⟨_,rfl,by simp; omega,rfl,rfl,rfl,rfl,rfl,rfl,rfl⟩
theorem Aj2 {p0 p1 r:Prop} (h:p0/\p1) (k:r):p0/\p1/\r:=⟨h.1,h.2,k⟩
theorem Aj3 {p0 p1 p2 r:Prop} (h:p0/\p1/\p2) (k:r):p0/\p1/\p2/\r:=⟨h.1,h.2.1,h.2.2,k⟩
theorem Aj4 {p0 p1 p2 p3 r:Prop} (h:p0/\p1/\p2/\p3) (k:r):p0/\p1/\p2/\p3/\r:=⟨h.1,h.2.1,h.2.2.1,h.2.2.2,k⟩
theorem Aj5 {p0 p1 p2 p3 p4 r:Prop} (h:p0/\p1/\p2/\p3/\p4) (k:r):p0/\p1/\p2/\p3/\p4/\r:=⟨h.1,h.2.1,h.2.2.1,h.2.2.2.1,h.2.2.2.2,k⟩
theorem Aj6 {p0 p1 p2 p3 p4 p5 r:Prop} (h:p0/\p1/\p2/\p3/\p4/\p5) (k:r):p0/\p1/\p2/\p3/\p4/\p5/\r:=⟨h.1,h.2.1,h.2.2.1,h.2.2.2.1,h.2.2.2.2.1,h.2.2.2.2.2,k⟩
theorem Aj7 {p0 p1 p2 p3 p4 p5 p6 r:Prop} (h:p0/\p1/\p2/\p3/\p4/\p5/\p6) (k:r):p0/\p1/\p2/\p3/\p4/\p5/\p6/\r:=⟨h.1,h.2.1,h.2.2.1,h.2.2.2.1,h.2.2.2.2.1,h.2.2.2.2.2.1,h.2.2.2.2.2.2,k⟩
theorem Aj8 {p0 p1 p2 p3 p4 p5 p6 p7 r:Prop} (h:p0/\p1/\p2/\p3/\p4/\p5/\p6/\p7) (k:r):p0/\p1/\p2/\p3/\p4/\p5/\p6/\p7/\r:=⟨h.1,h.2.1,h.2.2.1,h.2.2.2.1,h.2.2.2.2.1,h.2.2.2.2.2.1,h.2.2.2.2.2.2.1,h.2.2.2.2.2.2.2,k⟩
theorem Aj9 {p0 p1 p2 p3 p4 p5 p6 p7 p8 r:Prop} (h:p0/\p1/\p2/\p3/\p4/\p5/\p6/\p7/\p8) (k:r):p0/\p1/\p2/\p3/\p4/\p5/\p6/\p7/\p8/\r:=⟨h.1,h.2.1,h.2.2.1,h.2.2.2.1,h.2.2.2.2.1,h.2.2.2.2.2.1,h.2.2.2.2.2.2.1,h.2.2.2.2.2.2.2.1,h.2.2.2.2.2.2.2.2,k⟩
theorem aaN {p0 p1 p2 p3 p4 p5 p6 p7 p8 p9 r:Prop} (h:p0/\p1/\p2/\p3/\p4/\p5/\p6/\p7/\p8/\p9) (k:r):p0/\p1/\p2/\p3/\p4/\p5/\p6/\p7/\p8/\p9/\r:=⟨h.1,h.2.1,h.2.2.1,h.2.2.2.1,h.2.2.2.2.1,h.2.2.2.2.2.1,h.2.2.2.2.2.2.1,h.2.2.2.2.2.2.2.1,h.2.2.2.2.2.2.2.2.1,h.2.2.2.2.2.2.2.2.2,k⟩
theorem aaM {p0 p1 p2 p3 p4 p5 p6 p7 p8 p9 p10 r:Prop} (h:p0/\p1/\p2/\p3/\p4/\p5/\p6/\p7/\p8/\p9/\p10) (k:r):p0/\p1/\p2/\p3/\p4/\p5/\p6/\p7/\p8/\p9/\p10/\r:=⟨h.1,h.2.1,h.2.2.1,h.2.2.2.1,h.2.2.2.2.1,h.2.2.2.2.2.1,h.2.2.2.2.2.2.1,h.2.2.2.2.2.2.2.1,h.2.2.2.2.2.2.2.2.1,h.2.2.2.2.2.2.2.2.2.1,h.2.2.2.2.2.2.2.2.2.2,k⟩
theorem aaL {p0 p1 p2 p3 p4 p5 p6 p7 p8 p9 p10 p11 r:Prop} (h:p0/\p1/\p2/\p3/\p4/\p5/\p6/\p7/\p8/\p9/\p10/\p11) (k:r):p0/\p1/\p2/\p3/\p4/\p5/\p6/\p7/\p8/\p9/\p10/\p11/\r:=⟨h.1,h.2.1,h.2.2.1,h.2.2.2.1,h.2.2.2.2.1,h.2.2.2.2.2.1,h.2.2.2.2.2.2.1,h.2.2.2.2.2.2.2.1,h.2.2.2.2.2.2.2.2.1,h.2.2.2.2.2.2.2.2.2.1,h.2.2.2.2.2.2.2.2.2.2.1,h.2.2.2.2.2.2.2.2.2.2.2,k⟩
theorem aaK {p0 p1 p2 p3 p4 p5 p6 p7 p8 p9 p10 p11 p12 r:Prop} (h:p0/\p1/\p2/\p3/\p4/\p5/\p6/\p7/\p8/\p9/\p10/\p11/\p12) (k:r):p0/\p1/\p2/\p3/\p4/\p5/\p6/\p7/\p8/\p9/\p10/\p11/\p12/\r:=⟨h.1,h.2.1,h.2.2.1,h.2.2.2.1,h.2.2.2.2.1,h.2.2.2.2.2.1,h.2.2.2.2.2.2.1,h.2.2.2.2.2.2.2.1,h.2.2.2.2.2.2.2.2.1,h.2.2.2.2.2.2.2.2.2.1,h.2.2.2.2.2.2.2.2.2.2.1,h.2.2.2.2.2.2.2.2.2.2.2.1,h.2.2.2.2.2.2.2.2.2.2.2.2,k⟩
theorem eqQ:eqB 0 0=true/\eqB 0 1=false/\eqB 0 2=false/\eqB 0 3=false/\eqB 0 4=false/\eqB 0 5=false/\eqB 0 6=false/\eqB 0 7=false/\eqB 0 8=false/\eqB 0 9=false/\eqB 0 10=false/\eqB 0 11=false/\eqB 0 12=false/\eqB 0 13=false/\eqB 0 14=false/\eqB 0 15=false/\eqB 1 0=false/\eqB 1 1=true/\eqB 1 2=false/\eqB 1 3=false/\eqB 1 4=false/\eqB 1 5=false/\eqB 1 6=false/\eqB 1 7=false/\eqB 1 8=false/\eqB 1 9=false/\eqB 1 10=false/\eqB 1 11=false/\eqB 1 12=false/\eqB 1 13=false/\eqB 1 14=false/\eqB 1 15=false/\eqB 2 0=false/\eqB 2 1=false/\eqB 2 2=true/\eqB 2 3=false/\eqB 2 4=false/\eqB 2 5=false/\eqB 2 6=false/\eqB 2 7=false/\eqB 2 8=false/\eqB 2 9=false/\eqB 2 10=false/\eqB 2 11=false/\eqB 2 12=false/\eqB 2 13=false/\eqB 2 14=false/\eqB 2 15=false/\eqB 3 0=false/\eqB 3 1=false/\eqB 3 2=false/\eqB 3 3=true/\eqB 3 4=false/\eqB 3 5=false/\eqB 3 6=false/\eqB 3 7=false/\eqB 3 8=false/\eqB 3 9=false/\eqB 3 10=false/\eqB 3 11=false/\eqB 3 12=false/\eqB 3 13=false/\eqB 3 14=false/\eqB 3 15=false/\eqB 4 0=false/\eqB 4 1=false/\eqB 4 2=false/\eqB 4 3=false/\eqB 4 4=true/\eqB 4 5=false/\eqB 4 6=false/\eqB 4 7=false/\eqB 4 8=false/\eqB 4 9=false/\eqB 4 10=false/\eqB 4 11=false/\eqB 4 12=false/\eqB 4 13=false/\eqB 4 14=false/\eqB 4 15=false/\eqB 5 0=false/\eqB 5 1=false/\eqB 5 2=false/\eqB 5 3=false/\eqB 5 4=false/\eqB 5 5=true/\eqB 5 6=false/\eqB 5 7=false/\eqB 5 8=false/\eqB 5 9=false/\eqB 5 10=false/\eqB 5 11=false/\eqB 5 12=false/\eqB 5 13=false/\eqB 5 14=false/\eqB 5 15=false/\eqB 6 0=false/\eqB 6 1=false/\eqB 6 2=false/\eqB 6 3=false/\eqB 6 4=false/\eqB 6 5=false/\eqB 6 6=true/\eqB 6 7=false/\eqB 6 8=false/\eqB 6 9=false/\eqB 6 10=false/\eqB 6 11=false/\eqB 6 12=false/\eqB 6 13=false/\eqB 6 14=false/\eqB 6 15=false/\eqB 7 0=false/\eqB 7 1=false/\eqB 7 2=false/\eqB 7 3=false/\eqB 7 4=false/\eqB 7 5=false/\eqB 7 6=false/\eqB 7 7=true/\eqB 7 8=false/\eqB 7 9=false/\eqB 7 10=false/\eqB 7 11=false/\eqB 7 12=false/\eqB 7 13=false/\eqB 7 14=false/\eqB 7 15=false/\eqB 8 0=false/\eqB 8 1=false/\eqB 8 2=false/\eqB 8 3=false/\eqB 8 4=false/\eqB 8 5=false/\eqB 8 6=false/\eqB 8 7=false/\eqB 8 8=true/\eqB 8 9=false/\eqB 8 10=false/\eqB 8 11=false/\eqB 8 12=false/\eqB 8 13=false/\eqB 8 14=false/\eqB 8 15=false/\eqB 9 0=false/\eqB 9 1=false/\eqB 9 2=false/\eqB 9 3=false/\eqB 9 4=false/\eqB 9 5=false/\eqB 9 6=false/\eqB 9 7=false/\eqB 9 8=false/\eqB 9 9=true/\eqB 9 10=false/\eqB 9 11=false/\eqB 9 12=false/\eqB 9 13=false/\eqB 9 14=false/\eqB 9 15=false/\eqB 10 0=false/\eqB 10 1=false/\eqB 10 2=false/\eqB 10 3=false/\eqB 10 4=false/\eqB 10 5=false/\eqB 10 6=false/\eqB 10 7=false/\eqB 10 8=false/\eqB 10 9=false/\eqB 10 10=true/\eqB 10 11=false/\eqB 10 12=false/\eqB 10 13=false/\eqB 10 14=false/\eqB 10 15=false/\eqB 11 0=false/\eqB 11 1=false/\eqB 11 2=false/\eqB 11 3=false/\eqB 11 4=false/\eqB 11 5=false/\eqB 11 6=false/\eqB 11 7=false/\eqB 11 8=false/\eqB 11 9=false/\eqB 11 10=false/\eqB 11 11=true/\eqB 11 12=false/\eqB 11 13=false/\eqB 11 14=false/\eqB 11 15=false/\eqB 12 0=false/\eqB 12 1=false/\eqB 12 2=false/\eqB 12 3=false/\eqB 12 4=false/\eqB 12 5=false/\eqB 12 6=false/\eqB 12 7=false/\eqB 12 8=false/\eqB 12 9=false/\eqB 12 10=false/\eqB 12 11=false/\eqB 12 12=true/\eqB 12 13=false/\eqB 12 14=false/\eqB 12 15=false/\eqB 13 0=false/\eqB 13 1=false/\eqB 13 2=false/\eqB 13 3=false/\eqB 13 4=false/\eqB 13 5=false/\eqB 13 6=false/\eqB 13 7=false/\eqB 13 8=false/\eqB 13 9=false/\eqB 13 10=false/\eqB 13 11=false/\eqB 13 12=false/\eqB 13 13=true/\eqB 13 14=false/\eqB 13 15=false/\eqB 14 0=false/\eqB 14 1=false/\eqB 14 2=false/\eqB 14 3=false/\eqB 14 4=false/\eqB 14 5=false/\eqB 14 6=false/\eqB 14 7=false/\eqB 14 8=false/\eqB 14 9=false/\eqB 14 10=false/\eqB 14 11=false/\eqB 14 12=false/\eqB 14 13=false/\eqB 14 14=true/\eqB 14 15=false/\eqB 15 0=false/\eqB 15 1=false/\eqB 15 2=false/\eqB 15 3=false/\eqB 15 4=false/\eqB 15 5=false/\eqB 15 6=false/\eqB 15 7=false/\eqB 15 8=false/\eqB 15 9=false/\eqB 15 10=false/\eqB 15 11=false/\eqB 15 12=false/\eqB 15 13=false/\eqB 15 14=false/\eqB 15 15=true:=⟨rfl,rfl,rfl,rfl,rfl,rfl,rfl,rfl,rfl,rfl,rfl,rfl,rfl,rfl,rfl,rfl,rfl,rfl,rfl,rfl,rfl,rfl,rfl,rfl,rfl,rfl,rfl,rfl,rfl,rfl,rfl,rfl,rfl,rfl,rfl,rfl,rfl,rfl,rfl,rfl,rfl,rfl,rfl,rfl,rfl,rfl,rfl,rfl,rfl,rfl,rfl,rfl,rfl,rfl,rfl,rfl,rfl,rfl,rfl,rfl,rfl,rfl,rfl,rfl,rfl,rfl,rfl,rfl,rfl,rfl,rfl,rfl,rfl,rfl,rfl,rfl,rfl,rfl,rfl,rfl,rfl,rfl,rfl,rfl,rfl,rfl,rfl,rfl,rfl,rfl,rfl,rfl,rfl,rfl,rfl,rfl,rfl,rfl,rfl,rfl,rfl,rfl,rfl,rfl,rfl,rfl,rfl,rfl,rfl,rfl,rfl,rfl,rfl,rfl,rfl,rfl,rfl,rfl,rfl,rfl,rfl,rfl,rfl,rfl,rfl,rfl,rfl,rfl,rfl,rfl,rfl,rfl,rfl,rfl,rfl,rfl,rfl,rfl,rfl,rfl,rfl,rfl,rfl,rfl,rfl,rfl,rfl,rfl,rfl,rfl,rfl,rfl,rfl,rfl,rfl,rfl,rfl,rfl,rfl,rfl,rfl,rfl,rfl,rfl,rfl,rfl,rfl,rfl,rfl,rfl,rfl,rfl,rfl,rfl,rfl,rfl,rfl,rfl,rfl,rfl,rfl,rfl,rfl,rfl,rfl,rfl,rfl,rfl,rfl,rfl,rfl,rfl,rfl,rfl,rfl,rfl,rfl,rfl,rfl,rfl,rfl,rfl,rfl,rfl,rfl,rfl,rfl,rfl,rfl,rfl,rfl,rfl,rfl,rfl,rfl,rfl,rfl,rfl,rfl,rfl,rfl,rfl,rfl,rfl,rfl,rfl,rfl,rfl,rfl,rfl,rfl,rfl,rfl,rfl,rfl,rfl,rfl,rfl,rfl,rfl,rfl,rfl,rfl,rfl,rfl,rfl,rfl,rfl,rfl,rfl,rfl,rfl,rfl,rfl,rfl,rfl⟩
end Go.Dv
namespace Go.Dv
open Go.Proofs
attribute [local congr] aH bP bj bO bQ
def vC (c:Int):Bool:=(leB 97 c && leB c 122) || (leB 65 c && leB c 90)
theorem E6 (c:Int) (H:AH):Ev aa C0 W0 129 [.int .u8 c] H=some (.bool (vC c),H):=by
 obtain ⟨tm,ht,g0,g1⟩:=tm1 (.int .u8 c) 17 (by decide)
 rw [VI,ht]
 rw [<-af (ro H)]
 simp (maxSteps:=4000000) +contextual -implicitDefEqProofs only [W9,Tryz.f129,aP,g0,g1,↓ao,an,eu,sevalprocAttr]
 unfold vC
 refine congrArg (fun b=>some (AV.bool b,H)) ?_
 cases leB 97 c <;>
 cases leB c 122 <;>
 cases leB 65 c <;>
 cases leB c 90 <;>
 rfl
theorem KM (c:Int) (H:AH):Ev aa C0 W0 149 [.int .u8 c] H=some (.bool (vC c),H):=by
 obtain ⟨tm,ht,g0,g1⟩:=tm1 (.int .u8 c) 17 (by decide)
 rw [VE,ht]
 rw [<-af (ro H)]
 simp (maxSteps:=4000000) +contextual -implicitDefEqProofs only [W6,Tryz.f149,aP,g0,g1,↓ao,an,eu,sevalprocAttr]
 unfold vC
 refine congrArg (fun b=>some (AV.bool b,H)) ?_
 cases leB 97 c <;>
 cases leB c 122 <;>
 cases leB 65 c <;>
 cases leB c 90 <;>
 rfl
def DR (c:Int):Bool:=leB 48 c && leB c 57
theorem WE (c:Int) (H:AH):Ev aa C0 W0 165 [.int .u8 c] H=some (.bool (DR c),H):=by
 obtain ⟨tm,ht,g0,g1⟩:=tm1 (.int .u8 c) 9 (by decide)
 rw [VB,ht]
 rw [<-af (ro H)]
 simp (maxSteps:=4000000) +contextual -implicitDefEqProofs only [W3,Tryz.f165,aP,g0,g1,↓ao,an,eu,sevalprocAttr]
 unfold DR
 refine congrArg (fun b=>some (AV.bool b,H)) ?_
 cases leB 48 c <;>
 cases leB c 57 <;>
 rfl
theorem WC (c:Int) (H:AH):Ev aa C0 W0 190 [.int .u8 c] H=some (.bool (DR c),H):=by
 obtain ⟨tm,ht,g0,g1⟩:=tm1 (.int .u8 c) 9 (by decide)
 rw [VA,ht]
 rw [<-af (ro H)]
 simp (maxSteps:=4000000) +contextual -implicitDefEqProofs only [W2,Tryz.f190,aP,g0,g1,↓ao,an,eu,sevalprocAttr]
 unfold DR
 refine congrArg (fun b=>some (AV.bool b,H)) ?_
 cases leB 48 c <;>
 cases leB c 57 <;>
 rfl
def uj (c:Int):Bool:=vC c || DR c || eqB c 95
theorem Ql (c:Int) (H:AH):Ev aa C0 W0 131 [.int .u8 c] H=some (.bool (uj c),H):=by
 obtain ⟨tm,ht,g0,g1⟩:=tm1 (.int .u8 c) 13 (by decide)
 rw [VH,ht]
 rw [<-af (ro H)]
 simp (maxSteps:=4000000) +contextual -implicitDefEqProofs only [W8,Tryz.f131,aP,g0,g1,↓E4,↓Wf,E6,WE,↓ao,an,eu,sevalprocAttr]
 unfold uj
 refine congrArg (fun b=>some (AV.bool b,H)) ?_
 cases vC c <;>
 cases DR c <;>
 cases eqB c 95 <;>
 rfl
theorem Qk (c:Int) (H:AH):Ev aa C0 W0 150 [.int .u8 c] H=some (.bool (uj c),H):=by
 obtain ⟨tm,ht,g0,g1⟩:=tm1 (.int .u8 c) 13 (by decide)
 rw [VD,ht]
 rw [<-af (ro H)]
 simp (maxSteps:=4000000) +contextual -implicitDefEqProofs only [W5,Tryz.f150,aP,g0,g1,↓J1,↓Wd,KM,WC,↓ao,an,eu,sevalprocAttr]
 unfold uj
 refine congrArg (fun b=>some (AV.bool b,H)) ?_
 cases vC c <;>
 cases DR c <;>
 cases eqB c 95 <;>
 rfl
def bA (p:Nat->Bool) (N j:Nat):Bool:=(List.range' j (N - j)).all p
theorem cN {p:Nat->Bool} {N j:Nat} (h:N<=j):bA p N j=true:=by unfold bA; rw [show N - j=0 by omega]; rfl
theorem ch {p:Nat->Bool} {N j:Nat} (h:j < N):bA p N j=(p j && bA p N (j+1)):=by
 unfold bA; rw [show N - j=(N - (j+1))+1 by omega,List.range'_succ,gn]
theorem dy {p:Nat->Bool} {N:Nat}:bA p N 0=true↔∀ j,j < N->p j=true:=by
 unfold bA; rw [List.all_eq_true]
 exact ⟨fun h j hj=>h j (by rw [Hl]; omega),fun h j hj=>h j (by rw [Hl] at hj; omega)⟩
theorem OY {H:AH} {v:AV} {ws:List ByteArray} {s:ByteArray} (hs:SlS 164 1 H v (ws.map fun w=>[AV.str w])) (hN:ws.length < 2 ^ 60):∀ (d j:Nat) (tm:List AV) (K:AH),ws.length - j=d->j<=ws.length->al H K->tm.length=18->tm.getD 0 uA=.str s->tm.getD 1 uA=v->tm.getD 5 uA=I ((j:Nat):Int) ->
   ∃ X Y K1 K2,EvC aa C0 W0 plN Dz (tm,K)=br (bA (fun j=>!sEq (ws.getD j default) s) (ws.length) (j)) (some (.exit 0,(X,K1))) (some (.ret,(Y,K2)))/\(X.length=18/\al H K1/\X.getD 0 uA=.str s/\X.getD 1 uA=v)/\Y.length=18/\Y.getD 4 uA=.bool true:=by
 intro d
 induction d with
 | zero =>
   intro j tm K hd hj hA hlen h0 h1 h5
   have hjl:j=ws.length:=by omega
   have hlt:ltB (j:Int) (ws.length:Nat)=false:=db (by omega)
   have hln:=hs.len
   simp only [au] at hln
   rw [cN (by omega),E7]
   simp (maxSteps:=4000000) -implicitDefEqProofs only [xX,Tryz.f120,aP,hlen,h0,h1,h5,hlt,hln,↓ao,an,eu,sevalprocAttr]
   exact ⟨_,tm.set 4 (.bool true),_,K,rfl,⟨by first | exact hlen | simp only [ar,hlen],hA,by first | exact h0 | simp only [hlen,h0,gB,sevalprocAttr],by first | exact h1 | simp only [hlen,h1,gB,sevalprocAttr]⟩,by simp only [ls,hlen],by simp only [hlen,dq,Nat.reduceLT]⟩
 | succ d ih =>
   intro j tm K hd hj hA hlen h0 h1 h5
   have hjN:j < ws.length:=by omega
   have hlt:ltB (j:Int) (ws.length:Nat)=true:=cQ (by omega)
   have hw:=cD (j:=j) (by omega)
   have hln:=hs.len
   simp only [au] at hln
   obtain ⟨i,k,hi,hr⟩:=hs.ix j [AV.str (ws.getD j default)] (by rw [List.getElem?_map,aj hjN,gde,aj hjN]; rfl)
   have hr0:=fun L=>A6 hr hA L (x:=AV.str (ws.getD j default)) rfl
   rw [ch hjN,E7]
   rw [<-af K]
   cases hp:(!sEq (ws.getD j default) s) with
   | true =>
     have hp:sEq (ws.getD j default) s=false:=by rw [ba] at hp; exact hp
     simp only [aZ]
     simp (maxSteps:=4000000) -implicitDefEqProofs only [xX,Tryz.f120,aP,hlen,h0,h1,h5,hlt,hw,hln,hi,hr0,hp,ld9,↓ao,an,eu,sevalprocAttr]
     exact ih (j+1) _ _ (by omega) (by omega) (by first | exact hA | exact hA.bS _ | exact (hA.bS _).bS _ | exact hA) (by simp only [ls,hlen]) (by simp only [hlen,h0,gB,sevalprocAttr]) (by simp only [hlen,h1,gB,sevalprocAttr]) (by simp only [hlen,h5,gB,sevalprocAttr])
   | false =>
     have hp:sEq (ws.getD j default) s=true:=by rw [Bool.not_eq_false'] at hp; exact hp
     simp only [bd]
     simp (maxSteps:=4000000) -implicitDefEqProofs only [xX,Tryz.f120,aP,hlen,h0,h1,h5,hlt,hw,hln,hi,hr0,hp,ld9,↓ao,an,eu,sevalprocAttr]
     exact ⟨tm,_,K,_,rfl,⟨hlen,hA,h0,h1⟩,by simp only [ls,hlen],by simp only [hlen,gB,sevalprocAttr]⟩
theorem JU {H:AH} {v:AV} {ws:List ByteArray} {s:ByteArray} {tm:List AV} {K:AH} {Z:Option (bu × St)} (hX:EvC aa C0 W0 plN Dz (tm,K)=Z) (hs:SlS 164 1 H v (ws.map fun w=>[AV.str w])) (hN:ws.length < 2 ^ 60) (hA:al H K) (hlen:tm.length=18) (h0:tm.getD 0 uA=.str s) (h1:tm.getD 1 uA=v) (h5:tm.getD 5 uA=I ((0:Nat):Int)) :
   ∃ X Y K1 K2,Z=br (bA (fun j=>!sEq (ws.getD j default) s) (ws.length) (0)) (some (.exit 0,(X,K1))) (some (.ret,(Y,K2)))/\(X.length=18/\al H K1/\X.getD 0 uA=.str s/\X.getD 1 uA=v)/\Y.length=18/\Y.getD 4 uA=.bool true:=by
 subst hX
 exact OY hs hN (ws.length) 0 tm K (by omega) (by omega) hA hlen h0 h1 h5
theorem So (ws:List ByteArray) (s:ByteArray):bA (fun j=>!sEq (ws.getD j default) s) ws.length 0=!sIn ws s:=by
 rw [fA,dy,ba]
 unfold sIn
 constructor
 · intro h
   rw [Hp]
   intro hc
   have hm:∃ a∈ws,(s == a)=true:=by
     rw [zH,List.any_eq_true] at hc
     exact hc
   obtain ⟨a,ha,he⟩:=hm
   obtain ⟨j,hj⟩:=List.getElem?_of_mem ha
   have:=h j (aJ hj)
   rw [gde,hj,e7,ba,A4,<-zQ,he] at this
   cases this
 · intro h j hj
   rw [ba,Hp]
   intro hc
   rw [zH,List.any_eq_false] at h
   refine h (ws.getD j default) ?_ ?_
   · rw [gde,aj hj]; exact List.getElem_mem hj
   · rw [zQ,A4]; exact hc
theorem WL {v:AV} {ws:List ByteArray} {s:ByteArray} {H:AH} (hs:SlS 164 1 H v (ws.map fun w=>[AV.str w])) (hN:ws.length < 2 ^ 60):Ev aa C0 W0 120 [.str s,v] H=some (.bool (sIn ws s),H):=by
 obtain ⟨tm,ht,g0,g1,g2⟩:=tm2 (.str s) v 18 (by decide)
 rw [VM,ht]
 rw [<-af (ro H)]
 simp (maxSteps:=4000000) -implicitDefEqProofs only [Xc,Tryz.f120,aP,g0,g1,g2,↓ao,an,eu,sevalprocAttr]
 generalize hX:EvC aa C0 W0 _ (Code.loop _) _=Z
 obtain ⟨X,Y,K1,K2,he,xs,y0,y1⟩:=JU (s:=s) hX hs.ro hN (al.app _ _) (by simp only [ls,g0]) (by simp only [g0,g1,gB,sevalprocAttr]; try rfl) (by simp only [g0,g2,gB,sevalprocAttr]; try rfl) (by simp only [g0,gB,sevalprocAttr]; try rfl)
 subst he
 rw [So]
 simp (maxSteps:=4000000) +contextual -implicitDefEqProofs only [xs.1,y0,y1,↓ao,an,eu,sevalprocAttr]
 cases sIn ws s <;> rfl
end Go.Dv
