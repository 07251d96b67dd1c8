/- Part 06 of the walks (own work). -/
import Derived.Test.YtilpjnckfkjkbaaGreatDoorS05
import Derived.LoopN
open Array renaming getD_eq_getD_getElem?→wu,getElem?_eq_none→oU,mk→yj,replicate→jw,setIfInBounds_comm→yy
open Bool renaming and_eq_true→aD,false_eq_true→bD,or_eq_true→gM,or_false→tG,or_self→QG,or_true→vr,true_or→vo
open List renaming all_eq_true→oS,getD→vH,getD_eq_getElem?_getD→ym,getElem?_eq_getElem→aj,getElem?_eq_none→aT,getElem?_set_ne→aB,mapM_cons→MO,mem_append_left→CT,mem_append_right→CJ,mem_filterMap→FV,mem_singleton→bg,replicate→aA
open Nat renaming lt_or_ge→aY
open Option renaming bind_eq_some_iff→ae,bind_some→ay,getD_some→e7,isSome_iff_exists→yl,map_eq_some_iff→ah,map_some→cE,toList_some→CO
open Option.some renaming inj→aC,injEq→aS
set_option maxRecDepth 100000
set_option maxHeartbeats 4000000
set_option linter.unusedSimpArgs false
set_option linter.unusedVariables false
namespace Go.Dv
section
variable {P:Program} {C:Cfg P} {w0:World} {Pr:Nat->Prop}
structure SR (gl:GL) (w0:World) (Pr:Nat->Prop) (φ:Env) (s:St) (a:Act) (w:World):Prop where
 wr:WR w0 Pr φ s.2 w
 tm:VRs φ s.1 a.tmps.toList
 df:a.defers=[]
 gi:GI gl φ
theorem fS {gl:GL} {φ:Env} {tm:List AV} {a:Act} (hg:GI gl φ) (h:VRs φ tm a.tmps.toList) (x:Operand) (v:AV) (hx:cz gl tm x=some v):VR φ v (a.eval x):=by
 cases x with
 | tmp t =>
   simp only [cz,aS] at hx
   subst hx
   simp only [Act.eval]
   rcases aY t tm.length with hl | hl
   · obtain ⟨u,hu,r⟩:=h.get t _ (aj hl)
     have hu':a.tmps[t]? =some u:=by simpa using hu
     simpa [vH,aj hl,wu,hu'] using r
   · have hl':a.tmps.size<=t:=by have:=h.length; simp at this; omega
     simp only [vH,aT hl,wu,oU hl']
     exact ⟨#[],rfl,rfl⟩
 | const c=>exact mg _ _ _ hx
 | global g =>
   simp only [cz,ah] at hx
   obtain ⟨i,hi,rfl⟩:=hx
   obtain ⟨z,hz⟩:=hg g i hi
   exact ⟨g,0,z,hz,rfl⟩
 | func f=>cases hx; exact ⟨#[],#[],rfl,rfl,rfl⟩
theorem gS {φ:Env} {tm:List AV} {a:Act} {v:AV} {u:Value} (h:VRs φ tm a.tmps.toList) (dst:Option Tmp) (r:VR φ v u):VRs φ (dY dst v tm) (a.put dst u).tmps.toList:=by
 cases dst with
 | none=>exact h
 | some d=>simpa [dY,Act.put] using h.set d r
theorem put_defers (a:Act) (dst:Option Tmp) (u:Value):(a.put dst u).defers=a.defers:=by cases dst <;> rfl
theorem PG {φ:Env} {x:AV} {u:Value} (r:VR φ x u) (b:Bool):u=.bool b↔x=.bool b:=by
 constructor
 · rintro rfl
   cases x <;> simp only [VR] at r <;> first
     | (cases r; rfl)
     | (cases r; done)
     | exact absurd rfl (r.2 b)
     | (obtain ⟨_,_,h,_⟩:=r; cases h; done)
     | (obtain ⟨_,_,_,_,h⟩:=r; cases h; done)
     | (obtain ⟨_,_,_,_,_,_,h,_⟩:=r; cases h; done)
     | (obtain ⟨_,_,_,h⟩:=r; cases h; done)
     | (obtain ⟨_,_,h,_⟩:=r; cases h; done)
     | (obtain ⟨_,h,_⟩:=r; cases h; done)
 · rintro rfl; exact r
theorem kF {φ:Env} {tm:List AV} {a:Act} (ops:Array Oper) (h:VRs φ tm a.tmps.toList):yielded ops a.tmps=cL ops tm:=by
 funext j
 unfold yielded cL
 cases hd:(ops[j]?).bind (·.dst) with
 | none=>rfl
 | some d =>
   simp only [ay]
   rcases aY d tm.length with hl | hl
   · obtain ⟨u,hu,r⟩:=h.get d _ (aj hl)
     have hu':a.tmps[d]? =some u:=by simpa using hu
     rw [hu',aj hl]
     cases hx:tm[d] with
     | bool b=>rw [hx] at r; simp only [VR] at r; subst r; rfl
     | _ =>
       have hne:∀ b,u≠.bool b:=fun b e=>by have:=(PG r b).1 e; rw [hx] at this; cases this
       simp only
       cases u <;> first | rfl | exact absurd rfl (hne _)
   · have hl':a.tmps.size<=d:=by have:=h.length; simp at this; omega
     rw [aT hl,oU hl']
theorem uR {call:bT} (hcall:iq P C.gl w0 Pr call) {slot:Option Nat} {ops:Array Oper} {i:Nat} {s s':St} (h:jF P C call slot ops i s=some s') {φ:Env} {a:Act} {w:World} (hs:SR C.gl w0 Pr φ s a w)
   {Q:Exit->Act->World->Prop} {K:Act->World->Prop} (hK:∀ φ' a' w',φ.le φ'->SR C.gl w0 Pr φ' s' a' w'->K a' w'):wpOp P ops Q i K a w:=by
 unfold jF at h
 unfold wpOp
 split at h
 · rename_i hi
   cases h
   simp only [hi]
   exact hK φ a w (Env.le_refl φ) hs
 · rename_i o hi
   simp only [hi]
   rw [kF ops hs.tm]
   split at h
   · rename_i hw
     rw [if_pos hw]
     left
     split at h
     · rename_i v H' ha
       cases h
       obtain ⟨φ',w',hle,hW,u,hrun,r⟩:=tp (C:=C) hs.wr (fun x v hx=>fS hs.gi hs.tm x v hx) ha
       unfold Oper.wp
       rw [hrun]
       exact hK φ' _ w' hle ⟨hW,gS (hs.tm.mono hle) o.dst r,by rw [put_defers]; exact hs.df,hs.gi.mono hle⟩
     · rename_i H' ha
       cases h
       obtain ⟨φ',w',hle,hW,hrun⟩:=tp (C:=C) hs.wr (fun x v hx=>fS hs.gi hs.tm x v hx) ha
       unfold Oper.wp
       rw [show (execOp a.eval o).run P w=_ from hrun]
       exact hK φ' _ w' hle ⟨hW,gS (hs.tm.mono hle) o.dst ⟨#[],rfl,rfl⟩,by rw [put_defers]; exact hs.df,hs.gi.mono hle⟩
     · rename_i f args H' ha
       simp only [ah] at h
       obtain ⟨⟨v,H''⟩,hc,he⟩:=h
       cases he
       obtain ⟨φ',w',hle,hW,us,hrun,r⟩:=tp (C:=C) hs.wr (fun x v hx=>fS hs.gi hs.tm x v hx) ha
       unfold Oper.wp
       rw [hrun]
       refine (hcall f args H' v H'' hc φ' w' us (hs.gi.mono hle) hW r).mono ?_
       rintro e w'' ⟨φ'',u,hle',rfl,ru,hW'⟩
       exact hK φ'' _ w'' (Env.le_trans hle hle') ⟨hW',gS (hs.tm.mono (Env.le_trans hle hle')) o.dst ru,by rw [put_defers]; exact hs.df,hs.gi.mono (Env.le_trans hle hle')⟩
     · cases h
   · rename_i hw
     cases h
     rw [if_neg hw]
     exact hK φ _ w (Env.le_refl φ) ⟨hs.wr,gS hs.tm o.dst ⟨#[],rfl,rfl⟩,by rw [put_defers]; exact hs.df,hs.gi⟩
theorem oh {call:bT} (hcall:iq P C.gl w0 Pr call) {ops:Array Oper}:∀ (is:List Nat) (s s':St),jz P C call ops is s=some s'->∀ {φ:Env} {a:Act} {w:World},SR C.gl w0 Pr φ s a w ->
   ∀ {Q:Exit->Act->World->Prop},(∀ φ' a' w',φ.le φ'->SR C.gl w0 Pr φ' s' a' w'->Q .normal a' w')->wpOps P ops Q is a w
 | [],s,s',h,φ,a,w,hs,Q,hQ=>by cases h; exact hQ φ a w (Env.le_refl φ) hs
 | i::is,s,s',h,φ,a,w,hs,Q,hQ=>by
   simp only [jz,ae] at h
   obtain ⟨s1,h1,h2⟩:=h
   rw [wpOps_cons]
   exact uR hcall h1 hs fun φ' a' w' hle hs'=>oh hcall is s1 s' h2 hs' fun φ'' a'' w'' hle' hs''=>hQ φ'' a'' w'' (Env.le_trans hle hle') hs''
theorem jH {ev:Operand->Option AV} {ρ:Operand->Value} {φ:Env} (hρ:∀ x a,ev x=some a->VR φ a (ρ x)) {o:Oper} {v:AV} (h:((cM P ev o).bind fun n=>match n with | .val v=>some v | _=>none)=some v) :
   ∃ u,VR φ v u/\∀ w,(execOp ρ o).run P w=.ok (.value u) w:=by
 simp only [ae] at h
 obtain ⟨n,hn,hv⟩:=h
 unfold cM at hn
 split at hn
 · rename_i hc
   simp only [aD,oS] at hc
   have hcong:execOp ρ o=execOp (jT ev) o:=execOp_congr o (fun cs b e=>by rw [e] at hc; exact absurd hc.1 (by simp [notSelect])) fun x hx=>by
     obtain ⟨u,hu⟩:=yl.1 (hc.2 x (by simpa using hx))
     have:jT ev x=u:=by simp [jT,hu]
     rw [this]
     simp only [ae] at hu
     obtain ⟨a,ha,hav⟩:=hu
     exact jl a u hav _ (hρ x a ha)
   split at hn
   · rename_i u hu
     simp only [ah] at hn
     obtain ⟨a,ha,rfl⟩:=hn
     cases hv
     exact ⟨u,mg _ _ _ ha,fun w=>by rw [hcong]; exact jW _ _ hu w⟩
   · cases hn
 · cases hn
theorem uX {ev:Operand->Option AV} {ρ:Operand->Value} {φ:Env} (hρ:∀ x a,ev x=some a->VR φ a (ρ x)) {o:Oper} {v:AV} (h:cB P ev o=some v) :
   ∃ u,VR φ v u/\∀ w,(execOp ρ o).run P w=.ok (.value u) w:=by
 obtain ⟨dst,op,ty,pos,after,guard⟩:=o
 cases op <;> try (simp only [cB] at h; cases h; done)
 case move x=>simp only [cB] at h; exact ⟨ρ x,hρ x v h,fun w=>rfl⟩
 case assign x=>simp only [cB] at h; exact ⟨ρ x,hρ x v h,fun w=>rfl⟩
 case pick c a b =>
   simp only [cB,ae] at h
   obtain ⟨cv,hc,h⟩:=h
   have rc:=hρ c cv hc
   split at h
   · simp only [VR] at rc
     exact ⟨ρ a,hρ a v h,fun w=>by simp [execOp,rc,asBool]⟩
   · simp only [VR] at rc
     exact ⟨ρ b,hρ b v h,fun w=>by simp [execOp,rc,asBool]⟩
   · cases h
 case binOp op t x y yt =>
   simp only [cB,ae] at h
   obtain ⟨xv,hx,yv,hy,h⟩:=h
   have rx:=hρ x _ hx
   have ry:=hρ y _ hy
   split at h
   · rename_i k a k' b
     split at h
     · rename_i v' hv
       cases h
       split at hv
       · rename_i hk
         subst hk
         simp only [VR] at rx ry
         have key:=fun w=>s4 (P:=P) (w:=w) (φ:=φ) hv t x y
         obtain ⟨u,hu,ru⟩:=key default
         refine ⟨u,ru,fun w=>?_⟩
         obtain ⟨u',hu',ru'⟩:=key w
         have e:u'=u:=by
           cases op <;> simp only [eV] at hv <;> try (cases hv; done)
           case quo=>split at hv <;> cases hv; exact ru'.trans ru.symm
           case rem=>split at hv <;> cases hv; exact ru'.trans ru.symm
           all_goals (cases hv; exact ru'.trans ru.symm)
         subst e
         obtain ⟨u2,h2,_⟩:=dW (φ':=φ) (s:=do eqGuard op t x y (ρ x) (ρ y); binOp op t (ρ x) (ρ y)) (u:=u') (by rw [rx,ry]; exact hu') ru'
         have:=(dW (P:=P) (w:=w) (φ':=φ) (s:=do eqGuard op t x y (ρ x) (ρ y); binOp op t (ρ x) (ρ y)) (u:=u') (by rw [rx,ry]; exact hu') ru')
         show (do pure (Next.value (<-(do eqGuard op t x y (ρ x) (ρ y); binOp op t (ρ x) (ρ y)))):Sem Next).run P w=_
         rw [rx,ry]
         rw [Sem.run_bind,hu',Result.andThen_ok,Sem.run_pure]
       · cases hv
     · exact jH hρ h
   · split at h
     · rename_i r hr
       cases h
       refine ⟨.bool r,rfl,fun w=>?_⟩
       obtain ⟨h1,h2,h3,_⟩:=uz rx ry hr .eql x y w
       show (do pure (Next.value (<-(do eqGuard .eql t x y (ρ x) (ρ y); binOp .eql t (ρ x) (ρ y)))):Sem Next).run P w=_
       simp only [Sem.run_bind,h2,Result.andThen_ok,h3,h1,Sem.run_pure]
     · rename_i r hr
       cases h
       refine ⟨.bool (!r),rfl,fun w=>?_⟩
       obtain ⟨h1,h2,_,h4⟩:=uz rx ry hr .neq x y w
       show (do pure (Next.value (<-(do eqGuard .neq t x y (ρ x) (ρ y); binOp .neq t (ρ x) (ρ y)))):Sem Next).run P w=_
       simp only [Sem.run_bind,h2,Result.andThen_ok,h4,h1,Sem.run_pure]
     · exact jH hρ h
 case unOp=>exact jH hρ h
 case convert=>exact jH hρ h
 case index=>exact jH hρ h
 case typeAssert=>exact jH hρ h
 case makeInterface t x =>
   simp only [cB,ae] at h
   obtain ⟨xv,hv,h⟩:=h
   split at h
   · cases h
   · rename_i d hd hu
     cases h
     refine ⟨.iface t (ρ x),⟨_,rfl,hρ x xv hv⟩,fun w=>?_⟩
     cases d <;> first | exact absurd rfl (hd _) | simp [execOp,Instr.makeInterface,bq hu]
   · cases h
 case makeFunc fn first cap =>
   simp only [cB,ae,ah] at h
   obtain ⟨f,hf,c,hc,rfl⟩:=h
   refine ⟨.func fn (first.map ρ) (cap.map ρ),⟨_,_,rfl,?_,?_⟩,fun w=>rfl⟩
   · simpa using kd hρ _ _ hf
   · simpa using kd hρ _ _ hc
 case fieldAddr t x f =>
   simp only [cB,ae] at h
   obtain ⟨xv,hx,hv⟩:=h
   obtain ⟨y,hy,ry⟩:=oZ (P:=P) (hρ x _ hx) hv
   exact ⟨y,ry,fun w=>by simp only [execOp,Sem.run_bind,hy w,Result.andThen_ok,Sem.run_pure]⟩
 case field t x f =>
   simp only [cB,ae] at h
   obtain ⟨xv,hx,hv⟩:=h
   obtain ⟨y,hy,ry⟩:=u9 (P:=P) (hρ x _ hx) hv
   exact ⟨y,ry,fun w=>by simp only [execOp,Sem.run_bind,hy w,Result.andThen_ok,Sem.run_pure]⟩
 case indexAddr t x ix =>
   simp only [cB,ae] at h
   obtain ⟨xv,hx,iv,hi,hv⟩:=h
   obtain ⟨y,hy,ry⟩:=oX (P:=P) (hρ x _ hx) (hρ ix _ hi) hv
   exact ⟨y,ry,fun w=>by simp only [execOp,Sem.run_bind,hy w,Result.andThen_ok,Sem.run_pure]⟩
 case extract t ix =>
   simp only [cB,ae] at h
   obtain ⟨tv,ht,h⟩:=h
   split at h
   · rename_i vs
     obtain ⟨us,hval,rs⟩:=hρ t _ ht
     obtain ⟨u,hu,ru⟩:=rs.get ix v h
     have hu':us[ix]? =some u:=by simpa using hu
     exact ⟨u,ru,fun w=>by simp [execOp,Instr.extract,hval,hu']⟩
   · cases h
 case nilCheck x =>
   simp only [cB,ae] at h
   obtain ⟨xv,hx,hn⟩:=h
   have key:=fun w=>pz (P:=P) (w:=w) (ρ:=ρ) hn (hρ x xv hx) ⟨dst,.nilCheck x,ty,pos,after,guard⟩ x rfl rfl
   refine ⟨ρ x,?_,fun w=>(key w).1⟩
   rw [(key default).2]; exact hρ x xv hx
theorem xN (ops:Array Oper):∀ (l:List (Nat × dM)) (n:Nat) (L:Array Bool) (r:Option (Nat × Array Bool)) (e:Nat × Array Bool),nQ ops l n L r=some e->∀ e0,r=some e0->e0=e
 | [],n,L,r,e,h,e0,hr=>by rw [G3] at h; rw [hr] at h; exact aC h
 | (i,p)::l,n,L,r,e,h,e0,hr=>by
   subst hr
   rw [xO] at h
   simp only [ae] at h
   obtain ⟨e1,_,h⟩:=h
   split at h
   · exact xN ops l n L _ e h e0 rfl
   · cases h
theorem po {call:bT} {base:Nat} {ops:Array Oper}:∀ (l:List (Nat × dM)) (s t:St) (r:Option St),er P C call base ops l s r=some t ->
   (∀ t0,r=some t0->t0=t)/\∀ i p,(i,p)∈l->∃ s',jF P C call (some (base+i)) ops i s=some s'/\bU P C call base ops p s'=some t
 | [],s,t,r,h=>by
   simp only [er] at h
   exact ⟨fun t0 e=>by rw [h] at e; exact (aC e).symm,fun i p hm=>by cases hm⟩
 | (i,p)::l,s,t,r,h=>by
   simp only [er,ae] at h
   obtain ⟨s',hs',t',ht',h⟩:=h
   cases r with
   | none =>
     obtain ⟨h1,h2⟩:=po l s t (some t') h
     have e:=h1 t' rfl
     subst e
     refine ⟨fun t0 e=>(by cases e),fun j q hm=>?_⟩
     cases hm with
     | head=>exact ⟨s',hs',ht'⟩
     | tail _ hm=>exact h2 j q hm
   | some t0 =>
     simp only at h
     split at h
     · rename_i hb
       obtain ⟨h1,h2⟩:=po l s t (some t0) h
       have e:=h1 t0 rfl
       have e2:=wF hb
       subst e; subst e2
       refine ⟨fun t1 e=>(aC e).symm,fun j q hm=>?_⟩
       cases hm with
       | head=>exact ⟨s',hs',ht'⟩
       | tail _ hm=>exact h2 j q hm
     · cases h
theorem pv {ev ev':Operand->Option AV} {o:Oper} (h:∀ x∈o.op.operands,ev x=ev' x):cM P ev o=cM P ev' o:=by
 unfold cM
 have h1:(o.op.operands.toList.all fun x=>((ev x).bind toV).isSome)=(o.op.operands.toList.all fun x=>((ev' x).bind toV).isSome):=by
   rw [Bool.eq_iff_iff]
   simp only [oS]
   exact ⟨fun k x hx=>by rw [<-h x (by simpa using hx)]; exact k x hx,fun k x hx=>by rw [h x (by simpa using hx)]; exact k x hx⟩
 rw [h1]
 split
 · rename_i hc
   simp only [aD] at hc
   rw [execOp_congr (ρ:=jT ev) (ρ':=jT ev') o (fun cs b e=>by rw [e] at hc; exact absurd hc.1 (by simp [notSelect])) fun x hx=>by unfold jT; rw [h x hx]]
 · rfl
theorem gW {ev ev':Operand->Option AV}:∀ (l:List Operand),(∀ x∈l,ev x=ev' x)->evL ev l=evL ev' l
 | [],_=>rfl
 | x::l,h=>by rw [evL,evL,h x (by simp),gW l fun y hy=>h y (by simp [hy])]
theorem l9 {ev ev':Operand->Option AV} (x:Option Operand) (h:∀ y,x=some y->ev y=ev' y):evO ev x=evO ev' x:=by
 cases x with
 | none=>rfl
 | some y=>rw [evO,evO,h y rfl]
theorem sJ {ev ev':Operand->Option AV} {o:Oper} (h:∀ x∈o.op.operands,ev x=ev' x):cB P ev o=cB P ev' o:=by
 have hp:=pv (P:=P) h
 obtain ⟨dst,op,ty,pos,after,guard⟩:=o
 cases op <;> simp only [cB,hp] <;> simp only [Op.operands] at h <;> first
   | rfl
   | (rw [h _ (by simp)]; done)
   | skip
 case pick c a b=>rw [h c (by simp),h a (by simp),h b (by simp)]
 case binOp op t x y yt=>rw [h x (by simp),h y (by simp)]
 case indexAddr t x i=>rw [h x (by simp),h i (by simp)]
 case makeFunc fn f c=>rw [gW f.toList fun x hx=>h x (by simp at hx ⊢; exact .inl hx),gW c.toList fun x hx=>h x (by simp at hx ⊢; exact .inr hx)]
theorem uW {ev ev':Operand->Option AV} {o:Oper} {H:AH} (h:∀ x∈o.op.operands,ev x=ev' x):eY P ev o H=eY P ev' o H:=by
 have hq:=sJ (P:=P) h
 unfold eY
 split
 · rename_i t a hop
   rw [hop] at h; simp only [Op.operands] at h
   rw [h a (by simp)]
 · rename_i t m k ok hop
   rw [hop] at h; simp only [Op.operands] at h
   rw [h m (by simp),h k (by simp)]
 · rename_i t x lo hi mx hop
   rw [hop] at h; simp only [Op.operands] at h
   rw [h x (by simp),l9 lo fun y e=>h y (by simp [e]),l9 hi fun y e=>h y (by simp [e]),l9 mx fun y e=>h y (by simp [e])]
 · rename_i c hop
   rw [hop] at h; simp only [Op.operands,Call.operands] at h
   split
   · rw [gW c.args.toList fun x hx=>h x (by simp at hx ⊢; first | exact .inr hx | exact hx)]
   · rfl
 · exact hq
theorem B1 {ev ev':Operand->Option AV} {o:Oper} {c:Call} {H:AH} (hop:o.op=.call c) (hb:∀ b,c.callee≠.builtin b) (h:∀ x∈o.op.operands,ev x=ev' x):fN P C none ev o c H=fN P C none ev' o c H:=by
 rw [hop] at h; simp only [Op.operands,Call.operands] at h
 unfold fN
 split
 · rename_i f hc
   rw [hc] at h
   rw [h f (by simp),gW c.args.toList fun x hx=>h x (by simp at hx ⊢; exact .inr hx)]
 · rename_i r nm hc
   rw [hc] at h
   rw [h r (by simp),gW c.args.toList fun x hx=>h x (by simp at hx ⊢; exact .inr hx)]
 · rename_i b hc
   exact absurd hc (hb b)
theorem D0 {ev:Operand->Option AV} {o:Oper} {c:Call} {H H1:AH} {n:ji} (hb:∀ b,c.callee≠.builtin b) (h:fN P C none ev o c H=some (n,H1)):H1=H:=by
 unfold fN at h
 split at h
 · simp only [ae] at h
   obtain ⟨fv,_,as,_,h⟩:=h
   split at h
   · simp only [ae] at h
     obtain ⟨fn,_,h⟩:=h
     split at h
     · exact (Prod.mk.inj (aC h)).2.symm
     · cases h
   · cases h
 · simp only [ae] at h
   obtain ⟨fv,_,as,_,h⟩:=h
   split at h
   · simp only [ae] at h
     obtain ⟨⟨g,v'⟩,_,fn,_,h⟩:=h
     split at h
     · exact (Prod.mk.inj (aC h)).2.symm
     · cases h
   · cases h
 · rename_i b hc
   exact absurd hc (hb b)
theorem B0 {call:bT} {ev ev':Operand->Option AV} {o:Oper} {H:AH} (h:∀ x∈o.op.operands,ev x=ev' x):gz P C call ev o H=gz P C call ev' o H:=by
 have hr:=uW (P:=P) (H:=H) h
 unfold gz
 split
 · rename_i c hop
   split
   · exact hr
   · rename_i hb
     rw [B1 hop (fun b e=>hb b e) h]
 · exact hr
theorem uu {gl:GL} {tm:List AV} {d:Tmp} {u:AV} {x:Operand} (h:x≠.tmp d):cz gl (tm.set d u) x=cz gl tm x:=by
 cases x with
 | tmp t =>
   have:t≠d:=fun e=>h (by rw [e])
   simp only [cz]
   rw [ym,ym,aB (Ne.symm this)]
 | _=>rfl
theorem tQ {d e:Option Tmp} {u v:AV} {tm:List AV} (h:∀ x,d=some x->e≠some x):dY d u (dY e v tm)=dY e v (dY d u tm):=by
 cases d with
 | none=>rfl
 | some x =>
   cases e with
   | none=>rfl
   | some y =>
     have:x≠y:=fun c=>h x rfl (by rw [c])
     simp only [dY]
     exact List.set_comm _ _ (Ne.symm this)
theorem rL {ev:Operand->Option AV} {ρ:Operand->Value} {φ:Env} {H:AH} {w:World} (hW:WR w0 Pr φ H w) (hρ:∀ x a,ev x=some a->VR φ a (ρ x)) {o:Oper} {v:AV} (h:eY P ev o H=some v) :
   ∃ u,VR φ v u/\(execOp ρ o).run P w=.ok (.value u) w:=by
 unfold eY at h
 split at h
 · rename_i t a hop
   obtain ⟨dst,op,ty,pos,after,guard⟩:=o
   simp only at hop
   subst hop
   simp only [ae] at h
   obtain ⟨av,ha,h⟩:=h
   split at h
   · rename_i i k
     obtain ⟨b,o,z,hφ,hval⟩:=hρ a _ ha
     obtain ⟨y,hy,ry⟩:=sY (P:=P) hW hφ h
     exact ⟨y,ry,by simp only [execOp,Instr.loadAt,hval,Instr.sureAddr,Sem.run_bind,Sem.run_pure,Result.andThen_ok,hy]⟩
   · cases h
 · rename_i t m k ok hop
   obtain ⟨dst,op,ty,pos,after,guard⟩:=o
   simp only at hop
   subst hop
   simp only [ae] at h
   obtain ⟨mv,hm,kv,hk,hv⟩:=h
   obtain ⟨y,hy,ry⟩:=sV (P:=P) hW (hρ m _ hm) (hρ k _ hk) hv
   exact ⟨y,ry,by simp only [execOp,Sem.run_bind,hy,Result.andThen_ok,Sem.run_pure]⟩
 · rename_i t x lo hi mx hop
   obtain ⟨dst,op,ty,pos,after,guard⟩:=o
   simp only at hop
   subst hop
   simp only [ae] at h
   obtain ⟨xv,hx,l,hl,hh',hh,m,hm,hv⟩:=h
   obtain ⟨y,hy,ry⟩:=uS (P:=P) hW (hρ x _ hx) (nP hρ hl) (nP hρ hh) (nP hρ hm) hv
   exact ⟨y,ry,by simp only [execOp,Sem.run_bind,hy,Result.andThen_ok,Sem.run_pure]⟩
 · rename_i c hop
   obtain ⟨dst,op,ty,pos,after,guard⟩:=o
   simp only at hop
   subst hop
   split at h
   · rename_i hcal
     simp only [ae] at h
     obtain ⟨as,has,h⟩:=h
     have ras:=kd hρ _ _ has
     split at h
     · rename_i x
       simp only [ae] at h
       obtain ⟨t,ht,hl⟩:=h
       obtain ⟨u,us,hu,rx,_⟩:=ras
       have ha0:(c.args.map ρ)[0]? =some u:=by rw [<-Array.getElem?_toList,Array.toList_map,hu]; rfl
       obtain ⟨y,hy,ry⟩:=yP (ty:=ty) hW ht ha0 rx hl
       refine ⟨y,ry,?_⟩
       simp only [execOp,resolve,hcal,Sem.run_bind,Sem.run_pure,Result.andThen_ok,invoke,builtin,hy]
     · cases h
   · cases h
 · obtain ⟨u,ru,hu⟩:=uX hρ h
   exact ⟨u,ru,hu w⟩
theorem kI {ev:Operand->Option AV} {o:Oper} {f:FuncId} {args:List AV} (h:cM P ev o=some (.enter f args)):False:=by
 unfold cM at h
 split at h
 · split at h
   · obtain ⟨v,_,e⟩:=ah.1 h; cases e
   · cases h
 · cases h
theorem Cz {slot:Option Nat} {ev:Operand->Option AV} {dst:Option Tmp} {op:Op} {ty:TypeId} {pos:String} {after:Array Edge} {guard:Option (Nat × Bool)} {H H':AH} {f:FuncId} {args:List AV} (ho:(match op with | .call _=>false | _=>true)=true∨False)
   (h:aop P C slot ev ⟨dst,op,ty,pos,after,guard⟩ H=some (.enter f args,H')):False:=by
 have hm:∀ {α:Type} (x:Option α) (g:α->AV) (k:α->AH),(x.map fun v=>(ji.val (g v),k v))=some (.enter f args,H')->False:=fun x g k h=>by
   obtain ⟨v,_,e⟩:=ah.1 h; cases e
 have hk:∀ {α:Type} (x:Option α) (k:α->AH),(x.map fun v=>(ji.skip,k v))=some (.enter f args,H')->False:=fun x k h=>by
   obtain ⟨v,_,e⟩:=ah.1 h; cases e
 have hp:∀ (o:Oper),((cM P ev o).map fun n=>(n,H))=some (.enter f args,H')->False:=fun o h=>by
   obtain ⟨v,hv,e⟩:=ah.1 h
   cases e; exact kI hv
 cases op <;> simp only [aop] at h <;> first
   | exact hp _ h
   | skip
 case call c=>rcases ho with ho | ho <;> simp at ho
 case move x=>exact hm _ id (fun _=>H) h
 case assign x=>exact hm _ id (fun _=>H) h
 case pick c a b =>
   obtain ⟨cv,_,h⟩:=ae.1 h
   split at h
   · exact hm _ id (fun _=>H) h
   · exact hm _ id (fun _=>H) h
   · cases h
 case alloc e=>obtain ⟨z,_,h⟩:=ae.1 h; exact hm _ (fun r:Nat × AH=>AV.ptr r.1 0) (fun r:Nat × AH=>r.2) h
 case box e x=>obtain ⟨z,_,h⟩:=ae.1 h; exact hm _ (fun r:Nat × AH=>AV.ptr r.1 0) (fun r:Nat × AH=>r.2) h
 case build t ps=>obtain ⟨z,_,h⟩:=ae.1 h; exact hm _ id (fun _=>H) h
 case buildSlice t l ps=>obtain ⟨z,_,h⟩:=ae.1 h; exact hm _ (fun r:AV × AH=>r.1) (fun r:AV × AH=>r.2) h
 case load t a =>
   obtain ⟨av,_,h⟩:=ae.1 h
   split at h
   · exact hm _ id (fun _=>H) h
   · cases h
 case store t a x =>
   obtain ⟨av,_,h⟩:=ae.1 h
   obtain ⟨xv,_,h⟩:=ae.1 h
   split at h
   · exact hk _ id h
   · cases h
 case nilCheck x=>obtain ⟨z,_,h⟩:=ae.1 h; exact hm _ id (fun _=>H) h
 case binOp op t x y yt =>
   obtain ⟨xv,_,h⟩:=ae.1 h
   obtain ⟨yv,_,h⟩:=ae.1 h
   split at h
   · split at h
     · cases h
     · exact hp _ h
   · split at h
     · cases h
     · cases h
     · exact hp _ h
 case makeInterface t x =>
   obtain ⟨xv,_,h⟩:=ae.1 h
   split at h <;> cases h
 case makeFunc fn f' c=>obtain ⟨z,_,h⟩:=ae.1 h; exact hm _ (fun c=>.func fn z c) (fun _=>H) h
 case makeMap t r =>
   cases r with
   | none=>exact hm _ (fun r:Nat × AH=>AV.map r.1) (fun r:Nat × AH=>r.2) h
   | some r=>exact hp _ h
 case makeSlice t l c =>
   obtain ⟨xv,_,h⟩:=ae.1 h
   obtain ⟨yv,_,h⟩:=ae.1 h
   exact hm _ (fun r:AV × AH=>r.1) (fun r:AV × AH=>r.2) h
 case slice t x lo hi mx =>
   obtain ⟨xv,_,h⟩:=ae.1 h
   obtain ⟨l,_,h⟩:=ae.1 h
   obtain ⟨hh,_,h⟩:=ae.1 h
   obtain ⟨m,_,h⟩:=ae.1 h
   split at h
   · cases h
   · exact hp _ h
 case fieldAddr t x f'=>obtain ⟨z,_,h⟩:=ae.1 h; exact hm _ id (fun _=>H) h
 case field t x f'=>obtain ⟨z,_,h⟩:=ae.1 h; exact hm _ id (fun _=>H) h
 case indexAddr t x i =>
   obtain ⟨xv,_,h⟩:=ae.1 h
   obtain ⟨yv,_,h⟩:=ae.1 h
   exact hm _ id (fun _=>H) h
 case lookup t m k ok =>
   obtain ⟨xv,_,h⟩:=ae.1 h
   obtain ⟨yv,_,h⟩:=ae.1 h
   exact hm _ id (fun _=>H) h
 case mapEntry t m k =>
   obtain ⟨xv,_,h⟩:=ae.1 h
   obtain ⟨yv,_,h⟩:=ae.1 h
   exact hm _ (fun r:AV × AH=>r.1) (fun r:AV × AH=>r.2) h
 case entryStore t m s x =>
   obtain ⟨xv,_,h⟩:=ae.1 h
   obtain ⟨yv,_,h⟩:=ae.1 h
   obtain ⟨zv,_,h⟩:=ae.1 h
   exact hk _ id h
 case mapUpdate t m k v =>
   obtain ⟨xv,_,h⟩:=ae.1 h
   obtain ⟨yv,_,h⟩:=ae.1 h
   obtain ⟨zv,_,h⟩:=ae.1 h
   exact hk _ id h
 case insert t m k v =>
   obtain ⟨xv,_,h⟩:=ae.1 h
   obtain ⟨yv,_,h⟩:=ae.1 h
   obtain ⟨zv,_,h⟩:=ae.1 h
   exact hk _ id h
 case extract t ix =>
   obtain ⟨xv,_,h⟩:=ae.1 h
   split at h
   · exact hm _ id (fun _=>H) h
   · cases h
 case convert t u x =>
   split at h
   · rename_i n hn
     cases h; exact kI hn
   · obtain ⟨xv,_,h⟩:=ae.1 h
     exact hm _ (fun s=>.str s) (fun _=>H) h
theorem uw {ev ev':Operand->Option AV}:∀ (l:List (Nat × Operand)),(∀ x∈l.map (·.2),ev x=ev' x)->evP ev l=evP ev' l
 | [],_=>rfl
 | (i,x)::l,h=>by rw [evP,evP,h x (by simp),uw l fun y hy=>h y (by simp at hy ⊢; exact .inr hy)]
theorem Az {slot:Option Nat} {ev ev':Operand->Option AV} {o:Oper} {c:Call} {H:AH} (hop:o.op=.call c) (h:∀ x∈o.op.operands,ev x=ev' x):fN P C slot ev o c H=fN P C slot ev' o c H:=by
 have hp:=pv (P:=P) h
 rw [hop] at h; simp only [Op.operands,Call.operands] at h
 unfold fN
 split
 · rename_i f hc
   rw [hc] at h
   rw [h f (by simp),gW c.args.toList fun x hx=>h x (by simp at hx ⊢; exact .inr hx)]
 · rename_i r nm hc
   rw [hc] at h
   rw [h r (by simp),gW c.args.toList fun x hx=>h x (by simp at hx ⊢; exact .inr hx)]
 · rename_i b hc
   rw [gW c.args.toList fun x hx=>h x (by simp at hx ⊢; first | exact .inr hx | exact hx),hp]
theorem Hf {slot:Option Nat} {ev ev':Operand->Option AV} {o:Oper} {H:AH} (h:∀ x∈o.op.operands,ev x=ev' x):aop P C slot ev o H=aop P C slot ev' o H:=by
 have hp:=pv (P:=P) h
 by_cases hcall:∃ c,o.op=.call c
 · obtain ⟨c,hc⟩:=hcall
   unfold aop
   rw [hc]
   exact Az hc h
 · obtain ⟨dst,op,ty,pos,after,guard⟩:=o
   cases op
   case call c=>exact absurd ⟨c,rfl⟩ hcall
   case pick c a b =>
     simp only [Op.operands] at h
     simp only [aop]
     rw [h c (by simp),h a (by simp),h b (by simp)]
   case binOp op t x y yt =>
     simp only [Op.operands] at h
     simp only [aop,hp]
     rw [h x (by simp),h y (by simp)]
   case build t ps =>
     simp only [Op.operands] at h
     simp only [aop]
     rw [uw ps.toList fun x hx=>h x (by simpa using hx)]
   case buildSlice t len ps =>
     simp only [Op.operands] at h
     simp only [aop]
     rw [uw ps.toList fun x hx=>h x (by simpa using hx)]
   case makeFunc fn f c =>
     simp only [Op.operands] at h
     simp only [aop]
     rw [gW f.toList fun x hx=>h x (by simp at hx ⊢; exact .inl hx),gW c.toList fun x hx=>h x (by simp at hx ⊢; exact .inr hx)]
   case makeMap t r =>
     cases r with
     | none=>rfl
     | some r=>simp only [aop,hp]
   case slice t x lo hi mx =>
     simp only [Op.operands] at h
     simp only [aop,hp]
     rw [h x (by simp),l9 lo fun y e=>h y (by simp [e]),l9 hi fun y e=>h y (by simp [e]),l9 mx fun y e=>h y (by simp [e])]
   case convert t u x =>
     simp only [Op.operands] at h
     simp only [aop,hp]
     rw [h x (by simp)]
   all_goals simp only [Op.operands] at h
   all_goals simp only [aop]
   all_goals first
     | rfl
     | exact congrArg _ hp
     | (rw [h _ (by simp)]; done)
     | (rename_i a b; rw [h a (by simp),h b (by simp)]; done)
     | (rename_i a b c; rw [h a (by simp),h b (by simp),h c (by simp)]; done)
     | (rename_i a b c; rw [h a (by simp),h b (by simp)]; done)
     | (rename_i a b c; rw [h b (by simp),h c (by simp)]; done)
     | (rename_i a b c d; rw [h b (by simp),h c (by simp),h d (by simp)]; done)
     | (rename_i a b c d; rw [h b (by simp),h c (by simp)]; done)
     | rw [hp]
theorem wC {ops:Array Oper} {o:Oper} {tm:List AV} {d:Tmp} {u:AV} (hd:d∉o.looksAt ops):Region.wanted o (cL ops (tm.set d u))=Region.wanted o (cL ops tm):=by
 unfold Region.wanted
 cases hg:o.guard with
 | none=>rfl
 | some g =>
   obtain ⟨g,b⟩:=g
   simp only
   have:cL ops (tm.set d u) g=cL ops tm g:=by
     unfold cL
     cases hx:(ops[g]?).bind (·.dst) with
     | none=>rfl
     | some e =>
       have hne:e≠d:=fun c=>hd (by
         subst c
         unfold Oper.looksAt
         rw [hg]
         refine CJ _ ?_
         simp only [hx,CO,bg])
       simp only [ay]
       rw [aB (Ne.symm hne)]
   rw [this]
theorem Bp {ops:Array Oper} {o:Oper} {d:Tmp} (hd:d∉o.looksAt ops):∀ x∈o.op.operands,x≠.tmp d:=fun x hx e=>hd (by
 subst e
 unfold Oper.looksAt
 exact CT _ (FV.2 ⟨.tmp d,by simpa using hx,rfl⟩))
def mvV (P:Program) (C:Cfg P) (ops:Array Oper) (o:Oper) (s:St):Option AV:=
 if Region.wanted o (cL ops s.1) then (if nj o.op then eY P (cz C.gl s.1) o s.2 else cB P (cz C.gl s.1) o) else some uA
theorem EB {ops:Array Oper} {o:Oper} {H:AH} {tm:List AV} {dst:Option Tmp} {u:AV} (h:∀ d,dst=some d->d∉o.looksAt ops):mvV P C ops o (dY dst u tm,H)=mvV P C ops o (tm,H):=by
 cases dst with
 | none=>rfl
 | some d =>
   have hd:=h d rfl
   have hw:=wC (tm:=tm) (u:=u) hd
   have hev:∀ x∈o.op.operands,cz C.gl (tm.set d u) x=cz C.gl tm x:=fun x hx=>uu (Bp hd x hx)
   show mvV P C ops o (tm.set d u,H)=_
   unfold mvV
   simp only
   rw [hw,uW hev,sJ hev]
def Ext (H K:AH):Prop:=∀ (i:Nat) (o:bo),H[i]? =some o->o≠bo.fresh->K[i]? =some o
theorem Ext.refl (H:AH):Ext H H:=fun _ _ h _=>h
theorem It {H K:AH} (h:Ext H K) {i k n:Nat} {xs:List AV} (hr:ak H i k n=some xs):ak K i k n=some xs:=by
 unfold ak at hr ⊢
 split at hr
 · rename_i cs e hi; rw [h _ _ hi (by intro c; cases c)]; exact hr
 · rename_i cs hi; rw [h _ _ hi (by intro c; cases c)]; exact hr
 · cases hr
theorem Si {H K:AH} (h:Ext H K) {t:TypeId} {i k:Nat} {v:AV} (hr:ldA P t H i k=some v):ldA P t K i k=some v:=by
 unfold ldA at hr ⊢
 split at hr
 · obtain ⟨xs,hx,rfl⟩:=ah.1 hr
   rw [It h hx]; rfl
 · obtain ⟨xs,hx,hh⟩:=ae.1 hr
   rw [It h hx]; exact hh
 · cases hr
theorem vf {H K:AH} (h:Ext H K) {m:AV} {es} (hr:jq H m=some es):jq K m=some es:=by
 unfold jq at hr ⊢
 split at hr
 · exact hr
 · split at hr
   · rename_i hi; rw [h _ _ hi (by intro c; cases c)]; exact hr
   · cases hr
 · cases hr
theorem OL {H K:AH} (h:Ext H K) {t:TypeId} {x v:AV} (hr:dR P t H x=some v):dR P t K x=some v:=by
 unfold dR at hr ⊢
 split at hr
 · exact hr
 · exact hr
 · obtain ⟨es,he,rfl⟩:=ah.1 hr
   rw [vf h he]; rfl
 · cases hr
theorem Iq {H K:AH} (h:Ext H K) {ev:Operand->Option AV} {o:Oper} (ho:nj o.op=true) {v:AV} (hr:eY P ev o H=some v):eY P ev o K=some v:=by
 unfold eY at hr ⊢
 split at hr
 · obtain ⟨av,ha,hr⟩:=ae.1 hr
   rw [ha]
   simp only [ay]
   split at hr
   · exact Si h hr
   · cases hr
 · obtain ⟨mv,hm,hr⟩:=ae.1 hr
   obtain ⟨kv,hk,hr⟩:=ae.1 hr
   rw [hm,hk]
   simp only [ay]
   unfold ig at hr ⊢
   obtain ⟨p,hp,hr⟩:=ae.1 hr
   obtain ⟨es,he,hr⟩:=ae.1 hr
   rw [hp]
   simp only [ay]
   rw [vf h he]
   exact hr
 · rename_i hop; rw [hop] at ho; cases ho
 · split at hr
   · obtain ⟨as,ha,hr⟩:=ae.1 hr
     rw [ha]
     simp only [ay]
     split at hr
     · obtain ⟨t,ht,hr⟩:=ae.1 hr
       rw [ht]
       exact OL h hr
     · cases hr
   · cases hr
 · exact hr
theorem sL {slot:Nat} {H K:AH} {o:bo} {i:Nat} (h:put (some slot) H o=some (i,K)):Ext H K:=by
 unfold put at h
 simp only at h
 split at h
 · rename_i hf
   obtain ⟨rfl,rfl⟩:=Prod.mk.inj (aC h)
   intro j o' hj hne
   by_cases e:j=slot
   · subst e; rw [hf] at hj; exact absurd (aC hj).symm hne
   · rw [aB (Ne.symm e)]; exact hj
 · cases h
theorem BI {slot:Nat} {ev:Operand->Option AV} {o:Oper} (ho:oF o.op=true) {H K:AH} {n:ji} (h:aop P C (some slot) ev o H=some (n,K)):Ext H K:=by
 have hm:∀ {α:Type} (x:Option α) (f:α->ji),(x.map fun v=>(f v,H))=some (n,K)->Ext H K:=fun x f h=>by
   obtain ⟨v,_,e⟩:=ah.1 h
   obtain ⟨_,rfl⟩:=Prod.mk.inj e
   exact Ext.refl _
 have hs:∀ (v:AV),some (ji.val v,H)=some (n,K)->Ext H K:=fun v h=>by
   obtain ⟨_,rfl⟩:=Prod.mk.inj (aC h)
   exact Ext.refl _
 obtain ⟨dst,op,ty,pos,after,guard⟩:=o
 cases op <;> simp only [oF,uf,nj,tG,QG,bD,vr,vo] at ho <;> simp only [aop] at h
 case move x=>exact hm _ .val h
 case assign x=>exact hm _ .val h
 case pick c a b =>
   obtain ⟨cv,_,h⟩:=ae.1 h
   split at h
   · exact hm _ .val h
   · exact hm _ .val h
   · cases h
 case alloc e =>
   obtain ⟨z,_,h⟩:=ae.1 h
   obtain ⟨⟨i,H'⟩,hp,e⟩:=ah.1 h
   obtain ⟨_,rfl⟩:=Prod.mk.inj e
   exact sL hp
 case box e x =>
   obtain ⟨z,_,h⟩:=ae.1 h
   obtain ⟨⟨i,H'⟩,hp,e⟩:=ah.1 h
   obtain ⟨_,rfl⟩:=Prod.mk.inj e
   exact sL hp
 case build t ps =>
   obtain ⟨z,_,h⟩:=ae.1 h
   exact hm _ .val h
 case buildSlice t len ps =>
   obtain ⟨z,_,h⟩:=ae.1 h
   obtain ⟨⟨i,H'⟩,hp,e⟩:=ah.1 h
   obtain ⟨_,rfl⟩:=Prod.mk.inj e
   unfold bf at hp
   obtain ⟨el,_,hp⟩:=ae.1 hp
   obtain ⟨z,_,hp⟩:=ae.1 hp
   split at hp
   · obtain ⟨cs,_,hp⟩:=ae.1 hp
     obtain ⟨⟨i2,H2⟩,hp2,e2⟩:=ah.1 hp
     cases e2
     exact sL hp2
   · cases hp
 case load t a =>
   obtain ⟨av,_,h⟩:=ae.1 h
   split at h
   · exact hm _ .val h
   · cases h
 case nilCheck x =>
   obtain ⟨av,_,h⟩:=ae.1 h
   exact hm _ .val h
 case binOp op t x y yt =>
   obtain ⟨xv,_,h⟩:=ae.1 h
   obtain ⟨yv,_,h⟩:=ae.1 h
   split at h
   · split at h
     · exact hs _ h
     · exact hm _ id h
   · split at h
     · exact hs _ h
     · exact hs _ h
     · exact hm _ id h
 case makeInterface t x =>
   obtain ⟨xv,_,h⟩:=ae.1 h
   split at h
   · cases h
   · exact hs _ h
   · cases h
 case makeFunc fn f c =>
   obtain ⟨xv,_,h⟩:=ae.1 h
   exact hm _ (fun c=>.val (.func fn xv c)) h
 case makeMap t r =>
   cases r with
   | none =>
     obtain ⟨⟨i,H'⟩,hp,e⟩:=ah.1 h
     obtain ⟨_,rfl⟩:=Prod.mk.inj e
     exact sL hp
   | some r=>simp at ho
 case makeSlice t l c =>
   obtain ⟨lv,_,h⟩:=ae.1 h
   obtain ⟨cv,_,h⟩:=ae.1 h
   obtain ⟨⟨i,H'⟩,hp,e⟩:=ah.1 h
   obtain ⟨_,rfl⟩:=Prod.mk.inj e
   unfold ie at hp
   split at hp
   · obtain ⟨el,_,hp⟩:=ae.1 hp
     obtain ⟨z,_,hp⟩:=ae.1 hp
     split at hp
     · obtain ⟨⟨i2,H2⟩,hp2,e2⟩:=ah.1 hp
       cases e2
       exact sL hp2
     · cases hp
   · cases hp
 case slice t x lo hi mx =>
   obtain ⟨xv,_,h⟩:=ae.1 h
   obtain ⟨l,_,h⟩:=ae.1 h
   obtain ⟨hh,_,h⟩:=ae.1 h
   obtain ⟨m,_,h⟩:=ae.1 h
   split at h
   · exact hs _ h
   · exact hm _ id h
 case fieldAddr t x f =>
   obtain ⟨av,_,h⟩:=ae.1 h
   exact hm _ .val h
 case field t x f =>
   obtain ⟨av,_,h⟩:=ae.1 h
   exact hm _ .val h
 case indexAddr t x i =>
   obtain ⟨av,_,h⟩:=ae.1 h
   obtain ⟨iv,_,h⟩:=ae.1 h
   exact hm _ .val h
 case lookup t m k ok =>
   obtain ⟨av,_,h⟩:=ae.1 h
   obtain ⟨iv,_,h⟩:=ae.1 h
   exact hm _ .val h
 case extract t ix =>
   obtain ⟨av,_,h⟩:=ae.1 h
   split at h
   · exact hm _ .val h
   · cases h
 case convert t u x =>
   split at h
   · obtain ⟨_,rfl⟩:=Prod.mk.inj (aC h)
     exact Ext.refl _
   · obtain ⟨av,_,h⟩:=ae.1 h
     exact hm _ (fun s=>.val (.str s)) h
 case call c =>
   have hc:c.callee=.builtin .len:=by
     revert ho
     cases hc:c.callee with
     | builtin b=>cases b <;> simp
     | value f=>simp
     | invoke r n=>simp
   unfold fN at h
   rw [hc] at h
   simp only at h
   obtain ⟨as,_,h⟩:=ae.1 h
   rcases as with _ | ⟨x,_ | ⟨y,l⟩⟩
   · exact hm _ id h
   · exact hm _ .val h
   · exact hm _ id h
 all_goals exact hm _ id h
def Stp (P:Program) (C:Cfg P) (call:bT) (base:Nat) (ops:Array Oper) (i:Nat) (o:Oper) (s s':St):Prop:=
 jF P C call (some (base+i)) ops i s=some s'∨∃ v,mvV P C ops o s=some v/\s'=(dY o.dst v s.1,s.2)
theorem C2 {call:bT} {slot:Option Nat} {ops:Array Oper} {i:Nat} {o:Oper} {s s':St} (hi:ops[i]? =some o) (h:jF P C call slot ops i s=some s'):∃ u,s'.1=dY o.dst u s.1:=by
 unfold jF at h
 simp only [hi] at h
 split at h
 · split at h
   · cases h; exact ⟨_,rfl⟩
   · cases h; exact ⟨_,rfl⟩
   · obtain ⟨r,_,e⟩:=ah.1 h
     cases e; exact ⟨_,rfl⟩
   · cases h
 · cases h; exact ⟨_,rfl⟩
theorem F6 {call:bT} {slot:Option Nat} {ops:Array Oper} {i:Nat} {o:Oper} {tm:List AV} {H:AH} {s':St} {dst:Option Tmp} {u:AV} (hi:ops[i]? =some o) (h1:∀ d,dst=some d->d∉o.looksAt ops) (h2:∀ d,dst=some d->o.dst≠some d)
   (h:jF P C call slot ops i (dY dst u tm,H)=some s'):∃ t,jF P C call slot ops i (tm,H)=some (t,s'.2)/\s'.1=dY dst u t:=by
 cases dst with
 | none=>exact ⟨s'.1,h,rfl⟩
 | some d =>
   have hd:=h1 d rfl
   have hw:=wC (tm:=tm) (u:=u) hd
   have hev:∀ x∈o.op.operands,cz C.gl (tm.set d u) x=cz C.gl tm x:=fun x hx=>uu (Bp hd x hx)
   have ha:=Hf (P:=P) (C:=C) (slot:=slot) (o:=o) (H:=H) hev
   have hcm:∀ v,dY o.dst v (dY (some d) u tm)=dY (some d) u (dY o.dst v tm):=fun v=>tQ fun x hx e=>h2 d rfl (by cases e; exact hx)
   unfold jF at h ⊢
   simp only [hi] at h ⊢
   rw [show dY (some d) u tm=tm.set d u from rfl,hw,ha] at h
   split at h
   · rename_i hwn
     rw [if_pos hwn]
     split at h
     · rename_i v H' he
       cases h; exact ⟨_,rfl,hcm v⟩
     · rename_i H' he
       cases h; exact ⟨_,rfl,hcm uA⟩
     · rename_i f args H' he
       obtain ⟨r,hr,e⟩:=ah.1 h
       cases e
       simp only [hr,cE]
       exact ⟨_,rfl,hcm r.1⟩
     · cases h
   · rename_i hwn
     rw [if_neg hwn]
     cases h; exact ⟨_,rfl,hcm uA⟩
theorem F7 {call:bT} {slot:Nat} {ops:Array Oper} {i:Nat} {o:Oper} {s s':St} (hi:ops[i]? =some o) (hg:oF o.op=true) (h:jF P C call (some slot) ops i s=some s'):Ext s.2 s'.2:=by
 unfold jF at h
 simp only [hi] at h
 split at h
 · split at h
   · rename_i v H' ha; cases h; exact BI hg ha
   · rename_i H' ha; cases h; exact BI hg ha
   · rename_i f args H' ha
     exfalso
     revert hg
     obtain ⟨dst,op,ty,pos,after,guard⟩:=o
     clear h
     intro hg
     cases op <;> simp only [oF,uf,nj,tG,QG,bD,vr,vo] at hg
     case call =>
       rename_i c _
       have hc:c.callee=.builtin .len:=by
         revert hg
         cases hc:c.callee with
         | builtin b=>cases b <;> simp
         | value f=>simp
         | invoke r n=>simp
       simp only [aop,fN,hc] at ha
       obtain ⟨as,_,ha⟩:=ae.1 ha
       rcases as with _ | ⟨x,_ | ⟨y,l⟩⟩
       · obtain ⟨v,hv,e⟩:=ah.1 ha
         cases e
         exact kI hv
       · obtain ⟨v,_,e⟩:=ah.1 ha; cases e
       · obtain ⟨v,hv,e⟩:=ah.1 ha
         cases e
         exact kI hv
     all_goals exact Cz (by first | exact .inl rfl | exact .inr rfl) ha
   · cases h
 · cases h; exact Ext.refl _
theorem Stp.sound {call:bT} (hcall:iq P C.gl w0 Pr call) {base:Nat} {ops:Array Oper} {i:Nat} {o:Oper} (hi:ops[i]? =some o) {s s':St} (h:Stp P C call base ops i o s s') {φ:Env} {a:Act} {w:World} (hs:SR C.gl w0 Pr φ s a w)
   {Q:Exit->Act->World->Prop} {K:Act->World->Prop} (hK:∀ φ' a' w',φ.le φ'->SR C.gl w0 Pr φ' s' a' w'->K a' w'):wpOp P ops Q i K a w:=by
 rcases h with h | ⟨v,hv,rfl⟩
 · exact uR hcall h hs hK
 · unfold mvV at hv
   unfold wpOp
   simp only [hi]
   rw [kF ops hs.tm]
   split at hv
   · rename_i hw
     rw [if_pos hw]
     left
     have:∃ u,VR φ v u/\(execOp a.eval o).run P w=.ok (.value u) w:=by
       split at hv
       · exact rL (P:=P) hs.wr (fun x v hx=>fS hs.gi hs.tm x v hx) hv
       · obtain ⟨u,ru,hu⟩:=uX (fun x v hx=>fS hs.gi hs.tm x v hx) hv
         exact ⟨u,ru,hu w⟩
     obtain ⟨u,ru,hu⟩:=this
     unfold Oper.wp
     rw [hu]
     exact hK φ _ w (Env.le_refl φ) ⟨hs.wr,gS hs.tm o.dst ru,by rw [put_defers]; exact hs.df,hs.gi⟩
   · rename_i hw
     cases hv
     rw [if_neg hw]
     exact hK φ _ w (Env.le_refl φ) ⟨hs.wr,gS hs.tm o.dst ⟨#[],rfl,rfl⟩,by rw [put_defers]; exact hs.df,hs.gi⟩
def tx (P:Program) (C:Cfg P) (call:bT) (base:Nat) (ops:Array Oper) (K:St->Prop):Nat->Array Bool->St->Prop
 | 0,L,s=>Region.ready .any ops L=[]/\K s
 | n+1,L,s=>(Region.ready .any ops L=[]->K s)/\∀ i∈Region.ready .any ops L,∃ o s',ops[i]? =some o/\Stp P C call base ops i o s s'/\tx P C call base ops K n (L.setIfInBounds i true) s'
theorem tx.sound {call:bT} (hcall:iq P C.gl w0 Pr call) {base:Nat} {ops:Array Oper} {Ks:St->Prop} {K:Act->World->Prop}:∀ (n:Nat) (L:Array Bool) (s:St),tx P C call base ops Ks n L s->∀ {φ:Env} {a:Act} {w:World},SR C.gl w0 Pr φ s a w ->
   (∀ t φ' a' w',Ks t->φ.le φ'->SR C.gl w0 Pr φ' t a' w'->K a' w')->wpAny P .any ops (fun e a w=>match e with | .normal=>K a w | _=>False) n L a w
 | 0,L,s,h,φ,a,w,hs,hK=>⟨h.1,hK s φ a w h.2 (Env.le_refl φ) hs⟩
 | n+1,L,s,h,φ,a,w,hs,hK=>by
   refine ⟨fun h0=>hK s φ a w (h.1 h0) (Env.le_refl φ) hs,fun i hi=>?_⟩
   obtain ⟨o,s',ho,hst,hn⟩:=h.2 i hi
   exact hst.sound hcall ho hs fun φ' a' w' hle hs'=>tx.sound hcall n _ s' hn hs' fun t φ'' a'' w'' ht hle' h''=>hK t φ'' a'' w'' ht (Env.le_trans hle hle') h''
def kP (ops:Array Oper) (L:Array Bool):Prop:=∀ j oj,ops[j]? =some oj->L.getD j false=true->∀ e∈oj.after,Region.binds .any e=true->L.getD e.on false=true
theorem kP.set {ops:Array Oper} {L:Array Bool} (h:kP ops L) {i:Nat} (hi:i∈Region.ready .any ops L):kP ops (L.setIfInBounds i true):=by
 obtain ⟨_,oi,hoi,hall⟩:=mem_ready.1 hi
 intro j oj hj hl e he hb
 by_cases hij:i=j
 · subst hij
   have:oj=oi:=aC (hj.symm.trans hoi)
   subst this
   exact getD_set_true (hall e he hb)
 · rw [getD_set_ne false hij] at hl
   exact getD_set_true (h j oj hj hl e he hb)
theorem Fg {ops:Array Oper} {L:Array Bool} (hc:kP ops L) {i:Nat} (hi:L.getD i false=false):∀ (n j:Nat),DS ops n j i=true->j∉Region.ready .any ops L/\L.getD j false=false
 | 0,j,h=>by simp [DS] at h
 | n+1,j,h=>by
   unfold DS at h
   split at h
   · rename_i oj hj
     obtain ⟨e,he,hb⟩:=Array.any_eq_true'.1 h
     simp only [aD,gM,beq_iff_eq] at hb
     have hon:L.getD e.on false=false:=by
       rcases hb.2 with c | c
       · rw [c]; exact hi
       · exact (Fg hc hi n e.on c).2
     constructor
     · intro hr
       obtain ⟨_,oj',hoj',hall⟩:=mem_ready.1 hr
       rw [hj] at hoj'; cases hoj'
       have:=hall e he hb.1
       rw [hon] at this; cases this
     · cases hl:L.getD j false with
       | false=>rfl
       | true =>
         have:=hc j oj hj hl e he hb.1
         rw [hon] at this; cases this
   · cases h
theorem tx.first {call:bT} {base:Nat} {ops:Array Oper} {K:St->Prop} {i:Nat} {oi:Oper} {v:AV} (hi:ops[i]? =some oi) :
   ∀ (fuel:Nat) (listed:Array Bool) (s:St),kP ops listed ->
     (∀ j oj,ops[j]? =some oj->j≠i->listed.getD j true=false->(∀ e∈oj.after,Region.binds .any e=true->e.on≠i)->oi.apart ops oj=true) ->
     (nj oi.op=false∨∀ j oj,ops[j]? =some oj->j≠i->listed.getD j true=false->oF oj.op=true∨∃ n,DS ops n j i=true) ->
     i∈Region.ready .any ops listed->mvV P C ops oi s=some v ->
     tx P C call base ops K fuel (listed.setIfInBounds i true) (dY oi.dst v s.1,s.2)->tx P C call base ops K (fuel+1) listed s:=by
 intro fuel
 induction fuel with
 | zero =>
   intro listed s _ _ _ hr hy H
   refine ⟨fun h=>(by rw [h] at hr; cases hr),fun j hj=>?_⟩
   by_cases hji:j=i
   · subst hji; exact ⟨oi,_,hi,.inr ⟨v,hy,rfl⟩,H⟩
   · have:=ready_mono hj hji
     rw [H.1] at this
     cases this
 | succ fuel ih =>
   intro listed s hcl hfree hgen hr hy H
   refine ⟨fun h=>(by rw [h] at hr; cases hr),fun j hj=>?_⟩
   by_cases hji:j=i
   · subst hji; exact ⟨oi,_,hi,.inr ⟨v,hy,rfl⟩,H⟩
   · obtain ⟨oj,s12,hoj,hst,H2⟩:=H.2 j (ready_mono hj hji)
     obtain ⟨hjun,oj',hoj',hall⟩:=mem_ready.1 hj
     rw [hoj] at hoj'; cases hoj'
     have h0:=(mem_ready.1 hr).1
     have hnot:∀ e∈oj.after,Region.binds .any e=true->e.on≠i:=fun e he hb heq=>by
       have h1:=hall e he hb
       rw [heq,getD_both h0] at h1
       cases h1
     have hap:=hfree j oj hoj hji hjun hnot
     obtain ⟨a1,a2,a3⟩:=Oper.apart_spec hap
     have hfree':∀ k ok,ops[k]? =some ok->k≠i->(listed.setIfInBounds j true).getD k true=false ->
         (∀ e∈ok.after,Region.binds .any e=true->e.on≠i)->oi.apart ops ok=true:=fun k ok hk hki hun hno=>by
       refine hfree k ok hk hki ?_ hno
       by_cases hjk:j=k
       · subst hjk; exact hjun
       · rw [getD_set_ne true hjk] at hun; exact hun
     have hgen':nj oi.op=false∨∀ k ok,ops[k]? =some ok->k≠i->(listed.setIfInBounds j true).getD k true=false->oF ok.op=true∨∃ n,DS ops n k i=true:=hgen.imp id fun hg k ok hk hki hun=>by
       refine hg k ok hk hki ?_
       by_cases hjk:j=k
       · subst hjk; exact hjun
       · rw [getD_set_ne true hjk] at hun; exact hun
     have key:∃ s2,Stp P C call base ops j oj s s2/\s12=(dY oi.dst v s2.1,s2.2)/\(∃ u,s2.1=dY oj.dst u s.1)/\(oF oj.op=true->Ext s.2 s2.2):=by
       rcases hst with hst | ⟨u,hu,rfl⟩
       · obtain ⟨t,ht,e⟩:=F6 hoj a1 a2 hst
         refine ⟨(t,s12.2),.inl ht,Prod.ext e rfl,C2 hoj ht,fun hg=>F7 hoj hg ht⟩
       · rw [EB a1] at hu
         refine ⟨(dY oj.dst u s.1,s.2),.inr ⟨u,hu,rfl⟩,Prod.ext (tQ a2).symm rfl,⟨u,rfl⟩,fun _=>Ext.refl _⟩
     obtain ⟨s2,hs2,rfl,⟨u,hu⟩,hext⟩:=key
     refine ⟨oj,s2,hoj,hs2,ih (listed.setIfInBounds j true) s2 (hcl.set hj) hfree' hgen' (ready_mono hr (Ne.symm hji)) ?_ ?_⟩
     · have e1:mvV P C ops oi (s2.1,s.2)=some v:=by rw [hu,EB a3]; exact hy
       rcases hgen with hq | hg
       · unfold mvV at e1 ⊢
         rw [hq] at e1 ⊢
         exact e1
       · have hgj:oF oj.op=true:=by
           rcases hg j oj hoj hji hjun with c | ⟨n,c⟩
           · exact c
           · exact absurd hj (Fg hcl (getD_both h0) n j c).1
         have hx:=hext hgj
         unfold mvV at e1 ⊢
         simp only at e1 ⊢
         split at e1
         · rename_i hw
           rw [if_pos hw]
           split at e1
           · rename_i hrd
             rw [if_pos hrd]
             exact Iq hx hrd e1
           · rename_i hrd
             rw [if_neg hrd]
             exact e1
         · rename_i hw
           rw [if_neg hw]
           exact e1
     · rw [yy _ _ hji]
       exact H2
theorem F1 {o:Op} (h:uf o=true):nj o=false:=by
 cases o <;> first | rfl | (simp [uf] at h)
mutual
theorem nE {call:bT} {base:Nat} {ops:Array Oper} {K:St->Prop}:∀ (p:dM) (n:Nat) (L:Array Bool) (e:Nat × Array Bool) (s t:St),ends ops p n L=some e->kP ops L ->
   bU P C call base ops p s=some t->(kP ops e.2->tx P C call base ops K e.1 e.2 t)->tx P C call base ops K n L s
 | .done,n,L,e,s,t,he,hcl,h,hK=>by
   rw [GZ] at he
   simp only [bU] at h
   cases he; cases h
   exact hK hcl
 | .take i p,n,L,e,s,t,he,hcl,h,hK=>by
   cases n with
   | zero=>rw [DO] at he; cases he
   | succ n =>
     rw [GX] at he
     split at he
     case isFalse=>cases he
     rename_i hc
     simp only [aD,Ay] at hc
     obtain ⟨hmem,htk,hfree⟩:=hc
     simp only [bU] at h
     split at h
     · cases h
     · rename_i o ho
       simp only [ae] at h
       obtain ⟨v,hv,h⟩:=h
       have hr:i∈Region.ready .any ops L:=by simpa using hmem
       rw [ho] at htk
       have hq:=F1 (o:=o.op) (by simpa using htk)
       refine tx.first (v:=v) ho n L s hcl (Region.free_spec ho hfree) (.inl hq) hr ?_ (nE p n _ e _ t he (hcl.set hr) h hK)
       unfold mvV
       rw [hq]
       exact hv
 | .rd i p,n,L,e,s,t,he,hcl,h,hK=>by
   cases n with
   | zero=>rw [KR] at he; cases he
   | succ n =>
     rw [Pe] at he
     split at he
     case isFalse=>cases he
     rename_i hc
     simp only [aD,L5] at hc
     obtain ⟨hmem,⟨hrd,hfree⟩,hall⟩:=hc
     simp only [bU] at h
     split at h
     · cases h
     · rename_i o ho
       simp only [ae] at h
       obtain ⟨v,hv,h⟩:=h
       have hr:i∈Region.ready .any ops L:=by simpa using hmem
       rw [ho] at hrd
       have hrd':nj o.op=true:=by simpa using hrd
       refine tx.first (v:=v) ho n L s hcl (Region.free_spec ho hfree) (.inr fun j oj hj hne hun=>?_) hr ?_ (nE p n _ e _ t he (hcl.set hr) h hK)
       · have hjs:j < ops.size:=(Array.getElem?_eq_some_iff.1 hj).1
         have:=oS.1 hall j (List.mem_range.2 hjs)
         rw [hj,hun] at this
         simp only [gM,beq_iff_eq,cE,e7,bD,or_false] at this
         rcases this with (c | c) | c
         · exact absurd c hne
         · exact .inl c
         · exact .inr ⟨_,c⟩
       · unfold mvV
         rw [hrd']
         exact hv
 | .all l,n,L,e,s,t,he,hcl,h,hK=>by
   cases n with
   | zero=>rw [G2] at he; cases he
   | succ n =>
     rw [KS] at he
     split at he
     case isFalse=>cases he
     rename_i hc
     simp only [aD,beq_iff_eq] at hc
     simp only [bU] at h
     obtain ⟨hl,hne⟩:=hc
     refine ⟨fun h0=>?_,fun i hi=>?_⟩
     · rw [<-hl] at h0
       cases l with
       | nil=>simp at hne
       | cons x l=>simp at h0
     · have hi':=hi
       rw [<-hl] at hi
       exact CC l n L e s t none none he hcl h (fun _ e=>by cases e) (fun _ e=>by cases e) i hi hi' hK
 | .join p q,n,L,e,s,t,he,hcl,h,hK=>by
   rw [GY] at he
   simp only [bU,ae] at h he
   obtain ⟨e1,he1,he2⟩:=he
   obtain ⟨t1,h1,h2⟩:=h
   exact nE p n L e1 s t1 he1 hcl h1 fun hc1=>nE q e1.1 e1.2 e t1 t he2 hc1 h2 hK
theorem CC {call:bT} {base:Nat} {ops:Array Oper} {K:St->Prop}:∀ (l:List (Nat × dM)) (n:Nat) (L:Array Bool) (e:Nat × Array Bool) (s t:St) (re:Option (Nat × Array Bool)) (r:Option St),
   nQ ops l n L re=some e->kP ops L->er P C call base ops l s r=some t->(∀ e0,re=some e0->e0=e)->(∀ t0,r=some t0->t0=t)->∀ i,i∈l.map (·.1)->i∈Region.ready .any ops L->(kP ops e.2->tx P C call base ops K e.1 e.2 t) ->
   ∃ o s',ops[i]? =some o/\Stp P C call base ops i o s s'/\tx P C call base ops K n (L.setIfInBounds i true) s'
 | [],n,L,e,s,t,re,r,he,hcl,h,hre,hr,i,hi,hi',hK=>by simp at hi
 | (j,p)::l,n,L,e,s,t,re,r,he,hcl,h,hre,hr,i,hi,hi',hK=>by
   rw [xO] at he
   simp only [er,ae] at h he
   obtain ⟨e1,he1,he2⟩:=he
   obtain ⟨s',hs',t1,ht1,h⟩:=h
   have ee:e1=e/\∃ re',nQ ops l n L re'=some e/\∀ e0,re'=some e0->e0=e:=by
     cases re with
     | none =>
       simp only at he2
       have:=xN ops l n L _ e he2
       have:=this e1 rfl
       subst this
       exact ⟨rfl,_,he2,fun e0 h=>(aC h).symm⟩
     | some e0 =>
       simp only at he2
       split at he2
       · rename_i hb
         simp only [aD,beq_iff_eq] at hb
         have:=hre e0 rfl
         subst this
         exact ⟨(Prod.ext hb.1 hb.2).symm,_,he2,fun e1 h=>(aC h).symm⟩
       · cases he2
   have tt:t1=t/\∃ r',er P C call base ops l s r'=some t/\∀ t0,r'=some t0->t0=t:=by
     cases r with
     | none =>
       simp only at h
       have:=(po l s t (some t1) h).1 t1 rfl
       subst this
       exact ⟨rfl,_,h,fun t0 h=>(aC h).symm⟩
     | some t0 =>
       simp only at h
       split at h
       · rename_i hb
         have e2:=wF hb
         have:=hr t0 rfl
         subst this
         exact ⟨e2.symm,_,h,fun t1 h=>(aC h).symm⟩
       · cases h
   obtain ⟨rfl,re',he3,hre'⟩:=ee
   obtain ⟨rfl,r',h3,hr'⟩:=tt
   simp only [List.map_cons,List.mem_cons] at hi
   by_cases hij:i=j
   · subst hij
     obtain ⟨_,o,ho,_⟩:=mem_ready.1 hi'
     exact ⟨o,s',ho,.inl hs',nE p n _ e1 s' t1 he1 (hcl.set hi') ht1 hK⟩
   · exact CC l n L e1 s t1 re' r' he3 hcl h3 hre' hr' i (hi.resolve_left hij) hi' hK
end
theorem BW (ops:Array Oper) (n:Nat):kP ops (jw n false):=fun j oj _ h=>by
 rw [getD_replicate_false] at h; cases h
theorem qX {call:bT} (hcall:iq P C.gl w0 Pr call) {base:Nat} {ops:Array Oper} (hns:Region.noSelect ops=true) {K:Act->World->Prop} {p:dM} (hp:zX ops p=true) {s t:St}
   (h:bU P C call base ops p s=some t) {φ:Env} {a:Act} {w:World} (hs:SR C.gl w0 Pr φ s a w) (hK:∀ φ' a' w',φ.le φ'->SR C.gl w0 Pr φ' t a' w'->K a' w') :
   wpAny P .any ops (fun e a w=>match e with | .normal=>K a w | _=>False) ops.size (jw ops.size false) a w:=by
 unfold zX at hp
 split at hp
 · rename_i n L he
   refine tx.sound (C:=C) (Ks:=fun t'=>t'=t) hcall _ _ s (nE p _ _ _ s t he (BW ops _) h fun _=>?_) hs fun t' φ' a' w' ht hle hs'=>by subst ht; exact hK φ' a' w' hle hs'
   cases n with
   | zero=>exact ⟨by simpa using hp,rfl⟩
   | succ n=>exact ⟨fun _=>rfl,by rw [show Region.ready .any ops L=[] by simpa using hp]; simp⟩
 · cases hp
theorem WR.El {φ:Env} {H:AH} {w:World} (h:WR w0 Pr φ H w) (n:Nat):WR w0 Pr φ (H++aA n .fresh) w:=by
 have hg:∀ {j:Nat} {o:bo},(H++aA n .fresh)[j]? =some o->o=.fresh/\H.length<=j∨H[j]? =some o:=fun {j o} hj=>by
   rcases aY j H.length with hl | hl
   · rw [List.getElem?_append_left hl] at hj; exact .inr hj
   · rw [List.getElem?_append_right hl,List.getElem?_replicate] at hj
     split at hj
     · cases hj; exact .inl ⟨rfl,hl⟩
     · cases hj
 have hO:∀ {j:Nat},jM (H++aA n .fresh) j->jM H j:=fun {j} ⟨o,ho,hw⟩=>by
   rcases hg ho with ⟨rfl,_⟩ | ho
   · cases hw
   · exact ⟨o,ho,hw⟩
 refine ⟨fun j hj=>h.dom j (by simp at hj; omega),fun j hj=>?_,h.lt,fun i j x y hi hj=>h.inj i j x y (hO hi) (hO hj),fun i x hi=>h.own i x (hO hi),fun i x cs hi hx=>?_,fun i o hi=>?_,h.prLt,h.size,h.os,h.tape,h.output,h.old⟩
 · rcases hg hj with ⟨_,hl⟩ | hj
   · exact h.dom j hl
   · exact h.fresh j hj
 · rcases hg hi with ⟨e,_⟩ | hi
   · cases e
   · exact h.jb i x cs hi hx
 · rcases hg hi with ⟨rfl,_⟩ | hi
   · trivial
   · exact h.obj i o hi
theorem lL {ops:Array Oper} {w:World} {Q:Act->Prop}:∀ (os:List Oper) (s s':St),jj P C.gl ops os s=some s'->∀ {φ:Env} {a:Act},SR C.gl w0 Pr φ s a w ->
   (∀ a',SR C.gl w0 Pr φ s' a' w->Q a')->wpStill P ops w Q os a
 | [],s,s',h,φ,a,hs,hQ=>by cases h; exact hQ a hs
 | o::os,s,s',h,φ,a,hs,hQ=>by
   simp only [jj] at h
   rw [<-kF ops hs.tm] at h
   simp only [wpStill]
   split at h
   · rename_i hw
     rw [if_pos hw]
     simp only [ae] at h
     obtain ⟨v,hv,h⟩:=h
     obtain ⟨u,ru,hu⟩:=rL (P:=P) hs.wr (fun x v hx=>fS hs.gi hs.tm x v hx) hv
     unfold Oper.still
     rw [hu,Oper.stillUpon_value]
     exact lL os _ s' h ⟨hs.wr,gS hs.tm o.dst ru,by rw [put_defers]; exact hs.df,hs.gi⟩ hQ
   · rename_i hw
     rw [if_neg hw]
     exact lL os _ s' h ⟨hs.wr,gS hs.tm o.dst ⟨#[],rfl,rfl⟩,by rw [put_defers]; exact hs.df,hs.gi⟩ hQ
def rA (P:Program) (C:Cfg P) (call:bT) (ops:Array Oper) (o:Oper) (H:AH) (tm:List AV):Option AV:=
 if Region.wanted o (cL ops tm) then gz P C call (cz C.gl tm) o H else some uA
theorem G8 {call:bT} {ops:Array Oper} {o:Oper} {H:AH} {tm:List AV} {dst:Option Tmp} {u:AV} (h:∀ d,dst=some d->d∉o.looksAt ops):rA P C call ops o H (dY dst u tm)=rA P C call ops o H tm:=by
 cases dst with
 | none=>rfl
 | some d =>
   have hd:=h d rfl
   have hw:Region.wanted o (cL ops (tm.set d u))=Region.wanted o (cL ops tm):=by
     unfold Region.wanted
     cases hg:o.guard with
     | none=>rfl
     | some g =>
       obtain ⟨g,b⟩:=g
       simp only
       have:cL ops (tm.set d u) g=cL ops tm g:=by
         unfold cL
         cases hx:(ops[g]?).bind (·.dst) with
         | none=>rfl
         | some e =>
           have hne:e≠d:=fun c=>hd (by
             subst c
             unfold Oper.looksAt
             rw [hg]
             refine CJ _ ?_
             simp only [hx,CO,bg])
           simp only [ay]
           rw [aB (Ne.symm hne)]
       rw [this]
   show rA P C call ops o H (tm.set d u)=_
   unfold rA
   rw [hw]
   split
   · refine B0 fun x hx=>uu fun e=>hd ?_
     subst e
     unfold Oper.looksAt
     exact CT _ (FV.2 ⟨.tmp d,by simpa using hx,rfl⟩)
   · rfl
def ME (ops:Array Oper) (st:Oper->List AV->Option AV) (t:List AV):Nat->Array Bool->List AV->Prop
 | 0,L,tm=>Region.ready .any ops L=[]/\tm=t
 | n+1,L,tm=>(Region.ready .any ops L=[]->tm=t)/\∀ i∈Region.ready .any ops L,∃ o v,ops[i]? =some o/\st o tm=some v/\ME ops st t n (L.setIfInBounds i true) (dY o.dst v tm)
theorem D7 {ops:Array Oper} {st:Oper->List AV->Option AV} (hst:∀ o tm dst u,(∀ d,dst=some d->d∉o.looksAt ops)->st o (dY dst u tm)=st o tm) {t:List AV} {i:Nat} {oi:Oper} {v:AV} (hi:ops[i]? =some oi) :
   ∀ (fuel:Nat) (listed:Array Bool) (tm:List AV),
     (∀ j oj,ops[j]? =some oj->j≠i->listed.getD j true=false->(∀ e∈oj.after,Region.binds .any e=true->e.on≠i)->oi.apart ops oj=true) ->
     i∈Region.ready .any ops listed->st oi tm=some v ->
     ME ops st t fuel (listed.setIfInBounds i true) (dY oi.dst v tm)->ME ops st t (fuel+1) listed tm:=by
 intro fuel
 induction fuel with
 | zero =>
   intro listed tm _ hr hy H
   refine ⟨fun h=>(by rw [h] at hr; cases hr),fun j hj=>?_⟩
   by_cases hji:j=i
   · subst hji; exact ⟨oi,v,hi,hy,H⟩
   · have:=ready_mono hj hji
     rw [H.1] at this
     cases this
 | succ fuel ih =>
   intro listed tm hfree hr hy H
   refine ⟨fun h=>(by rw [h] at hr; cases hr),fun j hj=>?_⟩
   by_cases hji:j=i
   · subst hji; exact ⟨oi,v,hi,hy,H⟩
   · obtain ⟨oj,u,hoj,hu,H2⟩:=H.2 j (ready_mono hj hji)
     obtain ⟨hjun,oj',hoj',hall⟩:=mem_ready.1 hj
     rw [hoj] at hoj'; cases hoj'
     have hnot:∀ e∈oj.after,Region.binds .any e=true->e.on≠i:=fun e he hb heq=>by
       have h1:=hall e he hb
       have h0:=(mem_ready.1 hr).1
       rw [heq] at h1
       rcases aY i listed.size with h' | h'
       · simp [h'] at h0 h1; rw [h0] at h1; cases h1
       · simp [oU h'] at h1
     have hap:=hfree j oj hoj hji hjun hnot
     obtain ⟨a1,a2,a3⟩:=Oper.apart_spec hap
     have hfree':∀ k ok,ops[k]? =some ok->k≠i->(listed.setIfInBounds j true).getD k true=false ->
         (∀ e∈ok.after,Region.binds .any e=true->e.on≠i)->oi.apart ops ok=true:=fun k ok hk hki hun hno=>by
       refine hfree k ok hk hki ?_ hno
       by_cases hjk:j=k
       · subst hjk; exact hjun
       · rw [getD_set_ne true hjk] at hun; exact hun
     rw [hst oj tm oi.dst v a1] at hu
     refine ⟨oj,u,hoj,hu,ih (listed.setIfInBounds j true) (dY oj.dst u tm) hfree' (ready_mono hr (Ne.symm hji)) (by rw [hst oi tm oj.dst u a3]; exact hy) ?_⟩
     rw [yy _ _ hji,tQ a2]
     exact H2
theorem CD {call:bT} {ops:Array Oper} {H:AH} {t:List AV}:∀ (l:List Oper) (k:Nat) (listed:Array Bool) (tm:List AV),(∀ j,l[j]? =ops[k+j]?) ->
   Region.lexFrom .any ops l.length k listed=true->gE P C call ops l (tm,H)=some (t,H)->ME ops (fun o tm=>rA P C call ops o H tm) t l.length listed tm
 | [],_,_,tm,_,hB,h=>by
   cases h
   exact ⟨by simpa [Region.lexFrom] using hB,rfl⟩
 | o::l,k,listed,tm,hl,hB,h=>by
   have h0:ops[k]? =some o:=by simpa using (hl 0).symm
   simp only [List.length_cons,Region.lexFrom,aD] at hB
   obtain ⟨⟨hr,hf⟩,hB'⟩:=hB
   have:∃ v,rA P C call ops o H tm=some v/\gE P C call ops l (dY o.dst v tm,H)=some (t,H):=by
     simp only [gE] at h
     unfold rA
     split at h
     · rename_i hw
       obtain ⟨v,hv,h⟩:=ae.1 h
       exact ⟨v,by rw [if_pos hw]; exact hv,h⟩
     · rename_i hw
       exact ⟨uA,by rw [if_neg hw],h⟩
   obtain ⟨v,hv,h⟩:=this
   exact D7 (fun o tm dst u hd=>G8 hd) h0 l.length listed tm (Region.free_spec h0 hf) (by simpa using hr) hv
     (CD l (k+1) _ _ (fun j=>by have:=hl (j+1); simpa [Nat.add_assoc,Nat.add_comm 1 j] using this) hB' h)
theorem pO {call:bT} {ops:Array Oper}:∀ (l:List Oper) (s s':St),gE P C call ops l s=some s'->s'.2=s.2
 | [],s,s',h=>by cases h; rfl
 | o::l,s,s',h=>by
   simp only [gE] at h
   split at h
   · obtain ⟨v,_,h⟩:=ae.1 h
     have:=pO l (dY o.dst v s.1,s.2) s' h
     exact this
   · have:=pO l (dY o.dst uA s.1,s.2) s' h
     exact this
theorem BZ {call:bT} (hcall:iq P C.gl w0 Pr call) (hrd:∀ f args H v H',C.reads f=true->call f args H=some (v,H')->H'=H) {ops:Array Oper} {i:Nat} {o:Oper} (hi:ops[i]? =some o) {tm:List AV} {H:AH} {v:AV}
   (h:rA P C call ops o H tm=some v) {φ:Env} {a:Act} {w:World} (hs:SR C.gl w0 Pr φ (tm,H) a w)
   {Q:Exit->Act->World->Prop} {K:Act->World->Prop} (hK:∀ φ' a' w',φ.le φ'->SR C.gl w0 Pr φ' (dY o.dst v tm,H) a' w'->K a' w'):wpOp P ops Q i K a w:=by
 unfold rA at h
 unfold wpOp
 simp only [hi]
 rw [kF ops hs.tm]
 split at h
 · rename_i hw
   rw [if_pos hw]
   left
   have hread:eY P (cz C.gl tm) o H=some v->o.wp P a w K Q:=fun h=>by
     obtain ⟨u,ru,hu⟩:=rL (P:=P) hs.wr (fun x v hx=>fS hs.gi hs.tm x v hx) h
     unfold Oper.wp
     rw [hu]
     exact hK φ _ w (Env.le_refl φ) ⟨hs.wr,gS hs.tm o.dst ru,by rw [put_defers]; exact hs.df,hs.gi⟩
   unfold gz at h
   split at h
   · rename_i c hop
     split at h
     · exact hread h
     · rename_i hb
       obtain ⟨⟨n,H1⟩,hc,h⟩:=ae.1 h
       split at h
       · rename_i f args H1' heq
         cases heq
         split at h
         · rename_i hrf
           obtain ⟨⟨v',H2⟩,hcl,rfl⟩:=ah.1 h
           have e1:=D0 (fun b e=>hb b e) hc
           have e2:=hrd f args _ v' H2 hrf hcl
           rw [e2] at hcl
           rw [e1] at hc
           have ha:aop P C none (cz C.gl tm) o H=some (.enter f args,H):=by
             obtain ⟨dst,op,ty,pos,after,guard⟩:=o
             simp only at hop
             subst hop
             exact hc
           obtain ⟨φ',w',hle,hW,us,hrun,r⟩:=tp (C:=C) hs.wr (fun x v hx=>fS hs.gi hs.tm x v hx) ha
           unfold Oper.wp
           rw [hrun]
           refine (hcall f args H v' H hcl φ' w' us (hs.gi.mono hle) hW r).mono ?_
           rintro e w'' ⟨φ'',u,hle',rfl,ru,hW'⟩
           exact hK φ'' _ w'' (Env.le_trans hle hle') ⟨hW',gS (hs.tm.mono (Env.le_trans hle hle')) o.dst ru,by rw [put_defers]; exact hs.df,hs.gi.mono (Env.le_trans hle hle')⟩
         · cases h
       · cases h
   · exact hread h
 · rename_i hw
   cases h
   rw [if_neg hw]
   exact hK φ _ w (Env.le_refl φ) ⟨hs.wr,gS hs.tm o.dst ⟨#[],rfl,rfl⟩,by rw [put_defers]; exact hs.df,hs.gi⟩
theorem yc {call:bT} (hcall:iq P C.gl w0 Pr call) (hrd:∀ f args H v H',C.reads f=true->call f args H=some (v,H')->H'=H) {ops:Array Oper} {H:AH} {t:List AV} {K:Act->World->Prop}:∀ (n:Nat) (L:Array Bool) (tm:List AV),ME ops (fun o tm=>rA P C call ops o H tm) t n L tm ->
   ∀ {φ:Env} {a:Act} {w:World},SR C.gl w0 Pr φ (tm,H) a w->(∀ φ' a' w',φ.le φ'->SR C.gl w0 Pr φ' (t,H) a' w'->K a' w') ->
   wpAny P .any ops (fun e a w=>match e with | .normal=>K a w | _=>False) n L a w
 | 0,L,tm,h,φ,a,w,hs,hK=>by
   obtain ⟨h1,rfl⟩:=h
   exact ⟨h1,hK φ a w (Env.le_refl φ) hs⟩
 | n+1,L,tm,h,φ,a,w,hs,hK=>by
   refine ⟨fun h0=>?_,fun i hi=>?_⟩
   · obtain rfl:=h.1 h0
     exact hK φ a w (Env.le_refl φ) hs
   · obtain ⟨o,v,ho,hv,hn⟩:=h.2 i hi
     exact BZ hcall hrd ho hv hs fun φ' a' w' hle hs'=>yc hcall hrd n _ _ hn hs' fun φ'' a'' w'' hle' h''=>hK φ'' a'' w'' (Env.le_trans hle hle') h''
def bu.Pm:bu->Exit
 | .normal=>.normal
 | .exit id=>.exit id
 | .ret=>.ret
theorem gG {call:bT} (hcall:iq P C.gl w0 Pr call) (hrd:∀ f args H v H',C.reads f=true->call f args H=some (v,H')->H'=H) (pl:Nat->Option Way) (n:Nat):∀ (c:Code) (_:cA pl c=true/\gk P pl c) (s:St) (ex:bu) (s':St),evC P C call pl n c s=some (ex,s')->∀ {φ:Env} {a:Act} {w:World},SR C.gl w0 Pr φ s a w ->
   ∀ {Q:Exit->Act->World->Prop},(∀ φ' a' w',φ.le φ'->SR C.gl w0 Pr φ' s' a' w'->Q ex.Pm a' w')->c.wp P Q a w
 | .skip,hpl,s,ex,s',h,φ,a,w,hs,Q,hQ=>by
   simp only [evC,aS,Prod.mk.injEq] at h; obtain ⟨rfl,rfl⟩:=h
   exact wp_skip (hQ φ a w (Env.le_refl φ) hs)
 | .region id ops false,hpl,s,ex,s',h,φ,a,w,hs,Q,hQ=>by
   simp only [evC,ah,Prod.mk.injEq] at h; obtain ⟨s1,h1,rfl,rfl⟩:=h
   exact wp_region (oh hcall _ s s1 h1 hs hQ)
 | .region id ⟨l⟩ true,hpl,s,ex,s',h,φ,a,w,hs,Q,hQ=>by
   simp only [evC] at h
   obtain ⟨hpl,hsu⟩:=hpl
   simp only [cA] at hpl
   simp only [gk] at hsu
   split at h
   · rename_i p hp
     rw [hp] at hpl
     simp only [wB,aD] at hpl
     simp only [ah,Prod.mk.injEq] at h; obtain ⟨s1,h1,rfl,rfl⟩:=h
     have hs1:SR C.gl w0 Pr φ (s.1,if (yj l).any (cJ ·.op) then s.2++aA (yj l).size .fresh else s.2) a { w with drawn:=w.drawn+1 }:=by
       refine ⟨?_,hs.tm,hs.df,hs.gi⟩
       simp only
       split
       · exact (hs.wr.drew _).El _
       · exact hs.wr.drew _
     refine wp_mono (wp_region_any C.mixed (qX (C:=C) (K:=fun a w=>Q .normal a w) hcall hpl.1 hpl.2 h1 hs1 hQ)) fun e a w he=>?_
     cases e <;> first | exact he | exact he.elim
   · rename_i hp
     rw [hp] at hpl
     simp only [wB] at hpl
     simp only [ah,Prod.mk.injEq] at h; obtain ⟨s1,h1,rfl,rfl⟩:=h
     refine wp_region_still C.mixed hpl ?_
     exact lL (C:=C) (w:={ w with drawn:=w.drawn+1 }) l s s1 h1 ⟨hs.wr.drew _,hs.tm,hs.df,hs.gi⟩ fun a' hs'=>hQ φ a' _ (Env.le_refl φ) hs'
   · rename_i k hp
     rw [hp] at hpl
     simp only [wB] at hpl
     simp only [ae,ah,Prod.mk.injEq] at h
     obtain ⟨s1,h1,s2,h2,rfl,rfl⟩:=h
     refine wp_region_still_tail (l:=l) k C.mixed hpl ?_
     refine lL (C:=C) (w:={ w with drawn:=w.drawn+1 }) (l.take k) s s1 h1 ⟨hs.wr.drew _,hs.tm,hs.df,hs.gi⟩ fun a' hs'=>?_
     rw [<-wpOps_eq_wpList (l.drop k) k (fun j=>by simp [List.getElem?_drop])]
     exact oh hcall _ s1 s2 h2 hs' hQ
   · rename_i p k hp
     rw [hp] at hpl
     simp only [wB,bD] at hpl
   · rename_i p kl hp
     rw [hp] at hpl hsu
     simp only [wB,aD] at hpl
     simp only [zJ] at hsu
     simp only [ah,Prod.mk.injEq] at h; obtain ⟨e,he,rfl,rfl⟩:=h
     have hm:=List.mem_of_find?_eq_some he
     have hb:=List.find?_some he
     have hb:=wF hb
     subst hb
     have h1:=hsu e hm C call
     have hs1:SR C.gl w0 Pr φ (e.1.1,if (yj l).any (cJ ·.op) then e.1.2++aA (yj l).size .fresh else e.1.2) a { w with drawn:=w.drawn+1 }:=by
       refine ⟨?_,hs.tm,hs.df,hs.gi⟩
       simp only
       split
       · exact (hs.wr.drew _).El _
       · exact hs.wr.drew _
     refine wp_mono (wp_region_any C.mixed (qX (C:=C) (K:=fun a w=>Q .normal a w) hcall hpl.1 hpl.2 h1 hs1 hQ)) fun e a w he=>?_
     cases e <;> first | exact he | exact he.elim
   · rename_i hp
     rw [hp] at hpl
     simp only [wB,Region.lexB,aD] at hpl
     simp only [ah,Prod.mk.injEq] at h; obtain ⟨s1,h1,rfl,rfl⟩:=h
     obtain ⟨tm,H⟩:=s
     obtain ⟨t,H'⟩:=s1
     obtain rfl:H'=H:=pO _ _ _ h1
     have hs1:SR C.gl w0 Pr φ (tm,H') a { w with drawn:=w.drawn+1 }:=⟨hs.wr.drew _,hs.tm,hs.df,hs.gi⟩
     have hall:=CD (P:=P) (C:=C) (call:=call) (ops:=yj l) (H:=H') (t:=t) l 0 (jw l.length false) tm (by simp) (by simpa using hpl.2) h1
     refine wp_mono (wp_region_any C.mixed (yc (C:=C) (K:=fun a w=>Q .normal a w) hcall hrd _ _ tm (by simpa using hall) hs1 hQ)) fun e a w he=>?_
     cases e <;> first | exact he | exact he.elim
   · cases h
 | .seq x y,hpl,s,ex,s',h,φ,a,w,hs,Q,hQ=>by
   simp only [evC] at h
   simp only [cA,gk,aD] at hpl
   refine wp_seq ?_
   split at h
   · rename_i s1 h1
     exact gG hcall hrd pl n x ⟨hpl.1.1,hpl.2.1⟩ s .normal s1 h1 hs fun φ' a' w' hle hs'=>gG hcall hrd pl n y ⟨hpl.1.2,hpl.2.2⟩ s1 ex s' h hs' fun φ'' a'' w'' hle' hs''=>hQ φ'' a'' w'' (Env.le_trans hle hle') hs''
   · rename_i r hne
     refine gG hcall hrd pl n x ⟨hpl.1.1,hpl.2.1⟩ s ex s' h hs fun φ' a' w' hle hs'=>?_
     have:=hQ φ' a' w' hle hs'
     cases ex with
     | normal=>exact absurd h (hne s')
     | exit id=>exact this
     | ret=>exact this
 | .cond c x y,hpl,s,ex,s',h,φ,a,w,hs,Q,hQ=>by
   simp only [evC] at h
   simp only [cA,gk,aD] at hpl
   split at h
   · rename_i hc
     exact wp_cond_true (fS hs.gi hs.tm c _ hc) (gG hcall hrd pl n x ⟨hpl.1.1,hpl.2.1⟩ s ex s' h hs hQ)
   · rename_i hc
     exact wp_cond_false (fS hs.gi hs.tm c _ hc) (gG hcall hrd pl n y ⟨hpl.1.2,hpl.2.2⟩ s ex s' h hs hQ)
   · cases h
 | .block id body,hpl,s,ex,s',h,φ,a,w,hs,Q,hQ=>by
   simp only [evC] at h
   simp only [cA,gk] at hpl
   refine wp_block ?_
   split at h
   · rename_i id' s1 h1
     refine gG hcall hrd pl n body hpl s (.exit id') s1 h1 hs fun φ' a' w' hle hs'=>?_
     simp only [bu.Pm,Exit.inBlock]
     split at h
     · rename_i he
       cases h; rw [if_pos he]; exact hQ φ' a' w' hle hs'
     · rename_i he
       cases h; rw [if_neg he]; exact hQ φ' a' w' hle hs'
   · rename_i r hne
     refine gG hcall hrd pl n body hpl s ex s' h hs fun φ' a' w' hle hs'=>?_
     have:=hQ φ' a' w' hle hs'
     cases ex with
     | normal=>exact this
     | exit id'=>exact absurd h (hne id' s')
     | ret=>exact this
 | .loop body,hpl,s,ex,s',h,φ,a,w,hs,Q,hQ=>by
   simp only [evC] at h
   simp only [cA,gk] at hpl
   refine wp_loop_rounds n ?_
   exact loop_go (fun s ex s' h φ a w hs Q hQ=>gG hcall hrd pl n body hpl s ex s' h hs hQ) n s ex s' h φ a w hs Q hQ
 | .exit id,hpl,s,ex,s',h,φ,a,w,hs,Q,hQ=>by
   simp only [evC,aS,Prod.mk.injEq] at h; obtain ⟨rfl,rfl⟩:=h
   exact wp_exit (hQ φ a w (Env.le_refl φ) hs)
 | .ret,hpl,s,ex,s',h,φ,a,w,hs,Q,hQ=>by
   simp only [evC,aS,Prod.mk.injEq] at h; obtain ⟨rfl,rfl⟩:=h
   exact wp_ret (hQ φ a w (Env.le_refl φ) hs)
 | .rangeFunc ..,hpl,s,ex,s',h,φ,a,w,hs,Q,hQ=>by simp [evC] at h
 | .scope _,hpl,s,ex,s',h,φ,a,w,hs,Q,hQ=>by simp [evC] at h
 | .label _,hpl,s,ex,s',h,φ,a,w,hs,Q,hQ=>by simp [evC] at h
 | .goto _,hpl,s,ex,s',h,φ,a,w,hs,Q,hQ=>by simp [evC] at h
 | .refuse _,hpl,s,ex,s',h,φ,a,w,hs,Q,hQ=>by simp [evC] at h
where
 loop_go {f:St->Option (bu × St)} {body:Code} (hf:∀ (s:St) (ex:bu) (s':St),f s=some (ex,s')->∀ (φ:Env) (a:Act) (w:World),SR C.gl w0 Pr φ s a w ->
     ∀ (Q:Exit->Act->World->Prop),(∀ φ' a' w',φ.le φ'->SR C.gl w0 Pr φ' s' a' w'->Q ex.Pm a' w')->body.wp P Q a w):∀ (m:Nat) (s:St) (ex:bu) (s':St),jZ f m s=some (ex,s') ->
     ∀ (φ:Env) (a:Act) (w:World),SR C.gl w0 Pr φ s a w->∀ (Q:Exit->Act->World->Prop),(∀ φ' a' w',φ.le φ'->SR C.gl w0 Pr φ' s' a' w'->Q ex.Pm a' w')->Code.rounds P body Q m a w
   | 0,s,ex,s',h,φ,a,w,hs,Q,hQ=>by simp [jZ] at h
   | m+1,s,ex,s',h,φ,a,w,hs,Q,hQ=>by
     simp only [jZ] at h
     rw [rounds_succ]
     split at h
     · rename_i s1 h1
       exact hf s .normal s1 h1 φ a w hs _ fun φ' a' w' hle hs'=>loop_go hf m s1 ex s' h φ' a' w' hs' Q fun φ'' a'' w'' hle' hs''=>hQ φ'' a'' w'' (Env.le_trans hle hle') hs''
     · rename_i r hne
       refine hf s ex s' h φ a w hs _ fun φ' a' w' hle hs'=>?_
       have:=hQ φ' a' w' hle hs'
       cases ex with
       | normal=>exact absurd h (hne s')
       | exit id=>exact this
       | ret=>exact this
def Nh (tmps:Array Value):ResultVar->Sem Value
 | .tmp t=>pure (tmps.getD t undef)
 | .cell x t=>do loadVar t (<-asAddr (tmps.getD x undef))
theorem C9 (fn:Func) (tmps:Array Value):results fn tmps=(do let vs <-fn.results.mapM (Nh tmps); pure (if h:vs.size=1 then vs[0] else .tuple vs)):=by
 rfl
theorem m7 {φ:Env} {H:AH} {w:World} {tm:List AV} {a:Act} (hW:WR w0 Pr φ H w) (ht:VRs φ tm a.tmps.toList):∀ (rs:List ResultVar) (vs:List AV),jm P tm H rs=some vs ->
   ∃ us:List Value,(rs.mapM (Nh a.tmps)).run P w=.ok us w/\VRs φ vs us
 | [],vs,h=>by cases h; exact ⟨[],rfl,rfl⟩
 | .tmp t::rs,vs,h=>by
   simp only [jm,ah] at h
   obtain ⟨vs',h',rfl⟩:=h
   obtain ⟨us,hu,ru⟩:=m7 hW ht rs vs' h'
   refine ⟨a.tmps.getD t undef::us,?_,.cons (fS (gl:=fun _=>none) (fun _ _ h=>by cases h) ht (.tmp t) _ rfl) ru⟩
   simp only [MO,Nh,Sem.run_bind,Sem.run_pure,Result.andThen_ok,hu]
 | .cell x t::rs,vs,h=>by
   simp only [jm] at h
   split at h
   · rename_i i k hx
     simp only [ae,ah] at h
     obtain ⟨v,hv,vs',h',rfl⟩:=h
     obtain ⟨us,hu,ru⟩:=m7 hW ht rs vs' h'
     have:=fS (gl:=fun _=>none) (fun _ _ h=>by cases h) ht (.tmp x) (.ptr i k) (by simp only [cz,hx])
     obtain ⟨b,o,z,hφ,hval⟩:=this
     obtain ⟨y,hy,ry⟩:=sY (P:=P) hW hφ hv
     refine ⟨y::us,?_,.cons ry ru⟩
     have hval':a.tmps.getD x undef=.pointer (some ⟨b,o+k,none⟩):=hval
     simp only [MO,Nh,Sem.run_bind,hval',asAddr,Sem.run_pure,Result.andThen_ok,hy,hu]
   · cases h
theorem qk {φ:Env} {s:St} {a:Act} {w:World} {fn:Func} {v:AV} {H':AH} (hs:SR C.gl w0 Pr φ s a w) (h:nB P fn s=some (v,H')) :
   H'=s.2/\∃ u,(results fn a.tmps).run P w=.ok u w/\VR φ v u:=by
 simp only [nB,ah,Prod.mk.injEq] at h
 obtain ⟨vs,hvs,hv,rfl⟩:=h
 obtain ⟨us,hu,ru⟩:=m7 (P:=P) hs.wr hs.tm fn.results.toList vs hvs
 refine ⟨rfl,?_⟩
 have hrun:(results fn a.tmps).run P w=.ok (if h:us.toArray.size=1 then us.toArray[0] else .tuple us.toArray) w:=by
   rw [C9]
   simp only [Array.mapM_eq_mapM_toList,Sem.run_bind,Sem.run_map,hu,Result.andThen_ok,Sem.run_pure]
 refine ⟨_,hrun,?_⟩
 match vs,us,ru,hv with
 | [],[],_,hv=>subst hv; exact ⟨#[],rfl,rfl⟩
 | [x],[u],⟨u',us',e,r,_⟩,hv=>subst hv; cases e; exact r
 | x::y::vs,[],⟨_,_,e,_⟩,_=>cases e
 | x::y::vs,[u],⟨_,_,e,_,⟨_,_,e',_⟩⟩,_=>cases e; cases e'
 | x::y::vs,u::u'::us,r,hv =>
   subst hv
   exact ⟨(u::u'::us).toArray,by simp,by simpa using r⟩
theorem qz (W:o6 P):∀ (n:Nat) f args H v H',C.reads f=true->ct P C W n f args H=some (v,H')->H'=H
 | 0,_,_,_,_,_,_,h=>by simp [ct] at h
 | n+1,f,args,H,v,H',hr,h=>by
   simp only [ct] at h
   split at h
   · rename_i r h0
     cases h
     exact C.orcRo f args H v H' hr h0
   · simp only [ae] at h
     obtain ⟨fn,_,c,_,h⟩:=h
     rw [hr] at h
     split at h
     · obtain ⟨r,_,h⟩:=ae.1 h
       exact zh h
     · obtain ⟨r,_,h⟩:=ae.1 h
       exact zh h
     · cases h
theorem ja (W:o6 P):∀ (n:Nat) {w0:World} {Pr:Nat->Prop},C.pin w0 Pr->iq P C.gl w0 Pr (ct P C W n)
 | 0,_,_,_=>fun f args H v H' h=>by simp [ct] at h
 | n+1,w0,Pr,hpin=>fun f args H v H' h φ w vs hg hW hr=>by
   simp only [ct] at h
   split at h
   · rename_i r hr0
     cases h
     exact C.orcOk w0 Pr hpin f args H v H' hr0 φ w vs hg hW hr
   rename_i hr0
   simp only [ae] at h
   obtain ⟨fn,hfn,c,hc,h⟩:=h
   have htm:VRs φ (args++aA (fn.ntmps - args.length) uA) (vs++jw (fn.ntmps - vs.size) undef).toList:=by
     have hl:args.length=vs.size:=by simpa using hr.length
     have hrep:∀ m,VRs φ (aA m uA) (aA m undef):=fun m=>by
       induction m with
       | zero=>exact rfl
       | succ m ih=>exact .cons ⟨#[],rfl,rfl⟩ ih
     simpa [hl] using hr.append (hrep (fn.ntmps - args.length))
   refine calls_of_wp hfn hc ?_
   cases hrd:C.reads f with
   | false =>
     rw [hrd] at h
     have hs:SR C.gl w0 Pr φ (args++aA (fn.ntmps - args.length) uA,if false=true then ro H else H) { tmps:=vs++jw (fn.ntmps - vs.size) undef,defers:=[] } w:=⟨hW,htm,rfl,hg⟩
     split at h
     · rename_i s1 h1
       simp only [ae,kj,if_false,bD] at h
       obtain ⟨r,h,hf⟩:=h
       cases hf
       refine gG (C:=C) (ja W n hpin) (qz W n) (W.pl f) n c (W.ok f fn c hfn hc) _ .normal s1 h1 hs fun φ' a' w' hle hs'=>?_
       obtain ⟨rfl,u,hu,ru⟩:=qk hs' h
       exact ⟨hs'.df,u,hu,φ',u,hle,rfl,ru,hs'.wr⟩
     · rename_i s1 h1
       simp only [ae,kj,if_false,bD] at h
       obtain ⟨r,h,hf⟩:=h
       cases hf
       refine gG (C:=C) (ja W n hpin) (qz W n) (W.pl f) n c (W.ok f fn c hfn hc) _ .ret s1 h1 hs fun φ' a' w' hle hs'=>?_
       obtain ⟨rfl,u,hu,ru⟩:=qk hs' h
       exact ⟨hs'.df,u,hu,φ',u,hle,rfl,ru,hs'.wr⟩
     · cases h
   | true =>
     rw [hrd] at h
     have hp2:=C.pinRo w0 Pr φ H w hpin hW
     have hs:SR C.gl w (fun b=>b < w.heap.size) φ (args++aA (fn.ntmps - args.length) uA,if true=true then ro H else H) { tmps:=vs++jw (fn.ntmps - vs.size) undef,defers:=[] } w:=⟨by rw [if_pos rfl]; exact hW.reads,htm,rfl,hg⟩
     split at h
     · rename_i s1 h1
       simp only [ae,kj,if_true] at h
       obtain ⟨r,h,hf⟩:=h
       split at hf
       · rename_i hv
         cases hf
         refine gG (C:=C) (ja W n hp2) (qz W n) (W.pl f) n c (W.ok f fn c hfn hc) _ .normal s1 h1 hs fun φ' a' w' hle hs'=>?_
         obtain ⟨v1,H1⟩:=r
         obtain ⟨rfl,u,hu,ru⟩:=qk hs' h
         exact ⟨hs'.df,u,hu,φ,u,Env.le_refl φ,rfl,vS hW hle _ _ hv ru,hW.later hs'.wr.size hs'.wr.old hs'.wr.os hs'.wr.tape hs'.wr.output⟩
       · cases hf
     · rename_i s1 h1
       simp only [ae,kj,if_true] at h
       obtain ⟨r,h,hf⟩:=h
       split at hf
       · rename_i hv
         cases hf
         refine gG (C:=C) (ja W n hp2) (qz W n) (W.pl f) n c (W.ok f fn c hfn hc) _ .ret s1 h1 hs fun φ' a' w' hle hs'=>?_
         obtain ⟨v1,H1⟩:=r
         obtain ⟨rfl,u,hu,ru⟩:=qk hs' h
         exact ⟨hs'.df,u,hu,φ,u,Env.le_refl φ,rfl,vS hW hle _ _ hv ru,hW.later hs'.wr.size hs'.wr.old hs'.wr.os hs'.wr.tape hs'.wr.output⟩
       · cases hf
     · cases h
end
end Go.Dv
