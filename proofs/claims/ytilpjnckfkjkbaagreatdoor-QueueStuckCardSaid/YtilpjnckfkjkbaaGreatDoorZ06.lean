/- Part 06 of the walks (own work). -/
import Derived.Test.YtilpjnckfkjkbaaGreatDoorZ05
import Derived.LoopN
set_option maxRecDepth 100000
set_option maxHeartbeats 4000000
set_option linter.unusedSimpArgs false
set_option linter.unusedVariables false
namespace Go.Dv
section
variable {P:Program} {C:Cfg P} {w0:World} {Pr:Nat->Prop}
structure SR (gl:GL) (w0:World) (Pr:Nat->Prop) (φ:Env) (s:St) (a:Act) (w:World):Prop where
 wr:WR w0 Pr φ s.2 w
 tm:VRs φ s.1 a.tmps.toList
 df:a.defers=[]
 gi:GI gl φ
theorem evalA_spec {gl:GL} {φ:Env} {tm:List AV} {a:Act} (hg:GI gl φ) (h:VRs φ tm a.tmps.toList) (x:Operand) (v:AV) (hx:evalA gl tm x=some v):VR φ v (a.eval x):=by
 cases x with
 | tmp t =>
   simp only [evalA,Option.some.injEq] at hx
   subst hx
   simp only [Act.eval]
   rcases Nat.lt_or_ge t tm.length with hl | hl
   · obtain ⟨u,hu,r⟩:=h.get t _ (List.getElem?_eq_getElem hl)
     have hu':a.tmps[t]? =some u:=by simpa using hu
     simpa [List.getD,List.getElem?_eq_getElem hl,Array.getD_eq_getD_getElem?,hu'] using r
   · have hl':a.tmps.size<=t:=by have:=h.length; simp at this; omega
     simp only [List.getD,List.getElem?_eq_none hl,Array.getD_eq_getD_getElem?,Array.getElem?_eq_none hl']
     exact ⟨#[],rfl,rfl⟩
 | const c=>exact ofV_spec _ _ _ hx
 | global g =>
   simp only [evalA,Option.map_eq_some_iff] at hx
   obtain ⟨i,hi,rfl⟩:=hx
   obtain ⟨z,hz⟩:=hg g i hi
   exact ⟨g,0,z,hz,rfl⟩
 | func f=>cases hx; exact ⟨#[],#[],rfl,rfl,rfl⟩
theorem putA_spec {φ:Env} {tm:List AV} {a:Act} {v:AV} {u:Value} (h:VRs φ tm a.tmps.toList) (dst:Option Tmp) (r:VR φ v u):VRs φ (putA dst v tm) (a.put dst u).tmps.toList:=by
 cases dst with
 | none=>exact h
 | some d=>simpa [putA,Act.put] using h.set d r
theorem put_defers (a:Act) (dst:Option Tmp) (u:Value):(a.put dst u).defers=a.defers:=by cases dst <;> rfl
theorem VR_bool {φ:Env} {x:AV} {u:Value} (r:VR φ x u) (b:Bool):u=.bool b↔x=.bool b:=by
 constructor
 · rintro rfl
   cases x <;> simp only [VR] at r <;> first
     | (cases r; rfl)
     | (cases r; done)
     | exact absurd rfl (r.2 b)
     | (obtain ⟨_,_,h,_⟩:=r; cases h; done)
     | (obtain ⟨_,_,_,_,h⟩:=r; cases h; done)
     | (obtain ⟨_,_,_,_,_,_,h,_⟩:=r; cases h; done)
     | (obtain ⟨_,_,_,h⟩:=r; cases h; done)
     | (obtain ⟨_,_,h,_⟩:=r; cases h; done)
     | (obtain ⟨_,h,_⟩:=r; cases h; done)
 · rintro rfl; exact r
theorem yieldedA_spec {φ:Env} {tm:List AV} {a:Act} (ops:Array Oper) (h:VRs φ tm a.tmps.toList):yielded ops a.tmps=yieldedA ops tm:=by
 funext j
 unfold yielded yieldedA
 cases hd:(ops[j]?).bind (·.dst) with
 | none=>rfl
 | some d =>
   simp only [Option.bind_some]
   rcases Nat.lt_or_ge d tm.length with hl | hl
   · obtain ⟨u,hu,r⟩:=h.get d _ (List.getElem?_eq_getElem hl)
     have hu':a.tmps[d]? =some u:=by simpa using hu
     rw [hu',List.getElem?_eq_getElem hl]
     cases hx:tm[d] with
     | bool b=>rw [hx] at r; simp only [VR] at r; subst r; rfl
     | _ =>
       have hne:∀ b,u≠.bool b:=fun b e=>by have:=(VR_bool r b).1 e; rw [hx] at this; cases this
       simp only
       cases u <;> first | rfl | exact absurd rfl (hne _)
   · have hl':a.tmps.size<=d:=by have:=h.length; simp at this; omega
     rw [List.getElem?_eq_none hl,Array.getElem?_eq_none hl']
theorem stepA_sound {call:CallF} (hcall:CallOk P C.gl w0 Pr call) {slot:Option Nat} {ops:Array Oper} {i:Nat} {s s':St} (h:stepA P C call slot ops i s=some s') {φ:Env} {a:Act} {w:World} (hs:SR C.gl w0 Pr φ s a w)
   {Q:Exit->Act->World->Prop} {K:Act->World->Prop} (hK:∀ φ' a' w',φ.le φ'->SR C.gl w0 Pr φ' s' a' w'->K a' w'):wpOp P ops Q i K a w:=by
 unfold stepA at h
 unfold wpOp
 split at h
 · rename_i hi
   cases h
   simp only [hi]
   exact hK φ a w (Env.le_refl φ) hs
 · rename_i o hi
   simp only [hi]
   rw [yieldedA_spec ops hs.tm]
   split at h
   · rename_i hw
     rw [if_pos hw]
     left
     split at h
     · rename_i v H' ha
       cases h
       obtain ⟨φ',w',hle,hW,u,hrun,r⟩:=aop_spec (C:=C) hs.wr (fun x v hx=>evalA_spec hs.gi hs.tm x v hx) ha
       unfold Oper.wp
       rw [hrun]
       exact hK φ' _ w' hle ⟨hW,putA_spec (hs.tm.mono hle) o.dst r,by rw [put_defers]; exact hs.df,hs.gi.mono hle⟩
     · rename_i H' ha
       cases h
       obtain ⟨φ',w',hle,hW,hrun⟩:=aop_spec (C:=C) hs.wr (fun x v hx=>evalA_spec hs.gi hs.tm x v hx) ha
       unfold Oper.wp
       rw [show (execOp a.eval o).run P w=_ from hrun]
       exact hK φ' _ w' hle ⟨hW,putA_spec (hs.tm.mono hle) o.dst ⟨#[],rfl,rfl⟩,by rw [put_defers]; exact hs.df,hs.gi.mono hle⟩
     · rename_i f args H' ha
       simp only [Option.map_eq_some_iff] at h
       obtain ⟨⟨v,H''⟩,hc,he⟩:=h
       cases he
       obtain ⟨φ',w',hle,hW,us,hrun,r⟩:=aop_spec (C:=C) hs.wr (fun x v hx=>evalA_spec hs.gi hs.tm x v hx) ha
       unfold Oper.wp
       rw [hrun]
       refine (hcall f args H' v H'' hc φ' w' us (hs.gi.mono hle) hW r).mono ?_
       rintro e w'' ⟨φ'',u,hle',rfl,ru,hW'⟩
       exact hK φ'' _ w'' (Env.le_trans hle hle') ⟨hW',putA_spec (hs.tm.mono (Env.le_trans hle hle')) o.dst ru,by rw [put_defers]; exact hs.df,hs.gi.mono (Env.le_trans hle hle')⟩
     · cases h
   · rename_i hw
     cases h
     rw [if_neg hw]
     exact hK φ _ w (Env.le_refl φ) ⟨hs.wr,putA_spec hs.tm o.dst ⟨#[],rfl,rfl⟩,by rw [put_defers]; exact hs.df,hs.gi⟩
theorem runOps_sound {call:CallF} (hcall:CallOk P C.gl w0 Pr call) {ops:Array Oper}:∀ (is:List Nat) (s s':St),runOps P C call ops is s=some s'->∀ {φ:Env} {a:Act} {w:World},SR C.gl w0 Pr φ s a w ->
   ∀ {Q:Exit->Act->World->Prop},(∀ φ' a' w',φ.le φ'->SR C.gl w0 Pr φ' s' a' w'->Q .normal a' w')->wpOps P ops Q is a w
 | [],s,s',h,φ,a,w,hs,Q,hQ=>by cases h; exact hQ φ a w (Env.le_refl φ) hs
 | i::is,s,s',h,φ,a,w,hs,Q,hQ=>by
   simp only [runOps,Option.bind_eq_some_iff] at h
   obtain ⟨s1,h1,h2⟩:=h
   rw [wpOps_cons]
   exact stepA_sound hcall h1 hs fun φ' a' w' hle hs'=>runOps_sound hcall is s1 s' h2 hs' fun φ'' a'' w'' hle' hs''=>hQ φ'' a'' w'' (Env.le_trans hle hle') hs''
theorem pureA_every {ev:Operand->Option AV} {ρ:Operand->Value} {φ:Env} (hρ:∀ x a,ev x=some a->VR φ a (ρ x)) {o:Oper} {v:AV} (h:((pureA P ev o).bind fun n=>match n with | .val v=>some v | _=>none)=some v) :
   ∃ u,VR φ v u/\∀ w,(execOp ρ o).run P w=.ok (.value u) w:=by
 simp only [Option.bind_eq_some_iff] at h
 obtain ⟨n,hn,hv⟩:=h
 unfold pureA at hn
 split at hn
 · rename_i hc
   simp only [Bool.and_eq_true,List.all_eq_true] at hc
   have hcong:execOp ρ o=execOp (rhoOf ev) o:=execOp_congr o (fun cs b e=>by rw [e] at hc; exact absurd hc.1 (by simp [notSelect])) fun x hx=>by
     obtain ⟨u,hu⟩:=Option.isSome_iff_exists.1 (hc.2 x (by simpa using hx))
     have:rhoOf ev x=u:=by simp [rhoOf,hu]
     rw [this]
     simp only [Option.bind_eq_some_iff] at hu
     obtain ⟨a,ha,hav⟩:=hu
     exact toV_spec a u hav _ (hρ x a ha)
   split at hn
   · rename_i u hu
     simp only [Option.map_eq_some_iff] at hn
     obtain ⟨a,ha,rfl⟩:=hn
     cases hv
     exact ⟨u,ofV_spec _ _ _ ha,fun w=>by rw [hcong]; exact pureRun_spec _ _ hu w⟩
   · cases hn
 · cases hn
theorem quietA_spec {ev:Operand->Option AV} {ρ:Operand->Value} {φ:Env} (hρ:∀ x a,ev x=some a->VR φ a (ρ x)) {o:Oper} {v:AV} (h:quietA P ev o=some v) :
   ∃ u,VR φ v u/\∀ w,(execOp ρ o).run P w=.ok (.value u) w:=by
 obtain ⟨dst,op,ty,pos,after,guard⟩:=o
 cases op <;> try (simp only [quietA] at h; cases h; done)
 case move x=>simp only [quietA] at h; exact ⟨ρ x,hρ x v h,fun w=>rfl⟩
 case assign x=>simp only [quietA] at h; exact ⟨ρ x,hρ x v h,fun w=>rfl⟩
 case pick c a b =>
   simp only [quietA,Option.bind_eq_some_iff] at h
   obtain ⟨cv,hc,h⟩:=h
   have rc:=hρ c cv hc
   split at h
   · simp only [VR] at rc
     exact ⟨ρ a,hρ a v h,fun w=>by simp [execOp,rc,asBool]⟩
   · simp only [VR] at rc
     exact ⟨ρ b,hρ b v h,fun w=>by simp [execOp,rc,asBool]⟩
   · cases h
 case binOp op t x y yt =>
   simp only [quietA,Option.bind_eq_some_iff] at h
   obtain ⟨xv,hx,yv,hy,h⟩:=h
   have rx:=hρ x _ hx
   have ry:=hρ y _ hy
   split at h
   · rename_i k a k' b
     split at h
     · rename_i v' hv
       cases h
       split at hv
       · rename_i hk
         subst hk
         simp only [VR] at rx ry
         have key:=fun w=>intBinA_spec (P:=P) (w:=w) (φ:=φ) hv t x y
         obtain ⟨u,hu,ru⟩:=key default
         refine ⟨u,ru,fun w=>?_⟩
         obtain ⟨u',hu',ru'⟩:=key w
         have e:u'=u:=by
           cases op <;> simp only [intBinA] at hv <;> try (cases hv; done)
           case quo=>split at hv <;> cases hv; exact ru'.trans ru.symm
           case rem=>split at hv <;> cases hv; exact ru'.trans ru.symm
           all_goals (cases hv; exact ru'.trans ru.symm)
         subst e
         obtain ⟨u2,h2,_⟩:=fits_val (φ':=φ) (s:=do eqGuard op t x y (ρ x) (ρ y); binOp op t (ρ x) (ρ y)) (u:=u') (by rw [rx,ry]; exact hu') ru'
         have:=(fits_val (P:=P) (w:=w) (φ':=φ) (s:=do eqGuard op t x y (ρ x) (ρ y); binOp op t (ρ x) (ρ y)) (u:=u') (by rw [rx,ry]; exact hu') ru')
         show (do pure (Next.value (<-(do eqGuard op t x y (ρ x) (ρ y); binOp op t (ρ x) (ρ y)))):Sem Next).run P w=_
         rw [rx,ry]
         rw [Sem.run_bind,hu',Result.andThen_ok,Sem.run_pure]
       · cases hv
     · exact pureA_every hρ h
   · split at h
     · rename_i r hr
       cases h
       refine ⟨.bool r,rfl,fun w=>?_⟩
       obtain ⟨h1,h2,h3,_⟩:=eqVG_spec rx ry hr .eql x y w
       show (do pure (Next.value (<-(do eqGuard .eql t x y (ρ x) (ρ y); binOp .eql t (ρ x) (ρ y)))):Sem Next).run P w=_
       simp only [Sem.run_bind,h2,Result.andThen_ok,h3,h1,Sem.run_pure]
     · rename_i r hr
       cases h
       refine ⟨.bool (!r),rfl,fun w=>?_⟩
       obtain ⟨h1,h2,_,h4⟩:=eqVG_spec rx ry hr .neq x y w
       show (do pure (Next.value (<-(do eqGuard .neq t x y (ρ x) (ρ y); binOp .neq t (ρ x) (ρ y)))):Sem Next).run P w=_
       simp only [Sem.run_bind,h2,Result.andThen_ok,h4,h1,Sem.run_pure]
     · exact pureA_every hρ h
 case unOp=>exact pureA_every hρ h
 case convert=>exact pureA_every hρ h
 case index=>exact pureA_every hρ h
 case typeAssert=>exact pureA_every hρ h
 case makeInterface t x =>
   simp only [quietA,Option.bind_eq_some_iff] at h
   obtain ⟨xv,hv,h⟩:=h
   split at h
   · cases h
   · rename_i d hd hu
     cases h
     refine ⟨.iface t (ρ x),⟨_,rfl,hρ x xv hv⟩,fun w=>?_⟩
     cases d <;> first | exact absurd rfl (hd _) | simp [execOp,Instr.makeInterface,run_und hu]
   · cases h
 case makeFunc fn first cap =>
   simp only [quietA,Option.bind_eq_some_iff,Option.map_eq_some_iff] at h
   obtain ⟨f,hf,c,hc,rfl⟩:=h
   refine ⟨.func fn (first.map ρ) (cap.map ρ),⟨_,_,rfl,?_,?_⟩,fun w=>rfl⟩
   · simpa using evL_spec hρ _ _ hf
   · simpa using evL_spec hρ _ _ hc
 case fieldAddr t x f =>
   simp only [quietA,Option.bind_eq_some_iff] at h
   obtain ⟨xv,hx,hv⟩:=h
   obtain ⟨y,hy,ry⟩:=fieldAddrA_spec (P:=P) (hρ x _ hx) hv
   exact ⟨y,ry,fun w=>by simp only [execOp,Sem.run_bind,hy w,Result.andThen_ok,Sem.run_pure]⟩
 case field t x f =>
   simp only [quietA,Option.bind_eq_some_iff] at h
   obtain ⟨xv,hx,hv⟩:=h
   obtain ⟨y,hy,ry⟩:=fieldA_spec (P:=P) (hρ x _ hx) hv
   exact ⟨y,ry,fun w=>by simp only [execOp,Sem.run_bind,hy w,Result.andThen_ok,Sem.run_pure]⟩
 case indexAddr t x ix =>
   simp only [quietA,Option.bind_eq_some_iff] at h
   obtain ⟨xv,hx,iv,hi,hv⟩:=h
   obtain ⟨y,hy,ry⟩:=indexAddrA_spec (P:=P) (hρ x _ hx) (hρ ix _ hi) hv
   exact ⟨y,ry,fun w=>by simp only [execOp,Sem.run_bind,hy w,Result.andThen_ok,Sem.run_pure]⟩
 case extract t ix =>
   simp only [quietA,Option.bind_eq_some_iff] at h
   obtain ⟨tv,ht,h⟩:=h
   split at h
   · rename_i vs
     obtain ⟨us,hval,rs⟩:=hρ t _ ht
     obtain ⟨u,hu,ru⟩:=rs.get ix v h
     have hu':us[ix]? =some u:=by simpa using hu
     exact ⟨u,ru,fun w=>by simp [execOp,Instr.extract,hval,hu']⟩
   · cases h
 case nilCheck x =>
   simp only [quietA,Option.bind_eq_some_iff] at h
   obtain ⟨xv,hx,hn⟩:=h
   have key:=fun w=>nilCheckA_spec (P:=P) (w:=w) (ρ:=ρ) hn (hρ x xv hx) ⟨dst,.nilCheck x,ty,pos,after,guard⟩ x rfl rfl
   refine ⟨ρ x,?_,fun w=>(key w).1⟩
   rw [(key default).2]; exact hρ x xv hx
theorem endsL_same (ops:Array Oper):∀ (l:List (Nat × Plan)) (n:Nat) (L:Array Bool) (r:Option (Nat × Array Bool)) (e:Nat × Array Bool),endsL ops l n L r=some e->∀ e0,r=some e0->e0=e
 | [],n,L,r,e,h,e0,hr=>by rw [endsL_nil] at h; rw [hr] at h; exact Option.some.inj h
 | (i,p)::l,n,L,r,e,h,e0,hr=>by
   subst hr
   rw [endsL_cons] at h
   simp only [Option.bind_eq_some_iff] at h
   obtain ⟨e1,_,h⟩:=h
   split at h
   · exact endsL_same ops l n L _ e h e0 rfl
   · cases h
theorem runAll_spec {call:CallF} {base:Nat} {ops:Array Oper}:∀ (l:List (Nat × Plan)) (s t:St) (r:Option St),runAll P C call base ops l s r=some t ->
   (∀ t0,r=some t0->t0=t)/\∀ i p,(i,p)∈l->∃ s',stepA P C call (some (base+i)) ops i s=some s'/\runPlan P C call base ops p s'=some t
 | [],s,t,r,h=>by
   simp only [runAll] at h
   exact ⟨fun t0 e=>by rw [h] at e; exact (Option.some.inj e).symm,fun i p hm=>by cases hm⟩
 | (i,p)::l,s,t,r,h=>by
   simp only [runAll,Option.bind_eq_some_iff] at h
   obtain ⟨s',hs',t',ht',h⟩:=h
   cases r with
   | none =>
     obtain ⟨h1,h2⟩:=runAll_spec l s t (some t') h
     have e:=h1 t' rfl
     subst e
     refine ⟨fun t0 e=>(by cases e),fun j q hm=>?_⟩
     cases hm with
     | head=>exact ⟨s',hs',ht'⟩
     | tail _ hm=>exact h2 j q hm
   | some t0 =>
     simp only at h
     split at h
     · rename_i hb
       obtain ⟨h1,h2⟩:=runAll_spec l s t (some t0) h
       have e:=h1 t0 rfl
       have e2:=stBeq_eq hb
       subst e; subst e2
       refine ⟨fun t1 e=>(Option.some.inj e).symm,fun j q hm=>?_⟩
       cases hm with
       | head=>exact ⟨s',hs',ht'⟩
       | tail _ hm=>exact h2 j q hm
     · cases h
theorem pureA_congr {ev ev':Operand->Option AV} {o:Oper} (h:∀ x∈o.op.operands,ev x=ev' x):pureA P ev o=pureA P ev' o:=by
 unfold pureA
 have h1:(o.op.operands.toList.all fun x=>((ev x).bind toV).isSome)=(o.op.operands.toList.all fun x=>((ev' x).bind toV).isSome):=by
   rw [Bool.eq_iff_iff]
   simp only [List.all_eq_true]
   exact ⟨fun k x hx=>by rw [<-h x (by simpa using hx)]; exact k x hx,fun k x hx=>by rw [h x (by simpa using hx)]; exact k x hx⟩
 rw [h1]
 split
 · rename_i hc
   simp only [Bool.and_eq_true] at hc
   rw [execOp_congr (ρ:=rhoOf ev) (ρ':=rhoOf ev') o (fun cs b e=>by rw [e] at hc; exact absurd hc.1 (by simp [notSelect])) fun x hx=>by unfold rhoOf; rw [h x hx]]
 · rfl
theorem evL_congr {ev ev':Operand->Option AV}:∀ (l:List Operand),(∀ x∈l,ev x=ev' x)->evL ev l=evL ev' l
 | [],_=>rfl
 | x::l,h=>by rw [evL,evL,h x (by simp),evL_congr l fun y hy=>h y (by simp [hy])]
theorem evO_congr {ev ev':Operand->Option AV} (x:Option Operand) (h:∀ y,x=some y->ev y=ev' y):evO ev x=evO ev' x:=by
 cases x with
 | none=>rfl
 | some y=>rw [evO,evO,h y rfl]
theorem quietA_congr {ev ev':Operand->Option AV} {o:Oper} (h:∀ x∈o.op.operands,ev x=ev' x):quietA P ev o=quietA P ev' o:=by
 have hp:=pureA_congr (P:=P) h
 obtain ⟨dst,op,ty,pos,after,guard⟩:=o
 cases op <;> simp only [quietA,hp] <;> simp only [Op.operands] at h <;> first
   | rfl
   | (rw [h _ (by simp)]; done)
   | skip
 case pick c a b=>rw [h c (by simp),h a (by simp),h b (by simp)]
 case binOp op t x y yt=>rw [h x (by simp),h y (by simp)]
 case indexAddr t x i=>rw [h x (by simp),h i (by simp)]
 case makeFunc fn f c=>rw [evL_congr f.toList fun x hx=>h x (by simp at hx ⊢; exact .inl hx),evL_congr c.toList fun x hx=>h x (by simp at hx ⊢; exact .inr hx)]
theorem readA_congr {ev ev':Operand->Option AV} {o:Oper} {H:AH} (h:∀ x∈o.op.operands,ev x=ev' x):readA P ev o H=readA P ev' o H:=by
 have hq:=quietA_congr (P:=P) h
 unfold readA
 split
 · rename_i t a hop
   rw [hop] at h; simp only [Op.operands] at h
   rw [h a (by simp)]
 · rename_i t m k ok hop
   rw [hop] at h; simp only [Op.operands] at h
   rw [h m (by simp),h k (by simp)]
 · rename_i t x lo hi mx hop
   rw [hop] at h; simp only [Op.operands] at h
   rw [h x (by simp),evO_congr lo fun y e=>h y (by simp [e]),evO_congr hi fun y e=>h y (by simp [e]),evO_congr mx fun y e=>h y (by simp [e])]
 · rename_i c hop
   rw [hop] at h; simp only [Op.operands,Call.operands] at h
   split
   · rw [evL_congr c.args.toList fun x hx=>h x (by simp at hx ⊢; first | exact .inr hx | exact hx)]
   · rfl
 · exact hq
theorem callA_congr {ev ev':Operand->Option AV} {o:Oper} {c:Call} {H:AH} (hop:o.op=.call c) (hb:∀ b,c.callee≠.builtin b) (h:∀ x∈o.op.operands,ev x=ev' x):callA P C none ev o c H=callA P C none ev' o c H:=by
 rw [hop] at h; simp only [Op.operands,Call.operands] at h
 unfold callA
 split
 · rename_i f hc
   rw [hc] at h
   rw [h f (by simp),evL_congr c.args.toList fun x hx=>h x (by simp at hx ⊢; exact .inr hx)]
 · rename_i r nm hc
   rw [hc] at h
   rw [h r (by simp),evL_congr c.args.toList fun x hx=>h x (by simp at hx ⊢; exact .inr hx)]
 · rename_i b hc
   exact absurd hc (hb b)
theorem callA_same {ev:Operand->Option AV} {o:Oper} {c:Call} {H H1:AH} {n:ANext} (hb:∀ b,c.callee≠.builtin b) (h:callA P C none ev o c H=some (n,H1)):H1=H:=by
 unfold callA at h
 split at h
 · simp only [Option.bind_eq_some_iff] at h
   obtain ⟨fv,_,as,_,h⟩:=h
   split at h
   · simp only [Option.bind_eq_some_iff] at h
     obtain ⟨fn,_,h⟩:=h
     split at h
     · exact (Prod.mk.inj (Option.some.inj h)).2.symm
     · cases h
   · cases h
 · simp only [Option.bind_eq_some_iff] at h
   obtain ⟨fv,_,as,_,h⟩:=h
   split at h
   · simp only [Option.bind_eq_some_iff] at h
     obtain ⟨⟨g,v'⟩,_,fn,_,h⟩:=h
     split at h
     · exact (Prod.mk.inj (Option.some.inj h)).2.symm
     · cases h
   · cases h
 · rename_i b hc
   exact absurd hc (hb b)
theorem calmA_congr {call:CallF} {ev ev':Operand->Option AV} {o:Oper} {H:AH} (h:∀ x∈o.op.operands,ev x=ev' x):calmA P C call ev o H=calmA P C call ev' o H:=by
 have hr:=readA_congr (P:=P) (H:=H) h
 unfold calmA
 split
 · rename_i c hop
   split
   · exact hr
   · rename_i hb
     rw [callA_congr hop (fun b e=>hb b e) h]
 · exact hr
theorem evalA_set {gl:GL} {tm:List AV} {d:Tmp} {u:AV} {x:Operand} (h:x≠.tmp d):evalA gl (tm.set d u) x=evalA gl tm x:=by
 cases x with
 | tmp t =>
   have:t≠d:=fun e=>h (by rw [e])
   simp only [evalA]
   rw [List.getD_eq_getElem?_getD,List.getD_eq_getElem?_getD,List.getElem?_set_ne (Ne.symm this)]
 | _=>rfl
theorem putA_comm {d e:Option Tmp} {u v:AV} {tm:List AV} (h:∀ x,d=some x->e≠some x):putA d u (putA e v tm)=putA e v (putA d u tm):=by
 cases d with
 | none=>rfl
 | some x =>
   cases e with
   | none=>rfl
   | some y =>
     have:x≠y:=fun c=>h x rfl (by rw [c])
     simp only [putA]
     exact List.set_comm _ _ (Ne.symm this)
theorem readA_spec {ev:Operand->Option AV} {ρ:Operand->Value} {φ:Env} {H:AH} {w:World} (hW:WR w0 Pr φ H w) (hρ:∀ x a,ev x=some a->VR φ a (ρ x)) {o:Oper} {v:AV} (h:readA P ev o H=some v) :
   ∃ u,VR φ v u/\(execOp ρ o).run P w=.ok (.value u) w:=by
 unfold readA at h
 split at h
 · rename_i t a hop
   obtain ⟨dst,op,ty,pos,after,guard⟩:=o
   simp only at hop
   subst hop
   simp only [Option.bind_eq_some_iff] at h
   obtain ⟨av,ha,h⟩:=h
   split at h
   · rename_i i k
     obtain ⟨b,o,z,hφ,hval⟩:=hρ a _ ha
     obtain ⟨y,hy,ry⟩:=ldA_spec (P:=P) hW hφ h
     exact ⟨y,ry,by simp only [execOp,Instr.loadAt,hval,Instr.sureAddr,Sem.run_bind,Sem.run_pure,Result.andThen_ok,hy]⟩
   · cases h
 · rename_i t m k ok hop
   obtain ⟨dst,op,ty,pos,after,guard⟩:=o
   simp only at hop
   subst hop
   simp only [Option.bind_eq_some_iff] at h
   obtain ⟨mv,hm,kv,hk,hv⟩:=h
   obtain ⟨y,hy,ry⟩:=lookupA_spec (P:=P) hW (hρ m _ hm) (hρ k _ hk) hv
   exact ⟨y,ry,by simp only [execOp,Sem.run_bind,hy,Result.andThen_ok,Sem.run_pure]⟩
 · rename_i t x lo hi mx hop
   obtain ⟨dst,op,ty,pos,after,guard⟩:=o
   simp only at hop
   subst hop
   simp only [Option.bind_eq_some_iff] at h
   obtain ⟨xv,hx,l,hl,hh',hh,m,hm,hv⟩:=h
   obtain ⟨y,hy,ry⟩:=sliceA_spec (P:=P) hW (hρ x _ hx) (evO_spec hρ hl) (evO_spec hρ hh) (evO_spec hρ hm) hv
   exact ⟨y,ry,by simp only [execOp,Sem.run_bind,hy,Result.andThen_ok,Sem.run_pure]⟩
 · rename_i c hop
   obtain ⟨dst,op,ty,pos,after,guard⟩:=o
   simp only at hop
   subst hop
   split at h
   · rename_i hcal
     simp only [Option.bind_eq_some_iff] at h
     obtain ⟨as,has,h⟩:=h
     have ras:=evL_spec hρ _ _ has
     split at h
     · rename_i x
       simp only [Option.bind_eq_some_iff] at h
       obtain ⟨t,ht,hl⟩:=h
       obtain ⟨u,us,hu,rx,_⟩:=ras
       have ha0:(c.args.map ρ)[0]? =some u:=by rw [<-Array.getElem?_toList,Array.toList_map,hu]; rfl
       obtain ⟨y,hy,ry⟩:=lenA_spec (ty:=ty) hW ht ha0 rx hl
       refine ⟨y,ry,?_⟩
       simp only [execOp,resolve,hcal,Sem.run_bind,Sem.run_pure,Result.andThen_ok,invoke,builtin,hy]
     · cases h
   · cases h
 · obtain ⟨u,ru,hu⟩:=quietA_spec hρ h
   exact ⟨u,ru,hu w⟩
theorem pureA_noenter {ev:Operand->Option AV} {o:Oper} {f:FuncId} {args:List AV} (h:pureA P ev o=some (.enter f args)):False:=by
 unfold pureA at h
 split at h
 · split at h
   · obtain ⟨v,_,e⟩:=Option.map_eq_some_iff.1 h; cases e
   · cases h
 · cases h
theorem aop_noenter {slot:Option Nat} {ev:Operand->Option AV} {dst:Option Tmp} {op:Op} {ty:TypeId} {pos:String} {after:Array Edge} {guard:Option (Nat × Bool)} {H H':AH} {f:FuncId} {args:List AV} (ho:(match op with | .call _=>false | _=>true)=true∨False)
   (h:aop P C slot ev ⟨dst,op,ty,pos,after,guard⟩ H=some (.enter f args,H')):False:=by
 have hm:∀ {α:Type} (x:Option α) (g:α->AV) (k:α->AH),(x.map fun v=>(ANext.val (g v),k v))=some (.enter f args,H')->False:=fun x g k h=>by
   obtain ⟨v,_,e⟩:=Option.map_eq_some_iff.1 h; cases e
 have hk:∀ {α:Type} (x:Option α) (k:α->AH),(x.map fun v=>(ANext.skip,k v))=some (.enter f args,H')->False:=fun x k h=>by
   obtain ⟨v,_,e⟩:=Option.map_eq_some_iff.1 h; cases e
 have hp:∀ (o:Oper),((pureA P ev o).map fun n=>(n,H))=some (.enter f args,H')->False:=fun o h=>by
   obtain ⟨v,hv,e⟩:=Option.map_eq_some_iff.1 h
   cases e; exact pureA_noenter hv
 cases op <;> simp only [aop] at h <;> first
   | exact hp _ h
   | skip
 case call c=>rcases ho with ho | ho <;> simp at ho
 case move x=>exact hm _ id (fun _=>H) h
 case assign x=>exact hm _ id (fun _=>H) h
 case pick c a b =>
   obtain ⟨cv,_,h⟩:=Option.bind_eq_some_iff.1 h
   split at h
   · exact hm _ id (fun _=>H) h
   · exact hm _ id (fun _=>H) h
   · cases h
 case alloc e=>obtain ⟨z,_,h⟩:=Option.bind_eq_some_iff.1 h; exact hm _ (fun r:Nat × AH=>AV.ptr r.1 0) (fun r:Nat × AH=>r.2) h
 case box e x=>obtain ⟨z,_,h⟩:=Option.bind_eq_some_iff.1 h; exact hm _ (fun r:Nat × AH=>AV.ptr r.1 0) (fun r:Nat × AH=>r.2) h
 case build t ps=>obtain ⟨z,_,h⟩:=Option.bind_eq_some_iff.1 h; exact hm _ id (fun _=>H) h
 case buildSlice t l ps=>obtain ⟨z,_,h⟩:=Option.bind_eq_some_iff.1 h; exact hm _ (fun r:AV × AH=>r.1) (fun r:AV × AH=>r.2) h
 case load t a =>
   obtain ⟨av,_,h⟩:=Option.bind_eq_some_iff.1 h
   split at h
   · exact hm _ id (fun _=>H) h
   · cases h
 case store t a x =>
   obtain ⟨av,_,h⟩:=Option.bind_eq_some_iff.1 h
   obtain ⟨xv,_,h⟩:=Option.bind_eq_some_iff.1 h
   split at h
   · exact hk _ id h
   · cases h
 case nilCheck x=>obtain ⟨z,_,h⟩:=Option.bind_eq_some_iff.1 h; exact hm _ id (fun _=>H) h
 case binOp op t x y yt =>
   obtain ⟨xv,_,h⟩:=Option.bind_eq_some_iff.1 h
   obtain ⟨yv,_,h⟩:=Option.bind_eq_some_iff.1 h
   split at h
   · split at h
     · cases h
     · exact hp _ h
   · split at h
     · cases h
     · cases h
     · exact hp _ h
 case makeInterface t x =>
   obtain ⟨xv,_,h⟩:=Option.bind_eq_some_iff.1 h
   split at h <;> cases h
 case makeFunc fn f' c=>obtain ⟨z,_,h⟩:=Option.bind_eq_some_iff.1 h; exact hm _ (fun c=>.func fn z c) (fun _=>H) h
 case makeMap t r =>
   cases r with
   | none=>exact hm _ (fun r:Nat × AH=>AV.map r.1) (fun r:Nat × AH=>r.2) h
   | some r=>exact hp _ h
 case makeSlice t l c =>
   obtain ⟨xv,_,h⟩:=Option.bind_eq_some_iff.1 h
   obtain ⟨yv,_,h⟩:=Option.bind_eq_some_iff.1 h
   exact hm _ (fun r:AV × AH=>r.1) (fun r:AV × AH=>r.2) h
 case slice t x lo hi mx =>
   obtain ⟨xv,_,h⟩:=Option.bind_eq_some_iff.1 h
   obtain ⟨l,_,h⟩:=Option.bind_eq_some_iff.1 h
   obtain ⟨hh,_,h⟩:=Option.bind_eq_some_iff.1 h
   obtain ⟨m,_,h⟩:=Option.bind_eq_some_iff.1 h
   split at h
   · cases h
   · exact hp _ h
 case fieldAddr t x f'=>obtain ⟨z,_,h⟩:=Option.bind_eq_some_iff.1 h; exact hm _ id (fun _=>H) h
 case field t x f'=>obtain ⟨z,_,h⟩:=Option.bind_eq_some_iff.1 h; exact hm _ id (fun _=>H) h
 case indexAddr t x i =>
   obtain ⟨xv,_,h⟩:=Option.bind_eq_some_iff.1 h
   obtain ⟨yv,_,h⟩:=Option.bind_eq_some_iff.1 h
   exact hm _ id (fun _=>H) h
 case lookup t m k ok =>
   obtain ⟨xv,_,h⟩:=Option.bind_eq_some_iff.1 h
   obtain ⟨yv,_,h⟩:=Option.bind_eq_some_iff.1 h
   exact hm _ id (fun _=>H) h
 case mapEntry t m k =>
   obtain ⟨xv,_,h⟩:=Option.bind_eq_some_iff.1 h
   obtain ⟨yv,_,h⟩:=Option.bind_eq_some_iff.1 h
   exact hm _ (fun r:AV × AH=>r.1) (fun r:AV × AH=>r.2) h
 case entryStore t m s x =>
   obtain ⟨xv,_,h⟩:=Option.bind_eq_some_iff.1 h
   obtain ⟨yv,_,h⟩:=Option.bind_eq_some_iff.1 h
   obtain ⟨zv,_,h⟩:=Option.bind_eq_some_iff.1 h
   exact hk _ id h
 case mapUpdate t m k v =>
   obtain ⟨xv,_,h⟩:=Option.bind_eq_some_iff.1 h
   obtain ⟨yv,_,h⟩:=Option.bind_eq_some_iff.1 h
   obtain ⟨zv,_,h⟩:=Option.bind_eq_some_iff.1 h
   exact hk _ id h
 case insert t m k v =>
   obtain ⟨xv,_,h⟩:=Option.bind_eq_some_iff.1 h
   obtain ⟨yv,_,h⟩:=Option.bind_eq_some_iff.1 h
   obtain ⟨zv,_,h⟩:=Option.bind_eq_some_iff.1 h
   exact hk _ id h
 case extract t ix =>
   obtain ⟨xv,_,h⟩:=Option.bind_eq_some_iff.1 h
   split at h
   · exact hm _ id (fun _=>H) h
   · cases h
 case convert t u x =>
   split at h
   · rename_i n hn
     cases h; exact pureA_noenter hn
   · obtain ⟨xv,_,h⟩:=Option.bind_eq_some_iff.1 h
     exact hm _ (fun s=>.str s) (fun _=>H) h
theorem evP_congr {ev ev':Operand->Option AV}:∀ (l:List (Nat × Operand)),(∀ x∈l.map (·.2),ev x=ev' x)->evP ev l=evP ev' l
 | [],_=>rfl
 | (i,x)::l,h=>by rw [evP,evP,h x (by simp),evP_congr l fun y hy=>h y (by simp at hy ⊢; exact .inr hy)]
theorem callA_congrB {slot:Option Nat} {ev ev':Operand->Option AV} {o:Oper} {c:Call} {H:AH} (hop:o.op=.call c) (h:∀ x∈o.op.operands,ev x=ev' x):callA P C slot ev o c H=callA P C slot ev' o c H:=by
 have hp:=pureA_congr (P:=P) h
 rw [hop] at h; simp only [Op.operands,Call.operands] at h
 unfold callA
 split
 · rename_i f hc
   rw [hc] at h
   rw [h f (by simp),evL_congr c.args.toList fun x hx=>h x (by simp at hx ⊢; exact .inr hx)]
 · rename_i r nm hc
   rw [hc] at h
   rw [h r (by simp),evL_congr c.args.toList fun x hx=>h x (by simp at hx ⊢; exact .inr hx)]
 · rename_i b hc
   rw [evL_congr c.args.toList fun x hx=>h x (by simp at hx ⊢; first | exact .inr hx | exact hx),hp]
theorem aop_congr {slot:Option Nat} {ev ev':Operand->Option AV} {o:Oper} {H:AH} (h:∀ x∈o.op.operands,ev x=ev' x):aop P C slot ev o H=aop P C slot ev' o H:=by
 have hp:=pureA_congr (P:=P) h
 by_cases hcall:∃ c,o.op=.call c
 · obtain ⟨c,hc⟩:=hcall
   unfold aop
   rw [hc]
   exact callA_congrB hc h
 · obtain ⟨dst,op,ty,pos,after,guard⟩:=o
   cases op
   case call c=>exact absurd ⟨c,rfl⟩ hcall
   case pick c a b =>
     simp only [Op.operands] at h
     simp only [aop]
     rw [h c (by simp),h a (by simp),h b (by simp)]
   case binOp op t x y yt =>
     simp only [Op.operands] at h
     simp only [aop,hp]
     rw [h x (by simp),h y (by simp)]
   case build t ps =>
     simp only [Op.operands] at h
     simp only [aop]
     rw [evP_congr ps.toList fun x hx=>h x (by simpa using hx)]
   case buildSlice t len ps =>
     simp only [Op.operands] at h
     simp only [aop]
     rw [evP_congr ps.toList fun x hx=>h x (by simpa using hx)]
   case makeFunc fn f c =>
     simp only [Op.operands] at h
     simp only [aop]
     rw [evL_congr f.toList fun x hx=>h x (by simp at hx ⊢; exact .inl hx),evL_congr c.toList fun x hx=>h x (by simp at hx ⊢; exact .inr hx)]
   case makeMap t r =>
     cases r with
     | none=>rfl
     | some r=>simp only [aop,hp]
   case slice t x lo hi mx =>
     simp only [Op.operands] at h
     simp only [aop,hp]
     rw [h x (by simp),evO_congr lo fun y e=>h y (by simp [e]),evO_congr hi fun y e=>h y (by simp [e]),evO_congr mx fun y e=>h y (by simp [e])]
   case convert t u x =>
     simp only [Op.operands] at h
     simp only [aop,hp]
     rw [h x (by simp)]
   all_goals simp only [Op.operands] at h
   all_goals simp only [aop]
   all_goals first
     | rfl
     | exact congrArg _ hp
     | (rw [h _ (by simp)]; done)
     | (rename_i a b; rw [h a (by simp),h b (by simp)]; done)
     | (rename_i a b c; rw [h a (by simp),h b (by simp),h c (by simp)]; done)
     | (rename_i a b c; rw [h a (by simp),h b (by simp)]; done)
     | (rename_i a b c; rw [h b (by simp),h c (by simp)]; done)
     | (rename_i a b c d; rw [h b (by simp),h c (by simp),h d (by simp)]; done)
     | (rename_i a b c d; rw [h b (by simp),h c (by simp)]; done)
     | rw [hp]
theorem wanted_set {ops:Array Oper} {o:Oper} {tm:List AV} {d:Tmp} {u:AV} (hd:d∉o.looksAt ops):Region.wanted o (yieldedA ops (tm.set d u))=Region.wanted o (yieldedA ops tm):=by
 unfold Region.wanted
 cases hg:o.guard with
 | none=>rfl
 | some g =>
   obtain ⟨g,b⟩:=g
   simp only
   have:yieldedA ops (tm.set d u) g=yieldedA ops tm g:=by
     unfold yieldedA
     cases hx:(ops[g]?).bind (·.dst) with
     | none=>rfl
     | some e =>
       have hne:e≠d:=fun c=>hd (by
         subst c
         unfold Oper.looksAt
         rw [hg]
         refine List.mem_append_right _ ?_
         simp only [hx,Option.toList_some,List.mem_singleton])
       simp only [Option.bind_some]
       rw [List.getElem?_set_ne (Ne.symm hne)]
   rw [this]
theorem looks_op {ops:Array Oper} {o:Oper} {d:Tmp} (hd:d∉o.looksAt ops):∀ x∈o.op.operands,x≠.tmp d:=fun x hx e=>hd (by
 subst e
 unfold Oper.looksAt
 exact List.mem_append_left _ (List.mem_filterMap.2 ⟨.tmp d,by simpa using hx,rfl⟩))
def mvV (P:Program) (C:Cfg P) (ops:Array Oper) (o:Oper) (s:St):Option AV:=
 if Region.wanted o (yieldedA ops s.1) then (if isRead o.op then readA P (evalA C.gl s.1) o s.2 else quietA P (evalA C.gl s.1) o) else some uA
theorem mvV_put {ops:Array Oper} {o:Oper} {H:AH} {tm:List AV} {dst:Option Tmp} {u:AV} (h:∀ d,dst=some d->d∉o.looksAt ops):mvV P C ops o (putA dst u tm,H)=mvV P C ops o (tm,H):=by
 cases dst with
 | none=>rfl
 | some d =>
   have hd:=h d rfl
   have hw:=wanted_set (tm:=tm) (u:=u) hd
   have hev:∀ x∈o.op.operands,evalA C.gl (tm.set d u) x=evalA C.gl tm x:=fun x hx=>evalA_set (looks_op hd x hx)
   show mvV P C ops o (tm.set d u,H)=_
   unfold mvV
   simp only
   rw [hw,readA_congr hev,quietA_congr hev]
def Ext (H K:AH):Prop:=∀ (i:Nat) (o:AObj),H[i]? =some o->o≠AObj.fresh->K[i]? =some o
theorem Ext.refl (H:AH):Ext H H:=fun _ _ h _=>h
theorem rd_ext {H K:AH} (h:Ext H K) {i k n:Nat} {xs:List AV} (hr:rdCells H i k n=some xs):rdCells K i k n=some xs:=by
 unfold rdCells at hr ⊢
 split at hr
 · rename_i cs e hi; rw [h _ _ hi (by intro c; cases c)]; exact hr
 · rename_i cs hi; rw [h _ _ hi (by intro c; cases c)]; exact hr
 · cases hr
theorem ld_ext {H K:AH} (h:Ext H K) {t:TypeId} {i k:Nat} {v:AV} (hr:ldA P t H i k=some v):ldA P t K i k=some v:=by
 unfold ldA at hr ⊢
 split at hr
 · obtain ⟨xs,hx,rfl⟩:=Option.map_eq_some_iff.1 hr
   rw [rd_ext h hx]; rfl
 · obtain ⟨xs,hx,hh⟩:=Option.bind_eq_some_iff.1 hr
   rw [rd_ext h hx]; exact hh
 · cases hr
theorem entries_ext {H K:AH} (h:Ext H K) {m:AV} {es} (hr:entriesA H m=some es):entriesA K m=some es:=by
 unfold entriesA at hr ⊢
 split at hr
 · exact hr
 · split at hr
   · rename_i hi; rw [h _ _ hi (by intro c; cases c)]; exact hr
   · cases hr
 · cases hr
theorem len_ext {H K:AH} (h:Ext H K) {t:TypeId} {x v:AV} (hr:lenA P t H x=some v):lenA P t K x=some v:=by
 unfold lenA at hr ⊢
 split at hr
 · exact hr
 · exact hr
 · obtain ⟨es,he,rfl⟩:=Option.map_eq_some_iff.1 hr
   rw [entries_ext h he]; rfl
 · cases hr
theorem read_ext {H K:AH} (h:Ext H K) {ev:Operand->Option AV} {o:Oper} (ho:isRead o.op=true) {v:AV} (hr:readA P ev o H=some v):readA P ev o K=some v:=by
 unfold readA at hr ⊢
 split at hr
 · obtain ⟨av,ha,hr⟩:=Option.bind_eq_some_iff.1 hr
   rw [ha]
   simp only [Option.bind_some]
   split at hr
   · exact ld_ext h hr
   · cases hr
 · obtain ⟨mv,hm,hr⟩:=Option.bind_eq_some_iff.1 hr
   obtain ⟨kv,hk,hr⟩:=Option.bind_eq_some_iff.1 hr
   rw [hm,hk]
   simp only [Option.bind_some]
   unfold lookupA at hr ⊢
   obtain ⟨p,hp,hr⟩:=Option.bind_eq_some_iff.1 hr
   obtain ⟨es,he,hr⟩:=Option.bind_eq_some_iff.1 hr
   rw [hp]
   simp only [Option.bind_some]
   rw [entries_ext h he]
   exact hr
 · rename_i hop; rw [hop] at ho; cases ho
 · split at hr
   · obtain ⟨as,ha,hr⟩:=Option.bind_eq_some_iff.1 hr
     rw [ha]
     simp only [Option.bind_some]
     split at hr
     · obtain ⟨t,ht,hr⟩:=Option.bind_eq_some_iff.1 hr
       rw [ht]
       exact len_ext h hr
     · cases hr
   · cases hr
 · exact hr
theorem put_ext {slot:Nat} {H K:AH} {o:AObj} {i:Nat} (h:put (some slot) H o=some (i,K)):Ext H K:=by
 unfold put at h
 simp only at h
 split at h
 · rename_i hf
   obtain ⟨rfl,rfl⟩:=Prod.mk.inj (Option.some.inj h)
   intro j o' hj hne
   by_cases e:j=slot
   · subst e; rw [hf] at hj; exact absurd (Option.some.inj hj).symm hne
   · rw [List.getElem?_set_ne (Ne.symm e)]; exact hj
 · cases h
theorem gent_ext {slot:Nat} {ev:Operand->Option AV} {o:Oper} (ho:isGent o.op=true) {H K:AH} {n:ANext} (h:aop P C (some slot) ev o H=some (n,K)):Ext H K:=by
 have hm:∀ {α:Type} (x:Option α) (f:α->ANext),(x.map fun v=>(f v,H))=some (n,K)->Ext H K:=fun x f h=>by
   obtain ⟨v,_,e⟩:=Option.map_eq_some_iff.1 h
   obtain ⟨_,rfl⟩:=Prod.mk.inj e
   exact Ext.refl _
 have hs:∀ (v:AV),some (ANext.val v,H)=some (n,K)->Ext H K:=fun v h=>by
   obtain ⟨_,rfl⟩:=Prod.mk.inj (Option.some.inj h)
   exact Ext.refl _
 obtain ⟨dst,op,ty,pos,after,guard⟩:=o
 cases op <;> simp only [isGent,isTake,isRead,Bool.or_false,Bool.or_self,Bool.false_eq_true,Bool.or_true,Bool.true_or] at ho <;> simp only [aop] at h
 case move x=>exact hm _ .val h
 case assign x=>exact hm _ .val h
 case pick c a b =>
   obtain ⟨cv,_,h⟩:=Option.bind_eq_some_iff.1 h
   split at h
   · exact hm _ .val h
   · exact hm _ .val h
   · cases h
 case alloc e =>
   obtain ⟨z,_,h⟩:=Option.bind_eq_some_iff.1 h
   obtain ⟨⟨i,H'⟩,hp,e⟩:=Option.map_eq_some_iff.1 h
   obtain ⟨_,rfl⟩:=Prod.mk.inj e
   exact put_ext hp
 case box e x =>
   obtain ⟨z,_,h⟩:=Option.bind_eq_some_iff.1 h
   obtain ⟨⟨i,H'⟩,hp,e⟩:=Option.map_eq_some_iff.1 h
   obtain ⟨_,rfl⟩:=Prod.mk.inj e
   exact put_ext hp
 case build t ps =>
   obtain ⟨z,_,h⟩:=Option.bind_eq_some_iff.1 h
   exact hm _ .val h
 case buildSlice t len ps =>
   obtain ⟨z,_,h⟩:=Option.bind_eq_some_iff.1 h
   obtain ⟨⟨i,H'⟩,hp,e⟩:=Option.map_eq_some_iff.1 h
   obtain ⟨_,rfl⟩:=Prod.mk.inj e
   unfold buildSliceA at hp
   obtain ⟨el,_,hp⟩:=Option.bind_eq_some_iff.1 hp
   obtain ⟨z,_,hp⟩:=Option.bind_eq_some_iff.1 hp
   split at hp
   · obtain ⟨cs,_,hp⟩:=Option.bind_eq_some_iff.1 hp
     obtain ⟨⟨i2,H2⟩,hp2,e2⟩:=Option.map_eq_some_iff.1 hp
     cases e2
     exact put_ext hp2
   · cases hp
 case load t a =>
   obtain ⟨av,_,h⟩:=Option.bind_eq_some_iff.1 h
   split at h
   · exact hm _ .val h
   · cases h
 case nilCheck x =>
   obtain ⟨av,_,h⟩:=Option.bind_eq_some_iff.1 h
   exact hm _ .val h
 case binOp op t x y yt =>
   obtain ⟨xv,_,h⟩:=Option.bind_eq_some_iff.1 h
   obtain ⟨yv,_,h⟩:=Option.bind_eq_some_iff.1 h
   split at h
   · split at h
     · exact hs _ h
     · exact hm _ id h
   · split at h
     · exact hs _ h
     · exact hs _ h
     · exact hm _ id h
 case makeInterface t x =>
   obtain ⟨xv,_,h⟩:=Option.bind_eq_some_iff.1 h
   split at h
   · cases h
   · exact hs _ h
   · cases h
 case makeFunc fn f c =>
   obtain ⟨xv,_,h⟩:=Option.bind_eq_some_iff.1 h
   exact hm _ (fun c=>.val (.func fn xv c)) h
 case makeMap t r =>
   cases r with
   | none =>
     obtain ⟨⟨i,H'⟩,hp,e⟩:=Option.map_eq_some_iff.1 h
     obtain ⟨_,rfl⟩:=Prod.mk.inj e
     exact put_ext hp
   | some r=>simp at ho
 case makeSlice t l c =>
   obtain ⟨lv,_,h⟩:=Option.bind_eq_some_iff.1 h
   obtain ⟨cv,_,h⟩:=Option.bind_eq_some_iff.1 h
   obtain ⟨⟨i,H'⟩,hp,e⟩:=Option.map_eq_some_iff.1 h
   obtain ⟨_,rfl⟩:=Prod.mk.inj e
   unfold makeSliceA at hp
   split at hp
   · obtain ⟨el,_,hp⟩:=Option.bind_eq_some_iff.1 hp
     obtain ⟨z,_,hp⟩:=Option.bind_eq_some_iff.1 hp
     split at hp
     · obtain ⟨⟨i2,H2⟩,hp2,e2⟩:=Option.map_eq_some_iff.1 hp
       cases e2
       exact put_ext hp2
     · cases hp
   · cases hp
 case slice t x lo hi mx =>
   obtain ⟨xv,_,h⟩:=Option.bind_eq_some_iff.1 h
   obtain ⟨l,_,h⟩:=Option.bind_eq_some_iff.1 h
   obtain ⟨hh,_,h⟩:=Option.bind_eq_some_iff.1 h
   obtain ⟨m,_,h⟩:=Option.bind_eq_some_iff.1 h
   split at h
   · exact hs _ h
   · exact hm _ id h
 case fieldAddr t x f =>
   obtain ⟨av,_,h⟩:=Option.bind_eq_some_iff.1 h
   exact hm _ .val h
 case field t x f =>
   obtain ⟨av,_,h⟩:=Option.bind_eq_some_iff.1 h
   exact hm _ .val h
 case indexAddr t x i =>
   obtain ⟨av,_,h⟩:=Option.bind_eq_some_iff.1 h
   obtain ⟨iv,_,h⟩:=Option.bind_eq_some_iff.1 h
   exact hm _ .val h
 case lookup t m k ok =>
   obtain ⟨av,_,h⟩:=Option.bind_eq_some_iff.1 h
   obtain ⟨iv,_,h⟩:=Option.bind_eq_some_iff.1 h
   exact hm _ .val h
 case extract t ix =>
   obtain ⟨av,_,h⟩:=Option.bind_eq_some_iff.1 h
   split at h
   · exact hm _ .val h
   · cases h
 case convert t u x =>
   split at h
   · obtain ⟨_,rfl⟩:=Prod.mk.inj (Option.some.inj h)
     exact Ext.refl _
   · obtain ⟨av,_,h⟩:=Option.bind_eq_some_iff.1 h
     exact hm _ (fun s=>.val (.str s)) h
 case call c =>
   have hc:c.callee=.builtin .len:=by
     revert ho
     cases hc:c.callee with
     | builtin b=>cases b <;> simp
     | value f=>simp
     | invoke r n=>simp
   unfold callA at h
   rw [hc] at h
   simp only at h
   obtain ⟨as,_,h⟩:=Option.bind_eq_some_iff.1 h
   rcases as with _ | ⟨x,_ | ⟨y,l⟩⟩
   · exact hm _ id h
   · exact hm _ .val h
   · exact hm _ id h
 all_goals exact hm _ id h
def Stp (P:Program) (C:Cfg P) (call:CallF) (base:Nat) (ops:Array Oper) (i:Nat) (o:Oper) (s s':St):Prop:=
 stepA P C call (some (base+i)) ops i s=some s'∨∃ v,mvV P C ops o s=some v/\s'=(putA o.dst v s.1,s.2)
theorem stepA_form {call:CallF} {slot:Option Nat} {ops:Array Oper} {i:Nat} {o:Oper} {s s':St} (hi:ops[i]? =some o) (h:stepA P C call slot ops i s=some s'):∃ u,s'.1=putA o.dst u s.1:=by
 unfold stepA at h
 simp only [hi] at h
 split at h
 · split at h
   · cases h; exact ⟨_,rfl⟩
   · cases h; exact ⟨_,rfl⟩
   · obtain ⟨r,_,e⟩:=Option.map_eq_some_iff.1 h
     cases e; exact ⟨_,rfl⟩
   · cases h
 · cases h; exact ⟨_,rfl⟩
theorem stepA_put {call:CallF} {slot:Option Nat} {ops:Array Oper} {i:Nat} {o:Oper} {tm:List AV} {H:AH} {s':St} {dst:Option Tmp} {u:AV} (hi:ops[i]? =some o) (h1:∀ d,dst=some d->d∉o.looksAt ops) (h2:∀ d,dst=some d->o.dst≠some d)
   (h:stepA P C call slot ops i (putA dst u tm,H)=some s'):∃ t,stepA P C call slot ops i (tm,H)=some (t,s'.2)/\s'.1=putA dst u t:=by
 cases dst with
 | none=>exact ⟨s'.1,h,rfl⟩
 | some d =>
   have hd:=h1 d rfl
   have hw:=wanted_set (tm:=tm) (u:=u) hd
   have hev:∀ x∈o.op.operands,evalA C.gl (tm.set d u) x=evalA C.gl tm x:=fun x hx=>evalA_set (looks_op hd x hx)
   have ha:=aop_congr (P:=P) (C:=C) (slot:=slot) (o:=o) (H:=H) hev
   have hcm:∀ v,putA o.dst v (putA (some d) u tm)=putA (some d) u (putA o.dst v tm):=fun v=>putA_comm fun x hx e=>h2 d rfl (by cases e; exact hx)
   unfold stepA at h ⊢
   simp only [hi] at h ⊢
   rw [show putA (some d) u tm=tm.set d u from rfl,hw,ha] at h
   split at h
   · rename_i hwn
     rw [if_pos hwn]
     split at h
     · rename_i v H' he
       cases h; exact ⟨_,rfl,hcm v⟩
     · rename_i H' he
       cases h; exact ⟨_,rfl,hcm uA⟩
     · rename_i f args H' he
       obtain ⟨r,hr,e⟩:=Option.map_eq_some_iff.1 h
       cases e
       simp only [hr,Option.map_some]
       exact ⟨_,rfl,hcm r.1⟩
     · cases h
   · rename_i hwn
     rw [if_neg hwn]
     cases h; exact ⟨_,rfl,hcm uA⟩
theorem stepA_ext {call:CallF} {slot:Nat} {ops:Array Oper} {i:Nat} {o:Oper} {s s':St} (hi:ops[i]? =some o) (hg:isGent o.op=true) (h:stepA P C call (some slot) ops i s=some s'):Ext s.2 s'.2:=by
 unfold stepA at h
 simp only [hi] at h
 split at h
 · split at h
   · rename_i v H' ha; cases h; exact gent_ext hg ha
   · rename_i H' ha; cases h; exact gent_ext hg ha
   · rename_i f args H' ha
     exfalso
     revert hg
     obtain ⟨dst,op,ty,pos,after,guard⟩:=o
     clear h
     intro hg
     cases op <;> simp only [isGent,isTake,isRead,Bool.or_false,Bool.or_self,Bool.false_eq_true,Bool.or_true,Bool.true_or] at hg
     case call =>
       rename_i c _
       have hc:c.callee=.builtin .len:=by
         revert hg
         cases hc:c.callee with
         | builtin b=>cases b <;> simp
         | value f=>simp
         | invoke r n=>simp
       simp only [aop,callA,hc] at ha
       obtain ⟨as,_,ha⟩:=Option.bind_eq_some_iff.1 ha
       rcases as with _ | ⟨x,_ | ⟨y,l⟩⟩
       · obtain ⟨v,hv,e⟩:=Option.map_eq_some_iff.1 ha
         cases e
         exact pureA_noenter hv
       · obtain ⟨v,_,e⟩:=Option.map_eq_some_iff.1 ha; cases e
       · obtain ⟨v,hv,e⟩:=Option.map_eq_some_iff.1 ha
         cases e
         exact pureA_noenter hv
     all_goals exact aop_noenter (by first | exact .inl rfl | exact .inr rfl) ha
   · cases h
 · cases h; exact Ext.refl _
theorem Stp.sound {call:CallF} (hcall:CallOk P C.gl w0 Pr call) {base:Nat} {ops:Array Oper} {i:Nat} {o:Oper} (hi:ops[i]? =some o) {s s':St} (h:Stp P C call base ops i o s s') {φ:Env} {a:Act} {w:World} (hs:SR C.gl w0 Pr φ s a w)
   {Q:Exit->Act->World->Prop} {K:Act->World->Prop} (hK:∀ φ' a' w',φ.le φ'->SR C.gl w0 Pr φ' s' a' w'->K a' w'):wpOp P ops Q i K a w:=by
 rcases h with h | ⟨v,hv,rfl⟩
 · exact stepA_sound hcall h hs hK
 · unfold mvV at hv
   unfold wpOp
   simp only [hi]
   rw [yieldedA_spec ops hs.tm]
   split at hv
   · rename_i hw
     rw [if_pos hw]
     left
     have:∃ u,VR φ v u/\(execOp a.eval o).run P w=.ok (.value u) w:=by
       split at hv
       · exact readA_spec (P:=P) hs.wr (fun x v hx=>evalA_spec hs.gi hs.tm x v hx) hv
       · obtain ⟨u,ru,hu⟩:=quietA_spec (fun x v hx=>evalA_spec hs.gi hs.tm x v hx) hv
         exact ⟨u,ru,hu w⟩
     obtain ⟨u,ru,hu⟩:=this
     unfold Oper.wp
     rw [hu]
     exact hK φ _ w (Env.le_refl φ) ⟨hs.wr,putA_spec hs.tm o.dst ru,by rw [put_defers]; exact hs.df,hs.gi⟩
   · rename_i hw
     cases hv
     rw [if_neg hw]
     exact hK φ _ w (Env.le_refl φ) ⟨hs.wr,putA_spec hs.tm o.dst ⟨#[],rfl,rfl⟩,by rw [put_defers]; exact hs.df,hs.gi⟩
def PAny (P:Program) (C:Cfg P) (call:CallF) (base:Nat) (ops:Array Oper) (K:St->Prop):Nat->Array Bool->St->Prop
 | 0,L,s=>Region.ready .any ops L=[]/\K s
 | n+1,L,s=>(Region.ready .any ops L=[]->K s)/\∀ i∈Region.ready .any ops L,∃ o s',ops[i]? =some o/\Stp P C call base ops i o s s'/\PAny P C call base ops K n (L.setIfInBounds i true) s'
theorem PAny.sound {call:CallF} (hcall:CallOk P C.gl w0 Pr call) {base:Nat} {ops:Array Oper} {Ks:St->Prop} {K:Act->World->Prop}:∀ (n:Nat) (L:Array Bool) (s:St),PAny P C call base ops Ks n L s->∀ {φ:Env} {a:Act} {w:World},SR C.gl w0 Pr φ s a w ->
   (∀ t φ' a' w',Ks t->φ.le φ'->SR C.gl w0 Pr φ' t a' w'->K a' w')->wpAny P .any ops (fun e a w=>match e with | .normal=>K a w | _=>False) n L a w
 | 0,L,s,h,φ,a,w,hs,hK=>⟨h.1,hK s φ a w h.2 (Env.le_refl φ) hs⟩
 | n+1,L,s,h,φ,a,w,hs,hK=>by
   refine ⟨fun h0=>hK s φ a w (h.1 h0) (Env.le_refl φ) hs,fun i hi=>?_⟩
   obtain ⟨o,s',ho,hst,hn⟩:=h.2 i hi
   exact hst.sound hcall ho hs fun φ' a' w' hle hs'=>PAny.sound hcall n _ s' hn hs' fun t φ'' a'' w'' ht hle' h''=>hK t φ'' a'' w'' ht (Env.le_trans hle hle') h''
def ClosedL (ops:Array Oper) (L:Array Bool):Prop:=∀ j oj,ops[j]? =some oj->L.getD j false=true->∀ e∈oj.after,Region.binds .any e=true->L.getD e.on false=true
theorem ClosedL.set {ops:Array Oper} {L:Array Bool} (h:ClosedL ops L) {i:Nat} (hi:i∈Region.ready .any ops L):ClosedL ops (L.setIfInBounds i true):=by
 obtain ⟨_,oi,hoi,hall⟩:=mem_ready.1 hi
 intro j oj hj hl e he hb
 by_cases hij:i=j
 · subst hij
   have:oj=oi:=Option.some.inj (hj.symm.trans hoi)
   subst this
   exact getD_set_true (hall e he hb)
 · rw [getD_set_ne false hij] at hl
   exact getD_set_true (h j oj hj hl e he hb)
theorem dep_not {ops:Array Oper} {L:Array Bool} (hc:ClosedL ops L) {i:Nat} (hi:L.getD i false=false):∀ (n j:Nat),depB ops n j i=true->j∉Region.ready .any ops L/\L.getD j false=false
 | 0,j,h=>by simp [depB] at h
 | n+1,j,h=>by
   unfold depB at h
   split at h
   · rename_i oj hj
     obtain ⟨e,he,hb⟩:=Array.any_eq_true'.1 h
     simp only [Bool.and_eq_true,Bool.or_eq_true,beq_iff_eq] at hb
     have hon:L.getD e.on false=false:=by
       rcases hb.2 with c | c
       · rw [c]; exact hi
       · exact (dep_not hc hi n e.on c).2
     constructor
     · intro hr
       obtain ⟨_,oj',hoj',hall⟩:=mem_ready.1 hr
       rw [hj] at hoj'; cases hoj'
       have:=hall e he hb.1
       rw [hon] at this; cases this
     · cases hl:L.getD j false with
       | false=>rfl
       | true =>
         have:=hc j oj hj hl e he hb.1
         rw [hon] at this; cases this
   · cases h
theorem PAny.first {call:CallF} {base:Nat} {ops:Array Oper} {K:St->Prop} {i:Nat} {oi:Oper} {v:AV} (hi:ops[i]? =some oi) :
   ∀ (fuel:Nat) (listed:Array Bool) (s:St),ClosedL ops listed ->
     (∀ j oj,ops[j]? =some oj->j≠i->listed.getD j true=false->(∀ e∈oj.after,Region.binds .any e=true->e.on≠i)->oi.apart ops oj=true) ->
     (isRead oi.op=false∨∀ j oj,ops[j]? =some oj->j≠i->listed.getD j true=false->isGent oj.op=true∨∃ n,depB ops n j i=true) ->
     i∈Region.ready .any ops listed->mvV P C ops oi s=some v ->
     PAny P C call base ops K fuel (listed.setIfInBounds i true) (putA oi.dst v s.1,s.2)->PAny P C call base ops K (fuel+1) listed s:=by
 intro fuel
 induction fuel with
 | zero =>
   intro listed s _ _ _ hr hy H
   refine ⟨fun h=>(by rw [h] at hr; cases hr),fun j hj=>?_⟩
   by_cases hji:j=i
   · subst hji; exact ⟨oi,_,hi,.inr ⟨v,hy,rfl⟩,H⟩
   · have:=ready_mono hj hji
     rw [H.1] at this
     cases this
 | succ fuel ih =>
   intro listed s hcl hfree hgen hr hy H
   refine ⟨fun h=>(by rw [h] at hr; cases hr),fun j hj=>?_⟩
   by_cases hji:j=i
   · subst hji; exact ⟨oi,_,hi,.inr ⟨v,hy,rfl⟩,H⟩
   · obtain ⟨oj,s12,hoj,hst,H2⟩:=H.2 j (ready_mono hj hji)
     obtain ⟨hjun,oj',hoj',hall⟩:=mem_ready.1 hj
     rw [hoj] at hoj'; cases hoj'
     have h0:=(mem_ready.1 hr).1
     have hnot:∀ e∈oj.after,Region.binds .any e=true->e.on≠i:=fun e he hb heq=>by
       have h1:=hall e he hb
       rw [heq,getD_both h0] at h1
       cases h1
     have hap:=hfree j oj hoj hji hjun hnot
     obtain ⟨a1,a2,a3⟩:=Oper.apart_spec hap
     have hfree':∀ k ok,ops[k]? =some ok->k≠i->(listed.setIfInBounds j true).getD k true=false ->
         (∀ e∈ok.after,Region.binds .any e=true->e.on≠i)->oi.apart ops ok=true:=fun k ok hk hki hun hno=>by
       refine hfree k ok hk hki ?_ hno
       by_cases hjk:j=k
       · subst hjk; exact hjun
       · rw [getD_set_ne true hjk] at hun; exact hun
     have hgen':isRead oi.op=false∨∀ k ok,ops[k]? =some ok->k≠i->(listed.setIfInBounds j true).getD k true=false->isGent ok.op=true∨∃ n,depB ops n k i=true:=hgen.imp id fun hg k ok hk hki hun=>by
       refine hg k ok hk hki ?_
       by_cases hjk:j=k
       · subst hjk; exact hjun
       · rw [getD_set_ne true hjk] at hun; exact hun
     have key:∃ s2,Stp P C call base ops j oj s s2/\s12=(putA oi.dst v s2.1,s2.2)/\(∃ u,s2.1=putA oj.dst u s.1)/\(isGent oj.op=true->Ext s.2 s2.2):=by
       rcases hst with hst | ⟨u,hu,rfl⟩
       · obtain ⟨t,ht,e⟩:=stepA_put hoj a1 a2 hst
         refine ⟨(t,s12.2),.inl ht,Prod.ext e rfl,stepA_form hoj ht,fun hg=>stepA_ext hoj hg ht⟩
       · rw [mvV_put a1] at hu
         refine ⟨(putA oj.dst u s.1,s.2),.inr ⟨u,hu,rfl⟩,Prod.ext (putA_comm a2).symm rfl,⟨u,rfl⟩,fun _=>Ext.refl _⟩
     obtain ⟨s2,hs2,rfl,⟨u,hu⟩,hext⟩:=key
     refine ⟨oj,s2,hoj,hs2,ih (listed.setIfInBounds j true) s2 (hcl.set hj) hfree' hgen' (ready_mono hr (Ne.symm hji)) ?_ ?_⟩
     · have e1:mvV P C ops oi (s2.1,s.2)=some v:=by rw [hu,mvV_put a3]; exact hy
       rcases hgen with hq | hg
       · unfold mvV at e1 ⊢
         rw [hq] at e1 ⊢
         exact e1
       · have hgj:isGent oj.op=true:=by
           rcases hg j oj hoj hji hjun with c | ⟨n,c⟩
           · exact c
           · exact absurd hj (dep_not hcl (getD_both h0) n j c).1
         have hx:=hext hgj
         unfold mvV at e1 ⊢
         simp only at e1 ⊢
         split at e1
         · rename_i hw
           rw [if_pos hw]
           split at e1
           · rename_i hrd
             rw [if_pos hrd]
             exact read_ext hx hrd e1
           · rename_i hrd
             rw [if_neg hrd]
             exact e1
         · rename_i hw
           rw [if_neg hw]
           exact e1
     · rw [Array.setIfInBounds_comm _ _ hji]
       exact H2
theorem take_read {o:Op} (h:isTake o=true):isRead o=false:=by
 cases o <;> first | rfl | (simp [isTake] at h)
mutual
theorem plan_any {call:CallF} {base:Nat} {ops:Array Oper} {K:St->Prop}:∀ (p:Plan) (n:Nat) (L:Array Bool) (e:Nat × Array Bool) (s t:St),ends ops p n L=some e->ClosedL ops L ->
   runPlan P C call base ops p s=some t->(ClosedL ops e.2->PAny P C call base ops K e.1 e.2 t)->PAny P C call base ops K n L s
 | .done,n,L,e,s,t,he,hcl,h,hK=>by
   rw [ends_done] at he
   simp only [runPlan] at h
   cases he; cases h
   exact hK hcl
 | .take i p,n,L,e,s,t,he,hcl,h,hK=>by
   cases n with
   | zero=>rw [ends_take0] at he; cases he
   | succ n =>
     rw [ends_take] at he
     split at he
     case isFalse=>cases he
     rename_i hc
     simp only [Bool.and_eq_true,canTake] at hc
     obtain ⟨hmem,htk,hfree⟩:=hc
     simp only [runPlan] at h
     split at h
     · cases h
     · rename_i o ho
       simp only [Option.bind_eq_some_iff] at h
       obtain ⟨v,hv,h⟩:=h
       have hr:i∈Region.ready .any ops L:=by simpa using hmem
       rw [ho] at htk
       have hq:=take_read (o:=o.op) (by simpa using htk)
       refine PAny.first (v:=v) ho n L s hcl (Region.free_spec ho hfree) (.inl hq) hr ?_ (plan_any p n _ e _ t he (hcl.set hr) h hK)
       unfold mvV
       rw [hq]
       exact hv
 | .rd i p,n,L,e,s,t,he,hcl,h,hK=>by
   cases n with
   | zero=>rw [ends_rd0] at he; cases he
   | succ n =>
     rw [ends_rd] at he
     split at he
     case isFalse=>cases he
     rename_i hc
     simp only [Bool.and_eq_true,canRd] at hc
     obtain ⟨hmem,⟨hrd,hfree⟩,hall⟩:=hc
     simp only [runPlan] at h
     split at h
     · cases h
     · rename_i o ho
       simp only [Option.bind_eq_some_iff] at h
       obtain ⟨v,hv,h⟩:=h
       have hr:i∈Region.ready .any ops L:=by simpa using hmem
       rw [ho] at hrd
       have hrd':isRead o.op=true:=by simpa using hrd
       refine PAny.first (v:=v) ho n L s hcl (Region.free_spec ho hfree) (.inr fun j oj hj hne hun=>?_) hr ?_ (plan_any p n _ e _ t he (hcl.set hr) h hK)
       · have hjs:j < ops.size:=(Array.getElem?_eq_some_iff.1 hj).1
         have:=List.all_eq_true.1 hall j (List.mem_range.2 hjs)
         rw [hj,hun] at this
         simp only [Bool.or_eq_true,beq_iff_eq,Option.map_some,Option.getD_some,Bool.false_eq_true,or_false] at this
         rcases this with (c | c) | c
         · exact absurd c hne
         · exact .inl c
         · exact .inr ⟨_,c⟩
       · unfold mvV
         rw [hrd']
         exact hv
 | .all l,n,L,e,s,t,he,hcl,h,hK=>by
   cases n with
   | zero=>rw [ends_all0] at he; cases he
   | succ n =>
     rw [ends_all] at he
     split at he
     case isFalse=>cases he
     rename_i hc
     simp only [Bool.and_eq_true,beq_iff_eq] at hc
     simp only [runPlan] at h
     obtain ⟨hl,hne⟩:=hc
     refine ⟨fun h0=>?_,fun i hi=>?_⟩
     · rw [<-hl] at h0
       cases l with
       | nil=>simp at hne
       | cons x l=>simp at h0
     · have hi':=hi
       rw [<-hl] at hi
       exact alls_any l n L e s t none none he hcl h (fun _ e=>by cases e) (fun _ e=>by cases e) i hi hi' hK
 | .join p q,n,L,e,s,t,he,hcl,h,hK=>by
   rw [ends_join] at he
   simp only [runPlan,Option.bind_eq_some_iff] at h he
   obtain ⟨e1,he1,he2⟩:=he
   obtain ⟨t1,h1,h2⟩:=h
   exact plan_any p n L e1 s t1 he1 hcl h1 fun hc1=>plan_any q e1.1 e1.2 e t1 t he2 hc1 h2 hK
theorem alls_any {call:CallF} {base:Nat} {ops:Array Oper} {K:St->Prop}:∀ (l:List (Nat × Plan)) (n:Nat) (L:Array Bool) (e:Nat × Array Bool) (s t:St) (re:Option (Nat × Array Bool)) (r:Option St),
   endsL ops l n L re=some e->ClosedL ops L->runAll P C call base ops l s r=some t->(∀ e0,re=some e0->e0=e)->(∀ t0,r=some t0->t0=t)->∀ i,i∈l.map (·.1)->i∈Region.ready .any ops L->(ClosedL ops e.2->PAny P C call base ops K e.1 e.2 t) ->
   ∃ o s',ops[i]? =some o/\Stp P C call base ops i o s s'/\PAny P C call base ops K n (L.setIfInBounds i true) s'
 | [],n,L,e,s,t,re,r,he,hcl,h,hre,hr,i,hi,hi',hK=>by simp at hi
 | (j,p)::l,n,L,e,s,t,re,r,he,hcl,h,hre,hr,i,hi,hi',hK=>by
   rw [endsL_cons] at he
   simp only [runAll,Option.bind_eq_some_iff] at h he
   obtain ⟨e1,he1,he2⟩:=he
   obtain ⟨s',hs',t1,ht1,h⟩:=h
   have ee:e1=e/\∃ re',endsL ops l n L re'=some e/\∀ e0,re'=some e0->e0=e:=by
     cases re with
     | none =>
       simp only at he2
       have:=endsL_same ops l n L _ e he2
       have:=this e1 rfl
       subst this
       exact ⟨rfl,_,he2,fun e0 h=>(Option.some.inj h).symm⟩
     | some e0 =>
       simp only at he2
       split at he2
       · rename_i hb
         simp only [Bool.and_eq_true,beq_iff_eq] at hb
         have:=hre e0 rfl
         subst this
         exact ⟨(Prod.ext hb.1 hb.2).symm,_,he2,fun e1 h=>(Option.some.inj h).symm⟩
       · cases he2
   have tt:t1=t/\∃ r',runAll P C call base ops l s r'=some t/\∀ t0,r'=some t0->t0=t:=by
     cases r with
     | none =>
       simp only at h
       have:=(runAll_spec l s t (some t1) h).1 t1 rfl
       subst this
       exact ⟨rfl,_,h,fun t0 h=>(Option.some.inj h).symm⟩
     | some t0 =>
       simp only at h
       split at h
       · rename_i hb
         have e2:=stBeq_eq hb
         have:=hr t0 rfl
         subst this
         exact ⟨e2.symm,_,h,fun t1 h=>(Option.some.inj h).symm⟩
       · cases h
   obtain ⟨rfl,re',he3,hre'⟩:=ee
   obtain ⟨rfl,r',h3,hr'⟩:=tt
   simp only [List.map_cons,List.mem_cons] at hi
   by_cases hij:i=j
   · subst hij
     obtain ⟨_,o,ho,_⟩:=mem_ready.1 hi'
     exact ⟨o,s',ho,.inl hs',plan_any p n _ e1 s' t1 he1 (hcl.set hi') ht1 hK⟩
   · exact alls_any l n L e1 s t1 re' r' he3 hcl h3 hre' hr' i (hi.resolve_left hij) hi' hK
end
theorem closed_none (ops:Array Oper) (n:Nat):ClosedL ops (Array.replicate n false):=fun j oj _ h=>by
 rw [getD_replicate_false] at h; cases h
theorem runPlan_sound {call:CallF} (hcall:CallOk P C.gl w0 Pr call) {base:Nat} {ops:Array Oper} (hns:Region.noSelect ops=true) {K:Act->World->Prop} {p:Plan} (hp:planOk ops p=true) {s t:St}
   (h:runPlan P C call base ops p s=some t) {φ:Env} {a:Act} {w:World} (hs:SR C.gl w0 Pr φ s a w) (hK:∀ φ' a' w',φ.le φ'->SR C.gl w0 Pr φ' t a' w'->K a' w') :
   wpAny P .any ops (fun e a w=>match e with | .normal=>K a w | _=>False) ops.size (Array.replicate ops.size false) a w:=by
 unfold planOk at hp
 split at hp
 · rename_i n L he
   refine PAny.sound (C:=C) (Ks:=fun t'=>t'=t) hcall _ _ s (plan_any p _ _ _ s t he (closed_none ops _) h fun _=>?_) hs fun t' φ' a' w' ht hle hs'=>by subst ht; exact hK φ' a' w' hle hs'
   cases n with
   | zero=>exact ⟨by simpa using hp,rfl⟩
   | succ n=>exact ⟨fun _=>rfl,by rw [show Region.ready .any ops L=[] by simpa using hp]; simp⟩
 · cases hp
theorem WR.reserve {φ:Env} {H:AH} {w:World} (h:WR w0 Pr φ H w) (n:Nat):WR w0 Pr φ (H++List.replicate n .fresh) w:=by
 have hg:∀ {j:Nat} {o:AObj},(H++List.replicate n .fresh)[j]? =some o->o=.fresh/\H.length<=j∨H[j]? =some o:=fun {j o} hj=>by
   rcases Nat.lt_or_ge j H.length with hl | hl
   · rw [List.getElem?_append_left hl] at hj; exact .inr hj
   · rw [List.getElem?_append_right hl,List.getElem?_replicate] at hj
     split at hj
     · cases hj; exact .inl ⟨rfl,hl⟩
     · cases hj
 have hO:∀ {j:Nat},Owned (H++List.replicate n .fresh) j->Owned H j:=fun {j} ⟨o,ho,hw⟩=>by
   rcases hg ho with ⟨rfl,_⟩ | ho
   · cases hw
   · exact ⟨o,ho,hw⟩
 refine ⟨fun j hj=>h.dom j (by simp at hj; omega),fun j hj=>?_,h.lt,fun i j x y hi hj=>h.inj i j x y (hO hi) (hO hj),fun i x hi=>h.own i x (hO hi),fun i x cs hi hx=>?_,fun i o hi=>?_,h.prLt,h.size,h.os,h.tape,h.output,h.old⟩
 · rcases hg hj with ⟨_,hl⟩ | hj
   · exact h.dom j hl
   · exact h.fresh j hj
 · rcases hg hi with ⟨e,_⟩ | hi
   · cases e
   · exact h.argP i x cs hi hx
 · rcases hg hi with ⟨rfl,_⟩ | hi
   · trivial
   · exact h.obj i o hi
theorem readsA_sound {ops:Array Oper} {w:World} {Q:Act->Prop}:∀ (os:List Oper) (s s':St),readsA P C.gl ops os s=some s'->∀ {φ:Env} {a:Act},SR C.gl w0 Pr φ s a w ->
   (∀ a',SR C.gl w0 Pr φ s' a' w->Q a')->wpStill P ops w Q os a
 | [],s,s',h,φ,a,hs,hQ=>by cases h; exact hQ a hs
 | o::os,s,s',h,φ,a,hs,hQ=>by
   simp only [readsA] at h
   rw [<-yieldedA_spec ops hs.tm] at h
   simp only [wpStill]
   split at h
   · rename_i hw
     rw [if_pos hw]
     simp only [Option.bind_eq_some_iff] at h
     obtain ⟨v,hv,h⟩:=h
     obtain ⟨u,ru,hu⟩:=readA_spec (P:=P) hs.wr (fun x v hx=>evalA_spec hs.gi hs.tm x v hx) hv
     unfold Oper.still
     rw [hu,Oper.stillUpon_value]
     exact readsA_sound os _ s' h ⟨hs.wr,putA_spec hs.tm o.dst ru,by rw [put_defers]; exact hs.df,hs.gi⟩ hQ
   · rename_i hw
     rw [if_neg hw]
     exact readsA_sound os _ s' h ⟨hs.wr,putA_spec hs.tm o.dst ⟨#[],rfl,rfl⟩,by rw [put_defers]; exact hs.df,hs.gi⟩ hQ
def calmV (P:Program) (C:Cfg P) (call:CallF) (ops:Array Oper) (o:Oper) (H:AH) (tm:List AV):Option AV:=
 if Region.wanted o (yieldedA ops tm) then calmA P C call (evalA C.gl tm) o H else some uA
theorem calmV_put {call:CallF} {ops:Array Oper} {o:Oper} {H:AH} {tm:List AV} {dst:Option Tmp} {u:AV} (h:∀ d,dst=some d->d∉o.looksAt ops):calmV P C call ops o H (putA dst u tm)=calmV P C call ops o H tm:=by
 cases dst with
 | none=>rfl
 | some d =>
   have hd:=h d rfl
   have hw:Region.wanted o (yieldedA ops (tm.set d u))=Region.wanted o (yieldedA ops tm):=by
     unfold Region.wanted
     cases hg:o.guard with
     | none=>rfl
     | some g =>
       obtain ⟨g,b⟩:=g
       simp only
       have:yieldedA ops (tm.set d u) g=yieldedA ops tm g:=by
         unfold yieldedA
         cases hx:(ops[g]?).bind (·.dst) with
         | none=>rfl
         | some e =>
           have hne:e≠d:=fun c=>hd (by
             subst c
             unfold Oper.looksAt
             rw [hg]
             refine List.mem_append_right _ ?_
             simp only [hx,Option.toList_some,List.mem_singleton])
           simp only [Option.bind_some]
           rw [List.getElem?_set_ne (Ne.symm hne)]
       rw [this]
   show calmV P C call ops o H (tm.set d u)=_
   unfold calmV
   rw [hw]
   split
   · refine calmA_congr fun x hx=>evalA_set fun e=>hd ?_
     subst e
     unfold Oper.looksAt
     exact List.mem_append_left _ (List.mem_filterMap.2 ⟨.tmp d,by simpa using hx,rfl⟩)
   · rfl
def AllO (ops:Array Oper) (st:Oper->List AV->Option AV) (t:List AV):Nat->Array Bool->List AV->Prop
 | 0,L,tm=>Region.ready .any ops L=[]/\tm=t
 | n+1,L,tm=>(Region.ready .any ops L=[]->tm=t)/\∀ i∈Region.ready .any ops L,∃ o v,ops[i]? =some o/\st o tm=some v/\AllO ops st t n (L.setIfInBounds i true) (putA o.dst v tm)
theorem allO_first {ops:Array Oper} {st:Oper->List AV->Option AV} (hst:∀ o tm dst u,(∀ d,dst=some d->d∉o.looksAt ops)->st o (putA dst u tm)=st o tm) {t:List AV} {i:Nat} {oi:Oper} {v:AV} (hi:ops[i]? =some oi) :
   ∀ (fuel:Nat) (listed:Array Bool) (tm:List AV),
     (∀ j oj,ops[j]? =some oj->j≠i->listed.getD j true=false->(∀ e∈oj.after,Region.binds .any e=true->e.on≠i)->oi.apart ops oj=true) ->
     i∈Region.ready .any ops listed->st oi tm=some v ->
     AllO ops st t fuel (listed.setIfInBounds i true) (putA oi.dst v tm)->AllO ops st t (fuel+1) listed tm:=by
 intro fuel
 induction fuel with
 | zero =>
   intro listed tm _ hr hy H
   refine ⟨fun h=>(by rw [h] at hr; cases hr),fun j hj=>?_⟩
   by_cases hji:j=i
   · subst hji; exact ⟨oi,v,hi,hy,H⟩
   · have:=ready_mono hj hji
     rw [H.1] at this
     cases this
 | succ fuel ih =>
   intro listed tm hfree hr hy H
   refine ⟨fun h=>(by rw [h] at hr; cases hr),fun j hj=>?_⟩
   by_cases hji:j=i
   · subst hji; exact ⟨oi,v,hi,hy,H⟩
   · obtain ⟨oj,u,hoj,hu,H2⟩:=H.2 j (ready_mono hj hji)
     obtain ⟨hjun,oj',hoj',hall⟩:=mem_ready.1 hj
     rw [hoj] at hoj'; cases hoj'
     have hnot:∀ e∈oj.after,Region.binds .any e=true->e.on≠i:=fun e he hb heq=>by
       have h1:=hall e he hb
       have h0:=(mem_ready.1 hr).1
       rw [heq] at h1
       rcases Nat.lt_or_ge i listed.size with h' | h'
       · simp [h'] at h0 h1; rw [h0] at h1; cases h1
       · simp [Array.getElem?_eq_none h'] at h1
     have hap:=hfree j oj hoj hji hjun hnot
     obtain ⟨a1,a2,a3⟩:=Oper.apart_spec hap
     have hfree':∀ k ok,ops[k]? =some ok->k≠i->(listed.setIfInBounds j true).getD k true=false ->
         (∀ e∈ok.after,Region.binds .any e=true->e.on≠i)->oi.apart ops ok=true:=fun k ok hk hki hun hno=>by
       refine hfree k ok hk hki ?_ hno
       by_cases hjk:j=k
       · subst hjk; exact hjun
       · rw [getD_set_ne true hjk] at hun; exact hun
     rw [hst oj tm oi.dst v a1] at hu
     refine ⟨oj,u,hoj,hu,ih (listed.setIfInBounds j true) (putA oj.dst u tm) hfree' (ready_mono hr (Ne.symm hji)) (by rw [hst oi tm oj.dst u a3]; exact hy) ?_⟩
     rw [Array.setIfInBounds_comm _ _ hji,putA_comm a2]
     exact H2
theorem allO_lex {call:CallF} {ops:Array Oper} {H:AH} {t:List AV}:∀ (l:List Oper) (k:Nat) (listed:Array Bool) (tm:List AV),(∀ j,l[j]? =ops[k+j]?) ->
   Region.lexFrom .any ops l.length k listed=true->calmsA P C call ops l (tm,H)=some (t,H)->AllO ops (fun o tm=>calmV P C call ops o H tm) t l.length listed tm
 | [],_,_,tm,_,hB,h=>by
   cases h
   exact ⟨by simpa [Region.lexFrom] using hB,rfl⟩
 | o::l,k,listed,tm,hl,hB,h=>by
   have h0:ops[k]? =some o:=by simpa using (hl 0).symm
   simp only [List.length_cons,Region.lexFrom,Bool.and_eq_true] at hB
   obtain ⟨⟨hr,hf⟩,hB'⟩:=hB
   have:∃ v,calmV P C call ops o H tm=some v/\calmsA P C call ops l (putA o.dst v tm,H)=some (t,H):=by
     simp only [calmsA] at h
     unfold calmV
     split at h
     · rename_i hw
       obtain ⟨v,hv,h⟩:=Option.bind_eq_some_iff.1 h
       exact ⟨v,by rw [if_pos hw]; exact hv,h⟩
     · rename_i hw
       exact ⟨uA,by rw [if_neg hw],h⟩
   obtain ⟨v,hv,h⟩:=this
   exact allO_first (fun o tm dst u hd=>calmV_put hd) h0 l.length listed tm (Region.free_spec h0 hf) (by simpa using hr) hv
     (allO_lex l (k+1) _ _ (fun j=>by have:=hl (j+1); simpa [Nat.add_assoc,Nat.add_comm 1 j] using this) hB' h)
theorem calmsA_heap {call:CallF} {ops:Array Oper}:∀ (l:List Oper) (s s':St),calmsA P C call ops l s=some s'->s'.2=s.2
 | [],s,s',h=>by cases h; rfl
 | o::l,s,s',h=>by
   simp only [calmsA] at h
   split at h
   · obtain ⟨v,_,h⟩:=Option.bind_eq_some_iff.1 h
     have:=calmsA_heap l (putA o.dst v s.1,s.2) s' h
     exact this
   · have:=calmsA_heap l (putA o.dst uA s.1,s.2) s' h
     exact this
theorem calmV_sound {call:CallF} (hcall:CallOk P C.gl w0 Pr call) (hrd:∀ f args H v H',C.reads f=true->call f args H=some (v,H')->H'=H) {ops:Array Oper} {i:Nat} {o:Oper} (hi:ops[i]? =some o) {tm:List AV} {H:AH} {v:AV}
   (h:calmV P C call ops o H tm=some v) {φ:Env} {a:Act} {w:World} (hs:SR C.gl w0 Pr φ (tm,H) a w)
   {Q:Exit->Act->World->Prop} {K:Act->World->Prop} (hK:∀ φ' a' w',φ.le φ'->SR C.gl w0 Pr φ' (putA o.dst v tm,H) a' w'->K a' w'):wpOp P ops Q i K a w:=by
 unfold calmV at h
 unfold wpOp
 simp only [hi]
 rw [yieldedA_spec ops hs.tm]
 split at h
 · rename_i hw
   rw [if_pos hw]
   left
   have hread:readA P (evalA C.gl tm) o H=some v->o.wp P a w K Q:=fun h=>by
     obtain ⟨u,ru,hu⟩:=readA_spec (P:=P) hs.wr (fun x v hx=>evalA_spec hs.gi hs.tm x v hx) h
     unfold Oper.wp
     rw [hu]
     exact hK φ _ w (Env.le_refl φ) ⟨hs.wr,putA_spec hs.tm o.dst ru,by rw [put_defers]; exact hs.df,hs.gi⟩
   unfold calmA at h
   split at h
   · rename_i c hop
     split at h
     · exact hread h
     · rename_i hb
       obtain ⟨⟨n,H1⟩,hc,h⟩:=Option.bind_eq_some_iff.1 h
       split at h
       · rename_i f args H1' heq
         cases heq
         split at h
         · rename_i hrf
           obtain ⟨⟨v',H2⟩,hcl,rfl⟩:=Option.map_eq_some_iff.1 h
           have e1:=callA_same (fun b e=>hb b e) hc
           have e2:=hrd f args _ v' H2 hrf hcl
           rw [e2] at hcl
           rw [e1] at hc
           have ha:aop P C none (evalA C.gl tm) o H=some (.enter f args,H):=by
             obtain ⟨dst,op,ty,pos,after,guard⟩:=o
             simp only at hop
             subst hop
             exact hc
           obtain ⟨φ',w',hle,hW,us,hrun,r⟩:=aop_spec (C:=C) hs.wr (fun x v hx=>evalA_spec hs.gi hs.tm x v hx) ha
           unfold Oper.wp
           rw [hrun]
           refine (hcall f args H v' H hcl φ' w' us (hs.gi.mono hle) hW r).mono ?_
           rintro e w'' ⟨φ'',u,hle',rfl,ru,hW'⟩
           exact hK φ'' _ w'' (Env.le_trans hle hle') ⟨hW',putA_spec (hs.tm.mono (Env.le_trans hle hle')) o.dst ru,by rw [put_defers]; exact hs.df,hs.gi.mono (Env.le_trans hle hle')⟩
         · cases h
       · cases h
   · exact hread h
 · rename_i hw
   cases h
   rw [if_neg hw]
   exact hK φ _ w (Env.le_refl φ) ⟨hs.wr,putA_spec hs.tm o.dst ⟨#[],rfl,rfl⟩,by rw [put_defers]; exact hs.df,hs.gi⟩
theorem allO_sound {call:CallF} (hcall:CallOk P C.gl w0 Pr call) (hrd:∀ f args H v H',C.reads f=true->call f args H=some (v,H')->H'=H) {ops:Array Oper} {H:AH} {t:List AV} {K:Act->World->Prop}:∀ (n:Nat) (L:Array Bool) (tm:List AV),AllO ops (fun o tm=>calmV P C call ops o H tm) t n L tm ->
   ∀ {φ:Env} {a:Act} {w:World},SR C.gl w0 Pr φ (tm,H) a w->(∀ φ' a' w',φ.le φ'->SR C.gl w0 Pr φ' (t,H) a' w'->K a' w') ->
   wpAny P .any ops (fun e a w=>match e with | .normal=>K a w | _=>False) n L a w
 | 0,L,tm,h,φ,a,w,hs,hK=>by
   obtain ⟨h1,rfl⟩:=h
   exact ⟨h1,hK φ a w (Env.le_refl φ) hs⟩
 | n+1,L,tm,h,φ,a,w,hs,hK=>by
   refine ⟨fun h0=>?_,fun i hi=>?_⟩
   · obtain rfl:=h.1 h0
     exact hK φ a w (Env.le_refl φ) hs
   · obtain ⟨o,v,ho,hv,hn⟩:=h.2 i hi
     exact calmV_sound hcall hrd ho hv hs fun φ' a' w' hle hs'=>allO_sound hcall hrd n _ _ hn hs' fun φ'' a'' w'' hle' h''=>hK φ'' a'' w'' (Env.le_trans hle hle') h''
def AExit.conc:AExit->Exit
 | .normal=>.normal
 | .exit id=>.exit id
 | .ret=>.ret
theorem evC_sound {call:CallF} (hcall:CallOk P C.gl w0 Pr call) (hrd:∀ f args H v H',C.reads f=true->call f args H=some (v,H')->H'=H) (pl:Nat->Option Way) (n:Nat):∀ (c:Code) (_:waysOk pl c=true/\waysSure P pl c) (s:St) (ex:AExit) (s':St),evC P C call pl n c s=some (ex,s')->∀ {φ:Env} {a:Act} {w:World},SR C.gl w0 Pr φ s a w ->
   ∀ {Q:Exit->Act->World->Prop},(∀ φ' a' w',φ.le φ'->SR C.gl w0 Pr φ' s' a' w'->Q ex.conc a' w')->c.wp P Q a w
 | .skip,hpl,s,ex,s',h,φ,a,w,hs,Q,hQ=>by
   simp only [evC,Option.some.injEq,Prod.mk.injEq] at h; obtain ⟨rfl,rfl⟩:=h
   exact wp_skip (hQ φ a w (Env.le_refl φ) hs)
 | .region id ops false,hpl,s,ex,s',h,φ,a,w,hs,Q,hQ=>by
   simp only [evC,Option.map_eq_some_iff,Prod.mk.injEq] at h; obtain ⟨s1,h1,rfl,rfl⟩:=h
   exact wp_region (runOps_sound hcall _ s s1 h1 hs hQ)
 | .region id ⟨l⟩ true,hpl,s,ex,s',h,φ,a,w,hs,Q,hQ=>by
   simp only [evC] at h
   obtain ⟨hpl,hsu⟩:=hpl
   simp only [waysOk] at hpl
   simp only [waysSure] at hsu
   split at h
   · rename_i p hp
     rw [hp] at hpl
     simp only [wayOk,Bool.and_eq_true] at hpl
     simp only [Option.map_eq_some_iff,Prod.mk.injEq] at h; obtain ⟨s1,h1,rfl,rfl⟩:=h
     have hs1:SR C.gl w0 Pr φ (s.1,if (Array.mk l).any (allocates ·.op) then s.2++List.replicate (Array.mk l).size .fresh else s.2) a { w with drawn:=w.drawn+1 }:=by
       refine ⟨?_,hs.tm,hs.df,hs.gi⟩
       simp only
       split
       · exact (hs.wr.drew _).reserve _
       · exact hs.wr.drew _
     refine wp_mono (wp_region_any C.mixed (runPlan_sound (C:=C) (K:=fun a w=>Q .normal a w) hcall hpl.1 hpl.2 h1 hs1 hQ)) fun e a w he=>?_
     cases e <;> first | exact he | exact he.elim
   · rename_i hp
     rw [hp] at hpl
     simp only [wayOk] at hpl
     simp only [Option.map_eq_some_iff,Prod.mk.injEq] at h; obtain ⟨s1,h1,rfl,rfl⟩:=h
     refine wp_region_still C.mixed hpl ?_
     exact readsA_sound (C:=C) (w:={ w with drawn:=w.drawn+1 }) l s s1 h1 ⟨hs.wr.drew _,hs.tm,hs.df,hs.gi⟩ fun a' hs'=>hQ φ a' _ (Env.le_refl φ) hs'
   · rename_i k hp
     rw [hp] at hpl
     simp only [wayOk] at hpl
     simp only [Option.bind_eq_some_iff,Option.map_eq_some_iff,Prod.mk.injEq] at h
     obtain ⟨s1,h1,s2,h2,rfl,rfl⟩:=h
     refine wp_region_still_tail (l:=l) k C.mixed hpl ?_
     refine readsA_sound (C:=C) (w:={ w with drawn:=w.drawn+1 }) (l.take k) s s1 h1 ⟨hs.wr.drew _,hs.tm,hs.df,hs.gi⟩ fun a' hs'=>?_
     rw [<-wpOps_eq_wpList (l.drop k) k (fun j=>by simp [List.getElem?_drop])]
     exact runOps_sound hcall _ s1 s2 h2 hs' hQ
   · rename_i p k hp
     rw [hp] at hpl
     simp only [wayOk,Bool.false_eq_true] at hpl
   · rename_i p kl hp
     rw [hp] at hpl hsu
     simp only [wayOk,Bool.and_eq_true] at hpl
     simp only [waySure] at hsu
     simp only [Option.map_eq_some_iff,Prod.mk.injEq] at h; obtain ⟨e,he,rfl,rfl⟩:=h
     have hm:=List.mem_of_find?_eq_some he
     have hb:=List.find?_some he
     have hb:=stBeq_eq hb
     subst hb
     have h1:=hsu e hm C call
     have hs1:SR C.gl w0 Pr φ (e.1.1,if (Array.mk l).any (allocates ·.op) then e.1.2++List.replicate (Array.mk l).size .fresh else e.1.2) a { w with drawn:=w.drawn+1 }:=by
       refine ⟨?_,hs.tm,hs.df,hs.gi⟩
       simp only
       split
       · exact (hs.wr.drew _).reserve _
       · exact hs.wr.drew _
     refine wp_mono (wp_region_any C.mixed (runPlan_sound (C:=C) (K:=fun a w=>Q .normal a w) hcall hpl.1 hpl.2 h1 hs1 hQ)) fun e a w he=>?_
     cases e <;> first | exact he | exact he.elim
   · rename_i hp
     rw [hp] at hpl
     simp only [wayOk,Region.lexB,Bool.and_eq_true] at hpl
     simp only [Option.map_eq_some_iff,Prod.mk.injEq] at h; obtain ⟨s1,h1,rfl,rfl⟩:=h
     obtain ⟨tm,H⟩:=s
     obtain ⟨t,H'⟩:=s1
     obtain rfl:H'=H:=calmsA_heap _ _ _ h1
     have hs1:SR C.gl w0 Pr φ (tm,H') a { w with drawn:=w.drawn+1 }:=⟨hs.wr.drew _,hs.tm,hs.df,hs.gi⟩
     have hall:=allO_lex (P:=P) (C:=C) (call:=call) (ops:=Array.mk l) (H:=H') (t:=t) l 0 (Array.replicate l.length false) tm (by simp) (by simpa using hpl.2) h1
     refine wp_mono (wp_region_any C.mixed (allO_sound (C:=C) (K:=fun a w=>Q .normal a w) hcall hrd _ _ tm (by simpa using hall) hs1 hQ)) fun e a w he=>?_
     cases e <;> first | exact he | exact he.elim
   · cases h
 | .seq x y,hpl,s,ex,s',h,φ,a,w,hs,Q,hQ=>by
   simp only [evC] at h
   simp only [waysOk,waysSure,Bool.and_eq_true] at hpl
   refine wp_seq ?_
   split at h
   · rename_i s1 h1
     exact evC_sound hcall hrd pl n x ⟨hpl.1.1,hpl.2.1⟩ s .normal s1 h1 hs fun φ' a' w' hle hs'=>evC_sound hcall hrd pl n y ⟨hpl.1.2,hpl.2.2⟩ s1 ex s' h hs' fun φ'' a'' w'' hle' hs''=>hQ φ'' a'' w'' (Env.le_trans hle hle') hs''
   · rename_i r hne
     refine evC_sound hcall hrd pl n x ⟨hpl.1.1,hpl.2.1⟩ s ex s' h hs fun φ' a' w' hle hs'=>?_
     have:=hQ φ' a' w' hle hs'
     cases ex with
     | normal=>exact absurd h (hne s')
     | exit id=>exact this
     | ret=>exact this
 | .cond c x y,hpl,s,ex,s',h,φ,a,w,hs,Q,hQ=>by
   simp only [evC] at h
   simp only [waysOk,waysSure,Bool.and_eq_true] at hpl
   split at h
   · rename_i hc
     exact wp_cond_true (evalA_spec hs.gi hs.tm c _ hc) (evC_sound hcall hrd pl n x ⟨hpl.1.1,hpl.2.1⟩ s ex s' h hs hQ)
   · rename_i hc
     exact wp_cond_false (evalA_spec hs.gi hs.tm c _ hc) (evC_sound hcall hrd pl n y ⟨hpl.1.2,hpl.2.2⟩ s ex s' h hs hQ)
   · cases h
 | .block id body,hpl,s,ex,s',h,φ,a,w,hs,Q,hQ=>by
   simp only [evC] at h
   simp only [waysOk,waysSure] at hpl
   refine wp_block ?_
   split at h
   · rename_i id' s1 h1
     refine evC_sound hcall hrd pl n body hpl s (.exit id') s1 h1 hs fun φ' a' w' hle hs'=>?_
     simp only [AExit.conc,Exit.inBlock]
     split at h
     · rename_i he
       cases h; rw [if_pos he]; exact hQ φ' a' w' hle hs'
     · rename_i he
       cases h; rw [if_neg he]; exact hQ φ' a' w' hle hs'
   · rename_i r hne
     refine evC_sound hcall hrd pl n body hpl s ex s' h hs fun φ' a' w' hle hs'=>?_
     have:=hQ φ' a' w' hle hs'
     cases ex with
     | normal=>exact this
     | exit id'=>exact absurd h (hne id' s')
     | ret=>exact this
 | .loop body,hpl,s,ex,s',h,φ,a,w,hs,Q,hQ=>by
   simp only [evC] at h
   simp only [waysOk,waysSure] at hpl
   refine wp_loop_rounds n ?_
   exact loop_go (fun s ex s' h φ a w hs Q hQ=>evC_sound hcall hrd pl n body hpl s ex s' h hs hQ) n s ex s' h φ a w hs Q hQ
 | .exit id,hpl,s,ex,s',h,φ,a,w,hs,Q,hQ=>by
   simp only [evC,Option.some.injEq,Prod.mk.injEq] at h; obtain ⟨rfl,rfl⟩:=h
   exact wp_exit (hQ φ a w (Env.le_refl φ) hs)
 | .ret,hpl,s,ex,s',h,φ,a,w,hs,Q,hQ=>by
   simp only [evC,Option.some.injEq,Prod.mk.injEq] at h; obtain ⟨rfl,rfl⟩:=h
   exact wp_ret (hQ φ a w (Env.le_refl φ) hs)
 | .rangeFunc ..,hpl,s,ex,s',h,φ,a,w,hs,Q,hQ=>by simp [evC] at h
 | .scope _,hpl,s,ex,s',h,φ,a,w,hs,Q,hQ=>by simp [evC] at h
 | .label _,hpl,s,ex,s',h,φ,a,w,hs,Q,hQ=>by simp [evC] at h
 | .goto _,hpl,s,ex,s',h,φ,a,w,hs,Q,hQ=>by simp [evC] at h
 | .refuse _,hpl,s,ex,s',h,φ,a,w,hs,Q,hQ=>by simp [evC] at h
where
 loop_go {f:St->Option (AExit × St)} {body:Code} (hf:∀ (s:St) (ex:AExit) (s':St),f s=some (ex,s')->∀ (φ:Env) (a:Act) (w:World),SR C.gl w0 Pr φ s a w ->
     ∀ (Q:Exit->Act->World->Prop),(∀ φ' a' w',φ.le φ'->SR C.gl w0 Pr φ' s' a' w'->Q ex.conc a' w')->body.wp P Q a w):∀ (m:Nat) (s:St) (ex:AExit) (s':St),loopA f m s=some (ex,s') ->
     ∀ (φ:Env) (a:Act) (w:World),SR C.gl w0 Pr φ s a w->∀ (Q:Exit->Act->World->Prop),(∀ φ' a' w',φ.le φ'->SR C.gl w0 Pr φ' s' a' w'->Q ex.conc a' w')->Code.rounds P body Q m a w
   | 0,s,ex,s',h,φ,a,w,hs,Q,hQ=>by simp [loopA] at h
   | m+1,s,ex,s',h,φ,a,w,hs,Q,hQ=>by
     simp only [loopA] at h
     rw [rounds_succ]
     split at h
     · rename_i s1 h1
       exact hf s .normal s1 h1 φ a w hs _ fun φ' a' w' hle hs'=>loop_go hf m s1 ex s' h φ' a' w' hs' Q fun φ'' a'' w'' hle' hs''=>hQ φ'' a'' w'' (Env.le_trans hle hle') hs''
     · rename_i r hne
       refine hf s ex s' h φ a w hs _ fun φ' a' w' hle hs'=>?_
       have:=hQ φ' a' w' hle hs'
       cases ex with
       | normal=>exact absurd h (hne s')
       | exit id=>exact this
       | ret=>exact this
def resM (tmps:Array Value):ResultVar->Sem Value
 | .tmp t=>pure (tmps.getD t undef)
 | .cell x t=>do loadVar t (<-asAddr (tmps.getD x undef))
theorem results_eq (fn:Func) (tmps:Array Value):results fn tmps=(do let vs <-fn.results.mapM (resM tmps); pure (if h:vs.size=1 then vs[0] else .tuple vs)):=by
 rfl
theorem resultsA_spec {φ:Env} {H:AH} {w:World} {tm:List AV} {a:Act} (hW:WR w0 Pr φ H w) (ht:VRs φ tm a.tmps.toList):∀ (rs:List ResultVar) (vs:List AV),resultsA P tm H rs=some vs ->
   ∃ us:List Value,(rs.mapM (resM a.tmps)).run P w=.ok us w/\VRs φ vs us
 | [],vs,h=>by cases h; exact ⟨[],rfl,rfl⟩
 | .tmp t::rs,vs,h=>by
   simp only [resultsA,Option.map_eq_some_iff] at h
   obtain ⟨vs',h',rfl⟩:=h
   obtain ⟨us,hu,ru⟩:=resultsA_spec hW ht rs vs' h'
   refine ⟨a.tmps.getD t undef::us,?_,.cons (evalA_spec (gl:=fun _=>none) (fun _ _ h=>by cases h) ht (.tmp t) _ rfl) ru⟩
   simp only [List.mapM_cons,resM,Sem.run_bind,Sem.run_pure,Result.andThen_ok,hu]
 | .cell x t::rs,vs,h=>by
   simp only [resultsA] at h
   split at h
   · rename_i i k hx
     simp only [Option.bind_eq_some_iff,Option.map_eq_some_iff] at h
     obtain ⟨v,hv,vs',h',rfl⟩:=h
     obtain ⟨us,hu,ru⟩:=resultsA_spec hW ht rs vs' h'
     have:=evalA_spec (gl:=fun _=>none) (fun _ _ h=>by cases h) ht (.tmp x) (.ptr i k) (by simp only [evalA,hx])
     obtain ⟨b,o,z,hφ,hval⟩:=this
     obtain ⟨y,hy,ry⟩:=ldA_spec (P:=P) hW hφ hv
     refine ⟨y::us,?_,.cons ry ru⟩
     have hval':a.tmps.getD x undef=.pointer (some ⟨b,o+k,none⟩):=hval
     simp only [List.mapM_cons,resM,Sem.run_bind,hval',asAddr,Sem.run_pure,Result.andThen_ok,hy,hu]
   · cases h
theorem retA_spec {φ:Env} {s:St} {a:Act} {w:World} {fn:Func} {v:AV} {H':AH} (hs:SR C.gl w0 Pr φ s a w) (h:retA P fn s=some (v,H')) :
   H'=s.2/\∃ u,(results fn a.tmps).run P w=.ok u w/\VR φ v u:=by
 simp only [retA,Option.map_eq_some_iff,Prod.mk.injEq] at h
 obtain ⟨vs,hvs,hv,rfl⟩:=h
 obtain ⟨us,hu,ru⟩:=resultsA_spec (P:=P) hs.wr hs.tm fn.results.toList vs hvs
 refine ⟨rfl,?_⟩
 have hrun:(results fn a.tmps).run P w=.ok (if h:us.toArray.size=1 then us.toArray[0] else .tuple us.toArray) w:=by
   rw [results_eq]
   simp only [Array.mapM_eq_mapM_toList,Sem.run_bind,Sem.run_map,hu,Result.andThen_ok,Sem.run_pure]
 refine ⟨_,hrun,?_⟩
 match vs,us,ru,hv with
 | [],[],_,hv=>subst hv; exact ⟨#[],rfl,rfl⟩
 | [x],[u],⟨u',us',e,r,_⟩,hv=>subst hv; cases e; exact r
 | x::y::vs,[],⟨_,_,e,_⟩,_=>cases e
 | x::y::vs,[u],⟨_,_,e,_,⟨_,_,e',_⟩⟩,_=>cases e; cases e'
 | x::y::vs,u::u'::us,r,hv =>
   subst hv
   exact ⟨(u::u'::us).toArray,by simp,by simpa using r⟩
theorem evCall_ro (W:Ways P):∀ (n:Nat) f args H v H',C.reads f=true->evCall P C W n f args H=some (v,H')->H'=H
 | 0,_,_,_,_,_,_,h=>by simp [evCall] at h
 | n+1,f,args,H,v,H',hr,h=>by
   simp only [evCall] at h
   split at h
   · rename_i r h0
     cases h
     exact C.orcRo f args H v H' hr h0
   · simp only [Option.bind_eq_some_iff] at h
     obtain ⟨fn,_,c,_,h⟩:=h
     rw [hr] at h
     split at h
     · obtain ⟨r,_,h⟩:=Option.bind_eq_some_iff.1 h
       exact finA_same h
     · obtain ⟨r,_,h⟩:=Option.bind_eq_some_iff.1 h
       exact finA_same h
     · cases h
theorem evCall_sound (W:Ways P):∀ (n:Nat) {w0:World} {Pr:Nat->Prop},C.pin w0 Pr->CallOk P C.gl w0 Pr (evCall P C W n)
 | 0,_,_,_=>fun f args H v H' h=>by simp [evCall] at h
 | n+1,w0,Pr,hpin=>fun f args H v H' h φ w vs hg hW hr=>by
   simp only [evCall] at h
   split at h
   · rename_i r hr0
     cases h
     exact C.orcOk w0 Pr hpin f args H v H' hr0 φ w vs hg hW hr
   rename_i hr0
   simp only [Option.bind_eq_some_iff] at h
   obtain ⟨fn,hfn,c,hc,h⟩:=h
   have htm:VRs φ (args++List.replicate (fn.ntmps - args.length) uA) (vs++Array.replicate (fn.ntmps - vs.size) undef).toList:=by
     have hl:args.length=vs.size:=by simpa using hr.length
     have hrep:∀ m,VRs φ (List.replicate m uA) (List.replicate m undef):=fun m=>by
       induction m with
       | zero=>exact rfl
       | succ m ih=>exact .cons ⟨#[],rfl,rfl⟩ ih
     simpa [hl] using hr.append (hrep (fn.ntmps - args.length))
   refine calls_of_wp hfn hc ?_
   cases hrd:C.reads f with
   | false =>
     rw [hrd] at h
     have hs:SR C.gl w0 Pr φ (args++List.replicate (fn.ntmps - args.length) uA,if false=true then ro H else H) { tmps:=vs++Array.replicate (fn.ntmps - vs.size) undef,defers:=[] } w:=⟨hW,htm,rfl,hg⟩
     split at h
     · rename_i s1 h1
       simp only [Option.bind_eq_some_iff,finA,if_false,Bool.false_eq_true] at h
       obtain ⟨r,h,hf⟩:=h
       cases hf
       refine evC_sound (C:=C) (evCall_sound W n hpin) (evCall_ro W n) (W.pl f) n c (W.ok f fn c hfn hc) _ .normal s1 h1 hs fun φ' a' w' hle hs'=>?_
       obtain ⟨rfl,u,hu,ru⟩:=retA_spec hs' h
       exact ⟨hs'.df,u,hu,φ',u,hle,rfl,ru,hs'.wr⟩
     · rename_i s1 h1
       simp only [Option.bind_eq_some_iff,finA,if_false,Bool.false_eq_true] at h
       obtain ⟨r,h,hf⟩:=h
       cases hf
       refine evC_sound (C:=C) (evCall_sound W n hpin) (evCall_ro W n) (W.pl f) n c (W.ok f fn c hfn hc) _ .ret s1 h1 hs fun φ' a' w' hle hs'=>?_
       obtain ⟨rfl,u,hu,ru⟩:=retA_spec hs' h
       exact ⟨hs'.df,u,hu,φ',u,hle,rfl,ru,hs'.wr⟩
     · cases h
   | true =>
     rw [hrd] at h
     have hp2:=C.pinRo w0 Pr φ H w hpin hW
     have hs:SR C.gl w (fun b=>b < w.heap.size) φ (args++List.replicate (fn.ntmps - args.length) uA,if true=true then ro H else H) { tmps:=vs++Array.replicate (fn.ntmps - vs.size) undef,defers:=[] } w:=⟨by rw [if_pos rfl]; exact hW.reads,htm,rfl,hg⟩
     split at h
     · rename_i s1 h1
       simp only [Option.bind_eq_some_iff,finA,if_true] at h
       obtain ⟨r,h,hf⟩:=h
       split at hf
       · rename_i hv
         cases hf
         refine evC_sound (C:=C) (evCall_sound W n hp2) (evCall_ro W n) (W.pl f) n c (W.ok f fn c hfn hc) _ .normal s1 h1 hs fun φ' a' w' hle hs'=>?_
         obtain ⟨v1,H1⟩:=r
         obtain ⟨rfl,u,hu,ru⟩:=retA_spec hs' h
         exact ⟨hs'.df,u,hu,φ,u,Env.le_refl φ,rfl,old_env hW hle _ _ hv ru,hW.later hs'.wr.size hs'.wr.old hs'.wr.os hs'.wr.tape hs'.wr.output⟩
       · cases hf
     · rename_i s1 h1
       simp only [Option.bind_eq_some_iff,finA,if_true] at h
       obtain ⟨r,h,hf⟩:=h
       split at hf
       · rename_i hv
         cases hf
         refine evC_sound (C:=C) (evCall_sound W n hp2) (evCall_ro W n) (W.pl f) n c (W.ok f fn c hfn hc) _ .ret s1 h1 hs fun φ' a' w' hle hs'=>?_
         obtain ⟨v1,H1⟩:=r
         obtain ⟨rfl,u,hu,ru⟩:=retA_spec hs' h
         exact ⟨hs'.df,u,hu,φ,u,Env.le_refl φ,rfl,old_env hW hle _ _ hv ru,hW.later hs'.wr.size hs'.wr.old hs'.wr.os hs'.wr.tape hs'.wr.output⟩
       · cases hf
     · cases h
end
end Go.Dv
