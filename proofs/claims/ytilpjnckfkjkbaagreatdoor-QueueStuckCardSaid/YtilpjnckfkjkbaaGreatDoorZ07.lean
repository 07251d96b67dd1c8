/- Part 07 of the walks (own work). -/
import Derived.Test.YtilpjnckfkjkbaaGreatDoorZ06
set_option maxRecDepth 100000
set_option maxHeartbeats 4000000
set_option linter.unusedSimpArgs false
set_option linter.unusedVariables false
namespace Go.Dv
def oneG (g z:Nat):Env:=fun i=>if i=0 then some (g,0,z) else none
theorem WR.startG (w:World) {g:Nat} {cs:List AV} (hg:g < w.heap.size) (ho:OR (oneG g cs.length) w 0 (.arg cs)):WR w (fun b=>b < w.heap.size) (oneG g cs.length) [.arg cs] w where
 dom:=fun i hi=>by simp at hi; simp only [oneG]; rw [if_neg (by omega)]
 fresh:=fun i hi=>by cases i <;> simp at hi
 lt:=fun i y hy=>by simp only [oneG] at hy; split at hy <;> simp at hy; subst hy; exact hg
 inj:=fun i j x y ⟨o,hi,hw⟩=>by cases i <;> simp at hi; subst hi; cases hw
 own:=fun i x ⟨o,hi,hw⟩=>by cases i <;> simp at hi; subst hi; cases hw
 argP:=fun i y cs hi hy=>by simp only [oneG] at hy; split at hy <;> simp at hy; subst hy; exact hg
 obj:=fun i o hi=>by
   cases i with
   | zero=>simp at hi; subst hi; exact ho
   | succ i=>simp at hi
 prLt:=fun b h=>h
 size:=Nat.le_refl _
 os:=rfl
 tape:=rfl
 output:=rfl
 old:=fun _ _=>rfl
def PinAt (g:Nat) (cs:List AV) (w0:World) (Pr:Nat->Prop):Prop:=Pr g/\∀ j v,cs[j]? =some v->∃ u,w0.cell? ⟨g,j,none⟩=some u/\toV v=some u
theorem PinAt.later {g:Nat} {cs:List AV} {w0 w:World} {Pr:Nat->Prop} {φ:Env} {H:AH} (h:PinAt g cs w0 Pr) (hW:WR w0 Pr φ H w):PinAt g cs w (fun b=>b < w.heap.size):=by
 refine ⟨Nat.lt_of_lt_of_le (hW.prLt g h.1) hW.size,fun j v hj=>?_⟩
 obtain ⟨u,hu,hv⟩:=h.2 j v hj
 refine ⟨u,?_,hv⟩
 rw [<-hu]
 exact World.cell?_of_block (w:=w0) (a:=⟨g,j,none⟩) (hW.old g h.1)
def Starts {P:Program} (C:Cfg P) (G:AH):Prop:=∀ w0 Pr φ H w,C.pin w0 Pr->WR w0 Pr φ H w->∃ φ0,WR w (fun b=>b < w.heap.size) φ0 G w/\GI C.gl φ0/\C.pin w (fun b=>b < w.heap.size)
theorem starts_one {P:Program} {C:Cfg P} {g:Nat} {cs:List AV} (hg:C.gl=fun x=>if x=g then some 0 else none) (hp:C.pin=PinAt g cs):Starts C [.arg cs]:=by
 intro w0 Pr φ H w h hW
 rw [hp] at h ⊢
 have hl:=h.later hW
 refine ⟨oneG g cs.length,WR.startG w hl.1 ⟨g,0,cs.length,rfl,fun j v hj=>?_⟩,?_,hl⟩
 · obtain ⟨u,hu,hv⟩:=hl.2 j v hj
   exact ⟨u,by rw [Nat.zero_add]; exact hu,toV_VR v u hv⟩
 · rw [hg]
   intro x i hi
   simp only at hi
   split at hi
   · rename_i hx; cases hi; subst hx; exact ⟨_,rfl⟩
   · cases hi
abbrev Closed:=FuncId × List AV × AV
def closedOrc (l:List Closed):CallF:=fun f args H=>(l.find? fun e=>f == e.1 && AV.beqs e.2.1 args).map fun e=>(e.2.2,H)
def closedRuns (P:Program) (C:Cfg P) (Wy:Ways P) (G:AH) (n:Nat) (e:Closed):Bool:=(toVs e.2.1).isSome && (toV e.2.2).isSome && match evCall P C Wy n e.1 e.2.1 G with
 | some (v,_)=>AV.beq v e.2.2
 | none=>false
theorem closedOrc_ok {P:Program} {C:Cfg P} {Wy:Ways P} {G:AH} (hst:Starts C G) {n:Nat} {l:List Closed} (hl:l.all (closedRuns P C Wy G n)=true) (gl:GL) (w0:World) (Pr:Nat->Prop) (hpin:C.pin w0 Pr):CallOk P gl w0 Pr (closedOrc l):=by
 intro f args H v H' h φ w vs _ hW hr
 unfold closedOrc at h
 simp only [Option.map_eq_some_iff,Prod.mk.injEq] at h
 obtain ⟨⟨g,as',v'⟩,he,rfl,rfl⟩:=h
 have hm:=List.mem_of_find?_eq_some he
 have hp:=List.find?_some he
 simp only [Bool.and_eq_true,beq_iff_eq] at hp
 obtain ⟨rfl,hp⟩:=hp
 have ha:=AV.beqs_eq _ _ hp
 subst ha
 have hs:=List.all_eq_true.1 hl _ hm
 simp only [closedRuns,Bool.and_eq_true] at hs
 obtain ⟨⟨h1,h2⟩,h3⟩:=hs
 split at h3
 · rename_i v0 H0 he0
   have hv:=AV.beq_eq _ _ h3
   subst hv
   obtain ⟨φ0,hW0,hg0,hp0⟩:=hst w0 Pr φ H w hpin hW
   have:=evCall_sound (C:=C) Wy n hp0 f as' G v0 H0 he0 φ0 w vs hg0 hW0 (toVs_env h1 hr)
   refine this.mono fun e w' hw=>?_
   obtain ⟨φ',u,_,he,hu,hW'⟩:=hw
   exact ⟨φ,u,Env.le_refl φ,he,toV_env h2 hu,hW.later hW'.size hW'.old hW'.os hW'.tape hW'.output⟩
 · cases h3
def orElse (a b:CallF):CallF:=fun f args H=>(a f args H).or (b f args H)
theorem orElse_ok {P:Program} {gl:GL} {w0:World} {Pr:Nat->Prop} {a b:CallF} (ha:CallOk P gl w0 Pr a) (hb:CallOk P gl w0 Pr b):CallOk P gl w0 Pr (orElse a b):=by
 intro f args H v H' h
 unfold orElse at h
 cases h1:a f args H with
 | some r=>rw [h1] at h; simp at h; subst h; exact ha f args H v H' h1
 | none=>rw [h1] at h; simp at h; exact hb f args H v H' h
end Go.Dv
namespace Go.Dv
def Mono {α:Type} (g:Nat->Option α):Prop:=∀ n r,g n=some r->g (n+1)=some r
theorem Mono.le {α:Type} {g:Nat->Option α} (h:Mono g) {n m:Nat} (hnm:n<=m) {r:α} (hr:g n=some r):g m=some r:=by
 induction hnm with
 | refl=>exact hr
 | step _ ih=>exact h _ _ ih
open Classical in
noncomputable def lim {α:Type} (g:Nat->Option α):Option α:=if h:∃ n r,g n=some r then some (Classical.choose (Classical.choose_spec h)) else none
theorem lim_some {α:Type} {g:Nat->Option α} {r:α} (h:lim g=some r):∃ n,g n=some r:=by
 unfold lim at h
 split at h
 · rename_i he
   cases h
   exact ⟨_,Classical.choose_spec (Classical.choose_spec he)⟩
 · cases h
theorem lim_of {α:Type} {g:Nat->Option α} (hg:Mono g) {n:Nat} {r:α} (h:g n=some r):lim g=some r:=by
 have he:∃ n r,g n=some r:=⟨n,r,h⟩
 cases hl:lim g with
 | none=>unfold lim at hl; rw [dif_pos he] at hl; cases hl
 | some r' =>
   obtain ⟨m,hm⟩:=lim_some hl
   have h1:=hg.le (Nat.le_max_left n m) h
   have h2:=hg.le (Nat.le_max_right n m) hm
   rw [h1] at h2; cases h2; rfl
theorem lim_none {α:Type} {g:Nat->Option α} (h:lim g=none) (n:Nat):g n=none:=by
 cases hn:g n with
 | none=>rfl
 | some r=>unfold lim at h; rw [dif_pos ⟨n,r,hn⟩] at h; cases h
theorem lim_eq_none {α:Type} {g:Nat->Option α} (h:∀ n,g n=none):lim g=none:=by
 cases hl:lim g with
 | none=>rfl
 | some r=>obtain ⟨n,hn⟩:=lim_some hl; rw [h n] at hn; cases hn
theorem lim_const {α:Type} (x:Option α):lim (fun _=>x)=x:=by
 cases x with
 | none=>exact lim_eq_none fun _=>rfl
 | some r=>exact lim_of (g:=fun _=>some r) (fun _ _ h=>h) (n:=0) rfl
theorem mono_bind {α β:Type} {g:Nat->Option α} {k:Nat->α->Option β} (hg:Mono g) (hk:∀ x,Mono fun n=>k n x):Mono fun n=>(g n).bind (k n):=fun n r h=>by
 simp only [Option.bind_eq_some_iff] at h ⊢
 obtain ⟨x,hx,hr⟩:=h
 exact ⟨x,hg n x hx,hk x n r hr⟩
theorem lim_bind {α β:Type} {g:Nat->Option α} {k:Nat->α->Option β} (hg:Mono g) (hk:∀ x,Mono fun n=>k n x) :
   lim (fun n=>(g n).bind (k n))=(lim g).bind fun x=>lim fun n=>k n x:=by
 cases h1:lim g with
 | none=>exact lim_eq_none fun n=>by rw [lim_none h1 n]; rfl
 | some x =>
   obtain ⟨n1,hn1⟩:=lim_some h1
   simp only [Option.bind_some]
   cases h2:lim (fun n=>k n x) with
   | none =>
     refine lim_eq_none fun n=>?_
     cases hb:(g n).bind (k n) with
     | none=>rfl
     | some r =>
       simp only [Option.bind_eq_some_iff] at hb
       obtain ⟨y,hy,hr⟩:=hb
       have e1:=hg.le (Nat.le_max_left n n1) hy
       have e2:=hg.le (Nat.le_max_right n n1) hn1
       rw [e1] at e2; cases e2
       have:=lim_none h2 n; rw [hr] at this; cases this
   | some r =>
     obtain ⟨n2,hn2⟩:=lim_some h2
     refine lim_of (mono_bind hg hk) (n:=max n1 n2) ?_
     rw [hg.le (Nat.le_max_left n1 n2) hn1]
     exact (hk x).le (Nat.le_max_right n1 n2) hn2
theorem lim_shift {α:Type} {g:Nat->Option α} (hg:Mono g):lim (fun n=>g (n+1))=lim g:=by
 cases h:lim g with
 | none=>exact lim_eq_none fun n=>lim_none h _
 | some r =>
   obtain ⟨n,hn⟩:=lim_some h
   exact lim_of (fun n r h=>hg (n+1) r h) (n:=n) (hg n r hn)
theorem mono_const {α:Type} (x:Option α):Mono fun _=>x:=fun _ _ h=>h
section
variable {P:Program} {C:Cfg P} {W:Ways P} {pl:Nat->Option Way}
def MonoF (c:Nat->CallF):Prop:=∀ f a H,Mono fun n=>c n f a H
noncomputable def limF (c:Nat->CallF):CallF:=fun f a H=>lim fun n=>c n f a H
theorem stepA_eq (call:CallF) (slot:Option Nat) (ops:Array Oper) (i:Nat) (s:St):stepA P C call slot ops i s =
   match ops[i]? with
   | none=>some s
   | some o=>if Region.wanted o (yieldedA ops s.1) then (aop P C slot (evalA C.gl s.1) o s.2).bind fun r=>match r with
       | (.val v,H')=>some (putA o.dst v s.1,H')
       | (.skip,H')=>some (putA o.dst uA s.1,H')
       | (.enter f args,H')=>(call f args H').bind fun r=>some (putA o.dst r.1 s.1,r.2)
     else some (putA o.dst uA s.1,s.2):=by
 unfold stepA
 cases ops[i]? with
 | none=>rfl
 | some o =>
   simp only
   by_cases hw:Region.wanted o (yieldedA ops s.1)=true
   · rw [if_pos hw,if_pos hw]
     cases aop P C slot (evalA C.gl s.1) o s.2 with
     | none=>rfl
     | some r =>
       obtain ⟨r,H'⟩:=r
       cases r with
       | val v=>rfl
       | skip=>rfl
       | enter f args=>simp only [Option.bind_some]; cases call f args H' <;> rfl
   · rw [if_neg hw,if_neg hw]
theorem mono_stepA {c:Nat->CallF} (hc:MonoF c) (slot:Option Nat) (ops:Array Oper) (i:Nat) (s:St):Mono fun n=>stepA P C (c n) slot ops i s:=by
 simp only [stepA_eq]
 split
 · exact mono_const _
 · split
   · refine mono_bind (mono_const _) fun r=>?_
     obtain ⟨r,H'⟩:=r
     cases r with
     | val v=>exact mono_const _
     | skip=>exact mono_const _
     | enter f args=>exact mono_bind (hc f args H') fun x=>mono_const _
   · exact mono_const _
theorem lim_stepA {c:Nat->CallF} (hc:MonoF c) (slot:Option Nat) (ops:Array Oper) (i:Nat) (s:St):lim (fun n=>stepA P C (c n) slot ops i s)=stepA P C (limF c) slot ops i s:=by
 simp only [stepA_eq]
 split
 · exact lim_const _
 · split
   · rename_i o ho hw
     cases ha:aop P C slot (evalA C.gl s.1) o s.2 with
     | none=>exact lim_const _
     | some r =>
       obtain ⟨r,H'⟩:=r
       simp only [Option.bind_some]
       cases r with
       | val v=>exact lim_const _
       | skip=>exact lim_const _
       | enter f args =>
         show lim (fun n=>(c n f args H').bind fun r=>some (putA o.dst r.1 s.1,r.2))=_
         refine (lim_bind (k:=fun _ r=>some (putA o.dst r.1 s.1,r.2)) (hc f args H') (fun x=>mono_const _)).trans ?_
         simp only [lim_const]; rfl
   · exact lim_const _
theorem mono_runOps {c:Nat->CallF} (hc:MonoF c) (ops:Array Oper):∀ (is:List Nat) (s:St),Mono fun n=>runOps P C (c n) ops is s
 | [],s=>mono_const _
 | i::is,s=>by simp only [runOps]; exact mono_bind (mono_stepA hc none ops i s) fun x=>mono_runOps hc ops is x
theorem lim_runOps {c:Nat->CallF} (hc:MonoF c) (ops:Array Oper):∀ (is:List Nat) (s:St),lim (fun n=>runOps P C (c n) ops is s)=runOps P C (limF c) ops is s
 | [],s=>lim_const _
 | i::is,s=>by
   simp only [runOps]
   rw [lim_bind (mono_stepA hc none ops i s) fun x=>mono_runOps hc ops is x,lim_stepA hc]
   congr 1; funext x; exact lim_runOps hc ops is x
mutual
theorem mono_runPlan {c:Nat->CallF} (hc:MonoF c) (base:Nat) (ops:Array Oper):∀ (p:Plan) (s:St),Mono fun n=>runPlan P C (c n) base ops p s
 | .done,s=>by simp only [runPlan]; exact mono_const _
 | .take i p,s=>by
   simp only [runPlan]
   split
   · exact mono_const _
   · exact mono_bind (mono_const _) fun x=>mono_runPlan hc base ops p _
 | .all l,s=>by simp only [runPlan]; exact mono_runAll hc base ops l s none
 | .rd i p,s=>by
   simp only [runPlan]
   split
   · exact mono_const _
   · exact mono_bind (mono_const _) fun v=>mono_runPlan hc base ops p _
 | .join p q,s=>by simp only [runPlan]; exact mono_bind (mono_runPlan hc base ops p s) fun t=>mono_runPlan hc base ops q t
theorem mono_runAll {c:Nat->CallF} (hc:MonoF c) (base:Nat) (ops:Array Oper):∀ (l:List (Nat × Plan)) (s:St) (r:Option St),Mono fun n=>runAll P C (c n) base ops l s r
 | [],s,r=>by simp only [runAll]; exact mono_const _
 | (i,p)::l,s,r=>by
   simp only [runAll]
   refine mono_bind (mono_stepA hc _ ops i s) fun s'=>mono_bind (mono_runPlan hc base ops p s') fun t=>?_
   split
   · exact mono_runAll hc base ops l s _
   · split
     · exact mono_runAll hc base ops l s _
     · exact mono_const _
end
mutual
theorem lim_runPlan {c:Nat->CallF} (hc:MonoF c) (base:Nat) (ops:Array Oper):∀ (p:Plan) (s:St),lim (fun n=>runPlan P C (c n) base ops p s)=runPlan P C (limF c) base ops p s
 | .done,s=>by simp only [runPlan]; exact lim_const _
 | .take i p,s=>by
   simp only [runPlan]
   split
   · exact lim_const _
   · rw [lim_bind (mono_const _) fun x=>mono_runPlan hc base ops p _,lim_const]
     congr 1; funext x; exact lim_runPlan hc base ops p _
 | .all l,s=>by simp only [runPlan]; exact lim_runAll hc base ops l s none
 | .rd i p,s=>by
   simp only [runPlan]
   split
   · exact lim_const _
   · refine (lim_bind (mono_const _) fun v=>mono_runPlan hc base ops p _).trans ?_
     rw [lim_const]
     congr 1; funext v; exact lim_runPlan hc base ops p _
 | .join p q,s=>by
   simp only [runPlan]
   rw [lim_bind (mono_runPlan hc base ops p s) fun t=>mono_runPlan hc base ops q t,lim_runPlan hc base ops p s]
   congr 1; funext t; exact lim_runPlan hc base ops q t
theorem lim_runAll {c:Nat->CallF} (hc:MonoF c) (base:Nat) (ops:Array Oper):∀ (l:List (Nat × Plan)) (s:St) (r:Option St),lim (fun n=>runAll P C (c n) base ops l s r)=runAll P C (limF c) base ops l s r
 | [],s,r=>by simp only [runAll]; exact lim_const _
 | (i,p)::l,s,r=>by
   simp only [runAll]
   have hm:∀ (t:St),Mono fun n=>(match r with
     | none=>runAll P C (c n) base ops l s (some t)
     | some t0=>if stBeq t0 t=true then runAll P C (c n) base ops l s (some t0) else none):=fun t=>by
     split
     · exact mono_runAll hc base ops l s _
     · split
       · exact mono_runAll hc base ops l s _
       · exact mono_const _
   refine (lim_bind (k:=fun n s'=>(runPlan P C (c n) base ops p s').bind fun t=>match r with
     | none=>runAll P C (c n) base ops l s (some t)
     | some t0=>if stBeq t0 t=true then runAll P C (c n) base ops l s (some t0) else none) (mono_stepA hc _ ops i s) fun s'=>mono_bind (mono_runPlan hc base ops p s') hm).trans ?_
   rw [lim_stepA hc]
   congr 1; funext s'
   refine (lim_bind (k:=fun n t=>match r with
     | none=>runAll P C (c n) base ops l s (some t)
     | some t0=>if stBeq t0 t=true then runAll P C (c n) base ops l s (some t0) else none) (mono_runPlan hc base ops p s') hm).trans ?_
   rw [lim_runPlan hc base ops p s']
   congr 1; funext t
   cases r with
   | none=>exact lim_runAll hc base ops l s _
   | some t0 =>
     simp only
     by_cases hb:stBeq t0 t=true
     · simp only [if_pos hb]; exact lim_runAll hc base ops l s _
     · simp only [if_neg hb]; exact lim_const _
end
theorem loopA_succ (f:St->Option (AExit × St)) (n:Nat) (s:St):loopA f (n+1) s=(f s).bind fun r=>match r with
   | (.normal,s')=>loopA f n s'
   | r=>some r:=by
 simp only [loopA]
 split
 · rename_i h; rw [h]; rfl
 · rename_i h
   cases hf:f s with
   | none=>rfl
   | some r =>
     obtain ⟨e,s'⟩:=r
     cases e with
     | normal=>exact absurd hf (h s')
     | _=>rfl
theorem mono_loopA {f:Nat->St->Option (AExit × St)} (hf:∀ s,Mono fun n=>f n s):∀ (n m:Nat) (s:St) (r:AExit × St),loopA (f n) m s=some r->∀ n' m',n<=n'->m<=m'->loopA (f n') m' s=some r
 | n,0,s,r,h,_,_,_,_=>by simp [loopA] at h
 | n,m+1,s,r,h,n',m',hn,hm=>by
   obtain ⟨m',rfl⟩:∃ q,m'=q+1:=⟨m' - 1,by omega⟩
   rw [loopA_succ] at h ⊢
   simp only [Option.bind_eq_some_iff] at h ⊢
   obtain ⟨x,hx,hr⟩:=h
   refine ⟨x,(hf s).le hn hx,?_⟩
   split at hr
   · exact mono_loopA hf n m _ r hr n' m' hn (by omega)
   · exact hr
theorem evC_seq (call:CallF) (n:Nat) (a b:Code) (s:St):evC P C call pl n (.seq a b) s=(evC P C call pl n a s).bind fun r=>match r with
   | (.normal,s')=>evC P C call pl n b s'
   | r=>some r:=by
 simp only [evC]
 split
 · rename_i h; rw [h]; rfl
 · rename_i h
   cases hf:evC P C call pl n a s with
   | none=>rfl
   | some r =>
     obtain ⟨e,s'⟩:=r
     cases e with
     | normal=>exact absurd hf (h s')
     | _=>rfl
theorem evC_block (call:CallF) (n:Nat) (id:Nat) (b:Code) (s:St):evC P C call pl n (.block id b) s=(evC P C call pl n b s).bind fun r=>match r with
   | (.exit id',s')=>if id'=id then some (.normal,s') else some (.exit id',s')
   | r=>some r:=by
 simp only [evC]
 split
 · rename_i h; rw [h]; rfl
 · rename_i h
   cases hf:evC P C call pl n b s with
   | none=>rfl
   | some r =>
     obtain ⟨e,s'⟩:=r
     cases e with
     | exit id'=>exact absurd hf (h id' s')
     | _=>rfl
theorem mono_calms {c:Nat->CallF} (hc:MonoF c) (ops:Array Oper):∀ (l:List Oper) (s:St),Mono fun n=>calmsA P C (c n) ops l s
 | [],s=>by simp only [calmsA]; exact mono_const _
 | o::l,s=>by
   simp only [calmsA]
   split
   · refine mono_bind ?_ fun v=>mono_calms hc ops l _
     unfold calmA
     split
     · split
       · exact mono_const _
       · refine mono_bind (mono_const _) fun r=>?_
         split
         · split
           · simp only [show ∀ (f:AV × AH->AV) (o:Option (AV × AH)),o.map f=o.bind fun x=>some (f x) from fun f o=>by cases o <;> rfl]
             exact mono_bind (hc _ _ _) fun _=>mono_const _
           · exact mono_const _
         · exact mono_const _
     · exact mono_const _
   · exact mono_calms hc ops l _
theorem lim_calmA {c:Nat->CallF} (hc:MonoF c) (ev:Operand->Option AV) (o:Oper) (H:AH):lim (fun n=>calmA P C (c n) ev o H)=calmA P C (limF c) ev o H:=by
 unfold calmA
 split
 · split
   · exact lim_const _
   · rename_i cc _ _ _
     cases ha:callA P C none ev o cc H with
     | none=>exact lim_const _
     | some r =>
       obtain ⟨r,H'⟩:=r
       simp only [Option.bind_some]
       cases r with
       | val v=>exact lim_const _
       | skip=>exact lim_const _
       | enter f args =>
         simp only
         split
         · simp only [show ∀ (f:AV × AH->AV) (o:Option (AV × AH)),o.map f=o.bind fun x=>some (f x) from fun f o=>by cases o <;> rfl]
           refine (lim_bind (k:=fun _ x=>some x.1) (hc f args H) (fun x=>mono_const _)).trans ?_
           simp only [lim_const]; rfl
         · exact lim_const _
 · exact lim_const _
theorem mono_calmA {c:Nat->CallF} (hc:MonoF c) (ev:Operand->Option AV) (o:Oper) (H:AH):Mono (fun n=>calmA P C (c n) ev o H):=by
 unfold calmA
 split
 · split
   · exact mono_const _
   · refine mono_bind (mono_const _) fun r=>?_
     split
     · split
       · simp only [show ∀ (f:AV × AH->AV) (o:Option (AV × AH)),o.map f=o.bind fun x=>some (f x) from fun f o=>by cases o <;> rfl]
         exact mono_bind (hc _ _ _) fun _=>mono_const _
       · exact mono_const _
     · exact mono_const _
 · exact mono_const _
theorem lim_calms {c:Nat->CallF} (hc:MonoF c) (ops:Array Oper):∀ (l:List Oper) (s:St),lim (fun n=>calmsA P C (c n) ops l s)=calmsA P C (limF c) ops l s
 | [],s=>by simp only [calmsA]; exact lim_const _
 | o::l,s=>by
   simp only [calmsA]
   split
   · rw [lim_bind (mono_calmA hc _ o s.2) fun v=>mono_calms hc ops l _,lim_calmA hc]
     congr 1; funext v; exact lim_calms hc ops l _
   · exact lim_calms hc ops l _
theorem map_bind {α β:Type} (f:α->β) (o:Option α):o.map f=o.bind fun x=>some (f x):=by cases o <;> rfl
theorem mono_evC {c:Nat->CallF} (hc:MonoF c):∀ (x:Code) (s:St),Mono fun n=>evC P C (c n) pl n x s
 | .skip,s=>by simp only [evC]; exact mono_const _
 | .region id ops false,s=>by
   simp only [evC]; intro n r h
   simp only [Option.map_eq_some_iff] at h ⊢
   obtain ⟨x,hx,hr⟩:=h
   exact ⟨x,mono_runOps hc ops _ _ n x hx,hr⟩
 | .region id ops true,s=>by
   simp only [evC]
   split
   · simp only [map_bind]; exact mono_bind (mono_runPlan hc _ ops _ _) fun x=>mono_const _
   · exact mono_const _
   · simp only [map_bind]; exact mono_bind (mono_const _) fun x=>mono_bind (mono_runOps hc ops _ _) fun y=>mono_const _
   · simp only [map_bind]; exact mono_bind (mono_runPlan hc _ ops _ _) fun x=>mono_const _
   · exact mono_const _
   · simp only [map_bind]; exact mono_bind (mono_calms hc ops _ _) fun x=>mono_const _
   · exact mono_const _
 | .seq a b,s=>by
   simp only [evC_seq]
   refine mono_bind (mono_evC hc a s) fun r=>?_
   obtain ⟨e,s'⟩:=r
   cases e with
   | normal=>exact mono_evC hc b s'
   | _=>exact mono_const _
 | .cond q x y,s=>by
   simp only [evC]
   split
   · exact mono_evC hc x s
   · exact mono_evC hc y s
   · exact mono_const _
 | .block id b,s=>by
   simp only [evC_block]
   exact mono_bind (mono_evC hc b s) fun r=>mono_const _
 | .loop b,s=>by
   simp only [evC]; intro n r h
   exact mono_loopA (f:=fun n s=>evC P C (c n) pl n b s) (fun s=>mono_evC hc b s) n n s r h (n+1) (n+1) (by omega) (by omega)
 | .exit id,s=>by simp only [evC]; exact mono_const _
 | .ret,s=>by simp only [evC]; exact mono_const _
 | .rangeFunc ..,s=>by simp only [evC]; exact mono_const _
 | .scope _,s=>by simp only [evC]; exact mono_const _
 | .label _,s=>by simp only [evC]; exact mono_const _
 | .goto _,s=>by simp only [evC]; exact mono_const _
 | .refuse _,s=>by simp only [evC]; exact mono_const _
def endA (P:Program) (C:Cfg P) (f:FuncId) (fn:Func) (H:AH) (r:AExit × St):Option (AV × AH):=match r with
 | (.normal,s)=>(retA P fn s).bind (finA (C.reads f) H)
 | (.ret,s)=>(retA P fn s).bind (finA (C.reads f) H)
 | _=>none
theorem evCall_succ (n:Nat) (f:FuncId) (args:List AV) (H:AH) (ho:C.orc f args H=none):evCall P C W (n+1) f args H =
   (P.funcs[f]?).bind fun fn=>fn.body.bind fun c =>
     (evC P C (evCall P C W n) (W.pl f) n c (args++List.replicate (fn.ntmps - args.length) uA,if C.reads f then ro H else H)).bind (endA P C f fn H):=by
 simp only [evCall,ho]
 congr 1; funext fn; congr 1; funext c
 cases evC P C (evCall P C W n) (W.pl f) n c (args++List.replicate (fn.ntmps - args.length) uA,if C.reads f then ro H else H) with
 | none=>rfl
 | some r=>obtain ⟨e,s⟩:=r; cases e <;> rfl
theorem mono_evCall:MonoF (evCall P C W):=by
 have key:∀ n f a H r,evCall P C W n f a H=some r->evCall P C W (n+1) f a H=some r:=by
   intro n
   induction n with
   | zero=>intro f a H r h; simp [evCall] at h
   | succ n ih =>
     intro f a H r h
     cases ho:C.orc f a H with
     | some r'=>simp only [evCall,ho] at h ⊢; exact h
     | none =>
     rw [evCall_succ _ _ _ _ ho] at h ⊢
     simp only [Option.bind_eq_some_iff] at h ⊢
     obtain ⟨fn,hfn,c,hc,x,hx,hr⟩:=h
     refine ⟨fn,hfn,c,hc,x,?_,hr⟩
     have hm':MonoF (fun k=>if k<=n then evCall P C W n else evCall P C W (n+1)):=fun f a H k r hk=>by
       simp only at hk ⊢
       split at hk
       · split
         · exact hk
         · exact ih f a H r hk
       · rw [if_neg (by omega)]; exact hk
     have:=(mono_evC (P:=P) (C:=C) (pl:=W.pl f) hm' c (a++List.replicate (fn.ntmps - a.length) uA,if C.reads f then ro H else H)) n x (by simpa using hx)
     simpa [show ¬ (n+1<=n) by omega] using this
 exact fun f a H n r h=>key n f a H r h
noncomputable def Ev (P:Program) (C:Cfg P) (W:Ways P):CallF:=limF (evCall P C W)
noncomputable def EvC (P:Program) (C:Cfg P) (W:Ways P) (pl:Nat->Option Way) (c:Code) (s:St):Option (AExit × St):=lim fun n=>evC P C (evCall P C W n) pl n c s
theorem Ev_of {n:Nat} {f:FuncId} {a:List AV} {H:AH} {r:AV × AH} (h:evCall P C W n f a H=some r):Ev P C W f a H=some r:=lim_of (mono_evCall f a H) h
theorem Ev_orc {f:FuncId} {a:List AV} {H:AH} {r:AV × AH} (h:C.orc f a H=some r):Ev P C W f a H=some r:=Ev_of (n:=1) (by simp only [evCall,h])
theorem Ev_sound {w0:World} {Pr:Nat->Prop} (hp:C.pin w0 Pr):CallOk P C.gl w0 Pr (Ev P C W):=fun f args H v H' h=>by
 obtain ⟨n,hn⟩:=lim_some h
 exact evCall_sound W n hp f args H v H' hn
theorem Ev_eq {f:FuncId} {fn:Func} {c:Code} (hf:P.funcs[f]? =some fn) (hb:fn.body=some c) (args:List AV) (H:AH) (ho:C.orc f args H=none):Ev P C W f args H =
   (EvC P C W (W.pl f) c (args++List.replicate (fn.ntmps - args.length) uA,if C.reads f then ro H else H)).bind (endA P C f fn H):=by
 have h1:Ev P C W f args H=lim fun n=>evCall P C W (n+1) f args H:=(lim_shift (mono_evCall f args H)).symm
 rw [h1]
 simp only [evCall_succ _ _ _ _ ho,hf,hb,Option.bind_some]
 refine (lim_bind (k:=fun _=>endA P C f fn H) (mono_evC mono_evCall c _) (fun r=>mono_const _)).trans ?_
 simp only [lim_const]
 rfl
theorem Ev_eqW {f:FuncId} {fn:Func} {c:Code} {p:Nat->Option Way} (hf:P.funcs[f]? =some fn) (hb:fn.body=some c) (hp:W.pl f=p) (hr:C.reads f=false) (args:List AV) (H:AH) (ho:C.orc f args H=none):Ev P C W f args H =
   (EvC P C W p c (args++List.replicate (fn.ntmps - args.length) uA,H)).bind fun r=>match r with
     | (.normal,s)=>retA P fn s
     | (.ret,s)=>retA P fn s
     | _=>none:=by
 subst hp
 rw [Ev_eq hf hb args H ho,hr]
 congr 1; funext r
 obtain ⟨e,s⟩:=r
 cases e <;> simp only [endA,hr] <;> first | rfl | (cases retA P fn s <;> rfl)
theorem Ev_eqR {f:FuncId} {fn:Func} {c:Code} {p:Nat->Option Way} (hf:P.funcs[f]? =some fn) (hb:fn.body=some c) (hp:W.pl f=p) (hr:C.reads f=true) (args:List AV) (H:AH) (ho:C.orc f args H=none):Ev P C W f args H =
   (EvC P C W p c (args++List.replicate (fn.ntmps - args.length) uA,ro H)).bind fun r=>match r with
     | (.normal,s)=>(retA P fn s).bind (finA true H)
     | (.ret,s)=>(retA P fn s).bind (finA true H)
     | _=>none:=by
 subst hp
 rw [Ev_eq hf hb args H ho,hr,if_pos rfl]
 congr 1; funext r
 obtain ⟨e,s⟩:=r
 cases e <;> simp only [endA,hr]
theorem EvC_skip (s:St):EvC P C W pl .skip s=some (.normal,s):=by unfold EvC; simp only [evC]; exact lim_const _
theorem EvC_exit (id:Nat) (s:St):EvC P C W pl (.exit id) s=some (.exit id,s):=by unfold EvC; simp only [evC]; exact lim_const _
theorem EvC_ret (s:St):EvC P C W pl .ret s=some (.ret,s):=by unfold EvC; simp only [evC]; exact lim_const _
theorem EvC_seq (a b:Code) (s:St):EvC P C W pl (.seq a b) s=(EvC P C W pl a s).bind fun r=>match r with
   | (.normal,s')=>EvC P C W pl b s'
   | r=>some r:=by
 unfold EvC
 simp only [evC_seq]
 refine (lim_bind (k:=fun n (r:AExit × St)=>match r with
   | (.normal,s')=>evC P C (evCall P C W n) pl n b s'
   | r=>some r) (mono_evC mono_evCall a s) (fun r=>?_)).trans ?_
 · obtain ⟨e,s'⟩:=r
   cases e with
   | normal=>exact mono_evC mono_evCall b s'
   | _=>exact mono_const _
 · congr 1; funext r
   obtain ⟨e,s'⟩:=r
   cases e with
   | normal=>rfl
   | _=>exact lim_const _
theorem EvC_block (id:Nat) (b:Code) (s:St):EvC P C W pl (.block id b) s=(EvC P C W pl b s).bind fun r=>match r with
   | (.exit id',s')=>if id'=id then some (.normal,s') else some (.exit id',s')
   | r=>some r:=by
 unfold EvC
 simp only [evC_block]
 refine (lim_bind (k:=fun _ (r:AExit × St)=>match r with
   | (.exit id',s')=>if id'=id then some (.normal,s') else some (.exit id',s')
   | r=>some r) (mono_evC mono_evCall b s) (fun r=>mono_const _)).trans ?_
 simp only [lim_const]
theorem EvC_cond (q:Operand) (x y:Code) (s:St):EvC P C W pl (.cond q x y) s=match evalA C.gl s.1 q with
   | some (.bool true)=>EvC P C W pl x s
   | some (.bool false)=>EvC P C W pl y s
   | _=>none:=by
 unfold EvC
 cases h:evalA C.gl s.1 q with
 | none=>simp only [evC,h]; exact lim_const _
 | some v=>cases v with
   | bool b=>cases b <;> simp only [evC,h]
   | _=>simp only [evC,h]; exact lim_const _
theorem EvC_region (id:Nat) (ops:Array Oper) (s:St):EvC P C W pl (.region id ops false) s=(runOps P C (Ev P C W) ops (List.range ops.size) s).bind fun s'=>some (.normal,s'):=by
 unfold EvC
 simp only [evC,map_bind]
 refine (lim_bind (k:=fun _ s'=>some (AExit.normal,s')) (mono_runOps mono_evCall ops _ s) (fun r=>mono_const _)).trans ?_
 rw [lim_runOps mono_evCall]
 simp only [lim_const]
 rfl
theorem EvC_calm {id:Nat} {ops:Array Oper} (h:pl id=some .calm) (s:St):EvC P C W pl (.region id ops true) s=(calmsA P C (Ev P C W) ops ops.toList s).bind fun s'=>some (.normal,s'):=by
 unfold EvC
 simp only [evC,h,map_bind]
 refine (lim_bind (k:=fun _ s'=>some (AExit.normal,s')) (mono_calms mono_evCall ops _ s) (fun r=>mono_const _)).trans ?_
 rw [lim_calms mono_evCall]
 simp only [lim_const]
 rfl
theorem EvC_reads {id:Nat} {ops:Array Oper} (h:pl id=some .reads) (s:St):EvC P C W pl (.region id ops true) s=(readsA P C.gl ops ops.toList s).bind fun s'=>some (.normal,s'):=by
 unfold EvC
 simp only [evC,h,map_bind]
 exact lim_const _
theorem EvC_tail {id k:Nat} {ops:Array Oper} (h:pl id=some (.tail k)) (s:St):EvC P C W pl (.region id ops true) s=(readsA P C.gl ops (ops.toList.take k) s).bind fun s1=>(runOps P C (Ev P C W) ops (List.range' k (ops.toList.drop k).length) s1).bind fun s'=>some (.normal,s'):=by
 unfold EvC
 simp only [evC,h,map_bind]
 refine (lim_bind (k:=fun n s1=>(runOps P C (evCall P C W n) ops (List.range' k (ops.toList.drop k).length) s1).bind fun s'=>some (AExit.normal,s')) (mono_const _) (fun r=>mono_bind (mono_runOps mono_evCall ops _ r) fun _=>mono_const _)).trans ?_
 rw [lim_const]
 congr 1; funext s1
 refine (lim_bind (k:=fun _ s'=>some (AExit.normal,s')) (mono_runOps mono_evCall ops _ s1) (fun r=>mono_const _)).trans ?_
 rw [lim_runOps mono_evCall]
 simp only [lim_const]
 rfl
theorem EvC_plan {id:Nat} {ops:Array Oper} {p:Plan} (h:pl id=some (.plan p)) (s:St):EvC P C W pl (.region id ops true) s =
   (runPlan P C (Ev P C W) s.2.length ops p (s.1,if ops.any (allocates ·.op) then s.2++List.replicate ops.size .fresh else s.2)).bind fun s'=>some (.normal,s'):=by
 unfold EvC
 simp only [evC,h,map_bind]
 refine (lim_bind (k:=fun _ s'=>some (AExit.normal,s')) (mono_runPlan mono_evCall _ ops _ _) (fun r=>mono_const _)).trans ?_
 rw [lim_runPlan mono_evCall]
 simp only [lim_const]
 rfl
theorem EvC_loop (b:Code) (s:St):EvC P C W pl (.loop b) s=(EvC P C W pl b s).bind fun r=>match r with
   | (.normal,s')=>EvC P C W pl (.loop b) s'
   | r=>some r:=by
 have hm:∀ s:St,Mono fun n=>loopA (fun s=>evC P C (evCall P C W n) pl n b s) n s:=fun s n r h =>
   mono_loopA (f:=fun n s=>evC P C (evCall P C W n) pl n b s) (fun s=>mono_evC mono_evCall b s) n n s r h (n+1) (n+1) (by omega) (by omega)
 have hm':∀ s:St,Mono fun n=>loopA (fun s=>evC P C (evCall P C W (n+1)) pl (n+1) b s) n s:=fun s n r h =>
   mono_loopA (f:=fun n s=>evC P C (evCall P C W n) pl n b s) (fun s=>mono_evC mono_evCall b s) (n+1) n s r h (n+2) (n+1) (by omega) (by omega)
 have hl:∀ s:St,lim (fun n=>loopA (fun s=>evC P C (evCall P C W (n+1)) pl (n+1) b s) n s)=lim fun n=>loopA (fun s=>evC P C (evCall P C W n) pl n b s) n s:=fun s=>by
   cases h:lim (fun n=>loopA (fun s=>evC P C (evCall P C W n) pl n b s) n s) with
   | some r =>
     obtain ⟨n,hn⟩:=lim_some h
     exact lim_of (hm' s) (n:=n) (mono_loopA (f:=fun n s=>evC P C (evCall P C W n) pl n b s) (fun s=>mono_evC mono_evCall b s) n n s r hn (n+1) n (by omega) (by omega))
   | none =>
     refine lim_eq_none fun n=>?_
     cases hn:loopA (fun s=>evC P C (evCall P C W (n+1)) pl (n+1) b s) n s with
     | none=>rfl
     | some r =>
       have:=lim_none h (n+1)
       rw [mono_loopA (f:=fun n s=>evC P C (evCall P C W n) pl n b s) (fun s=>mono_evC mono_evCall b s) (n+1) n s r hn (n+1) (n+1) (by omega) (by omega)] at this
       cases this
 have h0:EvC P C W pl (.loop b) s=lim fun n=>loopA (fun s=>evC P C (evCall P C W n) pl n b s) n s:=by unfold EvC; simp only [evC]
 rw [h0,<-lim_shift (hm s)]
 simp only [loopA_succ]
 refine (lim_bind (g:=fun n=>evC P C (evCall P C W (n+1)) pl (n+1) b s) (k:=fun n (r:AExit × St)=>match r with
   | (.normal,s')=>loopA (fun s=>evC P C (evCall P C W (n+1)) pl (n+1) b s) n s'
   | r=>some r) (fun n r h=>(mono_evC mono_evCall b s) (n+1) r h) (fun r=>?_)).trans ?_
 · obtain ⟨e,s'⟩:=r
   cases e with
   | normal=>exact hm' s'
   | _=>exact mono_const _
 · rw [lim_shift (g:=fun n=>evC P C (evCall P C W n) pl n b s) (mono_evC mono_evCall b s)]
   show (EvC P C W pl b s).bind _=_
   congr 1; funext r
   obtain ⟨e,s'⟩:=r
   cases e with
   | normal=>simp only []; rw [hl s']; unfold EvC; simp only [evC]
   | _=>exact lim_const _
end
end Go.Dv
namespace Go.Dv
section
variable {P:Program} {C:Cfg P} {W:Ways P} {pl:Nat->Option Way}
def stepO (P:Program) (C:Cfg P) (call:CallF) (slot:Option Nat) (ops:Array Oper) (o:Oper) (s:St):Option St:=
 if Region.wanted o (yieldedA ops s.1) then (aop P C slot (evalA C.gl s.1) o s.2).bind fun r=>match r with
     | (.val v,H')=>some (putA o.dst v s.1,H')
     | (.skip,H')=>some (putA o.dst uA s.1,H')
     | (.enter f args,H')=>(call f args H').bind fun r=>some (putA o.dst r.1 s.1,r.2)
   else some (putA o.dst uA s.1,s.2)
def runL (P:Program) (C:Cfg P) (call:CallF) (ops:Array Oper):List Oper->St->Option St
 | [],s=>some s
 | o::os,s=>(stepO P C call none ops o s).bind fun s'=>runL P C call ops os s'
theorem runL_eq (call:CallF) (ops:Array Oper):∀ (os:List Oper) (k:Nat) (s:St),(∀ i o,os[i]? =some o->ops[k+i]? =some o)->runOps P C call ops ((List.range os.length).map (k + ·)) s=runL P C call ops os s
 | [],k,s,h=>rfl
 | o::os,k,s,h=>by
   have h0:ops[k]? =some o:=by simpa using h 0 o rfl
   have e:(List.range (o::os).length).map (k + ·)=k::(List.range os.length).map (k+1 + ·):=by
     rw [List.length_cons,List.range_succ_eq_map]
     simp only [List.map_cons,List.map_map,Nat.add_zero]
     congr 1
     apply List.map_congr_left
     intro j _
     simp only [Function.comp]; omega
   rw [e]
   simp only [runOps,runL]
   have hs:stepA P C call none ops k s=stepO P C call none ops o s:=by rw [stepA_eq]; simp only [h0]; rfl
   rw [hs]
   congr 1; funext s'
   exact runL_eq call ops os (k+1) s' fun i o' hi=>by
     have:=h (i+1) o' (by simpa using hi)
     rwa [show k+1+i=k+(i+1) by omega]
theorem ev_region (id:Nat) (ops:Array Oper) (s:St):EvC P C W pl (.region id ops false) s=(runL P C (Ev P C W) ops ops.toList s).bind fun s'=>some (.normal,s'):=by
 rw [EvC_region]
 congr 1
 have:=runL_eq (P:=P) (C:=C) (Ev P C W) ops ops.toList 0 s (fun i o h=>by simpa using h)
 rw [<-this]
 congr 1
 simp
theorem runL_nil (call:CallF) (ops:Array Oper) (s:St):runL P C call ops [] s=some s:=rfl
theorem runL_cons (call:CallF) (ops:Array Oper) (o:Oper) (os:List Oper) (s:St):runL P C call ops (o::os) s=(stepO P C call none ops o s).bind fun s'=>runL P C call ops os s':=rfl
theorem stepO_none (call:CallF) (slot:Option Nat) (ops:Array Oper) (dst:Option Tmp) (op:Op) (ty:TypeId) (pos:String) (after:Array Edge) (tm:List AV) (H:AH) :
   stepO P C call slot ops ⟨dst,op,ty,pos,after,none⟩ (tm,H)=(aop P C slot (evalA C.gl tm) ⟨dst,op,ty,pos,after,none⟩ H).bind fun r=>match r with
     | (.val v,H')=>some (putA dst v tm,H')
     | (.skip,H')=>some (putA dst uA tm,H')
     | (.enter f args,H')=>(call f args H').bind fun r=>some (putA dst r.1 tm,r.2):=rfl
section
variable (slot:Option Nat) (ev:Operand->Option AV) (dst:Option Tmp) (ty:TypeId) (pos:String) (after:Array Edge) (g:Option (Nat × Bool)) (H:AH)
theorem aop_move (x:Operand):aop P C slot ev ⟨dst,.move x,ty,pos,after,g⟩ H=(ev x).map fun v=>(.val v,H):=rfl
theorem aop_assign (x:Operand):aop P C slot ev ⟨dst,.assign x,ty,pos,after,g⟩ H=(ev x).map fun v=>(.val v,H):=rfl
theorem aop_load (t:TypeId) (a:Operand):aop P C slot ev ⟨dst,.load t a,ty,pos,after,g⟩ H=(ev a).bind fun av=>match av with
   | .ptr i k=>(ldA P t H i k).map fun v=>(.val v,H)
   | _=>none:=rfl
theorem aop_store (t:TypeId) (a x:Operand):aop P C slot ev ⟨dst,.store t a x,ty,pos,after,g⟩ H=(ev a).bind fun av=>(ev x).bind fun xv=>match av with
   | .ptr i k=>(stA P t H i k xv).map fun H'=>(.skip,H')
   | _=>none:=rfl
theorem aop_alloc (e:TypeId):aop P C slot ev ⟨dst,.alloc e,ty,pos,after,g⟩ H=(zeroA P e).bind fun z=>(put slot H (.cells z.cells e)).map fun (i,H')=>(.val (.ptr i 0),H'):=rfl
theorem aop_box (e:TypeId) (x:Operand):aop P C slot ev ⟨dst,.box e x,ty,pos,after,g⟩ H=(ev x).bind fun v=>(put slot H (.cells v.cells e)).map fun (i,H')=>(.val (.ptr i 0),H'):=rfl
theorem aop_build (t:TypeId) (ps:Array (Nat × Operand)):aop P C slot ev ⟨dst,.build t ps,ty,pos,after,g⟩ H=(evP ev ps.toList).bind fun qs=>(buildA P t qs).map fun v=>(.val v,H):=rfl
theorem aop_buildSlice (t:TypeId) (len:Nat) (ps:Array (Nat × Operand)):aop P C slot ev ⟨dst,.buildSlice t len ps,ty,pos,after,g⟩ H=(evP ev ps.toList).bind fun qs=>(buildSliceA P slot t len qs H).map fun (v,H')=>(.val v,H'):=rfl
theorem aop_nilCheck (x:Operand):aop P C slot ev ⟨dst,.nilCheck x,ty,pos,after,g⟩ H=(ev x).bind fun v=>(nilCheckA v).map fun v=>(.val v,H):=rfl
theorem aop_makeSlice (t:TypeId) (l c:Operand):aop P C slot ev ⟨dst,.makeSlice t l c,ty,pos,after,g⟩ H=(ev l).bind fun lv=>(ev c).bind fun cv=>(makeSliceA P slot t lv cv H).map fun (v,H')=>(.val v,H'):=rfl
theorem aop_fieldAddr (t:TypeId) (x:Operand) (f:Nat):aop P C slot ev ⟨dst,.fieldAddr t x f,ty,pos,after,g⟩ H=(ev x).bind fun xv=>(fieldAddrA P t xv f).map fun v=>(.val v,H):=rfl
theorem aop_field (t:TypeId) (x:Operand) (f:Nat):aop P C slot ev ⟨dst,.field t x f,ty,pos,after,g⟩ H=(ev x).bind fun xv=>(fieldA P t xv f).map fun v=>(.val v,H):=rfl
theorem aop_indexAddr (t:TypeId) (x i:Operand):aop P C slot ev ⟨dst,.indexAddr t x i,ty,pos,after,g⟩ H=(ev x).bind fun xv=>(ev i).bind fun iv=>(indexAddrA P t xv iv).map fun v=>(.val v,H):=rfl
theorem aop_lookup (t:TypeId) (m k:Operand) (ok:Bool):aop P C slot ev ⟨dst,.lookup t m k ok,ty,pos,after,g⟩ H=(ev m).bind fun mv=>(ev k).bind fun kv=>(lookupA P t mv kv ok H).map fun v=>(.val v,H):=rfl
theorem aop_mapUpdate (t:TypeId) (m k v:Operand):aop P C slot ev ⟨dst,.mapUpdate t m k v,ty,pos,after,g⟩ H=(ev m).bind fun mv=>(ev k).bind fun kv=>(ev v).bind fun vv=>(mapPutA P t mv kv vv H).map fun H'=>(.skip,H'):=rfl
theorem aop_makeMap (t:TypeId):aop P C slot ev ⟨dst,.makeMap t none,ty,pos,after,g⟩ H=(put slot H (.map [] 0)).map fun (i,H')=>(.val (.map i),H'):=rfl
theorem aop_makeFunc (fn:Fn) (f c:Array Operand):aop P C slot ev ⟨dst,.makeFunc fn f c,ty,pos,after,g⟩ H=(evL ev f.toList).bind fun f=>(evL ev c.toList).map fun c=>(.val (.func fn f c),H):=rfl
theorem aop_extract (t:Operand) (ix:Nat):aop P C slot ev ⟨dst,.extract t ix,ty,pos,after,g⟩ H=(ev t).bind fun tv=>match tv with
   | .tuple vs=>(vs[ix]?).map fun v=>(.val v,H)
   | _=>none:=rfl
theorem aop_pick (c a b:Operand):aop P C slot ev ⟨dst,.pick c a b,ty,pos,after,g⟩ H=(ev c).bind fun cv=>match cv with
   | .bool true=>(ev a).map fun v=>(.val v,H)
   | .bool false=>(ev b).map fun v=>(.val v,H)
   | _=>none:=rfl
theorem aop_slice (t:TypeId) (x:Operand) (lo hi mx:Option Operand):aop P C slot ev ⟨dst,.slice t x lo hi mx,ty,pos,after,g⟩ H=(ev x).bind fun xv=>(evO ev lo).bind fun l=>(evO ev hi).bind fun h=>(evO ev mx).bind fun m =>
   match sliceA P t H xv l h m with
   | some v=>some (.val v,H)
   | none=>(pureA P ev ⟨dst,.slice t x lo hi mx,ty,pos,after,g⟩).map fun n=>(n,H):=rfl
theorem aop_binOp (op:BinOp) (t yt:TypeId) (x y:Operand):aop P C slot ev ⟨dst,.binOp op t x y yt,ty,pos,after,g⟩ H=(ev x).bind fun xv=>(ev y).bind fun yv =>
   match xv,yv with
   | .int k a,.int k' b=>match (if k=k' then intBinA op k a b else none) with
     | some v=>some (.val v,H)
     | none=>(pureA P ev ⟨dst,.binOp op t x y yt,ty,pos,after,g⟩).map fun n=>(n,H)
   | _,_=>match op,eqA P t H xv yv with
     | .eql,some r=>some (.val (.bool r),H)
     | .neq,some r=>some (.val (.bool (!r)),H)
     | _,_=>(pureA P ev ⟨dst,.binOp op t x y yt,ty,pos,after,g⟩).map fun n=>(n,H):=rfl
theorem aop_call (c:Call):aop P C slot ev ⟨dst,.call c,ty,pos,after,g⟩ H=callA P C slot ev ⟨dst,.call c,ty,pos,after,g⟩ c H:=rfl
theorem callA_value (o:Oper) (f:Nat) (xs:Array Operand) (ats:Array TypeId):callA P C slot ev o ⟨.value (.tmp f),xs,ats⟩ H=(ev (.tmp f)).bind fun fv=>(evL ev xs.toList).bind fun as =>
   match fv with
   | .func (.func g) first cap=>(P.funcs[g]?).bind fun fn=>if fn.body.isSome then some (.enter g (first++as++cap),H) else none
   | _=>none:=rfl
theorem callA_len (o:Oper) (x:Operand) (t:TypeId):callA P C slot ev o ⟨.builtin .len,#[x],#[t]⟩ H=(ev x).bind fun v=>(lenA P t H v).map fun v=>(.val v,H):=by
 unfold callA; simp only [evL]; cases ev x <;> rfl
theorem callA_append (o:Oper) (x y:Operand) (t u:TypeId):callA P C slot ev o ⟨.builtin .append,#[x,y],#[t,u]⟩ H=(ev x).bind fun s=>(ev y).bind fun v=>(appendA P slot t (some u) s v H).map fun (v,H')=>(.val v,H'):=by
 unfold callA; simp only [evL]; cases ev x with
 | none=>rfl
 | some v=>cases ev y <;> rfl
end
theorem ev_tmp (gl:GL) (tm:List AV) (t:Tmp):evalA gl tm (.tmp t)=some (tm.getD t uA):=rfl
theorem ev_const (gl:GL) (tm:List AV) (v:Value):evalA gl tm (.const v)=ofV 6 v:=rfl
theorem ofV_int (k:IntKind) (n:Int):ofV 6 (.int k n)=some (.int k n):=rfl
theorem ofV_bool (b:Bool):ofV 6 (.bool b)=some (.bool b):=rfl
theorem ofV_str (s:ByteArray):ofV 6 (.string s)=some (.str s):=rfl
theorem ofV_nilSlice:ofV 6 (.slice none 0 0)=some .nilSlice:=rfl
theorem ofV_nilPtr:ofV 6 (.pointer none)=some .nilPtr:=rfl
theorem putA_some (d:Tmp) (v:AV) (tm:List AV):putA (some d) v tm=tm.set d v:=rfl
theorem putA_none (v:AV) (tm:List AV):putA none v tm=tm:=rfl
end
end Go.Dv
