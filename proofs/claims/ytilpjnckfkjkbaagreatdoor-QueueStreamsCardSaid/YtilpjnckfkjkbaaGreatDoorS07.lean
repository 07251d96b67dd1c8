/- Part 07 of the walks (own work). -/
import Derived.Test.YtilpjnckfkjkbaaGreatDoorS06
open Bool renaming and_eq_true→aD
open List renaming range→bn,range'→wq,replicate→aA
open Nat renaming le_max_left→yi,le_max_right→vE
open Option renaming bind_eq_some_iff→ae,bind_some→ay,map_eq_some_iff→ah
set_option maxRecDepth 100000
set_option maxHeartbeats 4000000
set_option linter.unusedSimpArgs false
set_option linter.unusedVariables false
namespace Go.Dv
def Gs (g z:Nat):Env:=fun i=>if i=0 then some (g,0,z) else none
theorem WR.Q6 (w:World) {g:Nat} {cs:List AV} (hg:g < w.heap.size) (ho:OR (Gs g cs.length) w 0 (.arg cs)):WR w (fun b=>b < w.heap.size) (Gs g cs.length) [.arg cs] w where
 dom:=fun i hi=>by simp at hi; simp only [Gs]; rw [if_neg (by omega)]
 fresh:=fun i hi=>by cases i <;> simp at hi
 lt:=fun i y hy=>by simp only [Gs] at hy; split at hy <;> simp at hy; subst hy; exact hg
 inj:=fun i j x y ⟨o,hi,hw⟩=>by cases i <;> simp at hi; subst hi; cases hw
 own:=fun i x ⟨o,hi,hw⟩=>by cases i <;> simp at hi; subst hi; cases hw
 jb:=fun i y cs hi hy=>by simp only [Gs] at hy; split at hy <;> simp at hy; subst hy; exact hg
 obj:=fun i o hi=>by
   cases i with
   | zero=>simp at hi; subst hi; exact ho
   | succ i=>simp at hi
 prLt:=fun b h=>h
 size:=Nat.le_refl _
 os:=rfl
 tape:=rfl
 output:=rfl
 old:=fun _ _=>rfl
def nT (g:Nat) (cs:List AV) (w0:World) (Pr:Nat->Prop):Prop:=Pr g/\∀ j v,cs[j]? =some v->∃ u,w0.cell? ⟨g,j,none⟩=some u/\toV v=some u
theorem nT.later {g:Nat} {cs:List AV} {w0 w:World} {Pr:Nat->Prop} {φ:Env} {H:AH} (h:nT g cs w0 Pr) (hW:WR w0 Pr φ H w):nT g cs w (fun b=>b < w.heap.size):=by
 refine ⟨Nat.lt_of_lt_of_le (hW.prLt g h.1) hW.size,fun j v hj=>?_⟩
 obtain ⟨u,hu,hv⟩:=h.2 j v hj
 refine ⟨u,?_,hv⟩
 rw [<-hu]
 exact World.cell?_of_block (w:=w0) (a:=⟨g,j,none⟩) (hW.old g h.1)
def AM {P:Program} (C:Cfg P) (G:AH):Prop:=∀ w0 Pr φ H w,C.pin w0 Pr->WR w0 Pr φ H w->∃ φ0,WR w (fun b=>b < w.heap.size) φ0 G w/\GI C.gl φ0/\C.pin w (fun b=>b < w.heap.size)
theorem C3 {P:Program} {C:Cfg P} {g:Nat} {cs:List AV} (hg:C.gl=fun x=>if x=g then some 0 else none) (hp:C.pin=nT g cs):AM C [.arg cs]:=by
 intro w0 Pr φ H w h hW
 rw [hp] at h ⊢
 have hl:=h.later hW
 refine ⟨Gs g cs.length,WR.Q6 w hl.1 ⟨g,0,cs.length,rfl,fun j v hj=>?_⟩,?_,hl⟩
 · obtain ⟨u,hu,hv⟩:=hl.2 j v hj
   exact ⟨u,by rw [Nat.zero_add]; exact hu,zN v u hv⟩
 · rw [hg]
   intro x i hi
   simp only at hi
   split at hi
   · rename_i hx; cases hi; subst hx; exact ⟨_,rfl⟩
   · cases hi
abbrev Eb:=FuncId × List AV × AV
def qC (l:List Eb):bT:=fun f args H=>(l.find? fun e=>f == e.1 && AV.rY e.2.1 args).map fun e=>(e.2.2,H)
def rW (P:Program) (C:Cfg P) (Wy:o6 P) (G:AH) (n:Nat) (e:Eb):Bool:=(tK e.2.1).isSome && (toV e.2.2).isSome && match ct P C Wy n e.1 e.2.1 G with
 | some (v,_)=>AV.beq v e.2.2
 | none=>false
theorem Aw {P:Program} {C:Cfg P} {Wy:o6 P} {G:AH} (hst:AM C G) {n:Nat} {l:List Eb} (hl:l.all (rW P C Wy G n)=true) (gl:GL) (w0:World) (Pr:Nat->Prop) (hpin:C.pin w0 Pr):iq P gl w0 Pr (qC l):=by
 intro f args H v H' h φ w vs _ hW hr
 unfold qC at h
 simp only [ah,Prod.mk.injEq] at h
 obtain ⟨⟨g,as',v'⟩,he,rfl,rfl⟩:=h
 have hm:=List.mem_of_find?_eq_some he
 have hp:=List.find?_some he
 simp only [aD,beq_iff_eq] at hp
 obtain ⟨rfl,hp⟩:=hp
 have ha:=AV.lV _ _ hp
 subst ha
 have hs:=List.all_eq_true.1 hl _ hm
 simp only [rW,aD] at hs
 obtain ⟨⟨h1,h2⟩,h3⟩:=hs
 split at h3
 · rename_i v0 H0 he0
   have hv:=AV.beq_eq _ _ h3
   subst hv
   obtain ⟨φ0,hW0,hg0,hp0⟩:=hst w0 Pr φ H w hpin hW
   have:=ja (C:=C) Wy n hp0 f as' G v0 H0 he0 φ0 w vs hg0 hW0 (HF h1 hr)
   refine this.mono fun e w' hw=>?_
   obtain ⟨φ',u,_,he,hu,hW'⟩:=hw
   exact ⟨φ,u,Env.le_refl φ,he,zM h2 hu,hW.later hW'.size hW'.old hW'.os hW'.tape hW'.output⟩
 · cases h3
def orElse (a b:bT):bT:=fun f args H=>(a f args H).or (b f args H)
theorem Gp {P:Program} {gl:GL} {w0:World} {Pr:Nat->Prop} {a b:bT} (ha:iq P gl w0 Pr a) (hb:iq P gl w0 Pr b):iq P gl w0 Pr (orElse a b):=by
 intro f args H v H' h
 unfold orElse at h
 cases h1:a f args H with
 | some r=>rw [h1] at h; simp at h; subst h; exact ha f args H v H' h1
 | none=>rw [h1] at h; simp at h; exact hb f args H v H' h
end Go.Dv
namespace Go.Dv
def my {α:Type} (g:Nat->Option α):Prop:=∀ n r,g n=some r->g (n+1)=some r
theorem my.le {α:Type} {g:Nat->Option α} (h:my g) {n m:Nat} (hnm:n<=m) {r:α} (hr:g n=some r):g m=some r:=by
 induction hnm with
 | refl=>exact hr
 | step _ ih=>exact h _ _ ih
open Classical in
noncomputable def lim {α:Type} (g:Nat->Option α):Option α:=if h:∃ n r,g n=some r then some (Classical.choose (Classical.choose_spec h)) else none
theorem ml {α:Type} {g:Nat->Option α} {r:α} (h:lim g=some r):∃ n,g n=some r:=by
 unfold lim at h
 split at h
 · rename_i he
   cases h
   exact ⟨_,Classical.choose_spec (Classical.choose_spec he)⟩
 · cases h
theorem tZ {α:Type} {g:Nat->Option α} (hg:my g) {n:Nat} {r:α} (h:g n=some r):lim g=some r:=by
 have he:∃ n r,g n=some r:=⟨n,r,h⟩
 cases hl:lim g with
 | none=>unfold lim at hl; rw [dif_pos he] at hl; cases hl
 | some r' =>
   obtain ⟨m,hm⟩:=ml hl
   have h1:=hg.le (yi n m) h
   have h2:=hg.le (vE n m) hm
   rw [h1] at h2; cases h2; rfl
theorem sX {α:Type} {g:Nat->Option α} (h:lim g=none) (n:Nat):g n=none:=by
 cases hn:g n with
 | none=>rfl
 | some r=>unfold lim at h; rw [dif_pos ⟨n,r,hn⟩] at h; cases h
theorem k5 {α:Type} {g:Nat->Option α} (h:∀ n,g n=none):lim g=none:=by
 cases hl:lim g with
 | none=>rfl
 | some r=>obtain ⟨n,hn⟩:=ml hl; rw [h n] at hn; cases hn
theorem bK {α:Type} (x:Option α):lim (fun _=>x)=x:=by
 cases x with
 | none=>exact k5 fun _=>rfl
 | some r=>exact tZ (g:=fun _=>some r) (fun _ _ h=>h) (n:=0) rfl
theorem dm {α β:Type} {g:Nat->Option α} {k:Nat->α->Option β} (hg:my g) (hk:∀ x,my fun n=>k n x):my fun n=>(g n).bind (k n):=fun n r h=>by
 simp only [ae] at h ⊢
 obtain ⟨x,hx,hr⟩:=h
 exact ⟨x,hg n x hx,hk x n r hr⟩
theorem fg {α β:Type} {g:Nat->Option α} {k:Nat->α->Option β} (hg:my g) (hk:∀ x,my fun n=>k n x) :
   lim (fun n=>(g n).bind (k n))=(lim g).bind fun x=>lim fun n=>k n x:=by
 cases h1:lim g with
 | none=>exact k5 fun n=>by rw [sX h1 n]; rfl
 | some x =>
   obtain ⟨n1,hn1⟩:=ml h1
   simp only [ay]
   cases h2:lim (fun n=>k n x) with
   | none =>
     refine k5 fun n=>?_
     cases hb:(g n).bind (k n) with
     | none=>rfl
     | some r =>
       simp only [ae] at hb
       obtain ⟨y,hy,hr⟩:=hb
       have e1:=hg.le (yi n n1) hy
       have e2:=hg.le (vE n n1) hn1
       rw [e1] at e2; cases e2
       have:=sX h2 n; rw [hr] at this; cases this
   | some r =>
     obtain ⟨n2,hn2⟩:=ml h2
     refine tZ (dm hg hk) (n:=max n1 n2) ?_
     rw [hg.le (yi n1 n2) hn1]
     exact (hk x).le (vE n1 n2) hn2
theorem tY {α:Type} {g:Nat->Option α} (hg:my g):lim (fun n=>g (n+1))=lim g:=by
 cases h:lim g with
 | none=>exact k5 fun n=>sX h _
 | some r =>
   obtain ⟨n,hn⟩:=ml h
   exact tZ (fun n r h=>hg (n+1) r h) (n:=n) (hg n r hn)
theorem aV {α:Type} (x:Option α):my fun _=>x:=fun _ _ h=>h
section
variable {P:Program} {C:Cfg P} {W:o6 P} {pl:Nat->Option Way}
def mn (c:Nat->bT):Prop:=∀ f a H,my fun n=>c n f a H
noncomputable def Dw (c:Nat->bT):bT:=fun f a H=>lim fun n=>c n f a H
theorem sr (call:bT) (slot:Option Nat) (ops:Array Oper) (i:Nat) (s:St):jF P C call slot ops i s =
   match ops[i]? with
   | none=>some s
   | some o=>if Region.wanted o (cL ops s.1) then (aop P C slot (cz C.gl s.1) o s.2).bind fun r=>match r with
       | (.val v,H')=>some (dY o.dst v s.1,H')
       | (.skip,H')=>some (dY o.dst uA s.1,H')
       | (.enter f args,H')=>(call f args H').bind fun r=>some (dY o.dst r.1 s.1,r.2)
     else some (dY o.dst uA s.1,s.2):=by
 unfold jF
 cases ops[i]? with
 | none=>rfl
 | some o =>
   simp only
   by_cases hw:Region.wanted o (cL ops s.1)=true
   · rw [if_pos hw,if_pos hw]
     cases aop P C slot (cz C.gl s.1) o s.2 with
     | none=>rfl
     | some r =>
       obtain ⟨r,H'⟩:=r
       cases r with
       | val v=>rfl
       | skip=>rfl
       | enter f args=>simp only [ay]; cases call f args H' <;> rfl
   · rw [if_neg hw,if_neg hw]
theorem oB {c:Nat->bT} (hc:mn c) (slot:Option Nat) (ops:Array Oper) (i:Nat) (s:St):my fun n=>jF P C (c n) slot ops i s:=by
 simp only [sr]
 split
 · exact aV _
 · split
   · refine dm (aV _) fun r=>?_
     obtain ⟨r,H'⟩:=r
     cases r with
     | val v=>exact aV _
     | skip=>exact aV _
     | enter f args=>exact dm (hc f args H') fun x=>aV _
   · exact aV _
theorem yO {c:Nat->bT} (hc:mn c) (slot:Option Nat) (ops:Array Oper) (i:Nat) (s:St):lim (fun n=>jF P C (c n) slot ops i s)=jF P C (Dw c) slot ops i s:=by
 simp only [sr]
 split
 · exact bK _
 · split
   · rename_i o ho hw
     cases ha:aop P C slot (cz C.gl s.1) o s.2 with
     | none=>exact bK _
     | some r =>
       obtain ⟨r,H'⟩:=r
       simp only [ay]
       cases r with
       | val v=>exact bK _
       | skip=>exact bK _
       | enter f args =>
         show lim (fun n=>(c n f args H').bind fun r=>some (dY o.dst r.1 s.1,r.2))=_
         refine (fg (k:=fun _ r=>some (dY o.dst r.1 s.1,r.2)) (hc f args H') (fun x=>aV _)).trans ?_
         simp only [bK]; rfl
   · exact bK _
theorem iQ {c:Nat->bT} (hc:mn c) (ops:Array Oper):∀ (is:List Nat) (s:St),my fun n=>jz P C (c n) ops is s
 | [],s=>aV _
 | i::is,s=>by simp only [jz]; exact dm (oB hc none ops i s) fun x=>iQ hc ops is x
theorem rQ {c:Nat->bT} (hc:mn c) (ops:Array Oper):∀ (is:List Nat) (s:St),lim (fun n=>jz P C (c n) ops is s)=jz P C (Dw c) ops is s
 | [],s=>bK _
 | i::is,s=>by
   simp only [jz]
   rw [fg (oB hc none ops i s) fun x=>iQ hc ops is x,yO hc]
   congr 1; funext x; exact rQ hc ops is x
mutual
theorem dE {c:Nat->bT} (hc:mn c) (base:Nat) (ops:Array Oper):∀ (p:dM) (s:St),my fun n=>bU P C (c n) base ops p s
 | .done,s=>by simp only [bU]; exact aV _
 | .take i p,s=>by
   simp only [bU]
   split
   · exact aV _
   · exact dm (aV _) fun x=>dE hc base ops p _
 | .all l,s=>by simp only [bU]; exact kY hc base ops l s none
 | .rd i p,s=>by
   simp only [bU]
   split
   · exact aV _
   · exact dm (aV _) fun v=>dE hc base ops p _
 | .join p q,s=>by simp only [bU]; exact dm (dE hc base ops p s) fun t=>dE hc base ops q t
theorem kY {c:Nat->bT} (hc:mn c) (base:Nat) (ops:Array Oper):∀ (l:List (Nat × dM)) (s:St) (r:Option St),my fun n=>er P C (c n) base ops l s r
 | [],s,r=>by simp only [er]; exact aV _
 | (i,p)::l,s,r=>by
   simp only [er]
   refine dm (oB hc _ ops i s) fun s'=>dm (dE hc base ops p s') fun t=>?_
   split
   · exact kY hc base ops l s _
   · split
     · exact kY hc base ops l s _
     · exact aV _
end
mutual
theorem jI {c:Nat->bT} (hc:mn c) (base:Nat) (ops:Array Oper):∀ (p:dM) (s:St),lim (fun n=>bU P C (c n) base ops p s)=bU P C (Dw c) base ops p s
 | .done,s=>by simp only [bU]; exact bK _
 | .take i p,s=>by
   simp only [bU]
   split
   · exact bK _
   · rw [fg (aV _) fun x=>dE hc base ops p _,bK]
     congr 1; funext x; exact jI hc base ops p _
 | .all l,s=>by simp only [bU]; exact rR hc base ops l s none
 | .rd i p,s=>by
   simp only [bU]
   split
   · exact bK _
   · refine (fg (aV _) fun v=>dE hc base ops p _).trans ?_
     rw [bK]
     congr 1; funext v; exact jI hc base ops p _
 | .join p q,s=>by
   simp only [bU]
   rw [fg (dE hc base ops p s) fun t=>dE hc base ops q t,jI hc base ops p s]
   congr 1; funext t; exact jI hc base ops q t
theorem rR {c:Nat->bT} (hc:mn c) (base:Nat) (ops:Array Oper):∀ (l:List (Nat × dM)) (s:St) (r:Option St),lim (fun n=>er P C (c n) base ops l s r)=er P C (Dw c) base ops l s r
 | [],s,r=>by simp only [er]; exact bK _
 | (i,p)::l,s,r=>by
   simp only [er]
   have hm:∀ (t:St),my fun n=>(match r with
     | none=>er P C (c n) base ops l s (some t)
     | some t0=>if pe t0 t=true then er P C (c n) base ops l s (some t0) else none):=fun t=>by
     split
     · exact kY hc base ops l s _
     · split
       · exact kY hc base ops l s _
       · exact aV _
   refine (fg (k:=fun n s'=>(bU P C (c n) base ops p s').bind fun t=>match r with
     | none=>er P C (c n) base ops l s (some t)
     | some t0=>if pe t0 t=true then er P C (c n) base ops l s (some t0) else none) (oB hc _ ops i s) fun s'=>dm (dE hc base ops p s') hm).trans ?_
   rw [yO hc]
   congr 1; funext s'
   refine (fg (k:=fun n t=>match r with
     | none=>er P C (c n) base ops l s (some t)
     | some t0=>if pe t0 t=true then er P C (c n) base ops l s (some t0) else none) (dE hc base ops p s') hm).trans ?_
   rw [jI hc base ops p s']
   congr 1; funext t
   cases r with
   | none=>exact rR hc base ops l s _
   | some t0 =>
     simp only
     by_cases hb:pe t0 t=true
     · simp only [if_pos hb]; exact rR hc base ops l s _
     · simp only [if_neg hb]; exact bK _
end
theorem xk (f:St->Option (bu × St)) (n:Nat) (s:St):jZ f (n+1) s=(f s).bind fun r=>match r with
   | (.normal,s')=>jZ f n s'
   | r=>some r:=by
 simp only [jZ]
 split
 · rename_i h; rw [h]; rfl
 · rename_i h
   cases hf:f s with
   | none=>rfl
   | some r =>
     obtain ⟨e,s'⟩:=r
     cases e with
     | normal=>exact absurd hf (h s')
     | _=>rfl
theorem kp {f:Nat->St->Option (bu × St)} (hf:∀ s,my fun n=>f n s):∀ (n m:Nat) (s:St) (r:bu × St),jZ (f n) m s=some r->∀ n' m',n<=n'->m<=m'->jZ (f n') m' s=some r
 | n,0,s,r,h,_,_,_,_=>by simp [jZ] at h
 | n,m+1,s,r,h,n',m',hn,hm=>by
   obtain ⟨m',rfl⟩:∃ q,m'=q+1:=⟨m' - 1,by omega⟩
   rw [xk] at h ⊢
   simp only [ae] at h ⊢
   obtain ⟨x,hx,hr⟩:=h
   refine ⟨x,(hf s).le hn hx,?_⟩
   split at hr
   · exact kp hf n m _ r hr n' m' hn (by omega)
   · exact hr
theorem E5 (call:bT) (n:Nat) (a b:Code) (s:St):evC P C call pl n (.seq a b) s=(evC P C call pl n a s).bind fun r=>match r with
   | (.normal,s')=>evC P C call pl n b s'
   | r=>some r:=by
 simp only [evC]
 split
 · rename_i h; rw [h]; rfl
 · rename_i h
   cases hf:evC P C call pl n a s with
   | none=>rfl
   | some r =>
     obtain ⟨e,s'⟩:=r
     cases e with
     | normal=>exact absurd hf (h s')
     | _=>rfl
theorem zk (call:bT) (n:Nat) (id:Nat) (b:Code) (s:St):evC P C call pl n (.block id b) s=(evC P C call pl n b s).bind fun r=>match r with
   | (.exit id',s')=>if id'=id then some (.normal,s') else some (.exit id',s')
   | r=>some r:=by
 simp only [evC]
 split
 · rename_i h; rw [h]; rfl
 · rename_i h
   cases hf:evC P C call pl n b s with
   | none=>rfl
   | some r =>
     obtain ⟨e,s'⟩:=r
     cases e with
     | exit id'=>exact absurd hf (h id' s')
     | _=>rfl
theorem mj {c:Nat->bT} (hc:mn c) (ops:Array Oper):∀ (l:List Oper) (s:St),my fun n=>gE P C (c n) ops l s
 | [],s=>by simp only [gE]; exact aV _
 | o::l,s=>by
   simp only [gE]
   split
   · refine dm ?_ fun v=>mj hc ops l _
     unfold gz
     split
     · split
       · exact aV _
       · refine dm (aV _) fun r=>?_
         split
         · split
           · simp only [show ∀ (f:AV × AH->AV) (o:Option (AV × AH)),o.map f=o.bind fun x=>some (f x) from fun f o=>by cases o <;> rfl]
             exact dm (hc _ _ _) fun _=>aV _
           · exact aV _
         · exact aV _
     · exact aV _
   · exact mj hc ops l _
theorem Gy {c:Nat->bT} (hc:mn c) (ev:Operand->Option AV) (o:Oper) (H:AH):lim (fun n=>gz P C (c n) ev o H)=gz P C (Dw c) ev o H:=by
 unfold gz
 split
 · split
   · exact bK _
   · rename_i cc _ _ _
     cases ha:fN P C none ev o cc H with
     | none=>exact bK _
     | some r =>
       obtain ⟨r,H'⟩:=r
       simp only [ay]
       cases r with
       | val v=>exact bK _
       | skip=>exact bK _
       | enter f args =>
         simp only
         split
         · simp only [show ∀ (f:AV × AH->AV) (o:Option (AV × AH)),o.map f=o.bind fun x=>some (f x) from fun f o=>by cases o <;> rfl]
           refine (fg (k:=fun _ x=>some x.1) (hc f args H) (fun x=>aV _)).trans ?_
           simp only [bK]; rfl
         · exact bK _
 · exact bK _
theorem Dt {c:Nat->bT} (hc:mn c) (ev:Operand->Option AV) (o:Oper) (H:AH):my (fun n=>gz P C (c n) ev o H):=by
 unfold gz
 split
 · split
   · exact aV _
   · refine dm (aV _) fun r=>?_
     split
     · split
       · simp only [show ∀ (f:AV × AH->AV) (o:Option (AV × AH)),o.map f=o.bind fun x=>some (f x) from fun f o=>by cases o <;> rfl]
         exact dm (hc _ _ _) fun _=>aV _
       · exact aV _
     · exact aV _
 · exact aV _
theorem t6 {c:Nat->bT} (hc:mn c) (ops:Array Oper):∀ (l:List Oper) (s:St),lim (fun n=>gE P C (c n) ops l s)=gE P C (Dw c) ops l s
 | [],s=>by simp only [gE]; exact bK _
 | o::l,s=>by
   simp only [gE]
   split
   · rw [fg (Dt hc _ o s.2) fun v=>mj hc ops l _,Gy hc]
     congr 1; funext v; exact t6 hc ops l _
   · exact t6 hc ops l _
theorem map_bind {α β:Type} (f:α->β) (o:Option α):o.map f=o.bind fun x=>some (f x):=by cases o <;> rfl
theorem fc {c:Nat->bT} (hc:mn c):∀ (x:Code) (s:St),my fun n=>evC P C (c n) pl n x s
 | .skip,s=>by simp only [evC]; exact aV _
 | .region id ops false,s=>by
   simp only [evC]; intro n r h
   simp only [ah] at h ⊢
   obtain ⟨x,hx,hr⟩:=h
   exact ⟨x,iQ hc ops _ _ n x hx,hr⟩
 | .region id ops true,s=>by
   simp only [evC]
   split
   · simp only [map_bind]; exact dm (dE hc _ ops _ _) fun x=>aV _
   · exact aV _
   · simp only [map_bind]; exact dm (aV _) fun x=>dm (iQ hc ops _ _) fun y=>aV _
   · simp only [map_bind]; exact dm (dE hc _ ops _ _) fun x=>aV _
   · exact aV _
   · simp only [map_bind]; exact dm (mj hc ops _ _) fun x=>aV _
   · exact aV _
 | .seq a b,s=>by
   simp only [E5]
   refine dm (fc hc a s) fun r=>?_
   obtain ⟨e,s'⟩:=r
   cases e with
   | normal=>exact fc hc b s'
   | _=>exact aV _
 | .cond q x y,s=>by
   simp only [evC]
   split
   · exact fc hc x s
   · exact fc hc y s
   · exact aV _
 | .block id b,s=>by
   simp only [zk]
   exact dm (fc hc b s) fun r=>aV _
 | .loop b,s=>by
   simp only [evC]; intro n r h
   exact kp (f:=fun n s=>evC P C (c n) pl n b s) (fun s=>fc hc b s) n n s r h (n+1) (n+1) (by omega) (by omega)
 | .exit id,s=>by simp only [evC]; exact aV _
 | .ret,s=>by simp only [evC]; exact aV _
 | .rangeFunc ..,s=>by simp only [evC]; exact aV _
 | .scope _,s=>by simp only [evC]; exact aV _
 | .label _,s=>by simp only [evC]; exact aV _
 | .goto _,s=>by simp only [evC]; exact aV _
 | .refuse _,s=>by simp only [evC]; exact aV _
def KU (P:Program) (C:Cfg P) (f:FuncId) (fn:Func) (H:AH) (r:bu × St):Option (AV × AH):=match r with
 | (.normal,s)=>(nB P fn s).bind (kj (C.reads f) H)
 | (.ret,s)=>(nB P fn s).bind (kj (C.reads f) H)
 | _=>none
theorem vd (n:Nat) (f:FuncId) (args:List AV) (H:AH) (ho:C.orc f args H=none):ct P C W (n+1) f args H =
   (P.funcs[f]?).bind fun fn=>fn.body.bind fun c =>
     (evC P C (ct P C W n) (W.pl f) n c (args++aA (fn.ntmps - args.length) uA,if C.reads f then ro H else H)).bind (KU P C f fn H):=by
 simp only [ct,ho]
 congr 1; funext fn; congr 1; funext c
 cases evC P C (ct P C W n) (W.pl f) n c (args++aA (fn.ntmps - args.length) uA,if C.reads f then ro H else H) with
 | none=>rfl
 | some r=>obtain ⟨e,s⟩:=r; cases e <;> rfl
theorem cp:mn (ct P C W):=by
 have key:∀ n f a H r,ct P C W n f a H=some r->ct P C W (n+1) f a H=some r:=by
   intro n
   induction n with
   | zero=>intro f a H r h; simp [ct] at h
   | succ n ih =>
     intro f a H r h
     cases ho:C.orc f a H with
     | some r'=>simp only [ct,ho] at h ⊢; exact h
     | none =>
     rw [vd _ _ _ _ ho] at h ⊢
     simp only [ae] at h ⊢
     obtain ⟨fn,hfn,c,hc,x,hx,hr⟩:=h
     refine ⟨fn,hfn,c,hc,x,?_,hr⟩
     have hm':mn (fun k=>if k<=n then ct P C W n else ct P C W (n+1)):=fun f a H k r hk=>by
       simp only at hk ⊢
       split at hk
       · split
         · exact hk
         · exact ih f a H r hk
       · rw [if_neg (by omega)]; exact hk
     have:=(fc (P:=P) (C:=C) (pl:=W.pl f) hm' c (a++aA (fn.ntmps - a.length) uA,if C.reads f then ro H else H)) n x (by simpa using hx)
     simpa [show ¬ (n+1<=n) by omega] using this
 exact fun f a H n r h=>key n f a H r h
noncomputable def Ev (P:Program) (C:Cfg P) (W:o6 P):bT:=Dw (ct P C W)
noncomputable def EvC (P:Program) (C:Cfg P) (W:o6 P) (pl:Nat->Option Way) (c:Code) (s:St):Option (bu × St):=lim fun n=>evC P C (ct P C W n) pl n c s
theorem XG {n:Nat} {f:FuncId} {a:List AV} {H:AH} {r:AV × AH} (h:ct P C W n f a H=some r):Ev P C W f a H=some r:=tZ (cp f a H) h
theorem MA {f:FuncId} {a:List AV} {H:AH} {r:AV × AH} (h:C.orc f a H=some r):Ev P C W f a H=some r:=XG (n:=1) (by simp only [ct,h])
theorem CH {w0:World} {Pr:Nat->Prop} (hp:C.pin w0 Pr):iq P C.gl w0 Pr (Ev P C W):=fun f args H v H' h=>by
 obtain ⟨n,hn⟩:=ml h
 exact ja W n hp f args H v H' hn
theorem QD {f:FuncId} {fn:Func} {c:Code} (hf:P.funcs[f]? =some fn) (hb:fn.body=some c) (args:List AV) (H:AH) (ho:C.orc f args H=none):Ev P C W f args H =
   (EvC P C W (W.pl f) c (args++aA (fn.ntmps - args.length) uA,if C.reads f then ro H else H)).bind (KU P C f fn H):=by
 have h1:Ev P C W f args H=lim fun n=>ct P C W (n+1) f args H:=(tY (cp f args H)).symm
 rw [h1]
 simp only [vd _ _ _ _ ho,hf,hb,ay]
 refine (fg (k:=fun _=>KU P C f fn H) (fc cp c _) (fun r=>aV _)).trans ?_
 simp only [bK]
 rfl
theorem dZ {f:FuncId} {fn:Func} {c:Code} {p:Nat->Option Way} (hf:P.funcs[f]? =some fn) (hb:fn.body=some c) (hp:W.pl f=p) (hr:C.reads f=false) (args:List AV) (H:AH) (ho:C.orc f args H=none):Ev P C W f args H =
   (EvC P C W p c (args++aA (fn.ntmps - args.length) uA,H)).bind fun r=>match r with
     | (.normal,s)=>nB P fn s
     | (.ret,s)=>nB P fn s
     | _=>none:=by
 subst hp
 rw [QD hf hb args H ho,hr]
 congr 1; funext r
 obtain ⟨e,s⟩:=r
 cases e <;> simp only [KU,hr] <;> first | rfl | (cases nB P fn s <;> rfl)
theorem bM {f:FuncId} {fn:Func} {c:Code} {p:Nat->Option Way} (hf:P.funcs[f]? =some fn) (hb:fn.body=some c) (hp:W.pl f=p) (hr:C.reads f=true) (args:List AV) (H:AH) (ho:C.orc f args H=none):Ev P C W f args H =
   (EvC P C W p c (args++aA (fn.ntmps - args.length) uA,ro H)).bind fun r=>match r with
     | (.normal,s)=>(nB P fn s).bind (kj true H)
     | (.ret,s)=>(nB P fn s).bind (kj true H)
     | _=>none:=by
 subst hp
 rw [QD hf hb args H ho,hr,if_pos rfl]
 congr 1; funext r
 obtain ⟨e,s⟩:=r
 cases e <;> simp only [KU,hr]
theorem tz (s:St):EvC P C W pl .skip s=some (.normal,s):=by unfold EvC; simp only [evC]; exact bK _
theorem tB (id:Nat) (s:St):EvC P C W pl (.exit id) s=some (.exit id,s):=by unfold EvC; simp only [evC]; exact bK _
theorem wk (s:St):EvC P C W pl .ret s=some (.ret,s):=by unfold EvC; simp only [evC]; exact bK _
theorem qJ (a b:Code) (s:St):EvC P C W pl (.seq a b) s=(EvC P C W pl a s).bind fun r=>match r with
   | (.normal,s')=>EvC P C W pl b s'
   | r=>some r:=by
 unfold EvC
 simp only [E5]
 refine (fg (k:=fun n (r:bu × St)=>match r with
   | (.normal,s')=>evC P C (ct P C W n) pl n b s'
   | r=>some r) (fc cp a s) (fun r=>?_)).trans ?_
 · obtain ⟨e,s'⟩:=r
   cases e with
   | normal=>exact fc cp b s'
   | _=>exact aV _
 · congr 1; funext r
   obtain ⟨e,s'⟩:=r
   cases e with
   | normal=>rfl
   | _=>exact bK _
theorem nV (id:Nat) (b:Code) (s:St):EvC P C W pl (.block id b) s=(EvC P C W pl b s).bind fun r=>match r with
   | (.exit id',s')=>if id'=id then some (.normal,s') else some (.exit id',s')
   | r=>some r:=by
 unfold EvC
 simp only [zk]
 refine (fg (k:=fun _ (r:bu × St)=>match r with
   | (.exit id',s')=>if id'=id then some (.normal,s') else some (.exit id',s')
   | r=>some r) (fc cp b s) (fun r=>aV _)).trans ?_
 simp only [bK]
theorem MC (q:Operand) (x y:Code) (s:St):EvC P C W pl (.cond q x y) s=match cz C.gl s.1 q with
   | some (.bool true)=>EvC P C W pl x s
   | some (.bool false)=>EvC P C W pl y s
   | _=>none:=by
 unfold EvC
 cases h:cz C.gl s.1 q with
 | none=>simp only [evC,h]; exact bK _
 | some v=>cases v with
   | bool b=>cases b <;> simp only [evC,h]
   | _=>simp only [evC,h]; exact bK _
theorem Ea (id:Nat) (ops:Array Oper) (s:St):EvC P C W pl (.region id ops false) s=(jz P C (Ev P C W) ops (bn ops.size) s).bind fun s'=>some (.normal,s'):=by
 unfold EvC
 simp only [evC,map_bind]
 refine (fg (k:=fun _ s'=>some (bu.normal,s')) (iQ cp ops _ s) (fun r=>aV _)).trans ?_
 rw [rQ cp]
 simp only [bK]
 rfl
theorem tC {id:Nat} {ops:Array Oper} (h:pl id=some .calm) (s:St):EvC P C W pl (.region id ops true) s=(gE P C (Ev P C W) ops ops.toList s).bind fun s'=>some (.normal,s'):=by
 unfold EvC
 simp only [evC,h,map_bind]
 refine (fg (k:=fun _ s'=>some (bu.normal,s')) (mj cp ops _ s) (fun r=>aV _)).trans ?_
 rw [t6 cp]
 simp only [bK]
 rfl
theorem qK {id:Nat} {ops:Array Oper} (h:pl id=some .reads) (s:St):EvC P C W pl (.region id ops true) s=(jj P C.gl ops ops.toList s).bind fun s'=>some (.normal,s'):=by
 unfold EvC
 simp only [evC,h,map_bind]
 exact bK _
theorem MB {id k:Nat} {ops:Array Oper} (h:pl id=some (.tail k)) (s:St):EvC P C W pl (.region id ops true) s=(jj P C.gl ops (ops.toList.take k) s).bind fun s1=>(jz P C (Ev P C W) ops (wq k (ops.toList.drop k).length) s1).bind fun s'=>some (.normal,s'):=by
 unfold EvC
 simp only [evC,h,map_bind]
 refine (fg (k:=fun n s1=>(jz P C (ct P C W n) ops (wq k (ops.toList.drop k).length) s1).bind fun s'=>some (bu.normal,s')) (aV _) (fun r=>dm (iQ cp ops _ r) fun _=>aV _)).trans ?_
 rw [bK]
 congr 1; funext s1
 refine (fg (k:=fun _ s'=>some (bu.normal,s')) (iQ cp ops _ s1) (fun r=>aV _)).trans ?_
 rw [rQ cp]
 simp only [bK]
 rfl
theorem dn {id:Nat} {ops:Array Oper} {p:dM} (h:pl id=some (.plan p)) (s:St):EvC P C W pl (.region id ops true) s =
   (bU P C (Ev P C W) s.2.length ops p (s.1,if ops.any (cJ ·.op) then s.2++aA ops.size .fresh else s.2)).bind fun s'=>some (.normal,s'):=by
 unfold EvC
 simp only [evC,h,map_bind]
 refine (fg (k:=fun _ s'=>some (bu.normal,s')) (dE cp _ ops _ _) (fun r=>aV _)).trans ?_
 rw [jI cp]
 simp only [bK]
 rfl
theorem bk (b:Code) (s:St):EvC P C W pl (.loop b) s=(EvC P C W pl b s).bind fun r=>match r with
   | (.normal,s')=>EvC P C W pl (.loop b) s'
   | r=>some r:=by
 have hm:∀ s:St,my fun n=>jZ (fun s=>evC P C (ct P C W n) pl n b s) n s:=fun s n r h =>
   kp (f:=fun n s=>evC P C (ct P C W n) pl n b s) (fun s=>fc cp b s) n n s r h (n+1) (n+1) (by omega) (by omega)
 have hm':∀ s:St,my fun n=>jZ (fun s=>evC P C (ct P C W (n+1)) pl (n+1) b s) n s:=fun s n r h =>
   kp (f:=fun n s=>evC P C (ct P C W n) pl n b s) (fun s=>fc cp b s) (n+1) n s r h (n+2) (n+1) (by omega) (by omega)
 have hl:∀ s:St,lim (fun n=>jZ (fun s=>evC P C (ct P C W (n+1)) pl (n+1) b s) n s)=lim fun n=>jZ (fun s=>evC P C (ct P C W n) pl n b s) n s:=fun s=>by
   cases h:lim (fun n=>jZ (fun s=>evC P C (ct P C W n) pl n b s) n s) with
   | some r =>
     obtain ⟨n,hn⟩:=ml h
     exact tZ (hm' s) (n:=n) (kp (f:=fun n s=>evC P C (ct P C W n) pl n b s) (fun s=>fc cp b s) n n s r hn (n+1) n (by omega) (by omega))
   | none =>
     refine k5 fun n=>?_
     cases hn:jZ (fun s=>evC P C (ct P C W (n+1)) pl (n+1) b s) n s with
     | none=>rfl
     | some r =>
       have:=sX h (n+1)
       rw [kp (f:=fun n s=>evC P C (ct P C W n) pl n b s) (fun s=>fc cp b s) (n+1) n s r hn (n+1) (n+1) (by omega) (by omega)] at this
       cases this
 have h0:EvC P C W pl (.loop b) s=lim fun n=>jZ (fun s=>evC P C (ct P C W n) pl n b s) n s:=by unfold EvC; simp only [evC]
 rw [h0,<-tY (hm s)]
 simp only [xk]
 refine (fg (g:=fun n=>evC P C (ct P C W (n+1)) pl (n+1) b s) (k:=fun n (r:bu × St)=>match r with
   | (.normal,s')=>jZ (fun s=>evC P C (ct P C W (n+1)) pl (n+1) b s) n s'
   | r=>some r) (fun n r h=>(fc cp b s) (n+1) r h) (fun r=>?_)).trans ?_
 · obtain ⟨e,s'⟩:=r
   cases e with
   | normal=>exact hm' s'
   | _=>exact aV _
 · rw [tY (g:=fun n=>evC P C (ct P C W n) pl n b s) (fc cp b s)]
   show (EvC P C W pl b s).bind _=_
   congr 1; funext r
   obtain ⟨e,s'⟩:=r
   cases e with
   | normal=>simp only []; rw [hl s']; unfold EvC; simp only [evC]
   | _=>exact bK _
end
end Go.Dv
namespace Go.Dv
section
variable {P:Program} {C:Cfg P} {W:o6 P} {pl:Nat->Option Way}
def uQ (P:Program) (C:Cfg P) (call:bT) (slot:Option Nat) (ops:Array Oper) (o:Oper) (s:St):Option St:=
 if Region.wanted o (cL ops s.1) then (aop P C slot (cz C.gl s.1) o s.2).bind fun r=>match r with
     | (.val v,H')=>some (dY o.dst v s.1,H')
     | (.skip,H')=>some (dY o.dst uA s.1,H')
     | (.enter f args,H')=>(call f args H').bind fun r=>some (dY o.dst r.1 s.1,r.2)
   else some (dY o.dst uA s.1,s.2)
def A5 (P:Program) (C:Cfg P) (call:bT) (ops:Array Oper):List Oper->St->Option St
 | [],s=>some s
 | o::os,s=>(uQ P C call none ops o s).bind fun s'=>A5 P C call ops os s'
theorem zS (call:bT) (ops:Array Oper):∀ (os:List Oper) (k:Nat) (s:St),(∀ i o,os[i]? =some o->ops[k+i]? =some o)->jz P C call ops ((bn os.length).map (k + ·)) s=A5 P C call ops os s
 | [],k,s,h=>rfl
 | o::os,k,s,h=>by
   have h0:ops[k]? =some o:=by simpa using h 0 o rfl
   have e:(bn (o::os).length).map (k + ·)=k::(bn os.length).map (k+1 + ·):=by
     rw [List.length_cons,List.range_succ_eq_map]
     simp only [List.map_cons,List.map_map,Nat.add_zero]
     congr 1
     apply List.map_congr_left
     intro j _
     simp only [Function.comp]; omega
   rw [e]
   simp only [jz,A5]
   have hs:jF P C call none ops k s=uQ P C call none ops o s:=by rw [sr]; simp only [h0]; rfl
   rw [hs]
   congr 1; funext s'
   exact zS call ops os (k+1) s' fun i o' hi=>by
     have:=h (i+1) o' (by simpa using hi)
     rwa [show k+1+i=k+(i+1) by omega]
theorem qy (id:Nat) (ops:Array Oper) (s:St):EvC P C W pl (.region id ops false) s=(A5 P C (Ev P C W) ops ops.toList s).bind fun s'=>some (.normal,s'):=by
 rw [Ea]
 congr 1
 have:=zS (P:=P) (C:=C) (Ev P C W) ops ops.toList 0 s (fun i o h=>by simpa using h)
 rw [<-this]
 congr 1
 simp
theorem sB (call:bT) (ops:Array Oper) (s:St):A5 P C call ops [] s=some s:=rfl
theorem qj (call:bT) (ops:Array Oper) (o:Oper) (os:List Oper) (s:St):A5 P C call ops (o::os) s=(uQ P C call none ops o s).bind fun s'=>A5 P C call ops os s':=rfl
theorem oe (call:bT) (slot:Option Nat) (ops:Array Oper) (dst:Option Tmp) (op:Op) (ty:TypeId) (pos:String) (after:Array Edge) (tm:List AV) (H:AH) :
   uQ P C call slot ops ⟨dst,op,ty,pos,after,none⟩ (tm,H)=(aop P C slot (cz C.gl tm) ⟨dst,op,ty,pos,after,none⟩ H).bind fun r=>match r with
     | (.val v,H')=>some (dY dst v tm,H')
     | (.skip,H')=>some (dY dst uA tm,H')
     | (.enter f args,H')=>(call f args H').bind fun r=>some (dY dst r.1 tm,r.2):=rfl
section
variable (slot:Option Nat) (ev:Operand->Option AV) (dst:Option Tmp) (ty:TypeId) (pos:String) (after:Array Edge) (g:Option (Nat × Bool)) (H:AH)
theorem tq (x:Operand):aop P C slot ev ⟨dst,.move x,ty,pos,after,g⟩ H=(ev x).map fun v=>(.val v,H):=rfl
theorem oP (x:Operand):aop P C slot ev ⟨dst,.assign x,ty,pos,after,g⟩ H=(ev x).map fun v=>(.val v,H):=rfl
theorem tr (t:TypeId) (a:Operand):aop P C slot ev ⟨dst,.load t a,ty,pos,after,g⟩ H=(ev a).bind fun av=>match av with
   | .ptr i k=>(ldA P t H i k).map fun v=>(.val v,H)
   | _=>none:=rfl
theorem qD (t:TypeId) (a x:Operand):aop P C slot ev ⟨dst,.store t a x,ty,pos,after,g⟩ H=(ev a).bind fun av=>(ev x).bind fun xv=>match av with
   | .ptr i k=>(stA P t H i k xv).map fun H'=>(.skip,H')
   | _=>none:=rfl
theorem qI (e:TypeId):aop P C slot ev ⟨dst,.alloc e,ty,pos,after,g⟩ H=(ep P e).bind fun z=>(put slot H (.cells z.cells e)).map fun (i,H')=>(.val (.ptr i 0),H'):=rfl
theorem wj (e:TypeId) (x:Operand):aop P C slot ev ⟨dst,.box e x,ty,pos,after,g⟩ H=(ev x).bind fun v=>(put slot H (.cells v.cells e)).map fun (i,H')=>(.val (.ptr i 0),H'):=rfl
theorem qH (t:TypeId) (ps:Array (Nat × Operand)):aop P C slot ev ⟨dst,.build t ps,ty,pos,after,g⟩ H=(evP ev ps.toList).bind fun qs=>(kz P t qs).map fun v=>(.val v,H):=rfl
theorem kf (t:TypeId) (len:Nat) (ps:Array (Nat × Operand)):aop P C slot ev ⟨dst,.buildSlice t len ps,ty,pos,after,g⟩ H=(evP ev ps.toList).bind fun qs=>(bf P slot t len qs H).map fun (v,H')=>(.val v,H'):=rfl
theorem lX (x:Operand):aop P C slot ev ⟨dst,.nilCheck x,ty,pos,after,g⟩ H=(ev x).bind fun v=>(iW v).map fun v=>(.val v,H):=rfl
theorem nq (t:TypeId) (l c:Operand):aop P C slot ev ⟨dst,.makeSlice t l c,ty,pos,after,g⟩ H=(ev l).bind fun lv=>(ev c).bind fun cv=>(ie P slot t lv cv H).map fun (v,H')=>(.val v,H'):=rfl
theorem kO (t:TypeId) (x:Operand) (f:Nat):aop P C slot ev ⟨dst,.fieldAddr t x f,ty,pos,after,g⟩ H=(ev x).bind fun xv=>(aN P t xv f).map fun v=>(.val v,H):=rfl
theorem qG (t:TypeId) (x:Operand) (f:Nat):aop P C slot ev ⟨dst,.field t x f,ty,pos,after,g⟩ H=(ev x).bind fun xv=>(pH P t xv f).map fun v=>(.val v,H):=rfl
theorem kM (t:TypeId) (x i:Operand):aop P C slot ev ⟨dst,.indexAddr t x i,ty,pos,after,g⟩ H=(ev x).bind fun xv=>(ev i).bind fun iv=>(aG P t xv iv).map fun v=>(.val v,H):=rfl
theorem oO (t:TypeId) (m k:Operand) (ok:Bool):aop P C slot ev ⟨dst,.lookup t m k ok,ty,pos,after,g⟩ H=(ev m).bind fun mv=>(ev k).bind fun kv=>(ig P t mv kv ok H).map fun v=>(.val v,H):=rfl
theorem kL (t:TypeId) (m k v:Operand):aop P C slot ev ⟨dst,.mapUpdate t m k v,ty,pos,after,g⟩ H=(ev m).bind fun mv=>(ev k).bind fun kv=>(ev v).bind fun vv=>(ic P t mv kv vv H).map fun H'=>(.skip,H'):=rfl
theorem k9 (t:TypeId):aop P C slot ev ⟨dst,.makeMap t none,ty,pos,after,g⟩ H=(put slot H (.map [] 0)).map fun (i,H')=>(.val (.map i),H'):=rfl
theorem lY (fn:Fn) (f c:Array Operand):aop P C slot ev ⟨dst,.makeFunc fn f c,ty,pos,after,g⟩ H=(evL ev f.toList).bind fun f=>(evL ev c.toList).map fun c=>(.val (.func fn f c),H):=rfl
theorem m5 (t:Operand) (ix:Nat):aop P C slot ev ⟨dst,.extract t ix,ty,pos,after,g⟩ H=(ev t).bind fun tv=>match tv with
   | .tuple vs=>(vs[ix]?).map fun v=>(.val v,H)
   | _=>none:=rfl
theorem Mq (c a b:Operand):aop P C slot ev ⟨dst,.pick c a b,ty,pos,after,g⟩ H=(ev c).bind fun cv=>match cv with
   | .bool true=>(ev a).map fun v=>(.val v,H)
   | .bool false=>(ev b).map fun v=>(.val v,H)
   | _=>none:=rfl
theorem qE (t:TypeId) (x:Operand) (lo hi mx:Option Operand):aop P C slot ev ⟨dst,.slice t x lo hi mx,ty,pos,after,g⟩ H=(ev x).bind fun xv=>(evO ev lo).bind fun l=>(evO ev hi).bind fun h=>(evO ev mx).bind fun m =>
   match jR P t H xv l h m with
   | some v=>some (.val v,H)
   | none=>(cM P ev ⟨dst,.slice t x lo hi mx,ty,pos,after,g⟩).map fun n=>(n,H):=rfl
theorem Hg (op:BinOp) (t yt:TypeId) (x y:Operand):aop P C slot ev ⟨dst,.binOp op t x y yt,ty,pos,after,g⟩ H=(ev x).bind fun xv=>(ev y).bind fun yv =>
   match xv,yv with
   | .int k a,.int k' b=>match (if k=k' then eV op k a b else none) with
     | some v=>some (.val v,H)
     | none=>(cM P ev ⟨dst,.binOp op t x y yt,ty,pos,after,g⟩).map fun n=>(n,H)
   | _,_=>match op,eqA P t H xv yv with
     | .eql,some r=>some (.val (.bool r),H)
     | .neq,some r=>some (.val (.bool (!r)),H)
     | _,_=>(cM P ev ⟨dst,.binOp op t x y yt,ty,pos,after,g⟩).map fun n=>(n,H):=rfl
theorem tu (c:Call):aop P C slot ev ⟨dst,.call c,ty,pos,after,g⟩ H=fN P C slot ev ⟨dst,.call c,ty,pos,after,g⟩ c H:=rfl
theorem aO (o:Oper) (f:Nat) (xs:Array Operand) (ats:Array TypeId):fN P C slot ev o ⟨.value (.tmp f),xs,ats⟩ H=(ev (.tmp f)).bind fun fv=>(evL ev xs.toList).bind fun as =>
   match fv with
   | .func (.func g) first cap=>(P.funcs[g]?).bind fun fn=>if fn.body.isSome then some (.enter g (first++as++cap),H) else none
   | _=>none:=rfl
theorem gh (o:Oper) (x:Operand) (t:TypeId):fN P C slot ev o ⟨.builtin .len,#[x],#[t]⟩ H=(ev x).bind fun v=>(dR P t H v).map fun v=>(.val v,H):=by
 unfold fN; simp only [evL]; cases ev x <;> rfl
theorem ck (o:Oper) (x y:Operand) (t u:TypeId):fN P C slot ev o ⟨.builtin .append,#[x,y],#[t,u]⟩ H=(ev x).bind fun s=>(ev y).bind fun v=>(gv P slot t (some u) s v H).map fun (v,H')=>(.val v,H'):=by
 unfold fN; simp only [evL]; cases ev x with
 | none=>rfl
 | some v=>cases ev y <;> rfl
end
theorem Au (gl:GL) (tm:List AV) (t:Tmp):cz gl tm (.tmp t)=some (tm.getD t uA):=rfl
theorem tc (gl:GL) (tm:List AV) (v:Value):cz gl tm (.const v)=ofV 6 v:=rfl
theorem mG (k:IntKind) (n:Int):ofV 6 (.int k n)=some (.int k n):=rfl
theorem py (b:Bool):ofV 6 (.bool b)=some (.bool b):=rfl
theorem vT (s:ByteArray):ofV 6 (.string s)=some (.str s):=rfl
theorem lP:ofV 6 (.slice none 0 0)=some .nilSlice:=rfl
theorem oy:ofV 6 (.pointer none)=some .nilPtr:=rfl
theorem qn (d:Tmp) (v:AV) (tm:List AV):dY (some d) v tm=tm.set d v:=rfl
theorem qo (v:AV) (tm:List AV):dY none v tm=tm:=rfl
end
end Go.Dv
