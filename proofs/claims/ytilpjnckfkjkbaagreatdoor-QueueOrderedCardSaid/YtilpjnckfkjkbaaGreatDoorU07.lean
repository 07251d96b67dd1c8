/- Part 07 of the walks (own work). -/
import Derived.Test.YtilpjnckfkjkbaaGreatDoorU06
open Bool renaming and_eq_true→az
open List renaming range→bp,range'→xp,replicate→au
open Nat renaming le_max_left→zm,le_max_right→wA
open Option renaming bind_eq_some_iff→ae,bind_some→ax,map_eq_some_iff→ah
set_option maxRecDepth 100000
set_option maxHeartbeats 4000000
set_option linter.unusedSimpArgs false
set_option linter.unusedVariables false
namespace Go.Dv
def Il (g z:Nat):Env:=fun i=>if i=0 then some (g,0,z) else none
theorem WR.Uw (w:World) {g:Nat} {cs:List AV} (hg:g < w.heap.size) (ho:OR (Il g cs.length) w 0 (.arg cs)):WR w (fun b=>b < w.heap.size) (Il g cs.length) [.arg cs] w where
 dom:=fun i hi=>by simp at hi; simp only [Il]; rw [if_neg (by omega)]
 fresh:=fun i hi=>by cases i <;> simp at hi
 lt:=fun i y hy=>by simp only [Il] at hy; split at hy <;> simp at hy; subst hy; exact hg
 inj:=fun i j x y ⟨o,hi,hw⟩=>by cases i <;> simp at hi; subst hi; cases hw
 own:=fun i x ⟨o,hi,hw⟩=>by cases i <;> simp at hi; subst hi; cases hw
 jK:=fun i y cs hi hy=>by simp only [Il] at hy; split at hy <;> simp at hy; subst hy; exact hg
 obj:=fun i o hi=>by
   cases i with
   | zero=>simp at hi; subst hi; exact ho
   | succ i=>simp at hi
 prLt:=fun b h=>h
 size:=Nat.le_refl _
 os:=rfl
 tape:=rfl
 output:=rfl
 old:=fun _ _=>rfl
def oz (g:Nat) (cs:List AV) (w0:World) (Pr:Nat->Prop):Prop:=Pr g/\∀ j v,cs[j]? =some v->∃ u,w0.cell? ⟨g,j,none⟩=some u/\toV v=some u
theorem oz.later {g:Nat} {cs:List AV} {w0 w:World} {Pr:Nat->Prop} {φ:Env} {H:AH} (h:oz g cs w0 Pr) (hW:WR w0 Pr φ H w):oz g cs w (fun b=>b < w.heap.size):=by refine ⟨Nat.lt_of_lt_of_le (hW.prLt g h.1) hW.size,fun j v hj=>?_⟩;obtain ⟨u,hu,hv⟩:=h.2 j v hj;refine ⟨u,?_,hv⟩;rw [<-hu];exact World.cell?_of_block (w:=w0) (a:=⟨g,j,none⟩) (hW.old g h.1)
def BP {P:Program} (C:Cfg P) (G:AH):Prop:=∀ w0 Pr φ H w,C.pin w0 Pr->WR w0 Pr φ H w->∃ φ0,WR w (fun b=>b < w.heap.size) φ0 G w/\GI C.gl φ0/\C.pin w (fun b=>b < w.heap.size)
theorem Eg {P:Program} {C:Cfg P} {g:Nat} {cs:List AV} (hg:C.gl=fun x=>if x=g then some 0 else none) (hp:C.pin=oz g cs):BP C [.arg cs]:=by
 intro w0 Pr φ H w h hW;rw [hp] at h ⊢;have hl:=h.later hW;refine ⟨Il g cs.length,WR.Uw w hl.1 ⟨g,0,cs.length,rfl,fun j v hj=>?_⟩,?_,hl⟩
 · obtain ⟨u,hu,hv⟩:=hl.2 j v hj;exact ⟨u,by rw [Nat.zero_add]; exact hu,AP v u hv⟩
 · rw [hg];intro x i hi;simp only at hi;split at hi
   · rename_i hx; cases hi; subst hx; exact ⟨_,rfl⟩
   · cases hi
abbrev FD:=FuncId × List AV × AV
def qU (l:List FD):cz:=fun f args H=>(l.find? fun e=>f == e.1 && AV.sC e.2.1 args).map fun e=>(e.2.2,H)
def sA (P:Program) (C:Cfg P) (Wy:pB P) (G:AH) (n:Nat) (e:FD):Bool:=(uE e.2.1).isSome && (toV e.2.2).isSome && match cX P C Wy n e.1 e.2.1 G with
 | some (v,_)=>AV.beq v e.2.2
 | none=>false
theorem BD {P:Program} {C:Cfg P} {Wy:pB P} {G:AH} (hst:BP C G) {n:Nat} {l:List FD} (hl:l.all (sA P C Wy G n)=true) (gl:GL) (w0:World) (Pr:Nat->Prop) (hpin:C.pin w0 Pr):iL P gl w0 Pr (qU l):=by
 intro f args H v H' h φ w vs _ hW hr;unfold qU at h;simp only [ah,Prod.mk.injEq] at h;obtain ⟨⟨g,as',v'⟩,he,rfl,rfl⟩:=h;have hm:=List.mem_of_find?_eq_some he;have hp:=List.find?_some he;simp only [az,beq_iff_eq] at hp;obtain ⟨rfl,hp⟩:=hp;have ha:=AV.mj _ _ hp;subst ha;have hs:=List.all_eq_true.1 hl _ hm;simp only [sA,az] at hs;obtain ⟨⟨h1,h2⟩,h3⟩:=hs;split at h3
 · rename_i v0 H0 he0;have hv:=AV.beq_eq _ _ h3;subst hv;obtain ⟨φ0,hW0,hg0,hp0⟩:=hst w0 Pr φ H w hpin hW;have:=jv (C:=C) Wy n hp0 f as' G v0 H0 he0 φ0 w vs hg0 hW0 (Jz h1 hr);refine this.mono fun e w' hw=>?_;obtain ⟨φ',u,_,he,hu,hW'⟩:=hw;exact ⟨φ,u,Env.le_refl φ,he,AO h2 hu,hW.later hW'.size hW'.old hW'.os hW'.tape hW'.output⟩
 · cases h3
def orElse (a b:cz):cz:=fun f args H=>(a f args H).or (b f args H)
theorem Ii {P:Program} {gl:GL} {w0:World} {Pr:Nat->Prop} {a b:cz} (ha:iL P gl w0 Pr a) (hb:iL P gl w0 Pr b):iL P gl w0 Pr (orElse a b):=by
 intro f args H v H' h;unfold orElse at h;cases h1:a f args H with
 | some r=>rw [h1] at h; simp at h; subst h; exact ha f args H v H' h1
 | none=>rw [h1] at h; simp at h; exact hb f args H v H' h
end Go.Dv
namespace Go.Dv
def m7 {α:Type} (g:Nat->Option α):Prop:=∀ n r,g n=some r->g (n+1)=some r
theorem m7.le {α:Type} {g:Nat->Option α} (h:m7 g) {n m:Nat} (hnm:n<=m) {r:α} (hr:g n=some r):g m=some r:=by
 induction hnm with
 | refl=>exact hr
 | step _ ih=>exact h _ _ ih
open Classical in
noncomputable def lim {α:Type} (g:Nat->Option α):Option α:=if h:∃ n r,g n=some r then some (Classical.choose (Classical.choose_spec h)) else none
theorem mS {α:Type} {g:Nat->Option α} {r:α} (h:lim g=some r):∃ n,g n=some r:=by
 unfold lim at h;split at h
 · rename_i he;cases h;exact ⟨_,Classical.choose_spec (Classical.choose_spec he)⟩
 · cases h
theorem uW {α:Type} {g:Nat->Option α} (hg:m7 g) {n:Nat} {r:α} (h:g n=some r):lim g=some r:=by
 have he:∃ n r,g n=some r:=⟨n,r,h⟩;cases hl:lim g with
 | none=>unfold lim at hl; rw [dif_pos he] at hl; cases hl
 | some r' =>obtain ⟨m,hm⟩:=mS hl;have h1:=hg.le (zm n m) h;have h2:=hg.le (wA n m) hm;rw [h1] at h2; cases h2; rfl
theorem tx {α:Type} {g:Nat->Option α} (h:lim g=none) (n:Nat):g n=none:=by
 cases hn:g n with
 | none=>rfl
 | some r=>unfold lim at h; rw [dif_pos ⟨n,r,hn⟩] at h; cases h
theorem lF {α:Type} {g:Nat->Option α} (h:∀ n,g n=none):lim g=none:=by
 cases hl:lim g with
 | none=>rfl
 | some r=>obtain ⟨n,hn⟩:=mS hl; rw [h n] at hn; cases hn
theorem bY {α:Type} (x:Option α):lim (fun _=>x)=x:=by
 cases x with
 | none=>exact lF fun _=>rfl
 | some r=>exact uW (g:=fun _=>some r) (fun _ _ h=>h) (n:=0) rfl
theorem dL {α β:Type} {g:Nat->Option α} {k:Nat->α->Option β} (hg:m7 g) (hk:∀ x,m7 fun n=>k n x):m7 fun n=>(g n).bind (k n):=fun n r h=>by
 simp only [ae] at h ⊢
 obtain ⟨x,hx,hr⟩:=h
 exact ⟨x,hg n x hx,hk x n r hr⟩
theorem fL {α β:Type} {g:Nat->Option α} {k:Nat->α->Option β} (hg:m7 g) (hk:∀ x,m7 fun n=>k n x) :
   lim (fun n=>(g n).bind (k n))=(lim g).bind fun x=>lim fun n=>k n x:=by
 cases h1:lim g with
 | none=>exact lF fun n=>by rw [tx h1 n]; rfl
 | some x =>
   obtain ⟨n1,hn1⟩:=mS h1;simp only [ax];cases h2:lim (fun n=>k n x) with
   | none =>
     refine lF fun n=>?_;cases hb:(g n).bind (k n) with
     | none=>rfl
     | some r =>simp only [ae] at hb;obtain ⟨y,hy,hr⟩:=hb;have e1:=hg.le (zm n n1) hy;have e2:=hg.le (wA n n1) hn1;rw [e1] at e2; cases e2;have:=tx h2 n; rw [hr] at this; cases this
   | some r =>obtain ⟨n2,hn2⟩:=mS h2;refine uW (dL hg hk) (n:=max n1 n2) ?_;rw [hg.le (zm n1 n2) hn1];exact (hk x).le (wA n1 n2) hn2
theorem uV {α:Type} {g:Nat->Option α} (hg:m7 g):lim (fun n=>g (n+1))=lim g:=by
 cases h:lim g with
 | none=>exact lF fun n=>tx h _
 | some r =>obtain ⟨n,hn⟩:=mS h;exact uW (fun n r h=>hg (n+1) r h) (n:=n) (hg n r hn)
theorem aY {α:Type} (x:Option α):m7 fun _=>x:=fun _ _ h=>h
section
variable {P:Program} {C:Cfg P} {W:pB P} {pl:Nat->Option Way}
def mY (c:Nat->cz):Prop:=∀ f a H,m7 fun n=>c n f a H
noncomputable def EW (c:Nat->cz):cz:=fun f a H=>lim fun n=>c n f a H
theorem sU (call:cz) (slot:Option Nat) (ops:Array Oper) (i:Nat) (s:St):jX P C call slot ops i s =
   match ops[i]? with
   | none=>some s
   | some o=>if Region.wanted o (dp ops s.1) then (aop P C slot (cY C.gl s.1) o s.2).bind fun r=>match r with
       | (.val v,H')=>some (eC o.dst v s.1,H')
       | (.skip,H')=>some (eC o.dst uA s.1,H')
       | (.enter f args,H')=>(call f args H').bind fun r=>some (eC o.dst r.1 s.1,r.2)
     else some (eC o.dst uA s.1,s.2):=by
 unfold jX
 cases ops[i]? with
 | none=>rfl
 | some o =>
   simp only
   by_cases hw:Region.wanted o (dp ops s.1)=true
   · rw [if_pos hw,if_pos hw]
     cases aop P C slot (cY C.gl s.1) o s.2 with
     | none=>rfl
     | some r =>
       obtain ⟨r,H'⟩:=r
       cases r with
       | val v=>rfl
       | skip=>rfl
       | enter f args=>simp only [ax]; cases call f args H' <;> rfl
   · rw [if_neg hw,if_neg hw]
theorem oV {c:Nat->cz} (hc:mY c) (slot:Option Nat) (ops:Array Oper) (i:Nat) (s:St):m7 fun n=>jX P C (c n) slot ops i s:=by
 simp only [sU];split
 · exact aY _
 · split
   · refine dL (aY _) fun r=>?_;obtain ⟨r,H'⟩:=r;cases r with
     | val v=>exact aY _
     | skip=>exact aY _
     | enter f args=>exact dL (hc f args H') fun x=>aY _
   · exact aY _
theorem zY {c:Nat->cz} (hc:mY c) (slot:Option Nat) (ops:Array Oper) (i:Nat) (s:St):lim (fun n=>jX P C (c n) slot ops i s)=jX P C (EW c) slot ops i s:=by
 simp only [sU];split
 · exact bY _
 · split
   · rename_i o ho hw;cases ha:aop P C slot (cY C.gl s.1) o s.2 with
     | none=>exact bY _
     | some r =>
       obtain ⟨r,H'⟩:=r;simp only [ax];cases r with
       | val v=>exact bY _
       | skip=>exact bY _
       | enter f args =>show lim (fun n=>(c n f args H').bind fun r=>some (eC o.dst r.1 s.1,r.2))=_;refine (fL (k:=fun _ r=>some (eC o.dst r.1 s.1,r.2)) (hc f args H') (fun x=>aY _)).trans ?_;simp only [bY]; rfl
   · exact bY _
theorem jn {c:Nat->cz} (hc:mY c) (ops:Array Oper):∀ (is:List Nat) (s:St),m7 fun n=>jR P C (c n) ops is s
 | [],s=>aY _
 | i::is,s=>by simp only [jR]; exact dL (oV hc none ops i s) fun x=>jn hc ops is x
theorem sq {c:Nat->cz} (hc:mY c) (ops:Array Oper):∀ (is:List Nat) (s:St),lim (fun n=>jR P C (c n) ops is s)=jR P C (EW c) ops is s
 | [],s=>bY _
 | i::is,s=>by
   simp only [jR]
   rw [fL (oV hc none ops i s) fun x=>jn hc ops is x,zY hc]
   congr 1; funext x; exact sq hc ops is x
mutual
theorem ef {c:Nat->cz} (hc:mY c) (base:Nat) (ops:Array Oper):∀ (p:ep) (s:St),m7 fun n=>cB P C (c n) base ops p s
 | .done,s=>by simp only [cB]; exact aY _
 | .take i p,s=>by
   simp only [cB]
   split
   · exact aY _
   · exact dL (aY _) fun x=>ef hc base ops p _
 | .all l,s=>by simp only [cB]; exact lD hc base ops l s none
 | .rd i p,s=>by
   simp only [cB]
   split
   · exact aY _
   · exact dL (aY _) fun v=>ef hc base ops p _
 | .join p q,s=>by simp only [cB]; exact dL (ef hc base ops p s) fun t=>ef hc base ops q t
theorem lD {c:Nat->cz} (hc:mY c) (base:Nat) (ops:Array Oper):∀ (l:List (Nat × ep)) (s:St) (r:Option St),m7 fun n=>eO P C (c n) base ops l s r
 | [],s,r=>by simp only [eO]; exact aY _
 | (i,p)::l,s,r=>by
   simp only [eO]
   refine dL (oV hc _ ops i s) fun s'=>dL (ef hc base ops p s') fun t=>?_
   split
   · exact lD hc base ops l s _
   · split
     · exact lD hc base ops l s _
     · exact aY _
end
mutual
theorem ke {c:Nat->cz} (hc:mY c) (base:Nat) (ops:Array Oper):∀ (p:ep) (s:St),lim (fun n=>cB P C (c n) base ops p s)=cB P C (EW c) base ops p s
 | .done,s=>by simp only [cB]; exact bY _
 | .take i p,s=>by
   simp only [cB]
   split
   · exact bY _
   · rw [fL (aY _) fun x=>ef hc base ops p _,bY]
     congr 1; funext x; exact ke hc base ops p _
 | .all l,s=>by simp only [cB]; exact sr hc base ops l s none
 | .rd i p,s=>by
   simp only [cB]
   split
   · exact bY _
   · refine (fL (aY _) fun v=>ef hc base ops p _).trans ?_
     rw [bY]
     congr 1; funext v; exact ke hc base ops p _
 | .join p q,s=>by
   simp only [cB]
   rw [fL (ef hc base ops p s) fun t=>ef hc base ops q t,ke hc base ops p s]
   congr 1; funext t; exact ke hc base ops q t
theorem sr {c:Nat->cz} (hc:mY c) (base:Nat) (ops:Array Oper):∀ (l:List (Nat × ep)) (s:St) (r:Option St),lim (fun n=>eO P C (c n) base ops l s r)=eO P C (EW c) base ops l s r
 | [],s,r=>by simp only [eO]; exact bY _
 | (i,p)::l,s,r=>by
   simp only [eO]
   have hm:∀ (t:St),m7 fun n=>(match r with
     | none=>eO P C (c n) base ops l s (some t)
     | some t0=>if pJ t0 t=true then eO P C (c n) base ops l s (some t0) else none):=fun t=>by
     split
     · exact lD hc base ops l s _
     · split
       · exact lD hc base ops l s _
       · exact aY _
   refine (fL (k:=fun n s'=>(cB P C (c n) base ops p s').bind fun t=>match r with
     | none=>eO P C (c n) base ops l s (some t)
     | some t0=>if pJ t0 t=true then eO P C (c n) base ops l s (some t0) else none) (oV hc _ ops i s) fun s'=>dL (ef hc base ops p s') hm).trans ?_
   rw [zY hc]
   congr 1; funext s'
   refine (fL (k:=fun n t=>match r with
     | none=>eO P C (c n) base ops l s (some t)
     | some t0=>if pJ t0 t=true then eO P C (c n) base ops l s (some t0) else none) (ef hc base ops p s') hm).trans ?_
   rw [ke hc base ops p s']
   congr 1; funext t
   cases r with
   | none=>exact sr hc base ops l s _
   | some t0 =>
     simp only
     by_cases hb:pJ t0 t=true
     · simp only [if_pos hb]; exact sr hc base ops l s _
     · simp only [if_neg hb]; exact bY _
end
theorem yo (f:St->Option (bk × St)) (n:Nat) (s:St):kE f (n+1) s=(f s).bind fun r=>match r with
   | (.normal,s')=>kE f n s'
   | r=>some r:=by
 simp only [kE];split
 · rename_i h; rw [h]; rfl
 · rename_i h;cases hf:f s with
   | none=>rfl
   | some r =>
     obtain ⟨e,s'⟩:=r;cases e with
     | normal=>exact absurd hf (h s')
     | _=>rfl
theorem kS {f:Nat->St->Option (bk × St)} (hf:∀ s,m7 fun n=>f n s):∀ (n m:Nat) (s:St) (r:bk × St),kE (f n) m s=some r->∀ n' m',n<=n'->m<=m'->kE (f n') m' s=some r
 | n,0,s,r,h,_,_,_,_=>by simp [kE] at h
 | n,m+1,s,r,h,n',m',hn,hm=>by
   obtain ⟨m',rfl⟩:∃ q,m'=q+1:=⟨m' - 1,by omega⟩
   rw [yo] at h ⊢
   simp only [ae] at h ⊢
   obtain ⟨x,hx,hr⟩:=h
   refine ⟨x,(hf s).le hn hx,?_⟩
   split at hr
   · exact kS hf n m _ r hr n' m' hn (by omega)
   · exact hr
theorem Gs (call:cz) (n:Nat) (a b:Code) (s:St):evC P C call pl n (.seq a b) s=(evC P C call pl n a s).bind fun r=>match r with
   | (.normal,s')=>evC P C call pl n b s'
   | r=>some r:=by
 simp only [evC];split
 · rename_i h; rw [h]; rfl
 · rename_i h;cases hf:evC P C call pl n a s with
   | none=>rfl
   | some r =>
     obtain ⟨e,s'⟩:=r;cases e with
     | normal=>exact absurd hf (h s')
     | _=>rfl
theorem Ap (call:cz) (n:Nat) (id:Nat) (b:Code) (s:St):evC P C call pl n (.block id b) s=(evC P C call pl n b s).bind fun r=>match r with
   | (.exit id',s')=>if id'=id then some (.normal,s') else some (.exit id',s')
   | r=>some r:=by
 simp only [evC];split
 · rename_i h; rw [h]; rfl
 · rename_i h;cases hf:evC P C call pl n b s with
   | none=>rfl
   | some r =>
     obtain ⟨e,s'⟩:=r;cases e with
     | exit id'=>exact absurd hf (h id' s')
     | _=>rfl
theorem mR {c:Nat->cz} (hc:mY c) (ops:Array Oper):∀ (l:List Oper) (s:St),m7 fun n=>gS P C (c n) ops l s
 | [],s=>by simp only [gS]; exact aY _
 | o::l,s=>by
   simp only [gS]
   split
   · refine dL ?_ fun v=>mR hc ops l _
     unfold gO
     split
     · split
       · exact aY _
       · refine dL (aY _) fun r=>?_
         split
         · split
           · simp only [show ∀ (f:AV × AH->AV) (o:Option (AV × AH)),o.map f=o.bind fun x=>some (f x) from fun f o=>by cases o <;> rfl]
             exact dL (hc _ _ _) fun _=>aY _
           · exact aY _
         · exact aY _
     · exact aY _
   · exact mR hc ops l _
theorem Is {c:Nat->cz} (hc:mY c) (ev:Operand->Option AV) (o:Oper) (H:AH):lim (fun n=>gO P C (c n) ev o H)=gO P C (EW c) ev o H:=by
 unfold gO;split
 · split
   · exact bY _
   · rename_i cc _ _ _;cases ha:gk P C none ev o cc H with
     | none=>exact bY _
     | some r =>
       obtain ⟨r,H'⟩:=r;simp only [ax];cases r with
       | val v=>exact bY _
       | skip=>exact bY _
       | enter f args =>
         simp only;split
         · simp only [show ∀ (f:AV × AH->AV) (o:Option (AV × AH)),o.map f=o.bind fun x=>some (f x) from fun f o=>by cases o <;> rfl];refine (fL (k:=fun _ x=>some x.1) (hc f args H) (fun x=>aY _)).trans ?_;simp only [bY]; rfl
         · exact bY _
 · exact bY _
theorem EU {c:Nat->cz} (hc:mY c) (ev:Operand->Option AV) (o:Oper) (H:AH):m7 (fun n=>gO P C (c n) ev o H):=by
 unfold gO;split
 · split
   · exact aY _
   · refine dL (aY _) fun r=>?_;split
     · split
       · simp only [show ∀ (f:AV × AH->AV) (o:Option (AV × AH)),o.map f=o.bind fun x=>some (f x) from fun f o=>by cases o <;> rfl];exact dL (hc _ _ _) fun _=>aY _
       · exact aY _
     · exact aY _
 · exact aY _
theorem uX {c:Nat->cz} (hc:mY c) (ops:Array Oper):∀ (l:List Oper) (s:St),lim (fun n=>gS P C (c n) ops l s)=gS P C (EW c) ops l s
 | [],s=>by simp only [gS]; exact bY _
 | o::l,s=>by
   simp only [gS]
   split
   · rw [fL (EU hc _ o s.2) fun v=>mR hc ops l _,Is hc]
     congr 1; funext v; exact uX hc ops l _
   · exact uX hc ops l _
theorem map_bind {α β:Type} (f:α->β) (o:Option α):o.map f=o.bind fun x=>some (f x):=by cases o <;> rfl
theorem fK {c:Nat->cz} (hc:mY c):∀ (x:Code) (s:St),m7 fun n=>evC P C (c n) pl n x s
 | .skip,s=>by simp only [evC]; exact aY _
 | .region id ops false,s=>by
   simp only [evC]; intro n r h
   simp only [ah] at h ⊢
   obtain ⟨x,hx,hr⟩:=h
   exact ⟨x,jn hc ops _ _ n x hx,hr⟩
 | .region id ops true,s=>by
   simp only [evC]
   split
   · simp only [map_bind]; exact dL (ef hc _ ops _ _) fun x=>aY _
   · exact aY _
   · simp only [map_bind]; exact dL (aY _) fun x=>dL (jn hc ops _ _) fun y=>aY _
   · simp only [map_bind]; exact dL (ef hc _ ops _ _) fun x=>aY _
   · exact aY _
   · simp only [map_bind]; exact dL (mR hc ops _ _) fun x=>aY _
   · exact aY _
 | .seq a b,s=>by
   simp only [Gs]
   refine dL (fK hc a s) fun r=>?_
   obtain ⟨e,s'⟩:=r
   cases e with
   | normal=>exact fK hc b s'
   | _=>exact aY _
 | .cond q x y,s=>by
   simp only [evC]
   split
   · exact fK hc x s
   · exact fK hc y s
   · exact aY _
 | .block id b,s=>by
   simp only [Ap]
   exact dL (fK hc b s) fun r=>aY _
 | .loop b,s=>by
   simp only [evC]; intro n r h
   exact kS (f:=fun n s=>evC P C (c n) pl n b s) (fun s=>fK hc b s) n n s r h (n+1) (n+1) (by omega) (by omega)
 | .exit id,s=>by simp only [evC]; exact aY _
 | .ret,s=>by simp only [evC]; exact aY _
 | .rangeFunc ..,s=>by simp only [evC]; exact aY _
 | .scope _,s=>by simp only [evC]; exact aY _
 | .label _,s=>by simp only [evC]; exact aY _
 | .goto _,s=>by simp only [evC]; exact aY _
 | .refuse _,s=>by simp only [evC]; exact aY _
def M0 (P:Program) (C:Cfg P) (f:FuncId) (fn:Func) (H:AH) (r:bk × St):Option (AV × AH):=match r with
 | (.normal,s)=>(lz P fn s).bind (kM (C.reads f) H)
 | (.ret,s)=>(lz P fn s).bind (kM (C.reads f) H)
 | _=>none
theorem vY (n:Nat) (f:FuncId) (args:List AV) (H:AH) (ho:C.orc f args H=none):cX P C W (n+1) f args H =
   (P.funcs[f]?).bind fun fn=>fn.body.bind fun c =>
     (evC P C (cX P C W n) (W.pl f) n c (args++au (fn.ntmps - args.length) uA,if C.reads f then ro H else H)).bind (M0 P C f fn H):=by
 simp only [cX,ho];congr 1; funext fn; congr 1; funext c;cases evC P C (cX P C W n) (W.pl f) n c (args++au (fn.ntmps - args.length) uA,if C.reads f then ro H else H) with
 | none=>rfl
 | some r=>obtain ⟨e,s⟩:=r; cases e <;> rfl
theorem cU:mY (cX P C W):=by
 have key:∀ n f a H r,cX P C W n f a H=some r->cX P C W (n+1) f a H=some r:=by
   intro n;induction n with
   | zero=>intro f a H r h; simp [cX] at h
   | succ n ih =>
     intro f a H r h;cases ho:C.orc f a H with
     | some r'=>simp only [cX,ho] at h ⊢; exact h
     | none =>
     rw [vY _ _ _ _ ho] at h ⊢;simp only [ae] at h ⊢;obtain ⟨fn,hfn,c,hc,x,hx,hr⟩:=h;refine ⟨fn,hfn,c,hc,x,?_,hr⟩;have hm':mY (fun k=>if k<=n then cX P C W n else cX P C W (n+1)):=fun f a H k r hk=>by
       simp only at hk ⊢;split at hk
       · split
         · exact hk
         · exact ih f a H r hk
       · rw [if_neg (by omega)]; exact hk
     have:=(fK (P:=P) (C:=C) (pl:=W.pl f) hm' c (a++au (fn.ntmps - a.length) uA,if C.reads f then ro H else H)) n x (by simpa using hx);simpa [show ¬ (n+1<=n) by omega] using this
 exact fun f a H n r h=>key n f a H r h
noncomputable def Ev (P:Program) (C:Cfg P) (W:pB P):cz:=EW (cX P C W)
noncomputable def EvC (P:Program) (C:Cfg P) (W:pB P) (pl:Nat->Option Way) (c:Code) (s:St):Option (bk × St):=lim fun n=>evC P C (cX P C W n) pl n c s
theorem abr {n:Nat} {f:FuncId} {a:List AV} {H:AH} {r:AV × AH} (h:cX P C W n f a H=some r):Ev P C W f a H=some r:=uW (cU f a H) h
theorem OO {f:FuncId} {a:List AV} {H:AH} {r:AV × AH} (h:C.orc f a H=some r):Ev P C W f a H=some r:=abr (n:=1) (by simp only [cX,h])
theorem DY {w0:World} {Pr:Nat->Prop} (hp:C.pin w0 Pr):iL P C.gl w0 Pr (Ev P C W):=fun f args H v H' h=>by
 obtain ⟨n,hn⟩:=mS h
 exact jv W n hp f args H v H' hn
theorem TW {f:FuncId} {fn:Func} {c:Code} (hf:P.funcs[f]? =some fn) (hb:fn.body=some c) (args:List AV) (H:AH) (ho:C.orc f args H=none):Ev P C W f args H =
   (EvC P C W (W.pl f) c (args++au (fn.ntmps - args.length) uA,if C.reads f then ro H else H)).bind (M0 P C f fn H):=by have h1:Ev P C W f args H=lim fun n=>cX P C W (n+1) f args H:=(uV (cU f args H)).symm;rw [h1];simp only [vY _ _ _ _ ho,hf,hb,ax];refine (fL (k:=fun _=>M0 P C f fn H) (fK cU c _) (fun r=>aY _)).trans ?_;simp only [bY];rfl
theorem dA {f:FuncId} {fn:Func} {c:Code} {p:Nat->Option Way} (hf:P.funcs[f]? =some fn) (hb:fn.body=some c) (hp:W.pl f=p) (hr:C.reads f=false) (args:List AV) (H:AH) (ho:C.orc f args H=none):Ev P C W f args H =
   (EvC P C W p c (args++au (fn.ntmps - args.length) uA,H)).bind fun r=>match r with
     | (.normal,s)=>lz P fn s
     | (.ret,s)=>lz P fn s
     | _=>none:=by
 subst hp
 rw [TW hf hb args H ho,hr]
 congr 1; funext r
 obtain ⟨e,s⟩:=r
 cases e <;> simp only [M0,hr] <;> first | rfl | (cases lz P fn s <;> rfl)
theorem bT {f:FuncId} {fn:Func} {c:Code} {p:Nat->Option Way} (hf:P.funcs[f]? =some fn) (hb:fn.body=some c) (hp:W.pl f=p) (hr:C.reads f=true) (args:List AV) (H:AH) (ho:C.orc f args H=none):Ev P C W f args H =
   (EvC P C W p c (args++au (fn.ntmps - args.length) uA,ro H)).bind fun r=>match r with
     | (.normal,s)=>(lz P fn s).bind (kM true H)
     | (.ret,s)=>(lz P fn s).bind (kM true H)
     | _=>none:=by
 subst hp
 rw [TW hf hb args H ho,hr,if_pos rfl]
 congr 1; funext r
 obtain ⟨e,s⟩:=r
 cases e <;> simp only [M0,hr]
theorem uq (s:St):EvC P C W pl .skip s=some (.normal,s):=by unfold EvC; simp only [evC]; exact bY _
theorem uu (id:Nat) (s:St):EvC P C W pl (.exit id) s=some (.exit id,s):=by unfold EvC; simp only [evC]; exact bY _
theorem xj (s:St):EvC P C W pl .ret s=some (.ret,s):=by unfold EvC; simp only [evC]; exact bY _
theorem rq (a b:Code) (s:St):EvC P C W pl (.seq a b) s=(EvC P C W pl a s).bind fun r=>match r with
   | (.normal,s')=>EvC P C W pl b s'
   | r=>some r:=by
 unfold EvC;simp only [Gs];refine (fL (k:=fun n (r:bk × St)=>match r with
   | (.normal,s')=>evC P C (cX P C W n) pl n b s'
   | r=>some r) (fK cU a s) (fun r=>?_)).trans ?_
 · obtain ⟨e,s'⟩:=r;cases e with
   | normal=>exact fK cU b s'
   | _=>exact aY _
 · congr 1; funext r;obtain ⟨e,s'⟩:=r;cases e with
   | normal=>rfl
   | _=>exact bY _
theorem oB (id:Nat) (b:Code) (s:St):EvC P C W pl (.block id b) s=(EvC P C W pl b s).bind fun r=>match r with
   | (.exit id',s')=>if id'=id then some (.normal,s') else some (.exit id',s')
   | r=>some r:=by
 unfold EvC;simp only [Ap];refine (fL (k:=fun _ (r:bk × St)=>match r with
   | (.exit id',s')=>if id'=id then some (.normal,s') else some (.exit id',s')
   | r=>some r) (fK cU b s) (fun r=>aY _)).trans ?_
 simp only [bY]
theorem OQ (q:Operand) (x y:Code) (s:St):EvC P C W pl (.cond q x y) s=match cY C.gl s.1 q with
   | some (.bool true)=>EvC P C W pl x s
   | some (.bool false)=>EvC P C W pl y s
   | _=>none:=by
 unfold EvC
 cases h:cY C.gl s.1 q with
 | none=>simp only [evC,h]; exact bY _
 | some v=>cases v with
   | bool b=>cases b <;> simp only [evC,h]
   | _=>simp only [evC,h]; exact bY _
theorem FB (id:Nat) (ops:Array Oper) (s:St):EvC P C W pl (.region id ops false) s=(jR P C (Ev P C W) ops (bp ops.size) s).bind fun s'=>some (.normal,s'):=by unfold EvC;simp only [evC,map_bind];refine (fL (k:=fun _ s'=>some (bk.normal,s')) (jn cU ops _ s) (fun r=>aY _)).trans ?_;rw [sq cU];simp only [bY];rfl
theorem uw {id:Nat} {ops:Array Oper} (h:pl id=some .calm) (s:St):EvC P C W pl (.region id ops true) s=(gS P C (Ev P C W) ops ops.toList s).bind fun s'=>some (.normal,s'):=by unfold EvC;simp only [evC,h,map_bind];refine (fL (k:=fun _ s'=>some (bk.normal,s')) (mR cU ops _ s) (fun r=>aY _)).trans ?_;rw [uX cU];simp only [bY];rfl
theorem rr {id:Nat} {ops:Array Oper} (h:pl id=some .reads) (s:St):EvC P C W pl (.region id ops true) s=(jD P C.gl ops ops.toList s).bind fun s'=>some (.normal,s'):=by unfold EvC;simp only [evC,h,map_bind];exact bY _
theorem OP {id k:Nat} {ops:Array Oper} (h:pl id=some (.tail k)) (s:St):EvC P C W pl (.region id ops true) s=(jD P C.gl ops (ops.toList.take k) s).bind fun s1=>(jR P C (Ev P C W) ops (xp k (ops.toList.drop k).length) s1).bind fun s'=>some (.normal,s'):=by unfold EvC;simp only [evC,h,map_bind];refine (fL (k:=fun n s1=>(jR P C (cX P C W n) ops (xp k (ops.toList.drop k).length) s1).bind fun s'=>some (bk.normal,s')) (aY _) (fun r=>dL (jn cU ops _ r) fun _=>aY _)).trans ?_;rw [bY];congr 1; funext s1;refine (fL (k:=fun _ s'=>some (bk.normal,s')) (jn cU ops _ s1) (fun r=>aY _)).trans ?_;rw [sq cU];simp only [bY];rfl
theorem cD {id:Nat} {ops:Array Oper} {p:ep} (h:pl id=some (.plan p)) (s:St):EvC P C W pl (.region id ops true) s =
   (cB P C (Ev P C W) s.2.length ops p (s.1,if ops.any (bZ ·.op) then s.2++au ops.size .fresh else s.2)).bind fun s'=>some (.normal,s'):=by unfold EvC;simp only [evC,h,map_bind];refine (fL (k:=fun _ s'=>some (bk.normal,s')) (ef cU _ ops _ _) (fun r=>aY _)).trans ?_;rw [ke cU];simp only [bY];rfl
theorem aX (b:Code) (s:St):EvC P C W pl (.loop b) s=(EvC P C W pl b s).bind fun r=>match r with
   | (.normal,s')=>EvC P C W pl (.loop b) s'
   | r=>some r:=by
 have hm:∀ s:St,m7 fun n=>kE (fun s=>evC P C (cX P C W n) pl n b s) n s:=fun s n r h =>
   kS (f:=fun n s=>evC P C (cX P C W n) pl n b s) (fun s=>fK cU b s) n n s r h (n+1) (n+1) (by omega) (by omega)
 have hm':∀ s:St,m7 fun n=>kE (fun s=>evC P C (cX P C W (n+1)) pl (n+1) b s) n s:=fun s n r h =>
   kS (f:=fun n s=>evC P C (cX P C W n) pl n b s) (fun s=>fK cU b s) (n+1) n s r h (n+2) (n+1) (by omega) (by omega)
 have hl:∀ s:St,lim (fun n=>kE (fun s=>evC P C (cX P C W (n+1)) pl (n+1) b s) n s)=lim fun n=>kE (fun s=>evC P C (cX P C W n) pl n b s) n s:=fun s=>by
   cases h:lim (fun n=>kE (fun s=>evC P C (cX P C W n) pl n b s) n s) with
   | some r =>obtain ⟨n,hn⟩:=mS h;exact uW (hm' s) (n:=n) (kS (f:=fun n s=>evC P C (cX P C W n) pl n b s) (fun s=>fK cU b s) n n s r hn (n+1) n (by omega) (by omega))
   | none =>
     refine lF fun n=>?_;cases hn:kE (fun s=>evC P C (cX P C W (n+1)) pl (n+1) b s) n s with
     | none=>rfl
     | some r =>have:=tx h (n+1);rw [kS (f:=fun n s=>evC P C (cX P C W n) pl n b s) (fun s=>fK cU b s) (n+1) n s r hn (n+1) (n+1) (by omega) (by omega)] at this;cases this
 have h0:EvC P C W pl (.loop b) s=lim fun n=>kE (fun s=>evC P C (cX P C W n) pl n b s) n s:=by unfold EvC; simp only [evC]
 rw [h0,<-uV (hm s)];simp only [yo];refine (fL (g:=fun n=>evC P C (cX P C W (n+1)) pl (n+1) b s) (k:=fun n (r:bk × St)=>match r with
   | (.normal,s')=>kE (fun s=>evC P C (cX P C W (n+1)) pl (n+1) b s) n s'
   | r=>some r) (fun n r h=>(fK cU b s) (n+1) r h) (fun r=>?_)).trans ?_
 · obtain ⟨e,s'⟩:=r;cases e with
   | normal=>exact hm' s'
   | _=>exact aY _
 · rw [uV (g:=fun n=>evC P C (cX P C W n) pl n b s) (fK cU b s)];show (EvC P C W pl b s).bind _=_;congr 1; funext r;obtain ⟨e,s'⟩:=r;cases e with
   | normal=>simp only []; rw [hl s']; unfold EvC; simp only [evC]
   | _=>exact bY _
end
end Go.Dv
namespace Go.Dv
section
variable {P:Program} {C:Cfg P} {W:pB P} {pl:Nat->Option Way}
def vL (P:Program) (C:Cfg P) (call:cz) (slot:Option Nat) (ops:Array Oper) (o:Oper) (s:St):Option St:=
 if Region.wanted o (dp ops s.1) then (aop P C slot (cY C.gl s.1) o s.2).bind fun r=>match r with
     | (.val v,H')=>some (eC o.dst v s.1,H')
     | (.skip,H')=>some (eC o.dst uA s.1,H')
     | (.enter f args,H')=>(call f args H').bind fun r=>some (eC o.dst r.1 s.1,r.2)
   else some (eC o.dst uA s.1,s.2)
def B4 (P:Program) (C:Cfg P) (call:cz) (ops:Array Oper):List Oper->St->Option St
 | [],s=>some s
 | o::os,s=>(vL P C call none ops o s).bind fun s'=>B4 P C call ops os s'
theorem AU (call:cz) (ops:Array Oper):∀ (os:List Oper) (k:Nat) (s:St),(∀ i o,os[i]? =some o->ops[k+i]? =some o)->jR P C call ops ((bp os.length).map (k + ·)) s=B4 P C call ops os s
 | [],k,s,h=>rfl
 | o::os,k,s,h=>by
   have h0:ops[k]? =some o:=by simpa using h 0 o rfl
   have e:(bp (o::os).length).map (k + ·)=k::(bp os.length).map (k+1 + ·):=by
     rw [List.length_cons,List.range_succ_eq_map]
     simp only [List.map_cons,List.map_map,Nat.add_zero]
     congr 1
     apply List.map_congr_left
     intro j _
     simp only [Function.comp]; omega
   rw [e]
   simp only [jR,B4]
   have hs:jX P C call none ops k s=vL P C call none ops o s:=by rw [sU]; simp only [h0]; rfl
   rw [hs]
   congr 1; funext s'
   exact AU call ops os (k+1) s' fun i o' hi=>by
     have:=h (i+1) o' (by simpa using hi)
     rwa [show k+1+i=k+(i+1) by omega]
theorem qP (id:Nat) (ops:Array Oper) (s:St):EvC P C W pl (.region id ops false) s=(B4 P C (Ev P C W) ops ops.toList s).bind fun s'=>some (.normal,s'):=by rw [FB];congr 1;have:=AU (P:=P) (C:=C) (Ev P C W) ops ops.toList 0 s (fun i o h=>by simpa using h);rw [<-this];congr 1;simp
theorem s4 (call:cz) (ops:Array Oper) (s:St):B4 P C call ops [] s=some s:=rfl
theorem qE (call:cz) (ops:Array Oper) (o:Oper) (os:List Oper) (s:St):B4 P C call ops (o::os) s=(vL P C call none ops o s).bind fun s'=>B4 P C call ops os s':=rfl
theorem oF (call:cz) (slot:Option Nat) (ops:Array Oper) (dst:Option Tmp) (op:Op) (ty:TypeId) (pos:String) (after:Array Edge) (tm:List AV) (H:AH) :
   vL P C call slot ops ⟨dst,op,ty,pos,after,none⟩ (tm,H)=(aop P C slot (cY C.gl tm) ⟨dst,op,ty,pos,after,none⟩ H).bind fun r=>match r with
     | (.val v,H')=>some (eC dst v tm,H')
     | (.skip,H')=>some (eC dst uA tm,H')
     | (.enter f args,H')=>(call f args H').bind fun r=>some (eC dst r.1 tm,r.2):=rfl
section
variable (slot:Option Nat) (ev:Operand->Option AV) (dst:Option Tmp) (ty:TypeId) (pos:String) (after:Array Edge) (g:Option (Nat × Bool)) (H:AH)
theorem uf (x:Operand):aop P C slot ev ⟨dst,.move x,ty,pos,after,g⟩ H=(ev x).map fun v=>(.val v,H):=rfl
theorem pf (x:Operand):aop P C slot ev ⟨dst,.assign x,ty,pos,after,g⟩ H=(ev x).map fun v=>(.val v,H):=rfl
theorem ug (t:TypeId) (a:Operand):aop P C slot ev ⟨dst,.load t a,ty,pos,after,g⟩ H=(ev a).bind fun av=>match av with
   | .ptr i k=>(ldA P t H i k).map fun v=>(.val v,H)
   | _=>none:=rfl
theorem qW (t:TypeId) (a x:Operand):aop P C slot ev ⟨dst,.store t a x,ty,pos,after,g⟩ H=(ev a).bind fun av=>(ev x).bind fun xv=>match av with
   | .ptr i k=>(stA P t H i k xv).map fun H'=>(.skip,H')
   | _=>none:=rfl
theorem q9 (e:TypeId):aop P C slot ev ⟨dst,.alloc e,ty,pos,after,g⟩ H=(d8 P e).bind fun z=>(put slot H (.cells z.cells e)).map fun (i,H')=>(.val (.ptr i 0),H'):=rfl
theorem xg (e:TypeId) (x:Operand):aop P C slot ev ⟨dst,.box e x,ty,pos,after,g⟩ H=(ev x).bind fun v=>(put slot H (.cells v.cells e)).map fun (i,H')=>(.val (.ptr i 0),H'):=rfl
theorem q8 (t:TypeId) (ps:Array (Nat × Operand)):aop P C slot ev ⟨dst,.build t ps,ty,pos,after,g⟩ H=(evP ev ps.toList).bind fun qs=>(iV P t qs).map fun v=>(.val v,H):=rfl
theorem kI (t:TypeId) (len:Nat) (ps:Array (Nat × Operand)):aop P C slot ev ⟨dst,.buildSlice t len ps,ty,pos,after,g⟩ H=(evP ev ps.toList).bind fun qs=>(bn P slot t len qs H).map fun (v,H')=>(.val v,H'):=rfl
theorem ml (x:Operand):aop P C slot ev ⟨dst,.nilCheck x,ty,pos,after,g⟩ H=(ev x).bind fun v=>(jt v).map fun v=>(.val v,H):=rfl
theorem g9 (t:TypeId) (l c:Operand):aop P C slot ev ⟨dst,.makeSlice t l c,ty,pos,after,g⟩ H=(ev l).bind fun lv=>(ev c).bind fun cv=>(fN P slot t lv cv H).map fun (v,H')=>(.val v,H'):=rfl
theorem lh (t:TypeId) (x:Operand) (f:Nat):aop P C slot ev ⟨dst,.fieldAddr t x f,ty,pos,after,g⟩ H=(ev x).bind fun xv=>(aL P t xv f).map fun v=>(.val v,H):=rfl
theorem qZ (t:TypeId) (x:Operand) (f:Nat):aop P C slot ev ⟨dst,.field t x f,ty,pos,after,g⟩ H=(ev x).bind fun xv=>(qc P t xv f).map fun v=>(.val v,H):=rfl
theorem lf (t:TypeId) (x i:Operand):aop P C slot ev ⟨dst,.indexAddr t x i,ty,pos,after,g⟩ H=(ev x).bind fun xv=>(ev i).bind fun iv=>(aC P t xv iv).map fun v=>(.val v,H):=rfl
theorem pe (t:TypeId) (m k:Operand) (ok:Bool):aop P C slot ev ⟨dst,.lookup t m k ok,ty,pos,after,g⟩ H=(ev m).bind fun mv=>(ev k).bind fun kv=>(iJ P t mv kv ok H).map fun v=>(.val v,H):=rfl
theorem ld (t:TypeId) (m k v:Operand):aop P C slot ev ⟨dst,.mapUpdate t m k v,ty,pos,after,g⟩ H=(ev m).bind fun mv=>(ev k).bind fun kv=>(ev v).bind fun vv=>(iI P t mv kv vv H).map fun H'=>(.skip,H'):=rfl
theorem lJ (t:TypeId):aop P C slot ev ⟨dst,.makeMap t none,ty,pos,after,g⟩ H=(put slot H (.map [] 0)).map fun (i,H')=>(.val (.map i),H'):=rfl
theorem mm (fn:Fn) (f c:Array Operand):aop P C slot ev ⟨dst,.makeFunc fn f c,ty,pos,after,g⟩ H=(evL ev f.toList).bind fun f=>(evL ev c.toList).map fun c=>(.val (.func fn f c),H):=rfl
theorem nK (t:Operand) (ix:Nat):aop P C slot ev ⟨dst,.extract t ix,ty,pos,after,g⟩ H=(ev t).bind fun tv=>match tv with
   | .tuple vs=>(vs[ix]?).map fun v=>(.val v,H)
   | _=>none:=rfl
theorem OE (c a b:Operand):aop P C slot ev ⟨dst,.pick c a b,ty,pos,after,g⟩ H=(ev c).bind fun cv=>match cv with
   | .bool true=>(ev a).map fun v=>(.val v,H)
   | .bool false=>(ev b).map fun v=>(.val v,H)
   | _=>none:=rfl
theorem qX (t:TypeId) (x:Operand) (lo hi mx:Option Operand):aop P C slot ev ⟨dst,.slice t x lo hi mx,ty,pos,after,g⟩ H=(ev x).bind fun xv=>(evO ev lo).bind fun l=>(evO ev hi).bind fun h=>(evO ev mx).bind fun m =>
   match ko P t H xv l h m with
   | some v=>some (.val v,H)
   | none=>(dq P ev ⟨dst,.slice t x lo hi mx,ty,pos,after,g⟩).map fun n=>(n,H):=rfl
theorem I9 (op:BinOp) (t yt:TypeId) (x y:Operand):aop P C slot ev ⟨dst,.binOp op t x y yt,ty,pos,after,g⟩ H=(ev x).bind fun xv=>(ev y).bind fun yv =>
   match xv,yv with
   | .int k a,.int k' b=>match (if k=k' then fy op k a b else none) with
     | some v=>some (.val v,H)
     | none=>(dq P ev ⟨dst,.binOp op t x y yt,ty,pos,after,g⟩).map fun n=>(n,H)
   | _,_=>match op,eqA P t H xv yv with
     | .eql,some r=>some (.val (.bool r),H)
     | .neq,some r=>some (.val (.bool (!r)),H)
     | _,_=>(dq P ev ⟨dst,.binOp op t x y yt,ty,pos,after,g⟩).map fun n=>(n,H):=rfl
theorem uj (c:Call):aop P C slot ev ⟨dst,.call c,ty,pos,after,g⟩ H=gk P C slot ev ⟨dst,.call c,ty,pos,after,g⟩ c H:=rfl
theorem aS (o:Oper) (f:Nat) (xs:Array Operand) (ats:Array TypeId):gk P C slot ev o ⟨.value (.tmp f),xs,ats⟩ H=(ev (.tmp f)).bind fun fv=>(evL ev xs.toList).bind fun as =>
   match fv with
   | .func (.func g) first cap=>(P.funcs[g]?).bind fun fn=>if fn.body.isSome then some (.enter g (first++as++cap),H) else none
   | _=>none:=rfl
theorem fO (o:Oper) (x:Operand) (t:TypeId):gk P C slot ev o ⟨.builtin .len,#[x],#[t]⟩ H=(ev x).bind fun v=>(d4 P t H v).map fun v=>(.val v,H):=by unfold gk; simp only [evL]; cases ev x <;> rfl
theorem bS (o:Oper) (x y:Operand) (t u:TypeId):gk P C slot ev o ⟨.builtin .append,#[x,y],#[t,u]⟩ H=(ev x).bind fun s=>(ev y).bind fun v=>(fV P slot t (some u) s v H).map fun (v,H')=>(.val v,H'):=by
 unfold gk; simp only [evL]; cases ev x with
 | none=>rfl
 | some v=>cases ev y <;> rfl
end
theorem BB (gl:GL) (tm:List AV) (t:Tmp):cY gl tm (.tmp t)=some (tm.getD t uA):=rfl
theorem tS (gl:GL) (tm:List AV) (v:Value):cY gl tm (.const v)=ofV 6 v:=rfl
theorem nr (k:IntKind) (n:Int):ofV 6 (.int k n)=some (.int k n):=rfl
theorem pW (b:Bool):ofV 6 (.bool b)=some (.bool b):=rfl
theorem wS (s:ByteArray):ofV 6 (.string s)=some (.str s):=rfl
theorem mc:ofV 6 (.slice none 0 0)=some .nilSlice:=rfl
theorem oS:ofV 6 (.pointer none)=some .nilPtr:=rfl
theorem qJ (d:Tmp) (v:AV) (tm:List AV):eC (some d) v tm=tm.set d v:=rfl
theorem qK (v:AV) (tm:List AV):eC none v tm=tm:=rfl
end
end Go.Dv
