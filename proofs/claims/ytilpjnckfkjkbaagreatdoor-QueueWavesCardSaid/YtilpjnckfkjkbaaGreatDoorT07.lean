/- Part 07 of the walks (own work). -/
import Derived.Test.YtilpjnckfkjkbaaGreatDoorT06
open Bool renaming and_eq_true→aC
open List renaming range→bn,range'→wV,replicate→ay
open Nat renaming le_max_left→yZ,le_max_right→vV
open Option renaming bind_eq_some_iff→ae,bind_some→aA,map_eq_some_iff→ah
set_option maxRecDepth 100000
set_option maxHeartbeats 4000000
set_option linter.unusedSimpArgs false
set_option linter.unusedVariables false
namespace Go.Dv
def Hu (g z:Nat):Env:=fun i=>if i=0 then some (g,0,z) else none
theorem WR.Tj (w:World) {g:Nat} {cs:List AV} (hg:g < w.heap.size) (ho:OR (Hu g cs.length) w 0 (.arg cs)):WR w (fun b=>b < w.heap.size) (Hu g cs.length) [.arg cs] w where
 dom:=fun i hi=>by simp at hi; simp only [Hu]; rw [if_neg (by omega)]
 fresh:=fun i hi=>by cases i <;> simp at hi
 lt:=fun i y hy=>by simp only [Hu] at hy; split at hy <;> simp at hy; subst hy; exact hg
 inj:=fun i j x y ⟨o,hi,hw⟩=>by cases i <;> simp at hi; subst hi; cases hw
 own:=fun i x ⟨o,hi,hw⟩=>by cases i <;> simp at hi; subst hi; cases hw
 jz:=fun i y cs hi hy=>by simp only [Hu] at hy; split at hy <;> simp at hy; subst hy; exact hg
 obj:=fun i o hi=>by
   cases i with
   | zero=>simp at hi; subst hi; exact ho
   | succ i=>simp at hi
 prLt:=fun b h=>h
 size:=Nat.le_refl _
 os:=rfl
 tape:=rfl
 output:=rfl
 old:=fun _ _=>rfl
def oe (g:Nat) (cs:List AV) (w0:World) (Pr:Nat->Prop):Prop:=Pr g/\∀ j v,cs[j]? =some v->∃ u,w0.cell? ⟨g,j,none⟩=some u/\toV v=some u
theorem oe.later {g:Nat} {cs:List AV} {w0 w:World} {Pr:Nat->Prop} {φ:Env} {H:AH} (h:oe g cs w0 Pr) (hW:WR w0 Pr φ H w):oe g cs w (fun b=>b < w.heap.size):=by
 refine ⟨Nat.lt_of_lt_of_le (hW.prLt g h.1) hW.size,fun j v hj=>?_⟩
 obtain ⟨u,hu,hv⟩:=h.2 j v hj
 refine ⟨u,?_,hv⟩
 rw [<-hu]
 exact World.cell?_of_block (w:=w0) (a:=⟨g,j,none⟩) (hW.old g h.1)
def Bx {P:Program} (C:Cfg P) (G:AH):Prop:=∀ w0 Pr φ H w,C.pin w0 Pr->WR w0 Pr φ H w->∃ φ0,WR w (fun b=>b < w.heap.size) φ0 G w/\GI C.gl φ0/\C.pin w (fun b=>b < w.heap.size)
theorem DQ {P:Program} {C:Cfg P} {g:Nat} {cs:List AV} (hg:C.gl=fun x=>if x=g then some 0 else none) (hp:C.pin=oe g cs):Bx C [.arg cs]:=by
 intro w0 Pr φ H w h hW
 rw [hp] at h ⊢
 have hl:=h.later hW
 refine ⟨Hu g cs.length,WR.Tj w hl.1 ⟨g,0,cs.length,rfl,fun j v hj=>?_⟩,?_,hl⟩
 · obtain ⟨u,hu,hv⟩:=hl.2 j v hj
   exact ⟨u,by rw [Nat.zero_add]; exact hu,AB v u hv⟩
 · rw [hg]
   intro x i hi
   simp only at hi
   split at hi
   · rename_i hx; cases hi; subst hx; exact ⟨_,rfl⟩
   · cases hi
abbrev E7:=FuncId × List AV × AV
def qN (l:List E7):bY:=fun f args H=>(l.find? fun e=>f == e.1 && AV.sq e.2.1 args).map fun e=>(e.2.2,H)
def sk (P:Program) (C:Cfg P) (Wy:ph P) (G:AH) (n:Nat) (e:E7):Bool:=(ug e.2.1).isSome && (toV e.2.2).isSome && match cO P C Wy n e.1 e.2.1 G with
 | some (v,_)=>AV.beq v e.2.2
 | none=>false
theorem Bk {P:Program} {C:Cfg P} {Wy:ph P} {G:AH} (hst:Bx C G) {n:Nat} {l:List E7} (hl:l.all (sk P C Wy G n)=true) (gl:GL) (w0:World) (Pr:Nat->Prop) (hpin:C.pin w0 Pr):iE P gl w0 Pr (qN l):=by
 intro f args H v H' h φ w vs _ hW hr
 unfold qN at h
 simp only [ah,Prod.mk.injEq] at h
 obtain ⟨⟨g,as',v'⟩,he,rfl,rfl⟩:=h
 have hm:=List.mem_of_find?_eq_some he
 have hp:=List.find?_some he
 simp only [aC,beq_iff_eq] at hp
 obtain ⟨rfl,hp⟩:=hp
 have ha:=AV.ma _ _ hp
 subst ha
 have hs:=List.all_eq_true.1 hl _ hm
 simp only [sk,aC] at hs
 obtain ⟨⟨h1,h2⟩,h3⟩:=hs
 split at h3
 · rename_i v0 H0 he0
   have hv:=AV.beq_eq _ _ h3
   subst hv
   obtain ⟨φ0,hW0,hg0,hp0⟩:=hst w0 Pr φ H w hpin hW
   have:=jl (C:=C) Wy n hp0 f as' G v0 H0 he0 φ0 w vs hg0 hW0 (IJ h1 hr)
   refine this.mono fun e w' hw=>?_
   obtain ⟨φ',u,_,he,hu,hW'⟩:=hw
   exact ⟨φ,u,Env.le_refl φ,he,AA h2 hu,hW.later hW'.size hW'.old hW'.os hW'.tape hW'.output⟩
 · cases h3
def orElse (a b:bY):bY:=fun f args H=>(a f args H).or (b f args H)
theorem Hr {P:Program} {gl:GL} {w0:World} {Pr:Nat->Prop} {a b:bY} (ha:iE P gl w0 Pr a) (hb:iE P gl w0 Pr b):iE P gl w0 Pr (orElse a b):=by
 intro f args H v H' h
 unfold orElse at h
 cases h1:a f args H with
 | some r=>rw [h1] at h; simp at h; subst h; exact ha f args H v H' h1
 | none=>rw [h1] at h; simp at h; exact hb f args H v H' h
end Go.Dv
namespace Go.Dv
def mS {α:Type} (g:Nat->Option α):Prop:=∀ n r,g n=some r->g (n+1)=some r
theorem mS.le {α:Type} {g:Nat->Option α} (h:mS g) {n m:Nat} (hnm:n<=m) {r:α} (hr:g n=some r):g m=some r:=by
 induction hnm with
 | refl=>exact hr
 | step _ ih=>exact h _ _ ih
open Classical in
noncomputable def lim {α:Type} (g:Nat->Option α):Option α:=if h:∃ n r,g n=some r then some (Classical.choose (Classical.choose_spec h)) else none
theorem mF {α:Type} {g:Nat->Option α} {r:α} (h:lim g=some r):∃ n,g n=some r:=by
 unfold lim at h
 split at h
 · rename_i he
   cases h
   exact ⟨_,Classical.choose_spec (Classical.choose_spec he)⟩
 · cases h
theorem uJ {α:Type} {g:Nat->Option α} (hg:mS g) {n:Nat} {r:α} (h:g n=some r):lim g=some r:=by
 have he:∃ n r,g n=some r:=⟨n,r,h⟩
 cases hl:lim g with
 | none=>unfold lim at hl; rw [dif_pos he] at hl; cases hl
 | some r' =>
   obtain ⟨m,hm⟩:=mF hl
   have h1:=hg.le (yZ n m) h
   have h2:=hg.le (vV n m) hm
   rw [h1] at h2; cases h2; rfl
theorem tj {α:Type} {g:Nat->Option α} (h:lim g=none) (n:Nat):g n=none:=by
 cases hn:g n with
 | none=>rfl
 | some r=>unfold lim at h; rw [dif_pos ⟨n,r,hn⟩] at h; cases h
theorem lq {α:Type} {g:Nat->Option α} (h:∀ n,g n=none):lim g=none:=by
 cases hl:lim g with
 | none=>rfl
 | some r=>obtain ⟨n,hn⟩:=mF hl; rw [h n] at hn; cases hn
theorem bQ {α:Type} (x:Option α):lim (fun _=>x)=x:=by
 cases x with
 | none=>exact lq fun _=>rfl
 | some r=>exact uJ (g:=fun _=>some r) (fun _ _ h=>h) (n:=0) rfl
theorem dx {α β:Type} {g:Nat->Option α} {k:Nat->α->Option β} (hg:mS g) (hk:∀ x,mS fun n=>k n x):mS fun n=>(g n).bind (k n):=fun n r h=>by
 simp only [ae] at h ⊢
 obtain ⟨x,hx,hr⟩:=h
 exact ⟨x,hg n x hx,hk x n r hr⟩
theorem fB {α β:Type} {g:Nat->Option α} {k:Nat->α->Option β} (hg:mS g) (hk:∀ x,mS fun n=>k n x) :
   lim (fun n=>(g n).bind (k n))=(lim g).bind fun x=>lim fun n=>k n x:=by
 cases h1:lim g with
 | none=>exact lq fun n=>by rw [tj h1 n]; rfl
 | some x =>
   obtain ⟨n1,hn1⟩:=mF h1
   simp only [aA]
   cases h2:lim (fun n=>k n x) with
   | none =>
     refine lq fun n=>?_
     cases hb:(g n).bind (k n) with
     | none=>rfl
     | some r =>
       simp only [ae] at hb
       obtain ⟨y,hy,hr⟩:=hb
       have e1:=hg.le (yZ n n1) hy
       have e2:=hg.le (vV n n1) hn1
       rw [e1] at e2; cases e2
       have:=tj h2 n; rw [hr] at this; cases this
   | some r =>
     obtain ⟨n2,hn2⟩:=mF h2
     refine uJ (dx hg hk) (n:=max n1 n2) ?_
     rw [hg.le (yZ n1 n2) hn1]
     exact (hk x).le (vV n1 n2) hn2
theorem uI {α:Type} {g:Nat->Option α} (hg:mS g):lim (fun n=>g (n+1))=lim g:=by
 cases h:lim g with
 | none=>exact lq fun n=>tj h _
 | some r =>
   obtain ⟨n,hn⟩:=mF h
   exact uJ (fun n r h=>hg (n+1) r h) (n:=n) (hg n r hn)
theorem aV {α:Type} (x:Option α):mS fun _=>x:=fun _ _ h=>h
section
variable {P:Program} {C:Cfg P} {W:ph P} {pl:Nat->Option Way}
def mO (c:Nat->bY):Prop:=∀ f a H,mS fun n=>c n f a H
noncomputable def Eo (c:Nat->bY):bY:=fun f a H=>lim fun n=>c n f a H
theorem sL (call:bY) (slot:Option Nat) (ops:Array Oper) (i:Nat) (s:St):jR P C call slot ops i s =
   match ops[i]? with
   | none=>some s
   | some o=>if Region.wanted o (cY ops s.1) then (aop P C slot (cP C.gl s.1) o s.2).bind fun r=>match r with
       | (.val v,H')=>some (ef o.dst v s.1,H')
       | (.skip,H')=>some (ef o.dst uA s.1,H')
       | (.enter f args,H')=>(call f args H').bind fun r=>some (ef o.dst r.1 s.1,r.2)
     else some (ef o.dst uA s.1,s.2):=by
 unfold jR
 cases ops[i]? with
 | none=>rfl
 | some o =>
   simp only
   by_cases hw:Region.wanted o (cY ops s.1)=true
   · rw [if_pos hw,if_pos hw]
     cases aop P C slot (cP C.gl s.1) o s.2 with
     | none=>rfl
     | some r =>
       obtain ⟨r,H'⟩:=r
       cases r with
       | val v=>rfl
       | skip=>rfl
       | enter f args=>simp only [aA]; cases call f args H' <;> rfl
   · rw [if_neg hw,if_neg hw]
theorem oK {c:Nat->bY} (hc:mO c) (slot:Option Nat) (ops:Array Oper) (i:Nat) (s:St):mS fun n=>jR P C (c n) slot ops i s:=by
 simp only [sL]
 split
 · exact aV _
 · split
   · refine dx (aV _) fun r=>?_
     obtain ⟨r,H'⟩:=r
     cases r with
     | val v=>exact aV _
     | skip=>exact aV _
     | enter f args=>exact dx (hc f args H') fun x=>aV _
   · exact aV _
theorem zK {c:Nat->bY} (hc:mO c) (slot:Option Nat) (ops:Array Oper) (i:Nat) (s:St):lim (fun n=>jR P C (c n) slot ops i s)=jR P C (Eo c) slot ops i s:=by
 simp only [sL]
 split
 · exact bQ _
 · split
   · rename_i o ho hw
     cases ha:aop P C slot (cP C.gl s.1) o s.2 with
     | none=>exact bQ _
     | some r =>
       obtain ⟨r,H'⟩:=r
       simp only [aA]
       cases r with
       | val v=>exact bQ _
       | skip=>exact bQ _
       | enter f args =>
         show lim (fun n=>(c n f args H').bind fun r=>some (ef o.dst r.1 s.1,r.2))=_
         refine (fB (k:=fun _ r=>some (ef o.dst r.1 s.1,r.2)) (hc f args H') (fun x=>aV _)).trans ?_
         simp only [bQ]; rfl
   · exact bQ _
theorem jd {c:Nat->bY} (hc:mO c) (ops:Array Oper):∀ (is:List Nat) (s:St),mS fun n=>jM P C (c n) ops is s
 | [],s=>aV _
 | i::is,s=>by simp only [jM]; exact dx (oK hc none ops i s) fun x=>jd hc ops is x
theorem sd {c:Nat->bY} (hc:mO c) (ops:Array Oper):∀ (is:List Nat) (s:St),lim (fun n=>jM P C (c n) ops is s)=jM P C (Eo c) ops is s
 | [],s=>bQ _
 | i::is,s=>by
   simp only [jM]
   rw [fB (oK hc none ops i s) fun x=>jd hc ops is x,zK hc]
   congr 1; funext x; exact sd hc ops is x
mutual
theorem dS {c:Nat->bY} (hc:mO c) (base:Nat) (ops:Array Oper):∀ (p:d5) (s:St),mS fun n=>bZ P C (c n) base ops p s
 | .done,s=>by simp only [bZ]; exact aV _
 | .take i p,s=>by
   simp only [bZ]
   split
   · exact aV _
   · exact dx (aV _) fun x=>dS hc base ops p _
 | .all l,s=>by simp only [bZ]; exact lj hc base ops l s none
 | .rd i p,s=>by
   simp only [bZ]
   split
   · exact aV _
   · exact dx (aV _) fun v=>dS hc base ops p _
 | .join p q,s=>by simp only [bZ]; exact dx (dS hc base ops p s) fun t=>dS hc base ops q t
theorem lj {c:Nat->bY} (hc:mO c) (base:Nat) (ops:Array Oper):∀ (l:List (Nat × d5)) (s:St) (r:Option St),mS fun n=>eJ P C (c n) base ops l s r
 | [],s,r=>by simp only [eJ]; exact aV _
 | (i,p)::l,s,r=>by
   simp only [eJ]
   refine dx (oK hc _ ops i s) fun s'=>dx (dS hc base ops p s') fun t=>?_
   split
   · exact lj hc base ops l s _
   · split
     · exact lj hc base ops l s _
     · exact aV _
end
mutual
theorem jU {c:Nat->bY} (hc:mO c) (base:Nat) (ops:Array Oper):∀ (p:d5) (s:St),lim (fun n=>bZ P C (c n) base ops p s)=bZ P C (Eo c) base ops p s
 | .done,s=>by simp only [bZ]; exact bQ _
 | .take i p,s=>by
   simp only [bZ]
   split
   · exact bQ _
   · rw [fB (aV _) fun x=>dS hc base ops p _,bQ]
     congr 1; funext x; exact jU hc base ops p _
 | .all l,s=>by simp only [bZ]; exact se hc base ops l s none
 | .rd i p,s=>by
   simp only [bZ]
   split
   · exact bQ _
   · refine (fB (aV _) fun v=>dS hc base ops p _).trans ?_
     rw [bQ]
     congr 1; funext v; exact jU hc base ops p _
 | .join p q,s=>by
   simp only [bZ]
   rw [fB (dS hc base ops p s) fun t=>dS hc base ops q t,jU hc base ops p s]
   congr 1; funext t; exact jU hc base ops q t
theorem se {c:Nat->bY} (hc:mO c) (base:Nat) (ops:Array Oper):∀ (l:List (Nat × d5)) (s:St) (r:Option St),lim (fun n=>eJ P C (c n) base ops l s r)=eJ P C (Eo c) base ops l s r
 | [],s,r=>by simp only [eJ]; exact bQ _
 | (i,p)::l,s,r=>by
   simp only [eJ]
   have hm:∀ (t:St),mS fun n=>(match r with
     | none=>eJ P C (c n) base ops l s (some t)
     | some t0=>if py t0 t=true then eJ P C (c n) base ops l s (some t0) else none):=fun t=>by
     split
     · exact lj hc base ops l s _
     · split
       · exact lj hc base ops l s _
       · exact aV _
   refine (fB (k:=fun n s'=>(bZ P C (c n) base ops p s').bind fun t=>match r with
     | none=>eJ P C (c n) base ops l s (some t)
     | some t0=>if py t0 t=true then eJ P C (c n) base ops l s (some t0) else none) (oK hc _ ops i s) fun s'=>dx (dS hc base ops p s') hm).trans ?_
   rw [zK hc]
   congr 1; funext s'
   refine (fB (k:=fun n t=>match r with
     | none=>eJ P C (c n) base ops l s (some t)
     | some t0=>if py t0 t=true then eJ P C (c n) base ops l s (some t0) else none) (dS hc base ops p s') hm).trans ?_
   rw [jU hc base ops p s']
   congr 1; funext t
   cases r with
   | none=>exact se hc base ops l s _
   | some t0 =>
     simp only
     by_cases hb:py t0 t=true
     · simp only [if_pos hb]; exact se hc base ops l s _
     · simp only [if_neg hb]; exact bQ _
end
theorem xY (f:St->Option (bs × St)) (n:Nat) (s:St):ko f (n+1) s=(f s).bind fun r=>match r with
   | (.normal,s')=>ko f n s'
   | r=>some r:=by
 simp only [ko]
 split
 · rename_i h; rw [h]; rfl
 · rename_i h
   cases hf:f s with
   | none=>rfl
   | some r =>
     obtain ⟨e,s'⟩:=r
     cases e with
     | normal=>exact absurd hf (h s')
     | _=>rfl
theorem kK {f:Nat->St->Option (bs × St)} (hf:∀ s,mS fun n=>f n s):∀ (n m:Nat) (s:St) (r:bs × St),ko (f n) m s=some r->∀ n' m',n<=n'->m<=m'->ko (f n') m' s=some r
 | n,0,s,r,h,_,_,_,_=>by simp [ko] at h
 | n,m+1,s,r,h,n',m',hn,hm=>by
   obtain ⟨m',rfl⟩:∃ q,m'=q+1:=⟨m' - 1,by omega⟩
   rw [xY] at h ⊢
   simp only [ae] at h ⊢
   obtain ⟨x,hx,hr⟩:=h
   refine ⟨x,(hf s).le hn hx,?_⟩
   split at hr
   · exact kK hf n m _ r hr n' m' hn (by omega)
   · exact hr
theorem FW (call:bY) (n:Nat) (a b:Code) (s:St):evC P C call pl n (.seq a b) s=(evC P C call pl n a s).bind fun r=>match r with
   | (.normal,s')=>evC P C call pl n b s'
   | r=>some r:=by
 simp only [evC]
 split
 · rename_i h; rw [h]; rfl
 · rename_i h
   cases hf:evC P C call pl n a s with
   | none=>rfl
   | some r =>
     obtain ⟨e,s'⟩:=r
     cases e with
     | normal=>exact absurd hf (h s')
     | _=>rfl
theorem Ad (call:bY) (n:Nat) (id:Nat) (b:Code) (s:St):evC P C call pl n (.block id b) s=(evC P C call pl n b s).bind fun r=>match r with
   | (.exit id',s')=>if id'=id then some (.normal,s') else some (.exit id',s')
   | r=>some r:=by
 simp only [evC]
 split
 · rename_i h; rw [h]; rfl
 · rename_i h
   cases hf:evC P C call pl n b s with
   | none=>rfl
   | some r =>
     obtain ⟨e,s'⟩:=r
     cases e with
     | exit id'=>exact absurd hf (h id' s')
     | _=>rfl
theorem mE {c:Nat->bY} (hc:mO c) (ops:Array Oper):∀ (l:List Oper) (s:St),mS fun n=>gO P C (c n) ops l s
 | [],s=>by simp only [gO]; exact aV _
 | o::l,s=>by
   simp only [gO]
   split
   · refine dx ?_ fun v=>mE hc ops l _
     unfold gK
     split
     · split
       · exact aV _
       · refine dx (aV _) fun r=>?_
         split
         · split
           · simp only [show ∀ (f:AV × AH->AV) (o:Option (AV × AH)),o.map f=o.bind fun x=>some (f x) from fun f o=>by cases o <;> rfl]
             exact dx (hc _ _ _) fun _=>aV _
           · exact aV _
         · exact aV _
     · exact aV _
   · exact mE hc ops l _
theorem HA {c:Nat->bY} (hc:mO c) (ev:Operand->Option AV) (o:Oper) (H:AH):lim (fun n=>gK P C (c n) ev o H)=gK P C (Eo c) ev o H:=by
 unfold gK
 split
 · split
   · exact bQ _
   · rename_i cc _ _ _
     cases ha:fZ P C none ev o cc H with
     | none=>exact bQ _
     | some r =>
       obtain ⟨r,H'⟩:=r
       simp only [aA]
       cases r with
       | val v=>exact bQ _
       | skip=>exact bQ _
       | enter f args =>
         simp only
         split
         · simp only [show ∀ (f:AV × AH->AV) (o:Option (AV × AH)),o.map f=o.bind fun x=>some (f x) from fun f o=>by cases o <;> rfl]
           refine (fB (k:=fun _ x=>some x.1) (hc f args H) (fun x=>aV _)).trans ?_
           simp only [bQ]; rfl
         · exact bQ _
 · exact bQ _
theorem Em {c:Nat->bY} (hc:mO c) (ev:Operand->Option AV) (o:Oper) (H:AH):mS (fun n=>gK P C (c n) ev o H):=by
 unfold gK
 split
 · split
   · exact aV _
   · refine dx (aV _) fun r=>?_
     split
     · split
       · simp only [show ∀ (f:AV × AH->AV) (o:Option (AV × AH)),o.map f=o.bind fun x=>some (f x) from fun f o=>by cases o <;> rfl]
         exact dx (hc _ _ _) fun _=>aV _
       · exact aV _
     · exact aV _
 · exact aV _
theorem uK {c:Nat->bY} (hc:mO c) (ops:Array Oper):∀ (l:List Oper) (s:St),lim (fun n=>gO P C (c n) ops l s)=gO P C (Eo c) ops l s
 | [],s=>by simp only [gO]; exact bQ _
 | o::l,s=>by
   simp only [gO]
   split
   · rw [fB (Em hc _ o s.2) fun v=>mE hc ops l _,HA hc]
     congr 1; funext v; exact uK hc ops l _
   · exact uK hc ops l _
theorem map_bind {α β:Type} (f:α->β) (o:Option α):o.map f=o.bind fun x=>some (f x):=by cases o <;> rfl
theorem fA {c:Nat->bY} (hc:mO c):∀ (x:Code) (s:St),mS fun n=>evC P C (c n) pl n x s
 | .skip,s=>by simp only [evC]; exact aV _
 | .region id ops false,s=>by
   simp only [evC]; intro n r h
   simp only [ah] at h ⊢
   obtain ⟨x,hx,hr⟩:=h
   exact ⟨x,jd hc ops _ _ n x hx,hr⟩
 | .region id ops true,s=>by
   simp only [evC]
   split
   · simp only [map_bind]; exact dx (dS hc _ ops _ _) fun x=>aV _
   · exact aV _
   · simp only [map_bind]; exact dx (aV _) fun x=>dx (jd hc ops _ _) fun y=>aV _
   · simp only [map_bind]; exact dx (dS hc _ ops _ _) fun x=>aV _
   · exact aV _
   · simp only [map_bind]; exact dx (mE hc ops _ _) fun x=>aV _
   · exact aV _
 | .seq a b,s=>by
   simp only [FW]
   refine dx (fA hc a s) fun r=>?_
   obtain ⟨e,s'⟩:=r
   cases e with
   | normal=>exact fA hc b s'
   | _=>exact aV _
 | .cond q x y,s=>by
   simp only [evC]
   split
   · exact fA hc x s
   · exact fA hc y s
   · exact aV _
 | .block id b,s=>by
   simp only [Ad]
   exact dx (fA hc b s) fun r=>aV _
 | .loop b,s=>by
   simp only [evC]; intro n r h
   exact kK (f:=fun n s=>evC P C (c n) pl n b s) (fun s=>fA hc b s) n n s r h (n+1) (n+1) (by omega) (by omega)
 | .exit id,s=>by simp only [evC]; exact aV _
 | .ret,s=>by simp only [evC]; exact aV _
 | .rangeFunc ..,s=>by simp only [evC]; exact aV _
 | .scope _,s=>by simp only [evC]; exact aV _
 | .label _,s=>by simp only [evC]; exact aV _
 | .goto _,s=>by simp only [evC]; exact aV _
 | .refuse _,s=>by simp only [evC]; exact aV _
def LS (P:Program) (C:Cfg P) (f:FuncId) (fn:Func) (H:AH) (r:bs × St):Option (AV × AH):=match r with
 | (.normal,s)=>(mr P fn s).bind (kF (C.reads f) H)
 | (.ret,s)=>(mr P fn s).bind (kF (C.reads f) H)
 | _=>none
theorem vG (n:Nat) (f:FuncId) (args:List AV) (H:AH) (ho:C.orc f args H=none):cO P C W (n+1) f args H =
   (P.funcs[f]?).bind fun fn=>fn.body.bind fun c =>
     (evC P C (cO P C W n) (W.pl f) n c (args++ay (fn.ntmps - args.length) uA,if C.reads f then ro H else H)).bind (LS P C f fn H):=by
 simp only [cO,ho]
 congr 1; funext fn; congr 1; funext c
 cases evC P C (cO P C W n) (W.pl f) n c (args++ay (fn.ntmps - args.length) uA,if C.reads f then ro H else H) with
 | none=>rfl
 | some r=>obtain ⟨e,s⟩:=r; cases e <;> rfl
theorem cJ:mO (cO P C W):=by
 have key:∀ n f a H r,cO P C W n f a H=some r->cO P C W (n+1) f a H=some r:=by
   intro n
   induction n with
   | zero=>intro f a H r h; simp [cO] at h
   | succ n ih =>
     intro f a H r h
     cases ho:C.orc f a H with
     | some r'=>simp only [cO,ho] at h ⊢; exact h
     | none =>
     rw [vG _ _ _ _ ho] at h ⊢
     simp only [ae] at h ⊢
     obtain ⟨fn,hfn,c,hc,x,hx,hr⟩:=h
     refine ⟨fn,hfn,c,hc,x,?_,hr⟩
     have hm':mO (fun k=>if k<=n then cO P C W n else cO P C W (n+1)):=fun f a H k r hk=>by
       simp only at hk ⊢
       split at hk
       · split
         · exact hk
         · exact ih f a H r hk
       · rw [if_neg (by omega)]; exact hk
     have:=(fA (P:=P) (C:=C) (pl:=W.pl f) hm' c (a++ay (fn.ntmps - a.length) uA,if C.reads f then ro H else H)) n x (by simpa using hx)
     simpa [show ¬ (n+1<=n) by omega] using this
 exact fun f a H n r h=>key n f a H r h
noncomputable def Ev (P:Program) (C:Cfg P) (W:ph P):bY:=Eo (cO P C W)
noncomputable def EvC (P:Program) (C:Cfg P) (W:ph P) (pl:Nat->Option Way) (c:Code) (s:St):Option (bs × St):=lim fun n=>evC P C (cO P C W n) pl n c s
theorem Z9 {n:Nat} {f:FuncId} {a:List AV} {H:AH} {r:AV × AH} (h:cO P C W n f a H=some r):Ev P C W f a H=some r:=uJ (cJ f a H) h
theorem Nw {f:FuncId} {a:List AV} {H:AH} {r:AV × AH} (h:C.orc f a H=some r):Ev P C W f a H=some r:=Z9 (n:=1) (by simp only [cO,h])
theorem Dw {w0:World} {Pr:Nat->Prop} (hp:C.pin w0 Pr):iE P C.gl w0 Pr (Ev P C W):=fun f args H v H' h=>by
 obtain ⟨n,hn⟩:=mF h
 exact jl W n hp f args H v H' hn
theorem SG {f:FuncId} {fn:Func} {c:Code} (hf:P.funcs[f]? =some fn) (hb:fn.body=some c) (args:List AV) (H:AH) (ho:C.orc f args H=none):Ev P C W f args H =
   (EvC P C W (W.pl f) c (args++ay (fn.ntmps - args.length) uA,if C.reads f then ro H else H)).bind (LS P C f fn H):=by
 have h1:Ev P C W f args H=lim fun n=>cO P C W (n+1) f args H:=(uI (cJ f args H)).symm
 rw [h1]
 simp only [vG _ _ _ _ ho,hf,hb,aA]
 refine (fB (k:=fun _=>LS P C f fn H) (fA cJ c _) (fun r=>aV _)).trans ?_
 simp only [bQ]
 rfl
theorem d3 {f:FuncId} {fn:Func} {c:Code} {p:Nat->Option Way} (hf:P.funcs[f]? =some fn) (hb:fn.body=some c) (hp:W.pl f=p) (hr:C.reads f=false) (args:List AV) (H:AH) (ho:C.orc f args H=none):Ev P C W f args H =
   (EvC P C W p c (args++ay (fn.ntmps - args.length) uA,H)).bind fun r=>match r with
     | (.normal,s)=>mr P fn s
     | (.ret,s)=>mr P fn s
     | _=>none:=by
 subst hp
 rw [SG hf hb args H ho,hr]
 congr 1; funext r
 obtain ⟨e,s⟩:=r
 cases e <;> simp only [LS,hr] <;> first | rfl | (cases mr P fn s <;> rfl)
theorem bR {f:FuncId} {fn:Func} {c:Code} {p:Nat->Option Way} (hf:P.funcs[f]? =some fn) (hb:fn.body=some c) (hp:W.pl f=p) (hr:C.reads f=true) (args:List AV) (H:AH) (ho:C.orc f args H=none):Ev P C W f args H =
   (EvC P C W p c (args++ay (fn.ntmps - args.length) uA,ro H)).bind fun r=>match r with
     | (.normal,s)=>(mr P fn s).bind (kF true H)
     | (.ret,s)=>(mr P fn s).bind (kF true H)
     | _=>none:=by
 subst hp
 rw [SG hf hb args H ho,hr,if_pos rfl]
 congr 1; funext r
 obtain ⟨e,s⟩:=r
 cases e <;> simp only [LS,hr]
theorem tT (s:St):EvC P C W pl .skip s=some (.normal,s):=by unfold EvC; simp only [evC]; exact bQ _
theorem tV (id:Nat) (s:St):EvC P C W pl (.exit id) s=some (.exit id,s):=by unfold EvC; simp only [evC]; exact bQ _
theorem wT (s:St):EvC P C W pl .ret s=some (.ret,s):=by unfold EvC; simp only [evC]; exact bQ _
theorem qW (a b:Code) (s:St):EvC P C W pl (.seq a b) s=(EvC P C W pl a s).bind fun r=>match r with
   | (.normal,s')=>EvC P C W pl b s'
   | r=>some r:=by
 unfold EvC
 simp only [FW]
 refine (fB (k:=fun n (r:bs × St)=>match r with
   | (.normal,s')=>evC P C (cO P C W n) pl n b s'
   | r=>some r) (fA cJ a s) (fun r=>?_)).trans ?_
 · obtain ⟨e,s'⟩:=r
   cases e with
   | normal=>exact fA cJ b s'
   | _=>exact aV _
 · congr 1; funext r
   obtain ⟨e,s'⟩:=r
   cases e with
   | normal=>rfl
   | _=>exact bQ _
theorem oh (id:Nat) (b:Code) (s:St):EvC P C W pl (.block id b) s=(EvC P C W pl b s).bind fun r=>match r with
   | (.exit id',s')=>if id'=id then some (.normal,s') else some (.exit id',s')
   | r=>some r:=by
 unfold EvC
 simp only [Ad]
 refine (fB (k:=fun _ (r:bs × St)=>match r with
   | (.exit id',s')=>if id'=id then some (.normal,s') else some (.exit id',s')
   | r=>some r) (fA cJ b s) (fun r=>aV _)).trans ?_
 simp only [bQ]
theorem Ny (q:Operand) (x y:Code) (s:St):EvC P C W pl (.cond q x y) s=match cP C.gl s.1 q with
   | some (.bool true)=>EvC P C W pl x s
   | some (.bool false)=>EvC P C W pl y s
   | _=>none:=by
 unfold EvC
 cases h:cP C.gl s.1 q with
 | none=>simp only [evC,h]; exact bQ _
 | some v=>cases v with
   | bool b=>cases b <;> simp only [evC,h]
   | _=>simp only [evC,h]; exact bQ _
theorem E5 (id:Nat) (ops:Array Oper) (s:St):EvC P C W pl (.region id ops false) s=(jM P C (Ev P C W) ops (bn ops.size) s).bind fun s'=>some (.normal,s'):=by
 unfold EvC
 simp only [evC,map_bind]
 refine (fB (k:=fun _ s'=>some (bs.normal,s')) (jd cJ ops _ s) (fun r=>aV _)).trans ?_
 rw [sd cJ]
 simp only [bQ]
 rfl
theorem tW {id:Nat} {ops:Array Oper} (h:pl id=some .calm) (s:St):EvC P C W pl (.region id ops true) s=(gO P C (Ev P C W) ops ops.toList s).bind fun s'=>some (.normal,s'):=by
 unfold EvC
 simp only [evC,h,map_bind]
 refine (fB (k:=fun _ s'=>some (bs.normal,s')) (mE cJ ops _ s) (fun r=>aV _)).trans ?_
 rw [uK cJ]
 simp only [bQ]
 rfl
theorem qX {id:Nat} {ops:Array Oper} (h:pl id=some .reads) (s:St):EvC P C W pl (.region id ops true) s=(js P C.gl ops ops.toList s).bind fun s'=>some (.normal,s'):=by
 unfold EvC
 simp only [evC,h,map_bind]
 exact bQ _
theorem Nx {id k:Nat} {ops:Array Oper} (h:pl id=some (.tail k)) (s:St):EvC P C W pl (.region id ops true) s=(js P C.gl ops (ops.toList.take k) s).bind fun s1=>(jM P C (Ev P C W) ops (wV k (ops.toList.drop k).length) s1).bind fun s'=>some (.normal,s'):=by
 unfold EvC
 simp only [evC,h,map_bind]
 refine (fB (k:=fun n s1=>(jM P C (cO P C W n) ops (wV k (ops.toList.drop k).length) s1).bind fun s'=>some (bs.normal,s')) (aV _) (fun r=>dx (jd cJ ops _ r) fun _=>aV _)).trans ?_
 rw [bQ]
 congr 1; funext s1
 refine (fB (k:=fun _ s'=>some (bs.normal,s')) (jd cJ ops _ s1) (fun r=>aV _)).trans ?_
 rw [sd cJ]
 simp only [bQ]
 rfl
theorem cK {id:Nat} {ops:Array Oper} {p:d5} (h:pl id=some (.plan p)) (s:St):EvC P C W pl (.region id ops true) s =
   (bZ P C (Ev P C W) s.2.length ops p (s.1,if ops.any (ch ·.op) then s.2++ay ops.size .fresh else s.2)).bind fun s'=>some (.normal,s'):=by
 unfold EvC
 simp only [evC,h,map_bind]
 refine (fB (k:=fun _ s'=>some (bs.normal,s')) (dS cJ _ ops _ _) (fun r=>aV _)).trans ?_
 rw [jU cJ]
 simp only [bQ]
 rfl
theorem bf (b:Code) (s:St):EvC P C W pl (.loop b) s=(EvC P C W pl b s).bind fun r=>match r with
   | (.normal,s')=>EvC P C W pl (.loop b) s'
   | r=>some r:=by
 have hm:∀ s:St,mS fun n=>ko (fun s=>evC P C (cO P C W n) pl n b s) n s:=fun s n r h =>
   kK (f:=fun n s=>evC P C (cO P C W n) pl n b s) (fun s=>fA cJ b s) n n s r h (n+1) (n+1) (by omega) (by omega)
 have hm':∀ s:St,mS fun n=>ko (fun s=>evC P C (cO P C W (n+1)) pl (n+1) b s) n s:=fun s n r h =>
   kK (f:=fun n s=>evC P C (cO P C W n) pl n b s) (fun s=>fA cJ b s) (n+1) n s r h (n+2) (n+1) (by omega) (by omega)
 have hl:∀ s:St,lim (fun n=>ko (fun s=>evC P C (cO P C W (n+1)) pl (n+1) b s) n s)=lim fun n=>ko (fun s=>evC P C (cO P C W n) pl n b s) n s:=fun s=>by
   cases h:lim (fun n=>ko (fun s=>evC P C (cO P C W n) pl n b s) n s) with
   | some r =>
     obtain ⟨n,hn⟩:=mF h
     exact uJ (hm' s) (n:=n) (kK (f:=fun n s=>evC P C (cO P C W n) pl n b s) (fun s=>fA cJ b s) n n s r hn (n+1) n (by omega) (by omega))
   | none =>
     refine lq fun n=>?_
     cases hn:ko (fun s=>evC P C (cO P C W (n+1)) pl (n+1) b s) n s with
     | none=>rfl
     | some r =>
       have:=tj h (n+1)
       rw [kK (f:=fun n s=>evC P C (cO P C W n) pl n b s) (fun s=>fA cJ b s) (n+1) n s r hn (n+1) (n+1) (by omega) (by omega)] at this
       cases this
 have h0:EvC P C W pl (.loop b) s=lim fun n=>ko (fun s=>evC P C (cO P C W n) pl n b s) n s:=by unfold EvC; simp only [evC]
 rw [h0,<-uI (hm s)]
 simp only [xY]
 refine (fB (g:=fun n=>evC P C (cO P C W (n+1)) pl (n+1) b s) (k:=fun n (r:bs × St)=>match r with
   | (.normal,s')=>ko (fun s=>evC P C (cO P C W (n+1)) pl (n+1) b s) n s'
   | r=>some r) (fun n r h=>(fA cJ b s) (n+1) r h) (fun r=>?_)).trans ?_
 · obtain ⟨e,s'⟩:=r
   cases e with
   | normal=>exact hm' s'
   | _=>exact aV _
 · rw [uI (g:=fun n=>evC P C (cO P C W n) pl n b s) (fA cJ b s)]
   show (EvC P C W pl b s).bind _=_
   congr 1; funext r
   obtain ⟨e,s'⟩:=r
   cases e with
   | normal=>simp only []; rw [hl s']; unfold EvC; simp only [evC]
   | _=>exact bQ _
end
end Go.Dv
namespace Go.Dv
section
variable {P:Program} {C:Cfg P} {W:ph P} {pl:Nat->Option Way}
def vk (P:Program) (C:Cfg P) (call:bY) (slot:Option Nat) (ops:Array Oper) (o:Oper) (s:St):Option St:=
 if Region.wanted o (cY ops s.1) then (aop P C slot (cP C.gl s.1) o s.2).bind fun r=>match r with
     | (.val v,H')=>some (ef o.dst v s.1,H')
     | (.skip,H')=>some (ef o.dst uA s.1,H')
     | (.enter f args,H')=>(call f args H').bind fun r=>some (ef o.dst r.1 s.1,r.2)
   else some (ef o.dst uA s.1,s.2)
def BL (P:Program) (C:Cfg P) (call:bY) (ops:Array Oper):List Oper->St->Option St
 | [],s=>some s
 | o::os,s=>(vk P C call none ops o s).bind fun s'=>BL P C call ops os s'
theorem AI (call:bY) (ops:Array Oper):∀ (os:List Oper) (k:Nat) (s:St),(∀ i o,os[i]? =some o->ops[k+i]? =some o)->jM P C call ops ((bn os.length).map (k + ·)) s=BL P C call ops os s
 | [],k,s,h=>rfl
 | o::os,k,s,h=>by
   have h0:ops[k]? =some o:=by simpa using h 0 o rfl
   have e:(bn (o::os).length).map (k + ·)=k::(bn os.length).map (k+1 + ·):=by
     rw [List.length_cons,List.range_succ_eq_map]
     simp only [List.map_cons,List.map_map,Nat.add_zero]
     congr 1
     apply List.map_congr_left
     intro j _
     simp only [Function.comp]; omega
   rw [e]
   simp only [jM,BL]
   have hs:jR P C call none ops k s=vk P C call none ops o s:=by rw [sL]; simp only [h0]; rfl
   rw [hs]
   congr 1; funext s'
   exact AI call ops os (k+1) s' fun i o' hi=>by
     have:=h (i+1) o' (by simpa using hi)
     rwa [show k+1+i=k+(i+1) by omega]
theorem qJ (id:Nat) (ops:Array Oper) (s:St):EvC P C W pl (.region id ops false) s=(BL P C (Ev P C W) ops ops.toList s).bind fun s'=>some (.normal,s'):=by
 rw [E5]
 congr 1
 have:=AI (P:=P) (C:=C) (Ev P C W) ops ops.toList 0 s (fun i o h=>by simpa using h)
 rw [<-this]
 congr 1
 simp
theorem sS (call:bY) (ops:Array Oper) (s:St):BL P C call ops [] s=some s:=rfl
theorem qy (call:bY) (ops:Array Oper) (o:Oper) (os:List Oper) (s:St):BL P C call ops (o::os) s=(vk P C call none ops o s).bind fun s'=>BL P C call ops os s':=rfl
theorem ox (call:bY) (slot:Option Nat) (ops:Array Oper) (dst:Option Tmp) (op:Op) (ty:TypeId) (pos:String) (after:Array Edge) (tm:List AV) (H:AH) :
   vk P C call slot ops ⟨dst,op,ty,pos,after,none⟩ (tm,H)=(aop P C slot (cP C.gl tm) ⟨dst,op,ty,pos,after,none⟩ H).bind fun r=>match r with
     | (.val v,H')=>some (ef dst v tm,H')
     | (.skip,H')=>some (ef dst uA tm,H')
     | (.enter f args,H')=>(call f args H').bind fun r=>some (ef dst r.1 tm,r.2):=rfl
section
variable (slot:Option Nat) (ev:Operand->Option AV) (dst:Option Tmp) (ty:TypeId) (pos:String) (after:Array Edge) (g:Option (Nat × Bool)) (H:AH)
theorem tP (x:Operand):aop P C slot ev ⟨dst,.move x,ty,pos,after,g⟩ H=(ev x).map fun v=>(.val v,H):=rfl
theorem oZ (x:Operand):aop P C slot ev ⟨dst,.assign x,ty,pos,after,g⟩ H=(ev x).map fun v=>(.val v,H):=rfl
theorem tQ (t:TypeId) (a:Operand):aop P C slot ev ⟨dst,.load t a,ty,pos,after,g⟩ H=(ev a).bind fun av=>match av with
   | .ptr i k=>(ldA P t H i k).map fun v=>(.val v,H)
   | _=>none:=rfl
theorem qP (t:TypeId) (a x:Operand):aop P C slot ev ⟨dst,.store t a x,ty,pos,after,g⟩ H=(ev a).bind fun av=>(ev x).bind fun xv=>match av with
   | .ptr i k=>(stA P t H i k xv).map fun H'=>(.skip,H')
   | _=>none:=rfl
theorem qV (e:TypeId):aop P C slot ev ⟨dst,.alloc e,ty,pos,after,g⟩ H=(dP P e).bind fun z=>(put slot H (.cells z.cells e)).map fun (i,H')=>(.val (.ptr i 0),H'):=rfl
theorem wS (e:TypeId) (x:Operand):aop P C slot ev ⟨dst,.box e x,ty,pos,after,g⟩ H=(ev x).bind fun v=>(put slot H (.cells v.cells e)).map fun (i,H')=>(.val (.ptr i 0),H'):=rfl
theorem qU (t:TypeId) (ps:Array (Nat × Operand)):aop P C slot ev ⟨dst,.build t ps,ty,pos,after,g⟩ H=(evP ev ps.toList).bind fun qs=>(jt P t qs).map fun v=>(.val v,H):=rfl
theorem ku (t:TypeId) (len:Nat) (ps:Array (Nat × Operand)):aop P C slot ev ⟨dst,.buildSlice t len ps,ty,pos,after,g⟩ H=(evP ev ps.toList).bind fun qs=>(bk P slot t len qs H).map fun (v,H')=>(.val v,H'):=rfl
theorem mc (x:Operand):aop P C slot ev ⟨dst,.nilCheck x,ty,pos,after,g⟩ H=(ev x).bind fun v=>(ji v).map fun v=>(.val v,H):=rfl
theorem jB (t:TypeId) (l c:Operand):aop P C slot ev ⟨dst,.makeSlice t l c,ty,pos,after,g⟩ H=(ev l).bind fun lv=>(ev c).bind fun cv=>(fE P slot t lv cv H).map fun (v,H')=>(.val v,H'):=rfl
theorem k5 (t:TypeId) (x:Operand) (f:Nat):aop P C slot ev ⟨dst,.fieldAddr t x f,ty,pos,after,g⟩ H=(ev x).bind fun xv=>(aN P t xv f).map fun v=>(.val v,H):=rfl
theorem qT (t:TypeId) (x:Operand) (f:Nat):aop P C slot ev ⟨dst,.field t x f,ty,pos,after,g⟩ H=(ev x).bind fun xv=>(pR P t xv f).map fun v=>(.val v,H):=rfl
theorem kZ (t:TypeId) (x i:Operand):aop P C slot ev ⟨dst,.indexAddr t x i,ty,pos,after,g⟩ H=(ev x).bind fun xv=>(ev i).bind fun iv=>(aD P t xv iv).map fun v=>(.val v,H):=rfl
theorem oY (t:TypeId) (m k:Operand) (ok:Bool):aop P C slot ev ⟨dst,.lookup t m k ok,ty,pos,after,g⟩ H=(ev m).bind fun mv=>(ev k).bind fun kv=>(iB P t mv kv ok H).map fun v=>(.val v,H):=rfl
theorem kY (t:TypeId) (m k v:Operand):aop P C slot ev ⟨dst,.mapUpdate t m k v,ty,pos,after,g⟩ H=(ev m).bind fun mv=>(ev k).bind fun kv=>(ev v).bind fun vv=>(iz P t mv kv vv H).map fun H'=>(.skip,H'):=rfl
theorem lA (t:TypeId):aop P C slot ev ⟨dst,.makeMap t none,ty,pos,after,g⟩ H=(put slot H (.map [] 0)).map fun (i,H')=>(.val (.map i),H'):=rfl
theorem me (fn:Fn) (f c:Array Operand):aop P C slot ev ⟨dst,.makeFunc fn f c,ty,pos,after,g⟩ H=(evL ev f.toList).bind fun f=>(evL ev c.toList).map fun c=>(.val (.func fn f c),H):=rfl
theorem ny (t:Operand) (ix:Nat):aop P C slot ev ⟨dst,.extract t ix,ty,pos,after,g⟩ H=(ev t).bind fun tv=>match tv with
   | .tuple vs=>(vs[ix]?).map fun v=>(.val v,H)
   | _=>none:=rfl
theorem Nm (c a b:Operand):aop P C slot ev ⟨dst,.pick c a b,ty,pos,after,g⟩ H=(ev c).bind fun cv=>match cv with
   | .bool true=>(ev a).map fun v=>(.val v,H)
   | .bool false=>(ev b).map fun v=>(.val v,H)
   | _=>none:=rfl
theorem qQ (t:TypeId) (x:Operand) (lo hi mx:Option Operand):aop P C slot ev ⟨dst,.slice t x lo hi mx,ty,pos,after,g⟩ H=(ev x).bind fun xv=>(evO ev lo).bind fun l=>(evO ev hi).bind fun h=>(evO ev mx).bind fun m =>
   match kf P t H xv l h m with
   | some v=>some (.val v,H)
   | none=>(cZ P ev ⟨dst,.slice t x lo hi mx,ty,pos,after,g⟩).map fun n=>(n,H):=rfl
theorem Il (op:BinOp) (t yt:TypeId) (x y:Operand):aop P C slot ev ⟨dst,.binOp op t x y yt,ty,pos,after,g⟩ H=(ev x).bind fun xv=>(ev y).bind fun yv =>
   match xv,yv with
   | .int k a,.int k' b=>match (if k=k' then fh op k a b else none) with
     | some v=>some (.val v,H)
     | none=>(cZ P ev ⟨dst,.binOp op t x y yt,ty,pos,after,g⟩).map fun n=>(n,H)
   | _,_=>match op,eqA P t H xv yv with
     | .eql,some r=>some (.val (.bool r),H)
     | .neq,some r=>some (.val (.bool (!r)),H)
     | _,_=>(cZ P ev ⟨dst,.binOp op t x y yt,ty,pos,after,g⟩).map fun n=>(n,H):=rfl
theorem tR (c:Call):aop P C slot ev ⟨dst,.call c,ty,pos,after,g⟩ H=fZ P C slot ev ⟨dst,.call c,ty,pos,after,g⟩ c H:=rfl
theorem aR (o:Oper) (f:Nat) (xs:Array Operand) (ats:Array TypeId):fZ P C slot ev o ⟨.value (.tmp f),xs,ats⟩ H=(ev (.tmp f)).bind fun fv=>(evL ev xs.toList).bind fun as =>
   match fv with
   | .func (.func g) first cap=>(P.funcs[g]?).bind fun fn=>if fn.body.isSome then some (.enter g (first++as++cap),H) else none
   | _=>none:=rfl
theorem fY (o:Oper) (x:Operand) (t:TypeId):fZ P C slot ev o ⟨.builtin .len,#[x],#[t]⟩ H=(ev x).bind fun v=>(dQ P t H v).map fun v=>(.val v,H):=by
 unfold fZ; simp only [evL]; cases ev x <;> rfl
theorem ck (o:Oper) (x y:Operand) (t u:TypeId):fZ P C slot ev o ⟨.builtin .append,#[x,y],#[t,u]⟩ H=(ev x).bind fun s=>(ev y).bind fun v=>(f0 P slot t (some u) s v H).map fun (v,H')=>(.val v,H'):=by
 unfold fZ; simp only [evL]; cases ev x with
 | none=>rfl
 | some v=>cases ev y <;> rfl
end
theorem Bi (gl:GL) (tm:List AV) (t:Tmp):cP gl tm (.tmp t)=some (tm.getD t uA):=rfl
theorem tG (gl:GL) (tm:List AV) (v:Value):cP gl tm (.const v)=ofV 6 v:=rfl
theorem m5 (k:IntKind) (n:Int):ofV 6 (.int k n)=some (.int k n):=rfl
theorem pL (b:Bool):ofV 6 (.bool b)=some (.bool b):=rfl
theorem wD (s:ByteArray):ofV 6 (.string s)=some (.str s):=rfl
theorem l3:ofV 6 (.slice none 0 0)=some .nilSlice:=rfl
theorem oH:ofV 6 (.pointer none)=some .nilPtr:=rfl
theorem qD (d:Tmp) (v:AV) (tm:List AV):ef (some d) v tm=tm.set d v:=rfl
theorem qE (v:AV) (tm:List AV):ef none v tm=tm:=rfl
end
end Go.Dv
