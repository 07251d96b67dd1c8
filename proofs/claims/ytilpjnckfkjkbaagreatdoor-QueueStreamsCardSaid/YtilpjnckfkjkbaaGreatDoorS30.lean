/- Part 30 of the walks (own work). -/
import Derived.Test.YtilpjnckfkjkbaaGreatDoorS29
open Bool renaming false_eq_true→bD
open List.Nodup renaming idxOf_getElem→XH
open List renaming append_assoc→aE,append_nil→af,drop_eq_getElem_cons→nw,flatten_append→e8,getElem?_append_left→aq,getElem?_append_right→aw,getElem?_eq_getElem→aj,getElem?_eq_none→aT,getElem?_map→aI,getElem?_replicate→ki,getElem?_set→de,getElem?_set_ne→aB,getElem?_set_self→bI,getElem?_take_of_lt→nY,getElem?_zip_eq_some→nv,idxOf_lt_length_of_mem→mc,length_append→ai,length_map→au,length_set→ar,length_take→eW,map_append→dX,map_cons→gy,mem_append→bJ,mem_singleton→bg,range→bn,set_append_left→eR,take_append_drop→CI,take_length→gx,zip→wo
open Nat renaming add_mul→d3,add_sub_cancel_left→bE,eq_zero_or_pos→Hi,le_refl→ax,le_trans→bc,lt_of_lt_of_le→bm,lt_or_ge→aY,zero_add→cu
open Option renaming bind_some→ay,getD_some→e7,map_some→cE
open Option.some renaming inj→aC
open Go.Proofs.Tryz renaming prog→aa
set_option maxRecDepth 100000
set_option maxHeartbeats 4000000
set_option linter.unusedSimpArgs false
set_option linter.unusedVariables false
namespace Go.Dv
open Go.Proofs
attribute [local congr] aH bP bj bO bQ
theorem SQ {K0:AH} {l:List (Itm × AV)} {v:AV} {b:Nat} {tm:List AV} {K:AH} {Z:Option (bu × St)} (hX:EvC aa C0 W0 plN EL (tm,K)=Z) (hvl:∀ G,dR aa 31 G v=some (I l.length)) (hargs:∀ p∈l,SlS 32 1 (bC v K0) p.2 (p.1.args.map dh)) (hN:l.length < 2 ^ 60) {j:Nat} (hj:j<=l.length) (hI:tm.length=42/\tm.getD 0 uA=v/\tm.getD 1 uA=.func (.func 47) [] []/\tm.getD 6 uA=I ((j:Nat):Int)/\AgV v K0 K/\∃ zs:List (List AV),tm.getD 5 uA=I (((l.take (j)).filter dL).length:Nat)/\(∀ r∈zs,r.length=9)/\((l.take (j)).filter dL).length+zs.length=j/\Own b K 9 34 v (((l.take (j)).filter dL).map dQ++(zs++(l.drop (j)).map dQ)).flatten) :
   ∃ X K1,Z=some (.exit 0,(X,K1))/\(X.length=42/\X.getD 0 uA=v/\X.getD 1 uA=.func (.func 47) [] []/\X.getD 6 uA=I ((l.length:Nat):Int)/\AgV v K0 K1/\∃ zs:List (List AV),X.getD 5 uA=I (((l.take (l.length)).filter dL).length:Nat)/\(∀ r∈zs,r.length=9)/\((l.take (l.length)).filter dL).length+zs.length=l.length/\Own b K1 9 34 v (((l.take (l.length)).filter dL).map dQ++(zs++(l.drop (l.length)).map dQ)).flatten):=by
 subst hX
 exact WT hvl hargs hN (l.length - j) j tm K rfl hj hI
theorem Bv:∀ (l:List (Itm × AV)),(∀ i,i < l.length->eqB (bB (l.map (·.1)) i).kind 0=false)->l.filter dL=l:=by
 intro l h
 rw [List.filter_eq_self]
 intro p hp
 obtain ⟨i,hi,rfl⟩:=List.getElem_of_mem hp
 have:=h i hi
 unfold dL
 rw [show (l[i]).1=bB (l.map (·.1)) i from ?_,this]; rfl
 unfold bB
 rw [gde,aI,aj hi]; rfl
theorem GA {l:List (Itm × AV)} {f:Nat} (hf:f < l.length) (h:∀ i,i < f->eqB (bB (l.map (·.1)) i).kind 0=false) (h2:eqB (bB (l.map (·.1)) f).kind 0=true):(l.take (f+1)).filter dL=l.take f:=by
 have ht:l.take (f+1)=l.take f++[l[f]]:=by rw [List.take_add_one,aj hf]; rfl
 rw [ht,List.filter_append,Bv (l.take f) fun i hi=>?_]
 · have:dL l[f]=false:=by
     unfold dL
     rw [show (l[f]).1=bB (l.map (·.1)) f from ?_,h2]; rfl
     unfold bB
     rw [gde,aI,aj hf]; rfl
   simp [this]
 · rw [eW] at hi
   rw [<-h i (by omega)]
   unfold bB
   rw [gde,gde,aI,aI,nY (by omega)]
theorem Own.shN {b es:Nat} {K:AH} {elem:TypeId} {v:AV} {xs:List AV} (h:Own b K es elem v xs) (hn:xs≠[]):∃ i k len cap ex,v=.slice i k es len cap ex/\len<=cap:=by
 cases h with
 | nil=>exact absurd rfl hn
 | «at» i k len cap ex cs xs hb hi hl hc hrd=>exact ⟨i,k,len,cap,ex,rfl,hl⟩
theorem aai {K:AH} {l:List (Itm × AV)} {v:AV} {b:Nat} (ho:Own b K 9 34 v (l.map dQ).flatten) (hI:dA K (l.map (·.1)) v) (hargs:∀ p∈l,SlS 32 1 (bC v K) p.2 (p.1.args.map dh)) :
   ∃ v' K',Ev aa C0 W0 45 [v,.func (.func 47) [] []] K=some (v',K')/\AgV v K K'/\bZ v'=bZ v/\Own b K' 9 34 v' ((l.filter dL).map dQ).flatten:=by
 obtain ⟨r,K1,h76,hA1,hr1,hr2⟩:=ZZ hI
 obtain ⟨_,hf2,hf3,hf4⟩:=An (l.map (·.1)) (l.map (·.1)).length 0 (by omega)
 have hln0:=hI.n
 generalize fz (l.map (·.1)) (l.map (·.1)).length 0=f at *
 rw [au] at *
 have hvl:∀ G,dR aa 31 G v=some (I l.length):=fun G=>by
   have:=(ho.nz mL (by decide) (eU l)).len G
   rwa [au] at this
 obtain ⟨tm,ht,g0,g1,g2⟩:=tm2 v (.func (.func 47) [] []) 42 (by decide)
 rw [Y8,ht]
 rcases Nat.eq_or_lt_of_le hf2 with e | e
 · have hr:=hr1 e
   subst hr
   have hq:eqB (-1) (-1)=true:=rfl
   simp -implicitDefEqProofs only [c45,Tryz.f45,aP,g0,g1,g2,h76,hq,↓VX,r5,↓az,nck,↓cbT,↓cbF,↓ao,an,eu,sevalprocAttr]
   refine ⟨_,K1,rfl,AgV.of hA1,rfl,?_⟩
   rw [Bv l fun i hi=>hf3 i (by omega) (by omega)]
   exact ho.aX hA1
 · have hr:=hr2 e
   subst hr
   have hq:eqB (f:Int) (-1)=false:=jh (by omega)
   have hwf:=cD (j:=f) (by omega)
   simp -implicitDefEqProofs only [c45,Tryz.f45,aP,g0,g1,g2,h76,hq,hwf,↓VX,r5,↓az,nck,↓cbT,↓cbF,↓ao,an,eu,sevalprocAttr]
   generalize hX:EvC aa C0 W0 plN _ _=Z
   have hkh:=GA e (fun i hi=>hf3 i (by omega) hi) (hf4 e)
   have hlt:(l.take f).length=f:=by rw [eW]; omega
   have hdr:l.drop f=l[f]::l.drop (f+1):=nw e
   have hD:=SQ (K0:=K1) (b:=b) hX hvl (fun p hp=>(hargs p hp).sub (AgV.of hA1).XS) (by omega) (j:=f+1) (by omega) ⟨by simp only [ls,g0],Aj3 (by simp only [g0,g1,g2,gB,and_self,sevalprocAttr]) ⟨AgV.of (al.refl K1),[dQ l[f]],by rw [hkh,hlt]; simp only [g0,gB,sevalprocAttr],fun r hr=>by rw [bg] at hr; subst hr; rfl,by rw [hkh,hlt]; rfl,by
     rw [hkh]
     have h1:=ho.aX hA1
     rw [<-CI f l,hdr,dX,gy] at h1
     exact h1⟩⟩
   obtain ⟨X,K2,he,x0,x1,x2,x6,xA,zs,x5,hz,hzl,hown⟩:=hD
   subst he
   rw [gx,List.drop_length,List.map_nil,af] at hown
   rw [gx] at x5 hzl
   obtain ⟨i,k,len,cap,ex,hv,hcap⟩:=hown.shN (by
     intro h
     have:=congrArg List.length h
     rw [dP (es:=9) fun r hr=>?_,ai,au,hzl,List.length_nil] at this
     · omega
     · rcases bJ.1 hr with h | h
       · exact eU _ r h
       · exact hz r h)
   subst hv
   have hrr:∀ r∈(l.filter dL).map dQ++zs,r.length=9:=fun r hr=>by
     rcases bJ.1 hr with h | h
     · exact eU _ r h
     · exact hz r h
   have hle:=hown.Jk (by decide) hrr
   rw [ai,au,hzl] at hle
   subst hle
   have hm:(l.filter dL).length<=l.length:=by omega
   obtain ⟨K3,hcl,hown3,hl3,ho3⟩:=Pq hown hm
   have hcl0:=hcl []
   rw [af,af] at hcl0
   have s1:=fun H=>M6 H (i:=i) (k:=k) (e:=ex) hm hcap
   have s2:=fun H=>Ej H (i:=i) (k:=k) (l:=l.length) (e:=ex) (bc hm hcap)
   simp -implicitDefEqProofs only [x0,x1,x2,x5,x6,s1,s2,hcl0,↓B2,r5,↓az,nck,↓cbT,↓cbF,↓ao,an,eu,sevalprocAttr]
   refine ⟨_,K3,rfl,(AgV.of hA1).trans (xA.trans ⟨by omega,fun c hc hn=>ho3 c fun e2=>hn (by rw [e2]; rfl)⟩),rfl,?_⟩
   rw [e8,List.take_left' (by rw [dP (eU _),au])] at hown3
   exact hown3
def iv1 (l:List Nat):List AV:=l.map fun (n:Nat)=>I (n:Int)
def Ex (K:AH) (es:Nat) (elem:TypeId) (v:AV) (xs:List AV):Prop:=(v=.nilSlice/\xs=[])∨∃ i n,v=.slice i 0 es n n false/\K[i]? =some (.cells xs elem)/\xs.length=n * es
theorem Ex.rd {K:AH} {es i n:Nat} {elem:TypeId} {xs:List AV} (h:K[i]? =some (.cells xs elem)) (hl:xs.length=n * es):ak K i 0 (n * es)=some xs:=by
 unfold ak
 rw [h]
 simp only
 rw [if_pos (by omega),List.drop_zero,List.take_of_length_le (by omega)]
theorem Ex.own {K:AH} {es:Nat} {elem:TypeId} {v:AV} {xs:List AV} (h:Ex K es elem v xs):Own 0 K es elem v xs:=by
 rcases h with ⟨rfl,rfl⟩ | ⟨i,n,rfl,hi,hl⟩
 · exact .nil
 · exact .at i 0 n n false xs xs (Nat.zero_le _) hi (ax _) (by omega) (Ex.rd hi hl)
theorem Ex.cells {K:AH} {es:Nat} {elem:TypeId} {v:AV} {xs:List AV} (h:Ex K es elem v xs):v.cells=[v]/\v.one=true:=h.own.cells
theorem Ex.lt {K:AH} {es:Nat} {elem:TypeId} {v:AV} {xs:List AV} (h:Ex K es elem v xs) {i:Nat} (hv:bZ v=some i):i < K.length:=(gH h.own hv).2
theorem Ex.ll {K K':AH} {es:Nat} {elem:TypeId} {v:AV} {xs:List AV} (h:Ex K es elem v xs) (hk:∀ i,bZ v=some i->K'[i]? =K[i]?):Ex K' es elem v xs:=by
 rcases h with h | ⟨i,n,rfl,hi,hl⟩
 · exact .inl h
 · exact .inr ⟨i,n,rfl,by rw [hk i rfl]; exact hi,hl⟩
theorem Ex.lenOf {K:AH} {es:Nat} {elem:TypeId} {v:AV} {xs:List AV} (h:Ex K es elem v xs):xs.length=bz v * es:=h.own.length
theorem nS {sT elem:TypeId} {xT:Option TypeId} {es B:Nat} (T:pW aa sT xT elem es) (hes:0 < es) {K:AH} (hB:K.length=B) {v:AV} {xs:List AV} (h:Ex K es elem v xs) {new:List AV} (hn:new.length=es) (hone:new.all AV.one=true) (hg:fR (aa.bytesOf elem) (bz v+1)=true)
   (s q:Nat) (L:AH) (hs:L[s]? =some .fresh) (hq:L[q]? =some (.cells new elem)) :
   gv aa (some (B+s)) sT xT v (.slice (B+q) 0 es 1 1 true) (K++L)=some (.slice (B+s) 0 es (bz v+1) (bz v+1) false,bC v K++L.set s (.cells (xs++new) elem)):=by
 obtain ⟨z,hz,hzl,hzn⟩:=T.z
 have hgq:(K++L)[B+q]? =some (.cells new elem):=by rw [aw (by omega),<-hB,bE]; exact hq
 have hrd:ak (K++L) (B+q) 0 (1 * es)=some new:=Ex.rd hgq (by omega)
 unfold gv
 rw [if_neg (by rw [T.x]; simp),T.el,ay,hz,ay,T.sz]
 simp only [pf,if_true,ay,ax,hrd]
 rw [if_pos ⟨by rw [hzl,T.sz],hzn⟩]
 have hput:∀ (K1:AH) o,K1.length=B->put (some (B+s)) (K1++L) o=some (B+s,K1++L.set s o):=fun K1 o hl=>by
   unfold put
   simp only
   rw [aw (by omega),show B+s - K1.length=s by omega,hs]
   simp only
   rw [List.set_append_right _ _ (by omega),show B+s - K1.length=s by omega]
 rcases h with ⟨rfl,rfl⟩ | ⟨i,n,rfl,hi,hl⟩
 · simp only [Nat.one_ne_zero,if_false,oC,cu] at hg ⊢
   rw [if_pos hg,hput K _ hB]; rfl
 · have hiK:=aJ hi
   simp only [cg] at hg ⊢
   rw [if_pos trivial,if_neg (by omega),if_neg (by omega),if_neg (by simp),aq hiK,hi]
   simp only
   rw [if_pos ⟨trivial,hone,hg⟩,Ex.rd (by rw [aq hiK]; exact hi) hl,ay,eR _ _ hiK,hput _ _ (by rw [ar]; exact hB)]; rfl
abbrev OS:=AV × Nat × TypeId × List AV
structure pU (S K:AH) (X:List Nat) (f:Nat->Nat->OS):Prop where
 sl:S.length<=K.length
 xl:∀ x∈X,x < K.length
 ex:∀ a i,Ex K (f a i).2.1 (f a i).2.2.1 (f a i).1 (f a i).2.2.2
 dis:∀ a i c j,¬(a=c/\i=j)->∀ b,bZ (f a i).1=some b->bZ (f c j).1≠some b
 own:∀ a i b,bZ (f a i).1=some b->ld S b/\b∉X
def F0 (f:Nat->Nat->OS) (a i:Nat) (e:OS):Nat->Nat->OS:=fun c j=>if c=a/\j=i then e else f c j
theorem pU.upd {S K:AH} {X:List Nat} {f:Nat->Nat->OS} (h:pU S K X f) (a i:Nat) {K':AH} {e:OS} (he:Ex K' e.2.1 e.2.2.1 e.1 e.2.2.2) (hb:∀ b,bZ e.1=some b->bZ (f a i).1=some b∨K.length<=b) (hl:K.length<=K'.length)
   (hK:∀ b,b < K.length->bZ (f a i).1≠some b->K'[b]? =K[b]?):pU S K' X (F0 f a i e) where
 sl:=bc h.sl hl
 xl:=fun x hx=>bm (h.xl x hx) hl
 ex:=fun c j=>by
   unfold F0
   split
   · exact he
   · rename_i hne
     exact (h.ex c j).ll fun b hb=>hK b ((h.ex c j).lt hb) (h.dis c j a i hne b hb)
 dis:=fun a1 i1 c j hne b hb1 hb2=>by
   unfold F0 at hb1 hb2
   split at hb1
   · rename_i e1
     split at hb2
     · rename_i e2; exact hne ⟨e1.1.trans e2.1.symm,e1.2.trans e2.2.symm⟩
     · rename_i e2
       rcases hb b hb1 with h1 | h1
       · exact h.dis a i c j (fun x=>e2 ⟨x.1.symm,x.2.symm⟩) b h1 hb2
       · have:=(h.ex c j).lt hb2; omega
   · rename_i e1
     split at hb2
     · rcases hb b hb2 with h1 | h1
       · exact h.dis a1 i1 a i e1 b hb1 h1
       · have:=(h.ex a1 i1).lt hb1; omega
     · exact h.dis a1 i1 c j hne b hb1 hb2
 own:=fun c j b hb1=>by
   unfold F0 at hb1
   split at hb1
   · rcases hb b hb1 with h1 | h1
     · exact h.own a i b h1
     · exact ⟨s6 (bc h.sl h1),fun hx=>by have:=h.xl b hx; omega⟩
   · exact h.own c j b hb1
theorem pU.same {S K:AH} {X:List Nat} {f:Nat->Nat->OS} (h:pU S K X f) {K':AH} (hl:K.length<=K'.length) (hK:∀ b,b < K.length->b∉X->K'[b]? =K[b]?):pU S K' X f where
 sl:=bc h.sl hl
 xl:=fun x hx=>bm (h.xl x hx) hl
 ex:=fun c j=>(h.ex c j).ll fun b hb=>hK b ((h.ex c j).lt hb) (h.own c j b hb).2
 dis:=h.dis
 own:=h.own
theorem pU.congr {S K:AH} {X:List Nat} {f g:Nat->Nat->OS} (h:pU S K X f) (e:∀ a i,g a i=f a i):pU S K X g:=by
 have:g=f:=funext fun a=>funext fun i=>e a i
 rw [this]; exact h
def qO (S:AH) (n:Nat) (o:bo):AH:=S++List.replicate (n - S.length) .dead++[o]
theorem Bh {S:AH} {n:Nat} {o:bo} (h:S.length<=n):(qO S n o).length=n+1:=by unfold qO; simp; omega
theorem tR {S:AH} {n:Nat} {o:bo} (h:S.length<=n):(qO S n o)[n]? =some o:=by
 unfold qO
 rw [aw (by simp; omega)]
 simp only [ai,List.length_replicate]
 rw [show n - (S.length+(n - S.length))=0 by omega]; rfl
theorem nF {S:AH} {n:Nat} {o:bo}:al S (qO S n o):=fun i hi=>by
 unfold qO
 rw [aE,aq hi]
theorem tS {S:AH} {n i:Nat} {o:bo} (hS:S.length<=n) (h:ld S i) (hi:i < n):ld (qO S n o) i:=by
 rcases aY i S.length with c | c
 · unfold ld
   rw [nF i c]; exact h
 · right
   unfold qO
   rw [aq (by simp; omega),aw c,ki,if_pos (by omega)]
theorem Oj {S K:AH} {o:bo} (hS:S.length<=K.length) (h:Sub S K):Sub (qO S K.length o) (K++[o]):=fun i x hi hx=>by
 have hil:=aJ hi
 rw [Bh hS] at hil
 rcases aY i K.length with c | c
 · rw [aq c]
   rcases aY i S.length with d | d
   · rw [nF i d] at hi; exact h i x hi hx
   · unfold qO at hi
     rw [aq (by simp; omega),aw d,ki,if_pos (by omega)] at hi
     cases hi; exact absurd rfl hx
 · have:i=K.length:=by omega
   subst this
   rw [tR hS] at hi
   rw [aw (ax _),Nat.sub_self]; exact hi
theorem pU.pad {S K:AH} {X:List Nat} {f:Nat->Nat->OS} (h:pU S K X f) (o:bo):pU (qO S K.length o) (K++[o]) X f where
 sl:=by rw [Bh h.sl,ai]; exact ax _
 xl:=fun x hx=>by rw [ai]; exact bm (h.xl x hx) (Nat.le_add_right _ _)
 ex:=fun c j=>(h.ex c j).ll fun b hb=>aq ((h.ex c j).lt hb)
 dis:=h.dis
 own:=fun c j b hb=>⟨tS h.sl (h.own c j b hb).1 ((h.ex c j).lt hb),(h.own c j b hb).2⟩
end Go.Dv
namespace Go.Dv
open Go.Proofs
attribute [local congr] aH bP bj bO bQ
def sU (ks:List Nat) (mv:Nat->AV):List (AV × AV × Nat):=(wo ks (bn ks.length)).map fun p=>(I (p.1:Int),mv p.1,p.2)
theorem Jg:kZ aa 131=some (3,30):=by kernel_rfl
theorem Ap (mv:Nat->AV) (n:Nat):∀ (l:List (Nat × Nat)) (i:Nat),iy aa 3 (.int .i64) (.int .i64 n) (l.map fun p=>(I (p.1:Int),mv p.1,p.2)) i=if (l.map (·.1)).contains n then some (some (i+(l.map (·.1)).idxOf n,mv n)) else some none
 | [],i=>rfl
 | p::l,i=>by
   have ih:=Ap mv n l (i+1)
   simp only [gy,iy,toV,ay,HZ,List.contains_cons]
   cases h:((n:Int) == (p.1:Int)) with
   | true =>
     have e:n=p.1:=by rw [beq_iff_eq] at h; exact Int.ofNat_inj.1 h
     subst e
     simp
   | false =>
     have:(n == p.1)=false:=by rw [beq_eq_false_iff_ne] at h ⊢; exact fun e=>h (by rw [e])
     have h2:(p.1 == n)=false:=by rw [beq_eq_false_iff_ne] at this ⊢; exact Ne.symm this
     rw [this]
     simp only [Bool.false_or]
     rw [ih]
     simp only [List.idxOf_cons,h2,cond_false]
     rw [show i+1+(l.map (·.1)).idxOf n=i+((l.map (·.1)).idxOf n+1) by omega]
theorem zip_fst (ks:List Nat):(wo ks (bn ks.length)).map (·.1)=ks:=List.map_fst_zip (by simp)
structure Mp (K:AH) (mb:Nat) (mv:Nat->AV):Prop where
 ex:∃ ks:List Nat,ks.Nodup/\K[mb]? =some (.map (sU ks mv) ks.length)/\∀ e,e∉ks->mv e=.nilSlice
theorem Mp.ll {K K':AH} {mb:Nat} {mv:Nat->AV} (h:Mp K mb mv) (hk:K'[mb]? =K[mb]?):Mp K' mb mv:=by
 obtain ⟨ks,h1,h2,h3⟩:=h
 exact ⟨ks,h1,by rw [hk]; exact h2,h3⟩
theorem Mp.get {K:AH} {mb:Nat} {mv:Nat->AV} (h:Mp K mb mv) (n:Nat) (L:AH):ig aa 131 (.map mb) (I (n:Int)) false (K++L)=some (mv n):=by
 obtain ⟨ks,h1,h2,h3⟩:=h
 have hl:=aJ h2
 simp only [ig,Jg,jq,aq hl,h2,ay,Mj]
 unfold sU
 rw [Ap,zip_fst]
 cases hc:ks.contains n with
 | true=>rfl
 | false =>
   rw [h3 n (by simpa using hc)]
   simp only [bD,if_false,ay,z30]; rfl
theorem Ee {ks:List Nat} {n:Nat} (hm:n∈ks):(ks.zip (bn ks.length))[ks.idxOf n]? =some (n,ks.idxOf n):=by
 have hi:ks.idxOf n < ks.length:=mc hm
 exact nv.2 ⟨by rw [aj hi,List.getElem_idxOf hi],List.getElem?_range hi⟩
theorem Jj (ks:List Nat) (mv:Nat->AV) (n:Nat) (v:AV) (hn:ks.Nodup) (hm:n∈ks):(sU ks mv).set (ks.idxOf n) (I (n:Int),v,ks.idxOf n)=sU ks (fun e=>if e=n then v else mv e):=by
 have hi:ks.idxOf n < ks.length:=mc hm
 unfold sU
 refine List.ext_getElem? fun i=>?_
 rw [de,aI,aI]
 simp only [au,List.length_zip,List.length_range,Nat.min_self]
 split
 · rename_i e
   subst e
   first | rw [if_pos hi] | skip
   rw [Ee hm]
   simp only [cE,if_true]
 · rename_i e
   cases hz:(ks.zip (bn ks.length))[i]? with
   | none=>rfl
   | some p =>
     obtain ⟨h1,h2⟩:=nv.1 hz
     have hne:p.1≠n:=fun e2=>e (by
       have hil:=aJ h1
       rw [aj hil] at h1
       have:ks[i]=n:=by rw [<-e2]; exact aC h1
       rw [<-this]
       exact (XH hn i hil))
     simp only [cE]
     rw [if_neg hne]
theorem Mp.put {K:AH} {mb:Nat} {mv:Nat->AV} (h:Mp K mb mv) (n:Nat) (v:AV):∃ o,(∀ L,ic aa 131 (.map mb) (I (n:Int)) v (K++L)=some (K.set mb o++L))/\Mp (K.set mb o) mb (fun e=>if e=n then v else mv e):=by
 obtain ⟨ks,h1,h2,h3⟩:=h
 have hl:=aJ h2
 have hfind:iy aa 3 (.int .i64) (.int .i64 n) (sU ks mv) 0=if ks.contains n then some (some (ks.idxOf n,mv n)) else some none:=by
   unfold sU
   rw [Ap,zip_fst,cu]
 cases hc:ks.contains n with
 | true =>
   have hm:n∈ks:=by simpa using hc
   have hi:ks.idxOf n < ks.length:=mc hm
   have hg:(sU ks mv)[ks.idxOf n]? =some (I (n:Int),mv n,ks.idxOf n):=by
     unfold sU
     rw [aI,Ee hm]; rfl
   refine ⟨.map (sU ks fun e=>if e=n then v else mv e) ks.length,fun L=>?_,ks,h1,bI hl,fun e he=>?_⟩
   · simp only [ic,Jg,aq hl,h2,ay,Mj,hfind,hc,if_true,hg,toV,show Instr.sameBits 10000 (.int .i64 (n:Int)) (.int .i64 (n:Int))=true from by simp [Instr.sameBits]]
     rw [Jj ks mv n v h1 hm,eR _ _ hl]
   · show (if e=n then v else mv e)=_
     rw [if_neg fun e2=>he (by rw [e2]; exact hm)]
     exact h3 e he
 | false =>
   have hm:n∉ks:=by simpa using hc
   refine ⟨.map (sU (ks++[n]) fun e=>if e=n then v else mv e) (ks++[n]).length,fun L=>?_,ks++[n],?_,bI hl,fun e he=>?_⟩
   · simp only [ic,Jg,aq hl,h2,ay,Mj,hfind,hc,bD,if_false]
     have:sU ks mv++[(I (n:Int),v,ks.length)]=sU (ks++[n]) fun e=>if e=n then v else mv e:=by
       unfold sU
       rw [ai,List.length_singleton,List.range_succ,List.zip_append (by simp),dX]
       congr 1
       · refine List.map_congr_left fun p hp=>?_
         have hp1:p.1∈ks:=by
           have:=List.mem_map_of_mem (f:=(·.1)) hp
           rwa [zip_fst] at this
         simp only
         rw [if_neg fun e2=>hm (by rw [<-e2]; exact hp1)]
       · simp
     rw [this,eR _ _ hl,ai]; rfl
   · rw [List.nodup_append]
     exact ⟨h1,by simp,fun a ha b hb=>by rw [bg] at hb; subst hb; exact fun e2=>hm (by rw [<-e2]; exact ha)⟩
   · rw [bJ,bg] at he
     show (if e=n then v else mv e)=_
     rw [if_neg fun e2=>he (.inr e2)]
     exact h3 e fun hh=>he (.inl hh)
def plF (iv av:AV) (ws:List AV) (mv:Nat->AV) (l:List (Itm × AV)) (A:List (List Nat)) (R:Nat->List Nat):Nat->Nat->OS
 | 0,0=>(iv,9,34,(l.map dQ).flatten)
 | 1,0=>(av,1,30,ws)
 | 2,i=>(ws.getD i .nilSlice,1,3,iv1 (A.getD i []))
 | 3,e=>(mv e,1,3,iv1 (R e))
 | _,_=>(.nilSlice,1,3,[])
structure ey (S K:AH) (p mb:Nat) (iv av:AV) (ws:List AV) (mv:Nat->AV) (l:List (Itm × AV)) (A:List (List Nat)) (R:Nat->List Nat):Prop where
 sub:Sub S K
 gp:ld S p
 gm:ld S mb
 pm:p≠mb
 hp:K[p]? =some (.cells [iv,av] 93)
 hm:Mp K mb mv
 lw:ws.length=A.length
 ow:pU S K [p,mb] (plF iv av ws mv l A R)
section
variable {S K:AH} {p mb:Nat} {iv av:AV} {ws:List AV} {mv:Nat->AV} {l:List (Itm × AV)} {A:List (List Nat)} {R:Nat->List Nat}
theorem ey.pK (h:ey S K p mb iv av ws mv l A R):p < K.length:=aJ h.hp
theorem ey.mK (h:ey S K p mb iv av ws mv l A R):mb < K.length:=by obtain ⟨ks,_,h2,_⟩:=h.hm; exact aJ h2
theorem ey.oi (h:ey S K p mb iv av ws mv l A R):Ex K 9 34 iv (l.map dQ).flatten:=h.ow.ex 0 0
theorem ey.oa (h:ey S K p mb iv av ws mv l A R):Ex K 1 30 av ws:=h.ow.ex 1 0
theorem ey.ow2 (h:ey S K p mb iv av ws mv l A R) (i:Nat):Ex K 1 3 (ws.getD i .nilSlice) (iv1 (A.getD i [])):=h.ow.ex 2 i
theorem ey.om (h:ey S K p mb iv av ws mv l A R) (e:Nat):Ex K 1 3 (mv e) (iv1 (R e)):=h.ow.ex 3 e
theorem ey.rp (h:ey S K p mb iv av ws mv l A R) (L:AH) (k:Nat) {x:AV} (hx:[iv,av][k]? =some x):ak (K++L) p k 1=some [x]:=by
 rw [eQ h.hp L,if_pos (by have:=aJ hx; simp at this ⊢; omega)]
 rw [nw (aJ hx),List.take_succ_cons,List.take_zero]
 rw [aj (aJ hx)] at hx
 rw [aC hx]
theorem ey.pad (h:ey S K p mb iv av ws mv l A R) (o:bo):ey (qO S K.length o) (K++[o]) p mb iv av ws mv l A R where
 sub:=Oj h.ow.sl h.sub
 gp:=tS h.ow.sl h.gp h.pK
 gm:=tS h.ow.sl h.gm h.mK
 pm:=h.pm
 hp:=by rw [aq h.pK]; exact h.hp
 hm:=h.hm.ll (aq h.mK)
 lw:=h.lw
 ow:=h.ow.pad o
theorem ey.grow (h:ey S K p mb iv av ws mv l A R) (L:AH):ey S (K++L) p mb iv av ws mv l A R where
 sub:=h.sub.bS L
 gp:=h.gp
 gm:=h.gm
 pm:=h.pm
 hp:=by rw [aq h.pK]; exact h.hp
 hm:=h.hm.ll (aq h.mK)
 lw:=h.lw
 ow:=h.ow.same (by simp) fun b hb _=>aq hb
theorem ey.less {S':AH} (h:ey S K p mb iv av ws mv l A R) (hs:Sub S' S) (hl:S'.length<=S.length):ey S' K p mb iv av ws mv l A R where
 sub:=hs.trans h.sub
 gp:=h.gp.sub hs
 gm:=h.gm.sub hs
 pm:=h.pm
 hp:=h.hp
 hm:=h.hm
 lw:=h.lw
 ow:={ sl:=bc hl h.ow.sl,xl:=h.ow.xl,ex:=h.ow.ex,dis:=h.ow.dis,own:=fun a i b hb=>⟨(h.ow.own a i b hb).1.sub hs,(h.ow.own a i b hb).2⟩ }
theorem pU.slot {X:List Nat} {f:Nat->Nat->OS} (h:pU S K X f) (a i:Nat) {L:AH} {s n:Nat} {xs:List AV} {elem es:Nat} (hs:L[s]? =some (.cells xs elem)) (hn:xs.length=n * es):pU S (bC (f a i).1 K++L) X (F0 f a i (.slice (K.length+s) 0 es n n false,es,elem,xs)):=
 h.upd a i (.inr ⟨_,n,rfl,by rw [aw (by rw [cS]; omega),cS,bE]; exact hs,hn⟩) (fun b hb=>by cases hb; right; omega) (by rw [ai,cS]; omega) fun b hb hne=>by
   rw [aq (by rw [cS]; exact hb),cI hne]
theorem pa {X:List Nat} {f:Nat->Nat->OS} (hs:Sub S K) (h:pU S K X f) (a i:Nat) (L:AH):Sub S (bC (f a i).1 K++L):=by
 refine Sub.bS ?_ L
 unfold bC
 split
 · rename_i b _ _ _ _ _ hv
   exact hs.tN (h.own a i b (by rw [hv]; rfl)).1 _
 · exact hs
end
end Go.Dv
namespace Go.Dv
open Go.Proofs
attribute [local congr] aH bP bj bO bQ
theorem iX (l:List Nat):(iv1 l).length=l.length:=by unfold iv1; simp
theorem sZ (l:List Nat) (k:Nat):iv1 (l++[k])=iv1 l++[I (k:Int)]:=by unfold iv1; simp
section
variable {S K:AH} {p mb:Nat} {iv av:AV} {ws:List AV} {mv:Nat->AV} {l:List (Itm × AV)} {A:List (List Nat)} {R:Nat->List Nat}
theorem ey.np (h:ey S K p mb iv av ws mv l A R) (a i:Nat):bZ (plF iv av ws mv l A R a i).1≠some p:=fun e=>(h.ow.own a i p e).2 (by simp)
theorem ey.nm (h:ey S K p mb iv av ws mv l A R) (a i:Nat):bZ (plF iv av ws mv l A R a i).1≠some mb:=fun e=>(h.ow.own a i mb e).2 (by simp)
theorem ey.item (h:ey S K p mb iv av ws mv l A R) {x:Itm} {va:AV} {L:AH} (h4:L[4]? =some (.cells ((l.map dQ).flatten++aU x va) 34)) (h8:L[8]? =some (.cells (ws++[.nilSlice]) 30)) :
   ey S ((bC av (bC iv K)).set p (.cells [.slice (K.length+4) 0 9 (bz iv+1) (bz iv+1) false,.slice (K.length+8) 0 1 (bz av+1) (bz av+1) false] 93)++L) p mb (.slice (K.length+4) 0 9 (bz iv+1) (bz iv+1) false) (.slice (K.length+8) 0 1 (bz av+1) (bz av+1) false) (ws++[.nilSlice]) mv (l++[(x,va)]) (A++[[]]) R:=by
 have hl8:=aJ h8
 have hLs:L=L.take 5++L.drop 5:=(CI 5 L).symm
 have h4':(L.take 5)[4]? =some (.cells ((l.map dQ).flatten++aU x va) 34):=by rw [nY (by omega)]; exact h4
 have h8':(L.drop 5)[3]? =some (.cells (ws++[.nilSlice]) 30):=by rw [List.getElem?_drop]; exact h8
 have hl1:((l.map dQ).flatten++aU x va).length=(bz iv+1) * 9:=by
   rw [ai,h.oi.lenOf,d3]; rfl
 have hl2:(ws++[AV.nilSlice]).length=(bz av+1) * 1:=by
   rw [ai,h.oa.lenOf,d3]; rfl
 have o1:=h.ow.slot 0 0 (n:=bz iv+1) (es:=9) h4' hl1
 have s1:=pa h.sub h.ow 0 0 (L.take 5)
 have o2:=o1.slot 1 0 (n:=bz av+1) (es:=1) h8' hl2
 have s2:=pa s1 o1 1 0 (L.drop 5)
 have e1:(F0 (plF iv av ws mv l A R) 0 0 (.slice (K.length+4) 0 9 (bz iv+1) (bz iv+1) false,9,34,(l.map dQ).flatten++aU x va) 1 0).1=av:=rfl
 have e0:(plF iv av ws mv l A R 0 0).1=iv:=rfl
 have hk1:(bC iv K++L.take 5).length=K.length+5:=by rw [ai,cS,eW]; omega
 have hkk:bC av (bC iv K++L.take 5)++L.drop 5=bC av (bC iv K)++L:=by
   rw [yU _ fun i hi=>by rw [cS]; exact h.oa.lt hi,aE,<-hLs]
 rw [e0] at o1 s1 o2 s2
 rw [e1,hkk] at s2
 rw [e1,hkk,hk1] at o2
 have hpl:p < (bC av (bC iv K)).length:=by rw [cS,cS]; exact h.pK
 have hml:mb < (bC av (bC iv K)).length:=by rw [cS,cS]; exact h.mK
 have o3:=o2.same (K':=(bC av (bC iv K)++L).set p (.cells [.slice (K.length+4) 0 9 (bz iv+1) (bz iv+1) false,.slice (K.length+8) 0 1 (bz av+1) (bz av+1) false] 93)) (by rw [ar]; exact ax _) fun b _ hb=>aB fun e=>hb (by rw [<-e]; simp)
 have s3:=s2.tN h.gp (.cells [.slice (K.length+4) 0 9 (bz iv+1) (bz iv+1) false,.slice (K.length+8) 0 1 (bz av+1) (bz av+1) false] 93)
 rw [eR _ _ hpl] at o3 s3
 refine { sub:=s3,gp:=h.gp,gm:=h.gm,pm:=h.pm,hp:=?_,hm:=h.hm.ll ?_,lw:=by rw [ai,ai,h.lw]; rfl,ow:=o3.congr fun a i=>?_ }
 · rw [aq (by rw [ar]; exact hpl),bI hpl]
 · rw [aq (by rw [ar]; exact hml),aB h.pm,cI (v:=av) (h.nm 1 0),cI (v:=iv) (h.nm 0 0)]
 · match a,i with
   | 0,0 =>
     show (_,9,34,((l++[(x,va)]).map dQ).flatten)=(_,9,34,(l.map dQ).flatten++aU x va)
     rw [dX,e8]
     show (_,9,34,_++([dQ (x,va)]).flatten)=_
     rw [List.flatten_cons,List.flatten_nil,af]; rfl
   | 1,0=>rfl
   | 2,i =>
     show ((ws++[AV.nilSlice]).getD i .nilSlice,1,3,iv1 ((A++[[]]).getD i []))=(ws.getD i .nilSlice,1,3,iv1 (A.getD i []))
     have g1:(ws++[AV.nilSlice]).getD i .nilSlice=ws.getD i .nilSlice:=by
       rw [gde,gde]
       rcases aY i ws.length with c | c
       · rw [aq c]
       · rw [aw c,aT c]
         rcases Hi (i - ws.length) with z | z
         · rw [z]; rfl
         · rw [aT (by simp; omega)]
     have g2:(A++[[]]).getD i []=A.getD i []:=by
       rw [gde,gde]
       rcases aY i A.length with c | c
       · rw [aq c]
       · rw [aw c,aT c]
         rcases Hi (i - A.length) with z | z
         · rw [z]; rfl
         · rw [aT (by simp; omega)]
     rw [g1,g2]
   | 3,e=>rfl
   | 0,i+1=>rfl
   | 1,i+1=>rfl
   | a+4,i=>rfl
theorem ey.row (h:ey S K p mb iv av ws mv l A R) {n k s:Nat} (hn:n < A.length) {L:AH} (hs:L[s]? =some (.cells (iv1 (A.getD n [])++[I (k:Int)]) 3)) {w v':AV} (hw:w=ws.getD n .nilSlice) (hv':v'=.slice (K.length+s) 0 1 (bz w+1) (bz w+1) false) :
   ∃ ab,av=.slice ab 0 1 ws.length ws.length false/\(∀ L',bp (bC w K++L') ab n [v']=some ((bC w K).set ab (.cells (ws.set n v') 30)++L')) /\
     ey S ((bC w K).set ab (.cells (ws.set n v') 30)++L) p mb iv av (ws.set n v') mv l (A.set n (A.getD n []++[k])) R:=by
 have hnw:n < ws.length:=by rw [h.lw]; exact hn
 have ho:=h.oa
 rcases ho with ⟨rfl,e2⟩ | ⟨ab,m,rfl,hab,hm⟩
 · rw [e2] at hnw; simp at hnw
 have hm':ws.length=m:=by omega
 subst hm'
 have habl:=aJ hab
 have hwne:bZ w≠some ab:=fun e=>by
   rw [hw] at e
   exact h.ow.dis 2 n 1 0 (by simp) ab e rfl
 have hkab:(bC w K)[ab]? =some (.cells ws 30):=by rw [cI hwne]; exact hab
 have hkl:ab < (bC w K).length:=by rw [cS]; exact habl
 have hv'o:v'.one=true:=by rw [hv']; rfl
 refine ⟨ab,rfl,fun L'=>?_,?_⟩
 · rw [gN hkab (by simp; omega) (by simp [hv'o]) L']; rfl
 have hwf:(plF iv (.slice ab 0 1 ws.length ws.length false) ws mv l A R 2 n).1=w:=hw.symm
 have hxl:(iv1 (A.getD n [])++[I (k:Int)]).length=(bz w+1) * 1:=by
   have:=(h.ow2 n).lenOf
   rw [<-hw] at this
   rw [ai,this,d3]; rfl
 have o1:=h.ow.slot 2 n (n:=bz w+1) (es:=1) hs hxl
 have s1:=pa h.sub h.ow 2 n L
 rw [hwf] at o1 s1
 have hset:(bC w K++L).set ab (.cells (ws.set n v') 30)=(bC w K).set ab (.cells (ws.set n v') 30)++L:=eR _ _ hkl
 have o2:=o1.upd 1 0 (K':=(bC w K).set ab (.cells (ws.set n v') 30)++L) (e:=(.slice ab 0 1 ws.length ws.length false,1,30,ws.set n v')) (.inr ⟨ab,ws.length,rfl,by rw [<-hset,bI (by rw [ai]; omega)],by rw [ar]; omega⟩) (fun b hb=>.inl (by cases hb; rfl)) (by rw [<-hset,ar]; exact ax _) fun b _ hb=>by
   rw [<-hset,aB fun e=>hb (by rw [<-e]; rfl)]
 have s2:=s1.tN (h.ow.own 1 0 ab rfl).1 (.cells (ws.set n v') 30)
 rw [hset] at s2
 have hpl:p < (bC w K).length:=by rw [cS]; exact h.pK
 have hml:mb < (bC w K).length:=by rw [cS]; exact h.mK
 have hpa:ab≠p:=fun e=>h.np 1 0 (by rw [<-e]; rfl)
 have hma:ab≠mb:=fun e=>h.nm 1 0 (by rw [<-e]; rfl)
 have hwp:bZ w≠some p:=by rw [<-hwf]; exact h.np 2 n
 have hwm:bZ w≠some mb:=by rw [<-hwf]; exact h.nm 2 n
 refine { sub:=s2,gp:=h.gp,gm:=h.gm,pm:=h.pm,hp:=?_,hm:=h.hm.ll ?_,lw:=by rw [ar,ar]; exact h.lw,ow:=o2.congr fun a i=>?_ }
 · rw [aq (by rw [ar]; exact hpl),aB hpa,cI hwp]; exact h.hp
 · rw [aq (by rw [ar]; exact hml),aB hma,cI hwm]
 · match a,i with
   | 0,0=>rfl
   | 1,0=>rfl
   | 2,i =>
     show ((ws.set n v').getD i .nilSlice,1,3,iv1 ((A.set n (A.getD n []++[k])).getD i []))=if 2=1/\i=0 then _ else if 2=2/\i=n then _ else (ws.getD i .nilSlice,1,3,iv1 (A.getD i []))
     rw [if_neg (by simp)]
     rw [gde,gde,de,de]
     by_cases e:i=n
     · subst e
       have hc:(2=2/\i=i):=⟨rfl,rfl⟩
       rw [if_pos rfl,if_pos hnw,if_pos rfl,if_pos hn,if_pos hc,hv']
       simp only [e7,sZ]
     · have hc:¬(2=2/\i=n):=fun x=>e x.2
       rw [if_neg (Ne.symm e),if_neg (Ne.symm e),if_neg hc,gde,gde]
   | 3,e=>rfl
   | 0,i+1=>rfl
   | 1,i+1=>rfl
   | a+4,i=>rfl
theorem ey.yq (h:ey S K p mb iv av ws mv l A R) {n k s:Nat} {L:AH} (hs:L[s]? =some (.cells (iv1 (R n)++[I (k:Int)]) 3)) {v':AV} (hv':v'=.slice (K.length+s) 0 1 (bz (mv n)+1) (bz (mv n)+1) false) :
   ∃ o,(∀ L',ic aa 131 (.map mb) (I (n:Int)) v' (bC (mv n) K++L')=some ((bC (mv n) K).set mb o++L')) /\
     ey S ((bC (mv n) K).set mb o++L) p mb iv av ws (fun e=>if e=n then v' else mv e) l A (fun e=>if e=n then R n++[k] else R e):=by
 have hpl:p < (bC (mv n) K).length:=by rw [cS]; exact h.pK
 have hml:mb < (bC (mv n) K).length:=by rw [cS]; exact h.mK
 have hwp:bZ (mv n)≠some p:=h.np 3 n
 have hwm:bZ (mv n)≠some mb:=h.nm 3 n
 obtain ⟨o,ho,hM⟩:=(h.hm.ll (K':=bC (mv n) K) (cI hwm)).put n v'
 refine ⟨o,ho,?_⟩
 have hxl:(iv1 (R n)++[I (k:Int)]).length=(bz (mv n)+1) * 1:=by
   rw [ai,(h.om n).lenOf,d3]; rfl
 have o1:=h.ow.slot 3 n (n:=bz (mv n)+1) (es:=1) hs hxl
 have s1:=pa h.sub h.ow 3 n L
 have hwf:(plF iv av ws mv l A R 3 n).1=mv n:=rfl
 rw [hwf] at o1 s1
 have hset:(bC (mv n) K++L).set mb o=(bC (mv n) K).set mb o++L:=eR _ _ hml
 have o2:=o1.same (K':=(bC (mv n) K).set mb o++L) (by rw [<-hset,ar]; exact ax _) fun b _ hb=>by
   rw [<-hset,aB fun e=>hb (by rw [<-e]; simp)]
 have s2:=s1.tN h.gm o
 rw [hset] at s2
 refine { sub:=s2,gp:=h.gp,gm:=h.gm,pm:=h.pm,hp:=?_,hm:=hM.ll (aq (by rw [ar]; exact hml)),lw:=h.lw,ow:=o2.congr fun a i=>?_ }
 · rw [aq (by rw [ar]; exact hpl),aB (Ne.symm h.pm),cI hwp]; exact h.hp
 · match a,i with
   | 0,0=>rfl
   | 1,0=>rfl
   | 2,i=>rfl
   | 3,e =>
     show ((if e=n then v' else mv e),1,3,iv1 (if e=n then R n++[k] else R e))=if 3=3/\e=n then _ else (mv e,1,3,iv1 (R e))
     by_cases c:e=n
     · subst c
       have hc:(3=3/\e=e):=⟨rfl,rfl⟩
       rw [if_pos rfl,if_pos rfl,if_pos hc,hv',sZ]
     · have hc:¬(3=3/\e=n):=fun x=>c x.2
       rw [if_neg c,if_neg c,if_neg hc]
   | 0,i+1=>rfl
   | 1,i+1=>rfl
   | a+4,i=>rfl
end
end Go.Dv
