/- Part 29 of the walks (own work). -/
import Derived.Test.YtilpjnckfkjkbaaGreatDoorQ28
set_option maxRecDepth 100000
set_option maxHeartbeats 4000000
set_option linter.unusedSimpArgs false
set_option linter.unusedVariables false
namespace Go.Dv
open Go.Proofs
attribute [local congr] bind_congr_first cb_congr condA_congr gd_congr br_congr
theorem del_l2 {K0:AH} {l:List (Itm × AV)} {v:AV} {b:Nat} {tm:List AV} {K:AH} {Z:Option (AExit × St)} (hX:EvC Tryz.prog C0 W0 plN l45_0 (tm,K)=Z) (hvl:∀ G,lenA Tryz.prog 31 G v=some (I l.length)) (hargs:∀ p∈l,SlS 32 1 (killV v K0) p.2 (p.1.args.map row1)) (hN:l.length < 2 ^ 60) {j:Nat} (hj:j<=l.length) (hI:tm.length=42/\tm.getD 0 uA=v/\tm.getD 1 uA=.func (.func 47) [] []/\tm.getD 6 uA=I ((j:Nat):Int)/\AgV v K0 K/\∃ zs:List (List AV),tm.getD 5 uA=I (((l.take (j)).filter keepP).length:Nat)/\(∀ r∈zs,r.length=9)/\((l.take (j)).filter keepP).length+zs.length=j/\Own b K 9 34 v (((l.take (j)).filter keepP).map xrow++(zs++(l.drop (j)).map xrow)).flatten) :
   ∃ X K1,Z=some (.exit 0,(X,K1))/\(X.length=42/\X.getD 0 uA=v/\X.getD 1 uA=.func (.func 47) [] []/\X.getD 6 uA=I ((l.length:Nat):Int)/\AgV v K0 K1/\∃ zs:List (List AV),X.getD 5 uA=I (((l.take (l.length)).filter keepP).length:Nat)/\(∀ r∈zs,r.length=9)/\((l.take (l.length)).filter keepP).length+zs.length=l.length/\Own b K1 9 34 v (((l.take (l.length)).filter keepP).map xrow++(zs++(l.drop (l.length)).map xrow)).flatten):=by
 subst hX
 exact del_l hvl hargs hN (l.length - j) j tm K rfl hj hI
theorem keep_all:∀ (l:List (Itm × AV)),(∀ i,i < l.length->eqB (itmAt (l.map (·.1)) i).kind 0=false)->l.filter keepP=l:=by
 intro l h
 rw [List.filter_eq_self]
 intro p hp
 obtain ⟨i,hi,rfl⟩:=List.getElem_of_mem hp
 have:=h i hi
 unfold keepP
 rw [show (l[i]).1=itmAt (l.map (·.1)) i from ?_,this]; rfl
 unfold itmAt
 rw [gde,List.getElem?_map,List.getElem?_eq_getElem hi]; rfl
theorem keep_head {l:List (Itm × AV)} {f:Nat} (hf:f < l.length) (h:∀ i,i < f->eqB (itmAt (l.map (·.1)) i).kind 0=false) (h2:eqB (itmAt (l.map (·.1)) f).kind 0=true):(l.take (f+1)).filter keepP=l.take f:=by
 have ht:l.take (f+1)=l.take f++[l[f]]:=by rw [List.take_add_one,List.getElem?_eq_getElem hf]; rfl
 rw [ht,List.filter_append,keep_all (l.take f) fun i hi=>?_]
 · have:keepP l[f]=false:=by
     unfold keepP
     rw [show (l[f]).1=itmAt (l.map (·.1)) f from ?_,h2]; rfl
     unfold itmAt
     rw [gde,List.getElem?_map,List.getElem?_eq_getElem hf]; rfl
   simp [this]
 · rw [List.length_take] at hi
   rw [<-h i (by omega)]
   unfold itmAt
   rw [gde,gde,List.getElem?_map,List.getElem?_map,List.getElem?_take_of_lt (by omega)]
theorem Own.shN {b es:Nat} {K:AH} {elem:TypeId} {v:AV} {xs:List AV} (h:Own b K es elem v xs) (hn:xs≠[]):∃ i k len cap ex,v=.slice i k es len cap ex/\len<=cap:=by
 cases h with
 | nil=>exact absurd rfl hn
 | «at» i k len cap ex cs xs hb hi hl hc hrd=>exact ⟨i,k,len,cap,ex,rfl,hl⟩
theorem ev45 {K:AH} {l:List (Itm × AV)} {v:AV} {b:Nat} (ho:Own b K 9 34 v (l.map xrow).flatten) (hI:ItmsR K (l.map (·.1)) v) (hargs:∀ p∈l,SlS 32 1 (killV v K) p.2 (p.1.args.map row1)) :
   ∃ v' K',Ev Tryz.prog C0 W0 45 [v,.func (.func 47) [] []] K=some (v',K')/\AgV v K K'/\blkO v'=blkO v/\Own b K' 9 34 v' ((l.filter keepP).map xrow).flatten:=by
 obtain ⟨r,K1,h76,hA1,hr1,hr2⟩:=ev76 hI
 obtain ⟨_,hf2,hf3,hf4⟩:=fz_spec (l.map (·.1)) (l.map (·.1)).length 0 (by omega)
 have hln0:=hI.n
 generalize fz (l.map (·.1)) (l.map (·.1)).length 0=f at *
 rw [List.length_map] at *
 have hvl:∀ G,lenA Tryz.prog 31 G v=some (I l.length):=fun G=>by
   have:=(ho.slsG ix31T (by decide) (xrow_len l)).len G
   rwa [List.length_map] at this
 obtain ⟨tm,ht,g0,g1,g2⟩:=tm2 v (.func (.func 47) [] []) 42 (by decide)
 rw [fe45,ht]
 rcases Nat.eq_or_lt_of_le hf2 with e | e
 · have hr:=hr1 e
   subst hr
   have hq:eqB (-1) (-1)=true:=rfl
   simp -implicitDefEqProofs only [c45,Tryz.f45,aP,g0,g1,g2,h76,hq,↓fc76,r5,↓evLd,nck,↓cbT,↓cbF,↓evDn,evUp,eu,sevalprocAttr]
   refine ⟨_,K1,rfl,AgV.of hA1,rfl,?_⟩
   rw [keep_all l fun i hi=>hf3 i (by omega) (by omega)]
   exact ho.agree hA1
 · have hr:=hr2 e
   subst hr
   have hq:eqB (f:Int) (-1)=false:=eqB_f (by omega)
   have hwf:=inc_i (j:=f) (by omega)
   simp -implicitDefEqProofs only [c45,Tryz.f45,aP,g0,g1,g2,h76,hq,hwf,↓fc76,r5,↓evLd,nck,↓cbT,↓cbF,↓evDn,evUp,eu,sevalprocAttr]
   generalize hX:EvC Tryz.prog C0 W0 plN _ _=Z
   have hkh:=keep_head e (fun i hi=>hf3 i (by omega) hi) (hf4 e)
   have hlt:(l.take f).length=f:=by rw [List.length_take]; omega
   have hdr:l.drop f=l[f]::l.drop (f+1):=List.drop_eq_getElem_cons e
   have hD:=del_l2 (K0:=K1) (b:=b) hX hvl (fun p hp=>(hargs p hp).sub (AgV.of hA1).subK) (by omega) (j:=f+1) (by omega) ⟨by simp only [ls,g0],Aj3 (by simp only [g0,g1,g2,gB,and_self,sevalprocAttr]) ⟨AgV.of (Agree.refl K1),[xrow l[f]],by rw [hkh,hlt]; simp only [g0,gB,sevalprocAttr],fun r hr=>by rw [List.mem_singleton] at hr; subst hr; rfl,by rw [hkh,hlt]; rfl,by
     rw [hkh]
     have h1:=ho.agree hA1
     rw [<-List.take_append_drop f l,hdr,List.map_append,List.map_cons] at h1
     exact h1⟩⟩
   obtain ⟨X,K2,he,x0,x1,x2,x6,xA,zs,x5,hz,hzl,hown⟩:=hD
   subst he
   rw [List.take_length,List.drop_length,List.map_nil,List.append_nil] at hown
   rw [List.take_length] at x5 hzl
   obtain ⟨i,k,len,cap,ex,hv,hcap⟩:=hown.shN (by
     intro h
     have:=congrArg List.length h
     rw [flat_len (es:=9) fun r hr=>?_,List.length_append,List.length_map,hzl,List.length_nil] at this
     · omega
     · rcases List.mem_append.1 hr with h | h
       · exact xrow_len _ r h
       · exact hz r h)
   subst hv
   have hrr:∀ r∈(l.filter keepP).map xrow++zs,r.length=9:=fun r hr=>by
     rcases List.mem_append.1 hr with h | h
     · exact xrow_len _ r h
     · exact hz r h
   have hle:=hown.len_eq (by decide) hrr
   rw [List.length_append,List.length_map,hzl] at hle
   subst hle
   have hm:(l.filter keepP).length<=l.length:=by omega
   obtain ⟨K3,hcl,hown3,hl3,ho3⟩:=clear31 hown hm
   have hcl0:=hcl []
   rw [List.append_nil,List.append_nil] at hcl0
   have s1:=fun H=>sl31_lo H (i:=i) (k:=k) (e:=ex) hm hcap
   have s2:=fun H=>sl31_hi H (i:=i) (k:=k) (l:=l.length) (e:=ex) (Nat.le_trans hm hcap)
   simp -implicitDefEqProofs only [x0,x1,x2,x5,x6,s1,s2,hcl0,↓callA_clear,r5,↓evLd,nck,↓cbT,↓cbF,↓evDn,evUp,eu,sevalprocAttr]
   refine ⟨_,K3,rfl,(AgV.of hA1).trans (xA.trans ⟨by omega,fun c hc hn=>ho3 c fun e2=>hn (by rw [e2]; rfl)⟩),rfl,?_⟩
   rw [List.flatten_append,List.take_left' (by rw [flat_len (xrow_len _),List.length_map])] at hown3
   exact hown3
def iv1 (l:List Nat):List AV:=l.map fun (n:Nat)=>I (n:Int)
def Ex (K:AH) (es:Nat) (elem:TypeId) (v:AV) (xs:List AV):Prop:=(v=.nilSlice/\xs=[])∨∃ i n,v=.slice i 0 es n n false/\K[i]? =some (.cells xs elem)/\xs.length=n * es
theorem Ex.rd {K:AH} {es i n:Nat} {elem:TypeId} {xs:List AV} (h:K[i]? =some (.cells xs elem)) (hl:xs.length=n * es):rdCells K i 0 (n * es)=some xs:=by
 unfold rdCells
 rw [h]
 simp only
 rw [if_pos (by omega),List.drop_zero,List.take_of_length_le (by omega)]
theorem Ex.own {K:AH} {es:Nat} {elem:TypeId} {v:AV} {xs:List AV} (h:Ex K es elem v xs):Own 0 K es elem v xs:=by
 rcases h with ⟨rfl,rfl⟩ | ⟨i,n,rfl,hi,hl⟩
 · exact .nil
 · exact .at i 0 n n false xs xs (Nat.zero_le _) hi (Nat.le_refl _) (by omega) (Ex.rd hi hl)
theorem Ex.cells {K:AH} {es:Nat} {elem:TypeId} {v:AV} {xs:List AV} (h:Ex K es elem v xs):v.cells=[v]/\v.one=true:=h.own.cells
theorem Ex.lt {K:AH} {es:Nat} {elem:TypeId} {v:AV} {xs:List AV} (h:Ex K es elem v xs) {i:Nat} (hv:blkO v=some i):i < K.length:=(own_blk h.own hv).2
theorem Ex.keep {K K':AH} {es:Nat} {elem:TypeId} {v:AV} {xs:List AV} (h:Ex K es elem v xs) (hk:∀ i,blkO v=some i->K'[i]? =K[i]?):Ex K' es elem v xs:=by
 rcases h with h | ⟨i,n,rfl,hi,hl⟩
 · exact .inl h
 · exact .inr ⟨i,n,rfl,by rw [hk i rfl]; exact hi,hl⟩
theorem Ex.lenOf {K:AH} {es:Nat} {elem:TypeId} {v:AV} {xs:List AV} (h:Ex K es elem v xs):xs.length=lenOfA v * es:=h.own.length
theorem app_slot {sT elem:TypeId} {xT:Option TypeId} {es B:Nat} (T:AppT Tryz.prog sT xT elem es) (hes:0 < es) {K:AH} (hB:K.length=B) {v:AV} {xs:List AV} (h:Ex K es elem v xs) {new:List AV} (hn:new.length=es) (hone:new.all AV.one=true) (hg:growOk (Tryz.prog.bytesOf elem) (lenOfA v+1)=true)
   (s q:Nat) (L:AH) (hs:L[s]? =some .fresh) (hq:L[q]? =some (.cells new elem)) :
   appendA Tryz.prog (some (B+s)) sT xT v (.slice (B+q) 0 es 1 1 true) (K++L)=some (.slice (B+s) 0 es (lenOfA v+1) (lenOfA v+1) false,killV v K++L.set s (.cells (xs++new) elem)):=by
 obtain ⟨z,hz,hzl,hzn⟩:=T.z
 have hgq:(K++L)[B+q]? =some (.cells new elem):=by rw [List.getElem?_append_right (by omega),<-hB,Nat.add_sub_cancel_left]; exact hq
 have hrd:rdCells (K++L) (B+q) 0 (1 * es)=some new:=Ex.rd hgq (by omega)
 unfold appendA
 rw [if_neg (by rw [T.x]; simp),T.el,Option.bind_some,hz,Option.bind_some,T.sz]
 simp only [srcA,if_true,Option.bind_some,Nat.le_refl,hrd]
 rw [if_pos ⟨by rw [hzl,T.sz],hzn⟩]
 have hput:∀ (K1:AH) o,K1.length=B->put (some (B+s)) (K1++L) o=some (B+s,K1++L.set s o):=fun K1 o hl=>by
   unfold put
   simp only
   rw [List.getElem?_append_right (by omega),show B+s - K1.length=s by omega,hs]
   simp only
   rw [List.set_append_right _ _ (by omega),show B+s - K1.length=s by omega]
 rcases h with ⟨rfl,rfl⟩ | ⟨i,n,rfl,hi,hl⟩
 · simp only [Nat.one_ne_zero,if_false,lenOfA_nil,Nat.zero_add] at hg ⊢
   rw [if_pos hg,hput K _ hB]; rfl
 · have hiK:=lt_of_get hi
   simp only [lenOfA_slice] at hg ⊢
   rw [if_pos trivial,if_neg (by omega),if_neg (by omega),if_neg (by simp),List.getElem?_append_left hiK,hi]
   simp only
   rw [if_pos ⟨trivial,hone,hg⟩,Ex.rd (by rw [List.getElem?_append_left hiK]; exact hi) hl,Option.bind_some,List.set_append_left _ _ hiK,hput _ _ (by rw [List.length_set]; exact hB)]; rfl
abbrev OS:=AV × Nat × TypeId × List AV
structure Owns (S K:AH) (X:List Nat) (f:Nat->Nat->OS):Prop where
 sl:S.length<=K.length
 xl:∀ x∈X,x < K.length
 ex:∀ a i,Ex K (f a i).2.1 (f a i).2.2.1 (f a i).1 (f a i).2.2.2
 dis:∀ a i c j,¬(a=c/\i=j)->∀ b,blkO (f a i).1=some b->blkO (f c j).1≠some b
 own:∀ a i b,blkO (f a i).1=some b->Gone S b/\b∉X
def updF (f:Nat->Nat->OS) (a i:Nat) (e:OS):Nat->Nat->OS:=fun c j=>if c=a/\j=i then e else f c j
theorem Owns.upd {S K:AH} {X:List Nat} {f:Nat->Nat->OS} (h:Owns S K X f) (a i:Nat) {K':AH} {e:OS} (he:Ex K' e.2.1 e.2.2.1 e.1 e.2.2.2) (hb:∀ b,blkO e.1=some b->blkO (f a i).1=some b∨K.length<=b) (hl:K.length<=K'.length)
   (hK:∀ b,b < K.length->blkO (f a i).1≠some b->K'[b]? =K[b]?):Owns S K' X (updF f a i e) where
 sl:=Nat.le_trans h.sl hl
 xl:=fun x hx=>Nat.lt_of_lt_of_le (h.xl x hx) hl
 ex:=fun c j=>by
   unfold updF
   split
   · exact he
   · rename_i hne
     exact (h.ex c j).keep fun b hb=>hK b ((h.ex c j).lt hb) (h.dis c j a i hne b hb)
 dis:=fun a1 i1 c j hne b hb1 hb2=>by
   unfold updF at hb1 hb2
   split at hb1
   · rename_i e1
     split at hb2
     · rename_i e2; exact hne ⟨e1.1.trans e2.1.symm,e1.2.trans e2.2.symm⟩
     · rename_i e2
       rcases hb b hb1 with h1 | h1
       · exact h.dis a i c j (fun x=>e2 ⟨x.1.symm,x.2.symm⟩) b h1 hb2
       · have:=(h.ex c j).lt hb2; omega
   · rename_i e1
     split at hb2
     · rcases hb b hb2 with h1 | h1
       · exact h.dis a1 i1 a i e1 b hb1 h1
       · have:=(h.ex a1 i1).lt hb1; omega
     · exact h.dis a1 i1 c j hne b hb1 hb2
 own:=fun c j b hb1=>by
   unfold updF at hb1
   split at hb1
   · rcases hb b hb1 with h1 | h1
     · exact h.own a i b h1
     · exact ⟨gone_ge (Nat.le_trans h.sl h1),fun hx=>by have:=h.xl b hx; omega⟩
   · exact h.own c j b hb1
theorem Owns.same {S K:AH} {X:List Nat} {f:Nat->Nat->OS} (h:Owns S K X f) {K':AH} (hl:K.length<=K'.length) (hK:∀ b,b < K.length->b∉X->K'[b]? =K[b]?):Owns S K' X f where
 sl:=Nat.le_trans h.sl hl
 xl:=fun x hx=>Nat.lt_of_lt_of_le (h.xl x hx) hl
 ex:=fun c j=>(h.ex c j).keep fun b hb=>hK b ((h.ex c j).lt hb) (h.own c j b hb).2
 dis:=h.dis
 own:=h.own
theorem Owns.congr {S K:AH} {X:List Nat} {f g:Nat->Nat->OS} (h:Owns S K X f) (e:∀ a i,g a i=f a i):Owns S K X g:=by
 have:g=f:=funext fun a=>funext fun i=>e a i
 rw [this]; exact h
def padS (S:AH) (n:Nat) (o:AObj):AH:=S++List.replicate (n - S.length) .dead++[o]
theorem padS_len {S:AH} {n:Nat} {o:AObj} (h:S.length<=n):(padS S n o).length=n+1:=by unfold padS; simp; omega
theorem padS_self {S:AH} {n:Nat} {o:AObj} (h:S.length<=n):(padS S n o)[n]? =some o:=by
 unfold padS
 rw [List.getElem?_append_right (by simp; omega)]
 simp only [List.length_append,List.length_replicate]
 rw [show n - (S.length+(n - S.length))=0 by omega]; rfl
theorem padS_sub {S:AH} {n:Nat} {o:AObj}:Agree S (padS S n o):=fun i hi=>by
 unfold padS
 rw [List.append_assoc,List.getElem?_append_left hi]
theorem padS_gone {S:AH} {n i:Nat} {o:AObj} (hS:S.length<=n) (h:Gone S i) (hi:i < n):Gone (padS S n o) i:=by
 rcases Nat.lt_or_ge i S.length with c | c
 · unfold Gone
   rw [padS_sub i c]; exact h
 · right
   unfold padS
   rw [List.getElem?_append_left (by simp; omega),List.getElem?_append_right c,List.getElem?_replicate,if_pos (by omega)]
theorem padS_of {S K:AH} {o:AObj} (hS:S.length<=K.length) (h:Sub S K):Sub (padS S K.length o) (K++[o]):=fun i x hi hx=>by
 have hil:=lt_of_get hi
 rw [padS_len hS] at hil
 rcases Nat.lt_or_ge i K.length with c | c
 · rw [List.getElem?_append_left c]
   rcases Nat.lt_or_ge i S.length with d | d
   · rw [padS_sub i d] at hi; exact h i x hi hx
   · unfold padS at hi
     rw [List.getElem?_append_left (by simp; omega),List.getElem?_append_right d,List.getElem?_replicate,if_pos (by omega)] at hi
     cases hi; exact absurd rfl hx
 · have:i=K.length:=by omega
   subst this
   rw [padS_self hS] at hi
   rw [List.getElem?_append_right (Nat.le_refl _),Nat.sub_self]; exact hi
theorem Owns.pad {S K:AH} {X:List Nat} {f:Nat->Nat->OS} (h:Owns S K X f) (o:AObj):Owns (padS S K.length o) (K++[o]) X f where
 sl:=by rw [padS_len h.sl,List.length_append]; exact Nat.le_refl _
 xl:=fun x hx=>by rw [List.length_append]; exact Nat.lt_of_lt_of_le (h.xl x hx) (Nat.le_add_right _ _)
 ex:=fun c j=>(h.ex c j).keep fun b hb=>List.getElem?_append_left ((h.ex c j).lt hb)
 dis:=h.dis
 own:=fun c j b hb=>⟨padS_gone h.sl (h.own c j b hb).1 ((h.ex c j).lt hb),(h.own c j b hb).2⟩
end Go.Dv
namespace Go.Dv
open Go.Proofs
attribute [local congr] bind_congr_first cb_congr condA_congr gd_congr br_congr
def mapE (ks:List Nat) (mv:Nat->AV):List (AV × AV × Nat):=(List.zip ks (List.range ks.length)).map fun p=>(I (p.1:Int),mv p.1,p.2)
theorem mt131:mapTypes Tryz.prog 131=some (3,30):=by kernel_rfl
theorem find_ks (mv:Nat->AV) (n:Nat):∀ (l:List (Nat × Nat)) (i:Nat),findA Tryz.prog 3 (.int .i64) (.int .i64 n) (l.map fun p=>(I (p.1:Int),mv p.1,p.2)) i=if (l.map (·.1)).contains n then some (some (i+(l.map (·.1)).idxOf n,mv n)) else some none
 | [],i=>rfl
 | p::l,i=>by
   have ih:=find_ks mv n l (i+1)
   simp only [List.map_cons,findA,toV,Option.bind_some,same3,List.contains_cons]
   cases h:((n:Int) == (p.1:Int)) with
   | true =>
     have e:n=p.1:=by rw [beq_iff_eq] at h; exact Int.ofNat_inj.1 h
     subst e
     simp
   | false =>
     have:(n == p.1)=false:=by rw [beq_eq_false_iff_ne] at h ⊢; exact fun e=>h (by rw [e])
     have h2:(p.1 == n)=false:=by rw [beq_eq_false_iff_ne] at this ⊢; exact Ne.symm this
     rw [this]
     simp only [Bool.false_or]
     rw [ih]
     simp only [List.idxOf_cons,h2,cond_false]
     rw [show i+1+(l.map (·.1)).idxOf n=i+((l.map (·.1)).idxOf n+1) by omega]
theorem zip_fst (ks:List Nat):(List.zip ks (List.range ks.length)).map (·.1)=ks:=List.map_fst_zip (by simp)
structure Mp (K:AH) (mb:Nat) (mv:Nat->AV):Prop where
 ex:∃ ks:List Nat,ks.Nodup/\K[mb]? =some (.map (mapE ks mv) ks.length)/\∀ e,e∉ks->mv e=.nilSlice
theorem Mp.keep {K K':AH} {mb:Nat} {mv:Nat->AV} (h:Mp K mb mv) (hk:K'[mb]? =K[mb]?):Mp K' mb mv:=by
 obtain ⟨ks,h1,h2,h3⟩:=h
 exact ⟨ks,h1,by rw [hk]; exact h2,h3⟩
theorem Mp.get {K:AH} {mb:Nat} {mv:Nat->AV} (h:Mp K mb mv) (n:Nat) (L:AH):lookupA Tryz.prog 131 (.map mb) (I (n:Int)) false (K++L)=some (mv n):=by
 obtain ⟨ks,h1,h2,h3⟩:=h
 have hl:=lt_of_get h2
 simp only [lookupA,mt131,entriesA,List.getElem?_append_left hl,h2,Option.bind_some,ask3]
 unfold mapE
 rw [find_ks,zip_fst]
 cases hc:ks.contains n with
 | true=>rfl
 | false =>
   rw [h3 n (by simpa using hc)]
   simp only [Bool.false_eq_true,if_false,Option.bind_some,z30]; rfl
theorem zip_idx {ks:List Nat} {n:Nat} (hm:n∈ks):(ks.zip (List.range ks.length))[ks.idxOf n]? =some (n,ks.idxOf n):=by
 have hi:ks.idxOf n < ks.length:=List.idxOf_lt_length_of_mem hm
 exact List.getElem?_zip_eq_some.2 ⟨by rw [List.getElem?_eq_getElem hi,List.getElem_idxOf hi],List.getElem?_range hi⟩
theorem mapE_set (ks:List Nat) (mv:Nat->AV) (n:Nat) (v:AV) (hn:ks.Nodup) (hm:n∈ks):(mapE ks mv).set (ks.idxOf n) (I (n:Int),v,ks.idxOf n)=mapE ks (fun e=>if e=n then v else mv e):=by
 have hi:ks.idxOf n < ks.length:=List.idxOf_lt_length_of_mem hm
 unfold mapE
 refine List.ext_getElem? fun i=>?_
 rw [List.getElem?_set,List.getElem?_map,List.getElem?_map]
 simp only [List.length_map,List.length_zip,List.length_range,Nat.min_self]
 split
 · rename_i e
   subst e
   first | rw [if_pos hi] | skip
   rw [zip_idx hm]
   simp only [Option.map_some,if_true]
 · rename_i e
   cases hz:(ks.zip (List.range ks.length))[i]? with
   | none=>rfl
   | some p =>
     obtain ⟨h1,h2⟩:=List.getElem?_zip_eq_some.1 hz
     have hne:p.1≠n:=fun e2=>e (by
       have hil:=lt_of_get h1
       rw [List.getElem?_eq_getElem hil] at h1
       have:ks[i]=n:=by rw [<-e2]; exact Option.some.inj h1
       rw [<-this]
       exact (List.Nodup.idxOf_getElem hn i hil))
     simp only [Option.map_some]
     rw [if_neg hne]
theorem Mp.put {K:AH} {mb:Nat} {mv:Nat->AV} (h:Mp K mb mv) (n:Nat) (v:AV):∃ o,(∀ L,mapPutA Tryz.prog 131 (.map mb) (I (n:Int)) v (K++L)=some (K.set mb o++L))/\Mp (K.set mb o) mb (fun e=>if e=n then v else mv e):=by
 obtain ⟨ks,h1,h2,h3⟩:=h
 have hl:=lt_of_get h2
 have hfind:findA Tryz.prog 3 (.int .i64) (.int .i64 n) (mapE ks mv) 0=if ks.contains n then some (some (ks.idxOf n,mv n)) else some none:=by
   unfold mapE
   rw [find_ks,zip_fst,Nat.zero_add]
 cases hc:ks.contains n with
 | true =>
   have hm:n∈ks:=by simpa using hc
   have hi:ks.idxOf n < ks.length:=List.idxOf_lt_length_of_mem hm
   have hg:(mapE ks mv)[ks.idxOf n]? =some (I (n:Int),mv n,ks.idxOf n):=by
     unfold mapE
     rw [List.getElem?_map,zip_idx hm]; rfl
   refine ⟨.map (mapE ks fun e=>if e=n then v else mv e) ks.length,fun L=>?_,ks,h1,List.getElem?_set_self hl,fun e he=>?_⟩
   · simp only [mapPutA,mt131,List.getElem?_append_left hl,h2,Option.bind_some,ask3,hfind,hc,if_true,hg,toV,show Instr.sameBits 10000 (.int .i64 (n:Int)) (.int .i64 (n:Int))=true from by simp [Instr.sameBits]]
     rw [mapE_set ks mv n v h1 hm,List.set_append_left _ _ hl]
   · show (if e=n then v else mv e)=_
     rw [if_neg fun e2=>he (by rw [e2]; exact hm)]
     exact h3 e he
 | false =>
   have hm:n∉ks:=by simpa using hc
   refine ⟨.map (mapE (ks++[n]) fun e=>if e=n then v else mv e) (ks++[n]).length,fun L=>?_,ks++[n],?_,List.getElem?_set_self hl,fun e he=>?_⟩
   · simp only [mapPutA,mt131,List.getElem?_append_left hl,h2,Option.bind_some,ask3,hfind,hc,Bool.false_eq_true,if_false]
     have:mapE ks mv++[(I (n:Int),v,ks.length)]=mapE (ks++[n]) fun e=>if e=n then v else mv e:=by
       unfold mapE
       rw [List.length_append,List.length_singleton,List.range_succ,List.zip_append (by simp),List.map_append]
       congr 1
       · refine List.map_congr_left fun p hp=>?_
         have hp1:p.1∈ks:=by
           have:=List.mem_map_of_mem (f:=(·.1)) hp
           rwa [zip_fst] at this
         simp only
         rw [if_neg fun e2=>hm (by rw [<-e2]; exact hp1)]
       · simp
     rw [this,List.set_append_left _ _ hl,List.length_append]; rfl
   · rw [List.nodup_append]
     exact ⟨h1,by simp,fun a ha b hb=>by rw [List.mem_singleton] at hb; subst hb; exact fun e2=>hm (by rw [<-e2]; exact ha)⟩
   · rw [List.mem_append,List.mem_singleton] at he
     show (if e=n then v else mv e)=_
     rw [if_neg fun e2=>he (.inr e2)]
     exact h3 e fun hh=>he (.inl hh)
def plF (iv av:AV) (ws:List AV) (mv:Nat->AV) (l:List (Itm × AV)) (A:List (List Nat)) (R:Nat->List Nat):Nat->Nat->OS
 | 0,0=>(iv,9,34,(l.map xrow).flatten)
 | 1,0=>(av,1,30,ws)
 | 2,i=>(ws.getD i .nilSlice,1,3,iv1 (A.getD i []))
 | 3,e=>(mv e,1,3,iv1 (R e))
 | _,_=>(.nilSlice,1,3,[])
structure PlnR (S K:AH) (p mb:Nat) (iv av:AV) (ws:List AV) (mv:Nat->AV) (l:List (Itm × AV)) (A:List (List Nat)) (R:Nat->List Nat):Prop where
 sub:Sub S K
 gp:Gone S p
 gm:Gone S mb
 pm:p≠mb
 hp:K[p]? =some (.cells [iv,av] 93)
 hm:Mp K mb mv
 lw:ws.length=A.length
 ow:Owns S K [p,mb] (plF iv av ws mv l A R)
section
variable {S K:AH} {p mb:Nat} {iv av:AV} {ws:List AV} {mv:Nat->AV} {l:List (Itm × AV)} {A:List (List Nat)} {R:Nat->List Nat}
theorem PlnR.pK (h:PlnR S K p mb iv av ws mv l A R):p < K.length:=lt_of_get h.hp
theorem PlnR.mK (h:PlnR S K p mb iv av ws mv l A R):mb < K.length:=by obtain ⟨ks,_,h2,_⟩:=h.hm; exact lt_of_get h2
theorem PlnR.oi (h:PlnR S K p mb iv av ws mv l A R):Ex K 9 34 iv (l.map xrow).flatten:=h.ow.ex 0 0
theorem PlnR.oa (h:PlnR S K p mb iv av ws mv l A R):Ex K 1 30 av ws:=h.ow.ex 1 0
theorem PlnR.ow2 (h:PlnR S K p mb iv av ws mv l A R) (i:Nat):Ex K 1 3 (ws.getD i .nilSlice) (iv1 (A.getD i [])):=h.ow.ex 2 i
theorem PlnR.om (h:PlnR S K p mb iv av ws mv l A R) (e:Nat):Ex K 1 3 (mv e) (iv1 (R e)):=h.ow.ex 3 e
theorem PlnR.rp (h:PlnR S K p mb iv av ws mv l A R) (L:AH) (k:Nat) {x:AV} (hx:[iv,av][k]? =some x):rdCells (K++L) p k 1=some [x]:=by
 rw [obj_rd h.hp L,if_pos (by have:=lt_of_get hx; simp at this ⊢; omega)]
 rw [List.drop_eq_getElem_cons (lt_of_get hx),List.take_succ_cons,List.take_zero]
 rw [List.getElem?_eq_getElem (lt_of_get hx)] at hx
 rw [Option.some.inj hx]
theorem PlnR.pad (h:PlnR S K p mb iv av ws mv l A R) (o:AObj):PlnR (padS S K.length o) (K++[o]) p mb iv av ws mv l A R where
 sub:=padS_of h.ow.sl h.sub
 gp:=padS_gone h.ow.sl h.gp h.pK
 gm:=padS_gone h.ow.sl h.gm h.mK
 pm:=h.pm
 hp:=by rw [List.getElem?_append_left h.pK]; exact h.hp
 hm:=h.hm.keep (List.getElem?_append_left h.mK)
 lw:=h.lw
 ow:=h.ow.pad o
theorem PlnR.grow (h:PlnR S K p mb iv av ws mv l A R) (L:AH):PlnR S (K++L) p mb iv av ws mv l A R where
 sub:=h.sub.appR L
 gp:=h.gp
 gm:=h.gm
 pm:=h.pm
 hp:=by rw [List.getElem?_append_left h.pK]; exact h.hp
 hm:=h.hm.keep (List.getElem?_append_left h.mK)
 lw:=h.lw
 ow:=h.ow.same (by simp) fun b hb _=>List.getElem?_append_left hb
theorem PlnR.less {S':AH} (h:PlnR S K p mb iv av ws mv l A R) (hs:Sub S' S) (hl:S'.length<=S.length):PlnR S' K p mb iv av ws mv l A R where
 sub:=hs.trans h.sub
 gp:=h.gp.sub hs
 gm:=h.gm.sub hs
 pm:=h.pm
 hp:=h.hp
 hm:=h.hm
 lw:=h.lw
 ow:={ sl:=Nat.le_trans hl h.ow.sl,xl:=h.ow.xl,ex:=h.ow.ex,dis:=h.ow.dis,own:=fun a i b hb=>⟨(h.ow.own a i b hb).1.sub hs,(h.ow.own a i b hb).2⟩ }
theorem Owns.slot {X:List Nat} {f:Nat->Nat->OS} (h:Owns S K X f) (a i:Nat) {L:AH} {s n:Nat} {xs:List AV} {elem es:Nat} (hs:L[s]? =some (.cells xs elem)) (hn:xs.length=n * es):Owns S (killV (f a i).1 K++L) X (updF f a i (.slice (K.length+s) 0 es n n false,es,elem,xs)):=
 h.upd a i (.inr ⟨_,n,rfl,by rw [List.getElem?_append_right (by rw [killV_len]; omega),killV_len,Nat.add_sub_cancel_left]; exact hs,hn⟩) (fun b hb=>by cases hb; right; omega) (by rw [List.length_append,killV_len]; omega) fun b hb hne=>by
   rw [List.getElem?_append_left (by rw [killV_len]; exact hb),killV_get hne]
theorem sub_slot {X:List Nat} {f:Nat->Nat->OS} (hs:Sub S K) (h:Owns S K X f) (a i:Nat) (L:AH):Sub S (killV (f a i).1 K++L):=by
 refine Sub.appR ?_ L
 unfold killV
 split
 · rename_i b _ _ _ _ _ hv
   exact hs.setR (h.own a i b (by rw [hv]; rfl)).1 _
 · exact hs
end
end Go.Dv
namespace Go.Dv
open Go.Proofs
attribute [local congr] bind_congr_first cb_congr condA_congr gd_congr br_congr
theorem iv1_len (l:List Nat):(iv1 l).length=l.length:=by unfold iv1; simp
theorem iv1_snoc (l:List Nat) (k:Nat):iv1 (l++[k])=iv1 l++[I (k:Int)]:=by unfold iv1; simp
section
variable {S K:AH} {p mb:Nat} {iv av:AV} {ws:List AV} {mv:Nat->AV} {l:List (Itm × AV)} {A:List (List Nat)} {R:Nat->List Nat}
theorem PlnR.np (h:PlnR S K p mb iv av ws mv l A R) (a i:Nat):blkO (plF iv av ws mv l A R a i).1≠some p:=fun e=>(h.ow.own a i p e).2 (by simp)
theorem PlnR.nm (h:PlnR S K p mb iv av ws mv l A R) (a i:Nat):blkO (plF iv av ws mv l A R a i).1≠some mb:=fun e=>(h.ow.own a i mb e).2 (by simp)
theorem PlnR.item (h:PlnR S K p mb iv av ws mv l A R) {x:Itm} {va:AV} {L:AH} (h4:L[4]? =some (.cells ((l.map xrow).flatten++rowX x va) 34)) (h8:L[8]? =some (.cells (ws++[.nilSlice]) 30)) :
   PlnR S ((killV av (killV iv K)).set p (.cells [.slice (K.length+4) 0 9 (lenOfA iv+1) (lenOfA iv+1) false,.slice (K.length+8) 0 1 (lenOfA av+1) (lenOfA av+1) false] 93)++L) p mb (.slice (K.length+4) 0 9 (lenOfA iv+1) (lenOfA iv+1) false) (.slice (K.length+8) 0 1 (lenOfA av+1) (lenOfA av+1) false) (ws++[.nilSlice]) mv (l++[(x,va)]) (A++[[]]) R:=by
 have hl8:=lt_of_get h8
 have hLs:L=L.take 5++L.drop 5:=(List.take_append_drop 5 L).symm
 have h4':(L.take 5)[4]? =some (.cells ((l.map xrow).flatten++rowX x va) 34):=by rw [List.getElem?_take_of_lt (by omega)]; exact h4
 have h8':(L.drop 5)[3]? =some (.cells (ws++[.nilSlice]) 30):=by rw [List.getElem?_drop]; exact h8
 have hl1:((l.map xrow).flatten++rowX x va).length=(lenOfA iv+1) * 9:=by
   rw [List.length_append,h.oi.lenOf,Nat.add_mul]; rfl
 have hl2:(ws++[AV.nilSlice]).length=(lenOfA av+1) * 1:=by
   rw [List.length_append,h.oa.lenOf,Nat.add_mul]; rfl
 have o1:=h.ow.slot 0 0 (n:=lenOfA iv+1) (es:=9) h4' hl1
 have s1:=sub_slot h.sub h.ow 0 0 (L.take 5)
 have o2:=o1.slot 1 0 (n:=lenOfA av+1) (es:=1) h8' hl2
 have s2:=sub_slot s1 o1 1 0 (L.drop 5)
 have e1:(updF (plF iv av ws mv l A R) 0 0 (.slice (K.length+4) 0 9 (lenOfA iv+1) (lenOfA iv+1) false,9,34,(l.map xrow).flatten++rowX x va) 1 0).1=av:=rfl
 have e0:(plF iv av ws mv l A R 0 0).1=iv:=rfl
 have hk1:(killV iv K++L.take 5).length=K.length+5:=by rw [List.length_append,killV_len,List.length_take]; omega
 have hkk:killV av (killV iv K++L.take 5)++L.drop 5=killV av (killV iv K)++L:=by
   rw [killV_app _ fun i hi=>by rw [killV_len]; exact h.oa.lt hi,List.append_assoc,<-hLs]
 rw [e0] at o1 s1 o2 s2
 rw [e1,hkk] at s2
 rw [e1,hkk,hk1] at o2
 have hpl:p < (killV av (killV iv K)).length:=by rw [killV_len,killV_len]; exact h.pK
 have hml:mb < (killV av (killV iv K)).length:=by rw [killV_len,killV_len]; exact h.mK
 have o3:=o2.same (K':=(killV av (killV iv K)++L).set p (.cells [.slice (K.length+4) 0 9 (lenOfA iv+1) (lenOfA iv+1) false,.slice (K.length+8) 0 1 (lenOfA av+1) (lenOfA av+1) false] 93)) (by rw [List.length_set]; exact Nat.le_refl _) fun b _ hb=>List.getElem?_set_ne fun e=>hb (by rw [<-e]; simp)
 have s3:=s2.setR h.gp (.cells [.slice (K.length+4) 0 9 (lenOfA iv+1) (lenOfA iv+1) false,.slice (K.length+8) 0 1 (lenOfA av+1) (lenOfA av+1) false] 93)
 rw [List.set_append_left _ _ hpl] at o3 s3
 refine { sub:=s3,gp:=h.gp,gm:=h.gm,pm:=h.pm,hp:=?_,hm:=h.hm.keep ?_,lw:=by rw [List.length_append,List.length_append,h.lw]; rfl,ow:=o3.congr fun a i=>?_ }
 · rw [List.getElem?_append_left (by rw [List.length_set]; exact hpl),List.getElem?_set_self hpl]
 · rw [List.getElem?_append_left (by rw [List.length_set]; exact hml),List.getElem?_set_ne h.pm,killV_get (v:=av) (h.nm 1 0),killV_get (v:=iv) (h.nm 0 0)]
 · match a,i with
   | 0,0 =>
     show (_,9,34,((l++[(x,va)]).map xrow).flatten)=(_,9,34,(l.map xrow).flatten++rowX x va)
     rw [List.map_append,List.flatten_append]
     show (_,9,34,_++([xrow (x,va)]).flatten)=_
     rw [List.flatten_cons,List.flatten_nil,List.append_nil]; rfl
   | 1,0=>rfl
   | 2,i =>
     show ((ws++[AV.nilSlice]).getD i .nilSlice,1,3,iv1 ((A++[[]]).getD i []))=(ws.getD i .nilSlice,1,3,iv1 (A.getD i []))
     have g1:(ws++[AV.nilSlice]).getD i .nilSlice=ws.getD i .nilSlice:=by
       rw [gde,gde]
       rcases Nat.lt_or_ge i ws.length with c | c
       · rw [List.getElem?_append_left c]
       · rw [List.getElem?_append_right c,List.getElem?_eq_none c]
         rcases Nat.eq_zero_or_pos (i - ws.length) with z | z
         · rw [z]; rfl
         · rw [List.getElem?_eq_none (by simp; omega)]
     have g2:(A++[[]]).getD i []=A.getD i []:=by
       rw [gde,gde]
       rcases Nat.lt_or_ge i A.length with c | c
       · rw [List.getElem?_append_left c]
       · rw [List.getElem?_append_right c,List.getElem?_eq_none c]
         rcases Nat.eq_zero_or_pos (i - A.length) with z | z
         · rw [z]; rfl
         · rw [List.getElem?_eq_none (by simp; omega)]
     rw [g1,g2]
   | 3,e=>rfl
   | 0,i+1=>rfl
   | 1,i+1=>rfl
   | a+4,i=>rfl
theorem PlnR.row (h:PlnR S K p mb iv av ws mv l A R) {n k s:Nat} (hn:n < A.length) {L:AH} (hs:L[s]? =some (.cells (iv1 (A.getD n [])++[I (k:Int)]) 3)) {w v':AV} (hw:w=ws.getD n .nilSlice) (hv':v'=.slice (K.length+s) 0 1 (lenOfA w+1) (lenOfA w+1) false) :
   ∃ ab,av=.slice ab 0 1 ws.length ws.length false/\(∀ L',wrCells (killV w K++L') ab n [v']=some ((killV w K).set ab (.cells (ws.set n v') 30)++L')) /\
     PlnR S ((killV w K).set ab (.cells (ws.set n v') 30)++L) p mb iv av (ws.set n v') mv l (A.set n (A.getD n []++[k])) R:=by
 have hnw:n < ws.length:=by rw [h.lw]; exact hn
 have ho:=h.oa
 rcases ho with ⟨rfl,e2⟩ | ⟨ab,m,rfl,hab,hm⟩
 · rw [e2] at hnw; simp at hnw
 have hm':ws.length=m:=by omega
 subst hm'
 have habl:=lt_of_get hab
 have hwne:blkO w≠some ab:=fun e=>by
   rw [hw] at e
   exact h.ow.dis 2 n 1 0 (by simp) ab e rfl
 have hkab:(killV w K)[ab]? =some (.cells ws 30):=by rw [killV_get hwne]; exact hab
 have hkl:ab < (killV w K).length:=by rw [killV_len]; exact habl
 have hv'o:v'.one=true:=by rw [hv']; rfl
 refine ⟨ab,rfl,fun L'=>?_,?_⟩
 · rw [wr_objs hkab (by simp; omega) (by simp [hv'o]) L']; rfl
 have hwf:(plF iv (.slice ab 0 1 ws.length ws.length false) ws mv l A R 2 n).1=w:=hw.symm
 have hxl:(iv1 (A.getD n [])++[I (k:Int)]).length=(lenOfA w+1) * 1:=by
   have:=(h.ow2 n).lenOf
   rw [<-hw] at this
   rw [List.length_append,this,Nat.add_mul]; rfl
 have o1:=h.ow.slot 2 n (n:=lenOfA w+1) (es:=1) hs hxl
 have s1:=sub_slot h.sub h.ow 2 n L
 rw [hwf] at o1 s1
 have hset:(killV w K++L).set ab (.cells (ws.set n v') 30)=(killV w K).set ab (.cells (ws.set n v') 30)++L:=List.set_append_left _ _ hkl
 have o2:=o1.upd 1 0 (K':=(killV w K).set ab (.cells (ws.set n v') 30)++L) (e:=(.slice ab 0 1 ws.length ws.length false,1,30,ws.set n v')) (.inr ⟨ab,ws.length,rfl,by rw [<-hset,List.getElem?_set_self (by rw [List.length_append]; omega)],by rw [List.length_set]; omega⟩) (fun b hb=>.inl (by cases hb; rfl)) (by rw [<-hset,List.length_set]; exact Nat.le_refl _) fun b _ hb=>by
   rw [<-hset,List.getElem?_set_ne fun e=>hb (by rw [<-e]; rfl)]
 have s2:=s1.setR (h.ow.own 1 0 ab rfl).1 (.cells (ws.set n v') 30)
 rw [hset] at s2
 have hpl:p < (killV w K).length:=by rw [killV_len]; exact h.pK
 have hml:mb < (killV w K).length:=by rw [killV_len]; exact h.mK
 have hpa:ab≠p:=fun e=>h.np 1 0 (by rw [<-e]; rfl)
 have hma:ab≠mb:=fun e=>h.nm 1 0 (by rw [<-e]; rfl)
 have hwp:blkO w≠some p:=by rw [<-hwf]; exact h.np 2 n
 have hwm:blkO w≠some mb:=by rw [<-hwf]; exact h.nm 2 n
 refine { sub:=s2,gp:=h.gp,gm:=h.gm,pm:=h.pm,hp:=?_,hm:=h.hm.keep ?_,lw:=by rw [List.length_set,List.length_set]; exact h.lw,ow:=o2.congr fun a i=>?_ }
 · rw [List.getElem?_append_left (by rw [List.length_set]; exact hpl),List.getElem?_set_ne hpa,killV_get hwp]; exact h.hp
 · rw [List.getElem?_append_left (by rw [List.length_set]; exact hml),List.getElem?_set_ne hma,killV_get hwm]
 · match a,i with
   | 0,0=>rfl
   | 1,0=>rfl
   | 2,i =>
     show ((ws.set n v').getD i .nilSlice,1,3,iv1 ((A.set n (A.getD n []++[k])).getD i []))=if 2=1/\i=0 then _ else if 2=2/\i=n then _ else (ws.getD i .nilSlice,1,3,iv1 (A.getD i []))
     rw [if_neg (by simp)]
     rw [gde,gde,List.getElem?_set,List.getElem?_set]
     by_cases e:i=n
     · subst e
       have hc:(2=2/\i=i):=⟨rfl,rfl⟩
       rw [if_pos rfl,if_pos hnw,if_pos rfl,if_pos hn,if_pos hc,hv']
       simp only [Option.getD_some,iv1_snoc]
     · have hc:¬(2=2/\i=n):=fun x=>e x.2
       rw [if_neg (Ne.symm e),if_neg (Ne.symm e),if_neg hc,gde,gde]
   | 3,e=>rfl
   | 0,i+1=>rfl
   | 1,i+1=>rfl
   | a+4,i=>rfl
theorem PlnR.recd (h:PlnR S K p mb iv av ws mv l A R) {n k s:Nat} {L:AH} (hs:L[s]? =some (.cells (iv1 (R n)++[I (k:Int)]) 3)) {v':AV} (hv':v'=.slice (K.length+s) 0 1 (lenOfA (mv n)+1) (lenOfA (mv n)+1) false) :
   ∃ o,(∀ L',mapPutA Tryz.prog 131 (.map mb) (I (n:Int)) v' (killV (mv n) K++L')=some ((killV (mv n) K).set mb o++L')) /\
     PlnR S ((killV (mv n) K).set mb o++L) p mb iv av ws (fun e=>if e=n then v' else mv e) l A (fun e=>if e=n then R n++[k] else R e):=by
 have hpl:p < (killV (mv n) K).length:=by rw [killV_len]; exact h.pK
 have hml:mb < (killV (mv n) K).length:=by rw [killV_len]; exact h.mK
 have hwp:blkO (mv n)≠some p:=h.np 3 n
 have hwm:blkO (mv n)≠some mb:=h.nm 3 n
 obtain ⟨o,ho,hM⟩:=(h.hm.keep (K':=killV (mv n) K) (killV_get hwm)).put n v'
 refine ⟨o,ho,?_⟩
 have hxl:(iv1 (R n)++[I (k:Int)]).length=(lenOfA (mv n)+1) * 1:=by
   rw [List.length_append,(h.om n).lenOf,Nat.add_mul]; rfl
 have o1:=h.ow.slot 3 n (n:=lenOfA (mv n)+1) (es:=1) hs hxl
 have s1:=sub_slot h.sub h.ow 3 n L
 have hwf:(plF iv av ws mv l A R 3 n).1=mv n:=rfl
 rw [hwf] at o1 s1
 have hset:(killV (mv n) K++L).set mb o=(killV (mv n) K).set mb o++L:=List.set_append_left _ _ hml
 have o2:=o1.same (K':=(killV (mv n) K).set mb o++L) (by rw [<-hset,List.length_set]; exact Nat.le_refl _) fun b _ hb=>by
   rw [<-hset,List.getElem?_set_ne fun e=>hb (by rw [<-e]; simp)]
 have s2:=s1.setR h.gm o
 rw [hset] at s2
 refine { sub:=s2,gp:=h.gp,gm:=h.gm,pm:=h.pm,hp:=?_,hm:=hM.keep (List.getElem?_append_left (by rw [List.length_set]; exact hml)),lw:=h.lw,ow:=o2.congr fun a i=>?_ }
 · rw [List.getElem?_append_left (by rw [List.length_set]; exact hpl),List.getElem?_set_ne (Ne.symm h.pm),killV_get hwp]; exact h.hp
 · match a,i with
   | 0,0=>rfl
   | 1,0=>rfl
   | 2,i=>rfl
   | 3,e =>
     show ((if e=n then v' else mv e),1,3,iv1 (if e=n then R n++[k] else R e))=if 3=3/\e=n then _ else (mv e,1,3,iv1 (R e))
     by_cases c:e=n
     · subst c
       have hc:(3=3/\e=e):=⟨rfl,rfl⟩
       rw [if_pos rfl,if_pos rfl,if_pos hc,hv',iv1_snoc]
     · have hc:¬(3=3/\e=n):=fun x=>c x.2
       rw [if_neg c,if_neg c,if_neg hc]
   | 0,i+1=>rfl
   | 1,i+1=>rfl
   | a+4,i=>rfl
end
end Go.Dv
