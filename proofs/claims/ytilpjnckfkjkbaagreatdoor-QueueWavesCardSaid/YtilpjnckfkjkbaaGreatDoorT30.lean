/- Part 30 of the walks (own work). -/
import Derived.Test.YtilpjnckfkjkbaaGreatDoorT29
open Bool renaming and_eq_false_iff→Dz,false_eq_true→bE
open Int renaming toNat_natCast→cw
open List.Nodup renaming idxOf_getElem→aaa
open List renaming any_cons→dj,any_nil→dG,any_toArray→cm,any_toArray'→dK,append_assoc→aG,append_nil→af,drop_eq_getElem_cons→gW,ext_getElem?→gr,filter→E8,filter_append→mU,getElem?_append_left→aw,getElem?_append_right→al,getElem?_eq_getElem→aj,getElem?_eq_none→aH,getElem?_map→aM,getElem?_range→gy,getElem?_set→cL,getElem?_set_ne→aB,getElem?_set_self→bH,getElem?_zip_eq_some→nL,idxOf_lt_length_of_mem→mn,length_append→ai,length_filter_le→lC,length_map→ar,length_range→eB,length_set→aq,map_append→eg,map_congr_left→mm,mem_range→eP,mem_singleton→bF,range→bn,range_succ→iT,replicate_succ→dc,replicate_zero→cN,set_append_left→gf,size_toArray→dJ,take_succ_cons→jJ,take_zero→nz,zip→wU
open Nat renaming add_assoc→bJ,add_mul→ey,ble→vW,eq_or_lt_of_le→ky,eq_zero_or_pos→Io,le_refl→ax,lt_or_ge→aX,mul_one→dz,reduceLeDiff→aK,sub_self→dR,zero_add→c7
open Option renaming bind_some→aA,getD_some→fq,map_eq_some_iff→ah,map_some→cE
open Option.some renaming inj→aE
open Go.Proofs.Tryz renaming prog→aa
set_option maxRecDepth 100000
set_option maxHeartbeats 4000000
set_option linter.unusedSimpArgs false
set_option linter.unusedVariables false
namespace Go.Dv
open Go.Proofs
attribute [local congr] aF bC aY bB bD
def tg (ks:List Nat) (mv:Nat->AV):List (AV × AV × Nat):=(wU ks (bn ks.length)).map fun p=>(I (p.1:Int),mv p.1,p.2)
theorem Kp:ll aa 131=some (3,30):=by kernel_rfl
theorem Bf (mv:Nat->AV) (n:Nat):∀ (l:List (Nat × Nat)) (i:Nat),iI aa 3 (.int .i64) (.int .i64 n) (l.map fun p=>(I (p.1:Int),mv p.1,p.2)) i=if (l.map (·.1)).contains n then some (some (i+(l.map (·.1)).idxOf n,mv n)) else some none
 | [],i=>rfl
 | p::l,i=>by
   have ih:=Bf mv n l (i+1)
   simp only [List.map_cons,iI,toV,aA,I0,List.contains_cons]
   cases h:((n:Int) == (p.1:Int)) with
   | true =>
     have e:n=p.1:=by rw [beq_iff_eq] at h; exact Int.ofNat_inj.1 h
     subst e
     simp
   | false =>
     have:(n == p.1)=false:=by rw [beq_eq_false_iff_ne] at h ⊢; exact fun e=>h (by rw [e])
     have h2:(p.1 == n)=false:=by rw [beq_eq_false_iff_ne] at this ⊢; exact Ne.symm this
     rw [this]
     simp only [Bool.false_or]
     rw [ih]
     simp only [List.idxOf_cons,h2,cond_false]
     rw [show i+1+(l.map (·.1)).idxOf n=i+((l.map (·.1)).idxOf n+1) by omega]
theorem zip_fst (ks:List Nat):(wU ks (bn ks.length)).map (·.1)=ks:=List.map_fst_zip (by simp)
structure Mp (K:AH) (mb:Nat) (mv:Nat->AV):Prop where
 ex:∃ ks:List Nat,ks.Nodup/\K[mb]? =some (.map (tg ks mv) ks.length)/\∀ e,e∉ks->mv e=.nilSlice
theorem Mp.lH {K K':AH} {mb:Nat} {mv:Nat->AV} (h:Mp K mb mv) (hk:K'[mb]? =K[mb]?):Mp K' mb mv:=by
 obtain ⟨ks,h1,h2,h3⟩:=h
 exact ⟨ks,h1,by rw [hk]; exact h2,h3⟩
theorem Mp.get {K:AH} {mb:Nat} {mv:Nat->AV} (h:Mp K mb mv) (n:Nat) (L:AH):iB aa 131 (.map mb) (I (n:Int)) false (K++L)=some (mv n):=by
 obtain ⟨ks,h1,h2,h3⟩:=h
 have hl:=aJ h2
 simp only [iB,Kp,jy,aw hl,h2,aA,Nh]
 unfold tg
 rw [Bf,zip_fst]
 cases hc:ks.contains n with
 | true=>rfl
 | false =>
   rw [h3 n (by simpa using hc)]
   simp only [bE,if_false,aA,z30]; rfl
theorem Fa {ks:List Nat} {n:Nat} (hm:n∈ks):(ks.zip (bn ks.length))[ks.idxOf n]? =some (n,ks.idxOf n):=by
 have hi:ks.idxOf n < ks.length:=mn hm
 exact nL.2 ⟨by rw [aj hi,List.getElem_idxOf hi],gy hi⟩
theorem Ku (ks:List Nat) (mv:Nat->AV) (n:Nat) (v:AV) (hn:ks.Nodup) (hm:n∈ks):(tg ks mv).set (ks.idxOf n) (I (n:Int),v,ks.idxOf n)=tg ks (fun e=>if e=n then v else mv e):=by
 have hi:ks.idxOf n < ks.length:=mn hm
 unfold tg
 refine gr fun i=>?_
 rw [cL,aM,aM]
 simp only [ar,List.length_zip,eB,Nat.min_self]
 split
 · rename_i e
   subst e
   first | rw [if_pos hi] | skip
   rw [Fa hm]
   simp only [cE,if_true]
 · rename_i e
   cases hz:(ks.zip (bn ks.length))[i]? with
   | none=>rfl
   | some p =>
     obtain ⟨h1,h2⟩:=nL.1 hz
     have hne:p.1≠n:=fun e2=>e (by
       have hil:=aJ h1
       rw [aj hil] at h1
       have:ks[i]=n:=by rw [<-e2]; exact aE h1
       rw [<-this]
       exact (aaa hn i hil))
     simp only [cE]
     rw [if_neg hne]
theorem Mp.put {K:AH} {mb:Nat} {mv:Nat->AV} (h:Mp K mb mv) (n:Nat) (v:AV):∃ o,(∀ L,iz aa 131 (.map mb) (I (n:Int)) v (K++L)=some (K.set mb o++L))/\Mp (K.set mb o) mb (fun e=>if e=n then v else mv e):=by
 obtain ⟨ks,h1,h2,h3⟩:=h
 have hl:=aJ h2
 have hfind:iI aa 3 (.int .i64) (.int .i64 n) (tg ks mv) 0=if ks.contains n then some (some (ks.idxOf n,mv n)) else some none:=by
   unfold tg
   rw [Bf,zip_fst,c7]
 cases hc:ks.contains n with
 | true =>
   have hm:n∈ks:=by simpa using hc
   have hi:ks.idxOf n < ks.length:=mn hm
   have hg:(tg ks mv)[ks.idxOf n]? =some (I (n:Int),mv n,ks.idxOf n):=by
     unfold tg
     rw [aM,Fa hm]; rfl
   refine ⟨.map (tg ks fun e=>if e=n then v else mv e) ks.length,fun L=>?_,ks,h1,bH hl,fun e he=>?_⟩
   · simp only [iz,Kp,aw hl,h2,aA,Nh,hfind,hc,if_true,hg,toV,show Instr.sameBits 10000 (.int .i64 (n:Int)) (.int .i64 (n:Int))=true from by simp [Instr.sameBits]]
     rw [Ku ks mv n v h1 hm,gf _ _ hl]
   · show (if e=n then v else mv e)=_
     rw [if_neg fun e2=>he (by rw [e2]; exact hm)]
     exact h3 e he
 | false =>
   have hm:n∉ks:=by simpa using hc
   refine ⟨.map (tg (ks++[n]) fun e=>if e=n then v else mv e) (ks++[n]).length,fun L=>?_,ks++[n],?_,bH hl,fun e he=>?_⟩
   · simp only [iz,Kp,aw hl,h2,aA,Nh,hfind,hc,bE,if_false]
     have:tg ks mv++[(I (n:Int),v,ks.length)]=tg (ks++[n]) fun e=>if e=n then v else mv e:=by
       unfold tg
       rw [ai,List.length_singleton,iT,List.zip_append (by simp),eg]
       congr 1
       · refine mm fun p hp=>?_
         have hp1:p.1∈ks:=by
           have:=List.mem_map_of_mem (f:=(·.1)) hp
           rwa [zip_fst] at this
         simp only
         rw [if_neg fun e2=>hm (by rw [<-e2]; exact hp1)]
       · simp
     rw [this,gf _ _ hl,ai]; rfl
   · rw [List.nodup_append]
     exact ⟨h1,by simp,fun a ha b hb=>by rw [bF] at hb; subst hb; exact fun e2=>hm (by rw [<-e2]; exact ha)⟩
   · rw [List.mem_append,bF] at he
     show (if e=n then v else mv e)=_
     rw [if_neg fun e2=>he (.inr e2)]
     exact h3 e fun hh=>he (.inl hh)
def plF (iv av:AV) (ws:List AV) (mv:Nat->AV) (l:List (Itm × AV)) (A:List (List Nat)) (R:Nat->List Nat):Nat->Nat->OS
 | 0,0=>(iv,9,34,(l.map fk).flatten)
 | 1,0=>(av,1,30,ws)
 | 2,i=>(ws.getD i .nilSlice,1,3,iv1 (A.getD i []))
 | 3,e=>(mv e,1,3,iv1 (R e))
 | _,_=>(.nilSlice,1,3,[])
structure eM (S K:AH) (p mb:Nat) (iv av:AV) (ws:List AV) (mv:Nat->AV) (l:List (Itm × AV)) (A:List (List Nat)) (R:Nat->List Nat):Prop where
 sub:Sub S K
 gp:lB S p
 gm:lB S mb
 pm:p≠mb
 hp:K[p]? =some (.cells [iv,av] 93)
 hm:Mp K mb mv
 lw:ws.length=A.length
 ow:qg S K [p,mb] (plF iv av ws mv l A R)
section
variable {S K:AH} {p mb:Nat} {iv av:AV} {ws:List AV} {mv:Nat->AV} {l:List (Itm × AV)} {A:List (List Nat)} {R:Nat->List Nat}
theorem eM.pK (h:eM S K p mb iv av ws mv l A R):p < K.length:=aJ h.hp
theorem eM.mK (h:eM S K p mb iv av ws mv l A R):mb < K.length:=by obtain ⟨ks,_,h2,_⟩:=h.hm; exact aJ h2
theorem eM.oi (h:eM S K p mb iv av ws mv l A R):Ex K 9 34 iv (l.map fk).flatten:=h.ow.ex 0 0
theorem eM.oa (h:eM S K p mb iv av ws mv l A R):Ex K 1 30 av ws:=h.ow.ex 1 0
theorem eM.ow2 (h:eM S K p mb iv av ws mv l A R) (i:Nat):Ex K 1 3 (ws.getD i .nilSlice) (iv1 (A.getD i [])):=h.ow.ex 2 i
theorem eM.om (h:eM S K p mb iv av ws mv l A R) (e:Nat):Ex K 1 3 (mv e) (iv1 (R e)):=h.ow.ex 3 e
theorem eM.rp (h:eM S K p mb iv av ws mv l A R) (L:AH) (k:Nat) {x:AV} (hx:[iv,av][k]? =some x):ak (K++L) p k 1=some [x]:=by
 rw [eL h.hp L,if_pos (by have:=aJ hx; simp at this ⊢; omega)]
 rw [gW (aJ hx),jJ,nz]
 rw [aj (aJ hx)] at hx
 rw [aE hx]
theorem eM.pad (h:eM S K p mb iv av ws mv l A R) (o:bl):eM (q9 S K.length o) (K++[o]) p mb iv av ws mv l A R where
 sub:=Ps h.ow.sl h.sub
 gp:=uB h.ow.sl h.gp h.pK
 gm:=uB h.ow.sl h.gm h.mK
 pm:=h.pm
 hp:=by rw [aw h.pK]; exact h.hp
 hm:=h.hm.lH (aw h.mK)
 lw:=h.lw
 ow:=h.ow.pad o
theorem eM.grow (h:eM S K p mb iv av ws mv l A R) (L:AH):eM S (K++L) p mb iv av ws mv l A R where
 sub:=h.sub.bS L
 gp:=h.gp
 gm:=h.gm
 pm:=h.pm
 hp:=by rw [aw h.pK]; exact h.hp
 hm:=h.hm.lH (aw h.mK)
 lw:=h.lw
 ow:=h.ow.same (by simp) fun b hb _=>aw hb
theorem eM.less {S':AH} (h:eM S K p mb iv av ws mv l A R) (hs:Sub S' S) (hl:S'.length<=S.length):eM S' K p mb iv av ws mv l A R where
 sub:=hs.trans h.sub
 gp:=h.gp.sub hs
 gm:=h.gm.sub hs
 pm:=h.pm
 hp:=h.hp
 hm:=h.hm
 lw:=h.lw
 ow:={ sl:=Nat.le_trans hl h.ow.sl,xl:=h.ow.xl,ex:=h.ow.ex,dis:=h.ow.dis,own:=fun a i b hb=>⟨(h.ow.own a i b hb).1.sub hs,(h.ow.own a i b hb).2⟩ }
theorem qg.slot {X:List Nat} {f:Nat->Nat->OS} (h:qg S K X f) (a i:Nat) {L:AH} {s n:Nat} {xs:List AV} {elem es:Nat} (hs:L[s]? =some (.cells xs elem)) (hn:xs.length=n * es):qg S (bM (f a i).1 K++L) X (GX f a i (.slice (K.length+s) 0 es n n false,es,elem,xs)):=
 h.upd a i (.inr ⟨_,n,rfl,by rw [al (by rw [dH]; omega),dH,Nat.add_sub_cancel_left]; exact hs,hn⟩) (fun b hb=>by cases hb; right; omega) (by rw [ai,dH]; omega) fun b hb hne=>by
   rw [aw (by rw [dH]; exact hb),dp hne]
theorem pv {X:List Nat} {f:Nat->Nat->OS} (hs:Sub S K) (h:qg S K X f) (a i:Nat) (L:AH):Sub S (bM (f a i).1 K++L):=by
 refine Sub.bS ?_ L
 unfold bM
 split
 · rename_i b _ _ _ _ _ hv
   exact hs.pC (h.own a i b (by rw [hv]; rfl)).1 _
 · exact hs
end
end Go.Dv
namespace Go.Dv
open Go.Proofs
attribute [local congr] aF bC aY bB bD
theorem jj (l:List Nat):(iv1 l).length=l.length:=by unfold iv1; simp
theorem tp (l:List Nat) (k:Nat):iv1 (l++[k])=iv1 l++[I (k:Int)]:=by unfold iv1; simp
section
variable {S K:AH} {p mb:Nat} {iv av:AV} {ws:List AV} {mv:Nat->AV} {l:List (Itm × AV)} {A:List (List Nat)} {R:Nat->List Nat}
theorem eM.np (h:eM S K p mb iv av ws mv l A R) (a i:Nat):cu (plF iv av ws mv l A R a i).1≠some p:=fun e=>(h.ow.own a i p e).2 (by simp)
theorem eM.nm (h:eM S K p mb iv av ws mv l A R) (a i:Nat):cu (plF iv av ws mv l A R a i).1≠some mb:=fun e=>(h.ow.own a i mb e).2 (by simp)
theorem eM.item (h:eM S K p mb iv av ws mv l A R) {x:Itm} {va:AV} {L:AH} (h4:L[4]? =some (.cells ((l.map fk).flatten++aL x va) 34)) (h8:L[8]? =some (.cells (ws++[.nilSlice]) 30)) :
   eM S ((bM av (bM iv K)).set p (.cells [.slice (K.length+4) 0 9 (bA iv+1) (bA iv+1) false,.slice (K.length+8) 0 1 (bA av+1) (bA av+1) false] 93)++L) p mb (.slice (K.length+4) 0 9 (bA iv+1) (bA iv+1) false) (.slice (K.length+8) 0 1 (bA av+1) (bA av+1) false) (ws++[.nilSlice]) mv (l++[(x,va)]) (A++[[]]) R:=by
 have hl8:=aJ h8
 have hLs:L=L.take 5++L.drop 5:=(List.take_append_drop 5 L).symm
 have h4':(L.take 5)[4]? =some (.cells ((l.map fk).flatten++aL x va) 34):=by rw [List.getElem?_take_of_lt (by omega)]; exact h4
 have h8':(L.drop 5)[3]? =some (.cells (ws++[.nilSlice]) 30):=by rw [List.getElem?_drop]; exact h8
 have hl1:((l.map fk).flatten++aL x va).length=(bA iv+1) * 9:=by
   rw [ai,h.oi.lenOf,ey]; rfl
 have hl2:(ws++[AV.nilSlice]).length=(bA av+1) * 1:=by
   rw [ai,h.oa.lenOf,ey]; rfl
 have o1:=h.ow.slot 0 0 (n:=bA iv+1) (es:=9) h4' hl1
 have s1:=pv h.sub h.ow 0 0 (L.take 5)
 have o2:=o1.slot 1 0 (n:=bA av+1) (es:=1) h8' hl2
 have s2:=pv s1 o1 1 0 (L.drop 5)
 have e1:(GX (plF iv av ws mv l A R) 0 0 (.slice (K.length+4) 0 9 (bA iv+1) (bA iv+1) false,9,34,(l.map fk).flatten++aL x va) 1 0).1=av:=rfl
 have e0:(plF iv av ws mv l A R 0 0).1=iv:=rfl
 have hk1:(bM iv K++L.take 5).length=K.length+5:=by rw [ai,dH,List.length_take]; omega
 have hkk:bM av (bM iv K++L.take 5)++L.drop 5=bM av (bM iv K)++L:=by
   rw [zQ _ fun i hi=>by rw [dH]; exact h.oa.lt hi,aG,<-hLs]
 rw [e0] at o1 s1 o2 s2
 rw [e1,hkk] at s2
 rw [e1,hkk,hk1] at o2
 have hpl:p < (bM av (bM iv K)).length:=by rw [dH,dH]; exact h.pK
 have hml:mb < (bM av (bM iv K)).length:=by rw [dH,dH]; exact h.mK
 have o3:=o2.same (K':=(bM av (bM iv K)++L).set p (.cells [.slice (K.length+4) 0 9 (bA iv+1) (bA iv+1) false,.slice (K.length+8) 0 1 (bA av+1) (bA av+1) false] 93)) (by rw [aq]; exact ax _) fun b _ hb=>aB fun e=>hb (by rw [<-e]; simp)
 have s3:=s2.pC h.gp (.cells [.slice (K.length+4) 0 9 (bA iv+1) (bA iv+1) false,.slice (K.length+8) 0 1 (bA av+1) (bA av+1) false] 93)
 rw [gf _ _ hpl] at o3 s3
 refine { sub:=s3,gp:=h.gp,gm:=h.gm,pm:=h.pm,hp:=?_,hm:=h.hm.lH ?_,lw:=by rw [ai,ai,h.lw]; rfl,ow:=o3.congr fun a i=>?_ }
 · rw [aw (by rw [aq]; exact hpl),bH hpl]
 · rw [aw (by rw [aq]; exact hml),aB h.pm,dp (v:=av) (h.nm 1 0),dp (v:=iv) (h.nm 0 0)]
 · match a,i with
   | 0,0 =>
     show (_,9,34,((l++[(x,va)]).map fk).flatten)=(_,9,34,(l.map fk).flatten++aL x va)
     rw [eg,List.flatten_append]
     show (_,9,34,_++([fk (x,va)]).flatten)=_
     rw [List.flatten_cons,List.flatten_nil,af]; rfl
   | 1,0=>rfl
   | 2,i =>
     show ((ws++[AV.nilSlice]).getD i .nilSlice,1,3,iv1 ((A++[[]]).getD i []))=(ws.getD i .nilSlice,1,3,iv1 (A.getD i []))
     have g1:(ws++[AV.nilSlice]).getD i .nilSlice=ws.getD i .nilSlice:=by
       rw [gde,gde]
       rcases aX i ws.length with c | c
       · rw [aw c]
       · rw [al c,aH c]
         rcases Io (i - ws.length) with z | z
         · rw [z]; rfl
         · rw [aH (by simp; omega)]
     have g2:(A++[[]]).getD i []=A.getD i []:=by
       rw [gde,gde]
       rcases aX i A.length with c | c
       · rw [aw c]
       · rw [al c,aH c]
         rcases Io (i - A.length) with z | z
         · rw [z]; rfl
         · rw [aH (by simp; omega)]
     rw [g1,g2]
   | 3,e=>rfl
   | 0,i+1=>rfl
   | 1,i+1=>rfl
   | a+4,i=>rfl
theorem eM.row (h:eM S K p mb iv av ws mv l A R) {n k s:Nat} (hn:n < A.length) {L:AH} (hs:L[s]? =some (.cells (iv1 (A.getD n [])++[I (k:Int)]) 3)) {w v':AV} (hw:w=ws.getD n .nilSlice) (hv':v'=.slice (K.length+s) 0 1 (bA w+1) (bA w+1) false) :
   ∃ ab,av=.slice ab 0 1 ws.length ws.length false/\(∀ L',bh (bM w K++L') ab n [v']=some ((bM w K).set ab (.cells (ws.set n v') 30)++L')) /\
     eM S ((bM w K).set ab (.cells (ws.set n v') 30)++L) p mb iv av (ws.set n v') mv l (A.set n (A.getD n []++[k])) R:=by
 have hnw:n < ws.length:=by rw [h.lw]; exact hn
 have ho:=h.oa
 rcases ho with ⟨rfl,e2⟩ | ⟨ab,m,rfl,hab,hm⟩
 · rw [e2] at hnw; simp at hnw
 have hm':ws.length=m:=by omega
 subst hm'
 have habl:=aJ hab
 have hwne:cu w≠some ab:=fun e=>by
   rw [hw] at e
   exact h.ow.dis 2 n 1 0 (by simp) ab e rfl
 have hkab:(bM w K)[ab]? =some (.cells ws 30):=by rw [dp hwne]; exact hab
 have hkl:ab < (bM w K).length:=by rw [dH]; exact habl
 have hv'o:v'.one=true:=by rw [hv']; rfl
 refine ⟨ab,rfl,fun L'=>?_,?_⟩
 · rw [iu hkab (by simp; omega) (by simp [hv'o]) L']; rfl
 have hwf:(plF iv (.slice ab 0 1 ws.length ws.length false) ws mv l A R 2 n).1=w:=hw.symm
 have hxl:(iv1 (A.getD n [])++[I (k:Int)]).length=(bA w+1) * 1:=by
   have:=(h.ow2 n).lenOf
   rw [<-hw] at this
   rw [ai,this,ey]; rfl
 have o1:=h.ow.slot 2 n (n:=bA w+1) (es:=1) hs hxl
 have s1:=pv h.sub h.ow 2 n L
 rw [hwf] at o1 s1
 have hset:(bM w K++L).set ab (.cells (ws.set n v') 30)=(bM w K).set ab (.cells (ws.set n v') 30)++L:=gf _ _ hkl
 have o2:=o1.upd 1 0 (K':=(bM w K).set ab (.cells (ws.set n v') 30)++L) (e:=(.slice ab 0 1 ws.length ws.length false,1,30,ws.set n v')) (.inr ⟨ab,ws.length,rfl,by rw [<-hset,bH (by rw [ai]; omega)],by rw [aq]; omega⟩) (fun b hb=>.inl (by cases hb; rfl)) (by rw [<-hset,aq]; exact ax _) fun b _ hb=>by
   rw [<-hset,aB fun e=>hb (by rw [<-e]; rfl)]
 have s2:=s1.pC (h.ow.own 1 0 ab rfl).1 (.cells (ws.set n v') 30)
 rw [hset] at s2
 have hpl:p < (bM w K).length:=by rw [dH]; exact h.pK
 have hml:mb < (bM w K).length:=by rw [dH]; exact h.mK
 have hpa:ab≠p:=fun e=>h.np 1 0 (by rw [<-e]; rfl)
 have hma:ab≠mb:=fun e=>h.nm 1 0 (by rw [<-e]; rfl)
 have hwp:cu w≠some p:=by rw [<-hwf]; exact h.np 2 n
 have hwm:cu w≠some mb:=by rw [<-hwf]; exact h.nm 2 n
 refine { sub:=s2,gp:=h.gp,gm:=h.gm,pm:=h.pm,hp:=?_,hm:=h.hm.lH ?_,lw:=by rw [aq,aq]; exact h.lw,ow:=o2.congr fun a i=>?_ }
 · rw [aw (by rw [aq]; exact hpl),aB hpa,dp hwp]; exact h.hp
 · rw [aw (by rw [aq]; exact hml),aB hma,dp hwm]
 · match a,i with
   | 0,0=>rfl
   | 1,0=>rfl
   | 2,i =>
     show ((ws.set n v').getD i .nilSlice,1,3,iv1 ((A.set n (A.getD n []++[k])).getD i []))=if 2=1/\i=0 then _ else if 2=2/\i=n then _ else (ws.getD i .nilSlice,1,3,iv1 (A.getD i []))
     rw [if_neg (by simp)]
     rw [gde,gde,cL,cL]
     by_cases e:i=n
     · subst e
       have hc:(2=2/\i=i):=⟨rfl,rfl⟩
       rw [if_pos rfl,if_pos hnw,if_pos rfl,if_pos hn,if_pos hc,hv']
       simp only [fq,tp]
     · have hc:¬(2=2/\i=n):=fun x=>e x.2
       rw [if_neg (Ne.symm e),if_neg (Ne.symm e),if_neg hc,gde,gde]
   | 3,e=>rfl
   | 0,i+1=>rfl
   | 1,i+1=>rfl
   | a+4,i=>rfl
theorem eM.BQ (h:eM S K p mb iv av ws mv l A R) {n k s:Nat} {L:AH} (hs:L[s]? =some (.cells (iv1 (R n)++[I (k:Int)]) 3)) {v':AV} (hv':v'=.slice (K.length+s) 0 1 (bA (mv n)+1) (bA (mv n)+1) false) :
   ∃ o,(∀ L',iz aa 131 (.map mb) (I (n:Int)) v' (bM (mv n) K++L')=some ((bM (mv n) K).set mb o++L')) /\
     eM S ((bM (mv n) K).set mb o++L) p mb iv av ws (fun e=>if e=n then v' else mv e) l A (fun e=>if e=n then R n++[k] else R e):=by
 have hpl:p < (bM (mv n) K).length:=by rw [dH]; exact h.pK
 have hml:mb < (bM (mv n) K).length:=by rw [dH]; exact h.mK
 have hwp:cu (mv n)≠some p:=h.np 3 n
 have hwm:cu (mv n)≠some mb:=h.nm 3 n
 obtain ⟨o,ho,hM⟩:=(h.hm.lH (K':=bM (mv n) K) (dp hwm)).put n v'
 refine ⟨o,ho,?_⟩
 have hxl:(iv1 (R n)++[I (k:Int)]).length=(bA (mv n)+1) * 1:=by
   rw [ai,(h.om n).lenOf,ey]; rfl
 have o1:=h.ow.slot 3 n (n:=bA (mv n)+1) (es:=1) hs hxl
 have s1:=pv h.sub h.ow 3 n L
 have hwf:(plF iv av ws mv l A R 3 n).1=mv n:=rfl
 rw [hwf] at o1 s1
 have hset:(bM (mv n) K++L).set mb o=(bM (mv n) K).set mb o++L:=gf _ _ hml
 have o2:=o1.same (K':=(bM (mv n) K).set mb o++L) (by rw [<-hset,aq]; exact ax _) fun b _ hb=>by
   rw [<-hset,aB fun e=>hb (by rw [<-e]; simp)]
 have s2:=s1.pC h.gm o
 rw [hset] at s2
 refine { sub:=s2,gp:=h.gp,gm:=h.gm,pm:=h.pm,hp:=?_,hm:=hM.lH (aw (by rw [aq]; exact hml)),lw:=h.lw,ow:=o2.congr fun a i=>?_ }
 · rw [aw (by rw [aq]; exact hpl),aB (Ne.symm h.pm),dp hwp]; exact h.hp
 · match a,i with
   | 0,0=>rfl
   | 1,0=>rfl
   | 2,i=>rfl
   | 3,e =>
     show ((if e=n then v' else mv e),1,3,iv1 (if e=n then R n++[k] else R e))=if 3=3/\e=n then _ else (mv e,1,3,iv1 (R e))
     by_cases c:e=n
     · subst c
       have hc:(3=3/\e=e):=⟨rfl,rfl⟩
       rw [if_pos rfl,if_pos rfl,if_pos hc,hv',tp]
     · have hc:¬(3=3/\e=n):=fun x=>c x.2
       rw [if_neg c,if_neg c,if_neg hc]
   | 0,i+1=>rfl
   | 1,i+1=>rfl
   | a+4,i=>rfl
end
end Go.Dv
namespace Go.Dv
open Go.Proofs
attribute [local congr] aF bC aY bB bD
theorem Vc (s:Option Nat) (cs:List AV) (hc:cs.length=9) (H:AH):bk aa s 31 1 [(0,.agg cs)] H=(put s H (.cells cs 34)).map fun p=>(.slice p.1 0 9 1 1 true,p.2):=by
 rcases cs with _ | ⟨a,_ | ⟨b,_ | ⟨c,_ | ⟨d,_ | ⟨e,_ | ⟨f,_ | ⟨g,_ | ⟨h,_ | ⟨i,_ | ⟨j,l⟩⟩⟩⟩⟩⟩⟩⟩⟩⟩ <;> simp at hc
 kernel_rfl
theorem ZK (s:Option Nat) (a b c d e f g h i:AV) (H:AH):bk aa s 31 1 [(0,.agg [a,b,c,d,e,f,g,h,i])] H=(put s H (.cells [a,b,c,d,e,f,g,h,i] 34)).map fun p=>(.slice p.1 0 9 1 1 true,p.2):=Vc s _ rfl H
theorem ZF (s:Option Nat) (H:AH):bk aa s 91 1 [(0,.nilSlice)] H=(put s H (.cells [.nilSlice] 30)).map fun p=>(.slice p.1 0 1 1 1 true,p.2):=by kernel_rfl
theorem adq:pj aa 91 (some 91) 30 1:=⟨by kernel_rfl,⟨.nilSlice,by kernel_rfl,by kernel_rfl,by simp [AV.cells]⟩,by kernel_rfl,by kernel_rfl⟩
theorem b30:vW (aa.bytesOf 30) 1000=true:=by kernel_rfl
theorem b3':vW (aa.bytesOf 3) 1000=true:=by kernel_rfl
theorem aan (H:AH) (i k:Nat) (x:AV):stA aa 91 H i k x=if x.cells.length=1 then bh H i k x.cells else none:=by kernel_rfl
theorem yu {B i k:Nat} {v d:AV} {tm:List AV} (hi:i < B) (hk:B<=k):(tm.set k v).getD i d=tm.getD i d:=by
 rw [gde,gde,aB (by omega)]
theorem wz {K1:AH} {B:Nat} (h:K1.length=B) (L:AH) (n:Nat) (o:bl):put (some (B+n)) (K1++L) o=(put (some n) L o).map fun r=>(B+r.1,K1++r.2):=by rw [<-h]; exact bK K1 L n o
theorem Jj {S K:AH} {p mb:Nat} {iv av:AV} {ws:List AV} {mv:Nat->AV} {l:List (Itm × AV)} {A:List (List Nat)} {R:Nat->List Nat} (h:eM S K p mb iv av ws mv l A R) {tm:List AV} {Z:Option (bs × St)} (hR:EvC aa C0 W0 iR (aI [true,true,true,false,true,false,false,true,true,false,false,true,true,false,false,true,true,false,false,true,true,false] c42) (tm,K)=Z) (hlen:tm.length=111) (h3:tm.getD 3 uA=.ptr p 0) {c:Nat} {x:Itm} {va:AV} (h8:tm.getD 8 uA=.ptr c 0) (hc:S[c]? =some (.cells (aL x va) 34)) (hac:va.cells=[va]) (hao:va.one=true) (hl:l.length<=1000) (hA:A.length<=1000) :
   ∃ tm' K' iv' av',Z=some (.normal,(tm',K'))/\tm'.length=111/\(∀ i,i < 30->tm'.getD i uA=tm.getD i uA)/\eM S K' p mb iv' av' (ws++[.nilSlice]) mv (l++[(x,va)]) (A++[[]]) R:=by
 subst hR
 have hrow:∀ L,ak (K++L) c 0 9=some (aL x va):=fun L=>(h.sub.bS L).rd (by unfold ak; rw [hc]; rfl)
 have hr0:∀ L,ak (K++L) p 0 1=some [iv]:=fun L=>h.rp L 0 rfl
 have hr1:∀ L,ak (K++L) p 1 1=some [av]:=fun L=>h.rp L 1 rfl
 have hpk:(bM iv K)[p]? =some (.cells [iv,av] 93):=by rw [dp (v:=iv) (h.np 0 0)]; exact h.hp
 have hpk2:(bM av (bM iv K))[p]? =some (.cells [iv,av] 93):=by rw [dp (v:=av) (h.np 1 0)]; exact hpk
 have hr1k:∀ L,ak (bM iv K++L) p 1 1=some [av]:=fun L=>by rw [eL hpk L]; rfl
 have pk1:=fun L n o=>wz (dH iv K) L n o
 have hoil:=h.oi.lenOf
 have hoal:=h.oa.lenOf
 rw [dM (fe l),ar] at hoil
 have hlv:bA iv=l.length:=by omega
 have hla:bA av=A.length:=by rw [<-h.lw]; omega
 have hone:(aL x va).all AV.one=true:=by
   show (AV.one _ && (AV.one _ && (AV.one _ && (AV.one _ && (AV.one _ && (AV.one _ && (AV.one _ && (AV.one _ && (AV.one _ && true)))))))))=true
   rw [hao]; rfl
 have a1:=fun L=>qf GD (by decide) (K:=K) rfl h.oi (new:=aL x va) rfl hone (iD b34 (by omega)) 4 3 L
 have oa1:Ex (bM iv K) 1 30 av ws:=h.oa.lH fun b hb=>dp (v:=iv) fun e=>h.ow.dis 0 0 1 0 (by simp) b e hb
 have a2:=fun L=>qf adq (by decide) (dH iv K) oa1 (new:=[.nilSlice]) rfl rfl (iD b30 (by omega)) 8 7 L
 have w1:∀ i k e n c x L,bh (bM av (bM iv K)++L) p 0 [.slice i k e n c x]=some ((bM av (bM iv K)).set p (.cells [.slice i k e n c x,av] 93)++L):=fun i k e n c x L=>by
   rw [iu hpk2 (by simp) rfl L]; rfl
 have w2:∀ v i k e n c x L,bh ((bM av (bM iv K)).set p (.cells [v,av] 93)++L) p 1 [.slice i k e n c x]=some ((bM av (bM iv K)).set p (.cells [v,.slice i k e n c x] 93)++L):=fun v i k e n c x L=>by
   rw [iu (bH (aJ hpk2)) (by simp) rfl L,List.set_set]; rfl
 simp only [aL] at hrow a1
 simp -implicitDefEqProofs only [c42,Tryz.f42,aP,hlen,h3,h8,hrow,hr0,hr1,hr1k,pk1,a1,a2,w1,w2,ZK,ZF,aas,aan,pS,uP,Er,↓hac,↓hao,↓cK JL,Ed,dK,cm,dj,dG,ch,dJ,dc,cN,r5,↓az,nck,↓cbT,↓cbF,↓ao,an,eu,sevalprocAttr,↓ep,↓eh,↓il,↓fO,↓eo,↓fQ,↓dC,↓er,↓bV,↓bG,↓cB,↓fR,↓dD,↓ew,↓bX,↓bW,↓cC,↓d6,↓cW,dE,bK,ai,bJ,cA,cV,dF]
 refine ⟨_,_,.slice (K.length+4) 0 9 (bA iv+1) (bA iv+1) false,.slice (K.length+8) 0 1 (bA av+1) (bA av+1) false,rfl,by simp only [ls,hlen],fun i hi=>by simp only [yu hi,aK],?_⟩
 exact h.item rfl rfl
theorem Ji {S K:AH} {p mb:Nat} {iv av:AV} {ws:List AV} {mv:Nat->AV} {l:List (Itm × AV)} {A:List (List Nat)} {R:Nat->List Nat} (h:eM S K p mb iv av ws mv l A R) {tm:List AV} {Z:Option (bs × St)} (hR:EvC aa C0 W0 iR (aI [true,true,true,false,true,false,false,true,true,false,false,true,true,false,false,true,true,false,false,true,true,true,false,true,false] c42) (tm,K)=Z) (hlen:tm.length=111) (h3:tm.getD 3 uA=.ptr p 0) {n:Nat} (h9:tm.getD 9 uA=I ((n+1:Nat):Int)) (hN:A.length<=1000) (hn:n < A.length) (hl:(A.getD n []).length<=1000) :
   ∃ tm' K' ws',Z=some (.normal,(tm',K'))/\tm'.length=111/\(∀ i,i < 30->tm'.getD i uA=tm.getD i uA)/\eM S K' p mb iv av ws' mv l (A.set n (A.getD n []++[(n+1)])) R:=by
 subst hR
 obtain ⟨w,hw⟩:∃ w,w=ws.getD n .nilSlice:=⟨_,rfl⟩
 obtain ⟨ab,hav,hwr,hP⟩:=h.row (k:=(n+1:Nat)) (s:=12) hn (L:=[.fresh,.fresh,.fresh,.fresh,.fresh,.fresh,.fresh,.fresh,.fresh,.fresh,.fresh,.cells [I ((n+1:Nat):Int)] 3,.cells (iv1 (A.getD n [])++[I ((n+1:Nat):Int)]) 3,.fresh,.fresh]) rfl hw rfl
 subst hav
 have hr1:∀ L,ak (K++L) p 1 1=some [.slice ab 0 1 ws.length ws.length false]:=fun L=>h.rp L 1 rfl
 have hwp:cu w≠some p:=by rw [hw]; exact h.np 2 n
 have hpk:(bM w K)[p]? =some (.cells [iv,.slice ab 0 1 ws.length ws.length false] 93):=by rw [dp hwp]; exact h.hp
 have hr1k:∀ L,ak (bM w K++L) p 1 1=some [.slice ab 0 1 ws.length ws.length false]:=fun L=>by rw [eL hpk L]; rfl
 have pk1:=fun L n o=>wz (dH w K) L n o
 have how:=h.ow2 n
 rw [<-hw] at how
 have hwl:=how.lenOf
 rw [jj] at hwl
 have a1:=fun L=>qf Ng (by decide) (K:=K) rfl how (new:=[I ((n+1:Nat):Int)]) rfl rfl (iD b3' (by omega)) 12 11 L
 have hnw:n < ws.length:=by rw [h.lw]; exact hn
 have hab:K[ab]? =some (.cells ws 30):=by
   rcases h.oa with ⟨e,_⟩ | ⟨i,m,e,hi,_⟩
   · cases e
   · cases e; exact hi
 have hra:∀ L,ak (K++L) ab n 1=some [w]:=fun L=>by
   rw [eL hab L,if_pos (by omega),gW hnw,jJ,nz,hw,dU hnw]
 have hia:∀ kk,aD aa 91 (.slice ab 0 1 ws.length ws.length false) (.int kk (n:Int))=some (.ptr ab n):=fun kk=>by
   rw [UA,if_pos ⟨by omega,by omega,rfl⟩,cw,dz,c7]
 have hdec:IntKind.i64.wrap (((n+1:Nat):Int) - 1)=(n:Int):=by rw [show (((n+1:Nat):Int) - 1)=(n:Int) by omega]; exact IntWalk.i64_in _ (by omega)
 simp -implicitDefEqProofs only [c42,Tryz.f42,aP,hlen,h3,h9,hdec,hr1,hr1k,pk1,a1,hwr,hra,hia,Ak,Ws,pS,uP,Er,↓cK JK,Ec,dK,cm,dj,dG,ch,dJ,dc,cN,r5,↓az,nck,↓cbT,↓cbF,↓ao,an,eu,sevalprocAttr,↓ep,↓eh,↓il,↓fO,↓eo,↓fQ,↓dC,↓er,↓bV,↓bG,↓cB,↓fR,↓dD,↓ew,↓bX,↓bW,↓cC,↓d6,↓cW,dE,bK,ai,bJ,cA,cV,dF]
 exact ⟨_,_,_,rfl,by simp only [ls,hlen],fun i hi=>by simp only [yu hi,aK],hP⟩
theorem Jh {S K:AH} {p mb:Nat} {iv av:AV} {ws:List AV} {mv:Nat->AV} {l:List (Itm × AV)} {A:List (List Nat)} {R:Nat->List Nat} (h:eM S K p mb iv av ws mv l A R) {tm:List AV} {Z:Option (bs × St)} (hR:EvC aa C0 W0 iR (aI [true,true,true,true,false,true,false,false,true,true,false,false,true,true,false,true] c42) (tm,K)=Z) (hlen:tm.length=111) (h3:tm.getD 3 uA=.ptr p 0) {n j:Nat} (h10:tm.getD 10 uA=I (j:Int)) (h12:tm.getD 12 uA=I (n:Int)) (hn:n < A.length) (hl:(A.getD n []).length<=1000) :
   ∃ tm' K' ws',Z=some (.normal,(tm',K'))/\tm'.length=111/\(∀ i,i < 97->tm'.getD i uA=tm.getD i uA)/\eM S K' p mb iv av ws' mv l (A.set n (A.getD n []++[j])) R:=by
 subst hR
 obtain ⟨w,hw⟩:∃ w,w=ws.getD n .nilSlice:=⟨_,rfl⟩
 obtain ⟨ab,hav,hwr,hP⟩:=h.row (k:=(j:Nat)) (s:=10) hn (L:=[.fresh,.fresh,.fresh,.fresh,.fresh,.fresh,.fresh,.fresh,.fresh,.cells [I ((j:Nat):Int)] 3,.cells (iv1 (A.getD n [])++[I ((j:Nat):Int)]) 3,.fresh,.fresh]) rfl hw rfl
 subst hav
 have hr1:∀ L,ak (K++L) p 1 1=some [.slice ab 0 1 ws.length ws.length false]:=fun L=>h.rp L 1 rfl
 have hwp:cu w≠some p:=by rw [hw]; exact h.np 2 n
 have hpk:(bM w K)[p]? =some (.cells [iv,.slice ab 0 1 ws.length ws.length false] 93):=by rw [dp hwp]; exact h.hp
 have hr1k:∀ L,ak (bM w K++L) p 1 1=some [.slice ab 0 1 ws.length ws.length false]:=fun L=>by rw [eL hpk L]; rfl
 have pk1:=fun L n o=>wz (dH w K) L n o
 have how:=h.ow2 n
 rw [<-hw] at how
 have hwl:=how.lenOf
 rw [jj] at hwl
 have a1:=fun L=>qf Ng (by decide) (K:=K) rfl how (new:=[I ((j:Nat):Int)]) rfl rfl (iD b3' (by omega)) 10 9 L
 have hnw:n < ws.length:=by rw [h.lw]; exact hn
 have hab:K[ab]? =some (.cells ws 30):=by
   rcases h.oa with ⟨e,_⟩ | ⟨i,m,e,hi,_⟩
   · cases e
   · cases e; exact hi
 have hra:∀ L,ak (K++L) ab n 1=some [w]:=fun L=>by
   rw [eL hab L,if_pos (by omega),gW hnw,jJ,nz,hw,dU hnw]
 have hia:∀ kk,aD aa 91 (.slice ab 0 1 ws.length ws.length false) (.int kk (n:Int))=some (.ptr ab n):=fun kk=>by
   rw [UA,if_pos ⟨by omega,by omega,rfl⟩,cw,dz,c7]
 simp -implicitDefEqProofs only [c42,Tryz.f42,aP,hlen,h3,h10,h12,hr1,hr1k,pk1,a1,hwr,hra,hia,Ak,Ws,pS,uP,Er,↓cK JI,Ea,dK,cm,dj,dG,ch,dJ,dc,cN,r5,↓az,nck,↓cbT,↓cbF,↓ao,an,eu,sevalprocAttr,↓ep,↓eh,↓il,↓fO,↓eo,↓fQ,↓dC,↓er,↓bV,↓bG,↓cB,↓fR,↓dD,↓ew,↓bX,↓bW,↓cC,↓d6,↓cW,dE,bK,ai,bJ,cA,cV,dF]
 exact ⟨_,_,_,rfl,by simp only [ls,hlen],fun i hi=>by simp only [yu hi,aK],hP⟩
theorem BO {S K:AH} {p mb:Nat} {iv av:AV} {ws:List AV} {mv:Nat->AV} {l:List (Itm × AV)} {A:List (List Nat)} {R:Nat->List Nat} (h:eM S K p mb iv av ws mv l A R) {tm:List AV} {Z:Option (bs × St)} (hR:EvC aa C0 W0 iR (aI [true,true,true,false,true,false,false,true,true,false,false,true,true,false,false,true,true,false,false,true,true,true,true,true,false] c42) (tm,K)=Z) (hlen:tm.length=111) (h4:tm.getD 4 uA=.map mb) {c:Nat} {x:Itm} {va:AV} (h8:tm.getD 8 uA=.ptr c 0) (hc:S[c]? =some (.cells (aL x va) 34)) {e j:Nat} (he:x.ev=(e:Int)) (h9:tm.getD 9 uA=I (j:Int)) (hl:(R e).length<=1000) :
   ∃ tm' K' mv',Z=some (.normal,(tm',K'))/\tm'.length=111/\(∀ i,i < 30->tm'.getD i uA=tm.getD i uA)/\eM S K' p mb iv av ws mv' l A (fun x=>if x=e then R e++[j] else R x):=by
 subst hR
 have hc6:∀ G,Sub S G->∀ L,ak (G++L) c 6 1=some [I (e:Int)]:=fun G hG L=>by
   refine (hG.bS L).rd ?_
   unfold ak; rw [hc]
   show some [I x.ev]=_
   rw [he]
 obtain ⟨o,hmp,hP⟩:=h.BQ (n:=e) (k:=j) (s:=9) (L:=[.fresh,.fresh,.fresh,.fresh,.fresh,.fresh,.fresh,.fresh,.cells [I (j:Int)] 3,.cells (iv1 (R e)++[I (j:Int)]) 3,.fresh]) rfl rfl
 have s1:=pv h.sub h.ow 3 e []
 rw [af] at s1
 have hr6:=hc6 K h.sub
 have hr6k:=hc6 (bM (mv e) K) s1
 have pk1:=fun L n o=>wz (dH (mv e) K) L n o
 have hlk:=fun L=>h.hm.get e L
 have how:=h.om e
 have hwl:=how.lenOf
 rw [jj] at hwl
 have a1:=fun L=>qf Ng (by decide) (K:=K) rfl how (new:=[I (j:Int)]) rfl rfl (iD b3' (by omega)) 9 8 L
 generalize hv:AV.slice (K.length+9) 0 1 (bA (mv e)+1) (bA (mv e)+1) false=v' at *
 simp -implicitDefEqProofs only [c42,Tryz.f42,aP,hlen,h4,h8,h9,hr6,hr6k,pk1,a1,hmp,hlk,Ak,↓cK JJ,Eb,dK,cm,dj,dG,ch,dJ,dc,cN,r5,↓az,nck,↓cbT,↓cbF,↓ao,an,eu,sevalprocAttr,↓ep,↓eh,↓il,↓fO,↓eo,↓fQ,↓dC,↓er,↓bV,↓bG,↓cB,↓fR,↓dD,↓ew,↓bX,↓bW,↓cC,↓d6,↓cW,dE,bK,ai,bJ,cA,cV,dF]
 exact ⟨_,_,_,rfl,by simp only [ls,hlen],fun i hi=>by simp only [yu hi,aK],hP⟩
end Go.Dv
namespace Go.Dv
open Go.Proofs
attribute [local congr] aF bC aY bB bD
open Qu
def A1 (S:aU) (c:Nat):List (List Nat):=(bn c).map fun n=>if n+1 < c then nxt S n else []
def R1 (S:aU) (c:Nat) (e:Nat):List Nat:=(bn c).filter fun n=>((S.flatten[n]?).map fun x=>jO x (e:Int)).getD false
def A2 (S:aU) (j:Nat):List (List Nat):=(bn S.flatten.length).map (lQ S j)
theorem kQ (S:aU) (c:Nat):(A1 S c).length=c:=by unfold A1; simp
theorem Vu (S:aU) (j:Nat):(A2 S j).length=S.flatten.length:=by unfold A2; simp
theorem qj (S:aU) {c n:Nat} (h:n < c):(A1 S c)[n]? =some (if n+1 < c then nxt S n else []):=by
 unfold A1; rw [aM,gy h]; rfl
theorem HE {S:aU} {s k:Nat} {x:Qu.Item} (h:cS S s (k+1)=some x):∃ y,cS S s k=some y:=by
 unfold cS at h ⊢
 cases hs:S[s]? with
 | none=>rw [hs] at h; cases h
 | some l =>
   rw [hs] at h
   simp only [aA] at h ⊢
   exact ⟨_,aj (by have:=aJ h; omega)⟩
theorem T5 {S:aU} {s k:Nat} {x:Qu.Item} (h:cS S s k=some x):nxt S (off S s+k)=if k+1 < (S.getD s []).length then [off S s+k+1] else []:=by
 unfold nxt; rw [oF h]
theorem Km {S:aU} {n m:Nat} (h:m∈nxt S n):m=n+1/\m < S.flatten.length/\∃ s k x,cS S s (k+1)=some x/\off S s+k=n:=by
 unfold nxt at h
 cases hp:(places S)[n]? with
 | none=>rw [hp] at h; simp at h
 | some p =>
   rw [hp] at h
   simp only at h
   have hn:n < S.flatten.length:=by rw [<-oE]; exact aJ hp
   obtain ⟨q,y,h1,h2,h3,h4⟩:=kL hn
   rw [hp] at h1
   cases h1
   split at h
   · rename_i hc
     rw [bF] at h
     have hs:p.1 < S.length:=(jF h2).1
     obtain ⟨z,hz⟩:∃ z,cS S p.1 (p.2+1)=some z:=by
       unfold cS
       rw [gde,aj hs] at hc
       rw [aj hs,aA]
       exact ⟨_,aj hc⟩
     have:=oP S p.1 (p.2+1) z hz
     refine ⟨h,?_,p.1,p.2,z,hz,h4.symm⟩
     have:=aJ this
     omega
   · simp at h
theorem Kl {S:aU} {s:Nat} {x:Qu.Item} (h:cS S s 0=some x) {n:Nat} (hn:n+1=off S s):nxt S n=[]:=by
 cases hx:nxt S n with
 | nil=>rfl
 | cons m l =>
   obtain ⟨h1,_,s',k,z,hz,hoff⟩:=Km (S:=S) (n:=n) (m:=m) (by rw [hx]; simp)
   have:=(Fy hz h (by omega)).2
   omega
theorem ND {S:aU} {s:Nat} {x:Qu.Item} (h:cS S s 0=some x):A1 S (off S s+1)=A1 S (off S s)++[[]]:=by
 refine gr fun n=>?_
 rcases aX n (off S s) with c | c
 · rw [aw (by rw [kQ]; exact c),qj S (by omega),qj S c,if_pos (by omega)]
   rcases aX (n+1) (off S s) with d | d
   · rw [if_pos d]
   · rw [if_neg (by omega),Kl h (by omega)]
 · rw [al (by rw [kQ]; exact c),kQ]
   rcases ky c with d | d
   · subst d
     rw [qj S (by omega),if_neg (by omega),dR]; rfl
   · rw [aH (by rw [kQ]; omega),aH (by simp; omega)]
theorem GP (S:aU) (c:Nat):(A1 S (c+1)++[[]]).getD c []=[]:=by
 rw [gde,aw (by rw [kQ]; omega),qj S (by omega),if_neg (by omega)]; rfl
theorem NC {S:aU} {s k:Nat} {x:Qu.Item} (h:cS S s (k+1)=some x):A1 S (off S s+(k+1)+1)=(A1 S (off S s+(k+1))++[[]]).set (off S s+k) ((A1 S (off S s+(k+1))++[[]]).getD (off S s+k) []++[off S s+k+1]):=by
 obtain ⟨y,hy⟩:=HE h
 have hkl:=(jF h).2
 rw [show off S s+(k+1)=(off S s+k)+1 by omega,GP,List.nil_append]
 have hnx:=T5 hy
 rw [if_pos hkl] at hnx
 generalize off S s+k=c at *
 refine gr fun n=>?_
 rw [cL]
 by_cases e:c=n
 · subst e
   rw [if_pos rfl,qj S (by omega),if_pos (by omega),if_pos (by rw [ai,kQ]; omega),hnx]
 · rw [if_neg e]
   rcases aX n (c+1) with d | d
   · rw [aw (by rw [kQ]; exact d),qj S (by omega),qj S d,if_pos (by omega),if_pos (by omega)]
   · rw [al (by rw [kQ]; exact d),kQ]
     rcases ky d with d | d
     · subst d
       rw [qj S (by omega),if_neg (by omega),dR]; rfl
     · rw [aH (by rw [kQ]; omega),aH (by simp; omega)]
theorem GJ {S:aU} {s k:Nat} {x:Qu.Item} (h:cS S s k=some x) (e:Nat):R1 S (off S s+k+1) e=if x.kind=3/\x.event=(e:Int) then R1 S (off S s+k) e++[off S s+k] else R1 S (off S s+k) e:=by
 unfold R1
 rw [iT,mU]
 simp only [E8,oP S s k x h,cE,fq,jO]
 by_cases c:x.kind=3/\x.event=(e:Int)
 · rw [if_pos c,c.1,c.2]; simp
 · rw [if_neg c]
   have:(x.kind == 3 && x.event == (e:Int))=false:=by
     rw [Dz]
     rcases Decidable.em (x.kind=3) with h1 | h1
     · right; rw [beq_eq_false_iff_ne]; exact fun h2=>c ⟨h1,h2⟩
     · left; rw [beq_eq_false_iff_ne]; exact h1
   rw [this]; simp
theorem GK (S:aU) (e:Nat):R1 S S.flatten.length e=lW S (e:Int):=rfl
theorem Sz (S:aU) (c e:Nat):(R1 S c e).length<=c:=by
 unfold R1
 have:=lC (fun n=>((S.flatten[n]?).map fun x=>jO x (e:Int)).getD false) (bn c)
 rwa [eB] at this
theorem Vx (S:aU):A1 S S.flatten.length=A2 S 0:=by
 unfold A1 A2
 refine mm fun n hn=>?_
 rw [eP] at hn
 unfold lQ
 rw [List.range_zero,List.filter_nil,af]
 split
 · rfl
 · rename_i hc
   cases hx:nxt S n with
   | nil=>rfl
   | cons m l =>
     obtain ⟨h1,h2,_⟩:=Km (S:=S) (n:=n) (m:=m) (by rw [hx]; simp)
     omega
theorem Vw (S:aU):A2 S S.flatten.length=aft S:=rfl
theorem GO (S:aU) (j:Nat) {n:Nat} (hn:n < S.flatten.length):(A2 S j).getD n []=lQ S j n:=by
 unfold A2
 rw [gde,aM,gy hn]; rfl
theorem yV (S:aU) (j n:Nat):lQ S (j+1) n=lQ S j n++if waits S n j then [j] else []:=by
 unfold lQ
 rw [iT,mU,aG]
 congr 2
 cases h:waits S n j <;> simp [E8,h]
theorem Vv {S:aU} {j n:Nat} {y:Qu.Item} (hy:S.flatten[j]? =some y) (h4:y.kind=4) (hr:lW S y.event=[n]):n < S.flatten.length/\A2 S (j+1)=(A2 S j).set n ((A2 S j).getD n []++[j]):=by
 have hn:n < S.flatten.length:=by
   have:n∈lW S y.event:=by rw [hr]; simp
   unfold lW at this
   exact eP.1 (List.mem_filter.1 this).1
 refine ⟨hn,?_⟩
 rw [GO S j hn]
 unfold A2
 refine gr fun m=>?_
 rw [aM,cL]
 have hw:∀ m,waits S m j=decide (m=n):=fun m=>by
   unfold waits
   rw [hy]
   simp only [h4,hr]
   by_cases e:m=n
   · subst e; simp
   · simp [e,Ne.symm e]
 by_cases e:n=m
 · subst e
   rw [if_pos rfl,if_pos (by simp; simpa using hn),gy hn,cE,yV,hw n]; simp
 · rw [if_neg e,aM]
   rcases aX m S.flatten.length with c | c
   · rw [gy c,cE,cE,yV,hw m]
     simp [Ne.symm e]
   · rw [aH (by simpa using c)]; rfl
theorem GN {S:aU} {j:Nat} {y:Qu.Item} (hy:S.flatten[j]? =some y) (h:¬(y.kind=4/\(lW S y.event).length=1)):A2 S (j+1)=A2 S j:=by
 unfold A2
 refine mm fun m _=>?_
 rw [yV]
 have:waits S m j=false:=by
   unfold waits
   rw [hy]
   simp only
   rw [Dz]
   rcases Decidable.em (y.kind=4) with h1 | h1
   · right
     rw [beq_eq_false_iff_ne]
     exact fun h2=>h ⟨h1,by rw [h2]; rfl⟩
   · left; rw [beq_eq_false_iff_ne]; exact h1
 rw [this]; simp
theorem yW (S:aU) (j n:Nat):(lQ S j n).length<=j+1:=by
 unfold lQ
 rw [ai]
 have h1:(nxt S n).length<=1:=by
   unfold nxt
   cases (places S)[n]? with
   | none=>simp
   | some p=>simp only; split <;> simp
 have h2:=lC (waits S n) (bn j)
 rw [eB] at h2
 omega
theorem dY.atS {S0 K:AH} {xs:List Itm} {v:AV} (h:dY S0 xs v) (hs:Sub S0 K) {j:Nat} (hj:j < xs.length):∃ i k w,(∀ kk,aD aa 31 v (.int kk (j:Int))=some (.ptr i k))/\(∀ L,ak (K++L) i k 9=some (aL (bz xs j) w))/\SlS 32 1 S0 w ((bz xs j).args.map dw):=by
 obtain ⟨i,k,w,h1,h2,h3⟩:=h.at (au.refl S0) hj
 have:=h2 []
 rw [af] at this
 exact ⟨i,k,w,h1,fun L=>(hs.bS L).rd this,h3⟩
theorem dy.atS {S0 K:AH} {ss:List (List Itm)} {v:AV} (h:dy S0 ss v) (hs:Sub S0 K) {j:Nat} (hj:j < ss.length):∃ i k w,(∀ kk,aD aa 25 v (.int kk (j:Int))=some (.ptr i k))/\(∀ L,ak (K++L) i k 1=some [w])/\dY S0 (aW ss j) w:=by
 obtain ⟨i,k,w,h1,h2,h3⟩:=h.at (au.refl S0) hj
 have:=h2 []
 rw [af] at this
 exact ⟨i,k,w,h1,fun L=>(hs.bS L).rd this,h3⟩
theorem gS (ss:List (List Itm)):(qS ss).flatten=ss.flatten.map qi:=by unfold qS; rw [List.map_flatten]
theorem GZ {ss:List (List Itm)} {s k:Nat} (hk:k < (aW ss s).length):ss.flatten.take (off (qS ss) s+k+1)=ss.flatten.take (off (qS ss) s+k)++[bz (aW ss s) k]:=by
 have h:=oP (qS ss) s k _ (oN hk)
 rw [gS,aM] at h
 obtain ⟨y,hy,hq⟩:=ah.1 h
 have:y=bz (aW ss s) k:=by
   generalize bz (aW ss s) k=z at hq
   obtain ⟨⟩:=y
   obtain ⟨⟩:=z
   simp only [qi,Qu.Item.mk.injEq] at hq
   obtain ⟨rfl,rfl,rfl,rfl,rfl,rfl,rfl,rfl,rfl⟩:=hq
   rfl
 subst this
 rw [List.take_add_one,hy]; rfl
end Go.Dv
