/- Part 30 of the walks (own work). -/
import Derived.Test.YtilpjnckfkjkbaaGreatDoorU29
open Bool renaming and_eq_false_iff→D1,false_eq_true→bK
open Int renaming toNat_natCast→cN
open List.Nodup renaming idxOf_getElem→abt
open List renaming any_cons→cW,any_nil→dz,any_toArray→cj,any_toArray'→dn,append_assoc→aD,append_nil→af,drop_eq_getElem_cons→g7,ext_getElem?→gA,filter→FE,filter_append→m9,getElem?_append_left→ar,getElem?_append_right→al,getElem?_eq_getElem→aj,getElem?_eq_none→aE,getElem?_map→aO,getElem?_range→gE,getElem?_set→cV,getElem?_set_ne→ay,getElem?_set_self→bG,getElem?_zip_eq_some→nV,idxOf_lt_length_of_mem→mB,length_append→ai,length_filter_le→gW,length_map→ao,length_range→er,length_set→aq,map_append→dE,map_congr_left→mz,mem_range→eX,mem_singleton→bJ,range→bp,range_succ→jf,replicate_succ→cQ,replicate_zero→cG,set_append_left→gn,size_toArray→dm,take_succ_cons→jO,take_zero→nL,zip→xm
open Nat renaming add_assoc→bN,add_mul→eE,ble→wB,eq_or_lt_of_le→kJ,eq_zero_or_pos→Jc,le_refl→aw,lt_or_ge→bc,mul_one→dM,reduceLeDiff→aK,sub_self→d9,zero_add→cZ
open Option renaming bind_some→ax,getD_some→fE,map_eq_some_iff→ah,map_some→cH
open Option.some renaming inj→aB
open Go.Proofs.Tryz renaming prog→aa
set_option maxRecDepth 100000
set_option maxHeartbeats 4000000
set_option linter.unusedSimpArgs false
set_option linter.unusedVariables false
open Go.Proofs.Tryz (f42)
namespace Go.Dv
open Go.Proofs
attribute [local congr] aA bC aT bB bD
def tu (ks:List Nat) (mv:Nat->AV):List (AV × AV × Nat):=(xm ks (bp ks.length)).map fun p=>(I (p.1:Int),mv p.1,p.2)
theorem LB:lE aa 131=some (3,30):=by kernel_rfl
theorem Bx (mv:Nat->AV) (n:Nat):∀ (l:List (Nat × Nat)) (i:Nat),iQ aa 3 (.int .i64) (.int .i64 n) (l.map fun p=>(I (p.1:Int),mv p.1,p.2)) i=if (l.map (·.1)).contains n then some (some (i+(l.map (·.1)).idxOf n,mv n)) else some none
 | [],i=>rfl
 | p::l,i=>by
   have ih:=Bx mv n l (i+1)
   simp only [List.map_cons,iQ,toV,ax,JN,List.contains_cons]
   cases h:((n:Int) == (p.1:Int)) with
   | true =>
     have e:n=p.1:=by rw [beq_iff_eq] at h; exact Int.ofNat_inj.1 h
     subst e
     simp
   | false =>
     have:(n == p.1)=false:=by rw [beq_eq_false_iff_ne] at h ⊢; exact fun e=>h (by rw [e])
     have h2:(p.1 == n)=false:=by rw [beq_eq_false_iff_ne] at this ⊢; exact Ne.symm this
     rw [this]
     simp only [Bool.false_or]
     rw [ih]
     simp only [List.idxOf_cons,h2,cond_false]
     rw [show i+1+(l.map (·.1)).idxOf n=i+((l.map (·.1)).idxOf n+1) by omega]
theorem zip_fst (ks:List Nat):(xm ks (bp ks.length)).map (·.1)=ks:=List.map_fst_zip (by simp)
structure Mp (K:AH) (mb:Nat) (mv:Nat->AV):Prop where
 ex:∃ ks:List Nat,ks.Nodup/\K[mb]? =some (.map (tu ks mv) ks.length)/\∀ e,e∉ks->mv e=.nilSlice
theorem Mp.lQ {K K':AH} {mb:Nat} {mv:Nat->AV} (h:Mp K mb mv) (hk:K'[mb]? =K[mb]?):Mp K' mb mv:=by obtain ⟨ks,h1,h2,h3⟩:=h;exact ⟨ks,h1,by rw [hk]; exact h2,h3⟩
theorem Mp.get {K:AH} {mb:Nat} {mv:Nat->AV} (h:Mp K mb mv) (n:Nat) (L:AH):iJ aa 131 (.map mb) (I (n:Int)) false (K++L)=some (mv n):=by
 obtain ⟨ks,h1,h2,h3⟩:=h;have hl:=aI h2;simp only [iJ,LB,jJ,ar hl,h2,ax,OA];unfold tu;rw [Bx,zip_fst];cases hc:ks.contains n with
 | true=>rfl
 | false =>rw [h3 n (by simpa using hc)];simp only [bK,if_false,ax,z30]; rfl
theorem FG {ks:List Nat} {n:Nat} (hm:n∈ks):(ks.zip (bp ks.length))[ks.idxOf n]? =some (n,ks.idxOf n):=by have hi:ks.idxOf n < ks.length:=mB hm;exact nV.2 ⟨by rw [aj hi,List.getElem_idxOf hi],gE hi⟩
theorem LG (ks:List Nat) (mv:Nat->AV) (n:Nat) (v:AV) (hn:ks.Nodup) (hm:n∈ks):(tu ks mv).set (ks.idxOf n) (I (n:Int),v,ks.idxOf n)=tu ks (fun e=>if e=n then v else mv e):=by
 have hi:ks.idxOf n < ks.length:=mB hm;unfold tu;refine gA fun i=>?_;rw [cV,aO,aO];simp only [ao,List.length_zip,er,Nat.min_self];split
 · rename_i e;subst e;first | rw [if_pos hi] | skip
   rw [FG hm];simp only [cH,if_true]
 · rename_i e;cases hz:(ks.zip (bp ks.length))[i]? with
   | none=>rfl
   | some p =>
     obtain ⟨h1,h2⟩:=nV.1 hz;have hne:p.1≠n:=fun e2=>e (by
       have hil:=aI h1;rw [aj hil] at h1;have:ks[i]=n:=by rw [<-e2]; exact aB h1
       rw [<-this];exact (abt hn i hil))
     simp only [cH];rw [if_neg hne]
theorem Mp.put {K:AH} {mb:Nat} {mv:Nat->AV} (h:Mp K mb mv) (n:Nat) (v:AV):∃ o,(∀ L,iI aa 131 (.map mb) (I (n:Int)) v (K++L)=some (K.set mb o++L))/\Mp (K.set mb o) mb (fun e=>if e=n then v else mv e):=by
 obtain ⟨ks,h1,h2,h3⟩:=h;have hl:=aI h2;have hfind:iQ aa 3 (.int .i64) (.int .i64 n) (tu ks mv) 0=if ks.contains n then some (some (ks.idxOf n,mv n)) else some none:=by unfold tu;rw [Bx,zip_fst,cZ]
 cases hc:ks.contains n with
 | true =>
   have hm:n∈ks:=by simpa using hc
   have hi:ks.idxOf n < ks.length:=mB hm;have hg:(tu ks mv)[ks.idxOf n]? =some (I (n:Int),mv n,ks.idxOf n):=by unfold tu;rw [aO,FG hm]; rfl
   refine ⟨.map (tu ks fun e=>if e=n then v else mv e) ks.length,fun L=>?_,ks,h1,bG hl,fun e he=>?_⟩
   · simp only [iI,LB,ar hl,h2,ax,OA,hfind,hc,if_true,hg,toV,show Instr.sameBits 10000 (.int .i64 (n:Int)) (.int .i64 (n:Int))=true from by simp [Instr.sameBits]];rw [LG ks mv n v h1 hm,gn _ _ hl]
   · show (if e=n then v else mv e)=_;rw [if_neg fun e2=>he (by rw [e2]; exact hm)];exact h3 e he
 | false =>
   have hm:n∉ks:=by simpa using hc
   refine ⟨.map (tu (ks++[n]) fun e=>if e=n then v else mv e) (ks++[n]).length,fun L=>?_,ks++[n],?_,bG hl,fun e he=>?_⟩
   · simp only [iI,LB,ar hl,h2,ax,OA,hfind,hc,bK,if_false];have:tu ks mv++[(I (n:Int),v,ks.length)]=tu (ks++[n]) fun e=>if e=n then v else mv e:=by
       unfold tu;rw [ai,List.length_singleton,jf,List.zip_append (by simp),dE];congr 1
       · refine mz fun p hp=>?_;have hp1:p.1∈ks:=by have:=List.mem_map_of_mem (f:=(·.1)) hp;rwa [zip_fst] at this
         simp only;rw [if_neg fun e2=>hm (by rw [<-e2]; exact hp1)]
       · simp
     rw [this,gn _ _ hl,ai]; rfl
   · rw [List.nodup_append];exact ⟨h1,by simp,fun a ha b hb=>by rw [bJ] at hb; subst hb; exact fun e2=>hm (by rw [<-e2]; exact ha)⟩
   · rw [List.mem_append,bJ] at he;show (if e=n then v else mv e)=_;rw [if_neg fun e2=>he (.inr e2)];exact h3 e fun hh=>he (.inl hh)
def plF (iv av:AV) (ws:List AV) (mv:Nat->AV) (l:List (Itm × AV)) (A:List (List Nat)) (R:Nat->List Nat):Nat->Nat->OS
 | 0,0=>(iv,9,34,(l.map fC).flatten)
 | 1,0=>(av,1,30,ws)
 | 2,i=>(ws.getD i .nilSlice,1,3,iv1 (A.getD i []))
 | 3,e=>(mv e,1,3,iv1 (R e))
 | _,_=>(.nilSlice,1,3,[])
structure eV (S K:AH) (p mb:Nat) (iv av:AV) (ws:List AV) (mv:Nat->AV) (l:List (Itm × AV)) (A:List (List Nat)) (R:Nat->List Nat):Prop where
 sub:Sub S K
 gp:lL S p
 gm:lL S mb
 pm:p≠mb
 hp:K[p]? =some (.cells [iv,av] 93)
 hm:Mp K mb mv
 lw:ws.length=A.length
 ow:qp S K [p,mb] (plF iv av ws mv l A R)
section
variable {S K:AH} {p mb:Nat} {iv av:AV} {ws:List AV} {mv:Nat->AV} {l:List (Itm × AV)} {A:List (List Nat)} {R:Nat->List Nat}
theorem eV.pK (h:eV S K p mb iv av ws mv l A R):p < K.length:=aI h.hp
theorem eV.mK (h:eV S K p mb iv av ws mv l A R):mb < K.length:=by obtain ⟨ks,_,h2,_⟩:=h.hm; exact aI h2
theorem eV.oi (h:eV S K p mb iv av ws mv l A R):Ex K 9 34 iv (l.map fC).flatten:=h.ow.ex 0 0
theorem eV.oa (h:eV S K p mb iv av ws mv l A R):Ex K 1 30 av ws:=h.ow.ex 1 0
theorem eV.ow2 (h:eV S K p mb iv av ws mv l A R) (i:Nat):Ex K 1 3 (ws.getD i .nilSlice) (iv1 (A.getD i [])):=h.ow.ex 2 i
theorem eV.om (h:eV S K p mb iv av ws mv l A R) (e:Nat):Ex K 1 3 (mv e) (iv1 (R e)):=h.ow.ex 3 e
theorem eV.rp (h:eV S K p mb iv av ws mv l A R) (L:AH) (k:Nat) {x:AV} (hx:[iv,av][k]? =some x):ak (K++L) p k 1=some [x]:=by rw [eU h.hp L,if_pos (by have:=aI hx; simp at this ⊢; omega)];rw [g7 (aI hx),jO,nL];rw [aj (aI hx)] at hx;rw [aB hx]
theorem eV.pad (h:eV S K p mb iv av ws mv l A R) (o:bm):eV (rD S K.length o) (K++[o]) p mb iv av ws mv l A R where
 sub:=QD h.ow.sl h.sub
 gp:=uO h.ow.sl h.gp h.pK
 gm:=uO h.ow.sl h.gm h.mK
 pm:=h.pm
 hp:=by rw [ar h.pK]; exact h.hp
 hm:=h.hm.lQ (ar h.mK)
 lw:=h.lw
 ow:=h.ow.pad o
theorem eV.grow (h:eV S K p mb iv av ws mv l A R) (L:AH):eV S (K++L) p mb iv av ws mv l A R where
 sub:=h.sub.bX L
 gp:=h.gp
 gm:=h.gm
 pm:=h.pm
 hp:=by rw [ar h.pK]; exact h.hp
 hm:=h.hm.lQ (ar h.mK)
 lw:=h.lw
 ow:=h.ow.same (by simp) fun b hb _=>ar hb
theorem eV.less {S':AH} (h:eV S K p mb iv av ws mv l A R) (hs:Sub S' S) (hl:S'.length<=S.length):eV S' K p mb iv av ws mv l A R where
 sub:=hs.trans h.sub
 gp:=h.gp.sub hs
 gm:=h.gm.sub hs
 pm:=h.pm
 hp:=h.hp
 hm:=h.hm
 lw:=h.lw
 ow:={ sl:=Nat.le_trans hl h.ow.sl,xl:=h.ow.xl,ex:=h.ow.ex,dis:=h.ow.dis,own:=fun a i b hb=>⟨(h.ow.own a i b hb).1.sub hs,(h.ow.own a i b hb).2⟩ }
theorem qp.slot {X:List Nat} {f:Nat->Nat->OS} (h:qp S K X f) (a i:Nat) {L:AH} {s n:Nat} {xs:List AV} {elem es:Nat} (hs:L[s]? =some (.cells xs elem)) (hn:xs.length=n * es):qp S (bU (f a i).1 K++L) X (HF f a i (.slice (K.length+s) 0 es n n false,es,elem,xs)):=
 h.upd a i (.inr ⟨_,n,rfl,by rw [al (by rw [dQ]; omega),dQ,Nat.add_sub_cancel_left]; exact hs,hn⟩) (fun b hb=>by cases hb; right; omega) (by rw [ai,dQ]; omega) fun b hb hne=>by
   rw [ar (by rw [dQ]; exact hb),dD hne]
theorem pI {X:List Nat} {f:Nat->Nat->OS} (hs:Sub S K) (h:qp S K X f) (a i:Nat) (L:AH):Sub S (bU (f a i).1 K++L):=by
 refine Sub.bX ?_ L;unfold bU;split
 · rename_i b _ _ _ _ _ hv;exact hs.m3 (h.own a i b (by rw [hv]; rfl)).1 _
 · exact hs
end
end Go.Dv
namespace Go.Dv
open Go.Proofs
attribute [local congr] aA bC aT bB bD
theorem iY (l:List Nat):(iv1 l).length=l.length:=by unfold iv1; simp
theorem tA (l:List Nat) (k:Nat):iv1 (l++[k])=iv1 l++[I (k:Int)]:=by unfold iv1; simp
section
variable {S K:AH} {p mb:Nat} {iv av:AV} {ws:List AV} {mv:Nat->AV} {l:List (Itm × AV)} {A:List (List Nat)} {R:Nat->List Nat}
theorem eV.np (h:eV S K p mb iv av ws mv l A R) (a i:Nat):cF (plF iv av ws mv l A R a i).1≠some p:=fun e=>(h.ow.own a i p e).2 (by simp)
theorem eV.nm (h:eV S K p mb iv av ws mv l A R) (a i:Nat):cF (plF iv av ws mv l A R a i).1≠some mb:=fun e=>(h.ow.own a i mb e).2 (by simp)
theorem eV.item (h:eV S K p mb iv av ws mv l A R) {x:Itm} {va:AV} {L:AH} (h4:L[4]? =some (.cells ((l.map fC).flatten++aJ x va) 34)) (h8:L[8]? =some (.cells (ws++[.nilSlice]) 30)) :
   eV S ((bU av (bU iv K)).set p (.cells [.slice (K.length+4) 0 9 (bL iv+1) (bL iv+1) false,.slice (K.length+8) 0 1 (bL av+1) (bL av+1) false] 93)++L) p mb (.slice (K.length+4) 0 9 (bL iv+1) (bL iv+1) false) (.slice (K.length+8) 0 1 (bL av+1) (bL av+1) false) (ws++[.nilSlice]) mv (l++[(x,va)]) (A++[[]]) R:=by
 have hl8:=aI h8;have hLs:L=L.take 5++L.drop 5:=(List.take_append_drop 5 L).symm;have h4':(L.take 5)[4]? =some (.cells ((l.map fC).flatten++aJ x va) 34):=by rw [List.getElem?_take_of_lt (by omega)]; exact h4
 have h8':(L.drop 5)[3]? =some (.cells (ws++[.nilSlice]) 30):=by rw [List.getElem?_drop]; exact h8
 have hl1:((l.map fC).flatten++aJ x va).length=(bL iv+1) * 9:=by rw [ai,h.oi.lenOf,eE]; rfl
 have hl2:(ws++[AV.nilSlice]).length=(bL av+1) * 1:=by rw [ai,h.oa.lenOf,eE]; rfl
 have o1:=h.ow.slot 0 0 (n:=bL iv+1) (es:=9) h4' hl1;have s1:=pI h.sub h.ow 0 0 (L.take 5);have o2:=o1.slot 1 0 (n:=bL av+1) (es:=1) h8' hl2;have s2:=pI s1 o1 1 0 (L.drop 5);have e1:(HF (plF iv av ws mv l A R) 0 0 (.slice (K.length+4) 0 9 (bL iv+1) (bL iv+1) false,9,34,(l.map fC).flatten++aJ x va) 1 0).1=av:=rfl;have e0:(plF iv av ws mv l A R 0 0).1=iv:=rfl;have hk1:(bU iv K++L.take 5).length=K.length+5:=by rw [ai,dQ,List.length_take]; omega
 have hkk:bU av (bU iv K++L.take 5)++L.drop 5=bU av (bU iv K)++L:=by rw [z7 _ fun i hi=>by rw [dQ]; exact h.oa.lt hi,aD,<-hLs]
 rw [e0] at o1 s1 o2 s2;rw [e1,hkk] at s2;rw [e1,hkk,hk1] at o2;have hpl:p < (bU av (bU iv K)).length:=by rw [dQ,dQ]; exact h.pK
 have hml:mb < (bU av (bU iv K)).length:=by rw [dQ,dQ]; exact h.mK
 have o3:=o2.same (K':=(bU av (bU iv K)++L).set p (.cells [.slice (K.length+4) 0 9 (bL iv+1) (bL iv+1) false,.slice (K.length+8) 0 1 (bL av+1) (bL av+1) false] 93)) (by rw [aq]; exact aw _) fun b _ hb=>ay fun e=>hb (by rw [<-e]; simp);have s3:=s2.m3 h.gp (.cells [.slice (K.length+4) 0 9 (bL iv+1) (bL iv+1) false,.slice (K.length+8) 0 1 (bL av+1) (bL av+1) false] 93);rw [gn _ _ hpl] at o3 s3;refine { sub:=s3,gp:=h.gp,gm:=h.gm,pm:=h.pm,hp:=?_,hm:=h.hm.lQ ?_,lw:=by rw [ai,ai,h.lw]; rfl,ow:=o3.congr fun a i=>?_ }
 · rw [ar (by rw [aq]; exact hpl),bG hpl]
 · rw [ar (by rw [aq]; exact hml),ay h.pm,dD (v:=av) (h.nm 1 0),dD (v:=iv) (h.nm 0 0)]
 · match a,i with
   | 0,0 =>show (_,9,34,((l++[(x,va)]).map fC).flatten)=(_,9,34,(l.map fC).flatten++aJ x va);rw [dE,List.flatten_append];show (_,9,34,_++([fC (x,va)]).flatten)=_;rw [List.flatten_cons,List.flatten_nil,af]; rfl
   | 1,0=>rfl
   | 2,i =>
     show ((ws++[AV.nilSlice]).getD i .nilSlice,1,3,iv1 ((A++[[]]).getD i []))=(ws.getD i .nilSlice,1,3,iv1 (A.getD i []));have g1:(ws++[AV.nilSlice]).getD i .nilSlice=ws.getD i .nilSlice:=by
       rw [gde,gde];rcases bc i ws.length with c | c
       · rw [ar c]
       · rw [al c,aE c];rcases Jc (i - ws.length) with z | z
         · rw [z]; rfl
         · rw [aE (by simp; omega)]
     have g2:(A++[[]]).getD i []=A.getD i []:=by
       rw [gde,gde];rcases bc i A.length with c | c
       · rw [ar c]
       · rw [al c,aE c];rcases Jc (i - A.length) with z | z
         · rw [z]; rfl
         · rw [aE (by simp; omega)]
     rw [g1,g2]
   | 3,e=>rfl
   | 0,i+1=>rfl
   | 1,i+1=>rfl
   | a+4,i=>rfl
theorem eV.row (h:eV S K p mb iv av ws mv l A R) {n k s:Nat} (hn:n < A.length) {L:AH} (hs:L[s]? =some (.cells (iv1 (A.getD n [])++[I (k:Int)]) 3)) {w v':AV} (hw:w=ws.getD n .nilSlice) (hv':v'=.slice (K.length+s) 0 1 (bL w+1) (bL w+1) false) :
   ∃ ab,av=.slice ab 0 1 ws.length ws.length false/\(∀ L',bj (bU w K++L') ab n [v']=some ((bU w K).set ab (.cells (ws.set n v') 30)++L')) /\
     eV S ((bU w K).set ab (.cells (ws.set n v') 30)++L) p mb iv av (ws.set n v') mv l (A.set n (A.getD n []++[k])) R:=by
 have hnw:n < ws.length:=by rw [h.lw]; exact hn
 have ho:=h.oa;rcases ho with ⟨rfl,e2⟩ | ⟨ab,m,rfl,hab,hm⟩
 · rw [e2] at hnw; simp at hnw
 have hm':ws.length=m:=by omega
 subst hm';have habl:=aI hab;have hwne:cF w≠some ab:=fun e=>by rw [hw] at e;exact h.ow.dis 2 n 1 0 (by simp) ab e rfl
 have hkab:(bU w K)[ab]? =some (.cells ws 30):=by rw [dD hwne]; exact hab
 have hkl:ab < (bU w K).length:=by rw [dQ]; exact habl
 have hv'o:v'.one=true:=by rw [hv']; rfl
 refine ⟨ab,rfl,fun L'=>?_,?_⟩
 · rw [iF hkab (by simp; omega) (by simp [hv'o]) L']; rfl
 have hwf:(plF iv (.slice ab 0 1 ws.length ws.length false) ws mv l A R 2 n).1=w:=hw.symm;have hxl:(iv1 (A.getD n [])++[I (k:Int)]).length=(bL w+1) * 1:=by have:=(h.ow2 n).lenOf;rw [<-hw] at this;rw [ai,this,eE]; rfl
 have o1:=h.ow.slot 2 n (n:=bL w+1) (es:=1) hs hxl;have s1:=pI h.sub h.ow 2 n L;rw [hwf] at o1 s1;have hset:(bU w K++L).set ab (.cells (ws.set n v') 30)=(bU w K).set ab (.cells (ws.set n v') 30)++L:=gn _ _ hkl;have o2:=o1.upd 1 0 (K':=(bU w K).set ab (.cells (ws.set n v') 30)++L) (e:=(.slice ab 0 1 ws.length ws.length false,1,30,ws.set n v')) (.inr ⟨ab,ws.length,rfl,by rw [<-hset,bG (by rw [ai]; omega)],by rw [aq]; omega⟩) (fun b hb=>.inl (by cases hb; rfl)) (by rw [<-hset,aq]; exact aw _) fun b _ hb=>by rw [<-hset,ay fun e=>hb (by rw [<-e]; rfl)]
 have s2:=s1.m3 (h.ow.own 1 0 ab rfl).1 (.cells (ws.set n v') 30);rw [hset] at s2;have hpl:p < (bU w K).length:=by rw [dQ]; exact h.pK
 have hml:mb < (bU w K).length:=by rw [dQ]; exact h.mK
 have hpa:ab≠p:=fun e=>h.np 1 0 (by rw [<-e]; rfl);have hma:ab≠mb:=fun e=>h.nm 1 0 (by rw [<-e]; rfl);have hwp:cF w≠some p:=by rw [<-hwf]; exact h.np 2 n
 have hwm:cF w≠some mb:=by rw [<-hwf]; exact h.nm 2 n
 refine { sub:=s2,gp:=h.gp,gm:=h.gm,pm:=h.pm,hp:=?_,hm:=h.hm.lQ ?_,lw:=by rw [aq,aq]; exact h.lw,ow:=o2.congr fun a i=>?_ }
 · rw [ar (by rw [aq]; exact hpl),ay hpa,dD hwp]; exact h.hp
 · rw [ar (by rw [aq]; exact hml),ay hma,dD hwm]
 · match a,i with
   | 0,0=>rfl
   | 1,0=>rfl
   | 2,i =>
     show ((ws.set n v').getD i .nilSlice,1,3,iv1 ((A.set n (A.getD n []++[k])).getD i []))=if 2=1/\i=0 then _ else if 2=2/\i=n then _ else (ws.getD i .nilSlice,1,3,iv1 (A.getD i []))
     rw [if_neg (by simp)];rw [gde,gde,cV,cV];by_cases e:i=n
     · subst e;have hc:(2=2/\i=i):=⟨rfl,rfl⟩;rw [if_pos rfl,if_pos hnw,if_pos rfl,if_pos hn,if_pos hc,hv'];simp only [fE,tA]
     · have hc:¬(2=2/\i=n):=fun x=>e x.2;rw [if_neg (Ne.symm e),if_neg (Ne.symm e),if_neg hc,gde,gde]
   | 3,e=>rfl
   | 0,i+1=>rfl
   | 1,i+1=>rfl
   | a+4,i=>rfl
theorem eV.Cc (h:eV S K p mb iv av ws mv l A R) {n k s:Nat} {L:AH} (hs:L[s]? =some (.cells (iv1 (R n)++[I (k:Int)]) 3)) {v':AV} (hv':v'=.slice (K.length+s) 0 1 (bL (mv n)+1) (bL (mv n)+1) false) :
   ∃ o,(∀ L',iI aa 131 (.map mb) (I (n:Int)) v' (bU (mv n) K++L')=some ((bU (mv n) K).set mb o++L')) /\
     eV S ((bU (mv n) K).set mb o++L) p mb iv av ws (fun e=>if e=n then v' else mv e) l A (fun e=>if e=n then R n++[k] else R e):=by
 have hpl:p < (bU (mv n) K).length:=by rw [dQ]; exact h.pK
 have hml:mb < (bU (mv n) K).length:=by rw [dQ]; exact h.mK
 have hwp:cF (mv n)≠some p:=h.np 3 n;have hwm:cF (mv n)≠some mb:=h.nm 3 n;obtain ⟨o,ho,hM⟩:=(h.hm.lQ (K':=bU (mv n) K) (dD hwm)).put n v';refine ⟨o,ho,?_⟩;have hxl:(iv1 (R n)++[I (k:Int)]).length=(bL (mv n)+1) * 1:=by rw [ai,(h.om n).lenOf,eE]; rfl
 have o1:=h.ow.slot 3 n (n:=bL (mv n)+1) (es:=1) hs hxl;have s1:=pI h.sub h.ow 3 n L;have hwf:(plF iv av ws mv l A R 3 n).1=mv n:=rfl;rw [hwf] at o1 s1;have hset:(bU (mv n) K++L).set mb o=(bU (mv n) K).set mb o++L:=gn _ _ hml;have o2:=o1.same (K':=(bU (mv n) K).set mb o++L) (by rw [<-hset,aq]; exact aw _) fun b _ hb=>by rw [<-hset,ay fun e=>hb (by rw [<-e]; simp)]
 have s2:=s1.m3 h.gm o;rw [hset] at s2;refine { sub:=s2,gp:=h.gp,gm:=h.gm,pm:=h.pm,hp:=?_,hm:=hM.lQ (ar (by rw [aq]; exact hml)),lw:=h.lw,ow:=o2.congr fun a i=>?_ }
 · rw [ar (by rw [aq]; exact hpl),ay (Ne.symm h.pm),dD hwp]; exact h.hp
 · match a,i with
   | 0,0=>rfl
   | 1,0=>rfl
   | 2,i=>rfl
   | 3,e =>
     show ((if e=n then v' else mv e),1,3,iv1 (if e=n then R n++[k] else R e))=if 3=3/\e=n then _ else (mv e,1,3,iv1 (R e))
     by_cases c:e=n
     · subst c;have hc:(3=3/\e=e):=⟨rfl,rfl⟩;rw [if_pos rfl,if_pos rfl,if_pos hc,hv',tA]
     · have hc:¬(3=3/\e=n):=fun x=>c x.2;rw [if_neg c,if_neg c,if_neg hc]
   | 0,i+1=>rfl
   | 1,i+1=>rfl
   | a+4,i=>rfl
end
end Go.Dv
namespace Go.Dv
open Go.Proofs
attribute [local congr] aA bC aT bB bD
theorem Wr (s:Option Nat) (cs:List AV) (hc:cs.length=9) (H:AH):bn aa s 31 1 [(0,.agg cs)] H=(put s H (.cells cs 34)).map fun p=>(.slice p.1 0 9 1 1 true,p.2):=by
 rcases cs with _ | ⟨a,_ | ⟨b,_ | ⟨c,_ | ⟨d,_ | ⟨e,_ | ⟨f,_ | ⟨g,_ | ⟨h,_ | ⟨i,_ | ⟨j,l⟩⟩⟩⟩⟩⟩⟩⟩⟩⟩ <;> simp at hc
 kernel_rfl
theorem aa3 (s:Option Nat) (a b c d e f g h i:AV) (H:AH):bn aa s 31 1 [(0,.agg [a,b,c,d,e,f,g,h,i])] H=(put s H (.cells [a,b,c,d,e,f,g,h,i] 34)).map fun p=>(.slice p.1 0 9 1 1 true,p.2):=Wr s _ rfl H
theorem aaY (s:Option Nat) (H:AH):bn aa s 91 1 [(0,.nilSlice)] H=(put s H (.cells [.nilSlice] 30)).map fun p=>(.slice p.1 0 1 1 1 true,p.2):=by kernel_rfl
theorem afa:pC aa 91 (some 91) 30 1:=⟨by kernel_rfl,⟨.nilSlice,by kernel_rfl,by kernel_rfl,by simp [AV.cells]⟩,by kernel_rfl,by kernel_rfl⟩
theorem b30:wB (aa.bytesOf 30) 1000=true:=by kernel_rfl
theorem b3':wB (aa.bytesOf 3) 1000=true:=by kernel_rfl
theorem abG (H:AH) (i k:Nat) (x:AV):stA aa 91 H i k x=if x.cells.length=1 then bj H i k x.cells else none:=by kernel_rfl
theorem yI {B i k:Nat} {v d:AV} {tm:List AV} (hi:i < B) (hk:B<=k):(tm.set k v).getD i d=tm.getD i d:=by rw [gde,gde,ay (by omega)]
theorem wO {K1:AH} {B:Nat} (h:K1.length=B) (L:AH) (n:Nat) (o:bm):put (some (B+n)) (K1++L) o=(put (some n) L o).map fun r=>(B+r.1,K1++r.2):=by rw [<-h]; exact bH K1 L n o
theorem J9 {S K:AH} {p mb:Nat} {iv av:AV} {ws:List AV} {mv:Nat->AV} {l:List (Itm × AV)} {A:List (List Nat)} {R:Nat->List Nat} (h:eV S K p mb iv av ws mv l A R) {tm:List AV} {Z:Option (bk × St)} (hR:EvC aa C0 W0 jb (aH [true,true,true,false,true,false,false,true,true,false,false,true,true,false,false,true,true,false,false,true,true,false] c42) (tm,K)=Z) (hlen:tm.length=111) (h3:tm.getD 3 uA=.ptr p 0) {c:Nat} {x:Itm} {va:AV} (h8:tm.getD 8 uA=.ptr c 0) (hc:S[c]? =some (.cells (aJ x va) 34)) (hac:va.cells=[va]) (hao:va.one=true) (hl:l.length<=1000) (hA:A.length<=1000) :
   ∃ tm' K' iv' av',Z=some (.normal,(tm',K'))/\tm'.length=111/\(∀ i,i < 30->tm'.getD i uA=tm.getD i uA)/\eV S K' p mb iv' av' (ws++[.nilSlice]) mv (l++[(x,va)]) (A++[[]]) R:=by
 subst hR;have hrow:∀ L,ak (K++L) c 0 9=some (aJ x va):=fun L=>(h.sub.bX L).rd (by unfold ak; rw [hc]; rfl);have hr0:∀ L,ak (K++L) p 0 1=some [iv]:=fun L=>h.rp L 0 rfl;have hr1:∀ L,ak (K++L) p 1 1=some [av]:=fun L=>h.rp L 1 rfl;have hpk:(bU iv K)[p]? =some (.cells [iv,av] 93):=by rw [dD (v:=iv) (h.np 0 0)]; exact h.hp
 have hpk2:(bU av (bU iv K))[p]? =some (.cells [iv,av] 93):=by rw [dD (v:=av) (h.np 1 0)]; exact hpk
 have hr1k:∀ L,ak (bU iv K++L) p 1 1=some [av]:=fun L=>by rw [eU hpk L]; rfl
 have pk1:=fun L n o=>wO (dQ iv K) L n o;have hoil:=h.oi.lenOf;have hoal:=h.oa.lenOf;rw [d5 (fu l),ao] at hoil;have hlv:bL iv=l.length:=by omega
 have hla:bL av=A.length:=by rw [<-h.lw]; omega
 have hone:(aJ x va).all AV.one=true:=by show (AV.one _ && (AV.one _ && (AV.one _ && (AV.one _ && (AV.one _ && (AV.one _ && (AV.one _ && (AV.one _ && (AV.one _ && true)))))))))=true;rw [hao]; rfl
 have a1:=fun L=>qo Hp (by decide) (K:=K) rfl h.oi (new:=aJ x va) rfl hone (gY b34 (by omega)) 4 3 L;have oa1:Ex (bU iv K) 1 30 av ws:=h.oa.lQ fun b hb=>dD (v:=iv) fun e=>h.ow.dis 0 0 1 0 (by simp) b e hb;have a2:=fun L=>qo afa (by decide) (dQ iv K) oa1 (new:=[.nilSlice]) rfl rfl (gY b30 (by omega)) 8 7 L;have w1:∀ i k e n c x L,bj (bU av (bU iv K)++L) p 0 [.slice i k e n c x]=some ((bU av (bU iv K)).set p (.cells [.slice i k e n c x,av] 93)++L):=fun i k e n c x L=>by rw [iF hpk2 (by simp) rfl L]; rfl
 have w2:∀ v i k e n c x L,bj ((bU av (bU iv K)).set p (.cells [v,av] 93)++L) p 1 [.slice i k e n c x]=some ((bU av (bU iv K)).set p (.cells [v,.slice i k e n c x] 93)++L):=fun v i k e n c x L=>by rw [iF (bG (aI hpk2)) (by simp) rfl L,List.set_set]; rfl
 simp only [aJ] at hrow a1;simp -implicitDefEqProofs only [c42,f42,aP,hlen,h3,h8,hrow,hr0,hr1,hr1k,pk1,a1,a2,w1,w2,aa3,aaY,abL,abG,qd,vf,EY,↓hac,↓hao,↓cD KF,EJ,dn,cj,cW,dz,bZ,dm,cQ,cG,↓dW,↓dS,↓gK,↓eP,↓dU,↓eR,↓da,↓dX,↓bP,↓bz,↓cg,↓eT,↓de,↓dY,↓bR,↓bQ,↓ch,↓dJ,↓cJ,dg,bH,ai,bN,cd,cI,dh,↓zzC,zzE,sevalprocAttr];refine ⟨_,_,.slice (K.length+4) 0 9 (bL iv+1) (bL iv+1) false,.slice (K.length+8) 0 1 (bL av+1) (bL av+1) false,rfl,by simp only [ls,hlen],fun i hi=>by simp only [yI hi,aK],?_⟩;exact h.item rfl rfl
theorem J8 {S K:AH} {p mb:Nat} {iv av:AV} {ws:List AV} {mv:Nat->AV} {l:List (Itm × AV)} {A:List (List Nat)} {R:Nat->List Nat} (h:eV S K p mb iv av ws mv l A R) {tm:List AV} {Z:Option (bk × St)} (hR:EvC aa C0 W0 jb (aH [true,true,true,false,true,false,false,true,true,false,false,true,true,false,false,true,true,false,false,true,true,true,false,true,false] c42) (tm,K)=Z) (hlen:tm.length=111) (h3:tm.getD 3 uA=.ptr p 0) {n:Nat} (h9:tm.getD 9 uA=I ((n+1:Nat):Int)) (hN:A.length<=1000) (hn:n < A.length) (hl:(A.getD n []).length<=1000) :
   ∃ tm' K' ws',Z=some (.normal,(tm',K'))/\tm'.length=111/\(∀ i,i < 30->tm'.getD i uA=tm.getD i uA)/\eV S K' p mb iv av ws' mv l (A.set n (A.getD n []++[(n+1)])) R:=by
 subst hR;obtain ⟨w,hw⟩:∃ w,w=ws.getD n .nilSlice:=⟨_,rfl⟩;obtain ⟨ab,hav,hwr,hP⟩:=h.row (k:=(n+1:Nat)) (s:=12) hn (L:=[.fresh,.fresh,.fresh,.fresh,.fresh,.fresh,.fresh,.fresh,.fresh,.fresh,.fresh,.cells [I ((n+1:Nat):Int)] 3,.cells (iv1 (A.getD n [])++[I ((n+1:Nat):Int)]) 3,.fresh,.fresh]) rfl hw rfl;subst hav;have hr1:∀ L,ak (K++L) p 1 1=some [.slice ab 0 1 ws.length ws.length false]:=fun L=>h.rp L 1 rfl;have hwp:cF w≠some p:=by rw [hw]; exact h.np 2 n
 have hpk:(bU w K)[p]? =some (.cells [iv,.slice ab 0 1 ws.length ws.length false] 93):=by rw [dD hwp]; exact h.hp
 have hr1k:∀ L,ak (bU w K++L) p 1 1=some [.slice ab 0 1 ws.length ws.length false]:=fun L=>by rw [eU hpk L]; rfl
 have pk1:=fun L n o=>wO (dQ w K) L n o;have how:=h.ow2 n;rw [<-hw] at how;have hwl:=how.lenOf;rw [iY] at hwl;have a1:=fun L=>qo I6 (by decide) (K:=K) rfl how (new:=[I ((n+1:Nat):Int)]) rfl rfl (gY b3' (by omega)) 12 11 L;have hnw:n < ws.length:=by rw [h.lw]; exact hn
 have hab:K[ab]? =some (.cells ws 30):=by
   rcases h.oa with ⟨e,_⟩ | ⟨i,m,e,hi,_⟩
   · cases e
   · cases e; exact hi
 have hra:∀ L,ak (K++L) ab n 1=some [w]:=fun L=>by rw [eU hab L,if_pos (by omega),g7 hnw,jO,nL,hw,d6 hnw]
 have hia:∀ kk,aC aa 91 (.slice ab 0 1 ws.length ws.length false) (.int kk (n:Int))=some (.ptr ab n):=fun kk=>by rw [VK,if_pos ⟨by omega,by omega,rfl⟩,cN,dM,cZ]
 have hdec:IntKind.i64.wrap (((n+1:Nat):Int) - 1)=(n:Int):=by rw [show (((n+1:Nat):Int) - 1)=(n:Int) by omega]; exact IntWalk.i64_in _ (by omega)
 simp -implicitDefEqProofs only [c42,f42,aP,hlen,h3,h9,hdec,hr1,hr1k,pk1,a1,hwr,hra,hia,yV,XP,qd,vf,EY,↓cD KE,EI,dn,cj,cW,dz,bZ,dm,cQ,cG,↓dW,↓dS,↓gK,↓eP,↓dU,↓eR,↓da,↓dX,↓bP,↓bz,↓cg,↓eT,↓de,↓dY,↓bR,↓bQ,↓ch,↓dJ,↓cJ,dg,bH,ai,bN,cd,cI,dh,↓zzC,zzE,sevalprocAttr];exact ⟨_,_,_,rfl,by simp only [ls,hlen],fun i hi=>by simp only [yI hi,aK],hP⟩
theorem J7 {S K:AH} {p mb:Nat} {iv av:AV} {ws:List AV} {mv:Nat->AV} {l:List (Itm × AV)} {A:List (List Nat)} {R:Nat->List Nat} (h:eV S K p mb iv av ws mv l A R) {tm:List AV} {Z:Option (bk × St)} (hR:EvC aa C0 W0 jb (aH [true,true,true,true,false,true,false,false,true,true,false,false,true,true,false,true] c42) (tm,K)=Z) (hlen:tm.length=111) (h3:tm.getD 3 uA=.ptr p 0) {n j:Nat} (h10:tm.getD 10 uA=I (j:Int)) (h12:tm.getD 12 uA=I (n:Int)) (hn:n < A.length) (hl:(A.getD n []).length<=1000) :
   ∃ tm' K' ws',Z=some (.normal,(tm',K'))/\tm'.length=111/\(∀ i,i < 97->tm'.getD i uA=tm.getD i uA)/\eV S K' p mb iv av ws' mv l (A.set n (A.getD n []++[j])) R:=by
 subst hR;obtain ⟨w,hw⟩:∃ w,w=ws.getD n .nilSlice:=⟨_,rfl⟩;obtain ⟨ab,hav,hwr,hP⟩:=h.row (k:=(j:Nat)) (s:=10) hn (L:=[.fresh,.fresh,.fresh,.fresh,.fresh,.fresh,.fresh,.fresh,.fresh,.cells [I ((j:Nat):Int)] 3,.cells (iv1 (A.getD n [])++[I ((j:Nat):Int)]) 3,.fresh,.fresh]) rfl hw rfl;subst hav;have hr1:∀ L,ak (K++L) p 1 1=some [.slice ab 0 1 ws.length ws.length false]:=fun L=>h.rp L 1 rfl;have hwp:cF w≠some p:=by rw [hw]; exact h.np 2 n
 have hpk:(bU w K)[p]? =some (.cells [iv,.slice ab 0 1 ws.length ws.length false] 93):=by rw [dD hwp]; exact h.hp
 have hr1k:∀ L,ak (bU w K++L) p 1 1=some [.slice ab 0 1 ws.length ws.length false]:=fun L=>by rw [eU hpk L]; rfl
 have pk1:=fun L n o=>wO (dQ w K) L n o;have how:=h.ow2 n;rw [<-hw] at how;have hwl:=how.lenOf;rw [iY] at hwl;have a1:=fun L=>qo I6 (by decide) (K:=K) rfl how (new:=[I ((j:Nat):Int)]) rfl rfl (gY b3' (by omega)) 10 9 L;have hnw:n < ws.length:=by rw [h.lw]; exact hn
 have hab:K[ab]? =some (.cells ws 30):=by
   rcases h.oa with ⟨e,_⟩ | ⟨i,m,e,hi,_⟩
   · cases e
   · cases e; exact hi
 have hra:∀ L,ak (K++L) ab n 1=some [w]:=fun L=>by rw [eU hab L,if_pos (by omega),g7 hnw,jO,nL,hw,d6 hnw]
 have hia:∀ kk,aC aa 91 (.slice ab 0 1 ws.length ws.length false) (.int kk (n:Int))=some (.ptr ab n):=fun kk=>by rw [VK,if_pos ⟨by omega,by omega,rfl⟩,cN,dM,cZ]
 simp -implicitDefEqProofs only [c42,f42,aP,hlen,h3,h10,h12,hr1,hr1k,pk1,a1,hwr,hra,hia,yV,XP,qd,vf,EY,↓cD KC,EG,dn,cj,cW,dz,bZ,dm,cQ,cG,↓dW,↓dS,↓gK,↓eP,↓dU,↓eR,↓da,↓dX,↓bP,↓bz,↓cg,↓eT,↓de,↓dY,↓bR,↓bQ,↓ch,↓dJ,↓cJ,dg,bH,ai,bN,cd,cI,dh,↓zzC,zzE,sevalprocAttr];exact ⟨_,_,_,rfl,by simp only [ls,hlen],fun i hi=>by simp only [yI hi,aK],hP⟩
theorem Ca {S K:AH} {p mb:Nat} {iv av:AV} {ws:List AV} {mv:Nat->AV} {l:List (Itm × AV)} {A:List (List Nat)} {R:Nat->List Nat} (h:eV S K p mb iv av ws mv l A R) {tm:List AV} {Z:Option (bk × St)} (hR:EvC aa C0 W0 jb (aH [true,true,true,false,true,false,false,true,true,false,false,true,true,false,false,true,true,false,false,true,true,true,true,true,false] c42) (tm,K)=Z) (hlen:tm.length=111) (h4:tm.getD 4 uA=.map mb) {c:Nat} {x:Itm} {va:AV} (h8:tm.getD 8 uA=.ptr c 0) (hc:S[c]? =some (.cells (aJ x va) 34)) {e j:Nat} (he:x.ev=(e:Int)) (h9:tm.getD 9 uA=I (j:Int)) (hl:(R e).length<=1000) :
   ∃ tm' K' mv',Z=some (.normal,(tm',K'))/\tm'.length=111/\(∀ i,i < 30->tm'.getD i uA=tm.getD i uA)/\eV S K' p mb iv av ws mv' l A (fun x=>if x=e then R e++[j] else R x):=by
 subst hR;have hc6:∀ G,Sub S G->∀ L,ak (G++L) c 6 1=some [I (e:Int)]:=fun G hG L=>by refine (hG.bX L).rd ?_;unfold ak; rw [hc];show some [I x.ev]=_;rw [he]
 obtain ⟨o,hmp,hP⟩:=h.Cc (n:=e) (k:=j) (s:=9) (L:=[.fresh,.fresh,.fresh,.fresh,.fresh,.fresh,.fresh,.fresh,.cells [I (j:Int)] 3,.cells (iv1 (R e)++[I (j:Int)]) 3,.fresh]) rfl rfl;have s1:=pI h.sub h.ow 3 e [];rw [af] at s1;have hr6:=hc6 K h.sub;have hr6k:=hc6 (bU (mv e) K) s1;have pk1:=fun L n o=>wO (dQ (mv e) K) L n o;have hlk:=fun L=>h.hm.get e L;have how:=h.om e;have hwl:=how.lenOf;rw [iY] at hwl;have a1:=fun L=>qo I6 (by decide) (K:=K) rfl how (new:=[I (j:Int)]) rfl rfl (gY b3' (by omega)) 9 8 L;generalize hv:AV.slice (K.length+9) 0 1 (bL (mv e)+1) (bL (mv e)+1) false=v' at *;simp -implicitDefEqProofs only [c42,f42,aP,hlen,h4,h8,h9,hr6,hr6k,pk1,a1,hmp,hlk,yV,↓cD KD,EH,dn,cj,cW,dz,bZ,dm,cQ,cG,↓dW,↓dS,↓gK,↓eP,↓dU,↓eR,↓da,↓dX,↓bP,↓bz,↓cg,↓eT,↓de,↓dY,↓bR,↓bQ,↓ch,↓dJ,↓cJ,dg,bH,ai,bN,cd,cI,dh,↓zzC,zzE,sevalprocAttr];exact ⟨_,_,_,rfl,by simp only [ls,hlen],fun i hi=>by simp only [yI hi,aK],hP⟩
end Go.Dv
namespace Go.Dv
open Go.Proofs
attribute [local congr] aA bC aT bB bD
open Qu
def A1 (S:aW) (c:Nat):List (List Nat):=(bp c).map fun n=>if n+1 < c then nxt S n else []
def R1 (S:aW) (c:Nat) (e:Nat):List Nat:=(bp c).filter fun n=>((S.flatten[n]?).map fun x=>jU x (e:Int)).getD false
def A2 (S:aW) (j:Nat):List (List Nat):=(bp S.flatten.length).map (lX S j)
theorem kY (S:aW) (c:Nat):(A1 S c).length=c:=by unfold A1; simp
theorem WN (S:aW) (j:Nat):(A2 S j).length=S.flatten.length:=by unfold A2; simp
theorem qt (S:aW) {c n:Nat} (h:n < c):(A1 S c)[n]? =some (if n+1 < c then nxt S n else []):=by unfold A1; rw [aO,gE h]; rfl
theorem Iw {S:aW} {s k:Nat} {x:Qu.Item} (h:di S s (k+1)=some x):∃ y,di S s k=some y:=by
 unfold di at h ⊢;cases hs:S[s]? with
 | none=>rw [hs] at h; cases h
 | some l =>rw [hs] at h;simp only [ax] at h ⊢;exact ⟨_,aj (by have:=aI h; omega)⟩
theorem Vh {S:aW} {s k:Nat} {x:Qu.Item} (h:di S s k=some x):nxt S (off S s+k)=if k+1 < (S.getD s []).length then [off S s+k+1] else []:=by unfold nxt; rw [oP h]
theorem Lw {S:aW} {n m:Nat} (h:m∈nxt S n):m=n+1/\m < S.flatten.length/\∃ s k x,di S s (k+1)=some x/\off S s+k=n:=by
 unfold nxt at h;cases hp:(places S)[n]? with
 | none=>rw [hp] at h; simp at h
 | some p =>
   rw [hp] at h;simp only at h;have hn:n < S.flatten.length:=by rw [<-oO]; exact aI hp
   obtain ⟨q,y,h1,h2,h3,h4⟩:=kT hn;rw [hp] at h1;cases h1;split at h
   · rename_i hc;rw [bJ] at h;have hs:p.1 < S.length:=(jN h2).1;obtain ⟨z,hz⟩:∃ z,di S p.1 (p.2+1)=some z:=by unfold di;rw [gde,aj hs] at hc;rw [aj hs,ax];exact ⟨_,aj hc⟩
     have:=oZ S p.1 (p.2+1) z hz;refine ⟨h,?_,p.1,p.2,z,hz,h4.symm⟩;have:=aI this;omega
   · simp at h
theorem Lv {S:aW} {s:Nat} {x:Qu.Item} (h:di S s 0=some x) {n:Nat} (hn:n+1=off S s):nxt S n=[]:=by
 cases hx:nxt S n with
 | nil=>rfl
 | cons m l =>obtain ⟨h1,_,s',k,z,hz,hoff⟩:=Lw (S:=S) (n:=n) (m:=m) (by rw [hx]; simp);have:=(F2 hz h (by omega)).2;omega
theorem OX {S:aW} {s:Nat} {x:Qu.Item} (h:di S s 0=some x):A1 S (off S s+1)=A1 S (off S s)++[[]]:=by
 refine gA fun n=>?_;rcases bc n (off S s) with c | c
 · rw [ar (by rw [kY]; exact c),qt S (by omega),qt S c,if_pos (by omega)];rcases bc (n+1) (off S s) with d | d
   · rw [if_pos d]
   · rw [if_neg (by omega),Lv h (by omega)]
 · rw [al (by rw [kY]; exact c),kY];rcases kJ c with d | d
   · subst d;rw [qt S (by omega),if_neg (by omega),d9]; rfl
   · rw [aE (by rw [kY]; omega),aE (by simp; omega)]
theorem Hz (S:aW) (c:Nat):(A1 S (c+1)++[[]]).getD c []=[]:=by rw [gde,ar (by rw [kY]; omega),qt S (by omega),if_neg (by omega)]; rfl
theorem OW {S:aW} {s k:Nat} {x:Qu.Item} (h:di S s (k+1)=some x):A1 S (off S s+(k+1)+1)=(A1 S (off S s+(k+1))++[[]]).set (off S s+k) ((A1 S (off S s+(k+1))++[[]]).getD (off S s+k) []++[off S s+k+1]):=by
 obtain ⟨y,hy⟩:=Iw h;have hkl:=(jN h).2;rw [show off S s+(k+1)=(off S s+k)+1 by omega,Hz,List.nil_append];have hnx:=Vh hy;rw [if_pos hkl] at hnx;generalize off S s+k=c at *;refine gA fun n=>?_;rw [cV];by_cases e:c=n
 · subst e;rw [if_pos rfl,qt S (by omega),if_pos (by omega),if_pos (by rw [ai,kY]; omega),hnx]
 · rw [if_neg e];rcases bc n (c+1) with d | d
   · rw [ar (by rw [kY]; exact d),qt S (by omega),qt S d,if_pos (by omega),if_pos (by omega)]
   · rw [al (by rw [kY]; exact d),kY];rcases kJ d with d | d
     · subst d;rw [qt S (by omega),if_neg (by omega),d9]; rfl
     · rw [aE (by rw [kY]; omega),aE (by simp; omega)]
theorem Hu {S:aW} {s k:Nat} {x:Qu.Item} (h:di S s k=some x) (e:Nat):R1 S (off S s+k+1) e=if x.kind=3/\x.event=(e:Int) then R1 S (off S s+k) e++[off S s+k] else R1 S (off S s+k) e:=by
 unfold R1;rw [jf,m9];simp only [FE,oZ S s k x h,cH,fE,jU];by_cases c:x.kind=3/\x.event=(e:Int)
 · rw [if_pos c,c.1,c.2]; simp
 · rw [if_neg c];have:(x.kind == 3 && x.event == (e:Int))=false:=by
     rw [D1];rcases Decidable.em (x.kind=3) with h1 | h1
     · right; rw [beq_eq_false_iff_ne]; exact fun h2=>c ⟨h1,h2⟩
     · left; rw [beq_eq_false_iff_ne]; exact h1
   rw [this]; simp
theorem Hv (S:aW) (e:Nat):R1 S S.flatten.length e=l7 S (e:Int):=rfl
theorem TP (S:aW) (c e:Nat):(R1 S c e).length<=c:=by unfold R1;have:=gW (fun n=>((S.flatten[n]?).map fun x=>jU x (e:Int)).getD false) (bp c);rwa [er] at this
theorem WS (S:aW):A1 S S.flatten.length=A2 S 0:=by
 unfold A1 A2;refine mz fun n hn=>?_;rw [eX] at hn;unfold lX;rw [List.range_zero,List.filter_nil,af];split
 · rfl
 · rename_i hc;cases hx:nxt S n with
   | nil=>rfl
   | cons m l =>obtain ⟨h1,h2,_⟩:=Lw (S:=S) (n:=n) (m:=m) (by rw [hx]; simp);omega
theorem WQ (S:aW):A2 S S.flatten.length=aft S:=rfl
theorem Hy (S:aW) (j:Nat) {n:Nat} (hn:n < S.flatten.length):(A2 S j).getD n []=lX S j n:=by unfold A2;rw [gde,aO,gE hn]; rfl
theorem zi (S:aW) (j n:Nat):lX S (j+1) n=lX S j n++if waits S n j then [j] else []:=by unfold lX;rw [jf,m9,aD];congr 2;cases h:waits S n j <;> simp [FE,h]
theorem WO {S:aW} {j n:Nat} {y:Qu.Item} (hy:S.flatten[j]? =some y) (h4:y.kind=4) (hr:l7 S y.event=[n]):n < S.flatten.length/\A2 S (j+1)=(A2 S j).set n ((A2 S j).getD n []++[j]):=by
 have hn:n < S.flatten.length:=by
   have:n∈l7 S y.event:=by rw [hr]; simp
   unfold l7 at this;exact eX.1 (List.mem_filter.1 this).1
 refine ⟨hn,?_⟩;rw [Hy S j hn];unfold A2;refine gA fun m=>?_;rw [aO,cV];have hw:∀ m,waits S m j=decide (m=n):=fun m=>by
   unfold waits;rw [hy];simp only [h4,hr];by_cases e:m=n
   · subst e; simp
   · simp [e,Ne.symm e]
 by_cases e:n=m
 · subst e;rw [if_pos rfl,if_pos (by simp; simpa using hn),gE hn,cH,zi,hw n]; simp
 · rw [if_neg e,aO];rcases bc m S.flatten.length with c | c
   · rw [gE c,cH,cH,zi,hw m];simp [Ne.symm e]
   · rw [aE (by simpa using c)]; rfl
theorem Hx {S:aW} {j:Nat} {y:Qu.Item} (hy:S.flatten[j]? =some y) (h:¬(y.kind=4/\(l7 S y.event).length=1)):A2 S (j+1)=A2 S j:=by
 unfold A2;refine mz fun m _=>?_;rw [zi];have:waits S m j=false:=by
   unfold waits;rw [hy];simp only;rw [D1];rcases Decidable.em (y.kind=4) with h1 | h1
   · right;rw [beq_eq_false_iff_ne];exact fun h2=>h ⟨h1,by rw [h2]; rfl⟩
   · left; rw [beq_eq_false_iff_ne]; exact h1
 rw [this]; simp
theorem zj (S:aW) (j n:Nat):(lX S j n).length<=j+1:=by
 unfold lX;rw [ai];have h1:(nxt S n).length<=1:=by
   unfold nxt;cases (places S)[n]? with
   | none=>simp
   | some p=>simp only; split <;> simp
 have h2:=gW (waits S n) (bp j);rw [er] at h2;omega
theorem eD.atS {S0 K:AH} {xs:List Itm} {v:AV} (h:eD S0 xs v) (hs:Sub S0 K) {j:Nat} (hj:j < xs.length):∃ i k w,(∀ kk,aC aa 31 v (.int kk (j:Int))=some (.ptr i k))/\(∀ L,ak (K++L) i k 9=some (aJ (bo xs j) w))/\SlS 32 1 S0 w ((bo xs j).args.map dH):=by obtain ⟨i,k,w,h1,h2,h3⟩:=h.at (an.refl S0) hj;have:=h2 [];rw [af] at this;exact ⟨i,k,w,h1,fun L=>(hs.bX L).rd this,h3⟩
theorem cT.atS {S0 K:AH} {ss:List (List Itm)} {v:AV} (h:cT S0 ss v) (hs:Sub S0 K) {j:Nat} (hj:j < ss.length):∃ i k w,(∀ kk,aC aa 25 v (.int kk (j:Int))=some (.ptr i k))/\(∀ L,ak (K++L) i k 1=some [w])/\eD S0 (aM ss j) w:=by obtain ⟨i,k,w,h1,h2,h3⟩:=h.at (an.refl S0) hj;have:=h2 [];rw [af] at this;exact ⟨i,k,w,h1,fun L=>(hs.bX L).rd this,h3⟩
theorem gM (ss:List (List Itm)):(qS ss).flatten=ss.flatten.map qi:=by unfold qS; rw [List.map_flatten]
theorem HJ {ss:List (List Itm)} {s k:Nat} (hk:k < (aM ss s).length):ss.flatten.take (off (qS ss) s+k+1)=ss.flatten.take (off (qS ss) s+k)++[bo (aM ss s) k]:=by
 have h:=oZ (qS ss) s k _ (nv hk);rw [gM,aO] at h;obtain ⟨y,hy,hq⟩:=ah.1 h;have:y=bo (aM ss s) k:=by generalize bo (aM ss s) k=z at hq;obtain ⟨⟩:=y;obtain ⟨⟩:=z;simp only [qi,Qu.Item.mk.injEq] at hq;obtain ⟨rfl,rfl,rfl,rfl,rfl,rfl,rfl,rfl,rfl⟩:=hq;rfl
 subst this;rw [List.take_add_one,hy]; rfl
end Go.Dv
